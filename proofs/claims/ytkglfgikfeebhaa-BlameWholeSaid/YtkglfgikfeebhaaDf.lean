/-
  slices.DeleteFunc over cells, with the test whether a cell is gone: by this session. Conditions: as typed.
-/
import Derived.Test.YtkglfgikfeebhaaCl
import Derived.Test.YtkglfgikfeebhaaBox
namespace Go.Proofs.Ytkglfgikfeebhaa.X
open Go Go.RowKit Go.Shelf Go.Lib Go.Proofs.YtkglfgikfeebhaaW.PrintWords Go.Proofs.Ytkglfgikfeebhaa.P
set_option linter.unusedVariables false
theorem row_sh {W : World} {base : Nat} {v : Value} {xs : List S46} (h : Rc W base v xs) (hne : 0 < xs.length) : ∃ g cap cur, v = .slice (some ⟨g, 0, none⟩) xs.length cap ∧ base ≤ g ∧ W.heap[g]? = some (.cells cur 46 (0, 0)) ∧ xs.length ≤ cap ∧ cap ≤ maxLen ∧ cur.size = cap * 5 := by
  obtain ⟨_, inner, hown, hr⟩ := h
  rcases hown.2 with ⟨_, h0⟩ | ⟨g, cap, cur, rfl, hb, hh, hle, hm, hs, ht⟩
  · omega
  · exact ⟨g, cap, cur, rfl, hb, hh, hle, hm, hs⟩
/-- Behind a clearing of the end of a row. -/
theorem R_cleared {W : World} {base g n cap i : Nat} {xs : List S46} (h : Rc W base (.slice (some ⟨g, 0, none⟩) n cap) xs) (hi : i ≤ xs.length) (vs : List Value) : Rc (W.setCells g (i * 5) vs) base (.slice (some ⟨g, 0, none⟩) i cap) (xs.take i) := by
  have h' := Kd.R_take h hi
  obtain ⟨ho, inner, hown, hr⟩ := h'
  have hr2 : Reps (k46.M (W.setCells g (i * 5) vs) base (fun k => True ∧ some k ≠ Value.ownBlock (.slice (some ⟨g, 0, none⟩) i cap))) 5 (xs.take i) inner := hr.imp_ fun p c hp => by
    obtain rfl := k46_openM hp
    exact k46_mkM _ _ _ _
  refine ⟨ho, inner, ⟨hown.1, ?_⟩, hr2⟩
  rcases hown.2 with ⟨h1, h2⟩ | ⟨g', cap', cur, he, hb, hh, hle, hm, hs, ht⟩
  · cases h1
  · obtain ⟨e1, e2, e3⟩ := Value.slice.inj he
    cases e1
    subst e3
    obtain ⟨c1, hh1, hs1, hc1⟩ := rowIs_setCells vs (i * 5) W _ (⟨cur, hh, rfl, fun t ht => by show cur[t]? = some (cur[t]?.getD default); rw [Array.getElem?_eq_getElem (by omega)]; rfl⟩ : W.rowIs g 46 cur.size (fun t => cur[t]?.getD default))
    have hsz : k46.sz = 5 := rfl
    rw [hsz] at hs ht ⊢
    have hlt : (xs.take i).length = i := by rw [List.length_take, Nat.min_eq_left hi]
    refine .inr ⟨g, cap, c1, by rw [hlt], hb, hh1, hle, hm, by rw [hs1, hs], ?_⟩
    rw [← ht]
    rw [hlt] at hle ⊢
    apply List.ext_getElem?
    intro t
    rw [List.getElem?_take, List.getElem?_take]
    by_cases h5 : t < i * 5
    · have hlt2 : t < cur.size := by rw [hs]; omega
      rw [if_pos h5, if_pos h5, Array.getElem?_toList, Array.getElem?_toList, hc1 t hlt2]
      show some (if i * 5 ≤ t ∧ t < i * 5 + vs.length then vs[t - i * 5]?.getD default else cur[t]?.getD default) = cur[t]?
      rw [if_neg (by omega), Array.getElem?_eq_getElem hlt2]
      rfl
    · rw [if_neg h5, if_neg h5]
def z46V : Value := .agg #[(.int .i64 0), (.int .i64 0), (.int .i64 0), (.int .i32 0), (.bool false)]
theorem z46c : z46V.cells = #[(.int .i64 0), (.int .i64 0), (.int .i64 0), (.int .i32 0), (.bool false)] := by kernel_rfl
theorem zc_len (n : Nat) : (Builtin.zeroCells z46V.cells n).toList.length = n * 5 := by
  simp [Builtin.zeroCells, z46c]
theorem zc_one (n : Nat) : ∀ v ∈ (Builtin.zeroCells z46V.cells n).toList, v.oneCell' = true := by
  intro v hv
  unfold Builtin.zeroCells at hv
  rw [z46c] at hv
  simp only [Array.toList_map, List.mem_map] at hv
  obtain ⟨t, _, rfl⟩ := hv
  show ((#[(.int .i64 0), (.int .i64 0), (.int .i64 0), (.int .i32 0), (.bool false)] : Array Value)[t % 5]!).oneCell' = true
  have h5 : t % 5 = 0 ∨ t % 5 = 1 ∨ t % 5 = 2 ∨ t % 5 = 3 ∨ t % 5 = 4 := by omega
  rcases h5 with h | h | h | h | h <;> rw [h] <;> rfl
theorem run_clear46 (w : World) (ty : TypeId) (g o n c : Nat) (hn : 0 < n)
    (hc : ∀ j, j < n * 5 → (w.cell? ⟨g, o + j, none⟩).isSome = true) (hf : ∀ j, j < n * 5 → w.frozen? ⟨g, o + j, none⟩ = false) :
    (Builtin.clear_ #[22] ty #[.slice (some ⟨g, o, none⟩) n c]).run Try.prog w = .ok (.tuple #[]) (w.setCells g o (Builtin.zeroCells z46V.cells n).toList) := by
  have hst := run_storeCells_cells (P := Try.prog) g o (Builtin.zeroCells z46V.cells n).toList 0 w (by rw [zc_len]; simpa using hc) (by rw [zc_len]; simpa using hf) (zc_one n)
  simp only [Nat.add_zero] at hst
  obtain ⟨m, rfl⟩ : ∃ m, n = m + 1 := ⟨n - 1, by omega⟩
  have hv : ∀ w, (zeroValue 46).run Try.prog w = .ok z46V w := fun w => Try.zeroValue46 w
  simp [Builtin.clear_, run_underlying Try.underlying22, hv, hst]
/-- What is alive. -/
def liveL (l : List S46) : List S46 := l.filter fun x => !x.f3
theorem liveL_all {l : List S46} (h : ixG l = -1) : liveL l = l := by
  unfold ixG at h
  split at h
  · omega
  · rename_i hn
    exact List.filter_eq_self.2 fun x hx => by have := List.findIdx?_eq_none_iff.1 hn x hx; simp [this]
theorem ixG_some {l : List S46} (h : ixG l ≠ -1) : ∃ i : Nat, ixG l = (i : Int) ∧ ∃ hi : i < l.length, l[i].f3 = true ∧ liveL (l.take (i + 1)) = l.take i := by
  unfold ixG at *
  split at h
  · rename_i i hi
    obtain ⟨h1, h2, h3⟩ := List.findIdx?_eq_some_iff_getElem.1 hi
    refine ⟨i, rfl, h1, h2, ?_⟩
    unfold liveL
    rw [List.take_succ_eq_append_getElem h1, List.filter_append, List.filter_eq_self.2 (fun x hx => ?_)]
    · simp [h2]
    · obtain ⟨t, ht, rfl⟩ := List.mem_iff_getElem.1 hx
      rw [List.length_take] at ht
      rw [List.getElem_take]
      have := h3 t (by omega)
      simpa using this
  · exact absurd rfl h
theorem liveL_next {l : List S46} {j : Nat} {x : S46} (h : l[j]? = some x) : liveL (l.take (j + 1)) = liveL (l.take j) ++ (if x.f3 = true then [] else [x]) := by
  obtain ⟨h1, h2⟩ := List.getElem?_eq_some_iff.1 h
  unfold liveL
  rw [List.take_succ_eq_append_getElem h1, List.filter_append, h2]
  cases hd : x.f3 <;> simp [hd]
theorem w_s (i : Nat) (h : i ≤ 1000000) : wrap64 ((i : Int) + 1) = ((i + 1 : Nat) : Int) := by unfold wrap64; omega
set_option maxRecDepth 100000 in
set_option maxHeartbeats 16000000 in
theorem delf_c (base : Nat) (v : Value) (l : List S46) (w : World) (h : Rc w base v l) (hl : l.length ≤ 100000) (hbs : base ≤ w.heap.size) :
    Calls Try.prog 26 #[v, .func (.func 25) #[] #[]] w fun e w' => ∃ v', e = .returned v' ∧ Rc w' base v' (liveL l) ∧ ∀ w0, Below base w0 w → Below base w0 w' := by
  obtain ⟨A, c, rfl, hc, hC⟩ := Kd.R_reads h
  have hI := index_c A c l w hC hl
  by_cases hx : ixG l = -1
  · rw [hx] at hI
    rw [liveL_all hx]
    have HR := Lib.hid h
    obtain ⟨n, hn⟩ : ∃ n, l.length = n := ⟨_, rfl⟩
    rw [hn] at hI ⊢
    have HN := Lib.hid hn
    clear h hc hC hl hx hn
    go_enter Try.func26, Try.ntmps26
    go_wp2_with (go_at_call 34; refine hI.mono ?_; rintro e w1 ⟨rfl, hb1⟩)
    go_ret
    exact ⟨_, rfl, by have := Kd.R_below HR.out hb1; rwa [HN.out] at this, fun w0 h0 => h0.trans (hb1.mono hbs)⟩
  · obtain ⟨i0, hi0, hil, hg0, hlv⟩ := ixG_some hx
    rw [hi0] at hI
    obtain ⟨g, cap, cur, he, hbg, hh, hle, hm, hs⟩ := row_sh h (by omega)
    obtain ⟨e1, _, e3⟩ := Value.slice.inj he
    subst e1 e3
    obtain ⟨n, hn⟩ : ∃ n, l.length = n := ⟨_, rfl⟩
    have HR := Lib.hid h
    have HLV := Lib.hid hlv
    have HN := Lib.hid hn
    have hi0n : i0 < n := hn ▸ hil
    have HI0 := Lib.hid hi0n
    have HBG := Lib.hid (And.intro hbg hbs)
    rw [hn] at hI hle hl ⊢
    clear h hc hC hx hi0 hil hg0 hlv he hh hs hbg hbs hn
    have hx0 : ¬ ((i0 : Int) = -1) := by omega
    have hx1 : ((i0 : Int) == -1) = false := beq_eq_false_iff_ne.2 hx0
    have hw0 : wrap64 ((i0 : Int) + 1) = ((i0 + 1 : Nat) : Int) := by unfold wrap64; omega
    go_enter Try.func26, Try.ntmps26
    go_upto_block 0 with (go_at_call 34; refine hI.mono ?_; rintro e w1 ⟨rfl, hb1⟩; have HR1 := Lib.hid (Kd.R_below HR.out hb1); have HB1 := Lib.hid hb1; clear hI hb1)
    clear hw0 hx0 hx1 hi0n
    go_wp2
    go_loopg [5, 6] (n - (i0 + 1)) (fun q u5 u6 wr => ∃ (i j : Nat) (D : List S46), u5 = .int .i64 (i : Nat) ∧ u6 = .int .i64 (j : Nat) ∧ Aside0 (j + q = n ∧ i < j ∧ D.length = n ∧ D.take i = liveL (l.take j) ∧ D.drop j = l.drop j ∧ Rc wr base (.slice (some ⟨g, 0, none⟩) n c) D ∧ ∀ w0, Below base w0 w → Below base w0 wr))
    case atStart => exact ⟨i0, i0 + 1, l, rfl, rfl, ⟨by have := HI0.out; omega, by omega, HN.out, HLV.out.symm, rfl, by have := HR1.out; rwa [HN.out] at this, fun w0 h0 => h0.trans (HB1.out.mono HBG.out.2)⟩⟩
    case round =>
      clear HR1 HB1 HLV HR
      obtain ⟨i, j, D, rfl, rfl, HH⟩ := hrel
      obtain ⟨hjq, hij, hDl, hDt, hDd, hR, hbW⟩ := HH.out
      have HQ := Lib.hid hjq
      clear HH
      have hCD := (Kd.R_reads' hR).2.2
      have hgW : base ≤ wr.heap.size := by
        obtain ⟨g', cap', cur', he, hbg, hh, _⟩ := row_sh hR (by omega)
        obtain ⟨e1, _, _⟩ := Value.slice.inj he
        cases e1
        have := blk_lt hh
        omega
      by_cases hjn : j < n
      · have hj0 : (0 : Int) ≤ (j : Int) := by omega
        have hj1 : (j : Int) < (n : Int) := by omega
        have hjD : j < D.length := by omega
        have hjl : j < l.length := by rw [HN.out]; exact hjn
        have hDj : D[j] = l[j] := by
          have h1 := congrArg (·[0]?) hDd
          simp only [List.getElem?_drop, Nat.add_zero, List.getElem?_eq_getElem hjD, List.getElem?_eq_getElem hjl] at h1
          exact Option.some.inj h1
        obtain ⟨ad, e0, x0, x1, x2, x3, x4⟩ := at_T46 hCD (j : Int) hj0 (by rw [hDl]; exact hj1)
        cases e0
        rw [Int.toNat_natCast, rd46 D j hjD, hDj] at x0 x1 x2 x3 x4
        simp only [Addr.add_lit, Nat.zero_add] at x0 x1 x2 x3 x4
        obtain ⟨⟨⟨a1, a2⟩, a3, a4, d⟩, hx⟩ : ∃ x, l[j] = x := ⟨_, rfl⟩
        rw [hx] at x0 x1 x2 x3 x4
        replace x0 : wr.cell? ⟨g, j * 5, none⟩ = some (.int .i64 a1) := x0
        replace x1 : wr.cell? ⟨g, j * 5 + 1, none⟩ = some (.int .i64 a2) := x1
        replace x2 : wr.cell? ⟨g, j * 5 + 2, none⟩ = some (.int .i64 a3) := x2
        replace x3 : wr.cell? ⟨g, j * 5 + 3, none⟩ = some (.int .i32 a4) := x3
        replace x4 : wr.cell? ⟨g, j * 5 + 4, none⟩ = some (.bool d) := x4
        obtain ⟨ad2, cc, e2, hcl, hK, hc0⟩ := Kd.C_get hCD z46 (i : Int) (by omega) (by rw [hDl]; omega)
        cases e2
        obtain rfl := k46_open hK
        have HX := Lib.hid (show l[j]? = some (⟨⟨a1, a2⟩, a3, a4, d⟩ : S46) by rw [List.getElem?_eq_getElem hjl, hx])
        have HD := Lib.hid (And.intro hDl (And.intro hDt hDd))
        have HRr := Lib.hid hR
        have HBb := Lib.hid (And.intro hbW hgW)
        have HIJ := Lib.hid (And.intro hij hjn)
        have HCC := Lib.hid hc0
        have HW := Lib.hid (And.intro (w_s j (by omega)) (w_s i (by omega)))
        have hi0 : (0 : Int) ≤ (i : Int) := by omega
        have hi1 : (i : Int) < (n : Int) := by omega
        clear hx hDj hjD hjl hcl hK hc0 hDl hDt hDd hR hbW hgW hCD hij hjn hjq
        go_upto_region 8 with (first
          | ((with_reducible refine gate_dst (N := 7) rfl ?_); refine box_event ?hg (N := 7) ?hd (cs := #[.int .i64 0, .int .i64 0, .int .i64 0, .int .i32 0, .bool false]) (t := 46) ?hr ?_; (case hd => rfl); (case hg => rfl); (case hr => first | (go_simp; done) | (go_simp; rfl)); intro gb hgb w1 hbox hb1; have HBx := Lib.hid (And.intro hbox (And.intro hgb hb1)); have z0 := blk_cell hbox 0; have z1 := blk_cell hbox 1; have z2 := blk_cell hbox 2; have z3 := blk_cell hbox 3; have z4 := blk_cell hbox 4; have y0 := blk_frozen hbox 0; have y1 := blk_frozen hbox 1; have y2 := blk_frozen hbox 2; have y3 := blk_frozen hbox 3; have y4 := blk_frozen hbox 4; clear hbox hgb hb1))
        have hBX : Bxs wr [(gb, #[.int .i64 0, .int .i64 0, .int .i64 0, .int .i32 0, .bool false], 46)] w1 := ⟨fun x hx => by
          rcases List.mem_singleton.1 hx with rfl
          exact HBx.out.1, by simp, fun x hx => by
          rcases List.mem_singleton.1 hx with rfl
          exact Nat.le_of_eq HBx.out.2.1.symm, HBx.out.2.2⟩
        have hB1 : Bxs wr [(gb, #[.int .i64 a1, .int .i64 0, .int .i64 0, .int .i32 0, .bool false], 46)] _ := hBX.put 0 rfl 0 (.int .i64 a1)
        have hB2 : Bxs wr [(gb, #[.int .i64 a1, .int .i64 a2, .int .i64 0, .int .i32 0, .bool false], 46)] _ := hB1.put 0 rfl 1 (.int .i64 a2)
        have hB3 : Bxs wr [(gb, #[.int .i64 a1, .int .i64 a2, .int .i64 a3, .int .i32 0, .bool false], 46)] _ := hB2.put 0 rfl 2 (.int .i64 a3)
        have hB4 : Bxs wr [(gb, #[.int .i64 a1, .int .i64 a2, .int .i64 a3, .int .i32 a4, .bool false], 46)] _ := hB3.put 0 rfl 3 (.int .i32 a4)
        have hB5 : Bxs wr [(gb, #[.int .i64 a1, .int .i64 a2, .int .i64 a3, .int .i32 a4, .bool d], 46)] _ := hB4.put 0 rfl 4 (.bool d)
        obtain ⟨w2, hw2⟩ : ∃ x, (((((w1.setCell ⟨gb, 0, none⟩ (.int .i64 a1)).setCell ⟨gb, 1, none⟩ (.int .i64 a2)).setCell ⟨gb, 2, none⟩ (.int .i64 a3)).setCell ⟨gb, 3, none⟩ (.int .i32 a4)).setCell ⟨gb, 4, none⟩ (.bool d)) = x := ⟨_, rfl⟩
        rw [hw2] at hB5 ⊢
        have r0 : w2.cell? ⟨gb, 0, none⟩ = some (.int .i64 a1) := hB5.cell 0 rfl 0
        have r1 : w2.cell? ⟨gb, 1, none⟩ = some (.int .i64 a2) := hB5.cell 0 rfl 1
        have r2 : w2.cell? ⟨gb, 2, none⟩ = some (.int .i64 a3) := hB5.cell 0 rfl 2
        have r3 : w2.cell? ⟨gb, 3, none⟩ = some (.int .i32 a4) := hB5.cell 0 rfl 3
        have r4 : w2.cell? ⟨gb, 4, none⟩ = some (.bool d) := hB5.cell 0 rfl 4
        have HB2 := Lib.hid hB5.below
        clear hBX hB1 hB2 hB3 hB4 hB5 HBx hw2 z0 z1 z2 z3 z4 y0 y1 y2 y3 y4 x0 x1 x2 x3 x4
        cases d with
        | true =>
          go_wp2_with (go_at_call 25; refine (gone_w _ _ _ _ _ _).mono ?_; rintro e w3 ⟨rfl, hb3⟩)
          go_roundg (n - (j + 1))
          case measure => have := HQ.out; have := HIJ.out.2; omega
          case rel => exact ⟨i, j + 1, D, rfl, by first | rfl | (rw [HW.out.1]), ⟨by have := HIJ.out.2; omega, by have := HIJ.out.1; omega, HD.out.1, by rw [liveL_next HX.out, if_pos rfl, List.append_nil]; exact HD.out.2.1, by
              have := congrArg (List.drop 1) HD.out.2.2
              rwa [List.drop_drop, List.drop_drop] at this, Kd.R_below HRr.out (below_step HB2.out hb3), fun w0 h0 => (HBb.out.1 w0 h0).trans ((below_step HB2.out hb3).mono HBb.out.2)⟩⟩
        | false =>
          go_upto_region 9 with (go_at_call 25; refine (gone_w _ _ _ _ _ _).mono ?_; rintro e w3 ⟨rfl, hb3⟩)
          have s0 := (hb3.cell (World.block_lt_of_cell? _ _ r0)).trans r0
          have s1 := (hb3.cell (World.block_lt_of_cell? _ _ r1)).trans r1
          have s2 := (hb3.cell (World.block_lt_of_cell? _ _ r2)).trans r2
          have s3 := (hb3.cell (World.block_lt_of_cell? _ _ r3)).trans r3
          have s4 := (hb3.cell (World.block_lt_of_cell? _ _ r4)).trans r4
          have HB3 := Lib.hid (below_step HB2.out hb3)
          have HR3 := Lib.hid (Kd.R_below HRr.out HB3.out)
          clear r0 r1 r2 r3 r4 hb3 HB2
          go_wp2_with ((with_reducible refine gate_store (t := 46) (p := 33) rfl ?_); refine Kd.R_store k46 (w0 := w3) base rfl rfl 46 (.tmp 33) (.tmp 32) rfl 46 (g := g) (n := n) (cap := c) (o' := i * 5) (i : Int) 0 D (⟨⟨a1, a2⟩, a3, a4, false⟩ : S46) (.agg #[.int .i64 a1, .int .i64 a2, .int .i64 a3, .int .i32 a4, .bool false]) [.int .i64 a1, .int .i64 a2, .int .i64 a3, .int .i32 a4, .bool false] _ (fun _ => True) (fun _ => False) rfl rfl rfl rfl (by kernel_rfl) (by simp [Value.oneCell']) HR3.out hi0 hi1 rfl (fun q u hu => by have h9 := (HB3.out.cell (World.block_lt_of_cell? _ _ (HCC.out q u hu))).trans (HCC.out q u hu); rwa [Addr.add_lit, Nat.zero_add] at h9) (show (5 : Nat) ≤ 5 by decide) (k46_mkM _ _ _ _) (fun _ h => h.elim) (Below.refl _ _) ?_; intro w4 hR4 hb4 hg4)
          go_roundg (n - (j + 1))
          case measure => have := HQ.out; have := HIJ.out.2; omega
          case rel => exact ⟨i + 1, j + 1, D.set i ⟨⟨a1, a2⟩, a3, a4, false⟩, by first | rfl | (rw [HW.out.2]), by first | rfl | (rw [HW.out.1]), ⟨by have := HIJ.out.2; omega, by have := HIJ.out.1; omega, by rw [List.length_set]; exact HD.out.1, by
              have hi : i < D.length := by have := HD.out.1; have := HIJ.out; omega
              rw [liveL_next HX.out, ← HD.out.2.1, List.take_succ_eq_append_getElem (by rw [List.length_set]; exact hi), List.getElem_set_self, List.take_set_of_le (Nat.le_refl _)]
              rfl, by
              have := congrArg (List.drop 1) HD.out.2.2
              rw [List.drop_drop, List.drop_drop] at this
              rw [List.drop_set_of_lt (by have := HIJ.out.1; omega)]
              exact this, hR4, fun w0 h0 => ((HBb.out.1 w0 h0).trans (HB3.out.mono HBb.out.2)).trans hb4⟩⟩
      · have hj1 : ¬ (j : Int) < (n : Int) := by omega
        have hjn2 : j = n := by omega
        have hic : ¬ c = i := by omega
        have hin : i ≤ n := by omega
        obtain ⟨g', cap', cur', he, hbg, hh, hle', hm', hs'⟩ := row_sh hR (by omega)
        obtain ⟨e1, e2, e3⟩ := Value.slice.inj he
        clear e2
        cases e1
        subst e3
        have hcl : ∀ ty, (Builtin.clear_ #[22] ty #[.slice (some ⟨g, i * 5, none⟩) (n - i) (c - i)]).run Try.prog wr = .ok (.tuple #[]) (wr.setCells g (i * 5) (Builtin.zeroCells z46V.cells (n - i)).toList) :=
          fun ty => run_clear46 wr ty g (i * 5) (n - i) (c - i) (by omega) (fun t ht => by rw [blk_cell hh, Array.getElem?_eq_getElem (by rw [hs']; omega)]; rfl) (fun t ht => blk_frozen hh _)
        obtain ⟨i1, hi1, _, hsz1, _⟩ := info_parts info46
        have hct1 := fun W => cut_to (P := Try.prog) 22 46 .i64 Try.underlying22 hi1 (some ⟨g, 0, none⟩) n c (i : Int) (by omega) (by omega) hle W
        have hct2 := fun W => cut_from (P := Try.prog) 22 46 .i64 Try.underlying22 hi1 5 hsz1 (some ⟨g, 0, none⟩) n c (i : Int) (by omega) (by omega) W
        simp only [Int.toNat_natCast, if_neg hic, Option.map_some, Addr.add_lit, Nat.zero_add] at hct1 hct2
        have hRc := R_cleared hR (by rw [hDl]; exact hin) (Builtin.zeroCells z46V.cells (n - i)).toList
        rw [hDt, hjn2, ← HN.out, List.take_length, HN.out] at hRc
        have hBf : ∀ w0, Below base w0 w → Below base w0 (wr.setCells g (i * 5) (Builtin.zeroCells z46V.cells (n - i)).toList) := fun w0 h0 => below_setCells hbg _ _ _ (hbW w0 h0)
        obtain ⟨W5, hW5⟩ : ∃ x, wr.setCells g (i * 5) (Builtin.zeroCells z46V.cells (n - i)).toList = x := ⟨_, rfl⟩
        rw [hW5] at hcl hRc hBf
        have HF := Lib.hid (And.intro hRc hBf)
        clear hRc hBf hW5 hi1 hsz1 hR hbW hDl hDt hDd hCD hgW hh hs' hm' hbg he hjq hle' hjn2
        go_wp2
        go_ret
        exact ⟨_, rfl, HF.out.1, HF.out.2⟩
end Go.Proofs.Ytkglfgikfeebhaa.X
