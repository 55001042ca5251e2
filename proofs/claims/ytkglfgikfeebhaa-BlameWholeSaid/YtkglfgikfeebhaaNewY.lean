/-
  cells.New, walked by hand, where it makes a document: by this session. Conditions: at most 20000 cells.
-/
import Derived.Test.YtkglfgikfeebhaaNew
import Derived.Test.YtkglfgikfeebhaaCount
import Derived.Test.YtkglfgikfeebhaaRound
import Derived.Test.YtkglfgikfeebhaaIter
import Derived.RangeFuncNested
import Derived.RangeFuncBound
import Derived.RangeFuncCalls
import Derived.RangeFuncLeaves
import Derived.Shelf.Abstract
import Derived.Shelf.RegionOpen
import Derived.WalkKit
import Derived.OwnWalkIn
import Derived.TacticsInMore
import Derived.LoopNIn
import Derived.LoopIn
namespace Go.Proofs.Ytkglfgikfeebhaa.X
open Go Go.RowKit Go.Shelf Go.Lib Go.Maps Go.WideMaps Go.Proofs.YtkglfgikfeebhaaW.PrintLast Go.Proofs.YtkglfgikfeebhaaW.PrintWords Go.Proofs.Ytkglfgikfeebhaa.P
set_option linter.unusedVariables false
attribute [local go_sem] Oper.semAt_some
theorem five (W : World) (o0 o1 o2 o3 o4 : Obj) : ∀ Wc, ((((W.alloc o0).alloc o1).alloc o2).alloc o3).alloc o4 = Wc → Wc.heap[W.heap.size]? = some o0 ∧ Wc.heap[W.heap.size + 1]? = some o1 ∧ Wc.heap[W.heap.size + 2]? = some o2 ∧ Wc.heap[W.heap.size + 3]? = some o3 ∧ Wc.heap[W.heap.size + 4]? = some o4 ∧ Wc.heap.size = W.heap.size + 5 ∧ Below W.heap.size W Wc := by
  rintro Wc rfl
  refine ⟨?_, ?_, ?_, ?_, ?_, by simp only [World.size_alloc], below_alloc (below_alloc (below_alloc (below_alloc (below_alloc (Below.refl _ _) _) _) _) _) _⟩
  · rw [Below.heap_alloc _ _ _ (by simp only [World.size_alloc]; omega), Below.heap_alloc _ _ _ (by simp only [World.size_alloc]; omega), Below.heap_alloc _ _ _ (by simp only [World.size_alloc]; omega), Below.heap_alloc _ _ _ (by simp only [World.size_alloc]; omega)]
    have := World.alloc_heap_new W o0
    exact this
  · rw [Below.heap_alloc _ _ _ (by simp only [World.size_alloc]; omega), Below.heap_alloc _ _ _ (by simp only [World.size_alloc]; omega), Below.heap_alloc _ _ _ (by simp only [World.size_alloc]; omega)]
    have := World.alloc_heap_new (W.alloc o0) o1
    simp only [World.size_alloc] at this
    exact this
  · rw [Below.heap_alloc _ _ _ (by simp only [World.size_alloc]; omega), Below.heap_alloc _ _ _ (by simp only [World.size_alloc]; omega)]
    have := World.alloc_heap_new ((W.alloc o0).alloc o1) o2
    simp only [World.size_alloc] at this
    exact this
  · rw [Below.heap_alloc _ _ _ (by simp only [World.size_alloc]; omega)]
    have := World.alloc_heap_new (((W.alloc o0).alloc o1).alloc o2) o3
    simp only [World.size_alloc] at this
    exact this
  · have := World.alloc_heap_new ((((W.alloc o0).alloc o1).alloc o2).alloc o3) o4
    simp only [World.size_alloc] at this
    exact this
/-- Rows of pointers to blocks of one's own. -/
def kP : Kd Nat := Kd.scalar (fun g : Nat => Value.pointer (some ⟨g, 0, none⟩)) (fun _ => rfl)
theorem info_ptr : (Try.prog.info? 83).map (fun i => (i.zero, i.size, i.bytes)) = some (some (.pointer none), 1, 8) := by kernel_rfl
/-- What the loop over the chunks keeps: the document's block. -/
def DocI (w : World) (s k : Nat) (W : World) : Prop :=
  (∃ (v : Value) (gs : List Nat), W.heap[s + 1]? = some (.cells #[v, .map (some s)] 79 (0, 0)) ∧ Kd.R kP 83 W (s + 5) (fun _ => True) v gs ∧ gs.length = k) ∧ W.heap[s]? = some (.map #[] 0) ∧ W.heap[s + 2]? = some (.cells #[.pointer (some ⟨s + 1, 0, none⟩)] 65 (0, 0)) ∧ s + 5 ≤ W.heap.size ∧ Below w.heap.size w W
set_option maxRecDepth 100000 in
set_option maxHeartbeats 16000000 in
/-- It makes one. -/
theorem new_yes (A : Option Addr) (c : Nat) (l : List S46) (w : World) (hC : Kd.C k46 w A l.length l) (hc : l.length ≤ c) (hl : l.length ≤ 20000) (hz : codeN l = 0) :
    Calls Try.prog 24 #[.slice A l.length c] w fun e w' => ∃ p, e = .returned (.tuple #[.pointer p, .int .i64 0]) ∧ Below w.heap.size w w' := by
  have hmm := @run_makeMap Try.prog
  obtain ⟨n, hn⟩ : ∃ n, l.length = n := ⟨_, rfl⟩
  have HC := Lib.hid hC
  have HN := Lib.hid hn
  have HZ := Lib.hid hz
  rw [hn] at hl hc ⊢
  have HLC := Lib.hid hc
  clear hC hc hn hz
  refine (callsIn_wide (n := 8)).1 ?_
  refine callsIn_of_wp_marks Try.func24 rfl trivial ?_ rfl
  simp only [Try.ntmps24, List.size_toArray, List.length_cons, List.length_nil, Nat.reduceAdd, Nat.reduceSub, Array.replicate_succ, Array.replicate_zero, List.push_toArray, List.append_toArray, List.nil_append, List.cons_append]
  refine wpIn_wide.2 ?_
  go_upto_region 2 with fail
  have hM0 : (w.alloc (.map #[] 0)).ownsMap Try.prog 75 (plainElem Try.prog 3) w.heap.size 0 (.map [] : DataW Unit) := World.ownsMap_made _ _ _ _
  have hb0 : Below w.heap.size w (w.alloc (.map #[] 0)) := below_alloc (Below.refl _ _) _
  obtain ⟨W0, hW0⟩ : ∃ x, w.alloc (.map #[] 0) = x := ⟨_, rfl⟩
  rw [hW0] at hM0 hb0 ⊢
  obtain ⟨bm, hbm⟩ : ∃ x, w.heap.size = x := ⟨_, rfl⟩
  have HBM := Lib.hid hbm
  rw [hbm] at hM0 ⊢
  clear hW0 hbm
  go_wp2
  go_loopg [14] n (fun q u14 wr => ∃ i : Nat, u14 = .int .i64 (i : Nat) ∧ Aside0 (i + q = n ∧ (∀ x ∈ l.take i, mayB x = true) ∧ (∃ D : DataW Unit, wr.ownsMap Try.prog 75 (plainElem Try.prog 3) bm i D ∧ Seen D ((l.take i).map kC)) ∧ Below w.heap.size w wr))
  case atStart => exact ⟨0, rfl, ⟨by omega, by simp, ⟨_, hM0, Seen.none⟩, hb0⟩⟩
  case round =>
    obtain ⟨i, rfl, HR⟩ := hrel
    clear hM0 hb0
    have HI := Lib.hid HR.out.1
    have HF := Lib.hid HR.out.2.1
    obtain ⟨⟨D, hM, hSn⟩, hb⟩ := HR.out.2.2
    clear HR
    by_cases hik : i < n
    · have hi0 : (0 : Int) ≤ (i : Int) := by omega
      have hi1 : (i : Int) < (n : Int) := by omega
      have hil : i < l.length := by rw [HN.out]; exact hik
      obtain ⟨ad, e0, x0, x1, x2, x3, x4⟩ := at_T46 HC.out (i : Int) hi0 (by rw [HN.out]; exact hi1)
      cases e0
      replace x0 := (hb.cell (World.block_lt_of_cell? w _ x0)).trans x0
      replace x1 := (hb.cell (World.block_lt_of_cell? w _ x1)).trans x1
      replace x2 := (hb.cell (World.block_lt_of_cell? w _ x2)).trans x2
      replace x3 := (hb.cell (World.block_lt_of_cell? w _ x3)).trans x3
      replace x4 := (hb.cell (World.block_lt_of_cell? w _ x4)).trans x4
      rw [Int.toNat_natCast, rd46 l i hil] at x0 x1 x2 x3 x4
      obtain ⟨⟨⟨a1, a2⟩, a3, a4, d⟩, hx⟩ : ∃ x, l[i] = x := ⟨_, rfl⟩
      have HX := Lib.hid (show l[i]? = some (⟨⟨a1, a2⟩, a3, a4, d⟩ : S46) by rw [List.getElem?_eq_getElem hil, hx])
      rw [hx] at x0 x1 x2 x3 x4
      replace x0 : wr.cell? _ = some (.int .i64 a1) := x0
      replace x1 : wr.cell? _ = some (.int .i64 a2) := x1
      replace x2 : wr.cell? _ = some (.int .i64 a3) := x2
      replace x3 : wr.cell? _ = some (.int .i32 a4) := x3
      replace x4 : wr.cell? _ = some (.bool d) := x4
      have hMay := fun W => cells_mayCell.calls a1 a2 a3 a4 d _ W (mayB_f a1 a2 a3 a4 d)
      obtain ⟨ok, hok⟩ : ∃ ok, mayB ⟨⟨a1, a2⟩, a3, a4, d⟩ = ok := ⟨_, rfl⟩
      rw [hok] at hMay
      have HOK := Lib.hid hok
      have HM := Lib.hid (And.intro hM hSn)
      have HB := Lib.hid hb
      have HW := Lib.hid (w_s i (by omega))
      clear hx hil hok hM hSn hb
      go_upto_region 5 with (first
        | ((with_reducible refine gate_dst (N := 6) rfl ?_); refine box_event ?hg (N := 6) ?hd (cs := #[.int .i64 0, .int .i64 0, .int .i64 0, .int .i32 0, .bool false]) (t := 46) ?hr ?_; (case hd => rfl); (case hg => rfl); (case hr => first | (go_simp; done) | (go_simp; rfl)); intro gb hgb w1 hbox hb1; have HBx := Lib.hid (And.intro hbox (And.intro hgb hb1)); have z0 := blk_cell hbox 0; have z1 := blk_cell hbox 1; have z2 := blk_cell hbox 2; have z3 := blk_cell hbox 3; have z4 := blk_cell hbox 4; have y0 := blk_frozen hbox 0; have y1 := blk_frozen hbox 1; have y2 := blk_frozen hbox 2; have y3 := blk_frozen hbox 3; have y4 := blk_frozen hbox 4; clear hbox hgb hb1))
      have hBX : Bxs wr [(gb, #[.int .i64 0, .int .i64 0, .int .i64 0, .int .i32 0, .bool false], 46)] w1 := ⟨fun x hx => by
        rcases List.mem_singleton.1 hx with rfl
        exact HBx.out.1, by simp, fun x hx => by
        rcases List.mem_singleton.1 hx with rfl
        exact Nat.le_of_eq HBx.out.2.1.symm, HBx.out.2.2⟩
      have hB1 : Bxs wr [(gb, #[.int .i64 a1, .int .i64 0, .int .i64 0, .int .i32 0, .bool false], 46)] _ := hBX.put 0 rfl 0 (.int .i64 a1)
      have hB2 : Bxs wr [(gb, #[.int .i64 a1, .int .i64 a2, .int .i64 0, .int .i32 0, .bool false], 46)] _ := hB1.put 0 rfl 1 (.int .i64 a2)
      have hB3 : Bxs wr [(gb, #[.int .i64 a1, .int .i64 a2, .int .i64 a3, .int .i32 0, .bool false], 46)] _ := hB2.put 0 rfl 2 (.int .i64 a3)
      have hB4 : Bxs wr [(gb, #[.int .i64 a1, .int .i64 a2, .int .i64 a3, .int .i32 a4, .bool false], 46)] _ := hB3.put 0 rfl 3 (.int .i32 a4)
      have hB5 : Bxs wr [(gb, #[.int .i64 a1, .int .i64 a2, .int .i64 a3, .int .i32 a4, .bool d], 46)] _ := hB4.put 0 rfl 4 (.bool d)
      obtain ⟨w2, hw2⟩ : ∃ x, (((((w1.setCell ⟨gb, 0, none⟩ (.int .i64 a1)).setCell ⟨gb, 1, none⟩ (.int .i64 a2)).setCell ⟨gb, 2, none⟩ (.int .i64 a3)).setCell ⟨gb, 3, none⟩ (.int .i32 a4)).setCell ⟨gb, 4, none⟩ (.bool d)) = x := ⟨_, rfl⟩
      rw [hw2] at hB5 ⊢
      have r0 : w2.cell? ⟨gb, 0, none⟩ = some (.int .i64 a1) := hB5.cell 0 rfl 0
      have r1 : w2.cell? ⟨gb, 1, none⟩ = some (.int .i64 a2) := hB5.cell 0 rfl 1
      have r2 : w2.cell? ⟨gb, 2, none⟩ = some (.int .i64 a3) := hB5.cell 0 rfl 2
      have r3 : w2.cell? ⟨gb, 3, none⟩ = some (.int .i32 a4) := hB5.cell 0 rfl 3
      have r4 : w2.cell? ⟨gb, 4, none⟩ = some (.bool d) := hB5.cell 0 rfl 4
      have HB5 := Lib.hid hB5
      clear hBX hB1 hB2 hB3 hB4 hB5 HBx hw2 z0 z1 z2 z3 z4 y0 y1 y2 y3 y4 x0 x1 x2 x3 x4
      cases ok with
      | false => exact absurd (codeN_bad HX.out HOK.out) (by rw [HZ.out]; decide)
      | true =>
        go_upto_region 7 with (go_at_call 31; refine (hMay _).mono ?_; rintro e w3 ⟨rfl, hb3⟩)
        have hB6 := HB5.out.keep hb3
        have s0 : w3.cell? ⟨gb, 0, none⟩ = some (.int .i64 a1) := hB6.cell 0 rfl 0
        have s1 : w3.cell? ⟨gb, 1, none⟩ = some (.int .i64 a2) := hB6.cell 0 rfl 1
        have s2 : w3.cell? ⟨gb, 2, none⟩ = some (.int .i64 a3) := hB6.cell 0 rfl 2
        have hwf : (Lit.int .i64 a1).wf = true ∧ (Lit.int .i64 a2).wf = true ∧ (Lit.int .i64 a3).wf = true := by
          have h := HOK.out
          simp only [mayB, Bool.and_eq_true, decide_eq_true_eq] at h
          exact ⟨wf64 (by omega) (by omega), wf64 (by omega) (by omega), wf64 (by omega) (by omega)⟩
        obtain ⟨kl, hkl⟩ := key_id a1 a2 a3 hwf.1 hwf.2.1 hwf.2.2
        have hbmw : bm < wr.heap.size := HM.out.1.lt
        have hM3 : w3.drew.ownsMap Try.prog 75 (plainElem Try.prog 3) bm i D := owns_same HM.out.1 (hB6.below.block bm hbmw)
        obtain ⟨cv, v0, st, W1, W2, hlk, hme, hlk1, hes, hM4, hg1, hg2⟩ := map_inc law_id Try.underlying73 hM3 (by unfold maxLen; omega) hkl
        have HM4 := Lib.hid hM4
        have HG2 := Lib.hid hg2
        have HB7 := Lib.hid (And.intro hB6 hbmw)
        have HKL := Lib.hid hkl
        clear r0 r1 r2 r3 r4 hwf hM3 hM4 hg2 hB6 hbmw hkl hg1
        obtain ⟨cw, hcw⟩ : ∃ cw, wrap64 (cv + 1) = cw := ⟨_, rfl⟩
        rw [hcw] at hes
        go_region
        go_wp2
        go_roundg (n - (i + 1))
        case measure => have := HI.out; omega
        case rel =>
          refine ⟨i + 1, by first | rfl | (rw [HW.out]), ⟨by have := HI.out; omega, fun x hx => ?_, ⟨_, HM4.out, ?_⟩, ?_⟩⟩
          · obtain ⟨h1, h2⟩ := List.getElem?_eq_some_iff.1 HX.out
            rw [List.take_succ_eq_append_getElem h1, h2] at hx
            rcases List.mem_append.1 hx with hx | hx
            · exact HF.out x hx
            · rw [List.mem_singleton.1 hx]
              exact HOK.out
          · obtain ⟨h1, h2⟩ := List.getElem?_eq_some_iff.1 HX.out
            rw [List.take_succ_eq_append_getElem h1, h2, List.map_append]
            have h9 : keyOf Try.prog 75 (kV (a1, a2, a3)) = some kl := HKL.out
            have h8 := HM4.out.tidy (Keyed.of_law law_id)
            have h7 := Seen.step (k := (a1, a2, a3)) HM.out.2 h9 _ h8
            exact h7
          · exact (below_step HB.out HB7.out.1.below).drew.grown HG2.out (by have := (below_step HB.out HB7.out.1.below).size; exact this) (fun k e => by cases e; exact Nat.le_of_eq HBM.out)
    · have hi1 : ¬ (i : Int) < (n : Int) := by omega
      have hin : i = n := by have := HI.out; omega
      have hlen := fun ty => hM.len Try.underlying73 ty
      obtain ⟨sz, hsz⟩ : ∃ sz, Maps.size D = sz := ⟨_, rfl⟩
      rw [hsz] at hlen
      have htl : l.take i = l := List.take_of_length_le (by rw [HN.out]; omega)
      rw [htl] at hSn
      have HA := Lib.hid (show l.all mayB = true from List.all_eq_true.2 fun x hx => HF.out x (by rw [htl]; exact hx))
      have hsl : sz ≤ n := by
        have := hSn.2.2.1
        rw [hsz, List.length_map, HN.out] at this
        exact this
      have hnd : sz = n ↔ (l.map kC).Nodup := by
        have := hSn.2.2.2
        rw [hsz, List.length_map, HN.out] at this
        exact this
      have HB := Lib.hid hb
      clear hb hSn hM hsz htl
      have hsn : ¬ (sz : Int) < (n : Int) := by
        have h := HZ.out
        unfold codeN at h
        rw [if_pos HA.out] at h
        have : (l.map kC).Nodup := by
          by_cases hd : (l.map kC).Nodup
          · exact hd
          · rw [if_neg hd] at h
            cases h
        have := hnd.2 this
        omega
      have h2 : ¬ (20000 : Int) < (n : Int) := by omega
      clear hnd hsl hin
      go_upto_block 2 with (go_at_call 32; refine (chunk_w _ _ _ _).mono ?_; rintro e w9 ⟨rfl, rfl⟩)
      have HF5 := five wr (.map #[] 0) (.cells #[.slice none 0 0, .map (some wr.heap.size)] 79) (.cells #[.pointer (some ⟨wr.heap.size + 1, 0, none⟩)] 65) (.cells #[.slice A n c] 22) (.cells #[.int .i64 64] 3)
      obtain ⟨Wc, hWc⟩ : ∃ x, ((((wr.alloc (.map #[] 0)).alloc (.cells #[.slice none 0 0, .map (some wr.heap.size)] 79)).alloc (.cells #[.pointer (some ⟨wr.heap.size + 1, 0, none⟩)] 65)).alloc (.cells #[.slice A n c] 22)).alloc (.cells #[.int .i64 64] 3) = x := ⟨_, rfl⟩
      have h5 := HF5 Wc hWc
      obtain ⟨s, hs⟩ : ∃ x, wr.heap.size = x := ⟨_, rfl⟩
      have HBW := Lib.hid (show Below w.heap.size w Wc from HB.out.trans (h5.2.2.2.2.2.2.mono HB.out.size))
      have hws : w.heap.size ≤ s := hs ▸ HB.out.size
      have HWS := Lib.hid hws
      rw [hWc]
      rw [hs] at h5 ⊢
      obtain ⟨q0, q1, q2, q3, q4, q5, _⟩ := h5
      clear HF5 hWc hs
      have hseq : SeqStopsK Fence.wide (8 - 1) Try.prog 37 #[.pointer (some ⟨s + 3, 0, none⟩), .pointer (some ⟨s + 4, 0, none⟩)] (chkV (w := w)) (KpN w.heap.size (s + 3) (s + 4)) (fun _ => True) (fun _ => True) n Wc := chunk_stops A c n s l w Wc HN.out HC.out HLC.out hl hws (by omega) HBW.out q3 q4
      refine (wpIn_wide (n := 8)).1 ?_
      gi_wp2
      refine wpIn_rangeFunc_ownG rfl (by decide) (gf := 37) (lb := #[.pointer (some ⟨s + 3, 0, none⟩), .pointer (some ⟨s + 4, 0, none⟩)]) rfl trivial (enters_of Try.func37 (by kernel_rfl) rfl) hseq
        (fun h h' => ⟨h.1.trans h'.1, h'.2.1.trans h.2.1, h'.2.2.trans h.2.2⟩) (fun W q o o' hq ho hc hw => ⟨belowK_b (n₀ := w.heap.size) (w := Wc) (by omega) W q o o' hq ho hc hw, World.putObj_heap_other (by omega), World.putObj_heap_other (by omega)⟩) (Below.refl _ _) ?hps
        (fun pre W => DocI w s pre.length W) (fun _ _ _ => False) ?hI (fun _ _ _ _ _ hs _ _ => hs) ?h0 ?a1 ?assign ?body ?done ?stop
      case hps => exact fun _ => rfl
      case assign =>
        intro l x W K hK
        simp only [chkV]
        gi_wp2
        exact hK
      case h0 => exact ⟨⟨_, [], q1, Kd.R_nil _ _ _ _ _, rfl⟩, q0, q2, by omega, HBW.out⟩
      case body =>
        rintro l pre ⟨⟨A9, n9, c9⟩, xs, hx1, hx2, hx3, hx4⟩ W ⟨⟨v, gs, d1, hv, hgl⟩, d0, d2, d5, hBW⟩ hN
        replace hx1 : xs.length = n9 := hx1
        replace hx2 : n9 ≤ c9 := hx2
        replace hx3 : n9 ≤ 20000 := hx3
        replace hx4 : Kd.C k46 w A9 xs.length xs := hx4
        have hNB := fun W' (hb : Below w.heap.size w W') => newBlock_w A9 c9 xs W' (Kd.C_below hx4 hb) (by omega) (by omega)
        rw [hx1] at hNB
        have HD := Lib.hid (And.intro d1 (And.intro hv (And.intro hgl (And.intro d0 (And.intro d2 (And.intro d5 hBW))))))
        have HPN := Lib.hid hN
        gi_wp2
        refine region_round (m := 12) (fun w' => Below (s + 5) W w' ∧ w'.cell? ⟨s + 2, 0, none⟩ = some (.pointer (some ⟨s + 1, 0, none⟩)) ∧ w'.cell? ⟨s + 1, 0, none⟩ = some v) [11] #[false, false, false, false, false, false, false, false, false, false, false, false] (by kernel_rfl) (by kernel_rfl) (by rintro ⟨_, _, h⟩; exact h) rfl rfl ⟨(Below.refl _ W).drew, blk_cell d2 0, blk_cell d1 0⟩ (fun hHeld => ?_)
        have HF := Lib.hid hx4
        clear d0 d1 d2 d5 hv hgl hBW hN hx1 hx2 hx3 hx4
        have HK0 := Lib.hid (KeepsOthers.drew W)
        have HV0 := Lib.hid (Kd.R_drew HD.out.2.1)
        have HB0 := Lib.hid ((Below.refl W.heap.size W).drew)
        generalize W.drew = w30 at hHeld HK0 HV0 HB0 ⊢
        refine pure_ (i := 5) (N := some 51) (v := ?_) (a' := ?_) #[false, false, false, false, false, true, false, false, false, false, false, false] rfl rfl (by kernel_rfl) (fun _ _ _ h => h) (Or.inl ⟨by rfl, ?_⟩) ?_ ?_
        rotate_left
        · intro w'
          go_simp
          with_reducible rfl
        rotate_left
        · simp only [Act.put, List.setIfInBounds_toArray, List.set_cons_zero, List.set_cons_succ]
          rfl
        refine take_ (i := 0) (N := some 46) (v := ?_) (a' := ?_) #[true, false, false, false, false, true, false, false, false, false, false, false] rfl rfl (by kernel_rfl) (fun _ _ _ h => h) (Or.inl ⟨by rfl, ?_⟩) hHeld ?_ ?_
        rotate_left
        · rintro w' ⟨s0, s1, s2⟩
          go_simp
          with_reducible rfl
        rotate_left
        · simp only [Act.put, List.setIfInBounds_toArray, List.set_cons_zero, List.set_cons_succ]
          rfl
        refine take_ (i := 1) (N := some 47) (v := ?_) (a' := ?_) #[true, true, false, false, false, true, false, false, false, false, false, false] rfl rfl (by kernel_rfl) (fun _ _ _ h => h) (Or.inl ⟨by rfl, ?_⟩) hHeld ?_ ?_
        rotate_left
        · rintro w' ⟨s0, s1, s2⟩
          go_simp
          with_reducible rfl
        rotate_left
        · simp only [Act.put, List.setIfInBounds_toArray, List.set_cons_zero, List.set_cons_succ]
          rfl
        refine pure_ (i := 2) (N := some 48) (v := ?_) (a' := ?_) #[true, true, true, false, false, true, false, false, false, false, false, false] rfl rfl (by kernel_rfl) (fun _ _ _ h => h) (Or.inl ⟨by rfl, ?_⟩) ?_ ?_
        rotate_left
        · intro w'
          go_simp
          with_reducible rfl
        rotate_left
        · simp only [Act.put, List.setIfInBounds_toArray, List.set_cons_zero, List.set_cons_succ]
          rfl
        refine pure_ (i := 3) (N := some 49) (v := ?_) (a' := ?_) #[true, true, true, true, false, true, false, false, false, false, false, false] rfl rfl (by kernel_rfl) (fun _ _ _ h => h) (Or.inl ⟨by rfl, ?_⟩) ?_ ?_
        rotate_left
        · intro w'
          go_simp
          with_reducible rfl
        rotate_left
        · simp only [Act.put, List.setIfInBounds_toArray, List.set_cons_zero, List.set_cons_succ]
          rfl
        refine take_ (i := 4) (N := some 50) (v := ?_) (a' := ?_) #[true, true, true, true, true, true, false, false, false, false, false, false] rfl rfl (by kernel_rfl) (fun _ _ _ h => h) (Or.inl ⟨by rfl, ?_⟩) hHeld ?_ ?_
        rotate_left
        · rintro w' ⟨s0, s1, s2⟩
          go_simp
          with_reducible rfl
        rotate_left
        · simp only [Act.put, List.setIfInBounds_toArray, List.set_cons_zero, List.set_cons_succ]
          rfl
        refine one_ (i := 6) (N := some 52) #[true, true, true, true, true, true, true, false, false, false, false, false] rfl rfl (by kernel_rfl) (by decide) (fun K hK => ?_)
        refine goes_ Try.func33 (by kernel_rfl) rfl #[.slice A9 n9 c9] (by rfl) rfl rfl (by (try simp only [List.map_toArray, List.map_cons, List.map_nil]); first | done | rfl) ?_
        refine (hNB _ (HD.out.2.2.2.2.2.2.trans (hHeld.1.mono (by have := HBW.out; have := HWS.out; omega)))).mono ?_
        rintro e w31 ⟨gB, rfl, hb31⟩
        refine ⟨_, rfl, ?_⟩
        have HV1 := Lib.hid (Kd.R_below HV0.out hb31)
        have HB1 := Lib.hid (below_step HB0.out hb31)
        have HS1 : Hid (s + 5 ≤ w31.heap.size) := Lib.hid (Nat.le_trans (Nat.le_trans HD.out.2.2.2.2.2.1 HB0.out.size) hb31.size)
        refine hK.out _ _ ⟨HB1.out.mono HD.out.2.2.2.2.2.1, (HB1.out.cell (World.block_lt_of_cell? W _ (blk_cell HD.out.2.2.2.2.1 0))).trans (blk_cell HD.out.2.2.2.2.1 0), (HB1.out.cell (World.block_lt_of_cell? W _ (blk_cell HD.out.1 0))).trans (blk_cell HD.out.1 0)⟩ (fun hHeld => ?_)
        clear hK K HV0 HB0 HK0 hb31
        refine norm_ (a' := ?_) ?_ ?_
        rotate_left
        · show Act.put _ (some 52) _ = _
          simp only [Act.put, List.setIfInBounds_toArray, List.set_cons_zero, List.set_cons_succ]
          rfl
        refine one_ (i := 7) (N := some 53) #[true, true, true, true, true, true, true, true, false, false, false, false] rfl rfl (by kernel_rfl) (by decide) (fun K hK => ?_)
        refine Kd.R_lit_step kP w31.heap.size 83 (w0 := w31) (by rfl) (N := 53) rfl (xs := [gB]) (inner := [.pointer (some ⟨gB, 0, none⟩)]) (ok := fun _ => True) (okp := fun _ => True) ?hr ?hp (fun _ hk => hk) trivial (Below.refl _ _) (Nat.le_refl _) (by simp) ?_
        case hr => first | (go_simp; done) | (go_simp; rfl)
        case hp => exact Reps.snoc (ps := []) (cs := []) (Reps.none _ _) rfl rfl
        intro v2 w32 ho2 hb32 hg32 hn32
        have HV2 := Lib.hid (Kd.R_below HV1.out hb32)
        have HB2 := Lib.hid (below_step HB1.out hb32)
        have HS2 : Hid (s + 5 ≤ w32.heap.size) := Lib.hid (Nat.le_trans HS1.out hb32.size)
        have HO2 := Lib.hid ho2
        refine hK.out _ _ ⟨HB2.out.mono HD.out.2.2.2.2.2.1, (HB2.out.cell (World.block_lt_of_cell? W _ (blk_cell HD.out.2.2.2.2.1 0))).trans (blk_cell HD.out.2.2.2.2.1 0), (HB2.out.cell (World.block_lt_of_cell? W _ (blk_cell HD.out.1 0))).trans (blk_cell HD.out.1 0)⟩ (fun hHeld => ?_)
        clear hK K HV1 HB1 HS1 ho2 hb32 hg32 hn32
        refine norm_ (a' := ?_) ?_ ?_
        rotate_left
        · show Act.put _ (some 53) _ = _
          simp only [Act.put, List.setIfInBounds_toArray, List.set_cons_zero, List.set_cons_succ]
          rfl
        obtain ⟨A2, c2, rfl, hc2, hC2⟩ := Kd.R_reads HO2.out
        refine one_ (i := 8) (N := some 54) #[true, true, true, true, true, true, true, true, true, false, false, false] rfl rfl (by kernel_rfl) (by decide) (fun K hK => ?_)
        refine Kd.R_append_rows_step kP (w0 := W) (s + 5) (by rfl) (.tmp 50) (.tmp 53) 77 83 (.pointer none) 8 rfl Try.underlying77 info_ptr rfl (by decide) (by omega) v gs [gB] _ _ _ (fun _ => True) (fun _ => False) rfl rfl ?aO ?aR (fun _ _ h => h) (fun _ h => h.elim) (fun _ _ => trivial) ?aB ?aS ?aL ?_
        case aO => exact HV2.out
        case aR => exact hC2
        case aB => exact HB2.out.mono HD.out.2.2.2.2.2.1
        case aS => exact HS2.out
        case aL => have h1 := HD.out.2.2.1; have h2 := HPN.out; simp only [List.length_singleton]; omega
        intro v3 w33 ho3 hb33 hg33 hat3
        obtain ⟨A3, c3, rfl⟩ := Kd.R_slice ho3
        rw [show (gs ++ [gB]).length = gs.length + 1 by simp] at ho3 ⊢
        have HB3 := Lib.hid hb33
        have HO3 := Lib.hid ho3
        have hD3 : w33.heap[s + 1]? = some (.cells #[v, .map (some s)] 79 (0, 0)) := (hb33.block (s + 1) (by omega)).trans HD.out.1
        have hK3 : KeepsOthers W w33 := (KeepsOthers.trans ⟨HB2.out.size, fun k o hk ho => (HB2.out.block k (Array.getElem?_eq_some_iff.1 hk).1).trans hk⟩ (KeepsOthers.of_grownBy hg33 (fun j o hj ho => by
          obtain ⟨_, _, _, _, _, cells, hc⟩ := (Kd.R_bound HV2.out).1 j hj
          rw [hc] at ho
          cases ho
          rfl)))
        have HK3 := Lib.hid (And.intro hK3 hD3)
        have hS3 : s + 5 ≤ w33.heap.size := Nat.le_trans HD.out.2.2.2.2.2.1 hb33.size
        have HS3 := Lib.hid hS3
        refine hK.out _ _ ⟨hb33, (hb33.cell (p := ⟨s + 2, 0, none⟩) (by show s + 2 < s + 5; omega)).trans (blk_cell HD.out.2.2.2.2.1 0), (hb33.cell (p := ⟨s + 1, 0, none⟩) (by show s + 1 < s + 5; omega)).trans (blk_cell HD.out.1 0)⟩ (fun hHeld => ?_)
        clear hK K HV2 HB2 HS2 HO2 hC2 hc2 ho3 hb33 hg33 hat3 hK3 hS3
        refine norm_ (a' := ?_) ?_ ?_
        rotate_left
        · show Act.put _ (some 54) _ = _
          simp only [Act.put, List.setIfInBounds_toArray, List.set_cons_zero, List.set_cons_succ]
          rfl
        refine pure_ (i := 9) (N := some 55) (v := ?_) (a' := ?_) #[true, true, true, true, true, true, true, true, true, true, false, false] rfl rfl (by kernel_rfl) (fun _ _ _ h => h) (Or.inl ⟨by rfl, ?_⟩) ?_ ?_
        rotate_left
        · intro w'
          go_simp
          with_reducible rfl
        rotate_left
        · simp only [Act.put, List.setIfInBounds_toArray, List.set_cons_zero, List.set_cons_succ]
          rfl
        refine pure_ (i := 10) (N := some 56) (v := ?_) (a' := ?_) #[true, true, true, true, true, true, true, true, true, true, true, false] rfl rfl (by kernel_rfl) (fun _ _ _ h => h) (Or.inl ⟨by rfl, ?_⟩) ?_ ?_
        rotate_left
        · intro w'
          go_simp
          with_reducible rfl
        rotate_left
        · simp only [Act.put, List.setIfInBounds_toArray, List.set_cons_zero, List.set_cons_succ]
          rfl
        have hfz := blk_frozen hD3 0
        have hcl := hHeld.2.2
        clear hD3
        refine last_ (i := 11) (N := none) #[true, true, true, true, true, true, true, true, true, true, true, true] rfl rfl (by kernel_rfl) (by decide) (fun K hK => ?_)
        refine skip_ (w1 := ?_) (by rfl) rfl ?_ ?_
        rotate_left
        · go_simp
          rfl
        refine hK.out _ _ ?_
        clear hK K
        refine done_ (by kernel_rfl) ?_
        refine ⟨(HK3.out.1.trans (KeepsOthers.setCell _ _ _)).from _, ⟨((HB3.out.mono (by have := HWS.out; omega)).trans ((Below.refl w.heap.size w33).setCell (p := ⟨s + 1, 0, none⟩) (by have := HWS.out; show w.heap.size ≤ s + 1; omega) _)), ?_, ?_⟩, ⟨⟨_, gs ++ [gB], blk_put (cs := #[v, .map (some s)]) HK3.out.2 0 _ rfl, ?_, by rw [List.length_append, List.length_append, HD.out.2.2.1]; rfl⟩, ?_, ?_, by simpa using HS3.out, HD.out.2.2.2.2.2.2.trans ((HB3.out.mono (by have := HWS.out; omega)).trans ((Below.refl w.heap.size w33).setCell (p := ⟨s + 1, 0, none⟩) (by have := HWS.out; show w.heap.size ≤ s + 1; omega) _))⟩⟩
        · exact (Below.heap_setCell _ _ _ _ (by show s + 3 ≠ s + 1; omega)).trans (HB3.out.block (s + 3) (by omega))
        · exact (Below.heap_setCell _ _ _ _ (by show s + 4 ≠ s + 1; omega)).trans (HB3.out.block (s + 4) (by omega))
        · exact Kd.R_mono (Kd.R_far (p := ⟨s + 1, 0, none⟩) (Kd.R_bound HO3.out) (fun k hk => by have := hk.2.1; show k ≠ s + 1; omega) _) (fun _ _ => trivial)
        · exact (Below.heap_setCell _ _ _ _ (by show s ≠ s + 1; omega)).trans ((HB3.out.block s (by omega)).trans HD.out.2.2.2.1)
        · exact (Below.heap_setCell _ _ _ _ (by show s + 2 ≠ s + 1; omega)).trans ((HB3.out.block (s + 2) (by omega)).trans HD.out.2.2.2.2.1)
      case hI =>
        rintro pre X X' row ⟨⟨v, gs, d1, hv, hgl⟩, d0, d2, d5, hBW⟩ hg hr
        have hne : ∀ k, k < s + 5 → some k ≠ row := fun k hk e => by have := (hr k e.symm).1; omega
        refine ⟨⟨v, gs, (hg.block (s + 1) (by omega) (hne _ (by omega))).trans d1, Kd.R_mono (Kd.R_step (Kd.R_bound hv) (fun k hk hlt => hg.block k hlt (fun e => ?_))) (fun _ _ => trivial), hgl⟩, (hg.block s (by omega) (hne _ (by omega))).trans d0, (hg.block (s + 2) (by omega) (hne _ (by omega))).trans d2, Nat.le_trans d5 hg.size, hBW.grown hg (by have := HWS.out; omega) (fun k e => by have := (hr k e).1; have := HWS.out; omega)⟩
        obtain ⟨_, o, ho, hoc⟩ := hr k e.symm
        obtain ⟨_, _, _, q, _, cells, hc⟩ := hk
        rw [hc] at ho
        cases ho
        cases hoc
      case stop =>
        rintro D c pre X hD _ h _
        exact h.elim
      case done =>
        rintro D ys X hD _ ⟨⟨v, gs, d1, hv, hgl⟩, d0, d2, d5, hBX⟩ hK
        have hM0 : X.ownsMap Try.prog 29 (plainElem Try.prog 3) s 0 (.map [] : DataW Unit) := ⟨#[], 0, d0, ⟨by simp, MapKept.stamped_empty 0, by simp⟩, Nat.le_refl _, rfl⟩
        have HX := Lib.hid (And.intro d1 (And.intro d2 (And.intro d5 hBX)))
        have HK2 := Lib.hid hK
        clear d0 d1 d2 d5 hBX hK hv hgl
        go_wp2
        go_loopg [59] n (fun q u59 wz => ∃ i : Nat, u59 = .int .i64 (i : Nat) ∧ Aside0 (i + q = n ∧ (∃ Dm : DataW Unit, wz.ownsMap Try.prog 29 (plainElem Try.prog 3) s i Dm) ∧ wz.heap[s + 1]? = some (.cells #[v, .map (some s)] 79 (0, 0)) ∧ wz.heap[s + 2]? = some (.cells #[.pointer (some ⟨s + 1, 0, none⟩)] 65 (0, 0)) ∧ s + 5 ≤ wz.heap.size ∧ Below w.heap.size w wz ∧ wz.heap[D]? = some (.deferred (some []))))
        case atStart => exact ⟨0, rfl, ⟨by omega, ⟨_, hM0⟩, HX.out.1, HX.out.2.1, HX.out.2.2.1, HX.out.2.2.2, HK2.out⟩⟩
        case round =>
          obtain ⟨i, rfl, HR⟩ := hrel
          clear hM0
          have HI := Lib.hid HR.out.1
          obtain ⟨⟨Dm, hM⟩, d1, d2, d5, hb, hK⟩ := HR.out.2
          clear HR
          by_cases hik : i < n
          · have hi0 : (0 : Int) ≤ (i : Int) := by omega
            have hi1 : (i : Int) < (n : Int) := by omega
            have hil : i < l.length := by rw [HN.out]; exact hik
            obtain ⟨ad, e0, x0, x1, x2, x3, x4⟩ := at_T46 HC.out (i : Int) hi0 (by rw [HN.out]; exact hi1)
            cases e0
            replace x0 := (hb.cell (World.block_lt_of_cell? w _ x0)).trans x0
            replace x1 := (hb.cell (World.block_lt_of_cell? w _ x1)).trans x1
            replace x2 := (hb.cell (World.block_lt_of_cell? w _ x2)).trans x2
            replace x3 := (hb.cell (World.block_lt_of_cell? w _ x3)).trans x3
            replace x4 := (hb.cell (World.block_lt_of_cell? w _ x4)).trans x4
            rw [Int.toNat_natCast, rd46 l i hil] at x0 x1 x2 x3 x4
            obtain ⟨⟨⟨a1, a2⟩, a3, a4, d⟩, hx⟩ : ∃ x, l[i] = x := ⟨_, rfl⟩
            have hok : mayB ⟨⟨a1, a2⟩, a3, a4, d⟩ = true := hx ▸ List.all_eq_true.1 HA.out _ (List.getElem_mem hil)
            rw [hx] at x0 x1 x2 x3 x4
            replace x0 : wr.cell? _ = some (.int .i64 a1) := x0
            replace x1 : wr.cell? _ = some (.int .i64 a2) := x1
            replace x2 : wr.cell? _ = some (.int .i64 a3) := x2
            replace x3 : wr.cell? _ = some (.int .i32 a4) := x3
            replace x4 : wr.cell? _ = some (.bool d) := x4
            have HOK := Lib.hid hok
            have HM := Lib.hid hM
            have HD := Lib.hid (And.intro d1 (And.intro d2 (And.intro d5 (And.intro hb hK))))
            have HW := Lib.hid (w_s i (by omega))
            clear hx hil hok hM d1 d2 d5 hb hK
            go_upto_region 20 with (first
              | ((with_reducible refine gate_dst (N := 10) rfl ?_); refine box_event ?hg (N := 10) ?hd (cs := #[.int .i64 0, .int .i64 0, .int .i64 0, .int .i32 0, .bool false]) (t := 46) ?hr ?_; (case hd => rfl); (case hg => rfl); (case hr => first | (go_simp; done) | (go_simp; rfl)); intro gb hgb w1 hbox hb1; have HBx := Lib.hid (And.intro hbox (And.intro hgb hb1)); have z0 := blk_cell hbox 0; have z1 := blk_cell hbox 1; have z2 := blk_cell hbox 2; have z3 := blk_cell hbox 3; have z4 := blk_cell hbox 4; have y0 := blk_frozen hbox 0; have y1 := blk_frozen hbox 1; have y2 := blk_frozen hbox 2; have y3 := blk_frozen hbox 3; have y4 := blk_frozen hbox 4; clear hbox hgb hb1))
            have hBX : Bxs wr [(gb, #[.int .i64 0, .int .i64 0, .int .i64 0, .int .i32 0, .bool false], 46)] w1 := ⟨fun x hx => by
              rcases List.mem_singleton.1 hx with rfl
              exact HBx.out.1, by simp, fun x hx => by
              rcases List.mem_singleton.1 hx with rfl
              exact Nat.le_of_eq HBx.out.2.1.symm, HBx.out.2.2⟩
            have hB1 : Bxs wr [(gb, #[.int .i64 a1, .int .i64 0, .int .i64 0, .int .i32 0, .bool false], 46)] _ := hBX.put 0 rfl 0 (.int .i64 a1)
            have hB2 : Bxs wr [(gb, #[.int .i64 a1, .int .i64 a2, .int .i64 0, .int .i32 0, .bool false], 46)] _ := hB1.put 0 rfl 1 (.int .i64 a2)
            have hB3 : Bxs wr [(gb, #[.int .i64 a1, .int .i64 a2, .int .i64 a3, .int .i32 0, .bool false], 46)] _ := hB2.put 0 rfl 2 (.int .i64 a3)
            have hB4 : Bxs wr [(gb, #[.int .i64 a1, .int .i64 a2, .int .i64 a3, .int .i32 a4, .bool false], 46)] _ := hB3.put 0 rfl 3 (.int .i32 a4)
            have hB5 : Bxs wr [(gb, #[.int .i64 a1, .int .i64 a2, .int .i64 a3, .int .i32 a4, .bool d], 46)] _ := hB4.put 0 rfl 4 (.bool d)
            obtain ⟨w2, hw2⟩ : ∃ x, (((((w1.setCell ⟨gb, 0, none⟩ (.int .i64 a1)).setCell ⟨gb, 1, none⟩ (.int .i64 a2)).setCell ⟨gb, 2, none⟩ (.int .i64 a3)).setCell ⟨gb, 3, none⟩ (.int .i32 a4)).setCell ⟨gb, 4, none⟩ (.bool d)) = x := ⟨_, rfl⟩
            rw [hw2] at hB5 ⊢
            have r0 : w2.cell? ⟨gb, 0, none⟩ = some (.int .i64 a1) := hB5.cell 0 rfl 0
            have r1 : w2.cell? ⟨gb, 1, none⟩ = some (.int .i64 a2) := hB5.cell 0 rfl 1
            have r2 : w2.cell? ⟨gb, 2, none⟩ = some (.int .i64 a3) := hB5.cell 0 rfl 2
            have r3 : w2.cell? ⟨gb, 3, none⟩ = some (.int .i32 a4) := hB5.cell 0 rfl 3
            have r4 : w2.cell? ⟨gb, 4, none⟩ = some (.bool d) := hB5.cell 0 rfl 4
            have hlt : ∀ k, k < s + 5 → k < wr.heap.size := fun k hk => Nat.lt_of_lt_of_le hk HD.out.2.2.1
            have hD1 : w2.heap[s + 1]? = some (.cells #[v, .map (some s)] 79 (0, 0)) := (hB5.below.block (s + 1) (hlt _ (by omega))).trans HD.out.1
            have hD2 : w2.heap[s + 2]? = some (.cells #[.pointer (some ⟨s + 1, 0, none⟩)] 65 (0, 0)) := (hB5.below.block (s + 2) (hlt _ (by omega))).trans HD.out.2.1
            have hKD : w2.heap[D]? = some (.deferred (some [])) := (hB5.below.block D (Array.getElem?_eq_some_iff.1 HD.out.2.2.2.2).1).trans HD.out.2.2.2.2
            have hM3 : w2.drew.ownsMap Try.prog 29 (plainElem Try.prog 3) s i Dm := owns_same HM.out (hB5.below.block s (hlt _ (by omega)))
            have hwf : (Lit.int .i64 a1).wf = true ∧ (Lit.int .i64 a2).wf = true := by
              have h := HOK.out
              simp only [mayB, Bool.and_eq_true, decide_eq_true_eq] at h
              exact ⟨wf64 (by omega) (by omega), wf64 (by omega) (by omega)⟩
            obtain ⟨kl, hkl⟩ := key_nm a1 a2 hwf.1 hwf.2
            have c1 : w2.cell? ⟨s + 2, 0, none⟩ = some (.pointer (some ⟨s + 1, 0, none⟩)) := blk_cell hD2 0
            have c2 : w2.cell? ⟨s + 1, 1, none⟩ = some (.map (some s)) := blk_cell hD1 1
            have hsD : D ≠ s := fun e => by
              obtain ⟨es, ck, hb, _⟩ := hM3
              rw [e] at hKD
              have : w2.heap[s]? = some (.map es ck) := hb
              rw [hKD] at this
              cases this
            obtain ⟨cv, v0, st, W1, W2, hlk, hme, hlk1, hes, hM4, hg1, hg2⟩ := map_inc law_nm Try.underlying76 hM3 (by unfold maxLen; omega) hkl
            have HM4 := Lib.hid hM4
            have HG2 := Lib.hid hg2
            have HB7 := Lib.hid (And.intro hB5.below (And.intro hD1 (And.intro hD2 (And.intro hKD hsD))))
            obtain ⟨cw, hcw⟩ : ∃ cw, wrap64 (cv + 1) = cw := ⟨_, rfl⟩
            rw [hcw] at hes
            clear hBX hB1 hB2 hB3 hB4 hB5 HBx hw2 z0 z1 z2 z3 z4 y0 y1 y2 y3 y4 x0 x1 x2 x3 x4 hlt hD1 hD2 hKD hM3 hwf hkl hM4 hg1 hg2 hsD
            go_region
            go_wp2
            go_roundg (n - (i + 1))
            case measure => have := HI.out; omega
            case rel =>
              have hlt2 : ∀ k (o : Obj), w2.heap[k]? = some o → k < w2.heap.size := fun k o h => (Array.getElem?_eq_some_iff.1 h).1
              exact ⟨i + 1, by first | rfl | (rw [HW.out]), ⟨by have := HI.out; omega, ⟨_, HM4.out⟩, (HG2.out.block (s + 1) (hlt2 _ _ HB7.out.2.1) (by simp)).trans HB7.out.2.1, (HG2.out.block (s + 2) (hlt2 _ _ HB7.out.2.2.1) (by simp)).trans HB7.out.2.2.1, Nat.le_trans (Nat.le_trans HD.out.2.2.1 HB7.out.1.size) HG2.out.size, (below_step HD.out.2.2.2.1 HB7.out.1).drew.grown HG2.out (by have h1 := HD.out.2.2.2.1.size; have h2 := HB7.out.1.size; exact Nat.le_trans h1 h2) (fun k e => by cases e; exact HWS.out), (HG2.out.block D (hlt2 _ _ HB7.out.2.2.2.1) (by have := HB7.out.2.2.2.2; simpa using this)).trans HB7.out.2.2.2.1⟩⟩
          · have hi1 : ¬ (i : Int) < (n : Int) := by omega
            have c1 : wr.cell? ⟨s + 2, 0, none⟩ = some (.pointer (some ⟨s + 1, 0, none⟩)) := blk_cell d2 0
            have HE := Lib.hid (And.intro hb hK)
            clear hb hK d1 d2 d5 hM
            go_wp2
            refine ⟨by simp, .inl ⟨_, _, rfl, run_takeDeferred HE.out.2, ?_⟩⟩
            refine ⟨.tuple #[.pointer (some ⟨s + 1, 0, none⟩), .int .i64 0], ?_, ⟨_, rfl⟩, HE.out.1.trans (belowK_b (w := w) (Nat.le_refl _) _ D _ _ (by have := HWS.out; omega) HE.out.2 rfl rfl)⟩
            simp [results, Try.f24, go_sem]
end Go.Proofs.Ytkglfgikfeebhaa.X
