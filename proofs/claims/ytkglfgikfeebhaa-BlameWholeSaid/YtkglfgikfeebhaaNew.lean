/-
  cells.New, walked by hand: which error it tells: by this session. Conditions: at most 20000 cells.
-/
import Derived.Test.YtkglfgikfeebhaaRuns
import Derived.Test.YtkglfgikfeebhaaDf
import Derived.Test.YtkglfgikfeebhaaPx11
import Derived.Deep.QuietTactic
import Derived.BigQuiet
import Derived.StillTailTactics
import Derived.RegionTactic
import Derived.ChangeAlike
namespace Go.Proofs.Ytkglfgikfeebhaa.X
open Go Go.RowKit Go.Shelf Go.Lib Go.Maps Go.WideMaps Go.Proofs.YtkglfgikfeebhaaW.PrintWords Go.Proofs.Ytkglfgikfeebhaa.P
set_option linter.unusedVariables false
def mayB (x : S46) : Bool := decide (1 ≤ x.f0.f0 ∧ x.f0.f0 ≤ 16 ∧ 1 ≤ x.f0.f1 ∧ x.f0.f1 ≤ 1099511627776 ∧ 0 ≤ x.f1 ∧ x.f1 < 200) && Lib.validRune x.f2
theorem mayB_f (a b o r : Int) (d : Bool) : cells_mayCell.f a b o r d = some (mayB ⟨⟨a, b⟩, o, r, d⟩) := by
  unfold cells_mayCell.f vect_MayName.f vect_within.f runes_Join.f mayB
  rw [if_pos (by simp)]
  simp only [Option.bind_some]
  by_cases h1 : 1 ≤ a <;> by_cases h2 : a ≤ 16 <;> by_cases h3 : 1 ≤ b <;> by_cases h4 : b ≤ 1099511627776 <;> by_cases h5 : 0 ≤ o <;> by_cases h6 : o < 200 <;> cases hv : Lib.validRune r <;> simp [h1, h2, h3, h4, h5, h6, hv, allRunes]
theorem wf64 {a : Int} (h0 : -9223372036854775808 ≤ a) (h1 : a ≤ 9223372036854775807) : (Lit.int .i64 a).wf = true := by
  have := wrap64_wf a
  rwa [show wrap64 a = a by unfold wrap64; omega] at this
/-- Which error, or none. -/
def codeN (l : List S46) : Int := if l.all mayB then if (l.map kC).Nodup then 0 else 15 else 1
theorem codeN_bad {l : List S46} {i : Nat} {x : S46} (h : l[i]? = some x) (hb : mayB x = false) : codeN l = 1 := by
  unfold codeN
  rw [if_neg]
  intro ha
  have := List.all_eq_true.1 ha x (List.mem_of_getElem? h)
  rw [hb] at this
  cases this
theorem owns_same {k b n : Nat} {R : Value → Option (DataW Unit × List MemPlace)} {w w' : World} {D : DataW Unit} (h : w.ownsMap Try.prog k R b n D) (hb : w'.heap[b]? = w.heap[b]?) : w'.ownsMap Try.prog k R b n D := by
  obtain ⟨es, clock, h1, F, hs, hD⟩ := h
  exact ⟨es, clock, hb.trans h1, F, hs, hD⟩
set_option maxRecDepth 100000 in
set_option maxHeartbeats 16000000 in
/-- It refuses. -/
theorem new_no (A : Option Addr) (c : Nat) (l : List S46) (w : World) (hC : Kd.C k46 w A l.length l) (hl : l.length ≤ 20000) (hz : codeN l ≠ 0) :
    Calls Try.prog 24 #[.slice A l.length c] w fun e w' => ∃ p, e = .returned (.tuple #[.pointer p, .int .i64 (codeN l)]) ∧ Below w.heap.size w w' := by
  have hmm := @run_makeMap Try.prog
  obtain ⟨n, hn⟩ : ∃ n, l.length = n := ⟨_, rfl⟩
  have HC := Lib.hid hC
  have HN := Lib.hid hn
  have HZ := Lib.hid hz
  rw [hn] at hl ⊢
  clear hC hn hz
  go_enter Try.func24, Try.ntmps24
  go_upto_region 2 with fail
  have hM0 : (w.alloc (.map #[] 0)).ownsMap Try.prog 75 (plainElem Try.prog 3) w.heap.size 0 (.map [] : DataW Unit) := World.ownsMap_made _ _ _ _
  have hb0 : Below w.heap.size w (w.alloc (.map #[] 0)) := below_alloc (Below.refl _ _) _
  obtain ⟨W0, hW0⟩ : ∃ x, w.alloc (.map #[] 0) = x := ⟨_, rfl⟩
  rw [hW0] at hM0 hb0 ⊢
  obtain ⟨bm, hbm⟩ : ∃ x, w.heap.size = x := ⟨_, rfl⟩
  have HBM := Lib.hid hbm
  rw [hbm] at hM0 ⊢
  clear hW0 hbm
  go_wp2
  go_loopg [14] n (fun q u14 wr => ∃ i : Nat, u14 = .int .i64 (i : Nat) ∧ Aside0 (i + q = n ∧ (∀ x ∈ l.take i, mayB x = true) ∧ (∃ D : DataW Unit, wr.ownsMap Try.prog 75 (plainElem Try.prog 3) bm i D ∧ Seen D ((l.take i).map kC)) ∧ Below w.heap.size w wr))
  case atStart => exact ⟨0, rfl, ⟨by omega, by simp, ⟨_, hM0, Seen.none⟩, hb0⟩⟩
  case round =>
    obtain ⟨i, rfl, HR⟩ := hrel
    clear hM0 hb0
    have HI := Lib.hid HR.out.1
    have HF := Lib.hid HR.out.2.1
    obtain ⟨⟨D, hM, hSn⟩, hb⟩ := HR.out.2.2
    clear HR
    by_cases hik : i < n
    · have hi0 : (0 : Int) ≤ (i : Int) := by omega
      have hi1 : (i : Int) < (n : Int) := by omega
      have hil : i < l.length := by rw [HN.out]; exact hik
      obtain ⟨ad, e0, x0, x1, x2, x3, x4⟩ := at_T46 HC.out (i : Int) hi0 (by rw [HN.out]; exact hi1)
      cases e0
      replace x0 := (hb.cell (World.block_lt_of_cell? w _ x0)).trans x0
      replace x1 := (hb.cell (World.block_lt_of_cell? w _ x1)).trans x1
      replace x2 := (hb.cell (World.block_lt_of_cell? w _ x2)).trans x2
      replace x3 := (hb.cell (World.block_lt_of_cell? w _ x3)).trans x3
      replace x4 := (hb.cell (World.block_lt_of_cell? w _ x4)).trans x4
      rw [Int.toNat_natCast, rd46 l i hil] at x0 x1 x2 x3 x4
      obtain ⟨⟨⟨a1, a2⟩, a3, a4, d⟩, hx⟩ : ∃ x, l[i] = x := ⟨_, rfl⟩
      have HX := Lib.hid (show l[i]? = some (⟨⟨a1, a2⟩, a3, a4, d⟩ : S46) by rw [List.getElem?_eq_getElem hil, hx])
      rw [hx] at x0 x1 x2 x3 x4
      replace x0 : wr.cell? _ = some (.int .i64 a1) := x0
      replace x1 : wr.cell? _ = some (.int .i64 a2) := x1
      replace x2 : wr.cell? _ = some (.int .i64 a3) := x2
      replace x3 : wr.cell? _ = some (.int .i32 a4) := x3
      replace x4 : wr.cell? _ = some (.bool d) := x4
      have hMay := fun W => cells_mayCell.calls a1 a2 a3 a4 d _ W (mayB_f a1 a2 a3 a4 d)
      obtain ⟨ok, hok⟩ : ∃ ok, mayB ⟨⟨a1, a2⟩, a3, a4, d⟩ = ok := ⟨_, rfl⟩
      rw [hok] at hMay
      have HOK := Lib.hid hok
      have HM := Lib.hid (And.intro hM hSn)
      have HB := Lib.hid hb
      have HW := Lib.hid (w_s i (by omega))
      clear hx hil hok hM hSn hb
      go_upto_region 5 with (first
        | ((with_reducible refine gate_dst (N := 6) rfl ?_); refine box_event ?hg (N := 6) ?hd (cs := #[.int .i64 0, .int .i64 0, .int .i64 0, .int .i32 0, .bool false]) (t := 46) ?hr ?_; (case hd => rfl); (case hg => rfl); (case hr => first | (go_simp; done) | (go_simp; rfl)); intro gb hgb w1 hbox hb1; have HBx := Lib.hid (And.intro hbox (And.intro hgb hb1)); have z0 := blk_cell hbox 0; have z1 := blk_cell hbox 1; have z2 := blk_cell hbox 2; have z3 := blk_cell hbox 3; have z4 := blk_cell hbox 4; have y0 := blk_frozen hbox 0; have y1 := blk_frozen hbox 1; have y2 := blk_frozen hbox 2; have y3 := blk_frozen hbox 3; have y4 := blk_frozen hbox 4; clear hbox hgb hb1))
      have hBX : Bxs wr [(gb, #[.int .i64 0, .int .i64 0, .int .i64 0, .int .i32 0, .bool false], 46)] w1 := ⟨fun x hx => by
        rcases List.mem_singleton.1 hx with rfl
        exact HBx.out.1, by simp, fun x hx => by
        rcases List.mem_singleton.1 hx with rfl
        exact Nat.le_of_eq HBx.out.2.1.symm, HBx.out.2.2⟩
      have hB1 : Bxs wr [(gb, #[.int .i64 a1, .int .i64 0, .int .i64 0, .int .i32 0, .bool false], 46)] _ := hBX.put 0 rfl 0 (.int .i64 a1)
      have hB2 : Bxs wr [(gb, #[.int .i64 a1, .int .i64 a2, .int .i64 0, .int .i32 0, .bool false], 46)] _ := hB1.put 0 rfl 1 (.int .i64 a2)
      have hB3 : Bxs wr [(gb, #[.int .i64 a1, .int .i64 a2, .int .i64 a3, .int .i32 0, .bool false], 46)] _ := hB2.put 0 rfl 2 (.int .i64 a3)
      have hB4 : Bxs wr [(gb, #[.int .i64 a1, .int .i64 a2, .int .i64 a3, .int .i32 a4, .bool false], 46)] _ := hB3.put 0 rfl 3 (.int .i32 a4)
      have hB5 : Bxs wr [(gb, #[.int .i64 a1, .int .i64 a2, .int .i64 a3, .int .i32 a4, .bool d], 46)] _ := hB4.put 0 rfl 4 (.bool d)
      obtain ⟨w2, hw2⟩ : ∃ x, (((((w1.setCell ⟨gb, 0, none⟩ (.int .i64 a1)).setCell ⟨gb, 1, none⟩ (.int .i64 a2)).setCell ⟨gb, 2, none⟩ (.int .i64 a3)).setCell ⟨gb, 3, none⟩ (.int .i32 a4)).setCell ⟨gb, 4, none⟩ (.bool d)) = x := ⟨_, rfl⟩
      rw [hw2] at hB5 ⊢
      have r0 : w2.cell? ⟨gb, 0, none⟩ = some (.int .i64 a1) := hB5.cell 0 rfl 0
      have r1 : w2.cell? ⟨gb, 1, none⟩ = some (.int .i64 a2) := hB5.cell 0 rfl 1
      have r2 : w2.cell? ⟨gb, 2, none⟩ = some (.int .i64 a3) := hB5.cell 0 rfl 2
      have r3 : w2.cell? ⟨gb, 3, none⟩ = some (.int .i32 a4) := hB5.cell 0 rfl 3
      have r4 : w2.cell? ⟨gb, 4, none⟩ = some (.bool d) := hB5.cell 0 rfl 4
      have HB5 := Lib.hid hB5
      clear hBX hB1 hB2 hB3 hB4 hB5 HBx hw2 z0 z1 z2 z3 z4 y0 y1 y2 y3 y4 x0 x1 x2 x3 x4
      cases ok with
      | false =>
        go_wp2_with (go_at_call 31; refine (hMay _).mono ?_; rintro e w3 ⟨rfl, hb3⟩)
        go_ret2
        exact ⟨none, by rw [codeN_bad HX.out HOK.out]; first | done | rfl, below_step HB.out (below_step HB5.out.below hb3)⟩
      | true =>
        go_upto_region 7 with (go_at_call 31; refine (hMay _).mono ?_; rintro e w3 ⟨rfl, hb3⟩)
        have hB6 := HB5.out.keep hb3
        have s0 : w3.cell? ⟨gb, 0, none⟩ = some (.int .i64 a1) := hB6.cell 0 rfl 0
        have s1 : w3.cell? ⟨gb, 1, none⟩ = some (.int .i64 a2) := hB6.cell 0 rfl 1
        have s2 : w3.cell? ⟨gb, 2, none⟩ = some (.int .i64 a3) := hB6.cell 0 rfl 2
        have hwf : (Lit.int .i64 a1).wf = true ∧ (Lit.int .i64 a2).wf = true ∧ (Lit.int .i64 a3).wf = true := by
          have h := HOK.out
          simp only [mayB, Bool.and_eq_true, decide_eq_true_eq] at h
          exact ⟨wf64 (by omega) (by omega), wf64 (by omega) (by omega), wf64 (by omega) (by omega)⟩
        obtain ⟨kl, hkl⟩ := key_id a1 a2 a3 hwf.1 hwf.2.1 hwf.2.2
        have hbmw : bm < wr.heap.size := HM.out.1.lt
        have hM3 : w3.drew.ownsMap Try.prog 75 (plainElem Try.prog 3) bm i D := owns_same HM.out.1 (hB6.below.block bm hbmw)
        obtain ⟨cv, v0, st, W1, W2, hlk, hme, hlk1, hes, hM4, hg1, hg2⟩ := map_inc law_id Try.underlying73 hM3 (by unfold maxLen; omega) hkl
        have HM4 := Lib.hid hM4
        have HG2 := Lib.hid hg2
        have HB7 := Lib.hid (And.intro hB6 hbmw)
        have HKL := Lib.hid hkl
        clear r0 r1 r2 r3 r4 hwf hM3 hM4 hg2 hB6 hbmw hkl hg1
        obtain ⟨cw, hcw⟩ : ∃ cw, wrap64 (cv + 1) = cw := ⟨_, rfl⟩
        rw [hcw] at hes
        go_region
        go_wp2
        go_roundg (n - (i + 1))
        case measure => have := HI.out; omega
        case rel =>
          refine ⟨i + 1, by first | rfl | (rw [HW.out]), ⟨by have := HI.out; omega, fun x hx => ?_, ⟨_, HM4.out, ?_⟩, ?_⟩⟩
          · obtain ⟨h1, h2⟩ := List.getElem?_eq_some_iff.1 HX.out
            rw [List.take_succ_eq_append_getElem h1, h2] at hx
            rcases List.mem_append.1 hx with hx | hx
            · exact HF.out x hx
            · rw [List.mem_singleton.1 hx]
              exact HOK.out
          · obtain ⟨h1, h2⟩ := List.getElem?_eq_some_iff.1 HX.out
            rw [List.take_succ_eq_append_getElem h1, h2, List.map_append]
            have h9 : keyOf Try.prog 75 (kV (a1, a2, a3)) = some kl := HKL.out
            have h8 := HM4.out.tidy (Keyed.of_law law_id)
            have h7 := Seen.step (k := (a1, a2, a3)) HM.out.2 h9 _ h8
            exact h7
          · exact (below_step HB.out HB7.out.1.below).drew.grown HG2.out (by have := (below_step HB.out HB7.out.1.below).size; exact this) (fun k e => by cases e; exact Nat.le_of_eq HBM.out)
    · have hi1 : ¬ (i : Int) < (n : Int) := by omega
      have hin : i = n := by have := HI.out; omega
      have hlen := fun ty => hM.len Try.underlying73 ty
      obtain ⟨sz, hsz⟩ : ∃ sz, Maps.size D = sz := ⟨_, rfl⟩
      rw [hsz] at hlen
      have htl : l.take i = l := List.take_of_length_le (by rw [HN.out]; omega)
      rw [htl] at hSn
      have HA := Lib.hid (show l.all mayB = true from List.all_eq_true.2 fun x hx => HF.out x (by rw [htl]; exact hx))
      have hsl : sz ≤ n := by
        have := hSn.2.2.1
        rw [hsz, List.length_map, HN.out] at this
        exact this
      have hnd : sz = n ↔ (l.map kC).Nodup := by
        have := hSn.2.2.2
        rw [hsz, List.length_map, HN.out] at this
        exact this
      have HB := Lib.hid hb
      clear hb hSn hM hsz htl
      by_cases hd : (l.map kC).Nodup
      · exact absurd (show codeN l = 0 by unfold codeN; rw [if_pos HA.out, if_pos hd]) HZ.out
      · have hlt : (sz : Int) < (n : Int) := by
          have : sz ≠ n := fun e => hd (hnd.1 e)
          omega
        have HC15 := Lib.hid (show codeN l = 15 by unfold codeN; rw [if_pos HA.out, if_neg hd])
        clear hnd hsl hin hd
        go_wp2
        go_ret2
        exact ⟨⟨none, by rw [HC15.out]; first | done | rfl⟩, HB.out⟩
end Go.Proofs.Ytkglfgikfeebhaa.X
