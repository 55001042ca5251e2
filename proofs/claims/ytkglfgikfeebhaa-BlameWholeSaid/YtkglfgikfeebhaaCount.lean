/-
  cells.newBlock and its tally, walked by hand: by this session. Conditions: as typed.
-/
import Derived.Test.YtkglfgikfeebhaaDf
import Derived.Deep.QuietTactic
import Derived.BigQuiet
import Derived.StillTailTactics
import Derived.RegionTactic
import Derived.ChangeAlike
namespace Go.Proofs.Ytkglfgikfeebhaa.X
open Go Go.RowKit Go.Shelf Go.Lib Go.Proofs.YtkglfgikfeebhaaW.PrintWords Go.Proofs.Ytkglfgikfeebhaa.P
set_option linter.unusedVariables false
set_option maxRecDepth 100000 in
set_option maxHeartbeats 16000000 in
theorem count_w (B g : Nat) (A : Option Addr) (c : Nat) (l : List S46) (u1 u2 : Value) (w : World) (hB : B ≤ g) (hh : w.heap[g]? = some (.cells #[u1, u2, .slice A l.length c] 90 (0, 0))) (hC : ∀ w', (∀ k, k ≠ g → k < w.heap.size → w'.heap[k]? = w.heap[k]?) → Kd.C k46 w' A l.length l) (hl : l.length ≤ 20000) :
    Calls Try.prog 38 #[.pointer (some ⟨g, 0, none⟩)] w fun e w' => e = .returned (.tuple #[]) ∧ Below B w w' := by
  obtain ⟨n, hn⟩ : ∃ n, l.length = n := ⟨_, rfl⟩
  have HN := Lib.hid hn
  rw [hn] at hh hl
  have h0 : w.cell? ⟨g, 0, none⟩ = some u1 := blk_cell hh 0
  have h1 : w.cell? ⟨g, 1, none⟩ = some u2 := blk_cell hh 1
  have h2 : w.cell? ⟨g, 2, none⟩ = some (.slice A n c) := blk_cell hh 2
  have f0 := blk_frozen hh 0
  have f1 := blk_frozen hh 1
  have f2 := blk_frozen hh 2
  go_enter Try.func38, Try.ntmps38
  go_upto_region 2 with fail
  have hbk0 : ((w.setCell ⟨g, 0, none⟩ (.int .i64 n)).setCell ⟨g, 1, none⟩ (.int .i64 0)).heap[g]? = some (.cells #[.int .i64 n, .int .i64 0, .slice A n c] 90 (0, 0)) :=
    blk_put (cs := #[.int .i64 n, u2, .slice A n c]) (blk_put (cs := #[u1, u2, .slice A n c]) hh 0 (.int .i64 n) rfl) 1 (.int .i64 0) rfl
  have hlow0 : Below B w ((w.setCell ⟨g, 0, none⟩ (.int .i64 n)).setCell ⟨g, 1, none⟩ (.int .i64 0)) := (((Below.refl B w).setCell (p := ⟨g, 0, none⟩) hB _)).setCell (p := ⟨g, 1, none⟩) hB _
  have hoth0 : ∀ k, k ≠ g → k < w.heap.size → ((w.setCell ⟨g, 0, none⟩ (.int .i64 n)).setCell ⟨g, 1, none⟩ (.int .i64 0)).heap[k]? = w.heap[k]? := fun k hk _ => (Below.heap_setCell _ _ _ _ hk).trans (Below.heap_setCell _ _ _ _ hk)
  have hsz0 : ((w.setCell ⟨g, 0, none⟩ (.int .i64 n)).setCell ⟨g, 1, none⟩ (.int .i64 0)).heap.size = w.heap.size := by simp
  obtain ⟨W0, hW0⟩ : ∃ x, ((w.setCell ⟨g, 0, none⟩ (.int .i64 n)).setCell ⟨g, 1, none⟩ (.int .i64 0)) = x := ⟨_, rfl⟩
  rw [hW0] at hbk0 hlow0 hoth0 hsz0 ⊢
  have HC := Lib.hid hC
  have HB := Lib.hid hB
  have HG := Lib.hid (show g < w.heap.size from blk_lt hh)
  clear h0 h1 h2 f0 f1 f2 hh hC hB hn hW0
  go_loopg [18] n (fun q u18 wr => ∃ (i : Nat) (x : Int), u18 = .int .i64 (i : Nat) ∧ Aside0 (i + q = n ∧ wr.heap[g]? = some (.cells #[.int .i64 n, .int .i64 x, .slice A n c] 90 (0, 0)) ∧ Below B w wr ∧ (∀ k, k ≠ g → k < w.heap.size → wr.heap[k]? = w.heap[k]?) ∧ w.heap.size ≤ wr.heap.size))
  case atStart => exact ⟨0, 0, rfl, ⟨by omega, hbk0, hlow0, hoth0, Nat.le_of_eq hsz0.symm⟩⟩
  case round =>
    clear hbk0 hlow0 hoth0 hsz0
    obtain ⟨i, x, rfl, HR⟩ := hrel
    have HI := Lib.hid HR.out.1
    obtain ⟨hbk, hlow, hoth, hsz⟩ := HR.out.2
    clear HR
    by_cases hik : i < n
    · have hi0 : (0 : Int) ≤ (i : Int) := by omega
      have hi1 : (i : Int) < (n : Int) := by omega
      have hil : i < l.length := by rw [HN.out]; exact hik
      obtain ⟨ad, e0, x0, x1, x2, x3, x4⟩ := at_T46 (HC.out wr hoth) (i : Int) hi0 (by rw [HN.out]; exact hi1)
      cases e0
      rw [Int.toNat_natCast] at x0 x1 x2 x3 x4
      obtain ⟨⟨⟨a1, a2⟩, a3, a4, d⟩, hx⟩ : ∃ x, rd_T46 l (i : Int) = x := ⟨_, rfl⟩
      rw [hx] at x0 x1 x2 x3 x4
      replace x0 : wr.cell? _ = some (.int .i64 a1) := x0
      replace x1 : wr.cell? _ = some (.int .i64 a2) := x1
      replace x2 : wr.cell? _ = some (.int .i64 a3) := x2
      replace x3 : wr.cell? _ = some (.int .i32 a4) := x3
      replace x4 : wr.cell? _ = some (.bool d) := x4
      have HS := Lib.hid (And.intro hbk (And.intro hlow (And.intro hoth hsz)))
      have HW := Lib.hid (w_s i (by omega))
      clear hx hil hbk hlow hoth hsz
      go_upto_region 4 with (first
        | ((with_reducible refine gate_dst (N := 3) rfl ?_); refine box_event ?hg (N := 3) ?hd (cs := #[.int .i64 0, .int .i64 0, .int .i64 0, .int .i32 0, .bool false]) (t := 46) ?hr ?_; (case hd => rfl); (case hg => rfl); (case hr => first | (go_simp; done) | (go_simp; rfl)); intro gb hgb w1 hbox hb1; have HBx := Lib.hid (And.intro hbox (And.intro hgb hb1)); have z0 := blk_cell hbox 0; have z1 := blk_cell hbox 1; have z2 := blk_cell hbox 2; have z3 := blk_cell hbox 3; have z4 := blk_cell hbox 4; have y0 := blk_frozen hbox 0; have y1 := blk_frozen hbox 1; have y2 := blk_frozen hbox 2; have y3 := blk_frozen hbox 3; have y4 := blk_frozen hbox 4; clear hbox hgb hb1))
      have hBX : Bxs wr [(gb, #[.int .i64 0, .int .i64 0, .int .i64 0, .int .i32 0, .bool false], 46)] w1 := ⟨fun x hx => by
        rcases List.mem_singleton.1 hx with rfl
        exact HBx.out.1, by simp, fun x hx => by
        rcases List.mem_singleton.1 hx with rfl
        exact Nat.le_of_eq HBx.out.2.1.symm, HBx.out.2.2⟩
      have hB1 : Bxs wr [(gb, #[.int .i64 a1, .int .i64 0, .int .i64 0, .int .i32 0, .bool false], 46)] _ := hBX.put 0 rfl 0 (.int .i64 a1)
      have hB2 : Bxs wr [(gb, #[.int .i64 a1, .int .i64 a2, .int .i64 0, .int .i32 0, .bool false], 46)] _ := hB1.put 0 rfl 1 (.int .i64 a2)
      have hB3 : Bxs wr [(gb, #[.int .i64 a1, .int .i64 a2, .int .i64 a3, .int .i32 0, .bool false], 46)] _ := hB2.put 0 rfl 2 (.int .i64 a3)
      have hB4 : Bxs wr [(gb, #[.int .i64 a1, .int .i64 a2, .int .i64 a3, .int .i32 a4, .bool false], 46)] _ := hB3.put 0 rfl 3 (.int .i32 a4)
      have hB5 : Bxs wr [(gb, #[.int .i64 a1, .int .i64 a2, .int .i64 a3, .int .i32 a4, .bool d], 46)] _ := hB4.put 0 rfl 4 (.bool d)
      obtain ⟨w2, hw2⟩ : ∃ x, (((((w1.setCell ⟨gb, 0, none⟩ (.int .i64 a1)).setCell ⟨gb, 1, none⟩ (.int .i64 a2)).setCell ⟨gb, 2, none⟩ (.int .i64 a3)).setCell ⟨gb, 3, none⟩ (.int .i32 a4)).setCell ⟨gb, 4, none⟩ (.bool d)) = x := ⟨_, rfl⟩
      rw [hw2] at hB5 ⊢
      have r0 : w2.cell? ⟨gb, 0, none⟩ = some (.int .i64 a1) := hB5.cell 0 rfl 0
      have r1 : w2.cell? ⟨gb, 1, none⟩ = some (.int .i64 a2) := hB5.cell 0 rfl 1
      have r2 : w2.cell? ⟨gb, 2, none⟩ = some (.int .i64 a3) := hB5.cell 0 rfl 2
      have r3 : w2.cell? ⟨gb, 3, none⟩ = some (.int .i32 a4) := hB5.cell 0 rfl 3
      have r4 : w2.cell? ⟨gb, 4, none⟩ = some (.bool d) := hB5.cell 0 rfl 4
      have HB5 := Lib.hid hB5
      have hbk2 : w2.heap[g]? = some (.cells #[.int .i64 n, .int .i64 x, .slice (some ad) n c] 90 (0, 0)) := (hB5.below.block g (Nat.lt_of_lt_of_le HG.out HS.out.2.2.2)).trans HS.out.1
      have hlow2 : Below B w w2 := HS.out.2.1.trans (hB5.below.mono (by have h1 := HB.out; have h2 := HG.out; have h3 := HS.out.2.2.2; omega))
      have hoth2 : ∀ k, k ≠ g → k < w.heap.size → w2.heap[k]? = w.heap[k]? := fun k hk hlt => (hB5.below.block k (Nat.lt_of_lt_of_le hlt HS.out.2.2.2)).trans (HS.out.2.2.1 k hk hlt)
      have hsz2 : w.heap.size ≤ w2.heap.size := Nat.le_trans HS.out.2.2.2 hB5.below.size
      have c1 : w2.cell? ⟨g, 1, none⟩ = some (.int .i64 x) := blk_cell hbk2 1
      have d1 : w2.frozen? ⟨g, 1, none⟩ = false := blk_frozen hbk2 1
      have HS2 := Lib.hid (And.intro hbk2 (And.intro hlow2 (And.intro hoth2 hsz2)))
      clear hBX hB1 hB2 hB3 hB4 hB5 HBx hw2 z0 z1 z2 z3 z4 y0 y1 y2 y3 y4 x0 x1 x2 x3 x4 r0 r1 r2 r3 hbk2 hlow2 hoth2 hsz2 HS
      cases d with
      | true =>
        go_wp2
        go_roundg (n - (i + 1))
        case measure => have := HI.out; omega
        case rel => exact ⟨i + 1, x, by first | rfl | (rw [HW.out]), ⟨by have := HI.out; omega, HS2.out⟩⟩
      | false =>
        go_wp2
        go_roundg (n - (i + 1))
        case measure => have := HI.out; omega
        case rel => exact ⟨i + 1, wrap64 (x + 1), by first | rfl | (rw [HW.out]), ⟨by have := HI.out; omega, blk_put (cs := #[.int .i64 n, .int .i64 x, .slice (some ad) n c]) HS2.out.1 1 (.int .i64 (wrap64 (x + 1))) rfl, HS2.out.2.1.setCell (p := ⟨g, 1, none⟩) HB.out _, fun k hk hlt => (Below.heap_setCell _ _ _ _ hk).trans (HS2.out.2.2.1 k hk hlt), by have := HS2.out.2.2.2; simpa using this⟩⟩
    · have hi1 : ¬ (i : Int) < (n : Int) := by omega
      have HL := Lib.hid hlow
      clear hbk hlow hoth hsz
      go_wp2
      go_end0
      exact ⟨rfl, HL.out⟩
theorem C46_same {W W' : World} {A : Option Addr} {n : Nat} {L : List S46} (h : Kd.C k46 W A n L) (hA : ∀ a, A = some a → W'.heap[a.block]? = W.heap[a.block]?) : Kd.C k46 W' A n L := by
  refine ⟨h.1, h.2.1, fun hn => ?_⟩
  obtain ⟨ad, e, hc⟩ := h.2.2 hn
  refine ⟨ad, e, fun j p hj => ?_⟩
  obtain ⟨c, hs, hr, hcell⟩ := hc j p hj
  obtain rfl := k46_open hr
  refine ⟨_, hs, k46_mk _ _, fun i u hu => ?_⟩
  have := hcell i u hu
  rw [← this]
  exact World.cell?_of_block (w := W) (by rw [show (ad.add (j * k46.sz + i)).block = ad.block by unfold Addr.add; split <;> rfl]; exact hA ad e)
set_option maxRecDepth 100000 in
set_option maxHeartbeats 16000000 in
theorem newBlock_w (A : Option Addr) (c : Nat) (l : List S46) (w : World) (hC : Kd.C k46 w A l.length l) (hc : l.length ≤ c) (hl : l.length ≤ 20000) :
    Calls Try.prog 33 #[.slice A l.length c] w fun e w' => ∃ g, e = .returned (.pointer (some ⟨g, 0, none⟩)) ∧ Below w.heap.size w w' := by
  have hCl := clone_c A c l w hC hc (by omega)
  obtain ⟨n, hn⟩ : ∃ n, l.length = n := ⟨_, rfl⟩
  have HN := Lib.hid hn
  have HL := Lib.hid hl
  rw [hn] at hCl ⊢
  clear hC hc hl hn
  go_enter Try.func33, Try.ntmps33
  go_upto_region 2 with (go_at_call 27; refine hCl.mono ?_; rintro e w1 ⟨v, rfl, hv, hb1⟩; obtain ⟨A1, c1, rfl, hc1, hC1⟩ := Kd.R_reads hv; have HV := Lib.hid (And.intro hv (And.intro hC1 hb1)); clear hCl hv hc1 hC1 hb1)
  have hh := Deep.blk_alloc_new w1 (.cells #[.int .i64 0, .int .i64 0, .slice A1 l.length c1] 90)
  have hb2 : Below w.heap.size w (w1.alloc (.cells #[.int .i64 0, .int .i64 0, .slice A1 l.length c1] 90)) := below_alloc HV.out.2.2 _
  have hB : w.heap.size ≤ w1.heap.size := HV.out.2.2.size
  have hCC : ∀ w', (∀ k, k ≠ w1.heap.size → k < (w1.alloc (.cells #[.int .i64 0, .int .i64 0, .slice A1 l.length c1] 90)).heap.size → w'.heap[k]? = (w1.alloc (.cells #[.int .i64 0, .int .i64 0, .slice A1 l.length c1] 90)).heap[k]?) → Kd.C k46 w' A1 l.length l := fun w' hw => by
    refine C46_same HV.out.2.1 fun a ha => ?_
    subst ha
    have hlt : a.block < w1.heap.size := Kd.R_lt HV.out.1 _ rfl
    rw [hw a.block (by omega) (by rw [World.size_alloc]; omega)]
    exact Below.heap_alloc _ _ _ hlt
  have hcnt := count_w w.heap.size w1.heap.size A1 c1 l _ _ _ hB hh hCC HL.out
  obtain ⟨W2, hW2⟩ : ∃ x, w1.alloc (.cells #[.int .i64 0, .int .i64 0, .slice A1 l.length c1] 90) = x := ⟨_, rfl⟩
  rw [hW2] at hcnt hb2 ⊢
  have HB2 := Lib.hid hb2
  clear hh hb2 hB hCC hW2
  go_wp2_with (go_at_call 38; refine hcnt.mono ?_; rintro e w3 ⟨rfl, hb3⟩)
  go_ret
  exact ⟨_, rfl, HB2.out.trans hb3⟩
/-- slices.Chunk hands back its iterator, and lays its two variables. -/
theorem chunk_w (A : Option Addr) (n c : Nat) (w : World) :
    Calls Try.prog 32 #[.slice A n c, .int .i64 64] w fun e w' => e = .returned (.func (.func 37) #[] #[.pointer (some ⟨w.heap.size, 0, none⟩), .pointer (some ⟨w.heap.size + 1, 0, none⟩)]) ∧ w' = (w.alloc (.cells #[.slice A n c] 22)).alloc (.cells #[.int .i64 64] 3) := by
  go_enter Try.func32, Try.ntmps32
  go_wp2
  go_ret
  exact ⟨rfl, rfl⟩
end Go.Proofs.Ytkglfgikfeebhaa.X
