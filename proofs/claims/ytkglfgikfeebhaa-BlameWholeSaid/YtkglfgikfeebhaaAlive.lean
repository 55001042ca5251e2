/-
  The law's example holds: by this session. Conditions: none.
-/
import Derived.Test.YtkglfgikfeebhaaSites
import Derived.Test.YtkglfgikfeebhaaParts
namespace Go.Proofs.Ytkglfgikfeebhaa.X
open Go Go.RowKit Go.Shelf Go.Lib Go.Proofs.YtkglfgikfeebhaaW.PrintLast Go.Proofs.YtkglfgikfeebhaaW.PrintWords Go.Proofs.Ytkglfgikfeebhaa.P
set_option linter.unusedVariables false
/-- The example's cells. -/
def exL : List S46 := [⟨⟨1, 1⟩, 0, 97, false⟩, ⟨⟨1, 1⟩, 1, 98, true⟩, ⟨⟨2, 1⟩, 0, 120, false⟩, ⟨⟨1, 1⟩, 2, 99, false⟩]
theorem exL_parts : blame_Parts.f exL = some [⟨⟨1, 1⟩, 0, 0, 1⟩, ⟨⟨2, 1⟩, 0, 1, 1⟩, ⟨⟨1, 1⟩, 2, 2, 1⟩] := by
  unfold blame_Parts.f
  rw [if_pos (by decide), if_pos (by decide)]
  rfl
theorem exL_sites : sitesT exL = [(1, 2, 1), (2, 1, 0)] := by
  unfold sitesT
  rw [if_pos (by decide)]
  rfl
set_option maxRecDepth 100000 in
set_option maxHeartbeats 16000000 in
theorem alive_w (w : World) : Calls Try.prog 6 #[] w fun e w' => e = .returned (.bool true) ∧ Below w.heap.size w w' := by
  have hEx : exL.length = 4 := rfl
  have hP := fun (A : Option Addr) (c : Nat) (hc : exL.length ≤ c) (w' : World) (hC : Kd.C k46 w' A exL.length exL) => blame_Parts.calls A c exL _ w' hC hc exL_parts
  have hS := fun (A : Option Addr) (c : Nat) (hc : exL.length ≤ c) (w' : World) (hC : Kd.C k46 w' A exL.length exL) => sites_w A c exL w' hC hc (by decide)
  rw [hEx] at hP hS
  rw [exL_sites] at hS
  go_enter Try.func6, Try.ntmps6
  go_upto_region 2 with fail
  have q0 : ((w.alloc (.cells #[.int .i64 1, .int .i64 1] 29)).alloc (.cells #[.int .i64 2, .int .i64 1] 29)).heap[w.heap.size]? = some (.cells #[.int .i64 1, .int .i64 1] 29 (0, 0)) := blk_alloc (Deep.blk_alloc_new w _) _
  have q1 : ((w.alloc (.cells #[.int .i64 1, .int .i64 1] 29)).alloc (.cells #[.int .i64 2, .int .i64 1] 29)).heap[w.heap.size + 1]? = some (.cells #[.int .i64 2, .int .i64 1] 29 (0, 0)) := by
    have := Deep.blk_alloc_new (w.alloc (.cells #[.int .i64 1, .int .i64 1] 29)) (.cells #[.int .i64 2, .int .i64 1] 29)
    rw [World.size_alloc] at this
    exact this
  have hb2 : Below w.heap.size w ((w.alloc (.cells #[.int .i64 1, .int .i64 1] 29)).alloc (.cells #[.int .i64 2, .int .i64 1] 29)) := below_alloc (below_alloc (Below.refl _ _) _) _
  obtain ⟨W2, hW2⟩ : ∃ x, ((w.alloc (.cells #[.int .i64 1, .int .i64 1] 29)).alloc (.cells #[.int .i64 2, .int .i64 1] 29)) = x := ⟨_, rfl⟩
  rw [hW2] at q0 q1 hb2 ⊢
  obtain ⟨g1, hg1⟩ : ∃ x, w.heap.size = x := ⟨_, rfl⟩
  have HB2 := Lib.hid hb2
  have HQ := Lib.hid (And.intro q0 q1)
  rw [hg1] at q0 q1 ⊢
  have r0 := blk_cell q0 0
  have r1 := blk_cell q0 1
  have t0 := blk_cell q1 0
  have t1 := blk_cell q1 1
  clear hW2 hb2
  have hrep : Reps (k46.M W2 W2.heap.size (fun _ => True)) 5 exL [.int .i64 1, .int .i64 1, .int .i64 0, .int .i32 97, .bool false, .int .i64 1, .int .i64 1, .int .i64 1, .int .i32 98, .bool true, .int .i64 2, .int .i64 1, .int .i64 0, .int .i32 120, .bool false, .int .i64 1, .int .i64 1, .int .i64 2, .int .i32 99, .bool false] :=
    ((((Reps.none _ _).snoc (k46_mkM _ _ _ ⟨⟨1, 1⟩, 0, 97, false⟩) rfl).snoc (k46_mkM _ _ _ ⟨⟨1, 1⟩, 1, 98, true⟩) rfl).snoc (k46_mkM _ _ _ ⟨⟨2, 1⟩, 0, 120, false⟩) rfl).snoc (k46_mkM _ _ _ ⟨⟨1, 1⟩, 2, 99, false⟩) rfl
  go_upto_region 3 with ((with_reducible refine gate_dst (N := 16) rfl ?_); refine Kd.R_lit k46 W2.heap.size 46 (w0 := W2) rfl (N := 16) rfl (xs := exL) (inner := [.int .i64 1, .int .i64 1, .int .i64 0, .int .i32 97, .bool false, .int .i64 1, .int .i64 1, .int .i64 1, .int .i32 98, .bool true, .int .i64 2, .int .i64 1, .int .i64 0, .int .i32 120, .bool false, .int .i64 1, .int .i64 1, .int .i64 2, .int .i32 99, .bool false]) (ok := fun _ => True) (okp := fun _ => True) ?hr hrep (fun _ hk => hk) trivial (Below.refl _ _) (Nat.le_refl _) (by decide) ?_; (case hr => first | (go_simp; done) | (go_simp; rfl)); intro v3 w3 hv3 hb3 hg3 hn3)
  clear hrep r0 r1 t0 t1 hg3 hn3
  obtain ⟨A3, c3, rfl, hc3, hC3⟩ := Kd.R_reads hv3
  rw [hEx] at hC3 ⊢
  have hP3 := hP A3 c3 hc3
  have hS3 := hS A3 c3 hc3
  clear hP hS hv3
  rw [hEx] at hc3
  have HB3 := Lib.hid hb3
  have HC3 := Lib.hid hC3
  clear hb3 hC3
  go_upto_region 4 with (first
    | (go_at_call 7; refine (hP3 _ HC3.out).mono ?_; rintro e w4 ⟨vp, rfl, hvp, hb4⟩; have HP4 := Lib.hid hvp; have HB4 := Lib.hid hb4; clear hvp hb4 hP3)
    | (go_at_call 12; refine (hS3 _ (Kd.C_below HC3.out HB4.out)).mono ?_; rintro e w5 ⟨vs, rfl, hvs, hb5⟩; have HS5 := Lib.hid hvs; have HB5 := Lib.hid hb5; clear hvs hb5 hS3))
  have hP5 := Kd.R_below HP4.out HB5.out
  obtain ⟨gp, cp, rfl, _, _, _, _⟩ := Kd.R_form hP5 (by decide)
  obtain ⟨gs, cs, rfl, _, _, _, _⟩ := Kd.R_form HS5.out (by decide)
  obtain ⟨ad, e0, y0, y1, y2, y3, y4⟩ := at_T33 (Kd.R_reads' hP5).2.2 2 (by omega) (by decide)
  cases e0
  obtain ⟨ad, cc, e0, hcl, hK, hcc⟩ := Kd.C_get (Kd.R_reads' HS5.out).2.2 ((0, 0, 0) : Int × Int × Int) 0 (by omega) (by decide)
  cases e0
  obtain rfl := k42_open hK
  have z0 := hcc 0 _ rfl
  have z1 := hcc 1 _ rfl
  have z2 := hcc 2 _ rfl
  have hq0 := blk_below (blk_below HQ.out.1 (HB3.out)) (below_step HB4.out HB5.out)
  rw [hg1] at hq0
  have r0 : w5.cell? ⟨g1, 0, none⟩ = some (.int .i64 1) := blk_cell hq0 0
  have r1 : w5.cell? ⟨g1, 1, none⟩ = some (.int .i64 1) := blk_cell hq0 1
  replace y0 : w5.cell? ⟨gp, 10, none⟩ = some (.int .i64 1) := y0
  replace y1 : w5.cell? ⟨gp, 11, none⟩ = some (.int .i64 1) := y1
  replace y2 : w5.cell? ⟨gp, 12, none⟩ = some (.int .i64 2) := y2
  replace y3 : w5.cell? ⟨gp, 13, none⟩ = some (.int .i64 2) := y3
  replace y4 : w5.cell? ⟨gp, 14, none⟩ = some (.int .i64 1) := y4
  replace z0 : w5.cell? ⟨gs, 0, none⟩ = some (.int .i64 1) := z0
  replace z1 : w5.cell? ⟨gs, 1, none⟩ = some (.int .i64 2) := z1
  replace z2 : w5.cell? ⟨gs, 2, none⟩ = some (.int .i64 1) := z2
  have hE3 : ∀ w', (Op.equalIn 10000 42 (.agg #[.int .i64 1, .int .i64 2, .int .i64 1]) (.agg #[.int .i64 1, .int .i64 2, .int .i64 1])).run Try.prog w' = .ok true w' := fun w' => eqA3 1 2 1 1 2 1 w'
  have HBF := Lib.hid (Below.trans HB2.out ((Below.trans (HB3.out) ((below_step HB4.out HB5.out).mono HB3.out.size)).mono HB2.out.size))
  clear hq0 hcc hcl hK hP5 hc3 hEx
  go_region
  go_wp2
  go_ret
  exact ⟨rfl, below_drew HBF.out⟩
/-- In the print's form. -/
def foolscaplaw30_alive.f : Option Bool := some true
theorem foolscaplaw30_alive.calls (r : Bool) (w : World) (h : foolscaplaw30_alive.f = some r) : Calls Try.prog 6 #[] w fun e w' => e = .returned (.bool r) ∧ Below w.heap.size w w' := by
  cases h
  exact alive_w w
end Go.Proofs.Ytkglfgikfeebhaa.X
