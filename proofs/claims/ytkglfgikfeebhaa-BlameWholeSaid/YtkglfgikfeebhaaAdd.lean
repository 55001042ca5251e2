/-
  blame.Parts' gathering of runs, walked by hand: by this session. Conditions: as typed.
-/
import Derived.Test.YtkglfgikfeebhaaLive
import Derived.Test.YtkglfgikfeebhaaRuns
import Derived.Test.YtkglfgikfeebhaaWApart
namespace Go.Proofs.Ytkglfgikfeebhaa.X
open Go Go.RowKit Go.Shelf Go.Lib Go.Proofs.YtkglfgikfeebhaaW.PrintLast Go.Proofs.YtkglfgikfeebhaaW.PrintWords Go.Proofs.Ytkglfgikfeebhaa.P
set_option linter.unusedVariables false
/-- Does a cell go on with the one ahead? -/
def goesB (x y : S46) : Bool := (x.f0.f0 == y.f0.f0 && x.f0.f1 == y.f0.f1) && wrap64 (x.f1 + 1) == y.f1
theorem goes_w (a1 a2 a3 a4 : Int) (d : Bool) (b1 b2 b3 b4 : Int) (d' : Bool) (w : World) :
    Calls Try.prog 18 #[.agg #[.int .i64 a1, .int .i64 a2, .int .i64 a3, .int .i32 a4, .bool d], .agg #[.int .i64 b1, .int .i64 b2, .int .i64 b3, .int .i32 b4, .bool d']] w fun e w' => e = .returned (.bool (goesB ⟨⟨a1, a2⟩, a3, a4, d⟩ ⟨⟨b1, b2⟩, b3, b4, d'⟩)) ∧ Below w.heap.size w w' := by
  go_enter Try.func18, Try.ntmps18
  go_upto_region 1 with fail
  have hh1 : ((w.alloc (.cells #[.int .i64 a1, .int .i64 a2, .int .i64 a3, .int .i32 a4, .bool d] 46)).alloc (.cells #[.int .i64 b1, .int .i64 b2, .int .i64 b3, .int .i32 b4, .bool d'] 46)).heap[w.heap.size]? = some (.cells #[.int .i64 a1, .int .i64 a2, .int .i64 a3, .int .i32 a4, .bool d] 46 (0, 0)) := (Below.heap_alloc _ _ _ (by simp)).trans (Deep.blk_alloc_new w _)
  have hh2 : ((w.alloc (.cells #[.int .i64 a1, .int .i64 a2, .int .i64 a3, .int .i32 a4, .bool d] 46)).alloc (.cells #[.int .i64 b1, .int .i64 b2, .int .i64 b3, .int .i32 b4, .bool d'] 46)).heap[w.heap.size + 1]? = some (.cells #[.int .i64 b1, .int .i64 b2, .int .i64 b3, .int .i32 b4, .bool d'] 46 (0, 0)) := by
    have := Deep.blk_alloc_new (w.alloc (.cells #[.int .i64 a1, .int .i64 a2, .int .i64 a3, .int .i32 a4, .bool d] 46)) (.cells #[.int .i64 b1, .int .i64 b2, .int .i64 b3, .int .i32 b4, .bool d'] 46)
    rw [World.size_alloc] at this
    exact this
  have hb2 : Below w.heap.size w ((w.alloc (.cells #[.int .i64 a1, .int .i64 a2, .int .i64 a3, .int .i32 a4, .bool d] 46)).alloc (.cells #[.int .i64 b1, .int .i64 b2, .int .i64 b3, .int .i32 b4, .bool d'] 46)) := below_alloc (below_alloc (Below.refl _ _) _) _
  obtain ⟨W2, hW2⟩ : ∃ x, ((w.alloc (.cells #[.int .i64 a1, .int .i64 a2, .int .i64 a3, .int .i32 a4, .bool d] 46)).alloc (.cells #[.int .i64 b1, .int .i64 b2, .int .i64 b3, .int .i32 b4, .bool d'] 46)) = x := ⟨_, rfl⟩
  rw [hW2] at hh1 hh2 hb2 ⊢
  have r0 : W2.cell? ⟨w.heap.size, 0, none⟩ = some (.int .i64 a1) := blk_cell hh1 0
  have r1 : W2.cell? ⟨w.heap.size, 1, none⟩ = some (.int .i64 a2) := blk_cell hh1 1
  have r2 : W2.cell? ⟨w.heap.size, 2, none⟩ = some (.int .i64 a3) := blk_cell hh1 2
  have t0 : W2.cell? ⟨w.heap.size + 1, 0, none⟩ = some (.int .i64 b1) := blk_cell hh2 0
  have t1 : W2.cell? ⟨w.heap.size + 1, 1, none⟩ = some (.int .i64 b2) := blk_cell hh2 1
  have t2 : W2.cell? ⟨w.heap.size + 1, 2, none⟩ = some (.int .i64 b3) := blk_cell hh2 2
  clear hW2 hh1 hh2
  go_wp2
  all_goals go_ret
  all_goals refine ⟨?_, hb2⟩
  all_goals first
    | rfl
    | (simp_all [goesB]; done)
    | skip
theorem info_sc : (Try.prog.info? 22).map (fun i => (i.zero, i.size, i.bytes)) = some (some (.slice none 0 0), 1, 24) := by kernel_rfl
theorem store_run_ {P : Program} {a : Act} {o : Oper} {w : World} {g o' : Nat} {e : TypeId} {cur : Array Value} (t : TypeId) (p x : Operand) (u : Value) (seg : List Value) (ho : o.op = .store t p x) (haddr : a.eval p = .pointer (some ⟨g, o', none⟩)) (hx : a.eval x = u) (hh : w.heap[g]? = some (.cells cur e (0, 0))) (hu : u.cells.toList = seg) (ht : (P.info? t).map (·.size) = some seg.length)
    (hfit : o' + seg.length ≤ cur.size) (h1 : ∀ q ∈ seg, q.oneCell' = true) : (execOp a.eval o).run P w = .ok .skip (w.setCells g o' seg) := by
  unfold execOp
  simp only [ho, haddr, hx, Sem.run_bind, Sem.run_pure, Result.andThen_ok, run_store_run t u seg hh hu ht hfit h1]
set_option maxRecDepth 100000 in
set_option maxHeartbeats 16000000 in
/-- A cell is added to runs, the last of which ends in y. -/
theorem add_w (gR base : Nat) (v : Value) (yss : List (List S46)) (r : List S46) (y1 y2 y3 y4 a1 a2 a3 a4 : Int) (y5 a5 : Bool) (w : World) (hbg : base ≤ gR) (hbs : base ≤ w.heap.size) (hk : yss.length ≤ 20000) (hp : r.length ≤ 20000)
    (hR : w.heap[gR]? = some (.cells #[.func (.func 18) #[] #[], v] 55 (0, 0)))
    (hS : Kd.S (Kd.slice 46 k46) 22 w base (fun _ => True) v (yss ++ [r ++ [⟨⟨y1, y2⟩, y3, y4, y5⟩]])) :
    Calls Try.prog 19 #[.pointer (some ⟨gR, 0, none⟩), .agg #[.int .i64 a1, .int .i64 a2, .int .i64 a3, .int .i32 a4, .bool a5]] w fun e w' => e = .returned (.tuple #[]) ∧ (∃ v', w'.heap[gR]? = some (.cells #[.func (.func 18) #[] #[], v'] 55 (0, 0)) ∧ Kd.S (Kd.slice 46 k46) 22 w' base (fun _ => True) v' (addR goesB (yss ++ [r ++ [⟨⟨y1, y2⟩, y3, y4, y5⟩]]) ⟨⟨a1, a2⟩, a3, a4, a5⟩)) ∧ ∀ w0, Below base w0 w → Below base w0 w' := by
  obtain ⟨G, hG⟩ : ∃ G, goesB ⟨⟨y1, y2⟩, y3, y4, y5⟩ ⟨⟨a1, a2⟩, a3, a4, a5⟩ = G := ⟨_, rfl⟩
  have hAdd : addR goesB (yss ++ [r ++ [⟨⟨y1, y2⟩, y3, y4, y5⟩]]) ⟨⟨a1, a2⟩, a3, a4, a5⟩ = if G = true then yss ++ [r ++ [⟨⟨y1, y2⟩, y3, y4, y5⟩] ++ [⟨⟨a1, a2⟩, a3, a4, a5⟩]] else yss ++ [r ++ [⟨⟨y1, y2⟩, y3, y4, y5⟩]] ++ [[⟨⟨a1, a2⟩, a3, a4, a5⟩]] := by
    cases G with
    | true => rw [if_pos rfl, addR_on hG]
    | false => rw [if_neg (by simp), addR_new hG]
  rw [hAdd]
  clear hAdd
  obtain ⟨go, co, rfl, hbgo, hgolt, cO, hO⟩ := Kd.S_form hS (by simp)
  obtain ⟨k, hkk⟩ : ∃ k, yss.length = k := ⟨_, rfl⟩
  obtain ⟨p, hpp⟩ : ∃ p, r.length = p := ⟨_, rfl⟩
  rw [hkk] at hk
  rw [hpp] at hp
  have hk1 : (yss ++ [r ++ [(⟨⟨y1, y2⟩, y3, y4, y5⟩ : S46)]]).length = k + 1 := by simp [hkk]
  rw [hk1] at hR hS
  obtain ⟨rY, hrY⟩ : ∃ x, r ++ [(⟨⟨y1, y2⟩, y3, y4, y5⟩ : S46)] = x := ⟨_, rfl⟩
  have hp1 : rY.length = p + 1 := by rw [← hrY]; simp [hpp]
  have hlast : rY[p]? = some (⟨⟨y1, y2⟩, y3, y4, y5⟩ : S46) := by rw [← hrY, List.getElem?_append_right (by omega)]; simp [hpp]
  rw [hrY] at hS hk1 ⊢
  obtain ⟨oki, c, hcl, hM, hcc, hoki, hH⟩ := Kd.S_lend hS ([] : List S46) (k : Int) (by omega) (by omega)
  rw [show (yss ++ [rY]).getD (k : Int).toNat [] = rY by simp [List.getD_eq_getElem?_getD, ← hkk]] at hM
  obtain ⟨vi, rfl, hV⟩ := hM
  obtain ⟨gi, ci, rfl, hbgi, hgilt, cI, hI⟩ := Kd.R_form hV (by omega)
  rw [hp1] at hV hcc
  have ho : w.cell? ⟨go, k, none⟩ = some (.slice (some ⟨gi, 0, none⟩) (p + 1) ci) := by
    have := hcc 0 _ rfl
    simpa [Kd.slice] using this
  have hcO : cO[k]? = some (.slice (some ⟨gi, 0, none⟩) (p + 1) ci) := by rw [← ho, blk_cell hO k]
  have hC := (Kd.R_reads' hV).2.2
  obtain ⟨ad, e0, h0, h1, h2, h3, h4⟩ := at_T46 hC (p : Int) (by omega) (by omega)
  cases e0
  rw [Int.toNat_natCast, show rd_T46 rY (p : Int) = (⟨⟨y1, y2⟩, y3, y4, y5⟩ : S46) by simp [rd_T46, List.getD_eq_getElem?_getD, hlast]] at h0 h1 h2 h3 h4
  simp only [Addr.add_lit, Nat.zero_add] at h0 h1 h2 h3 h4
  replace h0 : w.cell? ⟨gi, p * 5, none⟩ = some (.int .i64 y1) := h0
  replace h1 : w.cell? ⟨gi, p * 5 + 1, none⟩ = some (.int .i64 y2) := h1
  replace h2 : w.cell? ⟨gi, p * 5 + 2, none⟩ = some (.int .i64 y3) := h2
  replace h3 : w.cell? ⟨gi, p * 5 + 3, none⟩ = some (.int .i32 y4) := h3
  replace h4 : w.cell? ⟨gi, p * 5 + 4, none⟩ = some (.bool y5) := h4
  have hoi : oki gi := by
    have := hV.1 gi (by simp [Value.ownBlock])
    exact this
  have hne : gR ≠ gi ∧ go ≠ gi ∧ w.heap.size ≠ gi ∧ gR ≠ go := ⟨blk_ne hR hI (by decide), blk_ne hO hI (by decide), by omega, blk_ne hR hO (by decide)⟩
  have HNE := Lib.hid hne
  have HOI := Lib.hid hoi
  have HOK := Lib.hid hoki
  have HBS := Lib.hid hbs
  have HR := Lib.hid hR
  have HO := Lib.hid hO
  have HV := Lib.hid hV
  have HH := Lib.hid hH
  have HSS := Lib.hid hS
  have HRY := Lib.hid hp1
  have HYS := Lib.hid (And.intro hkk hk1)
  have HG := Lib.hid (And.intro hbgo (And.intro hgolt hbgi))
  have hgo := fun (W : World) => goes_w y1 y2 y3 y4 y5 a1 a2 a3 a4 a5 W
  rw [hG] at hgo
  have hbx := Deep.blk_alloc_new w (.cells #[.int .i64 a1, .int .i64 a2, .int .i64 a3, .int .i32 a4, .bool a5] 46)
  have hb0 : Below w.heap.size w (w.alloc (.cells #[.int .i64 a1, .int .i64 a2, .int .i64 a3, .int .i32 a4, .bool a5] 46)) := below_alloc (Below.refl _ _) _
  have cc := fun (q : Addr) (v : Value) (h : w.cell? q = some v) => (hb0.cell (World.block_lt_of_cell? w _ h)).trans h
  have d0 := cc _ _ (show w.cell? ⟨gR, 0, none⟩ = some (.func (.func 18) #[] #[]) from blk_cell hR 0)
  have d1 := cc _ _ (show w.cell? ⟨gR, 1, none⟩ = some (.slice (some ⟨go, 0, none⟩) (k + 1) co) from blk_cell hR 1)
  have do_ := cc _ _ ho
  have e0 := cc _ _ h0
  have e1 := cc _ _ h1
  have e2 := cc _ _ h2
  have e3 := cc _ _ h3
  have e4 := cc _ _ h4
  clear cc hne hoi hR hO hV hH hS hp1 hkk hk1 hC h0 h1 h2 h3 h4 ho hlast hcc hcl hoki hI hbgi hgilt hbgo hgolt hrY hpp
  have u1 : wrap64 (((k + 1 : Nat) : Int) - 1) = (k : Int) := by unfold wrap64; omega
  have HU1 := Lib.hid u1
  clear u1
  have u2 : wrap64 (((p + 1 : Nat) : Int) - 1) = (p : Int) := by unfold wrap64; omega
  have u1 := HU1.out
  have k2 : (k : Int) < (k : Int) + 1 := by clear u1 u2; omega
  have p2 : (p : Int) < (p : Int) + 1 := by clear u1 u2; omega
  have HU2 := Lib.hid u2
  have u4 : wrap64 ((p : Int) + 1 - 1) = (p : Int) := by have := HU2.out; clear u1 u2; rw [show (p : Int) + 1 - 1 = ((p + 1 : Nat) : Int) - 1 by omega]; exact this
  have u5 : IntKind.i64.wrap ((p : Int) + 1 - 1) = (p : Int) := (i64_w _).trans u4
  have u6 : IntKind.i64.wrap (p : Int) = (p : Int) := (i64_w _).trans (by clear u1 u2 u4 u5; unfold wrap64; omega)
  have k0 : (0 : Int) ≤ (k : Int) := by clear u1 u2 u4 u5 u6; omega
  have k1 : (k : Int) < ((k + 1 : Nat) : Int) := by clear u1 u2 u4 u5 u6; omega
  have p0 : (0 : Int) ≤ (p : Int) := by clear u1 u2 u4 u5 u6; omega
  have p1 : (p : Int) < ((p + 1 : Nat) : Int) := by clear u1 u2 u4 u5 u6; omega
  go_enter Try.func19, Try.ntmps19
  go_upto_region 1 with fail
  obtain ⟨gB, hgB⟩ : ∃ x, w.heap.size = x := ⟨_, rfl⟩
  obtain ⟨W1, hW1⟩ : ∃ x, w.alloc (.cells #[.int .i64 a1, .int .i64 a2, .int .i64 a3, .int .i32 a4, .bool a5] 46) = x := ⟨_, rfl⟩
  rw [hW1] at hbx hb0 d0 d1 do_ e0 e1 e2 e3 e4 ⊢
  rw [hgB] at hbx ⊢
  go_upto_region 2 with fail
  have HB1 := Lib.hid hb0
  have HBX := Lib.hid hbx
  have x0 : W1.cell? ⟨gB, 0, none⟩ = some (.int .i64 a1) := blk_cell hbx 0
  have x1 : W1.cell? ⟨gB, 1, none⟩ = some (.int .i64 a2) := blk_cell hbx 1
  have x2 : W1.cell? ⟨gB, 2, none⟩ = some (.int .i64 a3) := blk_cell hbx 2
  have x3 : W1.cell? ⟨gB, 3, none⟩ = some (.int .i32 a4) := blk_cell hbx 3
  have x4 : W1.cell? ⟨gB, 4, none⟩ = some (.bool a5) := blk_cell hbx 4
  refine start_ (n := 28) (S := fun w' => Below W1.heap.size W1 w' ∧ w'.cell? ⟨gR, 0, none⟩ = some (.func (.func 18) #[] #[]) ∧ w'.cell? ⟨gR, 1, none⟩ = some (.slice (some ⟨go, 0, none⟩) (k + 1) co) ∧ w'.cell? ⟨go, k, none⟩ = some (.slice (some ⟨gi, 0, none⟩) (p + 1) ci) ∧ (w'.cell? ⟨gi, p * 5, none⟩ = some (.int .i64 y1) ∧ w'.cell? ⟨gi, p * 5 + 1, none⟩ = some (.int .i64 y2) ∧ w'.cell? ⟨gi, p * 5 + 2, none⟩ = some (.int .i64 y3) ∧ w'.cell? ⟨gi, p * 5 + 3, none⟩ = some (.int .i32 y4) ∧ w'.cell? ⟨gi, p * 5 + 4, none⟩ = some (.bool y5)) ∧ w'.cell? ⟨gB, 0, none⟩ = some (.int .i64 a1) ∧ w'.cell? ⟨gB, 1, none⟩ = some (.int .i64 a2) ∧ w'.cell? ⟨gB, 2, none⟩ = some (.int .i64 a3) ∧ w'.cell? ⟨gB, 3, none⟩ = some (.int .i32 a4) ∧ w'.cell? ⟨gB, 4, none⟩ = some (.bool a5)) (ds := []) #[false, false, false, false, false, false, false, false, false, false, false, false, false, false, false, false, false, false, false, false, false, false, false, false, false, false, false, false] (by kernel_rfl) rfl rfl ⟨(Below.refl _ W1).drew, d0, d1, do_, ⟨e0, e1, e2, e3, e4⟩, x0, x1, x2, x3, x4⟩ (fun hHeld => ?_)
  generalize W1.drew = w30 at hHeld ⊢
  refine pure_ (i := 0) (N := some 11) (v := ?_) (a' := ?_) #[true, false, false, false, false, false, false, false, false, false, false, false, false, false, false, false, false, false, false, false, false, false, false, false, false, false, false, false] rfl rfl (by kernel_rfl) (fun _ _ _ h => h) (Or.inl ⟨by rfl, ?_⟩) ?_ ?_
  rotate_left
  · intro w'
    go_simp
    with_reducible rfl
  rotate_left
  · simp only [Act.put, List.setIfInBounds_toArray, List.set_cons_zero, List.set_cons_succ]
    rfl
  refine pure_ (i := 1) (N := some 12) (v := ?_) (a' := ?_) #[true, true, false, false, false, false, false, false, false, false, false, false, false, false, false, false, false, false, false, false, false, false, false, false, false, false, false, false] rfl rfl (by kernel_rfl) (fun _ _ _ h => h) (Or.inl ⟨by rfl, ?_⟩) ?_ ?_
  rotate_left
  · intro w'
    go_simp
    with_reducible rfl
  rotate_left
  · simp only [Act.put, List.setIfInBounds_toArray, List.set_cons_zero, List.set_cons_succ]
    rfl
  refine pure_ (i := 2) (N := some 13) (v := ?_) (a' := ?_) #[true, true, true, false, false, false, false, false, false, false, false, false, false, false, false, false, false, false, false, false, false, false, false, false, false, false, false, false] rfl rfl (by kernel_rfl) (fun _ _ _ h => h) (Or.inl ⟨by rfl, ?_⟩) ?_ ?_
  rotate_left
  · intro w'
    go_simp
    with_reducible rfl
  rotate_left
  · simp only [Act.put, List.setIfInBounds_toArray, List.set_cons_zero, List.set_cons_succ]
    rfl
  refine pure_ (i := 3) (N := some 14) (v := ?_) (a' := ?_) #[true, true, true, true, false, false, false, false, false, false, false, false, false, false, false, false, false, false, false, false, false, false, false, false, false, false, false, false] rfl rfl (by kernel_rfl) (fun _ _ _ h => h) (Or.inl ⟨by rfl, ?_⟩) ?_ ?_
  rotate_left
  · intro w'
    go_simp
    with_reducible rfl
  rotate_left
  · simp only [Act.put, List.setIfInBounds_toArray, List.set_cons_zero, List.set_cons_succ]
    rfl
  refine pure_ (i := 4) (N := some 15) (v := ?_) (a' := ?_) #[true, true, true, true, true, false, false, false, false, false, false, false, false, false, false, false, false, false, false, false, false, false, false, false, false, false, false, false] rfl rfl (by kernel_rfl) (fun _ _ _ h => h) (Or.inl ⟨by rfl, ?_⟩) ?_ ?_
  rotate_left
  · intro w'
    go_simp
    with_reducible rfl
  rotate_left
  · simp only [Act.put, List.setIfInBounds_toArray, List.set_cons_zero, List.set_cons_succ]
    rfl
  refine pure_ (i := 5) (N := some 16) (v := ?_) (a' := ?_) #[true, true, true, true, true, true, false, false, false, false, false, false, false, false, false, false, false, false, false, false, false, false, false, false, false, false, false, false] rfl rfl (by kernel_rfl) (fun _ _ _ h => h) (Or.inl ⟨by rfl, ?_⟩) ?_ ?_
  rotate_left
  · intro w'
    go_simp
    with_reducible rfl
  rotate_left
  · simp only [Act.put, List.setIfInBounds_toArray, List.set_cons_zero, List.set_cons_succ]
    rfl
  refine take_ (i := 6) (N := some 17) (v := ?_) (a' := ?_) #[true, true, true, true, true, true, true, false, false, false, false, false, false, false, false, false, false, false, false, false, false, false, false, false, false, false, false, false] rfl rfl (by kernel_rfl) (fun _ _ _ h => h) (Or.inl ⟨by rfl, ?_⟩) hHeld ?_ ?_
  rotate_left
  · rintro w' ⟨s0, s1, s2, s3, ⟨s4, s5, s6, s7, s8⟩, s9, s10, s11, s12, s13⟩
    go_simp
    with_reducible rfl
  rotate_left
  · simp only [Act.put, List.setIfInBounds_toArray, List.set_cons_zero, List.set_cons_succ]
    rfl
  refine pure_ (i := 7) (N := some 18) (v := ?_) (a' := ?_) #[true, true, true, true, true, true, true, true, false, false, false, false, false, false, false, false, false, false, false, false, false, false, false, false, false, false, false, false] rfl rfl (by kernel_rfl) (fun _ _ _ h => h) (Or.inl ⟨by rfl, ?_⟩) ?_ ?_
  rotate_left
  · intro w'
    go_simp
    with_reducible rfl
  rotate_left
  · simp only [Act.put, List.setIfInBounds_toArray, List.set_cons_zero, List.set_cons_succ]
    rfl
  refine pure_ (i := 8) (N := some 19) (v := ?_) (a' := ?_) #[true, true, true, true, true, true, true, true, true, false, false, false, false, false, false, false, false, false, false, false, false, false, false, false, false, false, false, false] rfl rfl (by kernel_rfl) (fun _ _ _ h => h) (Or.inl ⟨by rfl, ?_⟩) ?_ ?_
  rotate_left
  · intro w'
    go_simp
    with_reducible rfl
  rotate_left
  · simp only [Act.put, List.setIfInBounds_toArray, List.set_cons_zero, List.set_cons_succ]
    rfl
  refine pure_ (i := 9) (N := some 20) (v := ?_) (a' := ?_) #[true, true, true, true, true, true, true, true, true, true, false, false, false, false, false, false, false, false, false, false, false, false, false, false, false, false, false, false] rfl rfl (by kernel_rfl) (fun _ _ _ h => h) (Or.inl ⟨by rfl, ?_⟩) ?_ ?_
  rotate_left
  · intro w'
    go_simp
    with_reducible rfl
  rotate_left
  · simp only [Act.put, List.setIfInBounds_toArray, List.set_cons_zero, List.set_cons_succ]
    rfl
  refine take_ (i := 10) (N := some 21) (v := ?_) (a' := ?_) #[true, true, true, true, true, true, true, true, true, true, true, false, false, false, false, false, false, false, false, false, false, false, false, false, false, false, false, false] rfl rfl (by kernel_rfl) (fun _ _ _ h => h) (Or.inl ⟨by rfl, ?_⟩) hHeld ?_ ?_
  rotate_left
  · rintro w' ⟨s0, s1, s2, s3, ⟨s4, s5, s6, s7, s8⟩, s9, s10, s11, s12, s13⟩
    go_simp
    with_reducible rfl
  rotate_left
  · simp only [Act.put, List.setIfInBounds_toArray, List.set_cons_zero, List.set_cons_succ]
    rfl
  refine pure_ (i := 11) (N := some 22) (v := ?_) (a' := ?_) #[true, true, true, true, true, true, true, true, true, true, true, true, false, false, false, false, false, false, false, false, false, false, false, false, false, false, false, false] rfl rfl (by kernel_rfl) (fun _ _ _ h => h) (Or.inl ⟨by rfl, ?_⟩) ?_ ?_
  rotate_left
  · intro w'
    go_simp
    with_reducible rfl
  rotate_left
  · simp only [Act.put, List.setIfInBounds_toArray, List.set_cons_zero, List.set_cons_succ]
    rfl
  refine pure_ (i := 12) (N := some 23) (v := ?_) (a' := ?_) #[true, true, true, true, true, true, true, true, true, true, true, true, true, false, false, false, false, false, false, false, false, false, false, false, false, false, false, false] rfl rfl (by kernel_rfl) (fun _ _ _ h => h) (Or.inl ⟨by rfl, ?_⟩) ?_ ?_
  rotate_left
  · intro w'
    go_simp
    with_reducible rfl
  rotate_left
  · simp only [Act.put, List.setIfInBounds_toArray, List.set_cons_zero, List.set_cons_succ]
    rfl
  refine take_ (i := 13) (N := some 24) (v := ?_) (a' := ?_) #[true, true, true, true, true, true, true, true, true, true, true, true, true, true, false, false, false, false, false, false, false, false, false, false, false, false, false, false] rfl rfl (by kernel_rfl) (fun _ _ _ h => h) (Or.inl ⟨by rfl, ?_⟩) hHeld ?_ ?_
  rotate_left
  · rintro w' ⟨s0, s1, s2, s3, ⟨s4, s5, s6, s7, s8⟩, s9, s10, s11, s12, s13⟩
    go_simp
    with_reducible rfl
  rotate_left
  · simp only [Act.put, List.setIfInBounds_toArray, List.set_cons_zero, List.set_cons_succ]
    rfl
  refine pure_ (i := 14) (N := some 25) (v := ?_) (a' := ?_) #[true, true, true, true, true, true, true, true, true, true, true, true, true, true, true, false, false, false, false, false, false, false, false, false, false, false, false, false] rfl rfl (by kernel_rfl) (fun _ _ _ h => h) (Or.inl ⟨by rfl, ?_⟩) ?_ ?_
  rotate_left
  · intro w'
    go_simp
    with_reducible rfl
  rotate_left
  · simp only [Act.put, List.setIfInBounds_toArray, List.set_cons_zero, List.set_cons_succ]
    rfl
  refine pure_ (i := 15) (N := some 26) (v := ?_) (a' := ?_) #[true, true, true, true, true, true, true, true, true, true, true, true, true, true, true, true, false, false, false, false, false, false, false, false, false, false, false, false] rfl rfl (by kernel_rfl) (fun _ _ _ h => h) (Or.inl ⟨by rfl, ?_⟩) ?_ ?_
  rotate_left
  · intro w'
    go_simp
    with_reducible rfl
  rotate_left
  · simp only [Act.put, List.setIfInBounds_toArray, List.set_cons_zero, List.set_cons_succ]
    rfl
  refine pure_ (i := 16) (N := some 27) (v := ?_) (a' := ?_) #[true, true, true, true, true, true, true, true, true, true, true, true, true, true, true, true, true, false, false, false, false, false, false, false, false, false, false, false] rfl rfl (by kernel_rfl) (fun _ _ _ h => h) (Or.inl ⟨by rfl, ?_⟩) ?_ ?_
  rotate_left
  · intro w'
    go_simp
    with_reducible rfl
  rotate_left
  · simp only [Act.put, List.setIfInBounds_toArray, List.set_cons_zero, List.set_cons_succ]
    rfl
  refine take_ (i := 17) (N := some 28) (v := ?_) (a' := ?_) #[true, true, true, true, true, true, true, true, true, true, true, true, true, true, true, true, true, true, false, false, false, false, false, false, false, false, false, false] rfl rfl (by kernel_rfl) (fun _ _ _ h => h) (Or.inl ⟨by rfl, ?_⟩) hHeld ?_ ?_
  rotate_left
  · rintro w' ⟨s0, s1, s2, s3, ⟨s4, s5, s6, s7, s8⟩, s9, s10, s11, s12, s13⟩
    go_simp
    with_reducible rfl
  rotate_left
  · simp only [Act.put, List.setIfInBounds_toArray, List.set_cons_zero, List.set_cons_succ]
    rfl
  refine pure_ (i := 18) (N := some 29) (v := ?_) (a' := ?_) #[true, true, true, true, true, true, true, true, true, true, true, true, true, true, true, true, true, true, true, false, false, false, false, false, false, false, false, false] rfl rfl (by kernel_rfl) (fun _ _ _ h => h) (Or.inl ⟨by rfl, ?_⟩) ?_ ?_
  rotate_left
  · intro w'
    go_simp
    with_reducible rfl
  rotate_left
  · simp only [Act.put, List.setIfInBounds_toArray, List.set_cons_zero, List.set_cons_succ]
    rfl
  refine pure_ (i := 19) (N := some 30) (v := ?_) (a' := ?_) #[true, true, true, true, true, true, true, true, true, true, true, true, true, true, true, true, true, true, true, true, false, false, false, false, false, false, false, false] rfl rfl (by kernel_rfl) (fun _ _ _ h => h) (Or.inl ⟨by rfl, ?_⟩) ?_ ?_
  rotate_left
  · intro w'
    go_simp
    with_reducible rfl
  rotate_left
  · simp only [Act.put, List.setIfInBounds_toArray, List.set_cons_zero, List.set_cons_succ]
    rfl
  refine take_ (i := 20) (N := some 31) (v := ?_) (a' := ?_) #[true, true, true, true, true, true, true, true, true, true, true, true, true, true, true, true, true, true, true, true, true, false, false, false, false, false, false, false] rfl rfl (by kernel_rfl) (fun _ _ _ h => h) (Or.inl ⟨by rfl, ?_⟩) hHeld ?_ ?_
  rotate_left
  · rintro w' ⟨s0, s1, s2, s3, ⟨s4, s5, s6, s7, s8⟩, s9, s10, s11, s12, s13⟩
    go_simp
    with_reducible rfl
  rotate_left
  · simp only [Act.put, List.setIfInBounds_toArray, List.set_cons_zero, List.set_cons_succ]
    rfl
  refine pure_ (i := 21) (N := some 32) (v := ?_) (a' := ?_) #[true, true, true, true, true, true, true, true, true, true, true, true, true, true, true, true, true, true, true, true, true, true, false, false, false, false, false, false] rfl rfl (by kernel_rfl) (fun _ _ _ h => h) (Or.inl ⟨by rfl, ?_⟩) ?_ ?_
  rotate_left
  · intro w'
    go_simp
    with_reducible rfl
  rotate_left
  · simp only [Act.put, List.setIfInBounds_toArray, List.set_cons_zero, List.set_cons_succ]
    rfl
  refine pure_ (i := 22) (N := some 33) (v := ?_) (a' := ?_) #[true, true, true, true, true, true, true, true, true, true, true, true, true, true, true, true, true, true, true, true, true, true, true, false, false, false, false, false] rfl rfl (by kernel_rfl) (fun _ _ _ h => h) (Or.inl ⟨by rfl, ?_⟩) ?_ ?_
  rotate_left
  · intro w'
    go_simp
    with_reducible rfl
  rotate_left
  · simp only [Act.put, List.setIfInBounds_toArray, List.set_cons_zero, List.set_cons_succ]
    rfl
  refine pure_ (i := 23) (N := some 34) (v := ?_) (a' := ?_) #[true, true, true, true, true, true, true, true, true, true, true, true, true, true, true, true, true, true, true, true, true, true, true, true, false, false, false, false] rfl rfl (by kernel_rfl) (fun _ _ _ h => h) (Or.inl ⟨by rfl, ?_⟩) ?_ ?_
  rotate_left
  · intro w'
    go_simp
    with_reducible rfl
  rotate_left
  · simp only [Act.put, List.setIfInBounds_toArray, List.set_cons_zero, List.set_cons_succ]
    rfl
  refine take_ (i := 24) (N := some 35) (v := ?_) (a' := ?_) #[true, true, true, true, true, true, true, true, true, true, true, true, true, true, true, true, true, true, true, true, true, true, true, true, true, false, false, false] rfl rfl (by kernel_rfl) (fun _ _ _ h => h) (Or.inl ⟨by rfl, ?_⟩) hHeld ?_ ?_
  rotate_left
  · rintro w' ⟨s0, s1, s2, s3, ⟨s4, s5, s6, s7, s8⟩, s9, s10, s11, s12, s13⟩
    go_simp
    with_reducible rfl
  rotate_left
  · simp only [Act.put, List.setIfInBounds_toArray, List.set_cons_zero, List.set_cons_succ]
    rfl
  refine take_ (i := 25) (N := some 36) (v := ?_) (a' := ?_) #[true, true, true, true, true, true, true, true, true, true, true, true, true, true, true, true, true, true, true, true, true, true, true, true, true, true, false, false] rfl rfl (by kernel_rfl) (fun _ _ _ h => h) (Or.inl ⟨by rfl, ?_⟩) hHeld ?_ ?_
  rotate_left
  · rintro w' ⟨s0, s1, s2, s3, ⟨s4, s5, s6, s7, s8⟩, s9, s10, s11, s12, s13⟩
    go_simp
    with_reducible rfl
  rotate_left
  · simp only [Act.put, List.setIfInBounds_toArray, List.set_cons_zero, List.set_cons_succ]
    rfl
  refine one_ (i := 26) (N := some 37) #[true, true, true, true, true, true, true, true, true, true, true, true, true, true, true, true, true, true, true, true, true, true, true, true, true, true, true, false] rfl rfl (by kernel_rfl) (by decide) (fun K hK => ?_)
  refine call_ 18 #[.agg #[.int .i64 y1, .int .i64 y2, .int .i64 y3, .int .i32 y4, .bool y5], .agg #[.int .i64 a1, .int .i64 a2, .int .i64 a3, .int .i32 a4, .bool a5]] (by rfl) rfl ?hrun ?_
  case hrun => first | (go_simp; done) | (go_simp; rfl)
  refine (hgo _).mono ?_
  rintro e w31 ⟨rfl, hb31⟩
  refine ⟨_, rfl, ?_⟩
  have hE : Below W1.heap.size W1 w31 := below_step hHeld.1 hb31
  have kk := fun (q : Addr) (v : Value) (h : w30.cell? q = some v) => (hb31.cell (World.block_lt_of_cell? w30 _ h)).trans h
  refine hK.out _ _ ⟨hE, kk _ _ hHeld.2.1, kk _ _ hHeld.2.2.1, kk _ _ hHeld.2.2.2.1, ⟨kk _ _ hHeld.2.2.2.2.1.1, kk _ _ hHeld.2.2.2.2.1.2.1, kk _ _ hHeld.2.2.2.2.1.2.2.1, kk _ _ hHeld.2.2.2.2.1.2.2.2.1, kk _ _ hHeld.2.2.2.2.1.2.2.2.2⟩, kk _ _ hHeld.2.2.2.2.2.1, kk _ _ hHeld.2.2.2.2.2.2.1, kk _ _ hHeld.2.2.2.2.2.2.2.1, kk _ _ hHeld.2.2.2.2.2.2.2.2.1, kk _ _ hHeld.2.2.2.2.2.2.2.2.2⟩ (fun hHeld => ?_)
  clear hK K kk hb31 hE
  refine norm_ (a' := ?_) ?_ ?_
  rotate_left
  · show Act.put _ (some 37) _ = _
    simp only [Act.put, List.setIfInBounds_toArray, List.set_cons_zero, List.set_cons_succ]
    rfl
  refine pure_ (i := 27) (N := some 38) (v := ?_) (a' := ?_) #[true, true, true, true, true, true, true, true, true, true, true, true, true, true, true, true, true, true, true, true, true, true, true, true, true, true, true, true] rfl rfl (by kernel_rfl) (fun _ _ _ h => h) (Or.inl ⟨by rfl, ?_⟩) ?_ ?_
  rotate_left
  · intro w'
    go_simp
    with_reducible rfl
  rotate_left
  · simp only [Act.put, List.setIfInBounds_toArray, List.set_cons_zero, List.set_cons_succ]
    rfl
  refine done_ (by kernel_rfl) ?_
  have HS := Lib.hid hHeld
  clear hHeld hbx hb0 d0 d1 do_ e0 e1 e2 e3 e4 x0 x1 x2 x3 x4
  cases G with
  | true =>
    go_upto_region 3 with fail
    clear hgo u1 u2 u4 u5 u6 p0 p1 p2 hG
    obtain ⟨hb31, _⟩ := HS.out
    have hF31 := below_step HB1.out hb31
    have hB31 : Below base w w31 := hF31.mono hbs
    have hw31 : w.heap.size ≤ w31.heap.size := hF31.size
    have hR3 : w31.heap[gR]? = some (.cells #[.func (.func 18) #[] #[], (.slice (some ⟨go, 0, none⟩) (k + 1) co)] 55 (0, 0)) := blk_below HR.out hF31
    have hO3 : w31.heap[go]? = some (.cells cO 22 (0, 0)) := blk_below HO.out hF31
    have hX3 : w31.heap[gB]? = some (.cells #[.int .i64 a1, .int .i64 a2, .int .i64 a3, .int .i32 a4, .bool a5] 46 (0, 0)) := blk_below HBX.out hb31
    have hv3 := Kd.R_below HV.out hF31
    have hH3 := Kd.H_widen (Kd.H_below HH.out hF31)
    have hlt : w.heap.size = gB := hgB
    refine start_ (n := 17) (S := fun w' => w'.heap[gR]? = some (.cells #[.func (.func 18) #[] #[], (.slice (some ⟨go, 0, none⟩) (k + 1) co)] 55 (0, 0)) ∧ w'.heap[go]? = some (.cells cO 22 (0, 0)) ∧ w'.heap[gB]? = some (.cells #[.int .i64 a1, .int .i64 a2, .int .i64 a3, .int .i32 a4, .bool a5] 46 (0, 0))) (ds := [16]) #[false, false, false, false, false, false, false, false, false, false, false, false, false, false, false, false, false] (by kernel_rfl) rfl rfl ⟨hR3, hO3, hX3⟩ (fun hHeld => ?_)
    have hD := (Below.refl w31.heap.size w31).drew
    have HV3 := Lib.hid (Kd.R_drew hv3)
    have HH3 := Lib.hid (Kd.H_drew hH3)
    have HB3 := Lib.hid (Below.trans hB31 (hD.mono (Nat.le_trans hbs hw31)))
    have hs3 : w.heap.size ≤ w31.drew.heap.size := hw31
    have HZ := Lib.hid (show w31.heap.size ≤ w31.drew.heap.size from Nat.le_refl _)
    clear hR3 hO3 hX3 hv3 hH3 hD hb31 hF31 hB31
    generalize w31.drew = w40 at hHeld HV3 HH3 HB3 hs3 HZ ⊢
    refine pure_ (i := 0) (N := some 39) (v := ?_) (a' := ?_) #[true, false, false, false, false, false, false, false, false, false, false, false, false, false, false, false, false] rfl rfl (by kernel_rfl) (fun _ _ _ h => h) (Or.inl ⟨by rfl, ?_⟩) ?_ ?_
    rotate_left
    · intro w'
      go_simp
      with_reducible rfl
    rotate_left
    · simp only [Act.put, List.setIfInBounds_toArray, List.set_cons_zero, List.set_cons_succ]
      rfl
    refine pure_ (i := 1) (N := some 40) (v := ?_) (a' := ?_) #[true, true, false, false, false, false, false, false, false, false, false, false, false, false, false, false, false] rfl rfl (by kernel_rfl) (fun _ _ _ h => h) (Or.inl ⟨by rfl, ?_⟩) ?_ ?_
    rotate_left
    · intro w'
      go_simp
      with_reducible rfl
    rotate_left
    · simp only [Act.put, List.setIfInBounds_toArray, List.set_cons_zero, List.set_cons_succ]
      rfl
    refine pure_ (i := 2) (N := some 41) (v := ?_) (a' := ?_) #[true, true, true, false, false, false, false, false, false, false, false, false, false, false, false, false, false] rfl rfl (by kernel_rfl) (fun _ _ _ h => h) (Or.inl ⟨by rfl, ?_⟩) ?_ ?_
    rotate_left
    · intro w'
      go_simp
      with_reducible rfl
    rotate_left
    · simp only [Act.put, List.setIfInBounds_toArray, List.set_cons_zero, List.set_cons_succ]
      rfl
    refine take_ (i := 3) (N := some 42) (v := ?_) (a' := ?_) #[true, true, true, true, false, false, false, false, false, false, false, false, false, false, false, false, false] rfl rfl (by kernel_rfl) (fun _ _ _ h => h) (Or.inl ⟨by rfl, ?_⟩) hHeld ?_ ?_
    rotate_left
    · rintro w' ⟨b0, b1, b2⟩
      have s0 := blk_cell b0 1
      have s1 := (blk_cell b1 k).trans hcO
      have s2 := blk_cell b2 0
      have s3 := blk_cell b2 1
      have s4 := blk_cell b2 2
      have s5 := blk_cell b2 3
      have s6 := blk_cell b2 4
      go_simp
      with_reducible rfl
    rotate_left
    · simp only [Act.put, List.setIfInBounds_toArray, List.set_cons_zero, List.set_cons_succ]
      rfl
    refine pure_ (i := 4) (N := some 43) (v := ?_) (a' := ?_) #[true, true, true, true, true, false, false, false, false, false, false, false, false, false, false, false, false] rfl rfl (by kernel_rfl) (fun _ _ _ h => h) (Or.inl ⟨by rfl, ?_⟩) ?_ ?_
    rotate_left
    · intro w'
      go_simp
      with_reducible rfl
    rotate_left
    · simp only [Act.put, List.setIfInBounds_toArray, List.set_cons_zero, List.set_cons_succ]
      rfl
    refine pure_ (i := 5) (N := some 44) (v := ?_) (a' := ?_) #[true, true, true, true, true, true, false, false, false, false, false, false, false, false, false, false, false] rfl rfl (by kernel_rfl) (fun _ _ _ h => h) (Or.inl ⟨by rfl, ?_⟩) ?_ ?_
    rotate_left
    · intro w'
      go_simp
      with_reducible rfl
    rotate_left
    · simp only [Act.put, List.setIfInBounds_toArray, List.set_cons_zero, List.set_cons_succ]
      rfl
    refine pure_ (i := 6) (N := some 45) (v := ?_) (a' := ?_) #[true, true, true, true, true, true, true, false, false, false, false, false, false, false, false, false, false] rfl rfl (by kernel_rfl) (fun _ _ _ h => h) (Or.inl ⟨by rfl, ?_⟩) ?_ ?_
    rotate_left
    · intro w'
      go_simp
      with_reducible rfl
    rotate_left
    · simp only [Act.put, List.setIfInBounds_toArray, List.set_cons_zero, List.set_cons_succ]
      rfl
    refine pure_ (i := 7) (N := some 46) (v := ?_) (a' := ?_) #[true, true, true, true, true, true, true, true, false, false, false, false, false, false, false, false, false] rfl rfl (by kernel_rfl) (fun _ _ _ h => h) (Or.inl ⟨by rfl, ?_⟩) ?_ ?_
    rotate_left
    · intro w'
      go_simp
      with_reducible rfl
    rotate_left
    · simp only [Act.put, List.setIfInBounds_toArray, List.set_cons_zero, List.set_cons_succ]
      rfl
    refine take_ (i := 8) (N := some 47) (v := ?_) (a' := ?_) #[true, true, true, true, true, true, true, true, true, false, false, false, false, false, false, false, false] rfl rfl (by kernel_rfl) (fun _ _ _ h => h) (Or.inl ⟨by rfl, ?_⟩) hHeld ?_ ?_
    rotate_left
    · rintro w' ⟨b0, b1, b2⟩
      have s0 := blk_cell b0 1
      have s1 := (blk_cell b1 k).trans hcO
      have s2 := blk_cell b2 0
      have s3 := blk_cell b2 1
      have s4 := blk_cell b2 2
      have s5 := blk_cell b2 3
      have s6 := blk_cell b2 4
      go_simp
      with_reducible rfl
    rotate_left
    · simp only [Act.put, List.setIfInBounds_toArray, List.set_cons_zero, List.set_cons_succ]
      rfl
    refine pure_ (i := 9) (N := some 48) (v := ?_) (a' := ?_) #[true, true, true, true, true, true, true, true, true, true, false, false, false, false, false, false, false] rfl rfl (by kernel_rfl) (fun _ _ _ h => h) (Or.inl ⟨by rfl, ?_⟩) ?_ ?_
    rotate_left
    · intro w'
      go_simp
      with_reducible rfl
    rotate_left
    · simp only [Act.put, List.setIfInBounds_toArray, List.set_cons_zero, List.set_cons_succ]
      rfl
    refine pure_ (i := 10) (N := some 49) (v := ?_) (a' := ?_) #[true, true, true, true, true, true, true, true, true, true, true, false, false, false, false, false, false] rfl rfl (by kernel_rfl) (fun _ _ _ h => h) (Or.inl ⟨by rfl, ?_⟩) ?_ ?_
    rotate_left
    · intro w'
      go_simp
      with_reducible rfl
    rotate_left
    · simp only [Act.put, List.setIfInBounds_toArray, List.set_cons_zero, List.set_cons_succ]
      rfl
    refine take_ (i := 11) (N := some 50) (v := ?_) (a' := ?_) #[true, true, true, true, true, true, true, true, true, true, true, true, false, false, false, false, false] rfl rfl (by kernel_rfl) (fun _ _ _ h => h) (Or.inl ⟨by rfl, ?_⟩) hHeld ?_ ?_
    rotate_left
    · rintro w' ⟨b0, b1, b2⟩
      have s0 := blk_cell b0 1
      have s1 := (blk_cell b1 k).trans hcO
      have s2 := blk_cell b2 0
      have s3 := blk_cell b2 1
      have s4 := blk_cell b2 2
      have s5 := blk_cell b2 3
      have s6 := blk_cell b2 4
      go_simp
      with_reducible rfl
    rotate_left
    · simp only [Act.put, List.setIfInBounds_toArray, List.set_cons_zero, List.set_cons_succ]
      rfl
    refine take_ (i := 12) (N := some 51) (v := ?_) (a' := ?_) #[true, true, true, true, true, true, true, true, true, true, true, true, true, false, false, false, false] rfl rfl (by kernel_rfl) (fun _ _ _ h => h) (Or.inl ⟨by rfl, ?_⟩) hHeld ?_ ?_
    rotate_left
    · rintro w' ⟨b0, b1, b2⟩
      have s0 := blk_cell b0 1
      have s1 := (blk_cell b1 k).trans hcO
      have s2 := blk_cell b2 0
      have s3 := blk_cell b2 1
      have s4 := blk_cell b2 2
      have s5 := blk_cell b2 3
      have s6 := blk_cell b2 4
      go_simp
      with_reducible rfl
    rotate_left
    · simp only [Act.put, List.setIfInBounds_toArray, List.set_cons_zero, List.set_cons_succ]
      rfl
    refine one_ (i := 13) (N := some 52) #[true, true, true, true, true, true, true, true, true, true, true, true, true, true, false, false, false] rfl rfl (by kernel_rfl) (by decide) (fun K hK => ?_)
    refine value_ (v := .slice (some ⟨w40.heap.size, 0, none⟩) 1 1) (w1 := w40.alloc (.cells #[.int .i64 a1, .int .i64 a2, .int .i64 a3, .int .i32 a4, .bool a5] 46)) (by rfl) rfl ?hr ?_
    case hr => first | (go_simp; done) | (go_simp; rfl)
    refine hK.out _ _ ⟨blk_alloc hHeld.1 _, blk_alloc hHeld.2.1 _, blk_alloc hHeld.2.2 _⟩ (fun hHeld2 => ?_)
    clear hK K hHeld2
    refine norm_ (a' := ?_) ?_ ?_
    rotate_left
    · show Act.put _ (some 52) _ = _
      simp only [Act.put, List.setIfInBounds_toArray, List.set_cons_zero, List.set_cons_succ]
      rfl
    refine one_ (i := 14) (N := some 53) #[true, true, true, true, true, true, true, true, true, true, true, true, true, true, true, false, false] rfl rfl (by kernel_rfl) (by decide) (fun K hK => ?_)
    refine Kd.R_append_step k46 (w0 := w40) base (by rfl) (.tmp 50) (.tmp 52) 22 46 (.agg #[(.int .i64 0), (.int .i64 0), (.int .i64 0), (.int .i32 0), (.bool false)]) 32 rfl Try.underlying22 info46 rfl (by decide) (by decide) (.slice (some ⟨gi, 0, none⟩) (p + 1) ci) rY (⟨⟨a1, a2⟩, a3, a4, a5⟩ : S46) [.int .i64 a1, .int .i64 a2, .int .i64 a3, .int .i32 a4, .bool a5] (fun k => oki k ∨ True ∧ w31.heap.size ≤ k) (fun _ => False) rfl rfl (k46_mkM _ _ _ _) (fun _ h => h.elim) (fun k hk => Or.inr ⟨trivial, Nat.le_trans HZ.out hk⟩) (Kd.R_mono HV3.out (fun _ h => Or.inl h)) (Below.refl _ _) (Nat.le_trans hbs hs3) ?aL ?_
    case aL => rw [HRY.out]; omega
    intro v2 w41 hv41 hb41 hg41 hat41
    have hoB : (Value.slice (some ⟨gi, 0, none⟩) (p + 1) ci).ownBlock = some gi := by simp [Value.ownBlock]
    rw [hoB] at hg41
    have hne := HNE.out
    have hL0 := (hg41.block gR (blk_lt hHeld.1) (by intro e; injection e with e; exact hne.1 e)).trans hHeld.1
    have hL1 := (hg41.block go (blk_lt hHeld.2.1) (by intro e; injection e with e; exact hne.2.1 e)).trans hHeld.2.1
    have hL2 := (hg41.block gB (blk_lt hHeld.2.2) (by intro e; injection e with e; exact hne.2.2.1 (hlt.trans e))).trans hHeld.2.2
    have HH4 := Lib.hid (Kd.H_grown HH3.out hg41 (fun k hk => by injection hk with hk; subst hk; exact Or.inl HOI.out))
    have HV4 := Lib.hid hv41
    have HB4 := Lib.hid (Below.trans HB3.out hb41)
    have hs4 : w40.heap.size ≤ w41.heap.size := hb41.size
    refine hK.out _ _ ⟨hL0, hL1, hL2⟩ (fun hHeld => ?_)
    clear hK K hv41 hb41 hg41 hat41 hL0 hL1 hL2 hoB
    refine norm_ (a' := ?_) ?_ ?_
    rotate_left
    · show Act.put _ (some 53) _ = _
      simp only [Act.put, List.setIfInBounds_toArray, List.set_cons_zero, List.set_cons_succ]
      rfl
    refine pure_ (i := 15) (N := some 54) (v := ?_) (a' := ?_) #[true, true, true, true, true, true, true, true, true, true, true, true, true, true, true, true, false] rfl rfl (by kernel_rfl) (fun _ _ _ h => h) (Or.inl ⟨by rfl, ?_⟩) ?_ ?_
    rotate_left
    · intro w'
      go_simp
      with_reducible rfl
    rotate_left
    · simp only [Act.put, List.setIfInBounds_toArray, List.set_cons_zero, List.set_cons_succ]
      rfl
    refine last_ (i := 16) (N := none) #[true, true, true, true, true, true, true, true, true, true, true, true, true, true, true, true, true] rfl rfl (by kernel_rfl) (by decide) (fun K hK => ?_)
    have hv2 := Kd.R_val HV4.out
    obtain ⟨hH5, hg5⟩ := Kd.H_seg HH4.out (seg := [v2]) (j := 0) (by omega) (by omega) (show 0 + 1 ≤ 1 by decide) (fun q hq => by rw [List.mem_singleton.1 hq]; exact hv2.2)
    rw [show ((k : Int).toNat * (Kd.slice 46 k46).sz + 0) = k by simp [Kd.slice]] at hH5 hg5
    have hV5 := Kd.R_grown HV4.out hg5 (fun q hq e => by injection e with e; subst e; rcases hq with hq | hq; exact (HOK.out _ hq).2 rfl; have := HG.out.2.1; have := hw31; omega)
    have hS5 := Kd.H_back hH5 (x' := rY ++ [⟨⟨a1, a2⟩, a3, a4, a5⟩]) ⟨v2, rfl, hV5⟩ (fun _ h => h)
    rw [show (yss ++ [rY]).set (k : Int).toNat (rY ++ [⟨⟨a1, a2⟩, a3, a4, a5⟩]) = yss ++ [rY ++ [⟨⟨a1, a2⟩, a3, a4, a5⟩]] by simp [← HYS.out.1]] at hS5
    have hR5 := (hg5.block gR (blk_lt hHeld.1) (by intro e; injection e with e; exact HNE.out.2.2.2 e)).trans hHeld.1
    have hB5 := HB4.out.grown hg5 (Nat.le_trans (Nat.le_trans HBS.out hs3) hs4) (fun q e => by injection e with e; subst e; exact HG.out.1)
    have hfit : k + 1 ≤ cO.size := by have := (Array.getElem?_eq_some_iff.1 hcO).1; omega
    refine skip_ (w1 := w41.setCells go k [v2]) (by rfl) rfl ?hr ?_
    case hr => exact store_run_ 22 (.tmp 54) (.tmp 53) v2 [v2] rfl rfl rfl hHeld.2.1 hv2.1 (by kernel_rfl) hfit (fun q hq => by rw [List.mem_singleton.1 hq]; exact hv2.2)
    have HFIN := Lib.hid (And.intro hR5 (And.intro hS5 hB5))
    clear hR5 hS5 hB5 hV5 hH5 hg5 hv2 hfit
    refine hK.out _ _ ?_
    clear hK K
    refine done_ (by kernel_rfl) ?_
    go_wp2
    refine bodyPost_ret (results_none rfl _ _ _) rfl ?_
    refine ⟨rfl, ⟨_, HFIN.out.1, HFIN.out.2.1⟩, fun w0 h0 => Below.trans h0 HFIN.out.2.2⟩
  | false =>
    go_upto_region 4 with fail
    clear hgo u1 u2 u4 u5 u6 p0 p1 p2 hG
    obtain ⟨hb31, _⟩ := HS.out
    have hF31 := below_step HB1.out hb31
    have hB31 : Below base w w31 := hF31.mono hbs
    have hw31 : w.heap.size ≤ w31.heap.size := hF31.size
    have hR3 : w31.heap[gR]? = some (.cells #[.func (.func 18) #[] #[], (.slice (some ⟨go, 0, none⟩) (k + 1) co)] 55 (0, 0)) := blk_below HR.out hF31
    have hX3 : w31.heap[gB]? = some (.cells #[.int .i64 a1, .int .i64 a2, .int .i64 a3, .int .i32 a4, .bool a5] 46 (0, 0)) := blk_below HBX.out hb31
    have hS3 := Kd.S_below HSS.out hF31
    have HSW := Lib.hid HSS.out
    have hlt : w.heap.size = gB := hgB
    clear hb31 hF31
    refine start_ (n := 12) (S := fun w' => w'.heap[gR]? = some (.cells #[.func (.func 18) #[] #[], (.slice (some ⟨go, 0, none⟩) (k + 1) co)] 55 (0, 0)) ∧ w'.heap[gB]? = some (.cells #[.int .i64 a1, .int .i64 a2, .int .i64 a3, .int .i32 a4, .bool a5] 46 (0, 0))) (ds := [11]) #[false, false, false, false, false, false, false, false, false, false, false, false] (by kernel_rfl) rfl rfl ⟨hR3, hX3⟩ (fun hHeld => ?_)
    have hD := (Below.refl w31.heap.size w31).drew
    have HS3 := Lib.hid (Kd.S_drew hS3)
    have HB3 := Lib.hid (Below.trans hB31 (hD.mono (Nat.le_trans hbs hw31)))
    have hs3 : base ≤ w31.drew.heap.size := Nat.le_trans hbs hw31
    clear hR3 hX3 hS3 hD hB31
    generalize w31.drew = w40 at hHeld HS3 HB3 hs3 ⊢
    refine pure_ (i := 0) (N := some 55) (v := ?_) (a' := ?_) #[true, false, false, false, false, false, false, false, false, false, false, false] rfl rfl (by kernel_rfl) (fun _ _ _ h => h) (Or.inl ⟨by rfl, ?_⟩) ?_ ?_
    rotate_left
    · intro w'
      go_simp
      with_reducible rfl
    rotate_left
    · simp only [Act.put, List.setIfInBounds_toArray, List.set_cons_zero, List.set_cons_succ]
      rfl
    refine pure_ (i := 1) (N := some 56) (v := ?_) (a' := ?_) #[true, true, false, false, false, false, false, false, false, false, false, false] rfl rfl (by kernel_rfl) (fun _ _ _ h => h) (Or.inl ⟨by rfl, ?_⟩) ?_ ?_
    rotate_left
    · intro w'
      go_simp
      with_reducible rfl
    rotate_left
    · simp only [Act.put, List.setIfInBounds_toArray, List.set_cons_zero, List.set_cons_succ]
      rfl
    refine pure_ (i := 2) (N := some 57) (v := ?_) (a' := ?_) #[true, true, true, false, false, false, false, false, false, false, false, false] rfl rfl (by kernel_rfl) (fun _ _ _ h => h) (Or.inl ⟨by rfl, ?_⟩) ?_ ?_
    rotate_left
    · intro w'
      go_simp
      with_reducible rfl
    rotate_left
    · simp only [Act.put, List.setIfInBounds_toArray, List.set_cons_zero, List.set_cons_succ]
      rfl
    refine pure_ (i := 3) (N := some 58) (v := ?_) (a' := ?_) #[true, true, true, true, false, false, false, false, false, false, false, false] rfl rfl (by kernel_rfl) (fun _ _ _ h => h) (Or.inl ⟨by rfl, ?_⟩) ?_ ?_
    rotate_left
    · intro w'
      go_simp
      with_reducible rfl
    rotate_left
    · simp only [Act.put, List.setIfInBounds_toArray, List.set_cons_zero, List.set_cons_succ]
      rfl
    refine take_ (i := 4) (N := some 59) (v := ?_) (a' := ?_) #[true, true, true, true, true, false, false, false, false, false, false, false] rfl rfl (by kernel_rfl) (fun _ _ _ h => h) (Or.inl ⟨by rfl, ?_⟩) hHeld ?_ ?_
    rotate_left
    · rintro w' ⟨b0, b1⟩
      have s0 := blk_cell b0 1
      have s2 := blk_cell b1 0
      have s3 := blk_cell b1 1
      have s4 := blk_cell b1 2
      have s5 := blk_cell b1 3
      have s6 := blk_cell b1 4
      go_simp
      with_reducible rfl
    rotate_left
    · simp only [Act.put, List.setIfInBounds_toArray, List.set_cons_zero, List.set_cons_succ]
      rfl
    refine take_ (i := 5) (N := some 60) (v := ?_) (a' := ?_) #[true, true, true, true, true, true, false, false, false, false, false, false] rfl rfl (by kernel_rfl) (fun _ _ _ h => h) (Or.inl ⟨by rfl, ?_⟩) hHeld ?_ ?_
    rotate_left
    · rintro w' ⟨b0, b1⟩
      have s0 := blk_cell b0 1
      have s2 := blk_cell b1 0
      have s3 := blk_cell b1 1
      have s4 := blk_cell b1 2
      have s5 := blk_cell b1 3
      have s6 := blk_cell b1 4
      go_simp
      with_reducible rfl
    rotate_left
    · simp only [Act.put, List.setIfInBounds_toArray, List.set_cons_zero, List.set_cons_succ]
      rfl
    refine one_ (i := 6) (N := some 61) #[true, true, true, true, true, true, true, false, false, false, false, false] rfl rfl (by kernel_rfl) (by decide) (fun K hK => ?_)
    refine Kd.R_lit_step k46 w40.heap.size 46 (w0 := w40) (by rfl) (N := 61) rfl (xs := [(⟨⟨a1, a2⟩, a3, a4, a5⟩ : S46)]) (inner := [.int .i64 a1, .int .i64 a2, .int .i64 a3, .int .i32 a4, .bool a5]) (ok := fun q => w40.heap.size ≤ q) (okp := fun q => w40.heap.size ≤ q) ?hr ?hp (fun _ hk => hk) (Nat.le_refl _) (Below.refl _ _) (Nat.le_refl _) (by simp) ?_
    case hr => first | (go_simp; done) | (go_simp; rfl)
    case hp => exact Reps.snoc (ps := []) (cs := []) (Reps.none _ _) (k46_mkM _ _ _ ⟨⟨a1, a2⟩, a3, a4, a5⟩) rfl
    intro v2 w41 hv2 hb41 hg41 hn41
    have HV2 := Lib.hid (Kd.R_lower hv2 hs3)
    have HS4 := Lib.hid (Kd.S_old HS3.out hb41)
    have HB4 := Lib.hid (Below.trans HB3.out (hb41.mono hs3))
    have hs4 : w40.heap.size ≤ w41.heap.size := hb41.size
    refine hK.out _ _ ⟨blk_below hHeld.1 hb41, blk_below hHeld.2 hb41⟩ (fun hHeld => ?_)
    clear hK K hv2 hb41 hg41 hn41 HB3
    refine norm_ (a' := ?_) ?_ ?_
    rotate_left
    · show Act.put _ (some 61) _ = _
      simp only [Act.put, List.setIfInBounds_toArray, List.set_cons_zero, List.set_cons_succ]
      rfl
    refine one_ (i := 7) (N := some 62) #[true, true, true, true, true, true, true, true, false, false, false, false] rfl rfl (by kernel_rfl) (by decide) (fun K hK => ?_)
    refine value_ (v := .slice (some ⟨w41.heap.size, 0, none⟩) 1 1) (w1 := w41.alloc (.cells #[v2] 22)) (by rfl) rfl ?hr ?_
    case hr => have hvc := Kd.R_val HV2.out; obtain ⟨A2, c2, rfl⟩ := Kd.R_slice HV2.out; first | (go_simp; done) | (go_simp; rfl)
    refine hK.out _ _ ⟨blk_alloc hHeld.1 _, blk_alloc hHeld.2 _⟩ (fun hHeld2 => ?_)
    clear hK K hHeld2
    refine norm_ (a' := ?_) ?_ ?_
    rotate_left
    · show Act.put _ (some 62) _ = _
      simp only [Act.put, List.setIfInBounds_toArray, List.set_cons_zero, List.set_cons_succ]
      rfl
    refine one_ (i := 8) (N := some 63) #[true, true, true, true, true, true, true, true, true, false, false, false] rfl rfl (by kernel_rfl) (by decide) (fun K hK => ?_)
    refine Kd.S_append_step (Kd.slice 46 k46) (w0 := w) (W := w41) base (by rfl) (.tmp 59) (.tmp 62) 53 22 (.slice none 0 0) 24 rfl Try.underlying53 info_sc rfl (by decide) (by decide) (.slice (some ⟨go, 0, none⟩) (k + 1) co) (yss ++ [rY]) [(⟨⟨a1, a2⟩, a3, a4, a5⟩ : S46)] [v2] (fun _ => True) (fun q => w40.heap.size ≤ q) rfl rfl ⟨v2, rfl, HV2.out⟩ (fun q hq => ⟨trivial, fun e => Nat.lt_irrefl _ (Nat.lt_of_lt_of_le (Kd.S_lt HS3.out q e.symm) hq)⟩) (fun _ _ => trivial) (Kd.S_mono HS4.out (fun q hq => ⟨trivial, Nat.not_le.2 hq.2⟩)) HB4.out (Nat.le_trans hs3 hs4) ?aL ?_
    case aL => rw [HYS.out.2]; omega
    intro v3 w42 hS5 hb42 hg42 hat42
    obtain ⟨A3, c3, he3⟩ := Kd.S_slice hS5
    obtain ⟨n3, hn3⟩ : ∃ n, ((yss ++ [rY]) ++ [[(⟨⟨a1, a2⟩, a3, a4, a5⟩ : S46)]]).length = n := ⟨_, rfl⟩
    rw [hn3] at he3
    subst he3
    have hty := Kd.S_typed HS4.out
    have hL0 := (hg42.block gR (blk_lt hHeld.1) (fun e => by obtain ⟨cells, hc⟩ := hty gR e.symm; exact blk_ne hHeld.1 hc (by decide) rfl)).trans hHeld.1
    have hL1 := (hg42.block gB (blk_lt hHeld.2) (fun e => by have := Kd.S_lt HSW.out gB e.symm; have := hlt; omega)).trans hHeld.2
    have HS5 := Lib.hid hS5
    have HB5 := Lib.hid hb42
    refine hK.out _ _ ⟨hL0, hL1⟩ (fun hHeld => ?_)
    clear hK K hS5 hb42 hg42 hat42 hty hL0 hL1
    refine norm_ (a' := ?_) ?_ ?_
    rotate_left
    · show Act.put _ (some 63) _ = _
      simp only [Act.put, List.setIfInBounds_toArray, List.set_cons_zero, List.set_cons_succ]
      rfl
    refine pure_ (i := 9) (N := some 64) (v := ?_) (a' := ?_) #[true, true, true, true, true, true, true, true, true, true, false, false] rfl rfl (by kernel_rfl) (fun _ _ _ h => h) (Or.inl ⟨by rfl, ?_⟩) ?_ ?_
    rotate_left
    · intro w'
      go_simp
      with_reducible rfl
    rotate_left
    · simp only [Act.put, List.setIfInBounds_toArray, List.set_cons_zero, List.set_cons_succ]
      rfl
    refine pure_ (i := 10) (N := some 65) (v := ?_) (a' := ?_) #[true, true, true, true, true, true, true, true, true, true, true, false] rfl rfl (by kernel_rfl) (fun _ _ _ h => h) (Or.inl ⟨by rfl, ?_⟩) ?_ ?_
    rotate_left
    · intro w'
      go_simp
      with_reducible rfl
    rotate_left
    · simp only [Act.put, List.setIfInBounds_toArray, List.set_cons_zero, List.set_cons_succ]
      rfl
    have hfz := blk_frozen hHeld.1 1
    have hcl := blk_cell hHeld.1 1
    have HR5 := Lib.hid hHeld.1
    refine last_ (i := 11) (N := none) #[true, true, true, true, true, true, true, true, true, true, true, true] rfl rfl (by kernel_rfl) (by decide) (fun K hK => ?_)
    refine skip_ (w1 := ?_) (by rfl) rfl ?_ ?_
    rotate_left
    · go_simp
      rfl
    refine hK.out _ _ ?_
    clear hK K
    refine done_ (by kernel_rfl) ?_
    have HFIN := Lib.hid (And.intro (show (w42.setCell ⟨gR, 1, none⟩ (.slice A3 n3 c3)).heap[gR]? = some (.cells #[.func (.func 18) #[] #[], (.slice A3 n3 c3)] 55 (0, 0)) from blk_put (cs := #[.func (.func 18) #[] #[], (.slice (some ⟨go, 0, none⟩) (k + 1) co)]) HR5.out 1 _ rfl) (And.intro (Kd.S_set HS5.out HR5.out (by decide) 1 (.slice A3 n3 c3)) ((Below.trans HB5.out ((Below.refl base w42).setCell (p := ⟨gR, 1, none⟩) hbg (.slice A3 n3 c3))))))
    go_wp2
    go_end0
    exact ⟨rfl, ⟨_, HFIN.out.1, by simpa only [List.append_assoc, List.cons_append, List.nil_append, Bool.false_eq_true, if_false] using HFIN.out.2.1⟩, fun w0 h0 => Below.trans h0 HFIN.out.2.2⟩

set_option maxRecDepth 100000 in
set_option maxHeartbeats 16000000 in
/-- A cell is added to no runs. -/
theorem add_0 (gR base : Nat) (a1 a2 a3 a4 : Int) (a5 : Bool) (w : World) (hbg : base ≤ gR) (hbs : base ≤ w.heap.size)
    (hR : w.heap[gR]? = some (.cells #[.func (.func 18) #[] #[], (.slice none 0 0)] 55 (0, 0))) :
    Calls Try.prog 19 #[.pointer (some ⟨gR, 0, none⟩), .agg #[.int .i64 a1, .int .i64 a2, .int .i64 a3, .int .i32 a4, .bool a5]] w fun e w' => e = .returned (.tuple #[]) ∧ (∃ v', w'.heap[gR]? = some (.cells #[.func (.func 18) #[] #[], v'] 55 (0, 0)) ∧ Kd.S (Kd.slice 46 k46) 22 w' base (fun _ => True) v' [[⟨⟨a1, a2⟩, a3, a4, a5⟩]]) ∧ ∀ w0, Below base w0 w → Below base w0 w' := by
  have HR := Lib.hid hR
  have hbx := Deep.blk_alloc_new w (.cells #[.int .i64 a1, .int .i64 a2, .int .i64 a3, .int .i32 a4, .bool a5] 46)
  have hb0 : Below w.heap.size w (w.alloc (.cells #[.int .i64 a1, .int .i64 a2, .int .i64 a3, .int .i32 a4, .bool a5] 46)) := below_alloc (Below.refl _ _) _
  have d1 : (w.alloc (.cells #[.int .i64 a1, .int .i64 a2, .int .i64 a3, .int .i32 a4, .bool a5] 46)).cell? ⟨gR, 1, none⟩ = some (.slice none 0 0) := blk_cell (blk_alloc hR _) 1
  clear hR
  go_enter Try.func19, Try.ntmps19
  go_upto_region 1 with fail
  obtain ⟨gB, hgB⟩ : ∃ x, w.heap.size = x := ⟨_, rfl⟩
  obtain ⟨W1, hW1⟩ : ∃ x, w.alloc (.cells #[.int .i64 a1, .int .i64 a2, .int .i64 a3, .int .i32 a4, .bool a5] 46) = x := ⟨_, rfl⟩
  rw [hW1] at hbx hb0 d1 ⊢
  rw [hgB] at hbx ⊢
  go_upto_region 2 with fail
  have HB1 := Lib.hid hb0
  have HBX := Lib.hid hbx
  clear hbx hb0 d1
  go_region
  have hF31 : Below w.heap.size w W1.drew := below_drew HB1.out
  have hX3 : W1.drew.heap[gB]? = some (.cells #[.int .i64 a1, .int .i64 a2, .int .i64 a3, .int .i32 a4, .bool a5] 46 (0, 0)) := HBX.out
  obtain ⟨w31, hw31_⟩ : ∃ x, W1.drew = x := ⟨_, rfl⟩
  rw [hw31_] at hF31 hX3 ⊢
  clear hw31_
  go_upto_region 4 with fail
  have hB31 : Below base w w31 := hF31.mono hbs
  have hw31 : w.heap.size ≤ w31.heap.size := hF31.size
  have hR3 : w31.heap[gR]? = some (.cells #[.func (.func 18) #[] #[], (.slice none 0 0)] 55 (0, 0)) := blk_below HR.out hF31
  have hS3 : Kd.S (Kd.slice 46 k46) 22 w31 base (fun _ => True) (.slice none 0 0) [] := Kd.S_nil _ _ _ _ _
  have HSW := Lib.hid (Kd.S_nil (Kd.slice 46 k46) 22 w base (fun _ => True))
  have hlt : w.heap.size = gB := hgB
  clear hF31
  refine start_ (n := 12) (S := fun w' => w'.heap[gR]? = some (.cells #[.func (.func 18) #[] #[], (.slice none 0 0)] 55 (0, 0)) ∧ w'.heap[gB]? = some (.cells #[.int .i64 a1, .int .i64 a2, .int .i64 a3, .int .i32 a4, .bool a5] 46 (0, 0))) (ds := [11]) #[false, false, false, false, false, false, false, false, false, false, false, false] (by kernel_rfl) rfl rfl ⟨hR3, hX3⟩ (fun hHeld => ?_)
  have hD := (Below.refl w31.heap.size w31).drew
  have HS3 := Lib.hid (Kd.S_drew hS3)
  have HB3 := Lib.hid (Below.trans hB31 (hD.mono (Nat.le_trans hbs hw31)))
  have hs3 : base ≤ w31.drew.heap.size := Nat.le_trans hbs hw31
  clear hR3 hX3 hS3 hD hB31
  generalize w31.drew = w40 at hHeld HS3 HB3 hs3 ⊢
  refine pure_ (i := 0) (N := some 55) (v := ?_) (a' := ?_) #[true, false, false, false, false, false, false, false, false, false, false, false] rfl rfl (by kernel_rfl) (fun _ _ _ h => h) (Or.inl ⟨by rfl, ?_⟩) ?_ ?_
  rotate_left
  · intro w'
    go_simp
    with_reducible rfl
  rotate_left
  · simp only [Act.put, List.setIfInBounds_toArray, List.set_cons_zero, List.set_cons_succ]
    rfl
  refine pure_ (i := 1) (N := some 56) (v := ?_) (a' := ?_) #[true, true, false, false, false, false, false, false, false, false, false, false] rfl rfl (by kernel_rfl) (fun _ _ _ h => h) (Or.inl ⟨by rfl, ?_⟩) ?_ ?_
  rotate_left
  · intro w'
    go_simp
    with_reducible rfl
  rotate_left
  · simp only [Act.put, List.setIfInBounds_toArray, List.set_cons_zero, List.set_cons_succ]
    rfl
  refine pure_ (i := 2) (N := some 57) (v := ?_) (a' := ?_) #[true, true, true, false, false, false, false, false, false, false, false, false] rfl rfl (by kernel_rfl) (fun _ _ _ h => h) (Or.inl ⟨by rfl, ?_⟩) ?_ ?_
  rotate_left
  · intro w'
    go_simp
    with_reducible rfl
  rotate_left
  · simp only [Act.put, List.setIfInBounds_toArray, List.set_cons_zero, List.set_cons_succ]
    rfl
  refine pure_ (i := 3) (N := some 58) (v := ?_) (a' := ?_) #[true, true, true, true, false, false, false, false, false, false, false, false] rfl rfl (by kernel_rfl) (fun _ _ _ h => h) (Or.inl ⟨by rfl, ?_⟩) ?_ ?_
  rotate_left
  · intro w'
    go_simp
    with_reducible rfl
  rotate_left
  · simp only [Act.put, List.setIfInBounds_toArray, List.set_cons_zero, List.set_cons_succ]
    rfl
  refine take_ (i := 4) (N := some 59) (v := ?_) (a' := ?_) #[true, true, true, true, true, false, false, false, false, false, false, false] rfl rfl (by kernel_rfl) (fun _ _ _ h => h) (Or.inl ⟨by rfl, ?_⟩) hHeld ?_ ?_
  rotate_left
  · rintro w' ⟨b0, b1⟩
    have s0 := blk_cell b0 1
    have s2 := blk_cell b1 0
    have s3 := blk_cell b1 1
    have s4 := blk_cell b1 2
    have s5 := blk_cell b1 3
    have s6 := blk_cell b1 4
    go_simp
    with_reducible rfl
  rotate_left
  · simp only [Act.put, List.setIfInBounds_toArray, List.set_cons_zero, List.set_cons_succ]
    rfl
  refine take_ (i := 5) (N := some 60) (v := ?_) (a' := ?_) #[true, true, true, true, true, true, false, false, false, false, false, false] rfl rfl (by kernel_rfl) (fun _ _ _ h => h) (Or.inl ⟨by rfl, ?_⟩) hHeld ?_ ?_
  rotate_left
  · rintro w' ⟨b0, b1⟩
    have s0 := blk_cell b0 1
    have s2 := blk_cell b1 0
    have s3 := blk_cell b1 1
    have s4 := blk_cell b1 2
    have s5 := blk_cell b1 3
    have s6 := blk_cell b1 4
    go_simp
    with_reducible rfl
  rotate_left
  · simp only [Act.put, List.setIfInBounds_toArray, List.set_cons_zero, List.set_cons_succ]
    rfl
  refine one_ (i := 6) (N := some 61) #[true, true, true, true, true, true, true, false, false, false, false, false] rfl rfl (by kernel_rfl) (by decide) (fun K hK => ?_)
  refine Kd.R_lit_step k46 w40.heap.size 46 (w0 := w40) (by rfl) (N := 61) rfl (xs := [(⟨⟨a1, a2⟩, a3, a4, a5⟩ : S46)]) (inner := [.int .i64 a1, .int .i64 a2, .int .i64 a3, .int .i32 a4, .bool a5]) (ok := fun q => w40.heap.size ≤ q) (okp := fun q => w40.heap.size ≤ q) ?hr ?hp (fun _ hk => hk) (Nat.le_refl _) (Below.refl _ _) (Nat.le_refl _) (by simp) ?_
  case hr => first | (go_simp; done) | (go_simp; rfl)
  case hp => exact Reps.snoc (ps := []) (cs := []) (Reps.none _ _) (k46_mkM _ _ _ ⟨⟨a1, a2⟩, a3, a4, a5⟩) rfl
  intro v2 w41 hv2 hb41 hg41 hn41
  have HV2 := Lib.hid (Kd.R_lower hv2 hs3)
  have HS4 := Lib.hid (Kd.S_old HS3.out hb41)
  have HB4 := Lib.hid (Below.trans HB3.out (hb41.mono hs3))
  have hs4 : w40.heap.size ≤ w41.heap.size := hb41.size
  refine hK.out _ _ ⟨blk_below hHeld.1 hb41, blk_below hHeld.2 hb41⟩ (fun hHeld => ?_)
  clear hK K hv2 hb41 hg41 hn41 HB3
  refine norm_ (a' := ?_) ?_ ?_
  rotate_left
  · show Act.put _ (some 61) _ = _
    simp only [Act.put, List.setIfInBounds_toArray, List.set_cons_zero, List.set_cons_succ]
    rfl
  refine one_ (i := 7) (N := some 62) #[true, true, true, true, true, true, true, true, false, false, false, false] rfl rfl (by kernel_rfl) (by decide) (fun K hK => ?_)
  refine value_ (v := .slice (some ⟨w41.heap.size, 0, none⟩) 1 1) (w1 := w41.alloc (.cells #[v2] 22)) (by rfl) rfl ?hr ?_
  case hr => have hvc := Kd.R_val HV2.out; obtain ⟨A2, c2, rfl⟩ := Kd.R_slice HV2.out; first | (go_simp; done) | (go_simp; rfl)
  refine hK.out _ _ ⟨blk_alloc hHeld.1 _, blk_alloc hHeld.2 _⟩ (fun hHeld2 => ?_)
  clear hK K hHeld2
  refine norm_ (a' := ?_) ?_ ?_
  rotate_left
  · show Act.put _ (some 62) _ = _
    simp only [Act.put, List.setIfInBounds_toArray, List.set_cons_zero, List.set_cons_succ]
    rfl
  refine one_ (i := 8) (N := some 63) #[true, true, true, true, true, true, true, true, true, false, false, false] rfl rfl (by kernel_rfl) (by decide) (fun K hK => ?_)
  refine Kd.S_append_step (Kd.slice 46 k46) (w0 := w) (W := w41) base (by rfl) (.tmp 59) (.tmp 62) 53 22 (.slice none 0 0) 24 rfl Try.underlying53 info_sc rfl (by decide) (by decide) (.slice none 0 0) ([] : List (List S46)) [(⟨⟨a1, a2⟩, a3, a4, a5⟩ : S46)] [v2] (fun _ => True) (fun q => w40.heap.size ≤ q) rfl rfl ⟨v2, rfl, HV2.out⟩ (fun q hq => ⟨trivial, fun e => Nat.lt_irrefl _ (Nat.lt_of_lt_of_le (Kd.S_lt HS3.out q e.symm) hq)⟩) (fun _ _ => trivial) (Kd.S_mono HS4.out (fun q hq => ⟨trivial, Nat.not_le.2 hq.2⟩)) HB4.out (Nat.le_trans hs3 hs4) ?aL ?_
  case aL => simp
  intro v3 w42 hS5 hb42 hg42 hat42
  obtain ⟨A3, c3, he3⟩ := Kd.S_slice hS5
  obtain ⟨n3, hn3⟩ : ∃ n, (([] : List (List S46)) ++ [[(⟨⟨a1, a2⟩, a3, a4, a5⟩ : S46)]]).length = n := ⟨_, rfl⟩
  rw [hn3] at he3
  subst he3
  have hty := Kd.S_typed HS4.out
  have hL0 := (hg42.block gR (blk_lt hHeld.1) (fun e => by obtain ⟨cells, hc⟩ := hty gR e.symm; exact blk_ne hHeld.1 hc (by decide) rfl)).trans hHeld.1
  have hL1 := (hg42.block gB (blk_lt hHeld.2) (fun e => by have := Kd.S_lt HSW.out gB e.symm; have := hlt; omega)).trans hHeld.2
  have HS5 := Lib.hid hS5
  have HB5 := Lib.hid hb42
  refine hK.out _ _ ⟨hL0, hL1⟩ (fun hHeld => ?_)
  clear hK K hS5 hb42 hg42 hat42 hty hL0 hL1
  refine norm_ (a' := ?_) ?_ ?_
  rotate_left
  · show Act.put _ (some 63) _ = _
    simp only [Act.put, List.setIfInBounds_toArray, List.set_cons_zero, List.set_cons_succ]
    rfl
  refine pure_ (i := 9) (N := some 64) (v := ?_) (a' := ?_) #[true, true, true, true, true, true, true, true, true, true, false, false] rfl rfl (by kernel_rfl) (fun _ _ _ h => h) (Or.inl ⟨by rfl, ?_⟩) ?_ ?_
  rotate_left
  · intro w'
    go_simp
    with_reducible rfl
  rotate_left
  · simp only [Act.put, List.setIfInBounds_toArray, List.set_cons_zero, List.set_cons_succ]
    rfl
  refine pure_ (i := 10) (N := some 65) (v := ?_) (a' := ?_) #[true, true, true, true, true, true, true, true, true, true, true, false] rfl rfl (by kernel_rfl) (fun _ _ _ h => h) (Or.inl ⟨by rfl, ?_⟩) ?_ ?_
  rotate_left
  · intro w'
    go_simp
    with_reducible rfl
  rotate_left
  · simp only [Act.put, List.setIfInBounds_toArray, List.set_cons_zero, List.set_cons_succ]
    rfl
  have hfz := blk_frozen hHeld.1 1
  have hcl := blk_cell hHeld.1 1
  have HR5 := Lib.hid hHeld.1
  refine last_ (i := 11) (N := none) #[true, true, true, true, true, true, true, true, true, true, true, true] rfl rfl (by kernel_rfl) (by decide) (fun K hK => ?_)
  refine skip_ (w1 := ?_) (by rfl) rfl ?_ ?_
  rotate_left
  · go_simp
    rfl
  refine hK.out _ _ ?_
  clear hK K
  refine done_ (by kernel_rfl) ?_
  have HFIN := Lib.hid (And.intro (show (w42.setCell ⟨gR, 1, none⟩ (.slice A3 n3 c3)).heap[gR]? = some (.cells #[.func (.func 18) #[] #[], (.slice A3 n3 c3)] 55 (0, 0)) from blk_put (cs := #[.func (.func 18) #[] #[], (.slice none 0 0)]) HR5.out 1 _ rfl) (And.intro (Kd.S_set HS5.out HR5.out (by decide) 1 (.slice A3 n3 c3)) ((Below.trans HB5.out ((Below.refl base w42).setCell (p := ⟨gR, 1, none⟩) hbg (.slice A3 n3 c3))))))
  go_wp2
  go_end0
  exact ⟨rfl, ⟨_, HFIN.out.1, by simpa only [List.append_assoc, List.cons_append, List.nil_append, Bool.false_eq_true, if_false] using HFIN.out.2.1⟩, fun w0 h0 => Below.trans h0 HFIN.out.2.2⟩
end Go.Proofs.Ytkglfgikfeebhaa.X
