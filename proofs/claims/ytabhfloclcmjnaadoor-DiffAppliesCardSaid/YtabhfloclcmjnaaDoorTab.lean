/-
  diff.table, walked by hand: at each place the first step of the cheapest way: by this session. Conditions: at most 100000 runes each.
-/
import Derived.Test.YtabhfloclcmjnaaDoorOpenP
import Derived.Test.YtabhfloclcmjnaaDoorPx0
import Derived.Deep.QuietTactic
import Derived.BigQuiet
namespace Go.Proofs.YtabhfloclcmjnaaDoor.X
open Go Go.RowKit Go.Shelf Go.Proofs.YtabhfloclcmjnaaDoorW.PrintWords Go.Proofs.YtabhfloclcmjnaaDoor.P Go.Proofs.YtabhfloclcmjnaaDoor.Lcs
set_option linter.unusedVariables false
/-- The first step of the cheapest way. -/
def wayK : List Int → List Int → Int
  | [], _ => 1
  | _ :: _, [] => 2
  | x :: a, y :: b => if x = y then 0 else if C a (y :: b) ≤ C (x :: a) b then 2 else 1
def CostOK (a b : List Int) (i : Nat) (r : List Int) (j0 : Nat) : Prop := r.length = b.length + 1 ∧ ∀ j : Nat, j0 ≤ j → j ≤ b.length → r.getD j 0 = (C (a.drop i) (b.drop j) : Nat)
def WayOK (a b : List Int) (i : Nat) (r : List Int) (j0 : Nat) : Prop := r.length = b.length + 1 ∧ ∀ j : Nat, j0 ≤ j → j ≤ b.length → r.getD j 0 = wayK (a.drop i) (b.drop j)
theorem getD_set {α : Type} (l : List α) (i j : Nat) (x d : α) (hi : i < l.length) : (l.set i x).getD j d = if i = j then x else l.getD j d := by
  simp only [List.getD_eq_getElem?_getD, List.getElem?_set]
  by_cases h : i = j
  · subst h
    simp [hi]
  · simp [h]
theorem CostOK.put {a b : List Int} {i j : Nat} {r : List Int} (h : CostOK a b i r (j + 1)) (hj : j ≤ b.length) {v : Int} (hv : v = (C (a.drop i) (b.drop j) : Nat)) : CostOK a b i (r.set j v) j := by
  obtain ⟨hl, hc⟩ := h
  refine ⟨by rw [List.length_set]; exact hl, fun j' h1 h2 => ?_⟩
  rw [getD_set _ _ _ _ _ (by omega)]
  split
  · rename_i e
    subst e
    exact hv
  · exact hc j' (by omega) h2
theorem WayOK.put {a b : List Int} {i j : Nat} {r : List Int} (h : WayOK a b i r (j + 1)) (hj : j ≤ b.length) {v : Int} (hv : v = wayK (a.drop i) (b.drop j)) : WayOK a b i (r.set j v) j := by
  obtain ⟨hl, hc⟩ := h
  refine ⟨by rw [List.length_set]; exact hl, fun j' h1 h2 => ?_⟩
  rw [getD_set _ _ _ _ _ (by omega)]
  split
  · rename_i e
    subst e
    exact hv
  · exact hc j' (by omega) h2
theorem C_le (a b : List Int) : C a b ≤ a.length + b.length := by
  have := C_S a b
  omega
theorem C_nil_right (a : List Int) : C a [] = a.length := by cases a <;> simp [C]
/-- A row of the table, as a cell has it. -/
def encW (m : Nat) : Option (Nat × Nat) → Value
  | none => .slice none 0 0
  | some (g, c) => .slice (some ⟨g, 0, none⟩) (m + 1) c
def kW (m : Nat) : Kd (Option (Nat × Nat)) := Kd.scalar (encW m) (fun x => by rcases x with _ | ⟨g, c⟩ <;> rfl)
/-- The rows from one on are laid. -/
structure Rows (a b : List Int) (m B gW N : Nat) (ws : List (Option (Nat × Nat))) (i : Nat) (W : World) : Prop where
  len : ws.length = a.length + 1
  at_ : ∀ i' : Nat, i ≤ i' → i' ≤ a.length → ∃ g c y, ws.getD i' none = some (g, c) ∧ gW < g ∧ g < N ∧ Kd.R (Kd.int .u8) 5 W B (fun k => k = g) (.slice (some ⟨g, 0, none⟩) (m + 1) c) y ∧ WayOK a b i' y 0
theorem Rows.move {a b : List Int} {m B gW N N' i : Nat} {ws : List (Option (Nat × Nat))} {W W' : World} (h : Rows a b m B gW N ws i W) (hN : N ≤ N') (hm : ∀ k, gW < k → k < N → W'.heap[k]? = W.heap[k]?) : Rows a b m B gW N' ws i W' :=
  ⟨h.len, fun i' h1 h2 => by
    obtain ⟨g, c, y, e1, e2, e3, e4, e5⟩ := h.at_ i' h1 h2
    exact ⟨g, c, y, e1, e2, by omega, Kd.R_step e4 (fun k hk _ => hm k (by omega) (by omega)), e5⟩⟩
theorem Rows.put {a b : List Int} {m B gW N i g c : Nat} {ws : List (Option (Nat × Nat))} {W : World} {y : List Int} (h : Rows a b m B gW N ws (i + 1) W) (hi : i ≤ a.length) (h1 : gW < g) (h2 : g < N) (h3 : Kd.R (Kd.int .u8) 5 W B (fun k => k = g) (.slice (some ⟨g, 0, none⟩) (m + 1) c) y) (h4 : WayOK a b i y 0) (he : ws.getD i none = some (g, c)) : Rows a b m B gW N ws i W :=
  ⟨h.len, fun i' k1 k2 => by
    by_cases e : i' = i
    · subst e
      exact ⟨g, c, y, he, h1, h2, h3, h4⟩
    · exact h.at_ i' (by omega) k2⟩
theorem Rows.set {a b : List Int} {m B gW N i : Nat} {ws : List (Option (Nat × Nat))} {W : World} {x : Option (Nat × Nat)} (h : Rows a b m B gW N ws (i + 1) W) (hi : i ≤ a.length) : Rows a b m B gW N (ws.set i x) (i + 1) W :=
  ⟨by rw [List.length_set]; exact h.len, fun i' k1 k2 => by
    obtain ⟨g, c, y, e1, e2⟩ := h.at_ i' k1 k2
    refine ⟨g, c, y, ?_, e2⟩
    rw [getD_set _ _ _ _ _ (by rw [h.len]; omega), if_neg (by omega)]
    exact e1⟩
theorem R_here {α : Type} {enc : α → Value} {h1 : ∀ x, (enc x).oneCell' = true} {e g n c base : Nat} {W : World} {ok : Nat → Prop} {xs : List α} (h : (Kd.scalar enc h1).R e W base ok (.slice (some ⟨g, 0, none⟩) n c) xs) : (Kd.scalar enc h1).R e W base (fun k => k = g) (.slice (some ⟨g, 0, none⟩) n c) xs :=
  Kd.R_of_own (by have := (Kd.R_reads' h).1; subst this; exact Kd.own_of_R h) (fun k hk => by simpa [Value.ownBlock] using hk.symm)
theorem R_cellN {α : Type} {enc : α → Value} {h1 : ∀ x, (enc x).oneCell' = true} {e g n c base : Nat} {W : World} {ok : Nat → Prop} {xs : List α} (d : α) (h : (Kd.scalar enc h1).R e W base ok (.slice (some ⟨g, 0, none⟩) n c) xs) (i : Nat) (hi : i < n) : W.cell? ⟨g, i, none⟩ = some (enc (xs.getD i d)) ∧ W.frozen? ⟨g, i, none⟩ = false := by
  have := Kd.R_celln d h (i : Int) (by omega) (by omega)
  simpa [rdOf] using this
/-- What stands between two rounds of the inner loop. -/
structure Inner (a b : List Int) (n m : Nat) (w : World) (gW cW gN cN gR cR gY cY N : Nat) (ws : List (Option (Nat × Nat))) (nx r y : List Int) (i q : Nat) (W : World) : Prop where
  lt : gW < gN ∧ gN < N ∧ N ≤ gY ∧ gY < gR ∧ gR < W.heap.size ∧ w.heap.size ≤ gW
  ways : (kW m).R 54 W w.heap.size (fun k => k = gW) (.slice (some ⟨gW, 0, none⟩) (n + 1) cW) ws
  mine : ws.getD i none = some (gY, cY)
  next : (Kd.int .i64).R 3 W w.heap.size (fun k => k = gN) (.slice (some ⟨gN, 0, none⟩) (m + 1) cN) nx
  row : (Kd.int .i64).R 3 W w.heap.size (fun k => k = gR) (.slice (some ⟨gR, 0, none⟩) (m + 1) cR) r
  way : (Kd.int .u8).R 5 W w.heap.size (fun k => k = gY) (.slice (some ⟨gY, 0, none⟩) (m + 1) cY) y
  cost : CostOK a b i r q
  wok : WayOK a b i y q
  rows : Rows a b m w.heap.size gW N ws (i + 1) W
  below : Below w.heap.size w W
namespace Inner
variable {a b : List Int} {n m : Nat} {w : World} {gW cW gN cN gR cR gY cY N : Nat} {ws : List (Option (Nat × Nat))} {nx r y : List Int} {i q : Nat} {W : World}
theorem drewN (h : Inner a b n m w gW cW gN cN gR cR gY cY N ws nx r y i q W) (k : Nat) : Inner a b n m w gW cW gN cN gR cR gY cY N ws nx r y i q (W.drewN k) :=
  ⟨h.lt, Kd.R_drewN h.ways k, h.mine, Kd.R_drewN h.next k, Kd.R_drewN h.row k, Kd.R_drewN h.way k, h.cost, h.wok, h.rows.move (Nat.le_refl _) (fun _ _ _ => rfl), pw_below_drewN h.below k⟩
theorem put {j : Nat} (h : Inner a b n m w gW cW gN cN gR cR gY cY N ws nx r y i (j + 1) W) (hj : j ≤ b.length) {v u : Int} (hv : v = (C (a.drop i) (b.drop j) : Nat)) (hu : u = wayK (a.drop i) (b.drop j)) :
    Inner a b n m w gW cW gN cN gR cR gY cY N ws nx (r.set j v) (y.set j u) i j ((W.setCell ⟨gR, j, none⟩ (.int .i64 v)).setCell ⟨gY, j, none⟩ (.int .u8 u)) := by
  obtain ⟨l1, l2, l3, l4, l5, l6⟩ := h.lt
  have far : ∀ {α : Type} {d : Kd α} {e : Nat} {ok : Nat → Prop} {v1 : Value} {xs : List α} (hR : d.R e W w.heap.size ok v1 xs), (∀ k, ok k → k ≠ gR ∧ k ≠ gY) → d.R e ((W.setCell ⟨gR, j, none⟩ (.int .i64 v)).setCell ⟨gY, j, none⟩ (.int .u8 u)) w.heap.size ok v1 xs :=
    fun hR hk => Kd.R_far (p := ⟨gY, j, none⟩) (Kd.R_far (p := ⟨gR, j, none⟩) hR (fun k h => (hk k h).1) _) (fun k h => (hk k h).2) _
  refine ⟨by simpa using h.lt, far h.ways (fun k hk => by omega), h.mine, far h.next (fun k hk => by omega), ?_, ?_, h.cost.put hj hv, h.wok.put hj hu, h.rows.move (Nat.le_refl _) (fun k h1 h2 => ?_), (h.below.setCell (p := ⟨gR, j, none⟩) (by show w.heap.size ≤ gR; omega) _).setCell (p := ⟨gY, j, none⟩) (by show w.heap.size ≤ gY; omega) _⟩
  · have h8 := Kd.R_putn h.row (j : Int) v
    rw [Int.toNat_natCast] at h8
    exact Kd.R_far (p := ⟨gY, j, none⟩) h8 (fun k hk => by show k ≠ gY; omega) _
  · have h8 := Kd.R_putn (Kd.R_far (p := ⟨gR, j, none⟩) h.way (fun k hk => by show k ≠ gR; omega) (.int .i64 v)) (j : Int) u
    rwa [Int.toNat_natCast] at h8
  · exact (Below.heap_setCell _ ⟨gY, j, none⟩ _ k (by show k ≠ gY; omega)).trans (Below.heap_setCell _ ⟨gR, j, none⟩ _ k (by show k ≠ gR; omega))
end Inner
theorem info_bytes : (Tryd.prog.info? 54).map (fun i => (i.zero, i.size, i.bytes)) = some (some (.slice none 0 0), 1, 24) := by kernel_rfl
theorem info_b : (Tryd.prog.info? 5).map (fun i => (i.zero, i.size, i.bytes)) = some (some (.int .u8 0), 1, 1) := by kernel_rfl
set_option maxRecDepth 100000 in
set_option maxHeartbeats 8000000 in
theorem table_calls (a b : List Int) (A B : Option Addr) (ca cb n m : Nat) (w : World) (hn : a.length = n) (hm : b.length = m) (hA : Kd.C (Kd.int .i32) w A n a) (hB : Kd.C (Kd.int .i32) w B m b) (ha : n ≤ 100000) (hb : m ≤ 100000) :
    Calls Tryd.prog 58 #[.slice A n ca, .slice B m cb] w fun e w' => ∃ gW cW ws, e = .returned (.slice (some ⟨gW, 0, none⟩) (n + 1) cW) ∧ (kW m).R 54 w' w.heap.size (fun k => k = gW) (.slice (some ⟨gW, 0, none⟩) (n + 1) cW) ws ∧ Rows a b m w.heap.size gW w'.heap.size ws 0 w' ∧ Below w.heap.size w w' := by
  have HN := Lib.hid hn
  have HM := Lib.hid hm
  have HA := Aside0.mk hA
  have HB := Aside0.mk hB
  clear hn hm hA hB
  have hw1 : wrap64 ((n : Int) + 1) = ((n + 1 : Nat) : Int) := by unfold wrap64; omega
  have hw2 : wrap64 ((m : Int) + 1) = ((m + 1 : Nat) : Int) := by unfold wrap64; omega
  go_enter Tryd.func58, Tryd.ntmps58
  go_upto_region 2 with (refine Kd.R_make (kW m) (w0 := w) w.heap.size 54 rfl (N := 14) rfl 103 _ _ rfl ((n + 1 : Nat) : Int) rfl rfl Tryd.underlying103 (.slice none 0 0) 24 info_bytes rfl (show 0 < 1 by omega) (by omega) none (ok := fun _ => True) (okp := fun _ => True) rfl (fun _ h => h) trivial (by omega) (by simp; omega) (Below.refl _ _) (Nat.le_refl _) ?_; intro v w2 ho hb2 hg2 hn2; obtain ⟨gW, cW, rfl, hgW1, hgW2, cl, hcl⟩ := Kd.R_form ho (by simp); simp only [List.length_replicate, Int.toNat_natCast] at ho ⊢)
  clear hg2 hn2
  go_upto_region 3 with (refine Kd.R_make (Kd.int .i64) (w0 := w) w.heap.size 3 rfl (N := 18) rfl 23 _ _ rfl ((m + 1 : Nat) : Int) rfl rfl Tryd.underlying23 (.int .i64 0) 8 info_int rfl (by decide) (by omega) 0 (ok := fun _ => True) (okp := fun _ => True) rfl (fun _ h => h) trivial (by omega) (by simp; omega) hb2 hb2.size ?_; intro v w3 hx hb3 hg3 hn3; obtain ⟨gN, cN, rfl, hgN1, hgN2, cl3, hcl3⟩ := Kd.R_form hx (by simp); simp only [List.length_replicate, Int.toNat_natCast] at hx ⊢)
  have hgN0 : w2.heap.size ≤ gN := by
    obtain ⟨q, hq, hq2⟩ := hn3
    have : gN = q := by simpa [Value.ownBlock] using hq
    omega
  have HO : Aside0 ((kW m).R 54 w3 w.heap.size (fun k => k = gW) (.slice (some ⟨gW, 0, none⟩) (n + 1) cW) (List.replicate (n + 1) none)) := ⟨R_here (Kd.R_grown ho hg3 (fun k _ => by simp))⟩
  have HX : Aside0 ((Kd.int .i64).R 3 w3 w.heap.size (fun k => k = gN) (.slice (some ⟨gN, 0, none⟩) (m + 1) cN) (List.replicate (m + 1) 0)) := ⟨R_here hx⟩
  have HB3 := Aside0.mk hb3
  clear ho hb2 hg3 hn3 hcl hcl3 hx hb3
  have hgne : gW < gN := by omega
  have hgN3 : gN < w3.heap.size := hgN2
  go_wp2
  go_loopg [21, 7] (m + 1) (fun q u21 u7 wr => ∃ (j : Nat) (r : List Int), u21 = .int .i64 j ∧ Aside0 (j + q = m + 1 ∧ gN < wr.heap.size) ∧ Aside0 ((Kd.int .i64).R 3 wr w.heap.size (fun k => k = gN) (.slice (some ⟨gN, 0, none⟩) (m + 1) cN) r) ∧
    Aside0 ((kW m).R 54 wr w.heap.size (fun k => k = gW) (.slice (some ⟨gW, 0, none⟩) (n + 1) cW) (List.replicate (n + 1) none)) ∧ Aside0 (Below w.heap.size w wr))
  case atStart => exact ⟨0, _, rfl, ⟨by omega, hgN3⟩, HX, HO, HB3⟩
  case round =>
    obtain ⟨j, r, rfl, HJ, HR, HO1, HBl⟩ := hrel
    clear HX HO HB3 hgN3
    by_cases hj : j < m + 1
    · have hj1 : (j : Int) < (m : Int) + 1 := by omega
      have hd : decide ((j : Int) < (m : Int) + 1) = true := decide_eq_true hj1
      have hrl := (Kd.R_reads' HR.out).1
      have hc := R_cells HR.out j (by omega)
      have hf := R_frozen HR.out (by omega) j
      have hj0 : (0 : Int) ≤ (j : Int) := by omega
      go_wp2
      go_roundg (m - j)
      case measure => have := HJ.out.1; omega
      case rel =>
        refine ⟨j + 1, r.set j ((m : Int) - (j : Int)), by go_num, ⟨by omega, by simpa using HJ.out.2⟩, ⟨?_⟩, ⟨Kd.R_far (p := ⟨gN, j, none⟩) HO1.out (fun k hk => by show k ≠ gN; omega) _⟩, ⟨HBl.out.setCell (p := ⟨gN, j, none⟩) (by show w.heap.size ≤ gN; omega) _⟩⟩
        have h8 := Kd.R_putn HR.out (j : Int) ((m : Int) - (j : Int))
        rwa [Int.toNat_natCast] at h8
    · have hj1 : ¬ (j : Int) < (m : Int) + 1 := by omega
      have hd : decide ((j : Int) < (m : Int) + 1) = false := decide_eq_false hj1
      go_wp2
      have HI0 : Aside0 (gN < wr.heap.size) := ⟨HJ.out.2⟩
      obtain ⟨w4, rfl⟩ : ∃ x, x = wr := ⟨_, rfl⟩
      clear HJ hd hj1
      go_loopg [6, 8] (n + 1) (fun k u6 u8 wr => ∃ (z : Int) (nx : List Int) (ws : List (Option (Nat × Nat))) (gN cN : Nat), u8 = .int .i64 z ∧ u6 = .slice (some ⟨gN, 0, none⟩) (m + 1) cN ∧ Aside0 (z = (k : Int) - 1 ∧ k ≤ n + 1 ∧ gW < gN ∧ gN < wr.heap.size) ∧
        Aside0 ((Kd.int .i64).R 3 wr w.heap.size (fun k => k = gN) (.slice (some ⟨gN, 0, none⟩) (m + 1) cN) nx) ∧ Aside0 (k ≤ n → CostOK a b k nx 0) ∧
        Aside0 ((kW m).R 54 wr w.heap.size (fun k => k = gW) (.slice (some ⟨gW, 0, none⟩) (n + 1) cW) ws) ∧ Aside0 (Rows a b m w.heap.size gW wr.heap.size ws k wr) ∧ Aside0 (Below w.heap.size w wr))
      case atStart =>
        refine ⟨n, r, _, gN, cN, rfl, rfl, ⟨by omega, by omega, hgne, HI0.out⟩, HR, ⟨fun h => by omega⟩, HO1, ⟨by rw [List.length_replicate, HN.out], fun i' h1 h2 => by have := HN.out; omega⟩, HBl⟩
      case round =>
        obtain ⟨z, nx, ws, gN, cN, rfl, rfl, HZ, HR1, HC1, HO1, HRw, HBl⟩ := hrel
        obtain ⟨k, rfl⟩ : ∃ x, x = gk := ⟨_, rfl⟩
        obtain ⟨wo, rfl⟩ : ∃ x, x = wr := ⟨_, rfl⟩
        cases k with
        | zero =>
          obtain rfl : z = -1 := by have := HZ.out; omega
          go_wp2
          go_ret
          exact ⟨gW, cW, ws, rfl, HO1.out, HRw.out, HBl.out⟩
        | succ i =>
          obtain rfl : z = (i : Int) := by have := HZ.out; omega
          go_upto_region 12 with (refine Kd.R_make (Kd.int .u8) (w0 := w) w.heap.size 5 rfl (N := 43) rfl 54 _ _ rfl ((m + 1 : Nat) : Int) rfl rfl Tryd.underlying54 (.int .u8 0) 1 info_b rfl (by decide) (by omega) 0 (ok := fun _ => True) (okp := fun _ => True) rfl (fun _ h => h) trivial (by omega) (by simp; omega) HBl.out HBl.out.size ?_; intro v w5 hy hb5 hg5 hn5; obtain ⟨gY, cY, rfl, hgY1, hgY2, cl5, hcl5⟩ := Kd.R_form hy (by simp); simp only [List.length_replicate, Int.toNat_natCast] at hy ⊢; obtain ⟨hcW, hfW⟩ := R_cellN none (Kd.R_grown HO1.out hg5 (fun k _ => by simp)) i (by have := HZ.out; omega); have hi1 : (i : Int) < (n : Int) + 1 := (by have := HZ.out; omega))
          have hz := Lib.hid HZ.out
          have hi9 : i + 1 ≤ n + 1 := HZ.out.2.1
          have hgWo : gW < wo.heap.size := by have := HZ.out; omega
          have hgYo : wo.heap.size ≤ gY := by
            obtain ⟨x, hq, hq2⟩ := hn5
            have : gY = x := by simpa [Value.ownBlock] using hq
            omega
          obtain ⟨w6, hw6⟩ : ∃ x, w5.setCell ⟨gW, i, none⟩ (.slice (some ⟨gY, 0, none⟩) (m + 1) cY) = x := ⟨_, rfl⟩
          have hz6 : w5.heap.size ≤ w6.heap.size := by rw [← hw6]; simp
          have H6W : Aside0 ((kW m).R 54 w6 w.heap.size (fun k => k = gW) (.slice (some ⟨gW, 0, none⟩) (n + 1) cW) (ws.set i (some (gY, cY)))) := ⟨by
            rw [← hw6]
            have h8 := Kd.R_putn (Kd.R_grown HO1.out hg5 (fun k _ => by simp)) (i : Int) (some (gY, cY))
            rw [Int.toNat_natCast] at h8
            exact h8⟩
          have H6Y : Aside0 ((Kd.int .u8).R 5 w6 w.heap.size (fun k => k = gY) (.slice (some ⟨gY, 0, none⟩) (m + 1) cY) (List.replicate (m + 1) 0)) := ⟨by rw [← hw6]; exact Kd.R_far (p := ⟨gW, i, none⟩) (R_here hy) (fun k hk => by show k ≠ gW; omega) _⟩
          have H6N : Aside0 ((Kd.int .i64).R 3 w6 w.heap.size (fun k => k = gN) (.slice (some ⟨gN, 0, none⟩) (m + 1) cN) nx) := ⟨by rw [← hw6]; exact Kd.R_far (p := ⟨gW, i, none⟩) (Kd.R_grown HR1.out hg5 (fun k _ => by simp)) (fun k hk => by have := hz.out; show k ≠ gW; omega) _⟩
          have H6R : Aside0 (Rows a b m w.heap.size gW wo.heap.size (ws.set i (some (gY, cY))) (i + 1) w6) := ⟨(HRw.out.set (by have := HN.out; omega)).move (Nat.le_refl _) (fun k h1 h2 => by rw [← hw6]; exact (Below.heap_setCell _ ⟨gW, i, none⟩ _ k (by show k ≠ gW; omega)).trans (hg5.block k h2 (by simp)))⟩
          have H6B : Below w.heap.size w w6 := by rw [← hw6]; exact hb5.setCell (p := ⟨gW, i, none⟩) hgW1 _
          have H6M : Aside0 ((ws.set i (some (gY, cY))).getD i none = some (gY, cY)) := ⟨by rw [getD_set _ _ _ _ _ (by have := HRw.out.len; have := HN.out; omega), if_pos rfl]⟩
          rw [hw6]
          clear hw6 hy hb5 hg5 hn5 hcl5 hcW hfW HO1 HR1 HRw HBl HI0 HR HZ
          go_upto_region 13 with (refine Kd.R_make (Kd.int .i64) (w0 := w) w.heap.size 3 rfl (N := 48) rfl 23 _ _ rfl ((m + 1 : Nat) : Int) rfl rfl Tryd.underlying23 (.int .i64 0) 8 info_int rfl (by decide) (by omega) 0 (ok := fun _ => True) (okp := fun _ => True) rfl (fun _ h => h) trivial (by omega) (by simp; omega) H6B H6B.size ?_; intro v w7 hx hb7 hg7 hn7; obtain ⟨gR, cR, rfl, hgR1, hgR2, cl7, hcl7⟩ := Kd.R_form hx (by simp); simp only [List.length_replicate, Int.toNat_natCast] at hx ⊢)
          have hgRo : w6.heap.size ≤ gR := by
            obtain ⟨x, hq, hq2⟩ := hn7
            have : gR = x := by simpa [Value.ownBlock] using hq
            omega
          have HI7 : Aside0 (Inner a b n m w gW cW gN cN gR cR gY cY wo.heap.size (ws.set i (some (gY, cY))) nx (List.replicate (m + 1) 0) (List.replicate (m + 1) 0) i (m + 1) w7) := ⟨by
            have gr : ∀ {α : Type} {d : Kd α} {e : Nat} {ok : Nat → Prop} {v1 : Value} {xs : List α}, d.R e w6 w.heap.size ok v1 xs → d.R e w7 w.heap.size ok v1 xs := fun hR => Kd.R_grown hR hg7 (fun k _ => by simp)
            exact ⟨⟨hz.out.2.2.1, hz.out.2.2.2, hgYo, by omega, hgR2, hgW1⟩, gr H6W.out, H6M.out, gr H6N.out, R_here hx, gr H6Y.out, ⟨by rw [List.length_replicate, HM.out], fun j h1 h2 => by have := HM.out; omega⟩, ⟨by rw [List.length_replicate, HM.out], fun j h1 h2 => by have := HM.out; omega⟩,
              H6R.out.move (Nat.le_refl _) (fun k h1 h2 => hg7.block k (by omega) (by simp)), hb7⟩⟩
          obtain ⟨wsi, hwsi⟩ : ∃ x, ws.set i (some (gY, cY)) = x := ⟨_, rfl⟩
          rw [hwsi] at HI7
          have hi1 : i < n + 1 := by omega
          have hi2 : 0 ≤ (i : Int) := by omega
          have hi3 : (i : Int) < (n : Int) + 1 := by omega
          have HC2 : Aside0 (i + 1 ≤ n → CostOK a b (i + 1) nx 0) := HC1
          clear hwsi H6W H6Y H6N H6R H6B H6M hx hb7 hg7 hn7 hcl7 HC1 hz hi9 hgYo hgRo hz6 hgY1 hgY2 hgR1 hgR2
          go_wp2
          go_loopg [10] (m + 1) (fun q u10 wr => ∃ (z : Int) (r y : List Int), u10 = .int .i64 z ∧ Aside0 (z = (q : Int) - 1 ∧ q ≤ m + 1) ∧ Aside0 (Inner a b n m w gW cW gN cN gR cR gY cY wo.heap.size wsi nx r y i q wr))
          case atStart => exact ⟨m, _, _, rfl, ⟨by omega, by omega⟩, HI7⟩
          case round =>
            obtain ⟨z, r, y, rfl, HZ2, HI⟩ := hrel
            clear HI7
            obtain ⟨q, rfl⟩ : ∃ x, x = gk := ⟨_, rfl⟩
            cases q with
            | zero =>
              obtain rfl : z = -1 := by have := HZ2.out; omega
              go_wp2
              go_roundg i
              case measure => omega
              case rel =>
                have hlt := HI.out.lt
                refine ⟨(i : Int) - 1, r, wsi, gR, cR, (by first | rfl | simp), rfl, ⟨by omega, by omega, by omega, by omega⟩, ⟨HI.out.row⟩, ⟨fun _ => HI.out.cost⟩, ⟨HI.out.ways⟩, ⟨?_⟩, ⟨HI.out.below⟩⟩
                exact (HI.out.rows.move (N' := wr.heap.size) (by omega) (fun _ _ _ => rfl)).put (by have := HN.out; omega) (by omega) (by omega) HI.out.way HI.out.wok HI.out.mine
            | succ j =>
              obtain rfl : z = (j : Int) := by have := HZ2.out; omega
              obtain ⟨l1, l2, l3, l4, l5, l6⟩ := HI.out.lt
              have hj1 : j < m + 1 := by have := HZ2.out; omega
              have hj2 : (0 : Int) ≤ (j : Int) := by omega
              have hj3 : (j : Int) < (m : Int) + 1 := by omega
              have q1 : ¬ gR = gW := by omega
              have q2 : ¬ gW = gR := by omega
              have q3 : ¬ gR = gY := by omega
              have q4 : ¬ gY = gR := by omega
              have q5 : ¬ gY = gW := by omega
              have q6 : ¬ gW = gY := by omega
              have hla : (a.drop (i + 1)).length ≤ n := by rw [List.length_drop, HN.out]; omega
              have hlb : (b.drop j).length ≤ m := by rw [List.length_drop, HM.out]; omega
              have HLA := Lib.hid hla
              have HLB := Lib.hid hlb
              clear hla hlb HZ2
              have HJ1 := Lib.hid hj1
              by_cases c1 : i = n
              · have t1 : ((i : Int) == (n : Int)) = true := by rw [beq_iff_eq]; omega
                have HE := Lib.hid c1
                clear c1
                obtain ⟨crow, frow⟩ := R_cellN 0 HI.out.row j hj1
                obtain ⟨cway, fway⟩ := R_cellN 0 HI.out.way j hj1
                obtain ⟨cws0, fws⟩ := R_cellN none HI.out.ways i hi1
                rw [HI.out.mine] at cws0
                have cws : wr.cell? ⟨gW, i, none⟩ = some (.slice (some ⟨gY, 0, none⟩) (m + 1) cY) := cws0
                clear cws0
                go_wp2
                go_roundg j
                case measure => omega
                case rel =>
                  refine ⟨(j : Int) - 1, r.set j ((m : Int) - (j : Int)), y.set j 1, (by first | rfl | simp), ⟨by omega, by omega⟩, ⟨?_⟩⟩
                  refine HI.out.put (by have := HM.out; omega) (v := ((m : Int) - (j : Int))) (u := 1) ?_ ?_
                  · rw [HE.out, ← HN.out, List.drop_length, C, List.length_drop, HM.out]; omega
                  · rw [HE.out, ← HN.out, List.drop_length]; rfl
              · have hin : i < a.length := by have := HN.out; omega
                have t1 : ((i : Int) == (n : Int)) = false := by rw [beq_eq_false_iff_ne]; omega
                have hin2 : (i : Int) < (n : Int) := by omega
                obtain ⟨x, hx⟩ : ∃ x, a[i] = x := ⟨_, rfl⟩
                have HD : Hid (a.drop i = x :: a.drop (i + 1)) := Lib.hid (by rw [List.drop_eq_getElem_cons hin, hx])
                have hax : rd a (i : Int) = x := by rw [rd, Int.toNat_natCast, List.getD_eq_getElem?_getD, List.getElem?_eq_getElem hin]; exact hx
                have HAX := Lib.hid hax
                clear hx hax
                have HC3 : Hid (CostOK a b (i + 1) nx 0) := HC2.out (by omega)
                have HI2 := Lib.hid hin
                clear c1 HC2
                by_cases c2 : j = m
                · have t2 : ((j : Int) == (m : Int)) = true := by rw [beq_iff_eq]; omega
                  have HE := Lib.hid c2
                  clear c2
                  obtain ⟨crow, frow⟩ := R_cellN 0 HI.out.row j hj1
                  obtain ⟨cway, fway⟩ := R_cellN 0 HI.out.way j hj1
                  obtain ⟨cws0, fws⟩ := R_cellN none HI.out.ways i hi1
                  rw [HI.out.mine] at cws0
                  have cws : wr.cell? ⟨gW, i, none⟩ = some (.slice (some ⟨gY, 0, none⟩) (m + 1) cY) := cws0
                  clear cws0
                  go_wp2
                  go_roundg j
                  case measure => omega
                  case rel =>
                    refine ⟨(j : Int) - 1, r.set j ((n : Int) - (i : Int)), y.set j 2, (by first | rfl | simp), ⟨by omega, by omega⟩, ⟨?_⟩⟩
                    refine HI.out.put (by have := HM.out; omega) (v := ((n : Int) - (i : Int))) (u := 2) ?_ ?_
                    · rw [HE.out, ← HM.out, List.drop_length, C_nil_right, List.length_drop, HN.out]; omega
                    · rw [HE.out, ← HM.out, List.drop_length, HD.out]; rfl
                · have hjm : j < b.length := by have := HM.out; omega
                  have t2 : ((j : Int) == (m : Int)) = false := by rw [beq_eq_false_iff_ne]; omega
                  have hjm2 : (j : Int) < (m : Int) := by omega
                  have hjm3 : (j : Int) + 1 < (m : Int) + 1 := by omega
                  have hjm4 : (0 : Int) ≤ (j : Int) + 1 := by omega
                  obtain ⟨yb, hy⟩ : ∃ x, b[j] = x := ⟨_, rfl⟩
                  have HDb : Hid (b.drop j = yb :: b.drop (j + 1)) := Lib.hid (by rw [List.drop_eq_getElem_cons hjm, hy])
                  have hbx : rd b (j : Int) = yb := by rw [rd, Int.toNat_natCast, List.getD_eq_getElem?_getD, List.getElem?_eq_getElem hjm]; exact hy
                  have hj4 : j + 1 < m + 1 := by omega
                  clear c2
                  obtain ⟨ad, rfl, ha1⟩ := Kd.at_int HA.out (i : Int) hi2 hin2
                  have ha2 := (HI.out.below.cell (World.block_lt_of_cell? w _ ha1)).trans ha1
                  obtain ⟨bd, rfl, hb1⟩ := Kd.at_int HB.out (j : Int) hj2 hjm2
                  have hb2 := (HI.out.below.cell (World.block_lt_of_cell? w _ hb1)).trans hb1
                  rw [HAX.out, Int.toNat_natCast] at ha2
                  rw [hbx, Int.toNat_natCast] at hb2
                  clear ha1 hb1 hbx hy hin hjm
                  go_upto_region 24 with fail
                  by_cases c3 : x = yb
                  · have t3 : (x == yb) = true := beq_iff_eq.2 c3
                    have HE := Lib.hid c3
                    clear c3
                    go_quiet (fail)
                    obtain ⟨W8, hW8⟩ : ∃ x, wr.drewN nq = x := ⟨_, rfl⟩
                    have HI8 := Aside0.mk (hW8 ▸ HI.out.drewN nq)
                    rw [hW8]
                    clear hW8 ha2 hb2 HI
                    obtain ⟨crow, frow⟩ := R_cellN 0 HI8.out.row j hj1
                    obtain ⟨cway, fway⟩ := R_cellN 0 HI8.out.way j hj1
                    obtain ⟨cws0, fws⟩ := R_cellN none HI8.out.ways i hi1
                    rw [HI8.out.mine] at cws0
                    have cws : W8.cell? ⟨gW, i, none⟩ = some (.slice (some ⟨gY, 0, none⟩) (m + 1) cY) := cws0
                    clear cws0
                    have cn1 := (R_cellN 0 HI8.out.next (j + 1) hj4).1
                    rw [HC3.out.2 (j + 1) (by omega) (by have := HM.out; omega)] at cn1
                    obtain ⟨P, hP⟩ : ∃ x, C (a.drop (i + 1)) (b.drop (j + 1)) = x := ⟨_, rfl⟩
                    rw [hP] at cn1
                    have HP := Lib.hid hP
                    clear hP
                    go_wp2
                    go_roundg j
                    case measure => omega
                    case rel =>
                      refine ⟨(j : Int) - 1, r.set j (P : Int), y.set j 0, (by first | rfl | simp), ⟨by omega, by omega⟩, ⟨?_⟩⟩
                      refine HI8.out.put (by have := HM.out; omega) (v := (P : Int)) (u := 0) ?_ ?_
                      · rw [HD.out, HDb.out, C, if_pos HE.out, HP.out]
                      · rw [HD.out, HDb.out]; simp only [wayK]; rw [if_pos HE.out]
                  · have t3 : (x == yb) = false := beq_eq_false_iff_ne.2 c3
                    have HE := Lib.hid c3
                    clear c3
                    go_quiet (fail)
                    obtain ⟨W8, hW8⟩ : ∃ x, wr.drewN nq = x := ⟨_, rfl⟩
                    have HI8 := Aside0.mk (hW8 ▸ HI.out.drewN nq)
                    rw [hW8]
                    clear hW8 ha2 hb2 HI
                    have cn0 := (R_cellN 0 HI8.out.next j hj1).1
                    rw [HC3.out.2 j (by omega) (by have := HM.out; omega)] at cn0
                    have cr1 := (R_cellN 0 HI8.out.row (j + 1) hj4).1
                    rw [HI8.out.cost.2 (j + 1) (Nat.le_refl _) (by have := HM.out; omega)] at cr1
                    obtain ⟨P, hP⟩ : ∃ x, C (a.drop (i + 1)) (b.drop j) = x := ⟨_, rfl⟩
                    obtain ⟨Q, hQ⟩ : ∃ x, C (a.drop i) (b.drop (j + 1)) = x := ⟨_, rfl⟩
                    have hPb : P ≤ 200000 := by have h1 := C_le (a.drop (i + 1)) (b.drop j); have h2 := HLA.out; have h3 := HLB.out; omega
                    have hQb : Q ≤ 200000 := by
                      have h1 := C_le (a.drop i) (b.drop (j + 1))
                      have h2 : (a.drop i).length ≤ n := by rw [List.length_drop, HN.out]; omega
                      have h3 : (b.drop (j + 1)).length ≤ m := by rw [List.length_drop, HM.out]; omega
                      omega
                    rw [hP] at cn0
                    rw [hQ] at cr1
                    have HP := Lib.hid hP
                    have HQ := Lib.hid hQ
                    clear hP hQ
                    go_upto_region 27 with fail
                    by_cases c4 : P ≤ Q
                    · have t4 : decide ((P : Int) ≤ (Q : Int)) = true := by simp; omega
                      have t5 : decide (P ≤ Q) = true := by simp; omega
                      have HE4 := Lib.hid c4
                      clear c4
                      go_quiet (fail)
                      generalize hW9 : World.drewN W8 _ = W9
                      have HI9 : Aside0 (Inner a b n m w gW cW gN cN gR cR gY cY wo.heap.size wsi nx r y i (j + 1) W9) := ⟨by rw [← hW9]; exact HI8.out.drewN _⟩
                      clear hW9 cn0 cr1 HI8
                      obtain ⟨crow, frow⟩ := R_cellN 0 HI9.out.row j hj1
                      obtain ⟨cway, fway⟩ := R_cellN 0 HI9.out.way j hj1
                      obtain ⟨cws0, fws⟩ := R_cellN none HI9.out.ways i hi1
                      rw [HI9.out.mine] at cws0
                      have cws : W9.cell? ⟨gW, i, none⟩ = some (.slice (some ⟨gY, 0, none⟩) (m + 1) cY) := cws0
                      clear cws0
                      have cn0 := (R_cellN 0 HI9.out.next j hj1).1
                      rw [HC3.out.2 j (by omega) (by have := HM.out; omega), HP.out] at cn0
                      have cr1 := (R_cellN 0 HI9.out.row (j + 1) hj4).1
                      rw [HI9.out.cost.2 (j + 1) (Nat.le_refl _) (by have := HM.out; omega), HQ.out] at cr1
                      go_wp2
                      go_roundg j
                      case measure => omega
                      case rel =>
                        refine ⟨(j : Int) - 1, r.set j ((P : Int) + 1), y.set j 2, (by first | rfl | simp), ⟨by omega, by omega⟩, ⟨?_⟩⟩
                        refine HI9.out.put (by have := HM.out; omega) (v := ((P : Int) + 1)) (u := 2) ?_ ?_
                        · have e1 := HP.out
                          have e2 := HQ.out
                          rw [HDb.out] at e1
                          rw [HD.out] at e2
                          rw [HD.out, HDb.out, C, if_neg HE.out, e1, e2, if_pos HE4.out]
                          omega
                        · have e1 := HP.out
                          have e2 := HQ.out
                          rw [HDb.out] at e1
                          rw [HD.out] at e2
                          rw [HD.out, HDb.out]
                          simp only [wayK]
                          rw [if_neg HE.out, e1, e2, if_pos HE4.out]
                    · have t4 : decide ((P : Int) ≤ (Q : Int)) = false := by simp; omega
                      have t5 : decide (P ≤ Q) = false := by simp; omega
                      have HE4 := Lib.hid c4
                      clear c4
                      go_quiet (fail)
                      generalize hW9 : World.drewN W8 _ = W9
                      have HI9 : Aside0 (Inner a b n m w gW cW gN cN gR cR gY cY wo.heap.size wsi nx r y i (j + 1) W9) := ⟨by rw [← hW9]; exact HI8.out.drewN _⟩
                      clear hW9 cn0 cr1 HI8
                      obtain ⟨crow, frow⟩ := R_cellN 0 HI9.out.row j hj1
                      obtain ⟨cway, fway⟩ := R_cellN 0 HI9.out.way j hj1
                      obtain ⟨cws0, fws⟩ := R_cellN none HI9.out.ways i hi1
                      rw [HI9.out.mine] at cws0
                      have cws : W9.cell? ⟨gW, i, none⟩ = some (.slice (some ⟨gY, 0, none⟩) (m + 1) cY) := cws0
                      clear cws0
                      have cn0 := (R_cellN 0 HI9.out.next j hj1).1
                      rw [HC3.out.2 j (by omega) (by have := HM.out; omega), HP.out] at cn0
                      have cr1 := (R_cellN 0 HI9.out.row (j + 1) hj4).1
                      rw [HI9.out.cost.2 (j + 1) (Nat.le_refl _) (by have := HM.out; omega), HQ.out] at cr1
                      go_wp2
                      go_roundg j
                      case measure => omega
                      case rel =>
                        refine ⟨(j : Int) - 1, r.set j ((Q : Int) + 1), y.set j 1, (by first | rfl | simp), ⟨by omega, by omega⟩, ⟨?_⟩⟩
                        refine HI9.out.put (by have := HM.out; omega) (v := ((Q : Int) + 1)) (u := 1) ?_ ?_
                        · have e1 := HP.out
                          have e2 := HQ.out
                          rw [HDb.out] at e1
                          rw [HD.out] at e2
                          rw [HD.out, HDb.out, C, if_neg HE.out, e1, e2, if_neg HE4.out]
                          omega
                        · have e1 := HP.out
                          have e2 := HQ.out
                          rw [HDb.out] at e1
                          rw [HD.out] at e2
                          rw [HD.out, HDb.out]
                          simp only [wayK]
                          rw [if_neg HE.out, e1, e2, if_neg HE4.out]
end Go.Proofs.YtabhfloclcmjnaaDoor.X
