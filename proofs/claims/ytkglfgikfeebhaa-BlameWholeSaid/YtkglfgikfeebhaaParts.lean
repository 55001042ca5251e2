/-
  blame.Parts: its contract in the print's form: by this session. Conditions: at most 20000 cells.
-/
import Derived.Test.YtkglfgikfeebhaaAdd
namespace Go.Proofs.Ytkglfgikfeebhaa.X
open Go Go.RowKit Go.Shelf Go.Lib Go.Proofs.YtkglfgikfeebhaaW.PrintLast Go.Proofs.YtkglfgikfeebhaaW.PrintWords Go.Proofs.Ytkglfgikfeebhaa.P
set_option linter.unusedVariables false
/-- The parts that runs tell, from a place on. -/
def partsOf : Int → List (List S46) → List S33
  | _, [] => []
  | at_, r :: rs => ⟨⟨(r.headD z46).f0.f0, (r.headD z46).f0.f1⟩, (r.headD z46).f1, at_, (r.length : Int)⟩ :: partsOf (at_ + r.length) rs
theorem partsOf_snoc (r : List S46) : ∀ (xss : List (List S46)) (at_ : Int), partsOf at_ (xss ++ [r]) = partsOf at_ xss ++ [⟨⟨(r.headD z46).f0.f0, (r.headD z46).f0.f1⟩, (r.headD z46).f1, at_ + (xss.flatten.length : Nat), (r.length : Int)⟩]
  | [], at_ => by simp [partsOf]
  | x :: xss, at_ => by
    rw [List.cons_append, partsOf, partsOf_snoc r xss, partsOf, List.cons_append, List.flatten_cons, List.length_append, Int.natCast_add, Int.add_assoc]
theorem partsOf_length : ∀ (xss : List (List S46)) (at_ : Int), (partsOf at_ xss).length = xss.length
  | [], _ => rfl
  | x :: xss, at_ => by rw [partsOf, List.length_cons, partsOf_length xss, List.length_cons]
theorem fl_le : ∀ (xss : List (List S46)), (∀ r ∈ xss, r ≠ []) → xss.length ≤ xss.flatten.length
  | [], _ => Nat.le_refl _
  | x :: xss, h => by
    have h1 := fl_le xss (fun r hr => h r (List.mem_cons_of_mem _ hr))
    have h2 := List.length_pos_iff.2 (h x List.mem_cons_self)
    rw [List.length_cons, List.flatten_cons, List.length_append]
    omega
theorem fl_at {xss : List (List S46)} {r : List S46} (h : r ∈ xss) : r.length ≤ xss.flatten.length := by
  obtain ⟨a, b, rfl⟩ := List.append_of_mem h
  simp only [List.flatten_append, List.flatten_cons, List.length_append]
  omega
theorem runs_all (g : S46 → S46 → Bool) (M : List S46) : (∀ r ∈ runsOf g M, r ≠ []) ∧ (runsOf g M).flatten = M := by
  rcases List.eq_nil_or_concat M with rfl | ⟨M', y, e⟩
  · exact ⟨fun r hr => (by cases hr), rfl⟩
  · subst e
    rw [List.concat_eq_append]
    exact (runsOf_ends g M' y).2
/-- The runs gathered so far. -/
def RunsI (W : World) (gR base : Nat) (v : Value) (M : List S46) : Prop :=
  W.heap[gR]? = some (.cells #[.func (.func 18) #[] #[], v] 55 (0, 0)) ∧ Kd.S (Kd.slice 46 k46) 22 W base (fun _ => True) v (runsOf goesB M) ∧ (M = [] → v = .slice none 0 0)
theorem RunsI.below {W W' : World} {gR base : Nat} {v : Value} {M : List S46} (h : RunsI W gR base v M) (hb : Below W.heap.size W W') : RunsI W' gR base v M := ⟨blk_below h.1 hb, Kd.S_below h.2.1 hb, h.2.2⟩
theorem add_any (gR base : Nat) (v : Value) (M : List S46) (a1 a2 a3 a4 : Int) (a5 : Bool) (w : World) (hbg : base ≤ gR) (hbs : base ≤ w.heap.size) (hl : M.length ≤ 20000) (h : RunsI w gR base v M) :
    Calls Try.prog 19 #[.pointer (some ⟨gR, 0, none⟩), .agg #[.int .i64 a1, .int .i64 a2, .int .i64 a3, .int .i32 a4, .bool a5]] w fun e w' => e = .returned (.tuple #[]) ∧ (∃ v', RunsI w' gR base v' (M ++ [⟨⟨a1, a2⟩, a3, a4, a5⟩])) ∧ ∀ w0, Below base w0 w → Below base w0 w' := by
  obtain ⟨h1, h2, h3⟩ := h
  rcases List.eq_nil_or_concat M with rfl | ⟨M', y, e⟩
  · rw [h3 rfl] at h1
    refine (add_0 gR base a1 a2 a3 a4 a5 w hbg hbs h1).mono ?_
    rintro e w' ⟨rfl, ⟨v', h4, h5⟩, h6⟩
    exact ⟨rfl, ⟨v', h4, h5, fun e => by simp at e⟩, h6⟩
  · subst e
    obtain ⟨⟨y1, y2⟩, y3, y4, y5⟩ := y
    obtain ⟨⟨yss, r, h4⟩, h5, h6⟩ := runsOf_ends goesB M' ⟨⟨y1, y2⟩, y3, y4, y5⟩
    rw [List.concat_eq_append] at h2 hl ⊢
    have h7 := fl_le _ h5
    rw [h6, h4] at h7
    have h8 := fl_at (xss := runsOf goesB (M' ++ [⟨⟨y1, y2⟩, y3, y4, y5⟩])) (r := r ++ [⟨⟨y1, y2⟩, y3, y4, y5⟩]) (by rw [h4]; simp)
    rw [h6] at h8
    simp only [List.length_append, List.length_singleton] at h7 h8 hl
    rw [h4] at h2
    refine (add_w gR base v yss r y1 y2 y3 y4 a1 a2 a3 a4 y5 a5 w hbg hbs (by omega) (by omega) h1 h2).mono ?_
    rintro e w' ⟨rfl, ⟨v', h9, h10⟩, h11⟩
    exact ⟨rfl, ⟨v', h9, by rw [runsOf_snoc, h4]; exact h10, fun e => by simp at e⟩, h11⟩
theorem info_part : (Try.prog.info? 33).map (fun i => (i.zero, i.size, i.bytes)) = some (some (.agg #[(.int .i64 0), (.int .i64 0), (.int .i64 0), (.int .i64 0), (.int .i64 0)]), 5, 40) := by kernel_rfl
theorem wN (a b : Nat) (h : a + b ≤ 1000000) : wrap64 ((a : Int) + (b : Int)) = ((a + b : Nat) : Int) := by unfold wrap64; omega
set_option maxRecDepth 100000 in
set_option maxHeartbeats 16000000 in
theorem parts_yes (A : Option Addr) (c : Nat) (l : List S46) (w : World) (hC : Kd.C k46 w A l.length l) (hc : l.length ≤ c) (hl : l.length ≤ 20000) (h0 : codeN l = 0) :
    Calls Try.prog 7 #[.slice A l.length c] w fun e w' => ∃ v, e = .returned v ∧ Kd.R k33 33 w' w.heap.size (fun _ => True) v (partsOf 0 (runsOf goesB (liveL l))) ∧ Below w.heap.size w w' := by
  have hLv := live_yes A c l w hC hc hl h0
  have hMl : (liveL l).length ≤ 20000 := Nat.le_trans (List.length_filter_le _ _) hl
  obtain ⟨M, hM⟩ : ∃ M, liveL l = M := ⟨_, rfl⟩
  obtain ⟨n, hn⟩ : ∃ n, l.length = n := ⟨_, rfl⟩
  rw [hM] at hLv hMl ⊢
  rw [hn] at hLv ⊢
  obtain ⟨xss, hxs⟩ : ∃ x, runsOf goesB M = x := ⟨_, rfl⟩
  rw [hxs]
  have HXS := Lib.hid hxs
  clear hC hc hl h0 hM hn hxs
  go_enter Try.func7, Try.ntmps7
  go_upto_region 4 with (go_at_call 17; refine hLv.mono ?_; rintro e w1 ⟨vM, rfl, hvM, hb1⟩; have HVM := Lib.hid (And.intro hvM hb1); clear hLv hvM hb1; obtain ⟨AM, cM, rfl, hcM, hCM⟩ := Kd.R_reads HVM.out.1)
  obtain ⟨m, hm⟩ : ∃ m, M.length = m := ⟨_, rfl⟩
  have HM := Lib.hid hm
  have HCM := Lib.hid hCM
  rw [hm] at hMl hcM ⊢
  clear hCM hm
  go_upto_region 5 with fail
  have hW3 := Deep.blk_alloc_new w1 (.cells #[.func (.func 18) #[] #[], (.slice none 0 0)] 55 (0, 0))
  have hB3 := below_alloc (Below.refl w1.heap.size w1) (.cells #[.func (.func 18) #[] #[], (.slice none 0 0)] 55 (0, 0))
  obtain ⟨gR, hgR⟩ : ∃ x, w1.heap.size = x := ⟨_, rfl⟩
  obtain ⟨W3, hW3e⟩ : ∃ x, w1.alloc (.cells #[.func (.func 18) #[] #[], (.slice none 0 0)] 55 (0, 0)) = x := ⟨_, rfl⟩
  rw [hgR] at hW3 hB3 ⊢
  rw [hW3e] at hW3 hB3 ⊢
  have hgs0 : gR ≤ W3.heap.size := by rw [← hgR]; exact hgR ▸ hB3.size
  have hI0 : RunsI W3 gR gR (.slice none 0 0) (M.take 0) := ⟨hW3, Kd.S_nil _ _ _ _ _, fun _ => rfl⟩
  have HGR := Lib.hid hgR
  clear hgR hW3 hW3e
  go_wp2
  go_loopg [23] m (fun q u23 wr => ∃ i : Nat, u23 = .int .i64 (i : Nat) ∧ Aside0 (i + q = m ∧ (∃ v, RunsI wr gR gR v (M.take i)) ∧ Below gR w1 wr ∧ gR ≤ wr.heap.size))
  case atStart => exact ⟨0, rfl, ⟨by omega, ⟨_, hI0⟩, hB3, hgs0⟩⟩
  case round =>
    obtain ⟨i, rfl, HR⟩ := hrel
    clear hI0 hB3 hgs0
    have HI := Lib.hid HR.out.1
    obtain ⟨⟨v, hI⟩, hb, hgs⟩ := HR.out.2
    clear HR
    by_cases hik : i < m
    · have hi0 : (0 : Int) ≤ (i : Int) := by omega
      have hi1 : (i : Int) < (m : Int) := by omega
      have hil : i < M.length := by rw [HM.out]; exact hik
      obtain ⟨ad, e0, x0, x1, x2, x3, x4⟩ := at_T46 (Kd.C_below HCM.out (HGR.out ▸ hb)) (i : Int) hi0 (by rw [HM.out]; exact hi1)
      cases e0
      rw [Int.toNat_natCast, rd46 M i hil] at x0 x1 x2 x3 x4
      obtain ⟨⟨⟨a1, a2⟩, a3, a4, d⟩, hx⟩ : ∃ x, M[i] = x := ⟨_, rfl⟩
      have HX := Lib.hid (show M[i]? = some (⟨⟨a1, a2⟩, a3, a4, d⟩ : S46) by rw [List.getElem?_eq_getElem hil, hx])
      rw [hx] at x0 x1 x2 x3 x4
      replace x0 : wr.cell? _ = some (.int .i64 a1) := x0
      replace x1 : wr.cell? _ = some (.int .i64 a2) := x1
      replace x2 : wr.cell? _ = some (.int .i64 a3) := x2
      replace x3 : wr.cell? _ = some (.int .i32 a4) := x3
      replace x4 : wr.cell? _ = some (.bool d) := x4
      have HII := Lib.hid hI
      have HB := Lib.hid (And.intro hb hgs)
      have HW := Lib.hid (w_s i (by omega))
      have HML := Lib.hid hMl
      clear hx hil hI hb hgs
      go_upto_region 8 with (first
        | ((with_reducible refine gate_dst (N := 7) rfl ?_); refine box_event ?hg (N := 7) ?hd (cs := #[.int .i64 0, .int .i64 0, .int .i64 0, .int .i32 0, .bool false]) (t := 46) ?hr ?_; (case hd => rfl); (case hg => rfl); (case hr => first | (go_simp; done) | (go_simp; rfl)); intro gb hgb w1' hbox hb1; have HBx := Lib.hid (And.intro hbox (And.intro hgb hb1)); have z0 := blk_cell hbox 0; have z1 := blk_cell hbox 1; have z2 := blk_cell hbox 2; have z3 := blk_cell hbox 3; have z4 := blk_cell hbox 4; have y0 := blk_frozen hbox 0; have y1 := blk_frozen hbox 1; have y2 := blk_frozen hbox 2; have y3 := blk_frozen hbox 3; have y4 := blk_frozen hbox 4; clear hbox hgb hb1))
      have hBX : Bxs wr [(gb, #[.int .i64 0, .int .i64 0, .int .i64 0, .int .i32 0, .bool false], 46)] w1' := ⟨fun x hx => by
        rcases List.mem_singleton.1 hx with rfl
        exact HBx.out.1, by simp, fun x hx => by
        rcases List.mem_singleton.1 hx with rfl
        exact Nat.le_of_eq HBx.out.2.1.symm, HBx.out.2.2⟩
      have hB1 : Bxs wr [(gb, #[.int .i64 a1, .int .i64 0, .int .i64 0, .int .i32 0, .bool false], 46)] _ := hBX.put 0 rfl 0 (.int .i64 a1)
      have hB2 : Bxs wr [(gb, #[.int .i64 a1, .int .i64 a2, .int .i64 0, .int .i32 0, .bool false], 46)] _ := hB1.put 0 rfl 1 (.int .i64 a2)
      have hB3 : Bxs wr [(gb, #[.int .i64 a1, .int .i64 a2, .int .i64 a3, .int .i32 0, .bool false], 46)] _ := hB2.put 0 rfl 2 (.int .i64 a3)
      have hB4 : Bxs wr [(gb, #[.int .i64 a1, .int .i64 a2, .int .i64 a3, .int .i32 a4, .bool false], 46)] _ := hB3.put 0 rfl 3 (.int .i32 a4)
      have hB5 : Bxs wr [(gb, #[.int .i64 a1, .int .i64 a2, .int .i64 a3, .int .i32 a4, .bool d], 46)] _ := hB4.put 0 rfl 4 (.bool d)
      obtain ⟨w2, hw2⟩ : ∃ x, (((((w1'.setCell ⟨gb, 0, none⟩ (.int .i64 a1)).setCell ⟨gb, 1, none⟩ (.int .i64 a2)).setCell ⟨gb, 2, none⟩ (.int .i64 a3)).setCell ⟨gb, 3, none⟩ (.int .i32 a4)).setCell ⟨gb, 4, none⟩ (.bool d)) = x := ⟨_, rfl⟩
      rw [hw2] at hB5 ⊢
      have r0 : w2.cell? ⟨gb, 0, none⟩ = some (.int .i64 a1) := hB5.cell 0 rfl 0
      have r1 : w2.cell? ⟨gb, 1, none⟩ = some (.int .i64 a2) := hB5.cell 0 rfl 1
      have r2 : w2.cell? ⟨gb, 2, none⟩ = some (.int .i64 a3) := hB5.cell 0 rfl 2
      have r3 : w2.cell? ⟨gb, 3, none⟩ = some (.int .i32 a4) := hB5.cell 0 rfl 3
      have r4 : w2.cell? ⟨gb, 4, none⟩ = some (.bool d) := hB5.cell 0 rfl 4
      have hAdd := add_any gR gR v (M.take i) a1 a2 a3 a4 d w2 (Nat.le_refl _) (Nat.le_trans HB.out.2 hB5.below.size) (by rw [List.length_take]; have := HML.out; omega) (HII.out.below hB5.below)
      have HB5 := Lib.hid hB5.below
      clear hBX hB1 hB2 hB3 hB4 hB5 HBx hw2 z0 z1 z2 z3 z4 y0 y1 y2 y3 y4 x0 x1 x2 x3 x4
      go_wp2_with (go_at_call 19; refine hAdd.mono ?_; rintro e w3 ⟨rfl, ⟨v3, hI3⟩, hb3⟩; have HI3 := Lib.hid hI3; have HB3 := Lib.hid (hb3 w1 (HB.out.1.trans (HB5.out.mono HB.out.2))); clear hAdd hI3 hb3)
      go_roundg (m - (i + 1))
      case measure => have := HI.out; omega
      case rel => exact ⟨i + 1, by first | rfl | (rw [HW.out]), ⟨by have := HI.out; omega, ⟨v3, by
          obtain ⟨h1, h2⟩ := List.getElem?_eq_some_iff.1 HX.out
          rw [List.take_succ_eq_append_getElem h1, h2]
          exact HI3.out⟩, HB3.out, by have h1 := HGR.out; have h2 := HB3.out.size; omega⟩⟩
    · have hi1 : ¬ (i : Int) < (m : Int) := by omega
      have htk : M.take i = M := List.take_of_length_le (by rw [HM.out]; omega)
      rw [htk] at hI
      clear htk hik
      obtain ⟨hne, hfl⟩ := runs_all goesB M
      obtain ⟨hI1, hI2, _⟩ := hI
      have hxs := HXS.out
      rw [hxs] at hne hfl hI2
      have hfl2 : xss.flatten.length = m := by rw [hfl, HM.out]
      have hkl := fl_le xss hne
      rw [hfl2] at hkl
      obtain ⟨AO, cO, rfl⟩ := Kd.S_slice hI2
      obtain ⟨kk, hkk⟩ : ∃ x, xss.length = x := ⟨_, rfl⟩
      rw [hkk] at hI1 hI2 hkl
      have d1 := blk_cell hI1 1
      have HS0 := Lib.hid hI2
      have HNE := Lib.hid hne
      have HFL := Lib.hid hfl2
      have HKK := Lib.hid hkk
      have HBW := Lib.hid (HVM.out.2.trans (hb.mono (by have := HVM.out.2.size; have := HGR.out; omega)))
      have HGS := Lib.hid hgs
      clear hI1 hI2 hne hfl hfl2 hkk hb hgs hxs
      have hkm : kk ≤ 20000 := by omega
      go_wp2
      go_loopg [8, 9, 36] kk (fun q u8 u9 u36 wz => ∃ i : Nat, u36 = .int .i64 (i : Nat) ∧ u9 = .int .i64 (((xss.take i).flatten.length : Nat) : Int) ∧ Aside0 (i + q = kk ∧ Kd.R k33 33 wz w.heap.size (fun _ => True) u8 (partsOf 0 (xss.take i)) ∧ Kd.S (Kd.slice 46 k46) 22 wz gR (fun _ => True) (.slice AO kk cO) xss ∧ Below w.heap.size w wz))
      case atStart => exact ⟨0, rfl, rfl, ⟨by omega, Kd.R_nil _ _ _ _ _, HS0.out, HBW.out⟩⟩
      case round =>
        clear HS0 HBW HGS d1
        obtain ⟨i, rfl, rfl, HR⟩ := hrel
        have HI := Lib.hid HR.out.1
        obtain ⟨hV, hSx, hb⟩ := HR.out.2
        clear HR
        obtain ⟨AP, cP, rfl⟩ := Kd.R_slice hV
        obtain ⟨v8, hv8⟩ : ∃ x, Value.slice AP (partsOf 0 (xss.take i)).length cP = x := ⟨_, rfl⟩
        rw [hv8] at hV ⊢
        clear hv8
        by_cases hik : i < kk
        · have hi0 : (0 : Int) ≤ (i : Int) := by omega
          have hi1 : (i : Int) < (kk : Int) := by omega
          obtain ⟨go, co, he, _, _, _⟩ := Kd.S_form hSx (by rw [HKK.out]; omega)
          injection he with he1 he2 he3
          subst he1
          subst he3
          have hix : i < xss.length := by rw [HKK.out]; exact hik
          obtain ⟨c, hcl, hM1, hcc⟩ := Kd.S_get hSx ([] : List S46) (i : Int) hi0 (by omega)
          have hri : xss.getD (i : Int).toNat [] = xss[i] := by simp [List.getD_eq_getElem?_getD, List.getElem?_eq_getElem hix]
          rw [hri] at hM1
          obtain ⟨ri, hrr⟩ : ∃ x, xss[i] = x := ⟨_, rfl⟩
          have hrne : ri ≠ [] := hrr ▸ HNE.out _ (List.getElem_mem hix)
          have hrl := fl_at (hrr ▸ List.getElem_mem hix : ri ∈ xss)
          rw [HFL.out] at hrl
          have hXI : xss[i]? = some ri := by rw [List.getElem?_eq_getElem hix, hrr]
          have htk : xss.take (i + 1) = xss.take i ++ [ri] := by rw [List.take_succ_eq_append_getElem hix, hrr]
          have hfi : (xss.take i).flatten.length + ri.length ≤ m := by
            have h9 : ((xss.take (i + 1)).flatten ++ (xss.drop (i + 1)).flatten).length = m := by rw [← List.flatten_append, List.take_append_drop]; exact HFL.out
            rw [htk, List.flatten_append, List.length_append, List.length_append] at h9
            simp only [List.flatten_cons, List.flatten_nil, List.append_nil] at h9
            omega
          rw [hrr] at hM1
          obtain ⟨vi, rfl, hVi⟩ := hM1
          obtain ⟨gi, ci, rfl, hbgi, hgilt, cI, hIb⟩ := Kd.R_form hVi (List.length_pos_iff.2 hrne)
          obtain ⟨ad, e0, h0, h1, h2, h3, h4⟩ := at_T46 (Kd.R_reads' hVi).2.2 0 (by omega) (by have := List.length_pos_iff.2 hrne; omega)
          cases e0
          have hhd : rd_T46 ri 0 = ri.headD z46 := by cases ri with
            | nil => exact absurd rfl hrne
            | cons a b => rfl
          rw [hhd] at h0 h1 h2
          obtain ⟨⟨⟨y1, y2⟩, y3, y4, y5⟩, hhx⟩ : ∃ x, ri.headD z46 = x := ⟨_, rfl⟩
          rw [hhx] at h0 h1 h2
          replace h0 : wr.cell? ⟨gi, 0, none⟩ = some (.int .i64 y1) := h0
          replace h1 : wr.cell? ⟨gi, 1, none⟩ = some (.int .i64 y2) := h1
          replace h2 : wr.cell? ⟨gi, 2, none⟩ = some (.int .i64 y3) := h2
          have hc0 := (blk_cell hIb 0).symm.trans h0
          have hc1 := (blk_cell hIb 1).symm.trans h1
          have hc2 := (blk_cell hIb 2).symm.trans h2
          have hxc := hcc 0 _ rfl
          rw [show (i : Int).toNat * (Kd.slice 46 k46).sz + 0 = i by simp [Kd.slice]] at hxc
          simp only [Addr.add_lit, Nat.zero_add] at hxc
          clear he2
          obtain ⟨rl, hrl2⟩ : ∃ x, ri.length = x := ⟨_, rfl⟩
          rw [hrl2] at hxc hrl hfi
          have hrlp : 0 < rl := by rw [← hrl2]; exact List.length_pos_iff.2 hrne
          have hrlz : (0 : Int) < (rl : Int) := Int.natCast_pos.2 hrlp
          obtain ⟨at0, hat0⟩ : ∃ x, (xss.take i).flatten.length = x := ⟨_, rfl⟩
          rw [hat0] at hfi ⊢
          have hwn := wN at0 rl (by omega)
          obtain ⟨P8, hP8⟩ : ∃ x, partsOf 0 (xss.take i) = x := ⟨_, rfl⟩
          rw [hP8] at hV
          have hPl : P8.length ≤ 20000 := by rw [← hP8, partsOf_length, List.length_take]; omega
          have HPL := Lib.hid hPl
          have HP8 := Lib.hid hP8
          have HAT := Lib.hid hat0
          have HTK := Lib.hid htk
          have HHX := Lib.hid (And.intro hhx hrl2)
          have HW := Lib.hid (And.intro (w_s i (by omega)) hwn)
          obtain ⟨at_, hat_⟩ : ∃ x : Int, (at0 : Int) = x := ⟨_, rfl⟩
          have HAE := Lib.hid hat_
          rw [hat_]
          clear hcc hcl hri hrr hrne hrl hXI hfi hVi h0 h1 h2 h3 h4 hhd hhx hrl2 hat0 hP8 hPl htk hix hwn hat_ hbgi hgilt
          go_upto_region 15 with fail
          have hI := hIb
          clear hIb
          refine start_ (n := 16) (S := fun w' => w'.heap[gi]? = some (.cells cI 46 (0, 0))) (ds := []) #[false, false, false, false, false, false, false, false, false, false, false, false, false, false, false, false] (by kernel_rfl) rfl rfl hI (fun hHeld => ?_)
          have HV3 := Lib.hid (Kd.R_drew hV)
          have HS3 := Lib.hid (Kd.S_drew hSx)
          have HB3 := Lib.hid (below_drew hb)
          have hs3 : w.heap.size ≤ wr.drew.heap.size := hb.size
          clear hV hSx hb hI
          generalize wr.drew = w40 at hHeld HV3 HS3 HB3 hs3 ⊢
          refine pure_ (i := 0) (N := some 40) (v := ?_) (a' := ?_) #[true, false, false, false, false, false, false, false, false, false, false, false, false, false, false, false] rfl rfl (by kernel_rfl) (fun _ _ _ h => h) (Or.inl ⟨by rfl, ?_⟩) ?_ ?_
          rotate_left
          · intro w'
            go_simp
            with_reducible rfl
          rotate_left
          · simp only [Act.put, List.setIfInBounds_toArray, List.set_cons_zero, List.set_cons_succ]
            rfl
          refine pure_ (i := 1) (N := some 41) (v := ?_) (a' := ?_) #[true, true, false, false, false, false, false, false, false, false, false, false, false, false, false, false] rfl rfl (by kernel_rfl) (fun _ _ _ h => h) (Or.inl ⟨by rfl, ?_⟩) ?_ ?_
          rotate_left
          · intro w'
            go_simp
            with_reducible rfl
          rotate_left
          · simp only [Act.put, List.setIfInBounds_toArray, List.set_cons_zero, List.set_cons_succ]
            rfl
          refine pure_ (i := 2) (N := some 42) (v := ?_) (a' := ?_) #[true, true, true, false, false, false, false, false, false, false, false, false, false, false, false, false] rfl rfl (by kernel_rfl) (fun _ _ _ h => h) (Or.inl ⟨by rfl, ?_⟩) ?_ ?_
          rotate_left
          · intro w'
            go_simp
            with_reducible rfl
          rotate_left
          · simp only [Act.put, List.setIfInBounds_toArray, List.set_cons_zero, List.set_cons_succ]
            rfl
          refine pure_ (i := 3) (N := some 43) (v := ?_) (a' := ?_) #[true, true, true, true, false, false, false, false, false, false, false, false, false, false, false, false] rfl rfl (by kernel_rfl) (fun _ _ _ h => h) (Or.inl ⟨by rfl, ?_⟩) ?_ ?_
          rotate_left
          · intro w'
            go_simp
            with_reducible rfl
          rotate_left
          · simp only [Act.put, List.setIfInBounds_toArray, List.set_cons_zero, List.set_cons_succ]
            rfl
          refine take_ (i := 4) (N := some 44) (v := ?_) (a' := ?_) #[true, true, true, true, true, false, false, false, false, false, false, false, false, false, false, false] rfl rfl (by kernel_rfl) (fun _ _ _ h => h) (Or.inl ⟨by rfl, ?_⟩) hHeld ?_ ?_
          rotate_left
          · rintro w' b0
            have s0 := (blk_cell b0 0).trans hc0
            have s1 := (blk_cell b0 1).trans hc1
            have s2 := (blk_cell b0 2).trans hc2
            go_simp
            with_reducible rfl
          rotate_left
          · simp only [Act.put, List.setIfInBounds_toArray, List.set_cons_zero, List.set_cons_succ]
            rfl
          refine pure_ (i := 5) (N := some 45) (v := ?_) (a' := ?_) #[true, true, true, true, true, true, false, false, false, false, false, false, false, false, false, false] rfl rfl (by kernel_rfl) (fun _ _ _ h => h) (Or.inl ⟨by rfl, ?_⟩) ?_ ?_
          rotate_left
          · intro w'
            go_simp
            with_reducible rfl
          rotate_left
          · simp only [Act.put, List.setIfInBounds_toArray, List.set_cons_zero, List.set_cons_succ]
            rfl
          refine pure_ (i := 6) (N := some 46) (v := ?_) (a' := ?_) #[true, true, true, true, true, true, true, false, false, false, false, false, false, false, false, false] rfl rfl (by kernel_rfl) (fun _ _ _ h => h) (Or.inl ⟨by rfl, ?_⟩) ?_ ?_
          rotate_left
          · intro w'
            go_simp
            with_reducible rfl
          rotate_left
          · simp only [Act.put, List.setIfInBounds_toArray, List.set_cons_zero, List.set_cons_succ]
            rfl
          refine pure_ (i := 7) (N := some 47) (v := ?_) (a' := ?_) #[true, true, true, true, true, true, true, true, false, false, false, false, false, false, false, false] rfl rfl (by kernel_rfl) (fun _ _ _ h => h) (Or.inl ⟨by rfl, ?_⟩) ?_ ?_
          rotate_left
          · intro w'
            go_simp
            with_reducible rfl
          rotate_left
          · simp only [Act.put, List.setIfInBounds_toArray, List.set_cons_zero, List.set_cons_succ]
            rfl
          refine take_ (i := 8) (N := some 48) (v := ?_) (a' := ?_) #[true, true, true, true, true, true, true, true, true, false, false, false, false, false, false, false] rfl rfl (by kernel_rfl) (fun _ _ _ h => h) (Or.inl ⟨by rfl, ?_⟩) hHeld ?_ ?_
          rotate_left
          · rintro w' b0
            have s0 := (blk_cell b0 0).trans hc0
            have s1 := (blk_cell b0 1).trans hc1
            have s2 := (blk_cell b0 2).trans hc2
            go_simp
            with_reducible rfl
          rotate_left
          · simp only [Act.put, List.setIfInBounds_toArray, List.set_cons_zero, List.set_cons_succ]
            rfl
          refine pure_ (i := 9) (N := some 49) (v := ?_) (a' := ?_) #[true, true, true, true, true, true, true, true, true, true, false, false, false, false, false, false] rfl rfl (by kernel_rfl) (fun _ _ _ h => h) (Or.inl ⟨by rfl, ?_⟩) ?_ ?_
          rotate_left
          · intro w'
            go_simp
            with_reducible rfl
          rotate_left
          · simp only [Act.put, List.setIfInBounds_toArray, List.set_cons_zero, List.set_cons_succ]
            rfl
          refine pure_ (i := 10) (N := some 50) (v := ?_) (a' := ?_) #[true, true, true, true, true, true, true, true, true, true, true, false, false, false, false, false] rfl rfl (by kernel_rfl) (fun _ _ _ h => h) (Or.inl ⟨by rfl, ?_⟩) ?_ ?_
          rotate_left
          · intro w'
            go_simp
            with_reducible rfl
          rotate_left
          · simp only [Act.put, List.setIfInBounds_toArray, List.set_cons_zero, List.set_cons_succ]
            rfl
          refine pure_ (i := 11) (N := some 51) (v := ?_) (a' := ?_) #[true, true, true, true, true, true, true, true, true, true, true, true, false, false, false, false] rfl rfl (by kernel_rfl) (fun _ _ _ h => h) (Or.inl ⟨by rfl, ?_⟩) ?_ ?_
          rotate_left
          · intro w'
            go_simp
            with_reducible rfl
          rotate_left
          · simp only [Act.put, List.setIfInBounds_toArray, List.set_cons_zero, List.set_cons_succ]
            rfl
          refine pure_ (i := 12) (N := some 52) (v := ?_) (a' := ?_) #[true, true, true, true, true, true, true, true, true, true, true, true, true, false, false, false] rfl rfl (by kernel_rfl) (fun _ _ _ h => h) (Or.inl ⟨by rfl, ?_⟩) ?_ ?_
          rotate_left
          · intro w'
            go_simp
            with_reducible rfl
          rotate_left
          · simp only [Act.put, List.setIfInBounds_toArray, List.set_cons_zero, List.set_cons_succ]
            rfl
          refine one_ (i := 13) (N := some 53) #[true, true, true, true, true, true, true, true, true, true, true, true, true, true, false, false] rfl rfl (by kernel_rfl) (by decide) (fun K hK => ?_)
          refine value_ (v := .slice (some ⟨w40.heap.size, 0, none⟩) 1 1) (w1 := w40.alloc (.cells #[.int .i64 y1, .int .i64 y2, .int .i64 y3, .int .i64 at_, .int .i64 (rl : Nat)] 33)) (by rfl) rfl ?hr ?_
          case hr => first | (go_simp; done) | (go_simp; rfl)
          refine hK.out _ _ (blk_alloc hHeld _) (fun hHeld2 => ?_)
          clear hK K hHeld2
          refine norm_ (a' := ?_) ?_ ?_
          rotate_left
          · show Act.put _ (some 53) _ = _
            simp only [Act.put, List.setIfInBounds_toArray, List.set_cons_zero, List.set_cons_succ]
            rfl
          refine one_ (i := 14) (N := some 54) #[true, true, true, true, true, true, true, true, true, true, true, true, true, true, true, false] rfl rfl (by kernel_rfl) (by decide) (fun K hK => ?_)
          refine Kd.R_append_step k33 (w0 := w) (W := w40) w.heap.size (by rfl) (.tmp 40) (.tmp 53) 24 33 (.agg #[(.int .i64 0), (.int .i64 0), (.int .i64 0), (.int .i64 0), (.int .i64 0)]) 40 rfl Try.underlying24 info_part rfl (by decide) (by decide) v8 P8 (⟨⟨y1, y2⟩, y3, at_, (rl : Int)⟩ : S33) [.int .i64 y1, .int .i64 y2, .int .i64 y3, .int .i64 at_, .int .i64 (rl : Nat)] (fun _ => True) (fun _ => False) rfl rfl (k33_mkM _ _ _ ⟨⟨y1, y2⟩, y3, at_, (rl : Int)⟩) (fun _ h => h.elim) (fun _ _ => trivial) HV3.out HB3.out hs3 ?aL ?_
          case aL => have := HPL.out; omega
          intro v9 w41 hv9 hb41 hg41 hat41
          have hty := fun k (hk : v8.ownBlock = some k) => Kd.R_typed HV3.out k hk
          have hL0 := (hg41.block gi (blk_lt hHeld) (fun e => by obtain ⟨cells, hc⟩ := hty gi e.symm; exact blk_ne hHeld hc (by decide) rfl)).trans hHeld
          have HS4 := Lib.hid (Kd.S_over' HS3.out hty (by decide) hg41)
          have HV4 := Lib.hid hv9
          have HB4 := Lib.hid hb41
          refine hK.out _ _ hL0 (fun hHeld => ?_)
          clear hK K hv9 hb41 hg41 hat41 hL0 hty
          refine norm_ (a' := ?_) ?_ ?_
          rotate_left
          · show Act.put _ (some 54) _ = _
            simp only [Act.put, List.setIfInBounds_toArray, List.set_cons_zero, List.set_cons_succ]
            rfl
          refine pure_ (i := 15) (N := some 8) (v := ?_) (a' := ?_) #[true, true, true, true, true, true, true, true, true, true, true, true, true, true, true, true] rfl rfl (by kernel_rfl) (fun _ _ _ h => h) (Or.inl ⟨by rfl, ?_⟩) ?_ ?_
          rotate_left
          · intro w'
            go_simp
            with_reducible rfl
          rotate_left
          · simp only [Act.put, List.setIfInBounds_toArray, List.set_cons_zero, List.set_cons_succ]
            rfl
          refine done_ (by kernel_rfl) ?_
          have hw16 := HW.out.2
          rw [HAE.out] at hw16
          go_wp2
          go_roundg (kk - (i + 1))
          case measure => have := HI.out; omega
          case rel => exact ⟨i + 1, by first | rfl | (rw [HW.out.1]), by first | rfl | (rw [HTK.out, List.flatten_append, List.length_append, HAT.out]; simp [HHX.out.2]), ⟨by have := HI.out; omega, by
              rw [HTK.out, partsOf_snoc, HP8.out, HHX.out.1, HHX.out.2, HAT.out, Int.zero_add, HAE.out]
              exact HV4.out, HS4.out, HB4.out⟩⟩
        · have hi1 : ¬ (i : Int) < (kk : Int) := by omega
          have htk : xss.take i = xss := List.take_of_length_le (by rw [HKK.out]; omega)
          rw [htk] at hV
          have HFIN := Lib.hid (And.intro hV hb)
          clear hV hb hSx htk
          go_wp2
          go_ret
          exact ⟨_, rfl, HFIN.out.1, HFIN.out.2⟩
set_option maxRecDepth 100000 in
set_option maxHeartbeats 8000000 in
theorem parts_no (A : Option Addr) (c : Nat) (l : List S46) (w : World) (hC : Kd.C k46 w A l.length l) (hc : l.length ≤ c) (hl : l.length ≤ 20000) (h0 : codeN l ≠ 0) :
    Calls Try.prog 7 #[.slice A l.length c] w fun e w' => e = .returned (.slice none 0 0) ∧ Below w.heap.size w w' := by
  have hN := live_no A c l w hC hc hl h0
  obtain ⟨n, hn⟩ : ∃ n, l.length = n := ⟨_, rfl⟩
  rw [hn] at hN ⊢
  clear hC hc hl h0 hn
  go_enter Try.func7, Try.ntmps7
  go_wp2_with (go_at_call 17; refine hN.mono ?_; rintro e w1 ⟨rfl, hb⟩)
  go_ret
  exact ⟨rfl, hb⟩
def blame_Parts.f (l0 : List S46) : Option (List S33) := if l0.length ≤ 20000 then some (if codeN l0 = 0 then partsOf 0 (runsOf goesB (liveL l0)) else []) else none
theorem blame_Parts.calls (A0 : Option Addr) (c0 : Nat) (l0 : List S46) (r : List S33) (w : World) (hr0 : Kd.C k46 w A0 l0.length l0) (hc0 : l0.length ≤ c0) (h : blame_Parts.f l0 = some r) :
    Calls Try.prog 7 #[.slice A0 l0.length c0] w fun e w' => ∃ v0_ : Value, e = .returned v0_ ∧ Kd.R k33 33 w' w.heap.size (fun _ => True) v0_ r ∧ Below w.heap.size w w' := by
  unfold blame_Parts.f at h
  split at h
  · rename_i hl
    cases h
    by_cases h0 : codeN l0 = 0
    · rw [if_pos h0]
      exact parts_yes A0 c0 l0 w hr0 hc0 hl h0
    · rw [if_neg h0]
      refine (parts_no A0 c0 l0 w hr0 hc0 hl h0).mono ?_
      rintro e w' ⟨rfl, hb⟩
      exact ⟨_, rfl, Kd.R_nil _ _ _ _ _, hb⟩
  · cases h
end Go.Proofs.Ytkglfgikfeebhaa.X
