/-
  The statement BlameParts, walked by hand: it is true of every input: by this session. Conditions: as typed.
-/
import Derived.Test.YtkglfgikfeebhaaPartsP
import Derived.Test.YtkglfgikfeebhaaAlive
import Derived.Test.YtkglfgikfeebhaaPx6
namespace Go.Proofs.Ytkglfgikfeebhaa.X
open Go Go.RowKit Go.Shelf Go.Lib Go.Proofs.YtkglfgikfeebhaaW.PrintLast Go.Proofs.YtkglfgikfeebhaaW.PrintWords Go.Proofs.Ytkglfgikfeebhaa.P
set_option linter.unusedVariables false
/-- The part that holds i among the first k; or none. -/
def wantP (P : List S33) (i : Int) (k : Nat) : S33 := match (P.take k).find? (inP i) with
  | some p => p
  | none => z33
theorem wantP_in {P : List S33} {i : Int} {k : Nat} (hI : IvOk 0 P) (h : k < P.length) (hp : inP i P[k] = true) : wantP P i (k + 1) = P[k] := by
  have hs : P = P.take k ++ P[k] :: P.drop (k + 1) := by rw [← List.drop_eq_getElem_cons h, List.take_append_drop]
  have ha : ∀ q ∈ P.take k, inP i q = false := iv_apart (P.take k) 0 P[k] (P.drop (k + 1)) i (hs ▸ hI) hp
  unfold wantP
  rw [List.take_succ_eq_append_getElem h, List.find?_append, List.find?_eq_none.2 (fun q hq => by rw [ha q hq]; simp)]
  simp [hp]
theorem wantP_out {P : List S33} {i : Int} {k : Nat} (h : k < P.length) (hp : inP i P[k] = false) : wantP P i (k + 1) = wantP P i k := by
  unfold wantP
  rw [List.take_succ_eq_append_getElem h, List.find?_append]
  simp [hp]
theorem ownerT_want (l : List S46) (hl : l.length ≤ 19000) (i : Int) : ∃ ez : Int, ownerT l i = ((wantP (partT l) i (partT l).length).f0.f0, (wantP (partT l) i (partT l).length).f0.f1, (wantP (partT l) i (partT l).length).f1, (wantP (partT l) i (partT l).length).f2, (wantP (partT l) i (partT l).length).f3, ez) ∧
    (codeN l = 0 → (ez = 0 ∧ 1 ≤ (wantP (partT l) i (partT l).length).f3) ∨ (ez = 3 ∧ wantP (partT l) i (partT l).length = z33)) ∧ (codeN l ≠ 0 → ez = 1 ∧ wantP (partT l) i (partT l).length = z33) := by
  obtain ⟨h1, h2, h3⟩ := partT_ok l hl
  unfold ownerT wantP
  rw [List.take_length]
  by_cases h0 : codeN l = 0
  · rw [if_pos h0]
    unfold findP
    cases hf : (partT l).find? (inP i) with
    | none => exact ⟨3, rfl, fun _ => Or.inr ⟨rfl, rfl⟩, fun h => absurd h0 h⟩
    | some p => exact ⟨0, rfl, fun _ => Or.inl ⟨rfl, (h3 p (List.mem_of_find?_eq_some hf)).2.1⟩, fun h => absurd h0 h⟩
  · rw [if_neg h0]
    have hp : partT l = [] := by unfold partT; rw [if_neg h0]
    rw [hp]
    exact ⟨1, rfl, fun h => absurd h h0, fun _ => ⟨rfl, rfl⟩⟩
set_option maxRecDepth 100000 in
set_option maxHeartbeats 16000000 in
theorem bparts_big (A : Option Addr) (c n : Nat) (i : Int) (w : World) (hn : 250 < n) :
    Calls Try.prog 3 #[.slice A n c, .int .i64 i] w fun e w' => e = .returned (.bool true) ∧ Below w.heap.size w w' := by
  have hA := alive_w w
  have hn1 : (250 : Int) < (n : Int) := by omega
  go_enter Try.func3, Try.ntmps3
  go_wp2_with (go_at_call 6; refine hA.mono ?_; rintro e w1 ⟨rfl, hb1⟩; clear hA)
  go_ret
  exact ⟨rfl, hb1⟩
set_option maxRecDepth 100000 in
set_option maxHeartbeats 16000000 in
theorem bparts_small (A : Option Addr) (c : Nat) (l : List S46) (i : Int) (w : World) (hC : Kd.C k46 w A l.length l) (hc : l.length ≤ c) (hl : l.length ≤ 250) (hi : (Lit.int .i64 i).wf = true) :
    Calls Try.prog 3 #[.slice A l.length c, .int .i64 i] w fun e w' => e = .returned (.bool true) ∧ Below w.heap.size w w' := by
  have hA := alive_w w
  obtain ⟨hIv, hPl, hPb⟩ := partT_ok l (by omega)
  have hpf : blame_Parts.f l = some (partT l) := by
    unfold blame_Parts.f partT
    rw [if_pos (by omega)]
  obtain ⟨k1, hrf⟩ := ref_parts_f l (by omega)
  obtain ⟨k2, hof⟩ := owner_f l (by omega) i
  obtain ⟨ez, hoT, hez0, hez1⟩ := ownerT_want l (by omega) i
  rw [hoT] at hof
  have hP := fun w' (hb : Below w.heap.size w w') => blame_Parts.calls A c l _ w' (Kd.C_below hC hb) hc hpf
  have hQ := fun w' (hb : Below w.heap.size w w') => foolscapref30_Parts.calls k1 A c l _ w' (Kd.C_below hC hb) hc hrf
  have hO := fun w' (hb : Below w.heap.size w w') => blame_Owner.calls k2 A c l i _ _ _ _ _ _ w' (Kd.C_below hC hb) hc hof
  have hMy := fun w' (hb : Below w.heap.size w w') => rmay_w A c l w' (Kd.C_below hC hb) hc (by omega)
  rw [refT_map] at hQ
  obtain ⟨z, hz⟩ : ∃ z, codeN l = z := ⟨_, rfl⟩
  rw [hz] at hMy hez0 hez1
  obtain ⟨P, hPe⟩ : ∃ P, partT l = P := ⟨_, rfl⟩
  rw [hPe] at hP hQ hO hez0 hez1 hIv hPl hPb
  have hil : -9223372036854775808 ≤ i ∧ i ≤ 9223372036854775807 := by
    simpa [Lit.wf, IntKind.min, IntKind.max, IntKind.signed, IntKind.bits] using hi
  obtain ⟨m, hm⟩ : ∃ m, l.length = m := ⟨_, rfl⟩
  have HLEN := Lib.hid hm
  rw [hm] at hP hQ hO hMy hl hPl ⊢
  have hl1 : ¬ (250 : Int) < (m : Int) := by omega
  have HPB := Lib.hid (And.intro hIv (And.intro hPl hPb))
  have HE := Lib.hid (And.intro hez0 hez1)
  have HL := Lib.hid (And.intro hl hil)
  clear hC hc hpf hrf hof hoT hez0 hez1 hIv hPl hPb hPe hz hm hi hl hil
  go_enter Try.func3, Try.ntmps3
  go_upto_region 6 with (first
    | (go_at_call 6; refine hA.mono ?_; rintro e w1 ⟨rfl, hb1⟩; have HB1 := Lib.hid hb1; clear hA hb1)
    | (go_at_call 7; refine (hP _ HB1.out).mono ?_; rintro e w2 ⟨vp, rfl, hvp, hb2⟩; have HVP := Lib.hid hvp; have HB2 := Lib.hid (below_step HB1.out hb2); clear hvp hb2 hP)
    | (go_at_call 8; refine (hQ _ HB2.out).mono ?_; rintro e w3 ⟨vq, rfl, hvq, hb3⟩; have HVQ := Lib.hid hvq; have HB3 := Lib.hid (below_step HB2.out hb3); have HVP3 := Lib.hid (Kd.R_below HVP.out hb3); clear hvq hb3 hQ HVP))
  obtain ⟨AP, cP, rfl, hcP, hCP⟩ := Kd.R_reads HVP3.out
  obtain ⟨AQ, cQ, rfl, hcQ, hCQ⟩ := Kd.R_reads HVQ.out
  obtain ⟨n, hn⟩ : ∃ n, P.length = n := ⟨_, rfl⟩
  rw [List.length_map] at hCQ hcQ ⊢
  rw [hn] at hcP hcQ ⊢
  have HN := Lib.hid hn
  have HCP := Lib.hid hCP
  have HCQ := Lib.hid hCQ
  have hn1 : n ≤ 20000 := by rw [← hn]; have := HPB.out.2.1; have := HL.out.1; omega
  clear hCP hCQ hn hcP hcQ HVP3 HVQ
  go_upto_region 9 with (first
    | ((with_reducible refine gate_dst (N := 7) rfl ?_); refine box_event ?hg (N := 7) ?hd (cs := #[.int .i64 0, .int .i64 0, .int .i64 0, .int .i64 0, .int .i64 0]) (t := 31) ?hr ?_; (case hd => rfl); (case hg => rfl); (case hr => first | (go_simp; done) | (go_simp; rfl)); intro g7 hgb w1' hbox hb1; have HBx7 := Lib.hid (And.intro hbox (And.intro hgb hb1)); have z0 := blk_cell hbox 0; have z1 := blk_cell hbox 1; have z2 := blk_cell hbox 2; have z3 := blk_cell hbox 3; have z4 := blk_cell hbox 4; have y0 := blk_frozen hbox 0; have y1 := blk_frozen hbox 1; have y2 := blk_frozen hbox 2; have y3 := blk_frozen hbox 3; have y4 := blk_frozen hbox 4; clear hbox hgb hb1))
  have hX0 : Bxs w3 [(g7, #[.int .i64 0, .int .i64 0, .int .i64 0, .int .i64 0, .int .i64 0], 31)] w1' := ⟨fun x hx => by
    rcases List.mem_singleton.1 hx with rfl
    exact HBx7.out.1, by simp, fun x hx => by
    rcases List.mem_singleton.1 hx with rfl
    exact Nat.le_of_eq HBx7.out.2.1.symm, HBx7.out.2.2⟩
  have hX1 : Bxs w3 [(g7, #[.int .i64 0, .int .i64 0, .int .i64 0, .int .i64 0, .int .i64 0], 31)] _ := hX0.put 0 rfl 0 (.int .i64 0)
  have hX2 : Bxs w3 [(g7, #[.int .i64 0, .int .i64 0, .int .i64 0, .int .i64 0, .int .i64 0], 31)] _ := hX1.put 0 rfl 1 (.int .i64 0)
  have hX3 : Bxs w3 [(g7, #[.int .i64 0, .int .i64 0, .int .i64 0, .int .i64 0, .int .i64 0], 31)] _ := hX2.put 0 rfl 2 (.int .i64 0)
  have hX4 : Bxs w3 [(g7, #[.int .i64 0, .int .i64 0, .int .i64 0, .int .i64 0, .int .i64 0], 31)] _ := hX3.put 0 rfl 3 (.int .i64 0)
  have hX5 : Bxs w3 [(g7, #[.int .i64 0, .int .i64 0, .int .i64 0, .int .i64 0, .int .i64 0], 31)] _ := hX4.put 0 rfl 4 (.int .i64 0)
  obtain ⟨w4, hw_⟩ : ∃ x, (((((w1'.setCell ⟨g7, 0, none⟩ (.int .i64 0)).setCell ⟨g7, 1, none⟩ (.int .i64 0)).setCell ⟨g7, 2, none⟩ (.int .i64 0)).setCell ⟨g7, 3, none⟩ (.int .i64 0)).setCell ⟨g7, 4, none⟩ (.int .i64 0)) = x := ⟨_, rfl⟩
  rw [hw_] at hX5 ⊢
  have hB7 := hX5
  clear hX0 hX1 hX2 hX3 hX4 hX5 hw_ z0 z1 z2 z3 z4 y0 y1 y2 y3 y4
  have hw0 : wantP P i 0 = z33 := rfl
  go_wp2
  go_loopg [8] n (fun q u8 wr => ∃ k : Nat, u8 = .int .i64 (k : Nat) ∧ Aside0 (k + q = n ∧ Bxs w3 [(g7, #[.int .i64 (wantP P i k).f0.f0, .int .i64 (wantP P i k).f0.f1, .int .i64 (wantP P i k).f1, .int .i64 (wantP P i k).f2, .int .i64 (wantP P i k).f3], 31)] wr))
  case atStart => exact ⟨0, rfl, ⟨by omega, hB7⟩⟩
  case round =>
    obtain ⟨k, rfl, HR⟩ := hrel
    clear hB7 hw0
    have HI := Lib.hid HR.out.1
    have hB := HR.out.2
    clear HR
    by_cases hik : k < n
    · have hi0 : (0 : Int) ≤ (k : Int) := by omega
      have hi1 : (k : Int) < (n : Int) := by omega
      have hil : k < P.length := by rw [HN.out]; exact hik
      obtain ⟨ap, e0, x0, x1, x2, x3, x4⟩ := at_T33 (Kd.C_below HCP.out hB.below) (k : Int) hi0 (by rw [HN.out]; exact hi1)
      cases e0
      obtain ⟨aq, e0, t0, t1, t2, t3, t4⟩ := at_T31 (Kd.C_below HCQ.out hB.below) (k : Int) hi0 (by rw [HN.out]; exact hi1)
      cases e0
      rw [Int.toNat_natCast] at x0 x1 x2 x3 x4 t0 t1 t2 t3 t4
      rw [rd33 P k hil] at x0 x1 x2 x3 x4
      rw [show rd_T31 (P.map toR) (k : Int) = toR P[k] by simp [rd_T31, List.getD_eq_getElem?_getD, List.getElem?_eq_getElem hil]] at t0 t1 t2 t3 t4
      have hpb := HPB.out.2.2 _ (List.getElem_mem hil)
      have hin := @wantP_in P i k HPB.out.1 hil
      have hout := @wantP_out P i k hil
      obtain ⟨⟨⟨p1, p2⟩, p3, p4, p5⟩, hx⟩ : ∃ x, P[k] = x := ⟨_, rfl⟩
      rw [hx] at x0 x1 x2 x3 x4 t0 t1 t2 t3 t4 hpb hin hout
      obtain ⟨hpb1, hpb2, hpb3⟩ := hpb
      replace hpb1 : 0 ≤ p4 := hpb1
      replace hpb2 : 1 ≤ p5 := hpb2
      replace hpb3 : p4 + p5 ≤ 250 := by have h9 : p4 + p5 ≤ (l.length : Int) := hpb3; have := HL.out.1; have := HLEN.out; omega
      replace x0 : wr.cell? _ = some (.int .i64 p1) := x0
      replace x1 : wr.cell? _ = some (.int .i64 p2) := x1
      replace x2 : wr.cell? _ = some (.int .i64 p3) := x2
      replace x3 : wr.cell? _ = some (.int .i64 p4) := x3
      replace x4 : wr.cell? _ = some (.int .i64 p5) := x4
      replace t0 : wr.cell? _ = some (.int .i64 p1) := t0
      replace t1 : wr.cell? _ = some (.int .i64 p2) := t1
      replace t2 : wr.cell? _ = some (.int .i64 p3) := t2
      replace t3 : wr.cell? _ = some (.int .i64 p4) := t3
      replace t4 : wr.cell? _ = some (.int .i64 p5) := t4
      obtain ⟨bp, hbp⟩ : ∃ x, ap.add (k * 5) = x := ⟨_, rfl⟩
      obtain ⟨bq, hbq⟩ : ∃ x, aq.add (k * 5) = x := ⟨_, rfl⟩
      rw [hbp] at x0 x1 x2 x3 x4
      rw [hbq] at t0 t1 t2 t3 t4
      have HB := Lib.hid hB
      have HW := Lib.hid (w_s k (by omega))
      have HPP := Lib.hid (And.intro hpb1 (And.intro hpb2 hpb3))
      have HIO := Lib.hid (And.intro hin hout)
      clear hx hil hB hpb1 hpb2 hpb3 hin hout
      go_upto_region 12 with fail
      refine start_ (n := 10) (S := fun w' => Below wr.heap.size wr w' ∧ (w'.cell? bp = some (.int .i64 p1) ∧ w'.cell? ⟨bp.block, bp.off + 1, none⟩ = some (.int .i64 p2) ∧ w'.cell? ⟨bp.block, bp.off + 2, none⟩ = some (.int .i64 p3) ∧ w'.cell? ⟨bp.block, bp.off + 3, none⟩ = some (.int .i64 p4) ∧ w'.cell? ⟨bp.block, bp.off + 4, none⟩ = some (.int .i64 p5)) ∧ w'.cell? bq = some (.int .i64 p1) ∧ w'.cell? ⟨bq.block, bq.off + 1, none⟩ = some (.int .i64 p2) ∧ w'.cell? ⟨bq.block, bq.off + 2, none⟩ = some (.int .i64 p3) ∧ w'.cell? ⟨bq.block, bq.off + 3, none⟩ = some (.int .i64 p4) ∧ w'.cell? ⟨bq.block, bq.off + 4, none⟩ = some (.int .i64 p5)) (ds := []) #[false, false, false, false, false, false, false, false, false, false] (by kernel_rfl) rfl rfl ⟨(Below.refl _ wr).drew, ⟨x0, x1, x2, x3, x4⟩, t0, t1, t2, t3, t4⟩ (fun hHeld => ?_)
      generalize wr.drew = w30 at hHeld ⊢
      refine pure_ (i := 0) (N := some 32) (v := ?_) (a' := ?_) #[true, false, false, false, false, false, false, false, false, false] rfl rfl (by kernel_rfl) (fun _ _ _ h => h) (Or.inl ⟨by rfl, ?_⟩) ?_ ?_
      rotate_left
      · intro w'
        go_simp
        with_reducible rfl
      rotate_left
      · simp only [Act.put, List.setIfInBounds_toArray, List.set_cons_zero, List.set_cons_succ]
        rfl
      refine pure_ (i := 1) (N := some 33) (v := ?_) (a' := ?_) #[true, true, false, false, false, false, false, false, false, false] rfl rfl (by kernel_rfl) (fun _ _ _ h => h) (Or.inl ⟨by rfl, ?_⟩) ?_ ?_
      rotate_left
      · intro w'
        go_simp
        with_reducible rfl
      rotate_left
      · simp only [Act.put, List.setIfInBounds_toArray, List.set_cons_zero, List.set_cons_succ]
        rfl
      refine pure_ (i := 2) (N := some 34) (v := ?_) (a' := ?_) #[true, true, true, false, false, false, false, false, false, false] rfl rfl (by kernel_rfl) (fun _ _ _ h => h) (Or.inl ⟨by rfl, ?_⟩) ?_ ?_
      rotate_left
      · intro w'
        go_simp
        with_reducible rfl
      rotate_left
      · simp only [Act.put, List.setIfInBounds_toArray, List.set_cons_zero, List.set_cons_succ]
        rfl
      refine take_ (i := 3) (N := some 35) (v := ?_) (a' := ?_) #[true, true, true, true, false, false, false, false, false, false] rfl rfl (by kernel_rfl) (fun _ _ _ h => h) (Or.inl ⟨by rfl, ?_⟩) hHeld ?_ ?_
      rotate_left
      · rintro w' ⟨s0, ⟨s1, s2, s3, s4, s5⟩, s6, s7, s8, s9, s10⟩
        go_simp
        with_reducible rfl
      rotate_left
      · simp only [Act.put, List.setIfInBounds_toArray, List.set_cons_zero, List.set_cons_succ]
        rfl
      refine pure_ (i := 5) (N := some 37) (v := ?_) (a' := ?_) #[true, true, true, true, false, true, false, false, false, false] rfl rfl (by kernel_rfl) (fun _ _ _ h => h) (Or.inl ⟨by rfl, ?_⟩) ?_ ?_
      rotate_left
      · intro w'
        go_simp
        with_reducible rfl
      rotate_left
      · simp only [Act.put, List.setIfInBounds_toArray, List.set_cons_zero, List.set_cons_succ]
        rfl
      refine pure_ (i := 6) (N := some 38) (v := ?_) (a' := ?_) #[true, true, true, true, false, true, true, false, false, false] rfl rfl (by kernel_rfl) (fun _ _ _ h => h) (Or.inl ⟨by rfl, ?_⟩) ?_ ?_
      rotate_left
      · intro w'
        go_simp
        with_reducible rfl
      rotate_left
      · simp only [Act.put, List.setIfInBounds_toArray, List.set_cons_zero, List.set_cons_succ]
        rfl
      refine pure_ (i := 7) (N := some 39) (v := ?_) (a' := ?_) #[true, true, true, true, false, true, true, true, false, false] rfl rfl (by kernel_rfl) (fun _ _ _ h => h) (Or.inl ⟨by rfl, ?_⟩) ?_ ?_
      rotate_left
      · intro w'
        go_simp
        with_reducible rfl
      rotate_left
      · simp only [Act.put, List.setIfInBounds_toArray, List.set_cons_zero, List.set_cons_succ]
        rfl
      refine take_ (i := 8) (N := some 40) (v := ?_) (a' := ?_) #[true, true, true, true, false, true, true, true, true, false] rfl rfl (by kernel_rfl) (fun _ _ _ h => h) (Or.inl ⟨by rfl, ?_⟩) hHeld ?_ ?_
      rotate_left
      · rintro w' ⟨s0, ⟨s1, s2, s3, s4, s5⟩, s6, s7, s8, s9, s10⟩
        go_simp
        with_reducible rfl
      rotate_left
      · simp only [Act.put, List.setIfInBounds_toArray, List.set_cons_zero, List.set_cons_succ]
        rfl
      refine one_ (i := 4) (N := some 36) #[true, true, true, true, true, true, true, true, true, false] rfl rfl (by kernel_rfl) (by decide) (fun K hK => ?_)
      refine call_ 9 #[.agg #[.int .i64 p1, .int .i64 p2, .int .i64 p3, .int .i64 p4, .int .i64 p5]] (by rfl) rfl ?hrun ?_
      case hrun => first | (go_simp; done) | (go_simp; rfl)
      refine (foolscaplaw30_Plain.calls p1 p2 p3 p4 p5 p1 p2 p3 p4 p5 _ rfl).mono ?_
      rintro e w31 ⟨rfl, hb31⟩
      refine ⟨_, rfl, ?_⟩
      have hE : Below wr.heap.size wr w31 := below_step hHeld.1 hb31
      have kk := fun (q : Addr) (v : Value) (h : w30.cell? q = some v) => (hb31.cell (World.block_lt_of_cell? w30 _ h)).trans h
      refine hK.out _ _ ⟨hE, ⟨kk _ _ hHeld.2.1.1, kk _ _ hHeld.2.1.2.1, kk _ _ hHeld.2.1.2.2.1, kk _ _ hHeld.2.1.2.2.2.1, kk _ _ hHeld.2.1.2.2.2.2⟩, kk _ _ hHeld.2.2.1, kk _ _ hHeld.2.2.2.1, kk _ _ hHeld.2.2.2.2.1, kk _ _ hHeld.2.2.2.2.2.1, kk _ _ hHeld.2.2.2.2.2.2⟩ (fun hHeld => ?_)
      clear hK K kk hb31 hE
      refine norm_ (a' := ?_) ?_ ?_
      rotate_left
      · show Act.put _ (some 36) _ = _
        simp only [Act.put, List.setIfInBounds_toArray, List.set_cons_zero, List.set_cons_succ]
        rfl
      refine pure_ (i := 9) (N := some 41) (v := ?_) (a' := ?_) #[true, true, true, true, true, true, true, true, true, true] rfl rfl (by kernel_rfl) (fun _ _ _ h => h) (Or.inl ⟨by rfl, ?_⟩) ?_ ?_
      rotate_left
      · intro w'
        go_simp
        with_reducible rfl
      rotate_left
      · simp only [Act.put, List.setIfInBounds_toArray, List.set_cons_zero, List.set_cons_succ]
        rfl
      refine done_ (by kernel_rfl) ?_
      obtain ⟨hE, _, g0, g1, g2, g3, g4⟩ := hHeld
      have HB2 := Lib.hid (HB.out.keep hE)
      clear x0 x1 x2 x3 x4 t0 t1 t2 t3 t4 hE HB
      go_upto_region 14 with fail
      by_cases h1 : p4 ≤ i
      · have hsub : wrap64 (i - p4) = i - p4 := by have := HL.out.2; have := HPP.out; unfold wrap64; omega
        by_cases h2 : i - p4 < p5
        · have HN1 := Lib.hid (HIO.out.1 (by simp only [inP, Bool.and_eq_true, decide_eq_true_eq]; exact ⟨h1, by show i < p4 + p5; omega⟩))
          have h1' : p4 ≤ i := h1
          go_region
          obtain ⟨w40, hw40⟩ : ∃ x, w31.drew = x := ⟨_, rfl⟩
          have hX0 := HB2.out.drew
          have f0 : w31.drew.cell? bq = some (.int .i64 p1) := g0
          have f1 : w31.drew.cell? ⟨bq.block, bq.off + 1, none⟩ = some (.int .i64 p2) := g1
          have f2 : w31.drew.cell? ⟨bq.block, bq.off + 2, none⟩ = some (.int .i64 p3) := g2
          have f3 : w31.drew.cell? ⟨bq.block, bq.off + 3, none⟩ = some (.int .i64 p4) := g3
          have f4 : w31.drew.cell? ⟨bq.block, bq.off + 4, none⟩ = some (.int .i64 p5) := g4
          rw [hw40] at hX0 f0 f1 f2 f3 f4 ⊢
          obtain ⟨⟨⟨c1, c2⟩, c3, c4, c5⟩, hc⟩ : ∃ x, wantP P i k = x := ⟨_, rfl⟩
          rw [hc] at hX0
          replace hX0 : Bxs w3 [(g7, #[.int .i64 c1, .int .i64 c2, .int .i64 c3, .int .i64 c4, .int .i64 c5], 31)] w40 := hX0
          have z0 : w40.cell? ⟨g7, 0, none⟩ = some (.int .i64 c1) := hX0.cell 0 rfl 0
          have z1 : w40.cell? ⟨g7, 1, none⟩ = some (.int .i64 c2) := hX0.cell 0 rfl 1
          have z2 : w40.cell? ⟨g7, 2, none⟩ = some (.int .i64 c3) := hX0.cell 0 rfl 2
          have z3 : w40.cell? ⟨g7, 3, none⟩ = some (.int .i64 c4) := hX0.cell 0 rfl 3
          have z4 : w40.cell? ⟨g7, 4, none⟩ = some (.int .i64 c5) := hX0.cell 0 rfl 4
          have y0 := hX0.free 0 rfl 0
          have y1 := hX0.free 0 rfl 1
          have y2 := hX0.free 0 rfl 2
          have y3 := hX0.free 0 rfl 3
          have y4 := hX0.free 0 rfl 4
          have hX1 : Bxs w3 [(g7, #[.int .i64 p1, .int .i64 c2, .int .i64 c3, .int .i64 c4, .int .i64 c5], 31)] _ := hX0.put 0 rfl 0 (.int .i64 p1)
          have hX2 : Bxs w3 [(g7, #[.int .i64 p1, .int .i64 p2, .int .i64 c3, .int .i64 c4, .int .i64 c5], 31)] _ := hX1.put 0 rfl 1 (.int .i64 p2)
          have hX3 : Bxs w3 [(g7, #[.int .i64 p1, .int .i64 p2, .int .i64 p3, .int .i64 c4, .int .i64 c5], 31)] _ := hX2.put 0 rfl 2 (.int .i64 p3)
          have hX4 : Bxs w3 [(g7, #[.int .i64 p1, .int .i64 p2, .int .i64 p3, .int .i64 p4, .int .i64 c5], 31)] _ := hX3.put 0 rfl 3 (.int .i64 p4)
          have hX5 : Bxs w3 [(g7, #[.int .i64 p1, .int .i64 p2, .int .i64 p3, .int .i64 p4, .int .i64 p5], 31)] _ := hX4.put 0 rfl 4 (.int .i64 p5)
          have HX5 := Lib.hid hX5
          clear hX0 hX1 hX2 hX3 hX4 hX5 hc hw40 g0 g1 g2 g3 g4
          go_wp2
          go_roundg (n - (k + 1))
          case measure => have := HI.out; omega
          case rel => exact ⟨k + 1, by first | rfl | (rw [HW.out]), ⟨by have := HI.out; omega, by rw [HN1.out]; exact HX5.out⟩⟩
        · have HN1 := Lib.hid (HIO.out.2 (by simp only [inP, Bool.and_eq_false_iff, decide_eq_false_iff_not]; exact Or.inr (by show ¬ i < p4 + p5; omega)))
          go_region
          have hX0 := HB2.out.drew
          have HX5 := Lib.hid hX0
          clear hX0 g0 g1 g2 g3 g4
          go_wp2
          go_roundg (n - (k + 1))
          case measure => have := HI.out; omega
          case rel => exact ⟨k + 1, by first | rfl | (rw [HW.out]), ⟨by have := HI.out; omega, by rw [HN1.out]; exact HX5.out⟩⟩
      · have HN1 := Lib.hid (HIO.out.2 (by simp only [inP, Bool.and_eq_false_iff, decide_eq_false_iff_not]; exact Or.inl h1))
        go_region
        have hX0 := HB2.out.drew
        have HX5 := Lib.hid hX0
        clear hX0 g0 g1 g2 g3 g4
        go_wp2
        go_roundg (n - (k + 1))
        case measure => have := HI.out; omega
        case rel => exact ⟨k + 1, by first | rfl | (rw [HW.out]), ⟨by have := HI.out; omega, by rw [HN1.out]; exact HX5.out⟩⟩
    · have hi1 : ¬ (k : Int) < (n : Int) := by omega
      have hkn : k = n := by have := HI.out; omega
      rw [hkn, ← HN.out] at hB
      obtain ⟨hez0, hez1⟩ := HE.out
      obtain ⟨⟨⟨o1, o2⟩, o3, o4, o5⟩, ho⟩ : ∃ x, wantP P i P.length = x := ⟨_, rfl⟩
      rw [ho] at hB hO hez0 hez1
      replace hB : Bxs w3 [(g7, #[.int .i64 o1, .int .i64 o2, .int .i64 o3, .int .i64 o4, .int .i64 o5], 31)] wr := hB
      have HB7 := Lib.hid hB
      have hO2 := hO _ (Below.trans HB3.out (hB.below.mono HB3.out.size))
      replace hO2 : Calls Try.prog 10 #[.slice A m c, .int .i64 i] wr fun e w' => e = .returned (.tuple #[.agg #[.int .i64 o1, .int .i64 o2, .int .i64 o3, .int .i64 o4, .int .i64 o5], .int .i64 ez]) ∧ Below wr.heap.size wr w' := hO2
      have HEZ := Lib.hid (And.intro hez0 hez1)
      have HF := Lib.hid (Below.trans HB3.out (hB.below.mono HB3.out.size))
      clear hO hB ho hez0 hez1 hkn hik
      go_upto_region 17 with (first
        | (go_at_call 10; refine hO2.mono ?_; rintro e w5 ⟨rfl, hb5⟩; have HB5 := Lib.hid hb5; clear hO2 hb5)
        | ((with_reducible refine gate_dst (N := 9) rfl ?_); refine box_event ?hg (N := 9) ?hd (cs := #[.int .i64 0, .int .i64 0, .int .i64 0, .int .i64 0, .int .i64 0]) (t := 33) ?hr ?_; (case hd => rfl); (case hg => rfl); (case hr => first | (go_simp; done) | (go_simp; rfl)); intro g9 hgb w1' hbox hb1; have HBx9 := Lib.hid (And.intro hbox (And.intro hgb hb1)); have z0 := blk_cell hbox 0; have z1 := blk_cell hbox 1; have z2 := blk_cell hbox 2; have z3 := blk_cell hbox 3; have z4 := blk_cell hbox 4; have y0 := blk_frozen hbox 0; have y1 := blk_frozen hbox 1; have y2 := blk_frozen hbox 2; have y3 := blk_frozen hbox 3; have y4 := blk_frozen hbox 4; clear hbox hgb hb1))
      have hX0 : Bxs w5 [(g9, #[.int .i64 0, .int .i64 0, .int .i64 0, .int .i64 0, .int .i64 0], 33)] w1' := ⟨fun x hx => by
        rcases List.mem_singleton.1 hx with rfl
        exact HBx9.out.1, by simp, fun x hx => by
        rcases List.mem_singleton.1 hx with rfl
        exact Nat.le_of_eq HBx9.out.2.1.symm, HBx9.out.2.2⟩
      have hX1 : Bxs w5 [(g9, #[.int .i64 o1, .int .i64 0, .int .i64 0, .int .i64 0, .int .i64 0], 33)] _ := hX0.put 0 rfl 0 (.int .i64 o1)
      have hX2 : Bxs w5 [(g9, #[.int .i64 o1, .int .i64 o2, .int .i64 0, .int .i64 0, .int .i64 0], 33)] _ := hX1.put 0 rfl 1 (.int .i64 o2)
      have hX3 : Bxs w5 [(g9, #[.int .i64 o1, .int .i64 o2, .int .i64 o3, .int .i64 0, .int .i64 0], 33)] _ := hX2.put 0 rfl 2 (.int .i64 o3)
      have hX4 : Bxs w5 [(g9, #[.int .i64 o1, .int .i64 o2, .int .i64 o3, .int .i64 o4, .int .i64 0], 33)] _ := hX3.put 0 rfl 3 (.int .i64 o4)
      have hX5 : Bxs w5 [(g9, #[.int .i64 o1, .int .i64 o2, .int .i64 o3, .int .i64 o4, .int .i64 o5], 33)] _ := hX4.put 0 rfl 4 (.int .i64 o5)
      obtain ⟨w6, hw_⟩ : ∃ x, (((((w1'.setCell ⟨g9, 0, none⟩ (.int .i64 o1)).setCell ⟨g9, 1, none⟩ (.int .i64 o2)).setCell ⟨g9, 2, none⟩ (.int .i64 o3)).setCell ⟨g9, 3, none⟩ (.int .i64 o4)).setCell ⟨g9, 4, none⟩ (.int .i64 o5)) = x := ⟨_, rfl⟩
      rw [hw_] at hX5 ⊢
      have hB9 := hX5
      clear hX0 hX1 hX2 hX3 hX4 hX5 hw_ z0 z1 z2 z3 z4 y0 y1 y2 y3 y4
      have HB79 := Lib.hid (And.intro (HB7.out.keep (below_step HB5.out hB9.below)) hB9)
      have HB6 := Lib.hid (below_step HF.out (below_step HB5.out hB9.below))
      clear hB9 HB7 HF HB5
      have hM2 := hMy _ HB6.out
      clear hMy
      by_cases hz : z = 0
      · subst hz
        go_upto_region 19 with (go_at_call 11; refine hM2.mono ?_; rintro e w7 ⟨rfl, hb7⟩; have HB67 := Lib.hid hb7; clear hM2 hb7)
        have hX9 := HB79.out.2.keep HB67.out
        have hX7 := HB79.out.1.keep HB67.out
        have HFIN := Lib.hid (below_step HB6.out HB67.out)
        rcases HEZ.out.1 (by simp) with ⟨rfl, ho5⟩ | ⟨rfl, hoz⟩
        · replace ho5 : 1 ≤ o5 := ho5
          have ho50 : 0 < o5 := by omega
          clear HEZ
          refine start_ (n := 21) (S := fun w' => Below w7.heap.size w7 w' ∧ (w'.cell? ⟨g9, 0, none⟩ = some (.int .i64 o1) ∧ w'.cell? ⟨g9, 1, none⟩ = some (.int .i64 o2) ∧ w'.cell? ⟨g9, 2, none⟩ = some (.int .i64 o3) ∧ w'.cell? ⟨g9, 3, none⟩ = some (.int .i64 o4) ∧ w'.cell? ⟨g9, 4, none⟩ = some (.int .i64 o5)) ∧ w'.cell? ⟨g7, 0, none⟩ = some (.int .i64 o1) ∧ w'.cell? ⟨g7, 1, none⟩ = some (.int .i64 o2) ∧ w'.cell? ⟨g7, 2, none⟩ = some (.int .i64 o3) ∧ w'.cell? ⟨g7, 3, none⟩ = some (.int .i64 o4) ∧ w'.cell? ⟨g7, 4, none⟩ = some (.int .i64 o5)) (ds := []) #[false, false, false, false, false, false, false, false, false, false, false, false, false, false, false, false, false, false, false, false, false] (by kernel_rfl) rfl rfl ⟨(Below.refl _ w7).drew, ⟨hX9.cell 0 rfl 0, hX9.cell 0 rfl 1, hX9.cell 0 rfl 2, hX9.cell 0 rfl 3, hX9.cell 0 rfl 4⟩, hX7.cell 0 rfl 0, hX7.cell 0 rfl 1, hX7.cell 0 rfl 2, hX7.cell 0 rfl 3, hX7.cell 0 rfl 4⟩ (fun hHeld => ?_)
          clear hX7 hX9
          generalize w7.drew = w30 at hHeld ⊢
          refine take_ (i := 0) (N := some 84) (v := ?_) (a' := ?_) #[true, false, false, false, false, false, false, false, false, false, false, false, false, false, false, false, false, false, false, false, false] rfl rfl (by kernel_rfl) (fun _ _ _ h => h) (Or.inl ⟨by rfl, ?_⟩) hHeld ?_ ?_
          rotate_left
          · rintro w' ⟨s0, ⟨s1, s2, s3, s4, s5⟩, s6, s7, s8, s9, s10⟩
            go_simp
            with_reducible rfl
          rotate_left
          · simp only [Act.put, List.setIfInBounds_toArray, List.set_cons_zero, List.set_cons_succ]
            rfl
          refine take_ (i := 2) (N := some 86) (v := ?_) (a' := ?_) #[true, false, true, false, false, false, false, false, false, false, false, false, false, false, false, false, false, false, false, false, false] rfl rfl (by kernel_rfl) (fun _ _ _ h => h) (Or.inl ⟨by rfl, ?_⟩) hHeld ?_ ?_
          rotate_left
          · rintro w' ⟨s0, ⟨s1, s2, s3, s4, s5⟩, s6, s7, s8, s9, s10⟩
            go_simp
            with_reducible rfl
          rotate_left
          · simp only [Act.put, List.setIfInBounds_toArray, List.set_cons_zero, List.set_cons_succ]
            rfl
          refine one_ (i := 1) (N := some 85) #[true, true, true, false, false, false, false, false, false, false, false, false, false, false, false, false, false, false, false, false, false] rfl rfl (by kernel_rfl) (by decide) (fun K hK => ?_)
          refine call_ 9 #[.agg #[.int .i64 o1, .int .i64 o2, .int .i64 o3, .int .i64 o4, .int .i64 o5]] (by rfl) rfl ?hrun ?_
          case hrun => first | (go_simp; done) | (go_simp; rfl)
          refine (foolscaplaw30_Plain.calls o1 o2 o3 o4 o5 o1 o2 o3 o4 o5 _ rfl).mono ?_
          rintro e w31 ⟨rfl, hb31⟩
          refine ⟨_, rfl, ?_⟩
          have hE : Below w7.heap.size w7 w31 := below_step hHeld.1 hb31
          have kk := fun (q : Addr) (v : Value) (h : w30.cell? q = some v) => (hb31.cell (World.block_lt_of_cell? w30 _ h)).trans h
          refine hK.out _ _ ⟨hE, ⟨kk _ _ hHeld.2.1.1, kk _ _ hHeld.2.1.2.1, kk _ _ hHeld.2.1.2.2.1, kk _ _ hHeld.2.1.2.2.2.1, kk _ _ hHeld.2.1.2.2.2.2⟩, kk _ _ hHeld.2.2.1, kk _ _ hHeld.2.2.2.1, kk _ _ hHeld.2.2.2.2.1, kk _ _ hHeld.2.2.2.2.2.1, kk _ _ hHeld.2.2.2.2.2.2⟩ (fun hHeld => ?_)
          clear hK K kk hb31 hE
          refine norm_ (a' := ?_) ?_ ?_
          rotate_left
          · show Act.put _ (some 85) _ = _
            simp only [Act.put, List.setIfInBounds_toArray, List.set_cons_zero, List.set_cons_succ]
            rfl
          refine pure_ (i := 3) (N := some 87) (v := ?_) (a' := ?_) #[true, true, true, true, false, false, false, false, false, false, false, false, false, false, false, false, false, false, false, false, false] rfl rfl (by kernel_rfl) (fun _ _ _ h => h) (Or.inl ⟨by rfl, ?_⟩) ?_ ?_
          rotate_left
          · intro w'
            go_simp
            with_reducible rfl
          rotate_left
          · simp only [Act.put, List.setIfInBounds_toArray, List.set_cons_zero, List.set_cons_succ]
            rfl
          refine pure_ (i := 4) (N := some 88) (v := ?_) (a' := ?_) #[true, true, true, true, true, false, false, false, false, false, false, false, false, false, false, false, false, false, false, false, false] rfl rfl (by kernel_rfl) (fun _ _ _ h => h) (Or.inl ⟨by rfl, ?_⟩) ?_ ?_
          rotate_left
          · intro w'
            go_simp
            with_reducible rfl
          rotate_left
          · simp only [Act.put, List.setIfInBounds_toArray, List.set_cons_zero, List.set_cons_succ]
            rfl
          refine pure_ (i := 5) (N := some 89) (v := ?_) (a' := ?_) #[true, true, true, true, true, true, false, false, false, false, false, false, false, false, false, false, false, false, false, false, false] rfl rfl (by kernel_rfl) (fun _ _ _ h => h) (Or.inl ⟨by rfl, ?_⟩) ?_ ?_
          rotate_left
          · intro w'
            go_simp
            with_reducible rfl
          rotate_left
          · simp only [Act.put, List.setIfInBounds_toArray, List.set_cons_zero, List.set_cons_succ]
            rfl
          refine pure_ (i := 6) (N := some 90) (v := ?_) (a' := ?_) #[true, true, true, true, true, true, true, false, false, false, false, false, false, false, false, false, false, false, false, false, false] rfl rfl (by kernel_rfl) (fun _ _ _ h => h) (Or.inl ⟨by rfl, ?_⟩) ?_ ?_
          rotate_left
          · intro w'
            go_simp
            with_reducible rfl
          rotate_left
          · simp only [Act.put, List.setIfInBounds_toArray, List.set_cons_zero, List.set_cons_succ]
            rfl
          refine pure_ (i := 7) (N := some 91) (v := ?_) (a' := ?_) #[true, true, true, true, true, true, true, true, false, false, false, false, false, false, false, false, false, false, false, false, false] rfl rfl (by kernel_rfl) (fun _ _ _ h => h) (Or.inl ⟨by rfl, ?_⟩) ?_ ?_
          rotate_left
          · intro w'
            go_simp
            with_reducible rfl
          rotate_left
          · simp only [Act.put, List.setIfInBounds_toArray, List.set_cons_zero, List.set_cons_succ]
            rfl
          refine take_ (i := 8) (N := some 92) (v := ?_) (a' := ?_) #[true, true, true, true, true, true, true, true, true, false, false, false, false, false, false, false, false, false, false, false, false] rfl rfl (by kernel_rfl) (fun _ _ _ h => h) (Or.inl ⟨by rfl, ?_⟩) hHeld ?_ ?_
          rotate_left
          · rintro w' ⟨s0, ⟨s1, s2, s3, s4, s5⟩, s6, s7, s8, s9, s10⟩
            go_simp
            with_reducible rfl
          rotate_left
          · simp only [Act.put, List.setIfInBounds_toArray, List.set_cons_zero, List.set_cons_succ]
            rfl
          refine pure_ (i := 9) (N := some 93) (v := ?_) (a' := ?_) #[true, true, true, true, true, true, true, true, true, true, false, false, false, false, false, false, false, false, false, false, false] rfl rfl (by kernel_rfl) (fun _ _ _ h => h) (Or.inl ⟨by rfl, ?_⟩) ?_ ?_
          rotate_left
          · intro w'
            go_simp
            with_reducible rfl
          rotate_left
          · simp only [Act.put, List.setIfInBounds_toArray, List.set_cons_zero, List.set_cons_succ]
            rfl
          refine pure_ (i := 10) (N := some 94) (v := ?_) (a' := ?_) #[true, true, true, true, true, true, true, true, true, true, true, false, false, false, false, false, false, false, false, false, false] rfl rfl (by kernel_rfl) (fun _ _ _ h => h) (Or.inl ⟨by rfl, ?_⟩) ?_ ?_
          rotate_left
          · intro w'
            go_simp
            with_reducible rfl
          rotate_left
          · simp only [Act.put, List.setIfInBounds_toArray, List.set_cons_zero, List.set_cons_succ]
            rfl
          refine pure_ (i := 11) (N := some 95) (v := ?_) (a' := ?_) #[true, true, true, true, true, true, true, true, true, true, true, true, false, false, false, false, false, false, false, false, false] rfl rfl (by kernel_rfl) (fun _ _ _ h => h) (Or.inl ⟨by rfl, ?_⟩) ?_ ?_
          rotate_left
          · intro w'
            go_simp
            with_reducible rfl
          rotate_left
          · simp only [Act.put, List.setIfInBounds_toArray, List.set_cons_zero, List.set_cons_succ]
            rfl
          refine pure_ (i := 12) (N := some 96) (v := ?_) (a' := ?_) #[true, true, true, true, true, true, true, true, true, true, true, true, true, false, false, false, false, false, false, false, false] rfl rfl (by kernel_rfl) (fun _ _ _ h => h) (Or.inl ⟨by rfl, ?_⟩) ?_ ?_
          rotate_left
          · intro w'
            go_simp
            with_reducible rfl
          rotate_left
          · simp only [Act.put, List.setIfInBounds_toArray, List.set_cons_zero, List.set_cons_succ]
            rfl
          refine pure_ (i := 13) (N := some 97) (v := ?_) (a' := ?_) #[true, true, true, true, true, true, true, true, true, true, true, true, true, true, false, false, false, false, false, false, false] rfl rfl (by kernel_rfl) (fun _ _ _ h => h) (Or.inl ⟨by rfl, ?_⟩) ?_ ?_
          rotate_left
          · intro w'
            go_simp
            with_reducible rfl
          rotate_left
          · simp only [Act.put, List.setIfInBounds_toArray, List.set_cons_zero, List.set_cons_succ]
            rfl
          refine pure_ (i := 14) (N := some 98) (v := ?_) (a' := ?_) #[true, true, true, true, true, true, true, true, true, true, true, true, true, true, true, false, false, false, false, false, false] rfl rfl (by kernel_rfl) (fun _ _ _ h => h) (Or.inl ⟨by rfl, ?_⟩) ?_ ?_
          rotate_left
          · intro w'
            go_simp
            with_reducible rfl
          rotate_left
          · simp only [Act.put, List.setIfInBounds_toArray, List.set_cons_zero, List.set_cons_succ]
            rfl
          refine pure_ (i := 15) (N := some 99) (v := ?_) (a' := ?_) #[true, true, true, true, true, true, true, true, true, true, true, true, true, true, true, true, false, false, false, false, false] rfl rfl (by kernel_rfl) (fun _ _ _ h => h) (Or.inl ⟨by rfl, ?_⟩) ?_ ?_
          rotate_left
          · intro w'
            go_simp
            with_reducible rfl
          rotate_left
          · simp only [Act.put, List.setIfInBounds_toArray, List.set_cons_zero, List.set_cons_succ]
            rfl
          refine pure_ (i := 16) (N := some 100) (v := undef) (a' := ?_) #[true, true, true, true, true, true, true, true, true, true, true, true, true, true, true, true, true, false, false, false, false] rfl rfl (by kernel_rfl) (fun _ _ _ h => h) (Or.inr ⟨by rfl, rfl⟩) ?_ ?_
          rotate_left
          · simp only [Act.put, List.setIfInBounds_toArray, List.set_cons_zero, List.set_cons_succ]
            rfl
          refine pure_ (i := 17) (N := some 101) (v := undef) (a' := ?_) #[true, true, true, true, true, true, true, true, true, true, true, true, true, true, true, true, true, true, false, false, false] rfl rfl (by kernel_rfl) (fun _ _ _ h => h) (Or.inr ⟨by rfl, rfl⟩) ?_ ?_
          rotate_left
          · simp only [Act.put, List.setIfInBounds_toArray, List.set_cons_zero, List.set_cons_succ]
            rfl
          refine pure_ (i := 18) (N := some 102) (v := ?_) (a' := ?_) #[true, true, true, true, true, true, true, true, true, true, true, true, true, true, true, true, true, true, true, false, false] rfl rfl (by kernel_rfl) (fun _ _ _ h => h) (Or.inl ⟨by rfl, ?_⟩) ?_ ?_
          rotate_left
          · intro w'
            go_simp
            with_reducible rfl
          rotate_left
          · simp only [Act.put, List.setIfInBounds_toArray, List.set_cons_zero, List.set_cons_succ]
            rfl
          refine pure_ (i := 19) (N := some 103) (v := ?_) (a' := ?_) #[true, true, true, true, true, true, true, true, true, true, true, true, true, true, true, true, true, true, true, true, false] rfl rfl (by kernel_rfl) (fun _ _ _ h => h) (Or.inl ⟨by rfl, ?_⟩) ?_ ?_
          rotate_left
          · intro w'
            go_simp
            with_reducible rfl
          rotate_left
          · simp only [Act.put, List.setIfInBounds_toArray, List.set_cons_zero, List.set_cons_succ]
            rfl
          refine pure_ (i := 20) (N := some 4) (v := ?_) (a' := ?_) #[true, true, true, true, true, true, true, true, true, true, true, true, true, true, true, true, true, true, true, true, true] rfl rfl (by kernel_rfl) (fun _ _ _ h => h) (Or.inl ⟨by rfl, ?_⟩) ?_ ?_
          rotate_left
          · intro w'
            go_simp
            with_reducible rfl
          rotate_left
          · simp only [Act.put, List.setIfInBounds_toArray, List.set_cons_zero, List.set_cons_succ]
            rfl
          refine done_ (by kernel_rfl) ?_
          have HFF := Lib.hid (below_step HFIN.out hHeld.1)
          go_wp2
          go_ret
          exact ⟨rfl, HFF.out⟩
        · injection hoz with hoz1 hoz2 hoz3 hoz4
          injection hoz1 with hoz5 hoz6
          subst hoz2 hoz3 hoz4 hoz5 hoz6
          clear HEZ
          refine start_ (n := 21) (S := fun w' => Below w7.heap.size w7 w' ∧ (w'.cell? ⟨g9, 0, none⟩ = some (.int .i64 0) ∧ w'.cell? ⟨g9, 1, none⟩ = some (.int .i64 0) ∧ w'.cell? ⟨g9, 2, none⟩ = some (.int .i64 0) ∧ w'.cell? ⟨g9, 3, none⟩ = some (.int .i64 0) ∧ w'.cell? ⟨g9, 4, none⟩ = some (.int .i64 0)) ∧ w'.cell? ⟨g7, 0, none⟩ = some (.int .i64 0) ∧ w'.cell? ⟨g7, 1, none⟩ = some (.int .i64 0) ∧ w'.cell? ⟨g7, 2, none⟩ = some (.int .i64 0) ∧ w'.cell? ⟨g7, 3, none⟩ = some (.int .i64 0) ∧ w'.cell? ⟨g7, 4, none⟩ = some (.int .i64 0)) (ds := []) #[false, false, false, false, false, false, false, false, false, false, false, false, false, false, false, false, false, false, false, false, false] (by kernel_rfl) rfl rfl ⟨(Below.refl _ w7).drew, ⟨hX9.cell 0 rfl 0, hX9.cell 0 rfl 1, hX9.cell 0 rfl 2, hX9.cell 0 rfl 3, hX9.cell 0 rfl 4⟩, hX7.cell 0 rfl 0, hX7.cell 0 rfl 1, hX7.cell 0 rfl 2, hX7.cell 0 rfl 3, hX7.cell 0 rfl 4⟩ (fun hHeld => ?_)
          clear hX7 hX9
          generalize w7.drew = w30 at hHeld ⊢
          refine take_ (i := 0) (N := some 84) (v := ?_) (a' := ?_) #[true, false, false, false, false, false, false, false, false, false, false, false, false, false, false, false, false, false, false, false, false] rfl rfl (by kernel_rfl) (fun _ _ _ h => h) (Or.inl ⟨by rfl, ?_⟩) hHeld ?_ ?_
          rotate_left
          · rintro w' ⟨s0, ⟨s1, s2, s3, s4, s5⟩, s6, s7, s8, s9, s10⟩
            go_simp
            with_reducible rfl
          rotate_left
          · simp only [Act.put, List.setIfInBounds_toArray, List.set_cons_zero, List.set_cons_succ]
            rfl
          refine take_ (i := 2) (N := some 86) (v := ?_) (a' := ?_) #[true, false, true, false, false, false, false, false, false, false, false, false, false, false, false, false, false, false, false, false, false] rfl rfl (by kernel_rfl) (fun _ _ _ h => h) (Or.inl ⟨by rfl, ?_⟩) hHeld ?_ ?_
          rotate_left
          · rintro w' ⟨s0, ⟨s1, s2, s3, s4, s5⟩, s6, s7, s8, s9, s10⟩
            go_simp
            with_reducible rfl
          rotate_left
          · simp only [Act.put, List.setIfInBounds_toArray, List.set_cons_zero, List.set_cons_succ]
            rfl
          refine one_ (i := 1) (N := some 85) #[true, true, true, false, false, false, false, false, false, false, false, false, false, false, false, false, false, false, false, false, false] rfl rfl (by kernel_rfl) (by decide) (fun K hK => ?_)
          refine call_ 9 #[.agg #[.int .i64 0, .int .i64 0, .int .i64 0, .int .i64 0, .int .i64 0]] (by rfl) rfl ?hrun ?_
          case hrun => first | (go_simp; done) | (go_simp; rfl)
          refine (foolscaplaw30_Plain.calls 0 0 0 0 0 0 0 0 0 0 _ rfl).mono ?_
          rintro e w31 ⟨rfl, hb31⟩
          refine ⟨_, rfl, ?_⟩
          have hE : Below w7.heap.size w7 w31 := below_step hHeld.1 hb31
          have kk := fun (q : Addr) (v : Value) (h : w30.cell? q = some v) => (hb31.cell (World.block_lt_of_cell? w30 _ h)).trans h
          refine hK.out _ _ ⟨hE, ⟨kk _ _ hHeld.2.1.1, kk _ _ hHeld.2.1.2.1, kk _ _ hHeld.2.1.2.2.1, kk _ _ hHeld.2.1.2.2.2.1, kk _ _ hHeld.2.1.2.2.2.2⟩, kk _ _ hHeld.2.2.1, kk _ _ hHeld.2.2.2.1, kk _ _ hHeld.2.2.2.2.1, kk _ _ hHeld.2.2.2.2.2.1, kk _ _ hHeld.2.2.2.2.2.2⟩ (fun hHeld => ?_)
          clear hK K kk hb31 hE
          refine norm_ (a' := ?_) ?_ ?_
          rotate_left
          · show Act.put _ (some 85) _ = _
            simp only [Act.put, List.setIfInBounds_toArray, List.set_cons_zero, List.set_cons_succ]
            rfl
          refine pure_ (i := 3) (N := some 87) (v := ?_) (a' := ?_) #[true, true, true, true, false, false, false, false, false, false, false, false, false, false, false, false, false, false, false, false, false] rfl rfl (by kernel_rfl) (fun _ _ _ h => h) (Or.inl ⟨by rfl, ?_⟩) ?_ ?_
          rotate_left
          · intro w'
            go_simp
            with_reducible rfl
          rotate_left
          · simp only [Act.put, List.setIfInBounds_toArray, List.set_cons_zero, List.set_cons_succ]
            rfl
          refine pure_ (i := 4) (N := some 88) (v := ?_) (a' := ?_) #[true, true, true, true, true, false, false, false, false, false, false, false, false, false, false, false, false, false, false, false, false] rfl rfl (by kernel_rfl) (fun _ _ _ h => h) (Or.inl ⟨by rfl, ?_⟩) ?_ ?_
          rotate_left
          · intro w'
            go_simp
            with_reducible rfl
          rotate_left
          · simp only [Act.put, List.setIfInBounds_toArray, List.set_cons_zero, List.set_cons_succ]
            rfl
          refine pure_ (i := 5) (N := some 89) (v := ?_) (a' := ?_) #[true, true, true, true, true, true, false, false, false, false, false, false, false, false, false, false, false, false, false, false, false] rfl rfl (by kernel_rfl) (fun _ _ _ h => h) (Or.inl ⟨by rfl, ?_⟩) ?_ ?_
          rotate_left
          · intro w'
            go_simp
            with_reducible rfl
          rotate_left
          · simp only [Act.put, List.setIfInBounds_toArray, List.set_cons_zero, List.set_cons_succ]
            rfl
          refine pure_ (i := 6) (N := some 90) (v := ?_) (a' := ?_) #[true, true, true, true, true, true, true, false, false, false, false, false, false, false, false, false, false, false, false, false, false] rfl rfl (by kernel_rfl) (fun _ _ _ h => h) (Or.inl ⟨by rfl, ?_⟩) ?_ ?_
          rotate_left
          · intro w'
            go_simp
            with_reducible rfl
          rotate_left
          · simp only [Act.put, List.setIfInBounds_toArray, List.set_cons_zero, List.set_cons_succ]
            rfl
          refine pure_ (i := 7) (N := some 91) (v := ?_) (a' := ?_) #[true, true, true, true, true, true, true, true, false, false, false, false, false, false, false, false, false, false, false, false, false] rfl rfl (by kernel_rfl) (fun _ _ _ h => h) (Or.inl ⟨by rfl, ?_⟩) ?_ ?_
          rotate_left
          · intro w'
            go_simp
            with_reducible rfl
          rotate_left
          · simp only [Act.put, List.setIfInBounds_toArray, List.set_cons_zero, List.set_cons_succ]
            rfl
          refine take_ (i := 8) (N := some 92) (v := ?_) (a' := ?_) #[true, true, true, true, true, true, true, true, true, false, false, false, false, false, false, false, false, false, false, false, false] rfl rfl (by kernel_rfl) (fun _ _ _ h => h) (Or.inl ⟨by rfl, ?_⟩) hHeld ?_ ?_
          rotate_left
          · rintro w' ⟨s0, ⟨s1, s2, s3, s4, s5⟩, s6, s7, s8, s9, s10⟩
            go_simp
            with_reducible rfl
          rotate_left
          · simp only [Act.put, List.setIfInBounds_toArray, List.set_cons_zero, List.set_cons_succ]
            rfl
          refine pure_ (i := 9) (N := some 93) (v := ?_) (a' := ?_) #[true, true, true, true, true, true, true, true, true, true, false, false, false, false, false, false, false, false, false, false, false] rfl rfl (by kernel_rfl) (fun _ _ _ h => h) (Or.inl ⟨by rfl, ?_⟩) ?_ ?_
          rotate_left
          · intro w'
            go_simp
            with_reducible rfl
          rotate_left
          · simp only [Act.put, List.setIfInBounds_toArray, List.set_cons_zero, List.set_cons_succ]
            rfl
          refine pure_ (i := 10) (N := some 94) (v := ?_) (a' := ?_) #[true, true, true, true, true, true, true, true, true, true, true, false, false, false, false, false, false, false, false, false, false] rfl rfl (by kernel_rfl) (fun _ _ _ h => h) (Or.inl ⟨by rfl, ?_⟩) ?_ ?_
          rotate_left
          · intro w'
            go_simp
            with_reducible rfl
          rotate_left
          · simp only [Act.put, List.setIfInBounds_toArray, List.set_cons_zero, List.set_cons_succ]
            rfl
          refine pure_ (i := 11) (N := some 95) (v := ?_) (a' := ?_) #[true, true, true, true, true, true, true, true, true, true, true, true, false, false, false, false, false, false, false, false, false] rfl rfl (by kernel_rfl) (fun _ _ _ h => h) (Or.inl ⟨by rfl, ?_⟩) ?_ ?_
          rotate_left
          · intro w'
            go_simp
            with_reducible rfl
          rotate_left
          · simp only [Act.put, List.setIfInBounds_toArray, List.set_cons_zero, List.set_cons_succ]
            rfl
          refine pure_ (i := 12) (N := some 96) (v := ?_) (a' := ?_) #[true, true, true, true, true, true, true, true, true, true, true, true, true, false, false, false, false, false, false, false, false] rfl rfl (by kernel_rfl) (fun _ _ _ h => h) (Or.inl ⟨by rfl, ?_⟩) ?_ ?_
          rotate_left
          · intro w'
            go_simp
            with_reducible rfl
          rotate_left
          · simp only [Act.put, List.setIfInBounds_toArray, List.set_cons_zero, List.set_cons_succ]
            rfl
          refine pure_ (i := 13) (N := some 97) (v := ?_) (a' := ?_) #[true, true, true, true, true, true, true, true, true, true, true, true, true, true, false, false, false, false, false, false, false] rfl rfl (by kernel_rfl) (fun _ _ _ h => h) (Or.inl ⟨by rfl, ?_⟩) ?_ ?_
          rotate_left
          · intro w'
            go_simp
            with_reducible rfl
          rotate_left
          · simp only [Act.put, List.setIfInBounds_toArray, List.set_cons_zero, List.set_cons_succ]
            rfl
          refine pure_ (i := 14) (N := some 98) (v := ?_) (a' := ?_) #[true, true, true, true, true, true, true, true, true, true, true, true, true, true, true, false, false, false, false, false, false] rfl rfl (by kernel_rfl) (fun _ _ _ h => h) (Or.inl ⟨by rfl, ?_⟩) ?_ ?_
          rotate_left
          · intro w'
            go_simp
            with_reducible rfl
          rotate_left
          · simp only [Act.put, List.setIfInBounds_toArray, List.set_cons_zero, List.set_cons_succ]
            rfl
          refine pure_ (i := 15) (N := some 99) (v := ?_) (a' := ?_) #[true, true, true, true, true, true, true, true, true, true, true, true, true, true, true, true, false, false, false, false, false] rfl rfl (by kernel_rfl) (fun _ _ _ h => h) (Or.inl ⟨by rfl, ?_⟩) ?_ ?_
          rotate_left
          · intro w'
            go_simp
            with_reducible rfl
          rotate_left
          · simp only [Act.put, List.setIfInBounds_toArray, List.set_cons_zero, List.set_cons_succ]
            rfl
          refine pure_ (i := 16) (N := some 100) (v := ?_) (a' := ?_) #[true, true, true, true, true, true, true, true, true, true, true, true, true, true, true, true, true, false, false, false, false] rfl rfl (by kernel_rfl) (fun _ _ _ h => h) (Or.inl ⟨by rfl, ?_⟩) ?_ ?_
          rotate_left
          · intro w'
            go_simp
            with_reducible rfl
          rotate_left
          · simp only [Act.put, List.setIfInBounds_toArray, List.set_cons_zero, List.set_cons_succ]
            rfl
          refine pure_ (i := 17) (N := some 101) (v := ?_) (a' := ?_) #[true, true, true, true, true, true, true, true, true, true, true, true, true, true, true, true, true, true, false, false, false] rfl rfl (by kernel_rfl) (fun _ _ _ h => h) (Or.inl ⟨by rfl, ?_⟩) ?_ ?_
          rotate_left
          · intro w'
            go_simp
            with_reducible rfl
          rotate_left
          · simp only [Act.put, List.setIfInBounds_toArray, List.set_cons_zero, List.set_cons_succ]
            rfl
          refine pure_ (i := 18) (N := some 102) (v := ?_) (a' := ?_) #[true, true, true, true, true, true, true, true, true, true, true, true, true, true, true, true, true, true, true, false, false] rfl rfl (by kernel_rfl) (fun _ _ _ h => h) (Or.inl ⟨by rfl, ?_⟩) ?_ ?_
          rotate_left
          · intro w'
            go_simp
            with_reducible rfl
          rotate_left
          · simp only [Act.put, List.setIfInBounds_toArray, List.set_cons_zero, List.set_cons_succ]
            rfl
          refine pure_ (i := 19) (N := some 103) (v := ?_) (a' := ?_) #[true, true, true, true, true, true, true, true, true, true, true, true, true, true, true, true, true, true, true, true, false] rfl rfl (by kernel_rfl) (fun _ _ _ h => h) (Or.inl ⟨by rfl, ?_⟩) ?_ ?_
          rotate_left
          · intro w'
            go_simp
            with_reducible rfl
          rotate_left
          · simp only [Act.put, List.setIfInBounds_toArray, List.set_cons_zero, List.set_cons_succ]
            rfl
          refine pure_ (i := 20) (N := some 4) (v := ?_) (a' := ?_) #[true, true, true, true, true, true, true, true, true, true, true, true, true, true, true, true, true, true, true, true, true] rfl rfl (by kernel_rfl) (fun _ _ _ h => h) (Or.inl ⟨by rfl, ?_⟩) ?_ ?_
          rotate_left
          · intro w'
            go_simp
            with_reducible rfl
          rotate_left
          · simp only [Act.put, List.setIfInBounds_toArray, List.set_cons_zero, List.set_cons_succ]
            rfl
          refine done_ (by kernel_rfl) ?_
          have HFF := Lib.hid (below_step HFIN.out hHeld.1)
          go_wp2
          go_ret
          exact ⟨rfl, HFF.out⟩
      · obtain ⟨rfl, hoz⟩ := HEZ.out.2 hz
        injection hoz with hoz1 hoz2 hoz3 hoz4
        injection hoz1 with hoz5 hoz6
        subst hoz2 hoz3 hoz4 hoz5 hoz6
        have hzb : (z != 0) = true := by rw [bne_iff_ne]; exact hz
        go_upto_region 18 with (go_at_call 11; refine hM2.mono ?_; rintro e w7 ⟨rfl, hb7⟩; have HB67 := Lib.hid hb7; clear hM2 hb7)
        have hX9 := HB79.out.2.keep HB67.out
        have HFIN := Lib.hid (below_step HB6.out HB67.out)
        have z0 : w7.cell? ⟨g9, 0, none⟩ = some (.int .i64 0) := hX9.cell 0 rfl 0
        have z1 : w7.cell? ⟨g9, 1, none⟩ = some (.int .i64 0) := hX9.cell 0 rfl 1
        have z2 : w7.cell? ⟨g9, 2, none⟩ = some (.int .i64 0) := hX9.cell 0 rfl 2
        have z3 : w7.cell? ⟨g9, 3, none⟩ = some (.int .i64 0) := hX9.cell 0 rfl 3
        have z4 : w7.cell? ⟨g9, 4, none⟩ = some (.int .i64 0) := hX9.cell 0 rfl 4
        clear hX9
        go_wp2
        go_ret
        exact ⟨rfl, HFIN.out⟩
/-- For the row. -/
theorem bparts_true (A : Option Addr) (n c : Nat) (l : List S46) (i : Int) (W : World) (hT : Aside0 True) (h : l.length = n ∧ n ≤ c ∧ Kd.C k46 W A l.length l) (hi : (Lit.int .i64 i).wf = true) :
    Calls Try.prog 3 #[.slice A n c, .int .i64 i] W fun e w' => e = .returned (.bool true) ∧ Below W.heap.size W w' := by
  obtain ⟨rfl, h1, h2⟩ := h
  by_cases hl : l.length ≤ 250
  · exact bparts_small A c l i W h2 h1 hl hi
  · exact bparts_big A c l.length i W (by omega)
end Go.Proofs.Ytkglfgikfeebhaa.X
