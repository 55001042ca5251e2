/-
  The statement BlameWhole, walked by hand: it is true of every input: by this session. Conditions: as typed.
-/
import Derived.Test.YtkglfgikfeebhaaWholeP
import Derived.Test.YtkglfgikfeebhaaAlive
import Derived.Deep.WholeRow
namespace Go.Proofs.Ytkglfgikfeebhaa.X
open Go Go.RowKit Go.Shelf Go.Lib Go.Proofs.YtkglfgikfeebhaaW.PrintLast Go.Proofs.YtkglfgikfeebhaaW.PrintWords Go.Proofs.Ytkglfgikfeebhaa.P
set_option linter.unusedVariables false
theorem conv_run_ {P : Program} {a : Act} {o : Oper} {w w1 : World} {src dst : TypeId} {x : Operand} {p v : Value} (ho : o.op = .convert src dst x) (hx : a.eval x = p) (h : (convert src dst p).run P w = .ok v w1) : (execOp a.eval o).run P w = .ok (.value v) w1 := by
  unfold execOp
  simp [ho, hx, h]
theorem store_run1_ {P : Program} {a : Act} {o : Oper} {w w1 : World} {t : TypeId} {p x : Operand} {pv v : Value} (ho : o.op = .store t p x) (hp : a.eval p = pv) (hx : a.eval x = v) (h : (Instr.storeAt t pv v).run P w = .ok () w1) : (execOp a.eval o).run P w = .ok .skip w1 := by
  unfold execOp
  simp [ho, hp, hx, h]
theorem store_ev_ {P : Program} {ops : Array Oper} {rest : List Oper} {o : Oper} {a : Act} {Q : Exit → Act → World → Prop} {W w1 : World} (hgd : o.guard = none) (hN : o.dst = none) (hrun : (execOp a.eval o).run P W = .ok .skip w1) (h : wpList P ops Q rest a w1) : wpList P ops Q (o :: rest) a W := by
  refine wpList_plain hgd fun K hK => ?_
  unfold Oper.wp
  rw [hrun]
  show K (a.put o.dst undef) _
  rw [hN]
  exact hK a _ h
theorem Below.cell_alloc_ {w : World} {q : Addr} {v : Value} {o : Obj} (h : w.cell? q = some v) : (w.alloc o).cell? q = some v := ((below_alloc (Below.refl w.heap.size w) o).cell (World.block_lt_of_cell? w _ h)).trans h
theorem partsOf_at : ∀ (xss : List (List S46)) (lo : Int) (i : Nat) (h : i < xss.length), (partsOf lo xss)[i]? = some ⟨⟨(xss[i].headD z46).f0.f0, (xss[i].headD z46).f0.f1⟩, (xss[i].headD z46).f1, lo + (((xss.take i).flatten.length : Nat) : Int), (xss[i].length : Int)⟩
  | [], _, _, h => absurd h (by simp)
  | r :: rs, lo, 0, h => by simp [partsOf]
  | r :: rs, lo, i + 1, h => by
    rw [partsOf, List.getElem?_cons_succ, partsOf_at rs _ i (by simpa using h)]
    simp [Int.add_assoc]
set_option maxRecDepth 100000 in
set_option maxHeartbeats 16000000 in
theorem bwhole_big (A : Option Addr) (c n : Nat) (w : World) (hn : 250 < n) :
    Calls Try.prog 5 #[.slice A n c] w fun e w' => e = .returned (.bool true) ∧ Below w.heap.size w w' := by
  have hA := alive_w w
  have hn1 : (250 : Int) < (n : Int) := by omega
  go_enter Try.func5, Try.ntmps5
  go_wp2_with (go_at_call 6; refine hA.mono ?_; rintro e w1 ⟨rfl, hb1⟩; clear hA)
  go_ret
  exact ⟨rfl, hb1⟩
set_option maxRecDepth 100000 in
set_option maxHeartbeats 16000000 in
theorem bwhole_no (A : Option Addr) (c : Nat) (l : List S46) (w : World) (hC : Kd.C k46 w A l.length l) (hc : l.length ≤ c) (hl : l.length ≤ 250) (h0 : codeN l ≠ 0) :
    Calls Try.prog 5 #[.slice A l.length c] w fun e w' => e = .returned (.bool true) ∧ Below w.heap.size w w' := by
  have hA := alive_w w
  have hMy := fun w' (hb : Below w.heap.size w w') => rmay_w A c l w' (Kd.C_below hC hb) hc (by omega)
  obtain ⟨z, hz⟩ : ∃ z, codeN l = z := ⟨_, rfl⟩
  have hzb : (z != 0) = true := by rw [bne_iff_ne, ← hz]; exact h0
  rw [hz] at hMy
  obtain ⟨m, hm⟩ : ∃ m, l.length = m := ⟨_, rfl⟩
  rw [hm] at hMy hl ⊢
  have hl1 : ¬ (250 : Int) < (m : Int) := by omega
  clear hC hc h0 hz hm hl
  go_enter Try.func5, Try.ntmps5
  go_wp2_with (first
    | (go_at_call 6; refine hA.mono ?_; rintro e w1 ⟨rfl, hb1⟩; have HB1 := Lib.hid hb1; clear hA hb1)
    | (go_at_call 11; refine (hMy _ HB1.out).mono ?_; rintro e w2 ⟨rfl, hb2⟩; have HB2 := Lib.hid (below_step HB1.out hb2); clear hMy hb2))
  go_ret
  exact ⟨rfl, HB2.out⟩
set_option maxRecDepth 100000 in
set_option maxHeartbeats 16000000 in
theorem bwhole_yes (A : Option Addr) (c : Nat) (l : List S46) (w : World) (hC : Kd.C k46 w A l.length l) (hc : l.length ≤ c) (hl : l.length ≤ 250) (h0 : codeN l = 0) :
    Calls Try.prog 5 #[.slice A l.length c] w fun e w' => e = .returned (.bool true) ∧ Below w.heap.size w w' := by
  have hA := alive_w w
  have hMy := fun w' (hb : Below w.heap.size w w') => rmay_w A c l w' (Kd.C_below hC hb) hc (by omega)
  rw [h0] at hMy
  have hpf : blame_Parts.f l = some (partsOf 0 (runsOf goesB (liveL l))) := by
    unfold blame_Parts.f
    rw [if_pos (by omega), if_pos h0]
  have hP := fun w' (hb : Below w.heap.size w w') => blame_Parts.calls A c l _ w' (Kd.C_below hC hb) hc hpf
  have hLv := fun w' (hb : Below w.heap.size w w') => foolscapref30_Live.calls _ A c l _ w' (Kd.C_below hC hb) hc (ref_live_f l (by omega) 0)
  have hS := fun w' (hb : Below w.heap.size w w') => sites_w A c l w' (Kd.C_below hC hb) hc (by omega)
  have hO := fun (i : Int) w' (hb : Below w.heap.size w w') => blame_Own.calls _ A c l i _ w' (Kd.C_below hC hb) hc (own_b_f l (by omega) i 0)
  have hml := live_len l
  have HSR := Lib.hid (fun x (hx : x ∈ sitesT l) => sites_row h0 hx)
  have HSL := Lib.hid (sitesT_le l)
  have HMO := Lib.hid (fun x (hx : x ∈ liveL l) => And.intro (may_site h0 (List.mem_filter.1 hx).1) (may_off h0 (List.mem_filter.1 hx).1))
  obtain ⟨M, hM⟩ : ∃ M, liveL l = M := ⟨_, rfl⟩
  rw [hM] at hP hLv hml HSR HMO
  have HCH := Lib.hid (runs_chn goesB M.length M rfl)
  obtain ⟨hne, hfl⟩ := runs_all goesB M
  have hxl := fl_le _ hne
  rw [hfl] at hxl
  obtain ⟨xss, hxs⟩ : ∃ x, runsOf goesB M = x := ⟨_, rfl⟩
  rw [hxs] at hP hne hfl hxl HCH
  have HRUN := Lib.hid (And.intro hne hfl)
  obtain ⟨T, hT⟩ : ∃ T, sitesT l = T := ⟨_, rfl⟩
  rw [hT] at hS HSR HSL
  obtain ⟨own, hown⟩ : ∃ f : Int → ByteArray, (fun i => ownT l i) = f := ⟨_, rfl⟩
  replace hO : ∀ (i : Int) (w' : World), Below w.heap.size w w' → Calls Try.prog 14 #[.slice A l.length c, .int .i64 i] w' fun e w'_1 => e = .returned (.string (own i)) ∧ Below w'.heap.size w' w'_1 := fun i w' hb => by
    rw [← hown]; exact hO i w' hb
  replace HSR : Hid (∀ x ∈ T, ∃ s : Nat, 1 ≤ s ∧ s ≤ 16 ∧ x.1 = (s : Int) ∧ x.2.1 = ((sN M s : Nat) : Int) ∧ (Conv.runesFrom (own (s : Int)) (own (s : Int)).size 0 #[]).size = sN M s) := Lib.hid (fun x hx => by
    rw [← hown]; exact HSR.out x hx)
  obtain ⟨m, hm⟩ : ∃ m, l.length = m := ⟨_, rfl⟩
  rw [hm] at hMy hP hLv hS hO hl hml ⊢
  have hl1 : ¬ (250 : Int) < (m : Int) := by omega
  have HO := Lib.hid hO
  clear hC hc h0 hpf hm hM hxs hne hfl hT hown hO
  go_enter Try.func5, Try.ntmps5
  go_upto_region 7 with (first
    | (go_at_call 6; refine hA.mono ?_; rintro e w1 ⟨rfl, hb1⟩; have HB1 := Lib.hid hb1; clear hA hb1)
    | (go_at_call 11; refine (hMy _ HB1.out).mono ?_; rintro e w2 ⟨rfl, hb2⟩; have HB2 := Lib.hid (below_step HB1.out hb2); clear hMy hb2)
    | (go_at_call 7; refine (hP _ HB2.out).mono ?_; rintro e w3 ⟨vp, rfl, hvp, hb3⟩; have HVP := Lib.hid hvp; have HB3 := Lib.hid (below_step HB2.out hb3); clear hvp hb3 hP)
    | (go_at_call 16; refine (hLv _ HB3.out).mono ?_; rintro e w4 ⟨vm, rfl, hvm, hb4⟩; have HVM := Lib.hid hvm; have HB4 := Lib.hid (below_step HB3.out hb4); have HVP4 := Lib.hid (Kd.R_below HVP.out hb4); clear hvm hb4 hLv HVP))
  obtain ⟨AP, cP, rfl, hcP, hCP⟩ := Kd.R_reads HVP4.out
  obtain ⟨AM, cM, rfl, hcM, hCM⟩ := Kd.R_reads HVM.out
  rw [partsOf_length] at hcP ⊢
  obtain ⟨n, hn⟩ : ∃ n, xss.length = n := ⟨_, rfl⟩
  obtain ⟨mm, hmm⟩ : ∃ x, M.length = x := ⟨_, rfl⟩
  rw [hn] at hcP hxl ⊢
  rw [hmm] at hcM hxl hml ⊢
  have HCP := Lib.hid hCP
  have HCM := Lib.hid hCM
  have HN := Lib.hid (And.intro hn hmm)
  clear hCP hCM HVP4 HVM hn hmm
  have hml0 : M.length ≤ 250 := by rw [HN.out.2]; omega
  have hst : (Instr.storeAt 44 (.pointer (some ⟨w4.heap.size, 0, none⟩)) (.agg #[.int .i64 0, .int .i64 0, .int .i64 0, .int .i64 0, .int .i64 0, .int .i64 0, .int .i64 0, .int .i64 0, .int .i64 0, .int .i64 0, .int .i64 0, .int .i64 0, .int .i64 0, .int .i64 0, .int .i64 0, .int .i64 0, .int .i64 0])).run Try.prog (w4.alloc (.cells #[.int .i64 0, .int .i64 0, .int .i64 0, .int .i64 0, .int .i64 0, .int .i64 0, .int .i64 0, .int .i64 0, .int .i64 0, .int .i64 0, .int .i64 0, .int .i64 0, .int .i64 0, .int .i64 0, .int .i64 0, .int .i64 0, .int .i64 0] 44)) = .ok () (w4.alloc (.cells #[.int .i64 0, .int .i64 0, .int .i64 0, .int .i64 0, .int .i64 0, .int .i64 0, .int .i64 0, .int .i64 0, .int .i64 0, .int .i64 0, .int .i64 0, .int .i64 0, .int .i64 0, .int .i64 0, .int .i64 0, .int .i64 0, .int .i64 0] 44)) := by
    unfold Instr.storeAt
    rw [Sem.run_bind]
    exact run_storeVar_new w4 44 #[.int .i64 0, .int .i64 0, .int .i64 0, .int .i64 0, .int .i64 0, .int .i64 0, .int .i64 0, .int .i64 0, .int .i64 0, .int .i64 0, .int .i64 0, .int .i64 0, .int .i64 0, .int .i64 0, .int .i64 0, .int .i64 0, .int .i64 0] #[.int .i64 0, .int .i64 0, .int .i64 0, .int .i64 0, .int .i64 0, .int .i64 0, .int .i64 0, .int .i64 0, .int .i64 0, .int .i64 0, .int .i64 0, .int .i64 0, .int .i64 0, .int .i64 0, .int .i64 0, .int .i64 0, .int .i64 0] (by kernel_rfl) rfl (by kernel_rfl)
  go_upto_region 9 with ((with_reducible refine gate_store (t := 44) (p := 6) rfl ?_); refine store_ev_ rfl rfl (store_run1_ rfl rfl rfl hst) ?_)
  rw [← sRow_nil]
  have hW := Deep.blk_alloc_new w4 (.cells (sRow []) 44)
  have hB := below_alloc (Below.refl w4.heap.size w4) (.cells (sRow []) 44)
  obtain ⟨g6, hg6⟩ : ∃ x, w4.heap.size = x := ⟨_, rfl⟩
  obtain ⟨W5, hW5⟩ : ∃ x, w4.alloc (.cells (sRow []) 44) = x := ⟨_, rfl⟩
  rw [hW5] at hW hB ⊢
  have HG := Lib.hid hg6
  rw [hg6] at hW ⊢
  clear hW5 hg6 hst
  have hml1 := hml0
  rw [HN.out.2] at hml1
  go_wp2
  go_loopg [5, 7] n (fun q u5 u7 wr => ∃ i : Nat, u7 = .int .i64 (i : Nat) ∧ u5 = .int .i64 (((xss.take i).flatten.length : Nat) : Int) ∧ Aside0 (i + q = n ∧ wr.heap[g6]? = some (.cells (sRow (xss.take i).flatten) 44 (0, 0)) ∧ Below w4.heap.size w4 wr))
  case atStart => exact ⟨0, rfl, rfl, ⟨by omega, hW, hB⟩⟩
  case round =>
    obtain ⟨i, rfl, rfl, HR⟩ := hrel
    clear hW hB
    have HI := Lib.hid HR.out.1
    have hsr := HR.out.2.1
    have hb := HR.out.2.2
    clear HR
    by_cases hik : i < n
    · have hi0 : (0 : Int) ≤ (i : Int) := by omega
      have hi1 : (i : Int) < (n : Int) := by omega
      have hix : i < xss.length := by rw [HN.out.1]; exact hik
      obtain ⟨ri, hrr⟩ : ∃ x, xss[i] = x := ⟨_, rfl⟩
      have hmem : ri ∈ xss := hrr ▸ List.getElem_mem hix
      have hrne : ri ≠ [] := HRUN.out.1 _ hmem
      have htk : xss.take (i + 1) = xss.take i ++ [ri] := by rw [List.take_succ_eq_append_getElem hix, hrr]
      have hMe : M = (xss.take i).flatten ++ (ri ++ (xss.drop (i + 1)).flatten) := by
        have h9 : (xss.take (i + 1)).flatten ++ (xss.drop (i + 1)).flatten = M := by rw [← List.flatten_append, List.take_append_drop]; exact HRUN.out.2
        rw [← h9, htk, List.flatten_append, List.append_assoc]
        simp
      have hpi := partsOf_at xss 0 i hix
      rw [hrr, Int.zero_add] at hpi
      have hrM : ∀ x ∈ ri, x ∈ M := fun x hx => by rw [hMe]; exact List.mem_append_right _ (List.mem_append_left _ hx)
      have hsame := run_same (HCH.out ri hmem) (fun x hx => (HMO.out x (hrM x hx)).2)
      have hhd : ri.headD z46 ∈ ri := by
        cases ri with
        | nil => exact absurd rfl hrne
        | cons a b => exact List.mem_cons_self
      have hsite := (HMO.out _ (hrM _ hhd)).1
      have hoff := (HMO.out _ (hrM _ hhd)).2
      have hlen : (xss.take i).flatten.length + ri.length ≤ mm := by rw [← HN.out.2, hMe]; simp only [List.length_append]; omega
      obtain ⟨⟨⟨p1, p2⟩, p3, p4, p5⟩, hhe⟩ : ∃ x, ri.headD z46 = x := ⟨_, rfl⟩
      rw [hhe] at hpi hsame hsite hoff
      replace hsite : 1 ≤ p1 ∧ p1 ≤ 16 := hsite
      replace hoff : 0 ≤ p3 ∧ p3 < 200 := hoff
      replace hsame : ∀ k (h : k < ri.length), ri[k].f0.f0 = p1 ∧ ri[k].f0.f1 = p2 ∧ ri[k].f1 = p3 + (k : Int) := hsame
      obtain ⟨at0, hat0⟩ : ∃ x, (xss.take i).flatten.length = x := ⟨_, rfl⟩
      obtain ⟨rl, hrl⟩ : ∃ x, ri.length = x := ⟨_, rfl⟩
      rw [hat0, hrl] at hpi hlen
      rw [hat0]
      have hrlp : 0 < rl := by rw [← hrl]; exact List.length_pos_iff.2 hrne
      have hMat : ∀ k, k < rl → ∃ x : S46, M[at0 + k]? = some x ∧ x.f0.f0 = p1 ∧ x.f0.f1 = p2 ∧ x.f1 = p3 + (k : Int) := fun k hk => by
        have hk' : k < ri.length := by omega
        obtain ⟨e1, e2, e3⟩ := hsame k hk'
        refine ⟨ri[k], ?_, e1, e2, e3⟩
        rw [hMe, List.getElem?_append_right (by omega), hat0, Nat.add_sub_cancel_left, List.getElem?_append_left hk', List.getElem?_eq_getElem hk']
      obtain ⟨s, rfl⟩ : ∃ s : Nat, p1 = (s : Int) := ⟨p1.toNat, by omega⟩
      have hs17 : s < 17 := by omega
      have hadd := sRow_add (xss.take i).flatten (r := ri) (s := s) (fun x hx => by
        obtain ⟨k, hk, rfl⟩ := List.mem_iff_getElem.1 hx
        exact (hsame k hk).1) hs17
      rw [hrl, show (xss.take i).flatten ++ ri = (xss.take (i + 1)).flatten by rw [htk, List.flatten_append]; simp] at hadd
      have hat1 : (xss.take (i + 1)).flatten.length = at0 + rl := by rw [htk, List.flatten_append, List.length_append, hat0]; simp [hrl]
      obtain ⟨ad, e0, x0, x1, x2, x3, x4⟩ := at_T33 (Kd.C_below HCP.out hb) (i : Int) hi0 (by rw [partsOf_length, HN.out.1]; exact hi1)
      cases e0
      rw [Int.toNat_natCast, show rd_T33 (partsOf 0 xss) (i : Int) = ⟨⟨(s : Int), p2⟩, p3, (at0 : Int), (rl : Int)⟩ by simp [rd_T33, List.getD_eq_getElem?_getD, hpi]] at x0 x1 x2 x3 x4
      obtain ⟨bp, hbp⟩ : ∃ x, ad.add (i * 5) = x := ⟨_, rfl⟩
      rw [hbp] at x0 x1 x2 x3 x4
      replace x0 : wr.cell? bp = some (.int .i64 (s : Nat)) := x0
      replace x1 : wr.cell? ⟨bp.block, bp.off + 1, none⟩ = some (.int .i64 p2) := x1
      replace x2 : wr.cell? ⟨bp.block, bp.off + 2, none⟩ = some (.int .i64 p3) := x2
      replace x3 : wr.cell? ⟨bp.block, bp.off + 3, none⟩ = some (.int .i64 (at0 : Nat)) := x3
      replace x4 : wr.cell? ⟨bp.block, bp.off + 4, none⟩ = some (.int .i64 (rl : Nat)) := x4
      have hlr : at0 + rl ≤ 250 := by omega
      have hsub : wrap64 ((mm : Int) - (at0 : Int)) = ((mm - at0 : Nat) : Int) := by unfold wrap64; omega
      have hg1 : ¬ ((rl : Int) < 1) := by omega
      have hg2 : ¬ (((mm - at0 : Nat) : Int) < (rl : Int)) := by omega
      have hzz := sN_le (xss.take i).flatten s
      rw [hat0] at hzz
      have HX := Lib.hid (And.intro x0 (And.intro x1 (And.intro x2 (And.intro x3 x4))))
      have HMA := Lib.hid hMat
      have HAD := Lib.hid hadd
      have HA1 := Lib.hid (And.intro hat0 hat1)
      have HSR0 := Lib.hid hsr
      have HB := Lib.hid hb
      have HZZ := Lib.hid (And.intro hzz (And.intro hlr hlen))
      have HOF := Lib.hid hoff
      have HW := Lib.hid (And.intro (w_s i (by omega)) (wN at0 rl (by omega)))
      clear hix hrr hmem hrne htk hMe hpi hrM hsame hhd hsite hoff hlen hhe hat0 hrl hMat hadd hat1 hsr hb hzz hlr
      obtain ⟨wr1, rfl⟩ : ∃ x, x = wr := ⟨_, rfl⟩
      obtain ⟨gk1, rfl⟩ : ∃ x, x = gk := ⟨_, rfl⟩
      go_wp2
      clear x0 x1 x2 x3 x4
      go_loopg [8] rl (fun q u8 wz => ∃ k : Nat, u8 = .int .i64 (k : Nat) ∧ Aside0 (k + q = rl ∧ Below wr1.heap.size wr1 wz))
      case atStart => exact ⟨0, rfl, ⟨by omega, Below.refl _ _⟩⟩
      case round =>
        obtain ⟨k, rfl, HR⟩ := hrel
        have HK := Lib.hid HR.out.1
        have hb2 := HR.out.2
        clear HR
        have x0 : wr.cell? bp = some (.int .i64 (s : Nat)) := (hb2.cell (World.block_lt_of_cell? wr1 _ HX.out.1)).trans HX.out.1
        have x1 : wr.cell? ⟨bp.block, bp.off + 1, none⟩ = some (.int .i64 p2) := (hb2.cell (World.block_lt_of_cell? wr1 _ HX.out.2.1)).trans HX.out.2.1
        have x2 : wr.cell? ⟨bp.block, bp.off + 2, none⟩ = some (.int .i64 p3) := (hb2.cell (World.block_lt_of_cell? wr1 _ HX.out.2.2.1)).trans HX.out.2.2.1
        have x3 : wr.cell? ⟨bp.block, bp.off + 3, none⟩ = some (.int .i64 (at0 : Nat)) := (hb2.cell (World.block_lt_of_cell? wr1 _ HX.out.2.2.2.1)).trans HX.out.2.2.2.1
        have x4 : wr.cell? ⟨bp.block, bp.off + 4, none⟩ = some (.int .i64 (rl : Nat)) := (hb2.cell (World.block_lt_of_cell? wr1 _ HX.out.2.2.2.2)).trans HX.out.2.2.2.2
        by_cases hkr : k < rl
        · have hk1 : (k : Int) < (rl : Int) := by omega
          obtain ⟨⟨⟨q1, q2⟩, q3, q4, q5⟩, hMk, hq1, hq2, hq3⟩ := HMA.out k hkr
          replace hq1 : q1 = (s : Int) := hq1
          replace hq2 : q2 = p2 := hq2
          replace hq3 : q3 = p3 + (k : Int) := hq3
          subst hq1 hq2 hq3
          have hkb : at0 + k < mm := by have := HZZ.out.2.2; omega
          have hwk : wrap64 ((at0 : Int) + (k : Int)) = ((at0 + k : Nat) : Int) := wN at0 k (by have := HZZ.out.2.1; omega)
          have hwp : wrap64 (p3 + (k : Int)) = p3 + (k : Int) := by have := HOF.out; have := HZZ.out.2.1; clear hwk; unfold wrap64; omega
          obtain ⟨j, hj⟩ : ∃ j, at0 + k = j := ⟨_, rfl⟩
          rw [hj] at hkb hwk hMk
          have HJ := Lib.hid hj
          clear hj
          have hk0 : (0 : Int) ≤ (j : Int) := Int.natCast_nonneg j
          have hkm : (j : Int) < (mm : Int) := Int.ofNat_lt.2 hkb
          obtain ⟨am, e0, y0, y1, y2, y3, y4⟩ := at_T46 (Kd.C_below HCM.out (below_step HB.out hb2)) (j : Int) hk0 (by rw [HN.out.2]; exact hkm)
          cases e0
          rw [Int.toNat_natCast, show rd_T46 M (j : Int) = ⟨⟨(s : Int), q2⟩, p3 + (k : Int), q4, q5⟩ by simp [rd_T46, List.getD_eq_getElem?_getD, hMk]] at y0 y1 y2 y3 y4
          obtain ⟨bq, hbq⟩ : ∃ x, am.add (j * 5) = x := ⟨_, rfl⟩
          rw [hbq] at y0 y1 y2 y3 y4
          replace y0 : wr.cell? bq = some (.int .i64 (s : Nat)) := y0
          replace y1 : wr.cell? ⟨bq.block, bq.off + 1, none⟩ = some (.int .i64 q2) := y1
          replace y2 : wr.cell? ⟨bq.block, bq.off + 2, none⟩ = some (.int .i64 (p3 + (k : Int))) := y2
          have HWK := Lib.hid (w_s k (by have := HZZ.out.2.1; omega))
          have HB2 := Lib.hid hb2
          have hbq2 : am.add ((at0 + k) * 5) = bq := by rw [HJ.out]; exact hbq
          clear y3 y4 hMk hb2
          go_upto_region 17 with fail
          go_region
          clear x0 x1 x2 x3 x4 y0 y1 y2 hwp hwk hbq hbq2 hkb hk0 hkm
          go_wp2
          go_roundg (rl - (k + 1))
          case measure => have := HK.out; omega
          case rel => exact ⟨k + 1, by first | rfl | (rw [HWK.out]), ⟨by have := HK.out; omega, below_drew HB2.out⟩⟩
        · have hk1 : ¬ (k : Int) < (rl : Int) := by omega
          have hcl : wr.cell? ⟨g6, s, none⟩ = some (.int .i64 (sN (xss.take i).flatten s : Nat)) := ((hb2.cell (p := ⟨g6, s, none⟩) (blk_lt HSR0.out)).trans (blk_cell HSR0.out s)).trans (sRow_get _ _ hs17)
          have hfz : wr.frozen? ⟨g6, s, none⟩ = false := blk_frozen (blk_below HSR0.out hb2) s
          obtain ⟨cv, hcv⟩ : ∃ x, sN (xss.take i).flatten s = x := ⟨_, rfl⟩
          rw [hcv] at hcl
          have hcv2 := HZZ.out.1
          rw [hcv] at hcv2
          have hwc := wN cv rl (by have := HZZ.out.2.1; omega)
          have HWC := Lib.hid hwc
          have HCV := Lib.hid hcv
          have HB2 := Lib.hid hb2
          have hsi : (s : Int) < 17 := Int.ofNat_lt.2 hs17
          have hsi0 : (0 : Int) ≤ (s : Int) := Int.natCast_nonneg s
          clear hcv hcv2 hwc hb2
          go_upto_region 20 with fail
          go_region
          rw [HWC.out]
          have HN1 := Lib.hid (show (wr.setCell ⟨g6, s, none⟩ (.int .i64 ((cv + rl : Nat) : Int))).drew.heap[g6]? = some (.cells (sRow (xss.take (i + 1)).flatten) 44 (0, 0)) by
            have h9 := HAD.out
            rw [HCV.out] at h9
            rw [← h9]
            exact blk_set (blk_below HSR0.out HB2.out) _ _)
          have HNB := Lib.hid (show Below w4.heap.size w4 (wr.setCell ⟨g6, s, none⟩ (.int .i64 ((cv + rl : Nat) : Int))).drew from below_drew ((below_step HB.out HB2.out).trans ((Below.refl w4.heap.size wr).setCell (p := ⟨g6, s, none⟩) (by have := HG.out; show w4.heap.size ≤ g6; omega) _)))
          clear hcl hfz x0 x1 x2 x3 x4
          go_wp2
          go_roundg (n - (i + 1))
          case measure => have := HI.out; omega
          case rel => exact ⟨i + 1, by first | rfl | (rw [HW.out.1]), by rw [HA1.out.2]; first | rfl | (rw [HW.out.2]), ⟨by have := HI.out; omega, HN1.out, HNB.out⟩⟩
    · have hi1 : ¬ (i : Int) < (n : Int) := by omega
      have htk : xss.take i = xss := List.take_of_length_le (by rw [HN.out.1]; omega)
      rw [htk, HRUN.out.2] at hsr
      rw [htk, HRUN.out.2, HN.out.2]
      have HSR0 := Lib.hid hsr
      have HB := Lib.hid hb
      have hSs := hS _ (HB4.out.trans (hb.mono HB4.out.size))
      clear hS hsr hb htk hik
      go_upto_region 22 with (go_at_call 12; refine hSs.mono ?_; rintro e w5 ⟨vt, rfl, hvt, hb5⟩; have HVT := Lib.hid hvt; have HB5 := Lib.hid hb5; clear hSs hvt hb5)
      obtain ⟨AT, cT, rfl, hcT, hCT⟩ := Kd.R_reads HVT.out
      obtain ⟨nt, hnt⟩ : ∃ x, T.length = x := ⟨_, rfl⟩
      have hnt17 := HSL.out
      have HCT := Lib.hid hCT
      have HNT := Lib.hid hnt
      rw [hnt] at hcT hnt17 ⊢
      have HS5 := Lib.hid (blk_below HSR0.out HB5.out)
      have HF5 := Lib.hid (HB4.out.trans ((below_step HB.out HB5.out).mono HB4.out.size))
      clear hCT hnt
      go_wp2
      go_loopg [10] nt (fun q u10 wr => ∃ k : Nat, u10 = .int .i64 (k : Nat) ∧ Aside0 (k + q = nt ∧ Below w5.heap.size w5 wr))
      case atStart => exact ⟨0, rfl, ⟨by omega, Below.refl _ _⟩⟩
      case round =>
        obtain ⟨k, rfl, HR⟩ := hrel
        have HK := Lib.hid HR.out.1
        have hb := HR.out.2
        clear HR
        by_cases hik : k < nt
        · have hi0 : (0 : Int) ≤ (k : Int) := by omega
          have hi1 : (k : Int) < (nt : Int) := by omega
          have hkT : k < T.length := by rw [HNT.out]; exact hik
          obtain ⟨at_, cc, e0, hcl, hK, hcc⟩ := Kd.C_get (Kd.C_below HCT.out hb) ((0, 0, 0) : Int × Int × Int) (k : Int) hi0 (by rw [HNT.out]; exact hi1)
          cases e0
          obtain ⟨s, hs1, hs16, e1, e2, e3⟩ := HSR.out _ (List.getElem_mem hkT)
          rw [show T.getD (k : Int).toNat (0, 0, 0) = T[k] by simp [List.getD_eq_getElem?_getD, List.getElem?_eq_getElem hkT]] at hK
          obtain ⟨⟨y1, y2, y3⟩, hy⟩ : ∃ x, T[k] = x := ⟨_, rfl⟩
          rw [hy] at hK e1 e2
          replace e1 : y1 = (s : Int) := e1
          replace e2 : y2 = ((sN M s : Nat) : Int) := e2
          subst e1
          obtain ⟨a, ha⟩ : ∃ x, sN M s = x := ⟨_, rfl⟩
          obtain ⟨os, hos⟩ : ∃ x, own (s : Int) = x := ⟨_, rfl⟩
          rw [ha] at e2
          rw [ha, hos] at e3
          subst e2
          obtain rfl := k42_open hK
          have z0 := hcc 0 _ rfl
          have z1 := hcc 1 _ rfl
          rw [Int.toNat_natCast, show k42.sz = 3 from rfl] at z0 z1
          rw [Nat.add_zero] at z0
          rw [add_field at_ (k * 3) 1 (by omega)] at z1
          obtain ⟨bt, hbt⟩ : ∃ x, at_.add (k * 3) = x := ⟨_, rfl⟩
          rw [hbt] at z0 z1
          have z3 : wr.cell? ⟨g6, s, none⟩ = some (.int .i64 (a : Nat)) := by
            rw [← ha]
            exact (blk_cell (blk_below HS5.out hb) s).trans (sRow_get _ _ (by omega))
          have hOw := fun w' (h : Below w5.heap.size w5 w') => HO.out (s : Int) w' (HF5.out.trans (h.mono HF5.out.size))
          rw [hos] at hOw
          replace e3 := e3
          have hos := e3
          have hs17i : (s : Int) < 17 := by omega
          have hs0i : (0 : Int) ≤ (s : Int) := by omega
          have hs1i : ¬ (s : Int) < 1 := by omega
          have hs16i : ¬ (16 : Int) < (s : Int) := by omega
          have HW := Lib.hid (w_s k (by omega))
          have hab : a ≤ 250 := by rw [← ha]; have := sN_le M s; omega
          clear hcc hcl hK hkT hy ha e3
          go_upto_region 25 with fail
          refine start_ (n := 46) (S := fun w' => Below w5.heap.size w5 w' ∧ w'.cell? bt = some (.int .i64 (s : Nat)) ∧ w'.cell? ⟨bt.block, bt.off + 1, none⟩ = some (.int .i64 (a : Nat)) ∧ w'.cell? ⟨g6, s, none⟩ = some (.int .i64 (a : Nat))) (ds := []) #[false, false, false, false, false, false, false, false, false, false, false, false, false, false, false, false, false, false, false, false, false, false, false, false, false, false, false, false, false, false, false, false, false, false, false, false, false, false, false, false, false, false, false, false, false, false] (by kernel_rfl) rfl rfl ⟨hb.drew, z0, z1, z3⟩ (fun hHeld => ?_)
          clear z0 z1 z3 hb
          generalize wr.drew = w30 at hHeld ⊢
          refine pure_ (i := 0) (N := some 134) (v := ?_) (a' := ?_) #[true, false, false, false, false, false, false, false, false, false, false, false, false, false, false, false, false, false, false, false, false, false, false, false, false, false, false, false, false, false, false, false, false, false, false, false, false, false, false, false, false, false, false, false, false, false] rfl rfl (by kernel_rfl) (fun _ _ _ h => h) (Or.inl ⟨by rfl, ?_⟩) ?_ ?_
          rotate_left
          · intro w'
            go_simp
            with_reducible rfl
          rotate_left
          · simp only [Act.put, List.setIfInBounds_toArray, List.set_cons_zero, List.set_cons_succ]
            rfl
          refine pure_ (i := 1) (N := some 135) (v := ?_) (a' := ?_) #[true, true, false, false, false, false, false, false, false, false, false, false, false, false, false, false, false, false, false, false, false, false, false, false, false, false, false, false, false, false, false, false, false, false, false, false, false, false, false, false, false, false, false, false, false, false] rfl rfl (by kernel_rfl) (fun _ _ _ h => h) (Or.inl ⟨by rfl, ?_⟩) ?_ ?_
          rotate_left
          · intro w'
            go_simp
            with_reducible rfl
          rotate_left
          · simp only [Act.put, List.setIfInBounds_toArray, List.set_cons_zero, List.set_cons_succ]
            rfl
          refine pure_ (i := 2) (N := some 136) (v := ?_) (a' := ?_) #[true, true, true, false, false, false, false, false, false, false, false, false, false, false, false, false, false, false, false, false, false, false, false, false, false, false, false, false, false, false, false, false, false, false, false, false, false, false, false, false, false, false, false, false, false, false] rfl rfl (by kernel_rfl) (fun _ _ _ h => h) (Or.inl ⟨by rfl, ?_⟩) ?_ ?_
          rotate_left
          · intro w'
            go_simp
            with_reducible rfl
          rotate_left
          · simp only [Act.put, List.setIfInBounds_toArray, List.set_cons_zero, List.set_cons_succ]
            rfl
          refine pure_ (i := 3) (N := some 137) (v := ?_) (a' := ?_) #[true, true, true, true, false, false, false, false, false, false, false, false, false, false, false, false, false, false, false, false, false, false, false, false, false, false, false, false, false, false, false, false, false, false, false, false, false, false, false, false, false, false, false, false, false, false] rfl rfl (by kernel_rfl) (fun _ _ _ h => h) (Or.inl ⟨by rfl, ?_⟩) ?_ ?_
          rotate_left
          · intro w'
            go_simp
            with_reducible rfl
          rotate_left
          · simp only [Act.put, List.setIfInBounds_toArray, List.set_cons_zero, List.set_cons_succ]
            rfl
          refine take_ (i := 4) (N := some 138) (v := ?_) (a' := ?_) #[true, true, true, true, true, false, false, false, false, false, false, false, false, false, false, false, false, false, false, false, false, false, false, false, false, false, false, false, false, false, false, false, false, false, false, false, false, false, false, false, false, false, false, false, false, false] rfl rfl (by kernel_rfl) (fun _ _ _ h => h) (Or.inl ⟨by rfl, ?_⟩) hHeld ?_ ?_
          rotate_left
          · rintro w' ⟨s0, s1, s2, s3⟩
            go_simp
            with_reducible rfl
          rotate_left
          · simp only [Act.put, List.setIfInBounds_toArray, List.set_cons_zero, List.set_cons_succ]
            rfl
          refine pure_ (i := 5) (N := some 139) (v := ?_) (a' := ?_) #[true, true, true, true, true, true, false, false, false, false, false, false, false, false, false, false, false, false, false, false, false, false, false, false, false, false, false, false, false, false, false, false, false, false, false, false, false, false, false, false, false, false, false, false, false, false] rfl rfl (by kernel_rfl) (fun _ _ _ h => h) (Or.inl ⟨by rfl, ?_⟩) ?_ ?_
          rotate_left
          · intro w'
            go_simp
            with_reducible rfl
          rotate_left
          · simp only [Act.put, List.setIfInBounds_toArray, List.set_cons_zero, List.set_cons_succ]
            rfl
          refine pure_ (i := 6) (N := some 140) (v := ?_) (a' := ?_) #[true, true, true, true, true, true, true, false, false, false, false, false, false, false, false, false, false, false, false, false, false, false, false, false, false, false, false, false, false, false, false, false, false, false, false, false, false, false, false, false, false, false, false, false, false, false] rfl rfl (by kernel_rfl) (fun _ _ _ h => h) (Or.inl ⟨by rfl, ?_⟩) ?_ ?_
          rotate_left
          · intro w'
            go_simp
            with_reducible rfl
          rotate_left
          · simp only [Act.put, List.setIfInBounds_toArray, List.set_cons_zero, List.set_cons_succ]
            rfl
          refine pure_ (i := 7) (N := some 141) (v := ?_) (a' := ?_) #[true, true, true, true, true, true, true, true, false, false, false, false, false, false, false, false, false, false, false, false, false, false, false, false, false, false, false, false, false, false, false, false, false, false, false, false, false, false, false, false, false, false, false, false, false, false] rfl rfl (by kernel_rfl) (fun _ _ _ h => h) (Or.inl ⟨by rfl, ?_⟩) ?_ ?_
          rotate_left
          · intro w'
            go_simp
            with_reducible rfl
          rotate_left
          · simp only [Act.put, List.setIfInBounds_toArray, List.set_cons_zero, List.set_cons_succ]
            rfl
          refine pure_ (i := 8) (N := some 142) (v := ?_) (a' := ?_) #[true, true, true, true, true, true, true, true, true, false, false, false, false, false, false, false, false, false, false, false, false, false, false, false, false, false, false, false, false, false, false, false, false, false, false, false, false, false, false, false, false, false, false, false, false, false] rfl rfl (by kernel_rfl) (fun _ _ _ h => h) (Or.inl ⟨by rfl, ?_⟩) ?_ ?_
          rotate_left
          · intro w'
            go_simp
            with_reducible rfl
          rotate_left
          · simp only [Act.put, List.setIfInBounds_toArray, List.set_cons_zero, List.set_cons_succ]
            rfl
          refine pure_ (i := 9) (N := some 143) (v := ?_) (a' := ?_) #[true, true, true, true, true, true, true, true, true, true, false, false, false, false, false, false, false, false, false, false, false, false, false, false, false, false, false, false, false, false, false, false, false, false, false, false, false, false, false, false, false, false, false, false, false, false] rfl rfl (by kernel_rfl) (fun _ _ _ h => h) (Or.inl ⟨by rfl, ?_⟩) ?_ ?_
          rotate_left
          · intro w'
            go_simp
            with_reducible rfl
          rotate_left
          · simp only [Act.put, List.setIfInBounds_toArray, List.set_cons_zero, List.set_cons_succ]
            rfl
          refine pure_ (i := 10) (N := some 144) (v := ?_) (a' := ?_) #[true, true, true, true, true, true, true, true, true, true, true, false, false, false, false, false, false, false, false, false, false, false, false, false, false, false, false, false, false, false, false, false, false, false, false, false, false, false, false, false, false, false, false, false, false, false] rfl rfl (by kernel_rfl) (fun _ _ _ h => h) (Or.inl ⟨by rfl, ?_⟩) ?_ ?_
          rotate_left
          · intro w'
            go_simp
            with_reducible rfl
          rotate_left
          · simp only [Act.put, List.setIfInBounds_toArray, List.set_cons_zero, List.set_cons_succ]
            rfl
          refine take_ (i := 11) (N := some 145) (v := ?_) (a' := ?_) #[true, true, true, true, true, true, true, true, true, true, true, true, false, false, false, false, false, false, false, false, false, false, false, false, false, false, false, false, false, false, false, false, false, false, false, false, false, false, false, false, false, false, false, false, false, false] rfl rfl (by kernel_rfl) (fun _ _ _ h => h) (Or.inl ⟨by rfl, ?_⟩) hHeld ?_ ?_
          rotate_left
          · rintro w' ⟨s0, s1, s2, s3⟩
            go_simp
            with_reducible rfl
          rotate_left
          · simp only [Act.put, List.setIfInBounds_toArray, List.set_cons_zero, List.set_cons_succ]
            rfl
          refine pure_ (i := 12) (N := some 146) (v := ?_) (a' := ?_) #[true, true, true, true, true, true, true, true, true, true, true, true, true, false, false, false, false, false, false, false, false, false, false, false, false, false, false, false, false, false, false, false, false, false, false, false, false, false, false, false, false, false, false, false, false, false] rfl rfl (by kernel_rfl) (fun _ _ _ h => h) (Or.inl ⟨by rfl, ?_⟩) ?_ ?_
          rotate_left
          · intro w'
            go_simp
            with_reducible rfl
          rotate_left
          · simp only [Act.put, List.setIfInBounds_toArray, List.set_cons_zero, List.set_cons_succ]
            rfl
          refine pure_ (i := 13) (N := some 147) (v := ?_) (a' := ?_) #[true, true, true, true, true, true, true, true, true, true, true, true, true, true, false, false, false, false, false, false, false, false, false, false, false, false, false, false, false, false, false, false, false, false, false, false, false, false, false, false, false, false, false, false, false, false] rfl rfl (by kernel_rfl) (fun _ _ _ h => h) (Or.inl ⟨by rfl, ?_⟩) ?_ ?_
          rotate_left
          · intro w'
            go_simp
            with_reducible rfl
          rotate_left
          · simp only [Act.put, List.setIfInBounds_toArray, List.set_cons_zero, List.set_cons_succ]
            rfl
          refine pure_ (i := 14) (N := some 148) (v := ?_) (a' := ?_) #[true, true, true, true, true, true, true, true, true, true, true, true, true, true, true, false, false, false, false, false, false, false, false, false, false, false, false, false, false, false, false, false, false, false, false, false, false, false, false, false, false, false, false, false, false, false] rfl rfl (by kernel_rfl) (fun _ _ _ h => h) (Or.inl ⟨by rfl, ?_⟩) ?_ ?_
          rotate_left
          · intro w'
            go_simp
            with_reducible rfl
          rotate_left
          · simp only [Act.put, List.setIfInBounds_toArray, List.set_cons_zero, List.set_cons_succ]
            rfl
          refine pure_ (i := 15) (N := some 149) (v := ?_) (a' := ?_) #[true, true, true, true, true, true, true, true, true, true, true, true, true, true, true, true, false, false, false, false, false, false, false, false, false, false, false, false, false, false, false, false, false, false, false, false, false, false, false, false, false, false, false, false, false, false] rfl rfl (by kernel_rfl) (fun _ _ _ h => h) (Or.inl ⟨by rfl, ?_⟩) ?_ ?_
          rotate_left
          · intro w'
            go_simp
            with_reducible rfl
          rotate_left
          · simp only [Act.put, List.setIfInBounds_toArray, List.set_cons_zero, List.set_cons_succ]
            rfl
          refine pure_ (i := 16) (N := some 150) (v := ?_) (a' := ?_) #[true, true, true, true, true, true, true, true, true, true, true, true, true, true, true, true, true, false, false, false, false, false, false, false, false, false, false, false, false, false, false, false, false, false, false, false, false, false, false, false, false, false, false, false, false, false] rfl rfl (by kernel_rfl) (fun _ _ _ h => h) (Or.inl ⟨by rfl, ?_⟩) ?_ ?_
          rotate_left
          · intro w'
            go_simp
            with_reducible rfl
          rotate_left
          · simp only [Act.put, List.setIfInBounds_toArray, List.set_cons_zero, List.set_cons_succ]
            rfl
          refine pure_ (i := 17) (N := some 151) (v := ?_) (a' := ?_) #[true, true, true, true, true, true, true, true, true, true, true, true, true, true, true, true, true, true, false, false, false, false, false, false, false, false, false, false, false, false, false, false, false, false, false, false, false, false, false, false, false, false, false, false, false, false] rfl rfl (by kernel_rfl) (fun _ _ _ h => h) (Or.inl ⟨by rfl, ?_⟩) ?_ ?_
          rotate_left
          · intro w'
            go_simp
            with_reducible rfl
          rotate_left
          · simp only [Act.put, List.setIfInBounds_toArray, List.set_cons_zero, List.set_cons_succ]
            rfl
          refine pure_ (i := 18) (N := some 152) (v := ?_) (a' := ?_) #[true, true, true, true, true, true, true, true, true, true, true, true, true, true, true, true, true, true, true, false, false, false, false, false, false, false, false, false, false, false, false, false, false, false, false, false, false, false, false, false, false, false, false, false, false, false] rfl rfl (by kernel_rfl) (fun _ _ _ h => h) (Or.inl ⟨by rfl, ?_⟩) ?_ ?_
          rotate_left
          · intro w'
            go_simp
            with_reducible rfl
          rotate_left
          · simp only [Act.put, List.setIfInBounds_toArray, List.set_cons_zero, List.set_cons_succ]
            rfl
          refine take_ (i := 19) (N := some 153) (v := ?_) (a' := ?_) #[true, true, true, true, true, true, true, true, true, true, true, true, true, true, true, true, true, true, true, true, false, false, false, false, false, false, false, false, false, false, false, false, false, false, false, false, false, false, false, false, false, false, false, false, false, false] rfl rfl (by kernel_rfl) (fun _ _ _ h => h) (Or.inl ⟨by rfl, ?_⟩) hHeld ?_ ?_
          rotate_left
          · rintro w' ⟨s0, s1, s2, s3⟩
            go_simp
            with_reducible rfl
          rotate_left
          · simp only [Act.put, List.setIfInBounds_toArray, List.set_cons_zero, List.set_cons_succ]
            rfl
          refine pure_ (i := 20) (N := some 154) (v := ?_) (a' := ?_) #[true, true, true, true, true, true, true, true, true, true, true, true, true, true, true, true, true, true, true, true, true, false, false, false, false, false, false, false, false, false, false, false, false, false, false, false, false, false, false, false, false, false, false, false, false, false] rfl rfl (by kernel_rfl) (fun _ _ _ h => h) (Or.inl ⟨by rfl, ?_⟩) ?_ ?_
          rotate_left
          · intro w'
            go_simp
            with_reducible rfl
          rotate_left
          · simp only [Act.put, List.setIfInBounds_toArray, List.set_cons_zero, List.set_cons_succ]
            rfl
          refine take_ (i := 21) (N := some 155) (v := ?_) (a' := ?_) #[true, true, true, true, true, true, true, true, true, true, true, true, true, true, true, true, true, true, true, true, true, true, false, false, false, false, false, false, false, false, false, false, false, false, false, false, false, false, false, false, false, false, false, false, false, false] rfl rfl (by kernel_rfl) (fun _ _ _ h => h) (Or.inl ⟨by rfl, ?_⟩) hHeld ?_ ?_
          rotate_left
          · rintro w' ⟨s0, s1, s2, s3⟩
            go_simp
            with_reducible rfl
          rotate_left
          · simp only [Act.put, List.setIfInBounds_toArray, List.set_cons_zero, List.set_cons_succ]
            rfl
          refine pure_ (i := 22) (N := some 156) (v := ?_) (a' := ?_) #[true, true, true, true, true, true, true, true, true, true, true, true, true, true, true, true, true, true, true, true, true, true, true, false, false, false, false, false, false, false, false, false, false, false, false, false, false, false, false, false, false, false, false, false, false, false] rfl rfl (by kernel_rfl) (fun _ _ _ h => h) (Or.inl ⟨by rfl, ?_⟩) ?_ ?_
          rotate_left
          · intro w'
            go_simp
            with_reducible rfl
          rotate_left
          · simp only [Act.put, List.setIfInBounds_toArray, List.set_cons_zero, List.set_cons_succ]
            rfl
          refine pure_ (i := 23) (N := some 157) (v := ?_) (a' := ?_) #[true, true, true, true, true, true, true, true, true, true, true, true, true, true, true, true, true, true, true, true, true, true, true, true, false, false, false, false, false, false, false, false, false, false, false, false, false, false, false, false, false, false, false, false, false, false] rfl rfl (by kernel_rfl) (fun _ _ _ h => h) (Or.inl ⟨by rfl, ?_⟩) ?_ ?_
          rotate_left
          · intro w'
            go_simp
            with_reducible rfl
          rotate_left
          · simp only [Act.put, List.setIfInBounds_toArray, List.set_cons_zero, List.set_cons_succ]
            rfl
          refine pure_ (i := 24) (N := some 158) (v := ?_) (a' := ?_) #[true, true, true, true, true, true, true, true, true, true, true, true, true, true, true, true, true, true, true, true, true, true, true, true, true, false, false, false, false, false, false, false, false, false, false, false, false, false, false, false, false, false, false, false, false, false] rfl rfl (by kernel_rfl) (fun _ _ _ h => h) (Or.inl ⟨by rfl, ?_⟩) ?_ ?_
          rotate_left
          · intro w'
            go_simp
            with_reducible rfl
          rotate_left
          · simp only [Act.put, List.setIfInBounds_toArray, List.set_cons_zero, List.set_cons_succ]
            rfl
          refine pure_ (i := 25) (N := some 159) (v := ?_) (a' := ?_) #[true, true, true, true, true, true, true, true, true, true, true, true, true, true, true, true, true, true, true, true, true, true, true, true, true, true, false, false, false, false, false, false, false, false, false, false, false, false, false, false, false, false, false, false, false, false] rfl rfl (by kernel_rfl) (fun _ _ _ h => h) (Or.inl ⟨by rfl, ?_⟩) ?_ ?_
          rotate_left
          · intro w'
            go_simp
            with_reducible rfl
          rotate_left
          · simp only [Act.put, List.setIfInBounds_toArray, List.set_cons_zero, List.set_cons_succ]
            rfl
          refine take_ (i := 26) (N := some 160) (v := ?_) (a' := ?_) #[true, true, true, true, true, true, true, true, true, true, true, true, true, true, true, true, true, true, true, true, true, true, true, true, true, true, true, false, false, false, false, false, false, false, false, false, false, false, false, false, false, false, false, false, false, false] rfl rfl (by kernel_rfl) (fun _ _ _ h => h) (Or.inl ⟨by rfl, ?_⟩) hHeld ?_ ?_
          rotate_left
          · rintro w' ⟨s0, s1, s2, s3⟩
            go_simp
            with_reducible rfl
          rotate_left
          · simp only [Act.put, List.setIfInBounds_toArray, List.set_cons_zero, List.set_cons_succ]
            rfl
          refine pure_ (i := 27) (N := some 161) (v := ?_) (a' := ?_) #[true, true, true, true, true, true, true, true, true, true, true, true, true, true, true, true, true, true, true, true, true, true, true, true, true, true, true, true, false, false, false, false, false, false, false, false, false, false, false, false, false, false, false, false, false, false] rfl rfl (by kernel_rfl) (fun _ _ _ h => h) (Or.inl ⟨by rfl, ?_⟩) ?_ ?_
          rotate_left
          · intro w'
            go_simp
            with_reducible rfl
          rotate_left
          · simp only [Act.put, List.setIfInBounds_toArray, List.set_cons_zero, List.set_cons_succ]
            rfl
          refine pure_ (i := 28) (N := some 162) (v := ?_) (a' := ?_) #[true, true, true, true, true, true, true, true, true, true, true, true, true, true, true, true, true, true, true, true, true, true, true, true, true, true, true, true, true, false, false, false, false, false, false, false, false, false, false, false, false, false, false, false, false, false] rfl rfl (by kernel_rfl) (fun _ _ _ h => h) (Or.inl ⟨by rfl, ?_⟩) ?_ ?_
          rotate_left
          · intro w'
            go_simp
            with_reducible rfl
          rotate_left
          · simp only [Act.put, List.setIfInBounds_toArray, List.set_cons_zero, List.set_cons_succ]
            rfl
          refine pure_ (i := 29) (N := some 163) (v := ?_) (a' := ?_) #[true, true, true, true, true, true, true, true, true, true, true, true, true, true, true, true, true, true, true, true, true, true, true, true, true, true, true, true, true, true, false, false, false, false, false, false, false, false, false, false, false, false, false, false, false, false] rfl rfl (by kernel_rfl) (fun _ _ _ h => h) (Or.inl ⟨by rfl, ?_⟩) ?_ ?_
          rotate_left
          · intro w'
            go_simp
            with_reducible rfl
          rotate_left
          · simp only [Act.put, List.setIfInBounds_toArray, List.set_cons_zero, List.set_cons_succ]
            rfl
          refine pure_ (i := 30) (N := some 164) (v := ?_) (a' := ?_) #[true, true, true, true, true, true, true, true, true, true, true, true, true, true, true, true, true, true, true, true, true, true, true, true, true, true, true, true, true, true, true, false, false, false, false, false, false, false, false, false, false, false, false, false, false, false] rfl rfl (by kernel_rfl) (fun _ _ _ h => h) (Or.inl ⟨by rfl, ?_⟩) ?_ ?_
          rotate_left
          · intro w'
            go_simp
            with_reducible rfl
          rotate_left
          · simp only [Act.put, List.setIfInBounds_toArray, List.set_cons_zero, List.set_cons_succ]
            rfl
          refine pure_ (i := 31) (N := some 165) (v := ?_) (a' := ?_) #[true, true, true, true, true, true, true, true, true, true, true, true, true, true, true, true, true, true, true, true, true, true, true, true, true, true, true, true, true, true, true, true, false, false, false, false, false, false, false, false, false, false, false, false, false, false] rfl rfl (by kernel_rfl) (fun _ _ _ h => h) (Or.inl ⟨by rfl, ?_⟩) ?_ ?_
          rotate_left
          · intro w'
            go_simp
            with_reducible rfl
          rotate_left
          · simp only [Act.put, List.setIfInBounds_toArray, List.set_cons_zero, List.set_cons_succ]
            rfl
          refine pure_ (i := 32) (N := some 166) (v := ?_) (a' := ?_) #[true, true, true, true, true, true, true, true, true, true, true, true, true, true, true, true, true, true, true, true, true, true, true, true, true, true, true, true, true, true, true, true, true, false, false, false, false, false, false, false, false, false, false, false, false, false] rfl rfl (by kernel_rfl) (fun _ _ _ h => h) (Or.inl ⟨by rfl, ?_⟩) ?_ ?_
          rotate_left
          · intro w'
            go_simp
            with_reducible rfl
          rotate_left
          · simp only [Act.put, List.setIfInBounds_toArray, List.set_cons_zero, List.set_cons_succ]
            rfl
          refine pure_ (i := 33) (N := some 167) (v := ?_) (a' := ?_) #[true, true, true, true, true, true, true, true, true, true, true, true, true, true, true, true, true, true, true, true, true, true, true, true, true, true, true, true, true, true, true, true, true, true, false, false, false, false, false, false, false, false, false, false, false, false] rfl rfl (by kernel_rfl) (fun _ _ _ h => h) (Or.inl ⟨by rfl, ?_⟩) ?_ ?_
          rotate_left
          · intro w'
            go_simp
            with_reducible rfl
          rotate_left
          · simp only [Act.put, List.setIfInBounds_toArray, List.set_cons_zero, List.set_cons_succ]
            rfl
          refine pure_ (i := 34) (N := some 168) (v := ?_) (a' := ?_) #[true, true, true, true, true, true, true, true, true, true, true, true, true, true, true, true, true, true, true, true, true, true, true, true, true, true, true, true, true, true, true, true, true, true, true, false, false, false, false, false, false, false, false, false, false, false] rfl rfl (by kernel_rfl) (fun _ _ _ h => h) (Or.inl ⟨by rfl, ?_⟩) ?_ ?_
          rotate_left
          · intro w'
            go_simp
            with_reducible rfl
          rotate_left
          · simp only [Act.put, List.setIfInBounds_toArray, List.set_cons_zero, List.set_cons_succ]
            rfl
          refine take_ (i := 35) (N := some 169) (v := ?_) (a' := ?_) #[true, true, true, true, true, true, true, true, true, true, true, true, true, true, true, true, true, true, true, true, true, true, true, true, true, true, true, true, true, true, true, true, true, true, true, true, false, false, false, false, false, false, false, false, false, false] rfl rfl (by kernel_rfl) (fun _ _ _ h => h) (Or.inl ⟨by rfl, ?_⟩) hHeld ?_ ?_
          rotate_left
          · rintro w' ⟨s0, s1, s2, s3⟩
            go_simp
            with_reducible rfl
          rotate_left
          · simp only [Act.put, List.setIfInBounds_toArray, List.set_cons_zero, List.set_cons_succ]
            rfl
          refine pure_ (i := 39) (N := some 173) (v := ?_) (a' := ?_) #[true, true, true, true, true, true, true, true, true, true, true, true, true, true, true, true, true, true, true, true, true, true, true, true, true, true, true, true, true, true, true, true, true, true, true, true, false, false, false, true, false, false, false, false, false, false] rfl rfl (by kernel_rfl) (fun _ _ _ h => h) (Or.inl ⟨by rfl, ?_⟩) ?_ ?_
          rotate_left
          · intro w'
            go_simp
            with_reducible rfl
          rotate_left
          · simp only [Act.put, List.setIfInBounds_toArray, List.set_cons_zero, List.set_cons_succ]
            rfl
          refine pure_ (i := 40) (N := some 174) (v := ?_) (a' := ?_) #[true, true, true, true, true, true, true, true, true, true, true, true, true, true, true, true, true, true, true, true, true, true, true, true, true, true, true, true, true, true, true, true, true, true, true, true, false, false, false, true, true, false, false, false, false, false] rfl rfl (by kernel_rfl) (fun _ _ _ h => h) (Or.inl ⟨by rfl, ?_⟩) ?_ ?_
          rotate_left
          · intro w'
            go_simp
            with_reducible rfl
          rotate_left
          · simp only [Act.put, List.setIfInBounds_toArray, List.set_cons_zero, List.set_cons_succ]
            rfl
          refine pure_ (i := 41) (N := some 175) (v := ?_) (a' := ?_) #[true, true, true, true, true, true, true, true, true, true, true, true, true, true, true, true, true, true, true, true, true, true, true, true, true, true, true, true, true, true, true, true, true, true, true, true, false, false, false, true, true, true, false, false, false, false] rfl rfl (by kernel_rfl) (fun _ _ _ h => h) (Or.inl ⟨by rfl, ?_⟩) ?_ ?_
          rotate_left
          · intro w'
            go_simp
            with_reducible rfl
          rotate_left
          · simp only [Act.put, List.setIfInBounds_toArray, List.set_cons_zero, List.set_cons_succ]
            rfl
          refine pure_ (i := 42) (N := some 176) (v := ?_) (a' := ?_) #[true, true, true, true, true, true, true, true, true, true, true, true, true, true, true, true, true, true, true, true, true, true, true, true, true, true, true, true, true, true, true, true, true, true, true, true, false, false, false, true, true, true, true, false, false, false] rfl rfl (by kernel_rfl) (fun _ _ _ h => h) (Or.inl ⟨by rfl, ?_⟩) ?_ ?_
          rotate_left
          · intro w'
            go_simp
            with_reducible rfl
          rotate_left
          · simp only [Act.put, List.setIfInBounds_toArray, List.set_cons_zero, List.set_cons_succ]
            rfl
          refine take_ (i := 43) (N := some 177) (v := ?_) (a' := ?_) #[true, true, true, true, true, true, true, true, true, true, true, true, true, true, true, true, true, true, true, true, true, true, true, true, true, true, true, true, true, true, true, true, true, true, true, true, false, false, false, true, true, true, true, true, false, false] rfl rfl (by kernel_rfl) (fun _ _ _ h => h) (Or.inl ⟨by rfl, ?_⟩) hHeld ?_ ?_
          rotate_left
          · rintro w' ⟨s0, s1, s2, s3⟩
            go_simp
            with_reducible rfl
          rotate_left
          · simp only [Act.put, List.setIfInBounds_toArray, List.set_cons_zero, List.set_cons_succ]
            rfl
          refine one_ (i := 36) (N := some 170) #[true, true, true, true, true, true, true, true, true, true, true, true, true, true, true, true, true, true, true, true, true, true, true, true, true, true, true, true, true, true, true, true, true, true, true, true, true, false, false, true, true, true, true, true, false, false] rfl rfl (by kernel_rfl) (by decide) (fun K hK => ?_)
          refine call_ 14 #[.slice A m c, .int .i64 (s : Nat)] (by rfl) rfl ?hrun ?_
          case hrun => first | (go_simp; done) | (go_simp; rfl)
          refine (hOw _ hHeld.1).mono ?_
          rintro e w31 ⟨rfl, hb31⟩
          refine ⟨_, rfl, ?_⟩
          have hE : Below w5.heap.size w5 w31 := below_step hHeld.1 hb31
          have kk := fun (q : Addr) (v : Value) (h : w30.cell? q = some v) => (hb31.cell (World.block_lt_of_cell? w30 _ h)).trans h
          refine hK.out _ _ ⟨hE, kk _ _ hHeld.2.1, kk _ _ hHeld.2.2.1, kk _ _ hHeld.2.2.2⟩ (fun hHeld => ?_)
          clear hK K kk hb31 hE
          refine norm_ (a' := ?_) ?_ ?_
          rotate_left
          · show Act.put _ (some 170) _ = _
            simp only [Act.put, List.setIfInBounds_toArray, List.set_cons_zero, List.set_cons_succ]
            rfl
          refine one_ (i := 37) (N := some 171) #[true, true, true, true, true, true, true, true, true, true, true, true, true, true, true, true, true, true, true, true, true, true, true, true, true, true, true, true, true, true, true, true, true, true, true, true, true, true, false, true, true, true, true, true, false, false] rfl rfl (by kernel_rfl) (by decide) (fun K hK => ?_)
          refine value_ (v := .slice (some ⟨w31.heap.size, 0, none⟩) a (grownCap w31 a 0 21)) (w1 := w31.drew.alloc (.cells (Conv.runesFrom os os.size 0 #[] ++ Array.replicate (grownCap w31 a 0 21 - a) (.int .i32 0)) 21)) (by rfl) rfl ?hr ?_
          case hr =>
            have h9 := run_runes_of_string (P := Try.prog) w31 9 47 21 os Try.underlying9 Try.underlying47 Try.underlying21 (by rw [hos]; omega)
            rw [hos] at h9
            exact conv_run_ rfl rfl h9
          refine hK.out _ _ ⟨below_alloc (below_drew hHeld.1) _, (Below.cell_alloc_ (w := w31.drew) hHeld.2.1), (Below.cell_alloc_ (w := w31.drew) hHeld.2.2.1), (Below.cell_alloc_ (w := w31.drew) hHeld.2.2.2)⟩ (fun hHeld => ?_)
          clear hK K
          refine norm_ (a' := ?_) ?_ ?_
          rotate_left
          · show Act.put _ (some 171) _ = _
            simp only [Act.put, List.setIfInBounds_toArray, List.set_cons_zero, List.set_cons_succ]
            rfl
          refine pure_ (i := 38) (N := some 172) (v := ?_) (a' := ?_) #[true, true, true, true, true, true, true, true, true, true, true, true, true, true, true, true, true, true, true, true, true, true, true, true, true, true, true, true, true, true, true, true, true, true, true, true, true, true, true, true, true, true, true, true, false, false] rfl rfl (by kernel_rfl) (fun _ _ _ h => h) (Or.inl ⟨by rfl, ?_⟩) ?_ ?_
          rotate_left
          · intro w'
            go_simp
            with_reducible rfl
          rotate_left
          · simp only [Act.put, List.setIfInBounds_toArray, List.set_cons_zero, List.set_cons_succ]
            rfl
          refine pure_ (i := 44) (N := some 178) (v := ?_) (a' := ?_) #[true, true, true, true, true, true, true, true, true, true, true, true, true, true, true, true, true, true, true, true, true, true, true, true, true, true, true, true, true, true, true, true, true, true, true, true, true, true, true, true, true, true, true, true, true, false] rfl rfl (by kernel_rfl) (fun _ _ _ h => h) (Or.inl ⟨by rfl, ?_⟩) ?_ ?_
          rotate_left
          · intro w'
            go_simp
            with_reducible rfl
          rotate_left
          · simp only [Act.put, List.setIfInBounds_toArray, List.set_cons_zero, List.set_cons_succ]
            rfl
          refine pure_ (i := 45) (N := some 179) (v := ?_) (a' := ?_) #[true, true, true, true, true, true, true, true, true, true, true, true, true, true, true, true, true, true, true, true, true, true, true, true, true, true, true, true, true, true, true, true, true, true, true, true, true, true, true, true, true, true, true, true, true, true] rfl rfl (by kernel_rfl) (fun _ _ _ h => h) (Or.inl ⟨by rfl, ?_⟩) ?_ ?_
          rotate_left
          · intro w'
            go_simp
            with_reducible rfl
          rotate_left
          · simp only [Act.put, List.setIfInBounds_toArray, List.set_cons_zero, List.set_cons_succ]
            rfl
          refine done_ (by kernel_rfl) ?_
          have HBE := Lib.hid hHeld.1
          clear hHeld
          go_wp2
          go_roundg (nt - (k + 1))
          case measure => have := HK.out; omega
          case rel => exact ⟨k + 1, by first | rfl | (rw [HW.out]), ⟨by have := HK.out; omega, HBE.out⟩⟩
        · have hi1 : ¬ (k : Int) < (nt : Int) := by omega
          have HFIN := Lib.hid (HF5.out.trans (hb.mono HF5.out.size))
          clear hb
          go_wp2
          go_ret
          exact ⟨rfl, HFIN.out⟩
/-- For the row. -/
theorem bwhole_true (A : Option Addr) (n c : Nat) (l : List S46) (W : World) (hT : Aside0 True) (h : l.length = n ∧ n ≤ c ∧ Kd.C k46 W A l.length l) :
    Calls Try.prog 5 #[.slice A n c] W fun e w' => e = .returned (.bool true) ∧ Below W.heap.size W w' := by
  obtain ⟨rfl, h1, h2⟩ := h
  by_cases hl : l.length ≤ 250
  · by_cases h0 : codeN l = 0
    · exact bwhole_yes A c l W h2 h1 hl h0
    · exact bwhole_no A c l W h2 h1 hl h0
  · exact bwhole_big A c l.length W (by omega)
end Go.Proofs.Ytkglfgikfeebhaa.X
