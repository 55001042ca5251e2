/-
  foolscapref30.Sites tells what blame.Sites tells: by this session. Conditions: at most 20000 cells.
-/
import Derived.Test.YtkglfgikfeebhaaSites
import Derived.Test.YtkglfgikfeebhaaRefMay
namespace Go.Proofs.Ytkglfgikfeebhaa.X
open Go Go.RowKit Go.Shelf Go.Lib Go.Proofs.YtkglfgikfeebhaaW.PrintLast Go.Proofs.YtkglfgikfeebhaaW.PrintWords Go.Proofs.Ytkglfgikfeebhaa.P
set_option linter.unusedVariables false
/-- The sites begin at 1. -/
theorem sitesK_one {l : List S46} (h : codeN l = 0) : sitesK l 1 = [] := by
  have hz : ∀ j, j < 2 → cN l j = 0 := by
    intro j hj
    unfold cN
    rw [List.length_eq_zero_iff, List.filter_eq_nil_iff]
    intro x hx
    have := may_site h hx
    have h2 : 2 ≤ cIx x := by unfold cIx; omega
    rw [decide_eq_true_eq]
    omega
  have := sitesK_succ l 0
  rw [if_pos ⟨hz 0 (by omega), hz 1 (by omega)⟩] at this
  exact this
set_option maxRecDepth 100000 in
set_option maxHeartbeats 16000000 in
theorem rsites_yes (A : Option Addr) (c : Nat) (l : List S46) (w : World) (hC : Kd.C k46 w A l.length l) (hc : l.length ≤ c) (hl : l.length ≤ 20000) (h0 : codeN l = 0) :
    Calls Try.prog 13 #[.slice A l.length c] w fun e w' => ∃ v, e = .returned v ∧ Kd.R k42 42 w' w.heap.size (fun _ => True) v (sitesK l 17) ∧ Below w.heap.size w w' := by
  have hMy := rmay_w A c l w hC hc hl
  rw [h0] at hMy
  have HCM := Lib.hid hC
  obtain ⟨m, hm⟩ : ∃ m, l.length = m := ⟨_, rfl⟩
  have HM := Lib.hid hm
  have H0 := Lib.hid h0
  have H1 := Lib.hid (sitesK_one h0)
  rw [hm] at hMy hl hc ⊢
  clear hC h0 hm
  go_enter Try.func13, Try.ntmps13
  go_upto_region 5 with (go_at_call 11; refine hMy.mono ?_; rintro e w1 ⟨rfl, hb1⟩; have HB1 := Lib.hid hb1; clear hMy hb1)
  have hR0 : Kd.R k42 42 w1 w.heap.size (fun _ => True) (.slice none 0 0) (sitesK l 1) := by rw [H1.out]; exact Kd.R_nil _ _ _ _ _
  go_loopg [3, 4] 16 (fun q u3 u4 wz => ∃ s : Nat, u4 = .int .i64 (s : Nat) ∧ Aside0 (s + q = 17 ∧ 1 ≤ s ∧ Kd.R k42 42 wz w.heap.size (fun _ => True) u3 (sitesK l s) ∧ Below w.heap.size w wz))
  case atStart => exact ⟨1, rfl, ⟨by omega, Nat.le_refl _, hR0, HB1.out⟩⟩
  case round =>
    clear hR0 HB1
    obtain ⟨s, rfl, HR⟩ := hrel
    have HS := Lib.hid HR.out.1
    have HS1 := Lib.hid HR.out.2.1
    obtain ⟨hV, hb⟩ := HR.out.2.2
    clear HR
    obtain ⟨AP, cP, rfl⟩ := Kd.R_slice hV
    obtain ⟨v3, hv3⟩ : ∃ x, Value.slice AP (sitesK l s).length cP = x := ⟨_, rfl⟩
    rw [hv3] at hV ⊢
    clear hv3
    have HV := Lib.hid hV
    have HB := Lib.hid hb
    clear hV hb
    by_cases hik : s ≤ 16
    · have hs1 : (s : Int) ≤ 16 := by omega
      have HSK := Lib.hid hik
      obtain ⟨wr1, rfl⟩ : ∃ x, x = wr := ⟨_, rfl⟩
      obtain ⟨gk1, rfl⟩ : ∃ x, x = gk := ⟨_, rfl⟩
      clear hik
      go_wp2
      go_loopg [5, 6, 7] m (fun q u5 u6 u7 wz => ∃ i : Nat, u7 = .int .i64 (i : Nat) ∧ u5 = .int .i64 (cN (l.take i) (s * 2) : Nat) ∧ u6 = .int .i64 (cN (l.take i) (s * 2 + 1) : Nat) ∧ Aside0 (i + q = m ∧ Below wr1.heap.size wr1 wz))
      case atStart => exact ⟨0, rfl, rfl, rfl, ⟨by omega, Below.refl _ _⟩⟩
      case round =>
        obtain ⟨i, rfl, rfl, rfl, HR⟩ := hrel
        have HI := Lib.hid HR.out.1
        have hb := HR.out.2
        clear HR
        obtain ⟨a, ha⟩ : ∃ x, cN (l.take i) (s * 2) = x := ⟨_, rfl⟩
        obtain ⟨b, hb'⟩ : ∃ x, cN (l.take i) (s * 2 + 1) = x := ⟨_, rfl⟩
        rw [ha, hb']
        by_cases hik : i < m
        · have hi0 : (0 : Int) ≤ (i : Int) := by omega
          have hi1 : (i : Int) < (m : Int) := by omega
          have hil : i < l.length := by rw [HM.out]; exact hik
          obtain ⟨ad, e0, x0, x1, x2, x3, x4⟩ := at_T46 (Kd.C_below HCM.out (HB.out.trans (hb.mono HB.out.size))) (i : Int) hi0 (by rw [HM.out]; exact hi1)
          cases e0
          rw [Int.toNat_natCast, rd46 l i hil] at x0 x1 x2 x3 x4
          obtain ⟨⟨⟨a1, a2⟩, a3, a4, d⟩, hx⟩ : ∃ x, l[i] = x := ⟨_, rfl⟩
          have HX := Lib.hid (show l[i]? = some (⟨⟨a1, a2⟩, a3, a4, d⟩ : S46) by rw [List.getElem?_eq_getElem hil, hx])
          rw [hx] at x0 x1 x2 x3 x4
          replace x0 : wr.cell? _ = some (.int .i64 a1) := x0
          replace x1 : wr.cell? _ = some (.int .i64 a2) := x1
          replace x2 : wr.cell? _ = some (.int .i64 a3) := x2
          replace x3 : wr.cell? _ = some (.int .i32 a4) := x3
          replace x4 : wr.cell? _ = some (.bool d) := x4
          obtain ⟨hz1, hz2⟩ := may_site H0.out (hx ▸ List.getElem_mem hil : (⟨⟨a1, a2⟩, a3, a4, d⟩ : S46) ∈ l)
          replace hz1 : 1 ≤ a1 := hz1
          have hn := cN_le (l.take i) (s * 2)
          have hn' := cN_le (l.take i) (s * 2 + 1)
          rw [ha, List.length_take] at hn
          rw [hb', List.length_take] at hn'
          have htk : l.take (i + 1) = l.take i ++ [⟨⟨a1, a2⟩, a3, a4, d⟩] := by rw [List.take_succ_eq_append_getElem hil, hx]
          have hga := cN_snoc (l.take i) ⟨⟨a1, a2⟩, a3, a4, d⟩ (s * 2)
          have hgb := cN_snoc (l.take i) ⟨⟨a1, a2⟩, a3, a4, d⟩ (s * 2 + 1)
          rw [← htk, ha] at hga
          rw [← htk, hb'] at hgb
          have HW := Lib.hid (And.intro (w_s i (by omega)) (And.intro (w_s a (by omega)) (w_s b (by omega))))
          have HBB := Lib.hid hb
          have HSs := HS1.out
          by_cases hs : a1 = (s : Int)
          · cases d with
            | true =>
              have e1 : cN (l.take (i + 1)) (s * 2) = a := by rw [hga, if_neg (by simp [cIx]; omega), Nat.add_zero]
              have e2 : cN (l.take (i + 1)) (s * 2 + 1) = b + 1 := by rw [hgb, if_pos (by simp [cIx]; omega)]
              have HE := Lib.hid (And.intro e1 e2)
              clear hx hil hz1 hz2 hn hn' htk hga hgb hb HSs e1 e2 ha hb'
              go_wp2
              go_roundg (m - (i + 1))
              case measure => have := HI.out; omega
              case rel => exact ⟨i + 1, by first | rfl | (rw [HW.out.1]), by rw [HE.out.1], by rw [HE.out.2]; first | rfl | (rw [HW.out.2.2]), ⟨by have := HI.out; omega, HBB.out⟩⟩
            | false =>
              have e1 : cN (l.take (i + 1)) (s * 2) = a + 1 := by rw [hga, if_pos (by simp [cIx]; omega)]
              have e2 : cN (l.take (i + 1)) (s * 2 + 1) = b := by rw [hgb, if_neg (by simp [cIx]; omega), Nat.add_zero]
              have HE := Lib.hid (And.intro e1 e2)
              clear hx hil hz1 hz2 hn hn' htk hga hgb hb HSs e1 e2 ha hb'
              go_wp2
              go_roundg (m - (i + 1))
              case measure => have := HI.out; omega
              case rel => exact ⟨i + 1, by first | rfl | (rw [HW.out.1]), by rw [HE.out.1]; first | rfl | (rw [HW.out.2.1]), by rw [HE.out.2], ⟨by have := HI.out; omega, HBB.out⟩⟩
          · have e1 : cN (l.take (i + 1)) (s * 2) = a := by rw [hga, if_neg (by cases d <;> simp [cIx] <;> omega), Nat.add_zero]
            have e2 : cN (l.take (i + 1)) (s * 2 + 1) = b := by rw [hgb, if_neg (by cases d <;> simp [cIx] <;> omega), Nat.add_zero]
            have HE := Lib.hid (And.intro e1 e2)
            clear hx hil hz1 hz2 hn hn' htk hga hgb hb HSs e1 e2 ha hb'
            go_wp2
            go_roundg (m - (i + 1))
            case measure => have := HI.out; omega
            case rel => exact ⟨i + 1, by first | rfl | (rw [HW.out.1]), by rw [HE.out.1], by rw [HE.out.2], ⟨by have := HI.out; omega, HBB.out⟩⟩
        · have hi1 : ¬ (i : Int) < (m : Int) := by omega
          have htk : l.take i = l := List.take_of_length_le (by rw [HM.out]; omega)
          rw [htk] at ha hb'
          have hn := cN_le l (s * 2)
          have hn' := cN_le l (s * 2 + 1)
          rw [ha, HM.out] at hn
          rw [hb', HM.out] at hn'
          have hnx := sitesK_succ l s
          rw [ha, hb'] at hnx
          have hln := sitesK_length l s
          have HLN := Lib.hid hln
          have HNX := Lib.hid hnx
          have HW := Lib.hid (w_s s (by have := HSK.out; omega))
          have hwab : wrap64 ((a : Int) + (b : Int)) = ((a + b : Nat) : Int) := by unfold wrap64; omega
          have HWA := Lib.hid hwab
          have HV2 := Lib.hid (Kd.R_below HV.out hb)
          have HB2 := Lib.hid (HB.out.trans (hb.mono HB.out.size))
          by_cases hz : a = 0 ∧ b = 0
          · rw [if_pos hz, List.append_nil] at hnx
            have HN0 := Lib.hid hnx
            obtain ⟨rfl, rfl⟩ := hz
            clear htk hn hn' hnx hln hb ha hb' hwab
            go_wp2
            go_roundg (17 - (s + 1))
            case measure => have := HS.out; omega
            case rel => exact ⟨s + 1, by first | rfl | (rw [HW.out]), ⟨by have := HS.out; have := HSK.out; omega, by omega, by rw [HN0.out]; exact HV2.out, HB2.out⟩⟩
          · rw [if_neg hz] at hnx
            have HN0 := Lib.hid hnx
            have hpos : (0 : Int) < ((a + b : Nat) : Int) := by omega
            clear htk hn hn' hnx hln hb ha hb'
            go_upto_region 16 with fail
            go_wp2_with ((with_reducible refine gate_builtin (b := .append) (xs := #[.tmp 52, .tmp 57]) rfl ?_); at_builtin; refine Kd.R_append k42 (w0 := w) (W := wr) w.heap.size rfl (.tmp 52) (.tmp 57) 39 42 (.agg #[(.int .i64 0), (.int .i64 0), (.int .i64 0)]) 24 rfl Try.underlying39 info42 rfl (by decide) (by decide) v3 (sitesK l s) ((s : Int), ((a : Nat) : Int), ((b : Nat) : Int)) [.int .i64 (s : Nat), .int .i64 (a : Nat), .int .i64 (b : Nat)] (fun _ => True) (fun _ => False) rfl rfl (k42_mkM _ _ _ _ _ _) (fun _ hk => hk.elim) (fun _ _ => trivial) HV2.out HB2.out HB2.out.size ?aL ?_; (case aL => have := HLN.out; have := HSK.out; omega); intro v9 w3 hv9 hb9 hg9 hat9; have HV9 := Lib.hid hv9; have HB9 := Lib.hid hb9; clear hv9 hb9 hg9 hat9)
            go_roundg (17 - (s + 1))
            case measure => have := HS.out; omega
            case rel => exact ⟨s + 1, by first | rfl | (rw [HW.out]), ⟨by have := HS.out; have := HSK.out; omega, by omega, by rw [HN0.out]; exact HV9.out, HB9.out⟩⟩
    · have hs1 : ¬ (s : Int) ≤ 16 := by omega
      have hk17 : s = 17 := by have := HS.out; omega
      have hV := HV.out
      rw [hk17] at hV
      have HFIN := Lib.hid (And.intro hV HB.out)
      clear hV hk17
      go_wp2
      go_ret
      exact ⟨_, rfl, HFIN.out.1, HFIN.out.2⟩
set_option maxRecDepth 100000 in
set_option maxHeartbeats 8000000 in
theorem rsites_no (A : Option Addr) (c : Nat) (l : List S46) (w : World) (hC : Kd.C k46 w A l.length l) (hc : l.length ≤ c) (hl : l.length ≤ 20000) (h0 : codeN l ≠ 0) :
    Calls Try.prog 13 #[.slice A l.length c] w fun e w' => e = .returned (.slice none 0 0) ∧ Below w.heap.size w w' := by
  have hMy := rmay_w A c l w hC hc hl
  obtain ⟨z, hz⟩ : ∃ z, codeN l = z := ⟨_, rfl⟩
  have h1 : (z != 0) = true := by rw [bne_iff_ne, ← hz]; exact h0
  rw [hz] at hMy
  obtain ⟨n, hn⟩ : ∃ n, l.length = n := ⟨_, rfl⟩
  rw [hn] at hMy ⊢
  clear hC hc hl h0 hz hn
  go_enter Try.func13, Try.ntmps13
  go_wp2_with (go_at_call 11; refine hMy.mono ?_; rintro e w1 ⟨rfl, hb⟩)
  go_ret
  exact ⟨rfl, hb⟩
theorem rsites_w (A : Option Addr) (c : Nat) (l : List S46) (w : World) (hC : Kd.C k46 w A l.length l) (hc : l.length ≤ c) (hl : l.length ≤ 20000) :
    Calls Try.prog 13 #[.slice A l.length c] w fun e w' => ∃ v, e = .returned v ∧ Kd.R k42 42 w' w.heap.size (fun _ => True) v (sitesT l) ∧ Below w.heap.size w w' := by
  unfold sitesT
  by_cases h0 : codeN l = 0
  · rw [if_pos h0]
    exact rsites_yes A c l w hC hc hl h0
  · rw [if_neg h0]
    refine (rsites_no A c l w hC hc hl h0).mono ?_
    rintro e w' ⟨rfl, hb⟩
    exact ⟨_, rfl, Kd.R_nil _ _ _ _ _, hb⟩
end Go.Proofs.Ytkglfgikfeebhaa.X
