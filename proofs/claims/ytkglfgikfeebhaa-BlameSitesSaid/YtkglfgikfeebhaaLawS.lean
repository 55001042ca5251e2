/-
  The statement BlameSites, walked by hand: it is true of every input: by this session. Conditions: as typed.
-/
import Derived.Test.YtkglfgikfeebhaaOwnQ
import Derived.Test.YtkglfgikfeebhaaAlive
import Derived.Test.YtkglfgikfeebhaaRSites
namespace Go.Proofs.Ytkglfgikfeebhaa.X
open Go Go.RowKit Go.Shelf Go.Lib Go.Proofs.YtkglfgikfeebhaaW.PrintLast Go.Proofs.YtkglfgikfeebhaaW.PrintWords Go.Proofs.Ytkglfgikfeebhaa.P
set_option linter.unusedVariables false
theorem sitesT_len (l : List S46) : (sitesT l).length ≤ 17 := by
  unfold sitesT
  split
  · exact sitesK_length l 17
  · exact Nat.zero_le _
set_option maxRecDepth 100000 in
set_option maxHeartbeats 16000000 in
theorem bsites_big (A : Option Addr) (c n : Nat) (i : Int) (w : World) (hn : 250 < n) :
    Calls Try.prog 4 #[.slice A n c, .int .i64 i] w fun e w' => e = .returned (.bool true) ∧ Below w.heap.size w w' := by
  have hA := alive_w w
  have hn1 : (250 : Int) < (n : Int) := by omega
  go_enter Try.func4, Try.ntmps4
  go_wp2_with (go_at_call 6; refine hA.mono ?_; rintro e w1 ⟨rfl, hb1⟩; clear hA)
  go_ret
  exact ⟨rfl, hb1⟩
set_option maxRecDepth 100000 in
set_option maxHeartbeats 16000000 in
theorem bsites_small (A : Option Addr) (c : Nat) (l : List S46) (i : Int) (w : World) (hC : Kd.C k46 w A l.length l) (hc : l.length ≤ c) (hl : l.length ≤ 250) :
    Calls Try.prog 4 #[.slice A l.length c, .int .i64 i] w fun e w' => e = .returned (.bool true) ∧ Below w.heap.size w w' := by
  have hA := alive_w w
  obtain ⟨K2, hof2⟩ := own_r_f l (by omega) i
  have hS := fun w' (hb : Below w.heap.size w w') => sites_w A c l w' (Kd.C_below hC hb) hc (by omega)
  have hR := fun w' (hb : Below w.heap.size w w') => rsites_w A c l w' (Kd.C_below hC hb) hc (by omega)
  have hO := fun w' (hb : Below w.heap.size w w') => blame_Own.calls _ A c l i _ w' (Kd.C_below hC hb) hc (own_b_f l (by omega) i 0)
  have hP := fun w' (hb : Below w.heap.size w w') => foolscapref30_Own.calls K2 A c l i _ w' (Kd.C_below hC hb) hc (hof2 K2 (Nat.le_refl _))
  obtain ⟨s, hs⟩ : ∃ s, ownT l i = s := ⟨_, rfl⟩
  rw [hs] at hO hP
  have HSL := Lib.hid (sitesT_len l)
  obtain ⟨T, hTe⟩ : ∃ T, sitesT l = T := ⟨_, rfl⟩
  rw [hTe] at hS hR HSL
  obtain ⟨m, hm⟩ : ∃ m, l.length = m := ⟨_, rfl⟩
  rw [hm] at hS hR hO hP hl ⊢
  have hl1 : ¬ (250 : Int) < (m : Int) := by omega
  clear hC hc hof2 hs hTe hm hl
  go_enter Try.func4, Try.ntmps4
  go_upto_region 6 with (first
    | (go_at_call 6; refine hA.mono ?_; rintro e w1 ⟨rfl, hb1⟩; have HB1 := Lib.hid hb1; clear hA hb1)
    | (go_at_call 12; refine (hS _ HB1.out).mono ?_; rintro e w2 ⟨vp, rfl, hvp, hb2⟩; have HVP := Lib.hid hvp; have HB2 := Lib.hid (below_step HB1.out hb2); clear hvp hb2 hS)
    | (go_at_call 13; refine (hR _ HB2.out).mono ?_; rintro e w3 ⟨vq, rfl, hvq, hb3⟩; have HVQ := Lib.hid hvq; have HB3 := Lib.hid (below_step HB2.out hb3); have HVP3 := Lib.hid (Kd.R_below HVP.out hb3); clear hvq hb3 hR HVP))
  obtain ⟨AP, cP, rfl, hcP, hCP⟩ := Kd.R_reads HVP3.out
  obtain ⟨AQ, cQ, rfl, hcQ, hCQ⟩ := Kd.R_reads HVQ.out
  obtain ⟨n, hn⟩ : ∃ n, T.length = n := ⟨_, rfl⟩
  have HCP := Lib.hid hCP
  have HCQ := Lib.hid hCQ
  have HN := Lib.hid hn
  rw [hn] at hcP hcQ ⊢
  have hn1 : n ≤ 17 := by rw [← hn]; exact HSL.out
  clear hCP hCQ hn hcP hcQ HVP3 HVQ
  go_upto_region 8 with (first
    | (go_at_call 14; refine (hO _ HB3.out).mono ?_; rintro e w4 ⟨rfl, hb4⟩; have HB4 := Lib.hid hb4; clear hO hb4)
    | (go_at_call 15; refine (hP _ (below_step HB3.out HB4.out)).mono ?_; rintro e w5 ⟨rfl, hb5⟩; have HB5 := Lib.hid (below_step HB4.out hb5); clear hP hb5))
  go_wp2
  go_loopg [7] n (fun q u7 wr => ∃ k : Nat, u7 = .int .i64 (k : Nat) ∧ Aside0 (k + q = n ∧ Below w3.heap.size w3 wr))
  case atStart => exact ⟨0, rfl, ⟨by omega, HB5.out⟩⟩
  case round =>
    obtain ⟨k, rfl, HR⟩ := hrel
    have HI := Lib.hid HR.out.1
    have hb := HR.out.2
    clear HR
    by_cases hik : k < n
    · have hi0 : (0 : Int) ≤ (k : Int) := by omega
      have hi1 : (k : Int) < (n : Int) := by omega
      obtain ⟨ap, cc, e0, hcl, hK, hcc⟩ := Kd.C_get (Kd.C_below HCP.out hb) ((0, 0, 0) : Int × Int × Int) (k : Int) hi0 (by rw [HN.out]; exact hi1)
      cases e0
      obtain ⟨aq, cq, e0, hcl2, hK2, hcc2⟩ := Kd.C_get (Kd.C_below HCQ.out hb) ((0, 0, 0) : Int × Int × Int) (k : Int) hi0 (by rw [HN.out]; exact hi1)
      cases e0
      obtain ⟨⟨y1, y2, y3⟩, hy⟩ : ∃ x, T.getD (k : Int).toNat (0, 0, 0) = x := ⟨_, rfl⟩
      rw [hy] at hK hK2
      obtain rfl := k42_open hK
      obtain rfl := k42_open hK2
      have z0 := hcc 0 _ rfl
      have z1 := hcc 1 _ rfl
      have z2 := hcc 2 _ rfl
      have q0 := hcc2 0 _ rfl
      have q1 := hcc2 1 _ rfl
      have q2 := hcc2 2 _ rfl
      rw [Int.toNat_natCast, show k42.sz = 3 from rfl] at z0 z1 z2 q0 q1 q2
      have ha : ∀ (ad : Addr) (j : Nat), 0 < j → ad.add (k * 3 + j) = ⟨(ad.add (k * 3)).block, (ad.add (k * 3)).off + j, none⟩ := fun ad j hj => add_field ad (k * 3) j hj
      rw [Nat.add_zero] at z0 q0
      rw [ha ap 1 (by omega)] at z1
      rw [ha ap 2 (by omega)] at z2
      rw [ha aq 1 (by omega)] at q1
      rw [ha aq 2 (by omega)] at q2
      obtain ⟨bp, hbp⟩ : ∃ x, ap.add (k * 3) = x := ⟨_, rfl⟩
      obtain ⟨bq, hbq⟩ : ∃ x, aq.add (k * 3) = x := ⟨_, rfl⟩
      rw [hbp] at z0 z1 z2
      rw [hbq] at q0 q1 q2
      have hE3 := fun w' => eqA3 y1 y2 y3 y1 y2 y3 w'
      simp only [beq_self_eq_true, Bool.and_self] at hE3
      have HB := Lib.hid hb
      have HW := Lib.hid (w_s k (by omega))
      clear hcc hcc2 hcl hcl2 hK hK2 hy hb ha
      go_upto_region 11 with fail
      go_region
      clear z0 z1 z2 q0 q1 q2 hE3
      go_wp2
      go_roundg (n - (k + 1))
      case measure => have := HI.out; omega
      case rel => exact ⟨k + 1, by first | rfl | (rw [HW.out]), ⟨by have := HI.out; omega, below_drew HB.out⟩⟩
    · have hi1 : ¬ (k : Int) < (n : Int) := by omega
      have HFIN := Lib.hid (below_step HB3.out hb)
      clear hb
      go_wp2
      go_ret
      exact ⟨rfl, HFIN.out⟩
/-- For the row. -/
theorem bsites_true (A : Option Addr) (n c : Nat) (l : List S46) (i : Int) (W : World) (hT : Aside0 True) (h : l.length = n ∧ n ≤ c ∧ Kd.C k46 W A l.length l) :
    Calls Try.prog 4 #[.slice A n c, .int .i64 i] W fun e w' => e = .returned (.bool true) ∧ Below W.heap.size W w' := by
  obtain ⟨rfl, h1, h2⟩ := h
  by_cases hl : l.length ≤ 250
  · exact bsites_small A c l i W h2 h1 hl
  · exact bsites_big A c l.length i W (by omega)
end Go.Proofs.Ytkglfgikfeebhaa.X
