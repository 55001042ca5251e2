/-
  find's seeker: one rune further (step), by this session. Conditions: as typed.
-/
import Derived.Test.YtabhfloclcmjnaaDoorKmp
import Derived.Test.YtabhfloclcmjnaaDoorExt
import Derived.Deep.LoopGhost
import Derived.Deep.RegionHeld3
import Derived.Deep.QuietTactic
import Derived.Deep.DrawnRows
namespace Go.Proofs.YtabhfloclcmjnaaDoor.X
open Go Go.RowKit Go.Shelf Go.Proofs.YtabhfloclcmjnaaDoorW.PrintWords Go.Proofs.YtabhfloclcmjnaaDoor.Kmp
set_option linter.unusedVariables false
attribute [local go_sem ↓] Go.wp_at_zero Go.wp_at_succ

/-- The seeker's cells, at a count. -/
def skCells (ga gb : Nat) (m cw cb h : Nat) : Array Value := #[.slice (some ⟨ga, 0, none⟩) m cw, .slice (some ⟨gb, 0, none⟩) (m + 1) cb, .int .i64 h]
/-- The rows of a seeker, read. -/
structure SkRows (p bs : List Int) (ga gb : Nat) (g : Nat) (w : World) : Prop where
  what : ∀ i : Nat, i < p.length → w.cell? ⟨ga, i, none⟩ = some (.int .i32 (p.getD i 0))
  back : ∀ i : Nat, i < p.length + 1 → w.cell? ⟨gb, i, none⟩ = some (.int .i64 (bs.getD i 0))
  nw : ga ≠ g
  nb : gb ≠ g
/-- The table of where to fall back. -/
def Falls (p bs : List Int) : Prop := ∀ n : Nat, 1 ≤ n → n ≤ p.length → ∃ b : Nat, bs.getD n 0 = (b : Int) ∧ IsM p (tail p n) b
/-- All but one block stand. -/
structure But (g : Nat) (w w' : World) : Prop where
  below : Below g w w'
  others : ∀ k, k ≠ g → w'.heap[k]? = w.heap[k]?
theorem But.refl (g : Nat) (w : World) : But g w w := ⟨Below.refl _ _, fun _ _ => rfl⟩
theorem But.drew {g : Nat} {w a : World} (h : But g w a) : But g w a.drew := ⟨h.below.drew, h.others⟩
theorem But.set {g i : Nat} {w a : World} (h : But g w a) (v : Value) : But g w (a.setCell ⟨g, i, none⟩ v) :=
  ⟨h.below.setCell (Nat.le_refl _) v, fun k hk => (Below.heap_setCell a ⟨g, i, none⟩ v k hk).trans (h.others k hk)⟩
theorem But.drewN {g : Nat} {w a : World} (h : But g w a) (n : Nat) : But g w (a.drewN n) := ⟨⟨h.below.os, h.below.tape, h.below.output, h.below.size, h.below.block⟩, h.others⟩
theorem But.cell {g : Nat} {w a : World} (h : But g w a) {p : Addr} (hp : p.block ≠ g) : a.cell? p = w.cell? p := World.cell?_of_block (w := w) (h.others p.block hp)
theorem SkRows.but {p bs : List Int} {ga gb g : Nat} {w a : World} (h : SkRows p bs ga gb g w) (b : But g w a) : SkRows p bs ga gb g a :=
  ⟨fun i hi => (b.cell (p := ⟨ga, i, none⟩) h.nw).trans (h.what i hi), fun i hi => (b.cell (p := ⟨gb, i, none⟩) h.nb).trans (h.back i hi), h.nw, h.nb⟩

theorem beq_nat (a b : Nat) : ((a : Int) == (b : Int)) = decide (a = b) := by
  by_cases h : a = b
  · subst h; simp
  · rw [decide_eq_false h, beq_eq_false_iff_ne]; omega

set_option maxRecDepth 100000 in
set_option maxHeartbeats 8000000 in
theorem step_calls (p bs t : List Int) (r : Int) (ga gb : Nat) (g cw cb h m : Nat) (w : World) (hmm : p.length = m) (h0 : 0 < m) (hm : m ≤ 1152921504606846975) (hcw : m ≤ cw) (hcb : m + 1 ≤ cb)
    (hr : SkRows p bs ga gb g w) (hf : Falls p bs) (hg : w.heap[g]? = some (.cells (skCells ga gb m cw cb h) 114 (0, 0))) (hM : IsM p t h) :
    Calls Tryd.prog 54 #[.pointer (some ⟨g, 0, none⟩), .int .i32 r] w fun e w' => ∃ h' : Nat, IsM p (t ++ [r]) h' ∧ e = .returned (.bool (decide (h' = m))) ∧
      w'.heap[g]? = some (.cells (skCells ga gb m cw cb h') 114 (0, 0)) ∧ But g w w' := by
  have hB : But g w w := But.refl g w
  have hc0 : w.cell? ⟨g, 0, none⟩ = some (.slice (some ⟨ga, 0, none⟩) m cw) := (blk_cell hg 0).trans rfl
  have hc1 : w.cell? ⟨g, 1, none⟩ = some (.slice (some ⟨gb, 0, none⟩) (m + 1) cb) := (blk_cell hg 1).trans rfl
  have hc2 : w.cell? ⟨g, 2, none⟩ = some (.int .i64 h) := (blk_cell hg 2).trans rfl
  have hu := Tryd.underlying114
  have HF := Lib.hid hf
  have HM := Lib.hid hM
  have HR := Lib.hid hr
  have HP := Lib.hid hmm
  clear hf hM hr hmm
  go_enter Tryd.func54, Tryd.ntmps54
  go_upto_region 1 with fail
  go_region_held3 (fun w' => w'.cell? ⟨g, 0, none⟩ = some (.slice (some ⟨ga, 0, none⟩) m cw) ∧ w'.cell? ⟨g, 2, none⟩ = some (.int .i64 h)) (go_keep) (fail)
  go_upto_if 14 with fail
  obtain ⟨w1, hw1⟩ : ∃ w1, w.drew = w1 := ⟨_, rfl⟩
  have hB1 : But g w w1 := hw1 ▸ hB.drew
  have hg1 : w1.heap[g]? = some (.cells (skCells ga gb m cw cb h) 114 (0, 0)) := hw1 ▸ hg
  have hc1' : w1.cell? ⟨g, 1, none⟩ = some (.slice (some ⟨gb, 0, none⟩) (m + 1) cb) := (blk_cell hg1 1).trans rfl
  have hc2' : w1.cell? ⟨g, 2, none⟩ = some (.int .i64 h) := (blk_cell hg1 2).trans rfl
  have hfz : w1.frozen? ⟨g, 2, none⟩ = false := blk_frozen hg1 2
  rw [hw1]
  clear hw1 hc0 hc1 hc2
  go_cut [] (fun wc => ∃ h1 : Nat, wc.heap[g]? = some (.cells (skCells ga gb m cw cb h1) 114 (0, 0)) ∧ Aside0 (Try p t r h1) ∧ But g w wc)
  case first =>
    by_cases hh : h = m
    · obtain ⟨b, hb1, hb2⟩ := HF.out p.length (by rw [HP.out]; omega) (Nat.le_refl _)
      have hd : w1.cell? ⟨gb, m, none⟩ = some (.int .i64 b) := by rw [(HR.out.but hB1).back m (by rw [HP.out]; omega), ← HP.out, hb1]
      have hq : ((h : Int) == (m : Int)) = true := by simp [hh]
      have hi0 : (0 : Int) ≤ (h : Int) := by omega
      have hi1 : (h : Int) < (m + 1 : Int) := by omega
      rw [← hh] at hd
      have HH := Lib.hid hh
      have HB := Lib.hid hb2
      clear hh hb1 hb2
      go_upto_region 2 with fail
      go_region
      all_goals go_wp2
      go_meet
      case rel =>
        have e := HH.out
        have hpl := HP.out
        subst e
        exact ⟨b, blk_drew (blk_put hg1 2 _ rfl), ⟨(show IsM p t p.length from by rw [hpl]; exact HM.out).full (by omega) HB.out r⟩, (hB1.set _).drew⟩
    · have hlt : h < m := by
        have h1 := HM.out.1
        rw [HP.out] at h1
        omega
      have HT := Lib.hid (show Try p t r h from HM.out.start (by rw [HP.out]; exact hlt) r)
      have hq : ((h : Int) == (m : Int)) = false := by rw [beq_eq_false_iff_ne]; omega
      go_wp2
      all_goals go_meet
      case rel => exact ⟨h, hg1, ⟨HT.out⟩, hB1⟩
  case rest =>
    clear hc1' hc2' hfz hg1 hB1 hB hg
    obtain ⟨h1, hg1, HT1, hB1⟩ := hcut
    go_wp2
    go_loopg [] h1 (fun k wr => wr.heap[g]? = some (.cells (skCells ga gb m cw cb k) 114 (0, 0)) ∧ Aside0 (Try p t r k) ∧ But g w wr)
    case atStart => exact ⟨hg1, HT1, hB1⟩
    case round =>
      obtain ⟨hg2, HT2, hB2⟩ := hrel
      have hlt : gk < m := by
        have h1 := HT2.out.lt
        rw [HP.out] at h1
        exact h1
      have hc0 : wr.cell? ⟨g, 0, none⟩ = some (.slice (some ⟨ga, 0, none⟩) m cw) := (blk_cell hg2 0).trans rfl
      have hc1 : wr.cell? ⟨g, 1, none⟩ = some (.slice (some ⟨gb, 0, none⟩) (m + 1) cb) := (blk_cell hg2 1).trans rfl
      have hc2 : wr.cell? ⟨g, 2, none⟩ = some (.int .i64 gk) := (blk_cell hg2 2).trans rfl
      have hfz : wr.frozen? ⟨g, 2, none⟩ = false := blk_frozen hg2 2
      have hw : wr.cell? ⟨ga, gk, none⟩ = some (.int .i32 (p.getD gk 0)) := (HR.out.but hB2).what gk (by rw [HP.out]; exact hlt)
      obtain ⟨q, hq⟩ : ∃ q, p.getD gk 0 = q := ⟨_, rfl⟩
      rw [hq] at hw
      have HQ := Lib.hid hq
      clear hq
      have hi0 : (0 : Int) ≤ (gk : Int) := by omega
      have hi1 : (gk : Int) < (m : Int) := by omega
      have hi2 : (gk : Int) < (m + 1 : Int) := by omega
      have hi3 : ¬ (m : Int) ≤ (gk : Int) := by omega
      have hwr : wrap64 ((gk : Int) + 1) = ((gk + 1 : Nat) : Int) := by unfold wrap64; omega
      clear h0 hm hlt
      go_upto_region 3 with fail
      by_cases hz : gk = 0
      · have hd : decide ((0 : Int) < (gk : Int)) = false := by simp [hz]
        have hd2 : decide (0 < gk) = false := by simp [hz]
        have hd3 : ¬ 0 < gk := by omega
        have HZ := Lib.hid hz
        clear hz
        go_quiet (fail)
        obtain ⟨wa, hwa⟩ : ∃ wa, wr.drewN nq = wa := ⟨_, rfl⟩
        have hga : wa.heap[g]? = some (.cells (skCells ga gb m cw cb gk) 114 (0, 0)) := hwa ▸ blk_drewN hg2 nq
        have hBa : But g w wa := hwa ▸ hB2.drewN nq
        have ha0 : wa.cell? ⟨g, 0, none⟩ = some (.slice (some ⟨ga, 0, none⟩) m cw) := (blk_cell hga 0).trans rfl
        have ha1 : wa.cell? ⟨g, 1, none⟩ = some (.slice (some ⟨gb, 0, none⟩) (m + 1) cb) := (blk_cell hga 1).trans rfl
        have ha2 : wa.cell? ⟨g, 2, none⟩ = some (.int .i64 gk) := (blk_cell hga 2).trans rfl
        have haz : wa.frozen? ⟨g, 2, none⟩ = false := blk_frozen hga 2
        have haw : wa.cell? ⟨ga, gk, none⟩ = some (.int .i32 q) := hwa ▸ hw
        rw [hwa]
        clear hg2 hc0 hc1 hc2 hfz hw hwa hB2
        by_cases hqr : q = r
        · have hqe : (q == r) = true := beq_iff_eq.2 hqr
          have HE := Lib.hid hqr
          clear hqr
          go_upto_region 5 with fail
          go_quiet (fail)
          go_upto_region 7 with fail
          rw [show ((gk : Int) + 1) = ((gk + 1 : Nat) : Int) by omega]
          obtain ⟨wz, hwz⟩ : ∃ wz, (wa.drewN nq).setCell ⟨g, 2, none⟩ (.int .i64 ((gk + 1 : Nat) : Int)) = wz := ⟨_, rfl⟩
          have hgz : wz.heap[g]? = some (.cells (skCells ga gb m cw cb (gk + 1)) 114 (0, 0)) := hwz ▸ blk_put (blk_drewN hga nq) 2 _ rfl
          have hBz : But g w wz := hwz ▸ (hBa.drewN nq).set _
          rw [hwz]
          obtain ⟨k1, hk1⟩ : ∃ k1, gk + 1 = k1 := ⟨_, rfl⟩
          have HK := Lib.hid hk1
          rw [hk1] at hgz ⊢
          have hz0 : wz.cell? ⟨g, 0, none⟩ = some (.slice (some ⟨ga, 0, none⟩) m cw) := (blk_cell hgz 0).trans rfl
          have hz2 : wz.cell? ⟨g, 2, none⟩ = some (.int .i64 k1) := (blk_cell hgz 2).trans rfl
          clear hga hBa ha0 ha1 ha2 haz haw hwz hk1 hwr
          go_quiet (fail)
          go_wp2
          go_ret
          exact ⟨k1, by rw [← HK.out]; exact HT2.out.hit (HQ.out.trans HE.out), (by rw [beq_nat]; rfl), blk_drewN hgz nq, hBz.drewN nq⟩
        · have hqe : (q == r) = false := beq_eq_false_iff_ne.2 hqr
          have HE := Lib.hid hqr
          clear hqr
          go_upto_region 5 with fail
          go_quiet (fail)
          go_upto_region 7 with fail
          obtain ⟨wz, hwz⟩ : ∃ wz, wa.drewN nq = wz := ⟨_, rfl⟩
          have hgz : wz.heap[g]? = some (.cells (skCells ga gb m cw cb gk) 114 (0, 0)) := hwz ▸ blk_drewN hga nq
          have hBz : But g w wz := hwz ▸ hBa.drewN nq
          rw [hwz]
          have hz0 : wz.cell? ⟨g, 0, none⟩ = some (.slice (some ⟨ga, 0, none⟩) m cw) := (blk_cell hgz 0).trans rfl
          have hz2 : wz.cell? ⟨g, 2, none⟩ = some (.int .i64 gk) := (blk_cell hgz 2).trans rfl
          clear hga hBa ha0 ha1 ha2 haz haw hwz hwr
          go_quiet (fail)
          go_wp2
          go_ret
          exact ⟨gk, by
            have e := HZ.out
            have h1 := HT2.out
            have h2 := HQ.out
            have h3 := HE.out
            subst e
            exact h1.none (fun h4 => h3 (h2.symm.trans h4)), (by rw [beq_nat]; rfl), blk_drewN hgz nq, hBz.drewN nq⟩
      · have hd : decide ((0 : Int) < (gk : Int)) = true := by simp; omega
        have hd2 : decide (0 < gk) = true := by simp; omega
        have hd3 : 0 < gk := by omega
        clear hz
        by_cases hqr : q = r
        · have hqe : (q == r) = true := beq_iff_eq.2 hqr
          have hqn : (q != r) = false := bne_eq_false_iff_eq.2 hqr
          have HE := Lib.hid hqr
          clear hqr
          go_quiet (fail)
          obtain ⟨wa, hwa⟩ : ∃ wa, wr.drewN nq = wa := ⟨_, rfl⟩
          have hga : wa.heap[g]? = some (.cells (skCells ga gb m cw cb gk) 114 (0, 0)) := hwa ▸ blk_drewN hg2 nq
          have hBa : But g w wa := hwa ▸ hB2.drewN nq
          have ha0 : wa.cell? ⟨g, 0, none⟩ = some (.slice (some ⟨ga, 0, none⟩) m cw) := (blk_cell hga 0).trans rfl
          have ha1 : wa.cell? ⟨g, 1, none⟩ = some (.slice (some ⟨gb, 0, none⟩) (m + 1) cb) := (blk_cell hga 1).trans rfl
          have ha2 : wa.cell? ⟨g, 2, none⟩ = some (.int .i64 gk) := (blk_cell hga 2).trans rfl
          have haz : wa.frozen? ⟨g, 2, none⟩ = false := blk_frozen hga 2
          have haw : wa.cell? ⟨ga, gk, none⟩ = some (.int .i32 q) := hwa ▸ hw
          rw [hwa]
          clear hg2 hc0 hc1 hc2 hfz hw hwa hB2
          go_upto_region 5 with fail
          go_quiet (fail)
          go_upto_region 7 with fail
          rw [show ((gk : Int) + 1) = ((gk + 1 : Nat) : Int) by omega]
          obtain ⟨wz, hwz⟩ : ∃ wz, (wa.drewN nq).setCell ⟨g, 2, none⟩ (.int .i64 ((gk + 1 : Nat) : Int)) = wz := ⟨_, rfl⟩
          have hgz : wz.heap[g]? = some (.cells (skCells ga gb m cw cb (gk + 1)) 114 (0, 0)) := hwz ▸ blk_put (blk_drewN hga nq) 2 _ rfl
          have hBz : But g w wz := hwz ▸ (hBa.drewN nq).set _
          rw [hwz]
          obtain ⟨k1, hk1⟩ : ∃ k1, gk + 1 = k1 := ⟨_, rfl⟩
          have HK := Lib.hid hk1
          rw [hk1] at hgz ⊢
          have hz0 : wz.cell? ⟨g, 0, none⟩ = some (.slice (some ⟨ga, 0, none⟩) m cw) := (blk_cell hgz 0).trans rfl
          have hz2 : wz.cell? ⟨g, 2, none⟩ = some (.int .i64 k1) := (blk_cell hgz 2).trans rfl
          clear hga hBa ha0 ha1 ha2 haz haw hwz hk1 hwr
          go_quiet (fail)
          go_wp2
          go_ret
          exact ⟨k1, by rw [← HK.out]; exact HT2.out.hit (HQ.out.trans HE.out), (by rw [beq_nat]; rfl), blk_drewN hgz nq, hBz.drewN nq⟩
        · have hqe : (q == r) = false := beq_eq_false_iff_ne.2 hqr
          have hqn : (q != r) = true := bne_iff_ne.2 hqr
          have HE := Lib.hid hqr
          clear hqr
          go_quiet (fail)
          obtain ⟨wa, hwa⟩ : ∃ wa, wr.drewN nq = wa := ⟨_, rfl⟩
          have hga : wa.heap[g]? = some (.cells (skCells ga gb m cw cb gk) 114 (0, 0)) := hwa ▸ blk_drewN hg2 nq
          have hBa : But g w wa := hwa ▸ hB2.drewN nq
          have ha0 : wa.cell? ⟨g, 0, none⟩ = some (.slice (some ⟨ga, 0, none⟩) m cw) := (blk_cell hga 0).trans rfl
          have ha1 : wa.cell? ⟨g, 1, none⟩ = some (.slice (some ⟨gb, 0, none⟩) (m + 1) cb) := (blk_cell hga 1).trans rfl
          have ha2 : wa.cell? ⟨g, 2, none⟩ = some (.int .i64 gk) := (blk_cell hga 2).trans rfl
          have haz : wa.frozen? ⟨g, 2, none⟩ = false := blk_frozen hga 2
          have haw : wa.cell? ⟨ga, gk, none⟩ = some (.int .i32 q) := hwa ▸ hw
          rw [hwa]
          clear hg2 hc0 hc1 hc2 hfz hw hwa hB2
          have hgl : gk ≤ p.length := Nat.le_of_lt HT2.out.lt
          obtain ⟨b, hb1, hb2⟩ := HF.out gk (by omega) hgl
          have hd : wa.cell? ⟨gb, gk, none⟩ = some (.int .i64 b) := by rw [(HR.out.but hBa).back gk (by omega), hb1]
          have HB := Lib.hid hb2
          clear hb1 hb2 hgl
          go_upto_region 4 with fail
          go_region
          all_goals go_wp2
          go_roundg b
          case measure => exact (HT2.out.back hd3 (fun h4 => HE.out (HQ.out.symm.trans h4)) HB.out).2
          case rel => exact ⟨blk_drew (blk_put hga 2 _ rfl), ⟨(HT2.out.back hd3 (fun h4 => HE.out (HQ.out.symm.trans h4)) HB.out).1⟩, (hBa.set _).drew⟩
end Go.Proofs.YtabhfloclcmjnaaDoor.X
