/-
  find's seeker: how it is made, by this session. Conditions: as typed.
-/
import Derived.Test.YtabhfloclcmjnaaDoorSeek
namespace Go.Proofs.YtabhfloclcmjnaaDoor.X
open Go Go.RowKit Go.Shelf Go.Proofs.YtabhfloclcmjnaaDoorW.PrintWords Go.Proofs.YtabhfloclcmjnaaDoor.Kmp
set_option linter.unusedVariables false
attribute [local go_sem ↓] Go.wp_at_zero Go.wp_at_succ

theorem info_int : (Tryd.prog.info? 3).map (fun i => (i.zero, i.size, i.bytes)) = some (some (.int .i64 0), 1, 8) := by kernel_rfl
/-- The cells of a row of whole numbers. -/
theorem R_cells {k : IntKind} {e base g cap n : Nat} {ok : Nat → Prop} {W : World} {xs : List Int} (h : Kd.R (Kd.int k) e W base ok (.slice (some ⟨g, 0, none⟩) n cap) xs) (i : Nat) (hi : i < xs.length) :
    W.cell? ⟨g, i, none⟩ = some (.int k (xs.getD i 0)) := by
  obtain ⟨rfl, _, hc⟩ := Kd.R_reads' h
  obtain ⟨ad, c, ha, _, hk, hcell⟩ := Kd.C_get hc 0 (i : Int) (by omega) (by omega)
  obtain rfl := Option.some.inj ha
  have hk2 : c = [.int k (xs.getD i 0)] := by rw [Int.toNat_natCast] at hk; exact hk
  have h3 := hcell 0 (.int k (xs.getD i 0)) (by rw [hk2]; rfl)
  have e1 : (Kd.int k).sz = 1 := rfl
  rw [e1] at h3
  rw [Int.toNat_natCast, Nat.mul_one, Nat.add_zero] at h3
  have e2 : (Addr.add ⟨g, 0, none⟩ i) = ⟨g, i, none⟩ := by
    unfold Addr.add
    split
    · rename_i h; subst h; rfl
    · simp
  rwa [e2] at h3

theorem R_frozen {k : IntKind} {e base g cap n : Nat} {ok : Nat → Prop} {W : World} {xs : List Int} (h : Kd.R (Kd.int k) e W base ok (.slice (some ⟨g, 0, none⟩) n cap) xs) (hn : 0 < xs.length) (i : Nat) :
    W.frozen? ⟨g, i, none⟩ = false := by
  obtain ⟨g', c', he, _, _, cl, hcl⟩ := Kd.R_form h hn
  injection he with e1
  injection e1 with e2
  injection e2 with e3
  subst e3
  exact blk_frozen hcl i
/-- Up to a count the table is laid. -/
def FallsTo (p bs : List Int) (i : Nat) : Prop := ∀ n : Nat, 1 ≤ n → n ≤ i → ∃ b : Nat, bs.getD n 0 = (b : Int) ∧ IsM p (tail p n) b
theorem FallsTo.set {p bs : List Int} {i k : Nat} (h : FallsTo p bs i) (hi : i + 1 < bs.length) (hk : IsM p (tail p (i + 1)) k) : FallsTo p (bs.set (i + 1) (k : Int)) (i + 1) := by
  intro n h1 h2
  by_cases he : n = i + 1
  · subst he
    exact ⟨k, by rw [List.getD_eq_getElem?_getD, List.getElem?_set_self hi]; rfl, hk⟩
  · obtain ⟨b, hb, hm⟩ := h n h1 (by omega)
    exact ⟨b, by rw [List.getD_eq_getElem?_getD, List.getElem?_set_ne (by omega), ← List.getD_eq_getElem?_getD]; exact hb, hm⟩

set_option maxRecDepth 100000 in
set_option maxHeartbeats 8000000 in
theorem newSeeker_calls (p : List Int) (ga c0 m : Nat) (w : World) (hmm : p.length = m) (h0 : 0 < m) (hm : m ≤ 35184372088831)
    (hw : ∀ i : Nat, i < m → w.cell? ⟨ga, i, none⟩ = some (.int .i32 (p.getD i 0))) (hga : ga < w.heap.size) :
    Calls Tryd.prog 53 #[.slice (some ⟨ga, 0, none⟩) m c0] w fun e w' => ∃ (g gb cb : Nat) (bs : List Int), e = .returned (.pointer (some ⟨g, 0, none⟩)) ∧
      w'.heap[g]? = some (.cells (skCells ga gb m c0 cb 0) 114 (0, 0)) ∧ SkRows p bs ga gb g w' ∧ Falls p bs ∧ m + 1 ≤ cb ∧ w.heap.size ≤ g ∧ Below w.heap.size w w' := by
  have HP := Lib.hid hmm
  have HW := Lib.hid hw
  have hwr : wrap64 ((m : Int) + 1) = ((m + 1 : Nat) : Int) := by unfold wrap64; omega
  clear hmm hw
  go_enter Tryd.func53, Tryd.ntmps53
  go_upto_region 2 with (refine Kd.R_make (Kd.int .i64) (w0 := w) w.heap.size 3 rfl (N := 10) rfl 23 _ _ rfl ((m + 1 : Nat) : Int) rfl rfl Tryd.underlying23 (.int .i64 0) 8 info_int rfl (by decide) (by omega) 0 (ok := fun _ => True) (okp := fun _ => True) rfl (fun _ h => h) trivial (by omega) (by simp; omega) (Below.refl _ _) (Nat.le_refl _) ?_; intro v w2 ho hb2 hg2 hn2; obtain ⟨gb, cb, rfl, hgb1, hgb2, cl, hcl⟩ := Kd.R_form ho (by simp); simp only [List.length_replicate, Int.toNat_natCast] at ho ⊢)
  clear hwr hcl hg2 hn2
  generalize hw3 : w2.alloc (.cells #[.slice (some ⟨ga, 0, none⟩) m c0, .slice (some ⟨gb, 0, none⟩) (m + 1) cb, .int .i64 0] 114) = w3
  obtain ⟨g, hgg⟩ : ∃ g, w2.heap.size = g := ⟨_, rfl⟩
  have hg3 : w3.heap[g]? = some (.cells (skCells ga gb m c0 cb 0) 114 (0, 0)) := by rw [← hw3, ← hgg]; exact blk_new _ _
  have ho3 : Kd.R (Kd.int .i64) 3 w3 w.heap.size (fun _ => True) (.slice (some ⟨gb, 0, none⟩) (m + 1) cb) (List.replicate (m + 1) 0) := by rw [← hw3]; exact Kd.R_alloc ho _
  have hb3 : Below w.heap.size w w3 := by rw [← hw3]; exact hb2.alloc hb2.size _
  have hgw : w.heap.size ≤ g := by rw [← hgg]; exact hb2.size
  have hcb : m + 1 ≤ cb := (Kd.R_reads' ho3).2.1
  have hgl : gb ≠ g := by omega
  rw [hgg]
  clear hw3 hgg ho hb2
  have HB := Lib.hid hcb
  clear hcb
  go_wp2
  go_loopg [4, 5] (m - 1) (fun n u4 u5 wr => ∃ (i k : Nat) (bs : List Int), u4 = .int .i64 k ∧ u5 = .int .i64 i ∧ Aside0 (1 ≤ i ∧ i + n = m ∧ IsM p (tail p i) k ∧ FallsTo p bs i) ∧
    wr.heap[g]? = some (.cells (skCells ga gb m c0 cb 0) 114 (0, 0)) ∧ Aside0 (Kd.R (Kd.int .i64) 3 wr w.heap.size (fun _ => True) (.slice (some ⟨gb, 0, none⟩) (m + 1) cb) bs) ∧ Aside0 (Below w.heap.size w wr))
  case atStart =>
    refine ⟨1, 0, _, rfl, rfl, ⟨by omega, by omega, isM_one, fun n h1 h2 => ?_⟩, hg3, ⟨ho3⟩, ⟨hb3⟩⟩
    obtain rfl : n = 1 := by omega
    exact ⟨0, by simp [List.getD_eq_getElem?_getD, h0], isM_one⟩
  case round =>
    obtain ⟨i, k, bs, rfl, rfl, HI, hgr, HO, HBl⟩ := hrel
    clear hg3 ho3 hb3
    by_cases him : i < m
    · have hd : decide ((i : Int) < (m : Int)) = true := by simp; omega
      have hd2 : decide (i < m) = true := by simp; omega
      have hi0 : (0 : Int) ≤ (i : Int) := by omega
      have hi1 : (i : Int) < (m : Int) := by omega
      have hcw : ∀ j : Nat, j < m → wr.cell? ⟨ga, j, none⟩ = some (.int .i32 (p.getD j 0)) := fun j hj => (HBl.out.cell (p := ⟨ga, j, none⟩) hga).trans (HW.out j hj)
      have hci := hcw i him
      obtain ⟨q, hq⟩ : ∃ q, p.getD i 0 = q := ⟨_, rfl⟩
      rw [hq] at hci
      have HQ := Lib.hid hq
      have HC := Lib.hid hcw
      clear hq hcw
      have HT : Aside0 (Try p (tail p i) q k) := ⟨by
        obtain ⟨h1, h2, h3, _⟩ := HI.out
        exact h3.start (by have := isM_tail_lt h1 (by rw [HP.out]; omega) h3; rw [HP.out]; omega) q⟩
      obtain ⟨no, rfl⟩ : ∃ x, x = gk := ⟨_, rfl⟩
      obtain ⟨wo, rfl⟩ : ∃ x, x = wr := ⟨_, rfl⟩
      go_wp2
      go_loopg [4] k (fun n u4 wr' => u4 = .int .i64 n ∧ Aside0 (Try p (tail p i) q n) ∧ ∃ nd, wr' = wo.drewN nd)
      case atStart => exact ⟨rfl, HT, 0, rfl⟩
      case round =>
        obtain ⟨rfl, HT2, nd, rfl⟩ := hrel
        have hgm : gk < m := by
          have := HT2.out.lt
          rw [HP.out] at this
          exact this
        have hxw := HC.out gk hgm
        obtain ⟨x, hx⟩ : ∃ x, p.getD gk 0 = x := ⟨_, rfl⟩
        rw [hx] at hxw
        have HX := Lib.hid hx
        clear hx
        have hj0 : (0 : Int) ≤ (gk : Int) := by omega
        have hj1 : (gk : Int) < (m : Int) := by omega
        have hwk : wrap64 ((gk : Int) + 1) = ((gk + 1 : Nat) : Int) := by unfold wrap64; omega
        have hwi : wrap64 ((i : Int) + 1) = ((i + 1 : Nat) : Int) := by unfold wrap64; omega
        clear hgm h0 hm him
        go_upto_region 6 with fail
        by_cases hz : gk = 0
        · have hd : decide ((0 : Int) < (gk : Int)) = false := by simp [hz]
          have hd2 : decide (0 < gk) = false := by simp [hz]
          have hd3 : ¬ 0 < gk := by omega
          have HZ := Lib.hid hz
          clear hz
          go_quiet (fail)
          go_upto_region 8 with fail
          by_cases hqr : x = q
          · have hqe : (x == q) = true := beq_iff_eq.2 hqr
            have HE := Lib.hid hqr
            clear hqr
            go_quiet (fail)
            go_upto_region 10 with fail
            generalize hwz : World.drewN _ _ = wz
            have hgz : wz.heap[g]? = some (.cells (skCells ga gb m c0 cb 0) 114 (0, 0)) := by rw [← hwz]; exact hgr
            have hoz : Kd.R (Kd.int .i64) 3 wz w.heap.size (fun _ => True) (.slice (some ⟨gb, 0, none⟩) (m + 1) cb) bs := by rw [← hwz]; exact HO.out
            have hbz : Below w.heap.size w wz := by rw [← hwz]; (repeat apply pw_below_drewN); exact HBl.out
            have hbl : m + 1 = bs.length := (Kd.R_reads' hoz).1
            have him1 : i + 1 < m + 1 := by have := HI.out.2.1; omega
            have hcz := R_cells hoz (i + 1) (by omega)
            have hfz : wz.frozen? ⟨gb, i + 1, none⟩ = false := R_frozen hoz (by omega) (i + 1)
            have hc1 : wz.cell? ⟨g, 1, none⟩ = some (.slice (some ⟨gb, 0, none⟩) (m + 1) cb) := (blk_cell hgz 1).trans rfl
            generalize bs.getD (i + 1) 0 = old at hcz
            have hj2 : (0 : Int) ≤ (i : Int) + 1 := by omega
            have hj3 : (i : Int) + 1 < (m : Int) + 1 := by omega
            have HOz := Lib.hid hoz
            have HBz := Lib.hid hbz
            clear hwz hgr HO HBl hoz hbz hbl him1 hci hxw
            go_wp2
            go_roundg (no - 1)
            case measure => have := HI.out.2.1; have h9 : i < m := by omega
                            omega
            case rel =>
              obtain ⟨hi1, hi2, hI, hF⟩ := HI.out
              have hbl : m + 1 = bs.length := (Kd.R_reads' HOz.out).1
              have hI2 : IsM p (tail p (i + 1)) (gk + 1) := by
                rw [tail_succ hi1 (by rw [HP.out]; omega), HQ.out]
                exact HT2.out.hit (HX.out.trans HE.out)
              refine ⟨i + 1, gk + 1, bs.set (i + 1) ((gk + 1 : Nat) : Int), (by first | rfl | rw [hwk]), (by rw [hwi]), ⟨by omega, by omega, hI2, hF.set (by omega) hI2⟩, (Below.heap_setCell _ ⟨gb, i + 1, none⟩ _ g (Ne.symm hgl)).trans hgz, ⟨?_⟩, ⟨HBz.out.setCell hgb1 _⟩⟩
              have h8 := Kd.R_putn HOz.out ((i + 1 : Nat) : Int) ((gk + 1 : Nat) : Int)
              rwa [Int.toNat_natCast] at h8
          · have hqe : (x == q) = false := beq_eq_false_iff_ne.2 hqr
            have HE := Lib.hid hqr
            clear hqr
            go_quiet (fail)
            go_upto_region 10 with fail
            generalize hwz : World.drewN _ _ = wz
            have hgz : wz.heap[g]? = some (.cells (skCells ga gb m c0 cb 0) 114 (0, 0)) := by rw [← hwz]; exact hgr
            have hoz : Kd.R (Kd.int .i64) 3 wz w.heap.size (fun _ => True) (.slice (some ⟨gb, 0, none⟩) (m + 1) cb) bs := by rw [← hwz]; exact HO.out
            have hbz : Below w.heap.size w wz := by rw [← hwz]; (repeat apply pw_below_drewN); exact HBl.out
            have hbl : m + 1 = bs.length := (Kd.R_reads' hoz).1
            have him1 : i + 1 < m + 1 := by have := HI.out.2.1; omega
            have hcz := R_cells hoz (i + 1) (by omega)
            have hfz : wz.frozen? ⟨gb, i + 1, none⟩ = false := R_frozen hoz (by omega) (i + 1)
            have hc1 : wz.cell? ⟨g, 1, none⟩ = some (.slice (some ⟨gb, 0, none⟩) (m + 1) cb) := (blk_cell hgz 1).trans rfl
            generalize bs.getD (i + 1) 0 = old at hcz
            have hj2 : (0 : Int) ≤ (i : Int) + 1 := by omega
            have hj3 : (i : Int) + 1 < (m : Int) + 1 := by omega
            have HOz := Lib.hid hoz
            have HBz := Lib.hid hbz
            clear hwz hgr HO HBl hoz hbz hbl him1 hci hxw
            go_wp2
            go_roundg (no - 1)
            case measure => have := HI.out.2.1; have h9 : i < m := by omega
                            omega
            case rel =>
              obtain ⟨hi1, hi2, hI, hF⟩ := HI.out
              have hbl : m + 1 = bs.length := (Kd.R_reads' HOz.out).1
              have hI2 : IsM p (tail p (i + 1)) (gk) := by
                rw [tail_succ hi1 (by rw [HP.out]; omega), HQ.out]
                have e := HZ.out
                have h1 := HT2.out
                have h2 := HX.out
                have h3 := HE.out
                subst e
                exact h1.none (fun h4 => h3 (h2.symm.trans h4))
              refine ⟨i + 1, gk, bs.set (i + 1) ((gk : Nat) : Int), (by first | rfl | rw [hwk]), (by rw [hwi]), ⟨by omega, by omega, hI2, hF.set (by omega) hI2⟩, (Below.heap_setCell _ ⟨gb, i + 1, none⟩ _ g (Ne.symm hgl)).trans hgz, ⟨?_⟩, ⟨HBz.out.setCell hgb1 _⟩⟩
              have h8 := Kd.R_putn HOz.out ((i + 1 : Nat) : Int) ((gk : Nat) : Int)
              rwa [Int.toNat_natCast] at h8
        · have hd : decide ((0 : Int) < (gk : Int)) = true := by simp; omega
          have hd2 : decide (0 < gk) = true := by simp; omega
          have hd3 : 0 < gk := by omega
          clear hz
          by_cases hqr : x = q
          · have hqe : (x == q) = true := beq_iff_eq.2 hqr
            have hqn : (x != q) = false := bne_eq_false_iff_eq.2 hqr
            have HE := Lib.hid hqr
            clear hqr
            go_quiet (fail)
            go_upto_region 8 with fail
            go_quiet (fail)
            go_upto_region 10 with fail
            generalize hwz : World.drewN _ _ = wz
            have hgz : wz.heap[g]? = some (.cells (skCells ga gb m c0 cb 0) 114 (0, 0)) := by rw [← hwz]; exact hgr
            have hoz : Kd.R (Kd.int .i64) 3 wz w.heap.size (fun _ => True) (.slice (some ⟨gb, 0, none⟩) (m + 1) cb) bs := by rw [← hwz]; exact HO.out
            have hbz : Below w.heap.size w wz := by rw [← hwz]; (repeat apply pw_below_drewN); exact HBl.out
            have hbl : m + 1 = bs.length := (Kd.R_reads' hoz).1
            have him1 : i + 1 < m + 1 := by have := HI.out.2.1; omega
            have hcz := R_cells hoz (i + 1) (by omega)
            have hfz : wz.frozen? ⟨gb, i + 1, none⟩ = false := R_frozen hoz (by omega) (i + 1)
            have hc1 : wz.cell? ⟨g, 1, none⟩ = some (.slice (some ⟨gb, 0, none⟩) (m + 1) cb) := (blk_cell hgz 1).trans rfl
            generalize bs.getD (i + 1) 0 = old at hcz
            have hj2 : (0 : Int) ≤ (i : Int) + 1 := by omega
            have hj3 : (i : Int) + 1 < (m : Int) + 1 := by omega
            have HOz := Lib.hid hoz
            have HBz := Lib.hid hbz
            clear hwz hgr HO HBl hoz hbz hbl him1 hci hxw
            go_wp2
            go_roundg (no - 1)
            case measure => have := HI.out.2.1; have h9 : i < m := by omega
                            omega
            case rel =>
              obtain ⟨hi1, hi2, hI, hF⟩ := HI.out
              have hbl : m + 1 = bs.length := (Kd.R_reads' HOz.out).1
              have hI2 : IsM p (tail p (i + 1)) (gk + 1) := by
                rw [tail_succ hi1 (by rw [HP.out]; omega), HQ.out]
                exact HT2.out.hit (HX.out.trans HE.out)
              refine ⟨i + 1, gk + 1, bs.set (i + 1) ((gk + 1 : Nat) : Int), (by first | rfl | rw [hwk]), (by rw [hwi]), ⟨by omega, by omega, hI2, hF.set (by omega) hI2⟩, (Below.heap_setCell _ ⟨gb, i + 1, none⟩ _ g (Ne.symm hgl)).trans hgz, ⟨?_⟩, ⟨HBz.out.setCell hgb1 _⟩⟩
              have h8 := Kd.R_putn HOz.out ((i + 1 : Nat) : Int) ((gk + 1 : Nat) : Int)
              rwa [Int.toNat_natCast] at h8
          · have hqe : (x == q) = false := beq_eq_false_iff_ne.2 hqr
            have hqn : (x != q) = true := bne_iff_ne.2 hqr
            have HE := Lib.hid hqr
            clear hqr
            go_quiet (fail)
            go_upto_region 7 with fail
            have hlk : gk < p.length := HT2.out.lt
            obtain ⟨hi1, hi2, hI, hF⟩ := HI.out
            have hli : gk ≤ i := by
              have := HT2.out.now.length_le
              simp [tail] at this
              omega
            obtain ⟨b, hb1, hb2⟩ := hF gk (by omega) hli
            have hbl : m + 1 = bs.length := (Kd.R_reads' HO.out).1
            have hd : wo.cell? ⟨gb, gk, none⟩ = some (.int .i64 b) := by rw [R_cells HO.out gk (by rw [← hbl, ← HP.out]; omega), hb1]
            have hc1 : wo.cell? ⟨g, 1, none⟩ = some (.slice (some ⟨gb, 0, none⟩) (m + 1) cb) := (blk_cell hgr 1).trans rfl
            have hj3 : (gk : Int) < (m : Int) + 1 := by omega
            have hbk := HT2.out.back hd3 (fun h4 => HE.out (HX.out.symm.trans h4)) hb2
            have HBK := Lib.hid hbk
            clear hbk hb1 hb2 hli hlk hi1 hi2 hI hF hbl hxw hci
            go_wp2
            go_roundg b
            case measure => exact HBK.out.2
            case rel => exact ⟨rfl, ⟨HBK.out.1⟩, _, rfl⟩
    · have hd : decide ((i : Int) < (m : Int)) = false := by simp; omega
      have hd2 : decide (i < m) = false := by simp; omega
      have hd3 : ¬ i < m := him
      go_wp2
      go_ret
      obtain ⟨hi1, hi2, hI, hF⟩ := HI.out
      have hbl : bs.length = m + 1 := (Kd.R_reads' HO.out).1.symm
      exact ⟨g, gb, cb, bs, rfl, hgr, ⟨fun j hj => (HBl.out.cell (p := ⟨ga, j, none⟩) hga).trans (HW.out j (by rw [← HP.out]; exact hj)), fun j hj => R_cells HO.out j (by rw [hbl, ← HP.out]; exact hj), by omega, hgl⟩, fun n h1 h2 => hF n h1 (by rw [HP.out] at h2; omega), HB.out, hgw, HBl.out⟩
end Go.Proofs.YtabhfloclcmjnaaDoor.X
