/- Printed by a program of this session (wip/xprint) over the kit's print: functions of the seat and what they come to, with their proofs. Conditions: as typed. -/
import Derived.Test.YtabhfloclcmjnaaDoorPx0
import Derived.Test.YtabhfloclcmjnaaDoorSplit
import Derived.Test.YtabhfloclcmjnaaDoorPx11
namespace Go.Proofs.YtabhfloclcmjnaaDoor.P
open Go.RowKit Go.Proofs.YtabhfloclcmjnaaDoor.X Go.Proofs.YtabhfloclcmjnaaDoorW.PrintWords Go.Proofs.YtabhfloclcmjnaaDoorW.PrintLast Go.Proofs.YtabhfloclcmjnaaDoorW.PrintMore
attribute [local go_sem] max2_int min2_int max_two min_two max_three min_three max_four min_four   -- for this text's walks alone
set_option linter.unusedVariables false
set_option linter.unusedSimpArgs false

/-! ### diff_Apply: function 28 -/
mutual
def diff_Apply.l0 : Nat → ByteArray → List Int → List (S40) → Int → Int → Option (ByteArray × Int)
 | 0, _, _, _, _, _ => none
 | k + 1, x0, x7, x19, x20, x21 => if x21 < x20 then (if 0 ≤ x21 then (if x21 < (x19.length : Int) then (if ((rd_T40 x19 x21).f0) = 1 then (if ((rd_T40 x19 x21).f0) = 2 then (none) else (if x7.length + ((rd_T40 x19 x21).f1).size < 140737488355328 then (diff_Apply.l0 k x0 (x7 ++ bytesOf ((rd_T40 x19 x21).f1)) x19 x20 (wrap64 (x21 + 1))) else (none))) else (if (((rd_T40 x19 x21).f1).size : Int) > (x0.size : Int) then (diff_Apply.j1 k x0 x7 (((rd_T40 x19 x21).f1).size : Int) x19 x20 x21 true ((rd_T40 x19 x21).f0) ((rd_T40 x19 x21).f1)) else (if 0 ≤ (((rd_T40 x19 x21).f1).size : Int) then (if (((rd_T40 x19 x21).f1).size : Int) ≤ (x0.size : Int) then (diff_Apply.j1 k x0 x7 (((rd_T40 x19 x21).f1).size : Int) x19 x20 x21 ((x0.extract 0 ((((rd_T40 x19 x21).f1).size : Int) : Int).toNat).toList != ((rd_T40 x19 x21).f1).toList) ((rd_T40 x19 x21).f0) ((rd_T40 x19 x21).f1)) else (none)) else (none)))) else (none)) else (none)) else (if x0.toList = ([] : List UInt8) then (some (strOfNums x7, 0)) else (some ((⟨#[]⟩ : ByteArray), 3)))
def diff_Apply.j1 : Nat → ByteArray → List Int → Int → List (S40) → Int → Int → Bool → Int → ByteArray → Option (ByteArray × Int)
 | 0, _, _, _, _, _, _, _, _, _ => none
 | k + 1, x0, x7, x10, x19, x20, x21, x42, x233000, x233001 => if x42 = true then (some ((⟨#[]⟩ : ByteArray), 3)) else (if 0 ≤ x10 then (if x10 ≤ (x0.size : Int) then (if x233000 = 2 then (diff_Apply.l0 k (x0.extract (x10 : Int).toNat x0.size) x7 x19 x20 (wrap64 (x21 + 1))) else (if x7.length + x233001.size < 140737488355328 then (diff_Apply.l0 k (x0.extract (x10 : Int).toNat x0.size) (x7 ++ bytesOf x233001) x19 x20 (wrap64 (x21 + 1))) else (none))) else (none)) else (none))
end
def diff_Apply.f (k : Nat) (a0 : ByteArray) (l1 : List (S40)) : Option (ByteArray × Int) := (runes_May.f a0).bind fun t229 => (if t229 = true then ((diff_asked.f k l1).bind fun t230 => (if t230 = 0 then (diff_Apply.l0 k a0 ([] : List Int) l1 (l1.length : Int) 0) else (some ((⟨#[]⟩ : ByteArray), t230)))) else (some ((⟨#[]⟩ : ByteArray), 2)))
theorem diff_Apply.mono_l : ∀ k, (∀ y0 y1 y2 y3 y4, LeO (diff_Apply.l0 k y0 y1 y2 y3 y4) (diff_Apply.l0 (k + 1) y0 y1 y2 y3 y4)) ∧ (∀ y0 y1 y2 y3 y4 y5 y6 y7 y8, LeO (diff_Apply.j1 k y0 y1 y2 y3 y4 y5 y6 y7 y8) (diff_Apply.j1 (k + 1) y0 y1 y2 y3 y4 y5 y6 y7 y8))
 | 0 => ⟨fun _ _ _ _ _ r h => by simp [diff_Apply.l0] at h, fun _ _ _ _ _ _ _ _ _ r h => by simp [diff_Apply.j1] at h⟩
 | k + 1 => by
  obtain ⟨ih0, ih1⟩ := diff_Apply.mono_l k
  refine ⟨?_, ?_⟩
  ·intro y0 y1 y2 y3 y4
   unfold diff_Apply.l0
   repeat' first
   | (with_reducible exact ih0 _ _ _ _ _)
   | (with_reducible exact ih1 _ _ _ _ _ _ _ _ _)
   | (with_reducible exact diff_asked.mono _ _)
   | (with_reducible exact LeO.refl _)
   | (with_reducible exact LeO.none _)
   | (with_reducible refine LeO.ite ?_ ?_)
   | (with_reducible refine LeO.bind ?_ (fun _ => ?_))
   | exact ih0 _ _ _ _ _
   | exact ih1 _ _ _ _ _ _ _ _ _
   | exact diff_asked.mono _ _
   | exact LeO.none _
   | refine LeO.ite ?_ ?_
   | refine LeO.bind ?_ (fun _ => ?_)
  ·intro y0 y1 y2 y3 y4 y5 y6 y7 y8
   unfold diff_Apply.j1
   repeat' first
   | (with_reducible exact ih0 _ _ _ _ _)
   | (with_reducible exact ih1 _ _ _ _ _ _ _ _ _)
   | (with_reducible exact diff_asked.mono _ _)
   | (with_reducible exact LeO.refl _)
   | (with_reducible exact LeO.none _)
   | (with_reducible refine LeO.ite ?_ ?_)
   | (with_reducible refine LeO.bind ?_ (fun _ => ?_))
   | exact ih0 _ _ _ _ _
   | exact ih1 _ _ _ _ _ _ _ _ _
   | exact diff_asked.mono _ _
   | exact LeO.none _
   | refine LeO.ite ?_ ?_
   | refine LeO.bind ?_ (fun _ => ?_)
theorem diff_Apply.mono : ∀ a0 a1 k, LeO (diff_Apply.f k a0 a1) (diff_Apply.f (k + 1) a0 a1) := by
 intro a0 a1 k
 obtain ⟨ih0, ih1⟩ := diff_Apply.mono_l k
 unfold diff_Apply.f
 repeat' first
   | (with_reducible exact ih0 _ _ _ _ _)
   | (with_reducible exact ih1 _ _ _ _ _ _ _ _ _)
   | (with_reducible exact diff_asked.mono _ _)
   | (with_reducible exact LeO.refl _)
   | (with_reducible exact LeO.none _)
   | (with_reducible refine LeO.ite ?_ ?_)
   | (with_reducible refine LeO.bind ?_ (fun _ => ?_))
   | exact ih0 _ _ _ _ _
   | exact ih1 _ _ _ _ _ _ _ _ _
   | exact diff_asked.mono _ _
   | exact LeO.none _
   | refine LeO.ite ?_ ?_
   | refine LeO.bind ?_ (fun _ => ?_)
set_option maxHeartbeats 8000000 in
set_option maxRecDepth 100000 in
theorem diff_Apply.calls (k : Nat) (a0 : ByteArray) (A1 : Option Addr) (c1 : Nat) (l1 : List (S40)) (r1 : ByteArray) (r2 : Int) (w : World) (hT : Aside0 (XAmb w)) (hr1 : Kd.C k40 w A1 l1.length l1) (hc1 : l1.length ≤ c1) (h : diff_Apply.f k a0 l1 = some (r1, r2)) :
  Calls Tryd.prog 28 #[.string a0, .slice A1 l1.length c1] w fun e w' => e = .returned (.tuple #[.string r1, .int .i64 r2]) ∧ Below w.heap.size w w' := by
 have hu40 := Tryd.underlying40
 have HR1 := Aside0.mk hr1
 have HC1 := Aside0.mk hc1
 clear hr1 hc1
 have HB := Aside0.mk (Below.refl w.heap.size w)
 have H : ((runes_May.f a0).bind fun t229 => (if t229 = true then ((diff_asked.f k l1).bind fun t230 => (if t230 = 0 then (diff_Apply.l0 k a0 ([] : List Int) l1 (l1.length : Int) 0) else (some ((⟨#[]⟩ : ByteArray), t230)))) else (some ((⟨#[]⟩ : ByteArray), 2)))) = some (r1, r2) := h
 clear h
 replace H := Option.bind_eq_some_iff.mp H
 obtain ⟨t229, A30, H⟩ := H
 replace H : (if t229 = true then ((diff_asked.f k l1).bind fun t230 => (if t230 = 0 then (diff_Apply.l0 k a0 ([] : List Int) l1 (l1.length : Int) 0) else (some ((⟨#[]⟩ : ByteArray), t230)))) else (some ((⟨#[]⟩ : ByteArray), 2))) = some (r1, r2) := H
 have A3 := Aside0.mk A30
 clear A30
 by_cases c4 : t229 = true
 ·subst c4
  have H1 : ((diff_asked.f k l1).bind fun t230 => (if t230 = 0 then (diff_Apply.l0 k a0 ([] : List Int) l1 (l1.length : Int) 0) else (some ((⟨#[]⟩ : ByteArray), t230)))) = some (r1, r2) := by rw [if_pos rfl] at H; exact H
  clear H
  have H := H1
  clear H1
  replace H := Option.bind_eq_some_iff.mp H
  obtain ⟨t230, A50, H⟩ := H
  replace H : (if t230 = 0 then (diff_Apply.l0 k a0 ([] : List Int) l1 (l1.length : Int) 0) else (some ((⟨#[]⟩ : ByteArray), t230))) = some (r1, r2) := H
  have A5 := Aside0.mk A50
  clear A50
  by_cases c6 : t230 = 0
  ·rw [if_pos c6] at H
   have c6b0 : (t230 == 0) = true := beq_iff_eq.mpr c6
   have c6b1 : (t230 != 0) = false := bne_eq_false_iff_eq.mpr c6
   clear c6
   have H' := Aside0.mk H
   clear H
   go_enter Tryd.func28, Tryd.ntmps28
   go_wp2_with (first | (go_at_call 44; (with_reducible refine (runes_May.calls a0 true _ ?side1 A3.out).mono ?_); (case side1 => exact XAmb_step hT (hb0_ HB)); rintro e w7 ⟨rfl, hb⟩; have n0_ := Aside0.mk (below_step (hb0_ HB) hb); clear HB; have HB := n0_; clear n0_; (try clear hb); (try clear hb2); (try clear hk); (try clear hi)) | (go_at_call 50; (with_reducible refine (diff_asked.calls k _ _ l1 t230 _ ?side3 ?side1 ?side2 A5.out).mono ?_); (case side1 => repeat (first | exact (Kd.C_below HR1.out HB.out) | (with_reducible refine Kd.C_alloc ?_ _) | (with_reducible refine Kd.C_drewN ?_ _) | (with_reducible refine Kd.C_drew ?_))); (case side2 => exact HC1.out); (case side3 => exact XAmb_step hT (hb0_ HB)); rintro e w8 ⟨rfl, hb⟩; have n0_ := Aside0.mk (below_step (hb0_ HB) hb); clear HB; have HB := n0_; clear n0_; (try clear hb); (try clear hb2); (try clear hk); (try clear hi)))
   go_loopg [0, 7, 21] k (fun kq v0 v7 v21 w' => ∃ (x0_1 : ByteArray) (x7_1 : List Int) (x21_1 : Int), v0 = .string x0_1 ∧ v21 = .int .i64 x21_1 ∧ Aside0 (diff_Apply.l0 kq x0_1 x7_1 l1 (l1.length : Int) x21_1 = some (r1, r2)) ∧ Aside0 (kq ≤ k) ∧ Aside0 (Kd.R (Kd.int .u8) 5 w' w.heap.size (fun _ => True) v7 x7_1) ∧ Aside0 (Below w.heap.size w w'))
   case atStart => exact ⟨(a0), (([] : List Int)), (0), (by first | rfl | (simp; done) | (simp [*]; done)), (by first | rfl | (simp; done) | (simp [*]; done)), H', ⟨Nat.le_refl _⟩, ⟨by first | exact Kd.R_nil _ _ _ _ _ | exact Kd.N_nil _ _ _ _ _ | exact Kd.V_nil _ _ _ _ _ | exact Kd.Q_nil _ _ _ _ _ | exact Kd.S_nil _ _ _ _ _⟩, ⟨hb0_ HB⟩⟩
   case round =>
    clear H'
    try clear c1
    try clear c2
    try clear p2
    try clear c4
    try clear c6
    try clear c6b0
    try clear c6b1
    obtain ⟨x0_1, x7_1, x21_1, rfl, rfl, HA, HK1, HO_7, HB⟩ := hrel
    cases gk with
    | zero => exact absurd HA.out (by simp [diff_Apply.l0])
    | succ k1 =>
     have H := HA.out
     clear HA
     simp only [diff_Apply.l0] at H
     by_cases c9 : x21_1 < (l1.length : Int)
     ·rw [if_pos c9] at H
      have c9b0 : decide (x21_1 < (l1.length : Int)) = true := decide_eq_true c9
      clear c9
      by_cases c10 : 0 ≤ x21_1
      ·rw [if_pos c10] at H
       have c10b0 : decide (0 ≤ x21_1) = true := decide_eq_true c10
       clear c10
       by_cases c11 : x21_1 < (l1.length : Int)
       ·rw [if_pos c11] at H
        have c11b0 : decide (x21_1 < (l1.length : Int)) = true := decide_eq_true c11
        clear c11
        by_cases c12 : ((rd_T40 l1 x21_1).f0) = 1
        ·rw [if_pos c12] at H
         have c12b0 : (((rd_T40 l1 x21_1).f0) == 1) = true := beq_iff_eq.mpr c12
         have c12b1 : (((rd_T40 l1 x21_1).f0) != 1) = false := bne_eq_false_iff_eq.mpr c12
         clear c12
         by_cases c13 : ((rd_T40 l1 x21_1).f0) = 2
         ·rw [if_pos c13] at H
          exact absurd H (by simp)
         ·rw [if_neg c13] at H
          have c13b0 : (((rd_T40 l1 x21_1).f0) == 2) = false := beq_eq_false_iff_ne.mpr c13
          have c13b1 : (((rd_T40 l1 x21_1).f0) != 2) = true := bne_iff_ne.mpr c13
          by_cases c14 : x7_1.length + ((rd_T40 l1 x21_1).f1).size < 140737488355328
          ·rw [if_pos c14] at H
           have LMc14 := Aside0.mk c14
           clear c14
           obtain ⟨y233, hy233⟩ : ∃ y_ : List Int, y_ = (x7_1 ++ bytesOf ((rd_T40 l1 x21_1).f1)) := ⟨_, rfl⟩
           replace H : (diff_Apply.l0 k1 x0_1 y233 l1 (l1.length : Int) (wrap64 (x21_1 + 1))) = some (r1, r2) := by first | (rw [hy233]; with_reducible exact H) | (have H2_ := (Option.bind_some _ _).symm.trans H; rw [hy233]; with_reducible exact H2_) | (have H2_ := (Option.bind_some _ _).symm.trans H; with_reducible exact H2_) | with_reducible exact H | (rw [hy233]; exact H) | exact H
           have Ny233 := Aside0.mk hy233
           clear hy233
           have H' := Aside0.mk H
           clear H
           have p231 : 0 ≤ (x21_1 : Int) := dt_
           have q231 : x21_1 < (l1.length : Int) := dt_
           obtain ⟨ad231, e231, hx231_0, hx231_1⟩ := at_T40 HR1.out x21_1 p231 q231
           cases e231
           replace hx231_0 := (HB.out.cell (World.block_lt_of_cell? w _ hx231_0)).trans hx231_0
           replace hx231_1 := (HB.out.cell (World.block_lt_of_cell? w _ hx231_1)).trans hx231_1
           replace p231 := eq_true p231
           replace q231 := eq_true q231
           go_wp2_with (first | ((with_reducible refine gate_dst (N := 9) rfl ?_); refine box_event ?hg (N := 9) ?hd (cs := #[.int .i64 0, .string (⟨#[]⟩ : ByteArray)]) (t := 40) ?hr ?_; (case hd => rfl); (case hg => rfl); (case hr => first | (go_simp; done) | (go_simp; rfl)); intro gb232 hg w15 hbox hb; have n0_ := Aside0.mk (Kd.R_below (ro_ HO_7) hb); have n1_ := Aside0.mk (below_step (hb0_ HB) hb); have n2_ := Aside0.mk (hbox); have n3_ := Aside0.mk ((by rw [hg]; exact (below_size (hb0_ HB)) : w.heap.size ≤ gb232)); have n4_ := Aside0.mk ((by rw [hg]; exact (below_size (hb0_ HB)) : w.heap.size ≤ gb232)); clear HO_7; clear HB; have HO_7 := n0_; have HB := n1_; have BK232 := n2_; have GW232 := n3_; have GE232 := n4_; clear n0_ n1_ n2_ n3_ n4_; clear hb hbox hg; have hcz16_0 : w15.cell? ⟨gb232, 0, none⟩ = some (.int .i64 0) := (blk_cell BK232.out 0).trans rfl; have hcz16_1 : w15.cell? ⟨gb232, 1, none⟩ = some (.string (⟨#[]⟩ : ByteArray)) := (blk_cell BK232.out 1).trans rfl; have hfz16_0 := blk_frozen BK232.out 0; have hfz16_1 := blk_frozen BK232.out 1) | (at_builtin; refine print_append_str (w0 := w) w.heap.size rfl (.tmp 49) _ 54 9 5 rfl Tryd.underlying54 Tryd.underlying9 info5 u7 x7_1 ((rd_T40 l1 x21_1).f1) rfl rfl ?aO ?aB ?aS ?aL ?_; (case aB => exact (hb1_ HB GE232)); (case aO => exact (Kd.own_of_R (by (with_reducible repeat (first | apply Kd.R_alloc | apply Kd.R_drewN | apply Kd.R_drew)); exact Kd.R_mono (Kd.R_far (p := ⟨gb232, 1, none⟩) (Kd.R_far (p := ⟨gb232, 0, none⟩) (Kd.R_types HO_7.out BK232.out (by decide)) (fun _ hk => hk.2) (.int .i64 ((rd_T40 l1 x21_1).f0))) (fun _ hk => hk.2) (.string ((rd_T40 l1 x21_1).f1))) (fun _ hk => trivial)))); (case aS => exact (below_size (hb1_ HB GE232))); (case aL => have := LMc14.out; omega); intro v234 w17 ho0 hb hg; have ho := Kd.R_of_own (h1 := fun _ => rfl) (ok := fun _ => True) ho0 (fun _ _ => trivial); clear ho0; have hat := True.intro; rw [← Ny233.out] at ho; change Kd.R (Kd.int .u8) 5 w17 w.heap.size (fun _ => True) v234 y233 at ho; have n0_ := Aside0.mk (blk_grown (g := gb232) (o := .cells #[.int .i64 ((rd_T40 l1 x21_1).f0), .string ((rd_T40 l1 x21_1).f1)] 40 (0, 0)) (by (with_reducible repeat (first | refine blk_drewN ?_ _ | refine blk_drew ?_ | refine blk_alloc ?_ _)); refine blk_put (cs := #[.int .i64 ((rd_T40 l1 x21_1).f0), .string (⟨#[]⟩ : ByteArray)]) ?_ 1 _ rfl; (with_reducible repeat (first | refine blk_drewN ?_ _ | refine blk_drew ?_ | refine blk_alloc ?_ _)); refine blk_put (cs := #[.int .i64 0, .string (⟨#[]⟩ : ByteArray)]) ?_ 0 _ rfl; (with_reducible repeat (first | refine blk_drewN ?_ _ | refine blk_drew ?_ | refine blk_alloc ?_ _)); exact BK232.out) hg (Kd.R_ne HO_7.out BK232.out (by decide))); have n1_ := Aside0.mk (hb); have n2_ := Aside0.mk (ho); clear BK232; clear HB; clear HO_7; have BK232 := n0_; have HB := n1_; have HO235 := n2_; clear n0_ n1_ n2_; clear ho hb hg hat))
           go_roundg k1
           case measure => have := HK1.out; omega
           case rel => exact ⟨(x0_1), (y233), (wrap64 (x21_1 + 1)), (by first | rfl | (simp; done) | (simp [*]; done)), (by first | rfl | (simp; done) | (simp [*]; done)), H', ⟨by have := HK1.out; omega⟩, ⟨ro_ HO235⟩, ⟨by repeat (first | (with_reducible first | exact HB.out | apply below_alloc | apply pw_below_drewN | apply below_drew1 | refine below_set ?_ GE232.out) | exact HB.out)⟩⟩
          ·rw [if_neg c14] at H
           exact absurd H (by simp)
        ·rw [if_neg c12] at H
         have c12b0 : (((rd_T40 l1 x21_1).f0) == 1) = false := beq_eq_false_iff_ne.mpr c12
         have c12b1 : (((rd_T40 l1 x21_1).f0) != 1) = true := bne_iff_ne.mpr c12
         have HC18 := Aside0.mk H
         clear H
         have p231 : 0 ≤ (x21_1 : Int) := dt_
         have q231 : x21_1 < (l1.length : Int) := dt_
         obtain ⟨ad231, e231, hx231_0, hx231_1⟩ := at_T40 HR1.out x21_1 p231 q231
         cases e231
         replace hx231_0 := (HB.out.cell (World.block_lt_of_cell? w _ hx231_0)).trans hx231_0
         replace hx231_1 := (HB.out.cell (World.block_lt_of_cell? w _ hx231_1)).trans hx231_1
         replace p231 := eq_true p231
         replace q231 := eq_true q231
         go_upto_region 12 with (first | ((with_reducible refine gate_dst (N := 9) rfl ?_); refine box_event ?hg (N := 9) ?hd (cs := #[.int .i64 0, .string (⟨#[]⟩ : ByteArray)]) (t := 40) ?hr ?_; (case hd => rfl); (case hg => rfl); (case hr => first | (go_simp; done) | (go_simp; rfl)); intro gb232 hg w19 hbox hb; have n0_ := Aside0.mk (Kd.R_below (ro_ HO_7) hb); have n1_ := Aside0.mk (below_step (hb0_ HB) hb); have n2_ := Aside0.mk (hbox); have n3_ := Aside0.mk ((by rw [hg]; exact (below_size (hb0_ HB)) : w.heap.size ≤ gb232)); have n4_ := Aside0.mk ((by rw [hg]; exact (below_size (hb0_ HB)) : w.heap.size ≤ gb232)); clear HO_7; clear HB; have HO_7 := n0_; have HB := n1_; have BK232 := n2_; have GW232 := n3_; have GE232 := n4_; clear n0_ n1_ n2_ n3_ n4_; clear hb hbox hg; have hcz20_0 : w19.cell? ⟨gb232, 0, none⟩ = some (.int .i64 0) := (blk_cell BK232.out 0).trans rfl; have hcz20_1 : w19.cell? ⟨gb232, 1, none⟩ = some (.string (⟨#[]⟩ : ByteArray)) := (blk_cell BK232.out 1).trans rfl; have hfz20_0 := blk_frozen BK232.out 0; have hfz20_1 := blk_frozen BK232.out 1))
         (try simp only [Act.put, List.setIfInBounds_toArray, List.set_cons_zero, List.set_cons_succ])
         go_cut [42] (fun v42 wc => ∃ (kq : Nat) (x42_17 : Bool), v42 = .bool x42_17 ∧ Aside0 (diff_Apply.j1 kq x0_1 x7_1 (((rd_T40 l1 x21_1).f1).size : Int) l1 (l1.length : Int) x21_1 x42_17 ((rd_T40 l1 x21_1).f0) ((rd_T40 l1 x21_1).f1) = some (r1, r2)) ∧ Aside0 (kq ≤ k1) ∧ Aside0 (Kd.R (Kd.int .u8) 5 wc w.heap.size (fun _ => True) u7 x7_1) ∧ Aside0 (wc.heap[gb232]? = some (.cells #[.int .i64 ((rd_T40 l1 x21_1).f0), .string ((rd_T40 l1 x21_1).f1)] 40 (0, 0))) ∧ Aside0 (Below w.heap.size w wc))
         case first =>
          have H := HC18.out
          clear HC18
          by_cases c21 : (((rd_T40 l1 x21_1).f1).size : Int) > (x0_1.size : Int)
          ·rw [if_pos c21] at H
           have c21b0 : decide ((x0_1.size : Int) < (((rd_T40 l1 x21_1).f1).size : Int)) = true := decide_eq_true c21
           have c21b1 : decide (x0_1.size < ((rd_T40 l1 x21_1).f1).size) = true := decide_eq_true (Int.ofNat_lt.mp c21)
           clear c21
           (first | rw [c21b0] | (simp only [i64_w, i32_w]; rw [c21b0]) | skip)
           have H' := Aside0.mk H
           clear H
           go_wp2
           repeat (go_quiet (fail); try go_wp2)
           go_meet
           case rel => exact ⟨_, (true), (by first | rfl | (simp; done) | (simp [*]; done)), H', ⟨by have := HK1.out; first | omega | exact Nat.le_refl _⟩, ⟨by (with_reducible repeat (first | apply Kd.R_alloc | apply Kd.R_drewN | apply Kd.R_drew)); exact Kd.R_mono (Kd.R_far (p := ⟨gb232, 1, none⟩) (Kd.R_far (p := ⟨gb232, 0, none⟩) (Kd.R_types HO_7.out BK232.out (by decide)) (fun _ hk => hk.2) (.int .i64 ((rd_T40 l1 x21_1).f0))) (fun _ hk => hk.2) (.string ((rd_T40 l1 x21_1).f1))) (fun _ hk => trivial)⟩, ⟨by (with_reducible repeat (first | refine blk_drewN ?_ _ | refine blk_drew ?_ | refine blk_alloc ?_ _)); refine blk_put (cs := #[.int .i64 ((rd_T40 l1 x21_1).f0), .string (⟨#[]⟩ : ByteArray)]) ?_ 1 _ rfl; (with_reducible repeat (first | refine blk_drewN ?_ _ | refine blk_drew ?_ | refine blk_alloc ?_ _)); refine blk_put (cs := #[.int .i64 0, .string (⟨#[]⟩ : ByteArray)]) ?_ 0 _ rfl; (with_reducible repeat (first | refine blk_drewN ?_ _ | refine blk_drew ?_ | refine blk_alloc ?_ _)); exact BK232.out⟩, ⟨by repeat (first | (with_reducible first | exact HB.out | apply below_alloc | apply pw_below_drewN | apply below_drew1 | refine below_set ?_ GE232.out) | exact HB.out)⟩⟩
          ·rw [if_neg c21] at H
           have c21b0 : decide ((x0_1.size : Int) < (((rd_T40 l1 x21_1).f1).size : Int)) = false := decide_eq_false c21
           have c21b1 : decide (x0_1.size < ((rd_T40 l1 x21_1).f1).size) = false := decide_eq_false (fun h => c21 (Int.ofNat_lt.mpr h))
           clear c21
           (first | rw [c21b0] | (simp only [i64_w, i32_w]; rw [c21b0]) | skip)
           by_cases c22 : 0 ≤ (((rd_T40 l1 x21_1).f1).size : Int)
           ·rw [if_pos c22] at H
            have c22b0 := eq_true c22
            have c22b1 : decide (0 ≤ (((rd_T40 l1 x21_1).f1).size : Int)) = true := decide_eq_true c22
            clear c22
            by_cases c23 : (((rd_T40 l1 x21_1).f1).size : Int) ≤ (x0_1.size : Int)
            ·rw [if_pos c23] at H
             have c23b0 := eq_true c23
             have c23b1 : decide ((((rd_T40 l1 x21_1).f1).size : Int) ≤ (x0_1.size : Int)) = true := decide_eq_true c23
             clear c23
             have H' := Aside0.mk H
             clear H
             have hcz24_0 : w19.cell? ⟨gb232, 0, none⟩ = some (.int .i64 0) := (blk_cell BK232.out 0).trans rfl
             have hcz24_1 : w19.cell? ⟨gb232, 1, none⟩ = some (.string (⟨#[]⟩ : ByteArray)) := (blk_cell BK232.out 1).trans rfl
             have hfz24_0 := blk_frozen BK232.out 0
             have hfz24_1 := blk_frozen BK232.out 1
             go_wp2
             repeat (go_quiet (fail); try go_wp2)
             go_meet
             case rel => exact ⟨_, (((x0_1.extract 0 ((((rd_T40 l1 x21_1).f1).size : Int) : Int).toNat).toList != ((rd_T40 l1 x21_1).f1).toList)), (by first | rfl | (simp; done) | (simp [*]; done)), H', ⟨by have := HK1.out; first | omega | exact Nat.le_refl _⟩, ⟨by (with_reducible repeat (first | apply Kd.R_alloc | apply Kd.R_drewN | apply Kd.R_drew)); exact Kd.R_mono (Kd.R_far (p := ⟨gb232, 1, none⟩) (Kd.R_far (p := ⟨gb232, 0, none⟩) (Kd.R_types HO_7.out BK232.out (by decide)) (fun _ hk => hk.2) (.int .i64 ((rd_T40 l1 x21_1).f0))) (fun _ hk => hk.2) (.string ((rd_T40 l1 x21_1).f1))) (fun _ hk => trivial)⟩, ⟨by (with_reducible repeat (first | refine blk_drewN ?_ _ | refine blk_drew ?_ | refine blk_alloc ?_ _)); refine blk_put (cs := #[.int .i64 ((rd_T40 l1 x21_1).f0), .string (⟨#[]⟩ : ByteArray)]) ?_ 1 _ rfl; (with_reducible repeat (first | refine blk_drewN ?_ _ | refine blk_drew ?_ | refine blk_alloc ?_ _)); refine blk_put (cs := #[.int .i64 0, .string (⟨#[]⟩ : ByteArray)]) ?_ 0 _ rfl; (with_reducible repeat (first | refine blk_drewN ?_ _ | refine blk_drew ?_ | refine blk_alloc ?_ _)); exact BK232.out⟩, ⟨by repeat (first | (with_reducible first | exact HB.out | apply below_alloc | apply pw_below_drewN | apply below_drew1 | refine below_set ?_ GE232.out) | exact HB.out)⟩⟩
            ·rw [if_neg c23] at H
             exact absurd H (by simp)
           ·rw [if_neg c22] at H
            exact absurd H (by simp)
         case rest =>
          clear HC18
          try clear c1
          try clear c2
          try clear p2
          try clear q2
          try clear hx2
          try clear c4
          try clear c6
          try clear c6b0
          try clear c6b1
          try clear p6
          try clear c9
          try clear c9b0
          try clear c10
          try clear c10b0
          try clear c11
          try clear c11b0
          try clear c12
          try clear c12b0
          try clear c12b1
          try clear c13
          try clear c13b0
          try clear c13b1
          try clear c14
          try clear c21
          try clear c21b0
          try clear c21b1
          try clear c22
          try clear c22b0
          try clear c22b1
          try clear c23
          try clear c23b0
          try clear c23b1
          try clear p23
          try clear q23
          try clear hx23
          try clear hcz16_0
          try clear hcz16_1
          try clear hcz20_0
          try clear hcz20_1
          try clear hcz24_0
          try clear hcz24_1
          try clear hfz16_0
          try clear hfz16_1
          try clear hfz20_0
          try clear hfz20_1
          try clear hfz24_0
          try clear hfz24_1
          try clear hx231_0
          try clear hx231_1
          try clear p2
          try clear p231
          try clear q231
          obtain ⟨kq, x42_17, rfl, HA, HJ17, HO_7, BK232, HB⟩ := hcut
          cases kq with
          | zero => exact absurd HA.out (by simp [diff_Apply.j1])
          | succ kj17 =>
           have H := HA.out
           clear HA
           simp only [diff_Apply.j1] at H
           by_cases c25 : x42_17 = true
           ·subst c25
            have H1 : (some ((⟨#[]⟩ : ByteArray), 3)) = some (r1, r2) := by rw [if_pos rfl] at H; exact H
            clear H
            have H := H1
            clear H1
            simp only [Option.some.injEq, Prod.mk.injEq] at H
            obtain ⟨rfl, rfl⟩ := H
            go_wp2
            repeat (go_quiet (fail); try go_wp2)
            go_ret2
            exact ⟨by first | rfl | (simp [errW_none, errW_some] <;> rfl) | (simp [*, errW_none, errW_some] <;> rfl), by repeat (first | (with_reducible first | exact HB.out | apply below_alloc | apply pw_below_drewN | apply below_drew1 | refine below_set ?_ GE232.out) | exact HB.out)⟩
           ·replace c25 := Bool.eq_false_iff.mpr c25
            subst c25
            have H1 : (if 0 ≤ (((rd_T40 l1 x21_1).f1).size : Int) then (if (((rd_T40 l1 x21_1).f1).size : Int) ≤ (x0_1.size : Int) then (if ((rd_T40 l1 x21_1).f0) = 2 then (diff_Apply.l0 kj17 (x0_1.extract ((((rd_T40 l1 x21_1).f1).size : Int) : Int).toNat x0_1.size) x7_1 l1 (l1.length : Int) (wrap64 (x21_1 + 1))) else (if x7_1.length + ((rd_T40 l1 x21_1).f1).size < 140737488355328 then (diff_Apply.l0 kj17 (x0_1.extract ((((rd_T40 l1 x21_1).f1).size : Int) : Int).toNat x0_1.size) (x7_1 ++ bytesOf ((rd_T40 l1 x21_1).f1)) l1 (l1.length : Int) (wrap64 (x21_1 + 1))) else (none))) else (none)) else (none)) = some (r1, r2) := by rw [if_neg (show ¬ (false = true) by decide)] at H; exact H
            clear H
            have H := H1
            clear H1
            by_cases c26 : 0 ≤ (((rd_T40 l1 x21_1).f1).size : Int)
            ·rw [if_pos c26] at H
             have c26b0 := eq_true c26
             have c26b1 : decide (0 ≤ (((rd_T40 l1 x21_1).f1).size : Int)) = true := decide_eq_true c26
             clear c26
             by_cases c27 : (((rd_T40 l1 x21_1).f1).size : Int) ≤ (x0_1.size : Int)
             ·rw [if_pos c27] at H
              have c27b0 := eq_true c27
              have c27b1 : decide ((((rd_T40 l1 x21_1).f1).size : Int) ≤ (x0_1.size : Int)) = true := decide_eq_true c27
              clear c27
              by_cases c28 : ((rd_T40 l1 x21_1).f0) = 2
              ·rw [if_pos c28] at H
               have c28b0 : (((rd_T40 l1 x21_1).f0) == 2) = true := beq_iff_eq.mpr c28
               have c28b1 : (((rd_T40 l1 x21_1).f0) != 2) = false := bne_eq_false_iff_eq.mpr c28
               clear c28
               have H' := Aside0.mk H
               clear H
               have hcz29_0 : wc.cell? ⟨gb232, 0, none⟩ = some (.int .i64 ((rd_T40 l1 x21_1).f0)) := (blk_cell BK232.out 0).trans rfl
               have hcz29_1 : wc.cell? ⟨gb232, 1, none⟩ = some (.string ((rd_T40 l1 x21_1).f1)) := (blk_cell BK232.out 1).trans rfl
               have hfz29_0 := blk_frozen BK232.out 0
               have hfz29_1 := blk_frozen BK232.out 1
               go_wp2
               repeat (go_quiet (fail); try go_wp2)
               go_roundg kj17
               case measure => have := HK1.out; have := HJ17.out; omega
               case rel => exact ⟨(x0_1.extract ((((rd_T40 l1 x21_1).f1).size : Int) : Int).toNat x0_1.size), (x7_1), (wrap64 (x21_1 + 1)), (by first | rfl | (simp; done) | (simp [*]; done)), (by first | rfl | (simp; done) | (simp [*]; done)), H', ⟨by have := HK1.out; have := HJ17.out; omega⟩, ⟨ro_ HO_7⟩, ⟨by repeat (first | (with_reducible first | exact HB.out | apply below_alloc | apply pw_below_drewN | apply below_drew1 | refine below_set ?_ GE232.out) | exact HB.out)⟩⟩
              ·rw [if_neg c28] at H
               have c28b0 : (((rd_T40 l1 x21_1).f0) == 2) = false := beq_eq_false_iff_ne.mpr c28
               have c28b1 : (((rd_T40 l1 x21_1).f0) != 2) = true := bne_iff_ne.mpr c28
               by_cases c30 : x7_1.length + ((rd_T40 l1 x21_1).f1).size < 140737488355328
               ·rw [if_pos c30] at H
                have LMc30 := Aside0.mk c30
                clear c30
                obtain ⟨y236, hy236⟩ : ∃ y_ : List Int, y_ = (x7_1 ++ bytesOf ((rd_T40 l1 x21_1).f1)) := ⟨_, rfl⟩
                replace H : (diff_Apply.l0 kj17 (x0_1.extract ((((rd_T40 l1 x21_1).f1).size : Int) : Int).toNat x0_1.size) y236 l1 (l1.length : Int) (wrap64 (x21_1 + 1))) = some (r1, r2) := by first | (rw [hy236]; with_reducible exact H) | (have H2_ := (Option.bind_some _ _).symm.trans H; rw [hy236]; with_reducible exact H2_) | (have H2_ := (Option.bind_some _ _).symm.trans H; with_reducible exact H2_) | with_reducible exact H | (rw [hy236]; exact H) | exact H
                have Ny236 := Aside0.mk hy236
                clear hy236
                have H' := Aside0.mk H
                clear H
                have hcz31_0 : wc.cell? ⟨gb232, 0, none⟩ = some (.int .i64 ((rd_T40 l1 x21_1).f0)) := (blk_cell BK232.out 0).trans rfl
                have hcz31_1 : wc.cell? ⟨gb232, 1, none⟩ = some (.string ((rd_T40 l1 x21_1).f1)) := (blk_cell BK232.out 1).trans rfl
                have hfz31_0 := blk_frozen BK232.out 0
                have hfz31_1 := blk_frozen BK232.out 1
                go_wp2_with (first | (at_builtin; refine print_append_str (w0 := w) w.heap.size rfl (.tmp 49) _ 54 9 5 rfl Tryd.underlying54 Tryd.underlying9 info5 u7 x7_1 ((rd_T40 l1 x21_1).f1) rfl rfl ?aO ?aB ?aS ?aL ?_; (case aB => exact (hb1_ HB GE232)); (case aO => exact (Kd.own_of_R (ro_ HO_7))); (case aS => exact (below_size (hb1_ HB GE232))); (case aL => have := LMc30.out; omega); intro v237 w32 ho0 hb hg; have ho := Kd.R_of_own (h1 := fun _ => rfl) (ok := fun _ => True) ho0 (fun _ _ => trivial); clear ho0; have hat := True.intro; rw [← Ny236.out] at ho; change Kd.R (Kd.int .u8) 5 w32 w.heap.size (fun _ => True) v237 y236 at ho; have n0_ := Aside0.mk (blk_grown (g := gb232) (o := .cells #[.int .i64 ((rd_T40 l1 x21_1).f0), .string ((rd_T40 l1 x21_1).f1)] 40 (0, 0)) (bk_ BK232) hg (Kd.R_ne HO_7.out BK232.out (by decide))); have n1_ := Aside0.mk (hb); have n2_ := Aside0.mk (ho); clear BK232; clear HB; clear HO_7; have BK232 := n0_; have HB := n1_; have HO238 := n2_; clear n0_ n1_ n2_; clear ho hb hg hat))
                go_roundg kj17
                case measure => have := HK1.out; have := HJ17.out; omega
                case rel => exact ⟨(x0_1.extract ((((rd_T40 l1 x21_1).f1).size : Int) : Int).toNat x0_1.size), (y236), (wrap64 (x21_1 + 1)), (by first | rfl | (simp; done) | (simp [*]; done)), (by first | rfl | (simp; done) | (simp [*]; done)), H', ⟨by have := HK1.out; have := HJ17.out; omega⟩, ⟨ro_ HO238⟩, ⟨by repeat (first | (with_reducible first | exact HB.out | apply below_alloc | apply pw_below_drewN | apply below_drew1 | refine below_set ?_ GE232.out) | exact HB.out)⟩⟩
               ·rw [if_neg c30] at H
                exact absurd H (by simp)
             ·rw [if_neg c27] at H
              exact absurd H (by simp)
            ·rw [if_neg c26] at H
             exact absurd H (by simp)
       ·rw [if_neg c11] at H
        exact absurd H (by simp)
      ·rw [if_neg c10] at H
       exact absurd H (by simp)
     ·rw [if_neg c9] at H
      have c9b0 : decide (x21_1 < (l1.length : Int)) = false := decide_eq_false c9
      clear c9
      by_cases c33 : x0_1.toList = ([] : List UInt8)
      ·rw [if_pos c33] at H
       have c33b0 : (x0_1.toList == ([] : List UInt8)) = true := beq_iff_eq.mpr c33
       have c33b1 : (x0_1.toList != ([] : List UInt8)) = false := bne_eq_false_iff_eq.mpr c33
       clear c33
       simp only [Option.some.injEq, Prod.mk.injEq] at H
       obtain ⟨rfl, rfl⟩ := H
       have hcv34 := own_string (P := Tryd.prog) Tryd.underlying54 Tryd.underlying5 Tryd.underlying9 (Kd.own_of_R HO_7.out)
       go_wp2
       repeat (go_quiet (fail); try go_wp2)
       go_ret2
       exact ⟨by first | rfl | (simp [errW_none, errW_some] <;> rfl) | (simp [*, errW_none, errW_some] <;> rfl), hb0_ HB⟩
      ·rw [if_neg c33] at H
       have c33b0 : (x0_1.toList == ([] : List UInt8)) = false := beq_eq_false_iff_ne.mpr c33
       have c33b1 : (x0_1.toList != ([] : List UInt8)) = true := bne_iff_ne.mpr c33
       simp only [Option.some.injEq, Prod.mk.injEq] at H
       obtain ⟨rfl, rfl⟩ := H
       go_wp2
       repeat (go_quiet (fail); try go_wp2)
       go_ret2
       exact ⟨by first | rfl | (simp [errW_none, errW_some] <;> rfl) | (simp [*, errW_none, errW_some] <;> rfl), hb0_ HB⟩
  ·rw [if_neg c6] at H
   have c6b0 : (t230 == 0) = false := beq_eq_false_iff_ne.mpr c6
   have c6b1 : (t230 != 0) = true := bne_iff_ne.mpr c6
   simp only [Option.some.injEq, Prod.mk.injEq] at H
   obtain ⟨rfl, rfl⟩ := H
   go_enter Tryd.func28, Tryd.ntmps28
   go_wp2_with (first | (go_at_call 44; (with_reducible refine (runes_May.calls a0 true _ ?side1 A3.out).mono ?_); (case side1 => exact XAmb_step hT (hb0_ HB)); rintro e w35 ⟨rfl, hb⟩; have n0_ := Aside0.mk (below_step (hb0_ HB) hb); clear HB; have HB := n0_; clear n0_; (try clear hb); (try clear hb2); (try clear hk); (try clear hi)) | (go_at_call 50; (with_reducible refine (diff_asked.calls k _ _ l1 t230 _ ?side3 ?side1 ?side2 A5.out).mono ?_); (case side1 => repeat (first | exact (Kd.C_below HR1.out HB.out) | (with_reducible refine Kd.C_alloc ?_ _) | (with_reducible refine Kd.C_drewN ?_ _) | (with_reducible refine Kd.C_drew ?_))); (case side2 => exact HC1.out); (case side3 => exact XAmb_step hT (hb0_ HB)); rintro e w36 ⟨rfl, hb⟩; have n0_ := Aside0.mk (below_step (hb0_ HB) hb); clear HB; have HB := n0_; clear n0_; (try clear hb); (try clear hb2); (try clear hk); (try clear hi)))
   go_ret2
   exact ⟨by first | rfl | (simp [errW_none, errW_some] <;> rfl) | (simp [*, errW_none, errW_some] <;> rfl), hb0_ HB⟩
 ·replace c4 := Bool.eq_false_iff.mpr c4
  subst c4
  have H1 : (some ((⟨#[]⟩ : ByteArray), 2)) = some (r1, r2) := by rw [if_neg (show ¬ (false = true) by decide)] at H; exact H
  clear H
  have H := H1
  clear H1
  simp only [Option.some.injEq, Prod.mk.injEq] at H
  obtain ⟨rfl, rfl⟩ := H
  go_enter Tryd.func28, Tryd.ntmps28
  go_wp2_with (first | (go_at_call 44; (with_reducible refine (runes_May.calls a0 false _ ?side1 A3.out).mono ?_); (case side1 => exact XAmb_step hT (hb0_ HB)); rintro e w37 ⟨rfl, hb⟩; have n0_ := Aside0.mk (below_step (hb0_ HB) hb); clear HB; have HB := n0_; clear n0_; (try clear hb); (try clear hb2); (try clear hk); (try clear hi)))
  repeat (go_quiet (first | (go_at_call 44; (with_reducible refine (runes_May.calls a0 false _ ?side1 A3.out).mono ?_); (case side1 => exact XAmb_step hT (hb0_ HB)); rintro e w37 ⟨rfl, hb⟩; have n0_ := Aside0.mk (below_step (hb0_ HB) hb); clear HB; have HB := n0_; clear n0_; (try clear hb); (try clear hb2); (try clear hk); (try clear hi))); try go_wp2_with (first | (go_at_call 44; (with_reducible refine (runes_May.calls a0 false _ ?side1 A3.out).mono ?_); (case side1 => exact XAmb_step hT (hb0_ HB)); rintro e w37 ⟨rfl, hb⟩; have n0_ := Aside0.mk (below_step (hb0_ HB) hb); clear HB; have HB := n0_; clear n0_; (try clear hb); (try clear hb2); (try clear hk); (try clear hi))))
  go_ret2
  exact ⟨by first | rfl | (simp [errW_none, errW_some] <;> rfl) | (simp [*, errW_none, errW_some] <;> rfl), hb0_ HB⟩

end Go.Proofs.YtabhfloclcmjnaaDoor.P
