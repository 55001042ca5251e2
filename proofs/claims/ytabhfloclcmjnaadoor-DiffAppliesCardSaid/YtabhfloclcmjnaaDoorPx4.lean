/- Printed by a program of this session (wip/xprint) over the kit's print: functions of the seat and what they come to, with their proofs. Conditions: as typed. -/
import Derived.Test.YtabhfloclcmjnaaDoorPx0
import Derived.Test.YtabhfloclcmjnaaDoorPx3
import Derived.Test.YtabhfloclcmjnaaDoorMrg
import Derived.Test.YtabhfloclcmjnaaDoorSplit
import Derived.Test.YtabhfloclcmjnaaDoorStp
namespace Go.Proofs.YtabhfloclcmjnaaDoor.P
open Go.RowKit Go.Proofs.YtabhfloclcmjnaaDoor.X Go.Proofs.YtabhfloclcmjnaaDoorW.PrintWords Go.Proofs.YtabhfloclcmjnaaDoorW.PrintLast Go.Proofs.YtabhfloclcmjnaaDoorW.PrintMore
attribute [local go_sem] max2_int min2_int max_two min_two max_three min_three max_four min_four   -- for this text's walks alone
set_option linter.unusedVariables false
set_option linter.unusedSimpArgs false

/-! ### diff_Diff: function 20 -/
mutual
def diff_Diff.j0 : Nat → List Int → List Int → Bool → Option ((List (S40)) × Int)
 | 0, _, _, _ => none
 | k + 1, x6, x8, x29 => if x29 = true then (some (([] : List (S40)), 2)) else (if (x6.length : Int) > 2000 then (diff_Diff.j1 k x6 x8 true) else (diff_Diff.j1 k x6 x8 (decide ((x8.length : Int) > 2000))))
def diff_Diff.j1 : Nat → List Int → List Int → Bool → Option ((List (S40)) × Int)
 | 0, _, _, _ => none
 | k + 1, x6, x8, x37 => if x37 = true then (some (([] : List (S40)), 4)) else ((diff_common_rune.f k x6 x8).bind fun t111 => (if 0 ≤ t111 then (if t111 ≤ (x6.length : Int) then ((some (x6.take (t111 : Int).toNat : List Int)).bind fun y112 => (diff_Diff.l0 k x6 x8 t111 ([] : List (S78)) y112 (y112.length : Int) 0)) else (none)) else (none)))
def diff_Diff.l0 : Nat → List Int → List Int → Int → List (S78) → List Int → Int → Int → Option ((List (S40)) × Int)
 | 0, _, _, _, _, _, _, _ => none
 | k + 1, x6, x8, x10, x11, x43, x44, x45 => if x45 < x44 then (if 0 ≤ x45 then (if x45 < (x43.length : Int) then (if x11.length < 8796093022208 then (diff_Diff.l0 k x6 x8 x10 (x11 ++ [(⟨0, rd x43 x45⟩ : S78)]) x43 x44 (wrap64 (x45 + 1))) else (none)) else (none)) else (none)) else (if 0 ≤ x10 then (if x10 ≤ (x6.length : Int) then (if x10 ≤ (x8.length : Int) then ((diff_steps.f (x6.drop (x10 : Int).toNat) (x8.drop (x10 : Int).toNat)).bind fun t128 => (if x11.length + t128.length < 8796093022208 then ((diff_merged.f (x11 ++ t128)).bind fun t134 => (some (t134, 0))) else (none))) else (none)) else (none)) else (none))
end
def diff_Diff.f (k : Nat) (a0 : ByteArray) (a1 : ByteArray) : Option ((List (S40)) × Int) := (runes_Split.f a0).bind fun bt103 => ((runes_Split.f a1).bind fun bt107 => (if bt103.2 = 0 then (diff_Diff.j0 k bt103.1 bt107.1 (bt107.2 != 0)) else (diff_Diff.j0 k bt103.1 bt107.1 true)))
theorem diff_Diff.mono_l : ∀ k, (∀ y0 y1 y2, LeO (diff_Diff.j0 k y0 y1 y2) (diff_Diff.j0 (k + 1) y0 y1 y2)) ∧ (∀ y0 y1 y2, LeO (diff_Diff.j1 k y0 y1 y2) (diff_Diff.j1 (k + 1) y0 y1 y2)) ∧ (∀ y0 y1 y2 y3 y4 y5 y6, LeO (diff_Diff.l0 k y0 y1 y2 y3 y4 y5 y6) (diff_Diff.l0 (k + 1) y0 y1 y2 y3 y4 y5 y6))
 | 0 => ⟨fun _ _ _ r h => by simp [diff_Diff.j0] at h, fun _ _ _ r h => by simp [diff_Diff.j1] at h, fun _ _ _ _ _ _ _ r h => by simp [diff_Diff.l0] at h⟩
 | k + 1 => by
  obtain ⟨ih0, ih1, ih2⟩ := diff_Diff.mono_l k
  refine ⟨?_, ?_, ?_⟩
  ·intro y0 y1 y2
   unfold diff_Diff.j0
   repeat' first
   | (with_reducible exact ih0 _ _ _)
   | (with_reducible exact ih1 _ _ _)
   | (with_reducible exact ih2 _ _ _ _ _ _ _)
   | (with_reducible exact diff_common_rune.mono _ _ _)
   | (with_reducible exact LeO.refl _)
   | (with_reducible exact LeO.none _)
   | (with_reducible refine LeO.ite ?_ ?_)
   | (with_reducible refine LeO.bind ?_ (fun _ => ?_))
   | exact ih0 _ _ _
   | exact ih1 _ _ _
   | exact ih2 _ _ _ _ _ _ _
   | exact diff_common_rune.mono _ _ _
   | exact LeO.none _
   | refine LeO.ite ?_ ?_
   | refine LeO.bind ?_ (fun _ => ?_)
  ·intro y0 y1 y2
   unfold diff_Diff.j1
   repeat' first
   | (with_reducible exact ih0 _ _ _)
   | (with_reducible exact ih1 _ _ _)
   | (with_reducible exact ih2 _ _ _ _ _ _ _)
   | (with_reducible exact diff_common_rune.mono _ _ _)
   | (with_reducible exact LeO.refl _)
   | (with_reducible exact LeO.none _)
   | (with_reducible refine LeO.ite ?_ ?_)
   | (with_reducible refine LeO.bind ?_ (fun _ => ?_))
   | exact ih0 _ _ _
   | exact ih1 _ _ _
   | exact ih2 _ _ _ _ _ _ _
   | exact diff_common_rune.mono _ _ _
   | exact LeO.none _
   | refine LeO.ite ?_ ?_
   | refine LeO.bind ?_ (fun _ => ?_)
  ·intro y0 y1 y2 y3 y4 y5 y6
   unfold diff_Diff.l0
   repeat' first
   | (with_reducible exact ih0 _ _ _)
   | (with_reducible exact ih1 _ _ _)
   | (with_reducible exact ih2 _ _ _ _ _ _ _)
   | (with_reducible exact diff_common_rune.mono _ _ _)
   | (with_reducible exact LeO.refl _)
   | (with_reducible exact LeO.none _)
   | (with_reducible refine LeO.ite ?_ ?_)
   | (with_reducible refine LeO.bind ?_ (fun _ => ?_))
   | exact ih0 _ _ _
   | exact ih1 _ _ _
   | exact ih2 _ _ _ _ _ _ _
   | exact diff_common_rune.mono _ _ _
   | exact LeO.none _
   | refine LeO.ite ?_ ?_
   | refine LeO.bind ?_ (fun _ => ?_)
theorem diff_Diff.mono : ∀ a0 a1 k, LeO (diff_Diff.f k a0 a1) (diff_Diff.f (k + 1) a0 a1) := by
 intro a0 a1 k
 obtain ⟨ih0, ih1, ih2⟩ := diff_Diff.mono_l k
 unfold diff_Diff.f
 repeat' first
   | (with_reducible exact ih0 _ _ _)
   | (with_reducible exact ih1 _ _ _)
   | (with_reducible exact ih2 _ _ _ _ _ _ _)
   | (with_reducible exact diff_common_rune.mono _ _ _)
   | (with_reducible exact LeO.refl _)
   | (with_reducible exact LeO.none _)
   | (with_reducible refine LeO.ite ?_ ?_)
   | (with_reducible refine LeO.bind ?_ (fun _ => ?_))
   | exact ih0 _ _ _
   | exact ih1 _ _ _
   | exact ih2 _ _ _ _ _ _ _
   | exact diff_common_rune.mono _ _ _
   | exact LeO.none _
   | refine LeO.ite ?_ ?_
   | refine LeO.bind ?_ (fun _ => ?_)
def diff_Diff.T14 : Bool × List (List Nat × List Nat) := (true, [([], []), ([], []), ([], []), ([1, 2], [1, 2]), ([], []), ([], []), ([4, 5], [4, 5]), ([3, 6], [3, 6]), ([0, 7, 7], [0, 7]), ([8, 8], [8]), ([9, 9, 0, 1, 2, 3, 4, 5, 6, 7, 8, 9], [9]), ([10, 0, 1, 2, 3, 4, 5, 6, 7, 8, 9, 10], [])])
def diff_Diff.B14 : List Nat := [0, 0, 0, 6, 0, 0, 48, 126, 255, 511, 1023, 2047]
theorem diff_Diff.tab14 : rtab .any (opsOf Tryd.f20 14) = diff_Diff.T14 := by kernel_rfl
theorem diff_Diff.bits14 : waitsOk diff_Diff.T14.2 diff_Diff.B14 = true := by kernel_rfl
set_option maxHeartbeats 8000000 in
set_option maxRecDepth 100000 in
theorem diff_Diff.calls (k : Nat) (a0 : ByteArray) (a1 : ByteArray) (r1 : List (S40)) (r2 : Int) (w : World) (hT : Aside0 (XAmb w)) (h : diff_Diff.f k a0 a1 = some (r1, r2)) :
  Calls Tryd.prog 20 #[.string a0, .string a1] w fun e w' => ∃ v0_ : Value, e = .returned (.tuple #[v0_, .int .i64 r2]) ∧ Kd.R k40 40 w' w.heap.size (fun _ => True) v0_ r1 ∧ Below w.heap.size w w' := by
 have hu78 := Tryd.underlying78
 have HB := Aside0.mk (Below.refl w.heap.size w)
 have H : ((runes_Split.f a0).bind fun bt103 => ((runes_Split.f a1).bind fun bt107 => (if bt103.2 = 0 then (diff_Diff.j0 k bt103.1 bt107.1 (bt107.2 != 0)) else (diff_Diff.j0 k bt103.1 bt107.1 true)))) = some (r1, r2) := h
 clear h
 replace H := Option.bind_eq_some_iff.mp H
 obtain ⟨⟨t103, t104⟩, A30, H⟩ := H
 replace H : ((runes_Split.f a1).bind fun bt107 => (if t104 = 0 then (diff_Diff.j0 k t103 bt107.1 (bt107.2 != 0)) else (diff_Diff.j0 k t103 bt107.1 true))) = some (r1, r2) := H
 have A3 := Aside0.mk A30
 clear A30
 replace H := Option.bind_eq_some_iff.mp H
 obtain ⟨⟨t107, t108⟩, A40, H⟩ := H
 replace H : (if t104 = 0 then (diff_Diff.j0 k t103 t107 (t108 != 0)) else (diff_Diff.j0 k t103 t107 true)) = some (r1, r2) := H
 have A4 := Aside0.mk A40
 clear A40
 have HC5 := Aside0.mk H
 clear H
 go_enter Tryd.func20, Tryd.ntmps20
 go_upto_region 3 with (first | ((with_reducible refine gate_callee (f := 39) rfl ?_); refine goesL_ (some 16) rfl rfl Tryd.func39 (by kernel_rfl) rfl #[.string a0] rfl (by (try simp only [List.map_toArray, List.map_cons, List.map_nil]); first | done | rfl | (simp only [List.length_drop, List.length_take]; rfl)) ?_; (with_reducible refine (runes_Split.calls a0 t103 t104 _ ?side1 A3.out).mono ?_); (case side1 => exact XAmb_step hT (hb0_ HB)); rintro e w6 ⟨v105, rfl, ho0, hb⟩; refine ⟨_, rfl, ?_⟩; have n0_ := Aside0.mk (Kd.R_lower ho0 (below_size (hb0_ HB))); have n1_ := Aside0.mk (below_step (hb0_ HB) hb); clear HB; have HO106 := n0_; have HB := n1_; clear n0_ n1_; (try clear hb); (try clear hb2); (try clear hk); (try clear hi); (try clear ho0)) | ((with_reducible refine gate_callee (f := 39) rfl ?_); refine goesL_ (some 21) rfl rfl Tryd.func39 (by kernel_rfl) rfl #[.string a1] rfl (by (try simp only [List.map_toArray, List.map_cons, List.map_nil]); first | done | rfl | (simp only [List.length_drop, List.length_take]; rfl)) ?_; (with_reducible refine (runes_Split.calls a1 t107 t108 _ ?side1 A4.out).mono ?_); (case side1 => exact XAmb_step hT (hb0_ HB)); rintro e w7 ⟨v109, rfl, ho0, hb⟩; refine ⟨_, rfl, ?_⟩; have n0_ := Aside0.mk (Kd.R_elder' (ro_ HO106) (Kd.R_base ho0) hb); have n1_ := Aside0.mk (Kd.R_lower (Kd.R_new' ho0 (Kd.R_lt (ro_ HO106))) (below_size (hb0_ HB))); have n2_ := Aside0.mk (below_step (hb0_ HB) hb); clear HO106; clear HB; have HO106 := n0_; have HO110 := n1_; have HB := n2_; clear n0_ n1_ n2_; (try clear hb); (try clear hb2); (try clear hk); (try clear hi); (try clear ho0)))
 (try simp only [Act.put, List.setIfInBounds_toArray, List.set_cons_zero, List.set_cons_succ])
 go_cut [29] (fun v29 wc => ∃ (kq : Nat) (x29_4 : Bool), v29 = .bool x29_4 ∧ Aside0 (diff_Diff.j0 kq t103 t107 x29_4 = some (r1, r2)) ∧ Aside0 (kq ≤ k) ∧ Aside0 (Kd.R (Kd.int .i32) 21 wc w.heap.size (fun k_ => some k_ ≠ (v109 : Value).ownBlock) v105 t103) ∧ Aside0 (Kd.R (Kd.int .i32) 21 wc w.heap.size (fun k_ => some k_ ≠ (v105 : Value).ownBlock) v109 t107) ∧ Aside0 (Below w.heap.size w wc))
 case first =>
  have H := HC5.out
  clear HC5
  by_cases c8 : t104 = 0
  ·rw [if_pos c8] at H
   have c8b0 : (t104 == 0) = true := beq_iff_eq.mpr c8
   have c8b1 : (t104 != 0) = false := bne_eq_false_iff_eq.mpr c8
   clear c8
   (first | rw [c8b0] | (simp only [i64_w, i32_w]; rw [c8b0]) | skip)
   have H' := Aside0.mk H
   clear H
   go_wp2
   go_meet
   case rel => exact ⟨_, ((t108 != 0)), (by first | rfl | (simp; done) | (simp [*]; done)), H', ⟨by first | omega | exact Nat.le_refl _⟩, ⟨by (with_reducible repeat (first | apply Kd.R_alloc | apply Kd.R_drewN | apply Kd.R_drew)); exact Kd.R_mono HO106.out (fun _ hk => hk.2)⟩, ⟨by (with_reducible repeat (first | apply Kd.R_alloc | apply Kd.R_drewN | apply Kd.R_drew)); exact Kd.R_mono HO110.out (fun _ hk => hk.2)⟩, ⟨hb0_ HB⟩⟩
  ·rw [if_neg c8] at H
   have c8b0 : (t104 == 0) = false := beq_eq_false_iff_ne.mpr c8
   have c8b1 : (t104 != 0) = true := bne_iff_ne.mpr c8
   (first | rw [c8b0] | (simp only [i64_w, i32_w]; rw [c8b0]) | skip)
   have H' := Aside0.mk H
   clear H
   go_wp2
   go_meet
   case rel => exact ⟨_, (true), (by first | rfl | (simp; done) | (simp [*]; done)), H', ⟨by first | omega | exact Nat.le_refl _⟩, ⟨by (with_reducible repeat (first | apply Kd.R_alloc | apply Kd.R_drewN | apply Kd.R_drew)); exact Kd.R_mono HO106.out (fun _ hk => hk.2)⟩, ⟨by (with_reducible repeat (first | apply Kd.R_alloc | apply Kd.R_drewN | apply Kd.R_drew)); exact Kd.R_mono HO110.out (fun _ hk => hk.2)⟩, ⟨hb0_ HB⟩⟩
 case rest =>
  clear HC5
  try clear c2
  try clear p2
  try clear c3
  try clear c8
  try clear c8b0
  try clear c8b1
  obtain ⟨kq, x29_4, rfl, HA, HJ4, HO_6, HO_8, HB⟩ := hcut
  cases kq with
  | zero => exact absurd HA.out (by simp [diff_Diff.j0])
  | succ kj4 =>
   have H := HA.out
   clear HA
   simp only [diff_Diff.j0] at H
   by_cases c9 : x29_4 = true
   ·subst c9
    have H1 : (some (([] : List (S40)), 2)) = some (r1, r2) := by rw [if_pos rfl] at H; exact H
    clear H
    have H := H1
    clear H1
    simp only [Option.some.injEq, Prod.mk.injEq] at H
    obtain ⟨rfl, rfl⟩ := H
    go_wp2
    go_ret2
    exact ⟨_, by first | rfl | (simp [errW_none, errW_some] <;> rfl) | (simp [*, errW_none, errW_some] <;> rfl), by first | exact Kd.R_nil _ _ _ _ _ | exact Kd.N_nil _ _ _ _ _ | exact Kd.V_nil _ _ _ _ _ | exact Kd.Q_nil _ _ _ _ _ | exact Kd.S_nil _ _ _ _ _, hb0_ HB⟩
   ·replace c9 := Bool.eq_false_iff.mpr c9
    subst c9
    have H1 : (if (t103.length : Int) > 2000 then (diff_Diff.j1 kj4 t103 t107 true) else (diff_Diff.j1 kj4 t103 t107 (decide ((t107.length : Int) > 2000)))) = some (r1, r2) := by rw [if_neg (show ¬ (false = true) by decide)] at H; exact H
    clear H
    have H := H1
    clear H1
    have HC10 := Aside0.mk H
    clear H
    go_upto_region 5 with (fail)
    go_cut [37] (fun v37 wc => ∃ (kq : Nat) (x37_9 : Bool), v37 = .bool x37_9 ∧ Aside0 (diff_Diff.j1 kq t103 t107 x37_9 = some (r1, r2)) ∧ Aside0 (kq ≤ kj4) ∧ Aside0 (Kd.R (Kd.int .i32) 21 wc w.heap.size (fun k_ => some k_ ≠ (v109 : Value).ownBlock) v105 t103) ∧ Aside0 (Kd.R (Kd.int .i32) 21 wc w.heap.size (fun k_ => some k_ ≠ (v105 : Value).ownBlock) v109 t107) ∧ Aside0 (Below w.heap.size w wc))
    case first =>
     have H := HC10.out
     clear HC10
     by_cases c11 : (t103.length : Int) > 2000
     ·rw [if_pos c11] at H
      have c11b0 : decide (2000 < (t103.length : Int)) = true := decide_eq_true c11
      have c11b1 : decide (2000 < t103.length) = true := decide_eq_true (by omega)
      clear c11
      (first | rw [c11b0] | (simp only [i64_w, i32_w]; rw [c11b0]) | skip)
      have H' := Aside0.mk H
      clear H
      obtain ⟨Ao12, co12, eo12⟩ := Kd.R_slice HO_6.out
      subst eo12
      go_wp2
      go_meet
      case rel => exact ⟨_, (true), (by first | rfl | (simp; done) | (simp [*]; done)), H', ⟨by have := HJ4.out; first | omega | exact Nat.le_refl _⟩, ⟨ro_ HO_6⟩, ⟨ro_ HO_8⟩, ⟨hb0_ HB⟩⟩
     ·rw [if_neg c11] at H
      have c11b0 : decide (2000 < (t103.length : Int)) = false := decide_eq_false c11
      have c11b1 : decide (2000 < t103.length) = false := decide_eq_false (by omega)
      clear c11
      (first | rw [c11b0] | (simp only [i64_w, i32_w]; rw [c11b0]) | skip)
      have H' := Aside0.mk H
      clear H
      obtain ⟨Ao13, co13, eo13⟩ := Kd.R_slice HO_6.out
      subst eo13
      obtain ⟨Ao14, co14, eo14⟩ := Kd.R_slice HO_8.out
      subst eo14
      go_wp2
      go_meet
      case rel => exact ⟨_, (decide ((t107.length : Int) > 2000)), (by first | rfl | (simp; done) | (simp [*]; done)), H', ⟨by have := HJ4.out; first | omega | exact Nat.le_refl _⟩, ⟨ro_ HO_6⟩, ⟨ro_ HO_8⟩, ⟨hb0_ HB⟩⟩
    case rest =>
     clear HC10
     try clear c1
     try clear c2
     try clear p2
     try clear c3
     try clear c8
     try clear c8b0
     try clear c8b1
     try clear c9
     try clear c11
     try clear c11b0
     try clear c11b1
     try clear p2
     obtain ⟨kq, x37_9, rfl, HA, HJ9, HO_6, HO_8, HB⟩ := hcut
     cases kq with
     | zero => exact absurd HA.out (by simp [diff_Diff.j1])
     | succ kj9 =>
      have H := HA.out
      clear HA
      simp only [diff_Diff.j1] at H
      by_cases c15 : x37_9 = true
      ·subst c15
       have H1 : (some (([] : List (S40)), 4)) = some (r1, r2) := by rw [if_pos rfl] at H; exact H
       clear H
       have H := H1
       clear H1
       simp only [Option.some.injEq, Prod.mk.injEq] at H
       obtain ⟨rfl, rfl⟩ := H
       go_wp2
       go_ret2
       exact ⟨_, by first | rfl | (simp [errW_none, errW_some] <;> rfl) | (simp [*, errW_none, errW_some] <;> rfl), by first | exact Kd.R_nil _ _ _ _ _ | exact Kd.N_nil _ _ _ _ _ | exact Kd.V_nil _ _ _ _ _ | exact Kd.Q_nil _ _ _ _ _ | exact Kd.S_nil _ _ _ _ _, hb0_ HB⟩
      ·replace c15 := Bool.eq_false_iff.mpr c15
       subst c15
       have H1 : ((diff_common_rune.f kj9 t103 t107).bind fun t111 => (if 0 ≤ t111 then (if t111 ≤ (t103.length : Int) then ((some (t103.take (t111 : Int).toNat : List Int)).bind fun y112 => (diff_Diff.l0 kj9 t103 t107 t111 ([] : List (S78)) y112 (y112.length : Int) 0)) else (none)) else (none))) = some (r1, r2) := by rw [if_neg (show ¬ (false = true) by decide)] at H; exact H
       clear H
       have H := H1
       clear H1
       replace H := Option.bind_eq_some_iff.mp H
       obtain ⟨t111, A160, H⟩ := H
       replace H : (if 0 ≤ t111 then (if t111 ≤ (t103.length : Int) then ((some (t103.take (t111 : Int).toNat : List Int)).bind fun y112 => (diff_Diff.l0 kj9 t103 t107 t111 ([] : List (S78)) y112 (y112.length : Int) 0)) else (none)) else (none)) = some (r1, r2) := H
       have A16 := Aside0.mk A160
       clear A160
       by_cases c17 : 0 ≤ t111
       ·rw [if_pos c17] at H
        have c17b0 := eq_true c17
        have c17b1 : decide (0 ≤ t111) = true := decide_eq_true c17
        clear c17
        by_cases c18 : t111 ≤ (t103.length : Int)
        ·rw [if_pos c18] at H
         have c18b0 := eq_true c18
         have c18b1 : decide (t111 ≤ (t103.length : Int)) = true := decide_eq_true c18
         clear c18
         obtain ⟨y112, hy112⟩ : ∃ y_ : List Int, y_ = (t103.take (t111 : Int).toNat) := ⟨_, rfl⟩
         replace H : (diff_Diff.l0 kj9 t103 t107 t111 ([] : List (S78)) y112 (y112.length : Int) 0) = some (r1, r2) := by first | (rw [hy112]; with_reducible exact H) | (have H2_ := (Option.bind_some _ _).symm.trans H; rw [hy112]; with_reducible exact H2_) | (have H2_ := (Option.bind_some _ _).symm.trans H; with_reducible exact H2_) | with_reducible exact H | (rw [hy112]; exact H) | exact H
         have Ny112 := Aside0.mk hy112
         clear hy112
         have H' := Aside0.mk H
         clear H
         obtain ⟨Ao19, co19, eo19⟩ := Kd.R_slice HO_6.out
         subst eo19
         obtain ⟨Ao20, co20, eo20⟩ := Kd.R_slice HO_8.out
         subst eo20
         go_wp2_with (first | ((with_reducible refine gate_callee (f := 40) rfl ?_); refine goesL_ (some 40) rfl rfl Tryd.func40 (by kernel_rfl) rfl #[.slice Ao19 t103.length co19, .slice Ao20 t107.length co20] rfl (by (try simp only [List.map_toArray, List.map_cons, List.map_nil]); first | done | rfl | (simp only [List.length_drop, List.length_take]; rfl)) ?_; (with_reducible refine (diff_common_rune.calls kj9 _ _ t103 _ _ t107 t111 _ ?side1 ?side2 ?side3 ?side4 A16.out).mono ?_); (case side1 => repeat (first | exact (Kd.R_reads' HO_6.out).2.2 | (with_reducible refine Kd.C_alloc ?_ _) | (with_reducible refine Kd.C_drewN ?_ _) | (with_reducible refine Kd.C_drew ?_))); (case side2 => exact (Kd.R_reads' HO_6.out).2.1); (case side3 => repeat (first | exact (Kd.R_reads' HO_8.out).2.2 | (with_reducible refine Kd.C_alloc ?_ _) | (with_reducible refine Kd.C_drewN ?_ _) | (with_reducible refine Kd.C_drew ?_))); (case side4 => exact (Kd.R_reads' HO_8.out).2.1); rintro e w' ⟨rfl, ⟨nd, rfl⟩⟩; refine ⟨_, rfl, ?_⟩; have q21 : (t111 : Int) ≤ ((t103.length : Int) : Int) := dt_; obtain ⟨i021, hi021, _, hsz21, _⟩ := info_parts info21; have hroom21 : t103.length ≤ co19 := (Kd.R_reads' HO_6.out).2.1; have hC21 : Kd.C (Kd.int .i32) _ Ao19 t103.length t103 := (Kd.R_reads' HO_6.out).2.2; have hcut21 := cut_to (P := Tryd.prog) 28 21 .i64 Tryd.underlying28 hi021 Ao19 t103.length co19 t111 (dt_) q21 hroom21; have hr21 := Kd.C_take (m := (t111 : Int).toNat) hC21 (by omega); have hy21 : y112.length = (t111 : Int).toNat := (by rw [Ny112.out, List.length_take]; omega); rw [← Ny112.out] at hr21; rw [← hy21] at hcut21; have HR115 := Aside0.mk hr21; have HC115 := Aside0.mk (show y112.length ≤ co19 from by omega); clear hr21 hC21 hroom21 hi021 hsz21; have KY21 := Aside0.mk hy21; clear hy21; have KL21 := Aside0.mk (show (t111 : Int).toNat ≤ t103.length from by omega); replace q21 := eq_true q21))
         go_loopg [11, 45] kj9 (fun kq v11 v45 w' => ∃ (x11_3 : List (S78)) (x45_3 : Int), v45 = .int .i64 x45_3 ∧ Aside0 (diff_Diff.l0 kq t103 t107 t111 x11_3 y112 (y112.length : Int) x45_3 = some (r1, r2)) ∧ Aside0 (kq ≤ kj9) ∧ Aside0 (Kd.R (Kd.int .i32) 21 w' w.heap.size (fun k_ => some k_ ≠ ((.slice Ao20 t107.length co20) : Value).ownBlock) (.slice Ao19 t103.length co19) t103) ∧ Aside0 (Kd.R (Kd.int .i32) 21 w' w.heap.size (fun k_ => some k_ ≠ ((.slice Ao19 t103.length co19) : Value).ownBlock) (.slice Ao20 t107.length co20) t107) ∧ Aside0 (Kd.R k78 78 w' w.heap.size (fun _ => True) v11 x11_3) ∧ Aside0 (Kd.C (Kd.int .i32) w' Ao19 y112.length y112) ∧ Aside0 (Below w.heap.size w w'))
         case atStart => exact ⟨(([] : List (S78))), (0), (by first | rfl | (simp; done) | (simp [*]; done)), H', ⟨Nat.le_refl _⟩, ⟨ro_ HO_6⟩, ⟨ro_ HO_8⟩, ⟨by first | exact Kd.R_nil _ _ _ _ _ | exact Kd.N_nil _ _ _ _ _ | exact Kd.V_nil _ _ _ _ _ | exact Kd.Q_nil _ _ _ _ _ | exact Kd.S_nil _ _ _ _ _⟩, ⟨by repeat (first | (with_reducible exact HR115.out) | (with_reducible refine Kd.C_alloc ?_ _) | (with_reducible refine Kd.C_drewN ?_ _) | (with_reducible refine Kd.C_drew ?_) | exact HR115.out)⟩, ⟨hb0_ HB⟩⟩
         case round =>
          clear H'
          try clear c1
          try clear c2
          try clear p2
          try clear q2
          try clear c3
          try clear c4
          try clear c8
          try clear c8b0
          try clear c8b1
          try clear c9
          try clear c11
          try clear c11b0
          try clear c11b1
          try clear c15
          try clear c17
          try clear c17b0
          try clear c17b1
          try clear c18
          try clear c18b0
          try clear c18b1
          try clear c20
          try clear q21
          try clear p2
          try clear q21
          obtain ⟨x11_3, x45_3, rfl, HA, HK3, HO_6, HO_8, HO_11, HR115, HB⟩ := hrel
          cases gk with
          | zero => exact absurd HA.out (by simp [diff_Diff.l0])
          | succ k3 =>
           have H := HA.out
           clear HA
           simp only [diff_Diff.l0] at H
           by_cases c22 : x45_3 < (y112.length : Int)
           ·rw [if_pos c22] at H
            have c22b0 : decide (x45_3 < (y112.length : Int)) = true := decide_eq_true c22
            clear c22
            by_cases c23 : 0 ≤ x45_3
            ·rw [if_pos c23] at H
             have c23b0 : decide (0 ≤ x45_3) = true := decide_eq_true c23
             clear c23
             by_cases c24 : x45_3 < (y112.length : Int)
             ·rw [if_pos c24] at H
              have c24b0 : decide (x45_3 < (y112.length : Int)) = true := decide_eq_true c24
              clear c24
              by_cases c25 : x11_3.length < 8796093022208
              ·rw [if_pos c25] at H
               have LMc25 := Aside0.mk c25
               clear c25
               obtain ⟨y117, hy117⟩ : ∃ y_ : List (S78), y_ = (x11_3 ++ [(⟨0, rd y112 x45_3⟩ : S78)]) := ⟨_, rfl⟩
               replace H : (diff_Diff.l0 k3 t103 t107 t111 y117 y112 (y112.length : Int) (wrap64 (x45_3 + 1))) = some (r1, r2) := by first | (rw [hy117]; with_reducible exact H) | (have H2_ := (Option.bind_some _ _).symm.trans H; rw [hy117]; with_reducible exact H2_) | (have H2_ := (Option.bind_some _ _).symm.trans H; with_reducible exact H2_) | with_reducible exact H | (rw [hy117]; exact H) | exact H
               have Ny117 := Aside0.mk hy117
               clear hy117
               have H' := Aside0.mk H
               clear H
               have p116 : 0 ≤ (x45_3 : Int) := dt_
               have q116 : x45_3 < (y112.length : Int) := dt_
               obtain ⟨ad116, e116, hx116_0⟩ := Kd.at_int HR115.out x45_3 p116 q116
               cases e116
               (try replace hx116_0 := (HB.out.cell (World.block_lt_of_cell? w _ hx116_0)).trans hx116_0)
               replace p116 := eq_true p116
               replace q116 := eq_true q116
               go_wp2_with (first | ((with_reducible refine gate_builtin (b := .append) (xs := #[.tmp 49, .tmp 52]) rfl ?_); (try (refine gate_guard (by rfl) ?_; dsimp only)); at_builtin; refine Kd.R_append k78 (w0 := w) w.heap.size rfl (.tmp 49) (.tmp 52) 76 78 (.agg #[(.int .i64 0), (.int .i32 0)]) 16 rfl Tryd.underlying76 info78 rfl (by decide) (by omega) u11 x11_3 (⟨0, rd y112 x45_3⟩ : S78) [.int .i64 0, .int .i32 (rd y112 x45_3)] (fun _ => True) (fun _ => False) rfl rfl ?aP (fun _ hk => hk.elim) ?aF ?aO ?aB ?aS ?aL ?_; (case aP => exact k78_mkM _ _ _ (⟨0, rd y112 x45_3⟩ : S78)); (case aB => exact (hb0_ HB)); (case aF => exact (fun _ _ => trivial)); (case aO => exact (ro_ HO_11)); (case aS => exact (below_size (hb0_ HB))); (case aL => have := LMc25.out; omega); intro v118 w26 ho hb hg hat; rw [← Ny117.out] at ho; have n0_ := Aside0.mk (Kd.R_over' (ro_ HO_6) (Kd.R_typed (ro_ HO_11)) (by decide) hg); have n1_ := Aside0.mk (Kd.R_over' (ro_ HO_8) (Kd.R_typed (ro_ HO_11)) (by decide) hg); have n2_ := Aside0.mk (hb); have n3_ := Aside0.mk ((show Kd.C (Kd.int .i32) w26 (some ad116) y112.length y112 from by rw [Ny112.out]; exact Kd.C_take (m := (t111 : Int).toNat) ((Kd.R_reads' (Kd.R_over' (ro_ HO_6) (Kd.R_typed (ro_ HO_11)) (by decide) hg)).2.2) KL21.out)); have n4_ := Aside0.mk (ho); clear HO_6; clear HO_8; clear HB; clear HR115; clear HO_11; have HO_6 := n0_; have HO_8 := n1_; have HB := n2_; have HR115 := n3_; have HO119 := n4_; clear n0_ n1_ n2_ n3_ n4_; clear ho hb hg hat))
               go_roundg k3
               case measure => have := HJ4.out; have := HJ9.out; have := HK3.out; omega
               case rel => exact ⟨(y117), (wrap64 (x45_3 + 1)), (by first | rfl | (simp; done) | (simp [*]; done)), H', ⟨by have := HJ4.out; have := HJ9.out; have := HK3.out; omega⟩, ⟨ro_ HO_6⟩, ⟨ro_ HO_8⟩, ⟨ro_ HO119⟩, ⟨by repeat (first | (with_reducible exact HR115.out) | (with_reducible refine Kd.C_alloc ?_ _) | (with_reducible refine Kd.C_drewN ?_ _) | (with_reducible refine Kd.C_drew ?_) | exact HR115.out)⟩, ⟨hb0_ HB⟩⟩
              ·rw [if_neg c25] at H
               exact absurd H (by simp)
             ·rw [if_neg c24] at H
              exact absurd H (by simp)
            ·rw [if_neg c23] at H
             exact absurd H (by simp)
           ·rw [if_neg c22] at H
            have c22b0 : decide (x45_3 < (y112.length : Int)) = false := decide_eq_false c22
            clear c22
            by_cases c27 : 0 ≤ t111
            ·rw [if_pos c27] at H
             have c27b0 := eq_true c27
             have c27b1 : decide (0 ≤ t111) = true := decide_eq_true c27
             clear c27
             by_cases c28 : t111 ≤ (t103.length : Int)
             ·rw [if_pos c28] at H
              have c28b0 := eq_true c28
              have c28b1 : decide (t111 ≤ (t103.length : Int)) = true := decide_eq_true c28
              clear c28
              obtain ⟨y120, hy120⟩ : ∃ y_ : List Int, y_ = (t103.drop (t111 : Int).toNat) := ⟨_, rfl⟩
              replace H : (if t111 ≤ (t107.length : Int) then ((diff_steps.f y120 (t107.drop (t111 : Int).toNat)).bind fun t128 => (if x11_3.length + t128.length < 8796093022208 then ((diff_merged.f (x11_3 ++ t128)).bind fun t134 => (some (t134, 0))) else (none))) else (none)) = some (r1, r2) := by first | (rw [hy120]; with_reducible exact H) | (have H2_ := (Option.bind_some _ _).symm.trans H; rw [hy120]; with_reducible exact H2_) | (have H2_ := (Option.bind_some _ _).symm.trans H; with_reducible exact H2_) | with_reducible exact H | (rw [hy120]; exact H) | exact H
              have Ny120 := Aside0.mk hy120
              clear hy120
              have c29b0 := eq_true (dt_ : 0 ≤ t111)
              by_cases c30 : t111 ≤ (t107.length : Int)
              ·rw [if_pos c30] at H
               have c30b0 := eq_true c30
               have c30b1 : decide (t111 ≤ (t107.length : Int)) = true := decide_eq_true c30
               clear c30
               obtain ⟨y124, hy124⟩ : ∃ y_ : List Int, y_ = (t107.drop (t111 : Int).toNat) := ⟨_, rfl⟩
               replace H : ((diff_steps.f y120 y124).bind fun t128 => (if x11_3.length + t128.length < 8796093022208 then ((diff_merged.f (x11_3 ++ t128)).bind fun t134 => (some (t134, 0))) else (none))) = some (r1, r2) := by first | (rw [hy124]; with_reducible exact H) | (have H2_ := (Option.bind_some _ _).symm.trans H; rw [hy124]; with_reducible exact H2_) | (have H2_ := (Option.bind_some _ _).symm.trans H; with_reducible exact H2_) | with_reducible exact H | (rw [hy124]; exact H) | exact H
               have Ny124 := Aside0.mk hy124
               clear hy124
               replace H := Option.bind_eq_some_iff.mp H
               obtain ⟨t128, A310, H⟩ := H
               replace H : (if x11_3.length + t128.length < 8796093022208 then ((diff_merged.f (x11_3 ++ t128)).bind fun t134 => (some (t134, 0))) else (none)) = some (r1, r2) := H
               have A31 := Aside0.mk A310
               clear A310
               by_cases c32 : x11_3.length + t128.length < 8796093022208
               ·rw [if_pos c32] at H
                have LMc32 := Aside0.mk c32
                clear c32
                obtain ⟨y131, hy131⟩ : ∃ y_ : List (S78), y_ = (x11_3 ++ t128) := ⟨_, rfl⟩
                replace H : ((diff_merged.f y131).bind fun t134 => (some (t134, 0))) = some (r1, r2) := by first | (rw [hy131]; with_reducible exact H) | (have H2_ := (Option.bind_some _ _).symm.trans H; rw [hy131]; with_reducible exact H2_) | (have H2_ := (Option.bind_some _ _).symm.trans H; with_reducible exact H2_) | with_reducible exact H | (rw [hy131]; exact H) | exact H
                have Ny131 := Aside0.mk hy131
                clear hy131
                replace H := Option.bind_eq_some_iff.mp H
                obtain ⟨t134, A330, H⟩ := H
                replace H : (some (t134, 0)) = some (r1, r2) := H
                have A33 := Aside0.mk A330
                clear A330
                simp only [Option.some.injEq, Prod.mk.injEq] at H
                obtain ⟨rfl, rfl⟩ := H
                try go_wp2
                have n0_ := Aside0.mk (Kd.R_drew HO_6.out)
                have n1_ := Aside0.mk (Kd.R_drew HO_8.out)
                have n2_ := Aside0.mk (Kd.R_drew HO_11.out)
                have n3_ := Aside0.mk (Kd.C_drew HR115.out)
                have n4_ := Aside0.mk (below_drew1 HB.out)
                clear HO_6
                clear HO_8
                clear HO_11
                clear HR115
                clear HB
                have HO_6 := n0_
                have HO_8 := n1_
                have HO_11 := n2_
                have HR115 := n3_
                have HB := n4_
                clear n0_ n1_ n2_ n3_ n4_
                have q35 : (t111 : Int) ≤ ((t103.length : Int) : Int) := dt_
                obtain ⟨i035, hi035, _, hsz35, _⟩ := info_parts info21
                have hroom35 : t103.length ≤ co19 := (Kd.R_reads' HO_6.out).2.1
                have hC35 : Kd.C (Kd.int .i32) _ Ao19 t103.length t103 := (Kd.R_reads' HO_6.out).2.2
                have q035 : (0 : Int) ≤ (t111 : Int) := dt_
                have hcut35 := cut_from (P := Tryd.prog) 28 21 .i64 Tryd.underlying28 hi035 1 hsz35 Ao19 t103.length co19 t111 q035 q35
                have hr35 := Kd.C_drop (m := (t111 : Int).toNat) (c := co19) hC35 (by omega) hroom35
                obtain ⟨A35, hA35⟩ : ∃ A1, A1 = (if co19 = (t111 : Int).toNat then Ao19 else (Ao19 : Option Addr).map (·.add ((t111 : Int).toNat * 1))) := ⟨_, rfl⟩
                obtain ⟨c35, hc35⟩ : ∃ c1, c1 = co19 - (t111 : Int).toNat := ⟨_, rfl⟩
                have hy35 : y120.length = t103.length - (t111 : Int).toNat := (by rw [Ny120.out, List.length_drop] <;> omega)
                rw [show (t103).drop (t111 : Int).toNat = y120 from Ny120.out.symm] at hr35
                replace hr35 : Kd.C (Kd.int .i32) _ A35 y120.length y120 := (by rw [hA35]; exact hr35)
                rw [← hy35, ← hA35, ← hc35] at hcut35
                have HR123 := Aside0.mk hr35
                have HC123 := Aside0.mk (show y120.length ≤ c35 from by rw [hy35, hc35]; exact Nat.sub_le_sub_right hroom35 _)
                clear hr35 hC35 hroom35 hi035 hsz35 hc35
                have KY35 := Aside0.mk hy35
                have KA35 := Aside0.mk hA35
                clear hy35 hA35
                have KL35 := Aside0.mk (show (t111 : Int).toNat ≤ t103.length from by omega)
                replace q35 := eq_true q35
                have q36 : (t111 : Int) ≤ ((t107.length : Int) : Int) := dt_
                obtain ⟨i036, hi036, _, hsz36, _⟩ := info_parts info21
                have hroom36 : t107.length ≤ co20 := (Kd.R_reads' HO_8.out).2.1
                have hC36 : Kd.C (Kd.int .i32) _ Ao20 t107.length t107 := (Kd.R_reads' HO_8.out).2.2
                have q036 : (0 : Int) ≤ (t111 : Int) := dt_
                have hcut36 := cut_from (P := Tryd.prog) 28 21 .i64 Tryd.underlying28 hi036 1 hsz36 Ao20 t107.length co20 t111 q036 q36
                have hr36 := Kd.C_drop (m := (t111 : Int).toNat) (c := co20) hC36 (by omega) hroom36
                obtain ⟨A36, hA36⟩ : ∃ A1, A1 = (if co20 = (t111 : Int).toNat then Ao20 else (Ao20 : Option Addr).map (·.add ((t111 : Int).toNat * 1))) := ⟨_, rfl⟩
                obtain ⟨c36, hc36⟩ : ∃ c1, c1 = co20 - (t111 : Int).toNat := ⟨_, rfl⟩
                have hy36 : y124.length = t107.length - (t111 : Int).toNat := (by rw [Ny124.out, List.length_drop] <;> omega)
                rw [show (t107).drop (t111 : Int).toNat = y124 from Ny124.out.symm] at hr36
                replace hr36 : Kd.C (Kd.int .i32) _ A36 y124.length y124 := (by rw [hA36]; exact hr36)
                rw [← hy36, ← hA36, ← hc36] at hcut36
                have HR127 := Aside0.mk hr36
                have HC127 := Aside0.mk (show y124.length ≤ c36 from by rw [hy36, hc36]; exact Nat.sub_le_sub_right hroom36 _)
                clear hr36 hC36 hroom36 hi036 hsz36 hc36
                have KY36 := Aside0.mk hy36
                have KA36 := Aside0.mk hA36
                clear hy36 hA36
                have KL36 := Aside0.mk (show (t111 : Int).toNat ≤ t107.length from by omega)
                replace q36 := eq_true q36
                refine start_ (n := 12) (S := fun w' => True) (ds := []) #[false, false, false, false, false, false, false, false, false, false, false, false] (by kernel_rfl) rfl rfl trivial (fun hHeld => ?_); refine with_tabW diff_Diff.tab14 diff_Diff.bits14 (fun HT_ HW_ => ?_)
                generalize wr.drew = w34 at HO_6 HO_8 HO_11 HR115 HB HR123 HR127 hHeld ⊢
                refine pure_ (i := 0) (N := some 55) (v := ?_) (a' := ?_) #[true, false, false, false, false, false, false, false, false, false, false, false] rfl rfl (any_of HT_.out (by kernel_rfl)) (fun _ _ _ h => h) (Or.inl ⟨by rfl, ?_⟩) ?_ ?_
                rotate_left
                ·intro w'
                 go_simp
                 with_reducible rfl
                rotate_left
                ·simp only [Act.put, List.setIfInBounds_toArray, List.set_cons_zero, List.set_cons_succ, i64_w, i32_w]
                 rfl
                refine pure_ (i := 1) (N := some 56) (v := ?_) (a' := ?_) #[true, true, false, false, false, false, false, false, false, false, false, false] rfl rfl (any_of HT_.out (by kernel_rfl)) (fun _ _ _ h => h) (Or.inl ⟨by rfl, ?_⟩) ?_ ?_
                rotate_left
                ·intro w'
                 go_simp
                 with_reducible rfl
                rotate_left
                ·simp only [Act.put, List.setIfInBounds_toArray, List.set_cons_zero, List.set_cons_succ, i64_w, i32_w]
                 rfl
                refine pure_ (i := 2) (N := some 57) (v := ?_) (a' := ?_) #[true, true, true, false, false, false, false, false, false, false, false, false] rfl rfl (any_of HT_.out (by kernel_rfl)) (fun _ _ _ h => h) (Or.inl ⟨by rfl, ?_⟩) ?_ ?_
                rotate_left
                ·intro w'
                 go_simp
                 with_reducible rfl
                rotate_left
                ·simp only [Act.put, List.setIfInBounds_toArray, List.set_cons_zero, List.set_cons_succ, i64_w, i32_w]
                 rfl
                refine pure_ (i := 3) (N := some 58) (v := ?_) (a' := ?_) #[true, true, true, true, false, false, false, false, false, false, false, false] rfl rfl (any_of HT_.out (by kernel_rfl)) (fun _ _ _ h => h) (Or.inl ⟨by rfl, ?_⟩) ?_ ?_
                rotate_left
                ·intro w'
                 go_simp
                 with_reducible rfl
                rotate_left
                ·simp only [Act.put, List.setIfInBounds_toArray, List.set_cons_zero, List.set_cons_succ, i64_w, i32_w]
                 rfl
                refine pure_ (i := 4) (N := some 59) (v := ?_) (a' := ?_) #[true, true, true, true, true, false, false, false, false, false, false, false] rfl rfl (any_of HT_.out (by kernel_rfl)) (fun _ _ _ h => h) (Or.inl ⟨by rfl, ?_⟩) ?_ ?_
                rotate_left
                ·intro w'
                 go_simp
                 with_reducible rfl
                rotate_left
                ·simp only [Act.put, List.setIfInBounds_toArray, List.set_cons_zero, List.set_cons_succ, i64_w, i32_w]
                 rfl
                refine pure_ (i := 5) (N := some 60) (v := ?_) (a' := ?_) #[true, true, true, true, true, true, false, false, false, false, false, false] rfl rfl (any_of HT_.out (by kernel_rfl)) (fun _ _ _ h => h) (Or.inl ⟨by rfl, ?_⟩) ?_ ?_
                rotate_left
                ·intro w'
                 go_simp
                 with_reducible rfl
                rotate_left
                ·simp only [Act.put, List.setIfInBounds_toArray, List.set_cons_zero, List.set_cons_succ, i64_w, i32_w]
                 rfl
                refine pure_ (i := 6) (N := some 61) (v := ?_) (a' := ?_) #[true, true, true, true, true, true, true, false, false, false, false, false] rfl rfl (any_of HT_.out (by kernel_rfl)) (fun _ _ _ h => h) (Or.inl ⟨by rfl, ?_⟩) ?_ ?_
                rotate_left
                ·intro w'
                 go_simp
                 with_reducible rfl
                rotate_left
                ·simp only [Act.put, List.setIfInBounds_toArray, List.set_cons_zero, List.set_cons_succ, i64_w, i32_w]
                 rfl
                refine one_ (i := 7) (N := some 62) #[true, true, true, true, true, true, true, true, false, false, false, false] rfl rfl (one_of HT_.out (by kernel_rfl)) (by decide) (fun K hK => ?_)
                refine goes_ Tryd.func42 (by kernel_rfl) rfl #[.slice A35 y120.length c35, .slice A36 y124.length c36] (by rfl) rfl rfl (by (try simp only [List.map_toArray, List.map_cons, List.map_nil]); first | done | rfl | (simp only [List.length_drop, List.length_take]; rfl)) ?_
                with_reducible refine (diff_steps.calls _ _ y120 _ _ y124 t128 _ ?side1 ?side2 ?side3 ?side4 A31.out).mono ?_
                (case side1 => repeat (first | exact (by repeat (first | (with_reducible exact HR123.out) | (with_reducible refine Kd.C_alloc ?_ _) | (with_reducible refine Kd.C_drewN ?_ _) | (with_reducible refine Kd.C_drew ?_) | exact HR123.out)) | (with_reducible refine Kd.C_alloc ?_ _) | (with_reducible refine Kd.C_drewN ?_ _) | (with_reducible refine Kd.C_drew ?_)))
                (case side2 => exact HC123.out)
                (case side3 => repeat (first | exact (by repeat (first | (with_reducible exact HR127.out) | (with_reducible refine Kd.C_alloc ?_ _) | (with_reducible refine Kd.C_drewN ?_ _) | (with_reducible refine Kd.C_drew ?_) | exact HR127.out)) | (with_reducible refine Kd.C_alloc ?_ _) | (with_reducible refine Kd.C_drewN ?_ _) | (with_reducible refine Kd.C_drew ?_)))
                (case side4 => exact HC127.out)
                rintro e w37 ⟨v129, rfl, ho0, hb⟩
                refine ⟨_, rfl, ?_⟩
                have n0_ := Aside0.mk (Kd.R_below (ro_ HO_6) hb)
                have n1_ := Aside0.mk (Kd.R_below (ro_ HO_8) hb)
                have n2_ := Aside0.mk (Kd.R_elder' (ro_ HO_11) (Kd.R_base ho0) hb)
                have n3_ := Aside0.mk (Kd.R_lower (Kd.R_new' ho0 (Kd.R_lt (ro_ HO_11))) (below_size (hb0_ HB)))
                have n4_ := Aside0.mk (Kd.C_below (by repeat (first | (with_reducible exact HR115.out) | (with_reducible refine Kd.C_alloc ?_ _) | (with_reducible refine Kd.C_drewN ?_ _) | (with_reducible refine Kd.C_drew ?_) | exact HR115.out)) hb)
                have n5_ := Aside0.mk (Kd.C_below (by repeat (first | (with_reducible exact HR123.out) | (with_reducible refine Kd.C_alloc ?_ _) | (with_reducible refine Kd.C_drewN ?_ _) | (with_reducible refine Kd.C_drew ?_) | exact HR123.out)) hb)
                have n6_ := Aside0.mk (Kd.C_below (by repeat (first | (with_reducible exact HR127.out) | (with_reducible refine Kd.C_alloc ?_ _) | (with_reducible refine Kd.C_drewN ?_ _) | (with_reducible refine Kd.C_drew ?_) | exact HR127.out)) hb)
                have n7_ := Aside0.mk (below_step (hb0_ HB) hb)
                clear HO_6
                clear HO_8
                clear HO_11
                clear HR115
                clear HR123
                clear HR127
                clear HB
                have HO_6 := n0_
                have HO_8 := n1_
                have HO_11 := n2_
                have HO130 := n3_
                have HR115 := n4_
                have HR123 := n5_
                have HR127 := n6_
                have HB := n7_
                clear n0_ n1_ n2_ n3_ n4_ n5_ n6_ n7_
                (try clear hb)
                (try clear hb2)
                (try clear hk)
                (try clear hi)
                (try clear ho0)
                obtain ⟨Ao39, co39, eo39⟩ := Kd.R_slice HO130.out
                (first | subst eo39 | (injection eo39 with f1_ f2_ f3_; have f4_ := f1_.symm; have f5_ := f3_.symm; clear f1_ f2_ f3_; subst f4_; subst f5_))
                refine hK.out _ _ trivial (fun hHeld => ?_)
                clear hK K
                refine norm_ (a' := ?_) ?_ ?_
                rotate_left
                ·show Act.put _ (some 62) _ = _
                 simp only [Act.put, List.setIfInBounds_toArray, List.set_cons_zero, List.set_cons_succ, i64_w, i32_w]
                 rfl
                refine one_ (i := 8) (N := some 63) #[true, true, true, true, true, true, true, true, true, false, false, false] rfl rfl (one_of HT_.out (by kernel_rfl)) (by decide) (fun K hK => ?_)
                refine Kd.R_append_rows_step k78 (w0 := w) w.heap.size (by rfl) (.tmp 55) (.tmp 62) 76 78 (.agg #[(.int .i64 0), (.int .i32 0)]) 16 rfl Tryd.underlying76 info78 rfl (by decide) (by omega) u11 x11_3 t128 _ _ _ (fun k_ => some k_ ≠ (.slice Ao39 t128.length co39 : Value).ownBlock) (fun _ => False) rfl rfl ?aO ?aR (fun _ _ h => h) (fun _ h => h.elim) ?aF ?aB ?aS ?aL ?_
                (case aR => repeat (first | exact (Kd.R_reads' HO130.out).2.2 | (with_reducible refine Kd.C_alloc ?_ _) | (with_reducible refine Kd.C_drewN ?_ _) | (with_reducible refine Kd.C_drew ?_)))
                (case aB => exact (hb0_ HB))
                (case aF => exact (fun k_ hk => Kd.fresh' (Kd.R_lt (ro_ HO130)) k_ hk))
                (case aO => exact (by (with_reducible repeat (first | apply Kd.R_alloc | apply Kd.R_drewN | apply Kd.R_drew)); exact Kd.R_mono HO_11.out (fun _ hk => hk.2)))
                (case aS => exact (below_size (hb0_ HB)))
                (case aL => have := LMc32.out; omega)
                intro v132 w38 ho hb hg hat
                rw [← Ny131.out] at ho
                have n0_ := Aside0.mk (Kd.R_over' (ro_ HO_6) (Kd.R_typed (ro_ HO_11)) (by decide) hg)
                have n1_ := Aside0.mk (Kd.R_over' (ro_ HO_8) (Kd.R_typed (ro_ HO_11)) (by decide) hg)
                have n2_ := Aside0.mk (Kd.R_after (ok := (fun _ => True)) (ro_ HO130) hg hat)
                have n3_ := Aside0.mk (hb)
                have n4_ := Aside0.mk ((show Kd.C (Kd.int .i32) w38 Ao19 y112.length y112 from by rw [Ny112.out]; exact Kd.C_take (m := (t111 : Int).toNat) ((Kd.R_reads' (Kd.R_over' (ro_ HO_6) (Kd.R_typed (ro_ HO_11)) (by decide) hg)).2.2) KL21.out))
                have n5_ := Aside0.mk ((show Kd.C (Kd.int .i32) w38 A35 y120.length y120 from by rw [Ny120.out, KA35.out]; exact Kd.C_drop (m := (t111 : Int).toNat) (c := co19) ((Kd.R_reads' (Kd.R_over' (ro_ HO_6) (Kd.R_typed (ro_ HO_11)) (by decide) hg)).2.2) KL35.out ((Kd.R_reads' (Kd.R_over' (ro_ HO_6) (Kd.R_typed (ro_ HO_11)) (by decide) hg)).2.1)))
                have n6_ := Aside0.mk ((show Kd.C (Kd.int .i32) w38 A36 y124.length y124 from by rw [Ny124.out, KA36.out]; exact Kd.C_drop (m := (t111 : Int).toNat) (c := co20) ((Kd.R_reads' (Kd.R_over' (ro_ HO_8) (Kd.R_typed (ro_ HO_11)) (by decide) hg)).2.2) KL36.out ((Kd.R_reads' (Kd.R_over' (ro_ HO_8) (Kd.R_typed (ro_ HO_11)) (by decide) hg)).2.1)))
                have n7_ := Aside0.mk (ho)
                clear HO_6
                clear HO_8
                clear HO130
                clear HB
                clear HR115
                clear HR123
                clear HR127
                clear HO_11
                have HO_6 := n0_
                have HO_8 := n1_
                have HO130 := n2_
                have HB := n3_
                have HR115 := n4_
                have HR123 := n5_
                have HR127 := n6_
                have HO133 := n7_
                clear n0_ n1_ n2_ n3_ n4_ n5_ n6_ n7_
                clear ho hb hg hat
                obtain ⟨Ao40, co40, eo40⟩ := Kd.R_slice HO133.out
                (first | subst eo40 | (injection eo40 with f1_ f2_ f3_; have f4_ := f1_.symm; have f5_ := f3_.symm; clear f1_ f2_ f3_; subst f4_; subst f5_))
                refine hK.out _ _ trivial (fun hHeld => ?_)
                clear hK K
                refine norm_ (a' := ?_) ?_ ?_
                rotate_left
                ·show Act.put _ (some 63) _ = _
                 simp only [Act.put, List.setIfInBounds_toArray, List.set_cons_zero, List.set_cons_succ, i64_w, i32_w]
                 rfl
                refine one_ (i := 9) (N := some 64) #[true, true, true, true, true, true, true, true, true, true, false, false] rfl rfl (one_of HT_.out (by kernel_rfl)) (by decide) (fun K hK => ?_)
                refine goes_ Tryd.func41 (by kernel_rfl) rfl #[.slice Ao40 y131.length co40] (by rfl) rfl rfl (by (try simp only [List.map_toArray, List.map_cons, List.map_nil]); first | done | rfl | (simp only [List.length_drop, List.length_take]; rfl)) ?_
                with_reducible refine (diff_merged.calls _ _ y131 t134 _ ?side1 ?side2 A33.out).mono ?_
                (case side1 => repeat (first | exact (Kd.R_reads' HO133.out).2.2 | (with_reducible refine Kd.C_alloc ?_ _) | (with_reducible refine Kd.C_drewN ?_ _) | (with_reducible refine Kd.C_drew ?_)))
                (case side2 => exact (Kd.R_reads' HO133.out).2.1)
                rintro e w41 ⟨v135, rfl, ho0, hb⟩
                refine ⟨_, rfl, ?_⟩
                have n0_ := Aside0.mk (Kd.R_below (ro_ HO_6) hb)
                have n1_ := Aside0.mk (Kd.R_below (ro_ HO_8) hb)
                have n2_ := Aside0.mk (Kd.R_below (ro_ HO130) hb)
                have n3_ := Aside0.mk (Kd.R_below (ro_ HO133) hb)
                have n4_ := Aside0.mk (Kd.R_lower ho0 (below_size (hb0_ HB)))
                have n5_ := Aside0.mk (Kd.C_below (by repeat (first | (with_reducible exact HR115.out) | (with_reducible refine Kd.C_alloc ?_ _) | (with_reducible refine Kd.C_drewN ?_ _) | (with_reducible refine Kd.C_drew ?_) | exact HR115.out)) hb)
                have n6_ := Aside0.mk (Kd.C_below (by repeat (first | (with_reducible exact HR123.out) | (with_reducible refine Kd.C_alloc ?_ _) | (with_reducible refine Kd.C_drewN ?_ _) | (with_reducible refine Kd.C_drew ?_) | exact HR123.out)) hb)
                have n7_ := Aside0.mk (Kd.C_below (by repeat (first | (with_reducible exact HR127.out) | (with_reducible refine Kd.C_alloc ?_ _) | (with_reducible refine Kd.C_drewN ?_ _) | (with_reducible refine Kd.C_drew ?_) | exact HR127.out)) hb)
                have n8_ := Aside0.mk (below_step (hb0_ HB) hb)
                clear HO_6
                clear HO_8
                clear HO130
                clear HO133
                clear HR115
                clear HR123
                clear HR127
                clear HB
                have HO_6 := n0_
                have HO_8 := n1_
                have HO130 := n2_
                have HO133 := n3_
                have HO136 := n4_
                have HR115 := n5_
                have HR123 := n6_
                have HR127 := n7_
                have HB := n8_
                clear n0_ n1_ n2_ n3_ n4_ n5_ n6_ n7_ n8_
                (try clear hb)
                (try clear hb2)
                (try clear hk)
                (try clear hi)
                (try clear ho0)
                refine hK.out _ _ trivial (fun hHeld => ?_)
                clear hK K
                refine norm_ (a' := ?_) ?_ ?_
                rotate_left
                ·show Act.put _ (some 64) _ = _
                 simp only [Act.put, List.setIfInBounds_toArray, List.set_cons_zero, List.set_cons_succ, i64_w, i32_w]
                 rfl
                refine pure_ (i := 10) (N := some 4) (v := ?_) (a' := ?_) #[true, true, true, true, true, true, true, true, true, true, true, false] rfl rfl (any_of HT_.out (by kernel_rfl)) (fun _ _ _ h => h) (Or.inl ⟨by rfl, ?_⟩) ?_ ?_
                rotate_left
                ·intro w'
                 go_simp
                 with_reducible rfl
                rotate_left
                ·simp only [Act.put, List.setIfInBounds_toArray, List.set_cons_zero, List.set_cons_succ, i64_w, i32_w]
                 rfl
                refine pure_ (i := 11) (N := some 5) (v := ?_) (a' := ?_) #[true, true, true, true, true, true, true, true, true, true, true, true] rfl rfl (any_of HT_.out (by kernel_rfl)) (fun _ _ _ h => h) (Or.inl ⟨by rfl, ?_⟩) ?_ ?_
                rotate_left
                ·intro w'
                 go_simp
                 with_reducible rfl
                rotate_left
                ·simp only [Act.put, List.setIfInBounds_toArray, List.set_cons_zero, List.set_cons_succ, i64_w, i32_w]
                 rfl
                refine done_ (done_of HT_.out (by kernel_rfl)) ?_
                try go_wp2
                go_ret2
                exact ⟨_, by first | rfl | (simp [errW_none, errW_some] <;> rfl) | (simp [*, errW_none, errW_some] <;> rfl), by (with_reducible repeat (first | apply Kd.R_alloc | apply Kd.R_drewN | apply Kd.R_drew)); exact HO136.out, hb0_ HB⟩
               ·rw [if_neg c32] at H
                exact absurd H (by simp)
              ·rw [if_neg c30] at H
               exact absurd H (by simp)
             ·rw [if_neg c28] at H
              exact absurd H (by simp)
            ·rw [if_neg c27] at H
             exact absurd H (by simp)
        ·rw [if_neg c18] at H
         exact absurd H (by simp)
       ·rw [if_neg c17] at H
        exact absurd H (by simp)

end Go.Proofs.YtabhfloclcmjnaaDoor.P
