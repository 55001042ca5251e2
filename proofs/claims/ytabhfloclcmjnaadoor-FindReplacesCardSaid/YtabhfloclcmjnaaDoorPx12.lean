/- Printed by a program of this session (wip/xprint) over the kit's print: functions of the seat and what they come to, with their proofs. Conditions: as typed. -/
import Derived.Test.YtabhfloclcmjnaaDoorPx0
import Derived.Test.YtabhfloclcmjnaaDoorPx5
import Derived.Test.YtabhfloclcmjnaaDoorPx7
import Derived.Test.YtabhfloclcmjnaaDoorPx10
import Derived.Test.YtabhfloclcmjnaaDoorPx11
import Derived.Test.YtabhfloclcmjnaaDoorRepl
namespace Go.Proofs.YtabhfloclcmjnaaDoor.P
open Go.RowKit Go.Proofs.YtabhfloclcmjnaaDoor.X Go.Proofs.YtabhfloclcmjnaaDoorW.PrintWords Go.Proofs.YtabhfloclcmjnaaDoorW.PrintLast Go.Proofs.YtabhfloclcmjnaaDoorW.PrintMore
attribute [local go_sem] max2_int min2_int max_two min_two max_three min_three max_four min_four   -- for this text's walks alone
set_option linter.unusedVariables false
set_option linter.unusedSimpArgs false

/-! ### foolscaplaw33_FindReplaces: function 8 -/
mutual
def foolscaplaw33_FindReplaces.j0 : Nat → ByteArray → ByteArray → ByteArray → Bool → Option (Bool)
 | 0, _, _, _, _ => none
 | k + 1, x0, x1, x2, x32 => if x32 = true then (some true) else ((find_Replace.f x0 x1 x2).bind fun bt228 => ((foolscapref33_Asked.f k x0 x1).bind fun bt232 => ((foolscapref01_Len.f k x2).bind fun t239 => (if t239 < 0 then (foolscaplaw33_FindReplaces.j1 k x0 x2 bt228.1 bt228.2 bt232.1 bt232.2.1 2 t239) else (foolscaplaw33_FindReplaces.j1 k x0 x2 bt228.1 bt228.2 bt232.1 bt232.2.1 bt232.2.2 t239)))))
def foolscaplaw33_FindReplaces.j1 : Nat → ByteArray → ByteArray → List (S46) → Int → List Int → List Int → Int → Int → Option (Bool)
 | 0, _, _, _, _, _, _, _, _ => none
 | k + 1, x0, x2, x7, x8, x9, x10, x11, x12 => if x11 = 0 then (foolscaplaw33_FindReplaces.l0 k x0 x2 x7 x8 x9 x10 x12 (⟨#[]⟩ : ByteArray) 0 0) else (if x8 = x11 then (some ((x7.length : Int) == 0)) else (some false))
def foolscaplaw33_FindReplaces.l0 : Nat → ByteArray → ByteArray → List (S46) → Int → List Int → List Int → Int → ByteArray → Int → Int → Option (Bool)
 | 0, _, _, _, _, _, _, _, _, _, _ => none
 | k + 1, x0, x2, x7, x8, x9, x10, x12, x13, x14, x15 => if x15 < (x9.length : Int) then ((foolscapref33_Stands.f k x9 x10 x15).bind fun t243 => (if t243 = true then (if x13.size + x2.size ≤ 9223372036854775807 then (foolscaplaw33_FindReplaces.l0 k x0 x2 x7 x8 x9 x10 x12 (x13 ++ x2) (wrap64 (x14 + 1)) (wrap64 (x15 + (x10.length : Int)))) else (none)) else (if 0 ≤ x15 then ((foolscapref01_Bytes.f (rd x9 x15)).bind fun t245 => (if x13.size + (strOfNums t245).size ≤ 9223372036854775807 then (foolscaplaw33_FindReplaces.l0 k x0 x2 x7 x8 x9 x10 x12 (x13 ++ (strOfNums t245)) x14 (wrap64 (x15 + 1))) else (none))) else (none)))) else ((diff_Do.f k x0 x7).bind fun bt240 => (if x8 = 0 then (if bt240.2 = 0 then (if bt240.1.toList = x13.toList then (if (x7.length : Int) = x14 then ((foolscapref01_Len.f k bt240.1).bind fun t242 => (some (t242 == (wrap64 ((x9.length : Int) + (wrap64 (x14 * (wrap64 (x12 - (x10.length : Int)))))))))) else (some false)) else (some false)) else (some false)) else (some false)))
end
def foolscaplaw33_FindReplaces.f (k : Nat) (a0 : ByteArray) (a1 : ByteArray) (a2 : ByteArray) : Option (Bool) := (foolscaplaw33_alive.f k).bind fun t227 => (if t227 = true then (if (a0.size : Int) > 600 then (foolscaplaw33_FindReplaces.j0 k a0 a1 a2 true) else (if (a1.size : Int) > 600 then (foolscaplaw33_FindReplaces.j0 k a0 a1 a2 true) else (foolscaplaw33_FindReplaces.j0 k a0 a1 a2 (decide ((a2.size : Int) > 600))))) else (some false))
theorem foolscaplaw33_FindReplaces.mono_l : ∀ k, (∀ y0 y1 y2 y3, LeO (foolscaplaw33_FindReplaces.j0 k y0 y1 y2 y3) (foolscaplaw33_FindReplaces.j0 (k + 1) y0 y1 y2 y3)) ∧ (∀ y0 y1 y2 y3 y4 y5 y6 y7, LeO (foolscaplaw33_FindReplaces.j1 k y0 y1 y2 y3 y4 y5 y6 y7) (foolscaplaw33_FindReplaces.j1 (k + 1) y0 y1 y2 y3 y4 y5 y6 y7)) ∧ (∀ y0 y1 y2 y3 y4 y5 y6 y7 y8 y9, LeO (foolscaplaw33_FindReplaces.l0 k y0 y1 y2 y3 y4 y5 y6 y7 y8 y9) (foolscaplaw33_FindReplaces.l0 (k + 1) y0 y1 y2 y3 y4 y5 y6 y7 y8 y9))
 | 0 => ⟨fun _ _ _ _ r h => by simp [foolscaplaw33_FindReplaces.j0] at h, fun _ _ _ _ _ _ _ _ r h => by simp [foolscaplaw33_FindReplaces.j1] at h, fun _ _ _ _ _ _ _ _ _ _ r h => by simp [foolscaplaw33_FindReplaces.l0] at h⟩
 | k + 1 => by
  obtain ⟨ih0, ih1, ih2⟩ := foolscaplaw33_FindReplaces.mono_l k
  refine ⟨?_, ?_, ?_⟩
  ·intro y0 y1 y2 y3
   unfold foolscaplaw33_FindReplaces.j0
   repeat' first
   | (with_reducible exact ih0 _ _ _ _)
   | (with_reducible exact ih1 _ _ _ _ _ _ _ _)
   | (with_reducible exact ih2 _ _ _ _ _ _ _ _ _ _)
   | (with_reducible exact diff_Do.mono _ _ _)
   | (with_reducible exact foolscaplaw33_alive.mono _)
   | (with_reducible exact foolscapref01_Len.mono _ _)
   | (with_reducible exact foolscapref33_Asked.mono _ _ _)
   | (with_reducible exact foolscapref33_Stands.mono _ _ _ _)
   | (with_reducible exact LeO.refl _)
   | (with_reducible exact LeO.none _)
   | (with_reducible refine LeO.ite ?_ ?_)
   | (with_reducible refine LeO.bind ?_ (fun _ => ?_))
   | exact ih0 _ _ _ _
   | exact ih1 _ _ _ _ _ _ _ _
   | exact ih2 _ _ _ _ _ _ _ _ _ _
   | exact diff_Do.mono _ _ _
   | exact foolscaplaw33_alive.mono _
   | exact foolscapref01_Len.mono _ _
   | exact foolscapref33_Asked.mono _ _ _
   | exact foolscapref33_Stands.mono _ _ _ _
   | exact LeO.none _
   | refine LeO.ite ?_ ?_
   | refine LeO.bind ?_ (fun _ => ?_)
  ·intro y0 y1 y2 y3 y4 y5 y6 y7
   unfold foolscaplaw33_FindReplaces.j1
   repeat' first
   | (with_reducible exact ih0 _ _ _ _)
   | (with_reducible exact ih1 _ _ _ _ _ _ _ _)
   | (with_reducible exact ih2 _ _ _ _ _ _ _ _ _ _)
   | (with_reducible exact diff_Do.mono _ _ _)
   | (with_reducible exact foolscaplaw33_alive.mono _)
   | (with_reducible exact foolscapref01_Len.mono _ _)
   | (with_reducible exact foolscapref33_Asked.mono _ _ _)
   | (with_reducible exact foolscapref33_Stands.mono _ _ _ _)
   | (with_reducible exact LeO.refl _)
   | (with_reducible exact LeO.none _)
   | (with_reducible refine LeO.ite ?_ ?_)
   | (with_reducible refine LeO.bind ?_ (fun _ => ?_))
   | exact ih0 _ _ _ _
   | exact ih1 _ _ _ _ _ _ _ _
   | exact ih2 _ _ _ _ _ _ _ _ _ _
   | exact diff_Do.mono _ _ _
   | exact foolscaplaw33_alive.mono _
   | exact foolscapref01_Len.mono _ _
   | exact foolscapref33_Asked.mono _ _ _
   | exact foolscapref33_Stands.mono _ _ _ _
   | exact LeO.none _
   | refine LeO.ite ?_ ?_
   | refine LeO.bind ?_ (fun _ => ?_)
  ·intro y0 y1 y2 y3 y4 y5 y6 y7 y8 y9
   unfold foolscaplaw33_FindReplaces.l0
   repeat' first
   | (with_reducible exact ih0 _ _ _ _)
   | (with_reducible exact ih1 _ _ _ _ _ _ _ _)
   | (with_reducible exact ih2 _ _ _ _ _ _ _ _ _ _)
   | (with_reducible exact diff_Do.mono _ _ _)
   | (with_reducible exact foolscaplaw33_alive.mono _)
   | (with_reducible exact foolscapref01_Len.mono _ _)
   | (with_reducible exact foolscapref33_Asked.mono _ _ _)
   | (with_reducible exact foolscapref33_Stands.mono _ _ _ _)
   | (with_reducible exact LeO.refl _)
   | (with_reducible exact LeO.none _)
   | (with_reducible refine LeO.ite ?_ ?_)
   | (with_reducible refine LeO.bind ?_ (fun _ => ?_))
   | exact ih0 _ _ _ _
   | exact ih1 _ _ _ _ _ _ _ _
   | exact ih2 _ _ _ _ _ _ _ _ _ _
   | exact diff_Do.mono _ _ _
   | exact foolscaplaw33_alive.mono _
   | exact foolscapref01_Len.mono _ _
   | exact foolscapref33_Asked.mono _ _ _
   | exact foolscapref33_Stands.mono _ _ _ _
   | exact LeO.none _
   | refine LeO.ite ?_ ?_
   | refine LeO.bind ?_ (fun _ => ?_)
theorem foolscaplaw33_FindReplaces.mono : ∀ a0 a1 a2 k, LeO (foolscaplaw33_FindReplaces.f k a0 a1 a2) (foolscaplaw33_FindReplaces.f (k + 1) a0 a1 a2) := by
 intro a0 a1 a2 k
 obtain ⟨ih0, ih1, ih2⟩ := foolscaplaw33_FindReplaces.mono_l k
 unfold foolscaplaw33_FindReplaces.f
 repeat' first
   | (with_reducible exact ih0 _ _ _ _)
   | (with_reducible exact ih1 _ _ _ _ _ _ _ _)
   | (with_reducible exact ih2 _ _ _ _ _ _ _ _ _ _)
   | (with_reducible exact diff_Do.mono _ _ _)
   | (with_reducible exact foolscaplaw33_alive.mono _)
   | (with_reducible exact foolscapref01_Len.mono _ _)
   | (with_reducible exact foolscapref33_Asked.mono _ _ _)
   | (with_reducible exact foolscapref33_Stands.mono _ _ _ _)
   | (with_reducible exact LeO.refl _)
   | (with_reducible exact LeO.none _)
   | (with_reducible refine LeO.ite ?_ ?_)
   | (with_reducible refine LeO.bind ?_ (fun _ => ?_))
   | exact ih0 _ _ _ _
   | exact ih1 _ _ _ _ _ _ _ _
   | exact ih2 _ _ _ _ _ _ _ _ _ _
   | exact diff_Do.mono _ _ _
   | exact foolscaplaw33_alive.mono _
   | exact foolscapref01_Len.mono _ _
   | exact foolscapref33_Asked.mono _ _ _
   | exact foolscapref33_Stands.mono _ _ _ _
   | exact LeO.none _
   | refine LeO.ite ?_ ?_
   | refine LeO.bind ?_ (fun _ => ?_)
set_option maxHeartbeats 8000000 in
set_option maxRecDepth 100000 in
theorem foolscaplaw33_FindReplaces.calls (k : Nat) (a0 : ByteArray) (a1 : ByteArray) (a2 : ByteArray) (r : Bool) (w : World) (hT : Aside0 (XAmb w)) (h : foolscaplaw33_FindReplaces.f k a0 a1 a2 = some r) :
  Calls Tryd.prog 8 #[.string a0, .string a1, .string a2] w fun e w' => e = .returned (.bool r) ∧ Below w.heap.size w w' := by
 have HB := Aside0.mk (Below.refl w.heap.size w)
 have H : ((foolscaplaw33_alive.f k).bind fun t227 => (if t227 = true then (if (a0.size : Int) > 600 then (foolscaplaw33_FindReplaces.j0 k a0 a1 a2 true) else (if (a1.size : Int) > 600 then (foolscaplaw33_FindReplaces.j0 k a0 a1 a2 true) else (foolscaplaw33_FindReplaces.j0 k a0 a1 a2 (decide ((a2.size : Int) > 600))))) else (some false))) = some r := h
 clear h
 replace H := Option.bind_eq_some_iff.mp H
 obtain ⟨t227, A40, H⟩ := H
 replace H : (if t227 = true then (if (a0.size : Int) > 600 then (foolscaplaw33_FindReplaces.j0 k a0 a1 a2 true) else (if (a1.size : Int) > 600 then (foolscaplaw33_FindReplaces.j0 k a0 a1 a2 true) else (foolscaplaw33_FindReplaces.j0 k a0 a1 a2 (decide ((a2.size : Int) > 600))))) else (some false)) = some r := H
 have A4 := Aside0.mk A40
 clear A40
 by_cases c5 : t227 = true
 ·subst c5
  have H1 : (if (a0.size : Int) > 600 then (foolscaplaw33_FindReplaces.j0 k a0 a1 a2 true) else (if (a1.size : Int) > 600 then (foolscaplaw33_FindReplaces.j0 k a0 a1 a2 true) else (foolscaplaw33_FindReplaces.j0 k a0 a1 a2 (decide ((a2.size : Int) > 600))))) = some r := by rw [if_pos rfl] at H; exact H
  clear H
  have H := H1
  clear H1
  have HC6 := Aside0.mk H
  clear H
  go_enter Tryd.func8, Tryd.ntmps8
  go_upto_region 3 with (first | ((with_reducible refine gate_callee (f := 11) rfl ?_); refine goesL_ (some 18) rfl rfl Tryd.func11 (by kernel_rfl) rfl #[] rfl (by (try simp only [List.map_toArray, List.map_cons, List.map_nil]); first | done | rfl | (simp only [List.length_drop, List.length_take]; rfl)) ?_; (with_reducible refine (foolscaplaw33_alive.calls k  true _ ?side1 A4.out).mono ?_); (case side1 => exact XAmb_step hT (hb0_ HB)); rintro e w7 ⟨rfl, hb⟩; refine ⟨_, rfl, ?_⟩; have n0_ := Aside0.mk (below_step (hb0_ HB) hb); clear HB; have HB := n0_; clear n0_; (try clear hb); (try clear hb2); (try clear hk); (try clear hi)))
  (try simp only [Act.put, List.setIfInBounds_toArray, List.set_cons_zero, List.set_cons_succ])
  go_cut [32] (fun v32 wc => ∃ (kq : Nat) (x32_5 : Bool), v32 = .bool x32_5 ∧ Aside0 (foolscaplaw33_FindReplaces.j0 kq a0 a1 a2 x32_5 = some r) ∧ Aside0 (kq ≤ k) ∧ Aside0 (Below w.heap.size w wc))
  case first =>
   have H := HC6.out
   clear HC6
   by_cases c8 : (a0.size : Int) > 600
   ·rw [if_pos c8] at H
    have c8b0 : decide (600 < (a0.size : Int)) = true := decide_eq_true c8
    have c8b1 : decide (600 < a0.size) = true := decide_eq_true (by omega)
    clear c8
    (first | rw [c8b0] | (simp only [i64_w, i32_w]; rw [c8b0]) | skip)
    have H' := Aside0.mk H
    clear H
    go_wp2
    go_meet
    case rel => exact ⟨_, (true), (by first | rfl | (simp; done) | (simp [*]; done)), H', ⟨by first | omega | exact Nat.le_refl _⟩, ⟨by repeat (first | (with_reducible first | exact HB.out | apply below_alloc | apply pw_below_drewN | apply below_drew1) | exact HB.out)⟩⟩
   ·rw [if_neg c8] at H
    have c8b0 : decide (600 < (a0.size : Int)) = false := decide_eq_false c8
    have c8b1 : decide (600 < a0.size) = false := decide_eq_false (by omega)
    clear c8
    (first | rw [c8b0] | (simp only [i64_w, i32_w]; rw [c8b0]) | skip)
    by_cases c9 : (a1.size : Int) > 600
    ·rw [if_pos c9] at H
     have c9b0 : decide (600 < (a1.size : Int)) = true := decide_eq_true c9
     have c9b1 : decide (600 < a1.size) = true := decide_eq_true (by omega)
     clear c9
     have H' := Aside0.mk H
     clear H
     go_wp2
     go_meet
     case rel => exact ⟨_, (true), (by first | rfl | (simp; done) | (simp [*]; done)), H', ⟨by first | omega | exact Nat.le_refl _⟩, ⟨by repeat (first | (with_reducible first | exact HB.out | apply below_alloc | apply pw_below_drewN | apply below_drew1) | exact HB.out)⟩⟩
    ·rw [if_neg c9] at H
     have c9b0 : decide (600 < (a1.size : Int)) = false := decide_eq_false c9
     have c9b1 : decide (600 < a1.size) = false := decide_eq_false (by omega)
     clear c9
     have H' := Aside0.mk H
     clear H
     go_wp2
     go_meet
     case rel => exact ⟨_, (decide ((a2.size : Int) > 600)), (by first | rfl | (simp; done) | (simp [*]; done)), H', ⟨by first | omega | exact Nat.le_refl _⟩, ⟨by repeat (first | (with_reducible first | exact HB.out | apply below_alloc | apply pw_below_drewN | apply below_drew1) | exact HB.out)⟩⟩
  case rest =>
   clear HC6
   try clear c1
   try clear p2
   try clear c5
   try clear c8
   try clear c8b0
   try clear c8b1
   try clear c9
   try clear c9b0
   try clear c9b1
   obtain ⟨kq, x32_5, rfl, HA, HJ5, HB⟩ := hcut
   cases kq with
   | zero => exact absurd HA.out (by simp [foolscaplaw33_FindReplaces.j0])
   | succ kj5 =>
    have H := HA.out
    clear HA
    simp only [foolscaplaw33_FindReplaces.j0] at H
    by_cases c10 : x32_5 = true
    ·subst c10
     have H1 : (some true) = some r := by rw [if_pos rfl] at H; exact H
     clear H
     have H := H1
     clear H1
     obtain rfl := Option.some.inj H
     go_wp2
     go_ret
     exact ⟨by first | rfl | (simp [errW_none, errW_some] <;> rfl) | (simp [*, errW_none, errW_some] <;> rfl), by repeat (first | (with_reducible first | exact HB.out | apply below_alloc | apply pw_below_drewN | apply below_drew1) | exact HB.out)⟩
    ·replace c10 := Bool.eq_false_iff.mpr c10
     subst c10
     have H1 : ((find_Replace.f a0 a1 a2).bind fun bt228 => ((foolscapref33_Asked.f kj5 a0 a1).bind fun bt232 => ((foolscapref01_Len.f kj5 a2).bind fun t239 => (if t239 < 0 then (foolscaplaw33_FindReplaces.j1 kj5 a0 a2 bt228.1 bt228.2 bt232.1 bt232.2.1 2 t239) else (foolscaplaw33_FindReplaces.j1 kj5 a0 a2 bt228.1 bt228.2 bt232.1 bt232.2.1 bt232.2.2 t239))))) = some r := by rw [if_neg (show ¬ (false = true) by decide)] at H; exact H
     clear H
     have H := H1
     clear H1
     replace H := Option.bind_eq_some_iff.mp H
     obtain ⟨⟨t228, t229⟩, A110, H⟩ := H
     replace H : ((foolscapref33_Asked.f kj5 a0 a1).bind fun bt232 => ((foolscapref01_Len.f kj5 a2).bind fun t239 => (if t239 < 0 then (foolscaplaw33_FindReplaces.j1 kj5 a0 a2 t228 t229 bt232.1 bt232.2.1 2 t239) else (foolscaplaw33_FindReplaces.j1 kj5 a0 a2 t228 t229 bt232.1 bt232.2.1 bt232.2.2 t239)))) = some r := H
     have A11 := Aside0.mk A110
     clear A110
     replace H := Option.bind_eq_some_iff.mp H
     obtain ⟨⟨t232, t233, t234⟩, A120, H⟩ := H
     replace H : ((foolscapref01_Len.f kj5 a2).bind fun t239 => (if t239 < 0 then (foolscaplaw33_FindReplaces.j1 kj5 a0 a2 t228 t229 t232 t233 2 t239) else (foolscaplaw33_FindReplaces.j1 kj5 a0 a2 t228 t229 t232 t233 t234 t239))) = some r := H
     have A12 := Aside0.mk A120
     clear A120
     replace H := Option.bind_eq_some_iff.mp H
     obtain ⟨t239, A130, H⟩ := H
     replace H : (if t239 < 0 then (foolscaplaw33_FindReplaces.j1 kj5 a0 a2 t228 t229 t232 t233 2 t239) else (foolscaplaw33_FindReplaces.j1 kj5 a0 a2 t228 t229 t232 t233 t234 t239)) = some r := H
     have A13 := Aside0.mk A130
     clear A130
     have HC14 := Aside0.mk H
     clear H
     go_upto_if 50 with (first | ((with_reducible refine gate_callee (f := 24) rfl ?_); refine goesL_ (some 37) rfl rfl Tryd.func24 (by kernel_rfl) rfl #[.string a0, .string a1, .string a2] rfl (by (try simp only [List.map_toArray, List.map_cons, List.map_nil]); first | done | rfl | (simp only [List.length_drop, List.length_take]; rfl)) ?_; (with_reducible refine (find_Replace.calls a0 a1 a2 t228 t229 _ ?side1 A11.out).mono ?_); (case side1 => exact XAmb_step hT (hb0_ HB)); rintro e w15 ⟨v230, rfl, ho0, hb⟩; refine ⟨_, rfl, ?_⟩; have n0_ := Aside0.mk (Kd.R_lower ho0 (below_size (hb0_ HB))); have n1_ := Aside0.mk (below_step (hb0_ HB) hb); clear HB; have HO231 := n0_; have HB := n1_; clear n0_ n1_; (try clear hb); (try clear hb2); (try clear hk); (try clear hi); (try clear ho0)) | ((with_reducible refine gate_callee (f := 14) rfl ?_); refine goesL_ (some 43) rfl rfl Tryd.func14 (by kernel_rfl) rfl #[.string a0, .string a1] rfl (by (try simp only [List.map_toArray, List.map_cons, List.map_nil]); first | done | rfl | (simp only [List.length_drop, List.length_take]; rfl)) ?_; (with_reducible refine (foolscapref33_Asked.calls kj5 a0 a1 t232 t233 t234 _ A12.out).mono ?_); rintro e w16 ⟨v235, v237, rfl, ho0, ho1, hb⟩; refine ⟨_, rfl, ?_⟩; have n0_ := Aside0.mk (Kd.R_below (by (with_reducible repeat (first | apply Kd.R_alloc | apply Kd.R_drewN | apply Kd.R_drew)); exact HO231.out) hb); have n1_ := Aside0.mk (Kd.R_lower ho0 (below_size (hb0_ HB))); have n2_ := Aside0.mk (Kd.R_lower ho1 (below_size (hb0_ HB))); have n3_ := Aside0.mk (below_step (hb0_ HB) hb); clear HO231; clear HB; have HO231 := n0_; have HO236 := n1_; have HO238 := n2_; have HB := n3_; clear n0_ n1_ n2_ n3_; (try clear hb); (try clear hb2); (try clear hk); (try clear hi); (try clear ho0); (try clear ho1)) | ((with_reducible refine gate_callee (f := 25) rfl ?_); refine goesL_ (some 48) rfl rfl Tryd.func25 (by kernel_rfl) rfl #[.string a2] rfl (by (try simp only [List.map_toArray, List.map_cons, List.map_nil]); first | done | rfl | (simp only [List.length_drop, List.length_take]; rfl)) ?_; (with_reducible refine (foolscapref01_Len.calls kj5 a2 t239 _ A13.out).mono ?_); rintro e w17 ⟨rfl, hb⟩; refine ⟨_, rfl, ?_⟩; have n0_ := Aside0.mk (Kd.R_below (by (with_reducible repeat (first | apply Kd.R_alloc | apply Kd.R_drewN | apply Kd.R_drew)); exact HO231.out) hb); have n1_ := Aside0.mk (Kd.R_below (by (with_reducible repeat (first | apply Kd.R_alloc | apply Kd.R_drewN | apply Kd.R_drew)); exact HO236.out) hb); have n2_ := Aside0.mk (Kd.R_below (by (with_reducible repeat (first | apply Kd.R_alloc | apply Kd.R_drewN | apply Kd.R_drew)); exact HO238.out) hb); have n3_ := Aside0.mk (below_step (hb0_ HB) hb); clear HO231; clear HO236; clear HO238; clear HB; have HO231 := n0_; have HO236 := n1_; have HO238 := n2_; have HB := n3_; clear n0_ n1_ n2_ n3_; (try clear hb); (try clear hb2); (try clear hk); (try clear hi)))
     (try simp only [Act.put, List.setIfInBounds_toArray, List.set_cons_zero, List.set_cons_succ])
     go_cut [11] (fun v11 wc => ∃ (kq : Nat) (x11_13 : Int), v11 = .int .i64 x11_13 ∧ Aside0 (foolscaplaw33_FindReplaces.j1 kq a0 a2 t228 t229 t232 t233 x11_13 t239 = some r) ∧ Aside0 (kq ≤ kj5) ∧ Aside0 (Kd.R k46 46 wc w.heap.size (fun _ => True) v230 t228) ∧ Aside0 (Kd.R (Kd.int .i32) 21 wc w.heap.size (fun k_ => some k_ ≠ (v237 : Value).ownBlock) v235 t232) ∧ Aside0 (Kd.R (Kd.int .i32) 21 wc w.heap.size (fun k_ => some k_ ≠ (v235 : Value).ownBlock) v237 t233) ∧ Aside0 (Below w.heap.size w wc))
     case first =>
      have H := HC14.out
      clear HC14
      by_cases c18 : t239 < 0
      ·rw [if_pos c18] at H
       have c18b0 : decide (t239 < 0) = true := decide_eq_true c18
       clear c18
       (first | rw [c18b0] | (simp only [i64_w, i32_w]; rw [c18b0]) | skip)
       have H' := Aside0.mk H
       clear H
       go_wp2
       go_meet
       case rel => exact ⟨_, (2), (by first | rfl | (simp; done) | (simp [*]; done)), H', ⟨by have := HJ5.out; first | omega | exact Nat.le_refl _⟩, ⟨by (with_reducible repeat (first | apply Kd.R_alloc | apply Kd.R_drewN | apply Kd.R_drew)); exact HO231.out⟩, ⟨by (with_reducible repeat (first | apply Kd.R_alloc | apply Kd.R_drewN | apply Kd.R_drew)); exact HO236.out⟩, ⟨by (with_reducible repeat (first | apply Kd.R_alloc | apply Kd.R_drewN | apply Kd.R_drew)); exact HO238.out⟩, ⟨by repeat (first | (with_reducible first | exact HB.out | apply below_alloc | apply pw_below_drewN | apply below_drew1) | exact HB.out)⟩⟩
      ·rw [if_neg c18] at H
       have c18b0 : decide (t239 < 0) = false := decide_eq_false c18
       clear c18
       (first | rw [c18b0] | (simp only [i64_w, i32_w]; rw [c18b0]) | skip)
       have H' := Aside0.mk H
       clear H
       go_wp2
       go_meet
       case rel => exact ⟨_, (t234), (by first | rfl | (simp; done) | (simp [*]; done)), H', ⟨by have := HJ5.out; first | omega | exact Nat.le_refl _⟩, ⟨by (with_reducible repeat (first | apply Kd.R_alloc | apply Kd.R_drewN | apply Kd.R_drew)); exact HO231.out⟩, ⟨by (with_reducible repeat (first | apply Kd.R_alloc | apply Kd.R_drewN | apply Kd.R_drew)); exact HO236.out⟩, ⟨by (with_reducible repeat (first | apply Kd.R_alloc | apply Kd.R_drewN | apply Kd.R_drew)); exact HO238.out⟩, ⟨by repeat (first | (with_reducible first | exact HB.out | apply below_alloc | apply pw_below_drewN | apply below_drew1) | exact HB.out)⟩⟩
     case rest =>
      clear HC14
      try clear c1
      try clear c2
      try clear p2
      try clear c5
      try clear c8
      try clear c8b0
      try clear c8b1
      try clear c9
      try clear c9b0
      try clear c9b1
      try clear c10
      try clear c11
      try clear c14
      try clear c18
      try clear c18b0
      try clear p2
      obtain ⟨kq, x11_13, rfl, HA, HJ13, HO_7, HO_9, HO_10, HB⟩ := hcut
      cases kq with
      | zero => exact absurd HA.out (by simp [foolscaplaw33_FindReplaces.j1])
      | succ kj13 =>
       have H := HA.out
       clear HA
       simp only [foolscaplaw33_FindReplaces.j1] at H
       by_cases c19 : x11_13 = 0
       ·rw [if_pos c19] at H
        have c19b0 : (x11_13 == 0) = true := beq_iff_eq.mpr c19
        have c19b1 : (x11_13 != 0) = false := bne_eq_false_iff_eq.mpr c19
        clear c19
        have H' := Aside0.mk H
        clear H
        go_wp2
        go_loopg [13, 14, 15] kj13 (fun kq v13 v14 v15 w' => ∃ (x13_3 : ByteArray) (x14_3 : Int) (x15_3 : Int), v13 = .string x13_3 ∧ v14 = .int .i64 x14_3 ∧ v15 = .int .i64 x15_3 ∧ Aside0 (foolscaplaw33_FindReplaces.l0 kq a0 a2 t228 t229 t232 t233 t239 x13_3 x14_3 x15_3 = some r) ∧ Aside0 (kq ≤ kj13) ∧ Aside0 (Kd.R k46 46 w' w.heap.size (fun _ => True) v230 t228) ∧ Aside0 (Kd.R (Kd.int .i32) 21 w' w.heap.size (fun k_ => some k_ ≠ (v237 : Value).ownBlock) v235 t232) ∧ Aside0 (Kd.R (Kd.int .i32) 21 w' w.heap.size (fun k_ => some k_ ≠ (v235 : Value).ownBlock) v237 t233) ∧ Aside0 (Below w.heap.size w w'))
        case atStart => exact ⟨((⟨#[]⟩ : ByteArray)), (0), (0), (by first | rfl | (simp; done) | (simp [*]; done)), (by first | rfl | (simp; done) | (simp [*]; done)), (by first | rfl | (simp; done) | (simp [*]; done)), H', ⟨Nat.le_refl _⟩, ⟨by (with_reducible repeat (first | apply Kd.R_alloc | apply Kd.R_drewN | apply Kd.R_drew)); exact HO_7.out⟩, ⟨by (with_reducible repeat (first | apply Kd.R_alloc | apply Kd.R_drewN | apply Kd.R_drew)); exact HO_9.out⟩, ⟨by (with_reducible repeat (first | apply Kd.R_alloc | apply Kd.R_drewN | apply Kd.R_drew)); exact HO_10.out⟩, ⟨by repeat (first | (with_reducible first | exact HB.out | apply below_alloc | apply pw_below_drewN | apply below_drew1) | exact HB.out)⟩⟩
        case round =>
         clear H'
         try clear c1
         try clear c2
         try clear p2
         try clear c5
         try clear c8
         try clear c8b0
         try clear c8b1
         try clear c9
         try clear c9b0
         try clear c9b1
         try clear c10
         try clear c11
         try clear c14
         try clear c18
         try clear c18b0
         try clear c19
         try clear c19b0
         try clear c19b1
         try clear p2
         obtain ⟨x13_3, x14_3, x15_3, rfl, rfl, rfl, HA, HK3, HO_7, HO_9, HO_10, HB⟩ := hrel
         cases gk with
         | zero => exact absurd HA.out (by simp [foolscaplaw33_FindReplaces.l0])
         | succ k3 =>
          have H := HA.out
          clear HA
          simp only [foolscaplaw33_FindReplaces.l0] at H
          by_cases c20 : x15_3 < (t232.length : Int)
          ·rw [if_pos c20] at H
           have c20b0 : decide (x15_3 < (t232.length : Int)) = true := decide_eq_true c20
           clear c20
           replace H := Option.bind_eq_some_iff.mp H
           obtain ⟨t243, A210, H⟩ := H
           replace H : (if t243 = true then (if x13_3.size + a2.size ≤ 9223372036854775807 then (foolscaplaw33_FindReplaces.l0 k3 a0 a2 t228 t229 t232 t233 t239 (x13_3 ++ a2) (wrap64 (x14_3 + 1)) (wrap64 (x15_3 + (t233.length : Int)))) else (none)) else (if 0 ≤ x15_3 then ((foolscapref01_Bytes.f (rd t232 x15_3)).bind fun t245 => (if x13_3.size + (strOfNums t245).size ≤ 9223372036854775807 then (foolscaplaw33_FindReplaces.l0 k3 a0 a2 t228 t229 t232 t233 t239 (x13_3 ++ (strOfNums t245)) x14_3 (wrap64 (x15_3 + 1))) else (none))) else (none))) = some r := H
           have A21 := Aside0.mk A210
           clear A210
           by_cases c22 : t243 = true
           ·subst c22
            have H1 : (if x13_3.size + a2.size ≤ 9223372036854775807 then (foolscaplaw33_FindReplaces.l0 k3 a0 a2 t228 t229 t232 t233 t239 (x13_3 ++ a2) (wrap64 (x14_3 + 1)) (wrap64 (x15_3 + (t233.length : Int)))) else (none)) = some r := by rw [if_pos rfl] at H; exact H
            clear H
            have H := H1
            clear H1
            by_cases c23 : x13_3.size + a2.size ≤ 9223372036854775807
            ·rw [if_pos c23] at H
             have c23b0 := eq_true c23
             have c23b1 : decide (x13_3.size + a2.size ≤ 9223372036854775807) = true := decide_eq_true c23
             try have c23b2 : (9223372036854775807 < x13_3.size + a2.size) = False := eq_false (Nat.not_lt.2 c23)
             have H' := Aside0.mk H
             clear H
             obtain ⟨Ao24, co24, eo24⟩ := Kd.R_slice HO_9.out
             subst eo24
             obtain ⟨Ao25, co25, eo25⟩ := Kd.R_slice HO_10.out
             subst eo25
             go_wp2_with (first | ((with_reducible refine gate_callee (f := 15) rfl ?_); refine goesL_ (some 68) rfl rfl Tryd.func15 (by kernel_rfl) rfl #[.slice Ao24 t232.length co24, .slice Ao25 t233.length co25, .int .i64 x15_3] rfl (by (try simp only [List.map_toArray, List.map_cons, List.map_nil]); first | done | rfl | (simp only [List.length_drop, List.length_take]; rfl)) ?_; (with_reducible refine (foolscapref33_Stands.calls k3 _ _ t232 _ _ t233 x15_3 true _ ?side1 ?side2 ?side3 ?side4 A21.out).mono ?_); (case side1 => repeat (first | exact (Kd.R_reads' HO_9.out).2.2 | (with_reducible refine Kd.C_alloc ?_ _) | (with_reducible refine Kd.C_drewN ?_ _) | (with_reducible refine Kd.C_drew ?_))); (case side2 => exact (Kd.R_reads' HO_9.out).2.1); (case side3 => repeat (first | exact (Kd.R_reads' HO_10.out).2.2 | (with_reducible refine Kd.C_alloc ?_ _) | (with_reducible refine Kd.C_drewN ?_ _) | (with_reducible refine Kd.C_drew ?_))); (case side4 => exact (Kd.R_reads' HO_10.out).2.1); rintro e w' ⟨rfl, ⟨nd, rfl⟩⟩; refine ⟨_, rfl, ?_⟩))
             go_roundg k3
             case measure => have := HJ5.out; have := HJ13.out; have := HK3.out; omega
             case rel => exact ⟨(x13_3 ++ a2), (wrap64 (x14_3 + 1)), (wrap64 (x15_3 + (t233.length : Int))), (by first | rfl | (simp; done) | (simp [*]; done)), (by first | rfl | (simp; done) | (simp [*]; done)), (by first | rfl | (simp; done) | (simp [*]; done)), H', ⟨by have := HJ5.out; have := HJ13.out; have := HK3.out; omega⟩, ⟨by (with_reducible repeat (first | apply Kd.R_alloc | apply Kd.R_drewN | apply Kd.R_drew)); exact HO_7.out⟩, ⟨by (with_reducible repeat (first | apply Kd.R_alloc | apply Kd.R_drewN | apply Kd.R_drew)); exact HO_9.out⟩, ⟨by (with_reducible repeat (first | apply Kd.R_alloc | apply Kd.R_drewN | apply Kd.R_drew)); exact HO_10.out⟩, ⟨by repeat (first | (with_reducible first | exact HB.out | apply below_alloc | apply pw_below_drewN | apply below_drew1) | exact HB.out)⟩⟩
            ·rw [if_neg c23] at H
             exact absurd H (by simp)
           ·replace c22 := Bool.eq_false_iff.mpr c22
            subst c22
            have H1 : (if 0 ≤ x15_3 then ((foolscapref01_Bytes.f (rd t232 x15_3)).bind fun t245 => (if x13_3.size + (strOfNums t245).size ≤ 9223372036854775807 then (foolscaplaw33_FindReplaces.l0 k3 a0 a2 t228 t229 t232 t233 t239 (x13_3 ++ (strOfNums t245)) x14_3 (wrap64 (x15_3 + 1))) else (none))) else (none)) = some r := by rw [if_neg (show ¬ (false = true) by decide)] at H; exact H
            clear H
            have H := H1
            clear H1
            by_cases c26 : 0 ≤ x15_3
            ·rw [if_pos c26] at H
             have c26b0 : decide (0 ≤ x15_3) = true := decide_eq_true c26
             clear c26
             replace H := Option.bind_eq_some_iff.mp H
             obtain ⟨t245, A270, H⟩ := H
             replace H : (if x13_3.size + (strOfNums t245).size ≤ 9223372036854775807 then (foolscaplaw33_FindReplaces.l0 k3 a0 a2 t228 t229 t232 t233 t239 (x13_3 ++ (strOfNums t245)) x14_3 (wrap64 (x15_3 + 1))) else (none)) = some r := H
             have A27 := Aside0.mk A270
             clear A270
             by_cases c28 : x13_3.size + (strOfNums t245).size ≤ 9223372036854775807
             ·rw [if_pos c28] at H
              have c28b0 := eq_true c28
              have c28b1 : decide (x13_3.size + (strOfNums t245).size ≤ 9223372036854775807) = true := decide_eq_true c28
              try have c28b2 : (9223372036854775807 < x13_3.size + (strOfNums t245).size) = False := eq_false (Nat.not_lt.2 c28)
              have H' := Aside0.mk H
              clear H
              obtain ⟨Ao29, co29, eo29⟩ := Kd.R_slice HO_9.out
              subst eo29
              obtain ⟨Ao30, co30, eo30⟩ := Kd.R_slice HO_10.out
              subst eo30
              go_wp2_with (first | ((with_reducible refine gate_callee (f := 15) rfl ?_); refine goesL_ (some 68) rfl rfl Tryd.func15 (by kernel_rfl) rfl #[.slice Ao29 t232.length co29, .slice Ao30 t233.length co30, .int .i64 x15_3] rfl (by (try simp only [List.map_toArray, List.map_cons, List.map_nil]); first | done | rfl | (simp only [List.length_drop, List.length_take]; rfl)) ?_; (with_reducible refine (foolscapref33_Stands.calls k3 _ _ t232 _ _ t233 x15_3 false _ ?side1 ?side2 ?side3 ?side4 A21.out).mono ?_); (case side1 => repeat (first | exact (Kd.R_reads' HO_9.out).2.2 | (with_reducible refine Kd.C_alloc ?_ _) | (with_reducible refine Kd.C_drewN ?_ _) | (with_reducible refine Kd.C_drew ?_))); (case side2 => exact (Kd.R_reads' HO_9.out).2.1); (case side3 => repeat (first | exact (Kd.R_reads' HO_10.out).2.2 | (with_reducible refine Kd.C_alloc ?_ _) | (with_reducible refine Kd.C_drewN ?_ _) | (with_reducible refine Kd.C_drew ?_))); (case side4 => exact (Kd.R_reads' HO_10.out).2.1); rintro e w' ⟨rfl, ⟨nd, rfl⟩⟩; refine ⟨_, rfl, ?_⟩; have p244 : 0 ≤ (x15_3 : Int) := of_decide_eq_true (by first | (with_reducible assumption) | assumption); have q244 : x15_3 < (t232.length : Int) := of_decide_eq_true (by first | (with_reducible assumption) | assumption); obtain ⟨ad244, e244, hx244_0⟩ := Kd.at_int (Kd.R_reads' HO_9.out).2.2 x15_3 p244 q244; cases e244; replace p244 := eq_true p244; replace q244 := eq_true q244) | ((with_reducible refine gate_callee (f := 26) rfl ?_); refine goesL_ (some 83) rfl rfl Tryd.func26 (by kernel_rfl) rfl #[.int .i32 (rd t232 x15_3)] rfl (by (try simp only [List.map_toArray, List.map_cons, List.map_nil]); first | done | rfl | (simp only [List.length_drop, List.length_take]; rfl)) ?_; (with_reducible refine (foolscapref01_Bytes.calls (rd t232 x15_3) t245 _ A27.out).mono ?_); rintro e w31 ⟨v246, rfl, ho0, hb⟩; refine ⟨_, rfl, ?_⟩; have n0_ := Aside0.mk (Kd.R_below (by (with_reducible repeat (first | apply Kd.R_alloc | apply Kd.R_drewN | apply Kd.R_drew)); exact HO_7.out) hb); have n1_ := Aside0.mk (Kd.R_below (by (with_reducible repeat (first | apply Kd.R_alloc | apply Kd.R_drewN | apply Kd.R_drew)); exact HO_9.out) hb); have n2_ := Aside0.mk (Kd.R_below (by (with_reducible repeat (first | apply Kd.R_alloc | apply Kd.R_drewN | apply Kd.R_drew)); exact HO_10.out) hb); have n3_ := Aside0.mk (Kd.R_lower ho0 (below_size (hb0_ HB))); have n4_ := Aside0.mk (below_step (hb0_ HB) hb); clear HO_7; clear HO_9; clear HO_10; clear HB; have HO_7 := n0_; have HO_9 := n1_; have HO_10 := n2_; have HO247 := n3_; have HB := n4_; clear n0_ n1_ n2_ n3_ n4_; (try clear hb); (try clear hb2); (try clear hk); (try clear hi); (try clear ho0); have hcv32 := own_string (P := Tryd.prog) Tryd.underlying54 Tryd.underlying5 Tryd.underlying9 (Kd.own_of_R HO247.out)))
              go_roundg k3
              case measure => have := HJ5.out; have := HJ13.out; have := HK3.out; omega
              case rel => exact ⟨(x13_3 ++ (strOfNums t245)), (x14_3), (wrap64 (x15_3 + 1)), (by first | rfl | (simp; done) | (simp [*]; done)), (by first | rfl | (simp; done) | (simp [*]; done)), (by first | rfl | (simp; done) | (simp [*]; done)), H', ⟨by have := HJ5.out; have := HJ13.out; have := HK3.out; omega⟩, ⟨by (with_reducible repeat (first | apply Kd.R_alloc | apply Kd.R_drewN | apply Kd.R_drew)); exact HO_7.out⟩, ⟨by (with_reducible repeat (first | apply Kd.R_alloc | apply Kd.R_drewN | apply Kd.R_drew)); exact HO_9.out⟩, ⟨by (with_reducible repeat (first | apply Kd.R_alloc | apply Kd.R_drewN | apply Kd.R_drew)); exact HO_10.out⟩, ⟨by repeat (first | (with_reducible first | exact HB.out | apply below_alloc | apply pw_below_drewN | apply below_drew1) | exact HB.out)⟩⟩
             ·rw [if_neg c28] at H
              exact absurd H (by simp)
            ·rw [if_neg c26] at H
             exact absurd H (by simp)
          ·rw [if_neg c20] at H
           have c20b0 : decide (x15_3 < (t232.length : Int)) = false := decide_eq_false c20
           clear c20
           replace H := Option.bind_eq_some_iff.mp H
           obtain ⟨⟨t240, t241⟩, A330, H⟩ := H
           replace H : (if t229 = 0 then (if t241 = 0 then (if t240.toList = x13_3.toList then (if (t228.length : Int) = x14_3 then ((foolscapref01_Len.f k3 t240).bind fun t242 => (some (t242 == (wrap64 ((t232.length : Int) + (wrap64 (x14_3 * (wrap64 (t239 - (t233.length : Int)))))))))) else (some false)) else (some false)) else (some false)) else (some false)) = some r := H
           have A33 := Aside0.mk A330
           clear A330
           by_cases c34 : t229 = 0
           ·rw [if_pos c34] at H
            have c34b0 : (t229 == 0) = true := beq_iff_eq.mpr c34
            have c34b1 : (t229 != 0) = false := bne_eq_false_iff_eq.mpr c34
            clear c34
            by_cases c35 : t241 = 0
            ·rw [if_pos c35] at H
             have c35b0 : (t241 == 0) = true := beq_iff_eq.mpr c35
             have c35b1 : (t241 != 0) = false := bne_eq_false_iff_eq.mpr c35
             clear c35
             by_cases c36 : t240.toList = x13_3.toList
             ·rw [if_pos c36] at H
              have c36b0 : (t240.toList == x13_3.toList) = true := beq_iff_eq.mpr c36
              have c36b1 : (t240.toList != x13_3.toList) = false := bne_eq_false_iff_eq.mpr c36
              clear c36
              by_cases c37 : (t228.length : Int) = x14_3
              ·rw [if_pos c37] at H
               have c37b0 : ((t228.length : Int) == x14_3) = true := beq_iff_eq.mpr c37
               have c37b1 : ((t228.length : Int) != x14_3) = false := bne_eq_false_iff_eq.mpr c37
               clear c37
               replace H := Option.bind_eq_some_iff.mp H
               obtain ⟨t242, A380, H⟩ := H
               replace H : (some (t242 == (wrap64 ((t232.length : Int) + (wrap64 (x14_3 * (wrap64 (t239 - (t233.length : Int))))))))) = some r := H
               have A38 := Aside0.mk A380
               clear A380
               obtain rfl := Option.some.inj H
               obtain ⟨Ao39, co39, eo39⟩ := Kd.R_slice HO_9.out
               subst eo39
               obtain ⟨Ao40, co40, eo40⟩ := Kd.R_slice HO_7.out
               subst eo40
               go_wp2_with (first | ((with_reducible refine gate_callee (f := 22) rfl ?_); refine goesL_ (some 91) rfl rfl Tryd.func22 (by kernel_rfl) rfl #[.string a0, .slice Ao40 t228.length co40] rfl (by (try simp only [List.map_toArray, List.map_cons, List.map_nil]); first | done | rfl | (simp only [List.length_drop, List.length_take]; rfl)) ?_; (with_reducible refine (diff_Do.calls k3 a0 _ _ t228 t240 t241 _ ?side3 ?side1 ?side2 A33.out).mono ?_); (case side1 => repeat (first | exact (Kd.R_reads' HO_7.out).2.2 | (with_reducible refine Kd.C_alloc ?_ _) | (with_reducible refine Kd.C_drewN ?_ _) | (with_reducible refine Kd.C_drew ?_))); (case side2 => exact (Kd.R_reads' HO_7.out).2.1); (case side3 => exact XAmb_step hT (hb0_ HB)); rintro e w41 ⟨rfl, hb⟩; refine ⟨_, rfl, ?_⟩; have n0_ := Aside0.mk (Kd.R_below (by (with_reducible repeat (first | apply Kd.R_alloc | apply Kd.R_drewN | apply Kd.R_drew)); exact HO_7.out) hb); have n1_ := Aside0.mk (Kd.R_below (by (with_reducible repeat (first | apply Kd.R_alloc | apply Kd.R_drewN | apply Kd.R_drew)); exact HO_9.out) hb); have n2_ := Aside0.mk (Kd.R_below (by (with_reducible repeat (first | apply Kd.R_alloc | apply Kd.R_drewN | apply Kd.R_drew)); exact HO_10.out) hb); have n3_ := Aside0.mk (below_step (hb0_ HB) hb); clear HO_7; clear HO_9; clear HO_10; clear HB; have HO_7 := n0_; have HO_9 := n1_; have HO_10 := n2_; have HB := n3_; clear n0_ n1_ n2_ n3_; (try clear hb); (try clear hb2); (try clear hk); (try clear hi)) | (go_at_call 25; (with_reducible refine (foolscapref01_Len.calls k3 t240 t242 _ A38.out).mono ?_); rintro e w42 ⟨rfl, hb⟩; have n0_ := Aside0.mk (Kd.R_below (by (with_reducible repeat (first | apply Kd.R_alloc | apply Kd.R_drewN | apply Kd.R_drew)); exact HO_7.out) hb); have n1_ := Aside0.mk (Kd.R_below (by (with_reducible repeat (first | apply Kd.R_alloc | apply Kd.R_drewN | apply Kd.R_drew)); exact HO_9.out) hb); have n2_ := Aside0.mk (Kd.R_below (by (with_reducible repeat (first | apply Kd.R_alloc | apply Kd.R_drewN | apply Kd.R_drew)); exact HO_10.out) hb); have n3_ := Aside0.mk (below_step (hb0_ HB) hb); clear HO_7; clear HO_9; clear HO_10; clear HB; have HO_7 := n0_; have HO_9 := n1_; have HO_10 := n2_; have HB := n3_; clear n0_ n1_ n2_ n3_; (try clear hb); (try clear hb2); (try clear hk); (try clear hi); obtain ⟨Ao43, co43, eo43⟩ := Kd.R_slice HO_10.out; subst eo43))
               go_ret
               exact ⟨by first | rfl | (simp [errW_none, errW_some] <;> rfl) | (simp [*, errW_none, errW_some] <;> rfl), by repeat (first | (with_reducible first | exact HB.out | apply below_alloc | apply pw_below_drewN | apply below_drew1) | exact HB.out)⟩
              ·rw [if_neg c37] at H
               have c37b0 : ((t228.length : Int) == x14_3) = false := beq_eq_false_iff_ne.mpr c37
               have c37b1 : ((t228.length : Int) != x14_3) = true := bne_iff_ne.mpr c37
               obtain rfl := Option.some.inj H
               obtain ⟨Ao44, co44, eo44⟩ := Kd.R_slice HO_9.out
               subst eo44
               obtain ⟨Ao45, co45, eo45⟩ := Kd.R_slice HO_7.out
               subst eo45
               go_wp2_with (first | ((with_reducible refine gate_callee (f := 22) rfl ?_); refine goesL_ (some 91) rfl rfl Tryd.func22 (by kernel_rfl) rfl #[.string a0, .slice Ao45 t228.length co45] rfl (by (try simp only [List.map_toArray, List.map_cons, List.map_nil]); first | done | rfl | (simp only [List.length_drop, List.length_take]; rfl)) ?_; (with_reducible refine (diff_Do.calls k3 a0 _ _ t228 t240 t241 _ ?side3 ?side1 ?side2 A33.out).mono ?_); (case side1 => repeat (first | exact (Kd.R_reads' HO_7.out).2.2 | (with_reducible refine Kd.C_alloc ?_ _) | (with_reducible refine Kd.C_drewN ?_ _) | (with_reducible refine Kd.C_drew ?_))); (case side2 => exact (Kd.R_reads' HO_7.out).2.1); (case side3 => exact XAmb_step hT (hb0_ HB)); rintro e w46 ⟨rfl, hb⟩; refine ⟨_, rfl, ?_⟩; have n0_ := Aside0.mk (Kd.R_below (by (with_reducible repeat (first | apply Kd.R_alloc | apply Kd.R_drewN | apply Kd.R_drew)); exact HO_7.out) hb); have n1_ := Aside0.mk (Kd.R_below (by (with_reducible repeat (first | apply Kd.R_alloc | apply Kd.R_drewN | apply Kd.R_drew)); exact HO_9.out) hb); have n2_ := Aside0.mk (Kd.R_below (by (with_reducible repeat (first | apply Kd.R_alloc | apply Kd.R_drewN | apply Kd.R_drew)); exact HO_10.out) hb); have n3_ := Aside0.mk (below_step (hb0_ HB) hb); clear HO_7; clear HO_9; clear HO_10; clear HB; have HO_7 := n0_; have HO_9 := n1_; have HO_10 := n2_; have HB := n3_; clear n0_ n1_ n2_ n3_; (try clear hb); (try clear hb2); (try clear hk); (try clear hi)))
               go_ret
               exact ⟨by first | rfl | (simp [errW_none, errW_some] <;> rfl) | (simp [*, errW_none, errW_some] <;> rfl), by repeat (first | (with_reducible first | exact HB.out | apply below_alloc | apply pw_below_drewN | apply below_drew1) | exact HB.out)⟩
             ·rw [if_neg c36] at H
              have c36b0 : (t240.toList == x13_3.toList) = false := beq_eq_false_iff_ne.mpr c36
              have c36b1 : (t240.toList != x13_3.toList) = true := bne_iff_ne.mpr c36
              obtain rfl := Option.some.inj H
              obtain ⟨Ao47, co47, eo47⟩ := Kd.R_slice HO_9.out
              subst eo47
              obtain ⟨Ao48, co48, eo48⟩ := Kd.R_slice HO_7.out
              subst eo48
              go_wp2_with (first | ((with_reducible refine gate_callee (f := 22) rfl ?_); refine goesL_ (some 91) rfl rfl Tryd.func22 (by kernel_rfl) rfl #[.string a0, .slice Ao48 t228.length co48] rfl (by (try simp only [List.map_toArray, List.map_cons, List.map_nil]); first | done | rfl | (simp only [List.length_drop, List.length_take]; rfl)) ?_; (with_reducible refine (diff_Do.calls k3 a0 _ _ t228 t240 t241 _ ?side3 ?side1 ?side2 A33.out).mono ?_); (case side1 => repeat (first | exact (Kd.R_reads' HO_7.out).2.2 | (with_reducible refine Kd.C_alloc ?_ _) | (with_reducible refine Kd.C_drewN ?_ _) | (with_reducible refine Kd.C_drew ?_))); (case side2 => exact (Kd.R_reads' HO_7.out).2.1); (case side3 => exact XAmb_step hT (hb0_ HB)); rintro e w49 ⟨rfl, hb⟩; refine ⟨_, rfl, ?_⟩; have n0_ := Aside0.mk (Kd.R_below (by (with_reducible repeat (first | apply Kd.R_alloc | apply Kd.R_drewN | apply Kd.R_drew)); exact HO_7.out) hb); have n1_ := Aside0.mk (Kd.R_below (by (with_reducible repeat (first | apply Kd.R_alloc | apply Kd.R_drewN | apply Kd.R_drew)); exact HO_9.out) hb); have n2_ := Aside0.mk (Kd.R_below (by (with_reducible repeat (first | apply Kd.R_alloc | apply Kd.R_drewN | apply Kd.R_drew)); exact HO_10.out) hb); have n3_ := Aside0.mk (below_step (hb0_ HB) hb); clear HO_7; clear HO_9; clear HO_10; clear HB; have HO_7 := n0_; have HO_9 := n1_; have HO_10 := n2_; have HB := n3_; clear n0_ n1_ n2_ n3_; (try clear hb); (try clear hb2); (try clear hk); (try clear hi)))
              go_ret
              exact ⟨by first | rfl | (simp [errW_none, errW_some] <;> rfl) | (simp [*, errW_none, errW_some] <;> rfl), by repeat (first | (with_reducible first | exact HB.out | apply below_alloc | apply pw_below_drewN | apply below_drew1) | exact HB.out)⟩
            ·rw [if_neg c35] at H
             have c35b0 : (t241 == 0) = false := beq_eq_false_iff_ne.mpr c35
             have c35b1 : (t241 != 0) = true := bne_iff_ne.mpr c35
             obtain rfl := Option.some.inj H
             obtain ⟨Ao50, co50, eo50⟩ := Kd.R_slice HO_9.out
             subst eo50
             obtain ⟨Ao51, co51, eo51⟩ := Kd.R_slice HO_7.out
             subst eo51
             go_wp2_with (first | ((with_reducible refine gate_callee (f := 22) rfl ?_); refine goesL_ (some 91) rfl rfl Tryd.func22 (by kernel_rfl) rfl #[.string a0, .slice Ao51 t228.length co51] rfl (by (try simp only [List.map_toArray, List.map_cons, List.map_nil]); first | done | rfl | (simp only [List.length_drop, List.length_take]; rfl)) ?_; (with_reducible refine (diff_Do.calls k3 a0 _ _ t228 t240 t241 _ ?side3 ?side1 ?side2 A33.out).mono ?_); (case side1 => repeat (first | exact (Kd.R_reads' HO_7.out).2.2 | (with_reducible refine Kd.C_alloc ?_ _) | (with_reducible refine Kd.C_drewN ?_ _) | (with_reducible refine Kd.C_drew ?_))); (case side2 => exact (Kd.R_reads' HO_7.out).2.1); (case side3 => exact XAmb_step hT (hb0_ HB)); rintro e w52 ⟨rfl, hb⟩; refine ⟨_, rfl, ?_⟩; have n0_ := Aside0.mk (Kd.R_below (by (with_reducible repeat (first | apply Kd.R_alloc | apply Kd.R_drewN | apply Kd.R_drew)); exact HO_7.out) hb); have n1_ := Aside0.mk (Kd.R_below (by (with_reducible repeat (first | apply Kd.R_alloc | apply Kd.R_drewN | apply Kd.R_drew)); exact HO_9.out) hb); have n2_ := Aside0.mk (Kd.R_below (by (with_reducible repeat (first | apply Kd.R_alloc | apply Kd.R_drewN | apply Kd.R_drew)); exact HO_10.out) hb); have n3_ := Aside0.mk (below_step (hb0_ HB) hb); clear HO_7; clear HO_9; clear HO_10; clear HB; have HO_7 := n0_; have HO_9 := n1_; have HO_10 := n2_; have HB := n3_; clear n0_ n1_ n2_ n3_; (try clear hb); (try clear hb2); (try clear hk); (try clear hi)))
             go_ret
             exact ⟨by first | rfl | (simp [errW_none, errW_some] <;> rfl) | (simp [*, errW_none, errW_some] <;> rfl), by repeat (first | (with_reducible first | exact HB.out | apply below_alloc | apply pw_below_drewN | apply below_drew1) | exact HB.out)⟩
           ·rw [if_neg c34] at H
            have c34b0 : (t229 == 0) = false := beq_eq_false_iff_ne.mpr c34
            have c34b1 : (t229 != 0) = true := bne_iff_ne.mpr c34
            obtain rfl := Option.some.inj H
            obtain ⟨Ao53, co53, eo53⟩ := Kd.R_slice HO_9.out
            subst eo53
            obtain ⟨Ao54, co54, eo54⟩ := Kd.R_slice HO_7.out
            subst eo54
            go_wp2_with (first | ((with_reducible refine gate_callee (f := 22) rfl ?_); refine goesL_ (some 91) rfl rfl Tryd.func22 (by kernel_rfl) rfl #[.string a0, .slice Ao54 t228.length co54] rfl (by (try simp only [List.map_toArray, List.map_cons, List.map_nil]); first | done | rfl | (simp only [List.length_drop, List.length_take]; rfl)) ?_; (with_reducible refine (diff_Do.calls k3 a0 _ _ t228 t240 t241 _ ?side3 ?side1 ?side2 A33.out).mono ?_); (case side1 => repeat (first | exact (Kd.R_reads' HO_7.out).2.2 | (with_reducible refine Kd.C_alloc ?_ _) | (with_reducible refine Kd.C_drewN ?_ _) | (with_reducible refine Kd.C_drew ?_))); (case side2 => exact (Kd.R_reads' HO_7.out).2.1); (case side3 => exact XAmb_step hT (hb0_ HB)); rintro e w55 ⟨rfl, hb⟩; refine ⟨_, rfl, ?_⟩; have n0_ := Aside0.mk (Kd.R_below (by (with_reducible repeat (first | apply Kd.R_alloc | apply Kd.R_drewN | apply Kd.R_drew)); exact HO_7.out) hb); have n1_ := Aside0.mk (Kd.R_below (by (with_reducible repeat (first | apply Kd.R_alloc | apply Kd.R_drewN | apply Kd.R_drew)); exact HO_9.out) hb); have n2_ := Aside0.mk (Kd.R_below (by (with_reducible repeat (first | apply Kd.R_alloc | apply Kd.R_drewN | apply Kd.R_drew)); exact HO_10.out) hb); have n3_ := Aside0.mk (below_step (hb0_ HB) hb); clear HO_7; clear HO_9; clear HO_10; clear HB; have HO_7 := n0_; have HO_9 := n1_; have HO_10 := n2_; have HB := n3_; clear n0_ n1_ n2_ n3_; (try clear hb); (try clear hb2); (try clear hk); (try clear hi)))
            go_ret
            exact ⟨by first | rfl | (simp [errW_none, errW_some] <;> rfl) | (simp [*, errW_none, errW_some] <;> rfl), by repeat (first | (with_reducible first | exact HB.out | apply below_alloc | apply pw_below_drewN | apply below_drew1) | exact HB.out)⟩
       ·rw [if_neg c19] at H
        have c19b0 : (x11_13 == 0) = false := beq_eq_false_iff_ne.mpr c19
        have c19b1 : (x11_13 != 0) = true := bne_iff_ne.mpr c19
        by_cases c56 : t229 = x11_13
        ·rw [if_pos c56] at H
         have c56b0 : (t229 == x11_13) = true := beq_iff_eq.mpr c56
         have c56b1 : (t229 != x11_13) = false := bne_eq_false_iff_eq.mpr c56
         clear c56
         obtain rfl := Option.some.inj H
         obtain ⟨Ao57, co57, eo57⟩ := Kd.R_slice HO_7.out
         subst eo57
         go_wp2
         go_ret
         exact ⟨by first | rfl | (simp [errW_none, errW_some] <;> rfl) | (simp [*, errW_none, errW_some] <;> rfl), by repeat (first | (with_reducible first | exact HB.out | apply below_alloc | apply pw_below_drewN | apply below_drew1) | exact HB.out)⟩
        ·rw [if_neg c56] at H
         have c56b0 : (t229 == x11_13) = false := beq_eq_false_iff_ne.mpr c56
         have c56b1 : (t229 != x11_13) = true := bne_iff_ne.mpr c56
         obtain rfl := Option.some.inj H
         go_wp2
         go_ret
         exact ⟨by first | rfl | (simp [errW_none, errW_some] <;> rfl) | (simp [*, errW_none, errW_some] <;> rfl), by repeat (first | (with_reducible first | exact HB.out | apply below_alloc | apply pw_below_drewN | apply below_drew1) | exact HB.out)⟩
 ·replace c5 := Bool.eq_false_iff.mpr c5
  subst c5
  have H1 : (some false) = some r := by rw [if_neg (show ¬ (false = true) by decide)] at H; exact H
  clear H
  have H := H1
  clear H1
  obtain rfl := Option.some.inj H
  go_enter Tryd.func8, Tryd.ntmps8
  go_wp2_with (first | ((with_reducible refine gate_callee (f := 11) rfl ?_); refine goesL_ (some 18) rfl rfl Tryd.func11 (by kernel_rfl) rfl #[] rfl (by (try simp only [List.map_toArray, List.map_cons, List.map_nil]); first | done | rfl | (simp only [List.length_drop, List.length_take]; rfl)) ?_; (with_reducible refine (foolscaplaw33_alive.calls k  false _ ?side1 A4.out).mono ?_); (case side1 => exact XAmb_step hT (hb0_ HB)); rintro e w58 ⟨rfl, hb⟩; refine ⟨_, rfl, ?_⟩; have n0_ := Aside0.mk (below_step (hb0_ HB) hb); clear HB; have HB := n0_; clear n0_; (try clear hb); (try clear hb2); (try clear hk); (try clear hi)))
  go_ret
  exact ⟨by first | rfl | (simp [errW_none, errW_some] <;> rfl) | (simp [*, errW_none, errW_some] <;> rfl), by repeat (first | (with_reducible first | exact HB.out | apply below_alloc | apply pw_below_drewN | apply below_drew1) | exact HB.out)⟩

/-- THE ONE PURE STATEMENT of foolscaplaw33_FindReplaces: yours. -/
def foolscaplaw33_FindReplaces.Pure : Prop := ∀ (a0 : ByteArray) (a1 : ByteArray) (a2 : ByteArray), a0.size ≤ 140737488351232 → a1.size ≤ 140737488351232 → a2.size ≤ 140737488351232 → ∃ k, foolscaplaw33_FindReplaces.f k a0 a1 a2 = some true
theorem foolscaplaw33_FindReplaces.walk (P : foolscaplaw33_FindReplaces.Pure) (a0 : ByteArray) (a1 : ByteArray) (a2 : ByteArray) (w : World) (hT : Aside0 (XAmb w)) (w0 : a0.size ≤ 140737488351232) (w1 : a1.size ≤ 140737488351232) (w2 : a2.size ≤ 140737488351232) :
  Calls Tryd.prog 8 #[.string a0, .string a1, .string a2] w fun e w' => e = .returned (.bool true) ∧ Below w.heap.size w w' := by
 obtain ⟨k, h⟩ := P a0 a1 a2 w0 w1 w2
 refine (foolscaplaw33_FindReplaces.calls k a0 a1 a2 true w hT h).mono ?_
 rintro e w' ⟨rfl, hd⟩
 exact ⟨rfl, hd⟩

end Go.Proofs.YtabhfloclcmjnaaDoor.P
