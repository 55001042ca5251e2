/- Printed by a program of this session (wip/xprint) over the kit's print: functions of the seat and what they come to, with their proofs. Conditions: as typed. -/
import Derived.Test.YtabhfloclcmjnaaDoorPx0
import Derived.Test.YtabhfloclcmjnaaDoorSplit
import Derived.Test.YtabhfloclcmjnaaDoorPx5
import Derived.Test.YtabhfloclcmjnaaDoorPx8
import Derived.Test.YtabhfloclcmjnaaDoorPx12
import Derived.Test.YtabhfloclcmjnaaDoorPx18
import Derived.Test.YtabhfloclcmjnaaDoorPx20
import Derived.Test.YtabhfloclcmjnaaDoorPx21
import Derived.Test.YtabhfloclcmjnaaDoorPx22
import Derived.Test.YtabhfloclcmjnaaDoorChg
namespace Go.Proofs.YtabhfloclcmjnaaDoor.P
open Go.RowKit Go.Proofs.YtabhfloclcmjnaaDoor.X Go.Proofs.YtabhfloclcmjnaaDoorW.PrintWords Go.Proofs.YtabhfloclcmjnaaDoorW.PrintLast Go.Proofs.YtabhfloclcmjnaaDoorW.PrintMore
attribute [local go_sem] max2_int min2_int max_two min_two max_three min_three max_four min_four   -- for this text's walks alone
set_option linter.unusedVariables false
set_option linter.unusedSimpArgs false

attribute [local go_sem high] eqA46
/-! ### foolscaplaw32_DiffApplies: function 10 -/
mutual
def foolscaplaw32_DiffApplies.j0 : Nat → ByteArray → ByteArray → Int → List (S46) → List (S45) → Bool → Option (Bool)
 | 0, _, _, _, _, _, _ => none
 | k + 1, x0, x5, x6, x9, x11, x72 => if x72 = true then (some false) else (foolscaplaw32_DiffApplies.l0 k x0 x5 x6 x9 x11 0)
def foolscaplaw32_DiffApplies.l0 : Nat → ByteArray → ByteArray → Int → List (S46) → List (S45) → Int → Option (Bool)
 | 0, _, _, _, _, _, _ => none
 | k + 1, x0, x5, x6, x9, x11, x13 => if x13 < (x9.length : Int) then (if 0 ≤ x13 then (if x13 < (x11.length : Int) then (if (!(((rd_T46 x9 x13).f0) == ((rd_T45 x11 x13).f0)) || (!(((rd_T46 x9 x13).f1) == ((rd_T45 x11 x13).f1)) || (!((((rd_T46 x9 x13).f2).toList) == (((rd_T45 x11 x13).f2).toList))))) = true then (some false) else (foolscaplaw32_DiffApplies.l0 k x0 x5 x6 x9 x11 (wrap64 (x13 + 1)))) else (none)) else (none)) else (if x6 = 0 then ((diff_Do.f k x0 x9).bind fun bt418 => (if bt418.2 = 0 then (some (bt418.1.toList == x5.toList)) else (some false))) else (some true))
end
def foolscaplaw32_DiffApplies.f (k : Nat) (a0 : ByteArray) (l1 : List (S93)) : Option (Bool) := (foolscaplaw32_alive.f k).bind fun t389 => (if t389 = true then ((foolscaplaw32_great.f k a0 l1).bind fun t390 => (if t390 = true then (some true) else ((foolscaplaw32_Of.f k l1).bind fun t391 => ((diff_Apply.f k a0 t391).bind fun bt394 => ((foolscapref32_Apply.f k a0 l1).bind fun bt396 => ((foolscaplaw32_Of.f k l1).bind fun t398 => ((diff_Changes.f t398).bind fun bt401 => ((foolscapref32_Changes.f k l1).bind fun bt405 => (if bt394.1.toList = bt396.1.toList then (if bt394.2 = bt396.2 then (if bt401.2 = bt405.2 then (if (bt401.1.length : Int) = (bt405.1.length : Int) then ((foolscaplaw32_Of.f k l1).bind fun t409 => ((diff_Cost.f k t409).bind fun t412 => ((foolscapref32_Cost.f k l1).bind fun t413 => (foolscaplaw32_DiffApplies.j0 k a0 bt394.1 bt394.2 bt401.1 bt405.1 (t412 != t413))))) else (foolscaplaw32_DiffApplies.j0 k a0 bt394.1 bt394.2 bt401.1 bt405.1 true)) else (foolscaplaw32_DiffApplies.j0 k a0 bt394.1 bt394.2 bt401.1 bt405.1 true)) else (foolscaplaw32_DiffApplies.j0 k a0 bt394.1 bt394.2 bt401.1 bt405.1 true)) else (foolscaplaw32_DiffApplies.j0 k a0 bt394.1 bt394.2 bt401.1 bt405.1 true)))))))))) else (some false))
theorem foolscaplaw32_DiffApplies.mono_l : ∀ k, (∀ y0 y1 y2 y3 y4 y5, LeO (foolscaplaw32_DiffApplies.j0 k y0 y1 y2 y3 y4 y5) (foolscaplaw32_DiffApplies.j0 (k + 1) y0 y1 y2 y3 y4 y5)) ∧ (∀ y0 y1 y2 y3 y4 y5, LeO (foolscaplaw32_DiffApplies.l0 k y0 y1 y2 y3 y4 y5) (foolscaplaw32_DiffApplies.l0 (k + 1) y0 y1 y2 y3 y4 y5))
 | 0 => ⟨fun _ _ _ _ _ _ r h => by simp [foolscaplaw32_DiffApplies.j0] at h, fun _ _ _ _ _ _ r h => by simp [foolscaplaw32_DiffApplies.l0] at h⟩
 | k + 1 => by
  obtain ⟨ih0, ih1⟩ := foolscaplaw32_DiffApplies.mono_l k
  refine ⟨?_, ?_⟩
  ·intro y0 y1 y2 y3 y4 y5
   unfold foolscaplaw32_DiffApplies.j0
   repeat' first
   | (with_reducible exact ih0 _ _ _ _ _ _)
   | (with_reducible exact ih1 _ _ _ _ _ _)
   | (with_reducible exact diff_Apply.mono _ _ _)
   | (with_reducible exact diff_Cost.mono _ _)
   | (with_reducible exact diff_Do.mono _ _ _)
   | (with_reducible exact foolscaplaw32_Of.mono _ _)
   | (with_reducible exact foolscaplaw32_alive.mono _)
   | (with_reducible exact foolscaplaw32_great.mono _ _ _)
   | (with_reducible exact foolscapref32_Apply.mono _ _ _)
   | (with_reducible exact foolscapref32_Changes.mono _ _)
   | (with_reducible exact foolscapref32_Cost.mono _ _)
   | (with_reducible exact LeO.refl _)
   | (with_reducible exact LeO.none _)
   | (with_reducible refine LeO.ite ?_ ?_)
   | (with_reducible refine LeO.bind ?_ (fun _ => ?_))
   | exact ih0 _ _ _ _ _ _
   | exact ih1 _ _ _ _ _ _
   | exact diff_Apply.mono _ _ _
   | exact diff_Cost.mono _ _
   | exact diff_Do.mono _ _ _
   | exact foolscaplaw32_Of.mono _ _
   | exact foolscaplaw32_alive.mono _
   | exact foolscaplaw32_great.mono _ _ _
   | exact foolscapref32_Apply.mono _ _ _
   | exact foolscapref32_Changes.mono _ _
   | exact foolscapref32_Cost.mono _ _
   | exact LeO.none _
   | refine LeO.ite ?_ ?_
   | refine LeO.bind ?_ (fun _ => ?_)
  ·intro y0 y1 y2 y3 y4 y5
   unfold foolscaplaw32_DiffApplies.l0
   repeat' first
   | (with_reducible exact ih0 _ _ _ _ _ _)
   | (with_reducible exact ih1 _ _ _ _ _ _)
   | (with_reducible exact diff_Apply.mono _ _ _)
   | (with_reducible exact diff_Cost.mono _ _)
   | (with_reducible exact diff_Do.mono _ _ _)
   | (with_reducible exact foolscaplaw32_Of.mono _ _)
   | (with_reducible exact foolscaplaw32_alive.mono _)
   | (with_reducible exact foolscaplaw32_great.mono _ _ _)
   | (with_reducible exact foolscapref32_Apply.mono _ _ _)
   | (with_reducible exact foolscapref32_Changes.mono _ _)
   | (with_reducible exact foolscapref32_Cost.mono _ _)
   | (with_reducible exact LeO.refl _)
   | (with_reducible exact LeO.none _)
   | (with_reducible refine LeO.ite ?_ ?_)
   | (with_reducible refine LeO.bind ?_ (fun _ => ?_))
   | exact ih0 _ _ _ _ _ _
   | exact ih1 _ _ _ _ _ _
   | exact diff_Apply.mono _ _ _
   | exact diff_Cost.mono _ _
   | exact diff_Do.mono _ _ _
   | exact foolscaplaw32_Of.mono _ _
   | exact foolscaplaw32_alive.mono _
   | exact foolscaplaw32_great.mono _ _ _
   | exact foolscapref32_Apply.mono _ _ _
   | exact foolscapref32_Changes.mono _ _
   | exact foolscapref32_Cost.mono _ _
   | exact LeO.none _
   | refine LeO.ite ?_ ?_
   | refine LeO.bind ?_ (fun _ => ?_)
theorem foolscaplaw32_DiffApplies.mono : ∀ a0 a1 k, LeO (foolscaplaw32_DiffApplies.f k a0 a1) (foolscaplaw32_DiffApplies.f (k + 1) a0 a1) := by
 intro a0 a1 k
 obtain ⟨ih0, ih1⟩ := foolscaplaw32_DiffApplies.mono_l k
 unfold foolscaplaw32_DiffApplies.f
 repeat' first
   | (with_reducible exact ih0 _ _ _ _ _ _)
   | (with_reducible exact ih1 _ _ _ _ _ _)
   | (with_reducible exact diff_Apply.mono _ _ _)
   | (with_reducible exact diff_Cost.mono _ _)
   | (with_reducible exact diff_Do.mono _ _ _)
   | (with_reducible exact foolscaplaw32_Of.mono _ _)
   | (with_reducible exact foolscaplaw32_alive.mono _)
   | (with_reducible exact foolscaplaw32_great.mono _ _ _)
   | (with_reducible exact foolscapref32_Apply.mono _ _ _)
   | (with_reducible exact foolscapref32_Changes.mono _ _)
   | (with_reducible exact foolscapref32_Cost.mono _ _)
   | (with_reducible exact LeO.refl _)
   | (with_reducible exact LeO.none _)
   | (with_reducible refine LeO.ite ?_ ?_)
   | (with_reducible refine LeO.bind ?_ (fun _ => ?_))
   | exact ih0 _ _ _ _ _ _
   | exact ih1 _ _ _ _ _ _
   | exact diff_Apply.mono _ _ _
   | exact diff_Cost.mono _ _
   | exact diff_Do.mono _ _ _
   | exact foolscaplaw32_Of.mono _ _
   | exact foolscaplaw32_alive.mono _
   | exact foolscaplaw32_great.mono _ _ _
   | exact foolscapref32_Apply.mono _ _ _
   | exact foolscapref32_Changes.mono _ _
   | exact foolscapref32_Cost.mono _ _
   | exact LeO.none _
   | refine LeO.ite ?_ ?_
   | refine LeO.bind ?_ (fun _ => ?_)
set_option maxHeartbeats 8000000 in
set_option maxRecDepth 100000 in
theorem foolscaplaw32_DiffApplies.calls (k : Nat) (a0 : ByteArray) (A1 : Option Addr) (c1 : Nat) (l1 : List (S93)) (r : Bool) (w : World) (hT : Aside0 (XAmb w)) (hr1 : Kd.C k93 w A1 l1.length l1) (hc1 : l1.length ≤ c1) (h : foolscaplaw32_DiffApplies.f k a0 l1 = some r) :
  Calls Tryd.prog 10 #[.string a0, .slice A1 l1.length c1] w fun e w' => e = .returned (.bool r) ∧ Below w.heap.size w w' := by
 have hu46 := Tryd.underlying46
 have HR1 := Aside0.mk hr1
 have HC1 := Aside0.mk hc1
 clear hr1 hc1
 have HB := Aside0.mk (Below.refl w.heap.size w)
 have H : ((foolscaplaw32_alive.f k).bind fun t389 => (if t389 = true then ((foolscaplaw32_great.f k a0 l1).bind fun t390 => (if t390 = true then (some true) else ((foolscaplaw32_Of.f k l1).bind fun t391 => ((diff_Apply.f k a0 t391).bind fun bt394 => ((foolscapref32_Apply.f k a0 l1).bind fun bt396 => ((foolscaplaw32_Of.f k l1).bind fun t398 => ((diff_Changes.f t398).bind fun bt401 => ((foolscapref32_Changes.f k l1).bind fun bt405 => (if bt394.1.toList = bt396.1.toList then (if bt394.2 = bt396.2 then (if bt401.2 = bt405.2 then (if (bt401.1.length : Int) = (bt405.1.length : Int) then ((foolscaplaw32_Of.f k l1).bind fun t409 => ((diff_Cost.f k t409).bind fun t412 => ((foolscapref32_Cost.f k l1).bind fun t413 => (foolscaplaw32_DiffApplies.j0 k a0 bt394.1 bt394.2 bt401.1 bt405.1 (t412 != t413))))) else (foolscaplaw32_DiffApplies.j0 k a0 bt394.1 bt394.2 bt401.1 bt405.1 true)) else (foolscaplaw32_DiffApplies.j0 k a0 bt394.1 bt394.2 bt401.1 bt405.1 true)) else (foolscaplaw32_DiffApplies.j0 k a0 bt394.1 bt394.2 bt401.1 bt405.1 true)) else (foolscaplaw32_DiffApplies.j0 k a0 bt394.1 bt394.2 bt401.1 bt405.1 true)))))))))) else (some false))) = some r := h
 clear h
 replace H := Option.bind_eq_some_iff.mp H
 obtain ⟨t389, A30, H⟩ := H
 replace H : (if t389 = true then ((foolscaplaw32_great.f k a0 l1).bind fun t390 => (if t390 = true then (some true) else ((foolscaplaw32_Of.f k l1).bind fun t391 => ((diff_Apply.f k a0 t391).bind fun bt394 => ((foolscapref32_Apply.f k a0 l1).bind fun bt396 => ((foolscaplaw32_Of.f k l1).bind fun t398 => ((diff_Changes.f t398).bind fun bt401 => ((foolscapref32_Changes.f k l1).bind fun bt405 => (if bt394.1.toList = bt396.1.toList then (if bt394.2 = bt396.2 then (if bt401.2 = bt405.2 then (if (bt401.1.length : Int) = (bt405.1.length : Int) then ((foolscaplaw32_Of.f k l1).bind fun t409 => ((diff_Cost.f k t409).bind fun t412 => ((foolscapref32_Cost.f k l1).bind fun t413 => (foolscaplaw32_DiffApplies.j0 k a0 bt394.1 bt394.2 bt401.1 bt405.1 (t412 != t413))))) else (foolscaplaw32_DiffApplies.j0 k a0 bt394.1 bt394.2 bt401.1 bt405.1 true)) else (foolscaplaw32_DiffApplies.j0 k a0 bt394.1 bt394.2 bt401.1 bt405.1 true)) else (foolscaplaw32_DiffApplies.j0 k a0 bt394.1 bt394.2 bt401.1 bt405.1 true)) else (foolscaplaw32_DiffApplies.j0 k a0 bt394.1 bt394.2 bt401.1 bt405.1 true)))))))))) else (some false)) = some r := H
 have A3 := Aside0.mk A30
 clear A30
 by_cases c4 : t389 = true
 ·subst c4
  have H1 : ((foolscaplaw32_great.f k a0 l1).bind fun t390 => (if t390 = true then (some true) else ((foolscaplaw32_Of.f k l1).bind fun t391 => ((diff_Apply.f k a0 t391).bind fun bt394 => ((foolscapref32_Apply.f k a0 l1).bind fun bt396 => ((foolscaplaw32_Of.f k l1).bind fun t398 => ((diff_Changes.f t398).bind fun bt401 => ((foolscapref32_Changes.f k l1).bind fun bt405 => (if bt394.1.toList = bt396.1.toList then (if bt394.2 = bt396.2 then (if bt401.2 = bt405.2 then (if (bt401.1.length : Int) = (bt405.1.length : Int) then ((foolscaplaw32_Of.f k l1).bind fun t409 => ((diff_Cost.f k t409).bind fun t412 => ((foolscapref32_Cost.f k l1).bind fun t413 => (foolscaplaw32_DiffApplies.j0 k a0 bt394.1 bt394.2 bt401.1 bt405.1 (t412 != t413))))) else (foolscaplaw32_DiffApplies.j0 k a0 bt394.1 bt394.2 bt401.1 bt405.1 true)) else (foolscaplaw32_DiffApplies.j0 k a0 bt394.1 bt394.2 bt401.1 bt405.1 true)) else (foolscaplaw32_DiffApplies.j0 k a0 bt394.1 bt394.2 bt401.1 bt405.1 true)) else (foolscaplaw32_DiffApplies.j0 k a0 bt394.1 bt394.2 bt401.1 bt405.1 true)))))))))) = some r := by rw [if_pos rfl] at H; exact H
  clear H
  have H := H1
  clear H1
  replace H := Option.bind_eq_some_iff.mp H
  obtain ⟨t390, A50, H⟩ := H
  replace H : (if t390 = true then (some true) else ((foolscaplaw32_Of.f k l1).bind fun t391 => ((diff_Apply.f k a0 t391).bind fun bt394 => ((foolscapref32_Apply.f k a0 l1).bind fun bt396 => ((foolscaplaw32_Of.f k l1).bind fun t398 => ((diff_Changes.f t398).bind fun bt401 => ((foolscapref32_Changes.f k l1).bind fun bt405 => (if bt394.1.toList = bt396.1.toList then (if bt394.2 = bt396.2 then (if bt401.2 = bt405.2 then (if (bt401.1.length : Int) = (bt405.1.length : Int) then ((foolscaplaw32_Of.f k l1).bind fun t409 => ((diff_Cost.f k t409).bind fun t412 => ((foolscapref32_Cost.f k l1).bind fun t413 => (foolscaplaw32_DiffApplies.j0 k a0 bt394.1 bt394.2 bt401.1 bt405.1 (t412 != t413))))) else (foolscaplaw32_DiffApplies.j0 k a0 bt394.1 bt394.2 bt401.1 bt405.1 true)) else (foolscaplaw32_DiffApplies.j0 k a0 bt394.1 bt394.2 bt401.1 bt405.1 true)) else (foolscaplaw32_DiffApplies.j0 k a0 bt394.1 bt394.2 bt401.1 bt405.1 true)) else (foolscaplaw32_DiffApplies.j0 k a0 bt394.1 bt394.2 bt401.1 bt405.1 true))))))))) = some r := H
  have A5 := Aside0.mk A50
  clear A50
  by_cases c6 : t390 = true
  ·subst c6
   have H1 : (some true) = some r := by rw [if_pos rfl] at H; exact H
   clear H
   have H := H1
   clear H1
   obtain rfl := Option.some.inj H
   go_enter Tryd.func10, Tryd.ntmps10
   go_wp2_with (first | (go_at_call 19; (with_reducible refine (foolscaplaw32_alive.calls k  true _ ?side1 A3.out).mono ?_); (case side1 => exact XAmb_step hT (hb0_ HB)); rintro e w7 ⟨rfl, hb⟩; have n0_ := Aside0.mk (below_step (hb0_ HB) hb); clear HB; have HB := n0_; clear n0_; (try clear hb); (try clear hb2); (try clear hk); (try clear hi)) | (go_at_call 31; (with_reducible refine (foolscaplaw32_great.calls k a0 _ _ l1 true _ ?side1 ?side2 A5.out).mono ?_); (case side1 => repeat (first | exact (Kd.C_below HR1.out HB.out) | (with_reducible refine Kd.C_alloc ?_ _) | (with_reducible refine Kd.C_drewN ?_ _) | (with_reducible refine Kd.C_drew ?_))); (case side2 => exact HC1.out); rintro e w' ⟨rfl, ⟨nd, rfl⟩⟩; (try first | exact ⟨rfl, _, World.drewN_drewN _ _ _⟩ | exact ⟨rfl, _, Eq.trans (World.drewN_drewN _ _ _) (congrArg (World.drewN _) (Nat.add_assoc _ _ _))⟩)))
   go_ret
   exact ⟨by first | rfl | (simp [errW_none, errW_some] <;> rfl) | (simp [*, errW_none, errW_some] <;> rfl), hb0_ HB⟩
  ·replace c6 := Bool.eq_false_iff.mpr c6
   subst c6
   have H1 : ((foolscaplaw32_Of.f k l1).bind fun t391 => ((diff_Apply.f k a0 t391).bind fun bt394 => ((foolscapref32_Apply.f k a0 l1).bind fun bt396 => ((foolscaplaw32_Of.f k l1).bind fun t398 => ((diff_Changes.f t398).bind fun bt401 => ((foolscapref32_Changes.f k l1).bind fun bt405 => (if bt394.1.toList = bt396.1.toList then (if bt394.2 = bt396.2 then (if bt401.2 = bt405.2 then (if (bt401.1.length : Int) = (bt405.1.length : Int) then ((foolscaplaw32_Of.f k l1).bind fun t409 => ((diff_Cost.f k t409).bind fun t412 => ((foolscapref32_Cost.f k l1).bind fun t413 => (foolscaplaw32_DiffApplies.j0 k a0 bt394.1 bt394.2 bt401.1 bt405.1 (t412 != t413))))) else (foolscaplaw32_DiffApplies.j0 k a0 bt394.1 bt394.2 bt401.1 bt405.1 true)) else (foolscaplaw32_DiffApplies.j0 k a0 bt394.1 bt394.2 bt401.1 bt405.1 true)) else (foolscaplaw32_DiffApplies.j0 k a0 bt394.1 bt394.2 bt401.1 bt405.1 true)) else (foolscaplaw32_DiffApplies.j0 k a0 bt394.1 bt394.2 bt401.1 bt405.1 true)))))))) = some r := by rw [if_neg (show ¬ (false = true) by decide)] at H; exact H
   clear H
   have H := H1
   clear H1
   replace H := Option.bind_eq_some_iff.mp H
   obtain ⟨t391, A80, H⟩ := H
   replace H : ((diff_Apply.f k a0 t391).bind fun bt394 => ((foolscapref32_Apply.f k a0 l1).bind fun bt396 => ((foolscaplaw32_Of.f k l1).bind fun t398 => ((diff_Changes.f t398).bind fun bt401 => ((foolscapref32_Changes.f k l1).bind fun bt405 => (if bt394.1.toList = bt396.1.toList then (if bt394.2 = bt396.2 then (if bt401.2 = bt405.2 then (if (bt401.1.length : Int) = (bt405.1.length : Int) then ((foolscaplaw32_Of.f k l1).bind fun t409 => ((diff_Cost.f k t409).bind fun t412 => ((foolscapref32_Cost.f k l1).bind fun t413 => (foolscaplaw32_DiffApplies.j0 k a0 bt394.1 bt394.2 bt401.1 bt405.1 (t412 != t413))))) else (foolscaplaw32_DiffApplies.j0 k a0 bt394.1 bt394.2 bt401.1 bt405.1 true)) else (foolscaplaw32_DiffApplies.j0 k a0 bt394.1 bt394.2 bt401.1 bt405.1 true)) else (foolscaplaw32_DiffApplies.j0 k a0 bt394.1 bt394.2 bt401.1 bt405.1 true)) else (foolscaplaw32_DiffApplies.j0 k a0 bt394.1 bt394.2 bt401.1 bt405.1 true))))))) = some r := H
   have A8 := Aside0.mk A80
   clear A80
   replace H := Option.bind_eq_some_iff.mp H
   obtain ⟨⟨t394, t395⟩, A90, H⟩ := H
   replace H : ((foolscapref32_Apply.f k a0 l1).bind fun bt396 => ((foolscaplaw32_Of.f k l1).bind fun t398 => ((diff_Changes.f t398).bind fun bt401 => ((foolscapref32_Changes.f k l1).bind fun bt405 => (if t394.toList = bt396.1.toList then (if t395 = bt396.2 then (if bt401.2 = bt405.2 then (if (bt401.1.length : Int) = (bt405.1.length : Int) then ((foolscaplaw32_Of.f k l1).bind fun t409 => ((diff_Cost.f k t409).bind fun t412 => ((foolscapref32_Cost.f k l1).bind fun t413 => (foolscaplaw32_DiffApplies.j0 k a0 t394 t395 bt401.1 bt405.1 (t412 != t413))))) else (foolscaplaw32_DiffApplies.j0 k a0 t394 t395 bt401.1 bt405.1 true)) else (foolscaplaw32_DiffApplies.j0 k a0 t394 t395 bt401.1 bt405.1 true)) else (foolscaplaw32_DiffApplies.j0 k a0 t394 t395 bt401.1 bt405.1 true)) else (foolscaplaw32_DiffApplies.j0 k a0 t394 t395 bt401.1 bt405.1 true)))))) = some r := H
   have A9 := Aside0.mk A90
   clear A90
   replace H := Option.bind_eq_some_iff.mp H
   obtain ⟨⟨t396, t397⟩, A100, H⟩ := H
   replace H : ((foolscaplaw32_Of.f k l1).bind fun t398 => ((diff_Changes.f t398).bind fun bt401 => ((foolscapref32_Changes.f k l1).bind fun bt405 => (if t394.toList = t396.toList then (if t395 = t397 then (if bt401.2 = bt405.2 then (if (bt401.1.length : Int) = (bt405.1.length : Int) then ((foolscaplaw32_Of.f k l1).bind fun t409 => ((diff_Cost.f k t409).bind fun t412 => ((foolscapref32_Cost.f k l1).bind fun t413 => (foolscaplaw32_DiffApplies.j0 k a0 t394 t395 bt401.1 bt405.1 (t412 != t413))))) else (foolscaplaw32_DiffApplies.j0 k a0 t394 t395 bt401.1 bt405.1 true)) else (foolscaplaw32_DiffApplies.j0 k a0 t394 t395 bt401.1 bt405.1 true)) else (foolscaplaw32_DiffApplies.j0 k a0 t394 t395 bt401.1 bt405.1 true)) else (foolscaplaw32_DiffApplies.j0 k a0 t394 t395 bt401.1 bt405.1 true))))) = some r := H
   have A10 := Aside0.mk A100
   clear A100
   replace H := Option.bind_eq_some_iff.mp H
   obtain ⟨t398, A110, H⟩ := H
   replace H : ((diff_Changes.f t398).bind fun bt401 => ((foolscapref32_Changes.f k l1).bind fun bt405 => (if t394.toList = t396.toList then (if t395 = t397 then (if bt401.2 = bt405.2 then (if (bt401.1.length : Int) = (bt405.1.length : Int) then ((foolscaplaw32_Of.f k l1).bind fun t409 => ((diff_Cost.f k t409).bind fun t412 => ((foolscapref32_Cost.f k l1).bind fun t413 => (foolscaplaw32_DiffApplies.j0 k a0 t394 t395 bt401.1 bt405.1 (t412 != t413))))) else (foolscaplaw32_DiffApplies.j0 k a0 t394 t395 bt401.1 bt405.1 true)) else (foolscaplaw32_DiffApplies.j0 k a0 t394 t395 bt401.1 bt405.1 true)) else (foolscaplaw32_DiffApplies.j0 k a0 t394 t395 bt401.1 bt405.1 true)) else (foolscaplaw32_DiffApplies.j0 k a0 t394 t395 bt401.1 bt405.1 true)))) = some r := H
   have A11 := Aside0.mk A110
   clear A110
   replace H := Option.bind_eq_some_iff.mp H
   obtain ⟨⟨t401, t402⟩, A120, H⟩ := H
   replace H : ((foolscapref32_Changes.f k l1).bind fun bt405 => (if t394.toList = t396.toList then (if t395 = t397 then (if t402 = bt405.2 then (if (t401.length : Int) = (bt405.1.length : Int) then ((foolscaplaw32_Of.f k l1).bind fun t409 => ((diff_Cost.f k t409).bind fun t412 => ((foolscapref32_Cost.f k l1).bind fun t413 => (foolscaplaw32_DiffApplies.j0 k a0 t394 t395 t401 bt405.1 (t412 != t413))))) else (foolscaplaw32_DiffApplies.j0 k a0 t394 t395 t401 bt405.1 true)) else (foolscaplaw32_DiffApplies.j0 k a0 t394 t395 t401 bt405.1 true)) else (foolscaplaw32_DiffApplies.j0 k a0 t394 t395 t401 bt405.1 true)) else (foolscaplaw32_DiffApplies.j0 k a0 t394 t395 t401 bt405.1 true))) = some r := H
   have A12 := Aside0.mk A120
   clear A120
   replace H := Option.bind_eq_some_iff.mp H
   obtain ⟨⟨t405, t406⟩, A130, H⟩ := H
   replace H : (if t394.toList = t396.toList then (if t395 = t397 then (if t402 = t406 then (if (t401.length : Int) = (t405.length : Int) then ((foolscaplaw32_Of.f k l1).bind fun t409 => ((diff_Cost.f k t409).bind fun t412 => ((foolscapref32_Cost.f k l1).bind fun t413 => (foolscaplaw32_DiffApplies.j0 k a0 t394 t395 t401 t405 (t412 != t413))))) else (foolscaplaw32_DiffApplies.j0 k a0 t394 t395 t401 t405 true)) else (foolscaplaw32_DiffApplies.j0 k a0 t394 t395 t401 t405 true)) else (foolscaplaw32_DiffApplies.j0 k a0 t394 t395 t401 t405 true)) else (foolscaplaw32_DiffApplies.j0 k a0 t394 t395 t401 t405 true)) = some r := H
   have A13 := Aside0.mk A130
   clear A130
   have HC14 := Aside0.mk H
   clear H
   go_enter Tryd.func10, Tryd.ntmps10
   go_upto_region 9 with (first | (go_at_call 19; (with_reducible refine (foolscaplaw32_alive.calls k  true _ ?side1 A3.out).mono ?_); (case side1 => exact XAmb_step hT (hb0_ HB)); rintro e w15 ⟨rfl, hb⟩; have n0_ := Aside0.mk (below_step (hb0_ HB) hb); clear HB; have HB := n0_; clear n0_; (try clear hb); (try clear hb2); (try clear hk); (try clear hi)) | (go_at_call 31; (with_reducible refine (foolscaplaw32_great.calls k a0 _ _ l1 false _ ?side1 ?side2 A5.out).mono ?_); (case side1 => repeat (first | exact (Kd.C_below HR1.out HB.out) | (with_reducible refine Kd.C_alloc ?_ _) | (with_reducible refine Kd.C_drewN ?_ _) | (with_reducible refine Kd.C_drew ?_))); (case side2 => exact HC1.out); rintro e w' ⟨rfl, ⟨nd, rfl⟩⟩; (try first | exact ⟨rfl, _, World.drewN_drewN _ _ _⟩ | exact ⟨rfl, _, Eq.trans (World.drewN_drewN _ _ _) (congrArg (World.drewN _) (Nat.add_assoc _ _ _))⟩)) | (go_at_call 32; (with_reducible refine (foolscaplaw32_Of.calls k _ _ l1 t391 _ ?side1 ?side2 A8.out).mono ?_); (case side1 => repeat (first | exact (Kd.C_below HR1.out (hb0_ HB)) | (with_reducible refine Kd.C_alloc ?_ _) | (with_reducible refine Kd.C_drewN ?_ _) | (with_reducible refine Kd.C_drew ?_))); (case side2 => exact HC1.out); rintro e w16 ⟨v392, rfl, ho0, hb⟩; have n0_ := Aside0.mk (Kd.R_lower ho0 (below_size (hb0_ HB))); have n1_ := Aside0.mk (below_step (hb0_ HB) hb); clear HB; have HO393 := n0_; have HB := n1_; clear n0_ n1_; (try clear hb); (try clear hb2); (try clear hk); (try clear hi); (try clear ho0); obtain ⟨Ao17, co17, eo17⟩ := Kd.R_slice HO393.out; subst eo17; clear A8) | (go_at_call 28; (with_reducible refine (diff_Apply.calls k a0 _ _ t391 t394 t395 _ ?side3 ?side1 ?side2 A9.out).mono ?_); (case side1 => repeat (first | exact (Kd.R_reads' HO393.out).2.2 | (with_reducible refine Kd.C_alloc ?_ _) | (with_reducible refine Kd.C_drewN ?_ _) | (with_reducible refine Kd.C_drew ?_))); (case side2 => exact (Kd.R_reads' HO393.out).2.1); (case side3 => exact XAmb_step hT (hb0_ HB)); rintro e w18 ⟨rfl, hb⟩; have n0_ := Aside0.mk (Kd.R_below (ro_ HO393) hb); have n1_ := Aside0.mk (below_step (hb0_ HB) hb); clear HO393; clear HB; have HO393 := n0_; have HB := n1_; clear n0_ n1_; (try clear hb); (try clear hb2); (try clear hk); (try clear hi)) | (go_at_call 33; (with_reducible refine (foolscapref32_Apply.calls k a0 _ _ l1 t396 t397 _ ?side1 ?side2 A10.out).mono ?_); (case side1 => repeat (first | exact (Kd.C_below HR1.out HB.out) | (with_reducible refine Kd.C_alloc ?_ _) | (with_reducible refine Kd.C_drewN ?_ _) | (with_reducible refine Kd.C_drew ?_))); (case side2 => exact HC1.out); rintro e w19 ⟨rfl, hb⟩; have n0_ := Aside0.mk (Kd.R_below (ro_ HO393) hb); have n1_ := Aside0.mk (below_step (hb0_ HB) hb); clear HO393; clear HB; have HO393 := n0_; have HB := n1_; clear n0_ n1_; (try clear hb); (try clear hb2); (try clear hk); (try clear hi)) | (go_at_call 32; (with_reducible refine (foolscaplaw32_Of.calls k _ _ l1 t398 _ ?side1 ?side2 A11.out).mono ?_); (case side1 => repeat (first | exact (Kd.C_below HR1.out HB.out) | (with_reducible refine Kd.C_alloc ?_ _) | (with_reducible refine Kd.C_drewN ?_ _) | (with_reducible refine Kd.C_drew ?_))); (case side2 => exact HC1.out); rintro e w20 ⟨v399, rfl, ho0, hb⟩; have n0_ := Aside0.mk (Kd.R_elder' (ro_ HO393) (Kd.R_base ho0) hb); have n1_ := Aside0.mk (Kd.R_lower (Kd.R_new' ho0 (Kd.R_lt (ro_ HO393))) (below_size (hb0_ HB))); have n2_ := Aside0.mk (below_step (hb0_ HB) hb); clear HO393; clear HB; have HO393 := n0_; have HO400 := n1_; have HB := n2_; clear n0_ n1_ n2_; (try clear hb); (try clear hb2); (try clear hk); (try clear hi); (try clear ho0); obtain ⟨Ao21, co21, eo21⟩ := Kd.R_slice HO400.out; subst eo21) | (go_at_call 29; (with_reducible refine (diff_Changes.calls _ _ t398 t401 t402 _ ?side3 ?side1 ?side2 A12.out).mono ?_); (case side1 => repeat (first | exact (Kd.R_reads' HO400.out).2.2 | (with_reducible refine Kd.C_alloc ?_ _) | (with_reducible refine Kd.C_drewN ?_ _) | (with_reducible refine Kd.C_drew ?_))); (case side2 => exact (Kd.R_reads' HO400.out).2.1); (case side3 => exact XAmb_step hT (hb0_ HB)); rintro e w22 ⟨v403, rfl, ho0, hb⟩; have n0_ := Aside0.mk (Kd.R_below (ro_ HO393) hb); have n1_ := Aside0.mk (Kd.R_below (ro_ HO400) hb); have n2_ := Aside0.mk (Kd.R_lower ho0 (below_size (hb0_ HB))); have n3_ := Aside0.mk (below_step (hb0_ HB) hb); clear HO393; clear HO400; clear HB; have HO393 := n0_; have HO400 := n1_; have HO404 := n2_; have HB := n3_; clear n0_ n1_ n2_ n3_; (try clear hb); (try clear hb2); (try clear hk); (try clear hi); (try clear ho0)) | (go_at_call 34; (with_reducible refine (foolscapref32_Changes.calls k _ _ l1 t405 t406 _ ?side1 ?side2 A13.out).mono ?_); (case side1 => repeat (first | exact (Kd.C_below HR1.out HB.out) | (with_reducible refine Kd.C_alloc ?_ _) | (with_reducible refine Kd.C_drewN ?_ _) | (with_reducible refine Kd.C_drew ?_))); (case side2 => exact HC1.out); rintro e w23 ⟨v407, rfl, ho0, hb⟩; have n0_ := Aside0.mk (Kd.R_below (ro_ HO393) hb); have n1_ := Aside0.mk (Kd.R_below (ro_ HO400) hb); have n2_ := Aside0.mk (Kd.R_below (ro_ HO404) hb); have n3_ := Aside0.mk (Kd.R_lower ho0 (below_size (hb0_ HB))); have n4_ := Aside0.mk (below_step (hb0_ HB) hb); clear HO393; clear HO400; clear HO404; clear HB; have HO393 := n0_; have HO400 := n1_; have HO404 := n2_; have HO408 := n3_; have HB := n4_; clear n0_ n1_ n2_ n3_ n4_; (try clear hb); (try clear hb2); (try clear hk); (try clear hi); (try clear ho0)))
   (try simp only [Act.put, List.setIfInBounds_toArray, List.set_cons_zero, List.set_cons_succ])
   go_cut [72] (fun v72 wc => ∃ (kq : Nat) (x72_13 : Bool), v72 = .bool x72_13 ∧ Aside0 (foolscaplaw32_DiffApplies.j0 kq a0 t394 t395 t401 t405 x72_13 = some r) ∧ Aside0 (kq ≤ k) ∧ Aside0 (Kd.R k46 46 wc w.heap.size (fun _ => True) v403 t401) ∧ Aside0 (Kd.R k45 45 wc w.heap.size (fun _ => True) v407 t405) ∧ Aside0 (Below w.heap.size w wc))
   case first =>
    have H := HC14.out
    clear HC14
    by_cases c24 : t394.toList = t396.toList
    ·rw [if_pos c24] at H
     have c24b0 : (t394.toList == t396.toList) = true := beq_iff_eq.mpr c24
     have c24b1 : (t394.toList != t396.toList) = false := bne_eq_false_iff_eq.mpr c24
     clear c24
     (first | rw [c24b0] | (simp only [i64_w, i32_w]; rw [c24b0]) | skip)
     by_cases c25 : t395 = t397
     ·rw [if_pos c25] at H
      have c25b0 : (t395 == t397) = true := beq_iff_eq.mpr c25
      have c25b1 : (t395 != t397) = false := bne_eq_false_iff_eq.mpr c25
      clear c25
      by_cases c26 : t402 = t406
      ·rw [if_pos c26] at H
       have c26b0 : (t402 == t406) = true := beq_iff_eq.mpr c26
       have c26b1 : (t402 != t406) = false := bne_eq_false_iff_eq.mpr c26
       clear c26
       by_cases c27 : (t401.length : Int) = (t405.length : Int)
       ·rw [if_pos c27] at H
        have c27b0 : ((t401.length : Int) == (t405.length : Int)) = true := beq_iff_eq.mpr c27
        have c27b1 : ((t401.length : Int) != (t405.length : Int)) = false := bne_eq_false_iff_eq.mpr c27
        have c27b2 : (t401.length == t405.length) = true := by first | simpa using c27 | (simp at c27 ⊢; omega)
        clear c27
        replace H := Option.bind_eq_some_iff.mp H
        obtain ⟨t409, A280, H⟩ := H
        replace H : ((diff_Cost.f k t409).bind fun t412 => ((foolscapref32_Cost.f k l1).bind fun t413 => (foolscaplaw32_DiffApplies.j0 k a0 t394 t395 t401 t405 (t412 != t413)))) = some r := H
        have A28 := Aside0.mk A280
        clear A280
        replace H := Option.bind_eq_some_iff.mp H
        obtain ⟨t412, A290, H⟩ := H
        replace H : ((foolscapref32_Cost.f k l1).bind fun t413 => (foolscaplaw32_DiffApplies.j0 k a0 t394 t395 t401 t405 (t412 != t413))) = some r := H
        have A29 := Aside0.mk A290
        clear A290
        replace H := Option.bind_eq_some_iff.mp H
        obtain ⟨t413, A300, H⟩ := H
        replace H : (foolscaplaw32_DiffApplies.j0 k a0 t394 t395 t401 t405 (t412 != t413)) = some r := H
        have A30 := Aside0.mk A300
        clear A300
        have H' := Aside0.mk H
        clear H
        obtain ⟨Ao31, co31, eo31⟩ := Kd.R_slice HO404.out
        subst eo31
        obtain ⟨Ao32, co32, eo32⟩ := Kd.R_slice HO408.out
        subst eo32
        go_wp2_with (first | (go_at_call 32; (with_reducible refine (foolscaplaw32_Of.calls k _ _ l1 t409 _ ?side1 ?side2 A28.out).mono ?_); (case side1 => repeat (first | exact (Kd.C_below HR1.out HB.out) | (with_reducible refine Kd.C_alloc ?_ _) | (with_reducible refine Kd.C_drewN ?_ _) | (with_reducible refine Kd.C_drew ?_))); (case side2 => exact HC1.out); rintro e w33 ⟨v410, rfl, ho0, hb⟩; have n0_ := Aside0.mk (Kd.R_elder' (ro_ HO393) (Kd.R_base ho0) hb); have n1_ := Aside0.mk (Kd.R_elder' (ro_ HO400) (Kd.R_base ho0) hb); have n2_ := Aside0.mk (Kd.R_below (ro_ HO404) hb); have n3_ := Aside0.mk (Kd.R_below (ro_ HO408) hb); have n4_ := Aside0.mk (Kd.R_lower (Kd.R_new' (Kd.R_new' ho0 (Kd.R_lt (ro_ HO393))) (Kd.R_lt (ro_ HO400))) (below_size (hb0_ HB))); have n5_ := Aside0.mk (below_step (hb0_ HB) hb); clear HO393; clear HO400; clear HO404; clear HO408; clear HB; have HO393 := n0_; have HO400 := n1_; have HO404 := n2_; have HO408 := n3_; have HO411 := n4_; have HB := n5_; clear n0_ n1_ n2_ n3_ n4_ n5_; (try clear hb); (try clear hb2); (try clear hk); (try clear hi); (try clear ho0); obtain ⟨Ao34, co34, eo34⟩ := Kd.R_slice HO411.out; subst eo34) | (go_at_call 21; (with_reducible refine (diff_Cost.calls k _ _ t409 t412 _ ?side3 ?side1 ?side2 A29.out).mono ?_); (case side1 => repeat (first | exact (Kd.R_reads' HO411.out).2.2 | (with_reducible refine Kd.C_alloc ?_ _) | (with_reducible refine Kd.C_drewN ?_ _) | (with_reducible refine Kd.C_drew ?_))); (case side2 => exact (Kd.R_reads' HO411.out).2.1); (case side3 => exact XAmb_step hT (hb0_ HB)); rintro e w35 ⟨rfl, hb⟩; have n0_ := Aside0.mk (Kd.R_below (ro_ HO393) hb); have n1_ := Aside0.mk (Kd.R_below (ro_ HO400) hb); have n2_ := Aside0.mk (Kd.R_below (ro_ HO404) hb); have n3_ := Aside0.mk (Kd.R_below (ro_ HO408) hb); have n4_ := Aside0.mk (Kd.R_below (ro_ HO411) hb); have n5_ := Aside0.mk (below_step (hb0_ HB) hb); clear HO393; clear HO400; clear HO404; clear HO408; clear HO411; clear HB; have HO393 := n0_; have HO400 := n1_; have HO404 := n2_; have HO408 := n3_; have HO411 := n4_; have HB := n5_; clear n0_ n1_ n2_ n3_ n4_ n5_; (try clear hb); (try clear hb2); (try clear hk); (try clear hi)) | (go_at_call 35; (with_reducible refine (foolscapref32_Cost.calls k _ _ l1 t413 _ ?side1 ?side2 A30.out).mono ?_); (case side1 => repeat (first | exact (Kd.C_below HR1.out HB.out) | (with_reducible refine Kd.C_alloc ?_ _) | (with_reducible refine Kd.C_drewN ?_ _) | (with_reducible refine Kd.C_drew ?_))); (case side2 => exact HC1.out); rintro e w36 ⟨rfl, hb⟩; have n0_ := Aside0.mk (Kd.R_below (ro_ HO393) hb); have n1_ := Aside0.mk (Kd.R_below (ro_ HO400) hb); have n2_ := Aside0.mk (Kd.R_below (ro_ HO404) hb); have n3_ := Aside0.mk (Kd.R_below (ro_ HO408) hb); have n4_ := Aside0.mk (Kd.R_below (ro_ HO411) hb); have n5_ := Aside0.mk (below_step (hb0_ HB) hb); clear HO393; clear HO400; clear HO404; clear HO408; clear HO411; clear HB; have HO393 := n0_; have HO400 := n1_; have HO404 := n2_; have HO408 := n3_; have HO411 := n4_; have HB := n5_; clear n0_ n1_ n2_ n3_ n4_ n5_; (try clear hb); (try clear hb2); (try clear hk); (try clear hi)))
        go_meet
        case rel => exact ⟨_, ((t412 != t413)), (by first | rfl | (simp; done) | (simp [*]; done)), H', ⟨by first | omega | exact Nat.le_refl _⟩, ⟨ro_ HO404⟩, ⟨ro_ HO408⟩, ⟨hb0_ HB⟩⟩
       ·rw [if_neg c27] at H
        have c27b0 : ((t401.length : Int) == (t405.length : Int)) = false := beq_eq_false_iff_ne.mpr c27
        have c27b1 : ((t401.length : Int) != (t405.length : Int)) = true := bne_iff_ne.mpr c27
        have c27b2 : (t401.length == t405.length) = false := by first | simpa using c27 | (simp at c27 ⊢; omega)
        have H' := Aside0.mk H
        clear H
        obtain ⟨Ao37, co37, eo37⟩ := Kd.R_slice HO404.out
        subst eo37
        obtain ⟨Ao38, co38, eo38⟩ := Kd.R_slice HO408.out
        subst eo38
        go_wp2
        repeat (go_quiet (fail); try go_wp2)
        go_meet
        case rel => exact ⟨_, (true), (by first | rfl | (simp; done) | (simp [*]; done)), H', ⟨by first | omega | exact Nat.le_refl _⟩, ⟨ro_ HO404⟩, ⟨ro_ HO408⟩, ⟨hb0_ HB⟩⟩
      ·rw [if_neg c26] at H
       have c26b0 : (t402 == t406) = false := beq_eq_false_iff_ne.mpr c26
       have c26b1 : (t402 != t406) = true := bne_iff_ne.mpr c26
       have H' := Aside0.mk H
       clear H
       go_wp2
       repeat (go_quiet (fail); try go_wp2)
       go_meet
       case rel => exact ⟨_, (true), (by first | rfl | (simp; done) | (simp [*]; done)), H', ⟨by first | omega | exact Nat.le_refl _⟩, ⟨ro_ HO404⟩, ⟨ro_ HO408⟩, ⟨hb0_ HB⟩⟩
     ·rw [if_neg c25] at H
      have c25b0 : (t395 == t397) = false := beq_eq_false_iff_ne.mpr c25
      have c25b1 : (t395 != t397) = true := bne_iff_ne.mpr c25
      have H' := Aside0.mk H
      clear H
      go_wp2
      repeat (go_quiet (fail); try go_wp2)
      go_meet
      case rel => exact ⟨_, (true), (by first | rfl | (simp; done) | (simp [*]; done)), H', ⟨by first | omega | exact Nat.le_refl _⟩, ⟨ro_ HO404⟩, ⟨ro_ HO408⟩, ⟨hb0_ HB⟩⟩
    ·rw [if_neg c24] at H
     have c24b0 : (t394.toList == t396.toList) = false := beq_eq_false_iff_ne.mpr c24
     have c24b1 : (t394.toList != t396.toList) = true := bne_iff_ne.mpr c24
     (first | rw [c24b0] | (simp only [i64_w, i32_w]; rw [c24b0]) | skip)
     have H' := Aside0.mk H
     clear H
     go_wp2
     repeat (go_quiet (fail); try go_wp2)
     go_meet
     case rel => exact ⟨_, (true), (by first | rfl | (simp; done) | (simp [*]; done)), H', ⟨by first | omega | exact Nat.le_refl _⟩, ⟨ro_ HO404⟩, ⟨ro_ HO408⟩, ⟨hb0_ HB⟩⟩
   case rest =>
    clear HC14
    try clear c1
    try clear c2
    try clear p2
    try clear c4
    try clear c6
    try clear c10
    try clear c24
    try clear c24b0
    try clear c24b1
    try clear c25
    try clear c25b0
    try clear c25b1
    try clear c26
    try clear c26b0
    try clear c26b1
    try clear c27
    try clear c27b0
    try clear c27b1
    try clear c27b2
    obtain ⟨kq, x72_13, rfl, HA, HJ13, HO_9, HO_11, HB⟩ := hcut
    cases kq with
    | zero => exact absurd HA.out (by simp [foolscaplaw32_DiffApplies.j0])
    | succ kj13 =>
     have H := HA.out
     clear HA
     simp only [foolscaplaw32_DiffApplies.j0] at H
     by_cases c39 : x72_13 = true
     ·subst c39
      have H1 : (some false) = some r := by rw [if_pos rfl] at H; exact H
      clear H
      have H := H1
      clear H1
      obtain rfl := Option.some.inj H
      go_wp2
      repeat (go_quiet (fail); try go_wp2)
      go_ret
      exact ⟨by first | rfl | (simp [errW_none, errW_some] <;> rfl) | (simp [*, errW_none, errW_some] <;> rfl), hb0_ HB⟩
     ·replace c39 := Bool.eq_false_iff.mpr c39
      subst c39
      have H1 : (foolscaplaw32_DiffApplies.l0 kj13 a0 t394 t395 t401 t405 0) = some r := by rw [if_neg (show ¬ (false = true) by decide)] at H; exact H
      clear H
      have H := H1
      clear H1
      have H' := Aside0.mk H
      clear H
      go_wp2
      repeat (go_quiet (fail); try go_wp2)
      go_loopg [13] kj13 (fun kq v13 w' => ∃ (x13_2 : Int), v13 = .int .i64 x13_2 ∧ Aside0 (foolscaplaw32_DiffApplies.l0 kq a0 t394 t395 t401 t405 x13_2 = some r) ∧ Aside0 (kq ≤ kj13) ∧ Aside0 (Kd.R k46 46 w' w.heap.size (fun _ => True) v403 t401) ∧ Aside0 (Kd.R k45 45 w' w.heap.size (fun _ => True) v407 t405) ∧ Aside0 (Below w.heap.size w w'))
      case atStart => exact ⟨(0), (by first | rfl | (simp; done) | (simp [*]; done)), H', ⟨Nat.le_refl _⟩, ⟨ro_ HO_9⟩, ⟨ro_ HO_11⟩, ⟨hb0_ HB⟩⟩
      case round =>
       clear H'
       try clear c1
       try clear c2
       try clear p2
       try clear c3
       try clear c4
       try clear c6
       try clear c10
       try clear c24
       try clear c24b0
       try clear c24b1
       try clear c25
       try clear c25b0
       try clear c25b1
       try clear c26
       try clear c26b0
       try clear c26b1
       try clear c27
       try clear c27b0
       try clear c27b1
       try clear c27b2
       try clear c39
       try clear p2
       obtain ⟨x13_2, rfl, HA, HK2, HO_9, HO_11, HB⟩ := hrel
       cases gk with
       | zero => exact absurd HA.out (by simp [foolscaplaw32_DiffApplies.l0])
       | succ k2 =>
        have H := HA.out
        clear HA
        simp only [foolscaplaw32_DiffApplies.l0] at H
        by_cases c40 : x13_2 < (t401.length : Int)
        ·rw [if_pos c40] at H
         have c40b0 : decide (x13_2 < (t401.length : Int)) = true := decide_eq_true c40
         clear c40
         by_cases c41 : 0 ≤ x13_2
         ·rw [if_pos c41] at H
          have c41b0 : decide (0 ≤ x13_2) = true := decide_eq_true c41
          clear c41
          by_cases c42 : x13_2 < (t405.length : Int)
          ·rw [if_pos c42] at H
           have c42b0 : decide (x13_2 < (t405.length : Int)) = true := decide_eq_true c42
           clear c42
           by_cases c43 : (!(((rd_T46 t401 x13_2).f0) == ((rd_T45 t405 x13_2).f0)) || (!(((rd_T46 t401 x13_2).f1) == ((rd_T45 t405 x13_2).f1)) || (!((((rd_T46 t401 x13_2).f2).toList) == (((rd_T45 t405 x13_2).f2).toList))))) = true
           ·rw [if_pos c43] at H
            have c43b0 : (!(((rd_T46 t401 x13_2).f0) == ((rd_T45 t405 x13_2).f0)) || (!(((rd_T46 t401 x13_2).f1) == ((rd_T45 t405 x13_2).f1)) || (!((((rd_T46 t401 x13_2).f2).toList) == (((rd_T45 t405 x13_2).f2).toList))))) = true := c43
            clear c43
            obtain rfl := Option.some.inj H
            obtain ⟨Ao44, co44, eo44⟩ := Kd.R_slice HO_9.out
            subst eo44
            have p414 : 0 ≤ (x13_2 : Int) := dt_
            have q414 : x13_2 < (t401.length : Int) := dt_
            obtain ⟨ad414, e414, hx414_0, hx414_1, hx414_2⟩ := at_T46 (Kd.R_reads' HO_9.out).2.2 x13_2 p414 q414
            cases e414
            replace p414 := eq_true p414
            replace q414 := eq_true q414
            obtain ⟨Ao45, co45, eo45⟩ := Kd.R_slice HO_11.out
            subst eo45
            have p415 : 0 ≤ (x13_2 : Int) := dt_
            have q415 : x13_2 < (t405.length : Int) := dt_
            obtain ⟨ad415, e415, hx415_0, hx415_1, hx415_2⟩ := at_T45 (Kd.R_reads' HO_11.out).2.2 x13_2 p415 q415
            cases e415
            replace p415 := eq_true p415
            replace q415 := eq_true q415
            have p416 : 0 ≤ (x13_2 : Int) := dt_
            have q416 : x13_2 < (t405.length : Int) := dt_
            obtain ⟨ad416, e416, hx416_0, hx416_1, hx416_2⟩ := at_T45 (Kd.R_reads' HO_11.out).2.2 x13_2 p416 q416
            obtain rfl : ad415 = ad416 := (by injection e416)
            replace p416 := eq_true p416
            replace q416 := eq_true q416
            have p417 : 0 ≤ (x13_2 : Int) := dt_
            have q417 : x13_2 < (t405.length : Int) := dt_
            obtain ⟨ad417, e417, hx417_0, hx417_1, hx417_2⟩ := at_T45 (Kd.R_reads' HO_11.out).2.2 x13_2 p417 q417
            obtain rfl : ad415 = ad417 := (by injection e417)
            replace p417 := eq_true p417
            replace q417 := eq_true q417
            go_wp2
            repeat (go_quiet (fail); try go_wp2)
            go_ret
            exact ⟨by first | rfl | (simp [errW_none, errW_some] <;> rfl) | (simp [*, errW_none, errW_some] <;> rfl), hb0_ HB⟩
           ·rw [if_neg c43] at H
            have c43b0 : (!(((rd_T46 t401 x13_2).f0) == ((rd_T45 t405 x13_2).f0)) || (!(((rd_T46 t401 x13_2).f1) == ((rd_T45 t405 x13_2).f1)) || (!((((rd_T46 t401 x13_2).f2).toList) == (((rd_T45 t405 x13_2).f2).toList))))) = false := by simpa using c43
            clear c43
            have H' := Aside0.mk H
            clear H
            obtain ⟨Ao46, co46, eo46⟩ := Kd.R_slice HO_9.out
            subst eo46
            have p414 : 0 ≤ (x13_2 : Int) := dt_
            have q414 : x13_2 < (t401.length : Int) := dt_
            obtain ⟨ad414, e414, hx414_0, hx414_1, hx414_2⟩ := at_T46 (Kd.R_reads' HO_9.out).2.2 x13_2 p414 q414
            cases e414
            replace p414 := eq_true p414
            replace q414 := eq_true q414
            obtain ⟨Ao47, co47, eo47⟩ := Kd.R_slice HO_11.out
            subst eo47
            have p415 : 0 ≤ (x13_2 : Int) := dt_
            have q415 : x13_2 < (t405.length : Int) := dt_
            obtain ⟨ad415, e415, hx415_0, hx415_1, hx415_2⟩ := at_T45 (Kd.R_reads' HO_11.out).2.2 x13_2 p415 q415
            cases e415
            replace p415 := eq_true p415
            replace q415 := eq_true q415
            have p416 : 0 ≤ (x13_2 : Int) := dt_
            have q416 : x13_2 < (t405.length : Int) := dt_
            obtain ⟨ad416, e416, hx416_0, hx416_1, hx416_2⟩ := at_T45 (Kd.R_reads' HO_11.out).2.2 x13_2 p416 q416
            obtain rfl : ad415 = ad416 := (by injection e416)
            replace p416 := eq_true p416
            replace q416 := eq_true q416
            have p417 : 0 ≤ (x13_2 : Int) := dt_
            have q417 : x13_2 < (t405.length : Int) := dt_
            obtain ⟨ad417, e417, hx417_0, hx417_1, hx417_2⟩ := at_T45 (Kd.R_reads' HO_11.out).2.2 x13_2 p417 q417
            obtain rfl : ad415 = ad417 := (by injection e417)
            replace p417 := eq_true p417
            replace q417 := eq_true q417
            go_wp2
            repeat (go_quiet (fail); try go_wp2)
            go_roundg k2
            case measure => have := HJ13.out; have := HK2.out; omega
            case rel => exact ⟨(wrap64 (x13_2 + 1)), (by first | rfl | (simp; done) | (simp [*]; done)), H', ⟨by have := HJ13.out; have := HK2.out; omega⟩, ⟨ro_ HO_9⟩, ⟨ro_ HO_11⟩, ⟨hb0_ HB⟩⟩
          ·rw [if_neg c42] at H
           exact absurd H (by simp)
         ·rw [if_neg c41] at H
          exact absurd H (by simp)
        ·rw [if_neg c40] at H
         have c40b0 : decide (x13_2 < (t401.length : Int)) = false := decide_eq_false c40
         clear c40
         by_cases c48 : t395 = 0
         ·rw [if_pos c48] at H
          have c48b0 : (t395 == 0) = true := beq_iff_eq.mpr c48
          have c48b1 : (t395 != 0) = false := bne_eq_false_iff_eq.mpr c48
          clear c48
          replace H := Option.bind_eq_some_iff.mp H
          obtain ⟨⟨t418, t419⟩, A490, H⟩ := H
          replace H : (if t419 = 0 then (some (t418.toList == t394.toList)) else (some false)) = some r := H
          have A49 := Aside0.mk A490
          clear A490
          by_cases c50 : t419 = 0
          ·rw [if_pos c50] at H
           have c50b0 : (t419 == 0) = true := beq_iff_eq.mpr c50
           have c50b1 : (t419 != 0) = false := bne_eq_false_iff_eq.mpr c50
           clear c50
           obtain rfl := Option.some.inj H
           obtain ⟨Ao51, co51, eo51⟩ := Kd.R_slice HO_9.out
           subst eo51
           go_wp2_with (first | (go_at_call 22; (with_reducible refine (diff_Do.calls k2 a0 _ _ t401 t418 t419 _ ?side3 ?side1 ?side2 A49.out).mono ?_); (case side1 => repeat (first | exact (Kd.R_reads' HO_9.out).2.2 | (with_reducible refine Kd.C_alloc ?_ _) | (with_reducible refine Kd.C_drewN ?_ _) | (with_reducible refine Kd.C_drew ?_))); (case side2 => exact (Kd.R_reads' HO_9.out).2.1); (case side3 => exact XAmb_step hT (hb0_ HB)); rintro e w52 ⟨rfl, hb⟩; have n0_ := Aside0.mk (Kd.R_below (ro_ HO_9) hb); have n1_ := Aside0.mk (Kd.R_below (ro_ HO_11) hb); have n2_ := Aside0.mk (below_step (hb0_ HB) hb); clear HO_9; clear HO_11; clear HB; have HO_9 := n0_; have HO_11 := n1_; have HB := n2_; clear n0_ n1_ n2_; (try clear hb); (try clear hb2); (try clear hk); (try clear hi)))
           go_ret
           exact ⟨by first | rfl | (simp [errW_none, errW_some] <;> rfl) | (simp [*, errW_none, errW_some] <;> rfl), hb0_ HB⟩
          ·rw [if_neg c50] at H
           have c50b0 : (t419 == 0) = false := beq_eq_false_iff_ne.mpr c50
           have c50b1 : (t419 != 0) = true := bne_iff_ne.mpr c50
           obtain rfl := Option.some.inj H
           obtain ⟨Ao53, co53, eo53⟩ := Kd.R_slice HO_9.out
           subst eo53
           go_wp2_with (first | (go_at_call 22; (with_reducible refine (diff_Do.calls k2 a0 _ _ t401 t418 t419 _ ?side3 ?side1 ?side2 A49.out).mono ?_); (case side1 => repeat (first | exact (Kd.R_reads' HO_9.out).2.2 | (with_reducible refine Kd.C_alloc ?_ _) | (with_reducible refine Kd.C_drewN ?_ _) | (with_reducible refine Kd.C_drew ?_))); (case side2 => exact (Kd.R_reads' HO_9.out).2.1); (case side3 => exact XAmb_step hT (hb0_ HB)); rintro e w54 ⟨rfl, hb⟩; have n0_ := Aside0.mk (Kd.R_below (ro_ HO_9) hb); have n1_ := Aside0.mk (Kd.R_below (ro_ HO_11) hb); have n2_ := Aside0.mk (below_step (hb0_ HB) hb); clear HO_9; clear HO_11; clear HB; have HO_9 := n0_; have HO_11 := n1_; have HB := n2_; clear n0_ n1_ n2_; (try clear hb); (try clear hb2); (try clear hk); (try clear hi)))
           go_ret
           exact ⟨by first | rfl | (simp [errW_none, errW_some] <;> rfl) | (simp [*, errW_none, errW_some] <;> rfl), hb0_ HB⟩
         ·rw [if_neg c48] at H
          have c48b0 : (t395 == 0) = false := beq_eq_false_iff_ne.mpr c48
          have c48b1 : (t395 != 0) = true := bne_iff_ne.mpr c48
          obtain rfl := Option.some.inj H
          obtain ⟨Ao55, co55, eo55⟩ := Kd.R_slice HO_9.out
          subst eo55
          go_wp2
          repeat (go_quiet (fail); try go_wp2)
          go_ret
          exact ⟨by first | rfl | (simp [errW_none, errW_some] <;> rfl) | (simp [*, errW_none, errW_some] <;> rfl), hb0_ HB⟩
 ·replace c4 := Bool.eq_false_iff.mpr c4
  subst c4
  have H1 : (some false) = some r := by rw [if_neg (show ¬ (false = true) by decide)] at H; exact H
  clear H
  have H := H1
  clear H1
  obtain rfl := Option.some.inj H
  go_enter Tryd.func10, Tryd.ntmps10
  go_wp2_with (first | (go_at_call 19; (with_reducible refine (foolscaplaw32_alive.calls k  false _ ?side1 A3.out).mono ?_); (case side1 => exact XAmb_step hT (hb0_ HB)); rintro e w56 ⟨rfl, hb⟩; have n0_ := Aside0.mk (below_step (hb0_ HB) hb); clear HB; have HB := n0_; clear n0_; (try clear hb); (try clear hb2); (try clear hk); (try clear hi)))
  repeat (go_quiet (first | (go_at_call 19; (with_reducible refine (foolscaplaw32_alive.calls k  false _ ?side1 A3.out).mono ?_); (case side1 => exact XAmb_step hT (hb0_ HB)); rintro e w56 ⟨rfl, hb⟩; have n0_ := Aside0.mk (below_step (hb0_ HB) hb); clear HB; have HB := n0_; clear n0_; (try clear hb); (try clear hb2); (try clear hk); (try clear hi))); try go_wp2_with (first | (go_at_call 19; (with_reducible refine (foolscaplaw32_alive.calls k  false _ ?side1 A3.out).mono ?_); (case side1 => exact XAmb_step hT (hb0_ HB)); rintro e w56 ⟨rfl, hb⟩; have n0_ := Aside0.mk (below_step (hb0_ HB) hb); clear HB; have HB := n0_; clear n0_; (try clear hb); (try clear hb2); (try clear hk); (try clear hi))))
  go_ret
  exact ⟨by first | rfl | (simp [errW_none, errW_some] <;> rfl) | (simp [*, errW_none, errW_some] <;> rfl), hb0_ HB⟩

end Go.Proofs.YtabhfloclcmjnaaDoor.P
