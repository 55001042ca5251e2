/- Printed by a program of this session (wip/xprint) over the kit's print: functions of the seat and what they come to, with their proofs. Conditions: as typed. -/
import Derived.Test.YtmkmpjkgpnahnaaDoorPx0
import Derived.Test.YtmkmpjkgpnahnaaDoorPx8
namespace Go.Proofs.YtmkmpjkgpnahnaaDoor.P
open Go.RowKit Go.Proofs.YtmkmpjkgpnahnaaDoor.X Go.Proofs.YtmkmpjkgpnahnaaDoorW.PrintWords Go.Proofs.YtmkmpjkgpnahnaaDoorW.PrintLast Go.Proofs.YtmkmpjkgpnahnaaDoorW.PrintMore
attribute [local go_sem] max2_int min2_int max_two min_two max_three min_three max_four min_four   -- for this text's walks alone
set_option linter.unusedVariables false
set_option linter.unusedSimpArgs false

/-! ### foolscapref01_Join: function 28 -/
def foolscapref01_Join.l0 : Nat → List Int → List Int → Int → Option (ByteArray × Bool)
 | 0, _, _, _ => none
 | k + 1, x0, x4, x5 => if x5 < (x0.length : Int) then (if 0 ≤ x5 then ((foolscapref01_Is.f (rd x0 x5)).bind fun t176 => (if t176 = true then ((foolscapref01_Bytes.f (rd x0 x5)).bind fun t178 => (if x4.length + t178.length < 140737488355328 then (foolscapref01_Join.l0 k x0 (x4 ++ t178) (wrap64 (x5 + 1))) else (none))) else (some ((⟨#[]⟩ : ByteArray), false)))) else (none)) else (some (strOfNums x4, true))
def foolscapref01_Join.f (k : Nat) (l0 : List Int) : Option (ByteArray × Bool) := foolscapref01_Join.l0 k l0 ([] : List Int) 0
set_option maxHeartbeats 8000000 in
set_option maxRecDepth 100000 in
theorem foolscapref01_Join.calls (k : Nat) (A0 : Option Addr) (c0 : Nat) (l0 : List Int) (r1 : ByteArray) (r2 : Bool) (w : World) (hr0 : Kd.C (Kd.int .i32) w A0 l0.length l0) (hc0 : l0.length ≤ c0) (h : foolscapref01_Join.f k l0 = some (r1, r2)) :
  Calls Tryd.prog 28 #[.slice A0 l0.length c0] w fun e w' => e = .returned (.tuple #[.string r1, .bool r2]) ∧ Below w.heap.size w w' := by
 have HR0 := Aside0.mk hr0
 have HC0 := Aside0.mk hc0
 clear hr0 hc0
 have HB := Aside0.mk (Below.refl w.heap.size w)
 have H : (foolscapref01_Join.l0 k l0 ([] : List Int) 0) = some (r1, r2) := h
 clear h
 have H' := Aside0.mk H
 clear H
 go_enter Tryd.func28, Tryd.ntmps28
 go_wp2
 go_loopg [4, 5] k (fun kq v4 v5 w' => ∃ (x4_1 : List Int) (x5_1 : Int), v5 = .int .i64 x5_1 ∧ Aside0 (foolscapref01_Join.l0 kq l0 x4_1 x5_1 = some (r1, r2)) ∧ Aside0 (kq ≤ k) ∧ Aside0 (Kd.R (Kd.int .u8) 5 w' w.heap.size (fun _ => True) v4 x4_1) ∧ Aside0 (Below w.heap.size w w'))
 case atStart => exact ⟨(([] : List Int)), (0), (by first | rfl | (simp; done) | (simp [*]; done)), H', ⟨Nat.le_refl _⟩, ⟨by first | exact Kd.R_nil _ _ _ _ _ | exact Kd.N_nil _ _ _ _ _ | exact Kd.V_nil _ _ _ _ _ | exact Kd.Q_nil _ _ _ _ _ | exact Kd.S_nil _ _ _ _ _⟩, ⟨hb0_ HB⟩⟩
 case round =>
  clear H'
  obtain ⟨x4_1, x5_1, rfl, HA, HK1, HO_4, HB⟩ := hrel
  cases gk with
  | zero => exact absurd HA.out (by simp [foolscapref01_Join.l0])
  | succ k1 =>
   have H := HA.out
   clear HA
   simp only [foolscapref01_Join.l0] at H
   by_cases c2 : x5_1 < (l0.length : Int)
   ·rw [if_pos c2] at H
    have c2b0 : decide (x5_1 < (l0.length : Int)) = true := decide_eq_true c2
    clear c2
    by_cases c3 : 0 ≤ x5_1
    ·rw [if_pos c3] at H
     have c3b0 : decide (0 ≤ x5_1) = true := decide_eq_true c3
     clear c3
     replace H := Option.bind_eq_some_iff.mp H
     obtain ⟨t176, A40, H⟩ := H
     replace H : (if t176 = true then ((foolscapref01_Bytes.f (rd l0 x5_1)).bind fun t178 => (if x4_1.length + t178.length < 140737488355328 then (foolscapref01_Join.l0 k1 l0 (x4_1 ++ t178) (wrap64 (x5_1 + 1))) else (none))) else (some ((⟨#[]⟩ : ByteArray), false))) = some (r1, r2) := H
     have A4 := Aside0.mk A40
     clear A40
     by_cases c5 : t176 = true
     ·subst c5
      have H1 : ((foolscapref01_Bytes.f (rd l0 x5_1)).bind fun t178 => (if x4_1.length + t178.length < 140737488355328 then (foolscapref01_Join.l0 k1 l0 (x4_1 ++ t178) (wrap64 (x5_1 + 1))) else (none))) = some (r1, r2) := by rw [if_pos rfl] at H; exact H
      clear H
      have H := H1
      clear H1
      replace H := Option.bind_eq_some_iff.mp H
      obtain ⟨t178, A60, H⟩ := H
      replace H : (if x4_1.length + t178.length < 140737488355328 then (foolscapref01_Join.l0 k1 l0 (x4_1 ++ t178) (wrap64 (x5_1 + 1))) else (none)) = some (r1, r2) := H
      have A6 := Aside0.mk A60
      clear A60
      by_cases c7 : x4_1.length + t178.length < 140737488355328
      ·rw [if_pos c7] at H
       have LMc7 := Aside0.mk c7
       clear c7
       obtain ⟨y181, hy181⟩ : ∃ y_ : List Int, y_ = (x4_1 ++ t178) := ⟨_, rfl⟩
       replace H : (foolscapref01_Join.l0 k1 l0 y181 (wrap64 (x5_1 + 1))) = some (r1, r2) := by first | (rw [hy181]; with_reducible exact H) | (have H2_ := (Option.bind_some _ _).symm.trans H; rw [hy181]; with_reducible exact H2_) | (have H2_ := (Option.bind_some _ _).symm.trans H; with_reducible exact H2_) | with_reducible exact H | (rw [hy181]; exact H) | exact H
       have Ny181 := Aside0.mk hy181
       clear hy181
       have H' := Aside0.mk H
       clear H
       have p175 : 0 ≤ (x5_1 : Int) := dt_
       have q175 : x5_1 < (l0.length : Int) := dt_
       obtain ⟨ad175, e175, hx175_0⟩ := Kd.at_int HR0.out x5_1 p175 q175
       cases e175
       replace hx175_0 := (HB.out.cell (World.block_lt_of_cell? w _ hx175_0)).trans hx175_0
       replace p175 := eq_true p175
       replace q175 := eq_true q175
       go_wp2_with (first | ((with_reducible refine gate_callee (f := 39) rfl ?_); refine goesL_ (some 16) rfl rfl Tryd.func39 (by kernel_rfl) rfl #[.int .i32 (rd l0 x5_1)] rfl (by (try simp only [List.map_toArray, List.map_cons, List.map_nil]); first | done | rfl | (simp only [List.length_drop, List.length_take]; rfl)) ?_; (with_reducible refine (foolscapref01_Is.calls (rd l0 x5_1) true _ A4.out).mono ?_); rintro e w' ⟨rfl, ⟨nd, rfl⟩⟩; refine ⟨_, rfl, ?_⟩; have p177 : 0 ≤ (x5_1 : Int) := dt_; have q177 : x5_1 < (l0.length : Int) := dt_; obtain ⟨ad177, e177, hx177_0⟩ := Kd.at_int HR0.out x5_1 p177 q177; obtain rfl : ad175 = ad177 := (by injection e177); replace hx177_0 := (HB.out.cell (World.block_lt_of_cell? w _ hx177_0)).trans hx177_0; replace p177 := eq_true p177; replace q177 := eq_true q177) | ((with_reducible refine gate_callee (f := 40) rfl ?_); refine goesL_ (some 23) rfl rfl Tryd.func40 (by kernel_rfl) rfl #[.int .i32 (rd l0 x5_1)] rfl (by (try simp only [List.map_toArray, List.map_cons, List.map_nil]); first | done | rfl | (simp only [List.length_drop, List.length_take]; rfl)) ?_; (with_reducible refine (foolscapref01_Bytes.calls (rd l0 x5_1) t178 _ A6.out).mono ?_); rintro e w8 ⟨v179, rfl, ho0, hb⟩; refine ⟨_, rfl, ?_⟩; have n0_ := Aside0.mk (Kd.R_elder' (ro_ HO_4) (Kd.R_base ho0) hb); have n1_ := Aside0.mk (Kd.R_lower (Kd.R_new' ho0 (Kd.R_lt (ro_ HO_4))) (below_size (hb0_ HB))); have n2_ := Aside0.mk (below_step (hb0_ HB) hb); clear HO_4; clear HB; have HO_4 := n0_; have HO180 := n1_; have HB := n2_; clear n0_ n1_ n2_; (try clear hb); (try clear hb2); (try clear hk); (try clear hi); (try clear ho0); obtain ⟨Ao10, co10, eo10⟩ := Kd.R_slice HO180.out; subst eo10) | ((with_reducible refine gate_builtin (b := .append) (xs := #[.tmp 18, .tmp 23]) rfl ?_); at_builtin; refine Kd.R_append_rows (Kd.int .u8) (w0 := w) w.heap.size rfl (.tmp 18) (.tmp 23) 77 5 (.int .u8 0) 1 rfl Tryd.underlying77 info5 rfl (by decide) (by omega) u4 x4_1 t178 _ _ _ (fun k_ => some k_ ≠ (.slice Ao10 t178.length co10 : Value).ownBlock) (fun _ => False) rfl rfl ?aO ?aR (fun _ _ h => h) (fun _ h => h.elim) ?aF ?aB ?aS ?aL ?_; (case aR => repeat (first | exact (Kd.R_reads' HO180.out).2.2 | (with_reducible refine Kd.C_alloc ?_ _) | (with_reducible refine Kd.C_drewN ?_ _) | (with_reducible refine Kd.C_drew ?_))); (case aB => exact (hb0_ HB)); (case aF => exact (fun k_ hk => Kd.fresh' (Kd.R_lt (ro_ HO180)) k_ hk)); (case aO => exact (by (with_reducible repeat (first | apply Kd.R_alloc | apply Kd.R_drewN | apply Kd.R_drew)); exact Kd.R_mono HO_4.out (fun _ hk => hk.2))); (case aS => exact (below_size (hb0_ HB))); (case aL => have := LMc7.out; omega); intro v182 w9 ho hb hg hat; rw [← Ny181.out] at ho; have n0_ := Aside0.mk (Kd.R_after (ok := (fun _ => True)) (ro_ HO180) hg hat); have n1_ := Aside0.mk (hb); have n2_ := Aside0.mk (ho); clear HO180; clear HB; clear HO_4; have HO180 := n0_; have HB := n1_; have HO183 := n2_; clear n0_ n1_ n2_; clear ho hb hg hat))
       go_roundg k1
       case measure => have := HK1.out; omega
       case rel => exact ⟨(y181), (wrap64 (x5_1 + 1)), (by first | rfl | (simp; done) | (simp [*]; done)), H', ⟨by have := HK1.out; omega⟩, ⟨by (with_reducible repeat (first | apply Kd.R_alloc | apply Kd.R_drewN | apply Kd.R_drew)); exact Kd.R_mono HO183.out (fun _ hk => trivial)⟩, ⟨hb0_ HB⟩⟩
      ·rw [if_neg c7] at H
       exact absurd H (by simp)
     ·replace c5 := Bool.eq_false_iff.mpr c5
      subst c5
      have H1 : (some ((⟨#[]⟩ : ByteArray), false)) = some (r1, r2) := by rw [if_neg (show ¬ (false = true) by decide)] at H; exact H
      clear H
      have H := H1
      clear H1
      simp only [Option.some.injEq, Prod.mk.injEq] at H
      obtain ⟨rfl, rfl⟩ := H
      have p175 : 0 ≤ (x5_1 : Int) := dt_
      have q175 : x5_1 < (l0.length : Int) := dt_
      obtain ⟨ad175, e175, hx175_0⟩ := Kd.at_int HR0.out x5_1 p175 q175
      cases e175
      replace hx175_0 := (HB.out.cell (World.block_lt_of_cell? w _ hx175_0)).trans hx175_0
      replace p175 := eq_true p175
      replace q175 := eq_true q175
      go_wp2_with (first | ((with_reducible refine gate_callee (f := 39) rfl ?_); refine goesL_ (some 16) rfl rfl Tryd.func39 (by kernel_rfl) rfl #[.int .i32 (rd l0 x5_1)] rfl (by (try simp only [List.map_toArray, List.map_cons, List.map_nil]); first | done | rfl | (simp only [List.length_drop, List.length_take]; rfl)) ?_; (with_reducible refine (foolscapref01_Is.calls (rd l0 x5_1) false _ A4.out).mono ?_); rintro e w' ⟨rfl, ⟨nd, rfl⟩⟩; refine ⟨_, rfl, ?_⟩))
      go_ret2
      exact ⟨by first | rfl | (simp [errW_none, errW_some] <;> rfl) | (simp [*, errW_none, errW_some] <;> rfl), hb0_ HB⟩
    ·rw [if_neg c3] at H
     exact absurd H (by simp)
   ·rw [if_neg c2] at H
    have c2b0 : decide (x5_1 < (l0.length : Int)) = false := decide_eq_false c2
    clear c2
    simp only [Option.some.injEq, Prod.mk.injEq] at H
    obtain ⟨rfl, rfl⟩ := H
    have hcv11 := own_string (P := Tryd.prog) Tryd.underlying77 Tryd.underlying5 Tryd.underlying9 (Kd.own_of_R HO_4.out)
    go_wp2
    go_ret2
    exact ⟨by first | rfl | (simp [errW_none, errW_some] <;> rfl) | (simp [*, errW_none, errW_some] <;> rfl), hb0_ HB⟩

/-! ### foolscapref29_Run: function 16 -/
def foolscapref29_Run.l0 : Nat → List (S23) → List Int → Int → Option (ByteArray × Int)
 | 0, _, _, _ => none
 | k + 1, x1, x6, x8 => if x8 < (x1.length : Int) then (if 0 ≤ x8 then ((foolscapref29_May.f k ((rd_T23 x1 x8).f0) ((rd_T23 x1 x8).f1) ((rd_T23 x1 x8).f2) ((rd_T23 x1 x8).f3) ((rd_T23 x1 x8).f4) (x6.length : Int)).bind fun t192 => (if t192 = true then ((foolscapref01_Split.f k ((rd_T23 x1 x8).f4)).bind fun bt193 => ((some (([] : List Int) : List Int)).bind fun y197 => (if 0 ≤ ((rd_T23 x1 x8).f2) then (if ((rd_T23 x1 x8).f2) ≤ (x6.length : Int) then ((some (x6.take (((rd_T23 x1 x8).f2) : Int).toNat : List Int)).bind fun y200 => (if y197.length + y200.length < 35184372088832 then ((some (y197 ++ y200 : List Int)).bind fun y204 => (if y204.length + bt193.1.length < 35184372088832 then ((some (y204 ++ bt193.1 : List Int)).bind fun y207 => (if 0 ≤ (wrap64 (((rd_T23 x1 x8).f2) + ((rd_T23 x1 x8).f3))) then (if (wrap64 (((rd_T23 x1 x8).f2) + ((rd_T23 x1 x8).f3))) ≤ (x6.length : Int) then ((some (x6.drop ((wrap64 (((rd_T23 x1 x8).f2) + ((rd_T23 x1 x8).f3))) : Int).toNat : List Int)).bind fun y210 => (if y207.length + y210.length < 35184372088832 then (foolscapref29_Run.l0 k x1 (y207 ++ y210) (wrap64 (x8 + 1))) else (none))) else (none)) else (none))) else (none))) else (none))) else (none)) else (none)))) else (some ((⟨#[]⟩ : ByteArray), 1)))) else (none)) else ((foolscapref01_Join.f k x6).bind fun bt188 => (some (bt188.1, 0)))
def foolscapref29_Run.f (k : Nat) (a0 : ByteArray) (l1 : List (S23)) : Option (ByteArray × Int) := (foolscapref01_Split.f k a0).bind fun bt184 => (if bt184.2 = true then (foolscapref29_Run.l0 k l1 bt184.1 0) else (some ((⟨#[]⟩ : ByteArray), 2)))
set_option maxHeartbeats 8000000 in
set_option maxRecDepth 100000 in
theorem foolscapref29_Run.calls (k : Nat) (a0 : ByteArray) (A1 : Option Addr) (c1 : Nat) (l1 : List (S23)) (r1 : ByteArray) (r2 : Int) (w : World) (hr1 : Kd.C k23 w A1 l1.length l1) (hc1 : l1.length ≤ c1) (h : foolscapref29_Run.f k a0 l1 = some (r1, r2)) :
  Calls Tryd.prog 16 #[.string a0, .slice A1 l1.length c1] w fun e w' => e = .returned (.tuple #[.string r1, .int .i64 r2]) ∧ Below w.heap.size w w' := by
 have hu23 := Tryd.underlying23
 have HR1 := Aside0.mk hr1
 have HC1 := Aside0.mk hc1
 clear hr1 hc1
 have HB := Aside0.mk (Below.refl w.heap.size w)
 have H : ((foolscapref01_Split.f k a0).bind fun bt184 => (if bt184.2 = true then (foolscapref29_Run.l0 k l1 bt184.1 0) else (some ((⟨#[]⟩ : ByteArray), 2)))) = some (r1, r2) := h
 clear h
 replace H := Option.bind_eq_some_iff.mp H
 obtain ⟨⟨t184, t185⟩, A30, H⟩ := H
 replace H : (if t185 = true then (foolscapref29_Run.l0 k l1 t184 0) else (some ((⟨#[]⟩ : ByteArray), 2))) = some (r1, r2) := H
 have A3 := Aside0.mk A30
 clear A30
 by_cases c4 : t185 = true
 ·subst c4
  have H1 : (foolscapref29_Run.l0 k l1 t184 0) = some (r1, r2) := by rw [if_pos rfl] at H; exact H
  clear H
  have H := H1
  clear H1
  have H' := Aside0.mk H
  clear H
  go_enter Tryd.func16, Tryd.ntmps16
  go_wp2_with (first | ((with_reducible refine gate_callee (f := 27) rfl ?_); refine goesL_ (some 17) rfl rfl Tryd.func27 (by kernel_rfl) rfl #[.string a0] rfl (by (try simp only [List.map_toArray, List.map_cons, List.map_nil]); first | done | rfl | (simp only [List.length_drop, List.length_take]; rfl)) ?_; (with_reducible refine (foolscapref01_Split.calls k a0 t184 true _ A3.out).mono ?_); rintro e w5 ⟨v186, rfl, ho0, hb⟩; refine ⟨_, rfl, ?_⟩; have n0_ := Aside0.mk (Kd.R_lower ho0 (below_size (hb0_ HB))); have n1_ := Aside0.mk (below_step (hb0_ HB) hb); clear HB; have HO187 := n0_; have HB := n1_; clear n0_ n1_; (try clear hb); (try clear hb2); (try clear hk); (try clear hi); (try clear ho0)))
  go_loopg [6, 8] k (fun kq v6 v8 w' => ∃ (x6_1 : List Int) (x8_1 : Int), v8 = .int .i64 x8_1 ∧ Aside0 (foolscapref29_Run.l0 kq l1 x6_1 x8_1 = some (r1, r2)) ∧ Aside0 (kq ≤ k) ∧ Aside0 (Kd.R (Kd.int .i32) 21 w' w.heap.size (fun _ => True) v6 x6_1) ∧ Aside0 (Below w.heap.size w w'))
  case atStart => exact ⟨(t184), (0), (by first | rfl | (simp; done) | (simp [*]; done)), H', ⟨Nat.le_refl _⟩, ⟨ro_ HO187⟩, ⟨hb0_ HB⟩⟩
  case round =>
   clear H'
   try clear c1
   try clear c2
   try clear p2
   try clear c4
   obtain ⟨x6_1, x8_1, rfl, HA, HK1, HO_6, HB⟩ := hrel
   cases gk with
   | zero => exact absurd HA.out (by simp [foolscapref29_Run.l0])
   | succ k1 =>
    have H := HA.out
    clear HA
    simp only [foolscapref29_Run.l0] at H
    by_cases c6 : x8_1 < (l1.length : Int)
    ·rw [if_pos c6] at H
     have c6b0 : decide (x8_1 < (l1.length : Int)) = true := decide_eq_true c6
     clear c6
     by_cases c7 : 0 ≤ x8_1
     ·rw [if_pos c7] at H
      have c7b0 : decide (0 ≤ x8_1) = true := decide_eq_true c7
      clear c7
      replace H := Option.bind_eq_some_iff.mp H
      obtain ⟨t192, A80, H⟩ := H
      replace H : (if t192 = true then ((foolscapref01_Split.f k1 ((rd_T23 l1 x8_1).f4)).bind fun bt193 => ((some (([] : List Int) : List Int)).bind fun y197 => (if 0 ≤ ((rd_T23 l1 x8_1).f2) then (if ((rd_T23 l1 x8_1).f2) ≤ (x6_1.length : Int) then ((some (x6_1.take (((rd_T23 l1 x8_1).f2) : Int).toNat : List Int)).bind fun y200 => (if y197.length + y200.length < 35184372088832 then ((some (y197 ++ y200 : List Int)).bind fun y204 => (if y204.length + bt193.1.length < 35184372088832 then ((some (y204 ++ bt193.1 : List Int)).bind fun y207 => (if 0 ≤ (wrap64 (((rd_T23 l1 x8_1).f2) + ((rd_T23 l1 x8_1).f3))) then (if (wrap64 (((rd_T23 l1 x8_1).f2) + ((rd_T23 l1 x8_1).f3))) ≤ (x6_1.length : Int) then ((some (x6_1.drop ((wrap64 (((rd_T23 l1 x8_1).f2) + ((rd_T23 l1 x8_1).f3))) : Int).toNat : List Int)).bind fun y210 => (if y207.length + y210.length < 35184372088832 then (foolscapref29_Run.l0 k1 l1 (y207 ++ y210) (wrap64 (x8_1 + 1))) else (none))) else (none)) else (none))) else (none))) else (none))) else (none)) else (none)))) else (some ((⟨#[]⟩ : ByteArray), 1))) = some (r1, r2) := H
      have A8 := Aside0.mk A80
      clear A80
      by_cases c9 : t192 = true
      ·subst c9
       have H1 : ((foolscapref01_Split.f k1 ((rd_T23 l1 x8_1).f4)).bind fun bt193 => ((some (([] : List Int) : List Int)).bind fun y197 => (if 0 ≤ ((rd_T23 l1 x8_1).f2) then (if ((rd_T23 l1 x8_1).f2) ≤ (x6_1.length : Int) then ((some (x6_1.take (((rd_T23 l1 x8_1).f2) : Int).toNat : List Int)).bind fun y200 => (if y197.length + y200.length < 35184372088832 then ((some (y197 ++ y200 : List Int)).bind fun y204 => (if y204.length + bt193.1.length < 35184372088832 then ((some (y204 ++ bt193.1 : List Int)).bind fun y207 => (if 0 ≤ (wrap64 (((rd_T23 l1 x8_1).f2) + ((rd_T23 l1 x8_1).f3))) then (if (wrap64 (((rd_T23 l1 x8_1).f2) + ((rd_T23 l1 x8_1).f3))) ≤ (x6_1.length : Int) then ((some (x6_1.drop ((wrap64 (((rd_T23 l1 x8_1).f2) + ((rd_T23 l1 x8_1).f3))) : Int).toNat : List Int)).bind fun y210 => (if y207.length + y210.length < 35184372088832 then (foolscapref29_Run.l0 k1 l1 (y207 ++ y210) (wrap64 (x8_1 + 1))) else (none))) else (none)) else (none))) else (none))) else (none))) else (none)) else (none)))) = some (r1, r2) := by rw [if_pos rfl] at H; exact H
       clear H
       have H := H1
       clear H1
       replace H := Option.bind_eq_some_iff.mp H
       obtain ⟨⟨t193, t194⟩, A100, H⟩ := H
       replace H : ((some (([] : List Int) : List Int)).bind fun y197 => (if 0 ≤ ((rd_T23 l1 x8_1).f2) then (if ((rd_T23 l1 x8_1).f2) ≤ (x6_1.length : Int) then ((some (x6_1.take (((rd_T23 l1 x8_1).f2) : Int).toNat : List Int)).bind fun y200 => (if y197.length + y200.length < 35184372088832 then ((some (y197 ++ y200 : List Int)).bind fun y204 => (if y204.length + t193.length < 35184372088832 then ((some (y204 ++ t193 : List Int)).bind fun y207 => (if 0 ≤ (wrap64 (((rd_T23 l1 x8_1).f2) + ((rd_T23 l1 x8_1).f3))) then (if (wrap64 (((rd_T23 l1 x8_1).f2) + ((rd_T23 l1 x8_1).f3))) ≤ (x6_1.length : Int) then ((some (x6_1.drop ((wrap64 (((rd_T23 l1 x8_1).f2) + ((rd_T23 l1 x8_1).f3))) : Int).toNat : List Int)).bind fun y210 => (if y207.length + y210.length < 35184372088832 then (foolscapref29_Run.l0 k1 l1 (y207 ++ y210) (wrap64 (x8_1 + 1))) else (none))) else (none)) else (none))) else (none))) else (none))) else (none)) else (none))) = some (r1, r2) := H
       have A10 := Aside0.mk A100
       clear A100
       obtain ⟨y197, hy197⟩ : ∃ y_ : List Int, y_ = (([] : List Int)) := ⟨_, rfl⟩
       replace H : (if 0 ≤ ((rd_T23 l1 x8_1).f2) then (if ((rd_T23 l1 x8_1).f2) ≤ (x6_1.length : Int) then ((some (x6_1.take (((rd_T23 l1 x8_1).f2) : Int).toNat : List Int)).bind fun y200 => (if y197.length + y200.length < 35184372088832 then ((some (y197 ++ y200 : List Int)).bind fun y204 => (if y204.length + t193.length < 35184372088832 then ((some (y204 ++ t193 : List Int)).bind fun y207 => (if 0 ≤ (wrap64 (((rd_T23 l1 x8_1).f2) + ((rd_T23 l1 x8_1).f3))) then (if (wrap64 (((rd_T23 l1 x8_1).f2) + ((rd_T23 l1 x8_1).f3))) ≤ (x6_1.length : Int) then ((some (x6_1.drop ((wrap64 (((rd_T23 l1 x8_1).f2) + ((rd_T23 l1 x8_1).f3))) : Int).toNat : List Int)).bind fun y210 => (if y207.length + y210.length < 35184372088832 then (foolscapref29_Run.l0 k1 l1 (y207 ++ y210) (wrap64 (x8_1 + 1))) else (none))) else (none)) else (none))) else (none))) else (none))) else (none)) else (none)) = some (r1, r2) := by first | (rw [hy197]; with_reducible exact H) | (have H2_ := (Option.bind_some _ _).symm.trans H; rw [hy197]; with_reducible exact H2_) | (have H2_ := (Option.bind_some _ _).symm.trans H; with_reducible exact H2_) | with_reducible exact H | (rw [hy197]; exact H) | exact H
       have Ny197 := Aside0.mk hy197
       clear hy197
       by_cases c11 : 0 ≤ ((rd_T23 l1 x8_1).f2)
       ·rw [if_pos c11] at H
        have c11b0 := eq_true c11
        have c11b1 : decide (0 ≤ ((rd_T23 l1 x8_1).f2)) = true := decide_eq_true c11
        clear c11
        by_cases c12 : ((rd_T23 l1 x8_1).f2) ≤ (x6_1.length : Int)
        ·rw [if_pos c12] at H
         have c12b0 := eq_true c12
         have c12b1 : decide (((rd_T23 l1 x8_1).f2) ≤ (x6_1.length : Int)) = true := decide_eq_true c12
         clear c12
         obtain ⟨y200, hy200⟩ : ∃ y_ : List Int, y_ = (x6_1.take (((rd_T23 l1 x8_1).f2) : Int).toNat) := ⟨_, rfl⟩
         replace H : (if y197.length + y200.length < 35184372088832 then ((some (y197 ++ y200 : List Int)).bind fun y204 => (if y204.length + t193.length < 35184372088832 then ((some (y204 ++ t193 : List Int)).bind fun y207 => (if 0 ≤ (wrap64 (((rd_T23 l1 x8_1).f2) + ((rd_T23 l1 x8_1).f3))) then (if (wrap64 (((rd_T23 l1 x8_1).f2) + ((rd_T23 l1 x8_1).f3))) ≤ (x6_1.length : Int) then ((some (x6_1.drop ((wrap64 (((rd_T23 l1 x8_1).f2) + ((rd_T23 l1 x8_1).f3))) : Int).toNat : List Int)).bind fun y210 => (if y207.length + y210.length < 35184372088832 then (foolscapref29_Run.l0 k1 l1 (y207 ++ y210) (wrap64 (x8_1 + 1))) else (none))) else (none)) else (none))) else (none))) else (none)) = some (r1, r2) := by first | (rw [hy200]; with_reducible exact H) | (have H2_ := (Option.bind_some _ _).symm.trans H; rw [hy200]; with_reducible exact H2_) | (have H2_ := (Option.bind_some _ _).symm.trans H; with_reducible exact H2_) | with_reducible exact H | (rw [hy200]; exact H) | exact H
         have Ny200 := Aside0.mk hy200
         clear hy200
         by_cases c13 : y197.length + y200.length < 35184372088832
         ·rw [if_pos c13] at H
          have LMc13 := Aside0.mk c13
          clear c13
          obtain ⟨y204, hy204⟩ : ∃ y_ : List Int, y_ = (y197 ++ y200) := ⟨_, rfl⟩
          replace H : (if y204.length + t193.length < 35184372088832 then ((some (y204 ++ t193 : List Int)).bind fun y207 => (if 0 ≤ (wrap64 (((rd_T23 l1 x8_1).f2) + ((rd_T23 l1 x8_1).f3))) then (if (wrap64 (((rd_T23 l1 x8_1).f2) + ((rd_T23 l1 x8_1).f3))) ≤ (x6_1.length : Int) then ((some (x6_1.drop ((wrap64 (((rd_T23 l1 x8_1).f2) + ((rd_T23 l1 x8_1).f3))) : Int).toNat : List Int)).bind fun y210 => (if y207.length + y210.length < 35184372088832 then (foolscapref29_Run.l0 k1 l1 (y207 ++ y210) (wrap64 (x8_1 + 1))) else (none))) else (none)) else (none))) else (none)) = some (r1, r2) := by first | (rw [hy204]; with_reducible exact H) | (have H2_ := (Option.bind_some _ _).symm.trans H; rw [hy204]; with_reducible exact H2_) | (have H2_ := (Option.bind_some _ _).symm.trans H; with_reducible exact H2_) | with_reducible exact H | (rw [hy204]; exact H) | exact H
          have Ny204 := Aside0.mk hy204
          clear hy204
          by_cases c14 : y204.length + t193.length < 35184372088832
          ·rw [if_pos c14] at H
           have LMc14 := Aside0.mk c14
           clear c14
           obtain ⟨y207, hy207⟩ : ∃ y_ : List Int, y_ = (y204 ++ t193) := ⟨_, rfl⟩
           replace H : (if 0 ≤ (wrap64 (((rd_T23 l1 x8_1).f2) + ((rd_T23 l1 x8_1).f3))) then (if (wrap64 (((rd_T23 l1 x8_1).f2) + ((rd_T23 l1 x8_1).f3))) ≤ (x6_1.length : Int) then ((some (x6_1.drop ((wrap64 (((rd_T23 l1 x8_1).f2) + ((rd_T23 l1 x8_1).f3))) : Int).toNat : List Int)).bind fun y210 => (if y207.length + y210.length < 35184372088832 then (foolscapref29_Run.l0 k1 l1 (y207 ++ y210) (wrap64 (x8_1 + 1))) else (none))) else (none)) else (none)) = some (r1, r2) := by first | (rw [hy207]; with_reducible exact H) | (have H2_ := (Option.bind_some _ _).symm.trans H; rw [hy207]; with_reducible exact H2_) | (have H2_ := (Option.bind_some _ _).symm.trans H; with_reducible exact H2_) | with_reducible exact H | (rw [hy207]; exact H) | exact H
           have Ny207 := Aside0.mk hy207
           clear hy207
           obtain ⟨ji15, hji15⟩ : ∃ j_ : Int, (wrap64 (((rd_T23 l1 x8_1).f2) + ((rd_T23 l1 x8_1).f3))) = j_ := ⟨_, rfl⟩
           replace H : (if 0 ≤ (ji15) then (if (ji15) ≤ (x6_1.length : Int) then ((some (x6_1.drop ((ji15) : Int).toNat : List Int)).bind fun y210 => (if y207.length + y210.length < 35184372088832 then (foolscapref29_Run.l0 k1 l1 (y207 ++ y210) (wrap64 (x8_1 + 1))) else (none))) else (none)) else (none)) = some (r1, r2) := by first | (rw [hji15] at H; exact H) | (simp only [hji15] at H ⊢; exact H)
           (try rw [hji15] at A8)
           (try rw [hji15] at A10)
           have hji15w : (IntKind.i64.wrap (((rd_T23 l1 x8_1).f2) + ((rd_T23 l1 x8_1).f3))) = ji15 := (i64_w _).trans hji15
           by_cases c16 : 0 ≤ (ji15)
           ·rw [if_pos c16] at H
            have c16b0 := eq_true c16
            have c16b1 : decide (0 ≤ (ji15)) = true := decide_eq_true c16
            clear c16
            by_cases c17 : (ji15) ≤ (x6_1.length : Int)
            ·rw [if_pos c17] at H
             have c17b0 := eq_true c17
             have c17b1 : decide ((ji15) ≤ (x6_1.length : Int)) = true := decide_eq_true c17
             clear c17
             obtain ⟨y210, hy210⟩ : ∃ y_ : List Int, y_ = (x6_1.drop ((ji15) : Int).toNat) := ⟨_, rfl⟩
             replace H : (if y207.length + y210.length < 35184372088832 then (foolscapref29_Run.l0 k1 l1 (y207 ++ y210) (wrap64 (x8_1 + 1))) else (none)) = some (r1, r2) := by first | (rw [hy210]; with_reducible exact H) | (have H2_ := (Option.bind_some _ _).symm.trans H; rw [hy210]; with_reducible exact H2_) | (have H2_ := (Option.bind_some _ _).symm.trans H; with_reducible exact H2_) | with_reducible exact H | (rw [hy210]; exact H) | exact H
             have Ny210 := Aside0.mk hy210
             clear hy210
             by_cases c18 : y207.length + y210.length < 35184372088832
             ·rw [if_pos c18] at H
              have LMc18 := Aside0.mk c18
              clear c18
              obtain ⟨y214, hy214⟩ : ∃ y_ : List Int, y_ = (y207 ++ y210) := ⟨_, rfl⟩
              replace H : (foolscapref29_Run.l0 k1 l1 y214 (wrap64 (x8_1 + 1))) = some (r1, r2) := by first | (rw [hy214]; with_reducible exact H) | (have H2_ := (Option.bind_some _ _).symm.trans H; rw [hy214]; with_reducible exact H2_) | (have H2_ := (Option.bind_some _ _).symm.trans H; with_reducible exact H2_) | with_reducible exact H | (rw [hy214]; exact H) | exact H
              have Ny214 := Aside0.mk hy214
              clear hy214
              have H' := Aside0.mk H
              clear H
              have p190 : 0 ≤ (x8_1 : Int) := dt_
              have q190 : x8_1 < (l1.length : Int) := dt_
              obtain ⟨ad190, e190, hx190_0, hx190_1, hx190_2, hx190_3, hx190_4⟩ := at_T23 HR1.out x8_1 p190 q190
              cases e190
              replace hx190_0 := (HB.out.cell (World.block_lt_of_cell? w _ hx190_0)).trans hx190_0
              replace hx190_1 := (HB.out.cell (World.block_lt_of_cell? w _ hx190_1)).trans hx190_1
              replace hx190_2 := (HB.out.cell (World.block_lt_of_cell? w _ hx190_2)).trans hx190_2
              replace hx190_3 := (HB.out.cell (World.block_lt_of_cell? w _ hx190_3)).trans hx190_3
              replace hx190_4 := (HB.out.cell (World.block_lt_of_cell? w _ hx190_4)).trans hx190_4
              replace p190 := eq_true p190
              replace q190 := eq_true q190
              go_wp2_with (first | ((with_reducible refine gate_dst (N := 9) rfl ?_); refine box_event ?hg (N := 9) ?hd (cs := #[.int .i64 0, .int .i64 0, .int .i64 0, .int .i64 0, .string (⟨#[]⟩ : ByteArray)]) (t := 23) ?hr ?_; (case hd => rfl); (case hg => rfl); (case hr => first | (go_simp; done) | (go_simp; rfl)); intro gb191 hg w19 hbox hb; have n0_ := Aside0.mk (Kd.R_below (ro_ HO_6) hb); have n1_ := Aside0.mk (below_step (hb0_ HB) hb); have n2_ := Aside0.mk (hbox); have n3_ := Aside0.mk ((by rw [hg]; exact (below_size (hb0_ HB)) : w.heap.size ≤ gb191)); have n4_ := Aside0.mk ((by rw [hg]; exact (below_size (hb0_ HB)) : w.heap.size ≤ gb191)); clear HO_6; clear HB; have HO_6 := n0_; have HB := n1_; have BK191 := n2_; have GW191 := n3_; have GE191 := n4_; clear n0_ n1_ n2_ n3_ n4_; clear hb hbox hg; have hcz20_0 : w19.cell? ⟨gb191, 0, none⟩ = some (.int .i64 0) := (blk_cell BK191.out 0).trans rfl; have hcz20_1 : w19.cell? ⟨gb191, 1, none⟩ = some (.int .i64 0) := (blk_cell BK191.out 1).trans rfl; have hcz20_2 : w19.cell? ⟨gb191, 2, none⟩ = some (.int .i64 0) := (blk_cell BK191.out 2).trans rfl; have hcz20_3 : w19.cell? ⟨gb191, 3, none⟩ = some (.int .i64 0) := (blk_cell BK191.out 3).trans rfl; have hcz20_4 : w19.cell? ⟨gb191, 4, none⟩ = some (.string (⟨#[]⟩ : ByteArray)) := (blk_cell BK191.out 4).trans rfl; have hfz20_0 := blk_frozen BK191.out 0; have hfz20_1 := blk_frozen BK191.out 1; have hfz20_2 := blk_frozen BK191.out 2; have hfz20_3 := blk_frozen BK191.out 3; have hfz20_4 := blk_frozen BK191.out 4; obtain ⟨Ao21, co21, eo21⟩ := Kd.R_slice HO_6.out; subst eo21) | ((with_reducible refine gate_callee (f := 22) rfl ?_); refine goesL_ (some 35) rfl rfl Tryd.func22 (by kernel_rfl) rfl #[.agg #[.int .i64 ((rd_T23 l1 x8_1).f0), .int .i64 ((rd_T23 l1 x8_1).f1), .int .i64 ((rd_T23 l1 x8_1).f2), .int .i64 ((rd_T23 l1 x8_1).f3), .string ((rd_T23 l1 x8_1).f4)], .int .i64 (x6_1.length : Int)] rfl (by (try simp only [List.map_toArray, List.map_cons, List.map_nil]); first | done | rfl | (simp only [List.length_drop, List.length_take]; rfl)) ?_; (with_reducible refine (foolscapref29_May.calls k1 ((rd_T23 l1 x8_1).f0) ((rd_T23 l1 x8_1).f1) ((rd_T23 l1 x8_1).f2) ((rd_T23 l1 x8_1).f3) ((rd_T23 l1 x8_1).f4) (x6_1.length : Int) true _ A8.out).mono ?_); rintro e w22 ⟨rfl, hb⟩; refine ⟨_, rfl, ?_⟩; have n0_ := Aside0.mk (Kd.R_below (by (with_reducible repeat (first | apply Kd.R_alloc | apply Kd.R_drewN | apply Kd.R_drew)); exact (Kd.R_mono (Kd.R_far (p := ⟨gb191, 4, none⟩) (Kd.R_far (p := ⟨gb191, 3, none⟩) (Kd.R_far (p := ⟨gb191, 2, none⟩) (Kd.R_far (p := ⟨gb191, 1, none⟩) (Kd.R_far (p := ⟨gb191, 0, none⟩) (Kd.R_types HO_6.out BK191.out (by decide)) (fun _ hk => hk.2) (.int .i64 ((rd_T23 l1 x8_1).f0))) (fun _ hk => hk.2) (.int .i64 ((rd_T23 l1 x8_1).f1))) (fun _ hk => hk.2) (.int .i64 ((rd_T23 l1 x8_1).f2))) (fun _ hk => hk.2) (.int .i64 ((rd_T23 l1 x8_1).f3))) (fun _ hk => hk.2) (.string ((rd_T23 l1 x8_1).f4))) (fun _ h_ => h_.1))) hb); have n1_ := Aside0.mk (blk_below (g := gb191) (o := .cells #[.int .i64 ((rd_T23 l1 x8_1).f0), .int .i64 ((rd_T23 l1 x8_1).f1), .int .i64 ((rd_T23 l1 x8_1).f2), .int .i64 ((rd_T23 l1 x8_1).f3), .string ((rd_T23 l1 x8_1).f4)] 23 (0, 0)) (by (with_reducible repeat (first | refine blk_drewN ?_ _ | refine blk_drew ?_ | refine blk_alloc ?_ _)); refine blk_put (cs := #[.int .i64 ((rd_T23 l1 x8_1).f0), .int .i64 ((rd_T23 l1 x8_1).f1), .int .i64 ((rd_T23 l1 x8_1).f2), .int .i64 ((rd_T23 l1 x8_1).f3), .string (⟨#[]⟩ : ByteArray)]) ?_ 4 _ rfl; (with_reducible repeat (first | refine blk_drewN ?_ _ | refine blk_drew ?_ | refine blk_alloc ?_ _)); refine blk_put (cs := #[.int .i64 ((rd_T23 l1 x8_1).f0), .int .i64 ((rd_T23 l1 x8_1).f1), .int .i64 ((rd_T23 l1 x8_1).f2), .int .i64 0, .string (⟨#[]⟩ : ByteArray)]) ?_ 3 _ rfl; (with_reducible repeat (first | refine blk_drewN ?_ _ | refine blk_drew ?_ | refine blk_alloc ?_ _)); refine blk_put (cs := #[.int .i64 ((rd_T23 l1 x8_1).f0), .int .i64 ((rd_T23 l1 x8_1).f1), .int .i64 0, .int .i64 0, .string (⟨#[]⟩ : ByteArray)]) ?_ 2 _ rfl; (with_reducible repeat (first | refine blk_drewN ?_ _ | refine blk_drew ?_ | refine blk_alloc ?_ _)); refine blk_put (cs := #[.int .i64 ((rd_T23 l1 x8_1).f0), .int .i64 0, .int .i64 0, .int .i64 0, .string (⟨#[]⟩ : ByteArray)]) ?_ 1 _ rfl; (with_reducible repeat (first | refine blk_drewN ?_ _ | refine blk_drew ?_ | refine blk_alloc ?_ _)); refine blk_put (cs := #[.int .i64 0, .int .i64 0, .int .i64 0, .int .i64 0, .string (⟨#[]⟩ : ByteArray)]) ?_ 0 _ rfl; (with_reducible repeat (first | refine blk_drewN ?_ _ | refine blk_drew ?_ | refine blk_alloc ?_ _)); exact BK191.out) hb); have n2_ := Aside0.mk (below_step (hb1_ HB GE191) hb); clear HO_6; clear BK191; clear HB; have HO_6 := n0_; have BK191 := n1_; have HB := n2_; clear n0_ n1_ n2_; (try clear hb); (try clear hb2); (try clear hk); (try clear hi); have hcz23_0 : w22.cell? ⟨gb191, 0, none⟩ = some (.int .i64 ((rd_T23 l1 x8_1).f0)) := (blk_cell BK191.out 0).trans rfl; have hcz23_1 : w22.cell? ⟨gb191, 1, none⟩ = some (.int .i64 ((rd_T23 l1 x8_1).f1)) := (blk_cell BK191.out 1).trans rfl; have hcz23_2 : w22.cell? ⟨gb191, 2, none⟩ = some (.int .i64 ((rd_T23 l1 x8_1).f2)) := (blk_cell BK191.out 2).trans rfl; have hcz23_3 : w22.cell? ⟨gb191, 3, none⟩ = some (.int .i64 ((rd_T23 l1 x8_1).f3)) := (blk_cell BK191.out 3).trans rfl; have hcz23_4 : w22.cell? ⟨gb191, 4, none⟩ = some (.string ((rd_T23 l1 x8_1).f4)) := (blk_cell BK191.out 4).trans rfl; have hfz23_0 := blk_frozen BK191.out 0; have hfz23_1 := blk_frozen BK191.out 1; have hfz23_2 := blk_frozen BK191.out 2; have hfz23_3 := blk_frozen BK191.out 3; have hfz23_4 := blk_frozen BK191.out 4) | ((with_reducible refine gate_callee (f := 27) rfl ?_); refine goesL_ (some 40) rfl rfl Tryd.func27 (by kernel_rfl) rfl #[.string ((rd_T23 l1 x8_1).f4)] rfl (by (try simp only [List.map_toArray, List.map_cons, List.map_nil]); first | done | rfl | (simp only [List.length_drop, List.length_take]; rfl)) ?_; (with_reducible refine (foolscapref01_Split.calls k1 ((rd_T23 l1 x8_1).f4) t193 t194 _ A10.out).mono ?_); rintro e w24 ⟨v195, rfl, ho0, hb⟩; refine ⟨_, rfl, ?_⟩; have n0_ := Aside0.mk (Kd.R_elder' (ro_ HO_6) (Kd.R_base ho0) hb); have n1_ := Aside0.mk (Kd.R_lower (Kd.R_new' ho0 (Kd.R_lt (ro_ HO_6))) (below_size (hb1_ HB GE191))); have n2_ := Aside0.mk (blk_below (g := gb191) (o := .cells #[.int .i64 ((rd_T23 l1 x8_1).f0), .int .i64 ((rd_T23 l1 x8_1).f1), .int .i64 ((rd_T23 l1 x8_1).f2), .int .i64 ((rd_T23 l1 x8_1).f3), .string ((rd_T23 l1 x8_1).f4)] 23 (0, 0)) (bk_ BK191) hb); have n3_ := Aside0.mk (below_step (hb1_ HB GE191) hb); clear HO_6; clear BK191; clear HB; have HO_6 := n0_; have HO196 := n1_; have BK191 := n2_; have HB := n3_; clear n0_ n1_ n2_ n3_; (try clear hb); (try clear hb2); (try clear hk); (try clear hi); (try clear ho0)) | ((with_reducible refine gate_dst (N := 43) rfl ?_); refine Kd.R_lit (Kd.int .i32) _ 21 ?hg (N := 43) ?hd (xs := ([] : List Int)) (inner := []) (ok := fun _ => True) (okp := fun _ => True) ?hr ?hp (fun _ hk => hk) trivial (Below.refl _ _) (Nat.le_refl _) (by simp) ?_; (case hd => rfl); (case hg => rfl); (case hr => first | (go_simp; done) | (go_simp; rfl)); (case hp => exact (Reps.none _ _)); intro v198 w25 ho26 hb hg_ hnew_; clear hg_ hnew_; (first | rw [← Ny197.out] at ho26 | (simp only [Int.reduceToNat] at ho26; rw [← Ny197.out] at ho26)); have n0_ := Aside0.mk (Kd.R_elder' (ro_ HO_6) (Kd.R_base ho26) hb); have n1_ := Aside0.mk (Kd.R_elder' (ro_ HO196) (Kd.R_base ho26) hb); have n2_ := Aside0.mk (Kd.R_lower (Kd.R_new' (Kd.R_new' ho26 (Kd.R_lt (ro_ HO_6))) (Kd.R_lt (ro_ HO196))) (below_size (hb1_ HB GE191))); have n3_ := Aside0.mk (blk_below (g := gb191) (o := .cells #[.int .i64 ((rd_T23 l1 x8_1).f0), .int .i64 ((rd_T23 l1 x8_1).f1), .int .i64 ((rd_T23 l1 x8_1).f2), .int .i64 ((rd_T23 l1 x8_1).f3), .string ((rd_T23 l1 x8_1).f4)] 23 (0, 0)) (bk_ BK191) hb); have n4_ := Aside0.mk (below_step (hb1_ HB GE191) hb); clear HO_6; clear HO196; clear BK191; clear HB; have HO_6 := n0_; have HO196 := n1_; have HO199 := n2_; have BK191 := n3_; have HB := n4_; clear n0_ n1_ n2_ n3_ n4_; clear hb ho26; have hcz27_0 : w25.cell? ⟨gb191, 0, none⟩ = some (.int .i64 ((rd_T23 l1 x8_1).f0)) := (blk_cell BK191.out 0).trans rfl; have hcz27_1 : w25.cell? ⟨gb191, 1, none⟩ = some (.int .i64 ((rd_T23 l1 x8_1).f1)) := (blk_cell BK191.out 1).trans rfl; have hcz27_2 : w25.cell? ⟨gb191, 2, none⟩ = some (.int .i64 ((rd_T23 l1 x8_1).f2)) := (blk_cell BK191.out 2).trans rfl; have hcz27_3 : w25.cell? ⟨gb191, 3, none⟩ = some (.int .i64 ((rd_T23 l1 x8_1).f3)) := (blk_cell BK191.out 3).trans rfl; have hcz27_4 : w25.cell? ⟨gb191, 4, none⟩ = some (.string ((rd_T23 l1 x8_1).f4)) := (blk_cell BK191.out 4).trans rfl; have hfz27_0 := blk_frozen BK191.out 0; have hfz27_1 := blk_frozen BK191.out 1; have hfz27_2 := blk_frozen BK191.out 2; have hfz27_3 := blk_frozen BK191.out 3; have hfz27_4 := blk_frozen BK191.out 4; have q28 : (((rd_T23 l1 x8_1).f2) : Int) ≤ ((x6_1.length : Int) : Int) := dt_; obtain ⟨i028, hi028, _, hsz28, _⟩ := info_parts info21; have hroom28 : x6_1.length ≤ co21 := (Kd.R_reads' HO_6.out).2.1; have hC28 : Kd.C (Kd.int .i32) _ Ao21 x6_1.length x6_1 := (Kd.R_reads' HO_6.out).2.2; have hcut28 := cut_to (P := Tryd.prog) 61 21 .i64 Tryd.underlying61 hi028 Ao21 x6_1.length co21 ((rd_T23 l1 x8_1).f2) (dt_) q28 hroom28; have hr28 := Kd.C_take (m := (((rd_T23 l1 x8_1).f2) : Int).toNat) hC28 (by omega); have hy28 : y200.length = (((rd_T23 l1 x8_1).f2) : Int).toNat := (by rw [Ny200.out, List.length_take]; omega); rw [← Ny200.out] at hr28; rw [← hy28] at hcut28; have HR203 := Aside0.mk hr28; have HC203 := Aside0.mk (show y200.length ≤ co21 from by omega); clear hr28 hC28 hroom28 hi028 hsz28; have KY28 := Aside0.mk hy28; clear hy28; have KL28 := Aside0.mk (show (((rd_T23 l1 x8_1).f2) : Int).toNat ≤ x6_1.length from by omega); replace q28 := eq_true q28) | ((with_reducible refine gate_builtin (b := .append) (xs := #[.tmp 43, .tmp 47]) rfl ?_); at_builtin; refine Kd.R_append_rows (Kd.int .i32) (w0 := w) w.heap.size rfl (.tmp 43) (.tmp 47) 61 21 (.int .i32 0) 4 rfl Tryd.underlying61 info21 rfl (by decide) (by omega) v198 y197 y200 _ _ _ (fun k_ => some k_ ≠ (.slice Ao21 x6_1.length co21 : Value).ownBlock ∧ some k_ ≠ (v195 : Value).ownBlock) (fun _ => False) rfl rfl ?aO ?aR (fun _ _ h => h) (fun _ h => h.elim) ?aF ?aB ?aS ?aL ?_; (case aR => repeat (first | exact (by repeat (first | (with_reducible exact HR203.out) | (with_reducible refine Kd.C_alloc ?_ _) | (with_reducible refine Kd.C_drewN ?_ _) | (with_reducible refine Kd.C_drew ?_) | exact HR203.out)) | (with_reducible refine Kd.C_alloc ?_ _) | (with_reducible refine Kd.C_drewN ?_ _) | (with_reducible refine Kd.C_drew ?_))); (case aB => exact (hb1_ HB GE191)); (case aF => exact (fun k_ hk => ⟨Kd.fresh' (Kd.R_lt (ro_ HO_6)) k_ hk, Kd.fresh' (Kd.R_lt (ro_ HO196)) k_ hk⟩)); (case aO => exact (by (with_reducible repeat (first | apply Kd.R_alloc | apply Kd.R_drewN | apply Kd.R_drew)); exact Kd.R_mono HO199.out (fun _ hk => ⟨hk.1.2, hk.2⟩))); (case aS => exact (below_size (hb1_ HB GE191))); (case aL => have := LMc13.out; omega); intro v205 w29 ho hb hg hat; rw [← Ny204.out] at ho; have n0_ := Aside0.mk (Kd.R_after (ok := (fun k_ => some k_ ≠ (v195 : Value).ownBlock)) (by (with_reducible repeat (first | apply Kd.R_alloc | apply Kd.R_drewN | apply Kd.R_drew)); exact Kd.R_mono HO_6.out (fun _ hk => ⟨hk.1.2, hk.2⟩)) hg hat); have n1_ := Aside0.mk (blk_grown (g := gb191) (o := .cells #[.int .i64 ((rd_T23 l1 x8_1).f0), .int .i64 ((rd_T23 l1 x8_1).f1), .int .i64 ((rd_T23 l1 x8_1).f2), .int .i64 ((rd_T23 l1 x8_1).f3), .string ((rd_T23 l1 x8_1).f4)] 23 (0, 0)) (bk_ BK191) hg (Kd.R_ne HO199.out BK191.out (by decide))); have n2_ := Aside0.mk (Kd.R_after (ok := (fun k_ => some k_ ≠ (.slice Ao21 x6_1.length co21 : Value).ownBlock)) (by (with_reducible repeat (first | apply Kd.R_alloc | apply Kd.R_drewN | apply Kd.R_drew)); exact Kd.R_mono HO196.out (fun _ hk => ⟨hk.1.2, hk.2⟩)) hg hat); have n3_ := Aside0.mk (hb); have n4_ := Aside0.mk ((show Kd.C (Kd.int .i32) w29 Ao21 y200.length y200 from by rw [Ny200.out]; exact Kd.C_take (m := (((rd_T23 l1 x8_1).f2) : Int).toNat) ((Kd.R_reads' (Kd.R_after (ok := (fun k_ => some k_ ≠ (v195 : Value).ownBlock)) (by (with_reducible repeat (first | apply Kd.R_alloc | apply Kd.R_drewN | apply Kd.R_drew)); exact Kd.R_mono HO_6.out (fun _ hk => ⟨hk.1.2, hk.2⟩)) hg hat)).2.2) KL28.out)); have n5_ := Aside0.mk (ho); clear HO_6; clear BK191; clear HO196; clear HB; clear HR203; clear HO199; have HO_6 := n0_; have BK191 := n1_; have HO196 := n2_; have HB := n3_; have HR203 := n4_; have HO206 := n5_; clear n0_ n1_ n2_ n3_ n4_ n5_; clear ho hb hg hat; obtain ⟨Ao31, co31, eo31⟩ := Kd.R_slice HO196.out; subst eo31) | ((with_reducible refine gate_builtin (b := .append) (xs := #[.tmp 49, .tmp 50]) rfl ?_); at_builtin; refine Kd.R_append_rows (Kd.int .i32) (w0 := w) w.heap.size rfl (.tmp 49) (.tmp 50) 61 21 (.int .i32 0) 4 rfl Tryd.underlying61 info21 rfl (by decide) (by omega) v205 y204 t193 _ _ _ (fun k_ => some k_ ≠ (.slice Ao21 x6_1.length co21 : Value).ownBlock ∧ some k_ ≠ (.slice Ao31 t193.length co31 : Value).ownBlock) (fun _ => False) rfl rfl ?aO ?aR (fun _ _ h => h) (fun _ h => h.elim) ?aF ?aB ?aS ?aL ?_; (case aR => repeat (first | exact (Kd.R_reads' HO196.out).2.2 | (with_reducible refine Kd.C_alloc ?_ _) | (with_reducible refine Kd.C_drewN ?_ _) | (with_reducible refine Kd.C_drew ?_))); (case aB => exact (hb1_ HB GE191)); (case aF => exact (fun k_ hk => ⟨Kd.fresh' (Kd.R_lt (ro_ HO_6)) k_ hk, Kd.fresh' (Kd.R_lt (ro_ HO196)) k_ hk⟩)); (case aO => exact (ro_ HO206)); (case aS => exact (below_size (hb1_ HB GE191))); (case aL => have := LMc14.out; omega); intro v208 w30 ho hb hg hat; rw [← Ny207.out] at ho; have n0_ := Aside0.mk (Kd.R_after (ok := (fun k_ => some k_ ≠ (.slice Ao31 t193.length co31 : Value).ownBlock)) (ro_ HO_6) hg hat); have n1_ := Aside0.mk (blk_grown (g := gb191) (o := .cells #[.int .i64 ((rd_T23 l1 x8_1).f0), .int .i64 ((rd_T23 l1 x8_1).f1), .int .i64 ((rd_T23 l1 x8_1).f2), .int .i64 ((rd_T23 l1 x8_1).f3), .string ((rd_T23 l1 x8_1).f4)] 23 (0, 0)) (bk_ BK191) hg (Kd.R_ne HO206.out BK191.out (by decide))); have n2_ := Aside0.mk (Kd.R_after (ok := (fun k_ => some k_ ≠ (.slice Ao21 x6_1.length co21 : Value).ownBlock)) (ro_ HO196) hg hat); have n3_ := Aside0.mk (hb); have n4_ := Aside0.mk ((show Kd.C (Kd.int .i32) w30 Ao21 y200.length y200 from by rw [Ny200.out]; exact Kd.C_take (m := (((rd_T23 l1 x8_1).f2) : Int).toNat) ((Kd.R_reads' (Kd.R_after (ok := (fun k_ => some k_ ≠ (.slice Ao31 t193.length co31 : Value).ownBlock)) (ro_ HO_6) hg hat)).2.2) KL28.out)); have n5_ := Aside0.mk (ho); clear HO_6; clear BK191; clear HO196; clear HB; clear HR203; clear HO206; have HO_6 := n0_; have BK191 := n1_; have HO196 := n2_; have HB := n3_; have HR203 := n4_; have HO209 := n5_; clear n0_ n1_ n2_ n3_ n4_ n5_; clear ho hb hg hat; have hcz32_0 : w30.cell? ⟨gb191, 0, none⟩ = some (.int .i64 ((rd_T23 l1 x8_1).f0)) := (blk_cell BK191.out 0).trans rfl; have hcz32_1 : w30.cell? ⟨gb191, 1, none⟩ = some (.int .i64 ((rd_T23 l1 x8_1).f1)) := (blk_cell BK191.out 1).trans rfl; have hcz32_2 : w30.cell? ⟨gb191, 2, none⟩ = some (.int .i64 ((rd_T23 l1 x8_1).f2)) := (blk_cell BK191.out 2).trans rfl; have hcz32_3 : w30.cell? ⟨gb191, 3, none⟩ = some (.int .i64 ((rd_T23 l1 x8_1).f3)) := (blk_cell BK191.out 3).trans rfl; have hcz32_4 : w30.cell? ⟨gb191, 4, none⟩ = some (.string ((rd_T23 l1 x8_1).f4)) := (blk_cell BK191.out 4).trans rfl; have hfz32_0 := blk_frozen BK191.out 0; have hfz32_1 := blk_frozen BK191.out 1; have hfz32_2 := blk_frozen BK191.out 2; have hfz32_3 := blk_frozen BK191.out 3; have hfz32_4 := blk_frozen BK191.out 4; have q33 : ((ji15) : Int) ≤ ((x6_1.length : Int) : Int) := dt_; obtain ⟨i033, hi033, _, hsz33, _⟩ := info_parts info21; have hroom33 : x6_1.length ≤ co21 := (Kd.R_reads' HO_6.out).2.1; have hC33 : Kd.C (Kd.int .i32) _ Ao21 x6_1.length x6_1 := (Kd.R_reads' HO_6.out).2.2; have q033 : (0 : Int) ≤ ((ji15) : Int) := dt_; have hcut33 := cut_from (P := Tryd.prog) 61 21 .i64 Tryd.underlying61 hi033 1 hsz33 Ao21 x6_1.length co21 (ji15) q033 q33; have hr33 := Kd.C_drop (m := ((ji15) : Int).toNat) (c := co21) hC33 (by omega) hroom33; obtain ⟨A33, hA33⟩ : ∃ A1, A1 = (if co21 = ((ji15) : Int).toNat then Ao21 else (Ao21 : Option Addr).map (·.add (((ji15) : Int).toNat * 1))) := ⟨_, rfl⟩; obtain ⟨c33, hc33⟩ : ∃ c1, c1 = co21 - ((ji15) : Int).toNat := ⟨_, rfl⟩; have hy33 : y210.length = x6_1.length - ((ji15) : Int).toNat := (by rw [Ny210.out, List.length_drop] <;> omega); rw [show (x6_1).drop ((ji15) : Int).toNat = y210 from Ny210.out.symm] at hr33; replace hr33 : Kd.C (Kd.int .i32) _ A33 y210.length y210 := (by rw [hA33]; exact hr33); rw [← hy33, ← hA33, ← hc33] at hcut33; have HR213 := Aside0.mk hr33; have HC213 := Aside0.mk (show y210.length ≤ c33 from by rw [hy33, hc33]; exact Nat.sub_le_sub_right hroom33 _); clear hr33 hC33 hroom33 hi033 hsz33 hc33; have KY33 := Aside0.mk hy33; have KA33 := Aside0.mk hA33; clear hy33 hA33; have KL33 := Aside0.mk (show ((ji15) : Int).toNat ≤ x6_1.length from by omega); replace q33 := eq_true q33) | ((with_reducible refine gate_builtin (b := .append) (xs := #[.tmp 52, .tmp 59]) rfl ?_); at_builtin; refine Kd.R_append_rows (Kd.int .i32) (w0 := w) w.heap.size rfl (.tmp 52) (.tmp 59) 61 21 (.int .i32 0) 4 rfl Tryd.underlying61 info21 rfl (by decide) (by omega) v208 y207 y210 _ _ _ (fun k_ => some k_ ≠ (.slice Ao21 x6_1.length co21 : Value).ownBlock ∧ some k_ ≠ (.slice Ao31 t193.length co31 : Value).ownBlock) (fun _ => False) rfl rfl ?aO ?aR (fun _ _ h => h) (fun _ h => h.elim) ?aF ?aB ?aS ?aL ?_; (case aR => repeat (first | exact (by repeat (first | (with_reducible exact HR213.out) | (with_reducible refine Kd.C_alloc ?_ _) | (with_reducible refine Kd.C_drewN ?_ _) | (with_reducible refine Kd.C_drew ?_) | exact HR213.out)) | (with_reducible refine Kd.C_alloc ?_ _) | (with_reducible refine Kd.C_drewN ?_ _) | (with_reducible refine Kd.C_drew ?_))); (case aB => exact (hb1_ HB GE191)); (case aF => exact (fun k_ hk => ⟨Kd.fresh' (Kd.R_lt (ro_ HO_6)) k_ hk, Kd.fresh' (Kd.R_lt (ro_ HO196)) k_ hk⟩)); (case aO => exact (ro_ HO209)); (case aS => exact (below_size (hb1_ HB GE191))); (case aL => have := LMc18.out; omega); intro v215 w34 ho hb hg hat; rw [← Ny214.out] at ho; have n0_ := Aside0.mk (Kd.R_after (ok := (fun k_ => some k_ ≠ (.slice Ao31 t193.length co31 : Value).ownBlock)) (ro_ HO_6) hg hat); have n1_ := Aside0.mk (blk_grown (g := gb191) (o := .cells #[.int .i64 ((rd_T23 l1 x8_1).f0), .int .i64 ((rd_T23 l1 x8_1).f1), .int .i64 ((rd_T23 l1 x8_1).f2), .int .i64 ((rd_T23 l1 x8_1).f3), .string ((rd_T23 l1 x8_1).f4)] 23 (0, 0)) (bk_ BK191) hg (Kd.R_ne HO209.out BK191.out (by decide))); have n2_ := Aside0.mk (Kd.R_after (ok := (fun k_ => some k_ ≠ (.slice Ao21 x6_1.length co21 : Value).ownBlock)) (ro_ HO196) hg hat); have n3_ := Aside0.mk (hb); have n4_ := Aside0.mk ((show Kd.C (Kd.int .i32) w34 Ao21 y200.length y200 from by rw [Ny200.out]; exact Kd.C_take (m := (((rd_T23 l1 x8_1).f2) : Int).toNat) ((Kd.R_reads' (Kd.R_after (ok := (fun k_ => some k_ ≠ (.slice Ao31 t193.length co31 : Value).ownBlock)) (ro_ HO_6) hg hat)).2.2) KL28.out)); have n5_ := Aside0.mk ((show Kd.C (Kd.int .i32) w34 A33 y210.length y210 from by rw [Ny210.out, KA33.out]; exact Kd.C_drop (m := ((ji15) : Int).toNat) (c := co21) ((Kd.R_reads' (Kd.R_after (ok := (fun k_ => some k_ ≠ (.slice Ao31 t193.length co31 : Value).ownBlock)) (ro_ HO_6) hg hat)).2.2) KL33.out ((Kd.R_reads' (Kd.R_after (ok := (fun k_ => some k_ ≠ (.slice Ao31 t193.length co31 : Value).ownBlock)) (ro_ HO_6) hg hat)).2.1))); have n6_ := Aside0.mk (ho); clear HO_6; clear BK191; clear HO196; clear HB; clear HR203; clear HR213; clear HO209; have HO_6 := n0_; have BK191 := n1_; have HO196 := n2_; have HB := n3_; have HR203 := n4_; have HR213 := n5_; have HO216 := n6_; clear n0_ n1_ n2_ n3_ n4_ n5_ n6_; clear ho hb hg hat))
              go_roundg k1
              case measure => have := HK1.out; omega
              case rel => exact ⟨(y214), (wrap64 (x8_1 + 1)), (by first | rfl | (simp; done) | (simp [*]; done)), H', ⟨by have := HK1.out; omega⟩, ⟨by (with_reducible repeat (first | apply Kd.R_alloc | apply Kd.R_drewN | apply Kd.R_drew)); exact Kd.R_mono HO216.out (fun _ hk => trivial)⟩, ⟨by repeat (first | (with_reducible first | exact HB.out | apply below_alloc | apply pw_below_drewN | apply below_drew1 | refine below_set ?_ GE191.out) | exact HB.out)⟩⟩
             ·rw [if_neg c18] at H
              exact absurd H (by simp)
            ·rw [if_neg c17] at H
             exact absurd H (by simp)
           ·rw [if_neg c16] at H
            exact absurd H (by simp)
          ·rw [if_neg c14] at H
           exact absurd H (by simp)
         ·rw [if_neg c13] at H
          exact absurd H (by simp)
        ·rw [if_neg c12] at H
         exact absurd H (by simp)
       ·rw [if_neg c11] at H
        exact absurd H (by simp)
      ·replace c9 := Bool.eq_false_iff.mpr c9
       subst c9
       have H1 : (some ((⟨#[]⟩ : ByteArray), 1)) = some (r1, r2) := by rw [if_neg (show ¬ (false = true) by decide)] at H; exact H
       clear H
       have H := H1
       clear H1
       simp only [Option.some.injEq, Prod.mk.injEq] at H
       obtain ⟨rfl, rfl⟩ := H
       have p190 : 0 ≤ (x8_1 : Int) := dt_
       have q190 : x8_1 < (l1.length : Int) := dt_
       obtain ⟨ad190, e190, hx190_0, hx190_1, hx190_2, hx190_3, hx190_4⟩ := at_T23 HR1.out x8_1 p190 q190
       cases e190
       replace hx190_0 := (HB.out.cell (World.block_lt_of_cell? w _ hx190_0)).trans hx190_0
       replace hx190_1 := (HB.out.cell (World.block_lt_of_cell? w _ hx190_1)).trans hx190_1
       replace hx190_2 := (HB.out.cell (World.block_lt_of_cell? w _ hx190_2)).trans hx190_2
       replace hx190_3 := (HB.out.cell (World.block_lt_of_cell? w _ hx190_3)).trans hx190_3
       replace hx190_4 := (HB.out.cell (World.block_lt_of_cell? w _ hx190_4)).trans hx190_4
       replace p190 := eq_true p190
       replace q190 := eq_true q190
       go_wp2_with (first | ((with_reducible refine gate_dst (N := 9) rfl ?_); refine box_event ?hg (N := 9) ?hd (cs := #[.int .i64 0, .int .i64 0, .int .i64 0, .int .i64 0, .string (⟨#[]⟩ : ByteArray)]) (t := 23) ?hr ?_; (case hd => rfl); (case hg => rfl); (case hr => first | (go_simp; done) | (go_simp; rfl)); intro gb191 hg w35 hbox hb; have n0_ := Aside0.mk (Kd.R_below (ro_ HO_6) hb); have n1_ := Aside0.mk (below_step (hb0_ HB) hb); have n2_ := Aside0.mk (hbox); have n3_ := Aside0.mk ((by rw [hg]; exact (below_size (hb0_ HB)) : w.heap.size ≤ gb191)); have n4_ := Aside0.mk ((by rw [hg]; exact (below_size (hb0_ HB)) : w.heap.size ≤ gb191)); clear HO_6; clear HB; have HO_6 := n0_; have HB := n1_; have BK191 := n2_; have GW191 := n3_; have GE191 := n4_; clear n0_ n1_ n2_ n3_ n4_; clear hb hbox hg; have hcz36_0 : w35.cell? ⟨gb191, 0, none⟩ = some (.int .i64 0) := (blk_cell BK191.out 0).trans rfl; have hcz36_1 : w35.cell? ⟨gb191, 1, none⟩ = some (.int .i64 0) := (blk_cell BK191.out 1).trans rfl; have hcz36_2 : w35.cell? ⟨gb191, 2, none⟩ = some (.int .i64 0) := (blk_cell BK191.out 2).trans rfl; have hcz36_3 : w35.cell? ⟨gb191, 3, none⟩ = some (.int .i64 0) := (blk_cell BK191.out 3).trans rfl; have hcz36_4 : w35.cell? ⟨gb191, 4, none⟩ = some (.string (⟨#[]⟩ : ByteArray)) := (blk_cell BK191.out 4).trans rfl; have hfz36_0 := blk_frozen BK191.out 0; have hfz36_1 := blk_frozen BK191.out 1; have hfz36_2 := blk_frozen BK191.out 2; have hfz36_3 := blk_frozen BK191.out 3; have hfz36_4 := blk_frozen BK191.out 4; obtain ⟨Ao37, co37, eo37⟩ := Kd.R_slice HO_6.out; subst eo37) | ((with_reducible refine gate_callee (f := 22) rfl ?_); refine goesL_ (some 35) rfl rfl Tryd.func22 (by kernel_rfl) rfl #[.agg #[.int .i64 ((rd_T23 l1 x8_1).f0), .int .i64 ((rd_T23 l1 x8_1).f1), .int .i64 ((rd_T23 l1 x8_1).f2), .int .i64 ((rd_T23 l1 x8_1).f3), .string ((rd_T23 l1 x8_1).f4)], .int .i64 (x6_1.length : Int)] rfl (by (try simp only [List.map_toArray, List.map_cons, List.map_nil]); first | done | rfl | (simp only [List.length_drop, List.length_take]; rfl)) ?_; (with_reducible refine (foolscapref29_May.calls k1 ((rd_T23 l1 x8_1).f0) ((rd_T23 l1 x8_1).f1) ((rd_T23 l1 x8_1).f2) ((rd_T23 l1 x8_1).f3) ((rd_T23 l1 x8_1).f4) (x6_1.length : Int) false _ A8.out).mono ?_); rintro e w38 ⟨rfl, hb⟩; refine ⟨_, rfl, ?_⟩; have n0_ := Aside0.mk (Kd.R_below (by (with_reducible repeat (first | apply Kd.R_alloc | apply Kd.R_drewN | apply Kd.R_drew)); exact (Kd.R_mono (Kd.R_far (p := ⟨gb191, 4, none⟩) (Kd.R_far (p := ⟨gb191, 3, none⟩) (Kd.R_far (p := ⟨gb191, 2, none⟩) (Kd.R_far (p := ⟨gb191, 1, none⟩) (Kd.R_far (p := ⟨gb191, 0, none⟩) (Kd.R_types HO_6.out BK191.out (by decide)) (fun _ hk => hk.2) (.int .i64 ((rd_T23 l1 x8_1).f0))) (fun _ hk => hk.2) (.int .i64 ((rd_T23 l1 x8_1).f1))) (fun _ hk => hk.2) (.int .i64 ((rd_T23 l1 x8_1).f2))) (fun _ hk => hk.2) (.int .i64 ((rd_T23 l1 x8_1).f3))) (fun _ hk => hk.2) (.string ((rd_T23 l1 x8_1).f4))) (fun _ h_ => h_.1))) hb); have n1_ := Aside0.mk (blk_below (g := gb191) (o := .cells #[.int .i64 ((rd_T23 l1 x8_1).f0), .int .i64 ((rd_T23 l1 x8_1).f1), .int .i64 ((rd_T23 l1 x8_1).f2), .int .i64 ((rd_T23 l1 x8_1).f3), .string ((rd_T23 l1 x8_1).f4)] 23 (0, 0)) (by (with_reducible repeat (first | refine blk_drewN ?_ _ | refine blk_drew ?_ | refine blk_alloc ?_ _)); refine blk_put (cs := #[.int .i64 ((rd_T23 l1 x8_1).f0), .int .i64 ((rd_T23 l1 x8_1).f1), .int .i64 ((rd_T23 l1 x8_1).f2), .int .i64 ((rd_T23 l1 x8_1).f3), .string (⟨#[]⟩ : ByteArray)]) ?_ 4 _ rfl; (with_reducible repeat (first | refine blk_drewN ?_ _ | refine blk_drew ?_ | refine blk_alloc ?_ _)); refine blk_put (cs := #[.int .i64 ((rd_T23 l1 x8_1).f0), .int .i64 ((rd_T23 l1 x8_1).f1), .int .i64 ((rd_T23 l1 x8_1).f2), .int .i64 0, .string (⟨#[]⟩ : ByteArray)]) ?_ 3 _ rfl; (with_reducible repeat (first | refine blk_drewN ?_ _ | refine blk_drew ?_ | refine blk_alloc ?_ _)); refine blk_put (cs := #[.int .i64 ((rd_T23 l1 x8_1).f0), .int .i64 ((rd_T23 l1 x8_1).f1), .int .i64 0, .int .i64 0, .string (⟨#[]⟩ : ByteArray)]) ?_ 2 _ rfl; (with_reducible repeat (first | refine blk_drewN ?_ _ | refine blk_drew ?_ | refine blk_alloc ?_ _)); refine blk_put (cs := #[.int .i64 ((rd_T23 l1 x8_1).f0), .int .i64 0, .int .i64 0, .int .i64 0, .string (⟨#[]⟩ : ByteArray)]) ?_ 1 _ rfl; (with_reducible repeat (first | refine blk_drewN ?_ _ | refine blk_drew ?_ | refine blk_alloc ?_ _)); refine blk_put (cs := #[.int .i64 0, .int .i64 0, .int .i64 0, .int .i64 0, .string (⟨#[]⟩ : ByteArray)]) ?_ 0 _ rfl; (with_reducible repeat (first | refine blk_drewN ?_ _ | refine blk_drew ?_ | refine blk_alloc ?_ _)); exact BK191.out) hb); have n2_ := Aside0.mk (below_step (hb1_ HB GE191) hb); clear HO_6; clear BK191; clear HB; have HO_6 := n0_; have BK191 := n1_; have HB := n2_; clear n0_ n1_ n2_; (try clear hb); (try clear hb2); (try clear hk); (try clear hi)))
       go_ret2
       exact ⟨by first | rfl | (simp [errW_none, errW_some] <;> rfl) | (simp [*, errW_none, errW_some] <;> rfl), by repeat (first | (with_reducible first | exact HB.out | apply below_alloc | apply pw_below_drewN | apply below_drew1 | refine below_set ?_ GE191.out) | exact HB.out)⟩
     ·rw [if_neg c7] at H
      exact absurd H (by simp)
    ·rw [if_neg c6] at H
     have c6b0 : decide (x8_1 < (l1.length : Int)) = false := decide_eq_false c6
     clear c6
     replace H := Option.bind_eq_some_iff.mp H
     obtain ⟨⟨t188, t189⟩, A390, H⟩ := H
     replace H : (some (t188, 0)) = some (r1, r2) := H
     have A39 := Aside0.mk A390
     clear A390
     simp only [Option.some.injEq, Prod.mk.injEq] at H
     obtain ⟨rfl, rfl⟩ := H
     obtain ⟨Ao40, co40, eo40⟩ := Kd.R_slice HO_6.out
     subst eo40
     go_wp2_with (first | ((with_reducible refine gate_callee (f := 28) rfl ?_); refine goesL_ (some 63) rfl rfl Tryd.func28 (by kernel_rfl) rfl #[.slice Ao40 x6_1.length co40] rfl (by (try simp only [List.map_toArray, List.map_cons, List.map_nil]); first | done | rfl | (simp only [List.length_drop, List.length_take]; rfl)) ?_; (with_reducible refine (foolscapref01_Join.calls k1 _ _ x6_1 t188 t189 _ ?side1 ?side2 A39.out).mono ?_); (case side1 => repeat (first | exact (Kd.R_reads' HO_6.out).2.2 | (with_reducible refine Kd.C_alloc ?_ _) | (with_reducible refine Kd.C_drewN ?_ _) | (with_reducible refine Kd.C_drew ?_))); (case side2 => exact (Kd.R_reads' HO_6.out).2.1); rintro e w41 ⟨rfl, hb⟩; refine ⟨_, rfl, ?_⟩; have n0_ := Aside0.mk (Kd.R_below (ro_ HO_6) hb); have n1_ := Aside0.mk (below_step (hb0_ HB) hb); clear HO_6; clear HB; have HO_6 := n0_; have HB := n1_; clear n0_ n1_; (try clear hb); (try clear hb2); (try clear hk); (try clear hi)))
     go_ret2
     exact ⟨by first | rfl | (simp [errW_none, errW_some] <;> rfl) | (simp [*, errW_none, errW_some] <;> rfl), hb0_ HB⟩
 ·replace c4 := Bool.eq_false_iff.mpr c4
  subst c4
  have H1 : (some ((⟨#[]⟩ : ByteArray), 2)) = some (r1, r2) := by rw [if_neg (show ¬ (false = true) by decide)] at H; exact H
  clear H
  have H := H1
  clear H1
  simp only [Option.some.injEq, Prod.mk.injEq] at H
  obtain ⟨rfl, rfl⟩ := H
  go_enter Tryd.func16, Tryd.ntmps16
  go_wp2_with (first | ((with_reducible refine gate_callee (f := 27) rfl ?_); refine goesL_ (some 17) rfl rfl Tryd.func27 (by kernel_rfl) rfl #[.string a0] rfl (by (try simp only [List.map_toArray, List.map_cons, List.map_nil]); first | done | rfl | (simp only [List.length_drop, List.length_take]; rfl)) ?_; (with_reducible refine (foolscapref01_Split.calls k a0 t184 false _ A3.out).mono ?_); rintro e w42 ⟨v186, rfl, ho0, hb⟩; refine ⟨_, rfl, ?_⟩; have n0_ := Aside0.mk (Kd.R_lower ho0 (below_size (hb0_ HB))); have n1_ := Aside0.mk (below_step (hb0_ HB) hb); clear HB; have HO187 := n0_; have HB := n1_; clear n0_ n1_; (try clear hb); (try clear hb2); (try clear hk); (try clear hi); (try clear ho0)))
  go_ret2
  exact ⟨by first | rfl | (simp [errW_none, errW_some] <;> rfl) | (simp [*, errW_none, errW_some] <;> rfl), hb0_ HB⟩

end Go.Proofs.YtmkmpjkgpnahnaaDoor.P
