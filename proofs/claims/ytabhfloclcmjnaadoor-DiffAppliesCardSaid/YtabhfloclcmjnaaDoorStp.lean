/-
  diff.steps, walked by hand: by this session. Conditions: at most 100000 runes each.
-/
import Derived.Test.YtabhfloclcmjnaaDoorTab
import Derived.WalkMore
namespace Go.Proofs.YtabhfloclcmjnaaDoor.X
open Go Go.RowKit Go.Shelf Go.Proofs.YtabhfloclcmjnaaDoorW.PrintWords Go.Proofs.YtabhfloclcmjnaaDoor.P Go.Proofs.YtabhfloclcmjnaaDoor.Lcs
set_option linter.unusedVariables false
/-- The steps of the cheapest way. -/
def stepsL : List Int → List Int → List S78
  | [], b => b.map fun y => ⟨1, y⟩
  | x :: a, [] => (x :: a).map fun x => ⟨2, x⟩
  | x :: a, y :: b => if x = y then ⟨0, x⟩ :: stepsL a b else if C a (y :: b) ≤ C (x :: a) b then ⟨2, x⟩ :: stepsL a (y :: b) else ⟨1, y⟩ :: stepsL (x :: a) b
termination_by a b => a.length + b.length
theorem stepsL_nil_right (a : List Int) : stepsL a [] = a.map fun x => ⟨2, x⟩ := by cases a <;> simp [stepsL]
theorem wayK_01 (a b : List Int) : wayK a b = 0 ∨ wayK a b = 2 ∨ wayK a b = 1 := by
  cases a with
  | nil => exact .inr (.inr rfl)
  | cons x a =>
    cases b with
    | nil => exact .inr (.inl rfl)
    | cons y b =>
      simp only [wayK]
      split
      · exact .inl rfl
      · split
        · exact .inr (.inl rfl)
        · exact .inr (.inr rfl)
theorem step_kept {a b : List Int} (h : wayK a b = 0) : ∃ x a' b', a = x :: a' ∧ b = x :: b' ∧ stepsL a b = ⟨0, x⟩ :: stepsL a' b' := by
  cases a with
  | nil => cases h
  | cons x a =>
    cases b with
    | nil => cases h
    | cons y b =>
      simp only [wayK] at h
      split at h
      · rename_i e
        subst e
        exact ⟨x, a, b, rfl, rfl, by rw [stepsL, if_pos rfl]⟩
      · split at h <;> cases h
theorem step_del {a b : List Int} (h : wayK a b = 2) : ∃ x a', a = x :: a' ∧ stepsL a b = ⟨2, x⟩ :: stepsL a' b := by
  cases a with
  | nil => cases h
  | cons x a =>
    cases b with
    | nil => exact ⟨x, a, rfl, by rw [stepsL_nil_right, stepsL_nil_right]; rfl⟩
    | cons y b =>
      simp only [wayK] at h
      split at h
      · cases h
      · rename_i e
        split at h
        · rename_i e2
          exact ⟨x, a, rfl, by rw [stepsL, if_neg e, if_pos e2]⟩
        · cases h
theorem step_ins {a b : List Int} (h : wayK a b = 1) (hne : ¬ (a = [] ∧ b = [])) : ∃ y b', b = y :: b' ∧ stepsL a b = ⟨1, y⟩ :: stepsL a b' := by
  cases a with
  | nil =>
    cases b with
    | nil => exact absurd ⟨rfl, rfl⟩ hne
    | cons y b => exact ⟨y, b, rfl, by simp [stepsL]⟩
  | cons x a =>
    cases b with
    | nil => cases h
    | cons y b =>
      simp only [wayK] at h
      split at h
      · cases h
      · rename_i e
        split at h
        · cases h
        · rename_i e2
          exact ⟨y, b, rfl, by rw [stepsL, if_neg e, if_neg e2]⟩
theorem stepsL_len : ∀ a b : List Int, (stepsL a b).length ≤ a.length + b.length
  | [], b => by simp [stepsL]
  | x :: a, [] => by simp [stepsL]
  | x :: a, y :: b => by
    rw [stepsL]
    split
    · have := stepsL_len a b; simp only [List.length_cons]; omega
    · split
      · have := stepsL_len a (y :: b); simp only [List.length_cons] at *; omega
      · have := stepsL_len (x :: a) b; simp only [List.length_cons] at *; omega
termination_by a b => a.length + b.length
theorem drop_cons {a : List Int} {i : Nat} {x : Int} {a' : List Int} (h : a.drop i = x :: a') : i < a.length ∧ rd a (i : Int) = x ∧ a.drop (i + 1) = a' := by
  have hi : i < a.length := by
    rcases Nat.lt_or_ge i a.length with h1 | h1
    · exact h1
    · rw [List.drop_eq_nil_of_le h1] at h; cases h
  rw [List.drop_eq_getElem_cons hi] at h
  injection h with h1 h2
  exact ⟨hi, by rw [rd, Int.toNat_natCast, List.getD_eq_getElem?_getD, List.getElem?_eq_getElem hi]; exact h1, h2⟩
theorem info_step : (Tryd.prog.info? 78).map (fun i => (i.zero, i.size, i.bytes)) = some (some (.agg #[(.int .i64 0), (.int .i32 0)]), 2, 16) := by kernel_rfl
set_option maxRecDepth 100000 in
set_option maxHeartbeats 8000000 in
theorem steps_walk (a b : List Int) (A B : Option Addr) (ca cb n m : Nat) (w : World) (hn : a.length = n) (hm : b.length = m) (hA : Kd.C (Kd.int .i32) w A n a) (hB : Kd.C (Kd.int .i32) w B m b) (ha : n ≤ 100000) (hb : m ≤ 100000) :
    Calls Tryd.prog 42 #[.slice A n ca, .slice B m cb] w fun e w' => ∃ v, e = .returned v ∧ Kd.R k78 78 w' w.heap.size (fun _ => True) v (stepsL a b) ∧ Below w.heap.size w w' := by
  have cT := table_calls a b A B ca cb n m w hn hm hA hB ha hb
  have HN := Lib.hid hn
  have HM := Lib.hid hm
  have HA := Aside0.mk hA
  have HB := Aside0.mk hB
  clear hn hm hA hB
  go_enter Tryd.func42, Tryd.ntmps42
  go_wp2_with fail
  go_step3
  go_wp2_with fail
  refine cT.mono ?_
  rintro e w1 ⟨gW, cW, ws, rfl, hW, hR, hBl⟩
  have HW := Aside0.mk hW
  have HR := Aside0.mk hR
  have HB1 := Aside0.mk hBl
  clear hW hR hBl cT
  go_wp2
  go_step3
  go_wp2
  go_loopg [5, 7, 8] (n + m) (fun q u5 u7 u8 wr => ∃ (i j : Nat) (out : List S78), u7 = .int .i64 i ∧ u8 = .int .i64 j ∧ Aside0 (i ≤ n ∧ j ≤ m ∧ (n - i) + (m - j) = q ∧ out.length ≤ i + j) ∧ Aside0 (out ++ stepsL (a.drop i) (b.drop j) = stepsL a b) ∧
    Aside0 (Kd.R k78 78 wr w1.heap.size (fun k => w1.heap.size ≤ k) u5 out) ∧ Aside0 (Below w1.heap.size w1 wr))
  case atStart => exact ⟨0, 0, [], rfl, rfl, ⟨by omega, by omega, by omega, by simp⟩, ⟨rfl⟩, ⟨Kd.R_nil _ _ _ _ _⟩, ⟨Below.refl _ _⟩⟩
  case round =>
    obtain ⟨i, j, out, rfl, rfl, HI, HO, HU, HBl⟩ := hrel
    have HBB : Aside0 (Below w.heap.size w wr) := ⟨HB1.out.trans (HBl.out.mono HB1.out.size)⟩
    have hi0 : i ≤ n := HI.out.1
    have hj0 : j ≤ m := HI.out.2.1
    have hlen : out.length ≤ 200000 := by have := HI.out; omega
    obtain ⟨g, c, y, e1, e2, e3, e4, e5⟩ := HR.out.at_ i (Nat.zero_le _) (by have := HN.out; omega)
    have cW0 := (R_cellN none HW.out i (by omega)).1
    rw [e1] at cW0
    have cW1 : w1.cell? ⟨gW, i, none⟩ = some (.slice (some ⟨g, 0, none⟩) (m + 1) c) := cW0
    have cW : wr.cell? ⟨gW, i, none⟩ = some (.slice (some ⟨g, 0, none⟩) (m + 1) c) := (HBl.out.cell (World.block_lt_of_cell? w1 _ cW1)).trans cW1
    have cY0 := (R_cellN 0 e4 j (by omega)).1
    rw [e5.2 j (Nat.zero_le _) (by have := HM.out; omega)] at cY0
    have cY := (HBl.out.cell (World.block_lt_of_cell? w1 _ cY0)).trans cY0
    clear e1 e4 cW0 cW1 cY0
    have i1 : (0 : Int) ≤ (i : Int) := by omega
    have i2 : (i : Int) < (n : Int) + 1 := by omega
    have j1 : (0 : Int) ≤ (j : Int) := by omega
    have j2 : (j : Int) < (m : Int) + 1 := by omega
    by_cases he : i = n ∧ j = m
    · have t1 : ((i : Int) == (n : Int)) = true := by rw [beq_iff_eq]; omega
      have t2 : ((j : Int) == (m : Int)) = true := by rw [beq_iff_eq]; omega
      have HE := Lib.hid he
      clear he
      go_wp2
      rw [Exit.noGoto_ret]
      go_ret
      refine ⟨_, rfl, ?_, HBB.out⟩
      have hfin : out = stepsL a b := by
        have := HO.out
        rw [HE.out.1, HE.out.2, ← HN.out, ← HM.out, List.drop_length, List.drop_length] at this
        simpa [stepsL] using this
      rw [← hfin]
      exact Kd.R_mono (Kd.R_lower HU.out HB1.out.size) (fun _ _ => trivial)
    · have HNE := Lib.hid he
      clear he
      rcases wayK_01 (a.drop i) (b.drop j) with hw | hw | hw
      · rw [hw] at cY
        obtain ⟨x, a', b', ha', hb', hs⟩ := step_kept hw
        obtain ⟨hil, hx, hd1⟩ := drop_cons ha'
        obtain ⟨hjl, _, hd2⟩ := drop_cons hb'
        rw [HN.out] at hil
        rw [HM.out] at hjl
        rw [← hd1, ← hd2] at hs
        have HS := Lib.hid hs
        have t1 : ((i : Int) == (n : Int)) = false := by rw [beq_eq_false_iff_ne]; omega
        have i3 : (i : Int) < (n : Int) := by omega
        clear hw ha' hb' hd1 hd2 hs
        obtain ⟨ad, rfl, a1⟩ := Kd.at_int HA.out (i : Int) (by omega) i3
        have a2 := (HBB.out.cell (World.block_lt_of_cell? w _ a1)).trans a1
        rw [hx, Int.toNat_natCast] at a2
        clear a1 hx
        go_wp2_with ((with_reducible refine gate_dst (N := 38) rfl ?_); refine Kd.R_append k78 (w0 := w1) w1.heap.size rfl (.tmp 31) (.tmp 37) 76 78 _ 16 rfl Tryd.underlying76 info_step rfl (by decide) (by omega) u5 out ⟨0, x⟩ [.int .i64 0, .int .i32 x] (fun k => w1.heap.size ≤ k) (fun _ => False) rfl rfl (k78_mkM _ _ _ ⟨0, x⟩) (fun _ h => h.elim) (fun k hk => Nat.le_trans HBl.out.size hk) HU.out HBl.out HBl.out.size (by omega) ?_; intro v6 w6 ho6 hb6 hg6 _)
        go_roundg (n - (i + 1) + (m - (j + 1)))
        case measure => have := HI.out; omega
        case rel =>
          refine ⟨i + 1, j + 1, out ++ [(⟨0, x⟩ : S78)], (by go_num), (by go_num), ⟨by omega, by omega, by omega, by rw [List.length_append, List.length_singleton]; have := HI.out; omega⟩, ⟨?_⟩, ⟨ho6⟩, ⟨hb6⟩⟩
          rw [← HO.out, HS.out, List.append_assoc]
          rfl
      · rw [hw] at cY
        obtain ⟨x, a', ha', hs⟩ := step_del hw
        obtain ⟨hil, hx, hd1⟩ := drop_cons ha'
        rw [HN.out] at hil
        rw [← hd1] at hs
        have HS := Lib.hid hs
        have t1 : ((i : Int) == (n : Int)) = false := by rw [beq_eq_false_iff_ne]; omega
        have i3 : (i : Int) < (n : Int) := by omega
        clear hw ha' hd1 hs
        obtain ⟨ad, rfl, a1⟩ := Kd.at_int HA.out (i : Int) (by omega) i3
        have a2 := (HBB.out.cell (World.block_lt_of_cell? w _ a1)).trans a1
        rw [hx, Int.toNat_natCast] at a2
        clear a1 hx
        go_wp2_with ((with_reducible refine gate_dst (N := 52) rfl ?_); refine Kd.R_append k78 (w0 := w1) w1.heap.size rfl (.tmp 45) (.tmp 51) 76 78 _ 16 rfl Tryd.underlying76 info_step rfl (by decide) (by omega) u5 out ⟨2, x⟩ [.int .i64 2, .int .i32 x] (fun k => w1.heap.size ≤ k) (fun _ => False) rfl rfl (k78_mkM _ _ _ ⟨2, x⟩) (fun _ h => h.elim) (fun k hk => Nat.le_trans HBl.out.size hk) HU.out HBl.out HBl.out.size (by omega) ?_; intro v6 w6 ho6 hb6 hg6 _)
        go_roundg (n - (i + 1) + (m - j))
        case measure => have := HI.out; omega
        case rel =>
          refine ⟨i + 1, j, out ++ [(⟨2, x⟩ : S78)], (by go_num), (by go_num), ⟨by omega, by omega, by omega, by rw [List.length_append, List.length_singleton]; have := HI.out; omega⟩, ⟨?_⟩, ⟨ho6⟩, ⟨hb6⟩⟩
          rw [← HO.out, HS.out, List.append_assoc]
          rfl
      · rw [hw] at cY
        obtain ⟨x, b', hb', hs⟩ := step_ins hw (fun h => HNE.out ⟨by have := List.drop_eq_nil_iff.1 h.1; have := HN.out; omega, by have := List.drop_eq_nil_iff.1 h.2; have := HM.out; omega⟩)
        obtain ⟨hjl, hx, hd2⟩ := drop_cons hb'
        rw [HM.out] at hjl
        rw [← hd2] at hs
        have HS := Lib.hid hs
        have j3 : (j : Int) < (m : Int) := by omega
        have t2 : ((j : Int) == (m : Int)) = false := by rw [beq_eq_false_iff_ne]; omega
        clear hw hb' hd2 hs
        obtain ⟨bd, rfl, b1⟩ := Kd.at_int HB.out (j : Int) (by omega) j3
        have b2 := (HBB.out.cell (World.block_lt_of_cell? w _ b1)).trans b1
        rw [hx, Int.toNat_natCast] at b2
        clear b1 hx
        by_cases hin : i = n
        · have t1 : ((i : Int) == (n : Int)) = true := by rw [beq_iff_eq]; omega
          have HE := Lib.hid hin
          clear hin
          go_wp2_with ((with_reducible refine gate_dst (N := 62) rfl ?_); refine Kd.R_append k78 (w0 := w1) w1.heap.size rfl (.tmp 55) (.tmp 61) 76 78 _ 16 rfl Tryd.underlying76 info_step rfl (by decide) (by omega) u5 out ⟨1, x⟩ [.int .i64 1, .int .i32 x] (fun k => w1.heap.size ≤ k) (fun _ => False) rfl rfl (k78_mkM _ _ _ ⟨1, x⟩) (fun _ h => h.elim) (fun k hk => Nat.le_trans HBl.out.size hk) HU.out HBl.out HBl.out.size (by omega) ?_; intro v6 w6 ho6 hb6 hg6 _)
          go_roundg (n - i + (m - (j + 1)))
          case measure => have := HI.out; omega
          case rel =>
            refine ⟨i, j + 1, out ++ [(⟨1, x⟩ : S78)], (by go_num), (by go_num), ⟨by omega, by omega, by omega, by rw [List.length_append, List.length_singleton]; have := HI.out; omega⟩, ⟨?_⟩, ⟨ho6⟩, ⟨hb6⟩⟩
            rw [← HO.out, HS.out, List.append_assoc]
            rfl
        · have t1 : ((i : Int) == (n : Int)) = false := by rw [beq_eq_false_iff_ne]; omega
          have HE := Lib.hid hin
          clear hin
          go_wp2_with ((with_reducible refine gate_dst (N := 62) rfl ?_); refine Kd.R_append k78 (w0 := w1) w1.heap.size rfl (.tmp 55) (.tmp 61) 76 78 _ 16 rfl Tryd.underlying76 info_step rfl (by decide) (by omega) u5 out ⟨1, x⟩ [.int .i64 1, .int .i32 x] (fun k => w1.heap.size ≤ k) (fun _ => False) rfl rfl (k78_mkM _ _ _ ⟨1, x⟩) (fun _ h => h.elim) (fun k hk => Nat.le_trans HBl.out.size hk) HU.out HBl.out HBl.out.size (by omega) ?_; intro v6 w6 ho6 hb6 hg6 _)
          go_roundg (n - i + (m - (j + 1)))
          case measure => have := HI.out; omega
          case rel =>
            refine ⟨i, j + 1, out ++ [(⟨1, x⟩ : S78)], (by go_num), (by go_num), ⟨by omega, by omega, by omega, by rw [List.length_append, List.length_singleton]; have := HI.out; omega⟩, ⟨?_⟩, ⟨ho6⟩, ⟨hb6⟩⟩
            rw [← HO.out, HS.out, List.append_assoc]
            rfl
def diff_steps.f (l0 l1 : List Int) : Option (List S78) := if l0.length ≤ 100000 ∧ l1.length ≤ 100000 then some (stepsL l0 l1) else none
theorem diff_steps.calls (A0 : Option Addr) (c0 : Nat) (l0 : List Int) (A1 : Option Addr) (c1 : Nat) (l1 : List Int) (r : List S78) (w : World) (hr0 : Kd.C (Kd.int .i32) w A0 l0.length l0) (hc0 : l0.length ≤ c0) (hr1 : Kd.C (Kd.int .i32) w A1 l1.length l1) (hc1 : l1.length ≤ c1) (h : diff_steps.f l0 l1 = some r) :
    Calls Tryd.prog 42 #[.slice A0 l0.length c0, .slice A1 l1.length c1] w fun e w' => ∃ v0_ : Value, e = .returned v0_ ∧ Kd.R k78 78 w' w.heap.size (fun _ => True) v0_ r ∧ Below w.heap.size w w' := by
  unfold diff_steps.f at h
  split at h
  · rename_i hl
    obtain rfl := Option.some.inj h
    exact steps_walk l0 l1 A0 A1 c0 c1 l0.length l1.length w rfl rfl hr0 hr1 hl.1 hl.2
  · cases h
end Go.Proofs.YtabhfloclcmjnaaDoor.X
