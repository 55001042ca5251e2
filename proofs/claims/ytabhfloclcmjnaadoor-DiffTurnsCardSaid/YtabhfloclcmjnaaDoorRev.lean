/-
  slices.Reverse of changes, walked by hand: by this session. Conditions: as typed.
-/
import Derived.Test.YtabhfloclcmjnaaDoorPx0
import Derived.Test.YtabhfloclcmjnaaDoorExt
import Derived.BigRegion
namespace Go.Proofs.YtabhfloclcmjnaaDoor.X
open Go Go.RowKit Go.Shelf Go.Proofs.YtabhfloclcmjnaaDoorW.PrintWords Go.Proofs.YtabhfloclcmjnaaDoor.P
set_option linter.unusedVariables false
/-- The cells of an element of a row of one's own. -/
theorem R46_cells {e base g cap n : Nat} {ok : Nat → Prop} {W : World} {xs : List S46} (h : Kd.R k46 e W base ok (.slice (some ⟨g, 0, none⟩) n cap) xs) (i : Nat) (hi : i < n) :
    W.cell? ⟨g, i * 3, none⟩ = some (.int .i64 (xs.getD i z46).f0) ∧ W.cell? ⟨g, i * 3 + 1, none⟩ = some (.int .i64 (xs.getD i z46).f1) ∧ W.cell? ⟨g, i * 3 + 2, none⟩ = some (.string (xs.getD i z46).f2) ∧ ∀ j, W.frozen? ⟨g, i * 3 + j, none⟩ = false := by
  obtain ⟨c, hcl, hM, hc, hf⟩ := Kd.R_elem h z46 (i : Int) (by omega) (by omega)
  rw [Int.toNat_natCast] at hM hc hf
  obtain rfl := k46_openM hM
  exact ⟨hc 0 _ rfl, hc 1 _ rfl, hc 2 _ rfl, hf⟩
theorem R46_put {e base g cap n : Nat} {ok : Nat → Prop} {W : World} {xs : List S46} (h : Kd.R k46 e W base ok (.slice (some ⟨g, 0, none⟩) n cap) xs) (i : Nat) (hi : i < n) (x : S46) :
    Kd.R k46 e (((W.setCell ⟨g, i * 3, none⟩ (.int .i64 x.f0)).setCell ⟨g, i * 3 + 1, none⟩ (.int .i64 x.f1)).setCell ⟨g, i * 3 + 2, none⟩ (.string x.f2)) base ok (.slice (some ⟨g, 0, none⟩) n cap) (xs.set i x) ∧ W.grownBy (((W.setCell ⟨g, i * 3, none⟩ (.int .i64 x.f0)).setCell ⟨g, i * 3 + 1, none⟩ (.int .i64 x.f1)).setCell ⟨g, i * 3 + 2, none⟩ (.string x.f2)) (some g) := by
  obtain ⟨c, hcl, hM, hc, hf⟩ := Kd.R_elem h z46 (i : Int) (by omega) (by omega)
  have hs := Kd.R_seg (seg := [.int .i64 x.f0, .int .i64 x.f1, .string x.f2]) (j := 0) (x' := x) (okp := fun _ => False) h (i : Int) (by omega) (by omega) hcl hc (show 3 ≤ 3 by omega) (by
    have e1 : c.take 0 ++ [.int .i64 x.f0, .int .i64 x.f1, .string x.f2] ++ c.drop (0 + 3) = [.int .i64 x.f0, .int .i64 x.f1, .string x.f2] := by
      rw [List.drop_of_length_le (by rw [hcl]; exact Nat.le_refl 3)]; rfl
    rw [show ([.int .i64 x.f0, .int .i64 x.f1, .string x.f2] : List Value).length = 3 from rfl, e1]
    exact k46_mkM _ _ _ x) (fun _ h => h.elim)
  rw [Int.toNat_natCast] at hs
  exact hs
theorem getD_set' {α : Type} (l : List α) (i j : Nat) (x d : α) (hi : i < l.length) : (l.set i x).getD j d = if i = j then x else l.getD j d := by
  simp only [List.getD_eq_getElem?_getD, List.getElem?_set]
  by_cases h : i = j
  · subst h
    simp [hi]
  · simp [h]
set_option maxRecDepth 100000 in
set_option maxHeartbeats 8000000 in
theorem reverse_walk (xs : List S46) (g cap n base : Nat) (ok : Nat → Prop) (w : World) (hn : xs.length = n) (hn2 : n ≤ 1000000) (h : Kd.R k46 46 w base ok (.slice (some ⟨g, 0, none⟩) n cap) xs) :
    Calls Tryd.prog 51 #[.slice (some ⟨g, 0, none⟩) n cap] w fun e w' => (∃ v, e = .returned v) ∧ Kd.R k46 46 w' base ok (.slice (some ⟨g, 0, none⟩) n cap) xs.reverse ∧ w.grownBy w' (some g) := by
  have HN := Lib.hid hn
  have H := Aside0.mk h
  clear hn h
  go_enter Tryd.func51, Tryd.ntmps51
  go_wp2
  go_loopg [2, 3] n (fun q u2 u3 wr => ∃ (i : Nat) (z : Int) (ys : List S46), u2 = .int .i64 i ∧ u3 = .int .i64 z ∧ Aside0 (z = (n : Int) - 1 - i ∧ i ≤ n ∧ i + q = n) ∧ Aside0 (∀ p, p < n → ys.getD p z46 = if p < i ∨ n ≤ p + i then xs.getD (n - 1 - p) z46 else xs.getD p z46) ∧ Aside0 (Kd.R k46 46 wr base ok (.slice (some ⟨g, 0, none⟩) n cap) ys) ∧ Aside0 (w.grownBy wr (some g)))
  case atStart => exact ⟨0, _, xs, rfl, rfl, ⟨by omega, by omega, by omega⟩, ⟨fun p hp => by rw [if_neg (by omega)]⟩, H, ⟨World.grownBy.refl _ _⟩⟩
  case round =>
    obtain ⟨i, z, ys, rfl, rfl, HI, HY, HR, HG⟩ := hrel
    clear H
    by_cases hij : (i : Int) < z
    · obtain ⟨j, hj⟩ : ∃ j : Nat, z = (j : Int) := ⟨z.toNat, by omega⟩
      subst hj
      have hjn : j < n := by have := HI.out; omega
      have hin : i < j := by omega
      obtain ⟨a0, a1, a2, af⟩ := R46_cells HR.out i (by omega)
      obtain ⟨b0, b1, b2, bf⟩ := R46_cells HR.out j hjn
      have af0 := af 0
      have af1 := af 1
      have af2 := af 2
      have bf0 := bf 0
      have bf1 := bf 1
      have bf2 := bf 2
      obtain ⟨⟨x0, x1, x2⟩, hx⟩ : ∃ x, ys.getD i z46 = x := ⟨_, rfl⟩
      obtain ⟨⟨y0, y1, y2⟩, hy⟩ : ∃ x, ys.getD j z46 = x := ⟨_, rfl⟩
      rw [hx] at a0 a1 a2
      rw [hy] at b0 b1 b2
      simp only [Nat.add_zero] at a0 a1 a2 b0 b1 b2 af0 bf0
      have HX := Lib.hid hx
      have HY2 := Lib.hid hy
      have i1 : (0 : Int) ≤ (i : Int) := by omega
      have i2 : (i : Int) < (n : Int) := by omega
      have j1 : (0 : Int) ≤ (j : Int) := by omega
      have j2 : (j : Int) < (n : Int) := by omega
      have d1 : ¬ i * 3 = j * 3 := by omega
      clear af bf hx hy
      go_upto_region 3 with fail
      go_region
      obtain ⟨hR1, hG1⟩ := R46_put HR.out i (by omega) ⟨y0, y1, y2⟩
      obtain ⟨hR2, hG2⟩ := R46_put hR1 j hjn ⟨x0, x1, x2⟩
      dsimp only at hR1 hG1 hR2 hG2
      obtain ⟨W8, hW⟩ : ∃ x, (((((wr.setCell ⟨g, i * 3, none⟩ (.int .i64 y0)).setCell ⟨g, i * 3 + 1, none⟩ (.int .i64 y1)).setCell ⟨g, i * 3 + 2, none⟩ (.string y2)).setCell ⟨g, j * 3, none⟩ (.int .i64 x0)).setCell ⟨g, j * 3 + 1, none⟩ (.int .i64 x1)).setCell ⟨g, j * 3 + 2, none⟩ (.string x2) = x := ⟨_, rfl⟩
      rw [hW] at hR2 hG2 ⊢
      have hG3 := (HG.out.trans hG1).trans hG2
      clear hW hR1 hG1 hG2
      have HR3 : Aside0 (Kd.R k46 46 W8.drew base ok (.slice (some ⟨g, 0, none⟩) n cap) ((ys.set i ⟨y0, y1, y2⟩).set j ⟨x0, x1, x2⟩)) := ⟨Kd.R_drew hR2⟩
      have HG4 : Aside0 (w.grownBy W8.drew (some g)) := ⟨⟨hG3.os, hG3.tape, hG3.output, hG3.size, hG3.block⟩⟩
      clear hR2 hG3 a0 a1 a2 b0 b1 b2 af0 af1 af2 bf0 bf1 bf2
      obtain ⟨W9, hW9⟩ : ∃ x, W8.drew = x := ⟨_, rfl⟩
      rw [hW9] at HR3 HG4 ⊢
      clear hW9
      go_wp2
      go_roundg (n - (i + 1))
      case measure => have := HI.out; omega
      case rel =>
        refine ⟨i + 1, (j : Int) - 1, _, (by go_num), rfl, ⟨by have := HI.out; omega, by omega, by omega⟩, ⟨fun p hp => ?_⟩, HR3, HG4⟩
        have hyl : ys.length = n := (Kd.R_reads' HR.out).1.symm
        have hji : j + i + 1 = n := by have := HI.out; omega
        rw [getD_set' _ _ _ _ _ (by rw [List.length_set]; omega)]
        by_cases e1 : j = p
        · subst e1
          rw [if_pos rfl, if_pos (by omega), show n - 1 - j = i by omega, ← HX.out, HY.out i (by omega), if_neg (by omega)]
        · rw [if_neg e1, getD_set' _ _ _ _ _ (by omega)]
          by_cases e2 : i = p
          · subst e2
            rw [if_pos rfl, if_pos (by omega), show n - 1 - i = j by omega, ← HY2.out, HY.out j hjn, if_neg (by omega)]
          · rw [if_neg e2, HY.out p hp]
            by_cases e3 : p < i ∨ n ≤ p + i
            · rw [if_pos e3, if_pos (by omega)]
            · rw [if_neg e3, if_neg (by omega)]
    · go_wp2
      go_end0
      have hfin : ys = xs.reverse := by
        have hyl : ys.length = n := (Kd.R_reads' HR.out).1.symm
        have hxl := HN.out
        apply List.ext_getElem (by rw [List.length_reverse]; omega)
        intro p h1 h2
        have hp := HY.out p (by omega)
        rw [List.getD_eq_getElem?_getD, List.getElem?_eq_getElem h1, Option.getD_some] at hp
        rw [hp, List.getElem_reverse]
        have hI := HI.out
        split
        · rw [List.getD_eq_getElem?_getD, List.getElem?_eq_getElem (by omega), Option.getD_some]
          congr 1
          omega
        · rw [List.getD_eq_getElem?_getD, List.getElem?_eq_getElem (by omega), Option.getD_some]
          congr 1
          omega
      exact ⟨⟨_, rfl⟩, hfin ▸ HR.out, HG.out⟩
theorem reverse_nil (A : Option Addr) (cap : Nat) (w : World) : Calls Tryd.prog 51 #[.slice A 0 cap] w fun e w' => (∃ v, e = .returned v) ∧ w = w' := by
  go_enter Tryd.func51, Tryd.ntmps51
  go_wp2
  refine wp_loop_rounds 1 ?_
  rw [rounds_succ]
  go_wp2
  go_end0
  exact ⟨⟨_, rfl⟩, rfl⟩
/-- Whatever the row: nothing else is touched. -/
theorem reverse_calls (xs : List S46) (A : Option Addr) (cap n base : Nat) (ok : Nat → Prop) (w : World) (hn : xs.length = n) (hn2 : n ≤ 1000000) (h : Kd.R k46 46 w base ok (.slice A n cap) xs) (hB : base ≤ w.heap.size) :
    Calls Tryd.prog 51 #[.slice A n cap] w fun e w' => (∃ v, e = .returned v) ∧ Kd.R k46 46 w' base ok (.slice A n cap) xs.reverse ∧ Below base w w' := by
  rcases Nat.eq_zero_or_pos n with h0 | h0
  · subst h0
    have hx : xs = [] := List.eq_nil_of_length_eq_zero hn
    subst hx
    exact (reverse_nil A cap w).mono fun e w' ⟨he, hw⟩ => ⟨he, hw ▸ h, hw ▸ Below.refl _ _⟩
  · obtain ⟨g, c, hv, hg, _⟩ := Kd.R_form h (by omega)
    injection hv with h1 h2 h3
    subst h1
    subst h3
    exact (reverse_walk xs g cap n base ok w hn hn2 h).mono fun e w' ⟨he, hR, hG⟩ => ⟨he, hR, (Below.refl _ _).grown hG hB (fun k e => by cases e; exact hg)⟩
end Go.Proofs.YtabhfloclcmjnaaDoor.X
