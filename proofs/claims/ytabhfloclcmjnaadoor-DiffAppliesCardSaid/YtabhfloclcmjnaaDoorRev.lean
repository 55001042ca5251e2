/-
  Two texts as one (DoQ, Rev): by this session, or printed. Conditions: as typed.
-/
import Derived.Test.YtabhfloclcmjnaaDoorTxtD
import Derived.Test.YtabhfloclcmjnaaDoorPx8
import Derived.Test.YtabhfloclcmjnaaDoorPx0
import Derived.Test.YtabhfloclcmjnaaDoorExt
import Derived.BigRegion
namespace Go.Proofs.YtabhfloclcmjnaaDoor.X
open Go Go.RowKit Go.Shelf Go.Proofs.YtabhfloclcmjnaaDoorW.PrintWords Go.Proofs.YtabhfloclcmjnaaDoor.P
set_option linter.unusedVariables false
/-- A change: from where on, how many runes, by what. -/
abbrev Chg := Int × Int × ByteArray
def chgOk (r : List Int) (x : Chg) : Prop := 0 ≤ x.1 ∧ x.1 ≤ (r.length : Int) ∧ 0 ≤ x.2.1 ∧ x.2.1 ≤ (r.length : Int) - x.1
instance (r : List Int) (x : Chg) : Decidable (chgOk r x) := by unfold chgOk; infer_instance
def chg (r : List Int) (x : Chg) : List Int := r.take x.1.toNat ++ ((textOf x.2.2).getD [] ++ r.drop (x.1 + x.2.1).toNat)
def runD : List Int → List Chg → Option (List Int)
  | r, [] => some r
  | r, x :: l => if chgOk r x then runD (chg r x) l else none
def allText (l : List Chg) : Bool := l.all fun x => decide (0 ≤ lenU x.2.2)
/-- A text behind changes. -/
def doR (a : ByteArray) (l : List Chg) : ByteArray × Int :=
  match textOf a with
  | none => (⟨#[]⟩, 2)
  | some r => if allText l = true then (match runD r l with | some r' => (strOf r', 0) | none => (⟨#[]⟩, 3)) else (⟨#[]⟩, 2)
def tri46 (x : S46) : Chg := (x.f0, x.f1, x.f2)
theorem textOf_of_len {s : ByteArray} (h : 0 ≤ lenU s) : ∃ l, textOf s = some l := by
  cases ht : textOf s with
  | none => rw [lenU_of_none ht] at h; omega
  | some l => exact ⟨l, rfl⟩
theorem chg_runes {r : List Int} (h : allRunes r = true) (x : Chg) : allRunes (chg r x) = true := by
  unfold chg
  rw [allRunes_append, allRunes_append, allRunes_take h, allRunes_drop h]
  cases ht : textOf x.2.2 with
  | none => rfl
  | some t => rw [Option.getD_some, (text_str ht).2]; rfl
theorem chg_len {r : List Int} {x : Chg} (h : chgOk r x) : (chg r x).length ≤ r.length + x.2.2.size := by
  unfold chg
  obtain ⟨h1, h2, h3, h4⟩ := h
  have ht : ((textOf x.2.2).getD []).length ≤ x.2.2.size := by
    cases ht : textOf x.2.2 with
    | none => simp
    | some t => exact text_len ht
  simp only [List.length_append, List.length_take, List.length_drop]
  omega
theorem rd46_get (l : List S46) (i : Nat) (h : i < l.length) : rd_T46 l (i : Int) = l[i] := by
  unfold rd_T46
  rw [Int.toNat_natCast, List.getD_eq_getElem?_getD, List.getElem?_eq_getElem h]
  rfl
theorem may_f (s : ByteArray) (hs : s.size ≤ 35184372088832) : runes_May.f s = some (decide (0 ≤ lenU s)) := by
  unfold runes_May.f
  rw [len_f s hs]
  rfl
theorem w64d {x : Int} (h : -100000000000 ≤ x) (h2 : x ≤ 100000000000) : wrap64 x = x := by unfold wrap64; omega
theorem concat3 (a b c : List Int) (ha : a.length ≤ 10000000000) (hb : b.length ≤ 10000000000) (hc : c.length ≤ 10000000000) : slices_Concat.f [a, b, c] = some (a ++ (b ++ c)) := by
  unfold slices_Concat.f
  rw [if_pos (by simp; omega), if_pos (by simp)]
  simp
theorem do_l1 (l : List S46) (hx : ∀ x ∈ l, x.f2.size ≤ 2000000 ∧ 0 ≤ lenU x.f2) (hl : l.length ≤ 1000) : ∀ d i k (r : List Int), i + d = l.length → 2 * d + 1 ≤ k → r.length ≤ 1000000 + 2000000 * i → allRunes r = true →
    diff_Do.l1 k r l (l.length : Int) (i : Int) = some (match runD r ((l.drop i).map tri46) with | some r' => (strOf r', 0) | none => (⟨#[]⟩, 3))
  | 0, i, k, r, hi, hk, hr, ha => by
    obtain ⟨k, rfl⟩ : ∃ x, k = x + 1 := ⟨k - 1, by omega⟩
    simp only [diff_Do.l1]
    rw [if_neg (by omega), List.drop_eq_nil_of_le (by omega), join_f r (by omega), if_pos ha, Option.bind_some]
    rfl
  | d + 1, i, k, r, hi, hk, hr, ha => by
    obtain ⟨k, rfl⟩ : ∃ x, k = x + 1 + 1 := ⟨k - 2, by omega⟩
    have hlt : i < l.length := by omega
    obtain ⟨hx1, hx2⟩ := hx l[i] (List.getElem_mem hlt)
    obtain ⟨t, ht⟩ := textOf_of_len hx2
    have htl := text_len ht
    rw [List.drop_eq_getElem_cons hlt, List.map_cons]
    simp only [runD]
    rw [diff_Do.l1, if_pos (by omega), if_pos (by omega), if_pos (by omega), rd46_get l i hlt]
    obtain ⟨x, hxe⟩ : ∃ x, l[i] = x := ⟨_, rfl⟩
    rw [hxe] at hx1 ht htl ⊢
    have hbad : ¬ chgOk r (tri46 x) → diff_Do.j2 (k + 1) r l (l.length : Int) (i : Int) true x.f0 x.f1 x.f2 = some (match (none : Option (List Int)) with | some r' => (strOf r', 0) | none => (⟨#[]⟩, 3)) := fun _ => by
      rw [diff_Do.j2, if_pos rfl]
    by_cases c1 : x.f0 < 0
    · have hn : ¬ chgOk r (tri46 x) := fun h => by have := h.1; simp only [tri46] at this; omega
      rw [if_pos c1, if_neg hn, hbad hn]
    rw [if_neg c1]
    by_cases c2 : x.f0 > (r.length : Int)
    · have hn : ¬ chgOk r (tri46 x) := fun h => by have := h.2.1; simp only [tri46] at this; omega
      rw [if_pos c2, if_neg hn, hbad hn]
    rw [if_neg c2]
    by_cases c3 : x.f1 < 0
    · have hn : ¬ chgOk r (tri46 x) := fun h => by have := h.2.2.1; simp only [tri46] at this; omega
      rw [if_pos c3, if_neg hn, hbad hn]
    rw [if_neg c3, w64d (by omega) (by omega)]
    by_cases c4 : x.f1 > (r.length : Int) - x.f0
    · have hn : ¬ chgOk r (tri46 x) := fun h => by have := h.2.2.2; simp only [tri46] at this; omega
      rw [decide_eq_true c4, if_neg hn, hbad hn]
    have hok : chgOk r (tri46 x) := ⟨by simp only [tri46]; omega, by simp only [tri46]; omega, by simp only [tri46]; omega, by simp only [tri46]; omega⟩
    rw [decide_eq_false c4, if_pos hok, diff_Do.j2, if_neg (by simp), splitf_some (by omega) ht, Option.bind_some]
    rw [w64d (x := x.f0 + x.f1) (by omega) (by omega), if_pos (by omega), if_pos (by omega), if_pos (by omega), if_pos (by omega)]
    have hc : slices_Concat.f [r.take x.f0.toNat, t, r.drop (x.f0 + x.f1).toNat] = some (chg r (tri46 x)) := by
      rw [concat3 _ _ _ (by rw [List.length_take]; omega) (by omega) (by rw [List.length_drop]; omega)]
      simp only [chg, tri46, ht, Option.getD_some]
    simp only
    rw [hc, Option.bind_some, w64d (by omega) (by omega), show (i : Int) + 1 = ((i + 1 : Nat) : Int) by omega]
    have hcl := chg_len hok
    simp only [tri46] at hcl
    exact do_l1 l hx hl d (i + 1) k (chg r (tri46 x)) (by omega) (by omega) (by simp only [tri46] at hcl ⊢; omega) (chg_runes ha _)
theorem do_l0 (l : List S46) (hx : ∀ x ∈ l, x.f2.size ≤ 2000000) (hl : l.length ≤ 1000) (r : List Int) : ∀ d i k (e : Int), i + d = l.length → d + 1 ≤ k → (e = 0 ∨ e = 2) →
    diff_Do.l0 k l r e l (l.length : Int) (i : Int) = if e = 0 ∧ allText ((l.drop i).map tri46) = true then diff_Do.l1 (k - d - 1) r l (l.length : Int) 0 else some (⟨#[]⟩, 2)
  | 0, i, k, e, hi, hk, he => by
    obtain ⟨k, rfl⟩ : ∃ x, k = x + 1 := ⟨k - 1, by omega⟩
    rw [diff_Do.l0, if_neg (by omega), List.drop_eq_nil_of_le (by omega)]
    rcases he with rfl | rfl
    · rw [if_pos rfl, if_pos ⟨rfl, rfl⟩]; rfl
    · rw [if_neg (by omega), if_neg (by omega)]
  | d + 1, i, k, e, hi, hk, he => by
    obtain ⟨k, rfl⟩ : ∃ x, k = x + 1 := ⟨k - 1, by omega⟩
    have hlt : i < l.length := by omega
    rw [diff_Do.l0, if_pos (by omega), if_pos (by omega), if_pos (by omega), rd46_get l i hlt, w64d (by omega) (by omega), show (i : Int) + 1 = ((i + 1 : Nat) : Int) by omega, List.drop_eq_getElem_cons hlt, List.map_cons]
    have hz := hx l[i] (List.getElem_mem hlt)
    rw [may_f _ (by omega), Option.bind_some]
    simp only [allText, List.all_cons, Bool.and_eq_true, decide_eq_true_eq, tri46]
    rw [show k + 1 - (d + 1) - 1 = k - d - 1 by omega]
    rcases he with rfl | rfl
    · rw [if_pos rfl]
      by_cases hm : 0 ≤ lenU l[i].f2
      · rw [if_pos hm, do_l0 l hx hl r d (i + 1) k 0 (by omega) (by omega) (.inl rfl)]
        simp only [hm, true_and, allText]
      · rw [if_neg hm, do_l0 l hx hl r d (i + 1) k 2 (by omega) (by omega) (.inr rfl), if_neg (by omega), if_neg (fun h => hm h.2.1)]
    · rw [if_neg (by omega), do_l0 l hx hl r d (i + 1) k 2 (by omega) (by omega) (.inr rfl), if_neg (by omega), if_neg (by omega)]
/-- The program's Do. -/
theorem do_f (a : ByteArray) (l : List S46) (hs : a.size ≤ 1000000) (hx : ∀ x ∈ l, x.f2.size ≤ 2000000) (hl : l.length ≤ 1000) (k : Nat) (hk : 30010 ≤ k) : diff_Do.f k a l = some (doR a (l.map tri46)) := by
  unfold diff_Do.f doR
  cases ht : textOf a with
  | none =>
    rw [splitf_none (by omega) ht, Option.bind_some]
    simp only
    have h := do_l0 l hx hl [] l.length 0 k 2 (by omega) (by omega) (.inr rfl)
    rw [if_neg (by omega)] at h
    exact h
  | some r =>
    rw [splitf_some (by omega) ht, Option.bind_some]
    simp only
    have h := do_l0 l hx hl r l.length 0 k 0 (by omega) (by omega) (.inl rfl)
    rw [List.drop_zero] at h
    refine h.trans ?_
    by_cases hA : allText (l.map tri46) = true
    · rw [if_pos ⟨rfl, hA⟩, if_pos hA]
      have htl := text_len ht
      have h1 := do_l1 l (fun x hxm => ⟨hx x hxm, by
        have := List.all_eq_true.1 hA (tri46 x) (List.mem_map_of_mem hxm)
        simpa [tri46] using of_decide_eq_true this⟩) hl l.length 0 (k - l.length - 1) r (by omega) (by omega) (by omega) (text_str ht).2
      rw [List.drop_zero] at h1
      exact h1
    · rw [if_neg (fun h => hA h.2), if_neg hA]
end Go.Proofs.YtabhfloclcmjnaaDoor.X
namespace Go.Proofs.YtabhfloclcmjnaaDoor.X
open Go Go.RowKit Go.Shelf Go.Proofs.YtabhfloclcmjnaaDoorW.PrintWords Go.Proofs.YtabhfloclcmjnaaDoor.P
set_option linter.unusedVariables false
/-- The cells of an element of a row of one's own. -/
theorem R46_cells {e base g cap n : Nat} {ok : Nat → Prop} {W : World} {xs : List S46} (h : Kd.R k46 e W base ok (.slice (some ⟨g, 0, none⟩) n cap) xs) (i : Nat) (hi : i < n) :
    W.cell? ⟨g, i * 3, none⟩ = some (.int .i64 (xs.getD i z46).f0) ∧ W.cell? ⟨g, i * 3 + 1, none⟩ = some (.int .i64 (xs.getD i z46).f1) ∧ W.cell? ⟨g, i * 3 + 2, none⟩ = some (.string (xs.getD i z46).f2) ∧ ∀ j, W.frozen? ⟨g, i * 3 + j, none⟩ = false := by
  obtain ⟨c, hcl, hM, hc, hf⟩ := Kd.R_elem h z46 (i : Int) (by omega) (by omega)
  rw [Int.toNat_natCast] at hM hc hf
  obtain rfl := k46_openM hM
  exact ⟨hc 0 _ rfl, hc 1 _ rfl, hc 2 _ rfl, hf⟩
theorem R46_put {e base g cap n : Nat} {ok : Nat → Prop} {W : World} {xs : List S46} (h : Kd.R k46 e W base ok (.slice (some ⟨g, 0, none⟩) n cap) xs) (i : Nat) (hi : i < n) (x : S46) :
    Kd.R k46 e (((W.setCell ⟨g, i * 3, none⟩ (.int .i64 x.f0)).setCell ⟨g, i * 3 + 1, none⟩ (.int .i64 x.f1)).setCell ⟨g, i * 3 + 2, none⟩ (.string x.f2)) base ok (.slice (some ⟨g, 0, none⟩) n cap) (xs.set i x) ∧ W.grownBy (((W.setCell ⟨g, i * 3, none⟩ (.int .i64 x.f0)).setCell ⟨g, i * 3 + 1, none⟩ (.int .i64 x.f1)).setCell ⟨g, i * 3 + 2, none⟩ (.string x.f2)) (some g) := by
  obtain ⟨c, hcl, hM, hc, hf⟩ := Kd.R_elem h z46 (i : Int) (by omega) (by omega)
  have hs := Kd.R_seg (seg := [.int .i64 x.f0, .int .i64 x.f1, .string x.f2]) (j := 0) (x' := x) (okp := fun _ => False) h (i : Int) (by omega) (by omega) hcl hc (show 3 ≤ 3 by omega) (by
    have e1 : c.take 0 ++ [.int .i64 x.f0, .int .i64 x.f1, .string x.f2] ++ c.drop (0 + 3) = [.int .i64 x.f0, .int .i64 x.f1, .string x.f2] := by
      rw [List.drop_of_length_le (by rw [hcl]; exact Nat.le_refl 3)]; rfl
    rw [show ([.int .i64 x.f0, .int .i64 x.f1, .string x.f2] : List Value).length = 3 from rfl, e1]
    exact k46_mkM _ _ _ x) (fun _ h => h.elim)
  rw [Int.toNat_natCast] at hs
  exact hs
theorem getD_set' {α : Type} (l : List α) (i j : Nat) (x d : α) (hi : i < l.length) : (l.set i x).getD j d = if i = j then x else l.getD j d := by
  simp only [List.getD_eq_getElem?_getD, List.getElem?_set]
  by_cases h : i = j
  · subst h
    simp [hi]
  · simp [h]
set_option maxRecDepth 100000 in
set_option maxHeartbeats 8000000 in
theorem reverse_walk (xs : List S46) (g cap n base : Nat) (ok : Nat → Prop) (w : World) (hn : xs.length = n) (hn2 : n ≤ 1000000) (h : Kd.R k46 46 w base ok (.slice (some ⟨g, 0, none⟩) n cap) xs) :
    Calls Tryd.prog 51 #[.slice (some ⟨g, 0, none⟩) n cap] w fun e w' => (∃ v, e = .returned v) ∧ Kd.R k46 46 w' base ok (.slice (some ⟨g, 0, none⟩) n cap) xs.reverse ∧ w.grownBy w' (some g) := by
  have HN := Lib.hid hn
  have H := Aside0.mk h
  clear hn h
  go_enter Tryd.func51, Tryd.ntmps51
  go_wp2
  go_loopg [2, 3] n (fun q u2 u3 wr => ∃ (i : Nat) (z : Int) (ys : List S46), u2 = .int .i64 i ∧ u3 = .int .i64 z ∧ Aside0 (z = (n : Int) - 1 - i ∧ i ≤ n ∧ i + q = n) ∧ Aside0 (∀ p, p < n → ys.getD p z46 = if p < i ∨ n ≤ p + i then xs.getD (n - 1 - p) z46 else xs.getD p z46) ∧ Aside0 (Kd.R k46 46 wr base ok (.slice (some ⟨g, 0, none⟩) n cap) ys) ∧ Aside0 (w.grownBy wr (some g)))
  case atStart => exact ⟨0, _, xs, rfl, rfl, ⟨by omega, by omega, by omega⟩, ⟨fun p hp => by rw [if_neg (by omega)]⟩, H, ⟨World.grownBy.refl _ _⟩⟩
  case round =>
    obtain ⟨i, z, ys, rfl, rfl, HI, HY, HR, HG⟩ := hrel
    clear H
    by_cases hij : (i : Int) < z
    · obtain ⟨j, hj⟩ : ∃ j : Nat, z = (j : Int) := ⟨z.toNat, by omega⟩
      subst hj
      have hjn : j < n := by have := HI.out; omega
      have hin : i < j := by omega
      obtain ⟨a0, a1, a2, af⟩ := R46_cells HR.out i (by omega)
      obtain ⟨b0, b1, b2, bf⟩ := R46_cells HR.out j hjn
      have af0 := af 0
      have af1 := af 1
      have af2 := af 2
      have bf0 := bf 0
      have bf1 := bf 1
      have bf2 := bf 2
      obtain ⟨⟨x0, x1, x2⟩, hx⟩ : ∃ x, ys.getD i z46 = x := ⟨_, rfl⟩
      obtain ⟨⟨y0, y1, y2⟩, hy⟩ : ∃ x, ys.getD j z46 = x := ⟨_, rfl⟩
      rw [hx] at a0 a1 a2
      rw [hy] at b0 b1 b2
      simp only [Nat.add_zero] at a0 a1 a2 b0 b1 b2 af0 bf0
      have HX := Lib.hid hx
      have HY2 := Lib.hid hy
      have i1 : (0 : Int) ≤ (i : Int) := by omega
      have i2 : (i : Int) < (n : Int) := by omega
      have j1 : (0 : Int) ≤ (j : Int) := by omega
      have j2 : (j : Int) < (n : Int) := by omega
      have d1 : ¬ i * 3 = j * 3 := by omega
      clear af bf hx hy
      go_upto_region 3 with fail
      go_region
      obtain ⟨hR1, hG1⟩ := R46_put HR.out i (by omega) ⟨y0, y1, y2⟩
      obtain ⟨hR2, hG2⟩ := R46_put hR1 j hjn ⟨x0, x1, x2⟩
      dsimp only at hR1 hG1 hR2 hG2
      obtain ⟨W8, hW⟩ : ∃ x, (((((wr.setCell ⟨g, i * 3, none⟩ (.int .i64 y0)).setCell ⟨g, i * 3 + 1, none⟩ (.int .i64 y1)).setCell ⟨g, i * 3 + 2, none⟩ (.string y2)).setCell ⟨g, j * 3, none⟩ (.int .i64 x0)).setCell ⟨g, j * 3 + 1, none⟩ (.int .i64 x1)).setCell ⟨g, j * 3 + 2, none⟩ (.string x2) = x := ⟨_, rfl⟩
      rw [hW] at hR2 hG2 ⊢
      have hG3 := (HG.out.trans hG1).trans hG2
      clear hW hR1 hG1 hG2
      have HR3 : Aside0 (Kd.R k46 46 W8.drew base ok (.slice (some ⟨g, 0, none⟩) n cap) ((ys.set i ⟨y0, y1, y2⟩).set j ⟨x0, x1, x2⟩)) := ⟨Kd.R_drew hR2⟩
      have HG4 : Aside0 (w.grownBy W8.drew (some g)) := ⟨⟨hG3.os, hG3.tape, hG3.output, hG3.size, hG3.block⟩⟩
      clear hR2 hG3 a0 a1 a2 b0 b1 b2 af0 af1 af2 bf0 bf1 bf2
      obtain ⟨W9, hW9⟩ : ∃ x, W8.drew = x := ⟨_, rfl⟩
      rw [hW9] at HR3 HG4 ⊢
      clear hW9
      go_wp2
      go_roundg (n - (i + 1))
      case measure => have := HI.out; omega
      case rel =>
        refine ⟨i + 1, (j : Int) - 1, _, (by go_num), rfl, ⟨by have := HI.out; omega, by omega, by omega⟩, ⟨fun p hp => ?_⟩, HR3, HG4⟩
        have hyl : ys.length = n := (Kd.R_reads' HR.out).1.symm
        have hji : j + i + 1 = n := by have := HI.out; omega
        rw [getD_set' _ _ _ _ _ (by rw [List.length_set]; omega)]
        by_cases e1 : j = p
        · subst e1
          rw [if_pos rfl, if_pos (by omega), show n - 1 - j = i by omega, ← HX.out, HY.out i (by omega), if_neg (by omega)]
        · rw [if_neg e1, getD_set' _ _ _ _ _ (by omega)]
          by_cases e2 : i = p
          · subst e2
            rw [if_pos rfl, if_pos (by omega), show n - 1 - i = j by omega, ← HY2.out, HY.out j hjn, if_neg (by omega)]
          · rw [if_neg e2, HY.out p hp]
            by_cases e3 : p < i ∨ n ≤ p + i
            · rw [if_pos e3, if_pos (by omega)]
            · rw [if_neg e3, if_neg (by omega)]
    · go_wp2
      go_end0
      have hfin : ys = xs.reverse := by
        have hyl : ys.length = n := (Kd.R_reads' HR.out).1.symm
        have hxl := HN.out
        apply List.ext_getElem (by rw [List.length_reverse]; omega)
        intro p h1 h2
        have hp := HY.out p (by omega)
        rw [List.getD_eq_getElem?_getD, List.getElem?_eq_getElem h1, Option.getD_some] at hp
        rw [hp, List.getElem_reverse]
        have hI := HI.out
        split
        · rw [List.getD_eq_getElem?_getD, List.getElem?_eq_getElem (by omega), Option.getD_some]
          congr 1
          omega
        · rw [List.getD_eq_getElem?_getD, List.getElem?_eq_getElem (by omega), Option.getD_some]
          congr 1
          omega
      exact ⟨⟨_, rfl⟩, hfin ▸ HR.out, HG.out⟩
theorem reverse_nil (A : Option Addr) (cap : Nat) (w : World) : Calls Tryd.prog 51 #[.slice A 0 cap] w fun e w' => (∃ v, e = .returned v) ∧ w = w' := by
  go_enter Tryd.func51, Tryd.ntmps51
  go_wp2
  refine wp_loop_rounds 1 ?_
  rw [rounds_succ]
  go_wp2
  go_end0
  exact ⟨⟨_, rfl⟩, rfl⟩
/-- Whatever the row: nothing else is touched. -/
theorem reverse_calls (xs : List S46) (A : Option Addr) (cap n base : Nat) (ok : Nat → Prop) (w : World) (hn : xs.length = n) (hn2 : n ≤ 1000000) (h : Kd.R k46 46 w base ok (.slice A n cap) xs) (hB : base ≤ w.heap.size) :
    Calls Tryd.prog 51 #[.slice A n cap] w fun e w' => (∃ v, e = .returned v) ∧ Kd.R k46 46 w' base ok (.slice A n cap) xs.reverse ∧ Below base w w' := by
  rcases Nat.eq_zero_or_pos n with h0 | h0
  · subst h0
    have hx : xs = [] := List.eq_nil_of_length_eq_zero hn
    subst hx
    exact (reverse_nil A cap w).mono fun e w' ⟨he, hw⟩ => ⟨he, hw ▸ h, hw ▸ Below.refl _ _⟩
  · obtain ⟨g, c, hv, hg, _⟩ := Kd.R_form h (by omega)
    injection hv with h1 h2 h3
    subst h1
    subst h3
    exact (reverse_walk xs g cap n base ok w hn hn2 h).mono fun e w' ⟨he, hR, hG⟩ => ⟨he, hR, (Below.refl _ _).grown hG hB (fun k e => by cases e; exact hg)⟩
end Go.Proofs.YtabhfloclcmjnaaDoor.X
