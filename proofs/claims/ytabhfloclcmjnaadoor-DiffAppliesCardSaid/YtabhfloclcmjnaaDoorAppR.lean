/-
  Two texts as one (DifC, AppR): by this session, or printed. Conditions: as typed.
-/
import Derived.Test.YtabhfloclcmjnaaDoorDif
import Derived.Test.YtabhfloclcmjnaaDoorPx5
import Derived.Test.YtabhfloclcmjnaaDoorApp
import Derived.Test.YtabhfloclcmjnaaDoorPx20
import Derived.Test.YtabhfloclcmjnaaDoorPx22
import Derived.Test.YtabhfloclcmjnaaDoorPx19
namespace Go.Proofs.YtabhfloclcmjnaaDoor.X
open Go Go.RowKit Go.Shelf Go.Proofs.YtabhfloclcmjnaaDoorW.PrintWords Go.Proofs.YtabhfloclcmjnaaDoor.P Go.Proofs.YtabhfloclcmjnaaDoor.Lcs
set_option linter.unusedVariables false
def cost1 (p : S40) : Int := if p.f0 = 1 ∨ p.f0 = 2 then max 0 (lenU p.f1) else 0
def costR (l : List S40) : Int := (l.map cost1).sum
theorem lenU_le (s : ByteArray) : lenU s ≤ s.size := by
  cases h : textOf s with
  | none => rw [lenU_of_none h]; omega
  | some l => rw [lenU_of_some h]; have := text_len h; omega
theorem rd40_get' (l : List S40) (i : Nat) (h : i < l.length) : rd_T40 l (i : Int) = l[i] := by
  unfold rd_T40
  rw [Int.toNat_natCast, List.getD_eq_getElem?_getD, List.getElem?_eq_getElem h]
  rfl
theorem mx0 (m : Int) : mx 0 m = max 0 m := by unfold mx; omega
theorem cost_l0 (l : List S40) (hl : l.length ≤ 10000) (hz : ∀ p ∈ l, p.f1.size ≤ 100000) : ∀ d i k (a : Int), i + d = l.length → d + 1 ≤ k → 0 ≤ a → a ≤ 100000 * i → diff_Cost.l0 k a l (l.length : Int) (i : Int) = some (a + costR (l.drop i))
  | 0, i, k, a, hi, hk, ha, hb => by
    obtain ⟨k, rfl⟩ : ∃ x, k = x + 1 := ⟨k - 1, by omega⟩
    rw [diff_Cost.l0, if_neg (by omega), List.drop_of_length_le (by omega)]
    simp [costR]
  | d + 1, i, k, a, hi, hk, ha, hb => by
    obtain ⟨k, rfl⟩ : ∃ x, k = x + 1 := ⟨k - 1, by omega⟩
    have hlt : i < l.length := by omega
    have hsz := hz l[i] (List.getElem_mem hlt)
    have hle := lenU_le l[i].f1
    have hlf : runes_Len.f l[i].f1 = some (lenU l[i].f1) := len_f _ (by omega)
    have hw : wrap64 ((i : Int) + 1) = ((i + 1 : Nat) : Int) := by rw [w64e (by omega) (by omega)]; omega
    have hd := List.drop_eq_getElem_cons hlt
    rw [diff_Cost.l0, if_pos (by omega), if_pos (by omega), if_pos (by omega), rd40_get' l i hlt, hw, hd]
    have hcs : costR (l[i] :: l.drop (i + 1)) = cost1 l[i] + costR (l.drop (i + 1)) := by simp only [costR, List.map_cons, List.sum_cons]
    have hc1 : cost1 l[i] = if l[i].f0 = 1 ∨ l[i].f0 = 2 then max 0 (lenU l[i].f1) else 0 := rfl
    rw [hcs, hc1]
    clear hcs hc1 hd
    obtain ⟨m, hm⟩ : ∃ m, lenU l[i].f1 = m := ⟨_, rfl⟩
    rw [hm] at hle hlf ⊢
    clear hm
    by_cases c1 : l[i].f0 = 1
    · rw [if_pos c1, hlf, Option.bind_some, mx0, w64e (by omega) (by omega), cost_l0 l hl hz d (i + 1) k _ (by omega) (by omega) (by omega) (by omega)]
      rw [if_pos (.inl c1), Int.add_assoc]
    · rw [if_neg c1]
      by_cases c2 : l[i].f0 = 2
      · rw [if_pos c2, hlf, Option.bind_some, mx0, w64e (by omega) (by omega), cost_l0 l hl hz d (i + 1) k _ (by omega) (by omega) (by omega) (by omega)]
        rw [if_pos (.inr c2), Int.add_assoc]
      · rw [if_neg c2, cost_l0 l hl hz d (i + 1) k a (by omega) (by omega) (by omega) (by omega)]
        rw [if_neg (by omega), Int.zero_add]
theorem cost_f (l : List S40) (hl : l.length ≤ 10000) (hz : ∀ p ∈ l, p.f1.size ≤ 100000) (k : Nat) (hk : 10001 ≤ k) : diff_Cost.f k l = some (costR l) := by
  have h := cost_l0 l hl hz l.length 0 k 0 (by omega) (by omega) (by omega) (by omega)
  rw [List.drop_zero, Int.zero_add] at h
  exact h
/-! ### of what Diff tells -/
theorem jn_str {t : List Int} (h : allRunes t = true) : jn t = strOf t := if_pos h
theorem text_enc {p : Nat × List Int} (h : allRunes p.2 = true) : textOf (encP p).f1 = some p.2 := by
  show textOf (jn p.2) = _
  rw [jn_str h, textOf_str h]
theorem loop_app (bs : ByteArray) : ∀ (d i : Nat) (r : List UInt8), bs.size - i = d → (ByteArray.toList.loop bs i r).length = r.length + d := by
  intro d
  induction d with
  | zero =>
    intro i r h
    rw [ByteArray.toList.loop, if_neg (by omega)]
    simp
  | succ d ih =>
    intro i r h
    rw [ByteArray.toList.loop, if_pos (by omega), ih (i + 1) _ (by omega)]
    simp
    omega
theorem size_of_nil {t : ByteArray} (h : t.toList = []) : t.size = 0 := by
  have := loop_app t t.size 0 [] (by omega)
  have e : (ByteArray.toList.loop t 0 []).length = t.toList.length := rfl
  rw [e, h] at this
  simpa using this.symm
theorem text_ne {k : Nat} {t : List Int} (h : allRunes t = true) (ht : t ≠ []) : (encP (k, t)).f1.toList ≠ [] := by
  intro h2
  have h3 := text_enc (p := (k, t)) h
  have h4 : (encP (k, t)).f1.size = 0 := size_of_nil h2
  have h5 := text_len h3
  exact ht (List.eq_nil_of_length_eq_zero (by simp only at h5; omega))
theorem parts_runes {x y : List Int} (hx : allRunes x = true) (hy : allRunes y = true) : ∀ p ∈ partsR x y, allRunes p.2 = true := by
  intro p hp
  obtain ⟨h1, h2, _⟩ := mrg3_was (stepsL x y) [] [] [] (steps_kinds x y) (.inl rfl)
  obtain ⟨s1, s2, _⟩ := steps_texts x y
  rw [s1, List.nil_append, List.nil_append] at h1
  rw [s2, List.nil_append, List.nil_append] at h2
  have sub : ∀ (L : List Int), allRunes L = true → (∀ r ∈ p.2, r ∈ L) → allRunes p.2 = true := fun L hL hs => List.all_eq_true.2 fun r hr => List.all_eq_true.1 hL r (hs r hr)
  by_cases hk : p.1 = 1
  · refine sub y hy (fun r hr => ?_)
    rw [← h2]
    exact List.mem_flatMap.2 ⟨p, List.mem_filter.2 ⟨hp, by simp [hk]⟩, hr⟩
  · refine sub x hx (fun r hr => ?_)
    rw [← h1]
    exact List.mem_flatMap.2 ⟨p, List.mem_filter.2 ⟨hp, by simp [hk]⟩, hr⟩
theorem gP_len (k : Nat) (t : List Int) : (gP k t).length ≤ t.length := by
  unfold gP
  split
  · simp
  · rename_i h
    have := List.length_pos_iff.2 h
    simp
    omega
theorem mrg3_len : ∀ (l : List S78) (t0 t1 t2 : List Int), (mrg3 l t0 t1 t2).length ≤ t0.length + t1.length + t2.length + l.length
  | [], t0, t1, t2 => by
    have := gP_len 0 t0
    have := gP_len 1 t1
    have := gP_len 2 t2
    simp only [mrg3, List.length_append, List.length_nil]
    omega
  | x :: l, t0, t1, t2 => by
    have := gP_len 0 t0
    have := gP_len 1 t1
    have := gP_len 2 t2
    simp only [mrg3]
    split
    · have := mrg3_len l (t0 ++ [x.f1]) [] []
      simp only [List.length_append, List.length_cons, List.length_nil] at *
      omega
    · split
      · have := mrg3_len l [] t1 (t2 ++ [x.f1])
        simp only [List.length_append, List.length_cons, List.length_nil] at *
        omega
      · have := mrg3_len l [] (t1 ++ [x.f1]) t2
        simp only [List.length_append, List.length_cons, List.length_nil] at *
        omega
theorem parts_len (x y : List Int) : (partsR x y).length ≤ x.length + y.length := by
  have h := mrg3_len (stepsL x y) [] [] []
  have h2 := stepsL_len x y
  simp only [List.length_nil] at h
  unfold partsR
  omega
theorem cost_enc : ∀ (ps : List (Nat × List Int)), (∀ p ∈ ps, allRunes p.2 = true ∧ p.1 ≤ 2) → costR (ps.map encP) = (costP ps : Nat)
  | [], _ => rfl
  | p :: ps, h => by
    have ih := cost_enc ps (fun q hq => h q (List.mem_cons_of_mem _ hq))
    obtain ⟨h1, h2⟩ := h p (List.mem_cons_self ..)
    have e1 : costR ((p :: ps).map encP) = cost1 (encP p) + costR (ps.map encP) := by simp [costR]
    have e2 : costP (p :: ps) = (if p.1 = 0 then 0 else p.2.length) + costP ps := by
      unfold costP
      by_cases hk : p.1 = 0 <;> simp [hk]
    rw [e1, e2, ih]
    unfold cost1
    have e3 : (encP p).f0 = (p.1 : Int) := rfl
    rw [e3, lenU_of_some (text_enc h1)]
    by_cases hk : p.1 = 0
    · rw [if_neg (by omega), if_pos hk]; omega
    · rw [if_pos (by omega), if_neg hk]; omega
theorem form_kinds : ∀ (ps : List (Nat × List Int)) (q : Option Nat), FormP q ps → ∀ p ∈ ps, p.1 ≤ 2
  | [], _, _, p, h => by cases h
  | (k, t) :: ps, q, hf, p, h => by
    rcases List.mem_cons.1 h with rfl | h
    · exact hf.2.2.1
    · exact form_kinds ps (some k) hf.2.2.2 p h
theorem parts_form (x y : List Int) : FormP none (partsR x y) := mrg3_form _ _ _ _ none (fun h => absurd rfl h) (fun _ => .inl rfl)
theorem enc_size {x y : List Int} (hx : allRunes x = true) (hy : allRunes y = true) (hlx : x.length ≤ 500) (hly : y.length ≤ 500) : ∀ p ∈ (partsR x y).map encP, p.f1.size ≤ 2000 := by
  intro q hq
  obtain ⟨p, hp, rfl⟩ := List.mem_map.1 hq
  have hr := parts_runes hx hy p hp
  obtain ⟨h1, h2, _⟩ := mrg3_was (stepsL x y) [] [] [] (steps_kinds x y) (.inl rfl)
  obtain ⟨s1, s2, _⟩ := steps_texts x y
  rw [s1, List.nil_append, List.nil_append] at h1
  rw [s2, List.nil_append, List.nil_append] at h2
  have hlen : p.2.length ≤ 500 := by
    have one : ∀ (f : Nat × List Int → Bool) (ps : List (Nat × List Int)), p ∈ ps → f p = true → p.2.length ≤ ((ps.filter f).flatMap (·.2)).length := by
      intro f ps hps hf
      obtain ⟨a, b, hab⟩ := List.append_of_mem (List.mem_filter.2 ⟨hps, hf⟩)
      rw [hab]
      simp
      omega
    by_cases hk : p.1 = 1
    · have := one (fun p => p.1 != 2) (partsR x y) hp (by simp [hk])
      have e : ((partsR x y).filter fun p => p.1 != 2).flatMap (·.2) = y := h2
      rw [e] at this
      omega
    · have := one (fun p => p.1 != 1) (partsR x y) hp (by simp [hk])
      have e : ((partsR x y).filter fun p => p.1 != 1).flatMap (·.2) = x := h1
      rw [e] at this
      omega
  show (jn p.2).size ≤ 2000
  rw [jn_str hr]
  have := strOf_le p.2
  omega
theorem cost_parts {x y : List Int} (hx : allRunes x = true) (hy : allRunes y = true) (hlx : x.length ≤ 500) (hly : y.length ≤ 500) (k : Nat) (hk : 10001 ≤ k) : diff_Cost.f k ((partsR x y).map encP) = some ((C x y : Nat) : Int) := by
  have hpl := parts_len x y
  rw [cost_f _ (by rw [List.length_map]; omega) (fun p hp => by have := enc_size hx hy hlx hly p hp; omega) k hk, cost_enc _ (fun p hp => ⟨parts_runes hx hy p hp, form_kinds _ _ (parts_form x y) p hp⟩)]
  obtain ⟨_, _, h3⟩ := mrg3_was (stepsL x y) [] [] [] (steps_kinds x y) (.inl rfl)
  obtain ⟨_, _, s3⟩ := steps_texts x y
  rw [s3] at h3
  unfold partsR
  rw [h3]
  simp
theorem stepsL_self (x : List Int) : stepsL x x = x.map fun r => ⟨0, r⟩ := by
  induction x with
  | nil => simp [stepsL]
  | cons r x ih => rw [stepsL, if_pos rfl, ih]; rfl
theorem mrg3_kept : ∀ (x t : List Int), mrg3 (x.map fun r => (⟨0, r⟩ : S78)) t [] [] = gP 0 (t ++ x)
  | [], t => by simp [mrg3, gP]
  | r :: x, t => by
    have := mrg3_kept x (t ++ [r])
    simp only [List.map_cons, mrg3]
    rw [if_pos trivial, this]
    simp [gP]
theorem parts_self (x : List Int) : (partsR x x).length ≤ 1 := by
  unfold partsR
  rw [stepsL_self, mrg3_kept]
  unfold gP
  split <;> simp
/-! ### the document's example -/
theorem ab_text : textOf (⟨#[97, 98, 99]⟩ : ByteArray) = some [97, 98, 99] := by kernel_rfl
theorem ax_text : textOf (⟨#[97, 120, 99]⟩ : ByteArray) = some [97, 120, 99] := by kernel_rfl
theorem al_steps : stepsL [97, 98, 99] [97, 120, 99] = [⟨0, 97⟩, ⟨2, 98⟩, ⟨1, 120⟩, ⟨0, 99⟩] := by
  simp [stepsL, C]
theorem al_diff : diffR (⟨#[97, 98, 99]⟩ : ByteArray) (⟨#[97, 120, 99]⟩ : ByteArray) = ([⟨0, ⟨#[97]⟩⟩, ⟨2, ⟨#[98]⟩⟩, ⟨1, ⟨#[120]⟩⟩, ⟨0, ⟨#[99]⟩⟩], 0) := by
  unfold diffR
  rw [ab_text, ax_text]
  simp only
  rw [if_neg (by decide)]
  unfold partsR
  rw [al_steps]
  kernel_rfl
theorem alive_at (k : Nat) (hk : 200000 ≤ k) : foolscaplaw32_alive.f k = some true := by
  unfold foolscaplaw32_alive.f
  rw [diff_f _ _ (by decide) (by decide) k (by omega), al_diff, Option.bind_some]
  simp only
  rw [if_pos trivial, if_pos (by decide), if_pos (by decide), if_pos (by kernel_rfl), if_pos (by decide), if_pos (by kernel_rfl), cost_f _ (by decide) (by decide) k (by omega)]
  kernel_rfl
end Go.Proofs.YtabhfloclcmjnaaDoor.X
namespace Go.Proofs.YtabhfloclcmjnaaDoor.X
open Go Go.RowKit Go.Shelf Go.Proofs.YtabhfloclcmjnaaDoorW.PrintWords Go.Proofs.YtabhfloclcmjnaaDoor.P
set_option linter.unusedVariables false
theorem rd93_get (l : List S93) (i : Nat) (h : i < l.length) : rd_T93 l (i : Int) = l[i] := by
  unfold rd_T93
  rw [Int.toNat_natCast, List.getD_eq_getElem?_getD, List.getElem?_eq_getElem h]
  rfl
def to40 (x : S93) : S40 := ⟨x.f0, x.f1⟩
theorem rask_l1 (l : List S93) (hl : l.length ≤ 60) (hx : ∀ x ∈ l, x.f1.size ≤ 400) : ∀ d i (v : Int), i + d = l.length → Ev (fun k => foolscapref32_asked.l1 k l v (i : Int)) (if (l.drop i).all (fun x => decide (0 ≤ lenU x.f1)) = true then v else 2)
  | 0, i, v, hi => ⟨1, fun k hk => by
      obtain ⟨k, rfl⟩ : ∃ x, k = x + 1 := ⟨k - 1, by omega⟩
      dsimp only
      rw [foolscapref32_asked.l1, if_neg (by omega), List.drop_of_length_le (by omega)]
      rfl⟩
  | d + 1, i, v, hi => by
      have hlt : i < l.length := by omega
      have hw : wrap64 ((i : Int) + 1) = ((i + 1 : Nat) : Int) := by rw [w64d (by omega) (by omega)]; omega
      obtain ⟨K1, hK1⟩ := len_ev l[i].f1 (Nat.le_trans (hx _ (List.getElem_mem hlt)) (by decide))
      have hall : ((l.drop i).all fun x => decide (0 ≤ lenU x.f1)) = (decide (0 ≤ lenU l[i].f1) && (l.drop (i + 1)).all fun x => decide (0 ≤ lenU x.f1)) := by rw [List.drop_eq_getElem_cons hlt, List.all_cons]
      by_cases c : 0 ≤ lenU l[i].f1
      · obtain ⟨K2, hK2⟩ := rask_l1 l hl hx d (i + 1) v (by omega)
        rw [hall, decide_eq_true c, Bool.true_and]
        refine ⟨K1 + K2 + 1, fun k hk => ?_⟩
        obtain ⟨k, rfl⟩ : ∃ x, k = x + 1 := ⟨k - 1, by omega⟩
        have g1 := hK1 k (by omega)
        have g2 := hK2 k (by omega)
        dsimp only at g1 g2 ⊢
        rw [foolscapref32_asked.l1, if_pos (by omega), if_pos (by omega), rd93_get l i hlt, g1, Option.bind_some, if_neg (Int.not_lt.2 c), hw]
        exact g2
      · obtain ⟨K2, hK2⟩ := rask_l1 l hl hx d (i + 1) 2 (by omega)
        rw [ite_self] at hK2
        rw [hall, decide_eq_false c, Bool.false_and]
        refine ⟨K1 + K2 + 1, fun k hk => ?_⟩
        obtain ⟨k, rfl⟩ : ∃ x, k = x + 1 := ⟨k - 1, by omega⟩
        have g1 := hK1 k (by omega)
        have g2 := hK2 k (by omega)
        dsimp only at g1 g2 ⊢
        rw [foolscapref32_asked.l1, if_pos (by omega), if_pos (by omega), rd93_get l i hlt, g1, Option.bind_some, if_pos (Int.not_le.1 c), hw]
        exact g2
theorem rask_l0 (l : List S93) (hl : l.length ≤ 60) (hx : ∀ x ∈ l, x.f1.size ≤ 400) : ∀ d i (v : Int), i + d = l.length → Ev (fun k => foolscapref32_asked.l0 k l v (i : Int)) (if l.all (fun x => decide (0 ≤ lenU x.f1)) = true then (if (l.drop i).all (fun x => partOk (to40 x)) = true then v else 1) else 2)
  | 0, i, v, hi => by
      obtain ⟨K, hK⟩ := rask_l1 l hl hx l.length 0 v (by omega)
      refine ⟨K + 1, fun k hk => ?_⟩
      obtain ⟨k, rfl⟩ : ∃ x, k = x + 1 := ⟨k - 1, by omega⟩
      have g := hK k (by omega)
      dsimp only at g ⊢
      rw [foolscapref32_asked.l0, if_neg (by omega), List.drop_of_length_le (by omega)]
      exact g
  | d + 1, i, v, hi => by
      have hlt : i < l.length := by omega
      have hw : wrap64 ((i : Int) + 1) = ((i + 1 : Nat) : Int) := by rw [w64d (by omega) (by omega)]; omega
      have hall : ((l.drop i).all fun x => partOk (to40 x)) = (partOk (to40 l[i]) && (l.drop (i + 1)).all fun x => partOk (to40 x)) := by rw [List.drop_eq_getElem_cons hlt, List.all_cons]
      rw [hall]
      clear hall
      obtain ⟨K2, hK2⟩ := rask_l0 l hl hx d (i + 1) v (by omega)
      obtain ⟨K3, hK3⟩ := rask_l0 l hl hx d (i + 1) 1 (by omega)
      simp only [ite_self] at hK3
      refine ⟨K2 + K3 + 1, fun k hk => ?_⟩
      obtain ⟨k, rfl⟩ : ∃ x, k = x + 1 := ⟨k - 1, by omega⟩
      have g2 := hK2 k (by omega)
      have g3 := hK3 k (by omega)
      dsimp only at g2 g3 ⊢
      have hd : ∀ h : ¬ (0 ≤ l[i].f0 ∧ l[i].f0 ≤ 2 ∧ l[i].f1.toList ≠ []), partOk (to40 l[i]) = false := fun h => decide_eq_false h
      rw [foolscapref32_asked.l0, if_pos (by omega), if_pos (by omega), rd93_get l i hlt, hw]
      by_cases c1 : l[i].f0 < 0
      · rw [if_pos c1, hd (fun h => by omega), Bool.false_and]
        exact g3
      · rw [if_neg c1]
        by_cases c2 : l[i].f0 > 2
        · rw [if_pos c2, hd (fun h => by omega), Bool.false_and]
          exact g3
        · rw [if_neg c2]
          by_cases c3 : l[i].f1.toList = []
          · rw [if_pos c3, hd (fun h => h.2.2 c3), Bool.false_and]
            exact g3
          · rw [if_neg c3, show partOk (to40 l[i]) = true from decide_eq_true ⟨by show 0 ≤ l[i].f0; omega, by show l[i].f0 ≤ 2; omega, c3⟩, Bool.true_and]
            exact g2
theorem rask_ev (l : List S93) (hl : l.length ≤ 60) (hx : ∀ x ∈ l, x.f1.size ≤ 400) : Ev (fun k => foolscapref32_asked.f k l) (askR (l.map to40)) := by
  obtain ⟨K, hK⟩ := rask_l0 l hl hx l.length 0 0 (by omega)
  refine ⟨K, fun k hk => ?_⟩
  have g := hK k hk
  dsimp only at g ⊢
  unfold foolscapref32_asked.f askR
  rw [List.all_map, List.all_map]
  exact g
end Go.Proofs.YtabhfloclcmjnaaDoor.X
