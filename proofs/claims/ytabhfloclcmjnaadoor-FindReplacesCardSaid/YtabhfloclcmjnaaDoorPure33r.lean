/-
  The law FindReplaces as a plain statement: by this session. Conditions: as typed.
-/
import Derived.Test.YtabhfloclcmjnaaDoorRepl
import Derived.Test.YtabhfloclcmjnaaDoorDoP
import Derived.Test.YtabhfloclcmjnaaDoorPx12
namespace Go.Proofs.YtabhfloclcmjnaaDoor.Pure
open Go Go.RowKit Go.Proofs.YtabhfloclcmjnaaDoorW.PrintWords Go.Proofs.YtabhfloclcmjnaaDoor.P Go.Proofs.YtabhfloclcmjnaaDoor.X
set_option linter.unusedVariables false
theorem scan_ge (s : Nat → Bool) (m : Nat) : ∀ f a e q, q ∈ scan s m f a e → a ≤ q
  | 0, a, e, q, h => by simp [scan] at h
  | f + 1, a, e, q, h => by
    simp only [scan] at h
    split at h
    · rcases List.mem_cons.1 h with rfl | h
      · exact Nat.le_refl _
      · have := scan_ge s m f _ _ q h; omega
    · have := scan_ge s m f _ _ q h; omega
/-- Places, one behind the other, sharing none. -/
def Good (m n : Nat) : Nat → List Nat → Prop
  | i, [] => True
  | i, q :: Q => i ≤ q ∧ q + m ≤ n ∧ Good m n (q + m) Q
theorem good_scan {l p : List Int} (hp : p ≠ []) : ∀ d i, l.length ≤ i + d → Good p.length l.length i (scan (st l p) p.length (l.length - i) i i)
  | 0, i, hd => by rw [show l.length - i = 0 by omega]; trivial
  | d + 1, i, hd => by
    have hm := List.length_pos_iff.2 hp
    by_cases hi : i < l.length
    · cases hs : st l p i with
      | true =>
        rw [scan_hit hm hi hs]
        have hfar : ¬ l.length < i + p.length := fun h => by rw [st_far hp h] at hs; cases hs
        exact ⟨Nat.le_refl _, by omega, good_scan (l := l) hp d (i + p.length) (by omega)⟩
      | false =>
        rw [scan_miss hi hs]
        have h := good_scan (l := l) hp d (i + 1) (by omega)
        cases hq : scan (st l p) p.length (l.length - (i + 1)) (i + 1) (i + 1) with
        | nil => trivial
        | cons q Q => rw [hq] at h; exact ⟨by have := h.1; omega, h.2⟩
    · rw [show l.length - i = 0 by omega]; trivial
/-- The text with each place replaced. -/
def joinR (l b : List Int) (m : Nat) : Nat → List Nat → List Int
  | i, [] => l.drop i
  | i, q :: Q => (l.drop i).take (q - i) ++ (b ++ joinR l b m (q + m) Q)
theorem joinR_step {l b : List Int} {m i : Nat} (hi : i < l.length) {Q : List Nat} (hQ : ∀ q ∈ Q, i + 1 ≤ q) : joinR l b m i Q = l[i] :: joinR l b m (i + 1) Q := by
  cases Q with
  | nil => simp only [joinR]; exact List.drop_eq_getElem_cons hi
  | cons q Q =>
    have := hQ q (List.mem_cons_self ..)
    simp only [joinR]
    rw [List.drop_eq_getElem_cons hi, show q - i = (q - (i + 1)) + 1 by omega, List.take_succ_cons]
    rfl
theorem joinR_len {l b : List Int} {m : Nat} : ∀ (Q : List Nat) (i : Nat), i ≤ l.length → Good m l.length i Q → (joinR l b m i Q).length + m * Q.length = (l.length - i) + b.length * Q.length
  | [], i, hi, h => by simp [joinR]
  | q :: Q, i, hi, h => by
    obtain ⟨h1, h2, h3⟩ := h
    have ih := joinR_len (b := b) Q (q + m) h2 h3
    simp only [joinR, List.length_append, List.length_take, List.length_drop, List.length_cons, Nat.mul_add, Nat.mul_one]
    omega
theorem joinR_runes {l b : List Int} (hl : allRunes l = true) (hb : allRunes b = true) (m : Nat) : ∀ (Q : List Nat) (i : Nat), allRunes (joinR l b m i Q) = true
  | [], i => allRunes_drop hl i
  | q :: Q, i => by
    simp only [joinR]
    rw [allRunes_append, allRunes_append, hb, joinR_runes hl hb m Q, allRunes_take (allRunes_drop hl i)]
    rfl
/-- The changes, from the last on. -/
def chs (m : Nat) (tb : ByteArray) (Q : List Nat) : List Chg := (Q.map fun (q : Nat) => (((q : Int), (m : Int), tb) : Chg)).reverse
theorem runD_append (r : List Int) (x : Chg) : ∀ (L : List Chg) (r : List Int), runD r (L ++ [x]) = (runD r L).bind fun r' => runD r' [x]
  | [], r => by simp [runD]
  | y :: L, r => by
    simp only [List.cons_append, runD]
    split
    · exact runD_append r x L _
    · rfl
theorem run_chs {l b : List Int} {m : Nat} {tb : ByteArray} (hb : textOf tb = some b) : ∀ (Q : List Nat) (i : Nat), i ≤ l.length → Good m l.length i Q → runD l (chs m tb Q) = some (l.take i ++ joinR l b m i Q)
  | [], i, hi, h => by simp [chs, runD, joinR]
  | q :: Q, i, hi, h => by
    obtain ⟨h1, h2, h3⟩ := h
    have ih := run_chs hb Q (q + m) h2 h3
    have e : chs m tb (q :: Q) = chs m tb Q ++ [((q : Int), (m : Int), tb)] := by simp [chs]
    rw [e, runD_append l, ih, Option.bind_some]
    have hl2 : (l.take (q + m)).length = q + m := by rw [List.length_take]; omega
    simp only [runD]
    rw [if_pos ⟨by simp, by simp only [List.length_append, hl2]; omega, by simp, by simp only [List.length_append, hl2]; omega⟩]
    congr 1
    simp only [chg, hb, Option.getD_some, joinR]
    rw [show ((q : Int) + (m : Int)).toNat = q + m by omega, Int.toNat_natCast, List.take_append_of_le_length (by omega), List.take_take, Nat.min_eq_left (by omega), List.drop_append_of_le_length (by omega), List.drop_of_length_le (by omega), List.nil_append, ← List.append_assoc (l.take i)]
    congr 1
    have h5 : l.take q = l.take i ++ (l.drop i).take (q - i) := by
      rw [← List.take_add, show i + (q - i) = q by omega]
    exact h5
theorem bk_snd (xs : List Int) : ∀ n, n ≤ xs.length → (bk xs n).map (·.2) = (xs.take n).reverse
  | 0, _ => rfl
  | n + 1, h => by
    have h1 : n < xs.length := by omega
    simp only [bk, List.map_cons]
    rw [bk_snd xs n (by omega), List.take_succ_eq_append_getElem h1, List.reverse_append, List.getD_eq_getElem?_getD, List.getElem?_eq_getElem h1]
    rfl
theorem repl_tri (Q : List Nat) (m : Nat) (tb : ByteArray) : ((bk (zs Q) Q.length).map (fun x => (⟨x.2, (m : Int), tb⟩ : S46))).map tri46 = chs m tb Q := by
  rw [List.map_map]
  have h := bk_snd (zs Q) Q.length (by rw [zs_length]; exact Nat.le_refl _)
  have h2 := congrArg (List.map fun (x : Int) => ((x, (m : Int), tb) : Chg)) h
  rw [List.map_map] at h2
  refine Eq.trans ?_ (h2.trans ?_)
  · rfl
  · rw [List.take_of_length_le (by rw [zs_length]; exact Nat.le_refl _)]
    simp [zs, chs, List.map_reverse, List.map_map, Function.comp_def]
theorem len_at (s : ByteArray) (hs : s.size ≤ 35184372088831) (k : Nat) (hk : s.size + 12 ≤ k) : foolscapref01_Len.f k s = some (lenU s) := by
  have h := split_ref s hs (k - s.size - 12)
  rw [show k - s.size - 12 + s.size + 12 = k by omega] at h
  unfold foolscapref01_Len.f
  rw [h, Option.bind_some]
  cases ht : textOf s with
  | none => rw [lenU_of_none ht]; rfl
  | some l => rw [lenU_of_some ht]; rfl
theorem strOf_one (r : Int) : strOf [r] = strOfNums (Lib.encodeRuneZ r) := by simp [strOf]
/-- What stands behind the loop. -/
theorem end_f (k : Nat) (s tb : ByteArray) (c : List S46) (l p b : List Int) (Q : List Nat) (hk : 2000000 ≤ k) (hl : l.length ≤ 600) (hbl : b.length ≤ 600) (hm : 0 < p.length)
    (hd : diff_Do.f k s c = some (strOf (joinR l b p.length 0 Q), 0)) (hr : allRunes (joinR l b p.length 0 Q) = true) (hg : Good p.length l.length 0 Q) (hQ : Q.length ≤ 600) (hc : c.length = Q.length) (i : Int) (hi : ¬ i < (l.length : Int)) :
    foolscaplaw33_FindReplaces.l0 (k + 1) s tb c 0 l p (b.length : Int) (strOf (joinR l b p.length 0 Q)) (Q.length : Int) i = some true := by
  rw [foolscaplaw33_FindReplaces.l0, if_neg hi, hd, Option.bind_some, if_pos rfl, if_pos rfl, if_pos rfl, if_pos (by omega)]
  simp only
  have hj := joinR_len (b := b) Q 0 (Nat.zero_le _) hg
  have hbq : b.length * Q.length ≤ 600 * 600 := Nat.mul_le_mul hbl hQ
  have hsz := strOf_le (joinR l b p.length 0 Q)
  rw [len_at _ (by omega) _ (by omega), Option.bind_some, lenU_of_some (textOf_str hr)]
  congr 1
  rw [beq_iff_eq]
  have hpm : p.length * Q.length ≤ 600 * 600 + 600 := by omega
  have hz1 : Q.length = 0 ∨ p.length ≤ 600 * 600 + 600 := by
    rcases Nat.eq_zero_or_pos Q.length with h | h
    · exact .inl h
    · exact .inr (Nat.le_trans (Nat.le_mul_of_pos_right _ h) hpm)
  have hj2 : ((joinR l b p.length 0 Q).length : Int) = (l.length : Int) + (Q.length : Int) * ((b.length : Int) - (p.length : Int)) := by
    rw [Int.mul_sub]
    have h1 : (((joinR l b p.length 0 Q).length + p.length * Q.length : Nat) : Int) = ((l.length - 0 + b.length * Q.length : Nat) : Int) := by rw [hj]
    push_cast at h1
    rw [Int.mul_comm (Q.length : Int) (b.length : Int), Int.mul_comm (Q.length : Int) (p.length : Int)]
    omega
  rw [hj2]
  rcases hz1 with h0 | h0
  · rw [h0]; simp [wrap64]; omega
  · rw [w64 (x := (b.length : Int) - (p.length : Int)) (by omega) (by omega)]
    have hq1 : (Q.length : Int) * ((b.length : Int) - (p.length : Int)) = ((joinR l b p.length 0 Q).length : Int) - (l.length : Int) := by omega
    rw [hq1, w64 (x := ((joinR l b p.length 0 Q).length : Int) - (l.length : Int)) (by omega) (by omega), w64 (by omega) (by omega)]
theorem loop_f (s tb : ByteArray) (c : List S46) (l p b : List Int) (hl : l.length ≤ 600) (hlr : allRunes l = true) (hbl : b.length ≤ 600) (hb : tb = strOf b) (hp : p ≠ []) (hpl : p.length ≤ 600) (J : List Int) (N : Nat)
    (hend : ∀ k i, 2000000 ≤ k → ¬ i < (l.length : Int) → foolscaplaw33_FindReplaces.l0 (k + 1) s tb c 0 l p (b.length : Int) (strOf J) (N : Int) i = some true) :
    ∀ d i k (acc : List Int) (cnt : Nat), l.length ≤ i + d → d + 2000002 ≤ k → acc.length ≤ 600 * i → cnt ≤ i → i ≤ 1200 → acc ++ joinR l b p.length i (scan (st l p) p.length (l.length - i) i i) = J → cnt + (scan (st l p) p.length (l.length - i) i i).length = N →
    foolscaplaw33_FindReplaces.l0 k s tb c 0 l p (b.length : Int) (strOf acc) (cnt : Int) (i : Int) = some true
  | 0, i, k, acc, cnt, hd, hk, ha, hc, hi2, hJ, hN => by
    obtain ⟨k, rfl⟩ : ∃ x, k = x + 1 := ⟨k - 1, by omega⟩
    rw [show l.length - i = 0 by omega] at hJ hN
    simp only [scan, joinR, List.length_nil, Nat.add_zero] at hJ hN
    rw [List.drop_of_length_le (by omega), List.append_nil] at hJ
    subst hJ hN
    exact hend k i (by omega) (by omega)
  | d + 1, i, k, acc, cnt, hd, hk, ha, hc, hi2, hJ, hN => by
    by_cases hi : i < l.length
    · obtain ⟨k, rfl⟩ : ∃ x, k = x + 1 := ⟨k - 1, by omega⟩
      have hm := List.length_pos_iff.2 hp
      have hsz := strOf_le acc
      have hszb := strOf_le b
      rw [foolscaplaw33_FindReplaces.l0, if_pos (by omega), stands_nat l p i k hp (by omega) (by omega) (by omega), Option.bind_some]
      cases hs : st l p i with
      | true =>
        rw [scan_hit hm hi hs] at hJ hN
        rw [if_pos rfl, hb, if_pos (by omega), w64 (by omega) (by omega), w64 (by omega) (by omega), ← strOf_append, show (cnt : Int) + 1 = ((cnt + 1 : Nat) : Int) by omega, show (i : Int) + (p.length : Int) = ((i + p.length : Nat) : Int) by omega]
        rw [← hb]
        have h600 : 600 * (i + 1) ≤ 600 * (i + p.length) := Nat.mul_le_mul_left _ (by omega)
        refine loop_f s tb c l p b hl hlr hbl hb hp hpl J N hend d (i + p.length) k (acc ++ b) (cnt + 1) (by omega) (by omega) (by rw [List.length_append]; omega) (by omega) (by omega) ?_ (by rw [← hN, List.length_cons]; omega)
        rw [← hJ]
        simp only [joinR, Nat.sub_self, List.take_zero, List.nil_append, List.append_assoc]
      | false =>
        rw [scan_miss hi hs] at hJ hN
        have hrd := rd_get l i hi
        have hv : Lib.validRune l[i] = true := List.all_eq_true.1 hlr l[i] (List.getElem_mem hi)
        have hv' : (0 ≤ l[i] ∧ l[i] < 55296) ∨ (57343 < l[i] ∧ l[i] ≤ 1114111) := of_decide_eq_true hv
        have h4 := (Lib.encodeRuneZ_length l[i]).2
        rw [if_neg (by simp), if_pos (by omega), hrd, bytes_f _ (by omega) (by omega) hv, Option.bind_some, if_pos (by rw [strOfNums_size]; omega), ← strOf_one, ← strOf_append, w64 (by omega) (by omega), show (i : Int) + 1 = ((i + 1 : Nat) : Int) by omega]
        refine loop_f s tb c l p b hl hlr hbl hb hp hpl J N hend d (i + 1) k (acc ++ [l[i]]) cnt (by omega) (by omega) (by rw [List.length_append, List.length_singleton]; omega) (by omega) (by omega) ?_ hN
        rw [← hJ, joinR_step hi (fun q hq => scan_ge _ _ _ _ _ q hq), List.append_assoc]
        rfl
    · exact loop_f s tb c l p b hl hlr hbl hb hp hpl J N hend d i k acc cnt (by omega) (by omega) ha hc hi2 hJ hN
theorem FindReplaces : foolscaplaw33_FindReplaces.Pure := by
  intro s t tb hs0 ht0 hb0
  refine ⟨50 + 4000000, ?_⟩
  unfold foolscaplaw33_FindReplaces.f
  rw [alive_ev, Option.bind_some, if_pos rfl]
  obtain ⟨k, hk, hkb⟩ : ∃ k, 50 + 4000000 = k + 2 ∧ 3000000 ≤ k := ⟨4000048, rfl, by omega⟩
  rw [hk]
  by_cases h1 : (s.size : Int) > 600
  · rw [if_pos h1, foolscaplaw33_FindReplaces.j0, if_pos rfl]
  rw [if_neg h1]
  by_cases h2 : (t.size : Int) > 600
  · rw [if_pos h2, foolscaplaw33_FindReplaces.j0, if_pos rfl]
  rw [if_neg h2]
  by_cases h3 : (tb.size : Int) > 600
  · rw [decide_eq_true h3, foolscaplaw33_FindReplaces.j0, if_pos rfl]
  rw [decide_eq_false h3, foolscaplaw33_FindReplaces.j0, if_neg (by simp)]
  have hR : find_Replace.f s t tb = some (replR s t tb) := by
    unfold find_Replace.f
    rw [if_pos ⟨by omega, by omega, by omega⟩]
  rw [hR, Option.bind_some, asked_f s t (by omega) (by omega) _ (by omega), Option.bind_some, len_at tb (by omega) _ (by omega), Option.bind_some]
  by_cases hn : lenU tb < 0
  · rw [if_pos hn, foolscaplaw33_FindReplaces.j1, if_neg (by omega)]
    unfold replR
    rw [if_pos hn, if_pos rfl]
    rfl
  rw [if_neg hn, foolscaplaw33_FindReplaces.j1]
  unfold replR
  rw [if_neg hn]
  obtain ⟨b, hb⟩ := textOf_of_len (s := tb) (by omega)
  rw [lenU_of_some hb]
  cases hs : textOf s with
  | none => unfold askedR; rw [hs]; simp
  | some l =>
    cases ht : textOf t with
    | none => unfold askedR; rw [hs, ht]; simp
    | some p =>
      by_cases hp : p = []
      · unfold askedR; rw [hs, ht]; simp [hp]
      · have hA : askedR s t = (l, p, 0) := by unfold askedR; rw [hs, ht]; simp [hp]
        rw [hA, lenU_of_some ht]
        simp only [if_true]
        have hll := text_le hs
        have hpl := text_le ht
        have hbl := text_le hb
        have hQl : (allR l p).length ≤ l.length := scan_length _ _ _ _ _
        have hg : Good p.length l.length 0 (allR l p) := by
          have h := good_scan (l := l) hp l.length 0 (by omega)
          exact h
        have hjr := joinR_runes (text_str hs).2 (text_str hb).2 p.length (allR l p) 0
        have hmem : ∀ x ∈ (bk (zs (allR l p)) (allR l p).length).map (fun x => (⟨x.2, (p.length : Int), tb⟩ : S46)), x.f2 = tb := by
          intro x hx
          obtain ⟨y, _, rfl⟩ := List.mem_map.1 hx
          rfl
        have hclen : ((bk (zs (allR l p)) (allR l p).length).map (fun x => (⟨x.2, (p.length : Int), tb⟩ : S46))).length = (allR l p).length := by
          have h5 := congrArg List.length (repl_tri (allR l p) p.length tb)
          rw [List.length_map] at h5
          rw [h5]
          simp [chs]
        obtain ⟨c, hc⟩ : ∃ c, (bk (zs (allR l p)) (allR l p).length).map (fun x => (⟨x.2, (p.length : Int), tb⟩ : S46)) = c := ⟨_, rfl⟩
        have htri := repl_tri (allR l p) p.length tb
        rw [hc] at hmem hclen htri ⊢
        have hd : ∀ k, 2000000 ≤ k → diff_Do.f k s c = some (strOf (joinR l b p.length 0 (allR l p)), 0) := by
          intro k hk
          rw [do_f s c (by omega) (fun x hx => by rw [hmem x hx]; omega) (by omega) k (by omega), htri]
          unfold doR
          rw [hs]
          have hall : allText (chs p.length tb (allR l p)) = true := by
            rw [← htri]
            refine List.all_eq_true.2 fun x hx => ?_
            obtain ⟨y, hy, rfl⟩ := List.mem_map.1 hx
            rw [decide_eq_true_eq]
            show 0 ≤ lenU y.f2
            rw [hmem y hy]
            omega
          simp only
          rw [if_pos hall, run_chs hb (allR l p) 0 (Nat.zero_le _) hg]
          rfl
        have h := loop_f s tb c l p b (by omega) (text_str hs).2 (by omega) (text_str hb).1 hp (by omega) (joinR l b p.length 0 (allR l p)) (allR l p).length
          (fun k i hk hi => end_f k s tb c l p b (allR l p) hk (by omega) (by omega) (List.length_pos_iff.2 hp) (hd k hk) hjr hg (by omega) hclen i hi)
          l.length 0 k [] 0 (by omega) (by omega) (by simp) (by omega) (by omega) rfl (by rw [Nat.zero_add]; rfl)
        exact h
end Go.Proofs.YtabhfloclcmjnaaDoor.Pure
