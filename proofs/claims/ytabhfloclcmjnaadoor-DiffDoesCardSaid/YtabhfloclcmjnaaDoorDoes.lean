/-
  What the document's Do tells, and the law DiffDoes, in plain Lean: by this session. Conditions: as typed.
-/
import Derived.Test.YtabhfloclcmjnaaDoorDoQ
import Derived.Test.YtabhfloclcmjnaaDoorDifC
import Derived.Test.YtabhfloclcmjnaaDoorOpenR
import Derived.Test.YtabhfloclcmjnaaDoorPx16
import Derived.Test.YtabhfloclcmjnaaDoorPx15
import Derived.Test.YtabhfloclcmjnaaDoorPx17
namespace Go.Proofs.YtabhfloclcmjnaaDoor.X
open Go Go.RowKit Go.Shelf Go.Proofs.YtabhfloclcmjnaaDoorW.PrintWords Go.Proofs.YtabhfloclcmjnaaDoor.P
set_option linter.unusedVariables false
theorem rd45_get (l : List S45) (i : Nat) (h : i < l.length) : rd_T45 l (i : Int) = l[i] := by
  unfold rd_T45
  rw [Int.toNat_natCast, List.getD_eq_getElem?_getD, List.getElem?_eq_getElem h]
  rfl
def tri45 (x : S45) : Chg := (x.f0, x.f1, x.f2)
def to46 (x : S45) : S46 := ⟨x.f0, x.f1, x.f2⟩
theorem app_assoc' (a b c : ByteArray) : a ++ b ++ c = a ++ (b ++ c) := by
  apply ByteArray.ext
  simp
theorem cut_ev2 (s : ByteArray) (hs : s.size ≤ 100000) (i n : Int) : Ev (fun k => foolscapref01_Cut.f k s i n) (cutOf s i n) := by
  obtain ⟨K, hK⟩ := split_ev s (by omega)
  cases ht : textOf s with
  | none =>
    refine ⟨K, fun k hk => ?_⟩
    have e := hK k hk
    unfold foolscapref01_Cut.f
    dsimp only at e ⊢
    rw [e, ht, cutOf_none ht]
    rfl
  | some l =>
    have hll := text_len ht
    have har := (text_str ht).2
    by_cases hr : i < 0 ∨ (l.length : Int) < i ∨ n < 0 ∨ (l.length : Int) - i < n
    · refine ⟨K, fun k hk => ?_⟩
      rw [cutOf_range ht hr]
      have e := hK k hk
      unfold foolscapref01_Cut.f
      dsimp only at e ⊢
      rw [e, ht, Option.bind_some]
      simp only [if_true]
      by_cases c1 : i < 0
      · rw [if_pos c1]
      · rw [if_neg c1]
        by_cases c2 : i > (l.length : Int)
        · rw [if_pos c2]
        · rw [if_neg c2]
          by_cases c3 : n < 0
          · rw [if_pos c3]
          · rw [if_neg c3, if_pos (by unfold wrap64; omega)]
    · obtain ⟨K2, hK2⟩ := join_ev ((l.take (i + n).toNat).drop i.toNat) (by simp; omega)
      refine ⟨max K K2, fun k hk => ?_⟩
      rw [cutOf_ok ht hr]
      have e := hK k (by omega)
      have e2 := hK2 k (by omega)
      unfold foolscapref01_Cut.f
      dsimp only at e e2 ⊢
      rw [e, ht, Option.bind_some]
      simp only [if_true]
      have hw : wrap64 (i + n) = i + n := by unfold wrap64; omega
      rw [if_neg (by omega), if_neg (by omega), if_neg (by omega), if_neg (by unfold wrap64; omega), hw, if_pos (by omega), if_pos (by omega), if_pos (by omega), e2]
      rw [if_pos (allRunes_drop (allRunes_take har _) _), Option.bind_some, List.drop_take, show (i + n).toNat - i.toNat = n.toNat by omega]
theorem ref_l1 (l : List S45) (hx : ∀ x ∈ l, x.f2.size ≤ 400 ∧ 0 ≤ lenU x.f2) (hl : l.length ≤ 30) : ∀ d i (r : List Int), i + d = l.length → r.length ≤ 400 + 400 * i → allRunes r = true →
    Ev (fun k => foolscapref32_Do.l1 k (strOf r) l (i : Int)) (match runD r ((l.drop i).map tri45) with | some r' => (strOf r', 0) | none => (⟨#[]⟩, 3))
  | 0, i, r, hi, hr, ha => by
    refine ⟨1, fun k hk => ?_⟩
    obtain ⟨k, rfl⟩ : ∃ x, k = x + 1 := ⟨k - 1, by omega⟩
    dsimp only
    rw [foolscapref32_Do.l1, if_neg (by omega), List.drop_of_length_le (by omega)]
    rfl
  | d + 1, i, r, hi, hr, ha => by
    have hlt : i < l.length := by omega
    have hrl : r.length ≤ 12400 := by omega
    obtain ⟨hsz, hlu⟩ := hx l[i] (List.getElem_mem hlt)
    have hw : wrap64 ((i : Int) + 1) = ((i + 1 : Nat) : Int) := by rw [w64d (by omega) (by omega)]; omega
    have hg : rd_T45 l (i : Int) = l[i] := rd45_get l i hlt
    rw [List.drop_eq_getElem_cons hlt]
    simp only [List.map_cons, runD]
    obtain ⟨⟨f, n, t⟩, hp⟩ : ∃ p, l[i] = p := ⟨_, rfl⟩
    rw [hp] at hsz hlu hg ⊢
    simp only at hsz hlu
    obtain ⟨u, hu⟩ := textOf_of_len hlu
    clear hlu
    have hsr : (strOf r).size ≤ 100000 := Nat.le_trans (strOf_le r) (Nat.le_trans (Nat.mul_le_mul_left 4 hrl) (by decide))
    obtain ⟨K1, hK1⟩ := len_ev (strOf r) (Nat.le_trans hsr (by decide))
    rw [lenU_of_some (textOf_str ha)] at hK1
    by_cases hok : chgOk r (tri45 ⟨f, n, t⟩)
    · rw [if_pos hok]
      have hcl : (chg r (tri45 ⟨f, n, t⟩)).length ≤ r.length + t.size := chg_len hok
      obtain ⟨h1, h2, h3, h4⟩ : 0 ≤ f ∧ f ≤ (r.length : Int) ∧ 0 ≤ n ∧ n ≤ (r.length : Int) - f := hok
      have hc1 := cut_ev2 (strOf r) hsr 0 f
      have hc2 := cut_ev2 (strOf r) hsr (f + n) ((r.length : Int) - f - n)
      clear hsr
      rw [cutOf_ok (textOf_str ha) (by omega)] at hc1
      rw [cutOf_ok (textOf_str ha) (by omega)] at hc2
      obtain ⟨K4, hK4⟩ := ref_l1 l hx hl d (i + 1) (chg r (tri45 ⟨f, n, t⟩)) (by omega) (by omega) (chg_runes ha _)
      clear hcl
      have hdr : (r.drop (f + n).toNat).take ((r.length : Int) - f - n).toNat = r.drop (f + n).toNat := List.take_of_length_le (by rw [List.length_drop]; omega)
      have hstr : strOf (chg r (tri45 ⟨f, n, t⟩)) = (strOf ((r.drop (0 : Int).toNat).take f.toNat) ++ t) ++ strOf ((r.drop (f + n).toNat).take ((r.length : Int) - f - n).toNat) := by
        unfold chg
        rw [strOf_append, strOf_append, hdr]
        simp only [tri45]
        rw [hu, Option.getD_some, ← (text_str hu).1, app_assoc']
        rfl
      have hA : (strOf ((r.drop (0 : Int).toNat).take f.toNat)).size ≤ 100000 := Nat.le_trans (strOf_le _) (by rw [List.length_take, List.length_drop]; omega)
      have hB : (strOf ((r.drop (f + n).toNat).take ((r.length : Int) - f - n).toNat)).size ≤ 100000 := Nat.le_trans (strOf_le _) (by rw [List.length_take, List.length_drop]; omega)
      obtain ⟨sA, eA⟩ : ∃ s, strOf ((r.drop (0 : Int).toNat).take f.toNat) = s := ⟨_, rfl⟩
      obtain ⟨sB, eB⟩ : ∃ s, strOf ((r.drop (f + n).toNat).take ((r.length : Int) - f - n).toNat) = s := ⟨_, rfl⟩
      rw [eA] at hA hc1 hstr
      rw [eB] at hB hc2 hstr
      obtain ⟨K2, hK2⟩ := hc1
      obtain ⟨K3, hK3⟩ := hc2
      refine ⟨K1 + K2 + K3 + K4 + 2, fun k hk => ?_⟩
      obtain ⟨k, rfl⟩ : ∃ x, k = x + 1 + 1 := ⟨k - 2, by omega⟩
      have g1 := hK1 (k + 1) (by omega)
      have g2 := hK2 k (by omega)
      have g3 := hK3 k (by omega)
      have g4 := hK4 k (by omega)
      dsimp only at g1 g2 g3 g4 ⊢
      have wA : wrap64 ((r.length : Int) - f) = (r.length : Int) - f := w64d (by omega) (by omega)
      have wB : wrap64 (f + n) = f + n := w64d (by omega) (by omega)
      have wC : wrap64 ((r.length : Int) - f - n) = (r.length : Int) - f - n := w64d (by omega) (by omega)
      rw [foolscapref32_Do.l1, if_pos (by omega), g1, Option.bind_some, if_pos (by omega), hg]
      simp only
      rw [if_neg (by omega), if_neg (by omega), if_neg (by omega), wA, decide_eq_false (show ¬ n > (r.length : Int) - f by omega), foolscapref32_Do.j2, if_neg (by simp), if_pos (by omega), if_pos (by omega), hg]
      simp only
      rw [g2, Option.bind_some, wA, wB, wC, g3, Option.bind_some]
      simp only
      rw [if_pos (by omega), if_pos (by rw [ByteArray.size_append]; omega), hw, ← hstr]
      exact g4
    · rw [if_neg hok]
      have hno : ¬ (0 ≤ f ∧ f ≤ (r.length : Int) ∧ 0 ≤ n ∧ n ≤ (r.length : Int) - f) := hok
      show Ev _ ((⟨#[]⟩ : ByteArray), (3 : Int))
      refine ⟨K1 + 3, fun k hk => ?_⟩
      obtain ⟨k, rfl⟩ : ∃ x, k = x + 1 + 1 := ⟨k - 2, by omega⟩
      have g1 := hK1 (k + 1) (by omega)
      clear hsr
      dsimp only at g1 ⊢
      rw [foolscapref32_Do.l1, if_pos (by omega), g1, Option.bind_some, if_pos (by omega), hg]
      simp only
      by_cases c1 : f < 0
      · rw [if_pos c1, foolscapref32_Do.j2, if_pos rfl]
      · rw [if_neg c1]
        by_cases c2 : f > (r.length : Int)
        · rw [if_pos c2, foolscapref32_Do.j2, if_pos rfl]
        · rw [if_neg c2]
          by_cases c3 : n < 0
          · rw [if_pos c3, foolscapref32_Do.j2, if_pos rfl]
          · have wA : wrap64 ((r.length : Int) - f) = (r.length : Int) - f := w64d (by omega) (by omega)
            rw [if_neg c3, wA, decide_eq_true (show n > (r.length : Int) - f by omega), foolscapref32_Do.j2, if_pos rfl]
theorem ref_l0f (a : ByteArray) (l : List S45) (hl : l.length ≤ 30) : ∀ d i, i + d = l.length → ∀ k, d + 1 ≤ k → foolscapref32_Do.l0 k a l false (i : Int) = some (⟨#[]⟩, 2)
  | 0, i, hi, k, hk => by
    obtain ⟨k, rfl⟩ : ∃ x, k = x + 1 := ⟨k - 1, by omega⟩
    rw [foolscapref32_Do.l0, if_neg (by omega), if_neg (by simp)]
  | d + 1, i, hi, k, hk => by
    obtain ⟨k, rfl⟩ : ∃ x, k = x + 1 := ⟨k - 1, by omega⟩
    have hw : wrap64 ((i : Int) + 1) = ((i + 1 : Nat) : Int) := by rw [w64d (by omega) (by omega)]; omega
    rw [foolscapref32_Do.l0, if_pos (by omega), if_neg (by simp), hw]
    exact ref_l0f a l hl d (i + 1) (by omega) k (by omega)
theorem allText_iff (l : List S45) : allText (l.map tri45) = true ↔ ∀ x ∈ l, 0 ≤ lenU x.f2 := by
  unfold allText
  rw [List.all_eq_true]
  constructor
  · intro h x hx
    exact of_decide_eq_true (h (tri45 x) (List.mem_map.2 ⟨x, hx, rfl⟩))
  · intro h y hy
    obtain ⟨x, hx, rfl⟩ := List.mem_map.1 hy
    exact decide_eq_true (h x hx)
theorem ref_l0t (a : ByteArray) (l : List S45) (hx : ∀ x ∈ l, x.f2.size ≤ 400) (hl : l.length ≤ 30) (V : ByteArray × Int) (hV : (∀ x ∈ l, 0 ≤ lenU x.f2) → Ev (fun k => foolscapref32_Do.l1 k a l 0) V) : ∀ d i, i + d = l.length → (∀ x ∈ l.take i, 0 ≤ lenU x.f2) →
    Ev (fun k => foolscapref32_Do.l0 k a l true (i : Int)) (if allText (l.map tri45) = true then V else (⟨#[]⟩, 2))
  | 0, i, hi, hv => by
    rw [List.take_of_length_le (by omega)] at hv
    obtain ⟨K, hK⟩ := hV hv
    rw [if_pos ((allText_iff l).2 hv)]
    refine ⟨K + 1, fun k hk => ?_⟩
    obtain ⟨k, rfl⟩ : ∃ x, k = x + 1 := ⟨k - 1, by omega⟩
    dsimp only
    rw [foolscapref32_Do.l0, if_neg (by omega), if_pos rfl]
    exact hK k (by omega)
  | d + 1, i, hi, hv => by
    have hlt : i < l.length := by omega
    have hw : wrap64 ((i : Int) + 1) = ((i + 1 : Nat) : Int) := by rw [w64d (by omega) (by omega)]; omega
    have hm := List.getElem_mem hlt
    obtain ⟨K1, hK1⟩ := len_ev l[i].f2 (Nat.le_trans (hx _ hm) (by decide))
    by_cases c : 0 ≤ lenU l[i].f2
    · obtain ⟨K2, hK2⟩ := ref_l0t a l hx hl V hV d (i + 1) (by omega) (fun x h => by
        rw [List.take_succ_eq_append_getElem hlt] at h
        rcases List.mem_append.1 h with h | h
        · exact hv x h
        · rw [List.mem_singleton.1 h]; exact c)
      have c2 := decide_eq_true (show lenU l[i].f2 ≥ 0 from c)
      clear c
      refine ⟨K1 + K2 + 1, fun k hk => ?_⟩
      obtain ⟨k, rfl⟩ : ∃ x, k = x + 1 := ⟨k - 1, by omega⟩
      have g1 := hK1 k (by omega)
      have g2 := hK2 k (by omega)
      dsimp only at g1 g2 ⊢
      rw [foolscapref32_Do.l0, if_pos (by omega), if_pos rfl, if_pos (by omega), rd45_get l i hlt, g1, Option.bind_some, c2, hw]
      exact g2
    · rw [if_neg (fun h => c ((allText_iff l).1 h _ hm))]
      have c2 := decide_eq_false (show ¬ lenU l[i].f2 ≥ 0 from c)
      clear c
      refine ⟨K1 + 40, fun k hk => ?_⟩
      obtain ⟨k, rfl⟩ : ∃ x, k = x + 1 := ⟨k - 1, by omega⟩
      have g1 := hK1 k (by omega)
      dsimp only at g1 ⊢
      rw [foolscapref32_Do.l0, if_pos (by omega), if_pos rfl, if_pos (by omega), rd45_get l i hlt, g1, Option.bind_some, c2, hw]
      exact ref_l0f a l hl d (i + 1) (by omega) k (by omega)
theorem ref_do (a : ByteArray) (l : List S45) (hs : a.size ≤ 400) (hx : ∀ x ∈ l, x.f2.size ≤ 400) (hl : l.length ≤ 30) : Ev (fun k => foolscapref32_Do.f k a l) (doR a (l.map tri45)) := by
  obtain ⟨K1, hK1⟩ := len_ev a (by omega)
  unfold doR
  cases ht : textOf a with
  | none =>
    rw [lenU_of_none ht] at hK1
    refine ⟨K1 + 40, fun k hk => ?_⟩
    have g1 := hK1 k (by omega)
    dsimp only at g1 ⊢
    unfold foolscapref32_Do.f
    rw [g1, Option.bind_some]
    exact ref_l0f a l hl l.length 0 (by omega) k (by omega)
  | some r =>
    have hll := text_len ht
    obtain ⟨ea, ra⟩ := text_str ht
    rw [lenU_of_some ht] at hK1
    obtain ⟨K2, hK2⟩ := ref_l0t a l hx hl (match runD r (l.map tri45) with | some r' => (strOf r', 0) | none => (⟨#[]⟩, 3)) (fun hv => by
      rw [ea]
      exact ref_l1 l (fun x h => ⟨hx x h, hv x h⟩) hl l.length 0 r (by omega) (by omega) ra) l.length 0 (by omega) (by simp)
    refine ⟨K1 + K2, fun k hk => ?_⟩
    have g1 := hK1 k (by omega)
    have g2 := hK2 k (by omega)
    dsimp only at g1 g2 ⊢
    unfold foolscapref32_Do.f
    rw [g1, Option.bind_some, decide_eq_true (show (r.length : Int) ≥ 0 by omega)]
    exact g2
theorem does_l0 (a : ByteArray) (l : List S45) (hl : l.length ≤ 30) (K : Nat) (hEnd : (∀ x ∈ l, x.f2.size ≤ 400) → ∀ k, K ≤ k → foolscaplaw32_DiffDoes.l0 k a l (l.map to46) (l.length : Int) = some true) : ∀ d i, i + d = l.length → ∀ k, K + d ≤ k → (∀ x ∈ l.take i, x.f2.size ≤ 400) →
    foolscaplaw32_DiffDoes.l0 k a l ((l.take i).map to46) (i : Int) = some true
  | 0, i, hi, k, hk, hv => by
    have e : i = l.length := by omega
    subst e
    rw [List.take_length] at hv ⊢
    exact hEnd hv k (by omega)
  | d + 1, i, hi, k, hk, hv => by
    obtain ⟨k, rfl⟩ : ∃ x, k = x + 1 := ⟨k - 1, by omega⟩
    have hlt : i < l.length := by omega
    have hw : wrap64 ((i : Int) + 1) = ((i + 1 : Nat) : Int) := by rw [w64d (by omega) (by omega)]; omega
    rw [foolscaplaw32_DiffDoes.l0, if_pos (by omega), if_pos (by omega), rd45_get l i hlt]
    by_cases c : ((l[i]).f2.size : Int) > 400
    · rw [if_pos c]
    · rw [if_neg c, if_pos (by rw [List.length_map, List.length_take]; omega), hw]
      have h := does_l0 a l hl K hEnd d (i + 1) (by omega) k (by omega) (fun x hx => by
        rw [List.take_succ_eq_append_getElem hlt] at hx
        rcases List.mem_append.1 hx with h | h
        · exact hv x h
        · rw [List.mem_singleton.1 h]; omega)
      rw [List.take_succ_eq_append_getElem hlt, List.map_append] at h
      exact h
theorem does_ev (a : ByteArray) (l : List S45) : ∃ k, foolscaplaw32_DiffDoes.f k a l = some true := by
  by_cases h1 : (a.size : Int) > 400
  · refine ⟨200000 + 1, ?_⟩
    unfold foolscaplaw32_DiffDoes.f
    rw [alive_at (200000 + 1) (by omega), Option.bind_some, if_pos rfl, if_pos h1, foolscaplaw32_DiffDoes.j0, if_pos rfl]
  by_cases h2 : (l.length : Int) > 30
  · refine ⟨200000 + 1, ?_⟩
    unfold foolscaplaw32_DiffDoes.f
    rw [alive_at (200000 + 1) (by omega), Option.bind_some, if_pos rfl, if_neg h1, decide_eq_true h2, foolscaplaw32_DiffDoes.j0, if_pos rfl]
  have hl : l.length ≤ 30 := by omega
  obtain ⟨K, hEnd⟩ : ∃ K, (∀ x ∈ l, x.f2.size ≤ 400) → ∀ k, K ≤ k → foolscaplaw32_DiffDoes.l0 k a l (l.map to46) (l.length : Int) = some true := by
    by_cases hsm : ∀ x ∈ l, x.f2.size ≤ 400
    · obtain ⟨K, hK⟩ := ref_do a l (by omega) hsm hl
      refine ⟨K + 30011, fun _ k hk => ?_⟩
      obtain ⟨k, rfl⟩ : ∃ x, k = x + 1 := ⟨k - 1, by omega⟩
      have g1 := hK k (by omega)
      have g2 := do_f a (l.map to46) (by omega) (fun x hx => by
        obtain ⟨y, hy, rfl⟩ := List.mem_map.1 hx
        have := hsm y hy
        show y.f2.size ≤ _
        omega) (by rw [List.length_map]; omega) k (by omega)
      rw [List.map_map, show tri46 ∘ to46 = tri45 from rfl] at g2
      dsimp only at g1
      rw [foolscaplaw32_DiffDoes.l0, if_neg (by omega), g2, Option.bind_some, g1, Option.bind_some, if_pos rfl, beq_self_eq_true]
    · exact ⟨0, fun h => absurd h hsm⟩
  refine ⟨K + 200040 + 1, ?_⟩
  unfold foolscaplaw32_DiffDoes.f
  rw [alive_at _ (by omega), Option.bind_some, if_pos rfl, if_neg h1, decide_eq_false h2, foolscaplaw32_DiffDoes.j0, if_neg (by simp)]
  exact does_l0 a l hl K hEnd l.length 0 (by omega) _ (by omega) (by simp)
theorem does_true (a0 : ByteArray) (A1 : Option Addr) (len1 cap1 : Nat) (l1 : List S45) (W : World) (hT : Aside0 (XAmb W)) (w1 : l1.length = len1 ∧ len1 ≤ cap1 ∧ Kd.C k45 W A1 l1.length l1) :
    Calls Tryd.prog 7 #[.string a0, .slice A1 len1 cap1] W fun e w' => e = .returned (.bool true) ∧ Below W.heap.size W w' := by
  obtain ⟨rfl, hc, hC⟩ := w1
  obtain ⟨k, hk⟩ := does_ev a0 l1
  exact foolscaplaw32_DiffDoes.calls k a0 A1 cap1 l1 true W hT hC hc hk
end Go.Proofs.YtabhfloclcmjnaaDoor.X
