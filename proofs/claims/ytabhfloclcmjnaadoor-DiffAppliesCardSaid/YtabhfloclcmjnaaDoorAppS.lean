/-
  What the document's Apply, Cost and Changes tell, and the loops of the law, in plain Lean: by this session. Conditions: at most 60 parts of at most 400 bytes.
-/
import Derived.Test.YtabhfloclcmjnaaDoorAppR
import Derived.Test.YtabhfloclcmjnaaDoorPx21
import Derived.Test.YtabhfloclcmjnaaDoorPx18
namespace Go.Proofs.YtabhfloclcmjnaaDoor.X
open Go Go.RowKit Go.Shelf Go.Proofs.YtabhfloclcmjnaaDoorW.PrintWords Go.Proofs.YtabhfloclcmjnaaDoor.P
set_option linter.unusedVariables false
theorem rapp_l0 (a : ByteArray) (l : List S93) (hl : l.length ≤ 60) (hx : ∀ x ∈ l, x.f1.size ≤ 400) : ∀ d i k (u v : ByteArray), i + d = l.length → d + 1 ≤ k → u.size ≤ 400 * i → v.size ≤ 400 * i →
    foolscapref32_Apply.l0 k a l u v (i : Int) = some (if u ++ wasB ((l.drop i).map to40) = a then (v ++ nowB ((l.drop i).map to40), 0) else (⟨#[]⟩, 3))
  | 0, i, k, u, v, hi, hk, hu, hv => by
    obtain ⟨k, rfl⟩ : ∃ x, k = x + 1 := ⟨k - 1, by omega⟩
    rw [foolscapref32_Apply.l0, if_neg (by omega), List.drop_of_length_le (by omega)]
    simp only [List.map_nil, wasB, nowB, app_empty]
    by_cases h : u.toList = a.toList
    · rw [if_pos h, if_pos (toList_inj h)]
    · rw [if_neg h, if_neg (fun e => h (by rw [e]))]
  | d + 1, i, k, u, v, hi, hk, hu, hv => by
    obtain ⟨k, rfl⟩ : ∃ x, k = x + 1 := ⟨k - 1, by omega⟩
    have hlt : i < l.length := by omega
    have hsz := hx _ (List.getElem_mem hlt)
    have hw : wrap64 ((i : Int) + 1) = ((i + 1 : Nat) : Int) := by rw [w64d (by omega) (by omega)]; omega
    have ih := rapp_l0 a l hl hx d (i + 1) k
    rw [foolscapref32_Apply.l0, if_pos (by omega), if_pos (by omega), rd93_get l i hlt, hw, List.drop_eq_getElem_cons hlt]
    have ew : wasB ((l[i] :: l.drop (i + 1)).map to40) = if l[i].f0 = 1 then wasB ((l.drop (i + 1)).map to40) else l[i].f1 ++ wasB ((l.drop (i + 1)).map to40) := rfl
    have en : nowB ((l[i] :: l.drop (i + 1)).map to40) = if l[i].f0 = 2 then nowB ((l.drop (i + 1)).map to40) else l[i].f1 ++ nowB ((l.drop (i + 1)).map to40) := rfl
    rw [ew, en]
    clear ew en
    obtain ⟨⟨pk, t⟩, hp⟩ : ∃ p, l[i] = p := ⟨_, rfl⟩
    rw [hp] at hsz ⊢
    dsimp only at hsz ⊢
    have e1 := app_assoc u t (wasB (List.map to40 (List.drop (i + 1) l)))
    have e2 := app_assoc v t (nowB (List.map to40 (List.drop (i + 1) l)))
    by_cases c1 : pk = 1
    · have c2 : ¬ pk = 2 := by omega
      rw [if_pos c1, if_neg c2, if_pos (by omega), ih u (v ++ t) (by omega) (by omega) (by omega) (by rw [ByteArray.size_append]; omega), if_pos c1, if_neg c2, e2]
    · rw [if_neg c1, if_pos (by omega), if_neg c1]
      by_cases c2 : pk = 2
      · rw [if_pos c2, if_pos c2, ih (u ++ t) v (by omega) (by omega) (by rw [ByteArray.size_append]; omega) (by omega), e1]
      · rw [if_neg c2, if_neg c2, if_pos (by omega), ih (u ++ t) (v ++ t) (by omega) (by omega) (by rw [ByteArray.size_append]; omega) (by rw [ByteArray.size_append]; omega), e1, e2]
theorem rapp_ev (a : ByteArray) (l : List S93) (ha : a.size ≤ 400) (hl : l.length ≤ 60) (hx : ∀ x ∈ l, x.f1.size ≤ 400) : Ev (fun k => foolscapref32_Apply.f k a l) (applyR a (l.map to40)) := by
  obtain ⟨K1, h1⟩ := len_ev a (by omega)
  obtain ⟨K2, h2⟩ := rask_ev l hl hx
  refine ⟨K1 + K2 + 100, fun k hk => ?_⟩
  have g1 := h1 k (by omega)
  have g2 := h2 k (by omega)
  dsimp only at g1 g2 ⊢
  unfold foolscapref32_Apply.f applyR
  rw [g1, Option.bind_some]
  by_cases c : 0 ≤ lenU a
  · rw [if_neg (Int.not_lt.2 c), if_pos c, g2, Option.bind_some]
    by_cases c2 : askR (l.map to40) = 0
    · have h := rapp_l0 a l hl hx l.length 0 k ByteArray.empty ByteArray.empty (by omega) (by omega) (by simp) (by simp)
      have e2 : ∀ b : ByteArray, ByteArray.empty ++ b = b := fun b => by apply ByteArray.ext; simp
      rw [e2, e2, List.drop_zero] at h
      rw [if_pos c2, if_pos c2]
      exact h
    · rw [if_neg c2, if_neg c2]
  · rw [if_pos (Int.not_le.1 c), if_neg c]
theorem rcost_l0 (l : List S93) (hl : l.length ≤ 60) (hx : ∀ x ∈ l, x.f1.size ≤ 400) : ∀ d i (v : Int), i + d = l.length → 0 ≤ v → v ≤ 400 * i → Ev (fun k => foolscapref32_Cost.l0 k l v (i : Int)) (v + costR ((l.drop i).map to40))
  | 0, i, v, hi, h0, h1 => ⟨1, fun k hk => by
      obtain ⟨k, rfl⟩ : ∃ x, k = x + 1 := ⟨k - 1, by omega⟩
      dsimp only
      rw [foolscapref32_Cost.l0, if_neg (by omega), List.drop_of_length_le (by omega)]
      simp [costR]⟩
  | d + 1, i, v, hi, h0, h1 => by
    have hlt : i < l.length := by omega
    have hw : wrap64 ((i : Int) + 1) = ((i + 1 : Nat) : Int) := by rw [w64d (by omega) (by omega)]; omega
    have hsz := hx _ (List.getElem_mem hlt)
    obtain ⟨K1, hK1⟩ := len_ev l[i].f1 (by omega)
    have hle := lenU_le l[i].f1
    have hcs : costR ((l.drop i).map to40) = (if l[i].f0 = 1 ∨ l[i].f0 = 2 then max 0 (lenU l[i].f1) else 0) + costR ((l.drop (i + 1)).map to40) := by
      rw [List.drop_eq_getElem_cons hlt]
      simp only [costR, List.map_cons, List.sum_cons]
      rfl
    rw [hcs]
    clear hcs
    have fin : ∀ u : Int, v ≤ u → u ≤ v + 400 → ∃ K2, ∀ k, K2 ≤ k → foolscapref32_Cost.l0 k l u ((i + 1 : Nat) : Int) = some (u + costR ((l.drop (i + 1)).map to40)) := fun u hu1 hu2 => rcost_l0 l hl hx d (i + 1) u (by omega) (by omega) (by omega)
    obtain ⟨K2, hK2⟩ := fin v (by omega) (by omega)
    obtain ⟨m, hm⟩ : ∃ m, lenU l[i].f1 = m := ⟨_, rfl⟩
    rw [hm] at hK1 hle ⊢
    clear hm
    have arm : ∃ K3, ∀ k, K3 ≤ k → ((foolscapref01_Len.f k l[i].f1).bind fun t => if t > 0 then ((foolscapref01_Len.f k l[i].f1).bind fun s => foolscapref32_Cost.l0 k l (wrap64 (v + s)) ((i + 1 : Nat) : Int)) else foolscapref32_Cost.l0 k l v ((i + 1 : Nat) : Int)) = some (v + (max 0 m + costR ((l.drop (i + 1)).map to40))) := by
      by_cases c : m > 0
      · obtain ⟨K3, hK3⟩ := fin (v + m) (by omega) (by omega)
        refine ⟨K1 + K3, fun k hk => ?_⟩
        have g1 := hK1 k (by omega)
        dsimp only at g1
        rw [g1, Option.bind_some, if_pos c, Option.bind_some, w64d (by omega) (by omega), hK3 k (by omega), show max 0 m = m by omega, Int.add_assoc]
      · refine ⟨K1 + K2, fun k hk => ?_⟩
        have g1 := hK1 k (by omega)
        dsimp only at g1
        rw [g1, Option.bind_some, if_neg c, hK2 k (by omega), show max 0 m = 0 by omega, Int.zero_add]
    obtain ⟨K3, hK3⟩ := arm
    refine ⟨K2 + K3 + 1, fun k hk => ?_⟩
    obtain ⟨k, rfl⟩ : ∃ x, k = x + 1 := ⟨k - 1, by omega⟩
    have g2 := hK2 k (by omega)
    have g3 := hK3 k (by omega)
    dsimp only
    rw [foolscapref32_Cost.l0, if_pos (by omega), if_pos (by omega), rd93_get l i hlt, hw]
    by_cases c1 : l[i].f0 = 1
    · rw [if_pos c1, if_pos (.inl c1)]
      exact g3
    · rw [if_neg c1]
      by_cases c2 : l[i].f0 = 2
      · rw [if_pos c2, if_pos (.inr c2)]
        exact g3
      · rw [if_neg c2, if_neg (fun h => h.elim c1 c2), Int.zero_add]
        exact g2
theorem rcost_ev (l : List S93) (hl : l.length ≤ 60) (hx : ∀ x ∈ l, x.f1.size ≤ 400) : Ev (fun k => foolscapref32_Cost.f k l) (costR (l.map to40)) := by
  have h := rcost_l0 l hl hx l.length 0 0 (by omega) (by omega) (by omega)
  rw [List.drop_zero, Int.zero_add] at h
  exact h
/-! ### the changes -/
def to45 (x : S46) : S45 := ⟨x.f0, x.f1, x.f2⟩
theorem back_snoc (o : List S46) (x : S46) : ((o ++ [x]).map to45).reverse = to45 x :: (o.map to45).reverse := by simp
theorem rchg_j1 (l : List S93) (hl : l.length ≤ 60) (i : Nat) (hlt : i < l.length) (hsz : l[i].f1.size ≤ 400) (o o1 : List S46) (x : S46) (a n : Int) (b : Bool) (ho : opened o b a = o1 ++ [x]) (hlen : o.length ≤ 60) (hn : 0 ≤ n) (hn2 : n ≤ 400) (ha : 0 ≤ a) (ha2 : a ≤ 100000) (hf1 : 0 ≤ x.f1) (hf2 : x.f1 ≤ 100000) (hs : x.f2.size ≤ 100000) (k : Nat) :
    foolscapref32_Changes.j1 (k + 1) l ((o.map to45).reverse) a (i : Int) n (!b) = if l[i].f0 = 2 then foolscapref32_Changes.l0 k l (((o1 ++ [(⟨x.f0, x.f1 + n, x.f2⟩ : S46)]).map to45).reverse) (a + n) ((i + 1 : Nat) : Int) else foolscapref32_Changes.l0 k l (((o1 ++ [(⟨x.f0, x.f1, x.f2 ++ l[i].f1⟩ : S46)]).map to45).reverse) a ((i + 1 : Nat) : Int) := by
  have hw : wrap64 ((i : Int) + 1) = ((i + 1 : Nat) : Int) := by rw [w64d (by omega) (by omega)]; omega
  have hwa : wrap64 (a + n) = a + n := w64d (by omega) (by omega)
  have hwx : wrap64 (x.f1 + n) = x.f1 + n := w64d (by omega) (by omega)
  have hrd : ∀ (y : S45) (ys : List S45), rd_T45 (y :: ys) 0 = y := fun y ys => rfl
  have hset : ∀ (y z : S45) (ys : List S45), (y :: ys).set (0 : Int).toNat z = z :: ys := fun y z ys => rfl
  rw [back_snoc, back_snoc]
  unfold foolscapref32_Changes.j1
  cases b with
  | true =>
    have e : o = o1 ++ [x] := ho
    subst e
    have hp : (0 : Int) < (((to45 x) :: (o1.map to45).reverse).length : Int) := by rw [List.length_cons]; omega
    rw [back_snoc, if_neg (by simp), if_pos (by omega), if_pos (by omega), rd93_get l i hlt, hrd, hset, hset, if_pos hp, if_pos hp, if_pos (show (to45 x).f2.size + l[i].f1.size ≤ 9223372036854775807 by show x.f2.size + _ ≤ _; omega), hw, hwa, show wrap64 ((to45 x).f1 + n) = x.f1 + n from hwx]
    rfl
  | false =>
    have e : o ++ [⟨a, 0, ⟨#[]⟩⟩] = o1 ++ [x] := ho
    obtain ⟨rfl, e2⟩ := List.append_inj' e rfl
    obtain rfl : (⟨a, 0, ⟨#[]⟩⟩ : S46) = x := by simpa using e2
    have e1 : ([⟨a, 0, ⟨#[]⟩⟩] : List S45) ++ (o.map to45).reverse = (⟨a, 0, ⟨#[]⟩⟩ : S45) :: (o.map to45).reverse := rfl
    have hp : (0 : Int) < (((⟨a, 0, ⟨#[]⟩⟩ : S45) :: (o.map to45).reverse).length : Int) := by rw [List.length_cons]; omega
    have hq : ([⟨a, 0, ⟨#[]⟩⟩] : List S45).length + ((o.map to45).reverse).length < 4398046511104 := by rw [List.length_reverse, List.length_map, List.length_singleton]; omega
    rw [if_pos (by simp), Option.bind_some, if_pos hq, e1, Option.bind_some, if_pos (by omega), if_pos (by omega), rd93_get l i hlt, hrd, hset, hset, if_pos hp, if_pos hp, if_pos (show (⟨#[]⟩ : ByteArray).size + l[i].f1.size ≤ 9223372036854775807 by show 0 + _ ≤ _; omega), hw, hwa, show wrap64 ((0 : Int) + n) = 0 + n from hwx]
    rfl
theorem opened_snoc {o : List S46} {b : Bool} {a : Int} (hb : b = true → o ≠ []) : ∃ o1 x, opened o b a = o1 ++ [x] ∧ (x ∈ o ∨ x = ⟨a, 0, ⟨#[]⟩⟩) ∧ o1.length ≤ o.length ∧ ∀ y ∈ o1, y ∈ o := by
  cases b with
  | true =>
    obtain ⟨o1, x, rfl⟩ : ∃ o1 x, o = o1 ++ [x] := by
      have h := hb rfl
      exact ⟨o.dropLast, o.getLast h, (List.dropLast_concat_getLast h).symm⟩
    exact ⟨o1, x, rfl, .inl (by simp), by simp, fun y hy => by simp [hy]⟩
  | false => exact ⟨o, _, rfl, .inr rfl, Nat.le_refl _, fun y hy => hy⟩
theorem rchg_l0 (l : List S93) (hl : l.length ≤ 60) (hx : ∀ x ∈ l, x.f1.size ≤ 400) (hv : ∀ x ∈ l, 0 ≤ lenU x.f1) : ∀ d i (a : Int) (b : Bool) (o : List S46), i + d = l.length → (i = 0 → b = false) → (∀ j (h : j < l.length), j + 1 = i → b = !(l[j].f0 == 0)) → 0 ≤ a → a ≤ 400 * i → o.length ≤ i → (b = true → o ≠ []) → (∀ x ∈ o, 0 ≤ x.f1 ∧ x.f1 ≤ 400 * i ∧ x.f2.size ≤ 400 * i) →
    Ev (fun k => foolscapref32_Changes.l0 k l ((o.map to45).reverse) a (i : Int)) (((chgF ((l.drop i).map to40) a b o).map to45).reverse, 0)
  | 0, i, a, b, o, hi, hb0, hb, ha, ha2, hol, hbo, hov => ⟨1, fun k hk => by
      obtain ⟨k, rfl⟩ : ∃ x, k = x + 1 := ⟨k - 1, by omega⟩
      dsimp only
      rw [foolscapref32_Changes.l0, if_neg (by omega), List.drop_of_length_le (by omega)]
      rfl⟩
  | d + 1, i, a, b, o, hi, hb0, hb, ha, ha2, hol, hbo, hov => by
    have hlt : i < l.length := by omega
    have hw : wrap64 ((i : Int) + 1) = ((i + 1 : Nat) : Int) := by rw [w64d (by omega) (by omega)]; omega
    have hsz := hx _ (List.getElem_mem hlt)
    have hln := hv _ (List.getElem_mem hlt)
    have hle := lenU_le l[i].f1
    obtain ⟨K1, hK1⟩ := len_ev l[i].f1 (by omega)
    obtain ⟨o1, x, ho, hxm, hol1, hom⟩ := opened_snoc (a := a) hbo
    have hxb : 0 ≤ x.f1 ∧ x.f1 ≤ 400 * i ∧ x.f2.size ≤ 400 * i := by
      rcases hxm with h | rfl
      · exact hov x h
      · exact ⟨Int.le_refl _, by show (0 : Int) ≤ _; omega, Nat.zero_le _⟩
    have hlast : ∀ f : S46 → S46, lastMap f (opened o b a) = o1 ++ [f x] := fun f => by rw [ho, lastMap_snoc]
    have hcg : chgF ((l.drop i).map to40) a b o = if l[i].f0 = 0 then chgF ((l.drop (i + 1)).map to40) (a + lenU l[i].f1) false o else if l[i].f0 = 2 then chgF ((l.drop (i + 1)).map to40) (a + lenU l[i].f1) true (o1 ++ [⟨x.f0, x.f1 + lenU l[i].f1, x.f2⟩]) else chgF ((l.drop (i + 1)).map to40) a true (o1 ++ [⟨x.f0, x.f1, x.f2 ++ l[i].f1⟩]) := by
      rw [List.drop_eq_getElem_cons hlt, List.map_cons]
      simp only [chgF, hlast, to40]
    rw [hcg]
    clear hcg hlast
    obtain ⟨n, hn⟩ : ∃ n, lenU l[i].f1 = n := ⟨_, rfl⟩
    have hj := rchg_j1 l hl i hlt hsz o o1 x a n b ho (by omega) (by omega) (by omega) ha (by omega) hxb.1 (by omega) (by omega)
    rw [hn] at hK1 hln hle ⊢
    clear hn
    have hbi : ∀ k, (if (i : Int) = 0 then foolscapref32_Changes.j1 k l ((o.map to45).reverse) a (i : Int) n true else if 0 ≤ wrap64 ((i : Int) - 1) then if wrap64 ((i : Int) - 1) < (l.length : Int) then foolscapref32_Changes.j1 k l ((o.map to45).reverse) a (i : Int) n ((rd_T93 l (wrap64 ((i : Int) - 1))).f0 == 0) else none else none) = foolscapref32_Changes.j1 k l ((o.map to45).reverse) a (i : Int) n (!b) := fun k => by
      by_cases c : (i : Int) = 0
      · rw [if_pos c, hb0 (by omega)]
        rfl
      · obtain ⟨j, rfl⟩ : ∃ j, i = j + 1 := ⟨i - 1, by omega⟩
        have e : wrap64 (((j + 1 : Nat) : Int) - 1) = (j : Int) := by rw [w64d (by omega) (by omega)]; omega
        rw [if_neg c, e, if_pos (by omega), if_pos (by omega), rd93_get l j (by omega), hb j (by omega) rfl, Bool.not_not]
    have nb : ∀ (c : Bool), (c = !(l[i].f0 == 0)) → ∀ j (h : j < l.length), j + 1 = i + 1 → c = !(l[j].f0 == 0) := fun c hc j h e => by
      obtain rfl : j = i := by omega
      exact hc
    by_cases c0 : l[i].f0 = 0
    · obtain ⟨K2, hK2⟩ := rchg_l0 l hl hx hv d (i + 1) (a + n) false o (by omega) (fun _ => rfl) (nb false (by rw [c0]; rfl)) (by omega) (by omega) (by omega) (fun h => by cases h) (fun y hy => by have := hov y hy; exact ⟨this.1, by omega, by omega⟩)
      refine ⟨K1 + K2 + 1, fun k hk => ?_⟩
      obtain ⟨k, rfl⟩ : ∃ x, k = x + 1 := ⟨k - 1, by omega⟩
      have g1 := hK1 k (by omega)
      have g2 := hK2 k (by omega)
      dsimp only at g1 g2 ⊢
      rw [foolscapref32_Changes.l0, if_pos (by omega), if_pos (by omega), rd93_get l i hlt, g1, Option.bind_some, if_pos c0, if_pos c0, hw, w64d (by omega) (by omega)]
      exact g2
    · have hnb : (true : Bool) = !(l[i].f0 == 0) := by
        have : (l[i].f0 == 0) = false := beq_eq_false_iff_ne.2 c0
        rw [this]
        rfl
      have hob : ∀ z : S46, 0 ≤ z.f1 → z.f1 ≤ 400 * ((i + 1 : Nat) : Int) → z.f2.size ≤ 400 * (i + 1) → ∀ y ∈ o1 ++ [z], 0 ≤ y.f1 ∧ y.f1 ≤ 400 * ((i + 1 : Nat) : Int) ∧ y.f2.size ≤ 400 * (i + 1) := fun z h1 h2 h3 y hy => by
        rcases List.mem_append.1 hy with h | h
        · have := hov y (hom y h)
          exact ⟨this.1, by omega, by omega⟩
        · rw [List.mem_singleton.1 h]
          exact ⟨h1, h2, h3⟩
      have hol2 : ∀ z : S46, (o1 ++ [z]).length ≤ i + 1 := fun z => by rw [List.length_append, List.length_singleton]; omega
      by_cases c2 : l[i].f0 = 2
      · obtain ⟨K2, hK2⟩ := rchg_l0 l hl hx hv d (i + 1) (a + n) true (o1 ++ [⟨x.f0, x.f1 + n, x.f2⟩]) (by omega) (fun h => by omega) (nb true hnb) (by omega) (by omega) (hol2 _) (fun _ => by simp) (hob _ (by show 0 ≤ x.f1 + n; omega) (by show x.f1 + n ≤ _; omega) (by show x.f2.size ≤ _; omega))
        refine ⟨K1 + K2 + 2, fun k hk => ?_⟩
        obtain ⟨k, rfl⟩ : ∃ x, k = x + 1 + 1 := ⟨k - 2, by omega⟩
        have g1 := hK1 (k + 1) (by omega)
        have g2 := hK2 k (by omega)
        dsimp only at g1 g2 ⊢
        rw [foolscapref32_Changes.l0, if_pos (by omega), if_pos (by omega), rd93_get l i hlt, g1, Option.bind_some, if_neg c0, if_neg c0, hbi, hj k, if_pos c2, if_pos c2]
        exact g2
      · obtain ⟨K2, hK2⟩ := rchg_l0 l hl hx hv d (i + 1) a true (o1 ++ [⟨x.f0, x.f1, x.f2 ++ l[i].f1⟩]) (by omega) (fun h => by omega) (nb true hnb) (by omega) (by omega) (hol2 _) (fun _ => by simp) (hob _ hxb.1 (by show x.f1 ≤ _; omega) (by show (x.f2 ++ l[i].f1).size ≤ _; rw [ByteArray.size_append]; omega))
        refine ⟨K1 + K2 + 2, fun k hk => ?_⟩
        obtain ⟨k, rfl⟩ : ∃ x, k = x + 1 + 1 := ⟨k - 2, by omega⟩
        have g1 := hK1 (k + 1) (by omega)
        have g2 := hK2 k (by omega)
        dsimp only at g1 g2 ⊢
        rw [foolscapref32_Changes.l0, if_pos (by omega), if_pos (by omega), rd93_get l i hlt, g1, Option.bind_some, if_neg c0, if_neg c0, hbi, hj k, if_neg c2, if_neg c2]
        exact g2
theorem ask93_ok {l : List S93} (h : askR (l.map to40) = 0) : ∀ x ∈ l, 0 ≤ lenU x.f1 := fun x hx => (ask_ok h (to40 x) (List.mem_map.2 ⟨x, hx, rfl⟩)).1
theorem rchg_ev (l : List S93) (hl : l.length ≤ 60) (hx : ∀ x ∈ l, x.f1.size ≤ 400) : Ev (fun k => foolscapref32_Changes.f k l) (if askR (l.map to40) = 0 then (((chgF (l.map to40) 0 false []).map to45).reverse, 0) else ([], askR (l.map to40))) := by
  obtain ⟨K1, h1⟩ := rask_ev l hl hx
  by_cases c : askR (l.map to40) = 0
  · obtain ⟨K2, h2⟩ := rchg_l0 l hl hx (ask93_ok c) l.length 0 0 false [] (by omega) (fun _ => rfl) (fun j h e => by omega) (by omega) (by omega) (Nat.le_refl _) (fun h => by cases h) (fun x h => by cases h)
    refine ⟨K1 + K2, fun k hk => ?_⟩
    have g1 := h1 k (by omega)
    have g2 := h2 k (by omega)
    dsimp only at g1 g2 ⊢
    unfold foolscapref32_Changes.f
    rw [g1, Option.bind_some, if_pos c, if_pos c]
    rw [List.drop_zero] at g2
    exact g2
  · refine ⟨K1, fun k hk => ?_⟩
    have g1 := h1 k (by omega)
    dsimp only at g1 ⊢
    unfold foolscapref32_Changes.f
    rw [g1, Option.bind_some, if_neg c, if_neg c]
/-! ### the law's own loops -/
theorem great_l0 (l : List S93) (hl : l.length ≤ 60) : ∀ d i k, i + d = l.length → d + 1 ≤ k → foolscaplaw32_great.l0 k l (i : Int) = some ((l.drop i).any fun x => decide (400 < x.f1.size))
  | 0, i, k, hi, hk => by
    obtain ⟨k, rfl⟩ : ∃ x, k = x + 1 := ⟨k - 1, by omega⟩
    rw [foolscaplaw32_great.l0, if_neg (by omega), List.drop_of_length_le (by omega)]
    rfl
  | d + 1, i, k, hi, hk => by
    obtain ⟨k, rfl⟩ : ∃ x, k = x + 1 := ⟨k - 1, by omega⟩
    have hlt : i < l.length := by omega
    have hw : wrap64 ((i : Int) + 1) = ((i + 1 : Nat) : Int) := by rw [w64d (by omega) (by omega)]; omega
    rw [foolscaplaw32_great.l0, if_pos (by omega), if_pos (by omega), rd93_get l i hlt, List.drop_eq_getElem_cons hlt, List.any_cons]
    by_cases c : ((l[i]).f1.size : Int) > 400
    · rw [if_pos c, decide_eq_true (by omega), Bool.true_or]
    · rw [if_neg c, decide_eq_false (by omega), Bool.false_or, hw, great_l0 l hl d (i + 1) k (by omega) (by omega)]
theorem great_f (a : ByteArray) (l : List S93) (k : Nat) (hk : 100 ≤ k) : foolscaplaw32_great.f k a l = some (decide (400 < a.size) || (decide (60 < l.length) || l.any fun x => decide (400 < x.f1.size))) := by
  obtain ⟨k, rfl⟩ : ∃ x, k = x + 1 := ⟨k - 1, by omega⟩
  unfold foolscaplaw32_great.f
  by_cases c1 : (a.size : Int) > 400
  · rw [if_pos c1, foolscaplaw32_great.j0, if_pos rfl, decide_eq_true (by omega), Bool.true_or]
  · rw [if_neg c1, decide_eq_false (p := 400 < a.size) (by omega), Bool.false_or]
    by_cases c2 : (l.length : Int) > 60
    · rw [decide_eq_true c2, foolscaplaw32_great.j0, if_pos rfl, decide_eq_true (by omega), Bool.true_or]
    · have h := great_l0 l (by omega) l.length 0 k (by omega) (by omega)
      rw [decide_eq_false c2, foolscaplaw32_great.j0, if_neg (by simp), decide_eq_false (p := 60 < l.length) (by omega), Bool.false_or]
      rw [List.drop_zero] at h
      exact h
theorem of_l0 (l : List S93) (hl : l.length ≤ 60) : ∀ d i k (acc : List S40), i + d = l.length → d + 1 ≤ k → acc.length ≤ i → foolscaplaw32_Of.l0 k l acc (i : Int) = some (acc ++ (l.drop i).map to40)
  | 0, i, k, acc, hi, hk, ha => by
    obtain ⟨k, rfl⟩ : ∃ x, k = x + 1 := ⟨k - 1, by omega⟩
    rw [foolscaplaw32_Of.l0, if_neg (by omega), List.drop_of_length_le (by omega), List.map_nil, List.append_nil]
  | d + 1, i, k, acc, hi, hk, ha => by
    obtain ⟨k, rfl⟩ : ∃ x, k = x + 1 := ⟨k - 1, by omega⟩
    have hlt : i < l.length := by omega
    have hw : wrap64 ((i : Int) + 1) = ((i + 1 : Nat) : Int) := by rw [w64d (by omega) (by omega)]; omega
    have h := of_l0 l hl d (i + 1) k (acc ++ [to40 l[i]]) (by omega) (by omega) (by rw [List.length_append, List.length_singleton]; omega)
    rw [foolscaplaw32_Of.l0, if_pos (by omega), if_pos (by omega), if_pos (by omega), rd93_get l i hlt, List.drop_eq_getElem_cons hlt, List.map_cons, hw]
    rw [List.append_assoc] at h
    exact h
theorem of_f (l : List S93) (hl : l.length ≤ 60) (k : Nat) (hk : 61 ≤ k) : foolscaplaw32_Of.f k l = some (l.map to40) := by
  have h := of_l0 l hl l.length 0 k [] (by omega) (by omega) (by simp)
  rw [List.nil_append, List.drop_zero] at h
  exact h
end Go.Proofs.YtabhfloclcmjnaaDoor.X
