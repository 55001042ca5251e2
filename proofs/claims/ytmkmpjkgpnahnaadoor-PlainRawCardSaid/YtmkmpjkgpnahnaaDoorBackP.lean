/-
 plain's Excl on what Incl tells, in plain Lean: by this session. Conditions: as typed.
-/
import Derived.Test.YtmkmpjkgpnahnaaDoorBack
import Derived.Test.YtmkmpjkgpnahnaaDoorPx12
namespace Go.Proofs.YtmkmpjkgpnahnaaDoor.X
open Go Go.RowKit Go.Shelf Go.Proofs.YtmkmpjkgpnahnaaDoorW.PrintWords Go.Proofs.YtmkmpjkgpnahnaaDoor.P
set_option linter.unusedVariables false
theorem toL_inj {a b : ByteArray} (h : a.toList = b.toList) : a = b := by
 rw [Go.ByteArray.toList_eq, Go.ByteArray.toList_eq] at h
 apply ByteArray.ext
 exact Array.ext' h
theorem toL_nil {t : ByteArray} (h : t.toList = []) : t = ⟨#[]⟩ := toL_inj (h.trans (by rw [Go.ByteArray.toList_eq]))
theorem rd33_at (l : List S33) (i : Nat) (h : i < l.length) : rd_T33 l (i : Int) = l[i] := by
 unfold rd_T33
 rw [Int.toNat_natCast, List.getD_eq_getElem?_getD, List.getElem?_eq_getElem h]
 rfl
theorem S33_ext {x y : S33} (h0 : x.f0 = y.f0) (h1 : x.f1 = y.f1) (h2 : x.f2 = y.f2) (h3 : x.f3 = y.f3) (h4 : x.f4.toList = y.f4.toList) : x = y := by
 have h5 := toL_inj h4
 cases x; cases y
 simp only at h0 h1 h2 h3 h5
 subst h0 h1 h2 h3 h5
 rfl
theorem do_l0 (m l : List S33) (he : m.length = l.length) (hl : l.length ≤ 1000) : ∀ d i, i + d = l.length → ∃ b, Ev (fun k => plain_Do.l0 k m l (m.length : Int) (i : Int)) b ∧ (b = true → m.drop i = l.drop i) ∧ (m.drop i = l.drop i → b = true)
 | 0, i, hi => ⟨true, ⟨1, fun k hk => by
   obtain ⟨k, rfl⟩ : ∃ x, k = x + 1 := ⟨k - 1, by omega⟩
   dsimp only
   rw [plain_Do.l0, if_neg (by omega)]⟩, fun _ => by rw [List.drop_of_length_le (by omega), List.drop_of_length_le (by omega)], fun _ => rfl⟩
 | d + 1, i, hi => by
  have hlt : i < l.length := by omega
  have hlt2 : i < m.length := by omega
  have hw : wrap64 ((i : Int) + 1) = ((i + 1 : Nat) : Int) := by rw [w64 (by omega) (by omega)]; omega
  obtain ⟨b, ⟨K, hK⟩, h1, h2⟩ := do_l0 m l he hl d (i + 1) (by omega)
  rw [List.drop_eq_getElem_cons hlt, List.drop_eq_getElem_cons hlt2]
  by_cases c : (!(m[i].f0 == l[i].f0) || (!(m[i].f1 == l[i].f1) || (!(m[i].f2 == l[i].f2) || (!(m[i].f3 == l[i].f3) || (!(m[i].f4.toList == l[i].f4.toList)))))) = true
  ·refine ⟨false, ⟨1, fun k hk => ?_⟩, fun h => (by cases h), fun h => ?_⟩
   ·obtain ⟨k, rfl⟩ : ∃ x, k = x + 1 := ⟨k - 1, by omega⟩
    dsimp only
    rw [plain_Do.l0, if_pos (by omega), if_pos (by omega), if_pos (by omega), if_pos (by omega), rd33_at m i hlt2, rd33_at l i hlt, if_pos c]
   ·injection h with e _
    rw [e] at c
    simp at c
  ·refine ⟨b, ⟨K + 1, fun k hk => ?_⟩, fun h => ?_, fun h => ?_⟩
   ·obtain ⟨k, rfl⟩ : ∃ x, k = x + 1 := ⟨k - 1, by omega⟩
    have g := hK k (by omega)
    dsimp only at g ⊢
    rw [plain_Do.l0, if_pos (by omega), if_pos (by omega), if_pos (by omega), if_pos (by omega), rd33_at m i hlt2, rd33_at l i hlt, if_neg c, hw]
    exact g
   ·rw [h1 h]
    simp only [Bool.or_eq_true, Bool.not_eq_true', beq_eq_false_iff_ne, not_or, Decidable.not_not, ne_eq] at c
    rw [S33_ext c.1 c.2.1 c.2.2.1 c.2.2.2.1 c.2.2.2.2]
   ·injection h with _ e
    exact h2 e
theorem do_ev (m l : List S33) (hl : l.length ≤ 1000) : ∃ b, Ev (fun k => plain_Do.f k m l) b ∧ (b = true → m = l) ∧ (m = l → b = true) := by
 by_cases he : m.length = l.length
 ·obtain ⟨b, ⟨K, hK⟩, h1, h2⟩ := do_l0 m l he hl l.length 0 (by omega)
  rw [List.drop_zero, List.drop_zero] at h1 h2
  refine ⟨b, ⟨K, fun k hk => ?_⟩, h1, h2⟩
  have g := hK k hk
  dsimp only at g ⊢
  unfold plain_Do.f
  rw [if_pos (by omega)]
  exact g
 ·refine ⟨false, ⟨0, fun k hk => ?_⟩, fun h => (by cases h), fun h => absurd (congrArg List.length h) he⟩
  dsimp only
  unfold plain_Do.f
  rw [if_neg (by omega)]
theorem may_k (s kd p l : Int) (t : ByteArray) (n : Int) (k : Nat) (hk : 2 ≤ k) : plain_May.f k s kd p l t n = some (mayB s kd p l t n) := at_rounds (g := fun k => plain_May.f k s kd p l t n) (fun k => plain_May.mono s kd p l t n k) hk (may_f s kd p l t n)
theorem within_f (x a b : Int) : plain_within.f x a b = some (decide (a ≤ x ∧ x ≤ b)) := by
 unfold plain_within.f
 by_cases h : x ≥ a
 ·rw [if_pos h]
  congr 1
  exact decide_eq_decide.2 ⟨fun g => ⟨h, g⟩, fun g => g.2⟩
 ·rw [if_neg h, decide_eq_false (fun g => h g.1)]
def inR (x : S33) : Prop := 0 ≤ x.f2 ∧ x.f2 ≤ 40000 ∧ 0 ≤ x.f3 ∧ x.f3 ≤ 20000
def dOf (l : List S33) (q1 q2 q3 s2 k2 p2 n2 : Int) (t2 : ByteArray) : S33 := if l.length = 0 then ⟨if s2 = 1 then 2 else 1, (backP l q1 q2 q3 k2 p2 n2 t2).f1, (backP l q1 q2 q3 k2 p2 n2 t2).f2, (backP l q1 q2 q3 k2 p2 n2 t2).f3, (backP l q1 q2 q3 k2 p2 n2 t2).f4⟩ else backP l q1 q2 q3 k2 p2 n2 t2
def bad : Int × Int × Int × Int × ByteArray × Int := (0, 0, 0, 0, ⟨#[]⟩, 1)
def good (d : S33) : Int × Int × Int × Int × ByteArray × Int := (d.f0, d.f1, d.f2, d.f3, d.f4, 0)
def IncBack (l : List S33) (q1 q2 q3 s2 k2 p2 n2 : Int) (t2 : ByteArray) (n : Int) (d : S33) : Prop := mayB s2 k2 p2 n2 t2 n = true ∧ mayB d.f0 d.f1 d.f2 d.f3 d.f4 n = true ∧ ¬ d.f0 = s2 ∧ inclP d.f0 d.f1 d.f2 d.f3 d.f4 s2 k2 p2 n2 t2 = (l, q1, q2, q3)
theorem back_ok {l : List S33} {q2 q3 s2 k2 p2 n2 : Int} {t2 : ByteArray} {n : Int} (hl : l.length ≤ 2) (hb : mayB s2 k2 p2 n2 t2 n = true) (h2 : 0 ≤ q2 ∧ q2 ≤ n) (h3 : 0 ≤ q3 ∧ q3 ≤ n) (ha : ∀ x ∈ l, inR x) : backOk l q2 q3 p2 n2 t2 = true := by
 unfold mayB at hb
 rw [decide_eq_true_eq] at hb
 obtain ⟨b1, b2, b3, b4, b5⟩ := hb
 unfold backOk
 rw [Bool.and_eq_true, decide_eq_true_eq]
 refine ⟨⟨hl, ?_, ?_, ?_, ?_, ?_, ?_⟩, List.all_eq_true.2 fun x hx => decide_eq_true (ha x hx)⟩
 ·omega
 ·omega
 ·omega
 ·omega
 ·rcases b5 with b5 | b5
  ·exact b5.2.2.2.2.1
  ·rw [toL_nil b5.2.2.2.2.2]
   decide
 ·rcases b5 with b5 | b5
  ·exact b5.2.2.2.2.2.2
  ·rw [toL_nil b5.2.2.2.2.2]
   decide +kernel
theorem j2_ev (l : List S33) (n q1 q2 q3 s2 k2 p2 n2 : Int) (t2 : ByteArray) (d : S33) (hl : l.length ≤ 2) (hb : mayB s2 k2 p2 n2 t2 n = true) : ∃ r, Ev (fun k => plain_Excl.j2 k l n q1 q2 q3 s2 k2 p2 n2 t2 d.f0 d.f1 d.f2 d.f3 d.f4) r ∧ (r = bad ∨ r = good d ∧ IncBack l q1 q2 q3 s2 k2 p2 n2 t2 n d) ∧ (IncBack l q1 q2 q3 s2 k2 p2 n2 t2 n d → r = good d) := by
 have hinc : ∀ E L a b c, plain_Incl.f d.f0 d.f1 d.f2 d.f3 d.f4 s2 k2 p2 n2 t2 n = some (L, a, b, c, E) → ¬ E = 0 → ∀ k, 1 ≤ k → plain_Excl.j2 k l n q1 q2 q3 s2 k2 p2 n2 t2 d.f0 d.f1 d.f2 d.f3 d.f4 = some bad := fun E L a b c h hE k hk => by
  obtain ⟨k, rfl⟩ : ∃ x, k = x + 1 := ⟨k - 1, by omega⟩
  rw [plain_Excl.j2, h, Option.bind_some, if_neg hE]
  rfl
 by_cases h1 : d.f0 = s2
 ·exact ⟨bad, ⟨1, fun k hk => hinc 1 [] 0 0 0 (by unfold plain_Incl.f; rw [if_pos h1]) (by decide) k hk⟩, .inl rfl, fun h => absurd h1 h.2.2.1⟩
 ·by_cases h2 : mayB d.f0 d.f1 d.f2 d.f3 d.f4 n = true
  ·have hf : plain_Incl.f d.f0 d.f1 d.f2 d.f3 d.f4 s2 k2 p2 n2 t2 n = some ((inclP d.f0 d.f1 d.f2 d.f3 d.f4 s2 k2 p2 n2 t2).1, (inclP d.f0 d.f1 d.f2 d.f3 d.f4 s2 k2 p2 n2 t2).2.1, (inclP d.f0 d.f1 d.f2 d.f3 d.f4 s2 k2 p2 n2 t2).2.2.1, (inclP d.f0 d.f1 d.f2 d.f3 d.f4 s2 k2 p2 n2 t2).2.2.2, 0) := by
    unfold plain_Incl.f
    rw [if_neg h1, if_pos h2, if_pos hb]
   unfold IncBack
   obtain ⟨⟨m, a, b, c⟩, hP⟩ : ∃ x, inclP d.f0 d.f1 d.f2 d.f3 d.f4 s2 k2 p2 n2 t2 = x := ⟨_, rfl⟩
   rw [hP] at hf ⊢
   dsimp only at hf
   by_cases h3 : (!(a == q1) || (!(b == q2) || (!(c == q3)))) = true
   ·refine ⟨bad, ⟨1, fun k hk => ?_⟩, .inl rfl, fun h => ?_⟩
    ·obtain ⟨k, rfl⟩ : ∃ x, k = x + 1 := ⟨k - 1, by omega⟩
     dsimp only
     rw [plain_Excl.j2, hf, Option.bind_some]
     dsimp only
     rw [if_pos rfl, if_pos h3]
     rfl
    ·have e := h.2.2.2
     simp only [Prod.mk.injEq] at e
     rw [e.2.1, e.2.2.1, e.2.2.2] at h3
     simp at h3
   ·have e : a = q1 ∧ b = q2 ∧ c = q3 := by
     simp only [Bool.or_eq_true, Bool.not_eq_true', beq_eq_false_iff_ne, not_or, Decidable.not_not, ne_eq] at h3
     exact h3
    obtain ⟨rfl, rfl, rfl⟩ := e
    obtain ⟨v, ⟨K, hK⟩, g1, g2⟩ := do_ev m l (by omega)
    refine ⟨if v = true then good d else bad, ⟨K + 1, fun k hk => ?_⟩, ?_, fun h => ?_⟩
    ·obtain ⟨k, rfl⟩ : ∃ x, k = x + 1 := ⟨k - 1, by omega⟩
     have g := hK k (by omega)
     dsimp only at g ⊢
     rw [plain_Excl.j2, hf, Option.bind_some]
     dsimp only
     rw [if_pos rfl, if_neg h3, g, Option.bind_some]
     cases v <;> rfl
    ·cases v with
     | false => exact .inl rfl
     | true => exact .inr ⟨rfl, hb, h2, h1, by rw [g1 rfl]⟩
    ·have e := h.2.2.2
     simp only [Prod.mk.injEq] at e
     rw [g2 e.1]
     rfl
  ·exact ⟨bad, ⟨1, fun k hk => hinc 1 [] 0 0 0 (by unfold plain_Incl.f; rw [if_neg h1, if_neg h2]) (by decide) k hk⟩, .inl rfl, fun h => absurd h.2.1 h2⟩
theorem l0_ev (l : List S33) (n q1 q2 q3 s2 k2 p2 n2 : Int) (t2 : ByteArray) (hl : l.length ≤ 2) {r : Int × Int × Int × Int × ByteArray × Int} (hEnd : (∀ x ∈ l, inR x) → Ev (fun k => plain_Excl.l0 k l n l (l.length : Int) (l.length : Int) q1 q2 q3 s2 k2 p2 n2 t2) r) : ∀ d i, i + d = l.length → (∀ x ∈ l.take i, inR x) → (Ev (fun k => plain_Excl.l0 k l n l (l.length : Int) (i : Int) q1 q2 q3 s2 k2 p2 n2 t2) r ∧ ∀ x ∈ l, inR x) ∨ (Ev (fun k => plain_Excl.l0 k l n l (l.length : Int) (i : Int) q1 q2 q3 s2 k2 p2 n2 t2) bad ∧ ¬ ∀ x ∈ l, inR x)
 | 0, i, hi, ha => by
  have e : i = l.length := by omega
  subst e
  rw [List.take_length] at ha
  exact .inl ⟨hEnd ha, ha⟩
 | d + 1, i, hi, ha => by
  have hlt : i < l.length := by omega
  have hw : wrap64 ((i : Int) + 1) = ((i + 1 : Nat) : Int) := by rw [w64 (by omega) (by omega)]; omega
  have hno : ¬ inR l[i] → (Ev (fun k => plain_Excl.l0 k l n l (l.length : Int) (i : Int) q1 q2 q3 s2 k2 p2 n2 t2) bad ∧ ¬ ∀ x ∈ l, inR x) := fun h => ⟨⟨1, fun k hk => by
   obtain ⟨k, rfl⟩ : ∃ x, k = x + 1 := ⟨k - 1, by omega⟩
   dsimp only
   rw [plain_Excl.l0, if_pos (by omega), if_pos (by omega), if_pos (by omega), rd33_at l i hlt, within_f, Option.bind_some]
   by_cases c1 : 0 ≤ l[i].f2 ∧ l[i].f2 ≤ 40000
   ·rw [decide_eq_true c1, if_pos rfl, within_f, Option.bind_some, decide_eq_false (fun g => h ⟨c1.1, c1.2, g.1, g.2⟩), if_neg (by decide)]
    rfl
   ·rw [decide_eq_false c1, if_neg (by decide)]
    rfl⟩, fun g => h (g _ (List.getElem_mem hlt))⟩
  by_cases c : inR l[i]
  ·have step : ∀ r', Ev (fun k => plain_Excl.l0 k l n l (l.length : Int) ((i + 1 : Nat) : Int) q1 q2 q3 s2 k2 p2 n2 t2) r' → Ev (fun k => plain_Excl.l0 k l n l (l.length : Int) (i : Int) q1 q2 q3 s2 k2 p2 n2 t2) r' := fun r' ⟨K, hK⟩ => ⟨K + 1, fun k hk => by
    obtain ⟨k, rfl⟩ : ∃ x, k = x + 1 := ⟨k - 1, by omega⟩
    have g := hK k (by omega)
    dsimp only at g ⊢
    rw [plain_Excl.l0, if_pos (by omega), if_pos (by omega), if_pos (by omega), rd33_at l i hlt, within_f, Option.bind_some, decide_eq_true ⟨c.1, c.2.1⟩, if_pos rfl, within_f, Option.bind_some, decide_eq_true ⟨c.2.2.1, c.2.2.2⟩, if_pos rfl, hw]
    exact g⟩
   rcases l0_ev l n q1 q2 q3 s2 k2 p2 n2 t2 hl hEnd d (i + 1) (by omega) (fun x hx => by
    rw [List.take_succ_eq_append_getElem hlt] at hx
    rcases List.mem_append.1 hx with h | h
    ·exact ha x h
    ·rw [List.mem_singleton.1 h]; exact c) with ⟨h, h2⟩ | ⟨h, h2⟩
   ·exact .inl ⟨step _ h, h2⟩
   ·exact .inr ⟨step _ h, h2⟩
  ·exact .inr (hno c)
theorem excl_any (l : List S33) (q1 q2 q3 s2 k2 p2 n2 : Int) (t2 : ByteArray) (n : Int) : ∃ r, Ev (fun k => plain_Excl.f k l q1 q2 q3 s2 k2 p2 n2 t2 n) r ∧ (r = bad ∨ l.length ≤ 2 ∧ ∃ d, r = good d ∧ IncBack l q1 q2 q3 s2 k2 p2 n2 t2 n d) ∧
  (l.length ≤ 2 → 0 ≤ q2 ∧ q2 ≤ n → 0 ≤ q3 ∧ q3 ≤ n → (∀ x ∈ l, inR x) → IncBack l q1 q2 q3 s2 k2 p2 n2 t2 n (dOf l q1 q2 q3 s2 k2 p2 n2 t2) → r = good (dOf l q1 q2 q3 s2 k2 p2 n2 t2)) := by
 have jbad : ∀ k, 1 ≤ k → plain_Excl.j0 k l n true q1 q2 q3 s2 k2 p2 n2 t2 = some bad := fun k hk => by
  obtain ⟨k, rfl⟩ : ∃ x, k = x + 1 := ⟨k - 1, by omega⟩
  rw [plain_Excl.j0, if_pos rfl]
  rfl
 by_cases h1 : (l.length : Int) > 2
 ·refine ⟨bad, ⟨1, fun k hk => ?_⟩, .inl rfl, fun h => by omega⟩
  dsimp only
  unfold plain_Excl.f
  rw [if_pos h1, jbad k hk]
 ·have hl : l.length ≤ 2 := by omega
  by_cases h2 : mayB s2 k2 p2 n2 t2 n = true
  ·by_cases h3 : 0 ≤ q2 ∧ q2 ≤ n
   ·by_cases h4 : 0 ≤ q3 ∧ q3 ≤ n
    ·obtain ⟨r, ⟨K, hK⟩, g1, g2⟩ := j2_ev l n q1 q2 q3 s2 k2 p2 n2 t2 (dOf l q1 q2 q3 s2 k2 p2 n2 t2) hl h2
     have hEnd : (∀ x ∈ l, inR x) → Ev (fun k => plain_Excl.l0 k l n l (l.length : Int) (l.length : Int) q1 q2 q3 s2 k2 p2 n2 t2) r := fun ha => by
      have hbk : plain_back.f l q1 q2 q3 s2 k2 p2 n2 t2 = some ((backP l q1 q2 q3 k2 p2 n2 t2).f0, (backP l q1 q2 q3 k2 p2 n2 t2).f1, (backP l q1 q2 q3 k2 p2 n2 t2).f2, (backP l q1 q2 q3 k2 p2 n2 t2).f3, (backP l q1 q2 q3 k2 p2 n2 t2).f4) := by
       unfold plain_back.f
       rw [if_pos (back_ok hl h2 h3 h4 ha)]
      refine ⟨K + 1, fun k hk => ?_⟩
      obtain ⟨k, rfl⟩ : ∃ x, k = x + 1 := ⟨k - 1, by omega⟩
      have g := hK k (by omega)
      dsimp only at g ⊢
      rw [plain_Excl.l0, if_neg (by omega), hbk, Option.bind_some]
      dsimp only
      unfold dOf at g
      by_cases e : l.length = 0
      ·rw [if_pos e] at g
       rw [if_pos (by omega)]
       by_cases e2 : s2 = 1
       ·simp only [if_pos e2] at g
        rw [if_pos e2]
        exact g
       ·simp only [if_neg e2] at g
        rw [if_neg e2]
        exact g
      ·rw [if_neg e] at g
       rw [if_neg (by omega)]
       exact g
     have fin : ∀ r', Ev (fun k => plain_Excl.l0 k l n l (l.length : Int) ((0 : Nat) : Int) q1 q2 q3 s2 k2 p2 n2 t2) r' → Ev (fun k => plain_Excl.f k l q1 q2 q3 s2 k2 p2 n2 t2 n) r' := fun r' ⟨K', hK'⟩ => ⟨K' + 3, fun k hk => by
      obtain ⟨k, rfl⟩ : ∃ x, k = x + 1 := ⟨k - 1, by omega⟩
      have g := hK' k (by omega)
      dsimp only at g ⊢
      unfold plain_Excl.f
      rw [if_neg h1, may_k _ _ _ _ _ _ _ (by omega), Option.bind_some, h2, if_pos rfl, within_f, Option.bind_some, decide_eq_true h3, if_pos rfl, within_f, Option.bind_some, decide_eq_true h4, plain_Excl.j0, if_neg (by decide)]
      exact g⟩
     rcases l0_ev l n q1 q2 q3 s2 k2 p2 n2 t2 hl hEnd l.length 0 (by omega) (fun x hx => by simp at hx) with ⟨h, ha⟩ | ⟨h, ha⟩
     ·refine ⟨r, fin r h, ?_, fun _ _ _ _ hI => g2 hI⟩
      rcases g1 with g1 | g1
      ·exact .inl g1
      ·exact .inr ⟨hl, _, g1⟩
     ·exact ⟨bad, fin bad h, .inl rfl, fun _ _ _ hall => absurd hall ha⟩
    ·refine ⟨bad, ⟨2, fun k hk => ?_⟩, .inl rfl, fun _ _ h => absurd h h4⟩
     dsimp only
     unfold plain_Excl.f
     rw [if_neg h1, may_k _ _ _ _ _ _ _ (by omega), Option.bind_some, h2, if_pos rfl, within_f, Option.bind_some, decide_eq_true h3, if_pos rfl, within_f, Option.bind_some, decide_eq_false h4]
     exact jbad k (by omega)
   ·refine ⟨bad, ⟨2, fun k hk => ?_⟩, .inl rfl, fun _ h => absurd h h3⟩
    dsimp only
    unfold plain_Excl.f
    rw [if_neg h1, may_k _ _ _ _ _ _ _ (by omega), Option.bind_some, h2, if_pos rfl, within_f, Option.bind_some, decide_eq_false h3, if_neg (by decide)]
    exact jbad k (by omega)
  ·refine ⟨bad, ⟨2, fun k hk => ?_⟩, .inl rfl, fun _ _ _ _ h => absurd h.1 h2⟩
   dsimp only
   unfold plain_Excl.f
   rw [if_neg h1, may_k _ _ _ _ _ _ _ (by omega), Option.bind_some, if_neg h2]
   exact jbad k (by omega)
/-! ### what comes back -/
end Go.Proofs.YtmkmpjkgpnahnaaDoor.X
