/-
 THE LAW PlainRaw RETURNS true, and an array of four integers handed in: by this session. Conditions: the two tables of unicode/utf8 as they are laid.
-/
import Derived.Test.YtmkmpjkgpnahnaaDoorRawW
import Derived.Test.YtmkmpjkgpnahnaaDoorRInclC
import Derived.Test.YtmkmpjkgpnahnaaDoorOpenRows
import Derived.Laws.IdiomArrays
namespace Go.Proofs.YtmkmpjkgpnahnaaDoor.X
open Go Go.RowKit Go.Shelf Go.ChangeShapes Go.WideShapes Go.Proofs.YtmkmpjkgpnahnaaDoorW.PrintWords Go.Proofs.YtmkmpjkgpnahnaaDoor.P
set_option linter.unusedVariables false
theorem open_arr4 {H : Type} {enc : TypeId × Value → H} {P : Program} {w : World} {base : Nat} {spare : Nat → Bool} {held : Bool} {r : Reach} {b0 : Nat} {t e : TypeId} {v : Value} {d : DataW H} {p : List MemPlace} (ht : P.underlying t = some (.array 4 e)) (hce : P.cellsOf e = 1) (hC : P.cellsOf t = 4) (te : P.underlying e = some (.int .i64))
  (hv : Value.okWide P w r b0 t v) (h : DataW.Trod enc P w base spare held t v d p) : ∃ a b c g : Int, v = .agg #[.int .i64 a, .int .i64 b, .int .i64 c, .int .i64 g] := by
 simp only [Value.okWide, ht] at hv
 obtain ⟨cs, rfl, hsz, _⟩ := hv
 obtain ⟨l⟩ := cs
 match l, hsz.trans hC with
 | [c0, c1, c2, c3], _ =>
  obtain ⟨fuel, hf⟩ := h
  obtain ⟨y0, y1, y2, y3, n, _, g0, g1, g2, g3⟩ := trod_array4 ht hce (by simpa [Value.cells] using hf)
  obtain ⟨a, e0, _⟩ := DataW.trod_int te g0
  obtain ⟨b, e1, _⟩ := DataW.trod_int te g1
  obtain ⟨c, e2, _⟩ := DataW.trod_int te g2
  obtain ⟨g, e3, _⟩ := DataW.trod_int te g3
  simp only [List.cons.injEq, and_true] at e0 e1 e2 e3
  subst e0 e1 e2 e3
  exact ⟨a, b, c, g, rfl⟩
theorem same_l0' (l : List S23) (hl : l.length ≤ 1000) : ∀ (f k i : Nat), l.length = i + f → foolscapref29_Same.l0 (k + f + 1) l l (i : Int) = some true := by
 intro f
 induction f with
 | zero =>
  intro k i hi
  simp only [foolscapref29_Same.l0]
  rw [if_neg (by omega)]
 | succ f ih =>
  intro k i hi
  rw [show k + (f + 1) + 1 = (k + f + 1) + 1 by omega]
  rw [foolscapref29_Same.l0, if_pos (by omega), if_pos (by omega), if_pos (by omega)]
  simp only [beq_self_eq_true, Bool.not_true, Bool.or_false]
  rw [if_neg (by decide), show wrap64 ((i : Int) + 1) = ((i + 1 : Nat) : Int) by unfold wrap64; omega, ih k (i + 1) (by omega)]
theorem same_ev' (l : List S23) (hl : l.length ≤ 1000) : Ev (fun k => foolscapref29_Same.f k l l) true := by
 refine ⟨l.length + 2, fun k hk => ?_⟩
 show (if (l.length : Int) = (l.length : Int) then foolscapref29_Same.l0 k l l 0 else some false) = some true
 rw [if_pos rfl]
 have := same_l0' l hl l.length (k - l.length - 1) 0 (by omega)
 rw [show k - l.length - 1 + l.length + 1 = k by omega] at this
 simpa using this
def toP (d : S23) : S33 := ⟨d.f0, d.f1, d.f2, d.f3, d.f4⟩
theorem of_l0 (l : List S23) (hl : l.length ≤ 1000) : ∀ d i k (acc : List S33), i + d = l.length → d + 1 ≤ k → acc.length ≤ i → foolscaplaw29_Of.l0 k l acc (i : Int) = some (acc ++ (l.drop i).map toP)
 | 0, i, k, acc, hi, hk, ha => by
  obtain ⟨k, rfl⟩ : ∃ x, k = x + 1 := ⟨k - 1, by omega⟩
  rw [foolscaplaw29_Of.l0, if_neg (by omega), List.drop_of_length_le (by omega), List.map_nil, List.append_nil]
 | d + 1, i, k, acc, hi, hk, ha => by
  obtain ⟨k, rfl⟩ : ∃ x, k = x + 1 := ⟨k - 1, by omega⟩
  have hlt : i < l.length := by omega
  have hw : wrap64 ((i : Int) + 1) = ((i + 1 : Nat) : Int) := by unfold wrap64; omega
  have h := of_l0 l hl d (i + 1) k (acc ++ [toP l[i]]) (by omega) (by omega) (by rw [List.length_append, List.length_singleton]; omega)
  rw [foolscaplaw29_Of.l0, if_pos (by omega), if_pos (by omega), rd23 l i hlt, foolscaplaw29_one.f, Option.bind_some, if_pos (by omega), List.drop_eq_getElem_cons hlt, List.map_cons, hw]
  rw [List.append_assoc] at h
  exact h
theorem of_ev (l : List S23) (hl : l.length ≤ 1000) : Ev (fun k => foolscaplaw29_Of.f k l) (l.map toP) := ⟨l.length + 1, fun k hk => by
 have h := of_l0 l hl l.length 0 k [] (by omega) (by omega) (by simp)
 rw [List.nil_append, List.drop_zero] at h
 exact h⟩
theorem raw_true (A0 : Option Addr) (len0 cap0 : Nat) (l : List S23) (s2 k2 p2 n2 : Int) (t2 : ByteArray) (h0 h1 h2 h3 : Int) (w : World) (hT : Aside0 (XAmb w)) (w0 : l.length = len0 ∧ len0 ≤ cap0 ∧ Kd.C k23 w A0 l.length l) :
  Calls Tryd.prog 6 #[.slice A0 len0 cap0, .agg #[.int .i64 s2, .int .i64 k2, .int .i64 p2, .int .i64 n2, .string t2], .agg #[.int .i64 h0, .int .i64 h1, .int .i64 h2, .int .i64 h3]] w fun e w' => e = .returned (.bool true) ∧ Below w.heap.size w w' := by
 obtain ⟨rfl, hc, hC⟩ := w0
 obtain ⟨K1, g1⟩ := great_ev ⟨#[]⟩ l
 obtain ⟨K2, g2⟩ := great_ev ⟨#[]⟩ [(⟨s2, k2, p2, n2, t2⟩ : S23)]
 cases hg : greatB ⟨#[]⟩ l with
 | true => rw [hg] at g1; exact raw_g1 K1 A0 cap0 l s2 k2 p2 n2 t2 h0 h1 h2 h3 w hT hC hc (g1 _ (Nat.le_refl _))
 | false =>
  rw [hg] at g1
  cases hg2 : greatB ⟨#[]⟩ [(⟨s2, k2, p2, n2, t2⟩ : S23)] with
  | true => rw [hg2] at g2; exact raw_g2 (K1 + K2) A0 cap0 l s2 k2 p2 n2 t2 h0 h1 h2 h3 w hT hC hc (g1 _ (by omega)) (g2 _ (by omega))
  | false =>
   rw [hg2] at g2
   by_cases hn : 1000 < h3
   ·exact raw_far (K1 + K2) A0 cap0 l s2 k2 p2 n2 t2 h0 h1 h2 h3 w hT hC hc (g1 _ (by omega)) (g2 _ (by omega)) hn
   ·have hl : l.length ≤ 30 := by
     unfold greatB at hg
     rw [Bool.or_eq_false_iff, Bool.or_eq_false_iff, decide_eq_false_iff_not, decide_eq_false_iff_not] at hg
     have := hg.2.1
     omega
    obtain ⟨K3, g3⟩ := of_ev l (by omega)
    obtain ⟨K4, g4⟩ := same_ev' l (by omega)
    obtain ⟨r, ⟨K5, g5⟩, hr, _⟩ := excl_any (l.map toP) h0 h1 h2 s2 k2 p2 n2 t2 h3
    rcases hr with rfl | ⟨_, d, rfl, hb, ha, hs, hI⟩
    ·exact raw_rest (K1 + K2 + K3 + K4 + K5) A0 cap0 l s2 k2 p2 n2 t2 h0 h1 h2 h3 w hT hC hc (g1 _ (by omega)) (g2 _ (by omega)) hn (l.map toP) ⟨0, 0, 0, 0, ⟨#[]⟩⟩ 1 (g3 _ (by omega)) (g5 _ (by omega)) (g4 _ (by omega)) (.inl ⟨rfl, rfl⟩)
    ·obtain ⟨K6, g6⟩ := plain_ev [d] (by simp)
     have hR := pairs_eq (two_of ha hb)
     rw [hI] at hR
     have hid : (l.map toP).map toR = l := by
      rw [List.map_map]
      have : toR ∘ toP = id := by funext x; rfl
      rw [this, List.map_id]
     dsimp only at hR
     rw [hid] at hR
     exact raw_rest (K1 + K2 + K3 + K4 + K5 + K6) A0 cap0 l s2 k2 p2 n2 t2 h0 h1 h2 h3 w hT hC hc (g1 _ (by omega)) (g2 _ (by omega)) hn (l.map toP) d 0 (g3 _ (by omega)) (g5 _ (by omega)) (g4 _ (by omega)) (.inr ⟨rfl, g6 _ (by omega), fun W => rincl_yes d.f0 d.f1 d.f2 d.f3 d.f4 s2 k2 p2 n2 t2 h3 W hs ha hb l h0 h1 h2 hR⟩)
end Go.Proofs.YtmkmpjkgpnahnaaDoor.X
