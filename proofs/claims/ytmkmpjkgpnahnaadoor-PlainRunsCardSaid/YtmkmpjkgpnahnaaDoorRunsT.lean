/-
  THE LAW PlainRuns RETURNS true: by this session. Conditions: the two tables of unicode/utf8 as they are laid.
-/
import Derived.Test.YtmkmpjkgpnahnaaDoorRef29
import Derived.Test.YtmkmpjkgpnahnaaDoorRow29
import Derived.Test.YtmkmpjkgpnahnaaDoorPx17
namespace Go.Proofs.YtmkmpjkgpnahnaaDoor.X
open Go Go.RowKit Go.Shelf Go.Proofs.YtmkmpjkgpnahnaaDoorW.PrintWords Go.Proofs.YtmkmpjkgpnahnaaDoor.P
set_option linter.unusedVariables false
def toPd (d : S23) : S33 := ⟨d.f0, d.f1, d.f2, d.f3, d.f4⟩
theorem ofd_l0 (l : List S23) (hl : l.length ≤ 1000) : ∀ d i k (acc : List S33), i + d = l.length → d + 1 ≤ k → acc.length ≤ i → foolscaplaw29_Of.l0 k l acc (i : Int) = some (acc ++ (l.drop i).map toPd)
  | 0, i, k, acc, hi, hk, ha => by
    obtain ⟨k, rfl⟩ : ∃ x, k = x + 1 := ⟨k - 1, by omega⟩
    rw [foolscaplaw29_Of.l0, if_neg (by omega), List.drop_of_length_le (by omega), List.map_nil, List.append_nil]
  | d + 1, i, k, acc, hi, hk, ha => by
    obtain ⟨k, rfl⟩ : ∃ x, k = x + 1 := ⟨k - 1, by omega⟩
    have hlt : i < l.length := by omega
    have hw : wrap64 ((i : Int) + 1) = ((i + 1 : Nat) : Int) := by unfold wrap64; omega
    have h := ofd_l0 l hl d (i + 1) k (acc ++ [toPd l[i]]) (by omega) (by omega) (by rw [List.length_append, List.length_singleton]; omega)
    rw [foolscaplaw29_Of.l0, if_pos (by omega), if_pos (by omega), rd23 l i hlt, foolscaplaw29_one.f, Option.bind_some, if_pos (by omega), List.drop_eq_getElem_cons hlt, List.map_cons, hw]
    rw [List.append_assoc] at h
    exact h
theorem ofd_f (l : List S23) (hl : l.length ≤ 1000) (k : Nat) (hk : l.length + 1 ≤ k) : foolscaplaw29_Of.f k l = some (l.map toPd) := by
  have h := ofd_l0 l hl l.length 0 k [] (by omega) (by omega) (by simp)
  rw [List.nil_append, List.drop_zero] at h
  exact h
theorem may29_any (s kd p l : Int) (t : ByteArray) (n : Int) : Ev (fun k => foolscapref29_May.f k s kd p l t n) (mayB s kd p l t n) := by
  by_cases hn : 0 ≤ n
  · exact may29_ev s kd p l t n hn
  · refine ⟨1, fun k hk => ?_⟩
    obtain ⟨m, rfl⟩ : ∃ m, k = m + 1 := ⟨k - 1, by omega⟩
    simp only [foolscapref29_May.f]
    rw [if_pos (by omega)]
    unfold mayB
    rw [decide_eq_false (by omega)]
    rfl
theorem may_k' (s kd p l : Int) (t : ByteArray) (n : Int) (k : Nat) (hk : 2 ≤ k) : plain_May.f k s kd p l t n = some (mayB s kd p l t n) := at_rounds (g := fun k => plain_May.f k s kd p l t n) (fun k => plain_May.mono s kd p l t n k) hk (may_f s kd p l t n)
theorem textL_getD (t : ByteArray) : (textOf t).getD [] = textL t := by
  unfold textL
  cases textOf t <;> rfl
theorem upon_doM (r : List Int) (d : S23) (hr : r.length ≤ 21000) (ha : allRunes r = true) : plain_upon.f r d.f0 d.f1 d.f2 d.f3 d.f4 = some (match doM r d with | none => ([], 1) | some q => (q, 0)) ∧ ∀ q, doM r d = some q → q.length ≤ 21000 ∧ allRunes q = true := by
  unfold plain_upon.f uponP doM
  rw [if_pos (by omega)]
  by_cases hm : mayB d.f0 d.f1 d.f2 d.f3 d.f4 r.length = true
  · rw [if_pos hm, if_pos hm]
    have hm' := hm
    unfold mayB at hm'
    rw [decide_eq_true_eq] at hm'
    obtain ⟨a1, a2, a3, a4, a5⟩ := hm'
    have htl := textL_len d.f4
    have e4 : allRunes (r.take d.f2.toNat ++ textL d.f4 ++ r.drop (d.f2 + d.f3).toNat) = true := by
      rw [allRunes_append, allRunes_append, allRunes_take ha, allRunes_drop ha, textL_runes]
      rfl
    have e1 : (r.take d.f2.toNat).length = min d.f2.toNat r.length := List.length_take
    have e2 : (r.drop (d.f2 + d.f3).toNat).length = r.length - (d.f2 + d.f3).toNat := List.length_drop
    obtain ⟨_, _, _, _, b2, b3, b4, b5, b6, _⟩ := mayB_of hm
    refine ⟨?_, fun q hq => ?_⟩
    · rcases a5 with a5 | a5
      · have k1 : d.f1 = 1 := a5.1
        have k3 : d.f3 = 0 := a5.2.2.2.1
        rw [if_neg (by omega), k3, Int.add_zero, List.append_assoc, textL_getD]
      · have k1 : d.f1 = 2 := a5.1
        have k4 : d.f4.toList = [] := a5.2.2.2.2.2
        have hz : textL d.f4 = [] := by
          have hs : (textL d.f4).length ≤ d.f4.size := textL_len d.f4
          have h0 : d.f4 = ⟨#[]⟩ := by
            have h := k4
            rw [Go.ByteArray.toList_eq] at h
            apply ByteArray.ext
            exact Array.ext' h
          rw [h0] at hs ⊢
          exact List.eq_nil_of_length_eq_zero (Nat.le_zero.1 hs)
        rw [if_pos k1, hz, List.append_nil, show d.f2.toNat + d.f3.toNat = (d.f2 + d.f3).toNat by omega]
    · obtain rfl := Option.some.inj hq
      refine ⟨?_, e4⟩
      rw [List.length_append, List.length_append, e1, e2]
      omega
  · rw [if_neg hm, if_neg hm]
    exact ⟨rfl, fun q hq => by cases hq⟩
theorem prun_l0 (l : List S23) (hl : l.length ≤ 1000) : ∀ d i k (r : List Int), i + d = l.length → d + 2 ≤ k → r.length ≤ 21000 → allRunes r = true → plain_Run.l0 k (l.map toPd) r 0 (i : Int) = some (match runM r (l.drop i) with | none => (⟨#[]⟩, 1) | some q => (strOf q, 0))
  | 0, i, k, r, hi, hk, hr, ha => by
    obtain ⟨k, rfl⟩ : ∃ x, k = x + 1 := ⟨k - 1, by omega⟩
    rw [plain_Run.l0, if_pos rfl, if_neg (by rw [List.length_map]; omega), List.drop_of_length_le (by omega)]
    unfold runes_Join.f
    rw [if_pos (by omega), if_pos ha]
    rfl
  | d + 1, i, k, r, hi, hk, hr, ha => by
    obtain ⟨k, rfl⟩ : ∃ x, k = x + 1 + 1 := ⟨k - 2, by omega⟩
    have hlt : i < l.length := by omega
    have hlt2 : i < (l.map toPd).length := by rw [List.length_map]; exact hlt
    have hw : wrap64 ((i : Int) + 1) = ((i + 1 : Nat) : Int) := by unfold wrap64; omega
    have e33 : (l.map toPd)[i] = toPd l[i] := List.getElem_map ..
    obtain ⟨hu, hv⟩ := upon_doM r l[i] hr ha
    rw [plain_Run.l0, if_pos rfl, if_pos (by omega), if_pos (by omega), rd33 _ i hlt2, e33, hw, List.drop_eq_getElem_cons hlt, runM]
    have hu' : plain_upon.f r (toPd l[i]).f0 (toPd l[i]).f1 (toPd l[i]).f2 (toPd l[i]).f3 (toPd l[i]).f4 = _ := hu
    rw [hu', Option.bind_some]
    cases hq : doM r l[i] with
    | none =>
      rw [plain_Run.l0]
      rfl
    | some q =>
      obtain ⟨q1, q2⟩ := hv q hq
      exact prun_l0 l hl d (i + 1) (k + 1) q (by omega) (by omega) q1 q2
theorem prun_f (t : ByteArray) (l : List S23) (ht : t.size ≤ 21000) (hl : l.length ≤ 1000) (k : Nat) (hk : l.length + 2 ≤ k) : plain_Run.f k t (l.map toPd) = some (runR t l) := by
  unfold plain_Run.f runes_Split.f runR
  rw [if_pos (by omega), Option.bind_some]
  cases hx : textOf t with
  | none =>
    obtain ⟨k, rfl⟩ : ∃ x, k = x + 1 := ⟨k - 1, by omega⟩
    dsimp only
    rw [plain_Run.l0, if_neg (by decide)]
  | some r =>
    have h1 : r.length ≤ t.size := text_len hx
    have h := prun_l0 l hl l.length 0 k r (by omega) (by omega) (by omega) (text_str hx).2
    rw [List.drop_zero] at h
    exact h
theorem runs_ev (t : ByteArray) (l : List S23) (n : Int) : ∃ k, foolscaplaw29_PlainRuns.f k t l n = some true := by
  obtain ⟨K1, h1⟩ := great_ev t l
  cases hg : greatB t l with
  | true =>
    rw [hg] at h1
    refine ⟨K1, ?_⟩
    unfold foolscaplaw29_PlainRuns.f
    rw [foolscaplaw29_alive.f, Option.bind_some, if_pos rfl]
    have g := h1 K1 (Nat.le_refl _)
    dsimp only at g
    rw [g, Option.bind_some, if_pos rfl]
  | false =>
    rw [hg] at h1
    unfold greatB at hg
    rw [Bool.or_eq_false_iff, Bool.or_eq_false_iff, decide_eq_false_iff_not, decide_eq_false_iff_not] at hg
    obtain ⟨ht, hl, _⟩ := hg
    obtain ⟨K2, h2⟩ := run29_ev t l (by omega) (by omega)
    obtain ⟨K3, h3⟩ := run29_ev t (l.take 1) (by omega) (by rw [List.length_take]; omega)
    obtain ⟨K4, h4⟩ : ∃ K4, ∀ k, K4 ≤ k → ∀ d, l[0]? = some d → foolscapref29_May.f k d.f0 d.f1 d.f2 d.f3 d.f4 n = some (mayB d.f0 d.f1 d.f2 d.f3 d.f4 n) := by
      cases hd : l[0]? with
      | none => exact ⟨0, fun k hk d h => by cases h⟩
      | some d =>
        obtain ⟨K, hK⟩ := may29_any d.f0 d.f1 d.f2 d.f3 d.f4 n
        exact ⟨K, fun k hk d' h => by obtain rfl := Option.some.inj h; exact hK k hk⟩
    refine ⟨K1 + K2 + K3 + K4 + 2000 + 1, ?_⟩
    have g1 := h1 (K1 + K2 + K3 + K4 + 2000 + 1) (by omega)
    have g2 := h2 (K1 + K2 + K3 + K4 + 2000 + 1) (by omega)
    have g3 := h3 (K1 + K2 + K3 + K4 + 2000) (by omega)
    have g4 := h4 (K1 + K2 + K3 + K4 + 2000) (by omega)
    dsimp only at g1 g2 g3
    unfold foolscaplaw29_PlainRuns.f
    rw [foolscaplaw29_alive.f, Option.bind_some, if_pos rfl, g1, Option.bind_some, if_neg (by decide), ofd_f l (by omega) _ (by omega), Option.bind_some, prun_f t l (by omega) (by omega) _ (by omega), Option.bind_some, g2, Option.bind_some, if_pos rfl, bne_self_eq_false, foolscaplaw29_PlainRuns.j0, if_neg (by decide)]
    by_cases h0 : l.length = 0
    · rw [if_pos (by omega)]
    · have hlt : 0 < l.length := by omega
      have hd0 : l[0]? = some l[0] := List.getElem?_eq_getElem hlt
      have et : l.take 1 = [l[0]] := by
        cases l with
        | nil => simp at hlt
        | cons x l => rfl
      have hA := prun_f t [l[0]] (by omega) (by simp) (K1 + K2 + K3 + K4 + 2000) (by show 1 + 2 ≤ _; omega)
      have hr0 : rd_T23 l 0 = l[0] := rd23 l 0 hlt
      rw [et] at g3
      have hAp : plain_Apply.f (K1 + K2 + K3 + K4 + 2000) t l[0].f0 l[0].f1 l[0].f2 l[0].f3 l[0].f4 = some (runR t [l[0]]) := by
        unfold plain_Apply.f
        have h : plain_Run.f (K1 + K2 + K3 + K4 + 2000) t [(⟨l[0].f0, l[0].f1, l[0].f2, l[0].f3, l[0].f4⟩ : S33)] = some (runR t [l[0]]) := hA
        rw [h, Option.bind_some]
      rw [if_neg (by omega), if_pos (by omega), hr0, foolscaplaw29_one.f, Option.bind_some]
      dsimp only
      rw [hAp, Option.bind_some, if_pos (by omega), et, g3, Option.bind_some, if_pos rfl, if_pos rfl, Option.bind_some]
      dsimp only
      rw [may_k' _ _ _ _ _ _ _ (by omega), Option.bind_some, g4 _ hd0, Option.bind_some, beq_self_eq_true]
theorem runs_true (a0 : ByteArray) (A1 : Option Addr) (len1 cap1 : Nat) (l1 : List S23) (a2 : Int) (W : World) (hT : Aside0 (XAmb W)) (w1 : l1.length = len1 ∧ len1 ≤ cap1 ∧ Kd.C k23 W A1 l1.length l1) :
    Calls Tryd.prog 7 #[.string a0, .slice A1 len1 cap1, .int .i64 a2] W fun e w' => e = .returned (.bool true) ∧ Below W.heap.size W w' := by
  obtain ⟨rfl, hc, hC⟩ := w1
  obtain ⟨k, hk⟩ := runs_ev a0 l1 a2
  exact foolscaplaw29_PlainRuns.calls k a0 A1 cap1 l1 a2 true W hT hC hc hk
end Go.Proofs.YtmkmpjkgpnahnaaDoor.X
