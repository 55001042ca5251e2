/-
  Two texts as one (RefLv, Round): by this session, or printed. Conditions: as typed.
-/
import Derived.Test.YtkglfgikfeebhaaRows
import Derived.Deep.DeepHandedRow
import Derived.KernelRfl
import Derived.Test.YtkglfgikfeebhaaPx0
import Derived.Test.YtkglfgikfeebhaaDf
import Derived.Test.YtkglfgikfeebhaaPx4
import Derived.Test.YtkglfgikfeebhaaWLast
import Derived.OrdersIn
import Derived.RangeFuncNested
import Derived.TacticsIn
import Derived.TacticsInMore
import Derived.RangeFuncCalls
namespace Go.Proofs.Ytkglfgikfeebhaa.X
open Go
set_option linter.unusedVariables false
theorem tabs_of_laid {W : World} (h : laidMetH Try.prog [] W) : True := trivial
noncomputable def laidWorld (os : Os) : World := World.holding Try.prog os ⟨#[], #[], []⟩
end Go.Proofs.Ytkglfgikfeebhaa.X
namespace Go.Proofs.Ytkglfgikfeebhaa.P
open Go.RowKit Go.Proofs.Ytkglfgikfeebhaa.X Go.Proofs.YtkglfgikfeebhaaW.PrintWords Go.Proofs.YtkglfgikfeebhaaW.PrintLast Go.Proofs.YtkglfgikfeebhaaW.PrintMore
attribute [local go_sem] max2_int min2_int max_two min_two max_three min_three max_four min_four   -- for this text's walks alone
set_option linter.unusedVariables false
set_option linter.unusedSimpArgs false

theorem eqA29 (d : Nat) (w : World) (x0 y0 : Int) (x1 y1 : Int) :
  (Op.equalIn (d + 2) 29 (.agg #[.int .i64 x0, .int .i64 x1]) (.agg #[.int .i64 y0, .int .i64 y1])).run Try.prog w = .ok (x0 == y0 && (x1 == y1)) w := by
 refine eqA_of Try.underlying29 (by kernel_rfl) ?_
 refine eqf_cons (by rfl) (by go_simp; rfl) (by go_simp; rfl) (by go_simp) ?_
 exact eqf_last (by rfl) (by go_simp; rfl) (by go_simp; rfl) (by go_simp)
end Go.Proofs.Ytkglfgikfeebhaa.P
namespace Go.Proofs.Ytkglfgikfeebhaa.X
open Go Go.RowKit Go.Lib Go.Proofs.YtkglfgikfeebhaaW.PrintWords Go.Proofs.Ytkglfgikfeebhaa.P
set_option linter.unusedVariables false
theorem ref_live_l0 (l : List S46) (hl : l.length ≤ 100000) : ∀ (f k i : Nat) (acc : List S46), l.length = i + f → acc.length ≤ i → foolscapref30_Live.l0 (k + f + 1) l acc (i : Int) = some (acc ++ liveL (l.drop i)) := by
  intro f
  induction f with
  | zero =>
    intro k i acc hi ha
    obtain ⟨m, hm⟩ : ∃ m, k + 0 = m := ⟨_, rfl⟩
    rw [hm, foolscapref30_Live.l0, if_neg (by omega), List.drop_of_length_le (by omega)]
    simp [liveL]
  | succ f ih =>
    intro k i acc hi ha
    have hlt : i < l.length := by omega
    rw [show k + (f + 1) + 1 = (k + f + 1) + 1 by omega, foolscapref30_Live.l0, if_pos (by omega), if_pos (by omega), rd46 l i hlt, w_s i (by omega), List.drop_eq_getElem_cons hlt]
    by_cases hd : l[i].f3 = true
    · rw [if_pos hd, ih k (i + 1) acc (by omega) (by omega), show liveL (l[i] :: l.drop (i + 1)) = liveL (l.drop (i + 1)) by unfold liveL; rw [List.filter_cons, if_neg (by rw [hd]; decide)]]
    · rw [if_neg hd, if_pos (by omega)]
      have e : (⟨⟨l[i].f0.f0, l[i].f0.f1⟩, l[i].f1, l[i].f2, l[i].f3⟩ : S46) = l[i] := rfl
      rw [e, ih k (i + 1) _ (by omega) (by rw [List.length_append, List.length_singleton]; omega), show liveL (l[i] :: l.drop (i + 1)) = l[i] :: liveL (l.drop (i + 1)) by unfold liveL; rw [List.filter_cons, if_pos (by simpa using hd)], List.append_assoc]
      rfl
theorem ref_live_f (l : List S46) (hl : l.length ≤ 100000) (k : Nat) : foolscapref30_Live.f (k + l.length + 1) l = some (liveL l) := by
  have := ref_live_l0 l hl l.length k 0 [] (by omega) (by simp)
  rw [List.drop_zero] at this
  exact this
end Go.Proofs.Ytkglfgikfeebhaa.X
namespace Go.Proofs.Ytkglfgikfeebhaa.X
open Go Go.RowKit
set_option linter.unusedVariables false
theorem uponIn_wide {n l : Nat} {P : Program} {o : Oper} {a : Act} {K K' : Act → World → Prop} {Q : Exit → Act → World → Prop} (hK : ∀ a w, K a w → K' a w) :
    ∀ r : Result Next, o.upon P a K Q r → o.uponIn (Fence.wide.inRound l) n P a K' Q r := by
  intro r h
  cases r with
  | ok x w =>
    cases x with
    | value v => exact hK _ _ h
    | skip => exact hK _ _ h
    | defer d => exact hK _ _ h
    | enter f args =>
      refine ⟨fun h => (by cases h), ?_⟩
      refine (CallsIn.inRound l (callsIn_wide.2 h)).mono ?_
      intro e w' he
      cases e with
      | returned v => exact hK _ _ he
      | panicked c => exact he
      | outgrown => exact he
    | row row args =>
      exact ⟨fun h => (by cases h), fun c cs _ => let ⟨v, w', r, s⟩ := h c cs; ⟨v, w', hK _ _ r, stepsIn_wide.2 s⟩⟩
    | _ => exact h.elim
  | halt hh w => cases hh <;> exact h
theorem wpOp_round {n l : Nat} {P : Program} {ops : Array Oper} {Q : Exit → Act → World → Prop} {i : Nat} {K K' : Act → World → Prop} {a : Act} {w : World}
    (hnd : ∀ (j : Nat) (o : Oper), ops[j]? = some o → ∀ c, o.op ≠ .defer c) (hnl : ¬ LetsOut Q) (hK : ∀ a w, K a w → K' a w) (h : wpOp P ops Q i K a w) : wpOpIn (Fence.wide.inRound l) n P ops Q i K' a w := by
  unfold wpOp at h
  unfold wpOpIn
  cases ho : ops[i]? with
  | none =>
    rw [ho] at h
    exact hK _ _ h
  | some o =>
    rw [ho] at h
    simp only at h ⊢
    split
    · rename_i hw
      rw [if_pos hw] at h
      rcases h with h | h
      · refine ⟨fun _ _ => trivial, ?_⟩
        rw [show (Fence.wide.inRound l).round = some l from rfl, Oper.semAt_some l _ o (hnd i o ho)]
        exact uponIn_wide hK _ h
      · exact absurd h.2 hnl
    · rename_i hw
      rw [if_neg hw] at h
      exact ⟨fun _ _ => trivial, hK _ _ h⟩
theorem any_round {n l : Nat} {P : Program} {md : Region.Mode} {ops : Array Oper} {Q : Exit → Act → World → Prop} (hnd : ∀ (j : Nat) (o : Oper), ops[j]? = some o → ∀ c, o.op ≠ .defer c) (hnl : ¬ LetsOut Q) :
    ∀ (fuel : Nat) (listed : Array Bool) (a : Act) (w : World), wpAny P md ops Q fuel listed a w → wpAnyIn (Fence.wide.inRound l) n P md ops Q fuel listed a w
  | 0, _, _, _, h => h
  | fuel + 1, _, _, _, h => ⟨h.1, fun i hi => wpOp_round hnd hnl (fun a' w' h' => any_round hnd hnl fuel _ a' w' h') (h.2 i hi)⟩
def isNoDefer (o : Oper) : Bool := match o.op with
  | .defer _ => false
  | _ => true
theorem noDefer {ops : Array Oper} (h : ops.all isNoDefer = true) : ∀ (j : Nat) (o : Oper), ops[j]? = some o → ∀ c, o.op ≠ .defer c := by
  intro j o hj c hc
  have := Array.all_eq_true'.1 h o (Array.mem_of_getElem? hj)
  simp [isNoDefer, hc] at this
/-- A region that draws its order, in a round: by the held walk's words. -/
theorem region_round {n l id m : Nat} {P : Program} {ops : Array Oper} {Q : Exit → Act → World → Prop} (S : World → Prop) (ds : List Nat) {a : Act} {w : World} (l0 : Array Bool) (hm : P.follows .mixedOrders = true)
    (hnd : ops.all isNoDefer = true) (hnl : ¬ LetsOut Q) (hs : ops.size = m) (hl : Array.replicate m false = l0) (hS : S w.drew)
    (h : S w.drew → Go.Proofs.YtkglfgikfeebhaaW.PrintLast.wpAnyLast P .any ops Q S ds m l0 a w.drew) : (Code.region id ops true).wpIn (Fence.wide.inRound l) n P Q a w := by
  subst hs
  subst hl
  exact wpIn_region_any hm (any_round (noDefer hnd) hnl _ _ _ _ (Go.Proofs.YtkglfgikfeebhaaW.PrintLast.wpAny_of_last _ _ _ _ (h hS)))
end Go.Proofs.Ytkglfgikfeebhaa.X
