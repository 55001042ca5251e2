/-
  A region that draws its order, in a round of a range over a function: the plain law serves: by this session. Conditions: as typed.
-/
import Derived.Test.YtkglfgikfeebhaaWLast
import Derived.OrdersIn
import Derived.RangeFuncNested
import Derived.TacticsIn
import Derived.TacticsInMore
import Derived.RangeFuncCalls
namespace Go.Proofs.Ytkglfgikfeebhaa.X
open Go Go.RowKit
set_option linter.unusedVariables false
theorem uponIn_wide {n l : Nat} {P : Program} {o : Oper} {a : Act} {K K' : Act → World → Prop} {Q : Exit → Act → World → Prop} (hK : ∀ a w, K a w → K' a w) :
    ∀ r : Result Next, o.upon P a K Q r → o.uponIn (Fence.wide.inRound l) n P a K' Q r := by
  intro r h
  cases r with
  | ok x w =>
    cases x with
    | value v => exact hK _ _ h
    | skip => exact hK _ _ h
    | defer d => exact hK _ _ h
    | enter f args =>
      refine ⟨fun h => (by cases h), ?_⟩
      refine (CallsIn.inRound l (callsIn_wide.2 h)).mono ?_
      intro e w' he
      cases e with
      | returned v => exact hK _ _ he
      | panicked c => exact he
      | outgrown => exact he
    | row row args =>
      exact ⟨fun h => (by cases h), fun c cs _ => let ⟨v, w', r, s⟩ := h c cs; ⟨v, w', hK _ _ r, stepsIn_wide.2 s⟩⟩
    | _ => exact h.elim
  | halt hh w => cases hh <;> exact h
theorem wpOp_round {n l : Nat} {P : Program} {ops : Array Oper} {Q : Exit → Act → World → Prop} {i : Nat} {K K' : Act → World → Prop} {a : Act} {w : World}
    (hnd : ∀ (j : Nat) (o : Oper), ops[j]? = some o → ∀ c, o.op ≠ .defer c) (hnl : ¬ LetsOut Q) (hK : ∀ a w, K a w → K' a w) (h : wpOp P ops Q i K a w) : wpOpIn (Fence.wide.inRound l) n P ops Q i K' a w := by
  unfold wpOp at h
  unfold wpOpIn
  cases ho : ops[i]? with
  | none =>
    rw [ho] at h
    exact hK _ _ h
  | some o =>
    rw [ho] at h
    simp only at h ⊢
    split
    · rename_i hw
      rw [if_pos hw] at h
      rcases h with h | h
      · refine ⟨fun _ _ => trivial, ?_⟩
        rw [show (Fence.wide.inRound l).round = some l from rfl, Oper.semAt_some l _ o (hnd i o ho)]
        exact uponIn_wide hK _ h
      · exact absurd h.2 hnl
    · rename_i hw
      rw [if_neg hw] at h
      exact ⟨fun _ _ => trivial, hK _ _ h⟩
theorem any_round {n l : Nat} {P : Program} {md : Region.Mode} {ops : Array Oper} {Q : Exit → Act → World → Prop} (hnd : ∀ (j : Nat) (o : Oper), ops[j]? = some o → ∀ c, o.op ≠ .defer c) (hnl : ¬ LetsOut Q) :
    ∀ (fuel : Nat) (listed : Array Bool) (a : Act) (w : World), wpAny P md ops Q fuel listed a w → wpAnyIn (Fence.wide.inRound l) n P md ops Q fuel listed a w
  | 0, _, _, _, h => h
  | fuel + 1, _, _, _, h => ⟨h.1, fun i hi => wpOp_round hnd hnl (fun a' w' h' => any_round hnd hnl fuel _ a' w' h') (h.2 i hi)⟩
def isNoDefer (o : Oper) : Bool := match o.op with
  | .defer _ => false
  | _ => true
theorem noDefer {ops : Array Oper} (h : ops.all isNoDefer = true) : ∀ (j : Nat) (o : Oper), ops[j]? = some o → ∀ c, o.op ≠ .defer c := by
  intro j o hj c hc
  have := Array.all_eq_true'.1 h o (Array.mem_of_getElem? hj)
  simp [isNoDefer, hc] at this
/-- A region that draws its order, in a round: by the held walk's words. -/
theorem region_round {n l id m : Nat} {P : Program} {ops : Array Oper} {Q : Exit → Act → World → Prop} (S : World → Prop) (ds : List Nat) {a : Act} {w : World} (l0 : Array Bool) (hm : P.follows .mixedOrders = true)
    (hnd : ops.all isNoDefer = true) (hnl : ¬ LetsOut Q) (hs : ops.size = m) (hl : Array.replicate m false = l0) (hS : S w.drew)
    (h : S w.drew → Go.Proofs.YtkglfgikfeebhaaW.PrintLast.wpAnyLast P .any ops Q S ds m l0 a w.drew) : (Code.region id ops true).wpIn (Fence.wide.inRound l) n P Q a w := by
  subst hs
  subst hl
  exact wpIn_region_any hm (any_round (noDefer hnd) hnl _ _ _ _ (Go.Proofs.YtkglfgikfeebhaaW.PrintLast.wpAny_of_last _ _ _ _ (h hS)))
end Go.Proofs.Ytkglfgikfeebhaa.X
