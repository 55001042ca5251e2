/-
  package gap: run on a Buffer in memory: by this session. Conditions: as typed.
-/
import Derived.Test.YtfhnepihbofabaaDoorGap3
namespace Go.Proofs.YtfhnepihbofabaaDoor.X
open Go Go.RowKit Go.Proofs.YtfhnepihbofabaaDoorW.PrintWords
set_option linter.unusedVariables false
set_option maxRecDepth 100000 in
set_option maxHeartbeats 4000000 in
theorem run_z {W : World} {X : Nat → Prop} {g m : Nat} {A B ah be : List Int} (h : Zip W X g A m B ah be) (hb : A.length + m + B.length ≤ 1000000) (at_ n : Int) :
    Calls Tryd.prog 38 #[.pointer (some ⟨g, 0, none⟩), .int .i64 at_, .int .i64 n] W fun e w' => e = .returned (.bool (decide (0 ≤ at_ ∧ at_ ≤ ((A.length + B.length : Nat) : Int) ∧ 0 ≤ n ∧ n ≤ ((A.length + B.length : Nat) : Int) - at_))) ∧ ∃ q, w' = W.drewN q := by
  obtain ⟨s, hs⟩ : ∃ s, A.length + B.length = s := ⟨_, rfl⟩
  have hL : ∀ q, Calls Tryd.prog 19 #[.pointer (some ⟨g, 0, none⟩)] (W.drewN q) fun e w' => e = .returned (.int .i64 (s : Int)) ∧ ∃ m, w' = (W.drewN q).drewN m := fun q => hs ▸ len_z (h.drewN q) hb
  have hL0 := hL 0
  have hs2 : s ≤ 1000000 := by omega
  rw [hs]
  clear h hb hs
  by_cases h1 : 0 ≤ at_
  · by_cases h2 : at_ ≤ (s : Int)
    · by_cases h3 : 0 ≤ n
      · have e1 : wrap64 ((s : Int) - at_) = (s : Int) - at_ := by unfold wrap64; omega
        have hd : decide (0 ≤ at_ ∧ at_ ≤ (s : Int) ∧ 0 ≤ n ∧ n ≤ (s : Int) - at_) = decide (n ≤ (s : Int) - at_) := by simp [h1, h2, h3]
        rw [hd]
        have d1 : decide (0 ≤ at_) = true := decide_eq_true h1
        have d2 : decide (at_ ≤ (s : Int)) = true := decide_eq_true h2
        have d3 : decide (0 ≤ n) = true := decide_eq_true h3
        clear h1 h2 h3 hd
        go_enter Tryd.func38, Tryd.ntmps38
        go_wp2_with (go_at_call 19; refine Calls.mono (by first | exact hL0 | exact hL _) ?_; rintro e w' ⟨rfl, q, rfl⟩)
        go_ret
        exact ⟨rfl, _, rfl⟩
      · have hd : decide (0 ≤ at_ ∧ at_ ≤ (s : Int) ∧ 0 ≤ n ∧ n ≤ (s : Int) - at_) = false := by simp [h3]
        rw [hd]
        have d1 : decide (0 ≤ at_) = true := decide_eq_true h1
        have d2 : decide (at_ ≤ (s : Int)) = true := decide_eq_true h2
        have d3 : decide (0 ≤ n) = false := decide_eq_false h3
        clear h1 h2 h3 hd
        go_enter Tryd.func38, Tryd.ntmps38
        go_wp2_with (go_at_call 19; refine Calls.mono (by first | exact hL0 | exact hL _) ?_; rintro e w' ⟨rfl, q, rfl⟩)
        go_ret
        exact ⟨rfl, _, rfl⟩
    · have hd : decide (0 ≤ at_ ∧ at_ ≤ (s : Int) ∧ 0 ≤ n ∧ n ≤ (s : Int) - at_) = false := by simp [h2]
      rw [hd]
      have d1 : decide (0 ≤ at_) = true := decide_eq_true h1
      have d2 : decide (at_ ≤ (s : Int)) = false := decide_eq_false h2
      clear h1 h2 hd
      go_enter Tryd.func38, Tryd.ntmps38
      go_wp2_with (go_at_call 19; refine Calls.mono (by first | exact hL0 | exact hL _) ?_; rintro e w' ⟨rfl, q, rfl⟩)
      go_ret
      exact ⟨rfl, _, rfl⟩
  · have hd : decide (0 ≤ at_ ∧ at_ ≤ (s : Int) ∧ 0 ≤ n ∧ n ≤ (s : Int) - at_) = false := by simp [h1]
    rw [hd]
    have d1 : decide (0 ≤ at_) = false := decide_eq_false h1
    clear h1 hd
    go_enter Tryd.func38, Tryd.ntmps38
    go_wp2_with (go_at_call 19; refine Calls.mono (by first | exact hL0 | exact hL _) ?_; rintro e w' ⟨rfl, q, rfl⟩)
    go_ret
    exact ⟨rfl, 0, rfl⟩
end Go.Proofs.YtfhnepihbofabaaDoor.X
