/-
  blame.live: its contract in the print's form: by this session. Conditions: at most 20000 cells.
-/
import Derived.Test.YtkglfgikfeebhaaNewY
namespace Go.Proofs.Ytkglfgikfeebhaa.X
open Go Go.RowKit Go.Shelf Go.Lib Go.Proofs.YtkglfgikfeebhaaW.PrintWords Go.Proofs.Ytkglfgikfeebhaa.P
set_option linter.unusedVariables false
def blame_live.f (l0 : List S46) : Option (List S46 × Bool) := if l0.length ≤ 20000 then some (if codeN l0 = 0 then (liveL l0, true) else ([], false)) else none
theorem new_any (A : Option Addr) (c : Nat) (l : List S46) (w : World) (hC : Kd.C k46 w A l.length l) (hc : l.length ≤ c) (hl : l.length ≤ 20000) (z : Int) (hz : codeN l = z) :
    Calls Try.prog 24 #[.slice A l.length c] w fun e w' => ∃ p, e = .returned (.tuple #[.pointer p, .int .i64 z]) ∧ Below w.heap.size w w' := by
  by_cases h0 : codeN l = 0
  · rw [h0] at hz
    subst hz
    exact new_yes A c l w hC hc hl h0
  · subst hz
    exact new_no A c l w hC hl h0
set_option maxRecDepth 100000 in
set_option maxHeartbeats 8000000 in
theorem live_no (A : Option Addr) (c : Nat) (l : List S46) (w : World) (hC : Kd.C k46 w A l.length l) (hc : l.length ≤ c) (hl : l.length ≤ 20000) (h0 : codeN l ≠ 0) :
    Calls Try.prog 17 #[.slice A l.length c] w fun e w' => e = .returned (.tuple #[.slice none 0 0, .bool false]) ∧ Below w.heap.size w w' := by
  obtain ⟨z, hz⟩ : ∃ z, codeN l = z := ⟨_, rfl⟩
  have hN := new_any A c l w hC hc hl z hz
  have h1 : (z != 0) = true := by rw [bne_iff_ne, ← hz]; exact h0
  obtain ⟨n, hn⟩ : ∃ n, l.length = n := ⟨_, rfl⟩
  rw [hn] at hN ⊢
  clear hC hc hl h0 hz hn
  go_enter Try.func17, Try.ntmps17
  go_wp2_with (go_at_call 24; refine hN.mono ?_; rintro e w1 ⟨p, rfl, hb⟩)
  go_ret2
  exact ⟨rfl, hb⟩
set_option maxRecDepth 100000 in
set_option maxHeartbeats 8000000 in
theorem live_yes (A : Option Addr) (c : Nat) (l : List S46) (w : World) (hC : Kd.C k46 w A l.length l) (hc : l.length ≤ c) (hl : l.length ≤ 20000) (h0 : codeN l = 0) :
    Calls Try.prog 17 #[.slice A l.length c] w fun e w' => ∃ v, e = .returned (.tuple #[v, .bool true]) ∧ Rc w' w.heap.size v (liveL l) ∧ Below w.heap.size w w' := by
  have hN := new_any A c l w hC hc hl 0 h0
  have hCl := fun w' (hb : Below w.heap.size w w') => clone_c A c l w' (Kd.C_below hC hb) hc (by omega)
  have hDl := fun (v : Value) (w' : World) (h : Rc w' w.heap.size v l) (hs : w.heap.size ≤ w'.heap.size) => delf_c w.heap.size v l w' h (by omega) hs
  obtain ⟨n, hn⟩ : ∃ n, l.length = n := ⟨_, rfl⟩
  rw [hn] at hN hCl ⊢
  clear hC hc hl h0 hn
  go_enter Try.func17, Try.ntmps17
  go_wp2_with (first
    | (go_at_call 24; refine hN.mono ?_; rintro e w1 ⟨p, rfl, hb⟩; have HB := Lib.hid hb; clear hb hN)
    | (go_at_call 27; refine (hCl _ HB.out).mono ?_; rintro e w2 ⟨v, rfl, hv, hb⟩; have HV := Lib.hid (Kd.R_lower hv HB.out.size); have HB2 := Lib.hid (below_step HB.out hb); clear HB hCl hv hb)
    | (go_at_call 26; refine (hDl _ _ HV.out HB2.out.size).mono ?_; rintro e w3 ⟨v3, rfl, hv3, hb3⟩; have HV3 := Lib.hid (And.intro hv3 (hb3 _ HB2.out)); clear hDl hv3 hb3))
  go_ret2
  exact ⟨_, rfl, HV3.out.1, HV3.out.2⟩
theorem blame_live.calls (A0 : Option Addr) (c0 : Nat) (l0 : List S46) (r1 : List S46) (r2 : Bool) (w : World) (hr0 : Kd.C k46 w A0 l0.length l0) (hc0 : l0.length ≤ c0) (h : blame_live.f l0 = some (r1, r2)) :
    Calls Try.prog 17 #[.slice A0 l0.length c0] w fun e w' => ∃ v0_ : Value, e = .returned (.tuple #[v0_, .bool r2]) ∧ Kd.R k46 46 w' w.heap.size (fun _ => True) v0_ r1 ∧ Below w.heap.size w w' := by
  unfold blame_live.f at h
  split at h
  · rename_i hl
    by_cases h0 : codeN l0 = 0
    · rw [if_pos h0] at h
      simp only [Option.some.injEq, Prod.mk.injEq] at h
      obtain ⟨rfl, rfl⟩ := h
      exact live_yes A0 c0 l0 w hr0 hc0 hl h0
    · rw [if_neg h0] at h
      simp only [Option.some.injEq, Prod.mk.injEq] at h
      obtain ⟨rfl, rfl⟩ := h
      refine (live_no A0 c0 l0 w hr0 hc0 hl h0).mono ?_
      rintro e w' ⟨rfl, hb⟩
      exact ⟨_, rfl, Kd.R_nil _ _ _ _ _, hb⟩
  · cases h
end Go.Proofs.Ytkglfgikfeebhaa.X
