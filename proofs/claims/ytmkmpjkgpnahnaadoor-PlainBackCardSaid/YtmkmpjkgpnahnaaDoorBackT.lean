/-
  THE LAW PlainBack RETURNS true: by this session. Conditions: the two tables of unicode/utf8 as they are laid.
-/
import Derived.Test.YtmkmpjkgpnahnaaDoorBackW
import Derived.Test.YtmkmpjkgpnahnaaDoorGreat
namespace Go.Proofs.YtmkmpjkgpnahnaaDoor.X
open Go Go.RowKit Go.Shelf Go.Proofs.YtmkmpjkgpnahnaaDoorW.PrintWords Go.Proofs.YtmkmpjkgpnahnaaDoor.P
set_option linter.unusedVariables false
theorem back_true (s1 k1 p1 n1 : Int) (t1 : ByteArray) (s2 k2 p2 n2 : Int) (t2 : ByteArray) (n : Int) (w : World) (hT : Aside0 (XAmb w)) :
    Calls Tryd.prog 5 #[.agg #[.int .i64 s1, .int .i64 k1, .int .i64 p1, .int .i64 n1, .string t1], .agg #[.int .i64 s2, .int .i64 k2, .int .i64 p2, .int .i64 n2, .string t2], .int .i64 n] w fun e w' => e = .returned (.bool true) ∧ Below w.heap.size w w' := by
  obtain ⟨K1, h1⟩ := great_ev ⟨#[]⟩ [(⟨s1, k1, p1, n1, t1⟩ : S23), ⟨s2, k2, p2, n2, t2⟩]
  cases hg : greatB ⟨#[]⟩ [(⟨s1, k1, p1, n1, t1⟩ : S23), ⟨s2, k2, p2, n2, t2⟩] with
  | true => exact backw_great K1 s1 k1 p1 n1 t1 s2 k2 p2 n2 t2 n w hT _ rfl (by have := h1 K1 (Nat.le_refl _); rw [hg] at this; exact this)
  | false =>
    rw [hg] at h1
    have hno : plain_Incl.f s1 k1 p1 n1 t1 s2 k2 p2 n2 t2 n = some ([], 0, 0, 0, 1) → Calls Tryd.prog 5 #[.agg #[.int .i64 s1, .int .i64 k1, .int .i64 p1, .int .i64 n1, .string t1], .agg #[.int .i64 s2, .int .i64 k2, .int .i64 p2, .int .i64 n2, .string t2], .int .i64 n] w fun e w' => e = .returned (.bool true) ∧ Below w.heap.size w w' := fun hf => backw_err K1 s1 k1 p1 n1 t1 s2 k2 p2 n2 t2 n w hT _ rfl (h1 _ (Nat.le_refl _)) [] 0 0 0 1 (by decide) hf
    by_cases hs : s1 = s2
    · exact hno (by unfold plain_Incl.f; rw [if_pos hs])
    · cases ha : mayB s1 k1 p1 n1 t1 n with
      | false => exact hno (by unfold plain_Incl.f; rw [if_neg hs, if_neg (by rw [ha]; decide)])
      | true =>
        cases hb : mayB s2 k2 p2 n2 t2 n with
        | false => exact hno (by unfold plain_Incl.f; rw [if_neg hs, if_pos ha, if_neg (by rw [hb]; decide)])
        | true =>
          obtain ⟨L, q1, q2, q3, hP⟩ : ∃ L q1 q2 q3, inclP s1 k1 p1 n1 t1 s2 k2 p2 n2 t2 = (L, q1, q2, q3) := ⟨_, _, _, _, rfl⟩
          obtain ⟨g1, g2⟩ := excl_back hs ha hb hP
          have hf : plain_Incl.f s1 k1 p1 n1 t1 s2 k2 p2 n2 t2 n = some (L, q1, q2, q3, 0) := by unfold plain_Incl.f; rw [if_neg hs, if_pos ha, if_pos hb, hP]
          by_cases hL : L = []
          · obtain ⟨d1, K2, h2⟩ := g2 hL
            subst hL
            exact backw_none (K1 + K2) s1 k1 p1 n1 t1 s2 k2 p2 n2 t2 n w hT _ rfl d1 (h1 _ (by omega)) q1 q2 q3 hf (h2 _ (by omega))
          · obtain ⟨K2, h2⟩ := g1 hL
            exact backw_some (K1 + K2) s1 k1 p1 n1 t1 s2 k2 p2 n2 t2 n w hT _ rfl (h1 _ (by omega)) L q1 q2 q3 hf (h2 _ (by omega)) hL
end Go.Proofs.YtmkmpjkgpnahnaaDoor.X
