/-
  What foolscapref01's Len tells: by this session. Conditions: as typed.
-/
import Derived.Test.YtfhnepihbofabaaDoorRef1
import Derived.Test.YtfhnepihbofabaaDoorPx3
namespace Go.Proofs.YtfhnepihbofabaaDoor.X
open Go Go.RowKit Go.Shelf Go.Proofs.YtfhnepihbofabaaDoorW.PrintWords Go.Proofs.YtfhnepihbofabaaDoor.P
set_option linter.unusedVariables false
theorem len_ev (s : ByteArray) (hs : s.size ≤ 35184372088831) : Ev (fun k => foolscapref01_Len.f k s) (lenU s) := by
  obtain ⟨K, hK⟩ := split_ev s hs
  refine ⟨K, fun k hk => ?_⟩
  have e := hK k hk
  unfold foolscapref01_Len.f
  dsimp only at e ⊢
  rw [e, Option.bind_some]
  cases ht : textOf s with
  | none => rw [lenU_of_none ht]; rfl
  | some l => rw [lenU_of_some ht]; rfl
theorem stp_len (s : ByteArray) : ∀ f pos, pos ≤ s.size → (stp s f pos).length ≤ s.size - pos
  | 0, pos, _ => by simp [stp]
  | f + 1, pos, hp => by
    simp only [stp]
    split
    · rename_i h
      split
      · simp; omega
      · have h1 := decode_pos s pos h
        have h2 := decode_le s pos h
        have := stp_len s f (pos + (Utf8.decode s pos).2) h2
        simp only [List.length_cons]
        omega
    · simp
theorem text_len {s : ByteArray} {l : List Int} (h : textOf s = some l) : l.length ≤ s.size := by
  unfold textOf at h
  split at h
  · obtain rfl := Option.some.inj h
    have := stp_len s s.size 0 (Nat.zero_le _)
    simpa using this
  · cases h
end Go.Proofs.YtfhnepihbofabaaDoor.X
