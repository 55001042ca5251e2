/-
  The cells of a row of whole numbers: by this session. Conditions: as typed.
-/
import Derived.Test.YtabhfloclcmjnaaDoorSplit
namespace Go.Proofs.YtabhfloclcmjnaaDoor.X
open Go Go.RowKit Go.Shelf Go.Proofs.YtabhfloclcmjnaaDoorW.PrintWords
set_option linter.unusedVariables false
theorem info_int : (Tryd.prog.info? 3).map (fun i => (i.zero, i.size, i.bytes)) = some (some (.int .i64 0), 1, 8) := by kernel_rfl
/-- The cells of a row of whole numbers. -/
theorem R_cells {k : IntKind} {e base g cap n : Nat} {ok : Nat → Prop} {W : World} {xs : List Int} (h : Kd.R (Kd.int k) e W base ok (.slice (some ⟨g, 0, none⟩) n cap) xs) (i : Nat) (hi : i < xs.length) :
    W.cell? ⟨g, i, none⟩ = some (.int k (xs.getD i 0)) := by
  obtain ⟨rfl, _, hc⟩ := Kd.R_reads' h
  obtain ⟨ad, c, ha, _, hk, hcell⟩ := Kd.C_get hc 0 (i : Int) (by omega) (by omega)
  obtain rfl := Option.some.inj ha
  have hk2 : c = [.int k (xs.getD i 0)] := by rw [Int.toNat_natCast] at hk; exact hk
  have h3 := hcell 0 (.int k (xs.getD i 0)) (by rw [hk2]; rfl)
  have e1 : (Kd.int k).sz = 1 := rfl
  rw [e1] at h3
  rw [Int.toNat_natCast, Nat.mul_one, Nat.add_zero] at h3
  have e2 : (Addr.add ⟨g, 0, none⟩ i) = ⟨g, i, none⟩ := by
    unfold Addr.add
    split
    · rename_i h; subst h; rfl
    · simp
  rwa [e2] at h3

theorem R_frozen {k : IntKind} {e base g cap n : Nat} {ok : Nat → Prop} {W : World} {xs : List Int} (h : Kd.R (Kd.int k) e W base ok (.slice (some ⟨g, 0, none⟩) n cap) xs) (hn : 0 < xs.length) (i : Nat) :
    W.frozen? ⟨g, i, none⟩ = false := by
  obtain ⟨g', c', he, _, _, cl, hcl⟩ := Kd.R_form h hn
  injection he with e1
  injection e1 with e2
  injection e2 with e3
  subst e3
  exact blk_frozen hcl i
end Go.Proofs.YtabhfloclcmjnaaDoor.X
