/-
  The cells of a row of deeds, by this session. Conditions: as typed.
-/
import Derived.Test.YtmkmpjkgpnahnaaDoorBox
import Derived.Test.YtmkmpjkgpnahnaaDoorPx0
namespace Go.Proofs.YtmkmpjkgpnahnaaDoor.X
open Go Go.RowKit Go.Proofs.YtmkmpjkgpnahnaaDoorW.PrintWords Go.Proofs.YtmkmpjkgpnahnaaDoor.P
set_option linter.unusedVariables false
theorem add_head (g k : Nat) : (⟨g, 0, none⟩ : Addr).add k = ⟨g, k, none⟩ := by
  unfold Addr.add
  split <;> simp_all
theorem row33 {W : World} {base : Nat} {ok : Nat → Prop} {v : Value} {xs : List S33} (h : Kd.R k33 33 W base ok v xs) (h0 : 0 < xs.length) :
    ∃ g c, v = .slice (some ⟨g, 0, none⟩) xs.length c ∧ xs.length ≤ c ∧ ∀ i : Nat, i < xs.length → W.cell? ⟨g, i * 5, none⟩ = some (.int .i64 (xs.getD i z33).f0) ∧ W.cell? ⟨g, i * 5 + 1, none⟩ = some (.int .i64 (xs.getD i z33).f1) ∧
      W.cell? ⟨g, i * 5 + 2, none⟩ = some (.int .i64 (xs.getD i z33).f2) ∧ W.cell? ⟨g, i * 5 + 3, none⟩ = some (.int .i64 (xs.getD i z33).f3) ∧ W.cell? ⟨g, i * 5 + 4, none⟩ = some (.string (xs.getD i z33).f4) := by
  obtain ⟨A, c, rfl, hl, hC⟩ := Kd.R_reads h
  obtain ⟨ad, e, _⟩ := at_T33 hC 0 (by omega) (by omega)
  subst e
  obtain ⟨g, rfl⟩ := Kd.R_head h
  refine ⟨g, c, rfl, hl, fun i hi => ?_⟩
  obtain ⟨ad, e, q0, q1, q2, q3, q4⟩ := at_T33 hC (i : Int) (by omega) (by omega)
  injection e with e
  subst e
  simp only [rd_T33, Int.toNat_natCast, add_head] at q0 q1 q2 q3 q4
  exact ⟨q0, q1, q2, q3, q4⟩
theorem row23 {W : World} {base : Nat} {ok : Nat → Prop} {v : Value} {xs : List S23} (h : Kd.R k23 23 W base ok v xs) (h0 : 0 < xs.length) :
    ∃ g c, v = .slice (some ⟨g, 0, none⟩) xs.length c ∧ xs.length ≤ c ∧ ∀ i : Nat, i < xs.length → W.cell? ⟨g, i * 5, none⟩ = some (.int .i64 (xs.getD i z23).f0) ∧ W.cell? ⟨g, i * 5 + 1, none⟩ = some (.int .i64 (xs.getD i z23).f1) ∧
      W.cell? ⟨g, i * 5 + 2, none⟩ = some (.int .i64 (xs.getD i z23).f2) ∧ W.cell? ⟨g, i * 5 + 3, none⟩ = some (.int .i64 (xs.getD i z23).f3) ∧ W.cell? ⟨g, i * 5 + 4, none⟩ = some (.string (xs.getD i z23).f4) := by
  obtain ⟨A, c, rfl, hl, hC⟩ := Kd.R_reads h
  obtain ⟨ad, e, _⟩ := at_T23 hC 0 (by omega) (by omega)
  subst e
  obtain ⟨g, rfl⟩ := Kd.R_head h
  refine ⟨g, c, rfl, hl, fun i hi => ?_⟩
  obtain ⟨ad, e, q0, q1, q2, q3, q4⟩ := at_T23 hC (i : Int) (by omega) (by omega)
  injection e with e
  subst e
  simp only [rd_T23, Int.toNat_natCast, add_head] at q0 q1 q2 q3 q4
  exact ⟨q0, q1, q2, q3, q4⟩
end Go.Proofs.YtmkmpjkgpnahnaaDoor.X
