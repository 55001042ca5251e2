/-
  Two texts as one (Great, Row29): by this session, or printed. Conditions: as typed.
-/
import Derived.Test.YtmkmpjkgpnahnaaDoorPx4
import Derived.Test.YtmkmpjkgpnahnaaDoorPx0
import Derived.Test.YtmkmpjkgpnahnaaDoorBox
namespace Go.Proofs.YtmkmpjkgpnahnaaDoor.X
open Go Go.RowKit Go.Shelf Go.Proofs.YtmkmpjkgpnahnaaDoorW.PrintWords Go.Proofs.YtmkmpjkgpnahnaaDoor.P
set_option linter.unusedVariables false
/-- More than statements look at? -/
def greatB (t : ByteArray) (l : List S23) : Bool := decide (600 < t.size) || (decide (30 < l.length) || l.any fun d => decide (1000 < d.f4.size))
theorem rd23 (l : List S23) (i : Nat) (h : i < l.length) : rd_T23 l (i : Int) = l[i] := by
  simp [rd_T23, List.getD_eq_getElem?_getD, List.getElem?_eq_getElem h]
theorem rd33 (l : List S33) (i : Nat) (h : i < l.length) : rd_T33 l (i : Int) = l[i] := by
  simp [rd_T33, List.getD_eq_getElem?_getD, List.getElem?_eq_getElem h]
theorem great_l0 (l : List S23) (hl : l.length ≤ 30) : ∀ (f k i : Nat), l.length = i + f → foolscaplaw29_great.l0 (k + f + 1) l (i : Int) = some ((l.drop i).any fun d => decide (1000 < d.f4.size)) := by
  intro f
  induction f with
  | zero =>
    intro k i hi
    simp only [foolscaplaw29_great.l0]
    rw [if_neg (by omega), List.drop_eq_nil_of_le (by omega)]
    rfl
  | succ f ih =>
    intro k i hi
    have hlt : i < l.length := by omega
    rw [show k + (f + 1) + 1 = (k + f + 1) + 1 by omega]
    rw [foolscaplaw29_great.l0, if_pos (by omega), if_pos (by omega), rd23 l i hlt, List.drop_eq_getElem_cons hlt, List.any_cons]
    by_cases hg : 1000 < l[i].f4.size
    · rw [if_pos (by omega), decide_eq_true hg]
      rfl
    · rw [if_neg (by omega), decide_eq_false hg, show wrap64 ((i : Int) + 1) = ((i + 1 : Nat) : Int) by unfold wrap64; omega, ih k (i + 1) (by omega)]
      rfl
theorem great_ev (t : ByteArray) (l : List S23) : Ev (fun k => foolscaplaw29_great.f k t l) (greatB t l) := by
  refine ⟨40, fun k hk => ?_⟩
  obtain ⟨m, rfl⟩ : ∃ m, k = m + 1 := ⟨k - 1, by omega⟩
  simp only [foolscaplaw29_great.f, foolscaplaw29_great.j0, greatB]
  by_cases h1 : 600 < t.size
  · rw [if_pos (by omega), if_pos trivial, decide_eq_true h1]
    rfl
  · rw [if_neg (by omega), decide_eq_false h1]
    by_cases h2 : 30 < l.length
    · rw [decide_eq_true h2, decide_eq_true (by omega : (l.length : Int) > 30), if_pos rfl]
      rfl
    · rw [decide_eq_false h2, decide_eq_false (by omega : ¬ (l.length : Int) > 30), if_neg (by simp)]
      have := great_l0 l (by omega) l.length (m - l.length - 1) 0 (by omega)
      rw [show m - l.length - 1 + l.length + 1 = m by omega] at this
      simpa using this
end Go.Proofs.YtmkmpjkgpnahnaaDoor.X
namespace Go.Proofs.YtmkmpjkgpnahnaaDoor.P
open Go.RowKit Go.Proofs.YtmkmpjkgpnahnaaDoor.X Go.Proofs.YtmkmpjkgpnahnaaDoorW.PrintWords Go.Proofs.YtmkmpjkgpnahnaaDoorW.PrintLast Go.Proofs.YtmkmpjkgpnahnaaDoorW.PrintMore
attribute [local go_sem] max2_int min2_int max_two min_two max_three min_three max_four min_four   -- for this text's walks alone
set_option linter.unusedVariables false
set_option linter.unusedSimpArgs false

theorem eqA33 (d : Nat) (w : World) (x0 y0 : Int) (x1 y1 : Int) (x2 y2 : Int) (x3 y3 : Int) (x4 y4 : ByteArray) :
  (Op.equalIn (d + 2) 33 (.agg #[.int .i64 x0, .int .i64 x1, .int .i64 x2, .int .i64 x3, .string x4]) (.agg #[.int .i64 y0, .int .i64 y1, .int .i64 y2, .int .i64 y3, .string y4])).run Tryd.prog w = .ok (x0 == y0 && (x1 == y1 && (x2 == y2 && (x3 == y3 && (x4.toList == y4.toList))))) w := by
 refine eqA_of Tryd.underlying33 (by kernel_rfl) ?_
 refine eqf_cons (by rfl) (by go_simp; rfl) (by go_simp; rfl) (by go_simp) ?_
 refine eqf_cons (by rfl) (by go_simp; rfl) (by go_simp; rfl) (by go_simp) ?_
 refine eqf_cons (by rfl) (by go_simp; rfl) (by go_simp; rfl) (by go_simp) ?_
 refine eqf_cons (by rfl) (by go_simp; rfl) (by go_simp; rfl) (by go_simp) ?_
 exact eqf_last (by rfl) (by go_simp; rfl) (by go_simp; rfl) (by go_simp)
end Go.Proofs.YtmkmpjkgpnahnaaDoor.P
namespace Go.Proofs.YtmkmpjkgpnahnaaDoor.X
open Go Go.RowKit Go.Proofs.YtmkmpjkgpnahnaaDoorW.PrintWords Go.Proofs.YtmkmpjkgpnahnaaDoor.P
set_option linter.unusedVariables false
theorem add_head (g k : Nat) : (⟨g, 0, none⟩ : Addr).add k = ⟨g, k, none⟩ := by
  unfold Addr.add
  split <;> simp_all
theorem row33 {W : World} {base : Nat} {ok : Nat → Prop} {v : Value} {xs : List S33} (h : Kd.R k33 33 W base ok v xs) (h0 : 0 < xs.length) :
    ∃ g c, v = .slice (some ⟨g, 0, none⟩) xs.length c ∧ xs.length ≤ c ∧ ∀ i : Nat, i < xs.length → W.cell? ⟨g, i * 5, none⟩ = some (.int .i64 (xs.getD i z33).f0) ∧ W.cell? ⟨g, i * 5 + 1, none⟩ = some (.int .i64 (xs.getD i z33).f1) ∧
      W.cell? ⟨g, i * 5 + 2, none⟩ = some (.int .i64 (xs.getD i z33).f2) ∧ W.cell? ⟨g, i * 5 + 3, none⟩ = some (.int .i64 (xs.getD i z33).f3) ∧ W.cell? ⟨g, i * 5 + 4, none⟩ = some (.string (xs.getD i z33).f4) := by
  obtain ⟨A, c, rfl, hl, hC⟩ := Kd.R_reads h
  obtain ⟨ad, e, _⟩ := at_T33 hC 0 (by omega) (by omega)
  subst e
  obtain ⟨g, rfl⟩ := Kd.R_head h
  refine ⟨g, c, rfl, hl, fun i hi => ?_⟩
  obtain ⟨ad, e, q0, q1, q2, q3, q4⟩ := at_T33 hC (i : Int) (by omega) (by omega)
  injection e with e
  subst e
  simp only [rd_T33, Int.toNat_natCast, add_head] at q0 q1 q2 q3 q4
  exact ⟨q0, q1, q2, q3, q4⟩
end Go.Proofs.YtmkmpjkgpnahnaaDoor.X
