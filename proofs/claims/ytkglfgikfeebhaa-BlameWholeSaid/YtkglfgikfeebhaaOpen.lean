/-
  A struct handed in by value, read field by field: by this session. Conditions: as typed.
-/
import Derived.Lib.SmallJoins
import Derived.Deep.Fields
import Derived.Deep.Slices
import Derived.ChangeSame
namespace Go.Proofs.Ytkglfgikfeebhaa.X
open Go Go.Joins Go.ChangeShapes Go.WideShapes Go.RowKit Go.Deep
set_option linter.unusedVariables false
section
variable {H : Type} {enc : TypeId × Value → H} {P : Program} {w : World} {base : Nat} {spare : Nat → Bool} {held : Bool} {n : Nat} {fs : Array Field} {l : List Value} {xs : List (DataW H × List MemPlace)}
/-- How the fields of a struct are read. -/
def ReadsF (enc : TypeId × Value → H) (P : Program) (w : World) (base : Nat) (spare : Nat → Bool) (held : Bool) (n : Nat) (fs : Array Field) (l : List Value) (xs : List (DataW H × List MemPlace)) : Prop :=
  xs.length = fs.size ∧ ∀ (i : Nat) (f : Field), fs[i]? = some f → DataW.trod enc P w base spare held n f.type ((l.drop f.offset).take (P.cellsOf f.type)) = xs[i]?
theorem field_one (hone : oneCellFields P fs = true) (hr : ReadsF enc P w base spare held n fs l xs) (j : Nat) (f : Field) (hj : fs[j]? = some f) {c : Value} (hc : l[j]? = some c) : ∃ x, DataW.trod enc P w base spare held n f.type [c] = some x := by
  obtain ⟨hl, hg⟩ := hr
  obtain ⟨o, k⟩ := hone_of hone j f hj
  have g := hg j f hj
  have hjl : j < fs.size := (Array.getElem?_eq_some_iff.1 hj).1
  obtain ⟨hlt, hcv⟩ := List.getElem?_eq_some_iff.1 hc
  rw [o, k, List.drop_eq_getElem_cons hlt, hcv, List.getElem?_eq_getElem (by omega : j < xs.length)] at g
  exact ⟨_, g⟩
theorem field_int (hone : oneCellFields P fs = true) (hr : ReadsF enc P w base spare held n fs l xs) (j : Nat) (f : Field) (hj : fs[j]? = some f) {k : IntKind} (ht : P.underlying f.type = some (.int k)) {c : Value} (hc : l[j]? = some c) : ∃ x, c = .int k x ∧ (Lit.int k x).wf = true := by
  obtain ⟨x, hx⟩ := field_one hone hr j f hj hc
  obtain ⟨a, e, _, hw⟩ := DataW.trod_int ht hx
  exact ⟨a, by simpa using e, hw⟩
theorem field_string (hone : oneCellFields P fs = true) (hr : ReadsF enc P w base spare held n fs l xs) (j : Nat) (f : Field) (hj : fs[j]? = some f) (ht : P.underlying f.type = some .string) {c : Value} (hc : l[j]? = some c) : ∃ x : ByteArray, c = .string x ∧ x.size ≤ maxLen := by
  obtain ⟨x, hx⟩ := field_one hone hr j f hj hc
  obtain ⟨a, e, _, hw⟩ := DataW.trod_string ht hx
  exact ⟨a, by simpa using e, hw⟩
/-- A struct of four integers and a string, by value. -/
theorem open_iiiis {r : Reach} {b0 : Nat} {t : TypeId} {f0 f1 f2 f3 f4 : Field} {v : Value} {d : DataW H} {p : List MemPlace} (hs : P.underlying t = some (.struct #[f0, f1, f2, f3, f4])) (hone : oneCellFields P #[f0, f1, f2, f3, f4] = true) (hC : P.cellsOf t = 5)
    (t0 : P.underlying f0.type = some (.int .i64)) (t1 : P.underlying f1.type = some (.int .i64)) (t2 : P.underlying f2.type = some (.int .i64)) (t3 : P.underlying f3.type = some (.int .i64)) (t4 : P.underlying f4.type = some .string)
    (hv : Value.okWide P w r b0 t v) (h : DataW.Trod enc P w base spare held t v d p) :
    ∃ (a b c e : Int) (s : ByteArray), v = .agg #[.int .i64 a, .int .i64 b, .int .i64 c, .int .i64 e, .string s] := by
  obtain ⟨cs, rfl, hsz⟩ := okWide_struct hs hv
  obtain ⟨l⟩ := cs
  match l, hsz.trans hC with
  | [c0, c1, c2, c3, c4], _ =>
    obtain ⟨fuel, hf⟩ := h
    obtain ⟨xs, n, _, _, _, hlen, hg⟩ := DataW.trod_struct hs hf
    have hr : ReadsF enc P w base spare held n #[f0, f1, f2, f3, f4] [c0, c1, c2, c3, c4] xs := ⟨hlen, by simpa [Value.cells] using hg⟩
    obtain ⟨a, rfl, _⟩ := field_int hone hr 0 f0 rfl t0 rfl
    obtain ⟨b, rfl, _⟩ := field_int hone hr 1 f1 rfl t1 rfl
    obtain ⟨c, rfl, _⟩ := field_int hone hr 2 f2 rfl t2 rfl
    obtain ⟨e, rfl, _⟩ := field_int hone hr 3 f3 rfl t3 rfl
    obtain ⟨s, rfl, _⟩ := field_string hone hr 4 f4 rfl t4 rfl
    exact ⟨a, b, c, e, s, rfl⟩
end
end Go.Proofs.Ytkglfgikfeebhaa.X
