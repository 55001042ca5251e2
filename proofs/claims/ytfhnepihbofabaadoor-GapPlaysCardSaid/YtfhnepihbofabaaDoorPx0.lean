/-
  Two texts as one (Open, Px0): by this session, or printed. Conditions: as typed.
-/
import Derived.Lib.SmallJoins
import Derived.Deep.Fields
import Derived.Deep.Slices
import Derived.ChangeSame
import Derived.Test.YtfhnepihbofabaaDoorProg
import Derived.Below
import Derived.Deep.Draws
import Derived.Deep.AppendLies
import Derived.Maps.AppendAt
import Derived.OwnWalk
import Derived.Laws.BytesArg
import Derived.Laws.MakeOwn
import Derived.Laws.OwnMore
import Derived.Deep.OwnRows
import Derived.Tactics
import Derived.Lib.ConvBytes
import Derived.Laws.Slices
import Derived.WalkKit
import Derived.KernelRfl
import Derived.RowKit3
import Derived.Deep.LoopGhost
import Derived.Deep.QuietTactic
import Derived.BigQuiet
import Derived.WideLaws
import Derived.Deep.DeepCutAuto
import Derived.Deep.CutBlock
import Derived.Deep.RegionHeld3
import Derived.Laws.Rows
import Derived.Lib.AppendStr
import Derived.ArgAppend
import Derived.Laws.IdiomCopy
import Derived.OrdersHeld
import Derived.Laws.BitsLemmas
import Derived.RowKit
import Derived.Test.YtfhnepihbofabaaDoorExt
import Derived.Test.YtfhnepihbofabaaDoorWWords
import Derived.Test.YtfhnepihbofabaaDoorWLast
import Derived.Test.YtfhnepihbofabaaDoorWTab
import Derived.Test.YtfhnepihbofabaaDoorWQPut
import Derived.Test.YtfhnepihbofabaaDoorWApart
import Derived.Test.YtfhnepihbofabaaDoorWArr
import Derived.Test.YtfhnepihbofabaaDoorWZeros
import Derived.Test.YtfhnepihbofabaaDoorWFoot
import Derived.Test.YtfhnepihbofabaaDoorWKept
import Derived.Test.YtfhnepihbofabaaDoorWShare
import Derived.Test.YtfhnepihbofabaaDoorWN
import Derived.Test.YtfhnepihbofabaaDoorWFootNe
import Derived.Test.YtfhnepihbofabaaDoorWAt
import Derived.Test.YtfhnepihbofabaaDoorWEqStruct
import Derived.Test.YtfhnepihbofabaaDoorWRepsOne
import Derived.Test.YtfhnepihbofabaaDoorWGuard
import Derived.Test.YtfhnepihbofabaaDoorWNEv
import Derived.Test.YtfhnepihbofabaaDoorWMore
namespace Go.Proofs.YtfhnepihbofabaaDoor.X
open Go Go.Joins Go.ChangeShapes Go.WideShapes Go.RowKit Go.Deep
set_option linter.unusedVariables false
section
variable {H : Type} {enc : TypeId × Value → H} {P : Program} {w : World} {base : Nat} {spare : Nat → Bool} {held : Bool} {n : Nat} {fs : Array Field} {l : List Value} {xs : List (DataW H × List MemPlace)}
/-- How the fields of a struct are read. -/
def ReadsF (enc : TypeId × Value → H) (P : Program) (w : World) (base : Nat) (spare : Nat → Bool) (held : Bool) (n : Nat) (fs : Array Field) (l : List Value) (xs : List (DataW H × List MemPlace)) : Prop :=
  xs.length = fs.size ∧ ∀ (i : Nat) (f : Field), fs[i]? = some f → DataW.trod enc P w base spare held n f.type ((l.drop f.offset).take (P.cellsOf f.type)) = xs[i]?
theorem field_one (hone : oneCellFields P fs = true) (hr : ReadsF enc P w base spare held n fs l xs) (j : Nat) (f : Field) (hj : fs[j]? = some f) {c : Value} (hc : l[j]? = some c) : ∃ x, DataW.trod enc P w base spare held n f.type [c] = some x := by
  obtain ⟨hl, hg⟩ := hr
  obtain ⟨o, k⟩ := hone_of hone j f hj
  have g := hg j f hj
  have hjl : j < fs.size := (Array.getElem?_eq_some_iff.1 hj).1
  obtain ⟨hlt, hcv⟩ := List.getElem?_eq_some_iff.1 hc
  rw [o, k, List.drop_eq_getElem_cons hlt, hcv, List.getElem?_eq_getElem (by omega : j < xs.length)] at g
  exact ⟨_, g⟩
theorem field_int (hone : oneCellFields P fs = true) (hr : ReadsF enc P w base spare held n fs l xs) (j : Nat) (f : Field) (hj : fs[j]? = some f) {k : IntKind} (ht : P.underlying f.type = some (.int k)) {c : Value} (hc : l[j]? = some c) : ∃ x, c = .int k x ∧ (Lit.int k x).wf = true := by
  obtain ⟨x, hx⟩ := field_one hone hr j f hj hc
  obtain ⟨a, e, _, hw⟩ := DataW.trod_int ht hx
  exact ⟨a, by simpa using e, hw⟩
theorem field_string (hone : oneCellFields P fs = true) (hr : ReadsF enc P w base spare held n fs l xs) (j : Nat) (f : Field) (hj : fs[j]? = some f) (ht : P.underlying f.type = some .string) {c : Value} (hc : l[j]? = some c) : ∃ x : ByteArray, c = .string x ∧ x.size ≤ maxLen := by
  obtain ⟨x, hx⟩ := field_one hone hr j f hj hc
  obtain ⟨a, e, _, hw⟩ := DataW.trod_string ht hx
  exact ⟨a, by simpa using e, hw⟩
/-- A struct of four integers and a string, by value. -/
theorem open_iiiis {r : Reach} {b0 : Nat} {t : TypeId} {f0 f1 f2 f3 f4 : Field} {v : Value} {d : DataW H} {p : List MemPlace} (hs : P.underlying t = some (.struct #[f0, f1, f2, f3, f4])) (hone : oneCellFields P #[f0, f1, f2, f3, f4] = true) (hC : P.cellsOf t = 5)
    (t0 : P.underlying f0.type = some (.int .i64)) (t1 : P.underlying f1.type = some (.int .i64)) (t2 : P.underlying f2.type = some (.int .i64)) (t3 : P.underlying f3.type = some (.int .i64)) (t4 : P.underlying f4.type = some .string)
    (hv : Value.okWide P w r b0 t v) (h : DataW.Trod enc P w base spare held t v d p) :
    ∃ (a b c e : Int) (s : ByteArray), v = .agg #[.int .i64 a, .int .i64 b, .int .i64 c, .int .i64 e, .string s] := by
  obtain ⟨cs, rfl, hsz⟩ := okWide_struct hs hv
  obtain ⟨l⟩ := cs
  match l, hsz.trans hC with
  | [c0, c1, c2, c3, c4], _ =>
    obtain ⟨fuel, hf⟩ := h
    obtain ⟨xs, n, _, _, _, hlen, hg⟩ := DataW.trod_struct hs hf
    have hr : ReadsF enc P w base spare held n #[f0, f1, f2, f3, f4] [c0, c1, c2, c3, c4] xs := ⟨hlen, by simpa [Value.cells] using hg⟩
    obtain ⟨a, rfl, _⟩ := field_int hone hr 0 f0 rfl t0 rfl
    obtain ⟨b, rfl, _⟩ := field_int hone hr 1 f1 rfl t1 rfl
    obtain ⟨c, rfl, _⟩ := field_int hone hr 2 f2 rfl t2 rfl
    obtain ⟨e, rfl, _⟩ := field_int hone hr 3 f3 rfl t3 rfl
    obtain ⟨s, rfl, _⟩ := field_string hone hr 4 f4 rfl t4 rfl
    exact ⟨a, b, c, e, s, rfl⟩
end
end Go.Proofs.YtfhnepihbofabaaDoor.X
namespace Go.Proofs.YtfhnepihbofabaaDoor.P
open Go.RowKit Go.Proofs.YtfhnepihbofabaaDoor.X Go.Proofs.YtfhnepihbofabaaDoorW.PrintWords Go.Proofs.YtfhnepihbofabaaDoorW.PrintLast Go.Proofs.YtfhnepihbofabaaDoorW.PrintMore
attribute [local go_sem] max2_int min2_int max_two min_two max_three min_three max_four min_four   -- for this text's walks alone
set_option linter.unusedVariables false
set_option linter.unusedSimpArgs false



def errW : Option Int → Value
 | none => .nilIface
 | some c => .iface 0 (.int .i64 c)
theorem errW_none : errW none = .nilIface := rfl
theorem errW_some (c : Int) : errW (some c) = .iface 0 (.int .i64 c) := rfl

theorem info5 : (Tryd.prog.info? 5).map (fun i => (i.zero, i.size, i.bytes)) = some (some (.int .u8 0), 1, 1) := by kernel_rfl
theorem info21 : (Tryd.prog.info? 21).map (fun i => (i.zero, i.size, i.bytes)) = some (some (.int .i32 0), 1, 4) := by kernel_rfl
-- the values' own types
/-! #### struct type 32 -/
structure S32 where
 f0 : Int
 f1 : Int
 f2 : Int
 f3 : ByteArray
def z32 : S32 := ⟨(0 : Int), (0 : Int), (0 : Int), (⟨#[]⟩ : ByteArray)⟩
def k32 : Kd S32 := Kd.iso (Kd.pair (Kd.int .u8) (Kd.pair (Kd.int .i64) (Kd.pair (Kd.int .i64) Kd.string))) (fun x : S32 => (x.f0, x.f1, x.f2, x.f3))
theorem k32_open {w : World} {x : S32} {cs : List Value} (h : k32.K w x cs) : cs = [.int .u8 x.f0, .int .i64 x.f1, .int .i64 x.f2, .string x.f3] := by
 obtain ⟨_, _, rfl, rfl, ⟨_, _, rfl, rfl, ⟨_, _, rfl, rfl, rfl⟩⟩⟩ := h
 exact rfl
theorem k32_openM {w : World} {base : Nat} {ok : Nat → Prop} {x : S32} {cs : List Value} (h : k32.M w base ok x cs) : cs = [.int .u8 x.f0, .int .i64 x.f1, .int .i64 x.f2, .string x.f3] := by
 obtain ⟨_, _, rfl, rfl, ⟨_, _, rfl, rfl, ⟨_, _, rfl, rfl, rfl⟩⟩⟩ := h
 exact rfl
theorem k32_mk (w : World) (x : S32)  : k32.K w x [.int .u8 x.f0, .int .i64 x.f1, .int .i64 x.f2, .string x.f3] := ⟨[.int .u8 x.f0], [.int .i64 x.f1, .int .i64 x.f2, .string x.f3], rfl, rfl, ⟨[.int .i64 x.f1], [.int .i64 x.f2, .string x.f3], rfl, rfl, ⟨[.int .i64 x.f2], [.string x.f3], rfl, rfl, rfl⟩⟩⟩
theorem k32_mkM (w : World) (base : Nat) (ok : Nat → Prop) (x : S32)  : k32.M w base ok x [.int .u8 x.f0, .int .i64 x.f1, .int .i64 x.f2, .string x.f3] := ⟨[.int .u8 x.f0], [.int .i64 x.f1, .int .i64 x.f2, .string x.f3], rfl, rfl, ⟨[.int .i64 x.f1], [.int .i64 x.f2, .string x.f3], rfl, rfl, ⟨[.int .i64 x.f2], [.string x.f3], rfl, rfl, rfl⟩⟩⟩
def rd_T32 (xs : List S32) (i : Int) : S32 := xs.getD i.toNat z32
theorem at_T32 {w : World} {A : Option Addr} {n : Nat} {xs : List S32} (h : Kd.C k32 w A n xs) (i : Int) (h0 : 0 ≤ i) (h1 : i < n) : ∃ ad , A = some ad ∧ w.cell? (ad.add (i.toNat * 4)) = some (.int .u8 (rd_T32 xs i).f0) ∧ w.cell? ⟨(ad.add (i.toNat * 4)).block, (ad.add (i.toNat * 4)).off + 1, none⟩ = some (.int .i64 (rd_T32 xs i).f1) ∧ w.cell? ⟨(ad.add (i.toNat * 4)).block, (ad.add (i.toNat * 4)).off + 2, none⟩ = some (.int .i64 (rd_T32 xs i).f2) ∧ w.cell? ⟨(ad.add (i.toNat * 4)).block, (ad.add (i.toNat * 4)).off + 3, none⟩ = some (.string (rd_T32 xs i).f3) := by
 obtain ⟨ad, c, e, _, hK, hc0⟩ := Kd.C_get h z32 i h0 h1
 have hc : ∀ j u, c[j]? = some u → w.cell? (ad.add (i.toNat * 4 + j)) = some u := hc0
 obtain rfl := k32_open hK
 exact ⟨ad, e, hc 0 _ rfl, by rw [← add_field _ _ 1 (by omega)]; exact hc 1 _ rfl, by rw [← add_field _ _ 2 (by omega)]; exact hc 2 _ rfl, by rw [← add_field _ _ 3 (by omega)]; exact hc 3 _ rfl⟩

end Go.Proofs.YtfhnepihbofabaaDoor.P
