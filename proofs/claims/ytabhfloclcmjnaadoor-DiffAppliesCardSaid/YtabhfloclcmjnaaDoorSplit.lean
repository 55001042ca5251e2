/-
  Two texts as one (Px7, Split): by this session, or printed. Conditions: as typed.
-/
import Derived.Lib.SmallJoins
import Derived.Deep.Fields
import Derived.Deep.Slices
import Derived.ChangeSame
import Derived.Test.YtabhfloclcmjnaaDoorPx0
import Derived.Test.YtabhfloclcmjnaaDoorExt
import Derived.Lib.OthersKept
namespace Go.Proofs.YtabhfloclcmjnaaDoor.X
open Go Go.Joins Go.ChangeShapes Go.WideShapes Go.RowKit Go.Deep
set_option linter.unusedVariables false
section
variable {H : Type} {enc : TypeId × Value → H} {P : Program} {w : World} {base : Nat} {spare : Nat → Bool} {held : Bool} {n : Nat} {fs : Array Field} {l : List Value} {xs : List (DataW H × List MemPlace)}
/-- How the fields of a struct are read. -/
def ReadsF (enc : TypeId × Value → H) (P : Program) (w : World) (base : Nat) (spare : Nat → Bool) (held : Bool) (n : Nat) (fs : Array Field) (l : List Value) (xs : List (DataW H × List MemPlace)) : Prop :=
  xs.length = fs.size ∧ ∀ (i : Nat) (f : Field), fs[i]? = some f → DataW.trod enc P w base spare held n f.type ((l.drop f.offset).take (P.cellsOf f.type)) = xs[i]?
theorem field_one (hone : oneCellFields P fs = true) (hr : ReadsF enc P w base spare held n fs l xs) (j : Nat) (f : Field) (hj : fs[j]? = some f) {c : Value} (hc : l[j]? = some c) : ∃ x, DataW.trod enc P w base spare held n f.type [c] = some x := by
  obtain ⟨hl, hg⟩ := hr
  obtain ⟨o, k⟩ := hone_of hone j f hj
  have g := hg j f hj
  have hjl : j < fs.size := (Array.getElem?_eq_some_iff.1 hj).1
  obtain ⟨hlt, hcv⟩ := List.getElem?_eq_some_iff.1 hc
  rw [o, k, List.drop_eq_getElem_cons hlt, hcv, List.getElem?_eq_getElem (by omega : j < xs.length)] at g
  exact ⟨_, g⟩
theorem field_int (hone : oneCellFields P fs = true) (hr : ReadsF enc P w base spare held n fs l xs) (j : Nat) (f : Field) (hj : fs[j]? = some f) {k : IntKind} (ht : P.underlying f.type = some (.int k)) {c : Value} (hc : l[j]? = some c) : ∃ x, c = .int k x ∧ (Lit.int k x).wf = true := by
  obtain ⟨x, hx⟩ := field_one hone hr j f hj hc
  obtain ⟨a, e, _, hw⟩ := DataW.trod_int ht hx
  exact ⟨a, by simpa using e, hw⟩
theorem field_string (hone : oneCellFields P fs = true) (hr : ReadsF enc P w base spare held n fs l xs) (j : Nat) (f : Field) (hj : fs[j]? = some f) (ht : P.underlying f.type = some .string) {c : Value} (hc : l[j]? = some c) : ∃ x : ByteArray, c = .string x ∧ x.size ≤ maxLen := by
  obtain ⟨x, hx⟩ := field_one hone hr j f hj hc
  obtain ⟨a, e, _, hw⟩ := DataW.trod_string ht hx
  exact ⟨a, by simpa using e, hw⟩
/-- A struct of four integers and a string, by value. -/
theorem open_iiiis {r : Reach} {b0 : Nat} {t : TypeId} {f0 f1 f2 f3 f4 : Field} {v : Value} {d : DataW H} {p : List MemPlace} (hs : P.underlying t = some (.struct #[f0, f1, f2, f3, f4])) (hone : oneCellFields P #[f0, f1, f2, f3, f4] = true) (hC : P.cellsOf t = 5)
    (t0 : P.underlying f0.type = some (.int .i64)) (t1 : P.underlying f1.type = some (.int .i64)) (t2 : P.underlying f2.type = some (.int .i64)) (t3 : P.underlying f3.type = some (.int .i64)) (t4 : P.underlying f4.type = some .string)
    (hv : Value.okWide P w r b0 t v) (h : DataW.Trod enc P w base spare held t v d p) :
    ∃ (a b c e : Int) (s : ByteArray), v = .agg #[.int .i64 a, .int .i64 b, .int .i64 c, .int .i64 e, .string s] := by
  obtain ⟨cs, rfl, hsz⟩ := okWide_struct hs hv
  obtain ⟨l⟩ := cs
  match l, hsz.trans hC with
  | [c0, c1, c2, c3, c4], _ =>
    obtain ⟨fuel, hf⟩ := h
    obtain ⟨xs, n, _, _, _, hlen, hg⟩ := DataW.trod_struct hs hf
    have hr : ReadsF enc P w base spare held n #[f0, f1, f2, f3, f4] [c0, c1, c2, c3, c4] xs := ⟨hlen, by simpa [Value.cells] using hg⟩
    obtain ⟨a, rfl, _⟩ := field_int hone hr 0 f0 rfl t0 rfl
    obtain ⟨b, rfl, _⟩ := field_int hone hr 1 f1 rfl t1 rfl
    obtain ⟨c, rfl, _⟩ := field_int hone hr 2 f2 rfl t2 rfl
    obtain ⟨e, rfl, _⟩ := field_int hone hr 3 f3 rfl t3 rfl
    obtain ⟨s, rfl, _⟩ := field_string hone hr 4 f4 rfl t4 rfl
    exact ⟨a, b, c, e, s, rfl⟩
end
end Go.Proofs.YtabhfloclcmjnaaDoor.X
namespace Go.Proofs.YtabhfloclcmjnaaDoor.P
open Go.RowKit Go.Proofs.YtabhfloclcmjnaaDoor.X Go.Proofs.YtabhfloclcmjnaaDoorW.PrintWords Go.Proofs.YtabhfloclcmjnaaDoorW.PrintLast Go.Proofs.YtabhfloclcmjnaaDoorW.PrintMore
attribute [local go_sem] max2_int min2_int max_two min_two max_three min_three max_four min_four   -- for this text's walks alone
set_option linter.unusedVariables false
set_option linter.unusedSimpArgs false

theorem eqA40 (d : Nat) (w : World) (x0 y0 : Int) (x1 y1 : ByteArray) :
  (Op.equalIn (d + 2) 40 (.agg #[.int .i64 x0, .string x1]) (.agg #[.int .i64 y0, .string y1])).run Tryd.prog w = .ok (x0 == y0 && (x1.toList == y1.toList)) w := by
 refine eqA_of Tryd.underlying40 (by kernel_rfl) ?_
 refine eqf_cons (by rfl) (by go_simp; rfl) (by go_simp; rfl) (by go_simp) ?_
 exact eqf_last (by rfl) (by go_simp; rfl) (by go_simp; rfl) (by go_simp)
end Go.Proofs.YtabhfloclcmjnaaDoor.P
namespace Go.Proofs.YtabhfloclcmjnaaDoor.P
open Go.RowKit Go.Proofs.YtabhfloclcmjnaaDoor.X Go.Proofs.YtabhfloclcmjnaaDoorW.PrintWords Go.Proofs.YtabhfloclcmjnaaDoorW.PrintLast Go.Proofs.YtabhfloclcmjnaaDoorW.PrintMore
attribute [local go_sem] max2_int min2_int max_two min_two max_three min_three max_four min_four   -- for this text's walks alone
set_option linter.unusedVariables false
set_option linter.unusedSimpArgs false

theorem eqA46 (d : Nat) (w : World) (x0 y0 : Int) (x1 y1 : Int) (x2 y2 : ByteArray) :
  (Op.equalIn (d + 2) 46 (.agg #[.int .i64 x0, .int .i64 x1, .string x2]) (.agg #[.int .i64 y0, .int .i64 y1, .string y2])).run Tryd.prog w = .ok (x0 == y0 && (x1 == y1 && (x2.toList == y2.toList))) w := by
 refine eqA_of Tryd.underlying46 (by kernel_rfl) ?_
 refine eqf_cons (by rfl) (by go_simp; rfl) (by go_simp; rfl) (by go_simp) ?_
 refine eqf_cons (by rfl) (by go_simp; rfl) (by go_simp; rfl) (by go_simp) ?_
 exact eqf_last (by rfl) (by go_simp; rfl) (by go_simp; rfl) (by go_simp)
end Go.Proofs.YtabhfloclcmjnaaDoor.P
namespace Go.Proofs.YtabhfloclcmjnaaDoor.P
open Go.RowKit Go.Proofs.YtabhfloclcmjnaaDoor.X Go.Proofs.YtabhfloclcmjnaaDoorW.PrintWords Go.Proofs.YtabhfloclcmjnaaDoorW.PrintLast Go.Proofs.YtabhfloclcmjnaaDoorW.PrintMore
attribute [local go_sem] max2_int min2_int max_two min_two max_three min_three max_four min_four   -- for this text's walks alone
set_option linter.unusedVariables false
set_option linter.unusedSimpArgs false

/-! ### runes_May: function 44 -/
def runes_May.f (a0 : ByteArray) : Option (Bool) := (runes_Len.f a0).bind fun t171 => (some (decide (t171 ≥ 0)))
set_option maxHeartbeats 8000000 in
set_option maxRecDepth 100000 in
theorem runes_May.calls (a0 : ByteArray) (r : Bool) (w : World) (hT : Aside0 (XAmb w)) (h : runes_May.f a0 = some r) :
  Calls Tryd.prog 44 #[.string a0] w fun e w' => e = .returned (.bool r) ∧ Below w.heap.size w w' := by
 have HB := Aside0.mk (Below.refl w.heap.size w)
 have H : ((runes_Len.f a0).bind fun t171 => (some (decide (t171 ≥ 0)))) = some r := h
 clear h
 replace H := Option.bind_eq_some_iff.mp H
 obtain ⟨t171, A20, H⟩ := H
 replace H : (some (decide (t171 ≥ 0))) = some r := H
 have A2 := Aside0.mk A20
 clear A20
 obtain rfl := Option.some.inj H
 go_enter Tryd.func44, Tryd.ntmps44
 go_wp2_with (first | ((with_reducible refine gate_callee (f := 43) rfl ?_); refine goesL_ (some 4) rfl rfl Tryd.func43 (by kernel_rfl) rfl #[.string a0] rfl (by (try simp only [List.map_toArray, List.map_cons, List.map_nil]); first | done | rfl | (simp only [List.length_drop, List.length_take]; rfl)) ?_; (with_reducible refine (runes_Len.calls a0 t171 _ ?side1 A2.out).mono ?_); (case side1 => exact XAmb_step hT (hb0_ HB)); rintro e w3 ⟨rfl, hb⟩; refine ⟨_, rfl, ?_⟩; have n0_ := Aside0.mk (below_step (hb0_ HB) hb); clear HB; have HB := n0_; clear n0_; (try clear hb); (try clear hb2); (try clear hk); (try clear hi)))
 go_ret
 exact ⟨by first | rfl | (simp [errW_none, errW_some] <;> rfl) | (simp [*, errW_none, errW_some] <;> rfl), hb0_ HB⟩

end Go.Proofs.YtabhfloclcmjnaaDoor.P
namespace Go.Proofs.YtabhfloclcmjnaaDoor.X
open Go Go.RowKit Go.Shelf Go.Proofs.YtabhfloclcmjnaaDoorW.PrintWords
set_option linter.unusedVariables false

theorem info_rune : (Tryd.prog.info? 21).map (fun i => (i.zero, i.size, i.bytes)) = some (some (.int .i32 0), 1, 4) := by kernel_rfl

theorem may_calls (s : ByteArray) (w : World) (hs : s.size ≤ 140737488355328) (hT : XAmb w) :
    Calls Tryd.prog 44 #[.string s] w fun e w' => e = .returned (.bool (decide (0 ≤ lenU s))) ∧ Below w.heap.size w w' := by
  have c := callsIn_wide.1 (len_in s w hs hT)
  obtain ⟨n, hn⟩ : ∃ n, lenU s = n := ⟨_, rfl⟩
  rw [hn] at c ⊢
  clear hn
  go_enter Tryd.func44, Tryd.ntmps44
  go_wp2_with (go_at_call 43; refine c.mono ?_; rintro e w1 ⟨rfl, hb⟩)
  go_ret
  exact ⟨rfl, hb⟩

def runes_Split.f (a0 : ByteArray) : Option (List Int × Int) :=
  if a0.size ≤ 35184372088832 then some (match textOf a0 with | some l => (l, 0) | none => ([], 2)) else none

theorem lenU_of_some {s : ByteArray} {l : List Int} (h : textOf s = some l) : lenU s = l.length := by simp [lenU, h]
theorem lenU_of_none {s : ByteArray} (h : textOf s = none) : lenU s = -1 := by simp [lenU, h]

set_option maxRecDepth 100000 in
set_option maxHeartbeats 4000000 in
theorem split_none (s : ByteArray) (w : World) (hs : s.size ≤ 35184372088832) (hT : XAmb w) (h : textOf s = none) :
    Calls Tryd.prog 39 #[.string s] w fun e w' => e = .returned (.tuple #[.slice none 0 0, .int .i64 2]) ∧ Below w.heap.size w w' := by
  have c := may_calls s w (by omega) hT
  rw [lenU_of_none h] at c
  go_enter Tryd.func39, Tryd.ntmps39
  go_wp2_with (go_at_call 44; refine c.mono ?_; rintro e w1 ⟨rfl, hb⟩)
  go_ret2
  exact ⟨rfl, hb⟩

/-- What holds at the head of a round: the iterator (block I) at a place, the row what has been told. -/
def RelS (s : ByteArray) (l : List Int) (w : World) (I : Nat) (u : Value) (wr : World) : Prop :=
  ∃ (pos f : Nat) (acc : List Int), wr.heap[I]? = some (.stringIter s pos) ∧ Kd.R (Kd.int .i32) 21 wr w.heap.size (fun _ => True) u acc ∧ Below w.heap.size w wr ∧
    acc ++ (stp s f pos).map (·.1) = l ∧ s.size ≤ pos + f ∧ (∀ x ∈ stp s f pos, 0 ≤ x.1) ∧ acc.length ≤ pos
theorem relS {s : ByteArray} {l : List Int} {v : Value} {w w1 : World} (h : textOf s = some l) (ho : Kd.R (Kd.int .i32) 21 w1 w.heap.size (fun _ => True) v []) (hb : Below w.heap.size w w1) : RelS s l w w1.heap.size v (w1.iter s 0) := by
  unfold textOf at h
  split at h
  · rename_i ha
    obtain rfl := Option.some.inj h
    exact ⟨0, s.size, [], World.iter_heap w1 s 0, Kd.R_below ho (below_alloc (Below.refl _ _) _), hb.alloc hb.size _, rfl, by omega, fun x hx => of_decide_eq_true (List.all_eq_true.1 ha x hx), Nat.le_refl _⟩
  · cases h
theorem R_iterAt {α : Type} {d : Kd α} {e : Nat} {w : World} {base : Nat} {ok : Nat → Prop} {v : Value} {xs : List α} {I pos : Nat} {s : ByteArray} (h : d.R e w base ok v xs) (hk : w.heap[I]? = some (.stringIter s pos)) (pos' : Nat) : d.R e (w.iterAt I s pos') base ok v xs := by
  refine Kd.R_mono (Kd.R_move (Kd.R_bound h) (fun k hk2 => ?_)) (fun _ hk => hk.1)
  obtain ⟨_, _, _, q, _, cells, hc⟩ := hk2
  have hne : k ≠ I := by
    rintro rfl
    rw [hk] at hc
    cases hc
  simp [World.iterAt, Ne.symm hne]

theorem own_ne_iterR {α : Type} {d : Kd α} {e : Nat} {w : World} {base : Nat} {ok : Nat → Prop} {v : Value} {xs : List α} {I pos : Nat} {s : ByteArray} (h : d.R e w base ok v xs) (hk : w.heap[I]? = some (.stringIter s pos)) : some I ≠ v.ownBlock := by
  intro he
  obtain ⟨_, _, _, q, _, cells, hc⟩ := (Kd.R_bound h).1 I he.symm
  rw [hk] at hc
  cases hc
theorem relS_next {s : ByteArray} {f pos : Nat} (h : pos < s.size) (hp : ∀ x ∈ stp s f pos, 0 ≤ x.1) (hf : 0 < f) :
    stp s f pos = (((Utf8.decode s pos).1 : Int), ((Utf8.decode s pos).2 : Int)) :: stp s (f - 1) (pos + (Utf8.decode s pos).2) := by
  cases f with
  | zero => omega
  | succ f =>
    simp only [stp] at hp ⊢
    rw [if_pos h] at hp ⊢
    split at hp
    · have := hp (-1, 0) (by simp)
      simp at this
    · rename_i hb
      rw [if_neg hb]
      rfl

set_option maxRecDepth 100000 in
set_option maxHeartbeats 4000000 in
theorem split_some (s : ByteArray) (w : World) (l : List Int) (hs : s.size ≤ 35184372088832) (hT : XAmb w) (h : textOf s = some l) :
    Calls Tryd.prog 39 #[.string s] w fun e w' => ∃ v, e = .returned (.tuple #[v, .int .i64 0]) ∧ Kd.R (Kd.int .i32) 21 w' w.heap.size (fun _ => True) v l ∧ Below w.heap.size w w' := by
  have c := may_calls s w (by omega) hT
  rw [lenU_of_some h] at c
  rw [show decide (0 ≤ (l.length : Int)) = true by simp] at c
  go_enter Tryd.func39, Tryd.ntmps39
  go_wp2_with (first | (go_at_call 44; refine c.mono ?_; rintro e w1 ⟨rfl, hb⟩) | (at_make; refine Kd.R_make0 (Kd.int .i32) (w0 := w) w.heap.size 21 rfl (N := 12) rfl 28 _ _ rfl (s.size : Int) rfl rfl Tryd.underlying28 (.int .i32 0) 4 info_rune rfl (by decide) (by omega) 0 (ok := fun _ => True) (okp := fun _ => True) rfl (fun _ h => h) trivial (by omega) (by simp; omega) hb hb.size ?_; intro v w2 ho hb2 hg2 _))
  have hr0 := relS (s := s) (l := l) (v := v) (w := w) (w1 := w2) h ho hb2
  have hw2 : w.heap.size ≤ w2.heap.size := hb2.size
  clear ho hb2 hg2
  go_loopw [4] (fun u wr => RelS s l w w2.heap.size u wr) (fun _ wr => s.size - wr.iterPos w2.heap.size)
  case atStart => exact hr0
  case round =>
    obtain ⟨pos, f, acc, hit, hR, hB, hl, hf, hp, ha⟩ := hrel
    have HL := Lib.hid hl
    clear hl
    have hwI : w.heap.size ≤ w2.heap.size := hw2
    by_cases hpz : pos < s.size
    · have hnx : ∀ ty, (Instr.next (.pointer (some ⟨w2.heap.size, 0, none⟩)) true ty).run Tryd.prog wr = _ := fun ty => Lib.run_next_any_at wr w2.heap.size s pos ty hit hpz
      have hdl := decode_le s pos hpz
      have hdp := decode_pos s pos hpz
      obtain ⟨R, hRr⟩ : ∃ R, (Utf8.decode s pos).1 = R := ⟨_, rfl⟩
      obtain ⟨K, hKr⟩ : ∃ K, (Utf8.decode s pos).2 = K := ⟨_, rfl⟩
      rw [hRr, hKr] at hnx
      rw [hKr] at hdl hdp
      have HR2 := Lib.hid hRr
      have HK2 := Lib.hid hKr
      clear hRr hKr
      have ho1 := R_iterAt hR hit (pos + K)
      have hb1 := Lib.below_iterAt hB hwI s (pos + K)
      have hit1 := Lib.iterAt_heap wr w2.heap.size s pos (pos + K) hit
      obtain ⟨w3, hw3⟩ : ∃ w3, wr.iterAt w2.heap.size s (pos + K) = w3 := ⟨_, rfl⟩
      rw [hw3] at hnx ho1 hb1 hit1
      clear hw3
      have hne : some w2.heap.size ≠ u4.ownBlock := own_ne_iterR ho1 hit1
      go_wp2_with (at_builtin; refine Kd.R_append (Kd.int .i32) (w0 := w) w.heap.size rfl (.tmp 18) (.tmp 20) 28 21 (.int .i32 0) 4 rfl Tryd.underlying28 info_rune rfl (by decide) (by omega) u4 acc (R : Int) [.int .i32 R] (fun _ => True) (fun _ => False) rfl rfl rfl (fun _ h => h.elim) (fun _ _ => trivial) ho1 hb1 hb1.size (by omega) ?_; intro v3 w4 ho4 hb4 hg4 _)
      have hlt1 := (Array.getElem?_eq_some_iff.1 hit1).1
      have hit4 : w4.heap[w2.heap.size]? = some (.stringIter s (pos + K)) := (hg4.block _ hlt1 hne).trans hit1
      go_roundw
      case rel =>
        refine ⟨pos + K, f - 1, acc ++ [(R : Int)], hit4, ho4, hb4, ?_, by omega, ?_, by simp; omega⟩
        · rw [← HL.out, relS_next hpz hp (by omega), HR2.out, HK2.out]; simp
        · intro x hx
          exact hp x (by rw [relS_next hpz hp (by omega), HK2.out]; exact List.mem_cons_of_mem _ hx)
      case measure =>
        simp only [World.iterPos, hit4, hit]
        omega
    · have hnx : ∀ ty, (Instr.next (.pointer (some ⟨w2.heap.size, 0, none⟩)) true ty).run Tryd.prog wr = _ := fun ty => Lib.run_next_end_at wr w2.heap.size s pos ty hit hpz
      go_wp2
      go_ret2
      have hfin : acc = l := by rw [← HL.out, stp_end s f pos hpz]; simp
      exact ⟨_, rfl, hfin ▸ hR, hB⟩

theorem runes_Split.calls (a0 : ByteArray) (r1 : List Int) (r2 : Int) (w : World) (hT : Aside0 (XAmb w)) (h : runes_Split.f a0 = some (r1, r2)) :
    Calls Tryd.prog 39 #[.string a0] w fun e w' => ∃ v0_ : Value, e = .returned (.tuple #[v0_, .int .i64 r2]) ∧ Kd.R (Kd.int .i32) 21 w' w.heap.size (fun _ => True) v0_ r1 ∧ Below w.heap.size w w' := by
  unfold runes_Split.f at h
  split at h
  · rename_i hs
    cases ht : textOf a0 with
    | none =>
      rw [ht] at h
      simp only [Option.some.injEq, Prod.mk.injEq] at h
      obtain ⟨rfl, rfl⟩ := h
      exact (split_none a0 w hs hT.out ht).mono fun e w' ⟨he, hb⟩ => ⟨_, he, Kd.R_nil _ _ _ _ _, hb⟩
    | some l =>
      rw [ht] at h
      simp only [Option.some.injEq, Prod.mk.injEq] at h
      obtain ⟨rfl, rfl⟩ := h
      exact split_some a0 w _ hs hT.out ht
  · cases h
end Go.Proofs.YtabhfloclcmjnaaDoor.X
