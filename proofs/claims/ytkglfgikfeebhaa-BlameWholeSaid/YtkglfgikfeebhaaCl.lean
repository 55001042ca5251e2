/-
  slices.Clone, slices.IndexFunc over cells, and the test whether a cell is gone: by this session. Conditions: as typed.
-/
import Derived.Test.YtkglfgikfeebhaaExt
import Derived.Test.YtkglfgikfeebhaaPx0
import Derived.Lib.SliceRun
import Derived.Lib.LazyBuf
import Derived.Deep.RegionLaw
import Derived.Laws.NewBlocks
import Derived.Deep.LoopGhost
namespace Go.Proofs.Ytkglfgikfeebhaa.X
open Go Go.RowKit Go.Shelf Go.Lib Go.Proofs.YtkglfgikfeebhaaW.PrintWords Go.Proofs.Ytkglfgikfeebhaa.P
set_option linter.unusedVariables false
/-- A row of one's own, of cells. -/
abbrev Rc (W : World) (base : Nat) (v : Value) (xs : List S46) : Prop := Kd.R k46 46 W base (fun _ => True) v xs
set_option maxRecDepth 100000 in
set_option maxHeartbeats 8000000 in
theorem clone_c (A : Option Addr) (c : Nat) (l : List S46) (w : World) (hC : Kd.C k46 w A l.length l) (hc : l.length ≤ c) (hl : l.length ≤ 100000) :
    Calls Try.prog 27 #[.slice A l.length c] w fun e w' => ∃ v, e = .returned v ∧ Rc w' w.heap.size v l ∧ Below w.heap.size w w' := by
  have q61 : ∀ (W : World) (a : Option Addr) (n c n' c' : Nat), (binOp .eql 22 (.slice a n c) (.slice none n' c')).run Try.prog W = .ok (.bool a.isNone) W := fun W a n c n' c' => Lib.run_eql_slice_nil W _ _ a n c n' c' Try.underlying22
  cases A with
  | none =>
    have h0 : l = [] := by
      rcases l with _ | ⟨x, l⟩
      · rfl
      · obtain ⟨ad, _, e, _⟩ := Kd.C_get hC z46 0 (by omega) (by simp)
        cases e
    subst h0
    go_enter Try.func27, Try.ntmps27
    go_wp2
    go_ret
    exact ⟨_, rfl, Kd.R_nil _ _ _ _ _, Below.refl _ _⟩
  | some ad =>
    have HC := Lib.hid hC
    clear hC
    go_enter Try.func27, Try.ntmps27
    go_wp2_with (first
      | ((with_reducible refine gate_dst (N := 5) rfl ?_); refine Kd.R_lit k46 _ 46 ?hg (N := 5) ?hd (xs := ([] : List S46)) (inner := []) (ok := fun _ => True) (okp := fun _ => True) ?hr ?hp (fun _ hk => hk) trivial (Below.refl _ _) (Nat.le_refl _) (by simp) ?_; (case hd => rfl); (case hg => rfl); (case hr => first | (go_simp; done) | (go_simp; rfl)); (case hp => exact (Reps.none _ _)); intro v2 w2 ho hb hg_ hnew_; clear hg_ hnew_; have HO := Lib.hid ho; have HB := Lib.hid hb; clear ho hb)
      | ((with_reducible refine gate_builtin (b := .append) (xs := #[.tmp 5, .tmp 6]) rfl ?_); at_builtin; refine Kd.R_append_rows k46 (w0 := w) w.heap.size rfl (.tmp 5) (.tmp 6) 22 46 (.agg #[(.int .i64 0), (.int .i64 0), (.int .i64 0), (.int .i32 0), (.bool false)]) 32 rfl Try.underlying22 info46 rfl (by decide) (by omega) v2 ([] : List S46) l _ _ _ (fun _ => True) (fun _ => False) rfl rfl ?aO ?aR (fun _ _ h => h) (fun _ h => h.elim) (fun _ _ => trivial) ?aB ?aS ?aL ?_; (case aO => exact HO.out); (case aR => exact Kd.C_below HC.out HB.out); (case aB => exact HB.out); (case aS => exact HB.out.size); (case aL => simp; omega); intro v3 w3 ho hb hg hat; clear HO HB hg hat))
    go_ret
    exact ⟨_, rfl, by simpa using ho, hb⟩
/-- Is a cell gone? -/
theorem gone_w (a b o r : Int) (d : Bool) (w : World) : Calls Try.prog 25 #[.agg #[.int .i64 a, .int .i64 b, .int .i64 o, .int .i32 r, .bool d]] w fun e w' => e = .returned (.bool d) ∧ Below w.heap.size w w' := by
  go_enter Try.func25, Try.ntmps25
  go_upto_region 1 with fail
  obtain ⟨W2, hW2⟩ : ∃ x, w.alloc (.cells #[.int .i64 a, .int .i64 b, .int .i64 o, .int .i32 r, .bool d] 46) = x := ⟨_, rfl⟩
  have hb2 : Below w.heap.size w W2 := hW2 ▸ below_alloc (Below.refl _ _) _
  have hh := (show W2.heap[w.heap.size]? = _ from hW2 ▸ Deep.blk_alloc_new w _)
  have r4 : W2.cell? ⟨w.heap.size, 4, none⟩ = some (.bool d) := (blk_cell hh 4).trans rfl
  rw [hW2]
  clear hW2 hh
  go_wp2
  go_ret
  exact ⟨rfl, hb2⟩
/-- The place of the first that is gone, or -1. -/
def ixG (l : List S46) : Int := match l.findIdx? (·.f3) with
  | some i => (i : Int)
  | none => -1
theorem rd46 (l : List S46) (i : Nat) (h : i < l.length) : rd_T46 l (i : Int) = l[i] := by
  simp [rd_T46, List.getD_eq_getElem?_getD, List.getElem?_eq_getElem h]
theorem ixG_at {l : List S46} {i : Nat} (h : i < l.length) (h1 : ∀ t (ht : t < l.length), t < i → l[t].f3 = false) (h2 : l[i].f3 = true) : ixG l = (i : Int) := by
  unfold ixG
  rw [show l.findIdx? (·.f3) = some i from List.findIdx?_eq_some_iff_getElem.2 ⟨h, h2, fun j hj => by simp [h1 j (by omega) hj]⟩]
theorem ixG_none {l : List S46} (h : ∀ t (ht : t < l.length), l[t].f3 = false) : ixG l = -1 := by
  unfold ixG
  rw [show l.findIdx? (·.f3) = none from List.findIdx?_eq_none_iff.2 fun x hx => by obtain ⟨t, ht, rfl⟩ := List.mem_iff_getElem.1 hx; exact h t ht]
set_option maxRecDepth 100000 in
set_option maxHeartbeats 8000000 in
theorem index_c (A : Option Addr) (c : Nat) (l : List S46) (w : World) (hC : Kd.C k46 w A l.length l) (hl : l.length ≤ 100000) :
    Calls Try.prog 34 #[.slice A l.length c, .func (.func 25) #[] #[]] w fun e w' => e = .returned (.int .i64 (ixG l)) ∧ Below w.heap.size w w' := by
  obtain ⟨n, hn⟩ : ∃ n, l.length = n := ⟨_, rfl⟩
  have HC := Lib.hid hC
  have HN := Lib.hid hn
  rw [hn] at hl ⊢
  clear hC hn
  go_enter Try.func34, Try.ntmps34
  go_wp2
  go_loopg [8] n (fun j u8 wr => ∃ i : Nat, u8 = .int .i64 (i : Nat) ∧ Aside0 (i + j = n ∧ (∀ t (ht : t < l.length), t < i → l[t].f3 = false) ∧ Below w.heap.size w wr))
  case atStart => exact ⟨0, rfl, ⟨by omega, fun t ht h => absurd h (Nat.not_lt_zero _), Below.refl _ _⟩⟩
  case round =>
    obtain ⟨i, rfl, HR⟩ := hrel
    have HI := Lib.hid HR.out.1
    have HF := Lib.hid HR.out.2.1
    have hb := HR.out.2.2
    clear HR
    by_cases hik : i < n
    · have hi0 : (0 : Int) ≤ (i : Int) := by omega
      have hi1 : (i : Int) < (n : Int) := by omega
      have hil : i < l.length := by rw [HN.out]; exact hik
      obtain ⟨ad, e0, x0, x1, x2, x3, x4⟩ := at_T46 HC.out (i : Int) hi0 (by rw [HN.out]; exact hi1)
      cases e0
      replace x0 := (hb.cell (World.block_lt_of_cell? w _ x0)).trans x0
      replace x1 := (hb.cell (World.block_lt_of_cell? w _ x1)).trans x1
      replace x2 := (hb.cell (World.block_lt_of_cell? w _ x2)).trans x2
      replace x3 := (hb.cell (World.block_lt_of_cell? w _ x3)).trans x3
      replace x4 := (hb.cell (World.block_lt_of_cell? w _ x4)).trans x4
      rw [Int.toNat_natCast] at x0 x1 x2 x3 x4
      rw [rd46 l i hil] at x0 x1 x2 x3 x4
      obtain ⟨d, hd⟩ : ∃ d, l[i].f3 = d := ⟨_, rfl⟩
      rw [hd] at x4
      have HD := Lib.hid hd
      have HB := Lib.hid hb
      obtain ⟨a1, ha1⟩ : ∃ x, l[i].f0.f0 = x := ⟨_, rfl⟩
      obtain ⟨a2, ha2⟩ : ∃ x, l[i].f0.f1 = x := ⟨_, rfl⟩
      obtain ⟨a3, ha3⟩ : ∃ x, l[i].f1 = x := ⟨_, rfl⟩
      obtain ⟨a4, ha4⟩ : ∃ x, l[i].f2 = x := ⟨_, rfl⟩
      rw [ha1] at x0
      rw [ha2] at x1
      rw [ha3] at x2
      rw [ha4] at x3
      have hw : wrap64 ((i : Int) + 1) = ((i + 1 : Nat) : Int) := by unfold wrap64; omega
      have hW := Lib.hid hw
      clear hd hb ha1 ha2 ha3 ha4 hw
      cases d with
      | true =>
        go_wp2_with (go_at_call 25; refine (gone_w _ _ _ _ _ _).mono ?_; rintro e w2 ⟨rfl, hb2⟩)
        go_ret
        exact ⟨by rw [ixG_at hil HF.out HD.out]; first | done | rfl, below_step HB.out hb2⟩
      | false =>
        go_wp2_with (go_at_call 25; refine (gone_w _ _ _ _ _ _).mono ?_; rintro e w2 ⟨rfl, hb2⟩)
        go_roundg (n - (i + 1))
        case measure => have := HI.out; omega
        case rel => exact ⟨i + 1, by first | rfl | (rw [hW.out]), ⟨by have := HI.out; omega, fun t ht h => by
            rcases Nat.lt_or_ge t i with h1 | h1
            · exact HF.out t ht h1
            · have e : t = i := by omega
              subst e
              exact HD.out, below_step HB.out hb2⟩⟩
    · have hi1 : ¬ (i : Int) < (n : Int) := by omega
      have HB := Lib.hid hb
      clear hb
      go_wp2
      go_ret
      exact ⟨by rw [ixG_none fun t ht => HF.out t ht (by have := HN.out; have := HI.out; omega)]; first | done | rfl, HB.out⟩
end Go.Proofs.Ytkglfgikfeebhaa.X
