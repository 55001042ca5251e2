/-
  slices.Clone, slices.Delete and slices.Insert of runes, on rows of the call's own: by this session. Conditions: as typed (at most 2^40 runes).
-/
import Derived.Test.YtmkmpjkgpnahnaaDoorExt
import Derived.Test.YtmkmpjkgpnahnaaDoorBox
import Derived.Lib.LazyBuf
import Derived.Lib.AppendZeros
import Derived.Lib.Overlaps
import Derived.Lib.JoinLaws
import Derived.Lib.SliceRun
import Derived.Laws.Externs
import Derived.Laws.IdiomCopy
import Derived.Deep.RegionLaw
import Derived.Deep.OwnRows
import Derived.Shelf.Spec.SlicesInsert
import Derived.Lib.AppendZerosOnto
import Derived.Laws.NewBlocks
namespace Go.Proofs.YtmkmpjkgpnahnaaDoor.X
open Go Go.RowKit Go.Shelf Go.Lib Go.Proofs.YtmkmpjkgpnahnaaDoorW.PrintWords
set_option linter.unusedVariables false
theorem info_rune3 : (Tryd.prog.info? 21).map (fun i => (i.zero, i.size, i.bytes)) = some (some (.int .i32 0), 1, 4) := by kernel_rfl
/-- A row of one's own, of runes. -/
abbrev Rr (W : World) (base : Nat) (v : Value) (xs : List Int) : Prop := Kd.R (Kd.int .i32) 21 W base (fun _ => True) v xs
theorem row_out {W : World} {base : Nat} {v : Value} {xs : List Int} (h : Rr W base v xs) : (v = .slice none 0 0 ∧ xs = []) ∨ ∃ g cap cur, v = .slice (some ⟨g, 0, none⟩) xs.length cap ∧ base ≤ g ∧ W.heap[g]? = some (.cells cur 21 (0, 0)) ∧ xs.length ≤ cap ∧ cap ≤ maxLen ∧ cur.size = cap ∧ cur.toList.take xs.length = xs.map (Value.int .i32) := by
  obtain ⟨_, inner, hown, hr⟩ := h
  have hin : inner = xs.map (Value.int .i32) := by
    apply List.ext_getElem?
    intro j
    rw [List.getElem?_map]
    cases hx : xs[j]? with
    | none =>
      have hl := hr.1
      rw [List.getElem?_eq_none_iff] at hx
      rw [List.getElem?_eq_none (by rw [hl]; show xs.length * 1 ≤ j; omega)]
      rfl
    | some x =>
      have h2 : (inner.drop (j * 1)).take 1 = [Value.int .i32 x] := hr.2 j x hx
      have h3 := congrArg (·[0]?) h2
      simp only [Nat.mul_one, List.getElem?_take, List.getElem?_drop, Nat.add_zero] at h3
      simpa using h3
  subst hin
  rcases hown.2 with ⟨hv, hn⟩ | ⟨g, cap, cur, hv, hb, hh, hle, hm, hs, ht⟩
  · exact .inl ⟨hv, List.eq_nil_of_length_eq_zero hn⟩
  · exact .inr ⟨g, cap, cur, hv, hb, hh, hle, hm, by simpa [Kd.int, Kd.scalar] using hs, by simpa [Kd.int, Kd.scalar] using ht⟩
theorem row_in {W : World} {base g cap : Nat} {cur : Array Value} {xs : List Int} (hb : base ≤ g) (hh : W.heap[g]? = some (.cells cur 21 (0, 0))) (hle : xs.length ≤ cap) (hm : cap ≤ maxLen) (hs : cur.size = cap) (ht : cur.toList.take xs.length = xs.map (Value.int .i32)) : Rr W base (.slice (some ⟨g, 0, none⟩) xs.length cap) xs := by
  refine ⟨fun _ _ => trivial, xs.map (Value.int .i32), ⟨by simp [Kd.int, Kd.scalar], .inr ⟨g, cap, cur, rfl, hb, hh, hle, hm, by simpa [Kd.int, Kd.scalar] using hs, by simpa [Kd.int, Kd.scalar] using ht⟩⟩, by simp [Kd.int, Kd.scalar], fun j x hx => ?_⟩
  show ((xs.map (Value.int .i32)).drop (j * 1)).take 1 = [Value.int .i32 x]
  obtain ⟨hj, hx'⟩ := List.getElem?_eq_some_iff.1 hx
  rw [Nat.mul_one, List.drop_eq_getElem_cons (by simpa using hj)]
  simp [hx']
/-! ### slices.Clone -/
set_option maxRecDepth 100000 in
set_option maxHeartbeats 4000000 in
theorem clone_calls (A : Option Addr) (c : Nat) (l : List Int) (w : World) (hC : Kd.C (Kd.int .i32) w A l.length l) (hc : l.length ≤ c) (hl : l.length ≤ 1099511627776) :
    Calls Tryd.prog 44 #[.slice A l.length c] w fun e w' => ∃ v, e = .returned v ∧ Rr w' w.heap.size v l ∧ Below w.heap.size w w' := by
  have q61 : ∀ (W : World) (a : Option Addr) (n c n' c' : Nat), (binOp .eql 61 (.slice a n c) (.slice none n' c')).run Tryd.prog W = .ok (.bool a.isNone) W := fun W a n c n' c' => Lib.run_eql_slice_nil W _ _ a n c n' c' Tryd.underlying61
  cases A with
  | none =>
    have h0 : l = [] := by
      rcases l with _ | ⟨x, l⟩
      · rfl
      · obtain ⟨ad, _, e, _⟩ := Kd.C_get hC 0 0 (by omega) (by simp)
        cases e
    subst h0
    go_enter Tryd.func44, Tryd.ntmps44
    go_wp2
    go_ret
    exact ⟨_, rfl, Kd.R_nil _ _ _ _ _, Below.refl _ _⟩
  | some ad =>
    have HC := Lib.hid hC
    clear hC
    go_enter Tryd.func44, Tryd.ntmps44
    go_wp2_with ((with_reducible refine gate_dst (N := 7) rfl ?_); refine Kd.R_append_rows (Kd.int .i32) (Rr := (Kd.int .i32).K (w.alloc (.cells #[] 21))) (w0 := w) w.heap.size rfl (.tmp 5) (.tmp 6) 61 21 (.int .i32 0) 4 rfl Tryd.underlying61 info_rune3 rfl (by decide) (by omega) (.slice (some ⟨w.heap.size, 0, none⟩) 0 0) [] l (some ad) l.length c (fun _ => True) (fun _ => False) rfl rfl (row_in (cur := #[]) (cap := 0) (xs := []) (Nat.le_refl _) (blk_new _ _) (Nat.le_refl _) (Nat.zero_le _) rfl rfl) (Kd.C_alloc HC.out _) (fun _ _ h => h) (fun _ h => h.elim) (fun _ _ => trivial) (below_alloc (Below.refl _ _) _) (by simp) (by simp; omega) ?_; intro v1 w1 ho hb _ _)
    go_ret
    exact ⟨_, rfl, by simpa using ho, hb⟩
/-! ### slices.Delete -/
theorem row_is {W : World} {g cap : Nat} {cur : Array Value} (hh : W.heap[g]? = some (.cells cur 21 (0, 0))) (hs : cur.size = cap) : W.rowIs g 21 cap (fun t => cur[t]?.getD default) :=
  ⟨cur, hh, hs, fun i hi => by show cur[i]? = some (cur[i]?.getD default); rw [Array.getElem?_eq_getElem (by omega)]; rfl⟩
theorem row_in' {W : World} {base g cap : Nat} {f : Nat → Value} {xs : List Int} (hb : base ≤ g) (hr : W.rowIs g 21 cap f) (hle : xs.length ≤ cap) (hm : cap ≤ maxLen) (hf : ∀ t x, xs[t]? = some x → f t = .int .i32 x) : Rr W base (.slice (some ⟨g, 0, none⟩) xs.length cap) xs := by
  obtain ⟨c, hh, hs, hc⟩ := hr
  refine row_in hb hh hle hm hs ?_
  apply List.ext_getElem?
  intro t
  rw [List.getElem?_take, List.getElem?_map]
  by_cases ht : t < xs.length
  · rw [if_pos ht, Array.getElem?_toList, hc t (by omega), hf t xs[t] (List.getElem?_eq_getElem ht), List.getElem?_eq_getElem ht]
    rfl
  · rw [if_neg ht, List.getElem?_eq_none (by omega)]
    rfl
theorem cur_at {cur : Array Value} {xs : List Int} (ht : cur.toList.take xs.length = xs.map (Value.int .i32)) {t : Nat} {x : Int} (hx : xs[t]? = some x) : cur[t]? = some (.int .i32 x) := by
  have hl := (List.getElem?_eq_some_iff.1 hx).1
  have h := congrArg (·[t]?) ht
  simp only [List.getElem?_take, List.getElem?_map, if_pos hl, hx, Option.map_some, Array.getElem?_toList] at h
  exact h
set_option maxRecDepth 100000 in
set_option maxHeartbeats 8000000 in
theorem delete_calls (base : Nat) (v : Value) (xs : List Int) (i j : Nat) (w : World) (h : Rr w base v xs) (hij : i ≤ j) (hj : j ≤ xs.length) (hl : xs.length ≤ 1099511627776) :
    Calls Tryd.prog 43 #[v, .int .i64 i, .int .i64 j] w fun e w' => ∃ v', e = .returned v' ∧ Rr w' base v' (xs.take i ++ xs.drop j) ∧ ∀ w0, Below base w0 w → Below base w0 w' := by
  by_cases heq : i = j
  · subst heq
    have hs : xs.take i ++ xs.drop i = xs := List.take_append_drop i xs
    rw [hs]
    have HR := Lib.hid h
    rcases row_out h with ⟨rfl, rfl⟩ | ⟨g, cap, cur, rfl, hb, hh, hle, hm, hcs, ht⟩
    · have h0 : i = 0 := by simpa using hj
      subst h0
      clear h
      go_enter Tryd.func43, Tryd.ntmps43
      go_wp2
      go_ret
      exact ⟨_, rfl, HR.out, fun _ hb => hb⟩
    · have c63 : cap ≤ 9223372036854775807 := by simpa [maxLen] using hm
      clear h hh ht hcs hb hs
      by_cases hin : xs.length = i
      · subst hin
        go_enter Tryd.func43, Tryd.ntmps43
        go_wp2
        all_goals (go_ret; exact ⟨_, rfl, HR.out, fun _ hb => hb⟩)
      · go_enter Tryd.func43, Tryd.ntmps43
        go_wp2
        all_goals (go_ret; exact ⟨_, rfl, HR.out, fun _ hb => hb⟩)
  · have hlt : i < j := by omega
    rcases row_out h with ⟨rfl, rfl⟩ | ⟨g, cap, cur, rfl, hb, hh, hle, hm, hcs, ht⟩
    · simp at hj; omega
    · obtain ⟨n, hn⟩ : ∃ n, xs.length = n := ⟨_, rfl⟩
      have c63 : cap ≤ 9223372036854775807 := by simpa [maxLen] using hm
      obtain ⟨i0, hi0, hz⟩ := Option.map_eq_some_iff.1 info_rune3
      simp only [Prod.mk.injEq] at hz
      have hz1 : i0.size = 1 := hz.2.1
      obtain ⟨news, hnews⟩ : ∃ news, news = (xs.drop j).map (Value.int .i32) := ⟨_, rfl⟩
      have hlen : news.length = n - j := by rw [hnews, List.length_map, List.length_drop, hn]
      have hsome : ∀ (W : World) (c : Array Value), W.heap[g]? = some (.cells c 21 (0, 0)) → c.size = cap → ∀ t, t < cap → (W.cell? ⟨g, t, none⟩).isSome = true := fun W c hc hs t ht => by
        rw [blk_cell hc t, Array.getElem?_eq_getElem (by omega)]; rfl
      have hhd : w.drew.heap[g]? = some (.cells cur 21 (0, 0)) := hh
      rw [hn] at hle hj
      obtain ⟨A, hA, hsrc⟩ : ∃ A : Addr, (if cap = j then some (⟨g, 0, none⟩ : Addr) else some ⟨g, j, none⟩) = some A ∧ Hid (∀ t u, news[t]? = some u → w.drew.cell? (A.add t) = some u) := by
        by_cases hc : cap = j
        · refine ⟨⟨g, 0, none⟩, by simp [hc], fun t u hu => ?_⟩
          have h0 : news.length = 0 := by rw [hlen]; omega
          rw [List.length_eq_zero_iff.1 h0] at hu
          simp at hu
        · refine ⟨⟨g, j, none⟩, by simp [hc], fun t u hu => ?_⟩
          rw [Addr.add_lit, blk_cell hhd]
          rw [hnews, List.getElem?_map, Option.map_eq_some_iff] at hu
          obtain ⟨x, hx, rfl⟩ := hu
          rw [List.getElem?_drop] at hx
          exact cur_at ht hx
      have s1 : Hid (news.length = (n - j) * 1) := by rw [Nat.mul_one]; exact hlen
      have s2 : Hid (∀ u ∈ news, u.oneCell' = true) := fun u hu => by
        rw [hnews] at hu
        obtain ⟨x, _, rfl⟩ := List.mem_map.1 hu
        rfl
      have s3 : Hid (∀ t, t < news.length → (w.drew.cell? ⟨g, 0 + i * 1 + t, none⟩).isSome = true ∧ w.drew.frozen? ⟨g, 0 + i * 1 + t, none⟩ = false) := fun t ht' => by
        rw [hlen] at ht'
        exact ⟨hsome _ _ hhd hcs _ (by omega), blk_frozen hhd _⟩
      obtain ⟨W1, hW1⟩ : ∃ W1, W1 = w.drew.setCells g (0 + i * 1) news := ⟨_, rfl⟩
      have r1 : W1.rowIs g 21 cap _ := hW1 ▸ rowIs_setCells news (0 + i * 1) w.drew _ (row_is hhd hcs)
      obtain ⟨c1, hh1, hs1, hc1⟩ := r1
      have hcl : ∀ ty, (Builtin.clear_ #[61] ty #[.slice (some ⟨g, i + (n - j), none⟩) (j - i) (cap - (i + (n - j)))]).run Tryd.prog W1 = .ok (.tuple #[]) (W1.setCells g (i + (n - j)) (List.replicate (j - i) (.int .i32 0))) :=
        fun ty => Lib.run_clear_slice W1 _ _ ty _ Tryd.underlying61 Tryd.zeroValue21 rfl rfl g (i + (n - j)) _ _ (by omega) (fun t ht' => hsome _ _ hh1 hs1 _ (by omega)) (fun t ht' => blk_frozen hh1 _)
      have HF := Lib.hid (And.intro (And.intro hb hm) (And.intro (And.intro hh1 hs1) (And.intro hc1 (And.intro ht hnews))))
      have HW := Lib.hid hW1
      have HN := Lib.hid (And.intro hn hlen)
      have hic : i ≤ cap := by omega
      have hjc : j ≤ cap := by omega
      have hti : decide ((i : Int) = (j : Int)) = false := decide_eq_false (by omega)
      have hnij : ¬ ((i : Int) = (j : Int)) := by omega
      have e1 : n - (i + (n - j)) = j - i := by omega
      rw [hn]
      clear hW1 hh1 hs1 hc1 ht hnews hh hhd hsome hcs h hlen hb hz hn
      go_enter Tryd.func43, Tryd.ntmps43
      go_wp2_with fail
      go_region_law (refine step_append_room rfl (.tmp 22) (.tmp 25) 61 rfl 21 i0 1 Tryd.underlying61 hi0 hz1 g 0 i cap (by simp [Act.eval, Act.put]) A (n - j) (cap - j) news (by simp [Act.eval, Act.put]) s1.out hsrc.out s2.out (by omega) s3.out ?_; rw [← HW.out])
      go_wp2
      go_ret
      obtain ⟨⟨hb, hm⟩, ⟨hh1, hs1⟩, hc1, ht, hnews⟩ := HF.out
      obtain ⟨hn, hlen⟩ := HN.out
      have hlx : (xs.take i ++ xs.drop j).length = i + (n - j) := by rw [List.length_append, List.length_take, List.length_drop, hn]; omega
      refine ⟨_, rfl, ?_, fun w0 hb0 => ?_⟩
      · rw [show i + (n - j) = (xs.take i ++ xs.drop j).length from hlx.symm]
        refine row_in' hb (rowIs_setCells _ _ W1 _ ⟨c1, hh1, hs1, hc1⟩) (by rw [hlx]; omega) hm (fun t x hx => ?_)
        have htl := (List.getElem?_eq_some_iff.1 hx).1
        rw [hlx] at htl
        rw [hlx, if_neg (by omega)]
        by_cases hti : t < i
        · rw [if_neg (by omega)]
          rw [List.getElem?_append_left (by rw [List.length_take]; omega), List.getElem?_take, if_pos hti] at hx
          rw [cur_at ht hx]
          rfl
        · rw [if_pos ⟨by omega, by rw [hlen]; omega⟩]
          rw [List.getElem?_append_right (by rw [List.length_take]; omega), List.length_take, List.getElem?_drop] at hx
          rw [hnews, List.getElem?_map, List.getElem?_drop, show j + (t - (0 + i * 1)) = j + (t - min i xs.length) by omega, hx]
          rfl
      · have hw1 : Below base w0 W1 := by
          rw [HW.out]
          exact below_setCells hb _ _ _ hb0.drew
        exact below_setCells hb _ _ _ hw1
/-! ### slices.Insert -/
set_option maxRecDepth 100000 in
set_option maxHeartbeats 8000000 in
theorem insert_none0 (A2 : Option Addr) (c2 : Nat) (w : World) :
    Calls Tryd.prog 45 #[.slice none 0 0, .int .i64 (0 : Nat), .slice A2 0 c2] w fun e w' => e = .returned (.slice none 0 0) ∧ w' = w := by
  go_enter Tryd.func45, Tryd.ntmps45
  go_wp2
  all_goals (go_ret; exact ⟨rfl, rfl⟩)
set_option maxRecDepth 100000 in
set_option maxHeartbeats 8000000 in
theorem insert_none (g n cap i : Nat) (A2 : Option Addr) (c2 : Nat) (w : World) (hi : i ≤ n) (hn : n ≤ cap) (hc : cap ≤ 9223372036854775807) :
    Calls Tryd.prog 45 #[.slice (some ⟨g, 0, none⟩) n cap, .int .i64 i, .slice A2 0 c2] w fun e w' => e = .returned (.slice (some ⟨g, 0, none⟩) n cap) ∧ w' = w := by
  have hic : i ≤ cap := by omega
  go_enter Tryd.func45, Tryd.ntmps45
  go_wp2
  all_goals (go_ret; exact ⟨rfl, rfl⟩)
set_option maxRecDepth 100000 in
set_option maxHeartbeats 8000000 in
/-- At the end. -/
theorem insert_end (base : Nat) (v : Value) (xs ys : List Int) (A2 : Option Addr) (c2 m : Nat) (w : World) (h : Rr w base v xs) (hC : Kd.C (Kd.int .i32) w A2 m ys) (hm : ys.length = m) (hm0 : 0 < m) (hb : base ≤ w.heap.size) (hl : xs.length + m ≤ 1099511627776) :
    Calls Tryd.prog 45 #[v, .int .i64 xs.length, .slice A2 m c2] w fun e w' => ∃ v', e = .returned v' ∧ Rr w' base v' (xs ++ ys) ∧ ∀ w0, Below base w0 w → Below base w0 w' := by
  have HR := Lib.hid h
  have HC := Lib.hid hC
  have hz1 : ¬ ((m : Int) = 0) := by omega
  have hz2 : ((m : Int) == 0) = false := beq_eq_false_iff_ne.2 hz1
  have hz3 : ¬ m = 0 := by omega
  have hgo : ∀ v2, v = v2 → (∀ w0, Below base w0 w → Below base w0 w) := fun _ _ _ h => h
  rcases row_out h with ⟨rfl, rfl⟩ | ⟨g, cap, cur, rfl, hbg, hh, hle, hcm, hcs, ht⟩
  · clear h hC
    go_enter Tryd.func45, Tryd.ntmps45
    go_wp2_with ((with_reducible refine gate_dst (N := 25) rfl ?_); refine Kd.R_append_rows (Kd.int .i32) (Rr := (Kd.int .i32).K w) (w0 := w) base rfl (.tmp 23) (.tmp 24) 61 21 (.int .i32 0) 4 rfl Tryd.underlying61 info_rune3 rfl (by decide) (by omega) (.slice none 0 0) [] ys A2 m c2 (fun _ => True) (fun _ => False) rfl rfl HR.out HC.out (fun _ _ h => h) (fun _ h => h.elim) (fun _ _ => trivial) (Below.refl _ _) hb (by simp; omega) ?_; intro v1 w1 ho hb1 hg1 _)
    go_ret
    exact ⟨_, rfl, ho, fun w0 hb0 => ⟨hb1.os.trans hb0.os, hb1.tape.trans hb0.tape, hb1.output.trans hb0.output, Nat.le_trans hb0.size hb1.size, fun k hk => (hb1.block k hk).trans (hb0.block k hk)⟩⟩
  · have c63 : cap ≤ 9223372036854775807 := by simpa [maxLen] using hcm
    obtain ⟨n, hn⟩ : ∃ n, xs.length = n := ⟨_, rfl⟩
    rw [hn] at HR hle ⊢
    have HN := Lib.hid hn
    rw [hn] at hl
    clear h hC hh hcs ht hn
    go_enter Tryd.func45, Tryd.ntmps45
    go_wp2_with ((with_reducible refine gate_dst (N := 25) rfl ?_); refine Kd.R_append_rows (Kd.int .i32) (Rr := (Kd.int .i32).K w) (w0 := w) base rfl (.tmp 23) (.tmp 24) 61 21 (.int .i32 0) 4 rfl Tryd.underlying61 info_rune3 rfl (by decide) (by omega) (.slice (some ⟨g, 0, none⟩) n cap) xs ys A2 m c2 (fun _ => True) (fun _ => False) rfl rfl HR.out HC.out (fun _ _ h => h) (fun _ h => h.elim) (fun _ _ => trivial) (Below.refl _ _) hb (by rw [HN.out]; omega) ?_; intro v1 w1 ho hb1 hg1 _)
    all_goals (go_ret; exact ⟨_, rfl, ho, fun w0 hb0 => ⟨hb1.os.trans hb0.os, hb1.tape.trans hb0.tape, hb1.output.trans hb0.output, Nat.le_trans hb0.size hb1.size, fun k hk => (hb1.block k hk).trans (hb0.block k hk)⟩⟩)
theorem cell_some {W : World} {g cap : Nat} {c : Array Value} (hc : W.heap[g]? = some (.cells c 21 (0, 0))) (hs : c.size = cap) {t : Nat} (ht : t < cap) : (W.cell? ⟨g, t, none⟩).isSome = true := by
  rw [blk_cell hc t, Array.getElem?_eq_getElem (by omega)]
  rfl
set_option maxRecDepth 100000 in
set_option maxHeartbeats 8000000 in
/-- There is room: in place. -/
theorem insert_shift (g n cap i g2 m c2 cap2 : Nat) (cur cur2 : Array Value) (cs vs : List Value) (w : World) (hh : w.heap[g]? = some (.cells cur 21 (0, 0))) (hcs : cur.size = cap) (hh2 : w.heap[g2]? = some (.cells cur2 21 (0, 0))) (hcs2 : cur2.size = cap2) (hne : g2 ≠ g) (hi : i < n) (hm : 0 < m) (hroom : n + m ≤ cap) (hc63 : cap ≤ 9223372036854775807)
    (hcl : cs.length = n) (hvl : vs.length = m) (hc : ∀ j v, cs[j]? = some v → w.cell? ⟨g, j, none⟩ = some v) (hv : ∀ j v, vs[j]? = some v → w.cell? ⟨g2, j, none⟩ = some v) (h1c : ∀ v ∈ cs, v.oneCell' = true) (h1v : ∀ v ∈ vs, v.oneCell' = true) :
    Calls Tryd.prog 45 #[.slice (some ⟨g, 0, none⟩) n cap, .int .i64 i, .slice (some ⟨g2, 0, none⟩) m c2] w fun e w' =>
      e = .returned (.slice (some ⟨g, 0, none⟩) (n + m) cap) ∧ w' = (w.drew.setCells g (i + m) (cs.drop i)).setCells g i vs := by
  have hz1 : ¬ ((m : Int) = 0) := by omega
  have hz2 : ¬ ((i : Int) = (n : Int)) := by omega
  have hsz : (Tryd.prog.info? 21).map (·.size) = some 1 := by kernel_rfl
  have z1 : ∀ w, (Go.sizeOf 21).run Tryd.prog w = .ok 1 w := Tryd.sizeOf21
  have hkB : cap ≠ 0 := by omega
  have hov : ∀ lb cb, (callFunc 49 #[.slice (some ⟨g2, 0, none⟩) m c2, .slice (some ⟨g, i + m, none⟩) lb cb]).run Tryd.prog w = .ok (.value (.bool false)) w := fun lb cb => by
    rw [run_callFunc_extern Tryd.func49 (by kernel_rfl) (by kernel_rfl) (by kernel_rfl) (e := Extern.SlicesOverlaps.overlaps #[61, 61] #[4]) (by kernel_rfl),
      Lib.run_overlaps_apart w 61 4 21 Tryd.underlying61 1 z1 ⟨g2, 0, none⟩ ⟨g, i + m, none⟩ m c2 lb cb hne 21 21 cap2 cap (by unfold World.shape?; rw [hh2]; simp [hcs2]) (by unfold World.shape?; rw [hh]; simp [hcs]) hkB (blk_frozen hh2 _) (blk_frozen hh2 _)]
    rfl
  have hdl : (cs.drop i).length = n - i := by rw [List.length_drop, hcl]
  have hw1 : IntKind.i64.wrap ((i : Int) + (m : Int)) = (i : Int) + (m : Int) := by rw [IntKind.wrap_i64]; omega
  have hb1 : (0 : Int) ≤ (i : Int) + (m : Int) := by omega
  have hin : i ≤ n := by omega
  have htn : ((i : Int) + (m : Int)).toNat = i + m := by omega
  have hb2 : ¬ (cap = i + m) := by omega
  have hb3 : (i : Int) ≤ (n : Int) + (m : Int) := by omega
  have hb4 : ¬ (cap = i) := by omega
  have hhd : w.drew.heap[g]? = some (.cells cur 21 (0, 0)) := hh
  have hcp1 : ∀ ty dc sc, (Builtin.copy_ #[61, 61] ty #[.slice (some ⟨g, i + m, none⟩) (n + m - (i + m)) dc, .slice (some ⟨g, i, none⟩) (n + m - i) sc]).run Tryd.prog w.drew = .ok (goInt (cs.drop i).length) (w.drew.setCells g (i + m) (cs.drop i)) := fun ty dc sc =>
    run_copy_cells w.drew _ _ ty 21 g (i + m) (n + m - (i + m)) dc ⟨g, i, none⟩ (n + m - i) sc (cs.drop i) Tryd.underlying61 hsz (by rw [hdl]; simp only [Nat.min_def]; split <;> omega)
      (fun j v hj => by rw [Addr.add_lit]; exact hc (i + j) v (by rwa [List.getElem?_drop] at hj))
      (fun j hj => cell_some hhd hcs (by omega)) (fun j hj => blk_frozen hhd _) (fun v hv => h1c v (List.mem_of_mem_drop hv))
  obtain ⟨W1, hW1⟩ : ∃ W1, W1 = w.drew.setCells g (i + m) (cs.drop i) := ⟨_, rfl⟩
  obtain ⟨c1, hh1, hs1, _⟩ : W1.rowIs g 21 cap _ := hW1 ▸ rowIs_setCells (cs.drop i) (i + m) w.drew _ (row_is hhd hcs)
  have hcp2 : ∀ (W : World), (∀ x, W.cell? x = W1.cell? x) → (∀ x, W.frozen? x = W1.frozen? x) → ∀ ty dc, (Builtin.copy_ #[61, 61] ty #[.slice (some ⟨g, i, none⟩) (n + m - i) dc, .slice (some ⟨g2, 0, none⟩) m c2]).run Tryd.prog W = .ok (goInt vs.length) (W.setCells g i vs) := fun W hWc hWf ty dc =>
    run_copy_cells W _ _ ty 21 g i (n + m - i) dc ⟨g2, 0, none⟩ m c2 vs Tryd.underlying61 hsz (by rw [hvl]; simp only [Nat.min_def]; split <;> omega)
      (fun j v hj => by
        rw [Addr.add_lit, Nat.zero_add, hWc, hW1, World.cell?_setCells_out g _ _ _ _ (fun h _ => absurd h hne)]
        exact hv j v hj)
      (fun j hj => by rw [hWc]; exact cell_some hh1 hs1 (by omega)) (fun j hj => by rw [hWf]; exact blk_frozen hh1 _) h1v
  rw [← hW1] at hcp1
  have HW := Lib.hid hW1
  clear hh1 hs1 hW1 hhd hh hh2 hcs hcs2 hc hv h1c h1v hdl z1 hsz hkB
  go_enter Tryd.func45, Tryd.ntmps45
  go_wp2_with (simp only [hov])
  go_region_law (refine step_copy_runI rfl _ _ 61 61 rfl _ _ (by simp [Act.eval, Act.put]) (by simp [Act.eval, Act.put]) (hcp1 _ _ _) ?_)
  go_wp2_with (at_builtin; refine wpList_copy_runI _ rfl _ _ 61 61 rfl _ _ rfl rfl (hcp2 _ (fun _ => rfl) (fun _ => rfl) _ _) ?_)
  go_ret
  first | exact ⟨rfl, rfl⟩ | exact ⟨rfl, by rw [HW.out]⟩
set_option maxRecDepth 100000 in
set_option maxHeartbeats 8000000 in
/-- There is no room: a new row. -/
theorem insert_grow (g n cap i g2 m c2 : Nat) (cs vs : List Value) (w : World) (hg : g < w.heap.size) (hg2 : g2 < w.heap.size) (hi : i < n) (hm : 0 < m) (hnc : n ≤ cap) (hroom : cap < n + m) (hbig : (n + m) * 4 ≤ 140737488355328)
    (hcl : cs.length = n) (hvl : vs.length = m) (hc : ∀ j v, cs[j]? = some v → w.cell? ⟨g, j, none⟩ = some v) (hv : ∀ j v, vs[j]? = some v → w.cell? ⟨g2, j, none⟩ = some v) (h1c : ∀ v ∈ cs, v.oneCell' = true) (h1v : ∀ v ∈ vs, v.oneCell' = true) :
    Calls Tryd.prog 45 #[.slice (some ⟨g, 0, none⟩) n cap, .int .i64 i, .slice (some ⟨g2, 0, none⟩) m c2] w fun e w' =>
      ∃ (G : Nat) (ROW : Array Value), n + m ≤ G ∧ G ≤ 9223372036854775807 ∧ ROW.size = G ∧ (∀ j v, j < i → cs[j]? = some v → ROW[j]? = some v) ∧ e = .returned (.slice (some ⟨w.heap.size, 0, none⟩) (n + m) G) ∧
        w' = (((w.alloc (.cells ROW 21)).drew.setCells w.heap.size i vs).drew).setCells w.heap.size (i + m) (cs.drop i) := by
  obtain ⟨i0, hi0, hz⟩ := Option.map_eq_some_iff.1 info_rune3
  simp only [Prod.mk.injEq] at hz
  obtain ⟨hz0, hzs, hzb⟩ := hz
  have hz1 : ¬ ((m : Int) = 0) := by omega
  have hz2 : ¬ ((i : Int) = (n : Int)) := by omega
  have hz3 : (cap : Int) < (n : Int) + (m : Int) := by omega
  have hsz : (Tryd.prog.info? 21).map (·.size) = some 1 := by kernel_rfl
  have hkk : (n : Int) + (m : Int) - (i : Int) = ((n + m - i : Nat) : Int) := by omega
  have hik : i + (n + m - i) = n + m := by omega
  have hold : (Builtin.firstCells i0.size i (.slice (some ⟨g, 0, none⟩) i cap)).run Tryd.prog w.drew = .ok (cs.take i).toArray w.drew := by
    rw [hzs]
    exact run_firstCells_some w.drew 1 i ⟨g, 0, none⟩ i cap (cs.take i) (by rw [List.length_take]; omega) (fun j v hj => by
      rw [Addr.add_lit, Nat.zero_add]
      rw [List.getElem?_take] at hj
      split at hj
      · exact hc j v hj
      · cases hj)
  obtain ⟨G, hG⟩ : ∃ G, G = grownCap w (n + m) cap 21 := ⟨_, rfl⟩
  obtain ⟨ROW, hROW⟩ : ∃ ROW : Array Value, ROW = (cs.take i).toArray ++ Builtin.zeroCells (Value.int .i32 0).cells (n + m - i) ++ Builtin.zeroCells (Value.int .i32 0).cells (G - (n + m)) := ⟨_, rfl⟩
  have hrz : ∀ ty, (Builtin.append_ #[61, 3] ty #[.slice (some ⟨g, 0, none⟩) i cap, .int .i64 ((n : Int) + (m : Int) - (i : Int))]).run Tryd.prog w =
      .ok (.slice (some ⟨w.heap.size, 0, none⟩) (n + m) G) (w.drew.alloc (.cells ROW 21)) := fun ty => by
    have h := Lib.run_append_grow_zeros w 61 3 ty 21 i0 _ .i64 .i64 Tryd.underlying61 Tryd.underlying3 hi0 hz0 (some ⟨g, 0, none⟩) i cap (cs.take i) hold (n + m - i) (by omega) (by omega) (by omega) (by omega) (by rw [hzb]; omega) (by rw [hzb, hik]; exact growslice_fits hroom hbig)
    rw [hik, ← hG, ← hROW] at h
    rw [hkk]
    exact h
  have hGn : n + m ≤ G := by rw [hG]; exact grownCap_ge w _ _ _
  have hG63 : G ≤ 9223372036854775807 := by
    have := grownCap_le_maxLen w (n + m) cap 21 (by unfold maxLen; omega)
    rw [← hG] at this
    unfold maxLen at this
    omega
  have hRl : ROW.size = G := by
    rw [hROW]
    simp [Builtin.zeroCells, Value.cells]
    omega
  have hRi : ∀ j v, j < i → cs[j]? = some v → ROW[j]? = some v := fun j v hj hjv => by
    have hjl := (List.getElem?_eq_some_iff.1 hjv).1
    rw [hROW, Array.append_assoc, Array.getElem?_append_left (by simp; omega), List.getElem?_toArray, List.getElem?_take, if_pos hj, hjv]
  obtain ⟨W1, hW1⟩ : ∃ W1, W1 = w.drew.alloc (.cells ROW 21) := ⟨_, rfl⟩
  rw [← hW1] at hrz
  have hN : ∀ j, j < n + m → (W1.cell? ⟨w.heap.size, j, none⟩).isSome = true := fun j hj => by
    rw [hW1, World.cell?_alloc_at (w := w.drew) ROW _ w.heap.size j rfl, Array.getElem?_eq_getElem (by omega)]; rfl
  have hNf : ∀ j, W1.frozen? ⟨w.heap.size, j, none⟩ = false := fun j => by rw [hW1]; exact World.frozen?_alloc_at (w := w.drew) ROW _ w.heap.size j rfl
  have hOb : ∀ j v, w.cell? ⟨g, j, none⟩ = some v → W1.cell? ⟨g, j, none⟩ = some v := fun j v h => by rw [hW1, World.cell?_alloc_past (w := w.drew) _ g j hg]; exact h
  have hOv : ∀ j v, w.cell? ⟨g2, j, none⟩ = some v → W1.cell? ⟨g2, j, none⟩ = some v := fun j v h => by rw [hW1, World.cell?_alloc_past (w := w.drew) _ g2 j hg2]; exact h
  have hcpA : ∀ (W : World), (∀ x, W.cell? x = W1.cell? x) → (∀ x, W.frozen? x = W1.frozen? x) → ∀ ty dc, (Builtin.copy_ #[61, 61] ty #[.slice (some ⟨w.heap.size, i, none⟩) (n + m - i) dc, .slice (some ⟨g2, 0, none⟩) m c2]).run Tryd.prog W = .ok (goInt vs.length) (W.setCells w.heap.size i vs) := fun W hWc hWf ty dc =>
    run_copy_cells W _ _ ty 21 w.heap.size i (n + m - i) dc ⟨g2, 0, none⟩ m c2 vs Tryd.underlying61 hsz (by rw [hvl]; simp only [Nat.min_def]; split <;> omega)
      (fun j v hj => by rw [Addr.add_lit, Nat.zero_add, hWc]; exact hOv _ v (hv j v hj))
      (fun j hj => by rw [hWc]; exact hN _ (by omega)) (fun j hj => by rw [hWf]; exact hNf _) h1v
  have hGi : ¬ (G = i) := by omega
  have hGim : ¬ (G = i + m) := by omega
  have hci : ¬ (cap = i) := by omega
  have hbN : g ≠ w.heap.size := by omega
  have hdl : (cs.drop i).length = n - i := by rw [List.length_drop, hcl]
  have hcpB : ∀ (W : World), (∀ x, W.cell? x = (W1.setCells w.heap.size i vs).cell? x) → (∀ x, W.frozen? x = (W1.setCells w.heap.size i vs).frozen? x) → ∀ ty dc sc, (Builtin.copy_ #[61, 61] ty #[.slice (some ⟨w.heap.size, i + m, none⟩) (n + m - (i + m)) dc, .slice (some ⟨g, i, none⟩) (n - i) sc]).run Tryd.prog W = .ok (goInt (cs.drop i).length) (W.setCells w.heap.size (i + m) (cs.drop i)) := fun W hWc hWf ty dc sc =>
    run_copy_cells W _ _ ty 21 w.heap.size (i + m) (n + m - (i + m)) dc ⟨g, i, none⟩ (n - i) sc (cs.drop i) Tryd.underlying61 hsz (by rw [hdl]; simp only [Nat.min_def]; split <;> omega)
      (fun j v hj => by
        rw [Addr.add_lit, hWc, World.cell?_setCells_out _ _ _ _ _ (fun h _ => absurd h hbN)]
        exact hOb _ v (hc (i + j) v (by rwa [List.getElem?_drop] at hj)))
      (fun j hj => by rw [hWc]; exact isSome_setCells _ _ _ _ (fun t ht => hN _ (by omega)) _ (hN _ (by omega)))
      (fun j hj => by rw [hWf, World.frozen?_setCells]; exact hNf _) (fun v hv => h1c v (List.mem_of_mem_drop hv))
  subst hW1
  have hE1 : ∀ x, ((w.alloc (.cells ROW 21)).drew).cell? x = (w.drew.alloc (.cells ROW 21)).cell? x := fun x => rfl
  have hE2 : ∀ x, ((w.alloc (.cells ROW 21)).drew).frozen? x = (w.drew.alloc (.cells ROW 21)).frozen? x := fun x => rfl
  have hF1 : ∀ x, (((w.alloc (.cells ROW 21)).drew.setCells w.heap.size i vs).drew).cell? x = ((w.drew.alloc (.cells ROW 21)).setCells w.heap.size i vs).cell? x := fun x => rfl
  have hF2 : ∀ x, (((w.alloc (.cells ROW 21)).drew.setCells w.heap.size i vs).drew).frozen? x = ((w.drew.alloc (.cells ROW 21)).setCells w.heap.size i vs).frozen? x := fun x => rfl
  have hw1 : IntKind.i64.wrap ((i : Int) + (m : Int)) = (i : Int) + (m : Int) := by rw [IntKind.wrap_i64]; omega
  have hb1 : (0 : Int) ≤ (i : Int) + (m : Int) := by omega
  have hin : i ≤ n := by omega
  have htn : ((i : Int) + (m : Int)).toNat = i + m := by omega
  have hb3 : (i : Int) ≤ (n : Int) := by omega
  have HRR := Lib.hid (And.intro hRl hRi)
  clear hkk hik hold hROW hG hRl hRi
  go_enter Tryd.func45, Tryd.ntmps45
  go_wp2_with (first
    | (at_builtin; refine Lib.wpList_append_run _ rfl _ _ _ _ rfl _ _ rfl rfl _ _ (hrz _) ?_)
    | (at_builtin; refine wpList_copy_runI _ rfl _ _ 61 61 rfl _ _ rfl rfl (hcpA _ hE1 hE2 _ _) ?_)
    | (at_builtin; refine wpList_copy_runI _ rfl _ _ 61 61 rfl _ _ rfl rfl (hcpB _ (fun _ => rfl) (fun _ => rfl) _ _ _) ?_))
  go_region_law (refine step_copy_runI rfl _ _ 61 61 rfl (.slice (some ⟨w.heap.size, i + m, none⟩) (n + m - (i + m)) (G - (i + m))) (.slice (some ⟨g, i, none⟩) (n - i) (cap - i)) (by simp [Act.eval, Act.put]) (by simp [Act.eval, Act.put]) (hcpB _ hF1 hF2 3 (G - (i + m)) (cap - i)) ?_)
  go_wp2
  go_ret
  exact ⟨G, ROW, hGn, hG63, HRR.out.1, HRR.out.2, rfl, rfl⟩
theorem insert_at {xs ys : List Int} {i : Nat} (hi : i ≤ xs.length) {t : Nat} {x : Int} (hx : (xs.take i ++ (ys ++ xs.drop i))[t]? = some x) : (t < i ∧ xs[t]? = some x) ∨ (i ≤ t ∧ t < i + ys.length ∧ ys[t - i]? = some x) ∨ (i + ys.length ≤ t ∧ t < ys.length + xs.length ∧ xs[t - ys.length]? = some x) := by
  have hl := (List.getElem?_eq_some_iff.1 hx).1
  simp only [List.length_append, List.length_take, List.length_drop] at hl
  by_cases h1 : t < i
  · rw [List.getElem?_append_left (by rw [List.length_take]; omega), List.getElem?_take, if_pos h1] at hx
    exact .inl ⟨h1, hx⟩
  · rw [List.getElem?_append_right (by rw [List.length_take]; omega), List.length_take, show min i xs.length = i by omega] at hx
    by_cases h2 : t < i + ys.length
    · rw [List.getElem?_append_left (by omega)] at hx
      exact .inr (.inl ⟨by omega, h2, hx⟩)
    · rw [List.getElem?_append_right (by omega), List.getElem?_drop, show i + (t - i - ys.length) = t - ys.length by omega] at hx
      exact .inr (.inr ⟨by omega, by omega, hx⟩)
theorem below_trans0 {base : Nat} {w w1 : World} (hb1 : Below base w w1) : ∀ w0, Below base w0 w → Below base w0 w1 := fun w0 hb0 => ⟨hb1.os.trans hb0.os, hb1.tape.trans hb0.tape, hb1.output.trans hb0.output, Nat.le_trans hb0.size hb1.size, fun k hk => (hb1.block k hk).trans (hb0.block k hk)⟩
theorem insert_calls (base base2 : Nat) (v v2 : Value) (xs ys : List Int) (i : Nat) (w : World) (h : Rr w base v xs) (h2 : Rr w base2 v2 ys) (hne : ∀ k, v.ownBlock = some k → v2.ownBlock ≠ some k) (hi : i ≤ xs.length) (hb : base ≤ w.heap.size) (hl : xs.length + ys.length ≤ 1099511627776) :
    Calls Tryd.prog 45 #[v, .int .i64 i, v2] w fun e w' => ∃ v', e = .returned v' ∧ Rr w' base v' (xs.take i ++ (ys ++ xs.drop i)) ∧ ∀ w0, Below base w0 w → Below base w0 w' := by
  obtain ⟨A2, c2, rfl, hc2, hC⟩ := Kd.R_reads h2
  by_cases hm : ys.length = 0
  · have e0 : xs.take i ++ (ys ++ xs.drop i) = xs := by rw [List.eq_nil_of_length_eq_zero hm, List.nil_append, List.take_append_drop]
    rw [e0, hm]
    rcases row_out h with ⟨rfl, rfl⟩ | ⟨g, cap, cur, rfl, hbg, hh, hle, hcm, hcs, ht⟩
    · have hi0 : i = 0 := by simpa using hi
      subst hi0
      exact (insert_none0 A2 c2 w).mono fun e w' ⟨he, hw⟩ => ⟨_, he, hw ▸ h, fun w0 hb0 => hw ▸ hb0⟩
    · exact (insert_none g xs.length cap i A2 c2 w hi hle (by simpa [maxLen] using hcm)).mono fun e w' ⟨he, hw⟩ => ⟨_, he, hw ▸ h, fun w0 hb0 => hw ▸ hb0⟩
  · by_cases hin : i = xs.length
    · subst hin
      have e0 : xs.take xs.length ++ (ys ++ xs.drop xs.length) = xs ++ ys := by rw [List.take_length, List.drop_length, List.append_nil]
      rw [e0]
      exact insert_end base v xs ys A2 c2 ys.length w h hC rfl (by omega) hb hl
    · rcases row_out h with ⟨rfl, rfl⟩ | ⟨g, cap, cur, rfl, hbg, hh, hle, hcm, hcs, ht⟩
      · exact absurd (by simpa using hi) hin
      · rcases row_out h2 with ⟨hv, hy⟩ | ⟨g2, cap2, cur2, hv, hbg2, hh2, hle2, hcm2, hcs2, ht2⟩
        · rw [hy] at hm
          exact absurd rfl hm
        · have c63 : cap ≤ 9223372036854775807 := by simpa [maxLen] using hcm
          simp only [Value.slice.injEq] at hv
          obtain ⟨rfl, _, rfl⟩ := hv
          have hgg : g2 ≠ g := fun e => hne g (by simp [Value.ownBlock]) (by rw [e]; simp [Value.ownBlock])
          have lt : g < w.heap.size := (Array.getElem?_eq_some_iff.1 hh).1
          have lt2 : g2 < w.heap.size := (Array.getElem?_eq_some_iff.1 hh2).1
          have kc : ∀ j v, (xs.map (Value.int .i32))[j]? = some v → w.cell? ⟨g, j, none⟩ = some v := fun j v hj => by
            rw [List.getElem?_map, Option.map_eq_some_iff] at hj
            obtain ⟨x, hx, rfl⟩ := hj
            rw [blk_cell hh j]
            exact cur_at ht hx
          have kv : ∀ j v, (ys.map (Value.int .i32))[j]? = some v → w.cell? ⟨g2, j, none⟩ = some v := fun j v hj => by
            rw [List.getElem?_map, Option.map_eq_some_iff] at hj
            obtain ⟨x, hx, rfl⟩ := hj
            rw [blk_cell hh2 j]
            exact cur_at ht2 hx
          have one : ∀ (l : List Int), ∀ u ∈ l.map (Value.int .i32), u.oneCell' = true := fun l u hu => by
            obtain ⟨x, _, rfl⟩ := List.mem_map.1 hu
            rfl
          have hlen : (xs.take i ++ (ys ++ xs.drop i)).length = xs.length + ys.length := by
            rw [List.length_append, List.length_append, List.length_take, List.length_drop]; omega
          by_cases hroom : xs.length + ys.length ≤ cap
          · refine (insert_shift g xs.length cap i g2 ys.length c2 c2 cur cur2 _ _ w hh hcs hh2 hcs2 hgg (by omega) (by omega) hroom c63 (by simp) (by simp) kc kv (one xs) (one ys)).mono fun e w' ⟨he, hw⟩ => ?_
            subst hw
            refine ⟨_, he, ?_, below_trans0 (below_setCells hbg _ _ _ (below_setCells hbg _ _ _ (Below.refl base w).drew))⟩
            rw [← hlen]
            refine row_in' hbg (rowIs_setCells _ _ _ _ (rowIs_setCells _ _ _ _ (row_is (W := w.drew) hh hcs))) (by rw [hlen]; exact hroom) hcm (fun t x hx => ?_)
            simp only [List.length_map, List.length_drop, ← List.map_drop, List.getElem?_map, List.getElem?_drop]
            rcases insert_at hi hx with ⟨g1, g3⟩ | ⟨g1, g3, g4⟩ | ⟨g1, g3, g4⟩
            · rw [if_neg (by omega), if_neg (by omega), cur_at ht g3]
              rfl
            · rw [if_pos ⟨g1, g3⟩, g4]
              rfl
            · rw [if_neg (by omega), if_pos ⟨g1, by omega⟩, show i + (t - (i + ys.length)) = t - ys.length by omega, g4]
              rfl
          · refine (insert_grow g xs.length cap i g2 ys.length c2 _ _ w lt lt2 (by omega) (by omega) hle (by omega) (by omega) (by simp) (by simp) kc kv (one xs) (one ys)).mono fun e w' ⟨G, ROW, k1, k2, k3, k4, he, hw⟩ => ?_
            subst hw
            have hhN : (w.alloc (.cells ROW 21)).drew.heap[w.heap.size]? = some (.cells ROW 21 (0, 0)) := blk_drew (blk_new w _)
            obtain ⟨c1, q1, q2, q3⟩ := rowIs_setCells (ys.map (Value.int .i32)) i _ _ (row_is hhN k3)
            refine ⟨_, he, ?_, below_trans0 (below_setCells hb _ _ _ (below_setCells hb _ _ _ ((Below.refl base w).alloc hb _).drew).drew)⟩
            rw [← hlen]
            refine row_in' hb (rowIs_setCells _ _ _ _ (show (((w.alloc (.cells ROW 21)).drew.setCells w.heap.size i (ys.map (Value.int .i32))).drew).rowIs w.heap.size 21 G _ from ⟨c1, blk_drew q1, q2, q3⟩)) (by rw [hlen]; exact k1) (by simpa [maxLen] using k2) (fun t x hx => ?_)
            simp only [List.length_map, List.length_drop, ← List.map_drop, List.getElem?_map, List.getElem?_drop]
            rcases insert_at hi hx with ⟨g1, g3⟩ | ⟨g1, g3, g4⟩ | ⟨g1, g3, g4⟩
            · rw [if_neg (by omega), if_neg (by omega), k4 t (.int .i32 x) g1 (by rw [List.getElem?_map, g3]; rfl)]
              rfl
            · rw [if_neg (by omega), if_pos ⟨g1, g3⟩, g4]
              rfl
            · rw [if_pos ⟨g1, by omega⟩, show i + (t - (i + ys.length)) = t - ys.length by omega, g4]
              rfl
end Go.Proofs.YtmkmpjkgpnahnaaDoor.X
