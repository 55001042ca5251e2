/-
  find.Replace, walked by hand (a range over slices.Backward): by this session. Conditions: texts of at most 1000 bytes.
-/
import Derived.Test.YtabhfloclcmjnaaDoorPure33
import Derived.Maps.OwnIn
namespace Go.Proofs.YtabhfloclcmjnaaDoorW.PrintWords
open Go Go.RowKit
set_option linter.unusedVariables false
/-- append(v, x) inside a fence: as 'R_append'. -/
theorem Kd.R_append_in {α : Type} (d : Kd α) {F : Fence} {nF : Nat} {P : Program} {ops : Array Oper} {rest : List Oper} {o : Oper} {a : Act} {Q : Exit → Act → World → Prop} {w0 W : World} (base : Nat) (hgd : o.guard = none) (s x : Operand) (t e : TypeId) (z : Value) (bytes : Nat)
    (ho : o.op = .call { callee := .builtin .append, args := #[s, x], argTypes := #[t, t] })
    (ht : P.underlying t = some (.slice e)) (hinfo : (P.info? e).map (fun i => (i.zero, i.size, i.bytes)) = some (some z, d.sz, bytes)) (hz : z.cells.size = d.sz) (hs0 : 0 < d.sz) (hb0 : 0 < bytes)
    (v : Value) (xs : List α) (p : α) (cs : List Value) (ok okp : Nat → Prop) (hs : a.eval s = v) (hx : a.eval x = .slice (some ⟨W.heap.size, 0, none⟩) 1 1) (hp : d.M W base okp p cs) (hokp : ∀ k, okp k → ok k ∧ some k ≠ v.ownBlock) (hfresh : ∀ k, W.heap.size ≤ k → ok k)
    (HO : d.R e W base ok v xs) (HB : Below base w0 W) (hbase : base ≤ W.heap.size) (hl : (xs.length + 1) * bytes ≤ 140737488355328)
    (h : ∀ v1 w1, d.R e w1 base ok v1 (xs ++ [p]) → Below base w0 w1 → W.grownBy w1 v.ownBlock → (v1.ownBlock = v.ownBlock ∨ ∃ b, v1.ownBlock = some b ∧ W.heap.size ≤ b) → wpListIn F nF P ops Q rest (a.put o.dst v1) w1) :
    wpListIn F nF P ops Q (o :: rest) a (W.alloc (.cells cs.toArray e)) := by
  obtain ⟨h0, inner, hown, hr⟩ := HO
  obtain ⟨i0, hi, hzz⟩ := Option.map_eq_some_iff.1 hinfo
  simp only [Prod.mk.injEq] at hzz
  obtain ⟨hz0, hz1, hz2⟩ := hzz
  have hys := d.K_len (d.K_of_M hp)
  have hlen : xs.length + 1 ≤ 140737488355328 := Nat.le_trans (Nat.le_mul_of_pos_right _ hb0) hl
  refine wpListIn_append_own_at _ hgd s x t ho base e i0 z d.sz bytes ht hi hz0 hz1 hz2 hz hs0 v xs.length inner hs (hown.alloc _) ⟨W.heap.size, 0, none⟩ 1 1 cs hx (by rw [hys]; simp)
    (by simpa using World.news_of_block (cs := cs.toArray) (t := e) (fr := (0, 0)) (heap_alloc_new W (.cells cs.toArray e))) (d.K_one (d.K_of_M hp)) (by simp only [maxLen]; omega) hl (by simp; omega) ?_
  intro v1 w1 hown1 hg _ hat
  have hat' : v1.ownBlock = v.ownBlock ∨ ∃ b, v1.ownBlock = some b ∧ W.heap.size ≤ b := by
    rcases hat with hat | hat
    · exact .inl hat
    · exact .inr ⟨_, hat, by simp⟩
  have hg' := World.grownBy.trans (World.grownBy_alloc W (.cells cs.toArray e) v.ownBlock) hg
  exact h v1 w1 (R_appended h0 hr hp hokp hfresh hown1 hg' hat') ((HB.alloc hbase _).grown hg (by simp; omega) (own_base hown)) hg' hat'
end Go.Proofs.YtabhfloclcmjnaaDoorW.PrintWords
namespace Go.Proofs.YtabhfloclcmjnaaDoor.X
open Go Go.RowKit Go.Shelf Go.Proofs.YtabhfloclcmjnaaDoorW.PrintWords Go.Proofs.YtabhfloclcmjnaaDoor.P Go.Proofs.YtabhfloclcmjnaaDoor.Pure
set_option linter.unusedVariables false
attribute [local go_sem] Oper.semAt_some
/-- What slices.Backward tells: places and what stands there, from the last on. -/
def bk (xs : List Int) : Nat → List (Int × Int)
  | 0 => []
  | n + 1 => ((n : Int), xs.getD n 0) :: bk xs n
def encsB (x : Int × Int) : Array Value := #[.int .i64 x.1, .int .i64 x.2]
set_option maxRecDepth 100000 in
set_option maxHeartbeats 4000000 in
theorem backward_calls (A : Option Addr) (n c : Nat) (w : World) :
    Calls Tryd.prog 48 #[.slice A n c] w fun e w' => e = .returned (.func (.func 64) #[] #[.pointer (some ⟨w.heap.size, 0, none⟩)]) ∧ w.alloc (.cells #[.slice A n c] 23) = w' := by
  go_enter Tryd.func48, Tryd.ntmps48
  go_wp2
  go_ret
  exact ⟨rfl, rfl⟩
theorem block_addr (a : Addr) (i : Nat) : (a.add i).block = a.block := by unfold Addr.add; split <;> rfl
theorem wrapI (x : Int) (h : -9223372036854775808 ≤ x) (h2 : x ≤ 9223372036854775807) : IntKind.i64.wrap x = x := IntWalk.i64_in _ (by omega)
theorem bk_succ (xs : List Int) {k : Nat} (h : 0 < k) : bk xs k = (((k - 1 : Nat) : Int), rd xs ((k - 1 : Nat) : Int)) :: bk xs (k - 1) := by
  obtain ⟨m, rfl⟩ : ∃ m, k = m + 1 := ⟨k - 1, by omega⟩
  rfl
set_option maxRecDepth 100000 in
set_option maxHeartbeats 4000000 in
theorem backIter_calls (xs : List Int) (A : Option Addr) (c n₀ b : Nat) (w : World) (hnb : n₀ ≤ b) (hl : xs.length ≤ 100000) (hr : Kd.C (Kd.int .i64) w A xs.length xs) (hA : ∀ ad, A = some ad → ad.block < n₀) (hb : w.heap[b]? = some (.cells #[.slice A xs.length c] 23 (0, 0))) :
    SeqC Fence.wide 7 Tryd.prog 64 #[.pointer (some ⟨b, 0, none⟩)] encsB n₀ b (fun ys => ys = bk xs xs.length) (fun pre => pre <+: bk xs xs.length) (xs.length + 1) w := fun l J Jx W hWb hWB hJ hJx hY h0 => by
  have HR := Aside0.mk hr
  have HA := Lib.hid hA
  have hcW := cell_at (hWb.trans hb)
  have HB := Lib.hid hb
  have HWb := Lib.hid hWb
  clear hr hA hb hWb
  obtain ⟨n, hn⟩ : ∃ n, xs.length = n := ⟨_, rfl⟩
  rw [hn] at hl hY hcW ⊢
  have HN := Lib.hid hn
  clear hn
  refine callsIn_of_wp Tryd.func64 rfl trivial ?_ rfl
  simp only [Tryd.ntmps64, List.size_toArray, List.length_cons, List.length_nil, Nat.reduceAdd, Nat.reduceSub, Array.replicate_succ, Array.replicate_zero, List.push_toArray, List.append_toArray, List.nil_append, List.cons_append]
  gi_wp2
  gi_loopw [3] (fun i wr => ∃ (pre : List (Int × Int)) (k : Nat), J pre wr ∧ k ≤ n ∧ i = .int .i64 ((k : Int) - 1) ∧ Hid (bk xs n = pre ++ bk xs k ∧ pre.length + k = n) ∧ wr.heap[b]? = some (.cells #[.slice A n c] 23 (0, 0)) ∧ Below n₀ w wr)
    (fun i _ => (intOf i + 1).toNat)
  case atStart =>
    exact ⟨[], n, h0, Nat.le_refl _, rfl, ⟨rfl, by simp⟩, by rw [HWb.out, HB.out, HN.out], hWB⟩
  case round =>
    obtain ⟨pre, k, hJs, hk, rfl, hpre, hcell, hBw⟩ := hrel
    have hc1 := cell_at hcell
    by_cases hk0 : 0 < k
    · have hki : ((k - 1 : Nat) : Int) = (k : Int) - 1 := by omega
      obtain ⟨ad, hAe, hc⟩ := Kd.at_int HR.out ((k - 1 : Nat) : Int) (by omega) (by have := HN.out; omega)
      have hadb : (ad.add ((k - 1 : Nat) : Int).toNat).block < n₀ := by rw [block_addr]; exact HA.out ad hAe
      subst hAe
      have hcr := (hBw.cell hadb).trans hc
      obtain ⟨r, hr⟩ : ∃ r, rd xs ((k - 1 : Nat) : Int) = r := ⟨_, rfl⟩
      rw [hr] at hcr
      have Hr := Lib.hid hr
      clear hr hc hadb hki
      have e1 : (((k - 1 : Nat) : Int)).toNat = k - 1 := by omega
      rw [e1] at hcr
      have hp2 := hpre.2
      have hplt : pre.length < n + 1 := by omega
      clear e1 hp2
      obtain ⟨fn, tmps, assign, body, hy, hR⟩ := hY pre ((k : Int) - 1, r) wr hJs hplt
      simp only [encsB] at hy
      have l1 : (0 : Int) ≤ (k : Int) - 1 := by omega
      have l2 : (k : Int) - 1 < (n : Int) := by omega
      gi_wp2
      refine hR.mono ?_
      rintro e W' (⟨rfl, hJ', hk', hbb⟩ | ⟨rfl, hJx'⟩)
      · have hcW' : W'.heap[b]? = some (.cells #[.slice (some ad) n c] 23 (0, 0)) := hk'.trans hcell
        have hc3 := cell_at hcW'
        gi_wp2
        go_roundw
        case rel =>
          refine ⟨pre ++ [((k : Int) - 1, r)], k - 1, hJ', by omega, by rw [show ((k - 1 : Nat) : Int) = (k : Int) - 1 by omega], ⟨?_, ?_⟩, hcW', hBw.trans hbb⟩
          · rw [hpre.out.1, bk_succ xs hk0, Hr.out, show ((k - 1 : Nat) : Int) = (k : Int) - 1 by omega, List.append_assoc]; rfl
          · have := hpre.out.2; simp; omega
        case measure => simp [intOf]; omega
      · gi_wp2
        refine bodyPost_ret (results_none rfl _ _ _) rfl ?_
        refine ⟨⟨_, rfl⟩, .inr ⟨_, ?_, hJx'⟩⟩
        rw [hpre.out.1, bk_succ xs hk0, Hr.out, show ((k - 1 : Nat) : Int) = (k : Int) - 1 by omega]
        exact ⟨bk xs (k - 1), by rw [List.append_assoc]; rfl⟩
    · have hk1 : (k : Int) - 1 < 0 := by omega
      have hk2 : ¬ (1 ≤ (k : Int)) := by omega
      have hk3 : k = 0 := by omega
      have HK := Lib.hid hk3
      clear hk3
      gi_wp2
      go_end0
      exact ⟨⟨_, rfl⟩, .inl (by rw [show bk xs n = pre by rw [hpre.out.1, HK.out]; simp [bk]]; exact hJs)⟩
theorem R_abid {α : Type} {d : Kd α} {e : Nat} {W W' : World} {base : Nat} {ok : Nat → Prop} {v : Value} {xs : List α} {row : Option Nat} {B b : Nat} (h : d.R e W base ok v xs) (hg : W.grownBy W' row) (hr : ∀ r, row = some r → Turns B b r W) (hb : ∀ k, ok k → k ≠ b) : d.R e W' base ok v xs := by
  refine Kd.R_mono (Kd.R_move (Kd.R_bound h) (fun k hk2 => ?_)) (fun _ hk => hk.1)
  obtain ⟨hok, _, hlt, q, _, cells, hc⟩ := hk2
  refine hg.block k hlt ?_
  intro e
  rcases hr k e.symm with e | ⟨_, o, ho, hn⟩
  · exact hb k hok e
  · rw [hc] at ho; cases ho; cases hn
/-- The changes, from the last on; or the error. -/
def replR (s t b : ByteArray) : List S46 × Int :=
  if lenU b < 0 then ([], 2) else match askedR s t with
    | (l, p, e) => if e = 0 then ((bk (zs (allR l p)) (allR l p).length).map (fun x => ⟨x.2, lenU t, b⟩), 0) else ([], e)
def find_Replace.f (a0 a1 a2 : ByteArray) : Option (List S46 × Int) := if a0.size ≤ 1000 ∧ a1.size ≤ 1000 ∧ a2.size ≤ 1000 then some (replR a0 a1 a2) else none
set_option maxRecDepth 100000 in
set_option maxHeartbeats 4000000 in
theorem repl_text (s t b : ByteArray) (w : World) (hs : s.size ≤ 1000) (ht : t.size ≤ 1000) (hb : b.size ≤ 1000) (hT : XAmb w) (h : lenU b < 0) :
    Calls Tryd.prog 24 #[.string s, .string t, .string b] w fun e w' => e = .returned (.tuple #[.slice none 0 0, .int .i64 2]) ∧ Below w.heap.size w w' := by
  have c := may_calls b (w.alloc (.cells #[.string b] 9)) (by omega) (XAmb_below hT ((Below.refl _ w).alloc (Nat.le_refl _) _))
  rw [decide_eq_false (by omega)] at c
  go_enter Tryd.func24, Tryd.ntmps24
  go_wp2_with (go_at_call 44; refine c.mono ?_; rintro e w1 ⟨rfl, hb1⟩)
  go_ret2
  exact ⟨rfl, below_step ((Below.refl _ w).alloc (Nat.le_refl _) _) hb1⟩
set_option maxRecDepth 100000 in
set_option maxHeartbeats 4000000 in
theorem repl_err (s t b : ByteArray) (w : World) (e : Int) (hs : s.size ≤ 1000) (ht : t.size ≤ 1000) (hb : b.size ≤ 1000) (hT : XAmb w) (h : ¬ lenU b < 0) (hA : find_All.f 1200 s t = some ([], e)) (he : e ≠ 0) :
    Calls Tryd.prog 24 #[.string s, .string t, .string b] w fun E w' => E = .returned (.tuple #[.slice none 0 0, .int .i64 e]) ∧ Below w.heap.size w w' := by
  have hB0 : Below w.heap.size w (w.alloc (.cells #[.string b] 9)) := (Below.refl _ w).alloc (Nat.le_refl _) _
  have c := may_calls b (w.alloc (.cells #[.string b] 9)) (by omega) (XAmb_below hT hB0)
  rw [decide_eq_true (by omega)] at c
  have c2 := fun (W : World) (hW : Below w.heap.size w W) => find_All.calls 1200 s t [] e W ⟨XAmb_below hT hW⟩ hA
  have q1 : (e == 0) = false := beq_eq_false_iff_ne.2 he
  have q2 : (e != 0) = true := by rw [bne, q1]; rfl
  clear hA he
  go_enter Tryd.func24, Tryd.ntmps24
  go_wp2_with (first | (go_at_call 44; refine c.mono ?_; rintro e w1 ⟨rfl, hb1⟩) | (go_at_call 12; refine (c2 _ (below_step hB0 hb1)).mono ?_; rintro e w2 ⟨v2, rfl, hR2, hb2⟩))
  go_ret2
  exact ⟨rfl, below_step (below_step hB0 hb1) hb2⟩
/-- What stands between two rounds. -/
def ReplI (b : ByteArray) (m : Int) (W3 : World) (B0 : Nat) (pre : List (Int × Int)) (W : World) : Prop :=
  W.heap[B0]? = some (.cells #[.string b] 9 (0, 0)) ∧ W.heap[W3.heap.size]? = some (.cells #[.int .i64 m] 3 (0, 0)) ∧
  (∃ u, W.heap[W3.heap.size + 1]? = some (.cells #[u] 43 (0, 0)) ∧ Kd.R k46 46 W W3.heap.size (fun k => W3.heap.size + 2 < k) u (pre.map fun x => (⟨x.2, m, b⟩ : S46))) ∧ Below W3.heap.size W3 W ∧ W3.heap.size + 2 < W.heap.size
theorem replI_abid {b : ByteArray} {m : Int} {W3 A B : World} {B0 N : Nat} {pre : List (Int × Int)} {row : Option Nat} (h : ReplI b m W3 B0 pre A) (hg : A.grownBy B row) (hr : ∀ r, row = some r → Turns N (W3.heap.size + 2) r A) (h0 : B0 < W3.heap.size) (hN : W3.heap.size ≤ N) : ReplI b m W3 B0 pre B := by
  obtain ⟨h1, h2, ⟨u, h3, h4⟩, h5, h6⟩ := h
  exact ⟨abid_cells h1 hg hr (by omega), abid_cells h2 hg hr (by omega), ⟨u, abid_cells h3 hg hr (by omega), R_abid h4 hg hr (fun k hk => by omega)⟩, h5.grown hg h5.size (fun k e => (hr k e).elim (fun e => by omega) (fun e => Nat.le_trans hN e.1)), Nat.lt_of_lt_of_le h6 hg.size⟩
set_option maxRecDepth 100000 in
set_option maxHeartbeats 4000000 in
theorem repl_ok (s t b : ByteArray) (w : World) (L : List Int) (m : Int) (hs : s.size ≤ 1000) (ht : t.size ≤ 1000) (hb : b.size ≤ 1000) (hT : XAmb w) (h : ¬ lenU b < 0) (hA : find_All.f 1200 s t = some (L, 0)) (hL : L.length ≤ 1000) (hm : lenU t = m) :
    Calls Tryd.prog 24 #[.string s, .string t, .string b] w fun E w' => ∃ v, E = .returned (.tuple #[v, .int .i64 0]) ∧ Kd.R k46 46 w' w.heap.size (fun _ => True) v ((bk L L.length).map fun x => (⟨x.2, m, b⟩ : S46)) ∧ Below w.heap.size w w' := by
  have hB0 : Below w.heap.size w (w.alloc (.cells #[.string b] 9)) := (Below.refl _ w).alloc (Nat.le_refl _) _
  have c := may_calls b (w.alloc (.cells #[.string b] 9)) (by omega) (XAmb_below hT hB0)
  rw [decide_eq_true (by omega)] at c
  have c2 := fun (W : World) (hW : Below w.heap.size w W) => find_All.calls 1200 s t L 0 W ⟨XAmb_below hT hW⟩ hA
  have c3 := fun (W : World) (hW : Below w.heap.size w W) => callsIn_wide.1 (len_in t W (by omega) (XAmb_below hT hW))
  rw [hm] at c3
  obtain ⟨n, hn⟩ : ∃ n, L.length = n := ⟨_, rfl⟩
  have HN := Lib.hid hn
  have HM := Lib.hid hm
  have HA := Lib.hid hA
  rw [hn] at hL ⊢
  clear hn hm hA
  refine (callsIn_wide (n := 8)).1 ?_
  refine callsIn_of_wp_marks Tryd.func24 rfl trivial ?_ rfl
  simp only [Tryd.ntmps24, List.size_toArray, List.length_cons, List.length_nil, Nat.reduceAdd, Nat.reduceSub, Array.replicate_succ, Array.replicate_zero, List.push_toArray, List.append_toArray, List.nil_append, List.cons_append]
  gi_wp2_with (first | (refine ⟨trivial, ?_⟩; gi_at_call 44; refine (callsIn_wide.2 c).mono ?_; rintro e w1 ⟨rfl, hb1⟩) | (refine ⟨trivial, ?_⟩; gi_at_call 12; refine (callsIn_wide.2 (c2 _ (below_step hB0 hb1))).mono ?_; rintro e w2 ⟨v2, rfl, hR2, hb2⟩; obtain ⟨A2, k2, rfl, hlc2, hC2⟩ := Kd.R_reads hR2; rw [HN.out] at hlc2 hC2 ⊢) | (refine ⟨trivial, ?_⟩; gi_at_call 43; refine (callsIn_wide.2 (c3 _ (below_step (below_step hB0 hb1) hb2))).mono ?_; rintro e w3 ⟨rfl, hb3⟩) | (refine ⟨trivial, ?_⟩; gi_at_call 48; refine (callsIn_wide.2 (backward_calls _ _ _ _)).mono ?_; rintro e w' ⟨rfl, rfl⟩))
  have hB3 : Below w.heap.size w w3 := below_step (below_step (below_step hB0 hb1) hb2) hb3
  have hz0 : w.heap.size < w1.heap.size := by have := hb1.size; simp at this; omega
  have hz1 := hb2.size
  have hz2 := hb3.size
  have hz3 : w.heap.size < w3.heap.size := by omega
  have e0 : w3.heap[w.heap.size]? = some (.cells #[.string b] 9 (0, 0)) :=
    (hb3.block _ (by omega)).trans ((hb2.block _ hz0).trans ((hb1.block _ (by simp)).trans (Boxed.new w 9 (.string b))))
  have hC3 := Kd.C_below hC2 hb3
  have hA3 : ∀ ad, A2 = some ad → ad.block < w3.heap.size := by
    rintro ad rfl
    have := ((Kd.R_bound hR2).1 ad.block (by simp [Value.ownBlock])).2.2.1
    exact Nat.lt_of_lt_of_le this hz2
  obtain ⟨W0, hW0⟩ : ∃ W0, ((w3.alloc (.cells #[.int .i64 m] 3)).alloc (.cells #[.slice none 0 0] 43)).alloc (.cells #[.slice A2 n k2] 23) = W0 := ⟨_, rfl⟩
  have hz : W0.heap.size = w3.heap.size + 3 := by rw [← hW0]; simp
  have hB30 : Below w3.heap.size w3 W0 := by
    rw [← hW0]; exact ((((Below.refl _ w3).alloc (Nat.le_refl _) _).alloc (by simp) _).alloc (by simp; omega) _)
  have b0 := (hB30.block w.heap.size (by omega)).trans e0
  have b1 : W0.heap[w3.heap.size]? = some (.cells #[.int .i64 m] 3 (0, 0)) := by
    rw [← hW0]; exact ((Boxed.new w3 3 (.int .i64 m)).alloc _).alloc _
  have b2 : W0.heap[w3.heap.size + 1]? = some (.cells #[.slice none 0 0] 43 (0, 0)) := by
    rw [← hW0]; have h := (Boxed.new (w3.alloc (.cells #[.int .i64 m] 3)) 43 (.slice none 0 0)).alloc (.cells #[.slice A2 n k2] 23); rw [World.size_alloc] at h; exact h
  have b3 : W0.heap[w3.heap.size + 2]? = some (.cells #[.slice A2 n k2] 23 (0, 0)) := by
    rw [← hW0]; have h := Boxed.new ((w3.alloc (.cells #[.int .i64 m] 3)).alloc (.cells #[.slice none 0 0] 43)) 23 (.slice A2 n k2); rw [World.size_alloc, World.size_alloc] at h; exact h
  have hC0 := Kd.C_below hC3 hB30
  rw [hW0]
  clear hW0 hC3 hC2 hR2 hb1 hb2 hb3 hz1 hz2 c c2 c3 e0 hB0
  rw [← HN.out] at hC0 b3 ⊢
  refine wpIn_range_cell rfl (by omega) (gf := 64) (lb := #[.pointer (some ⟨w3.heap.size + 2, 0, none⟩)]) rfl trivial (enters_of Tryd.func64 (by kernel_rfl) rfl) (encs := encsB) (n₀ := w3.heap.size) (b := w3.heap.size + 2) (by omega) (by omega)
    (backIter_calls L A2 k2 w3.heap.size (w3.heap.size + 2) W0 (by omega) (by have := HN.out; omega) hC0 hA3 b3) (fun _ => rfl)
    (fun pre W => ReplI b m w3 w.heap.size pre W) (fun c pre W => False)
    (fun p A B row hs hg hr => replI_abid hs hg hr (by omega) (by omega)) (fun c p A B row hs hg hr => hs)
    ⟨b0, b1, ⟨_, b2, Kd.R_nil _ _ _ _ _⟩, hB30, by omega⟩ ?a1 ?assign ?body ?done ?stop
  case assign =>
    rintro l x W K hK
    simp only [encsB]
    gi_wp2
    exact hK
  case body =>
    rintro l pre x W ⟨h0, h1, ⟨u, h2, hu⟩, hB, hlt3⟩ hN
    have c0 := cell_at h0
    have c1 := cell_at h1
    have c2 := cell_at h2
    have f2 := frozen_at h2
    have hsz := hB.size
    have hlen : (pre.map fun x => (⟨x.2, m, b⟩ : S46)).length ≤ 1001 := by rw [List.length_map]; have := HN.out; omega
    gi_wp2_with (gi_at_builtin; refine Kd.R_append_in k46 (w0 := w3) w3.heap.size rfl (.tmp 32) (.tmp 37) 43 46 _ 32 rfl Tryd.underlying43 info46 rfl (by decide) (by omega) u (pre.map fun x => (⟨x.2, m, b⟩ : S46)) (⟨x.2, m, b⟩ : S46) [.int .i64 x.2, .int .i64 m, .string b] (fun k => w3.heap.size + 2 < k) (fun _ => False) rfl rfl (k46_mkM _ _ _ ⟨x.2, m, b⟩) (fun _ h => h.elim) (fun k hk => by omega) hu hB hsz (by omega) ?_; intro v6 w6 ho6 hb6 hg6 _; have h26 := (hg6.block (w3.heap.size + 1) (by omega) (fun he => by have := hu.1 _ he.symm; omega)).trans h2; have c6 := cell_at h26; have f6 := frozen_at h26; obtain ⟨A6, k6, rfl⟩ := Kd.R_slice ho6)
    have hnu : ∀ k, k ≤ w3.heap.size + 2 → some k ≠ u.ownBlock := fun k hk he => by have := hu.1 _ he.symm; omega
    have hnb : ∀ (y : Value) k, k ≤ w3.heap.size + 2 → k ≠ w3.heap.size + 1 → (w6.setCell ⟨w3.heap.size + 1, 0, none⟩ y).heap[k]? = W.heap[k]? := fun y k hk hne =>
      (Below.heap_setCell w6 _ _ k (by simpa using hne)).trans (hg6.block k (by omega) (hnu k hk))
    have hBW : Below w3.heap.size W w6 := (Below.refl _ W).grown hg6 hsz (fun k e => by have := hu.1 k e; omega)
    have ho7 : Kd.R k46 46 w6 w3.heap.size (fun k => w3.heap.size + 2 < k) (.slice A6 (pre.length + 1) k6) ((pre ++ [x]).map fun x => (⟨x.2, m, b⟩ : S46)) := by simpa using ho6
    refine ⟨(KeepsOthers.of_grownBy hg6 (fun j o he ho => ?_)).trans (KeepsOthers.setCell _ _ _), ⟨hnb _ _ (Nat.le_refl _) (by omega), hBW.setCell (p := ⟨w3.heap.size + 1, 0, none⟩) (by simp) _⟩, ?_⟩
    · obtain ⟨_, _, _, q, _, cells, hc⟩ := (Kd.R_bound hu).1 j he
      rw [hc] at ho; cases ho; rfl
    · refine ⟨(hnb _ _ (by omega) (by omega)).trans h0, (hnb _ _ (by omega) (by omega)).trans h1, ⟨_, Boxed.set (B := w3.heap.size + 1) _ h26, ?_⟩, hb6.setCell (p := ⟨w3.heap.size + 1, 0, none⟩) (by simp) _, ?_⟩
      · exact Kd.R_far (p := ⟨w3.heap.size + 1, 0, none⟩) ho7 (fun k hk => by show k ≠ w3.heap.size + 1; omega) _
      · have := hg6.size
        simp only [World.size_setCell]
        omega
  case done =>
    rintro D ys W hD rfl ⟨h0, h1, ⟨u, h2, hu⟩, hB, hlt3⟩ hK
    have c2 := cell_at h2
    gi_wp2
    refine ⟨by simp, .inl ⟨_, _, rfl, run_takeDeferred hK, ?_⟩⟩
    have hKB := belowK_b (w := w) (Nat.le_refl _) W D _ (.deferred none) (by omega) hK rfl rfl
    refine ⟨.tuple #[u, .int .i64 0], ?_, ⟨_, rfl, ?_, (hB3.trans (hB.mono (by omega))).trans hKB⟩⟩
    · simp [results, Tryd.f24, go_sem]
    · rw [← HN.out]
      exact Kd.R_mono (Kd.R_lower (R_abid (B := D) (b := w3.heap.size + 2) hu (grownBy_putObj' W D _) (fun r e => by cases e; exact .inr ⟨Nat.le_refl _, _, hK, rfl⟩) (fun k hk => by omega)) hB3.size) (fun _ _ => trivial)
  case stop =>
    rintro D c pre W hD hpre h hK
    exact h.elim
theorem zs_len_le (l p : List Int) : (zs (allR l p)).length ≤ l.length := by
  rw [zs_length]
  exact scan_length _ _ _ _ _
theorem find_Replace.calls (a0 a1 a2 : ByteArray) (r1 : List S46) (r2 : Int) (w : World) (hT : Aside0 (XAmb w)) (h : find_Replace.f a0 a1 a2 = some (r1, r2)) :
    Calls Tryd.prog 24 #[.string a0, .string a1, .string a2] w fun e w' => ∃ v0_ : Value, e = .returned (.tuple #[v0_, .int .i64 r2]) ∧ Kd.R k46 46 w' w.heap.size (fun _ => True) v0_ r1 ∧ Below w.heap.size w w' := by
  unfold find_Replace.f at h
  split at h
  · rename_i hs
    obtain ⟨h0, h1, h2⟩ := hs
    have h := Option.some.inj h
    unfold replR at h
    have hA := findAll_f a0 a1 h0 h1 1200 (by omega)
    by_cases hb : lenU a2 < 0
    · rw [if_pos hb] at h
      simp only [Prod.mk.injEq] at h
      obtain ⟨rfl, rfl⟩ := h
      exact (repl_text a0 a1 a2 w h0 h1 h2 hT.out hb).mono fun e w' ⟨he, hB⟩ => ⟨_, he, Kd.R_nil _ _ _ _ _, hB⟩
    · rw [if_neg hb] at h
      obtain ⟨⟨l, p, e⟩, hq⟩ : ∃ q, askedR a0 a1 = q := ⟨_, rfl⟩
      rw [hq] at h hA
      simp only at h hA
      by_cases he : e = 0
      · rw [if_pos he] at h hA
        simp only [Prod.mk.injEq] at h
        obtain ⟨rfl, rfl⟩ := h
        have hl : l.length ≤ 1000 := by
          unfold askedR at hq
          cases ht : textOf a0 with
          | none => rw [ht] at hq; simp at hq; omega
          | some l' =>
            have := text_le ht
            rw [ht] at hq
            cases ht2 : textOf a1 with
            | none => rw [ht2] at hq; simp at hq; omega
            | some p' =>
              rw [ht2] at hq
              simp only at hq
              split at hq
              · simp at hq; omega
              · simp only [Prod.mk.injEq] at hq
                obtain ⟨rfl, _, _⟩ := hq
                omega
        have hz := repl_ok a0 a1 a2 w (zs (allR l p)) _ h0 h1 h2 hT.out hb hA (by have := zs_len_le l p; omega) rfl
        rw [zs_length] at hz
        exact hz
      · rw [if_neg he] at h hA
        simp only [Prod.mk.injEq] at h
        obtain ⟨rfl, rfl⟩ := h
        exact (repl_err a0 a1 a2 w e h0 h1 h2 hT.out hb hA he).mono fun e w' ⟨he, hB⟩ => ⟨_, he, Kd.R_nil _ _ _ _ _, hB⟩
  · cases h
end Go.Proofs.YtabhfloclcmjnaaDoor.X
