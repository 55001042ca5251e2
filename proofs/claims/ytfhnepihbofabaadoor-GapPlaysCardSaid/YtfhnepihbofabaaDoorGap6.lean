/-
  package gap: widen makes room for the gap: by this session. Conditions: as typed.
-/
import Derived.Test.YtfhnepihbofabaaDoorGap5
namespace Go.Proofs.YtfhnepihbofabaaDoor.X
open Go Go.RowKit Go.Lib Go.Shelf Go.Proofs.YtfhnepihbofabaaDoorW.PrintWords
set_option linter.unusedVariables false
theorem info_int32 : (Tryd.prog.info? 21).map (fun i => (i.zero, i.size, i.bytes)) = some (some (.int .i32 0), 1, 4) := by kernel_rfl
/-- Runes laid in memory, from an address on; of none the address is free. -/
def Lies (W : World) (a : Option Addr) (vs : List Int) : Prop := vs = [] ∨ ∃ r o, a = some ⟨r, o, none⟩ ∧ ∀ j x, vs[j]? = some x → W.cell? ⟨r, o + j, none⟩ = some (.int .i32 x)
theorem copy_gen {W : World} {H cap o dl dc sl sc : Nat} {f : Nat → Value} (hr : W.rowIs H 21 cap f) (vs : List Int) (d a : Option Addr) (hd : vs = [] ∨ d = some ⟨H, o, none⟩) (ho : o + vs.length ≤ cap) (hn : vs.length = Nat.min sl dl) (hsrc : Lies W a vs) (ty : TypeId) :
    (Builtin.copy_ #[33, 33] ty #[.slice d dl dc, .slice a sl sc]).run Tryd.prog W = .ok (goInt vs.length) (W.setCells H o (vs.map (Value.int .i32))) := by
  rcases hsrc with h0 | ⟨r, o2, ha, hx⟩
  · subst h0
    exact run_copy_none W _ _ ty 21 d a dl dc sl sc Tryd.underlying33 (by kernel_rfl) hn.symm
  · rcases hd with h0 | hd
    · subst h0
      exact run_copy_none W _ _ ty 21 d a dl dc sl sc Tryd.underlying33 (by kernel_rfl) hn.symm
    · subst hd ha
      obtain ⟨c, hh, hs, _⟩ := hr
      exact copy_at hh hs vs hn ho hx ty
theorem widen_done {W W5 : World} {X : Nat → Prop} {g H o f t N' : Nat} {A mid B ah be : List Int} {vr va vb v2 : Value} (hz : ZipV W X g A mid B ah be vr va vb) (hH : W.heap.size = H) (hf : A.length = f) (ht : B.length = t) (k9 : o + t = N') (k10 : f ≤ o) (hN' : N' ≤ maxLen) (hK : Kp X W W5) (hO : ∀ k, k < H → W5.heap[k]? = W.heap[k]?)
    (hR : W5.rowIs H 21 N' fun j => if o ≤ j ∧ j < o + (B.map (Value.int .i32)).length then (B.map (Value.int .i32))[j - o]?.getD default else if 0 ≤ j ∧ j < 0 + (A.map (Value.int .i32)).length then (A.map (Value.int .i32))[j - 0]?.getD default else .int .i32 0)
    (hB : W5.heap[g]? = some (.cells #[vr, .int .i64 (f : Nat), v2, va, vb] 68 (0, 0))) :
    Zip ((W5.setCell ⟨g, 0, none⟩ (.slice (some ⟨H, 0, none⟩) N' N')).setCell ⟨g, 2, none⟩ (.int .i64 (o : Nat))) X g A (o - f) B ah be ∧ Kp X W ((W5.setCell ⟨g, 0, none⟩ (.slice (some ⟨H, 0, none⟩) N' N')).setCell ⟨g, 2, none⟩ (.int .i64 (o : Nat))) := by
  obtain ⟨W6, hW6⟩ : ∃ x, (W5.setCell ⟨g, 0, none⟩ (.slice (some ⟨H, 0, none⟩) N' N')).setCell ⟨g, 2, none⟩ (.int .i64 (o : Nat)) = x := ⟨_, rfl⟩
  have hB6 : W6.heap[g]? = some (.cells #[.slice (some ⟨H, 0, none⟩) N' N', .int .i64 (f : Nat), .int .i64 (o : Nat), va, vb] 68 (0, 0)) := hW6 ▸ blk_put (blk_put hB 0 _ rfl) 2 _ rfl
  have hK6 : Kp X W W6 := hW6 ▸ (hK.set hz.nx _).set hz.nx _
  have hO6 : ∀ k, k ≠ g → W6.heap[k]? = W5.heap[k]? := fun k hk => hW6 ▸ (Below.heap_setCell _ _ _ _ hk).trans (Below.heap_setCell _ _ _ _ hk)
  rw [hW6]
  have hlen : (A ++ List.replicate (o - f) 0 ++ B).length = N' := by rw [List.length_append, List.length_append, List.length_replicate]; omega
  have hHg : H ≠ g := by have := hz.glt; omega
  have hR6 := hR.of_block (hO6 H hHg)
  have hrow : Ru W6 (.slice (some ⟨H, 0, none⟩) (A ++ List.replicate (o - f) 0 ++ B).length N') (A ++ List.replicate (o - f) 0 ++ B) := by
    refine rowk_in hR6 (by rw [hlen]; exact Nat.le_refl _) hN' (fun j x hx => ?_)
    by_cases h1 : j < f
    · rw [List.append_assoc, List.getElem?_append_left (by omega)] at hx
      rw [if_neg (by omega), if_pos ⟨Nat.zero_le _, by rw [List.length_map]; omega⟩, Nat.sub_zero, List.getElem?_map, hx]
      rfl
    · by_cases h2 : j < o
      · rw [List.getElem?_append_left (by rw [List.length_append, List.length_replicate]; omega), List.getElem?_append_right (by omega), List.getElem?_replicate, if_pos (by omega)] at hx
        rw [if_neg (by omega), if_neg (by rw [List.length_map]; omega)]
        cases hx
        rfl
      · rw [List.getElem?_append_right (by rw [List.length_append, List.length_replicate]; omega), List.length_append, List.length_replicate, show j - (A.length + (o - f)) = j - o by omega] at hx
        have hjl := (List.getElem?_eq_some_iff.1 hx).1
        rw [if_pos ⟨by omega, by rw [List.length_map]; omega⟩, List.getElem?_map, hx]
        rfl
  have ha : ∀ b, va.ownBlock = some b → W6.heap[b]? = W.heap[b]? := fun b hb => (hO6 b (hz.ga hb)).trans (hO b (hH ▸ hz.la hb))
  have hb : ∀ b, vb.ownBlock = some b → W6.heap[b]? = W.heap[b]? := fun b hb => (hO6 b (hz.gb hb)).trans (hO b (hH ▸ hz.lb hb))
  refine ⟨⟨List.replicate (o - f) 0, .slice (some ⟨H, 0, none⟩) N' N', va, vb, List.length_replicate, fun k hX => Nat.lt_of_lt_of_le (hz.lt k hX) hK6.size, hz.nx, ?_, hlen ▸ hrow, rk_kept hz.ra ha, rk_kept hz.rb hb, hz.ab, fun b hb hX => ?_, hz.xa, hz.xb⟩, hK6⟩
  · rw [hB6, List.length_replicate, hf, Nat.add_sub_cancel' k10]
  · cases hb
    have h9 : H < W.heap.size := hz.lt H hX
    omega
set_option maxRecDepth 100000 in
set_option maxHeartbeats 8000000 in
theorem widen_z {W : World} {X : Nat → Prop} {g m : Nat} {A B ah be : List Int} (n : Nat) (h : Zip W X g A m B ah be) (hb : A.length + m + B.length ≤ 60000) (hn : A.length + B.length + n ≤ 20000) :
    Calls Tryd.prog 36 #[.pointer (some ⟨g, 0, none⟩), .int .i64 n] W fun e w' => e = .returned (.tuple #[]) ∧ (∃ m', n ≤ m' ∧ A.length + m' + B.length ≤ 60000 ∧ Zip w' X g A m' B ah be) ∧ Kp X W w' := by
  have HZ := Lib.hid h
  have HB := Lib.hid hb
  have hu := Tryd.underlying68
  have hu3 := Tryd.underlying33
  obtain ⟨mid, vr, va, vb, hm, hz⟩ := h
  obtain ⟨N, hN⟩ : ∃ N, (A ++ mid ++ B).length = N := ⟨_, rfl⟩
  obtain ⟨f, hf⟩ : ∃ f, A.length = f := ⟨_, rfl⟩
  obtain ⟨l, hl⟩ : ∃ l, f + m = l := ⟨_, rfl⟩
  obtain ⟨t, ht⟩ : ∃ t, B.length = t := ⟨_, rfl⟩
  have hlm : A.length + mid.length = l := by rw [hf, hm, hl]
  have hblk := hz.blk
  rw [hlm, hf] at hblk
  have c0 : W.cell? ⟨g, 0, none⟩ = some vr := (blk_cell hblk 0).trans rfl
  have c1 : W.cell? ⟨g, 1, none⟩ = some (.int .i64 (f : Nat)) := (blk_cell hblk 1).trans rfl
  have c2 : W.cell? ⟨g, 2, none⟩ = some (.int .i64 (l : Nat)) := (blk_cell hblk 2).trans rfl
  have hNt : l + t = N := by rw [← hN, List.length_append, List.length_append, ht, hm, hf, hl]
  rw [hf, ht] at hn hb
  have b1 : (l : Int) - (f : Int) = (m : Int) := by omega
  by_cases hmn : n ≤ m
  · have hd : (n : Int) ≤ (m : Int) := by omega
    have e1 : wrap64 ((l : Int) - (f : Int)) = (m : Int) := w_nat b1 (by omega)
    have e1' : IntKind.i64.wrap ((l : Int) - (f : Int)) = (m : Int) := i_nat b1 (by omega)
    clear b1 hb hn hf ht hNt hblk hz hm hl hlm hN
    go_enter Tryd.func36, Tryd.ntmps36
    go_upto_region 0 with fail
    go_quiet (fail)
    go_wp2
    refine bodyPost_ret (results_none rfl _ _ _) rfl ?_
    exact ⟨rfl, ⟨m, hmn, HB.out, HZ.out.drewN _⟩, (Kp.refl W).drewN _⟩
  · have hd : ¬ (n : Int) ≤ (m : Int) := by omega
    obtain ⟨N2, hN2⟩ : ∃ N2, N / 2 = N2 := ⟨_, rfl⟩
    obtain ⟨P, hP⟩ : ∃ P, n + N2 = P := ⟨_, rfl⟩
    obtain ⟨M, hM⟩ : ∃ M, P + 16 = M := ⟨_, rfl⟩
    obtain ⟨N', hN'⟩ : ∃ N', N + M = N' := ⟨_, rfl⟩
    obtain ⟨o, ho⟩ : ∃ o, N' - t = o := ⟨_, rfl⟩
    obtain ⟨H, hH⟩ : ∃ H, W.heap.size = H := ⟨_, rfl⟩
    have d0 : Int.tdiv (N : Int) 2 = (N2 : Int) := by rw [Int.tdiv_eq_ediv_of_nonneg (by omega)]; omega
    have k1 : (n : Int) + (N2 : Int) = (P : Int) := by omega
    have k2 : (P : Int) + 16 = (M : Int) := by omega
    have k3 : (N : Int) + (M : Int) = (N' : Int) := by omega
    have k5 : (N : Int) - (l : Int) = (t : Int) := by omega
    have k6 : (N' : Int) - (t : Int) = (o : Int) := by omega
    have k4 : N' ≤ 60000 := by omega
    have k7 : n ≤ o - f := by omega
    have k8 : f + (o - f) + t ≤ 60000 := by omega
    have k9 : o + t = N' := by omega
    have k10 : f ≤ o := by omega
    have k12 : N2 ≤ 60000 := by omega
    have k13 : P ≤ 60000 := by omega
    have k14 : M ≤ 60000 := by omega
    have k15 : t ≤ 60000 := by omega
    have k16 : o ≤ 60000 := by omega
    have k17 : f ≤ N := by omega
    have k18 : l ≤ N := by omega
    have k19 : N ≤ N' := by omega
    have hfz := hz.glt
    rw [hH] at hfz
    have HM := Lib.hid (And.intro hf ht)
    have HK := Lib.hid (And.intro (And.intro k7 k8) (And.intro k9 k10))
    have HBK := Lib.hid hblk
    have HH := Lib.hid hH
    have hrow := rk_out hz.room
    rw [hN] at hrow
    have hKz := hz
    have HV := Lib.hid hKz
    have HL := Lib.hid (And.intro hl hm)
    clear hn hb hm hmn b1 hlm hblk hKz
    have hlA : A.length = f := hf
    have hgl := hfz
    rcases hrow with ⟨hv, h2⟩ | ⟨r, cap, cur, hv, _, hh, hle, hmx, hs2, hct⟩
    · subst hv
      have h3 : N = 0 := by rw [← hN, h2]; rfl
      subst h3
      obtain rfl : l = 0 := by omega
      obtain rfl : f = 0 := by omega
      obtain rfl : t = 0 := by omega
      obtain rfl : m = 0 := by have := HL.out.1; omega
      obtain rfl : N2 = 0 := by omega
      obtain rfl : n = P := by omega
      obtain rfl : N' = M := by omega
      obtain rfl : N' = o := by omega
      have x0 : n ≤ 1000000000 := by omega
      have hd2 : ¬ (n : Int) ≤ 0 := by omega
      have hd3 : ¬ n ≤ 0 := by omega
      have hd4 : ¬ n = 0 := by omega
      have hA0 : A = [] := List.eq_nil_of_length_eq_zero hf
      have hB0 : B = [] := List.eq_nil_of_length_eq_zero ht
      have hsrcA : ∀ W' : World, (∀ k, k < H → W'.heap[k]? = W.heap[k]?) → Lies W' none A := fun W' _ => .inl hA0
      have hsrcB : ∀ W' : World, (∀ k, k < H → W'.heap[k]? = W.heap[k]?) → Lies W' none B := fun W' _ => .inl hB0
      have hcpA : ∀ W' : World, (∀ k, k < H → W'.heap[k]? = W.heap[k]?) → ∀ F, W'.rowIs H 21 N' F → ∀ ty, (Builtin.copy_ #[33, 33] ty #[.slice (some ⟨H, 0, none⟩) N' N', .slice none 0 0]).run Tryd.prog W' = .ok (goInt A.length) (W'.setCells H 0 (A.map (Value.int .i32))) := fun W' hO F hF ty =>
        copy_gen hF A _ _ (.inr rfl) (by omega) (by simp only [Nat.min_def]; split <;> omega) (hsrcA W' hO) ty
      have hcpB : ∀ W' : World, (∀ k, k < H → W'.heap[k]? = W.heap[k]?) → ∀ F, W'.rowIs H 21 N' F → ∀ ty, (Builtin.copy_ #[33, 33] ty #[.slice (some ⟨H, 0, none⟩) 0 0, .slice none 0 0]).run Tryd.prog W' = .ok (goInt B.length) (W'.setCells H N' (B.map (Value.int .i32))) := fun W' hO F hF ty =>
        copy_gen hF B _ _ (.inl hB0) (by omega) (by simp only [Nat.min_def]; split <;> omega) (hsrcB W' hO) ty
      rw [HM.out.1] at hcpA
      rw [HM.out.2] at hcpB
      have hi0 : (0 : Int) ≤ (N' : Int) := by omega
      have hi1 : N' ≤ N' := by omega
      have hi2 : (N' : Int) ≤ (N' : Int) := by omega
      have q0 : (0 : Nat) ≤ 1000000000 := by omega
      have q1 : n ≤ 1000000000 := by omega
      have q2 : N' ≤ 1000000000 := by omega
      have q3 : N' ≤ 1000000000 := by omega
      have q5 : (0 : Nat) ≤ 1000000000 := by omega
      have q6 : N' ≤ 1000000000 := by omega
      have q8 : ((0 : Nat) : Int) - ((0 : Nat) : Int) = ((0 : Nat) : Int) := by have := HL.out.1; omega
      have q9 : (0 : Nat) ≤ 1000000000 := by have := HL.out.1; omega
      obtain ⟨i0, hi, hzz⟩ := Option.map_eq_some_iff.1 info_int32
      simp only [Prod.mk.injEq] at hzz
      obtain ⟨hz0, hs0, hby⟩ := hzz
      have hby2 : i0.bytes * N' ≤ 281474976710656 := by rw [hby]; omega
      have h63 : N' ≤ 9223372036854775807 := by omega
      have x1 : wrap64 (n : Int) = (n : Int) := w_nat rfl x0
      have g0 : wrap64 ((0 : Nat) : Int) = ((0 : Nat) : Int) := w_nat rfl q0
      have g1 : wrap64 ((n : Int) + ((0 : Nat) : Int)) = (n : Int) := w_nat k1 q1
      have g2 : wrap64 ((n : Int) + 16) = (N' : Int) := w_nat k2 q2
      have g3 : wrap64 (((0 : Nat) : Int) + (N' : Int)) = (N' : Int) := w_nat k3 q3
      have g5 : wrap64 (((0 : Nat) : Int) - ((0 : Nat) : Int)) = ((0 : Nat) : Int) := w_nat k5 q5
      have g6 : wrap64 ((N' : Int) - ((0 : Nat) : Int)) = (N' : Int) := w_nat k6 q6
      have g5' : IntKind.i64.wrap (((0 : Nat) : Int) - ((0 : Nat) : Int)) = ((0 : Nat) : Int) := i_nat k5 q5
      have g6' : IntKind.i64.wrap ((N' : Int) - ((0 : Nat) : Int)) = (N' : Int) := i_nat k6 q6
      have gz : IntKind.i64.wrap 0 = 0 := i_nat (n := 0) rfl (by decide)
      have g9 : wrap64 (N' : Int) = (N' : Int) := w_nat rfl q3
      have g9' : IntKind.i64.wrap (N' : Int) = (N' : Int) := i_nat rfl q3
      have g8 : wrap64 (((0 : Nat) : Int) - ((0 : Nat) : Int)) = ((0 : Nat) : Int) := w_nat q8 q9
      have g8' : IntKind.i64.wrap (((0 : Nat) : Int) - ((0 : Nat) : Int)) = ((0 : Nat) : Int) := i_nat q8 q9
      have HI := Lib.hid (And.intro (And.intro hi hz0) (And.intro hs0 hby2))
      clear ho hP hM hN' hN2 q0 q1 q2 q3 q5 q6 q8 q9 hi hz0 hs0 hby2 hby k1 k2 k3 k5 k6 k7 k8 k9 k10 k12 k13 k14 k15 k16 hf ht hz hlA hsrcA hsrcB x0
      go_enter Tryd.func36, Tryd.ntmps36
      go_upto_region 0 with fail
      go_quiet (fail)
      go_upto_region 3 with (at_make; refine wpList_make_row _ rfl (.tmp 33) (.tmp 33) 33 rfl 21 i0 (.int .i32 0) hu3 HI.out.1.1 HI.out.1.2 HI.out.2.1 rfl .i64 .i64 N' (by first | exact congrArg (Value.int .i64) g3 | rfl) (by first | exact congrArg (Value.int .i64) g3 | rfl) HI.out.2.2 h63 ?_)
      obtain ⟨W2, hW2⟩ : ∃ x, (W.drewN nq).alloc (.cells (madeCells #[.int .i32 0] N') 21) = x := ⟨_, rfl⟩
      have hO2 : ∀ k, k < H → W2.heap[k]? = W.heap[k]? := fun k hk => hW2 ▸ Deep.blk_alloc_lt (W.drewN nq) _ k (show k < W.heap.size from HH.out.symm ▸ hk)
      have hR2 : W2.rowIs H 21 N' (fun _ => .int .i32 0) := HH.out ▸ hW2 ▸ World.rowIs_made (W.drewN nq) (.int .i32 0) N' 21
      have hK2 : Kp X W W2 := hW2 ▸ ⟨rfl, rfl, rfl, by simp, fun k hX => Deep.blk_alloc_lt (W.drewN nq) _ k (HV.out.lt k hX)⟩
      rw [hW2]
      have hB2 := (hO2 g hgl).trans HBK.out
      have c0 : W2.cell? ⟨g, 0, none⟩ = some (.slice none 0 0) := (blk_cell hB2 0).trans rfl
      have c1 : W2.cell? ⟨g, 1, none⟩ = some (.int .i64 ((0 : Nat) : Nat)) := (blk_cell hB2 1).trans rfl
      have c2 : W2.cell? ⟨g, 2, none⟩ = some (.int .i64 ((0 : Nat) : Nat)) := (blk_cell hB2 2).trans rfl
      have H2 := Lib.hid (And.intro (And.intro hO2 hR2) (And.intro hK2 hB2))
      have hcA := hcpA W2.drew hO2 _ hR2.drew
      clear hW2 hO2 hR2 hK2 hB2 hcpA
      go_still_tail 10, (by kernel_rfl)
      change wpList _ _ _ _ _ W2.drew
      refine wpList_copy_runI W2.drew rfl (.tmp 35) (.tmp 44) 33 33 rfl (.slice (some ⟨H, 0, none⟩) N' N') (.slice none 0 0) rfl rfl (hcA _) ?_
      obtain ⟨W3, hW3⟩ : ∃ x, W2.drew.setCells H 0 (A.map (Value.int .i32)) = x := ⟨_, rfl⟩
      have hO3 : ∀ k, k < H → W3.heap[k]? = W.heap[k]? := fun k hk => (hW3 ▸ heap_setCells H _ _ _ k (Nat.ne_of_lt hk)).trans (H2.out.1.1 k hk)
      have hR3 := hW3 ▸ rowIs_setCells (A.map (Value.int .i32)) 0 W2.drew _ H2.out.1.2.drew
      have hK3 : Kp X W W3 := hW3 ▸ kp_setCells H (fun hX => absurd (HV.out.lt H hX) (by rw [HH.out]; exact Nat.lt_irrefl _)) _ _ _ H2.out.2.1.drew
      rw [hW3]
      have hB3 := (hO3 g hgl).trans HBK.out
      have c0 : W3.cell? ⟨g, 0, none⟩ = some (.slice none 0 0) := (blk_cell hB3 0).trans rfl
      have c1 : W3.cell? ⟨g, 1, none⟩ = some (.int .i64 ((0 : Nat) : Nat)) := (blk_cell hB3 1).trans rfl
      have c2 : W3.cell? ⟨g, 2, none⟩ = some (.int .i64 ((0 : Nat) : Nat)) := (blk_cell hB3 2).trans rfl
      have H3 := Lib.hid (And.intro (And.intro hO3 hR3) (And.intro hK3 hB3))
      clear hcA hW3 hO3 hR3 hK3 hB3
      go_upto_region 4 with fail
      go_quiet (fail)
      obtain ⟨W4, hW4⟩ : ∃ x, W3.drewN nq = x := ⟨_, rfl⟩
      have hO4 : ∀ k, k < H → W4.heap[k]? = W.heap[k]? := hW4 ▸ H3.out.1.1
      have hR4 := H3.out.1.2.of_block (w' := W4) (by rw [← hW4]; rfl)
      have hK4 : Kp X W W4 := hW4 ▸ H3.out.2.1.drewN nq
      rw [hW4]
      have hB4 := (hO4 g hgl).trans HBK.out
      have c0 : W4.cell? ⟨g, 0, none⟩ = some (.slice none 0 0) := (blk_cell hB4 0).trans rfl
      have c1 : W4.cell? ⟨g, 1, none⟩ = some (.int .i64 ((0 : Nat) : Nat)) := (blk_cell hB4 1).trans rfl
      have c2 : W4.cell? ⟨g, 2, none⟩ = some (.int .i64 ((0 : Nat) : Nat)) := (blk_cell hB4 2).trans rfl
      have hcB := hcpB W4.drew hO4 _ hR4.drew
      have H4 := Lib.hid (And.intro (And.intro hO4 hR4) (And.intro hK4 hB4))
      clear hcpB hW4 hO4 hR4 hK4 hB4
      go_upto_region 5 with fail
      go_still_tail 15, (by kernel_rfl)
      change wpList _ _ _ _ _ W4.drew
      refine wpList_copy_runI W4.drew rfl (.tmp 61) (.tmp 70) 33 33 rfl (.slice (some ⟨H, 0, none⟩) 0 0) (.slice none 0 0) rfl rfl (hcB _) ?_
      obtain ⟨W5, hW5⟩ : ∃ x, W4.drew.setCells H N' (B.map (Value.int .i32)) = x := ⟨_, rfl⟩
      have hO5 : ∀ k, k < H → W5.heap[k]? = W.heap[k]? := fun k hk => (hW5 ▸ heap_setCells H _ _ _ k (Nat.ne_of_lt hk)).trans (H4.out.1.1 k hk)
      have hR5 := hW5 ▸ rowIs_setCells (B.map (Value.int .i32)) N' W4.drew _ H4.out.1.2.drew
      have hK5 : Kp X W W5 := hW5 ▸ kp_setCells H (fun hX => absurd (HV.out.lt H hX) (by rw [HH.out]; exact Nat.lt_irrefl _)) _ _ _ H4.out.2.1.drew
      rw [hW5]
      have hB5 := (hO5 g hgl).trans HBK.out
      have c0 : W5.cell? ⟨g, 0, none⟩ = some (.slice none 0 0) := (blk_cell hB5 0).trans rfl
      have c2 : W5.cell? ⟨g, 2, none⟩ = some (.int .i64 ((0 : Nat) : Nat)) := (blk_cell hB5 2).trans rfl
      have f0 : W5.frozen? ⟨g, 0, none⟩ = false := blk_frozen hB5 0
      have f2 : W5.frozen? ⟨g, 2, none⟩ = false := blk_frozen hB5 2
      have H5 := Lib.hid (And.intro (And.intro hO5 hR5) (And.intro hK5 hB5))
      clear hcB hW5 hO5 hR5 hK5 hB5
      go_wp2
      go_end0
      obtain ⟨z1, z2⟩ := widen_done HV.out HH.out HM.out.1 HM.out.2 HK.out.2.1 HK.out.2.2 (by unfold maxLen; omega) H5.out.2.1 H5.out.1.1 H5.out.1.2 H5.out.2.2
      subst hA0 hB0
      exact ⟨rfl, ⟨_, HK.out.1.1, by have := HK.out.1.2; have := HM.out; omega, z1⟩, z2⟩
    · by_cases ht0 : t = 0
      · by_cases hcN : cap = N
        · subst hv
          obtain rfl : N = cap := hcN.symm
          have hlt : r < H := hH ▸ blk_lt hh
          have hsrc : ∀ W' : World, (∀ k, k < H → W'.heap[k]? = W.heap[k]?) → ∀ j x, (A ++ mid ++ B)[j]? = some x → W'.cell? ⟨r, j, none⟩ = some (.int .i32 x) := fun W' hO j x hx => (World.cell?_of_block (w := W) (hO r hlt)).trans ((blk_cell hh j).trans (ck_at (by rw [hN]; exact hct) hx))
          have hAm : (A ++ mid).length = l := by rw [List.length_append, hlA, HL.out.2, HL.out.1]
          have hcm : N ≤ 9223372036854775807 := by simpa [maxLen] using hmx
          have hsrcA : ∀ W' : World, (∀ k, k < H → W'.heap[k]? = W.heap[k]?) → Lies W' (some ⟨r, 0, none⟩) A := fun W' hO => .inr ⟨r, 0, rfl, fun j x hx => by
            rw [Nat.zero_add]
            refine hsrc W' hO j x ?_
            rw [List.append_assoc, List.getElem?_append_left (List.getElem?_eq_some_iff.1 hx).1]
            exact hx⟩
          subst ht0
          obtain rfl : N = l := by omega
          obtain rfl : N' = o := by omega
          have hB0 : B = [] := List.eq_nil_of_length_eq_zero ht
          have y1 : f ≤ N := by omega
          have y3 : (f : Int) ≤ (N : Int) := by omega
          have hsrcB : ∀ W' : World, (∀ k, k < H → W'.heap[k]? = W.heap[k]?) → Lies W' (some ⟨r, 0, none⟩) B := fun W' _ => .inl hB0

          have hcpA : ∀ W' : World, (∀ k, k < H → W'.heap[k]? = W.heap[k]?) → ∀ F, W'.rowIs H 21 N' F → ∀ ty, (Builtin.copy_ #[33, 33] ty #[.slice (some ⟨H, 0, none⟩) N' N', .slice (some ⟨r, 0, none⟩) f N]).run Tryd.prog W' = .ok (goInt A.length) (W'.setCells H 0 (A.map (Value.int .i32))) := fun W' hO F hF ty =>
            copy_gen hF A _ _ (.inr rfl) (by omega) (by simp only [Nat.min_def]; split <;> omega) (hsrcA W' hO) ty
          have hcpB : ∀ W' : World, (∀ k, k < H → W'.heap[k]? = W.heap[k]?) → ∀ F, W'.rowIs H 21 N' F → ∀ ty, (Builtin.copy_ #[33, 33] ty #[.slice (some ⟨H, 0, none⟩) 0 0, .slice (some ⟨r, 0, none⟩) 0 0]).run Tryd.prog W' = .ok (goInt B.length) (W'.setCells H N' (B.map (Value.int .i32))) := fun W' hO F hF ty =>
            copy_gen hF B _ _ (.inl hB0) (by omega) (by simp only [Nat.min_def]; split <;> omega) (hsrcB W' hO) ty
          rw [HM.out.1] at hcpA
          rw [HM.out.2] at hcpB
          have hi0 : (0 : Int) ≤ (N' : Int) := by omega
          have hi1 : N' ≤ N' := by omega
          have hi2 : (N' : Int) ≤ (N' : Int) := by omega
          have q0 : N2 ≤ 1000000000 := by omega
          have q1 : P ≤ 1000000000 := by omega
          have q2 : M ≤ 1000000000 := by omega
          have q3 : N' ≤ 1000000000 := by omega
          have q5 : (0 : Nat) ≤ 1000000000 := by omega
          have q6 : N' ≤ 1000000000 := by omega
          have q8 : (N : Int) - (f : Int) = (m : Int) := by have := HL.out.1; omega
          have q9 : m ≤ 1000000000 := by have := HL.out.1; omega
          obtain ⟨i0, hi, hzz⟩ := Option.map_eq_some_iff.1 info_int32
          simp only [Prod.mk.injEq] at hzz
          obtain ⟨hz0, hs0, hby⟩ := hzz
          have hby2 : i0.bytes * N' ≤ 281474976710656 := by rw [hby]; omega
          have h63 : N' ≤ 9223372036854775807 := by omega

          have g0 : wrap64 (N2 : Int) = (N2 : Int) := w_nat rfl q0
          have g1 : wrap64 ((n : Int) + (N2 : Int)) = (P : Int) := w_nat k1 q1
          have g2 : wrap64 ((P : Int) + 16) = (M : Int) := w_nat k2 q2
          have g3 : wrap64 ((N : Int) + (M : Int)) = (N' : Int) := w_nat k3 q3
          have g5 : wrap64 ((N : Int) - (N : Int)) = ((0 : Nat) : Int) := w_nat k5 q5
          have g6 : wrap64 ((N' : Int) - ((0 : Nat) : Int)) = (N' : Int) := w_nat k6 q6
          have g5' : IntKind.i64.wrap ((N : Int) - (N : Int)) = ((0 : Nat) : Int) := i_nat k5 q5
          have g6' : IntKind.i64.wrap ((N' : Int) - ((0 : Nat) : Int)) = (N' : Int) := i_nat k6 q6
          have gz : IntKind.i64.wrap 0 = 0 := i_nat (n := 0) rfl (by decide)
          have g9 : wrap64 (N' : Int) = (N' : Int) := w_nat rfl q3
          have g9' : IntKind.i64.wrap (N' : Int) = (N' : Int) := i_nat rfl q3
          have g8 : wrap64 ((N : Int) - (f : Int)) = (m : Int) := w_nat q8 q9
          have g8' : IntKind.i64.wrap ((N : Int) - (f : Int)) = (m : Int) := i_nat q8 q9
          have HI := Lib.hid (And.intro (And.intro hi hz0) (And.intro hs0 hby2))
          clear ho hP hM hN' hN2 q0 q1 q2 q3 q5 q6 q8 q9 hi hz0 hs0 hby2 hby k1 k2 k3 k5 k6 k7 k8 k9 k10 k12 k13 k14 k15 k16 hf ht hz hlA hsrcA hsrcB hsrc hlt hAm hh hct hle hmx hs2 HL
          go_enter Tryd.func36, Tryd.ntmps36
          go_upto_region 0 with fail
          go_quiet (fail)
          go_upto_region 3 with (at_make; refine wpList_make_row _ rfl (.tmp 33) (.tmp 33) 33 rfl 21 i0 (.int .i32 0) hu3 HI.out.1.1 HI.out.1.2 HI.out.2.1 rfl .i64 .i64 N' (by first | exact congrArg (Value.int .i64) g3 | rfl) (by first | exact congrArg (Value.int .i64) g3 | rfl) HI.out.2.2 h63 ?_)
          obtain ⟨W2, hW2⟩ : ∃ x, (W.drewN nq).alloc (.cells (madeCells #[.int .i32 0] N') 21) = x := ⟨_, rfl⟩
          have hO2 : ∀ k, k < H → W2.heap[k]? = W.heap[k]? := fun k hk => hW2 ▸ Deep.blk_alloc_lt (W.drewN nq) _ k (show k < W.heap.size from HH.out.symm ▸ hk)
          have hR2 : W2.rowIs H 21 N' (fun _ => .int .i32 0) := HH.out ▸ hW2 ▸ World.rowIs_made (W.drewN nq) (.int .i32 0) N' 21
          have hK2 : Kp X W W2 := hW2 ▸ ⟨rfl, rfl, rfl, by simp, fun k hX => Deep.blk_alloc_lt (W.drewN nq) _ k (HV.out.lt k hX)⟩
          rw [hW2]
          have hB2 := (hO2 g hgl).trans HBK.out
          have c0 : W2.cell? ⟨g, 0, none⟩ = some (.slice (some ⟨r, 0, none⟩) N N) := (blk_cell hB2 0).trans rfl
          have c1 : W2.cell? ⟨g, 1, none⟩ = some (.int .i64 (f : Nat)) := (blk_cell hB2 1).trans rfl
          have c2 : W2.cell? ⟨g, 2, none⟩ = some (.int .i64 (N : Nat)) := (blk_cell hB2 2).trans rfl
          have H2 := Lib.hid (And.intro (And.intro hO2 hR2) (And.intro hK2 hB2))
          have hcA := hcpA W2.drew hO2 _ hR2.drew
          clear hW2 hO2 hR2 hK2 hB2 hcpA
          go_still_tail 10, (by kernel_rfl)
          change wpList _ _ _ _ _ W2.drew
          refine wpList_copy_runI W2.drew rfl (.tmp 35) (.tmp 44) 33 33 rfl (.slice (some ⟨H, 0, none⟩) N' N') (.slice (some ⟨r, 0, none⟩) f N) rfl rfl (hcA _) ?_
          obtain ⟨W3, hW3⟩ : ∃ x, W2.drew.setCells H 0 (A.map (Value.int .i32)) = x := ⟨_, rfl⟩
          have hO3 : ∀ k, k < H → W3.heap[k]? = W.heap[k]? := fun k hk => (hW3 ▸ heap_setCells H _ _ _ k (Nat.ne_of_lt hk)).trans (H2.out.1.1 k hk)
          have hR3 := hW3 ▸ rowIs_setCells (A.map (Value.int .i32)) 0 W2.drew _ H2.out.1.2.drew
          have hK3 : Kp X W W3 := hW3 ▸ kp_setCells H (fun hX => absurd (HV.out.lt H hX) (by rw [HH.out]; exact Nat.lt_irrefl _)) _ _ _ H2.out.2.1.drew
          rw [hW3]
          have hB3 := (hO3 g hgl).trans HBK.out
          have c0 : W3.cell? ⟨g, 0, none⟩ = some (.slice (some ⟨r, 0, none⟩) N N) := (blk_cell hB3 0).trans rfl
          have c1 : W3.cell? ⟨g, 1, none⟩ = some (.int .i64 (f : Nat)) := (blk_cell hB3 1).trans rfl
          have c2 : W3.cell? ⟨g, 2, none⟩ = some (.int .i64 (N : Nat)) := (blk_cell hB3 2).trans rfl
          have H3 := Lib.hid (And.intro (And.intro hO3 hR3) (And.intro hK3 hB3))
          clear hcA hW3 hO3 hR3 hK3 hB3
          go_upto_region 4 with fail
          go_quiet (fail)
          obtain ⟨W4, hW4⟩ : ∃ x, W3.drewN nq = x := ⟨_, rfl⟩
          have hO4 : ∀ k, k < H → W4.heap[k]? = W.heap[k]? := hW4 ▸ H3.out.1.1
          have hR4 := H3.out.1.2.of_block (w' := W4) (by rw [← hW4]; rfl)
          have hK4 : Kp X W W4 := hW4 ▸ H3.out.2.1.drewN nq
          rw [hW4]
          have hB4 := (hO4 g hgl).trans HBK.out
          have c0 : W4.cell? ⟨g, 0, none⟩ = some (.slice (some ⟨r, 0, none⟩) N N) := (blk_cell hB4 0).trans rfl
          have c1 : W4.cell? ⟨g, 1, none⟩ = some (.int .i64 (f : Nat)) := (blk_cell hB4 1).trans rfl
          have c2 : W4.cell? ⟨g, 2, none⟩ = some (.int .i64 (N : Nat)) := (blk_cell hB4 2).trans rfl
          have hcB := hcpB W4.drew hO4 _ hR4.drew
          have H4 := Lib.hid (And.intro (And.intro hO4 hR4) (And.intro hK4 hB4))
          clear hcpB hW4 hO4 hR4 hK4 hB4
          go_upto_region 5 with fail
          go_still_tail 15, (by kernel_rfl)
          change wpList _ _ _ _ _ W4.drew
          refine wpList_copy_runI W4.drew rfl (.tmp 61) (.tmp 70) 33 33 rfl (.slice (some ⟨H, 0, none⟩) 0 0) (.slice (some ⟨r, 0, none⟩) 0 0) rfl rfl (hcB _) ?_
          obtain ⟨W5, hW5⟩ : ∃ x, W4.drew.setCells H N' (B.map (Value.int .i32)) = x := ⟨_, rfl⟩
          have hO5 : ∀ k, k < H → W5.heap[k]? = W.heap[k]? := fun k hk => (hW5 ▸ heap_setCells H _ _ _ k (Nat.ne_of_lt hk)).trans (H4.out.1.1 k hk)
          have hR5 := hW5 ▸ rowIs_setCells (B.map (Value.int .i32)) N' W4.drew _ H4.out.1.2.drew
          have hK5 : Kp X W W5 := hW5 ▸ kp_setCells H (fun hX => absurd (HV.out.lt H hX) (by rw [HH.out]; exact Nat.lt_irrefl _)) _ _ _ H4.out.2.1.drew
          rw [hW5]
          have hB5 := (hO5 g hgl).trans HBK.out
          have c0 : W5.cell? ⟨g, 0, none⟩ = some (.slice (some ⟨r, 0, none⟩) N N) := (blk_cell hB5 0).trans rfl
          have c2 : W5.cell? ⟨g, 2, none⟩ = some (.int .i64 (N : Nat)) := (blk_cell hB5 2).trans rfl
          have f0 : W5.frozen? ⟨g, 0, none⟩ = false := blk_frozen hB5 0
          have f2 : W5.frozen? ⟨g, 2, none⟩ = false := blk_frozen hB5 2
          have H5 := Lib.hid (And.intro (And.intro hO5 hR5) (And.intro hK5 hB5))
          clear hcB hW5 hO5 hR5 hK5 hB5
          go_wp2
          go_end0
          obtain ⟨z1, z2⟩ := widen_done HV.out HH.out HM.out.1 HM.out.2 HK.out.2.1 HK.out.2.2 (by unfold maxLen; omega) H5.out.2.1 H5.out.1.1 H5.out.1.2 H5.out.2.2
          subst hB0
          exact ⟨rfl, ⟨_, HK.out.1.1, by have := HK.out.1.2; have := HM.out; omega, z1⟩, z2⟩
        · subst hv
          have hlt : r < H := hH ▸ blk_lt hh
          have hsrc : ∀ W' : World, (∀ k, k < H → W'.heap[k]? = W.heap[k]?) → ∀ j x, (A ++ mid ++ B)[j]? = some x → W'.cell? ⟨r, j, none⟩ = some (.int .i32 x) := fun W' hO j x hx => (World.cell?_of_block (w := W) (hO r hlt)).trans ((blk_cell hh j).trans (ck_at (by rw [hN]; exact hct) hx))
          have hAm : (A ++ mid).length = l := by rw [List.length_append, hlA, HL.out.2, HL.out.1]
          have hcm : cap ≤ 9223372036854775807 := by simpa [maxLen] using hmx
          have hsrcA : ∀ W' : World, (∀ k, k < H → W'.heap[k]? = W.heap[k]?) → Lies W' (some ⟨r, 0, none⟩) A := fun W' hO => .inr ⟨r, 0, rfl, fun j x hx => by
            rw [Nat.zero_add]
            refine hsrc W' hO j x ?_
            rw [List.append_assoc, List.getElem?_append_left (List.getElem?_eq_some_iff.1 hx).1]
            exact hx⟩
          subst ht0
          obtain rfl : N = l := by omega
          obtain rfl : N' = o := by omega
          have hB0 : B = [] := List.eq_nil_of_length_eq_zero ht
          have y1 : f ≤ cap := by omega
          have y3 : (f : Int) ≤ (cap : Int) := by omega
          have hsrcB : ∀ W' : World, (∀ k, k < H → W'.heap[k]? = W.heap[k]?) → Lies W' (some ⟨r, N, none⟩) B := fun W' _ => .inl hB0

          have hcpA : ∀ W' : World, (∀ k, k < H → W'.heap[k]? = W.heap[k]?) → ∀ F, W'.rowIs H 21 N' F → ∀ ty, (Builtin.copy_ #[33, 33] ty #[.slice (some ⟨H, 0, none⟩) N' N', .slice (some ⟨r, 0, none⟩) f cap]).run Tryd.prog W' = .ok (goInt A.length) (W'.setCells H 0 (A.map (Value.int .i32))) := fun W' hO F hF ty =>
            copy_gen hF A _ _ (.inr rfl) (by omega) (by simp only [Nat.min_def]; split <;> omega) (hsrcA W' hO) ty
          have hcpB : ∀ W' : World, (∀ k, k < H → W'.heap[k]? = W.heap[k]?) → ∀ F, W'.rowIs H 21 N' F → ∀ ty, (Builtin.copy_ #[33, 33] ty #[.slice (some ⟨H, 0, none⟩) 0 0, .slice (some ⟨r, N, none⟩) 0 (cap - N)]).run Tryd.prog W' = .ok (goInt B.length) (W'.setCells H N' (B.map (Value.int .i32))) := fun W' hO F hF ty =>
            copy_gen hF B _ _ (.inl hB0) (by omega) (by simp only [Nat.min_def]; split <;> omega) (hsrcB W' hO) ty
          rw [HM.out.1] at hcpA
          rw [HM.out.2] at hcpB
          have hi0 : (0 : Int) ≤ (N' : Int) := by omega
          have hi1 : N' ≤ N' := by omega
          have hi2 : (N' : Int) ≤ (N' : Int) := by omega
          have q0 : N2 ≤ 1000000000 := by omega
          have q1 : P ≤ 1000000000 := by omega
          have q2 : M ≤ 1000000000 := by omega
          have q3 : N' ≤ 1000000000 := by omega
          have q5 : (0 : Nat) ≤ 1000000000 := by omega
          have q6 : N' ≤ 1000000000 := by omega
          have q8 : (N : Int) - (f : Int) = (m : Int) := by have := HL.out.1; omega
          have q9 : m ≤ 1000000000 := by have := HL.out.1; omega
          obtain ⟨i0, hi, hzz⟩ := Option.map_eq_some_iff.1 info_int32
          simp only [Prod.mk.injEq] at hzz
          obtain ⟨hz0, hs0, hby⟩ := hzz
          have hby2 : i0.bytes * N' ≤ 281474976710656 := by rw [hby]; omega
          have h63 : N' ≤ 9223372036854775807 := by omega

          have g0 : wrap64 (N2 : Int) = (N2 : Int) := w_nat rfl q0
          have g1 : wrap64 ((n : Int) + (N2 : Int)) = (P : Int) := w_nat k1 q1
          have g2 : wrap64 ((P : Int) + 16) = (M : Int) := w_nat k2 q2
          have g3 : wrap64 ((N : Int) + (M : Int)) = (N' : Int) := w_nat k3 q3
          have g5 : wrap64 ((N : Int) - (N : Int)) = ((0 : Nat) : Int) := w_nat k5 q5
          have g6 : wrap64 ((N' : Int) - ((0 : Nat) : Int)) = (N' : Int) := w_nat k6 q6
          have g5' : IntKind.i64.wrap ((N : Int) - (N : Int)) = ((0 : Nat) : Int) := i_nat k5 q5
          have g6' : IntKind.i64.wrap ((N' : Int) - ((0 : Nat) : Int)) = (N' : Int) := i_nat k6 q6
          have gz : IntKind.i64.wrap 0 = 0 := i_nat (n := 0) rfl (by decide)
          have g9 : wrap64 (N' : Int) = (N' : Int) := w_nat rfl q3
          have g9' : IntKind.i64.wrap (N' : Int) = (N' : Int) := i_nat rfl q3
          have g8 : wrap64 ((N : Int) - (f : Int)) = (m : Int) := w_nat q8 q9
          have g8' : IntKind.i64.wrap ((N : Int) - (f : Int)) = (m : Int) := i_nat q8 q9
          have HI := Lib.hid (And.intro (And.intro hi hz0) (And.intro hs0 hby2))
          clear ho hP hM hN' hN2 q0 q1 q2 q3 q5 q6 q8 q9 hi hz0 hs0 hby2 hby k1 k2 k3 k5 k6 k7 k8 k9 k10 k12 k13 k14 k15 k16 hf ht hz hlA hsrcA hsrcB hsrc hlt hAm hh hct hle hmx hs2 HL
          go_enter Tryd.func36, Tryd.ntmps36
          go_upto_region 0 with fail
          go_quiet (fail)
          go_upto_region 3 with (at_make; refine wpList_make_row _ rfl (.tmp 33) (.tmp 33) 33 rfl 21 i0 (.int .i32 0) hu3 HI.out.1.1 HI.out.1.2 HI.out.2.1 rfl .i64 .i64 N' (by first | exact congrArg (Value.int .i64) g3 | rfl) (by first | exact congrArg (Value.int .i64) g3 | rfl) HI.out.2.2 h63 ?_)
          obtain ⟨W2, hW2⟩ : ∃ x, (W.drewN nq).alloc (.cells (madeCells #[.int .i32 0] N') 21) = x := ⟨_, rfl⟩
          have hO2 : ∀ k, k < H → W2.heap[k]? = W.heap[k]? := fun k hk => hW2 ▸ Deep.blk_alloc_lt (W.drewN nq) _ k (show k < W.heap.size from HH.out.symm ▸ hk)
          have hR2 : W2.rowIs H 21 N' (fun _ => .int .i32 0) := HH.out ▸ hW2 ▸ World.rowIs_made (W.drewN nq) (.int .i32 0) N' 21
          have hK2 : Kp X W W2 := hW2 ▸ ⟨rfl, rfl, rfl, by simp, fun k hX => Deep.blk_alloc_lt (W.drewN nq) _ k (HV.out.lt k hX)⟩
          rw [hW2]
          have hB2 := (hO2 g hgl).trans HBK.out
          have c0 : W2.cell? ⟨g, 0, none⟩ = some (.slice (some ⟨r, 0, none⟩) N cap) := (blk_cell hB2 0).trans rfl
          have c1 : W2.cell? ⟨g, 1, none⟩ = some (.int .i64 (f : Nat)) := (blk_cell hB2 1).trans rfl
          have c2 : W2.cell? ⟨g, 2, none⟩ = some (.int .i64 (N : Nat)) := (blk_cell hB2 2).trans rfl
          have H2 := Lib.hid (And.intro (And.intro hO2 hR2) (And.intro hK2 hB2))
          have hcA := hcpA W2.drew hO2 _ hR2.drew
          clear hW2 hO2 hR2 hK2 hB2 hcpA
          go_still_tail 10, (by kernel_rfl)
          change wpList _ _ _ _ _ W2.drew
          refine wpList_copy_runI W2.drew rfl (.tmp 35) (.tmp 44) 33 33 rfl (.slice (some ⟨H, 0, none⟩) N' N') (.slice (some ⟨r, 0, none⟩) f cap) rfl rfl (hcA _) ?_
          obtain ⟨W3, hW3⟩ : ∃ x, W2.drew.setCells H 0 (A.map (Value.int .i32)) = x := ⟨_, rfl⟩
          have hO3 : ∀ k, k < H → W3.heap[k]? = W.heap[k]? := fun k hk => (hW3 ▸ heap_setCells H _ _ _ k (Nat.ne_of_lt hk)).trans (H2.out.1.1 k hk)
          have hR3 := hW3 ▸ rowIs_setCells (A.map (Value.int .i32)) 0 W2.drew _ H2.out.1.2.drew
          have hK3 : Kp X W W3 := hW3 ▸ kp_setCells H (fun hX => absurd (HV.out.lt H hX) (by rw [HH.out]; exact Nat.lt_irrefl _)) _ _ _ H2.out.2.1.drew
          rw [hW3]
          have hB3 := (hO3 g hgl).trans HBK.out
          have c0 : W3.cell? ⟨g, 0, none⟩ = some (.slice (some ⟨r, 0, none⟩) N cap) := (blk_cell hB3 0).trans rfl
          have c1 : W3.cell? ⟨g, 1, none⟩ = some (.int .i64 (f : Nat)) := (blk_cell hB3 1).trans rfl
          have c2 : W3.cell? ⟨g, 2, none⟩ = some (.int .i64 (N : Nat)) := (blk_cell hB3 2).trans rfl
          have H3 := Lib.hid (And.intro (And.intro hO3 hR3) (And.intro hK3 hB3))
          clear hcA hW3 hO3 hR3 hK3 hB3
          go_upto_region 4 with fail
          go_quiet (fail)
          obtain ⟨W4, hW4⟩ : ∃ x, W3.drewN nq = x := ⟨_, rfl⟩
          have hO4 : ∀ k, k < H → W4.heap[k]? = W.heap[k]? := hW4 ▸ H3.out.1.1
          have hR4 := H3.out.1.2.of_block (w' := W4) (by rw [← hW4]; rfl)
          have hK4 : Kp X W W4 := hW4 ▸ H3.out.2.1.drewN nq
          rw [hW4]
          have hB4 := (hO4 g hgl).trans HBK.out
          have c0 : W4.cell? ⟨g, 0, none⟩ = some (.slice (some ⟨r, 0, none⟩) N cap) := (blk_cell hB4 0).trans rfl
          have c1 : W4.cell? ⟨g, 1, none⟩ = some (.int .i64 (f : Nat)) := (blk_cell hB4 1).trans rfl
          have c2 : W4.cell? ⟨g, 2, none⟩ = some (.int .i64 (N : Nat)) := (blk_cell hB4 2).trans rfl
          have hcB := hcpB W4.drew hO4 _ hR4.drew
          have H4 := Lib.hid (And.intro (And.intro hO4 hR4) (And.intro hK4 hB4))
          clear hcpB hW4 hO4 hR4 hK4 hB4
          go_upto_region 5 with fail
          go_still_tail 15, (by kernel_rfl)
          change wpList _ _ _ _ _ W4.drew
          refine wpList_copy_runI W4.drew rfl (.tmp 61) (.tmp 70) 33 33 rfl (.slice (some ⟨H, 0, none⟩) 0 0) (.slice (some ⟨r, N, none⟩) 0 (cap - N)) rfl rfl (hcB _) ?_
          obtain ⟨W5, hW5⟩ : ∃ x, W4.drew.setCells H N' (B.map (Value.int .i32)) = x := ⟨_, rfl⟩
          have hO5 : ∀ k, k < H → W5.heap[k]? = W.heap[k]? := fun k hk => (hW5 ▸ heap_setCells H _ _ _ k (Nat.ne_of_lt hk)).trans (H4.out.1.1 k hk)
          have hR5 := hW5 ▸ rowIs_setCells (B.map (Value.int .i32)) N' W4.drew _ H4.out.1.2.drew
          have hK5 : Kp X W W5 := hW5 ▸ kp_setCells H (fun hX => absurd (HV.out.lt H hX) (by rw [HH.out]; exact Nat.lt_irrefl _)) _ _ _ H4.out.2.1.drew
          rw [hW5]
          have hB5 := (hO5 g hgl).trans HBK.out
          have c0 : W5.cell? ⟨g, 0, none⟩ = some (.slice (some ⟨r, 0, none⟩) N cap) := (blk_cell hB5 0).trans rfl
          have c2 : W5.cell? ⟨g, 2, none⟩ = some (.int .i64 (N : Nat)) := (blk_cell hB5 2).trans rfl
          have f0 : W5.frozen? ⟨g, 0, none⟩ = false := blk_frozen hB5 0
          have f2 : W5.frozen? ⟨g, 2, none⟩ = false := blk_frozen hB5 2
          have H5 := Lib.hid (And.intro (And.intro hO5 hR5) (And.intro hK5 hB5))
          clear hcB hW5 hO5 hR5 hK5 hB5
          go_wp2
          go_end0
          obtain ⟨z1, z2⟩ := widen_done HV.out HH.out HM.out.1 HM.out.2 HK.out.2.1 HK.out.2.2 (by unfold maxLen; omega) H5.out.2.1 H5.out.1.1 H5.out.1.2 H5.out.2.2
          subst hB0
          exact ⟨rfl, ⟨_, HK.out.1.1, by have := HK.out.1.2; have := HM.out; omega, z1⟩, z2⟩
      · subst hv
        have hlt : r < H := hH ▸ blk_lt hh
        have hsrc : ∀ W' : World, (∀ k, k < H → W'.heap[k]? = W.heap[k]?) → ∀ j x, (A ++ mid ++ B)[j]? = some x → W'.cell? ⟨r, j, none⟩ = some (.int .i32 x) := fun W' hO j x hx => (World.cell?_of_block (w := W) (hO r hlt)).trans ((blk_cell hh j).trans (ck_at (by rw [hN]; exact hct) hx))
        have hAm : (A ++ mid).length = l := by rw [List.length_append, hlA, HL.out.2, HL.out.1]
        have hcm : cap ≤ 9223372036854775807 := by simpa [maxLen] using hmx
        have hsrcA : ∀ W' : World, (∀ k, k < H → W'.heap[k]? = W.heap[k]?) → Lies W' (some ⟨r, 0, none⟩) A := fun W' hO => .inr ⟨r, 0, rfl, fun j x hx => by
          rw [Nat.zero_add]
          refine hsrc W' hO j x ?_
          rw [List.append_assoc, List.getElem?_append_left (List.getElem?_eq_some_iff.1 hx).1]
          exact hx⟩
        have hsrcB : ∀ W' : World, (∀ k, k < H → W'.heap[k]? = W.heap[k]?) → Lies W' (some ⟨r, l, none⟩) B := fun W' hO => .inr ⟨r, l, rfl, fun j x hx => by
          refine hsrc W' hO (l + j) x ?_
          rw [List.getElem?_append_right (by rw [hAm]; exact Nat.le_add_right _ _), hAm, Nat.add_sub_cancel_left]
          exact hx⟩
        have y1 : f ≤ cap := by omega
        have y2 : l ≤ N := by omega
        have y3 : (f : Int) ≤ (cap : Int) := by omega
        have y4 : (l : Int) ≤ (N : Int) := by omega
        have y5 : N - l = t := by omega
        have y6 : N' - o = t := by omega
        have y7 : ¬ (cap = l) := by omega
        have y8 : ¬ (N' = o) := by omega
        have hcpA : ∀ W' : World, (∀ k, k < H → W'.heap[k]? = W.heap[k]?) → ∀ F, W'.rowIs H 21 N' F → ∀ ty, (Builtin.copy_ #[33, 33] ty #[.slice (some ⟨H, 0, none⟩) N' N', .slice (some ⟨r, 0, none⟩) f cap]).run Tryd.prog W' = .ok (goInt A.length) (W'.setCells H 0 (A.map (Value.int .i32))) := fun W' hO F hF ty =>
          copy_gen hF A _ _ (.inr rfl) (by omega) (by simp only [Nat.min_def]; split <;> omega) (hsrcA W' hO) ty
        have hcpB : ∀ W' : World, (∀ k, k < H → W'.heap[k]? = W.heap[k]?) → ∀ F, W'.rowIs H 21 N' F → ∀ ty, (Builtin.copy_ #[33, 33] ty #[.slice (some ⟨H, o, none⟩) t t, .slice (some ⟨r, l, none⟩) t (cap - l)]).run Tryd.prog W' = .ok (goInt B.length) (W'.setCells H o (B.map (Value.int .i32))) := fun W' hO F hF ty =>
          copy_gen hF B _ _ (.inr rfl) (by omega) (by simp only [Nat.min_def]; split <;> omega) (hsrcB W' hO) ty
        rw [HM.out.1] at hcpA
        rw [HM.out.2] at hcpB
        have hi0 : (0 : Int) ≤ (o : Int) := by omega
        have hi1 : o ≤ N' := by omega
        have hi2 : (o : Int) ≤ (N' : Int) := by omega
        have q0 : N2 ≤ 1000000000 := by omega
        have q1 : P ≤ 1000000000 := by omega
        have q2 : M ≤ 1000000000 := by omega
        have q3 : N' ≤ 1000000000 := by omega
        have q5 : t ≤ 1000000000 := by omega
        have q6 : o ≤ 1000000000 := by omega
        have q8 : (l : Int) - (f : Int) = (m : Int) := by have := HL.out.1; omega
        have q9 : m ≤ 1000000000 := by have := HL.out.1; omega
        obtain ⟨i0, hi, hzz⟩ := Option.map_eq_some_iff.1 info_int32
        simp only [Prod.mk.injEq] at hzz
        obtain ⟨hz0, hs0, hby⟩ := hzz
        have hby2 : i0.bytes * N' ≤ 281474976710656 := by rw [hby]; omega
        have h63 : N' ≤ 9223372036854775807 := by omega

        have g0 : wrap64 (N2 : Int) = (N2 : Int) := w_nat rfl q0
        have g1 : wrap64 ((n : Int) + (N2 : Int)) = (P : Int) := w_nat k1 q1
        have g2 : wrap64 ((P : Int) + 16) = (M : Int) := w_nat k2 q2
        have g3 : wrap64 ((N : Int) + (M : Int)) = (N' : Int) := w_nat k3 q3
        have g5 : wrap64 ((N : Int) - (l : Int)) = (t : Int) := w_nat k5 q5
        have g6 : wrap64 ((N' : Int) - (t : Int)) = (o : Int) := w_nat k6 q6
        have g5' : IntKind.i64.wrap ((N : Int) - (l : Int)) = (t : Int) := i_nat k5 q5
        have g6' : IntKind.i64.wrap ((N' : Int) - (t : Int)) = (o : Int) := i_nat k6 q6
        have gz : IntKind.i64.wrap 0 = 0 := i_nat (n := 0) rfl (by decide)
        have g9 : wrap64 (N' : Int) = (N' : Int) := w_nat rfl q3
        have g9' : IntKind.i64.wrap (N' : Int) = (N' : Int) := i_nat rfl q3
        have g8 : wrap64 ((l : Int) - (f : Int)) = (m : Int) := w_nat q8 q9
        have g8' : IntKind.i64.wrap ((l : Int) - (f : Int)) = (m : Int) := i_nat q8 q9
        have HI := Lib.hid (And.intro (And.intro hi hz0) (And.intro hs0 hby2))
        clear ho hP hM hN' hN2 q0 q1 q2 q3 q5 q6 q8 q9 hi hz0 hs0 hby2 hby k1 k2 k3 k5 k6 k7 k8 k9 k10 k12 k13 k14 k15 k16 hf ht hz hlA hsrcA hsrcB hsrc hlt hAm hh hct hle hmx hs2 HL
        go_enter Tryd.func36, Tryd.ntmps36
        go_upto_region 0 with fail
        go_quiet (fail)
        go_upto_region 3 with (at_make; refine wpList_make_row _ rfl (.tmp 33) (.tmp 33) 33 rfl 21 i0 (.int .i32 0) hu3 HI.out.1.1 HI.out.1.2 HI.out.2.1 rfl .i64 .i64 N' (by first | exact congrArg (Value.int .i64) g3 | rfl) (by first | exact congrArg (Value.int .i64) g3 | rfl) HI.out.2.2 h63 ?_)
        obtain ⟨W2, hW2⟩ : ∃ x, (W.drewN nq).alloc (.cells (madeCells #[.int .i32 0] N') 21) = x := ⟨_, rfl⟩
        have hO2 : ∀ k, k < H → W2.heap[k]? = W.heap[k]? := fun k hk => hW2 ▸ Deep.blk_alloc_lt (W.drewN nq) _ k (show k < W.heap.size from HH.out.symm ▸ hk)
        have hR2 : W2.rowIs H 21 N' (fun _ => .int .i32 0) := HH.out ▸ hW2 ▸ World.rowIs_made (W.drewN nq) (.int .i32 0) N' 21
        have hK2 : Kp X W W2 := hW2 ▸ ⟨rfl, rfl, rfl, by simp, fun k hX => Deep.blk_alloc_lt (W.drewN nq) _ k (HV.out.lt k hX)⟩
        rw [hW2]
        have hB2 := (hO2 g hgl).trans HBK.out
        have c0 : W2.cell? ⟨g, 0, none⟩ = some (.slice (some ⟨r, 0, none⟩) N cap) := (blk_cell hB2 0).trans rfl
        have c1 : W2.cell? ⟨g, 1, none⟩ = some (.int .i64 (f : Nat)) := (blk_cell hB2 1).trans rfl
        have c2 : W2.cell? ⟨g, 2, none⟩ = some (.int .i64 (l : Nat)) := (blk_cell hB2 2).trans rfl
        have H2 := Lib.hid (And.intro (And.intro hO2 hR2) (And.intro hK2 hB2))
        have hcA := hcpA W2.drew hO2 _ hR2.drew
        clear hW2 hO2 hR2 hK2 hB2 hcpA
        go_still_tail 10, (by kernel_rfl)
        change wpList _ _ _ _ _ W2.drew
        refine wpList_copy_runI W2.drew rfl (.tmp 35) (.tmp 44) 33 33 rfl (.slice (some ⟨H, 0, none⟩) N' N') (.slice (some ⟨r, 0, none⟩) f cap) rfl rfl (hcA _) ?_
        obtain ⟨W3, hW3⟩ : ∃ x, W2.drew.setCells H 0 (A.map (Value.int .i32)) = x := ⟨_, rfl⟩
        have hO3 : ∀ k, k < H → W3.heap[k]? = W.heap[k]? := fun k hk => (hW3 ▸ heap_setCells H _ _ _ k (Nat.ne_of_lt hk)).trans (H2.out.1.1 k hk)
        have hR3 := hW3 ▸ rowIs_setCells (A.map (Value.int .i32)) 0 W2.drew _ H2.out.1.2.drew
        have hK3 : Kp X W W3 := hW3 ▸ kp_setCells H (fun hX => absurd (HV.out.lt H hX) (by rw [HH.out]; exact Nat.lt_irrefl _)) _ _ _ H2.out.2.1.drew
        rw [hW3]
        have hB3 := (hO3 g hgl).trans HBK.out
        have c0 : W3.cell? ⟨g, 0, none⟩ = some (.slice (some ⟨r, 0, none⟩) N cap) := (blk_cell hB3 0).trans rfl
        have c1 : W3.cell? ⟨g, 1, none⟩ = some (.int .i64 (f : Nat)) := (blk_cell hB3 1).trans rfl
        have c2 : W3.cell? ⟨g, 2, none⟩ = some (.int .i64 (l : Nat)) := (blk_cell hB3 2).trans rfl
        have H3 := Lib.hid (And.intro (And.intro hO3 hR3) (And.intro hK3 hB3))
        clear hcA hW3 hO3 hR3 hK3 hB3
        go_upto_region 4 with fail
        go_quiet (fail)
        obtain ⟨W4, hW4⟩ : ∃ x, W3.drewN nq = x := ⟨_, rfl⟩
        have hO4 : ∀ k, k < H → W4.heap[k]? = W.heap[k]? := hW4 ▸ H3.out.1.1
        have hR4 := H3.out.1.2.of_block (w' := W4) (by rw [← hW4]; rfl)
        have hK4 : Kp X W W4 := hW4 ▸ H3.out.2.1.drewN nq
        rw [hW4]
        have hB4 := (hO4 g hgl).trans HBK.out
        have c0 : W4.cell? ⟨g, 0, none⟩ = some (.slice (some ⟨r, 0, none⟩) N cap) := (blk_cell hB4 0).trans rfl
        have c1 : W4.cell? ⟨g, 1, none⟩ = some (.int .i64 (f : Nat)) := (blk_cell hB4 1).trans rfl
        have c2 : W4.cell? ⟨g, 2, none⟩ = some (.int .i64 (l : Nat)) := (blk_cell hB4 2).trans rfl
        have hcB := hcpB W4.drew hO4 _ hR4.drew
        have H4 := Lib.hid (And.intro (And.intro hO4 hR4) (And.intro hK4 hB4))
        clear hcpB hW4 hO4 hR4 hK4 hB4
        go_upto_region 5 with fail
        go_still_tail 15, (by kernel_rfl)
        change wpList _ _ _ _ _ W4.drew
        refine wpList_copy_runI W4.drew rfl (.tmp 61) (.tmp 70) 33 33 rfl (.slice (some ⟨H, o, none⟩) t t) (.slice (some ⟨r, l, none⟩) t (cap - l)) rfl rfl (hcB _) ?_
        obtain ⟨W5, hW5⟩ : ∃ x, W4.drew.setCells H o (B.map (Value.int .i32)) = x := ⟨_, rfl⟩
        have hO5 : ∀ k, k < H → W5.heap[k]? = W.heap[k]? := fun k hk => (hW5 ▸ heap_setCells H _ _ _ k (Nat.ne_of_lt hk)).trans (H4.out.1.1 k hk)
        have hR5 := hW5 ▸ rowIs_setCells (B.map (Value.int .i32)) o W4.drew _ H4.out.1.2.drew
        have hK5 : Kp X W W5 := hW5 ▸ kp_setCells H (fun hX => absurd (HV.out.lt H hX) (by rw [HH.out]; exact Nat.lt_irrefl _)) _ _ _ H4.out.2.1.drew
        rw [hW5]
        have hB5 := (hO5 g hgl).trans HBK.out
        have c0 : W5.cell? ⟨g, 0, none⟩ = some (.slice (some ⟨r, 0, none⟩) N cap) := (blk_cell hB5 0).trans rfl
        have c2 : W5.cell? ⟨g, 2, none⟩ = some (.int .i64 (l : Nat)) := (blk_cell hB5 2).trans rfl
        have f0 : W5.frozen? ⟨g, 0, none⟩ = false := blk_frozen hB5 0
        have f2 : W5.frozen? ⟨g, 2, none⟩ = false := blk_frozen hB5 2
        have H5 := Lib.hid (And.intro (And.intro hO5 hR5) (And.intro hK5 hB5))
        clear hcB hW5 hO5 hR5 hK5 hB5
        go_wp2
        go_end0
        obtain ⟨z1, z2⟩ := widen_done HV.out HH.out HM.out.1 HM.out.2 HK.out.2.1 HK.out.2.2 (by unfold maxLen; omega) H5.out.2.1 H5.out.1.1 H5.out.1.2 H5.out.2.2
        exact ⟨rfl, ⟨_, HK.out.1.1, by have := HK.out.1.2; have := HM.out; omega, z1⟩, z2⟩
end Go.Proofs.YtfhnepihbofabaaDoor.X
