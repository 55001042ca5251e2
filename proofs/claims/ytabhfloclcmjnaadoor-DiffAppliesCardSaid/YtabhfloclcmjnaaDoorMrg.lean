/-
  diff.merged and its closure, walked by hand: by this session. Conditions: as typed.
-/
import Derived.Test.YtabhfloclcmjnaaDoorPx3
import Derived.Test.YtabhfloclcmjnaaDoorPx0
import Derived.Deep.RegionHeld3
import Derived.Deep.RegionLaw
import Derived.Outline
namespace Go.Proofs.YtabhfloclcmjnaaDoor.X
open Go Go.RowKit Go.Shelf Go.Proofs.YtabhfloclcmjnaaDoorW.PrintWords Go.Proofs.YtabhfloclcmjnaaDoor.P
set_option linter.unusedVariables false
/-- The text of runes, as Join has it. -/
def jn (t : List Int) : ByteArray := if allRunes t = true then strOfNums (t.flatMap Lib.encodeRuneZ) else ⟨#[]⟩
theorem jn_f {t : List Int} (h : t.length ≤ 17592186044416) : ∃ e, runes_Join.f t = some (jn t, e) := by
  unfold runes_Join.f jn
  rw [if_pos h]
  split
  · exact ⟨0, rfl⟩
  · exact ⟨2, rfl⟩
def upd {α : Type} (f : Nat → α) (k : Nat) (x : α) : Nat → α := fun j => if j = k then x else f j
theorem upd_same {α : Type} (f : Nat → α) (k : Nat) (x : α) : upd f k x k = x := if_pos rfl
theorem upd_other {α : Type} (f : Nat → α) {k j : Nat} (x : α) (h : j ≠ k) : upd f k x j = f j := if_neg h
def fl1 (k : Nat) (t : List Int) : List S40 := if t = [] then [] else [⟨(k : Int), jn t⟩]
/-- What flush tells, and what it leaves. -/
def flO : List Nat → (Nat → List Int) → List S40
  | [], _ => []
  | k :: ks, T => fl1 k (T k) ++ flO ks (upd T k [])
def flT : List Nat → (Nat → List Int) → (Nat → List Int)
  | [], T => T
  | k :: ks, T => flT ks (upd T k [])
/-- The texts and what has been told, in memory. -/
structure Mg (w0 : World) (bT bO : Nat) (V : Nat → Value) (vo : Value) (T : Nat → List Int) (out : List S40) (W : World) : Prop where
  tb : W.heap[bT]? = some (.cells #[V 0, V 1, V 2] 101 (0, 0))
  ob : W.heap[bO]? = some (.cells #[vo] 36 (0, 0))
  rr : ∀ i, i < 3 → Kd.R (Kd.int .i32) 21 W w0.heap.size (fun _ => True) (V i) (T i)
  ro : Kd.R k40 40 W w0.heap.size (fun _ => True) vo out
  ap : ∀ i j k, i < 3 → j < 3 → i ≠ j → (V i).ownBlock = some k → (V j).ownBlock ≠ some k
  lt : w0.heap.size ≤ bT ∧ w0.heap.size ≤ bO ∧ bT ≠ bO
  below : Below w0.heap.size w0 W
namespace Mg
variable {w0 : World} {bT bO : Nat} {V : Nat → Value} {vo : Value} {T : Nat → List Int} {out : List S40} {W W' : World}
theorem keep (h : Mg w0 bT bO V vo T out W) (hb : Below W.heap.size W W') : Mg w0 bT bO V vo T out W' :=
  ⟨(hb.block bT (Array.getElem?_eq_some_iff.1 h.tb).1).trans h.tb, (hb.block bO (Array.getElem?_eq_some_iff.1 h.ob).1).trans h.ob, fun i hi => Kd.R_below (h.rr i hi) hb, Kd.R_below h.ro hb, h.ap, h.lt, below_step h.below hb⟩
theorem tcell (h : Mg w0 bT bO V vo T out W) (i : Nat) : W.cell? ⟨bT, i, none⟩ = #[V 0, V 1, V 2][i]? := blk_cell h.tb i
theorem ocell (h : Mg w0 bT bO V vo T out W) : W.cell? ⟨bO, 0, none⟩ = some vo := blk_cell h.ob 0
theorem tfree (h : Mg w0 bT bO V vo T out W) (i : Nat) : W.frozen? ⟨bT, i, none⟩ = false := blk_frozen h.tb i
theorem ofree (h : Mg w0 bT bO V vo T out W) (i : Nat) : W.frozen? ⟨bO, i, none⟩ = false := blk_frozen h.ob i
/-- A part told behind: the append, then both stores. -/
theorem told {w6 : World} {v6 : Value} {p : S40} {k : Nat} (h : Mg w0 bT bO V vo T out W) (hk : k < 3) (hg : W.grownBy w6 vo.ownBlock) (hr : Kd.R k40 40 w6 w0.heap.size (fun _ => True) v6 (out ++ [p])) (hb : Below w0.heap.size w0 w6) :
    Mg w0 bT bO (upd V k (.slice none 0 0)) v6 (upd T k []) (out ++ [p]) ((w6.setCell ⟨bO, 0, none⟩ v6).setCell ⟨bT, k, none⟩ (.slice none 0 0)) := by
  obtain ⟨l1, l2, l3⟩ := h.lt
  have nT : some bT ≠ vo.ownBlock := Kd.R_ne h.ro h.tb (by decide)
  have nO : some bO ≠ vo.ownBlock := Kd.R_ne h.ro h.ob (by decide)
  have t6 : w6.heap[bT]? = some (.cells #[V 0, V 1, V 2] 101 (0, 0)) := (hg.block bT (Array.getElem?_eq_some_iff.1 h.tb).1 nT).trans h.tb
  have o6 : w6.heap[bO]? = some (.cells #[vo] 36 (0, 0)) := (hg.block bO (Array.getElem?_eq_some_iff.1 h.ob).1 nO).trans h.ob
  have t7 := blk_far (p := ⟨bO, 0, none⟩) t6 (by show bT ≠ bO; exact l3) v6
  have o7 := blk_put o6 0 v6 rfl
  have r6 : ∀ i, i < 3 → Kd.R (Kd.int .i32) 21 ((w6.setCell ⟨bO, 0, none⟩ v6).setCell ⟨bT, k, none⟩ (.slice none 0 0)) w0.heap.size (fun _ => True) (V i) (T i) := fun i hi =>
    Kd.R_set (Kd.R_set (Kd.R_over (h.rr i hi) h.ro (by decide) hg) o6 (by decide) 0 v6) t7 (by decide) k _
  refine ⟨?_, (blk_far (p := ⟨bT, k, none⟩) o7 (by show bO ≠ bT; omega) _).trans rfl, fun i hi => ?_, Kd.R_set (Kd.R_set hr o6 (by decide) 0 v6) t7 (by decide) k _, fun i j q hi hj hij hq => ?_, h.lt, (hb.setCell (p := ⟨bO, 0, none⟩) l2 _).setCell (p := ⟨bT, k, none⟩) l1 _⟩
  · refine (blk_put t7 k (.slice none 0 0) rfl).trans ?_
    rcases (show k = 0 ∨ k = 1 ∨ k = 2 by omega) with rfl | rfl | rfl <;> rfl
  · by_cases e : i = k
    · subst e
      rw [upd_same, upd_same]
      exact Kd.R_nil _ _ _ _ _
    · rw [upd_other _ _ e, upd_other _ _ e]
      exact r6 i hi
  · by_cases e : i = k
    · subst e
      rw [upd_same] at hq
      simp [Value.ownBlock] at hq
    · rw [upd_other _ _ e] at hq
      by_cases e2 : j = k
      · subst e2
        rw [upd_same]
        simp [Value.ownBlock]
      · rw [upd_other _ _ e2]
        exact h.ap i j q hi hj hij hq
/-- A rune behind one of the texts: the append, then the store. -/
theorem more {w6 : World} {v6 : Value} {r : Int} {k : Nat} (h : Mg w0 bT bO V vo T out W) (hk : k < 3) (hg : W.grownBy w6 (V k).ownBlock) (hr : Kd.R (Kd.int .i32) 21 w6 w0.heap.size (fun _ => True) v6 (T k ++ [r])) (hb : Below w0.heap.size w0 w6)
    (hat : v6.ownBlock = (V k).ownBlock ∨ ∃ b, v6.ownBlock = some b ∧ W.heap.size ≤ b) : Mg w0 bT bO (upd V k v6) vo (upd T k (T k ++ [r])) out (w6.setCell ⟨bT, k, none⟩ v6) := by
  obtain ⟨l1, l2, l3⟩ := h.lt
  have nT : some bT ≠ (V k).ownBlock := Kd.R_ne (h.rr k hk) h.tb (by decide)
  have nO : some bO ≠ (V k).ownBlock := Kd.R_ne (h.rr k hk) h.ob (by decide)
  have t6 : w6.heap[bT]? = some (.cells #[V 0, V 1, V 2] 101 (0, 0)) := (hg.block bT (Array.getElem?_eq_some_iff.1 h.tb).1 nT).trans h.tb
  have o6 : w6.heap[bO]? = some (.cells #[vo] 36 (0, 0)) := (hg.block bO (Array.getElem?_eq_some_iff.1 h.ob).1 nO).trans h.ob
  have hlt : ∀ i, i < 3 → ∀ q, (V i).ownBlock = some q → q < W.heap.size := fun i hi q hq => ((Kd.R_bound (h.rr i hi)).1 q hq).2.2.1
  refine ⟨?_, (blk_far (p := ⟨bT, k, none⟩) o6 (by show bO ≠ bT; omega) _).trans rfl, fun i hi => ?_, Kd.R_set (Kd.R_over h.ro (h.rr k hk) (by decide) hg) t6 (by decide) k _, fun i j q hi hj hij hq => ?_, h.lt, hb.setCell (p := ⟨bT, k, none⟩) l1 _⟩
  · refine (blk_put t6 k v6 rfl).trans ?_
    rcases (show k = 0 ∨ k = 1 ∨ k = 2 by omega) with rfl | rfl | rfl <;> rfl
  · by_cases e : i = k
    · subst e
      rw [upd_same, upd_same]
      exact Kd.R_set hr t6 (by decide) i _
    · rw [upd_other _ _ e, upd_other _ _ e]
      refine Kd.R_set ?_ t6 (by decide) k _
      have h1 : Kd.R (Kd.int .i32) 21 W w0.heap.size (fun q => (V i).ownBlock = some q) (V i) (T i) := Kd.R_of_own (Kd.own_of_R (h.rr i hi)) (fun q hq => hq)
      exact Kd.R_mono (Kd.R_grown h1 hg (fun q hq e2 => h.ap i k q hi hk e hq e2.symm)) (fun _ _ => trivial)
  · by_cases e : i = k
    · subst e
      rw [upd_same] at hq
      rw [upd_other _ _ (Ne.symm hij)]
      rcases hat with hat | ⟨b, hb1, hb2⟩
      · rw [hat] at hq
        exact h.ap i j q hi hj hij hq
      · rw [hb1] at hq
        obtain rfl := Option.some.inj hq
        exact fun e2 => by have := hlt j hj b e2; omega
    · rw [upd_other _ _ e] at hq
      by_cases e2 : j = k
      · subst e2
        rw [upd_same]
        rcases hat with hat | ⟨b, hb1, hb2⟩
        · rw [hat]; exact h.ap i j q hi hj hij hq
        · rw [hb1]
          intro e3
          obtain rfl := Option.some.inj e3
          have := hlt i hi b hq
          omega
      · rw [upd_other _ _ e2]
        exact h.ap i j q hi hj hij hq
theorem drew (h : Mg w0 bT bO V vo T out W) : Mg w0 bT bO V vo T out W.drew := ⟨h.tb, h.ob, fun i hi => Kd.R_drew (h.rr i hi), Kd.R_drew h.ro, h.ap, h.lt, h.below.drew⟩
end Mg
/-- Blocks of other types lie as they lay. -/
def KeptT (w W : World) : Prop := ∀ (g : Nat) (cs : Array Value) (t : TypeId), w.heap[g]? = some (.cells cs t (0, 0)) → t ≠ 101 → t ≠ 36 → t ≠ 40 → W.heap[g]? = some (.cells cs t (0, 0))
theorem KeptT.refl (w : World) : KeptT w w := fun _ _ _ h _ _ _ => h
theorem KeptT.trans {a b c : World} (h : KeptT a b) (k : KeptT b c) : KeptT a c := fun g cs t e h1 h2 h3 => k g cs t (h g cs t e h1 h2 h3) h1 h2 h3
theorem KeptT.below {w W : World} (h : Below w.heap.size w W) : KeptT w W := fun g cs t e _ _ _ => (h.block g (Array.getElem?_eq_some_iff.1 e).1).trans e
theorem KeptT.grown {w W : World} {d : Nat → Prop} {v : Value} {base : Nat} {xs : List S40} (hr : Kd.R k40 40 w base d v xs) (hg : w.grownBy W v.ownBlock) : KeptT w W := fun g cs t e _ _ h3 => (hg.block g (Array.getElem?_eq_some_iff.1 e).1 (Kd.R_ne hr e (Ne.symm h3))).trans e
theorem KeptT.set {w : World} {g : Nat} {cs : Array Value} {t : TypeId} (h : w.heap[g]? = some (.cells cs t (0, 0))) (ht : t = 101 ∨ t = 36) (i : Nat) (u : Value) : KeptT w (w.setCell ⟨g, i, none⟩ u) := fun g' cs' t' e h1 h2 _ =>
  blk_far (p := ⟨g, i, none⟩) e (blk_ne e h (by rcases ht with rfl | rfl <;> assumption)) u
theorem info_part : (Tryd.prog.info? 40).map (fun i => (i.zero, i.size, i.bytes)) = some (some (.agg #[(.int .i64 0), (.string ⟨#[]⟩)]), 2, 24) := by kernel_rfl
theorem upd_self_nil {f : Nat → List Int} {k : Nat} (h : f k = []) : upd f k [] = f := by
  funext j
  unfold upd
  split
  · rename_i e; rw [e, h]
  · rfl
set_option maxRecDepth 100000 in
set_option maxHeartbeats 8000000 in
theorem flush_calls (ks : List Nat) (n gK bT bO : Nat) (w0 : World) (V : Nat → Value) (vo : Value) (T : Nat → List Int) (out : List S40) (w : World) (hn : ks.length = n) (hk : ∀ k ∈ ks, k = 0 ∨ k = 1 ∨ k = 2) (hn2 : n ≤ 3) (hT : ∀ i, (T i).length ≤ 1000000) (hol : out.length ≤ 1000000)
    (hg : w.heap[gK]? = some (.cells (ks.map fun (k : Nat) => Value.int .i64 (k : Int)).toArray 3 (0, 0))) (hM : Mg w0 bT bO V vo T out w) :
    Calls Tryd.prog 57 #[.slice (some ⟨gK, 0, none⟩) n n, .pointer (some ⟨bT, 0, none⟩), .pointer (some ⟨bO, 0, none⟩)] w fun e w' => (∃ v, e = .returned v) ∧ KeptT w w' ∧ ∃ V' vo', Mg w0 bT bO V' vo' (flT ks T) (out ++ flO ks T) w' := by
  have HN := Lib.hid hn
  have HK := Lib.hid hk
  have HT := Lib.hid hT
  have HG := Aside0.mk hg
  have HM := Aside0.mk hM
  clear hn hk hT hg hM
  go_enter Tryd.func57, Tryd.ntmps57
  go_wp2
  go_loopg [10] n (fun q u10 wr => ∃ (i : Nat) (V : Nat → Value) (vo : Value) (T1 : Nat → List Int) (o1 : List S40), u10 = .int .i64 i ∧ Aside0 (i + q = n ∧ o1.length ≤ 1000000 + i) ∧ Aside0 (flT (ks.drop i) T1 = flT ks T ∧ o1 ++ flO (ks.drop i) T1 = out ++ flO ks T ∧ ∀ i, (T1 i).length ≤ 1000000) ∧ Aside0 (KeptT w wr) ∧ Aside0 (Mg w0 bT bO V vo T1 o1 wr))
  case atStart => exact ⟨0, V, vo, T, out, rfl, ⟨by omega, by omega⟩, ⟨rfl, rfl, HT.out⟩, ⟨KeptT.refl w⟩, HM⟩
  case round =>
    obtain ⟨i, V, vo, T1, o1, rfl, HI, HF, HKT, HM1⟩ := hrel
    have HG1 := Aside0.mk (HKT.out gK _ _ HG.out (by decide) (by decide) (by decide))
    clear HM
    by_cases hin : i < n
    · have i1 : (0 : Int) ≤ (i : Int) := by omega
      have i2 : (i : Int) < (n : Int) := by omega
      have hil : i < ks.length := by have := HN.out; omega
      obtain ⟨k, hki⟩ : ∃ k, ks[i] = k := ⟨_, rfl⟩
      have hk3 : k = 0 ∨ k = 1 ∨ k = 2 := HK.out k (by rw [← hki]; exact List.getElem_mem hil)
      have hck : wr.cell? ⟨gK, i, none⟩ = some (.int .i64 (k : Int)) := by
        rw [blk_cell HG1.out i]
        simp [List.getElem?_eq_getElem hil, hki]
      have hdr := List.drop_eq_getElem_cons hil
      rw [hki] at hdr
      have HD := Lib.hid hdr
      have HI2 := Lib.hid hin
      have hol1 : o1.length ≤ 1000003 := by have := HI.out; omega
      clear hki hil hin hdr
      rcases hk3 with rfl | rfl | rfl
      · obtain ⟨Ak, ck, hV⟩ := Kd.R_slice (HM1.out.rr 0 (by omega))
        have hCk := (Kd.R_reads' (hV ▸ HM1.out.rr 0 (by omega))).2
        have ct : wr.cell? ⟨bT, 0, none⟩ = some (.slice Ak (T1 0).length ck) := (HM1.out.tcell 0).trans (by rw [← hV]; rfl)
        have HV := Lib.hid hV
        have hTl := HF.out.2.2 0
        clear hV
        obtain ⟨t, ht⟩ : ∃ t, T1 0 = t := ⟨_, rfl⟩
        rw [ht] at ct hCk hTl
        have HTt := Lib.hid ht
        clear ht
        by_cases hte : t = []
        · subst hte
          go_wp2
          go_roundg (n - (i + 1))
          case measure => have := HI.out; have := HI2.out; omega
          case rel =>
            refine ⟨i + 1, V, vo, T1, o1, (by go_num), ⟨by have := HI2.out; omega, by have := HI.out; omega⟩, ⟨?_, ?_, HF.out.2.2⟩, HKT, HM1⟩
            · rw [← HF.out.1, HD.out]; simp only [flT]; rw [upd_self_nil HTt.out]
            · rw [← HF.out.2.1, HD.out]; simp only [flO, fl1]; rw [if_pos HTt.out, upd_self_nil HTt.out, List.nil_append]
        · have htl : 0 < t.length := List.length_pos_iff.2 hte
          obtain ⟨tn, htn⟩ : ∃ tn, t.length = tn := ⟨_, rfl⟩
          have hd1 : decide ((0 : Int) < (tn : Int)) = true := by simp; omega
          have hd2 : decide (0 < tn) = true := by simp; omega
          have hd3 : (0 : Int) < (tn : Int) := by omega
          obtain ⟨je, hj⟩ := jn_f (t := t) (by omega)
          obtain ⟨js, hjs⟩ : ∃ js, jn t = js := ⟨_, rfl⟩
          rw [hjs] at hj
          have HJS := Lib.hid hjs
          have HTN := Lib.hid htn
          have HNE := Lib.hid hte
          have HCK := Aside0.mk hCk
          have HJ := Lib.hid hj
          have cJ := fun (W : World) (hb : Below wr.heap.size wr W) => runes_Join.calls Ak ck t js je W (Kd.C_below hCk.2 hb) hCk.1 hj
          rw [htn] at cJ ct
          clear hjs htn hte hCk hj
          go_wp2_with (first | (go_at_call 46; refine (cJ _ (Below.refl _ _)).mono ?_; rintro e w1 ⟨rfl, hb1⟩; have HM2 := Aside0.mk (HM1.out.keep hb1); have oc := HM2.out.ocell) | ((with_reducible refine gate_dst (N := 31) rfl ?_); refine Kd.R_append k40 (w0 := w0) w0.heap.size rfl (.tmp 26) (.tmp 30) 36 40 _ 24 rfl Tryd.underlying36 info_part rfl (by decide) (by omega) vo o1 ⟨0, js⟩ [.int .i64 0, .string js] (fun _ => True) (fun _ => False) rfl rfl (k40_mkM _ _ _ ⟨0, js⟩) (fun _ h => h.elim) (fun _ _ => trivial) HM2.out.ro HM2.out.below HM2.out.below.size (by omega) ?_; intro v6 w6 ho6 hb6 hg6 _; obtain ⟨A6, k6, rfl⟩ := Kd.R_slice ho6; have h6o : w6.heap[bO]? = some (.cells #[vo] 36 (0, 0)) := (hg6.block bO (Array.getElem?_eq_some_iff.1 HM2.out.ob).1 (Kd.R_ne HM2.out.ro HM2.out.ob (by decide))).trans HM2.out.ob; have h6t : w6.heap[bT]? = some (.cells #[V 0, V 1, V 2] 101 (0, 0)) := (hg6.block bT (Array.getElem?_eq_some_iff.1 HM2.out.tb).1 (Kd.R_ne HM2.out.ro HM2.out.tb (by decide))).trans HM2.out.tb; have c6o := blk_cell h6o 0; have f6o := blk_frozen h6o 0; have c6t := blk_cell h6t 0; have f6t := blk_frozen h6t 0; have hbne : ¬ bO = bT := (fun e => HM2.out.lt.2.2 e.symm); have hbne2 : ¬ bT = bO := HM2.out.lt.2.2))
          have ho7 : Kd.R k40 40 w6 w0.heap.size (fun _ => True) (.slice A6 (o1.length + 1) k6) (o1 ++ [(⟨0, js⟩ : S40)]) := by simpa using ho6
          go_roundg (n - (i + 1))
          case measure => have := HI.out; have := HI2.out; omega
          case rel =>
            refine ⟨i + 1, upd V 0 (.slice none 0 0), .slice A6 (o1.length + 1) k6, upd T1 0 [], o1 ++ [(⟨0, js⟩ : S40)], (by go_num), ⟨by have := HI2.out; omega, by rw [List.length_append, List.length_singleton]; have := HI.out; omega⟩, ⟨?_, ?_, fun j => ?_⟩, ⟨((HKT.out.trans (KeptT.below hb1)).trans (KeptT.grown HM2.out.ro hg6)).trans ((KeptT.set h6o (.inr rfl) 0 _).trans (KeptT.set (blk_far (p := ⟨bO, 0, none⟩) h6t hbne2 _) (.inl rfl) _ _))⟩, ⟨HM2.out.told (by omega) hg6 ho7 hb6⟩⟩
            · rw [← HF.out.1, HD.out]; rfl
            · rw [← HF.out.2.1, HD.out]; simp only [flO, fl1]; rw [HTt.out, if_neg HNE.out, HJS.out, List.append_assoc]; rfl
            · unfold upd; split
              · simp
              · exact HF.out.2.2 j
      · obtain ⟨Ak, ck, hV⟩ := Kd.R_slice (HM1.out.rr 1 (by omega))
        have hCk := (Kd.R_reads' (hV ▸ HM1.out.rr 1 (by omega))).2
        have ct : wr.cell? ⟨bT, 1, none⟩ = some (.slice Ak (T1 1).length ck) := (HM1.out.tcell 1).trans (by rw [← hV]; rfl)
        have HV := Lib.hid hV
        have hTl := HF.out.2.2 1
        clear hV
        obtain ⟨t, ht⟩ : ∃ t, T1 1 = t := ⟨_, rfl⟩
        rw [ht] at ct hCk hTl
        have HTt := Lib.hid ht
        clear ht
        by_cases hte : t = []
        · subst hte
          go_wp2
          go_roundg (n - (i + 1))
          case measure => have := HI.out; have := HI2.out; omega
          case rel =>
            refine ⟨i + 1, V, vo, T1, o1, (by go_num), ⟨by have := HI2.out; omega, by have := HI.out; omega⟩, ⟨?_, ?_, HF.out.2.2⟩, HKT, HM1⟩
            · rw [← HF.out.1, HD.out]; simp only [flT]; rw [upd_self_nil HTt.out]
            · rw [← HF.out.2.1, HD.out]; simp only [flO, fl1]; rw [if_pos HTt.out, upd_self_nil HTt.out, List.nil_append]
        · have htl : 0 < t.length := List.length_pos_iff.2 hte
          obtain ⟨tn, htn⟩ : ∃ tn, t.length = tn := ⟨_, rfl⟩
          have hd1 : decide ((0 : Int) < (tn : Int)) = true := by simp; omega
          have hd2 : decide (0 < tn) = true := by simp; omega
          have hd3 : (0 : Int) < (tn : Int) := by omega
          obtain ⟨je, hj⟩ := jn_f (t := t) (by omega)
          obtain ⟨js, hjs⟩ : ∃ js, jn t = js := ⟨_, rfl⟩
          rw [hjs] at hj
          have HJS := Lib.hid hjs
          have HTN := Lib.hid htn
          have HNE := Lib.hid hte
          have HCK := Aside0.mk hCk
          have HJ := Lib.hid hj
          have cJ := fun (W : World) (hb : Below wr.heap.size wr W) => runes_Join.calls Ak ck t js je W (Kd.C_below hCk.2 hb) hCk.1 hj
          rw [htn] at cJ ct
          clear hjs htn hte hCk hj
          go_wp2_with (first | (go_at_call 46; refine (cJ _ (Below.refl _ _)).mono ?_; rintro e w1 ⟨rfl, hb1⟩; have HM2 := Aside0.mk (HM1.out.keep hb1); have oc := HM2.out.ocell) | ((with_reducible refine gate_dst (N := 31) rfl ?_); refine Kd.R_append k40 (w0 := w0) w0.heap.size rfl (.tmp 26) (.tmp 30) 36 40 _ 24 rfl Tryd.underlying36 info_part rfl (by decide) (by omega) vo o1 ⟨1, js⟩ [.int .i64 1, .string js] (fun _ => True) (fun _ => False) rfl rfl (k40_mkM _ _ _ ⟨1, js⟩) (fun _ h => h.elim) (fun _ _ => trivial) HM2.out.ro HM2.out.below HM2.out.below.size (by omega) ?_; intro v6 w6 ho6 hb6 hg6 _; obtain ⟨A6, k6, rfl⟩ := Kd.R_slice ho6; have h6o : w6.heap[bO]? = some (.cells #[vo] 36 (0, 0)) := (hg6.block bO (Array.getElem?_eq_some_iff.1 HM2.out.ob).1 (Kd.R_ne HM2.out.ro HM2.out.ob (by decide))).trans HM2.out.ob; have h6t : w6.heap[bT]? = some (.cells #[V 0, V 1, V 2] 101 (0, 0)) := (hg6.block bT (Array.getElem?_eq_some_iff.1 HM2.out.tb).1 (Kd.R_ne HM2.out.ro HM2.out.tb (by decide))).trans HM2.out.tb; have c6o := blk_cell h6o 0; have f6o := blk_frozen h6o 0; have c6t := blk_cell h6t 1; have f6t := blk_frozen h6t 1; have hbne : ¬ bO = bT := (fun e => HM2.out.lt.2.2 e.symm); have hbne2 : ¬ bT = bO := HM2.out.lt.2.2))
          have ho7 : Kd.R k40 40 w6 w0.heap.size (fun _ => True) (.slice A6 (o1.length + 1) k6) (o1 ++ [(⟨1, js⟩ : S40)]) := by simpa using ho6
          go_roundg (n - (i + 1))
          case measure => have := HI.out; have := HI2.out; omega
          case rel =>
            refine ⟨i + 1, upd V 1 (.slice none 0 0), .slice A6 (o1.length + 1) k6, upd T1 1 [], o1 ++ [(⟨1, js⟩ : S40)], (by go_num), ⟨by have := HI2.out; omega, by rw [List.length_append, List.length_singleton]; have := HI.out; omega⟩, ⟨?_, ?_, fun j => ?_⟩, ⟨((HKT.out.trans (KeptT.below hb1)).trans (KeptT.grown HM2.out.ro hg6)).trans ((KeptT.set h6o (.inr rfl) 0 _).trans (KeptT.set (blk_far (p := ⟨bO, 0, none⟩) h6t hbne2 _) (.inl rfl) _ _))⟩, ⟨HM2.out.told (by omega) hg6 ho7 hb6⟩⟩
            · rw [← HF.out.1, HD.out]; rfl
            · rw [← HF.out.2.1, HD.out]; simp only [flO, fl1]; rw [HTt.out, if_neg HNE.out, HJS.out, List.append_assoc]; rfl
            · unfold upd; split
              · simp
              · exact HF.out.2.2 j
      · obtain ⟨Ak, ck, hV⟩ := Kd.R_slice (HM1.out.rr 2 (by omega))
        have hCk := (Kd.R_reads' (hV ▸ HM1.out.rr 2 (by omega))).2
        have ct : wr.cell? ⟨bT, 2, none⟩ = some (.slice Ak (T1 2).length ck) := (HM1.out.tcell 2).trans (by rw [← hV]; rfl)
        have HV := Lib.hid hV
        have hTl := HF.out.2.2 2
        clear hV
        obtain ⟨t, ht⟩ : ∃ t, T1 2 = t := ⟨_, rfl⟩
        rw [ht] at ct hCk hTl
        have HTt := Lib.hid ht
        clear ht
        by_cases hte : t = []
        · subst hte
          go_wp2
          go_roundg (n - (i + 1))
          case measure => have := HI.out; have := HI2.out; omega
          case rel =>
            refine ⟨i + 1, V, vo, T1, o1, (by go_num), ⟨by have := HI2.out; omega, by have := HI.out; omega⟩, ⟨?_, ?_, HF.out.2.2⟩, HKT, HM1⟩
            · rw [← HF.out.1, HD.out]; simp only [flT]; rw [upd_self_nil HTt.out]
            · rw [← HF.out.2.1, HD.out]; simp only [flO, fl1]; rw [if_pos HTt.out, upd_self_nil HTt.out, List.nil_append]
        · have htl : 0 < t.length := List.length_pos_iff.2 hte
          obtain ⟨tn, htn⟩ : ∃ tn, t.length = tn := ⟨_, rfl⟩
          have hd1 : decide ((0 : Int) < (tn : Int)) = true := by simp; omega
          have hd2 : decide (0 < tn) = true := by simp; omega
          have hd3 : (0 : Int) < (tn : Int) := by omega
          obtain ⟨je, hj⟩ := jn_f (t := t) (by omega)
          obtain ⟨js, hjs⟩ : ∃ js, jn t = js := ⟨_, rfl⟩
          rw [hjs] at hj
          have HJS := Lib.hid hjs
          have HTN := Lib.hid htn
          have HNE := Lib.hid hte
          have HCK := Aside0.mk hCk
          have HJ := Lib.hid hj
          have cJ := fun (W : World) (hb : Below wr.heap.size wr W) => runes_Join.calls Ak ck t js je W (Kd.C_below hCk.2 hb) hCk.1 hj
          rw [htn] at cJ ct
          clear hjs htn hte hCk hj
          go_wp2_with (first | (go_at_call 46; refine (cJ _ (Below.refl _ _)).mono ?_; rintro e w1 ⟨rfl, hb1⟩; have HM2 := Aside0.mk (HM1.out.keep hb1); have oc := HM2.out.ocell) | ((with_reducible refine gate_dst (N := 31) rfl ?_); refine Kd.R_append k40 (w0 := w0) w0.heap.size rfl (.tmp 26) (.tmp 30) 36 40 _ 24 rfl Tryd.underlying36 info_part rfl (by decide) (by omega) vo o1 ⟨2, js⟩ [.int .i64 2, .string js] (fun _ => True) (fun _ => False) rfl rfl (k40_mkM _ _ _ ⟨2, js⟩) (fun _ h => h.elim) (fun _ _ => trivial) HM2.out.ro HM2.out.below HM2.out.below.size (by omega) ?_; intro v6 w6 ho6 hb6 hg6 _; obtain ⟨A6, k6, rfl⟩ := Kd.R_slice ho6; have h6o : w6.heap[bO]? = some (.cells #[vo] 36 (0, 0)) := (hg6.block bO (Array.getElem?_eq_some_iff.1 HM2.out.ob).1 (Kd.R_ne HM2.out.ro HM2.out.ob (by decide))).trans HM2.out.ob; have h6t : w6.heap[bT]? = some (.cells #[V 0, V 1, V 2] 101 (0, 0)) := (hg6.block bT (Array.getElem?_eq_some_iff.1 HM2.out.tb).1 (Kd.R_ne HM2.out.ro HM2.out.tb (by decide))).trans HM2.out.tb; have c6o := blk_cell h6o 0; have f6o := blk_frozen h6o 0; have c6t := blk_cell h6t 2; have f6t := blk_frozen h6t 2; have hbne : ¬ bO = bT := (fun e => HM2.out.lt.2.2 e.symm); have hbne2 : ¬ bT = bO := HM2.out.lt.2.2))
          have ho7 : Kd.R k40 40 w6 w0.heap.size (fun _ => True) (.slice A6 (o1.length + 1) k6) (o1 ++ [(⟨2, js⟩ : S40)]) := by simpa using ho6
          go_roundg (n - (i + 1))
          case measure => have := HI.out; have := HI2.out; omega
          case rel =>
            refine ⟨i + 1, upd V 2 (.slice none 0 0), .slice A6 (o1.length + 1) k6, upd T1 2 [], o1 ++ [(⟨2, js⟩ : S40)], (by go_num), ⟨by have := HI2.out; omega, by rw [List.length_append, List.length_singleton]; have := HI.out; omega⟩, ⟨?_, ?_, fun j => ?_⟩, ⟨((HKT.out.trans (KeptT.below hb1)).trans (KeptT.grown HM2.out.ro hg6)).trans ((KeptT.set h6o (.inr rfl) 0 _).trans (KeptT.set (blk_far (p := ⟨bO, 0, none⟩) h6t hbne2 _) (.inl rfl) _ _))⟩, ⟨HM2.out.told (by omega) hg6 ho7 hb6⟩⟩
            · rw [← HF.out.1, HD.out]; rfl
            · rw [← HF.out.2.1, HD.out]; simp only [flO, fl1]; rw [HTt.out, if_neg HNE.out, HJS.out, List.append_assoc]; rfl
            · unfold upd; split
              · simp
              · exact HF.out.2.2 j
    · have i2 : ¬ (i : Int) < (n : Int) := by omega
      go_wp2
      go_end0
      refine ⟨⟨_, rfl⟩, HKT.out, V, vo, ?_⟩
      have hi : i = n := by have := HI.out; omega
      have h1 := HF.out.1
      have h2 := HF.out.2.1
      rw [List.drop_of_length_le (by have := HN.out; omega)] at h1 h2
      simp only [flT, flO, List.append_nil] at h1 h2
      rw [← h1, ← h2]
      exact HM1.out
/-- merged, as a function on lists. -/
def ksOf (x : S78) : List Nat := if x.f0 = 0 then [2, 1] else [0]
def nxtT (T : Nat → List Int) (x : S78) : Nat → List Int := upd (flT (ksOf x) T) x.f0.toNat (flT (ksOf x) T x.f0.toNat ++ [x.f1])
def mrgO : List S78 → (Nat → List Int) → List S40
  | [], T => flO [0, 2, 1] T
  | x :: l, T => flO (ksOf x) T ++ mrgO l (nxtT T x)
theorem flO_len : ∀ (ks : List Nat) (T : Nat → List Int), (flO ks T).length ≤ ks.length
  | [], T => by simp [flO]
  | k :: ks, T => by
    have := flO_len ks (upd T k [])
    simp only [flO, fl1, List.length_append, List.length_cons]
    split <;> simp <;> omega
theorem flT_len : ∀ (ks : List Nat) (T : Nat → List Int) (j : Nat), (flT ks T j).length ≤ (T j).length
  | [], T, j => Nat.le_refl _
  | k :: ks, T, j => by
    refine Nat.le_trans (flT_len ks (upd T k []) j) ?_
    unfold upd
    split <;> simp
theorem nxt_len {T : Nat → List Int} {i : Nat} (h : ∀ j, (T j).length ≤ i) (x : S78) : ∀ j, (nxtT T x j).length ≤ i + 1 := fun j => by
  unfold nxtT upd
  split
  · rw [List.length_append, List.length_singleton]
    have := flT_len (ksOf x) T x.f0.toNat
    have := h x.f0.toNat
    omega
  · have := flT_len (ksOf x) T j
    have := h j
    omega
theorem rd78_get (l : List S78) (i : Nat) (h : i < l.length) : rd_T78 l (i : Int) = l[i] := by
  unfold rd_T78
  rw [Int.toNat_natCast, List.getD_eq_getElem?_getD, List.getElem?_eq_getElem h]
  rfl
set_option maxRecDepth 100000 in
set_option maxHeartbeats 8000000 in
theorem merged_walk (l : List S78) (A : Option Addr) (c n : Nat) (w : World) (hn : l.length = n) (hC : Kd.C k78 w A n l) (hk : ∀ x ∈ l, x.f0 = 0 ∨ x.f0 = 1 ∨ x.f0 = 2) (hl : n ≤ 300000) :
    Calls Tryd.prog 41 #[.slice A n c] w fun e w' => ∃ v, e = .returned v ∧ Kd.R k40 40 w' w.heap.size (fun _ => True) v (mrgO l (fun _ => [])) ∧ Below w.heap.size w w' := by
  have HN := Lib.hid hn
  have HC := Aside0.mk hC
  have HK := Lib.hid hk
  clear hn hC hk
  go_enter Tryd.func41, Tryd.ntmps41
  go_wp2
  obtain ⟨W0, hW0⟩ : ∃ x, (w.alloc (.cells #[.slice none 0 0, .slice none 0 0, .slice none 0 0] 101)).alloc (.cells #[.slice none 0 0] 36) = x := ⟨_, rfl⟩
  have HM0 : Aside0 (Mg w w.heap.size (w.heap.size + 1) (fun _ => .slice none 0 0) (.slice none 0 0) (fun _ => []) [] W0) := ⟨by
    rw [← hW0]
    refine ⟨blk_alloc (blk_new w _) _, ?_, fun i hi => Kd.R_nil _ _ _ _ _, Kd.R_nil _ _ _ _ _, fun i j k _ _ _ h => by simp [Value.ownBlock] at h, ⟨Nat.le_refl _, by omega, by omega⟩, below_alloc (below_alloc (Below.refl _ _) _) _⟩
    have := blk_new (w.alloc (.cells #[.slice none 0 0, .slice none 0 0, .slice none 0 0] 101)) (.cells #[.slice none 0 0] 36 (0, 0))
    rw [World.size_alloc] at this
    exact this⟩
  rw [hW0]
  clear hW0
  go_loopg [11] n (fun q u11 wr => ∃ (i : Nat) (V : Nat → Value) (vo : Value) (T : Nat → List Int) (o : List S40), u11 = .int .i64 i ∧ Aside0 (i + q = n ∧ o.length ≤ 2 * i ∧ ∀ j, (T j).length ≤ i) ∧ Aside0 (o ++ mrgO (l.drop i) T = mrgO l (fun _ => [])) ∧ Aside0 (Mg w w.heap.size (w.heap.size + 1) V vo T o wr))
  case atStart => exact ⟨0, _, _, _, [], rfl, ⟨by omega, by simp, fun j => by simp⟩, ⟨rfl⟩, HM0⟩
  case round =>
    obtain ⟨i, V, vo, T, o, rfl, HI, HF, HM⟩ := hrel
    clear HM0
    by_cases hin : i < n
    · have i1 : (0 : Int) ≤ (i : Int) := by omega
      have i2 : (i : Int) < (n : Int) := by omega
      have hil : i < l.length := by have := HN.out; omega
      obtain ⟨ad, hA, q0, q1⟩ := at_T78 HC.out (i : Int) i1 i2
      subst hA
      rw [rd78_get l i hil] at q0 q1
      have x0 := (HM.out.below.cell (World.block_lt_of_cell? w _ q0)).trans q0
      have x1 := (HM.out.below.cell (World.block_lt_of_cell? w _ q1)).trans q1
      have hkx := HK.out l[i] (List.getElem_mem hil)
      have hdr := List.drop_eq_getElem_cons hil
      obtain ⟨x, hx⟩ : ∃ x, l[i] = x := ⟨_, rfl⟩
      rw [hx] at x0 x1 hkx hdr
      rw [Int.toNat_natCast] at x0 x1
      have HD := Lib.hid hdr
      have HI2 := Lib.hid hin
      clear q0 q1 hx hil hdr hin
      obtain ⟨xk, xr⟩ := x
      simp only at x0 x1 hkx
      rcases hkx with rfl | rfl | rfl
      · have hb2 : Below wr.heap.size wr ((wr.alloc (.cells #[.int .i64 0, .int .i32 xr] 78)).alloc (.cells #[.int .i64 2, .int .i64 1] 3)) := below_alloc (below_alloc (Below.refl _ _) _) _
        have hg2 : ((wr.alloc (.cells #[.int .i64 0, .int .i32 xr] 78)).alloc (.cells #[.int .i64 2, .int .i64 1] 3)).heap[wr.heap.size + 1]? = some (.cells (([2, 1] : List Nat).map fun (k : Nat) => Value.int .i64 (k : Int)).toArray 3 (0, 0)) := by have h := blk_new (wr.alloc (.cells #[.int .i64 0, .int .i32 xr] 78)) (.cells #[.int .i64 2, .int .i64 1] 3 (0, 0)); rw [World.size_alloc] at h; exact h
        have hx2 : ((wr.alloc (.cells #[.int .i64 0, .int .i32 xr] 78)).alloc (.cells #[.int .i64 2, .int .i64 1] 3)).heap[wr.heap.size]? = some (.cells #[.int .i64 0, .int .i32 xr] 78 (0, 0)) := blk_alloc (blk_new wr _) _
        have cF := flush_calls [2, 1] 2 (wr.heap.size + 1) w.heap.size (w.heap.size + 1) w V vo T o ((wr.alloc (.cells #[.int .i64 0, .int .i32 xr] 78)).alloc (.cells #[.int .i64 2, .int .i64 1] 3)) rfl (by decide) (by omega) (fun j => by have := HI.out.2.2 j; omega) (by have := HI.out; omega) hg2 (HM.out.keep hb2)
        have HX2 := Aside0.mk hx2
        clear hb2 hg2 hx2
        go_upto_region 10 with (go_at_call 57; refine cF.mono ?_; rintro e w9 ⟨⟨v9, rfl⟩, hkt, V9, vo9, hM9⟩)
        have hx9 := hkt _ _ _ HX2.out (by decide) (by decide) (by decide)
        have HM9 := Aside0.mk hM9
        have hgx : wr.heap.size ≠ w.heap.size := blk_ne hx9 HM9.out.tb (by decide)
        obtain ⟨gx, hgxe⟩ : ∃ g, wr.heap.size = g := ⟨_, rfl⟩
        rw [hgxe] at hx9 hgx ⊢
        have hgx2 := Ne.symm hgx
        have x90 : w9.cell? ⟨gx, 0, none⟩ = some (.int .i64 0) := blk_cell hx9 0
        have x91 : w9.cell? ⟨gx, 1, none⟩ = some (.int .i32 xr) := blk_cell hx9 1
        obtain ⟨A9, c9, hV9⟩ := Kd.R_slice (HM9.out.rr 0 (by omega))
        have hlT : (flT [2, 1] T 0).length ≤ 300000 := by have h1 := flT_len [2, 1] T 0; have h2 := HI.out.2.2 0; have h3 := HI.out.1; omega
        obtain ⟨T9, hT9⟩ : ∃ x, flT [2, 1] T 0 = x := ⟨_, rfl⟩
        rw [hT9] at hV9 hlT
        have ho9 : Kd.R (Kd.int .i32) 21 w9 w.heap.size (fun _ => True) (.slice A9 T9.length c9) T9 := by rw [← hV9, ← hT9]; exact HM9.out.rr 0 (by omega)
        have ct9 : w9.cell? ⟨w.heap.size, 0, none⟩ = some (.slice A9 T9.length c9) := (HM9.out.tcell 0).trans (by rw [← hV9]; rfl)
        have ft9 := HM9.out.tfree 0
        have HT9 := Lib.hid hT9
        have HV9 := Lib.hid hV9
        have HGX := Lib.hid hgxe
        have HO9 := Aside0.mk ho9
        have HKT := Aside0.mk hkt
        have hlt9 : gx < w9.heap.size := World.block_lt_of_cell? w9 _ x90
        have hne9 : some gx ≠ (Value.slice A9 T9.length c9).ownBlock := Kd.R_ne ho9 hx9 (by decide)
        have hneT : some w.heap.size ≠ (Value.slice A9 T9.length c9).ownBlock := Kd.R_ne ho9 HM9.out.tb (by decide)
        have a90 : ∀ o, (w9.alloc o).cell? ⟨gx, 0, none⟩ = some (.int .i64 0) := fun o => blk_cell (blk_alloc hx9 o) 0
        have a91 : ∀ o, (w9.alloc o).cell? ⟨gx, 1, none⟩ = some (.int .i32 xr) := fun o => blk_cell (blk_alloc hx9 o) 1
        have at9 : ∀ o, (w9.alloc o).cell? ⟨w.heap.size, 0, none⟩ = some (.slice A9 T9.length c9) := fun o => (blk_cell (blk_alloc HM9.out.tb o) 0).trans (by rw [← hV9]; rfl)
        have HX9 := Aside0.mk hx9
        clear hkt hM9 hx9 hT9 hV9 ho9 HX2 cF hgxe x0 x1
        go_region_law (refine Kd.R_append_step (Kd.int .i32) (w0 := w) (W := w9.drew) w.heap.size (by rfl) (.tmp 29) (.tmp 32) 28 21 (.int .i32 0) 4 rfl Tryd.underlying28 info_rune rfl (by decide) (by omega) (.slice A9 T9.length c9) T9 xr [.int .i32 xr] (fun _ => True) (fun _ => False) rfl rfl rfl (fun _ h => h.elim) (fun _ _ => trivial) (Kd.R_drew HO9.out) (below_drew1 HM9.out.below) HM9.out.below.size (by omega) ?_; intro v6 w6 ho6 hb6 hg6 hat6; obtain ⟨A6, k6, rfl⟩ := Kd.R_slice ho6; have h6t : w6.heap[w.heap.size]? = some (.cells #[V9 0, V9 1, V9 2] 101 (0, 0)) := (hg6.block _ (Array.getElem?_eq_some_iff.1 HM9.out.tb).1 hneT).trans HM9.out.tb; have c6t := blk_cell h6t 0; have f6t := blk_frozen h6t 0; have h6x := (hg6.block _ hlt9 hne9).trans HX9.out; have x60 : w6.cell? ⟨gx, 0, none⟩ = some (.int .i64 0) := blk_cell h6x 0; have x61 : w6.cell? ⟨gx, 1, none⟩ = some (.int .i32 xr) := blk_cell h6x 1)
        all_goals
          have ho7 : Kd.R (Kd.int .i32) 21 w6 w.heap.size (fun _ => True) (.slice A6 (T9.length + 1) k6) (flT [2, 1] T 0 ++ [xr]) := by rw [HT9.out]; simpa using ho6
          have HMM := Aside0.mk (HM9.out.more (k := 0) (v6 := .slice A6 (T9.length + 1) k6) (by omega) (by rw [HV9.out]; exact ⟨hg6.os, hg6.tape, hg6.output, hg6.size, hg6.block⟩) ho7 hb6 (by rw [HV9.out]; simpa [Value.ownBlock] using hat6))
          clear ho6 ho7 hb6 hg6 hat6 h6t c6t f6t h6x x60 x61
          go_wp2
          go_roundg (n - (i + 1))
          case measure => have := HI.out; have := HI2.out; omega
          case rel =>
            refine ⟨i + 1, upd V9 0 (.slice A6 (T9.length + 1) k6), vo9, nxtT T ⟨0, xr⟩, o ++ flO [2, 1] T, (by go_num), ⟨by have := HI2.out; omega, ?_, nxt_len HI.out.2.2 _⟩, ⟨?_⟩, ⟨?_⟩⟩
            · rw [List.length_append]; have := HI.out.2.1; have := flO_len [2, 1] T; simp only [List.length_cons, List.length_nil] at this; omega
            · rw [← HF.out, HD.out, List.append_assoc]; rfl
            · first | exact HMM.out | exact HMM.out.drew
      · have hb2 : Below wr.heap.size wr ((wr.alloc (.cells #[.int .i64 1, .int .i32 xr] 78)).alloc (.cells #[.int .i64 0] 3)) := below_alloc (below_alloc (Below.refl _ _) _) _
        have hg2 : ((wr.alloc (.cells #[.int .i64 1, .int .i32 xr] 78)).alloc (.cells #[.int .i64 0] 3)).heap[wr.heap.size + 1]? = some (.cells (([0] : List Nat).map fun (k : Nat) => Value.int .i64 (k : Int)).toArray 3 (0, 0)) := by have h := blk_new (wr.alloc (.cells #[.int .i64 1, .int .i32 xr] 78)) (.cells #[.int .i64 0] 3 (0, 0)); rw [World.size_alloc] at h; exact h
        have hx2 : ((wr.alloc (.cells #[.int .i64 1, .int .i32 xr] 78)).alloc (.cells #[.int .i64 0] 3)).heap[wr.heap.size]? = some (.cells #[.int .i64 1, .int .i32 xr] 78 (0, 0)) := blk_alloc (blk_new wr _) _
        have cF := flush_calls [0] 1 (wr.heap.size + 1) w.heap.size (w.heap.size + 1) w V vo T o ((wr.alloc (.cells #[.int .i64 1, .int .i32 xr] 78)).alloc (.cells #[.int .i64 0] 3)) rfl (by decide) (by omega) (fun j => by have := HI.out.2.2 j; omega) (by have := HI.out; omega) hg2 (HM.out.keep hb2)
        have HX2 := Aside0.mk hx2
        clear hb2 hg2 hx2
        go_upto_region 10 with (go_at_call 57; refine cF.mono ?_; rintro e w9 ⟨⟨v9, rfl⟩, hkt, V9, vo9, hM9⟩)
        have hx9 := hkt _ _ _ HX2.out (by decide) (by decide) (by decide)
        have HM9 := Aside0.mk hM9
        have hgx : wr.heap.size ≠ w.heap.size := blk_ne hx9 HM9.out.tb (by decide)
        obtain ⟨gx, hgxe⟩ : ∃ g, wr.heap.size = g := ⟨_, rfl⟩
        rw [hgxe] at hx9 hgx ⊢
        have hgx2 := Ne.symm hgx
        have x90 : w9.cell? ⟨gx, 0, none⟩ = some (.int .i64 1) := blk_cell hx9 0
        have x91 : w9.cell? ⟨gx, 1, none⟩ = some (.int .i32 xr) := blk_cell hx9 1
        obtain ⟨A9, c9, hV9⟩ := Kd.R_slice (HM9.out.rr 1 (by omega))
        have hlT : (flT [0] T 1).length ≤ 300000 := by have h1 := flT_len [0] T 1; have h2 := HI.out.2.2 1; have h3 := HI.out.1; omega
        obtain ⟨T9, hT9⟩ : ∃ x, flT [0] T 1 = x := ⟨_, rfl⟩
        rw [hT9] at hV9 hlT
        have ho9 : Kd.R (Kd.int .i32) 21 w9 w.heap.size (fun _ => True) (.slice A9 T9.length c9) T9 := by rw [← hV9, ← hT9]; exact HM9.out.rr 1 (by omega)
        have ct9 : w9.cell? ⟨w.heap.size, 1, none⟩ = some (.slice A9 T9.length c9) := (HM9.out.tcell 1).trans (by rw [← hV9]; rfl)
        have ft9 := HM9.out.tfree 1
        have HT9 := Lib.hid hT9
        have HV9 := Lib.hid hV9
        have HGX := Lib.hid hgxe
        have HO9 := Aside0.mk ho9
        have HKT := Aside0.mk hkt
        have hlt9 : gx < w9.heap.size := World.block_lt_of_cell? w9 _ x90
        have hne9 : some gx ≠ (Value.slice A9 T9.length c9).ownBlock := Kd.R_ne ho9 hx9 (by decide)
        have hneT : some w.heap.size ≠ (Value.slice A9 T9.length c9).ownBlock := Kd.R_ne ho9 HM9.out.tb (by decide)
        have a90 : ∀ o, (w9.alloc o).cell? ⟨gx, 0, none⟩ = some (.int .i64 1) := fun o => blk_cell (blk_alloc hx9 o) 0
        have a91 : ∀ o, (w9.alloc o).cell? ⟨gx, 1, none⟩ = some (.int .i32 xr) := fun o => blk_cell (blk_alloc hx9 o) 1
        have at9 : ∀ o, (w9.alloc o).cell? ⟨w.heap.size, 1, none⟩ = some (.slice A9 T9.length c9) := fun o => (blk_cell (blk_alloc HM9.out.tb o) 1).trans (by rw [← hV9]; rfl)
        have HX9 := Aside0.mk hx9
        clear hkt hM9 hx9 hT9 hV9 ho9 HX2 cF hgxe x0 x1
        go_region_law (refine Kd.R_append_step (Kd.int .i32) (w0 := w) (W := w9.drew) w.heap.size (by rfl) (.tmp 29) (.tmp 32) 28 21 (.int .i32 0) 4 rfl Tryd.underlying28 info_rune rfl (by decide) (by omega) (.slice A9 T9.length c9) T9 xr [.int .i32 xr] (fun _ => True) (fun _ => False) rfl rfl rfl (fun _ h => h.elim) (fun _ _ => trivial) (Kd.R_drew HO9.out) (below_drew1 HM9.out.below) HM9.out.below.size (by omega) ?_; intro v6 w6 ho6 hb6 hg6 hat6; obtain ⟨A6, k6, rfl⟩ := Kd.R_slice ho6; have h6t : w6.heap[w.heap.size]? = some (.cells #[V9 0, V9 1, V9 2] 101 (0, 0)) := (hg6.block _ (Array.getElem?_eq_some_iff.1 HM9.out.tb).1 hneT).trans HM9.out.tb; have c6t := blk_cell h6t 1; have f6t := blk_frozen h6t 1; have h6x := (hg6.block _ hlt9 hne9).trans HX9.out; have x60 : w6.cell? ⟨gx, 0, none⟩ = some (.int .i64 1) := blk_cell h6x 0; have x61 : w6.cell? ⟨gx, 1, none⟩ = some (.int .i32 xr) := blk_cell h6x 1)
        all_goals
          have ho7 : Kd.R (Kd.int .i32) 21 w6 w.heap.size (fun _ => True) (.slice A6 (T9.length + 1) k6) (flT [0] T 1 ++ [xr]) := by rw [HT9.out]; simpa using ho6
          have HMM := Aside0.mk (HM9.out.more (k := 1) (v6 := .slice A6 (T9.length + 1) k6) (by omega) (by rw [HV9.out]; exact ⟨hg6.os, hg6.tape, hg6.output, hg6.size, hg6.block⟩) ho7 hb6 (by rw [HV9.out]; simpa [Value.ownBlock] using hat6))
          clear ho6 ho7 hb6 hg6 hat6 h6t c6t f6t h6x x60 x61
          go_wp2
          go_roundg (n - (i + 1))
          case measure => have := HI.out; have := HI2.out; omega
          case rel =>
            refine ⟨i + 1, upd V9 1 (.slice A6 (T9.length + 1) k6), vo9, nxtT T ⟨1, xr⟩, o ++ flO [0] T, (by go_num), ⟨by have := HI2.out; omega, ?_, nxt_len HI.out.2.2 _⟩, ⟨?_⟩, ⟨?_⟩⟩
            · rw [List.length_append]; have := HI.out.2.1; have := flO_len [0] T; simp only [List.length_cons, List.length_nil] at this; omega
            · rw [← HF.out, HD.out, List.append_assoc]; rfl
            · first | exact HMM.out | exact HMM.out.drew
      · have hb2 : Below wr.heap.size wr ((wr.alloc (.cells #[.int .i64 2, .int .i32 xr] 78)).alloc (.cells #[.int .i64 0] 3)) := below_alloc (below_alloc (Below.refl _ _) _) _
        have hg2 : ((wr.alloc (.cells #[.int .i64 2, .int .i32 xr] 78)).alloc (.cells #[.int .i64 0] 3)).heap[wr.heap.size + 1]? = some (.cells (([0] : List Nat).map fun (k : Nat) => Value.int .i64 (k : Int)).toArray 3 (0, 0)) := by have h := blk_new (wr.alloc (.cells #[.int .i64 2, .int .i32 xr] 78)) (.cells #[.int .i64 0] 3 (0, 0)); rw [World.size_alloc] at h; exact h
        have hx2 : ((wr.alloc (.cells #[.int .i64 2, .int .i32 xr] 78)).alloc (.cells #[.int .i64 0] 3)).heap[wr.heap.size]? = some (.cells #[.int .i64 2, .int .i32 xr] 78 (0, 0)) := blk_alloc (blk_new wr _) _
        have cF := flush_calls [0] 1 (wr.heap.size + 1) w.heap.size (w.heap.size + 1) w V vo T o ((wr.alloc (.cells #[.int .i64 2, .int .i32 xr] 78)).alloc (.cells #[.int .i64 0] 3)) rfl (by decide) (by omega) (fun j => by have := HI.out.2.2 j; omega) (by have := HI.out; omega) hg2 (HM.out.keep hb2)
        have HX2 := Aside0.mk hx2
        clear hb2 hg2 hx2
        go_upto_region 10 with (go_at_call 57; refine cF.mono ?_; rintro e w9 ⟨⟨v9, rfl⟩, hkt, V9, vo9, hM9⟩)
        have hx9 := hkt _ _ _ HX2.out (by decide) (by decide) (by decide)
        have HM9 := Aside0.mk hM9
        have hgx : wr.heap.size ≠ w.heap.size := blk_ne hx9 HM9.out.tb (by decide)
        obtain ⟨gx, hgxe⟩ : ∃ g, wr.heap.size = g := ⟨_, rfl⟩
        rw [hgxe] at hx9 hgx ⊢
        have hgx2 := Ne.symm hgx
        have x90 : w9.cell? ⟨gx, 0, none⟩ = some (.int .i64 2) := blk_cell hx9 0
        have x91 : w9.cell? ⟨gx, 1, none⟩ = some (.int .i32 xr) := blk_cell hx9 1
        obtain ⟨A9, c9, hV9⟩ := Kd.R_slice (HM9.out.rr 2 (by omega))
        have hlT : (flT [0] T 2).length ≤ 300000 := by have h1 := flT_len [0] T 2; have h2 := HI.out.2.2 2; have h3 := HI.out.1; omega
        obtain ⟨T9, hT9⟩ : ∃ x, flT [0] T 2 = x := ⟨_, rfl⟩
        rw [hT9] at hV9 hlT
        have ho9 : Kd.R (Kd.int .i32) 21 w9 w.heap.size (fun _ => True) (.slice A9 T9.length c9) T9 := by rw [← hV9, ← hT9]; exact HM9.out.rr 2 (by omega)
        have ct9 : w9.cell? ⟨w.heap.size, 2, none⟩ = some (.slice A9 T9.length c9) := (HM9.out.tcell 2).trans (by rw [← hV9]; rfl)
        have ft9 := HM9.out.tfree 2
        have HT9 := Lib.hid hT9
        have HV9 := Lib.hid hV9
        have HGX := Lib.hid hgxe
        have HO9 := Aside0.mk ho9
        have HKT := Aside0.mk hkt
        have hlt9 : gx < w9.heap.size := World.block_lt_of_cell? w9 _ x90
        have hne9 : some gx ≠ (Value.slice A9 T9.length c9).ownBlock := Kd.R_ne ho9 hx9 (by decide)
        have hneT : some w.heap.size ≠ (Value.slice A9 T9.length c9).ownBlock := Kd.R_ne ho9 HM9.out.tb (by decide)
        have a90 : ∀ o, (w9.alloc o).cell? ⟨gx, 0, none⟩ = some (.int .i64 2) := fun o => blk_cell (blk_alloc hx9 o) 0
        have a91 : ∀ o, (w9.alloc o).cell? ⟨gx, 1, none⟩ = some (.int .i32 xr) := fun o => blk_cell (blk_alloc hx9 o) 1
        have at9 : ∀ o, (w9.alloc o).cell? ⟨w.heap.size, 2, none⟩ = some (.slice A9 T9.length c9) := fun o => (blk_cell (blk_alloc HM9.out.tb o) 2).trans (by rw [← hV9]; rfl)
        have HX9 := Aside0.mk hx9
        clear hkt hM9 hx9 hT9 hV9 ho9 HX2 cF hgxe x0 x1
        go_region_law (refine Kd.R_append_step (Kd.int .i32) (w0 := w) (W := w9.drew) w.heap.size (by rfl) (.tmp 29) (.tmp 32) 28 21 (.int .i32 0) 4 rfl Tryd.underlying28 info_rune rfl (by decide) (by omega) (.slice A9 T9.length c9) T9 xr [.int .i32 xr] (fun _ => True) (fun _ => False) rfl rfl rfl (fun _ h => h.elim) (fun _ _ => trivial) (Kd.R_drew HO9.out) (below_drew1 HM9.out.below) HM9.out.below.size (by omega) ?_; intro v6 w6 ho6 hb6 hg6 hat6; obtain ⟨A6, k6, rfl⟩ := Kd.R_slice ho6; have h6t : w6.heap[w.heap.size]? = some (.cells #[V9 0, V9 1, V9 2] 101 (0, 0)) := (hg6.block _ (Array.getElem?_eq_some_iff.1 HM9.out.tb).1 hneT).trans HM9.out.tb; have c6t := blk_cell h6t 2; have f6t := blk_frozen h6t 2; have h6x := (hg6.block _ hlt9 hne9).trans HX9.out; have x60 : w6.cell? ⟨gx, 0, none⟩ = some (.int .i64 2) := blk_cell h6x 0; have x61 : w6.cell? ⟨gx, 1, none⟩ = some (.int .i32 xr) := blk_cell h6x 1)
        all_goals
          have ho7 : Kd.R (Kd.int .i32) 21 w6 w.heap.size (fun _ => True) (.slice A6 (T9.length + 1) k6) (flT [0] T 2 ++ [xr]) := by rw [HT9.out]; simpa using ho6
          have HMM := Aside0.mk (HM9.out.more (k := 2) (v6 := .slice A6 (T9.length + 1) k6) (by omega) (by rw [HV9.out]; exact ⟨hg6.os, hg6.tape, hg6.output, hg6.size, hg6.block⟩) ho7 hb6 (by rw [HV9.out]; simpa [Value.ownBlock] using hat6))
          clear ho6 ho7 hb6 hg6 hat6 h6t c6t f6t h6x x60 x61
          go_wp2
          go_roundg (n - (i + 1))
          case measure => have := HI.out; have := HI2.out; omega
          case rel =>
            refine ⟨i + 1, upd V9 2 (.slice A6 (T9.length + 1) k6), vo9, nxtT T ⟨2, xr⟩, o ++ flO [0] T, (by go_num), ⟨by have := HI2.out; omega, ?_, nxt_len HI.out.2.2 _⟩, ⟨?_⟩, ⟨?_⟩⟩
            · rw [List.length_append]; have := HI.out.2.1; have := flO_len [0] T; simp only [List.length_cons, List.length_nil] at this; omega
            · rw [← HF.out, HD.out, List.append_assoc]; rfl
            · first | exact HMM.out | exact HMM.out.drew
    · have i2 : ¬ (i : Int) < (n : Int) := by omega
      have hi : i = n := by have := HI.out.1; omega
      have hb2 : Below wr.heap.size wr (wr.alloc (.cells #[.int .i64 0, .int .i64 2, .int .i64 1] 3)) := below_alloc (Below.refl _ _) _
      have hg2 : (wr.alloc (.cells #[.int .i64 0, .int .i64 2, .int .i64 1] 3)).heap[wr.heap.size]? = some (.cells (([0, 2, 1] : List Nat).map fun (k : Nat) => Value.int .i64 (k : Int)).toArray 3 (0, 0)) := blk_new wr _
      have cF := flush_calls [0, 2, 1] 3 wr.heap.size w.heap.size (w.heap.size + 1) w V vo T o _ rfl (by decide) (by omega) (fun j => by have := HI.out.2.2 j; omega) (by have := HI.out; omega) hg2 (HM.out.keep hb2)
      have HE := Lib.hid hi
      clear hb2 hg2 hin hi
      go_wp2_with (go_at_call 57; refine cF.mono ?_; rintro e w9 ⟨⟨v9, rfl⟩, hkt, V9, vo9, hM9⟩; have oc9 := hM9.ocell)
      go_ret
      have hf := HF.out
      rw [List.drop_of_length_le (by have := HN.out; have := HE.out; omega)] at hf
      exact ⟨_, rfl, by rw [← hf]; exact hM9.ro, hM9.below⟩
def kindsOk (l : List S78) : Bool := l.all fun x => decide (x.f0 = 0 ∨ x.f0 = 1 ∨ x.f0 = 2)
def diff_merged.f (l0 : List S78) : Option (List S40) := if l0.length ≤ 300000 ∧ kindsOk l0 = true then some (mrgO l0 (fun _ => [])) else none
theorem diff_merged.calls (A0 : Option Addr) (c0 : Nat) (l0 : List S78) (r : List S40) (w : World) (hr0 : Kd.C k78 w A0 l0.length l0) (hc0 : l0.length ≤ c0) (h : diff_merged.f l0 = some r) :
    Calls Tryd.prog 41 #[.slice A0 l0.length c0] w fun e w' => ∃ v0_ : Value, e = .returned v0_ ∧ Kd.R k40 40 w' w.heap.size (fun _ => True) v0_ r ∧ Below w.heap.size w w' := by
  unfold diff_merged.f at h
  split at h
  · rename_i hl
    obtain rfl := Option.some.inj h
    exact merged_walk l0 A0 c0 l0.length w rfl hr0 (fun x hx => of_decide_eq_true (List.all_eq_true.1 hl.2 x hx)) hl.1
  · cases h
end Go.Proofs.YtabhfloclcmjnaaDoor.X
