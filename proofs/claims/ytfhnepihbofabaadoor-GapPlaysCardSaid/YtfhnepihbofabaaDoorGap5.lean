/-
  package gap: seek moves the gap to a place: by this session. Conditions: as typed.
-/
import Derived.Test.YtfhnepihbofabaaDoorGap3
import Derived.Deep.DeepCutAuto
import Derived.Deep.CutBlock
import Derived.Deep.LoopGhost
import Derived.StillTailTactics
import Derived.Deep.RegionHeld3
import Derived.Lib.LazyBuf
import Derived.Laws.IdiomCopy
import Derived.Deep.OwnRows
import Derived.Shelf.Spec.SlicesInsert
namespace Go.Proofs.YtfhnepihbofabaaDoor.X
open Go Go.RowKit Go.Lib Go.Shelf Go.Proofs.YtfhnepihbofabaaDoorW.PrintWords
set_option linter.unusedVariables false
theorem w_id {x : Int} (h : -1000000000 ≤ x) (h2 : x ≤ 1000000000) : wrap64 x = x := by unfold wrap64; omega
theorem i_id {x : Int} (h : -1000000000 ≤ x) (h2 : x ≤ 1000000000) : IntKind.i64.wrap x = x := by rw [IntKind.wrap_i64]; omega
theorem w_nat {x : Int} {n : Nat} (h : x = (n : Int)) (hn : n ≤ 1000000000) : wrap64 x = (n : Int) := by subst h; unfold wrap64; omega
theorem i_nat {x : Int} {n : Nat} (h : x = (n : Int)) (hn : n ≤ 1000000000) : IntKind.i64.wrap x = (n : Int) := by subst h; rw [IntKind.wrap_i64]; omega
theorem rowk_is {e : TypeId} {W : World} {g cap : Nat} {cur : Array Value} (hh : W.heap[g]? = some (.cells cur e (0, 0))) (hs : cur.size = cap) : W.rowIs g e cap (fun t => cur[t]?.getD default) :=
  ⟨cur, hh, hs, fun i hi => by
    have : i < cur.size := by omega
    simp [Array.getElem?_eq_getElem this]⟩
theorem rowk_in {W : World} {g cap : Nat} {f : Nat → Value} {xs : List Int} (hr : W.rowIs g 21 cap f) (hle : xs.length ≤ cap) (hm : cap ≤ maxLen) (hf : ∀ t x, xs[t]? = some x → f t = .int .i32 x) : Ru W (.slice (some ⟨g, 0, none⟩) xs.length cap) xs := by
  obtain ⟨c, hh, hs, hc⟩ := hr
  refine rk_in (Nat.zero_le _) hh hle hm hs ?_
  apply List.ext_getElem?
  intro j
  by_cases hj : j < xs.length
  · rw [List.getElem?_take, if_pos hj, List.getElem?_map, List.getElem?_eq_getElem hj, Array.getElem?_toList, hc j (by omega), hf j _ (List.getElem?_eq_getElem hj)]
    rfl
  · rw [List.getElem?_eq_none (by simp [List.length_take]; omega), List.getElem?_eq_none (by simpa using (Nat.le_of_not_lt hj))]
theorem cellk_some {e : TypeId} {W : World} {g cap : Nat} {c : Array Value} (hc : W.heap[g]? = some (.cells c e (0, 0))) (hs : c.size = cap) {t : Nat} (ht : t < cap) : (W.cell? ⟨g, t, none⟩).isSome = true := by
  rw [blk_cell hc t, Array.getElem?_eq_getElem (by omega)]
  rfl
/-- A copy of some cells of a row into the same row, or another one. -/
theorem copy_at {W : World} {r o dl dc r2 o2 sl sc cap : Nat} {c : Array Value} (hh : W.heap[r]? = some (.cells c 21 (0, 0))) (hs : c.size = cap) (vs : List Int) (hn : vs.length = Nat.min sl dl) (hfit : o + vs.length ≤ cap)
    (hsrc : ∀ j x, vs[j]? = some x → W.cell? ⟨r2, o2 + j, none⟩ = some (.int .i32 x)) (ty : TypeId) :
    (Builtin.copy_ #[33, 33] ty #[.slice (some ⟨r, o, none⟩) dl dc, .slice (some ⟨r2, o2, none⟩) sl sc]).run Tryd.prog W = .ok (goInt vs.length) (W.setCells r o (vs.map (Value.int .i32))) := by
  have := run_copy_cells (P := Tryd.prog) W 33 33 ty 21 r o dl dc ⟨r2, o2, none⟩ sl sc (vs.map (Value.int .i32)) Tryd.underlying33 (by kernel_rfl) (by rw [List.length_map]; exact hn)
    (fun j v hj => by
      rw [List.getElem?_map, Option.map_eq_some_iff] at hj
      obtain ⟨x, hx, rfl⟩ := hj
      rw [Addr.add_lit]; exact hsrc j x hx)
    (fun j hj => cellk_some hh hs (by rw [List.length_map] at hj; omega)) (fun j hj => blk_frozen hh _) (fun v hv => by
      obtain ⟨x, _, rfl⟩ := List.mem_map.1 hv
      rfl)
  rw [List.length_map] at this
  exact this
theorem heap_setCells (b : Nat) : ∀ (vs : List Value) (o : Nat) (w : World) (k : Nat), k ≠ b → (w.setCells b o vs).heap[k]? = w.heap[k]?
  | [], _, _, _, _ => rfl
  | v :: r, o, w, k, h => by rw [World.setCells, heap_setCells b r (o + 1) _ k h]; exact Below.heap_setCell _ _ _ _ h
theorem size_setCells (b : Nat) : ∀ (vs : List Value) (o : Nat) (w : World), (w.setCells b o vs).heap.size = w.heap.size
  | [], _, _ => rfl
  | v :: r, o, w => by rw [World.setCells, size_setCells b r (o + 1) _]; simp
theorem kp_setCells {X : Nat → Prop} {a : World} (b : Nat) (hb : ¬ X b) : ∀ (vs : List Value) (o : Nat) (w : World), Kp X a w → Kp X a (w.setCells b o vs)
  | [], _, _, h => h
  | v :: r, o, w, h => kp_setCells b hb r (o + 1) _ (h.set hb v)
theorem zip_moved {W1 W4 : World} {X : Nat → Prop} {g r N cap m l : Nat} {A mid B ah be A' mid' B' : List Int} {va vb : Value} (hz : ZipV W1 X g A mid B ah be (.slice (some ⟨r, 0, none⟩) (A ++ mid ++ B).length cap) va vb) (hm : mid'.length = m) (hl : A'.length + m = l) (hNN : (A' ++ mid' ++ B').length = N)
    (hk : Kp X W1 W4) (hoth : ∀ k, k ≠ g → k ≠ r → W4.heap[k]? = W1.heap[k]?) (hg : W4.heap[g]? = some (.cells #[.slice (some ⟨r, 0, none⟩) N cap, .int .i64 (A'.length : Nat), .int .i64 (l : Nat), va, vb] 68 (0, 0))) (hr : Ru W4 (.slice (some ⟨r, 0, none⟩) (A' ++ mid' ++ B').length cap) (A' ++ mid' ++ B')) : Zip W4 X g A' m B' ah be := by
  have ha : ∀ b, va.ownBlock = some b → W4.heap[b]? = W1.heap[b]? := fun b hb => hoth b (hz.ga hb) (fun e => hz.ra_ne rfl hb e.symm)
  have hb : ∀ b, vb.ownBlock = some b → W4.heap[b]? = W1.heap[b]? := fun b hb => hoth b (hz.gb hb) (fun e => hz.rb_ne rfl hb e.symm)
  refine ⟨mid', .slice (some ⟨r, 0, none⟩) N cap, va, vb, hm, fun k hX => Nat.lt_of_lt_of_le (hz.lt k hX) hk.size, hz.nx, ?_, hNN ▸ hr, rk_kept hz.ra ha, rk_kept hz.rb hb, hz.ab, fun b hb => hz.xr b hb, hz.xa, hz.xb⟩
  rw [hg, hm, ← hl]
/-- A list with some of it overwritten. -/
def ow (L : List Int) (o : Nat) (vs : List Int) : List Int := L.take o ++ (vs ++ L.drop (o + vs.length))
theorem ow_len {L vs : List Int} {o : Nat} (h : o + vs.length ≤ L.length) : (ow L o vs).length = L.length := by
  unfold ow
  rw [List.length_append, List.length_append, List.length_take, List.length_drop]
  omega
theorem ow_at {L vs : List Int} {o : Nat} (h : o + vs.length ≤ L.length) {t : Nat} {x : Int} (hx : (ow L o vs)[t]? = some x) : ((o ≤ t ∧ t < o + vs.length) ∧ vs[t - o]? = some x) ∨ (¬ (o ≤ t ∧ t < o + vs.length) ∧ L[t]? = some x) := by
  unfold ow at hx
  have hl : (L.take o).length = o := by rw [List.length_take]; omega
  by_cases h1 : t < o
  · rw [List.getElem?_append_left (by omega), List.getElem?_take, if_pos h1] at hx
    exact .inr ⟨by omega, hx⟩
  · rw [List.getElem?_append_right (by omega), hl] at hx
    by_cases h2 : t - o < vs.length
    · rw [List.getElem?_append_left h2] at hx
      exact .inl ⟨⟨by omega, by omega⟩, hx⟩
    · rw [List.getElem?_append_right (by omega), List.getElem?_drop] at hx
      refine .inr ⟨by omega, ?_⟩
      rw [← hx]
      congr 1
      omega
theorem ow_down {A mid B : List Int} {at_ d : Nat} (h : at_ ≤ A.length) (hd : d + (A.length - at_) = A.length + mid.length) : ((A ++ mid).take d).length = d ∧ A.take at_ ++ ((A ++ mid).take d).drop at_ ++ (A.drop at_ ++ B) = ow (A ++ mid ++ B) d (A.drop at_) := by
  refine ⟨by rw [List.length_take, List.length_append]; omega, ?_⟩
  have hl : (A ++ mid).length = A.length + mid.length := List.length_append
  have e1 : (A ++ mid ++ B).take d = (A ++ mid).take d := List.take_append_of_le_length (by omega)
  have e2 : (A ++ mid ++ B).drop (d + (A.drop at_).length) = B := by rw [List.length_drop, hd, ← hl, List.drop_left]
  have e3 : A.take at_ ++ ((A ++ mid).take d).drop at_ = (A ++ mid).take d := by
    have h3 := List.take_append_drop at_ ((A ++ mid).take d)
    rw [List.take_take, Nat.min_eq_left (by omega), List.take_append_of_le_length h] at h3
    exact h3
  unfold ow
  rw [e1, e2, e3]
theorem ow_up {A mid B : List Int} {k : Nat} (h : k ≤ B.length) : (A ++ B.take k) ++ ((mid ++ B).drop k).take mid.length ++ B.drop k = ow (A ++ mid ++ B) A.length (B.take k) := by
  have e0 : (B.take k).length = k := by rw [List.length_take]; omega
  have e1 : (A ++ (mid ++ B)).take A.length = A := List.take_left
  have e2 : (A ++ (mid ++ B)).drop (A.length + k) = (mid ++ B).drop k := by rw [← List.drop_drop, List.drop_left]
  have e3 : ((mid ++ B).drop k).take mid.length ++ B.drop k = (mid ++ B).drop k := by
    have h3 := List.take_append_drop mid.length ((mid ++ B).drop k)
    rw [List.drop_drop, Nat.add_comm, ← List.drop_drop, List.drop_left] at h3
    exact h3
  unfold ow
  rw [e0, List.append_assoc A mid B, e1, e2, List.append_assoc, List.append_assoc, e3]
theorem up_nums {f m at_ b l n d N cap : Nat} (h3 : f < at_) (hl : f + m = l) (hNl : l + b = N) (hat : at_ ≤ f + b) (hn : at_ - f = n) (hd : l + n = d) (hNc : N ≤ cap) (hbig : f + m + b ≤ 1000000) : at_ = f + n ∧ n ≤ b ∧ 0 < n ∧ d ≤ N ∧ d ≤ 1000000 := by
  subst hl hNl hd
  have : at_ = f + n := by omega
  clear hn
  subst this
  omega
theorem seek_done {W1 W2 : World} {X : Nat → Prop} {g r N cap m a' l' o : Nat} {A mid B ah be A' mid' B' vs : List Int} {va vb : Value} {cur : Array Value} {xf xl : Value} (hz : ZipV W1 X g A mid B ah be (.slice (some ⟨r, 0, none⟩) (A ++ mid ++ B).length cap) va vb) (hN : (A ++ mid ++ B).length = N) (hle : N ≤ cap) (hmx : cap ≤ maxLen)
    (ht : cur.toList.take (A ++ mid ++ B).length = (A ++ mid ++ B).map (Value.int .i32)) (ho : o + vs.length ≤ N) (hk : Kp X W1 W2) (hO : ∀ k, k ≠ r → W2.heap[k]? = W1.heap[k]?)
    (hR : W2.rowIs r 21 cap fun j => if o ≤ j ∧ j < o + (vs.map (Value.int .i32)).length then (vs.map (Value.int .i32))[j - o]?.getD default else cur[j]?.getD default) (hB : W2.heap[g]? = some (.cells #[.slice (some ⟨r, 0, none⟩) N cap, xf, xl, va, vb] 68 (0, 0)))
    (hm' : mid'.length = m) (he : A' ++ mid' ++ B' = ow (A ++ mid ++ B) o vs) (ha : A'.length = a') (hl : a' + m = l') :
    Zip ((W2.setCell ⟨g, 1, none⟩ (.int .i64 (a' : Nat))).setCell ⟨g, 2, none⟩ (.int .i64 (l' : Nat))) X g A' m B' ah be ∧ Kp X W1 ((W2.setCell ⟨g, 1, none⟩ (.int .i64 (a' : Nat))).setCell ⟨g, 2, none⟩ (.int .i64 (l' : Nat))) := by
  have hK : Kp X W1 ((W2.setCell ⟨g, 1, none⟩ (.int .i64 (a' : Nat))).setCell ⟨g, 2, none⟩ (.int .i64 (l' : Nat))) := (hk.set hz.nx _).set hz.nx _
  have hrg : r ≠ g := hz.gr rfl
  have hg2 : ∀ k, k ≠ g → ((W2.setCell ⟨g, 1, none⟩ (.int .i64 (a' : Nat))).setCell ⟨g, 2, none⟩ (.int .i64 (l' : Nat))).heap[k]? = W2.heap[k]? := fun k hk => (Below.heap_setCell _ _ _ _ hk).trans (Below.heap_setCell _ _ _ _ hk)
  have hlen : (A' ++ mid' ++ B').length = N := by rw [he, ow_len (by rw [hN]; exact ho), hN]
  refine ⟨zip_moved hz hm' (ha ▸ hl) hlen hK (fun k h1 h2 => (hg2 k h1).trans (hO k h2)) ?_ ?_, hK⟩
  · subst ha
    exact blk_put (blk_put hB 1 _ rfl) 2 _ rfl
  · refine rowk_in (hR.of_block (hg2 r hrg)) (by rw [hlen]; exact hle) hmx (fun t x hx => ?_)
    rw [he] at hx
    rcases ow_at (by rw [hN]; exact ho) hx with ⟨h1, h2⟩ | ⟨h1, h2⟩
    · rw [if_pos (by rw [List.length_map]; exact h1), List.getElem?_map, h2]
      rfl
    · rw [if_neg (by rw [List.length_map]; exact h1), ck_at ht h2]
      rfl
/-- The loops' start: the gap is at the place. -/
structure Sk (W : World) (X : Nat → Prop) (g : Nat) (A' : List Int) (m : Nat) (B' ah be : List Int) (wr : World) : Prop where
  zip : Zip wr X g A' m B' ah be
  tot : Tot (A' ++ B').length (fa (A' ++ B')) ah be
  kp : Kp X W wr
set_option maxRecDepth 100000 in
set_option maxHeartbeats 8000000 in
theorem seek_calls {W : World} {X : Nat → Prop} {g m : Nat} {A B : List Int} (at_ : Nat) (h : Zip W X g A m B (fa A) (fa B.reverse)) (hb : A.length + m + B.length ≤ 1000000) (hat : at_ ≤ A.length + B.length) :
    Calls Tryd.prog 35 #[.pointer (some ⟨g, 0, none⟩), .int .i64 at_] W fun e w' => e = .returned (.tuple #[]) ∧ Zip w' X g ((A ++ B).take at_) m ((A ++ B).drop at_) (fa ((A ++ B).take at_)) (fa ((A ++ B).drop at_).reverse) ∧ Kp X W w' := by
  have hL := len_z h hb
  have HZ := Lib.hid h
  have HB := Lib.hid hb
  obtain ⟨s, hs⟩ : ∃ s, A.length + B.length = s := ⟨_, rfl⟩
  rw [hs] at hL
  have HS := Lib.hid hs
  have HAT := Lib.hid hat
  have hu := Tryd.underlying68
  clear h hb hs hat
  obtain ⟨f, hf⟩ : ∃ f, A.length = f := ⟨_, rfl⟩
  have HF := Lib.hid hf
  clear hf
  obtain ⟨P, hP⟩ : ∃ P, (A ++ B).take at_ = P := ⟨_, rfl⟩
  obtain ⟨Q, hQ⟩ : ∃ Q, (A ++ B).drop at_ = Q := ⟨_, rfl⟩
  have hPl : P.length = at_ := by rw [← hP, List.length_take, List.length_append]; have := HAT.out; omega
  have hPQ : (P ++ Q).length = s := by rw [← hP, ← hQ, List.take_append_drop, List.length_append, HS.out]
  rw [hP, hQ]
  have HPL := Lib.hid hPl
  have HPQ := Lib.hid hPQ
  have HP0 := Lib.hid (And.intro hP hQ)
  clear hP hQ hPl hPQ
  go_enter Tryd.func35, Tryd.ntmps35
  go_upto_if 18 with (go_at_call 19; refine hL.mono ?_; rintro e w' ⟨rfl, q, rfl⟩; obtain ⟨W1, hW1⟩ : ∃ x, W.drewN q = x := ⟨_, rfl⟩; have HZ1 := Lib.hid (show Zip W1 X g A m B (fa A) (fa B.reverse) from hW1 ▸ HZ.out.drewN q); have HK1 := Lib.hid (show Kp X W W1 from hW1 ▸ (Kp.refl W).drewN q); rw [hW1]; have c1 : W1.cell? ⟨g, 1, none⟩ = some (.int .i64 (f : Nat)) := (by obtain ⟨mid, vr, va, vb, hm, h⟩ := HZ1.out; rw [blk_cell h.blk 1]; simp [HF.out]); clear hW1 hL)
  go_cut [] (fun wc => Aside0 (Sk W X g P m Q (fa A) (fa B.reverse) wc))
  case first =>
    by_cases h1 : at_ < f
    · have h1' : (at_ : Int) < (f : Int) := by omega
      obtain ⟨mid, vr, va, vb, hm, hz⟩ := HZ1.out
      obtain ⟨l, hl⟩ : ∃ l, f + m = l := ⟨_, rfl⟩
      have hlm : A.length + mid.length = l := by rw [HF.out, hm, hl]
      have hF := HF.out
      have hBL := HB.out
      rcases rk_out hz.room with ⟨_, h2⟩ | ⟨r, cap, cur, rfl, _, hh, hle, hmx, hs2, ht⟩
      · exfalso
        have h3 : (A ++ mid ++ B).length = 0 := by rw [h2]; rfl
        rw [List.length_append, List.length_append] at h3
        omega
      · obtain ⟨N, hN⟩ : ∃ N, (A ++ mid ++ B).length = N := ⟨_, rfl⟩
        have hNl : l ≤ N := by rw [← hN]; simp; omega
        have hblk := hz.blk
        rw [hlm, hF, hN] at hblk
        have c0 : W1.cell? ⟨g, 0, none⟩ = some (.slice (some ⟨r, 0, none⟩) N cap) := (blk_cell hblk 0).trans rfl
        have c2 : W1.cell? ⟨g, 2, none⟩ = some (.int .i64 (l : Nat)) := (blk_cell hblk 2).trans rfl
        obtain ⟨n, hn⟩ : ∃ n, f - at_ = n := ⟨_, rfl⟩
        obtain ⟨d, hd⟩ : ∃ d, l - n = d := ⟨_, rfl⟩
        have hNc : N ≤ cap := by rw [← hN]; exact hle
        have hcm : cap ≤ 9223372036854775807 := by simpa [maxLen] using hmx
        have e1 : wrap64 ((f : Int) - (at_ : Int)) = (n : Int) := w_nat (by omega) (by omega)
        have e2 : wrap64 ((l : Int) - (n : Int)) = (d : Int) := w_nat (by omega) (by omega)
        have e1' : IntKind.i64.wrap ((f : Int) - (at_ : Int)) = (n : Int) := i_nat (by omega) (by omega)
        have e2' : IntKind.i64.wrap ((l : Int) - (n : Int)) = (d : Int) := i_nat (by omega) (by omega)
        have e3 : (d : Int) ≤ (l : Int) := by omega
        have e4 : (l : Int) ≤ (cap : Int) := by omega
        have e5 : (f : Int) ≤ (cap : Int) := by omega
        have e6 : (at_ : Int) ≤ (f : Int) := by omega
        have e7 : ¬ (cap = d) := by omega
        have e8 : ¬ (cap = at_) := by omega
        have e9 : d ≤ l := by omega
        have e10 : l ≤ cap := by omega
        have e11 : at_ ≤ f := by omega
        have e12 : f ≤ cap := by omega
        have hvl : (A.drop at_).length = n := by rw [List.length_drop, hF, hn]
        have hcp := fun ty => copy_at (o := d) (dl := l - d) (dc := cap - d) (r2 := r) (o2 := at_) (sl := n) (sc := cap - at_) (W := W1.drew) (show W1.drew.heap[r]? = _ from hh) hs2 (A.drop at_) (by rw [hvl]; simp only [Nat.min_def]; split <;> omega) (by rw [hvl]; omega) (fun j x hj => by
            rw [List.getElem?_drop] at hj
            have hjl := (List.getElem?_eq_some_iff.1 hj).1
            exact (blk_cell hh (at_ + j)).trans (ck_at ht (by rw [List.append_assoc, List.getElem?_append_left hjl]; exact hj))) ty
        rw [hvl] at hcp
        go_upto_region 3 with fail
        go_still_tail 25, (by kernel_rfl)
        change wpList _ _ _ _ _ W1.drew
        refine wpList_copy_runI W1.drew rfl (.tmp 39) (.tmp 49) 33 33 rfl (.slice (some ⟨r, d, none⟩) (l - d) (cap - d)) (.slice (some ⟨r, at_, none⟩) n (cap - at_)) rfl rfl (hcp _) ?_
        have hgr : r ≠ g := hz.gr rfl
        obtain ⟨W2, hW2⟩ : ∃ x, W1.drew.setCells r d ((A.drop at_).map (Value.int .i32)) = x := ⟨_, rfl⟩
        have hK2 : Kp X W1 W2 := hW2 ▸ kp_setCells r (hz.xr r rfl) _ _ _ (Kp.refl W1).drew
        have hO2 : ∀ k, k ≠ r → W2.heap[k]? = W1.heap[k]? := fun k hk => hW2 ▸ heap_setCells r _ _ _ k hk
        have hR2 := hW2 ▸ rowIs_setCells ((A.drop at_).map (Value.int .i32)) d W1.drew _ (rowk_is (show W1.drew.heap[r]? = _ from hh) hs2)
        have hB2 := (hO2 g hgr.symm).trans hblk
        rw [hW2]
        have c1' : W2.cell? ⟨g, 1, none⟩ = some (.int .i64 (f : Nat)) := (blk_cell hB2 1).trans rfl
        have c2' : W2.cell? ⟨g, 2, none⟩ = some (.int .i64 (l : Nat)) := (blk_cell hB2 2).trans rfl
        have f1' : W2.frozen? ⟨g, 1, none⟩ = false := blk_frozen hB2 1
        have f2' : W2.frozen? ⟨g, 2, none⟩ = false := blk_frozen hB2 2
        have HX := Lib.hid (And.intro (And.intro hK2 hO2) (And.intro hR2 hB2))
        have HT := Lib.hid ht
        clear hcp hW2 hK2 hO2 hR2 hB2 hh hblk c0 c1 c2 ht
        go_wp2
        all_goals go_meet
        case rel =>
          obtain ⟨⟨hK2, hO2⟩, hR2, hB2⟩ := HX.out
          obtain ⟨q1, q2⟩ := ow_down (A := A) (mid := mid) (B := B) (at_ := at_) (d := d) (by omega) (by omega)
          have hmm : (((A ++ mid).take d).drop at_).length = m := by rw [List.length_drop, q1]; omega
          obtain ⟨z1, z2⟩ := seek_done (a' := at_) (l' := d) hz hN hNc hmx HT.out (by rw [hvl]; omega) hK2 hO2 hR2 hB2 hmm q2 (by rw [List.length_take]; omega) (by omega)
          have t1 : (A ++ B).take at_ = A.take at_ := List.take_append_of_le_length (by omega)
          have t2 : (A ++ B).drop at_ = A.drop at_ ++ B := List.drop_append_of_le_length (by omega)
          rw [HP0.out.1] at t1
          rw [HP0.out.2] at t2
          refine ⟨⟨by rw [t1, t2]; exact z1, ?_, HK1.out.trans z2⟩⟩
          rw [← HP0.out.1, ← HP0.out.2, List.take_append_drop]
          exact tot_start A B
    · have h1' : ¬ (at_ : Int) < (f : Int) := by omega
      by_cases h3 : f < at_
      · have h3' : (f : Int) < (at_ : Int) := by omega
        obtain ⟨mid, vr, va, vb, hm, hz⟩ := HZ1.out
        obtain ⟨l, hl⟩ : ∃ l, f + m = l := ⟨_, rfl⟩
        have hlm : A.length + mid.length = l := by rw [HF.out, hm, hl]
        have hF := HF.out
        have hBL := HB.out
        have hAT := HAT.out
        rcases rk_out hz.room with ⟨_, h2⟩ | ⟨r, cap, cur, rfl, _, hh, hle, hmx, hs2, ht⟩
        · exfalso
          have h3 : (A ++ mid ++ B).length = 0 := by rw [h2]; rfl
          rw [List.length_append, List.length_append] at h3
          omega
        · obtain ⟨N, hN⟩ : ∃ N, (A ++ mid ++ B).length = N := ⟨_, rfl⟩
          have hNl : l + B.length = N := by rw [← hN, List.length_append, List.length_append]; omega
          have hblk := hz.blk
          rw [hlm, hF, hN] at hblk
          have c0 : W1.cell? ⟨g, 0, none⟩ = some (.slice (some ⟨r, 0, none⟩) N cap) := (blk_cell hblk 0).trans rfl
          have c2 : W1.cell? ⟨g, 2, none⟩ = some (.int .i64 (l : Nat)) := (blk_cell hblk 2).trans rfl
          obtain ⟨n, hn⟩ : ∃ n, at_ - f = n := ⟨_, rfl⟩
          obtain ⟨d, hd⟩ : ∃ d, l + n = d := ⟨_, rfl⟩
          have hNc : N ≤ cap := by rw [← hN]; exact hle
          have hcm : cap ≤ 9223372036854775807 := by simpa [maxLen] using hmx
          rw [hF] at hAT hBL
          obtain ⟨q1, q2, q3, q4, q5⟩ := up_nums h3 hl hNl hAT hn hd hNc hBL
          have q6 : d ≤ cap := Nat.le_trans q4 hNc
          have HQ := Lib.hid (And.intro (And.intro hl hNl) (And.intro hF hm))
          clear hNl hF hAT hBL hl hm h3 hlm
          have a1 : (at_ : Int) - (f : Int) = (n : Int) := by omega
          have a2 : (l : Int) + (n : Int) = (d : Int) := by omega
          have a3 : n ≤ 1000000000 := by omega
          have a4 : d ≤ 1000000000 := by omega
          have e3 : (l : Int) ≤ (d : Int) := by omega
          have e4 : (d : Int) ≤ (cap : Int) := by omega
          have e9 : l ≤ d := by omega
          have e11 : f ≤ at_ := by omega
          have e6 : (f : Int) ≤ (at_ : Int) := by omega
          have e7 : ¬ (cap = l) := by omega
          have e12 : at_ ≤ cap := by have := HQ.out.1.1; omega
          have e5 : (at_ : Int) ≤ (cap : Int) := by omega
          have e8 : ¬ (cap = f) := by omega
          have hvl : (B.take n).length = n := by rw [List.length_take]; exact Nat.min_eq_left q2
          have hcp := fun ty => copy_at (o := f) (dl := n) (dc := cap - f) (r2 := r) (o2 := l) (sl := d - l) (sc := cap - l) (W := W1.drew) (show W1.drew.heap[r]? = _ from hh) hs2 (B.take n) (by rw [hvl]; simp only [Nat.min_def]; split <;> omega) (by rw [hvl]; omega) (fun j x hj => by
              have hjl := (List.getElem?_eq_some_iff.1 hj).1
              rw [List.getElem?_take, if_pos (by omega)] at hj
              refine (blk_cell hh (l + j)).trans (ck_at ht ?_)
              have hAm : (A ++ mid).length = l := by rw [List.length_append, HQ.out.2.1, HQ.out.2.2, HQ.out.1.1]
              rw [List.getElem?_append_right (by rw [hAm]; exact Nat.le_add_right _ _), hAm, Nat.add_sub_cancel_left]
              exact hj) ty
          rw [hvl] at hcp
          have e1 : wrap64 ((at_ : Int) - (f : Int)) = (n : Int) := w_nat a1 a3
          have e2 : wrap64 ((l : Int) + (n : Int)) = (d : Int) := w_nat a2 a4
          have e1' : IntKind.i64.wrap ((at_ : Int) - (f : Int)) = (n : Int) := i_nat a1 a3
          have e2' : IntKind.i64.wrap ((l : Int) + (n : Int)) = (d : Int) := i_nat a2 a4
          have HQ1 := Lib.hid q1
          clear a1 a2 a3 a4 q1
          go_upto_region 7 with fail
          go_still_tail 25, (by kernel_rfl)
          change wpList _ _ _ _ _ W1.drew
          refine wpList_copy_runI W1.drew rfl (.tmp 85) (.tmp 100) 33 33 rfl (.slice (some ⟨r, f, none⟩) n (cap - f)) (.slice (some ⟨r, l, none⟩) (d - l) (cap - l)) rfl rfl (hcp _) ?_
          have hgr : r ≠ g := hz.gr rfl
          obtain ⟨W2, hW2⟩ : ∃ x, W1.drew.setCells r f ((B.take n).map (Value.int .i32)) = x := ⟨_, rfl⟩
          have hK2 : Kp X W1 W2 := hW2 ▸ kp_setCells r (hz.xr r rfl) _ _ _ (Kp.refl W1).drew
          have hO2 : ∀ k, k ≠ r → W2.heap[k]? = W1.heap[k]? := fun k hk => hW2 ▸ heap_setCells r _ _ _ k hk
          have hR2 := hW2 ▸ rowIs_setCells ((B.take n).map (Value.int .i32)) f W1.drew _ (rowk_is (show W1.drew.heap[r]? = _ from hh) hs2)
          have hB2 := (hO2 g hgr.symm).trans hblk
          rw [hW2]
          have c1' : W2.cell? ⟨g, 1, none⟩ = some (.int .i64 (f : Nat)) := (blk_cell hB2 1).trans rfl
          have c2' : W2.cell? ⟨g, 2, none⟩ = some (.int .i64 (l : Nat)) := (blk_cell hB2 2).trans rfl
          have f1' : W2.frozen? ⟨g, 1, none⟩ = false := blk_frozen hB2 1
          have f2' : W2.frozen? ⟨g, 2, none⟩ = false := blk_frozen hB2 2
          have HX := Lib.hid (And.intro (And.intro hK2 hO2) (And.intro hR2 hB2))
          have HT := Lib.hid ht
          clear hcp hW2 hK2 hO2 hR2 hB2 hh hblk c0 c1 c2 ht
          go_wp2
          all_goals go_meet
          case rel =>
            clear e1 e2 e1' e2'
            have q1 := HQ1.out
            obtain ⟨⟨hK2, hO2⟩, hR2, hB2⟩ := HX.out
            have hF := HQ.out.2.1
            have hm := HQ.out.2.2
            have hl := HQ.out.1.1
            have q8 := ow_up (A := A) (mid := mid) (B := B) (k := n) q2
            rw [hF] at q8
            have hmm : (((mid ++ B).drop n).take mid.length).length = m := by rw [List.length_take, List.length_drop, List.length_append]; omega
            obtain ⟨z1, z2⟩ := seek_done (a' := at_) (l' := d) hz hN hNc hmx HT.out (by rw [hvl]; omega) hK2 hO2 hR2 hB2 hmm q8 (by rw [List.length_append, hvl, hF, q1]) (by omega)
            have t1 : (A ++ B).take at_ = A ++ B.take n := by rw [show at_ = A.length + n by omega, List.take_length_add_append]
            have t2 : (A ++ B).drop at_ = B.drop n := by rw [show at_ = A.length + n by omega, List.drop_length_add_append]
            rw [HP0.out.1] at t1
            rw [HP0.out.2] at t2
            refine ⟨⟨by rw [t1, t2]; exact z1, ?_, HK1.out.trans z2⟩⟩
            rw [← HP0.out.1, ← HP0.out.2, List.take_append_drop]
            exact tot_start A B
      · have h3' : ¬ (f : Int) < (at_ : Int) := by omega
        go_wp2
        all_goals go_meet
        case rel =>
          have hF := HF.out
          have t1 : (A ++ B).take at_ = A := by rw [show at_ = A.length by omega, List.take_left]
          have t2 : (A ++ B).drop at_ = B := by rw [show at_ = A.length by omega, List.drop_left]
          rw [HP0.out.1] at t1
          rw [HP0.out.2] at t2
          refine ⟨⟨by rw [t1, t2]; exact HZ1.out, ?_, HK1.out⟩⟩
          rw [← HP0.out.1, ← HP0.out.2, List.take_append_drop]
          exact tot_start A B
  case rest =>
    obtain ⟨HK0⟩ := hcut
    have hsb : s ≤ 1000000 := by have := HS.out; have := HB.out; omega
    clear c1
    go_upto_block 0 with fail
    go_cut [] (fun wc => Aside0 (∃ ah be, Sk W X g P m Q ah be wc ∧ ∀ x, ah.getLast? = some x → x < (at_ : Int)))
    case first =>
      go_wp2
      go_loopg [7, 8] (fa A).length (fun k u7 u8 wr => Aside0 (∃ ah be, ah.length = k ∧ Sk W X g P m Q ah be wr))
      case atStart => exact ⟨fa A, fa B.reverse, rfl, HK0⟩
      case round =>
        obtain ⟨ah, be, hk, HS1⟩ := hrel.out
        have htl := tot_len HS1.tot
        have hfl := fa_len (P ++ Q)
        rw [HPQ.out] at hfl
        rcases List.eq_nil_or_concat ah with h0 | ⟨ys, x, h0⟩
        · subst h0
          have hT := top_a HS1.zip (by simp)
          have HH := Lib.hid HS1
          clear htl hfl HS1 hk hrel
          go_wp2_with (go_at_call 48; refine hT.mono ?_; rintro e w2 ⟨rfl, q, rfl⟩)
          all_goals go_meet
          case rel => exact ⟨[], be, ⟨HH.out.zip.drewN q, HH.out.tot, HH.out.kp.drewN q⟩, fun x hx => by cases hx⟩
        · rw [List.concat_eq_append] at h0
          subst h0
          have hT := top_a HS1.zip (by omega)
          rw [show (ys ++ [x]).getLast? = some x by simp] at hT
          have hx0 : 0 ≤ x ∧ x < (s : Int) := by
            have hm := fa_mem (show x ∈ fa (P ++ Q) by have := HS1.tot; unfold Tot at this; rw [← this]; simp)
            rw [HPQ.out] at hm
            exact hm
          obtain ⟨s1, hs1⟩ : ∃ s1, (s : Int) - 1 = s1 := ⟨_, rfl⟩
          obtain ⟨z, hz⟩ : ∃ z, s1 - x = z := ⟨_, rfl⟩
          have a1 : wrap64 ((s : Int) - 1) = s1 := hs1 ▸ w_id (by omega) (by omega)
          have a2 : wrap64 (s1 - x) = z := hz ▸ w_id (by omega) (by omega)
          have a3 : IntKind.i64.wrap ((s : Int) - 1) = s1 := hs1 ▸ i_id (by omega) (by omega)
          have a4 : IntKind.i64.wrap (s1 - x) = z := hz ▸ i_id (by omega) (by omega)
          have hyl : ys.length + 1 = gk := by rw [← hk]; simp
          have hyl2 : ys.length ≤ 1099511627776 := by rw [List.length_append] at htl; omega
          have hbl2 : be.length ≤ 1099511627776 := by omega
          have HH := Lib.hid HS1
          have HZZ := Lib.hid (And.intro hs1 hz)
          have HYL := Lib.hid hyl
          by_cases hxa : x < (at_ : Int)
          · clear htl hfl HS1 hk hrel hs1 hz a1 a2 a3 a4 hyl hx0
            go_wp2_with (go_at_call 48; refine hT.mono ?_; rintro e w2 ⟨rfl, q, rfl⟩)
            all_goals go_meet
            case rel => exact ⟨ys ++ [x], be, ⟨HH.out.zip.drewN q, HH.out.tot, HH.out.kp.drewN q⟩, fun y hy => by rw [show (ys ++ [x]).getLast? = some x by simp] at hy; cases hy; exact hxa⟩
          · clear htl hfl HS1 hk hrel hs1 hz hyl hx0
            go_upto_region 11 with (go_at_call 48; refine hT.mono ?_; rintro e w2 ⟨rfl, q, rfl⟩)
            obtain ⟨wr1, hwr1⟩ : ∃ w1, wr.drewN q = w1 := ⟨_, rfl⟩
            have HZ1 : Hid (Zip wr1 X g P m Q (ys ++ [x]) be) := Lib.hid (hwr1 ▸ HH.out.zip.drewN q)
            have HK1 : Hid (Kp X W wr1) := Lib.hid (hwr1 ▸ HH.out.kp.drewN q)
            rw [hwr1]
            clear hwr1 hT
            have hpop := pop_a HZ1.out.drew hyl2
            go_region_held3 (fun w' => True) (trivial) ((first
              | (go_at_call 42; refine hpop.mono ?_; rintro e w3 ⟨rfl, hz3, hk3⟩; have hpush := push_b z hz3 hbl2; have HZ3 := Lib.hid hz3; have HK3 := Lib.hid hk3; clear hz3 hk3)
              | (go_at_call 37; (try rw [a3, a4]); refine hpush.mono ?_; rintro e w4 ⟨rfl, hz4, hk4⟩)))
            go_wp2
            go_roundg ys.length
            case measure => have := HYL.out; omega
            case rel =>
              refine ⟨ys, be ++ [z], rfl, hz4, ?_, (HK1.out.drew.trans HK3.out).trans hk4⟩
              have := tot_down HH.out.tot
              rw [HPQ.out, HZZ.out.1, HZZ.out.2] at this
              rw [HPQ.out]
              exact this
    case rest =>
      obtain ⟨ah0, be0, HS0, ha0⟩ := hcut.out
      have hfin : ∀ wz ah be, Sk W X g P m Q ah be wz → (∀ x, ah.getLast? = some x → x < (at_ : Int)) → (∀ y, be.getLast? = some y → (at_ : Int) ≤ (s : Int) - 1 - y) → Zip wz X g P m Q (fa P) (fa Q.reverse) ∧ Kp X W wz := fun wz ah be h1 h2 h3 => by
        obtain ⟨e1, e2⟩ := tot_end h1.tot (by rw [HPL.out]; exact h2) (by rw [HPL.out, HPQ.out]; exact h3)
        subst e1 e2
        exact ⟨h1.zip, h1.kp⟩
      have HFIN := Lib.hid hfin
      have HH0 := Lib.hid (And.intro HS0 ha0)
      clear hcut HK0 hfin HS0 ha0
      go_wp2
      go_loopg [9, 10] be0.length (fun k u9 u10 wr => Aside0 (∃ ah be, be.length = k ∧ Sk W X g P m Q ah be wr ∧ ∀ x, ah.getLast? = some x → x < (at_ : Int)))
      case atStart => exact ⟨ah0, be0, rfl, HH0.out.1, HH0.out.2⟩
      case round =>
        obtain ⟨ah, be, hk, HS1, ha⟩ := hrel.out
        have htl := tot_len HS1.tot
        have hfl := fa_len (P ++ Q)
        rw [HPQ.out] at hfl
        have HA := Lib.hid ha
        clear ha
        rcases List.eq_nil_or_concat be with h0 | ⟨ys, x, h0⟩
        · subst h0
          have hT := top_b HS1.zip (by simp)
          have HH := Lib.hid HS1
          clear htl hfl HS1 hk hrel
          go_wp2_with (go_at_call 48; refine hT.mono ?_; rintro e w2 ⟨rfl, q, rfl⟩)
          go_end0
          exact ⟨rfl, HFIN.out _ ah [] ⟨HH.out.zip.drewN q, HH.out.tot, HH.out.kp.drewN q⟩ HA.out (fun y hy => by cases hy)⟩
        · rw [List.concat_eq_append] at h0
          subst h0
          have hT := top_b HS1.zip (by omega)
          rw [show (ys ++ [x]).getLast? = some x by simp] at hT
          have hx0 : 0 ≤ x ∧ x < (s : Int) := by
            have hm := tot_last HS1.tot (fun x hx => fa_mem hx) (show x ∈ ys ++ [x] by simp)
            rw [HPQ.out] at hm
            exact hm
          obtain ⟨s1, hs1⟩ : ∃ s1, (s : Int) - 1 = s1 := ⟨_, rfl⟩
          obtain ⟨z, hz⟩ : ∃ z, s1 - x = z := ⟨_, rfl⟩
          have a1 : wrap64 ((s : Int) - 1) = s1 := hs1 ▸ w_id (by omega) (by omega)
          have a2 : wrap64 (s1 - x) = z := hz ▸ w_id (by omega) (by omega)
          have a3 : IntKind.i64.wrap ((s : Int) - 1) = s1 := hs1 ▸ i_id (by omega) (by omega)
          have a4 : IntKind.i64.wrap (s1 - x) = z := hz ▸ i_id (by omega) (by omega)
          have hyl : ys.length + 1 = gk := by rw [← hk]; simp
          have hyl2 : ys.length ≤ 1099511627776 := by rw [List.length_append] at htl; omega
          have hbl2 : ah.length ≤ 1099511627776 := by omega
          have HH := Lib.hid HS1
          have HZZ := Lib.hid (And.intro hs1 hz)
          have HYL := Lib.hid hyl
          by_cases hxa : (at_ : Int) ≤ z
          · clear htl hfl HS1 hk hrel hs1 hz hyl hx0
            go_wp2_with (go_at_call 48; refine hT.mono ?_; rintro e w2 ⟨rfl, q, rfl⟩)
            go_end0
            exact ⟨rfl, HFIN.out _ ah (ys ++ [x]) ⟨HH.out.zip.drewN q, HH.out.tot, HH.out.kp.drewN q⟩ HA.out (fun y hy => by rw [show (ys ++ [x]).getLast? = some x by simp] at hy; cases hy; rw [HZZ.out.1, HZZ.out.2]; exact hxa)⟩
          · clear htl hfl HS1 hk hrel hs1 hz hyl hx0
            go_upto_region 14 with (go_at_call 48; refine hT.mono ?_; rintro e w2 ⟨rfl, q, rfl⟩)
            obtain ⟨wr1, hwr1⟩ : ∃ w1, wr.drewN q = w1 := ⟨_, rfl⟩
            have HZ1 : Hid (Zip wr1 X g P m Q ah (ys ++ [x])) := Lib.hid (hwr1 ▸ HH.out.zip.drewN q)
            have HK1 : Hid (Kp X W wr1) := Lib.hid (hwr1 ▸ HH.out.kp.drewN q)
            rw [hwr1]
            clear hwr1 hT
            have hpop := pop_b HZ1.out.drew hyl2
            go_region_held3 (fun w' => True) (trivial) ((first
              | (go_at_call 42; refine hpop.mono ?_; rintro e w3 ⟨rfl, hz3, hk3⟩; have hpush := push_a z hz3 hbl2; have HZ3 := Lib.hid hz3; have HK3 := Lib.hid hk3; clear hz3 hk3)
              | (go_at_call 37; (try rw [a3, a4]); refine hpush.mono ?_; rintro e w4 ⟨rfl, hz4, hk4⟩)))
            go_wp2
            go_roundg ys.length
            case measure => have := HYL.out; omega
            case rel =>
              refine ⟨ah ++ [z], ys, rfl, ⟨hz4, ?_, (HK1.out.drew.trans HK3.out).trans hk4⟩, fun y hy => ?_⟩
              · have := tot_up HH.out.tot
                rw [HPQ.out, HZZ.out.1, HZZ.out.2] at this
                rw [HPQ.out]
                exact this
              · rw [show (ah ++ [z]).getLast? = some z by simp] at hy
                cases hy
                omega
end Go.Proofs.YtfhnepihbofabaaDoor.X
