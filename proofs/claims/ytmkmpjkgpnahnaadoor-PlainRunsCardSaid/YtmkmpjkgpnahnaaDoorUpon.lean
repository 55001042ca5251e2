/-
  plain.upon, walked by hand: runes behind a deed: by this session. Conditions: the two tables of unicode/utf8 as they are laid; at most 2^35 runes.
-/
import Derived.Test.YtmkmpjkgpnahnaaDoorSl
import Derived.Test.YtmkmpjkgpnahnaaDoorSplit
import Derived.Test.YtmkmpjkgpnahnaaDoorIncl
import Derived.Deep.RegionHeld3
import Derived.Laws.EntriesVeiled
import Derived.Deep.QuietTactic
import Derived.BigQuiet
namespace Go.Proofs.YtmkmpjkgpnahnaaDoor.X
open Go Go.RowKit Go.Shelf Go.Proofs.YtmkmpjkgpnahnaaDoorW.PrintWords Go.Proofs.YtmkmpjkgpnahnaaDoor.P
set_option linter.unusedVariables false
theorem ucell {W w1 : World} (hb : Below W.heap.size W w1) : (∀ b o, b < W.heap.size → w1.cell? ⟨b, o, none⟩ = W.cell? ⟨b, o, none⟩) ∧ (∀ b o, b < W.heap.size → w1.frozen? ⟨b, o, none⟩ = W.frozen? ⟨b, o, none⟩) := ⟨fun b o h => hb.cell (p := ⟨b, o, none⟩) h, fun b o h => hb.frozen (p := ⟨b, o, none⟩) h⟩
set_option maxRecDepth 100000 in
set_option maxHeartbeats 8000000 in
theorem upon_no (A : Option Addr) (c m : Nat) (s kd p n : Int) (t : ByteArray) (w : World) (hT : Aside0 (XAmb w)) (hm : mayB s kd p n t m = false) :
    Calls Tryd.prog 33 #[.slice A m c, .agg #[.int .i64 s, .int .i64 kd, .int .i64 p, .int .i64 n, .string t]] w fun e w' => e = .returned (.tuple #[.slice none 0 0, .int .i64 1]) ∧ Below w.heap.size w w' := by
  have HM := Lib.hid (may_f s kd p n t m)
  rw [hm] at HM
  clear hm
  have HB0 := Lib.hid ((Bxs.start w).new #[.int .i64 s, .int .i64 kd, .int .i64 p, .int .i64 n, .string t] 33)
  have hu33 := Tryd.underlying33
  go_enter Tryd.func33, Tryd.ntmps33
  go_upto_region 1 with fail
  obtain ⟨W1, hW1⟩ : ∃ x, w.alloc (.cells #[.int .i64 s, .int .i64 kd, .int .i64 p, .int .i64 n, .string t] 33) = x := ⟨_, rfl⟩
  have HX : Hid (Bxs w [(w.heap.size, #[.int .i64 s, .int .i64 kd, .int .i64 p, .int .i64 n, .string t], 33)] W1) := by
    rw [← hW1]
    exact HB0
  rw [hW1]
  clear hW1 HB0
  have c0 : W1.cell? ⟨w.heap.size, 0, none⟩ = some (.int .i64 s) := (HX.out.cell 0 rfl 0).trans rfl
  have c1 : W1.cell? ⟨w.heap.size, 1, none⟩ = some (.int .i64 kd) := (HX.out.cell 0 rfl 1).trans rfl
  have c2 : W1.cell? ⟨w.heap.size, 2, none⟩ = some (.int .i64 p) := (HX.out.cell 0 rfl 2).trans rfl
  have c3 : W1.cell? ⟨w.heap.size, 3, none⟩ = some (.int .i64 n) := (HX.out.cell 0 rfl 3).trans rfl
  have c4 : W1.cell? ⟨w.heap.size, 4, none⟩ = some (.string t) := (HX.out.cell 0 rfl 4).trans rfl
  go_wp2_with fail
  refine (plain_May.calls 2 s kd p n t m false _ (XAmb_step hT HX.out.below) HM.out).mono ?_
  rintro e W2 ⟨rfl, hb⟩
  have HY := Lib.hid (HX.out.keep hb)
  clear HX c0 c1 c2 c3 c4 hb
  go_wp2
  go_ret2
  exact ⟨rfl, HY.out.below⟩
set_option maxRecDepth 100000 in
set_option maxHeartbeats 8000000 in
theorem upon_del (A : Option Addr) (c m : Nat) (l : List Int) (s : Int) (pn nn : Nat) (t : ByteArray) (w : World) (hT : Aside0 (XAmb w)) (hC : Kd.C (Kd.int .i32) w A m l) (hl : l.length = m) (hc : m ≤ c) (hbig : m ≤ 34359738368) (hm : mayB s 2 pn nn t m = true) (hpn : pn + nn ≤ m) :
    Calls Tryd.prog 33 #[.slice A m c, .agg #[.int .i64 s, .int .i64 2, .int .i64 pn, .int .i64 nn, .string t]] w fun e w' => ∃ v, e = .returned (.tuple #[v, .int .i64 0]) ∧ Rr w' w.heap.size v (l.take pn ++ l.drop (pn + nn)) ∧ Below w.heap.size w w' := by
  have HM := Lib.hid (may_f s 2 pn nn t m)
  rw [hm] at HM
  have HC := Lib.hid (And.intro hC hl)
  clear hm hC hl
  have HB0 := Lib.hid ((Bxs.start w).new #[.int .i64 s, .int .i64 2, .int .i64 pn, .int .i64 nn, .string t] 33)
  have hu33 := Tryd.underlying33
  go_enter Tryd.func33, Tryd.ntmps33
  go_upto_region 1 with fail
  obtain ⟨W1, hW1⟩ : ∃ x, w.alloc (.cells #[.int .i64 s, .int .i64 2, .int .i64 pn, .int .i64 nn, .string t] 33) = x := ⟨_, rfl⟩
  have HX : Hid (Bxs w [(w.heap.size, #[.int .i64 s, .int .i64 2, .int .i64 pn, .int .i64 nn, .string t], 33)] W1) := by
    rw [← hW1]
    exact HB0
  rw [hW1]
  clear hW1 HB0
  have c0 : W1.cell? ⟨w.heap.size, 0, none⟩ = some (.int .i64 s) := (HX.out.cell 0 rfl 0).trans rfl
  have c1 : W1.cell? ⟨w.heap.size, 1, none⟩ = some (.int .i64 2) := (HX.out.cell 0 rfl 1).trans rfl
  have c2 : W1.cell? ⟨w.heap.size, 2, none⟩ = some (.int .i64 pn) := (HX.out.cell 0 rfl 2).trans rfl
  have c3 : W1.cell? ⟨w.heap.size, 3, none⟩ = some (.int .i64 nn) := (HX.out.cell 0 rfl 3).trans rfl
  have c4 : W1.cell? ⟨w.heap.size, 4, none⟩ = some (.string t) := (HX.out.cell 0 rfl 4).trans rfl
  go_wp2_with fail
  refine (plain_May.calls 2 s 2 pn nn t m true _ (XAmb_step hT HX.out.below) HM.out).mono ?_
  rintro e W2 ⟨rfl, hb⟩
  have HY := Lib.hid (HX.out.keep hb)
  clear HX c0 c1 c2 c3 c4 hb
  have c1 : W2.cell? ⟨w.heap.size, 1, none⟩ = some (.int .i64 2) := (HY.out.cell 0 rfl 1).trans rfl
  have c2 : W2.cell? ⟨w.heap.size, 2, none⟩ = some (.int .i64 pn) := (HY.out.cell 0 rfl 2).trans rfl
  have c3 : W2.cell? ⟨w.heap.size, 3, none⟩ = some (.int .i64 nn) := (HY.out.cell 0 rfl 3).trans rfl
  have l1 : w.heap.size < W2.heap.size := HY.out.lt (x := (w.heap.size, #[.int .i64 s, .int .i64 2, .int .i64 pn, .int .i64 nn, .string t], 33)) (by simp)
  have wr1 : IntKind.i64.wrap ((pn : Int) + (nn : Int)) = ((pn + nn : Nat) : Int) := by rw [IntKind.wrap_i64]; omega
  go_upto_region 4 with fail
  go_region_held3 (fun w' => w'.cell? ⟨w.heap.size, 2, none⟩ = some (.int .i64 pn) ∧ w'.cell? ⟨w.heap.size, 3, none⟩ = some (.int .i64 nn)) (go_keep) ((first
    | (go_at_call 44; have hC8 := Kd.C_below HC.out.1 (below_step HY.out.below (Below.refl W2.heap.size W2).drew); have hl8 := HC.out.2; subst hl8; refine (clone_calls A c l _ hC8 hc (by omega)).mono ?_; rintro e w8 ⟨v8, rfl, hR8, hb8⟩; have hE8 := below_step (Below.refl W2.heap.size W2).drew hb8; obtain ⟨hd8, hf8⟩ := ucell hE8)
    | (go_at_call 43; refine (delete_calls _ v8 l pn (pn + nn) _ hR8 (by omega) (by omega) (by omega)).mono ?_; rintro e w9 ⟨v9, rfl, hR9, hb9⟩; have hE9 : Below W2.heap.size W2 w9 := hb9 W2 hE8; clear hd8 hf8; obtain ⟨hd9, hf9⟩ := ucell hE9)))
  go_wp2
  go_ret2
  exact ⟨_, rfl, Kd.R_lower hR9 HY.out.below.size, below_step HY.out.below hE9⟩
set_option maxRecDepth 100000 in
set_option maxHeartbeats 8000000 in
theorem upon_ins (A : Option Addr) (c m : Nat) (l ts : List Int) (s : Int) (pn : Nat) (n : Int) (t : ByteArray) (w : World) (hT : Aside0 (XAmb w)) (hC : Kd.C (Kd.int .i32) w A m l) (hl : l.length = m) (hc : m ≤ c) (hbig : m ≤ 34359738368) (hm : mayB s 1 pn n t m = true) (hpn : pn ≤ m) (hts : textOf t = some ts) (hsz : t.size ≤ 800) (htl : ts.length ≤ 800) :
    Calls Tryd.prog 33 #[.slice A m c, .agg #[.int .i64 s, .int .i64 1, .int .i64 pn, .int .i64 n, .string t]] w fun e w' => ∃ v, e = .returned (.tuple #[v, .int .i64 0]) ∧ Rr w' w.heap.size v (l.take pn ++ (ts ++ l.drop pn)) ∧ Below w.heap.size w w' := by
  have HM := Lib.hid (may_f s 1 pn n t m)
  rw [hm] at HM
  have HC := Lib.hid (And.intro hC hl)
  have HS : Hid (runes_Split.f t = some (ts, 0)) := by
    show runes_Split.f t = some (ts, 0)
    unfold runes_Split.f
    rw [if_pos (by omega), hts]
  have HTL := Lib.hid htl
  clear hm hC hl hts htl hsz
  have HB0 := Lib.hid ((Bxs.start w).new #[.int .i64 s, .int .i64 1, .int .i64 pn, .int .i64 n, .string t] 33)
  have hu33 := Tryd.underlying33
  go_enter Tryd.func33, Tryd.ntmps33
  go_upto_region 1 with fail
  obtain ⟨W1, hW1⟩ : ∃ x, w.alloc (.cells #[.int .i64 s, .int .i64 1, .int .i64 pn, .int .i64 n, .string t] 33) = x := ⟨_, rfl⟩
  have HX : Hid (Bxs w [(w.heap.size, #[.int .i64 s, .int .i64 1, .int .i64 pn, .int .i64 n, .string t], 33)] W1) := by
    rw [← hW1]
    exact HB0
  rw [hW1]
  clear hW1 HB0
  have c0 : W1.cell? ⟨w.heap.size, 0, none⟩ = some (.int .i64 s) := (HX.out.cell 0 rfl 0).trans rfl
  have c1 : W1.cell? ⟨w.heap.size, 1, none⟩ = some (.int .i64 1) := (HX.out.cell 0 rfl 1).trans rfl
  have c2 : W1.cell? ⟨w.heap.size, 2, none⟩ = some (.int .i64 pn) := (HX.out.cell 0 rfl 2).trans rfl
  have c3 : W1.cell? ⟨w.heap.size, 3, none⟩ = some (.int .i64 n) := (HX.out.cell 0 rfl 3).trans rfl
  have c4 : W1.cell? ⟨w.heap.size, 4, none⟩ = some (.string t) := (HX.out.cell 0 rfl 4).trans rfl
  go_wp2_with fail
  refine (plain_May.calls 2 s 1 pn n t m true _ (XAmb_step hT HX.out.below) HM.out).mono ?_
  rintro e W2 ⟨rfl, hb⟩
  have HY := Lib.hid (HX.out.keep hb)
  clear HX c0 c1 c2 c3 c4 hb
  have c1 : W2.cell? ⟨w.heap.size, 1, none⟩ = some (.int .i64 1) := (HY.out.cell 0 rfl 1).trans rfl
  have c4 : W2.cell? ⟨w.heap.size, 4, none⟩ = some (.string t) := (HY.out.cell 0 rfl 4).trans rfl
  go_wp2_with fail
  refine (runes_Split.calls t ts 0 _ (XAmb_step hT HY.out.below) HS.out).mono ?_
  rintro e W7 ⟨v7, rfl, h7, hb7⟩
  have HZ := Lib.hid (HY.out.keep hb7)
  have H7 := Lib.hid (And.intro h7 HY.out.below.size)
  clear HY c1 c4 hb7 h7
  have c2 : W7.cell? ⟨w.heap.size, 2, none⟩ = some (.int .i64 pn) := (HZ.out.cell 0 rfl 2).trans rfl
  have l1 : w.heap.size < W7.heap.size := HZ.out.lt (x := (w.heap.size, #[.int .i64 s, .int .i64 1, .int .i64 pn, .int .i64 n, .string t], 33)) (by simp)
  go_upto_region 6 with fail
  go_region_held3 (fun w' => w'.cell? ⟨w.heap.size, 2, none⟩ = some (.int .i64 pn)) (go_keep) ((first
    | (go_at_call 44; have hC8 := Kd.C_below HC.out.1 (below_step HZ.out.below (Below.refl W7.heap.size W7).drew); have hl8 := HC.out.2; subst hl8; refine (clone_calls A c l _ hC8 hc (by omega)).mono ?_; rintro e w8 ⟨v8, rfl, hR8, hb8⟩; have hE8 := below_step (Below.refl W7.heap.size W7).drew hb8; obtain ⟨hd8, hf8⟩ := ucell hE8)
    | (go_at_call 45; refine (insert_calls _ _ v8 v7 l ts pn _ hR8 (Kd.R_below H7.out.1 hE8) (fun k hk he => Nat.not_le_of_lt (Kd.R_lt H7.out.1 k he) (Kd.R_base hR8 k hk)) (by omega) hE8.size (by have := HTL.out; omega)).mono ?_; rintro e w9 ⟨v9, rfl, hR9, hb9⟩; have hE9 : Below W7.heap.size W7 w9 := hb9 W7 hE8; clear hd8 hf8; obtain ⟨hd9, hf9⟩ := ucell hE9)))
  go_wp2
  go_ret2
  exact ⟨_, rfl, Kd.R_lower hR9 HZ.out.below.size, below_step HZ.out.below hE9⟩
/-- What upon tells. -/
def uponP (l : List Int) (s kd p n : Int) (t : ByteArray) : List Int × Int :=
  if mayB s kd p n t l.length = true then (if kd = 2 then (l.take p.toNat ++ l.drop (p.toNat + n.toNat), 0) else (l.take p.toNat ++ ((textOf t).getD [] ++ l.drop p.toNat), 0)) else ([], 1)
def plain_upon.f (l : List Int) (s kd p n : Int) (t : ByteArray) : Option (List Int × Int) := if l.length ≤ 34359738368 then some (uponP l s kd p n t) else none
theorem plain_upon.calls (A0 : Option Addr) (c0 : Nat) (l0 : List Int) (s kd p n : Int) (t : ByteArray) (r1 : List Int) (r2 : Int) (w : World) (hT : Aside0 (XAmb w)) (hr0 : Kd.C (Kd.int .i32) w A0 l0.length l0) (hc0 : l0.length ≤ c0) (h : plain_upon.f l0 s kd p n t = some (r1, r2)) :
    Calls Tryd.prog 33 #[.slice A0 l0.length c0, .agg #[.int .i64 s, .int .i64 kd, .int .i64 p, .int .i64 n, .string t]] w fun e w' => ∃ v0_ : Value, e = .returned (.tuple #[v0_, .int .i64 r2]) ∧ Kd.R (Kd.int .i32) 21 w' w.heap.size (fun _ => True) v0_ r1 ∧ Below w.heap.size w w' := by
  unfold plain_upon.f at h
  split at h
  · rename_i hbig
    have h := Option.some.inj h
    unfold uponP at h
    by_cases hm : mayB s kd p n t l0.length = true
    · rw [if_pos hm] at h
      have hm' := hm
      unfold mayB at hm'
      rw [decide_eq_true_eq] at hm'
      obtain ⟨a1, a2, a3, a4, a5⟩ := hm'
      rcases a5 with a5 | a5
      · obtain ⟨rfl, b1, b2, b3, b4, b5, b6⟩ := a5
        rw [if_neg (by decide)] at h
        obtain ⟨pn, rfl⟩ : ∃ pn : Nat, p = (pn : Int) := ⟨p.toNat, by omega⟩
        obtain ⟨ts, hts⟩ : ∃ ts, textOf t = some ts := by
          cases ht : textOf t with
          | none => rw [lenU_of_none ht] at b5; omega
          | some ts => exact ⟨ts, rfl⟩
        have hlen := lenU_of_some hts
        rw [hts] at h
        simp only [Option.getD_some, Int.toNat_natCast, Prod.mk.injEq] at h
        obtain ⟨rfl, rfl⟩ := h
        exact upon_ins A0 c0 l0.length l0 ts s pn n t w hT hr0 rfl hc0 hbig hm (by omega) hts b4 (by omega)
      · obtain ⟨rfl, b1, b2, b3, b4, b5⟩ := a5
        rw [if_pos rfl] at h
        obtain ⟨pn, rfl⟩ : ∃ pn : Nat, p = (pn : Int) := ⟨p.toNat, by omega⟩
        obtain ⟨nn, rfl⟩ : ∃ nn : Nat, n = (nn : Int) := ⟨n.toNat, by omega⟩
        simp only [Int.toNat_natCast, Prod.mk.injEq] at h
        obtain ⟨rfl, rfl⟩ := h
        exact upon_del A0 c0 l0.length l0 s pn nn t w hT hr0 rfl hc0 hbig hm (by omega)
    · rw [if_neg hm] at h
      simp only [Prod.mk.injEq] at h
      obtain ⟨rfl, rfl⟩ := h
      exact (upon_no A0 c0 l0.length s kd p n t w hT (by simpa using hm)).mono fun e w' ⟨he, hb⟩ => ⟨_, he, Kd.R_nil _ _ _ _ _, hb⟩
  · cases h
end Go.Proofs.YtmkmpjkgpnahnaaDoor.X
