/-
  diff.Changes, walked by hand: by this session. Conditions: at most 1000 parts of at most 2000 bytes.
-/
import Derived.Test.YtabhfloclcmjnaaDoorRev
import Derived.Test.YtabhfloclcmjnaaDoorPx11
import Derived.Deep.QuietTactic
import Derived.BigQuiet
namespace Go.Proofs.YtabhfloclcmjnaaDoor.X
open Go Go.RowKit Go.Shelf Go.Proofs.YtabhfloclcmjnaaDoorW.PrintWords Go.Proofs.YtabhfloclcmjnaaDoor.P
set_option linter.unusedVariables false
def partOk (p : S40) : Bool := decide (0 ≤ p.f0 ∧ p.f0 ≤ 2 ∧ p.f1.toList ≠ [])
/-- The first error of parts. -/
def askR (l : List S40) : Int := if (l.all fun p => decide (0 ≤ lenU p.f1)) = true then (if l.all partOk = true then 0 else 1) else 2
theorem rd40_get (l : List S40) (i : Nat) (h : i < l.length) : rd_T40 l (i : Int) = l[i] := by
  unfold rd_T40
  rw [Int.toNat_natCast, List.getD_eq_getElem?_getD, List.getElem?_eq_getElem h]
  rfl
theorem w64c {x : Int} (h : -100000000000 ≤ x) (h2 : x ≤ 100000000000) : wrap64 x = x := by unfold wrap64; omega
theorem asked_l1 (l : List S40) (hl : l.length ≤ 10000) : ∀ d i k, i + d = l.length → d < k → diff_asked.l1 k l (l.length : Int) (i : Int) = some (if (l.drop i).all partOk = true then 0 else 1)
  | 0, i, k, hi, hk => by
    obtain ⟨k, rfl⟩ : ∃ x, k = x + 1 := ⟨k - 1, by omega⟩
    rw [diff_asked.l1, if_neg (by omega), List.drop_of_length_le (by omega)]
    rfl
  | d + 1, i, k, hi, hk => by
    obtain ⟨k, rfl⟩ : ∃ x, k = x + 1 := ⟨k - 1, by omega⟩
    have hlt : i < l.length := by omega
    rw [diff_asked.l1, if_pos (by omega), if_pos (by omega), if_pos (by omega), rd40_get l i hlt, List.drop_eq_getElem_cons hlt, List.all_cons]
    unfold partOk
    by_cases c1 : l[i].f0 < 0
    · rw [if_pos c1, decide_eq_false (by omega)]; rfl
    rw [if_neg c1]
    by_cases c2 : l[i].f0 > 2
    · rw [if_pos c2, decide_eq_false (by omega)]; rfl
    rw [if_neg c2]
    by_cases c3 : l[i].f1.toList = []
    · rw [if_pos c3, decide_eq_false (fun h => h.2.2 c3)]; rfl
    rw [if_neg c3, decide_eq_true ⟨by omega, by omega, c3⟩, Bool.true_and, w64c (by omega) (by omega), show (i : Int) + 1 = ((i + 1 : Nat) : Int) by omega]
    exact asked_l1 l hl d (i + 1) k (by omega) (by omega)
theorem asked_l0 (l : List S40) (hl : l.length ≤ 10000) (hz : ∀ p ∈ l, p.f1.size ≤ 1000000) : ∀ d i k, i + d = l.length → d + l.length + 1 < k → diff_asked.l0 k l l (l.length : Int) (i : Int) = some (if ((l.drop i).all fun p => decide (0 ≤ lenU p.f1)) = true then (if l.all partOk = true then 0 else 1) else 2)
  | 0, i, k, hi, hk => by
    obtain ⟨k, rfl⟩ : ∃ x, k = x + 1 := ⟨k - 1, by omega⟩
    rw [diff_asked.l0, if_neg (by omega), List.drop_of_length_le (by omega)]
    have h := asked_l1 l hl l.length 0 k (by omega) (by omega)
    rw [List.drop_zero] at h
    exact h
  | d + 1, i, k, hi, hk => by
    obtain ⟨k, rfl⟩ : ∃ x, k = x + 1 := ⟨k - 1, by omega⟩
    have hlt : i < l.length := by omega
    have hsz := hz l[i] (List.getElem_mem hlt)
    have hm : runes_May.f l[i].f1 = some (decide (0 ≤ lenU l[i].f1)) := by
      unfold runes_May.f runes_Len.f
      rw [if_pos (by omega)]
      rfl
    rw [diff_asked.l0, if_pos (by omega), if_pos (by omega), if_pos (by omega), rd40_get l i hlt, hm, Option.bind_some, List.drop_eq_getElem_cons hlt, List.all_cons]
    by_cases c : 0 ≤ lenU l[i].f1
    · rw [decide_eq_true c, if_pos rfl, Bool.true_and, w64c (by omega) (by omega), show (i : Int) + 1 = ((i + 1 : Nat) : Int) by omega]
      exact asked_l0 l hl hz d (i + 1) k (by omega) (by omega)
    · rw [decide_eq_false c, if_neg (by simp)]; simp
theorem asked_f' (l : List S40) (hl : l.length ≤ 10000) (hz : ∀ p ∈ l, p.f1.size ≤ 1000000) (k : Nat) (hk : 2 * l.length + 2 ≤ k) : diff_asked.f k l = some (askR l) := by
  have h := asked_l0 l hl hz l.length 0 k (by omega) (by omega)
  rw [List.drop_zero] at h
  exact h
/-- Changes, as they are gathered. -/
def lastMap (f : S46 → S46) (o : List S46) : List S46 := o.set (o.length - 1) (f (o.getD (o.length - 1) z46))
def opened (o : List S46) (b : Bool) (at_ : Int) : List S46 := if b = true then o else o ++ [⟨at_, 0, ⟨#[]⟩⟩]
def chgF : List S40 → Int → Bool → List S46 → List S46
  | [], _, _, o => o
  | p :: l, a, b, o =>
    if p.f0 = 0 then chgF l (a + lenU p.f1) false o
    else if p.f0 = 2 then chgF l (a + lenU p.f1) true (lastMap (fun x => ⟨x.f0, x.f1 + lenU p.f1, x.f2⟩) (opened o b a))
    else chgF l a true (lastMap (fun x => ⟨x.f0, x.f1, x.f2 ++ p.f1⟩) (opened o b a))
theorem R46_put1 {e base g cap n : Nat} {ok : Nat → Prop} {W : World} {xs : List S46} (h : Kd.R k46 e W base ok (.slice (some ⟨g, 0, none⟩) n cap) xs) (i : Nat) (hi : i < n) (u : Int) :
    Kd.R k46 e (W.setCell ⟨g, i * 3 + 1, none⟩ (.int .i64 u)) base ok (.slice (some ⟨g, 0, none⟩) n cap) (xs.set i ⟨(xs.getD i z46).f0, u, (xs.getD i z46).f2⟩) ∧ W.grownBy (W.setCell ⟨g, i * 3 + 1, none⟩ (.int .i64 u)) (some g) := by
  obtain ⟨c, hcl, hM, hc, hf⟩ := Kd.R_elem h z46 (i : Int) (by omega) (by omega)
  rw [Int.toNat_natCast] at hM
  have hce := k46_openM hM
  have hs := Kd.R_seg (seg := [.int .i64 u]) (j := 1) (x' := ⟨(xs.getD i z46).f0, u, (xs.getD i z46).f2⟩) (okp := fun _ => False) h (i : Int) (by omega) (by omega) hcl hc (show 2 ≤ 3 by omega) (by
    subst hce
    exact k46_mkM _ _ _ ⟨(xs.getD i z46).f0, u, (xs.getD i z46).f2⟩) (fun _ h => h.elim)
  rw [Int.toNat_natCast] at hs
  exact hs
theorem R46_put2 {e base g cap n : Nat} {ok : Nat → Prop} {W : World} {xs : List S46} (h : Kd.R k46 e W base ok (.slice (some ⟨g, 0, none⟩) n cap) xs) (i : Nat) (hi : i < n) (u : ByteArray) :
    Kd.R k46 e (W.setCell ⟨g, i * 3 + 2, none⟩ (.string u)) base ok (.slice (some ⟨g, 0, none⟩) n cap) (xs.set i ⟨(xs.getD i z46).f0, (xs.getD i z46).f1, u⟩) ∧ W.grownBy (W.setCell ⟨g, i * 3 + 2, none⟩ (.string u)) (some g) := by
  obtain ⟨c, hcl, hM, hc, hf⟩ := Kd.R_elem h z46 (i : Int) (by omega) (by omega)
  rw [Int.toNat_natCast] at hM
  have hce := k46_openM hM
  have hs := Kd.R_seg (seg := [.string u]) (j := 2) (x' := ⟨(xs.getD i z46).f0, (xs.getD i z46).f1, u⟩) (okp := fun _ => False) h (i : Int) (by omega) (by omega) hcl hc (show 3 ≤ 3 by omega) (by
    subst hce
    exact k46_mkM _ _ _ ⟨(xs.getD i z46).f0, (xs.getD i z46).f1, u⟩) (fun _ h => h.elim)
  rw [Int.toNat_natCast] at hs
  exact hs
theorem stp_le (s : ByteArray) : ∀ f pos, pos ≤ s.size → (stp s f pos).length ≤ s.size - pos
  | 0, pos, _ => by simp [stp]
  | f + 1, pos, hp => by
    simp only [stp]
    split
    · rename_i h
      split
      · simp; omega
      · have h1 := decode_pos s pos h
        have h2 := decode_le s pos h
        have := stp_le s f (pos + (Utf8.decode s pos).2) h2
        simp only [List.length_cons]
        omega
    · simp
theorem text_le' {s : ByteArray} {l : List Int} (h : textOf s = some l) : l.length ≤ s.size := by
  unfold textOf at h
  split at h
  · obtain rfl := Option.some.inj h
    have := stp_le s s.size 0 (Nat.zero_le _)
    simpa using this
  · cases h
theorem lenU_bd (s : ByteArray) (h : s.size ≤ 2000) : -1 ≤ lenU s ∧ lenU s ≤ 2000 := by
  unfold lenU
  cases ht : textOf s with
  | none => simp
  | some l =>
    have := text_le' ht
    simp only
    omega
set_option maxRecDepth 100000 in
set_option maxHeartbeats 8000000 in
theorem changes_bad (l : List S40) (A : Option Addr) (c : Nat) (w : World) (hT : Aside0 (XAmb w)) (hr : Kd.C k40 w A l.length l) (hc : l.length ≤ c) (hl : l.length ≤ 1000) (hz : ∀ p ∈ l, p.f1.size ≤ 2000) (e : Int) (he : askR l = e) (hne : e ≠ 0) :
    Calls Tryd.prog 29 #[.slice A l.length c] w fun E w' => E = .returned (.tuple #[.slice none 0 0, .int .i64 e]) ∧ Below w.heap.size w w' := by
  have cA := diff_asked.calls 3000 A c l e w hT hr hc (by rw [← he]; exact asked_f' l (by omega) (fun p hp => by have := hz p hp; omega) 3000 (by omega))
  have q1 : (e == 0) = false := beq_eq_false_iff_ne.2 hne
  have q2 : (e != 0) = true := by rw [bne, q1]; rfl
  obtain ⟨n, hn⟩ : ∃ n, l.length = n := ⟨_, rfl⟩
  rw [hn] at cA ⊢
  clear he hne hr hc hz hn hl
  go_enter Tryd.func29, Tryd.ntmps29
  go_wp2_with (go_at_call 50; refine cA.mono ?_; rintro E w1 ⟨rfl, hb⟩)
  go_ret2
  exact ⟨rfl, hb⟩
set_option maxRecDepth 100000 in
set_option maxHeartbeats 8000000 in
theorem changes_ok (l : List S40) (A : Option Addr) (c n : Nat) (w : World) (hn : l.length = n) (hT : Aside0 (XAmb w)) (hr : Kd.C k40 w A n l) (hc : n ≤ c) (hl : n ≤ 1000) (hz : ∀ p ∈ l, p.f1.size ≤ 2000) (he : askR l = 0) :
    Calls Tryd.prog 29 #[.slice A n c] w fun E w' => ∃ v, E = .returned (.tuple #[v, .int .i64 0]) ∧ Kd.R k46 46 w' w.heap.size (fun _ => True) v (chgF l 0 false []).reverse ∧ Below w.heap.size w w' := by
  have cA := diff_asked.calls 3000 A c l 0 w hT (by rw [hn]; exact hr) (by omega) (by rw [← he]; exact asked_f' l (by omega) (fun p hp => by have := hz p hp; omega) 3000 (by omega))
  rw [hn] at cA
  have HN := Lib.hid hn
  have HR := Aside0.mk hr
  have HZ := Lib.hid hz
  clear he hn hr hz
  go_enter Tryd.func29, Tryd.ntmps29
  go_upto_region 4 with (go_at_call 50; refine cA.mono ?_; rintro E w1 ⟨rfl, hb⟩)
  have HB1 := Aside0.mk hb
  clear hb cA
  go_wp2
  go_loopg [5, 6, 7, 19] n (fun q u5 u6 u7 u19 wr => ∃ (i : Nat) (a : Int) (b : Bool) (o : List S46), u6 = .int .i64 a ∧ u7 = .bool b ∧ u19 = .int .i64 i ∧ Aside0 (i + q = n ∧ o.length ≤ i ∧ -10000000 ≤ a ∧ -2000 * (i : Int) ≤ a ∧ a ≤ 2000 * (i : Int) ∧ (b = true → 0 < o.length) ∧ (∀ x ∈ o, -2000 * (i : Int) ≤ x.f1 ∧ x.f1 ≤ 2000 * (i : Int)) ∧ (∀ x ∈ o, x.f2.size ≤ 2000 * i)) ∧ Aside0 (chgF (l.drop i) a b o = chgF l 0 false []) ∧
    Aside0 (Kd.R k46 46 wr w.heap.size (fun _ => True) u5 o) ∧ Aside0 (Below w.heap.size w wr))
  case atStart => exact ⟨0, 0, false, [], rfl, rfl, rfl, ⟨by omega, by simp, by omega, by omega, by omega, by simp, by simp, by simp⟩, ⟨rfl⟩, ⟨Kd.R_nil _ _ _ _ _⟩, HB1⟩
  case round =>
    obtain ⟨i, a, b, o, rfl, rfl, rfl, HI, HF, HO, HBl⟩ := hrel
    by_cases hin : i < n
    · have i1 : (0 : Int) ≤ (i : Int) := by omega
      have i2 : (i : Int) < (n : Int) := by omega
      have hil : i < l.length := by have := HN.out; omega
      obtain ⟨ad, hA, q0, q1⟩ := at_T40 HR.out (i : Int) i1 i2
      subst hA
      rw [rd40_get l i hil] at q0 q1
      have x0 := (HBl.out.cell (World.block_lt_of_cell? w _ q0)).trans q0
      have x1 := (HBl.out.cell (World.block_lt_of_cell? w _ q1)).trans q1
      have hsz := HZ.out l[i] (List.getElem_mem hil)
      have hdr := List.drop_eq_getElem_cons hil
      obtain ⟨⟨xk, xt⟩, hx⟩ : ∃ x, l[i] = x := ⟨_, rfl⟩
      rw [hx] at x0 x1 hsz hdr
      rw [Int.toNat_natCast] at x0 x1
      simp only at x0 x1 hsz
      have HD := Lib.hid hdr
      have HI2 := Lib.hid hin
      have cL := fun (W : World) (hb : Below w.heap.size w W) => runes_Len.calls xt (lenU xt) W (XAmb_step hT hb) (by unfold runes_Len.f; rw [if_pos (by omega)])
      have hbd := lenU_bd xt hsz
      obtain ⟨m, hm⟩ : ∃ m, lenU xt = m := ⟨_, rfl⟩
      rw [hm] at cL hbd
      have HM := Lib.hid hm
      have ha1 : -3000000 ≤ a := by have := HI.out; omega
      have ha2 : a ≤ 3000000 := by have := HI.out; omega
      have hm1 := hbd.1
      have hm2 := hbd.2
      clear q0 q1 hx hil hdr hin hm hbd
      have hbw : Below w.heap.size w (wr.alloc (.cells #[.int .i64 xk, .string xt] 40)) := below_alloc HBl.out _
      by_cases k0 : xk = 0
      · subst k0
        go_wp2_with (go_at_call 43; refine (cL _ hbw).mono ?_; rintro E w3 ⟨rfl, hb3⟩; have hx3 : w3.heap[wr.heap.size]? = some (.cells #[.int .i64 0, .string xt] 40 (0, 0)) := (hb3.block _ (by simp)).trans (blk_new wr _); have p0 : w3.cell? ⟨wr.heap.size, 0, none⟩ = some (.int .i64 0) := blk_cell hx3 0; have p1 : w3.cell? ⟨wr.heap.size, 1, none⟩ = some (.string xt) := blk_cell hx3 1)
        go_roundg (n - (i + 1))
        case measure => have := HI.out; have := HI2.out; omega
        case rel =>
          refine ⟨i + 1, a + m, false, o, rfl, rfl, (by go_num), ⟨by have := HI2.out; omega, by have := HI.out; omega, by omega, by have := HI.out; omega, by have := HI.out; omega, by simp, fun x hx => by have := HI.out.2.2.2.2.2.2.1 x hx; omega, fun x hx => by have := HI.out.2.2.2.2.2.2.2 x hx; omega⟩, ⟨?_⟩, ⟨?_⟩, ⟨below_step hbw hb3⟩⟩
          · rw [← HF.out, HD.out]; simp only [chgF]; rw [if_pos trivial, HM.out]
          · exact Kd.R_below (Kd.R_alloc HO.out _) hb3
      · have t0 : (xk == 0) = false := beq_eq_false_iff_ne.2 k0
        have HK0 := Lib.hid k0
        clear k0
        by_cases k2 : xk = 2
        · subst k2
          cases b with
          | false =>
            have hol : o.length ≤ 1000 := by have := HI.out; omega
            go_upto_region 15 with (first | (go_at_call 43; refine (cL _ hbw).mono ?_; rintro E w3 ⟨rfl, hb3⟩; have hx3 : w3.heap[wr.heap.size]? = some (.cells #[.int .i64 2, .string xt] 40 (0, 0)) := (hb3.block _ (by simp)).trans (blk_new wr _); have p0 : w3.cell? ⟨wr.heap.size, 0, none⟩ = some (.int .i64 2) := blk_cell hx3 0; have p1 : w3.cell? ⟨wr.heap.size, 1, none⟩ = some (.string xt) := blk_cell hx3 1; have HO3 := Kd.R_below (Kd.R_alloc HO.out (.cells #[.int .i64 2, .string xt] 40 (0, 0))) hb3; have HB3 := below_step hbw hb3) | ((with_reducible refine gate_dst (N := 38) rfl ?_); refine Kd.R_append k46 (w0 := w) w.heap.size rfl (.tmp 34) (.tmp 37) 43 46 _ 32 rfl Tryd.underlying43 info46 rfl (by decide) (by omega) u5 o ⟨a, 0, ⟨#[]⟩⟩ [.int .i64 a, .int .i64 0, .string ⟨#[]⟩] (fun _ => True) (fun _ => False) rfl rfl (k46_mkM _ _ _ ⟨a, 0, ⟨#[]⟩⟩) (fun _ h => h.elim) (fun _ _ => trivial) HO3 HB3 HB3.size (by have := HI.out; omega) ?_; intro v6 w6 ho6 hb6 hg6 _; have hx6 := (hg6.block _ (Array.getElem?_eq_some_iff.1 hx3).1 (Kd.R_ne HO3 hx3 (by decide))).trans hx3))
            have HP5 : Aside0 (w6.heap[wr.heap.size]? = some (.cells #[.int .i64 2, .string xt] 40 (0, 0))) := ⟨hx6⟩
            obtain ⟨o1, ho1⟩ : ∃ x, (o ++ [(⟨a, 0, ⟨#[]⟩⟩ : S46)]) = x := ⟨_, rfl⟩
            have hR5 : Kd.R k46 46 w6 w.heap.size (fun _ => True) v6 o1 := by rw [← ho1]; exact ho6
            have hB5 : Below w.heap.size w w6 := hb6
            have ho1l : 0 < o1.length := by rw [← ho1]; simp
            have ho1b : o1.length ≤ i + 1 := by rw [← ho1]; rw [List.length_append, List.length_singleton]; have := HI.out; omega
            have hbf : ∀ x ∈ o1, -2000 * (i : Int) ≤ x.f1 ∧ x.f1 ≤ 2000 * (i : Int) := by rw [← ho1]; intro x hx; rcases List.mem_append.1 hx with hx | hx; exact HI.out.2.2.2.2.2.2.1 x hx; rw [List.mem_singleton.1 hx]; constructor <;> simp only <;> omega
            have hbs : ∀ x ∈ o1, x.f2.size ≤ 2000 * i := by rw [← ho1]; intro x hx; rcases List.mem_append.1 hx with hx | hx; exact HI.out.2.2.2.2.2.2.2 x hx; rw [List.mem_singleton.1 hx]; exact Nat.zero_le _
            obtain ⟨g, cap, hv, hg1, hg2, _⟩ := Kd.R_form hR5 ho1l
            obtain ⟨q, hq⟩ : ∃ q, o1.length = q + 1 := ⟨o1.length - 1, by omega⟩
            have HOB := Lib.hid ho1b
            have hqb : q ≤ 1001 := by have := HI.out; omega
            rw [hq] at hv
            have hgx : g ≠ wr.heap.size := fun e => by
              have h1 := Kd.R_ne hR5 HP5.out (by decide)
              rw [hv, e] at h1
              exact h1 rfl
            subst hv
            have hO1 : opened o false a = o1 := ho1
            have HO1 := Lib.hid hO1
            have HQ := Lib.hid hq
            have HR5 := Aside0.mk hR5
            have HB5 := Aside0.mk hB5
            have p0 : w6.cell? ⟨wr.heap.size, 0, none⟩ = some (.int .i64 2) := blk_cell HP5.out 0
            have p1 : w6.cell? ⟨wr.heap.size, 1, none⟩ = some (.string xt) := blk_cell HP5.out 1
            obtain ⟨d0, d1, d2, df⟩ := R46_cells hR5 q (by omega)
            have df1 := df 1
            have df2 := df 2
            obtain ⟨⟨y0, y1, y2⟩, hy⟩ : ∃ x, o1.getD q z46 = x := ⟨_, rfl⟩
            rw [hy] at d1 d2
            have hym : (⟨y0, y1, y2⟩ : S46) ∈ o1 := by rw [← hy, List.getD_eq_getElem?_getD, List.getElem?_eq_getElem (by omega)]; exact List.getElem_mem _
            have hy1 := hbf _ hym
            have hy2 := hbs _ hym
            simp only at d1 d2 hy1 hy2
            have e1 : -3000000 ≤ y1 := by have := HI2.out; omega
            have e2 : y1 ≤ 3000000 := by have := HI2.out; omega
            have hcat : y2.size + xt.size ≤ 9223372036854775807 := by have := HI2.out; omega
            have HYY := Lib.hid hy
            have HBF := Lib.hid hbf
            have HBS := Lib.hid hbs
            have HY1 := Lib.hid hy1
            have HY2 := Lib.hid hy2
            have hgx2 := Ne.symm hgx
            clear ho6 hb6 hg6 hx6 ho1 hO1 hq hR5 hB5 d0 df hy hym hbf hbs hy1 hy2 ho1l ho1b hx3 HO3 HB3 hbw hb3 HO HBl cL
            go_wp2
            obtain ⟨hR6, hG6⟩ := R46_put1 HR5.out q (by omega) (y1 + m)
            rw [HYY.out] at hR6
            go_roundg (n - (i + 1))
            case measure => have := HI.out; have := HI2.out; omega
            case rel =>
              refine ⟨i + 1, a + m, true, _, rfl, rfl, (by go_num), ⟨by have := HI2.out; omega, ?_, by omega, by have := HI.out; omega, by have := HI.out; omega, fun _ => ?_, fun x hx => ?_, fun x hx => ?_⟩, ⟨?_⟩, ⟨hR6⟩, ⟨(HB5.out.trans ((Below.refl _ _).grown hG6 HB5.out.size (fun k e => by cases e; exact hg1)))⟩⟩
              · rw [List.length_set, HQ.out]; have := HQ.out; have := HOB.out
                omega
              · rw [List.length_set, HQ.out]; omega
              · rcases List.mem_or_eq_of_mem_set hx with h | h
                · have := HBF.out x h; omega
                · rw [h]; simp only; have := HY1.out; omega
              · rcases List.mem_or_eq_of_mem_set hx with h | h
                · have := HBS.out x h; omega
                · rw [h]; simp only; have := HY2.out; omega
              · rw [← HF.out, HD.out]; simp only [chgF]; rw [if_neg (by omega), if_pos trivial, HM.out, HO1.out]; unfold lastMap; rw [HQ.out, Nat.add_sub_cancel, HYY.out]
          | true =>
            have hop := HI.out.2.2.2.2.2.1 rfl
            have hol : o.length ≤ 1000 := by have := HI.out; omega
            go_upto_region 15 with (go_at_call 43; refine (cL _ hbw).mono ?_; rintro E w3 ⟨rfl, hb3⟩; have hx3 : w3.heap[wr.heap.size]? = some (.cells #[.int .i64 2, .string xt] 40 (0, 0)) := (hb3.block _ (by simp)).trans (blk_new wr _); have p0 : w3.cell? ⟨wr.heap.size, 0, none⟩ = some (.int .i64 2) := blk_cell hx3 0; have p1 : w3.cell? ⟨wr.heap.size, 1, none⟩ = some (.string xt) := blk_cell hx3 1; have HO3 := Kd.R_below (Kd.R_alloc HO.out (.cells #[.int .i64 2, .string xt] 40 (0, 0))) hb3; have HB3 := below_step hbw hb3)
            have HP5 : Aside0 (w3.heap[wr.heap.size]? = some (.cells #[.int .i64 2, .string xt] 40 (0, 0))) := ⟨hx3⟩
            obtain ⟨o1, ho1⟩ : ∃ x, o = x := ⟨_, rfl⟩
            have hR5 : Kd.R k46 46 w3 w.heap.size (fun _ => True) u5 o1 := by rw [← ho1]; exact HO3
            have hB5 : Below w.heap.size w w3 := HB3
            have ho1l : 0 < o1.length := by rw [← ho1]; exact hop
            have ho1b : o1.length ≤ i + 1 := by rw [← ho1]; have := HI.out; omega
            have hbf : ∀ x ∈ o1, -2000 * (i : Int) ≤ x.f1 ∧ x.f1 ≤ 2000 * (i : Int) := by rw [← ho1]; exact HI.out.2.2.2.2.2.2.1
            have hbs : ∀ x ∈ o1, x.f2.size ≤ 2000 * i := by rw [← ho1]; exact HI.out.2.2.2.2.2.2.2
            obtain ⟨g, cap, hv, hg1, hg2, _⟩ := Kd.R_form hR5 ho1l
            obtain ⟨q, hq⟩ : ∃ q, o1.length = q + 1 := ⟨o1.length - 1, by omega⟩
            have HOB := Lib.hid ho1b
            have hqb : q ≤ 1001 := by have := HI.out; omega
            rw [hq] at hv
            have hgx : g ≠ wr.heap.size := fun e => by
              have h1 := Kd.R_ne hR5 HP5.out (by decide)
              rw [hv, e] at h1
              exact h1 rfl
            subst hv
            have hO1 : opened o true a = o1 := ho1
            have HO1 := Lib.hid hO1
            have HQ := Lib.hid hq
            have HR5 := Aside0.mk hR5
            have HB5 := Aside0.mk hB5
            have p0 : w3.cell? ⟨wr.heap.size, 0, none⟩ = some (.int .i64 2) := blk_cell HP5.out 0
            have p1 : w3.cell? ⟨wr.heap.size, 1, none⟩ = some (.string xt) := blk_cell HP5.out 1
            obtain ⟨d0, d1, d2, df⟩ := R46_cells hR5 q (by omega)
            have df1 := df 1
            have df2 := df 2
            obtain ⟨⟨y0, y1, y2⟩, hy⟩ : ∃ x, o1.getD q z46 = x := ⟨_, rfl⟩
            rw [hy] at d1 d2
            have hym : (⟨y0, y1, y2⟩ : S46) ∈ o1 := by rw [← hy, List.getD_eq_getElem?_getD, List.getElem?_eq_getElem (by omega)]; exact List.getElem_mem _
            have hy1 := hbf _ hym
            have hy2 := hbs _ hym
            simp only at d1 d2 hy1 hy2
            have e1 : -3000000 ≤ y1 := by have := HI2.out; omega
            have e2 : y1 ≤ 3000000 := by have := HI2.out; omega
            have hcat : y2.size + xt.size ≤ 9223372036854775807 := by have := HI2.out; omega
            have HYY := Lib.hid hy
            have HBF := Lib.hid hbf
            have HBS := Lib.hid hbs
            have HY1 := Lib.hid hy1
            have HY2 := Lib.hid hy2
            have hgx2 := Ne.symm hgx
            clear hop ho1 hO1 hq hR5 hB5 d0 df hy hym hbf hbs hy1 hy2 ho1l ho1b hx3 HO3 HB3 hbw hb3 HO HBl cL
            go_wp2
            obtain ⟨hR6, hG6⟩ := R46_put1 HR5.out q (by omega) (y1 + m)
            rw [HYY.out] at hR6
            go_roundg (n - (i + 1))
            case measure => have := HI.out; have := HI2.out; omega
            case rel =>
              refine ⟨i + 1, a + m, true, _, rfl, rfl, (by go_num), ⟨by have := HI2.out; omega, ?_, by omega, by have := HI.out; omega, by have := HI.out; omega, fun _ => ?_, fun x hx => ?_, fun x hx => ?_⟩, ⟨?_⟩, ⟨hR6⟩, ⟨(HB5.out.trans ((Below.refl _ _).grown hG6 HB5.out.size (fun k e => by cases e; exact hg1)))⟩⟩
              · rw [List.length_set, HQ.out]; have := HQ.out; have := HOB.out
                omega
              · rw [List.length_set, HQ.out]; omega
              · rcases List.mem_or_eq_of_mem_set hx with h | h
                · have := HBF.out x h; omega
                · rw [h]; simp only; have := HY1.out; omega
              · rcases List.mem_or_eq_of_mem_set hx with h | h
                · have := HBS.out x h; omega
                · rw [h]; simp only; have := HY2.out; omega
              · rw [← HF.out, HD.out]; simp only [chgF]; rw [if_neg (by omega), if_pos trivial, HM.out, HO1.out]; unfold lastMap; rw [HQ.out, Nat.add_sub_cancel, HYY.out]
        · have t2 : (xk == 2) = false := beq_eq_false_iff_ne.2 k2
          have HK2 := Lib.hid k2
          clear k2
          cases b with
          | false =>
            have hol : o.length ≤ 1000 := by have := HI.out; omega
            go_upto_region 15 with (first | (go_at_call 43; refine (cL _ hbw).mono ?_; rintro E w3 ⟨rfl, hb3⟩; have hx3 : w3.heap[wr.heap.size]? = some (.cells #[.int .i64 xk, .string xt] 40 (0, 0)) := (hb3.block _ (by simp)).trans (blk_new wr _); have p0 : w3.cell? ⟨wr.heap.size, 0, none⟩ = some (.int .i64 xk) := blk_cell hx3 0; have p1 : w3.cell? ⟨wr.heap.size, 1, none⟩ = some (.string xt) := blk_cell hx3 1; have HO3 := Kd.R_below (Kd.R_alloc HO.out (.cells #[.int .i64 xk, .string xt] 40 (0, 0))) hb3; have HB3 := below_step hbw hb3) | ((with_reducible refine gate_dst (N := 38) rfl ?_); refine Kd.R_append k46 (w0 := w) w.heap.size rfl (.tmp 34) (.tmp 37) 43 46 _ 32 rfl Tryd.underlying43 info46 rfl (by decide) (by omega) u5 o ⟨a, 0, ⟨#[]⟩⟩ [.int .i64 a, .int .i64 0, .string ⟨#[]⟩] (fun _ => True) (fun _ => False) rfl rfl (k46_mkM _ _ _ ⟨a, 0, ⟨#[]⟩⟩) (fun _ h => h.elim) (fun _ _ => trivial) HO3 HB3 HB3.size (by have := HI.out; omega) ?_; intro v6 w6 ho6 hb6 hg6 _; have hx6 := (hg6.block _ (Array.getElem?_eq_some_iff.1 hx3).1 (Kd.R_ne HO3 hx3 (by decide))).trans hx3))
            have HP5 : Aside0 (w6.heap[wr.heap.size]? = some (.cells #[.int .i64 xk, .string xt] 40 (0, 0))) := ⟨hx6⟩
            obtain ⟨o1, ho1⟩ : ∃ x, (o ++ [(⟨a, 0, ⟨#[]⟩⟩ : S46)]) = x := ⟨_, rfl⟩
            have hR5 : Kd.R k46 46 w6 w.heap.size (fun _ => True) v6 o1 := by rw [← ho1]; exact ho6
            have hB5 : Below w.heap.size w w6 := hb6
            have ho1l : 0 < o1.length := by rw [← ho1]; simp
            have ho1b : o1.length ≤ i + 1 := by rw [← ho1]; rw [List.length_append, List.length_singleton]; have := HI.out; omega
            have hbf : ∀ x ∈ o1, -2000 * (i : Int) ≤ x.f1 ∧ x.f1 ≤ 2000 * (i : Int) := by rw [← ho1]; intro x hx; rcases List.mem_append.1 hx with hx | hx; exact HI.out.2.2.2.2.2.2.1 x hx; rw [List.mem_singleton.1 hx]; constructor <;> simp only <;> omega
            have hbs : ∀ x ∈ o1, x.f2.size ≤ 2000 * i := by rw [← ho1]; intro x hx; rcases List.mem_append.1 hx with hx | hx; exact HI.out.2.2.2.2.2.2.2 x hx; rw [List.mem_singleton.1 hx]; exact Nat.zero_le _
            obtain ⟨g, cap, hv, hg1, hg2, _⟩ := Kd.R_form hR5 ho1l
            obtain ⟨q, hq⟩ : ∃ q, o1.length = q + 1 := ⟨o1.length - 1, by omega⟩
            have HOB := Lib.hid ho1b
            have hqb : q ≤ 1001 := by have := HI.out; omega
            rw [hq] at hv
            have hgx : g ≠ wr.heap.size := fun e => by
              have h1 := Kd.R_ne hR5 HP5.out (by decide)
              rw [hv, e] at h1
              exact h1 rfl
            subst hv
            have hO1 : opened o false a = o1 := ho1
            have HO1 := Lib.hid hO1
            have HQ := Lib.hid hq
            have HR5 := Aside0.mk hR5
            have HB5 := Aside0.mk hB5
            have p0 : w6.cell? ⟨wr.heap.size, 0, none⟩ = some (.int .i64 xk) := blk_cell HP5.out 0
            have p1 : w6.cell? ⟨wr.heap.size, 1, none⟩ = some (.string xt) := blk_cell HP5.out 1
            obtain ⟨d0, d1, d2, df⟩ := R46_cells hR5 q (by omega)
            have df1 := df 1
            have df2 := df 2
            obtain ⟨⟨y0, y1, y2⟩, hy⟩ : ∃ x, o1.getD q z46 = x := ⟨_, rfl⟩
            rw [hy] at d1 d2
            have hym : (⟨y0, y1, y2⟩ : S46) ∈ o1 := by rw [← hy, List.getD_eq_getElem?_getD, List.getElem?_eq_getElem (by omega)]; exact List.getElem_mem _
            have hy1 := hbf _ hym
            have hy2 := hbs _ hym
            simp only at d1 d2 hy1 hy2
            have e1 : -3000000 ≤ y1 := by have := HI2.out; omega
            have e2 : y1 ≤ 3000000 := by have := HI2.out; omega
            have hcat : y2.size + xt.size ≤ 9223372036854775807 := by have := HI2.out; omega
            have HYY := Lib.hid hy
            have HBF := Lib.hid hbf
            have HBS := Lib.hid hbs
            have HY1 := Lib.hid hy1
            have HY2 := Lib.hid hy2
            have hgx2 := Ne.symm hgx
            clear ho6 hb6 hg6 hx6 ho1 hO1 hq hR5 hB5 d0 df hy hym hbf hbs hy1 hy2 ho1l ho1b hx3 HO3 HB3 hbw hb3 HO HBl cL
            go_upto_region 19 with fail
            go_region
            obtain ⟨hR6, hG6⟩ := R46_put2 HR5.out q (by omega) (y2 ++ xt)
            rw [HYY.out] at hR6
            dsimp only at hR6
            obtain ⟨W8, hW⟩ : ∃ x, w6.setCell ⟨g, q * 3 + 2, none⟩ (.string (y2 ++ xt)) = x := ⟨_, rfl⟩
            rw [hW] at hR6 hG6 ⊢
            clear hW
            have hR7 := Aside0.mk (Kd.R_drew hR6)
            have hB7 := Aside0.mk (HB5.out.trans ((Below.refl _ _).grown hG6 HB5.out.size (fun k e => by cases e; exact hg1))).drew
            obtain ⟨W9, hW9⟩ : ∃ x, W8.drew = x := ⟨_, rfl⟩
            rw [hW9] at hR7 hB7 ⊢
            clear hW9 hR6 hG6 p0 p1 d1 d2 df1 df2
            go_wp2
            go_roundg (n - (i + 1))
            case measure => have := HI.out; have := HI2.out; omega
            case rel =>
              refine ⟨i + 1, a, true, _, rfl, rfl, (by go_num), ⟨by have := HI2.out; omega, ?_, by omega, by have := HI.out; omega, by have := HI.out; omega, fun _ => ?_, fun x hx => ?_, fun x hx => ?_⟩, ⟨?_⟩, hR7, hB7⟩
              · rw [List.length_set, HQ.out]; have := HOB.out
                have := HQ.out
                omega
              · rw [List.length_set, HQ.out]; omega
              · rcases List.mem_or_eq_of_mem_set hx with h | h
                · have := HBF.out x h; omega
                · rw [h]; simp only; have := HY1.out; omega
              · rcases List.mem_or_eq_of_mem_set hx with h | h
                · have := HBS.out x h; omega
                · rw [h]; simp only [ByteArray.size_append]; have := HY2.out; omega
              · rw [← HF.out, HD.out]; simp only [chgF]; rw [if_neg HK0.out, if_neg HK2.out, HO1.out]; unfold lastMap; rw [HQ.out, Nat.add_sub_cancel, HYY.out]
          | true =>
            have hop := HI.out.2.2.2.2.2.1 rfl
            have hol : o.length ≤ 1000 := by have := HI.out; omega
            go_upto_region 15 with (go_at_call 43; refine (cL _ hbw).mono ?_; rintro E w3 ⟨rfl, hb3⟩; have hx3 : w3.heap[wr.heap.size]? = some (.cells #[.int .i64 xk, .string xt] 40 (0, 0)) := (hb3.block _ (by simp)).trans (blk_new wr _); have p0 : w3.cell? ⟨wr.heap.size, 0, none⟩ = some (.int .i64 xk) := blk_cell hx3 0; have p1 : w3.cell? ⟨wr.heap.size, 1, none⟩ = some (.string xt) := blk_cell hx3 1; have HO3 := Kd.R_below (Kd.R_alloc HO.out (.cells #[.int .i64 xk, .string xt] 40 (0, 0))) hb3; have HB3 := below_step hbw hb3)
            have HP5 : Aside0 (w3.heap[wr.heap.size]? = some (.cells #[.int .i64 xk, .string xt] 40 (0, 0))) := ⟨hx3⟩
            obtain ⟨o1, ho1⟩ : ∃ x, o = x := ⟨_, rfl⟩
            have hR5 : Kd.R k46 46 w3 w.heap.size (fun _ => True) u5 o1 := by rw [← ho1]; exact HO3
            have hB5 : Below w.heap.size w w3 := HB3
            have ho1l : 0 < o1.length := by rw [← ho1]; exact hop
            have ho1b : o1.length ≤ i + 1 := by rw [← ho1]; have := HI.out; omega
            have hbf : ∀ x ∈ o1, -2000 * (i : Int) ≤ x.f1 ∧ x.f1 ≤ 2000 * (i : Int) := by rw [← ho1]; exact HI.out.2.2.2.2.2.2.1
            have hbs : ∀ x ∈ o1, x.f2.size ≤ 2000 * i := by rw [← ho1]; exact HI.out.2.2.2.2.2.2.2
            obtain ⟨g, cap, hv, hg1, hg2, _⟩ := Kd.R_form hR5 ho1l
            obtain ⟨q, hq⟩ : ∃ q, o1.length = q + 1 := ⟨o1.length - 1, by omega⟩
            have HOB := Lib.hid ho1b
            have hqb : q ≤ 1001 := by have := HI.out; omega
            rw [hq] at hv
            have hgx : g ≠ wr.heap.size := fun e => by
              have h1 := Kd.R_ne hR5 HP5.out (by decide)
              rw [hv, e] at h1
              exact h1 rfl
            subst hv
            have hO1 : opened o true a = o1 := ho1
            have HO1 := Lib.hid hO1
            have HQ := Lib.hid hq
            have HR5 := Aside0.mk hR5
            have HB5 := Aside0.mk hB5
            have p0 : w3.cell? ⟨wr.heap.size, 0, none⟩ = some (.int .i64 xk) := blk_cell HP5.out 0
            have p1 : w3.cell? ⟨wr.heap.size, 1, none⟩ = some (.string xt) := blk_cell HP5.out 1
            obtain ⟨d0, d1, d2, df⟩ := R46_cells hR5 q (by omega)
            have df1 := df 1
            have df2 := df 2
            obtain ⟨⟨y0, y1, y2⟩, hy⟩ : ∃ x, o1.getD q z46 = x := ⟨_, rfl⟩
            rw [hy] at d1 d2
            have hym : (⟨y0, y1, y2⟩ : S46) ∈ o1 := by rw [← hy, List.getD_eq_getElem?_getD, List.getElem?_eq_getElem (by omega)]; exact List.getElem_mem _
            have hy1 := hbf _ hym
            have hy2 := hbs _ hym
            simp only at d1 d2 hy1 hy2
            have e1 : -3000000 ≤ y1 := by have := HI2.out; omega
            have e2 : y1 ≤ 3000000 := by have := HI2.out; omega
            have hcat : y2.size + xt.size ≤ 9223372036854775807 := by have := HI2.out; omega
            have HYY := Lib.hid hy
            have HBF := Lib.hid hbf
            have HBS := Lib.hid hbs
            have HY1 := Lib.hid hy1
            have HY2 := Lib.hid hy2
            have hgx2 := Ne.symm hgx
            clear hop ho1 hO1 hq hR5 hB5 d0 df hy hym hbf hbs hy1 hy2 ho1l ho1b hx3 HO3 HB3 hbw hb3 HO HBl cL
            go_upto_region 19 with fail
            go_region
            obtain ⟨hR6, hG6⟩ := R46_put2 HR5.out q (by omega) (y2 ++ xt)
            rw [HYY.out] at hR6
            dsimp only at hR6
            obtain ⟨W8, hW⟩ : ∃ x, w3.setCell ⟨g, q * 3 + 2, none⟩ (.string (y2 ++ xt)) = x := ⟨_, rfl⟩
            rw [hW] at hR6 hG6 ⊢
            clear hW
            have hR7 := Aside0.mk (Kd.R_drew hR6)
            have hB7 := Aside0.mk (HB5.out.trans ((Below.refl _ _).grown hG6 HB5.out.size (fun k e => by cases e; exact hg1))).drew
            obtain ⟨W9, hW9⟩ : ∃ x, W8.drew = x := ⟨_, rfl⟩
            rw [hW9] at hR7 hB7 ⊢
            clear hW9 hR6 hG6 p0 p1 d1 d2 df1 df2
            go_wp2
            go_roundg (n - (i + 1))
            case measure => have := HI.out; have := HI2.out; omega
            case rel =>
              refine ⟨i + 1, a, true, _, rfl, rfl, (by go_num), ⟨by have := HI2.out; omega, ?_, by omega, by have := HI.out; omega, by have := HI.out; omega, fun _ => ?_, fun x hx => ?_, fun x hx => ?_⟩, ⟨?_⟩, hR7, hB7⟩
              · rw [List.length_set, HQ.out]; have := HOB.out
                have := HQ.out
                omega
              · rw [List.length_set, HQ.out]; omega
              · rcases List.mem_or_eq_of_mem_set hx with h | h
                · have := HBF.out x h; omega
                · rw [h]; simp only; have := HY1.out; omega
              · rcases List.mem_or_eq_of_mem_set hx with h | h
                · have := HBS.out x h; omega
                · rw [h]; simp only [ByteArray.size_append]; have := HY2.out; omega
              · rw [← HF.out, HD.out]; simp only [chgF]; rw [if_neg HK0.out, if_neg HK2.out, HO1.out]; unfold lastMap; rw [HQ.out, Nat.add_sub_cancel, HYY.out]
    · have i2 : ¬ (i : Int) < (n : Int) := by omega
      have hi : i = n := by have := HI.out; omega
      have HE := Lib.hid hi
      have cV := fun (A : Option Addr) (cap m : Nat) (W : World) (hm : o.length = m) (h : Kd.R k46 46 W w.heap.size (fun _ => True) (.slice A m cap) o) (hB : w.heap.size ≤ W.heap.size) => reverse_calls o A cap m w.heap.size (fun _ => True) W hm (by have := HI.out; omega) h hB
      obtain ⟨Ao, co, hv⟩ := Kd.R_slice HO.out
      have hR := HO.out
      rw [hv] at hR
      obtain ⟨m, hm⟩ : ∃ m, o.length = m := ⟨_, rfl⟩
      rw [hm] at hR hv
      have cV2 := cV Ao co m wr hm hR HBl.out.size
      subst hv
      have HM2 := Lib.hid hm
      clear hm hi hin cV hR
      go_wp2_with (go_at_call 51; refine cV2.mono ?_; rintro E w5 ⟨⟨v5, rfl⟩, hR5, hB5⟩)
      go_ret2
      refine ⟨_, rfl, ?_, HBl.out.trans hB5⟩
      have hf := HF.out
      rw [List.drop_of_length_le (by have := HN.out; have := HE.out; omega)] at hf
      simp only [chgF] at hf
      rw [← hf]
      exact hR5
def diff_Changes.f (l0 : List S40) : Option (List S46 × Int) := if l0.length ≤ 1000 ∧ (l0.all fun p => decide (p.f1.size ≤ 2000)) = true then some (if askR l0 = 0 then ((chgF l0 0 false []).reverse, 0) else ([], askR l0)) else none
theorem diff_Changes.calls (A0 : Option Addr) (c0 : Nat) (l0 : List S40) (r1 : List S46) (r2 : Int) (w : World) (hT : Aside0 (XAmb w)) (hr0 : Kd.C k40 w A0 l0.length l0) (hc0 : l0.length ≤ c0) (h : diff_Changes.f l0 = some (r1, r2)) :
    Calls Tryd.prog 29 #[.slice A0 l0.length c0] w fun e w' => ∃ v0_ : Value, e = .returned (.tuple #[v0_, .int .i64 r2]) ∧ Kd.R k46 46 w' w.heap.size (fun _ => True) v0_ r1 ∧ Below w.heap.size w w' := by
  unfold diff_Changes.f at h
  split at h
  · rename_i hl
    have hz : ∀ p ∈ l0, p.f1.size ≤ 2000 := fun p hp => of_decide_eq_true (List.all_eq_true.1 hl.2 p hp)
    by_cases he : askR l0 = 0
    · rw [if_pos he] at h
      simp only [Option.some.injEq, Prod.mk.injEq] at h
      obtain ⟨rfl, rfl⟩ := h
      exact changes_ok l0 A0 c0 l0.length w rfl hT hr0 hc0 hl.1 hz he
    · rw [if_neg he] at h
      simp only [Option.some.injEq, Prod.mk.injEq] at h
      obtain ⟨rfl, rfl⟩ := h
      exact (changes_bad l0 A0 c0 w hT hr0 hc0 hl.1 hz _ rfl he).mono fun e w' ⟨h1, h2⟩ => ⟨_, h1, Kd.R_nil _ _ _ _ _, h2⟩
  · cases h
end Go.Proofs.YtabhfloclcmjnaaDoor.X
