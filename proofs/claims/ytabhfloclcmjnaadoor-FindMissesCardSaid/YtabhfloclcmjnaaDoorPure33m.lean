/-
  The law FindMisses of layer 33: its walk, by hand, by this session. Conditions: as typed.
-/
import Derived.Test.YtabhfloclcmjnaaDoorPure33
import Derived.Test.YtabhfloclcmjnaaDoorPx1
import Derived.Test.YtabhfloclcmjnaaDoorPx3
import Derived.Deep.LoopGhost
import Derived.Deep.QuietTactic
namespace Go.Proofs.YtabhfloclcmjnaaDoor.Pure
open Go Go.RowKit Go.Proofs.YtabhfloclcmjnaaDoorW.PrintWords Go.Proofs.YtabhfloclcmjnaaDoor.P Go.Proofs.YtabhfloclcmjnaaDoor.X Go.Proofs.YtabhfloclcmjnaaDoor.Kmp
set_option linter.unusedVariables false

theorem scan_mem (s : Nat → Bool) (m : Nat) : ∀ f i e q, q ∈ scan s m f i e → s q = true ∧ e ≤ q ∧ i ≤ q ∧ q < i + f
  | 0, i, e, q, h => by simp [scan] at h
  | f + 1, i, e, q, h => by
    simp only [scan] at h
    split at h
    · rename_i h1
      rcases List.mem_cons.1 h with rfl | h2
      · exact ⟨h1.1, h1.2, Nat.le_refl _, by omega⟩
      · obtain ⟨a, b, c, d⟩ := scan_mem s m f (i + 1) (i + m) q h2
        exact ⟨a, by omega, by omega, by omega⟩
    · obtain ⟨a, b, c, d⟩ := scan_mem s m f (i + 1) e q h
      exact ⟨a, b, by omega, by omega⟩
theorem scan_apart (s : Nat → Bool) (m : Nat) : ∀ f i e j (h : j + 1 < (scan s m f i e).length), (scan s m f i e)[j] + m ≤ (scan s m f i e)[j + 1]
  | 0, i, e, j, h => by simp [scan] at h
  | f + 1, i, e, j, h => by
    by_cases h1 : s i = true ∧ e ≤ i
    · have e1 : scan s m (f + 1) i e = i :: scan s m f (i + 1) (i + m) := by simp only [scan]; rw [if_pos h1]
      simp only [e1] at h ⊢
      cases j with
      | zero =>
        have h2 := scan_mem s m f (i + 1) (i + m) _ (List.getElem_mem (by simpa using h))
        simpa using h2.2.1
      | succ j =>
        have := scan_apart s m f (i + 1) (i + m) j (by simpa using h)
        simpa using this
    · have e1 : scan s m (f + 1) i e = scan s m f (i + 1) e := by simp only [scan]; rw [if_neg h1]
      simp only [e1] at h ⊢
      exact scan_apart s m f (i + 1) e j h
theorem scan_near (s : Nat → Bool) {m : Nat} (hm : 0 < m) : ∀ f i e a, s a = true → i ≤ a → a < i + f → e ≤ a → ∃ q ∈ scan s m f i e, q ≤ a ∧ a < q + m
  | 0, i, e, a, _, h1, h2, _ => by omega
  | f + 1, i, e, a, hs, h1, h2, h3 => by
    simp only [scan]
    by_cases h4 : s i = true ∧ e ≤ i
    · rw [if_pos h4]
      by_cases h5 : a < i + m
      · exact ⟨i, List.mem_cons_self, h1, h5⟩
      · obtain ⟨q, hq, h6⟩ := scan_near s hm f (i + 1) (i + m) a hs (by omega) (by omega) (by omega)
        exact ⟨q, List.mem_cons_of_mem _ hq, h6⟩
    · rw [if_neg h4]
      have h5 : i ≠ a := by rintro rfl; exact h4 ⟨hs, h3⟩
      exact scan_near s hm f (i + 1) e a hs (by omega) (by omega) h3

/-- near, a place further -/
def nx (at_ : Int) (n m : Nat) (b : Bool) (q : Nat) : Bool := b || (decide (0 ≤ at_) && decide (at_ ≤ n) && decide ((q : Int) - at_ < m) && decide (at_ - q < m))
theorem nx_mono {at_ : Int} {n m q : Nat} {b : Bool} (h : b = true) : nx at_ n m b q = true := by unfold nx; rw [h]; rfl


theorem nx_true {at_ : Int} {n m q : Nat} : nx at_ n m true q = true := rfl
theorem nx_neg {at_ : Int} {n m q : Nat} (h : ¬ (0 : Int) ≤ at_) : nx at_ n m false q = false := by unfold nx; rw [decide_eq_false h]; rfl
theorem nx_gt {at_ : Int} {n m q : Nat} (h : ¬ at_ ≤ (n : Int)) : nx at_ n m false q = false := by unfold nx; rw [decide_eq_false h]; simp
theorem nx_far {at_ : Int} {n m q : Nat} (h : ¬ (q : Int) - at_ < (m : Int)) : nx at_ n m false q = false := by unfold nx; rw [decide_eq_false h]; simp
theorem nx_near {at_ : Int} {n m q : Nat} (h1 : (0 : Int) ≤ at_) (h2 : at_ ≤ (n : Int)) (h3 : (q : Int) - at_ < (m : Int)) : nx at_ n m false q = decide (at_ - (q : Int) < (m : Int)) := by
  unfold nx; rw [decide_eq_true h1, decide_eq_true h2, decide_eq_true h3]; rfl
theorem stands_bad (l p : List Int) (at_ : Int) (hp : p ≠ []) (hl : l.length ≤ 1000) (hpl : p.length ≤ 1000) (h9 : ¬ at_ > (l.length : Int)) (h : at_ < 0 ∨ st l p at_.toNat = false) : foolscapref33_Stands.f 5000 l p at_ = some false := by
  by_cases h8 : at_ < 0
  · unfold foolscapref33_Stands.f
    rw [if_pos h8]
    simp [foolscapref33_Stands.j0]
  · have h7 : st l p at_.toNat = false := by rcases h with h | h; exact absurd h h8; exact h
    have e := stands_nat l p at_.toNat 5000 hp (by omega) (by omega) (by omega)
    rw [Int.toNat_of_nonneg (by omega)] at e
    rw [e, h7]

/-- What is still to be shown near. -/
def Hope (l p : List Int) (qs : List Nat) (at_ : Int) (i : Nat) (b : Bool) : Prop :=
  b = true ∨ (∃ j, ∃ h : j < qs.length, i ≤ j ∧ nx at_ l.length p.length false qs[j] = true) ∨ (l.length : Int) < at_ ∨ (at_ < 0 ∨ st l p at_.toNat = false)
theorem Hope.next {l p : List Int} {qs : List Nat} {at_ : Int} {i : Nat} {b : Bool} (hc : Hope l p qs at_ i b) (h : i < qs.length) : Hope l p qs at_ (i + 1) (nx at_ l.length p.length b qs[i]) := by
  rcases hc with h | ⟨j, h1, h2, h3⟩ | h | h
  · exact .inl (nx_mono h)
  · by_cases he : i = j
    · subst he
      left
      cases b with
      | true => exact nx_mono rfl
      | false => exact h3
    · exact .inr (.inl ⟨j, h1, by omega, h3⟩)
  · exact .inr (.inr (.inl h))
  · exact .inr (.inr (.inr h))
theorem hope_all {l p : List Int} (at_ : Int) (hp : p ≠ []) : Hope l p (allR l p) at_ 0 false := by
  by_cases h5 : (l.length : Int) < at_
  · exact .inr (.inr (.inl h5))
  · by_cases h6 : at_ < 0
    · exact .inr (.inr (.inr (.inl h6)))
    · have hm := List.length_pos_iff.2 hp
      cases h7 : st l p at_.toNat with
      | false => exact .inr (.inr (.inr (.inr h7)))
      | true =>
        right; left
        have h8 : at_.toNat < l.length := by
          rcases Nat.lt_or_ge at_.toNat l.length with h | h
          · exact h
          · rw [st_far hp (by omega)] at h7; cases h7
        obtain ⟨q, hq, h9, h10⟩ := scan_near (st l p) hm l.length 0 0 at_.toNat h7 (Nat.zero_le _) (by omega) (Nat.zero_le _)
        obtain ⟨j, hj, rfl⟩ := List.mem_iff_getElem.1 hq
        refine ⟨j, hj, Nat.zero_le _, ?_⟩
        unfold nx allR
        rw [decide_eq_true (show (0 : Int) ≤ at_ by omega), decide_eq_true (show at_ ≤ (l.length : Int) by omega), decide_eq_true, decide_eq_true]
        · rfl
        · omega
        · omega

set_option maxRecDepth 100000 in
set_option maxHeartbeats 8000000 in
theorem misses_great (s t : ByteArray) (at_ : Int) (w : World) (hT : Aside0 (XAmb w)) (hs : (s.size : Int) > 600 ∨ (¬ (s.size : Int) > 600 ∧ (t.size : Int) > 600)) :
    Calls Tryd.prog 4 #[.string s, .string t, .int .i64 at_] w fun e w' => e = .returned (.bool true) ∧ Below w.heap.size w w' := by
  have c := foolscaplaw33_alive.calls 50 true w hT alive50
  rcases hs with h | ⟨h1, h2⟩
  · have hd : decide ((600 : Int) < (s.size : Int)) = true := decide_eq_true h
    have hd2 : decide (600 < s.size) = true := decide_eq_true (by omega)
    go_enter Tryd.func4, Tryd.ntmps4
    go_wp2_with (go_at_call 11; refine c.mono ?_; rintro e w1 ⟨rfl, hb⟩)
    go_ret
    exact ⟨rfl, hb⟩
  · have hd : decide ((600 : Int) < (s.size : Int)) = false := decide_eq_false h1
    have hd2 : decide (600 < s.size) = false := decide_eq_false (by omega)
    have he : decide ((600 : Int) < (t.size : Int)) = true := decide_eq_true h2
    have he2 : decide (600 < t.size) = true := decide_eq_true (by omega)
    go_enter Tryd.func4, Tryd.ntmps4
    go_wp2_with (go_at_call 11; refine c.mono ?_; rintro e w1 ⟨rfl, hb⟩)
    go_ret
    exact ⟨rfl, hb⟩

set_option maxRecDepth 100000 in
set_option maxHeartbeats 8000000 in
theorem misses_err (s t : ByteArray) (at_ : Int) (w : World) (hT : Aside0 (XAmb w)) (h1 : ¬ (s.size : Int) > 600) (h2 : ¬ (t.size : Int) > 600) (x : Int) (hx : x ≠ 0) (ha : askedR s t = ([], [], x)) :
    Calls Tryd.prog 4 #[.string s, .string t, .int .i64 at_] w fun e w' => e = .returned (.bool true) ∧ Below w.heap.size w w' := by
  have c := foolscaplaw33_alive.calls 50 true w hT alive50
  have cA := fun (w1 : World) (hb : Below w.heap.size w w1) => find_All.calls 5000 s t [] x w1 (XAmb_step hT hb) (by rw [findAll_f s t (by omega) (by omega) _ (by omega), ha]; simp only [if_neg hx])
  have cB := fun (w1 : World) => foolscapref33_Asked.calls 5000 s t [] [] x w1 (by rw [asked_f s t (by omega) (by omega) _ (by omega), ha])
  have hd : decide ((600 : Int) < (s.size : Int)) = false := decide_eq_false h1
  have hd2 : decide (600 < s.size) = false := decide_eq_false (by omega)
  have he : decide ((600 : Int) < (t.size : Int)) = false := decide_eq_false h2
  have he2 : decide (600 < t.size) = false := decide_eq_false (by omega)
  have hx1 : (x == 0) = false := beq_eq_false_iff_ne.2 hx
  have hx2 : (x != 0) = true := bne_iff_ne.2 hx
  clear ha hT hx h1 h2
  go_enter Tryd.func4, Tryd.ntmps4
  go_wp2_with (first | (go_at_call 11; refine c.mono ?_; rintro e w1 ⟨rfl, hb⟩) | (go_at_call 12; refine (cA _ hb).mono ?_; rintro e w2 ⟨v0, rfl, _, hb2⟩) | (go_at_call 14; refine (cB _).mono ?_; rintro e w3 ⟨v1, v2, rfl, _, _, hb3⟩))
  go_ret
  have hb12 := hb.trans (hb2.mono hb.size)
  exact ⟨by simp, hb12.trans (hb3.mono hb12.size)⟩

set_option maxRecDepth 100000 in
set_option maxHeartbeats 8000000 in
theorem misses_ok (s t : ByteArray) (at_ : Int) (w : World) (hT : Aside0 (XAmb w)) (h1 : ¬ (s.size : Int) > 600) (h2 : ¬ (t.size : Int) > 600) (l p : List Int) (hs : textOf s = some l) (ht : textOf t = some p) (hp : p ≠ []) :
    Calls Tryd.prog 4 #[.string s, .string t, .int .i64 at_] w fun e w' => e = .returned (.bool true) ∧ Below w.heap.size w w' := by
  have ha : askedR s t = (l, p, 0) := by unfold askedR; rw [hs, ht]; simp only [if_neg hp]
  have hl := text_le hs
  have hpl := text_le ht
  obtain ⟨qs, hqs⟩ : ∃ qs, allR l p = qs := ⟨_, rfl⟩
  have hmem : ∀ q ∈ qs, st l p q = true ∧ q ≤ 1000 := fun q hq => by
    rw [← hqs] at hq
    obtain ⟨a, _, _, b⟩ := scan_mem _ _ _ _ _ q hq
    exact ⟨a, by omega⟩
  have hap : ∀ j (h : j + 1 < qs.length), qs[j] + p.length ≤ qs[j + 1] := by rw [← hqs]; exact fun j h => scan_apart _ _ _ _ _ j h
  have hql : qs.length ≤ 1000 := by
    have := scan_length (st l p) p.length l.length 0 0
    rw [← hqs]; unfold allR; omega
  have hope : Hope l p qs at_ 0 false := by rw [← hqs]; exact hope_all at_ hp
  have c := foolscaplaw33_alive.calls 50 true w hT alive50
  have cA := fun (w1 : World) (hb : Below w.heap.size w w1) => find_All.calls 5000 s t (zs qs) 0 w1 (XAmb_step hT hb) (by rw [findAll_f s t (by omega) (by omega) _ (by omega), ha]; simp only [if_true]; rw [hqs])
  have cB := fun (w1 : World) => foolscapref33_Asked.calls 5000 s t l p 0 w1 (by rw [asked_f s t (by omega) (by omega) _ (by omega), ha])
  have hd : decide ((600 : Int) < (s.size : Int)) = false := decide_eq_false h1
  have hd2 : decide (600 < s.size) = false := decide_eq_false (by omega)
  have he : decide ((600 : Int) < (t.size : Int)) = false := decide_eq_false h2
  have he2 : decide (600 < t.size) = false := decide_eq_false (by omega)
  have HM := Lib.hid hmem
  have HAP := Lib.hid hap
  have HH := Lib.hid hope
  have HP := Lib.hid hp
  have HL := Lib.hid (show l.length ≤ 600 ∧ p.length ≤ 600 ∧ qs.length ≤ 1000 from ⟨by omega, by omega, hql⟩)
  clear ha hT h1 h2 hs ht hmem hap hope hp hl hpl hql hqs
  go_enter Tryd.func4, Tryd.ntmps4
  go_upto_region 9 with (first | (go_at_call 11; refine c.mono ?_; rintro e w1 ⟨rfl, hb⟩) | (go_at_call 12; refine (cA _ hb).mono ?_; rintro e w2 ⟨v0, rfl, r0, hb2⟩) | (go_at_call 14; refine (cB _).mono ?_; rintro e w3 ⟨v1, v2, rfl, r1, r2, hb3⟩))
  have hb12 := hb.trans (hb2.mono hb.size)
  have hbw : Below w.heap.size w w3 := hb12.trans (hb3.mono hb12.size)
  have r0' := Kd.R_below r0 hb3
  obtain ⟨A0, c0, rfl⟩ := Kd.R_slice r0
  obtain ⟨A1, c1, rfl⟩ := Kd.R_slice r1
  obtain ⟨A2, c2, rfl⟩ := Kd.R_slice r2
  have R0 := Lib.hid r0'
  have R1 := Lib.hid r1
  have R2 := Lib.hid r2
  have HB := Lib.hid hbw
  clear c cA cB hb hb2 hb3 hb12 hbw r0 r1 r2 r0' hd hd2 he he2
  rw [zs_length]
  go_wp2
  go_loopg [12, 13] qs.length (fun n u12 u13 wr => ∃ (i : Nat) (b : Bool), u12 = .bool b ∧ u13 = .int .i64 (i : Nat) ∧ Aside0 (i + n = qs.length ∧ Hope l p qs at_ i b) ∧ ∃ nd, wr = w3.drewN nd)
  case atStart => exact ⟨0, false, rfl, rfl, ⟨by omega, HH.out⟩, 0, rfl⟩
  case round =>
    obtain ⟨i, b, rfl, rfl, HI, nd, rfl⟩ := hrel
    have cS : ∀ (a : Int) (r : Bool) (n : Nat), foolscapref33_Stands.f 5000 l p a = some r → Calls Tryd.prog 15 #[.slice A1 l.length c1, .slice A2 p.length c2, .int .i64 a] (w3.drewN n) fun e w' => e = .returned (.bool r) ∧ ∃ m, w' = (w3.drewN n).drewN m := fun a r n h =>
      (foolscapref33_Stands.calls 5000 A1 c1 l A2 c2 p a r (w3.drewN n) (Kd.C_drewN (Kd.R_reads' R1.out).2.2 n) (Kd.R_reads' R1.out).2.1 (Kd.C_drewN (Kd.R_reads' R2.out).2.2 n) (Kd.R_reads' R2.out).2.1 h).mono fun e w' ⟨he, ⟨m, hm⟩⟩ => ⟨he, m, hm⟩
    by_cases hi : i < qs.length
    · have hlt := hi
      have e1 : decide ((i : Int) < (qs.length : Int)) = true := decide_eq_true (by omega)
      have e2 : decide (i < qs.length) = true := decide_eq_true hi
      obtain ⟨hq1, hq2⟩ := HM.out qs[i] (List.getElem_mem hi)
      obtain ⟨hL1, hL2, hL3⟩ := HL.out
      have hst := stands_nat l p qs[i] 5000 HP.out (by omega) (by omega) (by omega)
      rw [hq1] at hst
      have hC := (Kd.R_reads' R0.out).2.2
      rw [zs_length] at hC
      obtain ⟨ad, eA, hx⟩ := Kd.at_int hC (i : Int) (by omega) (by omega)
      subst eA
      rw [rd_zs qs i hi, Int.toNat_natCast] at hx
      have hnext : Hope l p qs at_ (i + 1) (nx at_ l.length p.length b qs[i]) := HI.out.2.next hi
      have hgk : i + gk = qs.length := HI.out.1
      have hprev : 0 < i → w3.cell? (ad.add (i - 1)) = some (.int .i64 ((qs.getD (i - 1) 0 : Nat) : Int)) ∧ qs.getD (i - 1) 0 + p.length ≤ qs[i] ∧ qs.getD (i - 1) 0 ≤ 1000 := fun h0 => by
        have e9 : qs.getD (i - 1) 0 = qs[i - 1] := by rw [List.getD_eq_getElem?_getD, List.getElem?_eq_getElem (by omega)]; rfl
        rw [e9]
        obtain ⟨ad2, eA2, hx2⟩ := Kd.at_int hC ((i - 1 : Nat) : Int) (by omega) (by omega)
        obtain rfl := Option.some.inj eA2
        rw [rd_zs qs (i - 1) (by omega), Int.toNat_natCast] at hx2
        have h3 := HAP.out (i - 1) (by omega)
        have e3 : i - 1 + 1 = i := by omega
        simp only [e3] at h3
        exact ⟨hx2, h3, (HM.out _ (List.getElem_mem (by omega))).2⟩
      have hw1 : wrap64 ((i : Int) + 1) = ((i + 1 : Nat) : Int) := by rw [w64 (by omega) (by omega)]; omega
      have hw0 : 0 < i → wrap64 ((i : Int) - 1) = ((i - 1 : Nat) : Int) := fun h0 => by rw [w64 (by omega) (by omega)]; omega
      obtain ⟨Q, hQ⟩ : ∃ Q, qs[i] = Q := ⟨_, rfl⟩
      rw [hQ] at hst hx hnext hprev hq2
      have hi0 : (0 : Int) ≤ (i : Int) := by omega
      have hi1 : (i : Int) < (qs.length : Int) := by omega
      have HN := Lib.hid hnext
      have HG := Lib.hid hgk
      have HQ2 := Lib.hid hq2
      have HI1 := Lib.hid hi
      have HL1 := Lib.hid (show l.length ≤ 600 ∧ p.length ≤ 600 from ⟨hL1, hL2⟩)
      clear hnext hgk hC hq1 hQ hlt hq2 hL1 hL2 hL3 hi
      go_upto_region 13 with fail
      by_cases h0 : i = 0
      · have d1 : decide ((0 : Int) < (i : Int)) = false := decide_eq_false (by omega)
        have d2 : decide (0 < i) = false := decide_eq_false (by omega)
        have d3 : ¬ 0 < i := by omega
        clear hprev hw0
        have H0 := Lib.hid h0
        clear h0
        go_quiet ((go_at_call 15; refine (cS _ true _ hst).mono ?_; rintro e w' ⟨rfl, m, rfl⟩; first | exact ⟨rfl, _, World.drewN_drewN _ _ _⟩ | exact ⟨rfl, _, Eq.trans (World.drewN_drewN _ _ _) (congrArg (World.drewN _) (Nat.add_assoc _ _ _))⟩))
        go_upto_region 15 with fail
        cases b with
        | true =>
          go_wp2
          go_roundg (gk - 1)
          case measure => have := HG.out; have := HI1.out; omega
          case rel => exact ⟨i + 1, nx at_ l.length p.length true Q, by rw [nx_true], by first | rfl | rw [hw1], ⟨by have := HG.out; have := HI1.out; omega, HN.out⟩, _, rfl⟩
        | false =>
          by_cases g1 : (0 : Int) ≤ at_
          · have g1d : decide ((0 : Int) ≤ at_) = true := decide_eq_true g1
            by_cases g2 : at_ ≤ (l.length : Int)
            · have g2d : decide (at_ ≤ (l.length : Int)) = true := decide_eq_true g2
              have k1 : wrap64 ((Q : Int) - at_) = (Q : Int) - at_ := w64 (by have := HQ2.out; have := HL1.out.1; omega) (by have := HQ2.out; omega)
              have k2 : wrap64 (at_ - (Q : Int)) = at_ - (Q : Int) := w64 (by have := HQ2.out; omega) (by have := HQ2.out; have := HL1.out.1; omega)
              by_cases g3 : (Q : Int) - at_ < (p.length : Int)
              · have g3d : decide ((Q : Int) - at_ < (p.length : Int)) = true := decide_eq_true g3
                have E := Lib.hid (nx_near g1 g2 g3)
                clear g1 g2 g3
                go_wp2
                go_roundg (gk - 1)
                case measure => have := HG.out; have := HI1.out; omega
                case rel => exact ⟨i + 1, nx at_ l.length p.length false Q, by rw [E.out], by first | rfl | rw [hw1], ⟨by have := HG.out; have := HI1.out; omega, HN.out⟩, _, rfl⟩
              · have g3d : decide ((Q : Int) - at_ < (p.length : Int)) = false := decide_eq_false g3
                have E := Lib.hid (nx_far (n := l.length) g3)
                clear g1 g2 g3
                go_wp2
                go_roundg (gk - 1)
                case measure => have := HG.out; have := HI1.out; omega
                case rel => exact ⟨i + 1, nx at_ l.length p.length false Q, by rw [E.out], by first | rfl | rw [hw1], ⟨by have := HG.out; have := HI1.out; omega, HN.out⟩, _, rfl⟩
            · have g2d : decide (at_ ≤ (l.length : Int)) = false := decide_eq_false g2
              have E := Lib.hid (nx_gt (m := p.length) (q := Q) g2)
              clear g1 g2
              go_wp2
              go_roundg (gk - 1)
              case measure => have := HG.out; have := HI1.out; omega
              case rel => exact ⟨i + 1, nx at_ l.length p.length false Q, by rw [E.out], by first | rfl | rw [hw1], ⟨by have := HG.out; have := HI1.out; omega, HN.out⟩, _, rfl⟩
          · have g1d : decide ((0 : Int) ≤ at_) = false := decide_eq_false g1
            have E := Lib.hid (nx_neg (n := l.length) (m := p.length) (q := Q) g1)
            clear g1
            go_wp2
            go_roundg (gk - 1)
            case measure => have := HG.out; have := HI1.out; omega
            case rel => exact ⟨i + 1, nx at_ l.length p.length false Q, by rw [E.out], by first | rfl | rw [hw1], ⟨by have := HG.out; have := HI1.out; omega, HN.out⟩, _, rfl⟩
      · have h0' : 0 < i := by omega
        obtain ⟨hxp, hap1, hp1⟩ := hprev h0'
        have hwp := hw0 h0'
        obtain ⟨Q0, hQ0⟩ : ∃ Q0, qs.getD (i - 1) 0 = Q0 := ⟨_, rfl⟩
        rw [hQ0] at hxp hap1 hp1
        have d1 : decide ((0 : Int) < (i : Int)) = true := decide_eq_true (by omega)
        have d2 : decide (0 < i) = true := decide_eq_true h0'
        have hj0 : (0 : Int) ≤ ((i - 1 : Nat) : Int) := by omega
        have hj1 : ((i - 1 : Nat) : Int) < (qs.length : Int) := by have := HI1.out; omega
        have hwd : wrap64 ((Q : Int) - (Q0 : Int)) = (Q : Int) - (Q0 : Int) := w64 (by have := HQ2.out; omega) (by have := HQ2.out; omega)
        have d4 : decide ((Q : Int) - (Q0 : Int) < (p.length : Int)) = false := decide_eq_false (by omega)
        obtain ⟨i0, hi0e⟩ : ∃ i0, i - 1 = i0 := ⟨_, rfl⟩
        rw [hi0e] at hxp hwp hj0 hj1
        clear hprev hw0 hap1 hp1 hQ0 h0 hi0e
        go_quiet ((go_at_call 15; refine (cS _ true _ hst).mono ?_; rintro e w' ⟨rfl, m, rfl⟩; first | exact ⟨rfl, _, World.drewN_drewN _ _ _⟩ | exact ⟨rfl, _, Eq.trans (World.drewN_drewN _ _ _) (congrArg (World.drewN _) (Nat.add_assoc _ _ _))⟩))
        go_upto_region 15 with fail
        cases b with
        | true =>
          go_wp2
          go_roundg (gk - 1)
          case measure => have := HG.out; have := HI1.out; omega
          case rel => exact ⟨i + 1, nx at_ l.length p.length true Q, by rw [nx_true], by first | rfl | rw [hw1], ⟨by have := HG.out; have := HI1.out; omega, HN.out⟩, _, rfl⟩
        | false =>
          by_cases g1 : (0 : Int) ≤ at_
          · have g1d : decide ((0 : Int) ≤ at_) = true := decide_eq_true g1
            by_cases g2 : at_ ≤ (l.length : Int)
            · have g2d : decide (at_ ≤ (l.length : Int)) = true := decide_eq_true g2
              have k1 : wrap64 ((Q : Int) - at_) = (Q : Int) - at_ := w64 (by have := HQ2.out; have := HL1.out.1; omega) (by have := HQ2.out; omega)
              have k2 : wrap64 (at_ - (Q : Int)) = at_ - (Q : Int) := w64 (by have := HQ2.out; omega) (by have := HQ2.out; have := HL1.out.1; omega)
              by_cases g3 : (Q : Int) - at_ < (p.length : Int)
              · have g3d : decide ((Q : Int) - at_ < (p.length : Int)) = true := decide_eq_true g3
                have E := Lib.hid (nx_near g1 g2 g3)
                clear g1 g2 g3
                go_wp2
                go_roundg (gk - 1)
                case measure => have := HG.out; have := HI1.out; omega
                case rel => exact ⟨i + 1, nx at_ l.length p.length false Q, by rw [E.out], by first | rfl | rw [hw1], ⟨by have := HG.out; have := HI1.out; omega, HN.out⟩, _, rfl⟩
              · have g3d : decide ((Q : Int) - at_ < (p.length : Int)) = false := decide_eq_false g3
                have E := Lib.hid (nx_far (n := l.length) g3)
                clear g1 g2 g3
                go_wp2
                go_roundg (gk - 1)
                case measure => have := HG.out; have := HI1.out; omega
                case rel => exact ⟨i + 1, nx at_ l.length p.length false Q, by rw [E.out], by first | rfl | rw [hw1], ⟨by have := HG.out; have := HI1.out; omega, HN.out⟩, _, rfl⟩
            · have g2d : decide (at_ ≤ (l.length : Int)) = false := decide_eq_false g2
              have E := Lib.hid (nx_gt (m := p.length) (q := Q) g2)
              clear g1 g2
              go_wp2
              go_roundg (gk - 1)
              case measure => have := HG.out; have := HI1.out; omega
              case rel => exact ⟨i + 1, nx at_ l.length p.length false Q, by rw [E.out], by first | rfl | rw [hw1], ⟨by have := HG.out; have := HI1.out; omega, HN.out⟩, _, rfl⟩
          · have g1d : decide ((0 : Int) ≤ at_) = false := decide_eq_false g1
            have E := Lib.hid (nx_neg (n := l.length) (m := p.length) (q := Q) g1)
            clear g1
            go_wp2
            go_roundg (gk - 1)
            case measure => have := HG.out; have := HI1.out; omega
            case rel => exact ⟨i + 1, nx at_ l.length p.length false Q, by rw [E.out], by first | rfl | rw [hw1], ⟨by have := HG.out; have := HI1.out; omega, HN.out⟩, _, rfl⟩
    · have e1 : decide ((i : Int) < (qs.length : Int)) = false := decide_eq_false (by omega)
      have e2 : decide (i < qs.length) = false := decide_eq_false hi
      obtain ⟨hL1, hL2, hL3⟩ := HL.out
      have hc := HI.out.2
      cases b with
      | true =>
        clear hc hL1 hL2 hL3
        go_wp2
        go_ret
        exact ⟨rfl, by (repeat apply pw_below_drewN); exact HB.out⟩
      | false =>
        by_cases g : at_ > (l.length : Int)
        · have gd : decide ((l.length : Int) < at_) = true := decide_eq_true g
          clear hc hL1 hL2 hL3 g
          go_wp2
          go_ret
          exact ⟨rfl, by (repeat apply pw_below_drewN); exact HB.out⟩
        · have gd : decide ((l.length : Int) < at_) = false := decide_eq_false g
          have hbad : at_ < 0 ∨ st l p at_.toNat = false := by
            rcases hc with h | ⟨j, h1, h2, _⟩ | h | h
            · cases h
            · omega
            · omega
            · exact h
          have hst := stands_bad l p at_ HP.out (by omega) (by omega) g hbad
          clear hc hL1 hL2 hL3 g hbad
          go_wp2_with (go_at_call 15; refine (cS _ false _ hst).mono ?_; rintro e w' ⟨rfl, m, rfl⟩)
          go_ret
          exact ⟨rfl, by (repeat apply pw_below_drewN); exact HB.out⟩

/-- FindMisses answers true, whatever it is asked. -/
theorem misses_true (s t : ByteArray) (at_ : Int) (w : World) (hT : Aside0 (XAmb w)) :
    Calls Tryd.prog 4 #[.string s, .string t, .int .i64 at_] w fun e w' => e = .returned (.bool true) ∧ Below w.heap.size w w' := by
  by_cases h1 : (s.size : Int) > 600
  · exact misses_great s t at_ w hT (.inl h1)
  · by_cases h2 : (t.size : Int) > 600
    · exact misses_great s t at_ w hT (.inr ⟨h1, h2⟩)
    · cases hs : textOf s with
      | none => exact misses_err s t at_ w hT h1 h2 2 (by decide) (by unfold askedR; rw [hs])
      | some l =>
        cases ht : textOf t with
        | none => exact misses_err s t at_ w hT h1 h2 2 (by decide) (by unfold askedR; rw [hs, ht])
        | some p =>
          by_cases hp : p = []
          · exact misses_err s t at_ w hT h1 h2 1 (by decide) (by unfold askedR; rw [hs, ht]; simp only [if_pos hp])
          · exact misses_ok s t at_ w hT h1 h2 l p hs ht hp
end Go.Proofs.YtabhfloclcmjnaaDoor.Pure
