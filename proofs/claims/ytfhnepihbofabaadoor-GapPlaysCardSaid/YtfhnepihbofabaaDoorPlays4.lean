/-
  The buffer and the reference's list side by side, and what each call leaves of them: by this session. Conditions: as typed.
-/
import Derived.Test.YtfhnepihbofabaaDoorPlays3
namespace Go.Proofs.YtfhnepihbofabaaDoor.X
open Go Go.RowKit Go.Lib Go.Shelf Go.Proofs.YtfhnepihbofabaaDoorW.PrintWords Go.Proofs.YtfhnepihbofabaaDoor.P
set_option linter.unusedVariables false
theorem joinS_runes0 {L : List Int} (h : allRunes L = true) : joinS L = strOf L := by
  unfold joinS
  rw [if_pos h]
  rfl
theorem Buf.more {W W' : World} {X Y : Nat → Prop} {g : Nat} {L : List Int} (h : Buf W X g L) (hb : Below W.heap.size W W') (hY : ∀ k, Y k → W.heap.size ≤ k ∧ k < W'.heap.size) : Buf W' (fun k => X k ∨ Y k) g L := by
  obtain ⟨A, m, B, h1, h2, h3, h⟩ := h
  exact ⟨A, m, B, h1, h2, h3, h.more hb hY⟩
theorem C_kp {X : Nat → Prop} {W W' : World} {A : Option Addr} {n : Nat} {L : List Int} (h : Kd.C (Kd.int .i32) W A n L) (hk : Kp X W W') (hA : ∀ a, A = some a → X a.block) : Kd.C (Kd.int .i32) W' A n L := by
  refine ⟨h.1, h.2.1, fun hn => ?_⟩
  obtain ⟨ad, e, hc⟩ := h.2.2 hn
  refine ⟨ad, e, fun j p hj => ?_⟩
  obtain ⟨c, hs, hr, hcell⟩ := hc j p hj
  refine ⟨c, hs, hr, fun i u hu => ?_⟩
  have := hcell i u hu
  have hbk := hk.block ad.block (hA ad e)
  rw [← this]
  exact World.cell?_of_block (w := W) (by rw [show (ad.add (j * (Kd.int .i32).sz + i)).block = ad.block by unfold Addr.add; split <;> rfl]; exact hbk)
/-- The buffer holds M, the list L lies apart from it. -/
def St (W w : World) (g : Nat) (M : List Int) (A : Option Addr) (c : Nat) (L : List Int) : Prop :=
  (∃ X : Nat → Prop, Buf w X g M ∧ (∀ k, k < g → X k) ∧ ∀ a, A = some a → X a.block) ∧ L.length ≤ c ∧ Kd.C (Kd.int .i32) w A L.length L ∧ Below W.heap.size W w ∧ W.heap.size ≤ g
variable {W w w' : World} {g c c' : Nat} {M L L' : List Int} {A A' : Option Addr}
theorem St.read (h : St W w g M A c L) (hb : Below w.heap.size w w') : St W w' g M A c L := by
  obtain ⟨⟨X, h1, h2, h3⟩, h4, h5, h6, h7⟩ := h
  exact ⟨⟨X, h1.below hb, h2, h3⟩, h4, Kd.C_below h5 hb, below_step h6 hb, h7⟩
theorem St.ref (h : St W w g M A c L) (hb : Below w.heap.size w w') (ho : Own w w' A A') (hc : L'.length ≤ c') (hC : Kd.C (Kd.int .i32) w' A' L'.length L') : St W w' g M A' c' L' := by
  obtain ⟨⟨X, h1, h2, h3⟩, h4, h5, h6, h7⟩ := h
  refine ⟨⟨_, h1.more (Y := fun k => w.heap.size ≤ k ∧ k < w'.heap.size) hb (fun k hk => hk), fun k hk => .inl (h2 k hk), fun a ha => ?_⟩, hc, hC, below_step h6 hb, h7⟩
  rcases ho with rfl | ho
  · exact .inl (h3 a ha)
  · exact .inr (ho a ha)
theorem St.new (h : Buf w (fun k => k < g) g M) (hb0 : Below W.heap.size W w) (hg : W.heap.size ≤ g) (hb : Below w.heap.size w w') (ho : Own w w' none A') (hc : L'.length ≤ c') (hC : Kd.C (Kd.int .i32) w' A' L'.length L') : St W w' g M A' c' L' :=
  St.ref (A := none) (c := 0) (L := []) ⟨⟨_, h, fun k hk => hk, fun a ha => by cases ha⟩, Nat.le_refl _, Kd.C_nil _ _, hb0, hg⟩ hb ho hc hC
theorem St.below (h : St W w g M A c L) : Below W.heap.size W w := h.2.2.2.1
theorem St.len (h : St W w g M A c L) : M.length ≤ 20000 := by
  obtain ⟨⟨X, ⟨A2, m2, B2, _, _, h3, _⟩, _⟩, _⟩ := h
  exact h3
theorem st_do (k at_ n : Int) (s : ByteArray) (h : St W w g M A c L) (hs : s.size ≤ 1000000) (hT : XAmb w) :
    Calls Tryd.prog 11 #[.pointer (some ⟨g, 0, none⟩), .agg #[.int .u8 k, .int .i64 at_, .int .i64 n, .string s]] w fun e w' => e = .returned (.int .i64 (actA M ⟨k, at_, n, s⟩).2) ∧ St W w' g (actA M ⟨k, at_, n, s⟩).1 A c L := by
  obtain ⟨⟨X, h1, h2, h3⟩, h4, h5, h6, h7⟩ := h
  refine (do_a k at_ n s h1 hs hT).mono ?_
  rintro e w2 ⟨rfl, hB, hk⟩
  exact ⟨rfl, ⟨X, hB, h2, h3⟩, h4, C_kp h5 hk h3, h6.trans ((hk.mono h2).out.mono h7), h7⟩
theorem st_len (h : St W w g M A c L) : Calls Tryd.prog 19 #[.pointer (some ⟨g, 0, none⟩)] w fun e w' => e = .returned (.int .i64 (M.length : Int)) ∧ Below w.heap.size w w' := by
  obtain ⟨⟨X, h1, h2, h3⟩, _⟩ := h
  exact len_w h1
theorem st_text (h : St W w g M A c L) (hr : allRunes M = true) : Calls Tryd.prog 13 #[.pointer (some ⟨g, 0, none⟩)] w fun e w' => e = .returned (.string (strOf M)) ∧ Below w.heap.size w w' := by
  obtain ⟨⟨X, h1, h2, h3⟩, _⟩ := h
  have := text_b h1
  rw [joinS_runes0 hr] at this
  exact this
theorem st_lines (h : St W w g M A c L) : Calls Tryd.prog 25 #[.pointer (some ⟨g, 0, none⟩)] w fun e w' => e = .returned (.int .i64 (((fa M).length + 1 : Nat) : Int)) ∧ Below w.heap.size w w' := by
  obtain ⟨⟨X, h1, h2, h3⟩, _⟩ := h
  exact lines_w h1
theorem st_digest (h : St W w g M A c L) (hr : allRunes M = true) (r : Int) (hd : ∀ W, Calls Tryd.prog 44 #[.string (strOf M)] W fun e w' => e = .returned (.int .u64 r) ∧ Below W.heap.size W w') : Calls Tryd.prog 30 #[.pointer (some ⟨g, 0, none⟩)] w fun e w' => e = .returned (.int .u64 r) ∧ Below w.heap.size w w' := by
  obtain ⟨⟨X, h1, h2, h3⟩, _⟩ := h
  exact digest_b h1 r (by rw [joinS_runes0 hr]; exact hd)
theorem st_rtext (h : St W w g M A c L) (hL : L.length ≤ 20000) (hr : allRunes L = true) : Calls Tryd.prog 28 #[.slice A L.length c] w fun e w' => e = .returned (.string (strOf L)) ∧ Below w.heap.size w w' := r_text A c L w h.2.2.1 h.2.1 hL hr
theorem st_rlines (h : St W w g M A c L) (hL : L.length ≤ 20000) : Calls Tryd.prog 29 #[.slice A L.length c] w fun e w' => e = .returned (.int .i64 (((fa L).length + 1 : Nat) : Int)) ∧ Below w.heap.size w w' := r_lines A c L w h.2.2.1 h.2.1 hL
theorem st_rins (at_ : Int) (s : ByteArray) (h : St W w g L A c L) (hs : s.size ≤ 1000000) : Calls Tryd.prog 26 #[.slice A L.length c, .int .i64 at_, .string s] w fun e w' => ∃ A' c', e = .returned (.tuple #[.slice A' (insR L at_ s).1.length c', .int .i64 (insR L at_ s).2]) ∧ St W w' g L A' c' (insR L at_ s).1 ∧ Below w.heap.size w w' := by
  refine (r_ins A c L at_ s w h.2.2.1 h.2.1 h.len hs).mono ?_
  rintro e w2 ⟨A', c', rfl, hc, hC, ho, hb⟩
  exact ⟨A', c', rfl, h.ref hb ho hc hC, hb⟩
theorem st_rdel (at_ n : Int) (h : St W w g L A c L) : Calls Tryd.prog 27 #[.slice A L.length c, .int .i64 at_, .int .i64 n] w fun e w' => ∃ A' c', e = .returned (.tuple #[.slice A' (delR L at_ n).1.length c', .int .i64 (delR L at_ n).2]) ∧ St W w' g L A' c' (delR L at_ n).1 ∧ Below w.heap.size w w' := by
  refine (r_del A c L at_ n w h.2.2.1 h.2.1 h.len).mono ?_
  rintro e w2 ⟨A', c', rfl, hc, hC, ho, hb⟩
  exact ⟨A', c', rfl, h.ref hb ho hc hC, hb⟩
end Go.Proofs.YtfhnepihbofabaaDoor.X
