/-
  runes.Cut: its contract in the print's form, by this session. Conditions: the two tables of unicode/utf8 as they are laid; a text of at most 2^45 bytes.
-/
import Derived.Test.YteceigbiemohnaaDoorSplit
namespace Go.Proofs.YteceigbiemohnaaDoor.X
open Go Go.RowKit Go.Shelf Go.Proofs.YteceigbiemohnaaDoorW.PrintWords
set_option linter.unusedVariables false

theorem stp_length (s : ByteArray) : ∀ f pos, pos ≤ s.size → (stp s f pos).length ≤ s.size - pos
  | 0, pos, _ => by simp [stp]
  | f + 1, pos, hp => by
    simp only [stp]
    split
    · rename_i h
      split
      · simp; omega
      · have h1 := decode_pos s pos h
        have h2 := decode_le s pos h
        have := stp_length s f (pos + (Utf8.decode s pos).2) h2
        simp only [List.length_cons]
        omega
    · simp
theorem textOf_length {s : ByteArray} {l : List Int} (h : textOf s = some l) : l.length ≤ s.size := by
  unfold textOf at h
  split at h
  · obtain rfl := Option.some.inj h
    have := stp_length s s.size 0 (Nat.zero_le _)
    simpa using this
  · cases h
theorem tape_below {g B : Nat} {W w1 : World} (hb : Below W.heap.size W w1) (hg : g < W.heap.size) {v : Value} (h : W.cell? ⟨g, 0, none⟩ = some v) : w1.cell? ⟨g, 0, none⟩ = some v := (hb.cell (p := ⟨g, 0, none⟩) hg).trans h

set_option maxRecDepth 100000 in
set_option maxHeartbeats 4000000 in
theorem cut_none (s : ByteArray) (i n : Int) (w : World) (hs : s.size ≤ 35184372088832) (hT : XAmb w) (h : textOf s = none) :
    Calls Tryd.prog 10 #[.string s, .int .i64 i, .int .i64 n] w fun e w' => e = .returned (.tuple #[.string ⟨#[]⟩, .int .i64 2]) ∧ Below w.heap.size w w' := by
  have hB0 : Below w.heap.size w ((w.alloc (.cells #[.int .i64 i] 3)).alloc (.cells #[.int .i64 n] 3)) := ((Below.refl _ w).alloc (Nat.le_refl _) _).alloc (by simp) _
  have c := callsIn_wide.1 (len_in s ((w.alloc (.cells #[.int .i64 i] 3)).alloc (.cells #[.int .i64 n] 3)) (by omega) (XAmb_below hT hB0))
  rw [lenU_of_none h] at c
  go_enter Tryd.func10, Tryd.ntmps10
  go_wp2_with (go_at_call 17; refine c.mono ?_; rintro e w1 ⟨rfl, hb⟩)
  go_ret2
  exact ⟨rfl, hB0.trans (hb.mono hB0.size)⟩

set_option maxRecDepth 100000 in
set_option maxHeartbeats 4000000 in
theorem cut_range (s : ByteArray) (i n : Int) (w : World) (l : List Int) (hs : s.size ≤ 35184372088832) (hT : XAmb w) (h : textOf s = some l)
    (hr : i < 0 ∨ (l.length : Int) < i ∨ n < 0 ∨ (l.length : Int) - i < n) :
    Calls Tryd.prog 10 #[.string s, .int .i64 i, .int .i64 n] w fun e w' => e = .returned (.tuple #[.string ⟨#[]⟩, .int .i64 3]) ∧ Below w.heap.size w w' := by
  have hB0 : Below w.heap.size w ((w.alloc (.cells #[.int .i64 i] 3)).alloc (.cells #[.int .i64 n] 3)) := ((Below.refl _ w).alloc (Nat.le_refl _) _).alloc (by simp) _
  have c := callsIn_wide.1 (len_in s ((w.alloc (.cells #[.int .i64 i] 3)).alloc (.cells #[.int .i64 n] 3)) (by omega) (XAmb_below hT hB0))
  rw [lenU_of_some h] at c
  have hll : l.length ≤ s.size := textOf_length h
  obtain ⟨m, hm⟩ : ∃ m, l.length = m := ⟨_, rfl⟩
  rw [hm] at c hr hll
  clear hm h hT
  have b0 := (Boxed.new w 3 (.int .i64 i)).alloc (.cells #[.int .i64 n] 3)
  have b1 := Boxed.new (w.alloc (.cells #[.int .i64 i] 3)) 3 (.int .i64 n)
  rw [World.size_alloc] at b1
  have hsz : ((w.alloc (.cells #[.int .i64 i] 3)).alloc (.cells #[.int .i64 n] 3)).heap.size = w.heap.size + 2 := by simp
  have hr' : i < 0 ∨ (0 ≤ i ∧ (m : Int) < i) ∨ (0 ≤ i ∧ i ≤ (m : Int) ∧ n < 0) ∨ (0 ≤ i ∧ i ≤ (m : Int) ∧ 0 ≤ n ∧ (m : Int) - i < n) := by omega
  clear hr
  rcases hr' with h1 | ⟨h1, h2⟩ | ⟨h1, h2, h3⟩ | ⟨h1, h2, h3, h4⟩
  all_goals
    go_enter Tryd.func10, Tryd.ntmps10
    go_wp2_with (go_at_call 17; refine c.mono ?_; rintro e w1 ⟨rfl, hb⟩; have d0 := cell_at ((hb.block _ (by omega)).trans b0); have d1 := cell_at ((hb.block _ (by omega)).trans b1))
    go_ret2
    exact ⟨rfl, hB0.trans (hb.mono hB0.size)⟩

attribute [local go_sem] Oper.semAt_some
/-- The place behind what has come, as the walk adds it up. -/
def atW (pre : List (Int × Int)) : Int := pre.foldl (fun a x => wrap64 (a + x.2)) 0
theorem atW_snoc (pre : List (Int × Int)) (x : Int × Int) : atW (pre ++ [x]) = wrap64 (atW pre + x.2) := by simp [atW]

/-- The widths, added up. -/
def offL : List (Int × Int) → Int
  | [] => 0
  | x :: r => x.2 + offL r
theorem offL_append (a b : List (Int × Int)) : offL (a ++ b) = offL a + offL b := by
  induction a with
  | nil => simp [offL]
  | cons x r ih => simp only [List.cons_append, offL, ih]; omega
theorem offL_nonneg {l : List (Int × Int)} (h : ∀ x ∈ l, 0 ≤ x.2) : 0 ≤ offL l := by
  induction l with
  | nil => simp [offL]
  | cons x r ih =>
    have h1 := h x (by simp)
    have h2 := ih (fun y hy => h y (List.mem_cons_of_mem _ hy))
    simp only [offL]; omega
theorem atW_fold {l : List (Int × Int)} (h : ∀ x ∈ l, 0 ≤ x.2) : ∀ a : Int, 0 ≤ a → a + offL l ≤ 35184372088832 → l.foldl (fun a x => wrap64 (a + x.2)) a = a + offL l := by
  induction l with
  | nil => intro a _ _; simp [offL]
  | cons x r ih =>
    intro a ha hb
    have h1 := h x (by simp)
    have h2 := offL_nonneg (fun y hy => h y (List.mem_cons_of_mem _ hy))
    simp only [offL] at hb
    have e : wrap64 (a + x.2) = a + x.2 := by unfold wrap64; omega
    rw [List.foldl_cons, e, ih (fun y hy => h y (List.mem_cons_of_mem _ hy)) (a + x.2) (by omega) (by omega)]
    simp only [offL]; omega
theorem stp_widths {s : ByteArray} : ∀ f pos, ∀ x ∈ stp s f pos, 0 ≤ x.2
  | 0, pos, x, hx => by simp [stp] at hx
  | f + 1, pos, x, hx => by
    simp only [stp] at hx
    split at hx
    · split at hx
      · simp at hx; subst hx; simp
      · rcases List.mem_cons.1 hx with rfl | h
        · simp
        · exact stp_widths f _ x h
    · simp at hx
theorem stp_sum {s : ByteArray} : ∀ f pos, pos ≤ s.size → s.size ≤ pos + f → (∀ x ∈ stp s f pos, 0 ≤ x.1) → offL (stp s f pos) = s.size - pos
  | 0, pos, hp, hf, _ => by simp [stp, offL]; omega
  | f + 1, pos, hp, hf, hx => by
    by_cases h : pos < s.size
    · have e := relS_next h hx (by omega)
      have h2 := decode_le s pos h
      have h1 := decode_pos s pos h
      rw [e] at hx ⊢
      have ih := stp_sum f (pos + (Utf8.decode s pos).2) h2 (by omega) (fun y hy => hx y (List.mem_cons_of_mem _ hy))
      simp only [offL, Nat.add_sub_cancel, ih]; omega
    · rw [stp_end s _ pos h]; simp [offL]; omega
theorem textOf_valid {s : ByteArray} {l : List Int} (h : textOf s = some l) : ∀ x ∈ stp s s.size 0, 0 ≤ x.1 := by
  unfold textOf at h
  split at h
  · rename_i ha
    exact fun x hx => of_decide_eq_true (List.all_eq_true.1 ha x hx)
  · cases h
theorem textOf_stp {s : ByteArray} {l : List Int} (h : textOf s = some l) : l.length = (stp s s.size 0).length := by
  unfold textOf at h
  split at h
  · obtain rfl := Option.some.inj h; simp
  · cases h
/-- Where a text's rune k begins. -/
def offN (s : ByteArray) (k : Nat) : Nat := (offL ((stp s s.size 0).take k)).toNat
def cutR (s : ByteArray) (i n : Nat) : ByteArray := s.extract (offN s i) (offN s (i + n))
theorem off_split (s : ByteArray) (k : Nat) : offL ((stp s s.size 0).take k) + offL ((stp s s.size 0).drop k) = offL (stp s s.size 0) := by
  rw [← offL_append, List.take_append_drop]
theorem off_total {s : ByteArray} {l : List Int} (h : textOf s = some l) : offL (stp s s.size 0) = s.size := by
  have := stp_sum s.size 0 (Nat.zero_le _) (by omega) (textOf_valid h)
  simpa using this
theorem off_take_nonneg (s : ByteArray) (k : Nat) : 0 ≤ offL ((stp s s.size 0).take k) := offL_nonneg fun x hx => stp_widths _ _ x (List.mem_of_mem_take hx)
theorem off_drop_nonneg (s : ByteArray) (k : Nat) : 0 ≤ offL ((stp s s.size 0).drop k) := offL_nonneg fun x hx => stp_widths _ _ x (List.mem_of_mem_drop hx)
theorem offN_le {s : ByteArray} {l : List Int} (h : textOf s = some l) (hs : s.size ≤ 35184372088832) (k : Nat) : offN s k ≤ s.size := by
  have h1 := off_split s k
  have h2 := off_total h
  have h3 := off_drop_nonneg s k
  have h4 := off_take_nonneg s k
  unfold offN; omega
theorem offN_all {s : ByteArray} {l : List Int} (h : textOf s = some l) (hs : s.size ≤ 35184372088832) : offN s (stp s s.size 0).length = s.size := by
  have h2 := off_total h
  unfold offN; rw [List.take_length]; omega
theorem offN_mono {s : ByteArray} {l : List Int} (h : textOf s = some l) (hs : s.size ≤ 35184372088832) {i j : Nat} (hij : i ≤ j) : offN s i ≤ offN s j := by
  have e : (stp s s.size 0).take j = (stp s s.size 0).take i ++ ((stp s s.size 0).drop i).take (j - i) := by
    rw [← List.take_add]; congr 1; omega
  have h3 : 0 ≤ offL (((stp s s.size 0).drop i).take (j - i)) := offL_nonneg fun x hx => stp_widths _ _ x (List.mem_of_mem_drop (List.mem_of_mem_take hx))
  have h4 := off_take_nonneg s i
  unfold offN; rw [e, offL_append]; omega
theorem atW_off {s : ByteArray} {l : List Int} (h : textOf s = some l) (hs : s.size ≤ 35184372088832) (k : Nat) : atW ((stp s s.size 0).take k) = (offN s k : Int) := by
  have h1 := off_split s k
  have h2 := off_total h
  have h3 := off_drop_nonneg s k
  have h4 := off_take_nonneg s k
  unfold atW
  rw [atW_fold (fun x hx => stp_widths _ _ x (List.mem_of_mem_take hx)) 0 (Int.le_refl _) (by omega)]
  unfold offN; omega
theorem prefix_take {α : Type} {p l : List α} (h : p <+: l) {k : Nat} (hk : k ≤ p.length) : p.take k = l.take k := by
  obtain ⟨r, rfl⟩ := h
  rw [List.take_append_of_le_length hk]
theorem heap_same {W : World} {k b : Nat} {v : Value} (h : k ≠ b) : (W.setCell ⟨b, 0, none⟩ v).heap[k]? = W.heap[k]? := Below.heap_setCell W _ _ _ h
theorem heap_far {W : World} {k b : Nat} {v : Value} {o : Obj} (hk : W.heap[k]? = some o) (h : k ≠ b) : (W.setCell ⟨b, 0, none⟩ v).heap[k]? = some o := (heap_same h).trans hk
/-- Between two rounds: the cells of from, n, first, last, at, count. -/
def CutI (s : ByteArray) (i n : Nat) (w : World) (B : Nat) (pre : List (Int × Int)) (W : World) : Prop :=
  W.heap[w.heap.size]? = some (.cells #[.int .i64 i] 3 (0, 0)) ∧ W.heap[w.heap.size + 1]? = some (.cells #[.int .i64 n] 3 (0, 0)) ∧
  W.heap[B]? = some (.cells #[.int .i64 (if i < pre.length then atW (pre.take i) else s.size)] 3 (0, 0)) ∧ W.heap[B + 1]? = some (.cells #[.int .i64 s.size] 3 (0, 0)) ∧
  W.heap[B + 2]? = some (.cells #[.int .i64 (atW pre)] 3 (0, 0)) ∧ W.heap[B + 3]? = some (.cells #[.int .i64 pre.length] 3 (0, 0)) ∧ pre.length ≤ i + n
/-- Behind the round that breaks. -/
def CutX (i n : Nat) (w : World) (B : Nat) (pre : List (Int × Int)) (W : World) : Prop :=
  W.heap[B]? = some (.cells #[.int .i64 (atW (pre.take i))] 3 (0, 0)) ∧ W.heap[B + 1]? = some (.cells #[.int .i64 (atW (pre.take (i + n)))] 3 (0, 0)) ∧ pre.length = i + n + 1
theorem cutI_abid {s : ByteArray} {i n : Nat} {w : World} {B b h : Nat} {pre : List (Int × Int)} {W W' : World} {row : Option Nat} (hs : CutI s i n w B pre W) (hg : W.grownBy W' row) (hr : ∀ r, row = some r → Turns h b r W) (hb : w.heap.size + 2 ≤ B ∧ b = B + 4) : CutI s i n w B pre W' := by
  obtain ⟨h0, h1, h2, h3, h4, h5, h6⟩ := hs
  exact ⟨abid_cells h0 hg hr (by omega), abid_cells h1 hg hr (by omega), abid_cells h2 hg hr (by omega), abid_cells h3 hg hr (by omega), abid_cells h4 hg hr (by omega), abid_cells h5 hg hr (by omega), h6⟩
theorem cutX_abid {i n : Nat} {w : World} {B b h : Nat} {pre : List (Int × Int)} {W W' : World} {row : Option Nat} (hs : CutX i n w B pre W) (hg : W.grownBy W' row) (hr : ∀ r, row = some r → Turns h b r W) (hb : w.heap.size + 2 ≤ B ∧ b = B + 4) : CutX i n w B pre W' := by
  obtain ⟨h0, h1, h2⟩ := hs
  exact ⟨abid_cells h0 hg hr (by omega), abid_cells h1 hg hr (by omega), h2⟩

set_option maxRecDepth 100000 in
set_option maxHeartbeats 4000000 in
theorem cut_in (s : ByteArray) (i n : Nat) (w : World) (l : List Int) (hs : s.size ≤ 35184372088832) (hT : XAmb w) (h : textOf s = some l) (hi : i ≤ l.length) (hn : n ≤ l.length - i) :
    CallsIn Fence.wide 8 Tryd.prog 10 #[.string s, .int .i64 i, .int .i64 n] w fun e w' => e = .returned (.tuple #[.string (cutR s i n), .int .i64 0]) ∧ Below w.heap.size w w' := by
  have hB0 : Below w.heap.size w ((w.alloc (.cells #[.int .i64 i] 3)).alloc (.cells #[.int .i64 n] 3)) := ((Below.refl _ w).alloc (Nat.le_refl _) _).alloc (by simp) _
  have c := callsIn_wide.1 (len_in s ((w.alloc (.cells #[.int .i64 i] 3)).alloc (.cells #[.int .i64 n] 3)) (by omega) (XAmb_below hT hB0))
  rw [lenU_of_some h] at c
  obtain ⟨R, hR0⟩ : ∃ R, cutR s i n = R := ⟨_, rfl⟩
  rw [hR0]
  have HR0 := Lib.hid hR0
  clear hR0
  have hll : l.length ≤ s.size := textOf_length h
  obtain ⟨m, hm⟩ : ∃ m, l.length = m := ⟨_, rfl⟩
  rw [hm] at c hi hn hll
  have HM := Lib.hid hm
  clear hm
  have b0 := (Boxed.new w 3 (.int .i64 i)).alloc (.cells #[.int .i64 n] 3)
  have b1 := Boxed.new (w.alloc (.cells #[.int .i64 i] 3)) 3 (.int .i64 n)
  rw [World.size_alloc] at b1
  have hsz : ((w.alloc (.cells #[.int .i64 i] 3)).alloc (.cells #[.int .i64 n] 3)).heap.size = w.heap.size + 2 := by simp
  refine callsIn_of_wp_marks Tryd.func10 rfl trivial ?_ rfl
  simp only [Tryd.ntmps10, List.size_toArray, List.length_cons, List.length_nil, Nat.reduceAdd, Nat.reduceSub, Array.replicate_succ, Array.replicate_zero, List.push_toArray, List.append_toArray, List.nil_append, List.cons_append]
  gi_wp2_with (first | (refine ⟨trivial, ?_⟩; gi_at_call 17; refine (callsIn_wide.2 c).mono ?_; rintro e w1 ⟨rfl, hb⟩; have d0 := cell_at ((hb.block _ (by omega)).trans b0); have d1 := cell_at ((hb.block _ (by omega)).trans b1)) | (refine ⟨trivial, ?_⟩; gi_at_call 22; refine (callsIn_wide.2 (steps_calls _ _)).mono ?_; rintro e w' ⟨rfl, rfl⟩))
  obtain ⟨W0, hW0⟩ : ∃ W0, ((((w1.alloc (.cells #[.int .i64 s.size] 3)).alloc (.cells #[.int .i64 s.size] 3)).alloc (.cells #[.int .i64 0] 3)).alloc (.cells #[.int .i64 0] 3)).alloc (.cells #[.string s] 9) = W0 := ⟨_, rfl⟩
  have hz : W0.heap.size = w1.heap.size + 5 := by rw [← hW0]; simp
  have hz1 : w.heap.size + 2 ≤ w1.heap.size := by have := hb.size; omega
  have hB1 : Below w.heap.size w W0 := by
    rw [← hW0]; exact (hB0.trans (hb.mono hB0.size)).trans (((((((Below.refl _ w1).alloc (Nat.le_refl _) _).alloc (by simp) _).alloc (by simp; omega) _).alloc (by simp; omega) _).alloc (by simp; omega) _).mono (by omega))
  have hb5 : ∀ k, k < w1.heap.size → W0.heap[k]? = w1.heap[k]? := by
    rw [← hW0]; exact (((((((Below.refl _ w1).alloc (Nat.le_refl _) _).alloc (by simp) _).alloc (by simp; omega) _).alloc (by simp; omega) _).alloc (by simp; omega) _)).block
  have e0 : W0.heap[w.heap.size]? = some (.cells #[.int .i64 i] 3 (0, 0)) := (hb5 _ (by omega)).trans ((hb.block _ (by omega)).trans b0)
  have e1 : W0.heap[w.heap.size + 1]? = some (.cells #[.int .i64 n] 3 (0, 0)) := (hb5 _ (by omega)).trans ((hb.block _ (by omega)).trans b1)
  have e2 : W0.heap[w1.heap.size]? = some (.cells #[.int .i64 s.size] 3 (0, 0)) := by
    rw [← hW0]; exact ((((Boxed.new w1 3 (.int .i64 s.size)).alloc _).alloc _).alloc _).alloc _
  have e3 : W0.heap[w1.heap.size + 1]? = some (.cells #[.int .i64 s.size] 3 (0, 0)) := by
    rw [← hW0]; have h := (((Boxed.new (w1.alloc (.cells #[.int .i64 s.size] 3)) 3 (.int .i64 s.size)).alloc (.cells #[.int .i64 0] 3)).alloc (.cells #[.int .i64 0] 3)).alloc (.cells #[.string s] 9); simp only [World.size_alloc] at h; exact h
  have e4 : W0.heap[w1.heap.size + 2]? = some (.cells #[.int .i64 0] 3 (0, 0)) := by
    rw [← hW0]; have h := ((Boxed.new ((w1.alloc (.cells #[.int .i64 s.size] 3)).alloc (.cells #[.int .i64 s.size] 3)) 3 (.int .i64 0)).alloc (.cells #[.int .i64 0] 3)).alloc (.cells #[.string s] 9); simp only [World.size_alloc] at h; exact h
  have e5 : W0.heap[w1.heap.size + 3]? = some (.cells #[.int .i64 0] 3 (0, 0)) := by
    rw [← hW0]; have h := (Boxed.new (((w1.alloc (.cells #[.int .i64 s.size] 3)).alloc (.cells #[.int .i64 s.size] 3)).alloc (.cells #[.int .i64 0] 3)) 3 (.int .i64 0)).alloc (.cells #[.string s] 9); simp only [World.size_alloc] at h; exact h
  have e6 : W0.heap[w1.heap.size + 4]? = some (.cells #[.string s] 9 (0, 0)) := by
    rw [← hW0]; have h := Boxed.new ((((w1.alloc (.cells #[.int .i64 s.size] 3)).alloc (.cells #[.int .i64 s.size] 3)).alloc (.cells #[.int .i64 0] 3)).alloc (.cells #[.int .i64 0] 3)) 9 (.string s); simp only [World.size_alloc] at h; exact h
  have hlt1 : 0 < w.heap.size := World.block_lt_of_cell? w _ (hT.1 0 (by omega))
  have hlt2 : 1 < w.heap.size := World.block_lt_of_cell? w _ (hT.2 0 (by omega)).1
  have hT0 := tabs_below hT hB1 hlt1 hlt2
  rw [hW0]
  clear hW0 hb5 d0 d1 c b0 b1 hB0
  obtain ⟨B, hBe⟩ : ∃ B, w1.heap.size = B := ⟨_, rfl⟩
  rw [hBe] at hz hz1 e2 e3 e4 e5 e6 ⊢
  clear hBe hb
  refine wpIn_range_cell rfl (by omega) (gf := 28) (lb := #[.pointer (some ⟨B + 4, 0, none⟩)]) rfl trivial (enters_of Tryd.func28 (by kernel_rfl) rfl) (encs := encs2) (n₀ := w.heap.size) (b := B + 4) (by omega) (by omega)
    (iter_calls s w.heap.size (B + 4) W0 (by omega) (by omega) e6 hT0 hlt1 hlt2) (fun _ => rfl)
    (fun pre W => CutI s i n w B pre W ∧ Below w.heap.size w W)
    (fun c pre W => (c = .exit 0 ∧ CutX i n w B pre W) ∧ Below w.heap.size w W)
    (abid_and (fun p A B row hs hg hr => cutI_abid hs hg hr (by omega)) (abid_below (Nat.le_refl _) (by omega) (by omega)))
    (fun c => abid_and (fun p A B row hs hg hr => ⟨hs.1, cutX_abid hs.2 hg hr (by omega)⟩) (abid_below (Nat.le_refl _) (by omega) (by omega)))
    ⟨⟨e0, e1, by simpa using e2, e3, e4, e5, by simp⟩, hB1⟩
    ?a1 ?assign ?body ?done ?stop
  case assign =>
    intro l x W K hK
    simp only [encs2]
    gi_wp2
    exact hK
  case body =>
    rintro l pre x W ⟨⟨h0, h1, h2, h3, h4, h5, hle⟩, hB⟩ hN
    have c0 := cell_at h0
    have c1 := cell_at h1
    have c2 := cell_at h2
    have c3 := cell_at h3
    have c4 := cell_at h4
    have c5 := cell_at h5
    have f2 := frozen_at h2
    have f3 := frozen_at h3
    have f4 := frozen_at h4
    have f5 := frozen_at h5
    by_cases hpi : pre.length = i
    · by_cases hn0 : pre.length = i + n
      · have t1 : ((pre.length : Int) == (i : Int)) = true := by simp; omega
        have t2 : ((pre.length : Int) == (i : Int) + (n : Int)) = true := by simp; omega
        have Hpi := Lib.hid hpi
        have Hn0 := Lib.hid hn0
        clear hpi hn0
        gi_wp2
        refine ⟨(KeepsOthers.setCell _ _ _).trans (KeepsOthers.setCell _ _ _), ⟨rfl, ?_, ?_, ?_⟩, (hB.setCell (p := ⟨B, 0, none⟩) (by simp; omega) _).setCell (p := ⟨B + 1, 0, none⟩) (by simp; omega) _⟩
        · rw [List.take_left' Hpi.out]; exact heap_far (Boxed.set (B := B) _ h2) (by omega)
        · rw [List.take_left' Hn0.out]; exact Boxed.set (B := B + 1) _ (heap_far h3 (by omega))
        · rw [List.length_append, List.length_singleton, Hn0.out]
      · have t1 : ((pre.length : Int) == (i : Int)) = true := by simp; omega
        have t2 : ((pre.length : Int) == (i : Int) + (n : Int)) = false := by simp; omega
        have Hpi := Lib.hid hpi
        have Hn0 := Lib.hid hn0
        clear hpi hn0
        gi_wp2
        refine ⟨((KeepsOthers.setCell _ _ _).trans (KeepsOthers.setCell _ _ _)).trans (KeepsOthers.setCell _ _ _), ⟨(heap_same (by omega)).trans ((heap_same (by omega)).trans (heap_same (by omega))), (((Below.refl w.heap.size W).setCell (p := ⟨B, 0, none⟩) (by simp; omega) _).setCell (p := ⟨B + 2, 0, none⟩) (by simp; omega) _).setCell (p := ⟨B + 3, 0, none⟩) (by simp; omega) _⟩, ⟨?_, ?_, ?_, ?_, ?_, ?_, ?_⟩, ((hB.setCell (p := ⟨B, 0, none⟩) (by simp; omega) _).setCell (p := ⟨B + 2, 0, none⟩) (by simp; omega) _).setCell (p := ⟨B + 3, 0, none⟩) (by simp; omega) _⟩
        · exact heap_far (heap_far (heap_far h0 (by omega)) (by omega)) (by omega)
        · exact heap_far (heap_far (heap_far h1 (by omega)) (by omega)) (by omega)
        · rw [if_pos (by have := Hpi.out; simp; omega), List.take_left' Hpi.out]; exact heap_far (heap_far (Boxed.set (B := B) _ h2) (by omega)) (by omega)
        · exact heap_far (heap_far (heap_far h3 (by omega)) (by omega)) (by omega)
        · rw [atW_snoc]; exact heap_far (Boxed.set (B := B + 2) _ (heap_far h4 (by omega))) (by omega)
        · rw [List.length_append, List.length_singleton, Int.natCast_add]; exact Boxed.set (B := B + 3) _ (heap_far (heap_far h5 (by omega)) (by omega))
        · have := Hn0.out; simp; omega
    · by_cases hn0 : pre.length = i + n
      · have t1 : ((pre.length : Int) == (i : Int)) = false := by simp; omega
        have t2 : ((pre.length : Int) == (i : Int) + (n : Int)) = true := by simp; omega
        have Hpi := Lib.hid hpi
        have Hn0 := Lib.hid hn0
        clear hpi hn0
        gi_wp2
        refine ⟨KeepsOthers.setCell _ _ _, ⟨rfl, ?_, ?_, ?_⟩, hB.setCell (p := ⟨B + 1, 0, none⟩) (by simp; omega) _⟩
        · rw [List.take_append_of_le_length (by have := Hn0.out; omega)]; rw [if_pos (by have := Hn0.out; have := Hpi.out; omega)] at h2; exact heap_far h2 (by omega)
        · rw [List.take_left' Hn0.out]; exact Boxed.set (B := B + 1) _ h3
        · rw [List.length_append, List.length_singleton, Hn0.out]
      · have t1 : ((pre.length : Int) == (i : Int)) = false := by simp; omega
        have t2 : ((pre.length : Int) == (i : Int) + (n : Int)) = false := by simp; omega
        have Hpi := Lib.hid hpi
        have Hn0 := Lib.hid hn0
        clear hpi hn0
        gi_wp2
        refine ⟨(KeepsOthers.setCell _ _ _).trans (KeepsOthers.setCell _ _ _), ⟨(heap_same (by omega)).trans (heap_same (by omega)), ((Below.refl w.heap.size W).setCell (p := ⟨B + 2, 0, none⟩) (by simp; omega) _).setCell (p := ⟨B + 3, 0, none⟩) (by simp; omega) _⟩, ⟨?_, ?_, ?_, ?_, ?_, ?_, ?_⟩, (hB.setCell (p := ⟨B + 2, 0, none⟩) (by simp; omega) _).setCell (p := ⟨B + 3, 0, none⟩) (by simp; omega) _⟩
        · exact heap_far (heap_far h0 (by omega)) (by omega)
        · exact heap_far (heap_far h1 (by omega)) (by omega)
        · have e : (if i < (pre ++ [x]).length then atW ((pre ++ [x]).take i) else (s.size : Int)) = (if i < pre.length then atW (pre.take i) else (s.size : Int)) := by
            have := Hpi.out
            by_cases hlt : i < pre.length
            · rw [if_pos hlt, if_pos (by simp; omega), List.take_append_of_le_length (by omega)]
            · rw [if_neg hlt, if_neg (by simp; omega)]
          rw [e]; exact heap_far (heap_far h2 (by omega)) (by omega)
        · exact heap_far (heap_far h3 (by omega)) (by omega)
        · rw [atW_snoc]; exact heap_far (Boxed.set (B := B + 2) _ h4) (by omega)
        · rw [List.length_append, List.length_singleton, Int.natCast_add]; exact Boxed.set (B := B + 3) _ (heap_far h5 (by omega))
        · have := Hn0.out; simp; omega
  case done =>
    rintro D ys W hD rfl ⟨⟨h0, h1, h2, h3, h4, h5, hle⟩, hB⟩ hK
    have hym : (stp s s.size 0).length = m := by rw [← HM.out]; exact (textOf_stp h).symm
    have hin : i + n = m := by rw [hym] at hle; omega
    have hv : (if i < (stp s s.size 0).length then atW ((stp s s.size 0).take i) else (s.size : Int)) = (offN s i : Int) := by
      rw [hym]
      split
      · exact atW_off h hs i
      · rw [show i = m by omega, ← hym, offN_all h hs]
    rw [hv] at h2
    have hle2 : offN s i ≤ s.size := offN_le h hs i
    have hres : cutR s i n = s.extract (offN s i) s.size := by
      unfold cutR
      rw [hin, ← hym, offN_all h hs]
    rw [HR0.out] at hres
    have Hres := Lib.hid hres
    have c2 := cell_at h2
    have c3 := cell_at h3
    obtain ⟨a, ha⟩ : ∃ a, offN s i = a := ⟨_, rfl⟩
    rw [ha] at c2 hle2 Hres
    clear hres ha hv hin hym h0 h1 h2 h3 h4 h5 hle h
    gi_wp2
    refine ⟨by simp, .inl ⟨_, _, rfl, run_takeDeferred hK, ?_⟩⟩
    refine ⟨.tuple #[.string R, .int .i64 0], ?_, rfl, hB.trans (belowK_b (w := w) (Nat.le_refl _) W D _ _ (by omega) hK rfl rfl)⟩
    rw [Hres.out]
    simp [results, Tryd.f10, go_sem]
  case stop =>
    rintro D c pre W hD hpre ⟨⟨rfl, h0, h1, hl⟩, hB⟩ hK
    have hp1 : pre.take i = (stp s s.size 0).take i := prefix_take hpre (by omega)
    have hp2 : pre.take (i + n) = (stp s s.size 0).take (i + n) := prefix_take hpre (by omega)
    rw [hp1, atW_off h hs i] at h0
    rw [hp2, atW_off h hs (i + n)] at h1
    have hle1 : offN s i ≤ offN s (i + n) := offN_mono h hs (by omega)
    have hle2 : offN s (i + n) ≤ s.size := offN_le h hs _
    have hres : cutR s i n = s.extract (offN s i) (offN s (i + n)) := rfl
    rw [HR0.out] at hres
    have Hres := Lib.hid hres
    have c2 := cell_at h0
    have c3 := cell_at h1
    obtain ⟨a, ha⟩ : ∃ a, offN s i = a := ⟨_, rfl⟩
    obtain ⟨b, hb⟩ : ∃ b, offN s (i + n) = b := ⟨_, rfl⟩
    rw [ha] at c2 hle1 Hres
    rw [hb] at c3 hle1 hle2 Hres
    clear hres ha hb hp1 hp2 h0 h1 hl hpre h
    gi_wp2
    refine ⟨by simp, .inl ⟨_, _, rfl, run_takeDeferred hK, ?_⟩⟩
    refine ⟨.tuple #[.string R, .int .i64 0], ?_, rfl, hB.trans (belowK_b (w := w) (Nat.le_refl _) W D _ _ (by omega) hK rfl rfl)⟩
    rw [Hres.out]
    simp [results, Tryd.f10, go_sem]

def runes_Cut.f (a0 : ByteArray) (a1 a2 : Int) : Option (ByteArray × Int) :=
  if a0.size ≤ 35184372088832 then
    some (match textOf a0 with
      | none => (⟨#[]⟩, 2)
      | some l => if a1 < 0 ∨ (l.length : Int) < a1 ∨ a2 < 0 ∨ (l.length : Int) - a1 < a2 then (⟨#[]⟩, 3) else (cutR a0 a1.toNat a2.toNat, 0))
  else none
theorem runes_Cut.calls (a0 : ByteArray) (a1 a2 : Int) (r1 : ByteArray) (r2 : Int) (w : World) (hT : Aside0 (XAmb w)) (h : runes_Cut.f a0 a1 a2 = some (r1, r2)) :
    Calls Tryd.prog 10 #[.string a0, .int .i64 a1, .int .i64 a2] w fun e w' => e = .returned (.tuple #[.string r1, .int .i64 r2]) ∧ Below w.heap.size w w' := by
  unfold runes_Cut.f at h
  split at h
  · rename_i hs
    have h := Option.some.inj h
    cases ht : textOf a0 with
    | none =>
      rw [ht] at h
      simp only [Prod.mk.injEq] at h
      obtain ⟨rfl, rfl⟩ := h
      exact cut_none a0 a1 a2 w hs hT.out ht
    | some l =>
      rw [ht] at h
      by_cases hr : a1 < 0 ∨ (l.length : Int) < a1 ∨ a2 < 0 ∨ (l.length : Int) - a1 < a2
      · simp only [if_pos hr, Prod.mk.injEq] at h
        obtain ⟨rfl, rfl⟩ := h
        exact cut_range a0 a1 a2 w l hs hT.out ht hr
      · simp only [if_neg hr, Prod.mk.injEq] at h
        obtain ⟨rfl, rfl⟩ := h
        obtain ⟨i, rfl⟩ := Int.eq_ofNat_of_zero_le (show 0 ≤ a1 by omega)
        obtain ⟨n, rfl⟩ := Int.eq_ofNat_of_zero_le (show 0 ≤ a2 by omega)
        simp only [Int.toNat_natCast]
        exact callsIn_wide.1 (cut_in a0 i n w l hs hT.out ht (by omega) (by omega))
  · cases h
end Go.Proofs.YteceigbiemohnaaDoor.X
