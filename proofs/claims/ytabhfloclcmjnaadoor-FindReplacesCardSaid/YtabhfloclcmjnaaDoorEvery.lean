/-
  find.everywhere: its contract in the print's form, by this session. Conditions: the two tables of unicode/utf8 as they are laid; texts of at most 2^45 bytes.
-/
import Derived.Test.YtabhfloclcmjnaaDoorMake
import Derived.Test.YtabhfloclcmjnaaDoorSplit
namespace Go.Proofs.YtabhfloclcmjnaaDoor.X
open Go Go.RowKit Go.Shelf Go.Proofs.YtabhfloclcmjnaaDoorW.PrintWords Go.Proofs.YtabhfloclcmjnaaDoor.Kmp
set_option linter.unusedVariables false
attribute [local go_sem ↓] Go.wp_at_zero Go.wp_at_succ

/-- All places at which p ends among the first i runes, by where it begins. -/
def found (p l : List Int) (i : Nat) : List Int := ((List.range (i + 1)).filter fun j => p.isSuffixOf (l.take j)).map fun (j : Nat) => (j : Int) - p.length
theorem found_succ (p l : List Int) (i : Nat) : found p l (i + 1) = found p l i ++ (if p.isSuffixOf (l.take (i + 1)) = true then [((i + 1 : Nat) : Int) - p.length] else []) := by
  unfold found
  rw [List.range_succ, List.filter_append, List.map_append]
  congr 1
  by_cases h : p.isSuffixOf (l.take (i + 1)) = true
  · rw [if_pos h]; simp [h]
  · rw [if_neg h]; simp [h]
theorem found_zero {p : List Int} (hp : p ≠ []) (l : List Int) : found p l 0 = [] := by
  unfold found
  simp [List.isSuffixOf_iff_suffix, hp]
theorem full_iff {p t : List Int} {h : Nat} (m : IsM p t h) : decide (h = p.length) = p.isSuffixOf t := by
  rw [Bool.eq_iff_iff, decide_eq_true_iff, List.isSuffixOf_iff_suffix]
  constructor
  · rintro rfl
    have := m.2.1
    rwa [List.take_length] at this
  · intro hs
    have := m.2.2 p.length (Nat.le_refl _) (by rwa [List.take_length])
    have := m.1
    omega
theorem found_length (p l : List Int) (i : Nat) : (found p l i).length ≤ i + 1 := by
  unfold found
  rw [List.length_map]
  exact Nat.le_trans (List.length_filter_le _ _) (by simp)

def everyR (a0 a1 : ByteArray) : List Int × Int × Int :=
  match textOf a1 with
  | none => ([], 0, 2)
  | some p => match textOf a0 with
    | none => ([], 0, 2)
    | some l => if p = [] then ([], 0, 1) else (found p l l.length, p.length, 0)
def find_everywhere.f (a0 a1 : ByteArray) : Option (List Int × Int × Int) := if a0.size ≤ 1099511627776 then if a1.size ≤ 1099511627776 then some (everyR a0 a1) else none else none

set_option maxRecDepth 100000 in
set_option maxHeartbeats 4000000 in
theorem every_bad (s t : ByteArray) (w : World) (hs : s.size ≤ 1099511627776) (ht : t.size ≤ 1099511627776) (hT : XAmb w) (h : textOf t = none) :
    Calls Tryd.prog 36 #[.string s, .string t] w fun e w' => e = .returned (.tuple #[.slice none 0 0, .int .i64 0, .int .i64 2]) ∧ Below w.heap.size w w' := by
  have c := split_none t w (by omega) hT h
  go_enter Tryd.func36, Tryd.ntmps36
  go_wp2_with (go_at_call 39; refine c.mono ?_; rintro e w1 ⟨rfl, hb⟩)
  go_ret3
  exact ⟨rfl, hb⟩
set_option maxRecDepth 100000 in
set_option maxHeartbeats 4000000 in
theorem every_bad2 (s t : ByteArray) (w : World) (p : List Int) (hs : s.size ≤ 1099511627776) (ht : t.size ≤ 1099511627776) (hT : XAmb w) (h : textOf t = some p) (h2 : textOf s = none) :
    Calls Tryd.prog 36 #[.string s, .string t] w fun e w' => e = .returned (.tuple #[.slice none 0 0, .int .i64 0, .int .i64 2]) ∧ Below w.heap.size w w' := by
  have c := split_some t w p (by omega) hT h
  have c2 := fun (w1 : World) (hb : Below w.heap.size w w1) => may_calls s w1 (by omega) (XAmb_below hT hb)
  rw [lenU_of_none h2] at c2
  go_enter Tryd.func36, Tryd.ntmps36
  go_wp2_with (first | (go_at_call 39; refine c.mono ?_; rintro e w1 ⟨v, rfl, hv, hb⟩) | (go_at_call 44; refine (c2 _ hb).mono ?_; rintro e w2 ⟨rfl, hb2⟩))
  go_ret3
  exact ⟨rfl, hb.trans (hb2.mono hb.size)⟩
set_option maxRecDepth 100000 in
set_option maxHeartbeats 4000000 in
theorem every_none (s t : ByteArray) (w : World) (l : List Int) (hs : s.size ≤ 1099511627776) (ht : t.size ≤ 1099511627776) (hT : XAmb w) (h : textOf t = some []) (h2 : textOf s = some l) :
    Calls Tryd.prog 36 #[.string s, .string t] w fun e w' => e = .returned (.tuple #[.slice none 0 0, .int .i64 0, .int .i64 1]) ∧ Below w.heap.size w w' := by
  have c := split_some t w [] (by omega) hT h
  have c2 := fun (w1 : World) (hb : Below w.heap.size w w1) => may_calls s w1 (by omega) (XAmb_below hT hb)
  rw [lenU_of_some h2] at c2
  simp only [Int.natCast_nonneg, decide_true] at c2
  go_enter Tryd.func36, Tryd.ntmps36
  go_wp2_with (first | (go_at_call 39; refine c.mono ?_; rintro e w1 ⟨v, rfl, hv, hb⟩; obtain ⟨A, c0, rfl⟩ := Kd.R_slice hv) | (go_at_call 44; refine (c2 _ hb).mono ?_; rintro e w2 ⟨rfl, hb2⟩))
  go_ret3
  exact ⟨rfl, hb.trans (hb2.mono hb.size)⟩

theorem textOf_valid0 {s : ByteArray} {l : List Int} (h : textOf s = some l) : ∀ x ∈ stp s s.size 0, 0 ≤ x.1 := by
  unfold textOf at h
  split at h
  · rename_i ha
    exact fun x hx => of_decide_eq_true (List.all_eq_true.1 ha x hx)
  · cases h
theorem stp_len (s : ByteArray) : ∀ f pos, pos ≤ s.size → (stp s f pos).length ≤ s.size - pos
  | 0, pos, _ => by simp [stp]
  | f + 1, pos, hp => by
    simp only [stp]
    split
    · rename_i h
      split
      · simp; omega
      · have h1 := decode_pos s pos h
        have h2 := decode_le s pos h
        have := stp_len s f (pos + (Utf8.decode s pos).2) h2
        simp only [List.length_cons]
        omega
    · simp
theorem text_len {s : ByteArray} {l : List Int} (h : textOf s = some l) : l.length ≤ s.size := by
  unfold textOf at h
  split at h
  · obtain rfl := Option.some.inj h
    have := stp_len s s.size 0 (Nat.zero_le _)
    simpa using this
  · cases h
/-- What holds at the head of a round. -/
structure RelE (s : ByteArray) (p l bs : List Int) (w : World) (I g ga gb c0 cb N0 : Nat) (u10 : Value) (cnt pos f h : Nat) (wr : World) : Prop where
  it : wr.heap[I]? = some (.stringIter s pos)
  out : Kd.R (Kd.int .i64) 3 wr w.heap.size (fun k => N0 ≤ k) u10 (found p l cnt)
  bel : Below w.heap.size w wr
  sz : N0 ≤ wr.heap.size
  sk : wr.heap[g]? = some (.cells (skCells ga gb p.length c0 cb h) 114 (0, 0))
  rows : SkRows p bs ga gb g wr
  isM : IsM p (l.take cnt) h
  rest : l.drop cnt = (stp s f pos).map (·.1)
  le : cnt ≤ pos
  cl : cnt ≤ l.length
  fuel : s.size ≤ pos + f
  pos0 : ∀ x ∈ stp s f pos, 0 ≤ x.1

set_option maxRecDepth 100000 in
set_option maxHeartbeats 8000000 in
theorem every_some (s t : ByteArray) (w : World) (p l : List Int) (hs : s.size ≤ 1099511627776) (ht : t.size ≤ 1099511627776) (hT : XAmb w) (h : textOf t = some p) (h2 : textOf s = some l) (hp : p ≠ []) (hpl : p.length ≤ t.size) :
    Calls Tryd.prog 36 #[.string s, .string t] w fun e w' => ∃ v, e = .returned (.tuple #[v, .int .i64 p.length, .int .i64 0]) ∧ Kd.R (Kd.int .i64) 3 w' w.heap.size (fun _ => True) v (found p l l.length) ∧ Below w.heap.size w w' := by
  have hp0 : 0 < p.length := List.length_pos_iff.2 hp
  have c := split_some t w p (by omega) hT h
  have c2 := fun (w1 : World) (hb : Below w.heap.size w w1) => may_calls s w1 (by omega) (XAmb_below hT hb)
  rw [lenU_of_some h2] at c2
  simp only [Int.natCast_nonneg, decide_true] at c2
  have HP := Lib.hid hp
  obtain ⟨m, hm⟩ : ∃ m, p.length = m := ⟨_, rfl⟩
  have hz : ((m : Int) == 0) = false := by rw [beq_eq_false_iff_ne]; omega
  have H2 := Lib.hid h2
  clear h h2 hT hp
  rw [hm] at hp0 hpl ⊢
  go_enter Tryd.func36, Tryd.ntmps36
  go_upto_region 6 with (first | (go_at_call 39; refine c.mono ?_; rintro e w1 ⟨v, rfl, hv, hb⟩; obtain ⟨ga, c0, rfl, hga0, hga1, _⟩ := Kd.R_form hv (by omega); rw [hm] at hv ⊢) | (go_at_call 44; refine (c2 _ hb).mono ?_; rintro e w2 ⟨rfl, hb2⟩))
  have hbw := hb.trans (hb2.mono hb.size)
  have hv2 := Kd.R_below hv hb2
  have hga2 : ga < w2.heap.size := Nat.lt_of_lt_of_le hga1 hb2.size
  have c3 := newSeeker_calls p ga c0 m w2 hm hp0 (by omega) (fun i hi => R_cells hv2 i (by omega)) hga2
  clear c c2 hb hb2 hv hga1
  go_upto_region 7 with (go_at_call 53; refine c3.mono ?_; rintro e w3 ⟨g, gb, cb, bs, rfl, hg, hr, hf, hcb, hgw, hb3⟩)
  have hb3' := hbw.trans (hb3.mono hbw.size)
  have hc0 : m ≤ c0 := (Kd.R_reads' hv2).2.1
  have hg3 : g < w3.heap.size := by
    rcases Nat.lt_or_ge g w3.heap.size with h1 | h1
    · exact h1
    · rw [Array.getElem?_eq_none h1] at hg; cases hg
  have hga3 : ga < w3.heap.size := Nat.lt_of_lt_of_le hga2 hb3.size
  have hgb3 : gb < w3.heap.size := by
    have h1 := hr.back 0 (by omega)
    exact World.block_lt_of_cell? w3 ⟨gb, 0, none⟩ h1
  have hwg : w.heap.size ≤ g := Nat.le_trans hbw.size hgw
  have hsz : w.heap.size ≤ w3.heap.size := hb3'.size
  have hrel0 : RelE s p l bs w w3.heap.size g ga gb c0 cb (w3.heap.size + 1) (.slice none 0 0) 0 0 s.size 0 (w3.iter s 0) := {
    it := World.iter_heap w3 s 0
    out := by rw [found_zero HP.out]; exact Kd.R_nil _ _ _ _ _
    bel := hb3'.alloc hsz _
    sz := by simp [World.iter]
    sk := by rw [hm]; exact (Below.heap_alloc w3 _ g hg3).trans hg
    rows := ⟨fun i hi => (World.cell?_of_block (w := w3) (Below.heap_alloc w3 _ ga hga3)).trans (hr.what i hi), fun i hi => (World.cell?_of_block (w := w3) (Below.heap_alloc w3 _ gb hgb3)).trans (hr.back i hi), hr.nw, hr.nb⟩
    isM := by rw [List.take_zero]; exact isM_nil
    rest := by
      have h5 := H2.out
      unfold textOf at h5
      split at h5
      · have := Option.some.inj h5
        rw [List.drop_zero, this]
      · cases h5
    le := Nat.le_refl _
    cl := Nat.zero_le _
    fuel := by omega
    pos0 := textOf_valid0 H2.out }
  have HR0 := Lib.hid hrel0
  have HF := Lib.hid hf
  clear hrel0 hb3 hb3' hv2 hga2 hbw hr hf hg
  go_wp2
  go_loopg [10, 11] s.size (fun n u10 u11 wr => ∃ cnt pos f h, u11 = .int .i64 (cnt : Nat) ∧ Aside0 (RelE s p l bs w w3.heap.size g ga gb c0 cb (w3.heap.size + 1) u10 cnt pos f h wr) ∧ Aside0 (pos + n = s.size))
  case atStart => exact ⟨0, 0, s.size, 0, rfl, ⟨HR0.out⟩, ⟨by omega⟩⟩
  case round =>
    obtain ⟨cnt, pos, f, h1, rfl, HR, HN⟩ := hrel
    by_cases hpz : pos < s.size
    · have hnx : ∀ ty, (Instr.next (.pointer (some ⟨w3.heap.size, 0, none⟩)) true ty).run Tryd.prog wr = _ := fun ty => Lib.run_next_any_at wr w3.heap.size s pos ty HR.out.it hpz
      have hdl := decode_le s pos hpz
      have hdp := decode_pos s pos hpz
      have hnext := relS_next hpz HR.out.pos0 (by have := HR.out.fuel; omega)
      obtain ⟨R, hRr⟩ : ∃ R, (Utf8.decode s pos).1 = R := ⟨_, rfl⟩
      obtain ⟨K, hKr⟩ : ∃ K, (Utf8.decode s pos).2 = K := ⟨_, rfl⟩
      rw [hRr, hKr] at hnx hnext
      rw [hKr] at hdl hdp
      clear hRr hKr
      have HX := Lib.hid hnext
      clear hnext
      -- the world behind the iterator's step
      obtain ⟨wi, hwi⟩ : ∃ wi, wr.iterAt w3.heap.size s (pos + K) = wi := ⟨_, rfl⟩
      have hoth : ∀ k, k ≠ w3.heap.size → wi.heap[k]? = wr.heap[k]? := by
        intro k hk
        rw [← hwi]
        simp [World.iterAt, Ne.symm hk]
      have hiti : wi.heap[w3.heap.size]? = some (.stringIter s (pos + K)) := by rw [← hwi]; exact Lib.iterAt_heap wr w3.heap.size s pos (pos + K) HR.out.it
      have hoi : Kd.R (Kd.int .i64) 3 wi w.heap.size (fun k => w3.heap.size + 1 ≤ k) u10 (found p l cnt) := Kd.R_step HR.out.out (fun k hk _ => hoth k (by omega))
      have hbi : Below w.heap.size w wi := by rw [← hwi]; exact Lib.below_iterAt HR.out.bel hsz s (pos + K)
      have hszi : wi.heap.size = wr.heap.size := by rw [← hwi]; simp [World.iterAt]
      have hski : wi.heap[g]? = some (.cells (skCells ga gb m c0 cb h1) 114 (0, 0)) := by rw [← hm]; exact (hoth g (by omega)).trans HR.out.sk
      have hri : SkRows p bs ga gb g wi := ⟨fun i hi => (World.cell?_of_block (w := wr) (hoth ga (by omega))).trans (HR.out.rows.what i hi), fun i hi => (World.cell?_of_block (w := wr) (hoth gb (by omega))).trans (HR.out.rows.back i hi), HR.out.rows.nw, HR.out.rows.nb⟩
      have c4 := step_calls p bs (l.take cnt) (R : Int) ga gb g c0 cb h1 m wi hm hp0 (by omega) hc0 hcb hri HF.out hski HR.out.isM
      rw [hwi] at hnx
      clear hwi
      have HO := Lib.hid hoi
      have HBI := Lib.hid hbi
      have HRI := Lib.hid hri
      clear hoi hbi hri hski
      have hcp := HR.out.le
      have hfl : (found p l cnt).length ≤ cnt + 1 := found_length p l cnt
      obtain ⟨c1, hc1⟩ : ∃ c1 : Int, wrap64 ((cnt : Int) + 1) = c1 := ⟨_, rfl⟩
      have hc1e : c1 = ((cnt + 1 : Nat) : Int) := by rw [← hc1]; unfold wrap64; omega
      have hws : wrap64 (c1 - (m : Int)) = c1 - (m : Int) := by unfold wrap64; omega
      go_upto_region 13 with fail
      have HC := Lib.hid hc1e
      have HL := Lib.hid hc1
      clear hc1e hc1
      go_upto_if 41 with (go_at_call 54; refine c4.mono ?_; rintro e w5 ⟨h', hM, rfl, hsk, hB⟩)
      have hrest : l.drop cnt = (R : Int) :: (stp s (f - 1) (pos + K)).map (·.1) := by rw [HR.out.rest, HX.out]; rfl
      have hcl : cnt < l.length := by
        rcases Nat.lt_or_ge cnt l.length with h9 | h9
        · exact h9
        · rw [List.drop_eq_nil_of_le h9] at hrest; cases hrest
      have htk : l.take (cnt + 1) = l.take cnt ++ [(R : Int)] := by
        rw [List.take_succ_eq_append_getElem hcl]
        congr 1
        rw [List.drop_eq_getElem_cons hcl] at hrest
        injection hrest with e1 _
        rw [e1]
      have hdr : l.drop (cnt + 1) = (stp s (f - 1) (pos + K)).map (·.1) := by
        rw [← List.drop_drop, hrest]; rfl
      have hM2 : IsM p (l.take (cnt + 1)) h' := by rw [htk]; exact hM
      have hful := full_iff hM2
      rw [hm] at hful
      have h5o : Kd.R (Kd.int .i64) 3 w5 w.heap.size (fun k => w3.heap.size + 1 ≤ k) u10 (found p l cnt) := Kd.R_step HO.out (fun k hk _ => hB.others k (by omega))
      have h5b : Below w.heap.size w w5 := HBI.out.trans (hB.below.mono hwg)
      have h5i : w5.heap[w3.heap.size]? = some (.stringIter s (pos + K)) := (hB.others _ (by omega)).trans hiti
      have h5r : SkRows p bs ga gb g w5 := HRI.out.but hB
      have h5s : w3.heap.size + 1 ≤ w5.heap.size := Nat.le_trans (by rw [hszi]; exact HR.out.sz) hB.below.size
      have hp0' : ∀ x ∈ stp s (f - 1) (pos + K), 0 ≤ x.1 := fun x hx => HR.out.pos0 x (by rw [HX.out]; exact List.mem_cons_of_mem _ hx)
      have hfu : s.size ≤ pos + K + (f - 1) := by have := HR.out.fuel; omega
      have hfs := found_succ p l cnt
      rw [← hful] at hfs
      have HFS := Lib.hid hfs
      have HM2 := Lib.hid hM2
      have HD := Lib.hid hdr
      have HP0 := Lib.hid hp0'
      have H5R := Lib.hid h5r
      clear hfs hM2 hdr hp0' h5r hful htk hrest hM hB c4 hnx hoth hiti
      by_cases hq : h' = m
      · have hd : decide (h' = m) = true := decide_eq_true hq
        have HQ := Lib.hid hq
        clear hq
        go_wp2_with ((with_reducible refine gate_dst (N := 48) rfl ?_); (refine Kd.R_append (Kd.int .i64) (w0 := w) w.heap.size rfl (.tmp 42) (.tmp 47) 23 3 (.int .i64 0) 8 rfl Tryd.underlying23 info_int rfl (by decide) (by omega) u10 (found p l cnt) ((cnt : Int) + 1 - (m : Int)) [.int .i64 ((cnt : Int) + 1 - (m : Int))] (fun k => w3.heap.size + 1 ≤ k) (fun _ => False) rfl rfl rfl (fun _ h => h.elim) (fun k hk => Nat.le_trans h5s hk) h5o h5b h5b.size (by omega) ?_); intro v6 w6 ho6 hb6 hg6 _)
        have hne : ∀ k, k < w3.heap.size + 1 → w6.heap[k]? = w5.heap[k]? := fun k hk => hg6.block k (by omega) (fun he => by have := h5o.1 k he.symm; omega)
        go_roundg (s.size - (pos + K))
        case measure => have := HN.out; omega
        case rel =>
          refine ⟨cnt + 1, pos + K, f - 1, h', (by first | rfl | rw [HC.out]), ⟨?_⟩, ⟨by omega⟩⟩
          exact {
            it := (hne _ (by omega)).trans h5i
            out := by
              rw [HFS.out, if_pos hd, hm, show ((cnt + 1 : Nat) : Int) = (cnt : Int) + 1 by omega]
              exact ho6
            bel := hb6
            sz := Nat.le_trans h5s hg6.size
            sk := by rw [hm]; exact (hne g (by omega)).trans hsk
            rows := ⟨fun i hi => (World.cell?_of_block (w := w5) (hne ga (by omega))).trans (H5R.out.what i hi), fun i hi => (World.cell?_of_block (w := w5) (hne gb (by omega))).trans (H5R.out.back i hi), H5R.out.nw, H5R.out.nb⟩
            isM := HM2.out
            rest := HD.out
            le := by omega
            cl := by omega
            fuel := hfu
            pos0 := HP0.out }
      · have hd : decide (h' = m) = false := decide_eq_false hq
        have HQ := Lib.hid hq
        clear hq
        go_wp2
        go_roundg (s.size - (pos + K))
        case measure => have := HN.out; omega
        case rel =>
          refine ⟨cnt + 1, pos + K, f - 1, h', (by first | rfl | rw [HC.out]), ⟨?_⟩, ⟨by omega⟩⟩
          exact {
            it := h5i
            out := by
              rw [HFS.out, if_neg (by rw [hd]; simp), List.append_nil]
              exact h5o
            bel := h5b
            sz := h5s
            sk := by rw [hm]; exact hsk
            rows := H5R.out
            isM := HM2.out
            rest := HD.out
            le := by omega
            cl := by omega
            fuel := hfu
            pos0 := HP0.out }
    · have hnx : ∀ ty, (Instr.next (.pointer (some ⟨w3.heap.size, 0, none⟩)) true ty).run Tryd.prog wr = _ := fun ty => Lib.run_next_end_at wr w3.heap.size s pos ty HR.out.it hpz
      go_wp2
      go_ret3
      have hfin : l.length = cnt := by
        have h6 := HR.out.rest
        rw [stp_end s f pos hpz] at h6
        have h7 := congrArg List.length h6
        rw [List.length_drop] at h7
        have h8 := HR.out.cl
        simp at h7
        omega
      exact ⟨_, rfl, by rw [hfin]; exact Kd.R_mono HR.out.out (fun _ _ => trivial), HR.out.bel⟩

theorem find_everywhere.calls (a0 a1 : ByteArray) (r1 : List Int) (r2 r3 : Int) (w : World) (hT : Aside0 (XAmb w)) (h : find_everywhere.f a0 a1 = some (r1, r2, r3)) :
    Calls Tryd.prog 36 #[.string a0, .string a1] w fun e w' => ∃ v0_ : Value, e = .returned (.tuple #[v0_, .int .i64 r2, .int .i64 r3]) ∧ Kd.R (Kd.int .i64) 3 w' w.heap.size (fun _ => True) v0_ r1 ∧ Below w.heap.size w w' := by
  unfold find_everywhere.f at h
  split at h
  · rename_i hs
    split at h
    · rename_i ht
      have h := Option.some.inj h
      unfold everyR at h
      cases h1 : textOf a1 with
      | none =>
        rw [h1] at h
        simp only [Prod.mk.injEq] at h
        obtain ⟨rfl, rfl, rfl⟩ := h
        exact (every_bad a0 a1 w hs ht hT.out h1).mono fun e w' ⟨he, hb⟩ => ⟨_, he, Kd.R_nil _ _ _ _ _, hb⟩
      | some p =>
        rw [h1] at h
        cases h2 : textOf a0 with
        | none =>
          rw [h2] at h
          simp only [Prod.mk.injEq] at h
          obtain ⟨rfl, rfl, rfl⟩ := h
          exact (every_bad2 a0 a1 w p hs ht hT.out h1 h2).mono fun e w' ⟨he, hb⟩ => ⟨_, he, Kd.R_nil _ _ _ _ _, hb⟩
        | some l =>
          rw [h2] at h
          simp only at h
          by_cases hp : p = []
          · rw [if_pos hp] at h
            simp only [Prod.mk.injEq] at h
            obtain ⟨rfl, rfl, rfl⟩ := h
            subst hp
            exact (every_none a0 a1 w l hs ht hT.out h1 h2).mono fun e w' ⟨he, hb⟩ => ⟨_, he, Kd.R_nil _ _ _ _ _, hb⟩
          · rw [if_neg hp] at h
            simp only [Prod.mk.injEq] at h
            obtain ⟨rfl, rfl, rfl⟩ := h
            exact every_some a0 a1 w p l hs ht hT.out h1 h2 hp (text_len h1)
    · cases h
  · cases h
end Go.Proofs.YtabhfloclcmjnaaDoor.X
