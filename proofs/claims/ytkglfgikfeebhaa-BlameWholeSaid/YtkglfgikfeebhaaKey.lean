/-
  Maps keyed by structs of numbers: one more at a key (the look-up and the entry in either order): by this session. Conditions: as typed.
-/
import Derived.Test.YtkglfgikfeebhaaExt
import Derived.Maps.OwnSet
import Derived.Maps.OwnOps
import Derived.WideKeyEntry
import Derived.DeepKeys4
namespace Go.Proofs.Ytkglfgikfeebhaa.X
open Go Go.RowKit Go.Lib Go.Maps Go.WideMaps Go.WideElems
open Go.ChangeMaps (setBlock heap_setBlock_same heap_setBlock_other)
set_option linter.unusedVariables false
theorem laidOut : laidOutB Try.prog = true := by kernel_rfl
theorem row_id : (75 : TypeId) < Try.prog.types.size := of_decide_eq_true (by kernel_rfl)
theorem row_nm : (29 : TypeId) < Try.prog.types.size := of_decide_eq_true (by kernel_rfl)
theorem wide_id : (match Try.prog.underlying 75 with | some (.array _ _) | some (.struct _) => true | _ => false) = true := by rw [Try.underlying75]
theorem wide_nm : (match Try.prog.underlying 29 with | some (.array _ _) | some (.struct _) => true | _ => false) = true := by rw [Try.underlying29]
theorem law_id : KeyLaw Try.prog 75 := deep_law_laid laidOut (m := 4) (by omega) row_id (by kernel_rfl) wide_id
theorem law_nm : KeyLaw Try.prog 29 := deep_law_laid laidOut (m := 4) (by omega) row_nm (by kernel_rfl) wide_nm
theorem lits_int (d : Nat) (a : Int) (ha : (Lit.int .i64 a).wf = true) : Try.prog.keyLits (d + 1) 3 [.int .i64 a] = some [.int .i64 a] := by
  unfold Program.keyLits
  simp [Try.underlying3, ha]
theorem lits_nm (d : Nat) (a b : Int) (ha : (Lit.int .i64 a).wf = true) (hb : (Lit.int .i64 b).wf = true) : Try.prog.keyLits (d + 1 + 1) 29 [.int .i64 a, .int .i64 b] = some [.int .i64 a, .int .i64 b] := by
  have c29 : Try.prog.cellsOf 29 = 2 := by kernel_rfl
  have c3 : Try.prog.cellsOf 3 = 1 := by kernel_rfl
  unfold Program.keyLits
  simp only [Try.underlying29]
  rw [if_pos (by rw [c29]; exact ⟨rfl, by simp⟩)]
  simp [c3, lits_int d a ha, lits_int d b hb]
theorem lits_id (d : Nat) (a b o : Int) (ha : (Lit.int .i64 a).wf = true) (hb : (Lit.int .i64 b).wf = true) (ho : (Lit.int .i64 o).wf = true) : Try.prog.keyLits (d + 1 + 1 + 1) 75 [.int .i64 a, .int .i64 b, .int .i64 o] = some [.int .i64 a, .int .i64 b, .int .i64 o] := by
  have c75 : Try.prog.cellsOf 75 = 3 := by kernel_rfl
  have c29 : Try.prog.cellsOf 29 = 2 := by kernel_rfl
  have c3 : Try.prog.cellsOf 3 = 1 := by kernel_rfl
  unfold Program.keyLits
  simp only [Try.underlying75]
  rw [if_pos (by rw [c75]; exact ⟨rfl, by simp⟩)]
  simp [c29, c3, lits_nm d a b ha hb, lits_int (d + 1) o ho]
theorem key_id (a b o : Int) (ha : (Lit.int .i64 a).wf = true) (hb : (Lit.int .i64 b).wf = true) (ho : (Lit.int .i64 o).wf = true) : ∃ kl, keyOf Try.prog 75 (.agg #[.int .i64 a, .int .i64 b, .int .i64 o]) = some kl := by
  have hk : Try.prog.keyType 75 = true := by kernel_rfl
  have c75 : Try.prog.cellsOf 75 = 3 := by kernel_rfl
  obtain ⟨d, hd⟩ : ∃ d, Try.prog.types.size = d + 1 + 1 := ⟨Try.prog.types.size - 2, by have : 75 < Try.prog.types.size := row_id; omega⟩
  refine ⟨.string (keyBytes [.int .i64 a, .int .i64 b, .int .i64 o]), ?_⟩
  unfold keyOf
  simp only [Try.underlying75]
  rw [if_pos (by simp [hk, Value.formed, Try.underlying75, c75]), hd]
  show (Try.prog.keyLits (d + 1 + 1 + 1) 75 [.int .i64 a, .int .i64 b, .int .i64 o]).map _ = _
  rw [lits_id d a b o ha hb ho]
  rfl
theorem key_nm (a b : Int) (ha : (Lit.int .i64 a).wf = true) (hb : (Lit.int .i64 b).wf = true) : ∃ kl, keyOf Try.prog 29 (.agg #[.int .i64 a, .int .i64 b]) = some kl := by
  have hk : Try.prog.keyType 29 = true := by kernel_rfl
  have c29 : Try.prog.cellsOf 29 = 2 := by kernel_rfl
  obtain ⟨d, hd⟩ : ∃ d, Try.prog.types.size = d + 1 := ⟨Try.prog.types.size - 1, by have : 29 < Try.prog.types.size := row_nm; omega⟩
  refine ⟨.string (keyBytes [.int .i64 a, .int .i64 b]), ?_⟩
  unfold keyOf
  simp only [Try.underlying29]
  rw [if_pos (by simp [hk, Value.formed, Try.underlying29, c29]), hd]
  show (Try.prog.keyLits (d + 1 + 1) 29 [.int .i64 a, .int .i64 b]).map _ = _
  rw [lits_nm d a b ha hb]
  rfl
/-- One more at a key: the look-up, the entry (the look-up behind it tells the same), the store. -/
theorem map_inc {k t b n : Nat} {w : World} {D : DataW Unit} (K : KeyLaw Try.prog k) (ht : Try.prog.underlying t = some (.map k 3)) (h : w.ownsMap Try.prog k (plainElem Try.prog 3) b n D) (hn : n < maxLen) {kv : Value} {kl : Lit} (hkey : keyOf Try.prog k kv = some kl) :
    ∃ (c : Int) (v0 : Value) (st : Nat) (W1 W2 : World), (Instr.lookup t (.map (some b)) kv false).run Try.prog w = .ok (.int .i64 c) w ∧ (Instr.mapEntry t (.map (some b)) kv).run Try.prog w = .ok (.tuple #[v0, .int .i64 st]) W1 ∧
      (Instr.lookup t (.map (some b)) kv false).run Try.prog W1 = .ok (.int .i64 c) W1 ∧ (Instr.entryStore t (.map (some b)) (.int .i64 st) (.int .i64 (wrap64 (c + 1)))).run Try.prog W1 = .ok () W2 ∧
      W2.ownsMap Try.prog k (plainElem Try.prog 3) b (n + 1) (D.put kl (.lit (.int .i64 (wrap64 (c + 1))))) ∧ w.grownBy W1 (some b) ∧ w.grownBy W2 (some b) := by
  have hz : ∀ u : World, (zeroValue 3).run Try.prog u = .ok (.int .i64 0) u := fun u => Try.zeroValue3 u
  obtain ⟨c, hlk, hat, hwc⟩ := h.lookup_int (Keyed.of_law K) ht Try.underlying3 (hz w) hkey
  obtain ⟨W2, hup, hW2, hg2⟩ := h.update (Keyed.of_law K) ht hn hkey (plainElem_int Try.underlying3 (wrap64_wf (c + 1)))
  obtain ⟨es, clock, hb, F, hs, hD⟩ := h
  obtain ⟨v0, st, es1, clock1, hme, hcase, hst⟩ := entry_then_store K ht hz hb F hkey
  obtain ⟨es', clock', hes, hup2⟩ := hst (setBlock w b (.map es1 clock1)) (.int .i64 (wrap64 (c + 1))) (heap_setBlock_same hb _)
  have hlk1 : (Instr.lookup t (.map (some b)) kv false).run Try.prog (setBlock w b (.map es1 clock1)) = .ok (.int .i64 c) (setBlock w b (.map es1 clock1)) := by
    rcases K.find w hkey es.toList F.keys with ⟨h1, h2⟩ | ⟨j, e0, h1, h2, h3⟩
    · have hrun : (Instr.mapEntry t (.map (some b)) kv).run Try.prog w = .ok (.tuple #[.int .i64 0, goInt clock]) (setBlock w b (.map (es.push ⟨kv, .int .i64 0, clock⟩) (clock + 1))) := by
        simp [Instr.mapEntry, run_underlying ht, MapKept.run_getObj_map hb, K.check w false hkey, h1, hz, MapKept.run_setObj_map _ hb, Result.andThen, setBlock]
      rw [hme] at hrun
      have hW1 : setBlock w b (.map es1 clock1) = setBlock w b (.map (es.push ⟨kv, .int .i64 0, clock⟩) (clock + 1)) := by
        injection hrun
      have hup0 : (Instr.mapUpdate t (.map (some b)) kv (.int .i64 0)).run Try.prog w = .ok () (setBlock w b (.map (es.push ⟨kv, .int .i64 0, clock⟩) (clock + 1))) := by
        simp [Instr.mapUpdate, run_underlying ht, MapKept.run_getObj_map hb, K.check w false hkey, h1, MapKept.run_setObj_map _ hb, Result.andThen, setBlock]
      obtain ⟨W0, hup0', hW0, _⟩ := (show w.ownsMap Try.prog k (plainElem Try.prog 3) b n D from ⟨es, clock, hb, F, hs, hD⟩).update (Keyed.of_law K) ht hn hkey (plainElem_int Try.underlying3 (show (Lit.int .i64 0).wf = true by decide))
      rw [hup0] at hup0'
      have e0 : setBlock w b (.map (es.push ⟨kv, .int .i64 0, clock⟩) (clock + 1)) = W0 := by
        injection hup0'
      rw [hW1, e0]
      obtain ⟨c1, hlk0, hat0, _⟩ := hW0.lookup_int (Keyed.of_law K) ht Try.underlying3 (hz W0) hkey
      have hc : c = 0 := by
        rcases Maps.fit_look false (Keyed.of_law K) ht (hz w) hb F hkey with ⟨hl, _⟩ | ⟨e0, _, hm, he, _⟩
        · rw [hlk] at hl
          injection hl with h _
          injection h
        · exact absurd he (h2 e0 hm)
      have hc1 : c1 = 0 := by
        rw [atKey_put_same (by subst hD; exact ⟨_, rfl⟩) ((Keyed.of_law K).key hkey)] at hat0
        injection hat0 with h
        injection h with _ h
        exact h.symm
      rw [hlk0, hc, hc1]
    · have hj : es[j]? = some e0 := by simpa using h2
      have hsame : es.modify j (fun e => { e with key := kv }) = es := by
        apply Array.ext'
        rw [Array.toList_modify, ChangeMaps.modify_eq_set _ _ _ _ h2]
        have : ({ e0 with key := kv } : MapEntry) = e0 := by rw [← h3]
        rw [this]
        exact set_self _ _ _ h2
      have hrun : (Instr.mapEntry t (.map (some b)) kv).run Try.prog w = .ok (.tuple #[e0.val, goInt e0.born]) (setBlock w b (.map es clock)) := by
        simp [Instr.mapEntry, run_underlying ht, MapKept.run_getObj_map hb, K.check w false hkey, h1, hj, h3, K.stays w hkey, hsame, MapKept.run_setObj_map _ hb, Result.andThen, setBlock]
      rw [hme] at hrun
      have hW1 : setBlock w b (.map es1 clock1) = setBlock w b (.map es clock) := by
        injection hrun
      have hself : setBlock w b (.map es clock) = w := by
        have hlt := (Array.getElem?_eq_some_iff.1 hb).1
        have : w.heap.setIfInBounds b (.map es clock) = w.heap := by
          apply Array.ext_getElem?
          intro i
          rw [Array.getElem?_setIfInBounds]
          split
          · rename_i e
            subst e
            rw [hb]
          · rfl
        unfold setBlock
        rw [this]
      rw [hW1, hself]
      exact hlk
  refine ⟨c, v0, st, _, W2, hlk, hme, hlk1, ?_, hW2, ?_, hg2⟩
  · rw [hup] at hup2
    obtain ⟨_, rfl⟩ : True ∧ W2 = setBlock w b (.map es' clock') := by
      simpa using hup2
    rw [show setBlock w b (.map es' clock') = setBlock (setBlock w b (.map es1 clock1)) b (.map es' clock') by simp [setBlock]]
    exact hes
  · exact ⟨rfl, rfl, rfl, by simp [setBlock], fun i _ hi => heap_setBlock_other hb _ (fun e => hi (by rw [e]))⟩
end Go.Proofs.Ytkglfgikfeebhaa.X
