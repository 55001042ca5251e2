/-
  Arrays of two and of three numbers compared: by this session. Conditions: as typed.
-/
import Derived.Test.YtkglfgikfeebhaaExt
import Derived.ChangeKeysEq
namespace Go.Proofs.Ytkglfgikfeebhaa.X
open Go Go.RowKit Go.Shelf Go.Lib Go.Proofs.YtkglfgikfeebhaaW.PrintLast Go.Proofs.YtkglfgikfeebhaaW.PrintWords
set_option linter.unusedVariables false
theorem eq_num (d : Nat) (a b : Int) (w : World) : (Op.equalIn (d + 1) 3 (.int .i64 a) (.int .i64 b)).run Try.prog w = .ok (a == b) w := by
  unfold Op.equalIn
  simp [run_underlying Try.underlying3]
theorem part_num (cs : Array Value) (j : Nat) (v : Value) (w : World) (h : cs[j]? = some v) : (part 3 cs j).run Try.prog w = .ok v w := by
  have hag : (isAgg 3).run Try.prog w = .ok false w := by
    unfold isAgg
    rw [Sem.run_bind, run_underlying Try.underlying3 w]
    rfl
  unfold part
  simp [Sem.run_bind, hag, h]
theorem cells_num : Try.prog.cellsOf 3 = 1 := by kernel_rfl
theorem items_num (d : Nat) (xs ys : Array Value) (w : World) : ∀ (is : List Nat) (f g : Nat → Int), (∀ i ∈ is, xs[i]? = some (.int .i64 (f i)) ∧ ys[i]? = some (.int .i64 (g i))) →
    (Op.eqItems (d + 1) 3 1 xs ys is).run Try.prog w = .ok (is.all fun i => f i == g i) w
  | [], f, g, _ => by simp [Op.eqItems]
  | i :: is, f, g, h => by
    obtain ⟨h1, h2⟩ := h i List.mem_cons_self
    unfold Op.eqItems
    simp only [Nat.mul_one, Sem.run_bind, part_num xs i _ w h1, part_num ys i _ w h2, eq_num, Result.andThen_ok]
    cases hfg : f i == g i with
    | false => simp [hfg]
    | true => simp [hfg, items_num d xs ys w is f g (fun j hj => h j (List.mem_cons_of_mem _ hj))]
theorem info_int : ∃ i, Try.prog.info? 3 = some i := ⟨_, rfl⟩
theorem eqA2 (a b c d : Int) (w : World) : (Op.equalIn 10000 59 (.agg #[.int .i64 a, .int .i64 b]) (.agg #[.int .i64 c, .int .i64 d])).run Try.prog w = .ok (a == c && b == d) w := by
  obtain ⟨i, hi⟩ := info_int
  rw [show (10000 : Nat) = 9998 + 1 + 1 from rfl, run_equalIn_array w (9998 + 1) _ _ Try.underlying59 hi, cells_num,
    items_num 9998 _ _ w _ (fun i => if i = 0 then a else b) (fun i => if i = 0 then c else d) (by simp [List.range, List.range.loop])]
  simp [List.range, List.range.loop]
theorem eqA3 (a b c a' b' c' : Int) (w : World) : (Op.equalIn 10000 42 (.agg #[.int .i64 a, .int .i64 b, .int .i64 c]) (.agg #[.int .i64 a', .int .i64 b', .int .i64 c'])).run Try.prog w = .ok (a == a' && (b == b' && c == c')) w := by
  obtain ⟨i, hi⟩ := info_int
  rw [show (10000 : Nat) = 9998 + 1 + 1 from rfl, run_equalIn_array w (9998 + 1) _ _ Try.underlying42 hi, cells_num,
    items_num 9998 _ _ w _ (fun i => if i = 0 then a else if i = 1 then b else c) (fun i => if i = 0 then a' else if i = 1 then b' else c') (by simp [List.range, List.range.loop])]
  simp [List.range, List.range.loop]
end Go.Proofs.Ytkglfgikfeebhaa.X
