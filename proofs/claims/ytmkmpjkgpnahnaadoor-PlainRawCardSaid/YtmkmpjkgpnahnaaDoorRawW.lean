/-
 The walk of the law PlainRaw: it returns true (printed by wip/gen29w.py). Conditions: the two tables of unicode/utf8 as they are laid.
-/
import Derived.Test.YtmkmpjkgpnahnaaDoorAlive
import Derived.Test.YtmkmpjkgpnahnaaDoorRef29a
import Derived.Test.YtmkmpjkgpnahnaaDoorBackP
import Derived.Test.YtmkmpjkgpnahnaaDoorPx4
import Derived.Test.YtmkmpjkgpnahnaaDoorPx14
import Derived.Deep.RegionHeld3
import Derived.Laws.EntriesVeiled
import Derived.Deep.DeepCutAuto
import Derived.Deep.CutBlock
import Derived.Deep.LoopGhost
namespace Go.Proofs.YtmkmpjkgpnahnaaDoor.X
open Go Go.RowKit Go.Shelf Go.Proofs.YtmkmpjkgpnahnaaDoorW.PrintWords Go.Proofs.YtmkmpjkgpnahnaaDoor.P
set_option linter.unusedVariables false
abbrev op9_All : Array Oper := #[{ dst := some 55, op := Op.load 33 (Operand.tmp 8), type := 33, pos := "law.go:141", after := #[], guard := none }, { dst := some 56, op := Op.buildSlice 27 1 #[(0, Operand.tmp 55)], type := 27, pos := "law.go:141", after := #[{ on := 0, ground := Ground.data }], guard := none }, { dst := some 57, op := Op.call { callee := Callee.value (Operand.func 14), args := #[Operand.tmp 56], argTypes := #[27] }, type := 26, pos := "law.go:141", after := #[{ on := 1, ground := Ground.data }], guard := none }, { dst := some 58, op := Op.indexAddr 26 (Operand.tmp 57) (Operand.const (Value.int IntKind.i64 0)), type := 0, pos := "law.go:141", after := #[{ on := 2, ground := Ground.data }], guard := none }, { dst := some 59, op := Op.load 23 (Operand.tmp 58), type := 23, pos := "law.go:141", after := #[{ on := 3, ground := Ground.data }], guard := none }, { dst := some 60, op := Op.load 23 (Operand.tmp 4), type := 23, pos := "law.go:141", after := #[], guard := none }, { dst := some 61, op := Op.indexAddr 47 (Operand.tmp 5) (Operand.const (Value.int IntKind.i64 3)), type := 0, pos := "law.go:141", after := #[], guard := none }, { dst := some 62, op := Op.load 3 (Operand.tmp 61), type := 3, pos := "law.go:141", after := #[{ on := 6, ground := Ground.data }], guard := none }, { dst := some 63, op := Op.call { callee := Callee.value (Operand.func 12), args := #[Operand.tmp 59, Operand.tmp 60, Operand.tmp 62], argTypes := #[23, 23, 3] }, type := 36, pos := "law.go:141", after := #[{ on := 4, ground := Ground.data }, { on := 5, ground := Ground.data }, { on := 7, ground := Ground.data }, { on := 2, ground := Ground.chain }], guard := none }, { dst := some 54, op := Op.move (Operand.tmp 63), type := 36, pos := "law.go:141", after := #[{ on := 8, ground := Ground.data }], guard := none }, { dst := some 64, op := Op.extract (Operand.tmp 54) 0, type := 26, pos := "law.go:141", after := #[{ on := 9, ground := Ground.data }], guard := none }, { dst := some 65, op := Op.extract (Operand.tmp 54) 1, type := 35, pos := "law.go:141", after := #[{ on := 9, ground := Ground.data }, { on := 14, ground := Ground.gcOnly Departure.lateStores }], guard := none }, { dst := some 66, op := Op.extract (Operand.tmp 54) 2, type := 30, pos := "law.go:141", after := #[{ on := 9, ground := Ground.data }, { on := 15, ground := Ground.gcOnly Departure.lateStores }], guard := none }, { dst := some 11, op := Op.alloc 35, type := 0, pos := "law.go:141", after := #[], guard := none }, { dst := some 10, op := Op.assign (Operand.tmp 64), type := 26, pos := "law.go:141", after := #[{ on := 10, ground := Ground.data }, { on := 8, ground := Ground.chain }, { on := 0, ground := Ground.phase }, { on := 1, ground := Ground.phase }, { on := 2, ground := Ground.phase }, { on := 3, ground := Ground.phase }, { on := 4, ground := Ground.phase }, { on := 5, ground := Ground.phase }, { on := 6, ground := Ground.phase }, { on := 7, ground := Ground.phase }, { on := 8, ground := Ground.phase }, { on := 9, ground := Ground.phase }, { on := 10, ground := Ground.phase }, { on := 11, ground := Ground.textOnly Departure.lateStores }, { on := 12, ground := Ground.textOnly Departure.lateStores }, { on := 13, ground := Ground.phase }], guard := none }, { dst := none, op := Op.store 35 (Operand.tmp 11) (Operand.tmp 65), type := 0, pos := "law.go:141", after := #[{ on := 13, ground := Ground.data }, { on := 11, ground := Ground.data }, { on := 14, ground := Ground.chain }, { on := 0, ground := Ground.phase }, { on := 1, ground := Ground.phase }, { on := 2, ground := Ground.phase }, { on := 3, ground := Ground.phase }, { on := 4, ground := Ground.phase }, { on := 5, ground := Ground.phase }, { on := 6, ground := Ground.phase }, { on := 7, ground := Ground.phase }, { on := 8, ground := Ground.phase }, { on := 9, ground := Ground.phase }, { on := 10, ground := Ground.phase }, { on := 11, ground := Ground.phase }, { on := 12, ground := Ground.textOnly Departure.lateStores }, { on := 13, ground := Ground.phase }, { on := 14, ground := Ground.phase }], guard := none }, { dst := some 12, op := Op.assign (Operand.tmp 66), type := 30, pos := "law.go:141", after := #[{ on := 12, ground := Ground.data }, { on := 15, ground := Ground.chain }, { on := 0, ground := Ground.phase }, { on := 1, ground := Ground.phase }, { on := 2, ground := Ground.phase }, { on := 3, ground := Ground.phase }, { on := 4, ground := Ground.phase }, { on := 5, ground := Ground.phase }, { on := 6, ground := Ground.phase }, { on := 7, ground := Ground.phase }, { on := 8, ground := Ground.phase }, { on := 9, ground := Ground.phase }, { on := 10, ground := Ground.phase }, { on := 11, ground := Ground.phase }, { on := 12, ground := Ground.phase }, { on := 13, ground := Ground.phase }, { on := 14, ground := Ground.phase }, { on := 15, ground := Ground.phase }], guard := none }]
theorem op9_0 : op9_All[0]? = some ({ dst := some 55, op := Op.load 33 (Operand.tmp 8), type := 33, pos := "law.go:141", after := #[], guard := none }) := rfl
theorem op9_1 : op9_All[1]? = some ({ dst := some 56, op := Op.buildSlice 27 1 #[(0, Operand.tmp 55)], type := 27, pos := "law.go:141", after := #[{ on := 0, ground := Ground.data }], guard := none }) := rfl
theorem op9_2 : op9_All[2]? = some ({ dst := some 57, op := Op.call { callee := Callee.value (Operand.func 14), args := #[Operand.tmp 56], argTypes := #[27] }, type := 26, pos := "law.go:141", after := #[{ on := 1, ground := Ground.data }], guard := none }) := rfl
theorem op9_3 : op9_All[3]? = some ({ dst := some 58, op := Op.indexAddr 26 (Operand.tmp 57) (Operand.const (Value.int IntKind.i64 0)), type := 0, pos := "law.go:141", after := #[{ on := 2, ground := Ground.data }], guard := none }) := rfl
theorem op9_4 : op9_All[4]? = some ({ dst := some 59, op := Op.load 23 (Operand.tmp 58), type := 23, pos := "law.go:141", after := #[{ on := 3, ground := Ground.data }], guard := none }) := rfl
theorem op9_5 : op9_All[5]? = some ({ dst := some 60, op := Op.load 23 (Operand.tmp 4), type := 23, pos := "law.go:141", after := #[], guard := none }) := rfl
theorem op9_6 : op9_All[6]? = some ({ dst := some 61, op := Op.indexAddr 47 (Operand.tmp 5) (Operand.const (Value.int IntKind.i64 3)), type := 0, pos := "law.go:141", after := #[], guard := none }) := rfl
theorem op9_7 : op9_All[7]? = some ({ dst := some 62, op := Op.load 3 (Operand.tmp 61), type := 3, pos := "law.go:141", after := #[{ on := 6, ground := Ground.data }], guard := none }) := rfl
theorem op9_8 : op9_All[8]? = some ({ dst := some 63, op := Op.call { callee := Callee.value (Operand.func 12), args := #[Operand.tmp 59, Operand.tmp 60, Operand.tmp 62], argTypes := #[23, 23, 3] }, type := 36, pos := "law.go:141", after := #[{ on := 4, ground := Ground.data }, { on := 5, ground := Ground.data }, { on := 7, ground := Ground.data }, { on := 2, ground := Ground.chain }], guard := none }) := rfl
theorem op9_9 : op9_All[9]? = some ({ dst := some 54, op := Op.move (Operand.tmp 63), type := 36, pos := "law.go:141", after := #[{ on := 8, ground := Ground.data }], guard := none }) := rfl
theorem op9_10 : op9_All[10]? = some ({ dst := some 64, op := Op.extract (Operand.tmp 54) 0, type := 26, pos := "law.go:141", after := #[{ on := 9, ground := Ground.data }], guard := none }) := rfl
theorem op9_11 : op9_All[11]? = some ({ dst := some 65, op := Op.extract (Operand.tmp 54) 1, type := 35, pos := "law.go:141", after := #[{ on := 9, ground := Ground.data }, { on := 14, ground := Ground.gcOnly Departure.lateStores }], guard := none }) := rfl
theorem op9_12 : op9_All[12]? = some ({ dst := some 66, op := Op.extract (Operand.tmp 54) 2, type := 30, pos := "law.go:141", after := #[{ on := 9, ground := Ground.data }, { on := 15, ground := Ground.gcOnly Departure.lateStores }], guard := none }) := rfl
theorem op9_13 : op9_All[13]? = some ({ dst := some 11, op := Op.alloc 35, type := 0, pos := "law.go:141", after := #[], guard := none }) := rfl
theorem op9_14 : op9_All[14]? = some ({ dst := some 10, op := Op.assign (Operand.tmp 64), type := 26, pos := "law.go:141", after := #[{ on := 10, ground := Ground.data }, { on := 8, ground := Ground.chain }, { on := 0, ground := Ground.phase }, { on := 1, ground := Ground.phase }, { on := 2, ground := Ground.phase }, { on := 3, ground := Ground.phase }, { on := 4, ground := Ground.phase }, { on := 5, ground := Ground.phase }, { on := 6, ground := Ground.phase }, { on := 7, ground := Ground.phase }, { on := 8, ground := Ground.phase }, { on := 9, ground := Ground.phase }, { on := 10, ground := Ground.phase }, { on := 11, ground := Ground.textOnly Departure.lateStores }, { on := 12, ground := Ground.textOnly Departure.lateStores }, { on := 13, ground := Ground.phase }], guard := none }) := rfl
theorem op9_15 : op9_All[15]? = some ({ dst := none, op := Op.store 35 (Operand.tmp 11) (Operand.tmp 65), type := 0, pos := "law.go:141", after := #[{ on := 13, ground := Ground.data }, { on := 11, ground := Ground.data }, { on := 14, ground := Ground.chain }, { on := 0, ground := Ground.phase }, { on := 1, ground := Ground.phase }, { on := 2, ground := Ground.phase }, { on := 3, ground := Ground.phase }, { on := 4, ground := Ground.phase }, { on := 5, ground := Ground.phase }, { on := 6, ground := Ground.phase }, { on := 7, ground := Ground.phase }, { on := 8, ground := Ground.phase }, { on := 9, ground := Ground.phase }, { on := 10, ground := Ground.phase }, { on := 11, ground := Ground.phase }, { on := 12, ground := Ground.textOnly Departure.lateStores }, { on := 13, ground := Ground.phase }, { on := 14, ground := Ground.phase }], guard := none }) := rfl
theorem op9_16 : op9_All[16]? = some ({ dst := some 12, op := Op.assign (Operand.tmp 66), type := 30, pos := "law.go:141", after := #[{ on := 12, ground := Ground.data }, { on := 15, ground := Ground.chain }, { on := 0, ground := Ground.phase }, { on := 1, ground := Ground.phase }, { on := 2, ground := Ground.phase }, { on := 3, ground := Ground.phase }, { on := 4, ground := Ground.phase }, { on := 5, ground := Ground.phase }, { on := 6, ground := Ground.phase }, { on := 7, ground := Ground.phase }, { on := 8, ground := Ground.phase }, { on := 9, ground := Ground.phase }, { on := 10, ground := Ground.phase }, { on := 11, ground := Ground.phase }, { on := 12, ground := Ground.phase }, { on := 13, ground := Ground.phase }, { on := 14, ground := Ground.phase }, { on := 15, ground := Ground.phase }], guard := none }) := rfl
theorem one_calls (s k p n : Int) (t : ByteArray) (w : World) : Calls Tryd.prog 11 #[.agg #[.int .i64 s, .int .i64 k, .int .i64 p, .int .i64 n, .string t]] w fun e w' =>
  e = .returned (.agg #[.int .i64 s, .int .i64 k, .int .i64 p, .int .i64 n, .string t]) ∧ Below w.heap.size w w' := foolscaplaw29_one.calls s k p n t s k p n t w rfl
theorem World.new_at {W W' : World} {b : Nat} (h : W.heap.size ≤ W'.heap.size) (hl : b < W.heap.size) : b ≠ W'.heap.size ∧ W'.heap.size ≠ b := ⟨by omega, by omega⟩
theorem amb_drew {W : World} (h : Aside0 (XAmb W)) : Aside0 (XAmb W.drew) := XAmb_step h (Below.refl _ _).drew
theorem amb_alloc {W : World} (o : Obj) (h : Aside0 (XAmb W)) : Aside0 (XAmb (W.alloc o)) := XAmb_step h (below_alloc (Below.refl _ _) o)
theorem Bxs.join {W0 W W' : World} {l : List (Nat × Array Value × TypeId)} {x : Nat × Array Value × TypeId} (h : Bxs W0 l W) (h' : Bxs W [x] W') : Bxs W0 (x :: l) W' := by
 have hk := h.keep h'.below
 have hx := h'.lo x (List.mem_singleton.2 rfl)
 refine ⟨fun y hy => ?_, ?_, fun y hy => ?_, hk.below⟩
 ·rcases List.mem_cons.1 hy with rfl | hy
  ·exact h'.at_ _ (List.mem_singleton.2 rfl)
  ·exact hk.at_ y hy
 ·simp only [List.map_cons, List.nodup_cons]
  refine ⟨fun hm => ?_, h.nd⟩
  obtain ⟨y, hy, he⟩ := List.mem_map.1 hm
  have := h.lt hy
  omega
 ·rcases List.mem_cons.1 hy with rfl | hy
  ·exact Nat.le_trans h.below.size hx
  ·exact h.lo y hy
theorem Bxs.made {W W' : World} (h : Below W.heap.size W W') (cs : Array Value) (t : TypeId) : Bxs W [(W'.heap.size, cs, t)] (W'.alloc (.cells cs t (0, 0))) :=
 ⟨fun y hy => by rw [List.mem_singleton.1 hy]; exact blk_new W' _, by simp, fun y hy => by rw [List.mem_singleton.1 hy]; exact h.size, below_alloc h _⟩
theorem Bxs.one {W W' : World} {g : Nat} {cs : Array Value} {t : TypeId} (h : Below W.heap.size W W') (hg : W.heap.size ≤ g) (hb : W'.heap[g]? = some (.cells cs t (0, 0))) : Bxs W [(g, cs, t)] W' :=
 ⟨fun y hy => by rw [List.mem_singleton.1 hy]; exact hb, by simp, fun y hy => by rw [List.mem_singleton.1 hy]; exact hg, h⟩
theorem blk_at {W : World} {o : Obj} {g : Nat} (h : g = W.heap.size) : (W.alloc o).heap[g]? = some o := h ▸ blk_new W o
theorem lit_C {W : World} {g : Nat} (d : S33) (h : W.heap[g]? = some (.cells #[.int .i64 d.f0, .int .i64 d.f1, .int .i64 d.f2, .int .i64 d.f3, .string d.f4] 33 (0, 0))) : Kd.C k33 W (some ⟨g, 0, none⟩) 1 [d] := by
 refine ⟨by simp, by decide, fun _ => ⟨_, rfl, fun j x hj => ?_⟩⟩
 obtain ⟨hjl, hx⟩ := List.getElem?_eq_some_iff.1 hj
 have hj0 : j = 0 := by simpa using hjl
 subst hj0
 have hx2 : d = x := hx
 subst hx2
 refine ⟨_, rfl, k33_mk W d, fun i u hu => ?_⟩
 rw [show (⟨g, 0, none⟩ : Addr).add (0 * k33.sz + i) = ⟨g, i, none⟩ by rw [Nat.zero_mul, Nat.zero_add, add_head]]
 rw [blk_cell h i]
 simpa using hu
theorem five {V : World} {g : Nat} {d : S33} (h : V.cell? ⟨g, 0 * 5, none⟩ = some (.int .i64 (([toR d] : List S23).getD 0 z23).f0) ∧ V.cell? ⟨g, 0 * 5 + 1, none⟩ = some (.int .i64 (([toR d] : List S23).getD 0 z23).f1) ∧ V.cell? ⟨g, 0 * 5 + 2, none⟩ = some (.int .i64 (([toR d] : List S23).getD 0 z23).f2) ∧ V.cell? ⟨g, 0 * 5 + 3, none⟩ = some (.int .i64 (([toR d] : List S23).getD 0 z23).f3) ∧ V.cell? ⟨g, 0 * 5 + 4, none⟩ = some (.string (([toR d] : List S23).getD 0 z23).f4)) :
  V.cell? ⟨g, 0, none⟩ = some (.int .i64 d.f0) ∧ V.cell? ⟨g, 1, none⟩ = some (.int .i64 d.f1) ∧ V.cell? ⟨g, 2, none⟩ = some (.int .i64 d.f2) ∧ V.cell? ⟨g, 3, none⟩ = some (.int .i64 d.f3) ∧ V.cell? ⟨g, 4, none⟩ = some (.string d.f4) ∧
  (∀ o, (V.alloc o).cell? ⟨g, 0, none⟩ = some (.int .i64 d.f0)) ∧ (∀ o, (V.alloc o).cell? ⟨g, 1, none⟩ = some (.int .i64 d.f1)) ∧ (∀ o, (V.alloc o).cell? ⟨g, 2, none⟩ = some (.int .i64 d.f2)) ∧ (∀ o, (V.alloc o).cell? ⟨g, 3, none⟩ = some (.int .i64 d.f3)) ∧ ∀ o, (V.alloc o).cell? ⟨g, 4, none⟩ = some (.string d.f4) := by
 obtain ⟨a, b, c, e, f⟩ := h
 exact ⟨a, b, c, e, f, fun o => gcell (below_alloc (Below.refl _ _) o) _ _ a, fun o => gcell (below_alloc (Below.refl _ _) o) _ _ b, fun o => gcell (below_alloc (Below.refl _ _) o) _ _ c, fun o => gcell (below_alloc (Below.refl _ _) o) _ _ e, fun o => gcell (below_alloc (Below.refl _ _) o) _ _ f⟩
theorem lit_C23 {W : World} {g : Nat} (d : S23) (h : W.heap[g]? = some (.cells #[.int .i64 d.f0, .int .i64 d.f1, .int .i64 d.f2, .int .i64 d.f3, .string d.f4] 23 (0, 0))) : Kd.C k23 W (some ⟨g, 0, none⟩) 1 [d] := by
 refine ⟨by simp, by decide, fun _ => ⟨_, rfl, fun j x hj => ?_⟩⟩
 obtain ⟨hjl, hx⟩ := List.getElem?_eq_some_iff.1 hj
 have hj0 : j = 0 := by simpa using hjl
 subst hj0
 have hx2 : d = x := hx
 subst hx2
 refine ⟨_, rfl, k23_mk W d, fun i u hu => ?_⟩
 rw [show (⟨g, 0, none⟩ : Addr).add (0 * k23.sz + i) = ⟨g, i, none⟩ by rw [Nat.zero_mul, Nat.zero_add, add_head]]
 rw [blk_cell h i]
 simpa using hu

set_option maxRecDepth 100000 in
set_option maxHeartbeats 8000000 in
theorem raw_g1 (k : Nat) (A0 : Option Addr) (c0 : Nat) (l : List S23) (s2 k2 p2 n2 : Int) (t2 : ByteArray) (h0 h1 h2 h3 : Int) (w : World) (hT : Aside0 (XAmb w)) (hC : Kd.C k23 w A0 l.length l) (hc : l.length ≤ c0) (hg : foolscaplaw29_great.f k ⟨#[]⟩ l = some true) :
  Calls Tryd.prog 6 #[.slice A0 l.length c0, .agg #[.int .i64 s2, .int .i64 k2, .int .i64 p2, .int .i64 n2, .string t2], .agg #[.int .i64 h0, .int .i64 h1, .int .i64 h2, .int .i64 h3]] w fun e w' => e = .returned (.bool true) ∧ Below w.heap.size w w' := by
 have HG := Lib.hid hg
 clear hg
 have HC := Lib.hid (And.intro hc hC)
 clear hC hc
 have HB0 := Lib.hid (((Bxs.start w).new #[.int .i64 s2, .int .i64 k2, .int .i64 p2, .int .i64 n2, .string t2] 23).new #[.int .i64 h0, .int .i64 h1, .int .i64 h2, .int .i64 h3] 47)
 have hu23 := Tryd.underlying23
 have hu33 := Tryd.underlying33
 have hu29 := Tryd.underlying29
 have hu35 := Tryd.underlying35
 have hu47 := Tryd.underlying47
 go_enter Tryd.func6, Tryd.ntmps6
 go_upto_region 1 with fail
 obtain ⟨W1, hW1⟩ : ∃ x, (w.alloc (.cells #[.int .i64 s2, .int .i64 k2, .int .i64 p2, .int .i64 n2, .string t2] 23)).alloc (.cells #[.int .i64 h0, .int .i64 h1, .int .i64 h2, .int .i64 h3] 47) = x := ⟨_, rfl⟩
 have HX : Hid (Bxs w [((w.heap.size + 1), #[.int .i64 h0, .int .i64 h1, .int .i64 h2, .int .i64 h3], 47), (w.heap.size, #[.int .i64 s2, .int .i64 k2, .int .i64 p2, .int .i64 n2, .string t2], 23)] W1) := by
  rw [← hW1]
  simpa [Hid] using HB0.out
 rw [hW1]
 clear hW1 HB0
 go_wp2_with fail
 refine (foolscaplaw29_alive.calls true _ (XAmb_step hT HX.out.below) rfl).mono ?_
 rintro e W2 ⟨rfl, hb⟩
 have HY := Lib.hid (HX.out.keep hb)
 clear HX
 have HX := HY
 clear HY hb
 go_wp2_with fail
 refine (foolscaplaw29_great.calls k _ _ _ l true _ (Kd.C_below HC.out.2 HX.out.below) HC.out.1 HG.out).mono ?_
 rintro e W3 ⟨rfl, hb⟩
 have hb := hb.below
 have HY := Lib.hid (HX.out.keep hb)
 clear HX
 have HX := HY
 clear HY hb
 clear HG HC
 go_wp2
 go_ret
 exact ⟨rfl, HX.out.below⟩

set_option maxRecDepth 100000 in
set_option maxHeartbeats 8000000 in
theorem raw_g2 (k : Nat) (A0 : Option Addr) (c0 : Nat) (l : List S23) (s2 k2 p2 n2 : Int) (t2 : ByteArray) (h0 h1 h2 h3 : Int) (w : World) (hT : Aside0 (XAmb w)) (hC : Kd.C k23 w A0 l.length l) (hc : l.length ≤ c0) (hg : foolscaplaw29_great.f k ⟨#[]⟩ l = some false) (hg2 : foolscaplaw29_great.f k ⟨#[]⟩ [(⟨s2, k2, p2, n2, t2⟩ : S23)] = some true)  :
  Calls Tryd.prog 6 #[.slice A0 l.length c0, .agg #[.int .i64 s2, .int .i64 k2, .int .i64 p2, .int .i64 n2, .string t2], .agg #[.int .i64 h0, .int .i64 h1, .int .i64 h2, .int .i64 h3]] w fun e w' => e = .returned (.bool true) ∧ Below w.heap.size w w' := by
 have HG := Lib.hid hg
 clear hg
 have HG2 := Lib.hid hg2
 clear hg2
 have HC := Lib.hid (And.intro hc hC)
 clear hC hc
 have HB0 := Lib.hid (((Bxs.start w).new #[.int .i64 s2, .int .i64 k2, .int .i64 p2, .int .i64 n2, .string t2] 23).new #[.int .i64 h0, .int .i64 h1, .int .i64 h2, .int .i64 h3] 47)
 have hu23 := Tryd.underlying23
 have hu33 := Tryd.underlying33
 have hu29 := Tryd.underlying29
 have hu35 := Tryd.underlying35
 have hu47 := Tryd.underlying47
 go_enter Tryd.func6, Tryd.ntmps6
 go_upto_region 1 with fail
 obtain ⟨W1, hW1⟩ : ∃ x, (w.alloc (.cells #[.int .i64 s2, .int .i64 k2, .int .i64 p2, .int .i64 n2, .string t2] 23)).alloc (.cells #[.int .i64 h0, .int .i64 h1, .int .i64 h2, .int .i64 h3] 47) = x := ⟨_, rfl⟩
 have HX : Hid (Bxs w [((w.heap.size + 1), #[.int .i64 h0, .int .i64 h1, .int .i64 h2, .int .i64 h3], 47), (w.heap.size, #[.int .i64 s2, .int .i64 k2, .int .i64 p2, .int .i64 n2, .string t2], 23)] W1) := by
  rw [← hW1]
  simpa [Hid] using HB0.out
 rw [hW1]
 clear hW1 HB0
 go_wp2_with fail
 refine (foolscaplaw29_alive.calls true _ (XAmb_step hT HX.out.below) rfl).mono ?_
 rintro e W2 ⟨rfl, hb⟩
 have HY := Lib.hid (HX.out.keep hb)
 clear HX
 have HX := HY
 clear HY hb
 go_wp2_with fail
 refine (foolscaplaw29_great.calls k _ _ _ l false _ (Kd.C_below HC.out.2 HX.out.below) HC.out.1 HG.out).mono ?_
 rintro e W3 ⟨rfl, hb⟩
 have hb := hb.below
 have HY := Lib.hid (HX.out.keep hb)
 clear HX
 have HX := HY
 clear HY hb
 have c1_0 : W3.cell? ⟨w.heap.size, 0, none⟩ = some (.int .i64 s2) := (HX.out.cell 1 rfl 0).trans rfl
 have c1_1 : W3.cell? ⟨w.heap.size, 1, none⟩ = some (.int .i64 k2) := (HX.out.cell 1 rfl 1).trans rfl
 have c1_2 : W3.cell? ⟨w.heap.size, 2, none⟩ = some (.int .i64 p2) := (HX.out.cell 1 rfl 2).trans rfl
 have c1_3 : W3.cell? ⟨w.heap.size, 3, none⟩ = some (.int .i64 n2) := (HX.out.cell 1 rfl 3).trans rfl
 have c1_4 : W3.cell? ⟨w.heap.size, 4, none⟩ = some (.string t2) := (HX.out.cell 1 rfl 4).trans rfl
 go_wp2_with fail
 refine (foolscaplaw29_great.calls k _ _ _ [(⟨s2, k2, p2, n2, t2⟩ : S23)] true _ (lit_C23 (⟨s2, k2, p2, n2, t2⟩ : S23) (blk_new _ _)) (Nat.le_refl _) HG2.out).mono ?_
 rintro e W4 ⟨rfl, hd⟩
 have hb := hd.below
 have HY := Lib.hid ((HX.out.keep (below_alloc (Below.refl _ _) _)).keep hb)
 clear HX
 have HX := HY
 clear HY hb hd c1_0 c1_1 c1_2 c1_3 c1_4
 clear HG HG2 HC
 go_wp2
 go_ret
 exact ⟨rfl, HX.out.below⟩

set_option maxRecDepth 100000 in
set_option maxHeartbeats 8000000 in
theorem raw_far (k : Nat) (A0 : Option Addr) (c0 : Nat) (l : List S23) (s2 k2 p2 n2 : Int) (t2 : ByteArray) (h0 h1 h2 h3 : Int) (w : World) (hT : Aside0 (XAmb w)) (hC : Kd.C k23 w A0 l.length l) (hc : l.length ≤ c0) (hg : foolscaplaw29_great.f k ⟨#[]⟩ l = some false) (hg2 : foolscaplaw29_great.f k ⟨#[]⟩ [(⟨s2, k2, p2, n2, t2⟩ : S23)] = some false) (hn : 1000 < h3) :
  Calls Tryd.prog 6 #[.slice A0 l.length c0, .agg #[.int .i64 s2, .int .i64 k2, .int .i64 p2, .int .i64 n2, .string t2], .agg #[.int .i64 h0, .int .i64 h1, .int .i64 h2, .int .i64 h3]] w fun e w' => e = .returned (.bool true) ∧ Below w.heap.size w w' := by
 have HG := Lib.hid hg
 clear hg
 have HG2 := Lib.hid hg2
 clear hg2
 have hn1 : h3 > 1000 := hn
 have hd1 : decide (h3 > 1000) = true := decide_eq_true hn
 have hd2 : decide (1000 < h3) = true := decide_eq_true hn
 have HC := Lib.hid (And.intro hc hC)
 clear hC hc
 have HB0 := Lib.hid (((Bxs.start w).new #[.int .i64 s2, .int .i64 k2, .int .i64 p2, .int .i64 n2, .string t2] 23).new #[.int .i64 h0, .int .i64 h1, .int .i64 h2, .int .i64 h3] 47)
 have hu23 := Tryd.underlying23
 have hu33 := Tryd.underlying33
 have hu29 := Tryd.underlying29
 have hu35 := Tryd.underlying35
 have hu47 := Tryd.underlying47
 go_enter Tryd.func6, Tryd.ntmps6
 go_upto_region 1 with fail
 obtain ⟨W1, hW1⟩ : ∃ x, (w.alloc (.cells #[.int .i64 s2, .int .i64 k2, .int .i64 p2, .int .i64 n2, .string t2] 23)).alloc (.cells #[.int .i64 h0, .int .i64 h1, .int .i64 h2, .int .i64 h3] 47) = x := ⟨_, rfl⟩
 have HX : Hid (Bxs w [((w.heap.size + 1), #[.int .i64 h0, .int .i64 h1, .int .i64 h2, .int .i64 h3], 47), (w.heap.size, #[.int .i64 s2, .int .i64 k2, .int .i64 p2, .int .i64 n2, .string t2], 23)] W1) := by
  rw [← hW1]
  simpa [Hid] using HB0.out
 rw [hW1]
 clear hW1 HB0
 go_wp2_with fail
 refine (foolscaplaw29_alive.calls true _ (XAmb_step hT HX.out.below) rfl).mono ?_
 rintro e W2 ⟨rfl, hb⟩
 have HY := Lib.hid (HX.out.keep hb)
 clear HX
 have HX := HY
 clear HY hb
 go_wp2_with fail
 refine (foolscaplaw29_great.calls k _ _ _ l false _ (Kd.C_below HC.out.2 HX.out.below) HC.out.1 HG.out).mono ?_
 rintro e W3 ⟨rfl, hb⟩
 have hb := hb.below
 have HY := Lib.hid (HX.out.keep hb)
 clear HX
 have HX := HY
 clear HY hb
 have c1_0 : W3.cell? ⟨w.heap.size, 0, none⟩ = some (.int .i64 s2) := (HX.out.cell 1 rfl 0).trans rfl
 have c1_1 : W3.cell? ⟨w.heap.size, 1, none⟩ = some (.int .i64 k2) := (HX.out.cell 1 rfl 1).trans rfl
 have c1_2 : W3.cell? ⟨w.heap.size, 2, none⟩ = some (.int .i64 p2) := (HX.out.cell 1 rfl 2).trans rfl
 have c1_3 : W3.cell? ⟨w.heap.size, 3, none⟩ = some (.int .i64 n2) := (HX.out.cell 1 rfl 3).trans rfl
 have c1_4 : W3.cell? ⟨w.heap.size, 4, none⟩ = some (.string t2) := (HX.out.cell 1 rfl 4).trans rfl
 go_wp2_with fail
 refine (foolscaplaw29_great.calls k _ _ _ [(⟨s2, k2, p2, n2, t2⟩ : S23)] false _ (lit_C23 (⟨s2, k2, p2, n2, t2⟩ : S23) (blk_new _ _)) (Nat.le_refl _) HG2.out).mono ?_
 rintro e W4 ⟨rfl, hd⟩
 have hb := hd.below
 have HY := Lib.hid ((HX.out.keep (below_alloc (Below.refl _ _) _)).keep hb)
 clear HX
 have HX := HY
 clear HY hb hd c1_0 c1_1 c1_2 c1_3 c1_4
 clear HG HG2 HC
 have c0_0 : W4.cell? ⟨(w.heap.size + 1), 0, none⟩ = some (.int .i64 h0) := (HX.out.cell 0 rfl 0).trans rfl
 have c0_1 : W4.cell? ⟨(w.heap.size + 1), 1, none⟩ = some (.int .i64 h1) := (HX.out.cell 0 rfl 1).trans rfl
 have c0_2 : W4.cell? ⟨(w.heap.size + 1), 2, none⟩ = some (.int .i64 h2) := (HX.out.cell 0 rfl 2).trans rfl
 have c0_3 : W4.cell? ⟨(w.heap.size + 1), 3, none⟩ = some (.int .i64 h3) := (HX.out.cell 0 rfl 3).trans rfl
 go_wp2
 go_ret
 exact ⟨rfl, HX.out.below⟩

set_option maxRecDepth 100000 in
set_option maxHeartbeats 8000000 in
theorem raw_rest (k : Nat) (A0 : Option Addr) (c0 : Nat) (l : List S23) (s2 k2 p2 n2 : Int) (t2 : ByteArray) (h0 h1 h2 h3 : Int) (w : World) (hT : Aside0 (XAmb w)) (hC : Kd.C k23 w A0 l.length l) (hc : l.length ≤ c0) (hg : foolscaplaw29_great.f k ⟨#[]⟩ l = some false) (hg2 : foolscaplaw29_great.f k ⟨#[]⟩ [(⟨s2, k2, p2, n2, t2⟩ : S23)] = some false) (hn : ¬ 1000 < h3) (L : List S33) (d : S33) (E : Int) (hof : foolscaplaw29_Of.f k l = some L) (hx : plain_Excl.f k L h0 h1 h2 s2 k2 p2 n2 t2 h3 = some (d.f0, d.f1, d.f2, d.f3, d.f4, E)) (hsm : foolscapref29_Same.f k l l = some true) (hcase : (E = 1 ∧ d = ⟨0, 0, 0, 0, ⟨#[]⟩⟩) ∨ (E = 0 ∧ foolscaplaw29_Plain.f k [d] = some [toR d] ∧ ∀ w : World, Calls Tryd.prog 12 #[.agg #[.int .i64 d.f0, .int .i64 d.f1, .int .i64 d.f2, .int .i64 d.f3, .string d.f4], .agg #[.int .i64 s2, .int .i64 k2, .int .i64 p2, .int .i64 n2, .string t2], .int .i64 h3] w fun e w' => ∃ v0_ : Value, e = .returned (.tuple #[v0_, .agg #[.int .i64 h0, .int .i64 h1, .int .i64 h2], .int .i64 0]) ∧ Kd.R k23 23 w' w.heap.size (fun _ => True) v0_ l ∧ Below w.heap.size w w')) :
  Calls Tryd.prog 6 #[.slice A0 l.length c0, .agg #[.int .i64 s2, .int .i64 k2, .int .i64 p2, .int .i64 n2, .string t2], .agg #[.int .i64 h0, .int .i64 h1, .int .i64 h2, .int .i64 h3]] w fun e w' => e = .returned (.bool true) ∧ Below w.heap.size w w' := by
 have HG := Lib.hid hg
 clear hg
 have HG2 := Lib.hid hg2
 clear hg2
 have HOF := Lib.hid hof
 have HEX := Lib.hid hx
 have HSM := Lib.hid hsm
 clear hof hx hsm
 have hn1 : ¬ h3 > 1000 := hn
 have hd1 : decide (h3 > 1000) = false := decide_eq_false hn
 have hd2 : decide (1000 < h3) = false := decide_eq_false hn
 have HC := Lib.hid (And.intro hc hC)
 clear hC hc
 have HB0 := Lib.hid (((Bxs.start w).new #[.int .i64 s2, .int .i64 k2, .int .i64 p2, .int .i64 n2, .string t2] 23).new #[.int .i64 h0, .int .i64 h1, .int .i64 h2, .int .i64 h3] 47)
 have hu23 := Tryd.underlying23
 have hu33 := Tryd.underlying33
 have hu29 := Tryd.underlying29
 have hu35 := Tryd.underlying35
 have hu47 := Tryd.underlying47
 go_enter Tryd.func6, Tryd.ntmps6
 go_upto_region 1 with fail
 obtain ⟨W1, hW1⟩ : ∃ x, (w.alloc (.cells #[.int .i64 s2, .int .i64 k2, .int .i64 p2, .int .i64 n2, .string t2] 23)).alloc (.cells #[.int .i64 h0, .int .i64 h1, .int .i64 h2, .int .i64 h3] 47) = x := ⟨_, rfl⟩
 have HX : Hid (Bxs w [((w.heap.size + 1), #[.int .i64 h0, .int .i64 h1, .int .i64 h2, .int .i64 h3], 47), (w.heap.size, #[.int .i64 s2, .int .i64 k2, .int .i64 p2, .int .i64 n2, .string t2], 23)] W1) := by
  rw [← hW1]
  simpa [Hid] using HB0.out
 rw [hW1]
 clear hW1 HB0
 go_wp2_with fail
 refine (foolscaplaw29_alive.calls true _ (XAmb_step hT HX.out.below) rfl).mono ?_
 rintro e W2 ⟨rfl, hb⟩
 have HY := Lib.hid (HX.out.keep hb)
 clear HX
 have HX := HY
 clear HY hb
 go_wp2_with fail
 refine (foolscaplaw29_great.calls k _ _ _ l false _ (Kd.C_below HC.out.2 HX.out.below) HC.out.1 HG.out).mono ?_
 rintro e W3 ⟨rfl, hb⟩
 have hb := hb.below
 have HY := Lib.hid (HX.out.keep hb)
 clear HX
 have HX := HY
 clear HY hb
 have c1_0 : W3.cell? ⟨w.heap.size, 0, none⟩ = some (.int .i64 s2) := (HX.out.cell 1 rfl 0).trans rfl
 have c1_1 : W3.cell? ⟨w.heap.size, 1, none⟩ = some (.int .i64 k2) := (HX.out.cell 1 rfl 1).trans rfl
 have c1_2 : W3.cell? ⟨w.heap.size, 2, none⟩ = some (.int .i64 p2) := (HX.out.cell 1 rfl 2).trans rfl
 have c1_3 : W3.cell? ⟨w.heap.size, 3, none⟩ = some (.int .i64 n2) := (HX.out.cell 1 rfl 3).trans rfl
 have c1_4 : W3.cell? ⟨w.heap.size, 4, none⟩ = some (.string t2) := (HX.out.cell 1 rfl 4).trans rfl
 go_wp2_with fail
 refine (foolscaplaw29_great.calls k _ _ _ [(⟨s2, k2, p2, n2, t2⟩ : S23)] false _ (lit_C23 (⟨s2, k2, p2, n2, t2⟩ : S23) (blk_new _ _)) (Nat.le_refl _) HG2.out).mono ?_
 rintro e W4 ⟨rfl, hd⟩
 have hb := hd.below
 have HY := Lib.hid ((HX.out.keep (below_alloc (Below.refl _ _) _)).keep hb)
 clear HX
 have HX := HY
 clear HY hb hd c1_0 c1_1 c1_2 c1_3 c1_4
 clear HG HG2
 have c0_0 : W4.cell? ⟨(w.heap.size + 1), 0, none⟩ = some (.int .i64 h0) := (HX.out.cell 0 rfl 0).trans rfl
 have c0_1 : W4.cell? ⟨(w.heap.size + 1), 1, none⟩ = some (.int .i64 h1) := (HX.out.cell 0 rfl 1).trans rfl
 have c0_2 : W4.cell? ⟨(w.heap.size + 1), 2, none⟩ = some (.int .i64 h2) := (HX.out.cell 0 rfl 2).trans rfl
 have c0_3 : W4.cell? ⟨(w.heap.size + 1), 3, none⟩ = some (.int .i64 h3) := (HX.out.cell 0 rfl 3).trans rfl
 go_upto_region 6 with fail
 clear hn1 hd1 hd2
 obtain ⟨g7, hg7⟩ : ∃ x, W4.heap.size = x := ⟨_, rfl⟩
 have HY := Lib.hid (HX.out.new #[.int .i64 h0, .int .i64 h1, .int .i64 h2] 29)
 obtain ⟨W5, hW5⟩ : ∃ x, W4.alloc (.cells #[.int .i64 h0, .int .i64 h1, .int .i64 h2] 29) = x := ⟨_, rfl⟩
 rw [hW5, hg7] at HY
 rw [hW5, hg7]
 clear HX hW5 hg7 c0_0 c0_1 c0_2 c0_3
 have HX := HY
 clear HY
 go_cut [8, 9] (fun u8 u9 wc => ∃ h : Nat, u8 = .pointer (some ⟨h, 0, none⟩) ∧ u9 = .int .i64 E ∧ Aside0 (Bxs W5 [(h, #[.int .i64 d.f0, .int .i64 d.f1, .int .i64 d.f2, .int .i64 d.f3, .string d.f4], 33)] wc))
 case first =>
  clear hcase
  have hA0 := XAmb_step hT HX.out.below
  have l1 : g7 < W5.heap.size := HX.out.lt (x := (g7, #[.int .i64 h0, .int .i64 h1, .int .i64 h2], 29)) (by simp)
  have l2 : (w.heap.size + 1) < W5.heap.size := HX.out.lt (x := ((w.heap.size + 1), #[.int .i64 h0, .int .i64 h1, .int .i64 h2, .int .i64 h3], 47)) (by simp)
  have l3 : w.heap.size < W5.heap.size := HX.out.lt (x := (w.heap.size, #[.int .i64 s2, .int .i64 k2, .int .i64 p2, .int .i64 n2, .string t2], 23)) (by simp)
  have cq0_0 : W5.cell? ⟨g7, 0, none⟩ = some (.int .i64 h0) := (HX.out.cell 0 rfl 0).trans rfl
  have cq0_1 : W5.cell? ⟨g7, 1, none⟩ = some (.int .i64 h1) := (HX.out.cell 0 rfl 1).trans rfl
  have cq0_2 : W5.cell? ⟨g7, 2, none⟩ = some (.int .i64 h2) := (HX.out.cell 0 rfl 2).trans rfl
  have c1_3 : W5.cell? ⟨(w.heap.size + 1), 3, none⟩ = some (.int .i64 h3) := (HX.out.cell 1 rfl 3).trans rfl
  have c2_0 : W5.cell? ⟨w.heap.size, 0, none⟩ = some (.int .i64 s2) := (HX.out.cell 2 rfl 0).trans rfl
  have c2_1 : W5.cell? ⟨w.heap.size, 1, none⟩ = some (.int .i64 k2) := (HX.out.cell 2 rfl 1).trans rfl
  have c2_2 : W5.cell? ⟨w.heap.size, 2, none⟩ = some (.int .i64 p2) := (HX.out.cell 2 rfl 2).trans rfl
  have c2_3 : W5.cell? ⟨w.heap.size, 3, none⟩ = some (.int .i64 n2) := (HX.out.cell 2 rfl 3).trans rfl
  have c2_4 : W5.cell? ⟨w.heap.size, 4, none⟩ = some (.string t2) := (HX.out.cell 2 rfl 4).trans rfl
  have vcq0_0 := World.new_ne W5 _ cq0_0
  have vcq0_1 := World.new_ne W5 _ cq0_1
  have vcq0_2 := World.new_ne W5 _ cq0_2
  have vc1_3 := World.new_ne W5 _ c1_3
  have vc2_0 := World.new_ne W5 _ c2_0
  have vc2_1 := World.new_ne W5 _ c2_1
  have vc2_2 := World.new_ne W5 _ c2_2
  have vc2_3 := World.new_ne W5 _ c2_3
  have vc2_4 := World.new_ne W5 _ c2_4
  go_region_held3 (fun w' => w'.cell? ⟨g7, 0, none⟩ = some (.int .i64 h0) ∧ w'.cell? ⟨g7, 1, none⟩ = some (.int .i64 h1) ∧ w'.cell? ⟨g7, 2, none⟩ = some (.int .i64 h2) ∧ w'.cell? ⟨(w.heap.size + 1), 3, none⟩ = some (.int .i64 h3) ∧ w'.cell? ⟨w.heap.size, 0, none⟩ = some (.int .i64 s2) ∧ w'.cell? ⟨w.heap.size, 1, none⟩ = some (.int .i64 k2) ∧ w'.cell? ⟨w.heap.size, 2, none⟩ = some (.int .i64 p2) ∧ w'.cell? ⟨w.heap.size, 3, none⟩ = some (.int .i64 n2) ∧ w'.cell? ⟨w.heap.size, 4, none⟩ = some (.string t2)) (go_keep) ((first | (go_at_call 18; refine (foolscaplaw29_Of.calls k _ _ l L _ (Kd.C_below HC.out.2 (below_step HX.out.below (by repeat (first | assumption | exact Below.refl _ _ | apply below_drew1 | apply pw_below_drewN | apply below_alloc)))) HC.out.1 HOF.out).mono ?_; rintro e w9 ⟨v9, rfl, hR, hb⟩; obtain ⟨A6, c6, rfl, hl6, hC6⟩ := Kd.R_reads hR; have HC6 := Lib.hid (And.intro hl6 hC6); clear hR hl6 hC6; (try clear hd_ hf_); have hE : Below W5.heap.size W5 w9 := below_step (by repeat (first | assumption | exact Below.refl _ _ | apply below_drew1 | apply pw_below_drewN | apply below_alloc)) hb; have hS := hE.size; obtain ⟨hn1, hn2⟩ := World.new_at hS l1; obtain ⟨hn3, hn4⟩ := World.new_at hS l2; obtain ⟨hn5, hn6⟩ := World.new_at hS l3; have hTn : Aside0 (XAmb w9) := XAmb_step (by repeat (first | assumption | apply amb_drew | apply amb_alloc)) hb; (first | (have hG : w9.heap[(_ : Nat)]? = some (.cells _ 33 (0, 0)) := blk_below (blk_new _ _) hb) | (have hG : w9.heap[(_ : Nat)]? = some (.cells _ 33 (0, 0)) := blk_below (blk_drew (blk_new _ _)) hb) | (have hG : w9.heap[(_ : Nat)]? = some (.cells _ 33 (0, 0)) := blk_below (blk_alloc (blk_new _ _) _) hb) | (have hG : w9.heap[(_ : Nat)]? = some (.cells _ 33 (0, 0)) := blk_below (blk_drew (blk_alloc (blk_new _ _) _)) hb) | (have hG : w9.heap[(_ : Nat)]? = some (.cells _ 33 (0, 0)) := blk_below (blk_alloc (blk_drew (blk_new _ _)) _) hb) | (have hG2 := blk_below hG hb; clear hG hg0 hg1 hg2 hg3 hg4 hh0 hh1 hh2 hh3 hh4; have hG := hG2; clear hG2) | (have hG2 := blk_below (blk_alloc hG _) hb; clear hG hg0 hg1 hg2 hg3 hg4 hh0 hh1 hh2 hh3 hh4; have hG := hG2; clear hG2) | skip); (try simp only [World.size_alloc, World.size_drew] at hG); (try (have hg0 := (blk_cell hG 0).trans rfl; have hg1 := (blk_cell hG 1).trans rfl; have hg2 := (blk_cell hG 2).trans rfl; have hg3 := (blk_cell hG 3).trans rfl; have hg4 := (blk_cell hG 4).trans rfl; have hh0 := blk_frozen hG 0; have hh1 := blk_frozen hG 1; have hh2 := blk_frozen hG 2; have hh3 := blk_frozen hG 3; have hh4 := blk_frozen hG 4)); obtain ⟨hd_, hf_⟩ := bcell hE) | (go_at_call 11; refine (one_calls _ _ _ _ _ _).mono ?_; rintro e w9 ⟨rfl, hb⟩; (first | (have HC7 := Lib.hid (And.intro HC6.out.1 (Kd.C_below HC6.out.2 (below_step (by repeat (first | assumption | exact Below.refl _ _ | apply below_drew1 | apply pw_below_drewN | apply below_alloc)) hb))); clear HC6; have HC6 := HC7; clear HC7) | skip); (try clear hd_ hf_); have hE : Below W5.heap.size W5 w9 := below_step (by repeat (first | assumption | exact Below.refl _ _ | apply below_drew1 | apply pw_below_drewN | apply below_alloc)) hb; have hS := hE.size; obtain ⟨hn1, hn2⟩ := World.new_at hS l1; obtain ⟨hn3, hn4⟩ := World.new_at hS l2; obtain ⟨hn5, hn6⟩ := World.new_at hS l3; have hTn : Aside0 (XAmb w9) := XAmb_step (by repeat (first | assumption | apply amb_drew | apply amb_alloc)) hb; (first | (have hG : w9.heap[(_ : Nat)]? = some (.cells _ 33 (0, 0)) := blk_below (blk_new _ _) hb) | (have hG : w9.heap[(_ : Nat)]? = some (.cells _ 33 (0, 0)) := blk_below (blk_drew (blk_new _ _)) hb) | (have hG : w9.heap[(_ : Nat)]? = some (.cells _ 33 (0, 0)) := blk_below (blk_alloc (blk_new _ _) _) hb) | (have hG : w9.heap[(_ : Nat)]? = some (.cells _ 33 (0, 0)) := blk_below (blk_drew (blk_alloc (blk_new _ _) _)) hb) | (have hG : w9.heap[(_ : Nat)]? = some (.cells _ 33 (0, 0)) := blk_below (blk_alloc (blk_drew (blk_new _ _)) _) hb) | (have hG2 := blk_below hG hb; clear hG hg0 hg1 hg2 hg3 hg4 hh0 hh1 hh2 hh3 hh4; have hG := hG2; clear hG2) | (have hG2 := blk_below (blk_alloc hG _) hb; clear hG hg0 hg1 hg2 hg3 hg4 hh0 hh1 hh2 hh3 hh4; have hG := hG2; clear hG2) | skip); (try simp only [World.size_alloc, World.size_drew] at hG); (try (have hg0 := (blk_cell hG 0).trans rfl; have hg1 := (blk_cell hG 1).trans rfl; have hg2 := (blk_cell hG 2).trans rfl; have hg3 := (blk_cell hG 3).trans rfl; have hg4 := (blk_cell hG 4).trans rfl; have hh0 := blk_frozen hG 0; have hh1 := blk_frozen hG 1; have hh2 := blk_frozen hG 2; have hh3 := blk_frozen hG 3; have hh4 := blk_frozen hG 4)); obtain ⟨hd_, hf_⟩ := bcell hE) | (go_at_call 17; refine (plain_Excl.calls k _ _ L h0 h1 h2 s2 k2 p2 n2 t2 h3 d.f0 d.f1 d.f2 d.f3 d.f4 E _ (by repeat (first | assumption | apply amb_drew | apply amb_alloc)) (Kd.C_below HC6.out.2 (by repeat (first | assumption | exact Below.refl _ _ | apply below_drew1 | apply pw_below_drewN | apply below_alloc))) HC6.out.1 HEX.out).mono ?_; rintro e w9 ⟨rfl, hb⟩; (try clear hd_ hf_); have hE : Below W5.heap.size W5 w9 := below_step (by repeat (first | assumption | exact Below.refl _ _ | apply below_drew1 | apply pw_below_drewN | apply below_alloc)) hb; have hS := hE.size; obtain ⟨hn1, hn2⟩ := World.new_at hS l1; obtain ⟨hn3, hn4⟩ := World.new_at hS l2; obtain ⟨hn5, hn6⟩ := World.new_at hS l3; have hTn : Aside0 (XAmb w9) := XAmb_step (by repeat (first | assumption | apply amb_drew | apply amb_alloc)) hb; (first | (have hG : w9.heap[(_ : Nat)]? = some (.cells _ 33 (0, 0)) := blk_below (blk_new _ _) hb) | (have hG : w9.heap[(_ : Nat)]? = some (.cells _ 33 (0, 0)) := blk_below (blk_drew (blk_new _ _)) hb) | (have hG : w9.heap[(_ : Nat)]? = some (.cells _ 33 (0, 0)) := blk_below (blk_alloc (blk_new _ _) _) hb) | (have hG : w9.heap[(_ : Nat)]? = some (.cells _ 33 (0, 0)) := blk_below (blk_drew (blk_alloc (blk_new _ _) _)) hb) | (have hG : w9.heap[(_ : Nat)]? = some (.cells _ 33 (0, 0)) := blk_below (blk_alloc (blk_drew (blk_new _ _)) _) hb) | (have hG2 := blk_below hG hb; clear hG hg0 hg1 hg2 hg3 hg4 hh0 hh1 hh2 hh3 hh4; have hG := hG2; clear hG2) | (have hG2 := blk_below (blk_alloc hG _) hb; clear hG hg0 hg1 hg2 hg3 hg4 hh0 hh1 hh2 hh3 hh4; have hG := hG2; clear hG2) | skip); (try simp only [World.size_alloc, World.size_drew] at hG); (try (have hg0 := (blk_cell hG 0).trans rfl; have hg1 := (blk_cell hG 1).trans rfl; have hg2 := (blk_cell hG 2).trans rfl; have hg3 := (blk_cell hG 3).trans rfl; have hg4 := (blk_cell hG 4).trans rfl; have hh0 := blk_frozen hG 0; have hh1 := blk_frozen hG 1; have hh2 := blk_frozen hG 2; have hh3 := blk_frozen hG 3; have hh4 := blk_frozen hG 4)); obtain ⟨hd_, hf_⟩ := bcell hE)))
  all_goals
   go_wp2
   go_meet
   case rel => first
    | exact ⟨_, rfl, rfl, ⟨Bxs.made hE _ _⟩⟩
    | exact ⟨_, rfl, rfl, ⟨((((((Bxs.one hE (by first | assumption | exact Nat.le_refl _ | omega) hG).put 0 rfl 0 (.int .i64 d.f0)).put 0 rfl 1 (.int .i64 d.f1)).put 0 rfl 2 (.int .i64 d.f2)).put 0 rfl 3 (.int .i64 d.f3)).put 0 rfl 4 (.string d.f4))⟩⟩
 case rest =>
  obtain ⟨hh0_, hh1_⟩ | ⟨hh0_, hpl, hr⟩ := hcase
  ·subst hh0_ hh1_
   obtain ⟨h, rfl, rfl, hB⟩ := hcut
   have HY := Lib.hid (HX.out.join hB.out)
   clear HX hB
   have HX := HY
   clear HY
   obtain ⟨W6, rfl⟩ : ∃ x, x = wc := ⟨_, rfl⟩
   have cd0_0 : W6.cell? ⟨h, 0, none⟩ = some (.int .i64 0) := (HX.out.cell 0 rfl 0).trans rfl
   have cd0_1 : W6.cell? ⟨h, 1, none⟩ = some (.int .i64 0) := (HX.out.cell 0 rfl 1).trans rfl
   have cd0_2 : W6.cell? ⟨h, 2, none⟩ = some (.int .i64 0) := (HX.out.cell 0 rfl 2).trans rfl
   have cd0_3 : W6.cell? ⟨h, 3, none⟩ = some (.int .i64 0) := (HX.out.cell 0 rfl 3).trans rfl
   have cd0_4 : W6.cell? ⟨h, 4, none⟩ = some (.string ⟨#[]⟩) := (HX.out.cell 0 rfl 4).trans rfl
   go_wp2
   go_ret
   exact ⟨by simp, HX.out.below⟩
  ·subst hh0_
   have HPL := Lib.hid hpl
   have HR := Lib.hid hr
   clear hpl hr
   obtain ⟨h, rfl, rfl, hB⟩ := hcut
   have HY := Lib.hid (HX.out.join hB.out)
   clear HX hB
   have HX := HY
   clear HY
   obtain ⟨W6, rfl⟩ : ∃ x, x = wc := ⟨_, rfl⟩
   go_upto_region 9 with fail
   go_cut [10, 11, 12] (fun u10 u11 u12 wc => ∃ (v : Value) (g : Nat), u10 = v ∧ u11 = .pointer (some ⟨g, 0, none⟩) ∧ u12 = .int .i64 0 ∧ Aside0 (Kd.R k23 23 wc W6.heap.size (fun _ => True) v l) ∧ Aside0 (Bxs W6 [(g, #[.int .i64 h0, .int .i64 h1, .int .i64 h2], 35)] wc))
   case first =>
    have l1 : h < W6.heap.size := HX.out.lt (x := (h, #[.int .i64 d.f0, .int .i64 d.f1, .int .i64 d.f2, .int .i64 d.f3, .string d.f4], 33)) (by simp)
    have l2 : (w.heap.size + 1) < W6.heap.size := HX.out.lt (x := ((w.heap.size + 1), #[.int .i64 h0, .int .i64 h1, .int .i64 h2, .int .i64 h3], 47)) (by simp)
    have l3 : w.heap.size < W6.heap.size := HX.out.lt (x := (w.heap.size, #[.int .i64 s2, .int .i64 k2, .int .i64 p2, .int .i64 n2, .string t2], 23)) (by simp)
    have hA0 := XAmb_step hT HX.out.below
    have cd0_0 : W6.cell? ⟨h, 0, none⟩ = some (.int .i64 d.f0) := (HX.out.cell 0 rfl 0).trans rfl
    have cd0_1 : W6.cell? ⟨h, 1, none⟩ = some (.int .i64 d.f1) := (HX.out.cell 0 rfl 1).trans rfl
    have cd0_2 : W6.cell? ⟨h, 2, none⟩ = some (.int .i64 d.f2) := (HX.out.cell 0 rfl 2).trans rfl
    have cd0_3 : W6.cell? ⟨h, 3, none⟩ = some (.int .i64 d.f3) := (HX.out.cell 0 rfl 3).trans rfl
    have cd0_4 : W6.cell? ⟨h, 4, none⟩ = some (.string d.f4) := (HX.out.cell 0 rfl 4).trans rfl
    have c2_3 : W6.cell? ⟨(w.heap.size + 1), 3, none⟩ = some (.int .i64 h3) := (HX.out.cell 2 rfl 3).trans rfl
    have c3_0 : W6.cell? ⟨w.heap.size, 0, none⟩ = some (.int .i64 s2) := (HX.out.cell 3 rfl 0).trans rfl
    have c3_1 : W6.cell? ⟨w.heap.size, 1, none⟩ = some (.int .i64 k2) := (HX.out.cell 3 rfl 1).trans rfl
    have c3_2 : W6.cell? ⟨w.heap.size, 2, none⟩ = some (.int .i64 p2) := (HX.out.cell 3 rfl 2).trans rfl
    have c3_3 : W6.cell? ⟨w.heap.size, 3, none⟩ = some (.int .i64 n2) := (HX.out.cell 3 rfl 3).trans rfl
    have c3_4 : W6.cell? ⟨w.heap.size, 4, none⟩ = some (.string t2) := (HX.out.cell 3 rfl 4).trans rfl
    have vcd0_0 := World.new_ne W6 _ cd0_0
    have vcd0_1 := World.new_ne W6 _ cd0_1
    have vcd0_2 := World.new_ne W6 _ cd0_2
    have vcd0_3 := World.new_ne W6 _ cd0_3
    have vcd0_4 := World.new_ne W6 _ cd0_4
    have vc2_3 := World.new_ne W6 _ c2_3
    have vc3_0 := World.new_ne W6 _ c3_0
    have vc3_1 := World.new_ne W6 _ c3_1
    have vc3_2 := World.new_ne W6 _ c3_2
    have vc3_3 := World.new_ne W6 _ c3_3
    have vc3_4 := World.new_ne W6 _ c3_4
    have y1 : h ≠ W6.heap.size + 1 := by omega
    have y2 : W6.heap.size + 1 ≠ h := by omega
    have y3 : w.heap.size + 1 ≠ W6.heap.size + 1 := by omega
    have y4 : W6.heap.size + 1 ≠ w.heap.size + 1 := by omega
    have y5 : w.heap.size ≠ W6.heap.size + 1 := by omega
    have y6 : W6.heap.size + 1 ≠ w.heap.size := by omega
    have y7 : w.heap.size ≠ W6.heap.size := by omega
    have y8 : W6.heap.size ≠ w.heap.size := by omega
    refine wp_region_held_drew (S := fun w' => w'.cell? ⟨h, 0, none⟩ = some (.int .i64 d.f0) ∧ w'.cell? ⟨h, 1, none⟩ = some (.int .i64 d.f1) ∧ w'.cell? ⟨h, 2, none⟩ = some (.int .i64 d.f2) ∧ w'.cell? ⟨h, 3, none⟩ = some (.int .i64 d.f3) ∧ w'.cell? ⟨h, 4, none⟩ = some (.string d.f4) ∧ w'.cell? ⟨(w.heap.size + 1), 3, none⟩ = some (.int .i64 h3) ∧ w'.cell? ⟨w.heap.size, 0, none⟩ = some (.int .i64 s2) ∧ w'.cell? ⟨w.heap.size, 1, none⟩ = some (.int .i64 k2) ∧ w'.cell? ⟨w.heap.size, 2, none⟩ = some (.int .i64 p2) ∧ w'.cell? ⟨w.heap.size, 3, none⟩ = some (.int .i64 n2) ∧ w'.cell? ⟨w.heap.size, 4, none⟩ = some (.string t2)) (by kernel_rfl) ?_ (fun hHeld => ?_)
    ·(try dsimp only)
     go_keep
    refine wpAnyH_take (i := 0) (v := ?v1) op9_0 (by kernel_rfl) (by kernel_rfl) (by kernel_rfl) (fun _ _ _ h => h) (Or.inl ⟨by rfl, ?hy1⟩) (by assumption) ?rest1
    case hy1 => intro w hSw; (try dsimp only at hSw); go_simp; (try with_reducible rfl)
    refine wpAnyH_take (i := 5) (v := ?v2) op9_5 (by kernel_rfl) (by kernel_rfl) (by kernel_rfl) (fun _ _ _ h => h) (Or.inl ⟨by rfl, ?hy2⟩) (by assumption) ?rest2
    case hy2 => intro w hSw; (try dsimp only at hSw); go_simp; (try with_reducible rfl)
    refine wpAnyH_take (i := 6) (v := ?v3) op9_6 (by kernel_rfl) (by kernel_rfl) (by kernel_rfl) (fun _ _ _ h => h) (Or.inl ⟨by rfl, ?hy3⟩) (by assumption) ?rest3
    case hy3 => intro w hSw; (try dsimp only at hSw); go_simp; (try with_reducible rfl)
    refine wpAnyH_take (i := 7) (v := ?v4) op9_7 (by kernel_rfl) (by kernel_rfl) (by kernel_rfl) (fun _ _ _ h => h) (Or.inl ⟨by rfl, ?hy4⟩) (by assumption) ?rest4
    case hy4 => intro w hSw; (try dsimp only at hSw); go_simp; (try with_reducible rfl)
    try simp only [Act.put, List.setIfInBounds_toArray, List.set_cons_zero, List.set_cons_succ]
    refine wpAnyH_ready (rs := [1, 13]) (by kernel_rfl) (by simp) ?_
    refine AllReadyH.cons op9_1 (fun K hK => ?_) ?_
    ·go_simp
     (try go_wp2_with fail)
     refine hK.out _ _ ?_ (fun hHeld => ?_)
     ·(try dsimp only)
      go_keep
     clear hK K
     try simp only [Act.put, List.setIfInBounds_toArray, List.set_cons_zero, List.set_cons_succ]
     refine wpAnyH_ready (rs := [2, 13]) (by kernel_rfl) (by simp) ?_
     refine AllReadyH.cons op9_2 (fun K hK => ?_) ?_
     ·go_simp
      go_at_call 14; refine (foolscaplaw29_Plain.calls k _ _ [d] [toR d] _ (lit_C d (by first | exact blk_at (by simp; done) | exact blk_alloc (blk_at (by simp; done)) _ | exact blk_drew (blk_at (by simp; done)) | exact blk_drew (blk_alloc (blk_at (by simp; done)) _) | exact blk_alloc (blk_drew (blk_at (by simp; done))) _)) (Nat.le_refl _) HPL.out).mono ?_; rintro e w9 ⟨v9, rfl, hR0, hb⟩; obtain ⟨g9, c9, rfl, hc9, hk9⟩ := row23 hR0 (by simp); obtain ⟨m0, m1, m2, m3, m4, mz0, mz1, mz2, mz3, mz4⟩ := five (hk9 0 (by simp)); clear hR0 hk9 hc9; (try clear hd_ hf_); have hE : Below W6.heap.size W6 w9 := below_step (by repeat (first | assumption | exact Below.refl _ _ | apply below_drew1 | apply pw_below_drewN | apply below_alloc)) hb; have hS := hE.size; obtain ⟨hn1, hn2⟩ := World.new_at hS l1; obtain ⟨hn3, hn4⟩ := World.new_at hS l2; obtain ⟨hn5, hn6⟩ := World.new_at hS l3; have hTn : Aside0 (XAmb w9) := XAmb_step (by repeat (first | assumption | apply amb_drew | apply amb_alloc)) hb; (first | (have hG : w9.heap[(_ : Nat)]? = some (.cells _ 35 (0, 0)) := blk_below (blk_new _ _) hb) | (have hG : w9.heap[(_ : Nat)]? = some (.cells _ 35 (0, 0)) := blk_below (blk_drew (blk_new _ _)) hb) | (have hG : w9.heap[(_ : Nat)]? = some (.cells _ 35 (0, 0)) := blk_below (blk_alloc (blk_new _ _) _) hb) | (have hG : w9.heap[(_ : Nat)]? = some (.cells _ 35 (0, 0)) := blk_below (blk_drew (blk_alloc (blk_new _ _) _)) hb) | (have hG : w9.heap[(_ : Nat)]? = some (.cells _ 35 (0, 0)) := blk_below (blk_alloc (blk_drew (blk_new _ _)) _) hb) | (have hG2 := blk_below hG hb; clear hG hg0 hg1 hg2 hh0 hh1 hh2; have hG := hG2; clear hG2) | (have hG2 := blk_below (blk_alloc hG _) hb; clear hG hg0 hg1 hg2 hh0 hh1 hh2; have hG := hG2; clear hG2) | skip); (try simp only [World.size_alloc, World.size_drew] at hG); (try (have hg0 := (blk_cell hG 0).trans rfl; have hg1 := (blk_cell hG 1).trans rfl; have hg2 := (blk_cell hG 2).trans rfl; have hh0 := blk_frozen hG 0; have hh1 := blk_frozen hG 1; have hh2 := blk_frozen hG 2)); obtain ⟨hd_, hf_⟩ := bcell hE
      (try go_wp2_with fail)
      refine hK.out _ _ ?_ (fun hHeld => ?_)
      ·(try dsimp only)
       go_keep
      clear hK K
      try simp only [Act.put, List.setIfInBounds_toArray, List.set_cons_zero, List.set_cons_succ]
      refine wpAnyH_take (i := 3) (v := ?v5) op9_3 (by kernel_rfl) (by kernel_rfl) (by kernel_rfl) (fun _ _ _ h => h) (Or.inl ⟨by rfl, ?hy5⟩) (by assumption) ?rest5
      case hy5 => intro w hSw; (try dsimp only at hSw); go_simp; (try with_reducible rfl)
      try simp only [Act.put, List.setIfInBounds_toArray, List.set_cons_zero, List.set_cons_succ]
      refine wpAnyH_ready (rs := [4, 13]) (by kernel_rfl) (by simp) ?_
      refine AllReadyH.cons op9_4 (fun K hK => ?_) ?_
      ·go_simp
       (try go_wp2_with fail)
       refine hK.out _ _ ?_ (fun hHeld => ?_)
       ·(try dsimp only)
        go_keep
       clear hK K
       try simp only [Act.put, List.setIfInBounds_toArray, List.set_cons_zero, List.set_cons_succ]
       refine wpAnyH_ready (rs := [8, 13]) (by kernel_rfl) (by simp) ?_
       refine AllReadyH.cons op9_8 (fun K hK => ?_) ?_
       ·go_simp
        go_at_call 12; refine (HR.out _).mono ?_; rintro e w9 ⟨v9, rfl, hR, hb⟩; (try clear hd_ hf_); have hE : Below W6.heap.size W6 w9 := below_step (by repeat (first | assumption | exact Below.refl _ _ | apply below_drew1 | apply pw_below_drewN | apply below_alloc)) hb; have hS := hE.size; obtain ⟨hn1, hn2⟩ := World.new_at hS l1; obtain ⟨hn3, hn4⟩ := World.new_at hS l2; obtain ⟨hn5, hn6⟩ := World.new_at hS l3; have hTn : Aside0 (XAmb w9) := XAmb_step (by repeat (first | assumption | apply amb_drew | apply amb_alloc)) hb; (first | (have hG : w9.heap[(_ : Nat)]? = some (.cells _ 35 (0, 0)) := blk_below (blk_new _ _) hb) | (have hG : w9.heap[(_ : Nat)]? = some (.cells _ 35 (0, 0)) := blk_below (blk_drew (blk_new _ _)) hb) | (have hG : w9.heap[(_ : Nat)]? = some (.cells _ 35 (0, 0)) := blk_below (blk_alloc (blk_new _ _) _) hb) | (have hG : w9.heap[(_ : Nat)]? = some (.cells _ 35 (0, 0)) := blk_below (blk_drew (blk_alloc (blk_new _ _) _)) hb) | (have hG : w9.heap[(_ : Nat)]? = some (.cells _ 35 (0, 0)) := blk_below (blk_alloc (blk_drew (blk_new _ _)) _) hb) | (have hG2 := blk_below hG hb; clear hG hg0 hg1 hg2 hh0 hh1 hh2; have hG := hG2; clear hG2) | (have hG2 := blk_below (blk_alloc hG _) hb; clear hG hg0 hg1 hg2 hh0 hh1 hh2; have hG := hG2; clear hG2) | skip); (try simp only [World.size_alloc, World.size_drew] at hG); (try (have hg0 := (blk_cell hG 0).trans rfl; have hg1 := (blk_cell hG 1).trans rfl; have hg2 := (blk_cell hG 2).trans rfl; have hh0 := blk_frozen hG 0; have hh1 := blk_frozen hG 1; have hh2 := blk_frozen hG 2)); obtain ⟨hd_, hf_⟩ := bcell hE
        (try go_wp2_with fail)
        refine hK.out _ _ ?_ (fun hHeld => ?_)
        ·(try dsimp only)
         go_keep
        clear hK K
        try simp only [Act.put, List.setIfInBounds_toArray, List.set_cons_zero, List.set_cons_succ]
        refine wpAnyH_take (i := 9) (v := ?v6) op9_9 (by kernel_rfl) (by kernel_rfl) (by kernel_rfl) (fun _ _ _ h => h) (Or.inl ⟨by rfl, ?hy6⟩) (by assumption) ?rest6
        case hy6 => intro w hSw; (try dsimp only at hSw); go_simp; (try with_reducible rfl)
        refine wpAnyH_take (i := 10) (v := ?v7) op9_10 (by kernel_rfl) (by kernel_rfl) (by kernel_rfl) (fun _ _ _ h => h) (Or.inl ⟨by rfl, ?hy7⟩) (by assumption) ?rest7
        case hy7 => intro w hSw; (try dsimp only at hSw); go_simp; (try with_reducible rfl)
        refine wpAnyH_take (i := 11) (v := ?v8) op9_11 (by kernel_rfl) (by kernel_rfl) (by kernel_rfl) (fun _ _ _ h => h) (Or.inl ⟨by rfl, ?hy8⟩) (by assumption) ?rest8
        case hy8 => intro w hSw; (try dsimp only at hSw); go_simp; (try with_reducible rfl)
        refine wpAnyH_take (i := 12) (v := ?v9) op9_12 (by kernel_rfl) (by kernel_rfl) (by kernel_rfl) (fun _ _ _ h => h) (Or.inl ⟨by rfl, ?hy9⟩) (by assumption) ?rest9
        case hy9 => intro w hSw; (try dsimp only at hSw); go_simp; (try with_reducible rfl)
        try simp only [Act.put, List.setIfInBounds_toArray, List.set_cons_zero, List.set_cons_succ]
        refine wpAnyH_ready (rs := [13]) (by kernel_rfl) (by simp) ?_
        refine AllReadyH.cons op9_13 (fun K hK => ?_) ?_
        ·go_simp
         (try go_wp2_with fail)
         refine hK.out _ _ ?_ (fun hHeld => ?_)
         ·(try dsimp only)
          go_keep
         clear hK K
         try simp only [Act.put, List.setIfInBounds_toArray, List.set_cons_zero, List.set_cons_succ]
         refine wpAnyH_take (i := 14) (v := ?v10) op9_14 (by kernel_rfl) (by kernel_rfl) (by kernel_rfl) (fun _ _ _ h => h) (Or.inl ⟨by rfl, ?hy10⟩) (by assumption) ?rest10
         case hy10 => intro w hSw; (try dsimp only at hSw); go_simp; (try with_reducible rfl)
         try simp only [Act.put, List.setIfInBounds_toArray, List.set_cons_zero, List.set_cons_succ]
         refine wpAnyH_ready (rs := [15]) (by kernel_rfl) (by simp) ?_
         refine AllReadyH.cons op9_15 (fun K hK => ?_) ?_
         ·go_simp
          (try go_wp2_with fail)
          refine hK.out _ _ ?_ (fun hHeld => ?_)
          ·(try dsimp only)
           go_keep
          clear hK K
          try simp only [Act.put, List.setIfInBounds_toArray, List.set_cons_zero, List.set_cons_succ]
          refine wpAnyH_take (i := 16) (v := ?v11) op9_16 (by kernel_rfl) (by kernel_rfl) (by kernel_rfl) (fun _ _ _ h => h) (Or.inl ⟨by rfl, ?hy11⟩) (by assumption) ?rest11
          case hy11 => intro w hSw; (try dsimp only at hSw); go_simp; (try with_reducible rfl)
          try simp only [Act.put, List.setIfInBounds_toArray, List.set_cons_zero, List.set_cons_succ]
          refine wpAnyH_done (by kernel_rfl) ?_ _
          go_wp2
          go_meet
          case rel => first
           | exact ⟨_, _, rfl, rfl, rfl, ⟨Kd.R_lower (Kd.R_alloc hR _) (by first | assumption | (simp; omega))⟩, ⟨Bxs.made hE _ _⟩⟩
           | exact ⟨_, _, rfl, rfl, rfl, ⟨R_three hR (by first | assumption | (simp; omega)) hG (by decide) _ _ _⟩, ⟨(((Bxs.one hE (by first | assumption | exact Nat.le_refl _ | omega) hG).put 0 rfl 0 (.int .i64 h0)).put 0 rfl 1 (.int .i64 h1)).put 0 rfl 2 (.int .i64 h2)⟩⟩
         exact AllReadyH.nil
        exact AllReadyH.nil
       refine AllReadyH.cons op9_13 (fun K hK => ?_) ?_
       ·go_simp
        (try go_wp2_with fail)
        refine hK.out _ _ ?_ (fun hHeld => ?_)
        ·(try dsimp only)
         go_keep
        clear hK K
        try simp only [Act.put, List.setIfInBounds_toArray, List.set_cons_zero, List.set_cons_succ]
        refine wpAnyH_ready (rs := [8]) (by kernel_rfl) (by simp) ?_
        refine AllReadyH.cons op9_8 (fun K hK => ?_) ?_
        ·go_simp
         go_at_call 12; refine (HR.out _).mono ?_; rintro e w9 ⟨v9, rfl, hR, hb⟩; (try clear hd_ hf_); have hE : Below W6.heap.size W6 w9 := below_step (by repeat (first | assumption | exact Below.refl _ _ | apply below_drew1 | apply pw_below_drewN | apply below_alloc)) hb; have hS := hE.size; obtain ⟨hn1, hn2⟩ := World.new_at hS l1; obtain ⟨hn3, hn4⟩ := World.new_at hS l2; obtain ⟨hn5, hn6⟩ := World.new_at hS l3; have hTn : Aside0 (XAmb w9) := XAmb_step (by repeat (first | assumption | apply amb_drew | apply amb_alloc)) hb; (first | (have hG : w9.heap[(_ : Nat)]? = some (.cells _ 35 (0, 0)) := blk_below (blk_new _ _) hb) | (have hG : w9.heap[(_ : Nat)]? = some (.cells _ 35 (0, 0)) := blk_below (blk_drew (blk_new _ _)) hb) | (have hG : w9.heap[(_ : Nat)]? = some (.cells _ 35 (0, 0)) := blk_below (blk_alloc (blk_new _ _) _) hb) | (have hG : w9.heap[(_ : Nat)]? = some (.cells _ 35 (0, 0)) := blk_below (blk_drew (blk_alloc (blk_new _ _) _)) hb) | (have hG : w9.heap[(_ : Nat)]? = some (.cells _ 35 (0, 0)) := blk_below (blk_alloc (blk_drew (blk_new _ _)) _) hb) | (have hG2 := blk_below hG hb; clear hG hg0 hg1 hg2 hh0 hh1 hh2; have hG := hG2; clear hG2) | (have hG2 := blk_below (blk_alloc hG _) hb; clear hG hg0 hg1 hg2 hh0 hh1 hh2; have hG := hG2; clear hG2) | skip); (try simp only [World.size_alloc, World.size_drew] at hG); (try (have hg0 := (blk_cell hG 0).trans rfl; have hg1 := (blk_cell hG 1).trans rfl; have hg2 := (blk_cell hG 2).trans rfl; have hh0 := blk_frozen hG 0; have hh1 := blk_frozen hG 1; have hh2 := blk_frozen hG 2)); obtain ⟨hd_, hf_⟩ := bcell hE
         (try go_wp2_with fail)
         refine hK.out _ _ ?_ (fun hHeld => ?_)
         ·(try dsimp only)
          go_keep
         clear hK K
         try simp only [Act.put, List.setIfInBounds_toArray, List.set_cons_zero, List.set_cons_succ]
         refine wpAnyH_take (i := 9) (v := ?v12) op9_9 (by kernel_rfl) (by kernel_rfl) (by kernel_rfl) (fun _ _ _ h => h) (Or.inl ⟨by rfl, ?hy12⟩) (by assumption) ?rest12
         case hy12 => intro w hSw; (try dsimp only at hSw); go_simp; (try with_reducible rfl)
         refine wpAnyH_take (i := 10) (v := ?v13) op9_10 (by kernel_rfl) (by kernel_rfl) (by kernel_rfl) (fun _ _ _ h => h) (Or.inl ⟨by rfl, ?hy13⟩) (by assumption) ?rest13
         case hy13 => intro w hSw; (try dsimp only at hSw); go_simp; (try with_reducible rfl)
         refine wpAnyH_take (i := 11) (v := ?v14) op9_11 (by kernel_rfl) (by kernel_rfl) (by kernel_rfl) (fun _ _ _ h => h) (Or.inl ⟨by rfl, ?hy14⟩) (by assumption) ?rest14
         case hy14 => intro w hSw; (try dsimp only at hSw); go_simp; (try with_reducible rfl)
         refine wpAnyH_take (i := 12) (v := ?v15) op9_12 (by kernel_rfl) (by kernel_rfl) (by kernel_rfl) (fun _ _ _ h => h) (Or.inl ⟨by rfl, ?hy15⟩) (by assumption) ?rest15
         case hy15 => intro w hSw; (try dsimp only at hSw); go_simp; (try with_reducible rfl)
         refine wpAnyH_take (i := 14) (v := ?v16) op9_14 (by kernel_rfl) (by kernel_rfl) (by kernel_rfl) (fun _ _ _ h => h) (Or.inl ⟨by rfl, ?hy16⟩) (by assumption) ?rest16
         case hy16 => intro w hSw; (try dsimp only at hSw); go_simp; (try with_reducible rfl)
         try simp only [Act.put, List.setIfInBounds_toArray, List.set_cons_zero, List.set_cons_succ]
         refine wpAnyH_ready (rs := [15]) (by kernel_rfl) (by simp) ?_
         refine AllReadyH.cons op9_15 (fun K hK => ?_) ?_
         ·go_simp
          (try go_wp2_with fail)
          refine hK.out _ _ ?_ (fun hHeld => ?_)
          ·(try dsimp only)
           go_keep
          clear hK K
          try simp only [Act.put, List.setIfInBounds_toArray, List.set_cons_zero, List.set_cons_succ]
          refine wpAnyH_take (i := 16) (v := ?v17) op9_16 (by kernel_rfl) (by kernel_rfl) (by kernel_rfl) (fun _ _ _ h => h) (Or.inl ⟨by rfl, ?hy17⟩) (by assumption) ?rest17
          case hy17 => intro w hSw; (try dsimp only at hSw); go_simp; (try with_reducible rfl)
          try simp only [Act.put, List.setIfInBounds_toArray, List.set_cons_zero, List.set_cons_succ]
          refine wpAnyH_done (by kernel_rfl) ?_ _
          go_wp2
          go_meet
          case rel => first
           | exact ⟨_, _, rfl, rfl, rfl, ⟨Kd.R_lower (Kd.R_alloc hR _) (by first | assumption | (simp; omega))⟩, ⟨Bxs.made hE _ _⟩⟩
           | exact ⟨_, _, rfl, rfl, rfl, ⟨R_three hR (by first | assumption | (simp; omega)) hG (by decide) _ _ _⟩, ⟨(((Bxs.one hE (by first | assumption | exact Nat.le_refl _ | omega) hG).put 0 rfl 0 (.int .i64 h0)).put 0 rfl 1 (.int .i64 h1)).put 0 rfl 2 (.int .i64 h2)⟩⟩
         exact AllReadyH.nil
        exact AllReadyH.nil
       exact AllReadyH.nil
      refine AllReadyH.cons op9_13 (fun K hK => ?_) ?_
      ·go_simp
       (try go_wp2_with fail)
       refine hK.out _ _ ?_ (fun hHeld => ?_)
       ·(try dsimp only)
        go_keep
       clear hK K
       try simp only [Act.put, List.setIfInBounds_toArray, List.set_cons_zero, List.set_cons_succ]
       refine wpAnyH_ready (rs := [4]) (by kernel_rfl) (by simp) ?_
       refine AllReadyH.cons op9_4 (fun K hK => ?_) ?_
       ·go_simp
        (try go_wp2_with fail)
        refine hK.out _ _ ?_ (fun hHeld => ?_)
        ·(try dsimp only)
         go_keep
        clear hK K
        try simp only [Act.put, List.setIfInBounds_toArray, List.set_cons_zero, List.set_cons_succ]
        refine wpAnyH_ready (rs := [8]) (by kernel_rfl) (by simp) ?_
        refine AllReadyH.cons op9_8 (fun K hK => ?_) ?_
        ·go_simp
         go_at_call 12; refine (HR.out _).mono ?_; rintro e w9 ⟨v9, rfl, hR, hb⟩; (try clear hd_ hf_); have hE : Below W6.heap.size W6 w9 := below_step (by repeat (first | assumption | exact Below.refl _ _ | apply below_drew1 | apply pw_below_drewN | apply below_alloc)) hb; have hS := hE.size; obtain ⟨hn1, hn2⟩ := World.new_at hS l1; obtain ⟨hn3, hn4⟩ := World.new_at hS l2; obtain ⟨hn5, hn6⟩ := World.new_at hS l3; have hTn : Aside0 (XAmb w9) := XAmb_step (by repeat (first | assumption | apply amb_drew | apply amb_alloc)) hb; (first | (have hG : w9.heap[(_ : Nat)]? = some (.cells _ 35 (0, 0)) := blk_below (blk_new _ _) hb) | (have hG : w9.heap[(_ : Nat)]? = some (.cells _ 35 (0, 0)) := blk_below (blk_drew (blk_new _ _)) hb) | (have hG : w9.heap[(_ : Nat)]? = some (.cells _ 35 (0, 0)) := blk_below (blk_alloc (blk_new _ _) _) hb) | (have hG : w9.heap[(_ : Nat)]? = some (.cells _ 35 (0, 0)) := blk_below (blk_drew (blk_alloc (blk_new _ _) _)) hb) | (have hG : w9.heap[(_ : Nat)]? = some (.cells _ 35 (0, 0)) := blk_below (blk_alloc (blk_drew (blk_new _ _)) _) hb) | (have hG2 := blk_below hG hb; clear hG hg0 hg1 hg2 hh0 hh1 hh2; have hG := hG2; clear hG2) | (have hG2 := blk_below (blk_alloc hG _) hb; clear hG hg0 hg1 hg2 hh0 hh1 hh2; have hG := hG2; clear hG2) | skip); (try simp only [World.size_alloc, World.size_drew] at hG); (try (have hg0 := (blk_cell hG 0).trans rfl; have hg1 := (blk_cell hG 1).trans rfl; have hg2 := (blk_cell hG 2).trans rfl; have hh0 := blk_frozen hG 0; have hh1 := blk_frozen hG 1; have hh2 := blk_frozen hG 2)); obtain ⟨hd_, hf_⟩ := bcell hE
         (try go_wp2_with fail)
         refine hK.out _ _ ?_ (fun hHeld => ?_)
         ·(try dsimp only)
          go_keep
         clear hK K
         try simp only [Act.put, List.setIfInBounds_toArray, List.set_cons_zero, List.set_cons_succ]
         refine wpAnyH_take (i := 9) (v := ?v18) op9_9 (by kernel_rfl) (by kernel_rfl) (by kernel_rfl) (fun _ _ _ h => h) (Or.inl ⟨by rfl, ?hy18⟩) (by assumption) ?rest18
         case hy18 => intro w hSw; (try dsimp only at hSw); go_simp; (try with_reducible rfl)
         refine wpAnyH_take (i := 10) (v := ?v19) op9_10 (by kernel_rfl) (by kernel_rfl) (by kernel_rfl) (fun _ _ _ h => h) (Or.inl ⟨by rfl, ?hy19⟩) (by assumption) ?rest19
         case hy19 => intro w hSw; (try dsimp only at hSw); go_simp; (try with_reducible rfl)
         refine wpAnyH_take (i := 11) (v := ?v20) op9_11 (by kernel_rfl) (by kernel_rfl) (by kernel_rfl) (fun _ _ _ h => h) (Or.inl ⟨by rfl, ?hy20⟩) (by assumption) ?rest20
         case hy20 => intro w hSw; (try dsimp only at hSw); go_simp; (try with_reducible rfl)
         refine wpAnyH_take (i := 12) (v := ?v21) op9_12 (by kernel_rfl) (by kernel_rfl) (by kernel_rfl) (fun _ _ _ h => h) (Or.inl ⟨by rfl, ?hy21⟩) (by assumption) ?rest21
         case hy21 => intro w hSw; (try dsimp only at hSw); go_simp; (try with_reducible rfl)
         refine wpAnyH_take (i := 14) (v := ?v22) op9_14 (by kernel_rfl) (by kernel_rfl) (by kernel_rfl) (fun _ _ _ h => h) (Or.inl ⟨by rfl, ?hy22⟩) (by assumption) ?rest22
         case hy22 => intro w hSw; (try dsimp only at hSw); go_simp; (try with_reducible rfl)
         try simp only [Act.put, List.setIfInBounds_toArray, List.set_cons_zero, List.set_cons_succ]
         refine wpAnyH_ready (rs := [15]) (by kernel_rfl) (by simp) ?_
         refine AllReadyH.cons op9_15 (fun K hK => ?_) ?_
         ·go_simp
          (try go_wp2_with fail)
          refine hK.out _ _ ?_ (fun hHeld => ?_)
          ·(try dsimp only)
           go_keep
          clear hK K
          try simp only [Act.put, List.setIfInBounds_toArray, List.set_cons_zero, List.set_cons_succ]
          refine wpAnyH_take (i := 16) (v := ?v23) op9_16 (by kernel_rfl) (by kernel_rfl) (by kernel_rfl) (fun _ _ _ h => h) (Or.inl ⟨by rfl, ?hy23⟩) (by assumption) ?rest23
          case hy23 => intro w hSw; (try dsimp only at hSw); go_simp; (try with_reducible rfl)
          try simp only [Act.put, List.setIfInBounds_toArray, List.set_cons_zero, List.set_cons_succ]
          refine wpAnyH_done (by kernel_rfl) ?_ _
          go_wp2
          go_meet
          case rel => first
           | exact ⟨_, _, rfl, rfl, rfl, ⟨Kd.R_lower (Kd.R_alloc hR _) (by first | assumption | (simp; omega))⟩, ⟨Bxs.made hE _ _⟩⟩
           | exact ⟨_, _, rfl, rfl, rfl, ⟨R_three hR (by first | assumption | (simp; omega)) hG (by decide) _ _ _⟩, ⟨(((Bxs.one hE (by first | assumption | exact Nat.le_refl _ | omega) hG).put 0 rfl 0 (.int .i64 h0)).put 0 rfl 1 (.int .i64 h1)).put 0 rfl 2 (.int .i64 h2)⟩⟩
         exact AllReadyH.nil
        exact AllReadyH.nil
       exact AllReadyH.nil
      exact AllReadyH.nil
     refine AllReadyH.cons op9_13 (fun K hK => ?_) ?_
     ·go_simp
      (try go_wp2_with fail)
      refine hK.out _ _ ?_ (fun hHeld => ?_)
      ·(try dsimp only)
       go_keep
      clear hK K
      try simp only [Act.put, List.setIfInBounds_toArray, List.set_cons_zero, List.set_cons_succ]
      refine wpAnyH_ready (rs := [2]) (by kernel_rfl) (by simp) ?_
      refine AllReadyH.cons op9_2 (fun K hK => ?_) ?_
      ·go_simp
       go_at_call 14; refine (foolscaplaw29_Plain.calls k _ _ [d] [toR d] _ (lit_C d (by first | exact blk_at (by simp; done) | exact blk_alloc (blk_at (by simp; done)) _ | exact blk_drew (blk_at (by simp; done)) | exact blk_drew (blk_alloc (blk_at (by simp; done)) _) | exact blk_alloc (blk_drew (blk_at (by simp; done))) _)) (Nat.le_refl _) HPL.out).mono ?_; rintro e w9 ⟨v9, rfl, hR0, hb⟩; obtain ⟨g9, c9, rfl, hc9, hk9⟩ := row23 hR0 (by simp); obtain ⟨m0, m1, m2, m3, m4, mz0, mz1, mz2, mz3, mz4⟩ := five (hk9 0 (by simp)); clear hR0 hk9 hc9; (try clear hd_ hf_); have hE : Below W6.heap.size W6 w9 := below_step (by repeat (first | assumption | exact Below.refl _ _ | apply below_drew1 | apply pw_below_drewN | apply below_alloc)) hb; have hS := hE.size; obtain ⟨hn1, hn2⟩ := World.new_at hS l1; obtain ⟨hn3, hn4⟩ := World.new_at hS l2; obtain ⟨hn5, hn6⟩ := World.new_at hS l3; have hTn : Aside0 (XAmb w9) := XAmb_step (by repeat (first | assumption | apply amb_drew | apply amb_alloc)) hb; (first | (have hG : w9.heap[(_ : Nat)]? = some (.cells _ 35 (0, 0)) := blk_below (blk_new _ _) hb) | (have hG : w9.heap[(_ : Nat)]? = some (.cells _ 35 (0, 0)) := blk_below (blk_drew (blk_new _ _)) hb) | (have hG : w9.heap[(_ : Nat)]? = some (.cells _ 35 (0, 0)) := blk_below (blk_alloc (blk_new _ _) _) hb) | (have hG : w9.heap[(_ : Nat)]? = some (.cells _ 35 (0, 0)) := blk_below (blk_drew (blk_alloc (blk_new _ _) _)) hb) | (have hG : w9.heap[(_ : Nat)]? = some (.cells _ 35 (0, 0)) := blk_below (blk_alloc (blk_drew (blk_new _ _)) _) hb) | (have hG2 := blk_below hG hb; clear hG hg0 hg1 hg2 hh0 hh1 hh2; have hG := hG2; clear hG2) | (have hG2 := blk_below (blk_alloc hG _) hb; clear hG hg0 hg1 hg2 hh0 hh1 hh2; have hG := hG2; clear hG2) | skip); (try simp only [World.size_alloc, World.size_drew] at hG); (try (have hg0 := (blk_cell hG 0).trans rfl; have hg1 := (blk_cell hG 1).trans rfl; have hg2 := (blk_cell hG 2).trans rfl; have hh0 := blk_frozen hG 0; have hh1 := blk_frozen hG 1; have hh2 := blk_frozen hG 2)); obtain ⟨hd_, hf_⟩ := bcell hE
       (try go_wp2_with fail)
       refine hK.out _ _ ?_ (fun hHeld => ?_)
       ·(try dsimp only)
        go_keep
       clear hK K
       try simp only [Act.put, List.setIfInBounds_toArray, List.set_cons_zero, List.set_cons_succ]
       refine wpAnyH_take (i := 3) (v := ?v24) op9_3 (by kernel_rfl) (by kernel_rfl) (by kernel_rfl) (fun _ _ _ h => h) (Or.inl ⟨by rfl, ?hy24⟩) (by assumption) ?rest24
       case hy24 => intro w hSw; (try dsimp only at hSw); go_simp; (try with_reducible rfl)
       try simp only [Act.put, List.setIfInBounds_toArray, List.set_cons_zero, List.set_cons_succ]
       refine wpAnyH_ready (rs := [4]) (by kernel_rfl) (by simp) ?_
       refine AllReadyH.cons op9_4 (fun K hK => ?_) ?_
       ·go_simp
        (try go_wp2_with fail)
        refine hK.out _ _ ?_ (fun hHeld => ?_)
        ·(try dsimp only)
         go_keep
        clear hK K
        try simp only [Act.put, List.setIfInBounds_toArray, List.set_cons_zero, List.set_cons_succ]
        refine wpAnyH_ready (rs := [8]) (by kernel_rfl) (by simp) ?_
        refine AllReadyH.cons op9_8 (fun K hK => ?_) ?_
        ·go_simp
         go_at_call 12; refine (HR.out _).mono ?_; rintro e w9 ⟨v9, rfl, hR, hb⟩; (try clear hd_ hf_); have hE : Below W6.heap.size W6 w9 := below_step (by repeat (first | assumption | exact Below.refl _ _ | apply below_drew1 | apply pw_below_drewN | apply below_alloc)) hb; have hS := hE.size; obtain ⟨hn1, hn2⟩ := World.new_at hS l1; obtain ⟨hn3, hn4⟩ := World.new_at hS l2; obtain ⟨hn5, hn6⟩ := World.new_at hS l3; have hTn : Aside0 (XAmb w9) := XAmb_step (by repeat (first | assumption | apply amb_drew | apply amb_alloc)) hb; (first | (have hG : w9.heap[(_ : Nat)]? = some (.cells _ 35 (0, 0)) := blk_below (blk_new _ _) hb) | (have hG : w9.heap[(_ : Nat)]? = some (.cells _ 35 (0, 0)) := blk_below (blk_drew (blk_new _ _)) hb) | (have hG : w9.heap[(_ : Nat)]? = some (.cells _ 35 (0, 0)) := blk_below (blk_alloc (blk_new _ _) _) hb) | (have hG : w9.heap[(_ : Nat)]? = some (.cells _ 35 (0, 0)) := blk_below (blk_drew (blk_alloc (blk_new _ _) _)) hb) | (have hG : w9.heap[(_ : Nat)]? = some (.cells _ 35 (0, 0)) := blk_below (blk_alloc (blk_drew (blk_new _ _)) _) hb) | (have hG2 := blk_below hG hb; clear hG hg0 hg1 hg2 hh0 hh1 hh2; have hG := hG2; clear hG2) | (have hG2 := blk_below (blk_alloc hG _) hb; clear hG hg0 hg1 hg2 hh0 hh1 hh2; have hG := hG2; clear hG2) | skip); (try simp only [World.size_alloc, World.size_drew] at hG); (try (have hg0 := (blk_cell hG 0).trans rfl; have hg1 := (blk_cell hG 1).trans rfl; have hg2 := (blk_cell hG 2).trans rfl; have hh0 := blk_frozen hG 0; have hh1 := blk_frozen hG 1; have hh2 := blk_frozen hG 2)); obtain ⟨hd_, hf_⟩ := bcell hE
         (try go_wp2_with fail)
         refine hK.out _ _ ?_ (fun hHeld => ?_)
         ·(try dsimp only)
          go_keep
         clear hK K
         try simp only [Act.put, List.setIfInBounds_toArray, List.set_cons_zero, List.set_cons_succ]
         refine wpAnyH_take (i := 9) (v := ?v25) op9_9 (by kernel_rfl) (by kernel_rfl) (by kernel_rfl) (fun _ _ _ h => h) (Or.inl ⟨by rfl, ?hy25⟩) (by assumption) ?rest25
         case hy25 => intro w hSw; (try dsimp only at hSw); go_simp; (try with_reducible rfl)
         refine wpAnyH_take (i := 10) (v := ?v26) op9_10 (by kernel_rfl) (by kernel_rfl) (by kernel_rfl) (fun _ _ _ h => h) (Or.inl ⟨by rfl, ?hy26⟩) (by assumption) ?rest26
         case hy26 => intro w hSw; (try dsimp only at hSw); go_simp; (try with_reducible rfl)
         refine wpAnyH_take (i := 11) (v := ?v27) op9_11 (by kernel_rfl) (by kernel_rfl) (by kernel_rfl) (fun _ _ _ h => h) (Or.inl ⟨by rfl, ?hy27⟩) (by assumption) ?rest27
         case hy27 => intro w hSw; (try dsimp only at hSw); go_simp; (try with_reducible rfl)
         refine wpAnyH_take (i := 12) (v := ?v28) op9_12 (by kernel_rfl) (by kernel_rfl) (by kernel_rfl) (fun _ _ _ h => h) (Or.inl ⟨by rfl, ?hy28⟩) (by assumption) ?rest28
         case hy28 => intro w hSw; (try dsimp only at hSw); go_simp; (try with_reducible rfl)
         refine wpAnyH_take (i := 14) (v := ?v29) op9_14 (by kernel_rfl) (by kernel_rfl) (by kernel_rfl) (fun _ _ _ h => h) (Or.inl ⟨by rfl, ?hy29⟩) (by assumption) ?rest29
         case hy29 => intro w hSw; (try dsimp only at hSw); go_simp; (try with_reducible rfl)
         try simp only [Act.put, List.setIfInBounds_toArray, List.set_cons_zero, List.set_cons_succ]
         refine wpAnyH_ready (rs := [15]) (by kernel_rfl) (by simp) ?_
         refine AllReadyH.cons op9_15 (fun K hK => ?_) ?_
         ·go_simp
          (try go_wp2_with fail)
          refine hK.out _ _ ?_ (fun hHeld => ?_)
          ·(try dsimp only)
           go_keep
          clear hK K
          try simp only [Act.put, List.setIfInBounds_toArray, List.set_cons_zero, List.set_cons_succ]
          refine wpAnyH_take (i := 16) (v := ?v30) op9_16 (by kernel_rfl) (by kernel_rfl) (by kernel_rfl) (fun _ _ _ h => h) (Or.inl ⟨by rfl, ?hy30⟩) (by assumption) ?rest30
          case hy30 => intro w hSw; (try dsimp only at hSw); go_simp; (try with_reducible rfl)
          try simp only [Act.put, List.setIfInBounds_toArray, List.set_cons_zero, List.set_cons_succ]
          refine wpAnyH_done (by kernel_rfl) ?_ _
          go_wp2
          go_meet
          case rel => first
           | exact ⟨_, _, rfl, rfl, rfl, ⟨Kd.R_lower (Kd.R_alloc hR _) (by first | assumption | (simp; omega))⟩, ⟨Bxs.made hE _ _⟩⟩
           | exact ⟨_, _, rfl, rfl, rfl, ⟨R_three hR (by first | assumption | (simp; omega)) hG (by decide) _ _ _⟩, ⟨(((Bxs.one hE (by first | assumption | exact Nat.le_refl _ | omega) hG).put 0 rfl 0 (.int .i64 h0)).put 0 rfl 1 (.int .i64 h1)).put 0 rfl 2 (.int .i64 h2)⟩⟩
         exact AllReadyH.nil
        exact AllReadyH.nil
       exact AllReadyH.nil
      exact AllReadyH.nil
     exact AllReadyH.nil
    refine AllReadyH.cons op9_13 (fun K hK => ?_) ?_
    ·go_simp
     (try go_wp2_with fail)
     refine hK.out _ _ ?_ (fun hHeld => ?_)
     ·(try dsimp only)
      go_keep
     clear hK K
     try simp only [Act.put, List.setIfInBounds_toArray, List.set_cons_zero, List.set_cons_succ]
     refine wpAnyH_ready (rs := [1]) (by kernel_rfl) (by simp) ?_
     refine AllReadyH.cons op9_1 (fun K hK => ?_) ?_
     ·go_simp
      (try go_wp2_with fail)
      refine hK.out _ _ ?_ (fun hHeld => ?_)
      ·(try dsimp only)
       go_keep
      clear hK K
      try simp only [Act.put, List.setIfInBounds_toArray, List.set_cons_zero, List.set_cons_succ]
      refine wpAnyH_ready (rs := [2]) (by kernel_rfl) (by simp) ?_
      refine AllReadyH.cons op9_2 (fun K hK => ?_) ?_
      ·go_simp
       go_at_call 14; refine (foolscaplaw29_Plain.calls k _ _ [d] [toR d] _ (lit_C d (by first | exact blk_at (by simp; done) | exact blk_alloc (blk_at (by simp; done)) _ | exact blk_drew (blk_at (by simp; done)) | exact blk_drew (blk_alloc (blk_at (by simp; done)) _) | exact blk_alloc (blk_drew (blk_at (by simp; done))) _)) (Nat.le_refl _) HPL.out).mono ?_; rintro e w9 ⟨v9, rfl, hR0, hb⟩; obtain ⟨g9, c9, rfl, hc9, hk9⟩ := row23 hR0 (by simp); obtain ⟨m0, m1, m2, m3, m4, mz0, mz1, mz2, mz3, mz4⟩ := five (hk9 0 (by simp)); clear hR0 hk9 hc9; (try clear hd_ hf_); have hE : Below W6.heap.size W6 w9 := below_step (by repeat (first | assumption | exact Below.refl _ _ | apply below_drew1 | apply pw_below_drewN | apply below_alloc)) hb; have hS := hE.size; obtain ⟨hn1, hn2⟩ := World.new_at hS l1; obtain ⟨hn3, hn4⟩ := World.new_at hS l2; obtain ⟨hn5, hn6⟩ := World.new_at hS l3; have hTn : Aside0 (XAmb w9) := XAmb_step (by repeat (first | assumption | apply amb_drew | apply amb_alloc)) hb; (first | (have hG : w9.heap[(_ : Nat)]? = some (.cells _ 35 (0, 0)) := blk_below (blk_new _ _) hb) | (have hG : w9.heap[(_ : Nat)]? = some (.cells _ 35 (0, 0)) := blk_below (blk_drew (blk_new _ _)) hb) | (have hG : w9.heap[(_ : Nat)]? = some (.cells _ 35 (0, 0)) := blk_below (blk_alloc (blk_new _ _) _) hb) | (have hG : w9.heap[(_ : Nat)]? = some (.cells _ 35 (0, 0)) := blk_below (blk_drew (blk_alloc (blk_new _ _) _)) hb) | (have hG : w9.heap[(_ : Nat)]? = some (.cells _ 35 (0, 0)) := blk_below (blk_alloc (blk_drew (blk_new _ _)) _) hb) | (have hG2 := blk_below hG hb; clear hG hg0 hg1 hg2 hh0 hh1 hh2; have hG := hG2; clear hG2) | (have hG2 := blk_below (blk_alloc hG _) hb; clear hG hg0 hg1 hg2 hh0 hh1 hh2; have hG := hG2; clear hG2) | skip); (try simp only [World.size_alloc, World.size_drew] at hG); (try (have hg0 := (blk_cell hG 0).trans rfl; have hg1 := (blk_cell hG 1).trans rfl; have hg2 := (blk_cell hG 2).trans rfl; have hh0 := blk_frozen hG 0; have hh1 := blk_frozen hG 1; have hh2 := blk_frozen hG 2)); obtain ⟨hd_, hf_⟩ := bcell hE
       (try go_wp2_with fail)
       refine hK.out _ _ ?_ (fun hHeld => ?_)
       ·(try dsimp only)
        go_keep
       clear hK K
       try simp only [Act.put, List.setIfInBounds_toArray, List.set_cons_zero, List.set_cons_succ]
       refine wpAnyH_take (i := 3) (v := ?v31) op9_3 (by kernel_rfl) (by kernel_rfl) (by kernel_rfl) (fun _ _ _ h => h) (Or.inl ⟨by rfl, ?hy31⟩) (by assumption) ?rest31
       case hy31 => intro w hSw; (try dsimp only at hSw); go_simp; (try with_reducible rfl)
       try simp only [Act.put, List.setIfInBounds_toArray, List.set_cons_zero, List.set_cons_succ]
       refine wpAnyH_ready (rs := [4]) (by kernel_rfl) (by simp) ?_
       refine AllReadyH.cons op9_4 (fun K hK => ?_) ?_
       ·go_simp
        (try go_wp2_with fail)
        refine hK.out _ _ ?_ (fun hHeld => ?_)
        ·(try dsimp only)
         go_keep
        clear hK K
        try simp only [Act.put, List.setIfInBounds_toArray, List.set_cons_zero, List.set_cons_succ]
        refine wpAnyH_ready (rs := [8]) (by kernel_rfl) (by simp) ?_
        refine AllReadyH.cons op9_8 (fun K hK => ?_) ?_
        ·go_simp
         go_at_call 12; refine (HR.out _).mono ?_; rintro e w9 ⟨v9, rfl, hR, hb⟩; (try clear hd_ hf_); have hE : Below W6.heap.size W6 w9 := below_step (by repeat (first | assumption | exact Below.refl _ _ | apply below_drew1 | apply pw_below_drewN | apply below_alloc)) hb; have hS := hE.size; obtain ⟨hn1, hn2⟩ := World.new_at hS l1; obtain ⟨hn3, hn4⟩ := World.new_at hS l2; obtain ⟨hn5, hn6⟩ := World.new_at hS l3; have hTn : Aside0 (XAmb w9) := XAmb_step (by repeat (first | assumption | apply amb_drew | apply amb_alloc)) hb; (first | (have hG : w9.heap[(_ : Nat)]? = some (.cells _ 35 (0, 0)) := blk_below (blk_new _ _) hb) | (have hG : w9.heap[(_ : Nat)]? = some (.cells _ 35 (0, 0)) := blk_below (blk_drew (blk_new _ _)) hb) | (have hG : w9.heap[(_ : Nat)]? = some (.cells _ 35 (0, 0)) := blk_below (blk_alloc (blk_new _ _) _) hb) | (have hG : w9.heap[(_ : Nat)]? = some (.cells _ 35 (0, 0)) := blk_below (blk_drew (blk_alloc (blk_new _ _) _)) hb) | (have hG : w9.heap[(_ : Nat)]? = some (.cells _ 35 (0, 0)) := blk_below (blk_alloc (blk_drew (blk_new _ _)) _) hb) | (have hG2 := blk_below hG hb; clear hG hg0 hg1 hg2 hh0 hh1 hh2; have hG := hG2; clear hG2) | (have hG2 := blk_below (blk_alloc hG _) hb; clear hG hg0 hg1 hg2 hh0 hh1 hh2; have hG := hG2; clear hG2) | skip); (try simp only [World.size_alloc, World.size_drew] at hG); (try (have hg0 := (blk_cell hG 0).trans rfl; have hg1 := (blk_cell hG 1).trans rfl; have hg2 := (blk_cell hG 2).trans rfl; have hh0 := blk_frozen hG 0; have hh1 := blk_frozen hG 1; have hh2 := blk_frozen hG 2)); obtain ⟨hd_, hf_⟩ := bcell hE
         (try go_wp2_with fail)
         refine hK.out _ _ ?_ (fun hHeld => ?_)
         ·(try dsimp only)
          go_keep
         clear hK K
         try simp only [Act.put, List.setIfInBounds_toArray, List.set_cons_zero, List.set_cons_succ]
         refine wpAnyH_take (i := 9) (v := ?v32) op9_9 (by kernel_rfl) (by kernel_rfl) (by kernel_rfl) (fun _ _ _ h => h) (Or.inl ⟨by rfl, ?hy32⟩) (by assumption) ?rest32
         case hy32 => intro w hSw; (try dsimp only at hSw); go_simp; (try with_reducible rfl)
         refine wpAnyH_take (i := 10) (v := ?v33) op9_10 (by kernel_rfl) (by kernel_rfl) (by kernel_rfl) (fun _ _ _ h => h) (Or.inl ⟨by rfl, ?hy33⟩) (by assumption) ?rest33
         case hy33 => intro w hSw; (try dsimp only at hSw); go_simp; (try with_reducible rfl)
         refine wpAnyH_take (i := 11) (v := ?v34) op9_11 (by kernel_rfl) (by kernel_rfl) (by kernel_rfl) (fun _ _ _ h => h) (Or.inl ⟨by rfl, ?hy34⟩) (by assumption) ?rest34
         case hy34 => intro w hSw; (try dsimp only at hSw); go_simp; (try with_reducible rfl)
         refine wpAnyH_take (i := 12) (v := ?v35) op9_12 (by kernel_rfl) (by kernel_rfl) (by kernel_rfl) (fun _ _ _ h => h) (Or.inl ⟨by rfl, ?hy35⟩) (by assumption) ?rest35
         case hy35 => intro w hSw; (try dsimp only at hSw); go_simp; (try with_reducible rfl)
         refine wpAnyH_take (i := 14) (v := ?v36) op9_14 (by kernel_rfl) (by kernel_rfl) (by kernel_rfl) (fun _ _ _ h => h) (Or.inl ⟨by rfl, ?hy36⟩) (by assumption) ?rest36
         case hy36 => intro w hSw; (try dsimp only at hSw); go_simp; (try with_reducible rfl)
         try simp only [Act.put, List.setIfInBounds_toArray, List.set_cons_zero, List.set_cons_succ]
         refine wpAnyH_ready (rs := [15]) (by kernel_rfl) (by simp) ?_
         refine AllReadyH.cons op9_15 (fun K hK => ?_) ?_
         ·go_simp
          (try go_wp2_with fail)
          refine hK.out _ _ ?_ (fun hHeld => ?_)
          ·(try dsimp only)
           go_keep
          clear hK K
          try simp only [Act.put, List.setIfInBounds_toArray, List.set_cons_zero, List.set_cons_succ]
          refine wpAnyH_take (i := 16) (v := ?v37) op9_16 (by kernel_rfl) (by kernel_rfl) (by kernel_rfl) (fun _ _ _ h => h) (Or.inl ⟨by rfl, ?hy37⟩) (by assumption) ?rest37
          case hy37 => intro w hSw; (try dsimp only at hSw); go_simp; (try with_reducible rfl)
          try simp only [Act.put, List.setIfInBounds_toArray, List.set_cons_zero, List.set_cons_succ]
          refine wpAnyH_done (by kernel_rfl) ?_ _
          go_wp2
          go_meet
          case rel => first
           | exact ⟨_, _, rfl, rfl, rfl, ⟨Kd.R_lower (Kd.R_alloc hR _) (by first | assumption | (simp; omega))⟩, ⟨Bxs.made hE _ _⟩⟩
           | exact ⟨_, _, rfl, rfl, rfl, ⟨R_three hR (by first | assumption | (simp; omega)) hG (by decide) _ _ _⟩, ⟨(((Bxs.one hE (by first | assumption | exact Nat.le_refl _ | omega) hG).put 0 rfl 0 (.int .i64 h0)).put 0 rfl 1 (.int .i64 h1)).put 0 rfl 2 (.int .i64 h2)⟩⟩
         exact AllReadyH.nil
        exact AllReadyH.nil
       exact AllReadyH.nil
      exact AllReadyH.nil
     exact AllReadyH.nil
    exact AllReadyH.nil
   case rest =>
    obtain ⟨v, g, rfl, rfl, rfl, hR, hB⟩ := hcut
    obtain ⟨A5, c5, rfl, hl, hC⟩ := Kd.R_reads hR.out
    have HC5 := Lib.hid (And.intro hl hC)
    have HY := Lib.hid (HX.out.join hB.out)
    clear HX hR hB hl hC
    have HX := HY
    clear HY
    obtain ⟨W7, rfl⟩ : ∃ x, x = wc := ⟨_, rfl⟩
    go_wp2_with fail
    refine (foolscapref29_Same.calls k _ _ l _ _ l true _ HC5.out.2 HC5.out.1 (Kd.C_below HC.out.2 HX.out.below) HC.out.1 HSM.out).mono ?_
    rintro e W8 ⟨rfl, hd⟩
    have hb := hd.below
    have HY := Lib.hid (HX.out.keep hb)
    clear HX
    have HX := HY
    clear HY hb
    clear HC5 hd
    have cz0_0 : W8.cell? ⟨g, 0, none⟩ = some (.int .i64 h0) := (HX.out.cell 0 rfl 0).trans rfl
    have cz0_1 : W8.cell? ⟨g, 1, none⟩ = some (.int .i64 h1) := (HX.out.cell 0 rfl 1).trans rfl
    have cz0_2 : W8.cell? ⟨g, 2, none⟩ = some (.int .i64 h2) := (HX.out.cell 0 rfl 2).trans rfl
    have c3_0 : W8.cell? ⟨(w.heap.size + 1), 0, none⟩ = some (.int .i64 h0) := (HX.out.cell 3 rfl 0).trans rfl
    have c3_1 : W8.cell? ⟨(w.heap.size + 1), 1, none⟩ = some (.int .i64 h1) := (HX.out.cell 3 rfl 1).trans rfl
    have c3_2 : W8.cell? ⟨(w.heap.size + 1), 2, none⟩ = some (.int .i64 h2) := (HX.out.cell 3 rfl 2).trans rfl
    have c3_3 : W8.cell? ⟨(w.heap.size + 1), 3, none⟩ = some (.int .i64 h3) := (HX.out.cell 3 rfl 3).trans rfl
    go_wp2
    go_ret
    exact ⟨by simp, HX.out.below⟩

end Go.Proofs.YtmkmpjkgpnahnaaDoor.X
