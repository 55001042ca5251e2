/- Printed by a program of this session (wip/xprint) over the kit's print: functions of the seat and what they come to, with their proofs. Conditions: as typed. -/
import Derived.Test.YtmkmpjkgpnahnaaDoorPx0
import Derived.Test.YtmkmpjkgpnahnaaDoorPx2
import Derived.Test.YtmkmpjkgpnahnaaDoorPx11
import Derived.Test.YtmkmpjkgpnahnaaDoorBack
import Derived.Test.YtmkmpjkgpnahnaaDoorIncl
namespace Go.Proofs.YtmkmpjkgpnahnaaDoor.P
open Go.RowKit Go.Proofs.YtmkmpjkgpnahnaaDoor.X Go.Proofs.YtmkmpjkgpnahnaaDoorW.PrintWords Go.Proofs.YtmkmpjkgpnahnaaDoorW.PrintLast Go.Proofs.YtmkmpjkgpnahnaaDoorW.PrintMore
attribute [local go_sem] max2_int min2_int max_two min_two max_three min_three max_four min_four   -- for this text's walks alone
set_option linter.unusedVariables false
set_option linter.unusedSimpArgs false

attribute [local go_sem high] eqA29
/-! ### plain_Excl: function 17 -/
mutual
def plain_Excl.j0 : Nat → List (S33) → Int → Bool → Int → Int → Int → Int → Int → Int → Int → ByteArray → Option (Int × Int × Int × Int × ByteArray × Int)
 | 0, _, _, _, _, _, _, _, _, _, _, _ => none
 | k + 1, x0, x3, x38, x294000, x294001, x294002, x295000, x295001, x295002, x295003, x295004 => if x38 = true then (some (0, 0, 0, 0, (⟨#[]⟩ : ByteArray), 1)) else (plain_Excl.l0 k x0 x3 x0 (x0.length : Int) 0 x294000 x294001 x294002 x295000 x295001 x295002 x295003 x295004)
def plain_Excl.l0 : Nat → List (S33) → Int → List (S33) → Int → Int → Int → Int → Int → Int → Int → Int → Int → ByteArray → Option (Int × Int × Int × Int × ByteArray × Int)
 | 0, _, _, _, _, _, _, _, _, _, _, _, _, _ => none
 | k + 1, x0, x3, x40, x41, x42, x294000, x294001, x294002, x295000, x295001, x295002, x295003, x295004 => if x42 < x41 then (if 0 ≤ x42 then (if x42 < (x40.length : Int) then ((plain_within.f ((rd_T33 x40 x42).f2) 0 40000).bind fun t301 => (if t301 = true then ((plain_within.f ((rd_T33 x40 x42).f3) 0 20000).bind fun t302 => (if t302 = true then (plain_Excl.l0 k x0 x3 x40 x41 (wrap64 (x42 + 1)) x294000 x294001 x294002 x295000 x295001 x295002 x295003 x295004) else (some (0, 0, 0, 0, (⟨#[]⟩ : ByteArray), 1)))) else (some (0, 0, 0, 0, (⟨#[]⟩ : ByteArray), 1)))) else (none)) else (none)) else ((plain_back.f x0 x294000 x294001 x294002 x295000 x295001 x295002 x295003 x295004).bind fun bt303 => (if (x0.length : Int) = 0 then (if x295000 = 1 then (plain_Excl.j2 k x0 x3 x294000 x294001 x294002 x295000 x295001 x295002 x295003 x295004 2 bt303.2.1 bt303.2.2.1 bt303.2.2.2.1 bt303.2.2.2.2) else (plain_Excl.j2 k x0 x3 x294000 x294001 x294002 x295000 x295001 x295002 x295003 x295004 1 bt303.2.1 bt303.2.2.1 bt303.2.2.2.1 bt303.2.2.2.2)) else (plain_Excl.j2 k x0 x3 x294000 x294001 x294002 x295000 x295001 x295002 x295003 x295004 bt303.1 bt303.2.1 bt303.2.2.1 bt303.2.2.2.1 bt303.2.2.2.2)))
def plain_Excl.j2 : Nat → List (S33) → Int → Int → Int → Int → Int → Int → Int → Int → ByteArray → Int → Int → Int → Int → ByteArray → Option (Int × Int × Int × Int × ByteArray × Int)
 | 0, _, _, _, _, _, _, _, _, _, _, _, _, _, _, _ => none
 | k + 1, x0, x3, x294000, x294001, x294002, x295000, x295001, x295002, x295003, x295004, x309000, x309001, x309002, x309003, x309004 => (plain_Incl.f x309000 x309001 x309002 x309003 x309004 x295000 x295001 x295002 x295003 x295004 x3).bind fun bt309 => (if bt309.2.2.2.2 = 0 then (if (!(bt309.2.1 == x294000) || (!(bt309.2.2.1 == x294001) || (!(bt309.2.2.2.1 == x294002)))) = true then (some (0, 0, 0, 0, (⟨#[]⟩ : ByteArray), 1)) else ((plain_Do.f k bt309.1 x0).bind fun t317 => (if t317 = true then (some (x309000, x309001, x309002, x309003, x309004, 0)) else (some (0, 0, 0, 0, (⟨#[]⟩ : ByteArray), 1))))) else (some (0, 0, 0, 0, (⟨#[]⟩ : ByteArray), 1)))
end
def plain_Excl.f (k : Nat) (l0 : List (S33)) (a1_0 : Int) (a1_1 : Int) (a1_2 : Int) (a2_0 : Int) (a2_1 : Int) (a2_2 : Int) (a2_3 : Int) (a2_4 : ByteArray) (a3 : Int) : Option (Int × Int × Int × Int × ByteArray × Int) := if (l0.length : Int) > 2 then (plain_Excl.j0 k l0 a3 true a1_0 a1_1 a1_2 a2_0 a2_1 a2_2 a2_3 a2_4) else ((plain_May.f k a2_0 a2_1 a2_2 a2_3 a2_4 a3).bind fun t296 => (if t296 = true then ((plain_within.f a1_1 0 a3).bind fun t297 => (if t297 = true then ((plain_within.f a1_2 0 a3).bind fun t298 => (plain_Excl.j0 k l0 a3 (!t298) a1_0 a1_1 a1_2 a2_0 a2_1 a2_2 a2_3 a2_4)) else (plain_Excl.j0 k l0 a3 true a1_0 a1_1 a1_2 a2_0 a2_1 a2_2 a2_3 a2_4))) else (plain_Excl.j0 k l0 a3 true a1_0 a1_1 a1_2 a2_0 a2_1 a2_2 a2_3 a2_4)))
theorem plain_Excl.mono_l : ∀ k, (∀ y0 y1 y2 y3 y4 y5 y6 y7 y8 y9 y10, LeO (plain_Excl.j0 k y0 y1 y2 y3 y4 y5 y6 y7 y8 y9 y10) (plain_Excl.j0 (k + 1) y0 y1 y2 y3 y4 y5 y6 y7 y8 y9 y10)) ∧ (∀ y0 y1 y2 y3 y4 y5 y6 y7 y8 y9 y10 y11 y12, LeO (plain_Excl.l0 k y0 y1 y2 y3 y4 y5 y6 y7 y8 y9 y10 y11 y12) (plain_Excl.l0 (k + 1) y0 y1 y2 y3 y4 y5 y6 y7 y8 y9 y10 y11 y12)) ∧ (∀ y0 y1 y2 y3 y4 y5 y6 y7 y8 y9 y10 y11 y12 y13 y14, LeO (plain_Excl.j2 k y0 y1 y2 y3 y4 y5 y6 y7 y8 y9 y10 y11 y12 y13 y14) (plain_Excl.j2 (k + 1) y0 y1 y2 y3 y4 y5 y6 y7 y8 y9 y10 y11 y12 y13 y14))
 | 0 => ⟨fun _ _ _ _ _ _ _ _ _ _ _ r h => by simp [plain_Excl.j0] at h, fun _ _ _ _ _ _ _ _ _ _ _ _ _ r h => by simp [plain_Excl.l0] at h, fun _ _ _ _ _ _ _ _ _ _ _ _ _ _ _ r h => by simp [plain_Excl.j2] at h⟩
 | k + 1 => by
  obtain ⟨ih0, ih1, ih2⟩ := plain_Excl.mono_l k
  refine ⟨?_, ?_, ?_⟩
  ·intro y0 y1 y2 y3 y4 y5 y6 y7 y8 y9 y10
   unfold plain_Excl.j0
   repeat' first
   | (with_reducible exact ih0 _ _ _ _ _ _ _ _ _ _ _)
   | (with_reducible exact ih1 _ _ _ _ _ _ _ _ _ _ _ _ _)
   | (with_reducible exact ih2 _ _ _ _ _ _ _ _ _ _ _ _ _ _ _)
   | (with_reducible exact plain_Do.mono _ _ _)
   | (with_reducible exact plain_May.mono _ _ _ _ _ _ _)
   | (with_reducible exact LeO.refl _)
   | (with_reducible exact LeO.none _)
   | (with_reducible refine LeO.ite ?_ ?_)
   | (with_reducible refine LeO.bind ?_ (fun _ => ?_))
   | exact ih0 _ _ _ _ _ _ _ _ _ _ _
   | exact ih1 _ _ _ _ _ _ _ _ _ _ _ _ _
   | exact ih2 _ _ _ _ _ _ _ _ _ _ _ _ _ _ _
   | exact plain_Do.mono _ _ _
   | exact plain_May.mono _ _ _ _ _ _ _
   | exact LeO.none _
   | refine LeO.ite ?_ ?_
   | refine LeO.bind ?_ (fun _ => ?_)
  ·intro y0 y1 y2 y3 y4 y5 y6 y7 y8 y9 y10 y11 y12
   unfold plain_Excl.l0
   repeat' first
   | (with_reducible exact ih0 _ _ _ _ _ _ _ _ _ _ _)
   | (with_reducible exact ih1 _ _ _ _ _ _ _ _ _ _ _ _ _)
   | (with_reducible exact ih2 _ _ _ _ _ _ _ _ _ _ _ _ _ _ _)
   | (with_reducible exact plain_Do.mono _ _ _)
   | (with_reducible exact plain_May.mono _ _ _ _ _ _ _)
   | (with_reducible exact LeO.refl _)
   | (with_reducible exact LeO.none _)
   | (with_reducible refine LeO.ite ?_ ?_)
   | (with_reducible refine LeO.bind ?_ (fun _ => ?_))
   | exact ih0 _ _ _ _ _ _ _ _ _ _ _
   | exact ih1 _ _ _ _ _ _ _ _ _ _ _ _ _
   | exact ih2 _ _ _ _ _ _ _ _ _ _ _ _ _ _ _
   | exact plain_Do.mono _ _ _
   | exact plain_May.mono _ _ _ _ _ _ _
   | exact LeO.none _
   | refine LeO.ite ?_ ?_
   | refine LeO.bind ?_ (fun _ => ?_)
  ·intro y0 y1 y2 y3 y4 y5 y6 y7 y8 y9 y10 y11 y12 y13 y14
   unfold plain_Excl.j2
   repeat' first
   | (with_reducible exact ih0 _ _ _ _ _ _ _ _ _ _ _)
   | (with_reducible exact ih1 _ _ _ _ _ _ _ _ _ _ _ _ _)
   | (with_reducible exact ih2 _ _ _ _ _ _ _ _ _ _ _ _ _ _ _)
   | (with_reducible exact plain_Do.mono _ _ _)
   | (with_reducible exact plain_May.mono _ _ _ _ _ _ _)
   | (with_reducible exact LeO.refl _)
   | (with_reducible exact LeO.none _)
   | (with_reducible refine LeO.ite ?_ ?_)
   | (with_reducible refine LeO.bind ?_ (fun _ => ?_))
   | exact ih0 _ _ _ _ _ _ _ _ _ _ _
   | exact ih1 _ _ _ _ _ _ _ _ _ _ _ _ _
   | exact ih2 _ _ _ _ _ _ _ _ _ _ _ _ _ _ _
   | exact plain_Do.mono _ _ _
   | exact plain_May.mono _ _ _ _ _ _ _
   | exact LeO.none _
   | refine LeO.ite ?_ ?_
   | refine LeO.bind ?_ (fun _ => ?_)
theorem plain_Excl.mono : ∀ a0 a1 a2 a3 a4 a5 a6 a7 a8 a9 k, LeO (plain_Excl.f k a0 a1 a2 a3 a4 a5 a6 a7 a8 a9) (plain_Excl.f (k + 1) a0 a1 a2 a3 a4 a5 a6 a7 a8 a9) := by
 intro a0 a1 a2 a3 a4 a5 a6 a7 a8 a9 k
 obtain ⟨ih0, ih1, ih2⟩ := plain_Excl.mono_l k
 unfold plain_Excl.f
 repeat' first
   | (with_reducible exact ih0 _ _ _ _ _ _ _ _ _ _ _)
   | (with_reducible exact ih1 _ _ _ _ _ _ _ _ _ _ _ _ _)
   | (with_reducible exact ih2 _ _ _ _ _ _ _ _ _ _ _ _ _ _ _)
   | (with_reducible exact plain_Do.mono _ _ _)
   | (with_reducible exact plain_May.mono _ _ _ _ _ _ _)
   | (with_reducible exact LeO.refl _)
   | (with_reducible exact LeO.none _)
   | (with_reducible refine LeO.ite ?_ ?_)
   | (with_reducible refine LeO.bind ?_ (fun _ => ?_))
   | exact ih0 _ _ _ _ _ _ _ _ _ _ _
   | exact ih1 _ _ _ _ _ _ _ _ _ _ _ _ _
   | exact ih2 _ _ _ _ _ _ _ _ _ _ _ _ _ _ _
   | exact plain_Do.mono _ _ _
   | exact plain_May.mono _ _ _ _ _ _ _
   | exact LeO.none _
   | refine LeO.ite ?_ ?_
   | refine LeO.bind ?_ (fun _ => ?_)
set_option maxHeartbeats 8000000 in
set_option maxRecDepth 100000 in
theorem plain_Excl.calls (k : Nat) (A0 : Option Addr) (c0 : Nat) (l0 : List (S33)) (a1_0 : Int) (a1_1 : Int) (a1_2 : Int) (a2_0 : Int) (a2_1 : Int) (a2_2 : Int) (a2_3 : Int) (a2_4 : ByteArray) (a3 : Int) (r1 : Int) (r2 : Int) (r3 : Int) (r4 : Int) (r5 : ByteArray) (r6 : Int) (w : World) (hT : Aside0 (XAmb w)) (hr0 : Kd.C k33 w A0 l0.length l0) (hc0 : l0.length ≤ c0) (h : plain_Excl.f k l0 a1_0 a1_1 a1_2 a2_0 a2_1 a2_2 a2_3 a2_4 a3 = some (r1, r2, r3, r4, r5, r6)) :
  Calls Tryd.prog 17 #[.slice A0 l0.length c0, .agg #[.int .i64 a1_0, .int .i64 a1_1, .int .i64 a1_2], .agg #[.int .i64 a2_0, .int .i64 a2_1, .int .i64 a2_2, .int .i64 a2_3, .string a2_4], .int .i64 a3] w fun e w' => e = .returned (.tuple #[.agg #[.int .i64 r1, .int .i64 r2, .int .i64 r3, .int .i64 r4, .string r5], .int .i64 r6]) ∧ Below w.heap.size w w' := by
 have hu29 := Tryd.underlying29
 have hu33 := Tryd.underlying33
 have HR0 := Aside0.mk hr0
 have HC0 := Aside0.mk hc0
 clear hr0 hc0
 have HB := Aside0.mk (Below.refl w.heap.size w)
 have H : (if (l0.length : Int) > 2 then (plain_Excl.j0 k l0 a3 true a1_0 a1_1 a1_2 a2_0 a2_1 a2_2 a2_3 a2_4) else ((plain_May.f k a2_0 a2_1 a2_2 a2_3 a2_4 a3).bind fun t296 => (if t296 = true then ((plain_within.f a1_1 0 a3).bind fun t297 => (if t297 = true then ((plain_within.f a1_2 0 a3).bind fun t298 => (plain_Excl.j0 k l0 a3 (!t298) a1_0 a1_1 a1_2 a2_0 a2_1 a2_2 a2_3 a2_4)) else (plain_Excl.j0 k l0 a3 true a1_0 a1_1 a1_2 a2_0 a2_1 a2_2 a2_3 a2_4))) else (plain_Excl.j0 k l0 a3 true a1_0 a1_1 a1_2 a2_0 a2_1 a2_2 a2_3 a2_4)))) = some (r1, r2, r3, r4, r5, r6) := h
 clear h
 have HC5 := Aside0.mk H
 clear H
 go_enter Tryd.func17, Tryd.ntmps17
 go_upto_region 1 with (first | ((with_reducible refine gate_dst (N := 5) rfl ?_); refine box_event ?hg (N := 5) ?hd (cs := #[.int .i64 a1_0, .int .i64 a1_1, .int .i64 a1_2]) (t := 29) ?hr ?_; (case hd => rfl); (case hg => rfl); (case hr => first | (go_simp; done) | (go_simp; rfl)); intro gb293 hg w6 hbox hb; have n0_ := Aside0.mk (below_step (hb0_ HB) hb); have n1_ := Aside0.mk (hbox); have n2_ := Aside0.mk ((by rw [hg]; exact (below_size (hb0_ HB)) : w.heap.size ≤ gb293)); have n3_ := Aside0.mk ((by rw [hg]; exact (below_size (hb0_ HB)) : w.heap.size ≤ gb293)); clear HB; have HB := n0_; have BK293 := n1_; have GW293 := n2_; have GE293 := n3_; clear n0_ n1_ n2_ n3_; clear hb hbox hg) | ((with_reducible refine gate_dst (N := 6) rfl ?_); refine box_event ?hg (N := 6) ?hd (cs := #[.int .i64 a2_0, .int .i64 a2_1, .int .i64 a2_2, .int .i64 a2_3, .string a2_4]) (t := 33) ?hr ?_; (case hd => rfl); (case hg => rfl); (case hr => first | (go_simp; done) | (go_simp; rfl)); intro gb294 hg w7 hbox hb; have n0_ := Aside0.mk (blk_below (g := gb293) (o := .cells #[.int .i64 a1_0, .int .i64 a1_1, .int .i64 a1_2] 29 (0, 0)) (bk_ BK293) hb); have n1_ := Aside0.mk (below_step (hb1_ HB GE293) hb); have n2_ := Aside0.mk (hbox); have n3_ := Aside0.mk ((by rw [hg]; exact (below_size (hb1_ HB GE293)) : w.heap.size ≤ gb294)); have n4_ := Aside0.mk ((by rw [hg]; exact (below_size (hb1_ HB GE293)) : w.heap.size ≤ gb294)); have n5_ := Aside0.mk ((by rw [hg]; exact Nat.ne_of_lt (blk_lt (g := gb293) (o := .cells #[.int .i64 a1_0, .int .i64 a1_1, .int .i64 a1_2] 29 (0, 0)) (bk_ BK293)) : gb293 ≠ gb294)); have n6_ := Aside0.mk ((by rw [hg]; exact Nat.ne_of_gt (blk_lt (g := gb293) (o := .cells #[.int .i64 a1_0, .int .i64 a1_1, .int .i64 a1_2] 29 (0, 0)) (bk_ BK293)) : gb294 ≠ gb293)); clear BK293; clear HB; have BK293 := n0_; have HB := n1_; have BK294 := n2_; have GW294 := n3_; have GE294 := n4_; have NB293_294 := n5_; have NB294_293 := n6_; clear n0_ n1_ n2_ n3_ n4_ n5_ n6_; clear hb hbox hg) | ((with_reducible refine gate_dst (N := 8) rfl ?_); refine box_event ?hg (N := 8) ?hd (cs := #[.int .i64 0, .int .i64 0, .int .i64 0, .int .i64 0, .string (⟨#[]⟩ : ByteArray)]) (t := 33) ?hr ?_; (case hd => rfl); (case hg => rfl); (case hr => first | (go_simp; done) | (go_simp; rfl)); intro gb295 hg w8 hbox hb; have n0_ := Aside0.mk (blk_below (g := gb293) (o := .cells #[.int .i64 a1_0, .int .i64 a1_1, .int .i64 a1_2] 29 (0, 0)) (bk_ BK293) hb); have n1_ := Aside0.mk (blk_below (g := gb294) (o := .cells #[.int .i64 a2_0, .int .i64 a2_1, .int .i64 a2_2, .int .i64 a2_3, .string a2_4] 33 (0, 0)) (bk_ BK294) hb); have n2_ := Aside0.mk (below_step (hb2_ HB GE293 GE294) hb); have n3_ := Aside0.mk (hbox); have n4_ := Aside0.mk ((by rw [hg]; exact (below_size (hb2_ HB GE293 GE294)) : w.heap.size ≤ gb295)); have n5_ := Aside0.mk ((by rw [hg]; exact (below_size (hb2_ HB GE293 GE294)) : w.heap.size ≤ gb295)); have n6_ := Aside0.mk ((by rw [hg]; exact Nat.ne_of_lt (blk_lt (g := gb293) (o := .cells #[.int .i64 a1_0, .int .i64 a1_1, .int .i64 a1_2] 29 (0, 0)) (bk_ BK293)) : gb293 ≠ gb295)); have n7_ := Aside0.mk ((by rw [hg]; exact Nat.ne_of_gt (blk_lt (g := gb293) (o := .cells #[.int .i64 a1_0, .int .i64 a1_1, .int .i64 a1_2] 29 (0, 0)) (bk_ BK293)) : gb295 ≠ gb293)); have n8_ := Aside0.mk ((by rw [hg]; exact Nat.ne_of_lt (blk_lt (g := gb294) (o := .cells #[.int .i64 a2_0, .int .i64 a2_1, .int .i64 a2_2, .int .i64 a2_3, .string a2_4] 33 (0, 0)) (bk_ BK294)) : gb294 ≠ gb295)); have n9_ := Aside0.mk ((by rw [hg]; exact Nat.ne_of_gt (blk_lt (g := gb294) (o := .cells #[.int .i64 a2_0, .int .i64 a2_1, .int .i64 a2_2, .int .i64 a2_3, .string a2_4] 33 (0, 0)) (bk_ BK294)) : gb295 ≠ gb294)); clear BK293; clear BK294; clear HB; have BK293 := n0_; have BK294 := n1_; have HB := n2_; have BK295 := n3_; have GW295 := n4_; have GE295 := n5_; have NB293_295 := n6_; have NB295_293 := n7_; have NB294_295 := n8_; have NB295_294 := n9_; clear n0_ n1_ n2_ n3_ n4_ n5_ n6_ n7_ n8_ n9_; clear hb hbox hg))
 (try simp only [Act.put, List.setIfInBounds_toArray, List.set_cons_zero, List.set_cons_succ])
 go_cut [38] (fun v38 wc => ∃ (kq : Nat) (x38_4 : Bool), v38 = .bool x38_4 ∧ Aside0 (plain_Excl.j0 kq l0 a3 x38_4 a1_0 a1_1 a1_2 a2_0 a2_1 a2_2 a2_3 a2_4 = some (r1, r2, r3, r4, r5, r6)) ∧ Aside0 (kq ≤ k) ∧ Aside0 (wc.heap[gb293]? = some (.cells #[.int .i64 a1_0, .int .i64 a1_1, .int .i64 a1_2] 29 (0, 0))) ∧ Aside0 (wc.heap[gb294]? = some (.cells #[.int .i64 a2_0, .int .i64 a2_1, .int .i64 a2_2, .int .i64 a2_3, .string a2_4] 33 (0, 0))) ∧ Aside0 (wc.heap[gb295]? = some (.cells #[.int .i64 0, .int .i64 0, .int .i64 0, .int .i64 0, .string (⟨#[]⟩ : ByteArray)] 33 (0, 0))) ∧ Aside0 (Below w.heap.size w wc))
 case first =>
  have H := HC5.out
  clear HC5
  by_cases c9 : (l0.length : Int) > 2
  ·rw [if_pos c9] at H
   have c9b0 : decide (2 < (l0.length : Int)) = true := decide_eq_true c9
   have c9b1 : decide (2 < l0.length) = true := decide_eq_true (by omega)
   clear c9
   (first | rw [c9b0] | (simp only [i64_w, i32_w]; rw [c9b0]) | skip)
   have H' := Aside0.mk H
   clear H
   go_wp2
   go_meet
   case rel => exact ⟨_, (true), (by first | rfl | (simp; done) | (simp [*]; done)), H', ⟨by first | omega | exact Nat.le_refl _⟩, ⟨by (with_reducible repeat (first | refine blk_drewN ?_ _ | refine blk_drew ?_ | refine blk_alloc ?_ _)); exact BK293.out⟩, ⟨by (with_reducible repeat (first | refine blk_drewN ?_ _ | refine blk_drew ?_ | refine blk_alloc ?_ _)); exact BK294.out⟩, ⟨by (with_reducible repeat (first | refine blk_drewN ?_ _ | refine blk_drew ?_ | refine blk_alloc ?_ _)); exact BK295.out⟩, ⟨by repeat (first | (with_reducible first | exact HB.out | apply below_alloc | apply pw_below_drewN | apply below_drew1 | refine below_set ?_ GE293.out | refine below_set ?_ GE294.out | refine below_set ?_ GE295.out) | exact HB.out)⟩⟩
  ·rw [if_neg c9] at H
   have c9b0 : decide (2 < (l0.length : Int)) = false := decide_eq_false c9
   have c9b1 : decide (2 < l0.length) = false := decide_eq_false (by omega)
   clear c9
   (first | rw [c9b0] | (simp only [i64_w, i32_w]; rw [c9b0]) | skip)
   replace H := Option.bind_eq_some_iff.mp H
   obtain ⟨t296, A100, H⟩ := H
   replace H : (if t296 = true then ((plain_within.f a1_1 0 a3).bind fun t297 => (if t297 = true then ((plain_within.f a1_2 0 a3).bind fun t298 => (plain_Excl.j0 k l0 a3 (!t298) a1_0 a1_1 a1_2 a2_0 a2_1 a2_2 a2_3 a2_4)) else (plain_Excl.j0 k l0 a3 true a1_0 a1_1 a1_2 a2_0 a2_1 a2_2 a2_3 a2_4))) else (plain_Excl.j0 k l0 a3 true a1_0 a1_1 a1_2 a2_0 a2_1 a2_2 a2_3 a2_4)) = some (r1, r2, r3, r4, r5, r6) := H
   have A10 := Aside0.mk A100
   clear A100
   by_cases c11 : t296 = true
   ·subst c11
    have H1 : ((plain_within.f a1_1 0 a3).bind fun t297 => (if t297 = true then ((plain_within.f a1_2 0 a3).bind fun t298 => (plain_Excl.j0 k l0 a3 (!t298) a1_0 a1_1 a1_2 a2_0 a2_1 a2_2 a2_3 a2_4)) else (plain_Excl.j0 k l0 a3 true a1_0 a1_1 a1_2 a2_0 a2_1 a2_2 a2_3 a2_4))) = some (r1, r2, r3, r4, r5, r6) := by rw [if_pos rfl] at H; exact H
    clear H
    have H := H1
    clear H1
    replace H := Option.bind_eq_some_iff.mp H
    obtain ⟨t297, A120, H⟩ := H
    replace H : (if t297 = true then ((plain_within.f a1_2 0 a3).bind fun t298 => (plain_Excl.j0 k l0 a3 (!t298) a1_0 a1_1 a1_2 a2_0 a2_1 a2_2 a2_3 a2_4)) else (plain_Excl.j0 k l0 a3 true a1_0 a1_1 a1_2 a2_0 a2_1 a2_2 a2_3 a2_4)) = some (r1, r2, r3, r4, r5, r6) := H
    have A12 := Aside0.mk A120
    clear A120
    by_cases c13 : t297 = true
    ·subst c13
     have H1 : ((plain_within.f a1_2 0 a3).bind fun t298 => (plain_Excl.j0 k l0 a3 (!t298) a1_0 a1_1 a1_2 a2_0 a2_1 a2_2 a2_3 a2_4)) = some (r1, r2, r3, r4, r5, r6) := by rw [if_pos rfl] at H; exact H
     clear H
     have H := H1
     clear H1
     replace H := Option.bind_eq_some_iff.mp H
     obtain ⟨t298, A140, H⟩ := H
     replace H : (plain_Excl.j0 k l0 a3 (!t298) a1_0 a1_1 a1_2 a2_0 a2_1 a2_2 a2_3 a2_4) = some (r1, r2, r3, r4, r5, r6) := H
     have A14 := Aside0.mk A140
     clear A140
     have H' := Aside0.mk H
     clear H
     have hnb15 := NB294_293.out
     have hnc15 := NB293_294.out
     have hnb16 := NB294_295.out
     have hnc16 := NB295_294.out
     have hcz17_0 : w8.cell? ⟨gb294, 0, none⟩ = some (.int .i64 a2_0) := (blk_cell BK294.out 0).trans rfl
     have hcz17_1 : w8.cell? ⟨gb294, 1, none⟩ = some (.int .i64 a2_1) := (blk_cell BK294.out 1).trans rfl
     have hcz17_2 : w8.cell? ⟨gb294, 2, none⟩ = some (.int .i64 a2_2) := (blk_cell BK294.out 2).trans rfl
     have hcz17_3 : w8.cell? ⟨gb294, 3, none⟩ = some (.int .i64 a2_3) := (blk_cell BK294.out 3).trans rfl
     have hcz17_4 : w8.cell? ⟨gb294, 4, none⟩ = some (.string a2_4) := (blk_cell BK294.out 4).trans rfl
     have hfz17_0 := blk_frozen BK294.out 0
     have hfz17_1 := blk_frozen BK294.out 1
     have hfz17_2 := blk_frozen BK294.out 2
     have hfz17_3 := blk_frozen BK294.out 3
     have hfz17_4 := blk_frozen BK294.out 4
     go_wp2_with (first | (go_at_call 21; (with_reducible refine (plain_May.calls k a2_0 a2_1 a2_2 a2_3 a2_4 a3 true _ ?side1 A10.out).mono ?_); (case side1 => exact XAmb_step hT (hb3_ HB GE293 GE294 GE295)); rintro e w18 ⟨rfl, hb⟩; have n0_ := Aside0.mk (blk_below (g := gb293) (o := .cells #[.int .i64 a1_0, .int .i64 a1_1, .int .i64 a1_2] 29 (0, 0)) (bk_ BK293) hb); have n1_ := Aside0.mk (blk_below (g := gb294) (o := .cells #[.int .i64 a2_0, .int .i64 a2_1, .int .i64 a2_2, .int .i64 a2_3, .string a2_4] 33 (0, 0)) (bk_ BK294) hb); have n2_ := Aside0.mk (blk_below (g := gb295) (o := .cells #[.int .i64 0, .int .i64 0, .int .i64 0, .int .i64 0, .string (⟨#[]⟩ : ByteArray)] 33 (0, 0)) (bk_ BK295) hb); have n3_ := Aside0.mk (below_step (hb3_ HB GE293 GE294 GE295) hb); clear BK293; clear BK294; clear BK295; clear HB; have BK293 := n0_; have BK294 := n1_; have BK295 := n2_; have HB := n3_; clear n0_ n1_ n2_ n3_; (try clear hb); (try clear hb2); (try clear hk); (try clear hi); have hnb19 := NB293_295.out; have hnc19 := NB295_293.out; have hcz20_0 : w18.cell? ⟨gb293, 0, none⟩ = some (.int .i64 a1_0) := (blk_cell BK293.out 0).trans rfl; have hcz20_1 : w18.cell? ⟨gb293, 1, none⟩ = some (.int .i64 a1_1) := (blk_cell BK293.out 1).trans rfl; have hcz20_2 : w18.cell? ⟨gb293, 2, none⟩ = some (.int .i64 a1_2) := (blk_cell BK293.out 2).trans rfl; have hfz20_0 := blk_frozen BK293.out 0; have hfz20_1 := blk_frozen BK293.out 1; have hfz20_2 := blk_frozen BK293.out 2) | (go_at_call 29; (with_reducible refine (plain_within.calls a1_1 0 a3 true _ A12.out).mono ?_); rintro e w' ⟨rfl, ⟨nd, rfl⟩⟩) | (go_at_call 29; (with_reducible refine (plain_within.calls a1_2 0 a3 t298 _ A14.out).mono ?_); rintro e w' ⟨rfl, ⟨nd, rfl⟩⟩))
     go_meet
     case rel => exact ⟨_, (!t298), (by first | rfl | (simp; done) | (simp [*]; done)), H', ⟨by first | omega | exact Nat.le_refl _⟩, ⟨by (with_reducible repeat (first | refine blk_drewN ?_ _ | refine blk_drew ?_ | refine blk_alloc ?_ _)); exact BK293.out⟩, ⟨by (with_reducible repeat (first | refine blk_drewN ?_ _ | refine blk_drew ?_ | refine blk_alloc ?_ _)); exact BK294.out⟩, ⟨by (with_reducible repeat (first | refine blk_drewN ?_ _ | refine blk_drew ?_ | refine blk_alloc ?_ _)); exact BK295.out⟩, ⟨by repeat (first | (with_reducible first | exact HB.out | apply below_alloc | apply pw_below_drewN | apply below_drew1 | refine below_set ?_ GE293.out | refine below_set ?_ GE294.out | refine below_set ?_ GE295.out) | exact HB.out)⟩⟩
    ·replace c13 := Bool.eq_false_iff.mpr c13
     subst c13
     have H1 : (plain_Excl.j0 k l0 a3 true a1_0 a1_1 a1_2 a2_0 a2_1 a2_2 a2_3 a2_4) = some (r1, r2, r3, r4, r5, r6) := by rw [if_neg (show ¬ (false = true) by decide)] at H; exact H
     clear H
     have H := H1
     clear H1
     have H' := Aside0.mk H
     clear H
     have hnb21 := NB294_293.out
     have hnc21 := NB293_294.out
     have hnb22 := NB294_295.out
     have hnc22 := NB295_294.out
     have hcz23_0 : w8.cell? ⟨gb294, 0, none⟩ = some (.int .i64 a2_0) := (blk_cell BK294.out 0).trans rfl
     have hcz23_1 : w8.cell? ⟨gb294, 1, none⟩ = some (.int .i64 a2_1) := (blk_cell BK294.out 1).trans rfl
     have hcz23_2 : w8.cell? ⟨gb294, 2, none⟩ = some (.int .i64 a2_2) := (blk_cell BK294.out 2).trans rfl
     have hcz23_3 : w8.cell? ⟨gb294, 3, none⟩ = some (.int .i64 a2_3) := (blk_cell BK294.out 3).trans rfl
     have hcz23_4 : w8.cell? ⟨gb294, 4, none⟩ = some (.string a2_4) := (blk_cell BK294.out 4).trans rfl
     have hfz23_0 := blk_frozen BK294.out 0
     have hfz23_1 := blk_frozen BK294.out 1
     have hfz23_2 := blk_frozen BK294.out 2
     have hfz23_3 := blk_frozen BK294.out 3
     have hfz23_4 := blk_frozen BK294.out 4
     go_wp2_with (first | (go_at_call 21; (with_reducible refine (plain_May.calls k a2_0 a2_1 a2_2 a2_3 a2_4 a3 true _ ?side1 A10.out).mono ?_); (case side1 => exact XAmb_step hT (hb3_ HB GE293 GE294 GE295)); rintro e w24 ⟨rfl, hb⟩; have n0_ := Aside0.mk (blk_below (g := gb293) (o := .cells #[.int .i64 a1_0, .int .i64 a1_1, .int .i64 a1_2] 29 (0, 0)) (bk_ BK293) hb); have n1_ := Aside0.mk (blk_below (g := gb294) (o := .cells #[.int .i64 a2_0, .int .i64 a2_1, .int .i64 a2_2, .int .i64 a2_3, .string a2_4] 33 (0, 0)) (bk_ BK294) hb); have n2_ := Aside0.mk (blk_below (g := gb295) (o := .cells #[.int .i64 0, .int .i64 0, .int .i64 0, .int .i64 0, .string (⟨#[]⟩ : ByteArray)] 33 (0, 0)) (bk_ BK295) hb); have n3_ := Aside0.mk (below_step (hb3_ HB GE293 GE294 GE295) hb); clear BK293; clear BK294; clear BK295; clear HB; have BK293 := n0_; have BK294 := n1_; have BK295 := n2_; have HB := n3_; clear n0_ n1_ n2_ n3_; (try clear hb); (try clear hb2); (try clear hk); (try clear hi); have hnb25 := NB293_295.out; have hnc25 := NB295_293.out; have hcz26_0 : w24.cell? ⟨gb293, 0, none⟩ = some (.int .i64 a1_0) := (blk_cell BK293.out 0).trans rfl; have hcz26_1 : w24.cell? ⟨gb293, 1, none⟩ = some (.int .i64 a1_1) := (blk_cell BK293.out 1).trans rfl; have hcz26_2 : w24.cell? ⟨gb293, 2, none⟩ = some (.int .i64 a1_2) := (blk_cell BK293.out 2).trans rfl; have hfz26_0 := blk_frozen BK293.out 0; have hfz26_1 := blk_frozen BK293.out 1; have hfz26_2 := blk_frozen BK293.out 2) | (go_at_call 29; (with_reducible refine (plain_within.calls a1_1 0 a3 false _ A12.out).mono ?_); rintro e w' ⟨rfl, ⟨nd, rfl⟩⟩))
     go_meet
     case rel => exact ⟨_, (true), (by first | rfl | (simp; done) | (simp [*]; done)), H', ⟨by first | omega | exact Nat.le_refl _⟩, ⟨by (with_reducible repeat (first | refine blk_drewN ?_ _ | refine blk_drew ?_ | refine blk_alloc ?_ _)); exact BK293.out⟩, ⟨by (with_reducible repeat (first | refine blk_drewN ?_ _ | refine blk_drew ?_ | refine blk_alloc ?_ _)); exact BK294.out⟩, ⟨by (with_reducible repeat (first | refine blk_drewN ?_ _ | refine blk_drew ?_ | refine blk_alloc ?_ _)); exact BK295.out⟩, ⟨by repeat (first | (with_reducible first | exact HB.out | apply below_alloc | apply pw_below_drewN | apply below_drew1 | refine below_set ?_ GE293.out | refine below_set ?_ GE294.out | refine below_set ?_ GE295.out) | exact HB.out)⟩⟩
   ·replace c11 := Bool.eq_false_iff.mpr c11
    subst c11
    have H1 : (plain_Excl.j0 k l0 a3 true a1_0 a1_1 a1_2 a2_0 a2_1 a2_2 a2_3 a2_4) = some (r1, r2, r3, r4, r5, r6) := by rw [if_neg (show ¬ (false = true) by decide)] at H; exact H
    clear H
    have H := H1
    clear H1
    have H' := Aside0.mk H
    clear H
    have hnb27 := NB294_293.out
    have hnc27 := NB293_294.out
    have hnb28 := NB294_295.out
    have hnc28 := NB295_294.out
    have hcz29_0 : w8.cell? ⟨gb294, 0, none⟩ = some (.int .i64 a2_0) := (blk_cell BK294.out 0).trans rfl
    have hcz29_1 : w8.cell? ⟨gb294, 1, none⟩ = some (.int .i64 a2_1) := (blk_cell BK294.out 1).trans rfl
    have hcz29_2 : w8.cell? ⟨gb294, 2, none⟩ = some (.int .i64 a2_2) := (blk_cell BK294.out 2).trans rfl
    have hcz29_3 : w8.cell? ⟨gb294, 3, none⟩ = some (.int .i64 a2_3) := (blk_cell BK294.out 3).trans rfl
    have hcz29_4 : w8.cell? ⟨gb294, 4, none⟩ = some (.string a2_4) := (blk_cell BK294.out 4).trans rfl
    have hfz29_0 := blk_frozen BK294.out 0
    have hfz29_1 := blk_frozen BK294.out 1
    have hfz29_2 := blk_frozen BK294.out 2
    have hfz29_3 := blk_frozen BK294.out 3
    have hfz29_4 := blk_frozen BK294.out 4
    go_wp2_with (first | (go_at_call 21; (with_reducible refine (plain_May.calls k a2_0 a2_1 a2_2 a2_3 a2_4 a3 false _ ?side1 A10.out).mono ?_); (case side1 => exact XAmb_step hT (hb3_ HB GE293 GE294 GE295)); rintro e w30 ⟨rfl, hb⟩; have n0_ := Aside0.mk (blk_below (g := gb293) (o := .cells #[.int .i64 a1_0, .int .i64 a1_1, .int .i64 a1_2] 29 (0, 0)) (bk_ BK293) hb); have n1_ := Aside0.mk (blk_below (g := gb294) (o := .cells #[.int .i64 a2_0, .int .i64 a2_1, .int .i64 a2_2, .int .i64 a2_3, .string a2_4] 33 (0, 0)) (bk_ BK294) hb); have n2_ := Aside0.mk (blk_below (g := gb295) (o := .cells #[.int .i64 0, .int .i64 0, .int .i64 0, .int .i64 0, .string (⟨#[]⟩ : ByteArray)] 33 (0, 0)) (bk_ BK295) hb); have n3_ := Aside0.mk (below_step (hb3_ HB GE293 GE294 GE295) hb); clear BK293; clear BK294; clear BK295; clear HB; have BK293 := n0_; have BK294 := n1_; have BK295 := n2_; have HB := n3_; clear n0_ n1_ n2_ n3_; (try clear hb); (try clear hb2); (try clear hk); (try clear hi)))
    go_meet
    case rel => exact ⟨_, (true), (by first | rfl | (simp; done) | (simp [*]; done)), H', ⟨by first | omega | exact Nat.le_refl _⟩, ⟨by (with_reducible repeat (first | refine blk_drewN ?_ _ | refine blk_drew ?_ | refine blk_alloc ?_ _)); exact BK293.out⟩, ⟨by (with_reducible repeat (first | refine blk_drewN ?_ _ | refine blk_drew ?_ | refine blk_alloc ?_ _)); exact BK294.out⟩, ⟨by (with_reducible repeat (first | refine blk_drewN ?_ _ | refine blk_drew ?_ | refine blk_alloc ?_ _)); exact BK295.out⟩, ⟨by repeat (first | (with_reducible first | exact HB.out | apply below_alloc | apply pw_below_drewN | apply below_drew1 | refine below_set ?_ GE293.out | refine below_set ?_ GE294.out | refine below_set ?_ GE295.out) | exact HB.out)⟩⟩
 case rest =>
  clear HC5
  try clear c1
  try clear c2
  try clear p2
  try clear c9
  try clear c9b0
  try clear c9b1
  try clear c11
  try clear c13
  try clear c15
  try clear c16
  try clear c17
  try clear c19
  try clear c21
  try clear c22
  try clear c25
  try clear c27
  try clear c28
  try clear hcz17_0
  try clear hcz17_1
  try clear hcz17_2
  try clear hcz17_3
  try clear hcz17_4
  try clear hcz20_0
  try clear hcz20_1
  try clear hcz20_2
  try clear hcz23_0
  try clear hcz23_1
  try clear hcz23_2
  try clear hcz23_3
  try clear hcz23_4
  try clear hcz26_0
  try clear hcz26_1
  try clear hcz26_2
  try clear hcz29_0
  try clear hcz29_1
  try clear hcz29_2
  try clear hcz29_3
  try clear hcz29_4
  try clear hfz17_0
  try clear hfz17_1
  try clear hfz17_2
  try clear hfz17_3
  try clear hfz17_4
  try clear hfz20_0
  try clear hfz20_1
  try clear hfz20_2
  try clear hfz23_0
  try clear hfz23_1
  try clear hfz23_2
  try clear hfz23_3
  try clear hfz23_4
  try clear hfz26_0
  try clear hfz26_1
  try clear hfz26_2
  try clear hfz29_0
  try clear hfz29_1
  try clear hfz29_2
  try clear hfz29_3
  try clear hfz29_4
  obtain ⟨kq, x38_4, rfl, HA, HJ4, BK293, BK294, BK295, HB⟩ := hcut
  cases kq with
  | zero => exact absurd HA.out (by simp [plain_Excl.j0])
  | succ kj4 =>
   have H := HA.out
   clear HA
   simp only [plain_Excl.j0] at H
   by_cases c31 : x38_4 = true
   ·subst c31
    have H1 : (some (0, 0, 0, 0, (⟨#[]⟩ : ByteArray), 1)) = some (r1, r2, r3, r4, r5, r6) := by rw [if_pos rfl] at H; exact H
    clear H
    have H := H1
    clear H1
    simp only [Option.some.injEq, Prod.mk.injEq] at H
    obtain ⟨rfl, rfl, rfl, rfl, rfl, rfl⟩ := H
    have hnb32 := NB295_293.out
    have hnc32 := NB293_295.out
    have hnb33 := NB295_294.out
    have hnc33 := NB294_295.out
    have hcz34_0 : wc.cell? ⟨gb295, 0, none⟩ = some (.int .i64 0) := (blk_cell BK295.out 0).trans rfl
    have hcz34_1 : wc.cell? ⟨gb295, 1, none⟩ = some (.int .i64 0) := (blk_cell BK295.out 1).trans rfl
    have hcz34_2 : wc.cell? ⟨gb295, 2, none⟩ = some (.int .i64 0) := (blk_cell BK295.out 2).trans rfl
    have hcz34_3 : wc.cell? ⟨gb295, 3, none⟩ = some (.int .i64 0) := (blk_cell BK295.out 3).trans rfl
    have hcz34_4 : wc.cell? ⟨gb295, 4, none⟩ = some (.string (⟨#[]⟩ : ByteArray)) := (blk_cell BK295.out 4).trans rfl
    have hfz34_0 := blk_frozen BK295.out 0
    have hfz34_1 := blk_frozen BK295.out 1
    have hfz34_2 := blk_frozen BK295.out 2
    have hfz34_3 := blk_frozen BK295.out 3
    have hfz34_4 := blk_frozen BK295.out 4
    go_wp2
    refine bodyPost_ret (results_ct rfl _ _ gb295 33 #[.int .i64 0, .int .i64 0, .int .i64 0, .int .i64 0, .string (⟨#[]⟩ : ByteArray)] (0, 0) _ rfl (by (with_reducible repeat (first | refine blk_drewN ?_ _ | refine blk_drew ?_ | refine blk_alloc ?_ _)); refine blk_put (cs := #[.int .i64 0, .int .i64 0, .int .i64 0, .int .i64 0, .string (⟨#[]⟩ : ByteArray)]) ?_ 4 _ rfl; (with_reducible repeat (first | refine blk_drewN ?_ _ | refine blk_drew ?_ | refine blk_alloc ?_ _)); refine blk_put (cs := #[.int .i64 0, .int .i64 0, .int .i64 0, .int .i64 0, .string (⟨#[]⟩ : ByteArray)]) ?_ 3 _ rfl; (with_reducible repeat (first | refine blk_drewN ?_ _ | refine blk_drew ?_ | refine blk_alloc ?_ _)); refine blk_put (cs := #[.int .i64 0, .int .i64 0, .int .i64 0, .int .i64 0, .string (⟨#[]⟩ : ByteArray)]) ?_ 2 _ rfl; (with_reducible repeat (first | refine blk_drewN ?_ _ | refine blk_drew ?_ | refine blk_alloc ?_ _)); refine blk_put (cs := #[.int .i64 0, .int .i64 0, .int .i64 0, .int .i64 0, .string (⟨#[]⟩ : ByteArray)]) ?_ 1 _ rfl; (with_reducible repeat (first | refine blk_drewN ?_ _ | refine blk_drew ?_ | refine blk_alloc ?_ _)); refine blk_put (cs := #[.int .i64 0, .int .i64 0, .int .i64 0, .int .i64 0, .string (⟨#[]⟩ : ByteArray)]) ?_ 0 _ rfl; (with_reducible repeat (first | refine blk_drewN ?_ _ | refine blk_drew ?_ | refine blk_alloc ?_ _)); exact BK295.out) Tryd.underlying33 rfl (by kernel_rfl)) rfl ?_
    exact ⟨by first | rfl | (simp [errW_none, errW_some] <;> rfl) | (simp [*, errW_none, errW_some] <;> rfl), by repeat (first | (with_reducible first | exact HB.out | apply below_alloc | apply pw_below_drewN | apply below_drew1 | refine below_set ?_ GE293.out | refine below_set ?_ GE294.out | refine below_set ?_ GE295.out) | exact HB.out)⟩
   ·replace c31 := Bool.eq_false_iff.mpr c31
    subst c31
    have H1 : (plain_Excl.l0 kj4 l0 a3 l0 (l0.length : Int) 0 a1_0 a1_1 a1_2 a2_0 a2_1 a2_2 a2_3 a2_4) = some (r1, r2, r3, r4, r5, r6) := by rw [if_neg (show ¬ (false = true) by decide)] at H; exact H
    clear H
    have H := H1
    clear H1
    have H' := Aside0.mk H
    clear H
    go_wp2
    go_loopg [42] kj4 (fun kq v42 w' => ∃ (x42_2 : Int) (x296000_2 : Int) (x296001_2 : Int) (x296002_2 : Int) (x296003_2 : Int) (x296004_2 : ByteArray), v42 = .int .i64 x42_2 ∧ Aside0 (plain_Excl.l0 kq l0 a3 l0 (l0.length : Int) x42_2 a1_0 a1_1 a1_2 a2_0 a2_1 a2_2 a2_3 a2_4 = some (r1, r2, r3, r4, r5, r6)) ∧ Aside0 (kq ≤ kj4) ∧ Aside0 (w'.heap[gb293]? = some (.cells #[.int .i64 a1_0, .int .i64 a1_1, .int .i64 a1_2] 29 (0, 0))) ∧ Aside0 (w'.heap[gb294]? = some (.cells #[.int .i64 a2_0, .int .i64 a2_1, .int .i64 a2_2, .int .i64 a2_3, .string a2_4] 33 (0, 0))) ∧ Aside0 (w'.heap[gb295]? = some (.cells #[.int .i64 x296000_2, .int .i64 x296001_2, .int .i64 x296002_2, .int .i64 x296003_2, .string x296004_2] 33 (0, 0))) ∧ Aside0 (Below w.heap.size w w'))
    case atStart => exact ⟨(0), (0), (0), (0), (0), ((⟨#[]⟩ : ByteArray)), (by first | rfl | (simp; done) | (simp [*]; done)), H', ⟨Nat.le_refl _⟩, ⟨by (with_reducible repeat (first | refine blk_drewN ?_ _ | refine blk_drew ?_ | refine blk_alloc ?_ _)); exact BK293.out⟩, ⟨by (with_reducible repeat (first | refine blk_drewN ?_ _ | refine blk_drew ?_ | refine blk_alloc ?_ _)); exact BK294.out⟩, ⟨by (with_reducible repeat (first | refine blk_drewN ?_ _ | refine blk_drew ?_ | refine blk_alloc ?_ _)); exact BK295.out⟩, ⟨by repeat (first | (with_reducible first | exact HB.out | apply below_alloc | apply pw_below_drewN | apply below_drew1 | refine below_set ?_ GE293.out | refine below_set ?_ GE294.out | refine below_set ?_ GE295.out) | exact HB.out)⟩⟩
    case round =>
     clear H'
     try clear c1
     try clear c2
     try clear p2
     try clear c3
     try clear c9
     try clear c9b0
     try clear c9b1
     try clear c11
     try clear c13
     try clear c15
     try clear c16
     try clear c17
     try clear c19
     try clear c21
     try clear c22
     try clear c25
     try clear c27
     try clear c28
     try clear c31
     try clear c32
     try clear c33
     try clear hcz17_0
     try clear hcz17_1
     try clear hcz17_2
     try clear hcz17_3
     try clear hcz17_4
     try clear hcz20_0
     try clear hcz20_1
     try clear hcz20_2
     try clear hcz23_0
     try clear hcz23_1
     try clear hcz23_2
     try clear hcz23_3
     try clear hcz23_4
     try clear hcz26_0
     try clear hcz26_1
     try clear hcz26_2
     try clear hcz29_0
     try clear hcz29_1
     try clear hcz29_2
     try clear hcz29_3
     try clear hcz29_4
     try clear hcz34_0
     try clear hcz34_1
     try clear hcz34_2
     try clear hcz34_3
     try clear hcz34_4
     try clear hfz17_0
     try clear hfz17_1
     try clear hfz17_2
     try clear hfz17_3
     try clear hfz17_4
     try clear hfz20_0
     try clear hfz20_1
     try clear hfz20_2
     try clear hfz23_0
     try clear hfz23_1
     try clear hfz23_2
     try clear hfz23_3
     try clear hfz23_4
     try clear hfz26_0
     try clear hfz26_1
     try clear hfz26_2
     try clear hfz29_0
     try clear hfz29_1
     try clear hfz29_2
     try clear hfz29_3
     try clear hfz29_4
     try clear hfz34_0
     try clear hfz34_1
     try clear hfz34_2
     try clear hfz34_3
     try clear hfz34_4
     try clear p2
     obtain ⟨x42_2, x296000_2, x296001_2, x296002_2, x296003_2, x296004_2, rfl, HA, HK2, BK293, BK294, BK295, HB⟩ := hrel
     cases gk with
     | zero => exact absurd HA.out (by simp [plain_Excl.l0])
     | succ k2 =>
      have H := HA.out
      clear HA
      simp only [plain_Excl.l0] at H
      by_cases c35 : x42_2 < (l0.length : Int)
      ·rw [if_pos c35] at H
       have c35b0 : decide (x42_2 < (l0.length : Int)) = true := decide_eq_true c35
       clear c35
       by_cases c36 : 0 ≤ x42_2
       ·rw [if_pos c36] at H
        have c36b0 : decide (0 ≤ x42_2) = true := decide_eq_true c36
        clear c36
        by_cases c37 : x42_2 < (l0.length : Int)
        ·rw [if_pos c37] at H
         have c37b0 : decide (x42_2 < (l0.length : Int)) = true := decide_eq_true c37
         clear c37
         replace H := Option.bind_eq_some_iff.mp H
         obtain ⟨t301, A380, H⟩ := H
         replace H : (if t301 = true then ((plain_within.f ((rd_T33 l0 x42_2).f3) 0 20000).bind fun t302 => (if t302 = true then (plain_Excl.l0 k2 l0 a3 l0 (l0.length : Int) (wrap64 (x42_2 + 1)) a1_0 a1_1 a1_2 a2_0 a2_1 a2_2 a2_3 a2_4) else (some (0, 0, 0, 0, (⟨#[]⟩ : ByteArray), 1)))) else (some (0, 0, 0, 0, (⟨#[]⟩ : ByteArray), 1))) = some (r1, r2, r3, r4, r5, r6) := H
         have A38 := Aside0.mk A380
         clear A380
         by_cases c39 : t301 = true
         ·subst c39
          have H1 : ((plain_within.f ((rd_T33 l0 x42_2).f3) 0 20000).bind fun t302 => (if t302 = true then (plain_Excl.l0 k2 l0 a3 l0 (l0.length : Int) (wrap64 (x42_2 + 1)) a1_0 a1_1 a1_2 a2_0 a2_1 a2_2 a2_3 a2_4) else (some (0, 0, 0, 0, (⟨#[]⟩ : ByteArray), 1)))) = some (r1, r2, r3, r4, r5, r6) := by rw [if_pos rfl] at H; exact H
          clear H
          have H := H1
          clear H1
          replace H := Option.bind_eq_some_iff.mp H
          obtain ⟨t302, A400, H⟩ := H
          replace H : (if t302 = true then (plain_Excl.l0 k2 l0 a3 l0 (l0.length : Int) (wrap64 (x42_2 + 1)) a1_0 a1_1 a1_2 a2_0 a2_1 a2_2 a2_3 a2_4) else (some (0, 0, 0, 0, (⟨#[]⟩ : ByteArray), 1))) = some (r1, r2, r3, r4, r5, r6) := H
          have A40 := Aside0.mk A400
          clear A400
          by_cases c41 : t302 = true
          ·subst c41
           have H1 : (plain_Excl.l0 k2 l0 a3 l0 (l0.length : Int) (wrap64 (x42_2 + 1)) a1_0 a1_1 a1_2 a2_0 a2_1 a2_2 a2_3 a2_4) = some (r1, r2, r3, r4, r5, r6) := by rw [if_pos rfl] at H; exact H
           clear H
           have H := H1
           clear H1
           have H' := Aside0.mk H
           clear H
           have p299 : 0 ≤ (x42_2 : Int) := dt_
           have q299 : x42_2 < (l0.length : Int) := dt_
           obtain ⟨ad299, e299, hx299_0, hx299_1, hx299_2, hx299_3, hx299_4⟩ := at_T33 HR0.out x42_2 p299 q299
           cases e299
           replace hx299_0 := (HB.out.cell (World.block_lt_of_cell? w _ hx299_0)).trans hx299_0
           replace hx299_1 := (HB.out.cell (World.block_lt_of_cell? w _ hx299_1)).trans hx299_1
           replace hx299_2 := (HB.out.cell (World.block_lt_of_cell? w _ hx299_2)).trans hx299_2
           replace hx299_3 := (HB.out.cell (World.block_lt_of_cell? w _ hx299_3)).trans hx299_3
           replace hx299_4 := (HB.out.cell (World.block_lt_of_cell? w _ hx299_4)).trans hx299_4
           replace p299 := eq_true p299
           replace q299 := eq_true q299
           go_wp2_with (first | ((with_reducible refine gate_dst (N := 11) rfl ?_); refine box_event ?hg (N := 11) ?hd (cs := #[.int .i64 0, .int .i64 0, .int .i64 0, .int .i64 0, .string (⟨#[]⟩ : ByteArray)]) (t := 33) ?hr ?_; (case hd => rfl); (case hg => rfl); (case hr => first | (go_simp; done) | (go_simp; rfl)); intro gb300 hg w42 hbox hb; have n0_ := Aside0.mk (blk_below (g := gb293) (o := .cells #[.int .i64 a1_0, .int .i64 a1_1, .int .i64 a1_2] 29 (0, 0)) (bk_ BK293) hb); have n1_ := Aside0.mk (blk_below (g := gb294) (o := .cells #[.int .i64 a2_0, .int .i64 a2_1, .int .i64 a2_2, .int .i64 a2_3, .string a2_4] 33 (0, 0)) (bk_ BK294) hb); have n2_ := Aside0.mk (blk_below (g := gb295) (o := .cells #[.int .i64 x296000_2, .int .i64 x296001_2, .int .i64 x296002_2, .int .i64 x296003_2, .string x296004_2] 33 (0, 0)) (bk_ BK295) hb); have n3_ := Aside0.mk (below_step (hb3_ HB GE293 GE294 GE295) hb); have n4_ := Aside0.mk (hbox); have n5_ := Aside0.mk ((by rw [hg]; exact (below_size (hb3_ HB GE293 GE294 GE295)) : w.heap.size ≤ gb300)); have n6_ := Aside0.mk ((by rw [hg]; exact (below_size (hb3_ HB GE293 GE294 GE295)) : w.heap.size ≤ gb300)); have n7_ := Aside0.mk ((by rw [hg]; exact Nat.ne_of_lt (blk_lt (g := gb293) (o := .cells #[.int .i64 a1_0, .int .i64 a1_1, .int .i64 a1_2] 29 (0, 0)) (bk_ BK293)) : gb293 ≠ gb300)); have n8_ := Aside0.mk ((by rw [hg]; exact Nat.ne_of_gt (blk_lt (g := gb293) (o := .cells #[.int .i64 a1_0, .int .i64 a1_1, .int .i64 a1_2] 29 (0, 0)) (bk_ BK293)) : gb300 ≠ gb293)); have n9_ := Aside0.mk ((by rw [hg]; exact Nat.ne_of_lt (blk_lt (g := gb294) (o := .cells #[.int .i64 a2_0, .int .i64 a2_1, .int .i64 a2_2, .int .i64 a2_3, .string a2_4] 33 (0, 0)) (bk_ BK294)) : gb294 ≠ gb300)); have n10_ := Aside0.mk ((by rw [hg]; exact Nat.ne_of_gt (blk_lt (g := gb294) (o := .cells #[.int .i64 a2_0, .int .i64 a2_1, .int .i64 a2_2, .int .i64 a2_3, .string a2_4] 33 (0, 0)) (bk_ BK294)) : gb300 ≠ gb294)); have n11_ := Aside0.mk ((by rw [hg]; exact Nat.ne_of_lt (blk_lt (g := gb295) (o := .cells #[.int .i64 x296000_2, .int .i64 x296001_2, .int .i64 x296002_2, .int .i64 x296003_2, .string x296004_2] 33 (0, 0)) (bk_ BK295)) : gb295 ≠ gb300)); have n12_ := Aside0.mk ((by rw [hg]; exact Nat.ne_of_gt (blk_lt (g := gb295) (o := .cells #[.int .i64 x296000_2, .int .i64 x296001_2, .int .i64 x296002_2, .int .i64 x296003_2, .string x296004_2] 33 (0, 0)) (bk_ BK295)) : gb300 ≠ gb295)); clear BK293; clear BK294; clear BK295; clear HB; have BK293 := n0_; have BK294 := n1_; have BK295 := n2_; have HB := n3_; have BK300 := n4_; have GW300 := n5_; have GE300 := n6_; have NB293_300 := n7_; have NB300_293 := n8_; have NB294_300 := n9_; have NB300_294 := n10_; have NB295_300 := n11_; have NB300_295 := n12_; clear n0_ n1_ n2_ n3_ n4_ n5_ n6_ n7_ n8_ n9_ n10_ n11_ n12_; clear hb hbox hg; have hnb43 := NB300_293.out; have hnc43 := NB293_300.out; have hnb44 := NB300_294.out; have hnc44 := NB294_300.out; have hnb45 := NB300_295.out; have hnc45 := NB295_300.out; have hcz46_0 : w42.cell? ⟨gb300, 0, none⟩ = some (.int .i64 0) := (blk_cell BK300.out 0).trans rfl; have hcz46_1 : w42.cell? ⟨gb300, 1, none⟩ = some (.int .i64 0) := (blk_cell BK300.out 1).trans rfl; have hcz46_2 : w42.cell? ⟨gb300, 2, none⟩ = some (.int .i64 0) := (blk_cell BK300.out 2).trans rfl; have hcz46_3 : w42.cell? ⟨gb300, 3, none⟩ = some (.int .i64 0) := (blk_cell BK300.out 3).trans rfl; have hcz46_4 : w42.cell? ⟨gb300, 4, none⟩ = some (.string (⟨#[]⟩ : ByteArray)) := (blk_cell BK300.out 4).trans rfl; have hfz46_0 := blk_frozen BK300.out 0; have hfz46_1 := blk_frozen BK300.out 1; have hfz46_2 := blk_frozen BK300.out 2; have hfz46_3 := blk_frozen BK300.out 3; have hfz46_4 := blk_frozen BK300.out 4) | ((with_reducible refine gate_callee (f := 29) rfl ?_); refine goesL_ (some 48) rfl rfl Tryd.func29 (by kernel_rfl) rfl #[.int .i64 ((rd_T33 l0 x42_2).f2), .int .i64 0, .int .i64 40000] rfl (by (try simp only [List.map_toArray, List.map_cons, List.map_nil]); first | done | rfl | (simp only [List.length_drop, List.length_take]; rfl)) ?_; (with_reducible refine (plain_within.calls ((rd_T33 l0 x42_2).f2) 0 40000 true _ A38.out).mono ?_); rintro e w' ⟨rfl, ⟨nd, rfl⟩⟩; refine ⟨_, rfl, ?_⟩) | (go_at_call 29; (with_reducible refine (plain_within.calls ((rd_T33 l0 x42_2).f3) 0 20000 true _ A40.out).mono ?_); rintro e w' ⟨rfl, ⟨nd, rfl⟩⟩))
           go_roundg k2
           case measure => have := HJ4.out; have := HK2.out; omega
           case rel => exact ⟨(wrap64 (x42_2 + 1)), (x296000_2), (x296001_2), (x296002_2), (x296003_2), (x296004_2), (by first | rfl | (simp; done) | (simp [*]; done)), H', ⟨by have := HJ4.out; have := HK2.out; omega⟩, ⟨by (with_reducible repeat (first | refine blk_drewN ?_ _ | refine blk_drew ?_ | refine blk_alloc ?_ _)); refine blk_far ?_ NB293_300.out _; (with_reducible repeat (first | refine blk_drewN ?_ _ | refine blk_drew ?_ | refine blk_alloc ?_ _)); refine blk_far ?_ NB293_300.out _; (with_reducible repeat (first | refine blk_drewN ?_ _ | refine blk_drew ?_ | refine blk_alloc ?_ _)); refine blk_far ?_ NB293_300.out _; (with_reducible repeat (first | refine blk_drewN ?_ _ | refine blk_drew ?_ | refine blk_alloc ?_ _)); refine blk_far ?_ NB293_300.out _; (with_reducible repeat (first | refine blk_drewN ?_ _ | refine blk_drew ?_ | refine blk_alloc ?_ _)); refine blk_far ?_ NB293_300.out _; (with_reducible repeat (first | refine blk_drewN ?_ _ | refine blk_drew ?_ | refine blk_alloc ?_ _)); exact BK293.out⟩, ⟨by (with_reducible repeat (first | refine blk_drewN ?_ _ | refine blk_drew ?_ | refine blk_alloc ?_ _)); refine blk_far ?_ NB294_300.out _; (with_reducible repeat (first | refine blk_drewN ?_ _ | refine blk_drew ?_ | refine blk_alloc ?_ _)); refine blk_far ?_ NB294_300.out _; (with_reducible repeat (first | refine blk_drewN ?_ _ | refine blk_drew ?_ | refine blk_alloc ?_ _)); refine blk_far ?_ NB294_300.out _; (with_reducible repeat (first | refine blk_drewN ?_ _ | refine blk_drew ?_ | refine blk_alloc ?_ _)); refine blk_far ?_ NB294_300.out _; (with_reducible repeat (first | refine blk_drewN ?_ _ | refine blk_drew ?_ | refine blk_alloc ?_ _)); refine blk_far ?_ NB294_300.out _; (with_reducible repeat (first | refine blk_drewN ?_ _ | refine blk_drew ?_ | refine blk_alloc ?_ _)); exact BK294.out⟩, ⟨by (with_reducible repeat (first | refine blk_drewN ?_ _ | refine blk_drew ?_ | refine blk_alloc ?_ _)); refine blk_far ?_ NB295_300.out _; (with_reducible repeat (first | refine blk_drewN ?_ _ | refine blk_drew ?_ | refine blk_alloc ?_ _)); refine blk_far ?_ NB295_300.out _; (with_reducible repeat (first | refine blk_drewN ?_ _ | refine blk_drew ?_ | refine blk_alloc ?_ _)); refine blk_far ?_ NB295_300.out _; (with_reducible repeat (first | refine blk_drewN ?_ _ | refine blk_drew ?_ | refine blk_alloc ?_ _)); refine blk_far ?_ NB295_300.out _; (with_reducible repeat (first | refine blk_drewN ?_ _ | refine blk_drew ?_ | refine blk_alloc ?_ _)); refine blk_far ?_ NB295_300.out _; (with_reducible repeat (first | refine blk_drewN ?_ _ | refine blk_drew ?_ | refine blk_alloc ?_ _)); exact BK295.out⟩, ⟨by repeat (first | (with_reducible first | exact HB.out | apply below_alloc | apply pw_below_drewN | apply below_drew1 | refine below_set ?_ GE293.out | refine below_set ?_ GE294.out | refine below_set ?_ GE295.out | refine below_set ?_ GE300.out) | exact HB.out)⟩⟩
          ·replace c41 := Bool.eq_false_iff.mpr c41
           subst c41
           have H1 : (some (0, 0, 0, 0, (⟨#[]⟩ : ByteArray), 1)) = some (r1, r2, r3, r4, r5, r6) := by rw [if_neg (show ¬ (false = true) by decide)] at H; exact H
           clear H
           have H := H1
           clear H1
           simp only [Option.some.injEq, Prod.mk.injEq] at H
           obtain ⟨rfl, rfl, rfl, rfl, rfl, rfl⟩ := H
           have p299 : 0 ≤ (x42_2 : Int) := dt_
           have q299 : x42_2 < (l0.length : Int) := dt_
           obtain ⟨ad299, e299, hx299_0, hx299_1, hx299_2, hx299_3, hx299_4⟩ := at_T33 HR0.out x42_2 p299 q299
           cases e299
           replace hx299_0 := (HB.out.cell (World.block_lt_of_cell? w _ hx299_0)).trans hx299_0
           replace hx299_1 := (HB.out.cell (World.block_lt_of_cell? w _ hx299_1)).trans hx299_1
           replace hx299_2 := (HB.out.cell (World.block_lt_of_cell? w _ hx299_2)).trans hx299_2
           replace hx299_3 := (HB.out.cell (World.block_lt_of_cell? w _ hx299_3)).trans hx299_3
           replace hx299_4 := (HB.out.cell (World.block_lt_of_cell? w _ hx299_4)).trans hx299_4
           replace p299 := eq_true p299
           replace q299 := eq_true q299
           go_wp2_with (first | ((with_reducible refine gate_dst (N := 11) rfl ?_); refine box_event ?hg (N := 11) ?hd (cs := #[.int .i64 0, .int .i64 0, .int .i64 0, .int .i64 0, .string (⟨#[]⟩ : ByteArray)]) (t := 33) ?hr ?_; (case hd => rfl); (case hg => rfl); (case hr => first | (go_simp; done) | (go_simp; rfl)); intro gb300 hg w47 hbox hb; have n0_ := Aside0.mk (blk_below (g := gb293) (o := .cells #[.int .i64 a1_0, .int .i64 a1_1, .int .i64 a1_2] 29 (0, 0)) (bk_ BK293) hb); have n1_ := Aside0.mk (blk_below (g := gb294) (o := .cells #[.int .i64 a2_0, .int .i64 a2_1, .int .i64 a2_2, .int .i64 a2_3, .string a2_4] 33 (0, 0)) (bk_ BK294) hb); have n2_ := Aside0.mk (blk_below (g := gb295) (o := .cells #[.int .i64 x296000_2, .int .i64 x296001_2, .int .i64 x296002_2, .int .i64 x296003_2, .string x296004_2] 33 (0, 0)) (bk_ BK295) hb); have n3_ := Aside0.mk (below_step (hb3_ HB GE293 GE294 GE295) hb); have n4_ := Aside0.mk (hbox); have n5_ := Aside0.mk ((by rw [hg]; exact (below_size (hb3_ HB GE293 GE294 GE295)) : w.heap.size ≤ gb300)); have n6_ := Aside0.mk ((by rw [hg]; exact (below_size (hb3_ HB GE293 GE294 GE295)) : w.heap.size ≤ gb300)); have n7_ := Aside0.mk ((by rw [hg]; exact Nat.ne_of_lt (blk_lt (g := gb293) (o := .cells #[.int .i64 a1_0, .int .i64 a1_1, .int .i64 a1_2] 29 (0, 0)) (bk_ BK293)) : gb293 ≠ gb300)); have n8_ := Aside0.mk ((by rw [hg]; exact Nat.ne_of_gt (blk_lt (g := gb293) (o := .cells #[.int .i64 a1_0, .int .i64 a1_1, .int .i64 a1_2] 29 (0, 0)) (bk_ BK293)) : gb300 ≠ gb293)); have n9_ := Aside0.mk ((by rw [hg]; exact Nat.ne_of_lt (blk_lt (g := gb294) (o := .cells #[.int .i64 a2_0, .int .i64 a2_1, .int .i64 a2_2, .int .i64 a2_3, .string a2_4] 33 (0, 0)) (bk_ BK294)) : gb294 ≠ gb300)); have n10_ := Aside0.mk ((by rw [hg]; exact Nat.ne_of_gt (blk_lt (g := gb294) (o := .cells #[.int .i64 a2_0, .int .i64 a2_1, .int .i64 a2_2, .int .i64 a2_3, .string a2_4] 33 (0, 0)) (bk_ BK294)) : gb300 ≠ gb294)); have n11_ := Aside0.mk ((by rw [hg]; exact Nat.ne_of_lt (blk_lt (g := gb295) (o := .cells #[.int .i64 x296000_2, .int .i64 x296001_2, .int .i64 x296002_2, .int .i64 x296003_2, .string x296004_2] 33 (0, 0)) (bk_ BK295)) : gb295 ≠ gb300)); have n12_ := Aside0.mk ((by rw [hg]; exact Nat.ne_of_gt (blk_lt (g := gb295) (o := .cells #[.int .i64 x296000_2, .int .i64 x296001_2, .int .i64 x296002_2, .int .i64 x296003_2, .string x296004_2] 33 (0, 0)) (bk_ BK295)) : gb300 ≠ gb295)); clear BK293; clear BK294; clear BK295; clear HB; have BK293 := n0_; have BK294 := n1_; have BK295 := n2_; have HB := n3_; have BK300 := n4_; have GW300 := n5_; have GE300 := n6_; have NB293_300 := n7_; have NB300_293 := n8_; have NB294_300 := n9_; have NB300_294 := n10_; have NB295_300 := n11_; have NB300_295 := n12_; clear n0_ n1_ n2_ n3_ n4_ n5_ n6_ n7_ n8_ n9_ n10_ n11_ n12_; clear hb hbox hg; have hnb48 := NB300_293.out; have hnc48 := NB293_300.out; have hnb49 := NB300_294.out; have hnc49 := NB294_300.out; have hnb50 := NB300_295.out; have hnc50 := NB295_300.out; have hcz51_0 : w47.cell? ⟨gb300, 0, none⟩ = some (.int .i64 0) := (blk_cell BK300.out 0).trans rfl; have hcz51_1 : w47.cell? ⟨gb300, 1, none⟩ = some (.int .i64 0) := (blk_cell BK300.out 1).trans rfl; have hcz51_2 : w47.cell? ⟨gb300, 2, none⟩ = some (.int .i64 0) := (blk_cell BK300.out 2).trans rfl; have hcz51_3 : w47.cell? ⟨gb300, 3, none⟩ = some (.int .i64 0) := (blk_cell BK300.out 3).trans rfl; have hcz51_4 : w47.cell? ⟨gb300, 4, none⟩ = some (.string (⟨#[]⟩ : ByteArray)) := (blk_cell BK300.out 4).trans rfl; have hfz51_0 := blk_frozen BK300.out 0; have hfz51_1 := blk_frozen BK300.out 1; have hfz51_2 := blk_frozen BK300.out 2; have hfz51_3 := blk_frozen BK300.out 3; have hfz51_4 := blk_frozen BK300.out 4) | ((with_reducible refine gate_callee (f := 29) rfl ?_); refine goesL_ (some 48) rfl rfl Tryd.func29 (by kernel_rfl) rfl #[.int .i64 ((rd_T33 l0 x42_2).f2), .int .i64 0, .int .i64 40000] rfl (by (try simp only [List.map_toArray, List.map_cons, List.map_nil]); first | done | rfl | (simp only [List.length_drop, List.length_take]; rfl)) ?_; (with_reducible refine (plain_within.calls ((rd_T33 l0 x42_2).f2) 0 40000 true _ A38.out).mono ?_); rintro e w' ⟨rfl, ⟨nd, rfl⟩⟩; refine ⟨_, rfl, ?_⟩) | (go_at_call 29; (with_reducible refine (plain_within.calls ((rd_T33 l0 x42_2).f3) 0 20000 false _ A40.out).mono ?_); rintro e w' ⟨rfl, ⟨nd, rfl⟩⟩; have hnb52 := NB295_293.out; have hnc52 := NB293_295.out; have hnb53 := NB295_294.out; have hnc53 := NB294_295.out; have hcz54_0 : w47.cell? ⟨gb295, 0, none⟩ = some (.int .i64 x296000_2) := (blk_cell BK295.out 0).trans rfl; have hcz54_1 : w47.cell? ⟨gb295, 1, none⟩ = some (.int .i64 x296001_2) := (blk_cell BK295.out 1).trans rfl; have hcz54_2 : w47.cell? ⟨gb295, 2, none⟩ = some (.int .i64 x296002_2) := (blk_cell BK295.out 2).trans rfl; have hcz54_3 : w47.cell? ⟨gb295, 3, none⟩ = some (.int .i64 x296003_2) := (blk_cell BK295.out 3).trans rfl; have hcz54_4 : w47.cell? ⟨gb295, 4, none⟩ = some (.string x296004_2) := (blk_cell BK295.out 4).trans rfl; have hfz54_0 := blk_frozen BK295.out 0; have hfz54_1 := blk_frozen BK295.out 1; have hfz54_2 := blk_frozen BK295.out 2; have hfz54_3 := blk_frozen BK295.out 3; have hfz54_4 := blk_frozen BK295.out 4))
           refine bodyPost_ret (results_ct rfl _ _ gb295 33 #[.int .i64 0, .int .i64 0, .int .i64 0, .int .i64 0, .string (⟨#[]⟩ : ByteArray)] (0, 0) _ rfl (by (with_reducible repeat (first | refine blk_drewN ?_ _ | refine blk_drew ?_ | refine blk_alloc ?_ _)); refine blk_put (cs := #[.int .i64 0, .int .i64 0, .int .i64 0, .int .i64 0, .string x296004_2]) ?_ 4 _ rfl; (with_reducible repeat (first | refine blk_drewN ?_ _ | refine blk_drew ?_ | refine blk_alloc ?_ _)); refine blk_put (cs := #[.int .i64 0, .int .i64 0, .int .i64 0, .int .i64 x296003_2, .string x296004_2]) ?_ 3 _ rfl; (with_reducible repeat (first | refine blk_drewN ?_ _ | refine blk_drew ?_ | refine blk_alloc ?_ _)); refine blk_put (cs := #[.int .i64 0, .int .i64 0, .int .i64 x296002_2, .int .i64 x296003_2, .string x296004_2]) ?_ 2 _ rfl; (with_reducible repeat (first | refine blk_drewN ?_ _ | refine blk_drew ?_ | refine blk_alloc ?_ _)); refine blk_put (cs := #[.int .i64 0, .int .i64 x296001_2, .int .i64 x296002_2, .int .i64 x296003_2, .string x296004_2]) ?_ 1 _ rfl; (with_reducible repeat (first | refine blk_drewN ?_ _ | refine blk_drew ?_ | refine blk_alloc ?_ _)); refine blk_put (cs := #[.int .i64 x296000_2, .int .i64 x296001_2, .int .i64 x296002_2, .int .i64 x296003_2, .string x296004_2]) ?_ 0 _ rfl; (with_reducible repeat (first | refine blk_drewN ?_ _ | refine blk_drew ?_ | refine blk_alloc ?_ _)); refine blk_far ?_ NB295_300.out _; (with_reducible repeat (first | refine blk_drewN ?_ _ | refine blk_drew ?_ | refine blk_alloc ?_ _)); refine blk_far ?_ NB295_300.out _; (with_reducible repeat (first | refine blk_drewN ?_ _ | refine blk_drew ?_ | refine blk_alloc ?_ _)); refine blk_far ?_ NB295_300.out _; (with_reducible repeat (first | refine blk_drewN ?_ _ | refine blk_drew ?_ | refine blk_alloc ?_ _)); refine blk_far ?_ NB295_300.out _; (with_reducible repeat (first | refine blk_drewN ?_ _ | refine blk_drew ?_ | refine blk_alloc ?_ _)); refine blk_far ?_ NB295_300.out _; (with_reducible repeat (first | refine blk_drewN ?_ _ | refine blk_drew ?_ | refine blk_alloc ?_ _)); exact BK295.out) Tryd.underlying33 rfl (by kernel_rfl)) rfl ?_
           exact ⟨by first | rfl | (simp [errW_none, errW_some] <;> rfl) | (simp [*, errW_none, errW_some] <;> rfl), by repeat (first | (with_reducible first | exact HB.out | apply below_alloc | apply pw_below_drewN | apply below_drew1 | refine below_set ?_ GE293.out | refine below_set ?_ GE294.out | refine below_set ?_ GE295.out | refine below_set ?_ GE300.out) | exact HB.out)⟩
         ·replace c39 := Bool.eq_false_iff.mpr c39
          subst c39
          have H1 : (some (0, 0, 0, 0, (⟨#[]⟩ : ByteArray), 1)) = some (r1, r2, r3, r4, r5, r6) := by rw [if_neg (show ¬ (false = true) by decide)] at H; exact H
          clear H
          have H := H1
          clear H1
          simp only [Option.some.injEq, Prod.mk.injEq] at H
          obtain ⟨rfl, rfl, rfl, rfl, rfl, rfl⟩ := H
          have p299 : 0 ≤ (x42_2 : Int) := dt_
          have q299 : x42_2 < (l0.length : Int) := dt_
          obtain ⟨ad299, e299, hx299_0, hx299_1, hx299_2, hx299_3, hx299_4⟩ := at_T33 HR0.out x42_2 p299 q299
          cases e299
          replace hx299_0 := (HB.out.cell (World.block_lt_of_cell? w _ hx299_0)).trans hx299_0
          replace hx299_1 := (HB.out.cell (World.block_lt_of_cell? w _ hx299_1)).trans hx299_1
          replace hx299_2 := (HB.out.cell (World.block_lt_of_cell? w _ hx299_2)).trans hx299_2
          replace hx299_3 := (HB.out.cell (World.block_lt_of_cell? w _ hx299_3)).trans hx299_3
          replace hx299_4 := (HB.out.cell (World.block_lt_of_cell? w _ hx299_4)).trans hx299_4
          replace p299 := eq_true p299
          replace q299 := eq_true q299
          go_wp2_with (first | ((with_reducible refine gate_dst (N := 11) rfl ?_); refine box_event ?hg (N := 11) ?hd (cs := #[.int .i64 0, .int .i64 0, .int .i64 0, .int .i64 0, .string (⟨#[]⟩ : ByteArray)]) (t := 33) ?hr ?_; (case hd => rfl); (case hg => rfl); (case hr => first | (go_simp; done) | (go_simp; rfl)); intro gb300 hg w55 hbox hb; have n0_ := Aside0.mk (blk_below (g := gb293) (o := .cells #[.int .i64 a1_0, .int .i64 a1_1, .int .i64 a1_2] 29 (0, 0)) (bk_ BK293) hb); have n1_ := Aside0.mk (blk_below (g := gb294) (o := .cells #[.int .i64 a2_0, .int .i64 a2_1, .int .i64 a2_2, .int .i64 a2_3, .string a2_4] 33 (0, 0)) (bk_ BK294) hb); have n2_ := Aside0.mk (blk_below (g := gb295) (o := .cells #[.int .i64 x296000_2, .int .i64 x296001_2, .int .i64 x296002_2, .int .i64 x296003_2, .string x296004_2] 33 (0, 0)) (bk_ BK295) hb); have n3_ := Aside0.mk (below_step (hb3_ HB GE293 GE294 GE295) hb); have n4_ := Aside0.mk (hbox); have n5_ := Aside0.mk ((by rw [hg]; exact (below_size (hb3_ HB GE293 GE294 GE295)) : w.heap.size ≤ gb300)); have n6_ := Aside0.mk ((by rw [hg]; exact (below_size (hb3_ HB GE293 GE294 GE295)) : w.heap.size ≤ gb300)); have n7_ := Aside0.mk ((by rw [hg]; exact Nat.ne_of_lt (blk_lt (g := gb293) (o := .cells #[.int .i64 a1_0, .int .i64 a1_1, .int .i64 a1_2] 29 (0, 0)) (bk_ BK293)) : gb293 ≠ gb300)); have n8_ := Aside0.mk ((by rw [hg]; exact Nat.ne_of_gt (blk_lt (g := gb293) (o := .cells #[.int .i64 a1_0, .int .i64 a1_1, .int .i64 a1_2] 29 (0, 0)) (bk_ BK293)) : gb300 ≠ gb293)); have n9_ := Aside0.mk ((by rw [hg]; exact Nat.ne_of_lt (blk_lt (g := gb294) (o := .cells #[.int .i64 a2_0, .int .i64 a2_1, .int .i64 a2_2, .int .i64 a2_3, .string a2_4] 33 (0, 0)) (bk_ BK294)) : gb294 ≠ gb300)); have n10_ := Aside0.mk ((by rw [hg]; exact Nat.ne_of_gt (blk_lt (g := gb294) (o := .cells #[.int .i64 a2_0, .int .i64 a2_1, .int .i64 a2_2, .int .i64 a2_3, .string a2_4] 33 (0, 0)) (bk_ BK294)) : gb300 ≠ gb294)); have n11_ := Aside0.mk ((by rw [hg]; exact Nat.ne_of_lt (blk_lt (g := gb295) (o := .cells #[.int .i64 x296000_2, .int .i64 x296001_2, .int .i64 x296002_2, .int .i64 x296003_2, .string x296004_2] 33 (0, 0)) (bk_ BK295)) : gb295 ≠ gb300)); have n12_ := Aside0.mk ((by rw [hg]; exact Nat.ne_of_gt (blk_lt (g := gb295) (o := .cells #[.int .i64 x296000_2, .int .i64 x296001_2, .int .i64 x296002_2, .int .i64 x296003_2, .string x296004_2] 33 (0, 0)) (bk_ BK295)) : gb300 ≠ gb295)); clear BK293; clear BK294; clear BK295; clear HB; have BK293 := n0_; have BK294 := n1_; have BK295 := n2_; have HB := n3_; have BK300 := n4_; have GW300 := n5_; have GE300 := n6_; have NB293_300 := n7_; have NB300_293 := n8_; have NB294_300 := n9_; have NB300_294 := n10_; have NB295_300 := n11_; have NB300_295 := n12_; clear n0_ n1_ n2_ n3_ n4_ n5_ n6_ n7_ n8_ n9_ n10_ n11_ n12_; clear hb hbox hg; have hnb56 := NB300_293.out; have hnc56 := NB293_300.out; have hnb57 := NB300_294.out; have hnc57 := NB294_300.out; have hnb58 := NB300_295.out; have hnc58 := NB295_300.out; have hcz59_0 : w55.cell? ⟨gb300, 0, none⟩ = some (.int .i64 0) := (blk_cell BK300.out 0).trans rfl; have hcz59_1 : w55.cell? ⟨gb300, 1, none⟩ = some (.int .i64 0) := (blk_cell BK300.out 1).trans rfl; have hcz59_2 : w55.cell? ⟨gb300, 2, none⟩ = some (.int .i64 0) := (blk_cell BK300.out 2).trans rfl; have hcz59_3 : w55.cell? ⟨gb300, 3, none⟩ = some (.int .i64 0) := (blk_cell BK300.out 3).trans rfl; have hcz59_4 : w55.cell? ⟨gb300, 4, none⟩ = some (.string (⟨#[]⟩ : ByteArray)) := (blk_cell BK300.out 4).trans rfl; have hfz59_0 := blk_frozen BK300.out 0; have hfz59_1 := blk_frozen BK300.out 1; have hfz59_2 := blk_frozen BK300.out 2; have hfz59_3 := blk_frozen BK300.out 3; have hfz59_4 := blk_frozen BK300.out 4) | ((with_reducible refine gate_callee (f := 29) rfl ?_); refine goesL_ (some 48) rfl rfl Tryd.func29 (by kernel_rfl) rfl #[.int .i64 ((rd_T33 l0 x42_2).f2), .int .i64 0, .int .i64 40000] rfl (by (try simp only [List.map_toArray, List.map_cons, List.map_nil]); first | done | rfl | (simp only [List.length_drop, List.length_take]; rfl)) ?_; (with_reducible refine (plain_within.calls ((rd_T33 l0 x42_2).f2) 0 40000 false _ A38.out).mono ?_); rintro e w' ⟨rfl, ⟨nd, rfl⟩⟩; refine ⟨_, rfl, ?_⟩; have hnb60 := NB295_293.out; have hnc60 := NB293_295.out; have hnb61 := NB295_294.out; have hnc61 := NB294_295.out; have hcz62_0 : w55.cell? ⟨gb295, 0, none⟩ = some (.int .i64 x296000_2) := (blk_cell BK295.out 0).trans rfl; have hcz62_1 : w55.cell? ⟨gb295, 1, none⟩ = some (.int .i64 x296001_2) := (blk_cell BK295.out 1).trans rfl; have hcz62_2 : w55.cell? ⟨gb295, 2, none⟩ = some (.int .i64 x296002_2) := (blk_cell BK295.out 2).trans rfl; have hcz62_3 : w55.cell? ⟨gb295, 3, none⟩ = some (.int .i64 x296003_2) := (blk_cell BK295.out 3).trans rfl; have hcz62_4 : w55.cell? ⟨gb295, 4, none⟩ = some (.string x296004_2) := (blk_cell BK295.out 4).trans rfl; have hfz62_0 := blk_frozen BK295.out 0; have hfz62_1 := blk_frozen BK295.out 1; have hfz62_2 := blk_frozen BK295.out 2; have hfz62_3 := blk_frozen BK295.out 3; have hfz62_4 := blk_frozen BK295.out 4))
          refine bodyPost_ret (results_ct rfl _ _ gb295 33 #[.int .i64 0, .int .i64 0, .int .i64 0, .int .i64 0, .string (⟨#[]⟩ : ByteArray)] (0, 0) _ rfl (by (with_reducible repeat (first | refine blk_drewN ?_ _ | refine blk_drew ?_ | refine blk_alloc ?_ _)); refine blk_put (cs := #[.int .i64 0, .int .i64 0, .int .i64 0, .int .i64 0, .string x296004_2]) ?_ 4 _ rfl; (with_reducible repeat (first | refine blk_drewN ?_ _ | refine blk_drew ?_ | refine blk_alloc ?_ _)); refine blk_put (cs := #[.int .i64 0, .int .i64 0, .int .i64 0, .int .i64 x296003_2, .string x296004_2]) ?_ 3 _ rfl; (with_reducible repeat (first | refine blk_drewN ?_ _ | refine blk_drew ?_ | refine blk_alloc ?_ _)); refine blk_put (cs := #[.int .i64 0, .int .i64 0, .int .i64 x296002_2, .int .i64 x296003_2, .string x296004_2]) ?_ 2 _ rfl; (with_reducible repeat (first | refine blk_drewN ?_ _ | refine blk_drew ?_ | refine blk_alloc ?_ _)); refine blk_put (cs := #[.int .i64 0, .int .i64 x296001_2, .int .i64 x296002_2, .int .i64 x296003_2, .string x296004_2]) ?_ 1 _ rfl; (with_reducible repeat (first | refine blk_drewN ?_ _ | refine blk_drew ?_ | refine blk_alloc ?_ _)); refine blk_put (cs := #[.int .i64 x296000_2, .int .i64 x296001_2, .int .i64 x296002_2, .int .i64 x296003_2, .string x296004_2]) ?_ 0 _ rfl; (with_reducible repeat (first | refine blk_drewN ?_ _ | refine blk_drew ?_ | refine blk_alloc ?_ _)); refine blk_far ?_ NB295_300.out _; (with_reducible repeat (first | refine blk_drewN ?_ _ | refine blk_drew ?_ | refine blk_alloc ?_ _)); refine blk_far ?_ NB295_300.out _; (with_reducible repeat (first | refine blk_drewN ?_ _ | refine blk_drew ?_ | refine blk_alloc ?_ _)); refine blk_far ?_ NB295_300.out _; (with_reducible repeat (first | refine blk_drewN ?_ _ | refine blk_drew ?_ | refine blk_alloc ?_ _)); refine blk_far ?_ NB295_300.out _; (with_reducible repeat (first | refine blk_drewN ?_ _ | refine blk_drew ?_ | refine blk_alloc ?_ _)); refine blk_far ?_ NB295_300.out _; (with_reducible repeat (first | refine blk_drewN ?_ _ | refine blk_drew ?_ | refine blk_alloc ?_ _)); exact BK295.out) Tryd.underlying33 rfl (by kernel_rfl)) rfl ?_
          exact ⟨by first | rfl | (simp [errW_none, errW_some] <;> rfl) | (simp [*, errW_none, errW_some] <;> rfl), by repeat (first | (with_reducible first | exact HB.out | apply below_alloc | apply pw_below_drewN | apply below_drew1 | refine below_set ?_ GE293.out | refine below_set ?_ GE294.out | refine below_set ?_ GE295.out | refine below_set ?_ GE300.out) | exact HB.out)⟩
        ·rw [if_neg c37] at H
         exact absurd H (by simp)
       ·rw [if_neg c36] at H
        exact absurd H (by simp)
      ·rw [if_neg c35] at H
       have c35b0 : decide (x42_2 < (l0.length : Int)) = false := decide_eq_false c35
       clear c35
       replace H := Option.bind_eq_some_iff.mp H
       obtain ⟨⟨t303, t304, t305, t306, t307⟩, A630, H⟩ := H
       replace H : (if (l0.length : Int) = 0 then (if a2_0 = 1 then (plain_Excl.j2 k2 l0 a3 a1_0 a1_1 a1_2 a2_0 a2_1 a2_2 a2_3 a2_4 2 t304 t305 t306 t307) else (plain_Excl.j2 k2 l0 a3 a1_0 a1_1 a1_2 a2_0 a2_1 a2_2 a2_3 a2_4 1 t304 t305 t306 t307)) else (plain_Excl.j2 k2 l0 a3 a1_0 a1_1 a1_2 a2_0 a2_1 a2_2 a2_3 a2_4 t303 t304 t305 t306 t307)) = some (r1, r2, r3, r4, r5, r6) := H
       have A63 := Aside0.mk A630
       clear A630
       have HC64 := Aside0.mk H
       clear H
       have hnb65 := NB293_294.out
       have hnc65 := NB294_293.out
       have hnb66 := NB293_295.out
       have hnc66 := NB295_293.out
       have hcz67_0 : wr.cell? ⟨gb293, 0, none⟩ = some (.int .i64 a1_0) := (blk_cell BK293.out 0).trans rfl
       have hcz67_1 : wr.cell? ⟨gb293, 1, none⟩ = some (.int .i64 a1_1) := (blk_cell BK293.out 1).trans rfl
       have hcz67_2 : wr.cell? ⟨gb293, 2, none⟩ = some (.int .i64 a1_2) := (blk_cell BK293.out 2).trans rfl
       have hfz67_0 := blk_frozen BK293.out 0
       have hfz67_1 := blk_frozen BK293.out 1
       have hfz67_2 := blk_frozen BK293.out 2
       have hnb68 := NB294_295.out
       have hnc68 := NB295_294.out
       have hcz69_0 : wr.cell? ⟨gb294, 0, none⟩ = some (.int .i64 a2_0) := (blk_cell BK294.out 0).trans rfl
       have hcz69_1 : wr.cell? ⟨gb294, 1, none⟩ = some (.int .i64 a2_1) := (blk_cell BK294.out 1).trans rfl
       have hcz69_2 : wr.cell? ⟨gb294, 2, none⟩ = some (.int .i64 a2_2) := (blk_cell BK294.out 2).trans rfl
       have hcz69_3 : wr.cell? ⟨gb294, 3, none⟩ = some (.int .i64 a2_3) := (blk_cell BK294.out 3).trans rfl
       have hcz69_4 : wr.cell? ⟨gb294, 4, none⟩ = some (.string a2_4) := (blk_cell BK294.out 4).trans rfl
       have hfz69_0 := blk_frozen BK294.out 0
       have hfz69_1 := blk_frozen BK294.out 1
       have hfz69_2 := blk_frozen BK294.out 2
       have hfz69_3 := blk_frozen BK294.out 3
       have hfz69_4 := blk_frozen BK294.out 4
       go_upto_if 64 with (first | ((with_reducible refine gate_callee (f := 30) rfl ?_); refine goesL_ (some 61) rfl rfl Tryd.func30 (by kernel_rfl) rfl #[.slice A0 l0.length c0, .agg #[.int .i64 a1_0, .int .i64 a1_1, .int .i64 a1_2], .agg #[.int .i64 a2_0, .int .i64 a2_1, .int .i64 a2_2, .int .i64 a2_3, .string a2_4]] rfl (by (try simp only [List.map_toArray, List.map_cons, List.map_nil]); first | done | rfl | (simp only [List.length_drop, List.length_take]; rfl)) ?_; (with_reducible refine (plain_back.calls _ _ l0 a1_0 a1_1 a1_2 a2_0 a2_1 a2_2 a2_3 a2_4 t303 t304 t305 t306 t307 _ ?side3 ?side1 ?side2 A63.out).mono ?_); (case side1 => repeat (first | exact (Kd.C_below HR0.out HB.out) | (with_reducible refine Kd.C_alloc ?_ _) | (with_reducible refine Kd.C_drewN ?_ _) | (with_reducible refine Kd.C_drew ?_))); (case side2 => exact HC0.out); (case side3 => exact XAmb_step hT (hb3_ HB GE293 GE294 GE295)); rintro e w70 ⟨rfl, hb⟩; refine ⟨_, rfl, ?_⟩; have n0_ := Aside0.mk (blk_below (g := gb293) (o := .cells #[.int .i64 a1_0, .int .i64 a1_1, .int .i64 a1_2] 29 (0, 0)) (bk_ BK293) hb); have n1_ := Aside0.mk (blk_below (g := gb294) (o := .cells #[.int .i64 a2_0, .int .i64 a2_1, .int .i64 a2_2, .int .i64 a2_3, .string a2_4] 33 (0, 0)) (bk_ BK294) hb); have n2_ := Aside0.mk (blk_below (g := gb295) (o := .cells #[.int .i64 x296000_2, .int .i64 x296001_2, .int .i64 x296002_2, .int .i64 x296003_2, .string x296004_2] 33 (0, 0)) (bk_ BK295) hb); have n3_ := Aside0.mk (below_step (hb3_ HB GE293 GE294 GE295) hb); clear BK293; clear BK294; clear BK295; clear HB; have BK293 := n0_; have BK294 := n1_; have BK295 := n2_; have HB := n3_; clear n0_ n1_ n2_ n3_; (try clear hb); (try clear hb2); (try clear hk); (try clear hi)) | ((with_reducible refine gate_dst (N := 12) rfl ?_); refine box_event ?hg (N := 12) ?hd (cs := #[.int .i64 0, .int .i64 0, .int .i64 0, .int .i64 0, .string (⟨#[]⟩ : ByteArray)]) (t := 33) ?hr ?_; (case hd => rfl); (case hg => rfl); (case hr => first | (go_simp; done) | (go_simp; rfl)); intro gb308 hg w71 hbox hb; have n0_ := Aside0.mk (blk_below (g := gb293) (o := .cells #[.int .i64 a1_0, .int .i64 a1_1, .int .i64 a1_2] 29 (0, 0)) (bk_ BK293) hb); have n1_ := Aside0.mk (blk_below (g := gb294) (o := .cells #[.int .i64 a2_0, .int .i64 a2_1, .int .i64 a2_2, .int .i64 a2_3, .string a2_4] 33 (0, 0)) (bk_ BK294) hb); have n2_ := Aside0.mk (blk_below (g := gb295) (o := .cells #[.int .i64 x296000_2, .int .i64 x296001_2, .int .i64 x296002_2, .int .i64 x296003_2, .string x296004_2] 33 (0, 0)) (bk_ BK295) hb); have n3_ := Aside0.mk (below_step (hb3_ HB GE293 GE294 GE295) hb); have n4_ := Aside0.mk (hbox); have n5_ := Aside0.mk ((by rw [hg]; exact (below_size (hb3_ HB GE293 GE294 GE295)) : w.heap.size ≤ gb308)); have n6_ := Aside0.mk ((by rw [hg]; exact (below_size (hb3_ HB GE293 GE294 GE295)) : w.heap.size ≤ gb308)); have n7_ := Aside0.mk ((by rw [hg]; exact Nat.ne_of_lt (blk_lt (g := gb293) (o := .cells #[.int .i64 a1_0, .int .i64 a1_1, .int .i64 a1_2] 29 (0, 0)) (bk_ BK293)) : gb293 ≠ gb308)); have n8_ := Aside0.mk ((by rw [hg]; exact Nat.ne_of_gt (blk_lt (g := gb293) (o := .cells #[.int .i64 a1_0, .int .i64 a1_1, .int .i64 a1_2] 29 (0, 0)) (bk_ BK293)) : gb308 ≠ gb293)); have n9_ := Aside0.mk ((by rw [hg]; exact Nat.ne_of_lt (blk_lt (g := gb294) (o := .cells #[.int .i64 a2_0, .int .i64 a2_1, .int .i64 a2_2, .int .i64 a2_3, .string a2_4] 33 (0, 0)) (bk_ BK294)) : gb294 ≠ gb308)); have n10_ := Aside0.mk ((by rw [hg]; exact Nat.ne_of_gt (blk_lt (g := gb294) (o := .cells #[.int .i64 a2_0, .int .i64 a2_1, .int .i64 a2_2, .int .i64 a2_3, .string a2_4] 33 (0, 0)) (bk_ BK294)) : gb308 ≠ gb294)); have n11_ := Aside0.mk ((by rw [hg]; exact Nat.ne_of_lt (blk_lt (g := gb295) (o := .cells #[.int .i64 x296000_2, .int .i64 x296001_2, .int .i64 x296002_2, .int .i64 x296003_2, .string x296004_2] 33 (0, 0)) (bk_ BK295)) : gb295 ≠ gb308)); have n12_ := Aside0.mk ((by rw [hg]; exact Nat.ne_of_gt (blk_lt (g := gb295) (o := .cells #[.int .i64 x296000_2, .int .i64 x296001_2, .int .i64 x296002_2, .int .i64 x296003_2, .string x296004_2] 33 (0, 0)) (bk_ BK295)) : gb308 ≠ gb295)); clear BK293; clear BK294; clear BK295; clear HB; have BK293 := n0_; have BK294 := n1_; have BK295 := n2_; have HB := n3_; have BK308 := n4_; have GW308 := n5_; have GE308 := n6_; have NB293_308 := n7_; have NB308_293 := n8_; have NB294_308 := n9_; have NB308_294 := n10_; have NB295_308 := n11_; have NB308_295 := n12_; clear n0_ n1_ n2_ n3_ n4_ n5_ n6_ n7_ n8_ n9_ n10_ n11_ n12_; clear hb hbox hg; have hnb72 := NB308_293.out; have hnc72 := NB293_308.out; have hnb73 := NB308_294.out; have hnc73 := NB294_308.out; have hnb74 := NB308_295.out; have hnc74 := NB295_308.out; have hcz75_0 : w71.cell? ⟨gb308, 0, none⟩ = some (.int .i64 0) := (blk_cell BK308.out 0).trans rfl; have hcz75_1 : w71.cell? ⟨gb308, 1, none⟩ = some (.int .i64 0) := (blk_cell BK308.out 1).trans rfl; have hcz75_2 : w71.cell? ⟨gb308, 2, none⟩ = some (.int .i64 0) := (blk_cell BK308.out 2).trans rfl; have hcz75_3 : w71.cell? ⟨gb308, 3, none⟩ = some (.int .i64 0) := (blk_cell BK308.out 3).trans rfl; have hcz75_4 : w71.cell? ⟨gb308, 4, none⟩ = some (.string (⟨#[]⟩ : ByteArray)) := (blk_cell BK308.out 4).trans rfl; have hfz75_0 := blk_frozen BK308.out 0; have hfz75_1 := blk_frozen BK308.out 1; have hfz75_2 := blk_frozen BK308.out 2; have hfz75_3 := blk_frozen BK308.out 3; have hfz75_4 := blk_frozen BK308.out 4))
       (try simp only [Act.put, List.setIfInBounds_toArray, List.set_cons_zero, List.set_cons_succ])
       go_cut [] (fun wc => ∃ (kq : Nat) (x309000_63 : Int), Aside0 (plain_Excl.j2 kq l0 a3 a1_0 a1_1 a1_2 a2_0 a2_1 a2_2 a2_3 a2_4 x309000_63 t304 t305 t306 t307 = some (r1, r2, r3, r4, r5, r6)) ∧ Aside0 (kq ≤ k2) ∧ Aside0 (wc.heap[gb293]? = some (.cells #[.int .i64 a1_0, .int .i64 a1_1, .int .i64 a1_2] 29 (0, 0))) ∧ Aside0 (wc.heap[gb294]? = some (.cells #[.int .i64 a2_0, .int .i64 a2_1, .int .i64 a2_2, .int .i64 a2_3, .string a2_4] 33 (0, 0))) ∧ Aside0 (wc.heap[gb295]? = some (.cells #[.int .i64 x296000_2, .int .i64 x296001_2, .int .i64 x296002_2, .int .i64 x296003_2, .string x296004_2] 33 (0, 0))) ∧ Aside0 (wc.heap[gb308]? = some (.cells #[.int .i64 x309000_63, .int .i64 t304, .int .i64 t305, .int .i64 t306, .string t307] 33 (0, 0))) ∧ Aside0 (Below w.heap.size w wc))
       case first =>
        have H := HC64.out
        clear HC64
        by_cases c76 : (l0.length : Int) = 0
        ·rw [if_pos c76] at H
         have c76b0 : ((l0.length : Int) == 0) = true := beq_iff_eq.mpr c76
         have c76b1 : ((l0.length : Int) != 0) = false := bne_eq_false_iff_eq.mpr c76
         clear c76
         (first | rw [c76b0] | (simp only [i64_w, i32_w]; rw [c76b0]) | skip)
         by_cases c77 : a2_0 = 1
         ·rw [if_pos c77] at H
          have c77b0 : (a2_0 == 1) = true := beq_iff_eq.mpr c77
          have c77b1 : (a2_0 != 1) = false := bne_eq_false_iff_eq.mpr c77
          clear c77
          have H' := Aside0.mk H
          clear H
          have hnb78 := NB308_293.out
          have hnc78 := NB293_308.out
          have hnb79 := NB308_294.out
          have hnc79 := NB294_308.out
          have hnb80 := NB308_295.out
          have hnc80 := NB295_308.out
          have hcz81_0 : w71.cell? ⟨gb308, 0, none⟩ = some (.int .i64 0) := (blk_cell BK308.out 0).trans rfl
          have hcz81_1 : w71.cell? ⟨gb308, 1, none⟩ = some (.int .i64 0) := (blk_cell BK308.out 1).trans rfl
          have hcz81_2 : w71.cell? ⟨gb308, 2, none⟩ = some (.int .i64 0) := (blk_cell BK308.out 2).trans rfl
          have hcz81_3 : w71.cell? ⟨gb308, 3, none⟩ = some (.int .i64 0) := (blk_cell BK308.out 3).trans rfl
          have hcz81_4 : w71.cell? ⟨gb308, 4, none⟩ = some (.string (⟨#[]⟩ : ByteArray)) := (blk_cell BK308.out 4).trans rfl
          have hfz81_0 := blk_frozen BK308.out 0
          have hfz81_1 := blk_frozen BK308.out 1
          have hfz81_2 := blk_frozen BK308.out 2
          have hfz81_3 := blk_frozen BK308.out 3
          have hfz81_4 := blk_frozen BK308.out 4
          have hnb82 := NB294_293.out
          have hnc82 := NB293_294.out
          have hnb83 := NB294_295.out
          have hnc83 := NB295_294.out
          have hcz84_0 : w71.cell? ⟨gb294, 0, none⟩ = some (.int .i64 a2_0) := (blk_cell BK294.out 0).trans rfl
          have hcz84_1 : w71.cell? ⟨gb294, 1, none⟩ = some (.int .i64 a2_1) := (blk_cell BK294.out 1).trans rfl
          have hcz84_2 : w71.cell? ⟨gb294, 2, none⟩ = some (.int .i64 a2_2) := (blk_cell BK294.out 2).trans rfl
          have hcz84_3 : w71.cell? ⟨gb294, 3, none⟩ = some (.int .i64 a2_3) := (blk_cell BK294.out 3).trans rfl
          have hcz84_4 : w71.cell? ⟨gb294, 4, none⟩ = some (.string a2_4) := (blk_cell BK294.out 4).trans rfl
          have hfz84_0 := blk_frozen BK294.out 0
          have hfz84_1 := blk_frozen BK294.out 1
          have hfz84_2 := blk_frozen BK294.out 2
          have hfz84_3 := blk_frozen BK294.out 3
          have hfz84_4 := blk_frozen BK294.out 4
          go_wp2
          go_meet
          case rel => exact ⟨_, (2), H', ⟨by have := HJ4.out; have := HK2.out; first | omega | exact Nat.le_refl _⟩, ⟨by (with_reducible repeat (first | refine blk_drewN ?_ _ | refine blk_drew ?_ | refine blk_alloc ?_ _)); refine blk_far ?_ NB293_308.out _; (with_reducible repeat (first | refine blk_drewN ?_ _ | refine blk_drew ?_ | refine blk_alloc ?_ _)); refine blk_far ?_ NB293_308.out _; (with_reducible repeat (first | refine blk_drewN ?_ _ | refine blk_drew ?_ | refine blk_alloc ?_ _)); refine blk_far ?_ NB293_308.out _; (with_reducible repeat (first | refine blk_drewN ?_ _ | refine blk_drew ?_ | refine blk_alloc ?_ _)); refine blk_far ?_ NB293_308.out _; (with_reducible repeat (first | refine blk_drewN ?_ _ | refine blk_drew ?_ | refine blk_alloc ?_ _)); refine blk_far ?_ NB293_308.out _; (with_reducible repeat (first | refine blk_drewN ?_ _ | refine blk_drew ?_ | refine blk_alloc ?_ _)); refine blk_far ?_ NB293_308.out _; (with_reducible repeat (first | refine blk_drewN ?_ _ | refine blk_drew ?_ | refine blk_alloc ?_ _)); refine blk_far ?_ NB293_308.out _; (with_reducible repeat (first | refine blk_drewN ?_ _ | refine blk_drew ?_ | refine blk_alloc ?_ _)); exact BK293.out⟩, ⟨by (with_reducible repeat (first | refine blk_drewN ?_ _ | refine blk_drew ?_ | refine blk_alloc ?_ _)); refine blk_far ?_ NB294_308.out _; (with_reducible repeat (first | refine blk_drewN ?_ _ | refine blk_drew ?_ | refine blk_alloc ?_ _)); refine blk_far ?_ NB294_308.out _; (with_reducible repeat (first | refine blk_drewN ?_ _ | refine blk_drew ?_ | refine blk_alloc ?_ _)); refine blk_far ?_ NB294_308.out _; (with_reducible repeat (first | refine blk_drewN ?_ _ | refine blk_drew ?_ | refine blk_alloc ?_ _)); refine blk_far ?_ NB294_308.out _; (with_reducible repeat (first | refine blk_drewN ?_ _ | refine blk_drew ?_ | refine blk_alloc ?_ _)); refine blk_far ?_ NB294_308.out _; (with_reducible repeat (first | refine blk_drewN ?_ _ | refine blk_drew ?_ | refine blk_alloc ?_ _)); refine blk_far ?_ NB294_308.out _; (with_reducible repeat (first | refine blk_drewN ?_ _ | refine blk_drew ?_ | refine blk_alloc ?_ _)); refine blk_far ?_ NB294_308.out _; (with_reducible repeat (first | refine blk_drewN ?_ _ | refine blk_drew ?_ | refine blk_alloc ?_ _)); exact BK294.out⟩, ⟨by (with_reducible repeat (first | refine blk_drewN ?_ _ | refine blk_drew ?_ | refine blk_alloc ?_ _)); refine blk_far ?_ NB295_308.out _; (with_reducible repeat (first | refine blk_drewN ?_ _ | refine blk_drew ?_ | refine blk_alloc ?_ _)); refine blk_far ?_ NB295_308.out _; (with_reducible repeat (first | refine blk_drewN ?_ _ | refine blk_drew ?_ | refine blk_alloc ?_ _)); refine blk_far ?_ NB295_308.out _; (with_reducible repeat (first | refine blk_drewN ?_ _ | refine blk_drew ?_ | refine blk_alloc ?_ _)); refine blk_far ?_ NB295_308.out _; (with_reducible repeat (first | refine blk_drewN ?_ _ | refine blk_drew ?_ | refine blk_alloc ?_ _)); refine blk_far ?_ NB295_308.out _; (with_reducible repeat (first | refine blk_drewN ?_ _ | refine blk_drew ?_ | refine blk_alloc ?_ _)); refine blk_far ?_ NB295_308.out _; (with_reducible repeat (first | refine blk_drewN ?_ _ | refine blk_drew ?_ | refine blk_alloc ?_ _)); refine blk_far ?_ NB295_308.out _; (with_reducible repeat (first | refine blk_drewN ?_ _ | refine blk_drew ?_ | refine blk_alloc ?_ _)); exact BK295.out⟩, ⟨by (with_reducible repeat (first | refine blk_drewN ?_ _ | refine blk_drew ?_ | refine blk_alloc ?_ _)); refine blk_put (cs := #[.int .i64 1, .int .i64 t304, .int .i64 t305, .int .i64 t306, .string t307]) ?_ 0 _ rfl; (with_reducible repeat (first | refine blk_drewN ?_ _ | refine blk_drew ?_ | refine blk_alloc ?_ _)); refine blk_put (cs := #[.int .i64 t303, .int .i64 t304, .int .i64 t305, .int .i64 t306, .string t307]) ?_ 0 _ rfl; (with_reducible repeat (first | refine blk_drewN ?_ _ | refine blk_drew ?_ | refine blk_alloc ?_ _)); refine blk_put (cs := #[.int .i64 t303, .int .i64 t304, .int .i64 t305, .int .i64 t306, .string (⟨#[]⟩ : ByteArray)]) ?_ 4 _ rfl; (with_reducible repeat (first | refine blk_drewN ?_ _ | refine blk_drew ?_ | refine blk_alloc ?_ _)); refine blk_put (cs := #[.int .i64 t303, .int .i64 t304, .int .i64 t305, .int .i64 0, .string (⟨#[]⟩ : ByteArray)]) ?_ 3 _ rfl; (with_reducible repeat (first | refine blk_drewN ?_ _ | refine blk_drew ?_ | refine blk_alloc ?_ _)); refine blk_put (cs := #[.int .i64 t303, .int .i64 t304, .int .i64 0, .int .i64 0, .string (⟨#[]⟩ : ByteArray)]) ?_ 2 _ rfl; (with_reducible repeat (first | refine blk_drewN ?_ _ | refine blk_drew ?_ | refine blk_alloc ?_ _)); refine blk_put (cs := #[.int .i64 t303, .int .i64 0, .int .i64 0, .int .i64 0, .string (⟨#[]⟩ : ByteArray)]) ?_ 1 _ rfl; (with_reducible repeat (first | refine blk_drewN ?_ _ | refine blk_drew ?_ | refine blk_alloc ?_ _)); refine blk_put (cs := #[.int .i64 0, .int .i64 0, .int .i64 0, .int .i64 0, .string (⟨#[]⟩ : ByteArray)]) ?_ 0 _ rfl; (with_reducible repeat (first | refine blk_drewN ?_ _ | refine blk_drew ?_ | refine blk_alloc ?_ _)); exact BK308.out⟩, ⟨by repeat (first | (with_reducible first | exact HB.out | apply below_alloc | apply pw_below_drewN | apply below_drew1 | refine below_set ?_ GE293.out | refine below_set ?_ GE294.out | refine below_set ?_ GE295.out | refine below_set ?_ GE308.out) | exact HB.out)⟩⟩
         ·rw [if_neg c77] at H
          have c77b0 : (a2_0 == 1) = false := beq_eq_false_iff_ne.mpr c77
          have c77b1 : (a2_0 != 1) = true := bne_iff_ne.mpr c77
          have H' := Aside0.mk H
          clear H
          have hnb85 := NB308_293.out
          have hnc85 := NB293_308.out
          have hnb86 := NB308_294.out
          have hnc86 := NB294_308.out
          have hnb87 := NB308_295.out
          have hnc87 := NB295_308.out
          have hcz88_0 : w71.cell? ⟨gb308, 0, none⟩ = some (.int .i64 0) := (blk_cell BK308.out 0).trans rfl
          have hcz88_1 : w71.cell? ⟨gb308, 1, none⟩ = some (.int .i64 0) := (blk_cell BK308.out 1).trans rfl
          have hcz88_2 : w71.cell? ⟨gb308, 2, none⟩ = some (.int .i64 0) := (blk_cell BK308.out 2).trans rfl
          have hcz88_3 : w71.cell? ⟨gb308, 3, none⟩ = some (.int .i64 0) := (blk_cell BK308.out 3).trans rfl
          have hcz88_4 : w71.cell? ⟨gb308, 4, none⟩ = some (.string (⟨#[]⟩ : ByteArray)) := (blk_cell BK308.out 4).trans rfl
          have hfz88_0 := blk_frozen BK308.out 0
          have hfz88_1 := blk_frozen BK308.out 1
          have hfz88_2 := blk_frozen BK308.out 2
          have hfz88_3 := blk_frozen BK308.out 3
          have hfz88_4 := blk_frozen BK308.out 4
          have hnb89 := NB294_293.out
          have hnc89 := NB293_294.out
          have hnb90 := NB294_295.out
          have hnc90 := NB295_294.out
          have hcz91_0 : w71.cell? ⟨gb294, 0, none⟩ = some (.int .i64 a2_0) := (blk_cell BK294.out 0).trans rfl
          have hcz91_1 : w71.cell? ⟨gb294, 1, none⟩ = some (.int .i64 a2_1) := (blk_cell BK294.out 1).trans rfl
          have hcz91_2 : w71.cell? ⟨gb294, 2, none⟩ = some (.int .i64 a2_2) := (blk_cell BK294.out 2).trans rfl
          have hcz91_3 : w71.cell? ⟨gb294, 3, none⟩ = some (.int .i64 a2_3) := (blk_cell BK294.out 3).trans rfl
          have hcz91_4 : w71.cell? ⟨gb294, 4, none⟩ = some (.string a2_4) := (blk_cell BK294.out 4).trans rfl
          have hfz91_0 := blk_frozen BK294.out 0
          have hfz91_1 := blk_frozen BK294.out 1
          have hfz91_2 := blk_frozen BK294.out 2
          have hfz91_3 := blk_frozen BK294.out 3
          have hfz91_4 := blk_frozen BK294.out 4
          go_wp2
          go_meet
          case rel => exact ⟨_, (1), H', ⟨by have := HJ4.out; have := HK2.out; first | omega | exact Nat.le_refl _⟩, ⟨by (with_reducible repeat (first | refine blk_drewN ?_ _ | refine blk_drew ?_ | refine blk_alloc ?_ _)); refine blk_far ?_ NB293_308.out _; (with_reducible repeat (first | refine blk_drewN ?_ _ | refine blk_drew ?_ | refine blk_alloc ?_ _)); refine blk_far ?_ NB293_308.out _; (with_reducible repeat (first | refine blk_drewN ?_ _ | refine blk_drew ?_ | refine blk_alloc ?_ _)); refine blk_far ?_ NB293_308.out _; (with_reducible repeat (first | refine blk_drewN ?_ _ | refine blk_drew ?_ | refine blk_alloc ?_ _)); refine blk_far ?_ NB293_308.out _; (with_reducible repeat (first | refine blk_drewN ?_ _ | refine blk_drew ?_ | refine blk_alloc ?_ _)); refine blk_far ?_ NB293_308.out _; (with_reducible repeat (first | refine blk_drewN ?_ _ | refine blk_drew ?_ | refine blk_alloc ?_ _)); refine blk_far ?_ NB293_308.out _; (with_reducible repeat (first | refine blk_drewN ?_ _ | refine blk_drew ?_ | refine blk_alloc ?_ _)); exact BK293.out⟩, ⟨by (with_reducible repeat (first | refine blk_drewN ?_ _ | refine blk_drew ?_ | refine blk_alloc ?_ _)); refine blk_far ?_ NB294_308.out _; (with_reducible repeat (first | refine blk_drewN ?_ _ | refine blk_drew ?_ | refine blk_alloc ?_ _)); refine blk_far ?_ NB294_308.out _; (with_reducible repeat (first | refine blk_drewN ?_ _ | refine blk_drew ?_ | refine blk_alloc ?_ _)); refine blk_far ?_ NB294_308.out _; (with_reducible repeat (first | refine blk_drewN ?_ _ | refine blk_drew ?_ | refine blk_alloc ?_ _)); refine blk_far ?_ NB294_308.out _; (with_reducible repeat (first | refine blk_drewN ?_ _ | refine blk_drew ?_ | refine blk_alloc ?_ _)); refine blk_far ?_ NB294_308.out _; (with_reducible repeat (first | refine blk_drewN ?_ _ | refine blk_drew ?_ | refine blk_alloc ?_ _)); refine blk_far ?_ NB294_308.out _; (with_reducible repeat (first | refine blk_drewN ?_ _ | refine blk_drew ?_ | refine blk_alloc ?_ _)); exact BK294.out⟩, ⟨by (with_reducible repeat (first | refine blk_drewN ?_ _ | refine blk_drew ?_ | refine blk_alloc ?_ _)); refine blk_far ?_ NB295_308.out _; (with_reducible repeat (first | refine blk_drewN ?_ _ | refine blk_drew ?_ | refine blk_alloc ?_ _)); refine blk_far ?_ NB295_308.out _; (with_reducible repeat (first | refine blk_drewN ?_ _ | refine blk_drew ?_ | refine blk_alloc ?_ _)); refine blk_far ?_ NB295_308.out _; (with_reducible repeat (first | refine blk_drewN ?_ _ | refine blk_drew ?_ | refine blk_alloc ?_ _)); refine blk_far ?_ NB295_308.out _; (with_reducible repeat (first | refine blk_drewN ?_ _ | refine blk_drew ?_ | refine blk_alloc ?_ _)); refine blk_far ?_ NB295_308.out _; (with_reducible repeat (first | refine blk_drewN ?_ _ | refine blk_drew ?_ | refine blk_alloc ?_ _)); refine blk_far ?_ NB295_308.out _; (with_reducible repeat (first | refine blk_drewN ?_ _ | refine blk_drew ?_ | refine blk_alloc ?_ _)); exact BK295.out⟩, ⟨by (with_reducible repeat (first | refine blk_drewN ?_ _ | refine blk_drew ?_ | refine blk_alloc ?_ _)); refine blk_put (cs := #[.int .i64 t303, .int .i64 t304, .int .i64 t305, .int .i64 t306, .string t307]) ?_ 0 _ rfl; (with_reducible repeat (first | refine blk_drewN ?_ _ | refine blk_drew ?_ | refine blk_alloc ?_ _)); refine blk_put (cs := #[.int .i64 t303, .int .i64 t304, .int .i64 t305, .int .i64 t306, .string (⟨#[]⟩ : ByteArray)]) ?_ 4 _ rfl; (with_reducible repeat (first | refine blk_drewN ?_ _ | refine blk_drew ?_ | refine blk_alloc ?_ _)); refine blk_put (cs := #[.int .i64 t303, .int .i64 t304, .int .i64 t305, .int .i64 0, .string (⟨#[]⟩ : ByteArray)]) ?_ 3 _ rfl; (with_reducible repeat (first | refine blk_drewN ?_ _ | refine blk_drew ?_ | refine blk_alloc ?_ _)); refine blk_put (cs := #[.int .i64 t303, .int .i64 t304, .int .i64 0, .int .i64 0, .string (⟨#[]⟩ : ByteArray)]) ?_ 2 _ rfl; (with_reducible repeat (first | refine blk_drewN ?_ _ | refine blk_drew ?_ | refine blk_alloc ?_ _)); refine blk_put (cs := #[.int .i64 t303, .int .i64 0, .int .i64 0, .int .i64 0, .string (⟨#[]⟩ : ByteArray)]) ?_ 1 _ rfl; (with_reducible repeat (first | refine blk_drewN ?_ _ | refine blk_drew ?_ | refine blk_alloc ?_ _)); refine blk_put (cs := #[.int .i64 0, .int .i64 0, .int .i64 0, .int .i64 0, .string (⟨#[]⟩ : ByteArray)]) ?_ 0 _ rfl; (with_reducible repeat (first | refine blk_drewN ?_ _ | refine blk_drew ?_ | refine blk_alloc ?_ _)); exact BK308.out⟩, ⟨by repeat (first | (with_reducible first | exact HB.out | apply below_alloc | apply pw_below_drewN | apply below_drew1 | refine below_set ?_ GE293.out | refine below_set ?_ GE294.out | refine below_set ?_ GE295.out | refine below_set ?_ GE308.out) | exact HB.out)⟩⟩
        ·rw [if_neg c76] at H
         have c76b0 : ((l0.length : Int) == 0) = false := beq_eq_false_iff_ne.mpr c76
         have c76b1 : ((l0.length : Int) != 0) = true := bne_iff_ne.mpr c76
         have c76b2 : ¬ (l0 = []) := fun h_ => c76 (by rw [h_]; rfl)
         (first | rw [c76b0] | (simp only [i64_w, i32_w]; rw [c76b0]) | skip)
         have H' := Aside0.mk H
         clear H
         go_wp2
         go_meet
         case rel => exact ⟨_, (t303), H', ⟨by have := HJ4.out; have := HK2.out; first | omega | exact Nat.le_refl _⟩, ⟨by (with_reducible repeat (first | refine blk_drewN ?_ _ | refine blk_drew ?_ | refine blk_alloc ?_ _)); refine blk_far ?_ NB293_308.out _; (with_reducible repeat (first | refine blk_drewN ?_ _ | refine blk_drew ?_ | refine blk_alloc ?_ _)); refine blk_far ?_ NB293_308.out _; (with_reducible repeat (first | refine blk_drewN ?_ _ | refine blk_drew ?_ | refine blk_alloc ?_ _)); refine blk_far ?_ NB293_308.out _; (with_reducible repeat (first | refine blk_drewN ?_ _ | refine blk_drew ?_ | refine blk_alloc ?_ _)); refine blk_far ?_ NB293_308.out _; (with_reducible repeat (first | refine blk_drewN ?_ _ | refine blk_drew ?_ | refine blk_alloc ?_ _)); refine blk_far ?_ NB293_308.out _; (with_reducible repeat (first | refine blk_drewN ?_ _ | refine blk_drew ?_ | refine blk_alloc ?_ _)); exact BK293.out⟩, ⟨by (with_reducible repeat (first | refine blk_drewN ?_ _ | refine blk_drew ?_ | refine blk_alloc ?_ _)); refine blk_far ?_ NB294_308.out _; (with_reducible repeat (first | refine blk_drewN ?_ _ | refine blk_drew ?_ | refine blk_alloc ?_ _)); refine blk_far ?_ NB294_308.out _; (with_reducible repeat (first | refine blk_drewN ?_ _ | refine blk_drew ?_ | refine blk_alloc ?_ _)); refine blk_far ?_ NB294_308.out _; (with_reducible repeat (first | refine blk_drewN ?_ _ | refine blk_drew ?_ | refine blk_alloc ?_ _)); refine blk_far ?_ NB294_308.out _; (with_reducible repeat (first | refine blk_drewN ?_ _ | refine blk_drew ?_ | refine blk_alloc ?_ _)); refine blk_far ?_ NB294_308.out _; (with_reducible repeat (first | refine blk_drewN ?_ _ | refine blk_drew ?_ | refine blk_alloc ?_ _)); exact BK294.out⟩, ⟨by (with_reducible repeat (first | refine blk_drewN ?_ _ | refine blk_drew ?_ | refine blk_alloc ?_ _)); refine blk_far ?_ NB295_308.out _; (with_reducible repeat (first | refine blk_drewN ?_ _ | refine blk_drew ?_ | refine blk_alloc ?_ _)); refine blk_far ?_ NB295_308.out _; (with_reducible repeat (first | refine blk_drewN ?_ _ | refine blk_drew ?_ | refine blk_alloc ?_ _)); refine blk_far ?_ NB295_308.out _; (with_reducible repeat (first | refine blk_drewN ?_ _ | refine blk_drew ?_ | refine blk_alloc ?_ _)); refine blk_far ?_ NB295_308.out _; (with_reducible repeat (first | refine blk_drewN ?_ _ | refine blk_drew ?_ | refine blk_alloc ?_ _)); refine blk_far ?_ NB295_308.out _; (with_reducible repeat (first | refine blk_drewN ?_ _ | refine blk_drew ?_ | refine blk_alloc ?_ _)); exact BK295.out⟩, ⟨by (with_reducible repeat (first | refine blk_drewN ?_ _ | refine blk_drew ?_ | refine blk_alloc ?_ _)); refine blk_put (cs := #[.int .i64 t303, .int .i64 t304, .int .i64 t305, .int .i64 t306, .string (⟨#[]⟩ : ByteArray)]) ?_ 4 _ rfl; (with_reducible repeat (first | refine blk_drewN ?_ _ | refine blk_drew ?_ | refine blk_alloc ?_ _)); refine blk_put (cs := #[.int .i64 t303, .int .i64 t304, .int .i64 t305, .int .i64 0, .string (⟨#[]⟩ : ByteArray)]) ?_ 3 _ rfl; (with_reducible repeat (first | refine blk_drewN ?_ _ | refine blk_drew ?_ | refine blk_alloc ?_ _)); refine blk_put (cs := #[.int .i64 t303, .int .i64 t304, .int .i64 0, .int .i64 0, .string (⟨#[]⟩ : ByteArray)]) ?_ 2 _ rfl; (with_reducible repeat (first | refine blk_drewN ?_ _ | refine blk_drew ?_ | refine blk_alloc ?_ _)); refine blk_put (cs := #[.int .i64 t303, .int .i64 0, .int .i64 0, .int .i64 0, .string (⟨#[]⟩ : ByteArray)]) ?_ 1 _ rfl; (with_reducible repeat (first | refine blk_drewN ?_ _ | refine blk_drew ?_ | refine blk_alloc ?_ _)); refine blk_put (cs := #[.int .i64 0, .int .i64 0, .int .i64 0, .int .i64 0, .string (⟨#[]⟩ : ByteArray)]) ?_ 0 _ rfl; (with_reducible repeat (first | refine blk_drewN ?_ _ | refine blk_drew ?_ | refine blk_alloc ?_ _)); exact BK308.out⟩, ⟨by repeat (first | (with_reducible first | exact HB.out | apply below_alloc | apply pw_below_drewN | apply below_drew1 | refine below_set ?_ GE293.out | refine below_set ?_ GE294.out | refine below_set ?_ GE295.out | refine below_set ?_ GE308.out) | exact HB.out)⟩⟩
       case rest =>
        clear HC64
        try clear c1
        try clear c2
        try clear p2
        try clear q2
        try clear hx2
        try clear c3
        try clear c4
        try clear c5
        try clear c6
        try clear p6
        try clear c7
        try clear c8
        try clear c9
        try clear c9b0
        try clear c9b1
        try clear c11
        try clear c13
        try clear c15
        try clear c16
        try clear c17
        try clear c19
        try clear c21
        try clear c22
        try clear c25
        try clear c27
        try clear c28
        try clear c29
        try clear p29
        try clear q29
        try clear hx29
        try clear c30
        try clear c31
        try clear c32
        try clear c33
        try clear c35
        try clear c35b0
        try clear c36
        try clear c36b0
        try clear c37
        try clear c37b0
        try clear c39
        try clear c41
        try clear c43
        try clear c44
        try clear c45
        try clear c48
        try clear c49
        try clear c50
        try clear c52
        try clear c53
        try clear c56
        try clear c57
        try clear c58
        try clear c60
        try clear c61
        try clear p64
        try clear c65
        try clear c66
        try clear c68
        try clear c72
        try clear c73
        try clear c74
        try clear c76
        try clear c76b0
        try clear c76b1
        try clear c76b2
        try clear c77
        try clear c77b0
        try clear c77b1
        try clear c78
        try clear c79
        try clear c80
        try clear c82
        try clear c83
        try clear c85
        try clear c86
        try clear c87
        try clear c89
        try clear c90
        try clear hcz17_0
        try clear hcz17_1
        try clear hcz17_2
        try clear hcz17_3
        try clear hcz17_4
        try clear hcz20_0
        try clear hcz20_1
        try clear hcz20_2
        try clear hcz23_0
        try clear hcz23_1
        try clear hcz23_2
        try clear hcz23_3
        try clear hcz23_4
        try clear hcz26_0
        try clear hcz26_1
        try clear hcz26_2
        try clear hcz29_0
        try clear hcz29_1
        try clear hcz29_2
        try clear hcz29_3
        try clear hcz29_4
        try clear hcz34_0
        try clear hcz34_1
        try clear hcz34_2
        try clear hcz34_3
        try clear hcz34_4
        try clear hcz46_0
        try clear hcz46_1
        try clear hcz46_2
        try clear hcz46_3
        try clear hcz46_4
        try clear hcz51_0
        try clear hcz51_1
        try clear hcz51_2
        try clear hcz51_3
        try clear hcz51_4
        try clear hcz54_0
        try clear hcz54_1
        try clear hcz54_2
        try clear hcz54_3
        try clear hcz54_4
        try clear hcz59_0
        try clear hcz59_1
        try clear hcz59_2
        try clear hcz59_3
        try clear hcz59_4
        try clear hcz62_0
        try clear hcz62_1
        try clear hcz62_2
        try clear hcz62_3
        try clear hcz62_4
        try clear hcz67_0
        try clear hcz67_1
        try clear hcz67_2
        try clear hcz69_0
        try clear hcz69_1
        try clear hcz69_2
        try clear hcz69_3
        try clear hcz69_4
        try clear hcz75_0
        try clear hcz75_1
        try clear hcz75_2
        try clear hcz75_3
        try clear hcz75_4
        try clear hcz81_0
        try clear hcz81_1
        try clear hcz81_2
        try clear hcz81_3
        try clear hcz81_4
        try clear hcz84_0
        try clear hcz84_1
        try clear hcz84_2
        try clear hcz84_3
        try clear hcz84_4
        try clear hcz88_0
        try clear hcz88_1
        try clear hcz88_2
        try clear hcz88_3
        try clear hcz88_4
        try clear hcz91_0
        try clear hcz91_1
        try clear hcz91_2
        try clear hcz91_3
        try clear hcz91_4
        try clear hfz17_0
        try clear hfz17_1
        try clear hfz17_2
        try clear hfz17_3
        try clear hfz17_4
        try clear hfz20_0
        try clear hfz20_1
        try clear hfz20_2
        try clear hfz23_0
        try clear hfz23_1
        try clear hfz23_2
        try clear hfz23_3
        try clear hfz23_4
        try clear hfz26_0
        try clear hfz26_1
        try clear hfz26_2
        try clear hfz29_0
        try clear hfz29_1
        try clear hfz29_2
        try clear hfz29_3
        try clear hfz29_4
        try clear hfz34_0
        try clear hfz34_1
        try clear hfz34_2
        try clear hfz34_3
        try clear hfz34_4
        try clear hfz46_0
        try clear hfz46_1
        try clear hfz46_2
        try clear hfz46_3
        try clear hfz46_4
        try clear hfz51_0
        try clear hfz51_1
        try clear hfz51_2
        try clear hfz51_3
        try clear hfz51_4
        try clear hfz54_0
        try clear hfz54_1
        try clear hfz54_2
        try clear hfz54_3
        try clear hfz54_4
        try clear hfz59_0
        try clear hfz59_1
        try clear hfz59_2
        try clear hfz59_3
        try clear hfz59_4
        try clear hfz62_0
        try clear hfz62_1
        try clear hfz62_2
        try clear hfz62_3
        try clear hfz62_4
        try clear hfz67_0
        try clear hfz67_1
        try clear hfz67_2
        try clear hfz69_0
        try clear hfz69_1
        try clear hfz69_2
        try clear hfz69_3
        try clear hfz69_4
        try clear hfz75_0
        try clear hfz75_1
        try clear hfz75_2
        try clear hfz75_3
        try clear hfz75_4
        try clear hfz81_0
        try clear hfz81_1
        try clear hfz81_2
        try clear hfz81_3
        try clear hfz81_4
        try clear hfz84_0
        try clear hfz84_1
        try clear hfz84_2
        try clear hfz84_3
        try clear hfz84_4
        try clear hfz88_0
        try clear hfz88_1
        try clear hfz88_2
        try clear hfz88_3
        try clear hfz88_4
        try clear hfz91_0
        try clear hfz91_1
        try clear hfz91_2
        try clear hfz91_3
        try clear hfz91_4
        try clear hx299_0
        try clear hx299_1
        try clear hx299_2
        try clear hx299_3
        try clear hx299_4
        try clear p2
        try clear p299
        try clear q299
        obtain ⟨kq, x309000_63, HA, HJ63, BK293, BK294, BK295, BK308, HB⟩ := hcut
        cases kq with
        | zero => exact absurd HA.out (by simp [plain_Excl.j2])
        | succ kj63 =>
         have H := HA.out
         clear HA
         simp only [plain_Excl.j2] at H
         replace H := Option.bind_eq_some_iff.mp H
         obtain ⟨⟨t309, t312, t313, t314, t315⟩, A920, H⟩ := H
         replace H : (if t315 = 0 then (if (!(t312 == a1_0) || (!(t313 == a1_1) || (!(t314 == a1_2)))) = true then (some (0, 0, 0, 0, (⟨#[]⟩ : ByteArray), 1)) else ((plain_Do.f kj63 t309 l0).bind fun t317 => (if t317 = true then (some (x309000_63, t304, t305, t306, t307, 0)) else (some (0, 0, 0, 0, (⟨#[]⟩ : ByteArray), 1))))) else (some (0, 0, 0, 0, (⟨#[]⟩ : ByteArray), 1))) = some (r1, r2, r3, r4, r5, r6) := H
         have A92 := Aside0.mk A920
         clear A920
         by_cases c93 : t315 = 0
         ·rw [if_pos c93] at H
          have c93b0 : (t315 == 0) = true := beq_iff_eq.mpr c93
          have c93b1 : (t315 != 0) = false := bne_eq_false_iff_eq.mpr c93
          clear c93
          by_cases c94 : (!(t312 == a1_0) || (!(t313 == a1_1) || (!(t314 == a1_2)))) = true
          ·rw [if_pos c94] at H
           have c94b0 : (!(t312 == a1_0) || (!(t313 == a1_1) || (!(t314 == a1_2)))) = true := c94
           clear c94
           simp only [Option.some.injEq, Prod.mk.injEq] at H
           obtain ⟨rfl, rfl, rfl, rfl, rfl, rfl⟩ := H
           have hnb95 := NB308_293.out
           have hnc95 := NB293_308.out
           have hnb96 := NB308_294.out
           have hnc96 := NB294_308.out
           have hnb97 := NB308_295.out
           have hnc97 := NB295_308.out
           have hcz98_0 : wc.cell? ⟨gb308, 0, none⟩ = some (.int .i64 x309000_63) := (blk_cell BK308.out 0).trans rfl
           have hcz98_1 : wc.cell? ⟨gb308, 1, none⟩ = some (.int .i64 t304) := (blk_cell BK308.out 1).trans rfl
           have hcz98_2 : wc.cell? ⟨gb308, 2, none⟩ = some (.int .i64 t305) := (blk_cell BK308.out 2).trans rfl
           have hcz98_3 : wc.cell? ⟨gb308, 3, none⟩ = some (.int .i64 t306) := (blk_cell BK308.out 3).trans rfl
           have hcz98_4 : wc.cell? ⟨gb308, 4, none⟩ = some (.string t307) := (blk_cell BK308.out 4).trans rfl
           have hfz98_0 := blk_frozen BK308.out 0
           have hfz98_1 := blk_frozen BK308.out 1
           have hfz98_2 := blk_frozen BK308.out 2
           have hfz98_3 := blk_frozen BK308.out 3
           have hfz98_4 := blk_frozen BK308.out 4
           have hnb99 := NB294_293.out
           have hnc99 := NB293_294.out
           have hnb100 := NB294_295.out
           have hnc100 := NB295_294.out
           have hcz101_0 : wc.cell? ⟨gb294, 0, none⟩ = some (.int .i64 a2_0) := (blk_cell BK294.out 0).trans rfl
           have hcz101_1 : wc.cell? ⟨gb294, 1, none⟩ = some (.int .i64 a2_1) := (blk_cell BK294.out 1).trans rfl
           have hcz101_2 : wc.cell? ⟨gb294, 2, none⟩ = some (.int .i64 a2_2) := (blk_cell BK294.out 2).trans rfl
           have hcz101_3 : wc.cell? ⟨gb294, 3, none⟩ = some (.int .i64 a2_3) := (blk_cell BK294.out 3).trans rfl
           have hcz101_4 : wc.cell? ⟨gb294, 4, none⟩ = some (.string a2_4) := (blk_cell BK294.out 4).trans rfl
           have hfz101_0 := blk_frozen BK294.out 0
           have hfz101_1 := blk_frozen BK294.out 1
           have hfz101_2 := blk_frozen BK294.out 2
           have hfz101_3 := blk_frozen BK294.out 3
           have hfz101_4 := blk_frozen BK294.out 4
           go_wp2_with (first | ((with_reducible refine gate_callee (f := 10) rfl ?_); refine goesL_ (some 74) rfl rfl Tryd.func10 (by kernel_rfl) rfl #[.agg #[.int .i64 x309000_63, .int .i64 t304, .int .i64 t305, .int .i64 t306, .string t307], .agg #[.int .i64 a2_0, .int .i64 a2_1, .int .i64 a2_2, .int .i64 a2_3, .string a2_4], .int .i64 a3] rfl (by (try simp only [List.map_toArray, List.map_cons, List.map_nil]); first | done | rfl | (simp only [List.length_drop, List.length_take]; rfl)) ?_; (with_reducible refine (plain_Incl.calls x309000_63 t304 t305 t306 t307 a2_0 a2_1 a2_2 a2_3 a2_4 a3 t309 t312 t313 t314 t315 _ ?side1 A92.out).mono ?_); (case side1 => exact XAmb_step hT (hb4_ HB GE293 GE294 GE295 GE308)); rintro e w102 ⟨v310, rfl, ho0, hb⟩; refine ⟨_, rfl, ?_⟩; have n0_ := Aside0.mk (Kd.R_lower (Kd.R_newB (Kd.R_newB (Kd.R_newB ho0 (g := gb294) (o := .cells #[.int .i64 a2_0, .int .i64 a2_1, .int .i64 a2_2, .int .i64 a2_3, .string a2_4] 33 (0, 0)) (bk_ BK294)) (g := gb295) (o := .cells #[.int .i64 x296000_2, .int .i64 x296001_2, .int .i64 x296002_2, .int .i64 x296003_2, .string x296004_2] 33 (0, 0)) (bk_ BK295)) (g := gb308) (o := .cells #[.int .i64 x309000_63, .int .i64 t304, .int .i64 t305, .int .i64 t306, .string t307] 33 (0, 0)) (bk_ BK308)) (below_size (hb4_ HB GE293 GE294 GE295 GE308))); have n1_ := Aside0.mk (blk_below (g := gb293) (o := .cells #[.int .i64 a1_0, .int .i64 a1_1, .int .i64 a1_2] 29 (0, 0)) (bk_ BK293) hb); have n2_ := Aside0.mk (blk_below (g := gb294) (o := .cells #[.int .i64 a2_0, .int .i64 a2_1, .int .i64 a2_2, .int .i64 a2_3, .string a2_4] 33 (0, 0)) (bk_ BK294) hb); have n3_ := Aside0.mk (blk_below (g := gb295) (o := .cells #[.int .i64 x296000_2, .int .i64 x296001_2, .int .i64 x296002_2, .int .i64 x296003_2, .string x296004_2] 33 (0, 0)) (bk_ BK295) hb); have n4_ := Aside0.mk (blk_below (g := gb308) (o := .cells #[.int .i64 x309000_63, .int .i64 t304, .int .i64 t305, .int .i64 t306, .string t307] 33 (0, 0)) (bk_ BK308) hb); have n5_ := Aside0.mk (below_step (hb4_ HB GE293 GE294 GE295 GE308) hb); clear BK293; clear BK294; clear BK295; clear BK308; clear HB; have HO311 := n0_; have BK293 := n1_; have BK294 := n2_; have BK295 := n3_; have BK308 := n4_; have HB := n5_; clear n0_ n1_ n2_ n3_ n4_ n5_; (try clear hb); (try clear hb2); (try clear hk); (try clear hi); (try clear ho0)) | ((with_reducible refine gate_dst (N := 14) rfl ?_); refine box_event ?hg (N := 14) ?hd (cs := #[.int .i64 0, .int .i64 0, .int .i64 0]) (t := 29) ?hr ?_; (case hd => rfl); (case hg => rfl); (case hr => first | (go_simp; done) | (go_simp; rfl)); intro gb316 hg w103 hbox hb; have n0_ := Aside0.mk (Kd.R_below (ro_ HO311) hb); have n1_ := Aside0.mk (blk_below (g := gb293) (o := .cells #[.int .i64 a1_0, .int .i64 a1_1, .int .i64 a1_2] 29 (0, 0)) (bk_ BK293) hb); have n2_ := Aside0.mk (blk_below (g := gb294) (o := .cells #[.int .i64 a2_0, .int .i64 a2_1, .int .i64 a2_2, .int .i64 a2_3, .string a2_4] 33 (0, 0)) (bk_ BK294) hb); have n3_ := Aside0.mk (blk_below (g := gb295) (o := .cells #[.int .i64 x296000_2, .int .i64 x296001_2, .int .i64 x296002_2, .int .i64 x296003_2, .string x296004_2] 33 (0, 0)) (bk_ BK295) hb); have n4_ := Aside0.mk (blk_below (g := gb308) (o := .cells #[.int .i64 x309000_63, .int .i64 t304, .int .i64 t305, .int .i64 t306, .string t307] 33 (0, 0)) (bk_ BK308) hb); have n5_ := Aside0.mk (below_step (hb4_ HB GE293 GE294 GE295 GE308) hb); have n6_ := Aside0.mk (hbox); have n7_ := Aside0.mk ((by rw [hg]; exact (below_size (hb4_ HB GE293 GE294 GE295 GE308)) : w.heap.size ≤ gb316)); have n8_ := Aside0.mk ((by rw [hg]; exact (below_size (hb4_ HB GE293 GE294 GE295 GE308)) : w.heap.size ≤ gb316)); have n9_ := Aside0.mk ((by rw [hg]; exact Nat.ne_of_lt (blk_lt (g := gb293) (o := .cells #[.int .i64 a1_0, .int .i64 a1_1, .int .i64 a1_2] 29 (0, 0)) (bk_ BK293)) : gb293 ≠ gb316)); have n10_ := Aside0.mk ((by rw [hg]; exact Nat.ne_of_gt (blk_lt (g := gb293) (o := .cells #[.int .i64 a1_0, .int .i64 a1_1, .int .i64 a1_2] 29 (0, 0)) (bk_ BK293)) : gb316 ≠ gb293)); have n11_ := Aside0.mk ((by rw [hg]; exact Nat.ne_of_lt (blk_lt (g := gb294) (o := .cells #[.int .i64 a2_0, .int .i64 a2_1, .int .i64 a2_2, .int .i64 a2_3, .string a2_4] 33 (0, 0)) (bk_ BK294)) : gb294 ≠ gb316)); have n12_ := Aside0.mk ((by rw [hg]; exact Nat.ne_of_gt (blk_lt (g := gb294) (o := .cells #[.int .i64 a2_0, .int .i64 a2_1, .int .i64 a2_2, .int .i64 a2_3, .string a2_4] 33 (0, 0)) (bk_ BK294)) : gb316 ≠ gb294)); have n13_ := Aside0.mk ((by rw [hg]; exact Nat.ne_of_lt (blk_lt (g := gb295) (o := .cells #[.int .i64 x296000_2, .int .i64 x296001_2, .int .i64 x296002_2, .int .i64 x296003_2, .string x296004_2] 33 (0, 0)) (bk_ BK295)) : gb295 ≠ gb316)); have n14_ := Aside0.mk ((by rw [hg]; exact Nat.ne_of_gt (blk_lt (g := gb295) (o := .cells #[.int .i64 x296000_2, .int .i64 x296001_2, .int .i64 x296002_2, .int .i64 x296003_2, .string x296004_2] 33 (0, 0)) (bk_ BK295)) : gb316 ≠ gb295)); have n15_ := Aside0.mk ((by rw [hg]; exact Nat.ne_of_lt (blk_lt (g := gb308) (o := .cells #[.int .i64 x309000_63, .int .i64 t304, .int .i64 t305, .int .i64 t306, .string t307] 33 (0, 0)) (bk_ BK308)) : gb308 ≠ gb316)); have n16_ := Aside0.mk ((by rw [hg]; exact Nat.ne_of_gt (blk_lt (g := gb308) (o := .cells #[.int .i64 x309000_63, .int .i64 t304, .int .i64 t305, .int .i64 t306, .string t307] 33 (0, 0)) (bk_ BK308)) : gb316 ≠ gb308)); clear HO311; clear BK293; clear BK294; clear BK295; clear BK308; clear HB; have HO311 := n0_; have BK293 := n1_; have BK294 := n2_; have BK295 := n3_; have BK308 := n4_; have HB := n5_; have BK316 := n6_; have GW316 := n7_; have GE316 := n8_; have NB293_316 := n9_; have NB316_293 := n10_; have NB294_316 := n11_; have NB316_294 := n12_; have NB295_316 := n13_; have NB316_295 := n14_; have NB308_316 := n15_; have NB316_308 := n16_; clear n0_ n1_ n2_ n3_ n4_ n5_ n6_ n7_ n8_ n9_ n10_ n11_ n12_ n13_ n14_ n15_ n16_; clear hb hbox hg; have hnb104 := NB316_293.out; have hnc104 := NB293_316.out; have hnb105 := NB316_294.out; have hnc105 := NB294_316.out; have hnb106 := NB316_295.out; have hnc106 := NB295_316.out; have hnb107 := NB316_308.out; have hnc107 := NB308_316.out; have hcz108_0 : w103.cell? ⟨gb316, 0, none⟩ = some (.int .i64 0) := (blk_cell BK316.out 0).trans rfl; have hcz108_1 : w103.cell? ⟨gb316, 1, none⟩ = some (.int .i64 0) := (blk_cell BK316.out 1).trans rfl; have hcz108_2 : w103.cell? ⟨gb316, 2, none⟩ = some (.int .i64 0) := (blk_cell BK316.out 2).trans rfl; have hfz108_0 := blk_frozen BK316.out 0; have hfz108_1 := blk_frozen BK316.out 1; have hfz108_2 := blk_frozen BK316.out 2; have hnb109 := NB293_295.out; have hnc109 := NB295_293.out; have hcz110_0 : w103.cell? ⟨gb293, 0, none⟩ = some (.int .i64 a1_0) := (blk_cell BK293.out 0).trans rfl; have hcz110_1 : w103.cell? ⟨gb293, 1, none⟩ = some (.int .i64 a1_1) := (blk_cell BK293.out 1).trans rfl; have hcz110_2 : w103.cell? ⟨gb293, 2, none⟩ = some (.int .i64 a1_2) := (blk_cell BK293.out 2).trans rfl; have hfz110_0 := blk_frozen BK293.out 0; have hfz110_1 := blk_frozen BK293.out 1; have hfz110_2 := blk_frozen BK293.out 2; have hcz111_0 : w103.cell? ⟨gb295, 0, none⟩ = some (.int .i64 x296000_2) := (blk_cell BK295.out 0).trans rfl; have hcz111_1 : w103.cell? ⟨gb295, 1, none⟩ = some (.int .i64 x296001_2) := (blk_cell BK295.out 1).trans rfl; have hcz111_2 : w103.cell? ⟨gb295, 2, none⟩ = some (.int .i64 x296002_2) := (blk_cell BK295.out 2).trans rfl; have hcz111_3 : w103.cell? ⟨gb295, 3, none⟩ = some (.int .i64 x296003_2) := (blk_cell BK295.out 3).trans rfl; have hcz111_4 : w103.cell? ⟨gb295, 4, none⟩ = some (.string x296004_2) := (blk_cell BK295.out 4).trans rfl; have hfz111_0 := blk_frozen BK295.out 0; have hfz111_1 := blk_frozen BK295.out 1; have hfz111_2 := blk_frozen BK295.out 2; have hfz111_3 := blk_frozen BK295.out 3; have hfz111_4 := blk_frozen BK295.out 4))
           refine bodyPost_ret (results_ct rfl _ _ gb295 33 #[.int .i64 0, .int .i64 0, .int .i64 0, .int .i64 0, .string (⟨#[]⟩ : ByteArray)] (0, 0) _ rfl (by (with_reducible repeat (first | refine blk_drewN ?_ _ | refine blk_drew ?_ | refine blk_alloc ?_ _)); refine blk_put (cs := #[.int .i64 0, .int .i64 0, .int .i64 0, .int .i64 0, .string x296004_2]) ?_ 4 _ rfl; (with_reducible repeat (first | refine blk_drewN ?_ _ | refine blk_drew ?_ | refine blk_alloc ?_ _)); refine blk_put (cs := #[.int .i64 0, .int .i64 0, .int .i64 0, .int .i64 x296003_2, .string x296004_2]) ?_ 3 _ rfl; (with_reducible repeat (first | refine blk_drewN ?_ _ | refine blk_drew ?_ | refine blk_alloc ?_ _)); refine blk_put (cs := #[.int .i64 0, .int .i64 0, .int .i64 x296002_2, .int .i64 x296003_2, .string x296004_2]) ?_ 2 _ rfl; (with_reducible repeat (first | refine blk_drewN ?_ _ | refine blk_drew ?_ | refine blk_alloc ?_ _)); refine blk_put (cs := #[.int .i64 0, .int .i64 x296001_2, .int .i64 x296002_2, .int .i64 x296003_2, .string x296004_2]) ?_ 1 _ rfl; (with_reducible repeat (first | refine blk_drewN ?_ _ | refine blk_drew ?_ | refine blk_alloc ?_ _)); refine blk_put (cs := #[.int .i64 x296000_2, .int .i64 x296001_2, .int .i64 x296002_2, .int .i64 x296003_2, .string x296004_2]) ?_ 0 _ rfl; (with_reducible repeat (first | refine blk_drewN ?_ _ | refine blk_drew ?_ | refine blk_alloc ?_ _)); refine blk_far ?_ NB295_316.out _; (with_reducible repeat (first | refine blk_drewN ?_ _ | refine blk_drew ?_ | refine blk_alloc ?_ _)); refine blk_far ?_ NB295_316.out _; (with_reducible repeat (first | refine blk_drewN ?_ _ | refine blk_drew ?_ | refine blk_alloc ?_ _)); refine blk_far ?_ NB295_316.out _; (with_reducible repeat (first | refine blk_drewN ?_ _ | refine blk_drew ?_ | refine blk_alloc ?_ _)); exact BK295.out) Tryd.underlying33 rfl (by kernel_rfl)) rfl ?_
           exact ⟨by first | rfl | (simp [errW_none, errW_some] <;> rfl) | (simp [*, errW_none, errW_some] <;> rfl), by repeat (first | (with_reducible first | exact HB.out | apply below_alloc | apply pw_below_drewN | apply below_drew1 | refine below_set ?_ GE293.out | refine below_set ?_ GE294.out | refine below_set ?_ GE295.out | refine below_set ?_ GE308.out | refine below_set ?_ GE316.out) | exact HB.out)⟩
          ·rw [if_neg c94] at H
           have c94b0 : (!(t312 == a1_0) || (!(t313 == a1_1) || (!(t314 == a1_2)))) = false := by simpa using c94
           clear c94
           replace H := Option.bind_eq_some_iff.mp H
           obtain ⟨t317, A1120, H⟩ := H
           replace H : (if t317 = true then (some (x309000_63, t304, t305, t306, t307, 0)) else (some (0, 0, 0, 0, (⟨#[]⟩ : ByteArray), 1))) = some (r1, r2, r3, r4, r5, r6) := H
           have A112 := Aside0.mk A1120
           clear A1120
           by_cases c113 : t317 = true
           ·subst c113
            have H1 : (some (x309000_63, t304, t305, t306, t307, 0)) = some (r1, r2, r3, r4, r5, r6) := by rw [if_pos rfl] at H; exact H
            clear H
            have H := H1
            clear H1
            simp only [Option.some.injEq, Prod.mk.injEq] at H
            obtain ⟨rfl, rfl, rfl, rfl, rfl, rfl⟩ := H
            have hnb114 := NB308_293.out
            have hnc114 := NB293_308.out
            have hnb115 := NB308_294.out
            have hnc115 := NB294_308.out
            have hnb116 := NB308_295.out
            have hnc116 := NB295_308.out
            have hcz117_0 : wc.cell? ⟨gb308, 0, none⟩ = some (.int .i64 x309000_63) := (blk_cell BK308.out 0).trans rfl
            have hcz117_1 : wc.cell? ⟨gb308, 1, none⟩ = some (.int .i64 t304) := (blk_cell BK308.out 1).trans rfl
            have hcz117_2 : wc.cell? ⟨gb308, 2, none⟩ = some (.int .i64 t305) := (blk_cell BK308.out 2).trans rfl
            have hcz117_3 : wc.cell? ⟨gb308, 3, none⟩ = some (.int .i64 t306) := (blk_cell BK308.out 3).trans rfl
            have hcz117_4 : wc.cell? ⟨gb308, 4, none⟩ = some (.string t307) := (blk_cell BK308.out 4).trans rfl
            have hfz117_0 := blk_frozen BK308.out 0
            have hfz117_1 := blk_frozen BK308.out 1
            have hfz117_2 := blk_frozen BK308.out 2
            have hfz117_3 := blk_frozen BK308.out 3
            have hfz117_4 := blk_frozen BK308.out 4
            have hnb118 := NB294_293.out
            have hnc118 := NB293_294.out
            have hnb119 := NB294_295.out
            have hnc119 := NB295_294.out
            have hcz120_0 : wc.cell? ⟨gb294, 0, none⟩ = some (.int .i64 a2_0) := (blk_cell BK294.out 0).trans rfl
            have hcz120_1 : wc.cell? ⟨gb294, 1, none⟩ = some (.int .i64 a2_1) := (blk_cell BK294.out 1).trans rfl
            have hcz120_2 : wc.cell? ⟨gb294, 2, none⟩ = some (.int .i64 a2_2) := (blk_cell BK294.out 2).trans rfl
            have hcz120_3 : wc.cell? ⟨gb294, 3, none⟩ = some (.int .i64 a2_3) := (blk_cell BK294.out 3).trans rfl
            have hcz120_4 : wc.cell? ⟨gb294, 4, none⟩ = some (.string a2_4) := (blk_cell BK294.out 4).trans rfl
            have hfz120_0 := blk_frozen BK294.out 0
            have hfz120_1 := blk_frozen BK294.out 1
            have hfz120_2 := blk_frozen BK294.out 2
            have hfz120_3 := blk_frozen BK294.out 3
            have hfz120_4 := blk_frozen BK294.out 4
            go_wp2_with (first | ((with_reducible refine gate_callee (f := 10) rfl ?_); refine goesL_ (some 74) rfl rfl Tryd.func10 (by kernel_rfl) rfl #[.agg #[.int .i64 x309000_63, .int .i64 t304, .int .i64 t305, .int .i64 t306, .string t307], .agg #[.int .i64 a2_0, .int .i64 a2_1, .int .i64 a2_2, .int .i64 a2_3, .string a2_4], .int .i64 a3] rfl (by (try simp only [List.map_toArray, List.map_cons, List.map_nil]); first | done | rfl | (simp only [List.length_drop, List.length_take]; rfl)) ?_; (with_reducible refine (plain_Incl.calls x309000_63 t304 t305 t306 t307 a2_0 a2_1 a2_2 a2_3 a2_4 a3 t309 t312 t313 t314 t315 _ ?side1 A92.out).mono ?_); (case side1 => exact XAmb_step hT (hb4_ HB GE293 GE294 GE295 GE308)); rintro e w121 ⟨v310, rfl, ho0, hb⟩; refine ⟨_, rfl, ?_⟩; have n0_ := Aside0.mk (Kd.R_lower (Kd.R_newB (Kd.R_newB (Kd.R_newB ho0 (g := gb294) (o := .cells #[.int .i64 a2_0, .int .i64 a2_1, .int .i64 a2_2, .int .i64 a2_3, .string a2_4] 33 (0, 0)) (bk_ BK294)) (g := gb295) (o := .cells #[.int .i64 x296000_2, .int .i64 x296001_2, .int .i64 x296002_2, .int .i64 x296003_2, .string x296004_2] 33 (0, 0)) (bk_ BK295)) (g := gb308) (o := .cells #[.int .i64 x309000_63, .int .i64 t304, .int .i64 t305, .int .i64 t306, .string t307] 33 (0, 0)) (bk_ BK308)) (below_size (hb4_ HB GE293 GE294 GE295 GE308))); have n1_ := Aside0.mk (blk_below (g := gb293) (o := .cells #[.int .i64 a1_0, .int .i64 a1_1, .int .i64 a1_2] 29 (0, 0)) (bk_ BK293) hb); have n2_ := Aside0.mk (blk_below (g := gb294) (o := .cells #[.int .i64 a2_0, .int .i64 a2_1, .int .i64 a2_2, .int .i64 a2_3, .string a2_4] 33 (0, 0)) (bk_ BK294) hb); have n3_ := Aside0.mk (blk_below (g := gb295) (o := .cells #[.int .i64 x296000_2, .int .i64 x296001_2, .int .i64 x296002_2, .int .i64 x296003_2, .string x296004_2] 33 (0, 0)) (bk_ BK295) hb); have n4_ := Aside0.mk (blk_below (g := gb308) (o := .cells #[.int .i64 x309000_63, .int .i64 t304, .int .i64 t305, .int .i64 t306, .string t307] 33 (0, 0)) (bk_ BK308) hb); have n5_ := Aside0.mk (below_step (hb4_ HB GE293 GE294 GE295 GE308) hb); clear BK293; clear BK294; clear BK295; clear BK308; clear HB; have HO311 := n0_; have BK293 := n1_; have BK294 := n2_; have BK295 := n3_; have BK308 := n4_; have HB := n5_; clear n0_ n1_ n2_ n3_ n4_ n5_; (try clear hb); (try clear hb2); (try clear hk); (try clear hi); (try clear ho0)) | ((with_reducible refine gate_dst (N := 14) rfl ?_); refine box_event ?hg (N := 14) ?hd (cs := #[.int .i64 0, .int .i64 0, .int .i64 0]) (t := 29) ?hr ?_; (case hd => rfl); (case hg => rfl); (case hr => first | (go_simp; done) | (go_simp; rfl)); intro gb316 hg w122 hbox hb; have n0_ := Aside0.mk (Kd.R_below (ro_ HO311) hb); have n1_ := Aside0.mk (blk_below (g := gb293) (o := .cells #[.int .i64 a1_0, .int .i64 a1_1, .int .i64 a1_2] 29 (0, 0)) (bk_ BK293) hb); have n2_ := Aside0.mk (blk_below (g := gb294) (o := .cells #[.int .i64 a2_0, .int .i64 a2_1, .int .i64 a2_2, .int .i64 a2_3, .string a2_4] 33 (0, 0)) (bk_ BK294) hb); have n3_ := Aside0.mk (blk_below (g := gb295) (o := .cells #[.int .i64 x296000_2, .int .i64 x296001_2, .int .i64 x296002_2, .int .i64 x296003_2, .string x296004_2] 33 (0, 0)) (bk_ BK295) hb); have n4_ := Aside0.mk (blk_below (g := gb308) (o := .cells #[.int .i64 x309000_63, .int .i64 t304, .int .i64 t305, .int .i64 t306, .string t307] 33 (0, 0)) (bk_ BK308) hb); have n5_ := Aside0.mk (below_step (hb4_ HB GE293 GE294 GE295 GE308) hb); have n6_ := Aside0.mk (hbox); have n7_ := Aside0.mk ((by rw [hg]; exact (below_size (hb4_ HB GE293 GE294 GE295 GE308)) : w.heap.size ≤ gb316)); have n8_ := Aside0.mk ((by rw [hg]; exact (below_size (hb4_ HB GE293 GE294 GE295 GE308)) : w.heap.size ≤ gb316)); have n9_ := Aside0.mk ((by rw [hg]; exact Nat.ne_of_lt (blk_lt (g := gb293) (o := .cells #[.int .i64 a1_0, .int .i64 a1_1, .int .i64 a1_2] 29 (0, 0)) (bk_ BK293)) : gb293 ≠ gb316)); have n10_ := Aside0.mk ((by rw [hg]; exact Nat.ne_of_gt (blk_lt (g := gb293) (o := .cells #[.int .i64 a1_0, .int .i64 a1_1, .int .i64 a1_2] 29 (0, 0)) (bk_ BK293)) : gb316 ≠ gb293)); have n11_ := Aside0.mk ((by rw [hg]; exact Nat.ne_of_lt (blk_lt (g := gb294) (o := .cells #[.int .i64 a2_0, .int .i64 a2_1, .int .i64 a2_2, .int .i64 a2_3, .string a2_4] 33 (0, 0)) (bk_ BK294)) : gb294 ≠ gb316)); have n12_ := Aside0.mk ((by rw [hg]; exact Nat.ne_of_gt (blk_lt (g := gb294) (o := .cells #[.int .i64 a2_0, .int .i64 a2_1, .int .i64 a2_2, .int .i64 a2_3, .string a2_4] 33 (0, 0)) (bk_ BK294)) : gb316 ≠ gb294)); have n13_ := Aside0.mk ((by rw [hg]; exact Nat.ne_of_lt (blk_lt (g := gb295) (o := .cells #[.int .i64 x296000_2, .int .i64 x296001_2, .int .i64 x296002_2, .int .i64 x296003_2, .string x296004_2] 33 (0, 0)) (bk_ BK295)) : gb295 ≠ gb316)); have n14_ := Aside0.mk ((by rw [hg]; exact Nat.ne_of_gt (blk_lt (g := gb295) (o := .cells #[.int .i64 x296000_2, .int .i64 x296001_2, .int .i64 x296002_2, .int .i64 x296003_2, .string x296004_2] 33 (0, 0)) (bk_ BK295)) : gb316 ≠ gb295)); have n15_ := Aside0.mk ((by rw [hg]; exact Nat.ne_of_lt (blk_lt (g := gb308) (o := .cells #[.int .i64 x309000_63, .int .i64 t304, .int .i64 t305, .int .i64 t306, .string t307] 33 (0, 0)) (bk_ BK308)) : gb308 ≠ gb316)); have n16_ := Aside0.mk ((by rw [hg]; exact Nat.ne_of_gt (blk_lt (g := gb308) (o := .cells #[.int .i64 x309000_63, .int .i64 t304, .int .i64 t305, .int .i64 t306, .string t307] 33 (0, 0)) (bk_ BK308)) : gb316 ≠ gb308)); clear HO311; clear BK293; clear BK294; clear BK295; clear BK308; clear HB; have HO311 := n0_; have BK293 := n1_; have BK294 := n2_; have BK295 := n3_; have BK308 := n4_; have HB := n5_; have BK316 := n6_; have GW316 := n7_; have GE316 := n8_; have NB293_316 := n9_; have NB316_293 := n10_; have NB294_316 := n11_; have NB316_294 := n12_; have NB295_316 := n13_; have NB316_295 := n14_; have NB308_316 := n15_; have NB316_308 := n16_; clear n0_ n1_ n2_ n3_ n4_ n5_ n6_ n7_ n8_ n9_ n10_ n11_ n12_ n13_ n14_ n15_ n16_; clear hb hbox hg; have hnb123 := NB316_293.out; have hnc123 := NB293_316.out; have hnb124 := NB316_294.out; have hnc124 := NB294_316.out; have hnb125 := NB316_295.out; have hnc125 := NB295_316.out; have hnb126 := NB316_308.out; have hnc126 := NB308_316.out; have hcz127_0 : w122.cell? ⟨gb316, 0, none⟩ = some (.int .i64 0) := (blk_cell BK316.out 0).trans rfl; have hcz127_1 : w122.cell? ⟨gb316, 1, none⟩ = some (.int .i64 0) := (blk_cell BK316.out 1).trans rfl; have hcz127_2 : w122.cell? ⟨gb316, 2, none⟩ = some (.int .i64 0) := (blk_cell BK316.out 2).trans rfl; have hfz127_0 := blk_frozen BK316.out 0; have hfz127_1 := blk_frozen BK316.out 1; have hfz127_2 := blk_frozen BK316.out 2; have hnb128 := NB293_295.out; have hnc128 := NB295_293.out; have hcz129_0 : w122.cell? ⟨gb293, 0, none⟩ = some (.int .i64 a1_0) := (blk_cell BK293.out 0).trans rfl; have hcz129_1 : w122.cell? ⟨gb293, 1, none⟩ = some (.int .i64 a1_1) := (blk_cell BK293.out 1).trans rfl; have hcz129_2 : w122.cell? ⟨gb293, 2, none⟩ = some (.int .i64 a1_2) := (blk_cell BK293.out 2).trans rfl; have hfz129_0 := blk_frozen BK293.out 0; have hfz129_1 := blk_frozen BK293.out 1; have hfz129_2 := blk_frozen BK293.out 2; obtain ⟨Ao130, co130, eo130⟩ := Kd.R_slice HO311.out; subst eo130) | (go_at_call 31; (with_reducible refine (plain_Do.calls kj63 _ _ t309 _ _ l0 true _ ?side1 ?side2 ?side3 ?side4 A112.out).mono ?_); (case side1 => refine (Kd.R_reads' (e := 33) (base := w.heap.size) (ok := fun k_ => (((True ∧ k_ ≠ gb294) ∧ k_ ≠ gb295) ∧ k_ ≠ gb308)) (n := t309.length) (c := co130) ?_).2.2; exact (by (with_reducible repeat (first | apply Kd.R_alloc | apply Kd.R_drewN | apply Kd.R_drew)); exact (Kd.R_mono (Kd.R_far (p := ⟨gb316, 2, none⟩) (Kd.R_far (p := ⟨gb316, 1, none⟩) (Kd.R_far (p := ⟨gb316, 0, none⟩) (Kd.R_types HO311.out BK316.out (by decide)) (fun _ hk => hk.2) (.int .i64 t312)) (fun _ hk => hk.2) (.int .i64 t313)) (fun _ hk => hk.2) (.int .i64 t314)) (fun _ h_ => h_.1)))); (case side2 => exact (Kd.R_reads' HO311.out).2.1); (case side3 => exact Kd.C_below HR0.out (hb5_ HB GE293 GE294 GE295 GE308 GE316)); (case side4 => exact HC0.out); rintro e w' ⟨rfl, ⟨nd, rfl⟩⟩; have hcz131_0 : w122.cell? ⟨gb308, 0, none⟩ = some (.int .i64 x309000_63) := (blk_cell BK308.out 0).trans rfl; have hcz131_1 : w122.cell? ⟨gb308, 1, none⟩ = some (.int .i64 t304) := (blk_cell BK308.out 1).trans rfl; have hcz131_2 : w122.cell? ⟨gb308, 2, none⟩ = some (.int .i64 t305) := (blk_cell BK308.out 2).trans rfl; have hcz131_3 : w122.cell? ⟨gb308, 3, none⟩ = some (.int .i64 t306) := (blk_cell BK308.out 3).trans rfl; have hcz131_4 : w122.cell? ⟨gb308, 4, none⟩ = some (.string t307) := (blk_cell BK308.out 4).trans rfl; have hfz131_0 := blk_frozen BK308.out 0; have hfz131_1 := blk_frozen BK308.out 1; have hfz131_2 := blk_frozen BK308.out 2; have hfz131_3 := blk_frozen BK308.out 3; have hfz131_4 := blk_frozen BK308.out 4; have hcz132_0 : w122.cell? ⟨gb295, 0, none⟩ = some (.int .i64 x296000_2) := (blk_cell BK295.out 0).trans rfl; have hcz132_1 : w122.cell? ⟨gb295, 1, none⟩ = some (.int .i64 x296001_2) := (blk_cell BK295.out 1).trans rfl; have hcz132_2 : w122.cell? ⟨gb295, 2, none⟩ = some (.int .i64 x296002_2) := (blk_cell BK295.out 2).trans rfl; have hcz132_3 : w122.cell? ⟨gb295, 3, none⟩ = some (.int .i64 x296003_2) := (blk_cell BK295.out 3).trans rfl; have hcz132_4 : w122.cell? ⟨gb295, 4, none⟩ = some (.string x296004_2) := (blk_cell BK295.out 4).trans rfl; have hfz132_0 := blk_frozen BK295.out 0; have hfz132_1 := blk_frozen BK295.out 1; have hfz132_2 := blk_frozen BK295.out 2; have hfz132_3 := blk_frozen BK295.out 3; have hfz132_4 := blk_frozen BK295.out 4))
            refine bodyPost_ret (results_ct rfl _ _ gb295 33 #[.int .i64 x309000_63, .int .i64 t304, .int .i64 t305, .int .i64 t306, .string t307] (0, 0) _ rfl (by (with_reducible repeat (first | refine blk_drewN ?_ _ | refine blk_drew ?_ | refine blk_alloc ?_ _)); refine blk_put (cs := #[.int .i64 x309000_63, .int .i64 t304, .int .i64 t305, .int .i64 t306, .string x296004_2]) ?_ 4 _ rfl; (with_reducible repeat (first | refine blk_drewN ?_ _ | refine blk_drew ?_ | refine blk_alloc ?_ _)); refine blk_put (cs := #[.int .i64 x309000_63, .int .i64 t304, .int .i64 t305, .int .i64 x296003_2, .string x296004_2]) ?_ 3 _ rfl; (with_reducible repeat (first | refine blk_drewN ?_ _ | refine blk_drew ?_ | refine blk_alloc ?_ _)); refine blk_put (cs := #[.int .i64 x309000_63, .int .i64 t304, .int .i64 x296002_2, .int .i64 x296003_2, .string x296004_2]) ?_ 2 _ rfl; (with_reducible repeat (first | refine blk_drewN ?_ _ | refine blk_drew ?_ | refine blk_alloc ?_ _)); refine blk_put (cs := #[.int .i64 x309000_63, .int .i64 x296001_2, .int .i64 x296002_2, .int .i64 x296003_2, .string x296004_2]) ?_ 1 _ rfl; (with_reducible repeat (first | refine blk_drewN ?_ _ | refine blk_drew ?_ | refine blk_alloc ?_ _)); refine blk_put (cs := #[.int .i64 x296000_2, .int .i64 x296001_2, .int .i64 x296002_2, .int .i64 x296003_2, .string x296004_2]) ?_ 0 _ rfl; (with_reducible repeat (first | refine blk_drewN ?_ _ | refine blk_drew ?_ | refine blk_alloc ?_ _)); refine blk_far ?_ NB295_316.out _; (with_reducible repeat (first | refine blk_drewN ?_ _ | refine blk_drew ?_ | refine blk_alloc ?_ _)); refine blk_far ?_ NB295_316.out _; (with_reducible repeat (first | refine blk_drewN ?_ _ | refine blk_drew ?_ | refine blk_alloc ?_ _)); refine blk_far ?_ NB295_316.out _; (with_reducible repeat (first | refine blk_drewN ?_ _ | refine blk_drew ?_ | refine blk_alloc ?_ _)); exact BK295.out) Tryd.underlying33 rfl (by kernel_rfl)) rfl ?_
            exact ⟨by first | rfl | (simp [errW_none, errW_some] <;> rfl) | (simp [*, errW_none, errW_some] <;> rfl), by repeat (first | (with_reducible first | exact HB.out | apply below_alloc | apply pw_below_drewN | apply below_drew1 | refine below_set ?_ GE293.out | refine below_set ?_ GE294.out | refine below_set ?_ GE295.out | refine below_set ?_ GE308.out | refine below_set ?_ GE316.out) | exact HB.out)⟩
           ·replace c113 := Bool.eq_false_iff.mpr c113
            subst c113
            have H1 : (some (0, 0, 0, 0, (⟨#[]⟩ : ByteArray), 1)) = some (r1, r2, r3, r4, r5, r6) := by rw [if_neg (show ¬ (false = true) by decide)] at H; exact H
            clear H
            have H := H1
            clear H1
            simp only [Option.some.injEq, Prod.mk.injEq] at H
            obtain ⟨rfl, rfl, rfl, rfl, rfl, rfl⟩ := H
            have hnb133 := NB308_293.out
            have hnc133 := NB293_308.out
            have hnb134 := NB308_294.out
            have hnc134 := NB294_308.out
            have hnb135 := NB308_295.out
            have hnc135 := NB295_308.out
            have hcz136_0 : wc.cell? ⟨gb308, 0, none⟩ = some (.int .i64 x309000_63) := (blk_cell BK308.out 0).trans rfl
            have hcz136_1 : wc.cell? ⟨gb308, 1, none⟩ = some (.int .i64 t304) := (blk_cell BK308.out 1).trans rfl
            have hcz136_2 : wc.cell? ⟨gb308, 2, none⟩ = some (.int .i64 t305) := (blk_cell BK308.out 2).trans rfl
            have hcz136_3 : wc.cell? ⟨gb308, 3, none⟩ = some (.int .i64 t306) := (blk_cell BK308.out 3).trans rfl
            have hcz136_4 : wc.cell? ⟨gb308, 4, none⟩ = some (.string t307) := (blk_cell BK308.out 4).trans rfl
            have hfz136_0 := blk_frozen BK308.out 0
            have hfz136_1 := blk_frozen BK308.out 1
            have hfz136_2 := blk_frozen BK308.out 2
            have hfz136_3 := blk_frozen BK308.out 3
            have hfz136_4 := blk_frozen BK308.out 4
            have hnb137 := NB294_293.out
            have hnc137 := NB293_294.out
            have hnb138 := NB294_295.out
            have hnc138 := NB295_294.out
            have hcz139_0 : wc.cell? ⟨gb294, 0, none⟩ = some (.int .i64 a2_0) := (blk_cell BK294.out 0).trans rfl
            have hcz139_1 : wc.cell? ⟨gb294, 1, none⟩ = some (.int .i64 a2_1) := (blk_cell BK294.out 1).trans rfl
            have hcz139_2 : wc.cell? ⟨gb294, 2, none⟩ = some (.int .i64 a2_2) := (blk_cell BK294.out 2).trans rfl
            have hcz139_3 : wc.cell? ⟨gb294, 3, none⟩ = some (.int .i64 a2_3) := (blk_cell BK294.out 3).trans rfl
            have hcz139_4 : wc.cell? ⟨gb294, 4, none⟩ = some (.string a2_4) := (blk_cell BK294.out 4).trans rfl
            have hfz139_0 := blk_frozen BK294.out 0
            have hfz139_1 := blk_frozen BK294.out 1
            have hfz139_2 := blk_frozen BK294.out 2
            have hfz139_3 := blk_frozen BK294.out 3
            have hfz139_4 := blk_frozen BK294.out 4
            go_wp2_with (first | ((with_reducible refine gate_callee (f := 10) rfl ?_); refine goesL_ (some 74) rfl rfl Tryd.func10 (by kernel_rfl) rfl #[.agg #[.int .i64 x309000_63, .int .i64 t304, .int .i64 t305, .int .i64 t306, .string t307], .agg #[.int .i64 a2_0, .int .i64 a2_1, .int .i64 a2_2, .int .i64 a2_3, .string a2_4], .int .i64 a3] rfl (by (try simp only [List.map_toArray, List.map_cons, List.map_nil]); first | done | rfl | (simp only [List.length_drop, List.length_take]; rfl)) ?_; (with_reducible refine (plain_Incl.calls x309000_63 t304 t305 t306 t307 a2_0 a2_1 a2_2 a2_3 a2_4 a3 t309 t312 t313 t314 t315 _ ?side1 A92.out).mono ?_); (case side1 => exact XAmb_step hT (hb4_ HB GE293 GE294 GE295 GE308)); rintro e w140 ⟨v310, rfl, ho0, hb⟩; refine ⟨_, rfl, ?_⟩; have n0_ := Aside0.mk (Kd.R_lower (Kd.R_newB (Kd.R_newB (Kd.R_newB ho0 (g := gb294) (o := .cells #[.int .i64 a2_0, .int .i64 a2_1, .int .i64 a2_2, .int .i64 a2_3, .string a2_4] 33 (0, 0)) (bk_ BK294)) (g := gb295) (o := .cells #[.int .i64 x296000_2, .int .i64 x296001_2, .int .i64 x296002_2, .int .i64 x296003_2, .string x296004_2] 33 (0, 0)) (bk_ BK295)) (g := gb308) (o := .cells #[.int .i64 x309000_63, .int .i64 t304, .int .i64 t305, .int .i64 t306, .string t307] 33 (0, 0)) (bk_ BK308)) (below_size (hb4_ HB GE293 GE294 GE295 GE308))); have n1_ := Aside0.mk (blk_below (g := gb293) (o := .cells #[.int .i64 a1_0, .int .i64 a1_1, .int .i64 a1_2] 29 (0, 0)) (bk_ BK293) hb); have n2_ := Aside0.mk (blk_below (g := gb294) (o := .cells #[.int .i64 a2_0, .int .i64 a2_1, .int .i64 a2_2, .int .i64 a2_3, .string a2_4] 33 (0, 0)) (bk_ BK294) hb); have n3_ := Aside0.mk (blk_below (g := gb295) (o := .cells #[.int .i64 x296000_2, .int .i64 x296001_2, .int .i64 x296002_2, .int .i64 x296003_2, .string x296004_2] 33 (0, 0)) (bk_ BK295) hb); have n4_ := Aside0.mk (blk_below (g := gb308) (o := .cells #[.int .i64 x309000_63, .int .i64 t304, .int .i64 t305, .int .i64 t306, .string t307] 33 (0, 0)) (bk_ BK308) hb); have n5_ := Aside0.mk (below_step (hb4_ HB GE293 GE294 GE295 GE308) hb); clear BK293; clear BK294; clear BK295; clear BK308; clear HB; have HO311 := n0_; have BK293 := n1_; have BK294 := n2_; have BK295 := n3_; have BK308 := n4_; have HB := n5_; clear n0_ n1_ n2_ n3_ n4_ n5_; (try clear hb); (try clear hb2); (try clear hk); (try clear hi); (try clear ho0)) | ((with_reducible refine gate_dst (N := 14) rfl ?_); refine box_event ?hg (N := 14) ?hd (cs := #[.int .i64 0, .int .i64 0, .int .i64 0]) (t := 29) ?hr ?_; (case hd => rfl); (case hg => rfl); (case hr => first | (go_simp; done) | (go_simp; rfl)); intro gb316 hg w141 hbox hb; have n0_ := Aside0.mk (Kd.R_below (ro_ HO311) hb); have n1_ := Aside0.mk (blk_below (g := gb293) (o := .cells #[.int .i64 a1_0, .int .i64 a1_1, .int .i64 a1_2] 29 (0, 0)) (bk_ BK293) hb); have n2_ := Aside0.mk (blk_below (g := gb294) (o := .cells #[.int .i64 a2_0, .int .i64 a2_1, .int .i64 a2_2, .int .i64 a2_3, .string a2_4] 33 (0, 0)) (bk_ BK294) hb); have n3_ := Aside0.mk (blk_below (g := gb295) (o := .cells #[.int .i64 x296000_2, .int .i64 x296001_2, .int .i64 x296002_2, .int .i64 x296003_2, .string x296004_2] 33 (0, 0)) (bk_ BK295) hb); have n4_ := Aside0.mk (blk_below (g := gb308) (o := .cells #[.int .i64 x309000_63, .int .i64 t304, .int .i64 t305, .int .i64 t306, .string t307] 33 (0, 0)) (bk_ BK308) hb); have n5_ := Aside0.mk (below_step (hb4_ HB GE293 GE294 GE295 GE308) hb); have n6_ := Aside0.mk (hbox); have n7_ := Aside0.mk ((by rw [hg]; exact (below_size (hb4_ HB GE293 GE294 GE295 GE308)) : w.heap.size ≤ gb316)); have n8_ := Aside0.mk ((by rw [hg]; exact (below_size (hb4_ HB GE293 GE294 GE295 GE308)) : w.heap.size ≤ gb316)); have n9_ := Aside0.mk ((by rw [hg]; exact Nat.ne_of_lt (blk_lt (g := gb293) (o := .cells #[.int .i64 a1_0, .int .i64 a1_1, .int .i64 a1_2] 29 (0, 0)) (bk_ BK293)) : gb293 ≠ gb316)); have n10_ := Aside0.mk ((by rw [hg]; exact Nat.ne_of_gt (blk_lt (g := gb293) (o := .cells #[.int .i64 a1_0, .int .i64 a1_1, .int .i64 a1_2] 29 (0, 0)) (bk_ BK293)) : gb316 ≠ gb293)); have n11_ := Aside0.mk ((by rw [hg]; exact Nat.ne_of_lt (blk_lt (g := gb294) (o := .cells #[.int .i64 a2_0, .int .i64 a2_1, .int .i64 a2_2, .int .i64 a2_3, .string a2_4] 33 (0, 0)) (bk_ BK294)) : gb294 ≠ gb316)); have n12_ := Aside0.mk ((by rw [hg]; exact Nat.ne_of_gt (blk_lt (g := gb294) (o := .cells #[.int .i64 a2_0, .int .i64 a2_1, .int .i64 a2_2, .int .i64 a2_3, .string a2_4] 33 (0, 0)) (bk_ BK294)) : gb316 ≠ gb294)); have n13_ := Aside0.mk ((by rw [hg]; exact Nat.ne_of_lt (blk_lt (g := gb295) (o := .cells #[.int .i64 x296000_2, .int .i64 x296001_2, .int .i64 x296002_2, .int .i64 x296003_2, .string x296004_2] 33 (0, 0)) (bk_ BK295)) : gb295 ≠ gb316)); have n14_ := Aside0.mk ((by rw [hg]; exact Nat.ne_of_gt (blk_lt (g := gb295) (o := .cells #[.int .i64 x296000_2, .int .i64 x296001_2, .int .i64 x296002_2, .int .i64 x296003_2, .string x296004_2] 33 (0, 0)) (bk_ BK295)) : gb316 ≠ gb295)); have n15_ := Aside0.mk ((by rw [hg]; exact Nat.ne_of_lt (blk_lt (g := gb308) (o := .cells #[.int .i64 x309000_63, .int .i64 t304, .int .i64 t305, .int .i64 t306, .string t307] 33 (0, 0)) (bk_ BK308)) : gb308 ≠ gb316)); have n16_ := Aside0.mk ((by rw [hg]; exact Nat.ne_of_gt (blk_lt (g := gb308) (o := .cells #[.int .i64 x309000_63, .int .i64 t304, .int .i64 t305, .int .i64 t306, .string t307] 33 (0, 0)) (bk_ BK308)) : gb316 ≠ gb308)); clear HO311; clear BK293; clear BK294; clear BK295; clear BK308; clear HB; have HO311 := n0_; have BK293 := n1_; have BK294 := n2_; have BK295 := n3_; have BK308 := n4_; have HB := n5_; have BK316 := n6_; have GW316 := n7_; have GE316 := n8_; have NB293_316 := n9_; have NB316_293 := n10_; have NB294_316 := n11_; have NB316_294 := n12_; have NB295_316 := n13_; have NB316_295 := n14_; have NB308_316 := n15_; have NB316_308 := n16_; clear n0_ n1_ n2_ n3_ n4_ n5_ n6_ n7_ n8_ n9_ n10_ n11_ n12_ n13_ n14_ n15_ n16_; clear hb hbox hg; have hnb142 := NB316_293.out; have hnc142 := NB293_316.out; have hnb143 := NB316_294.out; have hnc143 := NB294_316.out; have hnb144 := NB316_295.out; have hnc144 := NB295_316.out; have hnb145 := NB316_308.out; have hnc145 := NB308_316.out; have hcz146_0 : w141.cell? ⟨gb316, 0, none⟩ = some (.int .i64 0) := (blk_cell BK316.out 0).trans rfl; have hcz146_1 : w141.cell? ⟨gb316, 1, none⟩ = some (.int .i64 0) := (blk_cell BK316.out 1).trans rfl; have hcz146_2 : w141.cell? ⟨gb316, 2, none⟩ = some (.int .i64 0) := (blk_cell BK316.out 2).trans rfl; have hfz146_0 := blk_frozen BK316.out 0; have hfz146_1 := blk_frozen BK316.out 1; have hfz146_2 := blk_frozen BK316.out 2; have hnb147 := NB293_295.out; have hnc147 := NB295_293.out; have hcz148_0 : w141.cell? ⟨gb293, 0, none⟩ = some (.int .i64 a1_0) := (blk_cell BK293.out 0).trans rfl; have hcz148_1 : w141.cell? ⟨gb293, 1, none⟩ = some (.int .i64 a1_1) := (blk_cell BK293.out 1).trans rfl; have hcz148_2 : w141.cell? ⟨gb293, 2, none⟩ = some (.int .i64 a1_2) := (blk_cell BK293.out 2).trans rfl; have hfz148_0 := blk_frozen BK293.out 0; have hfz148_1 := blk_frozen BK293.out 1; have hfz148_2 := blk_frozen BK293.out 2; obtain ⟨Ao149, co149, eo149⟩ := Kd.R_slice HO311.out; subst eo149) | (go_at_call 31; (with_reducible refine (plain_Do.calls kj63 _ _ t309 _ _ l0 false _ ?side1 ?side2 ?side3 ?side4 A112.out).mono ?_); (case side1 => refine (Kd.R_reads' (e := 33) (base := w.heap.size) (ok := fun k_ => (((True ∧ k_ ≠ gb294) ∧ k_ ≠ gb295) ∧ k_ ≠ gb308)) (n := t309.length) (c := co149) ?_).2.2; exact (by (with_reducible repeat (first | apply Kd.R_alloc | apply Kd.R_drewN | apply Kd.R_drew)); exact (Kd.R_mono (Kd.R_far (p := ⟨gb316, 2, none⟩) (Kd.R_far (p := ⟨gb316, 1, none⟩) (Kd.R_far (p := ⟨gb316, 0, none⟩) (Kd.R_types HO311.out BK316.out (by decide)) (fun _ hk => hk.2) (.int .i64 t312)) (fun _ hk => hk.2) (.int .i64 t313)) (fun _ hk => hk.2) (.int .i64 t314)) (fun _ h_ => h_.1)))); (case side2 => exact (Kd.R_reads' HO311.out).2.1); (case side3 => exact Kd.C_below HR0.out (hb5_ HB GE293 GE294 GE295 GE308 GE316)); (case side4 => exact HC0.out); rintro e w' ⟨rfl, ⟨nd, rfl⟩⟩; have hcz150_0 : w141.cell? ⟨gb295, 0, none⟩ = some (.int .i64 x296000_2) := (blk_cell BK295.out 0).trans rfl; have hcz150_1 : w141.cell? ⟨gb295, 1, none⟩ = some (.int .i64 x296001_2) := (blk_cell BK295.out 1).trans rfl; have hcz150_2 : w141.cell? ⟨gb295, 2, none⟩ = some (.int .i64 x296002_2) := (blk_cell BK295.out 2).trans rfl; have hcz150_3 : w141.cell? ⟨gb295, 3, none⟩ = some (.int .i64 x296003_2) := (blk_cell BK295.out 3).trans rfl; have hcz150_4 : w141.cell? ⟨gb295, 4, none⟩ = some (.string x296004_2) := (blk_cell BK295.out 4).trans rfl; have hfz150_0 := blk_frozen BK295.out 0; have hfz150_1 := blk_frozen BK295.out 1; have hfz150_2 := blk_frozen BK295.out 2; have hfz150_3 := blk_frozen BK295.out 3; have hfz150_4 := blk_frozen BK295.out 4))
            refine bodyPost_ret (results_ct rfl _ _ gb295 33 #[.int .i64 0, .int .i64 0, .int .i64 0, .int .i64 0, .string (⟨#[]⟩ : ByteArray)] (0, 0) _ rfl (by (with_reducible repeat (first | refine blk_drewN ?_ _ | refine blk_drew ?_ | refine blk_alloc ?_ _)); refine blk_put (cs := #[.int .i64 0, .int .i64 0, .int .i64 0, .int .i64 0, .string x296004_2]) ?_ 4 _ rfl; (with_reducible repeat (first | refine blk_drewN ?_ _ | refine blk_drew ?_ | refine blk_alloc ?_ _)); refine blk_put (cs := #[.int .i64 0, .int .i64 0, .int .i64 0, .int .i64 x296003_2, .string x296004_2]) ?_ 3 _ rfl; (with_reducible repeat (first | refine blk_drewN ?_ _ | refine blk_drew ?_ | refine blk_alloc ?_ _)); refine blk_put (cs := #[.int .i64 0, .int .i64 0, .int .i64 x296002_2, .int .i64 x296003_2, .string x296004_2]) ?_ 2 _ rfl; (with_reducible repeat (first | refine blk_drewN ?_ _ | refine blk_drew ?_ | refine blk_alloc ?_ _)); refine blk_put (cs := #[.int .i64 0, .int .i64 x296001_2, .int .i64 x296002_2, .int .i64 x296003_2, .string x296004_2]) ?_ 1 _ rfl; (with_reducible repeat (first | refine blk_drewN ?_ _ | refine blk_drew ?_ | refine blk_alloc ?_ _)); refine blk_put (cs := #[.int .i64 x296000_2, .int .i64 x296001_2, .int .i64 x296002_2, .int .i64 x296003_2, .string x296004_2]) ?_ 0 _ rfl; (with_reducible repeat (first | refine blk_drewN ?_ _ | refine blk_drew ?_ | refine blk_alloc ?_ _)); refine blk_far ?_ NB295_316.out _; (with_reducible repeat (first | refine blk_drewN ?_ _ | refine blk_drew ?_ | refine blk_alloc ?_ _)); refine blk_far ?_ NB295_316.out _; (with_reducible repeat (first | refine blk_drewN ?_ _ | refine blk_drew ?_ | refine blk_alloc ?_ _)); refine blk_far ?_ NB295_316.out _; (with_reducible repeat (first | refine blk_drewN ?_ _ | refine blk_drew ?_ | refine blk_alloc ?_ _)); exact BK295.out) Tryd.underlying33 rfl (by kernel_rfl)) rfl ?_
            exact ⟨by first | rfl | (simp [errW_none, errW_some] <;> rfl) | (simp [*, errW_none, errW_some] <;> rfl), by repeat (first | (with_reducible first | exact HB.out | apply below_alloc | apply pw_below_drewN | apply below_drew1 | refine below_set ?_ GE293.out | refine below_set ?_ GE294.out | refine below_set ?_ GE295.out | refine below_set ?_ GE308.out | refine below_set ?_ GE316.out) | exact HB.out)⟩
         ·rw [if_neg c93] at H
          have c93b0 : (t315 == 0) = false := beq_eq_false_iff_ne.mpr c93
          have c93b1 : (t315 != 0) = true := bne_iff_ne.mpr c93
          simp only [Option.some.injEq, Prod.mk.injEq] at H
          obtain ⟨rfl, rfl, rfl, rfl, rfl, rfl⟩ := H
          have hnb151 := NB308_293.out
          have hnc151 := NB293_308.out
          have hnb152 := NB308_294.out
          have hnc152 := NB294_308.out
          have hnb153 := NB308_295.out
          have hnc153 := NB295_308.out
          have hcz154_0 : wc.cell? ⟨gb308, 0, none⟩ = some (.int .i64 x309000_63) := (blk_cell BK308.out 0).trans rfl
          have hcz154_1 : wc.cell? ⟨gb308, 1, none⟩ = some (.int .i64 t304) := (blk_cell BK308.out 1).trans rfl
          have hcz154_2 : wc.cell? ⟨gb308, 2, none⟩ = some (.int .i64 t305) := (blk_cell BK308.out 2).trans rfl
          have hcz154_3 : wc.cell? ⟨gb308, 3, none⟩ = some (.int .i64 t306) := (blk_cell BK308.out 3).trans rfl
          have hcz154_4 : wc.cell? ⟨gb308, 4, none⟩ = some (.string t307) := (blk_cell BK308.out 4).trans rfl
          have hfz154_0 := blk_frozen BK308.out 0
          have hfz154_1 := blk_frozen BK308.out 1
          have hfz154_2 := blk_frozen BK308.out 2
          have hfz154_3 := blk_frozen BK308.out 3
          have hfz154_4 := blk_frozen BK308.out 4
          have hnb155 := NB294_293.out
          have hnc155 := NB293_294.out
          have hnb156 := NB294_295.out
          have hnc156 := NB295_294.out
          have hcz157_0 : wc.cell? ⟨gb294, 0, none⟩ = some (.int .i64 a2_0) := (blk_cell BK294.out 0).trans rfl
          have hcz157_1 : wc.cell? ⟨gb294, 1, none⟩ = some (.int .i64 a2_1) := (blk_cell BK294.out 1).trans rfl
          have hcz157_2 : wc.cell? ⟨gb294, 2, none⟩ = some (.int .i64 a2_2) := (blk_cell BK294.out 2).trans rfl
          have hcz157_3 : wc.cell? ⟨gb294, 3, none⟩ = some (.int .i64 a2_3) := (blk_cell BK294.out 3).trans rfl
          have hcz157_4 : wc.cell? ⟨gb294, 4, none⟩ = some (.string a2_4) := (blk_cell BK294.out 4).trans rfl
          have hfz157_0 := blk_frozen BK294.out 0
          have hfz157_1 := blk_frozen BK294.out 1
          have hfz157_2 := blk_frozen BK294.out 2
          have hfz157_3 := blk_frozen BK294.out 3
          have hfz157_4 := blk_frozen BK294.out 4
          go_wp2_with (first | ((with_reducible refine gate_callee (f := 10) rfl ?_); refine goesL_ (some 74) rfl rfl Tryd.func10 (by kernel_rfl) rfl #[.agg #[.int .i64 x309000_63, .int .i64 t304, .int .i64 t305, .int .i64 t306, .string t307], .agg #[.int .i64 a2_0, .int .i64 a2_1, .int .i64 a2_2, .int .i64 a2_3, .string a2_4], .int .i64 a3] rfl (by (try simp only [List.map_toArray, List.map_cons, List.map_nil]); first | done | rfl | (simp only [List.length_drop, List.length_take]; rfl)) ?_; (with_reducible refine (plain_Incl.calls x309000_63 t304 t305 t306 t307 a2_0 a2_1 a2_2 a2_3 a2_4 a3 t309 t312 t313 t314 t315 _ ?side1 A92.out).mono ?_); (case side1 => exact XAmb_step hT (hb4_ HB GE293 GE294 GE295 GE308)); rintro e w158 ⟨v310, rfl, ho0, hb⟩; refine ⟨_, rfl, ?_⟩; have n0_ := Aside0.mk (Kd.R_lower (Kd.R_newB (Kd.R_newB (Kd.R_newB ho0 (g := gb294) (o := .cells #[.int .i64 a2_0, .int .i64 a2_1, .int .i64 a2_2, .int .i64 a2_3, .string a2_4] 33 (0, 0)) (bk_ BK294)) (g := gb295) (o := .cells #[.int .i64 x296000_2, .int .i64 x296001_2, .int .i64 x296002_2, .int .i64 x296003_2, .string x296004_2] 33 (0, 0)) (bk_ BK295)) (g := gb308) (o := .cells #[.int .i64 x309000_63, .int .i64 t304, .int .i64 t305, .int .i64 t306, .string t307] 33 (0, 0)) (bk_ BK308)) (below_size (hb4_ HB GE293 GE294 GE295 GE308))); have n1_ := Aside0.mk (blk_below (g := gb293) (o := .cells #[.int .i64 a1_0, .int .i64 a1_1, .int .i64 a1_2] 29 (0, 0)) (bk_ BK293) hb); have n2_ := Aside0.mk (blk_below (g := gb294) (o := .cells #[.int .i64 a2_0, .int .i64 a2_1, .int .i64 a2_2, .int .i64 a2_3, .string a2_4] 33 (0, 0)) (bk_ BK294) hb); have n3_ := Aside0.mk (blk_below (g := gb295) (o := .cells #[.int .i64 x296000_2, .int .i64 x296001_2, .int .i64 x296002_2, .int .i64 x296003_2, .string x296004_2] 33 (0, 0)) (bk_ BK295) hb); have n4_ := Aside0.mk (blk_below (g := gb308) (o := .cells #[.int .i64 x309000_63, .int .i64 t304, .int .i64 t305, .int .i64 t306, .string t307] 33 (0, 0)) (bk_ BK308) hb); have n5_ := Aside0.mk (below_step (hb4_ HB GE293 GE294 GE295 GE308) hb); clear BK293; clear BK294; clear BK295; clear BK308; clear HB; have HO311 := n0_; have BK293 := n1_; have BK294 := n2_; have BK295 := n3_; have BK308 := n4_; have HB := n5_; clear n0_ n1_ n2_ n3_ n4_ n5_; (try clear hb); (try clear hb2); (try clear hk); (try clear hi); (try clear ho0)) | ((with_reducible refine gate_dst (N := 14) rfl ?_); refine box_event ?hg (N := 14) ?hd (cs := #[.int .i64 0, .int .i64 0, .int .i64 0]) (t := 29) ?hr ?_; (case hd => rfl); (case hg => rfl); (case hr => first | (go_simp; done) | (go_simp; rfl)); intro gb316 hg w159 hbox hb; have n0_ := Aside0.mk (Kd.R_below (ro_ HO311) hb); have n1_ := Aside0.mk (blk_below (g := gb293) (o := .cells #[.int .i64 a1_0, .int .i64 a1_1, .int .i64 a1_2] 29 (0, 0)) (bk_ BK293) hb); have n2_ := Aside0.mk (blk_below (g := gb294) (o := .cells #[.int .i64 a2_0, .int .i64 a2_1, .int .i64 a2_2, .int .i64 a2_3, .string a2_4] 33 (0, 0)) (bk_ BK294) hb); have n3_ := Aside0.mk (blk_below (g := gb295) (o := .cells #[.int .i64 x296000_2, .int .i64 x296001_2, .int .i64 x296002_2, .int .i64 x296003_2, .string x296004_2] 33 (0, 0)) (bk_ BK295) hb); have n4_ := Aside0.mk (blk_below (g := gb308) (o := .cells #[.int .i64 x309000_63, .int .i64 t304, .int .i64 t305, .int .i64 t306, .string t307] 33 (0, 0)) (bk_ BK308) hb); have n5_ := Aside0.mk (below_step (hb4_ HB GE293 GE294 GE295 GE308) hb); have n6_ := Aside0.mk (hbox); have n7_ := Aside0.mk ((by rw [hg]; exact (below_size (hb4_ HB GE293 GE294 GE295 GE308)) : w.heap.size ≤ gb316)); have n8_ := Aside0.mk ((by rw [hg]; exact (below_size (hb4_ HB GE293 GE294 GE295 GE308)) : w.heap.size ≤ gb316)); have n9_ := Aside0.mk ((by rw [hg]; exact Nat.ne_of_lt (blk_lt (g := gb293) (o := .cells #[.int .i64 a1_0, .int .i64 a1_1, .int .i64 a1_2] 29 (0, 0)) (bk_ BK293)) : gb293 ≠ gb316)); have n10_ := Aside0.mk ((by rw [hg]; exact Nat.ne_of_gt (blk_lt (g := gb293) (o := .cells #[.int .i64 a1_0, .int .i64 a1_1, .int .i64 a1_2] 29 (0, 0)) (bk_ BK293)) : gb316 ≠ gb293)); have n11_ := Aside0.mk ((by rw [hg]; exact Nat.ne_of_lt (blk_lt (g := gb294) (o := .cells #[.int .i64 a2_0, .int .i64 a2_1, .int .i64 a2_2, .int .i64 a2_3, .string a2_4] 33 (0, 0)) (bk_ BK294)) : gb294 ≠ gb316)); have n12_ := Aside0.mk ((by rw [hg]; exact Nat.ne_of_gt (blk_lt (g := gb294) (o := .cells #[.int .i64 a2_0, .int .i64 a2_1, .int .i64 a2_2, .int .i64 a2_3, .string a2_4] 33 (0, 0)) (bk_ BK294)) : gb316 ≠ gb294)); have n13_ := Aside0.mk ((by rw [hg]; exact Nat.ne_of_lt (blk_lt (g := gb295) (o := .cells #[.int .i64 x296000_2, .int .i64 x296001_2, .int .i64 x296002_2, .int .i64 x296003_2, .string x296004_2] 33 (0, 0)) (bk_ BK295)) : gb295 ≠ gb316)); have n14_ := Aside0.mk ((by rw [hg]; exact Nat.ne_of_gt (blk_lt (g := gb295) (o := .cells #[.int .i64 x296000_2, .int .i64 x296001_2, .int .i64 x296002_2, .int .i64 x296003_2, .string x296004_2] 33 (0, 0)) (bk_ BK295)) : gb316 ≠ gb295)); have n15_ := Aside0.mk ((by rw [hg]; exact Nat.ne_of_lt (blk_lt (g := gb308) (o := .cells #[.int .i64 x309000_63, .int .i64 t304, .int .i64 t305, .int .i64 t306, .string t307] 33 (0, 0)) (bk_ BK308)) : gb308 ≠ gb316)); have n16_ := Aside0.mk ((by rw [hg]; exact Nat.ne_of_gt (blk_lt (g := gb308) (o := .cells #[.int .i64 x309000_63, .int .i64 t304, .int .i64 t305, .int .i64 t306, .string t307] 33 (0, 0)) (bk_ BK308)) : gb316 ≠ gb308)); clear HO311; clear BK293; clear BK294; clear BK295; clear BK308; clear HB; have HO311 := n0_; have BK293 := n1_; have BK294 := n2_; have BK295 := n3_; have BK308 := n4_; have HB := n5_; have BK316 := n6_; have GW316 := n7_; have GE316 := n8_; have NB293_316 := n9_; have NB316_293 := n10_; have NB294_316 := n11_; have NB316_294 := n12_; have NB295_316 := n13_; have NB316_295 := n14_; have NB308_316 := n15_; have NB316_308 := n16_; clear n0_ n1_ n2_ n3_ n4_ n5_ n6_ n7_ n8_ n9_ n10_ n11_ n12_ n13_ n14_ n15_ n16_; clear hb hbox hg; have hnb160 := NB316_293.out; have hnc160 := NB293_316.out; have hnb161 := NB316_294.out; have hnc161 := NB294_316.out; have hnb162 := NB316_295.out; have hnc162 := NB295_316.out; have hnb163 := NB316_308.out; have hnc163 := NB308_316.out; have hcz164_0 : w159.cell? ⟨gb316, 0, none⟩ = some (.int .i64 0) := (blk_cell BK316.out 0).trans rfl; have hcz164_1 : w159.cell? ⟨gb316, 1, none⟩ = some (.int .i64 0) := (blk_cell BK316.out 1).trans rfl; have hcz164_2 : w159.cell? ⟨gb316, 2, none⟩ = some (.int .i64 0) := (blk_cell BK316.out 2).trans rfl; have hfz164_0 := blk_frozen BK316.out 0; have hfz164_1 := blk_frozen BK316.out 1; have hfz164_2 := blk_frozen BK316.out 2; have hnb165 := NB295_293.out; have hnc165 := NB293_295.out; have hcz166_0 : w159.cell? ⟨gb295, 0, none⟩ = some (.int .i64 x296000_2) := (blk_cell BK295.out 0).trans rfl; have hcz166_1 : w159.cell? ⟨gb295, 1, none⟩ = some (.int .i64 x296001_2) := (blk_cell BK295.out 1).trans rfl; have hcz166_2 : w159.cell? ⟨gb295, 2, none⟩ = some (.int .i64 x296002_2) := (blk_cell BK295.out 2).trans rfl; have hcz166_3 : w159.cell? ⟨gb295, 3, none⟩ = some (.int .i64 x296003_2) := (blk_cell BK295.out 3).trans rfl; have hcz166_4 : w159.cell? ⟨gb295, 4, none⟩ = some (.string x296004_2) := (blk_cell BK295.out 4).trans rfl; have hfz166_0 := blk_frozen BK295.out 0; have hfz166_1 := blk_frozen BK295.out 1; have hfz166_2 := blk_frozen BK295.out 2; have hfz166_3 := blk_frozen BK295.out 3; have hfz166_4 := blk_frozen BK295.out 4))
          refine bodyPost_ret (results_ct rfl _ _ gb295 33 #[.int .i64 0, .int .i64 0, .int .i64 0, .int .i64 0, .string (⟨#[]⟩ : ByteArray)] (0, 0) _ rfl (by (with_reducible repeat (first | refine blk_drewN ?_ _ | refine blk_drew ?_ | refine blk_alloc ?_ _)); refine blk_put (cs := #[.int .i64 0, .int .i64 0, .int .i64 0, .int .i64 0, .string x296004_2]) ?_ 4 _ rfl; (with_reducible repeat (first | refine blk_drewN ?_ _ | refine blk_drew ?_ | refine blk_alloc ?_ _)); refine blk_put (cs := #[.int .i64 0, .int .i64 0, .int .i64 0, .int .i64 x296003_2, .string x296004_2]) ?_ 3 _ rfl; (with_reducible repeat (first | refine blk_drewN ?_ _ | refine blk_drew ?_ | refine blk_alloc ?_ _)); refine blk_put (cs := #[.int .i64 0, .int .i64 0, .int .i64 x296002_2, .int .i64 x296003_2, .string x296004_2]) ?_ 2 _ rfl; (with_reducible repeat (first | refine blk_drewN ?_ _ | refine blk_drew ?_ | refine blk_alloc ?_ _)); refine blk_put (cs := #[.int .i64 0, .int .i64 x296001_2, .int .i64 x296002_2, .int .i64 x296003_2, .string x296004_2]) ?_ 1 _ rfl; (with_reducible repeat (first | refine blk_drewN ?_ _ | refine blk_drew ?_ | refine blk_alloc ?_ _)); refine blk_put (cs := #[.int .i64 x296000_2, .int .i64 x296001_2, .int .i64 x296002_2, .int .i64 x296003_2, .string x296004_2]) ?_ 0 _ rfl; (with_reducible repeat (first | refine blk_drewN ?_ _ | refine blk_drew ?_ | refine blk_alloc ?_ _)); refine blk_far ?_ NB295_316.out _; (with_reducible repeat (first | refine blk_drewN ?_ _ | refine blk_drew ?_ | refine blk_alloc ?_ _)); refine blk_far ?_ NB295_316.out _; (with_reducible repeat (first | refine blk_drewN ?_ _ | refine blk_drew ?_ | refine blk_alloc ?_ _)); refine blk_far ?_ NB295_316.out _; (with_reducible repeat (first | refine blk_drewN ?_ _ | refine blk_drew ?_ | refine blk_alloc ?_ _)); exact BK295.out) Tryd.underlying33 rfl (by kernel_rfl)) rfl ?_
          exact ⟨by first | rfl | (simp [errW_none, errW_some] <;> rfl) | (simp [*, errW_none, errW_some] <;> rfl), by repeat (first | (with_reducible first | exact HB.out | apply below_alloc | apply pw_below_drewN | apply below_drew1 | refine below_set ?_ GE293.out | refine below_set ?_ GE294.out | refine below_set ?_ GE295.out | refine below_set ?_ GE308.out | refine below_set ?_ GE316.out) | exact HB.out)⟩

end Go.Proofs.YtmkmpjkgpnahnaaDoor.P
