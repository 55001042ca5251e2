/-
  The example of layer 29's laws, walked by hand: it is true (printed by wip/gen29a.py). Conditions: the two tables of unicode/utf8 as they are laid.
-/
import Derived.Test.YtmkmpjkgpnahnaaDoorIncl
import Derived.Test.YtmkmpjkgpnahnaaDoorRow29
namespace Go.Proofs.YtmkmpjkgpnahnaaDoor.X
open Go Go.RowKit Go.Shelf Go.Proofs.YtmkmpjkgpnahnaaDoorW.PrintWords Go.Proofs.YtmkmpjkgpnahnaaDoor.P
set_option linter.unusedVariables false
theorem incl_ab : plain_Incl.f 1 1 3 0 ⟨#[120]⟩ 2 2 1 4 ⟨#[]⟩ 6 = some ([(⟨1, 1, 1, 0, ⟨#[120]⟩⟩ : S33)], 1, 2, 0, 0) := by kernel_rfl
theorem incl_ba : plain_Incl.f 2 2 1 4 ⟨#[]⟩ 1 1 3 0 ⟨#[120]⟩ 6 = some ([(⟨2, 2, 4, 2, ⟨#[]⟩⟩ : S33), ⟨2, 2, 1, 2, ⟨#[]⟩⟩], 0, 0, 0, 0) := by kernel_rfl
def foolscaplaw29_alive.f : Option Bool := some true
set_option maxRecDepth 100000 in
set_option maxHeartbeats 4000000 in
theorem foolscaplaw29_alive.calls (r : Bool) (w : World) (hT : Aside0 (XAmb w)) (h : foolscaplaw29_alive.f = some r) :
    Calls Tryd.prog 8 #[] w fun e w' => e = .returned (.bool r) ∧ Below w.heap.size w w' := by
  obtain rfl := Option.some.inj h
  have HB0 := Lib.hid (((Bxs.start w).new #[.int .i64 1, .int .i64 1, .int .i64 3, .int .i64 0, .string (⟨#[120]⟩ : ByteArray)] 33).new #[.int .i64 2, .int .i64 2, .int .i64 1, .int .i64 4, .string (⟨#[]⟩ : ByteArray)] 33)
  have hu33 := Tryd.underlying33
  have hu29 := Tryd.underlying29
  go_enter Tryd.func8, Tryd.ntmps8
  go_upto_region 3 with fail
  obtain ⟨W1, hW1⟩ : ∃ x, (w.alloc (.cells #[.int .i64 1, .int .i64 1, .int .i64 3, .int .i64 0, .string (⟨#[120]⟩ : ByteArray)] 33)).alloc (.cells #[.int .i64 2, .int .i64 2, .int .i64 1, .int .i64 4, .string (⟨#[]⟩ : ByteArray)] 33) = x := ⟨_, rfl⟩
  have HX : Hid (Bxs w [((w.heap.size + 1), #[.int .i64 2, .int .i64 2, .int .i64 1, .int .i64 4, .string (⟨#[]⟩ : ByteArray)], 33), (w.heap.size, #[.int .i64 1, .int .i64 1, .int .i64 3, .int .i64 0, .string (⟨#[120]⟩ : ByteArray)], 33)] W1) := by
    rw [← hW1]
    simpa [Hid] using HB0.out
  rw [hW1]
  clear hW1 HB0
  have c1_0 : W1.cell? ⟨w.heap.size, 0, none⟩ = some (.int .i64 1) := (HX.out.cell 1 rfl 0).trans rfl
  have c1_1 : W1.cell? ⟨w.heap.size, 1, none⟩ = some (.int .i64 1) := (HX.out.cell 1 rfl 1).trans rfl
  have c1_2 : W1.cell? ⟨w.heap.size, 2, none⟩ = some (.int .i64 3) := (HX.out.cell 1 rfl 2).trans rfl
  have c1_3 : W1.cell? ⟨w.heap.size, 3, none⟩ = some (.int .i64 0) := (HX.out.cell 1 rfl 3).trans rfl
  have c1_4 : W1.cell? ⟨w.heap.size, 4, none⟩ = some (.string (⟨#[120]⟩ : ByteArray)) := (HX.out.cell 1 rfl 4).trans rfl
  have c0_0 : W1.cell? ⟨(w.heap.size + 1), 0, none⟩ = some (.int .i64 2) := (HX.out.cell 0 rfl 0).trans rfl
  have c0_1 : W1.cell? ⟨(w.heap.size + 1), 1, none⟩ = some (.int .i64 2) := (HX.out.cell 0 rfl 1).trans rfl
  have c0_2 : W1.cell? ⟨(w.heap.size + 1), 2, none⟩ = some (.int .i64 1) := (HX.out.cell 0 rfl 2).trans rfl
  have c0_3 : W1.cell? ⟨(w.heap.size + 1), 3, none⟩ = some (.int .i64 4) := (HX.out.cell 0 rfl 3).trans rfl
  have c0_4 : W1.cell? ⟨(w.heap.size + 1), 4, none⟩ = some (.string (⟨#[]⟩ : ByteArray)) := (HX.out.cell 0 rfl 4).trans rfl
  go_wp2_with fail
  refine (plain_Incl.calls 1 1 3 0 ⟨#[120]⟩ 2 2 1 4 ⟨#[]⟩ 6 [(⟨1, 1, 1, 0, ⟨#[120]⟩⟩ : S33)] 1 2 0 0 _ (XAmb_step hT HX.out.below) incl_ab).mono ?_
  rintro e W2 ⟨v1, rfl, hR, hb⟩
  have HY := Lib.hid (HX.out.keep hb)
  have HR1 := Lib.hid (Kd.R_lower hR HX.out.below.size)
  clear HX
  have HX := HY
  clear HY hb hR c1_0 c1_1 c1_2 c1_3 c1_4 c0_0 c0_1 c0_2 c0_3 c0_4
  go_upto_region 4 with fail
  have HS := Lib.hid (Kd.R_alloc HR1.out (.cells #[.int .i64 1, .int .i64 2, .int .i64 0] 29 (0, 0)))
  clear HR1
  have HR1 := HS
  clear HS
  obtain ⟨W3, hW_⟩ : ∃ x, W2.alloc (.cells #[.int .i64 1, .int .i64 2, .int .i64 0] 29) = x := ⟨_, rfl⟩
  have HY := Lib.hid (HX.out.new #[.int .i64 1, .int .i64 2, .int .i64 0] 29)
  rw [hW_] at HY HR1
  rw [hW_]
  clear HX
  have HX := HY
  clear HY hW_
  have c2_0 : W3.cell? ⟨w.heap.size, 0, none⟩ = some (.int .i64 1) := (HX.out.cell 2 rfl 0).trans rfl
  have c2_1 : W3.cell? ⟨w.heap.size, 1, none⟩ = some (.int .i64 1) := (HX.out.cell 2 rfl 1).trans rfl
  have c2_2 : W3.cell? ⟨w.heap.size, 2, none⟩ = some (.int .i64 3) := (HX.out.cell 2 rfl 2).trans rfl
  have c2_3 : W3.cell? ⟨w.heap.size, 3, none⟩ = some (.int .i64 0) := (HX.out.cell 2 rfl 3).trans rfl
  have c2_4 : W3.cell? ⟨w.heap.size, 4, none⟩ = some (.string (⟨#[120]⟩ : ByteArray)) := (HX.out.cell 2 rfl 4).trans rfl
  have c1_0 : W3.cell? ⟨(w.heap.size + 1), 0, none⟩ = some (.int .i64 2) := (HX.out.cell 1 rfl 0).trans rfl
  have c1_1 : W3.cell? ⟨(w.heap.size + 1), 1, none⟩ = some (.int .i64 2) := (HX.out.cell 1 rfl 1).trans rfl
  have c1_2 : W3.cell? ⟨(w.heap.size + 1), 2, none⟩ = some (.int .i64 1) := (HX.out.cell 1 rfl 2).trans rfl
  have c1_3 : W3.cell? ⟨(w.heap.size + 1), 3, none⟩ = some (.int .i64 4) := (HX.out.cell 1 rfl 3).trans rfl
  have c1_4 : W3.cell? ⟨(w.heap.size + 1), 4, none⟩ = some (.string (⟨#[]⟩ : ByteArray)) := (HX.out.cell 1 rfl 4).trans rfl
  go_wp2_with fail
  refine (plain_Incl.calls 2 2 1 4 ⟨#[]⟩ 1 1 3 0 ⟨#[120]⟩ 6 [(⟨2, 2, 4, 2, ⟨#[]⟩⟩ : S33), ⟨2, 2, 1, 2, ⟨#[]⟩⟩] 0 0 0 0 _ (XAmb_step hT HX.out.below) incl_ba).mono ?_
  rintro e W4 ⟨v2, rfl, hR, hb⟩
  have HY := Lib.hid (HX.out.keep hb)
  have HS := Lib.hid (Kd.R_below HR1.out hb)
  have HR2 := Lib.hid (Kd.R_lower hR HX.out.below.size)
  clear HX HR1
  have HX := HY
  have HR1 := HS
  clear HY HS hb hR c2_0 c2_1 c2_2 c2_3 c2_4 c1_0 c1_1 c1_2 c1_3 c1_4
  go_upto_region 5 with fail
  have HS := Lib.hid (Kd.R_alloc HR1.out (.cells #[.int .i64 0, .int .i64 0, .int .i64 0] 29 (0, 0)))
  have HS2 := Lib.hid (Kd.R_alloc HR2.out (.cells #[.int .i64 0, .int .i64 0, .int .i64 0] 29 (0, 0)))
  clear HR1 HR2
  have HR1 := HS
  have HR2 := HS2
  clear HS HS2
  obtain ⟨W5, hW_⟩ : ∃ x, W4.alloc (.cells #[.int .i64 0, .int .i64 0, .int .i64 0] 29) = x := ⟨_, rfl⟩
  have HY := Lib.hid (HX.out.new #[.int .i64 0, .int .i64 0, .int .i64 0] 29)
  rw [hW_] at HY HR1 HR2
  rw [hW_]
  clear HX
  have HX := HY
  clear HY hW_
  obtain ⟨g1, k1, rfl, hk1, hc1⟩ := row33 HR1.out (by simp)
  obtain ⟨g2, k2, rfl, hk2, hc2⟩ := row33 HR2.out (by simp)
  have q1 : W5.cell? ⟨g1, 2, none⟩ = some (.int .i64 1) := (hc1 0 (by simp)).2.2.1
  have q2 : W5.cell? ⟨g2, 2, none⟩ = some (.int .i64 4) := (hc2 0 (by simp)).2.2.1
  have q3 : W5.cell? ⟨g2, 8, none⟩ = some (.int .i64 2) := (hc2 1 (by simp)).2.2.2.1
  clear hc1 hc2 hk1 hk2
  have c1_0 : W5.cell? ⟨W2.heap.size, 0, none⟩ = some (.int .i64 1) := (HX.out.cell 1 rfl 0).trans rfl
  have c1_1 : W5.cell? ⟨W2.heap.size, 1, none⟩ = some (.int .i64 2) := (HX.out.cell 1 rfl 1).trans rfl
  have c1_2 : W5.cell? ⟨W2.heap.size, 2, none⟩ = some (.int .i64 0) := (HX.out.cell 1 rfl 2).trans rfl
  go_wp2
  go_ret
  exact ⟨rfl, HX.out.below⟩
end Go.Proofs.YtmkmpjkgpnahnaaDoor.X
