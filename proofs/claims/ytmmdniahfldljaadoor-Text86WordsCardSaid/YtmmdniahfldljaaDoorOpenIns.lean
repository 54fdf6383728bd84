/- An instruction as an argument. -/
import Derived.Test.YtmmdniahfldljaaDoorOpen
import Derived.Lib.SmallJoins
import Derived.Test.YtmmdniahfldljaaDoorT86c
namespace Go.Proofs.YtmmdniahfldljaaDoor
open Go.RowKit Go.ChangeShapes Go.WideShapes Go.Deep

theorem fields_ins : ∃ f0 f1 f2 f3 : Field, Tryd.prog.underlying 24 = some (.struct #[f0, f1, f2, f3]) ∧ oneCellFields Tryd.prog #[f0, f1, f2, f3] = true ∧ f0.type = 3 ∧ f1.type = 3 ∧ f2.type = 3 ∧ f3.type = 22 :=
  ⟨_, _, _, _, Tryd.underlying24, by kernel_rfl, rfl, rfl, rfl, rfl⟩
theorem cells_ins : Tryd.prog.cellsOf 24 = 4 := by kernel_rfl
set_option maxRecDepth 100000 in
theorem open_ins {H : Type} {enc : TypeId × Value → H} {W : World} {base : Nat} {v : Value} {d : DataW H} {ps : List MemPlace} (hv : Value.okWide Tryd.prog W .any base 24 v)
    (h : DataW.Trod enc Tryd.prog W 0 (fun _ => true) true 24 v d ps) : ∃ (op dd ss : Int) (n : Nat), v = .agg #[.int .i64 op, .int .i64 dd, .int .i64 ss, .int .u16 (n : Int)] ∧ n ≤ 65535 ∧ -9223372036854775808 ≤ op ∧ op ≤ 9223372036854775807 ∧ -9223372036854775808 ≤ dd ∧ dd ≤ 9223372036854775807 ∧ -9223372036854775808 ≤ ss ∧ ss ≤ 9223372036854775807 := by
  obtain ⟨f0, f1, f2, f3, hs, hone, t0, t1, t2, t3⟩ := fields_ins
  obtain ⟨v0, v1, v2, v3, y0, y1, y2, y3, n, rfl, _, _, r0, r1, r2, r3⟩ := Joins.open_agg4 hs hone cells_ins hv h
  rw [t0] at r0
  rw [t1] at r1
  rw [t2] at r2
  rw [t3] at r3
  obtain ⟨n0, g0, _, wf0⟩ := DataW.trod_int Tryd.underlying3 r0
  obtain ⟨n1, g1, _, wf1⟩ := DataW.trod_int Tryd.underlying3 r1
  obtain ⟨n2, g2, _, wf2⟩ := DataW.trod_int Tryd.underlying3 r2
  obtain ⟨n3, g3, _, wf3⟩ := DataW.trod_int Tryd.underlying22 r3
  have b0 := _root_.Go.bounds_i64 wf0
  have b1 := _root_.Go.bounds_i64 wf1
  have b2 := _root_.Go.bounds_i64 wf2
  have b3 := _root_.Go.bounds_u16 wf3
  simp at g0 g1 g2 g3
  subst g0 g1 g2 g3
  exact ⟨n0, n1, n2, n3.toNat, by rw [Int.toNat_of_nonneg b3.1], by omega, b0.1, b0.2, b1.1, b1.2, b2.1, b2.2⟩
end Go.Proofs.YtmmdniahfldljaaDoor
