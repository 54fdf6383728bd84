/- law17: alive. -/
import Derived.Test.YtiipkfgceiongaaGreatDoorDs13
namespace Go.Proofs.YtiipkfgceiongaaGreatDoor
open Go.RowKit

def no86 : Nat → List UInt8 → St × Nat × Int := fun _ _ => dbD 0
theorem al17 : textD no86 0 0 [0xc3, 0, 0] = ([79, 82, 71, 32, 48, 10, 76, 48, 48, 48, 48, 58, 32, 74, 77, 80, 32, 76, 48, 48, 48, 48, 10], 0) := by rfl
theorem rd_three (w : World) (x y z : Value) (T : TypeId) : Rd (w.alloc (.cells #[x, y, z] T)) (w.alloc (.cells #[x, y, z] T)).heap.size (.slice (some ⟨w.heap.size, 0, none⟩) 3 3) 3 [x, y, z] := by
  have h := heap_alloc_new w (.cells #[x, y, z] T)
  refine ⟨some ⟨w.heap.size, 0, none⟩, 3, rfl, Nat.le_refl _, fun _ => ⟨w.heap.size, 0, rfl, by simp, ?_⟩⟩
  intro j u hj
  rw [Nat.zero_add, Lib.cell_of_heap h]
  simpa using hj
set_option maxHeartbeats 2000000 in
set_option maxRecDepth 100000 in
theorem alive17_any (w : World) (hg : GWL w) : Calls Tryz.prog 12 #[] w fun e w' => e = .returned (.bool true) ∧ Below w.heap.size w w' := by
  have B1 := Lib.hid ((Below.refl w.heap.size w).alloc (Nat.le_refl _) (.cells #[.int .u8 195, .int .u8 0, .int .u8 0] 5))
  have R1 : Hid (RdB (w.alloc (.cells #[.int .u8 195, .int .u8 0, .int .u8 0] 5)) (w.alloc (.cells #[.int .u8 195, .int .u8 0, .int .u8 0] 5)).heap.size (.slice (some ⟨w.heap.size, 0, none⟩) 3 3) [195, 0, 0]) := Lib.hid (rd_three w _ _ _ _)
  have HT := Lib.hid (Text80_any no86 0 0 [195, 0, 0] _ _ (hg.below B1.out) R1.out (by simp) (by simp))
  rw [al17] at HT
  go_enter Tryz.func12, Tryz.ntmps12
  go_wp2_with fail
  refine HT.out.mono ?_
  rintro e w1 ⟨rfl, hb1⟩
  have B2 := Lib.hid (bthen B1.out hb1)
  clear hb1
  go_wp2_with fail
  go_ret
  exact ⟨rfl, B2.out⟩
end Go.Proofs.YtiipkfgceiongaaGreatDoor
