/- law12: alive. -/
import Derived.Test.YtpcpjghfcimblaaGreatDoorLn33
import Derived.Test.YtpcpjghfcimblaaGreatDoorLn31
namespace Go.Proofs.YtpcpjghfcimblaaGreatDoor
open Go.RowKit

def stA1 : St := ⟨[76, 49], true, [77, 86, 73], [⟨[65], [], false, false, ex0⟩, ⟨[], [], false, false, .mk sNum 255 [] []⟩]⟩
def stA2 : St := ⟨[88], false, sEQU, [⟨[], [], false, false, .mk sNum 5 [] []⟩]⟩
theorem al_p1 : parseS 0 [108, 49, 58, 32, 109, 118, 105, 32, 97, 32, 44, 32, 48, 102, 102, 104] = (stA1, 0) := by rfl
theorem al_p2 : parseS 0 [120, 32, 101, 113, 117, 32, 53] = (stA2, 0) := by rfl
theorem al_s1 : showS 0 stA1 = ([76, 49, 58, 32, 77, 86, 73, 32, 65, 44, 48, 70, 70, 72], 0) := by rfl
theorem al_s2 : showS 0 stA2 = ([88, 32, 69, 81, 85, 32, 53], 0) := by rfl
set_option maxHeartbeats 2000000 in
set_option maxRecDepth 100000 in
theorem alive12_any (w : World) (hg : GWL w) : Calls Tryz.prog 7 #[] w fun e w' => e = .returned (.bool true) ∧ Below w.heap.size w w' := by
  have HP1 := Lib.hid (parse12_any 0 [108, 49, 58, 32, 109, 118, 105, 32, 97, 32, 44, 32, 48, 102, 102, 104] w hg (by simp))
  have HF1 := Lib.hid (parse_fitS 0 [108, 49, 58, 32, 109, 118, 105, 32, 97, 32, 44, 32, 48, 102, 102, 104])
  have HP2 := Lib.hid (fun W (hW : GWL W) => parse12_any 0 [120, 32, 101, 113, 117, 32, 53] W hW (by simp))
  have HF2 := Lib.hid (parse_fitS 0 [120, 32, 101, 113, 117, 32, 53])
  rw [al_p1] at HP1 HF1
  rw [al_p2] at HP2 HF2
  have HS1 := Lib.hid (fun v W (hW : GWL W) hs => show12_any 0 stA1 v W hW HF1.out hs)
  have HS2 := Lib.hid (fun v W (hW : GWL W) hs => show12_any 0 stA2 v W hW HF2.out hs)
  rw [al_s1] at HS1
  rw [al_s2] at HS2
  clear HF1 HF2
  go_enter Tryz.func7, Tryz.ntmps7
  go_wp2_with fail
  refine HP1.out.mono ?_
  rintro e w1 ⟨v1, rfl, ha1, hb1⟩
  obtain ⟨A1, c1, rfl, _, _⟩ := ha1.form
  have B1 := Lib.hid hb1
  have S1 := Lib.hid (ha1.keep (w' := w1.alloc (.cells #[.string ⟨stA1.label.toArray⟩, .bool stA1.colon, .string ⟨stA1.op.toArray⟩, .slice A1 stA1.args.length c1] 32)) (fun p hp => World.cell?_alloc_lt _ _ _ hp.2) (S' := (· < (w1.alloc (.cells #[.string ⟨stA1.label.toArray⟩, .bool stA1.colon, .string ⟨stA1.op.toArray⟩, .slice A1 stA1.args.length c1] 32)).heap.size)) (fun g hg => by have := hg.2; simp; omega))
  have B1' := Lib.hid (B1.out.alloc B1.out.size (.cells #[.string ⟨stA1.label.toArray⟩, .bool stA1.colon, .string ⟨stA1.op.toArray⟩, .slice A1 stA1.args.length c1] 32))
  clear ha1 hb1
  go_wp2_with fail
  refine (HS1.out _ _ (hg.below B1'.out) S1.out).mono ?_
  rintro e w2 ⟨rfl, hb2⟩
  have B2 := Lib.hid (bthen B1'.out hb2)
  clear hb2 S1
  go_wp2_with fail
  refine (HP2.out _ (hg.below B2.out)).mono ?_
  rintro e w3 ⟨v3, rfl, ha3, hb3⟩
  obtain ⟨A3, c3, rfl, _, _⟩ := ha3.form
  have B3 := Lib.hid (bthen B2.out hb3)
  have S3 := Lib.hid (ha3.keep (w' := w3.alloc (.cells #[.string ⟨stA2.label.toArray⟩, .bool stA2.colon, .string ⟨stA2.op.toArray⟩, .slice A3 stA2.args.length c3] 32)) (fun p hp => World.cell?_alloc_lt _ _ _ hp.2) (S' := (· < (w3.alloc (.cells #[.string ⟨stA2.label.toArray⟩, .bool stA2.colon, .string ⟨stA2.op.toArray⟩, .slice A3 stA2.args.length c3] 32)).heap.size)) (fun g hg => by have := hg.2; simp; omega))
  have B3' := Lib.hid (B3.out.alloc B3.out.size (.cells #[.string ⟨stA2.label.toArray⟩, .bool stA2.colon, .string ⟨stA2.op.toArray⟩, .slice A3 stA2.args.length c3] 32))
  clear ha3 hb3
  go_wp2_with fail
  refine (HS2.out _ _ (hg.below B3'.out) S3.out).mono ?_
  rintro e w4 ⟨rfl, hb4⟩
  have B4 := Lib.hid (bthen B3'.out hb4)
  clear hb4 S3
  go_wp2_with fail
  go_ret
  exact ⟨rfl, B4.out⟩
end Go.Proofs.YtpcpjghfcimblaaGreatDoor
