/- Kq. -/
import Derived.Test.YtagplldaooipmaaGreatDoorKo
import Derived.Test.YtagplldaooipmaaGreatDoorKj
import Derived.Test.YtagplldaooipmaaGreatDoorKl
import Derived.Test.YtagplldaooipmaaGreatDoorKe
import Derived.IntWalk
import Derived.Deep.RegionWith
import Derived.RegionTactic
import Derived.BigRegion
namespace Go.Proofs.YtagplldaooipmaaGreatDoor
open Go.RowKit
end Go.Proofs.YtagplldaooipmaaGreatDoor
/- line: operand. -/
namespace Go.Proofs.YtagplldaooipmaaGreatDoor
open Go.RowKit
theorem SubAt.set {w : World} {S : Nat → Prop} {v : Value} {s : List Ex} {b : Nat} (h : SubAt w S v s) (hS : ∀ g, S g → g ≠ b) (i : Nat) (u : Value) : SubAt (w.setCell ⟨b, i, none⟩ u) S v s :=
  h.keep (fun p hp => World.cell?_of_block (Below.heap_setCell w ⟨b, i, none⟩ u p.block (hS _ hp))) (fun _ h => h)
end Go.Proofs.YtagplldaooipmaaGreatDoor
/- line: operand, an expression. -/
namespace Go.Proofs.YtagplldaooipmaaGreatDoor
open Go.RowKit
theorem SubAt.set8 {w : World} {S : Nat → Prop} {v : Value} {s : List Ex} {b : Nat} (h : SubAt w S v s) (hS : ∀ g, S g → g ≠ b) (u0 u1 u2 u3 u4 u5 u6 u7 : Value) : SubAt ((((((((w.setCell ⟨b, 0, none⟩ u0).setCell ⟨b, 1, none⟩ u1).setCell ⟨b, 2, none⟩ u2).setCell ⟨b, 3, none⟩ u3).setCell ⟨b, 4, none⟩ u4).setCell ⟨b, 5, none⟩ u5).setCell ⟨b, 6, none⟩ u6).setCell ⟨b, 7, none⟩ u7) S v s :=
  (((((((h.set hS _ _).set hS _ _).set hS _ _).set hS _ _).set hS _ _).set hS _ _).set hS _ _).set hS _ _
end Go.Proofs.YtagplldaooipmaaGreatDoor
