/- Ln31. -/
import Derived.Test.YtagplldaooipmaaGreatDoorLn30
import Derived.Deep.Cut
import Derived.Deep.CutRange
import Derived.Deep.DeepCutAuto
import Derived.Deep.CutBlock
namespace Go.Proofs.YtagplldaooipmaaGreatDoor
open Go.RowKit
theorem rd_new (w : World) (N : Nat) (hN : w.heap.size = N) (cs : List Value) (T : TypeId) : Rd (w.alloc (.cells cs.toArray T)) (N + 1) (.slice (some ⟨N, 0, none⟩) 1 1) 1 cs := by subst hN; exact Rd.new w cs T
theorem own_block_lt {w : World} {base size n : Nat} {e : TypeId} {v : Value} {xs : List Value} (h : w.ownsRow base e size v n xs) : ∀ g, v.ownBlock = some g → g < w.heap.size := by
  rcases h.2 with ⟨rfl, rfl⟩ | ⟨g, cap, cur, rfl, h0, hg, h1⟩
  · intro g hg; simp [Value.ownBlock] at hg
  · intro g' hg'; simp [Value.ownBlock] at hg'; subst hg'; exact lt_of_heap hg
end Go.Proofs.YtagplldaooipmaaGreatDoor
