/- Law5a. -/
import Derived.Test.YtagplldaooipmaaGreatDoorKg
import Derived.Test.YtagplldaooipmaaGreatDoorKi
namespace Go.Proofs.YtagplldaooipmaaGreatDoor
open Go.RowKit
theorem box_at {w wr:World} {cs:Array Value} {T:TypeId} (hb:Below (w.heap.size + 1) (w.alloc (.cells cs T)) wr) (i:Nat) (u:Value) (hu:cs[i]? = some u):wr.cell? ⟨w.heap.size,i,none⟩=some u:=by
 rw [hb.cell (p:=⟨w.heap.size,i,none⟩) (by simp),cell_of_heap (heap_alloc_new w _)]
 exact hu
end Go.Proofs.YtagplldaooipmaaGreatDoor
