/- text86.Op; the document's lists. -/
import Derived.Test.YtmmdniahfldljaaDoorT86a
namespace Go.Proofs.YtmmdniahfldljaaDoor
open Go.RowKit

def OpRel (s : List UInt8) (w : World) (i : Value) (wr : World) : Prop := ∃ k : Nat, k ≤ 3 ∧ i = .int .i64 k ∧ (1 ≤ k → (codeL plainW 1 s).2 = false) ∧ (2 ≤ k → (codeL equalW 42 s).2 = false) ∧ (3 ≤ k → (codeL signW 48 s).2 = false) ∧ Below w.heap.size w wr
end Go.Proofs.YtmmdniahfldljaaDoor
