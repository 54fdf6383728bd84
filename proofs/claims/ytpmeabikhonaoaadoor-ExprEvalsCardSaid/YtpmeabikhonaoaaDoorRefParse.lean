/- The reference's Parse. -/
import Derived.Test.YtpmeabikhonaoaaDoorRefUpper
import Derived.Test.YtpmeabikhonaoaaDoorKa
import Derived.Deep.DeepCutAuto
import Derived.Deep.CutBlock
namespace Go.Proofs.YtpmeabikhonaoaaDoor
open Go.RowKit

theorem base_ways (c : UInt8) :
    (((c.toNat : Int) == 72) = true ∧ baseN c = 16 ∧ baseC c = true) ∨
    (((c.toNat : Int) == 72) = false ∧ ((c.toNat : Int) == 79) = true ∧ baseN c = 8 ∧ baseC c = true) ∨
    (((c.toNat : Int) == 72) = false ∧ ((c.toNat : Int) == 79) = false ∧ ((c.toNat : Int) == 81) = true ∧ baseN c = 8 ∧ baseC c = true) ∨
    (((c.toNat : Int) == 72) = false ∧ ((c.toNat : Int) == 79) = false ∧ ((c.toNat : Int) == 81) = false ∧ ((c.toNat : Int) == 66) = true ∧ baseN c = 2 ∧ baseC c = true) ∨
    (((c.toNat : Int) == 72) = false ∧ ((c.toNat : Int) == 79) = false ∧ ((c.toNat : Int) == 81) = false ∧ ((c.toNat : Int) == 66) = false ∧ ((c.toNat : Int) == 68) = true ∧ baseN c = 10 ∧ baseC c = true) ∨
    (((c.toNat : Int) == 72) = false ∧ ((c.toNat : Int) == 79) = false ∧ ((c.toNat : Int) == 81) = false ∧ ((c.toNat : Int) == 66) = false ∧ ((c.toNat : Int) == 68) = false ∧ baseN c = 10 ∧ baseC c = false) := by
  unfold baseN baseC
  cases (c.toNat : Int) == 72 <;> cases (c.toNat : Int) == 79 <;> cases (c.toNat : Int) == 81 <;> cases (c.toNat : Int) == 66 <;> cases (c.toNat : Int) == 68 <;> simp
theorem head_get (l : List UInt8) (h : 1 ≤ l.length) : l.headD 0 = l[0]'(by omega) := by
  cases l with
  | nil => simp at h
  | cons c r => rfl

end Go.Proofs.YtpmeabikhonaoaaDoor
