/- Kc. -/
import Derived.Test.YtagplldaooipmaaGreatDoorKa
namespace Go.Proofs.YtagplldaooipmaaGreatDoor
open Go.RowKit
def isT (t : Tok) (ls : List (List UInt8)) : Bool := decide (t.1 = 4) && decide (t.2.1 ∈ ls)
end Go.Proofs.YtagplldaooipmaaGreatDoor
/- token.Cut. -/
namespace Go.Proofs.YtagplldaooipmaaGreatDoor
open Go.RowKit
def cutF (sep : List UInt8) : List Tok → Nat → List Tok → List (List Tok) → List (List Tok)
  | [], _, cur, acc => acc ++ [cur]
  | t :: r, d, cur, acc =>
    let d1 := if isT t [[41], [93]] then d - 1 else d
    let d2 := if isT t [[40], [91]] then d1 + 1 else d1
    if isT t [sep] && d1 == 0 then cutF sep r d2 [] (acc ++ [cur]) else cutF sep r d2 (cur ++ [t]) acc
end Go.Proofs.YtagplldaooipmaaGreatDoor
/- The parts between marks, in plain Lean. -/
namespace Go.Proofs.YtagplldaooipmaaGreatDoor
def d1F (t : Tok) (d : Nat) : Nat := if isT t [[41], [93]] then d - 1 else d
def d2F (t : Tok) (d : Nat) : Nat := if isT t [[40], [91]] then d1F t d + 1 else d1F t d
theorem cutF_eq (sep : List UInt8) (t : Tok) (r : List Tok) (d : Nat) (cur : List Tok) (acc : List (List Tok)) : cutF sep (t :: r) d cur acc = if (isT t [sep] && d1F t d == 0) = true then cutF sep r (d2F t d) [] (acc ++ [cur]) else cutF sep r (d2F t d) (cur ++ [t]) acc := rfl
end Go.Proofs.YtagplldaooipmaaGreatDoor
