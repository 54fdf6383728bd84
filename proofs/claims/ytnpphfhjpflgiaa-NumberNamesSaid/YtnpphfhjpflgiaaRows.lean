/-
  No cell of these rows narrows 'for every input' (looked for: loops, veiled, ifaces, maps, wideKeys, modest, calm, conditions, laid).
  DERIVED. THE GIVEN ROWS OF THIS SEAT. 5 by the template 'for every input the law returns true; each argument reads behind the call as it read before'; 0 by the template 'total and deterministic' (their statements: YtnpphfhjpflgiaaTotals.lean).
  GIVEN WITH THE SEED: the statements are not yours to turn. If you find one false, say at which input.
  Laid BY PROGRAM, IN A SANDBOX (cutbox-rows.mjs): the forced cells as the released guide's own fill.sh prints them over the translation c5bfe80966bed307… (all of the seat's roots in one cut). By AI agents, Wed Nov 11 2026. No macro, syntax, notation, axiom, sorry.
-/
import Derived.Test.YtnpphfhjpflgiaaChecked
import GoSem.Claim
import GoSem.ClaimJoined
import GoSem.ClaimMapViews
import Derived.JoinedTies
import Derived.KernelRfl
namespace Go.Proofs.Ytnpphfhjpflgiaa
/- THE CELL 'sum', in the pinned program and in every row, IS THE sha256 OF THE DUMP (.gsa) THAT YtnpphfhjpflgiaaProg.lean LOADS. Nothing in Lean hashes anything: it is a label: what it is worth is what the hold of that sum in a sandbox is worth. -/
noncomputable def Try.pinned : Pinned := { name := "ytnpphfhjpflgiaa", sum := "c5bfe80966bed3076e433e6d521a635ec1ef274761b0c3b488b3c83b463dc63e", checked := Try.checked }
namespace Rows
def none {H : Type} : Left H := { results := [], args := [] }

/-- 'pidginlaw03.NumberParses': WHATEVER THE INPUT: true; the input reads as it did. -/
def numberParsesSpec : ChangeSpec := { name := "numberParses", fn := fun _ => fun
  | [d] => { results := [.lit (.bool true)], args := [d] }
  | _ => none }
def numberParsesRow : OpenClaim := { program := "ytnpphfhjpflgiaa", sum := "c5bfe80966bed3076e433e6d521a635ec1ef274761b0c3b488b3c83b463dc63e", func := "pidgin/pidginlaw03.NumberParses", spec := "numberParses", inPlace := ["internal/bytealg.IndexByteString"], apart := false }
def NumberParsesSaid : Prop := numberParsesRow.holds Try.pinned (OpenSpec.ofChange numberParsesSpec)

/-- ITS FALSE NEIGHBOUR: 'it returns false'. Refute it at one input. -/
def numberParsesWrong : ChangeSpec := { name := "numberParses", fn := fun _ => fun
  | [d] => { results := [.lit (.bool false)], args := [d] }
  | _ => none }
def NumberParsesWrongFalsely : Prop := numberParsesRow.holds Try.pinned (OpenSpec.ofChange numberParsesWrong)

/-- 'pidginlaw03.NumberShows': WHATEVER THE INPUT: true; the input reads as it did. -/
def numberShowsSpec : ChangeSpec := { name := "numberShows", fn := fun _ => fun
  | [d] => { results := [.lit (.bool true)], args := [d] }
  | _ => none }
def numberShowsRow : OpenClaim := { program := "ytnpphfhjpflgiaa", sum := "c5bfe80966bed3076e433e6d521a635ec1ef274761b0c3b488b3c83b463dc63e", func := "pidgin/pidginlaw03.NumberShows", spec := "numberShows", inPlace := ["internal/bytealg.IndexByteString"], apart := false }
def NumberShowsSaid : Prop := numberShowsRow.holds Try.pinned (OpenSpec.ofChange numberShowsSpec)

/-- ITS FALSE NEIGHBOUR: 'it returns false'. Refute it at one input. -/
def numberShowsWrong : ChangeSpec := { name := "numberShows", fn := fun _ => fun
  | [d] => { results := [.lit (.bool false)], args := [d] }
  | _ => none }
def NumberShowsWrongFalsely : Prop := numberShowsRow.holds Try.pinned (OpenSpec.ofChange numberShowsWrong)

/-- 'pidginlaw03.NumberBases': WHATEVER THE INPUT: true; the input reads as it did. -/
def numberBasesSpec : ChangeSpec := { name := "numberBases", fn := fun _ => fun
  | [d] => { results := [.lit (.bool true)], args := [d] }
  | _ => none }
def numberBasesRow : OpenClaim := { program := "ytnpphfhjpflgiaa", sum := "c5bfe80966bed3076e433e6d521a635ec1ef274761b0c3b488b3c83b463dc63e", func := "pidgin/pidginlaw03.NumberBases", spec := "numberBases", inPlace := ["internal/bytealg.IndexByteString"], apart := false }
def NumberBasesSaid : Prop := numberBasesRow.holds Try.pinned (OpenSpec.ofChange numberBasesSpec)

/-- ITS FALSE NEIGHBOUR: 'it returns false'. Refute it at one input. -/
def numberBasesWrong : ChangeSpec := { name := "numberBases", fn := fun _ => fun
  | [d] => { results := [.lit (.bool false)], args := [d] }
  | _ => none }
def NumberBasesWrongFalsely : Prop := numberBasesRow.holds Try.pinned (OpenSpec.ofChange numberBasesWrong)

/-- 'pidginlaw03.NumberDigits': WHATEVER THE INPUT: true; the input reads as it did. -/
def numberDigitsSpec : ChangeSpec := { name := "numberDigits", fn := fun _ => fun
  | [d] => { results := [.lit (.bool true)], args := [d] }
  | _ => none }
def numberDigitsRow : OpenClaim := { program := "ytnpphfhjpflgiaa", sum := "c5bfe80966bed3076e433e6d521a635ec1ef274761b0c3b488b3c83b463dc63e", func := "pidgin/pidginlaw03.NumberDigits", spec := "numberDigits", inPlace := ["internal/bytealg.IndexByteString"], apart := false }
def NumberDigitsSaid : Prop := numberDigitsRow.holds Try.pinned (OpenSpec.ofChange numberDigitsSpec)

/-- ITS FALSE NEIGHBOUR: 'it returns false'. Refute it at one input. -/
def numberDigitsWrong : ChangeSpec := { name := "numberDigits", fn := fun _ => fun
  | [d] => { results := [.lit (.bool false)], args := [d] }
  | _ => none }
def NumberDigitsWrongFalsely : Prop := numberDigitsRow.holds Try.pinned (OpenSpec.ofChange numberDigitsWrong)

/-- 'pidginlaw03.NumberNames': WHATEVER THE INPUT: true; the input reads as it did. -/
def numberNamesSpec : ChangeSpec := { name := "numberNames", fn := fun _ => fun
  | [d] => { results := [.lit (.bool true)], args := [d] }
  | _ => none }
def numberNamesRow : OpenClaim := { program := "ytnpphfhjpflgiaa", sum := "c5bfe80966bed3076e433e6d521a635ec1ef274761b0c3b488b3c83b463dc63e", func := "pidgin/pidginlaw03.NumberNames", spec := "numberNames", inPlace := ["internal/bytealg.IndexByteString"], apart := false }
def NumberNamesSaid : Prop := numberNamesRow.holds Try.pinned (OpenSpec.ofChange numberNamesSpec)

/-- ITS FALSE NEIGHBOUR: 'it returns false'. Refute it at one input. -/
def numberNamesWrong : ChangeSpec := { name := "numberNames", fn := fun _ => fun
  | [d] => { results := [.lit (.bool false)], args := [d] }
  | _ => none }
def NumberNamesWrongFalsely : Prop := numberNamesRow.holds Try.pinned (OpenSpec.ofChange numberNamesWrong)

/- THE SECOND FORM. 'bulk': how many values and letters a reading holds, each counted each time it is reached (what is shared counts as often as it is met; a slice's spare places count too). A statement '..UptoSaid' is the law's where the arguments, and the package variables that the reading takes, are together of bulk at most 1048576: NARROWER than '..Said'. Prove '..Said' where nothing that the law and all that it calls make is longer than what came in: it says more and counts as full. Else prove '..UptoSaid'. A law counts once. -/
mutual
def uptoBulk {H : Type} : DataW H → Nat
  | .lit (.string bytes) => bytes.length + 1
  | .lit _ => 1
  | .nil => 1
  | .ptr d => uptoBulk d + 1
  | .slice elems spare => uptoBulkAll elems + uptoBulkAll spare + 1
  | .agg parts => uptoBulkAll parts + 1
  | .iface _ d => uptoBulk d + 1
  | .map entries => uptoBulkEntries entries + 1
  | .held _ => 1
def uptoBulkAll {H : Type} : List (DataW H) → Nat
  | [] => 0
  | d :: r => uptoBulk d + uptoBulkAll r
def uptoBulkEntries {H : Type} : List (Lit × DataW H) → Nat
  | [] => 0
  | x :: r => uptoBulkEntry x + uptoBulkEntries r
def uptoBulkEntry {H : Type} : Lit × DataW H → Nat
  | (.string bytes, d) => bytes.length + uptoBulk d + 1
  | (_, d) => uptoBulk d + 1
 end
def uptoSmall : (H : Type) → List (DataW H) → Bool := fun _ ds => decide (uptoBulkAll ds ≤ 1048576)
def OpenSpec.upto (s : _root_.Go.ChangeSpec) : _root_.Go.OpenSpec := { _root_.Go.OpenSpec.ofChange s with cond := some uptoSmall }

/-- 'pidginlaw03.NumberParses', WHERE WHAT IT READS IS OF BULK AT MOST 1048576: true; the input reads as it did. -/
def numberParsesUptoRow : OpenClaim := { program := "ytnpphfhjpflgiaa", sum := "c5bfe80966bed3076e433e6d521a635ec1ef274761b0c3b488b3c83b463dc63e", func := "pidgin/pidginlaw03.NumberParses", spec := "numberParses", inPlace := ["internal/bytealg.IndexByteString"], apart := false, narrowed := true }
def NumberParsesUptoSaid : Prop := numberParsesUptoRow.holds Try.pinned (OpenSpec.upto numberParsesSpec)

/-- 'pidginlaw03.NumberShows', WHERE WHAT IT READS IS OF BULK AT MOST 1048576: true; the input reads as it did. -/
def numberShowsUptoRow : OpenClaim := { program := "ytnpphfhjpflgiaa", sum := "c5bfe80966bed3076e433e6d521a635ec1ef274761b0c3b488b3c83b463dc63e", func := "pidgin/pidginlaw03.NumberShows", spec := "numberShows", inPlace := ["internal/bytealg.IndexByteString"], apart := false, narrowed := true }
def NumberShowsUptoSaid : Prop := numberShowsUptoRow.holds Try.pinned (OpenSpec.upto numberShowsSpec)

/-- 'pidginlaw03.NumberBases', WHERE WHAT IT READS IS OF BULK AT MOST 1048576: true; the input reads as it did. -/
def numberBasesUptoRow : OpenClaim := { program := "ytnpphfhjpflgiaa", sum := "c5bfe80966bed3076e433e6d521a635ec1ef274761b0c3b488b3c83b463dc63e", func := "pidgin/pidginlaw03.NumberBases", spec := "numberBases", inPlace := ["internal/bytealg.IndexByteString"], apart := false, narrowed := true }
def NumberBasesUptoSaid : Prop := numberBasesUptoRow.holds Try.pinned (OpenSpec.upto numberBasesSpec)

/-- 'pidginlaw03.NumberDigits', WHERE WHAT IT READS IS OF BULK AT MOST 1048576: true; the input reads as it did. -/
def numberDigitsUptoRow : OpenClaim := { program := "ytnpphfhjpflgiaa", sum := "c5bfe80966bed3076e433e6d521a635ec1ef274761b0c3b488b3c83b463dc63e", func := "pidgin/pidginlaw03.NumberDigits", spec := "numberDigits", inPlace := ["internal/bytealg.IndexByteString"], apart := false, narrowed := true }
def NumberDigitsUptoSaid : Prop := numberDigitsUptoRow.holds Try.pinned (OpenSpec.upto numberDigitsSpec)

/-- 'pidginlaw03.NumberNames', WHERE WHAT IT READS IS OF BULK AT MOST 1048576: true; the input reads as it did. -/
def numberNamesUptoRow : OpenClaim := { program := "ytnpphfhjpflgiaa", sum := "c5bfe80966bed3076e433e6d521a635ec1ef274761b0c3b488b3c83b463dc63e", func := "pidgin/pidginlaw03.NumberNames", spec := "numberNames", inPlace := ["internal/bytealg.IndexByteString"], apart := false, narrowed := true }
def NumberNamesUptoSaid : Prop := numberNamesUptoRow.holds Try.pinned (OpenSpec.upto numberNamesSpec)

end Rows
end Go.Proofs.Ytnpphfhjpflgiaa
