/- The reference's mark and next. -/
import Derived.Test.YtpmeabikhonaoaaDoorKa
import Derived.Test.YtpmeabikhonaoaaDoorRefParse
import Derived.Test.YtpmeabikhonaoaaDoorRefUnquote
import Derived.Deep.DeepCutAuto
import Derived.Deep.CutBlock
namespace Go.Proofs.YtpmeabikhonaoaaDoor
open Go.RowKit

theorem marks_get : ∀ k : Fin 11, ∀ n : Fin 256, markB (UInt8.ofNat n.val) = ((marks.take k.val).contains (UInt8.ofNat n.val) || (marks.drop k.val).contains (UInt8.ofNat n.val)) := by decide +kernel
theorem qlen_step (t : List UInt8) (n : Nat) (h1 : 1 ≤ t.length) (h : t.headD 0 ≠ 39) : qlen t n = qlen (t.drop 1) (n + 1) := by
  match t, h1, h with
  | [c], _, h => rw [qlen, if_neg (by simpa using h)]; rfl
  | c :: d :: r, _, h => rw [qlen, if_neg (by simpa using h)]; rfl

end Go.Proofs.YtpmeabikhonaoaaDoor
