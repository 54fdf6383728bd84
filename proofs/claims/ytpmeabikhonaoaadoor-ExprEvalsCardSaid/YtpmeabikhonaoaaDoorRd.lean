/- Back and Own. -/
import Derived.Test.YtpmeabikhonaoaaDoorKa
import Derived.Test.YtpmeabikhonaoaaDoorRefLine
namespace Go.Proofs.YtpmeabikhonaoaaDoor
open Go.RowKit

end Go.Proofs.YtpmeabikhonaoaaDoor
