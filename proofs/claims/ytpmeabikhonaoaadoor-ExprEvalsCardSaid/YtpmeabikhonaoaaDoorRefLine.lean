/- The reference's Line. -/
import Derived.Test.YtpmeabikhonaoaaDoorRefNext
import Derived.Test.YtpmeabikhonaoaaDoorKa
namespace Go.Proofs.YtpmeabikhonaoaaDoor
open Go.RowKit

end Go.Proofs.YtpmeabikhonaoaaDoor
