/- All that is printed of tick.Join and its kin in this seat: imports alone. -/
import Derived.Test.YtlddccmgamlccaaPJoinx0
import Derived.Test.YtlddccmgamlccaaPJoinx1
import Derived.Test.YtlddccmgamlccaaPJoinx2
import Derived.Test.YtlddccmgamlccaaPJoinx3
import Derived.Test.YtlddccmgamlccaaPJoinx4
namespace Go.Proofs.Ytlddccmgamlccaa.PJoin
theorem all_here : True := trivial
end Go.Proofs.Ytlddccmgamlccaa.PJoin
