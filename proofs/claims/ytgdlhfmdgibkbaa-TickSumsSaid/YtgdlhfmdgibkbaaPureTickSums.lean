/- The plain law of the statement TickSums: over the printed functions it comes to 'true', whatever the numbers. Conditions: whole numbers of 64 bits. -/
import Derived.Test.YtgdlhfmdgibkbaaScalars
namespace Go.Proofs.Ytgdlhfmdgibkbaa.Pure
open Go.RowKit Go.Proofs.Ytgdlhfmdgibkbaa.PTick Go.Proofs.YtgdlhfmdgibkbaaW.PrintWords Go.Proofs.YtgdlhfmdgibkbaaW.PrintLast
theorem TickSums : berthinglaw01_TickSums.Pure := TickSums_law
end Go.Proofs.Ytgdlhfmdgibkbaa.Pure
