/- The plain law of the statement TickOrders: over the printed functions it comes to 'true', whatever the numbers. Conditions: whole numbers of 64 bits. -/
import Derived.Test.YtgdlhfmdgibkbaaScalars2
namespace Go.Proofs.Ytgdlhfmdgibkbaa.Pure
open Go.RowKit Go.Proofs.Ytgdlhfmdgibkbaa.PTick Go.Proofs.YtgdlhfmdgibkbaaW.PrintWords Go.Proofs.YtgdlhfmdgibkbaaW.PrintLast
theorem TickOrders : berthinglaw01_TickOrders.Pure := TickOrders_law
end Go.Proofs.Ytgdlhfmdgibkbaa.Pure
