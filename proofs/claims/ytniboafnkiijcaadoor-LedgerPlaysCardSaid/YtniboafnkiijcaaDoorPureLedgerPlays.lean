/- The law LedgerPlays: its walk shows that it answers true; nothing is left to compute. -/
import Derived.Test.YtniboafnkiijcaaDoorPx7
namespace Go.Proofs.YtniboafnkiijcaaDoor.Pure
open Go.RowKit Go.Proofs.YtniboafnkiijcaaDoor.P Go.Proofs.YtniboafnkiijcaaDoorW.PrintWords Go.Proofs.YtniboafnkiijcaaDoorW.PrintLast

theorem LedgerPlays : remoralaw33_LedgerPlays.Pure := trivial

end Go.Proofs.YtniboafnkiijcaaDoor.Pure
