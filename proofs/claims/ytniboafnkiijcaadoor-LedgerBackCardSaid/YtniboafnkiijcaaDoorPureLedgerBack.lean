/- The law LedgerBack: what is read of a ledger's bytes is the ledger. -/
import Derived.Test.YtniboafnkiijcaaDoorLedBackPure
import Derived.Test.YtniboafnkiijcaaDoorPx1
namespace Go.Proofs.YtniboafnkiijcaaDoor.Pure
open Go.RowKit Go.Proofs.YtniboafnkiijcaaDoor.P Go.Proofs.YtniboafnkiijcaaDoorW.PrintWords Go.Proofs.YtniboafnkiijcaaDoorW.PrintLast Go.Proofs.YtniboafnkiijcaaDoor.Num
theorem LedgerBack : remoralaw33_LedgerBack.Pure := backHyp
end Go.Proofs.YtniboafnkiijcaaDoor.Pure
