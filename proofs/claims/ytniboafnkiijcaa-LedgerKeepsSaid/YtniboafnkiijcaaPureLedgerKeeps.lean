/- The law LedgerKeeps: its walk shows that it answers true; nothing is left to compute. -/
import Derived.Test.YtniboafnkiijcaaPx8
namespace Go.Proofs.Ytniboafnkiijcaa.Pure
open Go.RowKit Go.Proofs.Ytniboafnkiijcaa.P Go.Proofs.YtniboafnkiijcaaW.PrintWords Go.Proofs.YtniboafnkiijcaaW.PrintLast

theorem LedgerKeeps : remoralaw33_LedgerKeeps.Pure := trivial

end Go.Proofs.Ytniboafnkiijcaa.Pure
