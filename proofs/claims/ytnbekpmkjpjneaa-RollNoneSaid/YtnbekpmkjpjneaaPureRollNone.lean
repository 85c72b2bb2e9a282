/- The law RollNone: its walk shows it. -/
import Derived.Test.YtnbekpmkjpjneaaPx4
set_option linter.unusedVariables false
namespace Go.Proofs.Ytnbekpmkjpjneaa.Pure
open Go.RowKit Go.Proofs.Ytnbekpmkjpjneaa.P Go.Proofs.YtnbekpmkjpjneaaW.PrintWords Go.Proofs.YtnbekpmkjpjneaaW.PrintLast
theorem RollNone : remoralaw04_RollNone.Pure := fun _ _ _ _ => rfl
end Go.Proofs.Ytnbekpmkjpjneaa.Pure
