/- The law FrameNone: its walk shows it. -/
import Derived.Test.YtmllikjhflnngaaDoorPx20
set_option linter.unusedVariables false
namespace Go.Proofs.YtmllikjhflnngaaDoor.Pure
open Go.RowKit Go.Proofs.YtmllikjhflnngaaDoor.P Go.Proofs.YtmllikjhflnngaaDoorW.PrintWords Go.Proofs.YtmllikjhflnngaaDoorW.PrintLast
theorem FrameNone : remoralaw29_FrameNone.Pure := fun _ _ _ _ => rfl
end Go.Proofs.YtmllikjhflnngaaDoor.Pure
