/- The law MuxOrder: what has come is the beginning of what was sent (the walk tells all of it; nothing is left to be proved of lists). -/
import Derived.Test.YthehhbfiaaadgaaDoorMuxOr
namespace Go.Proofs.YthehhbfiaaadgaaDoor.Pure
open Go.Proofs.YthehhbfiaaadgaaDoor.P
theorem MuxOrder : remoralaw31_MuxOrder.Pure := trivial
end Go.Proofs.YthehhbfiaaadgaaDoor.Pure
