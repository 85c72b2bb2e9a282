/- The law MuxNobody: a nil mux and a channel that there is not have nothing (the walk tells all of it; nothing is left to be proved of lists). -/
import Derived.Test.YthehhbfiaaadgaaDoorMuxNb
namespace Go.Proofs.YthehhbfiaaadgaaDoor.Pure
open Go.Proofs.YthehhbfiaaadgaaDoor.P
theorem MuxNobody : remoralaw31_MuxNobody.Pure := trivial
end Go.Proofs.YthehhbfiaaadgaaDoor.Pure
