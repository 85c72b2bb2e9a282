/- The law MuxNone: however full the other channels are, one channel's bytes come (the walk tells all of it; nothing is left to be proved of lists). -/
import Derived.Test.YthehhbfiaaadgaaDoorMuxNn
namespace Go.Proofs.YthehhbfiaaadgaaDoor.Pure
open Go.Proofs.YthehhbfiaaadgaaDoor.P
theorem MuxNone : remoralaw31_MuxNone.Pure := trivial
end Go.Proofs.YthehhbfiaaadgaaDoor.Pure
