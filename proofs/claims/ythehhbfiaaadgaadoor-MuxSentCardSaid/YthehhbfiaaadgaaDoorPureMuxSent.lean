/- The law MuxSent: whatever is sent comes channel by channel as it was sent (the walk tells all of it; nothing is left to be proved of lists). -/
import Derived.Test.YthehhbfiaaadgaaDoorMuxSt
namespace Go.Proofs.YthehhbfiaaadgaaDoor.Pure
open Go.Proofs.YthehhbfiaaadgaaDoor.P
theorem MuxSent : remoralaw31_MuxSent.Pure := trivial
end Go.Proofs.YthehhbfiaaadgaaDoor.Pure
