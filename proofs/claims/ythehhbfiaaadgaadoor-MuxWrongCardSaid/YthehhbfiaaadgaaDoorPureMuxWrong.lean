/- The law MuxWrong: whatever bytes come, one error at most is told (the walk tells all of it; nothing is left to be proved of lists). -/
import Derived.Test.YthehhbfiaaadgaaDoorMuxWr
namespace Go.Proofs.YthehhbfiaaadgaaDoor.Pure
open Go.Proofs.YthehhbfiaaadgaaDoor.P
theorem MuxWrong : remoralaw31_MuxWrong.Pure := trivial
end Go.Proofs.YthehhbfiaaadgaaDoor.Pure
