/- The law HelloBytes: an offer's bytes, and the offer of bytes, are the document's. -/
import Derived.Test.YtgjmcjpgajlgoaaDoorReadRef
import Derived.Test.YtgjmcjpgajlgoaaDoorPx7
set_option linter.unusedVariables false
namespace Go.Proofs.YtgjmcjpgajlgoaaDoor.Pure
open Go.RowKit Go.Proofs.YtgjmcjpgajlgoaaDoor.P Go.Proofs.YtgjmcjpgajlgoaaDoorW.PrintWords Go.Proofs.YtgjmcjpgajlgoaaDoorW.PrintLast Go.Proofs.YtgjmcjpgajlgoaaDoorW.PrintMore Go.Proofs.YtgjmcjpgajlgoaaDoor.Crc Go.Proofs.YtgjmcjpgajlgoaaDoor.Num
theorem HelloBytes : remoralaw32_HelloBytes.Pure := by
  intro a b c d e l hl hw
  have hb := wf_byte hw
  obtain ⟨⟨p0, p1, p2, p3, p4, g⟩, hx⟩ := readS_some l (by omega)
  exact ⟨l.length + 300 + 6, _, _, p0, p1, p2, p3, p4, g, bytes_f (l.length + 300) a b c d e (by omega), refBytes_f (l.length + 300 + 6) a b c d e (by omega), (read_f _ l hb (by omega) (by omega)).trans hx, (refRead_f _ l hb (by omega) (by omega)).trans hx⟩
end Go.Proofs.YtgjmcjpgajlgoaaDoor.Pure
