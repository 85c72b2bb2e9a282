/- The law LedgerReads: what is read of bytes, and made bytes again, is the document's. -/
import Derived.Test.YtniboafnkiijcaaDoorLedReadPure
import Derived.Test.YtniboafnkiijcaaDoorPx2
namespace Go.Proofs.YtniboafnkiijcaaDoor.Pure
open Go.RowKit Go.Proofs.YtniboafnkiijcaaDoor.P Go.Proofs.YtniboafnkiijcaaDoorW.PrintWords Go.Proofs.YtniboafnkiijcaaDoorW.PrintLast Go.Proofs.YtniboafnkiijcaaDoor.Num Go.Proofs.YtniboafnkiijcaaDoor.Crc
theorem LedgerReads : remoralaw33_LedgerReads.Pure := ⟨fun l hl hb => openHyp l (by omega) hb, sealHyp, fun S h hl => ⟨2000000, _, (bytes_f 2000000 S (Nat.le_refl _) h (by omega)).1, (bytes_f 2000000 S (Nat.le_refl _) h (by omega)).2⟩⟩
end Go.Proofs.YtniboafnkiijcaaDoor.Pure
