/- The law LedgerBytes: the bytes of lines that may be are the document's. -/
import Derived.Test.YtniboafnkiijcaaDoorLedSpec
import Derived.Test.YtniboafnkiijcaaDoorPx9
namespace Go.Proofs.YtniboafnkiijcaaDoor.Pure
open Go.RowKit Go.Proofs.YtniboafnkiijcaaDoor.P Go.Proofs.YtniboafnkiijcaaDoorW.PrintWords Go.Proofs.YtniboafnkiijcaaDoorW.PrintLast Go.Proofs.YtniboafnkiijcaaDoor.Num Go.Proofs.YtniboafnkiijcaaDoor.Crc
theorem LedgerBytes : remoralaw33_LedgerBytes.Pure := fun S h hl => ⟨2000000, _, (bytes_f 2000000 S (Nat.le_refl _) h (by omega)).1, (bytes_f 2000000 S (Nat.le_refl _) h (by omega)).2⟩
end Go.Proofs.YtniboafnkiijcaaDoor.Pure
