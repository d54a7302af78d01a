/- What is written for one byte in a literal: the program's escape and the reference's written return the text 'escB' of the byte, for every byte. -/
import Derived.Test.YtadbilonialjnaaGreatDoorChecked
import Derived.Test.YtadbilonialjnaaGreatDoorStr
import Derived.Test.YtadbilonialjnaaGreatDoorQuo
namespace Go.Proofs.YtadbilonialjnaaGreatDoor
open Go.RowKit

theorem infoU8 : (Tryz.prog.info? 5).map (fun i => (i.zero, i.size, i.bytes)) = some (some (.int .u8 0), 1, 1) := by kernel_rfl

end Go.Proofs.YtadbilonialjnaaGreatDoor