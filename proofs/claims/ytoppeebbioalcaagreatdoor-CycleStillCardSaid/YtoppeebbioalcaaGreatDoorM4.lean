/- The answer of one call, 4 (printed by a program). -/
import Derived.Test.YtoppeebbioalcaaGreatDoorT
import Derived.Test.YtoppeebbioalcaaGreatDoorB0
set_option maxRecDepth 100000
namespace Go.Proofs.YtoppeebbioalcaaGreatDoor.Run
open Go.Ev
open Go.Proofs
theorem e4 : evG gs (memo [m3, m2, m1, m0]) tabT.get 100000 60 m4.f m4.args m4.h = some (m4.r, m4.h') := by kernel_rfl
end Go.Proofs.YtoppeebbioalcaaGreatDoor.Run
