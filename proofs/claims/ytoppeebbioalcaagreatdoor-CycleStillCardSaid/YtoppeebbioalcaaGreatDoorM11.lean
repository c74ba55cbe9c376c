/- The answer of one call, 11 (printed by a program). -/
import Derived.Test.YtoppeebbioalcaaGreatDoorT
import Derived.Test.YtoppeebbioalcaaGreatDoorB0
set_option maxRecDepth 100000
namespace Go.Proofs.YtoppeebbioalcaaGreatDoor.Run
open Go.Ev
open Go.Proofs
theorem e11 : evG gs (memo [m10, m9, m8, m7, m6, m5, m4, m3, m2, m1, m0]) tabT.get 100000 60 m11.f m11.args m11.h = some (m11.r, m11.h') := by kernel_rfl
end Go.Proofs.YtoppeebbioalcaaGreatDoor.Run
