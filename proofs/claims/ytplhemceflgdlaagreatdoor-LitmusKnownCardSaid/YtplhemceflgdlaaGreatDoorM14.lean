/- The answer of one call, 14 (printed by a program). -/
import Derived.Test.YtplhemceflgdlaaGreatDoorT
import Derived.Test.YtplhemceflgdlaaGreatDoorB1
set_option maxRecDepth 100000
namespace Go.Proofs.YtplhemceflgdlaaGreatDoor.Run
open Go.Ev
open Go.Proofs
theorem e14 : evG gs (orC (memo [m13, m12, m11, m10, m9, m8, m7, m6, m5, m4, m3, m2, m1, m0]) base) tabT.get 100000 60 m14.f m14.args m14.h = some (m14.r, m14.h') := by kernel_rfl
end Go.Proofs.YtplhemceflgdlaaGreatDoor.Run
