/- The answer of one call, 17 (printed by a program). -/
import Derived.Test.YtplhemceflgdlaaGreatDoorT
import Derived.Test.YtplhemceflgdlaaGreatDoorB1
set_option maxRecDepth 100000
namespace Go.Proofs.YtplhemceflgdlaaGreatDoor.Run
open Go.Ev
open Go.Proofs
theorem e17 : evG gs (orC (memo [m16, m15, m14, m13, m12, m11, m10, m9, m8, m7, m6, m5, m4, m3, m2, m1, m0]) base) tabT.get 100000 60 m17.f m17.args m17.h = some (m17.r, m17.h') := by kernel_rfl
end Go.Proofs.YtplhemceflgdlaaGreatDoor.Run
