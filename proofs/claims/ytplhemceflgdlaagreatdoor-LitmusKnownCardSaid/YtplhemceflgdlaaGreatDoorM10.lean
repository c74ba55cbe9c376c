/- The answer of one call, 10 (printed by a program). -/
import Derived.Test.YtplhemceflgdlaaGreatDoorT
import Derived.Test.YtplhemceflgdlaaGreatDoorB1
set_option maxRecDepth 100000
namespace Go.Proofs.YtplhemceflgdlaaGreatDoor.Run
open Go.Ev
open Go.Proofs
theorem e10 : evG gs (orC (memo [m9, m8, m7, m6, m5, m4, m3, m2, m1, m0]) base) tabT.get 100000 60 m10.f m10.args m10.h = some (m10.r, m10.h') := by kernel_rfl
end Go.Proofs.YtplhemceflgdlaaGreatDoor.Run
