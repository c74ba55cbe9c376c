/- The answer of one call, 8 (printed by a program). -/
import Derived.Test.YtplhemceflgdlaaGreatDoorT
import Derived.Test.YtplhemceflgdlaaGreatDoorB1
set_option maxRecDepth 100000
namespace Go.Proofs.YtplhemceflgdlaaGreatDoor.Run
open Go.Ev
open Go.Proofs
theorem e8 : evG gs (orC (memo [m7, m6, m5, m4, m3, m2, m1, m0]) base) tabT.get 100000 60 m8.f m8.args m8.h = some (m8.r, m8.h') := by kernel_rfl
end Go.Proofs.YtplhemceflgdlaaGreatDoor.Run
