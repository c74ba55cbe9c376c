/- The answer of one call, 5 (printed by a program). -/
import Derived.Test.YtplhemceflgdlaaGreatDoorT
import Derived.Test.YtplhemceflgdlaaGreatDoorB1
set_option maxRecDepth 100000
namespace Go.Proofs.YtplhemceflgdlaaGreatDoor.Run
open Go.Ev
open Go.Proofs
theorem e5 : evG gs (orC (memo [m4, m3, m2, m1, m0]) base) tabT.get 100000 60 m5.f m5.args m5.h = some (m5.r, m5.h') := by kernel_rfl
end Go.Proofs.YtplhemceflgdlaaGreatDoor.Run
