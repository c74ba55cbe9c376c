/- The answer of one call, 2 (printed by a program). -/
import Derived.Test.YtplhemceflgdlaaGreatDoorT
import Derived.Test.YtplhemceflgdlaaGreatDoorB1
set_option maxRecDepth 100000
namespace Go.Proofs.YtplhemceflgdlaaGreatDoor.Run
open Go.Ev
open Go.Proofs
theorem e2 : evG gs (orC (memo [m1, m0]) base) tabT.get 100000 60 m2.f m2.args m2.h = some (m2.r, m2.h') := by kernel_rfl
end Go.Proofs.YtplhemceflgdlaaGreatDoor.Run
