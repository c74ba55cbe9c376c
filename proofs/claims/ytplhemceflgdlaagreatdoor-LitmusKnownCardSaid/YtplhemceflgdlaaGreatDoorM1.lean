/- The answer of one call, 1 (printed by a program). -/
import Derived.Test.YtplhemceflgdlaaGreatDoorT
import Derived.Test.YtplhemceflgdlaaGreatDoorB1
set_option maxRecDepth 100000
namespace Go.Proofs.YtplhemceflgdlaaGreatDoor.Run
open Go.Ev
open Go.Proofs
theorem e1 : evG gs (orC (memo [m0]) base) tabT.get 100000 60 m1.f m1.args m1.h = some (m1.r, m1.h') := by kernel_rfl
end Go.Proofs.YtplhemceflgdlaaGreatDoor.Run
