/- The answer of one call, 4 (printed by a program). -/
import Derived.Test.YtplhemceflgdlaaGreatDoorT
import Derived.Test.YtplhemceflgdlaaGreatDoorB1
set_option maxRecDepth 100000
namespace Go.Proofs.YtplhemceflgdlaaGreatDoor.Run
open Go.Ev
open Go.Proofs
theorem e4 : evG gs (orC (memo [m3, m2, m1, m0]) base) tabT.get 100000 60 m4.f m4.args m4.h = some (m4.r, m4.h') := by kernel_rfl
end Go.Proofs.YtplhemceflgdlaaGreatDoor.Run
