/- The answer of one call, 7 (printed by a program). -/
import Derived.Test.YtplhemceflgdlaaGreatDoorT
import Derived.Test.YtplhemceflgdlaaGreatDoorB1
set_option maxRecDepth 100000
namespace Go.Proofs.YtplhemceflgdlaaGreatDoor.Run
open Go.Ev
open Go.Proofs
theorem e7 : evG gs (orC (memo [m6, m5, m4, m3, m2, m1, m0]) base) tabT.get 100000 60 m7.f m7.args m7.h = some (m7.r, m7.h') := by kernel_rfl
end Go.Proofs.YtplhemceflgdlaaGreatDoor.Run
