/- The answer of one call, 9 (printed by a program). -/
import Derived.Test.YtplhemceflgdlaaGreatDoorT
import Derived.Test.YtplhemceflgdlaaGreatDoorB1
set_option maxRecDepth 100000
namespace Go.Proofs.YtplhemceflgdlaaGreatDoor.Run
open Go.Ev
open Go.Proofs
theorem e9 : evG gs (orC (memo [m8, m7, m6, m5, m4, m3, m2, m1, m0]) base) tabT.get 100000 60 m9.f m9.args m9.h = some (m9.r, m9.h') := by kernel_rfl
end Go.Proofs.YtplhemceflgdlaaGreatDoor.Run
