/- The answer of one call, 11 (printed by a program). -/
import Derived.Test.YtplhemceflgdlaaGreatDoorT
import Derived.Test.YtplhemceflgdlaaGreatDoorB1
set_option maxRecDepth 100000
namespace Go.Proofs.YtplhemceflgdlaaGreatDoor.Run
open Go.Ev
open Go.Proofs
theorem e11 : evG gs (orC (memo [m10, m9, m8, m7, m6, m5, m4, m3, m2, m1, m0]) base) tabT.get 100000 60 m11.f m11.args m11.h = some (m11.r, m11.h') := by kernel_rfl
end Go.Proofs.YtplhemceflgdlaaGreatDoor.Run
