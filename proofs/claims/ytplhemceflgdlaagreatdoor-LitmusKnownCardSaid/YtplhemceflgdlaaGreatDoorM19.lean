/- The answer of one call, 19 (printed by a program). -/
import Derived.Test.YtplhemceflgdlaaGreatDoorT
import Derived.Test.YtplhemceflgdlaaGreatDoorB1
set_option maxRecDepth 100000
namespace Go.Proofs.YtplhemceflgdlaaGreatDoor.Run
open Go.Ev
open Go.Proofs
theorem e19 : evG gs (orC (memo [m18, m17, m16, m15, m14, m13, m12, m11, m10, m9, m8, m7, m6, m5, m4, m3, m2, m1, m0]) base) tabT.get 100000 60 m19.f m19.args m19.h = some (m19.r, m19.h') := by kernel_rfl
end Go.Proofs.YtplhemceflgdlaaGreatDoor.Run
