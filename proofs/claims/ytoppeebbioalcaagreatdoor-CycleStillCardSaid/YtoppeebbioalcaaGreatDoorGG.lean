/- The variable that is listed, as it reads (printed by a program). -/
import Derived.Test.YtoppeebbioalcaaGreatDoorEvE
namespace Go.Proofs.YtoppeebbioalcaaGreatDoor.Run
open Go.Ev
noncomputable section
def GG : GL := [(0, [(.i .i64 0), (.i .i64 7), (.i .i64 11), (.i .i64 14), (.i .i64 14), (.i .i64 9), (.i .i64 7), (.i .i64 9), (.i .i64 10), (.i .i64 2), (.i .i64 0), (.i .i64 3)]), (0, [])]
end
end Go.Proofs.YtoppeebbioalcaaGreatDoor.Run
