/- The remembered calls are so (printed by a program). -/
import Derived.Test.YtoppeebbioalcaaGreatDoorM0
import Derived.Test.YtoppeebbioalcaaGreatDoorM1
import Derived.Test.YtoppeebbioalcaaGreatDoorM2
import Derived.Test.YtoppeebbioalcaaGreatDoorM3
import Derived.Test.YtoppeebbioalcaaGreatDoorM4
import Derived.Test.YtoppeebbioalcaaGreatDoorM5
import Derived.Test.YtoppeebbioalcaaGreatDoorM6
import Derived.Test.YtoppeebbioalcaaGreatDoorM7
import Derived.Test.YtoppeebbioalcaaGreatDoorM8
import Derived.Test.YtoppeebbioalcaaGreatDoorM9
import Derived.Test.YtoppeebbioalcaaGreatDoorM10
import Derived.Test.YtoppeebbioalcaaGreatDoorM11
import Derived.Test.YtoppeebbioalcaaGreatDoorM12
set_option maxRecDepth 100000
namespace Go.Proofs.YtoppeebbioalcaaGreatDoor.Run
open Go.Ev
open Go.Proofs
theorem ms0 : MsOK Tryz.prog GG [] := trivial
theorem ms1 : MsOK Tryz.prog GG [m0] := ⟨MOK.mkG mixes tabT_ok ms0 e0, ms0⟩
theorem ms2 : MsOK Tryz.prog GG [m1, m0] := ⟨MOK.mkG mixes tabT_ok ms1 e1, ms1⟩
theorem ms3 : MsOK Tryz.prog GG [m2, m1, m0] := ⟨MOK.mkG mixes tabT_ok ms2 e2, ms2⟩
theorem ms4 : MsOK Tryz.prog GG [m3, m2, m1, m0] := ⟨MOK.mkG mixes tabT_ok ms3 e3, ms3⟩
theorem ms5 : MsOK Tryz.prog GG [m4, m3, m2, m1, m0] := ⟨MOK.mkG mixes tabT_ok ms4 e4, ms4⟩
theorem ms6 : MsOK Tryz.prog GG [m5, m4, m3, m2, m1, m0] := ⟨MOK.mkG mixes tabT_ok ms5 e5, ms5⟩
theorem ms7 : MsOK Tryz.prog GG [m6, m5, m4, m3, m2, m1, m0] := ⟨MOK.mkG mixes tabT_ok ms6 e6, ms6⟩
theorem ms8 : MsOK Tryz.prog GG [m7, m6, m5, m4, m3, m2, m1, m0] := ⟨MOK.mkG mixes tabT_ok ms7 e7, ms7⟩
theorem ms9 : MsOK Tryz.prog GG [m8, m7, m6, m5, m4, m3, m2, m1, m0] := ⟨MOK.mkG mixes tabT_ok ms8 e8, ms8⟩
theorem ms10 : MsOK Tryz.prog GG [m9, m8, m7, m6, m5, m4, m3, m2, m1, m0] := ⟨MOK.mkG mixes tabT_ok ms9 e9, ms9⟩
theorem ms11 : MsOK Tryz.prog GG [m10, m9, m8, m7, m6, m5, m4, m3, m2, m1, m0] := ⟨MOK.mkG mixes tabT_ok ms10 e10, ms10⟩
theorem ms12 : MsOK Tryz.prog GG [m11, m10, m9, m8, m7, m6, m5, m4, m3, m2, m1, m0] := ⟨MOK.mkG mixes tabT_ok ms11 e11, ms11⟩
theorem ms13 : MsOK Tryz.prog GG [m12, m11, m10, m9, m8, m7, m6, m5, m4, m3, m2, m1, m0] := ⟨MOK.mkG mixes tabT_ok ms12 e12, ms12⟩
end Go.Proofs.YtoppeebbioalcaaGreatDoor.Run
