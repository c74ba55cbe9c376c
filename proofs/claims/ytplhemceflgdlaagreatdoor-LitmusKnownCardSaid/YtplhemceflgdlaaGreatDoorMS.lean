/- The remembered calls are so (printed by a program). -/
import Derived.Test.YtplhemceflgdlaaGreatDoorM0
import Derived.Test.YtplhemceflgdlaaGreatDoorM1
import Derived.Test.YtplhemceflgdlaaGreatDoorM2
import Derived.Test.YtplhemceflgdlaaGreatDoorM3
import Derived.Test.YtplhemceflgdlaaGreatDoorM4
import Derived.Test.YtplhemceflgdlaaGreatDoorM5
import Derived.Test.YtplhemceflgdlaaGreatDoorM6
import Derived.Test.YtplhemceflgdlaaGreatDoorM7
import Derived.Test.YtplhemceflgdlaaGreatDoorM8
import Derived.Test.YtplhemceflgdlaaGreatDoorM9
import Derived.Test.YtplhemceflgdlaaGreatDoorM10
import Derived.Test.YtplhemceflgdlaaGreatDoorM11
import Derived.Test.YtplhemceflgdlaaGreatDoorM12
import Derived.Test.YtplhemceflgdlaaGreatDoorM13
import Derived.Test.YtplhemceflgdlaaGreatDoorM14
import Derived.Test.YtplhemceflgdlaaGreatDoorM15
import Derived.Test.YtplhemceflgdlaaGreatDoorM16
import Derived.Test.YtplhemceflgdlaaGreatDoorM17
import Derived.Test.YtplhemceflgdlaaGreatDoorM18
import Derived.Test.YtplhemceflgdlaaGreatDoorM19
import Derived.Test.YtplhemceflgdlaaGreatDoorM20
import Derived.Test.YtplhemceflgdlaaGreatDoorM21
import Derived.Test.YtplhemceflgdlaaGreatDoorM22
set_option maxRecDepth 100000
namespace Go.Proofs.YtplhemceflgdlaaGreatDoor.Run
open Go.Ev
open Go.Proofs
theorem ms0 : MsOK Tryz.prog [0] [] := trivial
theorem ms1 : MsOK Tryz.prog [0] [m0] := ⟨MOK.mkG mixes tabT_ok base_ok ms0 e0, ms0⟩
theorem ms2 : MsOK Tryz.prog [0] [m1, m0] := ⟨MOK.mkG mixes tabT_ok base_ok ms1 e1, ms1⟩
theorem ms3 : MsOK Tryz.prog [0] [m2, m1, m0] := ⟨MOK.mkG mixes tabT_ok base_ok ms2 e2, ms2⟩
theorem ms4 : MsOK Tryz.prog [0] [m3, m2, m1, m0] := ⟨MOK.mkG mixes tabT_ok base_ok ms3 e3, ms3⟩
theorem ms5 : MsOK Tryz.prog [0] [m4, m3, m2, m1, m0] := ⟨MOK.mkG mixes tabT_ok base_ok ms4 e4, ms4⟩
theorem ms6 : MsOK Tryz.prog [0] [m5, m4, m3, m2, m1, m0] := ⟨MOK.mkG mixes tabT_ok base_ok ms5 e5, ms5⟩
theorem ms7 : MsOK Tryz.prog [0] [m6, m5, m4, m3, m2, m1, m0] := ⟨MOK.mkG mixes tabT_ok base_ok ms6 e6, ms6⟩
theorem ms8 : MsOK Tryz.prog [0] [m7, m6, m5, m4, m3, m2, m1, m0] := ⟨MOK.mkG mixes tabT_ok base_ok ms7 e7, ms7⟩
theorem ms9 : MsOK Tryz.prog [0] [m8, m7, m6, m5, m4, m3, m2, m1, m0] := ⟨MOK.mkG mixes tabT_ok base_ok ms8 e8, ms8⟩
theorem ms10 : MsOK Tryz.prog [0] [m9, m8, m7, m6, m5, m4, m3, m2, m1, m0] := ⟨MOK.mkG mixes tabT_ok base_ok ms9 e9, ms9⟩
theorem ms11 : MsOK Tryz.prog [0] [m10, m9, m8, m7, m6, m5, m4, m3, m2, m1, m0] := ⟨MOK.mkG mixes tabT_ok base_ok ms10 e10, ms10⟩
theorem ms12 : MsOK Tryz.prog [0] [m11, m10, m9, m8, m7, m6, m5, m4, m3, m2, m1, m0] := ⟨MOK.mkG mixes tabT_ok base_ok ms11 e11, ms11⟩
theorem ms13 : MsOK Tryz.prog [0] [m12, m11, m10, m9, m8, m7, m6, m5, m4, m3, m2, m1, m0] := ⟨MOK.mkG mixes tabT_ok base_ok ms12 e12, ms12⟩
theorem ms14 : MsOK Tryz.prog [0] [m13, m12, m11, m10, m9, m8, m7, m6, m5, m4, m3, m2, m1, m0] := ⟨MOK.mkG mixes tabT_ok base_ok ms13 e13, ms13⟩
theorem ms15 : MsOK Tryz.prog [0] [m14, m13, m12, m11, m10, m9, m8, m7, m6, m5, m4, m3, m2, m1, m0] := ⟨MOK.mkG mixes tabT_ok base_ok ms14 e14, ms14⟩
theorem ms16 : MsOK Tryz.prog [0] [m15, m14, m13, m12, m11, m10, m9, m8, m7, m6, m5, m4, m3, m2, m1, m0] := ⟨MOK.mkG mixes tabT_ok base_ok ms15 e15, ms15⟩
theorem ms17 : MsOK Tryz.prog [0] [m16, m15, m14, m13, m12, m11, m10, m9, m8, m7, m6, m5, m4, m3, m2, m1, m0] := ⟨MOK.mkG mixes tabT_ok base_ok ms16 e16, ms16⟩
theorem ms18 : MsOK Tryz.prog [0] [m17, m16, m15, m14, m13, m12, m11, m10, m9, m8, m7, m6, m5, m4, m3, m2, m1, m0] := ⟨MOK.mkG mixes tabT_ok base_ok ms17 e17, ms17⟩
theorem ms19 : MsOK Tryz.prog [0] [m18, m17, m16, m15, m14, m13, m12, m11, m10, m9, m8, m7, m6, m5, m4, m3, m2, m1, m0] := ⟨MOK.mkG mixes tabT_ok base_ok ms18 e18, ms18⟩
theorem ms20 : MsOK Tryz.prog [0] [m19, m18, m17, m16, m15, m14, m13, m12, m11, m10, m9, m8, m7, m6, m5, m4, m3, m2, m1, m0] := ⟨MOK.mkG mixes tabT_ok base_ok ms19 e19, ms19⟩
theorem ms21 : MsOK Tryz.prog [0] [m20, m19, m18, m17, m16, m15, m14, m13, m12, m11, m10, m9, m8, m7, m6, m5, m4, m3, m2, m1, m0] := ⟨MOK.mkG mixes tabT_ok base_ok ms20 e20, ms20⟩
theorem ms22 : MsOK Tryz.prog [0] [m21, m20, m19, m18, m17, m16, m15, m14, m13, m12, m11, m10, m9, m8, m7, m6, m5, m4, m3, m2, m1, m0] := ⟨MOK.mkG mixes tabT_ok base_ok ms21 e21, ms21⟩
theorem ms23 : MsOK Tryz.prog [0] [m22, m21, m20, m19, m18, m17, m16, m15, m14, m13, m12, m11, m10, m9, m8, m7, m6, m5, m4, m3, m2, m1, m0] := ⟨MOK.mkG mixes tabT_ok base_ok ms22 e22, ms22⟩
end Go.Proofs.YtplhemceflgdlaaGreatDoor.Run
