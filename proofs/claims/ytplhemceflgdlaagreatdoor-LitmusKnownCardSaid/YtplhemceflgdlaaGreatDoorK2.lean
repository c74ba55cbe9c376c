/- The compiled functions are the program's: part 2 (printed by a program). -/
import Derived.Test.YtplhemceflgdlaaGreatDoorEvE
import Derived.Test.YtplhemceflgdlaaGreatDoorD2
import Derived.Test.YtplhemceflgdlaaGreatDoorProg
import Derived.KernelRfl
set_option maxRecDepth 100000
namespace Go.Proofs.YtplhemceflgdlaaGreatDoor.Run
open Go.Ev
open Go.Proofs
theorem q11 : FOK Tryz.prog [0] 11 d11 := ⟨Tryz.f11, [[], [3, 4, 0, 1, 2, 5, 6, 7, 8, 9], [0, 2, 1, 3, 4]], Tryz.func11, by kernel_rfl, by kernel_rfl⟩
theorem q19 : FOK Tryz.prog [0] 19 d19 := ⟨Tryz.f19, [[]], Tryz.func19, by kernel_rfl, by kernel_rfl⟩
theorem q25 : FOK Tryz.prog [0] 25 d25 := ⟨Tryz.f25, [], Tryz.func25, by kernel_rfl, by kernel_rfl⟩
theorem q31 : FOK Tryz.prog [0] 31 d31 := ⟨Tryz.f31, [], Tryz.func31, by kernel_rfl, by kernel_rfl⟩
theorem q37 : FOK Tryz.prog [0] 37 d37 := ⟨Tryz.f37, [], Tryz.func37, by kernel_rfl, by kernel_rfl⟩
theorem q43 : FOK Tryz.prog [0] 43 d43 := ⟨Tryz.f43, [], Tryz.func43, by kernel_rfl, by kernel_rfl⟩
theorem q49 : FOK Tryz.prog [0] 49 d49 := ⟨Tryz.f49, [[], [3, 4, 0, 1, 2, 5, 6, 7], []], Tryz.func49, by kernel_rfl, by kernel_rfl⟩
theorem q55 : FOK Tryz.prog [0] 55 d55 := ⟨Tryz.f55, [], Tryz.func55, by kernel_rfl, by kernel_rfl⟩
theorem q61 : FOK Tryz.prog [0] 61 d61 := ⟨Tryz.f61, [], Tryz.func61, by kernel_rfl, by kernel_rfl⟩
theorem q67 : FOK Tryz.prog [0] 67 d67 := ⟨Tryz.f67, [[]], Tryz.func67, by kernel_rfl, by kernel_rfl⟩
theorem q73 : FOK Tryz.prog [0] 73 d73 := ⟨Tryz.f73, [[0, 2, 1, 3, 4, 5, 6], [], [0, 1, 2, 3, 4, 5, 6, 7, 8, 9, 10, 11, 12, 13], [12, 13, 14, 15, 16, 17, 0, 1, 2, 3, 22, 4, 5, 6, 7, 23, 8, 9, 10, 11, 18, 19, 20, 21, 24, 25, 26]], Tryz.func73, by kernel_rfl, by kernel_rfl⟩
theorem q79 : FOK Tryz.prog [0] 79 d79 := ⟨Tryz.f79, [[0, 2, 1, 3, 4, 5], [0, 2, 1, 3, 4, 5], [0, 3, 1, 4, 2, 5, 6]], Tryz.func79, by kernel_rfl, by kernel_rfl⟩
theorem q85 : FOK Tryz.prog [0] 85 d85 := ⟨Tryz.f85, [], Tryz.func85, by kernel_rfl, by kernel_rfl⟩
theorem q91 : FOK Tryz.prog [0] 91 d91 := ⟨Tryz.f91, [], Tryz.func91, by kernel_rfl, by kernel_rfl⟩
theorem q97 : FOK Tryz.prog [0] 97 d97 := ⟨Tryz.f97, [[0, 1, 2, 3, 4, 5, 6, 7, 8]], Tryz.func97, by kernel_rfl, by kernel_rfl⟩
theorem q103 : FOK Tryz.prog [0] 103 d103 := ⟨Tryz.f103, [[0, 1, 2, 3, 4, 5, 6, 7, 8, 9, 10, 11, 12, 13]], Tryz.func103, by kernel_rfl, by kernel_rfl⟩
theorem q109 : FOK Tryz.prog [0] 109 d109 := ⟨Tryz.f109, [], Tryz.func109, by kernel_rfl, by kernel_rfl⟩
theorem q116 : FOK Tryz.prog [0] 116 d116 := ⟨Tryz.f116, [[]], Tryz.func116, by kernel_rfl, by kernel_rfl⟩
theorem q123 : FOK Tryz.prog [0] 123 d123 := ⟨Tryz.f123, [], Tryz.func123, by kernel_rfl, by kernel_rfl⟩
theorem q130 : FOK Tryz.prog [0] 130 d130 := ⟨Tryz.f130, [], Tryz.func130, by kernel_rfl, by kernel_rfl⟩
theorem q137 : FOK Tryz.prog [0] 137 d137 := ⟨Tryz.f137, [], Tryz.func137, by kernel_rfl, by kernel_rfl⟩
theorem q143 : FOK Tryz.prog [0] 143 d143 := ⟨Tryz.f143, [[2, 3, 4, 0, 1, 5, 6, 7, 8, 9, 10], [0, 2, 1, 3], [0, 2, 1, 3]], Tryz.func143, by kernel_rfl, by kernel_rfl⟩
theorem q150 : FOK Tryz.prog [0] 150 d150 := ⟨Tryz.f150, [], Tryz.func150, by kernel_rfl, by kernel_rfl⟩
theorem q157 : FOK Tryz.prog [0] 157 d157 := ⟨Tryz.f157, [[]], Tryz.func157, by kernel_rfl, by kernel_rfl⟩
theorem q163 : FOK Tryz.prog [0] 163 d163 := ⟨Tryz.f163, [[0, 1, 2, 3, 4, 5, 6, 7, 8, 9, 10, 11, 12, 13]], Tryz.func163, by kernel_rfl, by kernel_rfl⟩
theorem q169 : FOK Tryz.prog [0] 169 d169 := ⟨Tryz.f169, [], Tryz.func169, by kernel_rfl, by kernel_rfl⟩
theorem q175 : FOK Tryz.prog [0] 175 d175 := ⟨Tryz.f175, [], Tryz.func175, by kernel_rfl, by kernel_rfl⟩
theorem q184 : FOK Tryz.prog [0] 184 d184 := ⟨Tryz.f184, [], Tryz.func184, by kernel_rfl, by kernel_rfl⟩
theorem q190 : FOK Tryz.prog [0] 190 d190 := ⟨Tryz.f190, [], Tryz.func190, by kernel_rfl, by kernel_rfl⟩
theorem q196 : FOK Tryz.prog [0] 196 d196 := ⟨Tryz.f196, [[2, 3, 4, 5, 0, 1, 6, 7, 8]], Tryz.func196, by kernel_rfl, by kernel_rfl⟩
theorem q202 : FOK Tryz.prog [0] 202 d202 := ⟨Tryz.f202, [], Tryz.func202, by kernel_rfl, by kernel_rfl⟩
theorem q209 : FOK Tryz.prog [0] 209 d209 := ⟨Tryz.f209, [[], [1, 2, 3, 4, 5, 6, 7, 8, 9, 10, 11, 12, 13, 14, 15, 16, 0, 17, 18, 19, 20, 21, 22, 23, 24, 25, 26]], Tryz.func209, by kernel_rfl, by kernel_rfl⟩
theorem q218 : FOK Tryz.prog [0] 218 d218 := ⟨Tryz.f218, [], Tryz.func218, by kernel_rfl, by kernel_rfl⟩
theorem q226 : FOK Tryz.prog [0] 226 d226 := ⟨Tryz.f226, [[0, 2, 1, 3]], Tryz.func226, by kernel_rfl, by kernel_rfl⟩
theorem q232 : FOK Tryz.prog [0] 232 d232 := ⟨Tryz.f232, [], Tryz.func232, by kernel_rfl, by kernel_rfl⟩
theorem q241 : FOK Tryz.prog [0] 241 d241 := ⟨Tryz.f241, [], Tryz.func241, by kernel_rfl, by kernel_rfl⟩
theorem q247 : FOK Tryz.prog [0] 247 d247 := ⟨Tryz.f247, [], Tryz.func247, by kernel_rfl, by kernel_rfl⟩
theorem q253 : FOK Tryz.prog [0] 253 d253 := ⟨Tryz.f253, [[5, 6, 7, 0, 1, 2, 3, 4, 8]], Tryz.func253, by kernel_rfl, by kernel_rfl⟩
theorem q260 : FOK Tryz.prog [0] 260 d260 := ⟨Tryz.f260, [[0, 1, 2, 3, 4, 5, 6, 7, 8, 9, 10], [6, 7, 8, 9, 10, 11, 12, 0, 1, 2, 3, 4, 5, 13, 14, 15, 16, 17], [1, 2, 3, 4, 5, 6, 7, 0, 8, 9], [0, 1, 2, 3, 4, 5, 6]], Tryz.func260, by kernel_rfl, by kernel_rfl⟩
theorem q266 : FOK Tryz.prog [0] 266 d266 := ⟨Tryz.f266, [], Tryz.func266, by kernel_rfl, by kernel_rfl⟩
theorem q272 : FOK Tryz.prog [0] 272 d272 := ⟨Tryz.f272, [], Tryz.func272, by kernel_rfl, by kernel_rfl⟩
theorem q283 : FOK Tryz.prog [0] 283 d283 := ⟨Tryz.f283, [[]], Tryz.func283, by kernel_rfl, by kernel_rfl⟩
theorem q297 : FOK Tryz.prog [0] 297 d297 := ⟨Tryz.f297, [], Tryz.func297, by kernel_rfl, by kernel_rfl⟩
theorem q303 : FOK Tryz.prog [0] 303 d303 := ⟨Tryz.f303, [], Tryz.func303, by kernel_rfl, by kernel_rfl⟩
theorem q315 : FOK Tryz.prog [0] 315 d315 := ⟨Tryz.f315, [[3, 4, 5, 6, 7, 8, 0, 1, 2, 9, 10]], Tryz.func315, by kernel_rfl, by kernel_rfl⟩
theorem q321 : FOK Tryz.prog [0] 321 d321 := ⟨Tryz.f321, [], Tryz.func321, by kernel_rfl, by kernel_rfl⟩
theorem q334 : FOK Tryz.prog [0] 334 d334 := ⟨Tryz.f334, [], Tryz.func334, by kernel_rfl, by kernel_rfl⟩
theorem q351 : FOK Tryz.prog [0] 351 d351 := ⟨Tryz.f351, [[]], Tryz.func351, by kernel_rfl, by kernel_rfl⟩
theorem q366 : FOK Tryz.prog [0] 366 d366 := ⟨Tryz.f366, [], Tryz.func366, by kernel_rfl, by kernel_rfl⟩
theorem q372 : FOK Tryz.prog [0] 372 d372 := ⟨Tryz.f372, [], Tryz.func372, by kernel_rfl, by kernel_rfl⟩
theorem q383 : FOK Tryz.prog [0] 383 d383 := ⟨Tryz.f383, [], Tryz.func383, by kernel_rfl, by kernel_rfl⟩
end Go.Proofs.YtplhemceflgdlaaGreatDoor.Run
