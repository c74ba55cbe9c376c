/- The compiled functions are the program's: part 5 (printed by a program). -/
import Derived.Test.YtplhemceflgdlaaGreatDoorEvE
import Derived.Test.YtplhemceflgdlaaGreatDoorD5
import Derived.Test.YtplhemceflgdlaaGreatDoorProg
import Derived.KernelRfl
set_option maxRecDepth 100000
namespace Go.Proofs.YtplhemceflgdlaaGreatDoor.Run
open Go.Ev
open Go.Proofs
theorem q14 : FOK Tryz.prog [0] 14 d14 := ⟨Tryz.f14, [], Tryz.func14, by kernel_rfl, by kernel_rfl⟩
theorem q22 : FOK Tryz.prog [0] 22 d22 := ⟨Tryz.f22, [[0, 2, 1, 3], [437], [0, 1, 2, 3, 4, 5, 6, 7, 8, 9, 10, 11, 12, 13, 14, 15, 16, 17], [437], [1, 2, 3, 4, 5, 6, 7, 0, 8, 9], [0, 2, 1, 3]], Tryz.func22, by kernel_rfl, by kernel_rfl⟩
theorem q28 : FOK Tryz.prog [0] 28 d28 := ⟨Tryz.f28, [], Tryz.func28, by kernel_rfl, by kernel_rfl⟩
theorem q34 : FOK Tryz.prog [0] 34 d34 := ⟨Tryz.f34, [[]], Tryz.func34, by kernel_rfl, by kernel_rfl⟩
theorem q40 : FOK Tryz.prog [0] 40 d40 := ⟨Tryz.f40, [], Tryz.func40, by kernel_rfl, by kernel_rfl⟩
theorem q46 : FOK Tryz.prog [0] 46 d46 := ⟨Tryz.f46, [[2, 3, 4, 0, 1, 5, 6]], Tryz.func46, by kernel_rfl, by kernel_rfl⟩
theorem q52 : FOK Tryz.prog [0] 52 d52 := ⟨Tryz.f52, [], Tryz.func52, by kernel_rfl, by kernel_rfl⟩
theorem q58 : FOK Tryz.prog [0] 58 d58 := ⟨Tryz.f58, [], Tryz.func58, by kernel_rfl, by kernel_rfl⟩
theorem q64 : FOK Tryz.prog [0] 64 d64 := ⟨Tryz.f64, [], Tryz.func64, by kernel_rfl, by kernel_rfl⟩
theorem q70 : FOK Tryz.prog [0] 70 d70 := ⟨Tryz.f70, [], Tryz.func70, by kernel_rfl, by kernel_rfl⟩
theorem q76 : FOK Tryz.prog [0] 76 d76 := ⟨Tryz.f76, [[], []], Tryz.func76, by kernel_rfl, by kernel_rfl⟩
theorem q82 : FOK Tryz.prog [0] 82 d82 := ⟨Tryz.f82, [], Tryz.func82, by kernel_rfl, by kernel_rfl⟩
theorem q88 : FOK Tryz.prog [0] 88 d88 := ⟨Tryz.f88, [], Tryz.func88, by kernel_rfl, by kernel_rfl⟩
theorem q94 : FOK Tryz.prog [0] 94 d94 := ⟨Tryz.f94, [[]], Tryz.func94, by kernel_rfl, by kernel_rfl⟩
theorem q100 : FOK Tryz.prog [0] 100 d100 := ⟨Tryz.f100, [[0, 3, 1, 4, 2, 5], [2, 3, 4, 0, 1, 5, 6, 7, 11, 12, 8, 13, 14, 9, 15, 16, 10, 17, 18], [0, 3, 1, 4, 2, 5]], Tryz.func100, by kernel_rfl, by kernel_rfl⟩
theorem q106 : FOK Tryz.prog [0] 106 d106 := ⟨Tryz.f106, [[], [0, 1, 3, 4, 2, 5, 6], [0, 1, 3, 4, 2, 5, 6]], Tryz.func106, by kernel_rfl, by kernel_rfl⟩
theorem q112 : FOK Tryz.prog [0] 112 d112 := ⟨Tryz.f112, [], Tryz.func112, by kernel_rfl, by kernel_rfl⟩
theorem q120 : FOK Tryz.prog [0] 120 d120 := ⟨Tryz.f120, [], Tryz.func120, by kernel_rfl, by kernel_rfl⟩
theorem q127 : FOK Tryz.prog [0] 127 d127 := ⟨Tryz.f127, [[0, 1, 2, 3, 4, 5, 6, 7, 8, 9, 10, 11, 12, 13, 14, 15, 19, 20, 21, 22, 16, 23, 17, 24, 18, 25], [0, 1, 2, 3, 4, 5, 6, 7, 8, 9], [0, 2, 4, 5, 6, 1, 3, 7, 8, 9], [1, 2, 3, 4, 5, 6, 7, 0, 8, 9, 10]], Tryz.func127, by kernel_rfl, by kernel_rfl⟩
theorem q133 : FOK Tryz.prog [0] 133 d133 := ⟨Tryz.f133, [], Tryz.func133, by kernel_rfl, by kernel_rfl⟩
theorem q140 : FOK Tryz.prog [0] 140 d140 := ⟨Tryz.f140, [[], [0, 1, 2, 3, 4, 5, 6, 7, 10, 11, 12, 8, 9, 13, 14, 15]], Tryz.func140, by kernel_rfl, by kernel_rfl⟩
theorem q147 : FOK Tryz.prog [0] 147 d147 := ⟨Tryz.f147, [[4, 5, 6, 7, 8, 9, 0, 1, 2, 3, 10, 11, 12, 13, 14, 15, 16]], Tryz.func147, by kernel_rfl, by kernel_rfl⟩
theorem q153 : FOK Tryz.prog [0] 153 d153 := ⟨Tryz.f153, [], Tryz.func153, by kernel_rfl, by kernel_rfl⟩
theorem q160 : FOK Tryz.prog [0] 160 d160 := ⟨Tryz.f160, [], Tryz.func160, by kernel_rfl, by kernel_rfl⟩
theorem q166 : FOK Tryz.prog [0] 166 d166 := ⟨Tryz.f166, [[0, 1, 2, 3, 4, 5, 6, 7, 8]], Tryz.func166, by kernel_rfl, by kernel_rfl⟩
theorem q172 : FOK Tryz.prog [0] 172 d172 := ⟨Tryz.f172, [], Tryz.func172, by kernel_rfl, by kernel_rfl⟩
theorem q178 : FOK Tryz.prog [0] 178 d178 := ⟨Tryz.f178, [], Tryz.func178, by kernel_rfl, by kernel_rfl⟩
theorem q187 : FOK Tryz.prog [0] 187 d187 := ⟨Tryz.f187, [], Tryz.func187, by kernel_rfl, by kernel_rfl⟩
theorem q193 : FOK Tryz.prog [0] 193 d193 := ⟨Tryz.f193, [], Tryz.func193, by kernel_rfl, by kernel_rfl⟩
theorem q199 : FOK Tryz.prog [0] 199 d199 := ⟨Tryz.f199, [], Tryz.func199, by kernel_rfl, by kernel_rfl⟩
theorem q205 : FOK Tryz.prog [0] 205 d205 := ⟨Tryz.f205, [], Tryz.func205, by kernel_rfl, by kernel_rfl⟩
theorem q215 : FOK Tryz.prog [0] 215 d215 := ⟨Tryz.f215, [], Tryz.func215, by kernel_rfl, by kernel_rfl⟩
theorem q221 : FOK Tryz.prog [0] 221 d221 := ⟨Tryz.f221, [], Tryz.func221, by kernel_rfl, by kernel_rfl⟩
theorem q229 : FOK Tryz.prog [0] 229 d229 := ⟨Tryz.f229, [], Tryz.func229, by kernel_rfl, by kernel_rfl⟩
theorem q238 : FOK Tryz.prog [0] 238 d238 := ⟨Tryz.f238, [], Tryz.func238, by kernel_rfl, by kernel_rfl⟩
theorem q244 : FOK Tryz.prog [0] 244 d244 := ⟨Tryz.f244, [], Tryz.func244, by kernel_rfl, by kernel_rfl⟩
theorem q250 : FOK Tryz.prog [0] 250 d250 := ⟨Tryz.f250, [[2, 3, 4, 5, 6, 7, 0, 1, 8, 9, 10], [0, 2, 1, 3]], Tryz.func250, by kernel_rfl, by kernel_rfl⟩
theorem q257 : FOK Tryz.prog [0] 257 d257 := ⟨Tryz.f257, [], Tryz.func257, by kernel_rfl, by kernel_rfl⟩
theorem q263 : FOK Tryz.prog [0] 263 d263 := ⟨Tryz.f263, [[0, 1, 2, 3, 4, 5, 6, 7, 8]], Tryz.func263, by kernel_rfl, by kernel_rfl⟩
theorem q269 : FOK Tryz.prog [0] 269 d269 := ⟨Tryz.f269, [], Tryz.func269, by kernel_rfl, by kernel_rfl⟩
theorem q275 : FOK Tryz.prog [0] 275 d275 := ⟨Tryz.f275, [[]], Tryz.func275, by kernel_rfl, by kernel_rfl⟩
theorem q293 : FOK Tryz.prog [0] 293 d293 := ⟨Tryz.f293, [], Tryz.func293, by kernel_rfl, by kernel_rfl⟩
theorem q300 : FOK Tryz.prog [0] 300 d300 := ⟨Tryz.f300, [], Tryz.func300, by kernel_rfl, by kernel_rfl⟩
theorem q312 : FOK Tryz.prog [0] 312 d312 := ⟨Tryz.f312, [], Tryz.func312, by kernel_rfl, by kernel_rfl⟩
theorem q318 : FOK Tryz.prog [0] 318 d318 := ⟨Tryz.f318, [], Tryz.func318, by kernel_rfl, by kernel_rfl⟩
theorem q331 : FOK Tryz.prog [0] 331 d331 := ⟨Tryz.f331, [[1, 2, 3, 4, 0, 5, 6, 7]], Tryz.func331, by kernel_rfl, by kernel_rfl⟩
theorem q338 : FOK Tryz.prog [0] 338 d338 := ⟨Tryz.f338, [], Tryz.func338, by kernel_rfl, by kernel_rfl⟩
theorem q363 : FOK Tryz.prog [0] 363 d363 := ⟨Tryz.f363, [], Tryz.func363, by kernel_rfl, by kernel_rfl⟩
theorem q369 : FOK Tryz.prog [0] 369 d369 := ⟨Tryz.f369, [], Tryz.func369, by kernel_rfl, by kernel_rfl⟩
theorem q375 : FOK Tryz.prog [0] 375 d375 := ⟨Tryz.f375, [[2, 3, 4, 0, 1, 5, 6, 7]], Tryz.func375, by kernel_rfl, by kernel_rfl⟩
theorem q398 : FOK Tryz.prog [0] 398 d398 := ⟨Tryz.f398, [[], [0, 1, 2, 3, 4, 5, 6, 7]], Tryz.func398, by kernel_rfl, by kernel_rfl⟩
end Go.Proofs.YtplhemceflgdlaaGreatDoor.Run
