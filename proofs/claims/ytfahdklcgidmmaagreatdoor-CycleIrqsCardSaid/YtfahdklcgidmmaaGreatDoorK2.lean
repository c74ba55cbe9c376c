/- The compiled functions are the program's: part 2 (printed by a program). -/
import Derived.Test.YtfahdklcgidmmaaGreatDoorEvMemo
import Derived.Test.YtfahdklcgidmmaaGreatDoorD2
import Derived.Test.YtfahdklcgidmmaaGreatDoorProg
import Derived.KernelRfl
set_option maxRecDepth 100000
namespace Go.Proofs.YtfahdklcgidmmaaGreatDoor.Run
open Go.Ev
open Go.Proofs
theorem q10 : FOK Tryz.prog [0] 10 d10 := ⟨Tryz.f10, [[], [0, 1, 2, 3, 4, 5, 6, 7, 8, 9, 10]], Tryz.func10, by kernel_rfl, by kernel_rfl⟩
theorem q14 : FOK Tryz.prog [0] 14 d14 := ⟨Tryz.f14, [], Tryz.func14, by kernel_rfl, by kernel_rfl⟩
theorem q18 : FOK Tryz.prog [0] 18 d18 := ⟨Tryz.f18, [[]], Tryz.func18, by kernel_rfl, by kernel_rfl⟩
theorem q22 : FOK Tryz.prog [0] 22 d22 := ⟨Tryz.f22, [[3, 4, 5, 6, 7, 8, 9, 0, 11, 1, 12, 2, 10, 13, 14, 15]], Tryz.func22, by kernel_rfl, by kernel_rfl⟩
theorem q26 : FOK Tryz.prog [0] 26 d26 := ⟨Tryz.f26, [], Tryz.func26, by kernel_rfl, by kernel_rfl⟩
theorem q30 : FOK Tryz.prog [0] 30 d30 := ⟨Tryz.f30, [[]], Tryz.func30, by kernel_rfl, by kernel_rfl⟩
theorem q34 : FOK Tryz.prog [0] 34 d34 := ⟨Tryz.f34, [[0, 1, 2, 3, 4, 5, 6, 7, 8, 9]], Tryz.func34, by kernel_rfl, by kernel_rfl⟩
theorem q38 : FOK Tryz.prog [0] 38 d38 := ⟨Tryz.f38, [[]], Tryz.func38, by kernel_rfl, by kernel_rfl⟩
theorem q42 : FOK Tryz.prog [0] 42 d42 := ⟨Tryz.f42, [[]], Tryz.func42, by kernel_rfl, by kernel_rfl⟩
theorem q46 : FOK Tryz.prog [0] 46 d46 := ⟨Tryz.f46, [[]], Tryz.func46, by kernel_rfl, by kernel_rfl⟩
theorem q50 : FOK Tryz.prog [0] 50 d50 := ⟨Tryz.f50, [[]], Tryz.func50, by kernel_rfl, by kernel_rfl⟩
theorem q54 : FOK Tryz.prog [0] 54 d54 := ⟨Tryz.f54, [[0, 1, 2, 3, 4, 5, 6, 7, 8]], Tryz.func54, by kernel_rfl, by kernel_rfl⟩
theorem q58 : FOK Tryz.prog [0] 58 d58 := ⟨Tryz.f58, [[0, 1, 2, 3, 4, 5, 6, 7, 8, 9, 10]], Tryz.func58, by kernel_rfl, by kernel_rfl⟩
theorem q62 : FOK Tryz.prog [0] 62 d62 := ⟨Tryz.f62, [[0, 1, 5, 6, 2, 3, 4, 7], [], [0, 7, 1, 2, 3, 4, 5, 6, 8]], Tryz.func62, by kernel_rfl, by kernel_rfl⟩
theorem q69 : FOK Tryz.prog [0] 69 d69 := ⟨Tryz.f69, [], Tryz.func69, by kernel_rfl, by kernel_rfl⟩
theorem q74 : FOK Tryz.prog [0] 74 d74 := ⟨Tryz.f74, [], Tryz.func74, by kernel_rfl, by kernel_rfl⟩
theorem q78 : FOK Tryz.prog [0] 78 d78 := ⟨Tryz.f78, [[0, 1, 2, 3, 4, 5, 6, 7, 8, 9, 10, 11, 12, 14, 15, 13, 16], [3, 4, 5, 6, 7, 8, 0, 2, 9, 10, 11, 1, 12, 13, 14]], Tryz.func78, by kernel_rfl, by kernel_rfl⟩
theorem q83 : FOK Tryz.prog [0] 83 d83 := ⟨Tryz.f83, [], Tryz.func83, by kernel_rfl, by kernel_rfl⟩
theorem q88 : FOK Tryz.prog [0] 88 d88 := ⟨Tryz.f88, [[], []], Tryz.func88, by kernel_rfl, by kernel_rfl⟩
theorem q96 : FOK Tryz.prog [0] 96 d96 := ⟨Tryz.f96, [[], [0, 1, 2, 3, 4, 5, 6, 7, 10, 11, 12, 8, 9, 13, 14, 15]], Tryz.func96, by kernel_rfl, by kernel_rfl⟩
theorem q107 : FOK Tryz.prog [0] 107 d107 := ⟨Tryz.f107, [], Tryz.func107, by kernel_rfl, by kernel_rfl⟩
theorem q111 : FOK Tryz.prog [0] 111 d111 := ⟨Tryz.f111, [[1, 0, 2, 3, 4, 5, 6]], Tryz.func111, by kernel_rfl, by kernel_rfl⟩
theorem q115 : FOK Tryz.prog [0] 115 d115 := ⟨Tryz.f115, [], Tryz.func115, by kernel_rfl, by kernel_rfl⟩
theorem q119 : FOK Tryz.prog [0] 119 d119 := ⟨Tryz.f119, [[0, 1, 2, 3, 4, 5, 6, 7, 8, 9, 10, 11, 12, 13]], Tryz.func119, by kernel_rfl, by kernel_rfl⟩
theorem q123 : FOK Tryz.prog [0] 123 d123 := ⟨Tryz.f123, [], Tryz.func123, by kernel_rfl, by kernel_rfl⟩
theorem q131 : FOK Tryz.prog [0] 131 d131 := ⟨Tryz.f131, [], Tryz.func131, by kernel_rfl, by kernel_rfl⟩
theorem q139 : FOK Tryz.prog [0] 139 d139 := ⟨Tryz.f139, [], Tryz.func139, by kernel_rfl, by kernel_rfl⟩
theorem q143 : FOK Tryz.prog [0] 143 d143 := ⟨Tryz.f143, [[]], Tryz.func143, by kernel_rfl, by kernel_rfl⟩
theorem q148 : FOK Tryz.prog [0] 148 d148 := ⟨Tryz.f148, [], Tryz.func148, by kernel_rfl, by kernel_rfl⟩
theorem q156 : FOK Tryz.prog [0] 156 d156 := ⟨Tryz.f156, [], Tryz.func156, by kernel_rfl, by kernel_rfl⟩
theorem q160 : FOK Tryz.prog [0] 160 d160 := ⟨Tryz.f160, [], Tryz.func160, by kernel_rfl, by kernel_rfl⟩
theorem q164 : FOK Tryz.prog [0] 164 d164 := ⟨Tryz.f164, [], Tryz.func164, by kernel_rfl, by kernel_rfl⟩
theorem q171 : FOK Tryz.prog [0] 171 d171 := ⟨Tryz.f171, [[], [1, 2, 3, 4, 5, 6, 7, 8, 9, 10, 11, 12, 13, 14, 15, 16, 0, 17, 18, 19, 20, 21, 22, 23, 24, 25, 26]], Tryz.func171, by kernel_rfl, by kernel_rfl⟩
theorem q193 : FOK Tryz.prog [0] 193 d193 := ⟨Tryz.f193, [], Tryz.func193, by kernel_rfl, by kernel_rfl⟩
theorem q200 : FOK Tryz.prog [0] 200 d200 := ⟨Tryz.f200, [], Tryz.func200, by kernel_rfl, by kernel_rfl⟩
theorem q204 : FOK Tryz.prog [0] 204 d204 := ⟨Tryz.f204, [], Tryz.func204, by kernel_rfl, by kernel_rfl⟩
theorem q208 : FOK Tryz.prog [0] 208 d208 := ⟨Tryz.f208, [[2, 3, 0, 1, 4, 5, 6]], Tryz.func208, by kernel_rfl, by kernel_rfl⟩
theorem q212 : FOK Tryz.prog [0] 212 d212 := ⟨Tryz.f212, [], Tryz.func212, by kernel_rfl, by kernel_rfl⟩
theorem q221 : FOK Tryz.prog [0] 221 d221 := ⟨Tryz.f221, [], Tryz.func221, by kernel_rfl, by kernel_rfl⟩
theorem q232 : FOK Tryz.prog [0] 232 d232 := ⟨Tryz.f232, [], Tryz.func232, by kernel_rfl, by kernel_rfl⟩
theorem q236 : FOK Tryz.prog [0] 236 d236 := ⟨Tryz.f236, [], Tryz.func236, by kernel_rfl, by kernel_rfl⟩
theorem q243 : FOK Tryz.prog [0] 243 d243 := ⟨Tryz.f243, [], Tryz.func243, by kernel_rfl, by kernel_rfl⟩
theorem q247 : FOK Tryz.prog [0] 247 d247 := ⟨Tryz.f247, [[1, 2, 0, 3, 4]], Tryz.func247, by kernel_rfl, by kernel_rfl⟩
theorem q266 : FOK Tryz.prog [0] 266 d266 := ⟨Tryz.f266, [], Tryz.func266, by kernel_rfl, by kernel_rfl⟩
theorem q272 : FOK Tryz.prog [0] 272 d272 := ⟨Tryz.f272, [], Tryz.func272, by kernel_rfl, by kernel_rfl⟩
theorem q276 : FOK Tryz.prog [0] 276 d276 := ⟨Tryz.f276, [[0, 1, 2, 3, 4, 5, 6]], Tryz.func276, by kernel_rfl, by kernel_rfl⟩
theorem q294 : FOK Tryz.prog [0] 294 d294 := ⟨Tryz.f294, [], Tryz.func294, by kernel_rfl, by kernel_rfl⟩
theorem q309 : FOK Tryz.prog [0] 309 d309 := ⟨Tryz.f309, [[]], Tryz.func309, by kernel_rfl, by kernel_rfl⟩
theorem q326 : FOK Tryz.prog [0] 326 d326 := ⟨Tryz.f326, [[]], Tryz.func326, by kernel_rfl, by kernel_rfl⟩
theorem q364 : FOK Tryz.prog [0] 364 d364 := ⟨Tryz.f364, [], Tryz.func364, by kernel_rfl, by kernel_rfl⟩
end Go.Proofs.YtfahdklcgidmmaaGreatDoor.Run
