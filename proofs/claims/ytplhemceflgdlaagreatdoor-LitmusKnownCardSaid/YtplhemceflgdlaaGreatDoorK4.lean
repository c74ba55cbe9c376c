/- The compiled functions are the program's: part 4 (printed by a program). -/
import Derived.Test.YtplhemceflgdlaaGreatDoorEvE
import Derived.Test.YtplhemceflgdlaaGreatDoorD4
import Derived.Test.YtplhemceflgdlaaGreatDoorProg
import Derived.KernelRfl
set_option maxRecDepth 100000
namespace Go.Proofs.YtplhemceflgdlaaGreatDoor.Run
open Go.Ev
open Go.Proofs
theorem q13 : FOK Tryz.prog [0] 13 d13 := ⟨Tryz.f13, [], Tryz.func13, by kernel_rfl, by kernel_rfl⟩
theorem q21 : FOK Tryz.prog [0] 21 d21 := ⟨Tryz.f21, [[]], Tryz.func21, by kernel_rfl, by kernel_rfl⟩
theorem q27 : FOK Tryz.prog [0] 27 d27 := ⟨Tryz.f27, [[1, 2, 3, 0, 4, 5, 6, 7, 8, 9]], Tryz.func27, by kernel_rfl, by kernel_rfl⟩
theorem q33 : FOK Tryz.prog [0] 33 d33 := ⟨Tryz.f33, [], Tryz.func33, by kernel_rfl, by kernel_rfl⟩
theorem q39 : FOK Tryz.prog [0] 39 d39 := ⟨Tryz.f39, [], Tryz.func39, by kernel_rfl, by kernel_rfl⟩
theorem q45 : FOK Tryz.prog [0] 45 d45 := ⟨Tryz.f45, [], Tryz.func45, by kernel_rfl, by kernel_rfl⟩
theorem q51 : FOK Tryz.prog [0] 51 d51 := ⟨Tryz.f51, [[]], Tryz.func51, by kernel_rfl, by kernel_rfl⟩
theorem q57 : FOK Tryz.prog [0] 57 d57 := ⟨Tryz.f57, [[]], Tryz.func57, by kernel_rfl, by kernel_rfl⟩
theorem q63 : FOK Tryz.prog [0] 63 d63 := ⟨Tryz.f63, [], Tryz.func63, by kernel_rfl, by kernel_rfl⟩
theorem q69 : FOK Tryz.prog [0] 69 d69 := ⟨Tryz.f69, [], Tryz.func69, by kernel_rfl, by kernel_rfl⟩
theorem q75 : FOK Tryz.prog [0] 75 d75 := ⟨Tryz.f75, [[0, 2, 1, 3, 4], [0, 1, 2, 3, 4, 5, 6], [], [0, 2, 1, 3], [0, 3, 1, 4, 2, 5]], Tryz.func75, by kernel_rfl, by kernel_rfl⟩
theorem q81 : FOK Tryz.prog [0] 81 d81 := ⟨Tryz.f81, [[], []], Tryz.func81, by kernel_rfl, by kernel_rfl⟩
theorem q87 : FOK Tryz.prog [0] 87 d87 := ⟨Tryz.f87, [[]], Tryz.func87, by kernel_rfl, by kernel_rfl⟩
theorem q93 : FOK Tryz.prog [0] 93 d93 := ⟨Tryz.f93, [[]], Tryz.func93, by kernel_rfl, by kernel_rfl⟩
theorem q99 : FOK Tryz.prog [0] 99 d99 := ⟨Tryz.f99, [], Tryz.func99, by kernel_rfl, by kernel_rfl⟩
theorem q105 : FOK Tryz.prog [0] 105 d105 := ⟨Tryz.f105, [[0, 1, 5, 6, 2, 3, 4, 7], [], [0, 7, 1, 2, 3, 4, 5, 6, 8]], Tryz.func105, by kernel_rfl, by kernel_rfl⟩
theorem q111 : FOK Tryz.prog [0] 111 d111 := ⟨Tryz.f111, [], Tryz.func111, by kernel_rfl, by kernel_rfl⟩
theorem q119 : FOK Tryz.prog [0] 119 d119 := ⟨Tryz.f119, [[]], Tryz.func119, by kernel_rfl, by kernel_rfl⟩
theorem q126 : FOK Tryz.prog [0] 126 d126 := ⟨Tryz.f126, [[0, 1, 4, 5, 2, 3, 6, 7], [0, 1, 2, 3, 4, 13, 14, 5, 6, 7, 8, 9, 15, 16, 10, 11, 12, 17, 18], [0, 1, 2, 3, 4, 5, 6, 7, 8, 9, 10, 11, 12, 13, 14, 15, 16, 17], [0, 1, 2, 3, 9, 10, 11, 12, 13, 4, 5, 6, 7, 8, 14, 15, 16, 17]], Tryz.func126, by kernel_rfl, by kernel_rfl⟩
theorem q132 : FOK Tryz.prog [0] 132 d132 := ⟨Tryz.f132, [[], []], Tryz.func132, by kernel_rfl, by kernel_rfl⟩
theorem q139 : FOK Tryz.prog [0] 139 d139 := ⟨Tryz.f139, [], Tryz.func139, by kernel_rfl, by kernel_rfl⟩
theorem q146 : FOK Tryz.prog [0] 146 d146 := ⟨Tryz.f146, [[0, 1, 4, 5, 2, 3, 6, 7], [0, 2, 1, 3]], Tryz.func146, by kernel_rfl, by kernel_rfl⟩
theorem q152 : FOK Tryz.prog [0] 152 d152 := ⟨Tryz.f152, [[]], Tryz.func152, by kernel_rfl, by kernel_rfl⟩
theorem q159 : FOK Tryz.prog [0] 159 d159 := ⟨Tryz.f159, [], Tryz.func159, by kernel_rfl, by kernel_rfl⟩
theorem q165 : FOK Tryz.prog [0] 165 d165 := ⟨Tryz.f165, [], Tryz.func165, by kernel_rfl, by kernel_rfl⟩
theorem q171 : FOK Tryz.prog [0] 171 d171 := ⟨Tryz.f171, [], Tryz.func171, by kernel_rfl, by kernel_rfl⟩
theorem q177 : FOK Tryz.prog [0] 177 d177 := ⟨Tryz.f177, [], Tryz.func177, by kernel_rfl, by kernel_rfl⟩
theorem q186 : FOK Tryz.prog [0] 186 d186 := ⟨Tryz.f186, [], Tryz.func186, by kernel_rfl, by kernel_rfl⟩
theorem q192 : FOK Tryz.prog [0] 192 d192 := ⟨Tryz.f192, [[0, 1, 2, 3, 4, 5, 6, 7]], Tryz.func192, by kernel_rfl, by kernel_rfl⟩
theorem q198 : FOK Tryz.prog [0] 198 d198 := ⟨Tryz.f198, [[1, 2, 3, 4, 5, 6, 7, 8, 9, 10, 11, 12, 13, 14, 15, 16, 17, 18, 19, 20, 0, 21, 22, 23]], Tryz.func198, by kernel_rfl, by kernel_rfl⟩
theorem q204 : FOK Tryz.prog [0] 204 d204 := ⟨Tryz.f204, [], Tryz.func204, by kernel_rfl, by kernel_rfl⟩
theorem q214 : FOK Tryz.prog [0] 214 d214 := ⟨Tryz.f214, [[], [], []], Tryz.func214, by kernel_rfl, by kernel_rfl⟩
theorem q220 : FOK Tryz.prog [0] 220 d220 := ⟨Tryz.f220, [], Tryz.func220, by kernel_rfl, by kernel_rfl⟩
theorem q228 : FOK Tryz.prog [0] 228 d228 := ⟨Tryz.f228, [], Tryz.func228, by kernel_rfl, by kernel_rfl⟩
theorem q237 : FOK Tryz.prog [0] 237 d237 := ⟨Tryz.f237, [], Tryz.func237, by kernel_rfl, by kernel_rfl⟩
theorem q243 : FOK Tryz.prog [0] 243 d243 := ⟨Tryz.f243, [], Tryz.func243, by kernel_rfl, by kernel_rfl⟩
theorem q249 : FOK Tryz.prog [0] 249 d249 := ⟨Tryz.f249, [], Tryz.func249, by kernel_rfl, by kernel_rfl⟩
theorem q255 : FOK Tryz.prog [0] 255 d255 := ⟨Tryz.f255, [[2, 3, 4, 5, 0, 1, 6, 7]], Tryz.func255, by kernel_rfl, by kernel_rfl⟩
theorem q262 : FOK Tryz.prog [0] 262 d262 := ⟨Tryz.f262, [[0, 1, 2, 3, 4, 5, 6, 7, 8, 9, 10, 11, 12, 13, 14, 15], [0, 2, 3, 4, 5, 6, 7, 8, 9, 10, 11, 12, 13, 14, 1, 15, 16, 17, 18], [1, 2, 3, 4, 5, 6, 7, 8, 9, 10, 11, 12, 13, 0, 14, 15, 16, 17], [1, 2, 3, 4, 5, 6, 7, 8, 9, 10, 11, 12, 0, 13, 14, 15, 16], [1, 2, 3, 4, 5, 6, 7, 8, 0, 9, 10, 11, 12]], Tryz.func262, by kernel_rfl, by kernel_rfl⟩
theorem q268 : FOK Tryz.prog [0] 268 d268 := ⟨Tryz.f268, [], Tryz.func268, by kernel_rfl, by kernel_rfl⟩
theorem q274 : FOK Tryz.prog [0] 274 d274 := ⟨Tryz.f274, [], Tryz.func274, by kernel_rfl, by kernel_rfl⟩
theorem q292 : FOK Tryz.prog [0] 292 d292 := ⟨Tryz.f292, [[], [0, 1, 2, 3, 4, 5, 6, 7, 8, 9, 10, 11, 12, 13, 14, 15, 16, 17, 18, 19, 20, 21, 22, 23, 24, 25, 26, 27, 28, 29, 30, 31, 32, 33, 34, 35, 36, 37, 38, 39], [], [0, 1, 2, 3, 4, 5, 6, 7, 8, 9, 10, 11, 12, 13, 14, 15, 16, 17, 18]], Tryz.func292, by kernel_rfl, by kernel_rfl⟩
theorem q299 : FOK Tryz.prog [0] 299 d299 := ⟨Tryz.f299, [], Tryz.func299, by kernel_rfl, by kernel_rfl⟩
theorem q305 : FOK Tryz.prog [0] 305 d305 := ⟨Tryz.f305, [[0, 1, 2, 3, 4, 5, 6]], Tryz.func305, by kernel_rfl, by kernel_rfl⟩
theorem q317 : FOK Tryz.prog [0] 317 d317 := ⟨Tryz.f317, [], Tryz.func317, by kernel_rfl, by kernel_rfl⟩
theorem q330 : FOK Tryz.prog [0] 330 d330 := ⟨Tryz.f330, [[0, 1, 2, 3, 4, 5, 6, 7, 8]], Tryz.func330, by kernel_rfl, by kernel_rfl⟩
theorem q337 : FOK Tryz.prog [0] 337 d337 := ⟨Tryz.f337, [[]], Tryz.func337, by kernel_rfl, by kernel_rfl⟩
theorem q353 : FOK Tryz.prog [0] 353 d353 := ⟨Tryz.f353, [], Tryz.func353, by kernel_rfl, by kernel_rfl⟩
theorem q368 : FOK Tryz.prog [0] 368 d368 := ⟨Tryz.f368, [], Tryz.func368, by kernel_rfl, by kernel_rfl⟩
theorem q374 : FOK Tryz.prog [0] 374 d374 := ⟨Tryz.f374, [[]], Tryz.func374, by kernel_rfl, by kernel_rfl⟩
theorem q397 : FOK Tryz.prog [0] 397 d397 := ⟨Tryz.f397, [], Tryz.func397, by kernel_rfl, by kernel_rfl⟩
end Go.Proofs.YtplhemceflgdlaaGreatDoor.Run
