/- The compiled functions are the program's: part 3 (printed by a program). -/
import Derived.Test.YtfahdklcgidmmaaGreatDoorEvMemo
import Derived.Test.YtfahdklcgidmmaaGreatDoorD3
import Derived.Test.YtfahdklcgidmmaaGreatDoorProg
import Derived.KernelRfl
set_option maxRecDepth 100000
namespace Go.Proofs.YtfahdklcgidmmaaGreatDoor.Run
open Go.Ev
open Go.Proofs
theorem q11 : FOK Tryz.prog [0] 11 d11 := ⟨Tryz.f11, [], Tryz.func11, by kernel_rfl, by kernel_rfl⟩
theorem q15 : FOK Tryz.prog [0] 15 d15 := ⟨Tryz.f15, [[], [5, 6, 0, 1, 2, 3, 4, 7, 8, 9, 10, 11, 12, 13]], Tryz.func15, by kernel_rfl, by kernel_rfl⟩
theorem q19 : FOK Tryz.prog [0] 19 d19 := ⟨Tryz.f19, [], Tryz.func19, by kernel_rfl, by kernel_rfl⟩
theorem q23 : FOK Tryz.prog [0] 23 d23 := ⟨Tryz.f23, [[], []], Tryz.func23, by kernel_rfl, by kernel_rfl⟩
theorem q27 : FOK Tryz.prog [0] 27 d27 := ⟨Tryz.f27, [[]], Tryz.func27, by kernel_rfl, by kernel_rfl⟩
theorem q31 : FOK Tryz.prog [0] 31 d31 := ⟨Tryz.f31, [], Tryz.func31, by kernel_rfl, by kernel_rfl⟩
theorem q35 : FOK Tryz.prog [0] 35 d35 := ⟨Tryz.f35, [], Tryz.func35, by kernel_rfl, by kernel_rfl⟩
theorem q39 : FOK Tryz.prog [0] 39 d39 := ⟨Tryz.f39, [[0, 2, 1, 3, 4], [0, 1, 2, 3, 4, 5, 6], [], [0, 2, 1, 3], [0, 3, 1, 4, 2, 5]], Tryz.func39, by kernel_rfl, by kernel_rfl⟩
theorem q43 : FOK Tryz.prog [0] 43 d43 := ⟨Tryz.f43, [[0, 2, 1, 3, 4, 5], [0, 2, 1, 3, 4, 5], [0, 3, 1, 4, 2, 5, 6]], Tryz.func43, by kernel_rfl, by kernel_rfl⟩
theorem q47 : FOK Tryz.prog [0] 47 d47 := ⟨Tryz.f47, [], Tryz.func47, by kernel_rfl, by kernel_rfl⟩
theorem q51 : FOK Tryz.prog [0] 51 d51 := ⟨Tryz.f51, [[]], Tryz.func51, by kernel_rfl, by kernel_rfl⟩
theorem q55 : FOK Tryz.prog [0] 55 d55 := ⟨Tryz.f55, [[]], Tryz.func55, by kernel_rfl, by kernel_rfl⟩
theorem q59 : FOK Tryz.prog [0] 59 d59 := ⟨Tryz.f59, [[0, 1, 2, 3, 4, 5, 6, 7, 8, 9, 10, 11, 12, 13, 14, 15, 16]], Tryz.func59, by kernel_rfl, by kernel_rfl⟩
theorem q63 : FOK Tryz.prog [0] 63 d63 := ⟨Tryz.f63, [[], [0, 1, 3, 4, 2, 5, 6], [0, 1, 3, 4, 2, 5, 6]], Tryz.func63, by kernel_rfl, by kernel_rfl⟩
theorem q70 : FOK Tryz.prog [0] 70 d70 := ⟨Tryz.f70, [[]], Tryz.func70, by kernel_rfl, by kernel_rfl⟩
theorem q75 : FOK Tryz.prog [0] 75 d75 := ⟨Tryz.f75, [[]], Tryz.func75, by kernel_rfl, by kernel_rfl⟩
theorem q79 : FOK Tryz.prog [0] 79 d79 := ⟨Tryz.f79, [[1, 2, 3, 4, 5, 6, 7, 8, 9, 10, 11, 12, 13, 14, 0, 15, 16, 17, 18], [1, 2, 3, 4, 5, 6, 7, 0, 8, 9, 10]], Tryz.func79, by kernel_rfl, by kernel_rfl⟩
theorem q84 : FOK Tryz.prog [0] 84 d84 := ⟨Tryz.f84, [[], [], [0, 1, 2, 3, 4, 5, 6, 7, 8, 9, 10, 11, 12, 13, 14], [0, 1, 5, 6, 7, 8, 9, 10, 11, 12, 13, 14, 15, 2, 3, 4, 16, 17]], Tryz.func84, by kernel_rfl, by kernel_rfl⟩
theorem q89 : FOK Tryz.prog [0] 89 d89 := ⟨Tryz.f89, [], Tryz.func89, by kernel_rfl, by kernel_rfl⟩
theorem q103 : FOK Tryz.prog [0] 103 d103 := ⟨Tryz.f103, [[4, 5, 6, 7, 8, 9, 0, 1, 2, 3, 10, 11, 12, 13, 14, 15, 16]], Tryz.func103, by kernel_rfl, by kernel_rfl⟩
theorem q108 : FOK Tryz.prog [0] 108 d108 := ⟨Tryz.f108, [[]], Tryz.func108, by kernel_rfl, by kernel_rfl⟩
theorem q112 : FOK Tryz.prog [0] 112 d112 := ⟨Tryz.f112, [[2, 3, 4, 7, 8, 9, 10, 0, 1, 5, 6, 11, 12]], Tryz.func112, by kernel_rfl, by kernel_rfl⟩
theorem q116 : FOK Tryz.prog [0] 116 d116 := ⟨Tryz.f116, [], Tryz.func116, by kernel_rfl, by kernel_rfl⟩
theorem q120 : FOK Tryz.prog [0] 120 d120 := ⟨Tryz.f120, [], Tryz.func120, by kernel_rfl, by kernel_rfl⟩
theorem q124 : FOK Tryz.prog [0] 124 d124 := ⟨Tryz.f124, [[0, 1, 2, 3, 4, 5, 6, 7, 8]], Tryz.func124, by kernel_rfl, by kernel_rfl⟩
theorem q132 : FOK Tryz.prog [0] 132 d132 := ⟨Tryz.f132, [], Tryz.func132, by kernel_rfl, by kernel_rfl⟩
theorem q140 : FOK Tryz.prog [0] 140 d140 := ⟨Tryz.f140, [], Tryz.func140, by kernel_rfl, by kernel_rfl⟩
theorem q145 : FOK Tryz.prog [0] 145 d145 := ⟨Tryz.f145, [], Tryz.func145, by kernel_rfl, by kernel_rfl⟩
theorem q153 : FOK Tryz.prog [0] 153 d153 := ⟨Tryz.f153, [[1, 2, 3, 4, 5, 6, 7, 8, 9, 10, 11, 12, 13, 14, 15, 16, 17, 18, 19, 20, 0, 21, 22, 23]], Tryz.func153, by kernel_rfl, by kernel_rfl⟩
theorem q157 : FOK Tryz.prog [0] 157 d157 := ⟨Tryz.f157, [], Tryz.func157, by kernel_rfl, by kernel_rfl⟩
theorem q161 : FOK Tryz.prog [0] 161 d161 := ⟨Tryz.f161, [[1, 2, 3, 0, 4, 5, 6, 7, 8, 9]], Tryz.func161, by kernel_rfl, by kernel_rfl⟩
theorem q165 : FOK Tryz.prog [0] 165 d165 := ⟨Tryz.f165, [], Tryz.func165, by kernel_rfl, by kernel_rfl⟩
theorem q175 : FOK Tryz.prog [0] 175 d175 := ⟨Tryz.f175, [], Tryz.func175, by kernel_rfl, by kernel_rfl⟩
theorem q194 : FOK Tryz.prog [0] 194 d194 := ⟨Tryz.f194, [], Tryz.func194, by kernel_rfl, by kernel_rfl⟩
theorem q201 : FOK Tryz.prog [0] 201 d201 := ⟨Tryz.f201, [[0, 1, 2, 3, 4, 5, 6, 7, 8, 9]], Tryz.func201, by kernel_rfl, by kernel_rfl⟩
theorem q205 : FOK Tryz.prog [0] 205 d205 := ⟨Tryz.f205, [], Tryz.func205, by kernel_rfl, by kernel_rfl⟩
theorem q209 : FOK Tryz.prog [0] 209 d209 := ⟨Tryz.f209, [], Tryz.func209, by kernel_rfl, by kernel_rfl⟩
theorem q213 : FOK Tryz.prog [0] 213 d213 := ⟨Tryz.f213, [[2, 3, 4, 5, 6, 7, 0, 1, 8, 9, 10], [0, 2, 1, 3]], Tryz.func213, by kernel_rfl, by kernel_rfl⟩
theorem q222 : FOK Tryz.prog [0] 222 d222 := ⟨Tryz.f222, [], Tryz.func222, by kernel_rfl, by kernel_rfl⟩
theorem q233 : FOK Tryz.prog [0] 233 d233 := ⟨Tryz.f233, [], Tryz.func233, by kernel_rfl, by kernel_rfl⟩
theorem q237 : FOK Tryz.prog [0] 237 d237 := ⟨Tryz.f237, [], Tryz.func237, by kernel_rfl, by kernel_rfl⟩
theorem q244 : FOK Tryz.prog [0] 244 d244 := ⟨Tryz.f244, [], Tryz.func244, by kernel_rfl, by kernel_rfl⟩
theorem q252 : FOK Tryz.prog [0] 252 d252 := ⟨Tryz.f252, [[], [], [0, 1, 2, 3, 4, 5, 6, 7, 8, 9, 10, 11, 12, 13, 14, 15, 16], [0, 1, 5, 6, 7, 8, 9, 10, 11, 12, 13, 14, 15, 2, 3, 4, 16, 17]], Tryz.func252, by kernel_rfl, by kernel_rfl⟩
theorem q269 : FOK Tryz.prog [0] 269 d269 := ⟨Tryz.f269, [], Tryz.func269, by kernel_rfl, by kernel_rfl⟩
theorem q273 : FOK Tryz.prog [0] 273 d273 := ⟨Tryz.f273, [], Tryz.func273, by kernel_rfl, by kernel_rfl⟩
theorem q291 : FOK Tryz.prog [0] 291 d291 := ⟨Tryz.f291, [], Tryz.func291, by kernel_rfl, by kernel_rfl⟩
theorem q304 : FOK Tryz.prog [0] 304 d304 := ⟨Tryz.f304, [[1, 2, 3, 4, 0, 5, 6, 7]], Tryz.func304, by kernel_rfl, by kernel_rfl⟩
theorem q311 : FOK Tryz.prog [0] 311 d311 := ⟨Tryz.f311, [[]], Tryz.func311, by kernel_rfl, by kernel_rfl⟩
theorem q327 : FOK Tryz.prog [0] 327 d327 := ⟨Tryz.f327, [[], [0, 1, 2, 3, 4, 5]], Tryz.func327, by kernel_rfl, by kernel_rfl⟩
end Go.Proofs.YtfahdklcgidmmaaGreatDoor.Run
