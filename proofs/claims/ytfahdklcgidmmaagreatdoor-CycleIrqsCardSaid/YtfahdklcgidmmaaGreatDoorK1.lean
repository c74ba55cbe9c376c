/- The compiled functions are the program's: part 1 (printed by a program). -/
import Derived.Test.YtfahdklcgidmmaaGreatDoorEvMemo
import Derived.Test.YtfahdklcgidmmaaGreatDoorD1
import Derived.Test.YtfahdklcgidmmaaGreatDoorProg
import Derived.KernelRfl
set_option maxRecDepth 100000
namespace Go.Proofs.YtfahdklcgidmmaaGreatDoor.Run
open Go.Ev
open Go.Proofs
theorem q8 : FOK Tryz.prog [0] 8 d8 := ⟨Tryz.f8, [], Tryz.func8, by kernel_rfl, by kernel_rfl⟩
theorem q13 : FOK Tryz.prog [0] 13 d13 := ⟨Tryz.f13, [[2, 3, 4, 0, 1, 5, 6, 7, 8]], Tryz.func13, by kernel_rfl, by kernel_rfl⟩
theorem q17 : FOK Tryz.prog [0] 17 d17 := ⟨Tryz.f17, [], Tryz.func17, by kernel_rfl, by kernel_rfl⟩
theorem q21 : FOK Tryz.prog [0] 21 d21 := ⟨Tryz.f21, [], Tryz.func21, by kernel_rfl, by kernel_rfl⟩
theorem q25 : FOK Tryz.prog [0] 25 d25 := ⟨Tryz.f25, [], Tryz.func25, by kernel_rfl, by kernel_rfl⟩
theorem q29 : FOK Tryz.prog [0] 29 d29 := ⟨Tryz.f29, [], Tryz.func29, by kernel_rfl, by kernel_rfl⟩
theorem q33 : FOK Tryz.prog [0] 33 d33 := ⟨Tryz.f33, [[]], Tryz.func33, by kernel_rfl, by kernel_rfl⟩
theorem q37 : FOK Tryz.prog [0] 37 d37 := ⟨Tryz.f37, [[0, 2, 1, 3, 4, 5, 6], [], [0, 1, 2, 3, 4, 5, 6, 7, 8, 9, 10, 11, 12, 13], [12, 13, 14, 15, 16, 17, 0, 1, 2, 3, 22, 4, 5, 6, 7, 23, 8, 9, 10, 11, 18, 19, 20, 21, 24, 25, 26]], Tryz.func37, by kernel_rfl, by kernel_rfl⟩
theorem q41 : FOK Tryz.prog [0] 41 d41 := ⟨Tryz.f41, [[10, 11, 0, 1, 2, 3, 4, 5, 6, 7, 8, 9, 12, 13, 14, 15, 18, 19, 20, 16, 17, 21, 22], []], Tryz.func41, by kernel_rfl, by kernel_rfl⟩
theorem q45 : FOK Tryz.prog [0] 45 d45 := ⟨Tryz.f45, [[], []], Tryz.func45, by kernel_rfl, by kernel_rfl⟩
theorem q49 : FOK Tryz.prog [0] 49 d49 := ⟨Tryz.f49, [[11, 12, 13, 0, 1, 2, 3, 4, 5, 6, 7, 8, 9, 10, 14]], Tryz.func49, by kernel_rfl, by kernel_rfl⟩
theorem q53 : FOK Tryz.prog [0] 53 d53 := ⟨Tryz.f53, [[1, 2, 3, 0, 4, 5]], Tryz.func53, by kernel_rfl, by kernel_rfl⟩
theorem q57 : FOK Tryz.prog [0] 57 d57 := ⟨Tryz.f57, [[0, 3, 1, 4, 2, 5], [2, 3, 4, 0, 1, 5, 6, 7, 11, 12, 8, 13, 14, 9, 15, 16, 10, 17, 18], [0, 3, 1, 4, 2, 5]], Tryz.func57, by kernel_rfl, by kernel_rfl⟩
theorem q61 : FOK Tryz.prog [0] 61 d61 := ⟨Tryz.f61, [[0, 1, 2, 3, 4, 5, 6, 7, 8, 9, 13, 14, 10, 11, 12, 15, 16, 17, 18, 19, 20, 25, 24, 26, 21, 22, 23, 27, 28, 29, 30, 31, 32, 37, 36, 38, 33, 34, 35, 39, 40, 41, 42, 43, 44, 45, 46, 47, 48, 49, 50, 51, 52, 53, 54]], Tryz.func61, by kernel_rfl, by kernel_rfl⟩
theorem q68 : FOK Tryz.prog [0] 68 d68 := ⟨Tryz.f68, [], Tryz.func68, by kernel_rfl, by kernel_rfl⟩
theorem q73 : FOK Tryz.prog [0] 73 d73 := ⟨Tryz.f73, [[]], Tryz.func73, by kernel_rfl, by kernel_rfl⟩
theorem q77 : FOK Tryz.prog [0] 77 d77 := ⟨Tryz.f77, [], Tryz.func77, by kernel_rfl, by kernel_rfl⟩
theorem q82 : FOK Tryz.prog [0] 82 d82 := ⟨Tryz.f82, [[], [], [], [1, 2, 3, 4, 5, 6, 7, 0, 8, 9, 10]], Tryz.func82, by kernel_rfl, by kernel_rfl⟩
theorem q87 : FOK Tryz.prog [0] 87 d87 := ⟨Tryz.f87, [[0, 1, 2, 3, 4, 5, 6, 7, 8], [0, 1, 2, 6, 7, 8, 3, 4, 5, 9, 10]], Tryz.func87, by kernel_rfl, by kernel_rfl⟩
theorem q93 : FOK Tryz.prog [0] 93 d93 := ⟨Tryz.f93, [], Tryz.func93, by kernel_rfl, by kernel_rfl⟩
theorem q105 : FOK Tryz.prog [0] 105 d105 := ⟨Tryz.f105, [[]], Tryz.func105, by kernel_rfl, by kernel_rfl⟩
theorem q110 : FOK Tryz.prog [0] 110 d110 := ⟨Tryz.f110, [[], []], Tryz.func110, by kernel_rfl, by kernel_rfl⟩
theorem q114 : FOK Tryz.prog [0] 114 d114 := ⟨Tryz.f114, [], Tryz.func114, by kernel_rfl, by kernel_rfl⟩
theorem q118 : FOK Tryz.prog [0] 118 d118 := ⟨Tryz.f118, [[], [0, 2, 1, 3, 4]], Tryz.func118, by kernel_rfl, by kernel_rfl⟩
theorem q122 : FOK Tryz.prog [0] 122 d122 := ⟨Tryz.f122, [[0, 1, 2, 3, 4, 5, 6, 7, 8]], Tryz.func122, by kernel_rfl, by kernel_rfl⟩
theorem q130 : FOK Tryz.prog [0] 130 d130 := ⟨Tryz.f130, [], Tryz.func130, by kernel_rfl, by kernel_rfl⟩
theorem q137 : FOK Tryz.prog [0] 137 d137 := ⟨Tryz.f137, [], Tryz.func137, by kernel_rfl, by kernel_rfl⟩
theorem q142 : FOK Tryz.prog [0] 142 d142 := ⟨Tryz.f142, [], Tryz.func142, by kernel_rfl, by kernel_rfl⟩
theorem q147 : FOK Tryz.prog [0] 147 d147 := ⟨Tryz.f147, [[0, 1, 2, 3, 4, 5, 6, 7]], Tryz.func147, by kernel_rfl, by kernel_rfl⟩
theorem q155 : FOK Tryz.prog [0] 155 d155 := ⟨Tryz.f155, [], Tryz.func155, by kernel_rfl, by kernel_rfl⟩
theorem q159 : FOK Tryz.prog [0] 159 d159 := ⟨Tryz.f159, [], Tryz.func159, by kernel_rfl, by kernel_rfl⟩
theorem q163 : FOK Tryz.prog [0] 163 d163 := ⟨Tryz.f163, [], Tryz.func163, by kernel_rfl, by kernel_rfl⟩
theorem q167 : FOK Tryz.prog [0] 167 d167 := ⟨Tryz.f167, [], Tryz.func167, by kernel_rfl, by kernel_rfl⟩
theorem q192 : FOK Tryz.prog [0] 192 d192 := ⟨Tryz.f192, [], Tryz.func192, by kernel_rfl, by kernel_rfl⟩
theorem q199 : FOK Tryz.prog [0] 199 d199 := ⟨Tryz.f199, [], Tryz.func199, by kernel_rfl, by kernel_rfl⟩
theorem q203 : FOK Tryz.prog [0] 203 d203 := ⟨Tryz.f203, [], Tryz.func203, by kernel_rfl, by kernel_rfl⟩
theorem q207 : FOK Tryz.prog [0] 207 d207 := ⟨Tryz.f207, [], Tryz.func207, by kernel_rfl, by kernel_rfl⟩
theorem q211 : FOK Tryz.prog [0] 211 d211 := ⟨Tryz.f211, [], Tryz.func211, by kernel_rfl, by kernel_rfl⟩
theorem q220 : FOK Tryz.prog [0] 220 d220 := ⟨Tryz.f220, [], Tryz.func220, by kernel_rfl, by kernel_rfl⟩
theorem q231 : FOK Tryz.prog [0] 231 d231 := ⟨Tryz.f231, [], Tryz.func231, by kernel_rfl, by kernel_rfl⟩
theorem q235 : FOK Tryz.prog [0] 235 d235 := ⟨Tryz.f235, [[]], Tryz.func235, by kernel_rfl, by kernel_rfl⟩
theorem q242 : FOK Tryz.prog [0] 242 d242 := ⟨Tryz.f242, [], Tryz.func242, by kernel_rfl, by kernel_rfl⟩
theorem q246 : FOK Tryz.prog [0] 246 d246 := ⟨Tryz.f246, [[]], Tryz.func246, by kernel_rfl, by kernel_rfl⟩
theorem q255 : FOK Tryz.prog [0] 255 d255 := ⟨Tryz.f255, [], Tryz.func255, by kernel_rfl, by kernel_rfl⟩
theorem q271 : FOK Tryz.prog [0] 271 d271 := ⟨Tryz.f271, [], Tryz.func271, by kernel_rfl, by kernel_rfl⟩
theorem q275 : FOK Tryz.prog [0] 275 d275 := ⟨Tryz.f275, [], Tryz.func275, by kernel_rfl, by kernel_rfl⟩
theorem q293 : FOK Tryz.prog [0] 293 d293 := ⟨Tryz.f293, [], Tryz.func293, by kernel_rfl, by kernel_rfl⟩
theorem q307 : FOK Tryz.prog [0] 307 d307 := ⟨Tryz.f307, [[], [0, 1, 4, 5, 6, 7, 8, 9, 10, 11, 12, 13, 2, 3, 14, 15]], Tryz.func307, by kernel_rfl, by kernel_rfl⟩
theorem q315 : FOK Tryz.prog [0] 315 d315 := ⟨Tryz.f315, [], Tryz.func315, by kernel_rfl, by kernel_rfl⟩
theorem q358 : FOK Tryz.prog [0] 358 d358 := ⟨Tryz.f358, [], Tryz.func358, by kernel_rfl, by kernel_rfl⟩
end Go.Proofs.YtfahdklcgidmmaaGreatDoor.Run
