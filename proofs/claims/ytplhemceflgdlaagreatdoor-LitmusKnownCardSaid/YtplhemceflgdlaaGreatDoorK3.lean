/- The compiled functions are the program's: part 3 (printed by a program). -/
import Derived.Test.YtplhemceflgdlaaGreatDoorEvE
import Derived.Test.YtplhemceflgdlaaGreatDoorD3
import Derived.Test.YtplhemceflgdlaaGreatDoorProg
import Derived.KernelRfl
set_option maxRecDepth 100000
namespace Go.Proofs.YtplhemceflgdlaaGreatDoor.Run
open Go.Ev
open Go.Proofs
theorem q12 : FOK Tryz.prog [0] 12 d12 := ⟨Tryz.f12, [[], []], Tryz.func12, by kernel_rfl, by kernel_rfl⟩
theorem q20 : FOK Tryz.prog [0] 20 d20 := ⟨Tryz.f20, [[]], Tryz.func20, by kernel_rfl, by kernel_rfl⟩
theorem q26 : FOK Tryz.prog [0] 26 d26 := ⟨Tryz.f26, [[0, 1, 2, 3, 4, 5, 6, 7, 8, 9, 10], [0, 1, 2, 3, 4, 5], [0, 1, 2, 3, 4, 5], [0, 1, 2, 3, 4, 5, 6, 7, 8, 9, 10, 11]], Tryz.func26, by kernel_rfl, by kernel_rfl⟩
theorem q32 : FOK Tryz.prog [0] 32 d32 := ⟨Tryz.f32, [[0, 2, 1, 3], [0, 1, 2, 3, 4, 5, 6, 7, 8], [], [0, 1, 2, 3, 4, 5, 6, 7, 8, 9, 10, 11, 12, 17, 18, 19, 13, 20, 14, 15, 16, 21, 22, 23], [0, 2, 5, 6, 3, 7, 8, 1, 4, 9, 10], [], [], [], [0, 2, 1, 3]], Tryz.func32, by kernel_rfl, by kernel_rfl⟩
theorem q38 : FOK Tryz.prog [0] 38 d38 := ⟨Tryz.f38, [[], [0, 1, 2, 3, 4, 5, 6]], Tryz.func38, by kernel_rfl, by kernel_rfl⟩
theorem q44 : FOK Tryz.prog [0] 44 d44 := ⟨Tryz.f44, [], Tryz.func44, by kernel_rfl, by kernel_rfl⟩
theorem q50 : FOK Tryz.prog [0] 50 d50 := ⟨Tryz.f50, [[3, 4, 5, 6, 7, 8, 9, 0, 11, 1, 12, 2, 10, 13, 14, 15]], Tryz.func50, by kernel_rfl, by kernel_rfl⟩
theorem q56 : FOK Tryz.prog [0] 56 d56 := ⟨Tryz.f56, [], Tryz.func56, by kernel_rfl, by kernel_rfl⟩
theorem q62 : FOK Tryz.prog [0] 62 d62 := ⟨Tryz.f62, [[]], Tryz.func62, by kernel_rfl, by kernel_rfl⟩
theorem q68 : FOK Tryz.prog [0] 68 d68 := ⟨Tryz.f68, [[], [1, 2, 3, 4, 5, 6, 7, 0, 8, 9]], Tryz.func68, by kernel_rfl, by kernel_rfl⟩
theorem q74 : FOK Tryz.prog [0] 74 d74 := ⟨Tryz.f74, [[]], Tryz.func74, by kernel_rfl, by kernel_rfl⟩
theorem q80 : FOK Tryz.prog [0] 80 d80 := ⟨Tryz.f80, [[]], Tryz.func80, by kernel_rfl, by kernel_rfl⟩
theorem q86 : FOK Tryz.prog [0] 86 d86 := ⟨Tryz.f86, [], Tryz.func86, by kernel_rfl, by kernel_rfl⟩
theorem q92 : FOK Tryz.prog [0] 92 d92 := ⟨Tryz.f92, [[11, 12, 13, 0, 1, 2, 3, 4, 5, 6, 7, 8, 9, 10, 14]], Tryz.func92, by kernel_rfl, by kernel_rfl⟩
theorem q98 : FOK Tryz.prog [0] 98 d98 := ⟨Tryz.f98, [[]], Tryz.func98, by kernel_rfl, by kernel_rfl⟩
theorem q104 : FOK Tryz.prog [0] 104 d104 := ⟨Tryz.f104, [[0, 1, 2, 3, 4, 5, 6, 7, 8, 9, 13, 14, 10, 11, 12, 15, 16, 17, 18, 19, 20, 25, 24, 26, 21, 22, 23, 27, 28, 29, 30, 31, 32, 37, 36, 38, 33, 34, 35, 39, 40, 41, 42, 43, 44, 45, 46, 47, 48, 49, 50, 51, 52, 53, 54]], Tryz.func104, by kernel_rfl, by kernel_rfl⟩
theorem q110 : FOK Tryz.prog [0] 110 d110 := ⟨Tryz.f110, [[2, 3, 4, 0, 6, 1, 7, 5, 8, 9]], Tryz.func110, by kernel_rfl, by kernel_rfl⟩
theorem q118 : FOK Tryz.prog [0] 118 d118 := ⟨Tryz.f118, [], Tryz.func118, by kernel_rfl, by kernel_rfl⟩
theorem q124 : FOK Tryz.prog [0] 124 d124 := ⟨Tryz.f124, [[0, 1, 2, 3, 4, 5, 6, 7, 8, 9, 10, 11, 12, 14, 15, 13, 16], [3, 4, 5, 6, 7, 8, 0, 2, 9, 10, 11, 1, 12, 13, 14]], Tryz.func124, by kernel_rfl, by kernel_rfl⟩
theorem q131 : FOK Tryz.prog [0] 131 d131 := ⟨Tryz.f131, [[], [0, 1, 2, 3, 4, 5, 6, 7, 8, 9]], Tryz.func131, by kernel_rfl, by kernel_rfl⟩
theorem q138 : FOK Tryz.prog [0] 138 d138 := ⟨Tryz.f138, [[0, 1, 2, 3, 4, 5, 6, 7, 8, 9, 10, 11, 12, 13]], Tryz.func138, by kernel_rfl, by kernel_rfl⟩
theorem q145 : FOK Tryz.prog [0] 145 d145 := ⟨Tryz.f145, [[0, 1, 4, 5, 2, 3, 6, 7], [0, 3, 1, 4, 2, 5], [0, 3, 1, 4, 2, 5]], Tryz.func145, by kernel_rfl, by kernel_rfl⟩
theorem q151 : FOK Tryz.prog [0] 151 d151 := ⟨Tryz.f151, [], Tryz.func151, by kernel_rfl, by kernel_rfl⟩
theorem q158 : FOK Tryz.prog [0] 158 d158 := ⟨Tryz.f158, [], Tryz.func158, by kernel_rfl, by kernel_rfl⟩
theorem q164 : FOK Tryz.prog [0] 164 d164 := ⟨Tryz.f164, [], Tryz.func164, by kernel_rfl, by kernel_rfl⟩
theorem q170 : FOK Tryz.prog [0] 170 d170 := ⟨Tryz.f170, [], Tryz.func170, by kernel_rfl, by kernel_rfl⟩
theorem q176 : FOK Tryz.prog [0] 176 d176 := ⟨Tryz.f176, [[0, 1, 2, 3, 4, 5, 6, 7, 8, 9, 10, 11]], Tryz.func176, by kernel_rfl, by kernel_rfl⟩
theorem q185 : FOK Tryz.prog [0] 185 d185 := ⟨Tryz.f185, [], Tryz.func185, by kernel_rfl, by kernel_rfl⟩
theorem q191 : FOK Tryz.prog [0] 191 d191 := ⟨Tryz.f191, [], Tryz.func191, by kernel_rfl, by kernel_rfl⟩
theorem q197 : FOK Tryz.prog [0] 197 d197 := ⟨Tryz.f197, [[0, 3, 1, 4, 2, 5, 6], [0, 1, 2, 3, 4, 5, 6, 7, 8, 9, 10], [0, 3, 1, 4, 2, 5, 6], [0, 1, 2, 3, 4, 5, 6, 7, 8, 9, 10, 11, 12, 13], [0, 1, 2, 3, 12, 4, 5, 6, 7, 13, 8, 9, 10, 11, 14, 15]], Tryz.func197, by kernel_rfl, by kernel_rfl⟩
theorem q203 : FOK Tryz.prog [0] 203 d203 := ⟨Tryz.f203, [], Tryz.func203, by kernel_rfl, by kernel_rfl⟩
theorem q213 : FOK Tryz.prog [0] 213 d213 := ⟨Tryz.f213, [], Tryz.func213, by kernel_rfl, by kernel_rfl⟩
theorem q219 : FOK Tryz.prog [0] 219 d219 := ⟨Tryz.f219, [[7, 8, 0, 1, 2, 3, 4, 5, 6, 9, 10], [2, 3, 0, 1, 4, 5]], Tryz.func219, by kernel_rfl, by kernel_rfl⟩
theorem q227 : FOK Tryz.prog [0] 227 d227 := ⟨Tryz.f227, [[0, 1, 2, 3]], Tryz.func227, by kernel_rfl, by kernel_rfl⟩
theorem q236 : FOK Tryz.prog [0] 236 d236 := ⟨Tryz.f236, [], Tryz.func236, by kernel_rfl, by kernel_rfl⟩
theorem q242 : FOK Tryz.prog [0] 242 d242 := ⟨Tryz.f242, [], Tryz.func242, by kernel_rfl, by kernel_rfl⟩
theorem q248 : FOK Tryz.prog [0] 248 d248 := ⟨Tryz.f248, [], Tryz.func248, by kernel_rfl, by kernel_rfl⟩
theorem q254 : FOK Tryz.prog [0] 254 d254 := ⟨Tryz.f254, [], Tryz.func254, by kernel_rfl, by kernel_rfl⟩
theorem q261 : FOK Tryz.prog [0] 261 d261 := ⟨Tryz.f261, [[0, 1, 2, 3, 4, 5, 6, 7, 8, 9, 10], [1, 2, 3, 4, 5, 6, 7, 8, 9, 10, 0, 11, 12, 14, 15, 16, 13], [1, 2, 3, 4, 5, 6, 7, 8, 9, 10, 0, 11, 12, 14, 15, 13]], Tryz.func261, by kernel_rfl, by kernel_rfl⟩
theorem q267 : FOK Tryz.prog [0] 267 d267 := ⟨Tryz.f267, [], Tryz.func267, by kernel_rfl, by kernel_rfl⟩
theorem q273 : FOK Tryz.prog [0] 273 d273 := ⟨Tryz.f273, [], Tryz.func273, by kernel_rfl, by kernel_rfl⟩
theorem q284 : FOK Tryz.prog [0] 284 d284 := ⟨Tryz.f284, [], Tryz.func284, by kernel_rfl, by kernel_rfl⟩
theorem q298 : FOK Tryz.prog [0] 298 d298 := ⟨Tryz.f298, [], Tryz.func298, by kernel_rfl, by kernel_rfl⟩
theorem q304 : FOK Tryz.prog [0] 304 d304 := ⟨Tryz.f304, [], Tryz.func304, by kernel_rfl, by kernel_rfl⟩
theorem q316 : FOK Tryz.prog [0] 316 d316 := ⟨Tryz.f316, [[]], Tryz.func316, by kernel_rfl, by kernel_rfl⟩
theorem q322 : FOK Tryz.prog [0] 322 d322 := ⟨Tryz.f322, [], Tryz.func322, by kernel_rfl, by kernel_rfl⟩
theorem q335 : FOK Tryz.prog [0] 335 d335 := ⟨Tryz.f335, [[]], Tryz.func335, by kernel_rfl, by kernel_rfl⟩
theorem q352 : FOK Tryz.prog [0] 352 d352 := ⟨Tryz.f352, [[], [0, 1, 2, 3, 4, 5]], Tryz.func352, by kernel_rfl, by kernel_rfl⟩
theorem q367 : FOK Tryz.prog [0] 367 d367 := ⟨Tryz.f367, [[0, 1, 2, 3, 4, 5, 6, 7, 8, 9]], Tryz.func367, by kernel_rfl, by kernel_rfl⟩
theorem q373 : FOK Tryz.prog [0] 373 d373 := ⟨Tryz.f373, [], Tryz.func373, by kernel_rfl, by kernel_rfl⟩
theorem q389 : FOK Tryz.prog [0] 389 d389 := ⟨Tryz.f389, [], Tryz.func389, by kernel_rfl, by kernel_rfl⟩
end Go.Proofs.YtplhemceflgdlaaGreatDoor.Run
