/- The compiled functions are the program's: part 0 (printed by a program). -/
import Derived.Test.YtfahdklcgidmmaaGreatDoorEvMemo
import Derived.Test.YtfahdklcgidmmaaGreatDoorD0
import Derived.Test.YtfahdklcgidmmaaGreatDoorProg
import Derived.KernelRfl
set_option maxRecDepth 100000
namespace Go.Proofs.YtfahdklcgidmmaaGreatDoor.Run
open Go.Ev
open Go.Proofs
theorem q4 : FOK Tryz.prog [0] 4 d4 := ⟨Tryz.f4, [[1, 2, 0, 3, 4, 5], [0, 1, 2, 3, 4, 6, 7, 5, 8], [1, 2, 3, 0, 4, 5, 6, 10, 11, 12, 7, 13, 8, 9, 14, 15]], Tryz.func4, by kernel_rfl, by kernel_rfl⟩
theorem q12 : FOK Tryz.prog [0] 12 d12 := ⟨Tryz.f12, [[100], [0, 4, 1, 5, 2, 3, 6, 7]], Tryz.func12, by kernel_rfl, by kernel_rfl⟩
theorem q16 : FOK Tryz.prog [0] 16 d16 := ⟨Tryz.f16, [[0, 1, 2, 3, 4, 5, 6, 7, 8, 9, 10]], Tryz.func16, by kernel_rfl, by kernel_rfl⟩
theorem q20 : FOK Tryz.prog [0] 20 d20 := ⟨Tryz.f20, [[]], Tryz.func20, by kernel_rfl, by kernel_rfl⟩
theorem q24 : FOK Tryz.prog [0] 24 d24 := ⟨Tryz.f24, [], Tryz.func24, by kernel_rfl, by kernel_rfl⟩
theorem q28 : FOK Tryz.prog [0] 28 d28 := ⟨Tryz.f28, [], Tryz.func28, by kernel_rfl, by kernel_rfl⟩
theorem q32 : FOK Tryz.prog [0] 32 d32 := ⟨Tryz.f32, [[]], Tryz.func32, by kernel_rfl, by kernel_rfl⟩
theorem q36 : FOK Tryz.prog [0] 36 d36 := ⟨Tryz.f36, [], Tryz.func36, by kernel_rfl, by kernel_rfl⟩
theorem q40 : FOK Tryz.prog [0] 40 d40 := ⟨Tryz.f40, [[], []], Tryz.func40, by kernel_rfl, by kernel_rfl⟩
theorem q44 : FOK Tryz.prog [0] 44 d44 := ⟨Tryz.f44, [[]], Tryz.func44, by kernel_rfl, by kernel_rfl⟩
theorem q48 : FOK Tryz.prog [0] 48 d48 := ⟨Tryz.f48, [], Tryz.func48, by kernel_rfl, by kernel_rfl⟩
theorem q52 : FOK Tryz.prog [0] 52 d52 := ⟨Tryz.f52, [[]], Tryz.func52, by kernel_rfl, by kernel_rfl⟩
theorem q56 : FOK Tryz.prog [0] 56 d56 := ⟨Tryz.f56, [], Tryz.func56, by kernel_rfl, by kernel_rfl⟩
theorem q60 : FOK Tryz.prog [0] 60 d60 := ⟨Tryz.f60, [[0, 1, 2, 3, 4, 5, 6, 7, 8, 9, 10, 11, 12, 13]], Tryz.func60, by kernel_rfl, by kernel_rfl⟩
theorem q64 : FOK Tryz.prog [0] 64 d64 := ⟨Tryz.f64, [], Tryz.func64, by kernel_rfl, by kernel_rfl⟩
theorem q72 : FOK Tryz.prog [0] 72 d72 := ⟨Tryz.f72, [], Tryz.func72, by kernel_rfl, by kernel_rfl⟩
theorem q76 : FOK Tryz.prog [0] 76 d76 := ⟨Tryz.f76, [], Tryz.func76, by kernel_rfl, by kernel_rfl⟩
theorem q80 : FOK Tryz.prog [0] 80 d80 := ⟨Tryz.f80, [[0, 1, 4, 5, 2, 3, 6, 7], [0, 1, 2, 3, 4, 13, 14, 5, 6, 7, 8, 9, 15, 16, 10, 11, 12, 17, 18], [0, 1, 2, 3, 4, 5, 6, 7, 8, 9, 10, 11, 12, 13, 14, 15, 16, 17], [0, 1, 2, 3, 9, 10, 11, 12, 13, 4, 5, 6, 7, 8, 14, 15, 16, 17]], Tryz.func80, by kernel_rfl, by kernel_rfl⟩
theorem q86 : FOK Tryz.prog [0] 86 d86 := ⟨Tryz.f86, [[], [0, 1, 2, 3, 4, 5, 6, 7, 8, 9]], Tryz.func86, by kernel_rfl, by kernel_rfl⟩
theorem q92 : FOK Tryz.prog [0] 92 d92 := ⟨Tryz.f92, [[], []], Tryz.func92, by kernel_rfl, by kernel_rfl⟩
theorem q104 : FOK Tryz.prog [0] 104 d104 := ⟨Tryz.f104, [[0, 1, 2, 3, 4, 5, 6, 7, 8], [0, 1, 2, 3, 4, 5, 6, 7, 8, 9, 10]], Tryz.func104, by kernel_rfl, by kernel_rfl⟩
theorem q109 : FOK Tryz.prog [0] 109 d109 := ⟨Tryz.f109, [], Tryz.func109, by kernel_rfl, by kernel_rfl⟩
theorem q113 : FOK Tryz.prog [0] 113 d113 := ⟨Tryz.f113, [[]], Tryz.func113, by kernel_rfl, by kernel_rfl⟩
theorem q117 : FOK Tryz.prog [0] 117 d117 := ⟨Tryz.f117, [[], [3, 4, 5, 0, 1, 2, 6, 7, 8, 9, 10]], Tryz.func117, by kernel_rfl, by kernel_rfl⟩
theorem q121 : FOK Tryz.prog [0] 121 d121 := ⟨Tryz.f121, [], Tryz.func121, by kernel_rfl, by kernel_rfl⟩
theorem q129 : FOK Tryz.prog [0] 129 d129 := ⟨Tryz.f129, [[0, 2, 1, 3]], Tryz.func129, by kernel_rfl, by kernel_rfl⟩
theorem q135 : FOK Tryz.prog [0] 135 d135 := ⟨Tryz.f135, [], Tryz.func135, by kernel_rfl, by kernel_rfl⟩
theorem q141 : FOK Tryz.prog [0] 141 d141 := ⟨Tryz.f141, [], Tryz.func141, by kernel_rfl, by kernel_rfl⟩
theorem q146 : FOK Tryz.prog [0] 146 d146 := ⟨Tryz.f146, [], Tryz.func146, by kernel_rfl, by kernel_rfl⟩
theorem q154 : FOK Tryz.prog [0] 154 d154 := ⟨Tryz.f154, [], Tryz.func154, by kernel_rfl, by kernel_rfl⟩
theorem q158 : FOK Tryz.prog [0] 158 d158 := ⟨Tryz.f158, [], Tryz.func158, by kernel_rfl, by kernel_rfl⟩
theorem q162 : FOK Tryz.prog [0] 162 d162 := ⟨Tryz.f162, [], Tryz.func162, by kernel_rfl, by kernel_rfl⟩
theorem q166 : FOK Tryz.prog [0] 166 d166 := ⟨Tryz.f166, [], Tryz.func166, by kernel_rfl, by kernel_rfl⟩
theorem q176 : FOK Tryz.prog [0] 176 d176 := ⟨Tryz.f176, [[], [], []], Tryz.func176, by kernel_rfl, by kernel_rfl⟩
theorem q198 : FOK Tryz.prog [0] 198 d198 := ⟨Tryz.f198, [], Tryz.func198, by kernel_rfl, by kernel_rfl⟩
theorem q202 : FOK Tryz.prog [0] 202 d202 := ⟨Tryz.f202, [], Tryz.func202, by kernel_rfl, by kernel_rfl⟩
theorem q206 : FOK Tryz.prog [0] 206 d206 := ⟨Tryz.f206, [], Tryz.func206, by kernel_rfl, by kernel_rfl⟩
theorem q210 : FOK Tryz.prog [0] 210 d210 := ⟨Tryz.f210, [], Tryz.func210, by kernel_rfl, by kernel_rfl⟩
theorem q219 : FOK Tryz.prog [0] 219 d219 := ⟨Tryz.f219, [], Tryz.func219, by kernel_rfl, by kernel_rfl⟩
theorem q224 : FOK Tryz.prog [0] 224 d224 := ⟨Tryz.f224, [], Tryz.func224, by kernel_rfl, by kernel_rfl⟩
theorem q234 : FOK Tryz.prog [0] 234 d234 := ⟨Tryz.f234, [], Tryz.func234, by kernel_rfl, by kernel_rfl⟩
theorem q241 : FOK Tryz.prog [0] 241 d241 := ⟨Tryz.f241, [[]], Tryz.func241, by kernel_rfl, by kernel_rfl⟩
theorem q245 : FOK Tryz.prog [0] 245 d245 := ⟨Tryz.f245, [], Tryz.func245, by kernel_rfl, by kernel_rfl⟩
theorem q254 : FOK Tryz.prog [0] 254 d254 := ⟨Tryz.f254, [[]], Tryz.func254, by kernel_rfl, by kernel_rfl⟩
theorem q270 : FOK Tryz.prog [0] 270 d270 := ⟨Tryz.f270, [], Tryz.func270, by kernel_rfl, by kernel_rfl⟩
theorem q274 : FOK Tryz.prog [0] 274 d274 := ⟨Tryz.f274, [], Tryz.func274, by kernel_rfl, by kernel_rfl⟩
theorem q292 : FOK Tryz.prog [0] 292 d292 := ⟨Tryz.f292, [], Tryz.func292, by kernel_rfl, by kernel_rfl⟩
theorem q305 : FOK Tryz.prog [0] 305 d305 := ⟨Tryz.f305, [], Tryz.func305, by kernel_rfl, by kernel_rfl⟩
theorem q313 : FOK Tryz.prog [0] 313 d313 := ⟨Tryz.f313, [[]], Tryz.func313, by kernel_rfl, by kernel_rfl⟩
theorem q328 : FOK Tryz.prog [0] 328 d328 := ⟨Tryz.f328, [], Tryz.func328, by kernel_rfl, by kernel_rfl⟩
end Go.Proofs.YtfahdklcgidmmaaGreatDoor.Run
