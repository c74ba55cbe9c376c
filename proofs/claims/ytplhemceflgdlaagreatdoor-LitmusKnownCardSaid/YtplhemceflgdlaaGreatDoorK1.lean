/- The compiled functions are the program's: part 1 (printed by a program). -/
import Derived.Test.YtplhemceflgdlaaGreatDoorEvE
import Derived.Test.YtplhemceflgdlaaGreatDoorD1
import Derived.Test.YtplhemceflgdlaaGreatDoorProg
import Derived.KernelRfl
set_option maxRecDepth 100000
namespace Go.Proofs.YtplhemceflgdlaaGreatDoor.Run
open Go.Ev
open Go.Proofs
theorem q5 : FOK Tryz.prog [0] 5 d5 := ⟨Tryz.f5, [[0, 2, 4, 6, 1, 3, 5, 7, 8, 9, 10, 11]], Tryz.func5, by kernel_rfl, by kernel_rfl⟩
theorem q18 : FOK Tryz.prog [0] 18 d18 := ⟨Tryz.f18, [[], []], Tryz.func18, by kernel_rfl, by kernel_rfl⟩
theorem q24 : FOK Tryz.prog [0] 24 d24 := ⟨Tryz.f24, [], Tryz.func24, by kernel_rfl, by kernel_rfl⟩
theorem q30 : FOK Tryz.prog [0] 30 d30 := ⟨Tryz.f30, [[], [2, 3, 4, 0, 1, 5, 6, 7, 8]], Tryz.func30, by kernel_rfl, by kernel_rfl⟩
theorem q36 : FOK Tryz.prog [0] 36 d36 := ⟨Tryz.f36, [], Tryz.func36, by kernel_rfl, by kernel_rfl⟩
theorem q42 : FOK Tryz.prog [0] 42 d42 := ⟨Tryz.f42, [[0, 1, 2, 3, 4, 5, 6, 7, 8, 9, 10]], Tryz.func42, by kernel_rfl, by kernel_rfl⟩
theorem q48 : FOK Tryz.prog [0] 48 d48 := ⟨Tryz.f48, [], Tryz.func48, by kernel_rfl, by kernel_rfl⟩
theorem q54 : FOK Tryz.prog [0] 54 d54 := ⟨Tryz.f54, [], Tryz.func54, by kernel_rfl, by kernel_rfl⟩
theorem q60 : FOK Tryz.prog [0] 60 d60 := ⟨Tryz.f60, [], Tryz.func60, by kernel_rfl, by kernel_rfl⟩
theorem q66 : FOK Tryz.prog [0] 66 d66 := ⟨Tryz.f66, [[]], Tryz.func66, by kernel_rfl, by kernel_rfl⟩
theorem q72 : FOK Tryz.prog [0] 72 d72 := ⟨Tryz.f72, [], Tryz.func72, by kernel_rfl, by kernel_rfl⟩
theorem q78 : FOK Tryz.prog [0] 78 d78 := ⟨Tryz.f78, [[]], Tryz.func78, by kernel_rfl, by kernel_rfl⟩
theorem q84 : FOK Tryz.prog [0] 84 d84 := ⟨Tryz.f84, [], Tryz.func84, by kernel_rfl, by kernel_rfl⟩
theorem q90 : FOK Tryz.prog [0] 90 d90 := ⟨Tryz.f90, [], Tryz.func90, by kernel_rfl, by kernel_rfl⟩
theorem q96 : FOK Tryz.prog [0] 96 d96 := ⟨Tryz.f96, [[1, 2, 3, 0, 4, 5]], Tryz.func96, by kernel_rfl, by kernel_rfl⟩
theorem q102 : FOK Tryz.prog [0] 102 d102 := ⟨Tryz.f102, [[0, 1, 2, 3, 4, 5, 6, 7, 8, 9, 10, 11, 12, 13, 14, 15, 16]], Tryz.func102, by kernel_rfl, by kernel_rfl⟩
theorem q108 : FOK Tryz.prog [0] 108 d108 := ⟨Tryz.f108, [], Tryz.func108, by kernel_rfl, by kernel_rfl⟩
theorem q115 : FOK Tryz.prog [0] 115 d115 := ⟨Tryz.f115, [], Tryz.func115, by kernel_rfl, by kernel_rfl⟩
theorem q122 : FOK Tryz.prog [0] 122 d122 := ⟨Tryz.f122, [], Tryz.func122, by kernel_rfl, by kernel_rfl⟩
theorem q129 : FOK Tryz.prog [0] 129 d129 := ⟨Tryz.f129, [[], [], [0, 1, 2, 3, 4, 5, 6, 7, 8, 9, 10, 11, 12, 13, 14], [0, 1, 5, 6, 7, 8, 9, 10, 11, 12, 13, 14, 15, 2, 3, 4, 16, 17]], Tryz.func129, by kernel_rfl, by kernel_rfl⟩
theorem q136 : FOK Tryz.prog [0] 136 d136 := ⟨Tryz.f136, [[], []], Tryz.func136, by kernel_rfl, by kernel_rfl⟩
theorem q142 : FOK Tryz.prog [0] 142 d142 := ⟨Tryz.f142, [], Tryz.func142, by kernel_rfl, by kernel_rfl⟩
theorem q149 : FOK Tryz.prog [0] 149 d149 := ⟨Tryz.f149, [[]], Tryz.func149, by kernel_rfl, by kernel_rfl⟩
theorem q156 : FOK Tryz.prog [0] 156 d156 := ⟨Tryz.f156, [[2, 3, 4, 7, 8, 9, 10, 0, 1, 5, 6, 11, 12]], Tryz.func156, by kernel_rfl, by kernel_rfl⟩
theorem q162 : FOK Tryz.prog [0] 162 d162 := ⟨Tryz.f162, [[], [0, 2, 1, 3, 4]], Tryz.func162, by kernel_rfl, by kernel_rfl⟩
theorem q168 : FOK Tryz.prog [0] 168 d168 := ⟨Tryz.f168, [[0, 1, 2, 3, 4, 5, 6, 7, 8]], Tryz.func168, by kernel_rfl, by kernel_rfl⟩
theorem q174 : FOK Tryz.prog [0] 174 d174 := ⟨Tryz.f174, [], Tryz.func174, by kernel_rfl, by kernel_rfl⟩
theorem q180 : FOK Tryz.prog [0] 180 d180 := ⟨Tryz.f180, [], Tryz.func180, by kernel_rfl, by kernel_rfl⟩
theorem q189 : FOK Tryz.prog [0] 189 d189 := ⟨Tryz.f189, [], Tryz.func189, by kernel_rfl, by kernel_rfl⟩
theorem q195 : FOK Tryz.prog [0] 195 d195 := ⟨Tryz.f195, [], Tryz.func195, by kernel_rfl, by kernel_rfl⟩
theorem q201 : FOK Tryz.prog [0] 201 d201 := ⟨Tryz.f201, [], Tryz.func201, by kernel_rfl, by kernel_rfl⟩
theorem q207 : FOK Tryz.prog [0] 207 d207 := ⟨Tryz.f207, [[]], Tryz.func207, by kernel_rfl, by kernel_rfl⟩
theorem q217 : FOK Tryz.prog [0] 217 d217 := ⟨Tryz.f217, [], Tryz.func217, by kernel_rfl, by kernel_rfl⟩
theorem q223 : FOK Tryz.prog [0] 223 d223 := ⟨Tryz.f223, [], Tryz.func223, by kernel_rfl, by kernel_rfl⟩
theorem q231 : FOK Tryz.prog [0] 231 d231 := ⟨Tryz.f231, [], Tryz.func231, by kernel_rfl, by kernel_rfl⟩
theorem q240 : FOK Tryz.prog [0] 240 d240 := ⟨Tryz.f240, [], Tryz.func240, by kernel_rfl, by kernel_rfl⟩
theorem q246 : FOK Tryz.prog [0] 246 d246 := ⟨Tryz.f246, [[2, 3, 0, 1, 4, 5, 6]], Tryz.func246, by kernel_rfl, by kernel_rfl⟩
theorem q252 : FOK Tryz.prog [0] 252 d252 := ⟨Tryz.f252, [], Tryz.func252, by kernel_rfl, by kernel_rfl⟩
theorem q259 : FOK Tryz.prog [0] 259 d259 := ⟨Tryz.f259, [], Tryz.func259, by kernel_rfl, by kernel_rfl⟩
theorem q265 : FOK Tryz.prog [0] 265 d265 := ⟨Tryz.f265, [[0, 1, 2, 3, 4, 5, 6, 7, 8]], Tryz.func265, by kernel_rfl, by kernel_rfl⟩
theorem q271 : FOK Tryz.prog [0] 271 d271 := ⟨Tryz.f271, [], Tryz.func271, by kernel_rfl, by kernel_rfl⟩
theorem q281 : FOK Tryz.prog [0] 281 d281 := ⟨Tryz.f281, [[], [], [0, 1, 2, 3, 4, 5, 6, 7, 8, 9, 10, 11, 12, 13, 14, 15, 16], [0, 1, 5, 6, 7, 8, 9, 10, 11, 12, 13, 14, 15, 2, 3, 4, 16, 17]], Tryz.func281, by kernel_rfl, by kernel_rfl⟩
theorem q296 : FOK Tryz.prog [0] 296 d296 := ⟨Tryz.f296, [], Tryz.func296, by kernel_rfl, by kernel_rfl⟩
theorem q302 : FOK Tryz.prog [0] 302 d302 := ⟨Tryz.f302, [], Tryz.func302, by kernel_rfl, by kernel_rfl⟩
theorem q314 : FOK Tryz.prog [0] 314 d314 := ⟨Tryz.f314, [[1, 2, 0, 3, 4, 5, 6, 7, 8, 9, 10]], Tryz.func314, by kernel_rfl, by kernel_rfl⟩
theorem q320 : FOK Tryz.prog [0] 320 d320 := ⟨Tryz.f320, [], Tryz.func320, by kernel_rfl, by kernel_rfl⟩
theorem q333 : FOK Tryz.prog [0] 333 d333 := ⟨Tryz.f333, [[], [0, 1, 4, 5, 6, 7, 8, 9, 10, 11, 12, 13, 2, 3, 14, 15]], Tryz.func333, by kernel_rfl, by kernel_rfl⟩
theorem q341 : FOK Tryz.prog [0] 341 d341 := ⟨Tryz.f341, [], Tryz.func341, by kernel_rfl, by kernel_rfl⟩
theorem q365 : FOK Tryz.prog [0] 365 d365 := ⟨Tryz.f365, [], Tryz.func365, by kernel_rfl, by kernel_rfl⟩
theorem q371 : FOK Tryz.prog [0] 371 d371 := ⟨Tryz.f371, [[0, 3, 6, 7, 8, 1, 4, 9, 10, 11, 2, 5, 12, 13, 14], [0, 1, 2, 3, 5, 4, 6]], Tryz.func371, by kernel_rfl, by kernel_rfl⟩
theorem q377 : FOK Tryz.prog [0] 377 d377 := ⟨Tryz.f377, [], Tryz.func377, by kernel_rfl, by kernel_rfl⟩
theorem q401 : FOK Tryz.prog [0] 401 d401 := ⟨Tryz.f401, [], Tryz.func401, by kernel_rfl, by kernel_rfl⟩
end Go.Proofs.YtplhemceflgdlaaGreatDoor.Run
