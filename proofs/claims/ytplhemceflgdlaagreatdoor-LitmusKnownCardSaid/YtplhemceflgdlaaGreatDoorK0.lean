/- The compiled functions are the program's: part 0 (printed by a program). -/
import Derived.Test.YtplhemceflgdlaaGreatDoorEvE
import Derived.Test.YtplhemceflgdlaaGreatDoorD0
import Derived.Test.YtplhemceflgdlaaGreatDoorProg
import Derived.KernelRfl
set_option maxRecDepth 100000
namespace Go.Proofs.YtplhemceflgdlaaGreatDoor.Run
open Go.Ev
open Go.Proofs
theorem q4 : FOK Tryz.prog [0] 4 d4 := ⟨Tryz.f4, [], Tryz.func4, by kernel_rfl, by kernel_rfl⟩
theorem q15 : FOK Tryz.prog [0] 15 d15 := ⟨Tryz.f15, [], Tryz.func15, by kernel_rfl, by kernel_rfl⟩
theorem q23 : FOK Tryz.prog [0] 23 d23 := ⟨Tryz.f23, [], Tryz.func23, by kernel_rfl, by kernel_rfl⟩
theorem q29 : FOK Tryz.prog [0] 29 d29 := ⟨Tryz.f29, [[0, 1, 2, 3, 4, 5, 6, 7, 8, 9, 10, 11, 12, 13], [0, 1, 2, 3, 4, 5, 6, 7, 8, 9], [], [0, 1, 2, 3, 4, 5, 6, 7, 8, 9, 10]], Tryz.func29, by kernel_rfl, by kernel_rfl⟩
theorem q35 : FOK Tryz.prog [0] 35 d35 := ⟨Tryz.f35, [], Tryz.func35, by kernel_rfl, by kernel_rfl⟩
theorem q41 : FOK Tryz.prog [0] 41 d41 := ⟨Tryz.f41, [], Tryz.func41, by kernel_rfl, by kernel_rfl⟩
theorem q47 : FOK Tryz.prog [0] 47 d47 := ⟨Tryz.f47, [[0, 1, 2, 3, 4, 5, 6, 7, 8], [0, 1, 2, 6, 7, 8, 3, 4, 5, 9, 10]], Tryz.func47, by kernel_rfl, by kernel_rfl⟩
theorem q53 : FOK Tryz.prog [0] 53 d53 := ⟨Tryz.f53, [], Tryz.func53, by kernel_rfl, by kernel_rfl⟩
theorem q59 : FOK Tryz.prog [0] 59 d59 := ⟨Tryz.f59, [], Tryz.func59, by kernel_rfl, by kernel_rfl⟩
theorem q65 : FOK Tryz.prog [0] 65 d65 := ⟨Tryz.f65, [], Tryz.func65, by kernel_rfl, by kernel_rfl⟩
theorem q71 : FOK Tryz.prog [0] 71 d71 := ⟨Tryz.f71, [], Tryz.func71, by kernel_rfl, by kernel_rfl⟩
theorem q77 : FOK Tryz.prog [0] 77 d77 := ⟨Tryz.f77, [[10, 11, 0, 1, 2, 3, 4, 5, 6, 7, 8, 9, 12, 13, 14, 15, 18, 19, 20, 16, 17, 21, 22], []], Tryz.func77, by kernel_rfl, by kernel_rfl⟩
theorem q83 : FOK Tryz.prog [0] 83 d83 := ⟨Tryz.f83, [[0, 1, 2, 3, 4, 5, 6, 7, 8, 9, 10, 11, 12, 13]], Tryz.func83, by kernel_rfl, by kernel_rfl⟩
theorem q89 : FOK Tryz.prog [0] 89 d89 := ⟨Tryz.f89, [[], [1, 2, 3, 4, 5, 6, 7, 0, 8, 9]], Tryz.func89, by kernel_rfl, by kernel_rfl⟩
theorem q95 : FOK Tryz.prog [0] 95 d95 := ⟨Tryz.f95, [[]], Tryz.func95, by kernel_rfl, by kernel_rfl⟩
theorem q101 : FOK Tryz.prog [0] 101 d101 := ⟨Tryz.f101, [[0, 1, 2, 3, 4, 5, 6, 7, 8, 9, 10]], Tryz.func101, by kernel_rfl, by kernel_rfl⟩
theorem q107 : FOK Tryz.prog [0] 107 d107 := ⟨Tryz.f107, [], Tryz.func107, by kernel_rfl, by kernel_rfl⟩
theorem q113 : FOK Tryz.prog [0] 113 d113 := ⟨Tryz.f113, [], Tryz.func113, by kernel_rfl, by kernel_rfl⟩
theorem q121 : FOK Tryz.prog [0] 121 d121 := ⟨Tryz.f121, [[]], Tryz.func121, by kernel_rfl, by kernel_rfl⟩
theorem q128 : FOK Tryz.prog [0] 128 d128 := ⟨Tryz.f128, [[], [], [], [1, 2, 3, 4, 5, 6, 7, 0, 8, 9, 10]], Tryz.func128, by kernel_rfl, by kernel_rfl⟩
theorem q134 : FOK Tryz.prog [0] 134 d134 := ⟨Tryz.f134, [[], [1, 2, 3, 4, 5, 6, 7, 8, 0, 9, 10, 12, 13, 11], [5, 6, 7, 8, 9, 10, 11, 0, 1, 2, 3, 4, 12, 13, 14], []], Tryz.func134, by kernel_rfl, by kernel_rfl⟩
theorem q141 : FOK Tryz.prog [0] 141 d141 := ⟨Tryz.f141, [], Tryz.func141, by kernel_rfl, by kernel_rfl⟩
theorem q148 : FOK Tryz.prog [0] 148 d148 := ⟨Tryz.f148, [[0, 1, 2, 3, 4, 5, 6, 7, 8], [0, 1, 2, 3, 4, 5, 6, 7, 8, 9, 10]], Tryz.func148, by kernel_rfl, by kernel_rfl⟩
theorem q154 : FOK Tryz.prog [0] 154 d154 := ⟨Tryz.f154, [[], []], Tryz.func154, by kernel_rfl, by kernel_rfl⟩
theorem q161 : FOK Tryz.prog [0] 161 d161 := ⟨Tryz.f161, [[], [3, 4, 5, 0, 1, 2, 6, 7, 8, 9, 10]], Tryz.func161, by kernel_rfl, by kernel_rfl⟩
theorem q167 : FOK Tryz.prog [0] 167 d167 := ⟨Tryz.f167, [], Tryz.func167, by kernel_rfl, by kernel_rfl⟩
theorem q173 : FOK Tryz.prog [0] 173 d173 := ⟨Tryz.f173, [[0, 2, 1, 3]], Tryz.func173, by kernel_rfl, by kernel_rfl⟩
theorem q179 : FOK Tryz.prog [0] 179 d179 := ⟨Tryz.f179, [], Tryz.func179, by kernel_rfl, by kernel_rfl⟩
theorem q188 : FOK Tryz.prog [0] 188 d188 := ⟨Tryz.f188, [[]], Tryz.func188, by kernel_rfl, by kernel_rfl⟩
theorem q194 : FOK Tryz.prog [0] 194 d194 := ⟨Tryz.f194, [], Tryz.func194, by kernel_rfl, by kernel_rfl⟩
theorem q200 : FOK Tryz.prog [0] 200 d200 := ⟨Tryz.f200, [], Tryz.func200, by kernel_rfl, by kernel_rfl⟩
theorem q206 : FOK Tryz.prog [0] 206 d206 := ⟨Tryz.f206, [], Tryz.func206, by kernel_rfl, by kernel_rfl⟩
theorem q216 : FOK Tryz.prog [0] 216 d216 := ⟨Tryz.f216, [], Tryz.func216, by kernel_rfl, by kernel_rfl⟩
theorem q222 : FOK Tryz.prog [0] 222 d222 := ⟨Tryz.f222, [], Tryz.func222, by kernel_rfl, by kernel_rfl⟩
theorem q230 : FOK Tryz.prog [0] 230 d230 := ⟨Tryz.f230, [], Tryz.func230, by kernel_rfl, by kernel_rfl⟩
theorem q239 : FOK Tryz.prog [0] 239 d239 := ⟨Tryz.f239, [[0, 1, 2, 3, 4, 5, 6, 7, 8, 9]], Tryz.func239, by kernel_rfl, by kernel_rfl⟩
theorem q245 : FOK Tryz.prog [0] 245 d245 := ⟨Tryz.f245, [], Tryz.func245, by kernel_rfl, by kernel_rfl⟩
theorem q251 : FOK Tryz.prog [0] 251 d251 := ⟨Tryz.f251, [], Tryz.func251, by kernel_rfl, by kernel_rfl⟩
theorem q258 : FOK Tryz.prog [0] 258 d258 := ⟨Tryz.f258, [], Tryz.func258, by kernel_rfl, by kernel_rfl⟩
theorem q264 : FOK Tryz.prog [0] 264 d264 := ⟨Tryz.f264, [[0, 1, 2, 3, 4, 5, 6, 7, 8, 9, 10, 11, 12, 13, 14, 15, 16]], Tryz.func264, by kernel_rfl, by kernel_rfl⟩
theorem q270 : FOK Tryz.prog [0] 270 d270 := ⟨Tryz.f270, [[]], Tryz.func270, by kernel_rfl, by kernel_rfl⟩
theorem q276 : FOK Tryz.prog [0] 276 d276 := ⟨Tryz.f276, [[1, 2, 0, 3, 4]], Tryz.func276, by kernel_rfl, by kernel_rfl⟩
theorem q295 : FOK Tryz.prog [0] 295 d295 := ⟨Tryz.f295, [], Tryz.func295, by kernel_rfl, by kernel_rfl⟩
theorem q301 : FOK Tryz.prog [0] 301 d301 := ⟨Tryz.f301, [], Tryz.func301, by kernel_rfl, by kernel_rfl⟩
theorem q313 : FOK Tryz.prog [0] 313 d313 := ⟨Tryz.f313, [[], [2, 3, 0, 1, 4, 5], [3, 4, 5, 6, 7, 8, 9, 10, 11, 0, 1, 2, 12, 13], [2, 3, 4, 5, 6, 0, 1, 7, 8], [3, 4, 5, 6, 7, 8, 9, 10, 11, 0, 1, 2, 12, 13], [0, 1, 2, 3, 4, 5, 6, 7, 8], [0, 1, 2, 3, 4, 5, 6, 7, 8, 9, 10, 11, 13, 14, 15, 12, 16]], Tryz.func313, by kernel_rfl, by kernel_rfl⟩
theorem q319 : FOK Tryz.prog [0] 319 d319 := ⟨Tryz.f319, [[]], Tryz.func319, by kernel_rfl, by kernel_rfl⟩
theorem q332 : FOK Tryz.prog [0] 332 d332 := ⟨Tryz.f332, [], Tryz.func332, by kernel_rfl, by kernel_rfl⟩
theorem q339 : FOK Tryz.prog [0] 339 d339 := ⟨Tryz.f339, [[]], Tryz.func339, by kernel_rfl, by kernel_rfl⟩
theorem q364 : FOK Tryz.prog [0] 364 d364 := ⟨Tryz.f364, [[0, 1, 2, 3, 4, 5, 6, 7, 8, 9, 10, 11, 12, 13, 14, 15]], Tryz.func364, by kernel_rfl, by kernel_rfl⟩
theorem q370 : FOK Tryz.prog [0] 370 d370 := ⟨Tryz.f370, [[]], Tryz.func370, by kernel_rfl, by kernel_rfl⟩
theorem q376 : FOK Tryz.prog [0] 376 d376 := ⟨Tryz.f376, [], Tryz.func376, by kernel_rfl, by kernel_rfl⟩
theorem q400 : FOK Tryz.prog [0] 400 d400 := ⟨Tryz.f400, [], Tryz.func400, by kernel_rfl, by kernel_rfl⟩
end Go.Proofs.YtplhemceflgdlaaGreatDoor.Run
