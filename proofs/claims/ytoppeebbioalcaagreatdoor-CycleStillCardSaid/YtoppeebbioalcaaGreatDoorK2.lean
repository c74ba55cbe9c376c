/- The compiled functions are the program's: part 2 (printed by a program). -/
import Derived.Test.YtoppeebbioalcaaGreatDoorEvE
import Derived.Test.YtoppeebbioalcaaGreatDoorGG
import Derived.Test.YtoppeebbioalcaaGreatDoorD2
import Derived.Test.YtoppeebbioalcaaGreatDoorProg
import Derived.KernelRfl
set_option maxRecDepth 100000
namespace Go.Proofs.YtoppeebbioalcaaGreatDoor.Run
open Go.Ev Go.Ev.S2
open Go.Proofs
theorem q12 : FOK Tryz.prog GG 12 d12:=⟨Tryz.f12,(e 19 ([[0,1,2,3,4,5,6,7,8,9,10]]::e 3 [])),hP 61 448,Tryz.func12,by kernel_rfl,by kernel_rfl⟩
theorem q16 : FOK Tryz.prog GG 16 d16:=⟨Tryz.f16,[[],[]],hP 2 448,Tryz.func16,by kernel_rfl,by kernel_rfl⟩
theorem q20 : FOK Tryz.prog GG 20 d20:=⟨Tryz.f20,(e 3 ([[0,2,1,3,4]]::e 3 ([[0,1,2,3,4,5,6]]::e 16 ([[0,2,1,3]]::e 8 ([[[0,3,1,4,2,5]],[]]))))),hP 109 448,Tryz.func20,by kernel_rfl,by kernel_rfl⟩
theorem q24 : FOK Tryz.prog GG 24 d24:=⟨Tryz.f24,(e 5 ([[0,2,1,3,4,5]]::e 3 ([[0,2,1,3,4,5]]::e 5 ([[[0,3,1,4,2,5,6]],[]])))),hP 54 448,Tryz.func24,by kernel_rfl,by kernel_rfl⟩
theorem q52 : FOK Tryz.prog GG 52 d52:=⟨Tryz.f52,(e 9 []),hP 114 448,Tryz.func52,by kernel_rfl,by kernel_rfl⟩
theorem q56 : FOK Tryz.prog GG 56 d56:=⟨Tryz.f56,(e 11 []),hP 18 448,Tryz.func56,by kernel_rfl,by kernel_rfl⟩
theorem q60 : FOK Tryz.prog GG 60 d60:=⟨Tryz.f60,(e 20 []),hP 35 448,Tryz.func60,by kernel_rfl,by kernel_rfl⟩
theorem q64 : FOK Tryz.prog GG 64 d64:=⟨Tryz.f64,(e 13 []),hP 19 448,Tryz.func64,by kernel_rfl,by kernel_rfl⟩
theorem q68 : FOK Tryz.prog GG 68 d68:=⟨Tryz.f68,(e 16 []),hP 69 448,Tryz.func68,by kernel_rfl,by kernel_rfl⟩
theorem q72 : FOK Tryz.prog GG 72 d72:=⟨Tryz.f72,(e 15 ([[[0,1,2,3,4,5,6,7,8,9,10,11,12,13]],[]])),hP 66 448,Tryz.func72,by kernel_rfl,by kernel_rfl⟩
theorem q76 : FOK Tryz.prog GG 76 d76:=⟨Tryz.f76,[[],[]],hP 11 448,Tryz.func76,by kernel_rfl,by kernel_rfl⟩
theorem q98 : FOK Tryz.prog GG 98 d98:=⟨Tryz.f98,(e 11 []),hP 15 448,Tryz.func98,by kernel_rfl,by kernel_rfl⟩
theorem q102 : FOK Tryz.prog GG 102 d102:=⟨Tryz.f102,(e 8 []),hP 16 448,Tryz.func102,by kernel_rfl,by kernel_rfl⟩
theorem q106 : FOK Tryz.prog GG 106 d106:=⟨Tryz.f106,[[],[]],hP 21 448,Tryz.func106,by kernel_rfl,by kernel_rfl⟩
theorem q111 : FOK Tryz.prog GG 111 d111:=⟨Tryz.f111,(e 3 []),hP 18 448,Tryz.func111,by kernel_rfl,by kernel_rfl⟩
theorem q115 : FOK Tryz.prog GG 115 d115:=⟨Tryz.f115,[[[0,1,2,3,4,5,6,7,8,9,10,11,12,14,15,13,16]],[],[[3,4,5,6,7,8,0,2,9,10,11,1,12,13,14]],[]],hP 31 448,Tryz.func115,by kernel_rfl,by kernel_rfl⟩
theorem q120 : FOK Tryz.prog GG 120 d120:=⟨Tryz.f120,(e 22 []),hP 58 448,Tryz.func120,by kernel_rfl,by kernel_rfl⟩
theorem q125 : FOK Tryz.prog GG 125 d125:=⟨Tryz.f125,(e 22 []),hP 42 448,Tryz.func125,by kernel_rfl,by kernel_rfl⟩
theorem q133 : FOK Tryz.prog GG 133 d133:=⟨Tryz.f133,(e 23 ([[0,1,2,3,4,5,6,7,10,11,12,8,9,13,14,15]]::e 6 [])),hP 41 448,Tryz.func133,by kernel_rfl,by kernel_rfl⟩
theorem q144 : FOK Tryz.prog GG 144 d144:=⟨Tryz.f144,(e 28 []),hP 25 448,Tryz.func144,by kernel_rfl,by kernel_rfl⟩
theorem q148 : FOK Tryz.prog GG 148 d148:=⟨Tryz.f148,[[],[[1,0,2,3,4,5,6]],[]],hP 13 448,Tryz.func148,by kernel_rfl,by kernel_rfl⟩
theorem q152 : FOK Tryz.prog GG 152 d152:=⟨Tryz.f152,[[],[]],hP 4 448,Tryz.func152,by kernel_rfl,by kernel_rfl⟩
theorem q156 : FOK Tryz.prog GG 156 d156:=⟨Tryz.f156,(e 4 ([[[0,1,2,3,4,5,6,7,8,9,10,11,12,13]],[]])),hP 24 448,Tryz.func156,by kernel_rfl,by kernel_rfl⟩
theorem q160 : FOK Tryz.prog GG 160 d160:=⟨Tryz.f160,(e 5 []),hP 10 448,Tryz.func160,by kernel_rfl,by kernel_rfl⟩
theorem q168 : FOK Tryz.prog GG 168 d168:=⟨Tryz.f168,(e 3 []),hP 28 448,Tryz.func168,by kernel_rfl,by kernel_rfl⟩
theorem q182 : FOK Tryz.prog GG 182 d182:=⟨Tryz.f182,(e 8 []),hP 16 448,Tryz.func182,by kernel_rfl,by kernel_rfl⟩
theorem q188 : FOK Tryz.prog GG 188 d188:=⟨Tryz.f188,[[],[]],hP 7 448,Tryz.func188,by kernel_rfl,by kernel_rfl⟩
theorem q193 : FOK Tryz.prog GG 193 d193:=⟨Tryz.f193,(e 8 []),hP 48 448,Tryz.func193,by kernel_rfl,by kernel_rfl⟩
theorem q201 : FOK Tryz.prog GG 201 d201:=⟨Tryz.f201,[[],[[1,2,3,4,5,6,7,8,9,10,11,12,13,14,15,16,17,18,19,20,0,21,22,23]],[]],hP 27 448,Tryz.func201,by kernel_rfl,by kernel_rfl⟩
theorem q205 : FOK Tryz.prog GG 205 d205:=⟨Tryz.f205,(e 7 []),hP 29 448,Tryz.func205,by kernel_rfl,by kernel_rfl⟩
theorem q209 : FOK Tryz.prog GG 209 d209:=⟨Tryz.f209,(e 11 ([[[1,2,3,0,4,5,6,7,8,9]],[],[]])),hP 43 448,Tryz.func209,by kernel_rfl,by kernel_rfl⟩
theorem q213 : FOK Tryz.prog GG 213 d213:=⟨Tryz.f213,(e 5 []),hP 8 448,Tryz.func213,by kernel_rfl,by kernel_rfl⟩
theorem q223 : FOK Tryz.prog GG 223 d223:=⟨Tryz.f223,(e 9 []),hP 27 448,Tryz.func223,by kernel_rfl,by kernel_rfl⟩
theorem q242 : FOK Tryz.prog GG 242 d242:=⟨Tryz.f242,(e 11 []),hP 39 448,Tryz.func242,by kernel_rfl,by kernel_rfl⟩
theorem q249 : FOK Tryz.prog GG 249 d249:=⟨Tryz.f249,(e 13 ([[0,1,2,3,4,5,6,7,8,9]]::e 10 [])),hP 39 448,Tryz.func249,by kernel_rfl,by kernel_rfl⟩
theorem q253 : FOK Tryz.prog GG 253 d253:=⟨Tryz.f253,(e 3 []),hP 19 448,Tryz.func253,by kernel_rfl,by kernel_rfl⟩
theorem q257 : FOK Tryz.prog GG 257 d257:=⟨Tryz.f257,(e 5 []),hP 13 448,Tryz.func257,by kernel_rfl,by kernel_rfl⟩
theorem q261 : FOK Tryz.prog GG 261 d261:=⟨Tryz.f261,(e 8 ([[2,3,4,5,6,7,0,1,8,9,10]]::e 25 ([[[0,2,1,3]],[]]))),hP 116 448,Tryz.func261,by kernel_rfl,by kernel_rfl⟩
theorem q272 : FOK Tryz.prog GG 272 d272:=⟨Tryz.f272,(e 9 []),hP 26 448,Tryz.func272,by kernel_rfl,by kernel_rfl⟩
theorem q283 : FOK Tryz.prog GG 283 d283:=⟨Tryz.f283,(e 6 []),hP 21 448,Tryz.func283,by kernel_rfl,by kernel_rfl⟩
theorem q287 : FOK Tryz.prog GG 287 d287:=⟨Tryz.f287,(e 3 []),hP 26 448,Tryz.func287,by kernel_rfl,by kernel_rfl⟩
theorem q294 : FOK Tryz.prog GG 294 d294:=⟨Tryz.f294,[[],[]],hP 9 448,Tryz.func294,by kernel_rfl,by kernel_rfl⟩
theorem q298 : FOK Tryz.prog GG 298 d298:=⟨Tryz.f298,(e 5 ([[[1,2,0,3,4]],[]])),hP 17 448,Tryz.func298,by kernel_rfl,by kernel_rfl⟩
theorem q317 : FOK Tryz.prog GG 317 d317:=⟨Tryz.f317,(e 5 []),hP 28 448,Tryz.func317,by kernel_rfl,by kernel_rfl⟩
theorem q323 : FOK Tryz.prog GG 323 d323:=⟨Tryz.f323,(e 5 []),hP 6 448,Tryz.func323,by kernel_rfl,by kernel_rfl⟩
theorem q327 : FOK Tryz.prog GG 327 d327:=⟨Tryz.f327,(e 5 ([[[0,1,2,3,4,5,6]],[]])),hP 18 448,Tryz.func327,by kernel_rfl,by kernel_rfl⟩
theorem q345 : FOK Tryz.prog GG 345 d345:=⟨Tryz.f345,[[],[]],hP 12 448,Tryz.func345,by kernel_rfl,by kernel_rfl⟩
theorem q360 : FOK Tryz.prog GG 360 d360:=⟨Tryz.f360,(e 19 []),hP 42 448,Tryz.func360,by kernel_rfl,by kernel_rfl⟩
theorem q377 : FOK Tryz.prog GG 377 d377:=⟨Tryz.f377,(e 12 []),hP 26 448,Tryz.func377,by kernel_rfl,by kernel_rfl⟩
theorem q415 : FOK Tryz.prog GG 415 d415:=⟨Tryz.f415,(e 13 []),hP 44 448,Tryz.func415,by kernel_rfl,by kernel_rfl⟩
end Go.Proofs.YtoppeebbioalcaaGreatDoor.Run
