/- The compiled functions are the program's: part 3 (printed by a program). -/
import Derived.Test.YtoppeebbioalcaaGreatDoorEvE
import Derived.Test.YtoppeebbioalcaaGreatDoorGG
import Derived.Test.YtoppeebbioalcaaGreatDoorD3
import Derived.Test.YtoppeebbioalcaaGreatDoorProg
import Derived.KernelRfl
set_option maxRecDepth 100000
namespace Go.Proofs.YtoppeebbioalcaaGreatDoor.Run
open Go.Ev Go.Ev.S2
open Go.Proofs
theorem q13 : FOK Tryz.prog GG 13 d13:=⟨Tryz.f13,[[],[]],hP 2 448,Tryz.func13,by kernel_rfl,by kernel_rfl⟩
theorem q17 : FOK Tryz.prog GG 17 d17:=⟨Tryz.f17,(e 3 []),hP 14 448,Tryz.func17,by kernel_rfl,by kernel_rfl⟩
theorem q21 : FOK Tryz.prog GG 21 d21:=⟨Tryz.f21,(e 30 []),hP 60 448,Tryz.func21,by kernel_rfl,by kernel_rfl⟩
theorem q25 : FOK Tryz.prog GG 25 d25:=⟨Tryz.f25,(e 15 []),hP 32 448,Tryz.func25,by kernel_rfl,by kernel_rfl⟩
theorem q53 : FOK Tryz.prog GG 53 d53:=⟨Tryz.f53,(e 10 ([[5,6,0,1,2,3,4,7,8,9,10,11,12,13]]::e 5 [])),hP 42 448,Tryz.func53,by kernel_rfl,by kernel_rfl⟩
theorem q57 : FOK Tryz.prog GG 57 d57:=⟨Tryz.f57,[[],[]],hP 8 448,Tryz.func57,by kernel_rfl,by kernel_rfl⟩
theorem q61 : FOK Tryz.prog GG 61 d61:=⟨Tryz.f61,(e 26 ([[11,12,13,0,1,2,3,4,5,6,7,8,9,10,14]]::e 6 [])),hP 84 448,Tryz.func61,by kernel_rfl,by kernel_rfl⟩
theorem q65 : FOK Tryz.prog GG 65 d65:=⟨Tryz.f65,(e 21 ([[[1,2,3,0,4,5]],[]])),hP 85 448,Tryz.func65,by kernel_rfl,by kernel_rfl⟩
theorem q69 : FOK Tryz.prog GG 69 d69:=⟨Tryz.f69,(e 9 ([[[0,3,1,4,2,5]],[],[],[[2,3,4,0,1,5,6,7,11,12,8,13,14,9,15,16,10,17,18]],[],[[0,3,1,4,2,5]],[]])),hP 60 448,Tryz.func69,by kernel_rfl,by kernel_rfl⟩
theorem q73 : FOK Tryz.prog GG 73 d73:=⟨Tryz.f73,[[],[],[[0,1,2,3,4,5,6,7,8,9,13,14,10,11,12,15,16,17,18,19,20,25,24,26,21,22,23,27,28,29,30,31,32,37,36,38,33,34,35,39,40,41,42,43,44,45,46,47,48,49,50,51,52,53,54]],[]],hP 62 448,Tryz.func73,by kernel_rfl,by kernel_rfl⟩
theorem q80 : FOK Tryz.prog GG 80 d80:=⟨Tryz.f80,(e 9 []),hP 27 448,Tryz.func80,by kernel_rfl,by kernel_rfl⟩
theorem q99 : FOK Tryz.prog GG 99 d99:=⟨Tryz.f99,[[],[]],hP 7 448,Tryz.func99,by kernel_rfl,by kernel_rfl⟩
theorem q103 : FOK Tryz.prog GG 103 d103:=⟨Tryz.f103,(e 12 []),hP 13 448,Tryz.func103,by kernel_rfl,by kernel_rfl⟩
theorem q107 : FOK Tryz.prog GG 107 d107:=⟨Tryz.f107,(e 17 []),hP 34 448,Tryz.func107,by kernel_rfl,by kernel_rfl⟩
theorem q112 : FOK Tryz.prog GG 112 d112:=⟨Tryz.f112,(e 13 []),hP 19 448,Tryz.func112,by kernel_rfl,by kernel_rfl⟩
theorem q116 : FOK Tryz.prog GG 116 d116:=⟨Tryz.f116,[[],[[1,2,3,4,5,6,7,8,9,10,11,12,13,14,0,15,16,17,18]],[],[[1,2,3,4,5,6,7,0,8,9,10]],[],[]],hP 38 448,Tryz.func116,by kernel_rfl,by kernel_rfl⟩
theorem q121 : FOK Tryz.prog GG 121 d121:=⟨Tryz.f121,(e 11 ([[0,1,2,3,4,5,6,7,8,9,10,11,12,13,14]]::e 3 ([[0,1,5,6,7,8,9,10,11,12,13,14,15,2,3,4,16,17]]::e 4 []))),hP 48 448,Tryz.func121,by kernel_rfl,by kernel_rfl⟩
theorem q126 : FOK Tryz.prog GG 126 d126:=⟨Tryz.f126,(e 8 []),hP 21 448,Tryz.func126,by kernel_rfl,by kernel_rfl⟩
theorem q140 : FOK Tryz.prog GG 140 d140:=⟨Tryz.f140,[[],[[4,5,6,7,8,9,0,1,2,3,10,11,12,13,14,15,16]],[]],hP 21 448,Tryz.func140,by kernel_rfl,by kernel_rfl⟩
theorem q145 : FOK Tryz.prog GG 145 d145:=⟨Tryz.f145,(e 13 []),hP 19 448,Tryz.func145,by kernel_rfl,by kernel_rfl⟩
theorem q149 : FOK Tryz.prog GG 149 d149:=⟨Tryz.f149,[[],[[2,3,4,7,8,9,10,0,1,5,6,11,12]],[]],hP 21 448,Tryz.func149,by kernel_rfl,by kernel_rfl⟩
theorem q153 : FOK Tryz.prog GG 153 d153:=⟨Tryz.f153,[[],[]],hP 11 448,Tryz.func153,by kernel_rfl,by kernel_rfl⟩
theorem q157 : FOK Tryz.prog GG 157 d157:=⟨Tryz.f157,(e 5 []),hP 10 448,Tryz.func157,by kernel_rfl,by kernel_rfl⟩
theorem q161 : FOK Tryz.prog GG 161 d161:=⟨Tryz.f161,([]::[[0,1,2,3,4,5,6,7,8]]::e 5 []),hP 21 448,Tryz.func161,by kernel_rfl,by kernel_rfl⟩
theorem q169 : FOK Tryz.prog GG 169 d169:=⟨Tryz.f169,(e 36 []),hP 56 448,Tryz.func169,by kernel_rfl,by kernel_rfl⟩
theorem q183 : FOK Tryz.prog GG 183 d183:=⟨Tryz.f183,[[],[]],hP 8 448,Tryz.func183,by kernel_rfl,by kernel_rfl⟩
theorem q189 : FOK Tryz.prog GG 189 d189:=⟨Tryz.f189,[[],[]],hP 9 448,Tryz.func189,by kernel_rfl,by kernel_rfl⟩
theorem q194 : FOK Tryz.prog GG 194 d194:=⟨Tryz.f194,[[],[]],hP 6 448,Tryz.func194,by kernel_rfl,by kernel_rfl⟩
theorem q202 : FOK Tryz.prog GG 202 d202:=⟨Tryz.f202,(e 23 []),hP 75 448,Tryz.func202,by kernel_rfl,by kernel_rfl⟩
theorem q206 : FOK Tryz.prog GG 206 d206:=⟨Tryz.f206,(e 3 []),hP 20 448,Tryz.func206,by kernel_rfl,by kernel_rfl⟩
theorem q210 : FOK Tryz.prog GG 210 d210:=⟨Tryz.f210,(e 5 []),hP 8 448,Tryz.func210,by kernel_rfl,by kernel_rfl⟩
theorem q214 : FOK Tryz.prog GG 214 d214:=⟨Tryz.f214,(e 5 []),hP 8 448,Tryz.func214,by kernel_rfl,by kernel_rfl⟩
theorem q224 : FOK Tryz.prog GG 224 d224:=⟨Tryz.f224,(e 30 []),hP 63 448,Tryz.func224,by kernel_rfl,by kernel_rfl⟩
theorem q246 : FOK Tryz.prog GG 246 d246:=⟨Tryz.f246,(e 9 []),hP 27 448,Tryz.func246,by kernel_rfl,by kernel_rfl⟩
theorem q250 : FOK Tryz.prog GG 250 d250:=⟨Tryz.f250,(e 17 []),hP 16 448,Tryz.func250,by kernel_rfl,by kernel_rfl⟩
theorem q254 : FOK Tryz.prog GG 254 d254:=⟨Tryz.f254,(e 5 []),hP 11 448,Tryz.func254,by kernel_rfl,by kernel_rfl⟩
theorem q258 : FOK Tryz.prog GG 258 d258:=⟨Tryz.f258,(e 5 []),hP 8 448,Tryz.func258,by kernel_rfl,by kernel_rfl⟩
theorem q269 : FOK Tryz.prog GG 269 d269:=⟨Tryz.f269,[[],[]],hP 6 448,Tryz.func269,by kernel_rfl,by kernel_rfl⟩
theorem q273 : FOK Tryz.prog GG 273 d273:=⟨Tryz.f273,(e 6 []),hP 21 448,Tryz.func273,by kernel_rfl,by kernel_rfl⟩
theorem q284 : FOK Tryz.prog GG 284 d284:=⟨Tryz.f284,(e 3 []),hP 16 448,Tryz.func284,by kernel_rfl,by kernel_rfl⟩
theorem q288 : FOK Tryz.prog GG 288 d288:=⟨Tryz.f288,[[],[]],hP 9 448,Tryz.func288,by kernel_rfl,by kernel_rfl⟩
theorem q295 : FOK Tryz.prog GG 295 d295:=⟨Tryz.f295,[[],[]],hP 9 448,Tryz.func295,by kernel_rfl,by kernel_rfl⟩
theorem q303 : FOK Tryz.prog GG 303 d303:=⟨Tryz.f303,(e 9 ([[0,1,2,3,4,5,6,7,8,9,10,11,12,13,14,15,16]]::e 3 ([[0,1,5,6,7,8,9,10,11,12,13,14,15,2,3,4,16,17]]::e 3 []))),hP 53 448,Tryz.func303,by kernel_rfl,by kernel_rfl⟩
theorem q320 : FOK Tryz.prog GG 320 d320:=⟨Tryz.f320,(e 14 []),hP 35 448,Tryz.func320,by kernel_rfl,by kernel_rfl⟩
theorem q324 : FOK Tryz.prog GG 324 d324:=⟨Tryz.f324,[[],[]],hP 9 448,Tryz.func324,by kernel_rfl,by kernel_rfl⟩
theorem q342 : FOK Tryz.prog GG 342 d342:=⟨Tryz.f342,(e 3 []),hP 15 448,Tryz.func342,by kernel_rfl,by kernel_rfl⟩
theorem q355 : FOK Tryz.prog GG 355 d355:=⟨Tryz.f355,(e 5 ([[[1,2,3,4,0,5,6,7]],[]])),hP 27 448,Tryz.func355,by kernel_rfl,by kernel_rfl⟩
theorem q362 : FOK Tryz.prog GG 362 d362:=⟨Tryz.f362,(e 19 []),hP 42 448,Tryz.func362,by kernel_rfl,by kernel_rfl⟩
theorem q378 : FOK Tryz.prog GG 378 d378:=⟨Tryz.f378,(e 10 ([[[0,1,2,3,4,5]],[]])),hP 20 448,Tryz.func378,by kernel_rfl,by kernel_rfl⟩
end Go.Proofs.YtoppeebbioalcaaGreatDoor.Run
