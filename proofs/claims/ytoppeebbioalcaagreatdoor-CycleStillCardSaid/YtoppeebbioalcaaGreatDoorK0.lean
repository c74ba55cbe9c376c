/- The compiled functions are the program's: part 0 (printed by a program). -/
import Derived.Test.YtoppeebbioalcaaGreatDoorEvE
import Derived.Test.YtoppeebbioalcaaGreatDoorGG
import Derived.Test.YtoppeebbioalcaaGreatDoorD0
import Derived.Test.YtoppeebbioalcaaGreatDoorProg
import Derived.KernelRfl
set_option maxRecDepth 100000
namespace Go.Proofs.YtoppeebbioalcaaGreatDoor.Run
open Go.Ev Go.Ev.S2
open Go.Proofs
theorem q5 : FOK Tryz.prog GG 5 d5:=⟨Tryz.f5,[[],[[1,2,0,3,4,5]],[],[],[[0,1,2,3,4,6,7,5,8]],[],[[1,2,3,0,4,5,6,10,11,12,7,13,8,9,14,15]],[],[]],hP 69 448,Tryz.func5,by kernel_rfl,by kernel_rfl⟩
theorem q14 : FOK Tryz.prog GG 14 d14:=⟨Tryz.f14,(e 21 ([[[0,4,1,5,2,3,6,7]],[]])),hP 63 448,Tryz.func14,by kernel_rfl,by kernel_rfl⟩
theorem q18 : FOK Tryz.prog GG 18 d18:=⟨Tryz.f18,(e 3 ([[0,2,1,3,4,5,6]]::e 4 ([[0,1,2,3,4,5,6,7,8,9,10,11,12,13]]::e 3 ([[[12,13,14,15,16,17,0,1,2,3,22,4,5,6,7,23,8,9,10,11,18,19,20,21,24,25,26]],[]])))),hP 61 448,Tryz.func18,by kernel_rfl,by kernel_rfl⟩
theorem q22 : FOK Tryz.prog GG 22 d22:=⟨Tryz.f22,(e 4 ([[10,11,0,1,2,3,4,5,6,7,8,9,12,13,14,15,18,19,20,16,17,21,22]]::e 14 [])),hP 80 448,Tryz.func22,by kernel_rfl,by kernel_rfl⟩
theorem q26 : FOK Tryz.prog GG 26 d26:=⟨Tryz.f26,(e 25 []),hP 36 448,Tryz.func26,by kernel_rfl,by kernel_rfl⟩
theorem q54 : FOK Tryz.prog GG 54 d54:=⟨Tryz.f54,[[],[[0,1,2,3,4,5,6,7,8,9,10]],[]],hP 13 448,Tryz.func54,by kernel_rfl,by kernel_rfl⟩
theorem q58 : FOK Tryz.prog GG 58 d58:=⟨Tryz.f58,(e 12 []),hP 25 448,Tryz.func58,by kernel_rfl,by kernel_rfl⟩
theorem q62 : FOK Tryz.prog GG 62 d62:=⟨Tryz.f62,(e 17 []),hP 53 448,Tryz.func62,by kernel_rfl,by kernel_rfl⟩
theorem q66 : FOK Tryz.prog GG 66 d66:=⟨Tryz.f66,(e 6 ([[[0,1,2,3,4,5,6,7,8]],[]])),hP 26 448,Tryz.func66,by kernel_rfl,by kernel_rfl⟩
theorem q70 : FOK Tryz.prog GG 70 d70:=⟨Tryz.f70,(e 8 ([[[0,1,2,3,4,5,6,7,8,9,10]],[]])),hP 36 448,Tryz.func70,by kernel_rfl,by kernel_rfl⟩
theorem q74 : FOK Tryz.prog GG 74 d74:=⟨Tryz.f74,(e 3 ([[0,1,5,6,2,3,4,7]]::e 28 ([[[0,7,1,2,3,4,5,6,8]],[]]))),hP 138 448,Tryz.func74,by kernel_rfl,by kernel_rfl⟩
theorem q91 : FOK Tryz.prog GG 91 d91:=⟨Tryz.f91,(e 21 []),hP 19 448,Tryz.func91,by kernel_rfl,by kernel_rfl⟩
theorem q100 : FOK Tryz.prog GG 100 d100:=⟨Tryz.f100,[[],[]],hP 6 448,Tryz.func100,by kernel_rfl,by kernel_rfl⟩
theorem q104 : FOK Tryz.prog GG 104 d104:=⟨Tryz.f104,(e 13 []),hP 34 448,Tryz.func104,by kernel_rfl,by kernel_rfl⟩
theorem q109 : FOK Tryz.prog GG 109 d109:=⟨Tryz.f109,(e 3 []),hP 28 448,Tryz.func109,by kernel_rfl,by kernel_rfl⟩
theorem q113 : FOK Tryz.prog GG 113 d113:=⟨Tryz.f113,[[],[]],hP 6 448,Tryz.func113,by kernel_rfl,by kernel_rfl⟩
theorem q117 : FOK Tryz.prog GG 117 d117:=⟨Tryz.f117,(e 6 ([[0,1,4,5,2,3,6,7]]::e 4 ([[0,1,2,3,4,13,14,5,6,7,8,9,15,16,10,11,12,17,18]]::e 11 ([[[0,1,2,3,4,5,6,7,8,9,10,11,12,13,14,15,16,17]],[],[[0,1,2,3,9,10,11,12,13,4,5,6,7,8,14,15,16,17]],[],[]])))),hP 120 448,Tryz.func117,by kernel_rfl,by kernel_rfl⟩
theorem q123 : FOK Tryz.prog GG 123 d123:=⟨Tryz.f123,(e 10 ([[0,1,2,3,4,5,6,7,8,9]]::e 3 [])),hP 30 448,Tryz.func123,by kernel_rfl,by kernel_rfl⟩
theorem q129 : FOK Tryz.prog GG 129 d129:=⟨Tryz.f129,(e 25 []),hP 36 448,Tryz.func129,by kernel_rfl,by kernel_rfl⟩
theorem q141 : FOK Tryz.prog GG 141 d141:=⟨Tryz.f141,(e 6 ([[0,1,2,3,4,5,6,7,8]]::e 20 ([[[0,1,2,3,4,5,6,7,8,9,10]],[],[]]))),hP 84 448,Tryz.func141,by kernel_rfl,by kernel_rfl⟩
theorem q146 : FOK Tryz.prog GG 146 d146:=⟨Tryz.f146,[[],[]],hP 9 448,Tryz.func146,by kernel_rfl,by kernel_rfl⟩
theorem q150 : FOK Tryz.prog GG 150 d150:=⟨Tryz.f150,(e 14 []),hP 21 448,Tryz.func150,by kernel_rfl,by kernel_rfl⟩
theorem q154 : FOK Tryz.prog GG 154 d154:=⟨Tryz.f154,(e 13 ([[3,4,5,0,1,2,6,7,8,9,10]]::e 3 [])),hP 28 448,Tryz.func154,by kernel_rfl,by kernel_rfl⟩
theorem q158 : FOK Tryz.prog GG 158 d158:=⟨Tryz.f158,(e 9 []),hP 23 448,Tryz.func158,by kernel_rfl,by kernel_rfl⟩
theorem q166 : FOK Tryz.prog GG 166 d166:=⟨Tryz.f166,(e 12 ([[[0,2,1,3]],[]])),hP 58 448,Tryz.func166,by kernel_rfl,by kernel_rfl⟩
theorem q180 : FOK Tryz.prog GG 180 d180:=⟨Tryz.f180,(e 11 []),hP 14 448,Tryz.func180,by kernel_rfl,by kernel_rfl⟩
theorem q185 : FOK Tryz.prog GG 185 d185:=⟨Tryz.f185,(e 8 []),hP 38 448,Tryz.func185,by kernel_rfl,by kernel_rfl⟩
theorem q190 : FOK Tryz.prog GG 190 d190:=⟨Tryz.f190,(e 6 []),hP 30 448,Tryz.func190,by kernel_rfl,by kernel_rfl⟩
theorem q195 : FOK Tryz.prog GG 195 d195:=⟨Tryz.f195,(e 4 ([[[0,1,2,3,4,5,6,7]],[]])),hP 16 448,Tryz.func195,by kernel_rfl,by kernel_rfl⟩
theorem q203 : FOK Tryz.prog GG 203 d203:=⟨Tryz.f203,[[],[]],hP 13 448,Tryz.func203,by kernel_rfl,by kernel_rfl⟩
theorem q207 : FOK Tryz.prog GG 207 d207:=⟨Tryz.f207,[[],[]],hP 12 448,Tryz.func207,by kernel_rfl,by kernel_rfl⟩
theorem q211 : FOK Tryz.prog GG 211 d211:=⟨Tryz.f211,(e 5 []),hP 8 448,Tryz.func211,by kernel_rfl,by kernel_rfl⟩
theorem q215 : FOK Tryz.prog GG 215 d215:=⟨Tryz.f215,[[],[]],hP 8 448,Tryz.func215,by kernel_rfl,by kernel_rfl⟩
theorem q240 : FOK Tryz.prog GG 240 d240:=⟨Tryz.f240,[[],[]],hP 7 448,Tryz.func240,by kernel_rfl,by kernel_rfl⟩
theorem q247 : FOK Tryz.prog GG 247 d247:=⟨Tryz.f247,[[],[]],hP 2 448,Tryz.func247,by kernel_rfl,by kernel_rfl⟩
theorem q251 : FOK Tryz.prog GG 251 d251:=⟨Tryz.f251,[[],[]],hP 8 448,Tryz.func251,by kernel_rfl,by kernel_rfl⟩
theorem q255 : FOK Tryz.prog GG 255 d255:=⟨Tryz.f255,[[],[]],hP 11 448,Tryz.func255,by kernel_rfl,by kernel_rfl⟩
theorem q259 : FOK Tryz.prog GG 259 d259:=⟨Tryz.f259,(e 5 []),hP 8 448,Tryz.func259,by kernel_rfl,by kernel_rfl⟩
theorem q270 : FOK Tryz.prog GG 270 d270:=⟨Tryz.f270,(e 6 []),hP 14 448,Tryz.func270,by kernel_rfl,by kernel_rfl⟩
theorem q275 : FOK Tryz.prog GG 275 d275:=⟨Tryz.f275,[[],[]],hP 9 448,Tryz.func275,by kernel_rfl,by kernel_rfl⟩
theorem q285 : FOK Tryz.prog GG 285 d285:=⟨Tryz.f285,(e 5 []),hP 6 448,Tryz.func285,by kernel_rfl,by kernel_rfl⟩
theorem q292 : FOK Tryz.prog GG 292 d292:=⟨Tryz.f292,(e 16 []),hP 34 448,Tryz.func292,by kernel_rfl,by kernel_rfl⟩
theorem q296 : FOK Tryz.prog GG 296 d296:=⟨Tryz.f296,[[],[]],hP 9 448,Tryz.func296,by kernel_rfl,by kernel_rfl⟩
theorem q305 : FOK Tryz.prog GG 305 d305:=⟨Tryz.f305,(e 13 []),hP 19 448,Tryz.func305,by kernel_rfl,by kernel_rfl⟩
theorem q321 : FOK Tryz.prog GG 321 d321:=⟨Tryz.f321,(e 32 []),hP 70 448,Tryz.func321,by kernel_rfl,by kernel_rfl⟩
theorem q325 : FOK Tryz.prog GG 325 d325:=⟨Tryz.f325,(e 13 []),hP 45 448,Tryz.func325,by kernel_rfl,by kernel_rfl⟩
theorem q343 : FOK Tryz.prog GG 343 d343:=⟨Tryz.f343,(e 4 []),hP 14 448,Tryz.func343,by kernel_rfl,by kernel_rfl⟩
theorem q356 : FOK Tryz.prog GG 356 d356:=⟨Tryz.f356,(e 17 []),hP 38 448,Tryz.func356,by kernel_rfl,by kernel_rfl⟩
theorem q364 : FOK Tryz.prog GG 364 d364:=⟨Tryz.f364,(e 19 []),hP 42 448,Tryz.func364,by kernel_rfl,by kernel_rfl⟩
theorem q379 : FOK Tryz.prog GG 379 d379:=⟨Tryz.f379,[[],[]],hP 8 448,Tryz.func379,by kernel_rfl,by kernel_rfl⟩
end Go.Proofs.YtoppeebbioalcaaGreatDoor.Run
