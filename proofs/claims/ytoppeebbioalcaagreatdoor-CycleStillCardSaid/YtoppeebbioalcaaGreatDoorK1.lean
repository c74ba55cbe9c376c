/- The compiled functions are the program's: part 1 (printed by a program). -/
import Derived.Test.YtoppeebbioalcaaGreatDoorEvE
import Derived.Test.YtoppeebbioalcaaGreatDoorGG
import Derived.Test.YtoppeebbioalcaaGreatDoorD1
import Derived.Test.YtoppeebbioalcaaGreatDoorProg
import Derived.KernelRfl
set_option maxRecDepth 100000
namespace Go.Proofs.YtoppeebbioalcaaGreatDoor.Run
open Go.Ev Go.Ev.S2
open Go.Proofs
theorem q6 : FOK Tryz.prog GG 6 d6:=⟨Tryz.f6,(e 14 ([[[3,4,5,6,7,8,9,0,11,1,12,2,10,13,14,15]],[]])),hP 103 448,Tryz.func6,by kernel_rfl,by kernel_rfl⟩
theorem q15 : FOK Tryz.prog GG 15 d15:=⟨Tryz.f15,(e 4 ([[[2,3,4,0,1,5,6,7,8]],[],[]])),hP 27 448,Tryz.func15,by kernel_rfl,by kernel_rfl⟩
theorem q19 : FOK Tryz.prog GG 19 d19:=⟨Tryz.f19,(e 19 []),hP 43 448,Tryz.func19,by kernel_rfl,by kernel_rfl⟩
theorem q23 : FOK Tryz.prog GG 23 d23:=⟨Tryz.f23,(e 14 []),hP 28 448,Tryz.func23,by kernel_rfl,by kernel_rfl⟩
theorem q50 : FOK Tryz.prog GG 50 d50:=⟨Tryz.f50,[[],[]],hP 17 448,Tryz.func50,by kernel_rfl,by kernel_rfl⟩
theorem q55 : FOK Tryz.prog GG 55 d55:=⟨Tryz.f55,[[],[]],hP 6 448,Tryz.func55,by kernel_rfl,by kernel_rfl⟩
theorem q59 : FOK Tryz.prog GG 59 d59:=⟨Tryz.f59,(e 7 []),hP 23 448,Tryz.func59,by kernel_rfl,by kernel_rfl⟩
theorem q63 : FOK Tryz.prog GG 63 d63:=⟨Tryz.f63,(e 14 []),hP 22 448,Tryz.func63,by kernel_rfl,by kernel_rfl⟩
theorem q67 : FOK Tryz.prog GG 67 d67:=⟨Tryz.f67,(e 15 []),hP 26 448,Tryz.func67,by kernel_rfl,by kernel_rfl⟩
theorem q71 : FOK Tryz.prog GG 71 d71:=⟨Tryz.f71,(e 5 ([[[0,1,2,3,4,5,6,7,8,9,10,11,12,13,14,15,16]],[]])),hP 28 448,Tryz.func71,by kernel_rfl,by kernel_rfl⟩
theorem q75 : FOK Tryz.prog GG 75 d75:=⟨Tryz.f75,(e 14 ([[0,1,3,4,2,5,6]]::e 4 ([[[0,1,3,4,2,5,6]],[]]))),hP 60 448,Tryz.func75,by kernel_rfl,by kernel_rfl⟩
theorem q97 : FOK Tryz.prog GG 97 d97:=⟨Tryz.f97,[[],[]],hP 15 448,Tryz.func97,by kernel_rfl,by kernel_rfl⟩
theorem q101 : FOK Tryz.prog GG 101 d101:=⟨Tryz.f101,(e 11 []),hP 19 448,Tryz.func101,by kernel_rfl,by kernel_rfl⟩
theorem q105 : FOK Tryz.prog GG 105 d105:=⟨Tryz.f105,[[],[[0,1,2,3,4,5,6,7,8,9]],[]],hP 12 448,Tryz.func105,by kernel_rfl,by kernel_rfl⟩
theorem q110 : FOK Tryz.prog GG 110 d110:=⟨Tryz.f110,(e 16 []),hP 24 448,Tryz.func110,by kernel_rfl,by kernel_rfl⟩
theorem q114 : FOK Tryz.prog GG 114 d114:=⟨Tryz.f114,[[],[]],hP 8 448,Tryz.func114,by kernel_rfl,by kernel_rfl⟩
theorem q119 : FOK Tryz.prog GG 119 d119:=⟨Tryz.f119,(e 42 ([[1,2,3,4,5,6,7,0,8,9,10]]::e 5 [])),hP 125 448,Tryz.func119,by kernel_rfl,by kernel_rfl⟩
theorem q124 : FOK Tryz.prog GG 124 d124:=⟨Tryz.f124,([]::[[0,1,2,3,4,5,6,7,8]]::e 3 ([[[0,1,2,6,7,8,3,4,5,9,10]],[],[]])),hP 28 448,Tryz.func124,by kernel_rfl,by kernel_rfl⟩
theorem q130 : FOK Tryz.prog GG 130 d130:=⟨Tryz.f130,[[]],hP 9 448,Tryz.func130,by kernel_rfl,by kernel_rfl⟩
theorem q142 : FOK Tryz.prog GG 142 d142:=⟨Tryz.f142,(e 12 []),hP 25 448,Tryz.func142,by kernel_rfl,by kernel_rfl⟩
theorem q147 : FOK Tryz.prog GG 147 d147:=⟨Tryz.f147,(e 25 []),hP 36 448,Tryz.func147,by kernel_rfl,by kernel_rfl⟩
theorem q151 : FOK Tryz.prog GG 151 d151:=⟨Tryz.f151,[[],[]],hP 6 448,Tryz.func151,by kernel_rfl,by kernel_rfl⟩
theorem q155 : FOK Tryz.prog GG 155 d155:=⟨Tryz.f155,(e 21 ([[[0,2,1,3,4]],[]])),hP 67 448,Tryz.func155,by kernel_rfl,by kernel_rfl⟩
theorem q159 : FOK Tryz.prog GG 159 d159:=⟨Tryz.f159,(e 4 ([[[0,1,2,3,4,5,6,7,8]],[]])),hP 21 448,Tryz.func159,by kernel_rfl,by kernel_rfl⟩
theorem q167 : FOK Tryz.prog GG 167 d167:=⟨Tryz.f167,(e 5 []),hP 12 448,Tryz.func167,by kernel_rfl,by kernel_rfl⟩
theorem q181 : FOK Tryz.prog GG 181 d181:=⟨Tryz.f181,(e 8 []),hP 16 448,Tryz.func181,by kernel_rfl,by kernel_rfl⟩
theorem q187 : FOK Tryz.prog GG 187 d187:=⟨Tryz.f187,[[],[]],hP 17 448,Tryz.func187,by kernel_rfl,by kernel_rfl⟩
theorem q191 : FOK Tryz.prog GG 191 d191:=⟨Tryz.f191,(e 13 []),hP 19 448,Tryz.func191,by kernel_rfl,by kernel_rfl⟩
theorem q196 : FOK Tryz.prog GG 196 d196:=⟨Tryz.f196,[[],[]],hP 8 448,Tryz.func196,by kernel_rfl,by kernel_rfl⟩
theorem q204 : FOK Tryz.prog GG 204 d204:=⟨Tryz.f204,[[],[]],hP 9 448,Tryz.func204,by kernel_rfl,by kernel_rfl⟩
theorem q208 : FOK Tryz.prog GG 208 d208:=⟨Tryz.f208,(e 5 []),hP 16 448,Tryz.func208,by kernel_rfl,by kernel_rfl⟩
theorem q212 : FOK Tryz.prog GG 212 d212:=⟨Tryz.f212,[[],[]],hP 21 448,Tryz.func212,by kernel_rfl,by kernel_rfl⟩
theorem q219 : FOK Tryz.prog GG 219 d219:=⟨Tryz.f219,(e 13 ([[1,2,3,4,5,6,7,8,9,10,11,12,13,14,15,16,0,17,18,19,20,21,22,23,24,25,26]]::e 3 [])),hP 75 448,Tryz.func219,by kernel_rfl,by kernel_rfl⟩
theorem q241 : FOK Tryz.prog GG 241 d241:=⟨Tryz.f241,[[],[]],hP 15 448,Tryz.func241,by kernel_rfl,by kernel_rfl⟩
theorem q248 : FOK Tryz.prog GG 248 d248:=⟨Tryz.f248,(e 24 []),hP 48 448,Tryz.func248,by kernel_rfl,by kernel_rfl⟩
theorem q252 : FOK Tryz.prog GG 252 d252:=⟨Tryz.f252,(e 3 []),hP 36 448,Tryz.func252,by kernel_rfl,by kernel_rfl⟩
theorem q256 : FOK Tryz.prog GG 256 d256:=⟨Tryz.f256,(e 5 ([[2,3,0,1,4,5,6]]::e 4 [])),hP 33 448,Tryz.func256,by kernel_rfl,by kernel_rfl⟩
theorem q260 : FOK Tryz.prog GG 260 d260:=⟨Tryz.f260,(e 9 []),hP 28 448,Tryz.func260,by kernel_rfl,by kernel_rfl⟩
theorem q271 : FOK Tryz.prog GG 271 d271:=⟨Tryz.f271,(e 5 []),hP 17 448,Tryz.func271,by kernel_rfl,by kernel_rfl⟩
theorem q282 : FOK Tryz.prog GG 282 d282:=⟨Tryz.f282,(e 8 []),hP 32 448,Tryz.func282,by kernel_rfl,by kernel_rfl⟩
theorem q286 : FOK Tryz.prog GG 286 d286:=⟨Tryz.f286,(e 23 []),hP 68 448,Tryz.func286,by kernel_rfl,by kernel_rfl⟩
theorem q293 : FOK Tryz.prog GG 293 d293:=⟨Tryz.f293,(e 6 []),hP 29 448,Tryz.func293,by kernel_rfl,by kernel_rfl⟩
theorem q297 : FOK Tryz.prog GG 297 d297:=⟨Tryz.f297,(e 14 []),hP 25 448,Tryz.func297,by kernel_rfl,by kernel_rfl⟩
theorem q306 : FOK Tryz.prog GG 306 d306:=⟨Tryz.f306,[[],[]],hP 13 448,Tryz.func306,by kernel_rfl,by kernel_rfl⟩
theorem q322 : FOK Tryz.prog GG 322 d322:=⟨Tryz.f322,(e 36 []),hP 70 448,Tryz.func322,by kernel_rfl,by kernel_rfl⟩
theorem q326 : FOK Tryz.prog GG 326 d326:=⟨Tryz.f326,(e 6 []),hP 24 448,Tryz.func326,by kernel_rfl,by kernel_rfl⟩
theorem q344 : FOK Tryz.prog GG 344 d344:=⟨Tryz.f344,[[],[]],hP 7 448,Tryz.func344,by kernel_rfl,by kernel_rfl⟩
theorem q358 : FOK Tryz.prog GG 358 d358:=⟨Tryz.f358,(e 6 ([[[0,1,4,5,6,7,8,9,10,11,12,13,2,3,14,15]],[],[]])),hP 28 448,Tryz.func358,by kernel_rfl,by kernel_rfl⟩
theorem q366 : FOK Tryz.prog GG 366 d366:=⟨Tryz.f366,(e 15 []),hP 44 448,Tryz.func366,by kernel_rfl,by kernel_rfl⟩
theorem q409 : FOK Tryz.prog GG 409 d409:=⟨Tryz.f409,(e 5 []),hP 21 448,Tryz.func409,by kernel_rfl,by kernel_rfl⟩
end Go.Proofs.YtoppeebbioalcaaGreatDoor.Run
