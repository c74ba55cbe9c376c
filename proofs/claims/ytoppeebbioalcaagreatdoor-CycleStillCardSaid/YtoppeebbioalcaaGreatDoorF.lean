/- The functions, compiled (printed by a program). -/
import Derived.Test.YtoppeebbioalcaaGreatDoorN
set_option maxRecDepth 100000
set_option linter.all false
namespace Go.Ev
noncomputable section
open S1 S2
attribute [simp] P L A E S m fa ld ln ex st sm z a G u
def f9 : F:=⟨1,110,u [A 1 (.box (.d 0)),P 2 (.mv (.k (.b false)))] (u [fa 3 64 1,ld 4 3,P 5 (.len 4),P 6 (.bin .leq 5 (.k (eI 20))),m 7 6,G 8 7 true (.P (.fa 103 1)),G 9 7 true (.L (.ld1 8)),G 10 7 true (.P (.len 9)),G 11 7 true (.P (.bin .leq 10 (.k (eI 70)))),P 12 (.pick 7 11 (.k (.b false))),m 13 12,G 14 13 true (.P (.fa 104 1)),G 15 13 true (.L (.ld1 14)),G 16 13 true (.P (.len 15)),G 17 13 true (.P (.bin .leq 16 (.k (eI 40)))),P 18 (.pick 13 17 (.k (.b false))),m 19 18,G 20 19 true (.P (.fa 105 1)),G 21 19 true (.L (.ld1 20)),G 22 19 true (.P (.len 21)),G 23 19 true (.P (.bin .leq 22 (.k (eI 20)))),P 24 (.pick 19 23 (.k (.b false))),m 25 24,G 26 25 true (.P (.fa 106 1)),G 27 25 true (.L (.ld1 26)),G 28 25 true (.P (.len 27)),G 29 25 true (.P (.bin .leq 28 (.k (eI 20)))),P 30 (.pick 25 29 (.k (.b false))),m 31 30,G 32 31 true (.P (.fa 107 1)),G 33 31 true (.L (.ld1 32)),G 34 31 true (.P (.len 33)),G 35 31 true (.P (.bin .leq 34 (.k (eI 10)))),P 36 (.pick 31 35 (.k (.b false))),m 37 36,G 38 37 true (.P (.fa 108 1)),G 39 37 true (.L (.ld1 38)),G 40 37 true (.P (.len 39)),G 41 37 true (.P (.bin .leq 40 (.k (eI 80)))),P 42 (.pick 37 41 (.k (.b false))),m 43 42,G 44 43 true (.P (.fa 101 1)),G 45 43 true (.P (.fa 0 44)),G 46 43 true (.L (.ld1 45)),G 47 43 true (.P (.len 46)),G 48 43 true (.P (.bin .leq 47 (.k (eI 100)))),P 49 (.pick 43 48 (.k (.b false))),m 50 49,G 51 50 true (.P (.fa 101 1)),G 52 50 true (.P (.fa 1 51)),G 53 50 true (.L (.ld1 52)),G 54 50 true (.P (.len 53)),G 55 50 true (.P (.bin .leq 54 (.k (eI 100)))),P 56 (.pick 50 55 (.k (.b false))),m 57 56,G 58 57 true (.P (.fa 65 1)),G 59 57 true (.P (.fa 32 58)),G 60 57 true (.P (.fa 0 59)),G 61 57 true (.L (.ld1 60)),G 62 57 true (.P (.len 61)),G 63 57 true (.P (.bin .leq 62 (.k (eI 100)))),P 64 (.pick 57 63 (.k (.b false))),m 65 64,G 66 65 true (.P (.fa 52 1)),G 67 65 true (.L (.ld1 66)),G 68 65 true (.P (.len 67)),G 69 65 true (.P (.bin .leq 68 (.k (eI 2048)))),P 70 (.pick 65 69 (.k (.b false))),m 71 70,G 72 71 true (.P (.fa 53 1)),G 73 71 true (.L (.ld1 72)),G 74 71 true (.P (.len 73)),G 75 71 true (.P (.bin .leq 74 (.k (eI 100)))),P 76 (.pick 71 75 (.k (.b false))),m 77 76,G 78 77 true (.P (.fa 62 1)),G 79 77 true (.L (.ld1 78)),G 80 77 true (.P (.len 79)),G 81 77 true (.P (.bin .leq 80 (.k (eI 10)))),P 82 (.pick 77 81 (.k (.b false))),m 83 82,G 84 83 true (.P (.fa 109 1)),G 85 83 true (.L (.ld1 84)),G 86 83 true (.P (.len 85)),G 87 83 true (.P (.bin .leq 86 (.k (eI 20)))),P 88 (.pick 83 87 (.k (.b false))),m 89 88,G 90 89 true (.P (.fa 56 1)),G 91 89 true (.P (.fa 1 90)),G 92 89 true (.L (.ld1 91)),G 93 89 true (.P (.len 92)),G 94 89 true (.P (.bin .leq 93 (.k (eI 300)))),P 95 (.pick 89 94 (.k (.b false))),m 96 95,G 97 96 true (.P (.fa 56 1)),G 98 96 true (.P (.fa 2 97)),G 99 96 true (.L (.ld1 98)),G 100 96 true (.P (.len 99)),G 101 96 true (.P (.bin .leq 100 (.k (eI 20)))),P 102 (.pick 96 101 (.k (.b false))),m 103 102,G 104 103 true (.P (.fa 56 1)),G 105 103 true (.P (.fa 4 104)),G 106 103 true (.L (.ld1 105)),G 107 103 true (.P (.len 106)),G 108 103 true (.P (.bin .leq 107 (.k (eI 20)))),P 109 (.pick 103 108 (.k (.b false))),m 2 109]
.ret),[.t 2]⟩
def f97 : F:=⟨3,15,u [P 6 (.mv (.k (.b false)))] (u [m 7 0,m 8 1,P 9 (.bin .geq 7 8),m 10 9,G 11 10 true (.P (.mv 0)),G 12 10 true (.P (.mv 2)),G 13 10 true (.P (.bin .leq 11 12)),P 14 (.pick 10 13 (.k (.b false))),m 6 14]
.ret),[.t 6]⟩
def k52_0 : K:=.reg [fa 7 0 1,ld 8 7,E 9 (.callP 97 [1] [(.d 8),(.k (eI 1)),(.k (eI 4))]),m 10 9,G 11 10 true (.P (.fa 1 1)),G 12 10 true (.L (.ld1 11)),G 13 10 true (.E (.callP 97 [1] [(.d 12),(.k (eI 1)),(.k (eI 4))])),P 14 (.pick 10 13 (.k (.b false))),m 15 14,G 16 15 true (.P (.fa 2 1)),G 17 15 true (.L (.ld1 16)),G 18 15 true (.E (.callP 97 [1] [(.d 17),(.k (eI 1)),(.k (eI 4))])),P 19 (.pick 15 18 (.k (.b false))),m 20 19,G 21 20 true (.P (.fa 3 1)),G 22 20 true (.L (.ld1 21)),G 23 20 true (.E (.callP 97 [1] [(.d 22),(.k (eI 1)),(.k (eI 4))])),P 24 (.pick 20 23 (.k (.b false))),m 3 24]
def k52_1 : K:=.reg [fa 25 4 1,ld 26 25,E 27 (.callP 97 [1] [(.d 26),(.k (eI 1)),(.k (eI 16))]),m 28 27,G 29 28 true (.P (.fa 5 1)),G 30 28 true (.L (.ld1 29)),G 31 28 true (.E (.callP 97 [1] [(.d 30),(.k (eI 2)),(.k (eI 64))])),P 32 (.pick 28 31 (.k (.b false))),m 33 32,G 34 33 true (.P (.fa 6 1)),G 35 33 true (.L (.ld1 34)),G 36 33 true (.E (.callP 97 [1] [(.d 35),(.k (eI 2)),(.k (eI 32))])),P 37 (.pick 33 36 (.k (.b false))),m 38 37,G 39 38 true (.P (.fa 7 1)),G 40 38 true (.L (.ld1 39)),G 41 38 true (.E (.callP 97 [1] [(.d 40),(.k (eI 1)),(.k (eI 16))])),P 42 (.pick 38 41 (.k (.b false))),m 43 42,G 44 43 true (.P (.fa 8 1)),G 45 43 true (.L (.ld1 44)),G 46 43 true (.E (.callP 97 [1] [(.d 45),(.k (eI 1)),(.k (eI 16))])),P 47 (.pick 43 46 (.k (.b false))),m 48 47,G 49 48 true (.P (.fa 9 1)),G 50 48 true (.L (.ld1 49)),G 51 48 true (.E (.callP 97 [1] [(.d 50),(.k (eI 1)),(.k (eI 8))])),P 52 (.pick 48 51 (.k (.b false))),m 53 52,G 54 53 true (.P (.fa 10 1)),G 55 53 true (.L (.ld1 54)),G 56 53 true (.E (.callP 97 [1] [(.d 55),(.k (eI 18)),(.k (eI 96))])),P 57 (.pick 53 56 (.k (.b false))),m 4 57]
def k52_2 : K:=.reg [fa 58 11 1,ld 59 58,E 60 (.callP 97 [1] [(.d 59),(.k (eI 0)),(.k (eI 8))]),m 61 60,G 62 61 true (.P (.fa 12 1)),G 63 61 true (.L (.ld1 62)),G 64 61 true (.E (.callP 97 [1] [(.d 63),(.k (eI 0)),(.k (eI 16))])),P 65 (.pick 61 64 (.k (.b false))),m 66 65,G 67 66 true (.P (.fa 13 1)),G 68 66 true (.L (.ld1 67)),G 69 66 true (.E (.callP 97 [1] [(.d 68),(.k (eI 0)),(.k (eI 16))])),P 70 (.pick 66 69 (.k (.b false))),m 71 70,G 72 71 true (.P (.fa 14 1)),G 73 71 true (.L (.ld1 72)),G 74 71 true (.E (.callP 97 [1] [(.d 73),(.k (eI 0)),(.k (eI 16))])),P 75 (.pick 71 74 (.k (.b false))),m 76 75,G 77 76 true (.P (.fa 15 1)),G 78 76 true (.L (.ld1 77)),G 79 76 true (.E (.callP 97 [1] [(.d 78),(.k (eI 0)),(.k (eI 8))])),P 80 (.pick 76 79 (.k (.b false))),m 5 80]
def k52_3 : K:=.reg [fa 81 16 1,ld 82 81,E 83 (.callP 97 [1] [(.d 82),(.k (eI 1)),(.k (eI 32))]),m 84 83,G 85 84 true (.P (.fa 17 1)),G 86 84 true (.L (.ld1 85)),G 87 84 true (.E (.callP 97 [1] [(.d 86),(.k (eI 1)),(.k (eI 32))])),P 88 (.pick 84 87 (.k (.b false))),m 89 88,G 90 89 true (.P (.fa 18 1)),G 91 89 true (.L (.ld1 90)),G 92 89 true (.E (.callP 97 [1] [(.d 91),(.k (eI 1)),(.k (eI 32))])),P 93 (.pick 89 92 (.k (.b false))),m 94 93,G 95 94 true (.P (.fa 19 1)),G 96 94 true (.L (.ld1 95)),G 97 94 true (.E (.callP 97 [1] [(.d 96),(.k (eI 1)),(.k (eI 8))])),P 98 (.pick 94 97 (.k (.b false))),m 99 98,G 100 99 true (.P (.fa 20 1)),G 101 99 true (.L (.ld1 100)),G 102 99 true (.E (.callP 97 [1] [(.d 101),(.k (eI 1)),(.k (eI 4))])),P 103 (.pick 99 102 (.k (.b false))),m 6 103]
def f52 : F:=⟨1,114,u [A 1 (.box (.d 0)),P 2 (.mv (.k (eI 0)))] (.seq (.fin [1] [1,3] [2] [] 1 [] k52_0) (.seq (.fin [1,3] [1,3,4] [2] [] 1 [] k52_1) (.seq (.fin [1,3,4] [1,3,4,5] [2] [] 1 [] k52_2) (.seq (.fin [1,3,4,5] [3,4,5,6] [2] [] 1 [] k52_3) (.seq (u [m 104 3,m 105 104,G 106 105 true (.P (.mv 4)),P 107 (.pick 105 106 (.k (.b false))),m 108 107,G 109 108 true (.P (.mv 5)),P 110 (.pick 108 109 (.k (.b false))),m 111 110,G 112 111 true (.P (.mv 6)),P 113 (.pick 111 112 (.k (.b false)))] (.cond 113 (u [P 2 (.mv (.k (eI 0)))]
.ret)
 .skip)) (u [P 2 (.mv (.k (eI 3)))]
.ret)))))),[.t 2]⟩
def f41 : F:=⟨1,91,u [A 1 (.box (.d 0)),P 2 (.mv (.k (.b false)))] (u [fa 4 0 1,ln 5 22 4,A 3 (.alloc (eConf GConf.zero)),sm 22 3 5] (u [ln 6 22 3,E 7 (.callP 52 [1] [(.d 6)]),P 8 (.bin .eql 7 (.k (eI 0))),m 9 8,G 10 9 true (.P (.fa 64 1)),G 11 9 true (.L (.ld1 10)),G 12 9 true (.P (.len 11)),G 13 9 true (.P (.fa 4 3)),G 14 9 true (.L (.ld1 13)),G 15 9 true (.P (.bin .leq 12 14)),P 16 (.pick 9 15 (.k (.b false))),m 17 16,G 18 17 true (.P (.fa 103 1)),G 19 17 true (.L (.ld1 18)),G 20 17 true (.P (.len 19)),G 21 17 true (.P (.fa 5 3)),G 22 17 true (.L (.ld1 21)),G 23 17 true (.P (.bin .leq 20 22)),P 24 (.pick 17 23 (.k (.b false))),m 25 24,G 26 25 true (.P (.fa 104 1)),G 27 25 true (.L (.ld1 26)),G 28 25 true (.P (.len 27)),G 29 25 true (.P (.fa 6 3)),G 30 25 true (.L (.ld1 29)),G 31 25 true (.P (.bin .leq 28 30)),P 32 (.pick 25 31 (.k (.b false))),m 33 32,G 34 33 true (.P (.fa 105 1)),G 35 33 true (.L (.ld1 34)),G 36 33 true (.P (.len 35)),G 37 33 true (.P (.fa 7 3)),G 38 33 true (.L (.ld1 37)),G 39 33 true (.P (.bin .leq 36 38)),P 40 (.pick 33 39 (.k (.b false))),m 41 40,G 42 41 true (.P (.fa 106 1)),G 43 41 true (.L (.ld1 42)),G 44 41 true (.P (.len 43)),G 45 41 true (.P (.fa 8 3)),G 46 41 true (.L (.ld1 45)),G 47 41 true (.P (.bin .leq 44 46)),P 48 (.pick 41 47 (.k (.b false))),m 49 48,G 50 49 true (.P (.fa 107 1)),G 51 49 true (.L (.ld1 50)),G 52 49 true (.P (.len 51)),G 53 49 true (.P (.fa 9 3)),G 54 49 true (.L (.ld1 53)),G 55 49 true (.P (.bin .leq 52 54)),P 56 (.pick 49 55 (.k (.b false))),m 57 56,G 58 57 true (.P (.fa 101 1)),G 59 57 true (.P (.fa 0 58)),G 60 57 true (.L (.ld1 59)),G 61 57 true (.P (.len 60)),G 62 57 true (.P (.fa 10 3)),G 63 57 true (.L (.ld1 62)),G 64 57 true (.P (.bin .eql 61 63)),P 65 (.pick 57 64 (.k (.b false))),m 66 65,G 67 66 true (.P (.fa 101 1)),G 68 66 true (.P (.fa 1 67)),G 69 66 true (.L (.ld1 68)),G 70 66 true (.P (.len 69)),G 71 66 true (.P (.fa 10 3)),G 72 66 true (.L (.ld1 71)),G 73 66 true (.P (.bin .eql 70 72)),P 74 (.pick 66 73 (.k (.b false))),m 75 74,G 76 75 true (.P (.fa 62 1)),G 77 75 true (.L (.ld1 76)),G 78 75 true (.P (.len 77)),G 79 75 true (.P (.fa 15 3)),G 80 75 true (.L (.ld1 79)),G 81 75 true (.P (.bin .eql 78 80)),P 82 (.pick 75 81 (.k (.b false))),m 83 82,G 84 83 true (.P (.fa 109 1)),G 85 83 true (.L (.ld1 84)),G 86 83 true (.P (.len 85)),G 87 83 true (.P (.fa 14 3)),G 88 83 true (.L (.ld1 87)),G 89 83 true (.P (.bin .eql 86 88)),P 90 (.pick 83 89 (.k (.b false))),m 2 90]
.ret)),[.t 2]⟩
def k42_1 : K:=.dreg [a 0 (m 11 0),a 1 (m 12 3),a 2 (P 13 (.ixS 35 11 12)),a 3 (fa 14 0 13),a 4 (fa 15 23 14),a 5 (ld 16 15),a 6 (P 17 (.bin .lss 16 (.k (eU64 1)))),a 7 (m 18 17),a 8 (G 19 18 false (.P (.mv 3))),a 9 (G 20 18 false (.P (.bin .gtr 19 (.k (eI 0))))),a 10 (G 21 18 false (.P (.mv 20))),a 11 (G 22 21 true (.P (.mv 0))),a 12 (G 23 21 true (.P (.mv 3))),a 13 (G 24 21 true (.P (.ixS 35 22 23))),a 14 (G 25 21 true (.P (.fa 0 24))),a 15 (G 26 21 true (.P (.fa 23 25))),a 16 (G 27 21 true (.L (.ld1 26))),a 17 (G 28 21 true (.P (.mv 0))),a 18 (G 29 21 true (.P (.mv 3))),a 19 (G 30 21 true (.P (.bin .sub 29 (.k (eI 1))))),a 20 (G 31 21 true (.P (.ixS 35 28 30))),a 21 (G 32 21 true (.P (.fa 0 31))),a 22 (G 33 21 true (.P (.fa 23 32))),a 23 (G 34 21 true (.L (.ld1 33))),a 24 (G 35 21 true (.P (.bin .leq 27 34))),a 25 (G 36 18 false (.P (.pick 21 35 (.k (.b false))))),a 26 (P 37 (.pick 18 (.k (.b true)) 36))]
def k42_2 : K:=.reg [m 38 3,P 39 (.bin .gtr 38 (.k (eI 0))),m 40 39,G 41 40 true (.P (.mv 0)),G 42 40 true (.P (.mv 3)),G 43 40 true (.P (.bin .sub 42 (.k (eI 1)))),G 44 40 true (.P (.ixS 35 41 43)),G 45 40 true (.P (.fa 0 44)),G 46 40 true (.P (.fa 0 45)),G 47 40 true (.P (.fa 16 46)),G 48 40 true (.L (.ld1 47)),G 49 40 true (.P (.un .not 48)),P 50 (.pick 40 49 (.k (.b false)))]
def k42_3 : K:=.cond 50 (.reg [m 51 0,m 52 3,P 53 (.bin .sub 52 (.k (eI 1))),P 54 (.ixS 35 51 53),fa 55 0 54,fa 56 0 55,fa 57 15 56,ld 58 57,P 59 (.bin .add 58 (.k (eI 1))),m 4 59])
 .skip
def k42_0 : K:=.seq (u [m 5 3,m 6 0,P 7 (.len 6),P 8 (.bin .lss 5 7)] (.cond 8 .skip
 (.exit 0))) (.seq (.block 1 (u [P 4 (.mv (.k (eI 0)))] (.seq (.seq (.fin [0,3,4] [0,3,4,37] [2] [] 0 [] k42_1) (.cond 37 (u [P 2 (.mv (.k (.b false)))]
.ret)
 .skip)) (.seq (.seq (.fin [0,3,4] [0,3,4,50] [2] [] 0 [] k42_2) (.fin [0,3,4,50] [0,3,4] [2] [] 0 [] k42_3)) (u [m 60 0,m 61 3,P 62 (.ixS 35 60 61),fa 63 0 62,fa 64 0 63,fa 65 15 64,ld 66 65,m 67 4,P 68 (.bin .neq 66 67)] (.cond 68 (u [P 2 (.mv (.k (.b false)))]
.ret)
 .skip)))))) (.reg [m 9 3,P 10 (.bin .add 9 (.k (eI 1))),m 3 10]))
def f42 : F:=⟨1,83,u [P 2 (.mv (.k (.b false)))] (.seq (u [P 3 (.mv (.k (eI 0)))] (.block 0 (.loop (.fin [0,3] [0,3] [2] [0] 0 [] k42_0)))) (u [m 69 0,P 70 (.len 69),P 71 (.bin .eql 70 (.k (eI 0))),m 72 71,G 73 72 false (.P (.mv 0)),G 74 72 false (.P (.mv 0)),G 75 72 false (.P (.len 74)),G 76 72 false (.P (.bin .sub 75 (.k (eI 1)))),G 77 72 false (.P (.ixS 35 73 76)),G 78 72 false (.P (.fa 0 77)),G 79 72 false (.P (.fa 0 78)),G 80 72 false (.P (.fa 16 79)),G 81 72 false (.L (.ld1 80)),P 82 (.pick 72 (.k (.b true)) 81),m 2 82]
.ret)),[.t 2]⟩
def k84_1 : K:=.reg [m 14 5,P 15 (.ixA 16 1 2 14),ld 16 15,P 17 (.bin .lss 16 (.k (eI 1))),m 18 17,G 19 18 false (.P (.mv 5)),G 20 18 false (.P (.ixA 16 1 2 19)),G 21 18 false (.L (.ld1 20)),G 22 18 false (.P (.mv 1)),G 23 18 false (.P (.bin .geq 21 22)),P 24 (.pick 18 (.k (.b true)) 23)]
def k84_2 : K:=.seq (u [m 25 6,m 26 5,P 27 (.bin .lss 25 26)] (.cond 27 .skip
 (.exit 2))) (.seq (.block 3 (.seq (.dreg [a 0 (m 30 6),a 1 (P 31 (.ixA 16 1 2 30)),a 2 (ld 32 31),a 3 (m 33 5),a 4 (P 34 (.ixA 16 1 2 33)),a 5 (ld 35 34),a 6 (P 36 (.bin .eql 32 35))]) (.cond 36 (u [P 4 (.mv (.k (.b false)))]
.ret)
 .skip))) (.reg [m 28 6,P 29 (.bin .add 28 (.k (eI 1))),m 6 29]))
def k84_0 : K:=.seq (u [m 10 5,P 11 (.bin .lss 10 (.k (eI 16)))] (.cond 11 .skip
 (.exit 0))) (.seq (.block 1 (.seq (.seq (.fin [1,2,5] [1,2,5,24] [4] [] 1 [] k84_1) (.cond 24 (u [P 4 (.mv (.k (.b false)))]
.ret)
 .skip)) (u [P 6 (.mv (.k (eI 1)))] (.block 2 (.loop (.fin [1,2,5,6] [1,2,5,6] [4] [1,2,5] 1 [] k84_2)))))) (.reg [m 12 5,P 13 (.bin .add 12 (.k (eI 1))),m 5 13]))
def f84 : F:=⟨2,37,u [A 2 (.box (.d 0)),P 4 (.mv (.k (.b false)))] (.seq (u [P 7 (.ixA 16 1 2 (.k (eI 0))),ld 8 7,P 9 (.bin .neq 8 (.k (eI (-1))))] (.cond 9 (u [P 4 (.mv (.k (.b false)))]
.ret)
 .skip)) (.seq (u [P 5 (.mv (.k (eI 1)))] (.block 0 (.loop (.fin [1,2,5] [1,2,5] [4] [] 1 [] k84_0)))) (u [P 4 (.mv (.k (.b true)))]
.ret))),[.t 4]⟩
def k173_0 : K:=.reg [m 7 3,P 8 (.bin .gtr 7 (.k (eI 96))),m 9 8,G 10 9 false (.P (.fa 2 1)),G 11 9 false (.L (.ld1 10)),G 12 9 false (.P (.bin .lss 11 (.k (eI 0)))),P 13 (.pick 9 (.k (.b true)) 12),m 14 13,G 15 14 false (.P (.fa 2 1)),G 16 14 false (.L (.ld1 15)),G 17 14 false (.P (.mv 3)),G 18 14 false (.P (.bin .gtr 16 17)),P 19 (.pick 14 (.k (.b true)) 18)]
def f173 : F:=⟨1,38,u [A 1 (.box (.d 0)),P 2 (.mv (.k (.b false)))] (u [fa 4 0 1,ld 5 4,P 6 (.len 5),m 3 6] (.seq (.seq (.fin [1,3] [1,3,19] [2] [] 1 [] k173_0) (.cond 19 (u [P 2 (.mv (.k (.b false)))]
.ret)
 .skip)) (u [fa 20 1 1,ld 21 20,P 22 (.bin .geq 21 (.k (eI 0))),m 23 22,G 24 23 true (.P (.fa 1 1)),G 25 23 true (.L (.ld1 24)),G 26 23 true (.P (.mv 3)),G 27 23 true (.P (.bin .lss 25 26)),P 28 (.pick 23 27 (.k (.b false))),m 29 28,G 30 29 false (.P (.mv 3)),G 31 29 false (.P (.bin .eql 30 (.k (eI 0)))),G 32 29 false (.P (.mv 31)),G 33 32 true (.P (.fa 1 1)),G 34 32 true (.L (.ld1 33)),G 35 32 true (.P (.bin .eql 34 (.k (eI 0)))),G 36 29 false (.P (.pick 32 35 (.k (.b false)))),P 37 (.pick 29 (.k (.b true)) 36),m 2 37]
.ret))),[.t 2]⟩
def k174_0 : K:=.seq (u [m 10 4,fa 11 2 1,ld 12 11,P 13 (.bin .lss 10 12)] (.cond 13 .skip
 (.exit 0))) (.seq (.block 1 (.dreg [a 1 (fa 17 0 1),a 2 (ld 18 17),a 3 (fa 19 1 1),a 4 (ld 20 19),a 5 (m 21 4),a 6 (P 22 (.bin .add 20 21)),a 7 (fa 23 0 1),a 8 (ld 24 23),a 9 (P 25 (.len 24)),a 10 (P 26 (.bin .rem 22 25)),a 11 (P 27 (.ixS 1 18 26)),a 12 (ld 28 27),a 13 (E 29 (.bldF 1 1 [(eI 0)] [(0,1,(.d 28))])),a 0 (m 16 3),a 14 (E 30 (.appT 1 8 17430 16 29)),a 15 (m 3 30)])) (.reg [m 14 4,P 15 (.bin .add 14 (.k (eI 1))),m 4 15]))
def f174 : F:=⟨1,32,u [A 1 (.box (.d 0)),E 2 (.acc 17402 1 (.k .sn))] (u [E 5 (.accB 17405 1),m 3 5] (.seq (u [ln 6 3 1,E 7 (.callP 173 [1] [(.d 6)]),P 8 (.un .not 7)] (.cond 8 (u [m 9 3,m 2 9]
.ret)
 .skip)) (.seq (u [P 4 (.mv (.k (eI 0)))] (.block 0 (.loop (.fin [1,3,4] [1,3,4] [2] [3] 1 [17402,17405] k174_0)))) (u [m 31 3,m 2 31]
.ret)))),[.t 2]⟩
def k85_0 : K:=.reg [ln 8 3 2,E 9 (.callP 173 [1] [(.d 8)]),P 10 (.un .not 9),m 11 10,G 12 11 false (.P (.fa 0 2)),G 13 11 false (.L (.ld1 12)),G 14 11 false (.P (.len 13)),G 15 11 false (.P (.mv 1)),G 16 11 false (.P (.bin .neq 14 15)),P 17 (.pick 11 (.k (.b true)) 16)]
def k85_2 : K:=.reg [m 26 5,m 27 6,P 28 (.ixS 1 26 27),ld 29 28,P 30 (.bin .lss 29 (.k (eI 0))),m 31 30,G 32 31 false (.P (.mv 5)),G 33 31 false (.P (.mv 6)),G 34 31 false (.P (.ixS 1 32 33)),G 35 31 false (.L (.ld1 34)),G 36 31 false (.P (.mv 1)),G 37 31 false (.P (.bin .geq 35 36)),P 38 (.pick 31 (.k (.b true)) 37)]
def k85_3 : K:=.seq (u [m 39 7,m 40 6,P 41 (.bin .lss 39 40)] (.cond 41 .skip
 (.exit 2))) (.seq (.block 3 (.seq (.dreg [a 0 (m 44 5),a 1 (m 45 7),a 2 (P 46 (.ixS 1 44 45)),a 3 (ld 47 46),a 4 (m 48 5),a 5 (m 49 6),a 6 (P 50 (.ixS 1 48 49)),a 7 (ld 51 50),a 8 (P 52 (.bin .eql 47 51))]) (.cond 52 (u [P 4 (.mv (.k (.b false)))]
.ret)
 .skip))) (.reg [m 42 7,P 43 (.bin .add 42 (.k (eI 1))),m 7 43]))
def k85_1 : K:=.seq (u [m 20 6,m 21 5,P 22 (.len 21),P 23 (.bin .lss 20 22)] (.cond 23 .skip
 (.exit 0))) (.seq (.block 1 (.seq (.seq (.fin [1,5,6] [1,5,6,38] [4] [] 1 [] k85_2) (.cond 38 (u [P 4 (.mv (.k (.b false)))]
.ret)
 .skip)) (u [P 7 (.mv (.k (eI 0)))] (.block 2 (.loop (.fin [1,5,6,7] [1,5,6,7] [4] [1,5,6] 1 [] k85_3)))))) (.reg [m 24 6,P 25 (.bin .add 24 (.k (eI 1))),m 6 25]))
def f85 : F:=⟨2,53,u [A 2 (.box (.d 0)),P 4 (.mv (.k (.b false)))] (.seq (.seq (.fin [1,2] [1,2,17] [4] [] 1 [] k85_0) (.cond 17 (u [P 4 (.mv (.k (.b false)))]
.ret)
 .skip)) (u [ln 18 3 2,E 19 (.callP 174 [1] [(.d 18)]),m 5 19] (.seq (u [P 6 (.mv (.k (eI 0)))] (.block 0 (.loop (.fin [1,5,6] [1,5,6] [4] [] 1 [] k85_1)))) (u [P 4 (.mv (.k (.b true)))]
.ret)))),[.t 4]⟩
def f86 : F:=⟨1,11,u [A 1 (.box (.d 0)),P 2 (.mv (.k (.b false)))] (u [fa 3 20 1,ld 4 3,P 5 (.bin .geq 4 (.k (eI 1))),m 6 5,G 7 6 true (.P (.fa 20 1)),G 8 6 true (.L (.ld1 7)),G 9 6 true (.P (.bin .leq 8 (.k (eI 15)))),P 10 (.pick 6 9 (.k (.b false))),m 2 10]
.ret),[.t 2]⟩
def k175_0 : K:=.seq (u [m 7 6,m 8 0,P 9 (.len 8),P 10 (.bin .lss 7 9)] (.cond 10 .skip
 (.exit 0))) (.seq (.block 1 (u [m 13 0,m 14 6,P 15 (.ixS 1 13 14),ld 16 15,m 17 1,P 18 (.bin .eql 16 17)] (.cond 18 (.reg [m 19 5,P 20 (.bin .add 19 (.k (eI 1))),m 5 20])
 .skip))) (.reg [m 11 6,P 12 (.bin .add 11 (.k (eI 1))),m 6 12]))
def f175 : F:=⟨2,22,u [P 4 (.mv (.k (eI 0)))] (u [P 5 (.mv (.k (eI 0)))] (.seq (u [P 6 (.mv (.k (eI 0)))] (.block 0 (.loop (.fin [0,1,5,6] [0,1,5,6] [4] [5] 0 [] k175_0)))) (u [m 21 5,m 4 21]
.ret))),[.t 4]⟩
def k87_0 : K:=.seq (u [m 14 8,P 15 (.bin .lss 14 (.k (eI 16)))] (.cond 15 .skip
 (.exit 0))) (.seq (.block 1 (.reg [m 18 7,m 19 8,fa 20 16 3,P 21 (.ixA 16 1 20 19),ld 22 21,E 23 (.bldF 1 1 [(eI 0)] [(0,1,(.d 22))]),E 24 (.appT 1 8 8724 18 23),m 7 24])) (.reg [m 16 8,P 17 (.bin .add 16 (.k (eI 1))),m 8 17]))
def k87_1 : K:=.seq (u [m 25 9,m 26 2,P 27 (.len 26),P 28 (.bin .lss 25 27)] (.cond 28 .skip
 (.exit 2))) (.seq (.block 3 (u [m 31 2,m 32 9,P 33 (.ixS 29 31 32),fa 34 27 33,ld 35 34,P 36 (.bin .neq 35 (.k (eI (-1))))] (.cond 36 (.reg [m 37 7,m 38 2,m 39 9,P 40 (.ixS 29 38 39),fa 41 27 40,ld 42 41,E 43 (.bldF 1 1 [(eI 0)] [(0,1,(.d 42))]),E 44 (.appT 1 8 8744 37 43),m 7 44])
 .skip))) (.reg [m 29 9,P 30 (.bin .add 29 (.k (eI 1))),m 9 30]))
def k87_2 : K:=.seq (u [m 45 10,m 46 1,P 47 (.bin .lss 45 46)] (.cond 47 .skip
 (.exit 4))) (.seq (.block 5 (u [m 50 7,m 51 10,E 52 (.callP 175 [1] [(.d 50),(.d 51)]),P 53 (.bin .neq 52 (.k (eI 1)))] (.cond 53 (u [P 6 (.mv (.k (.b false)))]
.ret)
 .skip))) (.reg [m 48 10,P 49 (.bin .add 48 (.k (eI 1))),m 10 49]))
def f87 : F:=⟨3,59,u [A 3 (.box (.d 0)),P 6 (.mv (.k (.b false)))] (u [fa 11 32 3,ln 12 3 11,E 13 (.callT 8713 174 [(.d 12)]),m 7 13] (.seq (u [P 8 (.mv (.k (eI 1)))] (.block 0 (.loop (.fin [1,2,3,7,8] [1,2,3,7,8] [6] [1,2,7] 1 [8713] k87_0)))) (.seq (u [P 9 (.mv (.k (eI 0)))] (.block 2 (.loop (.fin [1,2,7,9] [1,2,7,9] [6] [1,7] 1 [8713] k87_1)))) (.seq (u [P 10 (.mv (.k (eI 1)))] (.block 4 (.loop (.fin [1,7,10] [1,7,10] [6] [1,7] 1 [8713] k87_2)))) (u [m 54 7,P 55 (.len 54),m 56 1,P 57 (.bin .sub 56 (.k (eI 1))),P 58 (.bin .eql 55 57),m 6 58]
.ret))))),[.t 6]⟩
def k43_0 : K:=.reg [m 11 1,P 12 (.bin .lss 11 (.k (eI 17))),m 13 12,G 14 13 false (.P (.mv 1)),G 15 13 false (.P (.bin .gtr 14 (.k (eI 96)))),P 16 (.pick 13 (.k (.b true)) 15),m 17 16,G 18 17 false (.P (.fa 0 3)),G 19 17 false (.L (.ldn 16 18)),G 20 17 false (.P (.mv 1)),G 21 17 false (.E (.callP 84 [1] [(.d 19),(.d 20)])),G 22 17 false (.P (.un .not 21)),P 23 (.pick 17 (.k (.b true)) 22),m 24 23,G 25 24 false (.P (.fa 16 3)),G 26 24 false (.L (.ldn 16 25)),G 27 24 false (.P (.mv 1)),G 28 24 false (.E (.callP 84 [1] [(.d 26),(.d 27)])),G 29 24 false (.P (.un .not 28)),P 30 (.pick 24 (.k (.b true)) 29),m 31 30,G 32 31 false (.P (.fa 32 3)),G 33 31 false (.L (.ldn 3 32)),G 34 31 false (.P (.mv 1)),G 35 31 false (.E (.callP 85 [1] [(.d 33),(.d 34)])),G 36 31 false (.P (.un .not 35)),P 37 (.pick 31 (.k (.b true)) 36)]
def k43_2 : K:=.reg [fa 50 23 10,ld 51 50,m 52 8,P 53 (.bin .leq 51 52),m 54 53,G 55 54 false (.P (.fa 23 10)),G 56 54 false (.L (.ld1 55)),G 57 54 false (.P (.fa 35 3)),G 58 54 false (.L (.ld1 57)),G 59 54 false (.P (.bin .geq 56 58)),P 60 (.pick 54 (.k (.b true)) 59)]
def k43_3 : K:=.reg [fa 67 27 10,ld 68 67,P 69 (.bin .neq 68 (.k (eI (-1)))),m 70 69,G 71 70 false (.P (.fa 28 10)),G 72 70 false (.L (.ld1 71)),G 73 70 false (.P (.bin .neq 72 (.k (eI (-1))))),P 74 (.pick 70 (.k (.b true)) 73)]
def k43_4 : K:=.dreg [a 0 (fa 75 27 10),a 1 (ld 76 75),a 2 (P 77 (.bin .lss 76 (.k (eI 0)))),a 3 (m 78 77),a 4 (G 79 78 false (.P (.fa 28 10))),a 5 (G 80 78 false (.L (.ld1 79))),a 6 (G 81 78 false (.P (.fa 0 10))),a 7 (G 82 78 false (.P (.fa 20 81))),a 8 (G 83 78 false (.L (.ld1 82))),a 9 (G 84 78 false (.P (.ixA 16 1 7 83))),a 10 (G 85 78 false (.L (.ld1 84))),a 11 (G 86 78 false (.P (.bin .neq 80 85))),a 12 (P 87 (.pick 78 (.k (.b true)) 86))]
def k43_1 : K:=.seq (u [m 40 9,m 41 2,P 42 (.len 41),P 43 (.bin .lss 40 42)] (.cond 43 .skip
 (.exit 0))) (.seq (.block 1 (u [m 46 2,m 47 9,P 48 (.ixS 29 46 47),ln 49 29 48,A 10 (.alloc (eRen GRen.zero)),sm 29 10 49] (.seq (.seq (.fin [1,2,3,7,8,9,10] [1,2,3,7,9,10,60] [6] [] 3 [] k43_2) (.cond 60 (u [P 6 (.mv (.k (.b false)))]
.ret)
 .skip)) (u [fa 61 23 10,ld 62 61,m 8 62] (.seq (u [fa 63 0 10,ln 64 23 63,E 65 (.callP 86 [1] [(.d 64)]),P 66 (.un .not 65)] (.cond 66 (.seq (.seq (.fin [1,2,3,7,8,9,10] [1,2,3,7,8,9,74] [6] [] 3 [] k43_3) (.cond 74 (u [P 6 (.mv (.k (.b false)))]
.ret)
 .skip)) (.exit 1))
 .skip)) (.seq (.seq (.fin [1,2,3,7,8,9,10] [1,2,3,7,8,9,10,87] [6] [] 3 [] k43_4) (.cond 87 (u [P 6 (.mv (.k (.b false)))]
.ret)
 .skip)) (.reg [fa 88 0 10,fa 89 20 88,ld 90 89,fa 91 27 10,ld 92 91,P 93 (.ixA 16 1 7 90),st 93 92]))))))) (.reg [m 44 9,P 45 (.bin .add 44 (.k (eI 1))),m 9 45]))
def f43 : F:=⟨3,104,u [A 3 (.box (.d 0)),P 6 (.mv (.k (.b false)))] (.seq (.seq (.fin [1,2,3] [1,2,3,37] [6] [] 1 [] k43_0) (.cond 37 (u [P 6 (.mv (.k (.b false)))]
.ret)
 .skip)) (u [fa 38 16 3,ln 39 16 38,A 7 (.alloc ((eAr cI) (Arr.rep 16 0))),sm 16 7 39] (u [P 8 (.mv (.k (eU64 0)))] (.seq (u [P 9 (.mv (.k (eI 0)))] (.block 0 (.loop (.fin [1,2,3,7,8,9] [1,2,3,7,8,9] [6] [1,2,3,7] 2 [] k43_1)))) (u [ln 94 16 7,fa 95 0 3,ln 96 16 95,P 97 (.eqA ksArr37 false 94 96),m 98 97,G 99 98 true (.L (.ldn 36 3)),G 100 98 true (.P (.mv 1)),G 101 98 true (.P (.mv 2)),G 102 98 true (.E (.callP 87 [1] [(.d 99),(.d 100),(.d 101)])),P 103 (.pick 98 102 (.k (.b false))),m 6 103]
.ret))))),[.t 6]⟩
def k88_1 : K:=.dreg [a 0 (fa 13 103 2),a 1 (ld 14 13),a 2 (m 15 5),a 3 (P 16 (.ixS 35 14 15)),a 4 (fa 17 0 16),a 5 (ln 18 29 17),a 6 (ln 19 29 3),a 7 (P 20 (.eqA ksGRen false 18 19)),a 8 (m 21 20),a 9 (G 22 21 true (.P (.fa 103 2))),a 10 (G 23 21 true (.L (.ld1 22))),a 11 (G 24 21 true (.P (.mv 5))),a 12 (G 25 21 true (.P (.ixS 35 23 24))),a 13 (G 26 21 true (.P (.fa 29 25))),a 14 (G 27 21 true (.L (.ld1 26))),a 15 (G 28 21 true (.P (.un .not 27))),a 16 (P 29 (.pick 21 28 (.k (.b false))))]
def k88_0 : K:=.seq (u [m 6 5,fa 7 103 2,ld 8 7,P 9 (.len 8),P 10 (.bin .lss 6 9)] (.cond 10 .skip
 (.exit 0))) (.seq (.block 1 (.seq (.fin [2,3,5] [2,3,5,29] [4] [] 2 [] k88_1) (.cond 29 (u [P 4 (.mv (.k (.b true)))]
.ret)
 .skip))) (.reg [m 11 5,P 12 (.bin .add 11 (.k (eI 1))),m 5 12]))
def f88 : F:=⟨2,30,u [A 2 (.box (.d 0)),A 3 (.box (.d 1)),P 4 (.mv (.k (.b false)))] (.seq (u [P 5 (.mv (.k (eI 0)))] (.block 0 (.loop (.fin [2,3,5] [2,3,5] [4] [] 2 [] k88_0)))) (u [P 4 (.mv (.k (.b false)))]
.ret)),[.t 4]⟩
def k44_1 : K:=.seq (u [m 21 4,m 22 3,P 23 (.bin .lss 21 22)] (.cond 23 .skip
 (.exit 2))) (.seq (.block 3 (.seq (.dreg [a 0 (fa 26 104 1),a 1 (ld 27 26),a 2 (m 28 4),a 3 (P 29 (.ixS 32 27 28)),a 4 (fa 30 0 29),a 5 (fa 31 23 30),a 6 (ld 32 31),a 7 (fa 33 104 1),a 8 (ld 34 33),a 9 (m 35 3),a 10 (P 36 (.ixS 32 34 35)),a 11 (fa 37 0 36),a 12 (fa 38 23 37),a 13 (ld 39 38),a 14 (P 40 (.bin .eql 32 39))]) (.cond 40 (u [P 2 (.mv (.k (.b false)))]
.ret)
 .skip))) (.reg [m 24 4,P 25 (.bin .add 24 (.k (eI 1))),m 4 25]))
def k44_0 : K:=.seq (u [m 5 3,fa 6 104 1,ld 7 6,P 8 (.len 7),P 9 (.bin .lss 5 8)] (.cond 9 .skip
 (.exit 0))) (.seq (.block 1 (.seq (.seq (.dreg [a 0 (ln 12 112 1),a 1 (fa 13 104 1),a 2 (ld 14 13),a 3 (m 15 3),a 4 (P 16 (.ixS 32 14 15)),a 5 (fa 17 0 16),a 6 (ln 18 29 17),a 7 (E 19 (.callP 88 [1] [(.d 12),(.d 18)])),a 8 (P 20 (.un .not 19))]) (.cond 20 (u [P 2 (.mv (.k (.b false)))]
.ret)
 .skip)) (u [P 4 (.mv (.k (eI 0)))] (.block 2 (.loop (.fin [1,3,4] [1,3,4] [2] [1,3] 1 [] k44_1)))))) (.reg [m 10 3,P 11 (.bin .add 10 (.k (eI 1))),m 3 11]))
def f44 : F:=⟨1,41,u [A 1 (.box (.d 0)),P 2 (.mv (.k (.b false)))] (.seq (u [P 3 (.mv (.k (eI 0)))] (.block 0 (.loop (.fin [1,3] [1,3] [2] [] 1 [] k44_0)))) (u [P 2 (.mv (.k (.b true)))]
.ret)),[.t 2]⟩
def k45_1 : K:=.seq (u [m 24 5,m 25 3,P 26 (.bin .lss 24 25)] (.cond 26 .skip
 (.exit 2))) (.seq (.block 3 (.seq (.dreg [a 0 (fa 29 108 1),a 1 (ld 30 29),a 2 (m 31 5),a 3 (P 32 (.ixS 35 30 31)),a 4 (fa 33 0 32),a 5 (fa 34 23 33),a 6 (ld 35 34),a 7 (fa 36 23 4),a 8 (ld 37 36),a 9 (P 38 (.bin .eql 35 37))]) (.cond 38 (u [P 2 (.mv (.k (.b false)))]
.ret)
 .skip))) (.reg [m 27 5,P 28 (.bin .add 27 (.k (eI 1))),m 5 28]))
def k45_2 : K:=.seq (u [m 39 6,fa 40 104 1,ld 41 40,P 42 (.len 41),P 43 (.bin .lss 39 42)] (.cond 43 .skip
 (.exit 4))) (.seq (.block 5 (.seq (.dreg [a 0 (fa 46 104 1),a 1 (ld 47 46),a 2 (m 48 6),a 3 (P 49 (.ixS 32 47 48)),a 4 (fa 50 0 49),a 5 (fa 51 23 50),a 6 (ld 52 51),a 7 (fa 53 23 4),a 8 (ld 54 53),a 9 (P 55 (.bin .eql 52 54))]) (.cond 55 (u [P 2 (.mv (.k (.b false)))]
.ret)
 .skip))) (.reg [m 44 6,P 45 (.bin .add 44 (.k (eI 1))),m 6 45]))
def k45_0 : K:=.seq (u [m 7 3,fa 8 108 1,ld 9 8,P 10 (.len 9),P 11 (.bin .lss 7 10)] (.cond 11 .skip
 (.exit 0))) (.seq (.block 1 (u [fa 14 108 1,ld 15 14,m 16 3,P 17 (.ixS 35 15 16),fa 18 0 17,ln 19 29 18,A 4 (.alloc (eRen GRen.zero)),sm 29 4 19] (.seq (u [ln 20 112 1,ln 21 29 4,E 22 (.callP 88 [1] [(.d 20),(.d 21)]),P 23 (.un .not 22)] (.cond 23 (u [P 2 (.mv (.k (.b false)))]
.ret)
 .skip)) (.seq (u [P 5 (.mv (.k (eI 0)))] (.block 2 (.loop (.fin [1,3,4,5] [1,3,4,5] [2] [1,3,4] 2 [] k45_1)))) (u [P 6 (.mv (.k (eI 0)))] (.block 4 (.loop (.fin [1,3,4,6] [1,3,4,6] [2] [1,3] 2 [] k45_2)))))))) (.reg [m 12 3,P 13 (.bin .add 12 (.k (eI 1))),m 3 13]))
def f45 : F:=⟨1,56,u [A 1 (.box (.d 0)),P 2 (.mv (.k (.b false)))] (.seq (u [P 3 (.mv (.k (eI 0)))] (.block 0 (.loop (.fin [1,3] [1,3] [2] [] 1 [] k45_0)))) (u [P 2 (.mv (.k (.b true)))]
.ret)),[.t 2]⟩
def k89_0 : K:=.seq (u [m 8 6,fa 9 103 2,ld 10 9,P 11 (.len 10),P 12 (.bin .lss 8 11)] (.cond 12 .skip
 (.exit 0))) (.seq (.block 1 (u [fa 15 103 2,ld 16 15,m 17 6,P 18 (.ixS 35 16 17),fa 19 0 18,fa 20 0 19,fa 21 14 20,ld 22 21,m 23 1,P 24 (.bin .eql 22 23)] (.cond 24 (.reg [m 25 5,fa 26 103 2,ld 27 26,m 28 6,P 29 (.ixS 35 27 28),fa 30 0 29,fa 31 23 30,ld 32 31,E 33 (.bldF 1 1 [(eU64 0)] [(0,1,(.d 32))]),E 34 (.appT 1 8 8934 25 33),m 5 34])
 .skip))) (.reg [m 13 6,P 14 (.bin .add 13 (.k (eI 1))),m 6 14]))
def f89 : F:=⟨2,36,u [A 2 (.box (.d 0)),E 4 (.acc 8904 1 (.k .sn))] (u [E 7 (.accB 8907 1),m 5 7] (.seq (u [P 6 (.mv (.k (eI 0)))] (.block 0 (.loop (.fin [1,2,5,6] [1,2,5,6] [4] [5] 1 [8904,8907] k89_0)))) (u [m 35 5,m 4 35]
.ret))),[.t 4]⟩
def k46_0 : K:=.reg [m 11 3,P 12 (.len 11),fa 13 105 1,ld 14 13,P 15 (.len 14),P 16 (.bin .neq 12 15),m 17 16,G 18 17 false (.P (.mv 4)),G 19 17 false (.P (.len 18)),G 20 17 false (.P (.fa 106 1)),G 21 17 false (.L (.ld1 20)),G 22 17 false (.P (.len 21)),G 23 17 false (.P (.bin .neq 19 22)),P 24 (.pick 17 (.k (.b true)) 23)]
def k46_2 : K:=.reg [m 25 5,m 26 3,P 27 (.len 26),P 28 (.bin .lss 25 27),m 29 28,G 30 29 true (.P (.mv 5)),G 31 29 true (.P (.fa 105 1)),G 32 29 true (.L (.ld1 31)),G 33 29 true (.P (.len 32)),G 34 29 true (.P (.bin .lss 30 33)),P 35 (.pick 29 34 (.k (.b false)))]
def k46_1 : K:=.seq (.seq (.fin [1,3,4,5] [1,3,4,5,35] [2] [] 1 [] k46_2) (.cond 35 .skip
 (.exit 0))) (.seq (.block 1 (.seq (.dreg [a 0 (fa 38 105 1),a 1 (ld 39 38),a 2 (m 40 5),a 3 (P 41 (.ixS 8 39 40)),a 4 (fa 42 0 41),a 5 (ld 43 42),a 6 (m 44 3),a 7 (m 45 5),a 8 (P 46 (.ixS 1 44 45)),a 9 (ld 47 46),a 10 (P 48 (.bin .neq 43 47))]) (.cond 48 (u [P 2 (.mv (.k (.b false)))]
.ret)
 .skip))) (.reg [m 36 5,P 37 (.bin .add 36 (.k (eI 1))),m 5 37]))
def k46_4 : K:=.reg [m 49 6,m 50 4,P 51 (.len 50),P 52 (.bin .lss 49 51),m 53 52,G 54 53 true (.P (.mv 6)),G 55 53 true (.P (.fa 106 1)),G 56 53 true (.L (.ld1 55)),G 57 53 true (.P (.len 56)),G 58 53 true (.P (.bin .lss 54 57)),P 59 (.pick 53 58 (.k (.b false)))]
def k46_3 : K:=.seq (.seq (.fin [1,4,6] [1,4,6,59] [2] [] 1 [] k46_4) (.cond 59 .skip
 (.exit 2))) (.seq (.block 3 (.seq (.dreg [a 0 (fa 62 106 1),a 1 (ld 63 62),a 2 (m 64 6),a 3 (P 65 (.ixS 5 63 64)),a 4 (fa 66 0 65),a 5 (ld 67 66),a 6 (m 68 4),a 7 (m 69 6),a 8 (P 70 (.ixS 1 68 69)),a 9 (ld 71 70),a 10 (P 72 (.bin .neq 67 71))]) (.cond 72 (u [P 2 (.mv (.k (.b false)))]
.ret)
 .skip))) (.reg [m 60 6,P 61 (.bin .add 60 (.k (eI 1))),m 6 61]))
def f46 : F:=⟨1,73,u [A 1 (.box (.d 0)),P 2 (.mv (.k (.b false)))] (.seq (.dreg [a 0 (ln 7 112 1),a 1 (E 8 (.callP 89 [1] [(.d 7),(.k (eI 5))])),⟨2,ln 9 112 1,1,1⟩,a 3 (E 10 (.callP 89 [1] [(.d 9),(.k (eI 6))])),a 4 (m 3 8),a 5 (m 4 10)]) (.seq (.seq (.fin [1,3,4] [1,3,4,24] [2] [] 1 [] k46_0) (.cond 24 (u [P 2 (.mv (.k (.b false)))]
.ret)
 .skip)) (.seq (u [P 5 (.mv (.k (eI 0)))] (.block 0 (.loop (.fin [1,3,4,5] [1,3,4,5] [2] [1,4] 1 [] k46_1)))) (.seq (u [P 6 (.mv (.k (eI 0)))] (.block 2 (.loop (.fin [1,4,6] [1,4,6] [2] [] 1 [] k46_3)))) (u [P 2 (.mv (.k (.b true)))]
.ret))))),[.t 2]⟩
def f106 : F:=⟨2,21,u [A 2 (.box (.d 0)),P 4 (.mv (.k (.b false)))] (u [m 5 1,P 6 (.bin .geq 5 (.k (eI 0))),m 7 6,G 8 7 true (.P (.mv 1)),G 9 7 true (.P (.fa 0 2)),G 10 7 true (.L (.ld1 9)),G 11 7 true (.P (.len 10)),G 12 7 true (.P (.bin .lss 8 11)),P 13 (.pick 7 12 (.k (.b false))),m 14 13,G 15 14 true (.P (.mv 1)),G 16 14 true (.P (.fa 1 2)),G 17 14 true (.L (.ld1 16)),G 18 14 true (.P (.len 17)),G 19 14 true (.P (.bin .lss 15 18)),P 20 (.pick 14 19 (.k (.b false))),m 4 20]
.ret),[.t 4]⟩
def f90 : F:=⟨2,21,u [A 2 (.box (.d 0)),P 4 (.mv (.k (eU32 0))),P 5 (.mv (.k (.b false)))] (.seq (u [ln 6 2 2,m 7 1,E 8 (.callP 106 [1] [(.d 6),(.d 7)]),P 9 (.un .not 8)] (.cond 9 (u [P 4 (.mv (.k (eU32 0))),P 5 (.mv (.k (.b true)))]
.ret)
 .skip)) (.seq (u [fa 10 1 2,ld 11 10,m 12 1,P 13 (.ixS 1 11 12),ld 14 13,P 15 (.un .not 14)] (.cond 15 (u [P 4 (.mv (.k (eU32 0))),P 5 (.mv (.k (.b false)))]
.ret)
 .skip)) (u [fa 16 0 2,ld 17 16,m 18 1,P 19 (.ixS 1 17 18),ld 20 19,m 4 20,P 5 (.mv (.k (.b true)))]
.ret))),[.t 4,.t 5]⟩
def k47_0 : K:=.seq (u [m 7 6,P 8 (.bin .lss 7 (.k (eI 16)))] (.cond 8 .skip
 (.exit 0))) (.seq (.block 1 (.dreg [a 1 (ln 13 2 2),a 2 (m 14 6),a 3 (P 15 (.ixA 16 1 3 14)),a 4 (ld 16 15),a 5 (E 17 (.callP 90 [1,1] [(.d 13),(.d 16)])),a 0 (m 12 6),a 6 (m 11 17),a 7 (ex 18 11 0),a 9 (P 20 (.ixA 16 1 5 12)),a 10 (st 20 18),a 8 (ex 19 11 1)])) (.reg [m 9 6,P 10 (.bin .add 9 (.k (eI 1))),m 6 10]))
def f47 : F:=⟨2,22,u [A 2 (.box (.d 0)),A 3 (.box (.d 1)),A 4 (.alloc ((eAr cU32) (Arr.rep 16 0)))] (u [A 5 (.alloc ((eAr cU32) (Arr.rep 16 0)))] (.seq (u [P 6 (.mv (.k (eI 1)))] (.block 0 (.loop (.fin [2,3,4,5,6] [2,3,4,5,6] [4] [4,5] 4 [] k47_0)))) (u [ln 21 16 5,sm 16 4 21]
.ret))),[.cn 4 16]⟩
def k91_1 : K:=.cond 8 .skip
 (.reg [P 10 (.bin .eql 3 (.k (eI 10))),m 8 10])
def k91_0 : K:=.block 0 (u [P 5 (.bin .eql 3 (.k (eI 0))),m 4 5] (.cond 4 (u [P 2 (.mv (.k (eU32 63)))]
.ret)
 (u [P 7 (.bin .eql 3 (.k (eI 1))),m 6 7] (.cond 6 (u [P 2 (.mv (.k (eU32 31)))]
.ret)
 (.seq (u [P 9 (.bin .eql 3 (.k (eI 9))),m 8 9] (.fin [0,3,8] [0,3,8] [2] [] 0 [] k91_1)) (.cond 8 (u [P 2 (.mv (.k (eU32 7)))]
.ret)
 (u [P 12 (.bin .eql 3 (.k (eI 5))),m 11 12] (.cond 11 (u [P 2 (.mv (.k (eU32 4294967232)))]
.ret)
 .skip))))))))
def f91 : F:=⟨1,19,u [P 2 (.mv (.k (eU32 0)))] (.seq (u [m 3 0] (.fin [0,3] [0] [2] [] 0 [] k91_0)) (.seq (u [m 13 0,P 14 (.bin .lss 13 (.k (eI 0))),m 15 14,G 16 15 false (.P (.mv 0)),G 17 15 false (.P (.bin .gtr 16 (.k (eI 11)))),P 18 (.pick 15 (.k (.b true)) 17)] (.cond 18 (u [P 2 (.mv (.k (eU32 0)))]
.ret)
 .skip)) (u [P 2 (.mv (.k (eU32 4294967295)))]
.ret))),[.t 2]⟩
def k48_0 : K:=.seq (u [m 4 3,P 5 (.bin .lss 4 (.k (eI 12)))] (.cond 5 .skip
 (.exit 0))) (.seq (.block 1 (.seq (.dreg [a 4 (m 12 3),a 5 (E 13 (.callP 91 [1] [(.d 12)])),a 0 (m 8 3),a 1 (fa 9 17 1),a 2 (P 10 (.ixA 12 1 9 8)),⟨3,ld 11 10,1,1⟩,a 6 (P 14 (.bin .and 11 13)),a 7 (m 15 3),a 8 (fa 16 17 1),a 9 (P 17 (.ixA 12 1 16 15)),⟨10,ld 18 17,1,1⟩,a 11 (P 19 (.bin .neq 14 18))]) (.cond 19 (u [P 2 (.mv (.k (.b false)))]
.ret)
 .skip))) (.reg [m 6 3,P 7 (.bin .add 6 (.k (eI 1))),m 3 7]))
def f48 : F:=⟨1,24,u [A 1 (.box (.d 0)),P 2 (.mv (.k (.b false)))] (.seq (u [P 3 (.mv (.k (eI 0)))] (.block 0 (.loop (.fin [1,3] [1,3] [2] [1] 1 [] k48_0)))) (u [fa 20 1 1,P 21 (.ixA 16 1 20 (.k (eI 0))),ld 22 21,P 23 (.bin .eql 22 (.k (eU32 0))),m 2 23]
.ret)),[.t 2]⟩
def k49_1 : K:=.reg [fa 19 29 4,ld 20 19,P 21 (.un .not 20),m 22 21,G 23 22 false (.P (.fa 32 4)),G 24 22 false (.L (.ld1 23)),G 25 22 false (.P (.bin .neq 24 (.k (eI 0)))),P 26 (.pick 22 (.k (.b true)) 25),m 27 26,G 28 27 false (.P (.fa 0 4)),G 29 27 false (.P (.fa 27 28)),G 30 27 false (.L (.ld1 29)),G 31 27 false (.P (.bin .eql 30 (.k (eI (-1))))),P 32 (.pick 27 (.k (.b true)) 31)]
def k49_2 : K:=.reg [m 42 6,P 43 (.un .not 42),m 44 43,G 45 44 false (.P (.mv 5)),G 46 44 false (.P (.fa 30 4)),G 47 44 false (.L (.ld1 46)),G 48 44 false (.P (.bin .neq 45 47)),P 49 (.pick 44 (.k (.b true)) 48)]
def k49_0 : K:=.seq (u [m 7 3,fa 8 103 1,ld 9 8,P 10 (.len 9),P 11 (.bin .lss 7 10)] (.cond 11 .skip
 (.exit 0))) (.seq (.block 1 (u [fa 14 103 1,ld 15 14,m 16 3,P 17 (.ixS 35 15 16),ln 18 35 17,A 4 (.alloc (eRob GRob.zero)),sm 35 4 18] (.seq (.seq (.fin [1,3,4] [1,3,4,32] [2] [] 2 [] k49_1) (.cond 32 (.exit 1)
 .skip)) (u [fa 34 101 1,ln 35 2 34,fa 36 0 4,fa 37 27 36,ld 38 37,E 39 (.callP 90 [1,1] [(.d 35),(.d 38)]),m 33 39,ex 40 33 0,ex 41 33 1,m 5 40,m 6 41] (.seq (.fin [1,3,4,5,6] [1,3,49] [2] [] 2 [] k49_2) (.cond 49 (u [P 2 (.mv (.k (.b false)))]
.ret)
 .skip)))))) (.reg [m 12 3,P 13 (.bin .add 12 (.k (eI 1))),m 3 13]))
def f49 : F:=⟨1,50,u [A 1 (.box (.d 0)),P 2 (.mv (.k (.b false)))] (.seq (u [P 3 (.mv (.k (eI 0)))] (.block 0 (.loop (.fin [1,3] [1,3] [2] [] 1 [] k49_0)))) (u [P 2 (.mv (.k (.b true)))]
.ret)),[.t 2]⟩
def k10_0 : K:=.seq (u [m 12 5,fa 13 103 1,ld 14 13,P 15 (.len 14),P 16 (.bin .lss 12 15)] (.cond 16 .skip
 (.exit 0))) (.seq (.block 1 (.reg [m 19 4,fa 20 103 1,ld 21 20,m 22 5,P 23 (.ixS 35 21 22),fa 24 0 23,ln 25 29 24,E 26 (.bldF 29 1 (eRen GRen.zero) [(0,29,(.d 25))]),E 27 (.appT 29 216 1027 19 26),m 4 27])) (.reg [m 17 5,P 18 (.bin .add 17 (.k (eI 1))),m 5 18]))
def k10_1 : K:=.dreg [a 0 (fa 28 103 1),a 1 (ld 29 28),a 2 (E 30 (.callP 42 [1] [(.d 29)])),a 3 (P 31 (.un .not 30)),a 4 (m 32 31),a 5 (G 33 32 false (.P (.fa 103 1))),a 6 (G 34 32 false (.L (.ld1 33))),a 7 (G 35 32 false (.P (.len 34))),a 8 (G 36 32 false (.P (.bin .gtr 35 (.k (eI 0))))),a 9 (G 37 32 false (.P (.mv 36))),a 10 (G 38 37 true (.P (.fa 103 1))),a 11 (G 39 37 true (.L (.ld1 38))),a 12 (G 40 37 true (.P (.fa 103 1))),a 13 (G 41 37 true (.L (.ld1 40))),a 14 (G 42 37 true (.P (.len 41))),a 15 (G 43 37 true (.P (.bin .sub 42 (.k (eI 1))))),a 16 (G 44 37 true (.P (.ixS 35 39 43))),a 17 (G 45 37 true (.P (.fa 0 44))),a 18 (G 46 37 true (.P (.fa 23 45))),a 19 (G 47 37 true (.L (.ld1 46))),a 20 (G 48 37 true (.P (.fa 65 1))),a 21 (G 49 37 true (.P (.fa 35 48))),a 22 (G 50 37 true (.L (.ld1 49))),a 23 (G 51 37 true (.P (.bin .geq 47 50))),a 24 (G 52 32 false (.P (.pick 37 51 (.k (.b false))))),a 25 (P 53 (.pick 32 (.k (.b true)) 52))]
def k10_2 : K:=.cond 53 (.reg [m 54 3,E 55 (.bldF 1 1 [(eI 0)] [(0,1,(.k (eI 2)))]),E 56 (.appT 1 8 1056 54 55),m 3 56])
 .skip
def k10_3 : K:=.cond 64 (.reg [m 65 3,E 66 (.bldF 1 1 [(eI 0)] [(0,1,(.k (eI 3)))]),E 67 (.appT 1 8 1067 65 66),m 3 67])
 .skip
def k10_4 : K:=.cond 70 (.reg [m 71 3,E 72 (.bldF 1 1 [(eI 0)] [(0,1,(.k (eI 4)))]),E 73 (.appT 1 8 1073 71 72),m 3 73])
 .skip
def k10_5 : K:=.cond 76 (.reg [m 77 3,E 78 (.bldF 1 1 [(eI 0)] [(0,1,(.k (eI 5)))]),E 79 (.appT 1 8 1079 77 78),m 3 79])
 .skip
def k10_6 : K:=.cond 82 (.reg [m 83 3,E 84 (.bldF 1 1 [(eI 0)] [(0,1,(.k (eI 6)))]),E 85 (.appT 1 8 1085 83 84),m 3 85])
 .skip
def k10_7 : K:=.cond 95 (.reg [m 96 3,E 97 (.bldF 1 1 [(eI 0)] [(0,1,(.k (eI 7)))]),E 98 (.appT 1 8 1098 96 97),m 3 98])
 .skip
def k10_8 : K:=.cond 102 (.reg [m 103 3,E 104 (.bldF 1 1 [(eI 0)] [(0,1,(.k (eI 8)))]),E 105 (.appT 1 8 1105 103 104),m 3 105])
 .skip
def f10 : F:=⟨1,113,u [A 1 (.box (.d 0)),E 2 (.acc 1002 1 (.k .sn))] (.seq (u [ln 6 112 1,E 7 (.callP 41 [1] [(.d 6)]),P 8 (.un .not 7)] (.cond 8 (u [E 9 (.bldF 1 1 [(eI 0)] [(0,1,(.k (eI 1)))]),m 2 9]
.ret)
 .skip)) (u [E 10 (.accB 1010 1),m 3 10] (u [E 11 (.accB 1011 29),m 4 11] (.seq (u [P 5 (.mv (.k (eI 0)))] (.block 0 (.loop (.fin [1,3,4,5] [1,3,4,5] [2] [1,3,4] 1 [1002,1010,1011] k10_0)))) (.seq (.seq (.fin [1,3,4] [1,3,4,53] [2] [] 1 [1002,1010,1011] k10_1) (.fin [1,3,4,53] [1,3,4] [2] [] 1 [1002,1010,1011] k10_2)) (.seq (u [fa 57 65 1,ln 58 36 57,fa 59 0 1,fa 60 10 59,ld 61 60,m 62 4,E 63 (.callP 43 [1] [(.d 58),(.d 61),(.d 62)]),P 64 (.un .not 63)] (.fin [1,3,64] [1,3] [2] [] 1 [1002,1010,1011] k10_3)) (.seq (u [ln 68 112 1,E 69 (.callP 44 [1] [(.d 68)]),P 70 (.un .not 69)] (.fin [1,3,70] [1,3] [2] [] 1 [1002,1010,1011] k10_4)) (.seq (u [ln 74 112 1,E 75 (.callP 45 [1] [(.d 74)]),P 76 (.un .not 75)] (.fin [1,3,76] [1,3] [2] [] 1 [1002,1010,1011] k10_5)) (.seq (u [ln 80 112 1,E 81 (.callP 46 [1] [(.d 80)]),P 82 (.un .not 81)] (.fin [1,3,82] [1,3] [2] [] 1 [1002,1010,1011] k10_6)) (.seq (.seq (.dreg [a 0 (fa 86 101 1),a 1 (ln 87 2 86),a 2 (fa 88 65 1),a 3 (fa 89 16 88),a 4 (ln 90 16 89),a 5 (E 91 (.callP 47 [1] [(.d 87),(.d 90)])),a 6 (fa 92 22 1),a 7 (fa 93 1 92),⟨8,ln 94 16 93,1,1⟩,a 9 (P 95 (.eqA ksArr25 true 91 94))]) (.fin [1,3,95] [1,3] [2] [] 1 [1002,1010,1011] k10_7)) (.seq (u [fa 99 22 1,ln 100 30 99,E 101 (.callP 48 [1] [(.d 100)]),P 102 (.un .not 101)] (.fin [1,3,102] [1,3] [2] [] 1 [1002,1010,1011] k10_8)) (.seq (u [ln 106 112 1,E 107 (.callP 49 [1] [(.d 106)]),P 108 (.un .not 107)] (.cond 108 (.reg [m 109 3,E 110 (.bldF 1 1 [(eI 0)] [(0,1,(.k (eI 9)))]),E 111 (.appT 1 8 1111 109 110),m 3 111])
 .skip)) (u [m 112 3,m 2 112]
.ret))))))))))))),[.t 2]⟩
def f50 : F:=⟨1,17,u [P 2 (.mv (.k (.b false)))] (u [m 3 0,P 4 (.len 3),P 5 (.bin .rem 4 (.k (eI 64))),P 6 (.bin .eql 5 (.k (eI 0))),m 7 6,G 8 7 true (.P (.mv 0)),G 9 7 true (.P (.len 8)),G 10 7 true (.P (.bin .geq 9 (.k (eI 64)))),P 11 (.pick 7 10 (.k (.b false))),m 12 11,G 13 12 true (.P (.mv 0)),G 14 12 true (.P (.len 13)),G 15 12 true (.P (.bin .leq 14 (.k (eI 16384)))),P 16 (.pick 12 15 (.k (.b false))),m 2 16]
.ret),[.t 2]⟩
def k176_1 : K:=.seq (u [m 20 8,m 21 5,P 22 (.len 21),P 23 (.bin .lss 20 22)] (.cond 23 .skip
 (.exit 2))) (.seq (.block 3 (u [m 26 5,m 27 8,P 28 (.ixS 19 26 27),fa 29 18 28,ld 30 29,m 31 6,P 32 (.bin .eql 30 31)] (.cond 32 (.reg [m 33 7,P 34 (.bin .add 33 (.k (eI 1))),m 7 34])
 .skip))) (.reg [m 24 8,P 25 (.bin .add 24 (.k (eI 1))),m 8 25]))
def k176_0 : K:=.seq (u [m 14 6,m 15 5,P 16 (.len 15),P 17 (.bin .lss 14 16)] (.cond 17 .skip
 (.exit 0))) (.seq (.block 1 (u [P 7 (.mv (.k (eI 0)))] (.seq (u [P 8 (.mv (.k (eI 0)))] (.block 2 (.loop (.fin [5,6,7,8] [5,6,7,8] [4] [5,6,7] 1 [] k176_1)))) (u [m 35 7,P 36 (.bin .neq 35 (.k (eI 1)))] (.cond 36 (u [P 4 (.mv (.k (.b false)))]
.ret)
 .skip))))) (.reg [m 18 6,P 19 (.bin .add 18 (.k (eI 1))),m 6 19]))
def f176 : F:=⟨2,37,u [A 2 (.box (.d 0)),P 4 (.mv (.k (.b false)))] (u [fa 9 0 2,ld 10 9,m 11 1,P 12 (.ixS 1 10 11),ld 13 12,m 5 13] (.seq (u [P 6 (.mv (.k (eI 0)))] (.block 0 (.loop (.fin [5,6] [5,6] [4] [] 1 [] k176_0)))) (u [P 4 (.mv (.k (.b true)))]
.ret))),[.t 4]⟩
def f267 : F:=⟨2,15,u [A 2 (.box (.d 0)),P 4 (.mv (.k (eI 0)))] (.seq (u [fa 5 0 2,ld 6 5,P 7 (.len 6),P 8 (.bin .eql 7 (.k (eI 0)))] (.cond 8 (u [P 4 (.mv (.k (eI (-1))))]
.ret)
 .skip)) (u [m 9 1,P 10 (.cvt .i64 9),fa 11 0 2,ld 12 11,P 13 (.len 12),P 14 (.bin .rem 10 13),m 4 14]
.ret)),[.t 4]⟩
def k177_1 : K:=.reg [m 19 5,m 20 6,P 21 (.ixS 19 19 20),fa 22 0 21,ld 23 22,P 24 (.bin .lss 23 (.k (eI 0))),m 25 24,G 26 25 false (.P (.mv 5)),G 27 25 false (.P (.mv 6)),G 28 25 false (.P (.ixS 19 26 27)),G 29 25 false (.P (.fa 0 28)),G 30 25 false (.L (.ld1 29)),G 31 25 false (.P (.bin .gtr 30 (.k (eI 3)))),P 32 (.pick 25 (.k (.b true)) 31)]
def k177_2 : K:=.dreg [a 0 (m 33 5),a 1 (m 34 6),a 2 (P 35 (.ixS 19 33 34)),a 3 (fa 36 0 35),a 4 (ld 37 36),a 5 (P 38 (.bin .eql 37 (.k (eI 0)))),a 6 (m 39 38),a 7 (G 40 39 true (.P (.mv 5))),a 8 (G 41 39 true (.P (.mv 6))),a 9 (G 42 39 true (.P (.ixS 19 40 41))),a 10 (G 43 39 true (.P (.fa 1 42))),a 11 (G 44 39 true (.L (.ld1 43))),a 12 (G 45 39 true (.P (.bin .neq 44 (.k (eU32 0))))),a 13 (G 46 39 true (.P (.mv 45))),a 14 (G 47 46 false (.P (.mv 5))),a 15 (G 48 46 false (.P (.mv 6))),a 16 (G 49 46 false (.P (.ixS 19 47 48))),a 17 (G 50 46 false (.P (.fa 2 49))),a 18 (G 51 46 false (.L (.ldn 16 50))),a 19 (G 52 46 false (.P (.build ((eAr cU8) (Arr.rep 16 0)) []))),a 20 (G 53 46 false (.P (.eqA ksArr178 true 51 52))),a 21 (G 54 39 true (.P (.pick 46 (.k (.b true)) 53))),a 22 (P 55 (.pick 39 54 (.k (.b false)))),a 23 (m 56 55),a 24 (G 57 56 false (.P (.mv 5))),a 25 (G 58 56 false (.P (.mv 6))),a 26 (G 59 56 false (.P (.ixS 19 57 58))),a 27 (G 60 56 false (.P (.fa 0 59))),a 28 (G 61 56 false (.L (.ld1 60))),a 29 (G 62 56 false (.P (.bin .neq 61 (.k (eI 0))))),a 30 (G 63 56 false (.P (.mv 62))),a 31 (G 64 63 true (.L (.ldn 1 2))),a 32 (G 65 63 true (.P (.mv 5))),a 33 (G 66 63 true (.P (.mv 6))),a 34 (G 67 63 true (.P (.ixS 19 65 66))),a 35 (G 68 63 true (.P (.fa 1 67))),a 36 (G 69 63 true (.L (.ld1 68))),a 37 (G 70 63 true (.E (.callP 267 [1] [(.d 64),(.d 69)]))),a 38 (G 71 63 true (.P (.mv 1))),a 39 (G 72 63 true (.P (.bin .neq 70 71))),a 40 (G 73 56 false (.P (.pick 63 72 (.k (.b false))))),a 41 (P 74 (.pick 56 (.k (.b true)) 73))]
def k177_4 : K:=.dreg [a 0 (m 80 5),a 1 (m 81 6),a 2 (P 82 (.ixS 19 80 81)),a 3 (fa 83 0 82),a 4 (ld 84 83),a 5 (P 85 (.bin .neq 84 (.k (eI 0)))),a 6 (m 86 85),a 7 (G 87 86 true (.P (.mv 5))),a 8 (G 88 86 true (.P (.mv 7))),a 9 (G 89 86 true (.P (.ixS 19 87 88))),a 10 (G 90 86 true (.P (.fa 0 89))),a 11 (G 91 86 true (.L (.ld1 90))),a 12 (G 92 86 true (.P (.bin .neq 91 (.k (eI 0))))),a 13 (P 93 (.pick 86 92 (.k (.b false)))),a 14 (m 94 93),a 15 (G 95 94 true (.P (.mv 5))),a 16 (G 96 94 true (.P (.mv 6))),a 17 (G 97 94 true (.P (.ixS 19 95 96))),a 18 (G 98 94 true (.P (.fa 1 97))),a 19 (G 99 94 true (.L (.ld1 98))),a 20 (G 100 94 true (.P (.mv 5))),a 21 (G 101 94 true (.P (.mv 7))),a 22 (G 102 94 true (.P (.ixS 19 100 101))),a 23 (G 103 94 true (.P (.fa 1 102))),a 24 (G 104 94 true (.L (.ld1 103))),a 25 (G 105 94 true (.P (.bin .eql 99 104))),a 26 (P 106 (.pick 94 105 (.k (.b false))))]
def k177_3 : K:=.seq (u [m 75 7,m 76 6,P 77 (.bin .lss 75 76)] (.cond 77 .skip
 (.exit 2))) (.seq (.block 3 (.seq (.fin [1,2,5,6,7] [1,2,5,6,7,106] [4] [] 1 [] k177_4) (.cond 106 (u [P 4 (.mv (.k (.b false)))]
.ret)
 .skip))) (.reg [m 78 7,P 79 (.bin .add 78 (.k (eI 1))),m 7 79]))
def k177_0 : K:=.seq (u [m 13 6,m 14 5,P 15 (.len 14),P 16 (.bin .lss 13 15)] (.cond 16 .skip
 (.exit 0))) (.seq (.block 1 (.seq (.seq (.fin [1,2,5,6] [1,2,5,6,32] [4] [] 1 [] k177_1) (.cond 32 (u [P 4 (.mv (.k (.b false)))]
.ret)
 .skip)) (.seq (.seq (.fin [1,2,5,6] [1,2,5,6,74] [4] [] 1 [] k177_2) (.cond 74 (u [P 4 (.mv (.k (.b false)))]
.ret)
 .skip)) (u [P 7 (.mv (.k (eI 0)))] (.block 2 (.loop (.fin [1,2,5,6,7] [1,2,5,6,7] [4] [1,2,5,6] 1 [] k177_3))))))) (.reg [m 17 6,P 18 (.bin .add 17 (.k (eI 1))),m 6 18]))
def f177 : F:=⟨2,107,u [A 2 (.box (.d 0)),P 4 (.mv (.k (.b false)))] (u [fa 8 0 2,ld 9 8,m 10 1,P 11 (.ixS 1 9 10),ld 12 11,m 5 12] (.seq (u [P 6 (.mv (.k (eI 0)))] (.block 0 (.loop (.fin [1,2,5,6] [1,2,5,6] [4] [] 1 [] k177_0)))) (u [P 4 (.mv (.k (.b true)))]
.ret))),[.t 4]⟩
def k92_0 : K:=.reg [fa 5 0 1,ld 6 5,P 7 (.len 6),P 8 (.bin .lss 7 (.k (eI 1))),m 9 8,G 10 9 false (.P (.fa 0 1)),G 11 9 false (.L (.ld1 10)),G 12 9 false (.P (.len 11)),G 13 9 false (.P (.bin .gtr 12 (.k (eI 8)))),P 14 (.pick 9 (.k (.b true)) 13)]
def k92_2 : K:=.reg [m 28 4,P 29 (.bin .lss 28 (.k (eI 1))),m 30 29,G 31 30 false (.P (.mv 4)),G 32 30 false (.P (.bin .gtr 31 (.k (eI 4)))),P 33 (.pick 30 (.k (.b true)) 32),m 34 33,G 35 34 false (.P (.mv 4)),G 36 34 false (.P (.fa 0 1)),G 37 34 false (.L (.ld1 36)),G 38 34 false (.P (.ixS 1 37 (.k (eI 0)))),G 39 34 false (.L (.ld1 38)),G 40 34 false (.P (.len 39)),G 41 34 false (.P (.bin .neq 35 40)),P 42 (.pick 34 (.k (.b true)) 41),m 43 42,G 44 43 false (.L (.ldn 1 1)),G 45 43 false (.P (.mv 3)),G 46 43 false (.E (.callP 176 [1] [(.d 44),(.d 45)])),G 47 43 false (.P (.un .not 46)),P 48 (.pick 43 (.k (.b true)) 47),m 49 48,G 50 49 false (.L (.ldn 1 1)),G 51 49 false (.P (.mv 3)),G 52 49 false (.E (.callP 177 [1] [(.d 50),(.d 51)])),G 53 49 false (.P (.un .not 52)),P 54 (.pick 49 (.k (.b true)) 53)]
def k92_1 : K:=.seq (u [m 15 3,fa 16 0 1,ld 17 16,P 18 (.len 17),P 19 (.bin .lss 15 18)] (.cond 19 .skip
 (.exit 0))) (.seq (.block 1 (u [fa 22 0 1,ld 23 22,m 24 3,P 25 (.ixS 1 23 24),ld 26 25,P 27 (.len 26),m 4 27] (.seq (.fin [1,3,4] [1,3,54] [2] [] 1 [] k92_2) (.cond 54 (u [P 2 (.mv (.k (.b false)))]
.ret)
 .skip)))) (.reg [m 20 3,P 21 (.bin .add 20 (.k (eI 1))),m 3 21]))
def f92 : F:=⟨1,55,u [A 1 (.box (.d 0)),P 2 (.mv (.k (.b false)))] (.seq (.seq (.fin [1] [1,14] [2] [] 1 [] k92_0) (.cond 14 (u [P 2 (.mv (.k (.b false)))]
.ret)
 .skip)) (.seq (u [P 3 (.mv (.k (eI 0)))] (.block 0 (.loop (.fin [1,3] [1,3] [2] [] 1 [] k92_1)))) (u [P 2 (.mv (.k (.b true)))]
.ret))),[.t 2]⟩
def f93 : F:=⟨2,14,u [A 2 (.box (.d 0)),P 4 (.mv (.k (.b false)))] (u [m 5 1,P 6 (.cvt .u64 5),P 7 (.bin .mul 6 (.k (eU64 16))),P 8 (.bin .add 7 (.k (eU64 16))),fa 9 0 2,ld 10 9,P 11 (.len 10),P 12 (.cvt .u64 11),P 13 (.bin .leq 8 12),m 4 13]
.ret),[.t 4]⟩
def k94_0 : K:=.seq (u [m 8 6,P 9 (.bin .lss 8 (.k (eI 16)))] (.cond 9 .skip
 (.exit 0))) (.seq (.block 1 (.reg [m 12 6,fa 13 0 2,ld 14 13,m 15 1,P 16 (.cvt .i64 15),P 17 (.bin .mul 16 (.k (eI 16))),m 18 6,P 19 (.bin .add 17 18),P 20 (.ixS 1 14 19),ld 21 20,P 22 (.ixA 16 1 5 12),st 22 21])) (.reg [m 10 6,P 11 (.bin .add 10 (.k (eI 1))),m 6 11]))
def f94 : F:=⟨2,24,u [A 2 (.box (.d 0)),A 4 (.alloc ((eAr cU8) (Arr.rep 16 0)))] (u [P 7 (.build ((eAr cU8) (Arr.rep 16 0)) []),A 5 (.alloc ((eAr cU8) (Arr.rep 16 0))),sm 16 5 7] (.seq (u [P 6 (.mv (.k (eI 0)))] (.block 0 (.loop (.fin [1,2,4,5,6] [1,2,4,5,6] [4] [4,5] 3 [] k94_0)))) (u [ln 23 16 5,sm 16 4 23]
.ret))),[.cn 4 16]⟩
def f178 : F:=⟨2,14,u [A 2 (.box (.d 0)),P 4 (.mv (.k (.b false)))] (u [m 5 1,P 6 (.bin .geq 5 (.k (eI 0))),m 7 6,G 8 7 true (.P (.mv 1)),G 9 7 true (.P (.fa 1 2)),G 10 7 true (.L (.ld1 9)),G 11 7 true (.P (.len 10)),G 12 7 true (.P (.bin .lss 8 11)),P 13 (.pick 7 12 (.k (.b false))),m 4 13]
.ret),[.t 4]⟩
def k268_1 : K:=.reg [fa 24 0 2,ld 25 24,m 26 7,P 27 (.ixS 1 25 26),ld 28 27,m 29 8,P 30 (.ixS 19 28 29),fa 31 1 30,ld 32 31,m 33 1,P 34 (.bin .eql 32 33),m 35 34,G 36 35 true (.P (.fa 0 2)),G 37 35 true (.L (.ld1 36)),G 38 35 true (.P (.mv 7)),G 39 35 true (.P (.ixS 1 37 38)),G 40 35 true (.L (.ld1 39)),G 41 35 true (.P (.mv 8)),G 42 35 true (.P (.ixS 19 40 41)),G 43 35 true (.P (.fa 0 42)),G 44 35 true (.L (.ld1 43)),G 45 35 true (.P (.bin .neq 44 (.k (eI 0)))),P 46 (.pick 35 45 (.k (.b false)))]
def k268_0 : K:=.seq (u [m 14 8,fa 15 0 2,ld 16 15,m 17 7,P 18 (.ixS 1 16 17),ld 19 18,P 20 (.len 19),P 21 (.bin .lss 14 20)] (.cond 21 .skip
 (.exit 0))) (.seq (.block 1 (.seq (.fin [1,2,7,8] [1,2,7,8,46] [4,5,6] [] 1 [] k268_1) (.cond 46 (u [m 47 7,m 48 8,m 4 47,m 5 48,P 6 (.mv (.k (.b true)))]
.ret)
 .skip))) (.reg [m 22 8,P 23 (.bin .add 22 (.k (eI 1))),m 8 23]))
def f268 : F:=⟨2,49,u [A 2 (.box (.d 0)),P 4 (.mv (.k (eI 0))),P 5 (.mv (.k (eI 0))),P 6 (.mv (.k (.b false)))] (u [ln 9 1 2,m 10 1,E 11 (.callP 267 [1] [(.d 9),(.d 10)]),m 7 11] (.seq (u [m 12 7,P 13 (.bin .lss 12 (.k (eI 0)))] (.cond 13 (u [P 4 (.mv (.k (eI 0))),P 5 (.mv (.k (eI 0))),P 6 (.mv (.k (.b false)))]
.ret)
 .skip)) (.seq (u [P 8 (.mv (.k (eI 0)))] (.block 0 (.loop (.fin [1,2,7,8] [1,2,7,8] [4,5,6] [] 1 [] k268_0)))) (u [P 4 (.mv (.k (eI 0))),P 5 (.mv (.k (eI 0))),P 6 (.mv (.k (.b false)))]
.ret)))),[.t 4,.t 5,.t 6]⟩
def f179 : F:=⟨2,26,u [A 2 (.box (.d 0)),A 4 (.alloc (eWay GWay.zero))] (u [ln 9 1 2,m 10 1,E 11 (.callP 268 [1,1,1] [(.d 9),(.d 10)]),m 8 11,ex 12 8 0,ex 13 8 1,ex 14 8 2,m 5 12,m 6 13,m 7 14] (.seq (u [m 15 7,P 16 (.un .not 15)] (.cond 16 (u [P 17 (.build (eWay GWay.zero) []),sm 19 4 17]
.ret)
 .skip)) (u [fa 18 0 2,ld 19 18,m 20 5,P 21 (.ixS 1 19 20),ld 22 21,m 23 6,P 24 (.ixS 19 22 23),ln 25 19 24,sm 19 4 25]
.ret))),[.cn 4 19]⟩
def f95 : F:=⟨3,19,u [A 3 (.box (.d 0)),P 6 (.mv (.k (eI 0)))] (.seq (u [ln 7 2 3,m 8 1,E 9 (.callP 178 [1] [(.d 7),(.d 8)]),P 10 (.un .not 9)] (.cond 10 (u [P 6 (.mv (.k (eI 0)))]
.ret)
 .skip)) (u [fa 11 1 3,ld 12 11,m 13 1,P 14 (.ixS 1 12 13),ln 15 1 14,m 16 2,E 17 (.callP 179 [1] [(.d 15),(.d 16)]),P 18 (.fld1 0 17),m 6 18]
.ret)),[.t 6]⟩
def k96_1 : K:=.reg [m 12 0,m 13 5,P 14 (.ixS 1 12 13),ld 15 14,P 16 (.bin .lss 15 (.k (eI 0))),m 17 16,G 18 17 false (.P (.mv 0)),G 19 17 false (.P (.mv 5)),G 20 17 false (.P (.ixS 1 18 19)),G 21 17 false (.L (.ld1 20)),G 22 17 false (.P (.bin .gtr 21 (.k (eI 3)))),P 23 (.pick 17 (.k (.b true)) 22)]
def k96_2 : K:=.cond 28 (.reg [m 29 3,P 30 (.bin .add 29 (.k (eI 1))),m 3 30])
 .skip
def k96_0 : K:=.seq (u [m 6 5,m 7 0,P 8 (.len 7),P 9 (.bin .lss 6 8)] (.cond 9 .skip
 (.exit 0))) (.seq (.block 1 (.seq (.seq (.fin [0,3,4,5] [0,3,4,5,23] [2] [] 0 [] k96_1) (.cond 23 (u [P 2 (.mv (.k (.b false)))]
.ret)
 .skip)) (.seq (u [m 24 0,m 25 5,P 26 (.ixS 1 24 25),ld 27 26,P 28 (.bin .gtr 27 (.k (eI 0)))] (.fin [0,3,4,5,28] [0,3,4,5] [2] [] 0 [] k96_2)) (u [m 31 0,m 32 5,P 33 (.ixS 1 31 32),ld 34 33,P 35 (.bin .gtr 34 (.k (eI 1)))] (.cond 35 (.reg [P 4 (.mv (.k (.b true)))])
 .skip))))) (.reg [m 10 5,P 11 (.bin .add 10 (.k (eI 1))),m 5 11]))
def f96 : F:=⟨1,42,u [P 2 (.mv (.k (.b false)))] (u [P 3 (.mv (.k (eI 0))),P 4 (.mv (.k (.b false)))] (.seq (u [P 5 (.mv (.k (eI 0)))] (.block 0 (.loop (.fin [0,3,4,5] [0,3,4,5] [2] [3,4] 0 [] k96_0)))) (u [m 36 4,P 37 (.un .not 36),m 38 37,G 39 38 false (.P (.mv 3)),G 40 38 false (.P (.bin .eql 39 (.k (eI 1)))),P 41 (.pick 38 (.k (.b true)) 40),m 2 41]
.ret))),[.t 2]⟩
def k51_3 : K:=.dreg [a 0 (ln 63 2 1),a 1 (fa 64 1 6),a 2 (ld 65 64),a 3 (E 66 (.callP 93 [1] [(.d 63),(.d 65)])),a 4 (P 67 (.un .not 66)),a 5 (m 68 67),a 6 (G 69 68 false (.P (.fa 0 6))),a 7 (G 70 68 false (.L (.ld1 69))),a 8 (G 71 68 false (.P (.bin .neq 70 (.k (eI 3))))),a 9 (G 72 68 false (.P (.mv 71))),a 12 (G 75 72 true (.L (.ldn 2 1))),a 13 (G 76 72 true (.P (.fa 1 6))),a 14 (G 77 72 true (.L (.ld1 76))),a 15 (G 78 72 true (.E (.callP 94 [1] [(.d 75),(.d 77)]))),a 10 (G 73 72 true (.P (.fa 2 6))),⟨11,G 74 72 true (.L (.ldn 16 73)),1,1⟩,a 16 (G 79 72 true (.P (.eqA ksArr178 true 74 78))),a 17 (G 80 68 false (.P (.pick 72 79 (.k (.b false))))),a 18 (P 81 (.pick 68 (.k (.b true)) 80))]
def k51_4 : K:=.seq (u [m 83 8,fa 84 1 1,ld 85 84,P 86 (.len 85),P 87 (.bin .lss 83 86)] (.cond 87 .skip
 (.exit 6))) (.seq (.block 7 (.reg [m 90 7,ln 91 2 1,m 92 8,fa 93 1 6,ld 94 93,E 95 (.callP 95 [1] [(.d 91),(.d 92),(.d 94)]),E 96 (.bldF 1 1 [(eI 0)] [(0,1,(.d 95))]),E 97 (.appT 1 8 5197 90 96),m 7 97])) (.reg [m 88 8,P 89 (.bin .add 88 (.k (eI 1))),m 8 89]))
def k51_2 : K:=.seq (u [m 34 5,fa 35 1 1,ld 36 35,m 37 3,P 38 (.ixS 1 36 37),fa 39 0 38,ld 40 39,m 41 4,P 42 (.ixS 1 40 41),ld 43 42,P 44 (.len 43),P 45 (.bin .lss 34 44)] (.cond 45 .skip
 (.exit 4))) (.seq (.block 5 (u [fa 48 1 1,ld 49 48,m 50 3,P 51 (.ixS 1 49 50),fa 52 0 51,ld 53 52,m 54 4,P 55 (.ixS 1 53 54),ld 56 55,m 57 5,P 58 (.ixS 19 56 57),ln 59 19 58,A 6 (.alloc (eWay GWay.zero)),sm 19 6 59] (.seq (u [fa 60 0 6,ld 61 60,P 62 (.bin .eql 61 (.k (eI 0)))] (.cond 62 (.exit 5)
 .skip)) (.seq (.seq (.fin [1,3,4,5,6] [1,3,4,5,6,81] [2] [] 2 [] k51_3) (.cond 81 (u [P 2 (.mv (.k (.b false)))]
.ret)
 .skip)) (u [E 82 (.accB 5182 1),m 7 82] (.seq (u [P 8 (.mv (.k (eI 0)))] (.block 6 (.loop (.fin [1,3,4,5,6,7,8] [1,3,4,5,6,7,8] [2] [1,3,4,5,7] 2 [5182] k51_4)))) (u [m 98 7,E 99 (.callP 96 [1] [(.d 98)]),P 100 (.un .not 99)] (.cond 100 (u [P 2 (.mv (.k (.b false)))]
.ret)
 .skip)))))))) (.reg [m 46 5,P 47 (.bin .add 46 (.k (eI 1))),m 5 47]))
def k51_1 : K:=.seq (u [m 23 4,fa 24 1 1,ld 25 24,m 26 3,P 27 (.ixS 1 25 26),fa 28 0 27,ld 29 28,P 30 (.len 29),P 31 (.bin .lss 23 30)] (.cond 31 .skip
 (.exit 2))) (.seq (.block 3 (u [P 5 (.mv (.k (eI 0)))] (.block 4 (.loop (.fin [1,3,4,5] [1,3,4,5] [2] [1,3,4] 1 [] k51_2))))) (.reg [m 32 4,P 33 (.bin .add 32 (.k (eI 1))),m 4 33]))
def k51_0 : K:=.seq (u [m 9 3,fa 10 1 1,ld 11 10,P 12 (.len 11),P 13 (.bin .lss 9 12)] (.cond 13 .skip
 (.exit 0))) (.seq (.block 1 (.seq (u [fa 16 1 1,ld 17 16,m 18 3,P 19 (.ixS 1 17 18),ln 20 1 19,E 21 (.callP 92 [1] [(.d 20)]),P 22 (.un .not 21)] (.cond 22 (u [P 2 (.mv (.k (.b false)))]
.ret)
 .skip)) (u [P 4 (.mv (.k (eI 0)))] (.block 2 (.loop (.fin [1,3,4] [1,3,4] [2] [1,3] 1 [] k51_1)))))) (.reg [m 14 3,P 15 (.bin .add 14 (.k (eI 1))),m 3 15]))
def f51 : F:=⟨1,101,u [A 1 (.box (.d 0)),P 2 (.mv (.k (.b false)))] (.seq (u [P 3 (.mv (.k (eI 0)))] (.block 0 (.loop (.fin [1,3] [1,3] [2] [] 1 [] k51_0)))) (u [P 2 (.mv (.k (.b true)))]
.ret)),[.t 2]⟩
def f11 : F:=⟨1,22,u [A 1 (.box (.d 0)),P 2 (.mv (.k (.b false)))] (u [fa 3 0 1,ld 4 3,E 5 (.callP 50 [1] [(.d 4)]),m 6 5,G 7 6 true (.P (.fa 1 1)),G 8 6 true (.L (.ld1 7)),G 9 6 true (.P (.len 8)),G 10 6 true (.P (.bin .geq 9 (.k (eI 1)))),P 11 (.pick 6 10 (.k (.b false))),m 12 11,G 13 12 true (.P (.fa 1 1)),G 14 12 true (.L (.ld1 13)),G 15 12 true (.P (.len 14)),G 16 12 true (.P (.bin .leq 15 (.k (eI 2)))),P 17 (.pick 12 16 (.k (.b false))),m 18 17,G 19 18 true (.L (.ldn 2 1)),G 20 18 true (.E (.callP 51 [1] [(.d 19)])),P 21 (.pick 18 20 (.k (.b false))),m 2 21]
.ret),[.t 2]⟩
def k4_0 : K:=.reg [ln 7 112 3,E 8 (.callP 9 [1] [(.d 7)]),P 9 (.un .not 8),m 10 9,G 11 10 false (.P (.fa 0 4)),G 12 10 false (.L (.ld1 11)),G 13 10 false (.P (.len 12)),G 14 10 false (.P (.bin .gtr 13 (.k (eI 2048)))),P 15 (.pick 10 (.k (.b true)) 14),m 16 15,G 17 16 false (.P (.fa 0 4)),G 18 16 false (.L (.ld1 17)),G 19 16 false (.P (.len 18)),G 20 16 false (.P (.fa 52 3)),G 21 16 false (.L (.ld1 20)),G 22 16 false (.P (.len 21)),G 23 16 false (.P (.bin .neq 19 22)),P 24 (.pick 16 (.k (.b true)) 23),m 25 24,G 26 25 false (.P (.mv 2)),G 27 25 false (.P (.bin .lss 26 (.k (eI 0)))),P 28 (.pick 25 (.k (.b true)) 27),m 29 28,G 30 29 false (.P (.mv 2)),G 31 29 false (.P (.fa 1 4)),G 32 29 false (.L (.ld1 31)),G 33 29 false (.P (.len 32)),G 34 29 false (.P (.bin .geq 30 33)),P 35 (.pick 29 (.k (.b true)) 34),m 36 35,G 37 36 false (.P (.fa 1 4)),G 38 36 false (.L (.ld1 37)),G 39 36 false (.P (.len 38)),G 40 36 false (.P (.bin .gtr 39 (.k (eI 2)))),P 41 (.pick 36 (.k (.b true)) 40)]
def f4 : F:=⟨3,50,u [A 3 (.box (.d 0)),A 4 (.box (.d 1)),P 6 (.mv (.k (.b false)))] (.seq (.seq (.fin [2,3,4] [3,4,41] [6] [] 2 [] k4_0) (.cond 41 (u [P 6 (.mv (.k (.b false)))]
.ret)
 .skip)) (u [ln 42 112 3,E 43 (.callP 10 [1] [(.d 42)]),P 44 (.len 43),P 45 (.bin .eql 44 (.k (eI 0))),m 46 45,G 47 46 true (.L (.ldn 2 4)),G 48 46 true (.E (.callP 11 [1] [(.d 47)])),P 49 (.pick 46 48 (.k (.b false))),m 6 49]
.ret)),[.t 6]⟩
def f17 : F:=⟨2,14,u [A 2 (.box (.d 0)),A 4 (.alloc (eArch GArch.zero))] (u [fa 5 17 2,P 6 (.ixA 12 1 5 (.k (eI 10))),ld 7 6,m 8 1,P 9 (.bin .and 8 (.k (eU32 7))),P 10 (.bin .or 7 9),fa 11 17 2,P 12 (.ixA 12 1 11 (.k (eI 10))),st 12 10] (u [ln 13 30 2,sm 30 4 13]
.ret)),[.cn 4 30]⟩
def f18 : F:=⟨4,61,u [A 4 (.box (.d 0)),A 5 (.box (.d 1)),A 7 (.box (.d 3)),A 8 (.alloc (eCore GCore.zero)),A 9 (.alloc (eCoh GCoh.zero)),E 10 (.acc 1810 12 (.k .sn)),P 11 (.mv (.k (eU32 0))),E 12 (.acc 1812 4 (.k .sn))] (.seq (u [fa 14 1 7,ld 15 14,P 16 (.bin .and 15 (.k (eU32 16))),P 17 (.bin .neq 16 (.k (eU32 0)))] (.cond 17 (.seq (.dreg [a 0 (ln 18 112 4),a 2 (sm 112 8 18),⟨1,ln 19 2 5,1,1⟩,a 3 (sm 2 9 19),a 4 (E 10 (.acc 1810 12 (.k .sn))),a 5 (P 11 (.mv (.k (eU32 0)))),a 6 (E 12 (.acc 1812 4 (.k .sn)))])
.ret)
 .skip)) (u [ln 20 112 4,ln 21 2 5,m 22 2,P 23 (.build (eRetire_stage GRetire_stage.zero) [(0,112,(.d 20)),(112,2,(.d 21)),(114,1,(.d 22))]),A 24 (.box (.d 23)),m 13 24] (.seq (.block 0 (.loop (.seq (.seq (.dreg [a 0 (m 25 13),a 1 (P 26 (.nilck 25)),a 2 (fa 27 115 26),a 3 (ld 28 27),a 4 (fa 29 0 4),a 5 (fa 30 3 29),a 6 (ld 31 30),a 7 (P 32 (.mx [31,(.k (eI 0))])),a 8 (P 33 (.mn [32,(.k (eI 4))])),a 9 (P 34 (.bin .lss 28 33)),a 10 (m 35 34),a 11 (G 36 35 true (.P (.mv 13))),a 12 (G 37 35 true (.E (.callM 61 [1] [(.d 36)]))),a 13 (P 38 (.pick 35 37 (.k (.b false))))]) (.cond 38 .skip
 (.exit 0))) (.block 1 .skip)))) (.seq (.dreg [a 12 (m 51 2),a 13 (m 52 13),a 14 (P 53 (.nilck 52)),a 15 (fa 54 116 53),a 16 (ld 55 54),a 17 (E 56 (.callP 62 [1] [(.d 51),(.d 55)])),a 0 (m 39 13),a 1 (P 40 (.nilck 39)),a 2 (fa 41 0 40),⟨3,ln 42 112 41,1,1⟩,a 22 (sm 112 8 42),a 4 (m 43 13),a 5 (P 44 (.nilck 43)),a 6 (fa 45 112 44),⟨7,ln 46 2 45,1,2⟩,a 23 (sm 2 9 46),a 8 (m 47 13),a 9 (P 48 (.nilck 47)),a 10 (fa 49 116 48),⟨11,ld 50 49,1,3⟩,a 18 (m 57 13),a 19 (P 58 (.nilck 57)),a 20 (fa 59 117 58),⟨21,ld 60 59,1,3⟩,a 24 (m 10 50),a 25 (m 11 56),a 26 (m 12 60)])
.ret)))),[.cn 8 112,.cn 9 2,.t 10,.t 11,.t 12]⟩
def f19 : F:=⟨2,43,u [A 2 (.box (.d 0)),A 3 (.box (.d 1)),A 4 (.alloc (eCore GCore.zero)),E 5 (.acc 1905 4 (.k .sn))] (.seq (u [fa 11 1 3,ld 12 11,P 13 (.bin .and 12 (.k (eU32 8))),P 14 (.bin .neq 13 (.k (eU32 0)))] (.cond 14 (u [ln 15 112 2,sm 112 4 15,E 5 (.acc 1905 4 (.k .sn))]
.ret)
 .skip)) (u [E 6 (.acc 1906 4 (.k .sn))] (.seq (u [fa 16 108 2,ld 17 16,E 18 (.callP 63 [35] [(.d 17)]),P 19 (.len 18),P 20 (.mv (.k (eI 0)))] (.block 0 (.loop (u [P 21 (.bin .lss 20 19)] (.seq (.cond 21 .skip
 (.exit 0)) (.seq (.block 1 (u [P 22 (.ixS 35 18 20),ln 23 35 22,A 8 (.alloc (eFlight GFlight.zero)),sm 35 8 23] (u [fa 24 108 2,ld 25 24,fa 26 0 8,fa 27 23 26,ld 28 27,E 29 (.callP 64 [1] [(.d 25),(.d 28)])] (.cond 29 (u [ln 31 112 2,ln 32 35 8,E 33 (.callP 65 [1,4] [(.d 31),(.d 32)]),m 30 33,ex 34 30 0,ex 35 30 1,A 9 (.alloc (eCore GCore.zero)),sm 112 9 34,m 10 35] (u [ln 36 112 9,sm 112 2 36] (.reg [m 37 6,m 38 10,E 39 (.appT 4 32 1939 37 38),m 6 39])))
 .skip)))) (.reg [P 40 (.bin .add 20 (.k (eI 1))),m 20 40]))))))) (u [ln 41 112 2,m 42 6,sm 112 4 41,m 5 42]
.ret)))),[.cn 4 112,.t 5]⟩
def f20 : F:=⟨4,109,u [A 4 (.box (.d 0)),A 5 (.box (.d 1)),A 7 (.box (.d 3)),A 8 (.alloc (eCore GCore.zero)),A 9 (.alloc (eCoh GCoh.zero)),E 10 (.acc 2010 4 (.k .sn))] (.seq (u [fa 24 1 7,ld 25 24,P 26 (.bin .and 25 (.k (eU32 4))),P 27 (.bin .neq 26 (.k (eU32 0)))] (.cond 27 (.seq (.dreg [a 0 (ln 28 112 4),a 2 (sm 112 8 28),⟨1,ln 29 2 5,1,1⟩,a 3 (sm 2 9 29),a 4 (E 10 (.acc 2010 4 (.k .sn)))])
.ret)
 .skip)) (u [E 11 (.acc 2011 4 (.k .sn))] (u [fa 30 104 4,ld 31 30,m 12 31] (.seq (.seq (.dreg [a 0 (m 32 12),a 1 (E 33 (.callP 67 [1] [(.d 32)])),a 2 (fa 34 2 7),⟨3,ld 35 34,1,1⟩,a 4 (E 36 (.callP 66 [1] [(.d 33),(.d 35)])),a 5 (P 37 (.len 36)),a 6 (P 38 (.mv (.k (eI 0))))]) (.block 0 (.loop (u [P 39 (.bin .lss 38 37)] (.seq (.cond 39 .skip
 (.exit 0)) (.seq (.block 1 (u [P 40 (.ixS 1 36 38),ld 41 40,m 14 41] (.seq (u [m 42 11,P 43 (.len 42),fa 44 0 4,fa 45 2 44,ld 46 45,P 47 (.bin .geq 43 46)] (.cond 47 (.exit 0)
 .skip)) (u [m 48 12,m 49 14,P 50 (.ixS 32 48 49),fa 51 0 50,ln 52 29 51,A 15 (.alloc (eRen GRen.zero)),sm 29 15 52] (.seq (u [ln 53 112 4,ln 54 29 15,E 55 (.callP 68 [1] [(.d 53),(.d 54)]),P 56 (.un .not 55)] (.cond 56 (.exit 1)
 .skip)) (u [ln 58 112 4,ln 59 2 5,m 60 2,ln 61 29 15,E 62 (.callP 69 [1,1,1] [(.d 58),(.d 59),(.d 60),(.d 61)]),m 57 62,ex 63 57 0,ex 64 57 1,ex 65 57 2,A 16 (.alloc (eFlight GFlight.zero)),A 17 (.alloc (eCore GCore.zero)),A 18 (.alloc (eCoh GCoh.zero)),sm 35 16 63,sm 112 17 64,sm 2 18 65] (u [fa 67 0 17,ln 68 22 67,fa 69 108 17,ld 70 69,ln 71 35 16,E 72 (.callP 70 [35,1] [(.d 68),(.d 70),(.d 71)]),m 66 72,ex 73 66 0,ex 74 66 1,m 19 73,m 20 74] (.seq (u [m 75 20,P 76 (.un .not 75)] (.cond 76 (.exit 1)
 .skip)) (.seq (.dreg [a 0 (ln 77 112 17),a 2 (sm 112 4 77),⟨1,ln 78 2 18,1,1⟩,a 3 (sm 2 5 78)]) (u [m 79 19,fa 80 108 4,st 80 79] (.seq (u [fa 82 104 4,ld 83 82,fa 84 23 15,ld 85 84,E 86 (.callP 71 [32,1,1] [(.d 83),(.d 85)]),m 81 86,ex 87 81 0,ex 88 81 1,ex 89 81 2,A 22 (.alloc (eRen GRen.zero)),m 21 87,sm 29 22 88,m 23 89] (u [m 90 23] (.cond 90 (.reg [m 91 21,fa 92 104 4,st 92 91])
 .skip))) (.reg [m 93 11,fa 94 111 4,ld 95 94,fa 96 23 15,ld 97 96,fa 98 0 15,fa 99 5 98,fa 100 0 99,ld 101 100,P 102 (.build (eNote GNote.zero) [(0,1,(.d 95)),(1,1,(.k (eI 3))),(2,1,(.d 97)),(3,1,(.d 101))]),E 103 (.bldF 4 1 (eNote GNote.zero) [(0,4,(.d 102))]),E 104 (.appT 4 32 2104 93 103),m 11 104])))))))))))) (.reg [P 105 (.bin .add 38 (.k (eI 1))),m 38 105]))))))) (.seq (.dreg [a 0 (ln 106 112 4),a 3 (sm 112 8 106),⟨1,ln 107 2 5,1,1⟩,a 4 (sm 2 9 107),a 2 (m 108 11),a 5 (m 10 108)])
.ret))))),[.cn 8 112,.cn 9 2,.t 10]⟩
def f21 : F:=⟨2,60,u [A 2 (.box (.d 0)),A 3 (.box (.d 1)),A 4 (.alloc (eCore GCore.zero)),E 5 (.acc 2105 4 (.k .sn))] (.seq (u [fa 11 1 3,ld 12 11,P 13 (.bin .and 12 (.k (eU32 2))),P 14 (.bin .neq 13 (.k (eU32 0)))] (.cond 14 (u [ln 15 112 2,sm 112 4 15,E 5 (.acc 2105 4 (.k .sn))]
.ret)
 .skip)) (u [E 6 (.acc 2106 4 (.k .sn))] (.seq (u [fa 16 0 2,fa 17 1 16,ld 18 17,P 19 (.mx [18,(.k (eI 0))]),P 20 (.mn [19,(.k (eI 4))]),P 21 (.mv (.k (eI 0)))] (.block 0 (.loop (u [P 22 (.bin .lss 21 20)] (.seq (.cond 22 .skip
 (.exit 0)) (.seq (.block 1 (.seq (u [fa 23 64 2,ld 24 23,P 25 (.len 24),P 26 (.bin .eql 25 (.k (eI 0)))] (.cond 26 (.exit 0)
 .skip)) (u [fa 27 64 2,ld 28 27,P 29 (.ixS 9 28 (.k (eI 0))),ln 30 9 29,E 31 (.callP 72 [23] [(.d 30)]),m 7 31] (.seq (u [ln 32 112 2,m 33 7,E 34 (.callP 73 [1] [(.d 32),(.d 33)]),P 35 (.un .not 34)] (.cond 35 (.exit 0)
 .skip)) (u [fa 36 64 2,ld 37 36,P 38 (.slS 9 37 (some (.k (eI 1))) none),fa 39 64 2,st 39 38] (u [m 40 7,P 41 (.len 40),P 42 (.mv (.k (eI 0)))] (.block 2 (.loop (u [P 43 (.bin .lss 42 41)] (.seq (.cond 43 .skip
 (.exit 2)) (.seq (.block 3 (u [P 44 (.ixS 23 40 42),ln 45 23 44,A 9 (.alloc (eUop GUop.zero)),sm 23 9 45] (u [A 10 (.alloc (eNote GNote.zero))] (u [ln 47 112 2,ln 48 23 9,E 49 (.callP 74 [1,1] [(.d 47),(.d 48)]),m 46 49,ex 50 46 0,ex 51 46 1,sm 112 2 50,sm 4 10 51] (.reg [m 52 6,ln 53 4 10,E 54 (.bldF 4 1 (eNote GNote.zero) [(0,4,(.d 53))]),E 55 (.appT 4 32 2155 52 54),m 6 55]))))) (.reg [P 56 (.bin .add 42 (.k (eI 1))),m 42 56])))))))))))) (.reg [P 57 (.bin .add 21 (.k (eI 1))),m 21 57]))))))) (u [ln 58 112 2,m 59 6,sm 112 4 58,m 5 59]
.ret)))),[.cn 4 112,.t 5]⟩
def k22_0 : K:=.reg [fa 13 1 3,ld 14 13,P 15 (.bin .and 14 (.k (eU32 1))),P 16 (.bin .neq 15 (.k (eU32 0))),m 17 16,G 18 17 false (.P (.fa 55 2)),G 19 17 false (.L (.ld1 18)),P 20 (.pick 17 (.k (.b true)) 19),m 21 20,G 22 21 false (.P (.fa 22 2)),G 23 21 false (.P (.fa 29 22)),G 24 21 false (.L (.ld1 23)),P 25 (.pick 21 (.k (.b true)) 24)]
def f22 : F:=⟨2,80,u [A 2 (.box (.d 0)),A 3 (.box (.d 1)),A 4 (.alloc (eCore GCore.zero)),E 5 (.acc 2205 4 (.k .sn))] (.seq (.seq (.fin [2,3,4] [2,4,25] [4,5] [] 3 [2205] k22_0) (.cond 25 (u [ln 26 112 2,sm 112 4 26,E 5 (.acc 2205 4 (.k .sn))]
.ret)
 .skip)) (.seq (.dreg [a 10 (ln 38 112 2),a 11 (E 39 (.callP 76 [1] [(.d 38)])),a 0 (fa 28 0 2),⟨1,ln 29 22 28,1,1⟩,a 2 (fa 30 22 2),⟨3,ln 31 30 30,1,1⟩,a 4 (fa 32 52 2),⟨5,ld 33 32,1,1⟩,a 6 (fa 34 56 2),⟨7,ln 35 6 34,1,1⟩,a 8 (fa 36 54 2),⟨9,ld 37 36,1,1⟩,a 12 (E 40 (.callP 75 [9,1,1,1] [(.d 29),(.d 31),(.d 33),(.d 35),(.d 37),(.d 39)])),a 13 (m 27 40),a 14 (ex 41 27 0),a 15 (ex 42 27 1),a 18 (A 7 (.alloc (ePred GPred.zero))),z 19 (m 6 41),z 20 (sm 6 7 42),a 16 (ex 43 27 2),a 17 (ex 44 27 3),a 21 (m 8 43),a 22 (m 9 44)]) (u [E 10 (.acc 2210 4 (.k .sn))] (.seq (u [m 45 6,P 46 (.len 45),P 47 (.mv (.k (eI 0)))] (.block 0 (.loop (u [P 48 (.bin .lss 47 46)] (.seq (.cond 48 .skip
 (.exit 0)) (.seq (.block 1 (u [P 49 (.ixS 9 45 47),ln 50 9 49,A 12 (.alloc (eSlot GSlot.zero)),sm 9 12 50] (.reg [m 51 10,fa 52 111 2,ld 53 52,fa 54 0 12,ld 55 54,P 56 (.build (eNote GNote.zero) [(0,1,(.d 53)),(1,1,(.k (eI 1))),(3,1,(.d 55))]),E 57 (.bldF 4 1 (eNote GNote.zero) [(0,4,(.d 56))]),E 58 (.appT 4 32 2258 51 57),m 10 58]))) (.reg [P 59 (.bin .add 47 (.k (eI 1))),m 47 59]))))))) (u [fa 60 64 2,ld 61 60,fa 62 64 2,ld 63 62,P 64 (.len 63),fa 65 64 2,ld 66 65,P 67 (.len 66),P 68 (.slS3 9 61 none 64 67),m 69 6,E 70 (.appT 9 56 2270 68 69),fa 71 64 2,st 71 70] (u [ln 72 6 7,m 73 8,m 74 9,fa 75 56 2,sm 6 75 72,fa 76 54 2,st 76 73,fa 77 55 2,st 77 74] (u [ln 78 112 2,m 79 10,sm 112 4 78,m 5 79]
.ret))))))),[.cn 4 112,.t 5]⟩
def k24_0 : K:=.reg [fa 25 3 7,ld 26 25,P 27 (.un .not 26),m 28 27,G 29 28 false (.P (.fa 107 4)),G 30 28 false (.L (.ld1 29)),G 31 28 false (.P (.len 30)),G 32 28 false (.P (.bin .eql 31 (.k (eI 0)))),P 33 (.pick 28 (.k (.b true)) 32),m 24 33]
def f24 : F:=⟨4,54,u [A 4 (.box (.d 0)),A 5 (.box (.d 1)),A 7 (.box (.d 3)),A 8 (.alloc (eCore GCore.zero)),A 9 (.alloc (eCoh GCoh.zero)),P 10 (.mv (.k (eU32 0))),P 11 (.mv (.k (.b false)))] (.seq (.block 0 (u [fa 15 110 4,ld 16 15,P 17 (.bin .gtr 16 (.k (eI 0))),m 14 17] (.cond 14 (u [fa 18 110 4,ld 19 18,P 20 (.bin .sub 19 (.k (eI 1))),fa 21 110 4,st 21 20] (.seq (.dreg [a 0 (ln 22 112 4),a 2 (sm 112 8 22),⟨1,ln 23 2 5,1,1⟩,a 3 (sm 2 9 23),a 4 (P 10 (.mv (.k (eU32 0)))),a 5 (P 11 (.mv (.k (.b false))))])
.ret))
 (.seq (.fin [2,4,5,7,8,9] [2,4,5,8,9,24] [8,9,10,11] [] 5 [] k24_0) (.cond 24 (.seq (.dreg [a 0 (ln 34 112 4),a 2 (sm 112 8 34),⟨1,ln 35 2 5,1,1⟩,a 3 (sm 2 9 35),a 4 (P 10 (.mv (.k (eU32 0)))),a 5 (P 11 (.mv (.k (.b false))))])
.ret)
 .skip))))) (u [ln 37 112 4,ln 38 2 5,m 39 2,E 40 (.callP 79 [1,1,1,1] [(.d 37),(.d 38),(.d 39)]),m 36 40,ex 41 36 0,ex 42 36 1,ex 43 36 2,ex 44 36 3,sm 112 4 41,sm 2 5 42,m 12 43,m 13 44] (.seq (u [m 45 13,P 46 (.un .not 45)] (.cond 46 (.reg [fa 47 0 4,fa 48 18 47,ld 49 48,fa 50 110 4,st 50 49])
 .skip)) (.seq (.dreg [a 0 (ln 51 112 4),a 3 (sm 112 8 51),⟨1,ln 52 2 5,1,1⟩,a 4 (sm 2 9 52),a 2 (m 53 12),a 5 (m 10 53),a 6 (P 11 (.mv (.k (.b true))))])
.ret)))),[.cn 8 112,.cn 9 2,.t 10,.t 11]⟩
def f6 : F:=⟨4,103,u [A 4 (.box (.d 0)),A 5 (.box (.d 1)),A 7 (.box (.d 3)),A 8 (.alloc (eCore GCore.zero)),A 9 (.alloc (eCoh GCoh.zero)),E 10 (.acc 610 12 (.k .sn)),E 11 (.acc 611 4 (.k .sn)),E 12 (.acc 612 1 (.k .sn))] (u [fa 23 22 4,ln 24 30 23,fa 25 0 7,ld 26 25,E 27 (.callP 17 [1] [(.d 24),(.d 26)]),fa 28 22 4,sm 30 28 27] (u [ln 30 112 4,ln 31 2 5,m 32 2,ln 33 5 7,E 34 (.callP 18 [1,1,12,1,4] [(.d 30),(.d 31),(.d 32),(.d 33)]),m 29 34,ex 35 29 0,ex 36 29 1,ex 37 29 2,ex 38 29 3,ex 39 29 4,sm 112 4 35,sm 2 5 36,m 13 37,m 14 38,m 15 39] (u [ln 41 112 4,ln 42 5 7,E 43 (.callP 19 [1,4] [(.d 41),(.d 42)]),m 40 43,ex 44 40 0,ex 45 40 1,sm 112 4 44,m 16 45] (u [ln 47 112 4,ln 48 2 5,m 49 2,ln 50 5 7,E 51 (.callP 20 [1,1,4] [(.d 47),(.d 48),(.d 49),(.d 50)]),m 46 51,ex 52 46 0,ex 53 46 1,ex 54 46 2,sm 112 4 52,sm 2 5 53,m 17 54] (u [ln 56 112 4,ln 57 5 7,E 58 (.callP 21 [1,4] [(.d 56),(.d 57)]),m 55 58,ex 59 55 0,ex 60 55 1,sm 112 4 59,m 18 60] (u [ln 62 112 4,ln 63 5 7,E 64 (.callP 22 [1,4] [(.d 62),(.d 63)]),m 61 64,ex 65 61 0,ex 66 61 1,sm 112 4 65,m 19 66] (u [m 67 13,E 68 (.callT 668 23 [(.d 67)]),m 20 68] (u [ln 70 112 4,ln 71 2 5,m 72 2,ln 73 5 7,E 74 (.callP 24 [1,1,1,1] [(.d 70),(.d 71),(.d 72),(.d 73)]),m 69 74,ex 75 69 0,ex 76 69 1,ex 77 69 2,ex 78 69 3,sm 112 4 75,sm 2 5 76,m 21 77,m 22 78] (.seq (u [m 79 22] (.cond 79 (.reg [m 80 20,m 81 21,E 82 (.bldF 1 1 [(eU32 0)] [(0,1,(.d 81))]),E 83 (.appT 1 4 683 80 82),m 20 83])
 .skip)) (u [fa 84 108 4,ld 85 84,E 86 (.callP 25 [35] [(.d 85)]),fa 87 108 4,st 87 86] (u [fa 88 111 4,ld 89 88,P 90 (.bin .add 89 (.k (eI 1))),fa 91 111 4,st 91 90] (.seq (.dreg [a 3 (m 95 15),a 4 (m 96 16),a 5 (m 97 17),a 6 (m 98 18),a 7 (m 99 19),a 8 (E 100 (.bldF 1 5 [(.fz .no 0 4 []),(.fz .no 0 4 []),(.fz .no 0 4 []),(.fz .no 0 4 []),(.fz .no 0 4 [])] [(0,1,(.d 95)),(1,1,(.d 96)),(2,1,(.d 97)),(3,1,(.d 98)),(4,1,(.d 99))])),a 9 (E 101 (.callP 26 [4] [(.d 100)])),⟨0,ln 92 112 4,1,2⟩,a 11 (sm 112 8 92),⟨1,ln 93 2 5,1,3⟩,a 12 (sm 2 9 93),a 2 (m 94 13),a 10 (m 102 20),a 13 (m 10 94),a 14 (m 11 101),a 15 (m 12 102)])
.ret)))))))))))),[.cn 8 112,.cn 9 2,.t 10,.t 11,.t 12]⟩
def k27_1 : K:=.reg [m 11 5,m 12 0,P 13 (.len 12),P 14 (.bin .lss 11 13),m 15 14,G 16 15 true (.P (.mv 5)),G 17 15 true (.P (.mv 1)),G 18 15 true (.P (.len 17)),G 19 15 true (.P (.bin .lss 16 18)),P 20 (.pick 15 19 (.k (.b false)))]
def k27_0 : K:=.seq (.seq (.fin [0,1,5] [0,1,5,20] [4] [] 0 [] k27_1) (.cond 20 .skip
 (.exit 0))) (.seq (.block 1 (.seq (.dreg [a 0 (m 23 0),a 1 (m 24 5),a 2 (P 25 (.ixS 1 23 24)),a 3 (ld 26 25),a 4 (m 27 1),a 5 (m 28 5),a 6 (P 29 (.ixS 1 27 28)),a 7 (ld 30 29),a 8 (P 31 (.bin .neq 26 30))]) (.cond 31 (u [P 4 (.mv (.k (.b false)))]
.ret)
 .skip))) (.reg [m 21 5,P 22 (.bin .add 21 (.k (eI 1))),m 5 22]))
def f27 : F:=⟨2,32,u [P 4 (.mv (.k (.b false)))] (.seq (u [m 6 0,P 7 (.len 6),m 8 1,P 9 (.len 8),P 10 (.bin .neq 7 9)] (.cond 10 (u [P 4 (.mv (.k (.b false)))]
.ret)
 .skip)) (.seq (u [P 5 (.mv (.k (eI 0)))] (.block 0 (.loop (.fin [0,1,5] [0,1,5] [4] [] 0 [] k27_0)))) (u [P 4 (.mv (.k (.b true)))]
.ret))),[.t 4]⟩
def k28_1 : K:=.reg [m 14 5,fa 15 0 2,ld 16 15,P 17 (.len 16),P 18 (.bin .lss 14 17),m 19 18,G 20 19 true (.P (.mv 5)),G 21 19 true (.P (.fa 0 3)),G 22 19 true (.L (.ld1 21)),G 23 19 true (.P (.len 22)),G 24 19 true (.P (.bin .lss 20 23)),P 25 (.pick 19 24 (.k (.b false)))]
def k28_3 : K:=.reg [m 41 6,fa 42 0 2,ld 43 42,m 44 5,P 45 (.ixS 1 43 44),ld 46 45,P 47 (.len 46),P 48 (.bin .lss 41 47),m 49 48,G 50 49 true (.P (.mv 6)),G 51 49 true (.P (.fa 0 3)),G 52 49 true (.L (.ld1 51)),G 53 49 true (.P (.mv 5)),G 54 49 true (.P (.ixS 1 52 53)),G 55 49 true (.L (.ld1 54)),G 56 49 true (.P (.len 55)),G 57 49 true (.P (.bin .lss 50 56)),P 58 (.pick 49 57 (.k (.b false)))]
def k28_2 : K:=.seq (.seq (.fin [2,3,5,6] [2,3,5,6,58] [4] [] 2 [] k28_3) (.cond 58 .skip
 (.exit 2))) (.seq (.block 3 (.seq (.dreg [a 0 (fa 61 0 2),a 1 (ld 62 61),a 2 (m 63 5),a 3 (P 64 (.ixS 1 62 63)),a 4 (ld 65 64),a 5 (m 66 6),a 6 (P 67 (.ixS 19 65 66)),a 7 (ln 68 19 67),a 8 (fa 69 0 3),a 9 (ld 70 69),a 10 (m 71 5),a 11 (P 72 (.ixS 1 70 71)),a 12 (ld 73 72),a 13 (m 74 6),a 14 (P 75 (.ixS 19 73 74)),a 15 (ln 76 19 75),a 16 (P 77 (.eqA ksGWay true 68 76))]) (.cond 77 (u [P 4 (.mv (.k (.b false)))]
.ret)
 .skip))) (.reg [m 59 6,P 60 (.bin .add 59 (.k (eI 1))),m 6 60]))
def k28_0 : K:=.seq (.seq (.fin [2,3,5] [2,3,5,25] [4] [] 2 [] k28_1) (.cond 25 .skip
 (.exit 0))) (.seq (.block 1 (.seq (.seq (.dreg [a 0 (fa 28 0 2),a 1 (ld 29 28),a 2 (m 30 5),a 3 (P 31 (.ixS 1 29 30)),a 4 (ld 32 31),a 5 (P 33 (.len 32)),a 6 (fa 34 0 3),a 7 (ld 35 34),a 8 (m 36 5),a 9 (P 37 (.ixS 1 35 36)),a 10 (ld 38 37),a 11 (P 39 (.len 38)),a 12 (P 40 (.bin .neq 33 39))]) (.cond 40 (u [P 4 (.mv (.k (.b false)))]
.ret)
 .skip)) (u [P 6 (.mv (.k (eI 0)))] (.block 2 (.loop (.fin [2,3,5,6] [2,3,5,6] [4] [2,3,5] 2 [] k28_2)))))) (.reg [m 26 5,P 27 (.bin .add 26 (.k (eI 1))),m 5 27]))
def f28 : F:=⟨2,78,u [A 2 (.box (.d 0)),A 3 (.box (.d 1)),P 4 (.mv (.k (.b false)))] (.seq (u [fa 7 0 2,ld 8 7,P 9 (.len 8),fa 10 0 3,ld 11 10,P 12 (.len 11),P 13 (.bin .neq 9 12)] (.cond 13 (u [P 4 (.mv (.k (.b false)))]
.ret)
 .skip)) (.seq (u [P 5 (.mv (.k (eI 0)))] (.block 0 (.loop (.fin [2,3,5] [2,3,5] [4] [] 2 [] k28_0)))) (u [P 4 (.mv (.k (.b true)))]
.ret))),[.t 4]⟩
def k7_0 : K:=.reg [fa 6 0 2,ld 7 6,fa 8 0 3,ld 9 8,E 10 (.callP 27 [1] [(.d 7),(.d 9)]),P 11 (.un .not 10),m 12 11,G 13 12 false (.P (.fa 1 2)),G 14 12 false (.L (.ld1 13)),G 15 12 false (.P (.len 14)),G 16 12 false (.P (.fa 1 3)),G 17 12 false (.L (.ld1 16)),G 18 12 false (.P (.len 17)),G 19 12 false (.P (.bin .neq 15 18)),P 20 (.pick 12 (.k (.b true)) 19)]
def k7_2 : K:=.reg [m 21 5,fa 22 1 2,ld 23 22,P 24 (.len 23),P 25 (.bin .lss 21 24),m 26 25,G 27 26 true (.P (.mv 5)),G 28 26 true (.P (.fa 1 3)),G 29 26 true (.L (.ld1 28)),G 30 26 true (.P (.len 29)),G 31 26 true (.P (.bin .lss 27 30)),P 32 (.pick 26 31 (.k (.b false)))]
def k7_1 : K:=.seq (.seq (.fin [2,3,5] [2,3,5,32] [4] [] 2 [] k7_2) (.cond 32 .skip
 (.exit 0))) (.seq (.block 1 (.seq (.dreg [a 0 (fa 35 1 2),a 1 (ld 36 35),a 2 (m 37 5),a 3 (P 38 (.ixS 1 36 37)),a 4 (ln 39 1 38),a 5 (fa 40 1 3),a 6 (ld 41 40),a 7 (m 42 5),a 8 (P 43 (.ixS 1 41 42)),a 9 (ln 44 1 43),a 10 (E 45 (.callP 28 [1] [(.d 39),(.d 44)])),a 11 (P 46 (.un .not 45))]) (.cond 46 (u [P 4 (.mv (.k (.b false)))]
.ret)
 .skip))) (.reg [m 33 5,P 34 (.bin .add 33 (.k (eI 1))),m 5 34]))
def f7 : F:=⟨2,47,u [A 2 (.box (.d 0)),A 3 (.box (.d 1)),P 4 (.mv (.k (.b false)))] (.seq (.seq (.fin [2,3] [2,3,20] [4] [] 2 [] k7_0) (.cond 20 (u [P 4 (.mv (.k (.b false)))]
.ret)
 .skip)) (.seq (u [P 5 (.mv (.k (eI 0)))] (.block 0 (.loop (.fin [2,3,5] [2,3,5] [4] [] 2 [] k7_1)))) (u [P 4 (.mv (.k (.b true)))]
.ret))),[.t 4]⟩
def k29_1 : K:=.reg [m 11 5,m 12 0,P 13 (.len 12),P 14 (.bin .lss 11 13),m 15 14,G 16 15 true (.P (.mv 5)),G 17 15 true (.P (.mv 1)),G 18 15 true (.P (.len 17)),G 19 15 true (.P (.bin .lss 16 18)),P 20 (.pick 15 19 (.k (.b false)))]
def k29_0 : K:=.seq (.seq (.fin [0,1,5] [0,1,5,20] [4] [] 0 [] k29_1) (.cond 20 .skip
 (.exit 0))) (.seq (.block 1 (.seq (.dreg [a 0 (m 23 0),a 1 (m 24 5),a 2 (P 25 (.ixS 1 23 24)),a 3 (ld 26 25),a 4 (m 27 1),a 5 (m 28 5),a 6 (P 29 (.ixS 1 27 28)),a 7 (ld 30 29),a 8 (P 31 (.bin .neq 26 30))]) (.cond 31 (u [P 4 (.mv (.k (.b false)))]
.ret)
 .skip))) (.reg [m 21 5,P 22 (.bin .add 21 (.k (eI 1))),m 5 22]))
def f29 : F:=⟨2,32,u [P 4 (.mv (.k (.b false)))] (.seq (u [m 6 0,P 7 (.len 6),m 8 1,P 9 (.len 8),P 10 (.bin .neq 7 9)] (.cond 10 (u [P 4 (.mv (.k (.b false)))]
.ret)
 .skip)) (.seq (u [P 5 (.mv (.k (eI 0)))] (.block 0 (.loop (.fin [0,1,5] [0,1,5] [4] [] 0 [] k29_0)))) (u [P 4 (.mv (.k (.b true)))]
.ret))),[.t 4]⟩
def k81_1 : K:=.reg [m 11 5,m 12 0,P 13 (.len 12),P 14 (.bin .lss 11 13),m 15 14,G 16 15 true (.P (.mv 5)),G 17 15 true (.P (.mv 1)),G 18 15 true (.P (.len 17)),G 19 15 true (.P (.bin .lss 16 18)),P 20 (.pick 15 19 (.k (.b false)))]
def k81_0 : K:=.seq (.seq (.fin [0,1,5] [0,1,5,20] [4] [] 0 [] k81_1) (.cond 20 .skip
 (.exit 0))) (.seq (.block 1 (.seq (.dreg [a 0 (m 23 0),a 1 (m 24 5),a 2 (P 25 (.ixS 3 23 24)),a 3 (ln 26 3 25),a 4 (m 27 1),a 5 (m 28 5),a 6 (P 29 (.ixS 3 27 28)),a 7 (ln 30 3 29),a 8 (P 31 (.eqA ksGBtb true 26 30))]) (.cond 31 (u [P 4 (.mv (.k (.b false)))]
.ret)
 .skip))) (.reg [m 21 5,P 22 (.bin .add 21 (.k (eI 1))),m 5 22]))
def f81 : F:=⟨2,32,u [P 4 (.mv (.k (.b false)))] (.seq (u [m 6 0,P 7 (.len 6),m 8 1,P 9 (.len 8),P 10 (.bin .neq 7 9)] (.cond 10 (u [P 4 (.mv (.k (.b false)))]
.ret)
 .skip)) (.seq (u [P 5 (.mv (.k (eI 0)))] (.block 0 (.loop (.fin [0,1,5] [0,1,5] [4] [] 0 [] k81_0)))) (u [P 4 (.mv (.k (.b true)))]
.ret))),[.t 4]⟩
def f30 : F:=⟨2,45,u [A 2 (.box (.d 0)),A 3 (.box (.d 1)),P 4 (.mv (.k (.b false)))] (u [fa 5 0 2,ld 6 5,fa 7 0 3,ld 8 7,P 9 (.bin .eql 6 8),m 10 9,G 11 10 true (.P (.fa 1 2)),G 12 10 true (.L (.ld1 11)),G 13 10 true (.P (.fa 1 3)),G 14 10 true (.L (.ld1 13)),G 15 10 true (.E (.callP 27 [1] [(.d 12),(.d 14)])),P 16 (.pick 10 15 (.k (.b false))),m 17 16,G 18 17 true (.P (.fa 2 2)),G 19 17 true (.L (.ld1 18)),G 20 17 true (.P (.fa 2 3)),G 21 17 true (.L (.ld1 20)),G 22 17 true (.E (.callP 81 [1] [(.d 19),(.d 21)])),P 23 (.pick 17 22 (.k (.b false))),m 24 23,G 25 24 true (.P (.fa 3 2)),G 26 24 true (.L (.ld1 25)),G 27 24 true (.P (.fa 3 3)),G 28 24 true (.L (.ld1 27)),G 29 24 true (.P (.bin .eql 26 28)),P 30 (.pick 24 29 (.k (.b false))),m 31 30,G 32 31 true (.P (.fa 4 2)),G 33 31 true (.L (.ld1 32)),G 34 31 true (.P (.fa 4 3)),G 35 31 true (.L (.ld1 34)),G 36 31 true (.E (.callP 29 [1] [(.d 33),(.d 35)])),P 37 (.pick 31 36 (.k (.b false))),m 38 37,G 39 38 true (.P (.fa 5 2)),G 40 38 true (.L (.ld1 39)),G 41 38 true (.P (.fa 5 3)),G 42 38 true (.L (.ld1 41)),G 43 38 true (.P (.bin .eql 40 42)),P 44 (.pick 38 43 (.k (.b false))),m 4 44]
.ret),[.t 4]⟩
def k31_1 : K:=.reg [m 11 5,m 12 0,P 13 (.len 12),P 14 (.bin .lss 11 13),m 15 14,G 16 15 true (.P (.mv 5)),G 17 15 true (.P (.mv 1)),G 18 15 true (.P (.len 17)),G 19 15 true (.P (.bin .lss 16 18)),P 20 (.pick 15 19 (.k (.b false)))]
def k31_0 : K:=.seq (.seq (.fin [0,1,5] [0,1,5,20] [4] [] 0 [] k31_1) (.cond 20 .skip
 (.exit 0))) (.seq (.block 1 (.seq (.dreg [a 0 (m 23 0),a 1 (m 24 5),a 2 (P 25 (.ixS 4 23 24)),a 3 (ln 26 4 25),a 4 (m 27 1),a 5 (m 28 5),a 6 (P 29 (.ixS 4 27 28)),a 7 (ln 30 4 29),a 8 (P 31 (.eqA ksGTlb true 26 30))]) (.cond 31 (u [P 4 (.mv (.k (.b false)))]
.ret)
 .skip))) (.reg [m 21 5,P 22 (.bin .add 21 (.k (eI 1))),m 5 22]))
def f31 : F:=⟨2,32,u [P 4 (.mv (.k (.b false)))] (.seq (u [m 6 0,P 7 (.len 6),m 8 1,P 9 (.len 8),P 10 (.bin .neq 7 9)] (.cond 10 (u [P 4 (.mv (.k (.b false)))]
.ret)
 .skip)) (.seq (u [P 5 (.mv (.k (eI 0)))] (.block 0 (.loop (.fin [0,1,5] [0,1,5] [4] [] 0 [] k31_0)))) (u [P 4 (.mv (.k (.b true)))]
.ret))),[.t 4]⟩
def k32_1 : K:=.reg [m 11 5,m 12 0,P 13 (.len 12),P 14 (.bin .lss 11 13),m 15 14,G 16 15 true (.P (.mv 5)),G 17 15 true (.P (.mv 1)),G 18 15 true (.P (.len 17)),G 19 15 true (.P (.bin .lss 16 18)),P 20 (.pick 15 19 (.k (.b false)))]
def k32_0 : K:=.seq (.seq (.fin [0,1,5] [0,1,5,20] [4] [] 0 [] k32_1) (.cond 20 .skip
 (.exit 0))) (.seq (.block 1 (.seq (.dreg [a 0 (m 23 0),a 1 (m 24 5),a 2 (P 25 (.ixS 9 23 24)),a 3 (ln 26 9 25),a 4 (m 27 1),a 5 (m 28 5),a 6 (P 29 (.ixS 9 27 28)),a 7 (ln 30 9 29),a 8 (P 31 (.eqA ksGSlot true 26 30))]) (.cond 31 (u [P 4 (.mv (.k (.b false)))]
.ret)
 .skip))) (.reg [m 21 5,P 22 (.bin .add 21 (.k (eI 1))),m 5 22]))
def f32 : F:=⟨2,32,u [P 4 (.mv (.k (.b false)))] (.seq (u [m 6 0,P 7 (.len 6),m 8 1,P 9 (.len 8),P 10 (.bin .neq 7 9)] (.cond 10 (u [P 4 (.mv (.k (.b false)))]
.ret)
 .skip)) (.seq (u [P 5 (.mv (.k (eI 0)))] (.block 0 (.loop (.fin [0,1,5] [0,1,5] [4] [] 0 [] k32_0)))) (u [P 4 (.mv (.k (.b true)))]
.ret))),[.t 4]⟩
def k172_1 : K:=.reg [m 11 5,m 12 0,P 13 (.len 12),P 14 (.bin .lss 11 13),m 15 14,G 16 15 true (.P (.mv 5)),G 17 15 true (.P (.mv 1)),G 18 15 true (.P (.len 17)),G 19 15 true (.P (.bin .lss 16 18)),P 20 (.pick 15 19 (.k (.b false)))]
def k172_0 : K:=.seq (.seq (.fin [0,1,5] [0,1,5,20] [4] [] 0 [] k172_1) (.cond 20 .skip
 (.exit 0))) (.seq (.block 1 (.seq (.dreg [a 0 (m 23 0),a 1 (m 24 5),a 2 (P 25 (.ixS 1 23 24)),a 3 (ld 26 25),a 4 (m 27 1),a 5 (m 28 5),a 6 (P 29 (.ixS 1 27 28)),a 7 (ld 30 29),a 8 (P 31 (.bin .neq 26 30))]) (.cond 31 (u [P 4 (.mv (.k (.b false)))]
.ret)
 .skip))) (.reg [m 21 5,P 22 (.bin .add 21 (.k (eI 1))),m 5 22]))
def f172 : F:=⟨2,32,u [P 4 (.mv (.k (.b false)))] (.seq (u [m 6 0,P 7 (.len 6),m 8 1,P 9 (.len 8),P 10 (.bin .neq 7 9)] (.cond 10 (u [P 4 (.mv (.k (.b false)))]
.ret)
 .skip)) (.seq (u [P 5 (.mv (.k (eI 0)))] (.block 0 (.loop (.fin [0,1,5] [0,1,5] [4] [] 0 [] k172_0)))) (u [P 4 (.mv (.k (.b true)))]
.ret))),[.t 4]⟩
def f82 : F:=⟨2,24,u [A 2 (.box (.d 0)),A 3 (.box (.d 1)),P 4 (.mv (.k (.b false)))] (u [fa 5 1 2,ld 6 5,fa 7 1 3,ld 8 7,P 9 (.bin .eql 6 8),m 10 9,G 11 10 true (.P (.fa 2 2)),G 12 10 true (.L (.ld1 11)),G 13 10 true (.P (.fa 2 3)),G 14 10 true (.L (.ld1 13)),G 15 10 true (.P (.bin .eql 12 14)),P 16 (.pick 10 15 (.k (.b false))),m 17 16,G 18 17 true (.P (.fa 0 2)),G 19 17 true (.L (.ld1 18)),G 20 17 true (.P (.fa 0 3)),G 21 17 true (.L (.ld1 20)),G 22 17 true (.E (.callP 172 [1] [(.d 19),(.d 21)])),P 23 (.pick 17 22 (.k (.b false))),m 4 23]
.ret),[.t 4]⟩
def f33 : F:=⟨2,31,u [A 2 (.box (.d 0)),A 3 (.box (.d 1)),P 4 (.mv (.k (.b false)))] (u [fa 5 0 2,ln 6 16 5,fa 7 0 3,ln 8 16 7,P 9 (.eqA ksArr37 false 6 8),m 10 9,G 11 10 true (.P (.fa 16 2)),G 12 10 true (.L (.ldn 16 11)),G 13 10 true (.P (.fa 16 3)),G 14 10 true (.L (.ldn 16 13)),G 15 10 true (.P (.eqA ksArr37 false 12 14)),P 16 (.pick 10 15 (.k (.b false))),m 17 16,G 18 17 true (.P (.fa 32 2)),G 19 17 true (.L (.ldn 3 18)),G 20 17 true (.P (.fa 32 3)),G 21 17 true (.L (.ldn 3 20)),G 22 17 true (.E (.callP 82 [1] [(.d 19),(.d 21)])),P 23 (.pick 17 22 (.k (.b false))),m 24 23,G 25 24 true (.P (.fa 35 2)),G 26 24 true (.L (.ld1 25)),G 27 24 true (.P (.fa 35 3)),G 28 24 true (.L (.ld1 27)),G 29 24 true (.P (.bin .eql 26 28)),P 30 (.pick 24 29 (.k (.b false))),m 4 30]
.ret),[.t 4]⟩
def k83_1 : K:=.reg [m 11 5,m 12 0,P 13 (.len 12),P 14 (.bin .lss 11 13),m 15 14,G 16 15 true (.P (.mv 5)),G 17 15 true (.P (.mv 1)),G 18 15 true (.P (.len 17)),G 19 15 true (.P (.bin .lss 16 18)),P 20 (.pick 15 19 (.k (.b false)))]
def k83_0 : K:=.seq (.seq (.fin [0,1,5] [0,1,5,20] [4] [] 0 [] k83_1) (.cond 20 .skip
 (.exit 0))) (.seq (.block 1 (.seq (.dreg [a 0 (m 23 0),a 1 (m 24 5),a 2 (P 25 (.ixS 1 23 24)),a 3 (ld 26 25),a 4 (m 27 1),a 5 (m 28 5),a 6 (P 29 (.ixS 1 27 28)),a 7 (ld 30 29),a 8 (P 31 (.binB .neq 26 30))]) (.cond 31 (u [P 4 (.mv (.k (.b false)))]
.ret)
 .skip))) (.reg [m 21 5,P 22 (.bin .add 21 (.k (eI 1))),m 5 22]))
def f83 : F:=⟨2,32,u [P 4 (.mv (.k (.b false)))] (.seq (u [m 6 0,P 7 (.len 6),m 8 1,P 9 (.len 8),P 10 (.bin .neq 7 9)] (.cond 10 (u [P 4 (.mv (.k (.b false)))]
.ret)
 .skip)) (.seq (u [P 5 (.mv (.k (eI 0)))] (.block 0 (.loop (.fin [0,1,5] [0,1,5] [4] [] 0 [] k83_0)))) (u [P 4 (.mv (.k (.b true)))]
.ret))),[.t 4]⟩
def f34 : F:=⟨2,17,u [A 2 (.box (.d 0)),A 3 (.box (.d 1)),P 4 (.mv (.k (.b false)))] (u [fa 5 0 2,ld 6 5,fa 7 0 3,ld 8 7,E 9 (.callP 29 [1] [(.d 6),(.d 8)]),m 10 9,G 11 10 true (.P (.fa 1 2)),G 12 10 true (.L (.ld1 11)),G 13 10 true (.P (.fa 1 3)),G 14 10 true (.L (.ld1 13)),G 15 10 true (.E (.callP 83 [1] [(.d 12),(.d 14)])),P 16 (.pick 10 15 (.k (.b false))),m 4 16]
.ret),[.t 4]⟩
def k35_1 : K:=.reg [m 11 5,m 12 0,P 13 (.len 12),P 14 (.bin .lss 11 13),m 15 14,G 16 15 true (.P (.mv 5)),G 17 15 true (.P (.mv 1)),G 18 15 true (.P (.len 17)),G 19 15 true (.P (.bin .lss 16 18)),P 20 (.pick 15 19 (.k (.b false)))]
def k35_0 : K:=.seq (.seq (.fin [0,1,5] [0,1,5,20] [4] [] 0 [] k35_1) (.cond 20 .skip
 (.exit 0))) (.seq (.block 1 (.seq (.dreg [a 0 (m 23 0),a 1 (m 24 5),a 2 (P 25 (.ixS 35 23 24)),a 3 (ln 26 35 25),a 4 (m 27 1),a 5 (m 28 5),a 6 (P 29 (.ixS 35 27 28)),a 7 (ln 30 35 29),a 8 (P 31 (.eqA ksGRob true 26 30))]) (.cond 31 (u [P 4 (.mv (.k (.b false)))]
.ret)
 .skip))) (.reg [m 21 5,P 22 (.bin .add 21 (.k (eI 1))),m 5 22]))
def f35 : F:=⟨2,32,u [P 4 (.mv (.k (.b false)))] (.seq (u [m 6 0,P 7 (.len 6),m 8 1,P 9 (.len 8),P 10 (.bin .neq 7 9)] (.cond 10 (u [P 4 (.mv (.k (.b false)))]
.ret)
 .skip)) (.seq (u [P 5 (.mv (.k (eI 0)))] (.block 0 (.loop (.fin [0,1,5] [0,1,5] [4] [] 0 [] k35_0)))) (u [P 4 (.mv (.k (.b true)))]
.ret))),[.t 4]⟩
def k36_1 : K:=.reg [m 11 5,m 12 0,P 13 (.len 12),P 14 (.bin .lss 11 13),m 15 14,G 16 15 true (.P (.mv 5)),G 17 15 true (.P (.mv 1)),G 18 15 true (.P (.len 17)),G 19 15 true (.P (.bin .lss 16 18)),P 20 (.pick 15 19 (.k (.b false)))]
def k36_0 : K:=.seq (.seq (.fin [0,1,5] [0,1,5,20] [4] [] 0 [] k36_1) (.cond 20 .skip
 (.exit 0))) (.seq (.block 1 (.seq (.dreg [a 0 (m 23 0),a 1 (m 24 5),a 2 (P 25 (.ixS 32 23 24)),a 3 (ln 26 32 25),a 4 (m 27 1),a 5 (m 28 5),a 6 (P 29 (.ixS 32 27 28)),a 7 (ln 30 32 29),a 8 (P 31 (.eqA ksGIq true 26 30))]) (.cond 31 (u [P 4 (.mv (.k (.b false)))]
.ret)
 .skip))) (.reg [m 21 5,P 22 (.bin .add 21 (.k (eI 1))),m 5 22]))
def f36 : F:=⟨2,32,u [P 4 (.mv (.k (.b false)))] (.seq (u [m 6 0,P 7 (.len 6),m 8 1,P 9 (.len 8),P 10 (.bin .neq 7 9)] (.cond 10 (u [P 4 (.mv (.k (.b false)))]
.ret)
 .skip)) (.seq (u [P 5 (.mv (.k (eI 0)))] (.block 0 (.loop (.fin [0,1,5] [0,1,5] [4] [] 0 [] k36_0)))) (u [P 4 (.mv (.k (.b true)))]
.ret))),[.t 4]⟩
def k37_1 : K:=.reg [m 11 5,m 12 0,P 13 (.len 12),P 14 (.bin .lss 11 13),m 15 14,G 16 15 true (.P (.mv 5)),G 17 15 true (.P (.mv 1)),G 18 15 true (.P (.len 17)),G 19 15 true (.P (.bin .lss 16 18)),P 20 (.pick 15 19 (.k (.b false)))]
def k37_0 : K:=.seq (.seq (.fin [0,1,5] [0,1,5,20] [4] [] 0 [] k37_1) (.cond 20 .skip
 (.exit 0))) (.seq (.block 1 (.seq (.dreg [a 0 (m 23 0),a 1 (m 24 5),a 2 (P 25 (.ixS 8 23 24)),a 3 (ln 26 8 25),a 4 (m 27 1),a 5 (m 28 5),a 6 (P 29 (.ixS 8 27 28)),a 7 (ln 30 8 29),a 8 (P 31 (.eqA ksGLq true 26 30))]) (.cond 31 (u [P 4 (.mv (.k (.b false)))]
.ret)
 .skip))) (.reg [m 21 5,P 22 (.bin .add 21 (.k (eI 1))),m 5 22]))
def f37 : F:=⟨2,32,u [P 4 (.mv (.k (.b false)))] (.seq (u [m 6 0,P 7 (.len 6),m 8 1,P 9 (.len 8),P 10 (.bin .neq 7 9)] (.cond 10 (u [P 4 (.mv (.k (.b false)))]
.ret)
 .skip)) (.seq (u [P 5 (.mv (.k (eI 0)))] (.block 0 (.loop (.fin [0,1,5] [0,1,5] [4] [] 0 [] k37_0)))) (u [P 4 (.mv (.k (.b true)))]
.ret))),[.t 4]⟩
def k38_1 : K:=.reg [m 11 5,m 12 0,P 13 (.len 12),P 14 (.bin .lss 11 13),m 15 14,G 16 15 true (.P (.mv 5)),G 17 15 true (.P (.mv 1)),G 18 15 true (.P (.len 17)),G 19 15 true (.P (.bin .lss 16 18)),P 20 (.pick 15 19 (.k (.b false)))]
def k38_0 : K:=.seq (.seq (.fin [0,1,5] [0,1,5,20] [4] [] 0 [] k38_1) (.cond 20 .skip
 (.exit 0))) (.seq (.block 1 (.seq (.dreg [a 0 (m 23 0),a 1 (m 24 5),a 2 (P 25 (.ixS 5 23 24)),a 3 (ln 26 5 25),a 4 (m 27 1),a 5 (m 28 5),a 6 (P 29 (.ixS 5 27 28)),a 7 (ln 30 5 29),a 8 (P 31 (.eqA ksGSq true 26 30))]) (.cond 31 (u [P 4 (.mv (.k (.b false)))]
.ret)
 .skip))) (.reg [m 21 5,P 22 (.bin .add 21 (.k (eI 1))),m 5 22]))
def f38 : F:=⟨2,32,u [P 4 (.mv (.k (.b false)))] (.seq (u [m 6 0,P 7 (.len 6),m 8 1,P 9 (.len 8),P 10 (.bin .neq 7 9)] (.cond 10 (u [P 4 (.mv (.k (.b false)))]
.ret)
 .skip)) (.seq (u [P 5 (.mv (.k (eI 0)))] (.block 0 (.loop (.fin [0,1,5] [0,1,5] [4] [] 0 [] k38_0)))) (u [P 4 (.mv (.k (.b true)))]
.ret))),[.t 4]⟩
def k39_1 : K:=.reg [m 11 5,m 12 0,P 13 (.len 12),P 14 (.bin .lss 11 13),m 15 14,G 16 15 true (.P (.mv 5)),G 17 15 true (.P (.mv 1)),G 18 15 true (.P (.len 17)),G 19 15 true (.P (.bin .lss 16 18)),P 20 (.pick 15 19 (.k (.b false)))]
def k39_0 : K:=.seq (.seq (.fin [0,1,5] [0,1,5,20] [4] [] 0 [] k39_1) (.cond 20 .skip
 (.exit 0))) (.seq (.block 1 (.seq (.dreg [a 0 (m 23 0),a 1 (m 24 5),a 2 (P 25 (.ixS 3 23 24)),a 3 (ln 26 3 25),a 4 (m 27 1),a 5 (m 28 5),a 6 (P 29 (.ixS 3 27 28)),a 7 (ln 30 3 29),a 8 (P 31 (.eqA ksGSb true 26 30))]) (.cond 31 (u [P 4 (.mv (.k (.b false)))]
.ret)
 .skip))) (.reg [m 21 5,P 22 (.bin .add 21 (.k (eI 1))),m 5 22]))
def f39 : F:=⟨2,32,u [P 4 (.mv (.k (.b false)))] (.seq (u [m 6 0,P 7 (.len 6),m 8 1,P 9 (.len 8),P 10 (.bin .neq 7 9)] (.cond 10 (u [P 4 (.mv (.k (.b false)))]
.ret)
 .skip)) (.seq (u [P 5 (.mv (.k (eI 0)))] (.block 0 (.loop (.fin [0,1,5] [0,1,5] [4] [] 0 [] k39_0)))) (u [P 4 (.mv (.k (.b true)))]
.ret))),[.t 4]⟩
def k40_1 : K:=.reg [m 11 5,m 12 0,P 13 (.len 12),P 14 (.bin .lss 11 13),m 15 14,G 16 15 true (.P (.mv 5)),G 17 15 true (.P (.mv 1)),G 18 15 true (.P (.len 17)),G 19 15 true (.P (.bin .lss 16 18)),P 20 (.pick 15 19 (.k (.b false)))]
def k40_0 : K:=.seq (.seq (.fin [0,1,5] [0,1,5,20] [4] [] 0 [] k40_1) (.cond 20 .skip
 (.exit 0))) (.seq (.block 1 (.seq (.dreg [a 0 (m 23 0),a 1 (m 24 5),a 2 (P 25 (.ixS 35 23 24)),a 3 (ln 26 35 25),a 4 (m 27 1),a 5 (m 28 5),a 6 (P 29 (.ixS 35 27 28)),a 7 (ln 30 35 29),a 8 (P 31 (.eqA ksGFlight true 26 30))]) (.cond 31 (u [P 4 (.mv (.k (.b false)))]
.ret)
 .skip))) (.reg [m 21 5,P 22 (.bin .add 21 (.k (eI 1))),m 5 22]))
def f40 : F:=⟨2,32,u [P 4 (.mv (.k (.b false)))] (.seq (u [m 6 0,P 7 (.len 6),m 8 1,P 9 (.len 8),P 10 (.bin .neq 7 9)] (.cond 10 (u [P 4 (.mv (.k (.b false)))]
.ret)
 .skip)) (.seq (u [P 5 (.mv (.k (eI 0)))] (.block 0 (.loop (.fin [0,1,5] [0,1,5] [4] [] 0 [] k40_0)))) (u [P 4 (.mv (.k (.b true)))]
.ret))),[.t 4]⟩
def k8_0 : K:=.reg [fa 5 0 2,ln 6 22 5,fa 7 0 3,ln 8 22 7,P 9 (.eqA ksGConf true 6 8),m 10 9,G 11 10 false (.P (.fa 22 2)),G 12 10 false (.L (.ldn 30 11)),G 13 10 false (.P (.fa 22 3)),G 14 10 false (.L (.ldn 30 13)),G 15 10 false (.P (.eqA ksGArch true 12 14)),P 16 (.pick 10 (.k (.b true)) 15),m 17 16,G 18 17 false (.P (.fa 54 2)),G 19 17 false (.L (.ld1 18)),G 20 17 false (.P (.fa 54 3)),G 21 17 false (.L (.ld1 20)),G 22 17 false (.P (.bin .neq 19 21)),P 23 (.pick 17 (.k (.b true)) 22),m 24 23,G 25 24 false (.P (.fa 55 2)),G 26 24 false (.L (.ld1 25)),G 27 24 false (.P (.fa 55 3)),G 28 24 false (.L (.ld1 27)),G 29 24 false (.P (.binB .neq 26 28)),P 30 (.pick 24 (.k (.b true)) 29),m 31 30,G 32 31 false (.P (.fa 63 2)),G 33 31 false (.L (.ld1 32)),G 34 31 false (.P (.fa 63 3)),G 35 31 false (.L (.ld1 34)),G 36 31 false (.P (.bin .neq 33 35)),P 37 (.pick 31 (.k (.b true)) 36),m 38 37,G 39 38 false (.P (.fa 110 2)),G 40 38 false (.L (.ld1 39)),G 41 38 false (.P (.fa 110 3)),G 42 38 false (.L (.ld1 41)),G 43 38 false (.P (.bin .neq 40 42)),P 44 (.pick 38 (.k (.b true)) 43),m 45 44,G 46 45 false (.P (.fa 111 2)),G 47 45 false (.L (.ld1 46)),G 48 45 false (.P (.fa 111 3)),G 49 45 false (.L (.ld1 48)),G 50 45 false (.P (.bin .neq 47 49)),P 51 (.pick 45 (.k (.b true)) 50)]
def k8_1 : K:=.reg [fa 52 52 2,ld 53 52,fa 54 52 3,ld 55 54,E 56 (.callP 27 [1] [(.d 53),(.d 55)]),P 57 (.un .not 56),m 58 57,G 59 58 false (.P (.fa 53 2)),G 60 58 false (.L (.ld1 59)),G 61 58 false (.P (.fa 53 3)),G 62 58 false (.L (.ld1 61)),G 63 58 false (.E (.callP 29 [1] [(.d 60),(.d 62)])),G 64 58 false (.P (.un .not 63)),P 65 (.pick 58 (.k (.b true)) 64),m 66 65,G 67 66 false (.P (.fa 56 2)),G 68 66 false (.L (.ldn 6 67)),G 69 66 false (.P (.fa 56 3)),G 70 66 false (.L (.ldn 6 69)),G 71 66 false (.E (.callP 30 [1] [(.d 68),(.d 70)])),G 72 66 false (.P (.un .not 71)),P 73 (.pick 66 (.k (.b true)) 72),m 74 73,G 75 74 false (.P (.fa 62 2)),G 76 74 false (.L (.ld1 75)),G 77 74 false (.P (.fa 62 3)),G 78 74 false (.L (.ld1 77)),G 79 74 false (.E (.callP 31 [1] [(.d 76),(.d 78)])),G 80 74 false (.P (.un .not 79)),P 81 (.pick 74 (.k (.b true)) 80),m 82 81,G 83 82 false (.P (.fa 64 2)),G 84 82 false (.L (.ld1 83)),G 85 82 false (.P (.fa 64 3)),G 86 82 false (.L (.ld1 85)),G 87 82 false (.E (.callP 32 [1] [(.d 84),(.d 86)])),G 88 82 false (.P (.un .not 87)),P 89 (.pick 82 (.k (.b true)) 88),m 90 89,G 91 90 false (.P (.fa 65 2)),G 92 90 false (.L (.ldn 36 91)),G 93 90 false (.P (.fa 65 3)),G 94 90 false (.L (.ldn 36 93)),G 95 90 false (.E (.callP 33 [1] [(.d 92),(.d 94)])),G 96 90 false (.P (.un .not 95)),P 97 (.pick 90 (.k (.b true)) 96),m 98 97,G 99 98 false (.P (.fa 101 2)),G 100 98 false (.L (.ldn 2 99)),G 101 98 false (.P (.fa 101 3)),G 102 98 false (.L (.ldn 2 101)),G 103 98 false (.E (.callP 34 [1] [(.d 100),(.d 102)])),G 104 98 false (.P (.un .not 103)),P 105 (.pick 98 (.k (.b true)) 104)]
def f8 : F:=⟨2,153,u [A 2 (.box (.d 0)),A 3 (.box (.d 1)),P 4 (.mv (.k (.b false)))] (.seq (.seq (.fin [2,3] [2,3,51] [4] [] 2 [] k8_0) (.cond 51 (u [P 4 (.mv (.k (.b false)))]
.ret)
 .skip)) (.seq (.seq (.fin [2,3] [2,3,105] [4] [] 2 [] k8_1) (.cond 105 (u [P 4 (.mv (.k (.b false)))]
.ret)
 .skip)) (u [fa 106 103 2,ld 107 106,fa 108 103 3,ld 109 108,E 110 (.callP 35 [1] [(.d 107),(.d 109)]),m 111 110,G 112 111 true (.P (.fa 104 2)),G 113 111 true (.L (.ld1 112)),G 114 111 true (.P (.fa 104 3)),G 115 111 true (.L (.ld1 114)),G 116 111 true (.E (.callP 36 [1] [(.d 113),(.d 115)])),P 117 (.pick 111 116 (.k (.b false))),m 118 117,G 119 118 true (.P (.fa 105 2)),G 120 118 true (.L (.ld1 119)),G 121 118 true (.P (.fa 105 3)),G 122 118 true (.L (.ld1 121)),G 123 118 true (.E (.callP 37 [1] [(.d 120),(.d 122)])),P 124 (.pick 118 123 (.k (.b false))),m 125 124,G 126 125 true (.P (.fa 106 2)),G 127 125 true (.L (.ld1 126)),G 128 125 true (.P (.fa 106 3)),G 129 125 true (.L (.ld1 128)),G 130 125 true (.E (.callP 38 [1] [(.d 127),(.d 129)])),P 131 (.pick 125 130 (.k (.b false))),m 132 131,G 133 132 true (.P (.fa 107 2)),G 134 132 true (.L (.ld1 133)),G 135 132 true (.P (.fa 107 3)),G 136 132 true (.L (.ld1 135)),G 137 132 true (.E (.callP 39 [1] [(.d 134),(.d 136)])),P 138 (.pick 132 137 (.k (.b false))),m 139 138,G 140 139 true (.P (.fa 108 2)),G 141 139 true (.L (.ld1 140)),G 142 139 true (.P (.fa 108 3)),G 143 139 true (.L (.ld1 142)),G 144 139 true (.E (.callP 40 [1] [(.d 141),(.d 143)])),P 145 (.pick 139 144 (.k (.b false))),m 146 145,G 147 146 true (.P (.fa 109 2)),G 148 146 true (.L (.ld1 147)),G 149 146 true (.P (.fa 109 3)),G 150 146 true (.L (.ld1 149)),G 151 146 true (.E (.callP 27 [1] [(.d 148),(.d 150)])),P 152 (.pick 146 151 (.k (.b false))),m 4 152]
.ret))),[.t 4]⟩
def k3_0 : K:=.reg [m 30 10,P 31 (.len 30),P 32 (.bin .gtr 31 (.k (eI 0))),m 33 32,G 34 33 false (.P (.mv 11)),G 35 33 false (.P (.len 34)),G 36 33 false (.P (.bin .gtr 35 (.k (eI 0)))),P 37 (.pick 33 (.k (.b true)) 36),m 38 37,G 39 38 false (.P (.mv 12)),G 40 38 false (.P (.len 39)),G 41 38 false (.P (.bin .gtr 40 (.k (eI 0)))),P 42 (.pick 38 (.k (.b true)) 41),m 43 42,G 44 43 false (.L (.ldn 2 9)),G 45 43 false (.L (.ldn 2 4)),G 46 43 false (.E (.callP 7 [1] [(.d 44),(.d 45)])),G 47 43 false (.P (.un .not 46)),P 48 (.pick 43 (.k (.b true)) 47),m 49 48,G 50 49 false (.P (.fa 111 8)),G 51 49 false (.L (.ld1 50)),G 52 49 false (.P (.fa 111 3)),G 53 49 false (.L (.ld1 52)),G 54 49 false (.P (.bin .add 53 (.k (eI 1)))),G 55 49 false (.P (.bin .neq 51 54)),P 56 (.pick 49 (.k (.b true)) 55),m 57 56,G 58 57 false (.P (.fa 108 8)),G 59 57 false (.L (.ld1 58)),G 60 57 false (.P (.len 59)),G 61 57 false (.P (.fa 108 3)),G 62 57 false (.L (.ld1 61)),G 63 57 false (.P (.len 62)),G 64 57 false (.P (.bin .neq 60 63)),P 65 (.pick 57 (.k (.b true)) 64),m 66 65,G 67 66 false (.P (.fa 22 8)),G 68 66 false (.L (.ldn 30 67)),G 69 66 false (.P (.fa 22 3)),G 70 66 false (.L (.ldn 30 69)),G 71 66 false (.P (.eqA ksGArch true 68 70)),P 72 (.pick 66 (.k (.b true)) 71),m 73 72,G 74 73 false (.P (.fa 54 8)),G 75 73 false (.L (.ld1 74)),G 76 73 false (.P (.fa 54 3)),G 77 73 false (.L (.ld1 76)),G 78 73 false (.P (.bin .neq 75 77)),P 79 (.pick 73 (.k (.b true)) 78)]
def f3 : F:=⟨3,95,u [A 3 (.box (.d 0)),A 4 (.box (.d 1)),P 6 (.mv (.k (.b false)))] (.seq (u [ln 13 112 3,ln 14 2 4,E 15 (.callP 4 [1] [(.d 13),(.d 14),(.k (eI 0))]),P 16 (.un .not 15)] (.cond 16 (u [E 17 (.callP 5 [1] []),m 6 17]
.ret)
 .skip)) (u [m 18 2,P 19 (.build (eTick GTick.zero) [(1,1,(.k (eU32 31))),(2,1,(.d 18))]),A 7 (.alloc (eTick GTick.zero)),sm 5 7 19] (u [ln 21 112 3,ln 22 2 4,ln 23 5 7,E 24 (.callP 6 [1,1,12,4,1] [(.d 21),(.d 22),(.k (eI 0)),(.d 23)]),m 20 24,ex 25 20 0,ex 26 20 1,ex 27 20 2,ex 28 20 3,ex 29 20 4,A 8 (.alloc (eCore GCore.zero)),A 9 (.alloc (eCoh GCoh.zero)),sm 112 8 25,sm 2 9 26,m 10 27,m 11 28,m 12 29] (.seq (.seq (.fin [3,4,8,9,10,11,12] [3,8,79] [6] [] 5 [] k3_0) (.cond 79 (u [P 6 (.mv (.k (.b false)))]
.ret)
 .skip)) (u [fa 80 108 3,ld 81 80,fa 82 108 8,st 82 81] (u [fa 83 111 3,ld 84 83,fa 85 111 8,st 85 84] (u [fa 86 110 3,ld 87 86,fa 88 110 8,st 88 87] (u [ln 89 112 8,ln 90 112 3,E 91 (.callP 8 [1] [(.d 89),(.d 90)]),m 92 91,G 93 92 true (.E (.callP 5 [1] [])),P 94 (.pick 92 93 (.k (.b false))),m 6 94]
.ret)))))))),[.t 6]⟩
def f23 : F:=⟨1,28,u [E 2 (.acc 2302 1 (.k .sn))] (u [E 3 (.acc 2303 1 (.k .sn))] (.seq (u [m 6 0,P 7 (.len 6),P 8 (.mv (.k (eI 0)))] (.block 0 (.loop (u [P 9 (.bin .lss 8 7)] (.seq (.cond 9 .skip
 (.exit 0)) (.seq (.block 1 (u [P 10 (.ixS 12 6 8),ln 11 12 10,A 5 (.alloc (eEvent GEvent.zero)),sm 12 5 11] (u [fa 12 6 5,ld 13 12,P 14 (.bin .neq 13 (.k (eI 0))),m 15 14,G 16 15 true (.P (.fa 1 5)),G 17 15 true (.L (.ld1 16)),G 18 15 true (.E (.callP 77 [1] [(.d 17)])),P 19 (.pick 15 18 (.k (.b false)))] (.cond 19 (.reg [m 20 3,fa 21 7 5,ld 22 21,E 23 (.callP 78 [1] [(.d 22)]),E 24 (.bldF 1 1 [(eU32 0)] [(0,1,(.d 23))]),E 25 (.appT 1 4 2325 20 24),m 3 25])
 .skip)))) (.reg [P 26 (.bin .add 8 (.k (eI 1))),m 8 26]))))))) (u [m 27 3,m 2 27]
.ret))),[.t 2]⟩
def f25 : F:=⟨1,32,u [E 2 (.acc 2502 35 (.k .sn))] (u [m 5 0,E 6 (.appS 35 256 (.k .sn) 5),m 3 6] (.seq (u [m 7 3,P 8 (.len 7),P 9 (.mv (.k (eI 0)))] (.block 0 (.loop (u [P 10 (.bin .lss 9 8)] (.seq (.cond 10 .skip
 (.exit 0)) (.seq (.block 1 (u [m 11 9,m 4 11] (u [m 12 3,m 13 4,P 14 (.ixS 35 12 13),fa 15 30 14,ld 16 15,P 17 (.bin .gtr 16 (.k (eI 0)))] (.cond 17 (.reg [m 18 3,m 19 4,P 20 (.ixS 35 18 19),fa 21 30 20,ld 22 21,P 23 (.bin .sub 22 (.k (eI 1))),P 24 (.ixS 35 18 19),fa 25 30 24,st 25 23])
 (.reg [m 26 3,m 27 4,P 28 (.ixS 35 26 27),fa 29 30 28,S (.st1 29 (.k (eI 0)))]))))) (.reg [P 30 (.bin .add 9 (.k (eI 1))),m 9 30]))))))) (u [m 31 3,m 2 31]
.ret))),[.t 2]⟩
def f26 : F:=⟨1,36,u [E 2 (.acc 2602 4 (.k .sn))] (u [P 3 (.mv (.k (eI 0)))] (.seq (u [m 9 0,P 10 (.len 9),P 11 (.mv (.k (eI 0)))] (.block 0 (.loop (u [P 12 (.bin .lss 11 10)] (.seq (.cond 12 .skip
 (.exit 0)) (.seq (.block 1 (u [P 13 (.ixS 1 9 11),ld 14 13,m 5 14] (u [m 15 3,m 16 5,P 17 (.len 16),P 18 (.bin .add 15 17),m 3 18] (u [m 19 3,P 20 (.bin .lss 19 (.k (eI 0)))] (.cond 20 (.bad)
 .skip))))) (.reg [P 22 (.bin .add 11 (.k (eI 1))),m 11 22]))))))) (u [m 23 3,E 24 (.call 80 [(.k .sn),23]),m 6 24] (.seq (u [m 25 0,P 26 (.len 25),P 27 (.mv (.k (eI 0)))] (.block 2 (.loop (u [P 28 (.bin .lss 27 26)] (.seq (.cond 28 .skip
 (.exit 2)) (.seq (.block 3 (u [P 29 (.ixS 1 25 27),ld 30 29,m 8 30] (.reg [m 31 6,m 32 8,E 33 (.appT 4 32 2633 31 32),m 6 33]))) (.reg [P 34 (.bin .add 27 (.k (eI 1))),m 27 34]))))))) (u [m 35 6,m 2 35]
.ret))))),[.t 2]⟩
def f80 : F:=⟨2,27,u [E 4 (.acc 8004 4 (.k .sn))] (.seq (u [m 5 1,P 6 (.bin .lss 5 (.k (eI 0)))] (.cond 6 (.bad)
 .skip)) (.seq (u [m 8 1,m 9 0,P 10 (.cap 9),m 11 0,P 12 (.len 11),P 13 (.bin .sub 10 12),P 14 (.bin .sub 8 13),m 1 14] (u [m 15 1,P 16 (.bin .gtr 15 (.k (eI 0)))] (.cond 16 (.reg [m 17 0,m 18 0,P 19 (.cap 18),P 20 (.slS 4 17 none (some 19)),m 21 1,E 22 (.appZ 4 32 [(eI 0),(eI 0),(eU64 0),(eU32 0)] 20 21),m 23 0,P 24 (.len 23),P 25 (.slS 4 22 none (some 24)),m 0 25])
 .skip))) (u [m 26 0,m 4 26]
.ret))),[.t 4]⟩
noncomputable def T0 : T F:=(.n (.n (.n (.n (.n (.n .e (some f31) (.n .e (some f95) .e)) none (.n .e (some f47) (.n (.n .e (some f175) .e) none .e))) (some f7) (.n (.n .e (some f39) .e) (some f23) (.n (.n .e (some f87) .e) none .e))) (some f3) (.n (.n (.n .e (some f35) .e) (some f19) (.n (.n .e (some f83) .e) (some f51) (.n (.n .e (some f179) .e) none .e))) (some f11) (.n (.n (.n (.n (.n .e (some f267) .e) none .e) none .e) (some f43) .e) (some f27) (.n (.n .e (some f91) .e) none .e)))) none (.n (.n (.n (.n .e (some f33) (.n .e (some f97) .e)) (some f17) (.n (.n .e (some f81) .e) (some f49) (.n (.n .e (some f177) .e) none .e))) (some f9) (.n (.n .e (some f41) .e) (some f25) (.n (.n .e (some f89) .e) none .e))) none (.n (.n (.n .e (some f37) .e) (some f21) (.n (.n .e (some f85) .e) none .e)) none (.n (.n .e (some f45) (.n (.n .e (some f173) .e) none .e)) (some f29) (.n (.n .e (some f93) .e) none .e))))) none (.n (.n (.n (.n (.n .e (some f32) (.n .e (some f96) .e)) none (.n (.n .e (some f80) .e) (some f48) (.n (.n .e (some f176) .e) none .e))) (some f8) (.n (.n .e (some f40) .e) (some f24) (.n (.n .e (some f88) .e) none .e))) (some f4) (.n (.n (.n .e (some f36) .e) (some f20) (.n (.n .e (some f84) .e) (some f52) .e)) none (.n (.n (.n (.n (.n .e (some f268) .e) none .e) none .e) (some f44) (.n (.n .e (some f172) .e) none .e)) (some f28) (.n (.n .e (some f92) .e) none .e)))) none (.n (.n (.n (.n .e (some f34) .e) (some f18) (.n (.n .e (some f82) .e) (some f50) (.n (.n .e (some f178) .e) none .e))) (some f10) (.n (.n .e (some f42) (.n .e (some f106) .e)) (some f26) (.n (.n .e (some f90) .e) none .e))) (some f6) (.n (.n (.n .e (some f38) .e) (some f22) (.n (.n .e (some f86) .e) none .e)) none (.n (.n .e (some f46) (.n (.n .e (some f174) .e) none .e)) (some f30) (.n (.n .e (some f94) .e) none .e))))))
def tab : Nat → Option F:=T0.get
theorem t9 : tab 9 = some f9:=rfl
theorem t97 : tab 97 = some f97:=rfl
theorem t52 : tab 52 = some f52:=rfl
theorem t41 : tab 41 = some f41:=rfl
theorem t42 : tab 42 = some f42:=rfl
theorem t84 : tab 84 = some f84:=rfl
theorem t173 : tab 173 = some f173:=rfl
theorem t174 : tab 174 = some f174:=rfl
theorem t85 : tab 85 = some f85:=rfl
theorem t86 : tab 86 = some f86:=rfl
theorem t175 : tab 175 = some f175:=rfl
theorem t87 : tab 87 = some f87:=rfl
theorem t43 : tab 43 = some f43:=rfl
theorem t88 : tab 88 = some f88:=rfl
theorem t44 : tab 44 = some f44:=rfl
theorem t45 : tab 45 = some f45:=rfl
theorem t89 : tab 89 = some f89:=rfl
theorem t46 : tab 46 = some f46:=rfl
theorem t106 : tab 106 = some f106:=rfl
theorem t90 : tab 90 = some f90:=rfl
theorem t47 : tab 47 = some f47:=rfl
theorem t91 : tab 91 = some f91:=rfl
theorem t48 : tab 48 = some f48:=rfl
theorem t49 : tab 49 = some f49:=rfl
theorem t10 : tab 10 = some f10:=rfl
theorem t50 : tab 50 = some f50:=rfl
theorem t176 : tab 176 = some f176:=rfl
theorem t267 : tab 267 = some f267:=rfl
theorem t177 : tab 177 = some f177:=rfl
theorem t92 : tab 92 = some f92:=rfl
theorem t93 : tab 93 = some f93:=rfl
theorem t94 : tab 94 = some f94:=rfl
theorem t178 : tab 178 = some f178:=rfl
theorem t268 : tab 268 = some f268:=rfl
theorem t179 : tab 179 = some f179:=rfl
theorem t95 : tab 95 = some f95:=rfl
theorem t96 : tab 96 = some f96:=rfl
theorem t51 : tab 51 = some f51:=rfl
theorem t11 : tab 11 = some f11:=rfl
theorem t4 : tab 4 = some f4:=rfl
theorem t17 : tab 17 = some f17:=rfl
theorem t18 : tab 18 = some f18:=rfl
theorem t19 : tab 19 = some f19:=rfl
theorem t20 : tab 20 = some f20:=rfl
theorem t21 : tab 21 = some f21:=rfl
theorem t22 : tab 22 = some f22:=rfl
theorem t24 : tab 24 = some f24:=rfl
theorem t6 : tab 6 = some f6:=rfl
theorem t27 : tab 27 = some f27:=rfl
theorem t28 : tab 28 = some f28:=rfl
theorem t7 : tab 7 = some f7:=rfl
theorem t29 : tab 29 = some f29:=rfl
theorem t81 : tab 81 = some f81:=rfl
theorem t30 : tab 30 = some f30:=rfl
theorem t31 : tab 31 = some f31:=rfl
theorem t32 : tab 32 = some f32:=rfl
theorem t172 : tab 172 = some f172:=rfl
theorem t82 : tab 82 = some f82:=rfl
theorem t33 : tab 33 = some f33:=rfl
theorem t83 : tab 83 = some f83:=rfl
theorem t34 : tab 34 = some f34:=rfl
theorem t35 : tab 35 = some f35:=rfl
theorem t36 : tab 36 = some f36:=rfl
theorem t37 : tab 37 = some f37:=rfl
theorem t38 : tab 38 = some f38:=rfl
theorem t39 : tab 39 = some f39:=rfl
theorem t40 : tab 40 = some f40:=rfl
theorem t8 : tab 8 = some f8:=rfl
theorem t3 : tab 3 = some f3:=rfl
theorem t23 : tab 23 = some f23:=rfl
theorem t25 : tab 25 = some f25:=rfl
theorem t26 : tab 26 = some f26:=rfl
theorem t80 : tab 80 = some f80:=rfl
theorem pm {n k : Nat} (h : k + 1 ≤ n) : ∃ m,n = m + 1:=⟨n - 1,by omega⟩
def EV (n : Nat) : Call:=evM (callOne 5) tab LF n
theorem EV_at {n f : Nat} {F : F} (ht : tab f = some F) (args : List V) (h : H) (hf : Nat.beq f 5 = false:=by rfl) : EV (n + 1) f args h = runF (EV n) LF F args h:=by
 have e : callOne 5 f args h = none:=by
   unfold callOne
   split
   · rw [hf]; rfl
   · rfl
 show evM (callOne 5) tab LF (n + 1) f args h = _
 simp only [evM,e,ht]
 rfl
theorem cl5 {n : Nat} (hn : 1 ≤ n) (qs : List Nat) (h : H) : callPv (EV n) 5 qs [] h = some (.b true,h):=by
 obtain ⟨m,rfl⟩:=pm hn
 have e : EV (m + 1) 5 [] ⟨0,.e,.e,.e⟩ = some (.b true,⟨0,.e,.e,.e⟩):=rfl
 simp only [callPv,List.all_nil,cond_true,e]
 rfl
theorem cl23 {n : Nat} (hn : 1 ≤ n) (qs : List Nat) (h : H) : callPv (EV n) 23 qs [eSl 12 eEvent []] h = some (eSl 1 cU32 [],h):=by
 obtain ⟨m,rfl⟩:=pm hn
 rfl
theorem clt23 {n : Nat} (hn : 1 ≤ n) (k : Nat) (h : H) : callTv (EV n) k 23 [eSl 12 eEvent []] h = some (eTk k (h.ep k) 1 cU32 [],⟨h.nb,h.bl,h.gr,h.tk.set k (h.ep k,0,1)⟩):=by
 obtain ⟨m,rfl⟩:=pm hn
 rfl
theorem cl26 {n : Nat} (hn : 2 ≤ n) (qs : List Nat) (h : H) : callPv (EV n) 26 qs [eSl 1 (cSl 4 eNote) ([[],[],[],[],[]])] h = some (eSl 4 eNote [],h):=by
 obtain ⟨m,rfl⟩ : ∃ m,n = m + 2:=⟨n - 2,by omega⟩
 rfl
theorem clt26 {n : Nat} (hn : 2 ≤ n) (k : Nat) (h : H) : callTv (EV n) k 26 [eSl 1 (cSl 4 eNote) ([[],[],[],[],[]])] h = some (eTk k (h.ep k) 4 eNote [],⟨h.nb,h.bl,h.gr,h.tk.set k (h.ep k,0,4)⟩):=by
 obtain ⟨m,rfl⟩ : ∃ m,n = m + 2:=⟨n - 2,by omega⟩
 rfl
end
end Go.Ev
