/- The functions that a closed call comes to, compiled: part 1 (printed by a program). -/
import Derived.Test.YtoppeebbioalcaaGreatDoorEvE
set_option maxRecDepth 100000
namespace Go.Proofs.YtoppeebbioalcaaGreatDoor.Run
open Go.Ev Go.Ev.S1 Go.Ev.S2
noncomputable section
def d6 : F:=⟨4,103,u [A 4 (.box (.d 0)),A 5 (.box (.d 1)),A 7 (.box (.d 3)),A 8 (.alloc (rp 21 (i 0) ((.b false)::rp 29 (j 0) ((.b false)::.sn::.sn::(j 0)::(.b false)::(j 0)::.sn::.sn::(i 0)::.sn::(i 0)::.sn::(i 0)::.sn::rp 32 (i 0) (.sn::(i 0)::(i 0)::(.i .u64 0)::rp 9 .sn ([(i 0),(i 0)])))))),A 9 (.alloc [.sn,.sn]),P 10 (.mv (.k .sn)),P 11 (.mv (.k .sn)),P 12 (.mv (.k .sn))]
(u [fa 23 22 4,ln 24 30 23,fa 25 0 7,ld 26 25,E 27 (.call 17 [24,26]),fa 28 22 4,sm 30 28 27]
(u [ln 30 112 4,ln 31 2 5,m 32 2,ln 33 5 7,E 34 (.call 18 [30,31,32,33]),m 29 34,ex 35 29 0,ex 36 29 1,ex 37 29 2,ex 38 29 3,ex 39 29 4,sm 112 4 35,sm 2 5 36,m 13 37,m 14 38,m 15 39]
(u [ln 41 112 4,ln 42 5 7,E 43 (.call 19 [41,42]),m 40 43,ex 44 40 0,ex 45 40 1,sm 112 4 44,m 16 45]
(u [ln 47 112 4,ln 48 2 5,m 49 2,ln 50 5 7,E 51 (.call 20 [47,48,49,50]),m 46 51,ex 52 46 0,ex 53 46 1,ex 54 46 2,sm 112 4 52,sm 2 5 53,m 17 54]
(u [ln 56 112 4,ln 57 5 7,E 58 (.call 21 [56,57]),m 55 58,ex 59 55 0,ex 60 55 1,sm 112 4 59,m 18 60]
(u [ln 62 112 4,ln 63 5 7,E 64 (.call 22 [62,63]),m 61 64,ex 65 61 0,ex 66 61 1,sm 112 4 65,m 19 66]
(u [m 67 13,E 68 (.call 23 [67]),m 20 68]
(u [ln 70 112 4,ln 71 2 5,m 72 2,ln 73 5 7,E 74 (.call 24 [70,71,72,73]),m 69 74,ex 75 69 0,ex 76 69 1,ex 77 69 2,ex 78 69 3,sm 112 4 75,sm 2 5 76,m 21 77,m 22 78]
(.seq (u [m 79 22]
(.cond 79 (.reg [m 80 20,m 81 21,A 82 (.buildSl 1 1 [(j 0)] [(0,1,(.d 81))]),E 83 (.appS 1 4 80 82),m 20 83])
.skip))
(u [fa 84 108 4,ld 85 84,E 86 (.call 25 [85]),fa 87 108 4,st 87 86]
(u [fa 88 111 4,ld 89 88,bi 90 .add 89 (k 1),fa 91 111 4,st 91 90]
(.seq (.dreg [a 3 (m 95 15),a 4 (m 96 16),a 5 (m 97 17),a 6 (m 98 18),a 7 (m 99 19),a 8 (A 100 (.buildSl 1 5 [.sn,.sn,.sn,.sn,.sn] [(0,1,(.d 95)),(1,1,(.d 96)),(2,1,(.d 97)),(3,1,(.d 98)),(4,1,(.d 99))])),z 9 (E 101 (.call 26 [100])),⟨0,ln 92 112 4,1,1⟩,a 11 (sm 112 8 92),⟨1,ln 93 2 5,1,2⟩,a 12 (sm 2 9 93),a 2 (m 94 13),a 10 (m 102 20),a 13 (m 10 94),a 14 (m 11 101),a 15 (m 12 102)])
.ret)))))))))))),[.cn 8 112,.cn 9 2,.t 10,.t 11,.t 12]⟩
def d15 : F:=⟨4,27,u [A 8 (.alloc [.sn,.sn])]
(u [m 10 0,m 11 1,m 12 2,E 13 (.call 60 [11,12]),A 14 (.buildSl 1 1 [.sn] [(0,1,(.d 13))]),P 15 (.build [.sn,.sn] [(0,1,(.d 10)),(1,1,(.d 14))]),A 9 (.alloc [.sn,.sn]),sm 2 9 15]
(.seq (u [m 16 3,bi 17 .gtr 16 (k 1)]
(.cond 17 (.dreg [a 2 (m 20 1),a 3 (m 21 2),a 4 (E 22 (.call 60 [20,21])),a 0 (fa 18 1 9),⟨1,ld 19 18,1,1⟩,a 5 (A 23 (.buildSl 1 1 [.sn] [(0,1,(.d 22))])),z 6 (E 24 (.appS 1 24 19 23)),a 7 (fa 25 1 9),a 8 (st 25 24)])
.skip))
(u [ln 26 2 9,sm 2 8 26]
.ret))),[.cn 8 2]⟩
def d19 : F:=⟨2,43,u [A 2 (.box (.d 0)),A 3 (.box (.d 1)),A 4 (.alloc (rp 21 (i 0) ((.b false)::rp 29 (j 0) ((.b false)::.sn::.sn::(j 0)::(.b false)::(j 0)::.sn::.sn::(i 0)::.sn::(i 0)::.sn::(i 0)::.sn::rp 32 (i 0) (.sn::(i 0)::(i 0)::(.i .u64 0)::rp 9 .sn ([(i 0),(i 0)])))))),P 5 (.mv (.k .sn))]
(.seq (u [fa 11 1 3,ld 12 11,P 13 (.bin .and 12 (.k (j 8))),P 14 (.bin .neq 13 (.k (j 0)))]
(.cond 14 (u [ln 15 112 2,sm 112 4 15,P 5 (.mv (.k .sn))]
.ret)
.skip))
(u [P 6 (.mv (.k .sn))]
(.seq (u [fa 16 108 2,ld 17 16,E 18 (.call 63 [17]),P 19 (.len 18),P 20 (.mv (k 0))]
(.block 0 (.loop (u [bi 21 .lss 20 19]
(.seq (.cond 21 .skip
(.exit 0))
(.seq (.block 1 (u [P 22 (.ixS 35 18 20),ln 23 35 22,A 8 (.alloc ((i 0)::(i 0)::(i 0)::(i 0)::(i 0)::(j 0)::(j 0)::(i 0)::(j 0)::(.b false)::(j 0)::(j 0)::(i 0)::(j 0)::(i 0)::(i 0)::(.b false)::(i 0)::(i 0)::(i 0)::(i 0)::(i 0)::(j 0)::(.i .u64 0)::rp 7 (i 0) ([(j 0),(j 0),(i 0),(j 0)]))),sm 35 8 23]
(u [fa 24 108 2,ld 25 24,fa 26 0 8,fa 27 23 26,ld 28 27,E 29 (.call 64 [25,28])]
(.cond 29 (u [ln 31 112 2,ln 32 35 8,E 33 (.call 65 [31,32]),m 30 33,ex 34 30 0,ex 35 30 1,A 9 (.alloc (rp 21 (i 0) ((.b false)::rp 29 (j 0) ((.b false)::.sn::.sn::(j 0)::(.b false)::(j 0)::.sn::.sn::(i 0)::.sn::(i 0)::.sn::(i 0)::.sn::rp 32 (i 0) (.sn::(i 0)::(i 0)::(.i .u64 0)::rp 9 .sn ([(i 0),(i 0)])))))),sm 112 9 34,m 10 35]
(u [ln 36 112 9,sm 112 2 36]
(.reg [m 37 6,m 38 10,E 39 (.appS 4 32 37 38),m 6 39])))
.skip))))
(.reg [bi 40 .add 20 (k 1),m 20 40])))))))
(u [ln 41 112 2,m 42 6,sm 112 4 41,m 5 42]
.ret)))),[.cn 4 112,.t 5]⟩
def d23 : F:=⟨1,28,u [P 2 (.mv (.k .sn))]
(u [P 3 (.mv (.k .sn))]
(.seq (u [m 6 0,P 7 (.len 6),P 8 (.mv (k 0))]
(.block 0 (.loop (u [bi 9 .lss 8 7]
(.seq (.cond 9 .skip
(.exit 0))
(.seq (.block 1 (u [P 10 (.ixS 12 6 8),ln 11 12 10,A 5 (.alloc ([(j 0),(j 0),(i 0),(j 0),(i 0),(j 0),(i 0),(j 0),(j 0),(i 0),(j 0),(j 0)])),sm 12 5 11]
(u [fa 12 6 5,ld 13 12,bi 14 .neq 13 (k 0),m 15 14,G 16 15 true (.P (.fa 1 5)),G 17 15 true (.L (.ld1 16)),G 18 15 true (.E (.call 77 [17])),P 19 (.pick 15 18 (.k (.b false)))]
(.cond 19 (.reg [m 20 3,fa 21 7 5,ld 22 21,E 23 (.call 78 [22]),A 24 (.buildSl 1 1 [(j 0)] [(0,1,(.d 23))]),E 25 (.appS 1 4 20 24),m 3 25])
.skip))))
(.reg [bi 26 .add 8 (k 1),m 8 26])))))))
(u [m 27 3,m 2 27]
.ret))),[.t 2]⟩
def d50 : F:=⟨1,17,u [P 2 (.mv (.k (.b false)))]
(u [m 3 0,P 4 (.len 3),bi 5 .rem 4 (k 64),bi 6 .eql 5 (k 0),m 7 6,G 8 7 true (.P (.mv 0)),G 9 7 true (.P (.len 8)),G 10 7 true (.P (.bin .geq 9 (k 64))),P 11 (.pick 7 10 (.k (.b false))),m 12 11,G 13 12 true (.P (.mv 0)),G 14 12 true (.P (.len 13)),G 15 12 true (.P (.bin .leq 14 (k 16384))),P 16 (.pick 12 15 (.k (.b false))),m 2 16]
.ret),[.t 2]⟩
def d55 : F:=⟨1,6,u [P 2 (.mv (.k .sn))]
(u [m 3 0,E 4 (.call 102 [3,(k 0),(k 8)]),A 5 (.mkSl 4 24 [(.b false),(j 0),(j 0),(i 0)] 4 4),m 2 5]
.ret),[.t 2]⟩
def d59 : F:=⟨3,23,u [A 3 (.box (.d 0)),A 6 (.alloc [.sn,.sn])]
(u [ln 8 2 3,E 9 (.call 105 [8]),A 7 (.alloc [.sn,.sn]),sm 2 7 9]
(.seq (u [ln 10 2 3,m 11 1,E 12 (.call 106 [10,11])]
(.cond 12 (u [fa 13 0 7,ld 14 13,m 15 1,m 16 2,P 17 (.ixS 1 14 15),st 17 16]
(.reg [fa 18 1 7,ld 19 18,m 20 1,P 21 (.ixS 1 19 20),S (.st1 21 (.k (.b true)))]))
.skip))
(u [ln 22 2 7,sm 2 6 22]
.ret))),[.cn 6 2]⟩
def d63 : F:=⟨1,22,u [P 2 (.mv (.k .sn))]
(u [P 3 (.mv (.k .sn))]
(.seq (u [m 6 0,P 7 (.len 6),P 8 (.mv (k 0))]
(.block 0 (.loop (u [bi 9 .lss 8 7]
(.seq (.cond 9 .skip
(.exit 0))
(.seq (.block 1 (u [P 10 (.ixS 35 6 8),ln 11 35 10,A 5 (.alloc ((i 0)::(i 0)::(i 0)::(i 0)::(i 0)::(j 0)::(j 0)::(i 0)::(j 0)::(.b false)::(j 0)::(j 0)::(i 0)::(j 0)::(i 0)::(i 0)::(.b false)::(i 0)::(i 0)::(i 0)::(i 0)::(i 0)::(j 0)::(.i .u64 0)::rp 7 (i 0) ([(j 0),(j 0),(i 0),(j 0)]))),sm 35 5 11]
(u [fa 12 30 5,ld 13 12,bi 14 .leq 13 (k 0)]
(.cond 14 (.reg [m 15 3,ln 16 35 5,A 17 (.buildSl 35 1 ((i 0)::(i 0)::(i 0)::(i 0)::(i 0)::(j 0)::(j 0)::(i 0)::(j 0)::(.b false)::(j 0)::(j 0)::(i 0)::(j 0)::(i 0)::(i 0)::(.b false)::(i 0)::(i 0)::(i 0)::(i 0)::(i 0)::(j 0)::(.i .u64 0)::rp 7 (i 0) ([(j 0),(j 0),(i 0),(j 0)])) [(0,35,(.d 16))]),E 18 (.appS 35 256 15 17),m 3 18])
.skip))))
(.reg [bi 19 .add 8 (k 1),m 8 19])))))))
(u [m 20 3,E 21 (.call 121 [20,(.k (.fn 122 [] []))]),m 2 21]
.ret))),[.t 2]⟩
def d67 : F:=⟨1,26,u [A 1 (.box (.d 0)),P 2 (.mv (.k .sn))]
(u [P 3 (.mv (.k .sn))]
(.seq (u [ld 6 1,P 7 (.len 6),P 8 (.mv (k 0))]
(.block 0 (.loop (u [bi 9 .lss 8 7]
(.seq (.cond 9 .skip
(.exit 0))
(.seq (.block 1 (u [m 10 8,P 11 (.ixS 32 6 8),ln 12 32 11,A 5 (.alloc ([(i 0),(i 0),(i 0),(i 0),(i 0),(j 0),(j 0),(i 0),(j 0),(.b false),(j 0),(j 0),(i 0),(j 0),(i 0),(i 0),(.b false),(i 0),(i 0),(i 0),(i 0),(i 0),(j 0),(.i .u64 0),(i 0),(i 0),(i 0),(i 0),(i 0),(.b false),(.b false),(.b false)])),m 4 10,sm 32 5 12]
(u [fa 13 29 5,ln 14 3 13,P 15 (.build [(.b false),(.b false),(.b false)] [(0,1,(.k (.b true))),(1,1,(.k (.b true))),(2,1,(.k (.b true)))]),P 16 (.eqA [.b,.b,.b] false 14 15)]
(.cond 16 (.reg [m 17 3,m 18 4,A 19 (.buildSl 1 1 [(i 0)] [(0,1,(.d 18))]),E 20 (.appS 1 8 17 19),m 3 20])
.skip))))
(.reg [bi 21 .add 8 (k 1),m 8 21])))))))
(u [m 22 3,P 23 (.mkf 131 [] [1]),E 24 (.call 130 [22,23])]
(u [m 25 3,m 2 25]
.ret)))),[.t 2]⟩
def d71 : F:=⟨2,28,u [A 3 (.box (.d 1)),P 4 (.mv (.k .sn)),A 5 (.alloc ([(i 0),(i 0),(i 0),(i 0),(i 0),(j 0),(j 0),(i 0),(j 0),(.b false),(j 0),(j 0),(i 0),(j 0),(i 0),(i 0),(.b false),(i 0),(i 0),(i 0),(i 0),(i 0),(j 0),(.i .u64 0),(i 0),(i 0),(i 0),(i 0),(i 0)])),P 6 (.mv (.k (.b false)))]
(u [m 8 0,P 9 (.mkf 146 [] [3]),E 10 (.call 145 [8,9]),m 7 10]
(.seq (u [m 11 7,bi 12 .lss 11 (k 0)]
(.cond 12 (u [P 13 (.build ([(i 0),(i 0),(i 0),(i 0),(i 0),(j 0),(j 0),(i 0),(j 0),(.b false),(j 0),(j 0),(i 0),(j 0),(i 0),(i 0),(.b false),(i 0),(i 0),(i 0),(i 0),(i 0),(j 0),(.i .u64 0),(i 0),(i 0),(i 0),(i 0),(i 0)]) []),P 4 (.mv (.k .sn)),sm 29 5 13,P 6 (.mv (.k (.b false)))]
.ret)
.skip))
(.seq (.dreg [a 0 (m 14 0),a 1 (m 15 7),a 2 (P 16 (.slS 32 14 none (some 15))),a 3 (m 17 0),a 4 (m 18 7),a 5 (bi 19 .add 18 (k 1)),a 6 (P 20 (.slS 32 17 (some 19) none)),a 7 (A 21 (.buildSl 1 2 [.sn,.sn] [(0,1,(.d 16)),(1,1,(.d 20))])),z 8 (E 22 (.call 147 [21])),a 9 (m 23 0),a 10 (m 24 7),a 11 (P 25 (.ixS 32 23 24)),a 12 (fa 26 0 25),⟨13,ln 27 29 26,1,1⟩,a 14 (m 4 22),a 15 (sm 29 5 27),a 16 (P 6 (.mv (.k (.b true))))])
.ret))),[.t 4,.cn 5 29,.t 6]⟩
def d75 : F:=⟨6,60,u [A 6 (.box (.d 0)),A 7 (.box (.d 1)),A 9 (.box (.d 3)),P 12 (.mv (.k .sn)),A 13 (.alloc [(j 0),.sn,.sn,(i 0),.sn,(i 0)]),P 14 (.mv (.k (j 0))),P 15 (.mv (.k (.b false)))]
(u [P 16 (.mv (.k .sn))]
(.seq (u [fa 18 0 6,ld 19 18,P 20 (.mx [19,(k 0)]),m 21 5,P 22 (.mx [21,(k 0)]),P 23 (.mn [20,(k 4),22,(k 16)]),P 24 (.mv (k 0))]
(.block 0 (.loop (u [bi 25 .lss 24 23]
(.seq (.cond 25 .skip
(.exit 0))
(.seq (.block 1 (u [A 17 (.alloc [(j 0),(j 0),(i 0),(j 0),(.b false),(j 0),(j 0),(i 0),(j 0)])]
(u [ln 27 22 6,ln 28 30 7,m 29 2,ln 30 6 9,m 31 4,E 32 (.call 166 [27,28,29,30,31]),m 26 32,ex 33 26 0,ex 34 26 1,sm 9 17 33,sm 6 9 34]
(u [m 35 16,ln 36 9 17,A 37 (.buildSl 9 1 [(j 0),(j 0),(i 0),(j 0),(.b false),(j 0),(j 0),(i 0),(j 0)] [(0,9,(.d 36))]),E 38 (.appS 9 56 35 37),m 16 38]
(u [ln 39 9 17,E 40 (.call 167 [39]),m 4 40]
(.seq (u [ln 41 9 17,E 42 (.call 168 [41])]
(.cond 42 (.seq (.dreg [a 0 (m 43 16),a 1 (ln 44 6 9),a 3 (m 12 43),a 4 (sm 6 13 44),a 2 (m 45 4),a 5 (m 14 45),a 6 (P 15 (.mv (.k (.b true))))])
.ret)
.skip))
(u [fa 46 4 17,fa 47 0 46,ld 48 47,m 49 48,G 50 49 false (.P (.fa 0 17)),G 51 49 false (.L (.ld1 50)),G 52 49 false (.P (.bin .add 51 (.k (j 4)))),G 53 49 false (.P (.bin .rem 52 (.k (j 64)))),G 54 49 false (.P (.bin .eql 53 (.k (j 0)))),P 55 (.pick 49 (.k (.b true)) 54)]
(.cond 55 (.exit 0)
.skip))))))))
(.reg [bi 56 .add 24 (k 1),m 24 56])))))))
(.seq (.dreg [a 0 (m 57 16),a 1 (ln 58 6 9),a 3 (m 12 57),a 4 (sm 6 13 58),a 2 (m 59 4),a 5 (m 14 59),a 6 (P 15 (.mv (.k (.b false))))])
.ret))),[.t 12,.cn 13 6,.t 14,.t 15]⟩
def d97 : F:=⟨3,15,u [P 6 (.mv (.k (.b false)))]
(u [m 7 0,m 8 1,bi 9 .geq 7 8,m 10 9,G 11 10 true (.P (.mv 0)),G 12 10 true (.P (.mv 2)),G 13 10 true (.P (.bin .leq 11 12)),P 14 (.pick 10 13 (.k (.b false))),m 6 14]
.ret),[.t 6]⟩
def d101 : F:=⟨1,19,u [P 2 (.mv (.k .sn))]
(u [A 5 (.buildSl 1 0 [] []),m 3 5]
(.seq (u [P 4 (.mv (k 0))]
(.block 0 (.loop (.seq (u [m 6 4,m 7 0,bi 8 .lss 6 7,m 9 8,G 10 9 true (.P (.mv 4)),G 11 9 true (.P (.bin .lss 10 (k 16))),P 12 (.pick 9 11 (.k (.b false)))]
(.cond 12 .skip
(.exit 0)))
(.seq (.block 1 (.reg [m 15 3,A 16 (.buildSl 1 1 [(j 0)] [(0,1,(.k (j 0)))]),E 17 (.appS 1 4 15 16),m 3 17]))
(.reg [m 13 4,bi 14 .add 13 (k 1),m 4 14]))))))
(u [m 18 3,m 2 18]
.ret))),[.t 2]⟩
def d105 : F:=⟨1,12,u [A 1 (.box (.d 0)),A 2 (.alloc [.sn,.sn])]
(.seq (.dreg [a 0 (A 3 (.buildSl 1 0 [] [])),z 1 (fa 4 0 1),⟨2,ld 5 4,0,1⟩,z 3 (E 6 (.appS 1 4 3 5)),a 4 (A 7 (.buildSl 1 0 [] [])),z 5 (fa 8 1 1),⟨6,ld 9 8,0,2⟩,z 7 (E 10 (.appS 1 1 7 9)),a 8 (P 11 (.build [.sn,.sn] [(0,1,(.d 6)),(1,1,(.d 10))])),a 9 (sm 2 2 11)])
.ret),[.cn 2 2]⟩
def d110 : F:=⟨1,24,u [P 2 (.mv (k 0))]
(u [P 3 (.mv (k 0))]
(.seq (u [m 6 0,P 7 (.len 6),P 8 (.mv (k 0))]
(.block 0 (.loop (u [bi 9 .lss 8 7]
(.seq (.cond 9 .skip
(.exit 0))
(.seq (.block 1 (u [m 10 8,P 11 (.ixS 35 6 8),ln 12 35 11,A 5 (.alloc ([(i 0),(i 0),(i 0),(i 0),(i 0),(j 0),(j 0),(i 0),(j 0),(.b false),(j 0),(j 0),(i 0),(j 0),(i 0),(i 0),(.b false),(i 0),(i 0),(i 0),(i 0),(i 0),(j 0),(.i .u64 0),(i 0),(i 0),(i 0),(i 0),(i 0),(.b false),(j 0),(j 0),(i 0),(j 0),(.b false)])),m 4 10,sm 35 5 12]
(.seq (u [ln 13 35 5,E 14 (.call 187 [13]),P 15 (.un .not 14)]
(.cond 15 (.exit 0)
.skip))
(u [fa 16 0 5,fa 17 0 16,fa 18 16 17,ld 19 18]
(.cond 19 (.reg [m 20 4,bi 21 .add 20 (k 1),m 3 21])
.skip)))))
(.reg [bi 22 .add 8 (k 1),m 8 22])))))))
(u [m 23 3,m 2 23]
.ret))),[.t 2]⟩
def d114 : F:=⟨2,8,u [A 2 (.box (.d 0)),P 4 (.mv (.k (.b false)))]
(u [m 5 1,P 6 (.mkf 190 [] [2]),E 7 (.call 189 [5,6]),m 4 7]
.ret),[.t 4]⟩
def d119 : F:=⟨2,125,u [P 4 (.mv (.k (.b false)))]
(u [m 15 0,P 16 (.nilck 15),fa 17 0 16,ln 18 112 17,A 5 (.alloc (rp 21 (i 0) ((.b false)::rp 29 (j 0) ((.b false)::.sn::.sn::(j 0)::(.b false)::(j 0)::.sn::.sn::(i 0)::.sn::(i 0)::.sn::(i 0)::.sn::rp 32 (i 0) (.sn::(i 0)::(i 0)::(.i .u64 0)::rp 9 .sn ([(i 0),(i 0)])))))),sm 112 5 18,P 6 (.mv (.k (.b true)))]
(.seq (u [m 19 1,P 20 (.len 19),P 21 (.mv (k 0))]
(.block 0 (.loop (u [bi 22 .lss 21 20]
(.seq (.cond 22 .skip
(.exit 0))
(.seq (.block 1 (u [P 23 (.ixS 35 19 21),ln 24 35 23,A 8 (.alloc ([(i 0),(i 0),(i 0),(i 0),(i 0),(j 0),(j 0),(i 0),(j 0),(.b false),(j 0),(j 0),(i 0),(j 0),(i 0),(i 0),(.b false),(i 0),(i 0),(i 0),(i 0),(i 0),(j 0),(.i .u64 0),(i 0),(i 0),(i 0),(i 0),(i 0),(.b false),(j 0),(j 0),(i 0),(j 0),(.b false)])),sm 35 8 24]
(u [ln 26 112 5,ln 27 35 8,E 28 (.call 202 [26,27]),m 25 28,ex 29 25 0,ex 30 25 1,sm 112 5 29,m 6 30]
(u [m 31 6,P 32 (.un .not 31)]
(.cond 32 (u [P 4 (.mv (.k (.b false)))]
.ret)
.skip)))))
(.reg [bi 33 .add 21 (k 1),m 21 33])))))))
(u [m 34 1,m 35 0,P 36 (.nilck 35),fa 37 0 36,fa 38 22 37,ln 39 30 38,E 40 (.call 117 [34,39]),A 9 (.alloc ([(j 0),(j 0),(i 0),(j 0),(i 0),(j 0),(i 0),(j 0),(j 0),(i 0),(j 0),(j 0)])),sm 12 9 40]
(u [m 41 0,P 42 (.nilck 41),fa 43 0 42,fa 44 22 43,ln 45 30 44,E 46 (.call 203 [45]),m 10 46]
(.seq (u [fa 47 4 9,ld 48 47,fa 49 5 9,ld 50 49,P 51 (.build [(i 0),(j 0)] [(0,1,(.d 48)),(1,1,(.d 50))]),fa 52 2 9,ld 53 52,fa 54 3 9,ld 55 54,P 56 (.build [(i 0),(j 0)] [(0,1,(.d 53)),(1,1,(.d 55))]),P 57 (.build [(i 0),(j 0),(i 0),(j 0)] [(0,2,(.d 51)),(2,2,(.d 56))]),P 58 (.mv (k 0))]
(.block 2 (.loop (u [bi 59 .lss 58 (k 2)]
(.seq (.cond 59 .skip
(.exit 2))
(.seq (.block 3 (u [P 60 (.idAn 2 2 57 58),A 12 (.alloc [(i 0),(j 0)]),sm 2 12 60]
(u [fa 61 0 12,ld 62 61,E 63 (.call 204 [62])]
(.cond 63 (.reg [fa 64 0 12,ld 65 64,fa 66 1 12,ld 67 66,fa 68 22 5,fa 69 1 68,P 70 (.ixA 16 1 69 65),st 70 67])
.skip))))
(.reg [bi 71 .add 58 (k 1),m 58 71])))))))
(u [fa 72 11 9,ld 73 72,fa 74 22 5,fa 75 0 74,st 75 73]
(u [fa 76 22 5,ln 77 30 76,E 78 (.call 205 [77]),fa 79 22 5,sm 30 79 78]
(u [m 80 0,ln 81 112 5,P 82 (.nilck 80),fa 83 0 82,sm 112 83 81]
(u [m 84 0,P 85 (.nilck 84),fa 86 115 85,ld 87 86,bi 88 .add 87 (k 1),P 89 (.nilck 84),fa 90 115 89,st 90 88]
(.seq (u [m 91 1,P 92 (.len 91),P 93 (.mv (k 0))]
(.block 4 (.loop (u [bi 94 .lss 93 92]
(.seq (.cond 94 .skip
(.exit 4))
(.seq (.block 5 (u [P 95 (.ixS 35 91 93),ln 96 35 95,A 14 (.alloc ([(i 0),(i 0),(i 0),(i 0),(i 0),(j 0),(j 0),(i 0),(j 0),(.b false),(j 0),(j 0),(i 0),(j 0),(i 0),(i 0),(.b false),(i 0),(i 0),(i 0),(i 0),(i 0),(j 0),(.i .u64 0),(i 0),(i 0),(i 0),(i 0),(i 0),(.b false),(j 0),(j 0),(i 0),(j 0),(.b false)])),sm 35 14 96]
(.reg [m 97 0,ln 98 35 14,E 99 (.call 201 [97,98])])))
(.reg [bi 100 .add 93 (k 1),m 93 100])))))))
(.seq (u [m 101 10,P 102 (.un .not 101)]
(.cond 102 (.seq (.dreg [a 1 (m 104 0),a 2 (P 105 (.nilck 104)),a 3 (fa 106 116 105),a 4 (ld 107 106),a 5 (ln 108 12 9),a 6 (A 109 (.buildSl 12 1 ([(j 0),(j 0),(i 0),(j 0),(i 0),(j 0),(i 0),(j 0),(j 0),(i 0),(j 0),(j 0)]) [(0,12,(.d 108))])),z 7 (E 110 (.appS 12 72 107 109)),a 0 (m 103 0),a 8 (P 111 (.nilck 103)),a 9 (fa 112 116 111),a 10 (st 112 110)])
(u [P 4 (.mv (.k (.b true)))]
.ret))
.skip))
(u [fa 113 22 5,ln 114 30 113,fa 115 22 5,fa 116 0 115,ld 117 116,E 118 (.call 185 [114,(k 10),(.k (j 0)),117]),P 119 (.fld1 0 118),fa 120 9 9,S (.st1 120 (k 10)),fa 121 11 9,st 121 119]
(u [m 122 0,ln 123 12 9,E 124 (.call 116 [122,(k 10),(.k (j 0)),123])]
(u [P 4 (.mv (.k (.b false)))]
.ret)))))))))))))),[.t 4]⟩
def d124 : F:=⟨3,28,u [A 3 (.box (.d 0)),A 6 (.alloc [.sn,.sn])]
(.seq (.dreg [a 0 (fa 8 0 3),a 1 (ld 9 8),a 2 (E 10 (.call 210 [9])),a 3 (fa 11 1 3),⟨4,ld 12 11,1,1⟩,a 5 (E 13 (.call 211 [12])),a 6 (P 14 (.build [.sn,.sn] [(0,1,(.d 10)),(1,1,(.d 13))])),a 7 (A 7 (.alloc [.sn,.sn])),z 8 (sm 2 7 14)])
(.seq (u [ln 15 2 3,m 16 1,E 17 (.call 212 [15,16])]
(.cond 17 (.dreg [a 0 (fa 18 0 7),a 1 (ld 19 18),a 2 (m 20 1),a 6 (m 24 2),a 7 (P 25 (.ixS 1 19 20)),a 8 (st 25 24),a 3 (fa 21 1 7),⟨4,ld 22 21,1,1⟩,a 5 (m 23 1),a 9 (P 26 (.ixS 1 22 23)),a 10 (S (.st1 26 (.k (.b true))))])
.skip))
(u [ln 27 2 7,sm 2 6 27]
.ret))),[.cn 6 2]⟩
def d130 : F:=⟨2,9,.reg [m 4 0,m 5 0,P 6 (.len 5),m 7 1,E 8 (.call 224 [4,6,7])],[]⟩
def d142 : F:=⟨2,25,u [A 2 (.box (.d 0)),A 3 (.box (.d 1)),A 4 (.alloc [(j 0),(j 0),(j 0)])]
(u [A 5 (.alloc [(j 0),(j 0),(j 0)])]
(.seq (u [fa 8 24 3,ln 9 3 8,P 10 (.mv (k 0))]
(.block 0 (.loop (u [bi 11 .lss 10 (k 3)]
(.seq (.cond 11 .skip
(.exit 0))
(.seq (.block 1 (u [m 12 10,P 13 (.idA1 3 9 10),m 6 12,m 7 13]
(.reg [m 15 6,fa 16 101 2,ln 17 2 16,m 18 7,E 19 (.call 158 [17,18]),m 14 19,ex 20 14 0,ex 21 14 1,P 22 (.ixA 3 1 5 15),st 22 20])))
(.reg [bi 23 .add 10 (k 1),m 10 23])))))))
(u [ln 24 3 5,sm 3 4 24]
.ret))),[.cn 4 3]⟩
def d147 : F:=⟨1,36,u [P 2 (.mv (.k .sn))]
(u [P 3 (.mv (k 0))]
(.seq (u [m 9 0,P 10 (.len 9),P 11 (.mv (k 0))]
(.block 0 (.loop (u [bi 12 .lss 11 10]
(.seq (.cond 12 .skip
(.exit 0))
(.seq (.block 1 (u [P 13 (.ixS 1 9 11),ld 14 13,m 5 14]
(u [m 15 3,m 16 5,P 17 (.len 16),bi 18 .add 15 17,m 3 18]
(u [m 19 3,bi 20 .lss 19 (k 0)]
(.cond 20 (.bad)
.skip)))))
(.reg [bi 22 .add 11 (k 1),m 11 22])))))))
(u [m 23 3,E 24 (.call 246 [(.k .sn),23]),m 6 24]
(.seq (u [m 25 0,P 26 (.len 25),P 27 (.mv (k 0))]
(.block 2 (.loop (u [bi 28 .lss 27 26]
(.seq (.cond 28 .skip
(.exit 2))
(.seq (.block 3 (u [P 29 (.ixS 1 25 27),ld 30 29,m 8 30]
(.reg [m 31 6,m 32 8,E 33 (.appS 32 224 31 32),m 6 33])))
(.reg [bi 34 .add 27 (k 1),m 27 34])))))))
(u [m 35 6,m 2 35]
.ret))))),[.t 2]⟩
def d151 : F:=⟨1,6,u [A 1 (.box (.d 0)),P 2 (.mv (.k (.b false)))]
(u [fa 3 14 1,ld 4 3,bi 5 .neq 4 (k 7),m 2 5]
.ret),[.t 2]⟩
def d155 : F:=⟨2,67,u [A 2 (.box (.d 0)),A 3 (.box (.d 1)),A 4 (.alloc (rp 32 (i 0) ([.sn,(i 0),(i 0),(.i .u64 0)]))),A 5 (.alloc ([(i 0),(i 0),(i 0),(i 0),(i 0),(j 0),(j 0),(i 0),(j 0),(.b false),(j 0),(j 0),(i 0),(j 0),(i 0),(i 0),(.b false),(i 0),(i 0),(i 0),(i 0),(i 0),(j 0),(.i .u64 0),(i 0),(i 0),(i 0),(i 0),(i 0)])),P 6 (.mv (.k (.b false)))]
(u [ln 13 23 3,fa 14 35 2,ld 15 14,P 16 (.build ([(i 0),(i 0),(i 0),(i 0),(i 0),(j 0),(j 0),(i 0),(j 0),(.b false),(j 0),(j 0),(i 0),(j 0),(i 0),(i 0),(.b false),(i 0),(i 0),(i 0),(i 0),(i 0),(j 0),(.i .u64 0),(i 0),(i 0),(i 0),(i 0),(i 0)]) [(0,23,(.d 13)),(23,1,(.d 15)),(27,1,(.k (.i .i64 (-1)))),(28,1,(.k (.i .i64 (-1))))]),A 7 (.alloc ([(i 0),(i 0),(i 0),(i 0),(i 0),(j 0),(j 0),(i 0),(j 0),(.b false),(j 0),(j 0),(i 0),(j 0),(i 0),(i 0),(.b false),(i 0),(i 0),(i 0),(i 0),(i 0),(j 0),(.i .u64 0),(i 0),(i 0),(i 0),(i 0),(i 0)])),sm 29 7 16]
(.seq (u [fa 17 17 3,ln 18 3 17,P 19 (.mv (k 0))]
(.block 0 (.loop (u [bi 20 .lss 19 (k 3)]
(.seq (.cond 20 .skip
(.exit 0))
(.seq (.block 1 (u [m 21 19,P 22 (.idA1 3 18 19),m 8 21,m 9 22]
(.reg [m 23 8,fa 24 0 2,ln 25 16 24,m 26 9,E 27 (.call 254 [25,26]),fa 28 24 7,P 29 (.ixA 3 1 28 23),st 29 27])))
(.reg [bi 30 .add 19 (k 1),m 19 30])))))))
(.seq (u [ln 31 23 3,E 32 (.call 255 [31])]
(.cond 32 (u [fa 34 32 2,ln 35 3 34,E 36 (.call 256 [35]),m 33 36,ex 37 33 0,ex 38 33 1,ex 39 33 2,A 10 (.alloc [.sn,(i 0),(i 0)]),sm 3 10 37,m 11 38,m 12 39]
(.seq (u [m 40 12,P 41 (.un .not 40)]
(.cond 41 (u [ln 42 36 2,P 43 (.build ([(i 0),(i 0),(i 0),(i 0),(i 0),(j 0),(j 0),(i 0),(j 0),(.b false),(j 0),(j 0),(i 0),(j 0),(i 0),(i 0),(.b false),(i 0),(i 0),(i 0),(i 0),(i 0),(j 0),(.i .u64 0),(i 0),(i 0),(i 0),(i 0),(i 0)]) []),sm 36 4 42,sm 29 5 43,P 6 (.mv (.k (.b false)))]
.ret)
.skip))
(u [m 44 11,fa 45 0 2,ln 46 16 45,fa 47 20 3,ld 48 47,E 49 (.call 254 [46,48]),fa 50 27 7,st 50 44,fa 51 28 7,st 51 49]
(u [ln 52 3 10,fa 53 32 2,sm 3 53 52]
(.reg [fa 54 0 2,ln 55 16 54,fa 56 20 3,ld 57 56,m 58 11,E 59 (.call 257 [55,57,58]),fa 60 0 2,sm 16 60 59])))))
.skip))
(u [fa 61 35 2,ld 62 61,P 63 (.bin .add 62 (.k (.i .u64 1))),fa 64 35 2,st 64 63]
(.seq (.dreg [a 0 (ln 65 36 2),a 2 (sm 36 4 65),⟨1,ln 66 29 7,1,1⟩,a 3 (sm 29 5 66),a 4 (P 6 (.mv (.k (.b true))))])
.ret))))),[.cn 4 36,.cn 5 29,.t 6]⟩
def d159 : F:=⟨4,21,u [A 5 (.box (.d 1)),A 6 (.box (.d 2)),P 8 (.mv (.k .sn)),P 9 (.mv (.k (.b false)))]
(.seq (u [m 10 0,P 11 (.len 10),m 12 3,bi 13 .geq 11 12]
(.cond 13 (u [P 8 (.mv (.k .sn)),P 9 (.mv (.k (.b false)))]
.ret)
.skip))
(.seq (.dreg [a 0 (m 14 0),a 1 (E 15 (.call 213 [14])),⟨2,ln 16 29 5,1,1⟩,⟨3,ln 17 3 6,1,1⟩,a 4 (P 18 (.build ([(i 0),(i 0),(i 0),(i 0),(i 0),(j 0),(j 0),(i 0),(j 0),(.b false),(j 0),(j 0),(i 0),(j 0),(i 0),(i 0),(.b false),(i 0),(i 0),(i 0),(i 0),(i 0),(j 0),(.i .u64 0),(i 0),(i 0),(i 0),(i 0),(i 0),(.b false),(.b false),(.b false)]) [(0,29,(.d 16)),(29,3,(.d 17))])),a 5 (A 19 (.buildSl 32 1 ([(i 0),(i 0),(i 0),(i 0),(i 0),(j 0),(j 0),(i 0),(j 0),(.b false),(j 0),(j 0),(i 0),(j 0),(i 0),(i 0),(.b false),(i 0),(i 0),(i 0),(i 0),(i 0),(j 0),(.i .u64 0),(i 0),(i 0),(i 0),(i 0),(i 0),(.b false),(.b false),(.b false)]) [(0,32,(.d 18))])),z 6 (E 20 (.appS 32 224 15 19)),a 7 (m 8 20),a 8 (P 9 (.mv (.k (.b true))))])
.ret)),[.t 8,.t 9]⟩
def d167 : F:=⟨1,12,u [A 1 (.box (.d 0)),P 2 (.mv (.k (j 0)))]
(.seq (u [fa 3 4 1,fa 4 0 3,ld 5 4]
(.cond 5 (u [fa 6 4 1,fa 7 1 6,ld 8 7,m 2 8]
.ret)
.skip))
(u [fa 9 0 1,ld 10 9,P 11 (.bin .add 10 (.k (j 4))),m 2 11]
.ret)),[.t 2]⟩
def d181 : F:=⟨3,16,u [P 6 (.mv (k 0))]
(.seq (u [m 7 0,m 8 1,bi 9 .lss 7 8]
(.cond 9 (u [m 10 1,m 6 10]
.ret)
.skip))
(.seq (u [m 11 0,m 12 2,bi 13 .gtr 11 12]
(.cond 13 (u [m 14 2,m 6 14]
.ret)
.skip))
(u [m 15 0,m 6 15]
.ret))),[.t 6]⟩
def d187 : F:=⟨1,17,u [A 1 (.box (.d 0)),P 2 (.mv (.k (.b false)))]
(u [fa 3 29 1,ld 4 3,m 5 4,G 6 5 false (.P (.fa 0 1)),G 7 5 false (.P (.fa 0 6)),G 8 5 false (.P (.fa 14 7)),G 9 5 false (.L (.ld1 8)),G 10 5 false (.P (.bin .eql 9 (k 7))),P 11 (.pick 5 (.k (.b true)) 10),m 12 11,G 13 12 false (.P (.fa 32 1)),G 14 12 false (.L (.ld1 13)),G 15 12 false (.P (.bin .neq 14 (k 0))),P 16 (.pick 12 (.k (.b true)) 15),m 2 16]
.ret),[.t 2]⟩
def d191 : F:=⟨2,19,u [P 4 (.mv (k 0))]
(.seq (u [m 6 0,P 7 (.len 6),P 8 (.mv (k 0))]
(.block 0 (.loop (u [bi 9 .lss 8 7]
(.seq (.cond 9 .skip
(.exit 0))
(.seq (.block 1 (u [m 10 8,m 5 10]
(u [m 11 1,m 12 0,m 13 5,P 14 (.ixS 8 12 13),ln 15 8 14,E 16 (.callv 11 [15])]
(.cond 16 (u [m 17 5,m 4 17]
.ret)
.skip))))
(.reg [bi 18 .add 8 (k 1),m 8 18])))))))
(u [P 4 (.mv (.k (.i .i64 (-1))))]
.ret)),[.t 4]⟩
def d196 : F:=⟨1,8,u [A 1 (.box (.d 0)),P 2 (.mv (.k (.b false)))]
(u [fa 3 0 1,fa 4 0 3,fa 5 14 4,ld 6 5,bi 7 .eql 6 (k 6),m 2 7]
.ret),[.t 2]⟩
def d204 : F:=⟨1,9,u [P 2 (.mv (.k (.b false)))]
(u [m 3 0,bi 4 .gtr 3 (k 0),m 5 4,G 6 5 true (.P (.mv 0)),G 7 5 true (.P (.bin .lss 6 (k 16))),P 8 (.pick 5 7 (.k (.b false))),m 2 8]
.ret),[.t 2]⟩
def d208 : F:=⟨2,16,u [P 4 (.mv (k 0))]
(.seq (u [m 5 0,bi 6 .eql 5 (k 33)]
(.cond 6 (u [m 7 1,E 8 (.call 274 [7,(k 18)]),P 9 (.cvt .i64 8),m 4 9]
.ret)
.skip))
(u [m 10 1,m 11 0,E 12 (.call 285 [11]),E 13 (.call 284 [10,12]),P 14 (.cvt .i32 13),P 15 (.cvt .i64 14),m 4 15]
.ret)),[.t 4]⟩
def d212 : F:=⟨2,21,u [A 2 (.box (.d 0)),P 4 (.mv (.k (.b false)))]
(u [m 5 1,bi 6 .geq 5 (k 0),m 7 6,G 8 7 true (.P (.mv 1)),G 9 7 true (.P (.fa 0 2)),G 10 7 true (.L (.ld1 9)),G 11 7 true (.P (.len 10)),G 12 7 true (.P (.bin .lss 8 11)),P 13 (.pick 7 12 (.k (.b false))),m 14 13,G 15 14 true (.P (.mv 1)),G 16 14 true (.P (.fa 1 2)),G 17 14 true (.L (.ld1 16)),G 18 14 true (.P (.len 17)),G 19 14 true (.P (.bin .lss 15 18)),P 20 (.pick 14 19 (.k (.b false))),m 4 20]
.ret),[.t 4]⟩
def d219 : F:=⟨3,75,u [A 3 (.box (.d 0)),A 6 (.alloc (rp 21 (i 0) ((.b false)::rp 29 (j 0) ((.b false)::.sn::.sn::(j 0)::(.b false)::(j 0)::.sn::.sn::(i 0)::.sn::(i 0)::.sn::(i 0)::.sn::rp 32 (i 0) (.sn::(i 0)::(i 0)::(.i .u64 0)::rp 9 .sn ([(i 0),(i 0)])))))),P 7 (.mv (.k .sn))]
(u [fa 14 103 3,ld 15 14,m 16 1,E 17 (.call 292 [15,16]),m 13 17,ex 18 13 0,ex 19 13 1,m 8 18,m 9 19]
(u [P 10 (.mv (.k .sn))]
(.seq (u [m 20 9,P 21 (.len 20),P 22 (.mv (k 0))]
(.block 0 (.loop (u [bi 23 .lss 22 21]
(.seq (.cond 23 .skip
(.exit 0))
(.seq (.block 1 (u [P 24 (.ixS 35 20 22),ln 25 35 24,A 12 (.alloc ([(i 0),(i 0),(i 0),(i 0),(i 0),(j 0),(j 0),(i 0),(j 0),(.b false),(j 0),(j 0),(i 0),(j 0),(i 0),(i 0),(.b false),(i 0),(i 0),(i 0),(i 0),(i 0),(j 0),(.i .u64 0),(i 0),(i 0),(i 0),(i 0),(i 0),(.b false),(j 0),(j 0),(i 0),(j 0),(.b false)])),sm 35 12 25]
(u [fa 26 65 3,ln 27 36 26,fa 28 0 12,ln 29 29 28,E 30 (.call 293 [27,29]),fa 31 65 3,sm 36 31 30]
(.reg [m 32 10,fa 33 111 3,ld 34 33,fa 35 0 12,fa 36 23 35,ld 37 36,fa 38 0 12,fa 39 0 38,fa 40 5 39,fa 41 0 40,ld 42 41,P 43 (.build [(i 0),(i 0),(.i .u64 0),(j 0)] [(0,1,(.d 34)),(1,1,(k 6)),(2,1,(.d 37)),(3,1,(.d 42))]),A 44 (.buildSl 4 1 [(i 0),(i 0),(.i .u64 0),(j 0)] [(0,4,(.d 43))]),E 45 (.appS 4 32 32 44),m 10 45]))))
(.reg [bi 46 .add 22 (k 1),m 22 46])))))))
(.seq (.dreg [a 1 (fa 48 104 3),a 2 (ld 49 48),a 3 (m 50 1),a 4 (E 51 (.call 294 [49,50])),a 5 (fa 52 105 3),⟨6,ld 53 52,1,1⟩,a 7 (m 54 1),a 8 (E 55 (.call 295 [53,54])),a 9 (fa 56 106 3),⟨10,ld 57 56,1,2⟩,a 11 (m 58 1),a 12 (E 59 (.call 296 [57,58])),a 13 (fa 60 108 3),⟨14,ld 61 60,1,3⟩,a 15 (m 62 1),a 16 (E 63 (.call 297 [61,62])),a 0 (m 47 8),a 17 (fa 64 103 3),a 18 (st 64 47),a 19 (fa 65 104 3),a 20 (st 65 51),a 21 (fa 66 105 3),a 22 (st 66 55),a 23 (fa 67 106 3),a 24 (st 67 59),a 25 (fa 68 108 3),a 26 (st 68 63)])
(u [m 69 2,fa 70 64 3,S (.st1 70 (.k (.fz .no 0 9 []))),fa 71 54 3,st 71 69,fa 72 55 3,S (.st1 72 (.k (.b false)))]
(u [ln 73 112 3,m 74 10,sm 112 6 73,m 7 74]
.ret)))))),[.cn 6 112,.t 7]⟩
def d241 : F:=⟨3,15,u [P 6 (.mv (.k (.b false)))]
(u [m 7 0,m 8 1,bi 9 .geq 7 8,m 10 9,G 11 10 true (.P (.mv 0)),G 12 10 true (.P (.mv 2)),G 13 10 true (.P (.bin .leq 11 12)),P 14 (.pick 10 13 (.k (.b false))),m 6 14]
.ret),[.t 6]⟩
def d248 : F:=⟨1,48,u [P 2 (.mv (k 0))]
(.seq (.block 0 (u [m 4 0,bi 5 .lss 4 (k 1),m 6 5,G 7 6 false (.P (.mv 0)),G 8 6 false (.P (.bin .gtr 7 (k 63))),P 9 (.pick 6 (.k (.b true)) 8),m 3 9]
(.cond 3 (u [P 2 (.mv (k 0))]
.ret)
(u [m 11 0,bi 12 .geq 11 (k 11),m 13 12,G 14 13 true (.P (.mv 0)),G 15 13 true (.P (.bin .leq 14 (k 13))),P 16 (.pick 13 15 (.k (.b false))),m 10 16]
(.cond 10 (u [P 2 (.mv (k 2))]
.ret)
(u [m 18 0,bi 19 .geq 18 (k 14),m 20 19,G 21 20 true (.P (.mv 0)),G 22 20 true (.P (.bin .leq 21 (k 17))),P 23 (.pick 20 22 (.k (.b false))),m 17 23]
(.cond 17 (u [P 2 (.mv (k 3))]
.ret)
(u [m 25 0,bi 26 .geq 25 (k 34),m 27 26,G 28 27 true (.P (.mv 0)),G 29 27 true (.P (.bin .leq 28 (k 39))),P 30 (.pick 27 29 (.k (.b false))),m 24 30]
(.cond 24 (u [P 2 (.mv (k 5))]
.ret)
(u [m 32 0,bi 33 .geq 32 (k 40),m 34 33,G 35 34 true (.P (.mv 0)),G 36 34 true (.P (.bin .leq 35 (k 42))),P 37 (.pick 34 36 (.k (.b false))),m 31 37]
(.cond 31 (u [P 2 (.mv (k 6))]
.ret)
(u [m 39 0,bi 40 .geq 39 (k 43),m 41 40,G 42 41 true (.P (.mv 0)),G 43 41 true (.P (.bin .leq 42 (k 50))),P 44 (.pick 41 43 (.k (.b false))),m 38 44]
(.cond 38 (u [P 2 (.mv (k 4))]
.ret)
(u [m 46 0,E 47 (.call 275 [46]),m 45 47]
(.cond 45 (u [P 2 (.mv (k 7))]
.ret)
.skip)))))))))))))))
(u [P 2 (.mv (k 1))]
.ret)),[.t 2]⟩
def d252 : F:=⟨1,36,u [A 1 (.box (.d 0)),P 2 (.mv (.k (.b false)))]
(u [fa 4 0 1,ld 5 4,P 6 (.len 5),m 3 6]
(u [m 7 3,bi 8 .leq 7 (k 96),m 9 8,G 10 9 true (.P (.fa 1 1)),G 11 9 true (.L (.ld1 10)),G 12 9 true (.P (.bin .geq 11 (k 0))),P 13 (.pick 9 12 (.k (.b false))),m 14 13,G 15 14 true (.P (.fa 1 1)),G 16 14 true (.L (.ld1 15)),G 17 14 true (.P (.mv 3)),G 18 14 true (.P (.bin .lss 16 17)),G 19 14 true (.P (.mv 18)),G 20 19 false (.P (.fa 1 1)),G 21 19 false (.L (.ld1 20)),G 22 19 false (.P (.bin .eql 21 (k 0))),G 23 14 true (.P (.pick 19 (.k (.b true)) 22)),P 24 (.pick 14 23 (.k (.b false))),m 25 24,G 26 25 true (.P (.fa 2 1)),G 27 25 true (.L (.ld1 26)),G 28 25 true (.P (.bin .geq 27 (k 0))),P 29 (.pick 25 28 (.k (.b false))),m 30 29,G 31 30 true (.P (.fa 2 1)),G 32 30 true (.L (.ld1 31)),G 33 30 true (.P (.mv 3)),G 34 30 true (.P (.bin .leq 32 33)),P 35 (.pick 30 34 (.k (.b false))),m 2 35]
.ret)),[.t 2]⟩
def d256 : F:=⟨1,33,u [A 1 (.box (.d 0)),A 2 (.alloc [.sn,(i 0),(i 0)]),P 3 (.mv (k 0)),P 4 (.mv (.k (.b false)))]
(.seq (u [ln 7 3 1,E 8 (.call 252 [7]),P 9 (.un .not 8),m 10 9,G 11 10 false (.P (.fa 2 1)),G 12 10 false (.L (.ld1 11)),G 13 10 false (.P (.bin .eql 12 (k 0))),P 14 (.pick 10 (.k (.b true)) 13)]
(.cond 14 (u [ln 15 3 1,sm 3 2 15,P 3 (.mv (k 0)),P 4 (.mv (.k (.b false)))]
.ret)
.skip))
(u [ln 16 3 1,P 17 (.mkf 253 [16] []),m 5 17]
(.seq (.dreg [a 2 (m 20 5),a 3 (E 21 (.callv 20 [(k 0)])),a 0 (fa 18 0 1),⟨1,ld 19 18,1,1⟩,a 4 (P 22 (.ixS 1 19 21)),a 5 (ld 23 22),a 6 (m 6 23)])
(u [m 24 5,E 25 (.callv 24 [(k 1)]),fa 26 1 1,st 26 25]
(u [fa 27 2 1,ld 28 27,bi 29 .sub 28 (k 1),fa 30 2 1,st 30 29]
(u [ln 31 3 1,m 32 6,sm 3 2 31,m 3 32,P 4 (.mv (.k (.b true)))]
.ret)))))),[.cn 2 3,.t 3,.t 4]⟩
def d260 : F:=⟨3,28,u [A 3 (.box (.d 0)),P 6 (.mv (.k (j 0))),P 7 (.mv (k 0))]
(.seq (u [m 10 2,P 11 (.bin .rem 10 (.k (j 4))),P 12 (.bin .neq 11 (.k (j 0)))]
(.cond 12 (u [P 6 (.mv (.k (j 0))),P 7 (.mv (k 5))]
.ret)
.skip))
(u [ln 14 30 3,m 15 1,m 16 2,E 17 (.call 325 [14,15,16,(k 1)]),m 13 17,ex 18 13 0,ex 19 13 1,m 8 18,m 9 19]
(.seq (u [m 20 9,bi 21 .neq 20 (k 0)]
(.cond 21 (u [m 22 9,P 6 (.mv (.k (j 0))),m 7 22]
.ret)
.skip))
(u [m 23 1,m 24 8,E 25 (.call 326 [23,24,(k 4)]),ex 26 25 0,ex 27 25 1,m 6 26,m 7 27]
.ret)))),[.t 6,.t 7]⟩
def d271 : F:=⟨3,17,u [P 6 (.mv (.k (j 0)))]
(.seq (u [m 7 0,m 8 1,bi 9 .and 7 8,P 10 (.bin .neq 9 (.k (j 0)))]
(.cond 10 (u [m 11 0,m 12 2,bi 13 .or 11 12,m 6 13]
.ret)
.skip))
(u [m 14 0,m 15 2,bi 16 .andNot 14 15,m 6 16]
.ret)),[.t 6]⟩
def d282 : F:=⟨2,32,u [A 2 (.box (.d 0)),A 3 (.box (.d 1)),A 4 (.alloc (rp 32 (i 0) ([.sn,(i 0),(i 0),(.i .u64 0)])))]
(.seq (u [fa 5 0 3,ln 6 23 5,E 7 (.call 255 [6]),m 8 7,G 9 8 true (.P (.fa 27 3)),G 10 8 true (.L (.ld1 9)),G 11 8 true (.P (.bin .geq 10 (k 0))),P 12 (.pick 8 11 (.k (.b false)))]
(.cond 12 (u [fa 13 16 2,ln 14 16 13,fa 15 0 3,fa 16 20 15,ld 17 16,fa 18 27 3,ld 19 18,E 20 (.call 257 [14,17,19]),fa 21 16 2,sm 16 21 20]
(u [fa 22 28 3,ld 23 22,bi 24 .geq 23 (k 0)]
(.cond 24 (.reg [fa 25 32 2,ln 26 3 25,fa 27 28 3,ld 28 27,E 29 (.call 355 [26,28]),fa 30 32 2,sm 3 30 29])
.skip)))
.skip))
(u [ln 31 36 2,sm 36 4 31]
.ret)),[.cn 4 36]⟩
def d286 : F:=⟨1,68,u [A 1 (.box (.d 0)),P 2 (.mv (k 0))]
(.seq (u [fa 5 0 1,ld 6 5,E 7 (.call 169 [6]),bi 8 .eql 7 (k 0)]
(.cond 8 (u [P 2 (.mv (k 9))]
.ret)
.skip))
(.seq (u [fa 9 1 1,ld 10 9,P 11 (.build [(i 0),(i 0),(i 0)] [(0,1,(k 1)),(1,1,(.d 10)),(2,1,(k 15))]),fa 12 2 1,ld 13 12,P 14 (.build [(i 0),(i 0),(i 0)] [(0,1,(k 2)),(1,1,(.d 13)),(2,1,(k 15))]),fa 15 3 1,ld 16 15,P 17 (.build [(i 0),(i 0),(i 0)] [(0,1,(k 4)),(1,1,(.d 16)),(2,1,(k 15))]),P 18 (.build [(i 0),(i 0),(i 0),(i 0),(i 0),(i 0),(i 0),(i 0),(i 0)] [(0,3,(.d 11)),(3,3,(.d 14)),(6,3,(.d 17))]),P 19 (.mv (k 0))]
(.block 0 (.loop (u [bi 20 .lss 19 (k 3)]
(.seq (.cond 20 .skip
(.exit 0))
(.seq (.block 1 (u [P 21 (.idAn 3 3 18 19),A 4 (.alloc [(i 0),(i 0),(i 0)]),sm 3 4 21]
(u [fa 22 1 4,ld 23 22,bi 24 .lss 23 (k 0),m 25 24,G 26 25 false (.P (.fa 1 4)),G 27 25 false (.L (.ld1 26)),G 28 25 false (.P (.fa 2 4)),G 29 25 false (.L (.ld1 28)),G 30 25 false (.P (.bin .gtr 27 29)),P 31 (.pick 25 (.k (.b true)) 30),m 32 31,G 33 32 false (.P (.fa 0 1)),G 34 32 false (.L (.ld1 33)),G 35 32 false (.P (.fa 0 4)),G 36 32 false (.L (.ld1 35)),G 37 32 false (.E (.call 207 [34,36])),G 38 32 false (.P (.un .not 37)),G 39 32 false (.P (.mv 38)),G 40 39 true (.P (.fa 1 4)),G 41 39 true (.L (.ld1 40)),G 42 39 true (.P (.bin .neq 41 (k 0))),G 43 32 false (.P (.pick 39 42 (.k (.b false)))),P 44 (.pick 32 (.k (.b true)) 43)]
(.cond 44 (u [P 2 (.mv (k 1))]
.ret)
.skip))))
(.reg [bi 45 .add 19 (k 1),m 19 45])))))))
(.seq (.block 2 (u [fa 47 0 1,ld 48 47,E 49 (.call 207 [48,(k 8)]),P 50 (.un .not 49),m 51 50,G 52 51 true (.P (.fa 4 1)),G 53 51 true (.L (.ld1 52)),G 54 51 true (.P (.bin .neq 53 (k 0))),P 55 (.pick 51 54 (.k (.b false))),m 46 55]
(.cond 46 (u [P 2 (.mv (k 1))]
.ret)
(u [fa 57 0 1,ld 58 57,E 59 (.call 207 [58,(k 8)]),m 60 59,G 61 60 true (.P (.fa 0 1)),G 62 60 true (.L (.ld1 61)),G 63 60 true (.P (.fa 4 1)),G 64 60 true (.L (.ld1 63)),G 65 60 true (.E (.call 356 [62,64])),G 66 60 true (.P (.un .not 65)),P 67 (.pick 60 66 (.k (.b false))),m 56 67]
(.cond 56 (u [P 2 (.mv (k 3))]
.ret)
.skip)))))
(u [P 2 (.mv (k 0))]
.ret)))),[.t 2]⟩
def d293 : F:=⟨2,29,u [A 2 (.box (.d 0)),A 3 (.box (.d 1)),A 4 (.alloc (rp 32 (i 0) ([.sn,(i 0),(i 0),(.i .u64 0)])))]
(.seq (u [fa 5 0 3,ln 6 23 5,E 7 (.call 255 [6]),m 8 7,G 9 8 true (.P (.fa 27 3)),G 10 8 true (.L (.ld1 9)),G 11 8 true (.P (.bin .geq 10 (k 0))),P 12 (.pick 8 11 (.k (.b false)))]
(.cond 12 (u [fa 13 0 2,ln 14 16 13,fa 15 0 3,fa 16 20 15,ld 17 16,fa 18 28 3,ld 19 18,E 20 (.call 257 [14,17,19]),fa 21 0 2,sm 16 21 20]
(.reg [fa 22 32 2,ln 23 3 22,fa 24 27 3,ld 25 24,E 26 (.call 359 [23,25]),fa 27 32 2,sm 3 27 26]))
.skip))
(u [ln 28 36 2,sm 36 4 28]
.ret)),[.cn 4 36]⟩
def d297 : F:=⟨2,25,u [P 4 (.mv (.k .sn))]
(u [P 5 (.mv (.k .sn))]
(.seq (u [m 8 0,P 9 (.len 8),P 10 (.mv (k 0))]
(.block 0 (.loop (u [bi 11 .lss 10 9]
(.seq (.cond 11 .skip
(.exit 0))
(.seq (.block 1 (u [P 12 (.ixS 35 8 10),ln 13 35 12,A 7 (.alloc ((i 0)::(i 0)::(i 0)::(i 0)::(i 0)::(j 0)::(j 0)::(i 0)::(j 0)::(.b false)::(j 0)::(j 0)::(i 0)::(j 0)::(i 0)::(i 0)::(.b false)::(i 0)::(i 0)::(i 0)::(i 0)::(i 0)::(j 0)::(.i .u64 0)::rp 7 (i 0) ([(j 0),(j 0),(i 0),(j 0)]))),sm 35 7 13]
(u [fa 14 0 7,fa 15 23 14,ld 16 15,m 17 1,bi 18 .leq 16 17]
(.cond 18 (.reg [m 19 5,ln 20 35 7,A 21 (.buildSl 35 1 ((i 0)::(i 0)::(i 0)::(i 0)::(i 0)::(j 0)::(j 0)::(i 0)::(j 0)::(.b false)::(j 0)::(j 0)::(i 0)::(j 0)::(i 0)::(i 0)::(.b false)::(i 0)::(i 0)::(i 0)::(i 0)::(i 0)::(j 0)::(.i .u64 0)::rp 7 (i 0) ([(j 0),(j 0),(i 0),(j 0)])) [(0,35,(.d 20))]),E 22 (.appS 35 256 19 21),m 5 22])
.skip))))
(.reg [bi 23 .add 10 (k 1),m 10 23])))))))
(u [m 24 5,m 4 24]
.ret))),[.t 4]⟩
def d306 : F:=⟨1,13,u [A 1 (.box (.d 0)),P 2 (.mv (.k (.b false)))]
(u [fa 3 17 1,P 4 (.ixA 12 1 3 (k 0)),ld 5 4,P 6 (.bin .and 5 (.k (j 16))),P 7 (.bin .neq 6 (.k (j 0))),m 8 7,G 9 8 true (.L (.ldn 30 1)),G 10 8 true (.E (.call 183 [9])),G 11 8 true (.P (.un .not 10)),P 12 (.pick 8 11 (.k (.b false))),m 2 12]
.ret),[.t 2]⟩
def d322 : F:=⟨3,70,u [P 6 (.mv (.k (j 0))),P 7 (.mv (.k (.b false)))]
(.seq (u [m 8 0]
(.block 0 (.seq (u [bi 10 .eql 8 (k 1),m 9 10]
(.cond 9 .skip
(.reg [bi 11 .eql 8 (k 25),m 9 11])))
(.cond 9 (u [m 12 1,m 13 2,bi 14 .add 12 13,m 6 14,P 7 (.mv (.k (.b true)))]
.ret)
(u [bi 16 .eql 8 (k 2),m 15 16]
(.cond 15 (u [m 17 1,m 18 2,bi 19 .sub 17 18,m 6 19,P 7 (.mv (.k (.b true)))]
.ret)
(.seq (u [bi 21 .eql 8 (k 9),m 20 21]
(.cond 20 .skip
(.reg [bi 22 .eql 8 (k 29),m 20 22])))
(.cond 20 (u [m 23 1,P 24 (.cvt .i32 23),m 25 2,P 26 (.cvt .i32 25),bi 27 .lss 24 26,E 28 (.call 384 [27]),m 6 28,P 7 (.mv (.k (.b true)))]
.ret)
(u [bi 30 .eql 8 (k 10),m 29 30]
(.cond 29 (u [m 31 1,m 32 2,bi 33 .lss 31 32,E 34 (.call 384 [33]),m 6 34,P 7 (.mv (.k (.b true)))]
.ret)
(u [bi 36 .eql 8 (k 18),m 35 36]
(.cond 35 (u [m 37 1,P 38 (.cvt .i32 37),m 39 2,P 40 (.cvt .i32 39),P 41 (.mn [38,40]),P 42 (.cvt .u32 41),m 6 42,P 7 (.mv (.k (.b true)))]
.ret)
(u [bi 44 .eql 8 (k 19),m 43 44]
(.cond 43 (u [m 45 1,P 46 (.cvt .i32 45),m 47 2,P 48 (.cvt .i32 47),P 49 (.mx [46,48]),P 50 (.cvt .u32 49),m 6 50,P 7 (.mv (.k (.b true)))]
.ret)
(u [bi 52 .eql 8 (k 33),m 51 52]
(.cond 51 (u [m 53 2,P 54 (.bin .shl 53 (.k (.i .u64 14))),m 6 54,P 7 (.mv (.k (.b true)))]
.ret)
(.seq (u [bi 56 .eql 8 (k 21),m 55 56]
(.cond 55 .skip
(u [bi 57 .eql 8 (k 22),m 55 57]
(.cond 55 .skip
(.reg [bi 58 .eql 8 (k 23),m 55 58])))))
(.cond 55 (u [m 59 0,m 60 1,E 61 (.call 385 [59,60]),ex 62 61 0,ex 63 61 1,m 6 62,m 7 63]
.ret)
.skip))))))))))))))))))
(u [m 64 0,m 65 1,m 66 2,E 67 (.call 386 [64,65,66]),ex 68 67 0,ex 69 67 1,m 6 68,m 7 69]
.ret)),[.t 6,.t 7]⟩
def d326 : F:=⟨3,24,u [P 6 (.mv (.k (j 0))),P 7 (.mv (k 0))]
(.seq (u [m 9 0,m 10 1,m 11 2,E 12 (.call 317 [9,10,11]),m 8 12]
(u [m 13 8,bi 14 .neq 13 (k 0)]
(.cond 14 (u [m 15 8,P 6 (.mv (.k (j 0))),m 7 15]
.ret)
.skip)))
(u [m 16 0,m 17 1,m 18 1,P 19 (.cvt .i64 18),m 20 2,bi 21 .add 19 20,P 22 (.slS 1 16 (some 17) (some 21)),E 23 (.call 377 [22]),m 6 23,P 7 (.mv (k 0))]
.ret)),[.t 6,.t 7]⟩
def d344 : F:=⟨1,7,u [P 2 (.mv (.k (j 0)))]
(u [m 3 0,P 4 (.bin .shl (.k (.i .u64 1)) 3),P 5 (.bin .sub 4 (.k (.i .u64 1))),P 6 (.cvt .u32 5),m 2 6]
.ret),[.t 2]⟩
def d358 : F:=⟨1,28,u [m 4 0,P 5 (.len 4),bi 6 .sub 5 (k 1),P 2 (.mv (k 0)),m 3 6]
(.block 0 (.loop (.seq (u [m 7 2,m 8 3,bi 9 .lss 7 8]
(.cond 9 .skip
(.exit 0)))
(.seq (.block 1 (.dreg [a 0 (m 14 0),a 1 (m 15 2),a 4 (m 18 0),a 5 (m 19 3),a 6 (P 20 (.ixS 35 18 19)),a 7 (ln 21 35 20),a 8 (m 22 0),a 9 (m 23 2),a 10 (P 24 (.ixS 35 22 23)),a 11 (ln 25 35 24),a 12 (P 26 (.ixS 35 14 15)),a 13 (sm 35 26 21),a 2 (m 16 0),a 3 (m 17 3),a 14 (P 27 (.ixS 35 16 17)),a 15 (sm 35 27 25)]))
(.reg [m 10 2,bi 11 .add 10 (k 1),m 12 3,bi 13 .sub 12 (k 1),m 2 11,m 3 13]))))),[]⟩
def d366 : F:=⟨1,44,u [A 1 (.box (.d 0)),P 2 (.mv (k 0))]
(.seq (.block 0 (u [fa 4 0 1,ld 5 4,bi 6 .geq 5 (k 43),m 7 6,G 8 7 true (.P (.fa 0 1)),G 9 7 true (.L (.ld1 8)),G 10 7 true (.P (.bin .leq 9 (k 48))),P 11 (.pick 7 10 (.k (.b false))),m 3 11]
(.cond 3 (u [P 2 (.mv (k 1))]
.ret)
(u [fa 13 0 1,ld 14 13,bi 15 .neq 14 (k 49),m 16 15,G 17 16 true (.P (.fa 0 1)),G 18 16 true (.L (.ld1 17)),G 19 16 true (.P (.bin .neq 18 (k 50))),P 20 (.pick 16 19 (.k (.b false))),m 12 20]
(.cond 12 (u [P 2 (.mv (k 0))]
.ret)
(u [fa 22 1 1,ld 23 22,bi 24 .eql 23 (k 15),m 21 24]
(.cond 21 (u [P 2 (.mv (k 3))]
.ret)
(u [fa 26 0 1,ld 27 26,bi 28 .eql 27 (k 50),m 29 28,G 30 29 true (.P (.fa 1 1)),G 31 29 true (.L (.ld1 30)),G 32 29 true (.P (.bin .eql 31 (k 0))),P 33 (.pick 29 32 (.k (.b false))),m 34 33,G 35 34 true (.P (.fa 2 1)),G 36 34 true (.L (.ld1 35)),G 37 34 true (.P (.bin .eql 36 (k 15))),P 38 (.pick 34 37 (.k (.b false))),m 39 38,G 40 39 true (.P (.fa 4 1)),G 41 39 true (.L (.ld1 40)),G 42 39 true (.P (.bin .eql 41 (k 0))),P 43 (.pick 39 42 (.k (.b false))),m 25 43]
(.cond 25 (u [P 2 (.mv (k 4))]
.ret)
.skip)))))))))
(u [P 2 (.mv (k 2))]
.ret)),[.t 2]⟩
def d409 : F:=⟨3,21,u [A 3 (.box (.d 0)),A 6 (.alloc [.sn,(i 0),(i 0)])]
(u [fa 7 0 3,ld 8 7,E 9 (.appS 1 8 (.k .sn) 8),fa 10 0 3,st 10 9]
(u [fa 11 0 3,ld 12 11,m 13 1,m 14 2,P 15 (.ixS 1 12 13),st 15 14]
(u [fa 16 2 3,ld 17 16,bi 18 .add 17 (k 1),fa 19 2 3,st 19 18]
(u [ln 20 3 3,sm 3 6 20]
.ret)))),[.cn 6 3]⟩
end
end Go.Proofs.YtoppeebbioalcaaGreatDoor.Run
