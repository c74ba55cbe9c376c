/- The functions that a closed call comes to, compiled: part 0 (printed by a program). -/
import Derived.Test.YtoppeebbioalcaaGreatDoorEvE
set_option maxRecDepth 100000
namespace Go.Proofs.YtoppeebbioalcaaGreatDoor.Run
open Go.Ev Go.Ev.S1 Go.Ev.S2
noncomputable section
def n0_0:=rp 29 (j 0) ([(.b false),.sn,.sn,.sn])
def d5 : F:=⟨0,69,u [P 0 (.mv (.k (.b false)))]
(.seq (.dreg [a 1 (A 9 (.buildSl 1 4 [(.i .u8 0),(.i .u8 0),(.i .u8 0),(.i .u8 0)] [(0,1,(.k (.i .u8 5))),(1,1,(.k (.i .u8 0))),(2,1,(.k (.i .u8 64))),(3,1,(.k (.i .u8 100)))])),z 2 (E 10 (.appZ 1 1 [(.i .u8 0)] 9 (k 60))),a 0 (A 8 (.mkSl 1 1 [(.i .u8 0)] (k 64) (k 64))),z 3 (P 11 (.build n0_0 [(30,1,(.d 8)),(31,1,(.d 10))])),z 4 (A 1 (.alloc n0_0)),z 5 (sm 33 1 11)])
(u [fa 12 0 1,fa 13 17 12,P 14 (.ixA 12 1 13 (k 0)),S (.st1 14 (.k (j 1)))]
(.seq (.dreg [a 0 (E 16 (.call 13 [])),⟨1,ln 17 33 1,1,1⟩,a 2 (E 18 (.call 12 [16,17])),a 3 (m 15 18),a 4 (ex 19 15 0),a 6 (A 2 (.alloc (rp 21 (i 0) ((.b false)::rp 29 (j 0) ((.b false)::.sn::.sn::(j 0)::(.b false)::(j 0)::.sn::.sn::(i 0)::.sn::(i 0)::.sn::(i 0)::.sn::rp 32 (i 0) (.sn::(i 0)::(i 0)::(.i .u64 0)::rp 9 .sn ([(i 0),(i 0)]))))))),z 7 (sm 112 2 19),a 5 (ex 20 15 1),a 8 (m 3 20)])
(.seq (.dreg [a 1 (fa 23 30 1),a 2 (ld 24 23),a 3 (E 25 (.call 15 [24,(k 4),(k 2),(k 1)])),⟨0,ln 22 112 2,1,1⟩,a 4 (E 26 (.call 14 [22,25,(.k .sn),(k 12)])),a 5 (m 21 26),a 6 (ex 27 21 0),a 10 (A 4 (.alloc (rp 21 (i 0) ((.b false)::rp 29 (j 0) ((.b false)::.sn::.sn::(j 0)::(.b false)::(j 0)::.sn::.sn::(i 0)::.sn::(i 0)::.sn::(i 0)::.sn::rp 32 (i 0) (.sn::(i 0)::(i 0)::(.i .u64 0)::rp 9 .sn ([(i 0),(i 0)]))))))),z 11 (A 5 (.alloc [.sn,.sn])),z 12 (sm 112 4 27),a 7 (ex 28 21 1),a 13 (sm 2 5 28),a 8 (ex 29 21 2),a 9 (ex 30 21 3),a 14 (m 6 29),a 15 (m 7 30)])
(u [m 31 6,P 32 (.len 31),bi 33 .gtr 32 (k 1),m 34 33,G 35 34 true (.P (.mv 6)),G 36 34 true (.P (.ixS 12 35 (k 0))),G 37 34 true (.P (.fa 3 36)),G 38 34 true (.L (.ld1 37)),G 39 34 true (.P (.bin .eql 38 (.k (j 5)))),P 40 (.pick 34 39 (.k (.b false))),m 41 40,G 42 41 true (.P (.mv 6)),G 43 41 true (.P (.ixS 12 42 (k 1))),G 44 41 true (.P (.fa 9 43)),G 45 41 true (.L (.ld1 44)),G 46 41 true (.P (.bin .eql 45 (k 2))),P 47 (.pick 41 46 (.k (.b false))),m 48 47,G 49 48 true (.P (.fa 22 4)),G 50 48 true (.P (.fa 1 49)),G 51 48 true (.P (.ixA 16 1 50 (k 1))),G 52 48 true (.L (.ld1 51)),G 53 48 true (.P (.bin .eql 52 (.k (j 5)))),P 54 (.pick 48 53 (.k (.b false))),m 55 54,G 56 55 true (.P (.fa 111 4)),G 57 55 true (.L (.ld1 56)),G 58 55 true (.P (.bin .eql 57 (k 12))),P 59 (.pick 55 58 (.k (.b false))),m 60 59,G 61 60 true (.P (.mv 7)),G 62 60 true (.P (.len 61)),G 63 60 true (.P (.bin .gtr 62 (k 4))),P 64 (.pick 60 63 (.k (.b false))),m 65 64,G 66 65 true (.E (.call 16 [])),G 67 65 true (.P (.fld1 3 66)),P 68 (.pick 65 67 (.k (.b false))),m 0 68]
.ret))))),[.t 0]⟩
def d14 : F:=⟨4,63,u [A 4 (.box (.d 0)),A 5 (.box (.d 1)),A 8 (.alloc (rp 21 (i 0) ((.b false)::rp 29 (j 0) ((.b false)::.sn::.sn::(j 0)::(.b false)::(j 0)::.sn::.sn::(i 0)::.sn::(i 0)::.sn::(i 0)::.sn::rp 32 (i 0) (.sn::(i 0)::(i 0)::(.i .u64 0)::rp 9 .sn ([(i 0),(i 0)])))))),A 9 (.alloc [.sn,.sn]),P 10 (.mv (.k .sn)),P 11 (.mv (.k .sn))]
(u [P 12 (.mv (.k .sn))]
(u [P 13 (.mv (.k .sn))]
(.seq (u [m 18 3,P 19 (.mx [18,(k 0)]),P 20 (.mn [19,(k 16384)]),P 21 (.mv (k 0))]
(.block 0 (.loop (u [bi 22 .lss 21 20]
(.seq (.cond 22 .skip
(.exit 0))
(.seq (.block 1 (u [m 23 21,m 14 23]
(.seq (u [fa 24 22 4,fa 25 29 24,ld 26 25,m 27 26,G 28 27 true (.P (.fa 107 4)),G 29 27 true (.L (.ld1 28)),G 30 27 true (.P (.len 29)),G 31 27 true (.P (.bin .eql 30 (k 0))),P 32 (.pick 27 31 (.k (.b false)))]
(.cond 32 (.exit 0)
.skip))
(u [E 33 (.call 16 []),A 15 (.alloc [(j 0),(j 0),(i 0),(.b false),(i 0)]),sm 5 15 33]
(.seq (u [m 34 14,m 35 2,P 36 (.len 35),bi 37 .lss 34 36]
(.cond 37 (.reg [m 38 2,m 39 14,P 40 (.ixS 5 38 39),ln 41 5 40,sm 5 15 41])
.skip))
(u [P 16 (.mv (.k .sn))]
(u [P 17 (.mv (.k .sn))]
(u [ln 43 112 4,ln 44 2 5,ln 45 5 15,E 46 (.call 6 [43,44,(k 0),45]),m 42 46,ex 47 42 0,ex 48 42 1,ex 49 42 2,ex 50 42 3,ex 51 42 4,sm 112 4 47,sm 2 5 48,m 16 49,m 17 50]
(.reg [m 52 12,m 53 16,E 54 (.appS 12 72 52 53),m 55 13,m 56 17,E 57 (.appS 4 32 55 56),m 12 54,m 13 57])))))))))
(.reg [bi 58 .add 21 (k 1),m 21 58])))))))
(.seq (.dreg [a 0 (ln 59 112 4),a 4 (sm 112 8 59),⟨1,ln 60 2 5,1,1⟩,a 5 (sm 2 9 60),a 2 (m 61 12),a 3 (m 62 13),a 6 (m 10 61),a 7 (m 11 62)])
.ret)))),[.cn 8 112,.cn 9 2,.t 10,.t 11]⟩
def d18 : F:=⟨4,61,u [A 4 (.box (.d 0)),A 5 (.box (.d 1)),A 7 (.box (.d 3)),A 8 (.alloc (rp 21 (i 0) ((.b false)::rp 29 (j 0) ((.b false)::.sn::.sn::(j 0)::(.b false)::(j 0)::.sn::.sn::(i 0)::.sn::(i 0)::.sn::(i 0)::.sn::rp 32 (i 0) (.sn::(i 0)::(i 0)::(.i .u64 0)::rp 9 .sn ([(i 0),(i 0)])))))),A 9 (.alloc [.sn,.sn]),P 10 (.mv (.k .sn)),P 11 (.mv (.k (j 0))),P 12 (.mv (.k .sn))]
(.seq (u [fa 14 1 7,ld 15 14,P 16 (.bin .and 15 (.k (j 16))),P 17 (.bin .neq 16 (.k (j 0)))]
(.cond 17 (.seq (.dreg [a 0 (ln 18 112 4),a 2 (sm 112 8 18),⟨1,ln 19 2 5,1,1⟩,a 3 (sm 2 9 19),a 4 (P 10 (.mv (.k .sn))),a 5 (P 11 (.mv (.k (j 0)))),a 6 (P 12 (.mv (.k .sn)))])
.ret)
.skip))
(u [ln 20 112 4,ln 21 2 5,m 22 2,P 23 (.build (rp 21 (i 0) ((.b false)::rp 29 (j 0) ((.b false)::.sn::.sn::(j 0)::(.b false)::(j 0)::.sn::.sn::(i 0)::.sn::(i 0)::.sn::(i 0)::.sn::rp 32 (i 0) (.sn::(i 0)::(i 0)::(.i .u64 0)::rp 9 .sn ([(i 0),(i 0),.sn,.sn,(i 0),(i 0),.sn,.sn]))))) [(0,112,(.d 20)),(112,2,(.d 21)),(114,1,(.d 22))]),A 24 (.box (.d 23)),m 13 24]
(.seq (.block 0 (.loop (.seq (.seq (.dreg [a 0 (m 25 13),a 1 (P 26 (.nilck 25)),a 2 (fa 27 115 26),a 3 (ld 28 27),a 4 (fa 29 0 4),a 5 (fa 30 3 29),a 6 (ld 31 30),a 7 (P 32 (.mx [31,(k 0)])),a 8 (P 33 (.mn [32,(k 4)])),a 9 (bi 34 .lss 28 33),a 10 (m 35 34),⟨11,G 36 35 true (.P (.mv 13)),1,0⟩,⟨12,G 37 35 true (.E (.call 61 [36])),1,0⟩,a 13 (P 38 (.pick 35 37 (.k (.b false))))])
(.cond 38 .skip
(.exit 0)))
(.block 1 .skip))))
(.seq (.dreg [a 12 (m 51 2),a 13 (m 52 13),a 14 (P 53 (.nilck 52)),a 15 (fa 54 116 53),a 16 (ld 55 54),a 17 (E 56 (.call 62 [51,55])),a 0 (m 39 13),a 1 (P 40 (.nilck 39)),a 2 (fa 41 0 40),⟨3,ln 42 112 41,1,1⟩,a 22 (sm 112 8 42),a 4 (m 43 13),a 5 (P 44 (.nilck 43)),a 6 (fa 45 112 44),⟨7,ln 46 2 45,1,2⟩,a 23 (sm 2 9 46),a 8 (m 47 13),a 9 (P 48 (.nilck 47)),a 10 (fa 49 116 48),⟨11,ld 50 49,1,3⟩,a 18 (m 57 13),a 19 (P 58 (.nilck 57)),a 20 (fa 59 117 58),⟨21,ld 60 59,1,3⟩,a 24 (m 10 50),a 25 (m 11 56),a 26 (m 12 60)])
.ret)))),[.cn 8 112,.cn 9 2,.t 10,.t 11,.t 12]⟩
def d22 : F:=⟨2,80,u [A 2 (.box (.d 0)),A 3 (.box (.d 1)),A 4 (.alloc (rp 21 (i 0) ((.b false)::rp 29 (j 0) ((.b false)::.sn::.sn::(j 0)::(.b false)::(j 0)::.sn::.sn::(i 0)::.sn::(i 0)::.sn::(i 0)::.sn::rp 32 (i 0) (.sn::(i 0)::(i 0)::(.i .u64 0)::rp 9 .sn ([(i 0),(i 0)])))))),P 5 (.mv (.k .sn))]
(.seq (u [fa 13 1 3,ld 14 13,P 15 (.bin .and 14 (.k (j 1))),P 16 (.bin .neq 15 (.k (j 0))),m 17 16,G 18 17 false (.P (.fa 55 2)),G 19 17 false (.L (.ld1 18)),P 20 (.pick 17 (.k (.b true)) 19),m 21 20,G 22 21 false (.P (.fa 22 2)),G 23 21 false (.P (.fa 29 22)),G 24 21 false (.L (.ld1 23)),P 25 (.pick 21 (.k (.b true)) 24)]
(.cond 25 (u [ln 26 112 2,sm 112 4 26,P 5 (.mv (.k .sn))]
.ret)
.skip))
(.seq (.dreg [a 10 (ln 38 112 2),a 11 (E 39 (.call 76 [38])),a 0 (fa 28 0 2),⟨1,ln 29 22 28,1,1⟩,a 2 (fa 30 22 2),⟨3,ln 31 30 30,1,1⟩,a 4 (fa 32 52 2),⟨5,ld 33 32,1,1⟩,a 6 (fa 34 56 2),⟨7,ln 35 6 34,1,1⟩,a 8 (fa 36 54 2),⟨9,ld 37 36,1,1⟩,a 12 (E 40 (.call 75 [29,31,33,35,37,39])),a 13 (m 27 40),a 14 (ex 41 27 0),a 15 (ex 42 27 1),a 18 (A 7 (.alloc [(j 0),.sn,.sn,(i 0),.sn,(i 0)])),z 19 (m 6 41),z 20 (sm 6 7 42),a 16 (ex 43 27 2),a 17 (ex 44 27 3),a 21 (m 8 43),a 22 (m 9 44)])
(u [P 10 (.mv (.k .sn))]
(.seq (u [m 45 6,P 46 (.len 45),P 47 (.mv (k 0))]
(.block 0 (.loop (u [bi 48 .lss 47 46]
(.seq (.cond 48 .skip
(.exit 0))
(.seq (.block 1 (u [P 49 (.ixS 9 45 47),ln 50 9 49,A 12 (.alloc [(j 0),(j 0),(i 0),(j 0),(.b false),(j 0),(j 0),(i 0),(j 0)]),sm 9 12 50]
(.reg [m 51 10,fa 52 111 2,ld 53 52,fa 54 0 12,ld 55 54,P 56 (.build [(i 0),(i 0),(.i .u64 0),(j 0)] [(0,1,(.d 53)),(1,1,(k 1)),(3,1,(.d 55))]),A 57 (.buildSl 4 1 [(i 0),(i 0),(.i .u64 0),(j 0)] [(0,4,(.d 56))]),E 58 (.appS 4 32 51 57),m 10 58])))
(.reg [bi 59 .add 47 (k 1),m 47 59])))))))
(u [fa 60 64 2,ld 61 60,fa 62 64 2,ld 63 62,P 64 (.len 63),fa 65 64 2,ld 66 65,P 67 (.len 66),P 68 (.slS3 9 61 none 64 67),m 69 6,E 70 (.appS 9 56 68 69),fa 71 64 2,st 71 70]
(u [ln 72 6 7,m 73 8,m 74 9,fa 75 56 2,sm 6 75 72,fa 76 54 2,st 76 73,fa 77 55 2,st 77 74]
(u [ln 78 112 2,m 79 10,sm 112 4 78,m 5 79]
.ret))))))),[.cn 4 112,.t 5]⟩
def d26 : F:=⟨1,36,u [P 2 (.mv (.k .sn))]
(u [P 3 (.mv (k 0))]
(.seq (u [m 9 0,P 10 (.len 9),P 11 (.mv (k 0))]
(.block 0 (.loop (u [bi 12 .lss 11 10]
(.seq (.cond 12 .skip
(.exit 0))
(.seq (.block 1 (u [P 13 (.ixS 1 9 11),ld 14 13,m 5 14]
(u [m 15 3,m 16 5,P 17 (.len 16),bi 18 .add 15 17,m 3 18]
(u [m 19 3,bi 20 .lss 19 (k 0)]
(.cond 20 (.bad)
.skip)))))
(.reg [bi 22 .add 11 (k 1),m 11 22])))))))
(u [m 23 3,E 24 (.call 80 [(.k .sn),23]),m 6 24]
(.seq (u [m 25 0,P 26 (.len 25),P 27 (.mv (k 0))]
(.block 2 (.loop (u [bi 28 .lss 27 26]
(.seq (.cond 28 .skip
(.exit 2))
(.seq (.block 3 (u [P 29 (.ixS 1 25 27),ld 30 29,m 8 30]
(.reg [m 31 6,m 32 8,E 33 (.appS 4 32 31 32),m 6 33])))
(.reg [bi 34 .add 27 (k 1),m 27 34])))))))
(u [m 35 6,m 2 35]
.ret))))),[.t 2]⟩
def d54 : F:=⟨1,13,u [A 1 (.box (.d 0)),A 2 (.alloc [(j 0),.sn,.sn,(i 0),.sn,(i 0)])]
(.seq (.dreg [a 0 (ln 3 22 1),a 1 (E 4 (.call 99 [3])),a 2 (E 5 (.call 98 [4])),a 3 (fa 6 12 1),⟨4,ld 7 6,1,2⟩,a 5 (E 8 (.call 100 [7])),a 6 (fa 9 13 1),⟨7,ld 10 9,1,3⟩,a 8 (E 11 (.call 101 [10])),a 9 (P 12 (.build [(j 0),.sn,.sn,(i 0),.sn,(i 0)] [(1,1,(.d 5)),(2,1,(.d 8)),(4,1,(.d 11))])),a 10 (sm 6 2 12)])
.ret),[.cn 2 6]⟩
def d58 : F:=⟨1,25,u [A 2 (.alloc [.sn,.sn])]
(u [A 3 (.alloc [.sn,.sn])]
(.seq (u [P 4 (.mv (k 0))]
(.block 0 (.loop (.seq (u [m 5 4,m 6 0,bi 7 .lss 5 6,m 8 7,G 9 8 true (.P (.mv 4)),G 10 8 true (.P (.bin .lss 9 (k 96))),P 11 (.pick 8 10 (.k (.b false)))]
(.cond 11 .skip
(.exit 0)))
(.seq (.block 1 (u [fa 14 0 3,ld 15 14,A 16 (.buildSl 1 1 [(j 0)] [(0,1,(.k (j 0)))]),E 17 (.appS 1 4 15 16),fa 18 0 3,st 18 17]
(.reg [fa 19 1 3,ld 20 19,A 21 (.buildSl 1 1 [(.b false)] [(0,1,(.k (.b true)))]),E 22 (.appS 1 1 20 21),fa 23 1 3,st 23 22])))
(.reg [m 12 4,bi 13 .add 12 (k 1),m 4 13]))))))
(u [ln 24 2 3,sm 2 2 24]
.ret))),[.cn 2 2]⟩
def d62 : F:=⟨2,53,u [P 4 (.mv (.k (j 0)))]
(.seq (u [m 9 0,bi 10 .neq 9 (k 0),m 11 10,G 12 11 true (.P (.mv 0)),G 13 11 true (.P (.bin .neq 12 (k 1))),P 14 (.pick 11 13 (.k (.b false)))]
(.cond 14 (u [P 4 (.mv (.k (j 0)))]
.ret)
.skip))
(.seq (u [m 15 1,P 16 (.len 15),P 17 (.mv (k 0))]
(.block 0 (.loop (u [bi 18 .lss 17 16]
(.seq (.cond 18 .skip
(.exit 0))
(.seq (.block 1 (u [P 19 (.ixS 12 15 17),ln 20 12 19,A 6 (.alloc ([(j 0),(j 0),(i 0),(j 0),(i 0),(j 0),(i 0),(j 0),(j 0),(i 0),(j 0),(j 0)])),sm 12 6 20]
(u [fa 22 1 6,ld 23 22,E 24 (.call 120 [23]),m 21 24,ex 25 21 0,ex 26 21 1,A 7 (.alloc [(i 0),(i 0),(i 0),(i 0),(i 0)]),sm 5 7 25,m 8 26]
(u [m 27 8,bi 28 .eql 27 (k 0),m 29 28,G 30 29 true (.P (.fa 0 7)),G 31 29 true (.L (.ld1 30)),G 32 29 true (.P (.bin .eql 31 (k 62))),P 33 (.pick 29 32 (.k (.b false))),m 34 33,G 35 34 true (.P (.fa 9 6)),G 36 34 true (.L (.ld1 35)),G 37 34 true (.P (.bin .eql 36 (k 0))),G 38 34 true (.P (.mv 37)),G 39 38 false (.P (.fa 9 6)),G 40 38 false (.L (.ld1 39)),G 41 38 false (.P (.bin .eql 40 (k 10))),G 42 34 true (.P (.pick 38 (.k (.b true)) 41)),P 43 (.pick 34 42 (.k (.b false))),m 44 43,G 45 44 true (.P (.fa 8 6)),G 46 44 true (.L (.ld1 45)),G 47 44 true (.P (.mv 0)),G 48 44 true (.P (.bin .sub (k 1) 47)),G 49 44 true (.P (.cvt .u32 48)),G 50 44 true (.P (.bin .eql 46 49)),P 51 (.pick 44 50 (.k (.b false)))]
(.cond 51 (u [P 4 (.mv (.k (j 2)))]
.ret)
.skip)))))
(.reg [bi 52 .add 17 (k 1),m 17 52])))))))
(u [P 4 (.mv (.k (j 0)))]
.ret))),[.t 4]⟩
def d66 : F:=⟨2,26,u [P 4 (.mv (.k .sn))]
(u [m 7 0,P 8 (.len 7),m 5 8]
(.seq (u [m 9 5,bi 10 .eql 9 (k 0)]
(.cond 10 (u [P 4 (.mv (.k .sn))]
.ret)
.skip))
(u [m 11 1,m 12 5,bi 13 .rem 11 12,m 14 5,bi 15 .add 13 14,m 16 5,bi 17 .rem 15 16,m 6 17]
(.seq (.dreg [a 0 (m 18 0),a 1 (m 19 6),a 2 (P 20 (.slS 1 18 (some 19) none)),a 3 (m 21 0),a 4 (m 22 6),a 5 (P 23 (.slS 1 21 none (some 22))),a 6 (A 24 (.buildSl 1 2 [.sn,.sn] [(0,1,(.d 20)),(1,1,(.d 23))])),z 7 (E 25 (.call 129 [24])),a 8 (m 4 25)])
.ret)))),[.t 4]⟩
def d70 : F:=⟨3,36,u [A 3 (.box (.d 0)),A 5 (.box (.d 2)),P 6 (.mv (.k .sn)),P 7 (.mv (.k (.b false)))]
(.seq (u [ln 8 22 3,m 9 1,fa 10 29 5,ld 11 10,E 12 (.call 133 [8,9,11]),P 13 (.un .not 12)]
(.cond 13 (u [m 14 1,m 6 14,P 7 (.mv (.k (.b false)))]
.ret)
.skip))
(.seq (u [fa 15 29 5,ld 16 15,bi 17 .eql 16 (k 5)]
(.cond 17 (.reg [fa 18 30 5,ld 19 18,E 20 (.call 143 [19]),fa 21 30 5,st 21 20])
(.reg [ln 22 22 3,fa 23 29 5,ld 24 23,E 25 (.call 144 [22,24]),fa 26 30 5,st 26 25])))
(.seq (.dreg [a 0 (m 27 1),a 1 (m 28 1),a 2 (P 29 (.len 28)),a 3 (m 30 1),a 4 (P 31 (.len 30)),a 5 (P 32 (.slS3 35 27 none 29 31)),a 6 (ln 33 35 5),a 7 (A 34 (.buildSl 35 1 ((i 0)::(i 0)::(i 0)::(i 0)::(i 0)::(j 0)::(j 0)::(i 0)::(j 0)::(.b false)::(j 0)::(j 0)::(i 0)::(j 0)::(i 0)::(i 0)::(.b false)::(i 0)::(i 0)::(i 0)::(i 0)::(i 0)::(j 0)::(.i .u64 0)::rp 7 (i 0) ([(j 0),(j 0),(i 0),(j 0)])) [(0,35,(.d 33))])),z 8 (E 35 (.appS 35 256 32 34)),a 9 (m 6 35),a 10 (P 7 (.mv (.k (.b true))))])
.ret))),[.t 6,.t 7]⟩
def d74 : F:=⟨2,138,u [A 2 (.box (.d 0)),A 3 (.box (.d 1)),A 4 (.alloc (rp 21 (i 0) ((.b false)::rp 29 (j 0) ((.b false)::.sn::.sn::(j 0)::(.b false)::(j 0)::.sn::.sn::(i 0)::.sn::(i 0)::.sn::(i 0)::.sn::rp 32 (i 0) (.sn::(i 0)::(i 0)::(.i .u64 0)::rp 9 .sn ([(i 0),(i 0)])))))),A 5 (.alloc [(i 0),(i 0),(.i .u64 0),(j 0)])]
(u [fa 23 65 2,ln 24 36 23,ln 25 23 3,E 26 (.call 155 [24,25]),m 22 26,ex 27 22 0,ex 28 22 1,ex 29 22 2,A 6 (.alloc (rp 32 (i 0) ([.sn,(i 0),(i 0),(.i .u64 0)]))),A 7 (.alloc ([(i 0),(i 0),(i 0),(i 0),(i 0),(j 0),(j 0),(i 0),(j 0),(.b false),(j 0),(j 0),(i 0),(j 0),(i 0),(i 0),(.b false),(i 0),(i 0),(i 0),(i 0),(i 0),(j 0),(.i .u64 0),(i 0),(i 0),(i 0),(i 0),(i 0)])),sm 36 6 27,sm 29 7 28,m 8 29]
(u [ln 30 36 6,fa 31 65 2,sm 36 31 30]
(.seq (.dreg [a 0 (fa 32 0 2),a 1 (ln 33 22 32),a 5 (A 9 (.alloc (rp 21 (i 0) ([(.b false)])))),z 6 (sm 22 9 33),a 2 (fa 34 5 3),a 3 (fa 35 0 34),⟨4,ld 36 35,1,1⟩,a 7 (m 10 36)])
(u [fa 38 103 2,ld 39 38,ln 40 29 7,fa 41 5 9,ld 42 41,E 43 (.call 156 [39,40,42]),m 37 43,ex 44 37 0,ex 45 37 1,m 11 44,m 12 45]
(u [fa 46 103 2,ld 47 46,m 48 11,m 49 12,E 50 (.call 157 [47,48,49]),fa 51 103 2,st 51 50]
(.seq (u [ln 52 23 3,E 53 (.call 151 [52])]
(.cond 53 (u [A 13 (.alloc [(.b false),(.b false),(.b false)])]
(.seq (u [fa 54 24 7,ln 55 3 54,P 56 (.mv (k 0))]
(.block 0 (.loop (u [bi 57 .lss 56 (k 3)]
(.seq (.cond 57 .skip
(.exit 0))
(.seq (.block 1 (u [m 58 56,P 59 (.idA1 3 55 56),m 14 58,m 15 59]
(.reg [m 61 14,fa 62 101 2,ln 63 2 62,m 64 15,E 65 (.call 158 [63,64]),m 60 65,ex 66 60 0,ex 67 60 1,P 68 (.ixA 3 1 13 61),st 68 67])))
(.reg [bi 69 .add 56 (k 1),m 56 69])))))))
(u [fa 71 104 2,ld 72 71,ln 73 29 7,ln 74 3 13,fa 75 6 9,ld 76 75,E 77 (.call 159 [72,73,74,76]),m 70 77,ex 78 70 0,ex 79 70 1,m 16 78,m 17 79]
(.reg [fa 80 104 2,ld 81 80,m 82 16,m 83 17,E 84 (.call 160 [81,82,83]),fa 85 104 2,st 85 84]))))
.skip))
(u [fa 86 101 2,ln 87 2 86,fa 88 27 7,ld 89 88,E 90 (.call 161 [87,89]),fa 91 101 2,sm 2 91 90]
(.seq (u [fa 92 14 3,ld 93 92]
(.block 2 (u [bi 95 .eql 93 (k 5),m 94 95]
(.cond 94 (u [fa 97 105 2,ld 98 97,fa 99 23 7,ld 100 99,m 101 10,fa 102 7 9,ld 103 102,E 104 (.call 162 [98,100,101,103]),m 96 104,ex 105 96 0,ex 106 96 1,m 18 105,m 19 106]
(.reg [fa 107 105 2,ld 108 107,m 109 18,m 110 19,E 111 (.call 163 [108,109,110]),fa 112 105 2,st 112 111]))
(u [bi 114 .eql 93 (k 6),m 113 114]
(.cond 113 (u [fa 116 106 2,ld 117 116,fa 118 23 7,ld 119 118,fa 120 8 9,ld 121 120,E 122 (.call 164 [117,119,121]),m 115 122,ex 123 115 0,ex 124 115 1,m 20 123,m 21 124]
(.reg [fa 125 106 2,ld 126 125,m 127 20,m 128 21,E 129 (.call 165 [126,127,128]),fa 130 106 2,st 130 129]))
.skip))))))
(.seq (.dreg [a 0 (ln 131 112 2),a 7 (sm 112 4 131),a 1 (fa 132 111 2),⟨2,ld 133 132,1,1⟩,a 3 (fa 134 23 7),⟨4,ld 135 134,1,1⟩,a 5 (m 136 10),a 6 (P 137 (.build [(i 0),(i 0),(.i .u64 0),(j 0)] [(0,1,(.d 133)),(1,1,(k 2)),(2,1,(.d 135)),(3,1,(.d 136))])),a 8 (sm 4 5 137)])
.ret))))))))),[.cn 4 112,.cn 5 4]⟩
def d91 : F:=⟨1,19,u [P 2 (.mv (.k (j 0)))]
(.seq (u [m 3 0]
(.block 0 (u [bi 5 .eql 3 (k 0),m 4 5]
(.cond 4 (u [P 2 (.mv (.k (j 63)))]
.ret)
(u [bi 7 .eql 3 (k 1),m 6 7]
(.cond 6 (u [P 2 (.mv (.k (j 31)))]
.ret)
(.seq (u [bi 9 .eql 3 (k 9),m 8 9]
(.cond 8 .skip
(.reg [bi 10 .eql 3 (k 10),m 8 10])))
(.cond 8 (u [P 2 (.mv (.k (j 7)))]
.ret)
(u [bi 12 .eql 3 (k 5),m 11 12]
(.cond 11 (u [P 2 (.mv (.k (j 4294967232)))]
.ret)
.skip))))))))))
(.seq (u [m 13 0,bi 14 .lss 13 (k 0),m 15 14,G 16 15 false (.P (.mv 0)),G 17 15 false (.P (.bin .gtr 16 (k 11))),P 18 (.pick 15 (.k (.b true)) 17)]
(.cond 18 (u [P 2 (.mv (.k (j 0)))]
.ret)
.skip))
(u [P 2 (.mv (.k (j 4294967295)))]
.ret))),[.t 2]⟩
def d100 : F:=⟨1,6,u [P 2 (.mv (.k .sn))]
(u [m 3 0,E 4 (.call 181 [3,(k 0),(k 16)]),A 5 (.mkSl 3 16 [(j 0),(j 0),(i 0)] 4 4),m 2 5]
.ret),[.t 2]⟩
def d104 : F:=⟨2,34,u [A 4 (.alloc [.sn,(i 0),(i 0)])]
(u [m 9 0,E 10 (.call 182 [9,(k 0),(k 96)]),m 5 10]
(u [m 11 1,m 12 5,E 13 (.call 182 [11,(k 0),12]),m 6 13]
(u [m 14 5,A 15 (.mkSl 1 8 [(i 0)] 14 14),m 16 5,m 17 6,bi 18 .sub 16 17,P 19 (.build [.sn,(i 0),(i 0)] [(0,1,(.d 15)),(2,1,(.d 18))]),A 7 (.alloc [.sn,(i 0),(i 0)]),sm 3 7 19]
(.seq (u [P 8 (.mv (k 0))]
(.block 0 (.loop (.seq (u [m 20 8,fa 21 2 7,ld 22 21,bi 23 .lss 20 22]
(.cond 23 .skip
(.exit 0)))
(.seq (.block 1 (.reg [fa 26 0 7,ld 27 26,m 28 8,m 29 6,m 30 8,bi 31 .add 29 30,P 32 (.ixS 1 27 28),st 32 31]))
(.reg [m 24 8,bi 25 .add 24 (k 1),m 8 25]))))))
(u [ln 33 3 7,sm 3 4 33]
.ret))))),[.cn 4 3]⟩
def d109 : F:=⟨2,28,u [A 2 (.box (.d 0)),P 4 (.mv (.k (.b false)))]
(u [fa 6 17 2,P 7 (.ixA 12 1 6 (k 11)),ld 8 7,m 5 8]
(u [ln 9 30 2,E 10 (.call 183 [9]),P 11 (.un .not 10),m 12 11,G 13 12 true (.P (.mv 5)),G 14 12 true (.P (.bin .and 13 (.k (j 1)))),G 15 12 true (.P (.bin .eql 14 (.k (j 1)))),P 16 (.pick 12 15 (.k (.b false))),m 17 16,G 18 17 true (.P (.mv 5)),G 19 17 true (.P (.mv 1)),G 20 17 true (.P (.bin .or 19 (.k (j 1)))),G 21 17 true (.P (.bin .eql 18 20)),P 22 (.pick 17 21 (.k (.b false))),m 23 22,G 24 23 true (.P (.mv 1)),G 25 23 true (.P (.bin .and 24 (.k (j 1)))),G 26 23 true (.P (.bin .eql 25 (.k (j 0)))),P 27 (.pick 23 26 (.k (.b false))),m 4 27]
.ret)),[.t 4]⟩
def d113 : F:=⟨1,6,u [A 1 (.box (.d 0)),P 2 (.mv (.k (.b false)))]
(u [fa 3 32 1,ld 4 3,bi 5 .neq 4 (k 0),m 2 5]
.ret),[.t 2]⟩
def d117 : F:=⟨2,120,u [A 3 (.box (.d 1)),A 4 (.alloc ([(j 0),(j 0),(i 0),(j 0),(i 0),(j 0),(i 0),(j 0),(j 0),(i 0),(j 0),(j 0)]))]
(u [P 11 (.build ([(j 0),(j 0),(i 0),(j 0),(i 0),(j 0),(i 0),(j 0),(j 0),(i 0),(j 0),(j 0)]) [(2,1,(.k (.i .i64 (-1)))),(4,1,(.k (.i .i64 (-1))))]),A 5 (.alloc ([(j 0),(j 0),(i 0),(j 0),(i 0),(j 0),(i 0),(j 0),(j 0),(i 0),(j 0),(j 0)])),sm 12 5 11]
(.seq (u [m 12 0,P 13 (.len 12),bi 14 .eql 13 (k 0)]
(.cond 14 (u [ln 15 12 5,sm 12 4 15]
.ret)
.skip))
(u [m 16 0,P 17 (.ixS 35 16 (k 0)),fa 18 0 17,fa 19 0 18,fa 20 5 19,ln 21 9 20,A 6 (.alloc [(j 0),(j 0),(i 0),(j 0),(.b false),(j 0),(j 0),(i 0),(j 0)]),sm 9 6 21]
(.seq (.dreg [a 0 (fa 22 0 6),a 1 (ld 23 22),a 4 (fa 26 0 5),a 5 (st 26 23),a 2 (fa 24 1 6),⟨3,ld 25 24,1,1⟩,a 6 (fa 27 1 5),a 7 (st 27 25)])
(.seq (u [m 28 0,E 29 (.call 112 [28,(.k (.fn 194 [] []))]),m 7 29]
(u [m 30 7,bi 31 .geq 30 (k 0)]
(.cond 31 (.seq (.dreg [a 0 (m 32 0),a 1 (m 33 7),a 2 (P 34 (.ixS 35 32 33)),a 3 (fa 35 32 34),a 4 (ld 36 35),a 13 (fa 45 9 5),a 14 (st 45 36),a 5 (m 37 0),a 6 (m 38 7),a 7 (P 39 (.ixS 35 37 38)),a 8 (fa 40 33 39),⟨9,ld 41 40,1,1⟩,a 15 (fa 46 10 5),a 16 (st 46 41),a 10 (fa 42 17 3),a 11 (P 43 (.ixA 12 1 42 (k 4))),⟨12,ld 44 43,1,2⟩,a 17 (fa 47 11 5),a 18 (st 47 44)])
(u [ln 48 12 5,sm 12 4 48]
.ret))
.skip)))
(u [m 50 0,P 51 (.ixS 35 50 (k 0)),ln 52 35 51,E 53 (.call 195 [52]),m 49 53,ex 54 49 0,ex 55 49 1,fa 56 2 5,st 56 54,fa 57 3 5,st 57 55]
(.seq (u [m 58 0,P 59 (.len 58),bi 60 .gtr 59 (k 1)]
(.cond 60 (.reg [m 62 0,P 63 (.ixS 35 62 (k 1)),ln 64 35 63,E 65 (.call 195 [64]),m 61 65,ex 66 61 0,ex 67 61 1,fa 68 4 5,st 68 66,fa 69 5 5,st 69 67])
.skip))
(u [m 70 0,m 71 0,P 72 (.len 71),bi 73 .sub 72 (k 1),P 74 (.ixS 35 70 73),fa 75 31 74,ld 76 75,fa 77 11 5,st 77 76]
(.seq (u [m 78 0,E 79 (.call 112 [78,(.k (.fn 196 [] []))]),m 8 79]
(u [m 80 8,bi 81 .geq 80 (k 0)]
(.cond 81 (u [m 82 0,m 83 8,P 84 (.ixS 35 82 83),fa 85 0 84,fa 86 0 85,ln 87 23 86,A 9 (.alloc ([(i 0),(i 0),(i 0),(i 0),(i 0),(j 0),(j 0),(i 0),(j 0),(.b false),(j 0),(j 0),(i 0),(j 0),(i 0),(i 0),(.b false),(i 0),(i 0),(i 0),(i 0),(i 0),(j 0)])),sm 23 9 87]
(.seq (.dreg [a 0 (ln 88 30 3),a 1 (fa 89 17 9),a 2 (P 90 (.ixA 3 1 89 (k 0))),a 3 (ld 91 90),a 4 (E 92 (.call 197 [88,91])),⟨5,ln 93 30 3,1,1⟩,a 6 (fa 94 17 9),a 7 (P 95 (.ixA 3 1 94 (k 1))),⟨8,ld 96 95,1,1⟩,a 9 (E 97 (.call 197 [93,96])),⟨10,ln 98 30 3,1,2⟩,a 11 (fa 99 17 9),a 12 (P 100 (.ixA 3 1 99 (k 2))),⟨13,ld 101 100,1,2⟩,a 14 (E 102 (.call 197 [98,101])),a 15 (P 103 (.build [(j 0),(j 0),(j 0)] [(0,1,(.d 92)),(1,1,(.d 97)),(2,1,(.d 102))])),a 16 (A 10 (.alloc [(j 0),(j 0),(j 0)])),z 17 (sm 3 10 103)])
(.dreg [a 0 (fa 104 0 9),a 1 (fa 105 0 104),a 2 (ld 106 105),a 3 (E 107 (.call 198 [106])),⟨9,ln 113 23 9,1,1⟩,⟨10,ln 114 3 10,1,1⟩,a 11 (E 115 (.call 199 [113,114])),a 12 (fa 116 6 5),a 13 (st 116 107),a 4 (m 108 0),a 5 (m 109 8),a 6 (P 110 (.ixS 35 108 109)),a 7 (fa 111 30 110),⟨8,ld 112 111,1,3⟩,a 14 (fa 117 7 5),a 15 (st 117 112),a 16 (fa 118 8 5),a 17 (st 118 115)])))
.skip)))
(u [ln 119 12 5,sm 12 4 119]
.ret)))))))))),[.cn 4 12]⟩
def d123 : F:=⟨2,30,u [P 4 (.mv (.k .sn))]
(.seq (u [m 7 0,P 8 (.len 7),P 9 (.mv (k 0))]
(.block 0 (.loop (u [bi 10 .lss 9 8]
(.seq (.cond 10 .skip
(.exit 0))
(.seq (.block 1 (u [m 11 9,P 12 (.ixS 35 7 9),ln 13 35 12,A 6 (.alloc ((i 0)::(i 0)::(i 0)::(i 0)::(i 0)::(j 0)::(j 0)::(i 0)::(j 0)::(.b false)::(j 0)::(j 0)::(i 0)::(j 0)::(i 0)::(i 0)::(.b false)::(i 0)::(i 0)::(i 0)::(i 0)::(i 0)::(j 0)::(.i .u64 0)::rp 7 (i 0) ([(j 0),(j 0),(i 0),(j 0)]))),m 5 11,sm 35 6 13]
(u [fa 14 0 6,fa 15 23 14,ld 16 15,m 17 1,bi 18 .eql 16 17]
(.cond 18 (.seq (.dreg [a 0 (m 19 0),a 1 (m 20 5),a 2 (P 21 (.slS 35 19 none (some 20))),a 3 (E 22 (.appS 35 256 (.k .sn) 21)),a 4 (m 23 0),a 5 (m 24 5),a 6 (bi 25 .add 24 (k 1)),a 7 (P 26 (.slS 35 23 (some 25) none)),a 8 (E 27 (.appS 35 256 22 26)),a 9 (m 4 27)])
.ret)
.skip))))
(.reg [bi 28 .add 9 (k 1),m 9 28])))))))
(u [m 29 0,m 4 29]
.ret)),[.t 4]⟩
def d129 : F:=⟨1,36,u [P 2 (.mv (.k .sn))]
(u [P 3 (.mv (k 0))]
(.seq (u [m 9 0,P 10 (.len 9),P 11 (.mv (k 0))]
(.block 0 (.loop (u [bi 12 .lss 11 10]
(.seq (.cond 12 .skip
(.exit 0))
(.seq (.block 1 (u [P 13 (.ixS 1 9 11),ld 14 13,m 5 14]
(u [m 15 3,m 16 5,P 17 (.len 16),bi 18 .add 15 17,m 3 18]
(u [m 19 3,bi 20 .lss 19 (k 0)]
(.cond 20 (.bad)
.skip)))))
(.reg [bi 22 .add 11 (k 1),m 11 22])))))))
(u [m 23 3,E 24 (.call 223 [(.k .sn),23]),m 6 24]
(.seq (u [m 25 0,P 26 (.len 25),P 27 (.mv (k 0))]
(.block 2 (.loop (u [bi 28 .lss 27 26]
(.seq (.cond 28 .skip
(.exit 2))
(.seq (.block 3 (u [P 29 (.ixS 1 25 27),ld 30 29,m 8 30]
(.reg [m 31 6,m 32 8,E 33 (.appS 1 8 31 32),m 6 33])))
(.reg [bi 34 .add 27 (k 1),m 27 34])))))))
(u [m 35 6,m 2 35]
.ret))))),[.t 2]⟩
def d141 : F:=⟨2,84,u [A 2 (.box (.d 0)),A 3 (.box (.d 1)),P 4 (.mv (.k (j 0))),P 5 (.mv (.k (j 0))),P 6 (.mv (k 0)),P 7 (.mv (.k (j 0)))]
(u [fa 9 0 2,fa 10 0 9,ld 11 10,m 8 11]
(u [ln 12 23 2,E 13 (.call 240 [12]),m 5 13]
(.seq (.block 0 (u [fa 15 21 2,ld 16 15,bi 17 .neq 16 (k 0),m 14 17]
(.cond 14 (.seq (.dreg [a 0 (m 18 5),a 1 (fa 19 21 2),a 2 (ld 20 19),a 3 (fa 21 22 2),a 4 (ld 22 21),a 5 (P 4 (.mv (.k (j 0)))),a 6 (m 5 18),a 7 (m 6 20),a 8 (m 7 22)])
.ret)
(u [m 24 8,E 25 (.call 241 [24,(k 1),(k 23)]),m 23 25]
(.cond 23 (.reg [m 26 8,P 27 (.ixA 3 1 3 (k 0)),ld 28 27,P 29 (.ixA 3 1 3 (k 1)),ld 30 29,E 31 (.call 242 [26,28,30]),m 4 31])
(u [m 33 8,bi 34 .eql 33 (k 24),m 32 34]
(.cond 32 (.reg [P 35 (.ixA 3 1 3 (k 2)),ld 36 35,P 37 (.ixA 3 1 3 (k 0)),ld 38 37,P 39 (.ixA 3 1 3 (k 1)),ld 40 39,E 41 (.call 243 [36,38,40]),m 4 41])
(u [m 43 8,E 44 (.call 241 [43,(k 25),(k 33)]),m 42 44]
(.cond 42 (.reg [m 45 8,P 46 (.ixA 3 1 3 (k 0)),ld 47 46,fa 48 0 2,fa 49 4 48,ld 50 49,P 51 (.cvt .u32 50),E 52 (.call 242 [45,47,51]),m 4 52])
(u [m 54 8,E 55 (.call 241 [54,(k 43),(k 48)]),m 53 55]
(.cond 53 (u [m 56 8,P 57 (.ixA 3 1 3 (k 0)),ld 58 57,P 59 (.ixA 3 1 3 (k 1)),ld 60 59,E 61 (.call 244 [56,58,60])]
(.cond 61 (.reg [ln 62 23 2,E 63 (.call 245 [62]),m 5 63])
.skip))
(u [m 65 8,bi 66 .eql 65 (k 49),m 64 66]
(.cond 64 (.reg [m 67 5,ln 68 23 2,E 69 (.call 245 [68]),m 4 67,m 5 69])
(u [m 71 8,bi 72 .eql 71 (k 50),m 70 72]
(.cond 70 (.dreg [a 0 (m 73 5),a 1 (P 74 (.ixA 3 1 3 (k 0))),a 2 (ld 75 74),a 3 (fa 76 0 2),a 4 (fa 77 4 76),a 5 (ld 78 77),a 6 (P 79 (.cvt .u32 78)),a 7 (bi 80 .add 75 79),a 8 (P 81 (.bin .andNot 80 (.k (j 3)))),a 9 (m 4 73),a 10 (m 5 81)])
.skip)))))))))))))))
(u [m 82 4,m 83 5,m 4 82,m 5 83,P 6 (.mv (k 0)),P 7 (.mv (.k (j 0)))]
.ret)))),[.t 4,.t 5,.t 6,.t 7]⟩
def d146 : F:=⟨2,9,u [A 2 (.box (.d 0)),P 3 (.mv (.k (.b false)))]
(u [fa 4 0 2,fa 5 23 4,ld 6 5,ld 7 1,bi 8 .eql 6 7,m 3 8]
.ret),[.t 3]⟩
def d150 : F:=⟨2,21,u [P 4 (.mv (k 0))]
(u [P 5 (.mv (k 0))]
(.seq (u [m 8 0,P 9 (.len 8),P 10 (.mv (k 0))]
(.block 0 (.loop (u [bi 11 .lss 10 9]
(.seq (.cond 11 .skip
(.exit 0))
(.seq (.block 1 (u [P 12 (.ixS 23 8 10),ln 13 23 12,A 7 (.alloc ([(i 0),(i 0),(i 0),(i 0),(i 0),(j 0),(j 0),(i 0),(j 0),(.b false),(j 0),(j 0),(i 0),(j 0),(i 0),(i 0),(.b false),(i 0),(i 0),(i 0),(i 0),(i 0),(j 0)])),sm 23 7 13]
(u [m 14 1,ln 15 23 7,E 16 (.callv 14 [15])]
(.cond 16 (.reg [m 17 5,bi 18 .add 17 (k 1),m 5 18])
.skip))))
(.reg [bi 19 .add 10 (k 1),m 10 19])))))))
(u [m 20 5,m 4 20]
.ret))),[.t 4]⟩
def d154 : F:=⟨1,28,u [A 1 (.box (.d 0)),P 2 (.mv (.k .sn))]
(.seq (u [ln 6 3 1,E 7 (.call 252 [6]),P 8 (.un .not 7)]
(.cond 8 (u [P 2 (.mv (.k .sn))]
.ret)
.skip))
(u [ln 9 3 1,P 10 (.mkf 253 [9] []),m 3 10]
(u [P 4 (.mv (.k .sn))]
(.seq (u [fa 11 2 1,ld 12 11,P 13 (.mv (k 0))]
(.block 0 (.loop (u [bi 14 .lss 13 12]
(.seq (.cond 14 .skip
(.exit 0))
(.seq (.block 1 (u [m 15 13,m 5 15]
(.dreg [a 3 (m 19 3),a 4 (m 20 5),a 5 (E 21 (.callv 19 [20])),a 0 (m 16 4),a 1 (fa 17 0 1),⟨2,ld 18 17,1,1⟩,a 6 (P 22 (.ixS 1 18 21)),a 7 (ld 23 22),a 8 (A 24 (.buildSl 1 1 [(i 0)] [(0,1,(.d 23))])),z 9 (E 25 (.appS 1 8 16 24)),a 10 (m 4 25)])))
(.reg [bi 26 .add 13 (k 1),m 13 26])))))))
(u [m 27 4,m 2 27]
.ret))))),[.t 2]⟩
def d158 : F:=⟨2,23,u [A 2 (.box (.d 0)),P 4 (.mv (.k (j 0))),P 5 (.mv (.k (.b false)))]
(.seq (.block 0 (u [ln 7 2 2,m 8 1,E 9 (.call 212 [7,8]),P 10 (.un .not 9),m 6 10]
(.cond 6 (u [P 4 (.mv (.k (j 0))),P 5 (.mv (.k (.b true)))]
.ret)
(u [fa 12 1 2,ld 13 12,m 14 1,P 15 (.ixS 1 13 14),ld 16 15,P 17 (.un .not 16),m 11 17]
(.cond 11 (u [P 4 (.mv (.k (j 0))),P 5 (.mv (.k (.b false)))]
.ret)
.skip)))))
(u [fa 18 0 2,ld 19 18,m 20 1,P 21 (.ixS 1 19 20),ld 22 21,m 4 22,P 5 (.mv (.k (.b true)))]
.ret)),[.t 4,.t 5]⟩
def d166 : F:=⟨5,58,u [A 5 (.box (.d 0)),A 6 (.box (.d 1)),A 8 (.box (.d 3)),A 10 (.alloc [(j 0),(j 0),(i 0),(j 0),(.b false),(j 0),(j 0),(i 0),(j 0)]),A 11 (.alloc [(j 0),.sn,.sn,(i 0),.sn,(i 0)])]
(u [m 17 4,P 18 (.build [(j 0),(j 0),(i 0),(j 0),(.b false),(j 0),(j 0),(i 0),(j 0)] [(0,1,(.d 17))]),A 12 (.alloc [(j 0),(j 0),(i 0),(j 0),(.b false),(j 0),(j 0),(i 0),(j 0)]),sm 9 12 18]
(u [ln 20 30 6,m 21 2,m 22 4,E 23 (.call 260 [20,21,22]),m 19 23,ex 24 19 0,ex 25 19 1,m 13 24,m 14 25]
(.seq (u [m 26 14,bi 27 .neq 26 (k 0)]
(.cond 27 (.reg [m 28 14,m 29 4,fa 30 2 12,st 30 28,fa 31 3 12,st 31 29])
(u [m 33 13,E 34 (.call 120 [33]),m 32 34,ex 35 32 0,ex 36 32 1,A 15 (.alloc [(i 0),(i 0),(i 0),(i 0),(i 0)]),sm 5 15 35,m 16 36]
(u [m 37 16,bi 38 .neq 37 (k 0)]
(.cond 38 (.reg [m 39 13,m 40 13,fa 41 1 12,st 41 39,fa 42 2 12,S (.st1 42 (k 2)),fa 43 3 12,st 43 40])
(.reg [m 44 13,fa 45 1 12,st 45 44]))))))
(u [ln 47 22 5,ln 48 6 8,m 49 4,fa 50 1 12,ld 51 50,E 52 (.call 261 [47,48,49,51]),m 46 52,ex 53 46 0,ex 54 46 1,sm 6 8 53,fa 55 4 12,sm 5 55 54]
(.seq (.dreg [a 0 (ln 56 9 12),a 2 (sm 9 10 56),⟨1,ln 57 6 8,1,1⟩,a 3 (sm 6 11 57)])
.ret))))),[.cn 10 9,.cn 11 6]⟩
def d180 : F:=⟨1,14,u [P 2 (.mv (k 0))]
(u [P 3 (.mv (k 1))]
(.seq (u [P 4 (.mv (k 0))]
(.block 0 (.loop (.seq (u [m 5 4,m 6 0,E 7 (.call 269 [6]),bi 8 .lss 5 7]
(.cond 8 .skip
(.exit 0)))
(.seq (.block 1 (.reg [m 11 3,bi 12 .mul (k 2) 11,m 3 12]))
(.reg [m 9 4,bi 10 .add 9 (k 1),m 4 10]))))))
(u [m 13 3,m 2 13]
.ret))),[.t 2]⟩
def d185 : F:=⟨4,38,u [A 4 (.box (.d 0)),A 8 (.alloc (rp 29 (j 0) ([(.b false)])))]
(u [m 10 1,P 11 (.cvt .u32 10),E 12 (.call 270 [(k 1)]),bi 13 .and 11 12,fa 14 17 4,P 15 (.ixA 12 1 14 (k 1)),st 15 13]
(u [m 16 2,m 17 3,fa 18 17 4,P 19 (.ixA 12 1 18 (k 2)),st 19 16,fa 20 17 4,P 21 (.ixA 12 1 20 (k 3)),st 21 17]
(u [fa 22 17 4,P 23 (.ixA 12 1 22 (k 0)),ld 24 23,E 25 (.call 271 [24,(.k (j 1)),(.k (j 4))]),m 9 25]
(u [m 26 9,E 27 (.call 271 [26,(.k (j 2)),(.k (j 8))]),m 9 27]
(u [m 28 9,P 29 (.bin .or 28 (.k (j 1))),P 30 (.bin .andNot 29 (.k (j 2))),fa 31 17 4,P 32 (.ixA 12 1 31 (k 0)),st 32 30]
(u [fa 33 17 4,P 34 (.ixA 12 1 33 (k 4)),ld 35 34,fa 36 0 4,st 36 35]
(u [ln 37 30 4,sm 30 8 37]
.ret))))))),[.cn 8 30]⟩
def d190 : F:=⟨2,30,u [A 2 (.box (.d 0)),P 3 (.mv (.k (.b false)))]
(.seq (u [fa 5 0 2,fa 6 0 5,fa 7 14 6,ld 8 7,bi 9 .neq 8 (k 5)]
(.cond 9 (u [P 3 (.mv (.k (.b false)))]
.ret)
.skip))
(u [ld 10 1,P 11 (.nilck 10),fa 12 0 11,fa 13 105 12,ld 14 13,P 15 (.mkf 192 [] [2]),E 16 (.call 191 [14,15]),m 4 16]
(u [m 17 4,bi 18 .geq 17 (k 0),m 19 18,G 20 19 true (.L (.ld1 1)),G 21 19 true (.P (.nilck 20)),G 22 19 true (.P (.fa 0 21)),G 23 19 true (.P (.fa 105 22)),G 24 19 true (.L (.ld1 23)),G 25 19 true (.P (.mv 4)),G 26 19 true (.P (.ixS 8 24 25)),G 27 19 true (.P (.fa 7 26)),G 28 19 true (.L (.ld1 27)),P 29 (.pick 19 28 (.k (.b false))),m 3 29]
.ret))),[.t 3]⟩
def d195 : F:=⟨1,16,u [A 1 (.box (.d 0)),P 2 (.mv (k 0)),P 3 (.mv (.k (j 0)))]
(.seq (u [fa 4 0 1,fa 5 0 4,fa 6 20 5,ld 7 6,E 8 (.call 204 [7]),P 9 (.un .not 8)]
(.cond 9 (u [P 2 (.mv (.k (.i .i64 (-1)))),P 3 (.mv (.k (j 0)))]
.ret)
.skip))
(.seq (.dreg [a 0 (fa 10 0 1),a 1 (fa 11 0 10),a 2 (fa 12 20 11),a 3 (ld 13 12),a 4 (fa 14 30 1),a 5 (ld 15 14),a 6 (m 2 13),a 7 (m 3 15)])
.ret)),[.t 2,.t 3]⟩
def d203 : F:=⟨1,13,u [A 1 (.box (.d 0)),P 2 (.mv (.k (.b false)))]
(u [ln 3 30 1,E 4 (.call 183 [3]),P 5 (.un .not 4),m 6 5,G 7 6 true (.P (.fa 17 1)),G 8 6 true (.P (.ixA 12 1 7 (k 0))),G 9 6 true (.L (.ld1 8)),G 10 6 true (.P (.bin .and 9 (.k (j 32)))),G 11 6 true (.P (.bin .neq 10 (.k (j 0)))),P 12 (.pick 6 11 (.k (.b false))),m 2 12]
.ret),[.t 2]⟩
def d207 : F:=⟨2,12,u [P 4 (.mv (.k (.b false)))]
(u [m 5 0,E 6 (.call 169 [5]),P 7 (.ixA 12 1 (.k (.pf [(i 0),(i 7),(i 11),(i 14),(i 14),(i 9),(i 7),(i 9),(i 10),(i 2),(i 0),(i 3)])) 6),ld 8 7,m 9 1,bi 10 .and 8 9,bi 11 .neq 10 (k 0),m 4 11]
.ret),[.t 4]⟩
def d211 : F:=⟨1,8,u [P 2 (.mv (.k .sn))]
(.seq (u [m 3 0,P 4 (.eqNil false 3)]
(.cond 4 (u [P 2 (.mv (.k .sn))]
.ret)
.skip))
(u [A 5 (.buildSl 1 0 [] []),m 6 0,E 7 (.appS 1 1 5 6),m 2 7]
.ret)),[.t 2]⟩
def d215 : F:=⟨2,8,u [A 3 (.box (.d 1)),P 4 (.mv (k 0))]
(u [m 5 0,P 6 (.mkf 288 [] [3]),E 7 (.call 112 [5,6]),m 4 7]
.ret),[.t 4]⟩
def d240 : F:=⟨1,7,u [A 1 (.box (.d 0)),P 2 (.mv (.k (j 0)))]
(u [fa 3 5 1,fa 4 0 3,ld 5 4,P 6 (.bin .add 5 (.k (j 4))),m 2 6]
.ret),[.t 2]⟩
def d247 : F:=⟨0,2,u [A 0 (.alloc [(i 0),(i 0),(i 0)])]
(u [P 1 (.build [(i 0),(i 0),(i 0)] [(0,1,(.k (.i .i64 (-1)))),(1,1,(.k (.i .i64 (-1)))),(2,1,(.k (.i .i64 (-1))))]),sm 3 0 1]
.ret),[.cn 0 3]⟩
def d251 : F:=⟨2,8,u [A 2 (.box (.d 0)),P 3 (.mv (.k (.b false)))]
(u [fa 4 14 2,ld 5 4,ld 6 1,bi 7 .eql 5 6,m 3 7]
.ret),[.t 3]⟩
def d255 : F:=⟨1,11,u [A 1 (.box (.d 0)),P 2 (.mv (.k (.b false)))]
(u [fa 3 20 1,ld 4 3,bi 5 .geq 4 (k 1),m 6 5,G 7 6 true (.P (.fa 20 1)),G 8 6 true (.L (.ld1 7)),G 9 6 true (.P (.bin .lss 8 (k 16))),P 10 (.pick 6 9 (.k (.b false))),m 2 10]
.ret),[.t 2]⟩
def d259 : F:=⟨1,8,u [P 2 (.mv (.k .sn))]
(.seq (u [m 3 0,P 4 (.eqNil false 3)]
(.cond 4 (u [P 2 (.mv (.k .sn))]
.ret)
.skip))
(u [A 5 (.buildSl 5 0 [] []),m 6 0,E 7 (.appS 5 32 5 6),m 2 7]
.ret)),[.t 2]⟩
def d270 : F:=⟨1,14,u [P 2 (.mv (.k (j 0)))]
(u [P 4 (.build (rp 12 (j 0) ([])) [(0,1,(.k (j 63))),(1,1,(.k (j 31))),(2,1,(.k (j 4294967295))),(3,1,(.k (j 4294967295))),(4,1,(.k (j 4294967295))),(5,1,(.k (j 4294967232))),(6,1,(.k (j 4294967295))),(7,1,(.k (j 4294967295))),(8,1,(.k (j 4294967295))),(9,1,(.k (j 7))),(10,1,(.k (j 7))),(11,1,(.k (j 4294967295)))]),A 3 (.alloc (rp 12 (j 0) ([]))),sm 12 3 4]
(.seq (u [m 5 0,bi 6 .lss 5 (k 0),m 7 6,G 8 7 false (.P (.mv 0)),G 9 7 false (.P (.bin .geq 8 (k 12))),P 10 (.pick 7 (.k (.b true)) 9)]
(.cond 10 (u [P 2 (.mv (.k (j 0)))]
.ret)
.skip))
(u [m 11 0,P 12 (.ixA 12 1 3 11),ld 13 12,m 2 13]
.ret))),[.t 2]⟩
def d275 : F:=⟨1,9,u [P 2 (.mv (.k (.b false)))]
(u [m 3 0,bi 4 .geq 3 (k 51),m 5 4,G 6 5 true (.P (.mv 0)),G 7 5 true (.P (.bin .leq 6 (k 62))),P 8 (.pick 5 7 (.k (.b false))),m 2 8]
.ret),[.t 2]⟩
def d285 : F:=⟨1,6,u [P 2 (.mv (k 0))]
(.seq (u [m 3 0,E 4 (.call 169 [3]),bi 5 .eql 4 (k 5)]
(.cond 5 (u [P 2 (.mv (k 18))]
.ret)
.skip))
(u [P 2 (.mv (k 14))]
.ret)),[.t 2]⟩
def d292 : F:=⟨2,34,u [P 4 (.mv (.k .sn)),P 5 (.mv (.k .sn))]
(u [P 6 (.mv (.k .sn)),P 7 (.mv (.k .sn))]
(.seq (u [m 10 0,P 11 (.len 10),P 12 (.mv (k 0))]
(.block 0 (.loop (u [bi 13 .lss 12 11]
(.seq (.cond 13 .skip
(.exit 0))
(.seq (.block 1 (u [P 14 (.ixS 35 10 12),ln 15 35 14,A 9 (.alloc ([(i 0),(i 0),(i 0),(i 0),(i 0),(j 0),(j 0),(i 0),(j 0),(.b false),(j 0),(j 0),(i 0),(j 0),(i 0),(i 0),(.b false),(i 0),(i 0),(i 0),(i 0),(i 0),(j 0),(.i .u64 0),(i 0),(i 0),(i 0),(i 0),(i 0),(.b false),(j 0),(j 0),(i 0),(j 0),(.b false)])),sm 35 9 15]
(u [fa 16 0 9,fa 17 23 16,ld 18 17,m 19 1,bi 20 .leq 18 19]
(.cond 20 (.reg [m 21 6,ln 22 35 9,A 23 (.buildSl 35 1 ([(i 0),(i 0),(i 0),(i 0),(i 0),(j 0),(j 0),(i 0),(j 0),(.b false),(j 0),(j 0),(i 0),(j 0),(i 0),(i 0),(.b false),(i 0),(i 0),(i 0),(i 0),(i 0),(j 0),(.i .u64 0),(i 0),(i 0),(i 0),(i 0),(i 0),(.b false),(j 0),(j 0),(i 0),(j 0),(.b false)]) [(0,35,(.d 22))]),E 24 (.appS 35 248 21 23),m 6 24])
(.reg [m 25 7,ln 26 35 9,A 27 (.buildSl 35 1 ([(i 0),(i 0),(i 0),(i 0),(i 0),(j 0),(j 0),(i 0),(j 0),(.b false),(j 0),(j 0),(i 0),(j 0),(i 0),(i 0),(.b false),(i 0),(i 0),(i 0),(i 0),(i 0),(j 0),(.i .u64 0),(i 0),(i 0),(i 0),(i 0),(i 0),(.b false),(j 0),(j 0),(i 0),(j 0),(.b false)]) [(0,35,(.d 26))]),E 28 (.appS 35 248 25 27),m 7 28])))))
(.reg [bi 29 .add 12 (k 1),m 12 29])))))))
(u [m 30 7,E 31 (.call 358 [30])]
(u [m 32 6,m 33 7,m 4 32,m 5 33]
.ret)))),[.t 4,.t 5]⟩
def d296 : F:=⟨2,9,u [A 3 (.box (.d 1)),P 4 (.mv (.k .sn))]
(u [m 5 0,E 6 (.call 259 [5]),P 7 (.mkf 365 [] [3]),E 8 (.call 364 [6,7]),m 4 8]
.ret),[.t 4]⟩
def d305 : F:=⟨2,19,u [P 4 (.mv (k 0))]
(.seq (u [m 6 0,P 7 (.len 6),P 8 (.mv (k 0))]
(.block 0 (.loop (u [bi 9 .lss 8 7]
(.seq (.cond 9 .skip
(.exit 0))
(.seq (.block 1 (u [m 10 8,m 5 10]
(u [m 11 1,m 12 0,m 13 5,P 14 (.ixS 5 12 13),ln 15 5 14,E 16 (.callv 11 [15])]
(.cond 16 (u [m 17 5,m 4 17]
.ret)
.skip))))
(.reg [bi 18 .add 8 (k 1),m 8 18])))))))
(u [P 4 (.mv (.k (.i .i64 (-1))))]
.ret)),[.t 4]⟩
def d321 : F:=⟨3,70,u [P 6 (.mv (.k (j 0))),P 7 (.mv (.k (.b false)))]
(.seq (u [m 14 0]
(.block 0 (u [bi 16 .eql 14 (k 15),m 15 16]
(.cond 15 (u [m 18 1,m 19 2,E 20 (.call 382 [18,19]),E 21 (.call 381 [20]),m 17 21,ex 22 17 0,ex 23 17 1,m 8 22,m 9 23]
(u [m 24 8,m 6 24,P 7 (.mv (.k (.b true)))]
.ret))
(u [bi 26 .eql 14 (k 17),m 25 26]
(.cond 25 (u [m 28 1,m 29 2,E 30 (.call 382 [28,29]),E 31 (.call 381 [30]),m 27 31,ex 32 27 0,ex 33 27 1,m 10 32,m 11 33]
(u [m 34 11,m 6 34,P 7 (.mv (.k (.b true)))]
.ret))
(.seq (u [bi 36 .eql 14 (k 14),m 35 36]
(.cond 35 .skip
(.reg [bi 37 .eql 14 (k 16),m 35 37])))
(.cond 35 .skip
(u [P 6 (.mv (.k (j 0))),P 7 (.mv (.k (.b false)))]
.ret)))))))))
(u [m 39 1,E 40 (.call 383 [39]),m 41 2,E 42 (.call 383 [41]),E 43 (.call 382 [40,42]),E 44 (.call 381 [43]),m 38 44,ex 45 38 0,ex 46 38 1,m 12 45,m 13 46]
(.seq (u [m 47 2,P 48 (.bin .eql 47 (.k (j 0)))]
(.cond 48 (u [P 12 (.mv (.k (j 0)))]
(u [m 49 12,P 50 (.bin .sub 49 (.k (j 1))),m 12 50]
(.reg [m 51 1,m 13 51])))
(.seq (u [m 52 1,P 53 (.cvt .i32 52),P 54 (.bin .lss 53 (.k (.i .i32 0))),m 55 2,P 56 (.cvt .i32 55),P 57 (.bin .lss 56 (.k (.i .i32 0))),P 58 (.binB .neq 54 57)]
(.cond 58 (.reg [m 59 12,P 60 (.un .neg 59),m 12 60])
.skip))
(u [m 61 1,P 62 (.cvt .i32 61),P 63 (.bin .lss 62 (.k (.i .i32 0)))]
(.cond 63 (.reg [m 64 13,P 65 (.un .neg 64),m 13 65])
.skip)))))
(.seq (u [m 66 0,bi 67 .eql 66 (k 14)]
(.cond 67 (u [m 68 12,m 6 68,P 7 (.mv (.k (.b true)))]
.ret)
.skip))
(u [m 69 13,m 6 69,P 7 (.mv (.k (.b true)))]
.ret))))),[.t 6,.t 7]⟩
def d325 : F:=⟨4,45,u [A 4 (.box (.d 0)),P 8 (.mv (.k (j 0))),P 9 (.mv (k 0))]
(.seq (u [ln 14 30 4,E 15 (.call 306 [14]),P 16 (.un .not 15)]
(.cond 16 (u [m 17 2,m 8 17,P 9 (.mv (k 0))]
.ret)
.skip))
(u [m 18 3,E 19 (.call 309 [18]),m 10 19]
(.seq (u [m 20 10,bi 21 .eql 20 (k 9)]
(.cond 21 (u [m 22 10,P 8 (.mv (.k (j 0))),m 9 22]
.ret)
.skip))
(u [m 24 1,fa 25 17 4,P 26 (.ixA 12 1 25 (k 5)),ld 27 26,m 28 2,E 29 (.call 308 [24,27,28]),m 23 29,ex 30 23 0,ex 31 23 1,ex 32 23 2,A 11 (.alloc [(j 0),(i 0)]),sm 2 11 30,m 12 31,m 13 32]
(.seq (u [m 33 13,P 34 (.un .not 33),m 35 34,G 36 35 false (.L (.ldn 2 11)),G 37 35 false (.P (.mv 3)),G 38 35 false (.E (.call 312 [36,37,(.k (.b false))])),G 39 35 false (.P (.un .not 38)),P 40 (.pick 35 (.k (.b true)) 39)]
(.cond 40 (u [m 41 10,P 8 (.mv (.k (j 0))),m 9 41]
.ret)
.skip))
(u [ln 42 2 11,m 43 2,E 44 (.call 313 [42,43]),m 8 44,P 9 (.mv (k 0))]
.ret)))))),[.t 8,.t 9]⟩
def d343 : F:=⟨3,14,u [P 6 (.mv (.k .sn))]
(u [m 7 0,E 8 (.call 210 [7]),m 0 8]
(u [m 9 0,m 10 1,m 11 2,P 12 (.ixS 1 9 10),st 12 11]
(u [m 13 0,m 6 13]
.ret))),[.t 6]⟩
def d356 : F:=⟨2,38,u [P 4 (.mv (.k (.b false)))]
(.seq (u [m 5 0]
(.block 0 (.seq (u [bi 7 .eql 5 (k 30),m 6 7]
(.cond 6 .skip
(u [bi 8 .eql 5 (k 31),m 6 8]
(.cond 6 .skip
(.reg [bi 9 .eql 5 (k 32),m 6 9])))))
(.cond 6 (u [m 10 1,bi 11 .geq 10 (k 0),m 12 11,G 13 12 true (.P (.mv 1)),G 14 12 true (.P (.bin .leq 13 (k 31))),P 15 (.pick 12 14 (.k (.b false))),m 4 15]
.ret)
(u [bi 17 .eql 5 (k 33),m 16 17]
(.cond 16 (u [m 18 1,bi 19 .geq 18 (k 0),m 20 19,G 21 20 true (.P (.mv 1)),G 22 20 true (.P (.bin .lss 21 (k 262144))),P 23 (.pick 20 22 (.k (.b false))),m 4 23]
.ret)
(u [bi 25 .eql 5 (k 49),m 24 25]
(.cond 24 (u [m 26 1,P 27 (.bin .geq 26 (.k (.i .i64 (-131072)))),m 28 27,G 29 28 true (.P (.mv 1)),G 30 28 true (.P (.bin .lss 29 (k 131072))),P 31 (.pick 28 30 (.k (.b false))),m 4 31]
.ret)
.skip))))))))
(u [m 32 1,P 33 (.bin .geq 32 (.k (.i .i64 (-8192)))),m 34 33,G 35 34 true (.P (.mv 1)),G 36 34 true (.P (.bin .lss 35 (k 8192))),P 37 (.pick 34 36 (.k (.b false))),m 4 37]
.ret)),[.t 4]⟩
def d364 : F:=⟨2,42,u [P 4 (.mv (.k .sn))]
(u [m 8 0,m 9 1,E 10 (.call 305 [8,9]),m 5 10]
(.seq (u [m 11 5,P 12 (.bin .eql 11 (.k (.i .i64 (-1))))]
(.cond 12 (u [m 13 0,m 4 13]
.ret)
.skip))
(.seq (u [m 14 5,bi 15 .add 14 (k 1),m 6 15]
(.block 0 (.loop (.seq (u [m 16 6,m 17 0,P 18 (.len 17),bi 19 .lss 16 18]
(.cond 19 .skip
(.exit 0)))
(.seq (.block 1 (u [m 22 0,m 23 6,P 24 (.ixS 5 22 23),ln 25 5 24,A 7 (.alloc [(.i .u64 0),(j 0),(j 0),(i 0),(.b false)]),sm 5 7 25]
(u [m 26 1,ln 27 5 7,E 28 (.callv 26 [27]),P 29 (.un .not 28)]
(.cond 29 (u [m 30 0,m 31 5,ln 32 5 7,P 33 (.ixS 5 30 31),sm 5 33 32]
(.reg [m 34 5,bi 35 .add 34 (k 1),m 5 35]))
.skip))))
(.reg [m 20 6,bi 21 .add 20 (k 1),m 6 21]))))))
(u [m 36 0,m 37 5,P 38 (.slS 5 36 (some 37) none),S (.clr 5 [(.i .u64 0),(j 0),(j 0),(i 0),(.b false)] 38)]
(u [m 39 0,m 40 5,P 41 (.slS 5 39 none (some 40)),m 4 41]
.ret))))),[.t 4]⟩
def d379 : F:=⟨2,8,u [A 4 (.alloc [(j 0),(j 0),(j 0),(j 0),(i 0)])]
(u [m 5 0,m 6 1,P 7 (.build [(j 0),(j 0),(j 0),(j 0),(i 0)] [(0,1,(.d 5)),(1,1,(.d 6)),(4,1,(k 32))]),sm 5 4 7]
.ret),[.cn 4 5]⟩
end
end Go.Proofs.YtoppeebbioalcaaGreatDoor.Run
