/- The functions that a closed call comes to, compiled: part 3 (printed by a program). -/
import Derived.Test.YtoppeebbioalcaaGreatDoorEvE
set_option maxRecDepth 100000
namespace Go.Proofs.YtoppeebbioalcaaGreatDoor.Run
open Go.Ev Go.Ev.S1 Go.Ev.S2
noncomputable section
def n3_0:=rp 21 (i 0) ([(.b false)])
def d13 : F:=⟨0,2,u [A 0 (.alloc n3_0)]
(u [P 1 (.build n3_0 [(0,1,(k 2)),(1,1,(k 2)),(2,1,(k 2)),(3,1,(k 2)),(4,1,(k 8)),(5,1,(k 16)),(6,1,(k 8)),(7,1,(k 4)),(8,1,(k 4)),(9,1,(k 4)),(10,1,(k 32)),(11,1,(k 4)),(12,1,(k 4)),(13,1,(k 4)),(14,1,(k 4)),(15,1,(k 4)),(16,1,(k 3)),(17,1,(k 8)),(18,1,(k 4)),(19,1,(k 4)),(20,1,(k 2)),(21,1,(.k (.b true)))]),sm 22 0 1]
.ret),[.cn 0 22]⟩
def d17 : F:=⟨2,14,u [A 2 (.box (.d 0)),A 4 (.alloc (rp 29 (j 0) ([(.b false)])))]
(u [fa 5 17 2,P 6 (.ixA 12 1 5 (k 10)),ld 7 6,m 8 1,P 9 (.bin .and 8 (.k (j 7))),bi 10 .or 7 9,fa 11 17 2,P 12 (.ixA 12 1 11 (k 10)),st 12 10]
(u [ln 13 30 2,sm 30 4 13]
.ret)),[.cn 4 30]⟩
def d21 : F:=⟨2,60,u [A 2 (.box (.d 0)),A 3 (.box (.d 1)),A 4 (.alloc (rp 21 (i 0) ((.b false)::rp 29 (j 0) ((.b false)::.sn::.sn::(j 0)::(.b false)::(j 0)::.sn::.sn::(i 0)::.sn::(i 0)::.sn::(i 0)::.sn::rp 32 (i 0) (.sn::(i 0)::(i 0)::(.i .u64 0)::rp 9 .sn ([(i 0),(i 0)])))))),P 5 (.mv (.k .sn))]
(.seq (u [fa 11 1 3,ld 12 11,P 13 (.bin .and 12 (.k (j 2))),P 14 (.bin .neq 13 (.k (j 0)))]
(.cond 14 (u [ln 15 112 2,sm 112 4 15,P 5 (.mv (.k .sn))]
.ret)
.skip))
(u [P 6 (.mv (.k .sn))]
(.seq (u [fa 16 0 2,fa 17 1 16,ld 18 17,P 19 (.mx [18,(k 0)]),P 20 (.mn [19,(k 4)]),P 21 (.mv (k 0))]
(.block 0 (.loop (u [bi 22 .lss 21 20]
(.seq (.cond 22 .skip
(.exit 0))
(.seq (.block 1 (.seq (u [fa 23 64 2,ld 24 23,P 25 (.len 24),bi 26 .eql 25 (k 0)]
(.cond 26 (.exit 0)
.skip))
(u [fa 27 64 2,ld 28 27,P 29 (.ixS 9 28 (k 0)),ln 30 9 29,E 31 (.call 72 [30]),m 7 31]
(.seq (u [ln 32 112 2,m 33 7,E 34 (.call 73 [32,33]),P 35 (.un .not 34)]
(.cond 35 (.exit 0)
.skip))
(u [fa 36 64 2,ld 37 36,P 38 (.slS 9 37 (some (k 1)) none),fa 39 64 2,st 39 38]
(u [m 40 7,P 41 (.len 40),P 42 (.mv (k 0))]
(.block 2 (.loop (u [bi 43 .lss 42 41]
(.seq (.cond 43 .skip
(.exit 2))
(.seq (.block 3 (u [P 44 (.ixS 23 40 42),ln 45 23 44,A 9 (.alloc ([(i 0),(i 0),(i 0),(i 0),(i 0),(j 0),(j 0),(i 0),(j 0),(.b false),(j 0),(j 0),(i 0),(j 0),(i 0),(i 0),(.b false),(i 0),(i 0),(i 0),(i 0),(i 0),(j 0)])),sm 23 9 45]
(u [A 10 (.alloc [(i 0),(i 0),(.i .u64 0),(j 0)])]
(u [ln 47 112 2,ln 48 23 9,E 49 (.call 74 [47,48]),m 46 49,ex 50 46 0,ex 51 46 1,sm 112 2 50,sm 4 10 51]
(.reg [m 52 6,ln 53 4 10,A 54 (.buildSl 4 1 [(i 0),(i 0),(.i .u64 0),(j 0)] [(0,4,(.d 53))]),E 55 (.appS 4 32 52 54),m 6 55])))))
(.reg [bi 56 .add 42 (k 1),m 42 56]))))))))))))
(.reg [bi 57 .add 21 (k 1),m 21 57])))))))
(u [ln 58 112 2,m 59 6,sm 112 4 58,m 5 59]
.ret)))),[.cn 4 112,.t 5]⟩
def d25 : F:=⟨1,32,u [P 2 (.mv (.k .sn))]
(u [m 5 0,E 6 (.appS 35 256 (.k .sn) 5),m 3 6]
(.seq (u [m 7 3,P 8 (.len 7),P 9 (.mv (k 0))]
(.block 0 (.loop (u [bi 10 .lss 9 8]
(.seq (.cond 10 .skip
(.exit 0))
(.seq (.block 1 (u [m 11 9,m 4 11]
(u [m 12 3,m 13 4,P 14 (.ixS 35 12 13),fa 15 30 14,ld 16 15,bi 17 .gtr 16 (k 0)]
(.cond 17 (.reg [m 18 3,m 19 4,P 20 (.ixS 35 18 19),fa 21 30 20,ld 22 21,bi 23 .sub 22 (k 1),P 24 (.ixS 35 18 19),fa 25 30 24,st 25 23])
(.reg [m 26 3,m 27 4,P 28 (.ixS 35 26 27),fa 29 30 28,S (.st1 29 (k 0))])))))
(.reg [bi 30 .add 9 (k 1),m 9 30])))))))
(u [m 31 3,m 2 31]
.ret))),[.t 2]⟩
def d53 : F:=⟨1,42,u [A 1 (.box (.d 0)),P 2 (.mv (.k (.b false)))]
(.seq (u [fa 4 30 1,ld 5 4,E 6 (.call 50 [5]),P 7 (.un .not 6),m 8 7,G 9 8 false (.P (.fa 31 1)),G 10 8 false (.L (.ld1 9)),G 11 8 false (.P (.len 10)),G 12 8 false (.P (.fa 30 1)),G 13 8 false (.L (.ld1 12)),G 14 8 false (.P (.len 13)),G 15 8 false (.P (.bin .neq 11 14)),P 16 (.pick 8 (.k (.b true)) 15),m 17 16,G 18 17 false (.P (.fa 0 1)),G 19 17 false (.P (.fa 1 18)),G 20 17 false (.P (.ixA 16 1 19 (k 0))),G 21 17 false (.L (.ld1 20)),G 22 17 false (.P (.bin .neq 21 (.k (j 0)))),P 23 (.pick 17 (.k (.b true)) 22)]
(.cond 23 (u [P 2 (.mv (.k (.b false)))]
.ret)
.skip))
(.seq (u [P 3 (.mv (k 0))]
(.block 0 (.loop (.seq (u [m 24 3,bi 25 .lss 24 (k 12)]
(.cond 25 .skip
(.exit 0)))
(.seq (.block 1 (.seq (.dreg [a 5 (m 33 3),a 6 (E 34 (.call 91 [33])),a 0 (m 28 3),a 1 (fa 29 0 1),a 2 (fa 30 17 29),a 3 (P 31 (.ixA 12 1 30 28)),⟨4,ld 32 31,1,1⟩,a 7 (bi 35 .and 32 34),a 8 (m 36 3),a 9 (fa 37 0 1),a 10 (fa 38 17 37),a 11 (P 39 (.ixA 12 1 38 36)),⟨12,ld 40 39,1,1⟩,a 13 (bi 41 .neq 35 40)])
(.cond 41 (u [P 2 (.mv (.k (.b false)))]
.ret)
.skip)))
(.reg [m 26 3,bi 27 .add 26 (k 1),m 3 27]))))))
(u [P 2 (.mv (.k (.b true)))]
.ret))),[.t 2]⟩
def n3_1:=rp 32 (i 0) ([.sn,(i 0),(i 0),(.i .u64 0)])
def d57 : F:=⟨1,8,u [A 2 (.alloc n3_1)]
(u [E 3 (.call 103 []),E 4 (.call 103 []),m 5 0,E 6 (.call 104 [5,(k 16)]),P 7 (.build n3_1 [(0,16,(.d 3)),(16,16,(.d 4)),(32,3,(.d 6)),(35,1,(.k (.i .u64 1)))]),sm 36 2 7]
.ret),[.cn 2 36]⟩
def d61 : F:=⟨1,84,u [P 2 (.mv (.k (.b false)))]
(u [m 7 0,P 8 (.nilck 7),fa 9 0 8,fa 10 22 9,ln 11 30 10,A 3 (.alloc (rp 29 (j 0) ([(.b false)]))),sm 30 3 11]
(u [ln 12 30 3,E 13 (.call 107 [12]),m 4 13]
(.seq (.block 0 (u [fa 15 29 3,ld 16 15,m 14 16]
(.cond 14 (u [P 2 (.mv (.k (.b false)))]
.ret)
(u [m 18 4,bi 19 .neq 18 (k 0),m 17 19]
(.cond 17 (u [m 20 0,m 21 4,E 22 (.call 108 [20,21,(.k (j 0))])]
(u [P 2 (.mv (.k (.b false)))]
.ret))
(u [ln 24 30 3,fa 25 0 3,ld 26 25,E 27 (.call 109 [24,26]),m 23 27]
(.cond 23 (u [m 28 0,fa 29 0 3,ld 30 29,E 31 (.call 108 [28,(k 3),30])]
(u [P 2 (.mv (.k (.b false)))]
.ret))
(u [m 33 0,P 34 (.nilck 33),fa 35 0 34,fa 36 103 35,ld 37 36,E 38 (.call 110 [37]),bi 39 .lss 38 (k 1),m 32 39]
(.cond 32 (u [P 2 (.mv (.k (.b false)))]
.ret)
.skip)))))))))
(u [m 40 0,E 41 (.call 111 [40]),m 5 41]
(u [m 42 5,E 43 (.call 112 [42,(.k (.fn 113 [] []))]),m 6 43]
(.seq (.block 1 (u [m 48 0,m 49 5,E 50 (.call 114 [48,49]),m 47 50]
(.cond 47 (.reg [m 51 0,E 52 (.call 115 [51])])
(u [m 54 6,bi 55 .geq 54 (k 0),m 53 55]
(.cond 53 (.dreg [a 11 (m 67 5),a 12 (ln 68 30 3),a 13 (E 69 (.call 117 [67,68])),a 0 (m 56 0),a 1 (m 57 5),a 2 (m 58 6),a 3 (P 59 (.ixS 35 57 58)),a 4 (fa 60 32 59),⟨5,ld 61 60,1,1⟩,a 6 (m 62 5),a 7 (m 63 6),a 8 (P 64 (.ixS 35 62 63)),a 9 (fa 65 33 64),⟨10,ld 66 65,1,1⟩,a 14 (E 70 (.call 116 [56,61,66,69]))])
(u [m 72 5,P 73 (.ixS 35 72 (k 0)),fa 74 0 73,fa 75 0 74,fa 76 14 75,ld 77 76,bi 78 .eql 77 (k 7),m 71 78]
(.cond 71 (.reg [m 79 0,m 80 5,P 81 (.ixS 35 80 (k 0)),ln 82 35 81,E 83 (.call 118 [79,82])])
(u [m 44 0,m 45 5,E 46 (.call 119 [44,45]),m 2 46]
.ret))))))))
(u [P 2 (.mv (.k (.b false)))]
.ret))))))),[.t 2]⟩
def d65 : F:=⟨2,85,u [A 2 (.box (.d 0)),A 3 (.box (.d 1)),A 4 (.alloc (rp 21 (i 0) ((.b false)::rp 29 (j 0) ((.b false)::.sn::.sn::(j 0)::(.b false)::(j 0)::.sn::.sn::(i 0)::.sn::(i 0)::.sn::(i 0)::.sn::rp 32 (i 0) (.sn::(i 0)::(i 0)::(.i .u64 0)::rp 9 .sn ([(i 0),(i 0)])))))),P 5 (.mv (.k .sn))]
(u [fa 9 0 3,ln 10 29 9,A 6 (.alloc ([(i 0),(i 0),(i 0),(i 0),(i 0),(j 0),(j 0),(i 0),(j 0),(.b false),(j 0),(j 0),(i 0),(j 0),(i 0),(i 0),(.b false),(i 0),(i 0),(i 0),(i 0),(i 0),(j 0),(.i .u64 0),(i 0),(i 0),(i 0),(i 0),(i 0)])),sm 29 6 10]
(u [fa 11 108 2,ld 12 11,fa 13 23 6,ld 14 13,E 15 (.call 123 [12,14]),fa 16 108 2,st 16 15]
(.seq (u [fa 17 27 6,ld 18 17,bi 19 .geq 18 (k 0)]
(.cond 19 (u [fa 20 101 2,ln 21 2 20,fa 22 27 6,ld 23 22,fa 24 31 3,ld 25 24,E 26 (.call 124 [21,23,25]),fa 27 101 2,sm 2 27 26]
(.reg [fa 28 104 2,ld 29 28,fa 30 27 6,ld 31 30,E 32 (.call 125 [29,31]),fa 33 104 2,st 33 32]))
.skip))
(u [fa 34 103 2,ld 35 34,ln 36 29 6,fa 37 31 3,ld 38 37,fa 39 32 3,ld 40 39,fa 41 33 3,ld 42 41,fa 43 34 3,ld 44 43,P 45 (.build ([(i 0),(i 0),(i 0),(i 0),(i 0),(j 0),(j 0),(i 0),(j 0),(.b false),(j 0),(j 0),(i 0),(j 0),(i 0),(i 0),(.b false),(i 0),(i 0),(i 0),(i 0),(i 0),(j 0),(.i .u64 0),(i 0),(i 0),(i 0),(i 0),(i 0),(.b false),(j 0),(j 0),(i 0),(j 0),(.b false)]) [(0,29,(.d 36)),(29,1,(.k (.b true))),(30,1,(.d 38)),(31,1,(.d 40)),(32,1,(.d 42)),(33,1,(.d 44))]),E 46 (.call 126 [35,45]),fa 47 103 2,st 47 46]
(u [fa 48 111 2,ld 49 48,fa 50 23 6,ld 51 50,fa 52 0 6,fa 53 5 52,fa 54 0 53,ld 55 54,P 56 (.build [(i 0),(i 0),(.i .u64 0),(j 0)] [(0,1,(.d 49)),(1,1,(k 4)),(2,1,(.d 51)),(3,1,(.d 55))]),A 57 (.buildSl 4 1 [(i 0),(i 0),(.i .u64 0),(j 0)] [(0,4,(.d 56))]),m 7 57]
(.seq (u [fa 58 33 3,ld 59 58,bi 60 .neq 59 (k 0)]
(.cond 60 (u [ln 61 112 2,m 62 7,sm 112 4 61,m 5 62]
.ret)
.skip))
(u [P 8 (.mv (.k .sn))]
(.seq (u [fa 63 29 3,ld 64 63]
(.block 0 (u [bi 66 .eql 64 (k 6),m 65 66]
(.cond 65 (.reg [ln 68 112 2,ln 69 35 3,E 70 (.call 127 [68,69]),m 67 70,ex 71 67 0,ex 72 67 1,sm 112 2 71,m 8 72])
(u [bi 74 .eql 64 (k 4),m 73 74]
(.cond 73 (.reg [ln 76 112 2,ln 77 35 3,E 78 (.call 128 [76,77]),m 75 78,ex 79 75 0,ex 80 75 1,sm 112 2 79,m 8 80])
.skip))))))
(.seq (.dreg [a 1 (m 82 7),a 2 (m 83 8),a 3 (E 84 (.appS 4 32 82 83)),⟨0,ln 81 112 2,1,1⟩,a 4 (sm 112 4 81),a 5 (m 5 84)])
.ret))))))))),[.cn 4 112,.t 5]⟩
def d69 : F:=⟨4,60,u [A 4 (.box (.d 0)),A 5 (.box (.d 1)),A 7 (.box (.d 3)),A 8 (.alloc ((i 0)::(i 0)::(i 0)::(i 0)::(i 0)::(j 0)::(j 0)::(i 0)::(j 0)::(.b false)::(j 0)::(j 0)::(i 0)::(j 0)::(i 0)::(i 0)::(.b false)::(i 0)::(i 0)::(i 0)::(i 0)::(i 0)::(j 0)::(.i .u64 0)::rp 7 (i 0) ([(j 0),(j 0),(i 0),(j 0)]))),A 9 (.alloc (rp 21 (i 0) ((.b false)::rp 29 (j 0) ((.b false)::.sn::.sn::(j 0)::(.b false)::(j 0)::.sn::.sn::(i 0)::.sn::(i 0)::.sn::(i 0)::.sn::rp 32 (i 0) (.sn::(i 0)::(i 0)::(.i .u64 0)::rp 9 .sn ([(i 0),(i 0)])))))),A 10 (.alloc [.sn,.sn])]
(.seq (u [fa 14 0 7,fa 15 14 14,ld 16 15]
(.block 0 (u [bi 18 .eql 16 (k 5),m 17 18]
(.cond 17 (u [ln 19 112 4,ln 20 2 5,m 21 2,ln 22 29 7,E 23 (.call 138 [19,20,21,22]),ex 24 23 0,ex 25 23 1,ex 26 23 2,sm 35 8 24,sm 112 9 25,sm 2 10 26]
.ret)
(u [bi 28 .eql 16 (k 6),m 27 28]
(.cond 27 (u [ln 30 112 4,ln 31 2 5,ln 32 29 7,E 33 (.call 139 [30,31,32]),m 29 33,ex 34 29 0,ex 35 29 1,A 11 (.alloc ((i 0)::(i 0)::(i 0)::(i 0)::(i 0)::(j 0)::(j 0)::(i 0)::(j 0)::(.b false)::(j 0)::(j 0)::(i 0)::(j 0)::(i 0)::(i 0)::(.b false)::(i 0)::(i 0)::(i 0)::(i 0)::(i 0)::(j 0)::(.i .u64 0)::rp 7 (i 0) ([(j 0),(j 0),(i 0),(j 0)]))),A 12 (.alloc (rp 21 (i 0) ((.b false)::rp 29 (j 0) ((.b false)::.sn::.sn::(j 0)::(.b false)::(j 0)::.sn::.sn::(i 0)::.sn::(i 0)::.sn::(i 0)::.sn::rp 32 (i 0) (.sn::(i 0)::(i 0)::(.i .u64 0)::rp 9 .sn ([(i 0),(i 0)])))))),sm 35 11 34,sm 112 12 35]
(.seq (.dreg [a 0 (ln 36 35 11),a 3 (sm 35 8 36),⟨1,ln 37 112 12,1,1⟩,a 4 (sm 112 9 37),⟨2,ln 38 2 5,1,2⟩,a 5 (sm 2 10 38)])
.ret))
.skip))))))
(u [ln 39 112 4,ln 40 29 7,E 41 (.call 140 [39,40]),A 13 (.alloc ((i 0)::(i 0)::(i 0)::(i 0)::(i 0)::(j 0)::(j 0)::(i 0)::(j 0)::(.b false)::(j 0)::(j 0)::(i 0)::(j 0)::(i 0)::(i 0)::(.b false)::(i 0)::(i 0)::(i 0)::(i 0)::(i 0)::(j 0)::(.i .u64 0)::rp 7 (i 0) ([(j 0),(j 0),(i 0),(j 0)]))),sm 35 13 41]
(.seq (.dreg [a 2 (ln 45 112 4),a 3 (ln 46 29 7),a 4 (E 47 (.call 142 [45,46])),a 0 (fa 43 0 7),⟨1,ln 44 23 43,1,1⟩,a 5 (E 48 (.call 141 [44,47])),a 6 (m 42 48),a 7 (ex 49 42 0),a 11 (fa 53 31 13),a 12 (st 53 49),a 8 (ex 50 42 1),a 13 (fa 54 32 13),a 14 (st 54 50),a 9 (ex 51 42 2),a 15 (fa 55 33 13),a 16 (st 55 51),a 10 (ex 52 42 3),a 17 (fa 56 34 13),a 18 (st 56 52)])
(.seq (.dreg [a 0 (ln 57 35 13),a 3 (sm 35 8 57),⟨1,ln 58 112 4,1,1⟩,a 4 (sm 112 9 58),⟨2,ln 59 2 5,1,2⟩,a 5 (sm 2 10 59)])
.ret)))),[.cn 8 35,.cn 9 112,.cn 10 2]⟩
def d73 : F:=⟨2,62,u [A 2 (.box (.d 0)),P 4 (.mv (.k (.b false)))]
(u [fa 6 0 2,ln 7 22 6,A 5 (.alloc n3_0),sm 22 5 7]
(.seq (.dreg [a 0 (fa 8 103 2),a 1 (ld 9 8),a 2 (P 10 (.len 9)),a 3 (m 11 1),a 4 (P 12 (.len 11)),a 5 (bi 13 .add 10 12),a 6 (fa 14 5 5),a 7 (ld 15 14),a 8 (bi 16 .leq 13 15),a 9 (m 17 16),⟨13,G 21 17 true (.P (.mv 1)),1,0⟩,⟨14,G 22 17 true (.E (.call 150 [21,(.k (.fn 151 [] []))])),1,0⟩,⟨10,G 18 17 true (.P (.fa 104 2)),1,0⟩,⟨11,G 19 17 true (.L (.ld1 18)),1,1⟩,⟨12,G 20 17 true (.P (.len 19)),1,0⟩,⟨15,G 23 17 true (.P (.bin .add 20 22)),1,0⟩,⟨16,G 24 17 true (.P (.fa 6 5)),1,0⟩,⟨17,G 25 17 true (.L (.ld1 24)),1,1⟩,⟨18,G 26 17 true (.P (.bin .leq 23 25)),1,0⟩,a 19 (P 27 (.pick 17 26 (.k (.b false)))),a 20 (m 28 27),⟨25,G 33 28 true (.E (.call 152 [(k 5)])),1,0⟩,⟨24,G 32 28 true (.P (.mv 1)),1,0⟩,⟨26,G 34 28 true (.E (.call 150 [32,33])),1,0⟩,⟨21,G 29 28 true (.P (.fa 105 2)),1,0⟩,⟨22,G 30 28 true (.L (.ld1 29)),1,2⟩,⟨23,G 31 28 true (.P (.len 30)),1,0⟩,⟨27,G 35 28 true (.P (.bin .add 31 34)),1,0⟩,⟨28,G 36 28 true (.P (.fa 7 5)),1,0⟩,⟨29,G 37 28 true (.L (.ld1 36)),1,2⟩,⟨30,G 38 28 true (.P (.bin .leq 35 37)),1,0⟩,a 31 (P 39 (.pick 28 38 (.k (.b false)))),a 32 (m 40 39),⟨37,G 45 40 true (.E (.call 152 [(k 6)])),1,0⟩,⟨36,G 44 40 true (.P (.mv 1)),1,0⟩,⟨38,G 46 40 true (.E (.call 150 [44,45])),1,0⟩,⟨33,G 41 40 true (.P (.fa 106 2)),1,0⟩,⟨34,G 42 40 true (.L (.ld1 41)),1,2⟩,⟨35,G 43 40 true (.P (.len 42)),1,0⟩,⟨39,G 47 40 true (.P (.bin .add 43 46)),1,0⟩,⟨40,G 48 40 true (.P (.fa 8 5)),1,0⟩,⟨41,G 49 40 true (.L (.ld1 48)),1,2⟩,⟨42,G 50 40 true (.P (.bin .leq 47 49)),1,0⟩,a 43 (P 51 (.pick 40 50 (.k (.b false)))),a 44 (m 52 51),⟨45,G 53 52 true (.P (.mv 1)),1,0⟩,⟨46,G 54 52 true (.E (.call 150 [53,(.k (.fn 153 [] []))])),1,0⟩,⟨47,G 55 52 true (.P (.fa 65 2)),1,0⟩,⟨48,G 56 52 true (.P (.fa 32 55)),1,0⟩,⟨49,G 57 52 true (.L (.ldn 3 56)),1,1⟩,⟨50,G 58 52 true (.E (.call 154 [57])),1,0⟩,⟨51,G 59 52 true (.P (.len 58)),1,0⟩,⟨52,G 60 52 true (.P (.bin .leq 54 59)),1,0⟩,a 53 (P 61 (.pick 52 60 (.k (.b false)))),a 54 (m 4 61)])
.ret)),[.t 4]⟩
def d80 : F:=⟨2,27,u [P 4 (.mv (.k .sn))]
(.seq (u [m 5 1,bi 6 .lss 5 (k 0)]
(.cond 6 (.bad)
.skip))
(.seq (u [m 8 1,m 9 0,P 10 (.cap 9),m 11 0,P 12 (.len 11),bi 13 .sub 10 12,bi 14 .sub 8 13,m 1 14]
(u [m 15 1,bi 16 .gtr 15 (k 0)]
(.cond 16 (.reg [m 17 0,m 18 0,P 19 (.cap 18),P 20 (.slS 4 17 none (some 19)),m 21 1,E 22 (.appZ 4 32 [(i 0),(i 0),(.i .u64 0),(j 0)] 20 21),m 23 0,P 24 (.len 23),P 25 (.slS 4 22 none (some 24)),m 0 25])
.skip)))
(u [m 26 0,m 4 26]
.ret))),[.t 4]⟩
def d99 : F:=⟨1,7,u [A 1 (.box (.d 0)),P 2 (.mv (k 0))]
(u [fa 3 11 1,ld 4 3,P 5 (.mx [4,(k 0)]),P 6 (.mn [5,(k 8)]),m 2 6]
.ret),[.t 2]⟩
def d103 : F:=⟨0,13,u [A 0 (.alloc (rp 16 (i 0) ([])))]
(u [P 3 (.build (rp 16 (i 0) ([])) []),A 1 (.alloc (rp 16 (i 0) ([]))),sm 16 1 3]
(.seq (u [P 2 (.mv (k 0))]
(.block 0 (.loop (.seq (u [m 4 2,bi 5 .lss 4 (k 16)]
(.cond 5 .skip
(.exit 0)))
(.seq (.block 1 (.reg [m 8 2,m 9 2,P 10 (.ixA 16 1 1 8),st 10 9]))
(.reg [m 6 2,bi 7 .add 6 (k 1),m 2 7]))))))
(u [P 11 (.ixA 16 1 1 (k 0)),S (.st1 11 (.k (.i .i64 (-1))))]
(u [ln 12 16 1,sm 16 0 12]
.ret)))),[.cn 0 16]⟩
def d107 : F:=⟨1,34,u [A 1 (.box (.d 0)),P 2 (.mv (k 0))]
(.seq (u [ln 6 30 1,E 7 (.call 183 [6]),m 8 7,G 9 8 true (.P (.fa 17 1)),G 10 8 true (.P (.ixA 12 1 9 (k 0))),G 11 8 true (.L (.ld1 10)),G 12 8 true (.P (.bin .and 11 (.k (j 2)))),G 13 8 true (.P (.bin .eql 12 (.k (j 0)))),P 14 (.pick 8 13 (.k (.b false)))]
(.cond 14 (u [P 2 (.mv (k 0))]
.ret)
.skip))
(u [fa 15 17 1,P 16 (.ixA 12 1 15 (k 10)),ld 17 16,fa 18 17 1,P 19 (.ixA 12 1 18 (k 9)),ld 20 19,bi 21 .and 17 20,m 3 21]
(.seq (u [E 22 (.call 184 []),P 23 (.mv (k 0))]
(.block 0 (.loop (u [bi 24 .lss 23 (k 3)]
(.seq (.cond 24 .skip
(.exit 0))
(.seq (.block 1 (u [P 25 (.idAn 3 2 22 23),A 5 (.alloc [(j 0),(i 0)]),sm 2 5 25]
(u [m 26 3,fa 27 0 5,ld 28 27,bi 29 .and 26 28,P 30 (.bin .neq 29 (.k (j 0)))]
(.cond 30 (u [fa 31 1 5,ld 32 31,m 2 32]
.ret)
.skip))))
(.reg [bi 33 .add 23 (k 1),m 23 33])))))))
(u [P 2 (.mv (k 0))]
.ret)))),[.t 2]⟩
def d112 : F:=⟨2,19,u [P 4 (.mv (k 0))]
(.seq (u [m 6 0,P 7 (.len 6),P 8 (.mv (k 0))]
(.block 0 (.loop (u [bi 9 .lss 8 7]
(.seq (.cond 9 .skip
(.exit 0))
(.seq (.block 1 (u [m 10 8,m 5 10]
(u [m 11 1,m 12 0,m 13 5,P 14 (.ixS 35 12 13),ln 15 35 14,E 16 (.callv 11 [15])]
(.cond 16 (u [m 17 5,m 4 17]
.ret)
.skip))))
(.reg [bi 18 .add 8 (k 1),m 8 18])))))))
(u [P 4 (.mv (.k (.i .i64 (-1))))]
.ret)),[.t 4]⟩
def d116 : F:=⟨4,38,u [A 7 (.box (.d 3))]
(.seq (.dreg [a 1 (m 9 0),a 2 (P 10 (.nilck 9)),a 3 (fa 11 0 10),a 4 (fa 12 22 11),a 5 (ln 13 30 12),a 6 (m 14 1),a 7 (m 15 2),a 8 (m 16 0),a 9 (P 17 (.nilck 16)),a 10 (fa 18 0 17),a 11 (fa 19 22 18),a 12 (fa 20 0 19),a 13 (ld 21 20),a 14 (E 22 (.call 185 [13,14,15,21])),a 0 (m 8 0),a 15 (P 23 (.nilck 8)),a 16 (fa 24 0 23),a 17 (fa 25 22 24),a 18 (sm 30 25 22)])
(.seq (.dreg [a 1 (m 27 0),a 2 (P 28 (.nilck 27)),a 3 (fa 29 116 28),a 4 (ld 30 29),a 5 (ln 31 12 7),a 6 (A 32 (.buildSl 12 1 ([(j 0),(j 0),(i 0),(j 0),(i 0),(j 0),(i 0),(j 0),(j 0),(i 0),(j 0),(j 0)]) [(0,12,(.d 31))])),z 7 (E 33 (.appS 12 72 30 32)),a 0 (m 26 0),a 8 (P 34 (.nilck 26)),a 9 (fa 35 116 34),a 10 (st 35 33)])
(.reg [m 36 0,E 37 (.call 115 [36])]))),[]⟩
def d121 : F:=⟨2,48,u [P 4 (.mv (.k .sn))]
(.seq (u [m 7 0,P 8 (.len 7),P 9 (.mv (k 0))]
(.block 0 (.loop (u [bi 10 .lss 9 8]
(.seq (.cond 10 .skip
(.exit 0))
(.seq (.block 1 (u [m 11 9,m 5 11]
(u [m 12 5,m 6 12]
(.block 2 (.loop (.seq (.seq (.dreg [a 0 (m 13 6),a 1 (bi 14 .gtr 13 (k 0)),a 2 (m 15 14),⟨3,G 16 15 true (.P (.mv 1)),1,0⟩,⟨4,G 17 15 true (.P (.mv 0)),1,0⟩,⟨5,G 18 15 true (.P (.mv 6)),1,0⟩,⟨6,G 19 15 true (.P (.ixS 35 17 18)),1,0⟩,⟨7,G 20 15 true (.L (.ldn 35 19)),1,0⟩,⟨8,G 21 15 true (.P (.mv 0)),1,0⟩,⟨9,G 22 15 true (.P (.mv 6)),1,0⟩,⟨10,G 23 15 true (.P (.bin .sub 22 (k 1))),1,0⟩,⟨11,G 24 15 true (.P (.ixS 35 21 23)),1,0⟩,⟨12,G 25 15 true (.L (.ldn 35 24)),1,0⟩,⟨13,G 26 15 true (.E (.callv 16 [20,25])),1,0⟩,a 14 (P 27 (.pick 15 26 (.k (.b false))))])
(.cond 27 .skip
(.exit 2)))
(.seq (.block 3 (.dreg [a 0 (m 30 0),a 1 (m 31 6),a 5 (m 35 0),a 6 (m 36 6),a 7 (bi 37 .sub 36 (k 1)),a 8 (P 38 (.ixS 35 35 37)),a 9 (ln 39 35 38),a 10 (m 40 0),a 11 (m 41 6),a 12 (P 42 (.ixS 35 40 41)),a 13 (ln 43 35 42),a 14 (P 44 (.ixS 35 30 31)),a 15 (sm 35 44 39),a 2 (m 32 0),a 3 (m 33 6),a 4 (bi 34 .sub 33 (k 1)),a 16 (P 45 (.ixS 35 32 34)),a 17 (sm 35 45 43)]))
(.reg [m 28 6,bi 29 .sub 28 (k 1),m 6 29]))))))))
(.reg [bi 46 .add 9 (k 1),m 9 46])))))))
(u [m 47 0,m 4 47]
.ret)),[.t 4]⟩
def d126 : F:=⟨2,21,u [A 3 (.box (.d 1)),P 4 (.mv (.k .sn))]
(u [m 6 0,E 7 (.call 214 [6]),m 0 7]
(.seq (u [m 8 0,fa 9 0 3,fa 10 23 9,ld 11 10,E 12 (.call 215 [8,11]),m 5 12]
(u [m 13 5,bi 14 .geq 13 (k 0)]
(.cond 14 (u [fa 15 29 3,S (.st1 15 (.k (.b true)))]
(.reg [m 16 0,m 17 5,ln 18 35 3,P 19 (.ixS 35 16 17),sm 35 19 18]))
.skip)))
(u [m 20 0,m 4 20]
.ret))),[.t 4]⟩
def d140 : F:=⟨2,21,u [A 2 (.box (.d 0)),A 3 (.box (.d 1)),A 4 (.alloc ((i 0)::(i 0)::(i 0)::(i 0)::(i 0)::(j 0)::(j 0)::(i 0)::(j 0)::(.b false)::(j 0)::(j 0)::(i 0)::(j 0)::(i 0)::(i 0)::(.b false)::(i 0)::(i 0)::(i 0)::(i 0)::(i 0)::(j 0)::(.i .u64 0)::rp 7 (i 0) ([(j 0),(j 0),(i 0),(j 0)])))]
(.seq (.dreg [a 4 (fa 9 0 2),a 5 (ln 10 22 9),a 6 (fa 11 0 3),a 7 (fa 12 14 11),a 8 (ld 13 12),a 9 (E 14 (.call 144 [10,13])),⟨0,ln 5 29 3,1,1⟩,a 1 (fa 6 0 3),a 2 (fa 7 14 6),⟨3,ld 8 7,1,1⟩,a 10 (fa 15 0 3),a 11 (fa 16 5 15),a 12 (fa 17 0 16),⟨13,ld 18 17,1,1⟩,a 14 (P 19 (.bin .add 18 (.k (j 4)))),a 15 (P 20 (.build ((i 0)::(i 0)::(i 0)::(i 0)::(i 0)::(j 0)::(j 0)::(i 0)::(j 0)::(.b false)::(j 0)::(j 0)::(i 0)::(j 0)::(i 0)::(i 0)::(.b false)::(i 0)::(i 0)::(i 0)::(i 0)::(i 0)::(j 0)::(.i .u64 0)::rp 7 (i 0) ([(j 0),(j 0),(i 0),(j 0)])) [(0,29,(.d 5)),(29,1,(.d 8)),(30,1,(.d 14)),(32,1,(.d 19))])),a 16 (sm 35 4 20)])
.ret),[.cn 4 35]⟩
def d145 : F:=⟨2,19,u [P 4 (.mv (k 0))]
(.seq (u [m 6 0,P 7 (.len 6),P 8 (.mv (k 0))]
(.block 0 (.loop (u [bi 9 .lss 8 7]
(.seq (.cond 9 .skip
(.exit 0))
(.seq (.block 1 (u [m 10 8,m 5 10]
(u [m 11 1,m 12 0,m 13 5,P 14 (.ixS 32 12 13),ln 15 32 14,E 16 (.callv 11 [15])]
(.cond 16 (u [m 17 5,m 4 17]
.ret)
.skip))))
(.reg [bi 18 .add 8 (k 1),m 8 18])))))))
(u [P 4 (.mv (.k (.i .i64 (-1))))]
.ret)),[.t 4]⟩
def d149 : F:=⟨4,21,u [A 4 (.box (.d 0)),A 5 (.box (.d 1)),A 8 (.alloc ([(i 0),(i 0),(i 0),(i 0),(i 0),(j 0),(j 0),(i 0),(j 0),(.b false),(j 0),(j 0),(i 0),(j 0),(i 0),(i 0),(.b false),(i 0),(i 0),(i 0),(i 0),(i 0),(j 0)]))]
(.seq (.dreg [a 2 (fa 11 0 5),a 3 (ld 12 11),a 4 (E 13 (.call 248 [12])),⟨7,ln 16 5 5,1,1⟩,a 8 (E 17 (.call 249 [16])),⟨9,ln 18 5 5,1,2⟩,a 10 (E 19 (.call 250 [18])),⟨0,ln 9 5 5,1,3⟩,⟨1,ln 10 9 4,1,3⟩,a 5 (m 14 2),a 6 (m 15 3),a 11 (P 20 (.build ([(i 0),(i 0),(i 0),(i 0),(i 0),(j 0),(j 0),(i 0),(j 0),(.b false),(j 0),(j 0),(i 0),(j 0),(i 0),(i 0),(.b false),(i 0),(i 0),(i 0),(i 0),(i 0),(j 0)]) [(0,5,(.d 9)),(5,9,(.d 10)),(14,1,(.d 13)),(15,1,(.d 14)),(16,1,(.d 15)),(17,3,(.d 17)),(20,1,(.d 19))])),a 12 (sm 23 8 20)])
.ret),[.cn 8 23]⟩
def d153 : F:=⟨1,11,u [A 1 (.box (.d 0)),P 2 (.mv (.k (.b false)))]
(u [fa 3 20 1,ld 4 3,bi 5 .gtr 4 (k 0),m 6 5,G 7 6 true (.P (.fa 20 1)),G 8 6 true (.L (.ld1 7)),G 9 6 true (.P (.bin .lss 8 (k 16))),P 10 (.pick 6 9 (.k (.b false))),m 2 10]
.ret),[.t 2]⟩
def d157 : F:=⟨3,10,u [P 6 (.mv (.k .sn))]
(.seq (u [m 7 2]
(.cond 7 (u [m 8 1,m 6 8]
.ret)
.skip))
(u [m 9 0,m 6 9]
.ret)),[.t 6]⟩
def d161 : F:=⟨2,21,u [A 2 (.box (.d 0)),A 4 (.alloc [.sn,.sn])]
(.seq (.dreg [a 0 (fa 6 0 2),a 1 (ld 7 6),a 2 (E 8 (.call 210 [7])),a 3 (fa 9 1 2),⟨4,ld 10 9,1,1⟩,a 5 (E 11 (.call 211 [10])),a 6 (P 12 (.build [.sn,.sn] [(0,1,(.d 8)),(1,1,(.d 11))])),a 7 (A 5 (.alloc [.sn,.sn])),z 8 (sm 2 5 12)])
(.seq (u [ln 13 2 2,m 14 1,E 15 (.call 212 [13,14])]
(.cond 15 (.reg [fa 16 1 5,ld 17 16,m 18 1,P 19 (.ixS 1 17 18),S (.st1 19 (.k (.b false)))])
.skip))
(u [ln 20 2 5,sm 2 4 20]
.ret))),[.cn 4 2]⟩
def d169 : F:=⟨1,56,u [P 2 (.mv (k 0))]
(.seq (.block 0 (u [m 4 0,bi 5 .lss 4 (k 1),m 6 5,G 7 6 false (.P (.mv 0)),G 8 6 false (.P (.bin .gtr 7 (k 63))),P 9 (.pick 6 (.k (.b true)) 8),m 3 9]
(.cond 3 (u [P 2 (.mv (k 0))]
.ret)
(u [m 11 0,bi 12 .geq 11 (k 21),m 13 12,G 14 13 true (.P (.mv 0)),G 15 13 true (.P (.bin .leq 14 (k 23))),P 16 (.pick 13 15 (.k (.b false))),m 10 16]
(.cond 10 (u [P 2 (.mv (k 11))]
.ret)
(u [m 18 0,bi 19 .leq 18 (k 24),m 17 19]
(.cond 17 (u [P 2 (.mv (k 1))]
.ret)
(u [m 21 0,bi 22 .eql 21 (k 33),m 23 22,G 24 23 false (.P (.mv 0)),G 25 23 false (.P (.bin .eql 24 (k 49))),P 26 (.pick 23 (.k (.b true)) 25),m 20 26]
(.cond 20 (u [P 2 (.mv (k 5))]
.ret)
(u [m 28 0,bi 29 .leq 28 (k 39),m 30 29,G 31 30 false (.P (.mv 0)),G 32 30 false (.P (.bin .eql 31 (k 50))),P 33 (.pick 30 (.k (.b true)) 32),m 27 33]
(.cond 27 (u [P 2 (.mv (k 2))]
.ret)
(u [m 35 0,bi 36 .leq 35 (k 42),m 34 36]
(.cond 34 (u [P 2 (.mv (k 3))]
.ret)
(u [m 38 0,bi 39 .leq 38 (k 48),m 37 39]
(.cond 37 (u [P 2 (.mv (k 4))]
.ret)
(u [m 41 0,bi 42 .leq 41 (k 53),m 40 42]
(.cond 40 (u [P 2 (.mv (k 6))]
.ret)
(u [m 44 0,bi 45 .eql 44 (k 56),m 43 45]
(.cond 43 (u [P 2 (.mv (k 7))]
.ret)
(u [m 47 0,bi 48 .eql 47 (k 57),m 46 48]
(.cond 46 (u [P 2 (.mv (k 8))]
.ret)
(u [m 50 0,bi 51 .eql 50 (k 60),m 52 51,G 53 52 false (.P (.mv 0)),G 54 52 false (.P (.bin .eql 53 (k 62))),P 55 (.pick 52 (.k (.b true)) 54),m 49 55]
(.cond 49 (u [P 2 (.mv (k 9))]
.ret)
.skip)))))))))))))))))))))))
(u [P 2 (.mv (k 10))]
.ret)),[.t 2]⟩
def d183 : F:=⟨1,8,u [A 1 (.box (.d 0)),P 2 (.mv (.k (.b false)))]
(u [fa 3 17 1,P 4 (.ixA 12 1 3 (k 0)),ld 5 4,P 6 (.bin .and 5 (.k (j 1))),P 7 (.bin .neq 6 (.k (j 0))),m 2 7]
.ret),[.t 2]⟩
def d189 : F:=⟨2,9,u [P 4 (.mv (.k (.b false)))]
(u [m 5 0,m 6 1,E 7 (.call 112 [5,6]),bi 8 .geq 7 (k 0),m 4 8]
.ret),[.t 4]⟩
def d194 : F:=⟨1,6,u [A 1 (.box (.d 0)),P 2 (.mv (.k (.b false)))]
(u [fa 3 32 1,ld 4 3,bi 5 .neq 4 (k 0),m 2 5]
.ret),[.t 2]⟩
def d202 : F:=⟨2,75,u [A 2 (.box (.d 0)),A 3 (.box (.d 1)),A 4 (.alloc (rp 21 (i 0) ((.b false)::rp 29 (j 0) ((.b false)::.sn::.sn::(j 0)::(.b false)::(j 0)::.sn::.sn::(i 0)::.sn::(i 0)::.sn::(i 0)::.sn::rp 32 (i 0) (.sn::(i 0)::(i 0)::(.i .u64 0)::rp 9 .sn ([(i 0),(i 0)])))))),P 5 (.mv (.k (.b false)))]
(u [fa 13 103 2,ld 14 13,P 15 (.slS 35 14 (some (k 1)) none),fa 16 103 2,st 16 15]
(.seq (u [fa 17 0 3,fa 18 0 17,fa 19 14 18,ld 20 19]
(.block 0 (u [bi 22 .eql 20 (k 6),m 21 22]
(.cond 21 (u [fa 24 106 2,ld 25 24,fa 26 0 3,fa 27 23 26,ld 28 27,E 29 (.call 279 [25,28]),m 23 29,ex 30 23 0,ex 31 23 1,ex 32 23 2,A 7 (.alloc [(.i .u64 0),(j 0),(j 0),(i 0),(.b false)]),m 6 30,sm 5 7 31,m 8 32]
(.seq (u [m 33 8,P 34 (.un .not 33)]
(.cond 34 (u [ln 35 112 2,sm 112 4 35,P 5 (.mv (.k (.b false)))]
.ret)
.skip))
(u [fa 37 107 2,ld 38 37,ln 39 5 7,fa 40 0 2,fa 41 9 40,ld 42 41,E 43 (.call 280 [38,39,42]),m 36 43,ex 44 36 0,ex 45 36 1,m 9 44,m 8 45]
(.seq (u [m 46 8,P 47 (.un .not 46)]
(.cond 47 (u [ln 48 112 2,sm 112 4 48,P 5 (.mv (.k (.b false)))]
.ret)
.skip))
(.reg [m 49 6,m 50 9,fa 51 106 2,st 51 49,fa 52 107 2,st 52 50])))))
(u [bi 54 .eql 20 (k 5),m 53 54]
(.cond 53 (u [fa 56 105 2,ld 57 56,fa 58 0 3,fa 59 23 58,ld 60 59,E 61 (.call 281 [57,60]),m 55 61,ex 62 55 0,ex 63 55 1,ex 64 55 2,A 11 (.alloc [(.i .u64 0),(j 0),(j 0),(i 0),(.b false),(.b false),(.i .u64 0),(.b false)]),m 10 62,sm 8 11 63,m 12 64]
(u [m 65 12]
(.cond 65 (.reg [m 66 10,fa 67 105 2,st 67 66])
.skip)))
.skip))))))
(u [fa 68 65 2,ln 69 36 68,fa 70 0 3,ln 71 29 70,E 72 (.call 282 [69,71]),fa 73 65 2,sm 36 73 72]
(u [ln 74 112 2,sm 112 4 74,P 5 (.mv (.k (.b true)))]
.ret)))),[.cn 4 112,.t 5]⟩
def d206 : F:=⟨3,20,u [P 6 (.mv (.k (j 0)))]
(u [m 10 1,m 11 2,E 12 (.call 283 [10,11]),m 9 12,ex 13 9 0,ex 14 9 1,m 7 13,m 8 14]
(u [m 15 0,m 16 7,bi 17 .and 15 16,m 18 8,bi 19 .shr 17 18,m 6 19]
.ret)),[.t 6]⟩
def d210 : F:=⟨1,8,u [P 2 (.mv (.k .sn))]
(.seq (u [m 3 0,P 4 (.eqNil false 3)]
(.cond 4 (u [P 2 (.mv (.k .sn))]
.ret)
.skip))
(u [A 5 (.buildSl 1 0 [] []),m 6 0,E 7 (.appS 1 4 5 6),m 2 7]
.ret)),[.t 2]⟩
def d214 : F:=⟨1,8,u [P 2 (.mv (.k .sn))]
(.seq (u [m 3 0,P 4 (.eqNil false 3)]
(.cond 4 (u [P 2 (.mv (.k .sn))]
.ret)
.skip))
(u [A 5 (.buildSl 35 0 [] []),m 6 0,E 7 (.appS 35 248 5 6),m 2 7]
.ret)),[.t 2]⟩
def d224 : F:=⟨3,63,u [P 6 (.mv (k 20))]
(u [m 10 6,P 7 (.mv (k 0)),m 8 10]
(.seq (.block 0 (.loop (.seq (u [m 11 8,m 12 1,bi 13 .leq 11 12]
(.cond 13 .skip
(.exit 0)))
(.block 1 (u [m 14 0,m 15 7,m 16 8,m 17 2,E 18 (.call 303 [14,15,16,17])]
(u [m 19 8,m 7 19]
(.reg [m 20 8,m 21 6,bi 22 .add 20 21,m 8 22])))))))
(u [m 23 0,m 24 7,m 25 1,m 26 2,E 27 (.call 303 [23,24,25,26])]
(.block 2 (.loop (.seq (u [m 28 6,m 29 1,bi 30 .lss 28 29]
(.cond 30 .skip
(.exit 2)))
(.block 3 (u [m 31 6,bi 32 .mul (k 2) 31,P 7 (.mv (k 0)),m 8 32]
(.seq (.block 4 (.loop (.seq (u [m 33 8,m 34 1,bi 35 .leq 33 34]
(.cond 35 .skip
(.exit 4)))
(.block 5 (u [m 36 0,m 37 7,m 38 7,m 39 6,bi 40 .add 38 39,m 41 8,m 42 2,E 43 (.call 304 [36,37,40,41,42])]
(u [m 44 8,m 7 44]
(.reg [m 45 8,m 46 6,bi 47 .mul (k 2) 46,bi 48 .add 45 47,m 8 48])))))))
(.seq (u [m 49 7,m 50 6,bi 51 .add 49 50,m 9 51]
(u [m 52 9,m 53 1,bi 54 .lss 52 53]
(.cond 54 (.reg [m 55 0,m 56 7,m 57 9,m 58 1,m 59 2,E 60 (.call 304 [55,56,57,58,59])])
.skip)))
(.reg [m 61 6,bi 62 .mul 61 (k 2),m 6 62]))))))))))),[]⟩
def d246 : F:=⟨2,27,u [P 4 (.mv (.k .sn))]
(.seq (u [m 5 1,bi 6 .lss 5 (k 0)]
(.cond 6 (.bad)
.skip))
(.seq (u [m 8 1,m 9 0,P 10 (.cap 9),m 11 0,P 12 (.len 11),bi 13 .sub 10 12,bi 14 .sub 8 13,m 1 14]
(u [m 15 1,bi 16 .gtr 15 (k 0)]
(.cond 16 (.reg [m 17 0,m 18 0,P 19 (.cap 18),P 20 (.slS 32 17 none (some 19)),m 21 1,E 22 (.appZ 32 224 [(i 0),(i 0),(i 0),(i 0),(i 0),(j 0),(j 0),(i 0),(j 0),(.b false),(j 0),(j 0),(i 0),(j 0),(i 0),(i 0),(.b false),(i 0),(i 0),(i 0),(i 0),(i 0),(j 0),(.i .u64 0),(i 0),(i 0),(i 0),(i 0),(i 0),(.b false),(.b false),(.b false)] 20 21),m 23 0,P 24 (.len 23),P 25 (.slS 32 22 none (some 24)),m 0 25])
.skip)))
(u [m 26 0,m 4 26]
.ret))),[.t 4]⟩
def d250 : F:=⟨1,16,u [A 1 (.box (.d 0)),P 2 (.mv (k 0))]
(.seq (u [fa 3 0 1,ld 4 3,E 5 (.call 169 [4])]
(.block 0 (.seq (u [bi 7 .eql 5 (k 1),m 6 7]
(.cond 6 .skip
(u [bi 8 .eql 5 (k 2),m 6 8]
(.cond 6 .skip
(u [bi 9 .eql 5 (k 5),m 6 9]
(.cond 6 .skip
(u [bi 10 .eql 5 (k 6),m 6 10]
(.cond 6 .skip
(u [bi 11 .eql 5 (k 7),m 6 11]
(.cond 6 .skip
(.reg [bi 12 .eql 5 (k 11),m 6 12])))))))))))
(.cond 6 (u [fa 13 1 1,ld 14 13,E 15 (.call 323 [14]),m 2 15]
.ret)
.skip))))
(u [P 2 (.mv (.k (.i .i64 (-1))))]
.ret)),[.t 2]⟩
def d254 : F:=⟨2,11,u [A 2 (.box (.d 0)),P 4 (.mv (k 0))]
(.seq (u [m 5 1,E 6 (.call 324 [5]),P 7 (.un .not 6)]
(.cond 7 (u [P 4 (.mv (.k (.i .i64 (-1))))]
.ret)
.skip))
(u [m 8 1,P 9 (.ixA 16 1 2 8),ld 10 9,m 4 10]
.ret)),[.t 4]⟩
def d258 : F:=⟨1,8,u [P 2 (.mv (.k .sn))]
(.seq (u [m 3 0,P 4 (.eqNil false 3)]
(.cond 4 (u [P 2 (.mv (.k .sn))]
.ret)
.skip))
(u [A 5 (.buildSl 8 0 [] []),m 6 0,E 7 (.appS 8 48 5 6),m 2 7]
.ret)),[.t 2]⟩
def d269 : F:=⟨1,6,u [P 2 (.mv (k 0))]
(u [m 3 0,P 4 (.mx [3,(k 0)]),P 5 (.mn [4,(k 8)]),m 2 5]
.ret),[.t 2]⟩
def d273 : F:=⟨3,21,u [P 6 (.mv (.k .sn)),P 7 (.mv (k 0))]
(.seq (u [m 9 0,P 10 (.len 9),bi 11 .eql 10 (k 0)]
(.cond 11 (u [m 12 0,m 6 12,P 7 (.mv (k 0))]
.ret)
.skip))
(u [m 13 0,m 14 1,E 15 (.call 342 [13,14]),m 8 15]
(u [m 16 0,m 17 8,m 18 2,E 19 (.call 343 [16,17,18]),m 20 8,m 6 19,m 7 20]
.ret))),[.t 6,.t 7]⟩
def d284 : F:=⟨2,16,u [P 4 (.mv (.k (j 0)))]
(u [m 6 1,E 7 (.call 345 [6,(k 0),(k 32)]),bi 8 .sub (k 32) 7,m 5 8]
(u [m 9 0,m 10 5,bi 11 .shl 9 10,P 12 (.cvt .i32 11),m 13 5,bi 14 .shr 12 13,P 15 (.cvt .u32 14),m 4 15]
.ret)),[.t 4]⟩
def d288 : F:=⟨2,9,u [A 2 (.box (.d 0)),P 3 (.mv (.k (.b false)))]
(u [fa 4 0 2,fa 5 23 4,ld 6 5,ld 7 1,bi 8 .eql 6 7,m 3 8]
.ret),[.t 3]⟩
def d295 : F:=⟨2,9,u [A 3 (.box (.d 1)),P 4 (.mv (.k .sn))]
(u [m 5 0,E 6 (.call 258 [5]),P 7 (.mkf 363 [] [3]),E 8 (.call 362 [6,7]),m 4 8]
.ret),[.t 4]⟩
def d303 : F:=⟨4,53,u [m 10 1,bi 11 .add 10 (k 1),m 8 11]
(.block 0 (.loop (.seq (u [m 12 8,m 13 2,bi 14 .lss 12 13]
(.cond 14 .skip
(.exit 0)))
(.seq (.block 1 (u [m 17 8,m 9 17]
(.block 2 (.loop (.seq (.seq (.dreg [a 0 (m 18 9),a 1 (m 19 1),a 2 (bi 20 .gtr 18 19),a 3 (m 21 20),⟨4,G 22 21 true (.P (.mv 3)),1,0⟩,⟨5,G 23 21 true (.P (.mv 0)),1,0⟩,⟨6,G 24 21 true (.P (.mv 9)),1,0⟩,⟨7,G 25 21 true (.P (.ixS 1 23 24)),1,0⟩,⟨8,G 26 21 true (.L (.ld1 25)),1,0⟩,⟨9,G 27 21 true (.P (.mv 0)),1,0⟩,⟨10,G 28 21 true (.P (.mv 9)),1,0⟩,⟨11,G 29 21 true (.P (.bin .sub 28 (k 1))),1,0⟩,⟨12,G 30 21 true (.P (.ixS 1 27 29)),1,0⟩,⟨13,G 31 21 true (.L (.ld1 30)),1,0⟩,⟨14,G 32 21 true (.E (.callv 22 [26,31])),1,0⟩,⟨15,G 33 21 true (.P (.bin .lss 32 (k 0))),1,0⟩,a 16 (P 34 (.pick 21 33 (.k (.b false))))])
(.cond 34 .skip
(.exit 2)))
(.seq (.block 3 (.dreg [a 0 (m 37 0),a 1 (m 38 9),a 5 (m 42 0),a 6 (m 43 9),a 7 (bi 44 .sub 43 (k 1)),a 8 (P 45 (.ixS 1 42 44)),a 9 (ld 46 45),a 10 (m 47 0),a 11 (m 48 9),a 12 (P 49 (.ixS 1 47 48)),a 13 (ld 50 49),a 14 (P 51 (.ixS 1 37 38)),a 15 (st 51 46),a 2 (m 39 0),a 3 (m 40 9),a 4 (bi 41 .sub 40 (k 1)),a 16 (P 52 (.ixS 1 39 41)),a 17 (st 52 50)]))
(.reg [m 35 9,bi 36 .sub 35 (k 1),m 9 36])))))))
(.reg [m 15 8,bi 16 .add 15 (k 1),m 8 16]))))),[]⟩
def d320 : F:=⟨3,35,u [P 6 (.mv (.k (j 0))),P 7 (.mv (.k (.b false)))]
(u [m 11 1,m 12 2,E 13 (.call 379 [11,12]),E 14 (.call 378 [13]),m 10 14,ex 15 10 0,ex 16 10 1,m 8 15,m 9 16]
(.seq (u [m 17 0]
(.block 0 (u [bi 19 .eql 17 (k 11),m 18 19]
(.cond 18 (u [m 20 9,m 6 20,P 7 (.mv (.k (.b true)))]
.ret)
(u [bi 22 .eql 17 (k 13),m 21 22]
(.cond 21 (u [m 23 8,m 6 23,P 7 (.mv (.k (.b true)))]
.ret)
(u [bi 25 .eql 17 (k 12),m 24 25]
(.cond 24 (u [m 26 8,m 27 1,m 28 2,E 29 (.call 380 [27,28]),bi 30 .sub 26 29,m 31 2,m 32 1,E 33 (.call 380 [31,32]),bi 34 .sub 30 33,m 6 34,P 7 (.mv (.k (.b true)))]
.ret)
.skip))))))))
(u [P 6 (.mv (.k (j 0))),P 7 (.mv (.k (.b false)))]
.ret))),[.t 6,.t 7]⟩
def d324 : F:=⟨1,9,u [P 2 (.mv (.k (.b false)))]
(u [m 3 0,bi 4 .gtr 3 (k 0),m 5 4,G 6 5 true (.P (.mv 0)),G 7 5 true (.P (.bin .lss 6 (k 16))),P 8 (.pick 5 7 (.k (.b false))),m 2 8]
.ret),[.t 2]⟩
def d342 : F:=⟨2,15,u [P 4 (.mv (k 0))]
(u [m 6 0,P 7 (.len 6),m 5 7]
(u [m 8 1,m 9 5,bi 10 .rem 8 9,m 11 5,bi 12 .add 10 11,m 13 5,bi 14 .rem 12 13,m 4 14]
.ret)),[.t 4]⟩
def d355 : F:=⟨2,27,u [A 2 (.box (.d 0)),A 4 (.alloc [.sn,(i 0),(i 0)])]
(.seq (u [ln 6 3 2,E 7 (.call 252 [6]),P 8 (.un .not 7),m 9 8,G 10 9 false (.P (.fa 2 2)),G 11 9 false (.L (.ld1 10)),G 12 9 false (.P (.fa 0 2)),G 13 9 false (.L (.ld1 12)),G 14 9 false (.P (.len 13)),G 15 9 false (.P (.bin .eql 11 14)),P 16 (.pick 9 (.k (.b true)) 15)]
(.cond 16 (u [ln 17 3 2,sm 3 4 17]
.ret)
.skip))
(u [ln 18 3 2,P 19 (.mkf 253 [18] []),m 5 19]
(.seq (.dreg [a 1 (m 21 5),a 2 (fa 22 2 2),a 3 (ld 23 22),a 4 (E 24 (.callv 21 [23])),⟨0,ln 20 3 2,1,1⟩,a 5 (m 25 1),a 6 (E 26 (.call 409 [20,24,25])),a 7 (sm 3 4 26)])
.ret))),[.cn 4 3]⟩
def d362 : F:=⟨2,42,u [P 4 (.mv (.k .sn))]
(u [m 8 0,m 9 1,E 10 (.call 191 [8,9]),m 5 10]
(.seq (u [m 11 5,P 12 (.bin .eql 11 (.k (.i .i64 (-1))))]
(.cond 12 (u [m 13 0,m 4 13]
.ret)
.skip))
(.seq (u [m 14 5,bi 15 .add 14 (k 1),m 6 15]
(.block 0 (.loop (.seq (u [m 16 6,m 17 0,P 18 (.len 17),bi 19 .lss 16 18]
(.cond 19 .skip
(.exit 0)))
(.seq (.block 1 (u [m 22 0,m 23 6,P 24 (.ixS 8 22 23),ln 25 8 24,A 7 (.alloc [(.i .u64 0),(j 0),(j 0),(i 0),(.b false),(.b false),(.i .u64 0),(.b false)]),sm 8 7 25]
(u [m 26 1,ln 27 8 7,E 28 (.callv 26 [27]),P 29 (.un .not 28)]
(.cond 29 (u [m 30 0,m 31 5,ln 32 8 7,P 33 (.ixS 8 30 31),sm 8 33 32]
(.reg [m 34 5,bi 35 .add 34 (k 1),m 5 35]))
.skip))))
(.reg [m 20 6,bi 21 .add 20 (k 1),m 6 21]))))))
(u [m 36 0,m 37 5,P 38 (.slS 8 36 (some 37) none),S (.clr 8 [(.i .u64 0),(j 0),(j 0),(i 0),(.b false),(.b false),(.i .u64 0),(.b false)] 38)]
(u [m 39 0,m 40 5,P 41 (.slS 8 39 none (some 40)),m 4 41]
.ret))))),[.t 4]⟩
def d378 : F:=⟨1,20,u [A 1 (.box (.d 0)),P 2 (.mv (.k (j 0))),P 3 (.mv (.k (j 0)))]
(u [fa 4 4 1,ld 5 4,P 6 (.mx [5,(k 0)]),P 7 (.mn [6,(k 32)]),fa 8 4 1,st 8 7]
(.seq (u [fa 9 4 1,ld 10 9,P 11 (.mv (k 0))]
(.block 0 (.loop (u [bi 12 .lss 11 10]
(.seq (.cond 12 .skip
(.exit 0))
(.seq (.block 1 (.reg [ln 13 5 1,E 14 (.call 415 [13]),sm 5 1 14]))
(.reg [bi 15 .add 11 (k 1),m 11 15])))))))
(.seq (.dreg [a 0 (fa 16 2 1),a 1 (ld 17 16),a 2 (fa 18 3 1),a 3 (ld 19 18),a 4 (m 2 17),a 5 (m 3 19)])
.ret))),[.t 2,.t 3]⟩
end
end Go.Proofs.YtoppeebbioalcaaGreatDoor.Run
