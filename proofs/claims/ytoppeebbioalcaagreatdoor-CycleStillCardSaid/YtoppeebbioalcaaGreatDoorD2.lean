/- The functions that a closed call comes to, compiled: part 2 (printed by a program). -/
import Derived.Test.YtoppeebbioalcaaGreatDoorEvE
set_option maxRecDepth 100000
namespace Go.Proofs.YtoppeebbioalcaaGreatDoor.Run
open Go.Ev Go.Ev.S1 Go.Ev.S2
noncomputable section
def n2_0:=rp 21 (i 0) ((.b false)::rp 29 (j 0) ((.b false)::.sn::.sn::(j 0)::(.b false)::(j 0)::.sn::.sn::(i 0)::.sn::(i 0)::.sn::(i 0)::.sn::rp 32 (i 0) (.sn::(i 0)::(i 0)::(.i .u64 0)::rp 9 .sn ([(i 0),(i 0)]))))
def d12 : F:=⟨2,61,u [A 2 (.box (.d 0)),A 3 (.box (.d 1)),A 4 (.alloc n2_0),P 5 (.mv (k 0))]
(.seq (u [ln 8 22 2,E 9 (.call 52 [8]),bi 10 .neq 9 (k 0)]
(.cond 10 (u [P 11 (.build n2_0 []),sm 112 4 11,P 5 (.mv (k 3))]
.ret)
.skip))
(.seq (u [ln 12 33 3,E 13 (.call 53 [12]),P 14 (.un .not 13)]
(.cond 14 (u [P 15 (.build n2_0 []),sm 112 4 15,P 5 (.mv (k 1))]
.ret)
.skip))
(u [ln 16 22 2,fa 17 0 3,ln 18 30 17,fa 19 31 3,ld 20 19,fa 21 32 3,ld 22 21,fa 23 0 3,fa 24 0 23,ld 25 24,P 26 (.build n2_0 [(0,22,(.d 16)),(22,30,(.d 18)),(52,1,(.d 20)),(53,1,(.d 22)),(54,1,(.d 25))]),A 6 (.alloc n2_0),sm 112 6 26]
(u [ln 27 22 2,E 28 (.call 54 [27]),fa 29 56 6,sm 6 29 28]
(u [fa 30 15 2,ld 31 30,E 32 (.call 55 [31]),fa 33 62 6,st 33 32]
(u [fa 34 14 2,ld 35 34,E 36 (.call 56 [35]),fa 37 109 6,st 37 36]
(u [fa 38 10 2,ld 39 38,E 40 (.call 57 [39]),fa 41 65 6,sm 36 41 40]
(u [fa 42 10 2,ld 43 42,E 44 (.call 58 [43]),fa 45 101 6,sm 2 45 44]
(.seq (u [P 7 (.mv (k 1))]
(.block 0 (.loop (.seq (u [m 46 7,bi 47 .lss 46 (k 16)]
(.cond 47 .skip
(.exit 0)))
(.seq (.block 1 (.dreg [a 0 (fa 50 101 6),a 1 (ln 51 2 50),a 2 (m 52 7),a 3 (m 53 7),a 4 (fa 54 0 3),a 5 (fa 55 1 54),a 6 (P 56 (.ixA 16 1 55 53)),a 7 (ld 57 56),a 8 (E 58 (.call 59 [51,52,57])),a 9 (fa 59 101 6),a 10 (sm 2 59 58)]))
(.reg [m 48 7,bi 49 .add 48 (k 1),m 7 49]))))))
(u [ln 60 112 6,sm 112 4 60,P 5 (.mv (k 0))]
.ret)))))))))),[.cn 4 112,.t 5]⟩
def d16 : F:=⟨0,2,u [A 0 (.alloc [(j 0),(j 0),(i 0),(.b false),(i 0)])]
(u [P 1 (.build [(j 0),(j 0),(i 0),(.b false),(i 0)] [(3,1,(.k (.b true)))]),sm 5 0 1]
.ret),[.cn 0 5]⟩
def d20 : F:=⟨4,109,u [A 4 (.box (.d 0)),A 5 (.box (.d 1)),A 7 (.box (.d 3)),A 8 (.alloc n2_0),A 9 (.alloc [.sn,.sn]),P 10 (.mv (.k .sn))]
(.seq (u [fa 24 1 7,ld 25 24,P 26 (.bin .and 25 (.k (j 4))),P 27 (.bin .neq 26 (.k (j 0)))]
(.cond 27 (.seq (.dreg [a 0 (ln 28 112 4),a 2 (sm 112 8 28),⟨1,ln 29 2 5,1,1⟩,a 3 (sm 2 9 29),a 4 (P 10 (.mv (.k .sn)))])
.ret)
.skip))
(u [P 11 (.mv (.k .sn))]
(u [fa 30 104 4,ld 31 30,m 12 31]
(.seq (.seq (.dreg [a 0 (m 32 12),a 1 (E 33 (.call 67 [32])),a 2 (fa 34 2 7),⟨3,ld 35 34,1,1⟩,a 4 (E 36 (.call 66 [33,35])),a 5 (P 37 (.len 36)),a 6 (P 38 (.mv (k 0)))])
(.block 0 (.loop (u [bi 39 .lss 38 37]
(.seq (.cond 39 .skip
(.exit 0))
(.seq (.block 1 (u [P 40 (.ixS 1 36 38),ld 41 40,m 14 41]
(.seq (u [m 42 11,P 43 (.len 42),fa 44 0 4,fa 45 2 44,ld 46 45,bi 47 .geq 43 46]
(.cond 47 (.exit 0)
.skip))
(u [m 48 12,m 49 14,P 50 (.ixS 32 48 49),fa 51 0 50,ln 52 29 51,A 15 (.alloc ([(i 0),(i 0),(i 0),(i 0),(i 0),(j 0),(j 0),(i 0),(j 0),(.b false),(j 0),(j 0),(i 0),(j 0),(i 0),(i 0),(.b false),(i 0),(i 0),(i 0),(i 0),(i 0),(j 0),(.i .u64 0),(i 0),(i 0),(i 0),(i 0),(i 0)])),sm 29 15 52]
(.seq (u [ln 53 112 4,ln 54 29 15,E 55 (.call 68 [53,54]),P 56 (.un .not 55)]
(.cond 56 (.exit 1)
.skip))
(u [ln 58 112 4,ln 59 2 5,m 60 2,ln 61 29 15,E 62 (.call 69 [58,59,60,61]),m 57 62,ex 63 57 0,ex 64 57 1,ex 65 57 2,A 16 (.alloc ((i 0)::(i 0)::(i 0)::(i 0)::(i 0)::(j 0)::(j 0)::(i 0)::(j 0)::(.b false)::(j 0)::(j 0)::(i 0)::(j 0)::(i 0)::(i 0)::(.b false)::(i 0)::(i 0)::(i 0)::(i 0)::(i 0)::(j 0)::(.i .u64 0)::rp 7 (i 0) ([(j 0),(j 0),(i 0),(j 0)]))),A 17 (.alloc n2_0),A 18 (.alloc [.sn,.sn]),sm 35 16 63,sm 112 17 64,sm 2 18 65]
(u [fa 67 0 17,ln 68 22 67,fa 69 108 17,ld 70 69,ln 71 35 16,E 72 (.call 70 [68,70,71]),m 66 72,ex 73 66 0,ex 74 66 1,m 19 73,m 20 74]
(.seq (u [m 75 20,P 76 (.un .not 75)]
(.cond 76 (.exit 1)
.skip))
(.seq (.dreg [a 0 (ln 77 112 17),a 2 (sm 112 4 77),⟨1,ln 78 2 18,1,1⟩,a 3 (sm 2 5 78)])
(u [m 79 19,fa 80 108 4,st 80 79]
(.seq (u [fa 82 104 4,ld 83 82,fa 84 23 15,ld 85 84,E 86 (.call 71 [83,85]),m 81 86,ex 87 81 0,ex 88 81 1,ex 89 81 2,A 22 (.alloc ([(i 0),(i 0),(i 0),(i 0),(i 0),(j 0),(j 0),(i 0),(j 0),(.b false),(j 0),(j 0),(i 0),(j 0),(i 0),(i 0),(.b false),(i 0),(i 0),(i 0),(i 0),(i 0),(j 0),(.i .u64 0),(i 0),(i 0),(i 0),(i 0),(i 0)])),m 21 87,sm 29 22 88,m 23 89]
(u [m 90 23]
(.cond 90 (.reg [m 91 21,fa 92 104 4,st 92 91])
.skip)))
(.reg [m 93 11,fa 94 111 4,ld 95 94,fa 96 23 15,ld 97 96,fa 98 0 15,fa 99 5 98,fa 100 0 99,ld 101 100,P 102 (.build [(i 0),(i 0),(.i .u64 0),(j 0)] [(0,1,(.d 95)),(1,1,(k 3)),(2,1,(.d 97)),(3,1,(.d 101))]),A 103 (.buildSl 4 1 [(i 0),(i 0),(.i .u64 0),(j 0)] [(0,4,(.d 102))]),E 104 (.appS 4 32 93 103),m 11 104]))))))))))))
(.reg [bi 105 .add 38 (k 1),m 38 105])))))))
(.seq (.dreg [a 0 (ln 106 112 4),a 3 (sm 112 8 106),⟨1,ln 107 2 5,1,1⟩,a 4 (sm 2 9 107),a 2 (m 108 11),a 5 (m 10 108)])
.ret))))),[.cn 8 112,.cn 9 2,.t 10]⟩
def d24 : F:=⟨4,54,u [A 4 (.box (.d 0)),A 5 (.box (.d 1)),A 7 (.box (.d 3)),A 8 (.alloc n2_0),A 9 (.alloc [.sn,.sn]),P 10 (.mv (.k (j 0))),P 11 (.mv (.k (.b false)))]
(.seq (.block 0 (u [fa 15 110 4,ld 16 15,bi 17 .gtr 16 (k 0),m 14 17]
(.cond 14 (u [fa 18 110 4,ld 19 18,bi 20 .sub 19 (k 1),fa 21 110 4,st 21 20]
(.seq (.dreg [a 0 (ln 22 112 4),a 2 (sm 112 8 22),⟨1,ln 23 2 5,1,1⟩,a 3 (sm 2 9 23),a 4 (P 10 (.mv (.k (j 0)))),a 5 (P 11 (.mv (.k (.b false))))])
.ret))
(u [fa 25 3 7,ld 26 25,P 27 (.un .not 26),m 28 27,G 29 28 false (.P (.fa 107 4)),G 30 28 false (.L (.ld1 29)),G 31 28 false (.P (.len 30)),G 32 28 false (.P (.bin .eql 31 (k 0))),P 33 (.pick 28 (.k (.b true)) 32),m 24 33]
(.cond 24 (.seq (.dreg [a 0 (ln 34 112 4),a 2 (sm 112 8 34),⟨1,ln 35 2 5,1,1⟩,a 3 (sm 2 9 35),a 4 (P 10 (.mv (.k (j 0)))),a 5 (P 11 (.mv (.k (.b false))))])
.ret)
.skip)))))
(u [ln 37 112 4,ln 38 2 5,m 39 2,E 40 (.call 79 [37,38,39]),m 36 40,ex 41 36 0,ex 42 36 1,ex 43 36 2,ex 44 36 3,sm 112 4 41,sm 2 5 42,m 12 43,m 13 44]
(.seq (u [m 45 13,P 46 (.un .not 45)]
(.cond 46 (.reg [fa 47 0 4,fa 48 18 47,ld 49 48,fa 50 110 4,st 50 49])
.skip))
(.seq (.dreg [a 0 (ln 51 112 4),a 3 (sm 112 8 51),⟨1,ln 52 2 5,1,1⟩,a 4 (sm 2 9 52),a 2 (m 53 12),a 5 (m 10 53),a 6 (P 11 (.mv (.k (.b true))))])
.ret)))),[.cn 8 112,.cn 9 2,.t 10,.t 11]⟩
def d52 : F:=⟨1,114,u [A 1 (.box (.d 0)),P 2 (.mv (k 0))]
(u [fa 7 0 1,ld 8 7,E 9 (.call 97 [8,(k 1),(k 4)]),m 10 9,G 11 10 true (.P (.fa 1 1)),G 12 10 true (.L (.ld1 11)),G 13 10 true (.E (.call 97 [12,(k 1),(k 4)])),P 14 (.pick 10 13 (.k (.b false))),m 15 14,G 16 15 true (.P (.fa 2 1)),G 17 15 true (.L (.ld1 16)),G 18 15 true (.E (.call 97 [17,(k 1),(k 4)])),P 19 (.pick 15 18 (.k (.b false))),m 20 19,G 21 20 true (.P (.fa 3 1)),G 22 20 true (.L (.ld1 21)),G 23 20 true (.E (.call 97 [22,(k 1),(k 4)])),P 24 (.pick 20 23 (.k (.b false))),m 3 24]
(u [fa 25 4 1,ld 26 25,E 27 (.call 97 [26,(k 1),(k 16)]),m 28 27,G 29 28 true (.P (.fa 5 1)),G 30 28 true (.L (.ld1 29)),G 31 28 true (.E (.call 97 [30,(k 2),(k 64)])),P 32 (.pick 28 31 (.k (.b false))),m 33 32,G 34 33 true (.P (.fa 6 1)),G 35 33 true (.L (.ld1 34)),G 36 33 true (.E (.call 97 [35,(k 2),(k 32)])),P 37 (.pick 33 36 (.k (.b false))),m 38 37,G 39 38 true (.P (.fa 7 1)),G 40 38 true (.L (.ld1 39)),G 41 38 true (.E (.call 97 [40,(k 1),(k 16)])),P 42 (.pick 38 41 (.k (.b false))),m 43 42,G 44 43 true (.P (.fa 8 1)),G 45 43 true (.L (.ld1 44)),G 46 43 true (.E (.call 97 [45,(k 1),(k 16)])),P 47 (.pick 43 46 (.k (.b false))),m 48 47,G 49 48 true (.P (.fa 9 1)),G 50 48 true (.L (.ld1 49)),G 51 48 true (.E (.call 97 [50,(k 1),(k 8)])),P 52 (.pick 48 51 (.k (.b false))),m 53 52,G 54 53 true (.P (.fa 10 1)),G 55 53 true (.L (.ld1 54)),G 56 53 true (.E (.call 97 [55,(k 18),(k 96)])),P 57 (.pick 53 56 (.k (.b false))),m 4 57]
(u [fa 58 11 1,ld 59 58,E 60 (.call 97 [59,(k 0),(k 8)]),m 61 60,G 62 61 true (.P (.fa 12 1)),G 63 61 true (.L (.ld1 62)),G 64 61 true (.E (.call 97 [63,(k 0),(k 16)])),P 65 (.pick 61 64 (.k (.b false))),m 66 65,G 67 66 true (.P (.fa 13 1)),G 68 66 true (.L (.ld1 67)),G 69 66 true (.E (.call 97 [68,(k 0),(k 16)])),P 70 (.pick 66 69 (.k (.b false))),m 71 70,G 72 71 true (.P (.fa 14 1)),G 73 71 true (.L (.ld1 72)),G 74 71 true (.E (.call 97 [73,(k 0),(k 16)])),P 75 (.pick 71 74 (.k (.b false))),m 76 75,G 77 76 true (.P (.fa 15 1)),G 78 76 true (.L (.ld1 77)),G 79 76 true (.E (.call 97 [78,(k 0),(k 8)])),P 80 (.pick 76 79 (.k (.b false))),m 5 80]
(u [fa 81 16 1,ld 82 81,E 83 (.call 97 [82,(k 1),(k 32)]),m 84 83,G 85 84 true (.P (.fa 17 1)),G 86 84 true (.L (.ld1 85)),G 87 84 true (.E (.call 97 [86,(k 1),(k 32)])),P 88 (.pick 84 87 (.k (.b false))),m 89 88,G 90 89 true (.P (.fa 18 1)),G 91 89 true (.L (.ld1 90)),G 92 89 true (.E (.call 97 [91,(k 1),(k 32)])),P 93 (.pick 89 92 (.k (.b false))),m 94 93,G 95 94 true (.P (.fa 19 1)),G 96 94 true (.L (.ld1 95)),G 97 94 true (.E (.call 97 [96,(k 1),(k 8)])),P 98 (.pick 94 97 (.k (.b false))),m 99 98,G 100 99 true (.P (.fa 20 1)),G 101 99 true (.L (.ld1 100)),G 102 99 true (.E (.call 97 [101,(k 1),(k 4)])),P 103 (.pick 99 102 (.k (.b false))),m 6 103]
(.seq (u [m 104 3,m 105 104,G 106 105 true (.P (.mv 4)),P 107 (.pick 105 106 (.k (.b false))),m 108 107,G 109 108 true (.P (.mv 5)),P 110 (.pick 108 109 (.k (.b false))),m 111 110,G 112 111 true (.P (.mv 6)),P 113 (.pick 111 112 (.k (.b false)))]
(.cond 113 (u [P 2 (.mv (k 0))]
.ret)
.skip))
(u [P 2 (.mv (k 3))]
.ret)))))),[.t 2]⟩
def d56 : F:=⟨1,18,u [P 2 (.mv (.k .sn))]
(u [P 3 (.mv (.k .sn))]
(.seq (u [P 4 (.mv (k 0))]
(.block 0 (.loop (.seq (u [m 5 4,m 6 0,bi 7 .lss 5 6,m 8 7,G 9 8 true (.P (.mv 4)),G 10 8 true (.P (.bin .lss 9 (k 16))),P 11 (.pick 8 10 (.k (.b false)))]
(.cond 11 .skip
(.exit 0)))
(.seq (.block 1 (.reg [m 14 3,A 15 (.buildSl 1 1 [(.i .u8 0)] [(0,1,(.k (.i .u8 0)))]),E 16 (.appS 1 1 14 15),m 3 16]))
(.reg [m 12 4,bi 13 .add 12 (k 1),m 4 13]))))))
(u [m 17 3,m 2 17]
.ret))),[.t 2]⟩
def d60 : F:=⟨2,35,u [A 4 (.alloc [.sn])]
(u [A 5 (.alloc [.sn])]
(.seq (u [P 6 (.mv (k 0))]
(.block 0 (.loop (.seq (u [m 9 6,m 10 0,P 11 (.mx [10,(k 1)]),P 12 (.mn [11,(k 8)]),bi 13 .lss 9 12]
(.cond 13 .skip
(.exit 0)))
(.seq (.block 1 (u [P 7 (.mv (.k .sn))]
(.seq (u [P 8 (.mv (k 0))]
(.block 2 (.loop (.seq (u [m 16 8,m 17 1,P 18 (.mx [17,(k 1)]),P 19 (.mn [18,(k 4)]),bi 20 .lss 16 19]
(.cond 20 .skip
(.exit 2)))
(.seq (.block 3 (.reg [m 23 7,m 24 8,P 25 (.build ((i 0)::(j 0)::rp 16 (.i .u8 0) ([(i 0)])) [(18,1,(.d 24))]),A 26 (.buildSl 19 1 ((i 0)::(j 0)::rp 16 (.i .u8 0) ([(i 0)])) [(0,19,(.d 25))]),E 27 (.appS 19 40 23 26),m 7 27]))
(.reg [m 21 8,bi 22 .add 21 (k 1),m 8 22]))))))
(.reg [fa 28 0 5,ld 29 28,m 30 7,A 31 (.buildSl 1 1 [.sn] [(0,1,(.d 30))]),E 32 (.appS 1 24 29 31),fa 33 0 5,st 33 32]))))
(.reg [m 14 6,bi 15 .add 14 (k 1),m 6 15]))))))
(u [ln 34 1 5,sm 1 4 34]
.ret))),[.cn 4 1]⟩
def d64 : F:=⟨2,19,u [P 4 (.mv (.k (.b false)))]
(.seq (u [m 7 0,P 8 (.len 7),P 9 (.mv (k 0))]
(.block 0 (.loop (u [bi 10 .lss 9 8]
(.seq (.cond 10 .skip
(.exit 0))
(.seq (.block 1 (u [P 11 (.ixS 35 7 9),ln 12 35 11,A 6 (.alloc ((i 0)::(i 0)::(i 0)::(i 0)::(i 0)::(j 0)::(j 0)::(i 0)::(j 0)::(.b false)::(j 0)::(j 0)::(i 0)::(j 0)::(i 0)::(i 0)::(.b false)::(i 0)::(i 0)::(i 0)::(i 0)::(i 0)::(j 0)::(.i .u64 0)::rp 7 (i 0) ([(j 0),(j 0),(i 0),(j 0)]))),sm 35 6 12]
(u [fa 13 0 6,fa 14 23 13,ld 15 14,m 16 1,bi 17 .eql 15 16]
(.cond 17 (u [P 4 (.mv (.k (.b true)))]
.ret)
.skip))))
(.reg [bi 18 .add 9 (k 1),m 9 18])))))))
(u [P 4 (.mv (.k (.b false)))]
.ret)),[.t 4]⟩
def d68 : F:=⟨2,69,u [A 2 (.box (.d 0)),A 3 (.box (.d 1)),P 4 (.mv (.k (.b false)))]
(.seq (u [fa 10 0 2,ln 11 22 10,fa 12 108 2,ld 13 12,fa 14 0 3,fa 15 14 14,ld 16 15,E 17 (.call 133 [11,13,16]),P 18 (.un .not 17)]
(.cond 18 (u [P 4 (.mv (.k (.b false)))]
.ret)
.skip))
(.seq (u [fa 19 0 3,fa 20 14 19,ld 21 20,bi 22 .neq 21 (k 5)]
(.cond 22 (u [P 4 (.mv (.k (.b true)))]
.ret)
.skip))
(.seq (u [fa 23 106 2,ld 24 23,fa 25 23 3,ld 26 25,E 27 (.call 134 [24,26]),m 28 27,G 29 28 true (.P (.fa 0 2)),G 30 28 true (.P (.fa 21 29)),G 31 28 true (.L (.ld1 30)),G 32 28 true (.P (.un .not 31)),G 33 28 true (.P (.mv 32)),G 34 33 false (.P (.fa 109 2)),G 35 33 false (.L (.ld1 34)),G 36 33 false (.P (.fa 0 3)),G 37 33 false (.P (.fa 5 36)),G 38 33 false (.P (.fa 0 37)),G 39 33 false (.L (.ld1 38)),G 40 33 false (.E (.call 135 [35,39])),G 41 28 true (.P (.pick 33 (.k (.b true)) 40)),P 42 (.pick 28 41 (.k (.b false)))]
(.cond 42 (u [P 4 (.mv (.k (.b false)))]
.ret)
.skip))
(u [ln 44 112 2,ln 45 29 3,E 46 (.call 136 [44,45]),m 43 46,ex 47 43 0,ex 48 43 1,A 5 (.alloc [(j 0),(j 0),(i 0),(i 0)]),A 6 (.alloc n2_0),sm 4 5 47,sm 112 6 48]
(.seq (u [fa 49 3 5,ld 50 49,bi 51 .neq 50 (k 0)]
(.cond 51 (u [P 4 (.mv (.k (.b true)))]
.ret)
.skip))
(u [fa 53 106 2,ld 54 53,fa 55 107 2,ld 56 55,fa 57 23 3,ld 58 57,fa 59 1 5,ld 60 59,fa 61 2 5,ld 62 61,E 63 (.call 137 [54,56,58,60,62]),m 52 63,ex 64 52 0,ex 65 52 1,ex 66 52 2,m 7 64,m 8 65,m 9 66]
(u [m 67 7,bi 68 .neq 67 (k 2),m 4 68]
.ret))))))),[.t 4]⟩
def d72 : F:=⟨1,66,u [A 1 (.box (.d 0)),P 2 (.mv (.k .sn))]
(.seq (u [fa 6 2 1,ld 7 6,bi 8 .neq 7 (k 0)]
(.cond 8 (u [ln 9 9 1,fa 10 2 1,ld 11 10,fa 12 3 1,ld 13 12,E 14 (.call 148 [9,11,13]),m 2 14]
.ret)
.skip))
(u [fa 16 1 1,ld 17 16,E 18 (.call 120 [17]),m 15 18,ex 19 15 0,ex 20 15 1,A 3 (.alloc [(i 0),(i 0),(i 0),(i 0),(i 0)]),sm 5 3 19,m 4 20]
(.seq (u [m 21 4,bi 22 .neq 21 (k 0)]
(.cond 22 (u [ln 23 9 1,fa 24 1 1,ld 25 24,E 26 (.call 148 [23,(k 2),25]),m 2 26]
.ret)
.skip))
(.seq (u [fa 27 0 3,ld 28 27,bi 29 .neq 28 (k 39)]
(.cond 29 (u [ln 30 9 1,ln 31 5 3,E 32 (.call 149 [30,31,(k 0),(.k (.b true))]),A 33 (.buildSl 23 1 ([(i 0),(i 0),(i 0),(i 0),(i 0),(j 0),(j 0),(i 0),(j 0),(.b false),(j 0),(j 0),(i 0),(j 0),(i 0),(i 0),(.b false),(i 0),(i 0),(i 0),(i 0),(i 0),(j 0)]) [(0,23,(.d 32))]),m 2 33]
.ret)
.skip))
(u [fa 34 1 3,ld 35 34,fa 36 2 3,ld 37 36,P 38 (.build [(i 0),(i 0),(i 0),(i 0),(i 0)] [(0,1,(k 38)),(1,1,(.d 35)),(2,1,(.d 37))]),A 5 (.alloc [(i 0),(i 0),(i 0),(i 0),(i 0)]),sm 5 5 38]
(.seq (u [fa 39 2 3,ld 40 39,bi 41 .eql 40 (k 0),m 42 41,G 43 42 false (.P (.fa 2 3)),G 44 42 false (.L (.ld1 43)),G 45 42 false (.P (.fa 1 3)),G 46 42 false (.L (.ld1 45)),G 47 42 false (.P (.bin .eql 44 46)),P 48 (.pick 42 (.k (.b true)) 47)]
(.cond 48 (u [ln 49 9 1,ln 50 5 5,E 51 (.call 149 [49,50,(k 0),(.k (.b true))]),A 52 (.buildSl 23 1 ([(i 0),(i 0),(i 0),(i 0),(i 0),(j 0),(j 0),(i 0),(j 0),(.b false),(j 0),(j 0),(i 0),(j 0),(i 0),(i 0),(.b false),(i 0),(i 0),(i 0),(i 0),(i 0),(j 0)]) [(0,23,(.d 51))]),m 2 52]
.ret)
.skip))
(.seq (.dreg [a 0 (ln 53 9 1),a 1 (ln 54 5 5),a 2 (E 55 (.call 149 [53,54,(k 0),(.k (.b false))])),⟨3,ln 56 9 1,1,1⟩,a 4 (fa 57 2 3),⟨5,ld 58 57,1,1⟩,a 6 (fa 59 2 3),⟨7,ld 60 59,1,1⟩,a 8 (fa 61 4 3),⟨9,ld 62 61,1,1⟩,a 10 (P 63 (.build [(i 0),(i 0),(i 0),(i 0),(i 0)] [(0,1,(k 25)),(1,1,(.d 58)),(2,1,(.d 60)),(4,1,(.d 62))])),a 11 (E 64 (.call 149 [56,63,(k 1),(.k (.b true))])),a 12 (A 65 (.buildSl 23 2 ([(i 0),(i 0),(i 0),(i 0),(i 0),(j 0),(j 0),(i 0),(j 0),(.b false),(j 0),(j 0),(i 0),(j 0),(i 0),(i 0),(.b false),(i 0),(i 0),(i 0),(i 0),(i 0),(j 0),(i 0),(i 0),(i 0),(i 0),(i 0),(j 0),(j 0),(i 0),(j 0),(.b false),(j 0),(j 0),(i 0),(j 0),(i 0),(i 0),(.b false),(i 0),(i 0),(i 0),(i 0),(i 0),(j 0)]) [(0,23,(.d 55)),(23,23,(.d 64))])),z 13 (m 2 65)])
.ret))))))),[.t 2]⟩
def d76 : F:=⟨1,11,u [A 1 (.box (.d 0)),P 2 (.mv (k 0))]
(u [fa 3 0 1,fa 4 4 3,ld 5 4,fa 6 64 1,ld 7 6,P 8 (.len 7),bi 9 .sub 5 8,P 10 (.mx [9,(k 0)]),m 2 10]
.ret),[.t 2]⟩
def d98 : F:=⟨1,15,u [P 2 (.mv (.k .sn))]
(u [P 3 (.mv (.k .sn))]
(.seq (u [P 4 (.mv (k 0))]
(.block 0 (.loop (.seq (u [m 5 4,m 6 0,E 7 (.call 180 [6]),bi 8 .lss 5 7]
(.cond 8 .skip
(.exit 0)))
(.seq (.block 1 (.reg [m 11 3,A 12 (.buildSl 1 1 [(.i .u8 0)] [(0,1,(.k (.i .u8 1)))]),E 13 (.appS 1 1 11 12),m 3 13]))
(.reg [m 9 4,bi 10 .add 9 (k 1),m 4 10]))))))
(u [m 14 3,m 2 14]
.ret))),[.t 2]⟩
def d102 : F:=⟨3,16,u [P 6 (.mv (k 0))]
(.seq (u [m 7 0,m 8 1,bi 9 .lss 7 8]
(.cond 9 (u [m 10 1,m 6 10]
.ret)
.skip))
(.seq (u [m 11 0,m 12 2,bi 13 .gtr 11 12]
(.cond 13 (u [m 14 2,m 6 14]
.ret)
.skip))
(u [m 15 0,m 6 15]
.ret))),[.t 6]⟩
def d106 : F:=⟨2,21,u [A 2 (.box (.d 0)),P 4 (.mv (.k (.b false)))]
(u [m 5 1,bi 6 .geq 5 (k 0),m 7 6,G 8 7 true (.P (.mv 1)),G 9 7 true (.P (.fa 0 2)),G 10 7 true (.L (.ld1 9)),G 11 7 true (.P (.len 10)),G 12 7 true (.P (.bin .lss 8 11)),P 13 (.pick 7 12 (.k (.b false))),m 14 13,G 15 14 true (.P (.mv 1)),G 16 14 true (.P (.fa 1 2)),G 17 14 true (.L (.ld1 16)),G 18 14 true (.P (.len 17)),G 19 14 true (.P (.bin .lss 15 18)),P 20 (.pick 14 19 (.k (.b false))),m 4 20]
.ret),[.t 4]⟩
def d111 : F:=⟨1,18,u [P 2 (.mv (.k .sn))]
(u [m 4 0,P 5 (.nilck 4),fa 6 0 5,fa 7 103 6,ld 8 7,E 9 (.call 112 [8,(.k (.fn 188 [] []))]),m 3 9]
(u [m 10 0,P 11 (.nilck 10),fa 12 0 11,fa 13 103 12,ld 14 13,m 15 3,bi 16 .add 15 (k 1),P 17 (.slS 35 14 none (some 16)),m 2 17]
.ret)),[.t 2]⟩
def d115 : F:=⟨1,31,.seq (.dreg [a 0 (m 5 0),a 1 (P 6 (.nilck 5)),a 2 (fa 7 0 6),a 3 (ln 8 112 7),a 4 (m 9 0),a 5 (P 10 (.nilck 9)),a 6 (fa 11 0 10),a 7 (fa 12 22 11),a 8 (fa 13 0 12),a 9 (ld 14 13),a 10 (E 15 (.call 193 [8,14])),a 11 (m 4 15),a 12 (ex 16 4 0),a 14 (A 2 (.alloc n2_0)),z 15 (sm 112 2 16),a 13 (ex 17 4 1),a 16 (m 3 17)])
(.dreg [a 3 (m 21 0),a 4 (P 22 (.nilck 21)),a 5 (fa 23 117 22),a 6 (ld 24 23),a 7 (m 25 3),a 8 (E 26 (.appS 4 32 24 25)),a 0 (m 18 0),⟨2,ln 20 112 2,1,1⟩,a 9 (P 27 (.nilck 18)),a 10 (fa 28 0 27),a 11 (sm 112 28 20),a 1 (m 19 0),a 12 (P 29 (.nilck 19)),a 13 (fa 30 117 29),a 14 (st 30 26)]),[]⟩
def d120 : F:=⟨1,58,u [A 2 (.alloc [(i 0),(i 0),(i 0),(i 0),(i 0)]),P 3 (.mv (k 0))]
(u [m 7 0,E 8 (.call 206 [7,(k 31),(k 26)]),P 9 (.cvt .i64 8),P 10 (.build [(i 0),(i 0),(i 0),(i 0),(i 0)] [(0,1,(.d 9))]),A 4 (.alloc [(i 0),(i 0),(i 0),(i 0),(i 0)]),sm 5 4 10]
(.seq (u [fa 11 0 4,ld 12 11,bi 13 .eql 12 (k 0)]
(.cond 13 (u [P 14 (.build [(i 0),(i 0),(i 0),(i 0),(i 0)] []),sm 5 2 14,P 3 (.mv (k 9))]
.ret)
.skip))
(.seq (u [fa 15 0 4,ld 16 15,E 17 (.call 207 [16,(k 1)])]
(.cond 17 (.reg [m 18 0,E 19 (.call 206 [18,(k 25),(k 22)]),P 20 (.cvt .i64 19),fa 21 1 4,st 21 20])
.skip))
(.seq (u [fa 22 0 4,ld 23 22,E 24 (.call 207 [23,(k 2)])]
(.cond 24 (.reg [m 25 0,E 26 (.call 206 [25,(k 21),(k 18)]),P 27 (.cvt .i64 26),fa 28 2 4,st 28 27])
.skip))
(.seq (u [fa 29 0 4,ld 30 29,E 31 (.call 207 [30,(k 4)])]
(.cond 31 (.reg [m 32 0,E 33 (.call 206 [32,(k 17),(k 14)]),P 34 (.cvt .i64 33),fa 35 3 4,st 35 34])
.skip))
(.seq (u [fa 36 0 4,ld 37 36,E 38 (.call 207 [37,(k 8)])]
(.cond 38 (.reg [fa 39 0 4,ld 40 39,m 41 0,E 42 (.call 208 [40,41]),fa 43 4 4,st 43 42])
.skip))
(.seq (u [ln 45 5 4,E 46 (.call 209 [45]),m 44 46,ex 47 44 0,ex 48 44 1,m 5 47,m 6 48]
(u [m 49 6,bi 50 .neq 49 (k 0),m 51 50,G 52 51 false (.P (.mv 5)),G 53 51 false (.P (.mv 0)),G 54 51 false (.P (.bin .neq 52 53)),P 55 (.pick 51 (.k (.b true)) 54)]
(.cond 55 (u [P 56 (.build [(i 0),(i 0),(i 0),(i 0),(i 0)] []),sm 5 2 56,P 3 (.mv (k 2))]
.ret)
.skip)))
(u [ln 57 5 4,sm 5 2 57,P 3 (.mv (k 0))]
.ret)))))))),[.cn 2 5,.t 3]⟩
def d125 : F:=⟨2,42,u [P 4 (.mv (.k .sn))]
(u [m 9 0,E 10 (.call 213 [9]),m 5 10]
(.seq (u [m 11 5,P 12 (.len 11),P 13 (.mv (k 0))]
(.block 0 (.loop (u [bi 14 .lss 13 12]
(.seq (.cond 14 .skip
(.exit 0))
(.seq (.block 1 (u [m 15 13,m 6 15]
(u [m 16 5,m 17 6,P 18 (.ixS 32 16 17),fa 19 0 18,fa 20 24 19,ln 21 3 20,P 22 (.mv (k 0))]
(.block 2 (.loop (u [bi 23 .lss 22 (k 3)]
(.seq (.cond 23 .skip
(.exit 2))
(.seq (.block 3 (u [m 24 22,P 25 (.idA1 3 21 22),m 7 24,m 8 25]
(u [m 26 1,bi 27 .geq 26 (k 0),m 28 27,G 29 28 true (.P (.mv 8)),G 30 28 true (.P (.mv 1)),G 31 28 true (.P (.bin .eql 29 30)),P 32 (.pick 28 31 (.k (.b false)))]
(.cond 32 (.reg [m 33 5,m 34 6,m 35 7,P 36 (.ixS 32 33 34),fa 37 29 36,P 38 (.ixA 3 1 37 35),S (.st1 38 (.k (.b true)))])
.skip))))
(.reg [bi 39 .add 22 (k 1),m 22 39])))))))))
(.reg [bi 40 .add 13 (k 1),m 13 40])))))))
(u [m 41 5,m 4 41]
.ret))),[.t 4]⟩
def d133 : F:=⟨3,41,u [A 3 (.box (.d 0)),P 6 (.mv (.k (.b false)))]
(.seq (u [m 9 2]
(.block 0 (.seq (u [bi 11 .eql 9 (k 1),m 10 11]
(.cond 10 .skip
(u [bi 12 .eql 9 (k 4),m 10 12]
(.cond 10 .skip
(u [bi 13 .eql 9 (k 5),m 10 13]
(.cond 10 .skip
(.reg [bi 14 .eql 9 (k 6),m 10 14])))))))
(.cond 10 (u [P 6 (.mv (.k (.b true)))]
.ret)
(.seq (u [bi 16 .eql 9 (k 2),m 15 16]
(.cond 15 .skip
(.reg [bi 17 .eql 9 (k 3),m 15 17])))
(.cond 15 (.seq (u [m 18 1,P 19 (.len 18),P 20 (.mv (k 0))]
(.block 1 (.loop (u [bi 21 .lss 20 19]
(.seq (.cond 21 .skip
(.exit 1))
(.seq (.block 2 (u [P 22 (.ixS 35 18 20),ln 23 35 22,A 8 (.alloc ((i 0)::(i 0)::(i 0)::(i 0)::(i 0)::(j 0)::(j 0)::(i 0)::(j 0)::(.b false)::(j 0)::(j 0)::(i 0)::(j 0)::(i 0)::(i 0)::(.b false)::(i 0)::(i 0)::(i 0)::(i 0)::(i 0)::(j 0)::(.i .u64 0)::rp 7 (i 0) ([(j 0),(j 0),(i 0),(j 0)]))),sm 35 8 23]
(.seq (.dreg [a 0 (fa 24 29 8),a 1 (ld 25 24),a 2 (m 26 2),a 3 (bi 27 .eql 25 26),a 4 (m 28 27),⟨5,G 29 28 true (.P (.mv 2)),1,0⟩,⟨6,G 30 28 true (.P (.bin .eql 29 (k 3))),1,0⟩,⟨7,G 31 28 true (.P (.mv 30)),1,0⟩,⟨10,G 34 31 false (.L (.ldn 22 3)),1,0⟩,⟨11,G 35 31 false (.P (.mv 2)),1,0⟩,⟨12,G 36 31 false (.E (.call 144 [34,35])),1,0⟩,⟨8,G 32 31 false (.P (.fa 30 8)),1,0⟩,⟨9,G 33 31 false (.L (.ld1 32)),1,1⟩,⟨13,G 37 31 false (.P (.bin .eql 33 36)),1,0⟩,⟨14,G 38 28 true (.P (.pick 31 (.k (.b true)) 37)),1,0⟩,a 15 (P 39 (.pick 28 38 (.k (.b false))))])
(.cond 39 (u [P 6 (.mv (.k (.b false)))]
.ret)
.skip))))
(.reg [bi 40 .add 20 (k 1),m 20 40])))))))
(u [P 6 (.mv (.k (.b true)))]
.ret))
.skip))))))
(u [P 6 (.mv (.k (.b false)))]
.ret)),[.t 6]⟩
def d144 : F:=⟨2,25,u [A 2 (.box (.d 0)),P 4 (.mv (k 0))]
(u [P 5 (.mv (k 1))]
(.seq (u [m 6 1]
(.block 0 (.seq (.block 5 (.seq (.block 4 (.block 3 (.seq (.block 2 (.seq (.block 1 (.seq (.seq (u [bi 8 .eql 6 (k 2),m 7 8]
(.cond 7 (.exit 1)
.skip))
(.seq (u [bi 10 .eql 6 (k 3),m 9 10]
(.cond 9 (.exit 2)
.skip))
(.seq (.seq (u [bi 12 .eql 6 (k 1),m 11 12]
(.cond 11 .skip
(u [bi 13 .eql 6 (k 4),m 11 13]
(.cond 11 .skip
(.reg [bi 14 .eql 6 (k 5),m 11 14])))))
(.cond 11 (.exit 3)
.skip))
(.seq (u [bi 16 .eql 6 (k 6),m 15 16]
(.cond 15 .skip
(.reg [bi 17 .eql 6 (k 7),m 15 17])))
(.cond 15 (.exit 4)
.skip)))))
(.exit 5)))
(u [fa 18 16 2,ld 19 18,E 20 (.call 143 [19]),m 5 20]
(.exit 0))))
(u [fa 21 17 2,ld 22 21,E 23 (.call 143 [22]),m 5 23]
(.exit 0)))))
(u [P 5 (.mv (k 1))]
(.exit 0))))
(u [P 5 (.mv (k 0))]
(.exit 0)))))
(u [m 24 5,m 4 24]
.ret))),[.t 4]⟩
def d148 : F:=⟨3,13,u [A 3 (.box (.d 0)),P 6 (.mv (.k .sn))]
(.seq (.dreg [a 1 (E 8 (.call 247 [])),⟨0,ln 7 9 3,1,1⟩,a 2 (m 9 1),a 3 (m 10 2),a 4 (P 11 (.build ([(i 0),(i 0),(i 0),(i 0),(i 0),(j 0),(j 0),(i 0),(j 0),(.b false),(j 0),(j 0),(i 0),(j 0),(i 0),(i 0),(.b false),(i 0),(i 0),(i 0),(i 0),(i 0),(j 0)]) [(5,9,(.d 7)),(14,1,(k 7)),(16,1,(.k (.b true))),(17,3,(.d 8)),(20,1,(.k (.i .i64 (-1)))),(21,1,(.d 9)),(22,1,(.d 10))])),a 5 (A 12 (.buildSl 23 1 ([(i 0),(i 0),(i 0),(i 0),(i 0),(j 0),(j 0),(i 0),(j 0),(.b false),(j 0),(j 0),(i 0),(j 0),(i 0),(i 0),(.b false),(i 0),(i 0),(i 0),(i 0),(i 0),(j 0)]) [(0,23,(.d 11))])),z 6 (m 6 12)])
.ret),[.t 6]⟩
def d152 : F:=⟨1,4,u [A 1 (.box (.d 0)),P 2 (.mv (.k (.c .nilFunc)))]
(u [P 3 (.mkf 251 [] [1]),m 2 3]
.ret),[.t 2]⟩
def d156 : F:=⟨3,24,u [A 4 (.box (.d 1)),P 6 (.mv (.k .sn)),P 7 (.mv (.k (.b false)))]
(.seq (u [m 8 0,P 9 (.len 8),m 10 2,bi 11 .geq 9 10]
(.cond 11 (u [P 6 (.mv (.k .sn)),P 7 (.mv (.k (.b false)))]
.ret)
.skip))
(.seq (.dreg [a 0 (m 12 0),a 1 (E 13 (.call 214 [12])),⟨2,ln 14 29 4,1,1⟩,a 3 (fa 15 0 4),a 4 (fa 16 21 15),⟨5,ld 17 16,1,1⟩,a 6 (fa 18 0 4),a 7 (fa 19 22 18),⟨8,ld 20 19,1,1⟩,a 9 (P 21 (.build ([(i 0),(i 0),(i 0),(i 0),(i 0),(j 0),(j 0),(i 0),(j 0),(.b false),(j 0),(j 0),(i 0),(j 0),(i 0),(i 0),(.b false),(i 0),(i 0),(i 0),(i 0),(i 0),(j 0),(.i .u64 0),(i 0),(i 0),(i 0),(i 0),(i 0),(.b false),(j 0),(j 0),(i 0),(j 0),(.b false)]) [(0,29,(.d 14)),(32,1,(.d 17)),(33,1,(.d 20))])),a 10 (A 22 (.buildSl 35 1 ([(i 0),(i 0),(i 0),(i 0),(i 0),(j 0),(j 0),(i 0),(j 0),(.b false),(j 0),(j 0),(i 0),(j 0),(i 0),(i 0),(.b false),(i 0),(i 0),(i 0),(i 0),(i 0),(j 0),(.i .u64 0),(i 0),(i 0),(i 0),(i 0),(i 0),(.b false),(j 0),(j 0),(i 0),(j 0),(.b false)]) [(0,35,(.d 21))])),z 11 (E 23 (.appS 35 248 13 22)),a 12 (m 6 23),a 13 (P 7 (.mv (.k (.b true))))])
.ret)),[.t 6,.t 7]⟩
def d160 : F:=⟨3,10,u [P 6 (.mv (.k .sn))]
(.seq (u [m 7 2]
(.cond 7 (u [m 8 1,m 6 8]
.ret)
.skip))
(u [m 9 0,m 6 9]
.ret)),[.t 6]⟩
def d168 : F:=⟨1,28,u [A 1 (.box (.d 0)),P 2 (.mv (.k (.b false)))]
(u [fa 6 1 1,ld 7 6,E 8 (.call 120 [7]),m 5 8,ex 9 5 0,ex 10 5 1,A 3 (.alloc [(i 0),(i 0),(i 0),(i 0),(i 0)]),sm 5 3 9,m 4 10]
(u [fa 11 2 1,ld 12 11,bi 13 .neq 12 (k 0),m 14 13,G 15 14 false (.P (.mv 4)),G 16 14 false (.P (.bin .eql 15 (k 0))),G 17 14 false (.P (.mv 16)),G 18 17 true (.P (.fa 0 3)),G 19 17 true (.L (.ld1 18)),G 20 17 true (.P (.bin .geq 19 (k 51))),G 21 14 false (.P (.pick 17 20 (.k (.b false)))),G 22 14 false (.P (.mv 21)),G 23 22 true (.P (.fa 0 3)),G 24 22 true (.L (.ld1 23)),G 25 22 true (.P (.bin .leq 24 (k 62))),G 26 14 false (.P (.pick 22 25 (.k (.b false)))),P 27 (.pick 14 (.k (.b true)) 26),m 2 27]
.ret)),[.t 2]⟩
def d182 : F:=⟨3,16,u [P 6 (.mv (k 0))]
(.seq (u [m 7 0,m 8 1,bi 9 .lss 7 8]
(.cond 9 (u [m 10 1,m 6 10]
.ret)
.skip))
(.seq (u [m 11 0,m 12 2,bi 13 .gtr 11 12]
(.cond 13 (u [m 14 2,m 6 14]
.ret)
.skip))
(u [m 15 0,m 6 15]
.ret))),[.t 6]⟩
def d188 : F:=⟨1,7,u [A 1 (.box (.d 0)),P 2 (.mv (.k (.b false)))]
(u [fa 3 0 1,fa 4 0 3,fa 5 16 4,ld 6 5,m 2 6]
.ret),[.t 2]⟩
def d193 : F:=⟨2,48,u [A 2 (.box (.d 0)),A 4 (.alloc n2_0),P 5 (.mv (.k .sn))]
(u [ln 10 112 2,E 11 (.call 272 [10]),m 9 11,ex 12 9 0,ex 13 9 1,A 6 (.alloc [(j 0),(j 0),(i 0),(j 0),(.b false),(j 0),(j 0),(i 0),(j 0)]),sm 9 6 12,m 7 13]
(u [ln 15 112 2,m 16 1,E 17 (.call 219 [15,(.k (.i .u64 0)),16]),m 14 17,ex 18 14 0,ex 19 14 1,sm 112 2 18,m 8 19]
(.seq (u [m 20 7]
(.cond 20 (u [fa 21 4 6,fa 22 2 21,fa 23 0 22,ld 24 23,fa 25 56 2,fa 26 0 25,st 26 24]
(.reg [fa 28 56 2,fa 29 4 28,ld 30 29,fa 31 4 6,fa 32 2 31,fa 33 1 32,ld 34 33,fa 35 4 6,fa 36 2 35,fa 37 2 36,ld 38 37,E 39 (.call 273 [30,34,38]),m 27 39,ex 40 27 0,ex 41 27 1,fa 42 56 2,fa 43 4 42,st 43 40,fa 44 56 2,fa 45 5 44,st 45 41]))
.skip))
(u [ln 46 112 2,m 47 8,sm 112 4 46,m 5 47]
.ret)))),[.cn 4 112,.t 5]⟩
def d201 : F:=⟨2,27,u [A 3 (.box (.d 1))]
(.dreg [a 1 (m 5 0),a 2 (P 6 (.nilck 5)),a 3 (fa 7 117 6),a 4 (ld 8 7),a 5 (m 9 0),a 6 (P 10 (.nilck 9)),a 7 (fa 11 0 10),a 8 (fa 12 111 11),a 9 (ld 13 12),a 10 (fa 14 0 3),a 11 (fa 15 23 14),a 12 (ld 16 15),a 13 (fa 17 0 3),a 14 (fa 18 0 17),a 15 (fa 19 5 18),a 16 (fa 20 0 19),a 17 (ld 21 20),a 18 (P 22 (.build [(i 0),(i 0),(.i .u64 0),(j 0)] [(0,1,(.d 13)),(1,1,(k 5)),(2,1,(.d 16)),(3,1,(.d 21))])),a 19 (A 23 (.buildSl 4 1 [(i 0),(i 0),(.i .u64 0),(j 0)] [(0,4,(.d 22))])),z 20 (E 24 (.appS 4 32 8 23)),a 0 (m 4 0),a 21 (P 25 (.nilck 4)),a 22 (fa 26 117 25),a 23 (st 26 24)]),[]⟩
def d205 : F:=⟨1,29,u [A 1 (.box (.d 0)),A 2 (.alloc (rp 29 (j 0) ([(.b false)])))]
(u [fa 4 17 1,P 5 (.ixA 12 1 4 (k 7)),ld 6 5,P 7 (.bin .add 6 (.k (j 1))),fa 8 17 1,P 9 (.ixA 12 1 8 (k 7)),st 9 7]
(.seq (u [fa 10 17 1,P 11 (.ixA 12 1 10 (k 8)),ld 12 11,m 3 12]
(u [m 13 3,P 14 (.bin .neq 13 (.k (j 0))),m 15 14,G 16 15 true (.P (.fa 17 1)),G 17 15 true (.P (.ixA 12 1 16 (k 7))),G 18 15 true (.L (.ld1 17)),G 19 15 true (.P (.mv 3)),G 20 15 true (.P (.bin .geq 18 19)),P 21 (.pick 15 20 (.k (.b false)))]
(.cond 21 (.reg [fa 22 17 1,P 23 (.ixA 12 1 22 (k 10)),ld 24 23,P 25 (.bin .or 24 (.k (j 4))),fa 26 17 1,P 27 (.ixA 12 1 26 (k 10)),st 27 25])
.skip)))
(u [ln 28 30 1,sm 30 2 28]
.ret))),[.cn 2 30]⟩
def d209 : F:=⟨1,43,u [A 1 (.box (.d 0)),P 2 (.mv (.k (j 0))),P 3 (.mv (k 0))]
(.seq (u [ln 6 5 1,E 7 (.call 286 [6]),m 4 7]
(u [m 8 4,bi 9 .neq 8 (k 0)]
(.cond 9 (u [m 10 4,P 2 (.mv (.k (j 0))),m 3 10]
.ret)
.skip)))
(u [fa 11 0 1,ld 12 11,P 13 (.cvt .u32 12),E 14 (.call 287 [(.k (j 0)),(k 31),(k 26),13]),m 5 14]
(u [m 15 5,fa 16 1 1,ld 17 16,P 18 (.cvt .u32 17),E 19 (.call 287 [15,(k 25),(k 22),18]),m 5 19]
(u [m 20 5,fa 21 2 1,ld 22 21,P 23 (.cvt .u32 22),E 24 (.call 287 [20,(k 21),(k 18),23]),m 5 24]
(u [m 25 5,fa 26 3 1,ld 27 26,P 28 (.cvt .u32 27),E 29 (.call 287 [25,(k 17),(k 14),28]),m 5 29]
(.seq (u [fa 30 0 1,ld 31 30,E 32 (.call 207 [31,(k 8)])]
(.cond 32 (.dreg [a 1 (fa 34 0 1),a 2 (ld 35 34),a 3 (E 36 (.call 285 [35])),a 0 (m 33 5),a 4 (bi 37 .sub 36 (k 1)),a 5 (fa 38 4 1),⟨6,ld 39 38,1,1⟩,a 7 (P 40 (.cvt .u32 39)),a 8 (E 41 (.call 287 [33,37,(k 0),40])),a 9 (m 5 41)])
.skip))
(u [m 42 5,m 2 42,P 3 (.mv (k 0))]
.ret))))))),[.t 2,.t 3]⟩
def d213 : F:=⟨1,8,u [P 2 (.mv (.k .sn))]
(.seq (u [m 3 0,P 4 (.eqNil false 3)]
(.cond 4 (u [P 2 (.mv (.k .sn))]
.ret)
.skip))
(u [A 5 (.buildSl 32 0 [] []),m 6 0,E 7 (.appS 32 224 5 6),m 2 7]
.ret)),[.t 2]⟩
def d223 : F:=⟨2,27,u [P 4 (.mv (.k .sn))]
(.seq (u [m 5 1,bi 6 .lss 5 (k 0)]
(.cond 6 (.bad)
.skip))
(.seq (u [m 8 1,m 9 0,P 10 (.cap 9),m 11 0,P 12 (.len 11),bi 13 .sub 10 12,bi 14 .sub 8 13,m 1 14]
(u [m 15 1,bi 16 .gtr 15 (k 0)]
(.cond 16 (.reg [m 17 0,m 18 0,P 19 (.cap 18),P 20 (.slS 1 17 none (some 19)),m 21 1,E 22 (.appZ 1 8 [(i 0)] 20 21),m 23 0,P 24 (.len 23),P 25 (.slS 1 22 none (some 24)),m 0 25])
.skip)))
(u [m 26 0,m 4 26]
.ret))),[.t 4]⟩
def d242 : F:=⟨3,39,u [P 6 (.mv (.k (j 0)))]
(.seq (u [m 14 0,m 15 1,m 16 2,E 17 (.call 320 [14,15,16]),m 13 17,ex 18 13 0,ex 19 13 1,m 7 18,m 8 19]
(u [m 20 8]
(.cond 20 (u [m 21 7,m 6 21]
.ret)
.skip)))
(.seq (u [m 23 0,m 24 1,m 25 2,E 26 (.call 321 [23,24,25]),m 22 26,ex 27 22 0,ex 28 22 1,m 9 27,m 10 28]
(u [m 29 10]
(.cond 29 (u [m 30 9,m 6 30]
.ret)
.skip)))
(u [m 32 0,m 33 1,m 34 2,E 35 (.call 322 [32,33,34]),m 31 35,ex 36 31 0,ex 37 31 1,m 11 36,m 12 37]
(u [m 38 11,m 6 38]
.ret)))),[.t 6]⟩
def d249 : F:=⟨1,39,u [A 1 (.box (.d 0)),A 2 (.alloc [(i 0),(i 0),(i 0)])]
(u [E 4 (.call 247 []),A 3 (.alloc [(i 0),(i 0),(i 0)]),sm 3 3 4]
(.seq (u [fa 5 0 1,ld 6 5,E 7 (.call 275 [6])]
(.cond 7 (u [ln 8 3 3,sm 3 2 8]
.ret)
.skip))
(.seq (u [fa 9 0 1,ld 10 9,E 11 (.call 169 [10])]
(.block 0 (.seq (u [bi 13 .eql 11 (k 1),m 12 13]
(.cond 12 .skip
(u [bi 14 .eql 11 (k 3),m 12 14]
(.cond 12 .skip
(.reg [bi 15 .eql 11 (k 4),m 12 15])))))
(.cond 12 (.dreg [a 0 (fa 16 2 1),a 1 (ld 17 16),a 2 (E 18 (.call 323 [17])),a 3 (fa 19 3 1),⟨4,ld 20 19,1,1⟩,a 5 (E 21 (.call 323 [20])),a 6 (P 22 (.ixA 3 1 3 (k 0))),a 7 (st 22 18),a 8 (P 23 (.ixA 3 1 3 (k 1))),a 9 (st 23 21)])
(.seq (u [bi 25 .eql 11 (k 2),m 24 25]
(.cond 24 .skip
(.reg [bi 26 .eql 11 (k 11),m 24 26])))
(.cond 24 (.reg [fa 27 2 1,ld 28 27,E 29 (.call 323 [28]),P 30 (.ixA 3 1 3 (k 0)),st 30 29])
.skip))))))
(.seq (u [fa 31 0 1,ld 32 31,bi 33 .eql 32 (k 24)]
(.cond 33 (.reg [fa 34 1 1,ld 35 34,E 36 (.call 323 [35]),P 37 (.ixA 3 1 3 (k 2)),st 37 36])
.skip))
(u [ln 38 3 3,sm 3 2 38]
.ret))))),[.cn 2 3]⟩
def d253 : F:=⟨2,19,u [A 2 (.box (.d 0)),P 4 (.mv (k 0))]
(u [fa 6 0 2,ld 7 6,P 8 (.len 7),m 5 8]
(u [fa 9 1 2,ld 10 9,m 11 1,bi 12 .add 10 11,m 13 5,bi 14 .rem 12 13,m 15 5,bi 16 .add 14 15,m 17 5,bi 18 .rem 16 17,m 4 18]
.ret)),[.t 4]⟩
def d257 : F:=⟨3,13,u [A 3 (.box (.d 0)),A 6 (.alloc (rp 16 (i 0) ([])))]
(.seq (u [m 7 1,E 8 (.call 324 [7])]
(.cond 8 (.reg [m 9 1,m 10 2,P 11 (.ixA 16 1 3 9),st 11 10])
.skip))
(u [ln 12 16 3,sm 16 6 12]
.ret)),[.cn 6 16]⟩
def d261 : F:=⟨4,116,u [A 4 (.box (.d 0)),A 5 (.box (.d 1)),A 8 (.alloc [(j 0),.sn,.sn,(i 0),.sn,(i 0)]),A 9 (.alloc [(.b false),(j 0),(j 0),(i 0),(j 0)])]
(u [fa 15 0 5,ld 16 15,P 17 (.build [(j 0),(i 0),(j 0)] [(0,1,(.d 16))]),P 18 (.build [(.b false),(j 0),(j 0),(i 0),(j 0)] [(2,3,(.d 17))]),A 10 (.alloc [(.b false),(j 0),(j 0),(i 0),(j 0)]),sm 5 10 18]
(u [fa 20 4 5,ld 21 20,fa 22 5 5,ld 23 22,E 24 (.call 327 [21,23]),m 19 24,ex 25 19 0,ex 26 19 1,fa 27 2 10,fa 28 1 27,st 28 25,fa 29 2 10,fa 30 2 29,st 30 26]
(u [m 32 3,E 33 (.call 298 [32]),m 31 33,ex 34 31 0,ex 35 31 1,A 11 (.alloc [(i 0),(i 0),(i 0),(i 0),(i 0)]),sm 5 11 34,m 12 35]
(.seq (u [m 36 12]
(.block 0 (u [bi 38 .eql 36 (k 1),m 37 38]
(.cond 37 (.seq (.dreg [a 2 (m 41 2),a 3 (fa 42 0 5),a 4 (ld 43 42),a 5 (fa 44 11 4),a 6 (ld 45 44),a 7 (E 46 (.call 300 [41,43,45])),a 0 (fa 39 1 5),⟨1,ld 40 39,1,1⟩,a 8 (E 47 (.call 328 [40,46])),a 9 (fa 48 0 10),a 10 (st 48 47)])
(.seq (u [fa 49 0 10,ld 50 49]
(.cond 50 (.reg [ln 52 5 11,m 53 2,E 54 (.call 329 [52,53]),m 51 54,ex 55 51 0,ex 56 51 1,fa 57 1 10,st 57 55])
.skip))
(.reg [fa 58 0 5,ld 59 58,fa 60 11 4,ld 61 60,fa 62 0 10,ld 63 62,E 64 (.call 330 [59,61,63]),fa 65 0 5,st 65 64])))
(.seq (u [bi 67 .eql 36 (k 2),m 66 67]
(.cond 66 .skip
(.reg [bi 68 .eql 36 (k 3),m 66 68])))
(.cond 66 (.seq (u [fa 69 0 11,ld 70 69,bi 71 .eql 70 (k 49)]
(.cond 71 (.reg [ln 73 5 11,m 74 2,E 75 (.call 329 [73,74]),m 72 75,ex 76 72 0,ex 77 72 1,fa 78 1 10,st 78 76,fa 79 0 10,st 79 77])
(u [fa 81 2 5,ld 82 81,m 83 2,E 84 (.call 331 [82,83]),m 80 84,ex 85 80 0,ex 86 80 1,A 13 (.alloc [(j 0),(j 0),(i 0)]),sm 3 13 85,m 14 86]
(u [m 87 14]
(.cond 87 (.reg [fa 88 1 13,ld 89 88,fa 90 1 10,st 90 89,fa 91 0 10,S (.st1 91 (.k (.b true)))])
.skip)))))
(u [m 92 12,bi 93 .eql 92 (k 3)]
(.cond 93 (.reg [ln 94 6 5,m 95 2,E 96 (.call 332 [94,95]),sm 6 5 96])
.skip)))
(u [bi 98 .eql 36 (k 4),m 97 98]
(.cond 97 (u [fa 99 4 5,ld 100 99,P 101 (.len 100),bi 102 .gtr 101 (k 0)]
(.cond 102 (u [fa 103 0 10,S (.st1 103 (.k (.b true)))]
(.reg [fa 105 4 5,ld 106 105,fa 107 5 5,ld 108 107,E 109 (.call 333 [106,108]),m 104 109,ex 110 104 0,ex 111 104 1,fa 112 1 10,st 112 110,fa 113 5 5,st 113 111]))
.skip))
.skip))))))))
(.seq (.dreg [a 0 (ln 114 6 5),a 2 (sm 6 8 114),⟨1,ln 115 5 10,1,1⟩,a 3 (sm 5 9 115)])
.ret))))),[.cn 8 6,.cn 9 5]⟩
def d272 : F:=⟨1,26,u [A 1 (.box (.d 0)),A 2 (.alloc [(j 0),(j 0),(i 0),(j 0),(.b false),(j 0),(j 0),(i 0),(j 0)]),P 3 (.mv (.k (.b false)))]
(.seq (.block 0 (u [fa 5 103 1,ld 6 5,P 7 (.len 6),bi 8 .gtr 7 (k 0),m 4 8]
(.cond 4 (u [fa 9 103 1,ld 10 9,P 11 (.ixS 35 10 (k 0)),fa 12 0 11,fa 13 0 12,fa 14 5 13,ln 15 9 14,sm 9 2 15,P 3 (.mv (.k (.b true)))]
.ret)
(u [fa 17 64 1,ld 18 17,P 19 (.len 18),bi 20 .gtr 19 (k 0),m 16 20]
(.cond 16 (u [fa 21 64 1,ld 22 21,P 23 (.ixS 9 22 (k 0)),ln 24 9 23,sm 9 2 24,P 3 (.mv (.k (.b true)))]
.ret)
.skip)))))
(u [P 25 (.build [(j 0),(j 0),(i 0),(j 0),(.b false),(j 0),(j 0),(i 0),(j 0)] []),sm 9 2 25,P 3 (.mv (.k (.b false)))]
.ret)),[.cn 2 9,.t 3]⟩
def d283 : F:=⟨2,21,u [P 4 (.mv (.k (j 0))),P 5 (.mv (k 0))]
(u [m 6 0,E 7 (.call 345 [6,(k 0),(k 31)]),m 8 1,E 9 (.call 345 [8,(k 0),(k 31)]),m 0 7,m 1 9]
(.seq (u [m 10 0,m 11 1,bi 12 .lss 10 11]
(.cond 12 (u [P 4 (.mv (.k (j 0))),P 5 (.mv (k 0))]
.ret)
.skip))
(u [m 13 0,m 14 1,bi 15 .sub 13 14,bi 16 .add 15 (k 1),E 17 (.call 344 [16]),m 18 1,bi 19 .shl 17 18,m 20 1,m 4 19,m 5 20]
.ret))),[.t 4,.t 5]⟩
def d287 : F:=⟨4,26,u [P 8 (.mv (.k (j 0)))]
(u [m 12 1,m 13 2,E 14 (.call 283 [12,13]),m 11 14,ex 15 11 0,ex 16 11 1,m 9 15,m 10 16]
(u [m 17 0,m 18 9,bi 19 .andNot 17 18,m 20 3,m 21 10,bi 22 .shl 20 21,m 23 9,bi 24 .and 22 23,bi 25 .or 19 24,m 8 25]
.ret)),[.t 8]⟩
def d294 : F:=⟨2,9,u [A 3 (.box (.d 1)),P 4 (.mv (.k .sn))]
(u [m 5 0,E 6 (.call 213 [5]),P 7 (.mkf 361 [] [3]),E 8 (.call 360 [6,7]),m 4 8]
.ret),[.t 4]⟩
def d298 : F:=⟨1,17,u [A 2 (.alloc [(i 0),(i 0),(i 0),(i 0),(i 0)]),P 3 (.mv (k 0))]
(u [m 7 0,E 8 (.call 120 [7]),m 6 8,ex 9 6 0,ex 10 6 1,A 4 (.alloc [(i 0),(i 0),(i 0),(i 0),(i 0)]),sm 5 4 9,m 5 10]
(.seq (u [m 11 5,bi 12 .neq 11 (k 0)]
(.cond 12 (u [P 13 (.build [(i 0),(i 0),(i 0),(i 0),(i 0)] []),sm 5 2 13,P 3 (.mv (k 0))]
.ret)
.skip))
(.seq (.dreg [a 1 (ln 15 5 4),a 2 (E 16 (.call 366 [15])),⟨0,ln 14 5 4,1,1⟩,a 3 (sm 5 2 14),a 4 (m 3 16)])
.ret))),[.cn 2 5,.t 3]⟩
def d317 : F:=⟨3,28,u [P 6 (.mv (k 0))]
(.seq (u [m 7 2,bi 8 .neq 7 (k 1),m 9 8,G 10 9 true (.P (.mv 2)),G 11 9 true (.P (.bin .neq 10 (k 2))),P 12 (.pick 9 11 (.k (.b false))),m 13 12,G 14 13 true (.P (.mv 2)),G 15 13 true (.P (.bin .neq 14 (k 4))),P 16 (.pick 13 15 (.k (.b false))),m 17 16,G 18 17 false (.P (.mv 1)),G 19 17 false (.P (.cvt .u64 18)),G 20 17 false (.P (.mv 2)),G 21 17 false (.P (.cvt .u64 20)),G 22 17 false (.P (.bin .add 19 21)),G 23 17 false (.P (.mv 0)),G 24 17 false (.P (.len 23)),G 25 17 false (.P (.cvt .u64 24)),G 26 17 false (.P (.bin .gtr 22 25)),P 27 (.pick 17 (.k (.b true)) 26)]
(.cond 27 (u [P 6 (.mv (k 9))]
.ret)
.skip))
(u [P 6 (.mv (k 0))]
.ret)),[.t 6]⟩
def d323 : F:=⟨1,6,u [P 2 (.mv (k 0))]
(.seq (u [m 3 0,bi 4 .eql 3 (k 0)]
(.cond 4 (u [P 2 (.mv (.k (.i .i64 (-1))))]
.ret)
.skip))
(u [m 5 0,m 2 5]
.ret)),[.t 2]⟩
def d327 : F:=⟨2,18,u [P 4 (.mv (k 0)),P 5 (.mv (.k (j 0)))]
(.seq (u [m 7 0,P 8 (.len 7),bi 9 .eql 8 (k 0)]
(.cond 9 (u [P 4 (.mv (k 0)),P 5 (.mv (.k (j 0)))]
.ret)
.skip))
(u [m 10 0,m 11 1,E 12 (.call 342 [10,11]),m 6 12]
(.seq (.dreg [a 0 (m 13 6),a 1 (m 14 0),a 2 (m 15 6),a 3 (P 16 (.ixS 1 14 15)),a 4 (ld 17 16),a 5 (m 4 13),a 6 (m 5 17)])
.ret))),[.t 4,.t 5]⟩
def d345 : F:=⟨3,12,u [P 6 (.mv (k 0))]
(u [m 7 0,m 8 1,P 9 (.mx [7,8]),m 10 2,P 11 (.mn [9,10]),m 6 11]
.ret),[.t 6]⟩
def d360 : F:=⟨2,42,u [P 4 (.mv (.k .sn))]
(u [m 8 0,m 9 1,E 10 (.call 145 [8,9]),m 5 10]
(.seq (u [m 11 5,P 12 (.bin .eql 11 (.k (.i .i64 (-1))))]
(.cond 12 (u [m 13 0,m 4 13]
.ret)
.skip))
(.seq (u [m 14 5,bi 15 .add 14 (k 1),m 6 15]
(.block 0 (.loop (.seq (u [m 16 6,m 17 0,P 18 (.len 17),bi 19 .lss 16 18]
(.cond 19 .skip
(.exit 0)))
(.seq (.block 1 (u [m 22 0,m 23 6,P 24 (.ixS 32 22 23),ln 25 32 24,A 7 (.alloc ([(i 0),(i 0),(i 0),(i 0),(i 0),(j 0),(j 0),(i 0),(j 0),(.b false),(j 0),(j 0),(i 0),(j 0),(i 0),(i 0),(.b false),(i 0),(i 0),(i 0),(i 0),(i 0),(j 0),(.i .u64 0),(i 0),(i 0),(i 0),(i 0),(i 0),(.b false),(.b false),(.b false)])),sm 32 7 25]
(u [m 26 1,ln 27 32 7,E 28 (.callv 26 [27]),P 29 (.un .not 28)]
(.cond 29 (u [m 30 0,m 31 5,ln 32 32 7,P 33 (.ixS 32 30 31),sm 32 33 32]
(.reg [m 34 5,bi 35 .add 34 (k 1),m 5 35]))
.skip))))
(.reg [m 20 6,bi 21 .add 20 (k 1),m 6 21]))))))
(u [m 36 0,m 37 5,P 38 (.slS 32 36 (some 37) none),S (.clr 32 [(i 0),(i 0),(i 0),(i 0),(i 0),(j 0),(j 0),(i 0),(j 0),(.b false),(j 0),(j 0),(i 0),(j 0),(i 0),(i 0),(.b false),(i 0),(i 0),(i 0),(i 0),(i 0),(j 0),(.i .u64 0),(i 0),(i 0),(i 0),(i 0),(i 0),(.b false),(.b false),(.b false)] 38)]
(u [m 39 0,m 40 5,P 41 (.slS 32 39 none (some 40)),m 4 41]
.ret))))),[.t 4]⟩
def d377 : F:=⟨1,26,u [P 2 (.mv (.k (j 0)))]
(u [P 3 (.mv (.k (j 0)))]
(.seq (u [m 6 0,m 7 0,P 8 (.len 7),P 9 (.mn [8,(k 4)]),P 10 (.slS 1 6 none (some 9)),P 11 (.len 10),P 12 (.mv (k 0))]
(.block 0 (.loop (u [bi 13 .lss 12 11]
(.seq (.cond 13 .skip
(.exit 0))
(.seq (.block 1 (u [m 14 12,P 15 (.ixS 1 10 12),ld 16 15,m 4 14,m 5 16]
(.reg [m 17 3,m 18 5,P 19 (.cvt .u32 18),m 20 4,bi 21 .mul (k 8) 20,bi 22 .shl 19 21,bi 23 .or 17 22,m 3 23])))
(.reg [bi 24 .add 12 (k 1),m 12 24])))))))
(u [m 25 3,m 2 25]
.ret))),[.t 2]⟩
def d415 : F:=⟨1,44,u [A 1 (.box (.d 0)),A 2 (.alloc [(j 0),(j 0),(j 0),(j 0),(i 0)])]
(.seq (u [fa 5 4 1,ld 6 5,bi 7 .lss 6 (k 1)]
(.cond 7 (u [ln 8 5 1,sm 5 2 8]
.ret)
.skip))
(u [fa 9 2 1,ld 10 9,P 11 (.cvt .u64 10),m 3 11]
(.seq (u [fa 12 1 1,ld 13 12,P 14 (.bin .and 13 (.k (j 1))),P 15 (.bin .eql 14 (.k (j 1)))]
(.cond 15 (.reg [m 16 3,fa 17 0 1,ld 18 17,P 19 (.cvt .u64 18),bi 20 .add 16 19,m 3 20])
.skip))
(u [m 21 3,P 22 (.bin .shl 21 (.k (.i .u64 32))),fa 23 3 1,ld 24 23,P 25 (.cvt .u64 24),bi 26 .or 22 25,m 4 26]
(u [m 27 3,P 28 (.bin .shr 27 (.k (.i .u64 1))),P 29 (.cvt .u32 28),m 30 4,P 31 (.bin .shr 30 (.k (.i .u64 1))),P 32 (.cvt .u32 31),fa 33 2 1,st 33 29,fa 34 3 1,st 34 32]
(u [fa 35 1 1,ld 36 35,P 37 (.bin .shr 36 (.k (.i .u64 1))),fa 38 1 1,st 38 37]
(u [fa 39 4 1,ld 40 39,bi 41 .sub 40 (k 1),fa 42 4 1,st 42 41]
(u [ln 43 5 1,sm 5 2 43]
.ret)))))))),[.cn 2 5]⟩
end
end Go.Proofs.YtoppeebbioalcaaGreatDoor.Run
