/- What the claims of this group lean on: CzR3. No condition. -/
import Derived.Test.YtdldbkpdecbgnaaGreatDoorKY4
set_option maxRecDepth 100000
set_option maxHeartbeats 4000000
namespace Cz
open Go Go.RowKit Go.Proofs
namespace I
def qty:Nat->List Nat:=kk [[0,2],([1008100]++rg 5 17),([1,3,4]++rg 22 8)]
def qzp:Spl:=(.node 9 17
 (.node 9 18
 (.node 12 17
 (.node 12 18
 (.node 13 17
 (.node 13 18
 (.node 17 18
 (.leaf (og 0 9++[(11,[]),(9,[1,3,5,11]),(10,[]),(12,[1,3,5])]++og 13 8))
 (.leaf (og 0 9++[(11,[]),(9,[1,3,5,11]),(10,[]),(12,[1,3,5])]++og 13 4++[(18,[]),(17,[]),(19,[]),(20,[])])))
 (.leaf (og 0 9++[(11,[]),(9,[1,3,5,11]),(10,[]),(12,[1,3,5]),(18,[1,3,5])]++og 13 5++[(19,[]),(20,[])])))
 (.node 17 18
 (.node 13 18
 (.leaf (og 0 9++[(11,[]),(9,[1,3,5,11]),(10,[]),(12,[1,3,5]),(17,[1,3,5])]++og 13 4++[(18,[]),(19,[]),(20,[])]))
 (.leaf (og 0 9++[(11,[]),(9,[1,3,5,11]),(10,[]),(12,[1,3,5]),(17,[1,3,5]),(18,[1,3,5])]++og 13 4++[(19,[]),(20,[])])))
 (.leaf (og 0 9++[(11,[]),(9,[1,3,5,11]),(10,[]),(12,[1,3,5]),(18,[1,3,5]),(17,[1,3,5])]++og 13 4++[(19,[]),(20,[])]))))
 (.node 13 17
 (.leaf (og 0 9++[(11,[]),(9,[1,3,5,11]),(10,[]),(18,[1,3,5,11]),(12,[1,3,5])]++og 13 5++[(19,[]),(20,[])]))
 (.leaf (og 0 9++[(11,[]),(9,[1,3,5,11]),(10,[]),(18,[1,3,5,11]),(12,[1,3,5]),(17,[1,3,5])]++og 13 4++[(19,[]),(20,[])]))))
 (.node 17 18
 (.node 12 18
 (.node 13 18
 (.leaf (og 0 9++[(11,[]),(9,[1,3,5,11]),(10,[]),(17,[1,3,5,11]),(12,[1,3,5])]++og 13 4++[(18,[]),(19,[]),(20,[])]))
 (.leaf (og 0 9++[(11,[]),(9,[1,3,5,11]),(10,[]),(17,[1,3,5,11]),(12,[1,3,5]),(18,[1,3,5])]++og 13 4++[(19,[]),(20,[])])))
 (.leaf (og 0 9++[(11,[]),(9,[1,3,5,11]),(10,[]),(17,[1,3,5,11]),(18,[1,3,5,11]),(12,[1,3,5])]++og 13 4++[(19,[]),(20,[])])))
 (.leaf (og 0 9++[(11,[]),(9,[1,3,5,11]),(10,[]),(18,[1,3,5,11]),(17,[1,3,5,11]),(12,[1,3,5])]++og 13 4++[(19,[]),(20,[])]))))
 (.node 12 17
 (.node 13 17
 (.leaf (og 0 9++[(11,[]),(18,[1,3,5,8,11]),(9,[1,3,5,11]),(10,[]),(12,[1,3,5])]++og 13 5++[(19,[]),(20,[])]))
 (.leaf (og 0 9++[(11,[]),(18,[1,3,5,8,11]),(9,[1,3,5,11]),(10,[]),(12,[1,3,5]),(17,[1,3,5])]++og 13 4++[(19,[]),(20,[])])))
 (.leaf (og 0 9++[(11,[]),(18,[1,3,5,8,11]),(9,[1,3,5,11]),(10,[]),(17,[1,3,5,11]),(12,[1,3,5])]++og 13 4++[(19,[]),(20,[])]))))
 (.node 17 18
 (.node 9 18
 (.node 12 18
 (.node 13 18
 (.leaf (og 0 9++[(11,[]),(17,[1,3,5,8,11]),(9,[1,3,5,11]),(10,[]),(12,[1,3,5])]++og 13 4++[(18,[]),(19,[]),(20,[])]))
 (.leaf (og 0 9++[(11,[]),(17,[1,3,5,8,11]),(9,[1,3,5,11]),(10,[]),(12,[1,3,5]),(18,[1,3,5])]++og 13 4++[(19,[]),(20,[])])))
 (.leaf (og 0 9++[(11,[]),(17,[1,3,5,8,11]),(9,[1,3,5,11]),(10,[]),(18,[1,3,5,11]),(12,[1,3,5])]++og 13 4++[(19,[]),(20,[])])))
 (.leaf (og 0 9++[(11,[]),(17,[1,3,5,8,11]),(18,[1,3,5,8,11]),(9,[1,3,5,11]),(10,[]),(12,[1,3,5])]++og 13 4++[(19,[]),(20,[])])))
 (.leaf (og 0 9++[(11,[]),(18,[1,3,5,8,11]),(17,[1,3,5,8,11]),(9,[1,3,5,11]),(10,[]),(12,[1,3,5])]++og 13 4++[(19,[]),(20,[])]))))
def qzaoi:Cd Tryz.prog qty Tryz.f81:=by refine⟨?_,?_⟩;rotate_left;(cbv;try rfl)
def qzavz:IR:=qzaoi.c
theorem qzakn:FnIs Tryz.prog 81 30 [.t 2] qzavz:=fi qty Tryz.func81 Tryz.call81
def qto:Nat->List Nat:=kk [[0],[],(rg 14 14),[29,30],[33],[7,34,35],[37],[],[42,43],([1002900,4]++rg 44 23),[68,69],[70,71],(rg 73 5),([9]++rg 79 5),[84],[85],[87],[88],([1,10]++rg 89 7),([11,12,13]++rg 96 6),[5,103,104],([1002901,1,5]++rg 105 5)]
def qyu:List Nat:=([0]++rg 6 32++rg 41 46++rg 89 21)
def qmn:List (Nat×List Nat):=(og 0 18++[(19,[]),(20,[]),(21,[]),(18,[20]),(22,[]),(23,[])])
def qzw:List (Nat×List Nat):=[(0,[]),(1,[]),(2,[]),(3,[0]),(4,[]),(5,[])]
def qzamb:Cd Tryz.prog qto Tryz.f29:=by refine⟨?_,?_⟩;rotate_left;(cbv;try rfl)
def qzatt:IR:=qzamb.c
theorem quc:FnIs Tryz.prog 29 110 [.t 2] qzatt:=fi qto Tryz.func29 Tryz.call29
def qpa:Nat->List Nat:=kk [[3],[7,8,9,10],[],[14],([1006800]++rg 15 12),[6,27],[],([1006801,4,5]++rg 29 7),[36],[0,37,38]]
def qik:List Nat:=(rg 2 9++rg 13 26)
def qem:Spl:=(.node 8 12
 (.leaf (og 0 15))
 (.leaf (og 0 8++[(12,[3,6,7])]++og 8 4++[(13,[]),(14,[])])))
def qjd:List (Nat×List Nat):=(og 0 8)
def qzafn:Cd Tryz.prog qpa Tryz.f68:=by refine⟨?_,?_⟩;rotate_left;(cbv;try rfl)
def qzama:IR:=qzafn.c
theorem qpf:FnIs Tryz.prog 68 39 [.t 3] qzama:=fi qpa Tryz.func68 Tryz.call68
def qga:Nat->List Nat:=kk [[0,2],[7,8],[],[9],[11,12,13,14],[16],(rg 17 6),[24],[25,26,27],[29],[30],[3,31],[33],([6]++rg 34 6),([1011900,3,5]++rg 40 6),[47],[3,48,49,50,51],[10,53],[54],(rg 56 6),[62,63,64,65],(rg 66 13),([1]++rg 80 8),[4,88]]
def qrk:Cd Tryz.prog qga Tryz.f119:=by refine⟨?_,?_⟩;rotate_left;(cbv;try rfl)
def qwc:IR:=qrk.c
theorem qpo:FnIs Tryz.prog 119 89 [.t 2] qwc:=fi qga Tryz.func119 Tryz.call119
def qeu:Nat->List Nat:=kk [[2,3],[10,11,12],[],[],[],[14,15,16],[18,19],([7]++rg 20 6),([9]++rg 26 7),([6,8]++rg 33 8),[4,41]]
def qiw:List Nat:=([1,2,3]++rg 6 36)
def qot:Cd Tryz.prog qeu Tryz.f172:=by refine⟨?_,?_⟩;rotate_left;(cbv;try rfl)
def qrl:IR:=qot.c
theorem qnc:FnIs Tryz.prog 172 42 [.t 2,.t 3] qrl:=fi qeu Tryz.func172 Tryz.call172
def qkm:Nat->List Nat:=kk [[2],[3],[],[0,5,6,7]]
def qns:IR:=
 (sr [o 2 (.mv (.c (.re (.slice none 0 0))))] [2] (.seq (sr [m 3 0,o 4 (.nilS false (t 3))] [3] (.cond (t 4) (sr [o 2 (.mv (.c (.re (.slice none 0 0))))] [] .ret) .skip)) (sr [o 5 (.buildS 1 0 [(.i .i64 (.l 0))] []),m 6 0,o 7 (.app 1 (t 5) (t 6)),m 2 7] [0,5,6,7] .ret)))
theorem qkq:FnIs Tryz.prog 92 8 [.t 2] qns:=fi qkm Tryz.func92 Tryz.call92
def qkl:Nat->List Nat:=kk [[2],[3],[],[0,5,6,7]]
def qnr:IR:=
 (sr [o 2 (.mv (.c (.re (.slice none 0 0))))] [2] (.seq (sr [m 3 0,o 4 (.nilS false (t 3))] [3] (.cond (t 4) (sr [o 2 (.mv (.c (.re (.slice none 0 0))))] [] .ret) .skip)) (sr [o 5 (.buildS 2 0 [(.s []),(.s [])] []),m 6 0,o 7 (.app 2 (t 5) (t 6)),m 2 7] [0,5,6,7] .ret)))
theorem qkp:FnIs Tryz.prog 91 8 [.t 2] qnr:=fi qkl Tryz.func91 Tryz.call91
def qcz:Nat->List Nat:=kk [[2],[],[],[],[13,14],[5,15,16,17,18],[19],[21],[22],[3,23,24],[0],[],[29,30],[8,31,32,33],[34],[6,35]]
def qin:Cd Tryz.prog qcz Tryz.f221:=by refine⟨?_,?_⟩;rotate_left;(cbv;try rfl)
def qkj:IR:=qin.c
theorem qhf:FnIs Tryz.prog 221 36 [.t 2] qkj:=fi qcz Tryz.func221 Tryz.call221
def kl_turn_Of:Nat->List Nat:=kk [[0,1,4,5],([2,3,6]++rg 9 7),[7,8,16,17]]
def turn_Of:IR:=
 (sr [o 2 (.box (t 0)),o 3 (.box (t 1)),o 4 (.mv (z 0)),o 5 (.mv (.c .ff))] [0,1,4,5] (sr [o 10 (.load true 9 (t 2)),o 11 (.mkF (.func 142) [] [(t 3)]),o 12 (f 141 [(t 10),(t 11)]),m 9 12,ex 13 9 0,ex 14 9 1,ex 15 9 2,m 6 13,m 7 14,m 8 15] ([2,3,6]++rg 9 7) (sr [m 16 7,m 17 8,m 4 16,m 5 17] [7,8,16,17] .ret)))
theorem fn_turn_Of:FnIs Tryz.prog 76 18 [.t 4,.t 5] turn_Of:=fi kl_turn_Of Tryz.func76 Tryz.call76
def qxm:Nat->List Nat:=kk [[8,9,10],[1,11],[],[15,16],([5]++rg 17 8),[26,27],[],[32,33],[7,34,35,36,37],[39],[40]]
def qdw:List Nat:=([1,2]++rg 4 8++rg 14 27)
def qbm:List Nat:=([1,2]++rg 5 7++rg 14 14++rg 31 10)
def qzaqj:Cd Tryz.prog qxm Tryz.f189:=by refine⟨?_,?_⟩;rotate_left;(cbv;try rfl)
def turn_all_1:IR:=qzaqj.c
theorem qfm:FnIs Tryz.prog 189 41 [] turn_all_1:=fi qxm Tryz.func189 Tryz.call189
def qxu:Nat->List Nat:=kk [[2],(rg 3 6),[],[0,10]]
def qzaie:IR:=
 (sr [o 2 (.mv (z 0))] [2] (.seq (sr [m 3 0,o 4 (f 19 [(t 3)]),o 5 (.not (t 4)),m 6 5,mq 7 0 6 false,q 8 (.bin .lt (t 7) (z 0)) 6 false,o 9 (.pick (t 6) (.c .tt) (t 8))] (rg 3 6) (.cond (t 9) (sr [o 2 (.mv (z 0))] [] .ret) .skip)) (sr [m 10 0,m 2 10] [0,10] .ret)))
theorem qyo:FnIs Tryz.prog 93 11 [.t 2] qzaie:=fi qxu Tryz.func93 Tryz.call93
def qjl:Nat->List Nat:=kk [[4,5],[],[10,11,12],[14,15],([8,9]++rg 16 7),[7,23,24],[6,26]]
def qop:List Nat:=([2,3,4,5]++rg 7 20)
def qzd:Cd Tryz.prog qjl Tryz.f122:=by refine⟨?_,?_⟩;rotate_left;(cbv;try rfl)
def qzaei:IR:=qzd.c
theorem qvg:FnIs Tryz.prog 122 27 [.t 4,.t 5] qzaei:=fi qjl Tryz.func122 Tryz.call122
def qzajl:Nat->List Nat:=kk [[3],[1023700,0,1,4,5,6,7]]
def qzaaa:List (Nat×List Nat):=[(0,[]),(2,[]),(1,[2]),(3,[]),(4,[])]
def qzaud:IR:=
 (sr [o 3 (.mv (.c .ff))] [3] (.seq (.draw [m 4 0,o 5 (f 238 [(t 4)]),l1 6 1,o 7 (.bin .gt (t 5) (t 6)),m 3 7] [[],[0],[],[1,2],[3,1,0,1,2,3]] [1023700,0,1,4,5,6,7]) .ret))
theorem qzaki:FnIs Tryz.prog 237 8 [.t 3] qzaud:=fi qzajl Tryz.func237 Tryz.call237
def qzaji:Nat->List Nat:=kk [[0,1,5],([2,3]++rg 6 5)]
def qzats:IR:=
 (sr [o 2 (.box (t 0)),o 3 (.box (t 1)),o 4 (.alloc z0),o 5 (.mv (.c .ff))] [0,1,5] (sr [o 6 (.load true 18 (t 2)),o 7 (.mkF (.func 68) [] [(t 3)]),o 8 (f 40 [(t 6),(t 7)]),ex 9 8 0,ex 10 8 1,u (.store 18 (t 4) (t 9)),m 5 10] ([2,3]++rg 6 5) .ret))
theorem qub:FnIs Tryz.prog 27 11 [.c 4 true 18,.t 5] qzats:=fi qzaji Tryz.func27 Tryz.call27
def qzans:Nat->List Nat:=kk [[0,1,5],([2,3]++rg 6 5)]
def write_Open:IR:=
 (sr [o 2 (.box (t 0)),o 3 (.box (t 1)),o 4 (.alloc z0),o 5 (.mv (.c .ff))] [0,1,5] (sr [o 6 (.load true 18 (t 2)),o 7 (.mkF (.func 57) [] [(t 3)]),o 8 (f 40 [(t 6),(t 7)]),ex 9 8 0,ex 10 8 1,u (.store 18 (t 4) (t 9)),m 5 10] ([2,3]++rg 6 5) .ret))
theorem qdu:FnIs Tryz.prog 22 11 [.c 4 true 18,.t 5] write_Open:=fi qzans Tryz.func22 Tryz.call22
def qdx:Nat->List Nat:=kk [[4],[6,7,8,9],[],[11],[],[15],([1008600,5]++rg 16 8),[],[25]]
def qln:Cd Tryz.prog qdx Tryz.f86:=by refine⟨?_,?_⟩;rotate_left;(cbv;try rfl)
def qnp:IR:=qln.c
theorem qkn:FnIs Tryz.prog 86 26 [.t 4] qnp:=fi qdx Tryz.func86 Tryz.call86
def qzarq:Nat->List Nat:=kk [[0,1,5],([2,3]++rg 6 5)]
def write_Got:IR:=
 (sr [o 2 (.box (t 0)),o 3 (.box (t 1)),o 4 (.alloc z0),o 5 (.mv (.c .ff))] [0,1,5] (sr [o 6 (.load true 18 (t 2)),o 7 (.mkF (.func 41) [] [(t 3)]),o 8 (f 40 [(t 6),(t 7)]),ex 9 8 0,ex 10 8 1,u (.store 18 (t 4) (t 9)),m 5 10] ([2,3]++rg 6 5) .ret))
theorem qzacv:FnIs Tryz.prog 11 11 [.c 4 true 18,.t 5] write_Got:=fi qzarq Tryz.func11 Tryz.call11
def qzarp:Nat->List Nat:=kk [[0,1,5],([2,3]++rg 6 5)]
def write_Put:IR:=
 (sr [o 2 (.box (t 0)),o 3 (.box (t 1)),o 4 (.alloc z0),o 5 (.mv (.c .ff))] [0,1,5] (sr [o 6 (.load true 18 (t 2)),o 7 (.mkF (.func 43) [] [(t 3)]),o 8 (f 40 [(t 6),(t 7)]),ex 9 8 0,ex 10 8 1,u (.store 18 (t 4) (t 9)),m 5 10] ([2,3]++rg 6 5) .ret))
theorem qqs:FnIs Tryz.prog 12 11 [.c 4 true 18,.t 5] write_Put:=fi qzarp Tryz.func12 Tryz.call12
def qsn:Nat->List Nat:=kk [[4],([0,1]++rg 5 7)]
def qzabp:IR:=
 (sr [o 4 (.mv (z 0))] [4] (sr [m 5 0,m 6 1,o 7 (.bin .mul (z 7) (t 6)),o 8 (.cv .u64 (t 7)),o 9 (.bin .shr (t 5) (t 8)),o 10 (.bin .and (t 9) (.c (.i .u64 (.l 127)))),o 11 (.cv .i64 (t 10)),m 4 11] ([0,1]++rg 5 7) .ret))
theorem qsy:FnIs Tryz.prog 232 12 [.t 4] qzabp:=fi qsn Tryz.func232 Tryz.call232
def qzahg:Nat->List Nat:=kk [[0],[6,7],[],[1,9],[11],[12],[13,14],[15],[17,18],([1010800]++rg 19 7),[26]]
def qls:List (Nat×List Nat):=(og 0 5++[(5,[0]),(6,[]),(7,[])])
def head_Put_c:Cd Tryz.prog qzahg Tryz.f108:=by refine⟨?_,?_⟩;rotate_left;(cbv;try rfl)
def head_Put:IR:=head_Put_c.c
theorem quy:FnIs Tryz.prog 108 27 [.c 2 false 1,.t 3] head_Put:=fi qzahg Tryz.func108 Tryz.call108
def qzars:Nat->List Nat:=kk [[2],[3,4],[],[0,6,7,8]]
def word_Many:IR:=
 (sr [o 2 (.mv (z 0))] [2] (.seq (sr [m 3 0,o 4 (f 137 [(t 3)]),o 5 (.not (t 4))] [3,4] (.cond (t 5) (sr [o 2 (.mv (z 0))] [] .ret) .skip)) (sr [m 6 0,o 7 (.bin .shr (t 6) (.c (.i .u64 (.l 60)))),o 8 (.cv .i64 (t 7)),m 2 8] [0,6,7,8] .ret)))
theorem qzast:FnIs Tryz.prog 235 9 [.t 2] word_Many:=fi qzars Tryz.func235 Tryz.call235
def qfh:Nat->List Nat:=kk [[0,4],(rg 5 12),[],[18,19,20],[2,22,23],([1,2]++rg 24 9)]
def qpq:Cd Tryz.prog qfh Tryz.f33:=by refine⟨?_,?_⟩;rotate_left;(cbv;try rfl)
def qtf:IR:=qpq.c
theorem qoi:FnIs Tryz.prog 33 33 [.t 4] qtf:=fi qfh Tryz.func33 Tryz.call33
def qzahh:Nat->List Nat:=kk [[4],([0,1]++rg 6 7),[5,13,14]]
def qzask:IR:=
 (sr [o 4 (.mv (.c (.i .u32 (.l 0))))] [4] (sr [m 8 0,m 9 1,o 10 (f 250 [(t 8),(t 9),(z 4)]),m 7 10,ex 11 7 0,ex 12 7 1,m 5 11,m 6 12] ([0,1]++rg 6 7) (sr [m 13 5,o 14 (.cv .u32 (t 13)),m 4 14] [5,13,14] .ret)))
theorem qrd:FnIs Tryz.prog 209 15 [.t 4] qzask:=fi qzahh Tryz.func209 Tryz.call209
def qso:Nat->List Nat:=kk [[],[0,3,4]]
def qzabx:IR:=
 (sr [o 2 (.alloc [.ff,(.i .i64 (.l 0)),(.i .u32 (.l 0))])] [] (sr [m 3 0,o 4 (.build [.ff,(.i .i64 (.l 0)),(.i .u32 (.l 0))] [(0,1,(.c .tt)),(2,1,(t 3))]),u (.store 3 (t 2) (t 4))] [0,3,4] .ret))
theorem qtc:FnIs Tryz.prog 113 5 [.c 2 true 3] qzabx:=fi qso Tryz.func113 Tryz.call113
def qld:Nat->List Nat:=kk [[4,5],(rg 8 17),[],[26,27],[1,28,29],[30],[32,33],(rg 34 6),[40,41],[6,42]]
def qzacc:Cd Tryz.prog qld Tryz.f178:=by refine⟨?_,?_⟩;rotate_left;(cbv;try rfl)
def qzaij:IR:=qzacc.c
theorem qfq:FnIs Tryz.prog 178 43 [.t 4,.t 5] qzaij:=fi qld Tryz.func178 Tryz.call178
def qoy:Nat->List Nat:=kk [[1],[],[9,10],([4]++rg 11 8),[20]]
def qcj:List Nat:=([1,2,3,4]++rg 8 13)
def qzafk:Cd Tryz.prog qoy Tryz.f109:=by refine⟨?_,?_⟩;rotate_left;(cbv;try rfl)
def qzalu:IR:=qzafk.c
theorem qel:FnIs Tryz.prog 109 21 [] qzalu:=fi qoy Tryz.func109 Tryz.call109
def qxq:Nat->List Nat:=kk [[6,7],[],[],(rg 11 6),[],(rg 18 11),([0,1,2]++rg 30 5),[],[39,40],([10]++rg 41 5),[46],[8,47,48],[49]]
def qzarl:Cd Tryz.prog qxq Tryz.f250:=by refine⟨?_,?_⟩;rotate_left;(cbv;try rfl)
def octet_Take:IR:=qzarl.c
theorem qyl:FnIs Tryz.prog 250 50 [.t 6,.t 7] octet_Take:=fi qxq Tryz.func250 Tryz.call250
def qzanu:Nat->List Nat:=kk [[2],[3,4],[],[0,6]]
def window_Can:IR:=
 (sr [o 2 (.mv (z 0))] [2] (.seq (sr [m 3 0,o 4 (.bin .shr (t 3) (.c (.i .u64 (.l 31)))),o 5 (.bin .ne (t 4) (z 0))] [3,4] (.cond (t 5) (sr [o 2 (.mv (z 0))] [] .ret) .skip)) (sr [m 6 0,m 2 6] [0,6] .ret)))
theorem qzaop:FnIs Tryz.prog 157 7 [.t 2] window_Can:=fi qzanu Tryz.func157 Tryz.call157
def qzajw:Nat->List Nat:=kk [[],[0,3,4]]
def qzavy:IR:=
 (sr [o 2 (.alloc [.ff,(.i .i64 (.l 0)),(.i .u32 (.l 0))])] [] (sr [m 3 0,o 4 (.build [.ff,(.i .i64 (.l 0)),(.i .u32 (.l 0))] [(0,1,(.c .tt)),(2,1,(t 3))]),u (.store 3 (t 2) (t 4))] [0,3,4] .ret))
theorem qgm:FnIs Tryz.prog 191 5 [.c 2 true 3] qzavy:=fi qzajw Tryz.func191 Tryz.call191
def qxw:Nat->List Nat:=kk [[0,4],([1,2]++rg 5 6)]
def qzaii:IR:=
 (sr [o 2 (.box (t 0)),o 4 (.mv (.c .ff))] [0,4] (sr [fd 5 2 2,l1 6 5,m 7 1,o 8 (.bin .and (t 6) (t 7)),m 9 1,o 10 (.bin .eq (t 8) (t 9)),m 4 10] ([1,2]++rg 5 6) .ret))
theorem qli:FnIs Tryz.prog 254 11 [.t 4] qzaii:=fi qxw Tryz.func254 Tryz.call254
def qtv:Nat->List Nat:=kk [[0],[4,5],[6,7],[9],[10],(rg 11 7),[19,20],([1]++rg 21 6),[27,28]]
def qzamt:Cd Tryz.prog qtv Tryz.f155:=by refine⟨?_,?_⟩;rotate_left;(cbv;try rfl)
def qzauv:IR:=qzamt.c
theorem qma:FnIs Tryz.prog 155 29 [.c 2 true 11,.t 3] qzauv:=fi qtv Tryz.func155 Tryz.call155
def qxj:Nat->List Nat:=kk [[],[],[9,10],([5]++rg 11 9),[0,21],[24],[25,26,27],(rg 28 15),([3,4,7,8]++rg 44 6)]
def qzapx:Cd Tryz.prog qxj Tryz.f137:=by refine⟨?_,?_⟩;rotate_left;(cbv;try rfl)
def word_Right:IR:=qzapx.c
theorem qyh:FnIs Tryz.prog 137 50 [.t 2] word_Right:=fi qxj Tryz.func137 Tryz.call137
def qzavq:Nat->List Nat:=kk [[0,4],[1,2,5,6,7,8,9]]
def head_Has:IR:=
 (sr [o 2 (.box (t 0)),o 4 (.mv (.c .ff))] [0,4] (sr [m 5 1,fd 6 2 2,l1 7 6,o 8 (.bin .andn (t 5) (t 7)),o 9 (.bin .eq (t 8) (.c (.i .u8 (.l 0)))),m 4 9] [1,2,5,6,7,8,9] .ret))
theorem qzahs:FnIs Tryz.prog 213 10 [.t 4] head_Has:=fi qzavq Tryz.func213 Tryz.call213
def qzact:Nat->List Nat:=kk [[4,5],(rg 8 13),[],[22,23],[24],[],[28],([7]++rg 29 11),[40],[6,41]]
def qzavm:Cd Tryz.prog qzact Tryz.f251:=by refine⟨?_,?_⟩;rotate_left;(cbv;try rfl)
def octet_Put:IR:=qzavm.c
theorem qzacx:FnIs Tryz.prog 251 42 [.t 4,.t 5] octet_Put:=fi qzact Tryz.func251 Tryz.call251
def qpc:Nat->List Nat:=kk [[1],[],[9,10],[4,11,12,13],[15]]
def qzafq:Cd Tryz.prog qpc Tryz.f198:=by refine⟨?_,?_⟩;rotate_left;(cbv;try rfl)
def qzamh:IR:=qzafq.c
theorem qzadv:FnIs Tryz.prog 198 16 [] qzamh:=fi qpc Tryz.func198 Tryz.call198
def qxf:Nat->List Nat:=kk [[0,7],[1,2,9,10,11],([3,8]++rg 12 5)]
def qzapn:Cd Tryz.prog qxf Tryz.f25:=by refine⟨?_,?_⟩;rotate_left;(cbv;try rfl)
def write_Shut:IR:=qzapn.c
theorem qoe:FnIs Tryz.prog 25 17 [.c 6 true 18,.t 7] write_Shut:=fi qxf Tryz.func25 Tryz.call25
def qzagy:Nat->List Nat:=kk [[0,3],[1,2,4,5,6,7]]
def qzapk:IR:=
 (sr [o 2 (.box (t 0)),o 3 (.mv (.c .ff))] [0,3] (sr [fd 4 10 2,l1 5 4,l1 6 1,o 7 (.bin .eq (t 5) (t 6)),m 3 7] [1,2,4,5,6,7] .ret))
theorem qbo:FnIs Tryz.prog 100 8 [.t 3] qzapk:=fi qzagy Tryz.func100 Tryz.call100
def qzajr:Nat->List Nat:=kk [[3],[1,4,5]]
def qzauo:IR:=
 (sr [o 3 (.mv (.c .ff))] [3] (sr [l1 4 1,o 5 (.bin .add (t 4) (z 1)),u (.store 1 (t 1) (t 5))] [1,4,5] (sr [o 3 (.mv (.c .ff))] [] .ret)))
theorem qly:FnIs Tryz.prog 143 6 [.t 3] qzauo:=fi qzajr Tryz.func143 Tryz.call143
def qzadp:Nat->List Nat:=kk [[0,3,5],[1,2,6,7,8]]
def qzaoc:IR:=
 (sr [o 3 (.box (t 0)),o 5 (.mv (.c .ff))] [0,3,5] (sr [m 6 1,l1 7 2,o 8 (.bin .ge (t 6) (t 7)),m 5 8] [1,2,6,7,8] .ret))
theorem qzadx:FnIs Tryz.prog 228 9 [.t 5] qzaoc:=fi qzadp Tryz.func228 Tryz.call228
def qzajp:Nat->List Nat:=kk [[2],[0,3,4,5]]
def qzauj:IR:=
 (sr [o 2 (.mv (.c .ff))] [2] (sr [m 3 0,o 4 (.bin .shr (t 3) (.c (.i .u64 (.l 3)))),o 5 (.bin .eq (t 4) (z 0)),m 2 5] [0,3,4,5] .ret))
theorem qdb:FnIs Tryz.prog 138 6 [.t 2] qzauj:=fi qzajp Tryz.func138 Tryz.call138
def qzanr:Nat->List Nat:=kk [[0,3],[1,2,4,5,6,7]]
def write_at_1:IR:=
 (sr [o 2 (.box (t 0)),o 3 (.mv (.c .ff))] [0,3] (sr [fd 4 0 2,l1 5 4,l1 6 1,o 7 (.bin .eq (t 5) (t 6)),m 3 7] [1,2,4,5,6,7] .ret))
theorem qzaol:FnIs Tryz.prog 131 8 [.t 3] write_at_1:=fi qzanr Tryz.func131 Tryz.call131
def qqn:Nat->List Nat:=kk [([0,1]++rg 3 26)]
def qzajz:Cd Tryz.prog qqn Tryz.f229:=by refine⟨?_,?_⟩;rotate_left;(cbv;try rfl)
def qzary:IR:=qzajz.c
theorem qjy:FnIs Tryz.prog 229 29 [] qzary:=fi qqn Tryz.func229 Tryz.call229
def qzadm:Nat->List Nat:=kk [[0,2],[1,3]]
def qzalv:IR:=
 (sr [o 1 (.box (t 0)),o 2 (.mv (.c (.re .nilFunc)))] [0,2] (sr [o 3 (.mkF (.func 140) [] [(t 1)]),m 2 3] [1,3] .ret))
theorem qhd:FnIs Tryz.prog 75 4 [.t 2] qzalv:=fi qzadm Tryz.func75 Tryz.call75
def qzahe:Nat->List Nat:=kk [[],[],[],[4],[1,5,6,7],[8],[9]]
def turn_New_c:Cd Tryz.prog qzahe Tryz.f63:=by refine⟨?_,?_⟩;rotate_left;(cbv;try rfl)
def turn_New:IR:=turn_New_c.c
theorem qzawd:FnIs Tryz.prog 63 10 [.c 0 true 9] turn_New:=fi qzahe Tryz.func63 Tryz.call63
def qzanz:Nat->List Nat:=kk [[0,2],[1,3]]
def frame_just:IR:=
 (sr [o 1 (.box (t 0)),o 2 (.mv (.c (.re .nilFunc)))] [0,2] (sr [o 3 (.mkF (.func 249) [] [(t 1)]),m 2 3] [1,3] .ret))
theorem qfo:FnIs Tryz.prog 207 4 [.t 2] frame_just:=fi qzanz Tryz.func207 Tryz.call207
def qzajq:Nat->List Nat:=kk [[2]]
def qzaun:IR:=
 (sr [o 2 (.mv (.c .ff))] [2] (sr [o 2 (.mv (.c .tt))] [] .ret))
theorem qug:FnIs Tryz.prog 197 3 [.t 2] qzaun:=fi qzajq Tryz.func197 Tryz.call197
end I
end Cz
