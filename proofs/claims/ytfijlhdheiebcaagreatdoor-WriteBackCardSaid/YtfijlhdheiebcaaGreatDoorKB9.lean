/- What the claims of this group lean on: CzR4. No condition. -/
import Derived.Test.YtfijlhdheiebcaaGreatDoorKB4
set_option maxRecDepth 100000
set_option maxHeartbeats 4000000
namespace Cz
open Go Go.RowKit Go.Proofs
namespace I
def qzaxy:Nat->List Nat:=kk [[0,1,7],[14,15,16,17],[18],([2]++rg 20 6),[10,26],[3,28],[8,29,30],[9,31,32],([4]++rg 33 6),(rg 40 7),[13,47],[3,49],[50],[11,51,52],[12,53,54],[3,55]]
def qzayo:IR:=
 (sr [o 3 (.box (t 0)),o 4 (.box (t 1)),o 6 (.alloc z5),o 7 (.mv (.c .ff))] [0,1,7] (sr [o 14 (.buildS 1 0 [(.i .u8 (.l 0))] []),m 15 2,o 16 (.app 1 (t 14) (t 15)),fd 17 3 3,u (.store 1 (t 17) (t 16))] [14,15,16,17] (.seq (sr [o 18 (.load true 4 (t 4)),o 19 (f 236 [(t 18),(.c (.i .u8 (.l 8)))])] [18] (.cond (t 19) (sr [m 21 2,o 22 (f 237 [(t 21)]),m 20 22,ex 23 20 0,ex 24 20 1,ex 25 20 2,m 8 23,m 9 24,m 10 25] ([2]++rg 20 6) (.seq (sr [m 26 10,o 27 (.bin .ne (t 26) (z 0))] [10,26] (.cond (t 27) (sr [o 28 (.load true 13 (t 3)),u (.store 13 (t 6) (t 28)),o 7 (.mv (.c .ff))] [3,28] .ret) .skip)) (sr [m 29 8,fd 30 3 3,u (.store 1 (t 30) (t 29))] [8,29,30] (.reg [m 31 9,fd 32 4 3,u (.store 1 (t 32) (t 31))] [9,31,32])))) .skip)) (.seq (sr [fd 33 1 4,l1 34 33,o 35 (.bin .eq (t 34) (.c (.i .u8 (.l 1)))),m 36 35,q 37 (.load true 4 (t 4)) 36 true,q 38 (f 236 [(t 37),(.c (.i .u8 (.l 32)))]) 36 true,o 39 (.pick (t 36) (t 38) (.c .ff))] ([4]++rg 33 6) (.cond (t 39) (sr [fd 41 3 3,l1 42 41,o 43 (f 176 [(t 42)]),m 40 43,ex 44 40 0,ex 45 40 1,ex 46 40 2,o 11 (.alloc [.ff,(.i .i64 (.l 0)),(.i .u8 (.l 0))]),u (.store 3 (t 11) (t 44)),m 12 45,m 13 46] (rg 40 7) (.seq (sr [m 47 13,o 48 (.bin .ne (t 47) (z 0))] [13,47] (.cond (t 48) (sr [o 49 (.load true 13 (t 3)),u (.store 13 (t 6) (t 49)),o 7 (.mv (.c .ff))] [3,49] .ret) .skip)) (sr [fd 50 9 3,u (.store 1 (t 50) (.c .tt))] [50] (sr [o 51 (.load true 3 (t 11)),fd 52 10 3,u (.store 3 (t 52) (t 51))] [11,51,52] (.reg [m 53 12,fd 54 3 3,u (.store 1 (t 54) (t 53))] [12,53,54]))))) .skip)) (sr [o 55 (.load true 13 (t 3)),u (.store 13 (t 6) (t 55)),o 7 (.mv (.c .tt))] [3,55] .ret)))))
theorem qzaya:FnIs Tryz.prog 175 56 [.c 6 true 13,.t 7] qzayo:=fi qzaxy Tryz.func175 Tryz.call175
def qzaxi:Nat->List Nat:=kk [[3,4],[7,8],[10],([6]++rg 11 5),([1017600,0,5]++rg 16 12)]
def qzaxb:List (Nat×List Nat):=(og 0 8++[(9,[]),(10,[]),(8,[6]),(11,[6]),(12,[]),(13,[]),(14,[])])
def qzaxx:IR:=
 (sr [o 2 (.alloc [.ff,(.i .i64 (.l 0)),(.i .u8 (.l 0))]),o 3 (.mv (.c (.re (.slice none 0 0)))),o 4 (.mv (z 0))] [3,4] (.seq (sr [m 7 0,o 8 (.len false (t 7)),o 9 (.bin .lt (t 8) (z 5))] [7,8] (.cond (t 9) (sr [o 10 (.build [.ff,(.i .i64 (.l 0)),(.i .u8 (.l 0))] []),u (.store 3 (t 2) (t 10)),o 3 (.mv (.c (.re (.slice none 0 0)))),o 4 (.mv (z 10))] [10] .ret) .skip)) (sr [m 12 0,o 13 (f 170 [(t 12),(z 0),(z 4)]),m 11 13,ex 14 11 0,ex 15 11 1,m 5 14,m 6 15] ([6]++rg 11 5) (.seq (.draw [m 16 5,o 17 (.bin .ge (t 16) (z 2147483648)),m 18 5,o 19 (.bin .rem (t 18) (z 2147483648)),m 20 0,o 21 (.iadS 1 (t 20) (z 4)),l1 22 21,o 23 (.build [.ff,(.i .i64 (.l 0)),(.i .u8 (.l 0))] [(0,1,(t 17)),(1,1,(t 19)),(2,1,(t 22))]),o 24 (.buildS 1 0 [(.i .u8 (.l 0))] []),m 25 0,o 26 (.slc 1 (t 25) (some (z 5)) none none),o 27 (.app 1 (t 24) (t 26)),u (.store 3 (t 2) (t 23)),m 3 27,o 4 (.mv (z 0))] [[],[0],[],[2],[],[4],[5],[1,3,6],[],[],[9],[8,10],([7,11]++rg 0 8),([11,12]++rg 0 13),([13]++rg 0 14)] ([1017600,0,5]++rg 16 12)) .ret))))
theorem qzaxj:FnIs Tryz.prog 176 28 [.c 2 true 3,.t 3,.t 4] qzaxx:=fi qzaxi Tryz.func176 Tryz.call176
def qzaxl:Nat->List Nat:=kk [[0,2,3],(rg 7 7),[],[15,16],[17],[19,20],([4,6]++rg 21 5),([1,5]++rg 26 5)]
def qzayc:IR:=
 (sr [o 1 (.box (t 0)),o 2 (.mv (.c (.re (.slice none 0 0)))),o 3 (.mv (z 0))] [0,2,3] (.seq (sr [fd 7 1 1,l1 8 7,o 9 (.bin .lt (t 8) (z 0)),m 10 9,fq 11 1 1 10 false,lq 12 11 10 false,q 13 (.bin .ge (t 12) (z 2147483648)) 10 false,o 14 (.pick (t 10) (.c .tt) (t 13))] (rg 7 7) (.cond (t 14) (sr [o 2 (.mv (.c (.re (.slice none 0 0)))),o 3 (.mv (z 2))] [] .ret) .skip)) (sr [fd 15 1 1,l1 16 15,m 4 16] [15,16] (.seq (sr [fd 17 0 1,l1 18 17] [17] (.cond (t 18) (.reg [m 19 4,o 20 (.bin .add (t 19) (z 2147483648)),m 4 20] [19,20]) .skip)) (sr [m 22 4,o 23 (f 184 [(t 22),(z 4)]),m 21 23,ex 24 21 0,ex 25 21 1,m 5 24,m 6 25] ([4,6]++rg 21 5) (sr [m 26 5,fd 27 2 1,l1 28 27,o 29 (.buildS 1 1 [(.i .u8 (.l 0))] [(0,(t 28))]),o 30 (.app 1 (t 26) (t 29)),m 2 30,o 3 (.mv (z 0))] ([1,5]++rg 26 5) .ret))))))
theorem qzaxm:FnIs Tryz.prog 182 31 [.t 2,.t 3] qzayc:=fi qzaxl Tryz.func182 Tryz.call182
def qxe:Nat->List Nat:=kk [[0,7,9],[],[12,13],[3,14,15],[17,18,19],[21,22,23,24],[25,26,27,28],([11]++rg 29 5),[34,35],([1001300,10]++rg 37 12),[49],([1,2]++rg 51 6),[9],(rg 58 5),([1001301,10]++rg 63 13),[76,77,78]]
def qzaaz:List Nat:=([0,3,4,5,7,9]++rg 11 68)
def qzadl:List (Nat×List Nat):=([(0,[])]++og 2 10++[(1,[4,6,8,10]),(12,[4,6,8,10]),(13,[4,6,8,10]),(14,[]),(15,[])])
def qzadk:List (Nat×List Nat):=([(0,[])]++og 2 11++[(1,[4,6,8,10]),(13,[4,6,8,10]),(14,[4,6,8,10]),(15,[]),(16,[])])
def qzapm:Cd Tryz.prog qxe Tryz.f13:=by refine⟨?_,?_⟩;rotate_left;(cbv;try rfl)
def write_Step:IR:=qzapm.c
theorem qzaom:FnIs Tryz.prog 13 79 [.c 6 true 18,.t 7,.c 8 true 4,.t 9] write_Step:=fi qxe Tryz.func13 Tryz.call13
def qga:Nat->List Nat:=kk [[0,2],[7,8],[],[9],[11,12,13,14],[16],(rg 17 6),[24],[25,26,27],[29],[30],[3,31],[33],([6]++rg 34 6),([1012500,3,5]++rg 40 6),[47],[3,48,49,50,51],[10,53],[54],(rg 56 6),[62,63,64,65],(rg 66 13),([1]++rg 80 8),[4,88]]
def qzaxc:List (Nat×List Nat):=[(0,[]),(1,[]),(3,[]),(4,[]),(2,[4]),(5,[]),(6,[])]
def qrk:Cd Tryz.prog qga Tryz.f125:=by refine⟨?_,?_⟩;rotate_left;(cbv;try rfl)
def qwc:IR:=qrk.c
theorem qpo:FnIs Tryz.prog 125 89 [.t 2] qwc:=fi qga Tryz.func125 Tryz.call125
def qhp:Nat->List Nat:=kk [[0,2],(rg 6 20),[],[],[],[27,28,29,30],[32,33],(rg 34 5),[],(rg 40 9),[],[49,50,51,52],[54,55],(rg 56 5),[],[3,62,63]]
def qng:List Nat:=([0,2,4]++rg 6 58)
def qnf:List Nat:=([0,2]++rg 5 59)
def qvu:Cd Tryz.prog qhp Tryz.f7:=by refine⟨?_,?_⟩;rotate_left;(cbv;try rfl)
def qzabj:IR:=qvu.c
theorem qst:FnIs Tryz.prog 7 64 [.t 2] qzabj:=fi qhp Tryz.func7 Tryz.call7
def qdk:Nat->List Nat:=kk [[6],(rg 8 6),[14,15],[0,17],[18,19],([1014100,1,2]++rg 20 7),([7]++rg 27 5),[0,32]]
def qgf:List (Nat×List Nat):=(og 0 8)
def qjc:Cd Tryz.prog qdk Tryz.f141:=by refine⟨?_,?_⟩;rotate_left;(cbv;try rfl)
def qlq:IR:=qjc.c
theorem qiu:FnIs Tryz.prog 141 33 [.t 6] qlq:=fi qdk Tryz.func141 Tryz.call141
def qlu:Nat->List Nat:=kk [[2],[3],[],[0,5,6,7]]
def qpj:IR:=
 (sr [o 2 (.mv (.c (.re (.slice none 0 0))))] [2] (.seq (sr [m 3 0,o 4 (.nilS false (t 3))] [3] (.cond (t 4) (sr [o 2 (.mv (.c (.re (.slice none 0 0))))] [] .ret) .skip)) (sr [o 5 (.buildS 2 0 [(.i .u16 (.l 0)),(.i .u32 (.l 0))] []),m 6 0,o 7 (.app 2 (t 5) (t 6)),m 2 7] [0,5,6,7] .ret)))
theorem qmb:FnIs Tryz.prog 116 8 [.t 2] qpj:=fi qlu Tryz.func116 Tryz.call116
def qhu:Nat->List Nat:=kk [[0,2],[],[],(rg 5 8),[14,15],([1002300]++rg 16 17),([1,3]++rg 33 8)]
def qnk:List Nat:=([0,2]++rg 5 36)
def qnw:List (Nat×List Nat):=(og 0 18)
def qwa:Cd Tryz.prog qhu Tryz.f23:=by refine⟨?_,?_⟩;rotate_left;(cbv;try rfl)
def qzabr:IR:=qwa.c
theorem qta:FnIs Tryz.prog 23 41 [.t 2] qzabr:=fi qhu Tryz.func23 Tryz.call23
def qkl:Nat->List Nat:=kk [[2],[3],[],[0,5,6,7]]
def qnr:IR:=
 (sr [o 2 (.mv (.c (.re (.slice none 0 0))))] [2] (.seq (sr [m 3 0,o 4 (.nilS false (t 3))] [3] (.cond (t 4) (sr [o 2 (.mv (.c (.re (.slice none 0 0))))] [] .ret) .skip)) (sr [o 5 (.buildS 2 0 [(.s []),(.s [])] []),m 6 0,o 7 (.app 2 (t 5) (t 6)),m 2 7] [0,5,6,7] .ret)))
theorem qkp:FnIs Tryz.prog 98 8 [.t 2] qnr:=fi qkl Tryz.func98 Tryz.call98
def qcz:Nat->List Nat:=kk [[2],[],[],[],[13,14],[5,15,16,17,18],[19],[21],[22],[3,23,24],[0],[],[29,30],[8,31,32,33],[34],[6,35]]
def qin:Cd Tryz.prog qcz Tryz.f227:=by refine⟨?_,?_⟩;rotate_left;(cbv;try rfl)
def qkj:IR:=qin.c
theorem qhf:FnIs Tryz.prog 227 36 [.t 2] qkj:=fi qcz Tryz.func227 Tryz.call227
def kl_turn_Of:Nat->List Nat:=kk [[0,1,4,5],([2,3,6]++rg 9 7),[7,8,16,17]]
def turn_Of:IR:=
 (sr [o 2 (.box (t 0)),o 3 (.box (t 1)),o 4 (.mv (z 0)),o 5 (.mv (.c .ff))] [0,1,4,5] (sr [o 10 (.load true 9 (t 2)),o 11 (.mkF (.func 148) [] [(t 3)]),o 12 (f 147 [(t 10),(t 11)]),m 9 12,ex 13 9 0,ex 14 9 1,ex 15 9 2,m 6 13,m 7 14,m 8 15] ([2,3,6]++rg 9 7) (sr [m 16 7,m 17 8,m 4 16,m 5 17] [7,8,16,17] .ret)))
theorem fn_turn_Of:FnIs Tryz.prog 83 18 [.t 4,.t 5] turn_Of:=fi kl_turn_Of Tryz.func83 Tryz.call83
def qxm:Nat->List Nat:=kk [[8,9,10],[1,11],[],[15,16],([5]++rg 17 8),[26,27],[],[32,33],[7,34,35,36,37],[39],[40]]
def qdw:List Nat:=([1,2]++rg 4 8++rg 14 27)
def qbm:List Nat:=([1,2]++rg 5 7++rg 14 14++rg 31 10)
def qzaqj:Cd Tryz.prog qxm Tryz.f195:=by refine⟨?_,?_⟩;rotate_left;(cbv;try rfl)
def turn_all_1:IR:=qzaqj.c
theorem qfm:FnIs Tryz.prog 195 41 [] turn_all_1:=fi qxm Tryz.func195 Tryz.call195
def qdj:Nat->List Nat:=kk [[6],[10,11,12,13],[],[0],[],[19,20,21],[7,22,23,24,25],[8,9,26,27,28,29],[],[31]]
def qjb:Cd Tryz.prog qdj Tryz.f89:=by refine⟨?_,?_⟩;rotate_left;(cbv;try rfl)
def qlp:IR:=qjb.c
theorem qdl:FnIs Tryz.prog 89 32 [.t 6] qlp:=fi qdj Tryz.func89 Tryz.call89
def qzans:Nat->List Nat:=kk [[0,1,5],([2,3]++rg 6 5)]
def write_Open:IR:=
 (sr [o 2 (.box (t 0)),o 3 (.box (t 1)),o 4 (.alloc z0),o 5 (.mv (.c .ff))] [0,1,5] (sr [o 6 (.load true 18 (t 2)),o 7 (.mkF (.func 65) [] [(t 3)]),o 8 (f 47 [(t 6),(t 7)]),ex 9 8 0,ex 10 8 1,u (.store 18 (t 4) (t 9)),m 5 10] ([2,3]++rg 6 5) .ret))
theorem qdu:FnIs Tryz.prog 30 11 [.c 4 true 18,.t 5] write_Open:=fi qzans Tryz.func30 Tryz.call30
def qxd:Nat->List Nat:=kk [[],[6],(rg 8 7),([0]++rg 15 10),([1]++rg 25 5),[30],([1010200,0,5]++rg 32 17),[49]]
def qzadj:List (Nat×List Nat):=(og 0 12++[(12,[3])]++og 13 6)
def qzapl:Cd Tryz.prog qxd Tryz.f102:=by refine⟨?_,?_⟩;rotate_left;(cbv;try rfl)
def write_back:IR:=qzapl.c
theorem qod:FnIs Tryz.prog 102 50 [.t 4] write_back:=fi qxd Tryz.func102 Tryz.call102
def qut:Nat->List Nat:=kk [[2],[3,4],[],[0,6,7,8]]
def qzaeh:IR:=
 (sr [o 2 (.mv (z 0))] [2] (.seq (sr [m 3 0,o 4 (f 127 [(t 3)]),o 5 (.not (t 4))] [3,4] (.cond (t 5) (sr [o 2 (.mv (z 0))] [] .ret) .skip)) (sr [m 6 0,o 7 (f 187 [(t 6)]),o 8 (.len false (t 7)),m 2 8] [0,6,7,8] .ret)))
theorem qvf:FnIs Tryz.prog 189 9 [.t 2] qzaeh:=fi qut Tryz.func189 Tryz.call189
def qjm:Nat->List Nat:=kk [[2],[],[],[5,6,7],[9,10],(rg 11 7),[3,18]]
def qoq:List Nat:=([1,2]++rg 5 14)
def qze:Cd Tryz.prog qjm Tryz.f58:=by refine⟨?_,?_⟩;rotate_left;(cbv;try rfl)
def qzaek:IR:=qze.c
theorem qvh:FnIs Tryz.prog 58 19 [.t 2] qzaek:=fi qjm Tryz.func58 Tryz.call58
def qzars:Nat->List Nat:=kk [[2],[3,4],[],[0,6,7,8]]
def word_Many:IR:=
 (sr [o 2 (.mv (z 0))] [2] (.seq (sr [m 3 0,o 4 (f 143 [(t 3)]),o 5 (.not (t 4))] [3,4] (.cond (t 5) (sr [o 2 (.mv (z 0))] [] .ret) .skip)) (sr [m 6 0,o 7 (.bin .shr (t 6) (.c (.i .u64 (.l 60)))),o 8 (.cv .i64 (t 7)),m 2 8] [0,6,7,8] .ret)))
theorem qzast:FnIs Tryz.prog 241 9 [.t 2] word_Many:=fi qzars Tryz.func241 Tryz.call241
def qfh:Nat->List Nat:=kk [[0,4],(rg 5 12),[],[18,19,20],[2,22,23],([1,2]++rg 24 9)]
def qpq:Cd Tryz.prog qfh Tryz.f17:=by refine⟨?_,?_⟩;rotate_left;(cbv;try rfl)
def qtf:IR:=qpq.c
theorem qoi:FnIs Tryz.prog 17 33 [.t 4] qtf:=fi qfh Tryz.func17 Tryz.call17
def qso:Nat->List Nat:=kk [[],[0,3,4]]
def qzabx:IR:=
 (sr [o 2 (.alloc [.ff,(.i .i64 (.l 0)),(.i .u32 (.l 0))])] [] (sr [m 3 0,o 4 (.build [.ff,(.i .i64 (.l 0)),(.i .u32 (.l 0))] [(0,1,(.c .tt)),(2,1,(t 3))]),u (.store 3 (t 2) (t 4))] [0,3,4] .ret))
theorem qtc:FnIs Tryz.prog 119 5 [.c 2 true 3] qzabx:=fi qso Tryz.func119 Tryz.call119
def qmy:Nat->List Nat:=kk [[0,4,5],[9,10],[],[12,13,14],[15],[6,17],([1]++rg 18 7),[8,25],[],([2,7]++rg 27 8),[6,35]]
def qzaed:Cd Tryz.prog qmy Tryz.f64:=by refine⟨?_,?_⟩;rotate_left;(cbv;try rfl)
def qzako:IR:=qzaed.c
theorem qzaar:FnIs Tryz.prog 64 36 [.t 4,.t 5] qzako:=fi qmy Tryz.func64 Tryz.call64
def qqq:Nat->List Nat:=kk [[2],([0]++rg 3 6)]
def qyz:IR:=
 (sr [o 2 (.mv (.c .ff))] [2] (sr [m 3 0,o 4 (.bin .ge (t 3) (z 0)),m 5 4,mq 6 0 5 true,q 7 (.bin .lt (t 6) (z 8)) 5 true,o 8 (.pick (t 5) (t 7) (.c .ff)),m 2 8] ([0]++rg 3 6) .ret))
theorem qgw:FnIs Tryz.prog 129 9 [.t 2] qyz:=fi qqq Tryz.func129 Tryz.call129
def qzado:Nat->List Nat:=kk [[4],([0,1]++rg 5 7)]
def qzamq:IR:=
 (sr [o 4 (.mv (.c .ff))] [4] (sr [m 5 0,o 6 (.bin .ge (t 5) (z 0)),m 7 6,mq 8 0 7 true,mq 9 1 7 true,q 10 (.bin .le (t 8) (t 9)) 7 true,o 11 (.pick (t 7) (t 10) (.c .ff)),m 4 11] ([0,1]++rg 5 7) .ret))
theorem qzadw:FnIs Tryz.prog 132 12 [.t 4] qzamq:=fi qzado Tryz.func132 Tryz.call132
def qmx:Nat->List Nat:=kk [[1],[],[10,11],[12],(rg 14 13),(rg 27 14),[41],([4]++rg 43 9),[52],([5]++rg 53 8),[62]]
def qzadt:Cd Tryz.prog qmx Tryz.f262:=by refine⟨?_,?_⟩;rotate_left;(cbv;try rfl)
def qzakg:IR:=qzadt.c
theorem qdv:FnIs Tryz.prog 262 63 [] qzakg:=fi qmx Tryz.func262 Tryz.call262
def qzarx:Nat->List Nat:=kk [[4],([0,1]++rg 5 6)]
def frame_own:IR:=
 (sr [o 4 (.mv (z 0))] [4] (sr [m 5 0,m 6 1,o 7 (f 215 [(t 5),(t 6)]),o 8 (.bin .shl (t 7) (.c (.i .u64 (.l 1)))),o 9 (.bin .shr (t 8) (.c (.i .u64 (.l 1)))),o 10 (.cv .i64 (t 9)),m 4 10] ([0,1]++rg 5 6) .ret))
theorem qzacy:FnIs Tryz.prog 225 11 [.t 4] frame_own:=fi qzarx Tryz.func225 Tryz.call225
def qzahc:Nat->List Nat:=kk [[4,5],([0,1]++rg 6 7)]
def qzapz:IR:=
 (sr [o 4 (.mv (z 0)),o 5 (.mv (.c .ff))] [4,5] (sr [m 6 0,m 7 1,m 8 1,o 9 (f 133 [(t 8)]),o 10 (f 138 [(t 6),(t 7),(t 9)]),ex 11 10 0,ex 12 10 1,m 4 11,m 5 12] ([0,1]++rg 6 7) .ret))
theorem qzahq:FnIs Tryz.prog 140 13 [.t 4,.t 5] qzapz:=fi qzahc Tryz.func140 Tryz.call140
def qzaai:Nat->List Nat:=kk [[4],[0,1,5,6,7,8,9]]
def qzake:IR:=
 (sr [o 4 (.mv (.c .ff))] [4] (sr [m 5 0,m 6 1,o 7 (f 225 [(t 6),(z 0)]),o 8 (.nilc (t 5)),fd 9 6 8,u (.store 1 (t 9) (t 7))] [0,1,5,6,7,8,9] (sr [o 4 (.mv (.c .tt))] [] .ret)))
theorem qzaap:FnIs Tryz.prog 228 10 [.t 4] qzake:=fi qzaai Tryz.func228 Tryz.call228
def qmt:Nat->List Nat:=kk [[0,4],(rg 6 9),[],[16,17,18,19],([1,2]++rg 20 9),[2,29,30]]
def qzadd:Cd Tryz.prog qmt Tryz.f112:=by refine⟨?_,?_⟩;rotate_left;(cbv;try rfl)
def qzaiq:IR:=qzadd.c
theorem qzaak:FnIs Tryz.prog 112 31 [.t 4] qzaiq:=fi qmt Tryz.func112 Tryz.call112
def qzacp:Nat->List Nat:=kk [[0,7],(rg 12 6),([8,9]++rg 18 11),[3,30],([3,11]++rg 31 6),([1,2,10]++rg 37 6)]
def qzauk:Cd Tryz.prog qzacp Tryz.f136:=by refine⟨?_,?_⟩;rotate_left;(cbv;try rfl)
def turn_Turn:IR:=qzauk.c
theorem qzasv:FnIs Tryz.prog 136 43 [.c 6 true 9,.t 7] turn_Turn:=fi qzacp Tryz.func136 Tryz.call136
def qsl:Nat->List Nat:=kk [[0,2],[1,3,4,5,6]]
def qzabn:IR:=
 (sr [o 1 (.box (t 0)),o 2 (.mv (.c .ff))] [0,2] (sr [fd 3 7 1,l1 4 3,o 5 (.len false (t 4)),o 6 (.bin .gt (t 5) (z 3000)),m 2 6] [1,3,4,5,6] .ret))
theorem qsw:FnIs Tryz.prog 24 7 [.t 2] qzabn:=fi qsl Tryz.func24 Tryz.call24
def qzaoa:Nat->List Nat:=kk [[2],([0]++rg 4 6),[3,10]]
def frame_four:IR:=
 (sr [o 2 (.mv (.c (.re (.slice none 0 0))))] [2] (sr [m 6 0,o 7 (f 257 [(t 6),(z 4)]),m 5 7,ex 8 5 0,ex 9 5 1,m 3 8,m 4 9] ([0]++rg 4 6) (sr [m 10 3,m 2 10] [3,10] .ret)))
theorem qym:FnIs Tryz.prog 217 11 [.t 2] frame_four:=fi qzaoa Tryz.func217 Tryz.call217
def qzaha:Nat->List Nat:=kk [[2],[0,3,4,5,6]]
def qzapv:IR:=
 (sr [o 2 (.mv (z 0))] [2] (sr [m 3 0,o 4 (.bin .shr (t 3) (.c (.i .u64 (.l 3)))),o 5 (.bin .and (t 4) (.c (.i .u64 (.l 7)))),o 6 (.cv .i64 (t 5)),m 2 6] [0,3,4,5,6] .ret))
theorem qqu:FnIs Tryz.prog 244 7 [.t 2] qzapv:=fi qzaha Tryz.func244 Tryz.call244
def qxo:Nat->List Nat:=kk [[0,3,4,5],(rg 6 6),[],(rg 13 6),[1,19,20,21,22]]
def qzaql:Cd Tryz.prog qxo Tryz.f104:=by refine⟨?_,?_⟩;rotate_left;(cbv;try rfl)
def turn_Begin:IR:=qzaql.c
theorem qyj:FnIs Tryz.prog 104 23 [.c 2 true 9,.t 3,.t 4,.t 5] turn_Begin:=fi qxo Tryz.func104 Tryz.call104
def qxk:Nat->List Nat:=kk [[],[0,13,14],([1,2,3,4]++rg 15 6),[22],[11,12,23,24,25],[11,26,27]]
def qzaqb:Cd Tryz.prog qxk Tryz.f107:=by refine⟨?_,?_⟩;rotate_left;(cbv;try rfl)
def window_Cut:IR:=qzaqb.c
theorem qzaoo:FnIs Tryz.prog 107 28 [.t 10] window_Cut:=fi qxk Tryz.func107 Tryz.call107
def qji:Nat->List Nat:=kk [[2],([0]++rg 3 10)]
def qza:Cd Tryz.prog qji Tryz.f60:=by refine⟨?_,?_⟩;rotate_left;(cbv;try rfl)
def qzaee:IR:=qza.c
theorem qvc:FnIs Tryz.prog 60 13 [.t 2] qzaee:=fi qji Tryz.func60 Tryz.call60
def qzaag:Nat->List Nat:=kk [[2],[0,3,4,5,6]]
def qzajc:IR:=
 (sr [o 2 (.mv (.c .ff))] [2] (sr [m 3 0,o 4 (.bin .shl (z 1) (t 3)),o 5 (.bin .and (t 4) (z 6)),o 6 (.bin .ne (t 5) (z 0)),m 2 6] [0,3,4,5,6] .ret))
theorem qzaan:FnIs Tryz.prog 67 7 [.t 2] qzajc:=fi qzaag Tryz.func67 Tryz.call67
def qzavo:Nat->List Nat:=kk [[0,1,4],[2,3,5,6,7,8]]
def write_at:IR:=
 (sr [o 2 (.box (t 0)),o 3 (.box (t 1)),o 4 (.mv (z 0))] [0,1,4] (sr [fd 5 7 2,l1 6 5,o 7 (.mkF (.func 137) [] [(t 3)]),o 8 (f 105 [(t 6),(t 7)]),m 4 8] [2,3,5,6,7,8] .ret))
theorem qzawc:FnIs Tryz.prog 72 9 [.t 4] write_at:=fi qzavo Tryz.func72 Tryz.call72
def qzahb:Nat->List Nat:=kk [[4,5],([1]++rg 10 6),[7,16],[0,18],(rg 19 6),([0,6,8,9]++rg 25 15)]
def word_Out_c:Cd Tryz.prog qzahb Tryz.f190:=by refine⟨?_,?_⟩;rotate_left;(cbv;try rfl)
def word_Out:IR:=word_Out_c.c
theorem qzahp:FnIs Tryz.prog 190 40 [.t 4,.t 5] word_Out:=fi qzahb Tryz.func190 Tryz.call190
def qxg:Nat->List Nat:=kk [[0,1,4],(rg 7 5),(rg 12 33),([2,3,5,6]++rg 45 25)]
def qzapp:Cd Tryz.prog qxg Tryz.f38:=by refine⟨?_,?_⟩;rotate_left;(cbv;try rfl)
def write_Same:IR:=qzapp.c
theorem qye:FnIs Tryz.prog 38 70 [.t 4] write_Same:=fi qxg Tryz.func38 Tryz.call38
def qzajv:Nat->List Nat:=kk [[0,2],[1,3]]
def qzavv:IR:=
 (sr [o 1 (.box (t 0)),o 2 (.mv (.c (.re .nilFunc)))] [0,2] (sr [o 3 (.mkF (.func 234) [] [(t 1)]),m 2 3] [1,3] .ret))
theorem qee:FnIs Tryz.prog 167 4 [.t 2] qzavv:=fi qzajv Tryz.func167 Tryz.call167
def qzarr:Nat->List Nat:=kk [[2],[0,3,4,5]]
def word_slot:IR:=
 (sr [o 2 (.mv (z 0))] [2] (sr [m 3 0,o 4 (.bin .and (t 3) (.c (.i .u64 (.l 7)))),o 5 (.cv .i64 (t 4)),m 2 5] [0,3,4,5] .ret))
theorem qqv:FnIs Tryz.prog 194 6 [.t 2] word_slot:=fi qzarr Tryz.func194 Tryz.call194
def qzany:Nat->List Nat:=kk [[0,2],[1,3]]
def head_parts:IR:=
 (sr [o 1 (.box (t 0)),o 2 (.mv (.c (.re .nilFunc)))] [0,2] (sr [o 3 (.mkF (.func 235) [] [(t 1)]),m 2 3] [1,3] .ret))
theorem qog:FnIs Tryz.prog 169 4 [.t 2] head_parts:=fi qzany Tryz.func169 Tryz.call169
def qzaru:Nat->List Nat:=kk [[3],[0,1,4,5,6]]
def turn_Of_1:IR:=
 (sr [o 3 (.mv (.c .ff))] [3] (sr [m 4 0,l1 5 1,o 6 (.bin .eq (t 4) (t 5)),m 3 6] [0,1,4,5,6] .ret))
theorem qqy:FnIs Tryz.prog 148 7 [.t 3] turn_Of_1:=fi qzaru Tryz.func148 Tryz.call148
end I
end Cz
