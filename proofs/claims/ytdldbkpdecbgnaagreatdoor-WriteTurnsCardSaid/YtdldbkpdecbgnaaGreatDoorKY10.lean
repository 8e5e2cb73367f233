/- What the claims of this group lean on: CzR5. No condition. -/
import Derived.Test.YtdldbkpdecbgnaaGreatDoorKY4
set_option maxRecDepth 100000
set_option maxHeartbeats 4000000
namespace Cz
open Go Go.RowKit Go.Proofs
namespace I
def qxc:Nat->List Nat:=kk [[7],(rg 16 10),[7,26],[28],(rg 29 6),(rg 35 8),([1003600,1,2]++rg 43 13),(rg 56 7),[64],([1003601]++rg 65 8),([1003602,13]++rg 73 19),(rg 92 7),[100],([15]++rg 101 6),[14,107,108,109],[11,110,111,112,113],([1003603,8,9,10,12]++rg 114 18),[0,132,133],[134]]
def qek:List (Nat×List Nat):=(og 0 14)
def qhc:List (Nat×List Nat):=(og 0 6++[(6,[1]),(7,[]),(8,[])])
def qhb:List (Nat×List Nat):=(og 0 16++[(16,[12]),(17,[]),(18,[12]),(19,[]),(20,[]),(21,[])])
def qha:List (Nat×List Nat):=(og 0 11++[(11,[1,2,5])]++og 12 7)
def qzapj:Cd Tryz.prog qxc Tryz.f36:=by refine⟨?_,?_⟩;rotate_left;(cbv;try rfl)
def write_data:IR:=qzapj.c
theorem qfl:FnIs Tryz.prog 36 135 [.c 6 true 13,.t 7] write_data:=fi qxc Tryz.func36 Tryz.call36
def qtz:Nat->List Nat:=kk [[0],[],[7],[8],[9,10],[12],[13,14],[16,17,18],[19],(rg 20 22),(rg 43 7),(rg 50 6),[57,58],[1015000,2,60,61,62,63],[64],[1,6,65,66,67,68],[70,71],[72,73],[1015001,75,76],[1015002,77,78]]
def qmq:List (Nat×List Nat):=[(0,[]),(1,[]),(2,[]),(3,[0]),(4,[]),(5,[])]
def qdt:List (Nat×List Nat):=[(0,[]),(1,[]),(2,[1]),(3,[])]
def qzaoj:Cd Tryz.prog qtz Tryz.f150:=by refine⟨?_,?_⟩;rotate_left;(cbv;try rfl)
def qzawb:IR:=qzaoj.c
theorem qgn:FnIs Tryz.prog 150 79 [.c 4 true 13,.c 5 true 3] qzawb:=fi qtz Tryz.func150 Tryz.call150
def qhw:Nat->List Nat:=kk [[0,1,7],[8],[2,10,11,12,13],[15],[16],([2,3,4]++rg 17 6),[24],[25],([2]++rg 26 7),[34],[2,35,36,37],[39],([2]++rg 40 6),[47],(rg 48 6),([2]++rg 54 5),[60],[2,61,62,63],[9,65],[66,67,68],([2]++rg 69 5),[3,74]]
def qwd:Cd Tryz.prog qhw Tryz.f116:=by refine⟨?_,?_⟩;rotate_left;(cbv;try rfl)
def qzabu:IR:=qwd.c
theorem qie:FnIs Tryz.prog 116 75 [.c 6 true 13,.t 7] qzabu:=fi qhw Tryz.func116 Tryz.call116
def qjj:Nat->List Nat:=kk [[2],[5,6,7,8],[],[9,10,11],[13,14],([1018200]++rg 15 20),[3,35]]
def qon:List Nat:=([1,2]++rg 5 31)
def qpk:List (Nat×List Nat):=(og 0 21)
def qzb:Cd Tryz.prog qjj Tryz.f182:=by refine⟨?_,?_⟩;rotate_left;(cbv;try rfl)
def qzaef:IR:=qzb.c
theorem qvd:FnIs Tryz.prog 182 36 [.t 2] qzaef:=fi qjj Tryz.func182 Tryz.call182
def qzaju:Nat->List Nat:=kk [[],[0,1,5,6,7]]
def qzavu:IR:=
 (sr [o 4 (.alloc [(.i .i64 (.l 0)),(.re .nilFunc),(.re .nilFunc),(.re .nilFunc)])] [] (sr [m 5 0,m 6 1,o 7 (.build [(.i .i64 (.l 0)),(.re .nilFunc),(.re .nilFunc),(.re .nilFunc)] [(0,1,(t 5)),(1,1,(t 6)),(2,1,(.c (.fn (.func 226) [] []))),(3,1,(.c (.fn (.func 227) [] [])))]),u (.store 4 (t 4) (t 7))] [0,1,5,6,7] .ret))
theorem qed:FnIs Tryz.prog 160 8 [.c 4 true 4] qzavu:=fi qzaju Tryz.func160 Tryz.call160
def qco:Nat->List Nat:=kk [[6],[10,11,12,13],[],[0],[],[19,20,21],[7,22,23,24,25],[8,9,26,27,28,29],[],[31]]
def qgt:Cd Tryz.prog qco Tryz.f89:=by refine⟨?_,?_⟩;rotate_left;(cbv;try rfl)
def qim:IR:=qgt.c
theorem qgg:FnIs Tryz.prog 89 32 [.t 6] qim:=fi qco Tryz.func89 Tryz.call89
def qhv:Nat->List Nat:=kk [[0,2],([1001700,1]++rg 3 15)]
def qnx:List (Nat×List Nat):=(og 0 10++[(11,[]),(12,[]),(10,[12]),(13,[]),(14,[]),(15,[])])
def qwb:Cd Tryz.prog qhv Tryz.f17:=by refine⟨?_,?_⟩;rotate_left;(cbv;try rfl)
def qzabs:IR:=qwb.c
theorem qtb:FnIs Tryz.prog 17 18 [.t 2] qzabs:=fi qhv Tryz.func17 Tryz.call17
def qzajy:Nat->List Nat:=kk [[2],[3],[],[0,5,6,7]]
def qzawo:IR:=
 (sr [o 2 (.mv (.c (.re (.slice none 0 0))))] [2] (.seq (sr [m 3 0,o 4 (.nilS false (t 3))] [3] (.cond (t 4) (sr [o 2 (.mv (.c (.re (.slice none 0 0))))] [] .ret) .skip)) (sr [o 5 (.buildS 1 0 [(.i .u8 (.l 0))] []),m 6 0,o 7 (.app 1 (t 5) (t 6)),m 2 7] [0,5,6,7] .ret)))
theorem qui:FnIs Tryz.prog 102 8 [.t 2] qzawo:=fi qzajy Tryz.func102 Tryz.call102
def qzagz:Nat->List Nat:=kk [[0,1,5],([2,3]++rg 6 5)]
def qzapt:IR:=
 (sr [o 2 (.box (t 0)),o 3 (.box (t 1)),o 4 (.alloc z0),o 5 (.mv (.c .ff))] [0,1,5] (sr [o 6 (.load true 18 (t 2)),o 7 (.mkF (.func 70) [] [(t 3)]),o 8 (f 40 [(t 6),(t 7)]),ex 9 8 0,ex 10 8 1,u (.store 18 (t 4) (t 9)),m 5 10] ([2,3]++rg 6 5) .ret))
theorem qzaho:FnIs Tryz.prog 28 11 [.c 4 true 18,.t 5] qzapt:=fi qzagz Tryz.func28 Tryz.call28
def qxt:Nat->List Nat:=kk [[0],(rg 3 5),[1,8]]
def qzaid:IR:=
 (sr [o 1 (.box (t 0)),o 2 (.alloc z2)] [0] (sr [o 3 (.buildS 1 0 [(.i .u8 (.l 0))] []),fd 4 7 1,l1 5 4,o 6 (.app 1 (t 3) (t 5)),fd 7 7 1,u (.store 1 (t 7) (t 6))] (rg 3 5) (sr [o 8 (.load true 11 (t 1)),u (.store 11 (t 2) (t 8))] [1,8] .ret)))
theorem qyn:FnIs Tryz.prog 39 9 [.c 2 true 11] qzaid:=fi qxt Tryz.func39 Tryz.call39
def qwz:Nat->List Nat:=kk [[0],([1004500]++rg 3 12),[1,15]]
def qzadg:List (Nat×List Nat):=([(0,[]),(1,[]),(3,[]),(4,[]),(6,[]),(7,[]),(2,[4,7]),(9,[]),(5,[7]),(8,[])]++og 10 5)
def qzapg:Cd Tryz.prog qwz Tryz.f45:=by refine⟨?_,?_⟩;rotate_left;(cbv;try rfl)
def write_ours:IR:=qzapg.c
theorem qzaok:FnIs Tryz.prog 45 16 [.c 2 true 7] write_ours:=fi qwz Tryz.func45 Tryz.call45
def qzant:Nat->List Nat:=kk [[0,1,5],([2,3]++rg 6 5)]
def write_Give:IR:=
 (sr [o 2 (.box (t 0)),o 3 (.box (t 1)),o 4 (.alloc z0),o 5 (.mv (.c .ff))] [0,1,5] (sr [o 6 (.load true 18 (t 2)),o 7 (.mkF (.func 66) [] [(t 3)]),o 8 (f 40 [(t 6),(t 7)]),ex 9 8 0,ex 10 8 1,u (.store 18 (t 4) (t 9)),m 5 10] ([2,3]++rg 6 5) .ret))
theorem qyf:FnIs Tryz.prog 26 11 [.c 4 true 18,.t 5] write_Give:=fi qzant Tryz.func26 Tryz.call26
def qdy:Nat->List Nat:=kk [[4],[6,7,8,9],[],[11],[],[15],([1008800,5]++rg 16 8),[],[25]]
def qlo:Cd Tryz.prog qdy Tryz.f88:=by refine⟨?_,?_⟩;rotate_left;(cbv;try rfl)
def qnq:IR:=qlo.c
theorem qko:FnIs Tryz.prog 88 26 [.t 4] qnq:=fi qdy Tryz.func88 Tryz.call88
def qxd:Nat->List Nat:=kk [[],[6],(rg 8 7),([0]++rg 15 10),([1]++rg 25 5),[30],([1009600,0,5]++rg 32 17),[49]]
def qzadj:List (Nat×List Nat):=(og 0 12++[(12,[3])]++og 13 6)
def qzapl:Cd Tryz.prog qxd Tryz.f96:=by refine⟨?_,?_⟩;rotate_left;(cbv;try rfl)
def write_back:IR:=qzapl.c
theorem qod:FnIs Tryz.prog 96 50 [.t 4] write_back:=fi qxd Tryz.func96 Tryz.call96
def qxn:Nat->List Nat:=kk [[0],[],[7,8,9],[11],[],[15],([5]++rg 16 6),[23],[1,24],[26],[28,29],[3,6,31,32]]
def qzaba:List Nat:=([0]++rg 4 8++rg 14 12++rg 27 6)
def qzaqk:Cd Tryz.prog qxn Tryz.f73:=by refine⟨?_,?_⟩;rotate_left;(cbv;try rfl)
def turn_Right:IR:=qzaqk.c
theorem qyi:FnIs Tryz.prog 73 33 [.t 2] turn_Right:=fi qxn Tryz.func73 Tryz.call73
def qzack:Nat->List Nat:=kk [[2],[6,7],(rg 8 9),[17,18,19],[21],([1007100]++rg 22 7),[5,29,30,31],([0,1]++rg 33 11)]
def qfb:List (Nat×List Nat):=(og 0 8)
def qzatq:Cd Tryz.prog qzack Tryz.f71:=by refine⟨?_,?_⟩;rotate_left;(cbv;try rfl)
def write_lay:IR:=qzatq.c
theorem qzasp:FnIs Tryz.prog 71 44 [] write_lay:=fi qzack Tryz.func71 Tryz.call71
def qjp:Nat->List Nat:=kk [[0,2],[6,7,8],[9,10],[12,13],[14,15],[1,17,18],([3,5]++rg 19 5),[4,24]]
def qzi:Cd Tryz.prog qjp Tryz.f175:=by refine⟨?_,?_⟩;rotate_left;(cbv;try rfl)
def qzaeo:IR:=qzi.c
theorem qvk:FnIs Tryz.prog 175 25 [.t 2] qzaeo:=fi qjp Tryz.func175 Tryz.call175
def qzaco:Nat->List Nat:=kk [[2,6,7],[15,16],(rg 17 6),[10],[9,24],([11]++rg 25 6),([12]++rg 31 15),[0,47],(rg 48 6),([0,1,5,8,13,14]++rg 54 20)]
def qzauc:Cd Tryz.prog qzaco Tryz.f185:=by refine⟨?_,?_⟩;rotate_left;(cbv;try rfl)
def word_Push:IR:=qzauc.c
theorem qzass:FnIs Tryz.prog 185 74 [.t 6,.t 7] word_Push:=fi qzaco Tryz.func185 Tryz.call185
def qzacm:Nat->List Nat:=kk [[],(rg 2 5),[1002300,1,7,8,9]]
def qzagr:List (Nat×List Nat):=[(0,[]),(1,[0]),(2,[]),(3,[])]
def qzatw:Cd Tryz.prog qzacm Tryz.f23:=by refine⟨?_,?_⟩;rotate_left;(cbv;try rfl)
def write_New:IR:=qzatw.c
theorem qzasr:FnIs Tryz.prog 23 10 [.c 0 true 18] write_New:=fi qzacm Tryz.func23 Tryz.call23
def qzart:Nat->List Nat:=kk [[1,4,5],([0,3]++rg 6 5)]
def word_Find:IR:=
 (sr [o 3 (.box (t 1)),o 4 (.mv (z 0)),o 5 (.mv (.c .ff))] [1,4,5] (sr [m 6 0,o 7 (.mkF (.func 255) [] [(t 3)]),o 8 (f 236 [(t 6),(t 7)]),ex 9 8 0,ex 10 8 1,m 4 9,m 5 10] ([0,3]++rg 6 5) .ret))
theorem qzasu:FnIs Tryz.prog 233 11 [.t 4,.t 5] word_Find:=fi qzart Tryz.func233 Tryz.call233
def qhq:Nat->List Nat:=kk [[0,4],[],[6],[8,9],(rg 10 9),[5,20]]
def qvv:Cd Tryz.prog qhq Tryz.f124:=by refine⟨?_,?_⟩;rotate_left;(cbv;try rfl)
def qzabk:IR:=qvv.c
theorem qsu:FnIs Tryz.prog 124 21 [.t 4] qzabk:=fi qhq Tryz.func124 Tryz.call124
def qtu:Nat->List Nat:=kk [[0],[6,7],([2]++rg 8 10),[5,19],[20,21],[1,22,23],[25,26,27],[5,28]]
def qzams:Cd Tryz.prog qtu Tryz.f104:=by refine⟨?_,?_⟩;rotate_left;(cbv;try rfl)
def qzaut:IR:=qzams.c
theorem qlz:FnIs Tryz.prog 104 29 [.c 4 true 11] qzaut:=fi qtu Tryz.func104 Tryz.call104
def qqk:Nat->List Nat:=kk [[0,7],[8,9],[10,11],([1,2,3]++rg 13 9),[22,23],[24]]
def qzaiz:Cd Tryz.prog qqk Tryz.f133:=by refine⟨?_,?_⟩;rotate_left;(cbv;try rfl)
def qzaqo:IR:=qzaiz.c
theorem qqz:FnIs Tryz.prog 133 25 [.c 6 true 11,.t 7] qzaqo:=fi qqk Tryz.func133 Tryz.call133
def qxo:Nat->List Nat:=kk [[0,3,4,5],(rg 6 6),[],(rg 13 6),[1,19,20,21,22]]
def qzaql:Cd Tryz.prog qxo Tryz.f98:=by refine⟨?_,?_⟩;rotate_left;(cbv;try rfl)
def turn_Begin:IR:=qzaql.c
theorem qyj:FnIs Tryz.prog 98 23 [.c 2 true 9,.t 3,.t 4,.t 5] turn_Begin:=fi qxo Tryz.func98 Tryz.call98
def qtm:Nat->List Nat:=kk [[0,3],([1]++rg 5 10),[15],[17,18],[4,19,20,21]]
def qzalw:Cd Tryz.prog qtm Tryz.f80:=by refine⟨?_,?_⟩;rotate_left;(cbv;try rfl)
def qzatp:IR:=qzalw.c
theorem qua:FnIs Tryz.prog 80 22 [.c 2 true 13,.t 3] qzatp:=fi qtm Tryz.func80 Tryz.call80
def qxv:Nat->List Nat:=kk [[0,4],[1,2,5,6,7]]
def qzaig:IR:=
 (sr [o 2 (.box (t 0)),o 4 (.mv (.c .ff))] [0,4] (sr [o 5 (.load true 4 (t 2)),m 6 1,o 7 (f 254 [(t 5),(t 6)]),m 4 7] [1,2,5,6,7] .ret))
theorem qlg:FnIs Tryz.prog 230 8 [.t 4] qzaig:=fi qxv Tryz.func230 Tryz.call230
def qxb:Nat->List Nat:=kk [[0,5],[7,8],([1]++rg 9 5),[6,15],[2,16,17]]
def qzapi:Cd Tryz.prog qxb Tryz.f40:=by refine⟨?_,?_⟩;rotate_left;(cbv;try rfl)
def write_does:IR:=qzapi.c
theorem qav:FnIs Tryz.prog 40 18 [.c 4 true 18,.t 5] write_does:=fi qxb Tryz.func40 Tryz.call40
def qzaah:Nat->List Nat:=kk [[0,2],[1,3,4,5]]
def qzakd:IR:=
 (sr [o 1 (.box (t 0)),o 2 (.mv (.c (.re (.slice none 0 0))))] [0,2] (sr [fd 3 6 1,l1 4 3,o 5 (f 211 [(t 4)]),m 2 5] [1,3,4,5] .ret))
theorem qzaao:FnIs Tryz.prog 223 6 [.t 2] qzakd:=fi qzaah Tryz.func223 Tryz.call223
def qzajs:Nat->List Nat:=kk [[2],[0,3,4,5,6]]
def qzauu:IR:=
 (sr [o 2 (.mv (.c .ff))] [2] (sr [m 3 0,o 4 (.bin .shl (z 1) (t 3)),o 5 (.bin .and (t 4) (z 14)),o 6 (.bin .ne (t 5) (z 0)),m 2 6] [0,3,4,5,6] .ret))
theorem qzakm:FnIs Tryz.prog 74 7 [.t 2] qzauu:=fi qzajs Tryz.func74 Tryz.call74
def qzaaf:Nat->List Nat:=kk [[2],[0,3,4,5]]
def qzair:IR:=
 (sr [o 2 (.mv (.c .ff))] [2] (sr [m 3 0,o 4 (.bin .shr (t 3) (.c (.i .u64 (.l 31)))),o 5 (.bin .eq (t 4) (z 0)),m 2 5] [0,3,4,5] .ret))
theorem qzaal:FnIs Tryz.prog 78 6 [.t 2] qzair:=fi qzaaf Tryz.func78 Tryz.call78
def qtt:Nat->List Nat:=kk [[0,1,4],(rg 6 40),([2,3,5]++rg 46 36)]
def qzamr:Cd Tryz.prog qtt Tryz.f90:=by refine⟨?_,?_⟩;rotate_left;(cbv;try rfl)
def qzaus:IR:=qzamr.c
theorem qzakl:FnIs Tryz.prog 90 82 [.t 4] qzaus:=fi qtt Tryz.func90 Tryz.call90
end I
end Cz
