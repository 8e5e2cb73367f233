/- What the claims of this group lean on: CzR4. No condition. -/
import Derived.Test.YtdldbkpdecbgnaaGreatDoorKY4
set_option maxRecDepth 100000
set_option maxHeartbeats 4000000
namespace Cz
open Go Go.RowKit Go.Proofs
namespace I
def qhy:Nat->List Nat:=kk [[0,2],(rg 6 7),([1004900,3]++rg 13 7),([1004901,1,4,5]++rg 20 8)]
def qez:Spl:=(.node 2 7
 (.node 2 8
 (.node 3 7
 (.node 3 8
 (.node 7 8
 (.leaf ([(0,[]),(1,[]),(2,[0])]++og 3 8))
 (.leaf ([(0,[]),(1,[]),(2,[0])]++og 3 4++[(8,[]),(7,[]),(9,[]),(10,[])])))
 (.leaf ([(0,[]),(1,[]),(2,[0]),(8,[0])]++og 3 5++[(9,[]),(10,[])])))
 (.node 7 8
 (.node 3 8
 (.leaf ([(0,[]),(1,[]),(2,[0]),(7,[0])]++og 3 4++[(8,[]),(9,[]),(10,[])]))
 (.leaf ([(0,[]),(1,[]),(2,[0]),(7,[0]),(8,[0])]++og 3 4++[(9,[]),(10,[])])))
 (.leaf ([(0,[]),(1,[]),(2,[0]),(8,[0]),(7,[0])]++og 3 4++[(9,[]),(10,[])]))))
 (.node 3 7
 (.leaf ([(0,[]),(1,[]),(8,[0,1]),(2,[0])]++og 3 5++[(9,[]),(10,[])]))
 (.leaf ([(0,[]),(1,[]),(8,[0,1]),(2,[0]),(7,[0])]++og 3 4++[(9,[]),(10,[])]))))
 (.node 7 8
 (.node 2 8
 (.node 3 8
 (.leaf ([(0,[]),(1,[]),(7,[0,1]),(2,[0])]++og 3 4++[(8,[]),(9,[]),(10,[])]))
 (.leaf ([(0,[]),(1,[]),(7,[0,1]),(2,[0]),(8,[0])]++og 3 4++[(9,[]),(10,[])])))
 (.leaf ([(0,[]),(1,[]),(7,[0,1]),(8,[0,1]),(2,[0])]++og 3 4++[(9,[]),(10,[])])))
 (.leaf ([(0,[]),(1,[]),(8,[0,1]),(7,[0,1]),(2,[0])]++og 3 4++[(9,[]),(10,[])]))))
def qfd:List (Nat×List Nat):=([(0,[]),(1,[0])]++og 2 7)
def qwf:Cd Tryz.prog qhy Tryz.f49:=by refine⟨?_,?_⟩;rotate_left;(cbv;try rfl)
def qzaby:IR:=qwf.c
theorem qig:FnIs Tryz.prog 49 28 [.t 2] qzaby:=fi qhy Tryz.func49 Tryz.call49
def qqg:Nat->List Nat:=kk [[3],(rg 8 5),([1005700,4]++rg 13 30),[],[],[44,45,46],[],[51,52],[53,54],([7]++rg 56 5),[61],[62,63],[64],(rg 65 5),[71,72,73,74],([1005701,1]++rg 75 10),[0,85,86]]
def qkf:List Nat:=([2,3,4]++rg 6 81)
def qke:List Nat:=([2,3,4]++rg 6 41++rg 50 37)
def qbp:List (Nat×List Nat):=(og 0 31)
def qkx:List (Nat×List Nat):=(og 0 6++[(6,[4])]++og 7 4)
def qzait:Cd Tryz.prog qqg Tryz.f57:=by refine⟨?_,?_⟩;rotate_left;(cbv;try rfl)
def qzapq:IR:=qzait.c
theorem qcp:FnIs Tryz.prog 57 87 [.t 3] qzapq:=fi qqg Tryz.func57 Tryz.call57
def qxa:Nat->List Nat:=kk [[1,4],[6],[9],[11],[7,13],([1003500,0,3]++rg 14 9),([1003501,0,3]++rg 23 7),[30,31],[1003502,33],[0,34,35,36,37],([3]++rg 38 5),(rg 43 5),[1003503,48,49]]
def qov:List (Nat×List Nat):=(og 0 5++[(5,[1]),(6,[]),(7,[])])
def qzadi:List (Nat×List Nat):=[(0,[]),(1,[]),(2,[])]
def qzadh:List (Nat×List Nat):=[(0,[]),(1,[]),(2,[1]),(3,[])]
def qzaph:Cd Tryz.prog qxa Tryz.f35:=by refine⟨?_,?_⟩;rotate_left;(cbv;try rfl)
def write_goes:IR:=qzaph.c
theorem qyd:FnIs Tryz.prog 35 50 [.t 4,.c 5 true 13] write_goes:=fi qxa Tryz.func35 Tryz.call35
def qhp:Nat->List Nat:=kk [[0,2],(rg 6 20),[],[],[],[27,28,29,30],[32,33],(rg 34 5),[],(rg 40 9),[],[49,50,51,52],[54,55],(rg 56 5),[],[3,62,63]]
def qng:List Nat:=([0,2,4]++rg 6 58)
def qnf:List Nat:=([0,2]++rg 5 59)
def qvu:Cd Tryz.prog qhp Tryz.f5:=by refine⟨?_,?_⟩;rotate_left;(cbv;try rfl)
def qzabj:IR:=qvu.c
theorem qst:FnIs Tryz.prog 5 64 [.t 2] qzabj:=fi qhp Tryz.func5 Tryz.call5
def qdk:Nat->List Nat:=kk [[6],(rg 8 6),[14,15],[0,17],[18,19],([1013500,1,2]++rg 20 7),([7]++rg 27 5),[0,32]]
def qgf:List (Nat×List Nat):=(og 0 8)
def qjc:Cd Tryz.prog qdk Tryz.f135:=by refine⟨?_,?_⟩;rotate_left;(cbv;try rfl)
def qlq:IR:=qjc.c
theorem qiu:FnIs Tryz.prog 135 33 [.t 6] qlq:=fi qdk Tryz.func135 Tryz.call135
def qlu:Nat->List Nat:=kk [[2],[3],[],[0,5,6,7]]
def qpj:IR:=
 (sr [o 2 (.mv (.c (.re (.slice none 0 0))))] [2] (.seq (sr [m 3 0,o 4 (.nilS false (t 3))] [3] (.cond (t 4) (sr [o 2 (.mv (.c (.re (.slice none 0 0))))] [] .ret) .skip)) (sr [o 5 (.buildS 2 0 [(.i .u16 (.l 0)),(.i .u32 (.l 0))] []),m 6 0,o 7 (.app 2 (t 5) (t 6)),m 2 7] [0,5,6,7] .ret)))
theorem qmb:FnIs Tryz.prog 110 8 [.t 2] qpj:=fi qlu Tryz.func110 Tryz.call110
def qhu:Nat->List Nat:=kk [[0,2],[],[],(rg 5 8),[14,15],([1001400]++rg 16 17),([1,3]++rg 33 8)]
def qnk:List Nat:=([0,2]++rg 5 36)
def qnw:List (Nat×List Nat):=(og 0 18)
def qwa:Cd Tryz.prog qhu Tryz.f14:=by refine⟨?_,?_⟩;rotate_left;(cbv;try rfl)
def qzabr:IR:=qwa.c
theorem qta:FnIs Tryz.prog 14 41 [.t 2] qzabr:=fi qhu Tryz.func14 Tryz.call14
def qjo:Nat->List Nat:=kk [[0,4],[],[6],[],[8],[11],[1,5,12,13,14],[16],[2,17],[19,20],[1,5,21,22,23],[25],[1,26,27],[29],[30],[1,31,32],[34],[1,35,36],[38],([1,2]++rg 39 11),[51],[1,52,53],[9,55],[1,56,57]]
def qzh:Cd Tryz.prog qjo Tryz.f167:=by refine⟨?_,?_⟩;rotate_left;(cbv;try rfl)
def qzaen:IR:=qzh.c
theorem qjz:FnIs Tryz.prog 167 58 [.t 4] qzaen:=fi qjo Tryz.func167 Tryz.call167
def qdj:Nat->List Nat:=kk [[6],[10,11,12,13],[],[0],[],[19,20,21],[7,22,23,24,25],[8,9,26,27,28,29],[],[31]]
def qjb:Cd Tryz.prog qdj Tryz.f82:=by refine⟨?_,?_⟩;rotate_left;(cbv;try rfl)
def qlp:IR:=qjb.c
theorem qdl:FnIs Tryz.prog 82 32 [.t 6] qlp:=fi qdj Tryz.func82 Tryz.call82
def qzacu:Nat->List Nat:=kk [[0,2,3],[7,8],[],([1003700]++rg 10 6),([1]++rg 16 13),[4,5,6,29,30,31,32]]
def qje:List (Nat×List Nat):=[(0,[]),(1,[]),(4,[]),(2,[4]),(3,[]),(5,[]),(6,[])]
def qzawa:Cd Tryz.prog qzacu Tryz.f37:=by refine⟨?_,?_⟩;rotate_left;(cbv;try rfl)
def frame_Put:IR:=qzawa.c
theorem qre:FnIs Tryz.prog 37 33 [.t 2,.t 3] frame_Put:=fi qzacu Tryz.func37 Tryz.call37
def qdp:Nat->List Nat:=kk [[4],[5],[7],(rg 8 7),[15],([1]++rg 17 9),[0,26]]
def qki:Cd Tryz.prog qdp Tryz.f253:=by refine⟨?_,?_⟩;rotate_left;(cbv;try rfl)
def qmg:IR:=qki.c
theorem qjx:FnIs Tryz.prog 253 27 [.t 4] qmg:=fi qdp Tryz.func253 Tryz.call253
def qjn:Nat->List Nat:=kk [[0,2],[],[],[5,6,7,8],[10,11],(rg 12 8),[3,20]]
def qor:List Nat:=([0,2]++rg 5 16)
def qzf:Cd Tryz.prog qjn Tryz.f48:=by refine⟨?_,?_⟩;rotate_left;(cbv;try rfl)
def qzaem:IR:=qzf.c
theorem qvj:FnIs Tryz.prog 48 21 [.t 2] qzaem:=fi qjn Tryz.func48 Tryz.call48
def qts:Nat->List Nat:=kk [[0,2],([1013600,1]++rg 3 15)]
def qmp:List (Nat×List Nat):=(og 0 10++[(11,[]),(12,[]),(10,[12]),(13,[]),(14,[]),(15,[])])
def qzaml:Cd Tryz.prog qts Tryz.f136:=by refine⟨?_,?_⟩;rotate_left;(cbv;try rfl)
def qzauq:IR:=qzaml.c
theorem quh:FnIs Tryz.prog 136 18 [.t 2] qzauq:=fi qts Tryz.func136 Tryz.call136
def qzacr:Nat->List Nat:=kk [[0,11],([12]++rg 14 6),([13]++rg 20 15),[5,36],[4,38,39],[5,40],[3,42],(rg 43 5),([1,2,5]++rg 48 6),[1,2,54,55,56,57],[5,58]]
def qzaum:Cd Tryz.prog qzacr Tryz.f105:=by refine⟨?_,?_⟩;rotate_left;(cbv;try rfl)
def turn_Over:IR:=qzaum.c
theorem qqx:FnIs Tryz.prog 105 59 [.c 10 true 9,.t 11] turn_Over:=fi qzacr Tryz.func105 Tryz.call105
def qlc:Nat->List Nat:=kk [[0,2],[3],[6],[7],[8],[9],[10],[1,11,12,13],[15],[16],[17],[4,18],[1,19,20,21]]
def qzabv:Cd Tryz.prog qlc Tryz.f166:=by refine⟨?_,?_⟩;rotate_left;(cbv;try rfl)
def qzaih:IR:=qzabv.c
theorem qlh:FnIs Tryz.prog 166 22 [.t 2] qzaih:=fi qlc Tryz.func166 Tryz.call166
def qzanv:Nat->List Nat:=kk [[0,2],([1]++rg 3 8)]
def table_Size:IR:=
 (sr [o 1 (.box (t 0)),o 2 (.mv (z 0))] [0,2] (sr [fd 3 0 1,l1 4 3,o 5 (.len true (t 4)),o 6 (.bin .add (z 32) (t 5)),fd 7 1 1,l1 8 7,o 9 (.len true (t 8)),o 10 (.bin .add (t 6) (t 9)),m 2 10] ([1]++rg 3 8) .ret))
theorem qzaoq:FnIs Tryz.prog 144 11 [.t 2] table_Size:=fi qzanv Tryz.func144 Tryz.call144
def qzagx:Nat->List Nat:=kk [[4],([0,1]++rg 5 7)]
def qzape:IR:=
 (sr [o 4 (.mv (.c .ff))] [4] (sr [m 5 0,o 6 (.bin .ge (t 5) (z 0)),m 7 6,mq 8 0 7 true,mq 9 1 7 true,q 10 (.bin .le (t 8) (t 9)) 7 true,o 11 (.pick (t 7) (t 10) (.c .ff)),m 4 11] ([0,1]++rg 5 7) .ret))
theorem qby:FnIs Tryz.prog 42 12 [.t 4] qzape:=fi qzagx Tryz.func42 Tryz.call42
def qlb:Nat->List Nat:=kk [[0],(rg 4 13),[17],(rg 19 13),[32],([1]++rg 34 8),[42],[43]]
def qzabt:Cd Tryz.prog qlb Tryz.f174:=by refine⟨?_,?_⟩;rotate_left;(cbv;try rfl)
def qzaif:IR:=qzabt.c
theorem qlf:FnIs Tryz.prog 174 44 [.c 2 true 3] qzaif:=fi qlb Tryz.func174 Tryz.call174
def qzahc:Nat->List Nat:=kk [[4,5],([0,1]++rg 6 7)]
def qzapz:IR:=
 (sr [o 4 (.mv (z 0)),o 5 (.mv (.c .ff))] [4,5] (sr [m 6 0,m 7 1,m 8 1,o 9 (f 127 [(t 8)]),o 10 (f 132 [(t 6),(t 7),(t 9)]),ex 11 10 0,ex 12 10 1,m 4 11,m 5 12] ([0,1]++rg 6 7) .ret))
theorem qzahq:FnIs Tryz.prog 134 13 [.t 4,.t 5] qzapz:=fi qzahc Tryz.func134 Tryz.call134
def qzaai:Nat->List Nat:=kk [[4],[0,1,5,6,7,8,9]]
def qzake:IR:=
 (sr [o 4 (.mv (.c .ff))] [4] (sr [m 5 0,m 6 1,o 7 (f 219 [(t 6),(z 0)]),o 8 (.nilc (t 5)),fd 9 6 8,u (.store 1 (t 9) (t 7))] [0,1,5,6,7,8,9] (sr [o 4 (.mv (.c .tt))] [] .ret)))
theorem qzaap:FnIs Tryz.prog 222 10 [.t 4] qzake:=fi qzaai Tryz.func222 Tryz.call222
def qmt:Nat->List Nat:=kk [[0,4],(rg 6 9),[],[16,17,18,19],([1,2]++rg 20 9),[2,29,30]]
def qzadd:Cd Tryz.prog qmt Tryz.f106:=by refine⟨?_,?_⟩;rotate_left;(cbv;try rfl)
def qzaiq:IR:=qzadd.c
theorem qzaak:FnIs Tryz.prog 106 31 [.t 4] qzaiq:=fi qmt Tryz.func106 Tryz.call106
def qzacp:Nat->List Nat:=kk [[0,7],(rg 12 6),([8,9]++rg 18 11),[3,30],([3,11]++rg 31 6),([1,2,10]++rg 37 6)]
def qzauk:Cd Tryz.prog qzacp Tryz.f130:=by refine⟨?_,?_⟩;rotate_left;(cbv;try rfl)
def turn_Turn:IR:=qzauk.c
theorem qzasv:FnIs Tryz.prog 130 43 [.c 6 true 9,.t 7] turn_Turn:=fi qzacp Tryz.func130 Tryz.call130
def qsl:Nat->List Nat:=kk [[0,2],[1,3,4,5,6]]
def qzabn:IR:=
 (sr [o 1 (.box (t 0)),o 2 (.mv (.c .ff))] [0,2] (sr [fd 3 7 1,l1 4 3,o 5 (.len false (t 4)),o 6 (.bin .gt (t 5) (z 3000)),m 2 6] [1,3,4,5,6] .ret))
theorem qsw:FnIs Tryz.prog 16 7 [.t 2] qzabn:=fi qsl Tryz.func16 Tryz.call16
def qzaoa:Nat->List Nat:=kk [[2],([0]++rg 4 6),[3,10]]
def frame_four:IR:=
 (sr [o 2 (.mv (.c (.re (.slice none 0 0))))] [2] (sr [m 6 0,o 7 (f 251 [(t 6),(z 4)]),m 5 7,ex 8 5 0,ex 9 5 1,m 3 8,m 4 9] ([0]++rg 4 6) (sr [m 10 3,m 2 10] [3,10] .ret)))
theorem qym:FnIs Tryz.prog 211 11 [.t 2] frame_four:=fi qzaoa Tryz.func211 Tryz.call211
def qzaha:Nat->List Nat:=kk [[2],[0,3,4,5,6]]
def qzapv:IR:=
 (sr [o 2 (.mv (z 0))] [2] (sr [m 3 0,o 4 (.bin .shr (t 3) (.c (.i .u64 (.l 3)))),o 5 (.bin .and (t 4) (.c (.i .u64 (.l 7)))),o 6 (.cv .i64 (t 5)),m 2 6] [0,3,4,5,6] .ret))
theorem qqu:FnIs Tryz.prog 238 7 [.t 2] qzapv:=fi qzaha Tryz.func238 Tryz.call238
def qjq:Nat->List Nat:=kk [[0,1,4],([2,3]++rg 5 77)]
def qzj:Cd Tryz.prog qjq Tryz.f120:=by refine⟨?_,?_⟩;rotate_left;(cbv;try rfl)
def qzaeq:IR:=qzj.c
theorem qvl:FnIs Tryz.prog 120 82 [.t 4] qzaeq:=fi qjq Tryz.func120 Tryz.call120
def qtr:Nat->List Nat:=kk [[4,5],[6,7],([1]++rg 8 6),[0,14,15,16,17]]
def qzamf:Cd Tryz.prog qtr Tryz.f234:=by refine⟨?_,?_⟩;rotate_left;(cbv;try rfl)
def qzatz:IR:=qzamf.c
theorem qzakh:FnIs Tryz.prog 234 18 [.t 4,.t 5] qzatz:=fi qtr Tryz.func234 Tryz.call234
def qqp:Nat->List Nat:=kk [[0,4],[5,6,7],([2]++rg 9 8),[1,17]]
def qzakc:Cd Tryz.prog qqp Tryz.f202:=by refine⟨?_,?_⟩;rotate_left;(cbv;try rfl)
def qzasj:IR:=qzakc.c
theorem qrc:FnIs Tryz.prog 202 18 [.t 4] qzasj:=fi qqp Tryz.func202 Tryz.call202
def qzadn:Nat->List Nat:=kk [(rg 0 7)]
def qzalx:IR:=
 (.reg [fd 2 1 0,l1 3 2,fd 4 3 0,l1 5 4,o 6 (.build z4 [(0,1,(.c (.i .u8 (.l 7)))),(5,1,(t 3)),(7,1,(t 5))]),u (.store 13 (t 1) (t 6))] (rg 0 7))
theorem qzadu:FnIs Tryz.prog 149 7 [] qzalx:=fi qzadn Tryz.func149 Tryz.call149
def qxs:Nat->List Nat:=kk [[0,1,4],(rg 6 40),([2,3,5]++rg 46 36)]
def qzasn:Cd Tryz.prog qxs Tryz.f151:=by refine⟨?_,?_⟩;rotate_left;(cbv;try rfl)
def frame_Same:IR:=qzasn.c
theorem qoh:FnIs Tryz.prog 151 82 [.t 4] frame_Same:=fi qxs Tryz.func151 Tryz.call151
end I
end Cz
