/- What the claims of this group lean on: CzR3. No condition. -/
import Derived.Test.YtfijlhdheiebcaaGreatDoorKB4
set_option maxRecDepth 100000
set_option maxHeartbeats 4000000
namespace Cz
open Go Go.RowKit Go.Proofs
namespace I
def qty:Nat->List Nat:=kk [[0,2],([1008800]++rg 5 17),([1,3,4]++rg 22 8)]
def qzp:Spl:=(.node 9 17
 (.node 9 18
 (.node 12 17
 (.node 12 18
 (.node 13 17
 (.node 13 18
 (.node 17 18
 (.leaf (og 0 9++[(11,[]),(9,[1,3,5,11]),(10,[]),(12,[1,3,5])]++og 13 8))
 (.leaf (og 0 9++[(11,[]),(9,[1,3,5,11]),(10,[]),(12,[1,3,5])]++og 13 4++[(18,[]),(17,[]),(19,[]),(20,[])])))
 (.leaf (og 0 9++[(11,[]),(9,[1,3,5,11]),(10,[]),(12,[1,3,5]),(18,[1,3,5])]++og 13 5++[(19,[]),(20,[])])))
 (.node 17 18
 (.node 13 18
 (.leaf (og 0 9++[(11,[]),(9,[1,3,5,11]),(10,[]),(12,[1,3,5]),(17,[1,3,5])]++og 13 4++[(18,[]),(19,[]),(20,[])]))
 (.leaf (og 0 9++[(11,[]),(9,[1,3,5,11]),(10,[]),(12,[1,3,5]),(17,[1,3,5]),(18,[1,3,5])]++og 13 4++[(19,[]),(20,[])])))
 (.leaf (og 0 9++[(11,[]),(9,[1,3,5,11]),(10,[]),(12,[1,3,5]),(18,[1,3,5]),(17,[1,3,5])]++og 13 4++[(19,[]),(20,[])]))))
 (.node 13 17
 (.leaf (og 0 9++[(11,[]),(9,[1,3,5,11]),(10,[]),(18,[1,3,5,11]),(12,[1,3,5])]++og 13 5++[(19,[]),(20,[])]))
 (.leaf (og 0 9++[(11,[]),(9,[1,3,5,11]),(10,[]),(18,[1,3,5,11]),(12,[1,3,5]),(17,[1,3,5])]++og 13 4++[(19,[]),(20,[])]))))
 (.node 17 18
 (.node 12 18
 (.node 13 18
 (.leaf (og 0 9++[(11,[]),(9,[1,3,5,11]),(10,[]),(17,[1,3,5,11]),(12,[1,3,5])]++og 13 4++[(18,[]),(19,[]),(20,[])]))
 (.leaf (og 0 9++[(11,[]),(9,[1,3,5,11]),(10,[]),(17,[1,3,5,11]),(12,[1,3,5]),(18,[1,3,5])]++og 13 4++[(19,[]),(20,[])])))
 (.leaf (og 0 9++[(11,[]),(9,[1,3,5,11]),(10,[]),(17,[1,3,5,11]),(18,[1,3,5,11]),(12,[1,3,5])]++og 13 4++[(19,[]),(20,[])])))
 (.leaf (og 0 9++[(11,[]),(9,[1,3,5,11]),(10,[]),(18,[1,3,5,11]),(17,[1,3,5,11]),(12,[1,3,5])]++og 13 4++[(19,[]),(20,[])]))))
 (.node 12 17
 (.node 13 17
 (.leaf (og 0 9++[(11,[]),(18,[1,3,5,8,11]),(9,[1,3,5,11]),(10,[]),(12,[1,3,5])]++og 13 5++[(19,[]),(20,[])]))
 (.leaf (og 0 9++[(11,[]),(18,[1,3,5,8,11]),(9,[1,3,5,11]),(10,[]),(12,[1,3,5]),(17,[1,3,5])]++og 13 4++[(19,[]),(20,[])])))
 (.leaf (og 0 9++[(11,[]),(18,[1,3,5,8,11]),(9,[1,3,5,11]),(10,[]),(17,[1,3,5,11]),(12,[1,3,5])]++og 13 4++[(19,[]),(20,[])]))))
 (.node 17 18
 (.node 9 18
 (.node 12 18
 (.node 13 18
 (.leaf (og 0 9++[(11,[]),(17,[1,3,5,8,11]),(9,[1,3,5,11]),(10,[]),(12,[1,3,5])]++og 13 4++[(18,[]),(19,[]),(20,[])]))
 (.leaf (og 0 9++[(11,[]),(17,[1,3,5,8,11]),(9,[1,3,5,11]),(10,[]),(12,[1,3,5]),(18,[1,3,5])]++og 13 4++[(19,[]),(20,[])])))
 (.leaf (og 0 9++[(11,[]),(17,[1,3,5,8,11]),(9,[1,3,5,11]),(10,[]),(18,[1,3,5,11]),(12,[1,3,5])]++og 13 4++[(19,[]),(20,[])])))
 (.leaf (og 0 9++[(11,[]),(17,[1,3,5,8,11]),(18,[1,3,5,8,11]),(9,[1,3,5,11]),(10,[]),(12,[1,3,5])]++og 13 4++[(19,[]),(20,[])])))
 (.leaf (og 0 9++[(11,[]),(18,[1,3,5,8,11]),(17,[1,3,5,8,11]),(9,[1,3,5,11]),(10,[]),(12,[1,3,5])]++og 13 4++[(19,[]),(20,[])]))))
def qzaoi:Cd Tryz.prog qty Tryz.f88:=by refine⟨?_,?_⟩;rotate_left;(cbv;try rfl)
def qzavz:IR:=qzaoi.c
theorem qzakn:FnIs Tryz.prog 88 30 [.t 2] qzavz:=fi qty Tryz.func88 Tryz.call88
def qqe:Nat->List Nat:=kk [[0],[12],[13,14,15],[17],[18],[2,3,4,19,20,21],[],[],[24],([6]++rg 25 6),[7,31],([1006900,5]++rg 33 12),[45],[46,47,48],[50],[51],(rg 52 9),[11,61],([1006901,1,8,9]++rg 63 13),[10,76,77],([1006902,1,8,9]++rg 79 13)]
def qvn:List Nat:=([0]++rg 3 19++rg 23 27++rg 52 40)
def qww:List (Nat×List Nat):=(og 0 6++[(6,[0])]++og 7 6)
def qwv:List (Nat×List Nat):=(og 0 7++[(7,[0])]++og 8 6)
def qwu:List (Nat×List Nat):=(og 0 7++[(7,[0])]++og 8 6)
def qzaip:Cd Tryz.prog qqe Tryz.f69:=by refine⟨?_,?_⟩;rotate_left;(cbv;try rfl)
def qzapf:IR:=qzaip.c
theorem qzahn:FnIs Tryz.prog 69 92 [] qzapf:=fi qqe Tryz.func69 Tryz.call69
def qxa:Nat->List Nat:=kk [[1,4],[6],[9],[11],[7,13],([1004200,0,3]++rg 14 9),([1004201,0,3]++rg 23 7),[30,31],[1004202,33],[0,34,35,36,37],([3]++rg 38 5),(rg 43 5),[1004203,48,49]]
def qov:List (Nat×List Nat):=(og 0 5++[(5,[1]),(6,[]),(7,[])])
def qzadi:List (Nat×List Nat):=[(0,[]),(1,[]),(2,[])]
def qzadh:List (Nat×List Nat):=[(0,[]),(1,[]),(2,[1]),(3,[])]
def qzaph:Cd Tryz.prog qxa Tryz.f42:=by refine⟨?_,?_⟩;rotate_left;(cbv;try rfl)
def write_goes:IR:=qzaph.c
theorem qyd:FnIs Tryz.prog 42 50 [.t 4,.c 5 true 13] write_goes:=fi qxa Tryz.func42 Tryz.call42
def qht:Nat->List Nat:=kk [[2],[6,7],[0,8,9,10],[],[],[12,13,14],[16,17],[],[18,19],[21,22],([1012700]++rg 23 23)]
def qnj:List Nat:=([0,1,2]++rg 5 42)
def qni:List Nat:=([0,1,2]++rg 6 41)
def qnv:List (Nat×List Nat):=(og 0 24)
def qvz:Cd Tryz.prog qht Tryz.f127:=by refine⟨?_,?_⟩;rotate_left;(cbv;try rfl)
def qzabq:IR:=qvz.c
theorem qsz:FnIs Tryz.prog 127 47 [.t 2] qzabq:=fi qht Tryz.func127 Tryz.call127
def qhw:Nat->List Nat:=kk [[0,1,7],[8],[2,10,11,12,13],[15],[16],([2,3,4]++rg 17 6),[24],[25],([2]++rg 26 7),[34],[2,35,36,37],[39],([2]++rg 40 6),[47],(rg 48 6),([2]++rg 54 5),[60],[2,61,62,63],[9,65],[66,67,68],([2]++rg 69 5),[3,74]]
def qwd:Cd Tryz.prog qhw Tryz.f122:=by refine⟨?_,?_⟩;rotate_left;(cbv;try rfl)
def qzabu:IR:=qwd.c
theorem qie:FnIs Tryz.prog 122 75 [.c 6 true 13,.t 7] qzabu:=fi qhw Tryz.func122 Tryz.call122
def qkm:Nat->List Nat:=kk [[2],[3],[],[0,5,6,7]]
def qns:IR:=
 (sr [o 2 (.mv (.c (.re (.slice none 0 0))))] [2] (.seq (sr [m 3 0,o 4 (.nilS false (t 3))] [3] (.cond (t 4) (sr [o 2 (.mv (.c (.re (.slice none 0 0))))] [] .ret) .skip)) (sr [o 5 (.buildS 1 0 [(.i .i64 (.l 0))] []),m 6 0,o 7 (.app 1 (t 5) (t 6)),m 2 7] [0,5,6,7] .ret)))
theorem qkq:FnIs Tryz.prog 99 8 [.t 2] qns:=fi qkm Tryz.func99 Tryz.call99
def qdy:Nat->List Nat:=kk [[4],[6,7,8,9],[],[11],[],[15],([1009500,5]++rg 16 8),[],[25]]
def qzawy:List (Nat×List Nat):=(og 0 9)
def qlo:Cd Tryz.prog qdy Tryz.f95:=by refine⟨?_,?_⟩;rotate_left;(cbv;try rfl)
def qnq:IR:=qlo.c
theorem qko:FnIs Tryz.prog 95 26 [.t 4] qnq:=fi qdy Tryz.func95 Tryz.call95
def qfi:Nat->List Nat:=kk [[2],[],[],[9,10,11],[13,14],([6]++rg 15 10),([8]++rg 25 10),([5,7]++rg 35 5),[3,40]]
def qkg:List Nat:=([1,2]++rg 5 36)
def qpr:Cd Tryz.prog qfi Tryz.f183:=by refine⟨?_,?_⟩;rotate_left;(cbv;try rfl)
def qth:IR:=qpr.c
theorem qoj:FnIs Tryz.prog 183 41 [.t 2] qth:=fi qfi Tryz.func183 Tryz.call183
def qzaxo:Nat->List Nat:=kk [[4,5],([0,1]++rg 8 6),[6,7,14,15,16]]
def qzayi:IR:=
 (sr [o 4 (.mv (z 0)),o 5 (.mv (z 0))] [4,5] (sr [m 9 0,m 10 1,o 11 (f 170 [(t 9),(t 10),(z 4)]),m 8 11,ex 12 8 0,ex 13 8 1,m 6 12,m 7 13] ([0,1]++rg 8 6) (sr [m 14 6,o 15 (.bin .rem (t 14) (z 2147483648)),m 16 7,m 4 15,m 5 16] [6,7,14,15,16] .ret)))
theorem qzaxr:FnIs Tryz.prog 171 17 [.t 4,.t 5] qzayi:=fi qzaxo Tryz.func171 Tryz.call171
def qmw:Nat->List Nat:=kk [[0,2],([1022600,1]++rg 3 11)]
def qsj:List (Nat×List Nat):=[(0,[]),(1,[]),(3,[]),(4,[]),(5,[]),(7,[]),(8,[]),(2,[4,8]),(6,[8]),(9,[]),(10,[]),(11,[])]
def qzads:Cd Tryz.prog qmw Tryz.f226:=by refine⟨?_,?_⟩;rotate_left;(cbv;try rfl)
def qzakf:IR:=qzads.c
theorem qzaaq:FnIs Tryz.prog 226 14 [.t 2] qzakf:=fi qmw Tryz.func226 Tryz.call226
def qhr:Nat->List Nat:=kk [[0,2],[7,8,9],[],[],[11],[13,14],[15,16,17,18],[19],([5]++rg 21 7),([4,6]++rg 28 12)]
def qnh:List Nat:=([0,2]++rg 4 37)
def qvw:Cd Tryz.prog qhr Tryz.f63:=by refine⟨?_,?_⟩;rotate_left;(cbv;try rfl)
def qzabl:IR:=qvw.c
theorem qid:FnIs Tryz.prog 63 41 [.t 2] qzabl:=fi qhr Tryz.func63 Tryz.call63
def qzacu:Nat->List Nat:=kk [[0,2,3],[7,8],[],([1004400]++rg 10 6),([1]++rg 16 13),[4,5,6,29,30,31,32]]
def qje:List (Nat×List Nat):=[(0,[]),(1,[]),(4,[]),(2,[4]),(3,[]),(5,[]),(6,[])]
def qzawa:Cd Tryz.prog qzacu Tryz.f44:=by refine⟨?_,?_⟩;rotate_left;(cbv;try rfl)
def frame_Put:IR:=qzawa.c
theorem qre:FnIs Tryz.prog 44 33 [.t 2,.t 3] frame_Put:=fi qzacu Tryz.func44 Tryz.call44
def qjg:Nat->List Nat:=kk [[0,2],(rg 4 15),[],[],[20,21,22,23],[25,26],(rg 27 17)]
def qom:List Nat:=([0,2]++rg 4 41)
def qyx:Cd Tryz.prog qjg Tryz.f21:=by refine⟨?_,?_⟩;rotate_left;(cbv;try rfl)
def qzaeb:IR:=qyx.c
theorem qva:FnIs Tryz.prog 21 45 [.t 2] qzaeb:=fi qjg Tryz.func21 Tryz.call21
def qzacr:Nat->List Nat:=kk [[0,11],([12]++rg 14 6),([13]++rg 20 15),[5,36],[4,38,39],[5,40],[3,42],(rg 43 5),([1,2,5]++rg 48 6),[1,2,54,55,56,57],[5,58]]
def qzaum:Cd Tryz.prog qzacr Tryz.f111:=by refine⟨?_,?_⟩;rotate_left;(cbv;try rfl)
def turn_Over:IR:=qzaum.c
theorem qqx:FnIs Tryz.prog 111 59 [.c 10 true 9,.t 11] turn_Over:=fi qzacr Tryz.func111 Tryz.call111
def qlc:Nat->List Nat:=kk [[0,2],[3],[6],[7],[8],[9],[10],[1,11,12,13],[15],[16],[17],[4,18],[1,19,20,21]]
def qzabv:Cd Tryz.prog qlc Tryz.f172:=by refine⟨?_,?_⟩;rotate_left;(cbv;try rfl)
def qzaih:IR:=qzabv.c
theorem qlh:FnIs Tryz.prog 172 22 [.t 2] qzaih:=fi qlc Tryz.func172 Tryz.call172
def qzanv:Nat->List Nat:=kk [[0,2],([1]++rg 3 8)]
def table_Size:IR:=
 (sr [o 1 (.box (t 0)),o 2 (.mv (z 0))] [0,2] (sr [fd 3 0 1,l1 4 3,o 5 (.len true (t 4)),o 6 (.bin .add (z 32) (t 5)),fd 7 1 1,l1 8 7,o 9 (.len true (t 8)),o 10 (.bin .add (t 6) (t 9)),m 2 10] ([1]++rg 3 8) .ret))
theorem qzaoq:FnIs Tryz.prog 150 11 [.t 2] table_Size:=fi qzanv Tryz.func150 Tryz.call150
def qzagx:Nat->List Nat:=kk [[4],([0,1]++rg 5 7)]
def qzape:IR:=
 (sr [o 4 (.mv (.c .ff))] [4] (sr [m 5 0,o 6 (.bin .ge (t 5) (z 0)),m 7 6,mq 8 0 7 true,mq 9 1 7 true,q 10 (.bin .le (t 8) (t 9)) 7 true,o 11 (.pick (t 7) (t 10) (.c .ff)),m 4 11] ([0,1]++rg 5 7) .ret))
theorem qby:FnIs Tryz.prog 49 12 [.t 4] qzape:=fi qzagx Tryz.func49 Tryz.call49
def qxq:Nat->List Nat:=kk [[6,7],[],[],(rg 11 6),[],(rg 18 11),([0,1,2]++rg 30 5),[],[39,40],([10]++rg 41 5),[46],[8,47,48],[49]]
def qzarl:Cd Tryz.prog qxq Tryz.f256:=by refine⟨?_,?_⟩;rotate_left;(cbv;try rfl)
def octet_Take:IR:=qzarl.c
theorem qyl:FnIs Tryz.prog 256 50 [.t 6,.t 7] octet_Take:=fi qxq Tryz.func256 Tryz.call256
def qmv:Nat->List Nat:=kk [[4],(rg 8 5),(rg 13 5),([1]++rg 19 6),([0,5,6]++rg 25 8),[7,33,34]]
def qzadr:Cd Tryz.prog qmv Tryz.f206:=by refine⟨?_,?_⟩;rotate_left;(cbv;try rfl)
def qzakb:IR:=qzadr.c
theorem qnb:FnIs Tryz.prog 206 35 [.t 4] qzakb:=fi qmv Tryz.func206 Tryz.call206
def qtu:Nat->List Nat:=kk [[0],[6,7],([2]++rg 8 10),[5,19],[20,21],[1,22,23],[25,26,27],[5,28]]
def qzams:Cd Tryz.prog qtu Tryz.f110:=by refine⟨?_,?_⟩;rotate_left;(cbv;try rfl)
def qzaut:IR:=qzams.c
theorem qlz:FnIs Tryz.prog 110 29 [.c 4 true 11] qzaut:=fi qtu Tryz.func110 Tryz.call110
def quv:Nat->List Nat:=kk [[],[1]]
def qzaep:IR:=
 (sr [o 0 (.alloc [.ff,(.i .i64 (.l 0)),(.i .u32 (.l 0))])] [] (sr [o 1 (.build [.ff,(.i .i64 (.l 0)),(.i .u32 (.l 0))] []),u (.store 3 (t 0) (t 1))] [1] .ret))
theorem qbc:FnIs Tryz.prog 121 2 [.c 0 true 3] qzaep:=fi quv Tryz.func121 Tryz.call121
def qib:Nat->List Nat:=kk [[0,2],([1]++rg 3 18)]
def qwi:Cd Tryz.prog qib Tryz.f118:=by refine⟨?_,?_⟩;rotate_left;(cbv;try rfl)
def qzacb:IR:=qwi.c
theorem qii:FnIs Tryz.prog 118 21 [.t 2] qzacb:=fi qib Tryz.func118 Tryz.call118
def qzahd:Nat->List Nat:=kk [[0,5],(rg 8 6),[7,14],[2,16],(rg 17 5),[6,23,24,25],([1]++rg 26 8),[2,34]]
def turn_Out_c:Cd Tryz.prog qzahd Tryz.f134:=by refine⟨?_,?_⟩;rotate_left;(cbv;try rfl)
def turn_Out:IR:=turn_Out_c.c
theorem qux:FnIs Tryz.prog 134 35 [.c 4 true 9,.t 5] turn_Out:=fi qzahd Tryz.func134 Tryz.call134
def qqi:Nat->List Nat:=kk [[6,7],([2]++rg 8 13),[0,1,22,23,24],[0,25]]
def qzaix:Cd Tryz.prog qqi Tryz.f138:=by refine⟨?_,?_⟩;rotate_left;(cbv;try rfl)
def qzapy:IR:=qzaix.c
theorem qdq:FnIs Tryz.prog 138 26 [.t 6,.t 7] qzapy:=fi qqi Tryz.func138 Tryz.call138
def qxh:Nat->List Nat:=kk [[0,5],[1,7,8,9],(rg 10 5),([2,6]++rg 16 6),[22]]
def qzaps:Cd Tryz.prog qxh Tryz.f32:=by refine⟨?_,?_⟩;rotate_left;(cbv;try rfl)
def write_Find:IR:=qzaps.c
theorem qzaon:FnIs Tryz.prog 32 23 [.c 4 true 11,.t 5] write_Find:=fi qxh Tryz.func32 Tryz.call32
def qtw:Nat->List Nat:=kk [[],([0]++rg 5 6),[4],[3,12],[13,14]]
def qzaod:Cd Tryz.prog qtw Tryz.f113:=by refine⟨?_,?_⟩;rotate_left;(cbv;try rfl)
def qzavw:IR:=qzaod.c
theorem qef:FnIs Tryz.prog 113 15 [.c 2 true 4] qzavw:=fi qtw Tryz.func113 Tryz.call113
def qqj:Nat->List Nat:=kk [[2],([0]++rg 3 14)]
def qzaiy:Cd Tryz.prog qqj Tryz.f133:=by refine⟨?_,?_⟩;rotate_left;(cbv;try rfl)
def qzaqa:IR:=qzaiy.c
theorem qqw:FnIs Tryz.prog 133 17 [.t 2] qzaqa:=fi qqj Tryz.func133 Tryz.call133
def qzahi:Nat->List Nat:=kk [[0,3,5],[1,2,6,7,8]]
def qzasl:IR:=
 (sr [o 3 (.box (t 0)),o 5 (.mv (.c .ff))] [0,3,5] (sr [m 6 1,l1 7 2,o 8 (.bin .eq (t 6) (t 7)),m 5 8] [1,2,6,7,8] .ret))
theorem qzaht:FnIs Tryz.prog 255 9 [.t 5] qzasl:=fi qzahi Tryz.func255 Tryz.call255
def qtx:Nat->List Nat:=kk [[0],(rg 1 19)]
def qzaoe:Cd Tryz.prog qtx Tryz.f165:=by refine⟨?_,?_⟩;rotate_left;(cbv;try rfl)
def qzavx:IR:=qzaoe.c
theorem qeg:FnIs Tryz.prog 165 20 [.t 0] qzavx:=fi qtx Tryz.func165 Tryz.call165
end I
end Cz
