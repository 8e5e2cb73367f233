/- What the claims of this group lean on: CzR2. No condition. -/
import Derived.Test.YtdldbkpdecbgnaaGreatDoorKY4
set_option maxRecDepth 100000
set_option maxHeartbeats 4000000
namespace Cz
open Go Go.RowKit Go.Proofs
namespace I
def qmu:Nat->List Nat:=kk [[],([1007000]++rg 9 6),(rg 15 23),[],[4,39,40,41,42],[43,44],([1007001,1]++rg 46 11),[],[57,58,59,60],[62],[63],[5,7,64,65,66],[6,8,68,69,70,71],[6,72,73,74,75],[0,76,77]]
def qsi:List (Nat×List Nat):=(og 0 7)
def qsh:Spl:=(.node 0 14
 (.node 4 8
 (.node 4 12
 (.node 4 14
 (.node 8 12
 (.node 8 14
 (.node 12 14
 (.leaf ([(1,[]),(2,[]),(3,[]),(5,[]),(6,[]),(7,[]),(9,[]),(10,[]),(11,[]),(0,[2,6,10]),(4,[6,10]),(8,[10])]++og 12 4))
 (.leaf [(1,[]),(2,[]),(3,[]),(5,[]),(6,[]),(7,[]),(9,[]),(10,[]),(11,[]),(0,[2,6,10]),(4,[6,10]),(8,[10]),(14,[10]),(12,[]),(13,[]),(15,[])]))
 (.leaf [(1,[]),(2,[]),(3,[]),(5,[]),(6,[]),(7,[]),(9,[]),(10,[]),(11,[]),(0,[2,6,10]),(4,[6,10]),(14,[6,10]),(8,[10]),(12,[]),(13,[]),(15,[])]))
 (.node 12 14
 (.node 8 14
 (.leaf [(1,[]),(2,[]),(3,[]),(5,[]),(6,[]),(7,[]),(9,[]),(10,[]),(11,[]),(0,[2,6,10]),(4,[6,10]),(12,[6]),(8,[]),(13,[]),(14,[]),(15,[])])
 (.leaf [(1,[]),(2,[]),(3,[]),(5,[]),(6,[]),(7,[]),(9,[]),(10,[]),(11,[]),(0,[2,6,10]),(4,[6,10]),(12,[6]),(14,[6]),(8,[]),(13,[]),(15,[])]))
 (.leaf [(1,[]),(2,[]),(3,[]),(5,[]),(6,[]),(7,[]),(9,[]),(10,[]),(11,[]),(0,[2,6,10]),(4,[6,10]),(14,[6,10]),(12,[6]),(8,[]),(13,[]),(15,[])])))
 (.node 8 12
 (.leaf [(1,[]),(2,[]),(3,[]),(5,[]),(6,[]),(7,[]),(9,[]),(10,[]),(11,[]),(0,[2,6,10]),(14,[2,6,10]),(4,[6,10]),(8,[10]),(12,[]),(13,[]),(15,[])])
 (.leaf [(1,[]),(2,[]),(3,[]),(5,[]),(6,[]),(7,[]),(9,[]),(10,[]),(11,[]),(0,[2,6,10]),(14,[2,6,10]),(4,[6,10]),(12,[6]),(8,[]),(13,[]),(15,[])])))
 (.node 12 14
 (.node 4 14
 (.node 8 14
 (.leaf [(1,[]),(2,[]),(3,[]),(5,[]),(6,[]),(7,[]),(9,[]),(10,[]),(11,[]),(0,[2,6,10]),(12,[2,6]),(4,[6]),(8,[]),(13,[]),(14,[]),(15,[])])
 (.leaf [(1,[]),(2,[]),(3,[]),(5,[]),(6,[]),(7,[]),(9,[]),(10,[]),(11,[]),(0,[2,6,10]),(12,[2,6]),(4,[6]),(14,[6]),(8,[]),(13,[]),(15,[])]))
 (.leaf [(1,[]),(2,[]),(3,[]),(5,[]),(6,[]),(7,[]),(9,[]),(10,[]),(11,[]),(0,[2,6,10]),(12,[2,6]),(14,[2,6]),(4,[6]),(8,[]),(13,[]),(15,[])]))
 (.leaf [(1,[]),(2,[]),(3,[]),(5,[]),(6,[]),(7,[]),(9,[]),(10,[]),(11,[]),(0,[2,6,10]),(14,[2,6,10]),(12,[2,6]),(4,[6]),(8,[]),(13,[]),(15,[])])))
 (.node 8 12
 (.node 8 14
 (.node 4 12
 (.node 4 14
 (.node 12 14
 (.leaf ([(1,[]),(2,[]),(3,[]),(5,[]),(6,[]),(7,[]),(9,[]),(10,[]),(11,[]),(0,[2,6,10]),(8,[2,10]),(4,[10])]++og 12 4))
 (.leaf [(1,[]),(2,[]),(3,[]),(5,[]),(6,[]),(7,[]),(9,[]),(10,[]),(11,[]),(0,[2,6,10]),(8,[2,10]),(4,[10]),(14,[10]),(12,[]),(13,[]),(15,[])]))
 (.leaf [(1,[]),(2,[]),(3,[]),(5,[]),(6,[]),(7,[]),(9,[]),(10,[]),(11,[]),(0,[2,6,10]),(8,[2,10]),(14,[2,10]),(4,[10]),(12,[]),(13,[]),(15,[])]))
 (.node 12 14
 (.node 4 14
 (.leaf [(1,[]),(2,[]),(3,[]),(5,[]),(6,[]),(7,[]),(9,[]),(10,[]),(11,[]),(0,[2,6,10]),(8,[2,10]),(12,[2]),(4,[]),(13,[]),(14,[]),(15,[])])
 (.leaf [(1,[]),(2,[]),(3,[]),(5,[]),(6,[]),(7,[]),(9,[]),(10,[]),(11,[]),(0,[2,6,10]),(8,[2,10]),(12,[2]),(14,[2]),(4,[]),(13,[]),(15,[])]))
 (.leaf [(1,[]),(2,[]),(3,[]),(5,[]),(6,[]),(7,[]),(9,[]),(10,[]),(11,[]),(0,[2,6,10]),(8,[2,10]),(14,[2,10]),(12,[2]),(4,[]),(13,[]),(15,[])])))
 (.node 4 12
 (.leaf [(1,[]),(2,[]),(3,[]),(5,[]),(6,[]),(7,[]),(9,[]),(10,[]),(11,[]),(0,[2,6,10]),(14,[2,6,10]),(8,[2,10]),(4,[10]),(12,[]),(13,[]),(15,[])])
 (.leaf [(1,[]),(2,[]),(3,[]),(5,[]),(6,[]),(7,[]),(9,[]),(10,[]),(11,[]),(0,[2,6,10]),(14,[2,6,10]),(8,[2,10]),(12,[2]),(4,[]),(13,[]),(15,[])])))
 (.node 12 14
 (.node 8 14
 (.node 4 14
 (.leaf [(1,[]),(2,[]),(3,[]),(5,[]),(6,[]),(7,[]),(9,[]),(10,[]),(11,[]),(0,[2,6,10]),(12,[2,6]),(8,[2]),(4,[]),(13,[]),(14,[]),(15,[])])
 (.leaf [(1,[]),(2,[]),(3,[]),(5,[]),(6,[]),(7,[]),(9,[]),(10,[]),(11,[]),(0,[2,6,10]),(12,[2,6]),(8,[2]),(14,[2]),(4,[]),(13,[]),(15,[])]))
 (.leaf [(1,[]),(2,[]),(3,[]),(5,[]),(6,[]),(7,[]),(9,[]),(10,[]),(11,[]),(0,[2,6,10]),(12,[2,6]),(14,[2,6]),(8,[2]),(4,[]),(13,[]),(15,[])]))
 (.leaf [(1,[]),(2,[]),(3,[]),(5,[]),(6,[]),(7,[]),(9,[]),(10,[]),(11,[]),(0,[2,6,10]),(14,[2,6,10]),(12,[2,6]),(8,[2]),(4,[]),(13,[]),(15,[])]))))
 (.node 4 8
 (.node 4 12
 (.node 8 12
 (.leaf [(1,[]),(2,[]),(3,[]),(5,[]),(6,[]),(7,[]),(9,[]),(10,[]),(11,[]),(14,[2,6,10]),(0,[2,6,10]),(4,[6,10]),(8,[10]),(12,[]),(13,[]),(15,[])])
 (.leaf [(1,[]),(2,[]),(3,[]),(5,[]),(6,[]),(7,[]),(9,[]),(10,[]),(11,[]),(14,[2,6,10]),(0,[2,6,10]),(4,[6,10]),(12,[6]),(8,[]),(13,[]),(15,[])]))
 (.leaf [(1,[]),(2,[]),(3,[]),(5,[]),(6,[]),(7,[]),(9,[]),(10,[]),(11,[]),(14,[2,6,10]),(0,[2,6,10]),(12,[2,6]),(4,[6]),(8,[]),(13,[]),(15,[])]))
 (.node 8 12
 (.node 4 12
 (.leaf [(1,[]),(2,[]),(3,[]),(5,[]),(6,[]),(7,[]),(9,[]),(10,[]),(11,[]),(14,[2,6,10]),(0,[2,6,10]),(8,[2,10]),(4,[10]),(12,[]),(13,[]),(15,[])])
 (.leaf [(1,[]),(2,[]),(3,[]),(5,[]),(6,[]),(7,[]),(9,[]),(10,[]),(11,[]),(14,[2,6,10]),(0,[2,6,10]),(8,[2,10]),(12,[2]),(4,[]),(13,[]),(15,[])]))
 (.leaf [(1,[]),(2,[]),(3,[]),(5,[]),(6,[]),(7,[]),(9,[]),(10,[]),(11,[]),(14,[2,6,10]),(0,[2,6,10]),(12,[2,6]),(8,[2]),(4,[]),(13,[]),(15,[])]))))
def qzade:Cd Tryz.prog qmu Tryz.f70:=by refine⟨?_,?_⟩;rotate_left;(cbv;try rfl)
def qzaiv:IR:=qzade.c
theorem qzaam:FnIs Tryz.prog 70 78 [.t 3] qzaiv:=fi qmu Tryz.func70 Tryz.call70
def qjs:Nat->List Nat:=kk [[0,4],[],[],[8,9,10,11],[13,14],([1003400]++rg 15 17),(rg 33 7),[],[40,41,42,43],[45,46],([1003401]++rg 47 18),[],[5,66,67]]
def qft:List Nat:=([0,1,3,4,6]++rg 8 60)
def qfs:List Nat:=([0,3,4]++rg 7 61)
def qcb:List (Nat×List Nat):=(og 0 18)
def qca:List (Nat×List Nat):=(og 0 19)
def qzl:Cd Tryz.prog qjs Tryz.f34:=by refine⟨?_,?_⟩;rotate_left;(cbv;try rfl)
def qzaes:IR:=qzl.c
theorem qkb:FnIs Tryz.prog 34 68 [.t 4] qzaes:=fi qjs Tryz.func34 Tryz.call34
def qht:Nat->List Nat:=kk [[2],[6,7],[0,8,9,10],[],[],[12,13,14],[16,17],[],[18,19],[21,22],([1012100]++rg 23 23)]
def qnj:List Nat:=([0,1,2]++rg 5 42)
def qni:List Nat:=([0,1,2]++rg 6 41)
def qnv:List (Nat×List Nat):=(og 0 24)
def qvz:Cd Tryz.prog qht Tryz.f121:=by refine⟨?_,?_⟩;rotate_left;(cbv;try rfl)
def qzabq:IR:=qvz.c
theorem qsz:FnIs Tryz.prog 121 47 [.t 2] qzabq:=fi qht Tryz.func121 Tryz.call121
def qtp:Nat->List Nat:=kk [[],(rg 6 16),[],[23],[24,25,26,27],[29],([1004300,4,5]++rg 31 6),([4]++rg 37 12),([1004301,0,1]++rg 50 11)]
def qzy:List (Nat×List Nat):=(og 0 4++[(4,[2]),(5,[]),(6,[])])
def qzx:List (Nat×List Nat):=(og 0 6++[(6,[4]),(7,[4])]++og 8 4)
def qzamc:Cd Tryz.prog qtp Tryz.f43:=by refine⟨?_,?_⟩;rotate_left;(cbv;try rfl)
def qzatu:IR:=qzamc.c
theorem qlx:FnIs Tryz.prog 43 61 [.t 3] qzatu:=fi qtp Tryz.func43 Tryz.call43
def qcn:Nat->List Nat:=kk [[4],[6],[],[10],(rg 11 5),[5,17],[18]]
def qaw:List Nat:=(rg 2 5++rg 9 10)
def qgs:Cd Tryz.prog qcn Tryz.f99:=by refine⟨?_,?_⟩;rotate_left;(cbv;try rfl)
def qil:IR:=qgs.c
theorem qaz:FnIs Tryz.prog 99 19 [.t 4] qil:=fi qcn Tryz.func99 Tryz.call99
def qoz:Nat->List Nat:=kk [[0,2],[],[6],[8,9],([1007200,3]++rg 10 33),[44],[],[49,50],[5,51,52],[54],([1]++rg 55 13)]
def qij:List Nat:=([0]++rg 2 43++rg 48 20)
def qeo:List (Nat×List Nat):=(og 0 34)
def qzafm:Cd Tryz.prog qoz Tryz.f72:=by refine⟨?_,?_⟩;rotate_left;(cbv;try rfl)
def qzaly:IR:=qzafm.c
theorem qhe:FnIs Tryz.prog 72 68 [.t 2] qzaly:=fi qoz Tryz.func72 Tryz.call72
def qzajo:Nat->List Nat:=kk [[4,5],([0,1]++rg 6 11)]
def qzaug:IR:=
 (sr [o 4 (.mv (z 0)),o 5 (.mv (.c .ff))] [4,5] (sr [m 6 0,m 7 1,m 8 1,o 9 (.bin .gt (t 8) (z 0)),m 10 9,mq 11 1 10 true,q 12 (.bin .le (t 11) (z 2147483647)) 10 true,o 13 (.pick (t 10) (t 12) (.c .ff)),o 14 (f 132 [(t 6),(t 7),(t 13)]),ex 15 14 0,ex 16 14 1,m 4 15,m 5 16] ([0,1]++rg 6 11) .ret))
theorem quf:FnIs Tryz.prog 67 17 [.t 4,.t 5] qzaug:=fi qzajo Tryz.func67 Tryz.call67
def qhn:Nat->List Nat:=kk [[0,2],[3],[6],[1,7,8,9,10],[12],([1]++rg 13 8),[22],[1,23,24,25,26],[28],([1]++rg 29 8),[38],([1]++rg 39 8),[48],([1]++rg 49 8),[4,58],([1]++rg 59 14)]
def qvs:Cd Tryz.prog qhn Tryz.f18:=by refine⟨?_,?_⟩;rotate_left;(cbv;try rfl)
def qzabh:IR:=qvs.c
theorem qsr:FnIs Tryz.prog 18 73 [.t 2] qzabh:=fi qhn Tryz.func18 Tryz.call18
def qpd:Nat->List Nat:=kk [[4],([1021800,0,1]++rg 5 16)]
def qup:List (Nat×List Nat):=(og 0 4++[(5,[]),(7,[]),(8,[]),(4,[]),(6,[])]++og 9 10)
def qzahl:Cd Tryz.prog qpd Tryz.f218:=by refine⟨?_,?_⟩;rotate_left;(cbv;try rfl)
def qzaof:IR:=qzahl.c
theorem qzady:FnIs Tryz.prog 218 21 [.t 4] qzaof:=fi qpd Tryz.func218 Tryz.call218
def qzahf:Nat->List Nat:=kk [[0,5],([1,2]++rg 6 5)]
def qzaqp:IR:=
 (sr [o 2 (.box (t 0)),o 4 (.alloc z2),o 5 (.mv (.c .ff))] [0,5] (sr [o 6 (.load true 11 (t 2)),m 7 1,o 8 (f 133 [(t 6),(t 7),(.c (.fn (.func 134) [] []))]),ex 9 8 0,ex 10 8 1,u (.store 11 (t 4) (t 9)),m 5 10] ([1,2]++rg 6 5) .ret))
theorem qra:FnIs Tryz.prog 69 11 [.c 4 true 11,.t 5] qzaqp:=fi qzahf Tryz.func69 Tryz.call69
def qeb:Nat->List Nat:=kk [[4],[6,7,8,9],[],[11],[],[15],([1008500,5]++rg 16 8),[],[25]]
def qmh:Cd Tryz.prog qeb Tryz.f85:=by refine⟨?_,?_⟩;rotate_left;(cbv;try rfl)
def qpi:IR:=qmh.c
theorem qch:FnIs Tryz.prog 85 26 [.t 4] qpi:=fi qeb Tryz.func85 Tryz.call85
def qhx:Nat->List Nat:=kk [[0],[6,7],[8],(rg 10 7),[17],(rg 19 8),[2,27,28,29],[1,2,31,32,33],[34],[35]]
def qwe:Cd Tryz.prog qhx Tryz.f114:=by refine⟨?_,?_⟩;rotate_left;(cbv;try rfl)
def qzabw:IR:=qwe.c
theorem qif:FnIs Tryz.prog 114 36 [.c 4 true 3] qzabw:=fi qhx Tryz.func114 Tryz.call114
def qmy:Nat->List Nat:=kk [[0,4,5],[9,10],[],[12,13,14],[15],[6,17],([1]++rg 18 7),[8,25],[],([2,7]++rg 27 8),[6,35]]
def qzaed:Cd Tryz.prog qmy Tryz.f56:=by refine⟨?_,?_⟩;rotate_left;(cbv;try rfl)
def qzako:IR:=qzaed.c
theorem qzaar:FnIs Tryz.prog 56 36 [.t 4,.t 5] qzako:=fi qmy Tryz.func56 Tryz.call56
def qqq:Nat->List Nat:=kk [[2],([0]++rg 3 6)]
def qyz:IR:=
 (sr [o 2 (.mv (.c .ff))] [2] (sr [m 3 0,o 4 (.bin .ge (t 3) (z 0)),m 5 4,mq 6 0 5 true,q 7 (.bin .lt (t 6) (z 8)) 5 true,o 8 (.pick (t 5) (t 7) (.c .ff)),m 2 8] ([0]++rg 3 6) .ret))
theorem qgw:FnIs Tryz.prog 123 9 [.t 2] qyz:=fi qqq Tryz.func123 Tryz.call123
def qzado:Nat->List Nat:=kk [[4],([0,1]++rg 5 7)]
def qzamq:IR:=
 (sr [o 4 (.mv (.c .ff))] [4] (sr [m 5 0,o 6 (.bin .ge (t 5) (z 0)),m 7 6,mq 8 0 7 true,mq 9 1 7 true,q 10 (.bin .le (t 8) (t 9)) 7 true,o 11 (.pick (t 7) (t 10) (.c .ff)),m 4 11] ([0,1]++rg 5 7) .ret))
theorem qzadw:FnIs Tryz.prog 126 12 [.t 4] qzamq:=fi qzado Tryz.func126 Tryz.call126
def qmx:Nat->List Nat:=kk [[1],[],[10,11],[12],(rg 14 13),(rg 27 14),[41],([4]++rg 43 9),[52],([5]++rg 53 8),[62]]
def qzadt:Cd Tryz.prog qmx Tryz.f256:=by refine⟨?_,?_⟩;rotate_left;(cbv;try rfl)
def qzakg:IR:=qzadt.c
theorem qdv:FnIs Tryz.prog 256 63 [] qzakg:=fi qmx Tryz.func256 Tryz.call256
def qzanx:Nat->List Nat:=kk [[0],[3,4,5,6],[1,7]]
def stream_Own:IR:=
 (sr [o 1 (.box (t 0)),o 2 (.alloc z2)] [0] (sr [fd 3 7 1,l1 4 3,o 5 (f 102 [(t 4)]),fd 6 7 1,u (.store 1 (t 6) (t 5))] [3,4,5,6] (sr [o 7 (.load true 11 (t 1)),u (.store 11 (t 2) (t 7))] [1,7] .ret)))
theorem qzaos:FnIs Tryz.prog 60 8 [.c 2 true 11] stream_Own:=fi qzanx Tryz.func60 Tryz.call60
def qzarx:Nat->List Nat:=kk [[4],([0,1]++rg 5 6)]
def frame_own:IR:=
 (sr [o 4 (.mv (z 0))] [4] (sr [m 5 0,m 6 1,o 7 (f 209 [(t 5),(t 6)]),o 8 (.bin .shl (t 7) (.c (.i .u64 (.l 1)))),o 9 (.bin .shr (t 8) (.c (.i .u64 (.l 1)))),o 10 (.cv .i64 (t 9)),m 4 10] ([0,1]++rg 5 6) .ret))
theorem qzacy:FnIs Tryz.prog 219 11 [.t 4] frame_own:=fi qzarx Tryz.func219 Tryz.call219
def qmv:Nat->List Nat:=kk [[4],(rg 8 5),(rg 13 5),([1]++rg 19 6),([0,5,6]++rg 25 8),[7,33,34]]
def qzadr:Cd Tryz.prog qmv Tryz.f200:=by refine⟨?_,?_⟩;rotate_left;(cbv;try rfl)
def qzakb:IR:=qzadr.c
theorem qnb:FnIs Tryz.prog 200 35 [.t 4] qzakb:=fi qmv Tryz.func200 Tryz.call200
def qzacq:Nat->List Nat:=kk [[0,7],([2]++rg 12 8),([1,10]++rg 20 6),([9,11]++rg 26 9),[3,36],[8,37,38],[3,39]]
def qzaul:Cd Tryz.prog qzacq Tryz.f129:=by refine⟨?_,?_⟩;rotate_left;(cbv;try rfl)
def turn_Push:IR:=qzaul.c
theorem qzasw:FnIs Tryz.prog 129 40 [.c 6 true 9,.t 7] turn_Push:=fi qzacq Tryz.func129 Tryz.call129
def qzajt:Nat->List Nat:=kk [[2],([0]++rg 3 6)]
def qzavl:IR:=
 (sr [o 2 (.mv (.c .ff))] [2] (sr [m 3 0,o 4 (.bin .gt (t 3) (z 0)),m 5 4,mq 6 0 5 true,q 7 (.bin .le (t 6) (z 4)) 5 true,o 8 (.pick (t 5) (t 7) (.c .ff)),m 2 8] ([0]++rg 3 6) .ret))
theorem qgl:FnIs Tryz.prog 267 9 [.t 2] qzavl:=fi qzajt Tryz.func267 Tryz.call267
def quv:Nat->List Nat:=kk [[],[1]]
def qzaep:IR:=
 (sr [o 0 (.alloc [.ff,(.i .i64 (.l 0)),(.i .u32 (.l 0))])] [] (sr [o 1 (.build [.ff,(.i .i64 (.l 0)),(.i .u32 (.l 0))] []),u (.store 3 (t 0) (t 1))] [1] .ret))
theorem qbc:FnIs Tryz.prog 115 2 [.c 0 true 3] qzaep:=fi quv Tryz.func115 Tryz.call115
def qib:Nat->List Nat:=kk [[0,2],([1]++rg 3 18)]
def qwi:Cd Tryz.prog qib Tryz.f112:=by refine⟨?_,?_⟩;rotate_left;(cbv;try rfl)
def qzacb:IR:=qwi.c
theorem qii:FnIs Tryz.prog 112 21 [.t 2] qzacb:=fi qib Tryz.func112 Tryz.call112
def qxi:Nat->List Nat:=kk [[1],[8,9],[],[0,11],[13],[14],[3,7,15,16],[6,18]]
def qzapw:Cd Tryz.prog qxi Tryz.f236:=by refine⟨?_,?_⟩;rotate_left;(cbv;try rfl)
def word_first:IR:=qzapw.c
theorem qyg:FnIs Tryz.prog 236 19 [.c 4 false 1,.c 5 false 1] word_first:=fi qxi Tryz.func236 Tryz.call236
def qqm:Nat->List Nat:=kk [[0,2],(rg 3 19),(rg 23 21),(rg 45 13),([1]++rg 59 14)]
def qzajb:Cd Tryz.prog qqm Tryz.f58:=by refine⟨?_,?_⟩;rotate_left;(cbv;try rfl)
def qzaqr:IR:=qzajb.c
theorem qzahr:FnIs Tryz.prog 58 73 [.t 2] qzaqr:=fi qqm Tryz.func58 Tryz.call58
def qzajx:Nat->List Nat:=kk [[4],[0,1,5,6,7,8,9]]
def qzawn:IR:=
 (sr [o 4 (.mv (.c .ff))] [4] (sr [m 5 0,o 6 (.cvBS (t 5)),m 7 1,o 8 (.cvBS (t 7)),o 9 (.bin .eq (t 6) (t 8)),m 4 9] [0,1,5,6,7,8,9] .ret))
theorem qgo:FnIs Tryz.prog 84 10 [.t 4] qzawn:=fi qzajx Tryz.func84 Tryz.call84
def qzacs:Nat->List Nat:=kk [[3],(rg 4 5),[10],[0,11,12],[13]]
def qzaur:Cd Tryz.prog qzacs Tryz.f62:=by refine⟨?_,?_⟩;rotate_left;(cbv;try rfl)
def table_New:IR:=qzaur.c
theorem qzasz:FnIs Tryz.prog 62 14 [.c 2 true 2,.t 3] table_New:=fi qzacs Tryz.func62 Tryz.call62
def qzahi:Nat->List Nat:=kk [[0,3,5],[1,2,6,7,8]]
def qzasl:IR:=
 (sr [o 3 (.box (t 0)),o 5 (.mv (.c .ff))] [0,3,5] (sr [m 6 1,l1 7 2,o 8 (.bin .eq (t 6) (t 7)),m 5 8] [1,2,6,7,8] .ret))
theorem qzaht:FnIs Tryz.prog 249 9 [.t 5] qzasl:=fi qzahi Tryz.func249 Tryz.call249
def qtx:Nat->List Nat:=kk [[0],(rg 1 19)]
def qzaoe:Cd Tryz.prog qtx Tryz.f159:=by refine⟨?_,?_⟩;rotate_left;(cbv;try rfl)
def qzavx:IR:=qzaoe.c
theorem qeg:FnIs Tryz.prog 159 20 [.t 0] qzavx:=fi qtx Tryz.func159 Tryz.call159
end I
end Cz
