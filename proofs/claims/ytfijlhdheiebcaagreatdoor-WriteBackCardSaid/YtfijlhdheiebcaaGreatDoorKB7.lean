/- What the claims of this group lean on: CzR2. No condition. -/
import Derived.Test.YtfijlhdheiebcaaGreatDoorKB4
set_option maxRecDepth 100000
set_option maxHeartbeats 4000000
namespace Cz
open Go Go.RowKit Go.Proofs
namespace I
def qmu:Nat->List Nat:=kk [[],([1007700]++rg 9 6),(rg 15 23),[],[4,39,40,41,42],[43,44],([1007701,1]++rg 46 11),[],[57,58,59,60],[62],[63],[5,7,64,65,66],[6,8,68,69,70,71],[6,72,73,74,75],[0,76,77]]
def qsi:List (Nat×List Nat):=(og 0 7)
def qsh:Spl:=(.node 0 14
 (.node 4 8
 (.node 4 12
 (.node 4 14
 (.node 8 12
 (.node 8 14
 (.node 12 14
 (.leaf ([(1,[]),(2,[]),(3,[]),(5,[]),(6,[]),(7,[]),(9,[]),(10,[]),(11,[]),(0,[2,6,10]),(4,[6,10]),(8,[10])]++og 12 4))
 (.leaf [(1,[]),(2,[]),(3,[]),(5,[]),(6,[]),(7,[]),(9,[]),(10,[]),(11,[]),(0,[2,6,10]),(4,[6,10]),(8,[10]),(14,[10]),(12,[]),(13,[]),(15,[])]))
 (.leaf [(1,[]),(2,[]),(3,[]),(5,[]),(6,[]),(7,[]),(9,[]),(10,[]),(11,[]),(0,[2,6,10]),(4,[6,10]),(14,[6,10]),(8,[10]),(12,[]),(13,[]),(15,[])]))
 (.node 12 14
 (.node 8 14
 (.leaf [(1,[]),(2,[]),(3,[]),(5,[]),(6,[]),(7,[]),(9,[]),(10,[]),(11,[]),(0,[2,6,10]),(4,[6,10]),(12,[6]),(8,[]),(13,[]),(14,[]),(15,[])])
 (.leaf [(1,[]),(2,[]),(3,[]),(5,[]),(6,[]),(7,[]),(9,[]),(10,[]),(11,[]),(0,[2,6,10]),(4,[6,10]),(12,[6]),(14,[6]),(8,[]),(13,[]),(15,[])]))
 (.leaf [(1,[]),(2,[]),(3,[]),(5,[]),(6,[]),(7,[]),(9,[]),(10,[]),(11,[]),(0,[2,6,10]),(4,[6,10]),(14,[6,10]),(12,[6]),(8,[]),(13,[]),(15,[])])))
 (.node 8 12
 (.leaf [(1,[]),(2,[]),(3,[]),(5,[]),(6,[]),(7,[]),(9,[]),(10,[]),(11,[]),(0,[2,6,10]),(14,[2,6,10]),(4,[6,10]),(8,[10]),(12,[]),(13,[]),(15,[])])
 (.leaf [(1,[]),(2,[]),(3,[]),(5,[]),(6,[]),(7,[]),(9,[]),(10,[]),(11,[]),(0,[2,6,10]),(14,[2,6,10]),(4,[6,10]),(12,[6]),(8,[]),(13,[]),(15,[])])))
 (.node 12 14
 (.node 4 14
 (.node 8 14
 (.leaf [(1,[]),(2,[]),(3,[]),(5,[]),(6,[]),(7,[]),(9,[]),(10,[]),(11,[]),(0,[2,6,10]),(12,[2,6]),(4,[6]),(8,[]),(13,[]),(14,[]),(15,[])])
 (.leaf [(1,[]),(2,[]),(3,[]),(5,[]),(6,[]),(7,[]),(9,[]),(10,[]),(11,[]),(0,[2,6,10]),(12,[2,6]),(4,[6]),(14,[6]),(8,[]),(13,[]),(15,[])]))
 (.leaf [(1,[]),(2,[]),(3,[]),(5,[]),(6,[]),(7,[]),(9,[]),(10,[]),(11,[]),(0,[2,6,10]),(12,[2,6]),(14,[2,6]),(4,[6]),(8,[]),(13,[]),(15,[])]))
 (.leaf [(1,[]),(2,[]),(3,[]),(5,[]),(6,[]),(7,[]),(9,[]),(10,[]),(11,[]),(0,[2,6,10]),(14,[2,6,10]),(12,[2,6]),(4,[6]),(8,[]),(13,[]),(15,[])])))
 (.node 8 12
 (.node 8 14
 (.node 4 12
 (.node 4 14
 (.node 12 14
 (.leaf ([(1,[]),(2,[]),(3,[]),(5,[]),(6,[]),(7,[]),(9,[]),(10,[]),(11,[]),(0,[2,6,10]),(8,[2,10]),(4,[10])]++og 12 4))
 (.leaf [(1,[]),(2,[]),(3,[]),(5,[]),(6,[]),(7,[]),(9,[]),(10,[]),(11,[]),(0,[2,6,10]),(8,[2,10]),(4,[10]),(14,[10]),(12,[]),(13,[]),(15,[])]))
 (.leaf [(1,[]),(2,[]),(3,[]),(5,[]),(6,[]),(7,[]),(9,[]),(10,[]),(11,[]),(0,[2,6,10]),(8,[2,10]),(14,[2,10]),(4,[10]),(12,[]),(13,[]),(15,[])]))
 (.node 12 14
 (.node 4 14
 (.leaf [(1,[]),(2,[]),(3,[]),(5,[]),(6,[]),(7,[]),(9,[]),(10,[]),(11,[]),(0,[2,6,10]),(8,[2,10]),(12,[2]),(4,[]),(13,[]),(14,[]),(15,[])])
 (.leaf [(1,[]),(2,[]),(3,[]),(5,[]),(6,[]),(7,[]),(9,[]),(10,[]),(11,[]),(0,[2,6,10]),(8,[2,10]),(12,[2]),(14,[2]),(4,[]),(13,[]),(15,[])]))
 (.leaf [(1,[]),(2,[]),(3,[]),(5,[]),(6,[]),(7,[]),(9,[]),(10,[]),(11,[]),(0,[2,6,10]),(8,[2,10]),(14,[2,10]),(12,[2]),(4,[]),(13,[]),(15,[])])))
 (.node 4 12
 (.leaf [(1,[]),(2,[]),(3,[]),(5,[]),(6,[]),(7,[]),(9,[]),(10,[]),(11,[]),(0,[2,6,10]),(14,[2,6,10]),(8,[2,10]),(4,[10]),(12,[]),(13,[]),(15,[])])
 (.leaf [(1,[]),(2,[]),(3,[]),(5,[]),(6,[]),(7,[]),(9,[]),(10,[]),(11,[]),(0,[2,6,10]),(14,[2,6,10]),(8,[2,10]),(12,[2]),(4,[]),(13,[]),(15,[])])))
 (.node 12 14
 (.node 8 14
 (.node 4 14
 (.leaf [(1,[]),(2,[]),(3,[]),(5,[]),(6,[]),(7,[]),(9,[]),(10,[]),(11,[]),(0,[2,6,10]),(12,[2,6]),(8,[2]),(4,[]),(13,[]),(14,[]),(15,[])])
 (.leaf [(1,[]),(2,[]),(3,[]),(5,[]),(6,[]),(7,[]),(9,[]),(10,[]),(11,[]),(0,[2,6,10]),(12,[2,6]),(8,[2]),(14,[2]),(4,[]),(13,[]),(15,[])]))
 (.leaf [(1,[]),(2,[]),(3,[]),(5,[]),(6,[]),(7,[]),(9,[]),(10,[]),(11,[]),(0,[2,6,10]),(12,[2,6]),(14,[2,6]),(8,[2]),(4,[]),(13,[]),(15,[])]))
 (.leaf [(1,[]),(2,[]),(3,[]),(5,[]),(6,[]),(7,[]),(9,[]),(10,[]),(11,[]),(0,[2,6,10]),(14,[2,6,10]),(12,[2,6]),(8,[2]),(4,[]),(13,[]),(15,[])]))))
 (.node 4 8
 (.node 4 12
 (.node 8 12
 (.leaf [(1,[]),(2,[]),(3,[]),(5,[]),(6,[]),(7,[]),(9,[]),(10,[]),(11,[]),(14,[2,6,10]),(0,[2,6,10]),(4,[6,10]),(8,[10]),(12,[]),(13,[]),(15,[])])
 (.leaf [(1,[]),(2,[]),(3,[]),(5,[]),(6,[]),(7,[]),(9,[]),(10,[]),(11,[]),(14,[2,6,10]),(0,[2,6,10]),(4,[6,10]),(12,[6]),(8,[]),(13,[]),(15,[])]))
 (.leaf [(1,[]),(2,[]),(3,[]),(5,[]),(6,[]),(7,[]),(9,[]),(10,[]),(11,[]),(14,[2,6,10]),(0,[2,6,10]),(12,[2,6]),(4,[6]),(8,[]),(13,[]),(15,[])]))
 (.node 8 12
 (.node 4 12
 (.leaf [(1,[]),(2,[]),(3,[]),(5,[]),(6,[]),(7,[]),(9,[]),(10,[]),(11,[]),(14,[2,6,10]),(0,[2,6,10]),(8,[2,10]),(4,[10]),(12,[]),(13,[]),(15,[])])
 (.leaf [(1,[]),(2,[]),(3,[]),(5,[]),(6,[]),(7,[]),(9,[]),(10,[]),(11,[]),(14,[2,6,10]),(0,[2,6,10]),(8,[2,10]),(12,[2]),(4,[]),(13,[]),(15,[])]))
 (.leaf [(1,[]),(2,[]),(3,[]),(5,[]),(6,[]),(7,[]),(9,[]),(10,[]),(11,[]),(14,[2,6,10]),(0,[2,6,10]),(12,[2,6]),(8,[2]),(4,[]),(13,[]),(15,[])]))))
def qzade:Cd Tryz.prog qmu Tryz.f77:=by refine⟨?_,?_⟩;rotate_left;(cbv;try rfl)
def qzaiv:IR:=qzade.c
theorem qzaam:FnIs Tryz.prog 77 78 [.t 3] qzaiv:=fi qmu Tryz.func77 Tryz.call77
def qzacl:Nat->List Nat:=kk [[0],[],[9,10],[13],([1003900,3,5]++rg 14 5),[],[19],[],[24,25],([8]++rg 26 5),[31],[3,6,32,33,34,35],([1003901]++rg 36 10),[1,46]]
def qzadz:List Nat:=([0,4,5]++rg 7 13++rg 23 24)
def qzagq:List (Nat×List Nat):=[(0,[]),(1,[]),(2,[0]),(3,[0]),(4,[]),(5,[])]
def qzagp:List (Nat×List Nat):=[(0,[]),(1,[]),(2,[]),(4,[]),(5,[]),(3,[5]),(7,[]),(8,[]),(6,[]),(9,[]),(10,[]),(11,[])]
def qzatv:Cd Tryz.prog qzacl Tryz.f39:=by refine⟨?_,?_⟩;rotate_left;(cbv;try rfl)
def write_Own:IR:=qzatv.c
theorem qzasq:FnIs Tryz.prog 39 47 [.c 2 true 18] write_Own:=fi qzacl Tryz.func39 Tryz.call39
def qho:Nat->List Nat:=kk [[0,2],(rg 5 26),[],[],[32,33,34,35],[37,38],(rg 39 6),[],[],[46,47,48,49],[51,52],([1000800]++rg 53 31),[],(rg 85 23),[],([1]++rg 109 6)]
def qew:List Nat:=([0,2,3]++rg 5 110)
def qev:List Nat:=([0,2]++rg 4 111)
def qfc:List (Nat×List Nat):=(og 0 32)
def qvt:Cd Tryz.prog qho Tryz.f8:=by refine⟨?_,?_⟩;rotate_left;(cbv;try rfl)
def qzabi:IR:=qvt.c
theorem qss:FnIs Tryz.prog 8 115 [.t 2] qzabi:=fi qho Tryz.func8 Tryz.call8
def qcn:Nat->List Nat:=kk [[4],[6],[],[10],(rg 11 5),[5,17],[18]]
def qaw:List Nat:=(rg 2 5++rg 9 10)
def qgs:Cd Tryz.prog qcn Tryz.f105:=by refine⟨?_,?_⟩;rotate_left;(cbv;try rfl)
def qil:IR:=qgs.c
theorem qaz:FnIs Tryz.prog 105 19 [.t 4] qil:=fi qcn Tryz.func105 Tryz.call105
def qia:Nat->List Nat:=kk [[4],[6,7,8,9],[],[],[11,12,13],[15,16],([1018600]++rg 17 8)]
def qnl:List Nat:=([2,3,4]++rg 6 20)
def qny:List (Nat×List Nat):=(og 0 9)
def qwh:Cd Tryz.prog qia Tryz.f186:=by refine⟨?_,?_⟩;rotate_left;(cbv;try rfl)
def qzaca:IR:=qwh.c
theorem qtd:FnIs Tryz.prog 186 26 [.t 4] qzaca:=fi qia Tryz.func186 Tryz.call186
def qdx:Nat->List Nat:=kk [[4],[6,7,8,9],[],[11],[],[15],([1009300,5]++rg 16 8),[],[25]]
def qzawx:List (Nat×List Nat):=(og 0 9)
def qln:Cd Tryz.prog qdx Tryz.f93:=by refine⟨?_,?_⟩;rotate_left;(cbv;try rfl)
def qnp:IR:=qln.c
theorem qkn:FnIs Tryz.prog 93 26 [.t 4] qnp:=fi qdx Tryz.func93 Tryz.call93
def qeb:Nat->List Nat:=kk [[4],[6,7,8,9],[],[11],[],[15],([1009200,5]++rg 16 8),[],[25]]
def qzawz:List (Nat×List Nat):=(og 0 9)
def qmh:Cd Tryz.prog qeb Tryz.f92:=by refine⟨?_,?_⟩;rotate_left;(cbv;try rfl)
def qpi:IR:=qmh.c
theorem qch:FnIs Tryz.prog 92 26 [.t 4] qpi:=fi qeb Tryz.func92 Tryz.call92
def qtq:Nat->List Nat:=kk [[3],([1004800]++rg 4 6),[],([1004801,0,1]++rg 11 19)]
def qmo:List (Nat×List Nat):=(og 0 7)
def qzz:List (Nat×List Nat):=(og 0 17++[(17,[12]),(18,[]),(19,[]),(20,[])])
def qzamd:Cd Tryz.prog qtq Tryz.f48:=by refine⟨?_,?_⟩;rotate_left;(cbv;try rfl)
def qzatx:IR:=qzamd.c
theorem qud:FnIs Tryz.prog 48 30 [.t 3] qzatx:=fi qtq Tryz.func48 Tryz.call48
def qxu:Nat->List Nat:=kk [[2],(rg 3 6),[],[0,10]]
def qzaie:IR:=
 (sr [o 2 (.mv (z 0))] [2] (.seq (sr [m 3 0,o 4 (f 27 [(t 3)]),o 5 (.not (t 4)),m 6 5,mq 7 0 6 false,q 8 (.bin .lt (t 7) (z 0)) 6 false,o 9 (.pick (t 6) (.c .tt) (t 8))] (rg 3 6) (.cond (t 9) (sr [o 2 (.mv (z 0))] [] .ret) .skip)) (sr [m 10 0,m 2 10] [0,10] .ret)))
theorem qyo:FnIs Tryz.prog 46 11 [.t 2] qzaie:=fi qxu Tryz.func46 Tryz.call46
def qzajy:Nat->List Nat:=kk [[2],[3],[],[0,5,6,7]]
def qzawo:IR:=
 (sr [o 2 (.mv (.c (.re (.slice none 0 0))))] [2] (.seq (sr [m 3 0,o 4 (.nilS false (t 3))] [3] (.cond (t 4) (sr [o 2 (.mv (.c (.re (.slice none 0 0))))] [] .ret) .skip)) (sr [o 5 (.buildS 1 0 [(.i .u8 (.l 0))] []),m 6 0,o 7 (.app 1 (t 5) (t 6)),m 2 7] [0,5,6,7] .ret)))
theorem qui:FnIs Tryz.prog 108 8 [.t 2] qzawo:=fi qzajy Tryz.func108 Tryz.call108
def qzagz:Nat->List Nat:=kk [[0,1,5],([2,3]++rg 6 5)]
def qzapt:IR:=
 (sr [o 2 (.box (t 0)),o 3 (.box (t 1)),o 4 (.alloc z0),o 5 (.mv (.c .ff))] [0,1,5] (sr [o 6 (.load true 18 (t 2)),o 7 (.mkF (.func 77) [] [(t 3)]),o 8 (f 47 [(t 6),(t 7)]),ex 9 8 0,ex 10 8 1,u (.store 18 (t 4) (t 9)),m 5 10] ([2,3]++rg 6 5) .ret))
theorem qzaho:FnIs Tryz.prog 35 11 [.c 4 true 18,.t 5] qzapt:=fi qzagz Tryz.func35 Tryz.call35
def qwz:Nat->List Nat:=kk [[0],([1005200]++rg 3 12),[1,15]]
def qzadg:List (Nat×List Nat):=([(0,[]),(1,[]),(3,[]),(4,[]),(6,[]),(7,[]),(2,[4,7]),(9,[]),(5,[7]),(8,[])]++og 10 5)
def qzapg:Cd Tryz.prog qwz Tryz.f52:=by refine⟨?_,?_⟩;rotate_left;(cbv;try rfl)
def write_ours:IR:=qzapg.c
theorem qzaok:FnIs Tryz.prog 52 16 [.c 2 true 7] write_ours:=fi qwz Tryz.func52 Tryz.call52
def qjk:Nat->List Nat:=kk [[2],[],[],(rg 6 5),[12,13],[14,15,16],([5]++rg 17 9),[3,26]]
def qoo:List Nat:=([1,2]++rg 5 22)
def qzc:Cd Tryz.prog qjk Tryz.f187:=by refine⟨?_,?_⟩;rotate_left;(cbv;try rfl)
def qzaeg:IR:=qzc.c
theorem qve:FnIs Tryz.prog 187 27 [.t 2] qzaeg:=fi qjk Tryz.func187 Tryz.call187
def qzarp:Nat->List Nat:=kk [[0,1,5],([2,3]++rg 6 5)]
def write_Put:IR:=
 (sr [o 2 (.box (t 0)),o 3 (.box (t 1)),o 4 (.alloc z0),o 5 (.mv (.c .ff))] [0,1,5] (sr [o 6 (.load true 18 (t 2)),o 7 (.mkF (.func 50) [] [(t 3)]),o 8 (f 47 [(t 6),(t 7)]),ex 9 8 0,ex 10 8 1,u (.store 18 (t 4) (t 9)),m 5 10] ([2,3]++rg 6 5) .ret))
theorem qqs:FnIs Tryz.prog 19 11 [.c 4 true 18,.t 5] write_Put:=fi qzarp Tryz.func19 Tryz.call19
def qzahg:Nat->List Nat:=kk [[0],[6,7],[],[1,9],[11],[12],[13,14],[15],[17,18],([1011400]++rg 19 7),[26]]
def qls:List (Nat×List Nat):=(og 0 5++[(5,[0]),(6,[]),(7,[])])
def head_Put_c:Cd Tryz.prog qzahg Tryz.f114:=by refine⟨?_,?_⟩;rotate_left;(cbv;try rfl)
def head_Put:IR:=head_Put_c.c
theorem quy:FnIs Tryz.prog 114 27 [.c 2 false 1,.t 3] head_Put:=fi qzahg Tryz.func114 Tryz.call114
def qqf:Nat->List Nat:=kk [[3],(rg 4 8),[],([1005500,0,1]++rg 13 13)]
def qwx:List (Nat×List Nat):=(og 0 7++[(7,[5])]++og 8 7)
def qzais:Cd Tryz.prog qqf Tryz.f55:=by refine⟨?_,?_⟩;rotate_left;(cbv;try rfl)
def qzapo:IR:=qzais.c
theorem qjv:FnIs Tryz.prog 55 26 [.t 3] qzapo:=fi qqf Tryz.func55 Tryz.call55
def qzack:Nat->List Nat:=kk [[2],[6,7],(rg 8 9),[17,18,19],[21],([1007800]++rg 22 7),[5,29,30,31],([0,1]++rg 33 11)]
def qfb:List (Nat×List Nat):=(og 0 8)
def qzatq:Cd Tryz.prog qzack Tryz.f78:=by refine⟨?_,?_⟩;rotate_left;(cbv;try rfl)
def write_lay:IR:=qzatq.c
theorem qzasp:FnIs Tryz.prog 78 44 [] write_lay:=fi qzack Tryz.func78 Tryz.call78
def qjp:Nat->List Nat:=kk [[0,2],[6,7,8],[9,10],[12,13],[14,15],[1,17,18],([3,5]++rg 19 5),[4,24]]
def qzi:Cd Tryz.prog qjp Tryz.f181:=by refine⟨?_,?_⟩;rotate_left;(cbv;try rfl)
def qzaeo:IR:=qzi.c
theorem qvk:FnIs Tryz.prog 181 25 [.t 2] qzaeo:=fi qjp Tryz.func181 Tryz.call181
def qzaco:Nat->List Nat:=kk [[2,6,7],[15,16],(rg 17 6),[10],[9,24],([11]++rg 25 6),([12]++rg 31 15),[0,47],(rg 48 6),([0,1,5,8,13,14]++rg 54 20)]
def qzauc:Cd Tryz.prog qzaco Tryz.f191:=by refine⟨?_,?_⟩;rotate_left;(cbv;try rfl)
def word_Push:IR:=qzauc.c
theorem qzass:FnIs Tryz.prog 191 74 [.t 6,.t 7] word_Push:=fi qzaco Tryz.func191 Tryz.call191
def qzanx:Nat->List Nat:=kk [[0],[3,4,5,6],[1,7]]
def stream_Own:IR:=
 (sr [o 1 (.box (t 0)),o 2 (.alloc z3)] [0] (sr [fd 3 7 1,l1 4 3,o 5 (f 108 [(t 4)]),fd 6 7 1,u (.store 1 (t 6) (t 5))] [3,4,5,6] (sr [o 7 (.load true 11 (t 1)),u (.store 11 (t 2) (t 7))] [1,7] .ret)))
theorem qzaos:FnIs Tryz.prog 68 8 [.c 2 true 11] stream_Own:=fi qzanx Tryz.func68 Tryz.call68
def qzanu:Nat->List Nat:=kk [[2],[3,4],[],[0,6]]
def window_Can:IR:=
 (sr [o 2 (.mv (z 0))] [2] (.seq (sr [m 3 0,o 4 (.bin .shr (t 3) (.c (.i .u64 (.l 31)))),o 5 (.bin .ne (t 4) (z 0))] [3,4] (.cond (t 5) (sr [o 2 (.mv (z 0))] [] .ret) .skip)) (sr [m 6 0,m 2 6] [0,6] .ret)))
theorem qzaop:FnIs Tryz.prog 163 7 [.t 2] window_Can:=fi qzanu Tryz.func163 Tryz.call163
def qzajw:Nat->List Nat:=kk [[],[0,3,4]]
def qzavy:IR:=
 (sr [o 2 (.alloc [.ff,(.i .i64 (.l 0)),(.i .u32 (.l 0))])] [] (sr [m 3 0,o 4 (.build [.ff,(.i .i64 (.l 0)),(.i .u32 (.l 0))] [(0,1,(.c .tt)),(2,1,(t 3))]),u (.store 3 (t 2) (t 4))] [0,3,4] .ret))
theorem qgm:FnIs Tryz.prog 197 5 [.c 2 true 3] qzavy:=fi qzajw Tryz.func197 Tryz.call197
def qxw:Nat->List Nat:=kk [[0,4],([1,2]++rg 5 6)]
def qzaii:IR:=
 (sr [o 2 (.box (t 0)),o 4 (.mv (.c .ff))] [0,4] (sr [fd 5 2 2,l1 6 5,m 7 1,o 8 (.bin .and (t 6) (t 7)),m 9 1,o 10 (.bin .eq (t 8) (t 9)),m 4 10] ([1,2]++rg 5 6) .ret))
theorem qli:FnIs Tryz.prog 260 11 [.t 4] qzaii:=fi qxw Tryz.func260 Tryz.call260
def qtv:Nat->List Nat:=kk [[0],[4,5],[6,7],[9],[10],(rg 11 7),[19,20],([1]++rg 21 6),[27,28]]
def qzamt:Cd Tryz.prog qtv Tryz.f161:=by refine⟨?_,?_⟩;rotate_left;(cbv;try rfl)
def qzauv:IR:=qzamt.c
theorem qma:FnIs Tryz.prog 161 29 [.c 2 true 11,.t 3] qzauv:=fi qtv Tryz.func161 Tryz.call161
def qxj:Nat->List Nat:=kk [[],[],[9,10],([5]++rg 11 9),[0,21],[24],[25,26,27],(rg 28 15),([3,4,7,8]++rg 44 6)]
def qzapx:Cd Tryz.prog qxj Tryz.f143:=by refine⟨?_,?_⟩;rotate_left;(cbv;try rfl)
def word_Right:IR:=qzapx.c
theorem qyh:FnIs Tryz.prog 143 50 [.t 2] word_Right:=fi qxj Tryz.func143 Tryz.call143
def qqm:Nat->List Nat:=kk [[0,2],(rg 3 19),(rg 23 21),(rg 45 13),([1]++rg 59 14)]
def qzajb:Cd Tryz.prog qqm Tryz.f66:=by refine⟨?_,?_⟩;rotate_left;(cbv;try rfl)
def qzaqr:IR:=qzajb.c
theorem qzahr:FnIs Tryz.prog 66 73 [.t 2] qzaqr:=fi qqm Tryz.func66 Tryz.call66
def qzadn:Nat->List Nat:=kk [(rg 0 7)]
def qzalx:IR:=
 (.reg [fd 2 1 0,l1 3 2,fd 4 3 0,l1 5 4,o 6 (.build z5 [(0,1,(.c (.i .u8 (.l 7)))),(5,1,(t 3)),(7,1,(t 5))]),u (.store 13 (t 1) (t 6))] (rg 0 7))
theorem qzadu:FnIs Tryz.prog 155 7 [] qzalx:=fi qzadn Tryz.func155 Tryz.call155
def qxs:Nat->List Nat:=kk [[0,1,4],(rg 6 40),([2,3,5]++rg 46 36)]
def qzasn:Cd Tryz.prog qxs Tryz.f157:=by refine⟨?_,?_⟩;rotate_left;(cbv;try rfl)
def frame_Same:IR:=qzasn.c
theorem qoh:FnIs Tryz.prog 157 82 [.t 4] frame_Same:=fi qxs Tryz.func157 Tryz.call157
end I
end Cz
