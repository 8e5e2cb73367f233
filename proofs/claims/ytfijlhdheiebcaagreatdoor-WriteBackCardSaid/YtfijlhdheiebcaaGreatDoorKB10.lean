/- What the claims of this group lean on: CzR5. No condition. -/
import Derived.Test.YtfijlhdheiebcaaGreatDoorKB4
set_option maxRecDepth 100000
set_option maxHeartbeats 4000000
namespace Cz
open Go Go.RowKit Go.Proofs
namespace I
def qzaxu:Nat->List Nat:=kk [[3,4,5],([0]++rg 9 6),([8]++rg 15 8),[6,24],([1005300,6,7]++rg 25 13)]
def qzaxe:Spl:=(.node 1 7
 (.node 6 7
 (.leaf ([(0,[])]++og 2 4++og 8 4++[(1,[0,4,10]),(6,[0,10]),(7,[0,10]),(12,[0])]++og 13 4))
 (.leaf ([(0,[])]++og 2 4++og 8 4++[(1,[0,4,10]),(7,[0,4,10]),(6,[0,10]),(12,[0])]++og 13 4)))
 (.leaf ([(0,[])]++og 2 4++og 8 4++[(7,[0,4,10]),(1,[0,4,10]),(6,[0,10]),(12,[0])]++og 13 4)))
def qzayn:IR:=
 (sr [o 2 (.alloc z4),o 3 (.mv (.c (.re (.slice none 0 0)))),o 4 (.mv (.c (.re (.slice none 0 0)))),o 5 (.mv (z 0))] [3,4,5] (sr [m 10 0,o 11 (f 117 [(t 10)]),m 9 11,ex 12 9 0,ex 13 9 1,ex 14 9 2,o 6 (.alloc z4),u (.store 4 (t 6) (t 12)),m 7 13,m 8 14] ([0]++rg 9 6) (.seq (sr [m 15 8,o 16 (.bin .ne (t 15) (z 0)),m 17 16,mq 18 7 17 false,q 19 (.len false (t 18)) 17 false,fq 20 0 6 17 false,lq 21 20 17 false,q 22 (.bin .lt (t 19) (t 21)) 17 false,o 23 (.pick (t 17) (.c .tt) (t 22))] ([8]++rg 15 8) (.cond (t 23) (sr [o 24 (.load true 4 (t 6)),u (.store 4 (t 2) (t 24)),o 3 (.mv (.c (.re (.slice none 0 0)))),o 4 (.mv (.c (.re (.slice none 0 0)))),o 5 (.mv (z 10))] [6,24] .ret) .skip)) (.seq (.draw [o 25 (.load true 4 (t 6)),o 26 (.buildS 1 0 [(.i .u8 (.l 0))] []),m 27 7,fd 28 0 6,l1 29 28,o 30 (.slc 1 (t 27) none (some (t 29)) none),o 31 (.app 1 (t 26) (t 30)),o 32 (.buildS 1 0 [(.i .u8 (.l 0))] []),m 33 7,fd 34 0 6,l1 35 34,o 36 (.slc 1 (t 33) (some (t 35)) none none),o 37 (.app 1 (t 32) (t 36)),u (.store 4 (t 2) (t 25)),m 3 31,m 4 37,o 5 (.mv (z 0))] [[],[],[],[],[3],[2,4],[1,5],[],[],[],[9],[8,10],[7,11,6],[0,12,0],([6,13]++rg 0 7++[13]),([12,14]++rg 0 15),([15]++rg 0 16)] ([1005300,6,7]++rg 25 13)) .ret))))
theorem qzaxw:FnIs Tryz.prog 53 38 [.c 2 true 4,.t 3,.t 4,.t 5] qzayn:=fi qzaxu Tryz.func53 Tryz.call53
def qzaxz:Nat->List Nat:=kk [[3,4],[9,10],[12],([6]++rg 13 5),([8]++rg 18 5),([1011700,0,5,7]++rg 23 13)]
def qzaxk:List (Nat×List Nat):=(og 0 9++[(10,[]),(11,[]),(9,[3,6]),(12,[3,6]),(13,[]),(14,[]),(15,[])])
def qzayp:IR:=
 (sr [o 2 (.alloc z4),o 3 (.mv (.c (.re (.slice none 0 0)))),o 4 (.mv (z 0))] [3,4] (.seq (sr [m 9 0,o 10 (.len false (t 9)),o 11 (.bin .lt (t 10) (z 9))] [9,10] (.cond (t 11) (sr [o 12 (.build z4 []),u (.store 4 (t 2) (t 12)),o 3 (.mv (.c (.re (.slice none 0 0)))),o 4 (.mv (z 10))] [12] .ret) .skip)) (sr [m 14 0,o 15 (f 170 [(t 14),(z 0),(z 3)]),m 13 15,ex 16 13 0,ex 17 13 1,m 5 16,m 6 17] ([6]++rg 13 5) (sr [m 19 0,o 20 (f 171 [(t 19),(z 5)]),m 18 20,ex 21 18 0,ex 22 18 1,m 7 21,m 8 22] ([8]++rg 18 5) (.seq (.draw [m 23 5,m 24 0,o 25 (.iadS 1 (t 24) (z 3)),l1 26 25,m 27 0,o 28 (.iadS 1 (t 27) (z 4)),l1 29 28,m 30 7,o 31 (.build z4 [(0,1,(t 23)),(1,1,(t 26)),(2,1,(t 29)),(3,1,(t 30))]),o 32 (.buildS 1 0 [(.i .u8 (.l 0))] []),m 33 0,o 34 (.slc 1 (t 33) (some (z 9)) none none),o 35 (.app 1 (t 32) (t 34)),u (.store 4 (t 2) (t 31)),m 3 35,o 4 (.mv (z 0))] [[],[],[1],[2],[],[4],[5],[],[0,3,6,7],[],[],[10],[9,11],([8,12]++rg 0 9),([12,13]++rg 0 14),([14]++rg 0 15)] ([1011700,0,5,7]++rg 23 13)) .ret)))))
theorem qzayb:FnIs Tryz.prog 117 36 [.c 2 true 4,.t 3,.t 4] qzayp:=fi qzaxz Tryz.func117 Tryz.call117
def qhz:Nat->List Nat:=kk [[0],[9],[10,11],[13,14],(rg 15 7),[22,23,24,25],[26],[1005400,7,28,29],[1005401,30,31],[1005402,6,7,33,34],([1,2]++rg 35 7),[42,43],[8,44],[46],[47],[1005403,7,49,50],[1005404,6,7,51,52]]
def qff:List (Nat×List Nat):=[(0,[]),(1,[]),(2,[1]),(3,[])]
def qfe:List (Nat×List Nat):=[(0,[]),(1,[0]),(2,[])]
def qzaxh:List (Nat×List Nat):=[(0,[]),(1,[]),(2,[1]),(3,[])]
def qzaxg:List (Nat×List Nat):=[(0,[]),(1,[]),(2,[1]),(3,[])]
def qzaxf:List (Nat×List Nat):=[(0,[]),(1,[]),(2,[1]),(3,[])]
def qwg:Cd Tryz.prog qhz Tryz.f54:=by refine⟨?_,?_⟩;rotate_left;(cbv;try rfl)
def qzabz:IR:=qwg.c
theorem qih:FnIs Tryz.prog 54 53 [.c 4 true 13,.c 5 true 3] qzabz:=fi qhz Tryz.func54 Tryz.call54
def qqg:Nat->List Nat:=kk [[3],(rg 8 5),([1006500,4]++rg 13 30),[],[],[44,45,46],[],[51,52],[53,54],([7]++rg 56 5),[61],[62,63],[64],(rg 65 5),[71,72,73,74],([1006501,1]++rg 75 10),[0,85,86]]
def qkf:List Nat:=([2,3,4]++rg 6 81)
def qke:List Nat:=([2,3,4]++rg 6 41++rg 50 37)
def qbp:List (Nat×List Nat):=(og 0 31)
def qkx:List (Nat×List Nat):=(og 0 6++[(6,[4])]++og 7 4)
def qzait:Cd Tryz.prog qqg Tryz.f65:=by refine⟨?_,?_⟩;rotate_left;(cbv;try rfl)
def qzapq:IR:=qzait.c
theorem qcp:FnIs Tryz.prog 65 87 [.t 3] qzapq:=fi qqg Tryz.func65 Tryz.call65
def qfz:Nat->List Nat:=kk [[0,2],[5,6,7],[],[],[9,10,11,12],[14,15],(rg 16 5),([1002800]++rg 21 24),[],[46,47,48],[4,50,51],[],([4]++rg 53 15)]
def qkr:List Nat:=([0,2]++rg 4 65)
def qlt:List (Nat×List Nat):=(og 0 25)
def qrj:Cd Tryz.prog qfz Tryz.f28:=by refine⟨?_,?_⟩;rotate_left;(cbv;try rfl)
def qvp:IR:=qrj.c
theorem qpm:FnIs Tryz.prog 28 69 [.t 2] qvp:=fi qfz Tryz.func28 Tryz.call28
def qgv:Nat->List Nat:=kk [[0],[],[4,5,6,7],[9,10],(rg 11 7),([1,3]++rg 19 6),(rg 26 13),[39],(rg 41 8),[1,49,50,51],(rg 53 8),[61],(rg 63 10),[1,73,74,75],[76]]
def qeh:List Nat:=([0]++rg 4 73)
def qtg:Cd Tryz.prog qgv Tryz.f123:=by refine⟨?_,?_⟩;rotate_left;(cbv;try rfl)
def qzg:IR:=qtg.c
theorem qgx:FnIs Tryz.prog 123 77 [.c 2 true 3] qzg:=fi qgv Tryz.func123 Tryz.call123
def qjo:Nat->List Nat:=kk [[0,4],[],[6],[],[8],[11],[1,5,12,13,14],[16],[2,17],[19,20],[1,5,21,22,23],[25],[1,26,27],[29],[30],[1,31,32],[34],[1,35,36],[38],([1,2]++rg 39 11),[51],[1,52,53],[9,55],[1,56,57]]
def qzh:Cd Tryz.prog qjo Tryz.f173:=by refine⟨?_,?_⟩;rotate_left;(cbv;try rfl)
def qzaen:IR:=qzh.c
theorem qjz:FnIs Tryz.prog 173 58 [.t 4] qzaen:=fi qjo Tryz.func173 Tryz.call173
def qjl:Nat->List Nat:=kk [[4,5],[],[10,11,12],[14,15],([8,9]++rg 16 7),[7,23,24],[6,26]]
def qop:List Nat:=([2,3,4,5]++rg 7 20)
def qzd:Cd Tryz.prog qjl Tryz.f128:=by refine⟨?_,?_⟩;rotate_left;(cbv;try rfl)
def qzaei:IR:=qzd.c
theorem qvg:FnIs Tryz.prog 128 27 [.t 4,.t 5] qzaei:=fi qjl Tryz.func128 Tryz.call128
def qzadq:Nat->List Nat:=kk [[0,2],[1020700,1,3,4,5,6,7]]
def qzaog:IR:=
 (sr [o 1 (.box (t 0)),o 2 (.mv (.c (.re (.slice none 0 0))))] [0,2] (.seq (.draw [o 3 (.load true 13 (t 1)),fd 4 3 1,l1 5 4,o 6 (f 108 [(t 5)]),o 7 (f 208 [(t 3),(t 6)]),m 2 7] [[],[],[1],[2],[0,3,3],[4,4,0,1,2,3,4]] [1020700,1,3,4,5,6,7]) .ret))
theorem qpg:FnIs Tryz.prog 207 8 [.t 2] qzaog:=fi qzadq Tryz.func207 Tryz.call207
def qzajm:Nat->List Nat:=kk [[3],[1026100,0,1,4,5,6,7]]
def qzaab:List (Nat×List Nat):=[(0,[]),(2,[]),(1,[2]),(3,[]),(4,[])]
def qzaue:IR:=
 (sr [o 3 (.mv (.c .ff))] [3] (.seq (.draw [m 4 0,o 5 (f 194 [(t 4)]),l1 6 1,o 7 (.bin .eq (t 5) (t 6)),m 3 7] [[],[0],[],[1,2],[3,1,0,1,2,3]] [1026100,0,1,4,5,6,7]) .ret))
theorem qzakj:FnIs Tryz.prog 261 8 [.t 3] qzaue:=fi qzajm Tryz.func261 Tryz.call261
def qmz:Nat->List Nat:=kk [[4,5,6],(rg 8 7),[],([0,1]++rg 16 5),[1013100,7,21,22,23,24]]
def qsk:List (Nat×List Nat):=(og 0 7)
def qzaej:Cd Tryz.prog qmz Tryz.f131:=by refine⟨?_,?_⟩;rotate_left;(cbv;try rfl)
def qzakp:IR:=qzaej.c
theorem qzaas:FnIs Tryz.prog 131 25 [.t 4,.t 5,.t 6] qzakp:=fi qmz Tryz.func131 Tryz.call131
def qzarq:Nat->List Nat:=kk [[0,1,5],([2,3]++rg 6 5)]
def write_Got:IR:=
 (sr [o 2 (.box (t 0)),o 3 (.box (t 1)),o 4 (.alloc z0),o 5 (.mv (.c .ff))] [0,1,5] (sr [o 6 (.load true 18 (t 2)),o 7 (.mkF (.func 48) [] [(t 3)]),o 8 (f 47 [(t 6),(t 7)]),ex 9 8 0,ex 10 8 1,u (.store 18 (t 4) (t 9)),m 5 10] ([2,3]++rg 6 5) .ret))
theorem qzacv:FnIs Tryz.prog 18 11 [.c 4 true 18,.t 5] write_Got:=fi qzarq Tryz.func18 Tryz.call18
def qsn:Nat->List Nat:=kk [[4],([0,1]++rg 5 7)]
def qzabp:IR:=
 (sr [o 4 (.mv (z 0))] [4] (sr [m 5 0,m 6 1,o 7 (.bin .mul (z 7) (t 6)),o 8 (.cv .u64 (t 7)),o 9 (.bin .shr (t 5) (t 8)),o 10 (.bin .and (t 9) (.c (.i .u64 (.l 127)))),o 11 (.cv .i64 (t 10)),m 4 11] ([0,1]++rg 5 7) .ret))
theorem qsy:FnIs Tryz.prog 238 12 [.t 4] qzabp:=fi qsn Tryz.func238 Tryz.call238
def qpl:Nat->List Nat:=kk [[2],([0]++rg 3 6)]
def qvy:IR:=
 (sr [o 2 (.mv (.c .ff))] [2] (sr [m 3 0,o 4 (.bin .eq (t 3) (.c (.i .u8 (.l 1)))),m 5 4,mq 6 0 5 false,q 7 (.bin .eq (t 6) (.c (.i .u8 (.l 2)))) 5 false,o 8 (.pick (t 5) (.c .tt) (t 7)),m 2 8] ([0]++rg 3 6) .ret))
theorem qpn:FnIs Tryz.prog 61 9 [.t 2] qvy:=fi qpl Tryz.func61 Tryz.call61
def qjf:Nat->List Nat:=kk [[0,4],[],[6,7,8,9],[11,12],(rg 13 7),[5,21]]
def qol:List Nat:=([0,3,4]++rg 6 16)
def qyw:Cd Tryz.prog qjf Tryz.f62:=by refine⟨?_,?_⟩;rotate_left;(cbv;try rfl)
def qzaea:IR:=qyw.c
theorem quz:FnIs Tryz.prog 62 22 [.t 4] qzaea:=fi qjf Tryz.func62 Tryz.call62
def quu:Nat->List Nat:=kk [[0,2],([1]++rg 3 8)]
def qzael:IR:=
 (sr [o 1 (.box (t 0)),o 2 (.mv (z 0))] [0,2] (sr [fd 3 0 1,l1 4 3,o 5 (.len true (t 4)),fd 6 1 1,l1 7 6,o 8 (.len true (t 7)),o 9 (.bin .add (t 5) (t 8)),o 10 (.bin .add (t 9) (z 32)),m 2 10] ([1]++rg 3 8) .ret))
theorem qvi:FnIs Tryz.prog 124 11 [.t 2] qzael:=fi quu Tryz.func124 Tryz.call124
def qhx:Nat->List Nat:=kk [[0],[6,7],[8],(rg 10 7),[17],(rg 19 8),[2,27,28,29],[1,2,31,32,33],[34],[35]]
def qwe:Cd Tryz.prog qhx Tryz.f120:=by refine⟨?_,?_⟩;rotate_left;(cbv;try rfl)
def qzabw:IR:=qwe.c
theorem qif:FnIs Tryz.prog 120 36 [.c 4 true 3] qzabw:=fi qhx Tryz.func120 Tryz.call120
def qzayk:Nat->List Nat:=kk [[],[0,1,5,6,7]]
def qzays:IR:=
 (sr [o 4 (.alloc [.ff,(.i .i64 (.l 0)),(.i .u32 (.l 0))])] [] (sr [m 5 0,m 6 1,o 7 (.build [.ff,(.i .i64 (.l 0)),(.i .u32 (.l 0))] [(1,1,(t 5)),(2,1,(t 6))]),u (.store 3 (t 4) (t 7))] [0,1,5,6,7] .ret))
theorem qzayl:FnIs Tryz.prog 174 8 [.c 4 true 3] qzays:=fi qzayk Tryz.func174 Tryz.call174
def qld:Nat->List Nat:=kk [[4,5],(rg 8 17),[],[26,27],[1,28,29],[30],[32,33],(rg 34 6),[40,41],[6,42]]
def qzacc:Cd Tryz.prog qld Tryz.f184:=by refine⟨?_,?_⟩;rotate_left;(cbv;try rfl)
def qzaij:IR:=qzacc.c
theorem qfq:FnIs Tryz.prog 184 43 [.t 4,.t 5] qzaij:=fi qld Tryz.func184 Tryz.call184
def qoy:Nat->List Nat:=kk [[1],[],[9,10],([4]++rg 11 8),[20]]
def qcj:List Nat:=([1,2,3,4]++rg 8 13)
def qzafk:Cd Tryz.prog qoy Tryz.f115:=by refine⟨?_,?_⟩;rotate_left;(cbv;try rfl)
def qzalu:IR:=qzafk.c
theorem qel:FnIs Tryz.prog 115 21 [] qzalu:=fi qoy Tryz.func115 Tryz.call115
def qlb:Nat->List Nat:=kk [[0],(rg 4 13),[17],(rg 19 13),[32],([1]++rg 34 8),[42],[43]]
def qzabt:Cd Tryz.prog qlb Tryz.f180:=by refine⟨?_,?_⟩;rotate_left;(cbv;try rfl)
def qzaif:IR:=qzabt.c
theorem qlf:FnIs Tryz.prog 180 44 [.c 2 true 3] qzaif:=fi qlb Tryz.func180 Tryz.call180
def qzayd:Nat->List Nat:=kk [[4],([0,1]++rg 6 7),[5,13]]
def qzayq:IR:=
 (sr [o 4 (.mv (z 0))] [4] (sr [m 8 0,m 9 1,o 10 (f 171 [(t 8),(t 9)]),m 7 10,ex 11 7 0,ex 12 7 1,m 5 11,m 6 12] ([0,1]++rg 6 7) (sr [m 13 5,m 4 13] [5,13] .ret)))
theorem qzayf:FnIs Tryz.prog 179 14 [.t 4] qzayq:=fi qzayd Tryz.func179 Tryz.call179
def qxl:Nat->List Nat:=kk [[0,1],[9,10],[],[2,12],[14],[15],[3,16,17],[7,8,19,20]]
def qzaqi:Cd Tryz.prog qxl Tryz.f147:=by refine⟨?_,?_⟩;rotate_left;(cbv;try rfl)
def turn_first:IR:=qzaqi.c
theorem qof:FnIs Tryz.prog 147 21 [.c 4 false 1,.c 5 false 1,.c 6 false 1] turn_first:=fi qxl Tryz.func147 Tryz.call147
def qtn:Nat->List Nat:=kk [[0,2],[5],[8],[1,9,10,11],[6,13],([1]++rg 14 14),(rg 28 5),([1,3,4]++rg 33 15)]
def qzalz:Cd Tryz.prog qtn Tryz.f37:=by refine⟨?_,?_⟩;rotate_left;(cbv;try rfl)
def qzatr:IR:=qzalz.c
theorem qlw:FnIs Tryz.prog 37 48 [.t 2] qzatr:=fi qtn Tryz.func37 Tryz.call37
def qpe:Nat->List Nat:=kk [[0,4],[5],[7,8],([2]++rg 9 6),[16,17],[1,18,19]]
def qzahm:Cd Tryz.prog qpe Tryz.f205:=by refine⟨?_,?_⟩;rotate_left;(cbv;try rfl)
def qzaoh:IR:=qzahm.c
theorem qph:FnIs Tryz.prog 205 20 [.t 4] qzaoh:=fi qpe Tryz.func205 Tryz.call205
def qzavq:Nat->List Nat:=kk [[0,4],[1,2,5,6,7,8,9]]
def head_Has:IR:=
 (sr [o 2 (.box (t 0)),o 4 (.mv (.c .ff))] [0,4] (sr [m 5 1,fd 6 2 2,l1 7 6,o 8 (.bin .andn (t 5) (t 7)),o 9 (.bin .eq (t 8) (.c (.i .u8 (.l 0)))),m 4 9] [1,2,5,6,7,8,9] .ret))
theorem qzahs:FnIs Tryz.prog 219 10 [.t 4] head_Has:=fi qzavq Tryz.func219 Tryz.call219
def qzact:Nat->List Nat:=kk [[4,5],(rg 8 13),[],[22,23],[24],[],[28],([7]++rg 29 11),[40],[6,41]]
def qzavm:Cd Tryz.prog qzact Tryz.f257:=by refine⟨?_,?_⟩;rotate_left;(cbv;try rfl)
def octet_Put:IR:=qzavm.c
theorem qzacx:FnIs Tryz.prog 257 42 [.t 4,.t 5] octet_Put:=fi qzact Tryz.func257 Tryz.call257
def qpc:Nat->List Nat:=kk [[1],[],[9,10],[4,11,12,13],[15]]
def qzafq:Cd Tryz.prog qpc Tryz.f204:=by refine⟨?_,?_⟩;rotate_left;(cbv;try rfl)
def qzamh:IR:=qzafq.c
theorem qzadv:FnIs Tryz.prog 204 16 [] qzamh:=fi qpc Tryz.func204 Tryz.call204
def qxf:Nat->List Nat:=kk [[0,7],[1,2,9,10,11],([3,8]++rg 12 5)]
def qzapn:Cd Tryz.prog qxf Tryz.f22:=by refine⟨?_,?_⟩;rotate_left;(cbv;try rfl)
def write_Shut:IR:=qzapn.c
theorem qoe:FnIs Tryz.prog 22 17 [.c 6 true 18,.t 7] write_Shut:=fi qxf Tryz.func22 Tryz.call22
def qzajx:Nat->List Nat:=kk [[4],[0,1,5,6,7,8,9]]
def qzawn:IR:=
 (sr [o 4 (.mv (.c .ff))] [4] (sr [m 5 0,o 6 (.cvBS (t 5)),m 7 1,o 8 (.cvBS (t 7)),o 9 (.bin .eq (t 6) (t 8)),m 4 9] [0,1,5,6,7,8,9] .ret))
theorem qgo:FnIs Tryz.prog 91 10 [.t 4] qzawn:=fi qzajx Tryz.func91 Tryz.call91
def qzacs:Nat->List Nat:=kk [[3],(rg 4 5),[10],[0,11,12],[13]]
def qzaur:Cd Tryz.prog qzacs Tryz.f70:=by refine⟨?_,?_⟩;rotate_left;(cbv;try rfl)
def table_New:IR:=qzaur.c
theorem qzasz:FnIs Tryz.prog 70 14 [.c 2 true 2,.t 3] table_New:=fi qzacs Tryz.func70 Tryz.call70
def qzajk:Nat->List Nat:=kk [[2],[0,3,4,5,6]]
def qzaua:IR:=
 (sr [o 2 (.mv (.c .ff))] [2] (sr [m 3 0,m 4 0,o 5 (.bin .and (t 4) (z 7)),o 6 (.bin .eq (t 3) (t 5)),m 2 6] [0,3,4,5,6] .ret))
theorem que:FnIs Tryz.prog 245 7 [.t 2] qzaua:=fi qzajk Tryz.func245 Tryz.call245
def qxr:Nat->List Nat:=kk [[0,2],([1]++rg 3 20)]
def qzarz:Cd Tryz.prog qxr Tryz.f168:=by refine⟨?_,?_⟩;rotate_left;(cbv;try rfl)
def head_Right:IR:=qzarz.c
theorem qcw:FnIs Tryz.prog 168 23 [.t 2] head_Right:=fi qxr Tryz.func168 Tryz.call168
def qzahj:Nat->List Nat:=kk [[0,2],[1,3]]
def qzasm:IR:=
 (sr [o 1 (.box (t 0)),o 2 (.mv (.c (.re .nilFunc)))] [0,2] (sr [o 3 (.mkF (.func 262) [] [(t 1)]),m 2 3] [1,3] .ret))
theorem qfp:FnIs Tryz.prog 247 4 [.t 2] qzasm:=fi qzahj Tryz.func247 Tryz.call247
def qzajn:Nat->List Nat:=kk [[0,2],[1,3]]
def qzauf:IR:=
 (sr [o 1 (.box (t 0)),o 2 (.mv (.c (.re .nilFunc)))] [0,2] (sr [o 3 (.mkF (.func 204) [] [(t 1)]),m 2 3] [1,3] .ret))
theorem qzakk:FnIs Tryz.prog 164 4 [.t 2] qzauf:=fi qzajn Tryz.func164 Tryz.call164
def qzajj:Nat->List Nat:=kk [[0,2],[1,3]]
def qzaty:IR:=
 (sr [o 1 (.box (t 0)),o 2 (.mv (.c (.re .nilFunc)))] [0,2] (sr [o 3 (.mkF (.func 246) [] [(t 1)]),m 2 3] [1,3] .ret))
theorem qec:FnIs Tryz.prog 193 4 [.t 2] qzaty:=fi qzajj Tryz.func193 Tryz.call193
def qzajh:Nat->List Nat:=kk [[0,2],[1,3]]
def qzato:IR:=
 (sr [o 1 (.box (t 0)),o 2 (.mv (.c (.re .nilFunc)))] [0,2] (sr [o 3 (.mkF (.func 115) [] [(t 1)]),m 2 3] [1,3] .ret))
theorem qgk:FnIs Tryz.prog 51 4 [.t 2] qzato:=fi qzajh Tryz.func51 Tryz.call51
def qzanz:Nat->List Nat:=kk [[0,2],[1,3]]
def frame_just:IR:=
 (sr [o 1 (.box (t 0)),o 2 (.mv (.c (.re .nilFunc)))] [0,2] (sr [o 3 (.mkF (.func 255) [] [(t 1)]),m 2 3] [1,3] .ret))
theorem qfo:FnIs Tryz.prog 213 4 [.t 2] frame_just:=fi qzanz Tryz.func213 Tryz.call213
def qzajq:Nat->List Nat:=kk [[2]]
def qzaun:IR:=
 (sr [o 2 (.mv (.c .ff))] [2] (sr [o 2 (.mv (.c .tt))] [] .ret))
theorem qug:FnIs Tryz.prog 203 3 [.t 2] qzaun:=fi qzajq Tryz.func203 Tryz.call203
end I
end Cz
