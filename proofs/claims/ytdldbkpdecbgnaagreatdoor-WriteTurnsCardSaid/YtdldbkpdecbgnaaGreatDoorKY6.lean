/- What the claims of this group lean on: CzR1. No condition. -/
import Derived.Test.YtdldbkpdecbgnaaGreatDoorKY4
set_option maxRecDepth 100000
set_option maxHeartbeats 4000000
namespace Cz
open Go Go.RowKit Go.Proofs
namespace I
def qlv:Nat->List Nat:=kk [[0,6],(rg 24 28),[53],(rg 54 5),[59,60,61],[],[],(rg 62 7),[70,71],([13]++rg 72 8),([15]++rg 80 16),[],[],([1000300]++rg 97 12),[110,111],[112,113,114],[],([16]++rg 116 6),([18]++rg 122 5),[127,128,129,130],[132],([1000301]++rg 133 6),[],[139,140,141],[143,144],([1000302]++rg 145 8),[154],([1000303]++rg 155 12),([19,20]++rg 167 6),[],([23]++rg 174 7),([22]++rg 181 6),[14,188,189],[12,190],[191]]
def qhi:List Nat:=([0,4,5,6]++rg 12 180)
def qhh:List Nat:=([0,4,5,6,13,15,16,18]++rg 22 170)
def qhg:List Nat:=([0,4,5,6,13,15]++rg 17 175)
def qdi:List (Nat×List Nat):=(og 0 13)
def qis:List (Nat×List Nat):=(og 0 8)
def qir:List (Nat×List Nat):=(og 0 9)
def qiq:List (Nat×List Nat):=(og 0 12++[(12,[10]),(13,[])])
def qps:IR:=
 (sr [o 3 (.box (t 0)),o 6 (.mv (.c .ff))] [0,6] (.seq (sr [o 24 (.load true 18 (t 3)),o 25 (f 5 [(t 24)]),m 26 25,q 27 (.load true 18 (t 3)) 26 false,q 28 (f 6 [(t 27)]) 26 false,q 29 (.not (t 28)) 26 false,o 30 (.pick (t 26) (.c .tt) (t 29)),m 31 30,fq 32 0 3 31 false,lq 33 32 31 false,q 34 (.len false (t 33)) 31 false,q 35 (.bin .gt (t 34) (z 0)) 31 false,o 36 (.pick (t 31) (.c .tt) (t 35)),m 37 36,fq 38 17 3 37 false,lq 39 38 37 false,o 40 (.pick (t 37) (.c .tt) (t 39)),m 41 40,mq 42 1 41 false,q 43 (.bin .lt (t 42) (z 1)) 41 false,o 44 (.pick (t 41) (.c .tt) (t 43)),m 45 44,mq 46 2 45 false,q 47 (.bin .lt (t 46) (z 0)) 45 false,o 48 (.pick (t 45) (.c .tt) (t 47)),m 49 48,mq 50 2 49 false,q 51 (.bin .gt (t 50) (z 40)) 49 false,o 52 (.pick (t 49) (.c .tt) (t 51))] (rg 24 28) (.cond (t 52) (sr [o 53 (f 7 []),m 6 53] [53] .ret) .skip)) (sr [o 55 (.load true 18 (t 3)),o 56 (f 8 [(t 55)]),m 54 56,ex 57 54 0,ex 58 54 1,m 7 57,m 8 58] (rg 54 5) (sr [m 59 7,o 60 (.len false (t 59)),o 61 (.mkS 1 [(.i .i64 (.l 0))] (t 60) (t 60)),m 9 61] [59,60,61] (sr [o 10 (.mv (z 0))] [] (.seq (sr [o 11 (.mv (z 0))] [] (.block 0 (.loop (.seq (sr [m 62 11,m 63 2,o 64 (.bin .lt (t 62) (t 63)),m 65 64,mq 66 7 65 true,q 67 (.len false (t 66)) 65 true,q 68 (.bin .gt (t 67) (z 0)) 65 true,o 69 (.pick (t 65) (t 68) (.c .ff))] (rg 62 7) (.cond (t 69) .skip (.exit 0))) (.seq (.block 1 (sr [o 73 (.load true 18 (t 3)),m 74 1,o 75 (f 9 [(t 73),(z 16384),(t 74)]),m 72 75,ex 76 72 0,ex 77 72 1,ex 78 72 2,ex 79 72 3,o 12 (.alloc z0),o 14 (.alloc z1),u (.store 18 (t 12) (t 76)),m 13 77,u (.store 4 (t 14) (t 78)),m 15 79] ([13]++rg 72 8) (.seq (sr [m 80 15,o 81 (.not (t 80)),m 82 81,fq 83 0 14 82 false,lq 84 83 82 false,q 85 (.bin .ne (t 84) (.c (.i .u8 (.l 0)))) 82 false,o 86 (.pick (t 82) (.c .tt) (t 85)),m 87 86,mq 88 10 87 false,q 89 (.bin .gt (t 88) (z 0)) 87 false,mq 90 89 87 false,fq 91 2 14 90 true,lq 92 91 90 true,mq 93 10 90 true,q 94 (.bin .ne (t 92) (t 93)) 90 true,q 95 (.pick (t 90) (t 94) (.c .ff)) 87 false,o 96 (.pick (t 87) (.c .tt) (t 95))] ([15]++rg 80 16) (.cond (t 96) (sr [o 6 (.mv (.c .ff))] [] .ret) .skip)) (sr [o 16 (.mv (z 0))] [] (.seq (.block 2 (.loop (.seq (.seq (.draw [m 97 16,m 98 7,o 99 (.len false (t 98)),o 100 (.bin .lt (t 97) (t 99)),m 101 100,mq 102 7 101 true,mq 103 16 101 true,q 104 (.iadS 1 (t 102) (t 103)) 101 true,lq 105 104 101 true,fq 106 2 14 101 true,lq 107 106 101 true,q 108 (.bin .ne (t 105) (t 107)) 101 true,o 109 (.pick (t 101) (t 108) (.c .ff))] [[],[],[1],[0,2],[3],[4],[4],[5,6,4],[7,4],[4],[9,4],[8,10,4],[4,11]] ([1000300]++rg 97 12)) (.cond (t 109) .skip (.exit 2))) (.block 3 (.reg [m 110 16,o 111 (.bin .add (t 110) (z 1)),m 16 111] [110,111]))))) (.seq (sr [m 112 16,m 113 7,o 114 (.len false (t 113)),o 115 (.bin .ge (t 112) (t 114))] [112,113,114] (.cond (t 115) (sr [o 6 (.mv (.c .ff))] [] .ret) .skip)) (sr [m 116 9,m 117 16,o 118 (.iadS 1 (t 116) (t 117)),l1 119 118,o 120 (.bin .add (t 119) (z 1)),o 121 (.iadS 1 (t 116) (t 117)),u
 (.store 1 (t 121) (t 120))] ([16]++rg 116 6) (sr [o 123 (.load true 18 (t 12)),o 124 (f 8 [(t 123)]),m 122 124,ex 125 122 0,ex 126 122 1,m 17 125,m 18 126] ([18]++rg 122 5) (.seq (sr [m 127 17,o 128 (.len false (t 127)),m 129 7,o 130 (.len false (t 129)),o 131 (.bin .ne (t 128) (t 130))] [127,128,129,130] (.cond (t 131) (sr [o 132 (f 7 []),m 6 132] [132] .ret) .skip)) (.seq (.draw [m 133 9,o 134 (.iadS 1 (t 133) (z 0)),l1 135 134,m 136 9,o 137 (.iadS 1 (t 136) (z 0)),l1 138 137,m 19 135,m 20 138] [[],[0],[1],[],[3],[4],[2,0,1,2],([5,6]++rg 0 7)] ([1000301]++rg 133 6)) (.seq (sr [o 21 (.mv (z 0))] [] (.block 4 (.loop (.seq (sr [m 139 21,m 140 17,o 141 (.len false (t 140)),o 142 (.bin .lt (t 139) (t 141))] [139,140,141] (.cond (t 142) .skip (.exit 4))) (.seq (.block 5 (.seq (.seq (.draw [m 145 17,m 146 21,o 147 (.iadS 1 (t 145) (t 146)),l1 148 147,m 149 7,m 150 21,o 151 (.iadS 1 (t 149) (t 150)),l1 152 151,o 153 (.bin .ne (t 148) (t 152))] [[],[],[0,1],[2],[],[],[4,5],[6],[3,7]] ([1000302]++rg 145 8)) (.cond (t 153) (sr [o 154 (f 7 []),m 6 154] [154] .ret) .skip)) (.draw [m 155 19,m 156 9,m 157 21,o 158 (.iadS 1 (t 156) (t 157)),l1 159 158,o 160 (.bin .min (t 155) (t 159)),m 161 20,m 162 9,m 163 21,o 164 (.iadS 1 (t 162) (t 163)),l1 165 164,o 166 (.bin .max (t 161) (t 165)),m 19 160,m 20 166] [[],[],[],[1,2],[3],[0,4],[],[],[],[7,8],[9],[6,10],([5]++rg 0 6),([11,12]++rg 0 13)] ([1000303]++rg 155 12)))) (.reg [m 143 21,o 144 (.bin .add (t 143) (z 1)),m 21 144] [143,144])))))) (.seq (sr [m 167 8,m 168 167,mq 169 20 168 true,mq 170 19 168 true,q 171 (.bin .sub (t 169) (t 170)) 168 true,q 172 (.bin .gt (t 171) (z 1)) 168 true,o 173 (.pick (t 168) (t 172) (.c .ff))] ([19,20]++rg 167 6) (.cond (t 173) (sr [o 6 (.mv (.c .ff))] [] .ret) .skip)) (sr [o 175 (.load true 18 (t 12)),fd 176 2 14,l1 177 176,o 178 (f 10 [(t 175),(t 177)]),m 174 178,ex 179 174 0,ex 180 174 1,o 22 (.alloc z2),u (.store 11 (t 22) (t 179)),m 23 180] ([23]++rg 174 7) (.seq (sr [fd 181 9 22,l1 182 181,o 183 (.not (t 182)),m 184 183,mq 185 10 184 true,q 186 (.bin .eq (t 185) (z 0)) 184 true,o 187 (.pick (t 184) (t 186) (.c .ff))] ([22]++rg 181 6) (.cond (t 187) (.reg [fd 188 2 14,l1 189 188,m 10 189] [14,188,189]) .skip)) (.reg [o 190 (.load true 18 (t 12)),u (.store 18 (t 3) (t 190))] [12,190]))))))))))))))) (.reg [m 70 11,o 71 (.bin .add (t 70) (z 1)),m 11 71] [70,71])))))) (sr [o 191 (f 7 []),m 6 191] [191] .ret)))))))
theorem qbh:FnIs Tryz.prog 3 192 [.t 6] qps:=fi qlv Tryz.func3 Tryz.call3
def qqe:Nat->List Nat:=kk [[0],[12],[13,14,15],[17],[18],[2,3,4,19,20,21],[],[],[24],([6]++rg 25 6),[7,31],([1006100,5]++rg 33 12),[45],[46,47,48],[50],[51],(rg 52 9),[11,61],([1006101,1,8,9]++rg 63 13),[10,76,77],([1006102,1,8,9]++rg 79 13)]
def qvn:List Nat:=([0]++rg 3 19++rg 23 27++rg 52 40)
def qww:List (Nat×List Nat):=(og 0 6++[(6,[0])]++og 7 6)
def qwv:List (Nat×List Nat):=(og 0 7++[(7,[0])]++og 8 6)
def qwu:List (Nat×List Nat):=(og 0 7++[(7,[0])]++og 8 6)
def qzaip:Cd Tryz.prog qqe Tryz.f61:=by refine⟨?_,?_⟩;rotate_left;(cbv;try rfl)
def qzapf:IR:=qzaip.c
theorem qzahn:FnIs Tryz.prog 61 92 [] qzapf:=fi qqe Tryz.func61 Tryz.call61
def qhz:Nat->List Nat:=kk [[0],[9],[10,11],[13,14],(rg 15 7),[22,23,24,25],[26],[1004700,7,28,29],[1004701,30,31],[1004702,6,7,33,34],([1,2]++rg 35 7),[42,43],[8,44],[46],[47],[1004703,7,49,50],[1004704,6,7,51,52]]
def qff:List (Nat×List Nat):=[(0,[]),(1,[]),(2,[1]),(3,[])]
def qfe:List (Nat×List Nat):=[(0,[]),(1,[0]),(2,[])]
def qwg:Cd Tryz.prog qhz Tryz.f47:=by refine⟨?_,?_⟩;rotate_left;(cbv;try rfl)
def qzabz:IR:=qwg.c
theorem qih:FnIs Tryz.prog 47 53 [.c 4 true 13,.c 5 true 3] qzabz:=fi qhz Tryz.func47 Tryz.call47
def qfz:Nat->List Nat:=kk [[0,2],[5,6,7],[],[],[9,10,11,12],[14,15],(rg 16 5),([1002000]++rg 21 24),[],[46,47,48],[4,50,51],[],([4]++rg 53 15)]
def qkr:List Nat:=([0,2]++rg 4 65)
def qlt:List (Nat×List Nat):=(og 0 25)
def qrj:Cd Tryz.prog qfz Tryz.f20:=by refine⟨?_,?_⟩;rotate_left;(cbv;try rfl)
def qvp:IR:=qrj.c
theorem qpm:FnIs Tryz.prog 20 69 [.t 2] qvp:=fi qfz Tryz.func20 Tryz.call20
def qhl:Nat->List Nat:=kk [[0,2],[8,9,10],[],[],[12],[14,15],(rg 16 7),[23,24,25],([1002100]++rg 26 12),([4,5,6,7]++rg 38 16)]
def qnd:List Nat:=([0,2]++rg 4 51)
def qcv:List (Nat×List Nat):=(og 0 13)
def qvq:Cd Tryz.prog qhl Tryz.f21:=by refine⟨?_,?_⟩;rotate_left;(cbv;try rfl)
def qzabf:IR:=qvq.c
theorem qic:FnIs Tryz.prog 21 55 [.t 2] qzabf:=fi qhl Tryz.func21 Tryz.call21
def qia:Nat->List Nat:=kk [[4],[6,7,8,9],[],[],[11,12,13],[15,16],([1018000]++rg 17 8)]
def qnl:List Nat:=([2,3,4]++rg 6 20)
def qny:List (Nat×List Nat):=(og 0 9)
def qwh:Cd Tryz.prog qia Tryz.f180:=by refine⟨?_,?_⟩;rotate_left;(cbv;try rfl)
def qzaca:IR:=qwh.c
theorem qtd:FnIs Tryz.prog 180 26 [.t 4] qzaca:=fi qia Tryz.func180 Tryz.call180
def qgb:Nat->List Nat:=kk [[0,2,3],[],[],[],[8,9,10,11],[13,14],(rg 15 5),(rg 20 9),(rg 30 5),([7]++rg 35 5),[4,5,40,41]]
def qks:List Nat:=([0,2,3]++rg 7 35)
def qrm:Cd Tryz.prog qgb Tryz.f8:=by refine⟨?_,?_⟩;rotate_left;(cbv;try rfl)
def qwj:IR:=qrm.c
theorem qpp:FnIs Tryz.prog 8 42 [.t 2,.t 3] qwj:=fi qgb Tryz.func8 Tryz.call8
def qzanw:Nat->List Nat:=kk [[0,1,4],([2,3]++rg 5 12)]
def table_Same:IR:=
 (sr [o 2 (.box (t 0)),o 3 (.box (t 1)),o 4 (.mv (.c .ff))] [0,1,4] (sr [fd 5 0 2,l1 6 5,fd 7 0 3,l1 8 7,o 9 (.bin .eq (t 6) (t 8)),m 10 9,fq 11 1 2 10 true,lq 12 11 10 true,fq 13 1 3 10 true,lq 14 13 10 true,q 15 (f 86 [(t 12),(t 14)]) 10 true,o 16 (.pick (t 10) (t 15) (.c .ff)),m 4 16] ([2,3]++rg 5 12) .ret))
theorem qzaor:FnIs Tryz.prog 87 17 [.t 4] table_Same:=fi qzanw Tryz.func87 Tryz.call87
def qtq:Nat->List Nat:=kk [[3],([1004100]++rg 4 6),[],([1004101,0,1]++rg 11 19)]
def qmo:List (Nat×List Nat):=(og 0 7)
def qzz:List (Nat×List Nat):=(og 0 17++[(17,[12]),(18,[]),(19,[]),(20,[])])
def qzamd:Cd Tryz.prog qtq Tryz.f41:=by refine⟨?_,?_⟩;rotate_left;(cbv;try rfl)
def qzatx:IR:=qzamd.c
theorem qud:FnIs Tryz.prog 41 30 [.t 3] qzatx:=fi qtq Tryz.func41 Tryz.call41
def qzacn:Nat->List Nat:=kk [[],[5,6],[8],[0,9],[12],([1019000,2,4]++rg 13 11),[24]]
def qbn:List (Nat×List Nat):=[(0,[]),(2,[]),(6,[]),(1,[]),(3,[]),(4,[]),(5,[]),(7,[4,5]),(8,[4,5]),(9,[]),(10,[]),(11,[])]
def qzaub:Cd Tryz.prog qzacn Tryz.f190:=by refine⟨?_,?_⟩;rotate_left;(cbv;try rfl)
def word_Rows:IR:=qzaub.c
theorem qzacw:FnIs Tryz.prog 190 25 [.c 2 true 8] word_Rows:=fi qzacn Tryz.func190 Tryz.call190
def qzadq:Nat->List Nat:=kk [[0,2],[1020100,1,3,4,5,6,7]]
def qzaog:IR:=
 (sr [o 1 (.box (t 0)),o 2 (.mv (.c (.re (.slice none 0 0))))] [0,2] (.seq (.draw [o 3 (.load true 13 (t 1)),fd 4 3 1,l1 5 4,o 6 (f 102 [(t 5)]),o 7 (f 202 [(t 3),(t 6)]),m 2 7] [[],[],[1],[2],[0,3,3],[4,4,0,1,2,3,4]] [1020100,1,3,4,5,6,7]) .ret))
theorem qpg:FnIs Tryz.prog 201 8 [.t 2] qzaog:=fi qzadq Tryz.func201 Tryz.call201
def qzajm:Nat->List Nat:=kk [[3],[1025500,0,1,4,5,6,7]]
def qzaab:List (Nat×List Nat):=[(0,[]),(2,[]),(1,[2]),(3,[]),(4,[])]
def qzaue:IR:=
 (sr [o 3 (.mv (.c .ff))] [3] (.seq (.draw [m 4 0,o 5 (f 188 [(t 4)]),l1 6 1,o 7 (.bin .eq (t 5) (t 6)),m 3 7] [[],[0],[],[1,2],[3,1,0,1,2,3]] [1025500,0,1,4,5,6,7]) .ret))
theorem qzakj:FnIs Tryz.prog 255 8 [.t 3] qzaue:=fi qzajm Tryz.func255 Tryz.call255
def qmz:Nat->List Nat:=kk [[4,5,6],(rg 8 7),[],([0,1]++rg 16 5),[1012500,7,21,22,23,24]]
def qsk:List (Nat×List Nat):=(og 0 7)
def qzaej:Cd Tryz.prog qmz Tryz.f125:=by refine⟨?_,?_⟩;rotate_left;(cbv;try rfl)
def qzakp:IR:=qzaej.c
theorem qzaas:FnIs Tryz.prog 125 25 [.t 4,.t 5,.t 6] qzakp:=fi qmz Tryz.func125 Tryz.call125
def qjg:Nat->List Nat:=kk [[0,2],(rg 4 15),[],[],[20,21,22,23],[25,26],(rg 27 17)]
def qom:List Nat:=([0,2]++rg 4 41)
def qyx:Cd Tryz.prog qjg Tryz.f15:=by refine⟨?_,?_⟩;rotate_left;(cbv;try rfl)
def qzaeb:IR:=qyx.c
theorem qva:FnIs Tryz.prog 15 45 [.t 2] qzaeb:=fi qjg Tryz.func15 Tryz.call15
def qjm:Nat->List Nat:=kk [[2],[],[],[5,6,7],[9,10],(rg 11 7),[3,18]]
def qoq:List Nat:=([1,2]++rg 5 14)
def qze:Cd Tryz.prog qjm Tryz.f50:=by refine⟨?_,?_⟩;rotate_left;(cbv;try rfl)
def qzaek:IR:=qze.c
theorem qvh:FnIs Tryz.prog 50 19 [.t 2] qzaek:=fi qjm Tryz.func50 Tryz.call50
def qqf:Nat->List Nat:=kk [[3],(rg 4 8),[],([1006500,0,1]++rg 13 13)]
def qwx:List (Nat×List Nat):=(og 0 7++[(7,[5])]++og 8 7)
def qzais:Cd Tryz.prog qqf Tryz.f65:=by refine⟨?_,?_⟩;rotate_left;(cbv;try rfl)
def qzapo:IR:=qzais.c
theorem qjv:FnIs Tryz.prog 65 26 [.t 3] qzapo:=fi qqf Tryz.func65 Tryz.call65
def qjr:Nat->List Nat:=kk [[6,7],(rg 10 9),[],(rg 20 11),[],[],[],[32,33],[35,36],(rg 37 10),[8,47]]
def qzk:Cd Tryz.prog qjr Tryz.f164:=by refine⟨?_,?_⟩;rotate_left;(cbv;try rfl)
def qzaer:IR:=qzk.c
theorem qka:FnIs Tryz.prog 164 48 [.t 6,.t 7] qzaer:=fi qjr Tryz.func164 Tryz.call164
def qqh:Nat->List Nat:=kk [[3],([1006600,1]++rg 4 12),[0,16,17],[18]]
def qky:List (Nat×List Nat):=(og 0 14)
def qzaiu:Cd Tryz.prog qqh Tryz.f66:=by refine⟨?_,?_⟩;rotate_left;(cbv;try rfl)
def qzapr:IR:=qzaiu.c
theorem qqt:FnIs Tryz.prog 66 19 [.t 3] qzapr:=fi qqh Tryz.func66 Tryz.call66
def qpb:Nat->List Nat:=kk [[4,5],[],[9],([3]++rg 10 8),[19]]
def qck:List Nat:=([2,3,4,5]++rg 8 12)
def qzafp:Cd Tryz.prog qpb Tryz.f240:=by refine⟨?_,?_⟩;rotate_left;(cbv;try rfl)
def qzame:IR:=qzafp.c
theorem qda:FnIs Tryz.prog 240 20 [] qzame:=fi qpb Tryz.func240 Tryz.call240
def qjh:Nat->List Nat:=kk [[0,5],[1,7,8,9],(rg 10 6),[17],([2,6]++rg 18 6)]
def qyy:Cd Tryz.prog qjh Tryz.f10:=by refine⟨?_,?_⟩;rotate_left;(cbv;try rfl)
def qzaec:IR:=qyy.c
theorem qvb:FnIs Tryz.prog 10 24 [.c 4 true 11,.t 5] qzaec:=fi qjh Tryz.func10 Tryz.call10
def qzarw:Nat->List Nat:=kk [[0],[1,3,4,5],[6]]
def turn_Many:IR:=
 (sr [o 1 (.box (t 0)),o 2 (.alloc [(.i .i64 (.l 0))])] [0] (sr [o 3 (.load true 9 (t 1)),o 4 (.mkF (.func 143) [] [(t 2)]),o 5 (f 141 [(t 3),(t 4)])] [1,3,4,5] (sr [l1 6 2,u (.store 1 (t 2) (t 6))] [6] .ret)))
theorem qzasy:FnIs Tryz.prog 77 7 [.c 2 false 1] turn_Many:=fi qzarw Tryz.func77 Tryz.call77
def qxp:Nat->List Nat:=kk [[0],[1,5],[],[10,11],[4,12,13,14,15],[16],[17]]
def qzabb:List Nat:=([0,1,3,4,5]++rg 9 9)
def qzaqn:Cd Tryz.prog qxp Tryz.f186:=by refine⟨?_,?_⟩;rotate_left;(cbv;try rfl)
def table_Full:IR:=qzaqn.c
theorem qyk:FnIs Tryz.prog 186 18 [.t 2] table_Full:=fi qxp Tryz.func186 Tryz.call186
def qxl:Nat->List Nat:=kk [[0,1],[9,10],[],[2,12],[14],[15],[3,16,17],[7,8,19,20]]
def qzaqi:Cd Tryz.prog qxl Tryz.f141:=by refine⟨?_,?_⟩;rotate_left;(cbv;try rfl)
def turn_first:IR:=qzaqi.c
theorem qof:FnIs Tryz.prog 141 21 [.c 4 false 1,.c 5 false 1,.c 6 false 1] turn_first:=fi qxl Tryz.func141 Tryz.call141
def qtn:Nat->List Nat:=kk [[0,2],[5],[8],[1,9,10,11],[6,13],([1]++rg 14 14),(rg 28 5),([1,3,4]++rg 33 15)]
def qzalz:Cd Tryz.prog qtn Tryz.f30:=by refine⟨?_,?_⟩;rotate_left;(cbv;try rfl)
def qzatr:IR:=qzalz.c
theorem qlw:FnIs Tryz.prog 30 48 [.t 2] qzatr:=fi qtn Tryz.func30 Tryz.call30
def qzahd:Nat->List Nat:=kk [[0,5],(rg 8 6),[7,14],[2,16],(rg 17 5),[6,23,24,25],([1]++rg 26 8),[2,34]]
def turn_Out_c:Cd Tryz.prog qzahd Tryz.f128:=by refine⟨?_,?_⟩;rotate_left;(cbv;try rfl)
def turn_Out:IR:=turn_Out_c.c
theorem qux:FnIs Tryz.prog 128 35 [.c 4 true 9,.t 5] turn_Out:=fi qzahd Tryz.func128 Tryz.call128
def qqi:Nat->List Nat:=kk [[6,7],([2]++rg 8 13),[0,1,22,23,24],[0,25]]
def qzaix:Cd Tryz.prog qqi Tryz.f132:=by refine⟨?_,?_⟩;rotate_left;(cbv;try rfl)
def qzapy:IR:=qzaix.c
theorem qdq:FnIs Tryz.prog 132 26 [.t 6,.t 7] qzapy:=fi qqi Tryz.func132 Tryz.call132
def qzaag:Nat->List Nat:=kk [[2],[0,3,4,5,6]]
def qzajc:IR:=
 (sr [o 2 (.mv (.c .ff))] [2] (sr [m 3 0,o 4 (.bin .shl (z 1) (t 3)),o 5 (.bin .and (t 4) (z 6)),o 6 (.bin .ne (t 5) (z 0)),m 2 6] [0,3,4,5,6] .ret))
theorem qzaan:FnIs Tryz.prog 59 7 [.t 2] qzajc:=fi qzaag Tryz.func59 Tryz.call59
def qxh:Nat->List Nat:=kk [[0,5],[1,7,8,9],(rg 10 5),([2,6]++rg 16 6),[22]]
def qzaps:Cd Tryz.prog qxh Tryz.f24:=by refine⟨?_,?_⟩;rotate_left;(cbv;try rfl)
def write_Find:IR:=qzaps.c
theorem qzaon:FnIs Tryz.prog 24 23 [.c 4 true 11,.t 5] write_Find:=fi qxh Tryz.func24 Tryz.call24
def qtw:Nat->List Nat:=kk [[],([0]++rg 5 6),[4],[3,12],[13,14]]
def qzaod:Cd Tryz.prog qtw Tryz.f107:=by refine⟨?_,?_⟩;rotate_left;(cbv;try rfl)
def qzavw:IR:=qzaod.c
theorem qef:FnIs Tryz.prog 107 15 [.c 2 true 4] qzavw:=fi qtw Tryz.func107 Tryz.call107
def qqj:Nat->List Nat:=kk [[2],([0]++rg 3 14)]
def qzaiy:Cd Tryz.prog qqj Tryz.f127:=by refine⟨?_,?_⟩;rotate_left;(cbv;try rfl)
def qzaqa:IR:=qzaiy.c
theorem qqw:FnIs Tryz.prog 127 17 [.t 2] qzaqa:=fi qqj Tryz.func127 Tryz.call127
def qzajk:Nat->List Nat:=kk [[2],[0,3,4,5,6]]
def qzaua:IR:=
 (sr [o 2 (.mv (.c .ff))] [2] (sr [m 3 0,m 4 0,o 5 (.bin .and (t 4) (z 7)),o 6 (.bin .eq (t 3) (t 5)),m 2 6] [0,3,4,5,6] .ret))
theorem que:FnIs Tryz.prog 239 7 [.t 2] qzaua:=fi qzajk Tryz.func239 Tryz.call239
def qxr:Nat->List Nat:=kk [[0,2],([1]++rg 3 20)]
def qzarz:Cd Tryz.prog qxr Tryz.f162:=by refine⟨?_,?_⟩;rotate_left;(cbv;try rfl)
def head_Right:IR:=qzarz.c
theorem qcw:FnIs Tryz.prog 162 23 [.t 2] head_Right:=fi qxr Tryz.func162 Tryz.call162
def qzahj:Nat->List Nat:=kk [[0,2],[1,3]]
def qzasm:IR:=
 (sr [o 1 (.box (t 0)),o 2 (.mv (.c (.re .nilFunc)))] [0,2] (sr [o 3 (.mkF (.func 256) [] [(t 1)]),m 2 3] [1,3] .ret))
theorem qfp:FnIs Tryz.prog 241 4 [.t 2] qzasm:=fi qzahj Tryz.func241 Tryz.call241
def qzajv:Nat->List Nat:=kk [[0,2],[1,3]]
def qzavv:IR:=
 (sr [o 1 (.box (t 0)),o 2 (.mv (.c (.re .nilFunc)))] [0,2] (sr [o 3 (.mkF (.func 228) [] [(t 1)]),m 2 3] [1,3] .ret))
theorem qee:FnIs Tryz.prog 161 4 [.t 2] qzavv:=fi qzajv Tryz.func161 Tryz.call161
def qzarr:Nat->List Nat:=kk [[2],[0,3,4,5]]
def word_slot:IR:=
 (sr [o 2 (.mv (z 0))] [2] (sr [m 3 0,o 4 (.bin .and (t 3) (.c (.i .u64 (.l 7)))),o 5 (.cv .i64 (t 4)),m 2 5] [0,3,4,5] .ret))
theorem qqv:FnIs Tryz.prog 188 6 [.t 2] word_slot:=fi qzarr Tryz.func188 Tryz.call188
def qzany:Nat->List Nat:=kk [[0,2],[1,3]]
def head_parts:IR:=
 (sr [o 1 (.box (t 0)),o 2 (.mv (.c (.re .nilFunc)))] [0,2] (sr [o 3 (.mkF (.func 229) [] [(t 1)]),m 2 3] [1,3] .ret))
theorem qog:FnIs Tryz.prog 163 4 [.t 2] head_parts:=fi qzany Tryz.func163 Tryz.call163
def qzaru:Nat->List Nat:=kk [[3],[0,1,4,5,6]]
def turn_Of_1:IR:=
 (sr [o 3 (.mv (.c .ff))] [3] (sr [m 4 0,l1 5 1,o 6 (.bin .eq (t 4) (t 5)),m 3 6] [0,1,4,5,6] .ret))
theorem qqy:FnIs Tryz.prog 142 7 [.t 3] turn_Of_1:=fi qzaru Tryz.func142 Tryz.call142
end I
end Cz
