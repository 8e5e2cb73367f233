/- What the claims of this group lean on: CzR1. No condition. -/
import Derived.Test.YtfijlhdheiebcaaGreatDoorKB4
set_option maxRecDepth 100000
set_option maxHeartbeats 4000000
namespace Cz
open Go Go.RowKit Go.Proofs
namespace I
def qzaxd:Nat->List Nat:=kk [[0,4],(rg 22 29),[52],([1000500]++rg 53 7),[],[60,61,62],[64,65],([1000501]++rg 66 9),([1000502]++rg 75 24),[],[9],(rg 101 6),([8]++rg 107 6),([11]++rg 113 7),[],[10,121],([2]++rg 122 7),([1]++rg 129 6),([14,15]++rg 136 10),([13]++rg 146 5),([18,19,21]++rg 151 7),([5,6,12,14,16,17,20]++rg 158 53)]
def qzaxa:List Nat:=([0,3,4]++rg 8 203)
def qzawv:List (Nat×List Nat):=(og 0 9)
def qzawt:Spl:=(.node 5 9
 (.leaf (og 0 12))
 (.leaf (og 0 5++[(9,[0,4])]++og 5 4++[(10,[]),(11,[])])))
def qzawu:List (Nat×List Nat):=(og 0 25)
def qzaxs:IR:=
 (sr [o 2 (.box (t 0)),o 4 (.mv (.c .ff))] [0,4] (.seq (sr [o 22 (.load true 18 (t 2)),o 23 (f 7 [(t 22)]),m 24 23,q 25 (.load true 18 (t 2)) 24 false,q 26 (f 8 [(t 25)]) 24 false,q 27 (.not (t 26)) 24 false,o 28 (.pick (t 24) (.c .tt) (t 27)),m 29 28,fq 30 0 2 29 false,lq 31 30 29 false,q 32 (.len false (t 31)) 29 false,q 33 (.bin .gt (t 32) (z 0)) 29 false,o 34 (.pick (t 29) (.c .tt) (t 33)),m 35 34,fq 36 17 2 35 false,lq 37 36 35 false,o 38 (.pick (t 35) (.c .tt) (t 37)),m 39 38,mq 40 1 39 false,q 41 (.len false (t 40)) 39 false,q 42 (.bin .gt (t 41) (z 20)) 39 false,o 43 (.pick (t 39) (.c .tt) (t 42)),m 44 43,fq 45 5 2 44 false,lq 46 45 44 false,fq 47 6 2 44 false,lq 48 47 44 false,q 49 (.bin .add (t 46) (t 48)) 44 false,q 50 (.bin .gt (t 49) (z 2147483647)) 44 false,o 51 (.pick (t 44) (.c .tt) (t 50))] (rg 22 29) (.cond (t 51) (sr [o 52 (f 9 []),m 4 52] [52] .ret) .skip)) (.seq (.draw [fd 53 5 2,l1 54 53,fd 55 6 2,l1 56 55,o 57 (.bin .add (t 54) (t 56)),fd 58 6 2,l1 59 58,m 5 57,m 6 59] [[],[0],[],[2],[1,3],[],[5],[4,0,1,2,3,4],([6,7]++rg 0 8)] ([1000500]++rg 53 7)) (.seq (sr [o 7 (.mv (z 0))] [] (.block 0 (.loop (.seq (sr [m 60 7,m 61 1,o 62 (.len false (t 61)),o 63 (.bin .lt (t 60) (t 62))] [60,61,62] (.cond (t 63) .skip (.exit 0))) (.seq (.block 1 (.seq (.draw [o 67 (.load true 18 (t 2)),m 68 1,m 69 7,o 70 (.iadS 1 (t 68) (t 69)),l1 71 70,o 72 (f 18 [(t 67),(t 71)]),m 66 72,ex 73 66 0,ex 74 66 1,o 8 (.alloc z0),u (.store 18 (t 8) (t 73)),m 9 74] [[],[],[],[1,2],[3],[0,4],[5],[6],[6],[],([9,7,5]++rg 0 8++[9]),([8,10]++rg 0 11)] ([1000501]++rg 66 9)) (.seq (.seq (.draw [m 75 9,m 76 1,m 77 7,o 78 (.iadS 1 (t 76) (t 77)),l1 79 78,o 80 (.bin .ge (t 79) (z 0)),m 81 80,mq 82 1 81 true,mq 83 7 81 true,q 84 (.iadS 1 (t 82) (t 83)) 81 true,lq 85 84 81 true,fq 86 5 2 81 true,lq 87 86 81 true,q 88 (.bin .le (t 85) (t 87)) 81 true,o 89 (.pick (t 81) (t 88) (.c .ff)),o 90 (.eqA ⟨false,[.kb]⟩ true (t 75) (t 89)),m 91 90,fq 92 5 8 91 false,lq 93 92 91 false,fq 94 6 8 91 false,lq 95 94 91 false,q 96 (.bin .add (t 93) (t 95)) 91 false,mq 97 5 91 false,q 98 (.bin .ne (t 96) (t 97)) 91 false,o 99 (.pick (t 91) (.c .tt) (t 98))] [[],[],[],[1,2],[3],[4],[5],[6],[6],[7,8,6],[9,6],[6],[11,6],[10,12,6],[6,13],[0,14],[15,6],[16],[17,16],[16],[19,16],[18,20,16],[16],[21,22,16],[16,23]] ([1000502]++rg 75 24)) (.cond (t 99) (sr [o 4 (.mv (.c .ff))] [] .ret) .skip)) (.seq (sr [m 100 9] [9] (.cond (t 100) (.reg [m 101 6,m 102 1,m 103 7,o 104 (.iadS 1 (t 102) (t 103)),l1 105 104,o 106 (.bin .add (t 101) (t 105)),m 6 106] (rg 101 6)) .skip)) (sr [o 108 (.load true 18 (t 8)),o 109 (.build z1 [(0,1,(.c (.i .u8 (.l 3))))]),o 110 (f 19 [(t 108),(t 109)]),m 107 110,ex 111 107 0,ex 112 107 1,o 10 (.alloc z0),u (.store 18 (t 10) (t 111)),m 11 112] ([8]++rg 107 6) (.seq (sr [m 113 11,o 114 (.not (t 113)),m 115 114,fq 116 0 10 115 false,lq 117 116 115 false,q 118 (.len false (t 117)) 115 false,q 119 (.bin .ne (t 118) (z 1)) 115 false,o 120 (.pick (t 115) (.c .tt) (t 119))]
 ([11]++rg 113 7) (.cond (t 120) (sr [o 4 (.mv (.c .ff))] [] .ret) .skip)) (.reg [o 121 (.load true 18 (t 10)),u (.store 18 (t 2) (t 121))] [10,121]))))))) (.reg [m 64 7,o 65 (.bin .add (t 64) (z 1)),m 7 65] [64,65])))))) (sr [o 123 (.load true 18 (t 2)),o 124 (f 13 [(t 123),(z 1),(z 1)]),m 122 124,ex 125 122 0,ex 126 122 1,ex 127 122 2,ex 128 122 3,o 12 (.alloc z0),o 14 (.alloc z2),u (.store 18 (t 12) (t 125)),m 13 126,u (.store 4 (t 14) (t 127)),m 15 128] ([2]++rg 122 7) (.seq (sr [m 129 1,o 130 (.len false (t 129)),o 131 (.bin .eq (t 130) (z 0)),m 132 131,mq 133 6 132 false,q 134 (.bin .eq (t 133) (z 0)) 132 false,o 135 (.pick (t 132) (.c .tt) (t 134))] ([1]++rg 129 6) (.cond (t 135) (sr [m 136 15,o 137 (.not (t 136)),m 138 137,fq 139 0 14 138 false,lq 140 139 138 false,q 141 (.bin .eq (t 140) (.c (.i .u8 (.l 0)))) 138 false,o 142 (.pick (t 138) (.c .tt) (t 141)),m 143 142,q 144 (f 9 []) 143 true,o 145 (.pick (t 143) (t 144) (.c .ff)),m 4 145] ([14,15]++rg 136 10) .ret) .skip)) (sr [m 147 13,o 148 (f 20 [(t 147)]),m 146 148,ex 149 146 0,ex 150 146 1,m 16 149,m 17 150] ([13]++rg 146 5) (sr [o 152 (.load true 18 (t 12)),o 153 (f 13 [(t 152),(z 1),(z 1)]),m 151 153,ex 154 151 0,ex 155 151 1,ex 156 151 2,ex 157 151 3,o 18 (.alloc z0),o 20 (.alloc z2),u (.store 18 (t 18) (t 154)),m 19 155,u (.store 4 (t 20) (t 156)),m 21 157] ([18,19,21]++rg 151 7) (sr [m 158 17,m 159 158,mq 160 16 159 true,q 161 (.len false (t 160)) 159 true,q 162 (.bin .eq (t 161) (z 1)) 159 true,o 163 (.pick (t 159) (t 162) (.c .ff)),m 164 163,mq 165 16 164 true,q 166 (.iadS 13 (t 165) (z 0)) 164 true,fq 167 0 166 164 true,lq 168 167 164 true,q 169 (.bin .eq (t 168) (.c (.i .u8 (.l 8)))) 164 true,o 170 (.pick (t 164) (t 169) (.c .ff)),m 171 170,mq 172 16 171 true,q 173 (.iadS 13 (t 172) (z 0)) 171 true,fq 174 2 173 171 true,lq 175 174 171 true,q 176 (.bin .eq (t 175) (z 0)) 171 true,o 177 (.pick (t 171) (t 176) (.c .ff)),m 178 177,mq 179 16 178 true,q 180 (.iadS 13 (t 179) (z 0)) 178 true,fq 181 6 180 178 true,lq 182 181 178 true,mq 183 6 178 true,q 184 (.bin .eq (t 182) (t 183)) 178 true,o 185 (.pick (t 178) (t 184) (.c .ff)),m 186 185,fq 187 3 14 186 true,lq 188 187 186 true,mq 189 6 186 true,q 190 (.bin .eq (t 188) (t 189)) 186 true,o 191 (.pick (t 186) (t 190) (.c .ff)),m 192 191,fq 193 5 12 192 true,lq 194 193 192 true,mq 195 5 192 true,q 196 (.bin .eq (t 194) (t 195)) 192 true,o 197 (.pick (t 192) (t 196) (.c .ff)),m 198 197,fq 199 6 12 198 true,lq 200 199 198 true,q 201 (.bin .eq (t 200) (z 0)) 198 true,o 202 (.pick (t 198) (t 201) (.c .ff)),m 203 202,fq 204 0 20 203 true,lq 205 204 203 true,q 206 (.bin .ne (t 205) (.c (.i .u8 (.l 8)))) 203 true,o 207 (.pick (t 203) (t 206) (.c .ff)),m 208 207,q 209 (f 9 []) 208 true,o 210 (.pick (t 208) (t 209) (.c .ff)),m 4 210] ([5,6,12,14,16,17,20]++rg 158 53) .ret)))))))))
theorem qzaws:FnIs Tryz.prog 5 211 [.t 4] qzaxs:=fi qzaxd Tryz.func5 Tryz.call5
def qzaxp:Nat->List Nat:=kk [[2,3],[],[11,12],([0]++rg 14 7),([5,6]++rg 21 6),([8,10]++rg 27 6),[],[9,34,35,36,37],[7,38],[4,39]]
def qzayj:IR:=
 (sr [o 2 (.mv (.c (.re (.slice none 0 0)))),o 3 (.mv (.c .ff))] [2,3] (sr [o 4 (.mv (.c (.re (.slice none 0 0))))] [] (.seq (.block 0 (.loop (.seq (sr [m 11 0,o 12 (.len false (t 11)),o 13 (.bin .gt (t 12) (z 0))] [11,12] (.cond (t 13) .skip (.exit 0))) (.block 1 (sr [m 15 0,o 16 (f 53 [(t 15)]),m 14 16,ex 17 14 0,ex 18 14 1,ex 19 14 2,ex 20 14 3,o 5 (.alloc z4),u (.store 4 (t 5) (t 17)),m 6 18,m 7 19,m 8 20] ([0]++rg 14 7) (sr [o 22 (.load true 4 (t 5)),m 23 6,o 24 (f 54 [(t 22),(t 23)]),m 21 24,ex 25 21 0,ex 26 21 1,o 9 (.alloc z5),o 10 (.alloc [.ff,(.i .i64 (.l 0)),(.i .u32 (.l 0))]),u (.store 13 (t 9) (t 25)),u (.store 3 (t 10) (t 26))] ([5,6]++rg 21 6) (.seq (sr [m 27 8,o 28 (.bin .ne (t 27) (z 0)),m 29 28,fq 30 2 10 29 false,lq 31 30 29 false,q 32 (.bin .ne (t 31) (.c (.i .u32 (.l 0)))) 29 false,o 33 (.pick (t 29) (.c .tt) (t 32))] ([8,10]++rg 27 6) (.cond (t 33) (sr [o 2 (.mv (.c (.re (.slice none 0 0)))),o 3 (.mv (.c .ff))] [] .ret) .skip)) (sr [m 34 4,o 35 (.load true 13 (t 9)),o 36 (.buildS 13 1 z5 [(0,(t 35))]),o 37 (.app 13 (t 34) (t 36)),m 4 37] [9,34,35,36,37] (.reg [m 38 7,m 0 38] [7,38]))))))))) (sr [m 39 4,m 2 39,o 3 (.mv (.c .tt))] [4,39] .ret))))
theorem qzaww:FnIs Tryz.prog 20 40 [.t 2,.t 3] qzayj:=fi qzaxp Tryz.func20 Tryz.call20
def qzaxt:Nat->List Nat:=kk [[2,3,4],[6,7],[],[9,10,11,12],[13,14,15,16],[],([0,5]++rg 18 10)]
def qzaym:IR:=
 (sr [o 2 (.mv (.c (.re (.slice none 0 0)))),o 3 (.mv (z 0)),o 4 (.mv (z 0))] [2,3,4] (.seq (sr [m 6 0,o 7 (.len false (t 6)),o 8 (.bin .eq (t 7) (z 0))] [6,7] (.cond (t 8) (sr [o 2 (.mv (.c (.re (.slice none 0 0)))),o 3 (.mv (z 0)),o 4 (.mv (z 10))] [] .ret) .skip)) (sr [m 9 0,o 10 (.iadS 1 (t 9) (z 0)),l1 11 10,o 12 (.cv .i64 (t 11)),m 5 12] [9,10,11,12] (.seq (sr [m 13 5,m 14 0,o 15 (.len false (t 14)),o 16 (.bin .sub (t 15) (z 1)),o 17 (.bin .gt (t 13) (t 16))] [13,14,15,16] (.cond (t 17) (sr [o 2 (.mv (.c (.re (.slice none 0 0)))),o 3 (.mv (z 0)),o 4 (.mv (z 11))] [] .ret) .skip)) (sr [o 18 (.buildS 1 0 [(.i .u8 (.l 0))] []),m 19 0,m 20 0,o 21 (.len false (t 20)),m 22 5,o 23 (.bin .sub (t 21) (t 22)),o 24 (.slc 1 (t 19) (some (z 1)) (some (t 23)) none),o 25 (.app 1 (t 18) (t 24)),m 26 5,o 27 (.bin .add (t 26) (z 1)),m 2 25,m 3 27,o 4 (.mv (z 0))] ([0,5]++rg 18 10) .ret)))))
theorem qzaxv:FnIs Tryz.prog 237 28 [.t 2,.t 3,.t 4] qzaym:=fi qzaxt Tryz.func237 Tryz.call237
def qxc:Nat->List Nat:=kk [[7],(rg 16 10),[7,26],[28],(rg 29 6),(rg 35 8),([1004300,1,2]++rg 43 13),(rg 56 7),[64],([1004301]++rg 65 8),([1004302,13]++rg 73 19),(rg 92 7),[100],([15]++rg 101 6),[14,107,108,109],[11,110,111,112,113],([1004303,8,9,10,12]++rg 114 18),[0,132,133],[134]]
def qek:List (Nat×List Nat):=(og 0 14)
def qhc:List (Nat×List Nat):=(og 0 6++[(6,[1]),(7,[]),(8,[])])
def qhb:List (Nat×List Nat):=(og 0 16++[(16,[12]),(17,[]),(18,[12]),(19,[]),(20,[]),(21,[])])
def qha:List (Nat×List Nat):=(og 0 11++[(11,[1,2,5])]++og 12 7)
def qzapj:Cd Tryz.prog qxc Tryz.f43:=by refine⟨?_,?_⟩;rotate_left;(cbv;try rfl)
def write_data:IR:=qzapj.c
theorem qfl:FnIs Tryz.prog 43 135 [.c 6 true 13,.t 7] write_data:=fi qxc Tryz.func43 Tryz.call43
def qtz:Nat->List Nat:=kk [[0],[],[7],[8],[9,10],[12],[13,14],[16,17,18],[19],(rg 20 22),(rg 43 7),(rg 50 6),[57,58],[1015600,2,60,61,62,63],[64],[1,6,65,66,67,68],[70,71],[72,73],[1015601,75,76],[1015602,77,78]]
def qmq:List (Nat×List Nat):=[(0,[]),(1,[]),(2,[]),(3,[0]),(4,[]),(5,[])]
def qdt:List (Nat×List Nat):=[(0,[]),(1,[]),(2,[1]),(3,[])]
def qzaoj:Cd Tryz.prog qtz Tryz.f156:=by refine⟨?_,?_⟩;rotate_left;(cbv;try rfl)
def qzawb:IR:=qzaoj.c
theorem qgn:FnIs Tryz.prog 156 79 [.c 4 true 13,.c 5 true 3] qzawb:=fi qtz Tryz.func156 Tryz.call156
def qhl:Nat->List Nat:=kk [[0,2],[8,9,10],[],[],[12],[14,15],(rg 16 7),[23,24,25],([1002900]++rg 26 12),([4,5,6,7]++rg 38 16)]
def qnd:List Nat:=([0,2]++rg 4 51)
def qcv:List (Nat×List Nat):=(og 0 13)
def qvq:Cd Tryz.prog qhl Tryz.f29:=by refine⟨?_,?_⟩;rotate_left;(cbv;try rfl)
def qzabf:IR:=qvq.c
theorem qic:FnIs Tryz.prog 29 55 [.t 2] qzabf:=fi qhl Tryz.func29 Tryz.call29
def qoz:Nat->List Nat:=kk [[0,2],[],[6],[8,9],([1007900,3]++rg 10 33),[44],[],[49,50],[5,51,52],[54],([1]++rg 55 13)]
def qij:List Nat:=([0]++rg 2 43++rg 48 20)
def qeo:List (Nat×List Nat):=(og 0 34)
def qzafm:Cd Tryz.prog qoz Tryz.f79:=by refine⟨?_,?_⟩;rotate_left;(cbv;try rfl)
def qzaly:IR:=qzafm.c
theorem qhe:FnIs Tryz.prog 79 68 [.t 2] qzaly:=fi qoz Tryz.func79 Tryz.call79
def qzanw:Nat->List Nat:=kk [[0,1,4],([2,3]++rg 5 12)]
def table_Same:IR:=
 (sr [o 2 (.box (t 0)),o 3 (.box (t 1)),o 4 (.mv (.c .ff))] [0,1,4] (sr [fd 5 0 2,l1 6 5,fd 7 0 3,l1 8 7,o 9 (.bin .eq (t 6) (t 8)),m 10 9,fq 11 1 2 10 true,lq 12 11 10 true,fq 13 1 3 10 true,lq 14 13 10 true,q 15 (f 93 [(t 12),(t 14)]) 10 true,o 16 (.pick (t 10) (t 15) (.c .ff)),m 4 16] ([2,3]++rg 5 12) .ret))
theorem qzaor:FnIs Tryz.prog 94 17 [.t 4] table_Same:=fi qzanw Tryz.func94 Tryz.call94
def qzajo:Nat->List Nat:=kk [[4,5],([0,1]++rg 6 11)]
def qzaug:IR:=
 (sr [o 4 (.mv (z 0)),o 5 (.mv (.c .ff))] [4,5] (sr [m 6 0,m 7 1,m 8 1,o 9 (.bin .gt (t 8) (z 0)),m 10 9,mq 11 1 10 true,q 12 (.bin .le (t 11) (z 2147483647)) 10 true,o 13 (.pick (t 10) (t 12) (.c .ff)),o 14 (f 138 [(t 6),(t 7),(t 13)]),ex 15 14 0,ex 16 14 1,m 4 15,m 5 16] ([0,1]++rg 6 11) .ret))
theorem quf:FnIs Tryz.prog 74 17 [.t 4,.t 5] qzaug:=fi qzajo Tryz.func74 Tryz.call74
def qhn:Nat->List Nat:=kk [[0,2],[3],[6],[1,7,8,9,10],[12],([1]++rg 13 8),[22],[1,23,24,25,26],[28],([1]++rg 29 8),[38],([1]++rg 39 8),[48],([1]++rg 49 8),[4,58],([1]++rg 59 14)]
def qvs:Cd Tryz.prog qhn Tryz.f26:=by refine⟨?_,?_⟩;rotate_left;(cbv;try rfl)
def qzabh:IR:=qvs.c
theorem qsr:FnIs Tryz.prog 26 73 [.t 2] qzabh:=fi qhn Tryz.func26 Tryz.call26
def qdp:Nat->List Nat:=kk [[4],[5],[7],(rg 8 7),[15],([1]++rg 17 9),[0,26]]
def qki:Cd Tryz.prog qdp Tryz.f259:=by refine⟨?_,?_⟩;rotate_left;(cbv;try rfl)
def qmg:IR:=qki.c
theorem qjx:FnIs Tryz.prog 259 27 [.t 4] qmg:=fi qdp Tryz.func259 Tryz.call259
def qts:Nat->List Nat:=kk [[0,2],([1014200,1]++rg 3 15)]
def qmp:List (Nat×List Nat):=(og 0 10++[(11,[]),(12,[]),(10,[12]),(13,[]),(14,[]),(15,[])])
def qzaml:Cd Tryz.prog qts Tryz.f142:=by refine⟨?_,?_⟩;rotate_left;(cbv;try rfl)
def qzauq:IR:=qzaml.c
theorem quh:FnIs Tryz.prog 142 18 [.t 2] qzauq:=fi qts Tryz.func142 Tryz.call142
def qzarv:Nat->List Nat:=kk [[0,2,3,4],[1,5,6,7,8,9]]
def turn_Next:IR:=
 (sr [o 1 (.box (t 0)),o 2 (.mv (z 0)),o 3 (.mv (z 0)),o 4 (.mv (.c .ff))] [0,2,3,4] (sr [o 5 (.load true 9 (t 1)),o 6 (f 147 [(t 5),(.c (.fn (.func 203) [] []))]),ex 7 6 0,ex 8 6 1,ex 9 6 2,m 2 7,m 3 8,m 4 9] [1,5,6,7,8,9] .ret))
theorem qzasx:FnIs Tryz.prog 162 10 [.t 2,.t 3,.t 4] turn_Next:=fi qzarv Tryz.func162 Tryz.call162
def qla:Nat->List Nat:=kk [[5],[],[10,11],([4]++rg 12 13),[26]]
def qde:List Nat:=([2,3,4,5]++rg 9 18)
def qzm:Cd Tryz.prog qla Tryz.f146:=by refine⟨?_,?_⟩;rotate_left;(cbv;try rfl)
def qzafl:IR:=qzm.c
theorem qfk:FnIs Tryz.prog 146 27 [] qzafl:=fi qla Tryz.func146 Tryz.call146
def qsm:Nat->List Nat:=kk [[2],([0]++rg 3 6)]
def qzabo:IR:=
 (sr [o 2 (.mv (.c .ff))] [2] (sr [m 3 0,o 4 (.bin .ge (t 3) (z (-2147483647))),m 5 4,mq 6 0 5 true,q 7 (.bin .le (t 6) (z 2147483647)) 5 true,o 8 (.pick (t 5) (t 7) (.c .ff)),m 2 8] ([0]++rg 3 6) .ret))
theorem qsx:FnIs Tryz.prog 27 9 [.t 2] qzabo:=fi qsm Tryz.func27 Tryz.call27
def qql:Nat->List Nat:=kk [[6,7],[13],[],[],[18,19],(rg 20 6),([10]++rg 26 6),[32],(rg 33 5),[],([1,2,8]++rg 39 9),[12],[11,49],[0,50]]
def qzaja:Cd Tryz.prog qql Tryz.f109:=by refine⟨?_,?_⟩;rotate_left;(cbv;try rfl)
def qzaqq:IR:=qzaja.c
theorem qrb:FnIs Tryz.prog 109 51 [.t 6,.t 7] qzaqq:=fi qql Tryz.func109 Tryz.call109
def qqo:Nat->List Nat:=kk [[0],[4,5],[7],[3,8],(rg 10 8),([1]++rg 18 6),(rg 25 8),[33],(rg 35 10),[1,45,46,47],[48]]
def qzaka:Cd Tryz.prog qqo Tryz.f199:=by refine⟨?_,?_⟩;rotate_left;(cbv;try rfl)
def qzasi:IR:=qzaka.c
theorem qfn:FnIs Tryz.prog 199 49 [.c 2 true 3] qzasi:=fi qqo Tryz.func199 Tryz.call199
def qzart:Nat->List Nat:=kk [[1,4,5],([0,3]++rg 6 5)]
def word_Find:IR:=
 (sr [o 3 (.box (t 1)),o 4 (.mv (z 0)),o 5 (.mv (.c .ff))] [1,4,5] (sr [m 6 0,o 7 (.mkF (.func 261) [] [(t 3)]),o 8 (f 242 [(t 6),(t 7)]),ex 9 8 0,ex 10 8 1,m 4 9,m 5 10] ([0,3]++rg 6 5) .ret))
theorem qzasu:FnIs Tryz.prog 239 11 [.t 4,.t 5] word_Find:=fi qzart Tryz.func239 Tryz.call239
def qhq:Nat->List Nat:=kk [[0,4],[],[6],[8,9],(rg 10 9),[5,20]]
def qvv:Cd Tryz.prog qhq Tryz.f130:=by refine⟨?_,?_⟩;rotate_left;(cbv;try rfl)
def qzabk:IR:=qvv.c
theorem qsu:FnIs Tryz.prog 130 21 [.t 4] qzabk:=fi qhq Tryz.func130 Tryz.call130
def qzacq:Nat->List Nat:=kk [[0,7],([2]++rg 12 8),([1,10]++rg 20 6),([9,11]++rg 26 9),[3,36],[8,37,38],[3,39]]
def qzaul:Cd Tryz.prog qzacq Tryz.f135:=by refine⟨?_,?_⟩;rotate_left;(cbv;try rfl)
def turn_Push:IR:=qzaul.c
theorem qzasw:FnIs Tryz.prog 135 40 [.c 6 true 9,.t 7] turn_Push:=fi qzacq Tryz.func135 Tryz.call135
def qzajt:Nat->List Nat:=kk [[2],([0]++rg 3 6)]
def qzavl:IR:=
 (sr [o 2 (.mv (.c .ff))] [2] (sr [m 3 0,o 4 (.bin .gt (t 3) (z 0)),m 5 4,mq 6 0 5 true,q 7 (.bin .le (t 6) (z 4)) 5 true,o 8 (.pick (t 5) (t 7) (.c .ff)),m 2 8] ([0]++rg 3 6) .ret))
theorem qgl:FnIs Tryz.prog 273 9 [.t 2] qzavl:=fi qzajt Tryz.func273 Tryz.call273
def qqk:Nat->List Nat:=kk [[0,7],[8,9],[10,11],([1,2,3]++rg 13 9),[22,23],[24]]
def qzaiz:Cd Tryz.prog qqk Tryz.f139:=by refine⟨?_,?_⟩;rotate_left;(cbv;try rfl)
def qzaqo:IR:=qzaiz.c
theorem qqz:FnIs Tryz.prog 139 25 [.c 6 true 11,.t 7] qzaqo:=fi qqk Tryz.func139 Tryz.call139
def qxi:Nat->List Nat:=kk [[1],[8,9],[],[0,11],[13],[14],[3,7,15,16],[6,18]]
def qzapw:Cd Tryz.prog qxi Tryz.f242:=by refine⟨?_,?_⟩;rotate_left;(cbv;try rfl)
def word_first:IR:=qzapw.c
theorem qyg:FnIs Tryz.prog 242 19 [.c 4 false 1,.c 5 false 1] word_first:=fi qxi Tryz.func242 Tryz.call242
def qtm:Nat->List Nat:=kk [[0,3],([1]++rg 5 10),[15],[17,18],[4,19,20,21]]
def qzalw:Cd Tryz.prog qtm Tryz.f87:=by refine⟨?_,?_⟩;rotate_left;(cbv;try rfl)
def qzatp:IR:=qzalw.c
theorem qua:FnIs Tryz.prog 87 22 [.c 2 true 13,.t 3] qzatp:=fi qtm Tryz.func87 Tryz.call87
def qxv:Nat->List Nat:=kk [[0,4],[1,2,5,6,7]]
def qzaig:IR:=
 (sr [o 2 (.box (t 0)),o 4 (.mv (.c .ff))] [0,4] (sr [o 5 (.load true 4 (t 2)),m 6 1,o 7 (f 260 [(t 5),(t 6)]),m 4 7] [1,2,5,6,7] .ret))
theorem qlg:FnIs Tryz.prog 236 8 [.t 4] qzaig:=fi qxv Tryz.func236 Tryz.call236
def qxb:Nat->List Nat:=kk [[0,5],[7,8],([1]++rg 9 5),[6,15],[2,16,17]]
def qzapi:Cd Tryz.prog qxb Tryz.f47:=by refine⟨?_,?_⟩;rotate_left;(cbv;try rfl)
def write_does:IR:=qzapi.c
theorem qav:FnIs Tryz.prog 47 18 [.c 4 true 18,.t 5] write_does:=fi qxb Tryz.func47 Tryz.call47
def qzaah:Nat->List Nat:=kk [[0,2],[1,3,4,5]]
def qzakd:IR:=
 (sr [o 1 (.box (t 0)),o 2 (.mv (.c (.re (.slice none 0 0))))] [0,2] (sr [fd 3 6 1,l1 4 3,o 5 (f 217 [(t 4)]),m 2 5] [1,3,4,5] .ret))
theorem qzaao:FnIs Tryz.prog 229 6 [.t 2] qzakd:=fi qzaah Tryz.func229 Tryz.call229
def qzajs:Nat->List Nat:=kk [[2],[0,3,4,5,6]]
def qzauu:IR:=
 (sr [o 2 (.mv (.c .ff))] [2] (sr [m 3 0,o 4 (.bin .shl (z 1) (t 3)),o 5 (.bin .and (t 4) (z 14)),o 6 (.bin .ne (t 5) (z 0)),m 2 6] [0,3,4,5,6] .ret))
theorem qzakm:FnIs Tryz.prog 81 7 [.t 2] qzauu:=fi qzajs Tryz.func81 Tryz.call81
def qzaaf:Nat->List Nat:=kk [[2],[0,3,4,5]]
def qzair:IR:=
 (sr [o 2 (.mv (.c .ff))] [2] (sr [m 3 0,o 4 (.bin .shr (t 3) (.c (.i .u64 (.l 31)))),o 5 (.bin .eq (t 4) (z 0)),m 2 5] [0,3,4,5] .ret))
theorem qzaal:FnIs Tryz.prog 85 6 [.t 2] qzair:=fi qzaaf Tryz.func85 Tryz.call85
def qzagy:Nat->List Nat:=kk [[0,3],[1,2,4,5,6,7]]
def qzapk:IR:=
 (sr [o 2 (.box (t 0)),o 3 (.mv (.c .ff))] [0,3] (sr [fd 4 10 2,l1 5 4,l1 6 1,o 7 (.bin .eq (t 5) (t 6)),m 3 7] [1,2,4,5,6,7] .ret))
theorem qbo:FnIs Tryz.prog 106 8 [.t 3] qzapk:=fi qzagy Tryz.func106 Tryz.call106
def qzajr:Nat->List Nat:=kk [[3],[1,4,5]]
def qzauo:IR:=
 (sr [o 3 (.mv (.c .ff))] [3] (sr [l1 4 1,o 5 (.bin .add (t 4) (z 1)),u (.store 1 (t 1) (t 5))] [1,4,5] (sr [o 3 (.mv (.c .ff))] [] .ret)))
theorem qly:FnIs Tryz.prog 149 6 [.t 3] qzauo:=fi qzajr Tryz.func149 Tryz.call149
def qzadp:Nat->List Nat:=kk [[0,3,5],[1,2,6,7,8]]
def qzaoc:IR:=
 (sr [o 3 (.box (t 0)),o 5 (.mv (.c .ff))] [0,3,5] (sr [m 6 1,l1 7 2,o 8 (.bin .ge (t 6) (t 7)),m 5 8] [1,2,6,7,8] .ret))
theorem qzadx:FnIs Tryz.prog 234 9 [.t 5] qzaoc:=fi qzadp Tryz.func234 Tryz.call234
def qzajp:Nat->List Nat:=kk [[2],[0,3,4,5]]
def qzauj:IR:=
 (sr [o 2 (.mv (.c .ff))] [2] (sr [m 3 0,o 4 (.bin .shr (t 3) (.c (.i .u64 (.l 3)))),o 5 (.bin .eq (t 4) (z 0)),m 2 5] [0,3,4,5] .ret))
theorem qdb:FnIs Tryz.prog 144 6 [.t 2] qzauj:=fi qzajp Tryz.func144 Tryz.call144
def qzanr:Nat->List Nat:=kk [[0,3],[1,2,4,5,6,7]]
def write_at_1:IR:=
 (sr [o 2 (.box (t 0)),o 3 (.mv (.c .ff))] [0,3] (sr [fd 4 0 2,l1 5 4,l1 6 1,o 7 (.bin .eq (t 5) (t 6)),m 3 7] [1,2,4,5,6,7] .ret))
theorem qzaol:FnIs Tryz.prog 137 8 [.t 3] write_at_1:=fi qzanr Tryz.func137 Tryz.call137
def qqn:Nat->List Nat:=kk [([0,1]++rg 3 26)]
def qzajz:Cd Tryz.prog qqn Tryz.f235:=by refine⟨?_,?_⟩;rotate_left;(cbv;try rfl)
def qzary:IR:=qzajz.c
theorem qjy:FnIs Tryz.prog 235 29 [] qzary:=fi qqn Tryz.func235 Tryz.call235
def qzadm:Nat->List Nat:=kk [[0,2],[1,3]]
def qzalv:IR:=
 (sr [o 1 (.box (t 0)),o 2 (.mv (.c (.re .nilFunc)))] [0,2] (sr [o 3 (.mkF (.func 146) [] [(t 1)]),m 2 3] [1,3] .ret))
theorem qhd:FnIs Tryz.prog 82 4 [.t 2] qzalv:=fi qzadm Tryz.func82 Tryz.call82
def qzahe:Nat->List Nat:=kk [[],[],[],[4],[1,5,6,7],[8],[9]]
def turn_New_c:Cd Tryz.prog qzahe Tryz.f71:=by refine⟨?_,?_⟩;rotate_left;(cbv;try rfl)
def turn_New:IR:=turn_New_c.c
theorem qzawd:FnIs Tryz.prog 71 10 [.c 0 true 9] turn_New:=fi qzahe Tryz.func71 Tryz.call71
def qzavp:Nat->List Nat:=kk [[0,2],[1,3]]
def turn_all:IR:=
 (sr [o 1 (.box (t 0)),o 2 (.mv (.c (.re .nilFunc)))] [0,2] (sr [o 3 (.mkF (.func 195) [] [(t 1)]),m 2 3] [1,3] .ret))
theorem qjw:FnIs Tryz.prog 145 4 [.t 2] turn_all:=fi qzavp Tryz.func145 Tryz.call145
end I
end Cz
