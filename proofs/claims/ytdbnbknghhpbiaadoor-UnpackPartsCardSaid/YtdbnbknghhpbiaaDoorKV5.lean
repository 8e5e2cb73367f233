/- What the claims of this group lean on, part 5: our engine, the functions' simplified codes, their contracts. No condition. -/
import Derived.Test.YtdbnbknghhpbiaaDoorKV4
import Derived.Test.YtdbnbknghhpbiaaDoorProg
set_option maxRecDepth 100000
set_option linter.unusedSimpArgs false
set_option linter.unusedVariables false
set_option maxHeartbeats 4000000
namespace Cz
open Go Go.RowKit Go.Proofs
namespace I
def o (d : Nat) (x : AOp) : AO := ⟨some d, x, none⟩
def u (x : AOp) : AO := ⟨none, x, none⟩
def q (d : Nat) (x : AOp) (a : Nat) (b : Bool) : AO := ⟨some d, x, some (a, b)⟩
def z (n : Int) : Opd := .c (.i .i64 (.l n))
def f (g : Nat) (l : List Opd) : AOp := .call (.c (.fn (.func g) [] [])) l
def kk (l : List (List Nat)) (n : Nat) : List Nat := l.getD n []
def qfv : Nat → List Nat := kk [[0,8],[16,17,18,19,20,21,22,23,24,25,26,27,28,29,30,31,32,33,34,35,36,37,38,39],[41],[42,43,44,45,46,47,48],[49],[9,10,51,52,53,54,55,56,57,58,59,60,61],[62,63,64],[],[66,67,68,69,70,71,72,73],[74,75,76,77,78,79,80,81,82,83,84,85,86,87,88,89,90,91,92,93,94,95],[97],[1,2,3,4,98,99,100,101,102,103,104,105,106,107,108],[109,110,111,112,113],[12,14,115,116,117,118,119,120],[9,121,122,123,124,125,126,127],[128,129],[11,13,131,132,133,134,135,136,137,138,139,140,141,142],[11,13,15,143,144,145,146,147,148,149,150,151,152,153,154,155,156,157,158,159,160,161]]
def qbj : Spl := (.node 2 11
  (.node 4 11
  (.node 6 11
  (.node 7 11
  (.leaf [(0,[]),(1,[]),(3,[]),(5,[]),(2,[0]),(4,[0]),(6,[0]),(7,[]),(8,[]),(9,[]),(10,[]),(11,[]),(12,[]),(13,[])])
  (.leaf [(0,[]),(1,[]),(3,[]),(5,[]),(2,[0]),(4,[0]),(6,[0]),(11,[0]),(7,[]),(8,[]),(9,[]),(10,[]),(12,[]),(13,[])]))
  (.leaf [(0,[]),(1,[]),(3,[]),(5,[]),(2,[0]),(4,[0]),(11,[0]),(6,[0]),(7,[]),(8,[]),(9,[]),(10,[]),(12,[]),(13,[])]))
  (.leaf [(0,[]),(1,[]),(3,[]),(5,[]),(2,[0]),(11,[0]),(4,[0]),(6,[0]),(7,[]),(8,[]),(9,[]),(10,[]),(12,[]),(13,[])]))
  (.leaf [(0,[]),(1,[]),(3,[]),(5,[]),(11,[0]),(2,[0]),(4,[0]),(6,[0]),(7,[]),(8,[]),(9,[]),(10,[]),(12,[]),(13,[])]))
def qbk : List (Nat × List Nat) := [(1,[]),(2,[]),(4,[]),(5,[]),(0,[2,5]),(3,[5]),(6,[]),(7,[])]
def qij : IR :=
 (.seq (.reg [o 4 (.box (.t 0)),o 8 (.mv (.c .ff))] [0,8]) (.seq (.seq (.reg [o 16 (.load true 2 (.t 4)),o 17 (f 47 [(.t 16)]),o 18 (.mv (.t 17)),q 19 (.load true 2 (.t 4)) 18 false,q 20 (f 27 [(.t 19)]) 18 false,q 21 (.not (.t 20)) 18 false,o 22 (.pick (.t 18) (.c .tt) (.t 21)),o 23 (.mv (.t 22)),q 24 (.mv (.t 1)) 23 false,q 25 (.bin .lt (.t 24) (z 0)) 23 false,o 26 (.pick (.t 23) (.c .tt) (.t 25)),o 27 (.mv (.t 26)),q 28 (.mv (.t 1)) 27 false,q 29 (.bin .gt (.t 28) (z 4096)) 27 false,o 30 (.pick (.t 27) (.c .tt) (.t 29)),o 31 (.mv (.t 30)),q 32 (.mv (.t 2)) 31 false,q 33 (.len false (.t 32)) 31 false,q 34 (.bin .gt (.t 33) (z 1000)) 31 false,o 35 (.pick (.t 31) (.c .tt) (.t 34)),o 36 (.mv (.t 35)),q 37 (.mv (.t 3)) 36 false,q 38 (.len false (.t 37)) 36 false,q 39 (.bin .gt (.t 38) (z 1000)) 36 false,o 40 (.pick (.t 36) (.c .tt) (.t 39))] [16,17,18,19,20,21,22,23,24,25,26,27,28,29,30,31,32,33,34,35,36,37,38,39]) (.cond (.t 40) (.seq (.reg [o 41 (f 48 []),o 8 (.mv (.t 41))] [41]) .ret) .skip)) (.seq (.reg [o 43 (.load true 2 (.t 4)),o 44 (.mv (.t 1)),o 45 (.mv (.t 2)),o 46 (f 49 [(.t 43),(.t 44),(.t 45)]),o 42 (.mv (.t 46)),o 47 (.ext (.t 42) 0),o 48 (.ext (.t 42) 1),o 9 (.alloc [(.re (.slice none 0 0)),.ff,(.i .i64 (.l 0)),(.re (.slice none 0 0))]),u (.store 4 (.t 9) (.t 47)),o 10 (.mv (.t 48))] [42,43,44,45,46,47,48]) (.seq (.seq (.reg [o 49 (.mv (.t 10)),o 50 (.bin .ne (.t 49) (z 0))] [49]) (.cond (.t 50) (.seq (.reg [o 51 (.mv (.t 10)),o 52 (.bin .ne (.t 51) (z 2)),o 53 (.mv (.t 52)),q 54 (.fad 0 (.t 9)) 53 true,q 55 (.load false 1 (.t 54)) 53 true,q 56 (.len false (.t 55)) 53 true,q 57 (.bin .eq (.t 56) (z 0)) 53 true,o 58 (.pick (.t 53) (.t 57) (.c .ff)),o 59 (.mv (.t 58)),q 60 (f 48 []) 59 true,o 61 (.pick (.t 59) (.t 60) (.c .ff)),o 8 (.mv (.t 61))] [9,10,51,52,53,54,55,56,57,58,59,60,61]) .ret) .skip)) (.seq (.seq (.reg [o 62 (.fad 2 (.t 9)),o 63 (.load true 2 (.t 62)),o 64 (f 27 [(.t 63)]),o 65 (.not (.t 64))] [62,63,64]) (.cond (.t 65) (.seq (.reg [o 8 (.mv (.c .ff))] []) .ret) .skip)) (.seq (.reg [o 67 (.fad 2 (.t 9)),o 68 (.load true 2 (.t 67)),o 69 (.mv (.t 1)),o 70 (.mv (.t 3)),o 71 (f 49 [(.t 68),(.t 69),(.t 70)]),o 66 (.mv (.t 71)),o 72 (.ext (.t 66) 0),o 73 (.ext (.t 66) 1),o 11 (.alloc [(.re (.slice none 0 0)),.ff,(.i .i64 (.l 0)),(.re (.slice none 0 0))]),u (.store 4 (.t 11) (.t 72)),o 12 (.mv (.t 73))] [66,67,68,69,70,71,72,73]) (.seq (.seq (.reg [o 74 (.mv (.t 3)),o 75 (.len false (.t 74)),o 76 (.bin .gt (.t 75) (z 0)),o 77 (.mv (.t 76)),q 78 (.mv (.t 3)) 77 true,q 79 (.iadS 1 (.t 78) (z 0)) 77 true,q 80 (.load false 1 (.t 79)) 77 true,q 81 (.bin .ge (.t 80) (.c (.i .u8 (.l 32)))) 77 true,o 82 (.pick (.t 77) (.t 81) (.c .ff)),o 83 (.mv (.t 82)),q 84 (.mv (.t 3)) 83 true,q 85 (.iadS 1 (.t 84) (z 0)) 83 true,q 86 (.load false 1 (.t 85)) 83 true,q 87 (.bin .lt (.t 86) (.c (.i .u8 (.l 64)))) 83 true,o 88 (.pick (.t 83) (.t 87) (.c .ff)),o 89 (.mv (.t 88)),q 90 (.fad 1 (.t 9)) 89 false,q 91 (.load false 1 (.t 90)) 89 false,o 92
 (.pick (.t 89) (.c .tt) (.t 91)),o 93 (.mv (.t 92)),q 94 (.fad 1 (.t 11)) 93 false,q 95 (.load false 1 (.t 94)) 93 false,o 96 (.pick (.t 93) (.c .tt) (.t 95))] [74,75,76,77,78,79,80,81,82,83,84,85,86,87,88,89,90,91,92,93,94,95]) (.cond (.t 96) (.seq (.reg [o 97 (f 48 []),o 8 (.mv (.t 97))] [97]) .ret) .skip)) (.seq (.draw [o 99 (.load true 2 (.t 4)),o 100 (.mv (.t 1)),o 101 (.buildS 1 0 [(.i .u8 (.l 0))] []),o 102 (.mv (.t 2)),o 103 (.app 1 (.t 101) (.t 102)),o 104 (.mv (.t 3)),o 105 (.app 1 (.t 103) (.t 104)),o 106 (f 49 [(.t 99),(.t 100),(.t 105)]),o 98 (.mv (.t 106)),o 107 (.ext (.t 98) 0),o 108 (.ext (.t 98) 1),o 13 (.alloc [(.re (.slice none 0 0)),.ff,(.i .i64 (.l 0)),(.re (.slice none 0 0))]),u (.store 4 (.t 13) (.t 107)),o 14 (.mv (.t 108))] [[],[],[],[],[2,3],[],[4,5,4],[0,1,6,6],[7],[8],[8],[],[11,9,7,0,1,2,3,4,5,6,7,8,9,11],[10,12,0,1,2,3,4,5,6,7,8,9,10,11,12]] [1,2,3,4,98,99,100,101,102,103,104,105,106,107,108]) (.seq (.seq (.reg [o 109 (.mv (.t 12)),o 110 (.bin .ne (.t 109) (z 0)),o 111 (.mv (.t 110)),q 112 (.mv (.t 14)) 111 false,q 113 (.bin .ne (.t 112) (z 0)) 111 false,o 114 (.pick (.t 111) (.c .tt) (.t 113))] [109,110,111,112,113]) (.cond (.t 114) (.seq (.reg [o 115 (.mv (.t 12)),o 116 (.mv (.t 14)),o 117 (.bin .eq (.t 115) (.t 116)),o 118 (.mv (.t 117)),q 119 (f 48 []) 118 true,o 120 (.pick (.t 118) (.t 119) (.c .ff)),o 8 (.mv (.t 120))] [12,14,115,116,117,118,119,120]) .ret) .skip)) (.seq (.draw [o 121 (.buildS 2 0 [(.s []),(.s [])] []),o 122 (.fad 0 (.t 9)),o 123 (.load false 1 (.t 122)),o 124 (.app 2 (.t 121) (.t 123)),o 125 (.fad 0 (.t 11)),o 126 (.load false 1 (.t 125)),o 127 (.app 2 (.t 124) (.t 126)),o 15 (.mv (.t 127))] [[],[],[1],[0,2],[],[4],[3,5,3],[6,6,0,1,2,3,4,5,6]] [9,121,122,123,124,125,126,127]) (.seq (.seq (.reg [o 128 (.mv (.t 15)),o 129 (f 50 [(.t 128)]),o 130 (.bin .gt (.t 129) (z 2000))] [128,129]) (.cond (.t 130) (.seq (.reg [o 131 (.fad 1 (.t 13)),o 132 (.load false 1 (.t 131)),o 133 (.mv (.t 132)),q 134 (.fad 2 (.t 13)) 133 true,q 135 (.load true 2 (.t 134)) 133 true,q 136 (.fad 2 (.t 11)) 133 true,q 137 (.load true 2 (.t 136)) 133 true,q 138 (f 21 [(.t 135),(.t 137)]) 133 true,o 139 (.pick (.t 133) (.t 138) (.c .ff)),o 140 (.mv (.t 139)),q 141 (f 48 []) 140 true,o 142 (.pick (.t 140) (.t 141) (.c .ff)),o 8 (.mv (.t 142))] [11,13,131,132,133,134,135,136,137,138,139,140,141,142]) .ret) .skip)) (.seq (.reg [o 143 (.fad 1 (.t 13)),o 144 (.load false 1 (.t 143)),o 145 (.not (.t 144)),o 146 (.mv (.t 145)),q 147 (.fad 0 (.t 13)) 146 true,q 148 (.load false 1 (.t 147)) 146 true,q 149 (.mv (.t 15)) 146 true,q 150 (f 51 [(.t 148),(.t 149)]) 146 true,o 151 (.pick (.t 146) (.t 150) (.c .ff)),o 152 (.mv (.t 151)),q 153 (.fad 2 (.t 13)) 152 true,q 154 (.load true 2 (.t 153)) 152 true,q 155 (.fad 2 (.t 11)) 152 true,q 156 (.load true 2 (.t 155)) 152 true,q 157 (f 21 [(.t 154),(.t 156)]) 152 true,o 158 (.pick (.t 152) (.t 157) (.c .ff)),o 159 (.mv (.t 158)),q 160 (f 48 []) 159 true,o 161 (.pick (.t 159) (.t 160) (.c
 .ff)),o 8 (.mv (.t 161))] [11,13,15,143,144,145,146,147,148,149,150,151,152,153,154,155,156,157,158,159,160,161]) .ret))))))))))))
theorem qat : FnIs Tryd.prog 12 162 [.t 8] qij :=
  ⟨Tryd.f12, _, qfv, Tryd.func12, rfl, rfl, by kernel_rfl, by kernel_rfl, Tryd.call12⟩
def qfu : Nat → List Nat := kk [[0,4,10],[24,25,26,27,28,29,30,31,32,33,34,35,36,37,38,39,40,41,42,43,44,45,46,47],[49],[50,51,52,53,54],[55,56,57,58,59],[60,61,62,63,64,65,66,67,68,69,70,71,72,73],[12,14,74,75,76,77,78,79,80],[],[15,82],[84],[13,85,86,87,88,89,90,91,92,93,94,95],[9,11,18,96,97,98,99,100,101,102,103,104,105],[1,19,106,107,108,109,110,111,112,113,114,115,116,117,118,119],[],[121],[17,123,124,125,126,127],[2,5,21,128,129,130,131,132,133],[3,20,23,134,135,136,137,138,139],[16,22,140,141,142,143,144,145,146,147,148,149,150,151,152]]
def qcw : Spl := (.node 2 11
  (.node 4 11
  (.node 6 11
  (.node 7 11
  (.leaf [(0,[]),(1,[]),(3,[]),(5,[]),(2,[0]),(4,[0]),(6,[0]),(7,[]),(8,[]),(9,[]),(10,[]),(11,[]),(12,[]),(13,[])])
  (.leaf [(0,[]),(1,[]),(3,[]),(5,[]),(2,[0]),(4,[0]),(6,[0]),(11,[0]),(7,[]),(8,[]),(9,[]),(10,[]),(12,[]),(13,[])]))
  (.leaf [(0,[]),(1,[]),(3,[]),(5,[]),(2,[0]),(4,[0]),(11,[0]),(6,[0]),(7,[]),(8,[]),(9,[]),(10,[]),(12,[]),(13,[])]))
  (.leaf [(0,[]),(1,[]),(3,[]),(5,[]),(2,[0]),(11,[0]),(4,[0]),(6,[0]),(7,[]),(8,[]),(9,[]),(10,[]),(12,[]),(13,[])]))
  (.leaf [(0,[]),(1,[]),(3,[]),(5,[]),(11,[0]),(2,[0]),(4,[0]),(6,[0]),(7,[]),(8,[]),(9,[]),(10,[]),(12,[]),(13,[])]))
def qcv : Spl := (.node 3 10
  (.node 5 10
  (.node 6 10
  (.leaf [(0,[]),(1,[]),(2,[]),(4,[]),(3,[0]),(5,[0]),(6,[]),(7,[]),(8,[]),(9,[]),(10,[]),(11,[]),(12,[])])
  (.leaf [(0,[]),(1,[]),(2,[]),(4,[]),(3,[0]),(5,[0]),(10,[0]),(6,[]),(7,[]),(8,[]),(9,[]),(11,[]),(12,[])]))
  (.leaf [(0,[]),(1,[]),(2,[]),(4,[]),(3,[0]),(10,[0]),(5,[0]),(6,[]),(7,[]),(8,[]),(9,[]),(11,[]),(12,[])]))
  (.leaf [(0,[]),(1,[]),(2,[]),(4,[]),(10,[0,2]),(3,[0]),(5,[0]),(6,[]),(7,[]),(8,[]),(9,[]),(11,[]),(12,[])]))
def qii : IR :=
 (.seq (.reg [o 5 (.box (.t 0)),o 9 (.box (.t 4)),o 10 (.mv (.c .ff))] [0,4,10]) (.seq (.seq (.reg [o 24 (.load true 2 (.t 5)),o 25 (f 47 [(.t 24)]),o 26 (.mv (.t 25)),q 27 (.load true 2 (.t 5)) 26 false,q 28 (f 27 [(.t 27)]) 26 false,q 29 (.not (.t 28)) 26 false,o 30 (.pick (.t 26) (.c .tt) (.t 29)),o 31 (.mv (.t 30)),q 32 (.mv (.t 1)) 31 false,q 33 (.bin .lt (.t 32) (z 0)) 31 false,o 34 (.pick (.t 31) (.c .tt) (.t 33)),o 35 (.mv (.t 34)),q 36 (.mv (.t 1)) 35 false,q 37 (.bin .gt (.t 36) (z 4096)) 35 false,o 38 (.pick (.t 35) (.c .tt) (.t 37)),o 39 (.mv (.t 38)),q 40 (.fad 0 (.t 9)) 39 false,q 41 (.load false 1 (.t 40)) 39 false,q 42 (.len true (.t 41)) 39 false,q 43 (.fad 1 (.t 9)) 39 false,q 44 (.load false 1 (.t 43)) 39 false,q 45 (.len true (.t 44)) 39 false,q 46 (.bin .add (.t 42) (.t 45)) 39 false,q 47 (.bin .gt (.t 46) (z 900)) 39 false,o 48 (.pick (.t 39) (.c .tt) (.t 47))] [24,25,26,27,28,29,30,31,32,33,34,35,36,37,38,39,40,41,42,43,44,45,46,47]) (.cond (.t 48) (.seq (.reg [o 49 (f 48 []),o 10 (.mv (.t 49))] [49]) .ret) .skip)) (.seq (.reg [o 51 (.mv (.t 2)),o 52 (f 55 [(.t 51)]),o 50 (.mv (.t 52)),o 53 (.ext (.t 50) 0),o 54 (.ext (.t 50) 1),o 11 (.mv (.t 53)),o 12 (.mv (.t 54))] [50,51,52,53,54]) (.seq (.reg [o 56 (.mv (.t 3)),o 57 (f 55 [(.t 56)]),o 55 (.mv (.t 57)),o 58 (.ext (.t 55) 0),o 59 (.ext (.t 55) 1),o 13 (.mv (.t 58)),o 14 (.mv (.t 59))] [55,56,57,58,59]) (.seq (.reg [o 60 (.mv (.t 2)),o 61 (.bin .ge (.t 60) (z 0)),o 62 (.mv (.t 61)),q 63 (.mv (.t 2)) 62 true,q 64 (.bin .le (.t 63) (z 2147483647)) 62 true,o 65 (.pick (.t 62) (.t 64) (.c .ff)),o 66 (.mv (.t 65)),q 67 (.mv (.t 3)) 66 true,q 68 (.bin .ge (.t 67) (z 0)) 66 true,o 69 (.pick (.t 66) (.t 68) (.c .ff)),o 70 (.mv (.t 69)),q 71 (.mv (.t 3)) 70 true,q 72 (.bin .le (.t 71) (z 2147483647)) 70 true,o 73 (.pick (.t 70) (.t 72) (.c .ff)),o 15 (.mv (.t 73))] [60,61,62,63,64,65,66,67,68,69,70,71,72,73]) (.seq (.seq (.reg [o 74 (.mv (.t 12)),o 75 (.bin .eq (.t 74) (z 0)),o 76 (.mv (.t 75)),q 77 (.mv (.t 14)) 76 true,q 78 (.bin .eq (.t 77) (z 0)) 76 true,o 79 (.pick (.t 76) (.t 78) (.c .ff)),o 80 (.mv (.t 15)),o 81 (.eqA ⟨false,[.kb]⟩ true (.t 79) (.t 80))] [12,14,74,75,76,77,78,79,80]) (.cond (.t 81) (.seq (.reg [o 10 (.mv (.c .ff))] []) .ret) .skip)) (.seq (.seq (.reg [o 82 (.mv (.t 15)),o 83 (.not (.t 82))] [15,82]) (.cond (.t 83) (.seq (.reg [o 84 (f 48 []),o 10 (.mv (.t 84))] [84]) .ret) .skip)) (.seq (.draw [o 86 (.load true 2 (.t 5)),o 87 (.mv (.t 1)),o 88 (.buildS 1 0 [(.i .u8 (.l 0))] []),o 89 (.mv (.t 11)),o 90 (.app 1 (.t 88) (.t 89)),o 91 (.mv (.t 13)),o 92 (.app 1 (.t 90) (.t 91)),o 93 (f 49 [(.t 86),(.t 87),(.t 92)]),o 85 (.mv (.t 93)),o 94 (.ext (.t 85) 0),o 95 (.ext (.t 85) 1),o 16 (.alloc [(.re (.slice none 0 0)),.ff,(.i .i64 (.l 0)),(.re (.slice none 0 0))]),u (.store 4 (.t 16) (.t 94)),o 17 (.mv (.t 95))] [[],[],[],[],[2,3],[],[4,5,4],[0,1,6,6],[7],[8],[8],[],[11,9,7,0,1,2,3,4,5,6,7,8,9,11],[10,12,0,1,2,3,4,5,6,7,8,9,10,11,12]]
 [13,85,86,87,88,89,90,91,92,93,94,95]) (.seq (.draw [o 97 (.load true 2 (.t 5)),o 98 (.mv (.t 1)),o 99 (.load true 2 (.t 9)),o 100 (f 52 [(.t 99),(z 0)]),o 101 (.mv (.t 11)),o 102 (.app 1 (.t 100) (.t 101)),o 103 (f 49 [(.t 97),(.t 98),(.t 102)]),o 96 (.mv (.t 103)),o 104 (.ext (.t 96) 0),o 105 (.ext (.t 96) 1),o 18 (.alloc [(.re (.slice none 0 0)),.ff,(.i .i64 (.l 0)),(.re (.slice none 0 0))]),u (.store 4 (.t 18) (.t 104)),o 19 (.mv (.t 105))] [[],[],[],[2],[],[3,4,3],[0,1,5,5],[6],[7],[7],[],[10,8,6,0,1,2,3,4,5,6,7,8,10],[9,11,0,1,2,3,4,5,6,7,8,9,10,11]] [9,11,18,96,97,98,99,100,101,102,103,104,105]) (.seq (.seq (.reg [o 106 (.mv (.t 19)),o 107 (.bin .ne (.t 106) (z 100)),o 108 (.mv (.t 107)),q 109 (.mv (.t 17)) 108 false,q 110 (.bin .eq (.t 109) (z 0)) 108 false,q 111 (.mv (.t 2)) 108 false,q 112 (.mv (.t 1)) 108 false,q 113 (.bin .le (.t 111) (.t 112)) 108 false,q 114 (.mv (.t 113)) 108 false,q 115 (.mv (.t 3)) 114 true,q 116 (.mv (.t 1)) 114 true,q 117 (.bin .le (.t 115) (.t 116)) 114 true,q 118 (.pick (.t 114) (.t 117) (.c .ff)) 108 false,q 119 (.eqA ⟨false,[.kb]⟩ true (.t 110) (.t 118)) 108 false,o 120 (.pick (.t 108) (.c .tt) (.t 119))] [1,19,106,107,108,109,110,111,112,113,114,115,116,117,118,119]) (.cond (.t 120) (.seq (.reg [o 10 (.mv (.c .ff))] []) .ret) .skip)) (.seq (.seq (.reg [o 121 (.mv (.t 17)),o 122 (.bin .ne (.t 121) (z 0))] [121]) (.cond (.t 122) (.seq (.reg [o 123 (.mv (.t 17)),o 124 (.bin .eq (.t 123) (z 100)),o 125 (.mv (.t 124)),q 126 (f 48 []) 125 true,o 127 (.pick (.t 125) (.t 126) (.c .ff)),o 10 (.mv (.t 127))] [17,123,124,125,126,127]) .ret) .skip)) (.seq (.reg [o 129 (.load true 2 (.t 5)),o 130 (.mv (.t 2)),o 131 (f 31 [(.t 129),(.t 130)]),o 128 (.mv (.t 131)),o 132 (.ext (.t 128) 0),o 133 (.ext (.t 128) 1),o 20 (.alloc [(.i .i64 (.l 0)),(.re (.slice none 0 0))]),u (.store 2 (.t 20) (.t 132)),o 21 (.mv (.t 133))] [2,5,21,128,129,130,131,132,133]) (.seq (.reg [o 135 (.load true 2 (.t 20)),o 136 (.mv (.t 3)),o 137 (f 31 [(.t 135),(.t 136)]),o 134 (.mv (.t 137)),o 138 (.ext (.t 134) 0),o 139 (.ext (.t 134) 1),o 22 (.alloc [(.i .i64 (.l 0)),(.re (.slice none 0 0))]),u (.store 2 (.t 22) (.t 138)),o 23 (.mv (.t 139))] [3,20,23,134,135,136,137,138,139]) (.seq (.reg [o 140 (.fad 0 (.t 16)),o 141 (.load false 1 (.t 140)),o 142 (.len false (.t 141)),o 143 (.bin .eq (.t 142) (z 0)),o 144 (.mv (.t 143)),q 145 (.fad 2 (.t 16)) 144 true,q 146 (.load true 2 (.t 145)) 144 true,q 147 (.load true 2 (.t 22)) 144 true,q 148 (f 21 [(.t 146),(.t 147)]) 144 true,o 149 (.pick (.t 144) (.t 148) (.c .ff)),o 150 (.mv (.t 149)),q 151 (f 48 []) 150 true,o 152 (.pick (.t 150) (.t 151) (.c .ff)),o 10 (.mv (.t 152))] [16,22,140,141,142,143,144,145,146,147,148,149,150,151,152]) .ret))))))))))))))
theorem qck : FnIs Tryd.prog 14 153 [.t 10] qii :=
  ⟨Tryd.f14, _, qfu, Tryd.func14, rfl, rfl, by kernel_rfl, by kernel_rfl, Tryd.call14⟩
def qzabl : Nat → List Nat := kk [[3],[4,5,6,7,8],[10],[0,11,12],[13]]
def table_New : IR :=
 (.seq (.reg [o 2 (.alloc [(.i .i64 (.l 0)),(.re (.slice none 0 0))]),o 3 (.mv (z 0))] [3]) (.seq (.seq (.reg [o 4 (.mv (.t 0)),o 5 (.bin .lt (.t 4) (z 0)),o 6 (.mv (.t 5)),q 7 (.mv (.t 0)) 6 false,q 8 (.bin .gt (.t 7) (z 4096)) 6 false,o 9 (.pick (.t 6) (.c .tt) (.t 8))] [4,5,6,7,8]) (.cond (.t 9) (.seq (.reg [o 10 (.load true 2 (.t 2)),u (.store 2 (.t 2) (.t 10)),o 3 (.mv (z 2))] [10]) .ret) .skip)) (.seq (.reg [o 11 (.mv (.t 0)),o 12 (.fad 0 (.t 2)),u (.store 1 (.t 12) (.t 11))] [0,11,12]) (.seq (.reg [o 13 (.load true 2 (.t 2)),u (.store 2 (.t 2) (.t 13)),o 3 (.mv (z 0))] [13]) .ret))))
theorem qzacc : FnIs Tryd.prog 19 14 [.c 2 true 2, .t 3] table_New :=
  ⟨Tryd.f19, _, qzabl, Tryd.func19, rfl, rfl, by kernel_rfl, by kernel_rfl, Tryd.call19⟩
def qma : Nat → List Nat := kk [[0,1,4],[2,3,5,6,7,8,9,10,11,12,13,14,15,16]]
def qqt : IR :=
 (.seq (.reg [o 2 (.box (.t 0)),o 3 (.box (.t 1)),o 4 (.mv (.c .ff))] [0,1,4]) (.seq (.reg [o 5 (.fad 0 (.t 2)),o 6 (.load false 1 (.t 5)),o 7 (.fad 0 (.t 3)),o 8 (.load false 1 (.t 7)),o 9 (.bin .eq (.t 6) (.t 8)),o 10 (.mv (.t 9)),q 11 (.fad 1 (.t 2)) 10 true,q 12 (.load false 1 (.t 11)) 10 true,q 13 (.fad 1 (.t 3)) 10 true,q 14 (.load false 1 (.t 13)) 10 true,q 15 (f 37 [(.t 12),(.t 14)]) 10 true,o 16 (.pick (.t 10) (.t 15) (.c .ff)),o 4 (.mv (.t 16))] [2,3,5,6,7,8,9,10,11,12,13,14,15,16]) .ret))
theorem qmm : FnIs Tryd.prog 21 17 [.t 4] qqt :=
  ⟨Tryd.f21, _, qma, Tryd.func21, rfl, rfl, by kernel_rfl, by kernel_rfl, Tryd.call21⟩
def qyg : Nat → List Nat := kk [[0,2],[1,3,4,5,6,7,8,9,10]]
def table_Size : IR :=
 (.seq (.reg [o 1 (.box (.t 0)),o 2 (.mv (z 0))] [0,2]) (.seq (.reg [o 3 (.fad 0 (.t 1)),o 4 (.load false 1 (.t 3)),o 5 (.len true (.t 4)),o 6 (.bin .add (z 32) (.t 5)),o 7 (.fad 1 (.t 1)),o 8 (.load false 1 (.t 7)),o 9 (.len true (.t 8)),o 10 (.bin .add (.t 6) (.t 9)),o 2 (.mv (.t 10))] [1,3,4,5,6,7,8,9,10]) .ret))
theorem qyr : FnIs Tryd.prog 22 11 [.t 2] table_Size :=
  ⟨Tryd.f22, _, qyg, Tryd.func22, rfl, rfl, by kernel_rfl, by kernel_rfl, Tryd.call22⟩
def qlz : Nat → List Nat := kk [[0,2],[1,3,4,5,6,7,8,9,10]]
def qqs : IR :=
 (.seq (.reg [o 1 (.box (.t 0)),o 2 (.mv (z 0))] [0,2]) (.seq (.reg [o 3 (.fad 0 (.t 1)),o 4 (.load false 1 (.t 3)),o 5 (.len true (.t 4)),o 6 (.fad 1 (.t 1)),o 7 (.load false 1 (.t 6)),o 8 (.len true (.t 7)),o 9 (.bin .add (.t 5) (.t 8)),o 10 (.bin .add (.t 9) (z 32)),o 2 (.mv (.t 10))] [1,3,4,5,6,7,8,9,10]) .ret))
theorem qml : FnIs Tryd.prog 23 11 [.t 2] qqs :=
  ⟨Tryd.f23, _, qlz, Tryd.func23, rfl, rfl, by kernel_rfl, by kernel_rfl, Tryd.call23⟩
def qyi : Nat → List Nat := kk [[0],[1,5],[],[10,11],[4,12,13,14,15],[16],[17]]
def qps : List Nat := [0,1,3,4,5,9,10,11,12,13,14,15,16,17]
def table_Full : IR :=
 (.seq (.reg [o 1 (.box (.t 0)),o 2 (.mv (z 0))] [0]) (.seq (.seq (.reg [o 5 (.fad 1 (.t 1)),o 6 (.load false 1 (.t 5)),o 7 (.len false (.t 6)),o 8 (.mv (z 0))] [1,5]) (.block 0 (.loop (.seq (.reg [o 9 (.bin .lt (.t 8) (.t 7))] []) (.seq (.cond (.t 9) .skip (.exit 0)) (.seq (.block 1 (.seq (.reg [o 10 (.iadS 2 (.t 6) (.t 8)),o 11 (.load true 2 (.t 10)),o 4 (.alloc [(.s []),(.s [])]),u (.store 2 (.t 4) (.t 11))] [10,11]) (.reg [o 12 (.mv (.t 2)),o 13 (.load true 2 (.t 4)),o 14 (f 22 [(.t 13)]),o 15 (.bin .add (.t 12) (.t 14)),o 2 (.mv (.t 15))] [4,12,13,14,15]))) (.reg [o 16 (.bin .add (.t 8) (z 1)),o 8 (.mv (.t 16))] [16]))))))) (.seq (.reg [o 17 (.mv (.t 2)),o 2 (.mv (.t 17))] [17]) .ret)))
theorem qyt : FnIs Tryd.prog 24 18 [.t 2] table_Full :=
  ⟨Tryd.f24, _, qyi, Tryd.func24, rfl, rfl, by kernel_rfl, by kernel_rfl, Tryd.call24⟩
def qmb : Nat → List Nat := kk [[0,2],[],[],[5,6,7,8],[10,11],[12,13,14,15,16,17,18,19],[3,20]]
def qie : List Nat := [0,2,5,6,7,8,9,10,11,12,13,14,15,16,17,18,19,20]
def qqu : IR :=
 (.seq (.reg [o 1 (.box (.t 0)),o 2 (.mv (z 0))] [0,2]) (.seq (.reg [o 3 (.mv (z 0))] []) (.seq (.seq (.reg [o 4 (.mv (z 0))] []) (.block 0 (.loop (.seq (.seq (.reg [o 5 (.mv (.t 4)),o 6 (.fad 1 (.t 1)),o 7 (.load false 1 (.t 6)),o 8 (.len false (.t 7)),o 9 (.bin .lt (.t 5) (.t 8))] [5,6,7,8]) (.cond (.t 9) .skip (.exit 0))) (.seq (.block 1 (.reg [o 12 (.mv (.t 3)),o 13 (.fad 1 (.t 1)),o 14 (.load false 1 (.t 13)),o 15 (.mv (.t 4)),o 16 (.iadS 2 (.t 14) (.t 15)),o 17 (.load true 2 (.t 16)),o 18 (f 23 [(.t 17)]),o 19 (.bin .add (.t 12) (.t 18)),o 3 (.mv (.t 19))] [12,13,14,15,16,17,18,19])) (.reg [o 10 (.mv (.t 4)),o 11 (.bin .add (.t 10) (z 1)),o 4 (.mv (.t 11))] [10,11])))))) (.seq (.reg [o 20 (.mv (.t 3)),o 2 (.mv (.t 20))] [3,20]) .ret))))
theorem qmn : FnIs Tryd.prog 25 21 [.t 2] qqu :=
  ⟨Tryd.f25, _, qmb, Tryd.func25, rfl, rfl, by kernel_rfl, by kernel_rfl, Tryd.call25⟩
def quw : Nat → List Nat := kk [[0,2],[1,3,4,5,6,7,8,9,10,11,12,13,14,15,16,17]]
def qoy : List (Nat × List Nat) := [(0,[]),(1,[]),(2,[]),(3,[]),(4,[]),(5,[]),(6,[]),(7,[]),(8,[]),(9,[]),(11,[]),(12,[]),(10,[12]),(13,[]),(14,[]),(15,[])]
def qzacz : IR :=
 (.seq (.reg [o 1 (.box (.t 0)),o 2 (.mv (.c .ff))] [0,2]) (.seq (.draw [o 3 (.fad 0 (.t 1)),o 4 (.load false 1 (.t 3)),o 5 (.bin .ge (.t 4) (z 0)),o 6 (.mv (.t 5)),q 7 (.fad 0 (.t 1)) 6 true,q 8 (.load false 1 (.t 7)) 6 true,q 9 (.bin .le (.t 8) (z 4096)) 6 true,o 10 (.pick (.t 6) (.t 9) (.c .ff)),o 11 (.mv (.t 10)),q 12 (.load true 2 (.t 1)) 11 true,q 13 (f 24 [(.t 12)]) 11 true,q 14 (.fad 0 (.t 1)) 11 true,q 15 (.load false 1 (.t 14)) 11 true,q 16 (.bin .le (.t 13) (.t 15)) 11 true,o 17 (.pick (.t 11) (.t 16) (.c .ff)),o 2 (.mv (.t 17))] [[],[0],[1],[2],[3],[4,3],[5,3],[3,6],[7,3],[8],[9,8,8],[8],[11,8],[10,12,8],[8,13],[14,10,0,1,2,3,4,5,6,7,8,9,10,11,12,13,14]] [1,3,4,5,6,7,8,9,10,11,12,13,14,15,16,17]) .ret))
theorem qvh : FnIs Tryd.prog 26 18 [.t 2] qzacz :=
  ⟨Tryd.f26, _, quw, Tryd.func26, rfl, rfl, by kernel_rfl, by kernel_rfl, Tryd.call26⟩
def qks : Nat → List Nat := kk [[0,2],[1,3,4,5,6,7,8,9,10,11,12,13,14,15,16,17]]
def qhu : List (Nat × List Nat) := [(0,[]),(1,[]),(2,[]),(3,[]),(4,[]),(5,[]),(6,[]),(7,[]),(8,[]),(9,[]),(11,[]),(12,[]),(10,[12]),(13,[]),(14,[]),(15,[])]
def qpu : IR :=
 (.seq (.reg [o 1 (.box (.t 0)),o 2 (.mv (.c .ff))] [0,2]) (.seq (.draw [o 3 (.fad 0 (.t 1)),o 4 (.load false 1 (.t 3)),o 5 (.bin .ge (.t 4) (z 0)),o 6 (.mv (.t 5)),q 7 (.fad 0 (.t 1)) 6 true,q 8 (.load false 1 (.t 7)) 6 true,q 9 (.bin .le (.t 8) (z 4096)) 6 true,o 10 (.pick (.t 6) (.t 9) (.c .ff)),o 11 (.mv (.t 10)),q 12 (.load true 2 (.t 1)) 11 true,q 13 (f 25 [(.t 12)]) 11 true,q 14 (.fad 0 (.t 1)) 11 true,q 15 (.load false 1 (.t 14)) 11 true,q 16 (.bin .le (.t 13) (.t 15)) 11 true,o 17 (.pick (.t 11) (.t 16) (.c .ff)),o 2 (.mv (.t 17))] [[],[0],[1],[2],[3],[4,3],[5,3],[3,6],[7,3],[8],[9,8,8],[8],[11,8],[10,12,8],[8,13],[14,10,0,1,2,3,4,5,6,7,8,9,10,11,12,13,14]] [1,3,4,5,6,7,8,9,10,11,12,13,14,15,16,17]) .ret))
theorem qky : FnIs Tryd.prog 27 18 [.t 2] qpu :=
  ⟨Tryd.f27, _, qks, Tryd.func27, rfl, rfl, by kernel_rfl, by kernel_rfl, Tryd.call27⟩
def qzabm : Nat → List Nat := kk [[0,1,5],[6,7],[9],[3,10,11,12,13,14,15],[16],[2,17]]
def table_Add : IR :=
 (.seq (.reg [o 2 (.box (.t 0)),o 3 (.box (.t 1)),o 4 (.alloc [(.i .i64 (.l 0)),(.re (.slice none 0 0))]),o 5 (.mv (z 0))] [0,1,5]) (.seq (.seq (.reg [o 6 (.load true 2 (.t 2)),o 7 (f 26 [(.t 6)]),o 8 (.not (.t 7))] [6,7]) (.cond (.t 8) (.seq (.reg [o 9 (.build [(.i .i64 (.l 0)),(.re (.slice none 0 0))] []),u (.store 2 (.t 4) (.t 9)),o 5 (.mv (z 2))] [9]) .ret) .skip)) (.seq (.reg [o 10 (.load true 2 (.t 3)),o 11 (.buildS 2 1 [(.s []),(.s [])] [(0,(.t 10))]),o 12 (.fad 1 (.t 2)),o 13 (.load false 1 (.t 12)),o 14 (.app 2 (.t 11) (.t 13)),o 15 (.fad 1 (.t 2)),u (.store 1 (.t 15) (.t 14))] [3,10,11,12,13,14,15]) (.seq (.reg [o 16 (f 56 [(.t 2)])] [16]) (.seq (.reg [o 17 (.load true 2 (.t 2)),u (.store 2 (.t 4) (.t 17)),o 5 (.mv (z 0))] [2,17]) .ret)))))
theorem qzacd : FnIs Tryd.prog 28 18 [.c 4 true 2, .t 5] table_Add :=
  ⟨Tryd.f28, _, qzabm, Tryd.func28, rfl, rfl, by kernel_rfl, by kernel_rfl, Tryd.call28⟩
def qsy : Nat → List Nat := kk [[0,5],[1,8,9,10,11,12],[7,13,14,15,16,17,18],[20],[2,21,22,23,24],[25],[6,26]]
def qzaal : IR :=
 (.seq (.reg [o 2 (.box (.t 0)),o 4 (.alloc [(.i .i64 (.l 0)),(.re (.slice none 0 0))]),o 5 (.mv (z 0))] [0,5]) (.seq (.reg [o 9 (.mv (.t 1)),o 10 (f 19 [(.t 9)]),o 8 (.mv (.t 10)),o 11 (.ext (.t 8) 0),o 12 (.ext (.t 8) 1),o 6 (.alloc [(.i .i64 (.l 0)),(.re (.slice none 0 0))]),u (.store 2 (.t 6) (.t 11)),o 7 (.mv (.t 12))] [1,8,9,10,11,12]) (.seq (.seq (.reg [o 13 (.mv (.t 7)),o 14 (.bin .ne (.t 13) (z 0)),o 15 (.mv (.t 14)),q 16 (.load true 2 (.t 2)) 15 false,q 17 (f 26 [(.t 16)]) 15 false,q 18 (.not (.t 17)) 15 false,o 19 (.pick (.t 15) (.c .tt) (.t 18))] [7,13,14,15,16,17,18]) (.cond (.t 19) (.seq (.reg [o 20 (.build [(.i .i64 (.l 0)),(.re (.slice none 0 0))] []),u (.store 2 (.t 4) (.t 20)),o 5 (.mv (z 2))] [20]) .ret) .skip)) (.seq (.reg [o 21 (.fad 1 (.t 2)),o 22 (.load false 1 (.t 21)),o 23 (f 58 [(.t 22)]),o 24 (.fad 1 (.t 6)),u (.store 1 (.t 24) (.t 23))] [2,21,22,23,24]) (.seq (.reg [o 25 (f 56 [(.t 6)])] [25]) (.seq (.reg [o 26 (.load true 2 (.t 6)),u (.store 2 (.t 4) (.t 26)),o 5 (.mv (z 0))] [6,26]) .ret))))))
theorem qtn : FnIs Tryd.prog 30 27 [.c 4 true 2, .t 5] qzaal :=
  ⟨Tryd.f30, _, qsy, Tryd.func30, rfl, rfl, by kernel_rfl, by kernel_rfl, Tryd.call30⟩
def qjf : Nat → List Nat := kk [[0,5],[6,7,8,9,10,11,12,13,14,15],[17],[1,18,19],[2,20,21]]
def qof : IR :=
 (.seq (.reg [o 2 (.box (.t 0)),o 4 (.alloc [(.i .i64 (.l 0)),(.re (.slice none 0 0))]),o 5 (.mv (z 0))] [0,5]) (.seq (.seq (.reg [o 6 (.load true 2 (.t 2)),o 7 (f 27 [(.t 6)]),o 8 (.not (.t 7)),o 9 (.mv (.t 8)),q 10 (.mv (.t 1)) 9 false,q 11 (.bin .lt (.t 10) (z 0)) 9 false,o 12 (.pick (.t 9) (.c .tt) (.t 11)),o 13 (.mv (.t 12)),q 14 (.mv (.t 1)) 13 false,q 15 (.bin .gt (.t 14) (z 4096)) 13 false,o 16 (.pick (.t 13) (.c .tt) (.t 15))] [6,7,8,9,10,11,12,13,14,15]) (.cond (.t 16) (.seq (.reg [o 17 (.build [(.i .i64 (.l 0)),(.re (.slice none 0 0))] []),u (.store 2 (.t 4) (.t 17)),o 5 (.mv (z 2))] [17]) .ret) .skip)) (.seq (.reg [o 18 (.mv (.t 1)),o 19 (.fad 0 (.t 2)),u (.store 1 (.t 19) (.t 18))] [1,18,19]) (.seq (.reg [o 20 (.load true 2 (.t 2)),o 21 (f 57 [(.t 20)]),u (.store 2 (.t 4) (.t 21)),o 5 (.mv (z 0))] [2,20,21]) .ret))))
theorem qjp : FnIs Tryd.prog 31 22 [.c 4 true 2, .t 5] qof :=
  ⟨Tryd.f31, _, qjf, Tryd.func31, rfl, rfl, by kernel_rfl, by kernel_rfl, Tryd.call31⟩
def qzado : Nat → List Nat := kk [[0,1],[2,8,9],[11],[12],[3,6,13,14],[7,16],[17]]
def table_At : IR :=
 (.seq (.reg [o 2 (.box (.t 0)),o 3 (.box (.t 1)),o 4 (.alloc [(.s []),(.s [])]),o 5 (.alloc [(.i .i64 (.l 0))])] [0,1]) (.seq (.seq (.reg [o 8 (.fad 1 (.t 2)),o 9 (.load false 1 (.t 8)),o 10 (f 59 [(.t 9)])] [2,8,9]) (.block 0 (.rf (.t 10) [11,12] (.seq (.reg [o 6 (.mv (.t 11))] [11]) (.reg [o 7 (.alloc [(.s []),(.s [])]),u (.store 2 (.t 7) (.t 12))] [12])) (.block 1 (.seq (.reg [o 13 (.mv (.t 6)),o 14 (.load false 1 (.t 3)),o 15 (.bin .eq (.t 13) (.t 14))] [3,6,13,14]) (.cond (.t 15) (.seq (.reg [o 16 (.load true 2 (.t 7)),u (.store 2 (.t 4) (.t 16)),u (.store 1 (.t 5) (z 0))] [7,16]) .ret) .skip)))))) (.seq (.reg [o 17 (.build [(.s []),(.s [])] []),u (.store 2 (.t 4) (.t 17)),u (.store 1 (.t 5) (z 90))] [17]) .ret)))
theorem qzadt : FnIs Tryd.prog 32 18 [.c 4 true 2, .c 5 false 1] table_At :=
  ⟨Tryd.f32, _, qzado, Tryd.func32, rfl, rfl, by kernel_rfl, by kernel_rfl, Tryd.call32⟩
def qyh : Nat → List Nat := kk [[0,1,4],[2,3,5,6,7,8,9,10,11,12,13,14,15,16]]
def table_Same : IR :=
 (.seq (.reg [o 2 (.box (.t 0)),o 3 (.box (.t 1)),o 4 (.mv (.c .ff))] [0,1,4]) (.seq (.reg [o 5 (.fad 0 (.t 2)),o 6 (.load false 1 (.t 5)),o 7 (.fad 0 (.t 3)),o 8 (.load false 1 (.t 7)),o 9 (.bin .eq (.t 6) (.t 8)),o 10 (.mv (.t 9)),q 11 (.fad 1 (.t 2)) 10 true,q 12 (.load false 1 (.t 11)) 10 true,q 13 (.fad 1 (.t 3)) 10 true,q 14 (.load false 1 (.t 13)) 10 true,q 15 (f 60 [(.t 12),(.t 14)]) 10 true,o 16 (.pick (.t 10) (.t 15) (.c .ff)),o 4 (.mv (.t 16))] [2,3,5,6,7,8,9,10,11,12,13,14,15,16]) .ret))
theorem qys : FnIs Tryd.prog 36 17 [.t 4] table_Same :=
  ⟨Tryd.f36, _, qyh, Tryd.func36, rfl, rfl, by kernel_rfl, by kernel_rfl, Tryd.call36⟩
def qjg : Nat → List Nat := kk [[4],[6,7,8,9],[],[],[11,12,13],[15,16],[17,18,19,20,21,22,23,24]]
def qgp : List Nat := [2,3,4,6,7,8,9,10,11,12,13,14,15,16,17,18,19,20,21,22,23,24,25]
def qhc : List (Nat × List Nat) := [(0,[]),(1,[]),(2,[]),(3,[]),(4,[]),(5,[]),(6,[]),(7,[]),(8,[])]
def qog : IR :=
 (.seq (.reg [o 4 (.mv (.c .ff))] [4]) (.seq (.seq (.reg [o 6 (.mv (.t 0)),o 7 (.len false (.t 6)),o 8 (.mv (.t 1)),o 9 (.len false (.t 8)),o 10 (.bin .ne (.t 7) (.t 9))] [6,7,8,9]) (.cond (.t 10) (.seq (.reg [o 4 (.mv (.c .ff))] []) .ret) .skip)) (.seq (.seq (.reg [o 5 (.mv (z 0))] []) (.block 0 (.loop (.seq (.seq (.reg [o 11 (.mv (.t 5)),o 12 (.mv (.t 0)),o 13 (.len false (.t 12)),o 14 (.bin .lt (.t 11) (.t 13))] [11,12,13]) (.cond (.t 14) .skip (.exit 0))) (.seq (.block 1 (.seq (.draw [o 17 (.mv (.t 0)),o 18 (.mv (.t 5)),o 19 (.iadS 2 (.t 17) (.t 18)),o 20 (.load true 2 (.t 19)),o 21 (.mv (.t 1)),o 22 (.mv (.t 5)),o 23 (.iadS 2 (.t 21) (.t 22)),o 24 (.load true 2 (.t 23)),o 25 (.eqA ⟨true,[.ks,.ks]⟩ true (.t 20) (.t 24))] [[],[],[0,1],[2],[],[],[4,5],[6],[3,7]] [17,18,19,20,21,22,23,24]) (.cond (.t 25) (.seq (.reg [o 4 (.mv (.c .ff))] []) .ret) .skip))) (.reg [o 15 (.mv (.t 5)),o 16 (.bin .add (.t 15) (z 1)),o 5 (.mv (.t 16))] [15,16])))))) (.seq (.reg [o 4 (.mv (.c .tt))] []) .ret))))
theorem qjq : FnIs Tryd.prog 37 26 [.t 4] qog :=
  ⟨Tryd.f37, _, qjg, Tryd.func37, rfl, rfl, by kernel_rfl, by kernel_rfl, Tryd.call37⟩
def qme : Nat → List Nat := kk [[4],[0,1,5,6,7,8,9]]
def qqx : IR :=
 (.seq (.reg [o 4 (.mv (.c .ff))] [4]) (.seq (.reg [o 5 (.mv (.t 0)),o 6 (.cvBS (.t 5)),o 7 (.mv (.t 1)),o 8 (.cvBS (.t 7)),o 9 (.bin .eq (.t 6) (.t 8)),o 4 (.mv (.t 9))] [0,1,5,6,7,8,9]) .ret))
theorem qmq : FnIs Tryd.prog 46 10 [.t 4] qqx :=
  ⟨Tryd.f46, _, qme, Tryd.func46, rfl, rfl, by kernel_rfl, by kernel_rfl, Tryd.call46⟩
def qkr : Nat → List Nat := kk [[0,2],[],[],[5,6,7,8,9,10,11,12],[14,15],[16,17,18,19,20,21,22,23,24,25,26,27,28,29,30,31,32],[1,3,33,34,35,36,37,38,39,40]]
def qhg : List Nat := [0,2,5,6,7,8,9,10,11,12,13,14,15,16,17,18,19,20,21,22,23,24,25,26,27,28,29,30,31,32,33,34,35,36,37,38,39,40]
def qht : List (Nat × List Nat) := [(0,[]),(1,[]),(2,[]),(3,[]),(4,[]),(5,[]),(6,[]),(7,[]),(8,[]),(9,[]),(10,[]),(11,[]),(12,[]),(13,[]),(14,[]),(15,[]),(16,[]),(17,[])]
def qpt : IR :=
 (.seq (.reg [o 1 (.box (.t 0)),o 2 (.mv (.c .ff))] [0,2]) (.seq (.reg [o 3 (.mv (z 0))] []) (.seq (.seq (.reg [o 4 (.mv (z 0))] []) (.block 0 (.loop (.seq (.seq (.reg [o 5 (.mv (.t 4)),o 6 (.fad 1 (.t 1)),o 7 (.load false 1 (.t 6)),o 8 (.len false (.t 7)),o 9 (.bin .lt (.t 5) (.t 8)),o 10 (.mv (.t 9)),q 11 (.mv (.t 4)) 10 true,q 12 (.bin .le (.t 11) (z 200)) 10 true,o 13 (.pick (.t 10) (.t 12) (.c .ff))] [5,6,7,8,9,10,11,12]) (.cond (.t 13) .skip (.exit 0))) (.seq (.block 1 (.draw [o 16 (.mv (.t 3)),o 17 (.fad 1 (.t 1)),o 18 (.load false 1 (.t 17)),o 19 (.mv (.t 4)),o 20 (.iadS 2 (.t 18) (.t 19)),o 21 (.fad 0 (.t 20)),o 22 (.load false 1 (.t 21)),o 23 (.len true (.t 22)),o 24 (.bin .add (.t 16) (.t 23)),o 25 (.fad 1 (.t 1)),o 26 (.load false 1 (.t 25)),o 27 (.mv (.t 4)),o 28 (.iadS 2 (.t 26) (.t 27)),o 29 (.fad 1 (.t 28)),o 30 (.load false 1 (.t 29)),o 31 (.len true (.t 30)),o 32 (.bin .add (.t 24) (.t 31)),o 3 (.mv (.t 32))] [[],[],[1],[],[2,3],[4],[5],[6],[0,7],[],[9],[],[10,11],[12],[13],[14],[8,15],[16,0,1,2,3,4,5,6,7,8,9,10,11,12,13,14,15,16]] [16,17,18,19,20,21,22,23,24,25,26,27,28,29,30,31,32])) (.reg [o 14 (.mv (.t 4)),o 15 (.bin .add (.t 14) (z 1)),o 4 (.mv (.t 15))] [14,15])))))) (.seq (.reg [o 33 (.fad 1 (.t 1)),o 34 (.load false 1 (.t 33)),o 35 (.len false (.t 34)),o 36 (.bin .gt (.t 35) (z 200)),o 37 (.mv (.t 36)),q 38 (.mv (.t 3)) 37 false,q 39 (.bin .gt (.t 38) (z 9000)) 37 false,o 40 (.pick (.t 37) (.c .tt) (.t 39)),o 2 (.mv (.t 40))] [1,3,33,34,35,36,37,38,39,40]) .ret))))
theorem qkx : FnIs Tryd.prog 47 41 [.t 2] qpt :=
  ⟨Tryd.f47, _, qkr, Tryd.func47, rfl, rfl, by kernel_rfl, by kernel_rfl, Tryd.call47⟩
def qku : Nat → List Nat := kk [[0],[18],[19,20,21,22,23,24],[25,26,27,28,29,30],[6,31,32,33,34,35,36],[8,37,38,39,40,41,42],[43,44,45,46,47,48,49],[1,12,50,51,52,53,54,55],[56,57,58,59],[60,61,62,63],[64,65,66,67,68,69,70,71,72,73,74,75,76,77,78,79],[],[2,3,4,5,7,9,10,11,13,14,15,16,17,81,82,83,84,85,86,87,88,89,90,91,92,93,94,95,96,97,98,99,100,101,102,103,104,105,106,107,108,109,110,111,112,113,114,115,116,117,118,119,120,121,122,123,124,125,126,127,128,129,130,131,132,133,134,135,136,137,138,139,140,141,142,143,144,145,146,147,148,149,150,151,152,153,154,155,156,157,158,159,160,161,162,163,164,165,166,167,168,169,170,171,172,173,174,175,176,177,178]]
def qhv : List (Nat × List Nat) := [(0,[]),(1,[]),(2,[]),(3,[]),(4,[]),(5,[]),(6,[]),(7,[]),(8,[]),(9,[]),(10,[]),(11,[]),(12,[]),(13,[]),(14,[]),(15,[]),(16,[]),(17,[]),(18,[]),(19,[]),(20,[]),(21,[]),(22,[]),(23,[]),(24,[]),(25,[]),(26,[]),(27,[]),(28,[]),(29,[]),(30,[]),(31,[]),(32,[]),(33,[]),(34,[]),(35,[]),(36,[]),(37,[]),(38,[]),(39,[]),(40,[]),(41,[]),(42,[]),(43,[]),(44,[]),(45,[]),(46,[]),(47,[]),(48,[]),(49,[]),(50,[]),(51,[]),(52,[]),(53,[]),(54,[]),(55,[]),(56,[]),(57,[]),(58,[]),(59,[]),(60,[]),(61,[]),(62,[]),(63,[]),(64,[]),(65,[]),(66,[]),(67,[]),(68,[]),(69,[]),(70,[]),(71,[]),(72,[]),(73,[]),(74,[]),(75,[]),(76,[]),(77,[]),(78,[]),(79,[]),(80,[]),(81,[]),(82,[]),(83,[]),(84,[]),(85,[]),(86,[]),(87,[]),(88,[]),(89,[]),(90,[]),(91,[]),(92,[]),(93,[]),(94,[]),(95,[]),(96,[]),(97,[]),(98,[])]
def qpw : IR :=
 (.seq (.reg [o 0 (.mv (.c .ff))] [0]) (.seq (.reg [o 18 (.build [(.i .i64 (.l 0)),(.re (.slice none 0 0))] [(0,1,(z 100))]),o 1 (.alloc [(.i .i64 (.l 0)),(.re (.slice none 0 0))]),u (.store 2 (.t 1) (.t 18))] [18]) (.seq (.reg [o 20 (.load true 2 (.t 1)),o 21 (.buildS 1 1 [(.i .u8 (.l 0))] [(0,(.c (.i .u8 (.l 130))))]),o 22 (f 49 [(.t 20),(z 100),(.t 21)]),o 19 (.mv (.t 22)),o 23 (.ext (.t 19) 0),o 24 (.ext (.t 19) 1),o 2 (.alloc [(.re (.slice none 0 0)),.ff,(.i .i64 (.l 0)),(.re (.slice none 0 0))]),u (.store 4 (.t 2) (.t 23)),o 3 (.mv (.t 24))] [19,20,21,22,23,24]) (.seq (.reg [o 26 (.load true 2 (.t 1)),o 27 (.buildS 1 5 [(.i .u8 (.l 0))] [(0,(.c (.i .u8 (.l 64)))),(1,(.c (.i .u8 (.l 1)))),(2,(.c (.i .u8 (.l 97)))),(3,(.c (.i .u8 (.l 1)))),(4,(.c (.i .u8 (.l 49))))]),o 28 (f 49 [(.t 26),(z 100),(.t 27)]),o 25 (.mv (.t 28)),o 29 (.ext (.t 25) 0),o 30 (.ext (.t 25) 1),o 4 (.alloc [(.re (.slice none 0 0)),.ff,(.i .i64 (.l 0)),(.re (.slice none 0 0))]),u (.store 4 (.t 4) (.t 29)),o 5 (.mv (.t 30))] [25,26,27,28,29,30]) (.seq (.reg [o 32 (.load true 2 (.t 1)),o 33 (.buildS 1 1 [(.i .u8 (.l 0))] [(0,(.c (.i .u8 (.l 128))))]),o 34 (f 49 [(.t 32),(z 100),(.t 33)]),o 31 (.mv (.t 34)),o 35 (.ext (.t 31) 0),o 36 (.ext (.t 31) 1),o 6 (.alloc [(.re (.slice none 0 0)),.ff,(.i .i64 (.l 0)),(.re (.slice none 0 0))]),u (.store 4 (.t 6) (.t 35)),o 7 (.mv (.t 36))] [6,31,32,33,34,35,36]) (.seq (.reg [o 38 (.load true 2 (.t 1)),o 39 (.buildS 1 2 [(.i .u8 (.l 0))] [(0,(.c (.i .u8 (.l 130)))),(1,(.c (.i .u8 (.l 32))))]),o 40 (f 49 [(.t 38),(z 100),(.t 39)]),o 37 (.mv (.t 40)),o 41 (.ext (.t 37) 0),o 42 (.ext (.t 37) 1),o 8 (.alloc [(.re (.slice none 0 0)),.ff,(.i .i64 (.l 0)),(.re (.slice none 0 0))]),u (.store 4 (.t 8) (.t 41)),o 9 (.mv (.t 42))] [8,37,38,39,40,41,42]) (.seq (.reg [o 44 (.fad 2 (.t 4)),o 45 (.load true 2 (.t 44)),o 46 (.buildS 1 1 [(.i .u8 (.l 0))] [(0,(.c (.i .u8 (.l 32))))]),o 47 (f 49 [(.t 45),(z 100),(.t 46)]),o 43 (.mv (.t 47)),o 48 (.ext (.t 43) 0),o 49 (.ext (.t 43) 1),o 10 (.alloc [(.re (.slice none 0 0)),.ff,(.i .i64 (.l 0)),(.re (.slice none 0 0))]),u (.store 4 (.t 10) (.t 48)),o 11 (.mv (.t 49))] [43,44,45,46,47,48,49]) (.seq (.reg [o 51 (.load true 2 (.t 1)),o 52 (.buildS 1 2 [(.i .u8 (.l 0))] [(0,(.c (.i .u8 (.l 63)))),(1,(.c (.i .u8 (.l 70))))]),o 53 (f 49 [(.t 51),(z 100),(.t 52)]),o 50 (.mv (.t 53)),o 54 (.ext (.t 50) 0),o 55 (.ext (.t 50) 1),o 12 (.alloc [(.re (.slice none 0 0)),.ff,(.i .i64 (.l 0)),(.re (.slice none 0 0))]),u (.store 4 (.t 12) (.t 54)),o 13 (.mv (.t 55))] [1,12,50,51,52,53,54,55]) (.seq (.reg [o 57 (f 53 [(z 2)]),o 56 (.mv (.t 57)),o 58 (.ext (.t 56) 0),o 59 (.ext (.t 56) 1),o 14 (.mv (.t 58)),o 15 (.mv (.t 59))] [56,57,58,59]) (.seq (.reg [o 61 (f 54 [(z 21),(.c (.s [50])),(z 2)]),o 60 (.mv (.t 61)),o 62 (.ext (.t 60) 0),o 63 (.ext (.t 60) 1),o 16 (.mv (.t 62)),o 17 (.mv (.t 63))] [60,61,62,63]) (.seq (.seq (.reg [o 64 (.fad 0 (.t 2)),o 65 (.load false 1 (.t 64)),o 66 (.len false (.t 65)),o 67 (.bin .ne (.t 66)
 (z 1)),o 68 (.mv (.t 67)),q 69 (.fad 0 (.t 4)) 68 false,q 70 (.load false 1 (.t 69)) 68 false,q 71 (.len false (.t 70)) 68 false,q 72 (.bin .ne (.t 71) (z 1)) 68 false,o 73 (.pick (.t 68) (.c .tt) (.t 72)),o 74 (.mv (.t 73)),q 75 (.fad 2 (.t 4)) 74 false,q 76 (.fad 1 (.t 75)) 74 false,q 77 (.load false 1 (.t 76)) 74 false,q 78 (.len false (.t 77)) 74 false,q 79 (.bin .ne (.t 78) (z 1)) 74 false,o 80 (.pick (.t 74) (.c .tt) (.t 79))] [64,65,66,67,68,69,70,71,72,73,74,75,76,77,78,79]) (.cond (.t 80) (.seq (.reg [o 0 (.mv (.c .ff))] []) .ret) .skip)) (.seq (.draw [o 81 (.mv (.t 3)),o 82 (.bin .eq (.t 81) (z 0)),o 83 (.mv (.t 82)),q 84 (.fad 0 (.t 2)) 83 true,q 85 (.load false 1 (.t 84)) 83 true,q 86 (.iadS 2 (.t 85) (z 0)) 83 true,q 87 (.load true 2 (.t 86)) 83 true,q 88 (.build [(.s []),(.s [])] [(0,1,(.c (.s [58,109,101,116,104,111,100]))),(1,1,(.c (.s [80,79,83,84])))]) 83 true,q 89 (.eqA ⟨true,[.ks,.ks]⟩ false (.t 87) (.t 88)) 83 true,o 90 (.pick (.t 83) (.t 89) (.c .ff)),o 91 (.mv (.t 90)),q 92 (.mv (.t 5)) 91 true,q 93 (.bin .eq (.t 92) (z 0)) 91 true,o 94 (.pick (.t 91) (.t 93) (.c .ff)),o 95 (.mv (.t 94)),q 96 (.fad 0 (.t 4)) 95 true,q 97 (.load false 1 (.t 96)) 95 true,q 98 (.iadS 2 (.t 97) (z 0)) 95 true,q 99 (.load true 2 (.t 98)) 95 true,q 100 (.build [(.s []),(.s [])] [(0,1,(.c (.s [97]))),(1,1,(.c (.s [49])))]) 95 true,q 101 (.eqA ⟨true,[.ks,.ks]⟩ false (.t 99) (.t 100)) 95 true,o 102 (.pick (.t 95) (.t 101) (.c .ff)),o 103 (.mv (.t 102)),q 104 (.fad 2 (.t 4)) 103 true,q 105 (.fad 1 (.t 104)) 103 true,q 106 (.load false 1 (.t 105)) 103 true,q 107 (.iadS 2 (.t 106) (z 0)) 103 true,q 108 (.load true 2 (.t 107)) 103 true,q 109 (.fad 0 (.t 4)) 103 true,q 110 (.load false 1 (.t 109)) 103 true,q 111 (.iadS 2 (.t 110) (z 0)) 103 true,q 112 (.load true 2 (.t 111)) 103 true,q 113 (.eqA ⟨true,[.ks,.ks]⟩ false (.t 108) (.t 112)) 103 true,o 114 (.pick (.t 103) (.t 113) (.c .ff)),o 115 (.mv (.t 114)),q 116 (.mv (.t 7)) 115 true,q 117 (.bin .eq (.t 116) (z 90)) 115 true,o 118 (.pick (.t 115) (.t 117) (.c .ff)),o 119 (.mv (.t 118)),q 120 (.mv (.t 9)) 119 true,q 121 (.bin .eq (.t 120) (z 100)) 119 true,o 122 (.pick (.t 119) (.t 121) (.c .ff)),o 123 (.mv (.t 122)),q 124 (.mv (.t 11)) 123 true,q 125 (.bin .eq (.t 124) (z 0)) 123 true,o 126 (.pick (.t 123) (.t 125) (.c .ff)),o 127 (.mv (.t 126)),q 128 (.fad 2 (.t 10)) 127 true,q 129 (.fad 1 (.t 128)) 127 true,q 130 (.load false 1 (.t 129)) 127 true,q 131 (.len false (.t 130)) 127 true,q 132 (.bin .eq (.t 131) (z 0)) 127 true,o 133 (.pick (.t 127) (.t 132) (.c .ff)),o 134 (.mv (.t 133)),q 135 (.fad 2 (.t 10)) 134 true,q 136 (.fad 0 (.t 135)) 134 true,q 137 (.load false 1 (.t 136)) 134 true,q 138 (.bin .eq (.t 137) (z 0)) 134 true,o 139 (.pick (.t 134) (.t 138) (.c .ff)),o 140 (.mv (.t 139)),q 141 (.mv (.t 13)) 140 true,q 142 (.bin .eq (.t 141) (z 100)) 140 true,o 143 (.pick (.t 140) (.t 142) (.c .ff)),o 144 (.mv (.t 143)),q 145 (.mv (.t 15)) 144 true,q 146 (.bin .eq (.t 145) (z 0)) 144 true,o 147 (.pick
 (.t 144) (.t 146) (.c .ff)),o 148 (.mv (.t 147)),q 149 (.mv (.t 14)) 148 true,q 150 (.buildS 1 1 [(.i .u8 (.l 0))] [(0,(.c (.i .u8 (.l 130))))]) 148 true,q 151 (f 65 [(.t 149),(.t 150)]) 148 true,o 152 (.pick (.t 148) (.t 151) (.c .ff)),o 153 (.mv (.t 152)),q 154 (.mv (.t 17)) 153 true,q 155 (.bin .eq (.t 154) (z 0)) 153 true,o 156 (.pick (.t 153) (.t 155) (.c .ff)),o 157 (.mv (.t 156)),q 158 (.mv (.t 16)) 157 true,q 159 (.buildS 1 4 [(.i .u8 (.l 0))] [(0,(.c (.i .u8 (.l 31)))),(1,(.c (.i .u8 (.l 6)))),(2,(.c (.i .u8 (.l 1)))),(3,(.c (.i .u8 (.l 50))))]) 157 true,q 160 (f 65 [(.t 158),(.t 159)]) 157 true,o 161 (.pick (.t 157) (.t 160) (.c .ff)),o 162 (.mv (.t 161)),q 163 (.fad 0 (.t 4)) 162 true,q 164 (.load false 1 (.t 163)) 162 true,q 165 (f 66 [(.t 164)]) 162 true,q 166 (.bin .eq (.t 165) (z 34)) 162 true,o 167 (.pick (.t 162) (.t 166) (.c .ff)),o 168 (.mv (.t 167)),q 169 (.load true 4 (.t 2)) 168 true,q 170 (.load true 4 (.t 2)) 168 true,q 171 (f 67 [(.t 169),(.t 170)]) 168 true,o 172 (.pick (.t 168) (.t 171) (.c .ff)),o 173 (.mv (.t 172)),q 174 (.load true 4 (.t 2)) 173 true,q 175 (.load true 4 (.t 4)) 173 true,q 176 (f 67 [(.t 174),(.t 175)]) 173 true,q 177 (.not (.t 176)) 173 true,o 178 (.pick (.t 173) (.t 177) (.c .ff)),o 0 (.mv (.t 178))] [[],[0],[1],[2],[3,2],[4,2],[5,2],[2],[6,7,2],[2,8],[9,2],[10],[11,10],[10,12],[13,10],[14],[15,14],[16,14],[17,14],[14],[18,19,14],[14,20],[21,14],[22],[23,22],[24,22],[25,22],[26,22],[22],[28,22],[29,22],[30,22],[27,31,22],[22,32],[33,22],[34],[35,34],[34,36],[37,34],[38],[39,38],[38,40],[41,38],[42],[43,42],[42,44],[45,42],[46],[47,46],[48,46],[49,46],[50,46],[46,51],[52,46],[53],[54,53],[55,53],[56,53],[53,57],[58,53],[59],[60,59],[59,61],[62,59],[63],[64,63],[63,65],[66,63],[67],[67],[68,69,67,67],[67,70],[71,70],[72],[73,72],[72,74],[75,72],[76],[76],[77,78,76,76],[76,79],[80,79],[81],[82,81],[83,81,81],[84,81],[81,85],[86,84],[87],[87],[88,89,87,87],[87,90],[91,90],[92],[92],[93,94,92,92],[95,92],[92,96],[97,95,0,1,2,3,4,5,6,7,8,9,10,11,12,13,14,15,16,17,18,19,20,21,22,23,24,25,26,27,28,29,30,31,32,33,34,35,36,37,38,39,40,41,42,43,44,45,46,47,48,49,50,51,52,53,54,55,56,57,58,59,60,61,62,63,64,65,66,67,68,69,70,71,72,73,74,75,76,77,78,79,80,81,82,83,84,85,86,87,88,89,90,91,92,93,94,95,96,97]] [2,3,4,5,7,9,10,11,13,14,15,16,17,81,82,83,84,85,86,87,88,89,90,91,92,93,94,95,96,97,98,99,100,101,102,103,104,105,106,107,108,109,110,111,112,113,114,115,116,117,118,119,120,121,122,123,124,125,126,127,128,129,130,131,132,133,134,135,136,137,138,139,140,141,142,143,144,145,146,147,148,149,150,151,152,153,154,155,156,157,158,159,160,161,162,163,164,165,166,167,168,169,170,171,172,173,174,175,176,177,178]) .ret))))))))))))
theorem qla : FnIs Tryd.prog 48 179 [.t 0] qpw :=
  ⟨Tryd.f48, _, qku, Tryd.func48, rfl, rfl, by kernel_rfl, by kernel_rfl, Tryd.call48⟩
def qsv : Nat → List Nat := kk [[0,1],[],[],[12,13,14,15,16,17,18,19,20,21],[3,23,24,25,26,27,28,29,30],[2,31,32],[34],[35],[11,36],[37],[39],[],[4,9,41,42,43,44,45,46,47],[6,10,49,50,51,52,53,54,55,56,57],[58],[60,61,62,63,64,65,66,67,68],[9,69,70],[71,72,73,74,75],[8,76],[6,78],[6,10,79,80,81,82,83,84,85],[86],[87,88]]
def qbp : List (Nat × List Nat) := [(0,[]),(1,[]),(2,[]),(3,[0]),(4,[]),(5,[])]
def qbd : List (Nat × List Nat) := [(0,[]),(1,[]),(2,[1]),(3,[])]
def qzaad : IR :=
 (.seq (.reg [o 3 (.box (.t 0)),o 4 (.box (.t 1)),o 6 (.alloc [(.re (.slice none 0 0)),.ff,(.i .i64 (.l 0)),(.re (.slice none 0 0))]),o 7 (.alloc [(.i .i64 (.l 0))])] [0,1]) (.scope (.seq (.reg [o 8 (.alloc [(.i .i64 (.l 0))]),o 9 (.alloc [(.i .i64 (.l 0))])] []) (.seq (.seq (.reg [u (.store 1 (.t 7) (z 2))] []) (.seq (.reg [o 12 (.load true 2 (.t 3)),o 13 (f 26 [(.t 12)]),o 14 (.not (.t 13)),o 15 (.mv (.t 14)),q 16 (.load false 1 (.t 4)) 15 false,q 17 (.bin .lt (.t 16) (z 0)) 15 false,o 18 (.pick (.t 15) (.c .tt) (.t 17)),o 19 (.mv (.t 18)),q 20 (.load false 1 (.t 4)) 19 false,q 21 (.bin .gt (.t 20) (z 4096)) 19 false,o 22 (.pick (.t 19) (.c .tt) (.t 21))] [12,13,14,15,16,17,18,19,20,21]) (.cond (.t 22) (.goto 0) .skip))) (.seq (.reg [o 24 (.load true 2 (.t 3)),o 25 (.fad 0 (.t 3)),o 26 (.load false 1 (.t 25)),o 27 (f 30 [(.t 24),(.t 26)]),o 23 (.mv (.t 27)),o 28 (.ext (.t 23) 0),o 29 (.ext (.t 23) 1),o 30 (.fad 2 (.t 6)),u (.store 2 (.t 30) (.t 28))] [3,23,24,25,26,27,28,29,30]) (.seq (.seq (.reg [o 31 (.fad 2 (.t 6)),o 32 (.mv (.t 2)),o 33 (f 68 [(.t 31),(.t 32)])] [2,31,32]) (.block 0 (.rf (.t 33) [34,35] (.seq (.reg [o 10 (.alloc [(.s []),(.s []),.ff,.ff,(.i .i64 (.l 0)),(.re (.slice none 0 0))]),u (.store 6 (.t 10) (.t 34))] [34]) (.reg [o 11 (.mv (.t 35))] [35])) (.block 1 (.seq (.seq (.reg [o 36 (.mv (.t 11)),u (.store 1 (.t 7) (.t 36))] [11,36]) (.seq (.reg [o 37 (.load false 1 (.t 7)),o 38 (.bin .ne (.t 37) (z 0))] [37]) (.cond (.t 38) (.goto 0) .skip))) (.seq (.seq (.reg [o 39 (.fad 2 (.t 10)),o 40 (.load false 1 (.t 39))] [39]) (.cond (.t 40) (.seq (.seq (.reg [u (.store 1 (.t 7) (z 100))] []) (.seq (.reg [o 41 (.load false 1 (.t 9)),o 42 (.bin .gt (.t 41) (z 0)),o 43 (.mv (.t 42)),q 44 (.fad 4 (.t 10)) 43 false,q 45 (.load false 1 (.t 44)) 43 false,q 46 (.load false 1 (.t 4)) 43 false,q 47 (.bin .gt (.t 45) (.t 46)) 43 false,o 48 (.pick (.t 43) (.c .tt) (.t 47))] [4,9,41,42,43,44,45,46,47]) (.cond (.t 48) (.goto 0) .skip))) (.seq (.reg [o 50 (.fad 2 (.t 6)),o 51 (.load true 2 (.t 50)),o 52 (.fad 4 (.t 10)),o 53 (.load false 1 (.t 52)),o 54 (f 30 [(.t 51),(.t 53)]),o 49 (.mv (.t 54)),o 55 (.ext (.t 49) 0),o 56 (.ext (.t 49) 1),o 57 (.fad 2 (.t 6)),u (.store 2 (.t 57) (.t 55))] [6,10,49,50,51,52,53,54,55,56,57]) (.exit 1))) .skip)) (.seq (.seq (.reg [o 58 (.fad 3 (.t 10)),o 59 (.load false 1 (.t 58))] [58]) (.cond (.t 59) (.reg [o 61 (.fad 2 (.t 6)),o 62 (.load true 2 (.t 61)),o 63 (.fad 0 (.t 10)),o 64 (.load true 2 (.t 63)),o 65 (f 28 [(.t 62),(.t 64)]),o 60 (.mv (.t 65)),o 66 (.ext (.t 60) 0),o 67 (.ext (.t 60) 1),o 68 (.fad 2 (.t 6)),u (.store 2 (.t 68) (.t 66))] [60,61,62,63,64,65,66,67,68]) .skip)) (.seq (.reg [o 69 (.load false 1 (.t 9)),o 70 (.bin .add (.t 69) (z 1)),u (.store 1 (.t 9) (.t 70))] [9,69,70]) (.seq (.seq (.draw [o 71 (.load false 1 (.t 8)),o 72 (.fad 0 (.t 10)),o 73 (.load true 2 (.t 72)),o 74 (f 22 [(.t 73)]),o 75 (.bin .add (.t 71) (.t 74)),u (.store 1 (.t 8) (.t 75))] [[],[],[1],[2],[0,3],[4,3,0,1,2,3,4]]
 [71,72,73,74,75]) (.seq (.reg [o 76 (.load false 1 (.t 8)),o 77 (.bin .gt (.t 76) (z 2000))] [8,76]) (.cond (.t 77) (.seq (.reg [o 78 (.fad 1 (.t 6)),u (.store 1 (.t 78) (.c .tt))] [6,78]) (.exit 1)) .skip))) (.reg [o 79 (.fad 0 (.t 6)),o 80 (.load false 1 (.t 79)),o 81 (.fad 0 (.t 10)),o 82 (.load true 2 (.t 81)),o 83 (.buildS 2 1 [(.s []),(.s [])] [(0,(.t 82))]),o 84 (.app 2 (.t 80) (.t 83)),o 85 (.fad 0 (.t 6)),u (.store 1 (.t 85) (.t 84))] [6,10,79,80,81,82,83,84,85])))))))))) (.seq (.seq (.reg [o 86 (.load true 4 (.t 6)),u (.store 4 (.t 6) (.t 86)),u (.store 1 (.t 7) (z 0))] [86]) .ret) (.seq (.label 0) (.seq (.draw [o 87 (.build [(.re (.slice none 0 0)),.ff,(.i .i64 (.l 0)),(.re (.slice none 0 0))] []),o 88 (.load false 1 (.t 7)),u (.store 4 (.t 6) (.t 87)),u (.store 1 (.t 7) (.t 88))] [[],[],[0,0],[1,2,0,1,2]] [87,88]) .ret)))))))))
theorem qjl : FnIs Tryd.prog 49 89 [.c 6 true 4, .c 7 false 1] qzaad :=
  ⟨Tryd.f49, _, qsv, Tryd.func49, rfl, rfl, by kernel_rfl, by kernel_rfl, Tryd.call49⟩
def qly : Nat → List Nat := kk [[2],[],[],[5,6,7],[9,10],[11,12,13,14,15,16,17],[3,18]]
def qid : List Nat := [1,2,5,6,7,8,9,10,11,12,13,14,15,16,17,18]
def qqr : IR :=
 (.seq (.reg [o 2 (.mv (z 0))] [2]) (.seq (.reg [o 3 (.mv (z 0))] []) (.seq (.seq (.reg [o 4 (.mv (z 0))] []) (.block 0 (.loop (.seq (.seq (.reg [o 5 (.mv (.t 4)),o 6 (.mv (.t 0)),o 7 (.len false (.t 6)),o 8 (.bin .lt (.t 5) (.t 7))] [5,6,7]) (.cond (.t 8) .skip (.exit 0))) (.seq (.block 1 (.reg [o 11 (.mv (.t 3)),o 12 (.mv (.t 0)),o 13 (.mv (.t 4)),o 14 (.iadS 2 (.t 12) (.t 13)),o 15 (.load true 2 (.t 14)),o 16 (f 23 [(.t 15)]),o 17 (.bin .add (.t 11) (.t 16)),o 3 (.mv (.t 17))] [11,12,13,14,15,16,17])) (.reg [o 9 (.mv (.t 4)),o 10 (.bin .add (.t 9) (z 1)),o 4 (.mv (.t 10))] [9,10])))))) (.seq (.reg [o 18 (.mv (.t 3)),o 2 (.mv (.t 18))] [3,18]) .ret))))
theorem qmk : FnIs Tryd.prog 50 19 [.t 2] qqr :=
  ⟨Tryd.f50, _, qly, Tryd.func50, rfl, rfl, by kernel_rfl, by kernel_rfl, Tryd.call50⟩
def qje : Nat → List Nat := kk [[4],[6,7,8,9],[],[],[11,12,13],[15,16],[17,18,19,20,21,22,23,24]]
def qgo : List Nat := [2,3,4,6,7,8,9,10,11,12,13,14,15,16,17,18,19,20,21,22,23,24,25]
def qhb : List (Nat × List Nat) := [(0,[]),(1,[]),(2,[]),(3,[]),(4,[]),(5,[]),(6,[]),(7,[]),(8,[])]
def qoe : IR :=
 (.seq (.reg [o 4 (.mv (.c .ff))] [4]) (.seq (.seq (.reg [o 6 (.mv (.t 0)),o 7 (.len false (.t 6)),o 8 (.mv (.t 1)),o 9 (.len false (.t 8)),o 10 (.bin .ne (.t 7) (.t 9))] [6,7,8,9]) (.cond (.t 10) (.seq (.reg [o 4 (.mv (.c .ff))] []) .ret) .skip)) (.seq (.seq (.reg [o 5 (.mv (z 0))] []) (.block 0 (.loop (.seq (.seq (.reg [o 11 (.mv (.t 5)),o 12 (.mv (.t 0)),o 13 (.len false (.t 12)),o 14 (.bin .lt (.t 11) (.t 13))] [11,12,13]) (.cond (.t 14) .skip (.exit 0))) (.seq (.block 1 (.seq (.draw [o 17 (.mv (.t 0)),o 18 (.mv (.t 5)),o 19 (.iadS 2 (.t 17) (.t 18)),o 20 (.load true 2 (.t 19)),o 21 (.mv (.t 1)),o 22 (.mv (.t 5)),o 23 (.iadS 2 (.t 21) (.t 22)),o 24 (.load true 2 (.t 23)),o 25 (.eqA ⟨true,[.ks,.ks]⟩ true (.t 20) (.t 24))] [[],[],[0,1],[2],[],[],[4,5],[6],[3,7]] [17,18,19,20,21,22,23,24]) (.cond (.t 25) (.seq (.reg [o 4 (.mv (.c .ff))] []) .ret) .skip))) (.reg [o 15 (.mv (.t 5)),o 16 (.bin .add (.t 15) (z 1)),o 5 (.mv (.t 16))] [15,16])))))) (.seq (.reg [o 4 (.mv (.c .tt))] []) .ret))))
theorem qjo : FnIs Tryd.prog 51 26 [.t 4] qoe :=
  ⟨Tryd.f51, _, qje, Tryd.func51, rfl, rfl, by kernel_rfl, by kernel_rfl, Tryd.call51⟩
def qsu : Nat → List Nat := kk [[0,4],[1,6,7,8,9,10,11,12],[2,5,13,14,15,16,17,18,19,20,21]]
def qnk : List (Nat × List Nat) := [(0,[]),(1,[]),(2,[]),(4,[]),(5,[]),(3,[5]),(6,[]),(7,[]),(8,[]),(9,[])]
def qzaac : IR :=
 (.seq (.reg [o 2 (.box (.t 0)),o 4 (.mv (.c (.re (.slice none 0 0))))] [0,4]) (.seq (.reg [o 8 (.mv (.t 1)),o 9 (f 70 [(.t 8)]),o 10 (f 69 [(z 0),(.t 9)]),o 7 (.mv (.t 10)),o 11 (.ext (.t 7) 0),o 12 (.ext (.t 7) 1),o 5 (.mv (.t 11)),o 6 (.mv (.t 12))] [1,6,7,8,9,10,11,12]) (.seq (.draw [o 13 (.mv (.t 5)),o 14 (.fad 0 (.t 2)),o 15 (.load false 1 (.t 14)),o 16 (f 72 [(.t 15)]),o 17 (.fad 1 (.t 2)),o 18 (.load false 1 (.t 17)),o 19 (f 72 [(.t 18)]),o 20 (.buildS 1 3 [(.re (.slice none 0 0))] [(0,(.t 13)),(1,(.t 16)),(2,(.t 19))]),o 21 (f 71 [(.t 20)]),o 4 (.mv (.t 21))] [[],[],[1],[2],[],[4],[5,3],[0,3,6],[7,6],[8,8,0,1,2,3,4,5,6,7,8]] [2,5,13,14,15,16,17,18,19,20,21]) .ret)))
theorem qtj : FnIs Tryd.prog 52 22 [.t 4] qzaac :=
  ⟨Tryd.f52, _, qsu, Tryd.func52, rfl, rfl, by kernel_rfl, by kernel_rfl, Tryd.call52⟩
def qpb : Nat → List Nat := kk [[2,3],[0,4,5,6,7,8]]
def qug : IR :=
 (.seq (.reg [o 2 (.mv (.c (.re (.slice none 0 0)))),o 3 (.mv (z 0))] [2,3]) (.seq (.reg [o 4 (.mv (.t 0)),o 5 (.build [(.i .i64 (.l 0)),(.i .i64 (.l 0))] [(0,1,(z 128)),(1,1,(z 7))]),o 6 (f 69 [(.t 4),(.t 5)]),o 7 (.ext (.t 6) 0),o 8 (.ext (.t 6) 1),o 2 (.mv (.t 7)),o 3 (.mv (.t 8))] [0,4,5,6,7,8]) .ret))
theorem qpi : FnIs Tryd.prog 53 9 [.t 2, .t 3] qug :=
  ⟨Tryd.f53, _, qpb, Tryd.func53, rfl, rfl, by kernel_rfl, by kernel_rfl, Tryd.call53⟩
def qst : Nat → List Nat := kk [[6,7],[2,10,11,12,13,14,15,16],[0,9,17,18,19,20,21],[],[1,8,23,24,25,26]]
def qzaab : IR :=
 (.seq (.reg [o 6 (.mv (.c (.re (.slice none 0 0)))),o 7 (.mv (z 0))] [6,7]) (.seq (.reg [o 11 (.mv (.t 0)),o 12 (.mv (.t 2)),o 13 (f 70 [(.t 12)]),o 14 (f 69 [(.t 11),(.t 13)]),o 10 (.mv (.t 14)),o 15 (.ext (.t 10) 0),o 16 (.ext (.t 10) 1),o 8 (.mv (.t 15)),o 9 (.mv (.t 16))] [2,10,11,12,13,14,15,16]) (.seq (.seq (.reg [o 17 (.mv (.t 9)),o 18 (.bin .ne (.t 17) (z 0)),o 19 (.mv (.t 18)),q 20 (.mv (.t 0)) 19 false,q 21 (.bin .eq (.t 20) (z 0)) 19 false,o 22 (.pick (.t 19) (.c .tt) (.t 21))] [0,9,17,18,19,20,21]) (.cond (.t 22) (.seq (.reg [o 6 (.mv (.c (.re (.slice none 0 0)))),o 7 (.mv (z 2))] []) .ret) .skip)) (.seq (.reg [o 23 (.mv (.t 8)),o 24 (.mv (.t 1)),o 25 (f 72 [(.t 24)]),o 26 (.app 1 (.t 23) (.t 25)),o 6 (.mv (.t 26)),o 7 (.mv (z 0))] [1,8,23,24,25,26]) .ret))))
theorem qti : FnIs Tryd.prog 54 27 [.t 6, .t 7] qzaab :=
  ⟨Tryd.f54, _, qst, Tryd.func54, rfl, rfl, by kernel_rfl, by kernel_rfl, Tryd.call54⟩
def qss : Nat → List Nat := kk [[2,3],[0,4,5,6,7,8]]
def qzaaa : IR :=
 (.seq (.reg [o 2 (.mv (.c (.re (.slice none 0 0)))),o 3 (.mv (z 0))] [2,3]) (.seq (.reg [o 4 (.mv (.t 0)),o 5 (.build [(.i .i64 (.l 0)),(.i .i64 (.l 0))] [(0,1,(z 32)),(1,1,(z 5))]),o 6 (f 69 [(.t 4),(.t 5)]),o 7 (.ext (.t 6) 0),o 8 (.ext (.t 6) 1),o 2 (.mv (.t 7)),o 3 (.mv (.t 8))] [0,4,5,6,7,8]) .ret))
theorem qjk : FnIs Tryd.prog 55 9 [.t 2, .t 3] qzaaa :=
  ⟨Tryd.f55, _, qss, Tryd.func55, rfl, rfl, by kernel_rfl, by kernel_rfl, Tryd.call55⟩
def quv : Nat → List Nat := kk [[4,5,6,7],[8,9,10,11,12,13],[14,15,16,17,18],[20,21,22,23,24,25,26,27,28,29],[3,30,31,32,33,34,35,36,37,38]]
def qzacy : IR :=
 (.scope (.seq (.reg [o 4 (.mv (.t 0)),o 5 (.nilc (.t 4)),o 6 (.load true 2 (.t 5)),o 7 (f 24 [(.t 6)]),o 2 (.mv (.t 7))] [4,5,6,7]) (.seq (.label 0) (.seq (.reg [o 8 (.mv (.t 0)),o 9 (.nilc (.t 8)),o 10 (.fad 1 (.t 9)),o 11 (.load false 1 (.t 10)),o 12 (.len false (.t 11)),o 13 (.bin .sub (.t 12) (z 1)),o 3 (.mv (.t 13))] [8,9,10,11,12,13]) (.seq (.reg [o 14 (.mv (.t 2)),o 15 (.mv (.t 0)),o 16 (.nilc (.t 15)),o 17 (.fad 0 (.t 16)),o 18 (.load false 1 (.t 17)),o 19 (.bin .gt (.t 14) (.t 18))] [14,15,16,17,18]) (.cond (.t 19) (.seq (.reg [o 20 (.mv (.t 2)),o 21 (.mv (.t 0)),o 22 (.nilc (.t 21)),o 23 (.fad 1 (.t 22)),o 24 (.load false 1 (.t 23)),o 25 (.mv (.t 3)),o 26 (.iadS 2 (.t 24) (.t 25)),o 27 (.load true 2 (.t 26)),o 28 (f 22 [(.t 27)]),o 29 (.bin .sub (.t 20) (.t 28)),o 2 (.mv (.t 29))] [20,21,22,23,24,25,26,27,28,29]) (.seq (.reg [o 30 (.mv (.t 0)),o 31 (.mv (.t 0)),o 32 (.nilc (.t 31)),o 33 (.fad 1 (.t 32)),o 34 (.load false 1 (.t 33)),o 35 (.mv (.t 3)),o 36 (.slc 2 (.t 34) none (some (.t 35)) none),o 37 (.nilc (.t 30)),o 38 (.fad 1 (.t 37)),u (.store 1 (.t 38) (.t 36))] [3,30,31,32,33,34,35,36,37,38]) (.goto 0))) .skip))))))
theorem qvg : FnIs Tryd.prog 56 39 [] qzacy :=
  ⟨Tryd.f56, _, quv, Tryd.func56, rfl, rfl, by kernel_rfl, by kernel_rfl, Tryd.call56⟩
def qin : Nat → List Nat := kk [[0],[3,4,5,6,7],[8,9,10,11],[13,14,15,16,17,18,19,20],[1,21]]
def qfy : List Nat := [0,3,4,5,6,7,8,9,10,11,12,13,14,15,16,17,18,19,20,21]
def qgj : List (Nat × List Nat) := [(0,[]),(2,[]),(3,[]),(1,[3]),(4,[])]
def qmw : IR :=
 (.seq (.reg [o 1 (.box (.t 0)),o 2 (.alloc [(.i .i64 (.l 0)),(.re (.slice none 0 0))])] [0]) (.seq (.reg [o 3 (.buildS 2 0 [(.s []),(.s [])] []),o 4 (.fad 1 (.t 1)),o 5 (.load false 1 (.t 4)),o 6 (.app 2 (.t 3) (.t 5)),o 7 (.fad 1 (.t 1)),u (.store 1 (.t 7) (.t 6))] [3,4,5,6,7]) (.seq (.block 0 (.loop (.seq (.seq (.draw [o 8 (.load true 2 (.t 1)),o 9 (f 25 [(.t 8)]),o 10 (.fad 0 (.t 1)),o 11 (.load false 1 (.t 10)),o 12 (.bin .gt (.t 9) (.t 11))] [[],[0],[],[2],[1,3]] [8,9,10,11]) (.cond (.t 12) .skip (.exit 0))) (.block 1 (.reg [o 13 (.fad 1 (.t 1)),o 14 (.load false 1 (.t 13)),o 15 (.fad 1 (.t 1)),o 16 (.load false 1 (.t 15)),o 17 (.len false (.t 16)),o 18 (.bin .sub (.t 17) (z 1)),o 19 (.slc 2 (.t 14) none (some (.t 18)) none),o 20 (.fad 1 (.t 1)),u (.store 1 (.t 20) (.t 19))] [13,14,15,16,17,18,19,20]))))) (.seq (.reg [o 21 (.load true 2 (.t 1)),u (.store 2 (.t 2) (.t 21))] [1,21]) .ret))))
theorem qio : FnIs Tryd.prog 57 22 [.c 2 true 2] qmw :=
  ⟨Tryd.f57, _, qin, Tryd.func57, rfl, rfl, by kernel_rfl, by kernel_rfl, Tryd.call57⟩
def qft : Nat → List Nat := kk [[2],[3],[],[0,5,6,7]]
def qhp : IR :=
 (.seq (.reg [o 2 (.mv (.c (.re (.slice none 0 0))))] [2]) (.seq (.seq (.reg [o 3 (.mv (.t 0)),o 4 (.nilS false (.t 3))] [3]) (.cond (.t 4) (.seq (.reg [o 2 (.mv (.c (.re (.slice none 0 0))))] []) .ret) .skip)) (.seq (.reg [o 5 (.buildS 2 0 [(.s []),(.s [])] []),o 6 (.mv (.t 0)),o 7 (.app 2 (.t 5) (.t 6)),o 2 (.mv (.t 7))] [0,5,6,7]) .ret)))
theorem qfx : FnIs Tryd.prog 58 8 [.t 2] qhp :=
  ⟨Tryd.f58, _, qft, Tryd.func58, rfl, rfl, by kernel_rfl, by kernel_rfl, Tryd.call58⟩
def qsx : Nat → List Nat := kk [[0,2],[1,3]]
def qzaak : IR :=
 (.seq (.reg [o 1 (.box (.t 0)),o 2 (.mv (.c (.re .nilFunc)))] [0,2]) (.seq (.reg [o 3 (.mkF (.func 73) [] [(.t 1)]),o 2 (.mv (.t 3))] [1,3]) .ret))
theorem qtm : FnIs Tryd.prog 59 4 [.t 2] qzaak :=
  ⟨Tryd.f59, _, qsx, Tryd.func59, rfl, rfl, by kernel_rfl, by kernel_rfl, Tryd.call59⟩
def qfs : Nat → List Nat := kk [[4],[6,7,8,9],[],[11],[],[15],[5,16,17,18,19,20,21,22,23],[],[25]]
def qet : List Nat := [2,3,4,5,6,7,8,9,10,11,14,15,16,17,18,19,20,21,22,23,24,25]
def qex : List (Nat × List Nat) := [(0,[]),(1,[]),(2,[]),(3,[]),(4,[]),(5,[]),(6,[]),(7,[]),(8,[])]
def qho : IR :=
 (.seq (.reg [o 4 (.mv (.c .ff))] [4]) (.seq (.seq (.reg [o 6 (.mv (.t 0)),o 7 (.len false (.t 6)),o 8 (.mv (.t 1)),o 9 (.len false (.t 8)),o 10 (.bin .ne (.t 7) (.t 9))] [6,7,8,9]) (.cond (.t 10) (.seq (.reg [o 4 (.mv (.c .ff))] []) .ret) .skip)) (.seq (.seq (.reg [o 11 (.mv (.t 0)),o 12 (.len false (.t 11)),o 13 (.mv (z 0))] [11]) (.block 0 (.loop (.seq (.reg [o 14 (.bin .lt (.t 13) (.t 12))] []) (.seq (.cond (.t 14) .skip (.exit 0)) (.seq (.block 1 (.seq (.reg [o 15 (.mv (.t 13)),o 5 (.mv (.t 15))] [15]) (.seq (.draw [o 16 (.mv (.t 0)),o 17 (.mv (.t 5)),o 18 (.iadS 2 (.t 16) (.t 17)),o 19 (.load true 2 (.t 18)),o 20 (.mv (.t 1)),o 21 (.mv (.t 5)),o 22 (.iadS 2 (.t 20) (.t 21)),o 23 (.load true 2 (.t 22)),o 24 (.eqA ⟨true,[.ks,.ks]⟩ true (.t 19) (.t 23))] [[],[],[0,1],[2],[],[],[4,5],[6],[3,7]] [5,16,17,18,19,20,21,22,23]) (.cond (.t 24) (.seq (.reg [o 4 (.mv (.c .ff))] []) .ret) .skip)))) (.reg [o 25 (.bin .add (.t 13) (z 1)),o 13 (.mv (.t 25))] [25]))))))) (.seq (.reg [o 4 (.mv (.c .tt))] []) .ret))))
theorem qfw : FnIs Tryd.prog 60 26 [.t 4] qho :=
  ⟨Tryd.f60, _, qfs, Tryd.func60, rfl, rfl, by kernel_rfl, by kernel_rfl, Tryd.call60⟩
def qmg : Nat → List Nat := kk [[4],[0,1,5,6,7,8,9]]
def qqz : IR :=
 (.seq (.reg [o 4 (.mv (.c .ff))] [4]) (.seq (.reg [o 5 (.mv (.t 0)),o 6 (.cvBS (.t 5)),o 7 (.mv (.t 1)),o 8 (.cvBS (.t 7)),o 9 (.bin .eq (.t 6) (.t 8)),o 4 (.mv (.t 9))] [0,1,5,6,7,8,9]) .ret))
theorem qms : FnIs Tryd.prog 65 10 [.t 4] qqz :=
  ⟨Tryd.f65, _, qmg, Tryd.func65, rfl, rfl, by kernel_rfl, by kernel_rfl, Tryd.call65⟩
def qur : Nat → List Nat := kk [[],[0],[],[9,10],[4,11,12,13,14],[15],[16]]
def qoa : List Nat := [0,1,3,4,8,9,10,11,12,13,14,15,16]
def qzacr : IR :=
 (.seq (.reg [o 2 (.mv (z 0))] []) (.seq (.seq (.reg [o 5 (.mv (.t 0)),o 6 (.len false (.t 5)),o 7 (.mv (z 0))] [0]) (.block 0 (.loop (.seq (.reg [o 8 (.bin .lt (.t 7) (.t 6))] []) (.seq (.cond (.t 8) .skip (.exit 0)) (.seq (.block 1 (.seq (.reg [o 9 (.iadS 2 (.t 5) (.t 7)),o 10 (.load true 2 (.t 9)),o 4 (.alloc [(.s []),(.s [])]),u (.store 2 (.t 4) (.t 10))] [9,10]) (.reg [o 11 (.mv (.t 2)),o 12 (.load true 2 (.t 4)),o 13 (f 22 [(.t 12)]),o 14 (.bin .add (.t 11) (.t 13)),o 2 (.mv (.t 14))] [4,11,12,13,14]))) (.reg [o 15 (.bin .add (.t 7) (z 1)),o 7 (.mv (.t 15))] [15]))))))) (.seq (.reg [o 16 (.mv (.t 2)),o 2 (.mv (.t 16))] [16]) .ret)))
theorem qvd : FnIs Tryd.prog 66 17 [.t 2] qzacr :=
  ⟨Tryd.f66, _, qur, Tryd.func66, rfl, rfl, by kernel_rfl, by kernel_rfl, Tryd.call66⟩
def qus : Nat → List Nat := kk [[0,1,4],[2,3,5,6,7,8,9,10,11,12,13,14,15,16,17,18,19,20,21,22,23]]
def qzacs : IR :=
 (.seq (.reg [o 2 (.box (.t 0)),o 3 (.box (.t 1)),o 4 (.mv (.c .ff))] [0,1,4]) (.seq (.reg [o 5 (.fad 1 (.t 2)),o 6 (.load false 1 (.t 5)),o 7 (.fad 1 (.t 3)),o 8 (.load false 1 (.t 7)),o 9 (.eqA ⟨false,[.kb]⟩ false (.t 6) (.t 8)),o 10 (.mv (.t 9)),q 11 (.fad 0 (.t 2)) 10 true,q 12 (.load false 1 (.t 11)) 10 true,q 13 (.fad 0 (.t 3)) 10 true,q 14 (.load false 1 (.t 13)) 10 true,q 15 (f 60 [(.t 12),(.t 14)]) 10 true,o 16 (.pick (.t 10) (.t 15) (.c .ff)),o 17 (.mv (.t 16)),q 18 (.fad 2 (.t 2)) 17 true,q 19 (.load true 2 (.t 18)) 17 true,q 20 (.fad 2 (.t 3)) 17 true,q 21 (.load true 2 (.t 20)) 17 true,q 22 (f 36 [(.t 19),(.t 21)]) 17 true,o 23 (.pick (.t 17) (.t 22) (.c .ff)),o 4 (.mv (.t 23))] [2,3,5,6,7,8,9,10,11,12,13,14,15,16,17,18,19,20,21,22,23]) .ret))
theorem qve : FnIs Tryd.prog 67 24 [.t 4] qzacs :=
  ⟨Tryd.f67, _, qus, Tryd.func67, rfl, rfl, by kernel_rfl, by kernel_rfl, Tryd.call67⟩
def qsr : Nat → List Nat := kk [[0,1,4],[2,3,5]]
def qzz : IR :=
 (.seq (.reg [o 2 (.box (.t 0)),o 3 (.box (.t 1)),o 4 (.mv (.c (.re .nilFunc)))] [0,1,4]) (.seq (.reg [o 5 (.mkF (.func 83) [] [(.t 3),(.t 2)]),o 4 (.mv (.t 5))] [2,3,5]) .ret))
theorem qth : FnIs Tryd.prog 68 6 [.t 4] qzz :=
  ⟨Tryd.f68, _, qsr, Tryd.func68, rfl, rfl, by kernel_rfl, by kernel_rfl, Tryd.call68⟩
def qye : Nat → List Nat := kk [[1,4,5],[0,3,6,7,8,9,10,11,12,13,14]]
def unpack_put : IR :=
 (.seq (.reg [o 3 (.box (.t 1)),o 4 (.mv (.c (.re (.slice none 0 0)))),o 5 (.mv (z 0))] [1,4,5]) (.seq (.reg [o 6 (.mv (.t 0)),o 7 (.iadA 2 1 (.t 3) (z 1)),o 8 (.load false 1 (.t 7)),o 9 (.iadA 2 1 (.t 3) (z 0)),o 10 (.load false 1 (.t 9)),o 11 (.cv .u8 (.t 10)),o 12 (f 85 [(.t 6),(.t 8),(.t 11)]),o 13 (.ext (.t 12) 0),o 14 (.ext (.t 12) 1),o 4 (.mv (.t 13)),o 5 (.mv (.t 14))] [0,3,6,7,8,9,10,11,12,13,14]) .ret))
theorem qed : FnIs Tryd.prog 69 15 [.t 4, .t 5] unpack_put :=
  ⟨Tryd.f69, _, qye, Tryd.func69, rfl, rfl, by kernel_rfl, by kernel_rfl, Tryd.call69⟩
def qzabh : Nat → List Nat := kk [[],[0,5,6,7,8,9,10,11],[4],[3,13],[14]]
def unpack_of : IR :=
 (.seq (.reg [o 2 (.alloc [(.i .i64 (.l 0)),(.i .i64 (.l 0))])] []) (.seq (.seq (.reg [o 6 (f 86 []),o 7 (.mv (.t 0)),o 8 (.build [(.i .i64 (.l 0))] [(0,1,(.t 7))]),o 9 (.look ⟨true,[.ki]⟩ (.ag [(.i .i64 (.l 0)),(.i .i64 (.l 0))]) true (.t 6) (.t 8)),o 5 (.mv (.t 9)),o 10 (.ext (.t 5) 0),o 11 (.ext (.t 5) 1),o 3 (.alloc [(.i .i64 (.l 0)),(.i .i64 (.l 0))]),u (.store 2 (.t 3) (.t 10)),o 4 (.mv (.t 11))] [0,5,6,7,8,9,10,11]) (.seq (.reg [o 12 (.mv (.t 4))] [4]) (.cond (.t 12) (.seq (.reg [o 13 (.load true 2 (.t 3)),u (.store 2 (.t 2) (.t 13))] [3,13]) .ret) .skip))) (.seq (.reg [o 14 (.build [(.i .i64 (.l 0)),(.i .i64 (.l 0))] [(0,1,(z 0)),(1,1,(z 4))]),u (.store 2 (.t 2) (.t 14))] [14]) .ret)))
theorem qzabz : FnIs Tryd.prog 70 15 [.c 2 true 2] unpack_of :=
  ⟨Tryd.f70, _, qzabh, Tryd.func70, rfl, rfl, by kernel_rfl, by kernel_rfl, Tryd.call70⟩
def qey : Nat → List Nat := kk [[2],[],[],[],[13,14],[5,15,16,17,18],[19],[21],[22],[3,23,24],[0],[],[29,30],[8,31,32,33],[34],[6,35]]
def qfr : IR :=
 (.seq (.reg [o 2 (.mv (.c (.re (.slice none 0 0))))] [2]) (.seq (.reg [o 3 (.mv (z 0))] []) (.seq (.seq (.reg [o 9 (.mv (.t 0)),o 10 (.len false (.t 9)),o 11 (.mv (z 0))] []) (.block 0 (.loop (.seq (.reg [o 12 (.bin .lt (.t 11) (.t 10))] []) (.seq (.cond (.t 12) .skip (.exit 0)) (.seq (.block 1 (.seq (.reg [o 13 (.iadS 1 (.t 9) (.t 11)),o 14 (.load false 1 (.t 13)),o 5 (.mv (.t 14))] [13,14]) (.seq (.reg [o 15 (.mv (.t 3)),o 16 (.mv (.t 5)),o 17 (.len false (.t 16)),o 18 (.bin .add (.t 15) (.t 17)),o 3 (.mv (.t 18))] [5,15,16,17,18]) (.seq (.reg [o 19 (.mv (.t 3)),o 20 (.bin .lt (.t 19) (z 0))] [19]) (.cond (.t 20) (.reg [o 21 .die,u .die] [21]) .skip))))) (.reg [o 22 (.bin .add (.t 11) (z 1)),o 11 (.mv (.t 22))] [22]))))))) (.seq (.reg [o 23 (.mv (.t 3)),o 24 (f 87 [(.c (.re (.slice none 0 0))),(.t 23)]),o 6 (.mv (.t 24))] [3,23,24]) (.seq (.seq (.reg [o 25 (.mv (.t 0)),o 26 (.len false (.t 25)),o 27 (.mv (z 0))] [0]) (.block 2 (.loop (.seq (.reg [o 28 (.bin .lt (.t 27) (.t 26))] []) (.seq (.cond (.t 28) .skip (.exit 2)) (.seq (.block 3 (.seq (.reg [o 29 (.iadS 1 (.t 25) (.t 27)),o 30 (.load false 1 (.t 29)),o 8 (.mv (.t 30))] [29,30]) (.reg [o 31 (.mv (.t 6)),o 32 (.mv (.t 8)),o 33 (.app 1 (.t 31) (.t 32)),o 6 (.mv (.t 33))] [8,31,32,33]))) (.reg [o 34 (.bin .add (.t 27) (z 1)),o 27 (.mv (.t 34))] [34]))))))) (.seq (.reg [o 35 (.mv (.t 6)),o 2 (.mv (.t 35))] [6,35]) .ret))))))
theorem qez : FnIs Tryd.prog 71 36 [.t 2] qfr :=
  ⟨Tryd.f71, _, qey, Tryd.func71, rfl, rfl, by kernel_rfl, by kernel_rfl, Tryd.call71⟩
def qzabk : Nat → List Nat := kk [[2],[4],[5,6],[8],[0,3,9,10,11]]
def text_Best : IR :=
 (.seq (.reg [o 2 (.mv (.c (.re (.slice none 0 0))))] [2]) (.seq (.reg [o 4 (f 88 []),o 3 (.mv (.t 4))] [4]) (.seq (.seq (.reg [o 5 (.mv (.t 0)),o 6 (.cvSB (.t 5)),o 7 (f 89 [(.t 6)])] [5,6]) (.cond (.t 7) (.reg [o 8 (f 90 []),o 3 (.mv (.t 8))] [8]) .skip)) (.seq (.reg [o 9 (.mv (.t 0)),o 10 (.mv (.t 3)),o 11 (f 91 [(.t 9),(.t 10)]),o 2 (.mv (.t 11))] [0,3,9,10,11]) .ret))))
theorem qzacb : FnIs Tryd.prog 72 12 [.t 2] text_Best :=
  ⟨Tryd.f72, _, qzabk, Tryd.func72, rfl, rfl, by kernel_rfl, by kernel_rfl, Tryd.call72⟩
def qpc : Nat → List Nat := kk [[0],[],[],[11],[12,13],[4,7,14,15,16,17,18,19],[2,3,5,6,20,21,22,23,24,25],[1],[],[31,32],[33,34],[9,35,36,37,38],[40]]
def qjv : List Nat := [0,1,4,5,6,7,8,9,10,11,12,13,14,15,16,17,18,19,20,21,22,23,24,25,26,30,31,32,33,34,35,36,37,38,39,40]
def quh : IR :=
 (.seq (.reg [o 2 (.box (.t 0))] [0]) (.seq (.reg [o 3 (.alloc [(.i .i64 (.l 0))]),u (.store 1 (.t 3) (z 0))] []) (.seq (.seq (.reg [o 10 (f 74 [(.c (.s [58,109,101,116,104,111,100,32,71,69,84,10,58,109,101,116,104,111,100,32,80,79,83,84,10,58,112,97,116,104,32,47,10,58,115,99,104,101,109,101,32,104,116,116,112,10,58,115,99,104,101,109,101,32,104,116,116,112,115,10,58,115,116,97,116,117,115,32,50,48,48,10,58,115,116,97,116,117,115,32,50,48,52,10,58,115,116,97,116,117,115,32,52,48,52,10,58,115,116,97,116,117,115,32,53,48,48,10,97,99,99,101,112,116,10,99,111,110,116,101,110,116,45,108,101,110,103,116,104,10,99,111,110,116,101,110,116,45,116,121,112,101,10,99,111,111,107,105,101,10,100,97,116,101,10,104,111,115,116,10,108,111,99,97,116,105,111,110,10,112,114,105,111,114,105,116,121,10,112,114,105,111,114,105,116,121,32,117,61,49,10,115,101,114,118,101,114,10,117,115,101,114,45,97,103,101,110,116])),(.c (.s [10]))])] []) (.block 0 (.rf (.t 10) [11] (.reg [o 4 (.mv (.t 11))] [11]) (.block 1 (.seq (.reg [o 12 (.load false 1 (.t 3)),o 13 (.bin .add (.t 12) (z 1)),u (.store 1 (.t 3) (.t 13))] [12,13]) (.seq (.reg [o 15 (.mv (.t 4)),o 16 (f 75 [(.t 15),(.c (.s [32]))]),o 14 (.mv (.t 16)),o 17 (.ext (.t 14) 0),o 18 (.ext (.t 14) 1),o 19 (.ext (.t 14) 2),o 5 (.mv (.t 17)),o 6 (.mv (.t 18)),o 7 (.mv (.t 19))] [4,7,14,15,16,17,18,19]) (.seq (.reg [o 20 (.load false 1 (.t 2)),o 21 (.load false 1 (.t 3)),o 22 (.mv (.t 5)),o 23 (.mv (.t 6)),o 24 (.build [(.s []),(.s [])] [(0,1,(.t 22)),(1,1,(.t 23))]),o 25 (.call (.t 20) [(.t 21),(.t 24)]),o 26 (.not (.t 25))] [2,3,5,6,20,21,22,23,24,25]) (.cond (.t 26) .ret .skip)))))))) (.seq (.reg [o 27 (.load false 1 (.t 1)),o 28 (.len false (.t 27)),o 29 (.mv (z 0))] [1]) (.block 2 (.loop (.seq (.reg [o 30 (.bin .lt (.t 29) (.t 28))] []) (.seq (.cond (.t 30) .skip (.exit 2)) (.seq (.block 3 (.seq (.reg [o 31 (.iadS 2 (.t 27) (.t 29)),o 32 (.load true 2 (.t 31)),o 9 (.alloc [(.s []),(.s [])]),u (.store 2 (.t 9) (.t 32))] [31,32]) (.seq (.reg [o 33 (.load false 1 (.t 3)),o 34 (.bin .add (.t 33) (z 1)),u (.store 1 (.t 3) (.t 34))] [33,34]) (.seq (.reg [o 35 (.load false 1 (.t 2)),o 36 (.load false 1 (.t 3)),o 37 (.load true 2 (.t 9)),o 38 (.call (.t 35) [(.t 36),(.t 37)]),o 39 (.not (.t 38))] [9,35,36,37,38]) (.cond (.t 39) .ret .skip))))) (.reg [o 40 (.bin .add (.t 29) (z 1)),o 29 (.mv (.t 40))] [40]))))))))))
theorem qpj : FnIs Tryd.prog 73 41 [] quh :=
  ⟨Tryd.f73, _, qpc, Tryd.func73, rfl, rfl, by kernel_rfl, by kernel_rfl, Tryd.call73⟩
def qlw : Nat → List Nat := kk [[4],[0,1,5,6,7]]
def qqj : IR :=
 (.seq (.reg [o 4 (.mv (.c (.re .nilFunc)))] [4]) (.seq (.reg [o 5 (.mv (.t 0)),o 6 (.mv (.t 1)),o 7 (f 92 [(.t 5),(.t 6),(z 0)]),o 4 (.mv (.t 7))] [0,1,5,6,7]) .ret))
theorem qmi : FnIs Tryd.prog 74 8 [.t 4] qqj :=
  ⟨Tryd.f74, _, qlw, Tryd.func74, rfl, rfl, by kernel_rfl, by kernel_rfl, Tryd.call74⟩
def qux : Nat → List Nat := kk [[4,5,6],[0,1,7,8,9,10,11,12]]
def qzada : IR :=
 (.seq (.reg [o 4 (.mv (.c (.s []))),o 5 (.mv (.c (.s []))),o 6 (.mv (.c .ff))] [4,5,6]) (.seq (.reg [o 7 (.mv (.t 0)),o 8 (.mv (.t 1)),o 9 (f 93 [(.t 7),(.t 8)]),o 10 (.ext (.t 9) 0),o 11 (.ext (.t 9) 1),o 12 (.ext (.t 9) 2),o 4 (.mv (.t 10)),o 5 (.mv (.t 11)),o 6 (.mv (.t 12))] [0,1,7,8,9,10,11,12]) .ret))
theorem qvi : FnIs Tryd.prog 75 13 [.t 4, .t 5, .t 6] qzada :=
  ⟨Tryd.f75, _, qux, Tryd.func75, rfl, rfl, by kernel_rfl, by kernel_rfl, Tryd.call75⟩
def qpa : Nat → List Nat := kk [[6,7],[9,10,11,12,13,14,15,16],[5,17,18,19,20,21,22,23,24],[4,26,27]]
def qju : List Nat := [3,4,5,6,7,8,9,10,11,12,13,14,15,16,17,18,19,20,21,22,23,24,25,26,27]
def qbg : Spl := (.node 4 8
  (.leaf [(0,[]),(1,[]),(2,[]),(3,[]),(4,[]),(5,[]),(6,[]),(7,[]),(8,[]),(9,[]),(10,[])])
  (.leaf [(0,[]),(1,[]),(2,[]),(3,[]),(8,[0,2,3]),(4,[]),(5,[]),(6,[]),(7,[]),(9,[]),(10,[])]))
def quf : IR :=
 (.block 0 (.loop (.seq (.seq (.reg [o 6 (.load false 1 (.t 1)),o 7 (.len false (.t 6)),o 8 (.bin .gt (.t 7) (z 0))] [6,7]) (.cond (.t 8) .skip (.exit 0))) (.block 1 (.seq (.draw [o 10 (.load false 1 (.t 2)),o 11 (.nilc (.t 10)),o 12 (.load true 2 (.t 11)),o 13 (.load false 1 (.t 1)),o 14 (f 84 [(.t 12),(.t 13)]),o 9 (.mv (.t 14)),o 15 (.ext (.t 9) 0),o 16 (.ext (.t 9) 1),o 4 (.alloc [(.s []),(.s []),.ff,.ff,(.i .i64 (.l 0)),(.re (.slice none 0 0))]),u (.store 6 (.t 4) (.t 15)),o 5 (.mv (.t 16))] [[],[0],[1],[],[2,3],[4],[5],[5],[],[8,6,4,0,1,2,3,4,5,6,8],[7,9,0,1,2,3,4,5,6,7,8,9]] [9,10,11,12,13,14,15,16]) (.seq (.seq (.reg [o 17 (.mv (.t 0)),o 18 (.load true 6 (.t 4)),o 19 (.mv (.t 5)),o 20 (.call (.t 17) [(.t 18),(.t 19)]),o 21 (.not (.t 20)),o 22 (.mv (.t 21)),q 23 (.mv (.t 5)) 22 false,q 24 (.bin .ne (.t 23) (z 0)) 22 false,o 25 (.pick (.t 22) (.c .tt) (.t 24))] [5,17,18,19,20,21,22,23,24]) (.cond (.t 25) .ret .skip)) (.reg [o 26 (.fad 5 (.t 4)),o 27 (.load false 1 (.t 26)),u (.store 1 (.t 1) (.t 27))] [4,26,27])))))))
theorem qph : FnIs Tryd.prog 83 28 [] quf :=
  ⟨Tryd.f83, _, qpa, Tryd.func83, rfl, rfl, by kernel_rfl, by kernel_rfl, Tryd.call83⟩
def quq : Nat → List Nat := kk [[0,5],[],[],[],[15,16,17],[7,18,19,20,21,22,23,24],[8,26],[27],[1,28,29,30,31,32,33,34],[35],[37,38],[],[6,40,41,42],[2,9,10,43,44,45,46,47,48,49,50,51,52],[54],[10,55,56],[2,9,57,58,59,60,61,62,63],[39,65],[9,10,66,67,68,69,70],[71,72]]
def qzacq : IR :=
 (.seq (.reg [o 2 (.box (.t 0)),o 4 (.alloc [(.s []),(.s []),.ff,.ff,(.i .i64 (.l 0)),(.re (.slice none 0 0))]),o 5 (.mv (z 0))] [0,5]) (.seq (.reg [o 6 (.mv (z 4))] []) (.seq (.seq (.reg [o 11 (.buildS 1 3 [(.i .i64 (.l 0))] [(0,(z 7)),(1,(z 6)),(2,(z 5))]),o 12 (.len false (.t 11)),o 13 (.mv (z 0))] []) (.block 0 (.loop (.seq (.reg [o 14 (.bin .lt (.t 13) (.t 12))] []) (.seq (.cond (.t 14) .skip (.exit 0)) (.seq (.block 1 (.seq (.reg [o 15 (.mv (.t 13)),o 16 (.iadS 1 (.t 11) (.t 13)),o 17 (.load false 1 (.t 16)),o 7 (.mv (.t 15)),o 8 (.mv (.t 17))] [15,16,17]) (.seq (.reg [o 18 (.mv (.t 1)),o 19 (.iadS 1 (.t 18) (z 0)),o 20 (.load false 1 (.t 19)),o 21 (.mv (.t 7)),o 22 (.bin .sub (z 7) (.t 21)),o 23 (.bin .shr (.t 20) (.t 22)),o 24 (.bin .and (.t 23) (.c (.i .u8 (.l 1)))),o 25 (.bin .eq (.t 24) (.c (.i .u8 (.l 1))))] [7,18,19,20,21,22,23,24]) (.cond (.t 25) (.seq (.reg [o 26 (.mv (.t 8)),o 6 (.mv (.t 26))] [8,26]) (.exit 0)) .skip)))) (.reg [o 27 (.bin .add (.t 13) (z 1)),o 13 (.mv (.t 27))] [27]))))))) (.seq (.reg [o 29 (.mv (.t 1)),o 30 (.mv (.t 6)),o 31 (f 96 [(.t 29),(.t 30)]),o 28 (.mv (.t 31)),o 32 (.ext (.t 28) 0),o 33 (.ext (.t 28) 1),o 34 (.ext (.t 28) 2),o 9 (.mv (.t 32)),o 10 (.mv (.t 33)),o 5 (.mv (.t 34))] [1,28,29,30,31,32,33,34]) (.seq (.seq (.reg [o 35 (.mv (.t 5)),o 36 (.bin .ne (.t 35) (z 0))] [35]) (.cond (.t 36) (.seq (.reg [o 37 (.load true 6 (.t 4)),o 38 (.mv (.t 5)),u (.store 6 (.t 4) (.t 37)),o 5 (.mv (.t 38))] [37,38]) .ret) .skip)) (.seq (.seq (.reg [o 39 (.mv (.t 6))] []) (.block 2 (.seq (.reg [o 54 (.bin .eq (.t 39) (z 7)),o 53 (.mv (.t 54))] [54]) (.cond (.t 53) (.seq (.reg [o 55 (.mv (.t 10)),o 56 (.fad 5 (.t 4)),u (.store 1 (.t 56) (.t 55))] [10,55,56]) (.reg [o 58 (.load true 2 (.t 2)),o 59 (.mv (.t 9)),o 60 (f 32 [(.t 58),(.t 59)]),o 57 (.mv (.t 60)),o 61 (.ext (.t 57) 0),o 62 (.ext (.t 57) 1),o 63 (.fad 0 (.t 4)),u (.store 2 (.t 63) (.t 61)),o 5 (.mv (.t 62))] [2,9,57,58,59,60,61,62,63])) (.seq (.reg [o 65 (.bin .eq (.t 39) (z 5)),o 64 (.mv (.t 65))] [39,65]) (.cond (.t 64) (.reg [o 66 (.mv (.t 9)),o 67 (.mv (.t 10)),o 68 (.fad 2 (.t 4)),u (.store 1 (.t 68) (.c .tt)),o 69 (.fad 4 (.t 4)),u (.store 1 (.t 69) (.t 66)),o 70 (.fad 5 (.t 4)),u (.store 1 (.t 70) (.t 67))] [9,10,66,67,68,69,70]) (.seq (.reg [o 40 (.mv (.t 6)),o 41 (.bin .eq (.t 40) (z 6)),o 42 (.fad 3 (.t 4)),u (.store 1 (.t 42) (.t 41))] [6,40,41,42]) (.reg [o 44 (.load true 2 (.t 2)),o 45 (.mv (.t 9)),o 46 (.mv (.t 10)),o 47 (f 97 [(.t 44),(.t 45),(.t 46)]),o 43 (.mv (.t 47)),o 48 (.ext (.t 43) 0),o 49 (.ext (.t 43) 1),o 50 (.ext (.t 43) 2),o 51 (.fad 0 (.t 4)),u (.store 2 (.t 51) (.t 48)),o 52 (.fad 5 (.t 4)),u (.store 1 (.t 52) (.t 49)),o 5 (.mv (.t 50))] [2,9,10,43,44,45,46,47,48,49,50,51,52])))))))) (.seq (.reg [o 71 (.load true 6 (.t 4)),o 72 (.mv (.t 5)),u (.store 6 (.t 4) (.t 71)),o 5 (.mv (.t 72))] [71,72]) .ret)))))))
theorem qvc : FnIs Tryd.prog 84 73 [.c 4 true 6, .t 5] qzacq :=
  ⟨Tryd.f84, _, quq, Tryd.func84, rfl, rfl, by kernel_rfl, by kernel_rfl, Tryd.call84⟩
def qyj : Nat → List Nat := kk [[],[11,12,13,14,15,16,17,18,19,20,21],[],[1,23,24,25],[2,26,27,28,29],[30,31],[0,9,33,34,35,36,37],[9,38,39,40,41,42,43,44],[0,8,45,46,47,48],[50],[6,10,51,52,53,54],[55]]
def prefix_Put : IR :=
 (.seq (.reg [o 6 (.alloc [(.re (.slice none 0 0))]),o 7 (.mv (z 0))] []) (.seq (.seq (.reg [o 11 (.mv (.t 1)),o 12 (f 98 [(.t 11)]),o 13 (.not (.t 12)),o 14 (.mv (.t 13)),q 15 (.mv (.t 0)) 14 false,q 16 (.bin .lt (.t 15) (z 0)) 14 false,o 17 (.pick (.t 14) (.c .tt) (.t 16)),o 18 (.mv (.t 17)),q 19 (.mv (.t 0)) 18 false,q 20 (.bin .shr (.t 19) (.c (.i .u64 (.l 31)))) 18 false,q 21 (.bin .ne (.t 20) (z 0)) 18 false,o 22 (.pick (.t 18) (.c .tt) (.t 21))] [11,12,13,14,15,16,17,18,19,20,21]) (.cond (.t 22) (.seq (.reg [u (.store 1 (.t 6) (.c (.re (.slice none 0 0)))),o 7 (.mv (z 2))] []) .ret) .skip)) (.seq (.reg [o 23 (.mv (.t 1)),o 24 (.bin .shl (z 1) (.t 23)),o 25 (.bin .sub (.t 24) (z 1)),o 8 (.mv (.t 25))] [1,23,24,25]) (.seq (.reg [o 26 (.mv (.t 2)),o 27 (.mv (.t 8)),o 28 (.cv .u8 (.t 27)),o 29 (.bin .andn (.t 26) (.t 28)),o 9 (.mv (.t 29))] [2,26,27,28,29]) (.seq (.seq (.reg [o 30 (.mv (.t 0)),o 31 (.mv (.t 8)),o 32 (.bin .lt (.t 30) (.t 31))] [30,31]) (.cond (.t 32) (.seq (.reg [o 33 (.mv (.t 9)),o 34 (.mv (.t 0)),o 35 (.cv .u8 (.t 34)),o 36 (.bin .or (.t 33) (.t 35)),o 37 (.buildS 1 1 [(.i .u8 (.l 0))] [(0,(.t 36))]),u (.store 1 (.t 6) (.t 37)),o 7 (.mv (z 0))] [0,9,33,34,35,36,37]) .ret) .skip)) (.seq (.reg [o 38 (.load false 1 (.t 6)),o 39 (.mv (.t 9)),o 40 (.mv (.t 8)),o 41 (.cv .u8 (.t 40)),o 42 (.bin .or (.t 39) (.t 41)),o 43 (.buildS 1 1 [(.i .u8 (.l 0))] [(0,(.t 42))]),o 44 (.app 1 (.t 38) (.t 43)),u (.store 1 (.t 6) (.t 44))] [9,38,39,40,41,42,43,44]) (.seq (.seq (.reg [o 45 (.mv (.t 0)),o 46 (.mv (.t 8)),o 47 (.bin .sub (.t 45) (.t 46)),o 48 (.cv .u32 (.t 47)),o 49 (f 99 [(.t 48)])] [0,8,45,46,47,48]) (.block 0 (.rf (.t 49) [50] (.reg [o 10 (.mv (.t 50))] [50]) (.block 1 (.reg [o 51 (.load false 1 (.t 6)),o 52 (.mv (.t 10)),o 53 (.buildS 1 1 [(.i .u8 (.l 0))] [(0,(.t 52))]),o 54 (.app 1 (.t 51) (.t 53)),u (.store 1 (.t 6) (.t 54))] [6,10,51,52,53,54]))))) (.seq (.reg [o 55 (.load false 1 (.t 6)),u (.store 1 (.t 6) (.t 55)),o 7 (.mv (z 0))] [55]) .ret))))))))
theorem qnu : FnIs Tryd.prog 85 56 [.c 6 false 1, .t 7] prefix_Put :=
  ⟨Tryd.f85, _, qyj, Tryd.func85, rfl, rfl, by kernel_rfl, by kernel_rfl, Tryd.call85⟩
def qup : Nat → List Nat := kk [[0],[1,2,3,4,5,6]]
def qoq : Spl := (.node 3 6
  (.leaf [(1,[]),(2,[]),(4,[]),(5,[]),(0,[]),(3,[]),(6,[]),(7,[]),(8,[])])
  (.leaf [(1,[]),(2,[]),(4,[]),(5,[]),(0,[]),(6,[]),(3,[]),(7,[]),(8,[])]))
def qzacp : IR :=
 (.seq (.reg [o 0 (.mv (.c (.re (.map none))))] [0]) (.seq (.draw [o 1 .mkM,o 2 (.build [(.i .i64 (.l 0))] [(0,1,(z 1))]),o 3 (.build [(.i .i64 (.l 0)),(.i .i64 (.l 0))] [(0,1,(z 64)),(1,1,(z 6))]),u (.mupd ⟨true,[.ki]⟩ (.t 1) (.t 2) (.t 3)),o 4 (.build [(.i .i64 (.l 0))] [(0,1,(z 2))]),o 5 (.build [(.i .i64 (.l 0)),(.i .i64 (.l 0))] [(0,1,(z 16)),(1,1,(z 4))]),u (.mupd ⟨true,[.ki]⟩ (.t 1) (.t 4) (.t 5)),o 6 (.mv (.t 1)),o 0 (.mv (.t 6))] [[],[],[],[0,1,2],[],[],[0,4,5],[0,1,2,3,4,5,6],[7,0,1,2,3,4,5,6,7]] [1,2,3,4,5,6]) .ret))
theorem qvb : FnIs Tryd.prog 86 7 [.t 0] qzacp :=
  ⟨Tryd.f86, _, qup, Tryd.func86, rfl, rfl, by kernel_rfl, by kernel_rfl, Tryd.call86⟩
def qfm : Nat → List Nat := kk [[4],[5],[7],[8,9,10,11,12,13,14],[15],[1,17,18,19,20,21,22,23,24,25],[0,26]]
def qgu : IR :=
 (.seq (.reg [o 4 (.mv (.c (.re (.slice none 0 0))))] [4]) (.seq (.seq (.reg [o 5 (.mv (.t 1)),o 6 (.bin .lt (.t 5) (z 0))] [5]) (.cond (.t 6) (.reg [o 7 .die,u .die] [7]) .skip)) (.seq (.seq (.reg [o 8 (.mv (.t 1)),o 9 (.mv (.t 0)),o 10 (.capS (.t 9)),o 11 (.mv (.t 0)),o 12 (.len false (.t 11)),o 13 (.bin .sub (.t 10) (.t 12)),o 14 (.bin .sub (.t 8) (.t 13)),o 1 (.mv (.t 14))] [8,9,10,11,12,13,14]) (.seq (.reg [o 15 (.mv (.t 1)),o 16 (.bin .gt (.t 15) (z 0))] [15]) (.cond (.t 16) (.reg [o 17 (.mv (.t 0)),o 18 (.mv (.t 0)),o 19 (.capS (.t 18)),o 20 (.slc 1 (.t 17) none (some (.t 19)) none),o 21 (.mv (.t 1)),o 22 (.appZ 1 [(.i .u8 (.l 0))] (.t 20) (.t 21)),o 23 (.mv (.t 0)),o 24 (.len false (.t 23)),o 25 (.slc 1 (.t 22) none (some (.t 24)) none),o 0 (.mv (.t 25))] [1,17,18,19,20,21,22,23,24,25]) .skip))) (.seq (.reg [o 26 (.mv (.t 0)),o 4 (.mv (.t 26))] [0,26]) .ret))))
theorem qfn : FnIs Tryd.prog 87 27 [.t 4] qgu :=
  ⟨Tryd.f87, _, qfm, Tryd.func87, rfl, rfl, by kernel_rfl, by kernel_rfl, Tryd.call87⟩
def qyf : Nat → List Nat := kk [[0]]
def text_plain : IR :=
 (.seq (.reg [o 0 (.mv (.c (.re .nilFunc)))] [0]) (.seq (.reg [o 0 (.mv (.c (.fn (.func 100) [] [])))] []) .ret))
theorem qyq : FnIs Tryd.prog 88 1 [.t 0] text_plain :=
  ⟨Tryd.f88, _, qyf, Tryd.func88, rfl, rfl, by kernel_rfl, by kernel_rfl, Tryd.call88⟩
def qtc : Nat → List Nat := kk [[2],[0,3,4,5,6,7,8,9]]
def qzabs : IR :=
 (.seq (.reg [o 2 (.mv (.c .ff))] [2]) (.seq (.reg [o 3 (.mv (.t 0)),o 4 (f 101 [(.t 3)]),o 5 (.bin .add (.t 4) (z 7)),o 6 (.bin .shr (.t 5) (.c (.i .u64 (.l 3)))),o 7 (.mv (.t 0)),o 8 (.len false (.t 7)),o 9 (.bin .lt (.t 6) (.t 8)),o 2 (.mv (.t 9))] [0,3,4,5,6,7,8,9]) .ret))
theorem qtp : FnIs Tryd.prog 89 10 [.t 2] qzabs :=
  ⟨Tryd.f89, _, qtc, Tryd.func89, rfl, rfl, by kernel_rfl, by kernel_rfl, Tryd.call89⟩
def quu : Nat → List Nat := kk [[0]]
def qzacu : IR :=
 (.seq (.reg [o 0 (.mv (.c (.re .nilFunc)))] [0]) (.seq (.reg [o 0 (.mv (.c (.fn (.func 102) [] [])))] []) .ret))
theorem qvf : FnIs Tryd.prog 90 1 [.t 0] qzacu :=
  ⟨Tryd.f90, _, quu, Tryd.func90, rfl, rfl, by kernel_rfl, by kernel_rfl, Tryd.call90⟩
def qzadn : Nat → List Nat := kk [[],[0,1,6,7],[9],[4,5,10,11,12],[13]]
def text_all : IR :=
 (.seq (.reg [o 4 (.alloc [(.re (.slice none 0 0))])] []) (.seq (.seq (.reg [o 6 (.mv (.t 0)),o 7 (.mv (.t 1)),o 8 (f 104 [(.t 6),(.t 7)])] [0,1,6,7]) (.block 0 (.rf (.t 8) [9] (.reg [o 5 (.mv (.t 9))] [9]) (.block 1 (.reg [o 10 (.load false 1 (.t 4)),o 11 (.mv (.t 5)),o 12 (.app 1 (.t 10) (.t 11)),u (.store 1 (.t 4) (.t 12))] [4,5,10,11,12]))))) (.seq (.reg [o 13 (.load false 1 (.t 4)),u (.store 1 (.t 4) (.t 13))] [13]) .ret)))
theorem qtl : FnIs Tryd.prog 91 14 [.c 4 false 1] text_all :=
  ⟨Tryd.f91, _, qzadn, Tryd.func91, rfl, rfl, by kernel_rfl, by kernel_rfl, Tryd.call91⟩
def qlv : Nat → List Nat := kk [[0,1,2,6],[3,4,5,7]]
def qqi : IR :=
 (.seq (.reg [o 3 (.box (.t 0)),o 4 (.box (.t 1)),o 5 (.box (.t 2)),o 6 (.mv (.c (.re .nilFunc)))] [0,1,2,6]) (.seq (.reg [o 7 (.mkF (.func 105) [] [(.t 4),(.t 3),(.t 5)]),o 6 (.mv (.t 7))] [3,4,5,7]) .ret))
theorem qmh : FnIs Tryd.prog 92 8 [.t 6] qqi :=
  ⟨Tryd.f92, _, qlv, Tryd.func92, rfl, rfl, by kernel_rfl, by kernel_rfl, Tryd.call92⟩
def qnn : Nat → List Nat := kk [[4,5,6],[8,9,10],[11],[0,1,7,13,14,15,16,17,18,19,20,21],[0,22]]
def qja : List (Nat × List Nat) := [(0,[]),(1,[]),(2,[]),(3,[]),(4,[]),(5,[]),(6,[]),(7,[]),(8,[]),(9,[]),(10,[]),(11,[])]
def qrv : IR :=
 (.seq (.reg [o 4 (.mv (.c (.s []))),o 5 (.mv (.c (.s []))),o 6 (.mv (.c .ff))] [4,5,6]) (.seq (.seq (.reg [o 8 (.mv (.t 0)),o 9 (.mv (.t 1)),o 10 (f 108 [(.t 8),(.t 9)]),o 7 (.mv (.t 10))] [8,9,10]) (.seq (.reg [o 11 (.mv (.t 7)),o 12 (.bin .ge (.t 11) (z 0))] [11]) (.cond (.t 12) (.seq (.draw [o 13 (.mv (.t 0)),o 14 (.mv (.t 7)),o 15 (.slcS (.t 13) none (some (.t 14))),o 16 (.mv (.t 0)),o 17 (.mv (.t 7)),o 18 (.mv (.t 1)),o 19 (.len true (.t 18)),o 20 (.bin .add (.t 17) (.t 19)),o 21 (.slcS (.t 16) (some (.t 20)) none),o 4 (.mv (.t 15)),o 5 (.mv (.t 21)),o 6 (.mv (.c .tt))] [[],[],[0,1],[],[],[],[5],[4,6],[3,7],[2,0,1,2],[8,9,0,1,2,3,4,5,6,7,8,9],[10,0,1,2,3,4,5,6,7,8,9,10]] [0,1,7,13,14,15,16,17,18,19,20,21]) .ret) .skip))) (.seq (.reg [o 22 (.mv (.t 0)),o 4 (.mv (.t 22)),o 5 (.mv (.c (.s []))),o 6 (.mv (.c .ff))] [0,22]) .ret)))
theorem qnt : FnIs Tryd.prog 93 23 [.t 4, .t 5, .t 6] qrv :=
  ⟨Tryd.f93, _, qnn, Tryd.func93, rfl, rfl, by kernel_rfl, by kernel_rfl, Tryd.call93⟩
def quy : Nat → List Nat := kk [[4,5,6],[7,8],[],[9,10],[],[12,13],[1,15,16,17],[18,19,20,21,22,23],[7,24,25],[0,27,28,29,30],[],[31,32],[],[33,34,35],[37,38,39,40,41,42,43,44,45,46,47,48],[],[49,50,51,52,53,54],[56,57,58,59,60],[0,8,62,63,64,65,66,67],[68]]
def qob : List Nat := [1,2,3,5,6,7,9,10,11,12,13,14,15,16,17,18,19,20,21,22,23,24,25,26,27,28,29,30,31,32,33,34,35,36,37,38,39,40,41,42,43,44,45,46,47,48,49,50,51,52,53,54,55,56,57,58,59,60,61,62,63,64,65,66,67,68]
def qzadh : IR :=
 (.seq (.reg [o 4 (.mv (z 0)),o 5 (.mv (.c (.re (.slice none 0 0)))),o 6 (.mv (z 0))] [4,5,6]) (.scope (.seq (.reg [o 7 (.mv (z 0)),o 8 (.mv (z 0))] [7,8]) (.seq (.seq (.reg [o 6 (.mv (z 2))] []) (.seq (.reg [o 9 (.mv (.t 1)),o 10 (f 98 [(.t 9)]),o 11 (.not (.t 10))] [9,10]) (.cond (.t 11) (.goto 0) .skip))) (.seq (.seq (.reg [o 6 (.mv (z 10))] []) (.seq (.reg [o 12 (.mv (.t 0)),o 13 (.len false (.t 12)),o 14 (.bin .eq (.t 13) (z 0))] [12,13]) (.cond (.t 14) (.goto 0) .skip))) (.seq (.reg [o 15 (.mv (.t 1)),o 16 (.bin .shl (z 1) (.t 15)),o 17 (.bin .sub (.t 16) (z 1)),o 7 (.mv (.t 17))] [1,15,16,17]) (.seq (.seq (.reg [o 18 (.mv (.t 0)),o 19 (.iadS 1 (.t 18) (z 0)),o 20 (.load false 1 (.t 19)),o 21 (.cv .i64 (.t 20)),o 22 (.mv (.t 7)),o 23 (.bin .and (.t 21) (.t 22)),o 4 (.mv (.t 23))] [18,19,20,21,22,23]) (.seq (.reg [o 24 (.mv (.t 4)),o 25 (.mv (.t 7)),o 26 (.bin .lt (.t 24) (.t 25))] [7,24,25]) (.cond (.t 26) (.seq (.reg [o 27 (.mv (.t 4)),o 28 (.mv (.t 0)),o 29 (.slc 1 (.t 28) (some (z 1)) none none),o 30 (f 110 [(.t 29)]),o 4 (.mv (.t 27)),o 5 (.mv (.t 30)),o 6 (.mv (z 0))] [0,27,28,29,30]) .ret) .skip))) (.seq (.seq (.reg [o 8 (.mv (z 1))] []) (.block 0 (.loop (.seq (.block 1 (.seq (.seq (.reg [o 6 (.mv (z 10))] []) (.seq (.reg [o 33 (.mv (.t 8)),o 34 (.mv (.t 0)),o 35 (.len false (.t 34)),o 36 (.bin .ge (.t 33) (.t 35))] [33,34,35]) (.cond (.t 36) (.goto 0) .skip))) (.seq (.reg [o 37 (.mv (.t 4)),o 38 (.mv (.t 0)),o 39 (.mv (.t 8)),o 40 (.iadS 1 (.t 38) (.t 39)),o 41 (.load false 1 (.t 40)),o 42 (.bin .and (.t 41) (.c (.i .u8 (.l 127)))),o 43 (.cv .i64 (.t 42)),o 44 (.mv (.t 8)),o 45 (.bin .sub (.t 44) (z 1)),o 46 (.bin .mul (z 7) (.t 45)),o 47 (.bin .shl (.t 43) (.t 46)),o 48 (.bin .add (.t 37) (.t 47)),o 4 (.mv (.t 48))] [37,38,39,40,41,42,43,44,45,46,47,48]) (.seq (.seq (.reg [o 6 (.mv (z 60))] []) (.seq (.reg [o 49 (.mv (.t 8)),o 50 (.bin .gt (.t 49) (z 5)),o 51 (.mv (.t 50)),q 52 (.mv (.t 4)) 51 false,q 53 (.bin .shr (.t 52) (.c (.i .u64 (.l 31)))) 51 false,q 54 (.bin .ne (.t 53) (z 0)) 51 false,o 55 (.pick (.t 51) (.c .tt) (.t 54))] [49,50,51,52,53,54]) (.cond (.t 55) (.goto 0) .skip))) (.seq (.reg [o 56 (.mv (.t 0)),o 57 (.mv (.t 8)),o 58 (.iadS 1 (.t 56) (.t 57)),o 59 (.load false 1 (.t 58)),o 60 (.bin .and (.t 59) (.c (.i .u8 (.l 128)))),o 61 (.bin .eq (.t 60) (.c (.i .u8 (.l 0))))] [56,57,58,59,60]) (.cond (.t 61) (.seq (.reg [o 62 (.mv (.t 4)),o 63 (.mv (.t 0)),o 64 (.mv (.t 8)),o 65 (.bin .add (.t 64) (z 1)),o 66 (.slc 1 (.t 63) (some (.t 65)) none none),o 67 (f 110 [(.t 66)]),o 4 (.mv (.t 62)),o 5 (.mv (.t 67)),o 6 (.mv (z 0))] [0,8,62,63,64,65,66,67]) .ret) .skip)))))) (.reg [o 31 (.mv (.t 8)),o 32 (.bin .add (.t 31) (z 1)),o 8 (.mv (.t 32))] [31,32]))))) (.seq (.label 0) (.seq (.reg [o 68 (.mv (.t 6)),o 4 (.mv (z 0)),o 5 (.mv (.c (.re (.slice none 0 0)))),o 6 (.mv (.t 68))] [68]) .ret))))))))))
theorem qvj : FnIs Tryd.prog 96 69 [.t 4, .t 5, .t 6] qzadh :=
  ⟨Tryd.f96, _, quy, Tryd.func96, rfl, rfl, by kernel_rfl, by kernel_rfl, Tryd.call96⟩
def qsq : Nat → List Nat := kk [[0,7,8],[9],[10],[1,3,12,13,14,15,16,17],[2,18,19,20,21,22,23,24],[25],[27,28,29,30,31,32,33],[34,35,36]]
def qzy : IR :=
 (.seq (.reg [o 3 (.box (.t 0)),o 6 (.alloc [(.s []),(.s [])]),o 7 (.mv (.c (.re (.slice none 0 0)))),o 8 (.mv (z 0))] [0,7,8]) (.seq (.seq (.reg [o 9 (.mv (.t 2)),o 7 (.mv (.t 9))] [9]) (.seq (.reg [o 10 (.mv (.t 1)),o 11 (.bin .gt (.t 10) (z 0))] [10]) (.cond (.t 11) (.reg [o 13 (.load true 2 (.t 3)),o 14 (.mv (.t 1)),o 15 (f 32 [(.t 13),(.t 14)]),o 12 (.mv (.t 15)),o 16 (.ext (.t 12) 0),o 17 (.ext (.t 12) 1),u (.store 2 (.t 6) (.t 16)),o 8 (.mv (.t 17))] [1,3,12,13,14,15,16,17]) (.reg [o 19 (.mv (.t 2)),o 20 (f 111 [(.t 19)]),o 18 (.mv (.t 20)),o 21 (.ext (.t 18) 0),o 22 (.ext (.t 18) 1),o 23 (.ext (.t 18) 2),o 24 (.fad 0 (.t 6)),u (.store 1 (.t 24) (.t 21)),o 7 (.mv (.t 22)),o 8 (.mv (.t 23))] [2,18,19,20,21,22,23,24])))) (.seq (.seq (.reg [o 25 (.mv (.t 8)),o 26 (.bin .eq (.t 25) (z 0))] [25]) (.cond (.t 26) (.reg [o 28 (.mv (.t 7)),o 29 (f 111 [(.t 28)]),o 27 (.mv (.t 29)),o 30 (.ext (.t 27) 0),o 31 (.ext (.t 27) 1),o 32 (.ext (.t 27) 2),o 33 (.fad 1 (.t 6)),u (.store 1 (.t 33) (.t 30)),o 7 (.mv (.t 31)),o 8 (.mv (.t 32))] [27,28,29,30,31,32,33]) .skip)) (.seq (.reg [o 34 (.load true 2 (.t 6)),o 35 (.mv (.t 7)),o 36 (.mv (.t 8)),u (.store 2 (.t 6) (.t 34)),o 7 (.mv (.t 35)),o 8 (.mv (.t 36))] [34,35,36]) .ret))))
theorem qtg : FnIs Tryd.prog 97 37 [.c 6 true 2, .t 7, .t 8] qzy :=
  ⟨Tryd.f97, _, qsq, Tryd.func97, rfl, rfl, by kernel_rfl, by kernel_rfl, Tryd.call97⟩
def qsz : Nat → List Nat := kk [[2],[0,3,4,5,6,7,8]]
def qzaax : IR :=
 (.seq (.reg [o 2 (.mv (.c .ff))] [2]) (.seq (.reg [o 3 (.mv (.t 0)),o 4 (.bin .gt (.t 3) (z 0)),o 5 (.mv (.t 4)),q 6 (.mv (.t 0)) 5 true,q 7 (.bin .le (.t 6) (z 8)) 5 true,o 8 (.pick (.t 5) (.t 7) (.c .ff)),o 2 (.mv (.t 8))] [0,3,4,5,6,7,8]) .ret))
theorem qfo : FnIs Tryd.prog 98 9 [.t 2] qzaax :=
  ⟨Tryd.f98, _, qsz, Tryd.func98, rfl, rfl, by kernel_rfl, by kernel_rfl, Tryd.call98⟩
def qpd : Nat → List Nat := kk [[0,2],[1,3]]
def quk : IR :=
 (.seq (.reg [o 1 (.box (.t 0)),o 2 (.mv (.c (.re .nilFunc)))] [0,2]) (.seq (.reg [o 3 (.mkF (.func 112) [] [(.t 1)]),o 2 (.mv (.t 3))] [1,3]) .ret))
theorem qpk : FnIs Tryd.prog 99 4 [.t 2] quk :=
  ⟨Tryd.f99, _, qpd, Tryd.func99, rfl, rfl, by kernel_rfl, by kernel_rfl, Tryd.call99⟩
def qsw : Nat → List Nat := kk [[2,3],[0,4,5]]
def qzaaf : IR :=
 (.seq (.reg [o 2 (.mv (.c (.i .u8 (.l 0)))),o 3 (.mv (.c (.re (.slice none 0 0))))] [2,3]) (.seq (.reg [o 4 (.mv (.t 0)),o 5 (.cvSB (.t 4)),o 2 (.mv (.c (.i .u8 (.l 0)))),o 3 (.mv (.t 5))] [0,4,5]) .ret))
theorem qtk : FnIs Tryd.prog 100 6 [.t 2, .t 3] qzaaf :=
  ⟨Tryd.f100, _, qsw, Tryd.func100, rfl, rfl, by kernel_rfl, by kernel_rfl, Tryd.call100⟩
def qzabo : Nat → List Nat := kk [[],[6],[0],[],[11,12],[5,13,14,15,16,17,18],[19],[20]]
def qqq : List Nat := [0,1,4,5,6,10,11,12,13,14,15,16,17,18,19,20]
def qzabt : IR :=
 (.seq (.reg [o 2 (.mv (z 0))] []) (.seq (.reg [o 6 (f 113 []),o 3 (.alloc (repS 512 [(.i .i64 (.l 0))])),u (.store 512 (.t 3) (.t 6))] [6]) (.seq (.seq (.reg [o 7 (.mv (.t 0)),o 8 (.len false (.t 7)),o 9 (.mv (z 0))] [0]) (.block 0 (.loop (.seq (.reg [o 10 (.bin .lt (.t 9) (.t 8))] []) (.seq (.cond (.t 10) .skip (.exit 0)) (.seq (.block 1 (.seq (.reg [o 11 (.iadS 1 (.t 7) (.t 9)),o 12 (.load false 1 (.t 11)),o 5 (.mv (.t 12))] [11,12]) (.reg [o 13 (.mv (.t 2)),o 14 (.mv (.t 5)),o 15 (.iadA 256 2 (.t 3) (.t 14)),o 16 (.iadA 2 1 (.t 15) (z 1)),o 17 (.load false 1 (.t 16)),o 18 (.bin .add (.t 13) (.t 17)),o 2 (.mv (.t 18))] [5,13,14,15,16,17,18]))) (.reg [o 19 (.bin .add (.t 9) (z 1)),o 9 (.mv (.t 19))] [19]))))))) (.seq (.reg [o 20 (.mv (.t 2)),o 2 (.mv (.t 20))] [20]) .ret))))
theorem qzacf : FnIs Tryd.prog 101 21 [.t 2] qzabt :=
  ⟨Tryd.f101, _, qzabo, Tryd.func101, rfl, rfl, by kernel_rfl, by kernel_rfl, Tryd.call101⟩
def qqm : Nat → List Nat := kk [[2,3],[0,4,5,6]]
def qwy : IR :=
 (.seq (.reg [o 2 (.mv (.c (.i .u8 (.l 0)))),o 3 (.mv (.c (.re (.slice none 0 0))))] [2,3]) (.seq (.reg [o 4 (.mv (.t 0)),o 5 (.cvSB (.t 4)),o 6 (f 103 [(.t 5)]),o 2 (.mv (.c (.i .u8 (.l 128)))),o 3 (.mv (.t 6))] [0,4,5,6]) .ret))
theorem qqo : FnIs Tryd.prog 102 7 [.t 2, .t 3] qwy :=
  ⟨Tryd.f102, _, qqm, Tryd.func102, rfl, rfl, by kernel_rfl, by kernel_rfl, Tryd.call102⟩
def qzadp : Nat → List Nat := kk [[],[],[],[9],[0],[],[14,15],[7,16,17,18,19,20,21,22,23,24,25,26,27,28,29,30,31,32,33],[34],[36,37],[38,39,40,41,42,43,44],[45,46,47,48,49],[50],[51,52],[4,53],[3,8,55,56,57,58,59,60,61,62,63,64,65],[66]]
def qtz : List Nat := [0,1,6,7,8,9,13,14,15,16,17,18,19,20,21,22,23,24,25,26,27,28,29,30,31,32,33,34,35,36,37,38,39,40,41,42,43,44,45,46,47,48,49,50,51,52,53,54,55,56,57,58,59,60,61,62,63,64,65,66]
def qty : List Nat := [0,1,6,7,8,9,13,14,15,16,17,18,19,20,21,22,23,24,25,26,27,28,29,30,31,32,33,34,35,36,37,38,39,40,41,42,43,44,45,46,47,48,49,50,51,52,53,54,55,56,57,58,59,60,61,62,63,64,65,66]
def qum : List (Nat × List Nat) := [(0,[]),(1,[]),(2,[]),(3,[]),(4,[]),(5,[]),(6,[]),(7,[]),(8,[]),(9,[]),(10,[]),(11,[]),(12,[]),(13,[]),(14,[]),(15,[]),(16,[]),(17,[]),(18,[14,15,16]),(19,[])]
def qul : List (Nat × List Nat) := [(0,[]),(1,[]),(2,[]),(3,[]),(4,[]),(5,[]),(6,[]),(7,[]),(8,[]),(9,[]),(10,[]),(11,[])]
def huff_Put : IR :=
 (.seq (.reg [o 2 (.mv (.c (.re (.slice none 0 0))))] []) (.seq (.reg [o 3 (.mv (.c (.i .u64 (.l 0))))] []) (.seq (.reg [o 4 (.mv (z 0))] []) (.seq (.reg [o 9 (f 113 []),o 5 (.alloc (repS 512 [(.i .i64 (.l 0))])),u (.store 512 (.t 5) (.t 9))] [9]) (.seq (.seq (.reg [o 10 (.mv (.t 0)),o 11 (.len false (.t 10)),o 12 (.mv (z 0))] [0]) (.block 0 (.loop (.seq (.reg [o 13 (.bin .lt (.t 12) (.t 11))] []) (.seq (.cond (.t 13) .skip (.exit 0)) (.seq (.block 1 (.seq (.reg [o 14 (.iadS 1 (.t 10) (.t 12)),o 15 (.load false 1 (.t 14)),o 7 (.mv (.t 15))] [14,15]) (.seq (.draw [o 16 (.mv (.t 3)),o 17 (.mv (.t 7)),o 18 (.iadA 256 2 (.t 5) (.t 17)),o 19 (.iadA 2 1 (.t 18) (z 1)),o 20 (.load false 1 (.t 19)),o 21 (.bin .shl (.t 16) (.t 20)),o 22 (.mv (.t 7)),o 23 (.iadA 256 2 (.t 5) (.t 22)),o 24 (.iadA 2 1 (.t 23) (z 0)),o 25 (.load false 1 (.t 24)),o 26 (.cv .u64 (.t 25)),o 27 (.bin .or (.t 21) (.t 26)),o 28 (.mv (.t 4)),o 29 (.mv (.t 7)),o 30 (.iadA 256 2 (.t 5) (.t 29)),o 31 (.iadA 2 1 (.t 30) (z 1)),o 32 (.load false 1 (.t 31)),o 33 (.bin .add (.t 28) (.t 32)),o 3 (.mv (.t 27)),o 4 (.mv (.t 33))] [[],[],[1],[2],[3],[0,4],[],[6],[7],[8],[9],[5,10],[],[],[13],[14],[15],[12,16],[11,0,1,2,3,4,5,6,7,8,9,10,11],[17,18,0,1,2,3,4,5,6,7,8,9,10,11,12,13,14,15,16,17,18]] [7,16,17,18,19,20,21,22,23,24,25,26,27,28,29,30,31,32,33]) (.seq (.block 2 (.loop (.seq (.seq (.reg [o 34 (.mv (.t 4)),o 35 (.bin .ge (.t 34) (z 8))] [34]) (.cond (.t 35) .skip (.exit 2))) (.block 3 (.seq (.reg [o 36 (.mv (.t 4)),o 37 (.bin .sub (.t 36) (z 8)),o 4 (.mv (.t 37))] [36,37]) (.reg [o 38 (.mv (.t 2)),o 39 (.mv (.t 3)),o 40 (.mv (.t 4)),o 41 (.bin .shr (.t 39) (.t 40)),o 42 (.cv .u8 (.t 41)),o 43 (.buildS 1 1 [(.i .u8 (.l 0))] [(0,(.t 42))]),o 44 (.app 1 (.t 38) (.t 43)),o 2 (.mv (.t 44))] [38,39,40,41,42,43,44])))))) (.reg [o 45 (.mv (.t 3)),o 46 (.mv (.t 4)),o 47 (.bin .shl (.c (.i .u64 (.l 1))) (.t 46)),o 48 (.bin .sub (.t 47) (.c (.i .u64 (.l 1)))),o 49 (.bin .and (.t 45) (.t 48)),o 3 (.mv (.t 49))] [45,46,47,48,49]))))) (.reg [o 50 (.bin .add (.t 12) (z 1)),o 12 (.mv (.t 50))] [50]))))))) (.seq (.seq (.reg [o 51 (.mv (.t 4)),o 52 (.bin .sub (z 8) (.t 51)),o 8 (.mv (.t 52))] [51,52]) (.seq (.reg [o 53 (.mv (.t 4)),o 54 (.bin .gt (.t 53) (z 0))] [4,53]) (.cond (.t 54) (.draw [o 55 (.mv (.t 2)),o 56 (.mv (.t 3)),o 57 (.mv (.t 8)),o 58 (.bin .shl (.t 56) (.t 57)),o 59 (.mv (.t 8)),o 60 (.bin .shl (.c (.i .u64 (.l 1))) (.t 59)),o 61 (.bin .sub (.t 60) (.c (.i .u64 (.l 1)))),o 62 (.bin .or (.t 58) (.t 61)),o 63 (.cv .u8 (.t 62)),o 64 (.buildS 1 1 [(.i .u8 (.l 0))] [(0,(.t 63))]),o 65 (.app 1 (.t 55) (.t 64)),o 2 (.mv (.t 65))] [[],[],[],[1,2],[],[4],[5],[3,6],[7],[8],[0,9],[10,10,0,1,2,3,4,5,6,7,8,9,10]] [3,8,55,56,57,58,59,60,61,62,63,64,65]) .skip))) (.seq (.reg [o 66 (.mv (.t 2)),o 2 (.mv (.t 66))] [66]) .ret)))))))
theorem qzadu : FnIs Tryd.prog 103 67 [.t 2] huff_Put :=
  ⟨Tryd.f103, _, qzadp, Tryd.func103, rfl, rfl, by kernel_rfl, by kernel_rfl, Tryd.call103⟩
def qzabi : Nat → List Nat := kk [[0,1,4],[2,3,5]]
def text_told : IR :=
 (.seq (.reg [o 2 (.box (.t 0)),o 3 (.box (.t 1)),o 4 (.mv (.c (.re .nilFunc)))] [0,1,4]) (.seq (.reg [o 5 (.mkF (.func 114) [] [(.t 3),(.t 2)]),o 4 (.mv (.t 5))] [2,3,5]) .ret))
theorem qqe : FnIs Tryd.prog 104 6 [.t 4] text_told :=
  ⟨Tryd.f104, _, qzabi, Tryd.func104, rfl, rfl, by kernel_rfl, by kernel_rfl, Tryd.call104⟩
def qjd : Nat → List Nat := kk [[9,10],[12,13],[5,15,16,17,18,19],[20,21,22,23,24],[6,26,27,28],[29,30,31],[32],[34,35,36,37,38],[8,39,40,41],[7,43,44,45,46,47,48],[0,2,49,50,51]]
def qgn : List Nat := [4,5,6,7,8,9,10,11,12,13,14,15,16,17,18,19,20,21,22,23,24,25,26,27,28,29,30,31,32,33,34,35,36,37,38,39,40,41,42,43,44,45,46,47,48,49,50,51]
def qna : IR :=
 (.seq (.seq (.reg [o 9 (.load false 1 (.t 1)),o 10 (.len true (.t 9)),o 11 (.bin .eq (.t 10) (z 0))] [9,10]) (.cond (.t 11) (.seq (.block 0 (.loop (.seq (.seq (.reg [o 12 (.load false 1 (.t 2)),o 13 (.len true (.t 12)),o 14 (.bin .gt (.t 13) (z 0))] [12,13]) (.cond (.t 14) .skip (.exit 0))) (.block 1 (.seq (.reg [o 16 (.load false 1 (.t 2)),o 17 (f 106 [(.t 16)]),o 15 (.mv (.t 17)),o 18 (.ext (.t 15) 0),o 19 (.ext (.t 15) 1),o 5 (.mv (.t 18)),o 6 (.mv (.t 19))] [5,15,16,17,18,19]) (.seq (.seq (.reg [o 20 (.mv (.t 0)),o 21 (.load false 1 (.t 2)),o 22 (.mv (.t 6)),o 23 (.slcS (.t 21) none (some (.t 22))),o 24 (.call (.t 20) [(.t 23)]),o 25 (.not (.t 24))] [20,21,22,23,24]) (.cond (.t 25) .ret .skip)) (.reg [o 26 (.load false 1 (.t 2)),o 27 (.mv (.t 6)),o 28 (.slcS (.t 26) (some (.t 27)) none),u (.store 1 (.t 2) (.t 28))] [6,26,27,28]))))))) .ret) .skip)) (.seq (.block 2 (.loop (.block 3 (.seq (.reg [o 29 (.load false 1 (.t 2)),o 30 (.load false 1 (.t 1)),o 31 (f 107 [(.t 29),(.t 30)]),o 7 (.mv (.t 31))] [29,30,31]) (.seq (.seq (.reg [o 32 (.mv (.t 7)),o 33 (.bin .lt (.t 32) (z 0))] [32]) (.cond (.t 33) (.exit 2) .skip)) (.seq (.reg [o 34 (.load false 1 (.t 2)),o 35 (.mv (.t 7)),o 36 (.load false 1 (.t 3)),o 37 (.bin .add (.t 35) (.t 36)),o 38 (.slcS (.t 34) none (some (.t 37))),o 8 (.mv (.t 38))] [34,35,36,37,38]) (.seq (.seq (.reg [o 39 (.mv (.t 0)),o 40 (.mv (.t 8)),o 41 (.call (.t 39) [(.t 40)]),o 42 (.not (.t 41))] [8,39,40,41]) (.cond (.t 42) .ret .skip)) (.reg [o 43 (.load false 1 (.t 2)),o 44 (.mv (.t 7)),o 45 (.load false 1 (.t 1)),o 46 (.len true (.t 45)),o 47 (.bin .add (.t 44) (.t 46)),o 48 (.slcS (.t 43) (some (.t 47)) none),u (.store 1 (.t 2) (.t 48))] [7,43,44,45,46,47,48])))))))) (.reg [o 49 (.mv (.t 0)),o 50 (.load false 1 (.t 2)),o 51 (.call (.t 49) [(.t 50)])] [0,2,49,50,51])))
theorem qjm : FnIs Tryd.prog 105 52 [] qna :=
  ⟨Tryd.f105, _, qjd, Tryd.func105, rfl, rfl, by kernel_rfl, by kernel_rfl, Tryd.call105⟩
def qqn : Nat → List Nat := kk [[4],[0,1,5,6,7]]
def qxa : IR :=
 (.seq (.reg [o 4 (.mv (z 0))] [4]) (.seq (.reg [o 5 (.mv (.t 0)),o 6 (.mv (.t 1)),o 7 (f 108 [(.t 5),(.t 6)]),o 4 (.mv (.t 7))] [0,1,5,6,7]) .ret))
theorem qqp : FnIs Tryd.prog 107 8 [.t 4] qxa :=
  ⟨Tryd.f107, _, qqn, Tryd.func107, rfl, rfl, by kernel_rfl, by kernel_rfl, Tryd.call107⟩
def qkp : Nat → List Nat := kk [[4],[14,15],[17,18,19,20,21,22,23],[],[25,26],[0,1,27,28,29,30],[32,33,34,35],[],[37,38,39,40,41,42,43,44],[0,1,45,46,47],[48,49],[50,51],[],[52,53,54,55,56],[],[57,58],[60,61,62,63],[65,66,67,68,69,70,71],[72],[],[11,74,75,76,77],[78,79,80,81,82,83,84,85,86,87,88,89,90,91,92],[8,94],[95,96],[97,98],[99,100,101,102,103,104,105,106],[0,1,108,109,110,111,112],[113],[8,12,115,116,117],[],[118,119,120,121,122,123,124,125,126,127,128,129,130,131],[0,1,133,134,135,136,137],[138],[],[8,13,140,141,142]]
def qoo : IR :=
 (.seq (.reg [o 4 (.mv (z 0))] [4]) (.seq (.reg [o 14 (.mv (.t 1)),o 15 (.len true (.t 14)),o 5 (.mv (.t 15))] [14,15]) (.seq (.block 0 (.seq (.reg [o 17 (.mv (.t 5)),o 18 (.bin .eq (.t 17) (z 0)),o 19 (.mv (.t 18)),q 20 (.mv (.t 1)) 19 false,q 21 (.mv (.t 0)) 19 false,q 22 (.bin .eq (.t 20) (.t 21)) 19 false,o 23 (.pick (.t 19) (.c .tt) (.t 22)),o 16 (.mv (.t 23))] [17,18,19,20,21,22,23]) (.cond (.t 16) (.seq (.reg [o 4 (.mv (z 0))] []) .ret) (.seq (.reg [o 25 (.mv (.t 5)),o 26 (.bin .eq (.t 25) (z 1)),o 24 (.mv (.t 26))] [25,26]) (.cond (.t 24) (.seq (.reg [o 27 (.mv (.t 0)),o 28 (.mv (.t 1)),o 29 (.ixS (.t 28) (z 0)),o 30 (f 116 [(.t 27),(.t 29)]),o 4 (.mv (.t 30))] [0,1,27,28,29,30]) .ret) (.seq (.reg [o 32 (.mv (.t 5)),o 33 (.mv (.t 0)),o 34 (.len true (.t 33)),o 35 (.bin .ge (.t 32) (.t 34)),o 31 (.mv (.t 35))] [32,33,34,35]) (.cond (.t 31) (.seq (.reg [o 4 (.mv (z (-1)))] []) .ret) (.seq (.reg [o 37 (.mv (.t 5)),o 38 (.load false 1 (.c .any)),o 39 (.bin .le (.t 37) (.t 38)),o 40 (.mv (.t 39)),q 41 (.mv (.t 0)) 40 true,q 42 (.len true (.t 41)) 40 true,q 43 (.bin .le (.t 42) (z 64)) 40 true,o 44 (.pick (.t 40) (.t 43) (.c .ff)),o 36 (.mv (.t 44))] [37,38,39,40,41,42,43,44]) (.cond (.t 36) (.seq (.reg [o 45 (.mv (.t 0)),o 46 (.mv (.t 1)),o 47 (f 117 [(.t 45),(.t 46)]),o 4 (.mv (.t 47))] [0,1,45,46,47]) .ret) .skip))))))))) (.seq (.reg [o 48 (.mv (.t 1)),o 49 (.ixS (.t 48) (z 0)),o 6 (.mv (.t 49))] [48,49]) (.seq (.reg [o 50 (.mv (.t 1)),o 51 (.ixS (.t 50) (z 1)),o 7 (.mv (.t 51))] [50,51]) (.seq (.reg [o 8 (.mv (z 0))] []) (.seq (.reg [o 52 (.mv (.t 0)),o 53 (.len true (.t 52)),o 54 (.mv (.t 5)),o 55 (.bin .sub (.t 53) (.t 54)),o 56 (.bin .add (.t 55) (z 1)),o 9 (.mv (.t 56))] [52,53,54,55,56]) (.seq (.reg [o 10 (.mv (z 0))] []) (.seq (.block 1 (.loop (.seq (.seq (.reg [o 57 (.mv (.t 8)),o 58 (.mv (.t 9)),o 59 (.bin .lt (.t 57) (.t 58))] [57,58]) (.cond (.t 59) .skip (.exit 1))) (.block 2 (.seq (.seq (.reg [o 60 (.mv (.t 0)),o 61 (.mv (.t 8)),o 62 (.ixS (.t 60) (.t 61)),o 63 (.mv (.t 6)),o 64 (.bin .ne (.t 62) (.t 63))] [60,61,62,63]) (.cond (.t 64) (.seq (.reg [o 65 (.mv (.t 0)),o 66 (.mv (.t 8)),o 67 (.bin .add (.t 66) (z 1)),o 68 (.mv (.t 9)),o 69 (.slcS (.t 65) (some (.t 67)) (some (.t 68))),o 70 (.mv (.t 6)),o 71 (f 116 [(.t 69),(.t 70)]),o 11 (.mv (.t 71))] [65,66,67,68,69,70,71]) (.seq (.seq (.reg [o 72 (.mv (.t 11)),o 73 (.bin .lt (.t 72) (z 0))] [72]) (.cond (.t 73) (.seq (.reg [o 4 (.mv (z (-1)))] []) .ret) .skip)) (.reg [o 74 (.mv (.t 8)),o 75 (.mv (.t 11)),o 76 (.bin .add (.t 75) (z 1)),o 77 (.bin .add (.t 74) (.t 76)),o 8 (.mv (.t 77))] [11,74,75,76,77]))) .skip)) (.seq (.seq (.reg [o 78 (.mv (.t 0)),o 79 (.mv (.t 8)),o 80 (.bin .add (.t 79) (z 1)),o 81 (.ixS (.t 78) (.t 80)),o 82 (.mv (.t 7)),o 83 (.bin .eq (.t 81) (.t 82)),o 84 (.mv (.t 83)),q 85 (.mv (.t 0)) 84 true,q 86 (.mv (.t 8)) 84 true,q 87 (.mv (.t 8)) 84 true,q 88 (.mv (.t 5)) 84 true,q 89 (.bin .add (.t 87) (.t 88)) 84 true,q 90 (.slcS (.t 85) (some (.t 86)) (some (.t
 89))) 84 true,q 91 (.mv (.t 1)) 84 true,q 92 (.bin .eq (.t 90) (.t 91)) 84 true,o 93 (.pick (.t 84) (.t 92) (.c .ff))] [78,79,80,81,82,83,84,85,86,87,88,89,90,91,92]) (.cond (.t 93) (.seq (.reg [o 94 (.mv (.t 8)),o 4 (.mv (.t 94))] [8,94]) .ret) .skip)) (.seq (.reg [o 95 (.mv (.t 8)),o 96 (.bin .add (.t 95) (z 1)),o 8 (.mv (.t 96))] [95,96]) (.seq (.reg [o 97 (.mv (.t 10)),o 98 (.bin .add (.t 97) (z 1)),o 10 (.mv (.t 98))] [97,98]) (.seq (.reg [o 99 (.mv (.t 5)),o 100 (.load false 1 (.c .any)),o 101 (.bin .le (.t 99) (.t 100)),o 102 (.mv (.t 101)),q 103 (.mv (.t 10)) 102 true,q 104 (.mv (.t 8)) 102 true,q 105 (f 118 [(.t 104)]) 102 true,q 106 (.bin .gt (.t 103) (.t 105)) 102 true,o 107 (.pick (.t 102) (.t 106) (.c .ff))] [99,100,101,102,103,104,105,106]) (.cond (.t 107) (.seq (.reg [o 108 (.mv (.t 0)),o 109 (.mv (.t 8)),o 110 (.slcS (.t 108) (some (.t 109)) none),o 111 (.mv (.t 1)),o 112 (f 117 [(.t 110),(.t 111)]),o 12 (.mv (.t 112))] [0,1,108,109,110,111,112]) (.seq (.seq (.reg [o 113 (.mv (.t 12)),o 114 (.bin .ge (.t 113) (z 0))] [113]) (.cond (.t 114) (.seq (.reg [o 115 (.mv (.t 12)),o 116 (.mv (.t 8)),o 117 (.bin .add (.t 115) (.t 116)),o 4 (.mv (.t 117))] [8,12,115,116,117]) .ret) .skip)) (.seq (.reg [o 4 (.mv (z (-1)))] []) .ret))) (.seq (.reg [o 118 (.mv (.t 5)),o 119 (.load false 1 (.c .any)),o 120 (.bin .gt (.t 118) (.t 119)),o 121 (.mv (.t 120)),q 122 (.mv (.t 10)) 121 true,q 123 (.mv (.t 8)) 121 true,q 124 (.bin .shr (.t 123) (.c (.i .u64 (.l 4)))) 121 true,q 125 (.bin .add (z 4) (.t 124)) 121 true,q 126 (.bin .ge (.t 122) (.t 125)) 121 true,o 127 (.pick (.t 121) (.t 126) (.c .ff)),o 128 (.mv (.t 127)),q 129 (.mv (.t 8)) 128 true,q 130 (.mv (.t 9)) 128 true,q 131 (.bin .lt (.t 129) (.t 130)) 128 true,o 132 (.pick (.t 128) (.t 131) (.c .ff))] [118,119,120,121,122,123,124,125,126,127,128,129,130,131]) (.cond (.t 132) (.seq (.reg [o 133 (.mv (.t 0)),o 134 (.mv (.t 8)),o 135 (.slcS (.t 133) (some (.t 134)) none),o 136 (.mv (.t 1)),o 137 (f 119 [(.t 135),(.t 136)]),o 13 (.mv (.t 137))] [0,1,133,134,135,136,137]) (.seq (.seq (.reg [o 138 (.mv (.t 13)),o 139 (.bin .lt (.t 138) (z 0))] [138]) (.cond (.t 139) (.seq (.reg [o 4 (.mv (z (-1)))] []) .ret) .skip)) (.seq (.reg [o 140 (.mv (.t 8)),o 141 (.mv (.t 13)),o 142 (.bin .add (.t 140) (.t 141)),o 4 (.mv (.t 142))] [8,13,140,141,142]) .ret))) .skip)))))))))))) (.seq (.reg [o 4 (.mv (z (-1)))] []) .ret))))))))))
theorem qkv : FnIs Tryd.prog 108 143 [.t 4] qoo :=
  ⟨Tryd.f108, _, qkp, Tryd.func108, rfl, rfl, by kernel_rfl, by kernel_rfl, Tryd.call108⟩
def qva : Nat → List Nat := kk [[2],[3],[],[0,5,6,7]]
def qzaee : IR :=
 (.seq (.reg [o 2 (.mv (.c (.re (.slice none 0 0))))] [2]) (.seq (.seq (.reg [o 3 (.mv (.t 0)),o 4 (.nilS false (.t 3))] [3]) (.cond (.t 4) (.seq (.reg [o 2 (.mv (.c (.re (.slice none 0 0))))] []) .ret) .skip)) (.seq (.reg [o 5 (.buildS 1 0 [(.i .u8 (.l 0))] []),o 6 (.mv (.t 0)),o 7 (.app 1 (.t 5) (.t 6)),o 2 (.mv (.t 7))] [0,5,6,7]) .ret)))
theorem qvl : FnIs Tryd.prog 110 8 [.t 2] qzaee :=
  ⟨Tryd.f110, _, qva, Tryd.func110, rfl, rfl, by kernel_rfl, by kernel_rfl, Tryd.call110⟩
def qzabj : Nat → List Nat := kk [[2,3,4],[5],[6],[7,8,9,10,11,12],[13],[],[15,16,17],[5,19,20,21,22,23,24,25,26],[0,27,28,29,30],[6,32,33,34],[35,36,37,38,39],[40],[6,42,43,44],[45]]
def qsl : List (Nat × List Nat) := [(0,[]),(1,[]),(2,[]),(4,[]),(5,[]),(6,[]),(3,[]),(7,[]),(8,[]),(9,[])]
def text_Take : IR :=
 (.seq (.reg [o 2 (.mv (.c (.s []))),o 3 (.mv (.c (.re (.slice none 0 0)))),o 4 (.mv (z 0))] [2,3,4]) (.scope (.seq (.reg [o 5 (.mv (z 0))] [5]) (.seq (.reg [o 6 (.mv (.c (.re (.slice none 0 0))))] [6]) (.seq (.seq (.reg [o 8 (.mv (.t 0)),o 9 (f 96 [(.t 8),(z 7)]),o 7 (.mv (.t 9)),o 10 (.ext (.t 7) 0),o 11 (.ext (.t 7) 1),o 12 (.ext (.t 7) 2),o 5 (.mv (.t 10)),o 3 (.mv (.t 11)),o 4 (.mv (.t 12))] [7,8,9,10,11,12]) (.seq (.reg [o 13 (.mv (.t 4)),o 14 (.bin .ne (.t 13) (z 0))] [13]) (.cond (.t 14) (.goto 0) .skip))) (.seq (.seq (.reg [o 4 (.mv (z 10))] []) (.seq (.reg [o 15 (.mv (.t 5)),o 16 (.mv (.t 3)),o 17 (.len false (.t 16)),o 18 (.bin .gt (.t 15) (.t 17))] [15,16,17]) (.cond (.t 18) (.goto 0) .skip))) (.seq (.seq (.draw [o 19 (.mv (.t 3)),o 20 (.mv (.t 5)),o 21 (.slc 1 (.t 19) none (some (.t 20)) none),o 22 (f 121 [(.t 21)]),o 23 (.mv (.t 3)),o 24 (.mv (.t 5)),o 25 (.slc 1 (.t 23) (some (.t 24)) none none),o 26 (f 110 [(.t 25)]),o 6 (.mv (.t 22)),o 3 (.mv (.t 26))] [[],[],[0,1],[2],[],[],[4,5],[6,3],[3,7,0,1,2,3],[7,8,0,1,2,3,4,5,6,7,8]] [5,19,20,21,22,23,24,25,26]) (.seq (.reg [o 27 (.mv (.t 0)),o 28 (.iadS 1 (.t 27) (z 0)),o 29 (.load false 1 (.t 28)),o 30 (.bin .and (.t 29) (.c (.i .u8 (.l 128)))),o 31 (.bin .eq (.t 30) (.c (.i .u8 (.l 0))))] [0,27,28,29,30]) (.cond (.t 31) (.seq (.reg [o 32 (.mv (.t 6)),o 33 (.cvBS (.t 32)),o 34 (.mv (.t 3)),o 2 (.mv (.t 33)),o 3 (.mv (.t 34)),o 4 (.mv (z 0))] [6,32,33,34]) .ret) .skip))) (.seq (.seq (.reg [o 36 (.mv (.t 6)),o 37 (f 122 [(.t 36)]),o 35 (.mv (.t 37)),o 38 (.ext (.t 35) 0),o 39 (.ext (.t 35) 1),o 6 (.mv (.t 38)),o 4 (.mv (.t 39))] [35,36,37,38,39]) (.seq (.reg [o 40 (.mv (.t 4)),o 41 (.bin .eq (.t 40) (z 0))] [40]) (.cond (.t 41) (.seq (.reg [o 42 (.mv (.t 6)),o 43 (.cvBS (.t 42)),o 44 (.mv (.t 3)),o 2 (.mv (.t 43)),o 3 (.mv (.t 44)),o 4 (.mv (z 0))] [6,42,43,44]) .ret) .skip))) (.seq (.label 0) (.seq (.reg [o 45 (.mv (.t 4)),o 2 (.mv (.c (.s []))),o 3 (.mv (.c (.re (.slice none 0 0)))),o 4 (.mv (.t 45))] [45]) .ret))))))))))
theorem qzaca : FnIs Tryd.prog 111 46 [.t 2, .t 3, .t 4] text_Take :=
  ⟨Tryd.f111, _, qzabj, Tryd.func111, rfl, rfl, by kernel_rfl, by kernel_rfl, Tryd.call111⟩
def qlx : Nat → List Nat := kk [[3,4],[6,7,8,9,10],[12,13],[0,1,14,15,16,17]]
def qic : List Nat := [2,3,4,5,6,7,8,9,10,11,12,13,14,15,16,17]
def qql : IR :=
 (.seq (.block 0 (.loop (.seq (.seq (.reg [o 3 (.load false 1 (.t 1)),o 4 (.bin .shr (.t 3) (.c (.i .u64 (.l 7)))),o 5 (.bin .ne (.t 4) (.c (.i .u32 (.l 0))))] [3,4]) (.cond (.t 5) .skip (.exit 0))) (.block 1 (.seq (.seq (.reg [o 6 (.mv (.t 0)),o 7 (.load false 1 (.t 1)),o 8 (.cv .u8 (.t 7)),o 9 (.bin .or (.t 8) (.c (.i .u8 (.l 128)))),o 10 (.call (.t 6) [(.t 9)]),o 11 (.not (.t 10))] [6,7,8,9,10]) (.cond (.t 11) .ret .skip)) (.reg [o 12 (.load false 1 (.t 1)),o 13 (.bin .shr (.t 12) (.c (.i .u64 (.l 7)))),u (.store 1 (.t 1) (.t 13))] [12,13])))))) (.reg [o 14 (.mv (.t 0)),o 15 (.load false 1 (.t 1)),o 16 (.cv .u8 (.t 15)),o 17 (.call (.t 14) [(.t 16)])] [0,1,14,15,16,17]))
theorem qmj : FnIs Tryd.prog 112 18 [] qql :=
  ⟨Tryd.f112, _, qlx, Tryd.func112, rfl, rfl, by kernel_rfl, by kernel_rfl, Tryd.call112⟩
def qyn : Nat → List Nat := kk [[],[],[4],[5],[0,1,2,6,7,8],[9]]
def qwi : IR :=
 (.seq (.reg [o 0 (.alloc (repS 512 [(.i .i64 (.l 0))]))] []) (.seq (.seq (.reg [o 3 (f 123 [])] []) (.block 0 (.rf (.t 3) [4,5] (.seq (.reg [o 1 (.mv (.t 4))] [4]) (.reg [o 2 (.alloc [(.i .i64 (.l 0)),(.i .i64 (.l 0))]),u (.store 2 (.t 2) (.t 5))] [5])) (.block 1 (.reg [o 6 (.mv (.t 1)),o 7 (.load true 2 (.t 2)),o 8 (.iadA 256 2 (.t 0) (.t 6)),u (.store 2 (.t 8) (.t 7))] [0,1,2,6,7,8]))))) (.seq (.reg [o 9 (.load true 512 (.t 0)),u (.store 512 (.t 0) (.t 9))] [9]) .ret)))
theorem qyx : FnIs Tryd.prog 113 10 [.c 0 true 512] qwi :=
  ⟨Tryd.f113, _, qyn, Tryd.func113, rfl, rfl, by kernel_rfl, by kernel_rfl, Tryd.call113⟩
def qut : Nat → List Nat := kk [[1,2,8,9,10,11,12,13],[4,14,15,16,17,18,19,20],[6,7,21,22,23,24,25,26],[0,5,28,29,30]]
def qzact : IR :=
 (.seq (.reg [o 9 (.load false 1 (.t 1)),o 10 (.load false 1 (.t 2)),o 11 (.call (.t 9) [(.t 10)]),o 8 (.mv (.t 11)),o 12 (.ext (.t 8) 0),o 13 (.ext (.t 8) 1),o 4 (.mv (.t 12)),o 5 (.mv (.t 13))] [1,2,8,9,10,11,12,13]) (.seq (.reg [o 15 (.mv (.t 5)),o 16 (.len false (.t 15)),o 17 (.mv (.t 4)),o 18 (f 85 [(.t 16),(z 7),(.t 17)]),o 14 (.mv (.t 18)),o 19 (.ext (.t 14) 0),o 20 (.ext (.t 14) 1),o 6 (.mv (.t 19)),o 7 (.mv (.t 20))] [4,14,15,16,17,18,19,20]) (.seq (.reg [o 21 (.mv (.t 7)),o 22 (.bin .eq (.t 21) (z 0)),o 23 (.mv (.t 22)),q 24 (.mv (.t 0)) 23 true,q 25 (.mv (.t 6)) 23 true,q 26 (.call (.t 24) [(.t 25)]) 23 true,o 27 (.pick (.t 23) (.t 26) (.c .ff))] [6,7,21,22,23,24,25,26]) (.cond (.t 27) (.reg [o 28 (.mv (.t 0)),o 29 (.mv (.t 5)),o 30 (.call (.t 28) [(.t 29)])] [0,5,28,29,30]) .skip))))
theorem qlk : FnIs Tryd.prog 114 31 [] qzact :=
  ⟨Tryd.f114, _, qut, Tryd.func114, rfl, rfl, by kernel_rfl, by kernel_rfl, Tryd.call114⟩
def qhf : Nat → List Nat := kk [[4],[0,1,5,6,7]]
def qit : IR :=
 (.seq (.reg [o 4 (.mv (z 0))] [4]) (.seq (.reg [o 5 (.mv (.t 0)),o 6 (.mv (.t 1)),o 7 (f 124 [(.t 5),(.t 6)]),o 4 (.mv (.t 7))] [0,1,5,6,7]) .ret))
theorem qdy : FnIs Tryd.prog 116 8 [.t 4] qit :=
  ⟨Tryd.f116, _, qhf, Tryd.func116, rfl, rfl, by kernel_rfl, by kernel_rfl, Tryd.call116⟩
def qff : Nat → List Nat := kk [[2],[3],[],[0,5,6,7]]
def qgi : IR :=
 (.seq (.reg [o 2 (.mv (.c (.re (.slice none 0 0))))] [2]) (.seq (.seq (.reg [o 3 (.mv (.t 0)),o 4 (.nilS false (.t 3))] [3]) (.cond (.t 4) (.seq (.reg [o 2 (.mv (.c (.re (.slice none 0 0))))] []) .ret) .skip)) (.seq (.reg [o 5 (.buildS 1 0 [(.i .u8 (.l 0))] []),o 6 (.mv (.t 0)),o 7 (.app 1 (.t 5) (.t 6)),o 2 (.mv (.t 7))] [0,5,6,7]) .ret)))
theorem qfh : FnIs Tryd.prog 121 8 [.t 2] qgi :=
  ⟨Tryd.f121, _, qff, Tryd.func121, rfl, rfl, by kernel_rfl, by kernel_rfl, Tryd.call121⟩
def qzabn : Nat → List Nat := kk [[3],[13],[6],[],[],[17],[18,19,20,21,22,23,24],[10,25],[9,27,28,29,30,31,32,33,34],[12],[11,36,37,38,39],[8,40,41,42],[43],[44,45,46,47,48],[49],[0,51,52,53,54,55,56,57,58,59,60,61],[5,6,62,63,64,65],[67]]
def qzabr : IR :=
 (.seq (.reg [o 2 (.mv (.c (.re (.slice none 0 0)))),o 3 (.mv (z 0))] [3]) (.scope (.seq (.reg [o 13 (f 128 []),o 4 (.mv (.t 13)),o 5 (.mv (z 0))] [13]) (.seq (.reg [o 6 (.mv (z 0))] [6]) (.seq (.label 0) (.seq (.seq (.reg [o 14 (.build [(.i .i64 (.l 0)),(.i .i64 (.l 0)),(.i .i64 (.l 0)),(.i .i64 (.l 0))] [(0,1,(z 5)),(1,1,(z 6)),(2,1,(z 7)),(3,1,(z 11))]),o 15 (.mv (z 0))] []) (.block 0 (.loop (.seq (.reg [o 16 (.bin .lt (.t 15) (z 4))] []) (.seq (.cond (.t 16) .skip (.exit 0)) (.seq (.block 1 (.seq (.reg [o 17 (.ixA false 4 1 (.t 14) (.t 15)),o 8 (.mv (.t 17))] [17]) (.seq (.reg [o 19 (.mv (.t 0)),o 20 (.mv (.t 5)),o 21 (.mv (.t 8)),o 22 (f 129 [(.t 19),(.t 20),(.t 21)]),o 18 (.mv (.t 22)),o 23 (.ext (.t 18) 0),o 24 (.ext (.t 18) 1),o 9 (.mv (.t 23)),o 10 (.mv (.t 24))] [18,19,20,21,22,23,24]) (.seq (.seq (.reg [o 25 (.mv (.t 10)),o 26 (.not (.t 25))] [10,25]) (.cond (.t 26) (.exit 0) .skip)) (.seq (.reg [o 28 (.mv (.t 4)),o 29 (.mv (.t 9)),o 30 (.mv (.t 8)),o 31 (.build [(.i .i64 (.l 0)),(.i .i64 (.l 0))] [(0,1,(.t 29)),(1,1,(.t 30))]),o 32 (.look ⟨true,[.ki,.ki]⟩ (.i .u8 (.l 0)) true (.t 28) (.t 31)),o 27 (.mv (.t 32)),o 33 (.ext (.t 27) 0),o 34 (.ext (.t 27) 1),o 11 (.mv (.t 33)),o 12 (.mv (.t 34))] [9,27,28,29,30,31,32,33,34]) (.seq (.reg [o 35 (.mv (.t 12))] [12]) (.cond (.t 35) (.seq (.reg [o 36 (.mv (.t 2)),o 37 (.mv (.t 11)),o 38 (.buildS 1 1 [(.i .u8 (.l 0))] [(0,(.t 37))]),o 39 (.app 1 (.t 36) (.t 38)),o 2 (.mv (.t 39))] [11,36,37,38,39]) (.seq (.reg [o 40 (.mv (.t 5)),o 41 (.mv (.t 8)),o 42 (.bin .add (.t 40) (.t 41)),o 5 (.mv (.t 42))] [8,40,41,42]) (.goto 0))) .skip))))))) (.reg [o 43 (.bin .add (.t 15) (z 1)),o 15 (.mv (.t 43))] [43]))))))) (.seq (.seq (.reg [o 44 (.mv (.t 0)),o 45 (.len false (.t 44)),o 46 (.bin .mul (z 8) (.t 45)),o 47 (.mv (.t 5)),o 48 (.bin .sub (.t 46) (.t 47)),o 5 (.mv (.t 48))] [44,45,46,47,48]) (.seq (.reg [o 49 (.mv (.t 5)),o 50 (.bin .gt (.t 49) (z 7))] [49]) (.cond (.t 50) (.goto 1) .skip))) (.seq (.reg [o 52 (.mv (.t 0)),o 53 (.mv (.t 0)),o 54 (.len false (.t 53)),o 55 (.bin .mul (z 8) (.t 54)),o 56 (.mv (.t 5)),o 57 (.bin .sub (.t 55) (.t 56)),o 58 (.mv (.t 5)),o 59 (f 129 [(.t 52),(.t 57),(.t 58)]),o 51 (.mv (.t 59)),o 60 (.ext (.t 51) 0),o 61 (.ext (.t 51) 1),o 6 (.mv (.t 60))] [0,51,52,53,54,55,56,57,58,59,60,61]) (.seq (.seq (.reg [o 62 (.mv (.t 6)),o 63 (.mv (.t 5)),o 64 (.bin .shl (z 1) (.t 63)),o 65 (.bin .sub (.t 64) (z 1)),o 66 (.bin .eq (.t 62) (.t 65))] [5,6,62,63,64,65]) (.cond (.t 66) (.seq (.reg [o 67 (.mv (.t 2)),o 2 (.mv (.t 67)),o 3 (.mv (z 0))] [67]) .ret) .skip)) (.seq (.label 1) (.seq (.reg [o 2 (.mv (.c (.re (.slice none 0 0)))),o 3 (.mv (z 70))] []) .ret)))))))))))
theorem qzace : FnIs Tryd.prog 122 68 [.t 2, .t 3] qzabr :=
  ⟨Tryd.f122, _, qzabn, Tryd.func122, rfl, rfl, by kernel_rfl, by kernel_rfl, Tryd.call122⟩
def qyo : Nat → List Nat := kk [[0]]
def huff_bytes : IR :=
 (.seq (.reg [o 0 (.mv (.c (.re .nilFunc)))] [0]) (.seq (.reg [o 0 (.mv (.c (.fn (.func 130) [] [])))] []) .ret))
theorem qnv : FnIs Tryd.prog 123 1 [.t 0] huff_bytes :=
  ⟨Tryd.f123, _, qyo, Tryd.func123, rfl, rfl, by kernel_rfl, by kernel_rfl, Tryd.call123⟩
def qmc : Nat → List Nat := kk [[4,5],[12],[],[13],[15,16],[17,18,19,20,21,22,23,24,25],[9,26],[],[8,28,29,30,31,32,33,34,35],[11],[6,7,10,37,38,39,40]]
def qcg : List (Nat × List Nat) := [(0,[]),(1,[]),(2,[]),(3,[]),(4,[]),(5,[])]
def qqv : IR :=
 (.seq (.reg [o 4 (.mv (.c (.i .u8 (.l 0)))),o 5 (.mv (z 0))] [4,5]) (.seq (.reg [o 12 (.build [(.i .i64 (.l 0)),(.i .i64 (.l 0)),(.i .i64 (.l 0)),(.i .i64 (.l 0))] [(0,1,(z 5)),(1,1,(z 6)),(2,1,(z 7)),(3,1,(z 11))]),o 6 (.alloc [(.i .i64 (.l 0)),(.i .i64 (.l 0)),(.i .i64 (.l 0)),(.i .i64 (.l 0))]),u (.store 4 (.t 6) (.t 12))] [12]) (.seq (.seq (.reg [o 7 (.mv (z 0))] []) (.block 0 (.loop (.seq (.seq (.reg [o 13 (.mv (.t 7)),o 14 (.bin .lt (.t 13) (z 4))] [13]) (.cond (.t 14) .skip (.exit 0))) (.seq (.block 1 (.seq (.reg [o 18 (.mv (.t 0)),o 19 (.mv (.t 1)),o 20 (.mv (.t 7)),o 21 (.iadA 4 1 (.t 6) (.t 20)),o 22 (.load false 1 (.t 21)),o 23 (f 127 [(.t 18),(.t 19),(.t 22)]),o 17 (.mv (.t 23)),o 24 (.ext (.t 17) 0),o 25 (.ext (.t 17) 1),o 8 (.mv (.t 24)),o 9 (.mv (.t 25))] [17,18,19,20,21,22,23,24,25]) (.seq (.seq (.reg [o 26 (.mv (.t 9)),o 27 (.not (.t 26))] [9,26]) (.cond (.t 27) (.seq (.reg [o 4 (.mv (.c (.i .u8 (.l 0)))),o 5 (.mv (z 0))] []) .ret) .skip)) (.seq (.reg [o 29 (.mv (.t 8)),o 30 (.mv (.t 7)),o 31 (.iadA 4 1 (.t 6) (.t 30)),o 32 (.load false 1 (.t 31)),o 33 (f 132 [(.t 29),(.t 32)]),o 28 (.mv (.t 33)),o 34 (.ext (.t 28) 0),o 35 (.ext (.t 28) 1),o 10 (.mv (.t 34)),o 11 (.mv (.t 35))] [8,28,29,30,31,32,33,34,35]) (.seq (.reg [o 36 (.mv (.t 11))] [11]) (.cond (.t 36) (.seq (.draw [o 37 (.mv (.t 10)),o 38 (.mv (.t 7)),o 39 (.iadA 4 1 (.t 6) (.t 38)),o 40 (.load false 1 (.t 39)),o 4 (.mv (.t 37)),o 5 (.mv (.t 40))] [[],[],[1],[2],[0,0],[3,4,0,1,2,3,4]] [6,7,10,37,38,39,40]) .ret) .skip)))))) (.reg [o 15 (.mv (.t 7)),o 16 (.bin .add (.t 15) (z 1)),o 7 (.mv (.t 16))] [15,16])))))) (.seq (.reg [o 4 (.mv (.c (.i .u8 (.l 0)))),o 5 (.mv (z 0))] []) .ret))))
theorem qmo : FnIs Tryd.prog 126 41 [.t 4, .t 5] qqv :=
  ⟨Tryd.f126, _, qmc, Tryd.func126, rfl, rfl, by kernel_rfl, by kernel_rfl, Tryd.call126⟩
def qmf : Nat → List Nat := kk [[6,7],[12,13,14,15,16,17,18,19,20,21,22,23,24,25,26,27,28,29,30,31,32,33,34,35,36],[],[],[],[38,39],[41,42],[11,43,44,45,46,47,48,49,50],[10,51,52,53,54],[8,55]]
def qif : List Nat := [3,4,5,6,7,10,11,12,13,14,15,16,17,18,19,20,21,22,23,24,25,26,27,28,29,30,31,32,33,34,35,36,37,38,39,40,41,42,43,44,45,46,47,48,49,50,51,52,53,54,55]
def qqy : IR :=
 (.seq (.reg [o 6 (.mv (z 0)),o 7 (.mv (.c .ff))] [6,7]) (.seq (.seq (.reg [o 12 (.mv (.t 2)),o 13 (.bin .lt (.t 12) (z 0)),o 14 (.mv (.t 13)),q 15 (.mv (.t 2)) 14 false,q 16 (.bin .gt (.t 15) (z 30)) 14 false,o 17 (.pick (.t 14) (.c .tt) (.t 16)),o 18 (.mv (.t 17)),q 19 (.mv (.t 1)) 18 false,q 20 (.bin .lt (.t 19) (z 0)) 18 false,o 21 (.pick (.t 18) (.c .tt) (.t 20)),o 22 (.mv (.t 21)),q 23 (.mv (.t 1)) 22 false,q 24 (.mv (.t 0)) 22 false,q 25 (.len false (.t 24)) 22 false,q 26 (.bin .mul (z 8) (.t 25)) 22 false,q 27 (.bin .gt (.t 23) (.t 26)) 22 false,o 28 (.pick (.t 22) (.c .tt) (.t 27)),o 29 (.mv (.t 28)),q 30 (.mv (.t 0)) 29 false,q 31 (.len false (.t 30)) 29 false,q 32 (.bin .mul (z 8) (.t 31)) 29 false,q 33 (.mv (.t 1)) 29 false,q 34 (.bin .sub (.t 32) (.t 33)) 29 false,q 35 (.mv (.t 2)) 29 false,q 36 (.bin .lt (.t 34) (.t 35)) 29 false,o 37 (.pick (.t 29) (.c .tt) (.t 36))] [12,13,14,15,16,17,18,19,20,21,22,23,24,25,26,27,28,29,30,31,32,33,34,35,36]) (.cond (.t 37) (.seq (.reg [o 6 (.mv (z 0)),o 7 (.mv (.c .ff))] []) .ret) .skip)) (.seq (.reg [o 8 (.mv (z 0))] []) (.seq (.seq (.reg [o 9 (.mv (z 0))] []) (.block 0 (.loop (.seq (.seq (.reg [o 38 (.mv (.t 9)),o 39 (.mv (.t 2)),o 40 (.bin .lt (.t 38) (.t 39))] [38,39]) (.cond (.t 40) .skip (.exit 0))) (.seq (.block 1 (.seq (.reg [o 44 (.mv (.t 0)),o 45 (.mv (.t 1)),o 46 (.mv (.t 9)),o 47 (.bin .add (.t 45) (.t 46)),o 48 (f 133 [(.t 44),(.t 47)]),o 43 (.mv (.t 48)),o 49 (.ext (.t 43) 0),o 50 (.ext (.t 43) 1),o 10 (.mv (.t 49)),o 11 (.mv (.t 50))] [11,43,44,45,46,47,48,49,50]) (.reg [o 51 (.mv (.t 8)),o 52 (.bin .mul (z 2) (.t 51)),o 53 (.mv (.t 10)),o 54 (.bin .add (.t 52) (.t 53)),o 8 (.mv (.t 54))] [10,51,52,53,54]))) (.reg [o 41 (.mv (.t 9)),o 42 (.bin .add (.t 41) (z 1)),o 9 (.mv (.t 42))] [41,42])))))) (.seq (.reg [o 55 (.mv (.t 8)),o 6 (.mv (.t 55)),o 7 (.mv (.c .tt))] [8,55]) .ret)))))
theorem qmr : FnIs Tryd.prog 127 56 [.t 6, .t 7] qqy :=
  ⟨Tryd.f127, _, qmf, Tryd.func127, rfl, rfl, by kernel_rfl, by kernel_rfl, Tryd.call127⟩
def qym : Nat → List Nat := kk [[],[4],[],[6],[7],[1,2,3,8,9,10],[1,11]]
def qwh : IR :=
 (.seq (.reg [o 0 (.mv (.c (.re (.map none))))] []) (.seq (.reg [o 4 .mkM,o 1 (.alloc [(.re (.map none))]),u (.store 1 (.t 1) (.t 4))] [4]) (.seq (.seq (.reg [o 5 (f 123 [])] []) (.block 0 (.rf (.t 5) [6,7] (.seq (.reg [o 2 (.mv (.t 6))] [6]) (.reg [o 3 (.alloc [(.i .i64 (.l 0)),(.i .i64 (.l 0))]),u (.store 2 (.t 3) (.t 7))] [7])) (.block 1 (.reg [o 8 (.load false 1 (.t 1)),o 9 (.load true 2 (.t 3)),o 10 (.mv (.t 2)),u (.mupd ⟨true,[.ki,.ki]⟩ (.t 8) (.t 9) (.t 10))] [1,2,3,8,9,10]))))) (.seq (.reg [o 11 (.load false 1 (.t 1)),o 0 (.mv (.t 11))] [1,11]) .ret))))
theorem qyw : FnIs Tryd.prog 128 12 [.t 0] qwh :=
  ⟨Tryd.f128, _, qym, Tryd.func128, rfl, rfl, by kernel_rfl, by kernel_rfl, Tryd.call128⟩
def qyl : Nat → List Nat := kk [[6,7],[8],[0,1,10,11,12,13,14,15,16,17,18],[19,20,21,22,23],[],[0,1,2,25,26,27,28,29,30]]
def octet_Bits : IR :=
 (.seq (.reg [o 6 (.mv (z 0)),o 7 (.mv (.c .ff))] [6,7]) (.seq (.seq (.reg [o 8 (.mv (.t 2)),o 9 (.bin .eq (.t 8) (z 0))] [8]) (.cond (.t 9) (.seq (.reg [o 10 (.mv (.t 1)),o 11 (.bin .ge (.t 10) (z 0)),o 12 (.mv (.t 11)),q 13 (.mv (.t 1)) 12 true,q 14 (.mv (.t 0)) 12 true,q 15 (.len false (.t 14)) 12 true,q 16 (.bin .mul (z 8) (.t 15)) 12 true,q 17 (.bin .le (.t 13) (.t 16)) 12 true,o 18 (.pick (.t 12) (.t 17) (.c .ff)),o 6 (.mv (z 0)),o 7 (.mv (.t 18))] [0,1,10,11,12,13,14,15,16,17,18]) .ret) .skip)) (.seq (.seq (.reg [o 19 (.mv (.t 2)),o 20 (.bin .lt (.t 19) (z 0)),o 21 (.mv (.t 20)),q 22 (.mv (.t 2)) 21 false,q 23 (.bin .gt (.t 22) (z 30)) 21 false,o 24 (.pick (.t 21) (.c .tt) (.t 23))] [19,20,21,22,23]) (.cond (.t 24) (.seq (.reg [o 6 (.mv (z 0)),o 7 (.mv (.c .ff))] []) .ret) .skip)) (.seq (.reg [o 25 (.mv (.t 0)),o 26 (.mv (.t 1)),o 27 (.mv (.t 2)),o 28 (f 134 [(.t 25),(.t 26),(.t 27)]),o 29 (.ext (.t 28) 0),o 30 (.ext (.t 28) 1),o 6 (.mv (.t 29)),o 7 (.mv (.t 30))] [0,1,2,25,26,27,28,29,30]) .ret))))
theorem qyv : FnIs Tryd.prog 129 31 [.t 6, .t 7] octet_Bits :=
  ⟨Tryd.f129, _, qyl, Tryd.func129, rfl, rfl, by kernel_rfl, by kernel_rfl, Tryd.call129⟩
def qtb : Nat → List Nat := kk [[8,9],[],[],[12],[],[],[],[16,17],[6,18,19,20,21],[5,23,24],[25],[26,27,28],[29,30,31,32],[3,4,7,33,34,35,36,37,38,39],[41]]
def qfq : List Nat := [1,3,4,5,6,7,8,9,11,12,13,14,15,16,17,18,19,20,21,22,23,24,25,26,27,28,29,30,31,32,33,34,35,36,37,38,39,40,41]
def qzabq : IR :=
 (.seq (.reg [o 8 .mkM,u (.mupd ⟨false,[.ki]⟩ (.t 8) (z 5) (z 0)),u (.mupd ⟨false,[.ki]⟩ (.t 8) (z 6) (z 32)),u (.mupd ⟨false,[.ki]⟩ (.t 8) (z 7) (z 96)),u (.mupd ⟨false,[.ki]⟩ (.t 8) (z 11) (z 1792)),o 9 (.mv (.t 8)),o 2 (.mv (.t 9))] [8,9]) (.seq (.reg [o 10 (.mv (z 0))] []) (.block 0 (.loop (.seq (.reg [o 11 (.bin .lt (.t 10) (z 256))] []) (.seq (.cond (.t 11) .skip (.exit 0)) (.seq (.block 1 (.seq (.reg [o 12 (.mv (.t 10)),o 3 (.mv (.t 12))] [12]) (.seq (.reg [o 4 (.mv (z 11))] []) (.seq (.seq (.reg [o 13 (.build [(.s []),(.s []),(.s [])] [(0,1,(.c (.s [45,47,48,49,50,51,97,99,101,105,110,111,114,115,116,117]))),(1,1,(.c (.s [46,52,53,54,55,56,57,58,98,100,102,103,104,108,109,112]))),(2,1,(.c (.s [65,66,67,68,69,70,71,72,106,107,113,118,119,120,121,122])))]),o 14 (.mv (z 0))] []) (.block 2 (.loop (.seq (.reg [o 15 (.bin .lt (.t 14) (z 3))] []) (.seq (.cond (.t 15) .skip (.exit 2)) (.seq (.block 3 (.seq (.reg [o 16 (.mv (.t 14)),o 17 (.ixA false 3 1 (.t 13) (.t 14)),o 5 (.mv (.t 16)),o 6 (.mv (.t 17))] [16,17]) (.seq (.reg [o 18 (.mv (.t 6)),o 19 (.mv (.t 3)),o 20 (.cv .u8 (.t 19)),o 21 (f 131 [(.t 18),(.t 20)]),o 22 (.bin .ge (.t 21) (z 0))] [6,18,19,20,21]) (.cond (.t 22) (.reg [o 23 (.mv (.t 5)),o 24 (.bin .add (z 5) (.t 23)),o 4 (.mv (.t 24))] [5,23,24]) .skip)))) (.reg [o 25 (.bin .add (.t 14) (z 1)),o 14 (.mv (.t 25))] [25]))))))) (.seq (.reg [o 26 (.mv (.t 2)),o 27 (.mv (.t 4)),o 28 (.look ⟨false,[.ki]⟩ (.i .i64 (.l 0)) false (.t 26) (.t 27)),o 7 (.mv (.t 28))] [26,27,28]) (.seq (.reg [o 29 (.mv (.t 2)),o 30 (.mv (.t 4)),o 31 (.look ⟨false,[.ki]⟩ (.i .i64 (.l 0)) false (.t 29) (.t 30)),o 32 (.bin .add (.t 31) (z 1)),u (.mupd ⟨false,[.ki]⟩ (.t 29) (.t 30) (.t 32))] [29,30,31,32]) (.seq (.reg [o 33 (.mv (.t 0)),o 34 (.mv (.t 3)),o 35 (.cv .u8 (.t 34)),o 36 (.mv (.t 7)),o 37 (.mv (.t 4)),o 38 (.build [(.i .i64 (.l 0)),(.i .i64 (.l 0))] [(0,1,(.t 36)),(1,1,(.t 37))]),o 39 (.call (.t 33) [(.t 35),(.t 38)]),o 40 (.not (.t 39))] [3,4,7,33,34,35,36,37,38,39]) (.cond (.t 40) .ret .skip)))))))) (.reg [o 41 (.bin .add (.t 10) (z 1)),o 10 (.mv (.t 41))] [41]))))))))
theorem qjn : FnIs Tryd.prog 130 42 [] qzabq :=
  ⟨Tryd.f130, _, qtb, Tryd.func130, rfl, rfl, by kernel_rfl, by kernel_rfl, Tryd.call130⟩
def qkq : Nat → List Nat := kk [[4],[0,1,5,6,7]]
def qop : IR :=
 (.seq (.reg [o 4 (.mv (z 0))] [4]) (.seq (.reg [o 5 (.mv (.t 0)),o 6 (.mv (.t 1)),o 7 (f 116 [(.t 5),(.t 6)]),o 4 (.mv (.t 7))] [0,1,5,6,7]) .ret))
theorem qkw : FnIs Tryd.prog 131 8 [.t 4] qop :=
  ⟨Tryd.f131, _, qkq, Tryd.func131, rfl, rfl, by kernel_rfl, by kernel_rfl, Tryd.call131⟩
def qpe : Nat → List Nat := kk [[4,5],[],[9],[11,12],[13,14,15,16,17,18],[7,8,19,20,21,22,23,24,25],[6,27,28]]
def qjw : List Nat := [2,3,4,5,7,8,9,10,11,12,13,14,15,16,17,18,19,20,21,22,23,24,25,26,27,28]
def qvm : IR :=
 (.seq (.reg [o 4 (.mv (.c (.i .u8 (.l 0)))),o 5 (.mv (.c .ff))] [4,5]) (.seq (.seq (.reg [o 6 (.mv (z 0))] []) (.block 0 (.loop (.seq (.seq (.reg [o 9 (.mv (.t 6)),o 10 (.bin .lt (.t 9) (z 256))] [9]) (.cond (.t 10) .skip (.exit 0))) (.seq (.block 1 (.seq (.reg [o 14 (.mv (.t 6)),o 15 (.cv .u8 (.t 14)),o 16 (f 135 [(.t 15)]),o 13 (.mv (.t 16)),o 17 (.ext (.t 13) 0),o 18 (.ext (.t 13) 1),o 7 (.mv (.t 17)),o 8 (.mv (.t 18))] [13,14,15,16,17,18]) (.seq (.reg [o 19 (.mv (.t 7)),o 20 (.mv (.t 0)),o 21 (.bin .eq (.t 19) (.t 20)),o 22 (.mv (.t 21)),q 23 (.mv (.t 8)) 22 true,q 24 (.mv (.t 1)) 22 true,q 25 (.bin .eq (.t 23) (.t 24)) 22 true,o 26 (.pick (.t 22) (.t 25) (.c .ff))] [7,8,19,20,21,22,23,24,25]) (.cond (.t 26) (.seq (.reg [o 27 (.mv (.t 6)),o 28 (.cv .u8 (.t 27)),o 4 (.mv (.t 28)),o 5 (.mv (.c .tt))] [6,27,28]) .ret) .skip)))) (.reg [o 11 (.mv (.t 6)),o 12 (.bin .add (.t 11) (z 1)),o 6 (.mv (.t 12))] [11,12])))))) (.seq (.reg [o 4 (.mv (.c (.i .u8 (.l 0)))),o 5 (.mv (.c .ff))] []) .ret)))
theorem qpl : FnIs Tryd.prog 132 29 [.t 4, .t 5] qvm :=
  ⟨Tryd.f132, _, qpe, Tryd.func132, rfl, rfl, by kernel_rfl, by kernel_rfl, Tryd.call132⟩
def qno : Nat → List Nat := kk [[4,5],[8,9,10,11,12,13,14,15],[],[0,17,18,19,20,21,22],[],[23,24,25,26],[28,29],[30,31],[6,32,33]]
def qip : List Nat := [0,2,3,4,5,8,9,10,11,12,13,14,15,16,17,18,19,20,21,22,23,24,25,26,27,28,29,30,31,32,33]
def qub : IR :=
 (.seq (.reg [o 4 (.mv (z 0)),o 5 (.mv (.c .ff))] [4,5]) (.seq (.seq (.reg [o 8 (.mv (.t 1)),o 9 (.bin .lt (.t 8) (z 0)),o 10 (.mv (.t 9)),q 11 (.mv (.t 1)) 10 false,q 12 (.bin .quo (.t 11) (z 8)) 10 false,q 13 (.mv (.t 0)) 10 false,q 14 (.len false (.t 13)) 10 false,q 15 (.bin .ge (.t 12) (.t 14)) 10 false,o 16 (.pick (.t 10) (.c .tt) (.t 15))] [8,9,10,11,12,13,14,15]) (.cond (.t 16) (.seq (.reg [o 4 (.mv (z 0)),o 5 (.mv (.c .ff))] []) .ret) .skip)) (.seq (.reg [o 17 (.mv (.t 0)),o 18 (.mv (.t 1)),o 19 (.bin .quo (.t 18) (z 8)),o 20 (.iadS 1 (.t 17) (.t 19)),o 21 (.load false 1 (.t 20)),o 22 (.cv .i64 (.t 21)),o 6 (.mv (.t 22))] [0,17,18,19,20,21,22]) (.seq (.seq (.reg [o 7 (.mv (z 0))] []) (.block 0 (.loop (.seq (.seq (.reg [o 23 (.mv (.t 7)),o 24 (.mv (.t 1)),o 25 (.bin .rem (.t 24) (z 8)),o 26 (.bin .sub (z 7) (.t 25)),o 27 (.bin .lt (.t 23) (.t 26))] [23,24,25,26]) (.cond (.t 27) .skip (.exit 0))) (.seq (.block 1 (.reg [o 30 (.mv (.t 6)),o 31 (.bin .quo (.t 30) (z 2)),o 6 (.mv (.t 31))] [30,31])) (.reg [o 28 (.mv (.t 7)),o 29 (.bin .add (.t 28) (z 1)),o 7 (.mv (.t 29))] [28,29])))))) (.seq (.reg [o 32 (.mv (.t 6)),o 33 (.bin .rem (.t 32) (z 2)),o 4 (.mv (.t 33)),o 5 (.mv (.c .tt))] [6,32,33]) .ret)))))
theorem qnw : FnIs Tryd.prog 133 34 [.t 4, .t 5] qub :=
  ⟨Tryd.f133, _, qno, Tryd.func133, rfl, rfl, by kernel_rfl, by kernel_rfl, Tryd.call133⟩
def quz : Nat → List Nat := kk [[],[10],[],[2,12],[0,1,13,14],[16],[9,17,18,19,20,21],[22,23],[8,24],[26]]
def qzadk : IR :=
 (.seq (.reg [o 6 (.alloc [(.i .i64 (.l 0))]),o 7 (.alloc [.ff])] []) (.seq (.seq (.reg [o 10 (.mv (.t 1)),o 11 (.bin .lt (.t 10) (z 0))] [10]) (.cond (.t 11) (.seq (.reg [u (.store 1 (.t 6) (z 0)),u (.store 1 (.t 7) (.c .ff))] []) .ret) .skip)) (.seq (.reg [o 12 (.mv (.t 2)),o 8 (.alloc [(.i .i64 (.l 0))]),u (.store 1 (.t 8) (.t 12))] [2,12]) (.seq (.seq (.reg [o 13 (.mv (.t 0)),o 14 (.mv (.t 1)),o 15 (f 136 [(.t 13),(.t 14)])] [0,1,13,14]) (.block 0 (.rf (.t 15) [16] (.reg [o 9 (.mv (.t 16))] [16]) (.block 1 (.seq (.reg [o 17 (.load false 1 (.t 6)),o 18 (.bin .shl (.t 17) (.c (.i .u64 (.l 1)))),o 19 (.mv (.t 9)),o 20 (.cv .i64 (.t 19)),o 21 (.bin .or (.t 18) (.t 20)),u (.store 1 (.t 6) (.t 21))] [9,17,18,19,20,21]) (.seq (.reg [o 22 (.load false 1 (.t 8)),o 23 (.bin .sub (.t 22) (z 1)),u (.store 1 (.t 8) (.t 23))] [22,23]) (.seq (.reg [o 24 (.load false 1 (.t 8)),o 25 (.bin .eq (.t 24) (z 0))] [8,24]) (.cond (.t 25) (.seq (.reg [o 26 (.load false 1 (.t 6)),u (.store 1 (.t 6) (.t 26)),u (.store 1 (.t 7) (.c .tt))] [26]) .ret) .skip)))))))) (.seq (.reg [u (.store 1 (.t 6) (z 0)),u (.store 1 (.t 7) (.c .ff))] []) .ret)))))
theorem qvk : FnIs Tryd.prog 134 27 [.c 6 false 1, .c 7 false 1] qzadk :=
  ⟨Tryd.f134, _, quz, Tryd.func134, rfl, rfl, by kernel_rfl, by kernel_rfl, Tryd.call134⟩
def qmd : Nat → List Nat := kk [[2,3],[5,6,7],[0,8,9],[11,12,13],[0,14,15,16],[18,19,20],[0,21,22,23],[0,24,25,26]]
def qqw : IR :=
 (.seq (.reg [o 2 (.mv (z 0)),o 3 (.mv (z 0))] [2,3]) (.seq (.block 0 (.seq (.reg [o 5 (.mv (.t 0)),o 6 (f 137 [(.c (.s [45,47,48,49,50,51,97,99,101,105,110,111,114,115,116,117])),(.t 5)]),o 7 (.bin .ge (.t 6) (z 0)),o 4 (.mv (.t 7))] [5,6,7]) (.cond (.t 4) (.seq (.reg [o 8 (.mv (.t 0)),o 9 (f 137 [(.c (.s [45,47,48,49,50,51,97,99,101,105,110,111,114,115,116,117])),(.t 8)]),o 2 (.mv (.t 9)),o 3 (.mv (z 5))] [0,8,9]) .ret) (.seq (.reg [o 11 (.mv (.t 0)),o 12 (f 137 [(.c (.s [46,52,53,54,55,56,57,58,98,100,102,103,104,108,109,112])),(.t 11)]),o 13 (.bin .ge (.t 12) (z 0)),o 10 (.mv (.t 13))] [11,12,13]) (.cond (.t 10) (.seq (.reg [o 14 (.mv (.t 0)),o 15 (f 137 [(.c (.s [46,52,53,54,55,56,57,58,98,100,102,103,104,108,109,112])),(.t 14)]),o 16 (.bin .add (z 32) (.t 15)),o 2 (.mv (.t 16)),o 3 (.mv (z 6))] [0,14,15,16]) .ret) (.seq (.reg [o 18 (.mv (.t 0)),o 19 (f 137 [(.c (.s [65,66,67,68,69,70,71,72,106,107,113,118,119,120,121,122])),(.t 18)]),o 20 (.bin .ge (.t 19) (z 0)),o 17 (.mv (.t 20))] [18,19,20]) (.cond (.t 17) (.seq (.reg [o 21 (.mv (.t 0)),o 22 (f 137 [(.c (.s [65,66,67,68,69,70,71,72,106,107,113,118,119,120,121,122])),(.t 21)]),o 23 (.bin .add (z 96) (.t 22)),o 2 (.mv (.t 23)),o 3 (.mv (z 7))] [0,21,22,23]) .ret) .skip))))))) (.seq (.reg [o 24 (.mv (.t 0)),o 25 (f 138 [(.t 24)]),o 26 (.bin .add (z 1792) (.t 25)),o 2 (.mv (.t 26)),o 3 (.mv (z 11))] [0,24,25,26]) .ret)))
theorem qmp : FnIs Tryd.prog 135 27 [.t 2, .t 3] qqw :=
  ⟨Tryd.f135, _, qmd, Tryd.func135, rfl, rfl, by kernel_rfl, by kernel_rfl, Tryd.call135⟩
def qyk : Nat → List Nat := kk [[0,1,4],[2,3,5]]
def octet_bits : IR :=
 (.seq (.reg [o 2 (.box (.t 0)),o 3 (.box (.t 1)),o 4 (.mv (.c (.re .nilFunc)))] [0,1,4]) (.seq (.reg [o 5 (.mkF (.func 139) [] [(.t 3),(.t 2)]),o 4 (.mv (.t 5))] [2,3,5]) .ret))
theorem qyu : FnIs Tryd.prog 136 6 [.t 4] octet_bits :=
  ⟨Tryd.f136, _, qyk, Tryd.func136, rfl, rfl, by kernel_rfl, by kernel_rfl, Tryd.call136⟩
def qkt : Nat → List Nat := kk [[4],[],[6,7,8],[10,11],[12,13,14,15],[5,17]]
def qhh : List Nat := [2,3,4,6,7,8,9,10,11,12,13,14,15,16,17]
def qpv : IR :=
 (.seq (.reg [o 4 (.mv (z 0))] [4]) (.seq (.seq (.reg [o 5 (.mv (z 0))] []) (.block 0 (.loop (.seq (.seq (.reg [o 6 (.mv (.t 5)),o 7 (.mv (.t 0)),o 8 (.len true (.t 7)),o 9 (.bin .lt (.t 6) (.t 8))] [6,7,8]) (.cond (.t 9) .skip (.exit 0))) (.seq (.block 1 (.seq (.reg [o 12 (.mv (.t 0)),o 13 (.mv (.t 5)),o 14 (.ixS (.t 12) (.t 13)),o 15 (.mv (.t 1)),o 16 (.bin .eq (.t 14) (.t 15))] [12,13,14,15]) (.cond (.t 16) (.seq (.reg [o 17 (.mv (.t 5)),o 4 (.mv (.t 17))] [5,17]) .ret) .skip))) (.reg [o 10 (.mv (.t 5)),o 11 (.bin .add (.t 10) (z 1)),o 5 (.mv (.t 11))] [10,11])))))) (.seq (.reg [o 4 (.mv (z (-1)))] []) .ret)))
theorem qkz : FnIs Tryd.prog 137 18 [.t 4] qpv :=
  ⟨Tryd.f137, _, qkt, Tryd.func137, rfl, rfl, by kernel_rfl, by kernel_rfl, Tryd.call137⟩
def qjh : Nat → List Nat := kk [[2],[],[],[5,6,7],[9,10],[11,12,13],[15,16],[3,17]]
def qgq : List Nat := [1,2,5,6,7,8,9,10,11,12,13,14,15,16,17]
def qoh : IR :=
 (.seq (.reg [o 2 (.mv (z 0))] [2]) (.seq (.reg [o 3 (.mv (z 0))] []) (.seq (.seq (.reg [o 4 (.mv (z 0))] []) (.block 0 (.loop (.seq (.seq (.reg [o 5 (.mv (.t 4)),o 6 (.mv (.t 0)),o 7 (.cv .i64 (.t 6)),o 8 (.bin .lt (.t 5) (.t 7))] [5,6,7]) (.cond (.t 8) .skip (.exit 0))) (.seq (.block 1 (.seq (.reg [o 11 (.mv (.t 4)),o 12 (.cv .u8 (.t 11)),o 13 (f 137 [(.c (.s [45,47,48,49,50,51,97,99,101,105,110,111,114,115,116,117,46,52,53,54,55,56,57,58,98,100,102,103,104,108,109,112,65,66,67,68,69,70,71,72,106,107,113,118,119,120,121,122])),(.t 12)]),o 14 (.bin .lt (.t 13) (z 0))] [11,12,13]) (.cond (.t 14) (.reg [o 15 (.mv (.t 3)),o 16 (.bin .add (.t 15) (z 1)),o 3 (.mv (.t 16))] [15,16]) .skip))) (.reg [o 9 (.mv (.t 4)),o 10 (.bin .add (.t 9) (z 1)),o 4 (.mv (.t 10))] [9,10])))))) (.seq (.reg [o 17 (.mv (.t 3)),o 2 (.mv (.t 17))] [3,17]) .ret))))
theorem qjr : FnIs Tryd.prog 138 18 [.t 2] qoh :=
  ⟨Tryd.f138, _, qjh, Tryd.func138, rfl, rfl, by kernel_rfl, by kernel_rfl, Tryd.call138⟩
def qta : Nat → List Nat := kk [[4,5,6,7],[9,10],[11,12,13,14,15,16,17,18,19,20,21,22]]
def qmu : List Nat := [3,4,5,6,7,8,9,10,11,12,13,14,15,16,17,18,19,20,21,22,23]
def qnl : List (Nat × List Nat) := [(0,[]),(1,[]),(2,[]),(3,[]),(4,[]),(5,[]),(6,[]),(7,[]),(8,[]),(9,[]),(10,[]),(11,[]),(12,[])]
def qzabc : IR :=
 (.block 0 (.loop (.seq (.seq (.reg [o 4 (.load false 1 (.t 1)),o 5 (.bin .shr (.t 4) (.c (.i .u64 (.l 3)))),o 6 (.load false 1 (.t 2)),o 7 (.len false (.t 6)),o 8 (.bin .lt (.t 5) (.t 7))] [4,5,6,7]) (.cond (.t 8) .skip (.exit 0))) (.seq (.block 1 (.seq (.draw [o 11 (.mv (.t 0)),o 12 (.load false 1 (.t 2)),o 13 (.load false 1 (.t 1)),o 14 (.bin .shr (.t 13) (.c (.i .u64 (.l 3)))),o 15 (.iadS 1 (.t 12) (.t 14)),o 16 (.load false 1 (.t 15)),o 17 (.load false 1 (.t 1)),o 18 (.bin .and (.t 17) (z 7)),o 19 (.bin .sub (z 7) (.t 18)),o 20 (.bin .shr (.t 16) (.t 19)),o 21 (.bin .and (.t 20) (.c (.i .u8 (.l 1)))),o 22 (.call (.t 11) [(.t 21)]),o 23 (.not (.t 22))] [[],[],[],[2],[1,3],[4],[],[6],[7],[5,8],[9],[0,10],[11]] [11,12,13,14,15,16,17,18,19,20,21,22]) (.cond (.t 23) .ret .skip))) (.reg [o 9 (.load false 1 (.t 1)),o 10 (.bin .add (.t 9) (z 1)),u (.store 1 (.t 1) (.t 10))] [9,10])))))
theorem qto : FnIs Tryd.prog 139 24 [] qzabc :=
  ⟨Tryd.f139, _, qta, Tryd.func139, rfl, rfl, by kernel_rfl, by kernel_rfl, Tryd.call139⟩
end I
end Cz
namespace Hu
def valB : List Bool → Nat := List.foldl (fun n b => 2 * n + b.toNat) 0
def bitsN : Nat → Nat → List Bool
  | 0, _ => []
  | m + 1, n => bitsN m (n / 2) ++ [n % 2 == 1]
theorem qbh : ∀ (m n : Nat), (bitsN m n).length = m
  | 0, _ => rfl
  | m + 1, n => by simp [bitsN, qbh m]
theorem qns : ∀ (l : List Bool) (a : Nat), l.foldl (fun n b => 2 * n + b.toNat) a = a * 2 ^ l.length + valB l
  | [], a => by simp [valB]
  | b :: l, a => by
    simp only [List.foldl_cons, valB, List.length_cons]
    rw [qns l, qns l (2 * 0 + b.toNat), Nat.pow_succ]
    generalize 2 ^ l.length = q
    have : (2 * a + b.toNat) * q = a * (q * 2) + (2 * 0 + b.toNat) * q := by
      rw [Nat.add_mul, Nat.mul_zero, Nat.zero_add, Nat.mul_comm 2 a, Nat.mul_assoc, Nat.mul_comm 2 q]
    omega
theorem qzw (b : Bool) (l : List Bool) : valB (b :: l) = b.toNat * 2 ^ l.length + valB l := by
  have := qns l (2 * 0 + b.toNat)
  simpa [valB] using this
theorem qeh (l m : List Bool) : valB (l ++ m) = valB l * 2 ^ m.length + valB m := by
  simp only [valB, List.foldl_append]
  exact qns m _
theorem qrr (l : List Bool) (b : Bool) : valB (l ++ [b]) = 2 * valB l + b.toNat := by
  rw [qeh]; simp [valB]; omega
theorem qlm : ∀ (l : List Bool), valB l < 2 ^ l.length
  | [] => by simp [valB]
  | b :: l => by
    rw [qzw, List.length_cons, Nat.pow_succ]
    have := qlm l
    cases b <;> simp only [Bool.toNat_true, Bool.toNat_false] <;> omega
theorem qjy : ∀ (m n : Nat), n < 2 ^ m → valB (bitsN m n) = n
  | 0, n, h => by simp at h; subst h; rfl
  | m + 1, n, h => by
    rw [Nat.pow_succ] at h
    rw [bitsN, qrr, qjy m (n / 2) (by omega)]
    by_cases hb : n % 2 = 1
    · rw [hb]; simp only [beq_self_eq_true, Bool.toNat_true]; omega
    · rw [show (n % 2 == 1) = false by simpa using hb]; simp only [Bool.toNat_false]; omega
theorem bitsN_snoc (l : List Bool) (b : Bool) : bitsN (l.length + 1) (valB (l ++ [b])) = bitsN l.length (valB l) ++ [b] := by
  rw [bitsN, qrr]
  have h1 : (2 * valB l + b.toNat) / 2 = valB l := by cases b <;> simp only [Bool.toNat_true, Bool.toNat_false] <;> omega
  have h2 : ((2 * valB l + b.toNat) % 2 == 1) = b := by cases b <;> simp <;> omega
  rw [h1, h2]
theorem qko (l : List Bool) : bitsN l.length (valB l) = l := by
  suffices ∀ (r : List Bool), bitsN r.reverse.length (valB r.reverse) = r.reverse by simpa using this l.reverse
  intro r
  induction r with
  | nil => rfl
  | cons b r ih =>
    rw [List.reverse_cons, show (r.reverse ++ [b]).length = r.reverse.length + 1 by simp, bitsN_snoc, ih]
theorem valB_inj {l m : List Bool} (hl : l.length = m.length) (h : valB l = valB m) : l = m := by
  rw [← qko l, ← qko m, hl, h]
theorem qmx : ∀ k, valB (List.replicate k true) = 2 ^ k - 1
  | 0 => rfl
  | k + 1 => by
    rw [List.replicate_succ, qzw, qmx k, List.length_replicate, Nat.pow_succ]
    have := Nat.two_pow_pos k
    simp; omega
def bl (l : List Int) : List Bool := l.flatMap fun v => bitsN 8 v.toNat
theorem qwt (l : List Int) : (bl l).length = 8 * l.length := by
  induction l with
  | nil => rfl
  | cons v l ih => simp only [bl, List.flatMap_cons, List.length_append, qbh, List.length_cons] at *; omega
def packs : Nat → List Bool → List Int
  | 0, _ => []
  | n + 1, bs => (valB (bs.take 8) : Int) :: packs n (bs.drop 8)
def pack (bs : List Bool) : List Int := packs (bs.length / 8) bs
def BOk (l : List Int) : Prop := ∀ v ∈ l, 0 ≤ v ∧ v < 256
theorem qsk : ∀ (n : Nat) (bs : List Bool), (packs n bs).length = n
  | 0, _ => rfl
  | n + 1, bs => by simp [packs, qsk n]
theorem packs_ok : ∀ (n : Nat) (bs : List Bool), BOk (packs n bs)
  | 0, _ => by simp [packs, BOk]
  | n + 1, bs => by
    intro v hv
    simp only [packs, List.mem_cons] at hv
    rcases hv with rfl | hv
    · have h1 := qlm (bs.take 8)
      have h2 : 2 ^ (bs.take 8).length ≤ 2 ^ 8 := Nat.pow_le_pow_right (by omega) (by simp; omega)
      omega
    · exact packs_ok n _ v hv
theorem bl_packs : ∀ (n : Nat) (bs : List Bool), bs.length = 8 * n → bl (packs n bs) = bs
  | 0, bs, h => by have : bs = [] := List.length_eq_zero_iff.1 (by omega); subst this; rfl
  | n + 1, bs, h => by
    simp only [packs, bl, List.flatMap_cons]
    have h1 := bl_packs n (bs.drop 8) (by simp; omega)
    simp only [bl] at h1
    rw [h1]
    have h2 : (bs.take 8).length = 8 := by simp; omega
    have h3 := qko (bs.take 8)
    rw [h2] at h3
    simp only [Int.toNat_natCast, h3, List.take_append_drop]
theorem qxw : ∀ (l : List Int), BOk l → packs l.length (bl l) = l
  | [], _ => rfl
  | v :: l, h => by
    have hv := h v (by simp)
    have h1 : ((bl (v :: l)).take 8) = bitsN 8 v.toNat := by
      simp only [bl, List.flatMap_cons]; rw [List.take_append_of_le_length (by rw [qbh]; omega), List.take_of_length_le (by rw [qbh]; omega)]
    have h2 : ((bl (v :: l)).drop 8) = bl l := by
      simp only [bl, List.flatMap_cons]; rw [List.drop_append_of_le_length (by rw [qbh]; omega), List.drop_of_length_le (by rw [qbh]; omega)]; rfl
    simp only [List.length_cons, packs, h1, h2, qxw l (fun u hu => h u (by simp [hu]))]
    rw [qjy 8 _ (by omega)]
    simp; omega
theorem bl_inj {l m : List Int} (hl : BOk l) (hm : BOk m) (h : bl l = bl m) : l = m := by
  have h1 : l.length = m.length := by have := congrArg List.length h; rw [qwt, qwt] at this; omega
  rw [← qxw l hl, ← qxw m hm, h1, h]
def five : List Nat := [45, 47, 48, 49, 50, 51, 97, 99, 101, 105, 110, 111, 114, 115, 116, 117]
def six : List Nat := [46, 52, 53, 54, 55, 56, 57, 58, 98, 100, 102, 103, 104, 108, 109, 112]
def seven : List Nat := [65, 66, 67, 68, 69, 70, 71, 72, 106, 107, 113, 118, 119, 120, 121, 122]
def cls (c : Nat) : Nat := if five.contains c then 5 else if six.contains c then 6 else if seven.contains c then 7 else 11
def cnt (m c : Nat) : Nat := ((List.range c).filter fun x => cls x == m).length
def base (m : Nat) : Nat := if m = 5 then 0 else if m = 6 then 32 else if m = 7 then 96 else 1792
def codeOf (c : Nat) : Nat := base (cls c) + cnt (cls c) c
theorem qzg (m c : Nat) : cnt m (c + 1) = cnt m c + (if cls c = m then 1 else 0) := by
  simp only [cnt, List.range_succ, List.filter_append, List.length_append]
  by_cases h : cls c = m <;> simp [h]
def find (code many : Nat) : Option Nat := (List.range 256).find? fun c => codeOf c == code && cls c == many
theorem cnt_le (m c : Nat) : cnt m c ≤ c := by
  have := List.length_filter_le (fun x => cls x == m) (List.range c)
  simpa [cnt] using this
theorem cnt_mono (m : Nat) {c d : Nat} (h : c ≤ d) : cnt m c ≤ cnt m d := by
  induction d with
  | zero => have : c = 0 := by omega
            subst this; exact Nat.le_refl _
  | succ d ih =>
    rcases Nat.lt_or_ge d c with h1 | h1
    · have : c = d + 1 := by omega
      subst this; exact Nat.le_refl _
    · rw [qzg]; have := ih h1; omega
theorem qwp {m c d : Nat} (hc : cls c = m) (h : c < d) : cnt m c < cnt m d := by
  have h1 : cnt m (c + 1) ≤ cnt m d := cnt_mono m h
  rw [qzg, if_pos hc] at h1
  omega
theorem qjx (c : Nat) : cls c = 5 ∨ cls c = 6 ∨ cls c = 7 ∨ cls c = 11 := by
  unfold cls
  split
  · exact .inl rfl
  · split
    · exact .inr (.inl rfl)
    · split
      · exact .inr (.inr (.inl rfl))
      · exact .inr (.inr (.inr rfl))
theorem all5 : cnt 5 256 = 16 := by decide +kernel
theorem all6 : cnt 6 256 = 16 := by decide +kernel
theorem all7 : cnt 7 256 = 16 := by decide +kernel
theorem all11 : cnt 11 256 = 208 := by decide +kernel
theorem qzf {c : Nat} (h : c < 256) : (cls c = 5 ∧ codeOf c < 16) ∨ (cls c = 6 ∧ 32 ≤ codeOf c ∧ codeOf c < 48) ∨ (cls c = 7 ∧ 96 ≤ codeOf c ∧ codeOf c < 112) ∨ (cls c = 11 ∧ 1792 ≤ codeOf c ∧ codeOf c < 2000) := by
  rcases qjx c with e | e | e | e
  · have := qwp e h; rw [all5] at this; exact .inl ⟨e, by simp only [codeOf, e, base]; simp; omega⟩
  · have := qwp e h; rw [all6] at this; exact .inr (.inl ⟨e, by simp only [codeOf, e, base]; simp; omega⟩)
  · have := qwp e h; rw [all7] at this; exact .inr (.inr (.inl ⟨e, by simp only [codeOf, e, base]; simp; omega⟩))
  · have := qwp e h; rw [all11] at this; exact .inr (.inr (.inr ⟨e, by simp only [codeOf, e, base]; simp; omega⟩))
theorem qzaeb {c : Nat} (h : c < 256) : codeOf c < 2 ^ cls c := by
  rcases qzf h with ⟨e, b⟩ | ⟨e, b⟩ | ⟨e, b⟩ | ⟨e, b⟩ <;> rw [e] <;> omega
theorem qrn {c d : Nat} (h1 : cls c = cls d) (h2 : codeOf c = codeOf d) : c = d := by
  simp only [codeOf, h1] at h2
  rcases Nat.lt_trichotomy c d with h | h | h
  · have := qwp (m := cls d) h1 h; omega
  · exact h
  · have := qwp (m := cls d) rfl h; omega
theorem code_apart {c d : Nat} (hc : c < 256) (hd : d < 256) (hm : cls c ≤ cls d) (h : codeOf d / 2 ^ (cls d - cls c) = codeOf c) : c = d := by
  rcases qzf hc with ⟨e, b⟩ | ⟨e, b⟩ | ⟨e, b⟩ | ⟨e, b⟩ <;> rcases qzf hd with ⟨e', b'⟩ | ⟨e', b'⟩ | ⟨e', b'⟩ | ⟨e', b'⟩ <;> rw [e, e'] at h <;> simp at h <;>
    first | exact qrn (e.trans e'.symm) h.symm | (rw [e, e'] at hm; omega) | omega
theorem qnx {code many c : Nat} (h : find code many = some c) : c < 256 ∧ codeOf c = code ∧ cls c = many := by
  have h1 := List.find?_some h
  have h2 := List.mem_of_find?_eq_some h
  simp only [Bool.and_eq_true, beq_iff_eq] at h1
  exact ⟨by simpa using h2, h1.1, h1.2⟩
theorem qtq {c : Nat} (h : c < 256) : find (codeOf c) (cls c) = some c := by
  cases hf : find (codeOf c) (cls c) with
  | none =>
    have := List.find?_eq_none.1 hf c (by simpa using h)
    simp at this
  | some d =>
    obtain ⟨_, h1, h2⟩ := qnx hf
    rw [qrn h2 h1]
theorem qzach {code many : Nat} (h : ∀ c, c < 256 → cls c = many → codeOf c ≠ code) : find code many = none := by
  cases hf : find code many with
  | none => rfl
  | some d => obtain ⟨a, b, c⟩ := qnx hf; exact absurd b (h d a c)
def cod (c : Nat) : List Bool := bitsN (cls c) (codeOf c)
def enc (b : List Int) : List Bool := b.flatMap fun v => cod v.toNat
def at1 (bs : List Bool) (m : Nat) : Option Nat := if m ≤ bs.length then find (valB (bs.take m)) m else none
def sym (bs : List Bool) : Option (Nat × Nat) :=
  match at1 bs 5 with
  | some c => some (c, 5)
  | none => match at1 bs 6 with
    | some c => some (c, 6)
    | none => match at1 bs 7 with
      | some c => some (c, 7)
      | none => match at1 bs 11 with
        | some c => some (c, 11)
        | none => none
theorem at1_some {bs : List Bool} {m c : Nat} (h : at1 bs m = some c) : c < 256 ∧ cls c = m ∧ m ≤ bs.length ∧ bs = cod c ++ bs.drop m := by
  unfold at1 at h
  split at h
  · rename_i hm
    obtain ⟨h1, h2, h3⟩ := qnx h
    refine ⟨h1, h3, hm, ?_⟩
    have h4 := qko (bs.take m)
    rw [List.length_take, Nat.min_eq_left hm, ← h2] at h4
    have : cod c = bs.take m := by rw [cod, h3]; exact h4
    rw [this, List.take_append_drop]
  · cases h
theorem sym_some {bs : List Bool} {c m : Nat} (h : sym bs = some (c, m)) : c < 256 ∧ cls c = m ∧ m ≤ bs.length ∧ 5 ≤ m ∧ bs = cod c ++ bs.drop m := by
  unfold sym at h
  repeat' (split at h)
  all_goals first | (cases h; done) | skip
  all_goals (rename_i h1; cases h; obtain ⟨a, b, c, d⟩ := at1_some h1; exact ⟨a, b, c, by omega, d⟩)
def dec (bs : List Bool) : List Int × List Bool :=
  match h : sym bs with
  | some (c, m) => let r := dec (bs.drop m); ((c : Int) :: r.1, r.2)
  | none => ([], bs)
termination_by bs.length
decreasing_by
  obtain ⟨_, _, h1, h2, _⟩ := sym_some h
  simp only [List.length_drop]; omega
theorem qkl {bs : List Bool} {c m : Nat} (h : sym bs = some (c, m)) : dec bs = ((c : Int) :: (dec (bs.drop m)).1, (dec (bs.drop m)).2) := by
  rw [dec]; split
  · rename_i c' m' h'; rw [h] at h'; cases h'; rfl
  · rename_i h'; rw [h] at h'; cases h'
theorem qrm {bs : List Bool} (h : sym bs = none) : dec bs = ([], bs) := by
  rw [dec]; split
  · rename_i c' m' h'; rw [h] at h'; cases h'
  · rfl
theorem dec_enc (bs : List Bool) : bs = enc (dec bs).1 ++ (dec bs).2 ∧ BOk (dec bs).1 ∧ sym (dec bs).2 = none := by
  generalize hn : bs.length = n
  induction n using Nat.strongRecOn generalizing bs with
  | ind n ih =>
    cases h : sym bs with
    | none => rw [qrm h]; exact ⟨rfl, by simp [BOk], h⟩
    | some p =>
      obtain ⟨c, m⟩ := p
      obtain ⟨h1, h2, h3, h4, h5⟩ := sym_some h
      rw [qkl h]
      obtain ⟨g1, g2, g3⟩ := ih (bs.drop m).length (by simp; omega) (bs.drop m) rfl
      refine ⟨?_, ?_, g3⟩
      · simp only [enc, List.flatMap_cons, Int.toNat_natCast, List.append_assoc]
        simp only [enc] at g1
        rw [← g1]; exact h5
      · intro v hv
        simp only [List.mem_cons] at hv
        rcases hv with rfl | hv
        · omega
        · exact g2 v hv
theorem valB_take {m n k : Nat} (h : n < 2 ^ m) (hk : k ≤ m) : valB ((bitsN m n).take k) = n / 2 ^ (m - k) := by
  have h1 : bitsN m n = (bitsN m n).take k ++ (bitsN m n).drop k := (List.take_append_drop _ _).symm
  have h2 := congrArg valB h1
  rw [qjy m n h, qeh] at h2
  have h3 := qlm ((bitsN m n).drop k)
  rw [List.length_drop, qbh] at h2 h3
  generalize valB ((bitsN m n).take k) = A at h2 ⊢
  generalize valB ((bitsN m n).drop k) = B at h2 h3
  rw [h2, Nat.mul_comm, Nat.mul_add_div (Nat.two_pow_pos _), Nat.div_eq_of_lt h3, Nat.add_zero]
theorem qzo {c m : Nat} (hc : c < 256) (hm : m ≤ cls c) (t : List Bool) : at1 (cod c ++ t) m = if m = cls c then some c else none := by
  unfold at1
  rw [if_pos (by simp [cod, qbh]; omega), List.take_append_of_le_length (by simp [cod, qbh]; omega)]
  have hv := valB_take (qzaeb hc) hm
  unfold cod
  rw [hv]
  split
  · rename_i h; subst h; simp [qtq hc]
  · rename_i h
    refine qzach fun d hd hdm e => ?_
    have := code_apart hd hc (by omega) (by rw [hdm]; exact e.symm)
    subst this; omega
theorem sym_cod {c : Nat} (hc : c < 256) (t : List Bool) : sym (cod c ++ t) = some (c, cls c) := by
  have h5 := fun h : 5 ≤ cls c => qzo hc h t
  have h6 := fun h : 6 ≤ cls c => qzo hc h t
  have h7 := fun h : 7 ≤ cls c => qzo hc h t
  have h11 := fun h : 11 ≤ cls c => qzo hc h t
  unfold sym
  rcases qjx c with e | e | e | e
  · rw [h5 (by omega), e]; simp
  · rw [h5 (by omega), h6 (by omega), e]; simp
  · rw [h5 (by omega), h6 (by omega), h7 (by omega), e]; simp
  · rw [h5 (by omega), h6 (by omega), h7 (by omega), h11 (by omega), e]; simp
theorem qwo : ∀ (b : List Int) (t : List Bool), BOk b → sym t = none → dec (enc b ++ t) = (b, t)
  | [], t, _, h => by simpa [enc] using qrm h
  | v :: b, t, hb, h => by
    have hv := hb v (by simp)
    have e : enc (v :: b) ++ t = cod v.toNat ++ (enc b ++ t) := by simp [enc]
    have hd : (cod v.toNat ++ (enc b ++ t)).drop (cls v.toNat) = enc b ++ t := by
      rw [List.drop_append_of_le_length (by simp [cod, qbh]), List.drop_of_length_le (by simp [cod, qbh])]; rfl
    rw [e, qkl (sym_cod (by omega) _), hd, qwo b t (fun u hu => hb u (by simp [hu])) h]
    simp; omega
theorem qyb {k m : Nat} (hm : m = 5 ∨ m = 6 ∨ m = 7 ∨ m = 11) : at1 (List.replicate k true) m = none := by
  unfold at1
  split
  · rename_i h
    rw [List.length_replicate] at h
    rw [List.take_replicate, Nat.min_eq_left h, qmx]
    refine qzach fun d hd hdm e => ?_
    rcases qzf hd with ⟨e', b⟩ | ⟨e', b⟩ | ⟨e', b⟩ | ⟨e', b⟩ <;> rw [e'] at hdm <;> subst hdm <;> omega
  · rfl
theorem sym_ones (k : Nat) : sym (List.replicate k true) = none := by
  unfold sym
  rw [qyb (.inl rfl), qyb (.inr (.inl rfl)), qyb (.inr (.inr (.inl rfl))), qyb (.inr (.inr (.inr rfl)))]
def pad (n : Nat) : Nat := (8 - n % 8) % 8
def padded (bs : List Bool) : List Bool := bs ++ List.replicate (pad bs.length) true
def put (b : List Int) : List Int := pack (padded (enc b))
def nbits (b : List Int) : Nat := (enc b).length
def take (d : List Int) : Option (List Int) :=
  let r := dec (bl d)
  if r.2.length ≤ 7 ∧ r.2 = List.replicate r.2.length true then some r.1 else none
theorem qow (bs : List Bool) : (padded bs).length = 8 * ((bs.length + 7) / 8) := by
  simp only [padded, List.length_append, List.length_replicate, pad]; omega
theorem bl_put (b : List Int) : bl (put b) = padded (enc b) := by
  unfold put pack
  exact bl_packs _ _ (by rw [qow]; omega)
theorem qlo (b : List Int) : (put b).length = (nbits b + 7) / 8 := by
  unfold put pack; rw [qsk, qow]; unfold nbits; omega
theorem put_ok (b : List Int) : BOk (put b) := packs_ok _ _
theorem dec_put (b : List Int) (hb : BOk b) (k : Nat) : dec (enc b ++ List.replicate k true) = (b, List.replicate k true) := qwo b _ hb (sym_ones k)
theorem take_put (b : List Int) (hb : BOk b) : take (put b) = some b := by
  unfold take
  rw [bl_put, padded, dec_put b hb]
  simp only [List.length_replicate, and_true]
  rw [if_pos (by unfold pad; omega)]
theorem put_take {d o : List Int} (hd : BOk d) (h : take d = some o) : put o = d ∧ BOk o := by
  unfold take at h
  obtain ⟨h1, h2, _⟩ := dec_enc (bl d)
  simp only at h
  split at h
  · rename_i hr
    cases h
    refine ⟨bl_inj (put_ok _) hd ?_, h2⟩
    rw [bl_put, padded]
    have hl := congrArg List.length h1
    rw [qwt, List.length_append] at hl
    have hp : pad (enc (dec (bl d)).1).length = (dec (bl d)).2.length := by unfold pad; omega
    rw [hp, ← hr.2]; exact h1.symm
  · cases h
end Hu
namespace Cz
open Go Go.RowKit Go.Proofs
def idxI (x : List UInt8) (c : Int) : Int := match (List.range x.length).find? (fun i => x.getD i 0 == c.toNat.toUInt8) with
  | some i => i
  | none => -1
def has (x : List UInt8) (c : Int) : Bool := x.any fun b => b == c.toNat.toUInt8
theorem qri {x : List UInt8} {c : Int} (h : has x c = true) : 0 ≤ idxI x c := by
  unfold idxI
  split
  · omega
  · rename_i hn
    simp only [has, List.any_eq_true] at h
    obtain ⟨b, hb, e⟩ := h
    obtain ⟨i, hi⟩ := List.getElem?_of_mem hb
    have := List.find?_eq_none.1 hn i (by simp; exact (List.getElem?_eq_some_iff.1 hi).1)
    simp [List.getD_eq_getElem?_getD, hi] at this
    exact absurd (by simpa using e) this
theorem qgl {x : List UInt8} {c : Int} (h : has x c = false) : idxI x c < 0 := by
  unfold idxI
  split
  · rename_i i hi
    have h1 := List.find?_some hi
    have h2 := List.mem_of_find?_eq_some hi
    simp only [List.mem_range] at h2
    simp only [has, List.any_eq_false] at h
    have := h _ (List.getElem_mem h2)
    simp [List.getD_eq_getElem?_getD, List.getElem?_eq_getElem h2] at h1
    simp [h1] at this
  · omega
theorem idx_f (x : List UInt8) (c : Int) : (S0 Tryd.prog).call 124 [.s x, .i .u8 (.y c)] [] (fun y _ => Sub y (.i .i64 (.y (idxI x c)))) := by
  intro N W0 ρ W vals hR hd
  obtain ⟨l⟩ := vals
  match l, hd with
  | [u, v], hd =>
    simp only [denL, den, Z.v] at hd
    obtain ⟨rfl, rfl, _⟩ := hd
    have hrun : (callFunc 124 #[.string ⟨x.toArray⟩, .int .u8 c]).run Tryd.prog W = .ok (.value (.int .i64 (idxI x c))) W := by
      have h1 : (Tryd.f124.name == "runtime.NumGoroutine") = false := by decide +kernel
      have h2 : Tryd.f124.body.isNone = true := by kernel_rfl
      have h3 : Extern.findNext Tryd.f124 = none := by kernel_rfl
      have h4 : Extern.find Tryd.f124 = some Extern.BytealgIndexByte.indexByte := by kernel_rfl
      simp only [callFunc, Sem.run_bind, run_program, Result.andThen_ok, Tryd.func124, h1, h2, h3, h4, run_mark, Bool.false_eq_true, if_false, if_true]
      have hs : (ByteArray.mk x.toArray).size = x.length := by show x.toArray.size = _; simp
      have hb : ∀ i, i < x.length → (ByteArray.mk x.toArray)[i]! = x.getD i 0 := by
        intro i hi
        rw [getElem!_pos _ i (by rw [hs]; exact hi), List.getD_eq_getElem?_getD, List.getElem?_eq_getElem hi]
        rfl
      have hf : (List.range (ByteArray.mk x.toArray).size).find? (fun i => (ByteArray.mk x.toArray)[i]! == c.toNat.toUInt8) = (List.range x.length).find? (fun i => x.getD i 0 == c.toNat.toUInt8) := by
        rw [hs]
        have : ∀ (l : List Nat), (∀ i ∈ l, i < x.length) → l.find? (fun i => (ByteArray.mk x.toArray)[i]! == c.toNat.toUInt8) = l.find? (fun i => x.getD i 0 == c.toNat.toUInt8) := by
          intro l
          induction l with
          | nil => intro _; rfl
          | cons i l ih =>
            intro hl
            simp only [List.find?_cons, hb i (hl i (by simp))]
            rw [ih (fun j hj => hl j (by simp [hj]))]
        exact this _ (fun i hi => by simpa using hi)
      have hrun : (Extern.BytealgIndexByte.indexByte #[.string ⟨x.toArray⟩, .int .u8 c]).run Tryd.prog W = .ok (.int .i64 (idxI x c)) W := by
        show (match (List.range (ByteArray.mk x.toArray).size).find? (fun i => (ByteArray.mk x.toArray)[i]! == c.toNat.toUInt8) with
          | some i => (pure (goInt i) : Sem Value)
          | none => pure (goInt (-1))).run Tryd.prog W = _
        rw [hf]
        unfold idxI
        split <;> rfl
      rw [hrun]
      rfl
    rw [hrun]
    exact ⟨ρ, _, [], .rfl, Le.refl _ _, Nat.le_refl _, hR, by simp [den, Z.v]⟩
theorem index_f (x : List UInt8) (c : Int) : (S0 Tryd.prog).call 131 [.s x, .i .u8 (.y c)] [] (fun y _ => Sub y (.i .i64 (.y (idxI x c)))) := by
  generalize hT : idxI x c = T
  generalize hS : S0 Tryd.prog = S
  refine qac hS I.qkw ?_
  cbv
  refine qac hS I.qdy ?_
  cbv
  refine qcf hS (idx_f x c) .rfl rfl rfl ?_
  rw [hT]
  cbv
  exact .rfl
theorem qcc {S : Sy} (hS : S0 Tryd.prog = S) {l : List Blk} {K : SV → List Blk → Prop} {x : List UInt8} {c : Z} (h : ∀ r, idxI x c.v = r → K (.i .i64 (.y r)) l) : S.call 131 [.s x, .i .u8 c] l K :=
  qcf hS (index_f x c.v) (.cons .rfl (.cons (qag rfl) .nil)) rfl rfl (h _ rfl)
def by1 (v : Int) : List SV := [.i .u8 (.y v)]
def cellsB (l : List Int) : List SV := l.flatMap by1
theorem qad (l : List Int) : plains (cellsB l) = true := by
  induction l with
  | nil => rfl
  | cons v l ih => simpa [cellsB, by1, plains, plainV] using ih
theorem qkn (l : List Int) : cellsB l = l.map fun v => .i .u8 (.y v) := by
  induction l with
  | nil => rfl
  | cons u l ih => simp only [cellsB, List.flatMap_cons, List.map_cons] at ih ⊢; rw [ih]; rfl
theorem cellsB_get {l : List Int} {q : Nat} {v : Int} (h : l[q]? = some v) : (cellsB l)[q]? = some (.i .u8 (.y v)) := by
  rw [qkn, List.getElem?_map, h]; rfl
end Cz
namespace Cz
open Go Go.RowKit Go.Proofs
theorem u8b {n : Int} (h : lo .u8 ≤ n ∧ n ≤ Cz.hi .u8) : 0 ≤ n ∧ n < 256 := by
  simp only [lo, Cz.hi] at h
  omega
theorem pk1 {svs : List SV} (h : pkVs [.i .u8] svs) : ∃ v : Int, svs = by1 v ∧ (0 ≤ v ∧ v < 256) := by
  match svs, h with
  | [x], h =>
    simp only [pkVs, pkV] at h
    obtain ⟨⟨n, rfl, h1⟩, _⟩ := h
    exact ⟨n, rfl, u8b h1⟩
end Cz
namespace Cz
open Go Go.RowKit Go.Proofs
def w5 : List UInt8 := [45, 47, 48, 49, 50, 51, 97, 99, 101, 105, 110, 111, 114, 115, 116, 117]
def w6 : List UInt8 := [46, 52, 53, 54, 55, 56, 57, 58, 98, 100, 102, 103, 104, 108, 109, 112]
def w7 : List UInt8 := [65, 66, 67, 68, 69, 70, 71, 72, 106, 107, 113, 118, 119, 120, 121, 122]
theorem has_all : (List.range 256).all (fun n => (has w5 n == (Hu.cls n == 5)) && ((has w6 n == (Hu.cls n == 6)) && (has w7 n == (Hu.cls n == 7)))) = true := by decide +kernel
theorem has_at {n : Nat} (h : n < 256) : has w5 n = (Hu.cls n == 5) ∧ has w6 n = (Hu.cls n == 6) ∧ has w7 n = (Hu.cls n == 7) := by
  have := List.all_eq_true.1 has_all n (by simpa using h)
  simpa using this
theorem idx_at {c : Int} (h0 : 0 ≤ c) (h : c < 256) :
    (Hu.cls c.toNat = 5 ∧ 0 ≤ idxI w5 c ∧ idxI w6 c < 0 ∧ idxI w7 c < 0) ∨ (Hu.cls c.toNat = 6 ∧ idxI w5 c < 0 ∧ 0 ≤ idxI w6 c ∧ idxI w7 c < 0) ∨
    (Hu.cls c.toNat = 7 ∧ idxI w5 c < 0 ∧ idxI w6 c < 0 ∧ 0 ≤ idxI w7 c) ∨ (Hu.cls c.toNat = 11 ∧ idxI w5 c < 0 ∧ idxI w6 c < 0 ∧ idxI w7 c < 0) := by
  obtain ⟨n, rfl⟩ : ∃ n : Nat, c = n := ⟨c.toNat, by omega⟩
  obtain ⟨g5, g6, g7⟩ := has_at (n := n) (by omega)
  simp only [Int.toNat_natCast]
  rcases Hu.qjx n with e | e | e | e <;> rw [e] at g5 g6 g7
  · exact .inl ⟨e, qri g5, qgl g6, qgl g7⟩
  · exact .inr (.inl ⟨e, qgl g5, qri g6, qgl g7⟩)
  · exact .inr (.inr (.inl ⟨e, qgl g5, qgl g6, qri g7⟩))
  · exact .inr (.inr (.inr ⟨e, qgl g5, qgl g6, qgl g7⟩))
theorem qwg {c : Prop} {inst : Decidable c} {A B : Prop} (hc : c) (h : A) : @ite Prop c inst A B := by rw [if_pos hc]; exact h
def cellC (n : Nat) : List SV := [.i .i64 (.y (Hu.codeOf n)), .i .i64 (.y (Hu.cls n))]
def upto (c : Nat) : List SV := (List.range c).flatMap cellC ++ List.replicate (2 * (256 - c)) (.i .i64 (.l 0))
theorem qzacm (n : Nat) : ((List.range n).flatMap cellC).length = 2 * n := by
  induction n with
  | zero => rfl
  | succ n ih => rw [List.range_succ, List.flatMap_append, List.length_append, ih]; simp [cellC]; omega
theorem qfz {c : Nat} (h : c ≤ 256) : (upto c).length = 512 := by
  simp only [upto, List.length_append, qzacm, List.length_replicate]; omega
theorem repl2 (A B : List SV) (x y u v : SV) : repl (A ++ x :: y :: B) A.length [u, v] = A ++ u :: v :: B := by
  simp only [repl, qdd]
  rw [List.set_append_right _ _ (Nat.le_refl _), Nat.sub_self, List.set_cons_zero, List.set_append_right _ _ (by omega), show A.length + 1 - A.length = 1 by omega]
  rfl
theorem upto_next {c : Nat} (h : c < 256) : repl (upto c) (c * 2) (cellC c) = upto (c + 1) := by
  have e1 : 2 * (256 - c) = 2 * (256 - (c + 1)) + 1 + 1 := by omega
  have e2 : c * 2 = ((List.range c).flatMap cellC).length := by rw [qzacm]; omega
  unfold upto
  rw [e1, List.replicate_succ, List.replicate_succ, e2]
  have := repl2 ((List.range c).flatMap cellC) (List.replicate (2 * (256 - (c + 1))) (.i .i64 (.l 0))) (.i .i64 (.l 0)) (.i .i64 (.l 0)) (.i .i64 (.y (Hu.codeOf c))) (.i .i64 (.y (Hu.cls c)))
  rw [List.range_succ, List.flatMap_append]
  simp only [List.flatMap_cons, List.flatMap_nil, List.append_nil, List.append_assoc]
  exact this
theorem qxp (x : SV) : ∀ n, repS n [x] = List.replicate n x
  | 0 => rfl
  | n + 1 => by rw [repS, qxp x n, List.replicate_succ]; rfl
theorem qte {F : List SV} {ok : Nat → Bool} (h : refsBL ok F = true) : (match (match F with | [] => true | x :: xs => refsB ok x && refsBL ok xs) with | false => false | true => true) = true := by
  cases F with
  | nil => rfl
  | cons x xs => simp only [refsBL] at h; simp only [h]
theorem qan {ok : Nat → Bool} : ∀ {F : List SV}, plains F = true → refsBL ok F = true
  | [], _ => rfl
  | x :: xs, h => by
    simp only [plains, Bool.and_eq_true] at h
    simp only [refsBL, Bool.and_eq_true]
    exact ⟨qsh h.1, qan h.2⟩
theorem qvr (c : Nat) : plains (upto c) = true := by
  have h1 : ∀ (xs ys : List SV), plains (xs ++ ys) = (plains xs && plains ys) := by
    intro xs ys
    induction xs with
    | nil => simp [plains]
    | cons x xs ih => simp [plains, ih, Bool.and_assoc]
  have h2 : ∀ n, plains (List.replicate n (SV.i .i64 (.l 0))) = true := by
    intro n
    induction n with
    | zero => rfl
    | succ n ih => rw [List.replicate_succ]; simpa [plains, plainV] using ih
  have h3 : ∀ (l : List Nat), plains (l.flatMap cellC) = true := by
    intro l
    induction l with
    | nil => rfl
    | cons n l ih => rw [List.flatMap_cons, h1, ih]; rfl
  rw [upto, h1, h2, h3]; rfl
def codeLit : List SV :=
  [.i .i64 (.y 1792), .i .i64 (.y 11), .i .i64 (.y 1793), .i .i64 (.y 11), .i .i64 (.y 1794), .i .i64 (.y 11), .i .i64 (.y 1795), .i .i64 (.y 11), .i .i64 (.y 1796), .i .i64 (.y 11), .i .i64 (.y 1797), .i .i64 (.y 11), .i .i64 (.y 1798), .i .i64 (.y 11), .i .i64 (.y 1799), .i .i64 (.y 11), .i .i64 (.y 1800), .i .i64 (.y 11), .i .i64 (.y 1801), .i .i64 (.y 11), .i .i64 (.y 1802), .i .i64 (.y 11), .i .i64 (.y 1803), .i .i64 (.y 11), .i .i64 (.y 1804), .i .i64 (.y 11), .i .i64 (.y 1805), .i .i64 (.y 11), .i .i64 (.y 1806), .i .i64 (.y 11), .i .i64 (.y 1807), .i .i64 (.y 11), .i .i64 (.y 1808), .i .i64 (.y 11), .i .i64 (.y 1809), .i .i64 (.y 11), .i .i64 (.y 1810), .i .i64 (.y 11), .i .i64 (.y 1811), .i .i64 (.y 11), .i .i64 (.y 1812), .i .i64 (.y 11), .i .i64 (.y 1813), .i .i64 (.y 11), .i .i64 (.y 1814), .i .i64 (.y 11), .i .i64 (.y 1815), .i .i64 (.y 11), .i .i64 (.y 1816), .i .i64 (.y 11), .i .i64 (.y 1817), .i .i64 (.y 11), .i .i64 (.y 1818), .i .i64 (.y 11), .i .i64 (.y 1819), .i .i64 (.y 11), .i .i64 (.y 1820), .i .i64 (.y 11), .i .i64 (.y 1821), .i .i64 (.y 11), .i .i64 (.y 1822), .i .i64 (.y 11), .i .i64 (.y 1823), .i .i64 (.y 11), .i .i64 (.y 1824), .i .i64 (.y 11), .i .i64 (.y 1825), .i .i64 (.y 11), .i .i64 (.y 1826), .i .i64 (.y 11), .i .i64 (.y 1827), .i .i64 (.y 11), .i .i64 (.y 1828), .i .i64 (.y 11), .i .i64 (.y 1829), .i .i64 (.y 11), .i .i64 (.y 1830), .i .i64 (.y 11), .i .i64 (.y 1831), .i .i64 (.y 11), .i .i64 (.y 1832), .i .i64 (.y 11), .i .i64 (.y 1833), .i .i64 (.y 11), .i .i64 (.y 1834), .i .i64 (.y 11), .i .i64 (.y 1835), .i .i64 (.y 11), .i .i64 (.y 1836), .i .i64 (.y 11), .i .i64 (.y 0), .i .i64 (.y 5), .i .i64 (.y 32), .i .i64 (.y 6), .i .i64 (.y 1), .i .i64 (.y 5), .i .i64 (.y 2), .i .i64 (.y 5), .i .i64 (.y 3), .i .i64 (.y 5), .i .i64 (.y 4), .i .i64 (.y 5), .i .i64 (.y 5), .i .i64 (.y 5), .i .i64 (.y 33), .i .i64 (.y 6), .i .i64 (.y 34), .i .i64 (.y 6), .i .i64 (.y 35), .i .i64 (.y 6), .i .i64 (.y 36), .i .i64 (.y 6), .i .i64 (.y 37), .i .i64 (.y 6), .i .i64 (.y 38), .i .i64 (.y 6), .i .i64 (.y 39), .i .i64 (.y 6), .i .i64 (.y 1837), .i .i64 (.y 11), .i .i64 (.y 1838), .i .i64 (.y 11), .i .i64 (.y 1839), .i .i64 (.y 11), .i .i64 (.y 1840), .i .i64 (.y 11), .i .i64 (.y 1841), .i .i64 (.y 11), .i .i64 (.y 1842), .i .i64 (.y 11), .i .i64 (.y 96), .i .i64 (.y 7), .i .i64 (.y 97), .i .i64 (.y 7), .i .i64 (.y 98), .i .i64 (.y 7), .i .i64 (.y 99), .i .i64 (.y 7), .i .i64 (.y 100), .i .i64 (.y 7), .i .i64 (.y 101), .i .i64 (.y 7), .i .i64 (.y 102), .i .i64 (.y 7), .i .i64 (.y 103), .i .i64 (.y 7), .i .i64 (.y 1843), .i .i64 (.y 11), .i .i64 (.y 1844), .i .i64 (.y 11), .i .i64 (.y 1845), .i .i64 (.y 11), .i .i64 (.y 1846), .i .i64 (.y 11), .i .i64 (.y 1847), .i .i64 (.y 11), .i .i64 (.y 1848), .i .i64 (.y 11), .i .i64 (.y 1849), .i .i64 (.y 11), .i .i64 (.y 1850), .i .i64 (.y 11), .i .i64 (.y 1851), .i .i64 (.y 11), .i .i64 (.y 1852), .i .i64 (.y 11), .i .i64 (.y 1853), .i .i64 (.y 11), .i .i64 (.y 1854), .i .i64 (.y 11), .i .i64 (.y 1855), .i .i64 (.y 11), .i .i64 (.y 1856), .i .i64 (.y 11), .i .i64 (.y 1857), .i .i64 (.y 11), .i .i64 (.y 1858), .i .i64 (.y 11), .i .i64 (.y 1859), .i .i64 (.y 11), .i .i64 (.y 1860), .i .i64 (.y 11), .i .i64 (.y 1861), .i .i64 (.y 11), .i .i64 (.y 1862), .i .i64 (.y 11), .i .i64 (.y 1863), .i .i64 (.y 11), .i .i64 (.y 1864), .i .i64 (.y 11), .i .i64 (.y 1865), .i .i64 (.y 11), .i .i64 (.y 1866), .i .i64 (.y 11), .i .i64 (.y 6), .i .i64 (.y 5), .i .i64 (.y 40), .i .i64 (.y 6), .i .i64 (.y 7), .i .i64 (.y 5), .i .i64 (.y 41), .i .i64 (.y 6), .i .i64 (.y 8), .i .i64 (.y 5), .i .i64 (.y 42), .i .i64 (.y 6), .i .i64 (.y 43), .i .i64 (.y 6), .i .i64 (.y 44), .i .i64 (.y 6), .i .i64 (.y 9), .i .i64 (.y 5), .i .i64 (.y 104), .i .i64 (.y 7), .i .i64 (.y 105), .i .i64 (.y 7), .i .i64 (.y 45), .i .i64 (.y 6), .i .i64 (.y 46), .i .i64 (.y 6), .i .i64 (.y 10), .i .i64 (.y 5), .i .i64 (.y 11), .i .i64 (.y 5), .i .i64 (.y 47), .i .i64 (.y 6), .i .i64 (.y 106), .i .i64 (.y 7), .i .i64 (.y 12), .i .i64 (.y 5), .i .i64 (.y 13), .i .i64 (.y 5), .i .i64 (.y 14), .i .i64 (.y 5), .i .i64 (.y 15), .i .i64 (.y 5), .i .i64 (.y 107), .i .i64 (.y 7), .i .i64 (.y 108), .i .i64 (.y 7), .i .i64 (.y 109), .i .i64 (.y 7), .i .i64 (.y 110), .i .i64 (.y 7), .i .i64 (.y 111), .i .i64 (.y 7), .i .i64 (.y 1867), .i .i64 (.y 11), .i .i64 (.y 1868), .i .i64 (.y 11), .i .i64 (.y 1869), .i .i64 (.y 11), .i .i64 (.y 1870), .i .i64 (.y 11), .i .i64 (.y 1871), .i .i64 (.y 11), .i .i64 (.y 1872), .i .i64 (.y 11), .i .i64 (.y 1873), .i .i64 (.y 11), .i .i64 (.y 1874), .i .i64 (.y 11), .i .i64 (.y 1875), .i .i64 (.y 11), .i .i64 (.y 1876), .i .i64 (.y 11), .i .i64 (.y 1877), .i .i64 (.y 11), .i .i64 (.y 1878), .i .i64 (.y 11), .i .i64 (.y 1879), .i .i64 (.y 11), .i .i64 (.y 1880), .i .i64 (.y 11), .i .i64 (.y 1881), .i .i64 (.y 11), .i .i64 (.y 1882), .i .i64 (.y 11), .i .i64 (.y 1883), .i .i64 (.y 11), .i .i64 (.y 1884), .i .i64 (.y 11), .i .i64 (.y 1885), .i .i64 (.y 11), .i .i64 (.y 1886), .i .i64 (.y 11), .i .i64 (.y 1887), .i .i64 (.y 11), .i .i64 (.y 1888), .i .i64 (.y 11), .i .i64 (.y 1889), .i .i64 (.y 11), .i .i64 (.y 1890), .i .i64 (.y 11), .i .i64 (.y 1891), .i .i64 (.y 11), .i .i64 (.y 1892), .i .i64 (.y 11), .i .i64 (.y 1893), .i .i64 (.y 11), .i .i64 (.y 1894), .i .i64 (.y 11), .i .i64 (.y 1895), .i .i64 (.y 11), .i .i64 (.y 1896), .i .i64 (.y 11), .i .i64 (.y 1897), .i .i64 (.y 11), .i .i64 (.y 1898), .i .i64 (.y 11), .i .i64 (.y 1899), .i .i64 (.y 11), .i .i64 (.y 1900), .i .i64 (.y 11), .i .i64 (.y 1901), .i .i64 (.y 11), .i .i64 (.y 1902), .i .i64 (.y 11), .i .i64 (.y 1903), .i .i64 (.y 11), .i .i64 (.y 1904), .i .i64 (.y 11), .i .i64 (.y 1905), .i .i64 (.y 11), .i .i64 (.y 1906), .i .i64 (.y 11), .i .i64 (.y 1907), .i .i64 (.y 11), .i .i64 (.y 1908), .i .i64 (.y 11), .i .i64 (.y 1909), .i .i64 (.y 11), .i .i64 (.y 1910), .i .i64 (.y 11), .i .i64 (.y 1911), .i .i64 (.y 11), .i .i64 (.y 1912), .i .i64 (.y 11), .i .i64 (.y 1913), .i .i64 (.y 11), .i .i64 (.y 1914), .i .i64 (.y 11), .i .i64 (.y 1915), .i .i64 (.y 11), .i .i64 (.y 1916), .i .i64 (.y 11), .i .i64 (.y 1917), .i .i64 (.y 11), .i .i64 (.y 1918), .i .i64 (.y 11), .i .i64 (.y 1919), .i .i64 (.y 11), .i .i64 (.y 1920), .i .i64 (.y 11), .i .i64 (.y 1921), .i .i64 (.y 11), .i .i64 (.y 1922), .i .i64 (.y 11), .i .i64 (.y 1923), .i .i64 (.y 11), .i .i64 (.y 1924), .i .i64 (.y 11), .i .i64 (.y 1925), .i .i64 (.y 11), .i .i64 (.y 1926), .i .i64 (.y 11), .i .i64 (.y 1927), .i .i64 (.y 11), .i .i64 (.y 1928), .i .i64 (.y 11), .i .i64 (.y 1929), .i .i64 (.y 11), .i .i64 (.y 1930), .i .i64 (.y 11), .i .i64 (.y 1931), .i .i64 (.y 11), .i .i64 (.y 1932), .i .i64 (.y 11), .i .i64 (.y 1933), .i .i64 (.y 11), .i .i64 (.y 1934), .i .i64 (.y 11), .i .i64 (.y 1935), .i .i64 (.y 11), .i .i64 (.y 1936), .i .i64 (.y 11), .i .i64 (.y 1937), .i .i64 (.y 11), .i .i64 (.y 1938), .i .i64 (.y 11), .i .i64 (.y 1939), .i .i64 (.y 11), .i .i64 (.y 1940), .i .i64 (.y 11), .i .i64 (.y 1941), .i .i64 (.y 11), .i .i64 (.y 1942), .i .i64 (.y 11), .i .i64 (.y 1943), .i .i64 (.y 11), .i .i64 (.y 1944), .i .i64 (.y 11), .i .i64 (.y 1945), .i .i64 (.y 11), .i .i64 (.y 1946), .i .i64 (.y 11), .i .i64 (.y 1947), .i .i64 (.y 11), .i .i64 (.y 1948), .i .i64 (.y 11), .i .i64 (.y 1949), .i .i64 (.y 11), .i .i64 (.y 1950), .i .i64 (.y 11), .i .i64 (.y 1951), .i .i64 (.y 11), .i .i64 (.y 1952), .i .i64 (.y 11), .i .i64 (.y 1953), .i .i64 (.y 11), .i .i64 (.y 1954), .i .i64 (.y 11), .i .i64 (.y 1955), .i .i64 (.y 11), .i .i64 (.y 1956), .i .i64 (.y 11), .i .i64 (.y 1957), .i .i64 (.y 11), .i .i64 (.y 1958), .i .i64 (.y 11), .i .i64 (.y 1959), .i .i64 (.y 11), .i .i64 (.y 1960), .i .i64 (.y 11), .i .i64 (.y 1961), .i .i64 (.y 11), .i .i64 (.y 1962), .i .i64 (.y 11), .i .i64 (.y 1963), .i .i64 (.y 11), .i .i64 (.y 1964), .i .i64 (.y 11), .i .i64 (.y 1965), .i .i64 (.y 11), .i .i64 (.y 1966), .i .i64 (.y 11), .i .i64 (.y 1967), .i .i64 (.y 11), .i .i64 (.y 1968), .i .i64 (.y 11), .i .i64 (.y 1969), .i .i64 (.y 11), .i .i64 (.y 1970), .i .i64 (.y 11), .i .i64 (.y 1971), .i .i64 (.y 11), .i .i64 (.y 1972), .i .i64 (.y 11), .i .i64 (.y 1973), .i .i64 (.y 11), .i .i64 (.y 1974), .i .i64 (.y 11), .i .i64 (.y 1975), .i .i64 (.y 11), .i .i64 (.y 1976), .i .i64 (.y 11), .i .i64 (.y 1977), .i .i64 (.y 11), .i .i64 (.y 1978), .i .i64 (.y 11), .i .i64 (.y 1979), .i .i64 (.y 11), .i .i64 (.y 1980), .i .i64 (.y 11), .i .i64 (.y 1981), .i .i64 (.y 11), .i .i64 (.y 1982), .i .i64 (.y 11), .i .i64 (.y 1983), .i .i64 (.y 11), .i .i64 (.y 1984), .i .i64 (.y 11), .i .i64 (.y 1985), .i .i64 (.y 11), .i .i64 (.y 1986), .i .i64 (.y 11), .i .i64 (.y 1987), .i .i64 (.y 11), .i .i64 (.y 1988), .i .i64 (.y 11), .i .i64 (.y 1989), .i .i64 (.y 11), .i .i64 (.y 1990), .i .i64 (.y 11), .i .i64 (.y 1991), .i .i64 (.y 11), .i .i64 (.y 1992), .i .i64 (.y 11), .i .i64 (.y 1993), .i .i64 (.y 11), .i .i64 (.y 1994), .i .i64 (.y 11), .i .i64 (.y 1995), .i .i64 (.y 11), .i .i64 (.y 1996), .i .i64 (.y 11), .i .i64 (.y 1997), .i .i64 (.y 11), .i .i64 (.y 1998), .i .i64 (.y 11), .i .i64 (.y 1999), .i .i64 (.y 11)]
theorem qhi : upto 256 = codeLit := by kernel_rfl
def cntI (m : Nat) (c : Int) : Int := Hu.cnt m c.toNat
def codeI (c : Int) : Int := Hu.codeOf c.toNat
def clsI (c : Int) : Int := Hu.cls c.toNat
theorem qig {m : Nat} {c : Int} (h : 0 ≤ c) : 0 ≤ cntI m c ∧ cntI m c ≤ c := by
  have := Hu.cnt_le m c.toNat
  unfold cntI; omega
theorem qaq {m : Nat} {c : Int} (h : 0 ≤ c) : cntI m (c + 1) = cntI m c + (if Hu.cls c.toNat = m then 1 else 0) := by
  unfold cntI
  rw [show (c + 1).toNat = c.toNat + 1 by omega, Hu.qzg]
  split <;> simp
theorem qkm {m : Nat} {c : Int} (h : Hu.cls c.toNat = m) : codeI c = Hu.base m + cntI m c := by
  unfold codeI cntI Hu.codeOf; rw [h]; simp
theorem qwf {F : List SV} {n : Nat} : lenS F = n → n = (match F with | [] => 0 | _ :: l => lenS l + 1) := by
  intro h
  cases F with
  | nil => exact h.symm
  | cons x xs => exact h.symm
theorem s_wr' {S : Sy} {F : List SV} {i : Int} {sz j : Nat} {ws : List SV} {K : List SV → Prop} (hS : S0 Tryd.prog = S) (h0 : 0 ≤ i) (h1 : (i.toNat + 1) * sz ≤ F.length) (h2 : j + ws.length ≤ sz) (h3 : plains ws = true)
    (h4 : ∀ F', repl F (i.toNat * sz + j) ws = F' → K F') : S.wr F i sz j ws K := s_wr hS h0 h1 h2 h3 (h4 _ rfl)
theorem subL_put {x y : SV} (h : Sub x y) : ∀ {F F' : List SV} (o : Nat), SubL F F' → SubL (put F o x) (put F' o y)
  | _, _, _, .nil => .nil
  | _, _, 0, .cons _ hs => .cons h hs
  | _, _, o + 1, .cons h1 hs => .cons h1 (subL_put h o hs)
theorem subL_repl {ws ws' : List SV} (h : SubL ws ws') : ∀ {F F' : List SV} (o : Nat), SubL F F' → SubL (repl F o ws) (repl F' o ws') := by
  induction h with
  | nil => exact fun _ h => h
  | cons h _ ih => exact fun o hF => ih (o + 1) (subL_put h o hF)
theorem qmz {F F' : List SV} {c a : Int} {m : Nat} (h0 : 0 ≤ c) (h : c < 256) (hF : F = upto c.toNat) (hc : Hu.cls c.toNat = m) (ha : a = Hu.base m + cntI m c) (h' : repl F (c.toNat * 2 + 0) [.i .i64 (.y a), .i .i64 (.l m)] = F') : SubL F' (upto (c + 1).toNat) := by
  rw [← h', hF, show (c + 1).toNat = c.toNat + 1 by omega, ← upto_next (by omega)]
  refine subL_repl (.cons (qag ?_) (.cons (qag ?_) .nil)) _ .rfl
  · simp only [Z.v]; rw [ha, ← qkm hc]; rfl
  · simp only [Z.v]; rw [← hc]
theorem s_all {S : Sy} (hS : S0 Tryd.prog = S) {cs ws : List SV} {sz : Nat} {K : List SV → Prop} (h1 : cs.length = sz) (h2 : ws.length = sz) (hp : plains ws = true) (h : K ws) : S.wr cs 0 sz 0 ws K := by
  refine s_wr hS (Int.le_refl 0) (by rw [h1]; simp) (by rw [h2]; simp) hp ?_
  have : ∀ (cs ws : List SV), cs.length = ws.length → repl cs 0 ws = ws := by
    intro cs
    induction cs with
    | nil => intro ws h; cases ws with
      | nil => rfl
      | cons => simp at h
    | cons c cs ih => intro ws h; cases ws with
      | nil => simp at h
      | cons w ws =>
        rw [repl, put, qne, ih ws (by simpa using h)]
  rw [show (0 : Int).toNat * sz + 0 = 0 by simp, this cs ws (by rw [h1, h2])]
  exact h
theorem codes_f : (S0 Tryd.prog).call 113 [] [] (fun x _ => Sub x (.ag codeLit)) := by
  generalize hT : codeLit = T
  generalize hS : S0 Tryd.prog = S
  refine qac hS I.qyx ?_
  unfold I.qwi
  generalize hZ : repS 512 [SV.i .i64 (.l 0)] = Zs
  cbv
  refine qac hS I.qnv ?_
  cbv
  refine qhq hS I.qjn ?_
  cbv
  iterate 4 (refine s_mu hS ?_; cbv)
  have hz : Zs = upto 0 := by rw [← hZ, qxp]; rfl
  have hg : ∀ (F : List SV) (n : Nat), F = upto n → ∀ ok, refsBL ok F = true := by
    intro F n hF ok
    subst hF
    exact qan (qvr n)
  refine qba hS 4 I.qfq (fun x : Int × Int × Int × Int × Int × List SV => 0 ≤ x.1 ∧ x.1 ≤ 256 ∧ x.2.1 = cntI 5 x.1 ∧ x.2.2.1 = 32 + cntI 6 x.1 ∧ x.2.2.2.1 = 96 + cntI 7 x.1 ∧ x.2.2.2.2.1 = 1792 + cntI 11 x.1 ∧ x.2.2.2.2.2 = upto x.1.toNat)
    (fun x => [(10, .i .i64 (.y x.1))])
    (fun x => [(0, .c x.2.2.2.2.2), (3, .m [(.i .i64 (.l 5), .i .i64 (.y x.2.1)), (.i .i64 (.l 6), .i .i64 (.y x.2.2.1)), (.i .i64 (.l 7), .i .i64 (.y x.2.2.2.1)), (.i .i64 (.l 11), .i .i64 (.y x.2.2.2.2.1))])])
    (fun x => (256 - x.1).toNat) (0, 0, 32, 96, 1792, Zs) rfl ⟨⟨Int.le_refl _, (by show (0 : Int) ≤ 256; omega), rfl, rfl, rfl, rfl, hz⟩, rfl, ?_, ?_, ?_⟩ ?_
  · cbv; all_goals exact s_sA
  · cbv; all_goals exact s_bA
  · cbv
    exact qte (hg _ _ hz _)
  · intro x
    obtain ⟨c, a5, a6, a7, a11, F⟩ := x
    intro ha
    dsimp only at ha
    cbv
    obtain ⟨h0, h1, e5, e6, e7, e11, hF⟩ := ha
    refine s_br hS ?_ ?_ <;> intro h
    · cbv
      simp only [← hS, Int.ofNat_eq_natCast, cq, Bool.not_eq_true', Bool.not_eq_false', decide_eq_true_eq, decide_eq_false_iff_not, beq_iff_eq, beq_eq_false_iff_ne, ne_eq] at h
      have k5 := qig (m := 5) h0
      have k6 := qig (m := 6) h0
      have k7 := qig (m := 7) h0
      have k11 := qig (m := 11) h0
      have hlen : lenS F = 512 := by rw [qcj, hF, qfz (by omega)]
      rcases idx_at h0 h with ⟨hc, i5, i6, i7⟩ | ⟨hc, i5, i6, i7⟩ | ⟨hc, i5, i6, i7⟩ | ⟨hc, i5, i6, i7⟩
      · refine qah hS ?_
        cbv
        repeat' (first
          | (refine s_st hS ?_; try cbv)
          | (refine qab hS ?_ ?_ <;> intro h <;> (try cbv) <;> try exact s_ab h)
          | (refine qai hS ?_; intro _ _; try cbv)
          | (refine qae hS ?_; try cbv))
        refine qcc hS fun r5 h5 => ?_
        replace h5 : 0 ≤ r5 := by rw [← h5]; exact i5
        cbv
        repeat' (first
          | (refine s_st hS ?_; try cbv)
          | (refine qab hS ?_ ?_ <;> intro h <;> (try cbv) <;> try exact s_ab h)
          | (refine qai hS ?_; intro _ _; try cbv)
          | (refine qae hS ?_; try cbv))
        refine qah hS ?_
        cbv
        repeat' (first
          | (refine s_st hS ?_; try cbv)
          | (refine qab hS ?_ ?_ <;> intro h <;> (try cbv) <;> try exact s_ab h)
          | (refine qai hS ?_; intro _ _; try cbv)
          | (refine qae hS ?_; try cbv))
        refine qcc hS fun r6 h6 => ?_
        replace h6 : r6 < 0 := by rw [← h6]; exact i6
        cbv
        repeat' (first
          | (refine s_st hS ?_; try cbv)
          | (refine qab hS ?_ ?_ <;> intro h <;> (try cbv) <;> try exact s_ab h)
          | (refine qai hS ?_; intro _ _; try cbv)
          | (refine qae hS ?_; try cbv))
        refine qah hS ?_
        cbv
        repeat' (first
          | (refine s_st hS ?_; try cbv)
          | (refine qab hS ?_ ?_ <;> intro h <;> (try cbv) <;> try exact s_ab h)
          | (refine qai hS ?_; intro _ _; try cbv)
          | (refine qae hS ?_; try cbv))
        refine qcc hS fun r7 h7 => ?_
        replace h7 : r7 < 0 := by rw [← h7]; exact i7
        cbv
        repeat' (first
          | (refine s_st hS ?_; try cbv)
          | (refine qab hS ?_ ?_ <;> intro h <;> (try cbv) <;> try exact s_ab h)
          | (refine qai hS ?_; intro _ _; try cbv)
          | (refine qae hS ?_; try cbv))
        refine qah hS ?_
        cbv
        repeat' (first
          | (refine s_st hS ?_; try cbv)
          | (refine qab hS ?_ ?_ <;> intro h <;> (try cbv) <;> try exact s_ab h)
          | (refine qai hS ?_; intro _ _; try cbv)
          | (refine qae hS ?_; try cbv))
        refine qev hS rfl rfl ?_
        cbv
        refine qwg (qwf hlen) ?_
        cbv
        repeat' (first
          | (refine s_st hS ?_; try cbv)
          | (refine qab hS ?_ ?_ <;> intro h <;> (try cbv) <;> try exact s_ab h)
          | (refine qai hS ?_; intro _ _; try cbv)
          | (refine qae hS ?_; try cbv))
        refine s_wr' hS h0 (by rw [hF, qfz (by omega)]; omega) (Nat.le_refl 2) rfl ?_
        intro F' hF'
        cbv
        repeat' (first
          | (refine s_st hS ?_; try cbv)
          | (refine qab hS ?_ ?_ <;> intro h <;> (try cbv) <;> try exact s_ab h)
          | (refine qai hS ?_; intro _ _; try cbv)
          | (refine qae hS ?_; try cbv))
        obtain ⟨c1, h_c1⟩ : ∃ r_, r_ = c + 1 := ⟨_, rfl⟩
        obtain ⟨F2, hF2⟩ : ∃ F2, F2 = upto c1.toNat := ⟨_, rfl⟩
        obtain ⟨b5, h_b5⟩ : ∃ r_, r_ = a5 + 1 := ⟨_, rfl⟩
        have n5 := qaq (m := 5) h0
        have n6 := qaq (m := 6) h0
        have n7 := qaq (m := 7) h0
        have n11 := qaq (m := 11) h0
        rw [hc, ← h_c1] at n5 n6 n7 n11
        simp at n5 n6 n7 n11
        have hsub : SubL F' F2 := by
          rw [hF2, h_c1]
          exact qmz h0 (by assumption) hF hc (by simp [Hu.base]; omega) hF'
        refine ⟨(c1, b5, a6, a7, a11, F2), by dsimp only; omega, ⟨by dsimp only; omega, by dsimp only; omega, by dsimp only; omega, by dsimp only; omega, by dsimp only; omega, by dsimp only; omega, hF2⟩, rfl, ?_, ?_, ?_⟩
        · cbv; all_goals exact s_sA
        · cbv; all_goals exact s_bA
        · cbv; exact qte (hg _ _ hF2 _)
      · refine qah hS ?_
        cbv
        repeat' (first
          | (refine s_st hS ?_; try cbv)
          | (refine qab hS ?_ ?_ <;> intro h <;> (try cbv) <;> try exact s_ab h)
          | (refine qai hS ?_; intro _ _; try cbv)
          | (refine qae hS ?_; try cbv))
        refine qcc hS fun r5 h5 => ?_
        replace h5 : r5 < 0 := by rw [← h5]; exact i5
        cbv
        repeat' (first
          | (refine s_st hS ?_; try cbv)
          | (refine qab hS ?_ ?_ <;> intro h <;> (try cbv) <;> try exact s_ab h)
          | (refine qai hS ?_; intro _ _; try cbv)
          | (refine qae hS ?_; try cbv))
        refine qah hS ?_
        cbv
        repeat' (first
          | (refine s_st hS ?_; try cbv)
          | (refine qab hS ?_ ?_ <;> intro h <;> (try cbv) <;> try exact s_ab h)
          | (refine qai hS ?_; intro _ _; try cbv)
          | (refine qae hS ?_; try cbv))
        refine qcc hS fun r6 h6 => ?_
        replace h6 : 0 ≤ r6 := by rw [← h6]; exact i6
        cbv
        repeat' (first
          | (refine s_st hS ?_; try cbv)
          | (refine qab hS ?_ ?_ <;> intro h <;> (try cbv) <;> try exact s_ab h)
          | (refine qai hS ?_; intro _ _; try cbv)
          | (refine qae hS ?_; try cbv))
        refine qah hS ?_
        cbv
        repeat' (first
          | (refine s_st hS ?_; try cbv)
          | (refine qab hS ?_ ?_ <;> intro h <;> (try cbv) <;> try exact s_ab h)
          | (refine qai hS ?_; intro _ _; try cbv)
          | (refine qae hS ?_; try cbv))
        refine qcc hS fun r7 h7 => ?_
        replace h7 : r7 < 0 := by rw [← h7]; exact i7
        cbv
        repeat' (first
          | (refine s_st hS ?_; try cbv)
          | (refine qab hS ?_ ?_ <;> intro h <;> (try cbv) <;> try exact s_ab h)
          | (refine qai hS ?_; intro _ _; try cbv)
          | (refine qae hS ?_; try cbv))
        refine qah hS ?_
        cbv
        repeat' (first
          | (refine s_st hS ?_; try cbv)
          | (refine qab hS ?_ ?_ <;> intro h <;> (try cbv) <;> try exact s_ab h)
          | (refine qai hS ?_; intro _ _; try cbv)
          | (refine qae hS ?_; try cbv))
        refine qev hS rfl rfl ?_
        cbv
        refine qwg (qwf hlen) ?_
        cbv
        repeat' (first
          | (refine s_st hS ?_; try cbv)
          | (refine qab hS ?_ ?_ <;> intro h <;> (try cbv) <;> try exact s_ab h)
          | (refine qai hS ?_; intro _ _; try cbv)
          | (refine qae hS ?_; try cbv))
        refine s_wr' hS h0 (by rw [hF, qfz (by omega)]; omega) (Nat.le_refl 2) rfl ?_
        intro F' hF'
        cbv
        repeat' (first
          | (refine s_st hS ?_; try cbv)
          | (refine qab hS ?_ ?_ <;> intro h <;> (try cbv) <;> try exact s_ab h)
          | (refine qai hS ?_; intro _ _; try cbv)
          | (refine qae hS ?_; try cbv))
        obtain ⟨c1, h_c1⟩ : ∃ r_, r_ = c + 1 := ⟨_, rfl⟩
        obtain ⟨F2, hF2⟩ : ∃ F2, F2 = upto c1.toNat := ⟨_, rfl⟩
        obtain ⟨b6, h_b6⟩ : ∃ r_, r_ = a6 + 1 := ⟨_, rfl⟩
        have n5 := qaq (m := 5) h0
        have n6 := qaq (m := 6) h0
        have n7 := qaq (m := 7) h0
        have n11 := qaq (m := 11) h0
        rw [hc, ← h_c1] at n5 n6 n7 n11
        simp at n5 n6 n7 n11
        have hsub : SubL F' F2 := by
          rw [hF2, h_c1]
          exact qmz h0 (by assumption) hF hc (by simp [Hu.base]; omega) hF'
        refine ⟨(c1, a5, b6, a7, a11, F2), by dsimp only; omega, ⟨by dsimp only; omega, by dsimp only; omega, by dsimp only; omega, by dsimp only; omega, by dsimp only; omega, by dsimp only; omega, hF2⟩, rfl, ?_, ?_, ?_⟩
        · cbv; all_goals exact s_sA
        · cbv; all_goals exact s_bA
        · cbv; exact qte (hg _ _ hF2 _)
      · refine qah hS ?_
        cbv
        repeat' (first
          | (refine s_st hS ?_; try cbv)
          | (refine qab hS ?_ ?_ <;> intro h <;> (try cbv) <;> try exact s_ab h)
          | (refine qai hS ?_; intro _ _; try cbv)
          | (refine qae hS ?_; try cbv))
        refine qcc hS fun r5 h5 => ?_
        replace h5 : r5 < 0 := by rw [← h5]; exact i5
        cbv
        repeat' (first
          | (refine s_st hS ?_; try cbv)
          | (refine qab hS ?_ ?_ <;> intro h <;> (try cbv) <;> try exact s_ab h)
          | (refine qai hS ?_; intro _ _; try cbv)
          | (refine qae hS ?_; try cbv))
        refine qah hS ?_
        cbv
        repeat' (first
          | (refine s_st hS ?_; try cbv)
          | (refine qab hS ?_ ?_ <;> intro h <;> (try cbv) <;> try exact s_ab h)
          | (refine qai hS ?_; intro _ _; try cbv)
          | (refine qae hS ?_; try cbv))
        refine qcc hS fun r6 h6 => ?_
        replace h6 : r6 < 0 := by rw [← h6]; exact i6
        cbv
        repeat' (first
          | (refine s_st hS ?_; try cbv)
          | (refine qab hS ?_ ?_ <;> intro h <;> (try cbv) <;> try exact s_ab h)
          | (refine qai hS ?_; intro _ _; try cbv)
          | (refine qae hS ?_; try cbv))
        refine qah hS ?_
        cbv
        repeat' (first
          | (refine s_st hS ?_; try cbv)
          | (refine qab hS ?_ ?_ <;> intro h <;> (try cbv) <;> try exact s_ab h)
          | (refine qai hS ?_; intro _ _; try cbv)
          | (refine qae hS ?_; try cbv))
        refine qcc hS fun r7 h7 => ?_
        replace h7 : 0 ≤ r7 := by rw [← h7]; exact i7
        cbv
        repeat' (first
          | (refine s_st hS ?_; try cbv)
          | (refine qab hS ?_ ?_ <;> intro h <;> (try cbv) <;> try exact s_ab h)
          | (refine qai hS ?_; intro _ _; try cbv)
          | (refine qae hS ?_; try cbv))
        refine qah hS ?_
        cbv
        repeat' (first
          | (refine s_st hS ?_; try cbv)
          | (refine qab hS ?_ ?_ <;> intro h <;> (try cbv) <;> try exact s_ab h)
          | (refine qai hS ?_; intro _ _; try cbv)
          | (refine qae hS ?_; try cbv))
        refine qev hS rfl rfl ?_
        cbv
        refine qwg (qwf hlen) ?_
        cbv
        repeat' (first
          | (refine s_st hS ?_; try cbv)
          | (refine qab hS ?_ ?_ <;> intro h <;> (try cbv) <;> try exact s_ab h)
          | (refine qai hS ?_; intro _ _; try cbv)
          | (refine qae hS ?_; try cbv))
        refine s_wr' hS h0 (by rw [hF, qfz (by omega)]; omega) (Nat.le_refl 2) rfl ?_
        intro F' hF'
        cbv
        repeat' (first
          | (refine s_st hS ?_; try cbv)
          | (refine qab hS ?_ ?_ <;> intro h <;> (try cbv) <;> try exact s_ab h)
          | (refine qai hS ?_; intro _ _; try cbv)
          | (refine qae hS ?_; try cbv))
        obtain ⟨c1, h_c1⟩ : ∃ r_, r_ = c + 1 := ⟨_, rfl⟩
        obtain ⟨F2, hF2⟩ : ∃ F2, F2 = upto c1.toNat := ⟨_, rfl⟩
        obtain ⟨b7, h_b7⟩ : ∃ r_, r_ = a7 + 1 := ⟨_, rfl⟩
        have n5 := qaq (m := 5) h0
        have n6 := qaq (m := 6) h0
        have n7 := qaq (m := 7) h0
        have n11 := qaq (m := 11) h0
        rw [hc, ← h_c1] at n5 n6 n7 n11
        simp at n5 n6 n7 n11
        have hsub : SubL F' F2 := by
          rw [hF2, h_c1]
          exact qmz h0 (by assumption) hF hc (by simp [Hu.base]; omega) hF'
        refine ⟨(c1, a5, a6, b7, a11, F2), by dsimp only; omega, ⟨by dsimp only; omega, by dsimp only; omega, by dsimp only; omega, by dsimp only; omega, by dsimp only; omega, by dsimp only; omega, hF2⟩, rfl, ?_, ?_, ?_⟩
        · cbv; all_goals exact s_sA
        · cbv; all_goals exact s_bA
        · cbv; exact qte (hg _ _ hF2 _)
      · refine qah hS ?_
        cbv
        repeat' (first
          | (refine s_st hS ?_; try cbv)
          | (refine qab hS ?_ ?_ <;> intro h <;> (try cbv) <;> try exact s_ab h)
          | (refine qai hS ?_; intro _ _; try cbv)
          | (refine qae hS ?_; try cbv))
        refine qcc hS fun r5 h5 => ?_
        replace h5 : r5 < 0 := by rw [← h5]; exact i5
        cbv
        repeat' (first
          | (refine s_st hS ?_; try cbv)
          | (refine qab hS ?_ ?_ <;> intro h <;> (try cbv) <;> try exact s_ab h)
          | (refine qai hS ?_; intro _ _; try cbv)
          | (refine qae hS ?_; try cbv))
        refine qah hS ?_
        cbv
        repeat' (first
          | (refine s_st hS ?_; try cbv)
          | (refine qab hS ?_ ?_ <;> intro h <;> (try cbv) <;> try exact s_ab h)
          | (refine qai hS ?_; intro _ _; try cbv)
          | (refine qae hS ?_; try cbv))
        refine qcc hS fun r6 h6 => ?_
        replace h6 : r6 < 0 := by rw [← h6]; exact i6
        cbv
        repeat' (first
          | (refine s_st hS ?_; try cbv)
          | (refine qab hS ?_ ?_ <;> intro h <;> (try cbv) <;> try exact s_ab h)
          | (refine qai hS ?_; intro _ _; try cbv)
          | (refine qae hS ?_; try cbv))
        refine qah hS ?_
        cbv
        repeat' (first
          | (refine s_st hS ?_; try cbv)
          | (refine qab hS ?_ ?_ <;> intro h <;> (try cbv) <;> try exact s_ab h)
          | (refine qai hS ?_; intro _ _; try cbv)
          | (refine qae hS ?_; try cbv))
        refine qcc hS fun r7 h7 => ?_
        replace h7 : r7 < 0 := by rw [← h7]; exact i7
        cbv
        repeat' (first
          | (refine s_st hS ?_; try cbv)
          | (refine qab hS ?_ ?_ <;> intro h <;> (try cbv) <;> try exact s_ab h)
          | (refine qai hS ?_; intro _ _; try cbv)
          | (refine qae hS ?_; try cbv))
        refine qah hS ?_
        cbv
        repeat' (first
          | (refine s_st hS ?_; try cbv)
          | (refine qab hS ?_ ?_ <;> intro h <;> (try cbv) <;> try exact s_ab h)
          | (refine qai hS ?_; intro _ _; try cbv)
          | (refine qae hS ?_; try cbv))
        refine qev hS rfl rfl ?_
        cbv
        refine qwg (qwf hlen) ?_
        cbv
        repeat' (first
          | (refine s_st hS ?_; try cbv)
          | (refine qab hS ?_ ?_ <;> intro h <;> (try cbv) <;> try exact s_ab h)
          | (refine qai hS ?_; intro _ _; try cbv)
          | (refine qae hS ?_; try cbv))
        refine s_wr' hS h0 (by rw [hF, qfz (by omega)]; omega) (Nat.le_refl 2) rfl ?_
        intro F' hF'
        cbv
        repeat' (first
          | (refine s_st hS ?_; try cbv)
          | (refine qab hS ?_ ?_ <;> intro h <;> (try cbv) <;> try exact s_ab h)
          | (refine qai hS ?_; intro _ _; try cbv)
          | (refine qae hS ?_; try cbv))
        obtain ⟨c1, h_c1⟩ : ∃ r_, r_ = c + 1 := ⟨_, rfl⟩
        obtain ⟨F2, hF2⟩ : ∃ F2, F2 = upto c1.toNat := ⟨_, rfl⟩
        obtain ⟨b11, h_b11⟩ : ∃ r_, r_ = a11 + 1 := ⟨_, rfl⟩
        have n5 := qaq (m := 5) h0
        have n6 := qaq (m := 6) h0
        have n7 := qaq (m := 7) h0
        have n11 := qaq (m := 11) h0
        rw [hc, ← h_c1] at n5 n6 n7 n11
        simp at n5 n6 n7 n11
        have hsub : SubL F' F2 := by
          rw [hF2, h_c1]
          exact qmz h0 (by assumption) hF hc (by simp [Hu.base]; omega) hF'
        refine ⟨(c1, a5, a6, a7, b11, F2), by dsimp only; omega, ⟨by dsimp only; omega, by dsimp only; omega, by dsimp only; omega, by dsimp only; omega, by dsimp only; omega, by dsimp only; omega, hF2⟩, rfl, ?_, ?_, ?_⟩
        · cbv; all_goals exact s_sA
        · cbv; all_goals exact s_bA
        · cbv; exact qte (hg _ _ hF2 _)
    · simp only [← hS, Int.ofNat_eq_natCast, cq, Bool.not_eq_true', Bool.not_eq_false', decide_eq_true_eq, decide_eq_false_iff_not, beq_iff_eq, beq_eq_false_iff_ne, ne_eq] at h
      have hF2 : F = codeLit := by rw [hF, show c = 256 by omega]; exact qhi
      rw [hF2]
      cbv
      refine qxg hS (by subst hS; kernel_rfl) ?_
      refine s_all hS (by kernel_rfl) (by kernel_rfl) (by kernel_rfl) ?_
      cbv
      rw [← hT]
      exact Sub.rfl
end Cz
namespace Cz
open Go Go.RowKit Go.Proofs
theorem qua {T : List SV} (hT : codeLit = T) : lenS T = 512 := by rw [qcj, ← hT, ← qhi, qfz (Nat.le_refl _)]
end Cz
namespace Cz
open Go Go.RowKit Go.Proofs
def ent (n : Nat) : SV × SV := (.ag [.i .i64 (.y (codeI n)), .i .i64 (.y (clsI n))], .i .u8 (.y n))
def knownE (c : Nat) : List (SV × SV) := (List.range c).map ent
theorem qbl (c : Nat) : norefM (knownE c) = true := by
  unfold knownE
  induction List.range c with
  | nil => rfl
  | cons n l ih => simp only [List.map_cons, ent, norefM, ih]; rfl
theorem SubM.refl : ∀ (es : List (SV × SV)), SubM es es
  | [] => .nil
  | (_, _) :: r => .cons .rfl .rfl (SubM.refl r)
theorem gcM_ok {n : Nat} : ∀ {es : List (SV × SV)}, norefM es = true → gcM n es = true
  | [], _ => rfl
  | (k, v) :: r, h => by
    simp only [norefM, Bool.and_eq_true] at h
    simp only [gcM, Bool.and_eq_true]
    exact ⟨⟨qgy (fun _ h => by cases h) _ h.1.1, qgy (fun _ h => by cases h) _ h.1.2⟩, gcM_ok h.2⟩
theorem gc_map {n : Nat} {es : List (SV × SV)} : norefM es = true → (match
      match es with
      | [] => true
      | (k, v) :: r => refsB (low n) k && refsB (low n) v && gcM n r with
    | false => false
    | true => true) = true := by
  intro h
  have := gcM_ok (n := n) h
  cases es with
  | nil => rfl
  | cons e r => simp only [gcM] at this; simp only [this]
theorem known_keys {n : Nat} {e : SV × SV} (h : e ∈ knownE n) : ∃ k, k < n ∧ e = ent k := by
  simp only [knownE, List.mem_map, List.mem_range] at h
  obtain ⟨k, hk, rfl⟩ := h
  exact ⟨k, hk, rfl⟩
theorem known_next (n : Nat) : knownE (n + 1) = knownE n ++ [ent n] := by
  unfold knownE; rw [List.range_succ, List.map_append]; rfl
theorem veq_2 {S : Sy} (hS : S0 Tryd.prog = S) {x y : Z} {a b : Int} {k1 k2 : Unit → Prop} (h1 : x.v = a → y.v = b → k1 ()) (h2 : (x.v ≠ a ∨ y.v ≠ b) → k2 ()) :
    veq S ⟨true, [.ki, .ki]⟩ (.ag [.i .i64 x, .i .i64 y]) (.ag [.i .i64 (.y a), .i .i64 (.y b)]) k1 k2 := by
  subst hS
  have e : ∀ (x : Z) (a : Int) (k1 k2 : Unit → Prop), (x.v = a → k1 ()) → (x.v ≠ a → k2 ()) → veq1 (S0 Tryd.prog) .ki (.i .i64 x) (.i .i64 (.y a)) k1 k2 := by
    intro x a k1 k2 h1 h2
    have : (S0 Tryd.prog).br ((S0 Tryd.prog).cmp .eq x.v a) k1 k2 := ⟨fun h => h1 (by simpa [qwq] using h), fun h => h2 (by simpa [qwq] using h)⟩
    cases x <;> exact this
  show veq1 (S0 Tryd.prog) .ki (.i .i64 x) (.i .i64 (.y a)) (fun _ => veq1 (S0 Tryd.prog) .ki (.i .i64 y) (.i .i64 (.y b)) (fun _ => k1 ()) k2) k2
  exact e x a _ _ (fun e1 => e y b _ _ (fun e2 => h1 e1 e2) fun n => h2 (.inr n)) fun n => h2 (.inl n)
theorem qzt {S : Sy} (hS : S0 Tryd.prog = S) {x y : Z} {v : SV} {K : List (SV × SV) → Prop} : ∀ {es acc : List (SV × SV)} (h : ∀ e ∈ es, ∃ a b, e.1 = .ag [.i .i64 (.y a), .i .i64 (.y b)] ∧ (x.v ≠ a ∨ y.v ≠ b))
    (hK : K (acc ++ es ++ [(.ag [.i .i64 x, .i .i64 y], v)])), vmupd S ⟨true, [.ki, .ki]⟩ (.ag [.i .i64 x, .i .i64 y]) v K acc es
  | [], acc, _, hK => by simpa [vmupd] using hK
  | (k, u) :: r, acc, h, hK => by
    obtain ⟨a, b, e, hn⟩ := h _ (List.mem_cons_self ..)
    dsimp only at e
    subst e
    simp only [vmupd]
    refine veq_2 hS (fun e1 e2 => ?_) fun _ => qzt hS (fun e he => h e (List.mem_cons_of_mem _ he)) (by simpa using hK)
    rcases hn with hn | hn <;> contradiction
theorem qzh {c : Int} {m : Nat} {z : Z} (h : Hu.cls c.toNat = m) (hz : z.v = m) : clsI c = z.v := by unfold clsI; rw [h, hz]
theorem qnm {S : Sy} (hS : S0 Tryd.prog = S) {c a : Int} {z : Z} {K : List (SV × SV) → Prop} {es : List (SV × SV)} (h0 : 0 ≤ c) (hc : codeI c = a) (hm : clsI c = z.v) (he : es = knownE c.toNat)
    (hK : ∀ es', SubM es' (knownE (c + 1).toNat) → norefM es' = true → K es') :
    vmupd S ⟨true, [.ki, .ki]⟩ (.ag [.i .i64 (.y a), .i .i64 z]) (.i .u8 (.y c)) K [] es := by
  subst he
  refine qzt hS (fun e h => ?_) (hK _ ?_ ?_)
  · obtain ⟨k, hk, rfl⟩ := known_keys h
    refine ⟨_, _, rfl, ?_⟩
    simp only [Z.v]
    by_cases e1 : a = codeI k
    · refine .inr fun e2 => ?_
      rw [← hc] at e1
      have e3 : clsI c = clsI k := hm.trans e2
      unfold codeI at e1; unfold clsI at e3
      simp only [Int.toNat_natCast] at e1 e3
      have := Hu.qrn (c := c.toNat) (d := k) (by omega) (by omega)
      omega
    · exact .inl e1
  · rw [show (c + 1).toNat = c.toNat + 1 by omega, known_next, List.nil_append]
    have : ∀ (l : List (SV × SV)) (x y : SV × SV), Sub x.1 y.1 → Sub x.2 y.2 → SubM (l ++ [x]) (l ++ [y]) := by
      intro l x y h1 h2
      induction l with
      | nil => exact .cons h1 h2 .nil
      | cons e l ih => exact .cons .rfl .rfl ih
    refine this _ _ _ (qdn (.cons (qag ?_) (.cons (qag ?_) .nil))) (qag ?_)
    · simp only [Z.v]; rw [← hc, Int.toNat_of_nonneg h0]
    · rw [← hm, Int.toNat_of_nonneg h0]; rfl
    · simp only [Z.v]; omega
  · rw [List.nil_append]
    have := qbl c.toNat
    generalize knownE c.toNat = l at this
    induction l with
    | nil => rfl
    | cons e l ih => obtain ⟨k, u⟩ := e; simp only [norefM, Bool.and_eq_true, List.cons_append] at this ⊢; exact ⟨this.1, ih this.2⟩
theorem known_f {T : List (SV × SV)} (hT : knownE 256 = T) : (S0 Tryd.prog).call 128 [] [] (MapIs 0 T) := by
  generalize hS : S0 Tryd.prog = S
  refine qac hS I.qyw ?_
  unfold I.qwh
  cbv
  refine qac hS I.qnv ?_
  cbv
  refine qhq hS I.qjn ?_
  cbv
  iterate 4 (refine s_mu hS ?_; cbv)
  refine qba hS 5 I.qfq (fun x : Int × Int × Int × Int × Int × List (SV × SV) => 0 ≤ x.1 ∧ x.1 ≤ 256 ∧ x.2.1 = cntI 5 x.1 ∧ x.2.2.1 = 32 + cntI 6 x.1 ∧ x.2.2.2.1 = 96 + cntI 7 x.1 ∧ x.2.2.2.2.1 = 1792 + cntI 11 x.1 ∧ x.2.2.2.2.2 = knownE x.1.toNat)
    (fun x => [(10, .i .i64 (.y x.1))])
    (fun x => [(0, .m x.2.2.2.2.2), (4, .m [(.i .i64 (.l 5), .i .i64 (.y x.2.1)), (.i .i64 (.l 6), .i .i64 (.y x.2.2.1)), (.i .i64 (.l 7), .i .i64 (.y x.2.2.2.1)), (.i .i64 (.l 11), .i .i64 (.y x.2.2.2.2.1))])])
    (fun x => (256 - x.1).toNat) (0, 0, 32, 96, 1792, []) rfl ⟨⟨Int.le_refl _, (by show (0 : Int) ≤ 256; omega), rfl, rfl, rfl, rfl, rfl⟩, rfl, ?_, ?_, ?_⟩ ?_
  · cbv; all_goals exact s_sA
  · cbv; all_goals exact s_bA
  · cbv
  · intro x
    obtain ⟨c, a5, a6, a7, a11, F⟩ := x
    intro ha
    dsimp only at ha
    cbv
    obtain ⟨h0, h1, e5, e6, e7, e11, hF⟩ := ha
    refine s_br hS ?_ ?_ <;> intro h
    · cbv
      simp only [← hS, Int.ofNat_eq_natCast, cq, Bool.not_eq_true', Bool.not_eq_false', decide_eq_true_eq, decide_eq_false_iff_not, beq_iff_eq, beq_eq_false_iff_ne, ne_eq] at h
      have k5 := qig (m := 5) h0
      have k6 := qig (m := 6) h0
      have k7 := qig (m := 7) h0
      have k11 := qig (m := 11) h0
      rcases idx_at h0 h with ⟨hc, i5, i6, i7⟩ | ⟨hc, i5, i6, i7⟩ | ⟨hc, i5, i6, i7⟩ | ⟨hc, i5, i6, i7⟩
      · refine qah hS ?_
        cbv
        repeat' (first
          | (refine s_st hS ?_; try cbv)
          | (refine qab hS ?_ ?_ <;> intro h <;> (try cbv) <;> try exact s_ab h)
          | (refine qai hS ?_; intro _ _; try cbv)
          | (refine qae hS ?_; try cbv))
        refine qcc hS fun r5 h5 => ?_
        replace h5 : 0 ≤ r5 := by rw [← h5]; exact i5
        cbv
        repeat' (first
          | (refine s_st hS ?_; try cbv)
          | (refine qab hS ?_ ?_ <;> intro h <;> (try cbv) <;> try exact s_ab h)
          | (refine qai hS ?_; intro _ _; try cbv)
          | (refine qae hS ?_; try cbv))
        refine qah hS ?_
        cbv
        repeat' (first
          | (refine s_st hS ?_; try cbv)
          | (refine qab hS ?_ ?_ <;> intro h <;> (try cbv) <;> try exact s_ab h)
          | (refine qai hS ?_; intro _ _; try cbv)
          | (refine qae hS ?_; try cbv))
        refine qcc hS fun r6 h6 => ?_
        replace h6 : r6 < 0 := by rw [← h6]; exact i6
        cbv
        repeat' (first
          | (refine s_st hS ?_; try cbv)
          | (refine qab hS ?_ ?_ <;> intro h <;> (try cbv) <;> try exact s_ab h)
          | (refine qai hS ?_; intro _ _; try cbv)
          | (refine qae hS ?_; try cbv))
        refine qah hS ?_
        cbv
        repeat' (first
          | (refine s_st hS ?_; try cbv)
          | (refine qab hS ?_ ?_ <;> intro h <;> (try cbv) <;> try exact s_ab h)
          | (refine qai hS ?_; intro _ _; try cbv)
          | (refine qae hS ?_; try cbv))
        refine qcc hS fun r7 h7 => ?_
        replace h7 : r7 < 0 := by rw [← h7]; exact i7
        cbv
        repeat' (first
          | (refine s_st hS ?_; try cbv)
          | (refine qab hS ?_ ?_ <;> intro h <;> (try cbv) <;> try exact s_ab h)
          | (refine qai hS ?_; intro _ _; try cbv)
          | (refine qae hS ?_; try cbv))
        refine qah hS ?_
        cbv
        repeat' (first
          | (refine s_st hS ?_; try cbv)
          | (refine qab hS ?_ ?_ <;> intro h <;> (try cbv) <;> try exact s_ab h)
          | (refine qai hS ?_; intro _ _; try cbv)
          | (refine qae hS ?_; try cbv))
        refine qev hS rfl rfl ?_
        cbv
        refine s_mu hS ?_
        refine qnm hS h0 (by rw [qkm hc]; simp [Hu.base]; omega) (qzh hc rfl) hF fun F' hF' hN => ?_
        cbv
        repeat' (first
          | (refine s_st hS ?_; try cbv)
          | (refine qab hS ?_ ?_ <;> intro h <;> (try cbv) <;> try exact s_ab h)
          | (refine qai hS ?_; intro _ _; try cbv)
          | (refine qae hS ?_; try cbv))
        obtain ⟨c1, h_c1⟩ : ∃ r_, r_ = c + 1 := ⟨_, rfl⟩
        obtain ⟨F2, hF2⟩ : ∃ F2, F2 = knownE c1.toNat := ⟨_, rfl⟩
        obtain ⟨b5, h_b5⟩ : ∃ r_, r_ = a5 + 1 := ⟨_, rfl⟩
        have n5 := qaq (m := 5) h0
        have n6 := qaq (m := 6) h0
        have n7 := qaq (m := 7) h0
        have n11 := qaq (m := 11) h0
        rw [hc, ← h_c1] at n5 n6 n7 n11
        simp at n5 n6 n7 n11
        have hsub : SubM F' F2 := by
          rw [hF2, h_c1]
          exact hF'
        refine ⟨(c1, b5, a6, a7, a11, F2), by dsimp only; omega, ⟨by dsimp only; omega, by dsimp only; omega, by dsimp only; omega, by dsimp only; omega, by dsimp only; omega, by dsimp only; omega, hF2⟩, rfl, ?_, ?_, ?_⟩
        · cbv; all_goals exact s_sA
        · cbv; refine ⟨SubB.m hsub, ?_⟩; all_goals exact s_bA
        · cbv
          exact gc_map (by rw [hF2]; exact qbl _)
      · refine qah hS ?_
        cbv
        repeat' (first
          | (refine s_st hS ?_; try cbv)
          | (refine qab hS ?_ ?_ <;> intro h <;> (try cbv) <;> try exact s_ab h)
          | (refine qai hS ?_; intro _ _; try cbv)
          | (refine qae hS ?_; try cbv))
        refine qcc hS fun r5 h5 => ?_
        replace h5 : r5 < 0 := by rw [← h5]; exact i5
        cbv
        repeat' (first
          | (refine s_st hS ?_; try cbv)
          | (refine qab hS ?_ ?_ <;> intro h <;> (try cbv) <;> try exact s_ab h)
          | (refine qai hS ?_; intro _ _; try cbv)
          | (refine qae hS ?_; try cbv))
        refine qah hS ?_
        cbv
        repeat' (first
          | (refine s_st hS ?_; try cbv)
          | (refine qab hS ?_ ?_ <;> intro h <;> (try cbv) <;> try exact s_ab h)
          | (refine qai hS ?_; intro _ _; try cbv)
          | (refine qae hS ?_; try cbv))
        refine qcc hS fun r6 h6 => ?_
        replace h6 : 0 ≤ r6 := by rw [← h6]; exact i6
        cbv
        repeat' (first
          | (refine s_st hS ?_; try cbv)
          | (refine qab hS ?_ ?_ <;> intro h <;> (try cbv) <;> try exact s_ab h)
          | (refine qai hS ?_; intro _ _; try cbv)
          | (refine qae hS ?_; try cbv))
        refine qah hS ?_
        cbv
        repeat' (first
          | (refine s_st hS ?_; try cbv)
          | (refine qab hS ?_ ?_ <;> intro h <;> (try cbv) <;> try exact s_ab h)
          | (refine qai hS ?_; intro _ _; try cbv)
          | (refine qae hS ?_; try cbv))
        refine qcc hS fun r7 h7 => ?_
        replace h7 : r7 < 0 := by rw [← h7]; exact i7
        cbv
        repeat' (first
          | (refine s_st hS ?_; try cbv)
          | (refine qab hS ?_ ?_ <;> intro h <;> (try cbv) <;> try exact s_ab h)
          | (refine qai hS ?_; intro _ _; try cbv)
          | (refine qae hS ?_; try cbv))
        refine qah hS ?_
        cbv
        repeat' (first
          | (refine s_st hS ?_; try cbv)
          | (refine qab hS ?_ ?_ <;> intro h <;> (try cbv) <;> try exact s_ab h)
          | (refine qai hS ?_; intro _ _; try cbv)
          | (refine qae hS ?_; try cbv))
        refine qev hS rfl rfl ?_
        cbv
        refine s_mu hS ?_
        refine qnm hS h0 (by rw [qkm hc]; simp [Hu.base]; omega) (qzh hc rfl) hF fun F' hF' hN => ?_
        cbv
        repeat' (first
          | (refine s_st hS ?_; try cbv)
          | (refine qab hS ?_ ?_ <;> intro h <;> (try cbv) <;> try exact s_ab h)
          | (refine qai hS ?_; intro _ _; try cbv)
          | (refine qae hS ?_; try cbv))
        obtain ⟨c1, h_c1⟩ : ∃ r_, r_ = c + 1 := ⟨_, rfl⟩
        obtain ⟨F2, hF2⟩ : ∃ F2, F2 = knownE c1.toNat := ⟨_, rfl⟩
        obtain ⟨b6, h_b6⟩ : ∃ r_, r_ = a6 + 1 := ⟨_, rfl⟩
        have n5 := qaq (m := 5) h0
        have n6 := qaq (m := 6) h0
        have n7 := qaq (m := 7) h0
        have n11 := qaq (m := 11) h0
        rw [hc, ← h_c1] at n5 n6 n7 n11
        simp at n5 n6 n7 n11
        have hsub : SubM F' F2 := by
          rw [hF2, h_c1]
          exact hF'
        refine ⟨(c1, a5, b6, a7, a11, F2), by dsimp only; omega, ⟨by dsimp only; omega, by dsimp only; omega, by dsimp only; omega, by dsimp only; omega, by dsimp only; omega, by dsimp only; omega, hF2⟩, rfl, ?_, ?_, ?_⟩
        · cbv; all_goals exact s_sA
        · cbv; refine ⟨SubB.m hsub, ?_⟩; all_goals exact s_bA
        · cbv
          exact gc_map (by rw [hF2]; exact qbl _)
      · refine qah hS ?_
        cbv
        repeat' (first
          | (refine s_st hS ?_; try cbv)
          | (refine qab hS ?_ ?_ <;> intro h <;> (try cbv) <;> try exact s_ab h)
          | (refine qai hS ?_; intro _ _; try cbv)
          | (refine qae hS ?_; try cbv))
        refine qcc hS fun r5 h5 => ?_
        replace h5 : r5 < 0 := by rw [← h5]; exact i5
        cbv
        repeat' (first
          | (refine s_st hS ?_; try cbv)
          | (refine qab hS ?_ ?_ <;> intro h <;> (try cbv) <;> try exact s_ab h)
          | (refine qai hS ?_; intro _ _; try cbv)
          | (refine qae hS ?_; try cbv))
        refine qah hS ?_
        cbv
        repeat' (first
          | (refine s_st hS ?_; try cbv)
          | (refine qab hS ?_ ?_ <;> intro h <;> (try cbv) <;> try exact s_ab h)
          | (refine qai hS ?_; intro _ _; try cbv)
          | (refine qae hS ?_; try cbv))
        refine qcc hS fun r6 h6 => ?_
        replace h6 : r6 < 0 := by rw [← h6]; exact i6
        cbv
        repeat' (first
          | (refine s_st hS ?_; try cbv)
          | (refine qab hS ?_ ?_ <;> intro h <;> (try cbv) <;> try exact s_ab h)
          | (refine qai hS ?_; intro _ _; try cbv)
          | (refine qae hS ?_; try cbv))
        refine qah hS ?_
        cbv
        repeat' (first
          | (refine s_st hS ?_; try cbv)
          | (refine qab hS ?_ ?_ <;> intro h <;> (try cbv) <;> try exact s_ab h)
          | (refine qai hS ?_; intro _ _; try cbv)
          | (refine qae hS ?_; try cbv))
        refine qcc hS fun r7 h7 => ?_
        replace h7 : 0 ≤ r7 := by rw [← h7]; exact i7
        cbv
        repeat' (first
          | (refine s_st hS ?_; try cbv)
          | (refine qab hS ?_ ?_ <;> intro h <;> (try cbv) <;> try exact s_ab h)
          | (refine qai hS ?_; intro _ _; try cbv)
          | (refine qae hS ?_; try cbv))
        refine qah hS ?_
        cbv
        repeat' (first
          | (refine s_st hS ?_; try cbv)
          | (refine qab hS ?_ ?_ <;> intro h <;> (try cbv) <;> try exact s_ab h)
          | (refine qai hS ?_; intro _ _; try cbv)
          | (refine qae hS ?_; try cbv))
        refine qev hS rfl rfl ?_
        cbv
        refine s_mu hS ?_
        refine qnm hS h0 (by rw [qkm hc]; simp [Hu.base]; omega) (qzh hc rfl) hF fun F' hF' hN => ?_
        cbv
        repeat' (first
          | (refine s_st hS ?_; try cbv)
          | (refine qab hS ?_ ?_ <;> intro h <;> (try cbv) <;> try exact s_ab h)
          | (refine qai hS ?_; intro _ _; try cbv)
          | (refine qae hS ?_; try cbv))
        obtain ⟨c1, h_c1⟩ : ∃ r_, r_ = c + 1 := ⟨_, rfl⟩
        obtain ⟨F2, hF2⟩ : ∃ F2, F2 = knownE c1.toNat := ⟨_, rfl⟩
        obtain ⟨b7, h_b7⟩ : ∃ r_, r_ = a7 + 1 := ⟨_, rfl⟩
        have n5 := qaq (m := 5) h0
        have n6 := qaq (m := 6) h0
        have n7 := qaq (m := 7) h0
        have n11 := qaq (m := 11) h0
        rw [hc, ← h_c1] at n5 n6 n7 n11
        simp at n5 n6 n7 n11
        have hsub : SubM F' F2 := by
          rw [hF2, h_c1]
          exact hF'
        refine ⟨(c1, a5, a6, b7, a11, F2), by dsimp only; omega, ⟨by dsimp only; omega, by dsimp only; omega, by dsimp only; omega, by dsimp only; omega, by dsimp only; omega, by dsimp only; omega, hF2⟩, rfl, ?_, ?_, ?_⟩
        · cbv; all_goals exact s_sA
        · cbv; refine ⟨SubB.m hsub, ?_⟩; all_goals exact s_bA
        · cbv
          exact gc_map (by rw [hF2]; exact qbl _)
      · refine qah hS ?_
        cbv
        repeat' (first
          | (refine s_st hS ?_; try cbv)
          | (refine qab hS ?_ ?_ <;> intro h <;> (try cbv) <;> try exact s_ab h)
          | (refine qai hS ?_; intro _ _; try cbv)
          | (refine qae hS ?_; try cbv))
        refine qcc hS fun r5 h5 => ?_
        replace h5 : r5 < 0 := by rw [← h5]; exact i5
        cbv
        repeat' (first
          | (refine s_st hS ?_; try cbv)
          | (refine qab hS ?_ ?_ <;> intro h <;> (try cbv) <;> try exact s_ab h)
          | (refine qai hS ?_; intro _ _; try cbv)
          | (refine qae hS ?_; try cbv))
        refine qah hS ?_
        cbv
        repeat' (first
          | (refine s_st hS ?_; try cbv)
          | (refine qab hS ?_ ?_ <;> intro h <;> (try cbv) <;> try exact s_ab h)
          | (refine qai hS ?_; intro _ _; try cbv)
          | (refine qae hS ?_; try cbv))
        refine qcc hS fun r6 h6 => ?_
        replace h6 : r6 < 0 := by rw [← h6]; exact i6
        cbv
        repeat' (first
          | (refine s_st hS ?_; try cbv)
          | (refine qab hS ?_ ?_ <;> intro h <;> (try cbv) <;> try exact s_ab h)
          | (refine qai hS ?_; intro _ _; try cbv)
          | (refine qae hS ?_; try cbv))
        refine qah hS ?_
        cbv
        repeat' (first
          | (refine s_st hS ?_; try cbv)
          | (refine qab hS ?_ ?_ <;> intro h <;> (try cbv) <;> try exact s_ab h)
          | (refine qai hS ?_; intro _ _; try cbv)
          | (refine qae hS ?_; try cbv))
        refine qcc hS fun r7 h7 => ?_
        replace h7 : r7 < 0 := by rw [← h7]; exact i7
        cbv
        repeat' (first
          | (refine s_st hS ?_; try cbv)
          | (refine qab hS ?_ ?_ <;> intro h <;> (try cbv) <;> try exact s_ab h)
          | (refine qai hS ?_; intro _ _; try cbv)
          | (refine qae hS ?_; try cbv))
        refine qah hS ?_
        cbv
        repeat' (first
          | (refine s_st hS ?_; try cbv)
          | (refine qab hS ?_ ?_ <;> intro h <;> (try cbv) <;> try exact s_ab h)
          | (refine qai hS ?_; intro _ _; try cbv)
          | (refine qae hS ?_; try cbv))
        refine qev hS rfl rfl ?_
        cbv
        refine s_mu hS ?_
        refine qnm hS h0 (by rw [qkm hc]; simp [Hu.base]; omega) (qzh hc rfl) hF fun F' hF' hN => ?_
        cbv
        repeat' (first
          | (refine s_st hS ?_; try cbv)
          | (refine qab hS ?_ ?_ <;> intro h <;> (try cbv) <;> try exact s_ab h)
          | (refine qai hS ?_; intro _ _; try cbv)
          | (refine qae hS ?_; try cbv))
        obtain ⟨c1, h_c1⟩ : ∃ r_, r_ = c + 1 := ⟨_, rfl⟩
        obtain ⟨F2, hF2⟩ : ∃ F2, F2 = knownE c1.toNat := ⟨_, rfl⟩
        obtain ⟨b11, h_b11⟩ : ∃ r_, r_ = a11 + 1 := ⟨_, rfl⟩
        have n5 := qaq (m := 5) h0
        have n6 := qaq (m := 6) h0
        have n7 := qaq (m := 7) h0
        have n11 := qaq (m := 11) h0
        rw [hc, ← h_c1] at n5 n6 n7 n11
        simp at n5 n6 n7 n11
        have hsub : SubM F' F2 := by
          rw [hF2, h_c1]
          exact hF'
        refine ⟨(c1, a5, a6, a7, b11, F2), by dsimp only; omega, ⟨by dsimp only; omega, by dsimp only; omega, by dsimp only; omega, by dsimp only; omega, by dsimp only; omega, by dsimp only; omega, hF2⟩, rfl, ?_, ?_, ?_⟩
        · cbv; all_goals exact s_sA
        · cbv; refine ⟨SubB.m hsub, ?_⟩; all_goals exact s_bA
        · cbv
          exact gc_map (by rw [hF2]; exact qbl _)
    · simp only [← hS, Int.ofNat_eq_natCast, cq, Bool.not_eq_true', Bool.not_eq_false', decide_eq_true_eq, decide_eq_false_iff_not, beq_iff_eq, beq_eq_false_iff_ne, ne_eq] at h
      have hF2 : F = T := by rw [hF, show c = 256 by omega]; exact hT
      cbv
      exact ⟨0, F, Nat.le_refl _, rfl, rfl, by rw [hF2]; exact SubM.refl _, by rw [hF]; exact qbl _⟩
end Cz
namespace Cz
open Go Go.RowKit Go.Proofs
def findO (a m : Int) : Option Nat := if 0 ≤ a ∧ 0 ≤ m then Hu.find a.toNat m.toNat else none
def findR (a m : Int) : Int := match findO a m with | some c => c | none => 0
def findB (a m : Int) : Bool := (findO a m).isSome
theorem qpm {a m : Int} {c : Nat} (h : findO a m = some c) : c < 256 ∧ codeI c = a ∧ clsI c = m := by
  unfold findO at h
  split at h
  · rename_i h0
    obtain ⟨h1, h2, h3⟩ := Hu.qnx h
    refine ⟨h1, ?_, ?_⟩
    · unfold codeI; simp only [Int.toNat_natCast, h2]; omega
    · unfold clsI; simp only [Int.toNat_natCast, h3]; omega
  · cases h
theorem findO_none {a m : Int} (h : findO a m = none) {c : Nat} (hc : c < 256) : ¬(codeI c = a ∧ clsI c = m) := by
  rintro ⟨rfl, rfl⟩
  unfold findO codeI clsI at h
  simp only [Int.toNat_natCast] at h
  rw [if_pos ⟨by omega, by omega⟩, Hu.qtq hc] at h
  cases h
theorem qvp {S : Sy} (hS : S0 Tryd.prog = S) {x y zero : SV} {a b : Z} {K : SV → Bool → Prop} {c : Nat} (h1 : codeI c = a.v) (h2 : clsI c = b.v) (hK : K (.i .u8 (.y c)) true) : ∀ (l : List Nat), c ∈ l →
    vlook S ⟨true, [.ki, .ki]⟩ (.ag [.i .i64 a, .i .i64 b]) K zero (l.map ent)
  | [], h => by cases h
  | k :: l, h => by
    simp only [List.map_cons, ent, vlook]
    refine veq_2 hS (fun e1 e2 => ?_) fun hn => ?_
    · have : k = c := by
        have e3 := e1.symm.trans h1.symm
        have e4 := e2.symm.trans h2.symm
        unfold codeI at e3; unfold clsI at e4
        simp only [Int.toNat_natCast] at e3 e4
        exact Hu.qrn (by omega) (by omega)
      rw [this]; exact hK
    · rcases List.mem_cons.1 h with rfl | h
      · rcases hn with hn | hn
        · exact absurd h1.symm hn
        · exact absurd h2.symm hn
      · exact qvp (x := x) (y := y) hS h1 h2 hK l h
theorem qvq {S : Sy} (hS : S0 Tryd.prog = S) {zero : SV} {a b : Z} {K : SV → Bool → Prop} (hK : K zero false) : ∀ (l : List Nat), (∀ c ∈ l, ¬(codeI c = a.v ∧ clsI c = b.v)) →
    vlook S ⟨true, [.ki, .ki]⟩ (.ag [.i .i64 a, .i .i64 b]) K zero (l.map ent)
  | [], h => by simpa [vlook] using hK
  | k :: l, h => by
    simp only [List.map_cons, ent, vlook]
    refine veq_2 hS (fun e1 e2 => ?_) fun _ => qvq hS hK l fun c hc => h c (List.mem_cons_of_mem _ hc)
    exact absurd ⟨e1.symm, e2.symm⟩ (h k (List.mem_cons_self ..))
theorem qdx {S : Sy} (hS : S0 Tryd.prog = S) {T : List (SV × SV)} (hT : knownE 256 = T) {a b : Z} {K : SV → Bool → Prop} {zero : SV}
    (h1 : ∀ c : Int, findO a.v b.v = some c.toNat → 0 ≤ c → c < 256 → K (.i .u8 (.y c)) true) (h2 : findO a.v b.v = none → K zero false) :
    S.lk ⟨true, [.ki, .ki]⟩ (.ag [.i .i64 a, .i .i64 b]) K zero T := by
  refine s_lk hS ?_
  subst hT
  unfold knownE
  cases hf : findO a.v b.v with
  | some c =>
    obtain ⟨hc, e1, e2⟩ := qpm hf
    exact qvp (x := zero) (y := zero) hS e1 e2 (h1 c (by simpa using hf) (by omega) (by omega)) _ (by simp [hc])
  | none => exact qvq hS (h2 hf) _ fun c hc => findO_none hf (by simpa using hc)
end Cz
namespace Cz
open Go Go.RowKit Go.Proofs
namespace Tb
abbrev Fd := List UInt8 × List UInt8
def stL : List Fd :=
   [([58, 109, 101, 116, 104, 111, 100], [71, 69, 84]),
    ([58, 109, 101, 116, 104, 111, 100], [80, 79, 83, 84]),
    ([58, 112, 97, 116, 104], [47]),
    ([58, 115, 99, 104, 101, 109, 101], [104, 116, 116, 112]),
    ([58, 115, 99, 104, 101, 109, 101], [104, 116, 116, 112, 115]),
    ([58, 115, 116, 97, 116, 117, 115], [50, 48, 48]),
    ([58, 115, 116, 97, 116, 117, 115], [50, 48, 52]),
    ([58, 115, 116, 97, 116, 117, 115], [52, 48, 52]),
    ([58, 115, 116, 97, 116, 117, 115], [53, 48, 48]),
    ([97, 99, 99, 101, 112, 116], []),
    ([99, 111, 110, 116, 101, 110, 116, 45, 108, 101, 110, 103, 116, 104], []),
    ([99, 111, 110, 116, 101, 110, 116, 45, 116, 121, 112, 101], []),
    ([99, 111, 111, 107, 105, 101], []),
    ([100, 97, 116, 101], []),
    ([104, 111, 115, 116], []),
    ([108, 111, 99, 97, 116, 105, 111, 110], []),
    ([112, 114, 105, 111, 114, 105, 116, 121], []),
    ([112, 114, 105, 111, 114, 105, 116, 121], [117, 61, 49]),
    ([115, 101, 114, 118, 101, 114], []),
    ([117, 115, 101, 114, 45, 97, 103, 101, 110, 116], [])]
def lineL : List (List UInt8) :=
   [[58, 109, 101, 116, 104, 111, 100, 32, 71, 69, 84],
    [58, 109, 101, 116, 104, 111, 100, 32, 80, 79, 83, 84],
    [58, 112, 97, 116, 104, 32, 47],
    [58, 115, 99, 104, 101, 109, 101, 32, 104, 116, 116, 112],
    [58, 115, 99, 104, 101, 109, 101, 32, 104, 116, 116, 112, 115],
    [58, 115, 116, 97, 116, 117, 115, 32, 50, 48, 48],
    [58, 115, 116, 97, 116, 117, 115, 32, 50, 48, 52],
    [58, 115, 116, 97, 116, 117, 115, 32, 52, 48, 52],
    [58, 115, 116, 97, 116, 117, 115, 32, 53, 48, 48],
    [97, 99, 99, 101, 112, 116],
    [99, 111, 110, 116, 101, 110, 116, 45, 108, 101, 110, 103, 116, 104],
    [99, 111, 110, 116, 101, 110, 116, 45, 116, 121, 112, 101],
    [99, 111, 111, 107, 105, 101],
    [100, 97, 116, 101],
    [104, 111, 115, 116],
    [108, 111, 99, 97, 116, 105, 111, 110],
    [112, 114, 105, 111, 114, 105, 116, 121],
    [112, 114, 105, 111, 114, 105, 116, 121, 32, 117, 61, 49],
    [115, 101, 114, 118, 101, 114],
    [117, 115, 101, 114, 45, 97, 103, 101, 110, 116]]
def joinT : List (List UInt8) → List UInt8
  | [] => []
  | [x] => x
  | x :: y :: r => x ++ 10 :: joinT (y :: r)
def remT (j : Nat) : List UInt8 := joinT (lineL.drop j)
def szF (f : Fd) : Int := ilen f.1 + ilen f.2 + 32
theorem qeu (f : Fd) : 32 ≤ szF f := by have := qaf f.1; have := qaf f.2; unfold szF; omega
def fullL : List Fd → Int
  | [] => 0
  | f :: r => szF f + fullL r
theorem qfg : ∀ l : List Fd, 0 ≤ fullL l
  | [] => by simp [fullL]
  | f :: r => by have := qeu f; have := qfg r; simp only [fullL]; omega
theorem qes : ∀ l m : List Fd, fullL (l ++ m) = fullL l + fullL m
  | [], m => by simp [fullL]
  | f :: r, m => by simp only [List.cons_append, fullL, qes r m]; omega
theorem qbq : ∀ l : List Fd, 32 * ilen l ≤ fullL l
  | [] => by simp [fullL, ilen]
  | f :: r => by have := qeu f; have := qbq r; simp only [fullL, ilen, List.length_cons] at *; omega
theorem qer {l : List Fd} {i : Int} {f : Fd} (h : l[i.toNat]? = some f) (h0 : 0 ≤ i) : fullL (l.take (i + 1).toNat) = fullL (l.take i.toNat) + szF f := by
  rw [qir h h0, qes]; simp [fullL]
theorem qde (l : List Fd) (n : Nat) : fullL (l.take n) ≤ fullL l := by
  conv => rhs; rw [← List.take_append_drop n l]
  rw [qes]
  have := qfg (l.drop n); omega
theorem qtf {l : List Fd} {i : Nat} {f : Fd} (h : l[i]? = some f) : szF f ≤ fullL l := by
  have h1 := qde l (i + 1)
  have h2 := qer (i := i) (by simpa using h) (by omega)
  have h3 := qfg (l.take i)
  rw [show ((i : Int) + 1).toNat = i + 1 by omega] at h2
  simp only [Int.toNat_natCast] at h2
  omega
def rightL (mx : Int) (l : List Fd) : Bool := decide (0 ≤ mx ∧ mx ≤ 4096 ∧ fullL l ≤ mx)
def evN (mx : Int) (l : List Fd) : Nat → Nat
  | 0 => 0
  | n + 1 => if fullL (l.take (n + 1)) ≤ mx then n + 1 else evN mx l n
def evL (mx : Int) (l : List Fd) : List Fd := l.take (evN mx l l.length)
theorem evN_le (mx : Int) (l : List Fd) : ∀ n, evN mx l n ≤ n
  | 0 => Nat.le_refl _
  | n + 1 => by
    simp only [evN]
    split
    · exact Nat.le_refl _
    · exact Nat.le_succ_of_le (evN_le mx l n)
theorem qza {mx : Int} {l : List Fd} {n : Nat} (h : fullL (l.take n) ≤ mx) : evN mx l n = n := by
  cases n with
  | zero => rfl
  | succ n => rw [evN, if_pos h]
theorem evN_next {mx : Int} {l : List Fd} {n : Nat} (h : ¬fullL (l.take (n + 1)) ≤ mx) : evN mx l (n + 1) = evN mx l n := by rw [evN, if_neg h]
theorem evN_full {mx : Int} {l : List Fd} (h0 : 0 ≤ mx) : ∀ n, fullL (l.take (evN mx l n)) ≤ mx
  | 0 => by simpa [evN, fullL] using h0
  | n + 1 => by
    by_cases h : fullL (l.take (n + 1)) ≤ mx
    · rw [qza h]; exact h
    · rw [evN_next h]; exact evN_full h0 n
theorem qtr {mx : Int} {l : List Fd} (h0 : 0 ≤ mx) : fullL (evL mx l) ≤ mx := evN_full h0 _
theorem evL_all {mx : Int} {l : List Fd} (h : fullL l ≤ mx) : evL mx l = l := by
  unfold evL
  rw [qza (by rw [List.take_length]; exact h), List.take_length]
abbrev Tab := Int × List Fd
def newR (most : Int) : Tab × Int := if most < 0 ∨ 4096 < most then ((0, []), 2) else ((most, []), 0)
def addR (t : Tab) (f : Fd) : Tab × Int := if rightL t.1 t.2 then ((t.1, evL t.1 (f :: t.2)), 0) else ((0, []), 2)
def resR (t : Tab) (most : Int) : Tab × Int := if rightL t.1 t.2 = true ∧ 0 ≤ most ∧ most ≤ 4096 then ((most, evL most t.2), 0) else ((0, []), 2)
def allF (l : List Fd) : List Fd := stL ++ l
def atR (l : List Fd) (i : Int) : Fd × Int := if i < 1 then (([], []), 90) else match (allF l)[(i - 1).toNat]? with
  | some f => (f, 0)
  | none => (([], []), 90)
def fstI (p : Fd → Bool) : List Fd → Int → Int
  | [], _ => 0
  | x :: r, i => if p x then i else fstI p r (i + 1)
def findR (l : List Fd) (f : Fd) : Int × Bool :=
  if fstI (fun x => x == f) (allF l) 1 ≠ 0 then (fstI (fun x => x == f) (allF l) 1, true) else (fstI (fun x => x.1 == f.1) (allF l) 1, false)
theorem qxe : stL.length = 20 := rfl
theorem line_facts : ∀ j : Fin 20, idxI (remT j.val) 10 = (if j.val < 19 then ilen (lineL.getD j.val []) else -1) ∧
    (remT j.val).take (lineL.getD j.val []).length = lineL.getD j.val [] ∧ (j.val < 19 → (remT j.val).drop ((lineL.getD j.val []).length + 1) = remT (j.val + 1)) ∧ (j.val = 19 → remT j.val = lineL.getD j.val []) ∧
    (if idxI (lineL.getD j.val []) 32 < 0 then stL.getD j.val ([], []) = (lineL.getD j.val [], []) else
      stL.getD j.val ([], []) = ((lineL.getD j.val []).take (idxI (lineL.getD j.val []) 32).toNat, (lineL.getD j.val []).drop ((idxI (lineL.getD j.val []) 32).toNat + 1))) ∧ ilen (lineL.getD j.val []) ≤ 20 ∧ ilen (remT j.val) ≤ 300 ∧ idxI (lineL.getD j.val []) 32 < ilen (lineL.getD j.val []) := by
  decide +kernel
end Tb
end Cz
namespace Cz
open Go Go.RowKit Go.Proofs
namespace Tb
def fdE (f : Fd) : List SV := [.s f.1, .s f.2]
def cellsF (l : List Fd) : List SV := l.flatMap fdE
theorem qbo (l : List Fd) : plains (cellsF l) = true := qlp (fun _ => rfl) l
theorem qce (l : List Fd) : (cellsF l).length = l.length * 2 := qyy (enc := fdE) (fun _ => rfl) l
def tabV (mx : Int) (l : List Fd) : SV := .ag [.i .i64 (.y mx), .v false 2 (cellsF l) (.y (ilen l))]
theorem cells_take (l : List Fd) (n : Nat) : (cellsF l).take (n * 2) = cellsF (l.take n) := by
  induction l generalizing n with
  | nil => simp [cellsF]
  | cons f l ih =>
    cases n with
    | zero => simp [cellsF]
    | succ n =>
      have := ih n
      simp only [cellsF, List.flatMap_cons, fdE, List.take_succ_cons] at this ⊢
      rw [show (n + 1) * 2 = n * 2 + 1 + 1 by omega]
      simp only [List.cons_append, List.nil_append, List.take_succ_cons]
      rw [this]
theorem row_tab {l' : List Blk} {g : Nat → Nat} {ks : List (Option Nat)} {k : Nat} {len : Z} {cap : Option Z} {lit : Bool} {st : Z} {F : List SV} {lit' : Bool} {n : Z} {l : List Fd} {m : Nat} (hB : l'[k]? = some (.r false lit st 2 F)) (hk : kpOf ks k = none)
    (hF : F = cellsF l) (hm : len.v = m) (hn : len.v = n.v) : Fz l' g ks (.sl k 2 (.l 0) len cap) (.v lit' 2 (cellsF (l.take m)) n) := by
  refine qnr hB hk ?_ (qbo _) hn
  rw [hF, show (Z.l 0).v.toNat * 2 = 0 from rfl, List.drop_zero, show len.v.toNat = m by omega, cells_take]
inductive TabC (bl : List Blk) : List SV → Int → List Fd → Prop where
  | v {z n : Z} {lit : Bool} {F : List SV} {mx : Int} {l : List Fd} (hz : z.v = mx) (hF : cellsF l = F) (hn : n.v = ilen l) : TabC bl [.i .i64 z, .v lit 2 F n] mx l
  | nil {z : Z} {mx : Int} (hz : z.v = mx) : TabC bl [.i .i64 z, .re (.slice none 0 0)] mx []
  | row {z n st : Z} {k : Nat} {lit : Bool} {cap : Option Z} {F : List SV} {mx : Int} {l l0 : List Fd} (hz : z.v = mx) (hB : lget bl k = .r false lit st 2 F) (hF : cellsF l0 = F) (hl : l = l0.take n.v.toNat) (hn : n.v = ilen l) : TabC bl [.i .i64 z, .sl k 2 (.l 0) n cap] mx l
theorem TabC.fz {bl : List Blk} {cs : List SV} {mx : Int} {l : List Fd} (h : TabC bl cs mx l) {g : Nat → Nat} : FzL bl g [] [.ag cs] [tabV mx l] := by
  cases h with
  | v hz hF hn => exact .cons (.ag (.cons (.sub (qag hz) rfl) (.cons (.sub (qbe hF.symm hn) rfl) .nil))) .nil
  | nil hz => exact .cons (.ag (.cons (.sub (qag hz) rfl) (.cons (.sub (qld (by decide) rfl rfl) rfl) .nil))) .nil
  | @row z n st k lit cap F mx l l0 hz hB hF hl hn =>
    subst hl
    refine .cons (.ag (.cons (.sub (qag hz) rfl) (.cons (row_tab (qav hB (by simp)) rfl hF.symm ?_ hn) .nil))) .nil
    have := qaf (l0.take n.v.toNat)
    omega
theorem TabC.sub {cs : List SV} {mx : Int} {l : List Fd} (h : TabC [] cs mx l) : SubL [.ag cs] [tabV mx l] := by
  cases h with
  | v hz hF hn => exact .cons (qdn (.cons (qag hz) (.cons (qbe hF.symm hn) .nil))) .nil
  | nil hz => exact .cons (qdn (.cons (qag hz) (.cons (qld (by decide) rfl rfl) .nil))) .nil
  | row hz hB hF hl hn => simp [lget] at hB
theorem rowF {S : Sy} (hS : S0 Tryd.prog = S) {l : List Fd} {F : List SV} (hF : cellsF l = F) {q : Int} {a b : List UInt8} {K : SV → Prop} (hv : l[q.toNat]? = some (a, b)) (h0 : 0 ≤ q) (h : K (.ag [.s a, .s b])) : S.rd F q 2 0 2 true K :=
  s_rowp hS (enc := fdE) hF hv (fun _ => rfl) h0 (Nat.le_refl _) rfl h
theorem rowF1 {S : Sy} (hS : S0 Tryd.prog = S) {l : List Fd} {F : List SV} (hF : cellsF l = F) {q : Int} {a b : List UInt8} {K : SV → Prop} (hv : l[q.toNat]? = some (a, b)) (h0 : 0 ≤ q) (h : K (.s a)) : S.rd F q 2 0 1 false K :=
  s_rowp hS (enc := fdE) hF hv (fun _ => rfl) h0 (by decide) rfl h
theorem rowF2 {S : Sy} (hS : S0 Tryd.prog = S) {l : List Fd} {F : List SV} (hF : cellsF l = F) {q : Int} {a b : List UInt8} {K : SV → Prop} (hv : l[q.toNat]? = some (a, b)) (h0 : 0 ≤ q) (h : K (.s b)) : S.rd F q 2 1 1 false K :=
  s_rowp hS (enc := fdE) hF hv (fun _ => rfl) h0 (by decide) rfl h
theorem size_f {a b : List UInt8} {n : Int} (hn : n = szF (a, b)) (h : n ≤ 1000000000000000000) : (S0 Tryd.prog).call 22 [.ag [.s a, .s b]] [] (fun y _ => Sub y (.i .i64 (.y n))) := by
  generalize hS : S0 Tryd.prog = S
  have g1 := qaf a
  have g2 := qaf b
  have hn' : n = ilen a + ilen b + 32 := hn
  refine qac hS I.qyr ?_
  cbv
  repeat' (first
    | (refine s_st hS ?_; try cbv)
    | (refine qab hS ?_ ?_ <;> intro h <;> (try cbv) <;> try exact s_ab h)
    | (refine qai hS ?_; intro _ _; try cbv)
    | (refine qae hS ?_; try cbv)
    | (refine qau hS ?_; intro _ _; try cbv)
    | (refine qdi hS ?_; try cbv)
    | fail)
  refine qag ?_
  simp only [Z.v]; omega
theorem rsize_f {a b : List UInt8} {n : Int} (hn : n = szF (a, b)) (h : n ≤ 1000000000000000000) : (S0 Tryd.prog).call 23 [.ag [.s a, .s b]] [] (fun y _ => Sub y (.i .i64 (.y n))) := by
  generalize hS : S0 Tryd.prog = S
  have g1 := qaf a
  have g2 := qaf b
  have hn' : n = ilen a + ilen b + 32 := hn
  refine qac hS I.qml ?_
  cbv
  repeat' (first
    | (refine s_st hS ?_; try cbv)
    | (refine qab hS ?_ ?_ <;> intro h <;> (try cbv) <;> try exact s_ab h)
    | (refine qai hS ?_; intro _ _; try cbv)
    | (refine qae hS ?_; try cbv)
    | (refine qau hS ?_; intro _ _; try cbv)
    | (refine qdi hS ?_; try cbv)
    | fail)
  refine qag ?_
  simp only [Z.v]; omega
section
variable {S : Sy} {bl : List Blk} {K : SV → List Blk → Prop}
theorem size_u (hS : S0 Tryd.prog = S) {a b : List UInt8} (h : szF (a, b) ≤ 1000000000000000000) (hK : ∀ n, n = szF (a, b) → K (.i .i64 (.y n)) bl) : S.call 22 [.ag [.s a, .s b]] bl K :=
  qcf hS (size_f rfl h) .rfl rfl rfl (hK _ rfl)
theorem rsize_u (hS : S0 Tryd.prog = S) {a b : List UInt8} (h : szF (a, b) ≤ 1000000000000000000) (hK : ∀ n, n = szF (a, b) → K (.i .i64 (.y n)) bl) : S.call 23 [.ag [.s a, .s b]] bl K :=
  qcf hS (rsize_f rfl h) .rfl rfl rfl (hK _ rfl)
end
theorem full_f {mx : Int} {l : List Fd} {n : Int} (hn : n = fullL l) (h : n ≤ 100000000) : (S0 Tryd.prog).call 24 [tabV mx l] [] (fun y _ => Sub y (.i .i64 (.y n))) := by
  generalize hF : cellsF l = F
  obtain ⟨m, hm⟩ : ∃ m, m = ilen l := ⟨_, rfl⟩
  have hlen := qbq l
  have h0 := qaf l
  unfold tabV
  rw [hF, ← hm]
  generalize hS : S0 Tryd.prog = S
  refine qac hS I.qyt ?_
  cbv
  refine qba hS 1 I.qps (fun x : Int × Int => 0 ≤ x.1 ∧ x.1 ≤ m ∧ x.2 = fullL (l.take x.1.toNat)) (fun x => [(2, .i .i64 (.y x.2)), (8, .i .i64 (.y x.1))]) (fun _ => []) (fun x => (m - x.1).toNat) (0, 0) rfl
    ⟨⟨Int.le_refl _, by omega, rfl⟩, rfl, ?_, ?_, by cbv⟩ ?_
  · cbv; all_goals exact s_sA
  · cbv; all_goals exact s_bA
  intro x
  obtain ⟨i, s⟩ := x
  intro hx
  dsimp only at hx
  cbv
  obtain ⟨k0, k1, k2⟩ := hx
  have hs0 := qfg (l.take i.toNat)
  have hs1 := qde l i.toNat
  rw [← k2] at hs0 hs1
  refine qab hS ?_ ?_ <;> intro h <;> cbv
  · obtain ⟨⟨a, b⟩, hp⟩ := qek (l := l) (i := i) (by omega) k0
    have hsz := qtf hp
    have hsp := qeu (a, b)
    have hnx := qer hp k0
    rw [← k2] at hnx
    have hs2 := qde l (i + 1).toNat
    repeat' (first
      | (refine s_st hS ?_; try cbv)
      | (refine qab hS ?_ ?_ <;> intro h <;> (try cbv) <;> try exact s_ab h)
      | (refine qai hS ?_; intro _ _; try cbv)
      | (refine qae hS ?_; try cbv)
      | (refine qau hS ?_; intro _ _; try cbv)
      | (refine qdi hS ?_; try cbv)
      | (refine rowF hS hF hp (by omega) ?_; cbv)
      | (refine size_u hS (by omega) fun n1 hn1 => ?_; cbv)
      | fail)
    rename_i s2 hs2 i2 hi2
    refine ⟨(i2, s2), by dsimp only; omega, ⟨by dsimp only; omega, by dsimp only; omega, by dsimp only; rw [hs2, hi2, hnx]; omega⟩, rfl, ?_, ?_, by cbv⟩
    · cbv; all_goals exact s_sA
    · cbv; all_goals exact s_bA
  · refine qag ?_
    simp only [Z.v]; rw [hn, k2, qcb (by omega)]
theorem rfull_f {mx : Int} {l : List Fd} {n : Int} (hn : n = fullL l) (h : n ≤ 100000000) : (S0 Tryd.prog).call 25 [tabV mx l] [] (fun y _ => Sub y (.i .i64 (.y n))) := by
  generalize hF : cellsF l = F
  obtain ⟨m, hm⟩ : ∃ m, m = ilen l := ⟨_, rfl⟩
  have hlen := qbq l
  have h0 := qaf l
  unfold tabV
  rw [hF, ← hm]
  generalize hS : S0 Tryd.prog = S
  refine qac hS I.qmn ?_
  cbv
  refine qba hS 1 I.qie (fun x : Int × Int => 0 ≤ x.1 ∧ x.1 ≤ m ∧ x.2 = fullL (l.take x.1.toNat)) (fun x => [(3, .i .i64 (.y x.2)), (4, .i .i64 (.y x.1))]) (fun _ => []) (fun x => (m - x.1).toNat) (0, 0) rfl
    ⟨⟨Int.le_refl _, by omega, rfl⟩, rfl, ?_, ?_, by cbv⟩ ?_
  · cbv; all_goals exact s_sA
  · cbv; all_goals exact s_bA
  intro x
  obtain ⟨i, s⟩ := x
  intro hx
  dsimp only at hx
  cbv
  obtain ⟨k0, k1, k2⟩ := hx
  have hs0 := qfg (l.take i.toNat)
  have hs1 := qde l i.toNat
  rw [← k2] at hs0 hs1
  refine qab hS ?_ ?_ <;> intro h <;> cbv
  · obtain ⟨⟨a, b⟩, hp⟩ := qek (l := l) (i := i) (by omega) k0
    have hsz := qtf hp
    have hsp := qeu (a, b)
    have hnx := qer hp k0
    rw [← k2] at hnx
    have hs2 := qde l (i + 1).toNat
    repeat' (first
      | (refine s_st hS ?_; try cbv)
      | (refine qab hS ?_ ?_ <;> intro h <;> (try cbv) <;> try exact s_ab h)
      | (refine qai hS ?_; intro _ _; try cbv)
      | (refine qae hS ?_; try cbv)
      | (refine qau hS ?_; intro _ _; try cbv)
      | (refine qdi hS ?_; try cbv)
      | (refine rowF hS hF hp (by omega) ?_; cbv)
      | (refine rsize_u hS (by omega) fun n1 hn1 => ?_; cbv)
      | fail)
    rename_i s2 hs2 i2 hi2
    refine ⟨(i2, s2), by dsimp only; omega, ⟨by dsimp only; omega, by dsimp only; omega, by dsimp only; rw [hs2, hi2, hnx]; omega⟩, rfl, ?_, ?_, by cbv⟩
    · cbv; all_goals exact s_sA
    · cbv; all_goals exact s_bA
  · refine qag ?_
    simp only [Z.v]; rw [hn, k2, qcb (by omega)]
section
variable {S : Sy} {bl : List Blk} {K : SV → List Blk → Prop} {cs : List SV} {mx : Int} {l : List Fd}
theorem full_u (hS : S0 Tryd.prog = S) (hc : TabC bl cs mx l) (h : fullL l ≤ 100000000) (hK : ∀ n, n = fullL l → K (.i .i64 (.y n)) bl) : S.call 24 [.ag cs] bl K :=
  qco hS (full_f rfl h) hc.fz rfl rfl (hK _ rfl)
theorem rfull_u (hS : S0 Tryd.prog = S) (hc : TabC bl cs mx l) (h : fullL l ≤ 100000000) (hK : ∀ n, n = fullL l → K (.i .i64 (.y n)) bl) : S.call 25 [.ag cs] bl K :=
  qco hS (rfull_f rfl h) hc.fz rfl rfl (hK _ rfl)
end
theorem right_f {mx : Int} {l : List Fd} {t : Bool} (ht : rightL mx l = t) (hb : fullL l ≤ 100000000) : (S0 Tryd.prog).call 26 [tabV mx l] [] (fun y _ => Sub y (.b t)) := by
  generalize hF : cellsF l = F
  obtain ⟨m, hm⟩ : ∃ m, m = ilen l := ⟨_, rfl⟩
  unfold tabV
  rw [hF, ← hm]
  generalize hS : S0 Tryd.prog = S
  refine qac hS I.qvh ?_
  cbv
  refine qam hS rfl I.qoy (by decide +kernel) ?_
  cbv
  repeat' (first
    | (refine s_st hS ?_; try cbv)
    | (refine qab hS ?_ ?_ <;> intro h <;> (try cbv) <;> try exact s_ab h)
    | (refine qai hS ?_; intro _ _; try cbv)
    | (refine qae hS ?_; try cbv)
    | (refine qau hS ?_; intro _ _; try cbv)
    | (refine qdi hS ?_; try cbv)
    | (refine And.intro rfl ?_; try cbv)
    | (refine full_u hS (.v rfl hF hm) hb fun n1 hn1 => ?_; cbv)
    | fail)
  all_goals first | refine qwz ?_ | refine qlc ?_ | refine qcl ?_
  all_goals (rw [← ht]; simp only [← hS, Int.ofNat_eq_natCast, cr, rightL, decide_eq_true_eq, decide_eq_false_iff_not, decide_eq_decide] at *; omega)
theorem rright_f {mx : Int} {l : List Fd} {t : Bool} (ht : rightL mx l = t) (hb : fullL l ≤ 100000000) : (S0 Tryd.prog).call 27 [tabV mx l] [] (fun y _ => Sub y (.b t)) := by
  generalize hF : cellsF l = F
  obtain ⟨m, hm⟩ : ∃ m, m = ilen l := ⟨_, rfl⟩
  unfold tabV
  rw [hF, ← hm]
  generalize hS : S0 Tryd.prog = S
  refine qac hS I.qky ?_
  cbv
  refine qam hS rfl I.qhu (by decide +kernel) ?_
  cbv
  repeat' (first
    | (refine s_st hS ?_; try cbv)
    | (refine qab hS ?_ ?_ <;> intro h <;> (try cbv) <;> try exact s_ab h)
    | (refine qai hS ?_; intro _ _; try cbv)
    | (refine qae hS ?_; try cbv)
    | (refine qau hS ?_; intro _ _; try cbv)
    | (refine qdi hS ?_; try cbv)
    | (refine And.intro rfl ?_; try cbv)
    | (refine rfull_u hS (.v rfl hF hm) hb fun n1 hn1 => ?_; cbv)
    | fail)
  all_goals first | refine qwz ?_ | refine qlc ?_ | refine qcl ?_
  all_goals (rw [← ht]; simp only [← hS, Int.ofNat_eq_natCast, cr, rightL, decide_eq_true_eq, decide_eq_false_iff_not, decide_eq_decide] at *; omega)
section
variable {S : Sy} {bl : List Blk} {K : SV → List Blk → Prop} {cs : List SV} {mx : Int} {l : List Fd}
theorem right_u (hS : S0 Tryd.prog = S) (hc : TabC bl cs mx l) (h : fullL l ≤ 100000000) (h1 : rightL mx l = true → K .tt bl) (h2 : rightL mx l = false → K .ff bl) : S.call 26 [.ag cs] bl K := by
  refine qco hS (qdr (right_f rfl h)) hc.fz rfl (by cases rightL mx l <;> rfl) ?_
  cases hr : rightL mx l
  · exact h2 hr
  · exact h1 hr
theorem rright_u (hS : S0 Tryd.prog = S) (hc : TabC bl cs mx l) (h : fullL l ≤ 100000000) (h1 : rightL mx l = true → K .tt bl) (h2 : rightL mx l = false → K .ff bl) : S.call 27 [.ag cs] bl K := by
  refine qco hS (qdr (rright_f rfl h)) hc.fz rfl (by cases rightL mx l <;> rfl) ?_
  cases hr : rightL mx l
  · exact h2 hr
  · exact h1 hr
end
theorem tabS {cs : List SV} {mx e : Int} {l : List Fd} {z : Z} (hc : TabC [] cs mx l) (he : z.v = e) : Sub (.tp [.ag cs, .i .i64 z]) (.tp [tabV mx l, .i .i64 (.y e)]) := by
  match hc.sub with
  | .cons h1 _ => exact qaw (.cons h1 (.cons (qag he) .nil))
theorem qgc {bl : List Blk} {cs : List SV} {mx e n : Int} {l : List Fd} {F : List SV} {z : Z} (hF : cellsF l = F) (hn : n = ilen l) (he : z.v = e) (hc : TabC bl cs mx l) : Tell (.tp [.ag [.i .i64 (.y mx), .v false 2 F (.y n)], .i .i64 (.y e)]) (.tp [.ag cs, .i .i64 z]) bl := by
  subst hF hn
  exact fun g => match hc.fz (g := g) with
    | .cons h1 _ => .tp (.cons h1 (.cons (.sub (qag he) rfl) .nil))
    | .fsub h hp => by simp [tabV, plains, plainV] at hp
theorem tell_ag {bl : List Blk} {cs : List SV} {mx n : Int} {l : List Fd} {F : List SV} (hF : cellsF l = F) (hn : n = ilen l) (hc : TabC bl cs mx l) : Tell (.ag [.i .i64 (.y mx), .v false 2 F (.y n)]) (.ag cs) bl := by
  subst hF hn
  exact fun g => match hc.fz (g := g) with
    | .cons h1 _ => h1
    | .fsub h hp => by simp [tabV, plains, plainV] at hp
theorem new_f {most mx e : Int} {l : List Fd} (hr : newR most = ((mx, l), e)) : (S0 Tryd.prog).call 19 [.i .i64 (.y most)] [] (fun y _ => Sub y (.tp [tabV mx l, .i .i64 (.y e)])) := by
  unfold newR at hr
  generalize hS : S0 Tryd.prog = S
  refine qac hS I.qzacc ?_
  cbv
  repeat' (first
    | (refine s_st hS ?_; try cbv)
    | (refine qab hS ?_ ?_ <;> intro h <;> (try cbv) <;> try exact s_ab h)
    | (refine qai hS ?_; intro _ _; try cbv)
    | (refine qae hS ?_; try cbv)
    | (refine qau hS ?_; intro _ _; try cbv)
    | (refine qdi hS ?_; try cbv)
    | fail)
  all_goals first
    | (rw [if_pos (by omega)] at hr; cases hr; exact tabS (.nil rfl) rfl)
    | (rw [if_neg (by omega)] at hr; cases hr; exact tabS (.nil rfl) rfl)
section
variable {S : Sy} {bl : List Blk} {K : SV → List Blk → Prop}
theorem new_u (hS : S0 Tryd.prog = S) {most : Z} (h1 : most.v < 0 ∨ 4096 < most.v → K (.tp [.ag [.i .i64 (.y 0), .v false 2 [] (.y 0)], .i .i64 (.l 2)]) bl) (h2 : 0 ≤ most.v → most.v ≤ 4096 → K (.tp [.ag [.i .i64 (.y most.v), .v false 2 [] (.y 0)], .i .i64 (.l 0)]) bl) :
    S.call 19 [.i .i64 most] bl K := by
  by_cases h : most.v < 0 ∨ 4096 < most.v
  · exact qcf hS (sv := .tp [.ag [.i .i64 (.y 0), .v false 2 [] (.y 0)], .i .i64 (.l 2)]) (qay (new_f (most := most.v) (by unfold newR; rw [if_pos h])) fun x _ hx => ⟨x, .rfl, hx.trans (qaw (.cons .rfl (.cons (qag rfl) .nil)))⟩) (.cons (qag rfl) .nil) rfl rfl (h1 h)
  · exact qcf hS (sv := .tp [.ag [.i .i64 (.y most.v), .v false 2 [] (.y 0)], .i .i64 (.l 0)]) (qay (new_f (most := most.v) (by unfold newR; rw [if_neg h])) fun x _ hx => ⟨x, .rfl, hx.trans (qaw (.cons .rfl (.cons (qag rfl) .nil)))⟩) (.cons (qag rfl) .nil) rfl rfl (h2 (by omega) (by omega))
end
theorem first2 : ∀ i, i < 2 → ([some 0, some 1] : List (Option Nat))[i]? = some (some i)
  | 0, _ => rfl
  | 1, _ => rfl
  | n + 2, h => by omega
theorem ev_pos {mx k : Int} {l : List Fd} (h0 : 0 ≤ mx) (h : mx < fullL (l.take k.toNat)) : 1 ≤ k := by
  rcases Int.lt_or_le k 1 with h1 | h1
  · rw [show k.toNat = 0 by omega] at h
    simp [fullL] at h
    omega
  · exact h1
theorem ev_end {mx k m e : Int} {l : List Fd} (hm : m = ilen l) (he : e = ilen (evL mx l)) (k0 : 0 ≤ k) (k1 : k ≤ m) (kev : evN mx l m.toNat = evN mx l k.toNat) (h : ¬mx < fullL (l.take k.toNat)) : k = e := by
  have h1 : evN mx l k.toNat = k.toNat := qza (by omega)
  have h2 : m.toNat = l.length := by rw [hm]; unfold ilen; omega
  rw [he]
  unfold evL
  rw [← h2, kev, h1]
  unfold ilen at *
  rw [List.length_take]
  omega
theorem qzadx {mx k r : Int} {l : List Fd} {m : Int} (hr : r = k - 1) (k1 : 1 ≤ k) (kev : evN mx l m.toNat = evN mx l k.toNat) (h : mx < fullL (l.take k.toNat)) : evN mx l m.toNat = evN mx l r.toNat := by
  rw [kev, show k.toNat = r.toNat + 1 by omega]
  exact evN_next (by rw [show r.toNat + 1 = k.toNat by omega]; omega)
theorem evict_f {mx : Int} {l : List Fd} {F : List SV} {st : Int} (hF : cellsF l = F) (h0 : 0 ≤ mx) (hb : fullL l ≤ 100000000) :
    (S0 Tryd.prog).call 56 [.p 0 0] [.c [.i .i64 (.y mx), .sl 1 2 (.l 0) (.y (ilen l)) none], .r false false (.y st) 2 F]
      (PostB 2 (fun _ g => [.c [.i .i64 (.y mx), .sl (g 1) 2 (.l 0) (.y (ilen (evL mx l))) none], .r false false (.y st) 2 F]) (fun _ => .any)) := by
  obtain ⟨m, hm⟩ : ∃ m, m = ilen l := ⟨_, rfl⟩
  obtain ⟨e, he⟩ : ∃ e, e = ilen (evL mx l) := ⟨_, rfl⟩
  have hm0 := qaf l
  have hlen := qbq l
  have hpl := qbo l
  rw [hF] at hpl
  rw [← hm, ← he]
  generalize hS : S0 Tryd.prog = S
  have fin : ∀ k : Int, k = e → PostB 2 (fun _ g => [.c [.i .i64 (.y mx), .sl (g 1) 2 (.l 0) (.y e) none], .r false false (.y st) 2 F]) (fun _ => .any) (.tp []) [.c [.i .i64 (.y mx), .sl 1 2 (.l 0) (.y k) none], .r false false (.y st) 2 F] := by
    rintro k rfl
    exact ⟨[some 0, some 1], fun _ => 0, first2, fun g => ⟨⟨⟨_, rfl, rfl, .c (.cons (.sub .rfl rfl) (.cons (.keep (i := 1) rfl rfl rfl) .nil))⟩, rfl, ⟨_, rfl, rfl, .r .rfl hpl rfl⟩, rfl, trivial⟩, .sub qdt rfl⟩⟩
  refine qac hS I.qvg ?_
  cbv
  refine full_u hS (.row rfl rfl hF (l := l) (by simp [Z.v, hm, ilen]) (by simp [Z.v, hm])) hb fun f hf0 => ?_
  cbv
  have hf : f = fullL (l.take m.toNat) := by rw [hf0, qcb (by omega)]
  repeat' (first
    | (refine s_st hS ?_; try cbv)
    | (refine qab hS ?_ ?_ <;> intro h <;> (try cbv) <;> try exact s_ab h)
    | (refine qai hS ?_; intro _ _; try cbv)
    | (refine qae hS ?_; try cbv)
    | (refine qau hS ?_; intro _ _; try cbv)
    | (refine qdi hS ?_; try cbv)
    | fail)
  · have k1 := ev_pos h0 (hf ▸ h)
    rename_i r hr
    obtain ⟨⟨a, b⟩, hp⟩ := qek (l := l) (i := r) (by omega) (by omega)
    have hnx := qer hp (by omega)
    rw [show r + 1 = m by omega, ← hf] at hnx
    have hn0 := qfg (l.take r.toNat)
    have hsp := qeu (a, b)
    repeat' (first
      | (refine s_st hS ?_; try cbv)
      | (refine qab hS ?_ ?_ <;> intro h <;> (try cbv) <;> try exact s_ab h)
      | (refine qai hS ?_; intro _ _; try cbv)
      | (refine qae hS ?_; try cbv)
      | (refine qau hS ?_; intro _ _; try cbv)
      | (refine qdi hS ?_; try cbv)
      | (refine rowF hS hF hp (by omega) ?_; cbv)
      | (refine size_u hS (by omega) fun n1 hn1 => ?_; cbv)
      | fail)
    rename_i f2 hf2
    refine qzaar hS 2 [1, 3, 4, 5, 6, 7, 8, 9, 10, 11, 12, 13, 14, 15, 16, 17, 18, 19, 20, 21, 22, 23, 24, 25, 26, 27, 28, 29, 30, 31, 32, 33, 34, 35, 36, 37, 38]
      (fun x : Int × Int => 0 ≤ x.1 ∧ x.1 ≤ m ∧ x.2 = fullL (l.take x.1.toNat) ∧ evN mx l m.toNat = evN mx l x.1.toNat)
      (fun x => [(2, .i .i64 (.y x.2))]) (fun x => [(0, .c [.i .i64 (.y mx), .sl 1 2 (.l 0) (.y x.1) none])]) (fun x => x.1.toNat) (r, f2) rfl rfl
      ⟨⟨by dsimp only; omega, by dsimp only; omega, by dsimp only; omega, qzadx hr k1 rfl (hf ▸ h)⟩, rfl, ?_, ?_, by cbv⟩ ?_
    · cbv; all_goals exact s_sA
    · cbv; all_goals exact s_bA
    intro x
    obtain ⟨k, g⟩ := x
    intro hx
    dsimp only at hx
    cbv
    obtain ⟨j0, j1, j2, j3⟩ := hx
    repeat' (first
      | (refine s_st hS ?_; try cbv)
      | (refine qab hS ?_ ?_ <;> intro h <;> (try cbv) <;> try exact s_ab h)
      | (refine qai hS ?_; intro _ _; try cbv)
      | (refine qae hS ?_; try cbv)
      | (refine qau hS ?_; intro _ _; try cbv)
      | (refine qdi hS ?_; try cbv)
      | fail)
    · have k1 := ev_pos h0 (j2 ▸ h)
      rename_i r2 hr2
      obtain ⟨⟨a2, b2⟩, hp2⟩ := qek (l := l) (i := r2) (by omega) (by omega)
      have hnx2 := qer hp2 (by omega)
      rw [show r2 + 1 = k by omega, ← j2] at hnx2
      have hn02 := qfg (l.take r2.toNat)
      have hsp2 := qeu (a2, b2)
      have hgf := qde l k.toNat
      rw [← j2] at hgf
      repeat' (first
        | (refine s_st hS ?_; try cbv)
        | (refine qab hS ?_ ?_ <;> intro h <;> (try cbv) <;> try exact s_ab h)
        | (refine qai hS ?_; intro _ _; try cbv)
        | (refine qae hS ?_; try cbv)
        | (refine qau hS ?_; intro _ _; try cbv)
        | (refine qdi hS ?_; try cbv)
        | (refine rowF hS hF hp2 (by omega) ?_; cbv)
        | (refine size_u hS (by omega) fun n2 hn2 => ?_; cbv)
        | fail)
      rename_i f3 hf3
      refine ⟨(r2, f3), by dsimp only; omega, ⟨by dsimp only; omega, by dsimp only; omega, by dsimp only; omega, qzadx hr2 k1 j3 (j2 ▸ h)⟩, rfl, ?_, ?_, by cbv⟩
      · cbv; all_goals exact s_sA
      · cbv; all_goals exact s_bA
    · exact fin _ (ev_end hm he j0 j1 j3 (by rw [← j2]; exact h))
  · exact fin _ (ev_end hm he (by omega) (by omega) rfl (by rw [← hf]; exact h))
section
variable {S : Sy} {bl : List Blk} {K : SV → List Blk → Prop}
theorem evict_u (hS : S0 Tryd.prog = S) {p k : Nat} {z n : Z} {mx : Int} {l : List Fd} {lit : Bool} {st : Z} {F : List SV} (hF : cellsF l = F) (h0 : 0 ≤ mx) (hb : fullL l ≤ 100000000)
    (hK : ∀ e, e = ilen (evL mx l) → K .any (lset (lset bl p (.c [.i .i64 (.y mx), .sl k 2 (.l 0) (.y e) none])) k (.r false false (.y st.v) 2 F)))
    (hp : lget bl p = .c [.i .i64 z, .sl k 2 (.l 0) n none] := by rfl) (hk : lget bl k = .r false lit st 2 F := by rfl) (hne : nodupN [p, k] = true := by rfl) (hz : z.v = mx := by rfl) (hn : n.v = ilen l := by first | assumption | (simp only [Z.v]; omega)) : S.call 56 [.p p 0] bl K := by
  refine use_box hS [p, k] (evict_f (st := st.v) hF h0 hb) rfl hne .rfl ⟨?_, ?_, trivial⟩ rfl fun sts => hK _ rfl
  · simp only [fOf, hp]
    exact .c (.cons (qag hz) (.cons (qcz rfl (by simpa [Z.v] using hn)) .nil)) rfl
  · simp only [fOf, hk]
    exact .r .rfl (hF ▸ qbo l) rfl
end
end Tb
end Cz
namespace Cz
open Go Go.RowKit Go.Proofs
namespace Tb
theorem clone_f {l : List Fd} {F : List SV} {n : Int} (hF : cellsF l = F) (hn : n = ilen l) (hb : n ≤ 100000000) : (S0 Tryd.prog).call 58 [.v false 2 F (.y n)] [] (Kept [(2, F)] (fun m => .sl m 2 (.l 0) (.y n) none)) := by
  have hpl : plains F = true := hF ▸ qbo l
  have hlen : (ilen F : Int) = n * 2 := by rw [← hF, hn]; have := qce l; unfold ilen; omega
  have h0 := qaf l
  generalize hS : S0 Tryd.prog = S
  refine qac hS I.qfx ?_
  cbv
  refine s_nil hS (fun h => ?_) ?_
  · cbv
    have : F = [] := by rw [← hF, List.eq_nil_of_length_eq_zero (l := l) (by unfold ilen at hn; omega)]; rfl
    exact ⟨[none], ⟨this, trivial⟩, fun m => .nilk (i := 0) rfl rfl h⟩
  · cbv
    repeat' (first
      | (refine s_st hS ?_; try cbv)
      | (refine qab hS ?_ ?_ <;> intro h <;> (try cbv) <;> try exact s_ab h)
      | (refine qai hS ?_; intro _ _; try cbv)
      | (refine qae hS ?_; try cbv)
      | (refine qau hS ?_; intro _ _; try cbv)
      | (refine qdi hS ?_; try cbv)
      | fail)
    refine ⟨[some 0], ⟨⟨_, _, _, rfl, ?_⟩, rfl, trivial⟩, fun m => .keep (i := 0) rfl rfl ?_⟩
    · subst hS; exact .rfl
    · rfl
section
variable {S : Sy} {bl : List Blk} {K : SV → List Blk → Prop}
theorem clone_u (hS : S0 Tryd.prog = S) {x : SV} {l : List Fd} {n : Int} {F : List SV} (hx : SubL [x] [.v false 2 F (.y n)]) (hF : cellsF l = F) (hn : n = ilen l) (hb : n ≤ 100000000)
    (hK : ∀ st, K (.sl (len bl) 2 (.l 0) (.y n) none) (snoc bl (.r false false (.y st) 2 F))) : S.call 58 [x] bl K :=
  use_kept hS (clone_f hF hn hb) hx rfl ⟨⟨by decide, hF ▸ qbo l⟩, trivial⟩ fun sts => hK _
end
theorem qzb (mx : Int) (l : List Fd) : evL mx l = l.take (ilen (evL mx l)).toNat := by
  have := evN_le mx l l.length
  have h : (ilen (evL mx l)).toNat = evN mx l l.length := by unfold ilen evL; rw [List.length_take]; omega
  rw [h]; rfl
def tabE (mx : Int) (l : List Fd) (e : Int) : SV := .tp [tabV mx l, .i .i64 (.y e)]
theorem res_f {mx most mx' e : Int} {l l' : List Fd} (hr : resR (mx, l) most = ((mx', l'), e)) (hb : fullL l ≤ 100000000) :
    (S0 Tryd.prog).call 30 [tabV mx l, .i .i64 (.y most)] [] (Tell (tabE mx' l' e)) := by
  generalize hF : cellsF l = F
  obtain ⟨m, hm⟩ : ∃ m, m = ilen l := ⟨_, rfl⟩
  have hlen := qbq l
  have hm0 := qaf l
  unfold tabE tabV
  generalize hF' : cellsF l' = F'
  obtain ⟨m', hm'⟩ : ∃ m, m = ilen l' := ⟨_, rfl⟩
  rw [hF, ← hm, ← hm']
  unfold resR at hr
  dsimp only at hr
  generalize hS : S0 Tryd.prog = S
  refine qac hS I.qtn ?_
  cbv
  refine new_u hS (fun h1 => ?_) (fun h1 h2 => ?_) <;> cbv <;> dsimp only [Z.v] at *
  · rw [if_neg (by intro h; omega)] at hr
    cases hr
    exact qgc hF' hm' rfl (.nil rfl)
  · refine right_u hS (.v rfl hF hm) hb (fun h3 => ?_) (fun h3 => ?_) <;> cbv <;> dsimp only [Z.v] at *
    · rw [if_pos ⟨h3, h1, h2⟩] at hr
      refine clone_u hS .rfl hF hm (by omega) fun st => ?_
      cbv
      refine evict_u hS (mx := most) hF h1 hb fun n1 hn1 => ?_
      cbv
      cases hr
      refine qgc hF' hm' rfl (.row rfl rfl hF ?_ hn1)
      dsimp only [Z.v]
      rw [hn1]; exact qzb _ _
    · rw [if_neg (by intro h; rw [h.1] at h3; cases h3)] at hr
      cases hr
      exact qgc hF' hm' rfl (.nil rfl)
theorem add_f {mx mx' e : Int} {l l' : List Fd} {a b : List UInt8} (hr : addR (mx, l) (a, b) = ((mx', l'), e)) (hb : fullL l ≤ 10000000) (hs : szF (a, b) ≤ 10000000) :
    (S0 Tryd.prog).call 28 [tabV mx l, .ag [.s a, .s b]] [] (Tell (tabE mx' l' e)) := by
  generalize hF : cellsF l = F
  obtain ⟨m, hm⟩ : ∃ m, m = ilen l := ⟨_, rfl⟩
  have hlen := qbq l
  have hm0 := qaf l
  have hfl : ilen F = m * 2 := by rw [← hF, hm]; have := qce l; unfold ilen; omega
  unfold tabE tabV
  generalize hF' : cellsF l' = F'
  obtain ⟨m', hm'⟩ : ∃ m, m = ilen l' := ⟨_, rfl⟩
  rw [hF, ← hm, ← hm']
  unfold addR at hr
  dsimp only at hr
  generalize hS : S0 Tryd.prog = S
  refine qac hS I.qzacd ?_
  cbv
  refine right_u hS (.v rfl hF hm) (by omega) (fun h3 => ?_) (fun h3 => ?_) <;> cbv <;> dsimp only [Z.v] at *
  · have hmx : 0 ≤ mx := by unfold rightL at h3; have := of_decide_eq_true h3; omega
    rw [if_pos h3] at hr
    repeat' (first
      | (refine s_st hS ?_; try cbv)
      | (refine qab hS ?_ ?_ <;> intro h <;> (try cbv) <;> try exact s_ab h)
      | (refine qai hS ?_; intro _ _; try cbv)
      | (refine qae hS ?_; try cbv)
      | (refine qau hS ?_; intro _ _; try cbv)
      | (refine qdi hS ?_; try cbv)
      | fail)
    have e1 : S.app [.s a, .s b] F = cellsF ((a, b) :: l) := by subst hS; rw [← hF]; rfl
    have e2 : S.pl 1 m = ilen ((a, b) :: l) := by subst hS; rw [hm]; simp only [pl_eq]; simp [ilen]; omega
    have e3 : fullL ((a, b) :: l) = szF (a, b) + fullL l := rfl
    refine evict_u hS (mx := mx) (l := (a, b) :: l) e1.symm hmx (by omega) fun n1 hn1 => ?_
    cbv
    cases hr
    refine qgc hF' hm' rfl (.row rfl rfl e1.symm ?_ hn1)
    dsimp only [Z.v]
    rw [hn1]; exact qzb _ _
  · rw [if_neg (by rw [h3]; simp)] at hr
    cases hr
    exact qgc hF' hm' rfl (.nil rfl)
theorem evicted_f {mx : Int} {l : List Fd} (h0 : 0 ≤ mx) (hb : fullL l ≤ 10000000) : (S0 Tryd.prog).call 57 [tabV mx l] [] (Tell (tabV mx (evL mx l))) := by
  generalize hF : cellsF l = F
  obtain ⟨m, hm⟩ : ∃ m, m = ilen l := ⟨_, rfl⟩
  obtain ⟨e, he⟩ : ∃ e, e = ilen (evL mx l) := ⟨_, rfl⟩
  have hlen := qbq l
  have hm0 := qaf l
  have hpl := qbo l
  have hfl : ilen F = m * 2 := by rw [← hF, hm]; have := qce l; unfold ilen; omega
  unfold tabV
  generalize hF' : cellsF (evL mx l) = F'
  rw [hF, ← hm, ← he]
  rw [hF] at hpl
  generalize hS : S0 Tryd.prog = S
  refine qac hS I.qio ?_
  cbv
  repeat' (first
    | (refine s_st hS ?_; try cbv)
    | (refine qab hS ?_ ?_ <;> intro h <;> (try cbv) <;> try exact s_ab h)
    | (refine qai hS ?_; intro _ _; try cbv)
    | (refine qae hS ?_; try cbv)
    | (refine qau hS ?_; intro _ _; try cbv)
    | (refine qdi hS ?_; try cbv)
    | fail)
  have e1 : S.app [] F = F := by subst hS; rfl
  refine qba hS 3 I.qfy (fun x : Int => 0 ≤ x ∧ x ≤ m ∧ evN mx l m.toNat = evN mx l x.toNat) (fun _ => []) (fun x => [(0, .c [.i .i64 (.y mx), .sl 2 2 (.l 0) (.y x) none]), (2, .r false false (.y (S.flen [])) 2 F)]) (fun x => x.toNat) m rfl
    ⟨⟨by omega, by omega, rfl⟩, rfl, ?_, ?_, by cbv⟩ ?_
  · cbv; all_goals exact s_sA
  · cbv
    exact ⟨.rfl, .rfl, .r (by subst hS; exact .rfl) rfl hpl, trivial⟩
  intro k hk
  cbv
  obtain ⟨k0, k1, k2⟩ := hk
  have hft := qde l k.toNat
  refine qam hS rfl I.qgj (by decide +kernel) ?_
  cbv
  repeat' (first
    | (refine s_st hS ?_; try cbv)
    | (refine qab hS ?_ ?_ <;> intro h <;> (try cbv) <;> try exact s_ab h)
    | (refine qai hS ?_; intro _ _; try cbv)
    | (refine qae hS ?_; try cbv)
    | (refine qau hS ?_; intro _ _; try cbv)
    | (refine qdi hS ?_; try cbv)
    | (refine And.intro rfl ?_; try cbv)
    | (refine rfull_u hS (mx := mx) (l := l.take k.toNat) (.row rfl rfl hF rfl (by simp only [Z.v, ilen, List.length_take]; unfold ilen at hm; omega)) (by omega) fun f hf => ?_; cbv)
    | fail)
  · have kp := ev_pos h0 (hf ▸ h)
    rename_i r hr
    repeat' (first
      | (refine s_st hS ?_; try cbv)
      | (refine qab hS ?_ ?_ <;> intro h <;> (try cbv) <;> try exact s_ab h)
      | (refine qai hS ?_; intro _ _; try cbv)
      | (refine qae hS ?_; try cbv)
      | (refine qau hS ?_; intro _ _; try cbv)
      | (refine qdi hS ?_; try cbv)
      | fail)
    refine ⟨r, by omega, ⟨by omega, by omega, qzadx hr kp k2 (hf ▸ h)⟩, rfl, ?_, ?_, by cbv⟩
    · cbv; all_goals exact s_sA
    · cbv; all_goals exact s_bA
  · have hke : k = e := ev_end hm he k0 k1 k2 (hf ▸ h)
    refine tell_ag hF' he (.row rfl rfl hF ?_ (by dsimp only [Z.v]; rw [hke, he]))
    dsimp only [Z.v]
    rw [hke, he]; exact qzb _ _
section
variable {S : Sy} {bl : List Blk} {K : SV → List Blk → Prop} {cs : List SV} {mx : Int} {l : List Fd}
theorem evicted_u (hS : S0 Tryd.prog = S) (hc : TabC [] cs mx l) (h0 : 0 ≤ mx) (hb : fullL l ≤ 10000000) (hK : ∀ F n, cellsF (evL mx l) = F → n = ilen (evL mx l) → K (.ag [.i .i64 (.y mx), .v false 2 F (.y n)]) bl) :
    S.call 57 [.ag cs] bl K :=
  qdz hS (evicted_f h0 hb) hc.sub rfl (hK _ _ rfl rfl)
end
theorem rres_f {mx most mx' e : Int} {l l' : List Fd} (hr : resR (mx, l) most = ((mx', l'), e)) (hb : fullL l ≤ 10000000) :
    (S0 Tryd.prog).call 31 [tabV mx l, .i .i64 (.y most)] [] (Tell (tabE mx' l' e)) := by
  generalize hF : cellsF l = F
  obtain ⟨m, hm⟩ : ∃ m, m = ilen l := ⟨_, rfl⟩
  have hlen := qbq l
  have hm0 := qaf l
  unfold tabE tabV
  generalize hF' : cellsF l' = F'
  obtain ⟨m', hm'⟩ : ∃ m, m = ilen l' := ⟨_, rfl⟩
  rw [hF, ← hm, ← hm']
  unfold resR at hr
  dsimp only at hr
  generalize hS : S0 Tryd.prog = S
  refine qac hS I.qjp ?_
  cbv
  refine rright_u hS (.v rfl hF hm) (by omega) (fun h3 => ?_) (fun h3 => ?_) <;> cbv <;> dsimp only [Z.v] at *
  · repeat' (first
    | (refine s_st hS ?_; try cbv)
    | (refine qab hS ?_ ?_ <;> intro h <;> (try cbv) <;> try exact s_ab h)
    | (refine qai hS ?_; intro _ _; try cbv)
    | (refine qae hS ?_; try cbv)
    | (refine qau hS ?_; intro _ _; try cbv)
    | (refine qdi hS ?_; try cbv)
    | (refine evicted_u hS (mx := most) (l := l) (.v rfl hF hm) (by omega) hb fun F1 n1 hF1 hn1 => ?_; cbv)
    | fail)
    all_goals first
      | (rw [if_pos ⟨h3, by omega, by omega⟩] at hr; cases hr; exact qgc hF' hm' rfl (.v rfl hF1 hn1))
      | (rw [if_neg (by intro h; omega)] at hr; cases hr; exact qgc hF' hm' rfl (.nil rfl))
  · rw [if_neg (by intro h; rw [h.1] at h3; cases h3)] at hr
    repeat' (first
      | (refine s_st hS ?_; try cbv)
      | (refine qab hS ?_ ?_ <;> intro h <;> (try cbv) <;> try exact s_ab h)
      | (refine qai hS ?_; intro _ _; try cbv)
      | (refine qae hS ?_; try cbv)
      | (refine qau hS ?_; intro _ _; try cbv)
      | (refine qdi hS ?_; try cbv)
      | fail)
    cases hr; exact qgc hF' hm' rfl (.nil rfl)
end Tb
end Cz
namespace Cz
open Go Go.RowKit Go.Proofs
namespace Tb
theorem qzacw {l k : List Fd} {i : Int} {x y : Fd} (hx : l[i.toNat]? = some x) (hy : k[i.toNat]? = some y) (h : x ≠ y) : ¬l = k := by
  intro e; subst e; rw [hx] at hy; cases hy; exact h rfl
theorem qis {l k : List Fd} {i : Int} {x : Fd} (h0 : 0 ≤ i) (hx : l[i.toNat]? = some x) (hy : k[i.toNat]? = some x) (h : l.take i.toNat = k.take i.toNat) : l.take (i + 1).toNat = k.take (i + 1).toNat := by
  rw [qir hx h0, qir hy h0, h]
theorem fields_f {l k : List Fd} {t : Bool} (ht : decide (l = k) = t) (h1 : ilen l ≤ 100000000) (h2 : ilen k ≤ 100000000) : (S0 Tryd.prog).call 37 [.v false 2 (cellsF l) (.y (ilen l)), .v false 2 (cellsF k) (.y (ilen k))] [] (fun y _ => Sub y (.b t)) := by
  generalize hF : cellsF l = F
  generalize hG : cellsF k = G
  obtain ⟨m, hm⟩ : ∃ m, m = ilen l := ⟨_, rfl⟩
  obtain ⟨n, hn⟩ : ∃ n, n = ilen k := ⟨_, rfl⟩
  have h3 := qaf l
  have h4 := qaf k
  rw [← hm] at h1 h3 ⊢
  rw [← hn] at h2 h4 ⊢
  generalize hS : S0 Tryd.prog = S
  refine qac hS I.qjq ?_
  cbv
  refine qab hS ?_ ?_ <;> intro h <;> cbv
  · have e : t = false := by rw [← ht]; exact decide_eq_false (fun e => by subst e; omega)
    all_goals exact s_sA
  refine qba hS 0 I.qgp (fun x : Int => 0 ≤ x ∧ x ≤ m ∧ l.take x.toNat = k.take x.toNat) (fun x => [(5, .i .i64 (.y x))]) (fun _ => []) (fun x => (m - x).toNat) 0 rfl
    ⟨⟨Int.le_refl _, by omega, rfl⟩, rfl, ?_, ?_, by cbv⟩ ?_
  · cbv; all_goals exact s_sA
  · cbv; all_goals exact s_bA
  intro i hx
  cbv
  obtain ⟨k0, k1, k2⟩ := hx
  refine s_br hS ?_ ?_ <;> intro h' <;> cbv <;> simp only [← hS, Int.ofNat_eq_natCast, cq, Bool.not_eq_true', Bool.not_eq_false', decide_eq_true_eq, decide_eq_false_iff_not, beq_iff_eq, beq_eq_false_iff_ne, ne_eq] at h'
  · obtain ⟨⟨a, b⟩, hp⟩ := qek (l := l) (i := i) (by omega) k0
    obtain ⟨⟨c, d⟩, hq⟩ := qek (l := k) (i := i) (by omega) k0
    refine qam hS rfl I.qhc (by decide +kernel) ?_
    cbv
    repeat' (first
      | (refine s_st hS ?_; try cbv)
      | (refine qab hS ?_ ?_ <;> intro h <;> (try cbv) <;> try exact s_ab h)
      | (refine qai hS ?_; intro _ _; try cbv)
      | (refine qae hS ?_; try cbv)
      | (refine qau hS ?_; intro _ _; try cbv)
      | (refine qdi hS ?_; try cbv)
      | (refine And.intro rfl ?_; try cbv)
      | (refine rowF hS hF hp (by omega) ?_; cbv)
      | (refine rowF hS hG hq (by omega) ?_; cbv)
      | fail)
    · have he : (a, b) = (c, d) := by congr
      rename_i r hr
      refine ⟨r, by omega, ⟨by omega, by omega, ?_⟩, rfl, ?_, ?_, by cbv⟩
      · rw [hr]; exact qis k0 (he ▸ hp) hq k2
      · cbv; all_goals exact s_sA
      · cbv; all_goals exact s_bA
    all_goals
      have e : t = false := by rw [← ht]; exact decide_eq_false (qzacw hp hq (by intro e; cases e; simp_all))
      all_goals exact s_sA
  · have e : t = true := by rw [← ht]; exact decide_eq_true (by rwa [qcb (by omega), qcb (by omega)] at k2)
    all_goals exact s_sA
theorem equal_f {l k : List Fd} {t : Bool} (ht : decide (l = k) = t) (h1 : ilen l ≤ 100000000) (h2 : ilen k ≤ 100000000) : (S0 Tryd.prog).call 60 [.v false 2 (cellsF l) (.y (ilen l)), .v false 2 (cellsF k) (.y (ilen k))] [] (fun y _ => Sub y (.b t)) := by
  generalize hF : cellsF l = F
  generalize hG : cellsF k = G
  obtain ⟨m, hm⟩ : ∃ m, m = ilen l := ⟨_, rfl⟩
  obtain ⟨n, hn⟩ : ∃ n, n = ilen k := ⟨_, rfl⟩
  have h3 := qaf l
  have h4 := qaf k
  rw [← hm] at h1 h3 ⊢
  rw [← hn] at h2 h4 ⊢
  generalize hS : S0 Tryd.prog = S
  refine qac hS I.qfw ?_
  cbv
  refine qab hS ?_ ?_ <;> intro h <;> cbv
  · have e : t = false := by rw [← ht]; exact decide_eq_false (fun e => by subst e; omega)
    all_goals exact s_sA
  refine qba hS 0 I.qet (fun x : Int => 0 ≤ x ∧ x ≤ m ∧ l.take x.toNat = k.take x.toNat) (fun x => [(12, .i .i64 (.y m)), (13, .i .i64 (.y x))]) (fun _ => []) (fun x => (m - x).toNat) 0 rfl
    ⟨⟨Int.le_refl _, by omega, rfl⟩, rfl, ?_, ?_, by cbv⟩ ?_
  · cbv; all_goals exact s_sA
  · cbv; all_goals exact s_bA
  intro i hx
  cbv
  obtain ⟨k0, k1, k2⟩ := hx
  refine s_br hS ?_ ?_ <;> intro h' <;> cbv <;> simp only [← hS, Int.ofNat_eq_natCast, cq, Bool.not_eq_true', Bool.not_eq_false', decide_eq_true_eq, decide_eq_false_iff_not, beq_iff_eq, beq_eq_false_iff_ne, ne_eq] at h'
  · obtain ⟨⟨a, b⟩, hp⟩ := qek (l := l) (i := i) (by omega) k0
    obtain ⟨⟨c, d⟩, hq⟩ := qek (l := k) (i := i) (by omega) k0
    refine qam hS rfl I.qex (by decide +kernel) ?_
    cbv
    repeat' (first
      | (refine s_st hS ?_; try cbv)
      | (refine qab hS ?_ ?_ <;> intro h <;> (try cbv) <;> try exact s_ab h)
      | (refine qai hS ?_; intro _ _; try cbv)
      | (refine qae hS ?_; try cbv)
      | (refine qau hS ?_; intro _ _; try cbv)
      | (refine qdi hS ?_; try cbv)
      | (refine And.intro rfl ?_; try cbv)
      | (refine rowF hS hF hp (by omega) ?_; cbv)
      | (refine rowF hS hG hq (by omega) ?_; cbv)
      | fail)
    · have he : (a, b) = (c, d) := by congr
      rename_i r hr
      refine ⟨r, by omega, ⟨by omega, by omega, ?_⟩, rfl, ?_, ?_, by cbv⟩
      · rw [hr]; exact qis k0 (he ▸ hp) hq k2
      · cbv; all_goals exact s_sA
      · cbv; all_goals exact s_bA
    all_goals
      have e : t = false := by rw [← ht]; exact decide_eq_false (qzacw hp hq (by intro e; cases e; simp_all))
      all_goals exact s_sA
  · have e : t = true := by rw [← ht]; exact decide_eq_true (by rwa [qcb (by omega), qcb (by omega)] at k2)
    all_goals exact s_sA
section
variable {S : Sy} {bl : List Blk} {K : SV → List Blk → Prop}
theorem fields_u (hS : S0 Tryd.prog = S) {x y : SV} {l k : List Fd} (hc : FzL bl id [] [x, y] [.v false 2 (cellsF l) (.y (ilen l)), .v false 2 (cellsF k) (.y (ilen k))]) (hl : ilen l ≤ 100000000) (hk : ilen k ≤ 100000000) (h1 : l = k → K .tt bl) (h2 : l ≠ k → K .ff bl) :
    S.call 37 [x, y] bl K := by
  by_cases h : l = k
  · exact qco hS (qdr (fields_f (decide_eq_true h) hl hk)) hc rfl rfl (h1 h)
  · exact qco hS (qdr (fields_f (decide_eq_false h) hl hk)) hc rfl rfl (h2 h)
theorem equal_u (hS : S0 Tryd.prog = S) {x y : SV} {l k : List Fd} (hc : FzL bl id [] [x, y] [.v false 2 (cellsF l) (.y (ilen l)), .v false 2 (cellsF k) (.y (ilen k))]) (hl : ilen l ≤ 100000000) (hk : ilen k ≤ 100000000) (h1 : l = k → K .tt bl) (h2 : l ≠ k → K .ff bl) :
    S.call 60 [x, y] bl K := by
  by_cases h : l = k
  · exact qco hS (qdr (equal_f (decide_eq_true h) hl hk)) hc rfl rfl (h1 h)
  · exact qco hS (qdr (equal_f (decide_eq_false h) hl hk)) hc rfl rfl (h2 h)
end
end Tb
end Cz
namespace Cz
open Go Go.RowKit Go.Proofs
namespace Tb
theorem same_f {mx my : Int} {l k : List Fd} {t : Bool} (ht : decide (mx = my ∧ l = k) = t) (h1 : ilen l ≤ 100000000) (h2 : ilen k ≤ 100000000) : (S0 Tryd.prog).call 36 [tabV mx l, tabV my k] [] (fun y _ => Sub y (.b t)) := by
  unfold tabV
  generalize hF : cellsF l = F
  generalize hG : cellsF k = G
  obtain ⟨m, hm⟩ : ∃ m, m = ilen l := ⟨_, rfl⟩
  obtain ⟨n, hn⟩ : ∃ n, n = ilen k := ⟨_, rfl⟩
  rw [← hm, ← hn]
  generalize hS : S0 Tryd.prog = S
  refine qac hS I.qys ?_
  cbv
  refine qab hS ?_ ?_ <;> intro h <;> cbv
  · refine equal_u hS (l := l) (k := k) (.cons (.sub (qbe hF.symm hm) rfl) (.cons (.sub (qbe hG.symm hn) rfl) .nil)) h1 h2 (fun he => ?_) (fun he => ?_) <;> cbv
    · have e : t = true := by rw [← ht]; exact decide_eq_true ⟨h, he⟩
      all_goals exact s_sA
    · have e : t = false := by rw [← ht]; exact decide_eq_false fun e => he e.2
      all_goals exact s_sA
  · have e : t = false := by rw [← ht]; exact decide_eq_false fun e => h e.1
    all_goals exact s_sA
theorem rsame_f {mx my : Int} {l k : List Fd} {t : Bool} (ht : decide (mx = my ∧ l = k) = t) (h1 : ilen l ≤ 100000000) (h2 : ilen k ≤ 100000000) : (S0 Tryd.prog).call 21 [tabV mx l, tabV my k] [] (fun y _ => Sub y (.b t)) := by
  unfold tabV
  generalize hF : cellsF l = F
  generalize hG : cellsF k = G
  obtain ⟨m, hm⟩ : ∃ m, m = ilen l := ⟨_, rfl⟩
  obtain ⟨n, hn⟩ : ∃ n, n = ilen k := ⟨_, rfl⟩
  rw [← hm, ← hn]
  generalize hS : S0 Tryd.prog = S
  refine qac hS I.qmm ?_
  cbv
  refine qab hS ?_ ?_ <;> intro h <;> cbv
  · refine fields_u hS (l := l) (k := k) (.cons (.sub (qbe hF.symm hm) rfl) (.cons (.sub (qbe hG.symm hn) rfl) .nil)) h1 h2 (fun he => ?_) (fun he => ?_) <;> cbv
    · have e : t = true := by rw [← ht]; exact decide_eq_true ⟨h, he⟩
      all_goals exact s_sA
    · have e : t = false := by rw [← ht]; exact decide_eq_false fun e => he e.2
      all_goals exact s_sA
  · have e : t = false := by rw [← ht]; exact decide_eq_false fun e => h e.1
    all_goals exact s_sA
def shortL (l : List Fd) : Prop := ∀ f, f ∈ l → ilen f.1 ≤ 140737488355328 ∧ ilen f.2 ≤ 140737488355328
theorem full_short {l : List Fd} (h : shortL l) : fullL l ≤ 281474976710688 * ilen l := by
  induction l with
  | nil => simp [fullL, ilen]
  | cons f l ih =>
    have h1 := h f (List.mem_cons_self ..)
    have h2 := ih fun g hg => h g (List.mem_cons_of_mem _ hg)
    simp only [fullL, szF, ilen, List.length_cons] at *
    omega
section
variable {S : Sy} {bl : List Blk} {K : SV → List Blk → Prop} {cs : List SV} {mx my : Int} {l k : List Fd}
theorem fz_two {bl : List Blk} {g : Nat → Nat} {x y a b : SV} (hx : FzL bl g [] [x] [a]) (hy : FzL bl g [] [y] [b]) (ha : plainV a = false) (hb : plainV b = false) : FzL bl g [] [x, y] [a, b] := by
  cases hx with
  | cons h1 _ => cases hy with
    | cons h2 _ => exact .cons h1 (.cons h2 .nil)
    | fsub h hp => simp [plains, hb] at hp
  | fsub h hp => simp [plains, ha] at hp
theorem same_u (hS : S0 Tryd.prog = S) {cs' : List SV} (hc : TabC bl cs mx l) (hc' : TabC bl cs' my k) (hl : ilen l ≤ 100000000) (hk : ilen k ≤ 100000000) (h1 : mx = my → l = k → K .tt bl) (h2 : ¬(mx = my ∧ l = k) → K .ff bl) :
    S.call 36 [.ag cs, .ag cs'] bl K := by
  by_cases h : mx = my ∧ l = k
  · exact qco hS (qdr (same_f (decide_eq_true h) hl hk)) (fz_two hc.fz hc'.fz rfl rfl) rfl rfl (h1 h.1 h.2)
  · exact qco hS (qdr (same_f (decide_eq_false h) hl hk)) (fz_two hc.fz hc'.fz rfl rfl) rfl rfl (h2 h)
end
end Tb
end Cz
namespace Cz
open Go Go.RowKit Go.Proofs
namespace Tb
theorem op_i {svs : List SV} (h : pkVs [.i .i64] svs) : ∃ n, svs = [.i .i64 (.y n)] ∧ -9223372036854775808 ≤ n ∧ n ≤ 9223372036854775807 := by
  obtain ⟨x, rfl, h'⟩ := pkVs_one h
  simp only [pkV] at h'
  obtain ⟨n, rfl, h1, h2⟩ := h'
  exact ⟨n, rfl, h1, h2⟩
theorem op_fd' {svs : List SV} (h : pkVs [.s, .s] svs) : ∃ f : Fd, svs = fdE f ∧ ilen f.1 ≤ 140737488355328 ∧ ilen f.2 ≤ 140737488355328 := by
  match svs, h with
  | [], h => simp [pkVs] at h
  | [_], h => simp [pkVs] at h
  | _ :: _ :: _ :: _, h => simp [pkVs] at h
  | [x, y], h =>
    simp only [pkVs, pkV] at h
    obtain ⟨⟨a, rfl, ha⟩, ⟨b, rfl, hb⟩, _⟩ := h
    exact ⟨(a, b), rfl, ha, hb⟩
theorem op_fd {svs : List SV} (h : pkVs [.s, .s] svs) : ∃ a b, svs = [.s a, .s b] ∧ shortL [(a, b)] := by
  obtain ⟨f, rfl, h1, h2⟩ := op_fd' h
  exact ⟨f.1, f.2, rfl, fun g hg => by rw [List.mem_singleton.1 hg]; exact ⟨h1, h2⟩⟩
theorem op_fds' {x : SV} (h : pkV (.sl [.s, .s]) x) : ∃ l : List Fd, x = .v false 2 (cellsF l) (.y (ilen l)) ∧ ilen l ≤ 140737488355328 ∧ shortL l := by
  obtain ⟨l, h1, h2, h3⟩ := pk_rows (ec := fdE) (good := fun f => ilen f.1 ≤ 140737488355328 ∧ ilen f.2 ≤ 140737488355328) (fun svs h => op_fd' h) h
  exact ⟨l, h1, h2, h3⟩
theorem op_tab {svs : List SV} (h : pkVs [.i .i64, .sl [.s, .s]] svs) : ∃ mx l, svs = [.i .i64 (.y mx), .v false 2 (cellsF l) (.y (ilen l))] ∧ -9223372036854775808 ≤ mx ∧ mx ≤ 9223372036854775807 ∧ ilen l ≤ 140737488355328 ∧ shortL l := by
  match svs, h with
  | [], h => simp [pkVs] at h
  | [_], h => simp [pkVs] at h
  | _ :: _ :: _ :: _, h => simp [pkVs] at h
  | [x, y], h =>
    simp only [pkVs] at h
    obtain ⟨h1, h2, _⟩ := h
    simp only [pkV] at h1
    obtain ⟨n, rfl, h3, h4⟩ := h1
    obtain ⟨l, rfl, h5, h6⟩ := op_fds' h2
    exact ⟨n, l, rfl, h3, h4, h5, h6⟩
end Tb
end Cz
