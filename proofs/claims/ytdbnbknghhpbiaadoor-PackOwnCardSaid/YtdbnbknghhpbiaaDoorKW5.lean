/- What the claims of this group lean on, part 5: our engine, the functions' simplified codes, their contracts. No condition. -/
import Derived.Test.YtdbnbknghhpbiaaDoorKW4
import Derived.Test.YtdbnbknghhpbiaaDoorProg
set_option maxRecDepth 100000
set_option linter.unusedSimpArgs false
set_option linter.unusedVariables false
set_option maxHeartbeats 4000000
namespace Cz
open Go Go.RowKit Go.Proofs
namespace I
def o (d : Nat) (x : AOp) : AO := ⟨some d, x, none⟩
def u (x : AOp) : AO := ⟨none, x, none⟩
def q (d : Nat) (x : AOp) (a : Nat) (b : Bool) : AO := ⟨some d, x, some (a, b)⟩
def z (n : Int) : Opd := .c (.i .i64 (.l n))
def f (g : Nat) (l : List Opd) : AOp := .call (.c (.fn (.func g) [] [])) l
def kk (l : List (List Nat)) (n : Nat) : List Nat := l.getD n []
def qgc : Nat → List Nat := kk [[0,1,6],[14,15,16,17,18,19,20],[22],[23,24,25,26],[4,9,27,28,29,30,31,32],[2,11,33,34,35,36,37,38],[],[39,40,41,42],[44,45],[46,47,48,49,50],[],[51,52,53,54],[56,57],[58,59,60,61,62],[3,7,63,64,65,66,67,68,69]]
def qei : List Nat := [0,1,2,4,5,6,8,9,11,12,14,15,16,17,18,19,20,21,22,23,24,25,26,27,28,29,30,31,32,33,34,35,36,37,38,39,40,41,42,43,44,45,46,47,48,49,50,51,52,53,54,55,56,57,58,59,60,61,62,63,64,65,66,67,68,69]
def qcm : List Nat := [0,1,2,4,5,6,9,11,13,14,15,16,17,18,19,20,21,22,23,24,25,26,27,28,29,30,31,32,33,34,35,36,37,38,39,40,41,42,43,44,45,46,47,48,49,50,51,52,53,54,55,56,57,58,59,60,61,62,63,64,65,66,67,68,69]
def qif : IR :=
 (.seq (.reg [o 3 (.box (.t 0)),o 4 (.box (.t 1)),o 6 (.mv (.c .ff))] [0,1,6]) (.seq (.seq (.reg [o 14 (.fad 1 (.t 3)),o 15 (.load false 1 (.t 14)),o 16 (f 15 [(.t 15)]),o 17 (.mv (.t 16)),q 18 (.load true 2 (.t 4)) 17 false,q 19 (.buildS 2 1 [(.s []),(.s [])] [(0,(.t 18))]) 17 false,q 20 (f 15 [(.t 19)]) 17 false,o 21 (.pick (.t 17) (.c .tt) (.t 20))] [14,15,16,17,18,19,20]) (.cond (.t 21) (.seq (.reg [o 22 (f 16 []),o 6 (.mv (.t 22))] [22]) .ret) .skip)) (.seq (.reg [o 23 (.buildS 2 0 [(.s []),(.s [])] []),o 24 (.fad 1 (.t 3)),o 25 (.load false 1 (.t 24)),o 26 (.app 2 (.t 23) (.t 25)),o 7 (.mv (.t 26))] [23,24,25,26]) (.seq (.reg [o 28 (.load true 2 (.t 3)),o 29 (.load true 2 (.t 4)),o 30 (f 28 [(.t 28),(.t 29)]),o 27 (.mv (.t 30)),o 31 (.ext (.t 27) 0),o 32 (.ext (.t 27) 1),o 8 (.alloc [(.i .i64 (.l 0)),(.re (.slice none 0 0))]),u (.store 2 (.t 8) (.t 31)),o 9 (.mv (.t 32))] [4,9,27,28,29,30,31,32]) (.seq (.reg [o 34 (.load true 2 (.t 3)),o 35 (.mv (.t 2)),o 36 (f 30 [(.t 34),(.t 35)]),o 33 (.mv (.t 36)),o 37 (.ext (.t 33) 0),o 38 (.ext (.t 33) 1),o 10 (.alloc [(.i .i64 (.l 0)),(.re (.slice none 0 0))]),u (.store 2 (.t 10) (.t 37)),o 11 (.mv (.t 38))] [2,11,33,34,35,36,37,38]) (.seq (.seq (.reg [o 12 (.mv (z 0))] []) (.block 0 (.loop (.seq (.seq (.reg [o 39 (.mv (.t 12)),o 40 (.fad 1 (.t 8)),o 41 (.load false 1 (.t 40)),o 42 (.len false (.t 41)),o 43 (.bin .lt (.t 39) (.t 42))] [39,40,41,42]) (.cond (.t 43) .skip (.exit 0))) (.seq (.block 1 (.reg [o 46 (.fad 1 (.t 8)),o 47 (.load false 1 (.t 46)),o 48 (.mv (.t 12)),o 49 (.iadS 2 (.t 47) (.t 48)),o 50 (.fad 0 (.t 49)),u (.store 1 (.t 50) (.c (.s [63])))] [46,47,48,49,50])) (.reg [o 44 (.mv (.t 12)),o 45 (.bin .add (.t 44) (z 1)),o 12 (.mv (.t 45))] [44,45])))))) (.seq (.seq (.reg [o 13 (.mv (z 0))] []) (.block 2 (.loop (.seq (.seq (.reg [o 51 (.mv (.t 13)),o 52 (.fad 1 (.t 10)),o 53 (.load false 1 (.t 52)),o 54 (.len false (.t 53)),o 55 (.bin .lt (.t 51) (.t 54))] [51,52,53,54]) (.cond (.t 55) .skip (.exit 2))) (.seq (.block 3 (.reg [o 58 (.fad 1 (.t 10)),o 59 (.load false 1 (.t 58)),o 60 (.mv (.t 13)),o 61 (.iadS 2 (.t 59) (.t 60)),o 62 (.fad 0 (.t 61)),u (.store 1 (.t 62) (.c (.s [63])))] [58,59,60,61,62])) (.reg [o 56 (.mv (.t 13)),o 57 (.bin .add (.t 56) (z 1)),o 13 (.mv (.t 57))] [56,57])))))) (.seq (.reg [o 63 (.fad 1 (.t 3)),o 64 (.load false 1 (.t 63)),o 65 (.mv (.t 7)),o 66 (f 37 [(.t 64),(.t 65)]),o 67 (.mv (.t 66)),q 68 (f 16 []) 67 true,o 69 (.pick (.t 67) (.t 68) (.c .ff)),o 6 (.mv (.t 69))] [3,7,63,64,65,66,67,68,69]) .ret))))))))
theorem qgf : FnIs Tryd.prog 7 70 [.t 6] qif :=
  ⟨Tryd.f7, _, qgc, Tryd.func7, rfl, rfl, by kernel_rfl, by kernel_rfl, Tryd.call7⟩
def qgo : Nat → List Nat := kk [[0,4],[11,12],[14],[15,16,17,18,19,20,21],[7,9,22,23,24,25,26,27,28],[],[29,30,31,32],[34,35],[36,37,38,39,40],[1,2,5,6,41,42,43,44,45,46,47,48,49,50,51,52]]
def qeo : List Nat := [0,3,4,7,9,11,12,13,14,15,16,17,18,19,20,21,22,23,24,25,26,27,28,29,30,31,32,33,34,35,36,37,38,39,40,41,42,43,44,45,46,47,48,49,50,51,52]
def qje : IR :=
 (.seq (.reg [o 2 (.box (.t 0)),o 4 (.mv (.c .ff))] [0,4]) (.seq (.seq (.reg [o 11 (.load true 2 (.t 2)),o 12 (.mv (.t 1)),o 13 (f 38 [(.t 11),(.t 12)])] [11,12]) (.cond (.t 13) (.seq (.reg [o 14 (f 39 []),o 4 (.mv (.t 14))] [14]) .ret) .skip)) (.seq (.reg [o 15 (.buildS 2 0 [(.s []),(.s [])] []),o 16 (.fad 1 (.t 2)),o 17 (.load false 1 (.t 16)),o 18 (.app 2 (.t 15) (.t 17)),o 19 (.buildS 2 0 [(.s []),(.s [])] []),o 20 (.mv (.t 1)),o 21 (.app 2 (.t 19) (.t 20)),o 5 (.mv (.t 18)),o 6 (.mv (.t 21))] [15,16,17,18,19,20,21]) (.seq (.reg [o 23 (.load true 2 (.t 2)),o 24 (.mv (.t 1)),o 25 (f 40 [(.t 23),(.t 24)]),o 22 (.mv (.t 25)),o 26 (.ext (.t 22) 0),o 27 (.ext (.t 22) 1),o 28 (.ext (.t 22) 2),o 8 (.alloc [(.i .i64 (.l 0)),(.re (.slice none 0 0))]),o 7 (.mv (.t 26)),u (.store 2 (.t 8) (.t 27)),o 9 (.mv (.t 28))] [7,9,22,23,24,25,26,27,28]) (.seq (.seq (.reg [o 10 (.mv (z 0))] []) (.block 0 (.loop (.seq (.seq (.reg [o 29 (.mv (.t 10)),o 30 (.fad 1 (.t 8)),o 31 (.load false 1 (.t 30)),o 32 (.len false (.t 31)),o 33 (.bin .lt (.t 29) (.t 32))] [29,30,31,32]) (.cond (.t 33) .skip (.exit 0))) (.seq (.block 1 (.reg [o 36 (.fad 1 (.t 8)),o 37 (.load false 1 (.t 36)),o 38 (.mv (.t 10)),o 39 (.iadS 2 (.t 37) (.t 38)),o 40 (.fad 0 (.t 39)),u (.store 1 (.t 40) (.c (.s [63])))] [36,37,38,39,40])) (.reg [o 34 (.mv (.t 10)),o 35 (.bin .add (.t 34) (z 1)),o 10 (.mv (.t 35))] [34,35])))))) (.seq (.reg [o 41 (.fad 1 (.t 2)),o 42 (.load false 1 (.t 41)),o 43 (.mv (.t 5)),o 44 (f 37 [(.t 42),(.t 43)]),o 45 (.mv (.t 44)),q 46 (.mv (.t 1)) 45 true,q 47 (.mv (.t 6)) 45 true,q 48 (f 37 [(.t 46),(.t 47)]) 45 true,o 49 (.pick (.t 45) (.t 48) (.c .ff)),o 50 (.mv (.t 49)),q 51 (f 39 []) 50 true,o 52 (.pick (.t 50) (.t 51) (.c .ff)),o 4 (.mv (.t 52))] [1,2,5,6,41,42,43,44,45,46,47,48,49,50,51,52]) .ret))))))
theorem qdc : FnIs Tryd.prog 11 53 [.t 4] qje :=
  ⟨Tryd.f11, _, qgo, Tryd.func11, rfl, rfl, by kernel_rfl, by kernel_rfl, Tryd.call11⟩
def qhv : Nat → List Nat := kk [[2],[],[],[5,6,7,8,9,10,11],[13,14],[15,16,17,18,19,20,21,22,23,24,25,26,27,28,29],[0,3,30,31,32,33,34,35,36]]
def qfo : List Nat := [1,2,5,6,7,8,9,10,11,12,13,14,15,16,17,18,19,20,21,22,23,24,25,26,27,28,29,30,31,32,33,34,35,36]
def qga : List (Nat × List Nat) := [(0,[]),(1,[]),(2,[]),(3,[]),(4,[]),(5,[]),(6,[]),(7,[]),(8,[]),(9,[]),(10,[]),(11,[]),(12,[]),(13,[]),(14,[]),(15,[])]
def qls : IR :=
 (.seq (.reg [o 2 (.mv (.c .ff))] [2]) (.seq (.reg [o 3 (.mv (z 0))] []) (.seq (.seq (.reg [o 4 (.mv (z 0))] []) (.block 0 (.loop (.seq (.seq (.reg [o 5 (.mv (.t 4)),o 6 (.mv (.t 0)),o 7 (.len false (.t 6)),o 8 (.bin .lt (.t 5) (.t 7)),o 9 (.mv (.t 8)),q 10 (.mv (.t 4)) 9 true,q 11 (.bin .le (.t 10) (z 140)) 9 true,o 12 (.pick (.t 9) (.t 11) (.c .ff))] [5,6,7,8,9,10,11]) (.cond (.t 12) .skip (.exit 0))) (.seq (.block 1 (.draw [o 15 (.mv (.t 3)),o 16 (.mv (.t 0)),o 17 (.mv (.t 4)),o 18 (.iadS 2 (.t 16) (.t 17)),o 19 (.fad 0 (.t 18)),o 20 (.load false 1 (.t 19)),o 21 (.len true (.t 20)),o 22 (.bin .add (.t 15) (.t 21)),o 23 (.mv (.t 0)),o 24 (.mv (.t 4)),o 25 (.iadS 2 (.t 23) (.t 24)),o 26 (.fad 1 (.t 25)),o 27 (.load false 1 (.t 26)),o 28 (.len true (.t 27)),o 29 (.bin .add (.t 22) (.t 28)),o 3 (.mv (.t 29))] [[],[],[],[1,2],[3],[4],[5],[0,6],[],[],[8,9],[10],[11],[12],[7,13],[14,0,1,2,3,4,5,6,7,8,9,10,11,12,13,14]] [15,16,17,18,19,20,21,22,23,24,25,26,27,28,29])) (.reg [o 13 (.mv (.t 4)),o 14 (.bin .add (.t 13) (z 1)),o 4 (.mv (.t 14))] [13,14])))))) (.seq (.reg [o 30 (.mv (.t 0)),o 31 (.len false (.t 30)),o 32 (.bin .gt (.t 31) (z 140)),o 33 (.mv (.t 32)),q 34 (.mv (.t 3)) 33 false,q 35 (.bin .gt (.t 34) (z 5000)) 33 false,o 36 (.pick (.t 33) (.c .tt) (.t 35)),o 2 (.mv (.t 36))] [0,3,30,31,32,33,34,35,36]) .ret))))
theorem qib : FnIs Tryd.prog 15 37 [.t 2] qls :=
  ⟨Tryd.f15, _, qhv, Tryd.func15, rfl, rfl, by kernel_rfl, by kernel_rfl, Tryd.call15⟩
def qhy : Nat → List Nat := kk [[0],[27,28,29,30],[1,31,32,33,34,35,36],[37,38,39,40,41,42],[43,44,45,46,47,48],[49,50,51,52,53,54],[55,56,57,58,59,60],[61,62,63,64,65,66],[67,68,69,70,71],[17,72,73,74,75,76],[77,78,79,80],[21,81,82,83,84],[85,86,87,88,89],[25,90,91,92,93],[2,3,4,5,6,7,8,9,10,11,12,13,14,15,16,18,19,20,22,23,24,26,94,95,96,97,98,99,100,101,102,103,104,105,106,107,108,109,110,111,112,113,114,115,116,117,118,119,120,121,122,123,124,125,126,127,128,129,130,131,132,133,134,135,136,137,138,139,140,141,142,143,144,145,146,147,148,149,150,151,152,153,154,155,156,157,158,159,160,161,162,163,164,165,166,167,168,169,170,171,172,173,174,175,176,177,178,179,180,181,182,183,184,185,186,187,188,189,190,191,192,193,194,195,196,197,198,199,200,201,202,203,204,205,206,207,208,209,210,211,212,213]]
def qlv : IR :=
 (.seq (.reg [o 0 (.mv (.c .ff))] [0]) (.seq (.reg [o 28 (f 19 [(z 100)]),o 27 (.mv (.t 28)),o 29 (.ext (.t 27) 0),o 30 (.ext (.t 27) 1),o 1 (.alloc [(.i .i64 (.l 0)),(.re (.slice none 0 0))]),u (.store 2 (.t 1) (.t 29)),o 2 (.mv (.t 30))] [27,28,29,30]) (.seq (.reg [o 32 (.load true 2 (.t 1)),o 33 (.build [(.s []),(.s [])] [(0,1,(.c (.s [97]))),(1,1,(.c (.s [49])))]),o 34 (f 28 [(.t 32),(.t 33)]),o 31 (.mv (.t 34)),o 35 (.ext (.t 31) 0),o 36 (.ext (.t 31) 1),o 3 (.alloc [(.i .i64 (.l 0)),(.re (.slice none 0 0))]),u (.store 2 (.t 3) (.t 35)),o 4 (.mv (.t 36))] [1,31,32,33,34,35,36]) (.seq (.reg [o 38 (.load true 2 (.t 3)),o 39 (.build [(.s []),(.s [])] [(0,1,(.c (.s [98]))),(1,1,(.c (.s [50])))]),o 40 (f 28 [(.t 38),(.t 39)]),o 37 (.mv (.t 40)),o 41 (.ext (.t 37) 0),o 42 (.ext (.t 37) 1),o 5 (.alloc [(.i .i64 (.l 0)),(.re (.slice none 0 0))]),u (.store 2 (.t 5) (.t 41)),o 6 (.mv (.t 42))] [37,38,39,40,41,42]) (.seq (.reg [o 44 (.load true 2 (.t 5)),o 45 (.build [(.s []),(.s [])] [(0,1,(.c (.s [99]))),(1,1,(.c (.s [51])))]),o 46 (f 28 [(.t 44),(.t 45)]),o 43 (.mv (.t 46)),o 47 (.ext (.t 43) 0),o 48 (.ext (.t 43) 1),o 7 (.alloc [(.i .i64 (.l 0)),(.re (.slice none 0 0))]),u (.store 2 (.t 7) (.t 47)),o 8 (.mv (.t 48))] [43,44,45,46,47,48]) (.seq (.reg [o 50 (.load true 2 (.t 7)),o 51 (.build [(.s []),(.s [])] [(0,1,(.c (.s [58,109,101,116,104,111,100]))),(1,1,(.c (.s [80,85,84])))]),o 52 (f 34 [(.t 50),(.t 51)]),o 49 (.mv (.t 52)),o 53 (.ext (.t 49) 0),o 54 (.ext (.t 49) 1),o 9 (.mv (.t 53)),o 10 (.mv (.t 54))] [49,50,51,52,53,54]) (.seq (.reg [o 56 (.load true 2 (.t 7)),o 57 (.build [(.s []),(.s [])] [(0,1,(.c (.s [58,109,101,116,104,111,100]))),(1,1,(.c (.s [80,79,83,84])))]),o 58 (f 34 [(.t 56),(.t 57)]),o 55 (.mv (.t 58)),o 59 (.ext (.t 55) 0),o 60 (.ext (.t 55) 1),o 11 (.mv (.t 59)),o 12 (.mv (.t 60))] [55,56,57,58,59,60]) (.seq (.reg [o 62 (.load true 2 (.t 7)),o 63 (.build [(.s []),(.s [])] [(0,1,(.c (.s [98]))),(1,1,(.c (.s [50])))]),o 64 (f 34 [(.t 62),(.t 63)]),o 61 (.mv (.t 64)),o 65 (.ext (.t 61) 0),o 66 (.ext (.t 61) 1),o 13 (.mv (.t 65)),o 14 (.mv (.t 66))] [61,62,63,64,65,66]) (.seq (.reg [o 68 (.load true 2 (.t 7)),o 69 (f 32 [(.t 68),(z 21)]),o 67 (.mv (.t 69)),o 70 (.ext (.t 67) 0),o 71 (.ext (.t 67) 1),o 15 (.alloc [(.s []),(.s [])]),u (.store 2 (.t 15) (.t 70)),o 16 (.mv (.t 71))] [67,68,69,70,71]) (.seq (.reg [o 73 (.load true 2 (.t 7)),o 74 (f 32 [(.t 73),(z 23)]),o 72 (.mv (.t 74)),o 75 (.ext (.t 72) 0),o 76 (.ext (.t 72) 1),o 17 (.alloc [(.s []),(.s [])]),u (.store 2 (.t 17) (.t 75)),o 18 (.mv (.t 76))] [17,72,73,74,75,76]) (.seq (.reg [o 78 (f 17 [(z 18)]),o 77 (.mv (.t 78)),o 79 (.ext (.t 77) 0),o 80 (.ext (.t 77) 1),o 19 (.alloc [(.s []),(.s [])]),u (.store 2 (.t 19) (.t 79)),o 20 (.mv (.t 80))] [77,78,79,80]) (.seq (.reg [o 82 (f 17 [(z 21)]),o 81 (.mv (.t 82)),o 83 (.ext (.t 81) 0),o 84 (.ext (.t 81) 1),o 21 (.alloc [(.s []),(.s [])]),u (.store 2 (.t 21) (.t 83)),o 22 (.mv (.t 84))] [21,81,82,83,84]) (.seq (.reg [o 86
 (.load true 2 (.t 7)),o 87 (f 30 [(.t 86),(z 40)]),o 85 (.mv (.t 87)),o 88 (.ext (.t 85) 0),o 89 (.ext (.t 85) 1),o 23 (.alloc [(.i .i64 (.l 0)),(.re (.slice none 0 0))]),u (.store 2 (.t 23) (.t 88)),o 24 (.mv (.t 89))] [85,86,87,88,89]) (.seq (.reg [o 91 (f 19 [(z 4097)]),o 90 (.mv (.t 91)),o 92 (.ext (.t 90) 0),o 93 (.ext (.t 90) 1),o 25 (.alloc [(.i .i64 (.l 0)),(.re (.slice none 0 0))]),u (.store 2 (.t 25) (.t 92)),o 26 (.mv (.t 93))] [25,90,91,92,93]) (.seq (.reg [o 94 (.mv (.t 2)),o 95 (.bin .eq (.t 94) (z 0)),o 96 (.mv (.t 95)),q 97 (.mv (.t 4)) 96 true,q 98 (.bin .eq (.t 97) (z 0)) 96 true,o 99 (.pick (.t 96) (.t 98) (.c .ff)),o 100 (.mv (.t 99)),q 101 (.mv (.t 6)) 100 true,q 102 (.bin .eq (.t 101) (z 0)) 100 true,o 103 (.pick (.t 100) (.t 102) (.c .ff)),o 104 (.mv (.t 103)),q 105 (.mv (.t 8)) 104 true,q 106 (.bin .eq (.t 105) (z 0)) 104 true,o 107 (.pick (.t 104) (.t 106) (.c .ff)),o 108 (.mv (.t 107)),q 109 (.load true 2 (.t 3)) 108 true,q 110 (f 24 [(.t 109)]) 108 true,q 111 (.bin .eq (.t 110) (z 34)) 108 true,o 112 (.pick (.t 108) (.t 111) (.c .ff)),o 113 (.mv (.t 112)),q 114 (.load true 2 (.t 5)) 113 true,q 115 (f 24 [(.t 114)]) 113 true,q 116 (.bin .eq (.t 115) (z 68)) 113 true,o 117 (.pick (.t 113) (.t 116) (.c .ff)),o 118 (.mv (.t 117)),q 119 (.load true 2 (.t 7)) 118 true,q 120 (f 24 [(.t 119)]) 118 true,q 121 (.bin .eq (.t 120) (z 68)) 118 true,o 122 (.pick (.t 118) (.t 121) (.c .ff)),o 123 (.mv (.t 122)),q 124 (.mv (.t 9)) 123 true,q 125 (.bin .eq (.t 124) (z 1)) 123 true,o 126 (.pick (.t 123) (.t 125) (.c .ff)),o 127 (.mv (.t 126)),q 128 (.mv (.t 10)) 127 true,q 129 (.not (.t 128)) 127 true,o 130 (.pick (.t 127) (.t 129) (.c .ff)),o 131 (.mv (.t 130)),q 132 (.mv (.t 11)) 131 true,q 133 (.bin .eq (.t 132) (z 2)) 131 true,o 134 (.pick (.t 131) (.t 133) (.c .ff)),o 135 (.mv (.t 134)),q 136 (.mv (.t 12)) 135 true,o 137 (.pick (.t 135) (.t 136) (.c .ff)),o 138 (.mv (.t 137)),q 139 (.mv (.t 13)) 138 true,q 140 (.bin .eq (.t 139) (z 22)) 138 true,o 141 (.pick (.t 138) (.t 140) (.c .ff)),o 142 (.mv (.t 141)),q 143 (.mv (.t 14)) 142 true,o 144 (.pick (.t 142) (.t 143) (.c .ff)),o 145 (.mv (.t 144)),q 146 (.load true 2 (.t 15)) 145 true,q 147 (.build [(.s []),(.s [])] [(0,1,(.c (.s [99]))),(1,1,(.c (.s [51])))]) 145 true,q 148 (.eqA ⟨true,[.ks,.ks]⟩ false (.t 146) (.t 147)) 145 true,o 149 (.pick (.t 145) (.t 148) (.c .ff)),o 150 (.mv (.t 149)),q 151 (.mv (.t 16)) 150 true,q 152 (.bin .eq (.t 151) (z 0)) 150 true,o 153 (.pick (.t 150) (.t 152) (.c .ff)),o 154 (.mv (.t 153)),q 155 (.mv (.t 18)) 154 true,q 156 (.bin .eq (.t 155) (z 90)) 154 true,o 157 (.pick (.t 154) (.t 156) (.c .ff)),o 158 (.mv (.t 157)),q 159 (.load true 2 (.t 19)) 158 true,q 160 (.build [(.s []),(.s [])] [(0,1,(.c (.s [112,114,105,111,114,105,116,121]))),(1,1,(.c (.s [117,61,49])))]) 158 true,q 161 (.eqA ⟨true,[.ks,.ks]⟩ false (.t 159) (.t 160)) 158 true,o 162 (.pick (.t 158) (.t 161) (.c .ff)),o 163 (.mv (.t 162)),q 164 (.mv (.t 20)) 163 true,o 165 (.pick (.t 163) (.t
 164) (.c .ff)),o 166 (.mv (.t 165)),q 167 (.mv (.t 22)) 166 true,q 168 (.not (.t 167)) 166 true,o 169 (.pick (.t 166) (.t 168) (.c .ff)),o 170 (.mv (.t 169)),q 171 (.mv (.t 24)) 170 true,q 172 (.bin .eq (.t 171) (z 0)) 170 true,o 173 (.pick (.t 170) (.t 172) (.c .ff)),o 174 (.mv (.t 173)),q 175 (.fad 1 (.t 23)) 174 true,q 176 (.load false 1 (.t 175)) 174 true,q 177 (.len false (.t 176)) 174 true,q 178 (.bin .eq (.t 177) (z 1)) 174 true,o 179 (.pick (.t 174) (.t 178) (.c .ff)),o 180 (.mv (.t 179)),q 181 (.fad 0 (.t 23)) 180 true,q 182 (.load false 1 (.t 181)) 180 true,q 183 (.bin .eq (.t 182) (z 40)) 180 true,o 184 (.pick (.t 180) (.t 183) (.c .ff)),o 185 (.mv (.t 184)),q 186 (.mv (.t 26)) 185 true,q 187 (.bin .eq (.t 186) (z 2)) 185 true,o 188 (.pick (.t 185) (.t 187) (.c .ff)),o 189 (.mv (.t 188)),q 190 (.load true 2 (.t 7)) 189 true,q 191 (f 26 [(.t 190)]) 189 true,o 192 (.pick (.t 189) (.t 191) (.c .ff)),o 193 (.mv (.t 192)),q 194 (.build [(.i .i64 (.l 0)),(.re (.slice none 0 0))] [(0,1,(z (-1)))]) 193 true,q 195 (f 26 [(.t 194)]) 193 true,q 196 (.not (.t 195)) 193 true,o 197 (.pick (.t 193) (.t 196) (.c .ff)),o 198 (.mv (.t 197)),q 199 (.load true 2 (.t 19)) 198 true,q 200 (f 22 [(.t 199)]) 198 true,q 201 (.bin .eq (.t 200) (z 43)) 198 true,o 202 (.pick (.t 198) (.t 201) (.c .ff)),o 203 (.mv (.t 202)),q 204 (.load true 2 (.t 7)) 203 true,q 205 (.load true 2 (.t 7)) 203 true,q 206 (f 36 [(.t 204),(.t 205)]) 203 true,o 207 (.pick (.t 203) (.t 206) (.c .ff)),o 208 (.mv (.t 207)),q 209 (.load true 2 (.t 7)) 208 true,q 210 (.load true 2 (.t 23)) 208 true,q 211 (f 36 [(.t 209),(.t 210)]) 208 true,q 212 (.not (.t 211)) 208 true,o 213 (.pick (.t 208) (.t 212) (.c .ff)),o 0 (.mv (.t 213))] [2,3,4,5,6,7,8,9,10,11,12,13,14,15,16,18,19,20,22,23,24,26,94,95,96,97,98,99,100,101,102,103,104,105,106,107,108,109,110,111,112,113,114,115,116,117,118,119,120,121,122,123,124,125,126,127,128,129,130,131,132,133,134,135,136,137,138,139,140,141,142,143,144,145,146,147,148,149,150,151,152,153,154,155,156,157,158,159,160,161,162,163,164,165,166,167,168,169,170,171,172,173,174,175,176,177,178,179,180,181,182,183,184,185,186,187,188,189,190,191,192,193,194,195,196,197,198,199,200,201,202,203,204,205,206,207,208,209,210,211,212,213]) .ret)))))))))))))))
theorem qie : FnIs Tryd.prog 16 214 [.t 0] qlv :=
  ⟨Tryd.f16, _, qhy, Tryd.func16, rfl, rfl, by kernel_rfl, by kernel_rfl, Tryd.call16⟩
def qoi : Nat → List Nat := kk [[3],[6],[8],[0,9,10,11,12,13,14],[4,5,15,16,17]]
def qul : IR :=
 (.seq (.reg [o 2 (.alloc [(.s []),(.s [])]),o 3 (.mv (.c .ff))] [3]) (.seq (.seq (.reg [o 6 (.mv (.t 0)),o 7 (.bin .gt (.t 6) (z 20))] [6]) (.cond (.t 7) (.seq (.reg [o 8 (.build [(.s []),(.s [])] []),u (.store 2 (.t 2) (.t 8)),o 3 (.mv (.c .ff))] [8]) .ret) .skip)) (.seq (.reg [o 10 (.build [(.i .i64 (.l 0)),(.re (.slice none 0 0))] []),o 11 (.mv (.t 0)),o 12 (f 32 [(.t 10),(.t 11)]),o 9 (.mv (.t 12)),o 13 (.ext (.t 9) 0),o 14 (.ext (.t 9) 1),o 4 (.alloc [(.s []),(.s [])]),u (.store 2 (.t 4) (.t 13)),o 5 (.mv (.t 14))] [0,9,10,11,12,13,14]) (.seq (.reg [o 15 (.load true 2 (.t 4)),o 16 (.mv (.t 5)),o 17 (.bin .eq (.t 16) (z 0)),u (.store 2 (.t 2) (.t 15)),o 3 (.mv (.t 17))] [4,5,15,16,17]) .ret))))
theorem qow : FnIs Tryd.prog 17 18 [.c 2 true 2, .t 3] qul :=
  ⟨Tryd.f17, _, qoi, Tryd.func17, rfl, rfl, by kernel_rfl, by kernel_rfl, Tryd.call17⟩
def qvk : Nat → List Nat := kk [[3],[4,5,6,7,8],[10],[0,11,12],[13]]
def table_New : IR :=
 (.seq (.reg [o 2 (.alloc [(.i .i64 (.l 0)),(.re (.slice none 0 0))]),o 3 (.mv (z 0))] [3]) (.seq (.seq (.reg [o 4 (.mv (.t 0)),o 5 (.bin .lt (.t 4) (z 0)),o 6 (.mv (.t 5)),q 7 (.mv (.t 0)) 6 false,q 8 (.bin .gt (.t 7) (z 4096)) 6 false,o 9 (.pick (.t 6) (.c .tt) (.t 8))] [4,5,6,7,8]) (.cond (.t 9) (.seq (.reg [o 10 (.load true 2 (.t 2)),u (.store 2 (.t 2) (.t 10)),o 3 (.mv (z 2))] [10]) .ret) .skip)) (.seq (.reg [o 11 (.mv (.t 0)),o 12 (.fad 0 (.t 2)),u (.store 1 (.t 12) (.t 11))] [0,11,12]) (.seq (.reg [o 13 (.load true 2 (.t 2)),u (.store 2 (.t 2) (.t 13)),o 3 (.mv (z 0))] [13]) .ret))))
theorem qvw : FnIs Tryd.prog 19 14 [.c 2 true 2, .t 3] table_New :=
  ⟨Tryd.f19, _, qvk, Tryd.func19, rfl, rfl, by kernel_rfl, by kernel_rfl, Tryd.call19⟩
def qiw : Nat → List Nat := kk [[0,1,4],[2,3,5,6,7,8,9,10,11,12,13,14,15,16]]
def qmr : IR :=
 (.seq (.reg [o 2 (.box (.t 0)),o 3 (.box (.t 1)),o 4 (.mv (.c .ff))] [0,1,4]) (.seq (.reg [o 5 (.fad 0 (.t 2)),o 6 (.load false 1 (.t 5)),o 7 (.fad 0 (.t 3)),o 8 (.load false 1 (.t 7)),o 9 (.bin .eq (.t 6) (.t 8)),o 10 (.mv (.t 9)),q 11 (.fad 1 (.t 2)) 10 true,q 12 (.load false 1 (.t 11)) 10 true,q 13 (.fad 1 (.t 3)) 10 true,q 14 (.load false 1 (.t 13)) 10 true,q 15 (f 37 [(.t 12),(.t 14)]) 10 true,o 16 (.pick (.t 10) (.t 15) (.c .ff)),o 4 (.mv (.t 16))] [2,3,5,6,7,8,9,10,11,12,13,14,15,16]) .ret))
theorem qiz : FnIs Tryd.prog 21 17 [.t 4] qmr :=
  ⟨Tryd.f21, _, qiw, Tryd.func21, rfl, rfl, by kernel_rfl, by kernel_rfl, Tryd.call21⟩
def qsn : Nat → List Nat := kk [[0,2],[1,3,4,5,6,7,8,9,10]]
def table_Size : IR :=
 (.seq (.reg [o 1 (.box (.t 0)),o 2 (.mv (z 0))] [0,2]) (.seq (.reg [o 3 (.fad 0 (.t 1)),o 4 (.load false 1 (.t 3)),o 5 (.len true (.t 4)),o 6 (.bin .add (z 32) (.t 5)),o 7 (.fad 1 (.t 1)),o 8 (.load false 1 (.t 7)),o 9 (.len true (.t 8)),o 10 (.bin .add (.t 6) (.t 9)),o 2 (.mv (.t 10))] [1,3,4,5,6,7,8,9,10]) .ret))
theorem qta : FnIs Tryd.prog 22 11 [.t 2] table_Size :=
  ⟨Tryd.f22, _, qsn, Tryd.func22, rfl, rfl, by kernel_rfl, by kernel_rfl, Tryd.call22⟩
def qsp : Nat → List Nat := kk [[0],[1,5],[],[10,11],[4,12,13,14,15],[16],[17]]
def qlp : List Nat := [0,1,3,4,5,9,10,11,12,13,14,15,16,17]
def table_Full : IR :=
 (.seq (.reg [o 1 (.box (.t 0)),o 2 (.mv (z 0))] [0]) (.seq (.seq (.reg [o 5 (.fad 1 (.t 1)),o 6 (.load false 1 (.t 5)),o 7 (.len false (.t 6)),o 8 (.mv (z 0))] [1,5]) (.block 0 (.loop (.seq (.reg [o 9 (.bin .lt (.t 8) (.t 7))] []) (.seq (.cond (.t 9) .skip (.exit 0)) (.seq (.block 1 (.seq (.reg [o 10 (.iadS 2 (.t 6) (.t 8)),o 11 (.load true 2 (.t 10)),o 4 (.alloc [(.s []),(.s [])]),u (.store 2 (.t 4) (.t 11))] [10,11]) (.reg [o 12 (.mv (.t 2)),o 13 (.load true 2 (.t 4)),o 14 (f 22 [(.t 13)]),o 15 (.bin .add (.t 12) (.t 14)),o 2 (.mv (.t 15))] [4,12,13,14,15]))) (.reg [o 16 (.bin .add (.t 8) (z 1)),o 8 (.mv (.t 16))] [16]))))))) (.seq (.reg [o 17 (.mv (.t 2)),o 2 (.mv (.t 17))] [17]) .ret)))
theorem qtc : FnIs Tryd.prog 24 18 [.t 2] table_Full :=
  ⟨Tryd.f24, _, qsp, Tryd.func24, rfl, rfl, by kernel_rfl, by kernel_rfl, Tryd.call24⟩
def qpy : Nat → List Nat := kk [[0,2],[1,3,4,5,6,7,8,9,10,11,12,13,14,15,16,17]]
def qky : List (Nat × List Nat) := [(0,[]),(1,[]),(2,[]),(3,[]),(4,[]),(5,[]),(6,[]),(7,[]),(8,[]),(9,[]),(11,[]),(12,[]),(10,[12]),(13,[]),(14,[]),(15,[])]
def qwq : IR :=
 (.seq (.reg [o 1 (.box (.t 0)),o 2 (.mv (.c .ff))] [0,2]) (.seq (.draw [o 3 (.fad 0 (.t 1)),o 4 (.load false 1 (.t 3)),o 5 (.bin .ge (.t 4) (z 0)),o 6 (.mv (.t 5)),q 7 (.fad 0 (.t 1)) 6 true,q 8 (.load false 1 (.t 7)) 6 true,q 9 (.bin .le (.t 8) (z 4096)) 6 true,o 10 (.pick (.t 6) (.t 9) (.c .ff)),o 11 (.mv (.t 10)),q 12 (.load true 2 (.t 1)) 11 true,q 13 (f 24 [(.t 12)]) 11 true,q 14 (.fad 0 (.t 1)) 11 true,q 15 (.load false 1 (.t 14)) 11 true,q 16 (.bin .le (.t 13) (.t 15)) 11 true,o 17 (.pick (.t 11) (.t 16) (.c .ff)),o 2 (.mv (.t 17))] [[],[0],[1],[2],[3],[4,3],[5,3],[3,6],[7,3],[8],[9,8,8],[8],[11,8],[10,12,8],[8,13],[14,10,0,1,2,3,4,5,6,7,8,9,10,11,12,13,14]] [1,3,4,5,6,7,8,9,10,11,12,13,14,15,16,17]) .ret))
theorem qqf : FnIs Tryd.prog 26 18 [.t 2] qwq :=
  ⟨Tryd.f26, _, qpy, Tryd.func26, rfl, rfl, by kernel_rfl, by kernel_rfl, Tryd.call26⟩
def qvl : Nat → List Nat := kk [[0,1,5],[6,7],[9],[3,10,11,12,13,14,15],[16],[2,17]]
def table_Add : IR :=
 (.seq (.reg [o 2 (.box (.t 0)),o 3 (.box (.t 1)),o 4 (.alloc [(.i .i64 (.l 0)),(.re (.slice none 0 0))]),o 5 (.mv (z 0))] [0,1,5]) (.seq (.seq (.reg [o 6 (.load true 2 (.t 2)),o 7 (f 26 [(.t 6)]),o 8 (.not (.t 7))] [6,7]) (.cond (.t 8) (.seq (.reg [o 9 (.build [(.i .i64 (.l 0)),(.re (.slice none 0 0))] []),u (.store 2 (.t 4) (.t 9)),o 5 (.mv (z 2))] [9]) .ret) .skip)) (.seq (.reg [o 10 (.load true 2 (.t 3)),o 11 (.buildS 2 1 [(.s []),(.s [])] [(0,(.t 10))]),o 12 (.fad 1 (.t 2)),o 13 (.load false 1 (.t 12)),o 14 (.app 2 (.t 11) (.t 13)),o 15 (.fad 1 (.t 2)),u (.store 1 (.t 15) (.t 14))] [3,10,11,12,13,14,15]) (.seq (.reg [o 16 (f 56 [(.t 2)])] [16]) (.seq (.reg [o 17 (.load true 2 (.t 2)),u (.store 2 (.t 4) (.t 17)),o 5 (.mv (z 0))] [2,17]) .ret)))))
theorem qmc : FnIs Tryd.prog 28 18 [.c 4 true 2, .t 5] table_Add :=
  ⟨Tryd.f28, _, qvl, Tryd.func28, rfl, rfl, by kernel_rfl, by kernel_rfl, Tryd.call28⟩
def qoj : Nat → List Nat := kk [[0,5],[1,8,9,10,11,12],[7,13,14,15,16,17,18],[20],[2,21,22,23,24],[25],[6,26]]
def qum : IR :=
 (.seq (.reg [o 2 (.box (.t 0)),o 4 (.alloc [(.i .i64 (.l 0)),(.re (.slice none 0 0))]),o 5 (.mv (z 0))] [0,5]) (.seq (.reg [o 9 (.mv (.t 1)),o 10 (f 19 [(.t 9)]),o 8 (.mv (.t 10)),o 11 (.ext (.t 8) 0),o 12 (.ext (.t 8) 1),o 6 (.alloc [(.i .i64 (.l 0)),(.re (.slice none 0 0))]),u (.store 2 (.t 6) (.t 11)),o 7 (.mv (.t 12))] [1,8,9,10,11,12]) (.seq (.seq (.reg [o 13 (.mv (.t 7)),o 14 (.bin .ne (.t 13) (z 0)),o 15 (.mv (.t 14)),q 16 (.load true 2 (.t 2)) 15 false,q 17 (f 26 [(.t 16)]) 15 false,q 18 (.not (.t 17)) 15 false,o 19 (.pick (.t 15) (.c .tt) (.t 18))] [7,13,14,15,16,17,18]) (.cond (.t 19) (.seq (.reg [o 20 (.build [(.i .i64 (.l 0)),(.re (.slice none 0 0))] []),u (.store 2 (.t 4) (.t 20)),o 5 (.mv (z 2))] [20]) .ret) .skip)) (.seq (.reg [o 21 (.fad 1 (.t 2)),o 22 (.load false 1 (.t 21)),o 23 (f 58 [(.t 22)]),o 24 (.fad 1 (.t 6)),u (.store 1 (.t 24) (.t 23))] [2,21,22,23,24]) (.seq (.reg [o 25 (f 56 [(.t 6)])] [25]) (.seq (.reg [o 26 (.load true 2 (.t 6)),u (.store 2 (.t 4) (.t 26)),o 5 (.mv (z 0))] [6,26]) .ret))))))
theorem qhd : FnIs Tryd.prog 30 27 [.c 4 true 2, .t 5] qum :=
  ⟨Tryd.f30, _, qoj, Tryd.func30, rfl, rfl, by kernel_rfl, by kernel_rfl, Tryd.call30⟩
def qxd : Nat → List Nat := kk [[0,1],[2,8,9],[11],[12],[3,6,13,14],[7,16],[17]]
def table_At : IR :=
 (.seq (.reg [o 2 (.box (.t 0)),o 3 (.box (.t 1)),o 4 (.alloc [(.s []),(.s [])]),o 5 (.alloc [(.i .i64 (.l 0))])] [0,1]) (.seq (.seq (.reg [o 8 (.fad 1 (.t 2)),o 9 (.load false 1 (.t 8)),o 10 (f 59 [(.t 9)])] [2,8,9]) (.block 0 (.rf (.t 10) [11,12] (.seq (.reg [o 6 (.mv (.t 11))] [11]) (.reg [o 7 (.alloc [(.s []),(.s [])]),u (.store 2 (.t 7) (.t 12))] [12])) (.block 1 (.seq (.reg [o 13 (.mv (.t 6)),o 14 (.load false 1 (.t 3)),o 15 (.bin .eq (.t 13) (.t 14))] [3,6,13,14]) (.cond (.t 15) (.seq (.reg [o 16 (.load true 2 (.t 7)),u (.store 2 (.t 4) (.t 16)),u (.store 1 (.t 5) (z 0))] [7,16]) .ret) .skip)))))) (.seq (.reg [o 17 (.build [(.s []),(.s [])] []),u (.store 2 (.t 4) (.t 17)),u (.store 1 (.t 5) (z 90))] [17]) .ret)))
theorem qxh : FnIs Tryd.prog 32 18 [.c 4 true 2, .c 5 false 1] table_At :=
  ⟨Tryd.f32, _, qxd, Tryd.func32, rfl, rfl, by kernel_rfl, by kernel_rfl, Tryd.call32⟩
def qsq : Nat → List Nat := kk [[0,1],[16,17],[2,18,19],[21],[22],[10,23,24,25,26,27,28],[11,29],[6,31,32,33],[12,34,35,36,37,38,39,40],[13,41],[7,8,9,43,44,45,46],[6,47,48,49,50,51,52],[15],[14,54],[3,7,55,56,57,58]]
def table_Find : IR :=
 (.seq (.reg [o 2 (.box (.t 0)),o 3 (.box (.t 1)),o 4 (.mv (z 0)),o 5 (.mv (.c .ff))] [0,1]) (.seq (.reg [o 16 .mkM,o 17 .mkM,o 6 (.alloc [(.re (.map none))]),o 7 (.alloc [(.re (.map none))]),u (.store 1 (.t 6) (.t 16)),u (.store 1 (.t 7) (.t 17))] [16,17]) (.seq (.seq (.reg [o 18 (.fad 1 (.t 2)),o 19 (.load false 1 (.t 18)),o 20 (f 59 [(.t 19)])] [2,18,19]) (.block 0 (.rf (.t 20) [21,22] (.seq (.reg [o 8 (.mv (.t 21))] [21]) (.reg [o 9 (.alloc [(.s []),(.s [])]),u (.store 2 (.t 9) (.t 22))] [22])) (.block 1 (.seq (.seq (.reg [o 24 (.load false 1 (.t 6)),o 25 (.load true 2 (.t 9)),o 26 (.look ⟨true,[.ks,.ks]⟩ (.i .i64 (.l 0)) true (.t 24) (.t 25)),o 23 (.mv (.t 26)),o 27 (.ext (.t 23) 0),o 28 (.ext (.t 23) 1),o 10 (.mv (.t 27)),o 11 (.mv (.t 28))] [10,23,24,25,26,27,28]) (.seq (.reg [o 29 (.mv (.t 11)),o 30 (.not (.t 29))] [11,29]) (.cond (.t 30) (.reg [o 31 (.load false 1 (.t 6)),o 32 (.load true 2 (.t 9)),o 33 (.mv (.t 8)),u (.mupd ⟨true,[.ks,.ks]⟩ (.t 31) (.t 32) (.t 33))] [6,31,32,33]) .skip))) (.seq (.reg [o 35 (.load false 1 (.t 7)),o 36 (.fad 0 (.t 9)),o 37 (.load false 1 (.t 36)),o 38 (.look ⟨false,[.ks]⟩ (.i .i64 (.l 0)) true (.t 35) (.t 37)),o 34 (.mv (.t 38)),o 39 (.ext (.t 34) 0),o 40 (.ext (.t 34) 1),o 12 (.mv (.t 39)),o 13 (.mv (.t 40))] [12,34,35,36,37,38,39,40]) (.seq (.reg [o 41 (.mv (.t 13)),o 42 (.not (.t 41))] [13,41]) (.cond (.t 42) (.reg [o 43 (.load false 1 (.t 7)),o 44 (.fad 0 (.t 9)),o 45 (.load false 1 (.t 44)),o 46 (.mv (.t 8)),u (.mupd ⟨false,[.ks]⟩ (.t 43) (.t 45) (.t 46))] [7,8,9,43,44,45,46]) .skip)))))))) (.seq (.seq (.reg [o 48 (.load false 1 (.t 6)),o 49 (.load true 2 (.t 3)),o 50 (.look ⟨true,[.ks,.ks]⟩ (.i .i64 (.l 0)) true (.t 48) (.t 49)),o 47 (.mv (.t 50)),o 51 (.ext (.t 47) 0),o 52 (.ext (.t 47) 1),o 14 (.mv (.t 51)),o 15 (.mv (.t 52))] [6,47,48,49,50,51,52]) (.seq (.reg [o 53 (.mv (.t 15))] [15]) (.cond (.t 53) (.seq (.reg [o 54 (.mv (.t 14)),o 4 (.mv (.t 54)),o 5 (.mv (.c .tt))] [14,54]) .ret) .skip))) (.seq (.reg [o 55 (.load false 1 (.t 7)),o 56 (.fad 0 (.t 3)),o 57 (.load false 1 (.t 56)),o 58 (.look ⟨false,[.ks]⟩ (.i .i64 (.l 0)) false (.t 55) (.t 57)),o 4 (.mv (.t 58)),o 5 (.mv (.c .ff))] [3,7,55,56,57,58]) .ret)))))
theorem qtd : FnIs Tryd.prog 34 59 [.t 4, .t 5] table_Find :=
  ⟨Tryd.f34, _, qsq, Tryd.func34, rfl, rfl, by kernel_rfl, by kernel_rfl, Tryd.call34⟩
def qso : Nat → List Nat := kk [[0,1,4],[2,3,5,6,7,8,9,10,11,12,13,14,15,16]]
def table_Same : IR :=
 (.seq (.reg [o 2 (.box (.t 0)),o 3 (.box (.t 1)),o 4 (.mv (.c .ff))] [0,1,4]) (.seq (.reg [o 5 (.fad 0 (.t 2)),o 6 (.load false 1 (.t 5)),o 7 (.fad 0 (.t 3)),o 8 (.load false 1 (.t 7)),o 9 (.bin .eq (.t 6) (.t 8)),o 10 (.mv (.t 9)),q 11 (.fad 1 (.t 2)) 10 true,q 12 (.load false 1 (.t 11)) 10 true,q 13 (.fad 1 (.t 3)) 10 true,q 14 (.load false 1 (.t 13)) 10 true,q 15 (f 60 [(.t 12),(.t 14)]) 10 true,o 16 (.pick (.t 10) (.t 15) (.c .ff)),o 4 (.mv (.t 16))] [2,3,5,6,7,8,9,10,11,12,13,14,15,16]) .ret))
theorem qtb : FnIs Tryd.prog 36 17 [.t 4] table_Same :=
  ⟨Tryd.f36, _, qso, Tryd.func36, rfl, rfl, by kernel_rfl, by kernel_rfl, Tryd.call36⟩
def qgz : Nat → List Nat := kk [[4],[6,7,8,9],[],[],[11,12,13],[15,16],[17,18,19,20,21,22,23,24]]
def qez : List Nat := [2,3,4,6,7,8,9,10,11,12,13,14,15,16,17,18,19,20,21,22,23,24,25]
def qfh : List (Nat × List Nat) := [(0,[]),(1,[]),(2,[]),(3,[]),(4,[]),(5,[]),(6,[]),(7,[]),(8,[])]
def qkh : IR :=
 (.seq (.reg [o 4 (.mv (.c .ff))] [4]) (.seq (.seq (.reg [o 6 (.mv (.t 0)),o 7 (.len false (.t 6)),o 8 (.mv (.t 1)),o 9 (.len false (.t 8)),o 10 (.bin .ne (.t 7) (.t 9))] [6,7,8,9]) (.cond (.t 10) (.seq (.reg [o 4 (.mv (.c .ff))] []) .ret) .skip)) (.seq (.seq (.reg [o 5 (.mv (z 0))] []) (.block 0 (.loop (.seq (.seq (.reg [o 11 (.mv (.t 5)),o 12 (.mv (.t 0)),o 13 (.len false (.t 12)),o 14 (.bin .lt (.t 11) (.t 13))] [11,12,13]) (.cond (.t 14) .skip (.exit 0))) (.seq (.block 1 (.seq (.draw [o 17 (.mv (.t 0)),o 18 (.mv (.t 5)),o 19 (.iadS 2 (.t 17) (.t 18)),o 20 (.load true 2 (.t 19)),o 21 (.mv (.t 1)),o 22 (.mv (.t 5)),o 23 (.iadS 2 (.t 21) (.t 22)),o 24 (.load true 2 (.t 23)),o 25 (.eqA ⟨true,[.ks,.ks]⟩ true (.t 20) (.t 24))] [[],[],[0,1],[2],[],[],[4,5],[6],[3,7]] [17,18,19,20,21,22,23,24]) (.cond (.t 25) (.seq (.reg [o 4 (.mv (.c .ff))] []) .ret) .skip))) (.reg [o 15 (.mv (.t 5)),o 16 (.bin .add (.t 15) (z 1)),o 5 (.mv (.t 16))] [15,16])))))) (.seq (.reg [o 4 (.mv (.c .tt))] []) .ret))))
theorem qhe : FnIs Tryd.prog 37 26 [.t 4] qkh :=
  ⟨Tryd.f37, _, qgz, Tryd.func37, rfl, rfl, by kernel_rfl, by kernel_rfl, Tryd.call37⟩
def qhx : Nat → List Nat := kk [[0,4],[1,2,5,6,7,8,9,10,11,12,13,14,15,16]]
def qlu : IR :=
 (.seq (.reg [o 2 (.box (.t 0)),o 4 (.mv (.c .ff))] [0,4]) (.seq (.reg [o 5 (.fad 1 (.t 2)),o 6 (.load false 1 (.t 5)),o 7 (f 15 [(.t 6)]),o 8 (.mv (.t 7)),q 9 (.mv (.t 1)) 8 false,q 10 (f 15 [(.t 9)]) 8 false,o 11 (.pick (.t 8) (.c .tt) (.t 10)),o 12 (.mv (.t 11)),q 13 (.mv (.t 1)) 12 false,q 14 (.len false (.t 13)) 12 false,q 15 (.bin .gt (.t 14) (z 40)) 12 false,o 16 (.pick (.t 12) (.c .tt) (.t 15)),o 4 (.mv (.t 16))] [1,2,5,6,7,8,9,10,11,12,13,14,15,16]) .ret))
theorem qid : FnIs Tryd.prog 38 17 [.t 4] qlu :=
  ⟨Tryd.f38, _, qhx, Tryd.func38, rfl, rfl, by kernel_rfl, by kernel_rfl, Tryd.call38⟩
def qhw : Nat → List Nat := kk [[0],[15],[16],[17,18,19,20,21,22,23,24,25,26],[1,27,28,29,30,31,32,33],[9,10,34,35,36,37,38,39],[40,41,42,43,44,45,46,47],[2,3,4,5,6,7,8,11,12,13,14,48,49,50,51,52,53,54,55,56,57,58,59,60,61,62,63,64,65,66,67,68,69,70,71,72,73,74,75,76,77,78,79,80,81,82,83,84,85,86,87,88,89,90,91,92,93,94,95,96,97,98,99,100,101,102,103,104,105,106,107,108,109]]
def qlt : IR :=
 (.seq (.reg [o 0 (.mv (.c .ff))] [0]) (.seq (.reg [o 15 (.build [(.i .i64 (.l 0)),(.re (.slice none 0 0))] [(0,1,(z 100))]),o 1 (.alloc [(.i .i64 (.l 0)),(.re (.slice none 0 0))]),u (.store 2 (.t 1) (.t 15))] [15]) (.seq (.reg [o 16 (.build [(.s []),(.s [])] [(0,1,(.c (.s [97]))),(1,1,(.c (.s [49])))]),o 2 (.alloc [(.s []),(.s [])]),u (.store 2 (.t 2) (.t 16))] [16]) (.seq (.reg [o 18 (.load true 2 (.t 1)),o 19 (.build [(.s []),(.s [])] [(0,1,(.c (.s [58,109,101,116,104,111,100]))),(1,1,(.c (.s [71,69,84])))]),o 20 (.load true 2 (.t 2)),o 21 (.load true 2 (.t 2)),o 22 (.buildS 2 3 [(.s []),(.s [])] [(0,(.t 19)),(1,(.t 20)),(2,(.t 21))]),o 23 (f 40 [(.t 18),(.t 22)]),o 17 (.mv (.t 23)),o 24 (.ext (.t 17) 0),o 25 (.ext (.t 17) 1),o 26 (.ext (.t 17) 2),o 4 (.alloc [(.i .i64 (.l 0)),(.re (.slice none 0 0))]),o 3 (.mv (.t 24)),u (.store 2 (.t 4) (.t 25)),o 5 (.mv (.t 26))] [17,18,19,20,21,22,23,24,25,26]) (.seq (.reg [o 28 (.load true 2 (.t 1)),o 29 (.build [(.s []),(.s [])] [(0,1,(.c (.s [99,111,111,107,105,101]))),(1,1,(.c (.s [49])))]),o 30 (f 44 [(.t 28),(.t 29)]),o 27 (.mv (.t 30)),o 31 (.ext (.t 27) 0),o 32 (.ext (.t 27) 1),o 33 (.ext (.t 27) 2),o 7 (.alloc [(.i .i64 (.l 0)),(.re (.slice none 0 0))]),o 6 (.mv (.t 31)),u (.store 2 (.t 7) (.t 32)),o 8 (.mv (.t 33))] [1,27,28,29,30,31,32,33]) (.seq (.reg [o 35 (.build [(.i .i64 (.l 0)),(.re (.slice none 0 0))] [(0,1,(z (-1)))]),o 36 (f 40 [(.t 35),(.c (.re (.slice none 0 0)))]),o 34 (.mv (.t 36)),o 37 (.ext (.t 34) 0),o 38 (.ext (.t 34) 1),o 39 (.ext (.t 34) 2),o 10 (.alloc [(.i .i64 (.l 0)),(.re (.slice none 0 0))]),o 9 (.mv (.t 37)),u (.store 2 (.t 10) (.t 38)),o 11 (.mv (.t 39))] [9,10,34,35,36,37,38,39]) (.seq (.reg [o 41 (.load true 2 (.t 4)),o 42 (.load true 2 (.t 2)),o 43 (.buildS 2 1 [(.s []),(.s [])] [(0,(.t 42))]),o 44 (f 42 [(.t 41),(z 0),(.t 43)]),o 40 (.mv (.t 44)),o 45 (.ext (.t 40) 0),o 46 (.ext (.t 40) 1),o 47 (.ext (.t 40) 2),o 13 (.alloc [(.i .i64 (.l 0)),(.re (.slice none 0 0))]),o 12 (.mv (.t 45)),u (.store 2 (.t 13) (.t 46)),o 14 (.mv (.t 47))] [40,41,42,43,44,45,46,47]) (.seq (.reg [o 48 (.mv (.t 3)),o 49 (.buildS 1 7 [(.i .u8 (.l 0))] [(0,(.c (.i .u8 (.l 129)))),(1,(.c (.i .u8 (.l 64)))),(2,(.c (.i .u8 (.l 1)))),(3,(.c (.i .u8 (.l 97)))),(4,(.c (.i .u8 (.l 1)))),(5,(.c (.i .u8 (.l 49)))),(6,(.c (.i .u8 (.l 149))))]),o 50 (f 46 [(.t 48),(.t 49)]),o 51 (.mv (.t 50)),q 52 (.mv (.t 5)) 51 true,q 53 (.bin .eq (.t 52) (z 0)) 51 true,o 54 (.pick (.t 51) (.t 53) (.c .ff)),o 55 (.mv (.t 54)),q 56 (.load true 2 (.t 4)) 55 true,q 57 (.load true 2 (.t 2)) 55 true,q 58 (.buildS 2 1 [(.s []),(.s [])] [(0,(.t 57))]) 55 true,q 59 (.build [(.i .i64 (.l 0)),(.re (.slice none 0 0))] [(0,1,(z 100)),(1,1,(.t 58))]) 55 true,q 60 (f 21 [(.t 56),(.t 59)]) 55 true,o 61 (.pick (.t 55) (.t 60) (.c .ff)),o 62 (.mv (.t 61)),q 63 (.mv (.t 6)) 62 true,q 64 (.buildS 1 3 [(.i .u8 (.l 0))] [(0,(.c (.i .u8 (.l 29)))),(1,(.c (.i .u8 (.l 1)))),(2,(.c (.i .u8 (.l 49))))]) 62 true,q 65 (f 46 [(.t 63),(.t 64)]) 62
 true,o 66 (.pick (.t 62) (.t 65) (.c .ff)),o 67 (.mv (.t 66)),q 68 (.fad 1 (.t 7)) 67 true,q 69 (.load false 1 (.t 68)) 67 true,q 70 (.len false (.t 69)) 67 true,q 71 (.bin .eq (.t 70) (z 0)) 67 true,o 72 (.pick (.t 67) (.t 71) (.c .ff)),o 73 (.mv (.t 72)),q 74 (.mv (.t 8)) 73 true,q 75 (.bin .eq (.t 74) (z 0)) 73 true,o 76 (.pick (.t 73) (.t 75) (.c .ff)),o 77 (.mv (.t 76)),q 78 (.mv (.t 11)) 77 true,q 79 (.bin .eq (.t 78) (z 2)) 77 true,o 80 (.pick (.t 77) (.t 79) (.c .ff)),o 81 (.mv (.t 80)),q 82 (.mv (.t 12)) 81 true,q 83 (.buildS 1 6 [(.i .u8 (.l 0))] [(0,(.c (.i .u8 (.l 32)))),(1,(.c (.i .u8 (.l 0)))),(2,(.c (.i .u8 (.l 1)))),(3,(.c (.i .u8 (.l 97)))),(4,(.c (.i .u8 (.l 1)))),(5,(.c (.i .u8 (.l 49))))]) 81 true,q 84 (f 46 [(.t 82),(.t 83)]) 81 true,o 85 (.pick (.t 81) (.t 84) (.c .ff)),o 86 (.mv (.t 85)),q 87 (.fad 1 (.t 13)) 86 true,q 88 (.load false 1 (.t 87)) 86 true,q 89 (.len false (.t 88)) 86 true,q 90 (.bin .eq (.t 89) (z 0)) 86 true,o 91 (.pick (.t 86) (.t 90) (.c .ff)),o 92 (.mv (.t 91)),q 93 (.fad 0 (.t 13)) 92 true,q 94 (.load false 1 (.t 93)) 92 true,q 95 (.bin .eq (.t 94) (z 0)) 92 true,o 96 (.pick (.t 92) (.t 95) (.c .ff)),o 97 (.mv (.t 96)),q 98 (.mv (.t 14)) 97 true,q 99 (.bin .eq (.t 98) (z 0)) 97 true,o 100 (.pick (.t 97) (.t 99) (.c .ff)),o 101 (.mv (.t 100)),q 102 (.build [(.s []),(.s [])] [(0,1,(.c (.s [99,111,111,107,105,101])))]) 101 true,q 103 (f 43 [(.t 102)]) 101 true,o 104 (.pick (.t 101) (.t 103) (.c .ff)),o 105 (.mv (.t 104)),q 106 (.load true 2 (.t 2)) 105 true,q 107 (f 43 [(.t 106)]) 105 true,q 108 (.not (.t 107)) 105 true,o 109 (.pick (.t 105) (.t 108) (.c .ff)),o 0 (.mv (.t 109))] [2,3,4,5,6,7,8,11,12,13,14,48,49,50,51,52,53,54,55,56,57,58,59,60,61,62,63,64,65,66,67,68,69,70,71,72,73,74,75,76,77,78,79,80,81,82,83,84,85,86,87,88,89,90,91,92,93,94,95,96,97,98,99,100,101,102,103,104,105,106,107,108,109]) .ret))))))))
theorem qic : FnIs Tryd.prog 39 110 [.t 0] qlt :=
  ⟨Tryd.f39, _, qhw, Tryd.func39, rfl, rfl, by kernel_rfl, by kernel_rfl, Tryd.call39⟩
def qsu : Nat → List Nat := kk [[0,6],[9,10,11,12,13,14,15],[16],[18],[1,2,19,20],[22],[23],[4,5,7,8,24,25,26,27],[28,29]]
def qcu : List (Nat × List Nat) := [(0,[]),(1,[0]),(2,[]),(3,[])]
def qdp : List (Nat × List Nat) := [(0,[]),(1,[]),(3,[]),(2,[3]),(4,[3]),(5,[])]
def qdo : List (Nat × List Nat) := [(0,[]),(1,[]),(2,[1]),(3,[]),(4,[])]
def pack_Block : IR :=
 (.seq (.reg [o 2 (.box (.t 0)),o 4 (.alloc [(.re (.slice none 0 0))]),o 5 (.alloc [(.i .i64 (.l 0)),(.re (.slice none 0 0))]),o 6 (.mv (z 0))] [0,6]) (.seq (.seq (.reg [o 10 (.load true 2 (.t 2)),o 11 (.fad 0 (.t 2)),o 12 (.load false 1 (.t 11)),o 13 (f 30 [(.t 10),(.t 12)]),o 9 (.mv (.t 13)),o 14 (.ext (.t 9) 0),o 15 (.ext (.t 9) 1),u (.store 2 (.t 5) (.t 14)),o 6 (.mv (.t 15))] [9,10,11,12,13,14,15]) (.seq (.reg [o 16 (.mv (.t 6)),o 17 (.bin .ne (.t 16) (z 0))] [16]) (.cond (.t 17) (.seq (.draw [o 18 (.load true 2 (.t 5)),u (.store 1 (.t 4) (.c (.re (.slice none 0 0)))),u (.store 2 (.t 5) (.t 18)),o 6 (.mv (z 2))] [[],[],[0,1,0,1],[2,0,1,2]] [18]) .ret) .skip))) (.seq (.seq (.reg [o 19 (.load true 2 (.t 2)),o 20 (.mv (.t 1)),o 21 (f 61 [(.t 19),(.t 20)])] [1,2,19,20]) (.block 0 (.rf (.t 21) [22,23] (.seq (.reg [o 7 (.mv (.t 22))] [22]) (.reg [o 8 (.alloc [(.i .i64 (.l 0)),(.re (.slice none 0 0))]),u (.store 2 (.t 8) (.t 23))] [23])) (.block 1 (.draw [o 24 (.load false 1 (.t 4)),o 25 (.mv (.t 7)),o 26 (.app 1 (.t 24) (.t 25)),o 27 (.load true 2 (.t 8)),u (.store 1 (.t 4) (.t 26)),u (.store 2 (.t 5) (.t 27))] [[],[],[0,1],[],[2,2,0,1,2],[3,4,0,1,2,3,4]] [4,5,7,8,24,25,26,27]))))) (.seq (.draw [o 28 (.load false 1 (.t 4)),o 29 (.load true 2 (.t 5)),u (.store 1 (.t 4) (.t 28)),u (.store 2 (.t 5) (.t 29)),o 6 (.mv (z 0))] [[],[],[0,0],[1,2,0,1,2],[3,0,1,2,3]] [28,29]) .ret))))
theorem qdz : FnIs Tryd.prog 40 30 [.c 4 false 1, .c 5 true 2, .t 6] pack_Block :=
  ⟨Tryd.f40, _, qsu, Tryd.func40, rfl, rfl, by kernel_rfl, by kernel_rfl, Tryd.call40⟩
def qss : Nat → List Nat := kk [[0,6,8],[3,14,15,16,17,18,19],[10,20],[9,22],[1,12,23,24,25,26,27],[2,28,29,30,31,32,33,34],[9,10,11,13,35,36,37,38,39]]
def qmk : List (Nat × List Nat) := [(0,[]),(1,[]),(2,[]),(3,[])]
def qmj : List (Nat × List Nat) := [(0,[]),(1,[]),(3,[]),(4,[]),(2,[3]),(5,[]),(6,[]),(7,[])]
def pack_Sized : IR :=
 (.seq (.reg [o 3 (.box (.t 0)),o 6 (.mv (.c (.re (.slice none 0 0)))),o 7 (.alloc [(.i .i64 (.l 0)),(.re (.slice none 0 0))]),o 8 (.mv (z 0))] [0,6,8]) (.seq (.reg [o 15 (.load true 2 (.t 3)),o 16 (.mv (.t 1)),o 17 (f 30 [(.t 15),(.t 16)]),o 14 (.mv (.t 17)),o 18 (.ext (.t 14) 0),o 19 (.ext (.t 14) 1),o 9 (.alloc [(.i .i64 (.l 0)),(.re (.slice none 0 0))]),u (.store 2 (.t 9) (.t 18)),o 10 (.mv (.t 19))] [3,14,15,16,17,18,19]) (.seq (.seq (.reg [o 20 (.mv (.t 10)),o 21 (.bin .ne (.t 20) (z 0))] [10,20]) (.cond (.t 21) (.seq (.draw [o 22 (.load true 2 (.t 9)),o 6 (.mv (.c (.re (.slice none 0 0)))),u (.store 2 (.t 7) (.t 22)),o 8 (.mv (z 2))] [[],[],[0,1,0,1],[2,0,1,2]] [9,22]) .ret) .skip)) (.seq (.reg [o 24 (.mv (.t 1)),o 25 (f 55 [(.t 24)]),o 23 (.mv (.t 25)),o 26 (.ext (.t 23) 0),o 27 (.ext (.t 23) 1),o 11 (.mv (.t 26)),o 12 (.mv (.t 27))] [1,12,23,24,25,26,27]) (.seq (.reg [o 29 (.load true 2 (.t 9)),o 30 (.mv (.t 2)),o 31 (f 40 [(.t 29),(.t 30)]),o 28 (.mv (.t 31)),o 32 (.ext (.t 28) 0),o 33 (.ext (.t 28) 1),o 34 (.ext (.t 28) 2),o 13 (.mv (.t 32)),u (.store 2 (.t 9) (.t 33)),o 10 (.mv (.t 34))] [2,28,29,30,31,32,33,34]) (.seq (.draw [o 35 (.mv (.t 11)),o 36 (.mv (.t 13)),o 37 (.app 1 (.t 35) (.t 36)),o 38 (.load true 2 (.t 9)),o 39 (.mv (.t 10)),o 6 (.mv (.t 37)),u (.store 2 (.t 7) (.t 38)),o 8 (.mv (.t 39))] [[],[],[0,1],[],[],[2,2,0,1,2],[3,5,0,1,2,3,5],[4,6,0,1,2,3,4,5,6]] [9,10,11,13,35,36,37,38,39]) .ret))))))
theorem qtf : FnIs Tryd.prog 42 40 [.t 6, .c 7 true 2, .t 8] pack_Sized :=
  ⟨Tryd.f42, _, qss, Tryd.func42, rfl, rfl, by kernel_rfl, by kernel_rfl, Tryd.call42⟩
def qqb : Nat → List Nat := kk [[0,2],[1,3,4,5]]
def qxa : IR :=
 (.seq (.reg [o 1 (.box (.t 0)),o 2 (.mv (.c .ff))] [0,2]) (.seq (.reg [o 3 (.fad 0 (.t 1)),o 4 (.load false 1 (.t 3)),o 5 (.bin .eq (.t 4) (.c (.s [99,111,111,107,105,101]))),o 2 (.mv (.t 5))] [1,3,4,5]) .ret))
theorem qqh : FnIs Tryd.prog 43 6 [.t 2] qxa :=
  ⟨Tryd.f43, _, qqb, Tryd.func43, rfl, rfl, by kernel_rfl, by kernel_rfl, Tryd.call43⟩
def qst : Nat → List Nat := kk [[0,1,4,6],[15,16,17,18,19,20,21],[8,22],[7,24],[25,26,27,28,29,30],[31],[10,33],[9,13,34,35,36,37,38],[7,12,39,40],[42,43],[7,11,44,45,46],[48,49,50,51,52],[7,11,53,54,55],[11,56,57],[2,3,58,59,60,61,62,63],[7,14,64,65]]
def qas : List (Nat × List Nat) := [(0,[]),(1,[]),(2,[]),(3,[])]
def qar : List (Nat × List Nat) := [(0,[]),(1,[]),(2,[]),(3,[]),(4,[])]
def qaq : List (Nat × List Nat) := [(0,[]),(2,[]),(1,[2]),(3,[]),(4,[]),(5,[])]
def qap : List (Nat × List Nat) := [(0,[]),(2,[]),(3,[]),(1,[3]),(4,[]),(5,[])]
def qao : List (Nat × List Nat) := [(0,[]),(2,[]),(1,[2]),(3,[]),(4,[]),(5,[])]
def qan : List (Nat × List Nat) := [(0,[]),(1,[]),(2,[]),(3,[]),(4,[])]
def pack_Field : IR :=
 (.seq (.reg [o 2 (.box (.t 0)),o 3 (.box (.t 1)),o 4 (.mv (.c (.re (.slice none 0 0)))),o 5 (.alloc [(.i .i64 (.l 0)),(.re (.slice none 0 0))]),o 6 (.mv (z 0))] [0,1,4,6]) (.seq (.reg [o 16 (.load true 2 (.t 2)),o 17 (.fad 0 (.t 2)),o 18 (.load false 1 (.t 17)),o 19 (f 30 [(.t 16),(.t 18)]),o 15 (.mv (.t 19)),o 20 (.ext (.t 15) 0),o 21 (.ext (.t 15) 1),o 7 (.alloc [(.i .i64 (.l 0)),(.re (.slice none 0 0))]),u (.store 2 (.t 7) (.t 20)),o 8 (.mv (.t 21))] [15,16,17,18,19,20,21]) (.seq (.seq (.reg [o 22 (.mv (.t 8)),o 23 (.bin .ne (.t 22) (z 0))] [8,22]) (.cond (.t 23) (.seq (.draw [o 24 (.load true 2 (.t 7)),o 4 (.mv (.c (.re (.slice none 0 0)))),u (.store 2 (.t 5) (.t 24)),o 6 (.mv (z 2))] [[],[],[0,1,0,1],[2,0,1,2]] [7,24]) .ret) .skip)) (.seq (.reg [o 26 (.load true 2 (.t 2)),o 27 (.load true 2 (.t 3)),o 28 (f 34 [(.t 26),(.t 27)]),o 25 (.mv (.t 28)),o 29 (.ext (.t 25) 0),o 30 (.ext (.t 25) 1),o 9 (.alloc [(.i .i64 (.l 0))]),u (.store 1 (.t 9) (.t 29)),o 10 (.mv (.t 30))] [25,26,27,28,29,30]) (.seq (.reg [o 31 (.mkF (.func 63) [] [(.t 9),(.t 3)]),o 11 (.mv (.t 31))] [31]) (.seq (.block 0 (.seq (.reg [o 33 (.mv (.t 10)),o 32 (.mv (.t 33))] [10,33]) (.cond (.t 32) (.seq (.reg [o 35 (.load false 1 (.t 9)),o 36 (f 53 [(.t 35)]),o 34 (.mv (.t 36)),o 37 (.ext (.t 34) 0),o 38 (.ext (.t 34) 1),o 12 (.mv (.t 37)),o 13 (.mv (.t 38))] [9,13,34,35,36,37,38]) (.seq (.draw [o 39 (.mv (.t 12)),o 40 (.load true 2 (.t 7)),o 4 (.mv (.t 39)),u (.store 2 (.t 5) (.t 40)),o 6 (.mv (z 0))] [[],[],[0,0],[1,2,0,1,2],[3,0,1,2,3]] [7,12,39,40]) .ret)) (.seq (.reg [o 42 (.load true 2 (.t 3)),o 43 (f 43 [(.t 42)]),o 41 (.mv (.t 43))] [42,43]) (.cond (.t 41) (.seq (.draw [o 44 (.mv (.t 11)),o 45 (.call (.t 44) [(z 2)]),o 46 (.load true 2 (.t 7)),o 4 (.mv (.t 45)),u (.store 2 (.t 5) (.t 46)),o 6 (.mv (z 0))] [[],[0],[],[1,1,0,1],[2,3,0,1,2,3],[4,0,1,2,3,4]] [7,11,44,45,46]) .ret) (.seq (.draw [o 48 (.load true 2 (.t 3)),o 49 (f 22 [(.t 48)]),o 50 (.fad 0 (.t 2)),o 51 (.load false 1 (.t 50)),o 52 (.bin .gt (.t 49) (.t 51)),o 47 (.mv (.t 52))] [[],[0],[],[2],[1,3],[4,1]] [48,49,50,51,52]) (.cond (.t 47) (.seq (.draw [o 53 (.mv (.t 11)),o 54 (.call (.t 53) [(z 3)]),o 55 (.load true 2 (.t 7)),o 4 (.mv (.t 54)),u (.store 2 (.t 5) (.t 55)),o 6 (.mv (z 0))] [[],[0],[],[1,1,0,1],[2,3,0,1,2,3],[4,0,1,2,3,4]] [7,11,53,54,55]) .ret) .skip))))))) (.seq (.reg [o 56 (.mv (.t 11)),o 57 (.call (.t 56) [(z 1)]),o 14 (.mv (.t 57))] [11,56,57]) (.seq (.reg [o 59 (.load true 2 (.t 2)),o 60 (.load true 2 (.t 3)),o 61 (f 28 [(.t 59),(.t 60)]),o 58 (.mv (.t 61)),o 62 (.ext (.t 58) 0),o 63 (.ext (.t 58) 1),u (.store 2 (.t 7) (.t 62))] [2,3,58,59,60,61,62,63]) (.seq (.draw [o 64 (.mv (.t 14)),o 65 (.load true 2 (.t 7)),o 4 (.mv (.t 64)),u (.store 2 (.t 5) (.t 65)),o 6 (.mv (z 0))] [[],[],[0,0],[1,2,0,1,2],[3,0,1,2,3]] [7,14,64,65]) .ret)))))))))
theorem qka : FnIs Tryd.prog 44 66 [.t 4, .c 5 true 2, .t 6] pack_Field :=
  ⟨Tryd.f44, _, qst, Tryd.func44, rfl, rfl, by kernel_rfl, by kernel_rfl, Tryd.call44⟩
def qix : Nat → List Nat := kk [[4],[0,1,5,6,7,8,9]]
def qms : IR :=
 (.seq (.reg [o 4 (.mv (.c .ff))] [4]) (.seq (.reg [o 5 (.mv (.t 0)),o 6 (.cvBS (.t 5)),o 7 (.mv (.t 1)),o 8 (.cvBS (.t 7)),o 9 (.bin .eq (.t 6) (.t 8)),o 4 (.mv (.t 9))] [0,1,5,6,7,8,9]) .ret))
theorem qja : FnIs Tryd.prog 46 10 [.t 4] qms :=
  ⟨Tryd.f46, _, qix, Tryd.func46, rfl, rfl, by kernel_rfl, by kernel_rfl, Tryd.call46⟩
def qof : Nat → List Nat := kk [[0,4],[1,6,7,8,9,10,11,12],[2,5,13,14,15,16,17,18,19,20,21]]
def qjr : List (Nat × List Nat) := [(0,[]),(1,[]),(2,[]),(4,[]),(5,[]),(3,[5]),(6,[]),(7,[]),(8,[]),(9,[])]
def qug : IR :=
 (.seq (.reg [o 2 (.box (.t 0)),o 4 (.mv (.c (.re (.slice none 0 0))))] [0,4]) (.seq (.reg [o 8 (.mv (.t 1)),o 9 (f 70 [(.t 8)]),o 10 (f 69 [(z 0),(.t 9)]),o 7 (.mv (.t 10)),o 11 (.ext (.t 7) 0),o 12 (.ext (.t 7) 1),o 5 (.mv (.t 11)),o 6 (.mv (.t 12))] [1,6,7,8,9,10,11,12]) (.seq (.draw [o 13 (.mv (.t 5)),o 14 (.fad 0 (.t 2)),o 15 (.load false 1 (.t 14)),o 16 (f 72 [(.t 15)]),o 17 (.fad 1 (.t 2)),o 18 (.load false 1 (.t 17)),o 19 (f 72 [(.t 18)]),o 20 (.buildS 1 3 [(.re (.slice none 0 0))] [(0,(.t 13)),(1,(.t 16)),(2,(.t 19))]),o 21 (f 71 [(.t 20)]),o 4 (.mv (.t 21))] [[],[],[1],[2],[],[4],[5,3],[0,3,6],[7,6],[8,8,0,1,2,3,4,5,6,7,8]] [2,5,13,14,15,16,17,18,19,20,21]) .ret)))
theorem qot : FnIs Tryd.prog 52 22 [.t 4] qug :=
  ⟨Tryd.f52, _, qof, Tryd.func52, rfl, rfl, by kernel_rfl, by kernel_rfl, Tryd.call52⟩
def qlb : Nat → List Nat := kk [[2,3],[0,4,5,6,7,8]]
def qpm : IR :=
 (.seq (.reg [o 2 (.mv (.c (.re (.slice none 0 0)))),o 3 (.mv (z 0))] [2,3]) (.seq (.reg [o 4 (.mv (.t 0)),o 5 (.build [(.i .i64 (.l 0)),(.i .i64 (.l 0))] [(0,1,(z 128)),(1,1,(z 7))]),o 6 (f 69 [(.t 4),(.t 5)]),o 7 (.ext (.t 6) 0),o 8 (.ext (.t 6) 1),o 2 (.mv (.t 7)),o 3 (.mv (.t 8))] [0,4,5,6,7,8]) .ret))
theorem qlf : FnIs Tryd.prog 53 9 [.t 2, .t 3] qpm :=
  ⟨Tryd.f53, _, qlb, Tryd.func53, rfl, rfl, by kernel_rfl, by kernel_rfl, Tryd.call53⟩
def qoe : Nat → List Nat := kk [[6,7],[2,10,11,12,13,14,15,16],[0,9,17,18,19,20,21],[],[1,8,23,24,25,26]]
def quf : IR :=
 (.seq (.reg [o 6 (.mv (.c (.re (.slice none 0 0)))),o 7 (.mv (z 0))] [6,7]) (.seq (.reg [o 11 (.mv (.t 0)),o 12 (.mv (.t 2)),o 13 (f 70 [(.t 12)]),o 14 (f 69 [(.t 11),(.t 13)]),o 10 (.mv (.t 14)),o 15 (.ext (.t 10) 0),o 16 (.ext (.t 10) 1),o 8 (.mv (.t 15)),o 9 (.mv (.t 16))] [2,10,11,12,13,14,15,16]) (.seq (.seq (.reg [o 17 (.mv (.t 9)),o 18 (.bin .ne (.t 17) (z 0)),o 19 (.mv (.t 18)),q 20 (.mv (.t 0)) 19 false,q 21 (.bin .eq (.t 20) (z 0)) 19 false,o 22 (.pick (.t 19) (.c .tt) (.t 21))] [0,9,17,18,19,20,21]) (.cond (.t 22) (.seq (.reg [o 6 (.mv (.c (.re (.slice none 0 0)))),o 7 (.mv (z 2))] []) .ret) .skip)) (.seq (.reg [o 23 (.mv (.t 8)),o 24 (.mv (.t 1)),o 25 (f 72 [(.t 24)]),o 26 (.app 1 (.t 23) (.t 25)),o 6 (.mv (.t 26)),o 7 (.mv (z 0))] [1,8,23,24,25,26]) .ret))))
theorem qhb : FnIs Tryd.prog 54 27 [.t 6, .t 7] quf :=
  ⟨Tryd.f54, _, qoe, Tryd.func54, rfl, rfl, by kernel_rfl, by kernel_rfl, Tryd.call54⟩
def qod : Nat → List Nat := kk [[2,3],[0,4,5,6,7,8]]
def que : IR :=
 (.seq (.reg [o 2 (.mv (.c (.re (.slice none 0 0)))),o 3 (.mv (z 0))] [2,3]) (.seq (.reg [o 4 (.mv (.t 0)),o 5 (.build [(.i .i64 (.l 0)),(.i .i64 (.l 0))] [(0,1,(z 32)),(1,1,(z 5))]),o 6 (f 69 [(.t 4),(.t 5)]),o 7 (.ext (.t 6) 0),o 8 (.ext (.t 6) 1),o 2 (.mv (.t 7)),o 3 (.mv (.t 8))] [0,4,5,6,7,8]) .ret))
theorem qos : FnIs Tryd.prog 55 9 [.t 2, .t 3] que :=
  ⟨Tryd.f55, _, qod, Tryd.func55, rfl, rfl, by kernel_rfl, by kernel_rfl, Tryd.call55⟩
def qpx : Nat → List Nat := kk [[4,5,6,7],[8,9,10,11,12,13],[14,15,16,17,18],[20,21,22,23,24,25,26,27,28,29],[3,30,31,32,33,34,35,36,37,38]]
def qwp : IR :=
 (.scope (.seq (.reg [o 4 (.mv (.t 0)),o 5 (.nilc (.t 4)),o 6 (.load true 2 (.t 5)),o 7 (f 24 [(.t 6)]),o 2 (.mv (.t 7))] [4,5,6,7]) (.seq (.label 0) (.seq (.reg [o 8 (.mv (.t 0)),o 9 (.nilc (.t 8)),o 10 (.fad 1 (.t 9)),o 11 (.load false 1 (.t 10)),o 12 (.len false (.t 11)),o 13 (.bin .sub (.t 12) (z 1)),o 3 (.mv (.t 13))] [8,9,10,11,12,13]) (.seq (.reg [o 14 (.mv (.t 2)),o 15 (.mv (.t 0)),o 16 (.nilc (.t 15)),o 17 (.fad 0 (.t 16)),o 18 (.load false 1 (.t 17)),o 19 (.bin .gt (.t 14) (.t 18))] [14,15,16,17,18]) (.cond (.t 19) (.seq (.reg [o 20 (.mv (.t 2)),o 21 (.mv (.t 0)),o 22 (.nilc (.t 21)),o 23 (.fad 1 (.t 22)),o 24 (.load false 1 (.t 23)),o 25 (.mv (.t 3)),o 26 (.iadS 2 (.t 24) (.t 25)),o 27 (.load true 2 (.t 26)),o 28 (f 22 [(.t 27)]),o 29 (.bin .sub (.t 20) (.t 28)),o 2 (.mv (.t 29))] [20,21,22,23,24,25,26,27,28,29]) (.seq (.reg [o 30 (.mv (.t 0)),o 31 (.mv (.t 0)),o 32 (.nilc (.t 31)),o 33 (.fad 1 (.t 32)),o 34 (.load false 1 (.t 33)),o 35 (.mv (.t 3)),o 36 (.slc 2 (.t 34) none (some (.t 35)) none),o 37 (.nilc (.t 30)),o 38 (.fad 1 (.t 37)),u (.store 1 (.t 38) (.t 36))] [3,30,31,32,33,34,35,36,37,38]) (.goto 0))) .skip))))))
theorem qqe : FnIs Tryd.prog 56 39 [] qwp :=
  ⟨Tryd.f56, _, qpx, Tryd.func56, rfl, rfl, by kernel_rfl, by kernel_rfl, Tryd.call56⟩
def qel : Nat → List Nat := kk [[2],[3],[],[0,5,6,7]]
def qfv : IR :=
 (.seq (.reg [o 2 (.mv (.c (.re (.slice none 0 0))))] [2]) (.seq (.seq (.reg [o 3 (.mv (.t 0)),o 4 (.nilS false (.t 3))] [3]) (.cond (.t 4) (.seq (.reg [o 2 (.mv (.c (.re (.slice none 0 0))))] []) .ret) .skip)) (.seq (.reg [o 5 (.buildS 2 0 [(.s []),(.s [])] []),o 6 (.mv (.t 0)),o 7 (.app 2 (.t 5) (.t 6)),o 2 (.mv (.t 7))] [0,5,6,7]) .ret)))
theorem qen : FnIs Tryd.prog 58 8 [.t 2] qfv :=
  ⟨Tryd.f58, _, qel, Tryd.func58, rfl, rfl, by kernel_rfl, by kernel_rfl, Tryd.call58⟩
def qoh : Nat → List Nat := kk [[0,2],[1,3]]
def quk : IR :=
 (.seq (.reg [o 1 (.box (.t 0)),o 2 (.mv (.c (.re .nilFunc)))] [0,2]) (.seq (.reg [o 3 (.mkF (.func 73) [] [(.t 1)]),o 2 (.mv (.t 3))] [1,3]) .ret))
theorem qhc : FnIs Tryd.prog 59 4 [.t 2] quk :=
  ⟨Tryd.f59, _, qoh, Tryd.func59, rfl, rfl, by kernel_rfl, by kernel_rfl, Tryd.call59⟩
def qek : Nat → List Nat := kk [[4],[6,7,8,9],[],[11],[],[15],[5,16,17,18,19,20,21,22,23],[],[25]]
def qdk : List Nat := [2,3,4,5,6,7,8,9,10,11,14,15,16,17,18,19,20,21,22,23,24,25]
def qdn : List (Nat × List Nat) := [(0,[]),(1,[]),(2,[]),(3,[]),(4,[]),(5,[]),(6,[]),(7,[]),(8,[])]
def qfu : IR :=
 (.seq (.reg [o 4 (.mv (.c .ff))] [4]) (.seq (.seq (.reg [o 6 (.mv (.t 0)),o 7 (.len false (.t 6)),o 8 (.mv (.t 1)),o 9 (.len false (.t 8)),o 10 (.bin .ne (.t 7) (.t 9))] [6,7,8,9]) (.cond (.t 10) (.seq (.reg [o 4 (.mv (.c .ff))] []) .ret) .skip)) (.seq (.seq (.reg [o 11 (.mv (.t 0)),o 12 (.len false (.t 11)),o 13 (.mv (z 0))] [11]) (.block 0 (.loop (.seq (.reg [o 14 (.bin .lt (.t 13) (.t 12))] []) (.seq (.cond (.t 14) .skip (.exit 0)) (.seq (.block 1 (.seq (.reg [o 15 (.mv (.t 13)),o 5 (.mv (.t 15))] [15]) (.seq (.draw [o 16 (.mv (.t 0)),o 17 (.mv (.t 5)),o 18 (.iadS 2 (.t 16) (.t 17)),o 19 (.load true 2 (.t 18)),o 20 (.mv (.t 1)),o 21 (.mv (.t 5)),o 22 (.iadS 2 (.t 20) (.t 21)),o 23 (.load true 2 (.t 22)),o 24 (.eqA ⟨true,[.ks,.ks]⟩ true (.t 19) (.t 23))] [[],[],[0,1],[2],[],[],[4,5],[6],[3,7]] [5,16,17,18,19,20,21,22,23]) (.cond (.t 24) (.seq (.reg [o 4 (.mv (.c .ff))] []) .ret) .skip)))) (.reg [o 25 (.bin .add (.t 13) (z 1)),o 13 (.mv (.t 25))] [25]))))))) (.seq (.reg [o 4 (.mv (.c .tt))] []) .ret))))
theorem qem : FnIs Tryd.prog 60 26 [.t 4] qfu :=
  ⟨Tryd.f60, _, qek, Tryd.func60, rfl, rfl, by kernel_rfl, by kernel_rfl, Tryd.call60⟩
def qqa : Nat → List Nat := kk [[0,1,4],[2,3,5]]
def qwz : IR :=
 (.seq (.reg [o 2 (.box (.t 0)),o 3 (.box (.t 1)),o 4 (.mv (.c (.re .nilFunc)))] [0,1,4]) (.seq (.reg [o 5 (.mkF (.func 76) [] [(.t 3),(.t 2)]),o 4 (.mv (.t 5))] [2,3,5]) .ret))
theorem qew : FnIs Tryd.prog 61 6 [.t 4] qwz :=
  ⟨Tryd.f61, _, qqa, Tryd.func61, rfl, rfl, by kernel_rfl, by kernel_rfl, Tryd.call61⟩
def qol : Nat → List Nat := kk [[4],[1,7,8,9,10,11,12,13,14],[6,15],[5,17],[0,2,18,19,20]]
def qvd : IR :=
 (.seq (.reg [o 4 (.mv (.c (.re (.slice none 0 0))))] [4]) (.seq (.seq (.reg [o 8 (.load false 1 (.t 1)),o 9 (.fad 1 (.t 2)),o 10 (.load false 1 (.t 9)),o 11 (.mv (.t 0)),o 12 (f 54 [(.t 8),(.t 10),(.t 11)]),o 7 (.mv (.t 12)),o 13 (.ext (.t 7) 0),o 14 (.ext (.t 7) 1),o 5 (.mv (.t 13)),o 6 (.mv (.t 14))] [1,7,8,9,10,11,12,13,14]) (.seq (.reg [o 15 (.mv (.t 6)),o 16 (.bin .eq (.t 15) (z 0))] [6,15]) (.cond (.t 16) (.seq (.reg [o 17 (.mv (.t 5)),o 4 (.mv (.t 17))] [5,17]) .ret) .skip))) (.seq (.reg [o 18 (.load true 2 (.t 2)),o 19 (.mv (.t 0)),o 20 (f 52 [(.t 18),(.t 19)]),o 4 (.mv (.t 20))] [0,2,18,19,20]) .ret)))
theorem qaz : FnIs Tryd.prog 63 21 [.t 4] qvd :=
  ⟨Tryd.f63, _, qol, Tryd.func63, rfl, rfl, by kernel_rfl, by kernel_rfl, Tryd.call63⟩
def qsl : Nat → List Nat := kk [[1,4,5],[0,3,6,7,8,9,10,11,12,13,14]]
def unpack_put : IR :=
 (.seq (.reg [o 3 (.box (.t 1)),o 4 (.mv (.c (.re (.slice none 0 0)))),o 5 (.mv (z 0))] [1,4,5]) (.seq (.reg [o 6 (.mv (.t 0)),o 7 (.iadA 2 1 (.t 3) (z 1)),o 8 (.load false 1 (.t 7)),o 9 (.iadA 2 1 (.t 3) (z 0)),o 10 (.load false 1 (.t 9)),o 11 (.cv .u8 (.t 10)),o 12 (f 85 [(.t 6),(.t 8),(.t 11)]),o 13 (.ext (.t 12) 0),o 14 (.ext (.t 12) 1),o 4 (.mv (.t 13)),o 5 (.mv (.t 14))] [0,3,6,7,8,9,10,11,12,13,14]) .ret))
theorem qda : FnIs Tryd.prog 69 15 [.t 4, .t 5] unpack_put :=
  ⟨Tryd.f69, _, qsl, Tryd.func69, rfl, rfl, by kernel_rfl, by kernel_rfl, Tryd.call69⟩
def qvh : Nat → List Nat := kk [[],[0,5,6,7,8,9,10,11],[4],[3,13],[14]]
def unpack_of : IR :=
 (.seq (.reg [o 2 (.alloc [(.i .i64 (.l 0)),(.i .i64 (.l 0))])] []) (.seq (.seq (.reg [o 6 (f 86 []),o 7 (.mv (.t 0)),o 8 (.build [(.i .i64 (.l 0))] [(0,1,(.t 7))]),o 9 (.look ⟨true,[.ki]⟩ (.ag [(.i .i64 (.l 0)),(.i .i64 (.l 0))]) true (.t 6) (.t 8)),o 5 (.mv (.t 9)),o 10 (.ext (.t 5) 0),o 11 (.ext (.t 5) 1),o 3 (.alloc [(.i .i64 (.l 0)),(.i .i64 (.l 0))]),u (.store 2 (.t 3) (.t 10)),o 4 (.mv (.t 11))] [0,5,6,7,8,9,10,11]) (.seq (.reg [o 12 (.mv (.t 4))] [4]) (.cond (.t 12) (.seq (.reg [o 13 (.load true 2 (.t 3)),u (.store 2 (.t 2) (.t 13))] [3,13]) .ret) .skip))) (.seq (.reg [o 14 (.build [(.i .i64 (.l 0)),(.i .i64 (.l 0))] [(0,1,(z 0)),(1,1,(z 4))]),u (.store 2 (.t 2) (.t 14))] [14]) .ret)))
theorem qvu : FnIs Tryd.prog 70 15 [.c 2 true 2] unpack_of :=
  ⟨Tryd.f70, _, qvh, Tryd.func70, rfl, rfl, by kernel_rfl, by kernel_rfl, Tryd.call70⟩
def qdq : Nat → List Nat := kk [[2],[],[],[],[13,14],[5,15,16,17,18],[19],[21],[22],[3,23,24],[0],[],[29,30],[8,31,32,33],[34],[6,35]]
def qej : IR :=
 (.seq (.reg [o 2 (.mv (.c (.re (.slice none 0 0))))] [2]) (.seq (.reg [o 3 (.mv (z 0))] []) (.seq (.seq (.reg [o 9 (.mv (.t 0)),o 10 (.len false (.t 9)),o 11 (.mv (z 0))] []) (.block 0 (.loop (.seq (.reg [o 12 (.bin .lt (.t 11) (.t 10))] []) (.seq (.cond (.t 12) .skip (.exit 0)) (.seq (.block 1 (.seq (.reg [o 13 (.iadS 1 (.t 9) (.t 11)),o 14 (.load false 1 (.t 13)),o 5 (.mv (.t 14))] [13,14]) (.seq (.reg [o 15 (.mv (.t 3)),o 16 (.mv (.t 5)),o 17 (.len false (.t 16)),o 18 (.bin .add (.t 15) (.t 17)),o 3 (.mv (.t 18))] [5,15,16,17,18]) (.seq (.reg [o 19 (.mv (.t 3)),o 20 (.bin .lt (.t 19) (z 0))] [19]) (.cond (.t 20) (.reg [o 21 .die,u .die] [21]) .skip))))) (.reg [o 22 (.bin .add (.t 11) (z 1)),o 11 (.mv (.t 22))] [22]))))))) (.seq (.reg [o 23 (.mv (.t 3)),o 24 (f 87 [(.c (.re (.slice none 0 0))),(.t 23)]),o 6 (.mv (.t 24))] [3,23,24]) (.seq (.seq (.reg [o 25 (.mv (.t 0)),o 26 (.len false (.t 25)),o 27 (.mv (z 0))] [0]) (.block 2 (.loop (.seq (.reg [o 28 (.bin .lt (.t 27) (.t 26))] []) (.seq (.cond (.t 28) .skip (.exit 2)) (.seq (.block 3 (.seq (.reg [o 29 (.iadS 1 (.t 25) (.t 27)),o 30 (.load false 1 (.t 29)),o 8 (.mv (.t 30))] [29,30]) (.reg [o 31 (.mv (.t 6)),o 32 (.mv (.t 8)),o 33 (.app 1 (.t 31) (.t 32)),o 6 (.mv (.t 33))] [8,31,32,33]))) (.reg [o 34 (.bin .add (.t 27) (z 1)),o 27 (.mv (.t 34))] [34]))))))) (.seq (.reg [o 35 (.mv (.t 6)),o 2 (.mv (.t 35))] [6,35]) .ret))))))
theorem qds : FnIs Tryd.prog 71 36 [.t 2] qej :=
  ⟨Tryd.f71, _, qdq, Tryd.func71, rfl, rfl, by kernel_rfl, by kernel_rfl, Tryd.call71⟩
def qvj : Nat → List Nat := kk [[2],[4],[5,6],[8],[0,3,9,10,11]]
def text_Best : IR :=
 (.seq (.reg [o 2 (.mv (.c (.re (.slice none 0 0))))] [2]) (.seq (.reg [o 4 (f 88 []),o 3 (.mv (.t 4))] [4]) (.seq (.seq (.reg [o 5 (.mv (.t 0)),o 6 (.cvSB (.t 5)),o 7 (f 89 [(.t 6)])] [5,6]) (.cond (.t 7) (.reg [o 8 (f 90 []),o 3 (.mv (.t 8))] [8]) .skip)) (.seq (.reg [o 9 (.mv (.t 0)),o 10 (.mv (.t 3)),o 11 (f 91 [(.t 9),(.t 10)]),o 2 (.mv (.t 11))] [0,3,9,10,11]) .ret))))
theorem qvv : FnIs Tryd.prog 72 12 [.t 2] text_Best :=
  ⟨Tryd.f72, _, qvj, Tryd.func72, rfl, rfl, by kernel_rfl, by kernel_rfl, Tryd.call72⟩
def qlc : Nat → List Nat := kk [[0],[],[],[11],[12,13],[4,7,14,15,16,17,18,19],[2,3,5,6,20,21,22,23,24,25],[1],[],[31,32],[33,34],[9,35,36,37,38],[40]]
def qdj : List Nat := [0,1,4,5,6,7,8,9,10,11,12,13,14,15,16,17,18,19,20,21,22,23,24,25,26,30,31,32,33,34,35,36,37,38,39,40]
def qpn : IR :=
 (.seq (.reg [o 2 (.box (.t 0))] [0]) (.seq (.reg [o 3 (.alloc [(.i .i64 (.l 0))]),u (.store 1 (.t 3) (z 0))] []) (.seq (.seq (.reg [o 10 (f 74 [(.c (.s [58,109,101,116,104,111,100,32,71,69,84,10,58,109,101,116,104,111,100,32,80,79,83,84,10,58,112,97,116,104,32,47,10,58,115,99,104,101,109,101,32,104,116,116,112,10,58,115,99,104,101,109,101,32,104,116,116,112,115,10,58,115,116,97,116,117,115,32,50,48,48,10,58,115,116,97,116,117,115,32,50,48,52,10,58,115,116,97,116,117,115,32,52,48,52,10,58,115,116,97,116,117,115,32,53,48,48,10,97,99,99,101,112,116,10,99,111,110,116,101,110,116,45,108,101,110,103,116,104,10,99,111,110,116,101,110,116,45,116,121,112,101,10,99,111,111,107,105,101,10,100,97,116,101,10,104,111,115,116,10,108,111,99,97,116,105,111,110,10,112,114,105,111,114,105,116,121,10,112,114,105,111,114,105,116,121,32,117,61,49,10,115,101,114,118,101,114,10,117,115,101,114,45,97,103,101,110,116])),(.c (.s [10]))])] []) (.block 0 (.rf (.t 10) [11] (.reg [o 4 (.mv (.t 11))] [11]) (.block 1 (.seq (.reg [o 12 (.load false 1 (.t 3)),o 13 (.bin .add (.t 12) (z 1)),u (.store 1 (.t 3) (.t 13))] [12,13]) (.seq (.reg [o 15 (.mv (.t 4)),o 16 (f 75 [(.t 15),(.c (.s [32]))]),o 14 (.mv (.t 16)),o 17 (.ext (.t 14) 0),o 18 (.ext (.t 14) 1),o 19 (.ext (.t 14) 2),o 5 (.mv (.t 17)),o 6 (.mv (.t 18)),o 7 (.mv (.t 19))] [4,7,14,15,16,17,18,19]) (.seq (.reg [o 20 (.load false 1 (.t 2)),o 21 (.load false 1 (.t 3)),o 22 (.mv (.t 5)),o 23 (.mv (.t 6)),o 24 (.build [(.s []),(.s [])] [(0,1,(.t 22)),(1,1,(.t 23))]),o 25 (.call (.t 20) [(.t 21),(.t 24)]),o 26 (.not (.t 25))] [2,3,5,6,20,21,22,23,24,25]) (.cond (.t 26) .ret .skip)))))))) (.seq (.reg [o 27 (.load false 1 (.t 1)),o 28 (.len false (.t 27)),o 29 (.mv (z 0))] [1]) (.block 2 (.loop (.seq (.reg [o 30 (.bin .lt (.t 29) (.t 28))] []) (.seq (.cond (.t 30) .skip (.exit 2)) (.seq (.block 3 (.seq (.reg [o 31 (.iadS 2 (.t 27) (.t 29)),o 32 (.load true 2 (.t 31)),o 9 (.alloc [(.s []),(.s [])]),u (.store 2 (.t 9) (.t 32))] [31,32]) (.seq (.reg [o 33 (.load false 1 (.t 3)),o 34 (.bin .add (.t 33) (z 1)),u (.store 1 (.t 3) (.t 34))] [33,34]) (.seq (.reg [o 35 (.load false 1 (.t 2)),o 36 (.load false 1 (.t 3)),o 37 (.load true 2 (.t 9)),o 38 (.call (.t 35) [(.t 36),(.t 37)]),o 39 (.not (.t 38))] [9,35,36,37,38]) (.cond (.t 39) .ret .skip))))) (.reg [o 40 (.bin .add (.t 29) (z 1)),o 29 (.mv (.t 40))] [40]))))))))))
theorem qfn : FnIs Tryd.prog 73 41 [] qpn :=
  ⟨Tryd.f73, _, qlc, Tryd.func73, rfl, rfl, by kernel_rfl, by kernel_rfl, Tryd.call73⟩
def qiu : Nat → List Nat := kk [[4],[0,1,5,6,7]]
def qmh : IR :=
 (.seq (.reg [o 4 (.mv (.c (.re .nilFunc)))] [4]) (.seq (.reg [o 5 (.mv (.t 0)),o 6 (.mv (.t 1)),o 7 (f 92 [(.t 5),(.t 6),(z 0)]),o 4 (.mv (.t 7))] [0,1,5,6,7]) .ret))
theorem qeg : FnIs Tryd.prog 74 8 [.t 4] qmh :=
  ⟨Tryd.f74, _, qiu, Tryd.func74, rfl, rfl, by kernel_rfl, by kernel_rfl, Tryd.call74⟩
def qpz : Nat → List Nat := kk [[4,5,6],[0,1,7,8,9,10,11,12]]
def qws : IR :=
 (.seq (.reg [o 4 (.mv (.c (.s []))),o 5 (.mv (.c (.s []))),o 6 (.mv (.c .ff))] [4,5,6]) (.seq (.reg [o 7 (.mv (.t 0)),o 8 (.mv (.t 1)),o 9 (f 93 [(.t 7),(.t 8)]),o 10 (.ext (.t 9) 0),o 11 (.ext (.t 9) 1),o 12 (.ext (.t 9) 2),o 4 (.mv (.t 10)),o 5 (.mv (.t 11)),o 6 (.mv (.t 12))] [0,1,7,8,9,10,11,12]) .ret))
theorem qqg : FnIs Tryd.prog 75 13 [.t 4, .t 5, .t 6] qws :=
  ⟨Tryd.f75, _, qpz, Tryd.func75, rfl, rfl, by kernel_rfl, by kernel_rfl, Tryd.call75⟩
def qmn : Nat → List Nat := kk [[1],[],[11,12],[6],[5,13,14,15,16,17,18,19],[6,20,21,22,23],[25]]
def qdw : List Nat := [1,3,4,5,6,10,11,12,13,14,15,16,17,18,19,20,21,22,23,24,25]
def qsf : IR :=
 (.seq (.reg [o 7 (.load false 1 (.t 1)),o 8 (.len false (.t 7)),o 9 (.mv (z 0))] [1]) (.block 0 (.loop (.seq (.reg [o 10 (.bin .lt (.t 9) (.t 8))] []) (.seq (.cond (.t 10) .skip (.exit 0)) (.seq (.block 1 (.seq (.reg [o 11 (.iadS 2 (.t 7) (.t 9)),o 12 (.load true 2 (.t 11)),o 5 (.alloc [(.s []),(.s [])]),u (.store 2 (.t 5) (.t 12))] [11,12]) (.seq (.reg [o 6 (.mv (.c (.re (.slice none 0 0))))] [6]) (.seq (.reg [o 14 (.load true 2 (.t 2)),o 15 (.load true 2 (.t 5)),o 16 (f 44 [(.t 14),(.t 15)]),o 13 (.mv (.t 16)),o 17 (.ext (.t 13) 0),o 18 (.ext (.t 13) 1),o 19 (.ext (.t 13) 2),o 6 (.mv (.t 17)),u (.store 2 (.t 2) (.t 18))] [5,13,14,15,16,17,18,19]) (.seq (.reg [o 20 (.mv (.t 0)),o 21 (.mv (.t 6)),o 22 (.load true 2 (.t 2)),o 23 (.call (.t 20) [(.t 21),(.t 22)]),o 24 (.not (.t 23))] [6,20,21,22,23]) (.cond (.t 24) .ret .skip)))))) (.reg [o 25 (.bin .add (.t 9) (z 1)),o 9 (.mv (.t 25))] [25])))))))
theorem qdt : FnIs Tryd.prog 76 26 [] qsf :=
  ⟨Tryd.f76, _, qmn, Tryd.func76, rfl, rfl, by kernel_rfl, by kernel_rfl, Tryd.call76⟩
def qsr : Nat → List Nat := kk [[],[11,12,13,14,15,16,17,18,19,20,21],[],[1,23,24,25],[2,26,27,28,29],[30,31],[0,9,33,34,35,36,37],[9,38,39,40,41,42,43,44],[0,8,45,46,47,48],[50],[6,10,51,52,53,54],[55]]
def prefix_Put : IR :=
 (.seq (.reg [o 6 (.alloc [(.re (.slice none 0 0))]),o 7 (.mv (z 0))] []) (.seq (.seq (.reg [o 11 (.mv (.t 1)),o 12 (f 98 [(.t 11)]),o 13 (.not (.t 12)),o 14 (.mv (.t 13)),q 15 (.mv (.t 0)) 14 false,q 16 (.bin .lt (.t 15) (z 0)) 14 false,o 17 (.pick (.t 14) (.c .tt) (.t 16)),o 18 (.mv (.t 17)),q 19 (.mv (.t 0)) 18 false,q 20 (.bin .shr (.t 19) (.c (.i .u64 (.l 31)))) 18 false,q 21 (.bin .ne (.t 20) (z 0)) 18 false,o 22 (.pick (.t 18) (.c .tt) (.t 21))] [11,12,13,14,15,16,17,18,19,20,21]) (.cond (.t 22) (.seq (.reg [u (.store 1 (.t 6) (.c (.re (.slice none 0 0)))),o 7 (.mv (z 2))] []) .ret) .skip)) (.seq (.reg [o 23 (.mv (.t 1)),o 24 (.bin .shl (z 1) (.t 23)),o 25 (.bin .sub (.t 24) (z 1)),o 8 (.mv (.t 25))] [1,23,24,25]) (.seq (.reg [o 26 (.mv (.t 2)),o 27 (.mv (.t 8)),o 28 (.cv .u8 (.t 27)),o 29 (.bin .andn (.t 26) (.t 28)),o 9 (.mv (.t 29))] [2,26,27,28,29]) (.seq (.seq (.reg [o 30 (.mv (.t 0)),o 31 (.mv (.t 8)),o 32 (.bin .lt (.t 30) (.t 31))] [30,31]) (.cond (.t 32) (.seq (.reg [o 33 (.mv (.t 9)),o 34 (.mv (.t 0)),o 35 (.cv .u8 (.t 34)),o 36 (.bin .or (.t 33) (.t 35)),o 37 (.buildS 1 1 [(.i .u8 (.l 0))] [(0,(.t 36))]),u (.store 1 (.t 6) (.t 37)),o 7 (.mv (z 0))] [0,9,33,34,35,36,37]) .ret) .skip)) (.seq (.reg [o 38 (.load false 1 (.t 6)),o 39 (.mv (.t 9)),o 40 (.mv (.t 8)),o 41 (.cv .u8 (.t 40)),o 42 (.bin .or (.t 39) (.t 41)),o 43 (.buildS 1 1 [(.i .u8 (.l 0))] [(0,(.t 42))]),o 44 (.app 1 (.t 38) (.t 43)),u (.store 1 (.t 6) (.t 44))] [9,38,39,40,41,42,43,44]) (.seq (.seq (.reg [o 45 (.mv (.t 0)),o 46 (.mv (.t 8)),o 47 (.bin .sub (.t 45) (.t 46)),o 48 (.cv .u32 (.t 47)),o 49 (f 99 [(.t 48)])] [0,8,45,46,47,48]) (.block 0 (.rf (.t 49) [50] (.reg [o 10 (.mv (.t 50))] [50]) (.block 1 (.reg [o 51 (.load false 1 (.t 6)),o 52 (.mv (.t 10)),o 53 (.buildS 1 1 [(.i .u8 (.l 0))] [(0,(.t 52))]),o 54 (.app 1 (.t 51) (.t 53)),u (.store 1 (.t 6) (.t 54))] [6,10,51,52,53,54]))))) (.seq (.reg [o 55 (.load false 1 (.t 6)),u (.store 1 (.t 6) (.t 55)),o 7 (.mv (z 0))] [55]) .ret))))))))
theorem qte : FnIs Tryd.prog 85 56 [.c 6 false 1, .t 7] prefix_Put :=
  ⟨Tryd.f85, _, qsr, Tryd.func85, rfl, rfl, by kernel_rfl, by kernel_rfl, Tryd.call85⟩
def qpu : Nat → List Nat := kk [[0],[1,2,3,4,5,6]]
def qkq : Spl := (.node 3 6
  (.leaf [(1,[]),(2,[]),(4,[]),(5,[]),(0,[]),(3,[]),(6,[]),(7,[]),(8,[])])
  (.leaf [(1,[]),(2,[]),(4,[]),(5,[]),(0,[]),(6,[]),(3,[]),(7,[]),(8,[])]))
def qwl : IR :=
 (.seq (.reg [o 0 (.mv (.c (.re (.map none))))] [0]) (.seq (.draw [o 1 .mkM,o 2 (.build [(.i .i64 (.l 0))] [(0,1,(z 1))]),o 3 (.build [(.i .i64 (.l 0)),(.i .i64 (.l 0))] [(0,1,(z 64)),(1,1,(z 6))]),u (.mupd ⟨true,[.ki]⟩ (.t 1) (.t 2) (.t 3)),o 4 (.build [(.i .i64 (.l 0))] [(0,1,(z 2))]),o 5 (.build [(.i .i64 (.l 0)),(.i .i64 (.l 0))] [(0,1,(z 16)),(1,1,(z 4))]),u (.mupd ⟨true,[.ki]⟩ (.t 1) (.t 4) (.t 5)),o 6 (.mv (.t 1)),o 0 (.mv (.t 6))] [[],[],[],[0,1,2],[],[],[0,4,5],[0,1,2,3,4,5,6],[7,0,1,2,3,4,5,6,7]] [1,2,3,4,5,6]) .ret))
theorem qqc : FnIs Tryd.prog 86 7 [.t 0] qwl :=
  ⟨Tryd.f86, _, qpu, Tryd.func86, rfl, rfl, by kernel_rfl, by kernel_rfl, Tryd.call86⟩
def qee : Nat → List Nat := kk [[4],[5],[7],[8,9,10,11,12,13,14],[15],[1,17,18,19,20,21,22,23,24,25],[0,26]]
def qfc : IR :=
 (.seq (.reg [o 4 (.mv (.c (.re (.slice none 0 0))))] [4]) (.seq (.seq (.reg [o 5 (.mv (.t 1)),o 6 (.bin .lt (.t 5) (z 0))] [5]) (.cond (.t 6) (.reg [o 7 .die,u .die] [7]) .skip)) (.seq (.seq (.reg [o 8 (.mv (.t 1)),o 9 (.mv (.t 0)),o 10 (.capS (.t 9)),o 11 (.mv (.t 0)),o 12 (.len false (.t 11)),o 13 (.bin .sub (.t 10) (.t 12)),o 14 (.bin .sub (.t 8) (.t 13)),o 1 (.mv (.t 14))] [8,9,10,11,12,13,14]) (.seq (.reg [o 15 (.mv (.t 1)),o 16 (.bin .gt (.t 15) (z 0))] [15]) (.cond (.t 16) (.reg [o 17 (.mv (.t 0)),o 18 (.mv (.t 0)),o 19 (.capS (.t 18)),o 20 (.slc 1 (.t 17) none (some (.t 19)) none),o 21 (.mv (.t 1)),o 22 (.appZ 1 [(.i .u8 (.l 0))] (.t 20) (.t 21)),o 23 (.mv (.t 0)),o 24 (.len false (.t 23)),o 25 (.slc 1 (.t 22) none (some (.t 24)) none),o 0 (.mv (.t 25))] [1,17,18,19,20,21,22,23,24,25]) .skip))) (.seq (.reg [o 26 (.mv (.t 0)),o 4 (.mv (.t 26))] [0,26]) .ret))))
theorem qeh : FnIs Tryd.prog 87 27 [.t 4] qfc :=
  ⟨Tryd.f87, _, qee, Tryd.func87, rfl, rfl, by kernel_rfl, by kernel_rfl, Tryd.call87⟩
def qsm : Nat → List Nat := kk [[0]]
def text_plain : IR :=
 (.seq (.reg [o 0 (.mv (.c (.re .nilFunc)))] [0]) (.seq (.reg [o 0 (.mv (.c (.fn (.func 100) [] [])))] []) .ret))
theorem qsz : FnIs Tryd.prog 88 1 [.t 0] text_plain :=
  ⟨Tryd.f88, _, qsm, Tryd.func88, rfl, rfl, by kernel_rfl, by kernel_rfl, Tryd.call88⟩
def qon : Nat → List Nat := kk [[2],[0,3,4,5,6,7,8,9]]
def qvo : IR :=
 (.seq (.reg [o 2 (.mv (.c .ff))] [2]) (.seq (.reg [o 3 (.mv (.t 0)),o 4 (f 101 [(.t 3)]),o 5 (.bin .add (.t 4) (z 7)),o 6 (.bin .shr (.t 5) (.c (.i .u64 (.l 3)))),o 7 (.mv (.t 0)),o 8 (.len false (.t 7)),o 9 (.bin .lt (.t 6) (.t 8)),o 2 (.mv (.t 9))] [0,3,4,5,6,7,8,9]) .ret))
theorem qoz : FnIs Tryd.prog 89 10 [.t 2] qvo :=
  ⟨Tryd.f89, _, qon, Tryd.func89, rfl, rfl, by kernel_rfl, by kernel_rfl, Tryd.call89⟩
def qpw : Nat → List Nat := kk [[0]]
def qwn : IR :=
 (.seq (.reg [o 0 (.mv (.c (.re .nilFunc)))] [0]) (.seq (.reg [o 0 (.mv (.c (.fn (.func 102) [] [])))] []) .ret))
theorem qqd : FnIs Tryd.prog 90 1 [.t 0] qwn :=
  ⟨Tryd.f90, _, qpw, Tryd.func90, rfl, rfl, by kernel_rfl, by kernel_rfl, Tryd.call90⟩
def qxc : Nat → List Nat := kk [[],[0,1,6,7],[9],[4,5,10,11,12],[13]]
def text_all : IR :=
 (.seq (.reg [o 4 (.alloc [(.re (.slice none 0 0))])] []) (.seq (.seq (.reg [o 6 (.mv (.t 0)),o 7 (.mv (.t 1)),o 8 (f 104 [(.t 6),(.t 7)])] [0,1,6,7]) (.block 0 (.rf (.t 8) [9] (.reg [o 5 (.mv (.t 9))] [9]) (.block 1 (.reg [o 10 (.load false 1 (.t 4)),o 11 (.mv (.t 5)),o 12 (.app 1 (.t 10) (.t 11)),u (.store 1 (.t 4) (.t 12))] [4,5,10,11,12]))))) (.seq (.reg [o 13 (.load false 1 (.t 4)),u (.store 1 (.t 4) (.t 13))] [13]) .ret)))
theorem qov : FnIs Tryd.prog 91 14 [.c 4 false 1] text_all :=
  ⟨Tryd.f91, _, qxc, Tryd.func91, rfl, rfl, by kernel_rfl, by kernel_rfl, Tryd.call91⟩
def qit : Nat → List Nat := kk [[0,1,2,6],[3,4,5,7]]
def qmg : IR :=
 (.seq (.reg [o 3 (.box (.t 0)),o 4 (.box (.t 1)),o 5 (.box (.t 2)),o 6 (.mv (.c (.re .nilFunc)))] [0,1,2,6]) (.seq (.reg [o 7 (.mkF (.func 105) [] [(.t 4),(.t 3),(.t 5)]),o 6 (.mv (.t 7))] [3,4,5,7]) .ret))
theorem qef : FnIs Tryd.prog 92 8 [.t 6] qmg :=
  ⟨Tryd.f92, _, qit, Tryd.func92, rfl, rfl, by kernel_rfl, by kernel_rfl, Tryd.call92⟩
def qju : Nat → List Nat := kk [[4,5,6],[8,9,10],[11],[0,1,7,13,14,15,16,17,18,19,20,21],[0,22]]
def qgw : List (Nat × List Nat) := [(0,[]),(1,[]),(2,[]),(3,[]),(4,[]),(5,[]),(6,[]),(7,[]),(8,[]),(9,[]),(10,[]),(11,[])]
def qnk : IR :=
 (.seq (.reg [o 4 (.mv (.c (.s []))),o 5 (.mv (.c (.s []))),o 6 (.mv (.c .ff))] [4,5,6]) (.seq (.seq (.reg [o 8 (.mv (.t 0)),o 9 (.mv (.t 1)),o 10 (f 108 [(.t 8),(.t 9)]),o 7 (.mv (.t 10))] [8,9,10]) (.seq (.reg [o 11 (.mv (.t 7)),o 12 (.bin .ge (.t 11) (z 0))] [11]) (.cond (.t 12) (.seq (.draw [o 13 (.mv (.t 0)),o 14 (.mv (.t 7)),o 15 (.slcS (.t 13) none (some (.t 14))),o 16 (.mv (.t 0)),o 17 (.mv (.t 7)),o 18 (.mv (.t 1)),o 19 (.len true (.t 18)),o 20 (.bin .add (.t 17) (.t 19)),o 21 (.slcS (.t 16) (some (.t 20)) none),o 4 (.mv (.t 15)),o 5 (.mv (.t 21)),o 6 (.mv (.c .tt))] [[],[],[0,1],[],[],[],[5],[4,6],[3,7],[2,0,1,2],[8,9,0,1,2,3,4,5,6,7,8,9],[10,0,1,2,3,4,5,6,7,8,9,10]] [0,1,7,13,14,15,16,17,18,19,20,21]) .ret) .skip))) (.seq (.reg [o 22 (.mv (.t 0)),o 4 (.mv (.t 22)),o 5 (.mv (.c (.s []))),o 6 (.mv (.c .ff))] [0,22]) .ret)))
theorem qjz : FnIs Tryd.prog 93 23 [.t 4, .t 5, .t 6] qnk :=
  ⟨Tryd.f93, _, qju, Tryd.func93, rfl, rfl, by kernel_rfl, by kernel_rfl, Tryd.call93⟩
def qok : Nat → List Nat := kk [[2],[0,3,4,5,6,7,8]]
def qva : IR :=
 (.seq (.reg [o 2 (.mv (.c .ff))] [2]) (.seq (.reg [o 3 (.mv (.t 0)),o 4 (.bin .gt (.t 3) (z 0)),o 5 (.mv (.t 4)),q 6 (.mv (.t 0)) 5 true,q 7 (.bin .le (.t 6) (z 8)) 5 true,o 8 (.pick (.t 5) (.t 7) (.c .ff)),o 2 (.mv (.t 8))] [0,3,4,5,6,7,8]) .ret))
theorem qox : FnIs Tryd.prog 98 9 [.t 2] qva :=
  ⟨Tryd.f98, _, qok, Tryd.func98, rfl, rfl, by kernel_rfl, by kernel_rfl, Tryd.call98⟩
def qld : Nat → List Nat := kk [[0,2],[1,3]]
def qpq : IR :=
 (.seq (.reg [o 1 (.box (.t 0)),o 2 (.mv (.c (.re .nilFunc)))] [0,2]) (.seq (.reg [o 3 (.mkF (.func 112) [] [(.t 1)]),o 2 (.mv (.t 3))] [1,3]) .ret))
theorem qlg : FnIs Tryd.prog 99 4 [.t 2] qpq :=
  ⟨Tryd.f99, _, qld, Tryd.func99, rfl, rfl, by kernel_rfl, by kernel_rfl, Tryd.call99⟩
def qog : Nat → List Nat := kk [[2,3],[0,4,5]]
def qui : IR :=
 (.seq (.reg [o 2 (.mv (.c (.i .u8 (.l 0)))),o 3 (.mv (.c (.re (.slice none 0 0))))] [2,3]) (.seq (.reg [o 4 (.mv (.t 0)),o 5 (.cvSB (.t 4)),o 2 (.mv (.c (.i .u8 (.l 0)))),o 3 (.mv (.t 5))] [0,4,5]) .ret))
theorem qou : FnIs Tryd.prog 100 6 [.t 2, .t 3] qui :=
  ⟨Tryd.f100, _, qog, Tryd.func100, rfl, rfl, by kernel_rfl, by kernel_rfl, Tryd.call100⟩
def qvm : Nat → List Nat := kk [[],[6],[0],[],[11,12],[5,13,14,15,16,17,18],[19],[20]]
def qmq : List Nat := [0,1,4,5,6,10,11,12,13,14,15,16,17,18,19,20]
def qvp : IR :=
 (.seq (.reg [o 2 (.mv (z 0))] []) (.seq (.reg [o 6 (f 113 []),o 3 (.alloc (repS 512 [(.i .i64 (.l 0))])),u (.store 512 (.t 3) (.t 6))] [6]) (.seq (.seq (.reg [o 7 (.mv (.t 0)),o 8 (.len false (.t 7)),o 9 (.mv (z 0))] [0]) (.block 0 (.loop (.seq (.reg [o 10 (.bin .lt (.t 9) (.t 8))] []) (.seq (.cond (.t 10) .skip (.exit 0)) (.seq (.block 1 (.seq (.reg [o 11 (.iadS 1 (.t 7) (.t 9)),o 12 (.load false 1 (.t 11)),o 5 (.mv (.t 12))] [11,12]) (.reg [o 13 (.mv (.t 2)),o 14 (.mv (.t 5)),o 15 (.iadA 256 2 (.t 3) (.t 14)),o 16 (.iadA 2 1 (.t 15) (z 1)),o 17 (.load false 1 (.t 16)),o 18 (.bin .add (.t 13) (.t 17)),o 2 (.mv (.t 18))] [5,13,14,15,16,17,18]))) (.reg [o 19 (.bin .add (.t 9) (z 1)),o 9 (.mv (.t 19))] [19]))))))) (.seq (.reg [o 20 (.mv (.t 2)),o 2 (.mv (.t 20))] [20]) .ret))))
theorem qvx : FnIs Tryd.prog 101 21 [.t 2] qvp :=
  ⟨Tryd.f101, _, qvm, Tryd.func101, rfl, rfl, by kernel_rfl, by kernel_rfl, Tryd.call101⟩
def qml : Nat → List Nat := kk [[2,3],[0,4,5,6]]
def qrq : IR :=
 (.seq (.reg [o 2 (.mv (.c (.i .u8 (.l 0)))),o 3 (.mv (.c (.re (.slice none 0 0))))] [2,3]) (.seq (.reg [o 4 (.mv (.t 0)),o 5 (.cvSB (.t 4)),o 6 (f 103 [(.t 5)]),o 2 (.mv (.c (.i .u8 (.l 128)))),o 3 (.mv (.t 6))] [0,4,5,6]) .ret))
theorem qmo : FnIs Tryd.prog 102 7 [.t 2, .t 3] qrq :=
  ⟨Tryd.f102, _, qml, Tryd.func102, rfl, rfl, by kernel_rfl, by kernel_rfl, Tryd.call102⟩
def qxe : Nat → List Nat := kk [[],[],[],[9],[0],[],[14,15],[7,16,17,18,19,20,21,22,23,24,25,26,27,28,29,30,31,32,33],[34],[36,37],[38,39,40,41,42,43,44],[45,46,47,48,49],[50],[51,52],[4,53],[3,8,55,56,57,58,59,60,61,62,63,64,65],[66]]
def qpi : List Nat := [0,1,6,7,8,9,13,14,15,16,17,18,19,20,21,22,23,24,25,26,27,28,29,30,31,32,33,34,35,36,37,38,39,40,41,42,43,44,45,46,47,48,49,50,51,52,53,54,55,56,57,58,59,60,61,62,63,64,65,66]
def qph : List Nat := [0,1,6,7,8,9,13,14,15,16,17,18,19,20,21,22,23,24,25,26,27,28,29,30,31,32,33,34,35,36,37,38,39,40,41,42,43,44,45,46,47,48,49,50,51,52,53,54,55,56,57,58,59,60,61,62,63,64,65,66]
def qps : List (Nat × List Nat) := [(0,[]),(1,[]),(2,[]),(3,[]),(4,[]),(5,[]),(6,[]),(7,[]),(8,[]),(9,[]),(10,[]),(11,[]),(12,[]),(13,[]),(14,[]),(15,[]),(16,[]),(17,[]),(18,[14,15,16]),(19,[])]
def qpr : List (Nat × List Nat) := [(0,[]),(1,[]),(2,[]),(3,[]),(4,[]),(5,[]),(6,[]),(7,[]),(8,[]),(9,[]),(10,[]),(11,[])]
def huff_Put : IR :=
 (.seq (.reg [o 2 (.mv (.c (.re (.slice none 0 0))))] []) (.seq (.reg [o 3 (.mv (.c (.i .u64 (.l 0))))] []) (.seq (.reg [o 4 (.mv (z 0))] []) (.seq (.reg [o 9 (f 113 []),o 5 (.alloc (repS 512 [(.i .i64 (.l 0))])),u (.store 512 (.t 5) (.t 9))] [9]) (.seq (.seq (.reg [o 10 (.mv (.t 0)),o 11 (.len false (.t 10)),o 12 (.mv (z 0))] [0]) (.block 0 (.loop (.seq (.reg [o 13 (.bin .lt (.t 12) (.t 11))] []) (.seq (.cond (.t 13) .skip (.exit 0)) (.seq (.block 1 (.seq (.reg [o 14 (.iadS 1 (.t 10) (.t 12)),o 15 (.load false 1 (.t 14)),o 7 (.mv (.t 15))] [14,15]) (.seq (.draw [o 16 (.mv (.t 3)),o 17 (.mv (.t 7)),o 18 (.iadA 256 2 (.t 5) (.t 17)),o 19 (.iadA 2 1 (.t 18) (z 1)),o 20 (.load false 1 (.t 19)),o 21 (.bin .shl (.t 16) (.t 20)),o 22 (.mv (.t 7)),o 23 (.iadA 256 2 (.t 5) (.t 22)),o 24 (.iadA 2 1 (.t 23) (z 0)),o 25 (.load false 1 (.t 24)),o 26 (.cv .u64 (.t 25)),o 27 (.bin .or (.t 21) (.t 26)),o 28 (.mv (.t 4)),o 29 (.mv (.t 7)),o 30 (.iadA 256 2 (.t 5) (.t 29)),o 31 (.iadA 2 1 (.t 30) (z 1)),o 32 (.load false 1 (.t 31)),o 33 (.bin .add (.t 28) (.t 32)),o 3 (.mv (.t 27)),o 4 (.mv (.t 33))] [[],[],[1],[2],[3],[0,4],[],[6],[7],[8],[9],[5,10],[],[],[13],[14],[15],[12,16],[11,0,1,2,3,4,5,6,7,8,9,10,11],[17,18,0,1,2,3,4,5,6,7,8,9,10,11,12,13,14,15,16,17,18]] [7,16,17,18,19,20,21,22,23,24,25,26,27,28,29,30,31,32,33]) (.seq (.block 2 (.loop (.seq (.seq (.reg [o 34 (.mv (.t 4)),o 35 (.bin .ge (.t 34) (z 8))] [34]) (.cond (.t 35) .skip (.exit 2))) (.block 3 (.seq (.reg [o 36 (.mv (.t 4)),o 37 (.bin .sub (.t 36) (z 8)),o 4 (.mv (.t 37))] [36,37]) (.reg [o 38 (.mv (.t 2)),o 39 (.mv (.t 3)),o 40 (.mv (.t 4)),o 41 (.bin .shr (.t 39) (.t 40)),o 42 (.cv .u8 (.t 41)),o 43 (.buildS 1 1 [(.i .u8 (.l 0))] [(0,(.t 42))]),o 44 (.app 1 (.t 38) (.t 43)),o 2 (.mv (.t 44))] [38,39,40,41,42,43,44])))))) (.reg [o 45 (.mv (.t 3)),o 46 (.mv (.t 4)),o 47 (.bin .shl (.c (.i .u64 (.l 1))) (.t 46)),o 48 (.bin .sub (.t 47) (.c (.i .u64 (.l 1)))),o 49 (.bin .and (.t 45) (.t 48)),o 3 (.mv (.t 49))] [45,46,47,48,49]))))) (.reg [o 50 (.bin .add (.t 12) (z 1)),o 12 (.mv (.t 50))] [50]))))))) (.seq (.seq (.reg [o 51 (.mv (.t 4)),o 52 (.bin .sub (z 8) (.t 51)),o 8 (.mv (.t 52))] [51,52]) (.seq (.reg [o 53 (.mv (.t 4)),o 54 (.bin .gt (.t 53) (z 0))] [4,53]) (.cond (.t 54) (.draw [o 55 (.mv (.t 2)),o 56 (.mv (.t 3)),o 57 (.mv (.t 8)),o 58 (.bin .shl (.t 56) (.t 57)),o 59 (.mv (.t 8)),o 60 (.bin .shl (.c (.i .u64 (.l 1))) (.t 59)),o 61 (.bin .sub (.t 60) (.c (.i .u64 (.l 1)))),o 62 (.bin .or (.t 58) (.t 61)),o 63 (.cv .u8 (.t 62)),o 64 (.buildS 1 1 [(.i .u8 (.l 0))] [(0,(.t 63))]),o 65 (.app 1 (.t 55) (.t 64)),o 2 (.mv (.t 65))] [[],[],[],[1,2],[],[4],[5],[3,6],[7],[8],[0,9],[10,10,0,1,2,3,4,5,6,7,8,9,10]] [3,8,55,56,57,58,59,60,61,62,63,64,65]) .skip))) (.seq (.reg [o 66 (.mv (.t 2)),o 2 (.mv (.t 66))] [66]) .ret)))))))
theorem qxi : FnIs Tryd.prog 103 67 [.t 2] huff_Put :=
  ⟨Tryd.f103, _, qxe, Tryd.func103, rfl, rfl, by kernel_rfl, by kernel_rfl, Tryd.call103⟩
def qvi : Nat → List Nat := kk [[0,1,4],[2,3,5]]
def text_told : IR :=
 (.seq (.reg [o 2 (.box (.t 0)),o 3 (.box (.t 1)),o 4 (.mv (.c (.re .nilFunc)))] [0,1,4]) (.seq (.reg [o 5 (.mkF (.func 114) [] [(.t 3),(.t 2)]),o 4 (.mv (.t 5))] [2,3,5]) .ret))
theorem qmb : FnIs Tryd.prog 104 6 [.t 4] text_told :=
  ⟨Tryd.f104, _, qvi, Tryd.func104, rfl, rfl, by kernel_rfl, by kernel_rfl, Tryd.call104⟩
def qgy : Nat → List Nat := kk [[9,10],[12,13],[5,15,16,17,18,19],[20,21,22,23,24],[6,26,27,28],[29,30,31],[32],[34,35,36,37,38],[8,39,40,41],[7,43,44,45,46,47,48],[0,2,49,50,51]]
def qcr : List Nat := [4,5,6,7,8,9,10,11,12,13,14,15,16,17,18,19,20,21,22,23,24,25,26,27,28,29,30,31,32,33,34,35,36,37,38,39,40,41,42,43,44,45,46,47,48,49,50,51]
def qjj : IR :=
 (.seq (.seq (.reg [o 9 (.load false 1 (.t 1)),o 10 (.len true (.t 9)),o 11 (.bin .eq (.t 10) (z 0))] [9,10]) (.cond (.t 11) (.seq (.block 0 (.loop (.seq (.seq (.reg [o 12 (.load false 1 (.t 2)),o 13 (.len true (.t 12)),o 14 (.bin .gt (.t 13) (z 0))] [12,13]) (.cond (.t 14) .skip (.exit 0))) (.block 1 (.seq (.reg [o 16 (.load false 1 (.t 2)),o 17 (f 106 [(.t 16)]),o 15 (.mv (.t 17)),o 18 (.ext (.t 15) 0),o 19 (.ext (.t 15) 1),o 5 (.mv (.t 18)),o 6 (.mv (.t 19))] [5,15,16,17,18,19]) (.seq (.seq (.reg [o 20 (.mv (.t 0)),o 21 (.load false 1 (.t 2)),o 22 (.mv (.t 6)),o 23 (.slcS (.t 21) none (some (.t 22))),o 24 (.call (.t 20) [(.t 23)]),o 25 (.not (.t 24))] [20,21,22,23,24]) (.cond (.t 25) .ret .skip)) (.reg [o 26 (.load false 1 (.t 2)),o 27 (.mv (.t 6)),o 28 (.slcS (.t 26) (some (.t 27)) none),u (.store 1 (.t 2) (.t 28))] [6,26,27,28]))))))) .ret) .skip)) (.seq (.block 2 (.loop (.block 3 (.seq (.reg [o 29 (.load false 1 (.t 2)),o 30 (.load false 1 (.t 1)),o 31 (f 107 [(.t 29),(.t 30)]),o 7 (.mv (.t 31))] [29,30,31]) (.seq (.seq (.reg [o 32 (.mv (.t 7)),o 33 (.bin .lt (.t 32) (z 0))] [32]) (.cond (.t 33) (.exit 2) .skip)) (.seq (.reg [o 34 (.load false 1 (.t 2)),o 35 (.mv (.t 7)),o 36 (.load false 1 (.t 3)),o 37 (.bin .add (.t 35) (.t 36)),o 38 (.slcS (.t 34) none (some (.t 37))),o 8 (.mv (.t 38))] [34,35,36,37,38]) (.seq (.seq (.reg [o 39 (.mv (.t 0)),o 40 (.mv (.t 8)),o 41 (.call (.t 39) [(.t 40)]),o 42 (.not (.t 41))] [8,39,40,41]) (.cond (.t 42) .ret .skip)) (.reg [o 43 (.load false 1 (.t 2)),o 44 (.mv (.t 7)),o 45 (.load false 1 (.t 1)),o 46 (.len true (.t 45)),o 47 (.bin .add (.t 44) (.t 46)),o 48 (.slcS (.t 43) (some (.t 47)) none),u (.store 1 (.t 2) (.t 48))] [7,43,44,45,46,47,48])))))))) (.reg [o 49 (.mv (.t 0)),o 50 (.load false 1 (.t 2)),o 51 (.call (.t 49) [(.t 50)])] [0,2,49,50,51])))
theorem qdi : FnIs Tryd.prog 105 52 [] qjj :=
  ⟨Tryd.f105, _, qgy, Tryd.func105, rfl, rfl, by kernel_rfl, by kernel_rfl, Tryd.call105⟩
def qmm : Nat → List Nat := kk [[4],[0,1,5,6,7]]
def qrr : IR :=
 (.seq (.reg [o 4 (.mv (z 0))] [4]) (.seq (.reg [o 5 (.mv (.t 0)),o 6 (.mv (.t 1)),o 7 (f 108 [(.t 5),(.t 6)]),o 4 (.mv (.t 7))] [0,1,5,6,7]) .ret))
theorem qmp : FnIs Tryd.prog 107 8 [.t 4] qrr :=
  ⟨Tryd.f107, _, qmm, Tryd.func107, rfl, rfl, by kernel_rfl, by kernel_rfl, Tryd.call107⟩
def qht : Nat → List Nat := kk [[4],[14,15],[17,18,19,20,21,22,23],[],[25,26],[0,1,27,28,29,30],[32,33,34,35],[],[37,38,39,40,41,42,43,44],[0,1,45,46,47],[48,49],[50,51],[],[52,53,54,55,56],[],[57,58],[60,61,62,63],[65,66,67,68,69,70,71],[72],[],[11,74,75,76,77],[78,79,80,81,82,83,84,85,86,87,88,89,90,91,92],[8,94],[95,96],[97,98],[99,100,101,102,103,104,105,106],[0,1,108,109,110,111,112],[113],[8,12,115,116,117],[],[118,119,120,121,122,123,124,125,126,127,128,129,130,131],[0,1,133,134,135,136,137],[138],[],[8,13,140,141,142]]
def qko : IR :=
 (.seq (.reg [o 4 (.mv (z 0))] [4]) (.seq (.reg [o 14 (.mv (.t 1)),o 15 (.len true (.t 14)),o 5 (.mv (.t 15))] [14,15]) (.seq (.block 0 (.seq (.reg [o 17 (.mv (.t 5)),o 18 (.bin .eq (.t 17) (z 0)),o 19 (.mv (.t 18)),q 20 (.mv (.t 1)) 19 false,q 21 (.mv (.t 0)) 19 false,q 22 (.bin .eq (.t 20) (.t 21)) 19 false,o 23 (.pick (.t 19) (.c .tt) (.t 22)),o 16 (.mv (.t 23))] [17,18,19,20,21,22,23]) (.cond (.t 16) (.seq (.reg [o 4 (.mv (z 0))] []) .ret) (.seq (.reg [o 25 (.mv (.t 5)),o 26 (.bin .eq (.t 25) (z 1)),o 24 (.mv (.t 26))] [25,26]) (.cond (.t 24) (.seq (.reg [o 27 (.mv (.t 0)),o 28 (.mv (.t 1)),o 29 (.ixS (.t 28) (z 0)),o 30 (f 116 [(.t 27),(.t 29)]),o 4 (.mv (.t 30))] [0,1,27,28,29,30]) .ret) (.seq (.reg [o 32 (.mv (.t 5)),o 33 (.mv (.t 0)),o 34 (.len true (.t 33)),o 35 (.bin .ge (.t 32) (.t 34)),o 31 (.mv (.t 35))] [32,33,34,35]) (.cond (.t 31) (.seq (.reg [o 4 (.mv (z (-1)))] []) .ret) (.seq (.reg [o 37 (.mv (.t 5)),o 38 (.load false 1 (.c .any)),o 39 (.bin .le (.t 37) (.t 38)),o 40 (.mv (.t 39)),q 41 (.mv (.t 0)) 40 true,q 42 (.len true (.t 41)) 40 true,q 43 (.bin .le (.t 42) (z 64)) 40 true,o 44 (.pick (.t 40) (.t 43) (.c .ff)),o 36 (.mv (.t 44))] [37,38,39,40,41,42,43,44]) (.cond (.t 36) (.seq (.reg [o 45 (.mv (.t 0)),o 46 (.mv (.t 1)),o 47 (f 117 [(.t 45),(.t 46)]),o 4 (.mv (.t 47))] [0,1,45,46,47]) .ret) .skip))))))))) (.seq (.reg [o 48 (.mv (.t 1)),o 49 (.ixS (.t 48) (z 0)),o 6 (.mv (.t 49))] [48,49]) (.seq (.reg [o 50 (.mv (.t 1)),o 51 (.ixS (.t 50) (z 1)),o 7 (.mv (.t 51))] [50,51]) (.seq (.reg [o 8 (.mv (z 0))] []) (.seq (.reg [o 52 (.mv (.t 0)),o 53 (.len true (.t 52)),o 54 (.mv (.t 5)),o 55 (.bin .sub (.t 53) (.t 54)),o 56 (.bin .add (.t 55) (z 1)),o 9 (.mv (.t 56))] [52,53,54,55,56]) (.seq (.reg [o 10 (.mv (z 0))] []) (.seq (.block 1 (.loop (.seq (.seq (.reg [o 57 (.mv (.t 8)),o 58 (.mv (.t 9)),o 59 (.bin .lt (.t 57) (.t 58))] [57,58]) (.cond (.t 59) .skip (.exit 1))) (.block 2 (.seq (.seq (.reg [o 60 (.mv (.t 0)),o 61 (.mv (.t 8)),o 62 (.ixS (.t 60) (.t 61)),o 63 (.mv (.t 6)),o 64 (.bin .ne (.t 62) (.t 63))] [60,61,62,63]) (.cond (.t 64) (.seq (.reg [o 65 (.mv (.t 0)),o 66 (.mv (.t 8)),o 67 (.bin .add (.t 66) (z 1)),o 68 (.mv (.t 9)),o 69 (.slcS (.t 65) (some (.t 67)) (some (.t 68))),o 70 (.mv (.t 6)),o 71 (f 116 [(.t 69),(.t 70)]),o 11 (.mv (.t 71))] [65,66,67,68,69,70,71]) (.seq (.seq (.reg [o 72 (.mv (.t 11)),o 73 (.bin .lt (.t 72) (z 0))] [72]) (.cond (.t 73) (.seq (.reg [o 4 (.mv (z (-1)))] []) .ret) .skip)) (.reg [o 74 (.mv (.t 8)),o 75 (.mv (.t 11)),o 76 (.bin .add (.t 75) (z 1)),o 77 (.bin .add (.t 74) (.t 76)),o 8 (.mv (.t 77))] [11,74,75,76,77]))) .skip)) (.seq (.seq (.reg [o 78 (.mv (.t 0)),o 79 (.mv (.t 8)),o 80 (.bin .add (.t 79) (z 1)),o 81 (.ixS (.t 78) (.t 80)),o 82 (.mv (.t 7)),o 83 (.bin .eq (.t 81) (.t 82)),o 84 (.mv (.t 83)),q 85 (.mv (.t 0)) 84 true,q 86 (.mv (.t 8)) 84 true,q 87 (.mv (.t 8)) 84 true,q 88 (.mv (.t 5)) 84 true,q 89 (.bin .add (.t 87) (.t 88)) 84 true,q 90 (.slcS (.t 85) (some (.t 86)) (some (.t
 89))) 84 true,q 91 (.mv (.t 1)) 84 true,q 92 (.bin .eq (.t 90) (.t 91)) 84 true,o 93 (.pick (.t 84) (.t 92) (.c .ff))] [78,79,80,81,82,83,84,85,86,87,88,89,90,91,92]) (.cond (.t 93) (.seq (.reg [o 94 (.mv (.t 8)),o 4 (.mv (.t 94))] [8,94]) .ret) .skip)) (.seq (.reg [o 95 (.mv (.t 8)),o 96 (.bin .add (.t 95) (z 1)),o 8 (.mv (.t 96))] [95,96]) (.seq (.reg [o 97 (.mv (.t 10)),o 98 (.bin .add (.t 97) (z 1)),o 10 (.mv (.t 98))] [97,98]) (.seq (.reg [o 99 (.mv (.t 5)),o 100 (.load false 1 (.c .any)),o 101 (.bin .le (.t 99) (.t 100)),o 102 (.mv (.t 101)),q 103 (.mv (.t 10)) 102 true,q 104 (.mv (.t 8)) 102 true,q 105 (f 118 [(.t 104)]) 102 true,q 106 (.bin .gt (.t 103) (.t 105)) 102 true,o 107 (.pick (.t 102) (.t 106) (.c .ff))] [99,100,101,102,103,104,105,106]) (.cond (.t 107) (.seq (.reg [o 108 (.mv (.t 0)),o 109 (.mv (.t 8)),o 110 (.slcS (.t 108) (some (.t 109)) none),o 111 (.mv (.t 1)),o 112 (f 117 [(.t 110),(.t 111)]),o 12 (.mv (.t 112))] [0,1,108,109,110,111,112]) (.seq (.seq (.reg [o 113 (.mv (.t 12)),o 114 (.bin .ge (.t 113) (z 0))] [113]) (.cond (.t 114) (.seq (.reg [o 115 (.mv (.t 12)),o 116 (.mv (.t 8)),o 117 (.bin .add (.t 115) (.t 116)),o 4 (.mv (.t 117))] [8,12,115,116,117]) .ret) .skip)) (.seq (.reg [o 4 (.mv (z (-1)))] []) .ret))) (.seq (.reg [o 118 (.mv (.t 5)),o 119 (.load false 1 (.c .any)),o 120 (.bin .gt (.t 118) (.t 119)),o 121 (.mv (.t 120)),q 122 (.mv (.t 10)) 121 true,q 123 (.mv (.t 8)) 121 true,q 124 (.bin .shr (.t 123) (.c (.i .u64 (.l 4)))) 121 true,q 125 (.bin .add (z 4) (.t 124)) 121 true,q 126 (.bin .ge (.t 122) (.t 125)) 121 true,o 127 (.pick (.t 121) (.t 126) (.c .ff)),o 128 (.mv (.t 127)),q 129 (.mv (.t 8)) 128 true,q 130 (.mv (.t 9)) 128 true,q 131 (.bin .lt (.t 129) (.t 130)) 128 true,o 132 (.pick (.t 128) (.t 131) (.c .ff))] [118,119,120,121,122,123,124,125,126,127,128,129,130,131]) (.cond (.t 132) (.seq (.reg [o 133 (.mv (.t 0)),o 134 (.mv (.t 8)),o 135 (.slcS (.t 133) (some (.t 134)) none),o 136 (.mv (.t 1)),o 137 (f 119 [(.t 135),(.t 136)]),o 13 (.mv (.t 137))] [0,1,133,134,135,136,137]) (.seq (.seq (.reg [o 138 (.mv (.t 13)),o 139 (.bin .lt (.t 138) (z 0))] [138]) (.cond (.t 139) (.seq (.reg [o 4 (.mv (z (-1)))] []) .ret) .skip)) (.seq (.reg [o 140 (.mv (.t 8)),o 141 (.mv (.t 13)),o 142 (.bin .add (.t 140) (.t 141)),o 4 (.mv (.t 142))] [8,13,140,141,142]) .ret))) .skip)))))))))))) (.seq (.reg [o 4 (.mv (z (-1)))] []) .ret))))))))))
theorem qhz : FnIs Tryd.prog 108 143 [.t 4] qko :=
  ⟨Tryd.f108, _, qht, Tryd.func108, rfl, rfl, by kernel_rfl, by kernel_rfl, Tryd.call108⟩
def qiv : Nat → List Nat := kk [[3,4],[6,7,8,9,10],[12,13],[0,1,14,15,16,17]]
def qgi : List Nat := [2,3,4,5,6,7,8,9,10,11,12,13,14,15,16,17]
def qmi : IR :=
 (.seq (.block 0 (.loop (.seq (.seq (.reg [o 3 (.load false 1 (.t 1)),o 4 (.bin .shr (.t 3) (.c (.i .u64 (.l 7)))),o 5 (.bin .ne (.t 4) (.c (.i .u32 (.l 0))))] [3,4]) (.cond (.t 5) .skip (.exit 0))) (.block 1 (.seq (.seq (.reg [o 6 (.mv (.t 0)),o 7 (.load false 1 (.t 1)),o 8 (.cv .u8 (.t 7)),o 9 (.bin .or (.t 8) (.c (.i .u8 (.l 128)))),o 10 (.call (.t 6) [(.t 9)]),o 11 (.not (.t 10))] [6,7,8,9,10]) (.cond (.t 11) .ret .skip)) (.reg [o 12 (.load false 1 (.t 1)),o 13 (.bin .shr (.t 12) (.c (.i .u64 (.l 7)))),u (.store 1 (.t 1) (.t 13))] [12,13])))))) (.reg [o 14 (.mv (.t 0)),o 15 (.load false 1 (.t 1)),o 16 (.cv .u8 (.t 15)),o 17 (.call (.t 14) [(.t 16)])] [0,1,14,15,16,17]))
theorem qiy : FnIs Tryd.prog 112 18 [] qmi :=
  ⟨Tryd.f112, _, qiv, Tryd.func112, rfl, rfl, by kernel_rfl, by kernel_rfl, Tryd.call112⟩
def qsv : Nat → List Nat := kk [[],[],[4],[5],[0,1,2,6,7,8],[9]]
def qrb : IR :=
 (.seq (.reg [o 0 (.alloc (repS 512 [(.i .i64 (.l 0))]))] []) (.seq (.seq (.reg [o 3 (f 123 [])] []) (.block 0 (.rf (.t 3) [4,5] (.seq (.reg [o 1 (.mv (.t 4))] [4]) (.reg [o 2 (.alloc [(.i .i64 (.l 0)),(.i .i64 (.l 0))]),u (.store 2 (.t 2) (.t 5))] [5])) (.block 1 (.reg [o 6 (.mv (.t 1)),o 7 (.load true 2 (.t 2)),o 8 (.iadA 256 2 (.t 0) (.t 6)),u (.store 2 (.t 8) (.t 7))] [0,1,2,6,7,8]))))) (.seq (.reg [o 9 (.load true 512 (.t 0)),u (.store 512 (.t 0) (.t 9))] [9]) .ret)))
theorem qtg : FnIs Tryd.prog 113 10 [.c 0 true 512] qrb :=
  ⟨Tryd.f113, _, qsv, Tryd.func113, rfl, rfl, by kernel_rfl, by kernel_rfl, Tryd.call113⟩
def qpv : Nat → List Nat := kk [[1,2,8,9,10,11,12,13],[4,14,15,16,17,18,19,20],[6,7,21,22,23,24,25,26],[0,5,28,29,30]]
def qwm : IR :=
 (.seq (.reg [o 9 (.load false 1 (.t 1)),o 10 (.load false 1 (.t 2)),o 11 (.call (.t 9) [(.t 10)]),o 8 (.mv (.t 11)),o 12 (.ext (.t 8) 0),o 13 (.ext (.t 8) 1),o 4 (.mv (.t 12)),o 5 (.mv (.t 13))] [1,2,8,9,10,11,12,13]) (.seq (.reg [o 15 (.mv (.t 5)),o 16 (.len false (.t 15)),o 17 (.mv (.t 4)),o 18 (f 85 [(.t 16),(z 7),(.t 17)]),o 14 (.mv (.t 18)),o 19 (.ext (.t 14) 0),o 20 (.ext (.t 14) 1),o 6 (.mv (.t 19)),o 7 (.mv (.t 20))] [4,14,15,16,17,18,19,20]) (.seq (.reg [o 21 (.mv (.t 7)),o 22 (.bin .eq (.t 21) (z 0)),o 23 (.mv (.t 22)),q 24 (.mv (.t 0)) 23 true,q 25 (.mv (.t 6)) 23 true,q 26 (.call (.t 24) [(.t 25)]) 23 true,o 27 (.pick (.t 23) (.t 26) (.c .ff))] [6,7,21,22,23,24,25,26]) (.cond (.t 27) (.reg [o 28 (.mv (.t 0)),o 29 (.mv (.t 5)),o 30 (.call (.t 28) [(.t 29)])] [0,5,28,29,30]) .skip))))
theorem qil : FnIs Tryd.prog 114 31 [] qwm :=
  ⟨Tryd.f114, _, qpv, Tryd.func114, rfl, rfl, by kernel_rfl, by kernel_rfl, Tryd.call114⟩
def qfl : Nat → List Nat := kk [[4],[0,1,5,6,7]]
def qgs : IR :=
 (.seq (.reg [o 4 (.mv (z 0))] [4]) (.seq (.reg [o 5 (.mv (.t 0)),o 6 (.mv (.t 1)),o 7 (f 124 [(.t 5),(.t 6)]),o 4 (.mv (.t 7))] [0,1,5,6,7]) .ret))
theorem qcz : FnIs Tryd.prog 116 8 [.t 4] qgs :=
  ⟨Tryd.f116, _, qfl, Tryd.func116, rfl, rfl, by kernel_rfl, by kernel_rfl, Tryd.call116⟩
def qsw : Nat → List Nat := kk [[0]]
def huff_bytes : IR :=
 (.seq (.reg [o 0 (.mv (.c (.re .nilFunc)))] [0]) (.seq (.reg [o 0 (.mv (.c (.fn (.func 130) [] [])))] []) .ret))
theorem qth : FnIs Tryd.prog 123 1 [.t 0] huff_bytes :=
  ⟨Tryd.f123, _, qsw, Tryd.func123, rfl, rfl, by kernel_rfl, by kernel_rfl, Tryd.call123⟩
def qom : Nat → List Nat := kk [[8,9],[],[],[12],[],[],[],[16,17],[6,18,19,20,21],[5,23,24],[25],[26,27,28],[29,30,31,32],[3,4,7,33,34,35,36,37,38,39],[41]]
def qjc : List Nat := [1,3,4,5,6,7,8,9,11,12,13,14,15,16,17,18,19,20,21,22,23,24,25,26,27,28,29,30,31,32,33,34,35,36,37,38,39,40,41]
def qvn : IR :=
 (.seq (.reg [o 8 .mkM,u (.mupd ⟨false,[.ki]⟩ (.t 8) (z 5) (z 0)),u (.mupd ⟨false,[.ki]⟩ (.t 8) (z 6) (z 32)),u (.mupd ⟨false,[.ki]⟩ (.t 8) (z 7) (z 96)),u (.mupd ⟨false,[.ki]⟩ (.t 8) (z 11) (z 1792)),o 9 (.mv (.t 8)),o 2 (.mv (.t 9))] [8,9]) (.seq (.reg [o 10 (.mv (z 0))] []) (.block 0 (.loop (.seq (.reg [o 11 (.bin .lt (.t 10) (z 256))] []) (.seq (.cond (.t 11) .skip (.exit 0)) (.seq (.block 1 (.seq (.reg [o 12 (.mv (.t 10)),o 3 (.mv (.t 12))] [12]) (.seq (.reg [o 4 (.mv (z 11))] []) (.seq (.seq (.reg [o 13 (.build [(.s []),(.s []),(.s [])] [(0,1,(.c (.s [45,47,48,49,50,51,97,99,101,105,110,111,114,115,116,117]))),(1,1,(.c (.s [46,52,53,54,55,56,57,58,98,100,102,103,104,108,109,112]))),(2,1,(.c (.s [65,66,67,68,69,70,71,72,106,107,113,118,119,120,121,122])))]),o 14 (.mv (z 0))] []) (.block 2 (.loop (.seq (.reg [o 15 (.bin .lt (.t 14) (z 3))] []) (.seq (.cond (.t 15) .skip (.exit 2)) (.seq (.block 3 (.seq (.reg [o 16 (.mv (.t 14)),o 17 (.ixA false 3 1 (.t 13) (.t 14)),o 5 (.mv (.t 16)),o 6 (.mv (.t 17))] [16,17]) (.seq (.reg [o 18 (.mv (.t 6)),o 19 (.mv (.t 3)),o 20 (.cv .u8 (.t 19)),o 21 (f 131 [(.t 18),(.t 20)]),o 22 (.bin .ge (.t 21) (z 0))] [6,18,19,20,21]) (.cond (.t 22) (.reg [o 23 (.mv (.t 5)),o 24 (.bin .add (z 5) (.t 23)),o 4 (.mv (.t 24))] [5,23,24]) .skip)))) (.reg [o 25 (.bin .add (.t 14) (z 1)),o 14 (.mv (.t 25))] [25]))))))) (.seq (.reg [o 26 (.mv (.t 2)),o 27 (.mv (.t 4)),o 28 (.look ⟨false,[.ki]⟩ (.i .i64 (.l 0)) false (.t 26) (.t 27)),o 7 (.mv (.t 28))] [26,27,28]) (.seq (.reg [o 29 (.mv (.t 2)),o 30 (.mv (.t 4)),o 31 (.look ⟨false,[.ki]⟩ (.i .i64 (.l 0)) false (.t 29) (.t 30)),o 32 (.bin .add (.t 31) (z 1)),u (.mupd ⟨false,[.ki]⟩ (.t 29) (.t 30) (.t 32))] [29,30,31,32]) (.seq (.reg [o 33 (.mv (.t 0)),o 34 (.mv (.t 3)),o 35 (.cv .u8 (.t 34)),o 36 (.mv (.t 7)),o 37 (.mv (.t 4)),o 38 (.build [(.i .i64 (.l 0)),(.i .i64 (.l 0))] [(0,1,(.t 36)),(1,1,(.t 37))]),o 39 (.call (.t 33) [(.t 35),(.t 38)]),o 40 (.not (.t 39))] [3,4,7,33,34,35,36,37,38,39]) (.cond (.t 40) .ret .skip)))))))) (.reg [o 41 (.bin .add (.t 10) (z 1)),o 10 (.mv (.t 41))] [41]))))))))
theorem qoy : FnIs Tryd.prog 130 42 [] qvn :=
  ⟨Tryd.f130, _, qom, Tryd.func130, rfl, rfl, by kernel_rfl, by kernel_rfl, Tryd.call130⟩
def qhu : Nat → List Nat := kk [[4],[0,1,5,6,7]]
def qkp : IR :=
 (.seq (.reg [o 4 (.mv (z 0))] [4]) (.seq (.reg [o 5 (.mv (.t 0)),o 6 (.mv (.t 1)),o 7 (f 116 [(.t 5),(.t 6)]),o 4 (.mv (.t 7))] [0,1,5,6,7]) .ret))
theorem qia : FnIs Tryd.prog 131 8 [.t 4] qkp :=
  ⟨Tryd.f131, _, qhu, Tryd.func131, rfl, rfl, by kernel_rfl, by kernel_rfl, Tryd.call131⟩
end I
end Cz
namespace Hu
def valB : List Bool → Nat := List.foldl (fun n b => 2 * n + b.toNat) 0
def bitsN : Nat → Nat → List Bool
  | 0, _ => []
  | m + 1, n => bitsN m (n / 2) ++ [n % 2 == 1]
theorem qdb : ∀ (m n : Nat), (bitsN m n).length = m
  | 0, _ => rfl
  | m + 1, n => by simp [bitsN, qdb m]
theorem qjy : ∀ (l : List Bool) (a : Nat), l.foldl (fun n b => 2 * n + b.toNat) a = a * 2 ^ l.length + valB l
  | [], a => by simp [valB]
  | b :: l, a => by
    simp only [List.foldl_cons, valB, List.length_cons]
    rw [qjy l, qjy l (2 * 0 + b.toNat), Nat.pow_succ]
    generalize 2 ^ l.length = q
    have : (2 * a + b.toNat) * q = a * (q * 2) + (2 * 0 + b.toNat) * q := by
      rw [Nat.add_mul, Nat.mul_zero, Nat.zero_add, Nat.mul_comm 2 a, Nat.mul_assoc, Nat.mul_comm 2 q]
    omega
theorem qud (b : Bool) (l : List Bool) : valB (b :: l) = b.toNat * 2 ^ l.length + valB l := by
  have := qjy l (2 * 0 + b.toNat)
  simpa [valB] using this
theorem qdd (l m : List Bool) : valB (l ++ m) = valB l * 2 ^ m.length + valB m := by
  simp only [valB, List.foldl_append]
  exact qjy m _
theorem quc (l : List Bool) (b : Bool) : valB (l ++ [b]) = 2 * valB l + b.toNat := by
  rw [qdd]; simp [valB]; omega
theorem qnf : ∀ (l : List Bool), valB l < 2 ^ l.length
  | [] => by simp [valB]
  | b :: l => by
    rw [qud, List.length_cons, Nat.pow_succ]
    have := qnf l
    cases b <;> simp only [Bool.toNat_true, Bool.toNat_false] <;> omega
theorem qkn : ∀ (m n : Nat), n < 2 ^ m → valB (bitsN m n) = n
  | 0, n, h => by simp at h; subst h; rfl
  | m + 1, n, h => by
    rw [Nat.pow_succ] at h
    rw [bitsN, quc, qkn m (n / 2) (by omega)]
    by_cases hb : n % 2 = 1
    · rw [hb]; simp only [beq_self_eq_true, Bool.toNat_true]; omega
    · rw [show (n % 2 == 1) = false by simpa using hb]; simp only [Bool.toNat_false]; omega
theorem bitsN_snoc (l : List Bool) (b : Bool) : bitsN (l.length + 1) (valB (l ++ [b])) = bitsN l.length (valB l) ++ [b] := by
  rw [bitsN, quc]
  have h1 : (2 * valB l + b.toNat) / 2 = valB l := by cases b <;> simp only [Bool.toNat_true, Bool.toNat_false] <;> omega
  have h2 : ((2 * valB l + b.toNat) % 2 == 1) = b := by cases b <;> simp <;> omega
  rw [h1, h2]
theorem qrl (l : List Bool) : bitsN l.length (valB l) = l := by
  suffices ∀ (r : List Bool), bitsN r.reverse.length (valB r.reverse) = r.reverse by simpa using this l.reverse
  intro r
  induction r with
  | nil => rfl
  | cons b r ih =>
    rw [List.reverse_cons, show (r.reverse ++ [b]).length = r.reverse.length + 1 by simp, bitsN_snoc, ih]
theorem qne : ∀ k, valB (List.replicate k true) = 2 ^ k - 1
  | 0 => rfl
  | k + 1 => by
    rw [List.replicate_succ, qud, qne k, List.length_replicate, Nat.pow_succ]
    have := Nat.two_pow_pos k
    simp; omega
def bl (l : List Int) : List Bool := l.flatMap fun v => bitsN 8 v.toNat
def packs : Nat → List Bool → List Int
  | 0, _ => []
  | n + 1, bs => (valB (bs.take 8) : Int) :: packs n (bs.drop 8)
def pack (bs : List Bool) : List Int := packs (bs.length / 8) bs
def BOk (l : List Int) : Prop := ∀ v ∈ l, 0 ≤ v ∧ v < 256
theorem qnz : ∀ (n : Nat) (bs : List Bool), (packs n bs).length = n
  | 0, _ => rfl
  | n + 1, bs => by simp [packs, qnz n]
theorem bl_packs : ∀ (n : Nat) (bs : List Bool), bs.length = 8 * n → bl (packs n bs) = bs
  | 0, bs, h => by have : bs = [] := List.length_eq_zero_iff.1 (by omega); subst this; rfl
  | n + 1, bs, h => by
    simp only [packs, bl, List.flatMap_cons]
    have h1 := bl_packs n (bs.drop 8) (by simp; omega)
    simp only [bl] at h1
    rw [h1]
    have h2 : (bs.take 8).length = 8 := by simp; omega
    have h3 := qrl (bs.take 8)
    rw [h2] at h3
    simp only [Int.toNat_natCast, h3, List.take_append_drop]
def five : List Nat := [45, 47, 48, 49, 50, 51, 97, 99, 101, 105, 110, 111, 114, 115, 116, 117]
def six : List Nat := [46, 52, 53, 54, 55, 56, 57, 58, 98, 100, 102, 103, 104, 108, 109, 112]
def seven : List Nat := [65, 66, 67, 68, 69, 70, 71, 72, 106, 107, 113, 118, 119, 120, 121, 122]
def cls (c : Nat) : Nat := if five.contains c then 5 else if six.contains c then 6 else if seven.contains c then 7 else 11
def cnt (m c : Nat) : Nat := ((List.range c).filter fun x => cls x == m).length
def base (m : Nat) : Nat := if m = 5 then 0 else if m = 6 then 32 else if m = 7 then 96 else 1792
def codeOf (c : Nat) : Nat := base (cls c) + cnt (cls c) c
theorem qtq (m c : Nat) : cnt m (c + 1) = cnt m c + (if cls c = m then 1 else 0) := by
  simp only [cnt, List.range_succ, List.filter_append, List.length_append]
  by_cases h : cls c = m <;> simp [h]
def find (code many : Nat) : Option Nat := (List.range 256).find? fun c => codeOf c == code && cls c == many
theorem cnt_le (m c : Nat) : cnt m c ≤ c := by
  have := List.length_filter_le (fun x => cls x == m) (List.range c)
  simpa [cnt] using this
theorem cnt_mono (m : Nat) {c d : Nat} (h : c ≤ d) : cnt m c ≤ cnt m d := by
  induction d with
  | zero => have : c = 0 := by omega
            subst this; exact Nat.le_refl _
  | succ d ih =>
    rcases Nat.lt_or_ge d c with h1 | h1
    · have : c = d + 1 := by omega
      subst this; exact Nat.le_refl _
    · rw [qtq]; have := ih h1; omega
theorem qri {m c d : Nat} (hc : cls c = m) (h : c < d) : cnt m c < cnt m d := by
  have h1 : cnt m (c + 1) ≤ cnt m d := cnt_mono m h
  rw [qtq, if_pos hc] at h1
  omega
theorem qhi (c : Nat) : cls c = 5 ∨ cls c = 6 ∨ cls c = 7 ∨ cls c = 11 := by
  unfold cls
  split
  · exact .inl rfl
  · split
    · exact .inr (.inl rfl)
    · split
      · exact .inr (.inr (.inl rfl))
      · exact .inr (.inr (.inr rfl))
theorem all5 : cnt 5 256 = 16 := by decide +kernel
theorem all6 : cnt 6 256 = 16 := by decide +kernel
theorem all7 : cnt 7 256 = 16 := by decide +kernel
theorem all11 : cnt 11 256 = 208 := by decide +kernel
theorem qtp {c : Nat} (h : c < 256) : (cls c = 5 ∧ codeOf c < 16) ∨ (cls c = 6 ∧ 32 ≤ codeOf c ∧ codeOf c < 48) ∨ (cls c = 7 ∧ 96 ≤ codeOf c ∧ codeOf c < 112) ∨ (cls c = 11 ∧ 1792 ≤ codeOf c ∧ codeOf c < 2000) := by
  rcases qhi c with e | e | e | e
  · have := qri e h; rw [all5] at this; exact .inl ⟨e, by simp only [codeOf, e, base]; simp; omega⟩
  · have := qri e h; rw [all6] at this; exact .inr (.inl ⟨e, by simp only [codeOf, e, base]; simp; omega⟩)
  · have := qri e h; rw [all7] at this; exact .inr (.inr (.inl ⟨e, by simp only [codeOf, e, base]; simp; omega⟩))
  · have := qri e h; rw [all11] at this; exact .inr (.inr (.inr ⟨e, by simp only [codeOf, e, base]; simp; omega⟩))
theorem qxo {c : Nat} (h : c < 256) : codeOf c < 2 ^ cls c := by
  rcases qtp h with ⟨e, b⟩ | ⟨e, b⟩ | ⟨e, b⟩ | ⟨e, b⟩ <;> rw [e] <;> omega
theorem code_inj {c d : Nat} (h1 : cls c = cls d) (h2 : codeOf c = codeOf d) : c = d := by
  simp only [codeOf, h1] at h2
  rcases Nat.lt_trichotomy c d with h | h | h
  · have := qri (m := cls d) h1 h; omega
  · exact h
  · have := qri (m := cls d) rfl h; omega
theorem code_apart {c d : Nat} (hc : c < 256) (hd : d < 256) (hm : cls c ≤ cls d) (h : codeOf d / 2 ^ (cls d - cls c) = codeOf c) : c = d := by
  rcases qtp hc with ⟨e, b⟩ | ⟨e, b⟩ | ⟨e, b⟩ | ⟨e, b⟩ <;> rcases qtp hd with ⟨e', b'⟩ | ⟨e', b'⟩ | ⟨e', b'⟩ | ⟨e', b'⟩ <;> rw [e, e'] at h <;> simp at h <;>
    first | exact code_inj (e.trans e'.symm) h.symm | (rw [e, e'] at hm; omega) | omega
theorem qpa {code many c : Nat} (h : find code many = some c) : c < 256 ∧ codeOf c = code ∧ cls c = many := by
  have h1 := List.find?_some h
  have h2 := List.mem_of_find?_eq_some h
  simp only [Bool.and_eq_true, beq_iff_eq] at h1
  exact ⟨by simpa using h2, h1.1, h1.2⟩
theorem find_code {c : Nat} (h : c < 256) : find (codeOf c) (cls c) = some c := by
  cases hf : find (codeOf c) (cls c) with
  | none =>
    have := List.find?_eq_none.1 hf c (by simpa using h)
    simp at this
  | some d =>
    obtain ⟨_, h1, h2⟩ := qpa hf
    rw [code_inj h2 h1]
theorem qvz {code many : Nat} (h : ∀ c, c < 256 → cls c = many → codeOf c ≠ code) : find code many = none := by
  cases hf : find code many with
  | none => rfl
  | some d => obtain ⟨a, b, c⟩ := qpa hf; exact absurd b (h d a c)
def cod (c : Nat) : List Bool := bitsN (cls c) (codeOf c)
def enc (b : List Int) : List Bool := b.flatMap fun v => cod v.toNat
def at1 (bs : List Bool) (m : Nat) : Option Nat := if m ≤ bs.length then find (valB (bs.take m)) m else none
def sym (bs : List Bool) : Option (Nat × Nat) :=
  match at1 bs 5 with
  | some c => some (c, 5)
  | none => match at1 bs 6 with
    | some c => some (c, 6)
    | none => match at1 bs 7 with
      | some c => some (c, 7)
      | none => match at1 bs 11 with
        | some c => some (c, 11)
        | none => none
theorem at1_some {bs : List Bool} {m c : Nat} (h : at1 bs m = some c) : c < 256 ∧ cls c = m ∧ m ≤ bs.length ∧ bs = cod c ++ bs.drop m := by
  unfold at1 at h
  split at h
  · rename_i hm
    obtain ⟨h1, h2, h3⟩ := qpa h
    refine ⟨h1, h3, hm, ?_⟩
    have h4 := qrl (bs.take m)
    rw [List.length_take, Nat.min_eq_left hm, ← h2] at h4
    have : cod c = bs.take m := by rw [cod, h3]; exact h4
    rw [this, List.take_append_drop]
  · cases h
theorem sym_some {bs : List Bool} {c m : Nat} (h : sym bs = some (c, m)) : c < 256 ∧ cls c = m ∧ m ≤ bs.length ∧ 5 ≤ m ∧ bs = cod c ++ bs.drop m := by
  unfold sym at h
  repeat' (split at h)
  all_goals first | (cases h; done) | skip
  all_goals (rename_i h1; cases h; obtain ⟨a, b, c, d⟩ := at1_some h1; exact ⟨a, b, c, by omega, d⟩)
def dec (bs : List Bool) : List Int × List Bool :=
  match h : sym bs with
  | some (c, m) => let r := dec (bs.drop m); ((c : Int) :: r.1, r.2)
  | none => ([], bs)
termination_by bs.length
decreasing_by
  obtain ⟨_, _, h1, h2, _⟩ := sym_some h
  simp only [List.length_drop]; omega
theorem dec_some {bs : List Bool} {c m : Nat} (h : sym bs = some (c, m)) : dec bs = ((c : Int) :: (dec (bs.drop m)).1, (dec (bs.drop m)).2) := by
  rw [dec]; split
  · rename_i c' m' h'; rw [h] at h'; cases h'; rfl
  · rename_i h'; rw [h] at h'; cases h'
theorem dec_none {bs : List Bool} (h : sym bs = none) : dec bs = ([], bs) := by
  rw [dec]; split
  · rename_i c' m' h'; rw [h] at h'; cases h'
  · rfl
theorem valB_take {m n k : Nat} (h : n < 2 ^ m) (hk : k ≤ m) : valB ((bitsN m n).take k) = n / 2 ^ (m - k) := by
  have h1 : bitsN m n = (bitsN m n).take k ++ (bitsN m n).drop k := (List.take_append_drop _ _).symm
  have h2 := congrArg valB h1
  rw [qkn m n h, qdd] at h2
  have h3 := qnf ((bitsN m n).drop k)
  rw [List.length_drop, qdb] at h2 h3
  generalize valB ((bitsN m n).take k) = A at h2 ⊢
  generalize valB ((bitsN m n).drop k) = B at h2 h3
  rw [h2, Nat.mul_comm, Nat.mul_add_div (Nat.two_pow_pos _), Nat.div_eq_of_lt h3, Nat.add_zero]
theorem qtv {c m : Nat} (hc : c < 256) (hm : m ≤ cls c) (t : List Bool) : at1 (cod c ++ t) m = if m = cls c then some c else none := by
  unfold at1
  rw [if_pos (by simp [cod, qdb]; omega), List.take_append_of_le_length (by simp [cod, qdb]; omega)]
  have hv := valB_take (qxo hc) hm
  unfold cod
  rw [hv]
  split
  · rename_i h; subst h; simp [find_code hc]
  · rename_i h
    refine qvz fun d hd hdm e => ?_
    have := code_apart hd hc (by omega) (by rw [hdm]; exact e.symm)
    subst this; omega
theorem sym_cod {c : Nat} (hc : c < 256) (t : List Bool) : sym (cod c ++ t) = some (c, cls c) := by
  have h5 := fun h : 5 ≤ cls c => qtv hc h t
  have h6 := fun h : 6 ≤ cls c => qtv hc h t
  have h7 := fun h : 7 ≤ cls c => qtv hc h t
  have h11 := fun h : 11 ≤ cls c => qtv hc h t
  unfold sym
  rcases qhi c with e | e | e | e
  · rw [h5 (by omega), e]; simp
  · rw [h5 (by omega), h6 (by omega), e]; simp
  · rw [h5 (by omega), h6 (by omega), h7 (by omega), e]; simp
  · rw [h5 (by omega), h6 (by omega), h7 (by omega), h11 (by omega), e]; simp
theorem qrh : ∀ (b : List Int) (t : List Bool), BOk b → sym t = none → dec (enc b ++ t) = (b, t)
  | [], t, _, h => by simpa [enc] using dec_none h
  | v :: b, t, hb, h => by
    have hv := hb v (by simp)
    have e : enc (v :: b) ++ t = cod v.toNat ++ (enc b ++ t) := by simp [enc]
    have hd : (cod v.toNat ++ (enc b ++ t)).drop (cls v.toNat) = enc b ++ t := by
      rw [List.drop_append_of_le_length (by simp [cod, qdb]), List.drop_of_length_le (by simp [cod, qdb])]; rfl
    rw [e, dec_some (sym_cod (by omega) _), hd, qrh b t (fun u hu => hb u (by simp [hu])) h]
    simp; omega
theorem qsj {k m : Nat} (hm : m = 5 ∨ m = 6 ∨ m = 7 ∨ m = 11) : at1 (List.replicate k true) m = none := by
  unfold at1
  split
  · rename_i h
    rw [List.length_replicate] at h
    rw [List.take_replicate, Nat.min_eq_left h, qne]
    refine qvz fun d hd hdm e => ?_
    rcases qtp hd with ⟨e', b⟩ | ⟨e', b⟩ | ⟨e', b⟩ | ⟨e', b⟩ <;> rw [e'] at hdm <;> subst hdm <;> omega
  · rfl
theorem sym_ones (k : Nat) : sym (List.replicate k true) = none := by
  unfold sym
  rw [qsj (.inl rfl), qsj (.inr (.inl rfl)), qsj (.inr (.inr (.inl rfl))), qsj (.inr (.inr (.inr rfl)))]
def pad (n : Nat) : Nat := (8 - n % 8) % 8
def padded (bs : List Bool) : List Bool := bs ++ List.replicate (pad bs.length) true
def put (b : List Int) : List Int := pack (padded (enc b))
def nbits (b : List Int) : Nat := (enc b).length
def take (d : List Int) : Option (List Int) :=
  let r := dec (bl d)
  if r.2.length ≤ 7 ∧ r.2 = List.replicate r.2.length true then some r.1 else none
theorem qkw (bs : List Bool) : (padded bs).length = 8 * ((bs.length + 7) / 8) := by
  simp only [padded, List.length_append, List.length_replicate, pad]; omega
theorem bl_put (b : List Int) : bl (put b) = padded (enc b) := by
  unfold put pack
  exact bl_packs _ _ (by rw [qkw]; omega)
theorem qku (b : List Int) : (put b).length = (nbits b + 7) / 8 := by
  unfold put pack; rw [qnz, qkw]; unfold nbits; omega
theorem dec_put (b : List Int) (hb : BOk b) (k : Nat) : dec (enc b ++ List.replicate k true) = (b, List.replicate k true) := qrh b _ hb (sym_ones k)
theorem take_put (b : List Int) (hb : BOk b) : take (put b) = some b := by
  unfold take
  rw [bl_put, padded, dec_put b hb]
  simp only [List.length_replicate, and_true]
  rw [if_pos (by unfold pad; omega)]
end Hu
namespace Cz
open Go Go.RowKit Go.Proofs
def idxI (x : List UInt8) (c : Int) : Int := match (List.range x.length).find? (fun i => x.getD i 0 == c.toNat.toUInt8) with
  | some i => i
  | none => -1
def has (x : List UInt8) (c : Int) : Bool := x.any fun b => b == c.toNat.toUInt8
theorem qsx {x : List UInt8} {c : Int} (h : has x c = true) : 0 ≤ idxI x c := by
  unfold idxI
  split
  · omega
  · rename_i hn
    simp only [has, List.any_eq_true] at h
    obtain ⟨b, hb, e⟩ := h
    obtain ⟨i, hi⟩ := List.getElem?_of_mem hb
    have := List.find?_eq_none.1 hn i (by simp; exact (List.getElem?_eq_some_iff.1 hi).1)
    simp [List.getD_eq_getElem?_getD, hi] at this
    exact absurd (by simpa using e) this
theorem qgd {x : List UInt8} {c : Int} (h : has x c = false) : idxI x c < 0 := by
  unfold idxI
  split
  · rename_i i hi
    have h1 := List.find?_some hi
    have h2 := List.mem_of_find?_eq_some hi
    simp only [List.mem_range] at h2
    simp only [has, List.any_eq_false] at h
    have := h _ (List.getElem_mem h2)
    simp [List.getD_eq_getElem?_getD, List.getElem?_eq_getElem h2] at h1
    simp [h1] at this
  · omega
theorem idx_f (x : List UInt8) (c : Int) : (S0 Tryd.prog).call 124 [.s x, .i .u8 (.y c)] [] (fun y _ => Sub y (.i .i64 (.y (idxI x c)))) := by
  intro N W0 ρ W vals hR hd
  obtain ⟨l⟩ := vals
  match l, hd with
  | [u, v], hd =>
    simp only [denL, den, Z.v] at hd
    obtain ⟨rfl, rfl, _⟩ := hd
    have hrun : (callFunc 124 #[.string ⟨x.toArray⟩, .int .u8 c]).run Tryd.prog W = .ok (.value (.int .i64 (idxI x c))) W := by
      have h1 : (Tryd.f124.name == "runtime.NumGoroutine") = false := by decide +kernel
      have h2 : Tryd.f124.body.isNone = true := by kernel_rfl
      have h3 : Extern.findNext Tryd.f124 = none := by kernel_rfl
      have h4 : Extern.find Tryd.f124 = some Extern.BytealgIndexByte.indexByte := by kernel_rfl
      simp only [callFunc, Sem.run_bind, run_program, Result.andThen_ok, Tryd.func124, h1, h2, h3, h4, run_mark, Bool.false_eq_true, if_false, if_true]
      have hs : (ByteArray.mk x.toArray).size = x.length := by show x.toArray.size = _; simp
      have hb : ∀ i, i < x.length → (ByteArray.mk x.toArray)[i]! = x.getD i 0 := by
        intro i hi
        rw [getElem!_pos _ i (by rw [hs]; exact hi), List.getD_eq_getElem?_getD, List.getElem?_eq_getElem hi]
        rfl
      have hf : (List.range (ByteArray.mk x.toArray).size).find? (fun i => (ByteArray.mk x.toArray)[i]! == c.toNat.toUInt8) = (List.range x.length).find? (fun i => x.getD i 0 == c.toNat.toUInt8) := by
        rw [hs]
        have : ∀ (l : List Nat), (∀ i ∈ l, i < x.length) → l.find? (fun i => (ByteArray.mk x.toArray)[i]! == c.toNat.toUInt8) = l.find? (fun i => x.getD i 0 == c.toNat.toUInt8) := by
          intro l
          induction l with
          | nil => intro _; rfl
          | cons i l ih =>
            intro hl
            simp only [List.find?_cons, hb i (hl i (by simp))]
            rw [ih (fun j hj => hl j (by simp [hj]))]
        exact this _ (fun i hi => by simpa using hi)
      have hrun : (Extern.BytealgIndexByte.indexByte #[.string ⟨x.toArray⟩, .int .u8 c]).run Tryd.prog W = .ok (.int .i64 (idxI x c)) W := by
        show (match (List.range (ByteArray.mk x.toArray).size).find? (fun i => (ByteArray.mk x.toArray)[i]! == c.toNat.toUInt8) with
          | some i => (pure (goInt i) : Sem Value)
          | none => pure (goInt (-1))).run Tryd.prog W = _
        rw [hf]
        unfold idxI
        split <;> rfl
      rw [hrun]
      rfl
    rw [hrun]
    exact ⟨ρ, _, [], .rfl, Le.refl _ _, Nat.le_refl _, hR, by simp [den, Z.v]⟩
theorem index_f (x : List UInt8) (c : Int) : (S0 Tryd.prog).call 131 [.s x, .i .u8 (.y c)] [] (fun y _ => Sub y (.i .i64 (.y (idxI x c)))) := by
  generalize hT : idxI x c = T
  generalize hS : S0 Tryd.prog = S
  refine qab hS I.qia ?_
  cbv
  refine qab hS I.qcz ?_
  cbv
  refine qbq hS (idx_f x c) .rfl rfl rfl ?_
  rw [hT]
  cbv
  exact .rfl
theorem qdr {S : Sy} (hS : S0 Tryd.prog = S) {l : List Blk} {K : SV → List Blk → Prop} {x : List UInt8} {c : Z} (h : ∀ r, idxI x c.v = r → K (.i .i64 (.y r)) l) : S.call 131 [.s x, .i .u8 c] l K :=
  qbq hS (index_f x c.v) (.cons .rfl (.cons (qba rfl) .nil)) rfl rfl (h _ rfl)
def by1 (v : Int) : List SV := [.i .u8 (.y v)]
def cellsB (l : List Int) : List SV := l.flatMap by1
theorem qam (l : List Int) : plains (cellsB l) = true := by
  induction l with
  | nil => rfl
  | cons v l ih => simpa [cellsB, by1, plains, plainV] using ih
theorem qlr (l : List Int) : cellsB l = l.map fun v => .i .u8 (.y v) := by
  induction l with
  | nil => rfl
  | cons u l ih => simp only [cellsB, List.flatMap_cons, List.map_cons] at ih ⊢; rw [ih]; rfl
theorem cellsB_get {l : List Int} {q : Nat} {v : Int} (h : l[q]? = some v) : (cellsB l)[q]? = some (.i .u8 (.y v)) := by
  rw [qlr, List.getElem?_map, h]; rfl
end Cz
namespace Cz
open Go Go.RowKit Go.Proofs
end Cz
namespace Cz
open Go Go.RowKit Go.Proofs
def w5 : List UInt8 := [45, 47, 48, 49, 50, 51, 97, 99, 101, 105, 110, 111, 114, 115, 116, 117]
def w6 : List UInt8 := [46, 52, 53, 54, 55, 56, 57, 58, 98, 100, 102, 103, 104, 108, 109, 112]
def w7 : List UInt8 := [65, 66, 67, 68, 69, 70, 71, 72, 106, 107, 113, 118, 119, 120, 121, 122]
theorem has_all : (List.range 256).all (fun n => (has w5 n == (Hu.cls n == 5)) && ((has w6 n == (Hu.cls n == 6)) && (has w7 n == (Hu.cls n == 7)))) = true := by decide +kernel
theorem has_at {n : Nat} (h : n < 256) : has w5 n = (Hu.cls n == 5) ∧ has w6 n = (Hu.cls n == 6) ∧ has w7 n = (Hu.cls n == 7) := by
  have := List.all_eq_true.1 has_all n (by simpa using h)
  simpa using this
theorem idx_at {c : Int} (h0 : 0 ≤ c) (h : c < 256) :
    (Hu.cls c.toNat = 5 ∧ 0 ≤ idxI w5 c ∧ idxI w6 c < 0 ∧ idxI w7 c < 0) ∨ (Hu.cls c.toNat = 6 ∧ idxI w5 c < 0 ∧ 0 ≤ idxI w6 c ∧ idxI w7 c < 0) ∨
    (Hu.cls c.toNat = 7 ∧ idxI w5 c < 0 ∧ idxI w6 c < 0 ∧ 0 ≤ idxI w7 c) ∨ (Hu.cls c.toNat = 11 ∧ idxI w5 c < 0 ∧ idxI w6 c < 0 ∧ idxI w7 c < 0) := by
  obtain ⟨n, rfl⟩ : ∃ n : Nat, c = n := ⟨c.toNat, by omega⟩
  obtain ⟨g5, g6, g7⟩ := has_at (n := n) (by omega)
  simp only [Int.toNat_natCast]
  rcases Hu.qhi n with e | e | e | e <;> rw [e] at g5 g6 g7
  · exact .inl ⟨e, qsx g5, qgd g6, qgd g7⟩
  · exact .inr (.inl ⟨e, qgd g5, qsx g6, qgd g7⟩)
  · exact .inr (.inr (.inl ⟨e, qgd g5, qgd g6, qsx g7⟩))
  · exact .inr (.inr (.inr ⟨e, qgd g5, qgd g6, qgd g7⟩))
theorem qqz {c : Prop} {inst : Decidable c} {A B : Prop} (hc : c) (h : A) : @ite Prop c inst A B := by rw [if_pos hc]; exact h
def cellC (n : Nat) : List SV := [.i .i64 (.y (Hu.codeOf n)), .i .i64 (.y (Hu.cls n))]
def upto (c : Nat) : List SV := (List.range c).flatMap cellC ++ List.replicate (2 * (256 - c)) (.i .i64 (.l 0))
theorem qwg (n : Nat) : ((List.range n).flatMap cellC).length = 2 * n := by
  induction n with
  | zero => rfl
  | succ n ih => rw [List.range_succ, List.flatMap_append, List.length_append, ih]; simp [cellC]; omega
theorem qep {c : Nat} (h : c ≤ 256) : (upto c).length = 512 := by
  simp only [upto, List.length_append, qwg, List.length_replicate]; omega
theorem repl2 (A B : List SV) (x y u v : SV) : repl (A ++ x :: y :: B) A.length [u, v] = A ++ u :: v :: B := by
  simp only [repl, qce]
  rw [List.set_append_right _ _ (Nat.le_refl _), Nat.sub_self, List.set_cons_zero, List.set_append_right _ _ (by omega), show A.length + 1 - A.length = 1 by omega]
  rfl
theorem upto_next {c : Nat} (h : c < 256) : repl (upto c) (c * 2) (cellC c) = upto (c + 1) := by
  have e1 : 2 * (256 - c) = 2 * (256 - (c + 1)) + 1 + 1 := by omega
  have e2 : c * 2 = ((List.range c).flatMap cellC).length := by rw [qwg]; omega
  unfold upto
  rw [e1, List.replicate_succ, List.replicate_succ, e2]
  have := repl2 ((List.range c).flatMap cellC) (List.replicate (2 * (256 - (c + 1))) (.i .i64 (.l 0))) (.i .i64 (.l 0)) (.i .i64 (.l 0)) (.i .i64 (.y (Hu.codeOf c))) (.i .i64 (.y (Hu.cls c)))
  rw [List.range_succ, List.flatMap_append]
  simp only [List.flatMap_cons, List.flatMap_nil, List.append_nil, List.append_assoc]
  exact this
theorem qsc (x : SV) : ∀ n, repS n [x] = List.replicate n x
  | 0 => rfl
  | n + 1 => by rw [repS, qsc x n, List.replicate_succ]; rfl
theorem qvr {F : List SV} {ok : Nat → Bool} (h : refsBL ok F = true) : (match (match F with | [] => true | x :: xs => refsB ok x && refsBL ok xs) with | false => false | true => true) = true := by
  cases F with
  | nil => rfl
  | cons x xs => simp only [refsBL] at h; simp only [h]
theorem qbe {ok : Nat → Bool} : ∀ {F : List SV}, plains F = true → refsBL ok F = true
  | [], _ => rfl
  | x :: xs, h => by
    simp only [plains, Bool.and_eq_true] at h
    simp only [refsBL, Bool.and_eq_true]
    exact ⟨qnx h.1, qbe h.2⟩
theorem qqk (c : Nat) : plains (upto c) = true := by
  have h1 : ∀ (xs ys : List SV), plains (xs ++ ys) = (plains xs && plains ys) := by
    intro xs ys
    induction xs with
    | nil => simp [plains]
    | cons x xs ih => simp [plains, ih, Bool.and_assoc]
  have h2 : ∀ n, plains (List.replicate n (SV.i .i64 (.l 0))) = true := by
    intro n
    induction n with
    | zero => rfl
    | succ n ih => rw [List.replicate_succ]; simpa [plains, plainV] using ih
  have h3 : ∀ (l : List Nat), plains (l.flatMap cellC) = true := by
    intro l
    induction l with
    | nil => rfl
    | cons n l ih => rw [List.flatMap_cons, h1, ih]; rfl
  rw [upto, h1, h2, h3]; rfl
def codeLit : List SV :=
  [.i .i64 (.y 1792), .i .i64 (.y 11), .i .i64 (.y 1793), .i .i64 (.y 11), .i .i64 (.y 1794), .i .i64 (.y 11), .i .i64 (.y 1795), .i .i64 (.y 11), .i .i64 (.y 1796), .i .i64 (.y 11), .i .i64 (.y 1797), .i .i64 (.y 11), .i .i64 (.y 1798), .i .i64 (.y 11), .i .i64 (.y 1799), .i .i64 (.y 11), .i .i64 (.y 1800), .i .i64 (.y 11), .i .i64 (.y 1801), .i .i64 (.y 11), .i .i64 (.y 1802), .i .i64 (.y 11), .i .i64 (.y 1803), .i .i64 (.y 11), .i .i64 (.y 1804), .i .i64 (.y 11), .i .i64 (.y 1805), .i .i64 (.y 11), .i .i64 (.y 1806), .i .i64 (.y 11), .i .i64 (.y 1807), .i .i64 (.y 11), .i .i64 (.y 1808), .i .i64 (.y 11), .i .i64 (.y 1809), .i .i64 (.y 11), .i .i64 (.y 1810), .i .i64 (.y 11), .i .i64 (.y 1811), .i .i64 (.y 11), .i .i64 (.y 1812), .i .i64 (.y 11), .i .i64 (.y 1813), .i .i64 (.y 11), .i .i64 (.y 1814), .i .i64 (.y 11), .i .i64 (.y 1815), .i .i64 (.y 11), .i .i64 (.y 1816), .i .i64 (.y 11), .i .i64 (.y 1817), .i .i64 (.y 11), .i .i64 (.y 1818), .i .i64 (.y 11), .i .i64 (.y 1819), .i .i64 (.y 11), .i .i64 (.y 1820), .i .i64 (.y 11), .i .i64 (.y 1821), .i .i64 (.y 11), .i .i64 (.y 1822), .i .i64 (.y 11), .i .i64 (.y 1823), .i .i64 (.y 11), .i .i64 (.y 1824), .i .i64 (.y 11), .i .i64 (.y 1825), .i .i64 (.y 11), .i .i64 (.y 1826), .i .i64 (.y 11), .i .i64 (.y 1827), .i .i64 (.y 11), .i .i64 (.y 1828), .i .i64 (.y 11), .i .i64 (.y 1829), .i .i64 (.y 11), .i .i64 (.y 1830), .i .i64 (.y 11), .i .i64 (.y 1831), .i .i64 (.y 11), .i .i64 (.y 1832), .i .i64 (.y 11), .i .i64 (.y 1833), .i .i64 (.y 11), .i .i64 (.y 1834), .i .i64 (.y 11), .i .i64 (.y 1835), .i .i64 (.y 11), .i .i64 (.y 1836), .i .i64 (.y 11), .i .i64 (.y 0), .i .i64 (.y 5), .i .i64 (.y 32), .i .i64 (.y 6), .i .i64 (.y 1), .i .i64 (.y 5), .i .i64 (.y 2), .i .i64 (.y 5), .i .i64 (.y 3), .i .i64 (.y 5), .i .i64 (.y 4), .i .i64 (.y 5), .i .i64 (.y 5), .i .i64 (.y 5), .i .i64 (.y 33), .i .i64 (.y 6), .i .i64 (.y 34), .i .i64 (.y 6), .i .i64 (.y 35), .i .i64 (.y 6), .i .i64 (.y 36), .i .i64 (.y 6), .i .i64 (.y 37), .i .i64 (.y 6), .i .i64 (.y 38), .i .i64 (.y 6), .i .i64 (.y 39), .i .i64 (.y 6), .i .i64 (.y 1837), .i .i64 (.y 11), .i .i64 (.y 1838), .i .i64 (.y 11), .i .i64 (.y 1839), .i .i64 (.y 11), .i .i64 (.y 1840), .i .i64 (.y 11), .i .i64 (.y 1841), .i .i64 (.y 11), .i .i64 (.y 1842), .i .i64 (.y 11), .i .i64 (.y 96), .i .i64 (.y 7), .i .i64 (.y 97), .i .i64 (.y 7), .i .i64 (.y 98), .i .i64 (.y 7), .i .i64 (.y 99), .i .i64 (.y 7), .i .i64 (.y 100), .i .i64 (.y 7), .i .i64 (.y 101), .i .i64 (.y 7), .i .i64 (.y 102), .i .i64 (.y 7), .i .i64 (.y 103), .i .i64 (.y 7), .i .i64 (.y 1843), .i .i64 (.y 11), .i .i64 (.y 1844), .i .i64 (.y 11), .i .i64 (.y 1845), .i .i64 (.y 11), .i .i64 (.y 1846), .i .i64 (.y 11), .i .i64 (.y 1847), .i .i64 (.y 11), .i .i64 (.y 1848), .i .i64 (.y 11), .i .i64 (.y 1849), .i .i64 (.y 11), .i .i64 (.y 1850), .i .i64 (.y 11), .i .i64 (.y 1851), .i .i64 (.y 11), .i .i64 (.y 1852), .i .i64 (.y 11), .i .i64 (.y 1853), .i .i64 (.y 11), .i .i64 (.y 1854), .i .i64 (.y 11), .i .i64 (.y 1855), .i .i64 (.y 11), .i .i64 (.y 1856), .i .i64 (.y 11), .i .i64 (.y 1857), .i .i64 (.y 11), .i .i64 (.y 1858), .i .i64 (.y 11), .i .i64 (.y 1859), .i .i64 (.y 11), .i .i64 (.y 1860), .i .i64 (.y 11), .i .i64 (.y 1861), .i .i64 (.y 11), .i .i64 (.y 1862), .i .i64 (.y 11), .i .i64 (.y 1863), .i .i64 (.y 11), .i .i64 (.y 1864), .i .i64 (.y 11), .i .i64 (.y 1865), .i .i64 (.y 11), .i .i64 (.y 1866), .i .i64 (.y 11), .i .i64 (.y 6), .i .i64 (.y 5), .i .i64 (.y 40), .i .i64 (.y 6), .i .i64 (.y 7), .i .i64 (.y 5), .i .i64 (.y 41), .i .i64 (.y 6), .i .i64 (.y 8), .i .i64 (.y 5), .i .i64 (.y 42), .i .i64 (.y 6), .i .i64 (.y 43), .i .i64 (.y 6), .i .i64 (.y 44), .i .i64 (.y 6), .i .i64 (.y 9), .i .i64 (.y 5), .i .i64 (.y 104), .i .i64 (.y 7), .i .i64 (.y 105), .i .i64 (.y 7), .i .i64 (.y 45), .i .i64 (.y 6), .i .i64 (.y 46), .i .i64 (.y 6), .i .i64 (.y 10), .i .i64 (.y 5), .i .i64 (.y 11), .i .i64 (.y 5), .i .i64 (.y 47), .i .i64 (.y 6), .i .i64 (.y 106), .i .i64 (.y 7), .i .i64 (.y 12), .i .i64 (.y 5), .i .i64 (.y 13), .i .i64 (.y 5), .i .i64 (.y 14), .i .i64 (.y 5), .i .i64 (.y 15), .i .i64 (.y 5), .i .i64 (.y 107), .i .i64 (.y 7), .i .i64 (.y 108), .i .i64 (.y 7), .i .i64 (.y 109), .i .i64 (.y 7), .i .i64 (.y 110), .i .i64 (.y 7), .i .i64 (.y 111), .i .i64 (.y 7), .i .i64 (.y 1867), .i .i64 (.y 11), .i .i64 (.y 1868), .i .i64 (.y 11), .i .i64 (.y 1869), .i .i64 (.y 11), .i .i64 (.y 1870), .i .i64 (.y 11), .i .i64 (.y 1871), .i .i64 (.y 11), .i .i64 (.y 1872), .i .i64 (.y 11), .i .i64 (.y 1873), .i .i64 (.y 11), .i .i64 (.y 1874), .i .i64 (.y 11), .i .i64 (.y 1875), .i .i64 (.y 11), .i .i64 (.y 1876), .i .i64 (.y 11), .i .i64 (.y 1877), .i .i64 (.y 11), .i .i64 (.y 1878), .i .i64 (.y 11), .i .i64 (.y 1879), .i .i64 (.y 11), .i .i64 (.y 1880), .i .i64 (.y 11), .i .i64 (.y 1881), .i .i64 (.y 11), .i .i64 (.y 1882), .i .i64 (.y 11), .i .i64 (.y 1883), .i .i64 (.y 11), .i .i64 (.y 1884), .i .i64 (.y 11), .i .i64 (.y 1885), .i .i64 (.y 11), .i .i64 (.y 1886), .i .i64 (.y 11), .i .i64 (.y 1887), .i .i64 (.y 11), .i .i64 (.y 1888), .i .i64 (.y 11), .i .i64 (.y 1889), .i .i64 (.y 11), .i .i64 (.y 1890), .i .i64 (.y 11), .i .i64 (.y 1891), .i .i64 (.y 11), .i .i64 (.y 1892), .i .i64 (.y 11), .i .i64 (.y 1893), .i .i64 (.y 11), .i .i64 (.y 1894), .i .i64 (.y 11), .i .i64 (.y 1895), .i .i64 (.y 11), .i .i64 (.y 1896), .i .i64 (.y 11), .i .i64 (.y 1897), .i .i64 (.y 11), .i .i64 (.y 1898), .i .i64 (.y 11), .i .i64 (.y 1899), .i .i64 (.y 11), .i .i64 (.y 1900), .i .i64 (.y 11), .i .i64 (.y 1901), .i .i64 (.y 11), .i .i64 (.y 1902), .i .i64 (.y 11), .i .i64 (.y 1903), .i .i64 (.y 11), .i .i64 (.y 1904), .i .i64 (.y 11), .i .i64 (.y 1905), .i .i64 (.y 11), .i .i64 (.y 1906), .i .i64 (.y 11), .i .i64 (.y 1907), .i .i64 (.y 11), .i .i64 (.y 1908), .i .i64 (.y 11), .i .i64 (.y 1909), .i .i64 (.y 11), .i .i64 (.y 1910), .i .i64 (.y 11), .i .i64 (.y 1911), .i .i64 (.y 11), .i .i64 (.y 1912), .i .i64 (.y 11), .i .i64 (.y 1913), .i .i64 (.y 11), .i .i64 (.y 1914), .i .i64 (.y 11), .i .i64 (.y 1915), .i .i64 (.y 11), .i .i64 (.y 1916), .i .i64 (.y 11), .i .i64 (.y 1917), .i .i64 (.y 11), .i .i64 (.y 1918), .i .i64 (.y 11), .i .i64 (.y 1919), .i .i64 (.y 11), .i .i64 (.y 1920), .i .i64 (.y 11), .i .i64 (.y 1921), .i .i64 (.y 11), .i .i64 (.y 1922), .i .i64 (.y 11), .i .i64 (.y 1923), .i .i64 (.y 11), .i .i64 (.y 1924), .i .i64 (.y 11), .i .i64 (.y 1925), .i .i64 (.y 11), .i .i64 (.y 1926), .i .i64 (.y 11), .i .i64 (.y 1927), .i .i64 (.y 11), .i .i64 (.y 1928), .i .i64 (.y 11), .i .i64 (.y 1929), .i .i64 (.y 11), .i .i64 (.y 1930), .i .i64 (.y 11), .i .i64 (.y 1931), .i .i64 (.y 11), .i .i64 (.y 1932), .i .i64 (.y 11), .i .i64 (.y 1933), .i .i64 (.y 11), .i .i64 (.y 1934), .i .i64 (.y 11), .i .i64 (.y 1935), .i .i64 (.y 11), .i .i64 (.y 1936), .i .i64 (.y 11), .i .i64 (.y 1937), .i .i64 (.y 11), .i .i64 (.y 1938), .i .i64 (.y 11), .i .i64 (.y 1939), .i .i64 (.y 11), .i .i64 (.y 1940), .i .i64 (.y 11), .i .i64 (.y 1941), .i .i64 (.y 11), .i .i64 (.y 1942), .i .i64 (.y 11), .i .i64 (.y 1943), .i .i64 (.y 11), .i .i64 (.y 1944), .i .i64 (.y 11), .i .i64 (.y 1945), .i .i64 (.y 11), .i .i64 (.y 1946), .i .i64 (.y 11), .i .i64 (.y 1947), .i .i64 (.y 11), .i .i64 (.y 1948), .i .i64 (.y 11), .i .i64 (.y 1949), .i .i64 (.y 11), .i .i64 (.y 1950), .i .i64 (.y 11), .i .i64 (.y 1951), .i .i64 (.y 11), .i .i64 (.y 1952), .i .i64 (.y 11), .i .i64 (.y 1953), .i .i64 (.y 11), .i .i64 (.y 1954), .i .i64 (.y 11), .i .i64 (.y 1955), .i .i64 (.y 11), .i .i64 (.y 1956), .i .i64 (.y 11), .i .i64 (.y 1957), .i .i64 (.y 11), .i .i64 (.y 1958), .i .i64 (.y 11), .i .i64 (.y 1959), .i .i64 (.y 11), .i .i64 (.y 1960), .i .i64 (.y 11), .i .i64 (.y 1961), .i .i64 (.y 11), .i .i64 (.y 1962), .i .i64 (.y 11), .i .i64 (.y 1963), .i .i64 (.y 11), .i .i64 (.y 1964), .i .i64 (.y 11), .i .i64 (.y 1965), .i .i64 (.y 11), .i .i64 (.y 1966), .i .i64 (.y 11), .i .i64 (.y 1967), .i .i64 (.y 11), .i .i64 (.y 1968), .i .i64 (.y 11), .i .i64 (.y 1969), .i .i64 (.y 11), .i .i64 (.y 1970), .i .i64 (.y 11), .i .i64 (.y 1971), .i .i64 (.y 11), .i .i64 (.y 1972), .i .i64 (.y 11), .i .i64 (.y 1973), .i .i64 (.y 11), .i .i64 (.y 1974), .i .i64 (.y 11), .i .i64 (.y 1975), .i .i64 (.y 11), .i .i64 (.y 1976), .i .i64 (.y 11), .i .i64 (.y 1977), .i .i64 (.y 11), .i .i64 (.y 1978), .i .i64 (.y 11), .i .i64 (.y 1979), .i .i64 (.y 11), .i .i64 (.y 1980), .i .i64 (.y 11), .i .i64 (.y 1981), .i .i64 (.y 11), .i .i64 (.y 1982), .i .i64 (.y 11), .i .i64 (.y 1983), .i .i64 (.y 11), .i .i64 (.y 1984), .i .i64 (.y 11), .i .i64 (.y 1985), .i .i64 (.y 11), .i .i64 (.y 1986), .i .i64 (.y 11), .i .i64 (.y 1987), .i .i64 (.y 11), .i .i64 (.y 1988), .i .i64 (.y 11), .i .i64 (.y 1989), .i .i64 (.y 11), .i .i64 (.y 1990), .i .i64 (.y 11), .i .i64 (.y 1991), .i .i64 (.y 11), .i .i64 (.y 1992), .i .i64 (.y 11), .i .i64 (.y 1993), .i .i64 (.y 11), .i .i64 (.y 1994), .i .i64 (.y 11), .i .i64 (.y 1995), .i .i64 (.y 11), .i .i64 (.y 1996), .i .i64 (.y 11), .i .i64 (.y 1997), .i .i64 (.y 11), .i .i64 (.y 1998), .i .i64 (.y 11), .i .i64 (.y 1999), .i .i64 (.y 11)]
theorem qfp : upto 256 = codeLit := by kernel_rfl
def cntI (m : Nat) (c : Int) : Int := Hu.cnt m c.toNat
def codeI (c : Int) : Int := Hu.codeOf c.toNat
def clsI (c : Int) : Int := Hu.cls c.toNat
theorem qtr {m : Nat} {c : Int} (h : 0 ≤ c) : 0 ≤ cntI m c ∧ cntI m c ≤ c := by
  have := Hu.cnt_le m c.toNat
  unfold cntI; omega
theorem qbk {m : Nat} {c : Int} (h : 0 ≤ c) : cntI m (c + 1) = cntI m c + (if Hu.cls c.toNat = m then 1 else 0) := by
  unfold cntI
  rw [show (c + 1).toNat = c.toNat + 1 by omega, Hu.qtq]
  split <;> simp
theorem codeI_eq {m : Nat} {c : Int} (h : Hu.cls c.toNat = m) : codeI c = Hu.base m + cntI m c := by
  unfold codeI cntI Hu.codeOf; rw [h]; simp
theorem qqy {F : List SV} {n : Nat} : lenS F = n → n = (match F with | [] => 0 | _ :: l => lenS l + 1) := by
  intro h
  cases F with
  | nil => exact h.symm
  | cons x xs => exact h.symm
theorem s_wr' {S : Sy} {F : List SV} {i : Int} {sz j : Nat} {ws : List SV} {K : List SV → Prop} (hS : S0 Tryd.prog = S) (h0 : 0 ≤ i) (h1 : (i.toNat + 1) * sz ≤ F.length) (h2 : j + ws.length ≤ sz) (h3 : plains ws = true)
    (h4 : ∀ F', repl F (i.toNat * sz + j) ws = F' → K F') : S.wr F i sz j ws K := s_wr hS h0 h1 h2 h3 (h4 _ rfl)
theorem subL_put {x y : SV} (h : Sub x y) : ∀ {F F' : List SV} (o : Nat), SubL F F' → SubL (put F o x) (put F' o y)
  | _, _, _, .nil => .nil
  | _, _, 0, .cons _ hs => .cons h hs
  | _, _, o + 1, .cons h1 hs => .cons h1 (subL_put h o hs)
theorem subL_repl {ws ws' : List SV} (h : SubL ws ws') : ∀ {F F' : List SV} (o : Nat), SubL F F' → SubL (repl F o ws) (repl F' o ws') := by
  induction h with
  | nil => exact fun _ h => h
  | cons h _ ih => exact fun o hF => ih (o + 1) (subL_put h o hF)
theorem qji {F F' : List SV} {c a : Int} {m : Nat} (h0 : 0 ≤ c) (h : c < 256) (hF : F = upto c.toNat) (hc : Hu.cls c.toNat = m) (ha : a = Hu.base m + cntI m c) (h' : repl F (c.toNat * 2 + 0) [.i .i64 (.y a), .i .i64 (.l m)] = F') : SubL F' (upto (c + 1).toNat) := by
  rw [← h', hF, show (c + 1).toNat = c.toNat + 1 by omega, ← upto_next (by omega)]
  refine subL_repl (.cons (qba ?_) (.cons (qba ?_) .nil)) _ .rfl
  · simp only [Z.v]; rw [ha, ← codeI_eq hc]; rfl
  · simp only [Z.v]; rw [← hc]
theorem s_all {S : Sy} (hS : S0 Tryd.prog = S) {cs ws : List SV} {sz : Nat} {K : List SV → Prop} (h1 : cs.length = sz) (h2 : ws.length = sz) (hp : plains ws = true) (h : K ws) : S.wr cs 0 sz 0 ws K := by
  refine s_wr hS (Int.le_refl 0) (by rw [h1]; simp) (by rw [h2]; simp) hp ?_
  have : ∀ (cs ws : List SV), cs.length = ws.length → repl cs 0 ws = ws := by
    intro cs
    induction cs with
    | nil => intro ws h; cases ws with
      | nil => rfl
      | cons => simp at h
    | cons c cs ih => intro ws h; cases ws with
      | nil => simp at h
      | cons w ws =>
        rw [repl, put, qjl, ih ws (by simpa using h)]
  rw [show (0 : Int).toNat * sz + 0 = 0 by simp, this cs ws (by rw [h1, h2])]
  exact h
theorem codes_f : (S0 Tryd.prog).call 113 [] [] (fun x _ => Sub x (.ag codeLit)) := by
  generalize hT : codeLit = T
  generalize hS : S0 Tryd.prog = S
  refine qab hS I.qtg ?_
  unfold I.qrb
  generalize hZ : repS 512 [SV.i .i64 (.l 0)] = Zs
  cbv
  refine qab hS I.qth ?_
  cbv
  refine qed hS I.qoy ?_
  cbv
  iterate 4 (refine s_mu hS ?_; cbv)
  have hz : Zs = upto 0 := by rw [← hZ, qsc]; rfl
  have hg : ∀ (F : List SV) (n : Nat), F = upto n → ∀ ok, refsBL ok F = true := by
    intro F n hF ok
    subst hF
    exact qbe (qqk n)
  refine qbh hS 4 I.qjc (fun x : Int × Int × Int × Int × Int × List SV => 0 ≤ x.1 ∧ x.1 ≤ 256 ∧ x.2.1 = cntI 5 x.1 ∧ x.2.2.1 = 32 + cntI 6 x.1 ∧ x.2.2.2.1 = 96 + cntI 7 x.1 ∧ x.2.2.2.2.1 = 1792 + cntI 11 x.1 ∧ x.2.2.2.2.2 = upto x.1.toNat)
    (fun x => [(10, .i .i64 (.y x.1))])
    (fun x => [(0, .c x.2.2.2.2.2), (3, .m [(.i .i64 (.l 5), .i .i64 (.y x.2.1)), (.i .i64 (.l 6), .i .i64 (.y x.2.2.1)), (.i .i64 (.l 7), .i .i64 (.y x.2.2.2.1)), (.i .i64 (.l 11), .i .i64 (.y x.2.2.2.2.1))])])
    (fun x => (256 - x.1).toNat) (0, 0, 32, 96, 1792, Zs) rfl ⟨⟨Int.le_refl _, (by show (0 : Int) ≤ 256; omega), rfl, rfl, rfl, rfl, hz⟩, rfl, ?_, ?_, ?_⟩ ?_
  · cbv; all_goals exact s_sA
  · cbv; all_goals exact s_bA
  · cbv
    exact qvr (hg _ _ hz _)
  · intro x
    obtain ⟨c, a5, a6, a7, a11, F⟩ := x
    intro ha
    dsimp only at ha
    cbv
    obtain ⟨h0, h1, e5, e6, e7, e11, hF⟩ := ha
    refine s_br hS ?_ ?_ <;> intro h
    · cbv
      simp only [← hS, Int.ofNat_eq_natCast, cq, Bool.not_eq_true', Bool.not_eq_false', decide_eq_true_eq, decide_eq_false_iff_not, beq_iff_eq, beq_eq_false_iff_ne, ne_eq] at h
      have k5 := qtr (m := 5) h0
      have k6 := qtr (m := 6) h0
      have k7 := qtr (m := 7) h0
      have k11 := qtr (m := 11) h0
      have hlen : lenS F = 512 := by rw [qbs, hF, qep (by omega)]
      rcases idx_at h0 h with ⟨hc, i5, i6, i7⟩ | ⟨hc, i5, i6, i7⟩ | ⟨hc, i5, i6, i7⟩ | ⟨hc, i5, i6, i7⟩
      · refine qax hS ?_
        cbv
        repeat' (first
          | (refine s_st hS ?_; try cbv)
          | (refine qac hS ?_ ?_ <;> intro h <;> (try cbv) <;> try exact s_ab h)
          | (refine qau hS ?_; intro _ _; try cbv)
          | (refine qaf hS ?_; try cbv))
        refine qdr hS fun r5 h5 => ?_
        replace h5 : 0 ≤ r5 := by rw [← h5]; exact i5
        cbv
        repeat' (first
          | (refine s_st hS ?_; try cbv)
          | (refine qac hS ?_ ?_ <;> intro h <;> (try cbv) <;> try exact s_ab h)
          | (refine qau hS ?_; intro _ _; try cbv)
          | (refine qaf hS ?_; try cbv))
        refine qax hS ?_
        cbv
        repeat' (first
          | (refine s_st hS ?_; try cbv)
          | (refine qac hS ?_ ?_ <;> intro h <;> (try cbv) <;> try exact s_ab h)
          | (refine qau hS ?_; intro _ _; try cbv)
          | (refine qaf hS ?_; try cbv))
        refine qdr hS fun r6 h6 => ?_
        replace h6 : r6 < 0 := by rw [← h6]; exact i6
        cbv
        repeat' (first
          | (refine s_st hS ?_; try cbv)
          | (refine qac hS ?_ ?_ <;> intro h <;> (try cbv) <;> try exact s_ab h)
          | (refine qau hS ?_; intro _ _; try cbv)
          | (refine qaf hS ?_; try cbv))
        refine qax hS ?_
        cbv
        repeat' (first
          | (refine s_st hS ?_; try cbv)
          | (refine qac hS ?_ ?_ <;> intro h <;> (try cbv) <;> try exact s_ab h)
          | (refine qau hS ?_; intro _ _; try cbv)
          | (refine qaf hS ?_; try cbv))
        refine qdr hS fun r7 h7 => ?_
        replace h7 : r7 < 0 := by rw [← h7]; exact i7
        cbv
        repeat' (first
          | (refine s_st hS ?_; try cbv)
          | (refine qac hS ?_ ?_ <;> intro h <;> (try cbv) <;> try exact s_ab h)
          | (refine qau hS ?_; intro _ _; try cbv)
          | (refine qaf hS ?_; try cbv))
        refine qax hS ?_
        cbv
        repeat' (first
          | (refine s_st hS ?_; try cbv)
          | (refine qac hS ?_ ?_ <;> intro h <;> (try cbv) <;> try exact s_ab h)
          | (refine qau hS ?_; intro _ _; try cbv)
          | (refine qaf hS ?_; try cbv))
        refine qev hS rfl rfl ?_
        cbv
        refine qqz (qqy hlen) ?_
        cbv
        repeat' (first
          | (refine s_st hS ?_; try cbv)
          | (refine qac hS ?_ ?_ <;> intro h <;> (try cbv) <;> try exact s_ab h)
          | (refine qau hS ?_; intro _ _; try cbv)
          | (refine qaf hS ?_; try cbv))
        refine s_wr' hS h0 (by rw [hF, qep (by omega)]; omega) (Nat.le_refl 2) rfl ?_
        intro F' hF'
        cbv
        repeat' (first
          | (refine s_st hS ?_; try cbv)
          | (refine qac hS ?_ ?_ <;> intro h <;> (try cbv) <;> try exact s_ab h)
          | (refine qau hS ?_; intro _ _; try cbv)
          | (refine qaf hS ?_; try cbv))
        obtain ⟨c1, h_c1⟩ : ∃ r_, r_ = c + 1 := ⟨_, rfl⟩
        obtain ⟨F2, hF2⟩ : ∃ F2, F2 = upto c1.toNat := ⟨_, rfl⟩
        obtain ⟨b5, h_b5⟩ : ∃ r_, r_ = a5 + 1 := ⟨_, rfl⟩
        have n5 := qbk (m := 5) h0
        have n6 := qbk (m := 6) h0
        have n7 := qbk (m := 7) h0
        have n11 := qbk (m := 11) h0
        rw [hc, ← h_c1] at n5 n6 n7 n11
        simp at n5 n6 n7 n11
        have hsub : SubL F' F2 := by
          rw [hF2, h_c1]
          exact qji h0 (by assumption) hF hc (by simp [Hu.base]; omega) hF'
        refine ⟨(c1, b5, a6, a7, a11, F2), by dsimp only; omega, ⟨by dsimp only; omega, by dsimp only; omega, by dsimp only; omega, by dsimp only; omega, by dsimp only; omega, by dsimp only; omega, hF2⟩, rfl, ?_, ?_, ?_⟩
        · cbv; all_goals exact s_sA
        · cbv; all_goals exact s_bA
        · cbv; exact qvr (hg _ _ hF2 _)
      · refine qax hS ?_
        cbv
        repeat' (first
          | (refine s_st hS ?_; try cbv)
          | (refine qac hS ?_ ?_ <;> intro h <;> (try cbv) <;> try exact s_ab h)
          | (refine qau hS ?_; intro _ _; try cbv)
          | (refine qaf hS ?_; try cbv))
        refine qdr hS fun r5 h5 => ?_
        replace h5 : r5 < 0 := by rw [← h5]; exact i5
        cbv
        repeat' (first
          | (refine s_st hS ?_; try cbv)
          | (refine qac hS ?_ ?_ <;> intro h <;> (try cbv) <;> try exact s_ab h)
          | (refine qau hS ?_; intro _ _; try cbv)
          | (refine qaf hS ?_; try cbv))
        refine qax hS ?_
        cbv
        repeat' (first
          | (refine s_st hS ?_; try cbv)
          | (refine qac hS ?_ ?_ <;> intro h <;> (try cbv) <;> try exact s_ab h)
          | (refine qau hS ?_; intro _ _; try cbv)
          | (refine qaf hS ?_; try cbv))
        refine qdr hS fun r6 h6 => ?_
        replace h6 : 0 ≤ r6 := by rw [← h6]; exact i6
        cbv
        repeat' (first
          | (refine s_st hS ?_; try cbv)
          | (refine qac hS ?_ ?_ <;> intro h <;> (try cbv) <;> try exact s_ab h)
          | (refine qau hS ?_; intro _ _; try cbv)
          | (refine qaf hS ?_; try cbv))
        refine qax hS ?_
        cbv
        repeat' (first
          | (refine s_st hS ?_; try cbv)
          | (refine qac hS ?_ ?_ <;> intro h <;> (try cbv) <;> try exact s_ab h)
          | (refine qau hS ?_; intro _ _; try cbv)
          | (refine qaf hS ?_; try cbv))
        refine qdr hS fun r7 h7 => ?_
        replace h7 : r7 < 0 := by rw [← h7]; exact i7
        cbv
        repeat' (first
          | (refine s_st hS ?_; try cbv)
          | (refine qac hS ?_ ?_ <;> intro h <;> (try cbv) <;> try exact s_ab h)
          | (refine qau hS ?_; intro _ _; try cbv)
          | (refine qaf hS ?_; try cbv))
        refine qax hS ?_
        cbv
        repeat' (first
          | (refine s_st hS ?_; try cbv)
          | (refine qac hS ?_ ?_ <;> intro h <;> (try cbv) <;> try exact s_ab h)
          | (refine qau hS ?_; intro _ _; try cbv)
          | (refine qaf hS ?_; try cbv))
        refine qev hS rfl rfl ?_
        cbv
        refine qqz (qqy hlen) ?_
        cbv
        repeat' (first
          | (refine s_st hS ?_; try cbv)
          | (refine qac hS ?_ ?_ <;> intro h <;> (try cbv) <;> try exact s_ab h)
          | (refine qau hS ?_; intro _ _; try cbv)
          | (refine qaf hS ?_; try cbv))
        refine s_wr' hS h0 (by rw [hF, qep (by omega)]; omega) (Nat.le_refl 2) rfl ?_
        intro F' hF'
        cbv
        repeat' (first
          | (refine s_st hS ?_; try cbv)
          | (refine qac hS ?_ ?_ <;> intro h <;> (try cbv) <;> try exact s_ab h)
          | (refine qau hS ?_; intro _ _; try cbv)
          | (refine qaf hS ?_; try cbv))
        obtain ⟨c1, h_c1⟩ : ∃ r_, r_ = c + 1 := ⟨_, rfl⟩
        obtain ⟨F2, hF2⟩ : ∃ F2, F2 = upto c1.toNat := ⟨_, rfl⟩
        obtain ⟨b6, h_b6⟩ : ∃ r_, r_ = a6 + 1 := ⟨_, rfl⟩
        have n5 := qbk (m := 5) h0
        have n6 := qbk (m := 6) h0
        have n7 := qbk (m := 7) h0
        have n11 := qbk (m := 11) h0
        rw [hc, ← h_c1] at n5 n6 n7 n11
        simp at n5 n6 n7 n11
        have hsub : SubL F' F2 := by
          rw [hF2, h_c1]
          exact qji h0 (by assumption) hF hc (by simp [Hu.base]; omega) hF'
        refine ⟨(c1, a5, b6, a7, a11, F2), by dsimp only; omega, ⟨by dsimp only; omega, by dsimp only; omega, by dsimp only; omega, by dsimp only; omega, by dsimp only; omega, by dsimp only; omega, hF2⟩, rfl, ?_, ?_, ?_⟩
        · cbv; all_goals exact s_sA
        · cbv; all_goals exact s_bA
        · cbv; exact qvr (hg _ _ hF2 _)
      · refine qax hS ?_
        cbv
        repeat' (first
          | (refine s_st hS ?_; try cbv)
          | (refine qac hS ?_ ?_ <;> intro h <;> (try cbv) <;> try exact s_ab h)
          | (refine qau hS ?_; intro _ _; try cbv)
          | (refine qaf hS ?_; try cbv))
        refine qdr hS fun r5 h5 => ?_
        replace h5 : r5 < 0 := by rw [← h5]; exact i5
        cbv
        repeat' (first
          | (refine s_st hS ?_; try cbv)
          | (refine qac hS ?_ ?_ <;> intro h <;> (try cbv) <;> try exact s_ab h)
          | (refine qau hS ?_; intro _ _; try cbv)
          | (refine qaf hS ?_; try cbv))
        refine qax hS ?_
        cbv
        repeat' (first
          | (refine s_st hS ?_; try cbv)
          | (refine qac hS ?_ ?_ <;> intro h <;> (try cbv) <;> try exact s_ab h)
          | (refine qau hS ?_; intro _ _; try cbv)
          | (refine qaf hS ?_; try cbv))
        refine qdr hS fun r6 h6 => ?_
        replace h6 : r6 < 0 := by rw [← h6]; exact i6
        cbv
        repeat' (first
          | (refine s_st hS ?_; try cbv)
          | (refine qac hS ?_ ?_ <;> intro h <;> (try cbv) <;> try exact s_ab h)
          | (refine qau hS ?_; intro _ _; try cbv)
          | (refine qaf hS ?_; try cbv))
        refine qax hS ?_
        cbv
        repeat' (first
          | (refine s_st hS ?_; try cbv)
          | (refine qac hS ?_ ?_ <;> intro h <;> (try cbv) <;> try exact s_ab h)
          | (refine qau hS ?_; intro _ _; try cbv)
          | (refine qaf hS ?_; try cbv))
        refine qdr hS fun r7 h7 => ?_
        replace h7 : 0 ≤ r7 := by rw [← h7]; exact i7
        cbv
        repeat' (first
          | (refine s_st hS ?_; try cbv)
          | (refine qac hS ?_ ?_ <;> intro h <;> (try cbv) <;> try exact s_ab h)
          | (refine qau hS ?_; intro _ _; try cbv)
          | (refine qaf hS ?_; try cbv))
        refine qax hS ?_
        cbv
        repeat' (first
          | (refine s_st hS ?_; try cbv)
          | (refine qac hS ?_ ?_ <;> intro h <;> (try cbv) <;> try exact s_ab h)
          | (refine qau hS ?_; intro _ _; try cbv)
          | (refine qaf hS ?_; try cbv))
        refine qev hS rfl rfl ?_
        cbv
        refine qqz (qqy hlen) ?_
        cbv
        repeat' (first
          | (refine s_st hS ?_; try cbv)
          | (refine qac hS ?_ ?_ <;> intro h <;> (try cbv) <;> try exact s_ab h)
          | (refine qau hS ?_; intro _ _; try cbv)
          | (refine qaf hS ?_; try cbv))
        refine s_wr' hS h0 (by rw [hF, qep (by omega)]; omega) (Nat.le_refl 2) rfl ?_
        intro F' hF'
        cbv
        repeat' (first
          | (refine s_st hS ?_; try cbv)
          | (refine qac hS ?_ ?_ <;> intro h <;> (try cbv) <;> try exact s_ab h)
          | (refine qau hS ?_; intro _ _; try cbv)
          | (refine qaf hS ?_; try cbv))
        obtain ⟨c1, h_c1⟩ : ∃ r_, r_ = c + 1 := ⟨_, rfl⟩
        obtain ⟨F2, hF2⟩ : ∃ F2, F2 = upto c1.toNat := ⟨_, rfl⟩
        obtain ⟨b7, h_b7⟩ : ∃ r_, r_ = a7 + 1 := ⟨_, rfl⟩
        have n5 := qbk (m := 5) h0
        have n6 := qbk (m := 6) h0
        have n7 := qbk (m := 7) h0
        have n11 := qbk (m := 11) h0
        rw [hc, ← h_c1] at n5 n6 n7 n11
        simp at n5 n6 n7 n11
        have hsub : SubL F' F2 := by
          rw [hF2, h_c1]
          exact qji h0 (by assumption) hF hc (by simp [Hu.base]; omega) hF'
        refine ⟨(c1, a5, a6, b7, a11, F2), by dsimp only; omega, ⟨by dsimp only; omega, by dsimp only; omega, by dsimp only; omega, by dsimp only; omega, by dsimp only; omega, by dsimp only; omega, hF2⟩, rfl, ?_, ?_, ?_⟩
        · cbv; all_goals exact s_sA
        · cbv; all_goals exact s_bA
        · cbv; exact qvr (hg _ _ hF2 _)
      · refine qax hS ?_
        cbv
        repeat' (first
          | (refine s_st hS ?_; try cbv)
          | (refine qac hS ?_ ?_ <;> intro h <;> (try cbv) <;> try exact s_ab h)
          | (refine qau hS ?_; intro _ _; try cbv)
          | (refine qaf hS ?_; try cbv))
        refine qdr hS fun r5 h5 => ?_
        replace h5 : r5 < 0 := by rw [← h5]; exact i5
        cbv
        repeat' (first
          | (refine s_st hS ?_; try cbv)
          | (refine qac hS ?_ ?_ <;> intro h <;> (try cbv) <;> try exact s_ab h)
          | (refine qau hS ?_; intro _ _; try cbv)
          | (refine qaf hS ?_; try cbv))
        refine qax hS ?_
        cbv
        repeat' (first
          | (refine s_st hS ?_; try cbv)
          | (refine qac hS ?_ ?_ <;> intro h <;> (try cbv) <;> try exact s_ab h)
          | (refine qau hS ?_; intro _ _; try cbv)
          | (refine qaf hS ?_; try cbv))
        refine qdr hS fun r6 h6 => ?_
        replace h6 : r6 < 0 := by rw [← h6]; exact i6
        cbv
        repeat' (first
          | (refine s_st hS ?_; try cbv)
          | (refine qac hS ?_ ?_ <;> intro h <;> (try cbv) <;> try exact s_ab h)
          | (refine qau hS ?_; intro _ _; try cbv)
          | (refine qaf hS ?_; try cbv))
        refine qax hS ?_
        cbv
        repeat' (first
          | (refine s_st hS ?_; try cbv)
          | (refine qac hS ?_ ?_ <;> intro h <;> (try cbv) <;> try exact s_ab h)
          | (refine qau hS ?_; intro _ _; try cbv)
          | (refine qaf hS ?_; try cbv))
        refine qdr hS fun r7 h7 => ?_
        replace h7 : r7 < 0 := by rw [← h7]; exact i7
        cbv
        repeat' (first
          | (refine s_st hS ?_; try cbv)
          | (refine qac hS ?_ ?_ <;> intro h <;> (try cbv) <;> try exact s_ab h)
          | (refine qau hS ?_; intro _ _; try cbv)
          | (refine qaf hS ?_; try cbv))
        refine qax hS ?_
        cbv
        repeat' (first
          | (refine s_st hS ?_; try cbv)
          | (refine qac hS ?_ ?_ <;> intro h <;> (try cbv) <;> try exact s_ab h)
          | (refine qau hS ?_; intro _ _; try cbv)
          | (refine qaf hS ?_; try cbv))
        refine qev hS rfl rfl ?_
        cbv
        refine qqz (qqy hlen) ?_
        cbv
        repeat' (first
          | (refine s_st hS ?_; try cbv)
          | (refine qac hS ?_ ?_ <;> intro h <;> (try cbv) <;> try exact s_ab h)
          | (refine qau hS ?_; intro _ _; try cbv)
          | (refine qaf hS ?_; try cbv))
        refine s_wr' hS h0 (by rw [hF, qep (by omega)]; omega) (Nat.le_refl 2) rfl ?_
        intro F' hF'
        cbv
        repeat' (first
          | (refine s_st hS ?_; try cbv)
          | (refine qac hS ?_ ?_ <;> intro h <;> (try cbv) <;> try exact s_ab h)
          | (refine qau hS ?_; intro _ _; try cbv)
          | (refine qaf hS ?_; try cbv))
        obtain ⟨c1, h_c1⟩ : ∃ r_, r_ = c + 1 := ⟨_, rfl⟩
        obtain ⟨F2, hF2⟩ : ∃ F2, F2 = upto c1.toNat := ⟨_, rfl⟩
        obtain ⟨b11, h_b11⟩ : ∃ r_, r_ = a11 + 1 := ⟨_, rfl⟩
        have n5 := qbk (m := 5) h0
        have n6 := qbk (m := 6) h0
        have n7 := qbk (m := 7) h0
        have n11 := qbk (m := 11) h0
        rw [hc, ← h_c1] at n5 n6 n7 n11
        simp at n5 n6 n7 n11
        have hsub : SubL F' F2 := by
          rw [hF2, h_c1]
          exact qji h0 (by assumption) hF hc (by simp [Hu.base]; omega) hF'
        refine ⟨(c1, a5, a6, a7, b11, F2), by dsimp only; omega, ⟨by dsimp only; omega, by dsimp only; omega, by dsimp only; omega, by dsimp only; omega, by dsimp only; omega, by dsimp only; omega, hF2⟩, rfl, ?_, ?_, ?_⟩
        · cbv; all_goals exact s_sA
        · cbv; all_goals exact s_bA
        · cbv; exact qvr (hg _ _ hF2 _)
    · simp only [← hS, Int.ofNat_eq_natCast, cq, Bool.not_eq_true', Bool.not_eq_false', decide_eq_true_eq, decide_eq_false_iff_not, beq_iff_eq, beq_eq_false_iff_ne, ne_eq] at h
      have hF2 : F = codeLit := by rw [hF, show c = 256 by omega]; exact qfp
      rw [hF2]
      cbv
      refine qrw hS (by subst hS; kernel_rfl) ?_
      refine s_all hS (by kernel_rfl) (by kernel_rfl) (by kernel_rfl) ?_
      cbv
      rw [← hT]
      exact Sub.rfl
end Cz
namespace Cz
open Go Go.RowKit Go.Proofs
theorem qpj {T : List SV} (hT : codeLit = T) : lenS T = 512 := by rw [qbs, ← hT, ← qfp, qep (Nat.le_refl _)]
end Cz
namespace Cz
open Go Go.RowKit Go.Proofs
theorem SubM.refl : ∀ (es : List (SV × SV)), SubM es es
  | [] => .nil
  | (_, _) :: r => .cons .rfl .rfl (SubM.refl r)
end Cz
namespace Cz
open Go Go.RowKit Go.Proofs
def findO (a m : Int) : Option Nat := if 0 ≤ a ∧ 0 ≤ m then Hu.find a.toNat m.toNat else none
def findR (a m : Int) : Int := match findO a m with | some c => c | none => 0
end Cz
namespace Cz
open Go Go.RowKit Go.Proofs
theorem rowB {S : Sy} (hS : S0 Tryd.prog = S) {b : List Int} {F : List SV} (hF : cellsB b = F) {q i v : Int} {K : SV → Prop} (hv : b[q.toNat]? = some v) (hi : i = q) (h0 : 0 ≤ q) (h : K (.i .u8 (.y v))) : S.rd F i 1 0 1 false K := by
  subst hi
  exact s_rowp hS (enc := by1) hF hv (fun _ => rfl) h0 (Nat.le_refl _) rfl h
end Cz
namespace Cz
open Go Go.RowKit Go.Proofs
def bitsI (b : List Int) (k : Int) : Int := Hu.nbits (b.take k.toNat)
theorem zs_len {Zs : List SV} (h : repS 512 [SV.i .i64 (.l 0)] = Zs) : Zs.length = 512 := by rw [← h, qsc, List.length_replicate]
theorem qke {T : List SV} (h : codeLit = T) : plains T = true := by rw [← h, ← qfp]; exact qqk 256
theorem gc_c {x y : Bool} : x = true → y = true → (match x with | false => false | true => y) = true := by intro hx hy; subst hx; exact hy
theorem gc_m {F : List SV} {ok : Nat → Bool} : refsBL ok F = true → (match F with | [] => true | x :: xs => refsB ok x && refsBL ok xs) = true := by
  intro h
  cases F with
  | nil => rfl
  | cons x xs => simpa only [refsBL] using h
theorem code_at {c j : Nat} (h : c < 256) (hj : j + 1 ≤ 2) : ((upto 256).drop (c * 2 + j)).take 1 = ((cellC c).drop j).take 1 := by
  have e : upto 256 = (List.range 256).flatMap cellC := by simp [upto]
  rw [e]
  exact qxk (enc := cellC) (sz := 2) (fun _ => rfl) (l := List.range 256) (i := c) (a := c) (by simp [h]) j 1 hj
theorem code_rd1 {S : Sy} (hS : S0 Tryd.prog = S) {T : List SV} (hT : codeLit = T) {c : Int} {K : SV → Prop} (h0 : 0 ≤ c) (h : c < 256) {m : Int} (hm : clsI c = m)
    (h1 : K (.i .i64 (.y m))) : S.rd T c 2 1 1 false K := by
  subst hT hm
  rw [← qfp]
  refine s_rd hS h0 (by rw [qep (Nat.le_refl _)]; omega) (Nat.le_refl _) (v := .i .i64 (.y (clsI c))) ?_ h1
  rw [code_at (by omega) (by omega)]
  rfl
theorem code_rd0 {S : Sy} (hS : S0 Tryd.prog = S) {T : List SV} (hT : codeLit = T) {c : Int} {K : SV → Prop} (h0 : 0 ≤ c) (h : c < 256) {m : Int} (hm : codeI c = m)
    (h1 : K (.i .i64 (.y m))) : S.rd T c 2 0 1 false K := by
  subst hT hm
  rw [← qfp]
  refine s_rd hS h0 (by rw [qep (Nat.le_refl _)]; omega) (by omega) (v := .i .i64 (.y (codeI c))) ?_ h1
  rw [code_at (by omega) (by omega)]
  rfl
theorem qxp (c : Int) : 5 ≤ clsI c ∧ clsI c ≤ 11 := by
  unfold clsI
  rcases Hu.qhi c.toNat with h | h | h | h <;> rw [h] <;> decide
theorem qrm {b : List Int} {j v : Int} (hv : b[j.toNat]? = some v) (h0 : 0 ≤ j) : bitsI b (j + 1) = bitsI b j + clsI v := by
  unfold bitsI Hu.nbits Hu.enc clsI
  rw [qdh hv h0, List.flatMap_append, List.length_append]
  simp [Hu.cod, Hu.qdb]
theorem qkk {b : List Int} {j : Int} (h0 : 0 ≤ j) : 0 ≤ bitsI b j ∧ bitsI b j ≤ 11 * j := by
  unfold bitsI Hu.nbits Hu.enc
  have h1 : ∀ (l : List Int), (l.flatMap fun v => Hu.cod v.toNat).length ≤ 11 * l.length := by
    intro l
    induction l with
    | nil => simp
    | cons v l ih =>
      have := qxp v
      unfold clsI at this
      simp only [List.flatMap_cons, List.length_append, List.length_cons, Hu.cod, Hu.qdb] at ih ⊢
      omega
  have h2 := h1 (b.take j.toNat)
  have h3 : (b.take j.toNat).length ≤ j.toNat := by rw [List.length_take]; omega
  omega
theorem Bits_f {b : List Int} {r : Int} (hb : Hu.BOk b) (hn : ilen b ≤ 1000000) (hr : bitsI b (ilen b) = r) :
    (S0 Tryd.prog).call 101 [.sl 0 1 (.l 0) (.y (ilen b)) none] [.r true true (.l 0) 1 (cellsB b)] (fun x _ => Sub x (.i .i64 (.y r))) := by
  obtain ⟨n, hn'⟩ : ∃ n, n = ilen b := ⟨_, rfl⟩
  have h0n := qai b
  rw [← hn'] at hn h0n hr ⊢
  have hpl := qam b
  generalize hF : cellsB b = F at hpl ⊢
  have hc := codes_f
  generalize hT : codeLit = T at hc
  have hTl := qpj hT
  generalize hS : S0 Tryd.prog = S
  refine qab hS I.qvx ?_
  unfold I.qvp
  generalize hZ : repS 512 [SV.i .i64 (.l 0)] = Zs
  have hZn := zs_len hZ
  have hTn : T.length = 512 := by rw [← qbs]; exact hTl
  have hTp := qke hT
  cbv
  refine qbq hS hc .rfl rfl (by rw [← hT]; rfl) ?_
  cbv
  refine qrw hS (by subst hS; simp only [qxj, cmp_eq, hTn]; rfl) ?_
  refine s_all hS hZn hTn hTp ?_
  cbv
  refine qbh hS 2 I.qmq (fun x : Int × Int => 0 ≤ x.1 ∧ x.1 ≤ n ∧ x.2 = bitsI b x.1)
    (fun x => [(9, .i .i64 (.y x.1)), (2, .i .i64 (.y x.2))]) (fun x => [])
    (fun x => (n - x.1).toNat) (0, 0) rfl ⟨⟨Int.le_refl _, by dsimp only; omega, rfl⟩, rfl, ?_, ?_, ?_⟩ ?_
  · cbv; all_goals exact s_sA
  · cbv; all_goals exact s_bA
  · cbv; exact gc_c (gc_m (qbe hpl)) (gc_c (gc_m (qbe hTp)) rfl)
  · intro x
    obtain ⟨j, w⟩ := x
    intro hx
    dsimp only at hx
    cbv
    obtain ⟨g0, g1, g2⟩ := hx
    repeat' (first
      | (refine s_st hS ?_; try cbv)
      | (refine qac hS ?_ ?_ <;> intro h <;> (try cbv) <;> try exact s_ab h)
      | (refine qau hS ?_; intro _ _; try cbv)
      | (refine qaf hS ?_; try cbv))
    · obtain ⟨v, hv⟩ := qkl (l := b) (i := j) (by omega) (by omega)
      have hb0 := hb v (List.mem_of_getElem? hv)
      obtain ⟨m, hm⟩ : ∃ m, clsI v = m := ⟨_, rfl⟩
      have hmb := qxp v
      rw [hm] at hmb
      have hbd := qkk (b := b) g0
      have hnx := qrm hv g0
      rw [hm] at hnx
      repeat' (first
        | (refine s_st hS ?_; try cbv)
        | (refine qac hS ?_ ?_ <;> intro h <;> (try cbv) <;> try exact s_ab h)
        | (refine qau hS ?_; intro _ _; try cbv)
        | (refine qaf hS ?_; try cbv)
        | (refine rowB hS hF hv rfl (by omega) ?_; try cbv)
        | (refine qqz (qqy hTl) ?_; cbv)
        | (refine code_rd1 hS hT hb0.1 hb0.2 hm ?_; cbv))
      rename_i w2 hw2 j2 hj2
      refine ⟨(j2, w2), by dsimp only; omega, ⟨by dsimp only; omega, by dsimp only; omega, by dsimp only; rw [hj2, hnx]; omega⟩, rfl, ?_, ?_, ?_⟩
      · cbv; all_goals exact s_sA
      · cbv; all_goals exact s_bA
      · cbv; exact gc_c (gc_m (qbe hpl)) (gc_c (gc_m (qbe hTp)) rfl)
    · have e : w = r := by rw [← hr, g2, show j = n by omega]
      all_goals exact s_sA
end Cz
namespace Cz
open Go Go.RowKit Go.Proofs
def encT (b : List Int) (j : Int) : List Bool := Hu.enc (b.take j.toNat)
def outI (b : List Int) (j q : Int) : List Int := Hu.packs q.toNat (encT b j)
def rowI (b : List Int) (j q : Int) : Int := Hu.valB ((encT b j).drop (8 * q.toNat))
theorem qgh (b : List Int) (j : Int) : ((encT b j).length : Int) = bitsI b j := rfl
theorem qwd {b : List Int} {j v : Int} (hv : b[j.toNat]? = some v) (h0 : 0 ≤ j) : encT b (j + 1) = encT b j ++ Hu.cod v.toNat := by
  unfold encT Hu.enc
  rw [qdh hv h0, List.flatMap_append]
  simp
theorem qkx : ∀ (q : Nat) (E : List Bool), Hu.packs (q + 1) E = Hu.packs q E ++ [(Hu.valB ((E.drop (8 * q)).take 8) : Int)]
  | 0, E => by simp [Hu.packs]
  | q + 1, E => by
    rw [Hu.packs, qkx q (E.drop 8), Hu.packs, List.drop_drop, show 8 + 8 * q = 8 * (q + 1) by omega]
    rfl
theorem qny : ∀ (q : Nat) (E D : List Bool), 8 * q ≤ E.length → Hu.packs q (E ++ D) = Hu.packs q E
  | 0, _, _, _ => rfl
  | q + 1, E, D, h => by
    rw [Hu.packs, Hu.packs, List.take_append_of_le_length (by omega), List.drop_append_of_le_length (by omega), qny q _ _ (by simp; omega)]
theorem qfx (k : Nat) : ((2 ^ k : Nat) : Int) = (2 : Int) ^ k := by norm_cast
theorem row_next {b : List Int} {j q v : Int} (hv : b[j.toNat]? = some v) (h0 : 0 ≤ j) (hq : 0 ≤ q) (h : 8 * q ≤ bitsI b j) (hb : 0 ≤ v ∧ v < 256) :
    rowI b (j + 1) q = rowI b j q * 2 ^ (clsI v).toNat + codeI v := by
  unfold rowI
  rw [qwd hv h0, List.drop_append_of_le_length (by rw [← qgh] at h; omega), Hu.qdd]
  unfold clsI codeI Hu.cod
  rw [Hu.qdb, Hu.qkn _ _ (Hu.qxo (by omega))]
  push_cast
  simp
theorem out_next {b : List Int} {j q v : Int} (hv : b[j.toNat]? = some v) (h0 : 0 ≤ j) (hq : 0 ≤ q) (h : 8 * q ≤ bitsI b j) : outI b (j + 1) q = outI b j q := by
  unfold outI
  rw [qwd hv h0, qny _ _ _ (by rw [← qgh] at h; omega)]
theorem valB_mod (A B : List Bool) : Hu.valB (A ++ B) % 2 ^ B.length = Hu.valB B := by
  rw [Hu.qdd, Nat.add_comm, Nat.add_mul_mod_self_right, Nat.mod_eq_of_lt (Hu.qnf B)]
theorem valB_div (A B : List Bool) : Hu.valB (A ++ B) / 2 ^ B.length = Hu.valB A := by
  rw [Hu.qdd, Nat.add_comm, Nat.add_mul_div_right _ _ (Nat.two_pow_pos _), Nat.div_eq_of_lt (Hu.qnf B), Nat.zero_add]
theorem row_mask {b : List Int} {j q q0 : Int} (hq0 : 0 ≤ q0) (hq : q0 ≤ q) (h : 8 * q ≤ bitsI b j) : rowI b j q0 % 2 ^ (bitsI b j - 8 * q).toNat = rowI b j q := by
  unfold rowI
  rw [← qgh] at h ⊢
  generalize encT b j = E at h ⊢
  have e : E.drop (8 * q0.toNat) = (E.drop (8 * q0.toNat)).take (8 * (q.toNat - q0.toNat)) ++ E.drop (8 * q.toNat) := by
    conv => lhs; rw [← List.take_append_drop (8 * (q.toNat - q0.toNat)) (E.drop (8 * q0.toNat))]
    rw [List.drop_drop, show 8 * q0.toNat + 8 * (q.toNat - q0.toNat) = 8 * q.toNat by omega]
  have hl : ((E.length : Int) - 8 * q).toNat = (E.drop (8 * q.toNat)).length := by rw [List.length_drop]; omega
  rw [hl, ← qfx, ← Int.natCast_emod]
  rw [e, valB_mod]
theorem row_bd {b : List Int} {j q : Int} (hq : 0 ≤ q) (h : 8 * q ≤ bitsI b j) : 0 ≤ rowI b j q ∧ rowI b j q < 2 ^ (bitsI b j - 8 * q).toNat := by
  unfold rowI
  rw [← qgh] at h ⊢
  have h1 := Hu.qnf ((encT b j).drop (8 * q.toNat))
  rw [List.length_drop, show (encT b j).length - 8 * q.toNat = (((encT b j).length : Int) - 8 * q).toNat by omega] at h1
  rw [← qfx]
  omega
theorem out_more {b : List Int} {j q q0 r s u x : Int} (hq0 : 0 ≤ q0) (hq : q0 ≤ q) (h : 8 * (q + 1) ≤ bitsI b j) (hr : rowI b j q0 = r) (hu : u = bitsI b j - 8 * (q + 1)) (hs : s = r / 2 ^ u.toNat) (hx : x = s % 256) :
    outI b j (q + 1) = outI b j q ++ [x] := by
  unfold outI
  rw [show (q + 1).toNat = q.toNat + 1 by omega, qkx]
  congr 2
  rw [hx, hs, ← hr, hu]
  unfold rowI
  rw [← qgh] at h ⊢
  generalize encT b j = E at h ⊢
  have e1 : E.drop (8 * q0.toNat) = (E.drop (8 * q0.toNat)).take (8 * (q.toNat - q0.toNat)) ++ ((E.drop (8 * q.toNat)).take 8 ++ E.drop (8 * (q.toNat + 1))) := by
    have e2 : E.drop (8 * q.toNat) = (E.drop (8 * q.toNat)).take 8 ++ E.drop (8 * (q.toNat + 1)) := by
      conv => lhs; rw [← List.take_append_drop 8 (E.drop (8 * q.toNat))]
      rw [List.drop_drop, show 8 * q.toNat + 8 = 8 * (q.toNat + 1) by omega]
    rw [← e2]
    conv => lhs; rw [← List.take_append_drop (8 * (q.toNat - q0.toNat)) (E.drop (8 * q0.toNat))]
    rw [List.drop_drop, show 8 * q0.toNat + 8 * (q.toNat - q0.toNat) = 8 * q.toNat by omega]
  have hl : ((E.length : Int) - 8 * (q + 1)).toNat = (E.drop (8 * (q.toNat + 1))).length := by rw [List.length_drop]; omega
  rw [hl, e1, ← List.append_assoc, ← qfx, ← Int.natCast_ediv, valB_div]
  have h8 : ((E.drop (8 * q.toNat)).take 8).length = 8 := by rw [List.length_take, List.length_drop]; omega
  have := valB_mod ((E.drop (8 * q0.toNat)).take (8 * (q.toNat - q0.toNat))) ((E.drop (8 * q.toNat)).take 8)
  rw [h8] at this
  rw [← this]
  rfl
theorem put_end0 {b : List Int} {n q : Int} (hn : n = ilen b) (hq : 0 ≤ q) (h : bitsI b n = 8 * q) : Hu.put b = outI b n q := by
  have e : encT b n = Hu.enc b := by unfold encT; rw [qbf (by omega)]
  have hl := qgh b n
  rw [h, e] at hl
  unfold outI Hu.put Hu.pack
  rw [e]
  have : Hu.padded (Hu.enc b) = Hu.enc b := by unfold Hu.padded Hu.pad; rw [show (8 - (Hu.enc b).length % 8) % 8 = 0 by omega]; simp
  rw [this, show (Hu.enc b).length / 8 = q.toNat by omega]
theorem put_end1 {b : List Int} {n q w u x : Int} (hn : n = ilen b) (hq : 0 ≤ q) (hu : u = 8 - (bitsI b n - 8 * q)) (h1 : 0 < bitsI b n - 8 * q) (h2 : bitsI b n - 8 * q < 8) (hr : rowI b n q = w)
    (hx : x = w * 2 ^ u.toNat + (2 ^ u.toNat - 1)) : Hu.put b = outI b n q ++ [x] := by
  have e : encT b n = Hu.enc b := by unfold encT; rw [qbf (by omega)]
  have hl := qgh b n
  rw [e] at hl
  unfold rowI at hr
  unfold outI Hu.put Hu.pack
  rw [Hu.qkw, e]
  rw [e] at hr
  rw [show 8 * (((Hu.enc b).length + 7) / 8) / 8 = q.toNat + 1 by omega, qkx]
  have hp : Hu.pad (Hu.enc b).length = u.toNat := by unfold Hu.pad; omega
  have e1 : Hu.packs q.toNat (Hu.padded (Hu.enc b)) = Hu.packs q.toNat (Hu.enc b) := by unfold Hu.padded; rw [qny _ _ _ (by omega)]
  rw [e1]
  congr 2
  unfold Hu.padded
  rw [hp, List.drop_append_of_le_length (by omega), List.take_of_length_le (by simp; omega), Hu.qdd, List.length_replicate, Hu.qne, hx, ← hr]
  have := Nat.two_pow_pos u.toNat
  rw [← qfx, Int.natCast_add, Int.natCast_mul, Int.natCast_sub (by omega)]
  rfl
theorem qsi (b : List Int) (j q : Int) (hq : 0 ≤ q) : ilen (outI b j q) = q := by unfold ilen outI; rw [Hu.qnz]; omega
end Cz
namespace Cz
open Go Go.RowKit Go.Proofs
theorem s_cv8 {S : Sy} {P : Program} {a : Int} {K : Int → Prop} (hS : S0 P = S) (h : ∀ r, r = a % 256 → K r) : S.cv .u8 a K := by
  refine s_cve hS _ ?_ (h _ rfl)
  simp [IntKind.wrap, IntKind.bits, IntKind.signed]
theorem subB_app {S : Sy} (hS : S0 Tryd.prog = S) {l l' : List Int} {F G : List SV} {x st' : Int} {ro lit : Bool} {st : Z} (hF : cellsB l = F) (hG : cellsB l' = G) (hl : l' = l ++ [x]) (hst : st.v = st') :
    SubB (.r ro lit st 1 (S.app F [.i .u8 (.y x)])) (.r ro false (.y st') 1 G) := by
  subst hS hF hG hl
  refine .r ?_ hst (qam _)
  rw [app_eq]
  have : cellsB l ++ [SV.i .u8 (.y x)] = cellsB (l ++ [x]) := by unfold cellsB; rw [List.flatMap_append]; rfl
  rw [this]
  exact .rfl
theorem qqn {S : Sy} (hS : S0 Tryd.prog = S) {q : Int} {sz : Nat} {G : List SV} {k : Unit → Prop} (h : ilen G = q * sz) (hk : k ()) : S.chk (S.cmp .eq (S.sc q sz) (S.flen G)) k := by
  subst hS
  refine qrw rfl ?_ hk
  rw [cmp_eq, sc_eq, qxj]
  unfold ilen at h
  exact decide_eq_true h.symm
theorem qbc (l : List Int) : ilen (cellsB l) = ilen l := by rw [qlr]; simp [ilen]
theorem qux {S : Sy} (hS : S0 Tryd.prog = S) {n0 k : Nat} {l L : List Int} {F G : List SV} {x : Int} {lit : Bool} {st nn : Z} {l' : List Blk} (hF : cellsB l = F) (hG : cellsB L = G) (hl : L = l ++ [x]) (hk : n0 ≤ k)
    (hn : nn.v = ilen l + 1) (hB : l'[k]? = some (.r false lit st 1 (S.app F [.i .u8 (.y x)]))) : RowIs n0 1 G (.sl k 1 (.l 0) nn none) l' := by
  subst hS hF hG hl
  have e : (S0 Tryd.prog).app (cellsB l) [SV.i .u8 (.y x)] = cellsB (l ++ [x]) := by rw [app_eq]; unfold cellsB; rw [List.flatMap_append]; rfl
  rw [e] at hB
  refine .inr ⟨k, nn, lit, st, _, hk, rfl, hB, .rfl, qam _, ?_⟩
  have := qbc (l ++ [x])
  unfold ilen at this hn
  rw [this, hn]
  simp
theorem qqo {n0 k : Nat} {l : List Int} {G : List SV} {lit : Bool} {st nn : Z} {l' : List Blk} (hG : cellsB l = G) (hk : n0 ≤ k)
    (hn : nn.v = ilen l) (hB : l'[k]? = some (.r false lit st 1 G)) : RowIs n0 1 G (.sl k 1 (.l 0) nn none) l' := by
  subst hG
  refine .inr ⟨k, nn, lit, st, _, hk, rfl, hB, .rfl, qam _, ?_⟩
  have := qbc l
  unfold ilen at this hn
  rw [this, hn]
  simp
theorem codeI_bd {v : Int} (h : 0 ≤ v ∧ v < 256) : 0 ≤ codeI v ∧ codeI v < 2 ^ (clsI v).toNat ∧ codeI v < 2048 := by
  have h1 := Hu.qxo (c := v.toNat) (by omega)
  have h2 : (2 : Nat) ^ Hu.cls v.toNat ≤ 2 ^ 11 := Nat.pow_le_pow_right (by omega) (by rcases Hu.qhi v.toNat with h | h | h | h <;> omega)
  unfold codeI clsI
  rw [Int.toNat_natCast, ← qfx]
  omega
theorem row_bd' {b : List Int} {j q : Int} (hq : 0 ≤ q) (h : 8 * q ≤ bitsI b j) {k : Nat} (hk : bitsI b j - 8 * q ≤ k) : 0 ≤ rowI b j q ∧ rowI b j q < 2 ^ k := by
  have h1 := row_bd hq h
  have h2 := qnv (m := (bitsI b j - 8 * q).toNat) (n := k) (by omega)
  omega
theorem put_f {b : List Int} (hb : Hu.BOk b) (hn : ilen b ≤ 1000000) :
    (S0 Tryd.prog).call 103 [.sl 0 1 (.l 0) (.y (ilen b)) none] [.r true true (.l 0) 1 (cellsB b)] (OwnR 1 1 (cellsB (Hu.put b)) false []) := by
  obtain ⟨n, hn'⟩ : ∃ n, n = ilen b := ⟨_, rfl⟩
  have h0n := qai b
  rw [← hn'] at hn h0n ⊢
  have hpl := qam b
  generalize hF : cellsB b = F at hpl ⊢
  have hc := codes_f
  generalize hT : codeLit = T at hc
  have hTl := qpj hT
  have hTn : T.length = 512 := by rw [← qbs]; exact hTl
  have hTp := qke hT
  generalize hP : cellsB (Hu.put b) = P
  generalize hS : S0 Tryd.prog = S
  refine qab hS I.qxi ?_
  unfold I.huff_Put
  generalize hZ : repS 512 [SV.i .i64 (.l 0)] = Zs
  have hZn := zs_len hZ
  cbv
  refine qbq hS hc .rfl rfl (by rw [← hT]; rfl) ?_
  cbv
  refine qrw hS (by subst hS; simp only [qxj, cmp_eq, hTn]; rfl) ?_
  refine s_all hS hZn hTn hTp ?_
  cbv
  refine s_loop_nil hS 2 1 (by omega) rfl ?_
  cbv
  refine qbh hS 3 I.qpi (fun x : Int × Int × Int × Int × Int × List SV => 0 ≤ x.1 ∧ x.1 ≤ n ∧ 0 ≤ x.2.2.2.1 ∧ x.2.1 = bitsI b x.1 - 8 * x.2.2.2.1 ∧ 0 ≤ x.2.1 ∧ x.2.1 < 8 ∧ x.2.2.1 = rowI b x.1 x.2.2.2.1 ∧ x.2.2.2.2.2 = cellsB (outI b x.1 x.2.2.2.1))
    (fun x => [(12, .i .i64 (.y x.1)), (4, .i .i64 (.y x.2.1)), (3, .i .u64 (.y x.2.2.1)), (2, .sl 2 1 (.l 0) (.y x.2.2.2.1) none)]) (fun x => [(2, .r false false (.y x.2.2.2.2.1) 1 x.2.2.2.2.2)])
    (fun x => (n - x.1).toNat) (0, 0, 0, 0, 0, []) rfl ⟨⟨Int.le_refl _, by dsimp only; omega, by dsimp only; omega, rfl, by dsimp only; omega, by dsimp only; omega, rfl, rfl⟩, rfl, ?_, ?_, ?_⟩ ?_
  · cbv; (repeat' (first | exact qgr | exact Sub.rfl | exact SubL.nil | refine SubL.cons ?_ ?_ | exact qba rfl | exact qjh rfl rfl))
  · cbv; refine ⟨.rfl, .rfl, .r .rfl rfl rfl, trivial⟩
  · cbv; exact gc_c (gc_m (qbe hpl)) (gc_c (gc_m (qbe hTp)) rfl)
  · intro x
    obtain ⟨j, u, w, q, st, G⟩ := x
    intro hx
    dsimp only at hx
    cbv
    obtain ⟨g0, g1, g2, g3, g4, g5, g6, g7⟩ := hx
    refine qac hS ?_ ?_ <;> intro h <;> cbv
    · obtain ⟨v, hv⟩ := qkl (l := b) (i := j) (by omega) (by omega)
      have hb0 := hb v (List.mem_of_getElem? hv)
      obtain ⟨m, hm⟩ : ∃ m, clsI v = m := ⟨_, rfl⟩
      obtain ⟨c, hcv⟩ : ∃ c, codeI v = c := ⟨_, rfl⟩
      have hmb := qxp v
      rw [hm] at hmb
      have hbd := qkk (b := b) g0
      have hnx := qrm hv g0
      rw [hm] at hnx
      repeat' (first
        | (refine s_st hS ?_; try cbv)
        | (refine qac hS ?_ ?_ <;> intro h <;> (try cbv) <;> try exact s_ab h)
        | (refine qau hS ?_; intro _ _; try cbv)
        | (refine qaf hS ?_; try cbv)
        | (refine rowB hS hF hv rfl (by omega) ?_; try cbv))
      have hcb := codeI_bd hb0
      rw [hcv, hm] at hcb
      have hW := row_next hv g0 g2 (by omega) hb0
      rw [hm, hcv, ← g6] at hW
      have hWb := row_bd' (b := b) (j := j + 1) (q := q) g2 (by omega) (k := 18) (by omega)
      obtain ⟨p, hp⟩ : ∃ p : Int, 2 ^ m.toNat = p := ⟨_, rfl⟩
      rw [hp] at hW hcb
      obtain ⟨W, hWe⟩ : ∃ W, rowI b (j + 1) q = W := ⟨_, rfl⟩
      rw [hWe] at hW hWb
      have hw0 := (row_bd (b := b) (j := j) (q := q) g2 (by omega)).1
      rw [← g6] at hw0
      have hwp : 0 ≤ w * p := Int.mul_nonneg hw0 (by omega)
      refine qad hS rfl I.qps (by decide +kernel) ?_
      cbv
      repeat' (first
        | (refine s_st hS ?_; try cbv)
        | (refine qac hS ?_ ?_ <;> intro h <;> (try cbv) <;> try exact s_ab h)
        | (refine qau hS ?_; intro _ _; try cbv)
        | (refine qaf hS ?_; try cbv)
        | (refine rowB hS hF hv rfl (by omega) ?_; try cbv)
        | (refine qqz (qqy hTl) ?_; cbv)
        | (refine code_rd1 hS hT hb0.1 hb0.2 hm ?_; cbv)
        | (refine code_rd0 hS hT hb0.1 hb0.2 hcv ?_; cbv)
        | (refine And.intro rfl ?_; try cbv)
        | (refine s_shll hS (c := p) (by rw [← hp]; congr 1; simp only [IntKind.bits]; omega) ?_ (by simp only [lo]; omega) (by simp only [hi]; omega); intro _ _; cbv)
        | (refine s_orl hS hp (by omega) (by simp only [*]; exact Int.mul_emod_left _ _) (by omega) (by omega) (by simp only [hi]; omega) ?_; intro _ _; cbv))
      rename_i r1 hr1 r2 hr2 u1 hu1
      obtain ⟨j1, h_j1⟩ : ∃ j1, j1 = j + 1 := ⟨_, rfl⟩
      rw [← h_j1] at hnx hWe
      have hout : G = cellsB (outI b j1 q) := by rw [g7, h_j1, out_next hv g0 g2 (by omega)]
      have hr2W : rowI b j1 q = r2 := by rw [hWe]; omega
      clear hp hwp hr1 hr2 hW hWe hcb
      refine qbh hS 3 I.qph (fun x : Int × Int × Int × List SV => q ≤ x.2.1 ∧ x.1 = bitsI b j1 - 8 * x.2.1 ∧ 0 ≤ x.1 ∧ x.1 ≤ 18 ∧ x.2.2.2 = cellsB (outI b j1 x.2.1))
        (fun x => [(4, .i .i64 (.y x.1)), (2, .sl 2 1 (.l 0) (.y x.2.1) none)]) (fun x => [(2, .r false false (.y x.2.2.1) 1 x.2.2.2)])
        (fun x => x.1.toNat) (u1, q, st, G) rfl ⟨⟨by dsimp only; omega, by dsimp only; omega, by dsimp only; omega, by dsimp only; omega, hout⟩, rfl, ?_, ?_, ?_⟩ ?_
      · cbv; all_goals exact s_sA
      · cbv; all_goals exact s_bA
      · cbv; exact gc_c (gc_m (qbe hpl)) (gc_c (gc_m (qbe hTp)) rfl)
      · intro x
        obtain ⟨y, q1, st1, G1⟩ := x
        intro hx
        dsimp only at hx
        cbv
        obtain ⟨k0, k1, k2, k3, k4⟩ := hx
        refine qac hS ?_ ?_ <;> intro h <;> cbv
        · have hG1 : ilen G1 = q1 := by rw [k4, qbc, qsi _ _ _ (by omega)]
          repeat' (first
            | (refine s_st hS ?_; try cbv)
            | (refine qac hS ?_ ?_ <;> intro h <;> (try cbv) <;> try exact s_ab h)
            | (refine qau hS ?_; intro _ _; try cbv)
            | (refine qaf hS ?_; try cbv)
            | (refine s_shr hS (by simp only [IntKind.bits]; omega) ?_; intro _ _; cbv)
            | (refine s_cv8 hS ?_; intro _ _; cbv))
          refine qqn hS (by rw [hG1]; omega) ?_
          cbv
          repeat' (first
            | (refine s_st hS ?_; try cbv)
            | (refine qac hS ?_ ?_ <;> intro h <;> (try cbv) <;> try exact s_ab h)
            | (refine qau hS ?_; intro _ _; try cbv)
            | (refine qaf hS ?_; try cbv))
          rename_i y2 hy2 s2 hs2 x2 hx2
          obtain ⟨q2, h_q2⟩ : ∃ q2, q2 = q1 + 1 := ⟨_, rfl⟩
          obtain ⟨st2, h_st2⟩ : ∃ st2, st2 = S.flen G1 := ⟨_, rfl⟩
          obtain ⟨G2, h_G2⟩ : ∃ G2, G2 = cellsB (outI b j1 q2) := ⟨_, rfl⟩
          refine ⟨(y2, q2, st2, G2), by dsimp only; omega, ⟨by dsimp only; omega, by dsimp only; omega, by dsimp only; omega, by dsimp only; omega, h_G2⟩, rfl, ?_, ?_, ?_⟩
          · cbv; (repeat' (first | exact qgr | exact Sub.rfl | exact SubL.nil | refine SubL.cons ?_ ?_ | exact qba rfl | (refine qjh rfl ?_; simp only [Z.v, ← hS, Int.ofNat_eq_natCast, cq, Bool.not_eq_true', Bool.not_eq_false', decide_eq_true_eq, decide_eq_false_iff_not, beq_iff_eq, beq_eq_false_iff_ne, ne_eq]; omega)))
          · cbv
            refine ⟨.rfl, .rfl, subB_app hS k4.symm h_G2.symm ?_ h_st2.symm, trivial⟩
            rw [h_q2]
            exact out_more g2 k0 (by omega) hr2W (by omega) hs2 hx2
          · cbv; exact gc_c (gc_m (qbe hpl)) (gc_c (gc_m (qbe hTp)) rfl)
        · obtain ⟨p, hp⟩ : ∃ p : Int, 2 ^ y.toNat = p := ⟨_, rfl⟩
          have hp1 : p < 512 := by
            have := qnv (m := y.toNat) (n := 8) (by omega)
            rw [hp] at this
            omega
          have hp0 : 0 < p := by rw [← hp]; exact qho _
          repeat' (first
            | (refine s_st hS ?_; try cbv)
            | (refine qac hS ?_ ?_ <;> intro h <;> (try cbv) <;> try exact s_ab h)
            | (refine qau hS ?_; intro _ _; try cbv)
            | (refine qaf hS ?_; try cbv)
            | (refine s_shll hS (c := p) (by rw [← hp]; congr 1; simp only [IntKind.bits]; omega) ?_ (by simp only [lo]; omega) (by simp only [hi]; omega); intro _ _; cbv)
            | (refine s_andl hS (c := p) (m := y.toNat) ⟨by omega, hp, by simp only [IntKind.bits]; omega⟩ ?_; intro _ _; cbv))
          rename_i s1 hs1 s2 hs2 w3 hw3 j3 hj3
          have hw3' : w3 = rowI b j1 q1 := by rw [hw3, ← hp, ← hr2W, k1, row_mask g2 k0 (by omega)]
          refine ⟨(j3, y, w3, q1, st1, G1), by dsimp only; omega, ⟨by dsimp only; omega, by dsimp only; omega, by dsimp only; omega, ?_, by dsimp only; omega, by dsimp only; omega, ?_, ?_⟩, rfl, ?_, ?_, ?_⟩
          · dsimp only; rw [k1, hj3, ← h_j1]
          · dsimp only; rw [hw3', hj3, ← h_j1]
          · dsimp only; rw [k4, hj3, ← h_j1]
          · cbv; all_goals exact s_sA
          · cbv; all_goals exact s_bA
          · cbv; exact gc_c (gc_m (qbe hpl)) (gc_c (gc_m (qbe hTp)) rfl)
    · have hG : ilen G = q := by rw [g7, qbc, qsi _ _ _ (by omega)]
      obtain ⟨p, hp⟩ : ∃ p : Int, 2 ^ (8 - u).toNat = p := ⟨_, rfl⟩
      have hp1 : p < 512 := by
        have := qnv (m := (8 - u).toNat) (n := 8) (by omega)
        rw [hp] at this
        omega
      have hp0 : 0 < p := by rw [← hp]; exact qho _
      have hwb := row_bd' (b := b) (j := j) (q := q) g2 (by omega) (k := u.toNat) (by omega)
      rw [← g6] at hwb
      have hwp0 : 0 ≤ w * p := Int.mul_nonneg hwb.1 (by omega)
      have hwp : w * p + p ≤ 256 := by
        have h1 : (w + 1) * p ≤ 2 ^ u.toNat * p := Int.mul_le_mul_of_nonneg_right (by omega) (by omega)
        have h2 : (2 : Int) ^ u.toNat * p = 256 := by
          rw [← hp, ← Int.pow_add, show u.toNat + (8 - u).toNat = 8 by omega]; rfl
        rw [Int.add_mul] at h1
        omega
      have hbd := qkk (b := b) g0
      obtain rfl : j = n := by omega
      repeat' (first
        | (refine s_st hS ?_; try cbv)
        | (refine qac hS ?_ ?_ <;> intro h <;> (try cbv) <;> try exact s_ab h)
        | (refine qau hS ?_; intro _ _; try cbv)
        | (refine qaf hS ?_; try cbv)
        | (refine qad hS rfl I.qpr (by decide +kernel) ?_; cbv)
        | (refine s_shll hS (c := p) (by rw [← hp]; congr 1; simp only [IntKind.bits]; omega) ?_ (by simp only [lo]; omega) (by simp only [hi]; omega); intro _ _; cbv)
        | (refine s_orl hS hp (by omega) (by simp only [*]; exact Int.mul_emod_left _ _) (by omega) (by omega) (by simp only [hi]; omega) ?_; intro _ _; cbv)
        | (refine And.intro rfl ?_; try cbv)
        | (refine qqn hS (by rw [hG]; omega) ?_; cbv))
      · rename_i e1 he1 e2 he2 e3 he3 e4 he4 x hx
        refine ⟨_, .rfl, ?_⟩
        have hend := put_end1 (u := 8 - u) (x := x) hn' g2 (by omega) (by omega) (by omega) g6.symm (by rw [hp, hx, he2, he4, he3]; omega)
        exact qux hS g7.symm hP hend (by omega) (by rw [qsi _ _ _ g2]; simp only [Z.v, ← hS, Int.ofNat_eq_natCast, cq, Bool.not_eq_true', Bool.not_eq_false', decide_eq_true_eq, decide_eq_false_iff_not, beq_iff_eq, beq_eq_false_iff_ne, ne_eq]; omega) rfl
      · have hu0 : u = 0 := by omega
        have hPG : P = G := by rw [g7, ← hP, put_end0 hn' g2 (by omega)]
        refine ⟨_, .rfl, ?_⟩
        rw [hPG]
        exact qqo g7.symm (by omega) (by rw [qsi _ _ _ g2]; rfl) rfl
end Cz
namespace Cz
open Go Go.RowKit Go.Proofs
def takeL (b : List Int) : List Int := (Hu.take b).getD []
def takeE (b : List Int) : Int := if (Hu.take b).isSome then 0 else 70
end Cz
namespace Cz
open Go Go.RowKit Go.Proofs
theorem ilen_snoc (L : List Int) (c : Int) : ilen (L ++ [c]) = ilen L + 1 := by unfold ilen; simp
end Cz
namespace Cz
open Go Go.RowKit Go.Proofs
end Cz
namespace Cz
open Go Go.RowKit Go.Proofs
def shortB (b : List Int) : Bool := decide ((bitsI b (ilen b) + 7) / 8 < ilen b)
theorem Shorter_f {b : List Int} {t : Bool} (hb : Hu.BOk b) (hn : ilen b ≤ 1000000) (ht : shortB b = t) :
    (S0 Tryd.prog).call 89 [.sl 0 1 (.l 0) (.y (ilen b)) none] [.r true true (.l 0) 1 (cellsB b)] (fun x _ => Sub x (.b t)) := by
  have hB := Bits_f hb hn rfl
  obtain ⟨r, hr⟩ : ∃ r, bitsI b (ilen b) = r := ⟨_, rfl⟩
  have hrb := qkk (b := b) (qai b)
  obtain ⟨n, hn'⟩ : ∃ n, ilen b = n := ⟨_, rfl⟩
  have h0n := qai b
  have ht' : t = decide ((r + 7) / 8 < n) := by rw [← ht, ← hr, ← hn']; rfl
  rw [hr] at hrb hB
  rw [hn'] at hn h0n hrb hB ⊢
  have hpl := qam b
  generalize hF : cellsB b = F at hpl hB ⊢
  generalize hS : S0 Tryd.prog = S
  refine qab hS I.qoz ?_
  cbv
  refine use_read hS id hB .rfl rfl ⟨⟨true, .l 0, 1, F, true, true, .l 0, F, rfl, hpl, rfl, .rfl⟩, trivial⟩ rfl ?_
  cbv
  repeat' (first
    | (refine s_st hS ?_; try cbv)
    | (refine qac hS ?_ ?_ <;> intro h <;> (try cbv) <;> try exact s_ab h)
    | (refine qau hS ?_; intro _ _; try cbv)
    | (refine qaf hS ?_; try cbv)
    | (refine qus hS (c := 8) rfl ?_; intro _ _; cbv))
  rename_i e
  refine qup ?_
  simp only [← hS, Int.ofNat_eq_natCast, cq, Bool.not_eq_true', Bool.not_eq_false', decide_eq_true_eq, decide_eq_false_iff_not, beq_iff_eq, beq_eq_false_iff_ne, ne_eq]
  rw [ht']
  congr 2
  omega
def strB (l : List Int) : List UInt8 := l.map fun v => v.toNat.toUInt8
theorem s_bs {S : Sy} (hS : S0 Tryd.prog = S) {l : List Int} {F : List SV} {n : Int} {K : List UInt8 → Prop} (hb : Hu.BOk l) (hF : cellsB l = F) (hn : n = ilen l) (h : K (strB l)) : S.bs F 0 n K := by
  subst hS hF hn
  refine ⟨Int.le_refl _, qai l, strB l, ⟨by simp [strB, ilen], ?_⟩, h⟩
  intro q c hc
  unfold strB at hc
  rw [List.getElem?_map, Option.map_eq_some_iff] at hc
  obtain ⟨v, hv, rfl⟩ := hc
  refine ⟨.y v, ?_, ?_⟩
  · rw [show (0 : Int).toNat + q = q by simp]; exact cellsB_get hv
  · have := hb v (List.mem_of_getElem? hv)
    simp only [Z.v, Nat.toUInt8, UInt8.toNat_ofNat']
    omega
end Cz
namespace Cz
open Go Go.RowKit Go.Proofs
end Cz
namespace Cz
open Go Go.RowKit Go.Proofs
end Cz
namespace Cz
open Go Go.RowKit Go.Proofs
end Cz
namespace Cz
open Go Go.RowKit Go.Proofs
end Cz
namespace Cz
open Go Go.RowKit Go.Proofs
end Cz
namespace Cz
open Go Go.RowKit Go.Proofs
theorem qkg (L : List Int) : ilen L * ((1 : Nat) : Int) = (cellsB L).length := by
  have := qbc L
  unfold ilen at this ⊢
  rw [this]; simp
section
variable {S : Sy} {b : List Int} {F : List SV} {k : Nat} {ro lit : Bool} {st zn : Z} {l : List Blk} {K : SV → List Blk → Prop}
theorem put_u (hS : S0 Tryd.prog = S) (hb : Hu.BOk b) (hn : ilen b ≤ 1000000) (hrow : lget l k = .r ro lit st 1 F) (hs : FSub F (cellsB b)) (hz : zn.v = ilen b)
    (hK : ∀ F2 n2 st, cellsB (Hu.put b) = F2 → n2 = ilen (Hu.put b) → K (.sl (len l) 1 (.l 0) (.y n2) none) (snoc l (.r false false (.y st) 1 F2))) : S.call 103 [.sl k 1 (.l 0) zn none] l K :=
  qrp hS (fun _ => k) (put_f hb hn) (.cons (qjh rfl hz) .nil) rfl ⟨⟨_, _, _, _, _, _, _, _, rfl, qam _, hrow, hs⟩, trivial⟩ (by omega) (qam _) rfl (qkg _) fun st => hK _ _ st rfl rfl
theorem short_u (hS : S0 Tryd.prog = S) (hb : Hu.BOk b) (hn : ilen b ≤ 1000000) (hrow : lget l k = .r ro lit st 1 F) (hs : FSub F (cellsB b)) (hz : zn.v = ilen b)
    (hK : ∀ t, shortB b = t → K (.b t) l) : S.call 89 [.sl k 1 (.l 0) zn none] l K :=
  use_read hS (fun _ => k) (Shorter_f hb hn rfl) (.cons (qjh rfl hz) .nil) rfl ⟨⟨_, _, _, _, _, _, _, _, rfl, qam _, hrow, hs⟩, trivial⟩ rfl (hK _ rfl)
end
theorem bok1 {l : List Int} (h : l.all (fun v => decide (0 ≤ v) && decide (v < 256)) = true) : Hu.BOk l := by
  intro v hv
  have := List.all_eq_true.1 h v hv
  simpa using this
end Cz
namespace Cz
open Go Go.RowKit Go.Proofs
def part (b : List Int) (o n : Int) : List Int := (b.drop o.toNat).take n.toNat
theorem quw {n0 k : Nat} {L : List Int} {X P : List SV} {lit : Bool} {st nn : Z} {l' : List Blk} (hX : X = cellsB L) (hP : cellsB L = P) (hk : n0 ≤ k) (hn : nn.v = ilen L) (hB : l'[k]? = some (.r false lit st 1 X)) : RowIs n0 1 P (.sl k 1 (.l 0) nn none) l' := by
  rw [hX, hP] at hB
  exact qqo hP hk hn hB
def pgo (b : List Int) : Nat → Int → Int → Int × Int × Int
  | 0, _, _ => (0, 0, 60)
  | f + 1, at', n => match b[at'.toNat]? with
    | none => (0, 0, 10)
    | some v =>
      if 5 < at' ∨ 2147483648 ≤ n + v % 128 * 2 ^ (7 * (at' - 1)).toNat then (0, 0, 60)
      else if v < 128 then (n + v % 128 * 2 ^ (7 * (at' - 1)).toNat, at' + 1, 0)
      else pgo b f (at' + 1) (n + v % 128 * 2 ^ (7 * (at' - 1)).toNat)
def preI (b : List Int) (p : Int) : Int × Int × Int := match b with
  | [] => (0, 0, 10)
  | v :: _ => if v % p < p - 1 then (v % p, 1, 0) else pgo b 6 1 (p - 1)
def preN (b : List Int) (p : Int) : Int := (preI b p).1
def preE (b : List Int) (p : Int) : Int := (preI b p).2.2
def preR (b : List Int) (p : Int) : List Int := if preE b p = 0 then b.drop (preI b p).2.1.toNat else []
end Cz
namespace Cz
open Go Go.RowKit Go.Proofs
end Cz
namespace Cz
open Go Go.RowKit Go.Proofs
end Cz
namespace Cz
open Go Go.RowKit Go.Proofs
def tTake (b : List Int) : List Int × List Int × Int :=
  if preE b 128 ≠ 0 then ([], [], preE b 128)
  else if ilen (preR b 128) < preN b 128 then ([], [], 10)
  else if b.getD 0 0 < 128 then (part (preR b 128) 0 (preN b 128), (preR b 128).drop (preN b 128).toNat, 0)
  else if takeE (part (preR b 128) 0 (preN b 128)) = 0 then (takeL (part (preR b 128) 0 (preN b 128)), (preR b 128).drop (preN b 128).toNat, 0)
  else ([], [], 70)
end Cz
namespace Cz
open Go Go.RowKit Go.Proofs
end Cz
namespace Cz
open Go Go.RowKit Go.Proofs
theorem or128_all : ∀ n : Fin 256, IntKind.u8.wrap ((BitVec.ofInt 8 (n.val : Int) ||| BitVec.ofInt 8 128).toNat : Int) = ((n.val % 128 + 128 : Nat) : Int) := by decide +kernel
theorem s_or128 {S : Sy} {a : Int} {K : Int → Prop} (hS : S0 Tryd.prog = S) (h0 : 0 ≤ a) (h1 : a < 256) (h : ∀ r, r = a % 128 + 128 → K r) : S.ar .or .u8 a 128 K := by
  refine qut hS _ rfl (h _ ?_)
  have := or128_all ⟨a.toNat, by omega⟩
  simp only [Int.toNat_of_nonneg h0] at this
  rw [show arS .or .u8 a 128 = IntKind.u8.wrap ((BitVec.ofInt 8 a ||| BitVec.ofInt 8 128).toNat : Int) from rfl, this]
  omega
theorem andn_nat (w m u : Nat) (hm : m ≤ w) (hu : u < 2 ^ w) : u &&& (2 ^ w - 1 - (2 ^ m - 1)) = u - u % 2 ^ m := by
  have hp : 2 ^ m ≤ 2 ^ w := Nat.pow_le_pow_right (by omega) hm
  apply Nat.eq_of_testBit_eq
  intro i
  have e1 : 2 ^ w - 1 - (2 ^ m - 1) = 2 ^ m * (2 ^ (w - m) - 1) := by
    rw [Nat.mul_sub, ← Nat.pow_add, show m + (w - m) = w by omega]
    have := Nat.two_pow_pos m
    omega
  have e2 : u - u % 2 ^ m = 2 ^ m * (u / 2 ^ m) := by have := Nat.div_add_mod u (2 ^ m); omega
  rw [e1, e2, Nat.testBit_and, Nat.testBit_two_pow_mul, Nat.testBit_two_pow_mul, Nat.testBit_two_pow_sub_one]
  by_cases h : m ≤ i
  · simp only [h, decide_true, Bool.true_and]
    rw [Nat.testBit_div_two_pow, show i - m + m = i by omega]
    by_cases h2 : i - m < w - m
    · simp [h2]
    · have : u.testBit i = false := Nat.testBit_lt_two_pow (Nat.lt_of_lt_of_le hu (Nat.pow_le_pow_right (by omega) (by omega)))
      simp [this]
  · simp [h]
def sept : Nat → Int → List Int
  | 0, _ => []
  | f + 1, q => if q < 128 then [q] else (q % 128 + 128) :: sept f (q / 128)
def putI (n p up : Int) : List Int := if n < p - 1 then [up - up % p + n] else (up - up % p + (p - 1)) :: sept 5 (n - (p - 1))
theorem s_andn {S : Sy} {a b p : Int} {m : Nat} {K : Int → Prop} (hS : S0 Tryd.prog = S) (hp : (2 : Int) ^ m = p) (hm : m ≤ 8) (hb : b = p - 1) (h0 : 0 ≤ a) (h1 : a < 256) (h : ∀ r, r = a - a % p → K r) : S.ar .andn .u8 a b K := by
  subst hp hb
  refine qut hS _ ?_ (h _ rfl)
  show IntKind.u8.wrap ((BitVec.ofInt 8 a &&& ~~~ BitVec.ofInt 8 ((2 : Int) ^ m - 1)).toNat : Int) = _
  have hle := qnv (m := m) (n := 8) hm
  have hpos := qho m
  have e1 : ((2 : Int) ^ m - 1).toNat = 2 ^ m - 1 := by have := qfx m; omega
  rw [BitVec.toNat_and, BitVec.toNat_not, qcw, qcw, Int.emod_eq_of_lt h0 (by omega), Int.emod_eq_of_lt (a := (2 : Int) ^ m - 1) (by omega) (by omega), e1, andn_nat 8 m _ hm (by omega)]
  have h2 := Int.emod_nonneg a (b := (2 : Int) ^ m) (by omega)
  have h3 : ((a.toNat - a.toNat % 2 ^ m : Nat) : Int) = a - a % 2 ^ m := by
    have h4 := Nat.mod_le a.toNat (2 ^ m)
    have h5 : ((a.toNat % 2 ^ m : Nat) : Int) = a % 2 ^ m := by rw [Int.natCast_emod, Int.toNat_of_nonneg h0, qfx]
    omega
  rw [h3]
  have h6 : a % 2 ^ m ≤ a := by
    have := Int.mul_ediv_add_emod a (2 ^ m)
    have h7 : 0 ≤ (2 : Int) ^ m * (a / 2 ^ m) := Int.mul_nonneg (by omega) (Int.ediv_nonneg h0 (by omega))
    omega
  exact qim (by simp only [lo]; omega) (by simp only [Cz.hi]; omega)
def septOk (f : Nat) (q : Int) : Prop := 1 ≤ f ∧ 0 ≤ q ∧ q < 128 ^ f
theorem sept_end {f : Nat} {q : Int} (h : septOk f q) (h1 : q < 128) : sept f q = [q] := by
  obtain ⟨f', rfl⟩ : ∃ f', f = f' + 1 := ⟨f - 1, by have := h.1; omega⟩
  rw [sept, if_pos h1]
theorem sept_step {f : Nat} {q : Int} (h : septOk f q) (h1 : ¬q < 128) : sept f q = (q % 128 + 128) :: sept (f - 1) (q / 128) ∧ septOk (f - 1) (q / 128) ∧ 2 ≤ f := by
  obtain ⟨h2, h3, h4⟩ := h
  have hf : 2 ≤ f := by
    rcases Nat.lt_or_ge f 2 with h5 | h5
    · have : f = 1 := by omega
      subst this
      simp at h4; omega
    · exact h5
  obtain ⟨f', rfl⟩ : ∃ f', f = f' + 1 := ⟨f - 1, by omega⟩
  simp only [Nat.add_sub_cancel]
  refine ⟨by rw [sept, if_neg h1], ⟨by omega, by omega, ?_⟩, hf⟩
  rw [Int.pow_succ] at h4
  exact Int.ediv_lt_of_lt_mul (by decide) h4
theorem pput_f {n k up p : Int} (hn0 : 0 ≤ n) (hn1 : n < 2147483648) (hk1 : 1 ≤ k) (hk8 : k ≤ 8) (hp : 2 ^ k.toNat = p) (hu0 : 0 ≤ up) (hu1 : up < 256) :
    (S0 Tryd.prog).call 85 [.i .i64 (.y n), .i .i64 (.y k), .i .u8 (.y up)] [] (OwnR 0 1 (cellsB (putI n p up)) true [.i .i64 (.y 0)]) := by
  have hp0 : 2 ≤ p := by have := qnv (m := 1) (n := k.toNat) (by omega); rw [hp] at this; omega
  have hp1 : p ≤ 256 := by have := qnv (m := k.toNat) (n := 8) (by omega); rw [hp] at this; omega
  obtain ⟨w, hw⟩ : ∃ w, w = up % p := ⟨_, rfl⟩
  have hwb : 0 ≤ w ∧ w < p := by rw [hw]; exact ⟨Int.emod_nonneg _ (by omega), Int.emod_lt_of_pos _ (by omega)⟩
  have hw2 : w ≤ up := by
    rw [hw]
    have := Int.mul_ediv_add_emod up p
    have h7 : 0 ≤ p * (up / p) := Int.mul_nonneg (by omega) (Int.ediv_nonneg hu0 (by omega))
    omega
  obtain ⟨fi, hfi⟩ : ∃ fi, fi = up - w := ⟨_, rfl⟩
  have hfp : fi % p = 0 := by
    rw [hfi, hw]
    have := Int.mul_ediv_add_emod up p
    rw [show up - up % p = p * (up / p) by omega]
    exact Int.mul_emod_right _ _
  have hfb : fi + p ≤ 256 := by
    have h8 : ∃ c : Int, 256 = p * c := by
      refine ⟨2 ^ (8 - k.toNat), ?_⟩
      rw [← hp, ← Int.pow_add, show k.toNat + (8 - k.toNat) = 8 by omega]; rfl
    obtain ⟨c, hc⟩ := h8
    have h9 : fi = p * (up / p) := by
      have := Int.mul_ediv_add_emod up p
      omega
    have h10 : up / p < c := by
      rw [Int.ediv_lt_iff_lt_mul (by omega), Int.mul_comm]
      omega
    have h11 : p * (up / p + 1) ≤ p * c := Int.mul_le_mul_of_nonneg_left (by omega) (by omega)
    rw [Int.mul_add] at h11
    omega
  have hput : putI n p up = if n < p - 1 then [fi + n] else (fi + (p - 1)) :: sept 5 (n - (p - 1)) := by unfold putI; rw [← hw, ← hfi]
  generalize hL : putI n p up = L at hput
  generalize hP : cellsB L = P
  generalize hS : S0 Tryd.prog = S
  refine qab hS I.qte ?_
  cbv
  repeat' (first
    | (refine s_st hS ?_; try cbv)
    | (refine qac hS ?_ ?_ <;> intro h <;> (try cbv) <;> try exact s_ab h)
    | (refine qau hS ?_; intro _ _; try cbv)
    | (refine qaf hS ?_; try cbv)
    | (refine qab hS I.qox ?_; cbv)
    | (refine qus hS (c := 2147483648) rfl ?_; intro _ _; cbv)
    | (refine s_shll hS (c := p) (by rw [← hp]; congr 1; simp only [IntKind.bits]; omega) ?_ (by simp only [lo]; omega) (by simp only [hi]; omega); intro _ _; cbv)
    | (refine s_andn hS hp (by omega) (by omega) hu0 hu1 ?_; intro _ _; cbv))
  · rename_i m1 hm1 m0 hm0 f1 hf1
    obtain rfl : f1 = fi := by omega
    refine s_orl hS hp (by omega) hfp (by omega) (by omega) (by simp only [hi]; omega) fun r hr => ?_
    cbv
    rw [if_pos (by omega)] at hput
    refine ⟨_, qch (.cons .rfl (.cons (qba rfl) .nil)), quw (L := L) ?_ hP (Nat.zero_le _) ?_ rfl⟩
    · rw [hput, ← hr]; rfl
    · rw [hput]; rfl
  · rename_i m1 hm1 m0 hm0 f1 hf1
    obtain rfl : f1 = fi := by omega
    refine s_orl hS hp (by omega) hfp (by omega) (by omega) (by simp only [hi]; omega) fun r hr => ?_
    cbv
    rw [if_neg (by omega)] at hput
    repeat' (first
      | (refine s_st hS ?_; try cbv)
      | (refine qac hS ?_ ?_ <;> intro h <;> (try cbv) <;> try exact s_ab h)
      | (refine qau hS ?_; intro _ _; try cbv)
      | (refine qaf hS ?_; try cbv)
      | (refine qab hS I.qlg ?_; cbv)
      | (refine qed hS I.qiy ?_; cbv))
    rename_i q0 hq0
    have hok0 : septOk 5 q0 := ⟨by decide, by omega, by show q0 < 34359738368; omega⟩
    have hL0 : L = [r] ++ sept 5 q0 := by rw [hput, hr, hq0, show m0 = p - 1 by omega]; rfl
    clear hput
    refine qbh hS 6 I.qgi (fun x : Nat × Int × Int × Int × List Int × List SV => septOk x.1 x.2.1 ∧ 0 ≤ x.2.1 ∧ x.2.1 < 2147483648 ∧ L = x.2.2.2.2.1 ++ sept x.1 x.2.1 ∧ x.2.2.1 = ilen x.2.2.2.2.1 ∧ x.2.2.1 + x.1 ≤ 6 ∧ x.2.2.2.2.2 = cellsB x.2.2.2.2.1)
      (fun _ => []) (fun x => [(0, .c [.sl 2 1 (.l 0) (.y x.2.2.1) none]), (2, .r false false (.y x.2.2.2.1) 1 x.2.2.2.2.2), (3, .c [.i .u32 (.y x.2.1)])])
      (fun x => x.1) (5, q0, 1, 0, [r], [.i .u8 (.y r)]) rfl ⟨⟨hok0, by dsimp only; omega, by dsimp only; omega, hL0, rfl, by show (1 : Int) + ((5 : Nat) : Int) ≤ 6; decide, rfl⟩, rfl, ?_, ?_, ?_⟩ ?_
    · cbv; all_goals exact s_sA
    · cbv
      refine ⟨.c (.cons (qjh rfl rfl) .nil), .rfl, .r .rfl rfl rfl, .rfl, .rfl, .rfl, trivial⟩
    · cbv
    · intro x
      obtain ⟨f, q, ln, st, B, G⟩ := x
      intro hx
      dsimp only at hx
      cbv
      obtain ⟨g0, g1, g2, g3, g4, g5, g6⟩ := hx
      have hG : ilen G = ln := by rw [g6, qbc, g4]
      have hl0 := qai B
      have hln : ln ≤ 6 := by have : ln + (f : Int) ≤ 6 := g5; omega
      refine qus hS (c := 128) rfl fun q1 hq1 => ?_
      cbv
      refine qac hS ?_ ?_ <;> intro h <;> cbv
      · obtain ⟨k1, k2, k3⟩ := sept_step g0 (by omega)
        refine s_cv8 hS fun y hy => ?_
        cbv
        refine s_or128 hS (by omega) (by omega) fun y2 hy2 => ?_
        cbv
        refine qev hS rfl rfl ?_
        cbv
        refine qqn hS (by rw [hG]; omega) ?_
        cbv
        repeat' (first
          | (refine s_st hS ?_; try cbv)
          | (refine qac hS ?_ ?_ <;> intro h <;> (try cbv) <;> try exact s_ab h)
          | (refine qau hS ?_; intro _ _; try cbv)
          | (refine qaf hS ?_; try cbv)
          | (refine qus hS (c := 128) rfl ?_; intro _ _; cbv))
        rename_i ln2' q2 hq2
        obtain ⟨ln2, h_ln2⟩ : ∃ ln2, ln2 = ln + 1 := ⟨_, rfl⟩
        obtain ⟨st2, h_st2⟩ : ∃ st2, st2 = S.flen G := ⟨_, rfl⟩
        obtain ⟨G2, h_G2⟩ : ∃ G2, G2 = cellsB (B ++ [y2]) := ⟨_, rfl⟩
        have g5' : ln + (f : Int) ≤ 6 := g5
        have k3' : 2 ≤ f := k3
        have k4 : f - 1 < f := by omega
        have k5 : ln2 + ((f - 1 : Nat) : Int) ≤ 6 := by rw [h_ln2]; omega
        have k6 : 0 ≤ q2 ∧ q2 < 2147483648 := by omega
        refine ⟨(f - 1, q2, ln2, st2, B ++ [y2], G2), k4, ⟨by dsimp only; rw [hq2]; exact k2, k6.1, k6.2, ?_, ?_, k5, h_G2⟩, rfl, ?_, ?_, ?_⟩
        · dsimp only; rw [g3, k1, hq2, show q % 128 + 128 = y2 by omega]; simp
        · dsimp only; rw [h_ln2, g4, ilen_snoc]
        · cbv; all_goals exact s_sA
        · cbv
          refine ⟨.c (.cons (qjh rfl (by simp only [Z.v, ← hS, Int.ofNat_eq_natCast, cq, Bool.not_eq_true', Bool.not_eq_false', decide_eq_true_eq, decide_eq_false_iff_not, beq_iff_eq, beq_eq_false_iff_ne, ne_eq]; omega)) .nil), .rfl, subB_app hS g6.symm h_G2.symm rfl h_st2.symm, .rfl, .rfl, .rfl, trivial⟩
        · cbv
      · have k1 := sept_end g0 (by omega)
        refine s_cv8 hS fun y hy => ?_
        cbv
        refine qev hS rfl rfl ?_
        cbv
        refine qqn hS (by rw [hG]; omega) ?_
        cbv
        repeat' (first
          | (refine s_st hS ?_; try cbv)
          | (refine qac hS ?_ ?_ <;> intro h <;> (try cbv) <;> try exact s_ab h)
          | (refine qau hS ?_; intro _ _; try cbv)
          | (refine qaf hS ?_; try cbv))
        refine ⟨_, qch (.cons .rfl (.cons (qba rfl) .nil)), qux hS g6.symm hP (show L = B ++ [y] by rw [g3, k1, show y = q by omega]) (Nat.zero_le _) (by simp only [Z.v, ← hS, Int.ofNat_eq_natCast, cq, Bool.not_eq_true', Bool.not_eq_false', decide_eq_true_eq, decide_eq_false_iff_not, beq_iff_eq, beq_eq_false_iff_ne, ne_eq]; omega) rfl⟩
end Cz
namespace Cz
open Go Go.RowKit Go.Proofs
end Cz
namespace Cz
open Go Go.RowKit Go.Proofs
def byS (x : List UInt8) : List Int := x.map fun c => (c.toNat : Int)
theorem byS_ok (x : List UInt8) : Hu.BOk (byS x) := by
  intro v hv
  unfold byS at hv
  rw [List.mem_map] at hv
  obtain ⟨c, _, rfl⟩ := hv
  have := c.toNat_lt
  omega
theorem qgl (x : List UInt8) : ilen (byS x) = ilen x := by unfold byS ilen; rw [List.length_map]
theorem sb_eq {S : Sy} (hS : S0 Tryd.prog = S) (x : List UInt8) : S.sb x = cellsB (byS x) := by
  subst hS
  rw [qlr]
  unfold byS
  rw [List.map_map]; rfl
theorem qwt {S : Sy} (hS : S0 Tryd.prog = S) (x : List UInt8) : S.slen x = ilen (byS x) := by rw [qgl, ← hS]; rfl
theorem byS_strB {b : List Int} (h : Hu.BOk b) : byS (strB b) = b := by
  unfold strB byS
  rw [List.map_map]
  conv => rhs; rw [← List.map_id b]
  apply List.map_congr_left
  intro v hv
  have := h v hv
  simp; omega
section
variable {S : Sy} {l : List Blk} {K : SV → List Blk → Prop} {zn zk zu : Z} {n k up : Int}
theorem qnu (hS : S0 Tryd.prog = S) (n k up p : Int) (h1 : zn.v = n) (h2 : zk.v = k) (h3 : zu.v = up) (hn0 : 0 ≤ n) (hn1 : n < 2147483648) (hk1 : 1 ≤ k) (hk8 : k ≤ 8) (hp : 2 ^ k.toNat = p) (hu0 : 0 ≤ up) (hu1 : up < 256)
    (hK : ∀ F2 n2 st, cellsB (putI n p up) = F2 → n2 = ilen (putI n p up) → K (.tp [.sl (len l) 1 (.l 0) (.y n2) none, .i .i64 (.y 0)]) (snoc l (.r false false (.y st) 1 F2))) :
    S.call 85 [.i .i64 zn, .i .i64 zk, .i .u8 zu] l K := by
  subst h1 h2 h3
  exact qrp hS id (pput_f hn0 hn1 hk1 hk8 hp hu0 hu1) (.cons (qba rfl) (.cons (qba rfl) (.cons (qba rfl) .nil))) rfl trivial (by omega) (qam _) rfl (qkg _) fun st => hK _ _ st rfl rfl
end
theorem sept_len : ∀ (f : Nat) (q : Int), ilen (sept f q) ≤ f
  | 0, q => by simp [sept, ilen]
  | f + 1, q => by
    rw [sept]
    split
    · unfold ilen; simp; omega
    · have := sept_len f (q / 128)
      unfold ilen at this ⊢
      simp only [List.length_cons]; omega
theorem qct (n p up : Int) : 1 ≤ ilen (putI n p up) ∧ ilen (putI n p up) ≤ 6 := by
  unfold putI
  split
  · exact ⟨Int.le_refl _, by unfold ilen; simp⟩
  · have := sept_len 5 (n - (p - 1))
    have h0 := qai (sept 5 (n - (p - 1)))
    unfold ilen at this h0 ⊢
    simp only [List.length_cons]; omega
theorem qbt {α : Type} (a b : List α) : ilen (a ++ b) = ilen a + ilen b := by unfold ilen; simp
theorem qnj {S : Sy} (hS : S0 Tryd.prog = S) {L : List Int} {F : List SV} {n : Int} (hF : cellsB L = F) (hn : n = ilen L) : S.sub F 0 n 1 = F := by
  subst hS hF hn
  show ((cellsB L).drop (0 * 1)).take ((ilen L).toNat * 1) = _
  have := qbc L
  unfold ilen at *
  rw [List.take_of_length_le (by simp; omega)]; simp
theorem qdl {S : Sy} (hS : S0 Tryd.prog = S) {A B : List Int} {F G : List SV} (hF : F = cellsB A) (hG : G = cellsB B) : S.app F G = cellsB (A ++ B) := by
  subst hS hF hG
  rw [app_eq]; unfold cellsB; rw [List.flatMap_append]
theorem qsg {P X : List SV} {L : List Int} {q : Z} {k : Nat} {lit : Bool} {st : Z} {l' : List Blk} {n0 : Nat} (hX : X = cellsB L) (hP : cellsB L = P) (hk : n0 ≤ k) (hq : q.v = ilen L) (hB : l'[k]? = some (.r false lit st 1 X)) :
    OwnR n0 1 P false [] (.sl k 1 (.l 0) q none) l' := ⟨_, .rfl, quw hX hP hk hq hB⟩
theorem put_ib (b : List Int) : ilen (Hu.put b) ≤ 2 * ilen b + 1 := by
  have h0 := qai b
  have h1 := Hu.qku b
  have h2 := (qkk (b := b) (j := ilen b) h0).2
  have h3 : bitsI b (ilen b) = Hu.nbits b := by unfold bitsI; rw [qbf (by omega)]
  unfold ilen at *
  omega
def plainT (b : List Int) : List Int := putI (ilen b) 128 0 ++ b
def packT (b : List Int) : List Int := putI (ilen (Hu.put b)) 128 128 ++ Hu.put b
def bestT (b : List Int) : List Int := if shortB b then packT b else plainT b
theorem tall0_f {x : List UInt8} (hx : ilen x ≤ 1000000) :
    (S0 Tryd.prog).call 91 [.s x, .fn (.func 100) [] []] [] (OwnR 0 1 (cellsB (plainT (byS x))) false []) := by
  generalize hP : cellsB (plainT (byS x)) = P
  have h0 := qai (byS x)
  have hxb := qgl x
  generalize hS : S0 Tryd.prog = S
  have hsl := qwt hS x
  refine qab hS I.qov ?_
  cbv
  repeat' (first
    | (refine s_st hS ?_; try cbv)
    | (refine qac hS ?_ ?_ <;> intro h <;> (try cbv) <;> try exact s_ab h)
    | (refine qau hS ?_; intro _ _; try cbv)
    | (refine qaf hS ?_; try cbv)
    | (refine qab hS I.qmb ?_; cbv)
    | (refine qed hS I.qil ?_; cbv)
    | (refine qab hS I.qou ?_; cbv))
  refine qnu hS (ilen (byS x)) 7 0 128 hsl rfl rfl h0 (by omega) (by decide) (by decide) rfl (by decide) (by decide) fun F2 n2 st hF2 hn2 => ?_
  have hpl := qct (ilen (byS x)) 128 0
  rw [← hn2] at hpl
  have e1 : S.sub F2 0 n2 1 = F2 := qnj hS hF2 hn2
  have e2 : S.sub (S.sb x) 0 (S.slen x) 1 = cellsB (byS x) := by rw [sb_eq hS, hsl]; exact qnj hS rfl rfl
  have hfl : ilen (S.sub F2 0 n2 1) = n2 * 1 := by rw [e1, ← hF2, qbc, hn2]; omega
  cbv
  repeat' (first
    | (refine s_st hS ?_; try cbv)
    | (refine qac hS ?_ ?_ <;> intro h <;> (try cbv) <;> try exact s_ab h)
    | (refine qau hS ?_; intro _ _; try cbv)
    | (refine qaf hS ?_; try cbv)
    | (refine qev hS rfl rfl ?_; cbv)
    | (refine qqn hS hfl ?_; cbv)
    | (refine s_stk hS ?_; try cbv))
  · refine qsg (qdl hS (e1.trans hF2.symm) e2) hP (Nat.zero_le _) ?_ rfl
    rw [qbt, ← hn2, qgl]
    simp only [Z.v, ← hS, Int.ofNat_eq_natCast, cr, Bool.not_eq_true', Bool.not_eq_false', decide_eq_true_eq, decide_eq_false_iff_not, beq_iff_eq, beq_eq_false_iff_ne, ne_eq]
theorem tall1_f {x : List UInt8} (hx : ilen x ≤ 1000000) :
    (S0 Tryd.prog).call 91 [.s x, .fn (.func 102) [] []] [] (OwnR 0 1 (cellsB (packT (byS x))) false []) := by
  generalize hP : cellsB (packT (byS x)) = P
  have h0 := qai (byS x)
  have hxb := qgl x
  generalize hS : S0 Tryd.prog = S
  have hsl := qwt hS x
  refine qab hS I.qov ?_
  cbv
  repeat' (first
    | (refine s_st hS ?_; try cbv)
    | (refine qac hS ?_ ?_ <;> intro h <;> (try cbv) <;> try exact s_ab h)
    | (refine qau hS ?_; intro _ _; try cbv)
    | (refine qaf hS ?_; try cbv)
    | (refine qab hS I.qmb ?_; cbv)
    | (refine qed hS I.qil ?_; cbv)
    | (refine qab hS I.qmo ?_; cbv))
  have hsb := sb_eq hS x
  have hsf : FSub (S.sb x) (cellsB (byS x)) := by rw [hsb]; exact .rfl
  have hpb : ilen (Hu.put (byS x)) ≤ 2000001 := by
    have h1 := put_ib (byS x)
    omega
  have hp0 := qai (Hu.put (byS x))
  refine put_u hS (b := byS x) (byS_ok x) (by omega) rfl hsf hsl fun F1 n1 st1 hF1 hn1 => ?_
  cbv
  refine qnu hS (ilen (Hu.put (byS x))) 7 128 128 hn1 rfl rfl hp0 (by omega) (by decide) (by decide) rfl (by decide) (by decide) fun F2 n2 st hF2 hn2 => ?_
  have hpl := qct (ilen (Hu.put (byS x))) 128 128
  rw [← hn2] at hpl
  have e1 : S.sub F2 0 n2 1 = F2 := qnj hS hF2 hn2
  have e2 : S.sub F1 0 n1 1 = F1 := qnj hS hF1 hn1
  have hfl : ilen (S.sub F2 0 n2 1) = n2 * 1 := by rw [e1, ← hF2, qbc, hn2]; omega
  cbv
  repeat' (first
    | (refine s_st hS ?_; try cbv)
    | (refine qac hS ?_ ?_ <;> intro h <;> (try cbv) <;> try exact s_ab h)
    | (refine qau hS ?_; intro _ _; try cbv)
    | (refine qaf hS ?_; try cbv)
    | (refine qev hS rfl rfl ?_; cbv)
    | (refine qqn hS hfl ?_; cbv)
    | (refine s_stk hS ?_; try cbv))
  · refine qsg (qdl hS (e1.trans hF2.symm) (e2.trans hF1.symm)) hP (Nat.zero_le _) ?_ rfl
    rw [qbt, ← hn2, ← hn1]
    simp only [Z.v, ← hS, Int.ofNat_eq_natCast, cr, Bool.not_eq_true', Bool.not_eq_false', decide_eq_true_eq, decide_eq_false_iff_not, beq_iff_eq, beq_eq_false_iff_ne, ne_eq]
end Cz
namespace Cz
open Go Go.RowKit Go.Proofs
section
variable {S : Sy} {l : List Blk} {K : SV → List Blk → Prop} {x : List UInt8}
theorem tall0_u (hS : S0 Tryd.prog = S) (hx : ilen x ≤ 1000000)
    (hK : ∀ F2 n2 st, cellsB (plainT (byS x)) = F2 → n2 = ilen (plainT (byS x)) → K (.sl (len l) 1 (.l 0) (.y n2) none) (snoc l (.r false false (.y st) 1 F2))) : S.call 91 [.s x, .fn (.func 100) [] []] l K :=
  qrp hS id (tall0_f hx) (.cons .rfl (.cons .rfl .nil)) rfl trivial (by omega) (qam _) rfl (qkg _) fun st => hK _ _ st rfl rfl
theorem tall1_u (hS : S0 Tryd.prog = S) (hx : ilen x ≤ 1000000)
    (hK : ∀ F2 n2 st, cellsB (packT (byS x)) = F2 → n2 = ilen (packT (byS x)) → K (.sl (len l) 1 (.l 0) (.y n2) none) (snoc l (.r false false (.y st) 1 F2))) : S.call 91 [.s x, .fn (.func 102) [] []] l K :=
  qrp hS id (tall1_f hx) (.cons .rfl (.cons .rfl .nil)) rfl trivial (by omega) (qam _) rfl (qkg _) fun st => hK _ _ st rfl rfl
end
theorem tbest_f {x : List UInt8} (hx : ilen x ≤ 1000000) :
    (S0 Tryd.prog).call 72 [.s x] [] (OwnR 0 1 (cellsB (bestT (byS x))) false []) := by
  have hL : bestT (byS x) = if shortB (byS x) then packT (byS x) else plainT (byS x) := rfl
  generalize bestT (byS x) = L at hL ⊢
  generalize hP : cellsB L = P
  have hxb := qgl x
  generalize hS : S0 Tryd.prog = S
  have hsl := qwt hS x
  have hsb := sb_eq hS x
  have hsf : FSub (S.sb x) (cellsB (byS x)) := by rw [hsb]; exact .rfl
  refine qab hS I.qvv ?_
  cbv
  refine qab hS I.qsz ?_
  cbv
  refine short_u hS (b := byS x) (byS_ok x) (by omega) rfl hsf hsl fun t ht => ?_
  rw [ht] at hL
  cbv
  refine s_br hS ?_ ?_ <;> intro h <;> cbv
  · rw [h] at hL
    refine qab hS I.qqd ?_
    cbv
    refine tall1_u hS hx fun F2 n2 st hF2 hn2 => ?_
    cbv
    exact qsg (L := L) (by rw [hL]; exact hF2.symm) hP (Nat.zero_le _) (by rw [hL]; exact hn2) rfl
  · rw [h] at hL
    refine tall0_u hS hx fun F2 n2 st hF2 hn2 => ?_
    cbv
    exact qsg (L := L) (by rw [hL]; exact hF2.symm) hP (Nat.zero_le _) (by rw [hL]; exact hn2) rfl
end Cz
namespace Cz
open Go Go.RowKit Go.Proofs
theorem s_bsx {S : Sy} (hS : S0 Tryd.prog = S) {l : List Int} {F : List SV} {n : Int} {x : List UInt8} {K : List UInt8 → Prop} (hb : Hu.BOk l) (hF : cellsB l = F) (hn : n = ilen l) (hx : strB l = x) (h : K x) : S.bs F 0 n K := s_bs hS hb hF hn (hx ▸ h)
theorem v_take3 : takeL [49, 141] = [97, 97, 97] ∧ takeE [49, 141] = 0 := by
  have := Hu.take_put [97, 97, 97] (bok1 (by decide))
  rw [show Hu.put [97, 97, 97] = [49, 141] by decide +kernel] at this
  unfold takeL takeE; rw [this]; exact ⟨rfl, rfl⟩
theorem v_take4 : takeE [255] = 70 := by
  have h1 : Hu.bl [255] = List.replicate 8 true := by decide +kernel
  have : Hu.take [255] = none := by
    unfold Hu.take
    rw [h1, Hu.dec_none (Hu.sym_ones 8)]
    simp
  unfold takeE; rw [this]; rfl
theorem v1 : tTake [130, 49, 141, 9] = ([97, 97, 97], [9], 0) := by
  unfold tTake
  rw [show preE [130, 49, 141, 9] 128 = 0 by decide +kernel, show preN [130, 49, 141, 9] 128 = 2 by decide +kernel, show preR [130, 49, 141, 9] 128 = [49, 141, 9] by decide +kernel,
    show part [49, 141, 9] 0 2 = [49, 141] by decide +kernel, v_take3.1, v_take3.2]
  decide +kernel
theorem v2 : tTake [2, 97] = ([], [], 10) := by decide +kernel
theorem v3 : tTake [129, 255] = ([], [], 70) := by
  unfold tTake
  rw [show preE [129, 255] 128 = 0 by decide +kernel, show preN [129, 255] 128 = 1 by decide +kernel, show preR [129, 255] 128 = [255] by decide +kernel,
    show part [255] 0 1 = [255] by decide +kernel, v_take4]
  decide +kernel
end Cz
namespace Cz
open Go Go.RowKit Go.Proofs
end Cz
namespace Cz
open Go Go.RowKit Go.Proofs
namespace Tb
abbrev Fd := List UInt8 × List UInt8
def stL : List Fd :=
   [([58, 109, 101, 116, 104, 111, 100], [71, 69, 84]),
    ([58, 109, 101, 116, 104, 111, 100], [80, 79, 83, 84]),
    ([58, 112, 97, 116, 104], [47]),
    ([58, 115, 99, 104, 101, 109, 101], [104, 116, 116, 112]),
    ([58, 115, 99, 104, 101, 109, 101], [104, 116, 116, 112, 115]),
    ([58, 115, 116, 97, 116, 117, 115], [50, 48, 48]),
    ([58, 115, 116, 97, 116, 117, 115], [50, 48, 52]),
    ([58, 115, 116, 97, 116, 117, 115], [52, 48, 52]),
    ([58, 115, 116, 97, 116, 117, 115], [53, 48, 48]),
    ([97, 99, 99, 101, 112, 116], []),
    ([99, 111, 110, 116, 101, 110, 116, 45, 108, 101, 110, 103, 116, 104], []),
    ([99, 111, 110, 116, 101, 110, 116, 45, 116, 121, 112, 101], []),
    ([99, 111, 111, 107, 105, 101], []),
    ([100, 97, 116, 101], []),
    ([104, 111, 115, 116], []),
    ([108, 111, 99, 97, 116, 105, 111, 110], []),
    ([112, 114, 105, 111, 114, 105, 116, 121], []),
    ([112, 114, 105, 111, 114, 105, 116, 121], [117, 61, 49]),
    ([115, 101, 114, 118, 101, 114], []),
    ([117, 115, 101, 114, 45, 97, 103, 101, 110, 116], [])]
def lineL : List (List UInt8) :=
   [[58, 109, 101, 116, 104, 111, 100, 32, 71, 69, 84],
    [58, 109, 101, 116, 104, 111, 100, 32, 80, 79, 83, 84],
    [58, 112, 97, 116, 104, 32, 47],
    [58, 115, 99, 104, 101, 109, 101, 32, 104, 116, 116, 112],
    [58, 115, 99, 104, 101, 109, 101, 32, 104, 116, 116, 112, 115],
    [58, 115, 116, 97, 116, 117, 115, 32, 50, 48, 48],
    [58, 115, 116, 97, 116, 117, 115, 32, 50, 48, 52],
    [58, 115, 116, 97, 116, 117, 115, 32, 52, 48, 52],
    [58, 115, 116, 97, 116, 117, 115, 32, 53, 48, 48],
    [97, 99, 99, 101, 112, 116],
    [99, 111, 110, 116, 101, 110, 116, 45, 108, 101, 110, 103, 116, 104],
    [99, 111, 110, 116, 101, 110, 116, 45, 116, 121, 112, 101],
    [99, 111, 111, 107, 105, 101],
    [100, 97, 116, 101],
    [104, 111, 115, 116],
    [108, 111, 99, 97, 116, 105, 111, 110],
    [112, 114, 105, 111, 114, 105, 116, 121],
    [112, 114, 105, 111, 114, 105, 116, 121, 32, 117, 61, 49],
    [115, 101, 114, 118, 101, 114],
    [117, 115, 101, 114, 45, 97, 103, 101, 110, 116]]
def joinT : List (List UInt8) → List UInt8
  | [] => []
  | [x] => x
  | x :: y :: r => x ++ 10 :: joinT (y :: r)
def remT (j : Nat) : List UInt8 := joinT (lineL.drop j)
def szF (f : Fd) : Int := ilen f.1 + ilen f.2 + 32
theorem qnh (f : Fd) : 32 ≤ szF f := by have := qai f.1; have := qai f.2; unfold szF; omega
def fullL : List Fd → Int
  | [] => 0
  | f :: r => szF f + fullL r
theorem qhq : ∀ l : List Fd, 0 ≤ fullL l
  | [] => by simp [fullL]
  | f :: r => by have := qnh f; have := qhq r; simp only [fullL]; omega
theorem qoq : ∀ l m : List Fd, fullL (l ++ m) = fullL l + fullL m
  | [], m => by simp [fullL]
  | f :: r, m => by simp only [List.cons_append, fullL, qoq r m]; omega
theorem qcj : ∀ l : List Fd, 32 * ilen l ≤ fullL l
  | [] => by simp [fullL, ilen]
  | f :: r => by have := qnh f; have := qcj r; simp only [fullL, ilen, List.length_cons] at *; omega
theorem qha {l : List Fd} {i : Int} {f : Fd} (h : l[i.toNat]? = some f) (h0 : 0 ≤ i) : fullL (l.take (i + 1).toNat) = fullL (l.take i.toNat) + szF f := by
  rw [qdh h h0, qoq]; simp [fullL]
theorem qfm (l : List Fd) (n : Nat) : fullL (l.take n) ≤ fullL l := by
  conv => rhs; rw [← List.take_append_drop n l]
  rw [qoq]
  have := qhq (l.drop n); omega
theorem qxf {l : List Fd} {i : Nat} {f : Fd} (h : l[i]? = some f) : szF f ≤ fullL l := by
  have h1 := qfm l (i + 1)
  have h2 := qha (i := i) (by simpa using h) (by omega)
  have h3 := qhq (l.take i)
  rw [show ((i : Int) + 1).toNat = i + 1 by omega] at h2
  simp only [Int.toNat_natCast] at h2
  omega
def rightL (mx : Int) (l : List Fd) : Bool := decide (0 ≤ mx ∧ mx ≤ 4096 ∧ fullL l ≤ mx)
def evN (mx : Int) (l : List Fd) : Nat → Nat
  | 0 => 0
  | n + 1 => if fullL (l.take (n + 1)) ≤ mx then n + 1 else evN mx l n
def evL (mx : Int) (l : List Fd) : List Fd := l.take (evN mx l l.length)
theorem evN_le (mx : Int) (l : List Fd) : ∀ n, evN mx l n ≤ n
  | 0 => Nat.le_refl _
  | n + 1 => by
    simp only [evN]
    split
    · exact Nat.le_refl _
    · exact Nat.le_succ_of_le (evN_le mx l n)
theorem qtl {mx : Int} {l : List Fd} {n : Nat} (h : fullL (l.take n) ≤ mx) : evN mx l n = n := by
  cases n with
  | zero => rfl
  | succ n => rw [evN, if_pos h]
theorem evN_next {mx : Int} {l : List Fd} {n : Nat} (h : ¬fullL (l.take (n + 1)) ≤ mx) : evN mx l (n + 1) = evN mx l n := by rw [evN, if_neg h]
theorem evN_full {mx : Int} {l : List Fd} (h0 : 0 ≤ mx) : ∀ n, fullL (l.take (evN mx l n)) ≤ mx
  | 0 => by simpa [evN, fullL] using h0
  | n + 1 => by
    by_cases h : fullL (l.take (n + 1)) ≤ mx
    · rw [qtl h]; exact h
    · rw [evN_next h]; exact evN_full h0 n
theorem qwb {mx : Int} {l : List Fd} (h0 : 0 ≤ mx) : fullL (evL mx l) ≤ mx := evN_full h0 _
theorem qhg {mx : Int} {l : List Fd} (h : fullL l ≤ mx) : evL mx l = l := by
  unfold evL
  rw [qtl (by rw [List.take_length]; exact h), List.take_length]
abbrev Tab := Int × List Fd
def newR (most : Int) : Tab × Int := if most < 0 ∨ 4096 < most then ((0, []), 2) else ((most, []), 0)
def addR (t : Tab) (f : Fd) : Tab × Int := if rightL t.1 t.2 then ((t.1, evL t.1 (f :: t.2)), 0) else ((0, []), 2)
def resR (t : Tab) (most : Int) : Tab × Int := if rightL t.1 t.2 = true ∧ 0 ≤ most ∧ most ≤ 4096 then ((most, evL most t.2), 0) else ((0, []), 2)
def allF (l : List Fd) : List Fd := stL ++ l
def atR (l : List Fd) (i : Int) : Fd × Int := if i < 1 then (([], []), 90) else match (allF l)[(i - 1).toNat]? with
  | some f => (f, 0)
  | none => (([], []), 90)
def fstI (p : Fd → Bool) : List Fd → Int → Int
  | [], _ => 0
  | x :: r, i => if p x then i else fstI p r (i + 1)
def findR (l : List Fd) (f : Fd) : Int × Bool :=
  if fstI (fun x => x == f) (allF l) 1 ≠ 0 then (fstI (fun x => x == f) (allF l) 1, true) else (fstI (fun x => x.1 == f.1) (allF l) 1, false)
theorem qin : stL.length = 20 := rfl
theorem line_facts : ∀ j : Fin 20, idxI (remT j.val) 10 = (if j.val < 19 then ilen (lineL.getD j.val []) else -1) ∧
    (remT j.val).take (lineL.getD j.val []).length = lineL.getD j.val [] ∧ (j.val < 19 → (remT j.val).drop ((lineL.getD j.val []).length + 1) = remT (j.val + 1)) ∧ (j.val = 19 → remT j.val = lineL.getD j.val []) ∧
    (if idxI (lineL.getD j.val []) 32 < 0 then stL.getD j.val ([], []) = (lineL.getD j.val [], []) else
      stL.getD j.val ([], []) = ((lineL.getD j.val []).take (idxI (lineL.getD j.val []) 32).toNat, (lineL.getD j.val []).drop ((idxI (lineL.getD j.val []) 32).toNat + 1))) ∧ ilen (lineL.getD j.val []) ≤ 20 ∧ ilen (remT j.val) ≤ 300 ∧ idxI (lineL.getD j.val []) 32 < ilen (lineL.getD j.val []) := by
  decide +kernel
end Tb
end Cz
namespace Cz
open Go Go.RowKit Go.Proofs
namespace Tb
def fdE (f : Fd) : List SV := [.s f.1, .s f.2]
def cellsF (l : List Fd) : List SV := l.flatMap fdE
theorem qal (l : List Fd) : plains (cellsF l) = true := qio (fun _ => rfl) l
theorem qcb (l : List Fd) : (cellsF l).length = l.length * 2 := qti (enc := fdE) (fun _ => rfl) l
def tabV (mx : Int) (l : List Fd) : SV := .ag [.i .i64 (.y mx), .v false 2 (cellsF l) (.y (ilen l))]
theorem qlq (l : List Fd) (n : Nat) : (cellsF l).take (n * 2) = cellsF (l.take n) := by
  induction l generalizing n with
  | nil => simp [cellsF]
  | cons f l ih =>
    cases n with
    | zero => simp [cellsF]
    | succ n =>
      have := ih n
      simp only [cellsF, List.flatMap_cons, fdE, List.take_succ_cons] at this ⊢
      rw [show (n + 1) * 2 = n * 2 + 1 + 1 by omega]
      simp only [List.cons_append, List.nil_append, List.take_succ_cons]
      rw [this]
theorem qfw {l' : List Blk} {g : Nat → Nat} {ks : List (Option Nat)} {k : Nat} {len : Z} {cap : Option Z} {lit : Bool} {st : Z} {F : List SV} {lit' : Bool} {n : Z} {l : List Fd} {m : Nat} (hB : l'[k]? = some (.r false lit st 2 F)) (hk : kpOf ks k = none)
    (hF : F = cellsF l) (hm : len.v = m) (hn : len.v = n.v) : Fz l' g ks (.sl k 2 (.l 0) len cap) (.v lit' 2 (cellsF (l.take m)) n) := by
  refine fz_row hB hk ?_ (qal _) hn
  rw [hF, show (Z.l 0).v.toNat * 2 = 0 from rfl, List.drop_zero, show len.v.toNat = m by omega, qlq]
inductive TabC (bl : List Blk) : List SV → Int → List Fd → Prop where
  | v {z n : Z} {lit : Bool} {F : List SV} {mx : Int} {l : List Fd} (hz : z.v = mx) (hF : cellsF l = F) (hn : n.v = ilen l) : TabC bl [.i .i64 z, .v lit 2 F n] mx l
  | nil {z : Z} {mx : Int} (hz : z.v = mx) : TabC bl [.i .i64 z, .re (.slice none 0 0)] mx []
  | row {z n st : Z} {k : Nat} {lit : Bool} {cap : Option Z} {F : List SV} {mx : Int} {l l0 : List Fd} (hz : z.v = mx) (hB : lget bl k = .r false lit st 2 F) (hF : cellsF l0 = F) (hl : l = l0.take n.v.toNat) (hn : n.v = ilen l) : TabC bl [.i .i64 z, .sl k 2 (.l 0) n cap] mx l
theorem TabC.fz {bl : List Blk} {cs : List SV} {mx : Int} {l : List Fd} (h : TabC bl cs mx l) {g : Nat → Nat} : FzL bl g [] [.ag cs] [tabV mx l] := by
  cases h with
  | v hz hF hn => exact .cons (.ag (.cons (.sub (qba hz) rfl) (.cons (.sub (qcg hF.symm hn) rfl) .nil))) .nil
  | nil hz => exact .cons (.ag (.cons (.sub (qba hz) rfl) (.cons (.sub (qql (by decide) rfl rfl) rfl) .nil))) .nil
  | @row z n st k lit cap F mx l l0 hz hB hF hl hn =>
    subst hl
    refine .cons (.ag (.cons (.sub (qba hz) rfl) (.cons (qfw (qaj hB (by simp)) rfl hF.symm ?_ hn) .nil))) .nil
    have := qai (l0.take n.v.toNat)
    omega
theorem TabC.sub {cs : List SV} {mx : Int} {l : List Fd} (h : TabC [] cs mx l) : SubL [.ag cs] [tabV mx l] := by
  cases h with
  | v hz hF hn => exact .cons (qec (.cons (qba hz) (.cons (qcg hF.symm hn) .nil))) .nil
  | nil hz => exact .cons (qec (.cons (qba hz) (.cons (qql (by decide) rfl rfl) .nil))) .nil
  | row hz hB hF hl hn => simp [lget] at hB
theorem rowF {S : Sy} (hS : S0 Tryd.prog = S) {l : List Fd} {F : List SV} (hF : cellsF l = F) {q : Int} {a b : List UInt8} {K : SV → Prop} (hv : l[q.toNat]? = some (a, b)) (h0 : 0 ≤ q) (h : K (.ag [.s a, .s b])) : S.rd F q 2 0 2 true K :=
  s_rowp hS (enc := fdE) hF hv (fun _ => rfl) h0 (Nat.le_refl _) rfl h
theorem rowF1 {S : Sy} (hS : S0 Tryd.prog = S) {l : List Fd} {F : List SV} (hF : cellsF l = F) {q : Int} {a b : List UInt8} {K : SV → Prop} (hv : l[q.toNat]? = some (a, b)) (h0 : 0 ≤ q) (h : K (.s a)) : S.rd F q 2 0 1 false K :=
  s_rowp hS (enc := fdE) hF hv (fun _ => rfl) h0 (by decide) rfl h
theorem rowF2 {S : Sy} (hS : S0 Tryd.prog = S) {l : List Fd} {F : List SV} (hF : cellsF l = F) {q : Int} {a b : List UInt8} {K : SV → Prop} (hv : l[q.toNat]? = some (a, b)) (h0 : 0 ≤ q) (h : K (.s b)) : S.rd F q 2 1 1 false K :=
  s_rowp hS (enc := fdE) hF hv (fun _ => rfl) h0 (by decide) rfl h
theorem size_f {a b : List UInt8} {n : Int} (hn : n = szF (a, b)) (h : n ≤ 1000000000000000000) : (S0 Tryd.prog).call 22 [.ag [.s a, .s b]] [] (fun y _ => Sub y (.i .i64 (.y n))) := by
  generalize hS : S0 Tryd.prog = S
  have g1 := qai a
  have g2 := qai b
  have hn' : n = ilen a + ilen b + 32 := hn
  refine qab hS I.qta ?_
  cbv
  repeat' (first
    | (refine s_st hS ?_; try cbv)
    | (refine qac hS ?_ ?_ <;> intro h <;> (try cbv) <;> try exact s_ab h)
    | (refine qau hS ?_; intro _ _; try cbv)
    | (refine qaf hS ?_; try cbv)
    | (refine qav hS ?_; intro _ _; try cbv)
    | (refine qbz hS ?_; try cbv)
    | fail)
  refine qba ?_
  simp only [Z.v]; omega
section
variable {S : Sy} {bl : List Blk} {K : SV → List Blk → Prop}
theorem size_u (hS : S0 Tryd.prog = S) {a b : List UInt8} (h : szF (a, b) ≤ 1000000000000000000) (hK : ∀ n, n = szF (a, b) → K (.i .i64 (.y n)) bl) : S.call 22 [.ag [.s a, .s b]] bl K :=
  qbq hS (size_f rfl h) .rfl rfl rfl (hK _ rfl)
end
theorem full_f {mx : Int} {l : List Fd} {n : Int} (hn : n = fullL l) (h : n ≤ 100000000) : (S0 Tryd.prog).call 24 [tabV mx l] [] (fun y _ => Sub y (.i .i64 (.y n))) := by
  generalize hF : cellsF l = F
  obtain ⟨m, hm⟩ : ∃ m, m = ilen l := ⟨_, rfl⟩
  have hlen := qcj l
  have h0 := qai l
  unfold tabV
  rw [hF, ← hm]
  generalize hS : S0 Tryd.prog = S
  refine qab hS I.qtc ?_
  cbv
  refine qbh hS 1 I.qlp (fun x : Int × Int => 0 ≤ x.1 ∧ x.1 ≤ m ∧ x.2 = fullL (l.take x.1.toNat)) (fun x => [(2, .i .i64 (.y x.2)), (8, .i .i64 (.y x.1))]) (fun _ => []) (fun x => (m - x.1).toNat) (0, 0) rfl
    ⟨⟨Int.le_refl _, by omega, rfl⟩, rfl, ?_, ?_, by cbv⟩ ?_
  · cbv; all_goals exact s_sA
  · cbv; all_goals exact s_bA
  intro x
  obtain ⟨i, s⟩ := x
  intro hx
  dsimp only at hx
  cbv
  obtain ⟨k0, k1, k2⟩ := hx
  have hs0 := qhq (l.take i.toNat)
  have hs1 := qfm l i.toNat
  rw [← k2] at hs0 hs1
  refine qac hS ?_ ?_ <;> intro h <;> cbv
  · obtain ⟨⟨a, b⟩, hp⟩ := qkl (l := l) (i := i) (by omega) k0
    have hsz := qxf hp
    have hsp := qnh (a, b)
    have hnx := qha hp k0
    rw [← k2] at hnx
    have hs2 := qfm l (i + 1).toNat
    repeat' (first
      | (refine s_st hS ?_; try cbv)
      | (refine qac hS ?_ ?_ <;> intro h <;> (try cbv) <;> try exact s_ab h)
      | (refine qau hS ?_; intro _ _; try cbv)
      | (refine qaf hS ?_; try cbv)
      | (refine qav hS ?_; intro _ _; try cbv)
      | (refine qbz hS ?_; try cbv)
      | (refine rowF hS hF hp (by omega) ?_; cbv)
      | (refine size_u hS (by omega) fun n1 hn1 => ?_; cbv)
      | fail)
    rename_i s2 hs2 i2 hi2
    refine ⟨(i2, s2), by dsimp only; omega, ⟨by dsimp only; omega, by dsimp only; omega, by dsimp only; rw [hs2, hi2, hnx]; omega⟩, rfl, ?_, ?_, by cbv⟩
    · cbv; all_goals exact s_sA
    · cbv; all_goals exact s_bA
  · refine qba ?_
    simp only [Z.v]; rw [hn, k2, qbf (by omega)]
section
variable {S : Sy} {bl : List Blk} {K : SV → List Blk → Prop} {cs : List SV} {mx : Int} {l : List Fd}
theorem full_u (hS : S0 Tryd.prog = S) (hc : TabC bl cs mx l) (h : fullL l ≤ 100000000) (hK : ∀ n, n = fullL l → K (.i .i64 (.y n)) bl) : S.call 24 [.ag cs] bl K :=
  qbw hS (full_f rfl h) hc.fz rfl rfl (hK _ rfl)
end
theorem right_f {mx : Int} {l : List Fd} {t : Bool} (ht : rightL mx l = t) (hb : fullL l ≤ 100000000) : (S0 Tryd.prog).call 26 [tabV mx l] [] (fun y _ => Sub y (.b t)) := by
  generalize hF : cellsF l = F
  obtain ⟨m, hm⟩ : ∃ m, m = ilen l := ⟨_, rfl⟩
  unfold tabV
  rw [hF, ← hm]
  generalize hS : S0 Tryd.prog = S
  refine qab hS I.qqf ?_
  cbv
  refine qad hS rfl I.qky (by decide +kernel) ?_
  cbv
  repeat' (first
    | (refine s_st hS ?_; try cbv)
    | (refine qac hS ?_ ?_ <;> intro h <;> (try cbv) <;> try exact s_ab h)
    | (refine qau hS ?_; intro _ _; try cbv)
    | (refine qaf hS ?_; try cbv)
    | (refine qav hS ?_; intro _ _; try cbv)
    | (refine qbz hS ?_; try cbv)
    | (refine And.intro rfl ?_; try cbv)
    | (refine full_u hS (.v rfl hF hm) hb fun n1 hn1 => ?_; cbv)
    | fail)
  all_goals first | refine qup ?_ | refine qni ?_ | refine qun ?_
  all_goals (rw [← ht]; simp only [← hS, Int.ofNat_eq_natCast, cr, rightL, decide_eq_true_eq, decide_eq_false_iff_not, decide_eq_decide] at *; omega)
section
variable {S : Sy} {bl : List Blk} {K : SV → List Blk → Prop} {cs : List SV} {mx : Int} {l : List Fd}
theorem qrz (hS : S0 Tryd.prog = S) (hc : TabC bl cs mx l) (h : fullL l ≤ 100000000) (h1 : rightL mx l = true → K .tt bl) (h2 : rightL mx l = false → K .ff bl) : S.call 26 [.ag cs] bl K := by
  refine qbw hS (qbg (right_f rfl h)) hc.fz rfl (by cases rightL mx l <;> rfl) ?_
  cases hr : rightL mx l
  · exact h2 hr
  · exact h1 hr
end
theorem tabS {cs : List SV} {mx e : Int} {l : List Fd} {z : Z} (hc : TabC [] cs mx l) (he : z.v = e) : Sub (.tp [.ag cs, .i .i64 z]) (.tp [tabV mx l, .i .i64 (.y e)]) := by
  match hc.sub with
  | .cons h1 _ => exact qch (.cons h1 (.cons (qba he) .nil))
theorem qjg {bl : List Blk} {cs : List SV} {mx e n : Int} {l : List Fd} {F : List SV} {z : Z} (hF : cellsF l = F) (hn : n = ilen l) (he : z.v = e) (hc : TabC bl cs mx l) : Tell (.tp [.ag [.i .i64 (.y mx), .v false 2 F (.y n)], .i .i64 (.y e)]) (.tp [.ag cs, .i .i64 z]) bl := by
  subst hF hn
  exact fun g => match hc.fz (g := g) with
    | .cons h1 _ => .tp (.cons h1 (.cons (.sub (qba he) rfl) .nil))
    | .fsub h hp => by simp [tabV, plains, plainV] at hp
theorem new_f {most mx e : Int} {l : List Fd} (hr : newR most = ((mx, l), e)) : (S0 Tryd.prog).call 19 [.i .i64 (.y most)] [] (fun y _ => Sub y (.tp [tabV mx l, .i .i64 (.y e)])) := by
  unfold newR at hr
  generalize hS : S0 Tryd.prog = S
  refine qab hS I.qvw ?_
  cbv
  repeat' (first
    | (refine s_st hS ?_; try cbv)
    | (refine qac hS ?_ ?_ <;> intro h <;> (try cbv) <;> try exact s_ab h)
    | (refine qau hS ?_; intro _ _; try cbv)
    | (refine qaf hS ?_; try cbv)
    | (refine qav hS ?_; intro _ _; try cbv)
    | (refine qbz hS ?_; try cbv)
    | fail)
  all_goals first
    | (rw [if_pos (by omega)] at hr; cases hr; exact tabS (.nil rfl) rfl)
    | (rw [if_neg (by omega)] at hr; cases hr; exact tabS (.nil rfl) rfl)
section
variable {S : Sy} {bl : List Blk} {K : SV → List Blk → Prop}
theorem new_u (hS : S0 Tryd.prog = S) {most : Z} (h1 : most.v < 0 ∨ 4096 < most.v → K (.tp [.ag [.i .i64 (.y 0), .v false 2 [] (.y 0)], .i .i64 (.l 2)]) bl) (h2 : 0 ≤ most.v → most.v ≤ 4096 → K (.tp [.ag [.i .i64 (.y most.v), .v false 2 [] (.y 0)], .i .i64 (.l 0)]) bl) :
    S.call 19 [.i .i64 most] bl K := by
  by_cases h : most.v < 0 ∨ 4096 < most.v
  · exact qbq hS (sv := .tp [.ag [.i .i64 (.y 0), .v false 2 [] (.y 0)], .i .i64 (.l 2)]) (qbi (new_f (most := most.v) (by unfold newR; rw [if_pos h])) fun x _ hx => ⟨x, .rfl, hx.trans (qch (.cons .rfl (.cons (qba rfl) .nil)))⟩) (.cons (qba rfl) .nil) rfl rfl (h1 h)
  · exact qbq hS (sv := .tp [.ag [.i .i64 (.y most.v), .v false 2 [] (.y 0)], .i .i64 (.l 0)]) (qbi (new_f (most := most.v) (by unfold newR; rw [if_neg h])) fun x _ hx => ⟨x, .rfl, hx.trans (qch (.cons .rfl (.cons (qba rfl) .nil)))⟩) (.cons (qba rfl) .nil) rfl rfl (h2 (by omega) (by omega))
end
theorem first2 : ∀ i, i < 2 → ([some 0, some 1] : List (Option Nat))[i]? = some (some i)
  | 0, _ => rfl
  | 1, _ => rfl
  | n + 2, h => by omega
theorem ev_pos {mx k : Int} {l : List Fd} (h0 : 0 ≤ mx) (h : mx < fullL (l.take k.toNat)) : 1 ≤ k := by
  rcases Int.lt_or_le k 1 with h1 | h1
  · rw [show k.toNat = 0 by omega] at h
    simp [fullL] at h
    omega
  · exact h1
theorem ev_end {mx k m e : Int} {l : List Fd} (hm : m = ilen l) (he : e = ilen (evL mx l)) (k0 : 0 ≤ k) (k1 : k ≤ m) (kev : evN mx l m.toNat = evN mx l k.toNat) (h : ¬mx < fullL (l.take k.toNat)) : k = e := by
  have h1 : evN mx l k.toNat = k.toNat := qtl (by omega)
  have h2 : m.toNat = l.length := by rw [hm]; unfold ilen; omega
  rw [he]
  unfold evL
  rw [← h2, kev, h1]
  unfold ilen at *
  rw [List.length_take]
  omega
theorem ev_step {mx k r : Int} {l : List Fd} {m : Int} (hr : r = k - 1) (k1 : 1 ≤ k) (kev : evN mx l m.toNat = evN mx l k.toNat) (h : mx < fullL (l.take k.toNat)) : evN mx l m.toNat = evN mx l r.toNat := by
  rw [kev, show k.toNat = r.toNat + 1 by omega]
  exact evN_next (by rw [show r.toNat + 1 = k.toNat by omega]; omega)
theorem evict_f {mx : Int} {l : List Fd} {F : List SV} {st : Int} (hF : cellsF l = F) (h0 : 0 ≤ mx) (hb : fullL l ≤ 100000000) :
    (S0 Tryd.prog).call 56 [.p 0 0] [.c [.i .i64 (.y mx), .sl 1 2 (.l 0) (.y (ilen l)) none], .r false false (.y st) 2 F]
      (PostB 2 (fun _ g => [.c [.i .i64 (.y mx), .sl (g 1) 2 (.l 0) (.y (ilen (evL mx l))) none], .r false false (.y st) 2 F]) (fun _ => .any)) := by
  obtain ⟨m, hm⟩ : ∃ m, m = ilen l := ⟨_, rfl⟩
  obtain ⟨e, he⟩ : ∃ e, e = ilen (evL mx l) := ⟨_, rfl⟩
  have hm0 := qai l
  have hlen := qcj l
  have hpl := qal l
  rw [hF] at hpl
  rw [← hm, ← he]
  generalize hS : S0 Tryd.prog = S
  have fin : ∀ k : Int, k = e → PostB 2 (fun _ g => [.c [.i .i64 (.y mx), .sl (g 1) 2 (.l 0) (.y e) none], .r false false (.y st) 2 F]) (fun _ => .any) (.tp []) [.c [.i .i64 (.y mx), .sl 1 2 (.l 0) (.y k) none], .r false false (.y st) 2 F] := by
    rintro k rfl
    exact ⟨[some 0, some 1], fun _ => 0, first2, fun g => ⟨⟨⟨_, rfl, rfl, .c (.cons (.sub .rfl rfl) (.cons (.keep (i := 1) rfl rfl rfl) .nil))⟩, rfl, ⟨_, rfl, rfl, .r .rfl hpl rfl⟩, rfl, trivial⟩, .sub qgr rfl⟩⟩
  refine qab hS I.qqe ?_
  cbv
  refine full_u hS (.row rfl rfl hF (l := l) (by simp [Z.v, hm, ilen]) (by simp [Z.v, hm])) hb fun f hf0 => ?_
  cbv
  have hf : f = fullL (l.take m.toNat) := by rw [hf0, qbf (by omega)]
  repeat' (first
    | (refine s_st hS ?_; try cbv)
    | (refine qac hS ?_ ?_ <;> intro h <;> (try cbv) <;> try exact s_ab h)
    | (refine qau hS ?_; intro _ _; try cbv)
    | (refine qaf hS ?_; try cbv)
    | (refine qav hS ?_; intro _ _; try cbv)
    | (refine qbz hS ?_; try cbv)
    | fail)
  · have k1 := ev_pos h0 (hf ▸ h)
    rename_i r hr
    obtain ⟨⟨a, b⟩, hp⟩ := qkl (l := l) (i := r) (by omega) (by omega)
    have hnx := qha hp (by omega)
    rw [show r + 1 = m by omega, ← hf] at hnx
    have hn0 := qhq (l.take r.toNat)
    have hsp := qnh (a, b)
    repeat' (first
      | (refine s_st hS ?_; try cbv)
      | (refine qac hS ?_ ?_ <;> intro h <;> (try cbv) <;> try exact s_ab h)
      | (refine qau hS ?_; intro _ _; try cbv)
      | (refine qaf hS ?_; try cbv)
      | (refine qav hS ?_; intro _ _; try cbv)
      | (refine qbz hS ?_; try cbv)
      | (refine rowF hS hF hp (by omega) ?_; cbv)
      | (refine size_u hS (by omega) fun n1 hn1 => ?_; cbv)
      | fail)
    rename_i f2 hf2
    refine s_jump_up hS 2 [1, 3, 4, 5, 6, 7, 8, 9, 10, 11, 12, 13, 14, 15, 16, 17, 18, 19, 20, 21, 22, 23, 24, 25, 26, 27, 28, 29, 30, 31, 32, 33, 34, 35, 36, 37, 38]
      (fun x : Int × Int => 0 ≤ x.1 ∧ x.1 ≤ m ∧ x.2 = fullL (l.take x.1.toNat) ∧ evN mx l m.toNat = evN mx l x.1.toNat)
      (fun x => [(2, .i .i64 (.y x.2))]) (fun x => [(0, .c [.i .i64 (.y mx), .sl 1 2 (.l 0) (.y x.1) none])]) (fun x => x.1.toNat) (r, f2) rfl rfl
      ⟨⟨by dsimp only; omega, by dsimp only; omega, by dsimp only; omega, ev_step hr k1 rfl (hf ▸ h)⟩, rfl, ?_, ?_, by cbv⟩ ?_
    · cbv; all_goals exact s_sA
    · cbv; all_goals exact s_bA
    intro x
    obtain ⟨k, g⟩ := x
    intro hx
    dsimp only at hx
    cbv
    obtain ⟨j0, j1, j2, j3⟩ := hx
    repeat' (first
      | (refine s_st hS ?_; try cbv)
      | (refine qac hS ?_ ?_ <;> intro h <;> (try cbv) <;> try exact s_ab h)
      | (refine qau hS ?_; intro _ _; try cbv)
      | (refine qaf hS ?_; try cbv)
      | (refine qav hS ?_; intro _ _; try cbv)
      | (refine qbz hS ?_; try cbv)
      | fail)
    · have k1 := ev_pos h0 (j2 ▸ h)
      rename_i r2 hr2
      obtain ⟨⟨a2, b2⟩, hp2⟩ := qkl (l := l) (i := r2) (by omega) (by omega)
      have hnx2 := qha hp2 (by omega)
      rw [show r2 + 1 = k by omega, ← j2] at hnx2
      have hn02 := qhq (l.take r2.toNat)
      have hsp2 := qnh (a2, b2)
      have hgf := qfm l k.toNat
      rw [← j2] at hgf
      repeat' (first
        | (refine s_st hS ?_; try cbv)
        | (refine qac hS ?_ ?_ <;> intro h <;> (try cbv) <;> try exact s_ab h)
        | (refine qau hS ?_; intro _ _; try cbv)
        | (refine qaf hS ?_; try cbv)
        | (refine qav hS ?_; intro _ _; try cbv)
        | (refine qbz hS ?_; try cbv)
        | (refine rowF hS hF hp2 (by omega) ?_; cbv)
        | (refine size_u hS (by omega) fun n2 hn2 => ?_; cbv)
        | fail)
      rename_i f3 hf3
      refine ⟨(r2, f3), by dsimp only; omega, ⟨by dsimp only; omega, by dsimp only; omega, by dsimp only; omega, ev_step hr2 k1 j3 (j2 ▸ h)⟩, rfl, ?_, ?_, by cbv⟩
      · cbv; all_goals exact s_sA
      · cbv; all_goals exact s_bA
    · exact fin _ (ev_end hm he j0 j1 j3 (by rw [← j2]; exact h))
  · exact fin _ (ev_end hm he (by omega) (by omega) rfl (by rw [← hf]; exact h))
section
variable {S : Sy} {bl : List Blk} {K : SV → List Blk → Prop}
theorem qtk (hS : S0 Tryd.prog = S) {p k : Nat} {z n : Z} {mx : Int} {l : List Fd} {lit : Bool} {st : Z} {F : List SV} (hF : cellsF l = F) (h0 : 0 ≤ mx) (hb : fullL l ≤ 100000000)
    (hK : ∀ e, e = ilen (evL mx l) → K .any (lset (lset bl p (.c [.i .i64 (.y mx), .sl k 2 (.l 0) (.y e) none])) k (.r false false (.y st.v) 2 F)))
    (hp : lget bl p = .c [.i .i64 z, .sl k 2 (.l 0) n none] := by rfl) (hk : lget bl k = .r false lit st 2 F := by rfl) (hne : nodupN [p, k] = true := by rfl) (hz : z.v = mx := by rfl) (hn : n.v = ilen l := by first | assumption | (simp only [Z.v]; omega)) : S.call 56 [.p p 0] bl K := by
  refine use_box hS [p, k] (evict_f (st := st.v) hF h0 hb) rfl hne .rfl ⟨?_, ?_, trivial⟩ rfl fun sts => hK _ rfl
  · simp only [fOf, hp]
    exact .c (.cons (qba hz) (.cons (qjh rfl (by simpa [Z.v] using hn)) .nil)) rfl
  · simp only [fOf, hk]
    exact .r .rfl (hF ▸ qal l) rfl
end
end Tb
end Cz
namespace Cz
open Go Go.RowKit Go.Proofs
namespace Tb
theorem clone_f {l : List Fd} {F : List SV} {n : Int} (hF : cellsF l = F) (hn : n = ilen l) (hb : n ≤ 100000000) : (S0 Tryd.prog).call 58 [.v false 2 F (.y n)] [] (Kept [(2, F)] (fun m => .sl m 2 (.l 0) (.y n) none)) := by
  have hpl : plains F = true := hF ▸ qal l
  have hlen : (ilen F : Int) = n * 2 := by rw [← hF, hn]; have := qcb l; unfold ilen; omega
  have h0 := qai l
  generalize hS : S0 Tryd.prog = S
  refine qab hS I.qen ?_
  cbv
  refine s_nil hS (fun h => ?_) ?_
  · cbv
    have : F = [] := by rw [← hF, List.eq_nil_of_length_eq_zero (l := l) (by unfold ilen at hn; omega)]; rfl
    exact ⟨[none], ⟨this, trivial⟩, fun m => .nilk (i := 0) rfl rfl h⟩
  · cbv
    repeat' (first
      | (refine s_st hS ?_; try cbv)
      | (refine qac hS ?_ ?_ <;> intro h <;> (try cbv) <;> try exact s_ab h)
      | (refine qau hS ?_; intro _ _; try cbv)
      | (refine qaf hS ?_; try cbv)
      | (refine qav hS ?_; intro _ _; try cbv)
      | (refine qbz hS ?_; try cbv)
      | fail)
    refine ⟨[some 0], ⟨⟨_, _, _, rfl, ?_⟩, rfl, trivial⟩, fun m => .keep (i := 0) rfl rfl ?_⟩
    · subst hS; exact .rfl
    · rfl
section
variable {S : Sy} {bl : List Blk} {K : SV → List Blk → Prop}
theorem clone_u (hS : S0 Tryd.prog = S) {x : SV} {l : List Fd} {n : Int} {F : List SV} (hx : SubL [x] [.v false 2 F (.y n)]) (hF : cellsF l = F) (hn : n = ilen l) (hb : n ≤ 100000000)
    (hK : ∀ st, K (.sl (len bl) 2 (.l 0) (.y n) none) (snoc bl (.r false false (.y st) 2 F))) : S.call 58 [x] bl K :=
  use_kept hS (clone_f hF hn hb) hx rfl ⟨⟨by decide, hF ▸ qal l⟩, trivial⟩ fun sts => hK _
end
theorem qna (mx : Int) (l : List Fd) : evL mx l = l.take (ilen (evL mx l)).toNat := by
  have := evN_le mx l l.length
  have h : (ilen (evL mx l)).toNat = evN mx l l.length := by unfold ilen evL; rw [List.length_take]; omega
  rw [h]; rfl
def tabE (mx : Int) (l : List Fd) (e : Int) : SV := .tp [tabV mx l, .i .i64 (.y e)]
theorem res_f {mx most mx' e : Int} {l l' : List Fd} (hr : resR (mx, l) most = ((mx', l'), e)) (hb : fullL l ≤ 100000000) :
    (S0 Tryd.prog).call 30 [tabV mx l, .i .i64 (.y most)] [] (Tell (tabE mx' l' e)) := by
  generalize hF : cellsF l = F
  obtain ⟨m, hm⟩ : ∃ m, m = ilen l := ⟨_, rfl⟩
  have hlen := qcj l
  have hm0 := qai l
  unfold tabE tabV
  generalize hF' : cellsF l' = F'
  obtain ⟨m', hm'⟩ : ∃ m, m = ilen l' := ⟨_, rfl⟩
  rw [hF, ← hm, ← hm']
  unfold resR at hr
  dsimp only at hr
  generalize hS : S0 Tryd.prog = S
  refine qab hS I.qhd ?_
  cbv
  refine new_u hS (fun h1 => ?_) (fun h1 h2 => ?_) <;> cbv <;> dsimp only [Z.v] at *
  · rw [if_neg (by intro h; omega)] at hr
    cases hr
    exact qjg hF' hm' rfl (.nil rfl)
  · refine qrz hS (.v rfl hF hm) hb (fun h3 => ?_) (fun h3 => ?_) <;> cbv <;> dsimp only [Z.v] at *
    · rw [if_pos ⟨h3, h1, h2⟩] at hr
      refine clone_u hS .rfl hF hm (by omega) fun st => ?_
      cbv
      refine qtk hS (mx := most) hF h1 hb fun n1 hn1 => ?_
      cbv
      cases hr
      refine qjg hF' hm' rfl (.row rfl rfl hF ?_ hn1)
      dsimp only [Z.v]
      rw [hn1]; exact qna _ _
    · rw [if_neg (by intro h; rw [h.1] at h3; cases h3)] at hr
      cases hr
      exact qjg hF' hm' rfl (.nil rfl)
theorem add_f {mx mx' e : Int} {l l' : List Fd} {a b : List UInt8} (hr : addR (mx, l) (a, b) = ((mx', l'), e)) (hb : fullL l ≤ 10000000) (hs : szF (a, b) ≤ 10000000) :
    (S0 Tryd.prog).call 28 [tabV mx l, .ag [.s a, .s b]] [] (Tell (tabE mx' l' e)) := by
  generalize hF : cellsF l = F
  obtain ⟨m, hm⟩ : ∃ m, m = ilen l := ⟨_, rfl⟩
  have hlen := qcj l
  have hm0 := qai l
  have hfl : ilen F = m * 2 := by rw [← hF, hm]; have := qcb l; unfold ilen; omega
  unfold tabE tabV
  generalize hF' : cellsF l' = F'
  obtain ⟨m', hm'⟩ : ∃ m, m = ilen l' := ⟨_, rfl⟩
  rw [hF, ← hm, ← hm']
  unfold addR at hr
  dsimp only at hr
  generalize hS : S0 Tryd.prog = S
  refine qab hS I.qmc ?_
  cbv
  refine qrz hS (.v rfl hF hm) (by omega) (fun h3 => ?_) (fun h3 => ?_) <;> cbv <;> dsimp only [Z.v] at *
  · have hmx : 0 ≤ mx := by unfold rightL at h3; have := of_decide_eq_true h3; omega
    rw [if_pos h3] at hr
    repeat' (first
      | (refine s_st hS ?_; try cbv)
      | (refine qac hS ?_ ?_ <;> intro h <;> (try cbv) <;> try exact s_ab h)
      | (refine qau hS ?_; intro _ _; try cbv)
      | (refine qaf hS ?_; try cbv)
      | (refine qav hS ?_; intro _ _; try cbv)
      | (refine qbz hS ?_; try cbv)
      | fail)
    have e1 : S.app [.s a, .s b] F = cellsF ((a, b) :: l) := by subst hS; rw [← hF]; rfl
    have e2 : S.pl 1 m = ilen ((a, b) :: l) := by subst hS; rw [hm]; simp only [pl_eq]; simp [ilen]; omega
    have e3 : fullL ((a, b) :: l) = szF (a, b) + fullL l := rfl
    refine qtk hS (mx := mx) (l := (a, b) :: l) e1.symm hmx (by omega) fun n1 hn1 => ?_
    cbv
    cases hr
    refine qjg hF' hm' rfl (.row rfl rfl e1.symm ?_ hn1)
    dsimp only [Z.v]
    rw [hn1]; exact qna _ _
  · rw [if_neg (by rw [h3]; simp)] at hr
    cases hr
    exact qjg hF' hm' rfl (.nil rfl)
end Tb
end Cz
namespace Cz
open Go Go.RowKit Go.Proofs
namespace Tb
theorem take_ne {l k : List Fd} {i : Int} {x y : Fd} (hx : l[i.toNat]? = some x) (hy : k[i.toNat]? = some y) (h : x ≠ y) : ¬l = k := by
  intro e; subst e; rw [hx] at hy; cases hy; exact h rfl
theorem qlx {l k : List Fd} {i : Int} {x : Fd} (h0 : 0 ≤ i) (hx : l[i.toNat]? = some x) (hy : k[i.toNat]? = some x) (h : l.take i.toNat = k.take i.toNat) : l.take (i + 1).toNat = k.take (i + 1).toNat := by
  rw [qdh hx h0, qdh hy h0, h]
theorem fields_f {l k : List Fd} {t : Bool} (ht : decide (l = k) = t) (h1 : ilen l ≤ 100000000) (h2 : ilen k ≤ 100000000) : (S0 Tryd.prog).call 37 [.v false 2 (cellsF l) (.y (ilen l)), .v false 2 (cellsF k) (.y (ilen k))] [] (fun y _ => Sub y (.b t)) := by
  generalize hF : cellsF l = F
  generalize hG : cellsF k = G
  obtain ⟨m, hm⟩ : ∃ m, m = ilen l := ⟨_, rfl⟩
  obtain ⟨n, hn⟩ : ∃ n, n = ilen k := ⟨_, rfl⟩
  have h3 := qai l
  have h4 := qai k
  rw [← hm] at h1 h3 ⊢
  rw [← hn] at h2 h4 ⊢
  generalize hS : S0 Tryd.prog = S
  refine qab hS I.qhe ?_
  cbv
  refine qac hS ?_ ?_ <;> intro h <;> cbv
  · have e : t = false := by rw [← ht]; exact decide_eq_false (fun e => by subst e; omega)
    all_goals exact s_sA
  refine qbh hS 0 I.qez (fun x : Int => 0 ≤ x ∧ x ≤ m ∧ l.take x.toNat = k.take x.toNat) (fun x => [(5, .i .i64 (.y x))]) (fun _ => []) (fun x => (m - x).toNat) 0 rfl
    ⟨⟨Int.le_refl _, by omega, rfl⟩, rfl, ?_, ?_, by cbv⟩ ?_
  · cbv; all_goals exact s_sA
  · cbv; all_goals exact s_bA
  intro i hx
  cbv
  obtain ⟨k0, k1, k2⟩ := hx
  refine s_br hS ?_ ?_ <;> intro h' <;> cbv <;> simp only [← hS, Int.ofNat_eq_natCast, cq, Bool.not_eq_true', Bool.not_eq_false', decide_eq_true_eq, decide_eq_false_iff_not, beq_iff_eq, beq_eq_false_iff_ne, ne_eq] at h'
  · obtain ⟨⟨a, b⟩, hp⟩ := qkl (l := l) (i := i) (by omega) k0
    obtain ⟨⟨c, d⟩, hq⟩ := qkl (l := k) (i := i) (by omega) k0
    refine qad hS rfl I.qfh (by decide +kernel) ?_
    cbv
    repeat' (first
      | (refine s_st hS ?_; try cbv)
      | (refine qac hS ?_ ?_ <;> intro h <;> (try cbv) <;> try exact s_ab h)
      | (refine qau hS ?_; intro _ _; try cbv)
      | (refine qaf hS ?_; try cbv)
      | (refine qav hS ?_; intro _ _; try cbv)
      | (refine qbz hS ?_; try cbv)
      | (refine And.intro rfl ?_; try cbv)
      | (refine rowF hS hF hp (by omega) ?_; cbv)
      | (refine rowF hS hG hq (by omega) ?_; cbv)
      | fail)
    · have he : (a, b) = (c, d) := by congr
      rename_i r hr
      refine ⟨r, by omega, ⟨by omega, by omega, ?_⟩, rfl, ?_, ?_, by cbv⟩
      · rw [hr]; exact qlx k0 (he ▸ hp) hq k2
      · cbv; all_goals exact s_sA
      · cbv; all_goals exact s_bA
    all_goals
      have e : t = false := by rw [← ht]; exact decide_eq_false (take_ne hp hq (by intro e; cases e; simp_all))
      all_goals exact s_sA
  · have e : t = true := by rw [← ht]; exact decide_eq_true (by rwa [qbf (by omega), qbf (by omega)] at k2)
    all_goals exact s_sA
theorem equal_f {l k : List Fd} {t : Bool} (ht : decide (l = k) = t) (h1 : ilen l ≤ 100000000) (h2 : ilen k ≤ 100000000) : (S0 Tryd.prog).call 60 [.v false 2 (cellsF l) (.y (ilen l)), .v false 2 (cellsF k) (.y (ilen k))] [] (fun y _ => Sub y (.b t)) := by
  generalize hF : cellsF l = F
  generalize hG : cellsF k = G
  obtain ⟨m, hm⟩ : ∃ m, m = ilen l := ⟨_, rfl⟩
  obtain ⟨n, hn⟩ : ∃ n, n = ilen k := ⟨_, rfl⟩
  have h3 := qai l
  have h4 := qai k
  rw [← hm] at h1 h3 ⊢
  rw [← hn] at h2 h4 ⊢
  generalize hS : S0 Tryd.prog = S
  refine qab hS I.qem ?_
  cbv
  refine qac hS ?_ ?_ <;> intro h <;> cbv
  · have e : t = false := by rw [← ht]; exact decide_eq_false (fun e => by subst e; omega)
    all_goals exact s_sA
  refine qbh hS 0 I.qdk (fun x : Int => 0 ≤ x ∧ x ≤ m ∧ l.take x.toNat = k.take x.toNat) (fun x => [(12, .i .i64 (.y m)), (13, .i .i64 (.y x))]) (fun _ => []) (fun x => (m - x).toNat) 0 rfl
    ⟨⟨Int.le_refl _, by omega, rfl⟩, rfl, ?_, ?_, by cbv⟩ ?_
  · cbv; all_goals exact s_sA
  · cbv; all_goals exact s_bA
  intro i hx
  cbv
  obtain ⟨k0, k1, k2⟩ := hx
  refine s_br hS ?_ ?_ <;> intro h' <;> cbv <;> simp only [← hS, Int.ofNat_eq_natCast, cq, Bool.not_eq_true', Bool.not_eq_false', decide_eq_true_eq, decide_eq_false_iff_not, beq_iff_eq, beq_eq_false_iff_ne, ne_eq] at h'
  · obtain ⟨⟨a, b⟩, hp⟩ := qkl (l := l) (i := i) (by omega) k0
    obtain ⟨⟨c, d⟩, hq⟩ := qkl (l := k) (i := i) (by omega) k0
    refine qad hS rfl I.qdn (by decide +kernel) ?_
    cbv
    repeat' (first
      | (refine s_st hS ?_; try cbv)
      | (refine qac hS ?_ ?_ <;> intro h <;> (try cbv) <;> try exact s_ab h)
      | (refine qau hS ?_; intro _ _; try cbv)
      | (refine qaf hS ?_; try cbv)
      | (refine qav hS ?_; intro _ _; try cbv)
      | (refine qbz hS ?_; try cbv)
      | (refine And.intro rfl ?_; try cbv)
      | (refine rowF hS hF hp (by omega) ?_; cbv)
      | (refine rowF hS hG hq (by omega) ?_; cbv)
      | fail)
    · have he : (a, b) = (c, d) := by congr
      rename_i r hr
      refine ⟨r, by omega, ⟨by omega, by omega, ?_⟩, rfl, ?_, ?_, by cbv⟩
      · rw [hr]; exact qlx k0 (he ▸ hp) hq k2
      · cbv; all_goals exact s_sA
      · cbv; all_goals exact s_bA
    all_goals
      have e : t = false := by rw [← ht]; exact decide_eq_false (take_ne hp hq (by intro e; cases e; simp_all))
      all_goals exact s_sA
  · have e : t = true := by rw [← ht]; exact decide_eq_true (by rwa [qbf (by omega), qbf (by omega)] at k2)
    all_goals exact s_sA
section
variable {S : Sy} {bl : List Blk} {K : SV → List Blk → Prop}
theorem qet (hS : S0 Tryd.prog = S) {x y : SV} {l k : List Fd} (hc : FzL bl id [] [x, y] [.v false 2 (cellsF l) (.y (ilen l)), .v false 2 (cellsF k) (.y (ilen k))]) (hl : ilen l ≤ 100000000) (hk : ilen k ≤ 100000000) (h1 : l = k → K .tt bl) (h2 : l ≠ k → K .ff bl) :
    S.call 37 [x, y] bl K := by
  by_cases h : l = k
  · exact qbw hS (qbg (fields_f (decide_eq_true h) hl hk)) hc rfl rfl (h1 h)
  · exact qbw hS (qbg (fields_f (decide_eq_false h) hl hk)) hc rfl rfl (h2 h)
theorem equal_u (hS : S0 Tryd.prog = S) {x y : SV} {l k : List Fd} (hc : FzL bl id [] [x, y] [.v false 2 (cellsF l) (.y (ilen l)), .v false 2 (cellsF k) (.y (ilen k))]) (hl : ilen l ≤ 100000000) (hk : ilen k ≤ 100000000) (h1 : l = k → K .tt bl) (h2 : l ≠ k → K .ff bl) :
    S.call 60 [x, y] bl K := by
  by_cases h : l = k
  · exact qbw hS (qbg (equal_f (decide_eq_true h) hl hk)) hc rfl rfl (h1 h)
  · exact qbw hS (qbg (equal_f (decide_eq_false h) hl hk)) hc rfl rfl (h2 h)
end
end Tb
end Cz
namespace Cz
open Go Go.RowKit Go.Proofs
namespace Tb
theorem same_f {mx my : Int} {l k : List Fd} {t : Bool} (ht : decide (mx = my ∧ l = k) = t) (h1 : ilen l ≤ 100000000) (h2 : ilen k ≤ 100000000) : (S0 Tryd.prog).call 36 [tabV mx l, tabV my k] [] (fun y _ => Sub y (.b t)) := by
  unfold tabV
  generalize hF : cellsF l = F
  generalize hG : cellsF k = G
  obtain ⟨m, hm⟩ : ∃ m, m = ilen l := ⟨_, rfl⟩
  obtain ⟨n, hn⟩ : ∃ n, n = ilen k := ⟨_, rfl⟩
  rw [← hm, ← hn]
  generalize hS : S0 Tryd.prog = S
  refine qab hS I.qtb ?_
  cbv
  refine qac hS ?_ ?_ <;> intro h <;> cbv
  · refine equal_u hS (l := l) (k := k) (.cons (.sub (qcg hF.symm hm) rfl) (.cons (.sub (qcg hG.symm hn) rfl) .nil)) h1 h2 (fun he => ?_) (fun he => ?_) <;> cbv
    · have e : t = true := by rw [← ht]; exact decide_eq_true ⟨h, he⟩
      all_goals exact s_sA
    · have e : t = false := by rw [← ht]; exact decide_eq_false fun e => he e.2
      all_goals exact s_sA
  · have e : t = false := by rw [← ht]; exact decide_eq_false fun e => h e.1
    all_goals exact s_sA
theorem rsame_f {mx my : Int} {l k : List Fd} {t : Bool} (ht : decide (mx = my ∧ l = k) = t) (h1 : ilen l ≤ 100000000) (h2 : ilen k ≤ 100000000) : (S0 Tryd.prog).call 21 [tabV mx l, tabV my k] [] (fun y _ => Sub y (.b t)) := by
  unfold tabV
  generalize hF : cellsF l = F
  generalize hG : cellsF k = G
  obtain ⟨m, hm⟩ : ∃ m, m = ilen l := ⟨_, rfl⟩
  obtain ⟨n, hn⟩ : ∃ n, n = ilen k := ⟨_, rfl⟩
  rw [← hm, ← hn]
  generalize hS : S0 Tryd.prog = S
  refine qab hS I.qiz ?_
  cbv
  refine qac hS ?_ ?_ <;> intro h <;> cbv
  · refine qet hS (l := l) (k := k) (.cons (.sub (qcg hF.symm hm) rfl) (.cons (.sub (qcg hG.symm hn) rfl) .nil)) h1 h2 (fun he => ?_) (fun he => ?_) <;> cbv
    · have e : t = true := by rw [← ht]; exact decide_eq_true ⟨h, he⟩
      all_goals exact s_sA
    · have e : t = false := by rw [← ht]; exact decide_eq_false fun e => he e.2
      all_goals exact s_sA
  · have e : t = false := by rw [← ht]; exact decide_eq_false fun e => h e.1
    all_goals exact s_sA
def greatL (l : List Fd) : Bool := decide (140 < ilen l ∨ 5000 < fullL l - 32 * ilen l)
def shortL (l : List Fd) : Prop := ∀ f, f ∈ l → ilen f.1 ≤ 140737488355328 ∧ ilen f.2 ≤ 140737488355328
theorem full_short {l : List Fd} (h : shortL l) : fullL l ≤ 281474976710688 * ilen l := by
  induction l with
  | nil => simp [fullL, ilen]
  | cons f l ih =>
    have h1 := h f (List.mem_cons_self ..)
    have h2 := ih fun g hg => h g (List.mem_cons_of_mem _ hg)
    simp only [fullL, szF, ilen, List.length_cons] at *
    omega
theorem qop {l : List Fd} {t : Bool} (ht : greatL l = t) (hs : shortL l) (hm1 : ilen l ≤ 140737488355328) : (S0 Tryd.prog).call 15 [.v false 2 (cellsF l) (.y (ilen l))] [] (fun y _ => Sub y (.b t)) := by
  generalize hF : cellsF l = F
  obtain ⟨m, hm⟩ : ∃ m, m = ilen l := ⟨_, rfl⟩
  have h0 := qai l
  unfold greatL at ht
  rw [← hm] at ht h0 hm1 ⊢
  generalize hS : S0 Tryd.prog = S
  refine qab hS I.qib ?_
  cbv
  refine qbh hS 0 I.qfo (fun x : Int × Int => 0 ≤ x.1 ∧ x.1 ≤ m ∧ x.1 ≤ 141 ∧ x.2 = fullL (l.take x.1.toNat) - 32 * x.1) (fun x => [(3, .i .i64 (.y x.2)), (4, .i .i64 (.y x.1))]) (fun _ => []) (fun x => (m - x.1).toNat) (0, 0) rfl
    ⟨⟨Int.le_refl _, by omega, by omega, rfl⟩, rfl, ?_, ?_, by cbv⟩ ?_
  · cbv; all_goals exact s_sA
  · cbv; all_goals exact s_bA
  intro x
  obtain ⟨i, s⟩ := x
  intro hx
  dsimp only at hx
  cbv
  obtain ⟨k0, k1, k3, k2⟩ := hx
  have hs0 := qcj (l.take i.toNat)
  have hs1 := full_short (l := l.take i.toNat) fun f hf => hs f (List.mem_of_mem_take hf)
  have hs2 : ilen (l.take i.toNat) = i := by unfold ilen at hm ⊢; rw [List.length_take]; omega
  rw [hs2] at hs0 hs1
  refine qac hS ?_ ?_ <;> intro h <;> cbv
  · refine s_br hS ?_ ?_ <;> intro h' <;> cbv <;> simp only [← hS, Int.ofNat_eq_natCast, cq, Bool.not_eq_true', Bool.not_eq_false', decide_eq_true_eq, decide_eq_false_iff_not, beq_iff_eq, beq_eq_false_iff_ne, ne_eq] at h'
    · obtain ⟨⟨a, b⟩, hp⟩ := qkl (l := l) (i := i) (by omega) k0
      have hsz := hs _ (List.mem_of_getElem? hp)
      dsimp only at hsz
      have hsn : szF (a, b) = ilen a + ilen b + 32 := rfl
      have ha := qai a
      have hb := qai b
      have hnx := qha hp k0
      refine qad hS rfl I.qga (by decide +kernel) ?_
      cbv
      repeat' (first
        | (refine s_st hS ?_; try cbv)
        | (refine qac hS ?_ ?_ <;> intro h <;> (try cbv) <;> try exact s_ab h)
        | (refine qau hS ?_; intro _ _; try cbv)
        | (refine qaf hS ?_; try cbv)
        | (refine qav hS ?_; intro _ _; try cbv)
        | (refine qbz hS ?_; try cbv)
        | (refine And.intro rfl ?_; try cbv)
        | (refine rowF1 hS hF hp (by omega) ?_; cbv)
        | (refine rowF2 hS hF hp (by omega) ?_; cbv)
        | fail)
      rename_i s1 hs1' s2 hs2' i2 hi2
      refine ⟨(i2, s2), by dsimp only; omega, ⟨by dsimp only; omega, by dsimp only; omega, by dsimp only; omega, by dsimp only; rw [hi2, hnx]; omega⟩, rfl, ?_, ?_, by cbv⟩
      · cbv; all_goals exact s_sA
      · cbv; all_goals exact s_bA
    · have e : t = true := by rw [← ht]; exact decide_eq_true (.inl (by omega))
      repeat' (first
        | (refine s_st hS ?_; try cbv)
        | (refine qac hS ?_ ?_ <;> intro h <;> (try cbv) <;> try exact s_ab h)
        | (refine qau hS ?_; intro _ _; try cbv)
        | (refine qaf hS ?_; try cbv)
        | (refine qav hS ?_; intro _ _; try cbv)
        | (refine qbz hS ?_; try cbv)
        | fail)
      all_goals
        cbv
        all_goals exact s_sA
  · rw [qbf (by omega)] at k2
    repeat' (first
      | (refine s_st hS ?_; try cbv)
      | (refine qac hS ?_ ?_ <;> intro h <;> (try cbv) <;> try exact s_ab h)
      | (refine qau hS ?_; intro _ _; try cbv)
      | (refine qaf hS ?_; try cbv)
      | (refine qav hS ?_; intro _ _; try cbv)
      | (refine qbz hS ?_; try cbv)
      | fail)
    · have e : t = true := by rw [← ht]; exact decide_eq_true (.inl (by omega))
      all_goals exact s_sA
    · refine qup ?_
      rw [← ht, ← hS]
      simp only [cq]
      exact decide_eq_decide.2 ⟨fun h => .inr (by omega), fun h => by omega⟩
section
variable {S : Sy} {bl : List Blk} {K : SV → List Blk → Prop} {cs : List SV} {mx my : Int} {l k : List Fd}
theorem qsy (hS : S0 Tryd.prog = S) {x : SV} (hc : FzL bl id [] [x] [.v false 2 (cellsF l) (.y (ilen l))]) (hs : shortL l) (hm : ilen l ≤ 140737488355328) (h1 : 140 < ilen l ∨ 5000 < fullL l - 32 * ilen l → K .tt bl) (h2 : ilen l ≤ 140 → fullL l ≤ 5000 + 32 * ilen l → K .ff bl) :
    S.call 15 [x] bl K := by
  cases h : greatL l with
  | true => exact qbw hS (qbg (qop h hs hm)) hc rfl rfl (h1 (of_decide_eq_true h))
  | false =>
    have := of_decide_eq_false h
    exact qbw hS (qbg (qop h hs hm)) hc rfl rfl (h2 (by omega) (by omega))
theorem fz_two {bl : List Blk} {g : Nat → Nat} {x y a b : SV} (hx : FzL bl g [] [x] [a]) (hy : FzL bl g [] [y] [b]) (ha : plainV a = false) (hb : plainV b = false) : FzL bl g [] [x, y] [a, b] := by
  cases hx with
  | cons h1 _ => cases hy with
    | cons h2 _ => exact .cons h1 (.cons h2 .nil)
    | fsub h hp => simp [plains, hb] at hp
  | fsub h hp => simp [plains, ha] at hp
end
end Tb
end Cz
namespace Cz
open Go Go.RowKit Go.Proofs
namespace Tb
def statR (i : Int) : Fd × Bool := if 1 ≤ i ∧ i ≤ 20 then (stL.getD (i - 1).toNat ([], []), true) else (([], []), false)
theorem stat_ex {i : Int} (h1 : 1 ≤ i) (h2 : i ≤ 20) : ∃ a b, stL[(i - 1).toNat]? = some (a, b) ∧ statR i = ((a, b), true) := by
  have h : (i - 1).toNat < stL.length := by rw [qin]; omega
  refine ⟨(stL[(i - 1).toNat]).1, (stL[(i - 1).toNat]).2, List.getElem?_eq_getElem h, ?_⟩
  unfold statR
  rw [if_pos ⟨h1, h2⟩, List.getD_eq_getElem?_getD, List.getElem?_eq_getElem h]; rfl
theorem at_stat {l : List Fd} {i : Int} {a b : List UInt8} (h : statR i = ((a, b), true)) : atR l i = ((a, b), 0) := by
  by_cases hi : 1 ≤ i ∧ i ≤ 20
  · obtain ⟨c, d, hp, hq⟩ := stat_ex hi.1 hi.2
    rw [hq] at h; cases h
    unfold atR allF
    rw [if_neg (by omega), List.getElem?_append_left (by rw [qin]; omega), hp]
  · unfold statR at h; rw [if_neg hi] at h; cases h
theorem at_none {l : List Fd} {i : Int} (hi : i < 1 ∨ ilen l ≤ i - 21) : atR l i = (([], []), 90) := by
  unfold atR
  split
  · rfl
  · unfold allF
    unfold ilen at hi
    rw [List.getElem?_eq_none (by rw [List.length_append, qin]; omega)]
theorem TabC.fzi {bl : List Blk} {cs : List SV} {mx : Int} {l : List Fd} (h : TabC bl cs mx l) {g : Nat → Nat} {x y : SV} (hx : Sub x y) (hr : refsB (fun _ => false) x = true) : FzL bl g [] [.ag cs, x] [tabV mx l, y] := by
  have h1 := h.fz (g := g)
  cases h1 with
  | cons h1 _ => exact .cons h1 (.cons (.sub hx hr) .nil)
  | fsub h hp => simp [tabV, plains, plainV] at hp
end Tb
end Cz
namespace Cz
open Go Go.RowKit Go.Proofs
namespace Tb
theorem bidx_u {S : Sy} (hS : S0 Tryd.prog = S) {l : List Blk} {K : SV → List Blk → Prop} {x : List UInt8} {z : Z} {T : Int} (hT : idxI x z.v = T) (h : K (.i .i64 (.y T)) l) : S.call 116 [.s x, .i .u8 z] l K := by
  refine qbq hS (sv := .i .i64 (.y T)) (args' := [.s x, .i .u8 (.y z.v)]) ?_ (.cons .rfl (.cons (qba rfl) .nil)) rfl rfl h
  generalize hS : S0 Tryd.prog = S
  refine qab hS I.qcz ?_
  cbv
  refine qbq hS (idx_f x z.v) .rfl rfl rfl ?_
  rw [hT]
  cbv
  exact .rfl
theorem lidx_f (x : List UInt8) (c : UInt8) (hx : ilen x ≤ 140737488355328) : (S0 Tryd.prog).call 108 [.s x, .s [c]] [] (fun y _ => Sub y (.i .i64 (.y (idxI x c.toNat)))) := by
  generalize hT : idxI x c.toNat = T
  generalize hS : S0 Tryd.prog = S
  have h2 : S.sat [c] 0 = c.toNat := by subst hS; rfl
  refine qab hS I.qhz ?_
  cbv
  refine qac hS ?_ ?_ <;> intro h <;> cbv
  · exfalso; simp at h
  refine qac hS ?_ ?_ <;> intro h <;> cbv
  · refine qba ?_
    rw [← h] at hT
    simp [idxI] at hT
    exact hT
  refine qac hS ?_ ?_ <;> intro h <;> cbv
  · repeat' (first
    | (refine s_st hS ?_; try cbv)
    | (refine qac hS ?_ ?_ <;> intro h <;> (try cbv) <;> try exact s_ab h)
    | (refine qau hS ?_; intro _ _; try cbv)
    | (refine qaf hS ?_; try cbv)
    | (refine qav hS ?_; intro _ _; try cbv)
    | (refine qbz hS ?_; try cbv)
    | fail)
    refine bidx_u hS (T := T) (by rw [← hT]; exact congrArg (idxI x) h2) ?_
    cbv
    all_goals exact s_sA
  · exfalso; simp at h
theorem lidx_u {S : Sy} (hS : S0 Tryd.prog = S) {l : List Blk} {K : SV → List Blk → Prop} {x : List UInt8} {c : UInt8} {T : Int} (hx : ilen x ≤ 140737488355328) (hT : idxI x c.toNat = T) (h : K (.i .i64 (.y T)) l) : S.call 108 [.s x, .s [c]] l K := by
  subst hT
  exact qbq hS (lidx_f x c hx) .rfl rfl rfl h
theorem sidx_u {S : Sy} (hS : S0 Tryd.prog = S) {l : List Blk} {K : SV → List Blk → Prop} {x : List UInt8} {c : UInt8} {T : Int} (hx : ilen x ≤ 140737488355328) (hT : idxI x c.toNat = T) (h : K (.i .i64 (.y T)) l) : S.call 107 [.s x, .s [c]] l K := by
  refine qbq hS (sv := .i .i64 (.y T)) (args' := [.s x, .s [c]]) ?_ .rfl rfl rfl h
  generalize hS : S0 Tryd.prog = S
  refine qab hS I.qmp ?_
  cbv
  refine lidx_u hS hx hT ?_
  cbv
  exact .rfl
def cutR (x : List UInt8) : Fd := if idxI x 32 < 0 then (x, []) else (x.take (idxI x 32).toNat, x.drop ((idxI x 32).toNat + 1))
theorem cut_f (x : List UInt8) {a b : List UInt8} (hr : cutR x = (a, b)) (hx : ilen x ≤ 140737488355328) (hi : idxI x 32 < ilen x) : ∃ t : Bool, (S0 Tryd.prog).call 75 [.s x, .s [32]] [] (fun y _ => Sub y (.tp [.s a, .s b, .b t])) := by
  obtain ⟨T, hT⟩ : ∃ T, idxI x 32 = T := ⟨_, rfl⟩
  unfold cutR at hr
  rw [hT] at hr hi
  obtain ⟨t, ht⟩ : ∃ t, t = decide (0 ≤ T) := ⟨_, rfl⟩
  refine ⟨t, ?_⟩
  generalize hS : S0 Tryd.prog = S
  refine qab hS I.qqg ?_
  cbv
  refine qab hS I.qjz ?_
  cbv
  refine lidx_u hS (c := 32) hx hT ?_
  cbv
  refine qac hS ?_ ?_ <;> intro h <;> cbv
  · rw [if_neg (by omega)] at hr
    have hc : ilen ([32] : List UInt8) = 1 := rfl
    have hc2 : (([32] : List UInt8).length : Int) = 1 := rfl
    have hx' : ilen x = x.length := rfl
    refine qad hS rfl I.qgw (by decide +kernel) ?_
    cbv
    repeat' (first
      | (refine s_st hS ?_; try cbv)
      | (refine qac hS ?_ ?_ <;> intro h <;> (try cbv) <;> try exact s_ab h)
      | (refine qau hS ?_; intro _ _; try cbv)
      | (refine qaf hS ?_; try cbv)
      | (refine qav hS ?_; intro _ _; try cbv)
      | (refine qbz hS ?_; try cbv)
      | (refine And.intro rfl ?_; try cbv)
      | fail)
    cases hr
    rename_i r hr
    have e : t = true := by rw [ht]; exact decide_eq_true h
    have e1 : S.ssub x 0 T = x.take T.toNat := by subst hS; rfl
    have e2 : S.ssub x r (S.slen x) = x.drop (T.toNat + 1) := by
      rw [hr, hc]
      subst hS
      show (x.take x.length).drop (T + 1).toNat = _
      rw [List.take_length, show (T + 1).toNat = T.toNat + 1 by omega]
    rw [← e1, ← e2]
    all_goals exact s_sA
  · rw [if_pos (by omega)] at hr
    cases hr
    have e : t = false := by rw [ht]; exact decide_eq_false h
    all_goals exact s_sA
theorem cut_u {S : Sy} (hS : S0 Tryd.prog = S) {l : List Blk} {K : SV → List Blk → Prop} {x a b : List UInt8} (hr : cutR x = (a, b)) (hx : ilen x ≤ 140737488355328) (hi : idxI x 32 < ilen x) (h : ∀ t, K (.tp [.s a, .s b, .b t]) l) : S.call 75 [.s x, .s [32]] l K := by
  obtain ⟨t, ht⟩ := cut_f x hr hx hi
  exact qbq hS ht .rfl rfl rfl (h t)
theorem line_at {j : Int} (h0 : 0 ≤ j) (h1 : j < 19) : ∃ (L a b : List UInt8), idxI (remT j.toNat) 10 = ilen L ∧ (remT j.toNat).take L.length = L ∧ (remT j.toNat).drop (L.length + 1) = remT (j + 1).toNat ∧ cutR L = (a, b) ∧ stL[j.toNat]? = some (a, b) ∧ ilen L ≤ 20 ∧ ilen (remT j.toNat) ≤ 300 ∧ idxI L 32 < ilen L ∧ ilen L < ilen (remT j.toNat) := by
  have h := line_facts ⟨j.toNat, by omega⟩
  dsimp only at h
  obtain ⟨e1, e2, e3, e4, e5, e6, e7, e8⟩ := h
  have hj : j.toNat < 19 := by omega
  rw [if_pos hj] at e1
  have hs : j.toNat < stL.length := by rw [qin]; omega
  have hst : stL[j.toNat]? = some (stL.getD j.toNat ([], [])) := by rw [List.getD_eq_getElem?_getD, List.getElem?_eq_getElem hs]; rfl
  have hL : ilen (lineL.getD j.toNat []) < ilen (remT j.toNat) := by
    have := e3 hj
    have hd := congrArg List.length e2
    rw [List.length_take] at hd
    rcases Nat.lt_or_ge (lineL.getD j.toNat []).length (remT j.toNat).length with h | h
    · unfold ilen; omega
    · exfalso
      rw [List.drop_eq_nil_of_le (by omega)] at this
      have h2 : ∀ k : Fin 20, remT k.val ≠ [] := by decide +kernel
      exact h2 ⟨j.toNat + 1, by omega⟩ this.symm
  refine ⟨lineL.getD j.toNat [], (stL.getD j.toNat ([], [])).1, (stL.getD j.toNat ([], [])).2, e1, e2, ?_, ?_, hst, e6, e7, e8, hL⟩
  · rw [e3 hj]; congr 1; omega
  · unfold cutR
    by_cases h : idxI (lineL.getD j.toNat []) 32 < 0
    · rw [if_pos h] at e5 ⊢; rw [e5]
    · rw [if_neg h] at e5 ⊢; rw [e5]
theorem line_last {j : Int} (h1 : j = 19) : ∃ (a b : List UInt8), idxI (remT j.toNat) 10 = -1 ∧ cutR (remT j.toNat) = (a, b) ∧ stL[j.toNat]? = some (a, b) ∧ ilen (remT j.toNat) ≤ 300 ∧ idxI (remT j.toNat) 32 < ilen (remT j.toNat) := by
  subst h1
  exact ⟨[117, 115, 101, 114, 45, 97, 103, 101, 110, 116], [], by decide +kernel⟩
theorem at_i {l : List Fd} {i j : Int} {a b : List UInt8} (h0 : 0 ≤ j) (h : (allF l)[j.toNat]? = some (a, b)) (hi : i = j + 1) : atR l i = ((a, b), 0) := by
  unfold atR
  rw [if_neg (by omega), show (i - 1).toNat = j.toNat by omega, h]
theorem all_st {l : List Fd} {j : Int} {f : Fd} (h : stL[j.toNat]? = some f) : (allF l)[j.toNat]? = some f := by
  unfold allF
  have := (List.getElem?_eq_some_iff.1 h).1
  rw [List.getElem?_append_left this, h]
theorem all_row {l : List Fd} {j k : Int} (h0 : 0 ≤ j) (hk : k = j + 20) {f : Fd} (h : l[j.toNat]? = some f) : (allF l)[k.toNat]? = some f := by
  unfold allF
  rw [List.getElem?_append_right (by rw [qin]; omega), qin, show k.toNat - 20 = j.toNat by omega, h]
theorem at_f {mx i e : Int} {l : List Fd} {a b : List UInt8} (hr : atR l i = ((a, b), e)) (hm : ilen l ≤ 100000000) : (S0 Tryd.prog).call 32 [tabV mx l, .i .i64 (.y i)] [] (fun y _ => Sub y (.tp [.ag [.s a, .s b], .i .i64 (.y e)])) := by
  unfold tabV
  generalize hF : cellsF l = F
  obtain ⟨m, hm'⟩ : ∃ m, m = ilen l := ⟨_, rfl⟩
  have h0 := qai l
  rw [← hm'] at h0 hm ⊢
  generalize hS : S0 Tryd.prog = S
  refine qab hS I.qxh ?_
  cbv
  refine qab hS I.qhc ?_
  cbv
  refine qed hS I.qfn ?_
  cbv
  refine qab hS I.qeg ?_
  cbv
  refine qab hS I.qef ?_
  cbv
  refine qed hS I.qdi ?_
  cbv
  refine qac hS ?_ ?_ <;> intro h <;> cbv
  · exfalso; simp at h
  have hc : ilen ([10] : List UInt8) = 1 := rfl
  have hc2 : (([10] : List UInt8).length : Int) = 1 := rfl
  refine qbh hS 14 I.qcr (fun x : Int × List UInt8 => 0 ≤ x.1 ∧ x.1 ≤ 19 ∧ (i < 1 ∨ x.1 < i) ∧ x.2 = remT x.1.toNat) (fun _ => []) (fun x => [(8, .c [.i .i64 (.y x.1)]), (9, .c [.s x.2])]) (fun x => (19 - x.1).toNat) (0, remT 0) rfl
    ⟨⟨Int.le_refl _, by dsimp only; omega, by dsimp only; omega, rfl⟩, rfl, ?_, ?_, by cbv⟩ ?_
  · cbv; all_goals exact s_sA
  · cbv; all_goals exact s_bA
  intro x
  obtain ⟨j, s⟩ := x
  intro hx
  dsimp only at hx
  cbv
  obtain ⟨k0, k1, k2, k3⟩ := hx
  have hjj : j < 19 ∨ 19 ≤ j := by omega
  rcases hjj with hj | hj
  · obtain ⟨L, c, d, f1, f2, f3, f4, f5, f6, f7, f8, f9⟩ := line_at k0 hj
    rw [← k3] at f1 f2 f3 f7 f9
    refine sidx_u hS (c := 10) (by omega) f1 ?_
    generalize hn : ilen L = n at *
    have hn0 : 0 ≤ n := hn ▸ qai L
    cbv
    repeat' (first
      | (refine s_st hS ?_; try cbv)
      | (refine qac hS ?_ ?_ <;> intro h <;> (try cbv) <;> try exact s_ab h)
      | (refine qau hS ?_; intro _ _; try cbv)
      | (refine qaf hS ?_; try cbv)
      | (refine qav hS ?_; intro _ _; try cbv)
      | (refine qbz hS ?_; try cbv)
      | (refine qev hS rfl rfl ?_; cbv)
      | fail)
    rename_i r1 hr1 j1 hj1
    have e1 : S.ssub s 0 r1 = L := by
      subst hS
      show (s.take r1.toNat).drop 0 = L
      rw [List.drop_zero, show r1.toNat = L.length by unfold ilen at hn; omega, f2]
    refine cut_u hS (x := S.ssub s 0 r1) (a := c) (b := d) (by rw [e1]; exact f4) (by rw [e1]; omega) (by rw [e1, hn]; exact f8) fun t => ?_
    cbv
    repeat' (first
      | (refine s_st hS ?_; try cbv)
      | (refine qac hS ?_ ?_ <;> intro h <;> (try cbv) <;> try exact s_ab h)
      | (refine qau hS ?_; intro _ _; try cbv)
      | (refine qaf hS ?_; try cbv)
      | (refine qav hS ?_; intro _ _; try cbv)
      | (refine qbz hS ?_; try cbv)
      | (refine qev hS rfl rfl ?_; cbv)
      | fail)
    · rename_i h
      rw [at_i k0 (all_st f5) (by omega)] at hr
      cases hr
      all_goals exact s_sA
    · rename_i h r2 hr2
      refine ⟨(j1, S.ssub s r2 (S.slen s)), by dsimp only; omega, ⟨by dsimp only; omega, by dsimp only; omega, by dsimp only; omega, ?_⟩, rfl, ?_, ?_, by cbv⟩
      · dsimp only
        rw [hj1, ← f3]
        subst hS
        show (s.take s.length).drop r2.toNat = _
        rw [List.take_length, show r2.toNat = L.length + 1 by unfold ilen at hn; omega]
      · cbv; all_goals exact s_sA
      · cbv; all_goals exact s_bA
  · obtain ⟨c, d, f1, f4, f5, f7, f8⟩ := line_last (j := j) (by omega)
    rw [← k3] at f1 f4 f7 f8
    refine sidx_u hS (c := 10) (by omega) f1 ?_
    cbv
    refine s_br hS ?_ ?_ <;> intro h' <;> cbv <;> simp only [← hS, Int.ofNat_eq_natCast, cq, Bool.not_eq_true', Bool.not_eq_false', decide_eq_true_eq, decide_eq_false_iff_not, beq_iff_eq, beq_eq_false_iff_ne, ne_eq] at h'
    · repeat' (first
      | (refine s_st hS ?_; try cbv)
      | (refine qac hS ?_ ?_ <;> intro h <;> (try cbv) <;> try exact s_ab h)
      | (refine qau hS ?_; intro _ _; try cbv)
      | (refine qaf hS ?_; try cbv)
      | (refine qav hS ?_; intro _ _; try cbv)
      | (refine qbz hS ?_; try cbv)
      | (refine qev hS rfl rfl ?_; cbv)
      | fail)
      refine cut_u hS (a := c) (b := d) f4 (by omega) f8 fun t => ?_
      cbv
      repeat' (first
        | (refine s_st hS ?_; try cbv)
        | (refine qac hS ?_ ?_ <;> intro h <;> (try cbv) <;> try exact s_ab h)
        | (refine qau hS ?_; intro _ _; try cbv)
        | (refine qaf hS ?_; try cbv)
        | (refine qav hS ?_; intro _ _; try cbv)
        | (refine qbz hS ?_; try cbv)
        | (refine qev hS rfl rfl ?_; cbv)
        | fail)
      · rename_i h
        rw [at_i k0 (all_st f5) (by omega)] at hr
        cases hr
        all_goals exact s_sA
      · rename_i j1 hj1
        refine qbh hS 15 I.qdj (fun x : Int × Int => 0 ≤ x.1 ∧ x.1 ≤ m ∧ x.2 = x.1 + 20 ∧ (i < 1 ∨ x.2 < i)) (fun x => [(29, .i .i64 (.y x.1))]) (fun x => [(8, .c [.i .i64 (.y x.2)])]) (fun x => (m - x.1).toNat) (0, j1) rfl
          ⟨⟨Int.le_refl _, by dsimp only; omega, by dsimp only; omega, by dsimp only; omega⟩, rfl, ?_, ?_, by cbv⟩ ?_
        · cbv; all_goals exact s_sA
        · cbv; all_goals exact s_bA
        intro x
        obtain ⟨q, u⟩ := x
        intro hx
        dsimp only at hx
        cbv
        obtain ⟨q0, q1, q2, q3⟩ := hx
        refine qac hS ?_ ?_ <;> intro h <;> cbv
        · obtain ⟨⟨v, w⟩, hp⟩ := qkl (l := l) (i := q) (by omega) q0
          repeat' (first
            | (refine s_st hS ?_; try cbv)
            | (refine qac hS ?_ ?_ <;> intro h <;> (try cbv) <;> try exact s_ab h)
            | (refine qau hS ?_; intro _ _; try cbv)
            | (refine qaf hS ?_; try cbv)
            | (refine qav hS ?_; intro _ _; try cbv)
            | (refine qbz hS ?_; try cbv)
            | (refine qev hS rfl rfl ?_; cbv)
            | (refine rowF hS hF hp (by omega) ?_; cbv)
            | fail)
          · rw [at_i (j := u) (by omega) (all_row q0 q2 hp) (by omega)] at hr
            cases hr
            all_goals exact s_sA
          · rename_i u1 hu1 q4 hq4
            refine ⟨(q4, u1), by dsimp only; omega, ⟨by dsimp only; omega, by dsimp only; omega, by dsimp only; omega, by dsimp only; omega⟩, rfl, ?_, ?_, by cbv⟩
            · cbv; all_goals exact s_sA
            · cbv; all_goals exact s_bA
        · repeat' (first
          | (refine s_st hS ?_; try cbv)
          | (refine qac hS ?_ ?_ <;> intro h <;> (try cbv) <;> try exact s_ab h)
          | (refine qau hS ?_; intro _ _; try cbv)
          | (refine qaf hS ?_; try cbv)
          | (refine qav hS ?_; intro _ _; try cbv)
          | (refine qbz hS ?_; try cbv)
          | fail)
          rw [at_none (by omega)] at hr
          cases hr
          all_goals exact s_sA
    · omega
section
variable {S : Sy} {bl : List Blk} {K : SV → List Blk → Prop} {cs : List SV} {mx : Int} {l : List Fd}
theorem at_u (hS : S0 Tryd.prog = S) {z : Z} (hc : TabC bl cs mx l) (hm : ilen l ≤ 100000000)
    (hK : ∀ a b e, atR l z.v = ((a, b), e) → K (.tp [.ag [.s a, .s b], .i .i64 (.l e)]) bl) : S.call 32 [.ag cs, .i .i64 z] bl K := by
  cases hr : atR l z.v with
  | mk f e => cases f with
    | mk a b => exact qbw hS (qbg (at_f hr hm)) (hc.fzi (qba (b := .y z.v) rfl) rfl) rfl rfl (hK a b e hr)
end
theorem static_f {i : Int} {a b : List UInt8} {t : Bool} (hr : statR i = ((a, b), t)) : (S0 Tryd.prog).call 17 [.i .i64 (.y i)] [] (fun y _ => Sub y (.tp [.ag [.s a, .s b], .b t])) := by
  generalize hS : S0 Tryd.prog = S
  refine qab hS I.qow ?_
  cbv
  refine qac hS ?_ ?_ <;> intro h <;> cbv
  · unfold statR at hr
    rw [if_neg (by omega)] at hr
    cases hr
    all_goals exact s_sA
  · refine at_u hS (.nil rfl) (by decide) fun c d e he => ?_
    dsimp only [Z.v] at he
    cbv
    by_cases hi : 1 ≤ i
    · obtain ⟨c', d', hp, hq⟩ := stat_ex (i := i) hi (by omega)
      rw [at_stat hq] at he
      rw [hq] at hr
      cases he; cases hr
      cbv
      all_goals exact s_sA
    · rw [at_none (.inl (by omega))] at he
      unfold statR at hr
      rw [if_neg (by omega)] at hr
      cases he; cases hr
      cbv
      all_goals exact s_sA
end Tb
end Cz
