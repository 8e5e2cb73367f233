/- What the claims of this group lean on, part 5: our engine, the functions' simplified codes, their contracts. No condition. -/
import Derived.Test.YtdbnbknghhpbiaaGreatDoorKX4
import Derived.Test.YtdbnbknghhpbiaaGreatDoorProg
set_option maxRecDepth 100000
set_option linter.unusedSimpArgs false
set_option linter.unusedVariables false
set_option maxHeartbeats 4000000
namespace Cz
open Go Go.RowKit Go.Proofs
namespace I
def o (d : Nat) (x : AOp) : AO := ⟨some d, x, none⟩
def u (x : AOp) : AO := ⟨none, x, none⟩
def q (d : Nat) (x : AOp) (a : Nat) (b : Bool) : AO := ⟨some d, x, some (a, b)⟩
def z (n : Int) : Opd := .c (.i .i64 (.l n))
def f (g : Nat) (l : List Opd) : AOp := .call (.c (.fn (.func g) [] [])) l
def kk (l : List (List Nat)) (n : Nat) : List Nat := l.getD n []
def qfp : Nat → List Nat := kk [[0,1,8],[15,16,17,18,19,20,21],[23],[24,25,26,27,28,29,30],[31,32,33,34,35,36,37],[9,11,12,14,38,39,40,41,42,43,44,45,46,47,48,49,50,51],[],[53,54,55,56,57,58,59],[60,61,62,63,64,65,66],[9,11,12,14,67,68,69,70,71,72,73,74,75,76,77,78,79,80],[],[82,83,84,85,86,87,88,89],[2,3,4,90,91,92,93,94,95,96,97],[5,9,10,11,12,13,14,98,99,100,101,102,103,104,105,106,107,108,109,110,111,112,113,114,115,116,117,118,119,120]]
def qeh : List (Nat × List Nat) := [(0,[]),(1,[]),(2,[]),(3,[]),(4,[]),(5,[]),(6,[]),(7,[]),(8,[]),(9,[]),(10,[]),(11,[]),(12,[]),(13,[]),(14,[]),(16,[]),(15,[16]),(17,[]),(18,[]),(19,[]),(20,[]),(21,[]),(22,[]),(23,[])]
def qil : IR :=
 (.seq (.reg [o 4 (.box (.t 0)),o 5 (.box (.t 1)),o 8 (.mv (.c .ff))] [0,1,8]) (.seq (.seq (.reg [o 15 (.load true 2 (.t 4)),o 16 (.mv (.t 3)),o 17 (f 5 [(.t 15),(.t 16)]),o 18 (.mv (.t 17)),q 19 (.load true 2 (.t 5)) 18 false,q 20 (.buildS 2 1 [(.s []),(.s [])] [(0,(.t 19))]) 18 false,q 21 (f 6 [(.t 20)]) 18 false,o 22 (.pick (.t 18) (.c .tt) (.t 21))] [15,16,17,18,19,20,21]) (.cond (.t 22) (.seq (.reg [o 23 (f 7 []),o 8 (.mv (.t 23))] [23]) .ret) .skip)) (.seq (.reg [o 25 (.load true 2 (.t 4)),o 26 (.load true 2 (.t 5)),o 27 (f 8 [(.t 25),(.t 26)]),o 24 (.mv (.t 27)),o 28 (.ext (.t 24) 0),o 29 (.ext (.t 24) 1),o 30 (.ext (.t 24) 2),o 10 (.alloc [(.i .i64 (.l 0)),(.re (.slice none 0 0))]),o 9 (.mv (.t 28)),u (.store 2 (.t 10) (.t 29)),o 11 (.mv (.t 30))] [24,25,26,27,28,29,30]) (.seq (.reg [o 32 (.load true 2 (.t 4)),o 33 (.load true 2 (.t 5)),o 34 (f 9 [(.t 32),(.t 33)]),o 31 (.mv (.t 34)),o 35 (.ext (.t 31) 0),o 36 (.ext (.t 31) 1),o 37 (.ext (.t 31) 2),o 13 (.alloc [(.i .i64 (.l 0)),(.re (.slice none 0 0))]),o 12 (.mv (.t 35)),u (.store 2 (.t 13) (.t 36)),o 14 (.mv (.t 37))] [31,32,33,34,35,36,37]) (.seq (.seq (.reg [o 38 (.mv (.t 9)),o 39 (.mv (.t 12)),o 40 (f 10 [(.t 38),(.t 39)]),o 41 (.not (.t 40)),o 42 (.mv (.t 41)),q 43 (.load true 2 (.t 10)) 42 false,q 44 (.load true 2 (.t 13)) 42 false,q 45 (f 11 [(.t 43),(.t 44)]) 42 false,q 46 (.not (.t 45)) 42 false,o 47 (.pick (.t 42) (.c .tt) (.t 46)),o 48 (.mv (.t 47)),q 49 (.mv (.t 11)) 48 false,q 50 (.mv (.t 14)) 48 false,q 51 (.bin .ne (.t 49) (.t 50)) 48 false,o 52 (.pick (.t 48) (.c .tt) (.t 51))] [9,11,12,14,38,39,40,41,42,43,44,45,46,47,48,49,50,51]) (.cond (.t 52) (.seq (.reg [o 8 (.mv (.c .ff))] []) .ret) .skip)) (.seq (.reg [o 54 (.load true 2 (.t 4)),o 55 (.mv (.t 3)),o 56 (f 12 [(.t 54),(.t 55)]),o 53 (.mv (.t 56)),o 57 (.ext (.t 53) 0),o 58 (.ext (.t 53) 1),o 59 (.ext (.t 53) 2),o 9 (.mv (.t 57)),u (.store 2 (.t 10) (.t 58)),o 11 (.mv (.t 59))] [53,54,55,56,57,58,59]) (.seq (.reg [o 61 (.load true 2 (.t 4)),o 62 (.mv (.t 3)),o 63 (f 13 [(.t 61),(.t 62)]),o 60 (.mv (.t 63)),o 64 (.ext (.t 60) 0),o 65 (.ext (.t 60) 1),o 66 (.ext (.t 60) 2),o 12 (.mv (.t 64)),u (.store 2 (.t 13) (.t 65)),o 14 (.mv (.t 66))] [60,61,62,63,64,65,66]) (.seq (.seq (.reg [o 67 (.mv (.t 9)),o 68 (.mv (.t 12)),o 69 (f 10 [(.t 67),(.t 68)]),o 70 (.not (.t 69)),o 71 (.mv (.t 70)),q 72 (.load true 2 (.t 10)) 71 false,q 73 (.load true 2 (.t 13)) 71 false,q 74 (f 11 [(.t 72),(.t 73)]) 71 false,q 75 (.not (.t 74)) 71 false,o 76 (.pick (.t 71) (.c .tt) (.t 75)),o 77 (.mv (.t 76)),q 78 (.mv (.t 11)) 77 false,q 79 (.mv (.t 14)) 77 false,q 80 (.bin .ne (.t 78) (.t 79)) 77 false,o 81 (.pick (.t 77) (.c .tt) (.t 80))] [9,11,12,14,67,68,69,70,71,72,73,74,75,76,77,78,79,80]) (.cond (.t 81) (.seq (.reg [o 8 (.mv (.c .ff))] []) .ret) .skip)) (.seq (.reg [o 83 (.load true 2 (.t 4)),o 84 (.mv (.t 2)),o 85 (.mv (.t 3)),o 86 (f 14 [(.t 83),(.t 84),(.t 85)]),o 82 (.mv (.t 86)),o 87 (.ext (.t 82) 0),o 88 (.ext (.t 82) 1),o 89 (.ext
 (.t 82) 2),o 9 (.mv (.t 87)),u (.store 2 (.t 10) (.t 88)),o 11 (.mv (.t 89))] [82,83,84,85,86,87,88,89]) (.seq (.reg [o 91 (.load true 2 (.t 4)),o 92 (.mv (.t 2)),o 93 (.mv (.t 3)),o 94 (f 15 [(.t 91),(.t 92),(.t 93)]),o 90 (.mv (.t 94)),o 95 (.ext (.t 90) 0),o 96 (.ext (.t 90) 1),o 97 (.ext (.t 90) 2),o 12 (.mv (.t 95)),u (.store 2 (.t 13) (.t 96)),o 14 (.mv (.t 97))] [2,3,4,90,91,92,93,94,95,96,97]) (.seq (.draw [o 98 (.mv (.t 9)),o 99 (.mv (.t 12)),o 100 (f 10 [(.t 98),(.t 99)]),o 101 (.mv (.t 100)),q 102 (.load true 2 (.t 10)) 101 true,q 103 (.load true 2 (.t 13)) 101 true,q 104 (f 11 [(.t 102),(.t 103)]) 101 true,o 105 (.pick (.t 101) (.t 104) (.c .ff)),o 106 (.mv (.t 105)),q 107 (.mv (.t 11)) 106 true,q 108 (.mv (.t 14)) 106 true,q 109 (.bin .eq (.t 107) (.t 108)) 106 true,o 110 (.pick (.t 106) (.t 109) (.c .ff)),o 111 (.mv (.t 110)),q 112 (.load true 2 (.t 5)) 111 true,q 113 (f 16 [(.t 112)]) 111 true,q 114 (.load true 2 (.t 5)) 111 true,q 115 (f 17 [(.t 114)]) 111 true,q 116 (.eqA ⟨false,[.kb]⟩ false (.t 113) (.t 115)) 111 true,o 117 (.pick (.t 111) (.t 116) (.c .ff)),o 118 (.mv (.t 117)),q 119 (f 7 []) 118 true,o 120 (.pick (.t 118) (.t 119) (.c .ff)),o 8 (.mv (.t 120))] [[],[],[0,1],[2,2],[3],[3],[4,5,3,3],[3,6],[7,6],[8],[8],[9,10,8],[8,11],[12,8],[13],[14,13,13],[13],[16,15,13],[15,17,13],[13,18],[19,17],[20,20],[20,21],[22,21,0,1,2,3,4,5,6,7,8,9,10,11,12,13,14,15,16,17,18,19,20,21,22]] [5,9,10,11,12,13,14,98,99,100,101,102,103,104,105,106,107,108,109,110,111,112,113,114,115,116,117,118,119,120]) .ret)))))))))))
theorem qdb : FnIs Tryz.prog 3 121 [.t 8] qil :=
  ⟨Tryz.f3, _, qfp, Tryz.func3, rfl, rfl, by kernel_rfl, by kernel_rfl, Tryz.call3⟩
def qjn : Nat → List Nat := kk [[0,4],[1,2,5,6,7,8,9,10,11,12,13,14,15,16]]
def qpn : IR :=
 (.seq (.reg [o 2 (.box (.t 0)),o 4 (.mv (.c .ff))] [0,4]) (.seq (.reg [o 5 (.fad 1 (.t 2)),o 6 (.load false 1 (.t 5)),o 7 (f 6 [(.t 6)]),o 8 (.mv (.t 7)),q 9 (.mv (.t 1)) 8 false,q 10 (f 6 [(.t 9)]) 8 false,o 11 (.pick (.t 8) (.c .tt) (.t 10)),o 12 (.mv (.t 11)),q 13 (.mv (.t 1)) 12 false,q 14 (.len false (.t 13)) 12 false,q 15 (.bin .gt (.t 14) (z 40)) 12 false,o 16 (.pick (.t 12) (.c .tt) (.t 15)),o 4 (.mv (.t 16))] [1,2,5,6,7,8,9,10,11,12,13,14,15,16]) .ret))
theorem qjy : FnIs Tryz.prog 5 17 [.t 4] qpn :=
  ⟨Tryz.f5, _, qjn, Tryz.func5, rfl, rfl, by kernel_rfl, by kernel_rfl, Tryz.call5⟩
def qjj : Nat → List Nat := kk [[2],[],[],[5,6,7,8,9,10,11],[13,14],[15,16,17,18,19,20,21,22,23,24,25,26,27,28,29],[0,3,30,31,32,33,34,35,36]]
def qfs : List Nat := [1,2,5,6,7,8,9,10,11,12,13,14,15,16,17,18,19,20,21,22,23,24,25,26,27,28,29,30,31,32,33,34,35,36]
def qgj : List (Nat × List Nat) := [(0,[]),(1,[]),(2,[]),(3,[]),(4,[]),(5,[]),(6,[]),(7,[]),(8,[]),(9,[]),(10,[]),(11,[]),(12,[]),(13,[]),(14,[]),(15,[])]
def qpj : IR :=
 (.seq (.reg [o 2 (.mv (.c .ff))] [2]) (.seq (.reg [o 3 (.mv (z 0))] []) (.seq (.seq (.reg [o 4 (.mv (z 0))] []) (.block 0 (.loop (.seq (.seq (.reg [o 5 (.mv (.t 4)),o 6 (.mv (.t 0)),o 7 (.len false (.t 6)),o 8 (.bin .lt (.t 5) (.t 7)),o 9 (.mv (.t 8)),q 10 (.mv (.t 4)) 9 true,q 11 (.bin .le (.t 10) (z 140)) 9 true,o 12 (.pick (.t 9) (.t 11) (.c .ff))] [5,6,7,8,9,10,11]) (.cond (.t 12) .skip (.exit 0))) (.seq (.block 1 (.draw [o 15 (.mv (.t 3)),o 16 (.mv (.t 0)),o 17 (.mv (.t 4)),o 18 (.iadS 2 (.t 16) (.t 17)),o 19 (.fad 0 (.t 18)),o 20 (.load false 1 (.t 19)),o 21 (.len true (.t 20)),o 22 (.bin .add (.t 15) (.t 21)),o 23 (.mv (.t 0)),o 24 (.mv (.t 4)),o 25 (.iadS 2 (.t 23) (.t 24)),o 26 (.fad 1 (.t 25)),o 27 (.load false 1 (.t 26)),o 28 (.len true (.t 27)),o 29 (.bin .add (.t 22) (.t 28)),o 3 (.mv (.t 29))] [[],[],[],[1,2],[3],[4],[5],[0,6],[],[],[8,9],[10],[11],[12],[7,13],[14,0,1,2,3,4,5,6,7,8,9,10,11,12,13,14]] [15,16,17,18,19,20,21,22,23,24,25,26,27,28,29])) (.reg [o 13 (.mv (.t 4)),o 14 (.bin .add (.t 13) (z 1)),o 4 (.mv (.t 14))] [13,14])))))) (.seq (.reg [o 30 (.mv (.t 0)),o 31 (.len false (.t 30)),o 32 (.bin .gt (.t 31) (z 140)),o 33 (.mv (.t 32)),q 34 (.mv (.t 3)) 33 false,q 35 (.bin .gt (.t 34) (z 5000)) 33 false,o 36 (.pick (.t 33) (.c .tt) (.t 35)),o 2 (.mv (.t 36))] [0,3,30,31,32,33,34,35,36]) .ret))))
theorem qju : FnIs Tryz.prog 6 37 [.t 2] qpj :=
  ⟨Tryz.f6, _, qjj, Tryz.func6, rfl, rfl, by kernel_rfl, by kernel_rfl, Tryz.call6⟩
def qjm : Nat → List Nat := kk [[0],[15],[16],[17,18,19,20,21,22,23,24,25,26],[1,27,28,29,30,31,32,33],[9,10,34,35,36,37,38,39],[40,41,42,43,44,45,46,47],[2,3,4,5,6,7,8,11,12,13,14,48,49,50,51,52,53,54,55,56,57,58,59,60,61,62,63,64,65,66,67,68,69,70,71,72,73,74,75,76,77,78,79,80,81,82,83,84,85,86,87,88,89,90,91,92,93,94,95,96,97,98,99,100,101,102,103,104,105,106,107,108,109]]
def qpm : IR :=
 (.seq (.reg [o 0 (.mv (.c .ff))] [0]) (.seq (.reg [o 15 (.build [(.i .i64 (.l 0)),(.re (.slice none 0 0))] [(0,1,(z 100))]),o 1 (.alloc [(.i .i64 (.l 0)),(.re (.slice none 0 0))]),u (.store 2 (.t 1) (.t 15))] [15]) (.seq (.reg [o 16 (.build [(.s []),(.s [])] [(0,1,(.c (.s [97]))),(1,1,(.c (.s [49])))]),o 2 (.alloc [(.s []),(.s [])]),u (.store 2 (.t 2) (.t 16))] [16]) (.seq (.reg [o 18 (.load true 2 (.t 1)),o 19 (.build [(.s []),(.s [])] [(0,1,(.c (.s [58,109,101,116,104,111,100]))),(1,1,(.c (.s [71,69,84])))]),o 20 (.load true 2 (.t 2)),o 21 (.load true 2 (.t 2)),o 22 (.buildS 2 3 [(.s []),(.s [])] [(0,(.t 19)),(1,(.t 20)),(2,(.t 21))]),o 23 (f 12 [(.t 18),(.t 22)]),o 17 (.mv (.t 23)),o 24 (.ext (.t 17) 0),o 25 (.ext (.t 17) 1),o 26 (.ext (.t 17) 2),o 4 (.alloc [(.i .i64 (.l 0)),(.re (.slice none 0 0))]),o 3 (.mv (.t 24)),u (.store 2 (.t 4) (.t 25)),o 5 (.mv (.t 26))] [17,18,19,20,21,22,23,24,25,26]) (.seq (.reg [o 28 (.load true 2 (.t 1)),o 29 (.build [(.s []),(.s [])] [(0,1,(.c (.s [99,111,111,107,105,101]))),(1,1,(.c (.s [49])))]),o 30 (f 8 [(.t 28),(.t 29)]),o 27 (.mv (.t 30)),o 31 (.ext (.t 27) 0),o 32 (.ext (.t 27) 1),o 33 (.ext (.t 27) 2),o 7 (.alloc [(.i .i64 (.l 0)),(.re (.slice none 0 0))]),o 6 (.mv (.t 31)),u (.store 2 (.t 7) (.t 32)),o 8 (.mv (.t 33))] [1,27,28,29,30,31,32,33]) (.seq (.reg [o 35 (.build [(.i .i64 (.l 0)),(.re (.slice none 0 0))] [(0,1,(z (-1)))]),o 36 (f 12 [(.t 35),(.c (.re (.slice none 0 0)))]),o 34 (.mv (.t 36)),o 37 (.ext (.t 34) 0),o 38 (.ext (.t 34) 1),o 39 (.ext (.t 34) 2),o 10 (.alloc [(.i .i64 (.l 0)),(.re (.slice none 0 0))]),o 9 (.mv (.t 37)),u (.store 2 (.t 10) (.t 38)),o 11 (.mv (.t 39))] [9,10,34,35,36,37,38,39]) (.seq (.reg [o 41 (.load true 2 (.t 4)),o 42 (.load true 2 (.t 2)),o 43 (.buildS 2 1 [(.s []),(.s [])] [(0,(.t 42))]),o 44 (f 14 [(.t 41),(z 0),(.t 43)]),o 40 (.mv (.t 44)),o 45 (.ext (.t 40) 0),o 46 (.ext (.t 40) 1),o 47 (.ext (.t 40) 2),o 13 (.alloc [(.i .i64 (.l 0)),(.re (.slice none 0 0))]),o 12 (.mv (.t 45)),u (.store 2 (.t 13) (.t 46)),o 14 (.mv (.t 47))] [40,41,42,43,44,45,46,47]) (.seq (.reg [o 48 (.mv (.t 3)),o 49 (.buildS 1 7 [(.i .u8 (.l 0))] [(0,(.c (.i .u8 (.l 129)))),(1,(.c (.i .u8 (.l 64)))),(2,(.c (.i .u8 (.l 1)))),(3,(.c (.i .u8 (.l 97)))),(4,(.c (.i .u8 (.l 1)))),(5,(.c (.i .u8 (.l 49)))),(6,(.c (.i .u8 (.l 149))))]),o 50 (f 10 [(.t 48),(.t 49)]),o 51 (.mv (.t 50)),q 52 (.mv (.t 5)) 51 true,q 53 (.bin .eq (.t 52) (z 0)) 51 true,o 54 (.pick (.t 51) (.t 53) (.c .ff)),o 55 (.mv (.t 54)),q 56 (.load true 2 (.t 4)) 55 true,q 57 (.load true 2 (.t 2)) 55 true,q 58 (.buildS 2 1 [(.s []),(.s [])] [(0,(.t 57))]) 55 true,q 59 (.build [(.i .i64 (.l 0)),(.re (.slice none 0 0))] [(0,1,(z 100)),(1,1,(.t 58))]) 55 true,q 60 (f 11 [(.t 56),(.t 59)]) 55 true,o 61 (.pick (.t 55) (.t 60) (.c .ff)),o 62 (.mv (.t 61)),q 63 (.mv (.t 6)) 62 true,q 64 (.buildS 1 3 [(.i .u8 (.l 0))] [(0,(.c (.i .u8 (.l 29)))),(1,(.c (.i .u8 (.l 1)))),(2,(.c (.i .u8 (.l 49))))]) 62 true,q 65 (f 10 [(.t 63),(.t 64)]) 62
 true,o 66 (.pick (.t 62) (.t 65) (.c .ff)),o 67 (.mv (.t 66)),q 68 (.fad 1 (.t 7)) 67 true,q 69 (.load false 1 (.t 68)) 67 true,q 70 (.len false (.t 69)) 67 true,q 71 (.bin .eq (.t 70) (z 0)) 67 true,o 72 (.pick (.t 67) (.t 71) (.c .ff)),o 73 (.mv (.t 72)),q 74 (.mv (.t 8)) 73 true,q 75 (.bin .eq (.t 74) (z 0)) 73 true,o 76 (.pick (.t 73) (.t 75) (.c .ff)),o 77 (.mv (.t 76)),q 78 (.mv (.t 11)) 77 true,q 79 (.bin .eq (.t 78) (z 2)) 77 true,o 80 (.pick (.t 77) (.t 79) (.c .ff)),o 81 (.mv (.t 80)),q 82 (.mv (.t 12)) 81 true,q 83 (.buildS 1 6 [(.i .u8 (.l 0))] [(0,(.c (.i .u8 (.l 32)))),(1,(.c (.i .u8 (.l 0)))),(2,(.c (.i .u8 (.l 1)))),(3,(.c (.i .u8 (.l 97)))),(4,(.c (.i .u8 (.l 1)))),(5,(.c (.i .u8 (.l 49))))]) 81 true,q 84 (f 10 [(.t 82),(.t 83)]) 81 true,o 85 (.pick (.t 81) (.t 84) (.c .ff)),o 86 (.mv (.t 85)),q 87 (.fad 1 (.t 13)) 86 true,q 88 (.load false 1 (.t 87)) 86 true,q 89 (.len false (.t 88)) 86 true,q 90 (.bin .eq (.t 89) (z 0)) 86 true,o 91 (.pick (.t 86) (.t 90) (.c .ff)),o 92 (.mv (.t 91)),q 93 (.fad 0 (.t 13)) 92 true,q 94 (.load false 1 (.t 93)) 92 true,q 95 (.bin .eq (.t 94) (z 0)) 92 true,o 96 (.pick (.t 92) (.t 95) (.c .ff)),o 97 (.mv (.t 96)),q 98 (.mv (.t 14)) 97 true,q 99 (.bin .eq (.t 98) (z 0)) 97 true,o 100 (.pick (.t 97) (.t 99) (.c .ff)),o 101 (.mv (.t 100)),q 102 (.build [(.s []),(.s [])] [(0,1,(.c (.s [99,111,111,107,105,101])))]) 101 true,q 103 (f 16 [(.t 102)]) 101 true,o 104 (.pick (.t 101) (.t 103) (.c .ff)),o 105 (.mv (.t 104)),q 106 (.load true 2 (.t 2)) 105 true,q 107 (f 16 [(.t 106)]) 105 true,q 108 (.not (.t 107)) 105 true,o 109 (.pick (.t 105) (.t 108) (.c .ff)),o 0 (.mv (.t 109))] [2,3,4,5,6,7,8,11,12,13,14,48,49,50,51,52,53,54,55,56,57,58,59,60,61,62,63,64,65,66,67,68,69,70,71,72,73,74,75,76,77,78,79,80,81,82,83,84,85,86,87,88,89,90,91,92,93,94,95,96,97,98,99,100,101,102,103,104,105,106,107,108,109]) .ret))))))))
theorem qjx : FnIs Tryz.prog 7 110 [.t 0] qpm :=
  ⟨Tryz.f7, _, qjm, Tryz.func7, rfl, rfl, by kernel_rfl, by kernel_rfl, Tryz.call7⟩
def qxp : Nat → List Nat := kk [[0,1,4,6],[15,16,17,18,19,20,21],[8,22],[7,24],[25,26,27,28,29,30],[31],[10,33],[9,13,34,35,36,37,38],[7,12,39,40],[42,43],[7,11,44,45,46],[48,49,50,51,52],[7,11,53,54,55],[11,56,57],[2,3,58,59,60,61,62,63],[7,14,64,65]]
def qbb : List (Nat × List Nat) := [(0,[]),(1,[]),(2,[]),(3,[])]
def qbo : List (Nat × List Nat) := [(0,[]),(1,[]),(2,[]),(3,[]),(4,[])]
def qbn : List (Nat × List Nat) := [(0,[]),(2,[]),(1,[2]),(3,[]),(4,[]),(5,[])]
def qbm : List (Nat × List Nat) := [(0,[]),(2,[]),(3,[]),(1,[3]),(4,[]),(5,[])]
def qbl : List (Nat × List Nat) := [(0,[]),(2,[]),(1,[2]),(3,[]),(4,[]),(5,[])]
def qbk : List (Nat × List Nat) := [(0,[]),(1,[]),(2,[]),(3,[]),(4,[])]
def pack_Field : IR :=
 (.seq (.reg [o 2 (.box (.t 0)),o 3 (.box (.t 1)),o 4 (.mv (.c (.re (.slice none 0 0)))),o 5 (.alloc [(.i .i64 (.l 0)),(.re (.slice none 0 0))]),o 6 (.mv (z 0))] [0,1,4,6]) (.seq (.reg [o 16 (.load true 2 (.t 2)),o 17 (.fad 0 (.t 2)),o 18 (.load false 1 (.t 17)),o 19 (f 35 [(.t 16),(.t 18)]),o 15 (.mv (.t 19)),o 20 (.ext (.t 15) 0),o 21 (.ext (.t 15) 1),o 7 (.alloc [(.i .i64 (.l 0)),(.re (.slice none 0 0))]),u (.store 2 (.t 7) (.t 20)),o 8 (.mv (.t 21))] [15,16,17,18,19,20,21]) (.seq (.seq (.reg [o 22 (.mv (.t 8)),o 23 (.bin .ne (.t 22) (z 0))] [8,22]) (.cond (.t 23) (.seq (.draw [o 24 (.load true 2 (.t 7)),o 4 (.mv (.c (.re (.slice none 0 0)))),u (.store 2 (.t 5) (.t 24)),o 6 (.mv (z 2))] [[],[],[0,1,0,1],[2,0,1,2]] [7,24]) .ret) .skip)) (.seq (.reg [o 26 (.load true 2 (.t 2)),o 27 (.load true 2 (.t 3)),o 28 (f 36 [(.t 26),(.t 27)]),o 25 (.mv (.t 28)),o 29 (.ext (.t 25) 0),o 30 (.ext (.t 25) 1),o 9 (.alloc [(.i .i64 (.l 0))]),u (.store 1 (.t 9) (.t 29)),o 10 (.mv (.t 30))] [25,26,27,28,29,30]) (.seq (.reg [o 31 (.mkF (.func 37) [] [(.t 9),(.t 3)]),o 11 (.mv (.t 31))] [31]) (.seq (.block 0 (.seq (.reg [o 33 (.mv (.t 10)),o 32 (.mv (.t 33))] [10,33]) (.cond (.t 32) (.seq (.reg [o 35 (.load false 1 (.t 9)),o 36 (f 23 [(.t 35)]),o 34 (.mv (.t 36)),o 37 (.ext (.t 34) 0),o 38 (.ext (.t 34) 1),o 12 (.mv (.t 37)),o 13 (.mv (.t 38))] [9,13,34,35,36,37,38]) (.seq (.draw [o 39 (.mv (.t 12)),o 40 (.load true 2 (.t 7)),o 4 (.mv (.t 39)),u (.store 2 (.t 5) (.t 40)),o 6 (.mv (z 0))] [[],[],[0,0],[1,2,0,1,2],[3,0,1,2,3]] [7,12,39,40]) .ret)) (.seq (.reg [o 42 (.load true 2 (.t 3)),o 43 (f 16 [(.t 42)]),o 41 (.mv (.t 43))] [42,43]) (.cond (.t 41) (.seq (.draw [o 44 (.mv (.t 11)),o 45 (.call (.t 44) [(z 2)]),o 46 (.load true 2 (.t 7)),o 4 (.mv (.t 45)),u (.store 2 (.t 5) (.t 46)),o 6 (.mv (z 0))] [[],[0],[],[1,1,0,1],[2,3,0,1,2,3],[4,0,1,2,3,4]] [7,11,44,45,46]) .ret) (.seq (.draw [o 48 (.load true 2 (.t 3)),o 49 (f 38 [(.t 48)]),o 50 (.fad 0 (.t 2)),o 51 (.load false 1 (.t 50)),o 52 (.bin .gt (.t 49) (.t 51)),o 47 (.mv (.t 52))] [[],[0],[],[2],[1,3],[4,1]] [48,49,50,51,52]) (.cond (.t 47) (.seq (.draw [o 53 (.mv (.t 11)),o 54 (.call (.t 53) [(z 3)]),o 55 (.load true 2 (.t 7)),o 4 (.mv (.t 54)),u (.store 2 (.t 5) (.t 55)),o 6 (.mv (z 0))] [[],[0],[],[1,1,0,1],[2,3,0,1,2,3],[4,0,1,2,3,4]] [7,11,53,54,55]) .ret) .skip))))))) (.seq (.reg [o 56 (.mv (.t 11)),o 57 (.call (.t 56) [(z 1)]),o 14 (.mv (.t 57))] [11,56,57]) (.seq (.reg [o 59 (.load true 2 (.t 2)),o 60 (.load true 2 (.t 3)),o 61 (f 39 [(.t 59),(.t 60)]),o 58 (.mv (.t 61)),o 62 (.ext (.t 58) 0),o 63 (.ext (.t 58) 1),u (.store 2 (.t 7) (.t 62))] [2,3,58,59,60,61,62,63]) (.seq (.draw [o 64 (.mv (.t 14)),o 65 (.load true 2 (.t 7)),o 4 (.mv (.t 64)),u (.store 2 (.t 5) (.t 65)),o 6 (.mv (z 0))] [[],[],[0,0],[1,2,0,1,2],[3,0,1,2,3]] [7,14,64,65]) .ret)))))))))
theorem qmy : FnIs Tryz.prog 8 66 [.t 4, .c 5 true 2, .t 6] pack_Field :=
  ⟨Tryz.f8, _, qxp, Tryz.func8, rfl, rfl, by kernel_rfl, by kernel_rfl, Tryz.call8⟩
def qjc : Nat → List Nat := kk [[0,1,4,6],[17,18],[20],[21,22,23,24,25,26],[8],[7,10,28,29,30,31,32],[2,12,33,34,35,36,37,38,39],[9,11,40,41],[42,43,44],[45,46,47],[48],[7,50,51,52,53,54,55,56,57],[16,58,59,60,61,62,63,64],[13,65],[2,3,67,68,69,70,71,72],[14,15,73,74]]
def qaw : List (Nat × List Nat) := [(0,[]),(1,[]),(2,[]),(3,[]),(4,[])]
def qav : List (Nat × List Nat) := [(0,[]),(1,[]),(2,[]),(3,[]),(4,[])]
def qpc : IR :=
 (.seq (.reg [o 2 (.box (.t 0)),o 3 (.box (.t 1)),o 4 (.mv (.c (.re (.slice none 0 0)))),o 5 (.alloc [(.i .i64 (.l 0)),(.re (.slice none 0 0))]),o 6 (.mv (z 0))] [0,1,4,6]) (.seq (.seq (.reg [o 17 (.load true 2 (.t 2)),o 18 (f 40 [(.t 17)]),o 19 (.not (.t 18))] [17,18]) (.cond (.t 19) (.seq (.reg [o 20 (.build [(.i .i64 (.l 0)),(.re (.slice none 0 0))] []),o 4 (.mv (.c (.re (.slice none 0 0)))),u (.store 2 (.t 5) (.t 20)),o 6 (.mv (z 2))] [20]) .ret) .skip)) (.seq (.reg [o 22 (.load true 2 (.t 2)),o 23 (.load true 2 (.t 3)),o 24 (f 41 [(.t 22),(.t 23)]),o 21 (.mv (.t 24)),o 25 (.ext (.t 21) 0),o 26 (.ext (.t 21) 1),o 7 (.mv (.t 25)),o 8 (.mv (.t 26))] [21,22,23,24,25,26]) (.seq (.seq (.reg [o 27 (.mv (.t 8))] [8]) (.cond (.t 27) (.seq (.reg [o 29 (.mv (.t 7)),o 30 (f 24 [(.t 29)]),o 28 (.mv (.t 30)),o 31 (.ext (.t 28) 0),o 32 (.ext (.t 28) 1),o 9 (.mv (.t 31)),o 10 (.mv (.t 32))] [7,10,28,29,30,31,32]) (.seq (.reg [o 34 (.load true 2 (.t 2)),o 35 (.fad 0 (.t 2)),o 36 (.load false 1 (.t 35)),o 37 (f 42 [(.t 34),(.t 36)]),o 33 (.mv (.t 37)),o 38 (.ext (.t 33) 0),o 39 (.ext (.t 33) 1),o 11 (.alloc [(.i .i64 (.l 0)),(.re (.slice none 0 0))]),u (.store 2 (.t 11) (.t 38)),o 12 (.mv (.t 39))] [2,12,33,34,35,36,37,38,39]) (.seq (.draw [o 40 (.mv (.t 9)),o 41 (.load true 2 (.t 11)),o 4 (.mv (.t 40)),u (.store 2 (.t 5) (.t 41)),o 6 (.mv (z 0))] [[],[],[0,0],[1,2,0,1,2],[3,0,1,2,3]] [9,11,40,41]) .ret))) .skip)) (.seq (.reg [o 42 (.load true 2 (.t 2)),o 43 (.load true 2 (.t 3)),o 44 (f 43 [(.t 42),(.t 43)]),o 13 (.mv (.t 44))] [42,43,44]) (.seq (.reg [o 45 (.load true 2 (.t 3)),o 46 (.mv (.t 13)),o 47 (f 31 [(.t 45),(.t 46)]),o 14 (.mv (.t 47))] [45,46,47]) (.seq (.seq (.reg [o 48 (.mv (.t 7)),o 49 (.bin .gt (.t 48) (z 0))] [48]) (.cond (.t 49) (.reg [o 51 (.mv (.t 7)),o 52 (.fad 1 (.t 3)),o 53 (.load false 1 (.t 52)),o 54 (.mv (.t 13)),o 55 (f 28 [(.t 51),(.t 53),(.t 54)]),o 50 (.mv (.t 55)),o 56 (.ext (.t 50) 0),o 57 (.ext (.t 50) 1),o 14 (.mv (.t 56))] [7,50,51,52,53,54,55,56,57]) .skip)) (.seq (.reg [o 59 (.load true 2 (.t 2)),o 60 (.fad 0 (.t 2)),o 61 (.load false 1 (.t 60)),o 62 (f 42 [(.t 59),(.t 61)]),o 58 (.mv (.t 62)),o 63 (.ext (.t 58) 0),o 64 (.ext (.t 58) 1),o 15 (.alloc [(.i .i64 (.l 0)),(.re (.slice none 0 0))]),u (.store 2 (.t 15) (.t 63)),o 16 (.mv (.t 64))] [16,58,59,60,61,62,63,64]) (.seq (.seq (.reg [o 65 (.mv (.t 13)),o 66 (.bin .eq (.t 65) (z 1))] [13,65]) (.cond (.t 66) (.reg [o 68 (.load true 2 (.t 2)),o 69 (.load true 2 (.t 3)),o 70 (f 44 [(.t 68),(.t 69)]),o 67 (.mv (.t 70)),o 71 (.ext (.t 67) 0),o 72 (.ext (.t 67) 1),u (.store 2 (.t 15) (.t 71))] [2,3,67,68,69,70,71,72]) .skip)) (.seq (.draw [o 73 (.mv (.t 14)),o 74 (.load true 2 (.t 15)),o 4 (.mv (.t 73)),u (.store 2 (.t 5) (.t 74)),o 6 (.mv (z 0))] [[],[],[0,0],[1,2,0,1,2],[3,0,1,2,3]] [14,15,73,74]) .ret))))))))))
theorem qdx : FnIs Tryz.prog 9 75 [.t 4, .c 5 true 2, .t 6] qpc :=
  ⟨Tryz.f9, _, qjc, Tryz.func9, rfl, rfl, by kernel_rfl, by kernel_rfl, Tryz.call9⟩
def qlc : Nat → List Nat := kk [[4],[0,1,5,6,7,8,9]]
def qqw : IR :=
 (.seq (.reg [o 4 (.mv (.c .ff))] [4]) (.seq (.reg [o 5 (.mv (.t 0)),o 6 (.cvBS (.t 5)),o 7 (.mv (.t 1)),o 8 (.cvBS (.t 7)),o 9 (.bin .eq (.t 6) (.t 8)),o 4 (.mv (.t 9))] [0,1,5,6,7,8,9]) .ret))
theorem qlp : FnIs Tryz.prog 10 10 [.t 4] qqw :=
  ⟨Tryz.f10, _, qlc, Tryz.func10, rfl, rfl, by kernel_rfl, by kernel_rfl, Tryz.call10⟩
def qku : Nat → List Nat := kk [[0,1,4],[2,3,5,6,7,8,9,10,11,12,13,14,15,16]]
def qqo : IR :=
 (.seq (.reg [o 2 (.box (.t 0)),o 3 (.box (.t 1)),o 4 (.mv (.c .ff))] [0,1,4]) (.seq (.reg [o 5 (.fad 0 (.t 2)),o 6 (.load false 1 (.t 5)),o 7 (.fad 0 (.t 3)),o 8 (.load false 1 (.t 7)),o 9 (.bin .eq (.t 6) (.t 8)),o 10 (.mv (.t 9)),q 11 (.fad 1 (.t 2)) 10 true,q 12 (.load false 1 (.t 11)) 10 true,q 13 (.fad 1 (.t 3)) 10 true,q 14 (.load false 1 (.t 13)) 10 true,q 15 (f 45 [(.t 12),(.t 14)]) 10 true,o 16 (.pick (.t 10) (.t 15) (.c .ff)),o 4 (.mv (.t 16))] [2,3,5,6,7,8,9,10,11,12,13,14,15,16]) .ret))
theorem qlh : FnIs Tryz.prog 11 17 [.t 4] qqo :=
  ⟨Tryz.f11, _, qku, Tryz.func11, rfl, rfl, by kernel_rfl, by kernel_rfl, Tryz.call11⟩
def qxq : Nat → List Nat := kk [[0,6],[9,10,11,12,13,14,15],[16],[18],[1,2,19,20],[22],[23],[4,5,7,8,24,25,26,27],[28,29]]
def qgz : List (Nat × List Nat) := [(0,[]),(1,[0]),(2,[]),(3,[])]
def qqf : List (Nat × List Nat) := [(0,[]),(1,[]),(3,[]),(2,[3]),(4,[3]),(5,[])]
def qqe : List (Nat × List Nat) := [(0,[]),(1,[]),(2,[1]),(3,[]),(4,[])]
def pack_Block : IR :=
 (.seq (.reg [o 2 (.box (.t 0)),o 4 (.alloc [(.re (.slice none 0 0))]),o 5 (.alloc [(.i .i64 (.l 0)),(.re (.slice none 0 0))]),o 6 (.mv (z 0))] [0,6]) (.seq (.seq (.reg [o 10 (.load true 2 (.t 2)),o 11 (.fad 0 (.t 2)),o 12 (.load false 1 (.t 11)),o 13 (f 35 [(.t 10),(.t 12)]),o 9 (.mv (.t 13)),o 14 (.ext (.t 9) 0),o 15 (.ext (.t 9) 1),u (.store 2 (.t 5) (.t 14)),o 6 (.mv (.t 15))] [9,10,11,12,13,14,15]) (.seq (.reg [o 16 (.mv (.t 6)),o 17 (.bin .ne (.t 16) (z 0))] [16]) (.cond (.t 17) (.seq (.draw [o 18 (.load true 2 (.t 5)),u (.store 1 (.t 4) (.c (.re (.slice none 0 0)))),u (.store 2 (.t 5) (.t 18)),o 6 (.mv (z 2))] [[],[],[0,1,0,1],[2,0,1,2]] [18]) .ret) .skip))) (.seq (.seq (.reg [o 19 (.load true 2 (.t 2)),o 20 (.mv (.t 1)),o 21 (f 46 [(.t 19),(.t 20)])] [1,2,19,20]) (.block 0 (.rf (.t 21) [22,23] (.seq (.reg [o 7 (.mv (.t 22))] [22]) (.reg [o 8 (.alloc [(.i .i64 (.l 0)),(.re (.slice none 0 0))]),u (.store 2 (.t 8) (.t 23))] [23])) (.block 1 (.draw [o 24 (.load false 1 (.t 4)),o 25 (.mv (.t 7)),o 26 (.app 1 (.t 24) (.t 25)),o 27 (.load true 2 (.t 8)),u (.store 1 (.t 4) (.t 26)),u (.store 2 (.t 5) (.t 27))] [[],[],[0,1],[],[2,2,0,1,2],[3,4,0,1,2,3,4]] [4,5,7,8,24,25,26,27]))))) (.seq (.draw [o 28 (.load false 1 (.t 4)),o 29 (.load true 2 (.t 5)),u (.store 1 (.t 4) (.t 28)),u (.store 2 (.t 5) (.t 29)),o 6 (.mv (z 0))] [[],[],[0,0],[1,2,0,1,2],[3,0,1,2,3]] [28,29]) .ret))))
theorem qmz : FnIs Tryz.prog 12 30 [.c 4 false 1, .c 5 true 2, .t 6] pack_Block :=
  ⟨Tryz.f12, _, qxq, Tryz.func12, rfl, rfl, by kernel_rfl, by kernel_rfl, Tryz.call12⟩
def qjd : Nat → List Nat := kk [[0,4,6],[14,15],[17],[2,8,18,19,20,21,22,23,24],[],[],[25,26,27],[29,30],[13,31,32,33,34,35,36,37,38,39,40],[11,41,42,43],[12,44],[7,9,45,46]]
def qfr : List Nat := [0,2,3,4,6,8,11,12,13,14,15,16,17,18,19,20,21,22,23,24,25,26,27,28,29,30,31,32,33,34,35,36,37,38,39,40,41,42,43,44,45,46]
def qga : Spl := (.node 5 10
  (.leaf [(0,[]),(1,[]),(2,[]),(3,[]),(4,[]),(5,[]),(6,[]),(7,[]),(8,[]),(9,[]),(10,[]),(11,[]),(12,[]),(13,[])])
  (.leaf [(0,[]),(1,[]),(2,[]),(3,[]),(4,[]),(10,[0,4]),(5,[]),(6,[]),(7,[]),(8,[]),(9,[]),(11,[]),(12,[]),(13,[])]))
def qgg : List (Nat × List Nat) := [(0,[]),(1,[]),(2,[]),(3,[]),(4,[])]
def qpd : IR :=
 (.seq (.reg [o 2 (.box (.t 0)),o 4 (.mv (.c (.re (.slice none 0 0)))),o 5 (.alloc [(.i .i64 (.l 0)),(.re (.slice none 0 0))]),o 6 (.mv (z 0))] [0,4,6]) (.seq (.seq (.reg [o 14 (.load true 2 (.t 2)),o 15 (f 40 [(.t 14)]),o 16 (.not (.t 15))] [14,15]) (.cond (.t 16) (.seq (.reg [o 17 (.build [(.i .i64 (.l 0)),(.re (.slice none 0 0))] []),o 4 (.mv (.c (.re (.slice none 0 0)))),u (.store 2 (.t 5) (.t 17)),o 6 (.mv (z 2))] [17]) .ret) .skip)) (.seq (.reg [o 19 (.load true 2 (.t 2)),o 20 (.fad 0 (.t 2)),o 21 (.load false 1 (.t 20)),o 22 (f 42 [(.t 19),(.t 21)]),o 18 (.mv (.t 22)),o 23 (.ext (.t 18) 0),o 24 (.ext (.t 18) 1),o 7 (.alloc [(.i .i64 (.l 0)),(.re (.slice none 0 0))]),u (.store 2 (.t 7) (.t 23)),o 8 (.mv (.t 24))] [2,8,18,19,20,21,22,23,24]) (.seq (.reg [o 9 (.mv (.c (.re (.slice none 0 0))))] []) (.seq (.seq (.reg [o 10 (.mv (z 0))] []) (.block 0 (.loop (.seq (.seq (.reg [o 25 (.mv (.t 10)),o 26 (.mv (.t 1)),o 27 (.len false (.t 26)),o 28 (.bin .lt (.t 25) (.t 27))] [25,26,27]) (.cond (.t 28) .skip (.exit 0))) (.seq (.block 1 (.seq (.draw [o 32 (.load true 2 (.t 7)),o 33 (.mv (.t 1)),o 34 (.mv (.t 10)),o 35 (.iadS 2 (.t 33) (.t 34)),o 36 (.load true 2 (.t 35)),o 37 (f 9 [(.t 32),(.t 36)]),o 31 (.mv (.t 37)),o 38 (.ext (.t 31) 0),o 39 (.ext (.t 31) 1),o 40 (.ext (.t 31) 2),o 12 (.alloc [(.i .i64 (.l 0)),(.re (.slice none 0 0))]),o 11 (.mv (.t 38)),u (.store 2 (.t 12) (.t 39)),o 13 (.mv (.t 40))] [[],[],[],[1,2],[3],[0,4],[5],[6],[6],[6],[],[7,5,0,1,2,3,4,5,6,7,10],[10,8,11,0,1,2,3,4,5,6,7,8,10,11],[9,12,0,1,2,3,4,5,6,7,8,9,10,11,12]] [13,31,32,33,34,35,36,37,38,39,40]) (.seq (.reg [o 41 (.mv (.t 9)),o 42 (.mv (.t 11)),o 43 (.app 1 (.t 41) (.t 42)),o 9 (.mv (.t 43))] [11,41,42,43]) (.reg [o 44 (.load true 2 (.t 12)),u (.store 2 (.t 7) (.t 44))] [12,44])))) (.reg [o 29 (.mv (.t 10)),o 30 (.bin .add (.t 29) (z 1)),o 10 (.mv (.t 30))] [29,30])))))) (.seq (.draw [o 45 (.mv (.t 9)),o 46 (.load true 2 (.t 7)),o 4 (.mv (.t 45)),u (.store 2 (.t 5) (.t 46)),o 6 (.mv (z 0))] [[],[],[0,0],[1,2,0,1,2],[3,0,1,2,3]] [7,9,45,46]) .ret))))))
theorem qdy : FnIs Tryz.prog 13 47 [.t 4, .c 5 true 2, .t 6] qpd :=
  ⟨Tryz.f13, _, qjd, Tryz.func13, rfl, rfl, by kernel_rfl, by kernel_rfl, Tryz.call13⟩
def qxo : Nat → List Nat := kk [[0,6,8],[3,14,15,16,17,18,19],[10,20],[9,22],[1,12,23,24,25,26,27],[2,28,29,30,31,32,33,34],[9,10,11,13,35,36,37,38,39]]
def qgy : List (Nat × List Nat) := [(0,[]),(1,[]),(2,[]),(3,[])]
def qqd : List (Nat × List Nat) := [(0,[]),(1,[]),(3,[]),(4,[]),(2,[3]),(5,[]),(6,[]),(7,[])]
def pack_Sized : IR :=
 (.seq (.reg [o 3 (.box (.t 0)),o 6 (.mv (.c (.re (.slice none 0 0)))),o 7 (.alloc [(.i .i64 (.l 0)),(.re (.slice none 0 0))]),o 8 (.mv (z 0))] [0,6,8]) (.seq (.reg [o 15 (.load true 2 (.t 3)),o 16 (.mv (.t 1)),o 17 (f 35 [(.t 15),(.t 16)]),o 14 (.mv (.t 17)),o 18 (.ext (.t 14) 0),o 19 (.ext (.t 14) 1),o 9 (.alloc [(.i .i64 (.l 0)),(.re (.slice none 0 0))]),u (.store 2 (.t 9) (.t 18)),o 10 (.mv (.t 19))] [3,14,15,16,17,18,19]) (.seq (.seq (.reg [o 20 (.mv (.t 10)),o 21 (.bin .ne (.t 20) (z 0))] [10,20]) (.cond (.t 21) (.seq (.draw [o 22 (.load true 2 (.t 9)),o 6 (.mv (.c (.re (.slice none 0 0)))),u (.store 2 (.t 7) (.t 22)),o 8 (.mv (z 2))] [[],[],[0,1,0,1],[2,0,1,2]] [9,22]) .ret) .skip)) (.seq (.reg [o 24 (.mv (.t 1)),o 25 (f 25 [(.t 24)]),o 23 (.mv (.t 25)),o 26 (.ext (.t 23) 0),o 27 (.ext (.t 23) 1),o 11 (.mv (.t 26)),o 12 (.mv (.t 27))] [1,12,23,24,25,26,27]) (.seq (.reg [o 29 (.load true 2 (.t 9)),o 30 (.mv (.t 2)),o 31 (f 12 [(.t 29),(.t 30)]),o 28 (.mv (.t 31)),o 32 (.ext (.t 28) 0),o 33 (.ext (.t 28) 1),o 34 (.ext (.t 28) 2),o 13 (.mv (.t 32)),u (.store 2 (.t 9) (.t 33)),o 10 (.mv (.t 34))] [2,28,29,30,31,32,33,34]) (.seq (.draw [o 35 (.mv (.t 11)),o 36 (.mv (.t 13)),o 37 (.app 1 (.t 35) (.t 36)),o 38 (.load true 2 (.t 9)),o 39 (.mv (.t 10)),o 6 (.mv (.t 37)),u (.store 2 (.t 7) (.t 38)),o 8 (.mv (.t 39))] [[],[],[0,1],[],[],[2,2,0,1,2],[3,5,0,1,2,3,5],[4,6,0,1,2,3,4,5,6]] [9,10,11,13,35,36,37,38,39]) .ret))))))
theorem qmx : FnIs Tryz.prog 14 40 [.t 6, .c 7 true 2, .t 8] pack_Sized :=
  ⟨Tryz.f14, _, qxo, Tryz.func14, rfl, rfl, by kernel_rfl, by kernel_rfl, Tryz.call14⟩
def qjb : Nat → List Nat := kk [[0,6,8],[3,15,16,17,18,19,20],[10,21],[23],[1,12,24,25,26,27,28],[2,14,29,30,31,32,33,34,35],[9,11,13,36,37,38,39]]
def qgf : List (Nat × List Nat) := [(0,[]),(1,[]),(3,[]),(2,[3]),(4,[]),(5,[]),(6,[])]
def qpb : IR :=
 (.seq (.reg [o 3 (.box (.t 0)),o 6 (.mv (.c (.re (.slice none 0 0)))),o 7 (.alloc [(.i .i64 (.l 0)),(.re (.slice none 0 0))]),o 8 (.mv (z 0))] [0,6,8]) (.seq (.reg [o 16 (.load true 2 (.t 3)),o 17 (.mv (.t 1)),o 18 (f 42 [(.t 16),(.t 17)]),o 15 (.mv (.t 18)),o 19 (.ext (.t 15) 0),o 20 (.ext (.t 15) 1),o 9 (.alloc [(.i .i64 (.l 0)),(.re (.slice none 0 0))]),u (.store 2 (.t 9) (.t 19)),o 10 (.mv (.t 20))] [3,15,16,17,18,19,20]) (.seq (.seq (.reg [o 21 (.mv (.t 10)),o 22 (.bin .ne (.t 21) (z 0))] [10,21]) (.cond (.t 22) (.seq (.reg [o 23 (.build [(.i .i64 (.l 0)),(.re (.slice none 0 0))] []),o 6 (.mv (.c (.re (.slice none 0 0)))),u (.store 2 (.t 7) (.t 23)),o 8 (.mv (z 2))] [23]) .ret) .skip)) (.seq (.reg [o 25 (.mv (.t 1)),o 26 (f 26 [(.t 25)]),o 24 (.mv (.t 26)),o 27 (.ext (.t 24) 0),o 28 (.ext (.t 24) 1),o 11 (.mv (.t 27)),o 12 (.mv (.t 28))] [1,12,24,25,26,27,28]) (.seq (.reg [o 30 (.load true 2 (.t 9)),o 31 (.mv (.t 2)),o 32 (f 13 [(.t 30),(.t 31)]),o 29 (.mv (.t 32)),o 33 (.ext (.t 29) 0),o 34 (.ext (.t 29) 1),o 35 (.ext (.t 29) 2),o 13 (.mv (.t 33)),u (.store 2 (.t 9) (.t 34)),o 14 (.mv (.t 35))] [2,14,29,30,31,32,33,34,35]) (.seq (.draw [o 36 (.mv (.t 11)),o 37 (.mv (.t 13)),o 38 (.app 1 (.t 36) (.t 37)),o 39 (.load true 2 (.t 9)),o 6 (.mv (.t 38)),u (.store 2 (.t 7) (.t 39)),o 8 (.mv (z 0))] [[],[],[0,1],[],[2,2,0,1,2],[3,4,0,1,2,3,4],[5,0,1,2,3,4,5]] [9,11,13,36,37,38,39]) .ret))))))
theorem qdw : FnIs Tryz.prog 15 40 [.t 6, .c 7 true 2, .t 8] qpb :=
  ⟨Tryz.f15, _, qjb, Tryz.func15, rfl, rfl, by kernel_rfl, by kernel_rfl, Tryz.call15⟩
def quu : Nat → List Nat := kk [[0,2],[1,3,4,5]]
def qzacb : IR :=
 (.seq (.reg [o 1 (.box (.t 0)),o 2 (.mv (.c .ff))] [0,2]) (.seq (.reg [o 3 (.fad 0 (.t 1)),o 4 (.load false 1 (.t 3)),o 5 (.bin .eq (.t 4) (.c (.s [99,111,111,107,105,101]))),o 2 (.mv (.t 5))] [1,3,4,5]) .ret))
theorem qvb : FnIs Tryz.prog 16 6 [.t 2] qzacb :=
  ⟨Tryz.f16, _, quu, Tryz.func16, rfl, rfl, by kernel_rfl, by kernel_rfl, Tryz.call16⟩
def qhv : Nat → List Nat := kk [[0,2],[1,3,4,5]]
def qnm : IR :=
 (.seq (.reg [o 1 (.box (.t 0)),o 2 (.mv (.c .ff))] [0,2]) (.seq (.reg [o 3 (.fad 0 (.t 1)),o 4 (.load false 1 (.t 3)),o 5 (.bin .eq (.t 4) (.c (.s [99,111,111,107,105,101]))),o 2 (.mv (.t 5))] [1,3,4,5]) .ret))
theorem qic : FnIs Tryz.prog 17 6 [.t 2] qnm :=
  ⟨Tryz.f17, _, qhv, Tryz.func17, rfl, rfl, by kernel_rfl, by kernel_rfl, Tryz.call17⟩
def qok : Nat → List Nat := kk [[2,3],[0,4,5,6,7,8]]
def que : IR :=
 (.seq (.reg [o 2 (.mv (.c (.re (.slice none 0 0)))),o 3 (.mv (z 0))] [2,3]) (.seq (.reg [o 4 (.mv (.t 0)),o 5 (.build [(.i .i64 (.l 0)),(.i .i64 (.l 0))] [(0,1,(z 128)),(1,1,(z 7))]),o 6 (f 51 [(.t 4),(.t 5)]),o 7 (.ext (.t 6) 0),o 8 (.ext (.t 6) 1),o 2 (.mv (.t 7)),o 3 (.mv (.t 8))] [0,4,5,6,7,8]) .ret))
theorem qop : FnIs Tryz.prog 23 9 [.t 2, .t 3] que :=
  ⟨Tryz.f23, _, qok, Tryz.func23, rfl, rfl, by kernel_rfl, by kernel_rfl, Tryz.call23⟩
def qha : Nat → List Nat := kk [[2,3],[0,4,5,6,7]]
def qlt : IR :=
 (.seq (.reg [o 2 (.mv (.c (.re (.slice none 0 0)))),o 3 (.mv (z 0))] [2,3]) (.seq (.reg [o 4 (.mv (.t 0)),o 5 (f 52 [(.t 4),(z 7),(.c (.i .u8 (.l 128)))]),o 6 (.ext (.t 5) 0),o 7 (.ext (.t 5) 1),o 2 (.mv (.t 6)),o 3 (.mv (.t 7))] [0,4,5,6,7]) .ret))
theorem qhd : FnIs Tryz.prog 24 8 [.t 2, .t 3] qlt :=
  ⟨Tryz.f24, _, qha, Tryz.func24, rfl, rfl, by kernel_rfl, by kernel_rfl, Tryz.call24⟩
def qsg : Nat → List Nat := kk [[2,3],[0,4,5,6,7,8]]
def qzc : IR :=
 (.seq (.reg [o 2 (.mv (.c (.re (.slice none 0 0)))),o 3 (.mv (z 0))] [2,3]) (.seq (.reg [o 4 (.mv (.t 0)),o 5 (.build [(.i .i64 (.l 0)),(.i .i64 (.l 0))] [(0,1,(z 32)),(1,1,(z 5))]),o 6 (f 51 [(.t 4),(.t 5)]),o 7 (.ext (.t 6) 0),o 8 (.ext (.t 6) 1),o 2 (.mv (.t 7)),o 3 (.mv (.t 8))] [0,4,5,6,7,8]) .ret))
theorem qsv : FnIs Tryz.prog 25 9 [.t 2, .t 3] qzc :=
  ⟨Tryz.f25, _, qsg, Tryz.func25, rfl, rfl, by kernel_rfl, by kernel_rfl, Tryz.call25⟩
def qjf : Nat → List Nat := kk [[2,3],[0,4,5,6,7]]
def qpf : IR :=
 (.seq (.reg [o 2 (.mv (.c (.re (.slice none 0 0)))),o 3 (.mv (z 0))] [2,3]) (.seq (.reg [o 4 (.mv (.t 0)),o 5 (f 52 [(.t 4),(z 5),(.c (.i .u8 (.l 32)))]),o 6 (.ext (.t 5) 0),o 7 (.ext (.t 5) 1),o 2 (.mv (.t 6)),o 3 (.mv (.t 7))] [0,4,5,6,7]) .ret))
theorem qjq : FnIs Tryz.prog 26 8 [.t 2, .t 3] qpf :=
  ⟨Tryz.f26, _, qjf, Tryz.func26, rfl, rfl, by kernel_rfl, by kernel_rfl, Tryz.call26⟩
def qsh : Nat → List Nat := kk [[6,7],[2,10,11,12,13,14,15,16],[0,9,17,18,19,20,21],[],[1,8,23,24,25,26]]
def qzd : IR :=
 (.seq (.reg [o 6 (.mv (.c (.re (.slice none 0 0)))),o 7 (.mv (z 0))] [6,7]) (.seq (.reg [o 11 (.mv (.t 0)),o 12 (.mv (.t 2)),o 13 (f 53 [(.t 12)]),o 14 (f 51 [(.t 11),(.t 13)]),o 10 (.mv (.t 14)),o 15 (.ext (.t 10) 0),o 16 (.ext (.t 10) 1),o 8 (.mv (.t 15)),o 9 (.mv (.t 16))] [2,10,11,12,13,14,15,16]) (.seq (.seq (.reg [o 17 (.mv (.t 9)),o 18 (.bin .ne (.t 17) (z 0)),o 19 (.mv (.t 18)),q 20 (.mv (.t 0)) 19 false,q 21 (.bin .eq (.t 20) (z 0)) 19 false,o 22 (.pick (.t 19) (.c .tt) (.t 21))] [0,9,17,18,19,20,21]) (.cond (.t 22) (.seq (.reg [o 6 (.mv (.c (.re (.slice none 0 0)))),o 7 (.mv (z 2))] []) .ret) .skip)) (.seq (.reg [o 23 (.mv (.t 8)),o 24 (.mv (.t 1)),o 25 (f 54 [(.t 24)]),o 26 (.app 1 (.t 23) (.t 25)),o 6 (.mv (.t 26)),o 7 (.mv (z 0))] [1,8,23,24,25,26]) .ret))))
theorem qia : FnIs Tryz.prog 27 27 [.t 6, .t 7] qzd :=
  ⟨Tryz.f27, _, qsh, Tryz.func27, rfl, rfl, by kernel_rfl, by kernel_rfl, Tryz.call27⟩
def qjg : Nat → List Nat := kk [[6,7],[2,10,11,12,13,14,15],[0,9,16,17,18,19,20],[],[1,8,22,23,24,25]]
def qpg : IR :=
 (.seq (.reg [o 6 (.mv (.c (.re (.slice none 0 0)))),o 7 (.mv (z 0))] [6,7]) (.seq (.reg [o 11 (.mv (.t 0)),o 12 (.mv (.t 2)),o 13 (f 55 [(.t 11),(.t 12)]),o 10 (.mv (.t 13)),o 14 (.ext (.t 10) 0),o 15 (.ext (.t 10) 1),o 8 (.mv (.t 14)),o 9 (.mv (.t 15))] [2,10,11,12,13,14,15]) (.seq (.seq (.reg [o 16 (.mv (.t 9)),o 17 (.bin .ne (.t 16) (z 0)),o 18 (.mv (.t 17)),q 19 (.mv (.t 0)) 18 false,q 20 (.bin .lt (.t 19) (z 1)) 18 false,o 21 (.pick (.t 18) (.c .tt) (.t 20))] [0,9,16,17,18,19,20]) (.cond (.t 21) (.seq (.reg [o 6 (.mv (.c (.re (.slice none 0 0)))),o 7 (.mv (z 2))] []) .ret) .skip)) (.seq (.reg [o 22 (.mv (.t 8)),o 23 (.mv (.t 1)),o 24 (f 56 [(.t 23)]),o 25 (.app 1 (.t 22) (.t 24)),o 6 (.mv (.t 25)),o 7 (.mv (z 0))] [1,8,22,23,24,25]) .ret))))
theorem qjr : FnIs Tryz.prog 28 26 [.t 6, .t 7] qpg :=
  ⟨Tryz.f28, _, qjg, Tryz.func28, rfl, rfl, by kernel_rfl, by kernel_rfl, Tryz.call28⟩
def qsi : Nat → List Nat := kk [[0,4],[1,6,7,8,9,10,11,12],[2,5,13,14,15,16,17,18,19,20,21]]
def qml : List (Nat × List Nat) := [(0,[]),(1,[]),(2,[]),(4,[]),(5,[]),(3,[5]),(6,[]),(7,[]),(8,[]),(9,[])]
def qze : IR :=
 (.seq (.reg [o 2 (.box (.t 0)),o 4 (.mv (.c (.re (.slice none 0 0))))] [0,4]) (.seq (.reg [o 8 (.mv (.t 1)),o 9 (f 53 [(.t 8)]),o 10 (f 51 [(z 0),(.t 9)]),o 7 (.mv (.t 10)),o 11 (.ext (.t 7) 0),o 12 (.ext (.t 7) 1),o 5 (.mv (.t 11)),o 6 (.mv (.t 12))] [1,6,7,8,9,10,11,12]) (.seq (.draw [o 13 (.mv (.t 5)),o 14 (.fad 0 (.t 2)),o 15 (.load false 1 (.t 14)),o 16 (f 54 [(.t 15)]),o 17 (.fad 1 (.t 2)),o 18 (.load false 1 (.t 17)),o 19 (f 54 [(.t 18)]),o 20 (.buildS 1 3 [(.re (.slice none 0 0))] [(0,(.t 13)),(1,(.t 16)),(2,(.t 19))]),o 21 (f 57 [(.t 20)]),o 4 (.mv (.t 21))] [[],[],[1],[2],[],[4],[5,3],[0,3,6],[7,6],[8,8,0,1,2,3,4,5,6,7,8]] [2,5,13,14,15,16,17,18,19,20,21]) .ret)))
theorem qsw : FnIs Tryz.prog 30 22 [.t 4] qze :=
  ⟨Tryz.f30, _, qsi, Tryz.func30, rfl, rfl, by kernel_rfl, by kernel_rfl, Tryz.call30⟩
def qjh : Nat → List Nat := kk [[0,4],[1,6,7,8,9,10,11],[2,5,12,13,14,15,16,17,18,19,20]]
def qgh : List (Nat × List Nat) := [(0,[]),(1,[]),(2,[]),(5,[]),(6,[]),(3,[6]),(4,[6]),(7,[]),(8,[]),(9,[])]
def qph : IR :=
 (.seq (.reg [o 2 (.box (.t 0)),o 4 (.mv (.c (.re (.slice none 0 0))))] [0,4]) (.seq (.reg [o 8 (.mv (.t 1)),o 9 (f 55 [(z 0),(.t 8)]),o 7 (.mv (.t 9)),o 10 (.ext (.t 7) 0),o 11 (.ext (.t 7) 1),o 5 (.mv (.t 10)),o 6 (.mv (.t 11))] [1,6,7,8,9,10,11]) (.seq (.draw [o 12 (.mv (.t 5)),o 13 (.fad 0 (.t 2)),o 14 (.load false 1 (.t 13)),o 15 (f 56 [(.t 14)]),o 16 (.app 1 (.t 12) (.t 15)),o 17 (.fad 1 (.t 2)),o 18 (.load false 1 (.t 17)),o 19 (f 56 [(.t 18)]),o 20 (.app 1 (.t 16) (.t 19)),o 4 (.mv (.t 20))] [[],[],[1],[2],[0,3,3],[],[5],[6,4],[4,7,7],[8,8,0,1,2,3,4,5,6,7,8]] [2,5,12,13,14,15,16,17,18,19,20]) .ret)))
theorem qjs : FnIs Tryz.prog 31 21 [.t 4] qph :=
  ⟨Tryz.f31, _, qjh, Tryz.func31, rfl, rfl, by kernel_rfl, by kernel_rfl, Tryz.call31⟩
def qsl : Nat → List Nat := kk [[0,5],[1,8,9,10,11,12],[7,13,14,15,16,17,18],[20],[2,21,22,23,24],[25],[6,26]]
def qzl : IR :=
 (.seq (.reg [o 2 (.box (.t 0)),o 4 (.alloc [(.i .i64 (.l 0)),(.re (.slice none 0 0))]),o 5 (.mv (z 0))] [0,5]) (.seq (.reg [o 9 (.mv (.t 1)),o 10 (f 61 [(.t 9)]),o 8 (.mv (.t 10)),o 11 (.ext (.t 8) 0),o 12 (.ext (.t 8) 1),o 6 (.alloc [(.i .i64 (.l 0)),(.re (.slice none 0 0))]),u (.store 2 (.t 6) (.t 11)),o 7 (.mv (.t 12))] [1,8,9,10,11,12]) (.seq (.seq (.reg [o 13 (.mv (.t 7)),o 14 (.bin .ne (.t 13) (z 0)),o 15 (.mv (.t 14)),q 16 (.load true 2 (.t 2)) 15 false,q 17 (f 47 [(.t 16)]) 15 false,q 18 (.not (.t 17)) 15 false,o 19 (.pick (.t 15) (.c .tt) (.t 18))] [7,13,14,15,16,17,18]) (.cond (.t 19) (.seq (.reg [o 20 (.build [(.i .i64 (.l 0)),(.re (.slice none 0 0))] []),u (.store 2 (.t 4) (.t 20)),o 5 (.mv (z 2))] [20]) .ret) .skip)) (.seq (.reg [o 21 (.fad 1 (.t 2)),o 22 (.load false 1 (.t 21)),o 23 (f 62 [(.t 22)]),o 24 (.fad 1 (.t 6)),u (.store 1 (.t 24) (.t 23))] [2,21,22,23,24]) (.seq (.reg [o 25 (f 63 [(.t 6)])] [25]) (.seq (.reg [o 26 (.load true 2 (.t 6)),u (.store 2 (.t 4) (.t 26)),o 5 (.mv (z 0))] [6,26]) .ret))))))
theorem qta : FnIs Tryz.prog 35 27 [.c 4 true 2, .t 5] qzl :=
  ⟨Tryz.f35, _, qsl, Tryz.func35, rfl, rfl, by kernel_rfl, by kernel_rfl, Tryz.call35⟩
def qxm : Nat → List Nat := kk [[0,1],[16,17],[2,18,19],[21],[22],[10,23,24,25,26,27,28],[11,29],[6,31,32,33],[12,34,35,36,37,38,39,40],[13,41],[7,8,9,43,44,45,46],[6,47,48,49,50,51,52],[15],[14,54],[3,7,55,56,57,58]]
def table_Find : IR :=
 (.seq (.reg [o 2 (.box (.t 0)),o 3 (.box (.t 1)),o 4 (.mv (z 0)),o 5 (.mv (.c .ff))] [0,1]) (.seq (.reg [o 16 .mkM,o 17 .mkM,o 6 (.alloc [(.re (.map none))]),o 7 (.alloc [(.re (.map none))]),u (.store 1 (.t 6) (.t 16)),u (.store 1 (.t 7) (.t 17))] [16,17]) (.seq (.seq (.reg [o 18 (.fad 1 (.t 2)),o 19 (.load false 1 (.t 18)),o 20 (f 64 [(.t 19)])] [2,18,19]) (.block 0 (.rf (.t 20) [21,22] (.seq (.reg [o 8 (.mv (.t 21))] [21]) (.reg [o 9 (.alloc [(.s []),(.s [])]),u (.store 2 (.t 9) (.t 22))] [22])) (.block 1 (.seq (.seq (.reg [o 24 (.load false 1 (.t 6)),o 25 (.load true 2 (.t 9)),o 26 (.look ⟨true,[.ks,.ks]⟩ (.i .i64 (.l 0)) true (.t 24) (.t 25)),o 23 (.mv (.t 26)),o 27 (.ext (.t 23) 0),o 28 (.ext (.t 23) 1),o 10 (.mv (.t 27)),o 11 (.mv (.t 28))] [10,23,24,25,26,27,28]) (.seq (.reg [o 29 (.mv (.t 11)),o 30 (.not (.t 29))] [11,29]) (.cond (.t 30) (.reg [o 31 (.load false 1 (.t 6)),o 32 (.load true 2 (.t 9)),o 33 (.mv (.t 8)),u (.mupd ⟨true,[.ks,.ks]⟩ (.t 31) (.t 32) (.t 33))] [6,31,32,33]) .skip))) (.seq (.reg [o 35 (.load false 1 (.t 7)),o 36 (.fad 0 (.t 9)),o 37 (.load false 1 (.t 36)),o 38 (.look ⟨false,[.ks]⟩ (.i .i64 (.l 0)) true (.t 35) (.t 37)),o 34 (.mv (.t 38)),o 39 (.ext (.t 34) 0),o 40 (.ext (.t 34) 1),o 12 (.mv (.t 39)),o 13 (.mv (.t 40))] [12,34,35,36,37,38,39,40]) (.seq (.reg [o 41 (.mv (.t 13)),o 42 (.not (.t 41))] [13,41]) (.cond (.t 42) (.reg [o 43 (.load false 1 (.t 7)),o 44 (.fad 0 (.t 9)),o 45 (.load false 1 (.t 44)),o 46 (.mv (.t 8)),u (.mupd ⟨false,[.ks]⟩ (.t 43) (.t 45) (.t 46))] [7,8,9,43,44,45,46]) .skip)))))))) (.seq (.seq (.reg [o 48 (.load false 1 (.t 6)),o 49 (.load true 2 (.t 3)),o 50 (.look ⟨true,[.ks,.ks]⟩ (.i .i64 (.l 0)) true (.t 48) (.t 49)),o 47 (.mv (.t 50)),o 51 (.ext (.t 47) 0),o 52 (.ext (.t 47) 1),o 14 (.mv (.t 51)),o 15 (.mv (.t 52))] [6,47,48,49,50,51,52]) (.seq (.reg [o 53 (.mv (.t 15))] [15]) (.cond (.t 53) (.seq (.reg [o 54 (.mv (.t 14)),o 4 (.mv (.t 54)),o 5 (.mv (.c .tt))] [14,54]) .ret) .skip))) (.seq (.reg [o 55 (.load false 1 (.t 7)),o 56 (.fad 0 (.t 3)),o 57 (.load false 1 (.t 56)),o 58 (.look ⟨false,[.ks]⟩ (.i .i64 (.l 0)) false (.t 55) (.t 57)),o 4 (.mv (.t 58)),o 5 (.mv (.c .ff))] [3,7,55,56,57,58]) .ret)))))
theorem qxy : FnIs Tryz.prog 36 59 [.t 4, .t 5] table_Find :=
  ⟨Tryz.f36, _, qxm, Tryz.func36, rfl, rfl, by kernel_rfl, by kernel_rfl, Tryz.call36⟩
def qsn : Nat → List Nat := kk [[4],[1,7,8,9,10,11,12,13,14],[6,15],[5,17],[0,2,18,19,20]]
def qzy : IR :=
 (.seq (.reg [o 4 (.mv (.c (.re (.slice none 0 0))))] [4]) (.seq (.seq (.reg [o 8 (.load false 1 (.t 1)),o 9 (.fad 1 (.t 2)),o 10 (.load false 1 (.t 9)),o 11 (.mv (.t 0)),o 12 (f 27 [(.t 8),(.t 10),(.t 11)]),o 7 (.mv (.t 12)),o 13 (.ext (.t 7) 0),o 14 (.ext (.t 7) 1),o 5 (.mv (.t 13)),o 6 (.mv (.t 14))] [1,7,8,9,10,11,12,13,14]) (.seq (.reg [o 15 (.mv (.t 6)),o 16 (.bin .eq (.t 15) (z 0))] [6,15]) (.cond (.t 16) (.seq (.reg [o 17 (.mv (.t 5)),o 4 (.mv (.t 17))] [5,17]) .ret) .skip))) (.seq (.reg [o 18 (.load true 2 (.t 2)),o 19 (.mv (.t 0)),o 20 (f 30 [(.t 18),(.t 19)]),o 4 (.mv (.t 20))] [0,2,18,19,20]) .ret)))
theorem qce : FnIs Tryz.prog 37 21 [.t 4] qzy :=
  ⟨Tryz.f37, _, qsn, Tryz.func37, rfl, rfl, by kernel_rfl, by kernel_rfl, Tryz.call37⟩
def qxk : Nat → List Nat := kk [[0,2],[1,3,4,5,6,7,8,9,10]]
def table_Size : IR :=
 (.seq (.reg [o 1 (.box (.t 0)),o 2 (.mv (z 0))] [0,2]) (.seq (.reg [o 3 (.fad 0 (.t 1)),o 4 (.load false 1 (.t 3)),o 5 (.len true (.t 4)),o 6 (.bin .add (z 32) (.t 5)),o 7 (.fad 1 (.t 1)),o 8 (.load false 1 (.t 7)),o 9 (.len true (.t 8)),o 10 (.bin .add (.t 6) (.t 9)),o 2 (.mv (.t 10))] [1,3,4,5,6,7,8,9,10]) .ret))
theorem qxw : FnIs Tryz.prog 38 11 [.t 2] table_Size :=
  ⟨Tryz.f38, _, qxk, Tryz.func38, rfl, rfl, by kernel_rfl, by kernel_rfl, Tryz.call38⟩
def qzaag : Nat → List Nat := kk [[0,1,5],[6,7],[9],[3,10,11,12,13,14,15],[16],[2,17]]
def table_Add : IR :=
 (.seq (.reg [o 2 (.box (.t 0)),o 3 (.box (.t 1)),o 4 (.alloc [(.i .i64 (.l 0)),(.re (.slice none 0 0))]),o 5 (.mv (z 0))] [0,1,5]) (.seq (.seq (.reg [o 6 (.load true 2 (.t 2)),o 7 (f 47 [(.t 6)]),o 8 (.not (.t 7))] [6,7]) (.cond (.t 8) (.seq (.reg [o 9 (.build [(.i .i64 (.l 0)),(.re (.slice none 0 0))] []),u (.store 2 (.t 4) (.t 9)),o 5 (.mv (z 2))] [9]) .ret) .skip)) (.seq (.reg [o 10 (.load true 2 (.t 3)),o 11 (.buildS 2 1 [(.s []),(.s [])] [(0,(.t 10))]),o 12 (.fad 1 (.t 2)),o 13 (.load false 1 (.t 12)),o 14 (.app 2 (.t 11) (.t 13)),o 15 (.fad 1 (.t 2)),u (.store 1 (.t 15) (.t 14))] [3,10,11,12,13,14,15]) (.seq (.reg [o 16 (f 63 [(.t 2)])] [16]) (.seq (.reg [o 17 (.load true 2 (.t 2)),u (.store 2 (.t 4) (.t 17)),o 5 (.mv (z 0))] [2,17]) .ret)))))
theorem qzaat : FnIs Tryz.prog 39 18 [.c 4 true 2, .t 5] table_Add :=
  ⟨Tryz.f39, _, qzaag, Tryz.func39, rfl, rfl, by kernel_rfl, by kernel_rfl, Tryz.call39⟩
def qji : Nat → List Nat := kk [[0,2],[1,3,4,5,6,7,8,9,10,11,12,13,14,15,16,17]]
def qgi : List (Nat × List Nat) := [(0,[]),(1,[]),(2,[]),(3,[]),(4,[]),(5,[]),(6,[]),(7,[]),(8,[]),(9,[]),(11,[]),(12,[]),(10,[12]),(13,[]),(14,[]),(15,[])]
def qpi : IR :=
 (.seq (.reg [o 1 (.box (.t 0)),o 2 (.mv (.c .ff))] [0,2]) (.seq (.draw [o 3 (.fad 0 (.t 1)),o 4 (.load false 1 (.t 3)),o 5 (.bin .ge (.t 4) (z 0)),o 6 (.mv (.t 5)),q 7 (.fad 0 (.t 1)) 6 true,q 8 (.load false 1 (.t 7)) 6 true,q 9 (.bin .le (.t 8) (z 4096)) 6 true,o 10 (.pick (.t 6) (.t 9) (.c .ff)),o 11 (.mv (.t 10)),q 12 (.load true 2 (.t 1)) 11 true,q 13 (f 65 [(.t 12)]) 11 true,q 14 (.fad 0 (.t 1)) 11 true,q 15 (.load false 1 (.t 14)) 11 true,q 16 (.bin .le (.t 13) (.t 15)) 11 true,o 17 (.pick (.t 11) (.t 16) (.c .ff)),o 2 (.mv (.t 17))] [[],[0],[1],[2],[3],[4,3],[5,3],[3,6],[7,3],[8],[9,8,8],[8],[11,8],[10,12,8],[8,13],[14,10,0,1,2,3,4,5,6,7,8,9,10,11,12,13,14]] [1,3,4,5,6,7,8,9,10,11,12,13,14,15,16,17]) .ret))
theorem qjt : FnIs Tryz.prog 40 18 [.t 2] qpi :=
  ⟨Tryz.f40, _, qji, Tryz.func40, rfl, rfl, by kernel_rfl, by kernel_rfl, Tryz.call40⟩
def qkw : Nat → List Nat := kk [[0,1,4,5],[],[],[10,11,12,13,14],[16,17],[9,18,19,20,21,22,23],[24,25],[7,27],[8,28,29,30,31,32,33,34,35],[37],[6,38]]
def qgt : List Nat := [0,1,4,5,8,9,10,11,12,13,14,15,16,17,18,19,20,21,22,23,24,25,26,27,28,29,30,31,32,33,34,35,36,37,38]
def qqq : IR :=
 (.seq (.reg [o 2 (.box (.t 0)),o 3 (.box (.t 1)),o 4 (.mv (z 0)),o 5 (.mv (.c .ff))] [0,1,4,5]) (.seq (.reg [o 6 (.mv (z 0))] []) (.seq (.seq (.reg [o 7 (.mv (z 1))] []) (.block 0 (.loop (.seq (.seq (.reg [o 10 (.mv (.t 7)),o 11 (.fad 1 (.t 2)),o 12 (.load false 1 (.t 11)),o 13 (.len false (.t 12)),o 14 (.bin .add (z 20) (.t 13)),o 15 (.bin .le (.t 10) (.t 14))] [10,11,12,13,14]) (.cond (.t 15) .skip (.exit 0))) (.seq (.block 1 (.seq (.reg [o 19 (.load true 2 (.t 2)),o 20 (.mv (.t 7)),o 21 (f 66 [(.t 19),(.t 20)]),o 18 (.mv (.t 21)),o 22 (.ext (.t 18) 0),o 23 (.ext (.t 18) 1),o 8 (.alloc [(.s []),(.s [])]),u (.store 2 (.t 8) (.t 22)),o 9 (.mv (.t 23))] [9,18,19,20,21,22,23]) (.seq (.seq (.reg [o 24 (.load true 2 (.t 8)),o 25 (.load true 2 (.t 3)),o 26 (.eqA ⟨true,[.ks,.ks]⟩ false (.t 24) (.t 25))] [24,25]) (.cond (.t 26) (.seq (.reg [o 27 (.mv (.t 7)),o 4 (.mv (.t 27)),o 5 (.mv (.c .tt))] [7,27]) .ret) .skip)) (.seq (.reg [o 28 (.fad 0 (.t 8)),o 29 (.load false 1 (.t 28)),o 30 (.fad 0 (.t 3)),o 31 (.load false 1 (.t 30)),o 32 (.bin .eq (.t 29) (.t 31)),o 33 (.mv (.t 32)),q 34 (.mv (.t 6)) 33 true,q 35 (.bin .eq (.t 34) (z 0)) 33 true,o 36 (.pick (.t 33) (.t 35) (.c .ff))] [8,28,29,30,31,32,33,34,35]) (.cond (.t 36) (.reg [o 37 (.mv (.t 7)),o 6 (.mv (.t 37))] [37]) .skip))))) (.reg [o 16 (.mv (.t 7)),o 17 (.bin .add (.t 16) (z 1)),o 7 (.mv (.t 17))] [16,17])))))) (.seq (.reg [o 38 (.mv (.t 6)),o 4 (.mv (.t 38)),o 5 (.mv (.c .ff))] [6,38]) .ret))))
theorem qlj : FnIs Tryz.prog 41 39 [.t 4, .t 5] qqq :=
  ⟨Tryz.f41, _, qkw, Tryz.func41, rfl, rfl, by kernel_rfl, by kernel_rfl, Tryz.call41⟩
def qhx : Nat → List Nat := kk [[0,5],[6,7,8,9,10,11,12,13,14,15],[17],[1,18,19],[2,20,21]]
def qno : IR :=
 (.seq (.reg [o 2 (.box (.t 0)),o 4 (.alloc [(.i .i64 (.l 0)),(.re (.slice none 0 0))]),o 5 (.mv (z 0))] [0,5]) (.seq (.seq (.reg [o 6 (.load true 2 (.t 2)),o 7 (f 40 [(.t 6)]),o 8 (.not (.t 7)),o 9 (.mv (.t 8)),q 10 (.mv (.t 1)) 9 false,q 11 (.bin .lt (.t 10) (z 0)) 9 false,o 12 (.pick (.t 9) (.c .tt) (.t 11)),o 13 (.mv (.t 12)),q 14 (.mv (.t 1)) 13 false,q 15 (.bin .gt (.t 14) (z 4096)) 13 false,o 16 (.pick (.t 13) (.c .tt) (.t 15))] [6,7,8,9,10,11,12,13,14,15]) (.cond (.t 16) (.seq (.reg [o 17 (.build [(.i .i64 (.l 0)),(.re (.slice none 0 0))] []),u (.store 2 (.t 4) (.t 17)),o 5 (.mv (z 2))] [17]) .ret) .skip)) (.seq (.reg [o 18 (.mv (.t 1)),o 19 (.fad 0 (.t 2)),u (.store 1 (.t 19) (.t 18))] [1,18,19]) (.seq (.reg [o 20 (.load true 2 (.t 2)),o 21 (f 67 [(.t 20)]),u (.store 2 (.t 4) (.t 21)),o 5 (.mv (z 0))] [2,20,21]) .ret))))
theorem qie : FnIs Tryz.prog 42 22 [.c 4 true 2, .t 5] qno :=
  ⟨Tryz.f42, _, qhx, Tryz.func42, rfl, rfl, by kernel_rfl, by kernel_rfl, Tryz.call42⟩
def qmn : Nat → List Nat := kk [[0,1,4],[5],[],[2,3,7,8,9,10]]
def qdq : List (Nat × List Nat) := [(0,[]),(2,[]),(3,[]),(1,[3]),(4,[])]
def qtr : IR :=
 (.seq (.reg [o 2 (.box (.t 0)),o 3 (.box (.t 1)),o 4 (.mv (z 0))] [0,1,4]) (.seq (.seq (.reg [o 5 (.load true 2 (.t 3)),o 6 (f 17 [(.t 5)])] [5]) (.cond (.t 6) (.seq (.reg [o 4 (.mv (z 2))] []) .ret) .skip)) (.seq (.seq (.draw [o 7 (.load true 2 (.t 3)),o 8 (f 58 [(.t 7)]),o 9 (.fad 0 (.t 2)),o 10 (.load false 1 (.t 9)),o 11 (.bin .le (.t 8) (.t 10))] [[],[0],[],[2],[1,3]] [2,3,7,8,9,10]) (.cond (.t 11) (.seq (.reg [o 4 (.mv (z 1))] []) .ret) .skip)) (.seq (.reg [o 4 (.mv (z 3))] []) .ret))))
theorem qna : FnIs Tryz.prog 43 12 [.t 4] qtr :=
  ⟨Tryz.f43, _, qmn, Tryz.func43, rfl, rfl, by kernel_rfl, by kernel_rfl, Tryz.call43⟩
def qmo : Nat → List Nat := kk [[0,1,5],[6,7],[9],[3,10,11,12,13,14,15],[2,16,17]]
def qts : IR :=
 (.seq (.reg [o 2 (.box (.t 0)),o 3 (.box (.t 1)),o 4 (.alloc [(.i .i64 (.l 0)),(.re (.slice none 0 0))]),o 5 (.mv (z 0))] [0,1,5]) (.seq (.seq (.reg [o 6 (.load true 2 (.t 2)),o 7 (f 40 [(.t 6)]),o 8 (.not (.t 7))] [6,7]) (.cond (.t 8) (.seq (.reg [o 9 (.build [(.i .i64 (.l 0)),(.re (.slice none 0 0))] []),u (.store 2 (.t 4) (.t 9)),o 5 (.mv (z 2))] [9]) .ret) .skip)) (.seq (.reg [o 10 (.load true 2 (.t 3)),o 11 (.buildS 2 1 [(.s []),(.s [])] [(0,(.t 10))]),o 12 (.fad 1 (.t 2)),o 13 (.load false 1 (.t 12)),o 14 (.app 2 (.t 11) (.t 13)),o 15 (.fad 1 (.t 2)),u (.store 1 (.t 15) (.t 14))] [3,10,11,12,13,14,15]) (.seq (.reg [o 16 (.load true 2 (.t 2)),o 17 (f 67 [(.t 16)]),u (.store 2 (.t 4) (.t 17)),o 5 (.mv (z 0))] [2,16,17]) .ret))))
theorem qnb : FnIs Tryz.prog 44 18 [.c 4 true 2, .t 5] qts :=
  ⟨Tryz.f44, _, qmo, Tryz.func44, rfl, rfl, by kernel_rfl, by kernel_rfl, Tryz.call44⟩
def qhy : Nat → List Nat := kk [[4],[6,7,8,9],[],[],[11,12,13],[15,16],[17,18,19,20,21,22,23,24]]
def qfb : List Nat := [2,3,4,6,7,8,9,10,11,12,13,14,15,16,17,18,19,20,21,22,23,24,25]
def qfk : List (Nat × List Nat) := [(0,[]),(1,[]),(2,[]),(3,[]),(4,[]),(5,[]),(6,[]),(7,[]),(8,[])]
def qnp : IR :=
 (.seq (.reg [o 4 (.mv (.c .ff))] [4]) (.seq (.seq (.reg [o 6 (.mv (.t 0)),o 7 (.len false (.t 6)),o 8 (.mv (.t 1)),o 9 (.len false (.t 8)),o 10 (.bin .ne (.t 7) (.t 9))] [6,7,8,9]) (.cond (.t 10) (.seq (.reg [o 4 (.mv (.c .ff))] []) .ret) .skip)) (.seq (.seq (.reg [o 5 (.mv (z 0))] []) (.block 0 (.loop (.seq (.seq (.reg [o 11 (.mv (.t 5)),o 12 (.mv (.t 0)),o 13 (.len false (.t 12)),o 14 (.bin .lt (.t 11) (.t 13))] [11,12,13]) (.cond (.t 14) .skip (.exit 0))) (.seq (.block 1 (.seq (.draw [o 17 (.mv (.t 0)),o 18 (.mv (.t 5)),o 19 (.iadS 2 (.t 17) (.t 18)),o 20 (.load true 2 (.t 19)),o 21 (.mv (.t 1)),o 22 (.mv (.t 5)),o 23 (.iadS 2 (.t 21) (.t 22)),o 24 (.load true 2 (.t 23)),o 25 (.eqA ⟨true,[.ks,.ks]⟩ true (.t 20) (.t 24))] [[],[],[0,1],[2],[],[],[4,5],[6],[3,7]] [17,18,19,20,21,22,23,24]) (.cond (.t 25) (.seq (.reg [o 4 (.mv (.c .ff))] []) .ret) .skip))) (.reg [o 15 (.mv (.t 5)),o 16 (.bin .add (.t 15) (z 1)),o 5 (.mv (.t 16))] [15,16])))))) (.seq (.reg [o 4 (.mv (.c .tt))] []) .ret))))
theorem qif : FnIs Tryz.prog 45 26 [.t 4] qnp :=
  ⟨Tryz.f45, _, qhy, Tryz.func45, rfl, rfl, by kernel_rfl, by kernel_rfl, Tryz.call45⟩
def qut : Nat → List Nat := kk [[0,1,4],[2,3,5]]
def qzaca : IR :=
 (.seq (.reg [o 2 (.box (.t 0)),o 3 (.box (.t 1)),o 4 (.mv (.c (.re .nilFunc)))] [0,1,4]) (.seq (.reg [o 5 (.mkF (.func 68) [] [(.t 3),(.t 2)]),o 4 (.mv (.t 5))] [2,3,5]) .ret))
theorem qva : FnIs Tryz.prog 46 6 [.t 4] qzaca :=
  ⟨Tryz.f46, _, qut, Tryz.func46, rfl, rfl, by kernel_rfl, by kernel_rfl, Tryz.call46⟩
def qur : Nat → List Nat := kk [[0,2],[1,3,4,5,6,7,8,9,10,11,12,13,14,15,16,17]]
def qoi : List (Nat × List Nat) := [(0,[]),(1,[]),(2,[]),(3,[]),(4,[]),(5,[]),(6,[]),(7,[]),(8,[]),(9,[]),(11,[]),(12,[]),(10,[12]),(13,[]),(14,[]),(15,[])]
def qzabn : IR :=
 (.seq (.reg [o 1 (.box (.t 0)),o 2 (.mv (.c .ff))] [0,2]) (.seq (.draw [o 3 (.fad 0 (.t 1)),o 4 (.load false 1 (.t 3)),o 5 (.bin .ge (.t 4) (z 0)),o 6 (.mv (.t 5)),q 7 (.fad 0 (.t 1)) 6 true,q 8 (.load false 1 (.t 7)) 6 true,q 9 (.bin .le (.t 8) (z 4096)) 6 true,o 10 (.pick (.t 6) (.t 9) (.c .ff)),o 11 (.mv (.t 10)),q 12 (.load true 2 (.t 1)) 11 true,q 13 (f 69 [(.t 12)]) 11 true,q 14 (.fad 0 (.t 1)) 11 true,q 15 (.load false 1 (.t 14)) 11 true,q 16 (.bin .le (.t 13) (.t 15)) 11 true,o 17 (.pick (.t 11) (.t 16) (.c .ff)),o 2 (.mv (.t 17))] [[],[0],[1],[2],[3],[4,3],[5,3],[3,6],[7,3],[8],[9,8,8],[8],[11,8],[10,12,8],[8,13],[14,10,0,1,2,3,4,5,6,7,8,9,10,11,12,13,14]] [1,3,4,5,6,7,8,9,10,11,12,13,14,15,16,17]) .ret))
theorem quy : FnIs Tryz.prog 47 18 [.t 2] qzabn :=
  ⟨Tryz.f47, _, qur, Tryz.func47, rfl, rfl, by kernel_rfl, by kernel_rfl, Tryz.call47⟩
def qxi : Nat → List Nat := kk [[1,4,5],[0,3,6,7,8,9,10,11,12,13,14]]
def unpack_put : IR :=
 (.seq (.reg [o 3 (.box (.t 1)),o 4 (.mv (.c (.re (.slice none 0 0)))),o 5 (.mv (z 0))] [1,4,5]) (.seq (.reg [o 6 (.mv (.t 0)),o 7 (.iadA 2 1 (.t 3) (z 1)),o 8 (.load false 1 (.t 7)),o 9 (.iadA 2 1 (.t 3) (z 0)),o 10 (.load false 1 (.t 9)),o 11 (.cv .u8 (.t 10)),o 12 (f 76 [(.t 6),(.t 8),(.t 11)]),o 13 (.ext (.t 12) 0),o 14 (.ext (.t 12) 1),o 4 (.mv (.t 13)),o 5 (.mv (.t 14))] [0,3,6,7,8,9,10,11,12,13,14]) .ret))
theorem qdi : FnIs Tryz.prog 51 15 [.t 4, .t 5] unpack_put :=
  ⟨Tryz.f51, _, qxi, Tryz.func51, rfl, rfl, by kernel_rfl, by kernel_rfl, Tryz.call51⟩
def qmr : Nat → List Nat := kk [[6,7],[11,12,13],[],[1,15,16],[2,17,18,19,20,21,22,23,24],[25,26],[0,9,28,29,30,31,32],[9,33,34,35,36,37],[8,38,39,40],[41],[43,44,45,46,47,48,49],[50,51],[0,10,52,53,54,55,56]]
def qhh : List Nat := [1,2,3,4,5,6,7,8,9,11,12,13,14,15,16,17,18,19,20,21,22,23,24,25,26,27,28,29,30,31,32,33,34,35,36,37,38,39,40,41,42,43,44,45,46,47,48,49,50,51,52,53,54,55,56]
def qtv : IR :=
 (.seq (.reg [o 6 (.mv (.c (.re (.slice none 0 0)))),o 7 (.mv (z 0))] [6,7]) (.seq (.seq (.reg [o 11 (.mv (.t 0)),o 12 (.mv (.t 1)),o 13 (f 77 [(.t 11),(.t 12)]),o 14 (.not (.t 13))] [11,12,13]) (.cond (.t 14) (.seq (.reg [o 6 (.mv (.c (.re (.slice none 0 0)))),o 7 (.mv (z 2))] []) .ret) .skip)) (.seq (.reg [o 15 (.mv (.t 1)),o 16 (f 78 [(.t 15)]),o 8 (.mv (.t 16))] [1,15,16]) (.seq (.reg [o 17 (.mv (.t 2)),o 18 (.cv .i64 (.t 17)),o 19 (.mv (.t 8)),o 20 (.bin .add (.t 19) (z 1)),o 21 (.bin .quo (.t 18) (.t 20)),o 22 (.mv (.t 8)),o 23 (.bin .add (.t 22) (z 1)),o 24 (.bin .mul (.t 21) (.t 23)),o 9 (.mv (.t 24))] [2,17,18,19,20,21,22,23,24]) (.seq (.seq (.reg [o 25 (.mv (.t 0)),o 26 (.mv (.t 8)),o 27 (.bin .lt (.t 25) (.t 26))] [25,26]) (.cond (.t 27) (.seq (.reg [o 28 (.mv (.t 9)),o 29 (.mv (.t 0)),o 30 (.bin .add (.t 28) (.t 29)),o 31 (.cv .u8 (.t 30)),o 32 (.buildS 1 1 [(.i .u8 (.l 0))] [(0,(.t 31))]),o 6 (.mv (.t 32)),o 7 (.mv (z 0))] [0,9,28,29,30,31,32]) .ret) .skip)) (.seq (.reg [o 33 (.mv (.t 9)),o 34 (.mv (.t 8)),o 35 (.bin .add (.t 33) (.t 34)),o 36 (.cv .u8 (.t 35)),o 37 (.buildS 1 1 [(.i .u8 (.l 0))] [(0,(.t 36))]),o 10 (.mv (.t 37))] [9,33,34,35,36,37]) (.seq (.reg [o 38 (.mv (.t 0)),o 39 (.mv (.t 8)),o 40 (.bin .sub (.t 38) (.t 39)),o 0 (.mv (.t 40))] [8,38,39,40]) (.seq (.block 0 (.loop (.seq (.seq (.reg [o 41 (.mv (.t 0)),o 42 (.bin .ge (.t 41) (z 128))] [41]) (.cond (.t 42) .skip (.exit 0))) (.block 1 (.seq (.reg [o 43 (.mv (.t 10)),o 44 (.mv (.t 0)),o 45 (.bin .rem (.t 44) (z 128)),o 46 (.bin .add (.t 45) (z 128)),o 47 (.cv .u8 (.t 46)),o 48 (.buildS 1 1 [(.i .u8 (.l 0))] [(0,(.t 47))]),o 49 (.app 1 (.t 43) (.t 48)),o 10 (.mv (.t 49))] [43,44,45,46,47,48,49]) (.reg [o 50 (.mv (.t 0)),o 51 (.bin .quo (.t 50) (z 128)),o 0 (.mv (.t 51))] [50,51])))))) (.seq (.reg [o 52 (.mv (.t 10)),o 53 (.mv (.t 0)),o 54 (.cv .u8 (.t 53)),o 55 (.buildS 1 1 [(.i .u8 (.l 0))] [(0,(.t 54))]),o 56 (.app 1 (.t 52) (.t 55)),o 6 (.mv (.t 56)),o 7 (.mv (z 0))] [0,10,52,53,54,55,56]) .ret)))))))))
theorem qne : FnIs Tryz.prog 52 57 [.t 6, .t 7] qtv :=
  ⟨Tryz.f52, _, qmr, Tryz.func52, rfl, rfl, by kernel_rfl, by kernel_rfl, Tryz.call52⟩
def qzaac : Nat → List Nat := kk [[],[0,5,6,7,8,9,10,11],[4],[3,13],[14]]
def unpack_of : IR :=
 (.seq (.reg [o 2 (.alloc [(.i .i64 (.l 0)),(.i .i64 (.l 0))])] []) (.seq (.seq (.reg [o 6 (f 79 []),o 7 (.mv (.t 0)),o 8 (.build [(.i .i64 (.l 0))] [(0,1,(.t 7))]),o 9 (.look ⟨true,[.ki]⟩ (.ag [(.i .i64 (.l 0)),(.i .i64 (.l 0))]) true (.t 6) (.t 8)),o 5 (.mv (.t 9)),o 10 (.ext (.t 5) 0),o 11 (.ext (.t 5) 1),o 3 (.alloc [(.i .i64 (.l 0)),(.i .i64 (.l 0))]),u (.store 2 (.t 3) (.t 10)),o 4 (.mv (.t 11))] [0,5,6,7,8,9,10,11]) (.seq (.reg [o 12 (.mv (.t 4))] [4]) (.cond (.t 12) (.seq (.reg [o 13 (.load true 2 (.t 3)),u (.store 2 (.t 2) (.t 13))] [3,13]) .ret) .skip))) (.seq (.reg [o 14 (.build [(.i .i64 (.l 0)),(.i .i64 (.l 0))] [(0,1,(z 0)),(1,1,(z 4))]),u (.store 2 (.t 2) (.t 14))] [14]) .ret)))
theorem qzaaq : FnIs Tryz.prog 53 15 [.c 2 true 2] unpack_of :=
  ⟨Tryz.f53, _, qzaac, Tryz.func53, rfl, rfl, by kernel_rfl, by kernel_rfl, Tryz.call53⟩
def qzaae : Nat → List Nat := kk [[2],[4],[5,6],[8],[0,3,9,10,11]]
def text_Best : IR :=
 (.seq (.reg [o 2 (.mv (.c (.re (.slice none 0 0))))] [2]) (.seq (.reg [o 4 (f 80 []),o 3 (.mv (.t 4))] [4]) (.seq (.seq (.reg [o 5 (.mv (.t 0)),o 6 (.cvSB (.t 5)),o 7 (f 81 [(.t 6)])] [5,6]) (.cond (.t 7) (.reg [o 8 (f 82 []),o 3 (.mv (.t 8))] [8]) .skip)) (.seq (.reg [o 9 (.mv (.t 0)),o 10 (.mv (.t 3)),o 11 (f 83 [(.t 9),(.t 10)]),o 2 (.mv (.t 11))] [0,3,9,10,11]) .ret))))
theorem qzaar : FnIs Tryz.prog 54 12 [.t 2] text_Best :=
  ⟨Tryz.f54, _, qzaae, Tryz.func54, rfl, rfl, by kernel_rfl, by kernel_rfl, Tryz.call54⟩
def qje : Nat → List Nat := kk [[4,5],[1],[8],[0,9,10,11,12],[6,14],[0,15,16,17,18],[0,19,20,21,22]]
def qpe : IR :=
 (.seq (.reg [o 4 (.mv (.c (.re (.slice none 0 0)))),o 5 (.mv (z 0))] [4,5]) (.seq (.seq (.reg [o 6 (.mv (.t 1))] [1]) (.block 0 (.seq (.reg [o 8 (.bin .eq (.t 6) (z 1)),o 7 (.mv (.t 8))] [8]) (.cond (.t 7) (.seq (.reg [o 9 (.mv (.t 0)),o 10 (f 52 [(.t 9),(z 6),(.c (.i .u8 (.l 64)))]),o 11 (.ext (.t 10) 0),o 12 (.ext (.t 10) 1),o 4 (.mv (.t 11)),o 5 (.mv (.t 12))] [0,9,10,11,12]) .ret) (.seq (.reg [o 14 (.bin .eq (.t 6) (z 2)),o 13 (.mv (.t 14))] [6,14]) (.cond (.t 13) (.seq (.reg [o 15 (.mv (.t 0)),o 16 (f 52 [(.t 15),(z 4),(.c (.i .u8 (.l 16)))]),o 17 (.ext (.t 16) 0),o 18 (.ext (.t 16) 1),o 4 (.mv (.t 17)),o 5 (.mv (.t 18))] [0,15,16,17,18]) .ret) .skip)))))) (.seq (.reg [o 19 (.mv (.t 0)),o 20 (f 52 [(.t 19),(z 4),(.c (.i .u8 (.l 0)))]),o 21 (.ext (.t 20) 0),o 22 (.ext (.t 20) 1),o 4 (.mv (.t 21)),o 5 (.mv (.t 22))] [0,19,20,21,22]) .ret)))
theorem qcs : FnIs Tryz.prog 55 23 [.t 4, .t 5] qpe :=
  ⟨Tryz.f55, _, qje, Tryz.func55, rfl, rfl, by kernel_rfl, by kernel_rfl, Tryz.call55⟩
def qky : Nat → List Nat := kk [[2],[3,4],[0,6,7],[0,8,9]]
def qqs : IR :=
 (.seq (.reg [o 2 (.mv (.c (.re (.slice none 0 0))))] [2]) (.seq (.seq (.reg [o 3 (.mv (.t 0)),o 4 (.cvSB (.t 3)),o 5 (f 84 [(.t 4)])] [3,4]) (.cond (.t 5) (.seq (.reg [o 6 (.mv (.t 0)),o 7 (f 85 [(.t 6)]),o 2 (.mv (.t 7))] [0,6,7]) .ret) .skip)) (.seq (.reg [o 8 (.mv (.t 0)),o 9 (f 86 [(.t 8)]),o 2 (.mv (.t 9))] [0,8,9]) .ret)))
theorem qll : FnIs Tryz.prog 56 10 [.t 2] qqs :=
  ⟨Tryz.f56, _, qky, Tryz.func56, rfl, rfl, by kernel_rfl, by kernel_rfl, Tryz.call56⟩
def qds : Nat → List Nat := kk [[2],[],[],[],[13,14],[5,15,16,17,18],[19],[21],[22],[3,23,24],[0],[],[29,30],[8,31,32,33],[34],[6,35]]
def qel : IR :=
 (.seq (.reg [o 2 (.mv (.c (.re (.slice none 0 0))))] [2]) (.seq (.reg [o 3 (.mv (z 0))] []) (.seq (.seq (.reg [o 9 (.mv (.t 0)),o 10 (.len false (.t 9)),o 11 (.mv (z 0))] []) (.block 0 (.loop (.seq (.reg [o 12 (.bin .lt (.t 11) (.t 10))] []) (.seq (.cond (.t 12) .skip (.exit 0)) (.seq (.block 1 (.seq (.reg [o 13 (.iadS 1 (.t 9) (.t 11)),o 14 (.load false 1 (.t 13)),o 5 (.mv (.t 14))] [13,14]) (.seq (.reg [o 15 (.mv (.t 3)),o 16 (.mv (.t 5)),o 17 (.len false (.t 16)),o 18 (.bin .add (.t 15) (.t 17)),o 3 (.mv (.t 18))] [5,15,16,17,18]) (.seq (.reg [o 19 (.mv (.t 3)),o 20 (.bin .lt (.t 19) (z 0))] [19]) (.cond (.t 20) (.reg [o 21 .die,u .die] [21]) .skip))))) (.reg [o 22 (.bin .add (.t 11) (z 1)),o 11 (.mv (.t 22))] [22]))))))) (.seq (.reg [o 23 (.mv (.t 3)),o 24 (f 87 [(.c (.re (.slice none 0 0))),(.t 23)]),o 6 (.mv (.t 24))] [3,23,24]) (.seq (.seq (.reg [o 25 (.mv (.t 0)),o 26 (.len false (.t 25)),o 27 (.mv (z 0))] [0]) (.block 2 (.loop (.seq (.reg [o 28 (.bin .lt (.t 27) (.t 26))] []) (.seq (.cond (.t 28) .skip (.exit 2)) (.seq (.block 3 (.seq (.reg [o 29 (.iadS 1 (.t 25) (.t 27)),o 30 (.load false 1 (.t 29)),o 8 (.mv (.t 30))] [29,30]) (.reg [o 31 (.mv (.t 6)),o 32 (.mv (.t 8)),o 33 (.app 1 (.t 31) (.t 32)),o 6 (.mv (.t 33))] [8,31,32,33]))) (.reg [o 34 (.bin .add (.t 27) (z 1)),o 27 (.mv (.t 34))] [34]))))))) (.seq (.reg [o 35 (.mv (.t 6)),o 2 (.mv (.t 35))] [6,35]) .ret))))))
theorem qdu : FnIs Tryz.prog 57 36 [.t 2] qel :=
  ⟨Tryz.f57, _, qds, Tryz.func57, rfl, rfl, by kernel_rfl, by kernel_rfl, Tryz.call57⟩
def qkt : Nat → List Nat := kk [[0,2],[1,3,4,5,6,7,8,9,10]]
def qqn : IR :=
 (.seq (.reg [o 1 (.box (.t 0)),o 2 (.mv (z 0))] [0,2]) (.seq (.reg [o 3 (.fad 0 (.t 1)),o 4 (.load false 1 (.t 3)),o 5 (.len true (.t 4)),o 6 (.fad 1 (.t 1)),o 7 (.load false 1 (.t 6)),o 8 (.len true (.t 7)),o 9 (.bin .add (.t 5) (.t 8)),o 10 (.bin .add (.t 9) (z 32)),o 2 (.mv (.t 10))] [1,3,4,5,6,7,8,9,10]) .ret))
theorem qlg : FnIs Tryz.prog 58 11 [.t 2] qqn :=
  ⟨Tryz.f58, _, qkt, Tryz.func58, rfl, rfl, by kernel_rfl, by kernel_rfl, Tryz.call58⟩
def qzaaf : Nat → List Nat := kk [[3],[4,5,6,7,8],[10],[0,11,12],[13]]
def table_New : IR :=
 (.seq (.reg [o 2 (.alloc [(.i .i64 (.l 0)),(.re (.slice none 0 0))]),o 3 (.mv (z 0))] [3]) (.seq (.seq (.reg [o 4 (.mv (.t 0)),o 5 (.bin .lt (.t 4) (z 0)),o 6 (.mv (.t 5)),q 7 (.mv (.t 0)) 6 false,q 8 (.bin .gt (.t 7) (z 4096)) 6 false,o 9 (.pick (.t 6) (.c .tt) (.t 8))] [4,5,6,7,8]) (.cond (.t 9) (.seq (.reg [o 10 (.load true 2 (.t 2)),u (.store 2 (.t 2) (.t 10)),o 3 (.mv (z 2))] [10]) .ret) .skip)) (.seq (.reg [o 11 (.mv (.t 0)),o 12 (.fad 0 (.t 2)),u (.store 1 (.t 12) (.t 11))] [0,11,12]) (.seq (.reg [o 13 (.load true 2 (.t 2)),u (.store 2 (.t 2) (.t 13)),o 3 (.mv (z 0))] [13]) .ret))))
theorem qzaas : FnIs Tryz.prog 61 14 [.c 2 true 2, .t 3] table_New :=
  ⟨Tryz.f61, _, qzaaf, Tryz.func61, rfl, rfl, by kernel_rfl, by kernel_rfl, Tryz.call61⟩
def qem : Nat → List Nat := kk [[2],[3],[],[0,5,6,7]]
def qgb : IR :=
 (.seq (.reg [o 2 (.mv (.c (.re (.slice none 0 0))))] [2]) (.seq (.seq (.reg [o 3 (.mv (.t 0)),o 4 (.nilS false (.t 3))] [3]) (.cond (.t 4) (.seq (.reg [o 2 (.mv (.c (.re (.slice none 0 0))))] []) .ret) .skip)) (.seq (.reg [o 5 (.buildS 2 0 [(.s []),(.s [])] []),o 6 (.mv (.t 0)),o 7 (.app 2 (.t 5) (.t 6)),o 2 (.mv (.t 7))] [0,5,6,7]) .ret)))
theorem qen : FnIs Tryz.prog 62 8 [.t 2] qgb :=
  ⟨Tryz.f62, _, qem, Tryz.func62, rfl, rfl, by kernel_rfl, by kernel_rfl, Tryz.call62⟩
def quq : Nat → List Nat := kk [[4,5,6,7],[8,9,10,11,12,13],[14,15,16,17,18],[20,21,22,23,24,25,26,27,28,29],[3,30,31,32,33,34,35,36,37,38]]
def qzabm : IR :=
 (.scope (.seq (.reg [o 4 (.mv (.t 0)),o 5 (.nilc (.t 4)),o 6 (.load true 2 (.t 5)),o 7 (f 69 [(.t 6)]),o 2 (.mv (.t 7))] [4,5,6,7]) (.seq (.label 0) (.seq (.reg [o 8 (.mv (.t 0)),o 9 (.nilc (.t 8)),o 10 (.fad 1 (.t 9)),o 11 (.load false 1 (.t 10)),o 12 (.len false (.t 11)),o 13 (.bin .sub (.t 12) (z 1)),o 3 (.mv (.t 13))] [8,9,10,11,12,13]) (.seq (.reg [o 14 (.mv (.t 2)),o 15 (.mv (.t 0)),o 16 (.nilc (.t 15)),o 17 (.fad 0 (.t 16)),o 18 (.load false 1 (.t 17)),o 19 (.bin .gt (.t 14) (.t 18))] [14,15,16,17,18]) (.cond (.t 19) (.seq (.reg [o 20 (.mv (.t 2)),o 21 (.mv (.t 0)),o 22 (.nilc (.t 21)),o 23 (.fad 1 (.t 22)),o 24 (.load false 1 (.t 23)),o 25 (.mv (.t 3)),o 26 (.iadS 2 (.t 24) (.t 25)),o 27 (.load true 2 (.t 26)),o 28 (f 38 [(.t 27)]),o 29 (.bin .sub (.t 20) (.t 28)),o 2 (.mv (.t 29))] [20,21,22,23,24,25,26,27,28,29]) (.seq (.reg [o 30 (.mv (.t 0)),o 31 (.mv (.t 0)),o 32 (.nilc (.t 31)),o 33 (.fad 1 (.t 32)),o 34 (.load false 1 (.t 33)),o 35 (.mv (.t 3)),o 36 (.slc 2 (.t 34) none (some (.t 35)) none),o 37 (.nilc (.t 30)),o 38 (.fad 1 (.t 37)),u (.store 1 (.t 38) (.t 36))] [3,30,31,32,33,34,35,36,37,38]) (.goto 0))) .skip))))))
theorem qux : FnIs Tryz.prog 63 39 [] qzabm :=
  ⟨Tryz.f63, _, quq, Tryz.func63, rfl, rfl, by kernel_rfl, by kernel_rfl, Tryz.call63⟩
def qsk : Nat → List Nat := kk [[0,2],[1,3]]
def qzk : IR :=
 (.seq (.reg [o 1 (.box (.t 0)),o 2 (.mv (.c (.re .nilFunc)))] [0,2]) (.seq (.reg [o 3 (.mkF (.func 88) [] [(.t 1)]),o 2 (.mv (.t 3))] [1,3]) .ret))
theorem qsz : FnIs Tryz.prog 64 4 [.t 2] qzk :=
  ⟨Tryz.f64, _, qsk, Tryz.func64, rfl, rfl, by kernel_rfl, by kernel_rfl, Tryz.call64⟩
def qkv : Nat → List Nat := kk [[0,2],[],[],[5,6,7,8],[10,11],[12,13,14,15,16,17,18,19],[3,20]]
def qgs : List Nat := [0,2,5,6,7,8,9,10,11,12,13,14,15,16,17,18,19,20]
def qqp : IR :=
 (.seq (.reg [o 1 (.box (.t 0)),o 2 (.mv (z 0))] [0,2]) (.seq (.reg [o 3 (.mv (z 0))] []) (.seq (.seq (.reg [o 4 (.mv (z 0))] []) (.block 0 (.loop (.seq (.seq (.reg [o 5 (.mv (.t 4)),o 6 (.fad 1 (.t 1)),o 7 (.load false 1 (.t 6)),o 8 (.len false (.t 7)),o 9 (.bin .lt (.t 5) (.t 8))] [5,6,7,8]) (.cond (.t 9) .skip (.exit 0))) (.seq (.block 1 (.reg [o 12 (.mv (.t 3)),o 13 (.fad 1 (.t 1)),o 14 (.load false 1 (.t 13)),o 15 (.mv (.t 4)),o 16 (.iadS 2 (.t 14) (.t 15)),o 17 (.load true 2 (.t 16)),o 18 (f 58 [(.t 17)]),o 19 (.bin .add (.t 12) (.t 18)),o 3 (.mv (.t 19))] [12,13,14,15,16,17,18,19])) (.reg [o 10 (.mv (.t 4)),o 11 (.bin .add (.t 10) (z 1)),o 4 (.mv (.t 11))] [10,11])))))) (.seq (.reg [o 20 (.mv (.t 3)),o 2 (.mv (.t 20))] [3,20]) .ret))))
theorem qli : FnIs Tryz.prog 65 21 [.t 2] qqp :=
  ⟨Tryz.f65, _, qkv, Tryz.func65, rfl, rfl, by kernel_rfl, by kernel_rfl, Tryz.call65⟩
def qon : Nat → List Nat := kk [[0,5],[8,9,10,11,12],[7],[6,14],[15,16,17,18,19,20,21,22,23],[25],[1,2,26,27,28,29,30,31]]
def qvc : IR :=
 (.seq (.reg [o 2 (.box (.t 0)),o 4 (.alloc [(.s []),(.s [])]),o 5 (.mv (z 0))] [0,5]) (.seq (.reg [o 9 (.mv (.t 1)),o 10 (f 91 [(.t 9)]),o 8 (.mv (.t 10)),o 11 (.ext (.t 8) 0),o 12 (.ext (.t 8) 1),o 6 (.alloc [(.s []),(.s [])]),u (.store 2 (.t 6) (.t 11)),o 7 (.mv (.t 12))] [8,9,10,11,12]) (.seq (.seq (.reg [o 13 (.mv (.t 7))] [7]) (.cond (.t 13) (.seq (.reg [o 14 (.load true 2 (.t 6)),u (.store 2 (.t 4) (.t 14)),o 5 (.mv (z 0))] [6,14]) .ret) .skip)) (.seq (.seq (.reg [o 15 (.mv (.t 1)),o 16 (.bin .lt (.t 15) (z 21)),o 17 (.mv (.t 16)),q 18 (.mv (.t 1)) 17 false,q 19 (.bin .sub (.t 18) (z 21)) 17 false,q 20 (.fad 1 (.t 2)) 17 false,q 21 (.load false 1 (.t 20)) 17 false,q 22 (.len false (.t 21)) 17 false,q 23 (.bin .ge (.t 19) (.t 22)) 17 false,o 24 (.pick (.t 17) (.c .tt) (.t 23))] [15,16,17,18,19,20,21,22,23]) (.cond (.t 24) (.seq (.reg [o 25 (.build [(.s []),(.s [])] []),u (.store 2 (.t 4) (.t 25)),o 5 (.mv (z 90))] [25]) .ret) .skip)) (.seq (.reg [o 26 (.fad 1 (.t 2)),o 27 (.load false 1 (.t 26)),o 28 (.mv (.t 1)),o 29 (.bin .sub (.t 28) (z 21)),o 30 (.iadS 2 (.t 27) (.t 29)),o 31 (.load true 2 (.t 30)),u (.store 2 (.t 4) (.t 31)),o 5 (.mv (z 0))] [1,2,26,27,28,29,30,31]) .ret)))))
theorem qos : FnIs Tryz.prog 66 32 [.c 4 true 2, .t 5] qvc :=
  ⟨Tryz.f66, _, qon, Tryz.func66, rfl, rfl, by kernel_rfl, by kernel_rfl, Tryz.call66⟩
def qhb : Nat → List Nat := kk [[0],[3,4,5,6,7],[8,9,10,11],[13,14,15,16,17,18,19,20],[1,21]]
def qeo : List Nat := [0,3,4,5,6,7,8,9,10,11,12,13,14,15,16,17,18,19,20,21]
def qew : List (Nat × List Nat) := [(0,[]),(2,[]),(3,[]),(1,[3]),(4,[])]
def qlu : IR :=
 (.seq (.reg [o 1 (.box (.t 0)),o 2 (.alloc [(.i .i64 (.l 0)),(.re (.slice none 0 0))])] [0]) (.seq (.reg [o 3 (.buildS 2 0 [(.s []),(.s [])] []),o 4 (.fad 1 (.t 1)),o 5 (.load false 1 (.t 4)),o 6 (.app 2 (.t 3) (.t 5)),o 7 (.fad 1 (.t 1)),u (.store 1 (.t 7) (.t 6))] [3,4,5,6,7]) (.seq (.block 0 (.loop (.seq (.seq (.draw [o 8 (.load true 2 (.t 1)),o 9 (f 65 [(.t 8)]),o 10 (.fad 0 (.t 1)),o 11 (.load false 1 (.t 10)),o 12 (.bin .gt (.t 9) (.t 11))] [[],[0],[],[2],[1,3]] [8,9,10,11]) (.cond (.t 12) .skip (.exit 0))) (.block 1 (.reg [o 13 (.fad 1 (.t 1)),o 14 (.load false 1 (.t 13)),o 15 (.fad 1 (.t 1)),o 16 (.load false 1 (.t 15)),o 17 (.len false (.t 16)),o 18 (.bin .sub (.t 17) (z 1)),o 19 (.slc 2 (.t 14) none (some (.t 18)) none),o 20 (.fad 1 (.t 1)),u (.store 1 (.t 20) (.t 19))] [13,14,15,16,17,18,19,20]))))) (.seq (.reg [o 21 (.load true 2 (.t 1)),u (.store 2 (.t 2) (.t 21))] [1,21]) .ret))))
theorem qhe : FnIs Tryz.prog 67 22 [.c 2 true 2] qlu :=
  ⟨Tryz.f67, _, qhb, Tryz.func67, rfl, rfl, by kernel_rfl, by kernel_rfl, Tryz.call67⟩
def qqi : Nat → List Nat := kk [[1],[],[11,12],[6],[5,13,14,15,16,17,18,19],[6,20,21,22,23],[25]]
def qjz : List Nat := [1,3,4,5,6,10,11,12,13,14,15,16,17,18,19,20,21,22,23,24,25]
def qxe : IR :=
 (.seq (.reg [o 7 (.load false 1 (.t 1)),o 8 (.len false (.t 7)),o 9 (.mv (z 0))] [1]) (.block 0 (.loop (.seq (.reg [o 10 (.bin .lt (.t 9) (.t 8))] []) (.seq (.cond (.t 10) .skip (.exit 0)) (.seq (.block 1 (.seq (.reg [o 11 (.iadS 2 (.t 7) (.t 9)),o 12 (.load true 2 (.t 11)),o 5 (.alloc [(.s []),(.s [])]),u (.store 2 (.t 5) (.t 12))] [11,12]) (.seq (.reg [o 6 (.mv (.c (.re (.slice none 0 0))))] [6]) (.seq (.reg [o 14 (.load true 2 (.t 2)),o 15 (.load true 2 (.t 5)),o 16 (f 8 [(.t 14),(.t 15)]),o 13 (.mv (.t 16)),o 17 (.ext (.t 13) 0),o 18 (.ext (.t 13) 1),o 19 (.ext (.t 13) 2),o 6 (.mv (.t 17)),u (.store 2 (.t 2) (.t 18))] [5,13,14,15,16,17,18,19]) (.seq (.reg [o 20 (.mv (.t 0)),o 21 (.mv (.t 6)),o 22 (.load true 2 (.t 2)),o 23 (.call (.t 20) [(.t 21),(.t 22)]),o 24 (.not (.t 23))] [6,20,21,22,23]) (.cond (.t 24) .ret .skip)))))) (.reg [o 25 (.bin .add (.t 9) (z 1)),o 9 (.mv (.t 25))] [25])))))))
theorem qql : FnIs Tryz.prog 68 26 [] qxe :=
  ⟨Tryz.f68, _, qqi, Tryz.func68, rfl, rfl, by kernel_rfl, by kernel_rfl, Tryz.call68⟩
def qxl : Nat → List Nat := kk [[0],[1,5],[],[10,11],[4,12,13,14,15],[16],[17]]
def qpa : List Nat := [0,1,3,4,5,9,10,11,12,13,14,15,16,17]
def table_Full : IR :=
 (.seq (.reg [o 1 (.box (.t 0)),o 2 (.mv (z 0))] [0]) (.seq (.seq (.reg [o 5 (.fad 1 (.t 1)),o 6 (.load false 1 (.t 5)),o 7 (.len false (.t 6)),o 8 (.mv (z 0))] [1,5]) (.block 0 (.loop (.seq (.reg [o 9 (.bin .lt (.t 8) (.t 7))] []) (.seq (.cond (.t 9) .skip (.exit 0)) (.seq (.block 1 (.seq (.reg [o 10 (.iadS 2 (.t 6) (.t 8)),o 11 (.load true 2 (.t 10)),o 4 (.alloc [(.s []),(.s [])]),u (.store 2 (.t 4) (.t 11))] [10,11]) (.reg [o 12 (.mv (.t 2)),o 13 (.load true 2 (.t 4)),o 14 (f 38 [(.t 13)]),o 15 (.bin .add (.t 12) (.t 14)),o 2 (.mv (.t 15))] [4,12,13,14,15]))) (.reg [o 16 (.bin .add (.t 8) (z 1)),o 8 (.mv (.t 16))] [16]))))))) (.seq (.reg [o 17 (.mv (.t 2)),o 2 (.mv (.t 17))] [17]) .ret)))
theorem qxx : FnIs Tryz.prog 69 18 [.t 2] table_Full :=
  ⟨Tryz.f69, _, qxl, Tryz.func69, rfl, rfl, by kernel_rfl, by kernel_rfl, Tryz.call69⟩
def qxn : Nat → List Nat := kk [[],[11,12,13,14,15,16,17,18,19,20,21],[],[1,23,24,25],[2,26,27,28,29],[30,31],[0,9,33,34,35,36,37],[9,38,39,40,41,42,43,44],[0,8,45,46,47,48],[50],[6,10,51,52,53,54],[55]]
def prefix_Put : IR :=
 (.seq (.reg [o 6 (.alloc [(.re (.slice none 0 0))]),o 7 (.mv (z 0))] []) (.seq (.seq (.reg [o 11 (.mv (.t 1)),o 12 (f 97 [(.t 11)]),o 13 (.not (.t 12)),o 14 (.mv (.t 13)),q 15 (.mv (.t 0)) 14 false,q 16 (.bin .lt (.t 15) (z 0)) 14 false,o 17 (.pick (.t 14) (.c .tt) (.t 16)),o 18 (.mv (.t 17)),q 19 (.mv (.t 0)) 18 false,q 20 (.bin .shr (.t 19) (.c (.i .u64 (.l 31)))) 18 false,q 21 (.bin .ne (.t 20) (z 0)) 18 false,o 22 (.pick (.t 18) (.c .tt) (.t 21))] [11,12,13,14,15,16,17,18,19,20,21]) (.cond (.t 22) (.seq (.reg [u (.store 1 (.t 6) (.c (.re (.slice none 0 0)))),o 7 (.mv (z 2))] []) .ret) .skip)) (.seq (.reg [o 23 (.mv (.t 1)),o 24 (.bin .shl (z 1) (.t 23)),o 25 (.bin .sub (.t 24) (z 1)),o 8 (.mv (.t 25))] [1,23,24,25]) (.seq (.reg [o 26 (.mv (.t 2)),o 27 (.mv (.t 8)),o 28 (.cv .u8 (.t 27)),o 29 (.bin .andn (.t 26) (.t 28)),o 9 (.mv (.t 29))] [2,26,27,28,29]) (.seq (.seq (.reg [o 30 (.mv (.t 0)),o 31 (.mv (.t 8)),o 32 (.bin .lt (.t 30) (.t 31))] [30,31]) (.cond (.t 32) (.seq (.reg [o 33 (.mv (.t 9)),o 34 (.mv (.t 0)),o 35 (.cv .u8 (.t 34)),o 36 (.bin .or (.t 33) (.t 35)),o 37 (.buildS 1 1 [(.i .u8 (.l 0))] [(0,(.t 36))]),u (.store 1 (.t 6) (.t 37)),o 7 (.mv (z 0))] [0,9,33,34,35,36,37]) .ret) .skip)) (.seq (.reg [o 38 (.load false 1 (.t 6)),o 39 (.mv (.t 9)),o 40 (.mv (.t 8)),o 41 (.cv .u8 (.t 40)),o 42 (.bin .or (.t 39) (.t 41)),o 43 (.buildS 1 1 [(.i .u8 (.l 0))] [(0,(.t 42))]),o 44 (.app 1 (.t 38) (.t 43)),u (.store 1 (.t 6) (.t 44))] [9,38,39,40,41,42,43,44]) (.seq (.seq (.reg [o 45 (.mv (.t 0)),o 46 (.mv (.t 8)),o 47 (.bin .sub (.t 45) (.t 46)),o 48 (.cv .u32 (.t 47)),o 49 (f 98 [(.t 48)])] [0,8,45,46,47,48]) (.block 0 (.rf (.t 49) [50] (.reg [o 10 (.mv (.t 50))] [50]) (.block 1 (.reg [o 51 (.load false 1 (.t 6)),o 52 (.mv (.t 10)),o 53 (.buildS 1 1 [(.i .u8 (.l 0))] [(0,(.t 52))]),o 54 (.app 1 (.t 51) (.t 53)),u (.store 1 (.t 6) (.t 54))] [6,10,51,52,53,54]))))) (.seq (.reg [o 55 (.load false 1 (.t 6)),u (.store 1 (.t 6) (.t 55)),o 7 (.mv (z 0))] [55]) .ret))))))))
theorem qxz : FnIs Tryz.prog 76 56 [.c 6 false 1, .t 7] prefix_Put :=
  ⟨Tryz.f76, _, qxn, Tryz.func76, rfl, rfl, by kernel_rfl, by kernel_rfl, Tryz.call76⟩
def qmq : Nat → List Nat := kk [[4],[0,1,5,6,7,8,9,10,11,12,13,14,15,16,17,18]]
def qtu : IR :=
 (.seq (.reg [o 4 (.mv (.c .ff))] [4]) (.seq (.reg [o 5 (.mv (.t 1)),o 6 (.bin .ge (.t 5) (z 1)),o 7 (.mv (.t 6)),q 8 (.mv (.t 1)) 7 true,q 9 (.bin .le (.t 8) (z 8)) 7 true,o 10 (.pick (.t 7) (.t 9) (.c .ff)),o 11 (.mv (.t 10)),q 12 (.mv (.t 0)) 11 true,q 13 (.bin .ge (.t 12) (z 0)) 11 true,o 14 (.pick (.t 11) (.t 13) (.c .ff)),o 15 (.mv (.t 14)),q 16 (.mv (.t 0)) 15 true,q 17 (.bin .lt (.t 16) (z 2147483648)) 15 true,o 18 (.pick (.t 15) (.t 17) (.c .ff)),o 4 (.mv (.t 18))] [0,1,5,6,7,8,9,10,11,12,13,14,15,16,17,18]) .ret))
theorem qnd : FnIs Tryz.prog 77 19 [.t 4] qtu :=
  ⟨Tryz.f77, _, qmq, Tryz.func77, rfl, rfl, by kernel_rfl, by kernel_rfl, Tryz.call77⟩
def qlb : Nat → List Nat := kk [[2],[0,3,4,5,6]]
def qqv : IR :=
 (.seq (.reg [o 2 (.mv (z 0))] [2]) (.seq (.reg [o 3 (.mv (.t 0)),o 4 (.cv .u64 (.t 3)),o 5 (.bin .shl (z 1) (.t 4)),o 6 (.bin .sub (.t 5) (z 1)),o 2 (.mv (.t 6))] [0,3,4,5,6]) .ret))
theorem qlo : FnIs Tryz.prog 78 7 [.t 2] qqv :=
  ⟨Tryz.f78, _, qlb, Tryz.func78, rfl, rfl, by kernel_rfl, by kernel_rfl, Tryz.call78⟩
def qum : Nat → List Nat := kk [[0],[1,2,3,4,5,6]]
def qny : Spl := (.node 3 6
  (.leaf [(1,[]),(2,[]),(4,[]),(5,[]),(0,[]),(3,[]),(6,[]),(7,[]),(8,[])])
  (.leaf [(1,[]),(2,[]),(4,[]),(5,[]),(0,[]),(6,[]),(3,[]),(7,[]),(8,[])]))
def qzabi : IR :=
 (.seq (.reg [o 0 (.mv (.c (.re (.map none))))] [0]) (.seq (.draw [o 1 .mkM,o 2 (.build [(.i .i64 (.l 0))] [(0,1,(z 1))]),o 3 (.build [(.i .i64 (.l 0)),(.i .i64 (.l 0))] [(0,1,(z 64)),(1,1,(z 6))]),u (.mupd ⟨true,[.ki]⟩ (.t 1) (.t 2) (.t 3)),o 4 (.build [(.i .i64 (.l 0))] [(0,1,(z 2))]),o 5 (.build [(.i .i64 (.l 0)),(.i .i64 (.l 0))] [(0,1,(z 16)),(1,1,(z 4))]),u (.mupd ⟨true,[.ki]⟩ (.t 1) (.t 4) (.t 5)),o 6 (.mv (.t 1)),o 0 (.mv (.t 6))] [[],[],[],[0,1,2],[],[],[0,4,5],[0,1,2,3,4,5,6],[7,0,1,2,3,4,5,6,7]] [1,2,3,4,5,6]) .ret))
theorem quv : FnIs Tryz.prog 79 7 [.t 0] qzabi :=
  ⟨Tryz.f79, _, qum, Tryz.func79, rfl, rfl, by kernel_rfl, by kernel_rfl, Tryz.call79⟩
def qxj : Nat → List Nat := kk [[0]]
def text_plain : IR :=
 (.seq (.reg [o 0 (.mv (.c (.re .nilFunc)))] [0]) (.seq (.reg [o 0 (.mv (.c (.fn (.func 99) [] [])))] []) .ret))
theorem qxv : FnIs Tryz.prog 80 1 [.t 0] text_plain :=
  ⟨Tryz.f80, _, qxj, Tryz.func80, rfl, rfl, by kernel_rfl, by kernel_rfl, Tryz.call80⟩
def qsp : Nat → List Nat := kk [[2],[0,3,4,5,6,7,8,9]]
def qzaak : IR :=
 (.seq (.reg [o 2 (.mv (.c .ff))] [2]) (.seq (.reg [o 3 (.mv (.t 0)),o 4 (f 100 [(.t 3)]),o 5 (.bin .add (.t 4) (z 7)),o 6 (.bin .shr (.t 5) (.c (.i .u64 (.l 3)))),o 7 (.mv (.t 0)),o 8 (.len false (.t 7)),o 9 (.bin .lt (.t 6) (.t 8)),o 2 (.mv (.t 9))] [0,3,4,5,6,7,8,9]) .ret))
theorem qtd : FnIs Tryz.prog 81 10 [.t 2] qzaak :=
  ⟨Tryz.f81, _, qsp, Tryz.func81, rfl, rfl, by kernel_rfl, by kernel_rfl, Tryz.call81⟩
def qup : Nat → List Nat := kk [[0]]
def qzabk : IR :=
 (.seq (.reg [o 0 (.mv (.c (.re .nilFunc)))] [0]) (.seq (.reg [o 0 (.mv (.c (.fn (.func 101) [] [])))] []) .ret))
theorem quw : FnIs Tryz.prog 82 1 [.t 0] qzabk :=
  ⟨Tryz.f82, _, qup, Tryz.func82, rfl, rfl, by kernel_rfl, by kernel_rfl, Tryz.call82⟩
def qzacf : Nat → List Nat := kk [[],[0,1,6,7],[9],[4,5,10,11,12],[13]]
def text_all : IR :=
 (.seq (.reg [o 4 (.alloc [(.re (.slice none 0 0))])] []) (.seq (.seq (.reg [o 6 (.mv (.t 0)),o 7 (.mv (.t 1)),o 8 (f 103 [(.t 6),(.t 7)])] [0,1,6,7]) (.block 0 (.rf (.t 8) [9] (.reg [o 5 (.mv (.t 9))] [9]) (.block 1 (.reg [o 10 (.load false 1 (.t 4)),o 11 (.mv (.t 5)),o 12 (.app 1 (.t 10) (.t 11)),u (.store 1 (.t 4) (.t 12))] [4,5,10,11,12]))))) (.seq (.reg [o 13 (.load false 1 (.t 4)),u (.store 1 (.t 4) (.t 13))] [13]) .ret)))
theorem qsy : FnIs Tryz.prog 83 14 [.c 4 false 1] text_all :=
  ⟨Tryz.f83, _, qzacf, Tryz.func83, rfl, rfl, by kernel_rfl, by kernel_rfl, Tryz.call83⟩
def qhc : Nat → List Nat := kk [[2],[0,3,4,5,6,7,8,9]]
def qlv : IR :=
 (.seq (.reg [o 2 (.mv (.c .ff))] [2]) (.seq (.reg [o 3 (.mv (.t 0)),o 4 (f 104 [(.t 3)]),o 5 (.bin .add (.t 4) (z 7)),o 6 (.bin .quo (.t 5) (z 8)),o 7 (.mv (.t 0)),o 8 (.len false (.t 7)),o 9 (.bin .lt (.t 6) (.t 8)),o 2 (.mv (.t 9))] [0,3,4,5,6,7,8,9]) .ret))
theorem qhf : FnIs Tryz.prog 84 10 [.t 2] qlv :=
  ⟨Tryz.f84, _, qhc, Tryz.func84, rfl, rfl, by kernel_rfl, by kernel_rfl, Tryz.call84⟩
def qkx : Nat → List Nat := kk [[2],[0,6,7,8],[5,9,10,11,12,13,14],[3,4,15,16,17]]
def qqr : IR :=
 (.seq (.reg [o 2 (.mv (.c (.re (.slice none 0 0))))] [2]) (.seq (.reg [o 6 (.mv (.t 0)),o 7 (.cvSB (.t 6)),o 8 (f 105 [(.t 7)]),o 3 (.mv (.t 8))] [0,6,7,8]) (.seq (.reg [o 10 (.mv (.t 3)),o 11 (.len false (.t 10)),o 12 (f 52 [(.t 11),(z 7),(.c (.i .u8 (.l 128)))]),o 9 (.mv (.t 12)),o 13 (.ext (.t 9) 0),o 14 (.ext (.t 9) 1),o 4 (.mv (.t 13)),o 5 (.mv (.t 14))] [5,9,10,11,12,13,14]) (.seq (.reg [o 15 (.mv (.t 4)),o 16 (.mv (.t 3)),o 17 (.app 1 (.t 15) (.t 16)),o 2 (.mv (.t 17))] [3,4,15,16,17]) .ret))))
theorem qlk : FnIs Tryz.prog 85 18 [.t 2] qqr :=
  ⟨Tryz.f85, _, qkx, Tryz.func85, rfl, rfl, by kernel_rfl, by kernel_rfl, Tryz.call85⟩
def qjk : Nat → List Nat := kk [[2],[4,5,6,7,8,9,10],[0,3,11,12,13]]
def qpk : IR :=
 (.seq (.reg [o 2 (.mv (.c (.re (.slice none 0 0))))] [2]) (.seq (.reg [o 6 (.mv (.t 0)),o 7 (.len true (.t 6)),o 8 (f 52 [(.t 7),(z 7),(.c (.i .u8 (.l 0)))]),o 5 (.mv (.t 8)),o 9 (.ext (.t 5) 0),o 10 (.ext (.t 5) 1),o 3 (.mv (.t 9)),o 4 (.mv (.t 10))] [4,5,6,7,8,9,10]) (.seq (.reg [o 11 (.mv (.t 3)),o 12 (.mv (.t 0)),o 13 (.app 1 (.t 11) (.t 12)),o 2 (.mv (.t 13))] [0,3,11,12,13]) .ret)))
theorem qjv : FnIs Tryz.prog 86 14 [.t 2] qpk :=
  ⟨Tryz.f86, _, qjk, Tryz.func86, rfl, rfl, by kernel_rfl, by kernel_rfl, Tryz.call86⟩
def qei : Nat → List Nat := kk [[4],[5],[7],[8,9,10,11,12,13,14],[15],[1,17,18,19,20,21,22,23,24,25],[0,26]]
def qfg : IR :=
 (.seq (.reg [o 4 (.mv (.c (.re (.slice none 0 0))))] [4]) (.seq (.seq (.reg [o 5 (.mv (.t 1)),o 6 (.bin .lt (.t 5) (z 0))] [5]) (.cond (.t 6) (.reg [o 7 .die,u .die] [7]) .skip)) (.seq (.seq (.reg [o 8 (.mv (.t 1)),o 9 (.mv (.t 0)),o 10 (.capS (.t 9)),o 11 (.mv (.t 0)),o 12 (.len false (.t 11)),o 13 (.bin .sub (.t 10) (.t 12)),o 14 (.bin .sub (.t 8) (.t 13)),o 1 (.mv (.t 14))] [8,9,10,11,12,13,14]) (.seq (.reg [o 15 (.mv (.t 1)),o 16 (.bin .gt (.t 15) (z 0))] [15]) (.cond (.t 16) (.reg [o 17 (.mv (.t 0)),o 18 (.mv (.t 0)),o 19 (.capS (.t 18)),o 20 (.slc 1 (.t 17) none (some (.t 19)) none),o 21 (.mv (.t 1)),o 22 (.appZ 1 [(.i .u8 (.l 0))] (.t 20) (.t 21)),o 23 (.mv (.t 0)),o 24 (.len false (.t 23)),o 25 (.slc 1 (.t 22) none (some (.t 24)) none),o 0 (.mv (.t 25))] [1,17,18,19,20,21,22,23,24,25]) .skip))) (.seq (.reg [o 26 (.mv (.t 0)),o 4 (.mv (.t 26))] [0,26]) .ret))))
theorem qej : FnIs Tryz.prog 87 27 [.t 4] qfg :=
  ⟨Tryz.f87, _, qei, Tryz.func87, rfl, rfl, by kernel_rfl, by kernel_rfl, Tryz.call87⟩
def qol : Nat → List Nat := kk [[0],[],[],[11],[12,13],[4,7,14,15,16,17,18,19],[2,3,5,6,20,21,22,23,24,25],[1],[],[31,32],[33,34],[9,35,36,37,38],[40]]
def qij : List Nat := [0,1,4,5,6,7,8,9,10,11,12,13,14,15,16,17,18,19,20,21,22,23,24,25,26,30,31,32,33,34,35,36,37,38,39,40]
def quf : IR :=
 (.seq (.reg [o 2 (.box (.t 0))] [0]) (.seq (.reg [o 3 (.alloc [(.i .i64 (.l 0))]),u (.store 1 (.t 3) (z 0))] []) (.seq (.seq (.reg [o 10 (f 89 [(.c (.s [58,109,101,116,104,111,100,32,71,69,84,10,58,109,101,116,104,111,100,32,80,79,83,84,10,58,112,97,116,104,32,47,10,58,115,99,104,101,109,101,32,104,116,116,112,10,58,115,99,104,101,109,101,32,104,116,116,112,115,10,58,115,116,97,116,117,115,32,50,48,48,10,58,115,116,97,116,117,115,32,50,48,52,10,58,115,116,97,116,117,115,32,52,48,52,10,58,115,116,97,116,117,115,32,53,48,48,10,97,99,99,101,112,116,10,99,111,110,116,101,110,116,45,108,101,110,103,116,104,10,99,111,110,116,101,110,116,45,116,121,112,101,10,99,111,111,107,105,101,10,100,97,116,101,10,104,111,115,116,10,108,111,99,97,116,105,111,110,10,112,114,105,111,114,105,116,121,10,112,114,105,111,114,105,116,121,32,117,61,49,10,115,101,114,118,101,114,10,117,115,101,114,45,97,103,101,110,116])),(.c (.s [10]))])] []) (.block 0 (.rf (.t 10) [11] (.reg [o 4 (.mv (.t 11))] [11]) (.block 1 (.seq (.reg [o 12 (.load false 1 (.t 3)),o 13 (.bin .add (.t 12) (z 1)),u (.store 1 (.t 3) (.t 13))] [12,13]) (.seq (.reg [o 15 (.mv (.t 4)),o 16 (f 90 [(.t 15),(.c (.s [32]))]),o 14 (.mv (.t 16)),o 17 (.ext (.t 14) 0),o 18 (.ext (.t 14) 1),o 19 (.ext (.t 14) 2),o 5 (.mv (.t 17)),o 6 (.mv (.t 18)),o 7 (.mv (.t 19))] [4,7,14,15,16,17,18,19]) (.seq (.reg [o 20 (.load false 1 (.t 2)),o 21 (.load false 1 (.t 3)),o 22 (.mv (.t 5)),o 23 (.mv (.t 6)),o 24 (.build [(.s []),(.s [])] [(0,1,(.t 22)),(1,1,(.t 23))]),o 25 (.call (.t 20) [(.t 21),(.t 24)]),o 26 (.not (.t 25))] [2,3,5,6,20,21,22,23,24,25]) (.cond (.t 26) .ret .skip)))))))) (.seq (.reg [o 27 (.load false 1 (.t 1)),o 28 (.len false (.t 27)),o 29 (.mv (z 0))] [1]) (.block 2 (.loop (.seq (.reg [o 30 (.bin .lt (.t 29) (.t 28))] []) (.seq (.cond (.t 30) .skip (.exit 2)) (.seq (.block 3 (.seq (.reg [o 31 (.iadS 2 (.t 27) (.t 29)),o 32 (.load true 2 (.t 31)),o 9 (.alloc [(.s []),(.s [])]),u (.store 2 (.t 9) (.t 32))] [31,32]) (.seq (.reg [o 33 (.load false 1 (.t 3)),o 34 (.bin .add (.t 33) (z 1)),u (.store 1 (.t 3) (.t 34))] [33,34]) (.seq (.reg [o 35 (.load false 1 (.t 2)),o 36 (.load false 1 (.t 3)),o 37 (.load true 2 (.t 9)),o 38 (.call (.t 35) [(.t 36),(.t 37)]),o 39 (.not (.t 38))] [9,35,36,37,38]) (.cond (.t 39) .ret .skip))))) (.reg [o 40 (.bin .add (.t 29) (z 1)),o 29 (.mv (.t 40))] [40]))))))))))
theorem qoq : FnIs Tryz.prog 88 41 [] quf :=
  ⟨Tryz.f88, _, qol, Tryz.func88, rfl, rfl, by kernel_rfl, by kernel_rfl, Tryz.call88⟩
def qkr : Nat → List Nat := kk [[4],[0,1,5,6,7]]
def qqb : IR :=
 (.seq (.reg [o 4 (.mv (.c (.re .nilFunc)))] [4]) (.seq (.reg [o 5 (.mv (.t 0)),o 6 (.mv (.t 1)),o 7 (f 106 [(.t 5),(.t 6),(z 0)]),o 4 (.mv (.t 7))] [0,1,5,6,7]) .ret))
theorem qle : FnIs Tryz.prog 89 8 [.t 4] qqb :=
  ⟨Tryz.f89, _, qkr, Tryz.func89, rfl, rfl, by kernel_rfl, by kernel_rfl, Tryz.call89⟩
def qus : Nat → List Nat := kk [[4,5,6],[0,1,7,8,9,10,11,12]]
def qzabp : IR :=
 (.seq (.reg [o 4 (.mv (.c (.s []))),o 5 (.mv (.c (.s []))),o 6 (.mv (.c .ff))] [4,5,6]) (.seq (.reg [o 7 (.mv (.t 0)),o 8 (.mv (.t 1)),o 9 (f 107 [(.t 7),(.t 8)]),o 10 (.ext (.t 9) 0),o 11 (.ext (.t 9) 1),o 12 (.ext (.t 9) 2),o 4 (.mv (.t 10)),o 5 (.mv (.t 11)),o 6 (.mv (.t 12))] [0,1,7,8,9,10,11,12]) .ret))
theorem quz : FnIs Tryz.prog 90 13 [.t 4, .t 5, .t 6] qzabp :=
  ⟨Tryz.f90, _, qus, Tryz.func90, rfl, rfl, by kernel_rfl, by kernel_rfl, Tryz.call90⟩
def qhw : Nat → List Nat := kk [[3],[5,6,7,8,9,10,11,12,13,14,15,16,17,18,19,20,21,22,23,24,25],[26,27,28,29,30],[32],[0,4,33,34,35,36]]
def qnn : IR :=
 (.seq (.reg [o 2 (.alloc [(.s []),(.s [])]),o 3 (.mv (.c .ff))] [3]) (.seq (.reg [o 5 (.build [(.s []),(.s [])] [(0,1,(.c (.s [58,109,101,116,104,111,100]))),(1,1,(.c (.s [71,69,84])))]),o 6 (.build [(.s []),(.s [])] [(0,1,(.c (.s [58,109,101,116,104,111,100]))),(1,1,(.c (.s [80,79,83,84])))]),o 7 (.build [(.s []),(.s [])] [(0,1,(.c (.s [58,112,97,116,104]))),(1,1,(.c (.s [47])))]),o 8 (.build [(.s []),(.s [])] [(0,1,(.c (.s [58,115,99,104,101,109,101]))),(1,1,(.c (.s [104,116,116,112])))]),o 9 (.build [(.s []),(.s [])] [(0,1,(.c (.s [58,115,99,104,101,109,101]))),(1,1,(.c (.s [104,116,116,112,115])))]),o 10 (.build [(.s []),(.s [])] [(0,1,(.c (.s [58,115,116,97,116,117,115]))),(1,1,(.c (.s [50,48,48])))]),o 11 (.build [(.s []),(.s [])] [(0,1,(.c (.s [58,115,116,97,116,117,115]))),(1,1,(.c (.s [50,48,52])))]),o 12 (.build [(.s []),(.s [])] [(0,1,(.c (.s [58,115,116,97,116,117,115]))),(1,1,(.c (.s [52,48,52])))]),o 13 (.build [(.s []),(.s [])] [(0,1,(.c (.s [58,115,116,97,116,117,115]))),(1,1,(.c (.s [53,48,48])))]),o 14 (.build [(.s []),(.s [])] [(0,1,(.c (.s [97,99,99,101,112,116])))]),o 15 (.build [(.s []),(.s [])] [(0,1,(.c (.s [99,111,110,116,101,110,116,45,108,101,110,103,116,104])))]),o 16 (.build [(.s []),(.s [])] [(0,1,(.c (.s [99,111,110,116,101,110,116,45,116,121,112,101])))]),o 17 (.build [(.s []),(.s [])] [(0,1,(.c (.s [99,111,111,107,105,101])))]),o 18 (.build [(.s []),(.s [])] [(0,1,(.c (.s [100,97,116,101])))]),o 19 (.build [(.s []),(.s [])] [(0,1,(.c (.s [104,111,115,116])))]),o 20 (.build [(.s []),(.s [])] [(0,1,(.c (.s [108,111,99,97,116,105,111,110])))]),o 21 (.build [(.s []),(.s [])] [(0,1,(.c (.s [112,114,105,111,114,105,116,121])))]),o 22 (.build [(.s []),(.s [])] [(0,1,(.c (.s [112,114,105,111,114,105,116,121]))),(1,1,(.c (.s [117,61,49])))]),o 23 (.build [(.s []),(.s [])] [(0,1,(.c (.s [115,101,114,118,101,114])))]),o 24 (.build [(.s []),(.s [])] [(0,1,(.c (.s [117,115,101,114,45,97,103,101,110,116])))]),o 25 (.build [(.s []),(.s []),(.s []),(.s []),(.s []),(.s []),(.s []),(.s []),(.s []),(.s []),(.s []),(.s []),(.s []),(.s []),(.s []),(.s []),(.s []),(.s []),(.s []),(.s []),(.s []),(.s []),(.s []),(.s []),(.s []),(.s []),(.s []),(.s []),(.s []),(.s []),(.s []),(.s []),(.s []),(.s []),(.s []),(.s []),(.s []),(.s []),(.s []),(.s [])] [(0,2,(.t 5)),(2,2,(.t 6)),(4,2,(.t 7)),(6,2,(.t 8)),(8,2,(.t 9)),(10,2,(.t 10)),(12,2,(.t 11)),(14,2,(.t 12)),(16,2,(.t 13)),(18,2,(.t 14)),(20,2,(.t 15)),(22,2,(.t 16)),(24,2,(.t 17)),(26,2,(.t 18)),(28,2,(.t 19)),(30,2,(.t 20)),(32,2,(.t 21)),(34,2,(.t 22)),(36,2,(.t 23)),(38,2,(.t 24))]),o 4 (.alloc [(.s []),(.s []),(.s []),(.s []),(.s []),(.s []),(.s []),(.s []),(.s []),(.s []),(.s []),(.s []),(.s []),(.s []),(.s []),(.s []),(.s []),(.s []),(.s []),(.s []),(.s []),(.s []),(.s []),(.s []),(.s []),(.s []),(.s []),(.s []),(.s []),(.s []),(.s []),(.s []),(.s []),(.s []),(.s []),(.s []),(.s []),(.s []),(.s []),(.s [])]),u (.store 40 (.t 4) (.t 25))]
 [5,6,7,8,9,10,11,12,13,14,15,16,17,18,19,20,21,22,23,24,25]) (.seq (.seq (.reg [o 26 (.mv (.t 0)),o 27 (.bin .lt (.t 26) (z 1)),o 28 (.mv (.t 27)),q 29 (.mv (.t 0)) 28 false,q 30 (.bin .gt (.t 29) (z 20)) 28 false,o 31 (.pick (.t 28) (.c .tt) (.t 30))] [26,27,28,29,30]) (.cond (.t 31) (.seq (.reg [o 32 (.build [(.s []),(.s [])] []),u (.store 2 (.t 2) (.t 32)),o 3 (.mv (.c .ff))] [32]) .ret) .skip)) (.seq (.reg [o 33 (.mv (.t 0)),o 34 (.bin .sub (.t 33) (z 1)),o 35 (.iadA 20 2 (.t 4) (.t 34)),o 36 (.load true 2 (.t 35)),u (.store 2 (.t 2) (.t 36)),o 3 (.mv (.c .tt))] [0,4,33,34,35,36]) .ret))))
theorem qid : FnIs Tryz.prog 91 37 [.c 2 true 2, .t 3] qnn :=
  ⟨Tryz.f91, _, qhw, Tryz.func91, rfl, rfl, by kernel_rfl, by kernel_rfl, Tryz.call91⟩
def qsm : Nat → List Nat := kk [[2],[0,3,4,5,6,7,8]]
def qzv : IR :=
 (.seq (.reg [o 2 (.mv (.c .ff))] [2]) (.seq (.reg [o 3 (.mv (.t 0)),o 4 (.bin .gt (.t 3) (z 0)),o 5 (.mv (.t 4)),q 6 (.mv (.t 0)) 5 true,q 7 (.bin .le (.t 6) (z 8)) 5 true,o 8 (.pick (.t 5) (.t 7) (.c .ff)),o 2 (.mv (.t 8))] [0,3,4,5,6,7,8]) .ret))
theorem qtb : FnIs Tryz.prog 97 9 [.t 2] qzv :=
  ⟨Tryz.f97, _, qsm, Tryz.func97, rfl, rfl, by kernel_rfl, by kernel_rfl, Tryz.call97⟩
def qom : Nat → List Nat := kk [[0,2],[1,3]]
def qui : IR :=
 (.seq (.reg [o 1 (.box (.t 0)),o 2 (.mv (.c (.re .nilFunc)))] [0,2]) (.seq (.reg [o 3 (.mkF (.func 111) [] [(.t 1)]),o 2 (.mv (.t 3))] [1,3]) .ret))
theorem qor : FnIs Tryz.prog 98 4 [.t 2] qui :=
  ⟨Tryz.f98, _, qom, Tryz.func98, rfl, rfl, by kernel_rfl, by kernel_rfl, Tryz.call98⟩
def qsj : Nat → List Nat := kk [[2,3],[0,4,5]]
def qzg : IR :=
 (.seq (.reg [o 2 (.mv (.c (.i .u8 (.l 0)))),o 3 (.mv (.c (.re (.slice none 0 0))))] [2,3]) (.seq (.reg [o 4 (.mv (.t 0)),o 5 (.cvSB (.t 4)),o 2 (.mv (.c (.i .u8 (.l 0)))),o 3 (.mv (.t 5))] [0,4,5]) .ret))
theorem qsx : FnIs Tryz.prog 99 6 [.t 2, .t 3] qzg :=
  ⟨Tryz.f99, _, qsj, Tryz.func99, rfl, rfl, by kernel_rfl, by kernel_rfl, Tryz.call99⟩
def qzaah : Nat → List Nat := kk [[],[6],[0],[],[11,12],[5,13,14,15,16,17,18],[19],[20]]
def qqm : List Nat := [0,1,4,5,6,10,11,12,13,14,15,16,17,18,19,20]
def qzaal : IR :=
 (.seq (.reg [o 2 (.mv (z 0))] []) (.seq (.reg [o 6 (f 112 []),o 3 (.alloc (repS 512 [(.i .i64 (.l 0))])),u (.store 512 (.t 3) (.t 6))] [6]) (.seq (.seq (.reg [o 7 (.mv (.t 0)),o 8 (.len false (.t 7)),o 9 (.mv (z 0))] [0]) (.block 0 (.loop (.seq (.reg [o 10 (.bin .lt (.t 9) (.t 8))] []) (.seq (.cond (.t 10) .skip (.exit 0)) (.seq (.block 1 (.seq (.reg [o 11 (.iadS 1 (.t 7) (.t 9)),o 12 (.load false 1 (.t 11)),o 5 (.mv (.t 12))] [11,12]) (.reg [o 13 (.mv (.t 2)),o 14 (.mv (.t 5)),o 15 (.iadA 256 2 (.t 3) (.t 14)),o 16 (.iadA 2 1 (.t 15) (z 1)),o 17 (.load false 1 (.t 16)),o 18 (.bin .add (.t 13) (.t 17)),o 2 (.mv (.t 18))] [5,13,14,15,16,17,18]))) (.reg [o 19 (.bin .add (.t 9) (z 1)),o 9 (.mv (.t 19))] [19]))))))) (.seq (.reg [o 20 (.mv (.t 2)),o 2 (.mv (.t 20))] [20]) .ret))))
theorem qzaau : FnIs Tryz.prog 100 21 [.t 2] qzaal :=
  ⟨Tryz.f100, _, qzaah, Tryz.func100, rfl, rfl, by kernel_rfl, by kernel_rfl, Tryz.call100⟩
def qqg : Nat → List Nat := kk [[2,3],[0,4,5,6]]
def qwl : IR :=
 (.seq (.reg [o 2 (.mv (.c (.i .u8 (.l 0)))),o 3 (.mv (.c (.re (.slice none 0 0))))] [2,3]) (.seq (.reg [o 4 (.mv (.t 0)),o 5 (.cvSB (.t 4)),o 6 (f 102 [(.t 5)]),o 2 (.mv (.c (.i .u8 (.l 128)))),o 3 (.mv (.t 6))] [0,4,5,6]) .ret))
theorem qqj : FnIs Tryz.prog 101 7 [.t 2, .t 3] qwl :=
  ⟨Tryz.f101, _, qqg, Tryz.func101, rfl, rfl, by kernel_rfl, by kernel_rfl, Tryz.call101⟩
def qzacg : Nat → List Nat := kk [[],[],[],[9],[0],[],[14,15],[7,16,17,18,19,20,21,22,23,24,25,26,27,28,29,30,31,32,33],[34],[36,37],[38,39,40,41,42,43,44],[45,46,47,48,49],[50],[51,52],[4,53],[3,8,55,56,57,58,59,60,61,62,63,64,65],[66]]
def qtn : List Nat := [0,1,6,7,8,9,13,14,15,16,17,18,19,20,21,22,23,24,25,26,27,28,29,30,31,32,33,34,35,36,37,38,39,40,41,42,43,44,45,46,47,48,49,50,51,52,53,54,55,56,57,58,59,60,61,62,63,64,65,66]
def qtm : List Nat := [0,1,6,7,8,9,13,14,15,16,17,18,19,20,21,22,23,24,25,26,27,28,29,30,31,32,33,34,35,36,37,38,39,40,41,42,43,44,45,46,47,48,49,50,51,52,53,54,55,56,57,58,59,60,61,62,63,64,65,66]
def quk : List (Nat × List Nat) := [(0,[]),(1,[]),(2,[]),(3,[]),(4,[]),(5,[]),(6,[]),(7,[]),(8,[]),(9,[]),(10,[]),(11,[]),(12,[]),(13,[]),(14,[]),(15,[]),(16,[]),(17,[]),(18,[14,15,16]),(19,[])]
def quj : List (Nat × List Nat) := [(0,[]),(1,[]),(2,[]),(3,[]),(4,[]),(5,[]),(6,[]),(7,[]),(8,[]),(9,[]),(10,[]),(11,[])]
def huff_Put : IR :=
 (.seq (.reg [o 2 (.mv (.c (.re (.slice none 0 0))))] []) (.seq (.reg [o 3 (.mv (.c (.i .u64 (.l 0))))] []) (.seq (.reg [o 4 (.mv (z 0))] []) (.seq (.reg [o 9 (f 112 []),o 5 (.alloc (repS 512 [(.i .i64 (.l 0))])),u (.store 512 (.t 5) (.t 9))] [9]) (.seq (.seq (.reg [o 10 (.mv (.t 0)),o 11 (.len false (.t 10)),o 12 (.mv (z 0))] [0]) (.block 0 (.loop (.seq (.reg [o 13 (.bin .lt (.t 12) (.t 11))] []) (.seq (.cond (.t 13) .skip (.exit 0)) (.seq (.block 1 (.seq (.reg [o 14 (.iadS 1 (.t 10) (.t 12)),o 15 (.load false 1 (.t 14)),o 7 (.mv (.t 15))] [14,15]) (.seq (.draw [o 16 (.mv (.t 3)),o 17 (.mv (.t 7)),o 18 (.iadA 256 2 (.t 5) (.t 17)),o 19 (.iadA 2 1 (.t 18) (z 1)),o 20 (.load false 1 (.t 19)),o 21 (.bin .shl (.t 16) (.t 20)),o 22 (.mv (.t 7)),o 23 (.iadA 256 2 (.t 5) (.t 22)),o 24 (.iadA 2 1 (.t 23) (z 0)),o 25 (.load false 1 (.t 24)),o 26 (.cv .u64 (.t 25)),o 27 (.bin .or (.t 21) (.t 26)),o 28 (.mv (.t 4)),o 29 (.mv (.t 7)),o 30 (.iadA 256 2 (.t 5) (.t 29)),o 31 (.iadA 2 1 (.t 30) (z 1)),o 32 (.load false 1 (.t 31)),o 33 (.bin .add (.t 28) (.t 32)),o 3 (.mv (.t 27)),o 4 (.mv (.t 33))] [[],[],[1],[2],[3],[0,4],[],[6],[7],[8],[9],[5,10],[],[],[13],[14],[15],[12,16],[11,0,1,2,3,4,5,6,7,8,9,10,11],[17,18,0,1,2,3,4,5,6,7,8,9,10,11,12,13,14,15,16,17,18]] [7,16,17,18,19,20,21,22,23,24,25,26,27,28,29,30,31,32,33]) (.seq (.block 2 (.loop (.seq (.seq (.reg [o 34 (.mv (.t 4)),o 35 (.bin .ge (.t 34) (z 8))] [34]) (.cond (.t 35) .skip (.exit 2))) (.block 3 (.seq (.reg [o 36 (.mv (.t 4)),o 37 (.bin .sub (.t 36) (z 8)),o 4 (.mv (.t 37))] [36,37]) (.reg [o 38 (.mv (.t 2)),o 39 (.mv (.t 3)),o 40 (.mv (.t 4)),o 41 (.bin .shr (.t 39) (.t 40)),o 42 (.cv .u8 (.t 41)),o 43 (.buildS 1 1 [(.i .u8 (.l 0))] [(0,(.t 42))]),o 44 (.app 1 (.t 38) (.t 43)),o 2 (.mv (.t 44))] [38,39,40,41,42,43,44])))))) (.reg [o 45 (.mv (.t 3)),o 46 (.mv (.t 4)),o 47 (.bin .shl (.c (.i .u64 (.l 1))) (.t 46)),o 48 (.bin .sub (.t 47) (.c (.i .u64 (.l 1)))),o 49 (.bin .and (.t 45) (.t 48)),o 3 (.mv (.t 49))] [45,46,47,48,49]))))) (.reg [o 50 (.bin .add (.t 12) (z 1)),o 12 (.mv (.t 50))] [50]))))))) (.seq (.seq (.reg [o 51 (.mv (.t 4)),o 52 (.bin .sub (z 8) (.t 51)),o 8 (.mv (.t 52))] [51,52]) (.seq (.reg [o 53 (.mv (.t 4)),o 54 (.bin .gt (.t 53) (z 0))] [4,53]) (.cond (.t 54) (.draw [o 55 (.mv (.t 2)),o 56 (.mv (.t 3)),o 57 (.mv (.t 8)),o 58 (.bin .shl (.t 56) (.t 57)),o 59 (.mv (.t 8)),o 60 (.bin .shl (.c (.i .u64 (.l 1))) (.t 59)),o 61 (.bin .sub (.t 60) (.c (.i .u64 (.l 1)))),o 62 (.bin .or (.t 58) (.t 61)),o 63 (.cv .u8 (.t 62)),o 64 (.buildS 1 1 [(.i .u8 (.l 0))] [(0,(.t 63))]),o 65 (.app 1 (.t 55) (.t 64)),o 2 (.mv (.t 65))] [[],[],[],[1,2],[],[4],[5],[3,6],[7],[8],[0,9],[10,10,0,1,2,3,4,5,6,7,8,9,10]] [3,8,55,56,57,58,59,60,61,62,63,64,65]) .skip))) (.seq (.reg [o 66 (.mv (.t 2)),o 2 (.mv (.t 66))] [66]) .ret)))))))
theorem qzacj : FnIs Tryz.prog 102 67 [.t 2] huff_Put :=
  ⟨Tryz.f102, _, qzacg, Tryz.func102, rfl, rfl, by kernel_rfl, by kernel_rfl, Tryz.call102⟩
def qzaad : Nat → List Nat := kk [[0,1,4],[2,3,5]]
def text_told : IR :=
 (.seq (.reg [o 2 (.box (.t 0)),o 3 (.box (.t 1)),o 4 (.mv (.c (.re .nilFunc)))] [0,1,4]) (.seq (.reg [o 5 (.mkF (.func 113) [] [(.t 3),(.t 2)]),o 4 (.mv (.t 5))] [2,3,5]) .ret))
theorem qpv : FnIs Tryz.prog 103 6 [.t 4] text_told :=
  ⟨Tryz.f103, _, qzaad, Tryz.func103, rfl, rfl, by kernel_rfl, by kernel_rfl, Tryz.call103⟩
def qla : Nat → List Nat := kk [[2],[],[],[7,8,9],[11,12],[5,13,14,15,16,17,18,19,20],[6,21,22,23],[3,24]]
def qgu : List Nat := [1,2,5,6,7,8,9,10,11,12,13,14,15,16,17,18,19,20,21,22,23,24]
def qqu : IR :=
 (.seq (.reg [o 2 (.mv (z 0))] [2]) (.seq (.reg [o 3 (.mv (z 0))] []) (.seq (.seq (.reg [o 4 (.mv (z 0))] []) (.block 0 (.loop (.seq (.seq (.reg [o 7 (.mv (.t 4)),o 8 (.mv (.t 0)),o 9 (.len false (.t 8)),o 10 (.bin .lt (.t 7) (.t 9))] [7,8,9]) (.cond (.t 10) .skip (.exit 0))) (.seq (.block 1 (.seq (.reg [o 14 (.mv (.t 0)),o 15 (.mv (.t 4)),o 16 (.iadS 1 (.t 14) (.t 15)),o 17 (.load false 1 (.t 16)),o 18 (f 114 [(.t 17)]),o 13 (.mv (.t 18)),o 19 (.ext (.t 13) 0),o 20 (.ext (.t 13) 1),o 5 (.mv (.t 19)),o 6 (.mv (.t 20))] [5,13,14,15,16,17,18,19,20]) (.reg [o 21 (.mv (.t 3)),o 22 (.mv (.t 6)),o 23 (.bin .add (.t 21) (.t 22)),o 3 (.mv (.t 23))] [6,21,22,23]))) (.reg [o 11 (.mv (.t 4)),o 12 (.bin .add (.t 11) (z 1)),o 4 (.mv (.t 12))] [11,12])))))) (.seq (.reg [o 24 (.mv (.t 3)),o 2 (.mv (.t 24))] [3,24]) .ret))))
theorem qln : FnIs Tryz.prog 104 25 [.t 2] qqu :=
  ⟨Tryz.f104, _, qla, Tryz.func104, rfl, rfl, by kernel_rfl, by kernel_rfl, Tryz.call104⟩
def qmp : Nat → List Nat := kk [[2],[],[],[],[9,10,11],[13,14],[15,16,17,18,19,20,21,22],[6,7,23,24,25,26,27,28,29,30,31],[32,33,34,35,36],[4,8,37,38,39,40,41,42,43,44,45,46,47,48],[3,49]]
def qhg : List Nat := [1,2,6,7,8,9,10,11,12,13,14,15,16,17,18,19,20,21,22,23,24,25,26,27,28,29,30,31,32,33,34,35,36,37,38,39,40,41,42,43,44,45,46,47,48,49]
def qtt : IR :=
 (.seq (.reg [o 2 (.mv (.c (.re (.slice none 0 0))))] [2]) (.seq (.reg [o 3 (.mv (.c (.re (.slice none 0 0))))] []) (.seq (.reg [o 4 (.mv (z 0))] []) (.seq (.seq (.reg [o 5 (.mv (z 0))] []) (.block 0 (.loop (.seq (.seq (.reg [o 9 (.mv (.t 5)),o 10 (.mv (.t 0)),o 11 (.len false (.t 10)),o 12 (.bin .lt (.t 9) (.t 11))] [9,10,11]) (.cond (.t 12) .skip (.exit 0))) (.seq (.block 1 (.seq (.reg [o 16 (.mv (.t 0)),o 17 (.mv (.t 5)),o 18 (.iadS 1 (.t 16) (.t 17)),o 19 (.load false 1 (.t 18)),o 20 (f 114 [(.t 19)]),o 15 (.mv (.t 20)),o 21 (.ext (.t 15) 0),o 22 (.ext (.t 15) 1),o 6 (.mv (.t 21)),o 7 (.mv (.t 22))] [15,16,17,18,19,20,21,22]) (.reg [o 24 (.mv (.t 3)),o 25 (.mv (.t 4)),o 26 (.mv (.t 6)),o 27 (.mv (.t 7)),o 28 (f 115 [(.t 24),(.t 25),(.t 26),(.t 27)]),o 23 (.mv (.t 28)),o 29 (.ext (.t 23) 0),o 30 (.ext (.t 23) 1),o 31 (.ext (.t 23) 2),o 3 (.mv (.t 29)),o 4 (.mv (.t 30))] [6,7,23,24,25,26,27,28,29,30,31]))) (.reg [o 13 (.mv (.t 5)),o 14 (.bin .add (.t 13) (z 1)),o 5 (.mv (.t 14))] [13,14])))))) (.seq (.reg [o 32 (.mv (.t 3)),o 33 (.len false (.t 32)),o 34 (.bin .mul (z 8) (.t 33)),o 35 (.mv (.t 4)),o 36 (.bin .sub (.t 34) (.t 35)),o 8 (.mv (.t 36))] [32,33,34,35,36]) (.seq (.reg [o 38 (.mv (.t 3)),o 39 (.mv (.t 4)),o 40 (.mv (.t 8)),o 41 (.cv .u64 (.t 40)),o 42 (.bin .shl (z 1) (.t 41)),o 43 (.bin .sub (.t 42) (z 1)),o 44 (.mv (.t 8)),o 45 (f 115 [(.t 38),(.t 39),(.t 43),(.t 44)]),o 37 (.mv (.t 45)),o 46 (.ext (.t 37) 0),o 47 (.ext (.t 37) 1),o 48 (.ext (.t 37) 2),o 3 (.mv (.t 46))] [4,8,37,38,39,40,41,42,43,44,45,46,47,48]) (.seq (.reg [o 49 (.mv (.t 3)),o 2 (.mv (.t 49))] [3,49]) .ret)))))))
theorem qnc : FnIs Tryz.prog 105 50 [.t 2] qtt :=
  ⟨Tryz.f105, _, qmp, Tryz.func105, rfl, rfl, by kernel_rfl, by kernel_rfl, Tryz.call105⟩
def qkq : Nat → List Nat := kk [[0,1,2,6],[3,4,5,7]]
def qqa : IR :=
 (.seq (.reg [o 3 (.box (.t 0)),o 4 (.box (.t 1)),o 5 (.box (.t 2)),o 6 (.mv (.c (.re .nilFunc)))] [0,1,2,6]) (.seq (.reg [o 7 (.mkF (.func 116) [] [(.t 4),(.t 3),(.t 5)]),o 6 (.mv (.t 7))] [3,4,5,7]) .ret))
theorem qld : FnIs Tryz.prog 106 8 [.t 6] qqa :=
  ⟨Tryz.f106, _, qkq, Tryz.func106, rfl, rfl, by kernel_rfl, by kernel_rfl, Tryz.call106⟩
def qmm : Nat → List Nat := kk [[4,5,6],[8,9,10],[11],[0,1,7,13,14,15,16,17,18,19,20,21],[0,22]]
def qhs : List (Nat × List Nat) := [(0,[]),(1,[]),(2,[]),(3,[]),(4,[]),(5,[]),(6,[]),(7,[]),(8,[]),(9,[]),(10,[]),(11,[])]
def qro : IR :=
 (.seq (.reg [o 4 (.mv (.c (.s []))),o 5 (.mv (.c (.s []))),o 6 (.mv (.c .ff))] [4,5,6]) (.seq (.seq (.reg [o 8 (.mv (.t 0)),o 9 (.mv (.t 1)),o 10 (f 119 [(.t 8),(.t 9)]),o 7 (.mv (.t 10))] [8,9,10]) (.seq (.reg [o 11 (.mv (.t 7)),o 12 (.bin .ge (.t 11) (z 0))] [11]) (.cond (.t 12) (.seq (.draw [o 13 (.mv (.t 0)),o 14 (.mv (.t 7)),o 15 (.slcS (.t 13) none (some (.t 14))),o 16 (.mv (.t 0)),o 17 (.mv (.t 7)),o 18 (.mv (.t 1)),o 19 (.len true (.t 18)),o 20 (.bin .add (.t 17) (.t 19)),o 21 (.slcS (.t 16) (some (.t 20)) none),o 4 (.mv (.t 15)),o 5 (.mv (.t 21)),o 6 (.mv (.c .tt))] [[],[],[0,1],[],[],[],[5],[4,6],[3,7],[2,0,1,2],[8,9,0,1,2,3,4,5,6,7,8,9],[10,0,1,2,3,4,5,6,7,8,9,10]] [0,1,7,13,14,15,16,17,18,19,20,21]) .ret) .skip))) (.seq (.reg [o 22 (.mv (.t 0)),o 4 (.mv (.t 22)),o 5 (.mv (.c (.s []))),o 6 (.mv (.c .ff))] [0,22]) .ret)))
theorem qmw : FnIs Tryz.prog 107 23 [.t 4, .t 5, .t 6] qro :=
  ⟨Tryz.f107, _, qmm, Tryz.func107, rfl, rfl, by kernel_rfl, by kernel_rfl, Tryz.call107⟩
def qks : Nat → List Nat := kk [[3,4],[6,7,8,9,10],[12,13],[0,1,14,15,16,17]]
def qgr : List Nat := [2,3,4,5,6,7,8,9,10,11,12,13,14,15,16,17]
def qqc : IR :=
 (.seq (.block 0 (.loop (.seq (.seq (.reg [o 3 (.load false 1 (.t 1)),o 4 (.bin .shr (.t 3) (.c (.i .u64 (.l 7)))),o 5 (.bin .ne (.t 4) (.c (.i .u32 (.l 0))))] [3,4]) (.cond (.t 5) .skip (.exit 0))) (.block 1 (.seq (.seq (.reg [o 6 (.mv (.t 0)),o 7 (.load false 1 (.t 1)),o 8 (.cv .u8 (.t 7)),o 9 (.bin .or (.t 8) (.c (.i .u8 (.l 128)))),o 10 (.call (.t 6) [(.t 9)]),o 11 (.not (.t 10))] [6,7,8,9,10]) (.cond (.t 11) .ret .skip)) (.reg [o 12 (.load false 1 (.t 1)),o 13 (.bin .shr (.t 12) (.c (.i .u64 (.l 7)))),u (.store 1 (.t 1) (.t 13))] [12,13])))))) (.reg [o 14 (.mv (.t 0)),o 15 (.load false 1 (.t 1)),o 16 (.cv .u8 (.t 15)),o 17 (.call (.t 14) [(.t 16)])] [0,1,14,15,16,17]))
theorem qlf : FnIs Tryz.prog 111 18 [] qqc :=
  ⟨Tryz.f111, _, qks, Tryz.func111, rfl, rfl, by kernel_rfl, by kernel_rfl, Tryz.call111⟩
def qxr : Nat → List Nat := kk [[],[],[4],[5],[0,1,2,6,7,8],[9]]
def qvw : IR :=
 (.seq (.reg [o 0 (.alloc (repS 512 [(.i .i64 (.l 0))]))] []) (.seq (.seq (.reg [o 3 (f 123 [])] []) (.block 0 (.rf (.t 3) [4,5] (.seq (.reg [o 1 (.mv (.t 4))] [4]) (.reg [o 2 (.alloc [(.i .i64 (.l 0)),(.i .i64 (.l 0))]),u (.store 2 (.t 2) (.t 5))] [5])) (.block 1 (.reg [o 6 (.mv (.t 1)),o 7 (.load true 2 (.t 2)),o 8 (.iadA 256 2 (.t 0) (.t 6)),u (.store 2 (.t 8) (.t 7))] [0,1,2,6,7,8]))))) (.seq (.reg [o 9 (.load true 512 (.t 0)),u (.store 512 (.t 0) (.t 9))] [9]) .ret)))
theorem qya : FnIs Tryz.prog 112 10 [.c 0 true 512] qvw :=
  ⟨Tryz.f112, _, qxr, Tryz.func112, rfl, rfl, by kernel_rfl, by kernel_rfl, Tryz.call112⟩
def qun : Nat → List Nat := kk [[1,2,8,9,10,11,12,13],[4,14,15,16,17,18,19,20],[6,7,21,22,23,24,25,26],[0,5,28,29,30]]
def qzabj : IR :=
 (.seq (.reg [o 9 (.load false 1 (.t 1)),o 10 (.load false 1 (.t 2)),o 11 (.call (.t 9) [(.t 10)]),o 8 (.mv (.t 11)),o 12 (.ext (.t 8) 0),o 13 (.ext (.t 8) 1),o 4 (.mv (.t 12)),o 5 (.mv (.t 13))] [1,2,8,9,10,11,12,13]) (.seq (.reg [o 15 (.mv (.t 5)),o 16 (.len false (.t 15)),o 17 (.mv (.t 4)),o 18 (f 76 [(.t 16),(z 7),(.t 17)]),o 14 (.mv (.t 18)),o 19 (.ext (.t 14) 0),o 20 (.ext (.t 14) 1),o 6 (.mv (.t 19)),o 7 (.mv (.t 20))] [4,14,15,16,17,18,19,20]) (.seq (.reg [o 21 (.mv (.t 7)),o 22 (.bin .eq (.t 21) (z 0)),o 23 (.mv (.t 22)),q 24 (.mv (.t 0)) 23 true,q 25 (.mv (.t 6)) 23 true,q 26 (.call (.t 24) [(.t 25)]) 23 true,o 27 (.pick (.t 23) (.t 26) (.c .ff))] [6,7,21,22,23,24,25,26]) (.cond (.t 27) (.reg [o 28 (.mv (.t 0)),o 29 (.mv (.t 5)),o 30 (.call (.t 28) [(.t 29)])] [0,5,28,29,30]) .skip))))
theorem qkh : FnIs Tryz.prog 113 31 [] qzabj :=
  ⟨Tryz.f113, _, qun, Tryz.func113, rfl, rfl, by kernel_rfl, by kernel_rfl, Tryz.call113⟩
def qkz : Nat → List Nat := kk [[2,3],[5,6,7],[0,8,9],[11,12,13],[0,14,15,16],[18,19,20],[0,21,22,23],[0,24,25,26]]
def qqt : IR :=
 (.seq (.reg [o 2 (.mv (z 0)),o 3 (.mv (z 0))] [2,3]) (.seq (.block 0 (.seq (.reg [o 5 (.mv (.t 0)),o 6 (f 124 [(.c (.s [45,47,48,49,50,51,97,99,101,105,110,111,114,115,116,117])),(.t 5)]),o 7 (.bin .ge (.t 6) (z 0)),o 4 (.mv (.t 7))] [5,6,7]) (.cond (.t 4) (.seq (.reg [o 8 (.mv (.t 0)),o 9 (f 124 [(.c (.s [45,47,48,49,50,51,97,99,101,105,110,111,114,115,116,117])),(.t 8)]),o 2 (.mv (.t 9)),o 3 (.mv (z 5))] [0,8,9]) .ret) (.seq (.reg [o 11 (.mv (.t 0)),o 12 (f 124 [(.c (.s [46,52,53,54,55,56,57,58,98,100,102,103,104,108,109,112])),(.t 11)]),o 13 (.bin .ge (.t 12) (z 0)),o 10 (.mv (.t 13))] [11,12,13]) (.cond (.t 10) (.seq (.reg [o 14 (.mv (.t 0)),o 15 (f 124 [(.c (.s [46,52,53,54,55,56,57,58,98,100,102,103,104,108,109,112])),(.t 14)]),o 16 (.bin .add (z 32) (.t 15)),o 2 (.mv (.t 16)),o 3 (.mv (z 6))] [0,14,15,16]) .ret) (.seq (.reg [o 18 (.mv (.t 0)),o 19 (f 124 [(.c (.s [65,66,67,68,69,70,71,72,106,107,113,118,119,120,121,122])),(.t 18)]),o 20 (.bin .ge (.t 19) (z 0)),o 17 (.mv (.t 20))] [18,19,20]) (.cond (.t 17) (.seq (.reg [o 21 (.mv (.t 0)),o 22 (f 124 [(.c (.s [65,66,67,68,69,70,71,72,106,107,113,118,119,120,121,122])),(.t 21)]),o 23 (.bin .add (z 96) (.t 22)),o 2 (.mv (.t 23)),o 3 (.mv (z 7))] [0,21,22,23]) .ret) .skip))))))) (.seq (.reg [o 24 (.mv (.t 0)),o 25 (f 125 [(.t 24)]),o 26 (.bin .add (z 1792) (.t 25)),o 2 (.mv (.t 26)),o 3 (.mv (z 11))] [0,24,25,26]) .ret)))
theorem qlm : FnIs Tryz.prog 114 27 [.t 2, .t 3] qqt :=
  ⟨Tryz.f114, _, qkz, Tryz.func114, rfl, rfl, by kernel_rfl, by kernel_rfl, Tryz.call114⟩
def qms : Nat → List Nat := kk [[8,9,10],[15,16,17,18,19,20,21,22,23,24,25,26,27,28,29,30,31,32,33,34,35,36,37,38,39,40,41,42,43,44,45,46,47,48,49],[],[3,51,52,53],[54,55,56,57],[],[58,59],[61,62],[14],[63,64],[66,67,68,69,70,71],[72,73,74,75,76,77,78,79],[14,80,81,82,83,84,85,86,87,88,89,90,91,92,93,94,95,96],[11,12,97,98]]
def qhi : List Nat := [3,4,5,6,7,8,9,10,14,15,16,17,18,19,20,21,22,23,24,25,26,27,28,29,30,31,32,33,34,35,36,37,38,39,40,41,42,43,44,45,46,47,48,49,50,51,52,53,54,55,56,57,58,59,60,61,62,63,64,65,66,67,68,69,70,71,72,73,74,75,76,77,78,79,80,81,82,83,84,85,86,87,88,89,90,91,92,93,94,95,96,97,98]
def qtw : IR :=
 (.seq (.reg [o 8 (.mv (.c (.re (.slice none 0 0)))),o 9 (.mv (z 0)),o 10 (.mv (z 0))] [8,9,10]) (.seq (.seq (.reg [o 15 (.mv (.t 3)),o 16 (.bin .lt (.t 15) (z 0)),o 17 (.mv (.t 16)),q 18 (.mv (.t 3)) 17 false,q 19 (.bin .gt (.t 18) (z 30)) 17 false,o 20 (.pick (.t 17) (.c .tt) (.t 19)),o 21 (.mv (.t 20)),q 22 (.mv (.t 2)) 21 false,q 23 (.bin .lt (.t 22) (z 0)) 21 false,o 24 (.pick (.t 21) (.c .tt) (.t 23)),o 25 (.mv (.t 24)),q 26 (.mv (.t 2)) 25 false,q 27 (.mv (.t 3)) 25 false,q 28 (.cv .u64 (.t 27)) 25 false,q 29 (.bin .shl (z 1) (.t 28)) 25 false,q 30 (.bin .ge (.t 26) (.t 29)) 25 false,o 31 (.pick (.t 25) (.c .tt) (.t 30)),o 32 (.mv (.t 31)),q 33 (.mv (.t 1)) 32 false,q 34 (.bin .lt (.t 33) (z 0)) 32 false,o 35 (.pick (.t 32) (.c .tt) (.t 34)),o 36 (.mv (.t 35)),q 37 (.mv (.t 1)) 36 false,q 38 (.mv (.t 0)) 36 false,q 39 (.len false (.t 38)) 36 false,q 40 (.bin .mul (z 8) (.t 39)) 36 false,q 41 (.bin .gt (.t 37) (.t 40)) 36 false,o 42 (.pick (.t 36) (.c .tt) (.t 41)),o 43 (.mv (.t 42)),q 44 (.mv (.t 0)) 43 false,q 45 (.len false (.t 44)) 43 false,q 46 (.bin .mul (z 8) (.t 45)) 43 false,q 47 (.mv (.t 1)) 43 false,q 48 (.bin .sub (.t 46) (.t 47)) 43 false,q 49 (.bin .ge (.t 48) (z 8)) 43 false,o 50 (.pick (.t 43) (.c .tt) (.t 49))] [15,16,17,18,19,20,21,22,23,24,25,26,27,28,29,30,31,32,33,34,35,36,37,38,39,40,41,42,43,44,45,46,47,48,49]) (.cond (.t 50) (.seq (.reg [o 8 (.mv (.c (.re (.slice none 0 0)))),o 9 (.mv (z 0)),o 10 (.mv (z 2))] []) .ret) .skip)) (.seq (.reg [o 51 (.mv (.t 1)),o 52 (.mv (.t 3)),o 53 (.bin .add (.t 51) (.t 52)),o 11 (.mv (.t 53))] [3,51,52,53]) (.seq (.reg [o 54 (.mv (.t 11)),o 55 (.bin .add (.t 54) (z 7)),o 56 (.bin .quo (.t 55) (z 8)),o 57 (.mkS 1 [(.i .u8 (.l 0))] (.t 56) (.t 56)),o 12 (.mv (.t 57))] [54,55,56,57]) (.seq (.seq (.reg [o 13 (.mv (z 0))] []) (.block 0 (.loop (.seq (.seq (.reg [o 58 (.mv (.t 13)),o 59 (.mv (.t 11)),o 60 (.bin .lt (.t 58) (.t 59))] [58,59]) (.cond (.t 60) .skip (.exit 0))) (.seq (.block 1 (.seq (.reg [o 14 (.mv (z 0))] [14]) (.seq (.seq (.reg [o 63 (.mv (.t 13)),o 64 (.mv (.t 1)),o 65 (.bin .lt (.t 63) (.t 64))] [63,64]) (.cond (.t 65) (.reg [o 67 (.mv (.t 0)),o 68 (.mv (.t 13)),o 69 (f 126 [(.t 67),(.t 68)]),o 66 (.mv (.t 69)),o 70 (.ext (.t 66) 0),o 71 (.ext (.t 66) 1),o 14 (.mv (.t 70))] [66,67,68,69,70,71]) (.reg [o 72 (.mv (.t 2)),o 73 (.mv (.t 11)),o 74 (.bin .sub (.t 73) (z 1)),o 75 (.mv (.t 13)),o 76 (.bin .sub (.t 74) (.t 75)),o 77 (.cv .u64 (.t 76)),o 78 (.bin .shr (.t 72) (.t 77)),o 79 (.bin .rem (.t 78) (z 2)),o 14 (.mv (.t 79))] [72,73,74,75,76,77,78,79]))) (.reg [o 80 (.mv (.t 12)),o 81 (.mv (.t 13)),o 82 (.bin .quo (.t 81) (z 8)),o 83 (.mv (.t 12)),o 84 (.mv (.t 13)),o 85 (.bin .quo (.t 84) (z 8)),o 86 (.iadS 1 (.t 83) (.t 85)),o 87 (.load false 1 (.t 86)),o 88 (.mv (.t 14)),o 89 (.mv (.t 13)),o 90 (.bin .rem (.t 89) (z 8)),o 91 (.bin .sub (z 7) (.t 90)),o 92 (.cv .u64 (.t 91)),o 93 (.bin .shl (.t 88) (.t 92)),o 94 (.cv .u8 (.t 93)),o 95 (.bin .add (.t 87) (.t 94)),o 96 (.iadS
 1 (.t 80) (.t 82)),u (.store 1 (.t 96) (.t 95))] [14,80,81,82,83,84,85,86,87,88,89,90,91,92,93,94,95,96])))) (.reg [o 61 (.mv (.t 13)),o 62 (.bin .add (.t 61) (z 1)),o 13 (.mv (.t 62))] [61,62])))))) (.seq (.reg [o 97 (.mv (.t 12)),o 98 (.mv (.t 11)),o 8 (.mv (.t 97)),o 9 (.mv (.t 98)),o 10 (.mv (z 0))] [11,12,97,98]) .ret))))))
theorem qnf : FnIs Tryz.prog 115 99 [.t 8, .t 9, .t 10] qtw :=
  ⟨Tryz.f115, _, qms, Tryz.func115, rfl, rfl, by kernel_rfl, by kernel_rfl, Tryz.call115⟩
def qhu : Nat → List Nat := kk [[9,10],[12,13],[5,15,16,17,18,19],[20,21,22,23,24],[6,26,27,28],[29,30,31],[32],[34,35,36,37,38],[8,39,40,41],[7,43,44,45,46,47,48],[0,2,49,50,51]]
def qfa : List Nat := [4,5,6,7,8,9,10,11,12,13,14,15,16,17,18,19,20,21,22,23,24,25,26,27,28,29,30,31,32,33,34,35,36,37,38,39,40,41,42,43,44,45,46,47,48,49,50,51]
def qma : IR :=
 (.seq (.seq (.reg [o 9 (.load false 1 (.t 1)),o 10 (.len true (.t 9)),o 11 (.bin .eq (.t 10) (z 0))] [9,10]) (.cond (.t 11) (.seq (.block 0 (.loop (.seq (.seq (.reg [o 12 (.load false 1 (.t 2)),o 13 (.len true (.t 12)),o 14 (.bin .gt (.t 13) (z 0))] [12,13]) (.cond (.t 14) .skip (.exit 0))) (.block 1 (.seq (.reg [o 16 (.load false 1 (.t 2)),o 17 (f 117 [(.t 16)]),o 15 (.mv (.t 17)),o 18 (.ext (.t 15) 0),o 19 (.ext (.t 15) 1),o 5 (.mv (.t 18)),o 6 (.mv (.t 19))] [5,15,16,17,18,19]) (.seq (.seq (.reg [o 20 (.mv (.t 0)),o 21 (.load false 1 (.t 2)),o 22 (.mv (.t 6)),o 23 (.slcS (.t 21) none (some (.t 22))),o 24 (.call (.t 20) [(.t 23)]),o 25 (.not (.t 24))] [20,21,22,23,24]) (.cond (.t 25) .ret .skip)) (.reg [o 26 (.load false 1 (.t 2)),o 27 (.mv (.t 6)),o 28 (.slcS (.t 26) (some (.t 27)) none),u (.store 1 (.t 2) (.t 28))] [6,26,27,28]))))))) .ret) .skip)) (.seq (.block 2 (.loop (.block 3 (.seq (.reg [o 29 (.load false 1 (.t 2)),o 30 (.load false 1 (.t 1)),o 31 (f 118 [(.t 29),(.t 30)]),o 7 (.mv (.t 31))] [29,30,31]) (.seq (.seq (.reg [o 32 (.mv (.t 7)),o 33 (.bin .lt (.t 32) (z 0))] [32]) (.cond (.t 33) (.exit 2) .skip)) (.seq (.reg [o 34 (.load false 1 (.t 2)),o 35 (.mv (.t 7)),o 36 (.load false 1 (.t 3)),o 37 (.bin .add (.t 35) (.t 36)),o 38 (.slcS (.t 34) none (some (.t 37))),o 8 (.mv (.t 38))] [34,35,36,37,38]) (.seq (.seq (.reg [o 39 (.mv (.t 0)),o 40 (.mv (.t 8)),o 41 (.call (.t 39) [(.t 40)]),o 42 (.not (.t 41))] [8,39,40,41]) (.cond (.t 42) .ret .skip)) (.reg [o 43 (.load false 1 (.t 2)),o 44 (.mv (.t 7)),o 45 (.load false 1 (.t 1)),o 46 (.len true (.t 45)),o 47 (.bin .add (.t 44) (.t 46)),o 48 (.slcS (.t 43) (some (.t 47)) none),u (.store 1 (.t 2) (.t 48))] [7,43,44,45,46,47,48])))))))) (.reg [o 49 (.mv (.t 0)),o 50 (.load false 1 (.t 2)),o 51 (.call (.t 49) [(.t 50)])] [0,2,49,50,51])))
theorem qib : FnIs Tryz.prog 116 52 [] qma :=
  ⟨Tryz.f116, _, qhu, Tryz.func116, rfl, rfl, by kernel_rfl, by kernel_rfl, Tryz.call116⟩
def qqh : Nat → List Nat := kk [[4],[0,1,5,6,7]]
def qwo : IR :=
 (.seq (.reg [o 4 (.mv (z 0))] [4]) (.seq (.reg [o 5 (.mv (.t 0)),o 6 (.mv (.t 1)),o 7 (f 119 [(.t 5),(.t 6)]),o 4 (.mv (.t 7))] [0,1,5,6,7]) .ret))
theorem qqk : FnIs Tryz.prog 118 8 [.t 4] qwo :=
  ⟨Tryz.f118, _, qqh, Tryz.func118, rfl, rfl, by kernel_rfl, by kernel_rfl, Tryz.call118⟩
def qiz : Nat → List Nat := kk [[4],[14,15],[17,18,19,20,21,22,23],[],[25,26],[0,1,27,28,29,30],[32,33,34,35],[],[37,38,39,40,41,42,43,44],[0,1,45,46,47],[48,49],[50,51],[],[52,53,54,55,56],[],[57,58],[60,61,62,63],[65,66,67,68,69,70,71],[72],[],[11,74,75,76,77],[78,79,80,81,82,83,84,85,86,87,88,89,90,91,92],[8,94],[95,96],[97,98],[99,100,101,102,103,104,105,106],[0,1,108,109,110,111,112],[113],[8,12,115,116,117],[],[118,119,120,121,122,123,124,125,126,127,128,129,130,131],[0,1,133,134,135,136,137],[138],[],[8,13,140,141,142]]
def qnw : IR :=
 (.seq (.reg [o 4 (.mv (z 0))] [4]) (.seq (.reg [o 14 (.mv (.t 1)),o 15 (.len true (.t 14)),o 5 (.mv (.t 15))] [14,15]) (.seq (.block 0 (.seq (.reg [o 17 (.mv (.t 5)),o 18 (.bin .eq (.t 17) (z 0)),o 19 (.mv (.t 18)),q 20 (.mv (.t 1)) 19 false,q 21 (.mv (.t 0)) 19 false,q 22 (.bin .eq (.t 20) (.t 21)) 19 false,o 23 (.pick (.t 19) (.c .tt) (.t 22)),o 16 (.mv (.t 23))] [17,18,19,20,21,22,23]) (.cond (.t 16) (.seq (.reg [o 4 (.mv (z 0))] []) .ret) (.seq (.reg [o 25 (.mv (.t 5)),o 26 (.bin .eq (.t 25) (z 1)),o 24 (.mv (.t 26))] [25,26]) (.cond (.t 24) (.seq (.reg [o 27 (.mv (.t 0)),o 28 (.mv (.t 1)),o 29 (.ixS (.t 28) (z 0)),o 30 (f 128 [(.t 27),(.t 29)]),o 4 (.mv (.t 30))] [0,1,27,28,29,30]) .ret) (.seq (.reg [o 32 (.mv (.t 5)),o 33 (.mv (.t 0)),o 34 (.len true (.t 33)),o 35 (.bin .ge (.t 32) (.t 34)),o 31 (.mv (.t 35))] [32,33,34,35]) (.cond (.t 31) (.seq (.reg [o 4 (.mv (z (-1)))] []) .ret) (.seq (.reg [o 37 (.mv (.t 5)),o 38 (.load false 1 (.c .any)),o 39 (.bin .le (.t 37) (.t 38)),o 40 (.mv (.t 39)),q 41 (.mv (.t 0)) 40 true,q 42 (.len true (.t 41)) 40 true,q 43 (.bin .le (.t 42) (z 64)) 40 true,o 44 (.pick (.t 40) (.t 43) (.c .ff)),o 36 (.mv (.t 44))] [37,38,39,40,41,42,43,44]) (.cond (.t 36) (.seq (.reg [o 45 (.mv (.t 0)),o 46 (.mv (.t 1)),o 47 (f 129 [(.t 45),(.t 46)]),o 4 (.mv (.t 47))] [0,1,45,46,47]) .ret) .skip))))))))) (.seq (.reg [o 48 (.mv (.t 1)),o 49 (.ixS (.t 48) (z 0)),o 6 (.mv (.t 49))] [48,49]) (.seq (.reg [o 50 (.mv (.t 1)),o 51 (.ixS (.t 50) (z 1)),o 7 (.mv (.t 51))] [50,51]) (.seq (.reg [o 8 (.mv (z 0))] []) (.seq (.reg [o 52 (.mv (.t 0)),o 53 (.len true (.t 52)),o 54 (.mv (.t 5)),o 55 (.bin .sub (.t 53) (.t 54)),o 56 (.bin .add (.t 55) (z 1)),o 9 (.mv (.t 56))] [52,53,54,55,56]) (.seq (.reg [o 10 (.mv (z 0))] []) (.seq (.block 1 (.loop (.seq (.seq (.reg [o 57 (.mv (.t 8)),o 58 (.mv (.t 9)),o 59 (.bin .lt (.t 57) (.t 58))] [57,58]) (.cond (.t 59) .skip (.exit 1))) (.block 2 (.seq (.seq (.reg [o 60 (.mv (.t 0)),o 61 (.mv (.t 8)),o 62 (.ixS (.t 60) (.t 61)),o 63 (.mv (.t 6)),o 64 (.bin .ne (.t 62) (.t 63))] [60,61,62,63]) (.cond (.t 64) (.seq (.reg [o 65 (.mv (.t 0)),o 66 (.mv (.t 8)),o 67 (.bin .add (.t 66) (z 1)),o 68 (.mv (.t 9)),o 69 (.slcS (.t 65) (some (.t 67)) (some (.t 68))),o 70 (.mv (.t 6)),o 71 (f 128 [(.t 69),(.t 70)]),o 11 (.mv (.t 71))] [65,66,67,68,69,70,71]) (.seq (.seq (.reg [o 72 (.mv (.t 11)),o 73 (.bin .lt (.t 72) (z 0))] [72]) (.cond (.t 73) (.seq (.reg [o 4 (.mv (z (-1)))] []) .ret) .skip)) (.reg [o 74 (.mv (.t 8)),o 75 (.mv (.t 11)),o 76 (.bin .add (.t 75) (z 1)),o 77 (.bin .add (.t 74) (.t 76)),o 8 (.mv (.t 77))] [11,74,75,76,77]))) .skip)) (.seq (.seq (.reg [o 78 (.mv (.t 0)),o 79 (.mv (.t 8)),o 80 (.bin .add (.t 79) (z 1)),o 81 (.ixS (.t 78) (.t 80)),o 82 (.mv (.t 7)),o 83 (.bin .eq (.t 81) (.t 82)),o 84 (.mv (.t 83)),q 85 (.mv (.t 0)) 84 true,q 86 (.mv (.t 8)) 84 true,q 87 (.mv (.t 8)) 84 true,q 88 (.mv (.t 5)) 84 true,q 89 (.bin .add (.t 87) (.t 88)) 84 true,q 90 (.slcS (.t 85) (some (.t 86)) (some (.t
 89))) 84 true,q 91 (.mv (.t 1)) 84 true,q 92 (.bin .eq (.t 90) (.t 91)) 84 true,o 93 (.pick (.t 84) (.t 92) (.c .ff))] [78,79,80,81,82,83,84,85,86,87,88,89,90,91,92]) (.cond (.t 93) (.seq (.reg [o 94 (.mv (.t 8)),o 4 (.mv (.t 94))] [8,94]) .ret) .skip)) (.seq (.reg [o 95 (.mv (.t 8)),o 96 (.bin .add (.t 95) (z 1)),o 8 (.mv (.t 96))] [95,96]) (.seq (.reg [o 97 (.mv (.t 10)),o 98 (.bin .add (.t 97) (z 1)),o 10 (.mv (.t 98))] [97,98]) (.seq (.reg [o 99 (.mv (.t 5)),o 100 (.load false 1 (.c .any)),o 101 (.bin .le (.t 99) (.t 100)),o 102 (.mv (.t 101)),q 103 (.mv (.t 10)) 102 true,q 104 (.mv (.t 8)) 102 true,q 105 (f 130 [(.t 104)]) 102 true,q 106 (.bin .gt (.t 103) (.t 105)) 102 true,o 107 (.pick (.t 102) (.t 106) (.c .ff))] [99,100,101,102,103,104,105,106]) (.cond (.t 107) (.seq (.reg [o 108 (.mv (.t 0)),o 109 (.mv (.t 8)),o 110 (.slcS (.t 108) (some (.t 109)) none),o 111 (.mv (.t 1)),o 112 (f 129 [(.t 110),(.t 111)]),o 12 (.mv (.t 112))] [0,1,108,109,110,111,112]) (.seq (.seq (.reg [o 113 (.mv (.t 12)),o 114 (.bin .ge (.t 113) (z 0))] [113]) (.cond (.t 114) (.seq (.reg [o 115 (.mv (.t 12)),o 116 (.mv (.t 8)),o 117 (.bin .add (.t 115) (.t 116)),o 4 (.mv (.t 117))] [8,12,115,116,117]) .ret) .skip)) (.seq (.reg [o 4 (.mv (z (-1)))] []) .ret))) (.seq (.reg [o 118 (.mv (.t 5)),o 119 (.load false 1 (.c .any)),o 120 (.bin .gt (.t 118) (.t 119)),o 121 (.mv (.t 120)),q 122 (.mv (.t 10)) 121 true,q 123 (.mv (.t 8)) 121 true,q 124 (.bin .shr (.t 123) (.c (.i .u64 (.l 4)))) 121 true,q 125 (.bin .add (z 4) (.t 124)) 121 true,q 126 (.bin .ge (.t 122) (.t 125)) 121 true,o 127 (.pick (.t 121) (.t 126) (.c .ff)),o 128 (.mv (.t 127)),q 129 (.mv (.t 8)) 128 true,q 130 (.mv (.t 9)) 128 true,q 131 (.bin .lt (.t 129) (.t 130)) 128 true,o 132 (.pick (.t 128) (.t 131) (.c .ff))] [118,119,120,121,122,123,124,125,126,127,128,129,130,131]) (.cond (.t 132) (.seq (.reg [o 133 (.mv (.t 0)),o 134 (.mv (.t 8)),o 135 (.slcS (.t 133) (some (.t 134)) none),o 136 (.mv (.t 1)),o 137 (f 131 [(.t 135),(.t 136)]),o 13 (.mv (.t 137))] [0,1,133,134,135,136,137]) (.seq (.seq (.reg [o 138 (.mv (.t 13)),o 139 (.bin .lt (.t 138) (z 0))] [138]) (.cond (.t 139) (.seq (.reg [o 4 (.mv (z (-1)))] []) .ret) .skip)) (.seq (.reg [o 140 (.mv (.t 8)),o 141 (.mv (.t 13)),o 142 (.bin .add (.t 140) (.t 141)),o 4 (.mv (.t 142))] [8,13,140,141,142]) .ret))) .skip)))))))))))) (.seq (.reg [o 4 (.mv (z (-1)))] []) .ret))))))))))
theorem qjo : FnIs Tryz.prog 119 143 [.t 4] qnw :=
  ⟨Tryz.f119, _, qiz, Tryz.func119, rfl, rfl, by kernel_rfl, by kernel_rfl, Tryz.call119⟩
def qxs : Nat → List Nat := kk [[0]]
def huff_bytes : IR :=
 (.seq (.reg [o 0 (.mv (.c (.re .nilFunc)))] [0]) (.seq (.reg [o 0 (.mv (.c (.fn (.func 136) [] [])))] []) .ret))
theorem qyb : FnIs Tryz.prog 123 1 [.t 0] huff_bytes :=
  ⟨Tryz.f123, _, qxs, Tryz.func123, rfl, rfl, by kernel_rfl, by kernel_rfl, Tryz.call123⟩
def qjl : Nat → List Nat := kk [[4],[],[6,7,8],[10,11],[12,13,14,15],[5,17]]
def qft : List Nat := [2,3,4,6,7,8,9,10,11,12,13,14,15,16,17]
def qpl : IR :=
 (.seq (.reg [o 4 (.mv (z 0))] [4]) (.seq (.seq (.reg [o 5 (.mv (z 0))] []) (.block 0 (.loop (.seq (.seq (.reg [o 6 (.mv (.t 5)),o 7 (.mv (.t 0)),o 8 (.len true (.t 7)),o 9 (.bin .lt (.t 6) (.t 8))] [6,7,8]) (.cond (.t 9) .skip (.exit 0))) (.seq (.block 1 (.seq (.reg [o 12 (.mv (.t 0)),o 13 (.mv (.t 5)),o 14 (.ixS (.t 12) (.t 13)),o 15 (.mv (.t 1)),o 16 (.bin .eq (.t 14) (.t 15))] [12,13,14,15]) (.cond (.t 16) (.seq (.reg [o 17 (.mv (.t 5)),o 4 (.mv (.t 17))] [5,17]) .ret) .skip))) (.reg [o 10 (.mv (.t 5)),o 11 (.bin .add (.t 10) (z 1)),o 5 (.mv (.t 11))] [10,11])))))) (.seq (.reg [o 4 (.mv (z (-1)))] []) .ret)))
theorem qjw : FnIs Tryz.prog 124 18 [.t 4] qpl :=
  ⟨Tryz.f124, _, qjl, Tryz.func124, rfl, rfl, by kernel_rfl, by kernel_rfl, Tryz.call124⟩
def qhz : Nat → List Nat := kk [[2],[],[],[5,6,7],[9,10],[11,12,13],[15,16],[3,17]]
def qfc : List Nat := [1,2,5,6,7,8,9,10,11,12,13,14,15,16,17]
def qnq : IR :=
 (.seq (.reg [o 2 (.mv (z 0))] [2]) (.seq (.reg [o 3 (.mv (z 0))] []) (.seq (.seq (.reg [o 4 (.mv (z 0))] []) (.block 0 (.loop (.seq (.seq (.reg [o 5 (.mv (.t 4)),o 6 (.mv (.t 0)),o 7 (.cv .i64 (.t 6)),o 8 (.bin .lt (.t 5) (.t 7))] [5,6,7]) (.cond (.t 8) .skip (.exit 0))) (.seq (.block 1 (.seq (.reg [o 11 (.mv (.t 4)),o 12 (.cv .u8 (.t 11)),o 13 (f 124 [(.c (.s [45,47,48,49,50,51,97,99,101,105,110,111,114,115,116,117,46,52,53,54,55,56,57,58,98,100,102,103,104,108,109,112,65,66,67,68,69,70,71,72,106,107,113,118,119,120,121,122])),(.t 12)]),o 14 (.bin .lt (.t 13) (z 0))] [11,12,13]) (.cond (.t 14) (.reg [o 15 (.mv (.t 3)),o 16 (.bin .add (.t 15) (z 1)),o 3 (.mv (.t 16))] [15,16]) .skip))) (.reg [o 9 (.mv (.t 4)),o 10 (.bin .add (.t 9) (z 1)),o 4 (.mv (.t 10))] [9,10])))))) (.seq (.reg [o 17 (.mv (.t 3)),o 2 (.mv (.t 17))] [3,17]) .ret))))
theorem qig : FnIs Tryz.prog 125 18 [.t 2] qnq :=
  ⟨Tryz.f125, _, qhz, Tryz.func125, rfl, rfl, by kernel_rfl, by kernel_rfl, Tryz.call125⟩
def qmt : Nat → List Nat := kk [[4,5],[8,9,10,11,12,13,14,15],[],[0,17,18,19,20,21,22],[],[23,24,25,26],[28,29],[30,31],[6,32,33]]
def qhj : List Nat := [0,2,3,4,5,8,9,10,11,12,13,14,15,16,17,18,19,20,21,22,23,24,25,26,27,28,29,30,31,32,33]
def qtx : IR :=
 (.seq (.reg [o 4 (.mv (z 0)),o 5 (.mv (.c .ff))] [4,5]) (.seq (.seq (.reg [o 8 (.mv (.t 1)),o 9 (.bin .lt (.t 8) (z 0)),o 10 (.mv (.t 9)),q 11 (.mv (.t 1)) 10 false,q 12 (.bin .quo (.t 11) (z 8)) 10 false,q 13 (.mv (.t 0)) 10 false,q 14 (.len false (.t 13)) 10 false,q 15 (.bin .ge (.t 12) (.t 14)) 10 false,o 16 (.pick (.t 10) (.c .tt) (.t 15))] [8,9,10,11,12,13,14,15]) (.cond (.t 16) (.seq (.reg [o 4 (.mv (z 0)),o 5 (.mv (.c .ff))] []) .ret) .skip)) (.seq (.reg [o 17 (.mv (.t 0)),o 18 (.mv (.t 1)),o 19 (.bin .quo (.t 18) (z 8)),o 20 (.iadS 1 (.t 17) (.t 19)),o 21 (.load false 1 (.t 20)),o 22 (.cv .i64 (.t 21)),o 6 (.mv (.t 22))] [0,17,18,19,20,21,22]) (.seq (.seq (.reg [o 7 (.mv (z 0))] []) (.block 0 (.loop (.seq (.seq (.reg [o 23 (.mv (.t 7)),o 24 (.mv (.t 1)),o 25 (.bin .rem (.t 24) (z 8)),o 26 (.bin .sub (z 7) (.t 25)),o 27 (.bin .lt (.t 23) (.t 26))] [23,24,25,26]) (.cond (.t 27) .skip (.exit 0))) (.seq (.block 1 (.reg [o 30 (.mv (.t 6)),o 31 (.bin .quo (.t 30) (z 2)),o 6 (.mv (.t 31))] [30,31])) (.reg [o 28 (.mv (.t 7)),o 29 (.bin .add (.t 28) (z 1)),o 7 (.mv (.t 29))] [28,29])))))) (.seq (.reg [o 32 (.mv (.t 6)),o 33 (.bin .rem (.t 32) (z 2)),o 4 (.mv (.t 33)),o 5 (.mv (.c .tt))] [6,32,33]) .ret)))))
theorem qng : FnIs Tryz.prog 126 34 [.t 4, .t 5] qtx :=
  ⟨Tryz.f126, _, qmt, Tryz.func126, rfl, rfl, by kernel_rfl, by kernel_rfl, Tryz.call126⟩
def qfo : Nat → List Nat := kk [[4],[0,1,5,6,7]]
def qhm : IR :=
 (.seq (.reg [o 4 (.mv (z 0))] [4]) (.seq (.reg [o 5 (.mv (.t 0)),o 6 (.mv (.t 1)),o 7 (f 138 [(.t 5),(.t 6)]),o 4 (.mv (.t 7))] [0,1,5,6,7]) .ret))
theorem qda : FnIs Tryz.prog 128 8 [.t 4] qhm :=
  ⟨Tryz.f128, _, qfo, Tryz.func128, rfl, rfl, by kernel_rfl, by kernel_rfl, Tryz.call128⟩
def qso : Nat → List Nat := kk [[8,9],[],[],[12],[],[],[],[16,17],[6,18,19,20,21],[5,23,24],[25],[26,27,28],[29,30,31,32],[3,4,7,33,34,35,36,37,38,39],[41]]
def qlr : List Nat := [1,3,4,5,6,7,8,9,11,12,13,14,15,16,17,18,19,20,21,22,23,24,25,26,27,28,29,30,31,32,33,34,35,36,37,38,39,40,41]
def qzaaj : IR :=
 (.seq (.reg [o 8 .mkM,u (.mupd ⟨false,[.ki]⟩ (.t 8) (z 5) (z 0)),u (.mupd ⟨false,[.ki]⟩ (.t 8) (z 6) (z 32)),u (.mupd ⟨false,[.ki]⟩ (.t 8) (z 7) (z 96)),u (.mupd ⟨false,[.ki]⟩ (.t 8) (z 11) (z 1792)),o 9 (.mv (.t 8)),o 2 (.mv (.t 9))] [8,9]) (.seq (.reg [o 10 (.mv (z 0))] []) (.block 0 (.loop (.seq (.reg [o 11 (.bin .lt (.t 10) (z 256))] []) (.seq (.cond (.t 11) .skip (.exit 0)) (.seq (.block 1 (.seq (.reg [o 12 (.mv (.t 10)),o 3 (.mv (.t 12))] [12]) (.seq (.reg [o 4 (.mv (z 11))] []) (.seq (.seq (.reg [o 13 (.build [(.s []),(.s []),(.s [])] [(0,1,(.c (.s [45,47,48,49,50,51,97,99,101,105,110,111,114,115,116,117]))),(1,1,(.c (.s [46,52,53,54,55,56,57,58,98,100,102,103,104,108,109,112]))),(2,1,(.c (.s [65,66,67,68,69,70,71,72,106,107,113,118,119,120,121,122])))]),o 14 (.mv (z 0))] []) (.block 2 (.loop (.seq (.reg [o 15 (.bin .lt (.t 14) (z 3))] []) (.seq (.cond (.t 15) .skip (.exit 2)) (.seq (.block 3 (.seq (.reg [o 16 (.mv (.t 14)),o 17 (.ixA false 3 1 (.t 13) (.t 14)),o 5 (.mv (.t 16)),o 6 (.mv (.t 17))] [16,17]) (.seq (.reg [o 18 (.mv (.t 6)),o 19 (.mv (.t 3)),o 20 (.cv .u8 (.t 19)),o 21 (f 137 [(.t 18),(.t 20)]),o 22 (.bin .ge (.t 21) (z 0))] [6,18,19,20,21]) (.cond (.t 22) (.reg [o 23 (.mv (.t 5)),o 24 (.bin .add (z 5) (.t 23)),o 4 (.mv (.t 24))] [5,23,24]) .skip)))) (.reg [o 25 (.bin .add (.t 14) (z 1)),o 14 (.mv (.t 25))] [25]))))))) (.seq (.reg [o 26 (.mv (.t 2)),o 27 (.mv (.t 4)),o 28 (.look ⟨false,[.ki]⟩ (.i .i64 (.l 0)) false (.t 26) (.t 27)),o 7 (.mv (.t 28))] [26,27,28]) (.seq (.reg [o 29 (.mv (.t 2)),o 30 (.mv (.t 4)),o 31 (.look ⟨false,[.ki]⟩ (.i .i64 (.l 0)) false (.t 29) (.t 30)),o 32 (.bin .add (.t 31) (z 1)),u (.mupd ⟨false,[.ki]⟩ (.t 29) (.t 30) (.t 32))] [29,30,31,32]) (.seq (.reg [o 33 (.mv (.t 0)),o 34 (.mv (.t 3)),o 35 (.cv .u8 (.t 34)),o 36 (.mv (.t 7)),o 37 (.mv (.t 4)),o 38 (.build [(.i .i64 (.l 0)),(.i .i64 (.l 0))] [(0,1,(.t 36)),(1,1,(.t 37))]),o 39 (.call (.t 33) [(.t 35),(.t 38)]),o 40 (.not (.t 39))] [3,4,7,33,34,35,36,37,38,39]) (.cond (.t 40) .ret .skip)))))))) (.reg [o 41 (.bin .add (.t 10) (z 1)),o 10 (.mv (.t 41))] [41]))))))))
theorem qtc : FnIs Tryz.prog 136 42 [] qzaaj :=
  ⟨Tryz.f136, _, qso, Tryz.func136, rfl, rfl, by kernel_rfl, by kernel_rfl, Tryz.call136⟩
def qja : Nat → List Nat := kk [[4],[0,1,5,6,7]]
def qnx : IR :=
 (.seq (.reg [o 4 (.mv (z 0))] [4]) (.seq (.reg [o 5 (.mv (.t 0)),o 6 (.mv (.t 1)),o 7 (f 128 [(.t 5),(.t 6)]),o 4 (.mv (.t 7))] [0,1,5,6,7]) .ret))
theorem qjp : FnIs Tryz.prog 137 8 [.t 4] qnx :=
  ⟨Tryz.f137, _, qja, Tryz.func137, rfl, rfl, by kernel_rfl, by kernel_rfl, Tryz.call137⟩
end I
end Cz
namespace Hu
def valB : List Bool → Nat := List.foldl (fun n b => 2 * n + b.toNat) 0
def bitsN : Nat → Nat → List Bool
  | 0, _ => []
  | m + 1, n => bitsN m (n / 2) ++ [n % 2 == 1]
theorem qbp : ∀ (m n : Nat), (bitsN m n).length = m
  | 0, _ => rfl
  | m + 1, n => by simp [bitsN, qbp m]
theorem qmv : ∀ (l : List Bool) (a : Nat), l.foldl (fun n b => 2 * n + b.toNat) a = a * 2 ^ l.length + valB l
  | [], a => by simp [valB]
  | b :: l, a => by
    simp only [List.foldl_cons, valB, List.length_cons]
    rw [qmv l, qmv l (2 * 0 + b.toNat), Nat.pow_succ]
    generalize 2 ^ l.length = q
    have : (2 * a + b.toNat) * q = a * (q * 2) + (2 * 0 + b.toNat) * q := by
      rw [Nat.add_mul, Nat.mul_zero, Nat.zero_add, Nat.mul_comm 2 a, Nat.mul_assoc, Nat.mul_comm 2 q]
    omega
theorem qhl (b : Bool) (l : List Bool) : valB (b :: l) = b.toNat * 2 ^ l.length + valB l := by
  have := qmv l (2 * 0 + b.toNat)
  simpa [valB] using this
theorem qdj (l m : List Bool) : valB (l ++ m) = valB l * 2 ^ m.length + valB m := by
  simp only [valB, List.foldl_append]
  exact qmv m _
theorem qzb (l : List Bool) (b : Bool) : valB (l ++ [b]) = 2 * valB l + b.toNat := by
  rw [qdj]; simp [valB]; omega
theorem qki : ∀ (l : List Bool), valB l < 2 ^ l.length
  | [] => by simp [valB]
  | b :: l => by
    rw [qhl, List.length_cons, Nat.pow_succ]
    have := qki l
    cases b <;> simp only [Bool.toNat_true, Bool.toNat_false] <;> omega
theorem qnt : ∀ (m n : Nat), n < 2 ^ m → valB (bitsN m n) = n
  | 0, n, h => by simp at h; subst h; rfl
  | m + 1, n, h => by
    rw [Nat.pow_succ] at h
    rw [bitsN, qzb, qnt m (n / 2) (by omega)]
    by_cases hb : n % 2 = 1
    · rw [hb]; simp only [beq_self_eq_true, Bool.toNat_true]; omega
    · rw [show (n % 2 == 1) = false by simpa using hb]; simp only [Bool.toNat_false]; omega
theorem bitsN_snoc (l : List Bool) (b : Bool) : bitsN (l.length + 1) (valB (l ++ [b])) = bitsN l.length (valB l) ++ [b] := by
  rw [bitsN, qzb]
  have h1 : (2 * valB l + b.toNat) / 2 = valB l := by cases b <;> simp only [Bool.toNat_true, Bool.toNat_false] <;> omega
  have h2 : ((2 * valB l + b.toNat) % 2 == 1) = b := by cases b <;> simp <;> omega
  rw [h1, h2]
theorem qpp (l : List Bool) : bitsN l.length (valB l) = l := by
  suffices ∀ (r : List Bool), bitsN r.reverse.length (valB r.reverse) = r.reverse by simpa using this l.reverse
  intro r
  induction r with
  | nil => rfl
  | cons b r ih =>
    rw [List.reverse_cons, show (r.reverse ++ [b]).length = r.reverse.length + 1 by simp, bitsN_snoc, ih]
theorem qlw : ∀ k, valB (List.replicate k true) = 2 ^ k - 1
  | 0 => rfl
  | k + 1 => by
    rw [List.replicate_succ, qhl, qlw k, List.length_replicate, Nat.pow_succ]
    have := Nat.two_pow_pos k
    simp; omega
def bl (l : List Int) : List Bool := l.flatMap fun v => bitsN 8 v.toNat
def packs : Nat → List Bool → List Int
  | 0, _ => []
  | n + 1, bs => (valB (bs.take 8) : Int) :: packs n (bs.drop 8)
def pack (bs : List Bool) : List Int := packs (bs.length / 8) bs
def BOk (l : List Int) : Prop := ∀ v ∈ l, 0 ≤ v ∧ v < 256
theorem qdg : ∀ (n : Nat) (bs : List Bool), (packs n bs).length = n
  | 0, _ => rfl
  | n + 1, bs => by simp [packs, qdg n]
theorem qxd : ∀ (n : Nat) (bs : List Bool), BOk (packs n bs)
  | 0, _ => by simp [packs, BOk]
  | n + 1, bs => by
    intro v hv
    simp only [packs, List.mem_cons] at hv
    rcases hv with rfl | hv
    · have h1 := qki (bs.take 8)
      have h2 : 2 ^ (bs.take 8).length ≤ 2 ^ 8 := Nat.pow_le_pow_right (by omega) (by simp; omega)
      omega
    · exact qxd n _ v hv
theorem qys : ∀ (n : Nat) (bs : List Bool), bs.length = 8 * n → bl (packs n bs) = bs
  | 0, bs, h => by have : bs = [] := List.length_eq_zero_iff.1 (by omega); subst this; rfl
  | n + 1, bs, h => by
    simp only [packs, bl, List.flatMap_cons]
    have h1 := qys n (bs.drop 8) (by simp; omega)
    simp only [bl] at h1
    rw [h1]
    have h2 : (bs.take 8).length = 8 := by simp; omega
    have h3 := qpp (bs.take 8)
    rw [h2] at h3
    simp only [Int.toNat_natCast, h3, List.take_append_drop]
def five : List Nat := [45, 47, 48, 49, 50, 51, 97, 99, 101, 105, 110, 111, 114, 115, 116, 117]
def six : List Nat := [46, 52, 53, 54, 55, 56, 57, 58, 98, 100, 102, 103, 104, 108, 109, 112]
def seven : List Nat := [65, 66, 67, 68, 69, 70, 71, 72, 106, 107, 113, 118, 119, 120, 121, 122]
def cls (c : Nat) : Nat := if five.contains c then 5 else if six.contains c then 6 else if seven.contains c then 7 else 11
def cnt (m c : Nat) : Nat := ((List.range c).filter fun x => cls x == m).length
def base (m : Nat) : Nat := if m = 5 then 0 else if m = 6 then 32 else if m = 7 then 96 else 1792
def codeOf (c : Nat) : Nat := base (cls c) + cnt (cls c) c
theorem qyp (m c : Nat) : cnt m (c + 1) = cnt m c + (if cls c = m then 1 else 0) := by
  simp only [cnt, List.range_succ, List.filter_append, List.length_append]
  by_cases h : cls c = m <;> simp [h]
def find (code many : Nat) : Option Nat := (List.range 256).find? fun c => codeOf c == code && cls c == many
theorem cnt_le (m c : Nat) : cnt m c ≤ c := by
  have := List.length_filter_le (fun x => cls x == m) (List.range c)
  simpa [cnt] using this
theorem cnt_mono (m : Nat) {c d : Nat} (h : c ≤ d) : cnt m c ≤ cnt m d := by
  induction d with
  | zero => have : c = 0 := by omega
            subst this; exact Nat.le_refl _
  | succ d ih =>
    rcases Nat.lt_or_ge d c with h1 | h1
    · have : c = d + 1 := by omega
      subst this; exact Nat.le_refl _
    · rw [qyp]; have := ih h1; omega
theorem qwf {m c d : Nat} (hc : cls c = m) (h : c < d) : cnt m c < cnt m d := by
  have h1 : cnt m (c + 1) ≤ cnt m d := cnt_mono m h
  rw [qyp, if_pos hc] at h1
  omega
theorem qik (c : Nat) : cls c = 5 ∨ cls c = 6 ∨ cls c = 7 ∨ cls c = 11 := by
  unfold cls
  split
  · exact .inl rfl
  · split
    · exact .inr (.inl rfl)
    · split
      · exact .inr (.inr (.inl rfl))
      · exact .inr (.inr (.inr rfl))
theorem all5 : cnt 5 256 = 16 := by decide +kernel
theorem all6 : cnt 6 256 = 16 := by decide +kernel
theorem all7 : cnt 7 256 = 16 := by decide +kernel
theorem all11 : cnt 11 256 = 208 := by decide +kernel
theorem qyn {c : Nat} (h : c < 256) : (cls c = 5 ∧ codeOf c < 16) ∨ (cls c = 6 ∧ 32 ≤ codeOf c ∧ codeOf c < 48) ∨ (cls c = 7 ∧ 96 ≤ codeOf c ∧ codeOf c < 112) ∨ (cls c = 11 ∧ 1792 ≤ codeOf c ∧ codeOf c < 2000) := by
  rcases qik c with e | e | e | e
  · have := qwf e h; rw [all5] at this; exact .inl ⟨e, by simp only [codeOf, e, base]; simp; omega⟩
  · have := qwf e h; rw [all6] at this; exact .inr (.inl ⟨e, by simp only [codeOf, e, base]; simp; omega⟩)
  · have := qwf e h; rw [all7] at this; exact .inr (.inr (.inl ⟨e, by simp only [codeOf, e, base]; simp; omega⟩))
  · have := qwf e h; rw [all11] at this; exact .inr (.inr (.inr ⟨e, by simp only [codeOf, e, base]; simp; omega⟩))
theorem qzacq {c : Nat} (h : c < 256) : codeOf c < 2 ^ cls c := by
  rcases qyn h with ⟨e, b⟩ | ⟨e, b⟩ | ⟨e, b⟩ | ⟨e, b⟩ <;> rw [e] <;> omega
theorem code_inj {c d : Nat} (h1 : cls c = cls d) (h2 : codeOf c = codeOf d) : c = d := by
  simp only [codeOf, h1] at h2
  rcases Nat.lt_trichotomy c d with h | h | h
  · have := qwf (m := cls d) h1 h; omega
  · exact h
  · have := qwf (m := cls d) rfl h; omega
theorem code_apart {c d : Nat} (hc : c < 256) (hd : d < 256) (hm : cls c ≤ cls d) (h : codeOf d / 2 ^ (cls d - cls c) = codeOf c) : c = d := by
  rcases qyn hc with ⟨e, b⟩ | ⟨e, b⟩ | ⟨e, b⟩ | ⟨e, b⟩ <;> rcases qyn hd with ⟨e', b'⟩ | ⟨e', b'⟩ | ⟨e', b'⟩ | ⟨e', b'⟩ <;> rw [e, e'] at h <;> simp at h <;>
    first | exact code_inj (e.trans e'.symm) h.symm | (rw [e, e'] at hm; omega) | omega
theorem qte {code many c : Nat} (h : find code many = some c) : c < 256 ∧ codeOf c = code ∧ cls c = many := by
  have h1 := List.find?_some h
  have h2 := List.mem_of_find?_eq_some h
  simp only [Bool.and_eq_true, beq_iff_eq] at h1
  exact ⟨by simpa using h2, h1.1, h1.2⟩
theorem find_code {c : Nat} (h : c < 256) : find (codeOf c) (cls c) = some c := by
  cases hf : find (codeOf c) (cls c) with
  | none =>
    have := List.find?_eq_none.1 hf c (by simpa using h)
    simp at this
  | some d =>
    obtain ⟨_, h1, h2⟩ := qte hf
    rw [code_inj h2 h1]
theorem qzaaw {code many : Nat} (h : ∀ c, c < 256 → cls c = many → codeOf c ≠ code) : find code many = none := by
  cases hf : find code many with
  | none => rfl
  | some d => obtain ⟨a, b, c⟩ := qte hf; exact absurd b (h d a c)
def cod (c : Nat) : List Bool := bitsN (cls c) (codeOf c)
def enc (b : List Int) : List Bool := b.flatMap fun v => cod v.toNat
def at1 (bs : List Bool) (m : Nat) : Option Nat := if m ≤ bs.length then find (valB (bs.take m)) m else none
def sym (bs : List Bool) : Option (Nat × Nat) :=
  match at1 bs 5 with
  | some c => some (c, 5)
  | none => match at1 bs 6 with
    | some c => some (c, 6)
    | none => match at1 bs 7 with
      | some c => some (c, 7)
      | none => match at1 bs 11 with
        | some c => some (c, 11)
        | none => none
theorem at1_some {bs : List Bool} {m c : Nat} (h : at1 bs m = some c) : c < 256 ∧ cls c = m ∧ m ≤ bs.length ∧ bs = cod c ++ bs.drop m := by
  unfold at1 at h
  split at h
  · rename_i hm
    obtain ⟨h1, h2, h3⟩ := qte h
    refine ⟨h1, h3, hm, ?_⟩
    have h4 := qpp (bs.take m)
    rw [List.length_take, Nat.min_eq_left hm, ← h2] at h4
    have : cod c = bs.take m := by rw [cod, h3]; exact h4
    rw [this, List.take_append_drop]
  · cases h
theorem sym_some {bs : List Bool} {c m : Nat} (h : sym bs = some (c, m)) : c < 256 ∧ cls c = m ∧ m ≤ bs.length ∧ 5 ≤ m ∧ bs = cod c ++ bs.drop m := by
  unfold sym at h
  repeat' (split at h)
  all_goals first | (cases h; done) | skip
  all_goals (rename_i h1; cases h; obtain ⟨a, b, c, d⟩ := at1_some h1; exact ⟨a, b, c, by omega, d⟩)
def dec (bs : List Bool) : List Int × List Bool :=
  match h : sym bs with
  | some (c, m) => let r := dec (bs.drop m); ((c : Int) :: r.1, r.2)
  | none => ([], bs)
termination_by bs.length
decreasing_by
  obtain ⟨_, _, h1, h2, _⟩ := sym_some h
  simp only [List.length_drop]; omega
theorem dec_some {bs : List Bool} {c m : Nat} (h : sym bs = some (c, m)) : dec bs = ((c : Int) :: (dec (bs.drop m)).1, (dec (bs.drop m)).2) := by
  rw [dec]; split
  · rename_i c' m' h'; rw [h] at h'; cases h'; rfl
  · rename_i h'; rw [h] at h'; cases h'
theorem dec_none {bs : List Bool} (h : sym bs = none) : dec bs = ([], bs) := by
  rw [dec]; split
  · rename_i c' m' h'; rw [h] at h'; cases h'
  · rfl
theorem valB_take {m n k : Nat} (h : n < 2 ^ m) (hk : k ≤ m) : valB ((bitsN m n).take k) = n / 2 ^ (m - k) := by
  have h1 : bitsN m n = (bitsN m n).take k ++ (bitsN m n).drop k := (List.take_append_drop _ _).symm
  have h2 := congrArg valB h1
  rw [qnt m n h, qdj] at h2
  have h3 := qki ((bitsN m n).drop k)
  rw [List.length_drop, qbp] at h2 h3
  generalize valB ((bitsN m n).take k) = A at h2 ⊢
  generalize valB ((bitsN m n).drop k) = B at h2 h3
  rw [h2, Nat.mul_comm, Nat.mul_add_div (Nat.two_pow_pos _), Nat.div_eq_of_lt h3, Nat.add_zero]
theorem qyu {c m : Nat} (hc : c < 256) (hm : m ≤ cls c) (t : List Bool) : at1 (cod c ++ t) m = if m = cls c then some c else none := by
  unfold at1
  rw [if_pos (by simp [cod, qbp]; omega), List.take_append_of_le_length (by simp [cod, qbp]; omega)]
  have hv := valB_take (qzacq hc) hm
  unfold cod
  rw [hv]
  split
  · rename_i h; subst h; simp [find_code hc]
  · rename_i h
    refine qzaaw fun d hd hdm e => ?_
    have := code_apart hd hc (by omega) (by rw [hdm]; exact e.symm)
    subst this; omega
theorem sym_cod {c : Nat} (hc : c < 256) (t : List Bool) : sym (cod c ++ t) = some (c, cls c) := by
  have h5 := fun h : 5 ≤ cls c => qyu hc h t
  have h6 := fun h : 6 ≤ cls c => qyu hc h t
  have h7 := fun h : 7 ≤ cls c => qyu hc h t
  have h11 := fun h : 11 ≤ cls c => qyu hc h t
  unfold sym
  rcases qik c with e | e | e | e
  · rw [h5 (by omega), e]; simp
  · rw [h5 (by omega), h6 (by omega), e]; simp
  · rw [h5 (by omega), h6 (by omega), h7 (by omega), e]; simp
  · rw [h5 (by omega), h6 (by omega), h7 (by omega), h11 (by omega), e]; simp
theorem qwe : ∀ (b : List Int) (t : List Bool), BOk b → sym t = none → dec (enc b ++ t) = (b, t)
  | [], t, _, h => by simpa [enc] using dec_none h
  | v :: b, t, hb, h => by
    have hv := hb v (by simp)
    have e : enc (v :: b) ++ t = cod v.toNat ++ (enc b ++ t) := by simp [enc]
    have hd : (cod v.toNat ++ (enc b ++ t)).drop (cls v.toNat) = enc b ++ t := by
      rw [List.drop_append_of_le_length (by simp [cod, qbp]), List.drop_of_length_le (by simp [cod, qbp])]; rfl
    rw [e, dec_some (sym_cod (by omega) _), hd, qwe b t (fun u hu => hb u (by simp [hu])) h]
    simp; omega
theorem qxg {k m : Nat} (hm : m = 5 ∨ m = 6 ∨ m = 7 ∨ m = 11) : at1 (List.replicate k true) m = none := by
  unfold at1
  split
  · rename_i h
    rw [List.length_replicate] at h
    rw [List.take_replicate, Nat.min_eq_left h, qlw]
    refine qzaaw fun d hd hdm e => ?_
    rcases qyn hd with ⟨e', b⟩ | ⟨e', b⟩ | ⟨e', b⟩ | ⟨e', b⟩ <;> rw [e'] at hdm <;> subst hdm <;> omega
  · rfl
theorem sym_ones (k : Nat) : sym (List.replicate k true) = none := by
  unfold sym
  rw [qxg (.inl rfl), qxg (.inr (.inl rfl)), qxg (.inr (.inr (.inl rfl))), qxg (.inr (.inr (.inr rfl)))]
def pad (n : Nat) : Nat := (8 - n % 8) % 8
def padded (bs : List Bool) : List Bool := bs ++ List.replicate (pad bs.length) true
def put (b : List Int) : List Int := pack (padded (enc b))
def nbits (b : List Int) : Nat := (enc b).length
def take (d : List Int) : Option (List Int) :=
  let r := dec (bl d)
  if r.2.length ≤ 7 ∧ r.2 = List.replicate r.2.length true then some r.1 else none
theorem qis (bs : List Bool) : (padded bs).length = 8 * ((bs.length + 7) / 8) := by
  simp only [padded, List.length_append, List.length_replicate, pad]; omega
theorem bl_put (b : List Int) : bl (put b) = padded (enc b) := by
  unfold put pack
  exact qys _ _ (by rw [qis]; omega)
theorem qoe (b : List Int) : (put b).length = (nbits b + 7) / 8 := by
  unfold put pack; rw [qdg, qis]; unfold nbits; omega
theorem put_ok (b : List Int) : BOk (put b) := qxd _ _
theorem dec_put (b : List Int) (hb : BOk b) (k : Nat) : dec (enc b ++ List.replicate k true) = (b, List.replicate k true) := qwe b _ hb (sym_ones k)
theorem take_put (b : List Int) (hb : BOk b) : take (put b) = some b := by
  unfold take
  rw [bl_put, padded, dec_put b hb]
  simp only [List.length_replicate, and_true]
  rw [if_pos (by unfold pad; omega)]
end Hu
namespace Cz
open Go Go.RowKit Go.Proofs
def idxI (x : List UInt8) (c : Int) : Int := match (List.range x.length).find? (fun i => x.getD i 0 == c.toNat.toUInt8) with
  | some i => i
  | none => -1
def has (x : List UInt8) (c : Int) : Bool := x.any fun b => b == c.toNat.toUInt8
theorem qre {x : List UInt8} {c : Int} (h : has x c = true) : 0 ≤ idxI x c := by
  unfold idxI
  split
  · omega
  · rename_i hn
    simp only [has, List.any_eq_true] at h
    obtain ⟨b, hb, e⟩ := h
    obtain ⟨i, hi⟩ := List.getElem?_of_mem hb
    have := List.find?_eq_none.1 hn i (by simp; exact (List.getElem?_eq_some_iff.1 hi).1)
    simp [List.getD_eq_getElem?_getD, hi] at this
    exact absurd (by simpa using e) this
theorem qex {x : List UInt8} {c : Int} (h : has x c = false) : idxI x c < 0 := by
  unfold idxI
  split
  · rename_i i hi
    have h1 := List.find?_some hi
    have h2 := List.mem_of_find?_eq_some hi
    simp only [List.mem_range] at h2
    simp only [has, List.any_eq_false] at h
    have := h _ (List.getElem_mem h2)
    simp [List.getD_eq_getElem?_getD, List.getElem?_eq_getElem h2] at h1
    simp [h1] at this
  · omega
theorem idx_f (x : List UInt8) (c : Int) : (S0 Tryz.prog).call 138 [.s x, .i .u8 (.y c)] [] (fun y _ => Sub y (.i .i64 (.y (idxI x c)))) := by
  intro N W0 ρ W vals hR hd
  obtain ⟨l⟩ := vals
  match l, hd with
  | [u, v], hd =>
    simp only [denL, den, Z.v] at hd
    obtain ⟨rfl, rfl, _⟩ := hd
    have hrun : (callFunc 138 #[.string ⟨x.toArray⟩, .int .u8 c]).run Tryz.prog W = .ok (.value (.int .i64 (idxI x c))) W := by
      have h1 : (Tryz.f138.name == "runtime.NumGoroutine") = false := by decide +kernel
      have h2 : Tryz.f138.body.isNone = true := by kernel_rfl
      have h3 : Extern.findNext Tryz.f138 = none := by kernel_rfl
      have h4 : Extern.find Tryz.f138 = some Extern.BytealgIndexByte.indexByte := by kernel_rfl
      simp only [callFunc, Sem.run_bind, run_program, Result.andThen_ok, Tryz.func138, h1, h2, h3, h4, run_mark, Bool.false_eq_true, if_false, if_true]
      have hs : (ByteArray.mk x.toArray).size = x.length := by show x.toArray.size = _; simp
      have hb : ∀ i, i < x.length → (ByteArray.mk x.toArray)[i]! = x.getD i 0 := by
        intro i hi
        rw [getElem!_pos _ i (by rw [hs]; exact hi), List.getD_eq_getElem?_getD, List.getElem?_eq_getElem hi]
        rfl
      have hf : (List.range (ByteArray.mk x.toArray).size).find? (fun i => (ByteArray.mk x.toArray)[i]! == c.toNat.toUInt8) = (List.range x.length).find? (fun i => x.getD i 0 == c.toNat.toUInt8) := by
        rw [hs]
        have : ∀ (l : List Nat), (∀ i ∈ l, i < x.length) → l.find? (fun i => (ByteArray.mk x.toArray)[i]! == c.toNat.toUInt8) = l.find? (fun i => x.getD i 0 == c.toNat.toUInt8) := by
          intro l
          induction l with
          | nil => intro _; rfl
          | cons i l ih =>
            intro hl
            simp only [List.find?_cons, hb i (hl i (by simp))]
            rw [ih (fun j hj => hl j (by simp [hj]))]
        exact this _ (fun i hi => by simpa using hi)
      have hrun : (Extern.BytealgIndexByte.indexByte #[.string ⟨x.toArray⟩, .int .u8 c]).run Tryz.prog W = .ok (.int .i64 (idxI x c)) W := by
        show (match (List.range (ByteArray.mk x.toArray).size).find? (fun i => (ByteArray.mk x.toArray)[i]! == c.toNat.toUInt8) with
          | some i => (pure (goInt i) : Sem Value)
          | none => pure (goInt (-1))).run Tryz.prog W = _
        rw [hf]
        unfold idxI
        split <;> rfl
      rw [hrun]
      rfl
    rw [hrun]
    exact ⟨ρ, _, [], .rfl, Le.refl _ _, Nat.le_refl _, hR, by simp [den, Z.v]⟩
theorem index_f (x : List UInt8) (c : Int) : (S0 Tryz.prog).call 137 [.s x, .i .u8 (.y c)] [] (fun y _ => Sub y (.i .i64 (.y (idxI x c)))) := by
  generalize hT : idxI x c = T
  generalize hS : S0 Tryz.prog = S
  refine qab hS I.qjp ?_
  cbv
  refine qab hS I.qda ?_
  cbv
  refine qbc hS (idx_f x c) .rfl rfl rfl ?_
  rw [hT]
  cbv
  exact .rfl
theorem qdt {S : Sy} (hS : S0 Tryz.prog = S) {l : List Blk} {K : SV → List Blk → Prop} {x : List UInt8} {c : Z} (h : ∀ r, idxI x c.v = r → K (.i .i64 (.y r)) l) : S.call 137 [.s x, .i .u8 c] l K :=
  qbc hS (index_f x c.v) (.cons .rfl (.cons (qak rfl) .nil)) rfl rfl (h _ rfl)
def by1 (v : Int) : List SV := [.i .u8 (.y v)]
def cellsB (l : List Int) : List SV := l.flatMap by1
theorem qae (l : List Int) : plains (cellsB l) = true := by
  induction l with
  | nil => rfl
  | cons v l ih => simpa [cellsB, by1, plains, plainV] using ih
theorem qed (l : List Int) : cellsB l = l.map fun v => .i .u8 (.y v) := by
  induction l with
  | nil => rfl
  | cons u l ih => simp only [cellsB, List.flatMap_cons, List.map_cons] at ih ⊢; rw [ih]; rfl
theorem cellsB_get {l : List Int} {q : Nat} {v : Int} (h : l[q]? = some v) : (cellsB l)[q]? = some (.i .u8 (.y v)) := by
  rw [qed, List.getElem?_map, h]; rfl
end Cz
namespace Cz
open Go Go.RowKit Go.Proofs
end Cz
namespace Cz
open Go Go.RowKit Go.Proofs
def w5 : List UInt8 := [45, 47, 48, 49, 50, 51, 97, 99, 101, 105, 110, 111, 114, 115, 116, 117]
def w6 : List UInt8 := [46, 52, 53, 54, 55, 56, 57, 58, 98, 100, 102, 103, 104, 108, 109, 112]
def w7 : List UInt8 := [65, 66, 67, 68, 69, 70, 71, 72, 106, 107, 113, 118, 119, 120, 121, 122]
theorem has_all : (List.range 256).all (fun n => (has w5 n == (Hu.cls n == 5)) && ((has w6 n == (Hu.cls n == 6)) && (has w7 n == (Hu.cls n == 7)))) = true := by decide +kernel
theorem has_at {n : Nat} (h : n < 256) : has w5 n = (Hu.cls n == 5) ∧ has w6 n = (Hu.cls n == 6) ∧ has w7 n = (Hu.cls n == 7) := by
  have := List.all_eq_true.1 has_all n (by simpa using h)
  simpa using this
theorem idx_at {c : Int} (h0 : 0 ≤ c) (h : c < 256) :
    (Hu.cls c.toNat = 5 ∧ 0 ≤ idxI w5 c ∧ idxI w6 c < 0 ∧ idxI w7 c < 0) ∨ (Hu.cls c.toNat = 6 ∧ idxI w5 c < 0 ∧ 0 ≤ idxI w6 c ∧ idxI w7 c < 0) ∨
    (Hu.cls c.toNat = 7 ∧ idxI w5 c < 0 ∧ idxI w6 c < 0 ∧ 0 ≤ idxI w7 c) ∨ (Hu.cls c.toNat = 11 ∧ idxI w5 c < 0 ∧ idxI w6 c < 0 ∧ idxI w7 c < 0) := by
  obtain ⟨n, rfl⟩ : ∃ n : Nat, c = n := ⟨c.toNat, by omega⟩
  obtain ⟨g5, g6, g7⟩ := has_at (n := n) (by omega)
  simp only [Int.toNat_natCast]
  rcases Hu.qik n with e | e | e | e <;> rw [e] at g5 g6 g7
  · exact .inl ⟨e, qre g5, qex g6, qex g7⟩
  · exact .inr (.inl ⟨e, qex g5, qre g6, qex g7⟩)
  · exact .inr (.inr (.inl ⟨e, qex g5, qex g6, qre g7⟩))
  · exact .inr (.inr (.inr ⟨e, qex g5, qex g6, qex g7⟩))
theorem qvu {c : Prop} {inst : Decidable c} {A B : Prop} (hc : c) (h : A) : @ite Prop c inst A B := by rw [if_pos hc]; exact h
def cellC (n : Nat) : List SV := [.i .i64 (.y (Hu.codeOf n)), .i .i64 (.y (Hu.cls n))]
def upto (c : Nat) : List SV := (List.range c).flatMap cellC ++ List.replicate (2 * (256 - c)) (.i .i64 (.l 0))
theorem qzabc (n : Nat) : ((List.range n).flatMap cellC).length = 2 * n := by
  induction n with
  | zero => rfl
  | succ n ih => rw [List.range_succ, List.flatMap_append, List.length_append, ih]; simp [cellC]; omega
theorem qep {c : Nat} (h : c ≤ 256) : (upto c).length = 512 := by
  simp only [upto, List.length_append, qzabc, List.length_replicate]; omega
theorem repl2 (A B : List SV) (x y u v : SV) : repl (A ++ x :: y :: B) A.length [u, v] = A ++ u :: v :: B := by
  simp only [repl, qci]
  rw [List.set_append_right _ _ (Nat.le_refl _), Nat.sub_self, List.set_cons_zero, List.set_append_right _ _ (by omega), show A.length + 1 - A.length = 1 by omega]
  rfl
theorem upto_next {c : Nat} (h : c < 256) : repl (upto c) (c * 2) (cellC c) = upto (c + 1) := by
  have e1 : 2 * (256 - c) = 2 * (256 - (c + 1)) + 1 + 1 := by omega
  have e2 : c * 2 = ((List.range c).flatMap cellC).length := by rw [qzabc]; omega
  unfold upto
  rw [e1, List.replicate_succ, List.replicate_succ, e2]
  have := repl2 ((List.range c).flatMap cellC) (List.replicate (2 * (256 - (c + 1))) (.i .i64 (.l 0))) (.i .i64 (.l 0)) (.i .i64 (.l 0)) (.i .i64 (.y (Hu.codeOf c))) (.i .i64 (.y (Hu.cls c)))
  rw [List.range_succ, List.flatMap_append]
  simp only [List.flatMap_cons, List.flatMap_nil, List.append_nil, List.append_assoc]
  exact this
theorem qxa (x : SV) : ∀ n, repS n [x] = List.replicate n x
  | 0 => rfl
  | n + 1 => by rw [repS, qxa x n, List.replicate_succ]; rfl
theorem qzaan {F : List SV} {ok : Nat → Bool} (h : refsBL ok F = true) : (match (match F with | [] => true | x :: xs => refsB ok x && refsBL ok xs) with | false => false | true => true) = true := by
  cases F with
  | nil => rfl
  | cons x xs => simp only [refsBL] at h; simp only [h]
theorem qar {ok : Nat → Bool} : ∀ {F : List SV}, plains F = true → refsBL ok F = true
  | [], _ => rfl
  | x :: xs, h => by
    simp only [plains, Bool.and_eq_true] at h
    simp only [refsBL, Bool.and_eq_true]
    exact ⟨qsb h.1, qar h.2⟩
theorem qvg (c : Nat) : plains (upto c) = true := by
  have h1 : ∀ (xs ys : List SV), plains (xs ++ ys) = (plains xs && plains ys) := by
    intro xs ys
    induction xs with
    | nil => simp [plains]
    | cons x xs ih => simp [plains, ih, Bool.and_assoc]
  have h2 : ∀ n, plains (List.replicate n (SV.i .i64 (.l 0))) = true := by
    intro n
    induction n with
    | zero => rfl
    | succ n ih => rw [List.replicate_succ]; simpa [plains, plainV] using ih
  have h3 : ∀ (l : List Nat), plains (l.flatMap cellC) = true := by
    intro l
    induction l with
    | nil => rfl
    | cons n l ih => rw [List.flatMap_cons, h1, ih]; rfl
  rw [upto, h1, h2, h3]; rfl
def codeLit : List SV :=
  [.i .i64 (.y 1792), .i .i64 (.y 11), .i .i64 (.y 1793), .i .i64 (.y 11), .i .i64 (.y 1794), .i .i64 (.y 11), .i .i64 (.y 1795), .i .i64 (.y 11), .i .i64 (.y 1796), .i .i64 (.y 11), .i .i64 (.y 1797), .i .i64 (.y 11), .i .i64 (.y 1798), .i .i64 (.y 11), .i .i64 (.y 1799), .i .i64 (.y 11), .i .i64 (.y 1800), .i .i64 (.y 11), .i .i64 (.y 1801), .i .i64 (.y 11), .i .i64 (.y 1802), .i .i64 (.y 11), .i .i64 (.y 1803), .i .i64 (.y 11), .i .i64 (.y 1804), .i .i64 (.y 11), .i .i64 (.y 1805), .i .i64 (.y 11), .i .i64 (.y 1806), .i .i64 (.y 11), .i .i64 (.y 1807), .i .i64 (.y 11), .i .i64 (.y 1808), .i .i64 (.y 11), .i .i64 (.y 1809), .i .i64 (.y 11), .i .i64 (.y 1810), .i .i64 (.y 11), .i .i64 (.y 1811), .i .i64 (.y 11), .i .i64 (.y 1812), .i .i64 (.y 11), .i .i64 (.y 1813), .i .i64 (.y 11), .i .i64 (.y 1814), .i .i64 (.y 11), .i .i64 (.y 1815), .i .i64 (.y 11), .i .i64 (.y 1816), .i .i64 (.y 11), .i .i64 (.y 1817), .i .i64 (.y 11), .i .i64 (.y 1818), .i .i64 (.y 11), .i .i64 (.y 1819), .i .i64 (.y 11), .i .i64 (.y 1820), .i .i64 (.y 11), .i .i64 (.y 1821), .i .i64 (.y 11), .i .i64 (.y 1822), .i .i64 (.y 11), .i .i64 (.y 1823), .i .i64 (.y 11), .i .i64 (.y 1824), .i .i64 (.y 11), .i .i64 (.y 1825), .i .i64 (.y 11), .i .i64 (.y 1826), .i .i64 (.y 11), .i .i64 (.y 1827), .i .i64 (.y 11), .i .i64 (.y 1828), .i .i64 (.y 11), .i .i64 (.y 1829), .i .i64 (.y 11), .i .i64 (.y 1830), .i .i64 (.y 11), .i .i64 (.y 1831), .i .i64 (.y 11), .i .i64 (.y 1832), .i .i64 (.y 11), .i .i64 (.y 1833), .i .i64 (.y 11), .i .i64 (.y 1834), .i .i64 (.y 11), .i .i64 (.y 1835), .i .i64 (.y 11), .i .i64 (.y 1836), .i .i64 (.y 11), .i .i64 (.y 0), .i .i64 (.y 5), .i .i64 (.y 32), .i .i64 (.y 6), .i .i64 (.y 1), .i .i64 (.y 5), .i .i64 (.y 2), .i .i64 (.y 5), .i .i64 (.y 3), .i .i64 (.y 5), .i .i64 (.y 4), .i .i64 (.y 5), .i .i64 (.y 5), .i .i64 (.y 5), .i .i64 (.y 33), .i .i64 (.y 6), .i .i64 (.y 34), .i .i64 (.y 6), .i .i64 (.y 35), .i .i64 (.y 6), .i .i64 (.y 36), .i .i64 (.y 6), .i .i64 (.y 37), .i .i64 (.y 6), .i .i64 (.y 38), .i .i64 (.y 6), .i .i64 (.y 39), .i .i64 (.y 6), .i .i64 (.y 1837), .i .i64 (.y 11), .i .i64 (.y 1838), .i .i64 (.y 11), .i .i64 (.y 1839), .i .i64 (.y 11), .i .i64 (.y 1840), .i .i64 (.y 11), .i .i64 (.y 1841), .i .i64 (.y 11), .i .i64 (.y 1842), .i .i64 (.y 11), .i .i64 (.y 96), .i .i64 (.y 7), .i .i64 (.y 97), .i .i64 (.y 7), .i .i64 (.y 98), .i .i64 (.y 7), .i .i64 (.y 99), .i .i64 (.y 7), .i .i64 (.y 100), .i .i64 (.y 7), .i .i64 (.y 101), .i .i64 (.y 7), .i .i64 (.y 102), .i .i64 (.y 7), .i .i64 (.y 103), .i .i64 (.y 7), .i .i64 (.y 1843), .i .i64 (.y 11), .i .i64 (.y 1844), .i .i64 (.y 11), .i .i64 (.y 1845), .i .i64 (.y 11), .i .i64 (.y 1846), .i .i64 (.y 11), .i .i64 (.y 1847), .i .i64 (.y 11), .i .i64 (.y 1848), .i .i64 (.y 11), .i .i64 (.y 1849), .i .i64 (.y 11), .i .i64 (.y 1850), .i .i64 (.y 11), .i .i64 (.y 1851), .i .i64 (.y 11), .i .i64 (.y 1852), .i .i64 (.y 11), .i .i64 (.y 1853), .i .i64 (.y 11), .i .i64 (.y 1854), .i .i64 (.y 11), .i .i64 (.y 1855), .i .i64 (.y 11), .i .i64 (.y 1856), .i .i64 (.y 11), .i .i64 (.y 1857), .i .i64 (.y 11), .i .i64 (.y 1858), .i .i64 (.y 11), .i .i64 (.y 1859), .i .i64 (.y 11), .i .i64 (.y 1860), .i .i64 (.y 11), .i .i64 (.y 1861), .i .i64 (.y 11), .i .i64 (.y 1862), .i .i64 (.y 11), .i .i64 (.y 1863), .i .i64 (.y 11), .i .i64 (.y 1864), .i .i64 (.y 11), .i .i64 (.y 1865), .i .i64 (.y 11), .i .i64 (.y 1866), .i .i64 (.y 11), .i .i64 (.y 6), .i .i64 (.y 5), .i .i64 (.y 40), .i .i64 (.y 6), .i .i64 (.y 7), .i .i64 (.y 5), .i .i64 (.y 41), .i .i64 (.y 6), .i .i64 (.y 8), .i .i64 (.y 5), .i .i64 (.y 42), .i .i64 (.y 6), .i .i64 (.y 43), .i .i64 (.y 6), .i .i64 (.y 44), .i .i64 (.y 6), .i .i64 (.y 9), .i .i64 (.y 5), .i .i64 (.y 104), .i .i64 (.y 7), .i .i64 (.y 105), .i .i64 (.y 7), .i .i64 (.y 45), .i .i64 (.y 6), .i .i64 (.y 46), .i .i64 (.y 6), .i .i64 (.y 10), .i .i64 (.y 5), .i .i64 (.y 11), .i .i64 (.y 5), .i .i64 (.y 47), .i .i64 (.y 6), .i .i64 (.y 106), .i .i64 (.y 7), .i .i64 (.y 12), .i .i64 (.y 5), .i .i64 (.y 13), .i .i64 (.y 5), .i .i64 (.y 14), .i .i64 (.y 5), .i .i64 (.y 15), .i .i64 (.y 5), .i .i64 (.y 107), .i .i64 (.y 7), .i .i64 (.y 108), .i .i64 (.y 7), .i .i64 (.y 109), .i .i64 (.y 7), .i .i64 (.y 110), .i .i64 (.y 7), .i .i64 (.y 111), .i .i64 (.y 7), .i .i64 (.y 1867), .i .i64 (.y 11), .i .i64 (.y 1868), .i .i64 (.y 11), .i .i64 (.y 1869), .i .i64 (.y 11), .i .i64 (.y 1870), .i .i64 (.y 11), .i .i64 (.y 1871), .i .i64 (.y 11), .i .i64 (.y 1872), .i .i64 (.y 11), .i .i64 (.y 1873), .i .i64 (.y 11), .i .i64 (.y 1874), .i .i64 (.y 11), .i .i64 (.y 1875), .i .i64 (.y 11), .i .i64 (.y 1876), .i .i64 (.y 11), .i .i64 (.y 1877), .i .i64 (.y 11), .i .i64 (.y 1878), .i .i64 (.y 11), .i .i64 (.y 1879), .i .i64 (.y 11), .i .i64 (.y 1880), .i .i64 (.y 11), .i .i64 (.y 1881), .i .i64 (.y 11), .i .i64 (.y 1882), .i .i64 (.y 11), .i .i64 (.y 1883), .i .i64 (.y 11), .i .i64 (.y 1884), .i .i64 (.y 11), .i .i64 (.y 1885), .i .i64 (.y 11), .i .i64 (.y 1886), .i .i64 (.y 11), .i .i64 (.y 1887), .i .i64 (.y 11), .i .i64 (.y 1888), .i .i64 (.y 11), .i .i64 (.y 1889), .i .i64 (.y 11), .i .i64 (.y 1890), .i .i64 (.y 11), .i .i64 (.y 1891), .i .i64 (.y 11), .i .i64 (.y 1892), .i .i64 (.y 11), .i .i64 (.y 1893), .i .i64 (.y 11), .i .i64 (.y 1894), .i .i64 (.y 11), .i .i64 (.y 1895), .i .i64 (.y 11), .i .i64 (.y 1896), .i .i64 (.y 11), .i .i64 (.y 1897), .i .i64 (.y 11), .i .i64 (.y 1898), .i .i64 (.y 11), .i .i64 (.y 1899), .i .i64 (.y 11), .i .i64 (.y 1900), .i .i64 (.y 11), .i .i64 (.y 1901), .i .i64 (.y 11), .i .i64 (.y 1902), .i .i64 (.y 11), .i .i64 (.y 1903), .i .i64 (.y 11), .i .i64 (.y 1904), .i .i64 (.y 11), .i .i64 (.y 1905), .i .i64 (.y 11), .i .i64 (.y 1906), .i .i64 (.y 11), .i .i64 (.y 1907), .i .i64 (.y 11), .i .i64 (.y 1908), .i .i64 (.y 11), .i .i64 (.y 1909), .i .i64 (.y 11), .i .i64 (.y 1910), .i .i64 (.y 11), .i .i64 (.y 1911), .i .i64 (.y 11), .i .i64 (.y 1912), .i .i64 (.y 11), .i .i64 (.y 1913), .i .i64 (.y 11), .i .i64 (.y 1914), .i .i64 (.y 11), .i .i64 (.y 1915), .i .i64 (.y 11), .i .i64 (.y 1916), .i .i64 (.y 11), .i .i64 (.y 1917), .i .i64 (.y 11), .i .i64 (.y 1918), .i .i64 (.y 11), .i .i64 (.y 1919), .i .i64 (.y 11), .i .i64 (.y 1920), .i .i64 (.y 11), .i .i64 (.y 1921), .i .i64 (.y 11), .i .i64 (.y 1922), .i .i64 (.y 11), .i .i64 (.y 1923), .i .i64 (.y 11), .i .i64 (.y 1924), .i .i64 (.y 11), .i .i64 (.y 1925), .i .i64 (.y 11), .i .i64 (.y 1926), .i .i64 (.y 11), .i .i64 (.y 1927), .i .i64 (.y 11), .i .i64 (.y 1928), .i .i64 (.y 11), .i .i64 (.y 1929), .i .i64 (.y 11), .i .i64 (.y 1930), .i .i64 (.y 11), .i .i64 (.y 1931), .i .i64 (.y 11), .i .i64 (.y 1932), .i .i64 (.y 11), .i .i64 (.y 1933), .i .i64 (.y 11), .i .i64 (.y 1934), .i .i64 (.y 11), .i .i64 (.y 1935), .i .i64 (.y 11), .i .i64 (.y 1936), .i .i64 (.y 11), .i .i64 (.y 1937), .i .i64 (.y 11), .i .i64 (.y 1938), .i .i64 (.y 11), .i .i64 (.y 1939), .i .i64 (.y 11), .i .i64 (.y 1940), .i .i64 (.y 11), .i .i64 (.y 1941), .i .i64 (.y 11), .i .i64 (.y 1942), .i .i64 (.y 11), .i .i64 (.y 1943), .i .i64 (.y 11), .i .i64 (.y 1944), .i .i64 (.y 11), .i .i64 (.y 1945), .i .i64 (.y 11), .i .i64 (.y 1946), .i .i64 (.y 11), .i .i64 (.y 1947), .i .i64 (.y 11), .i .i64 (.y 1948), .i .i64 (.y 11), .i .i64 (.y 1949), .i .i64 (.y 11), .i .i64 (.y 1950), .i .i64 (.y 11), .i .i64 (.y 1951), .i .i64 (.y 11), .i .i64 (.y 1952), .i .i64 (.y 11), .i .i64 (.y 1953), .i .i64 (.y 11), .i .i64 (.y 1954), .i .i64 (.y 11), .i .i64 (.y 1955), .i .i64 (.y 11), .i .i64 (.y 1956), .i .i64 (.y 11), .i .i64 (.y 1957), .i .i64 (.y 11), .i .i64 (.y 1958), .i .i64 (.y 11), .i .i64 (.y 1959), .i .i64 (.y 11), .i .i64 (.y 1960), .i .i64 (.y 11), .i .i64 (.y 1961), .i .i64 (.y 11), .i .i64 (.y 1962), .i .i64 (.y 11), .i .i64 (.y 1963), .i .i64 (.y 11), .i .i64 (.y 1964), .i .i64 (.y 11), .i .i64 (.y 1965), .i .i64 (.y 11), .i .i64 (.y 1966), .i .i64 (.y 11), .i .i64 (.y 1967), .i .i64 (.y 11), .i .i64 (.y 1968), .i .i64 (.y 11), .i .i64 (.y 1969), .i .i64 (.y 11), .i .i64 (.y 1970), .i .i64 (.y 11), .i .i64 (.y 1971), .i .i64 (.y 11), .i .i64 (.y 1972), .i .i64 (.y 11), .i .i64 (.y 1973), .i .i64 (.y 11), .i .i64 (.y 1974), .i .i64 (.y 11), .i .i64 (.y 1975), .i .i64 (.y 11), .i .i64 (.y 1976), .i .i64 (.y 11), .i .i64 (.y 1977), .i .i64 (.y 11), .i .i64 (.y 1978), .i .i64 (.y 11), .i .i64 (.y 1979), .i .i64 (.y 11), .i .i64 (.y 1980), .i .i64 (.y 11), .i .i64 (.y 1981), .i .i64 (.y 11), .i .i64 (.y 1982), .i .i64 (.y 11), .i .i64 (.y 1983), .i .i64 (.y 11), .i .i64 (.y 1984), .i .i64 (.y 11), .i .i64 (.y 1985), .i .i64 (.y 11), .i .i64 (.y 1986), .i .i64 (.y 11), .i .i64 (.y 1987), .i .i64 (.y 11), .i .i64 (.y 1988), .i .i64 (.y 11), .i .i64 (.y 1989), .i .i64 (.y 11), .i .i64 (.y 1990), .i .i64 (.y 11), .i .i64 (.y 1991), .i .i64 (.y 11), .i .i64 (.y 1992), .i .i64 (.y 11), .i .i64 (.y 1993), .i .i64 (.y 11), .i .i64 (.y 1994), .i .i64 (.y 11), .i .i64 (.y 1995), .i .i64 (.y 11), .i .i64 (.y 1996), .i .i64 (.y 11), .i .i64 (.y 1997), .i .i64 (.y 11), .i .i64 (.y 1998), .i .i64 (.y 11), .i .i64 (.y 1999), .i .i64 (.y 11)]
theorem qfu : upto 256 = codeLit := by kernel_rfl
def cntI (m : Nat) (c : Int) : Int := Hu.cnt m c.toNat
def codeI (c : Int) : Int := Hu.codeOf c.toNat
def clsI (c : Int) : Int := Hu.cls c.toNat
theorem qtp {m : Nat} {c : Int} (h : 0 ≤ c) : 0 ≤ cntI m c ∧ cntI m c ≤ c := by
  have := Hu.cnt_le m c.toNat
  unfold cntI; omega
theorem qbe {m : Nat} {c : Int} (h : 0 ≤ c) : cntI m (c + 1) = cntI m c + (if Hu.cls c.toNat = m then 1 else 0) := by
  unfold cntI
  rw [show (c + 1).toNat = c.toNat + 1 by omega, Hu.qyp]
  split <;> simp
theorem codeI_eq {m : Nat} {c : Int} (h : Hu.cls c.toNat = m) : codeI c = Hu.base m + cntI m c := by
  unfold codeI cntI Hu.codeOf; rw [h]; simp
theorem qvt {F : List SV} {n : Nat} : lenS F = n → n = (match F with | [] => 0 | _ :: l => lenS l + 1) := by
  intro h
  cases F with
  | nil => exact h.symm
  | cons x xs => exact h.symm
theorem s_wr' {S : Sy} {F : List SV} {i : Int} {sz j : Nat} {ws : List SV} {K : List SV → Prop} (hS : S0 Tryz.prog = S) (h0 : 0 ≤ i) (h1 : (i.toNat + 1) * sz ≤ F.length) (h2 : j + ws.length ≤ sz) (h3 : plains ws = true)
    (h4 : ∀ F', repl F (i.toNat * sz + j) ws = F' → K F') : S.wr F i sz j ws K := s_wr hS h0 h1 h2 h3 (h4 _ rfl)
theorem subL_put {x y : SV} (h : Sub x y) : ∀ {F F' : List SV} (o : Nat), SubL F F' → SubL (put F o x) (put F' o y)
  | _, _, _, .nil => .nil
  | _, _, 0, .cons _ hs => .cons h hs
  | _, _, o + 1, .cons h1 hs => .cons h1 (subL_put h o hs)
theorem subL_repl {ws ws' : List SV} (h : SubL ws ws') : ∀ {F F' : List SV} (o : Nat), SubL F F' → SubL (repl F o ws) (repl F' o ws') := by
  induction h with
  | nil => exact fun _ h => h
  | cons h _ ih => exact fun o hF => ih (o + 1) (subL_put h o hF)
theorem qlz {F F' : List SV} {c a : Int} {m : Nat} (h0 : 0 ≤ c) (h : c < 256) (hF : F = upto c.toNat) (hc : Hu.cls c.toNat = m) (ha : a = Hu.base m + cntI m c) (h' : repl F (c.toNat * 2 + 0) [.i .i64 (.y a), .i .i64 (.l m)] = F') : SubL F' (upto (c + 1).toNat) := by
  rw [← h', hF, show (c + 1).toNat = c.toNat + 1 by omega, ← upto_next (by omega)]
  refine subL_repl (.cons (qak ?_) (.cons (qak ?_) .nil)) _ .rfl
  · simp only [Z.v]; rw [ha, ← codeI_eq hc]; rfl
  · simp only [Z.v]; rw [← hc]
theorem s_all {S : Sy} (hS : S0 Tryz.prog = S) {cs ws : List SV} {sz : Nat} {K : List SV → Prop} (h1 : cs.length = sz) (h2 : ws.length = sz) (hp : plains ws = true) (h : K ws) : S.wr cs 0 sz 0 ws K := by
  refine s_wr hS (Int.le_refl 0) (by rw [h1]; simp) (by rw [h2]; simp) hp ?_
  have : ∀ (cs ws : List SV), cs.length = ws.length → repl cs 0 ws = ws := by
    intro cs
    induction cs with
    | nil => intro ws h; cases ws with
      | nil => rfl
      | cons => simp at h
    | cons c cs ih => intro ws h; cases ws with
      | nil => simp at h
      | cons w ws =>
        rw [repl, put, qme, ih ws (by simpa using h)]
  rw [show (0 : Int).toNat * sz + 0 = 0 by simp, this cs ws (by rw [h1, h2])]
  exact h
theorem codes_f : (S0 Tryz.prog).call 112 [] [] (fun x _ => Sub x (.ag codeLit)) := by
  generalize hT : codeLit = T
  generalize hS : S0 Tryz.prog = S
  refine qab hS I.qya ?_
  unfold I.qvw
  generalize hZ : repS 512 [SV.i .i64 (.l 0)] = Zs
  cbv
  refine qab hS I.qyb ?_
  cbv
  refine qkk hS I.qtc ?_
  cbv
  iterate 4 (refine s_mu hS ?_; cbv)
  have hz : Zs = upto 0 := by rw [← hZ, qxa]; rfl
  have hg : ∀ (F : List SV) (n : Nat), F = upto n → ∀ ok, refsBL ok F = true := by
    intro F n hF ok
    subst hF
    exact qar (qvg n)
  refine qax hS 4 I.qlr (fun x : Int × Int × Int × Int × Int × List SV => 0 ≤ x.1 ∧ x.1 ≤ 256 ∧ x.2.1 = cntI 5 x.1 ∧ x.2.2.1 = 32 + cntI 6 x.1 ∧ x.2.2.2.1 = 96 + cntI 7 x.1 ∧ x.2.2.2.2.1 = 1792 + cntI 11 x.1 ∧ x.2.2.2.2.2 = upto x.1.toNat)
    (fun x => [(10, .i .i64 (.y x.1))])
    (fun x => [(0, .c x.2.2.2.2.2), (3, .m [(.i .i64 (.l 5), .i .i64 (.y x.2.1)), (.i .i64 (.l 6), .i .i64 (.y x.2.2.1)), (.i .i64 (.l 7), .i .i64 (.y x.2.2.2.1)), (.i .i64 (.l 11), .i .i64 (.y x.2.2.2.2.1))])])
    (fun x => (256 - x.1).toNat) (0, 0, 32, 96, 1792, Zs) rfl ⟨⟨Int.le_refl _, (by show (0 : Int) ≤ 256; omega), rfl, rfl, rfl, rfl, hz⟩, rfl, ?_, ?_, ?_⟩ ?_
  · cbv; all_goals exact s_sA
  · cbv; all_goals exact s_bA
  · cbv
    exact qzaan (hg _ _ hz _)
  · intro x
    obtain ⟨c, a5, a6, a7, a11, F⟩ := x
    intro ha
    dsimp only at ha
    cbv
    obtain ⟨h0, h1, e5, e6, e7, e11, hF⟩ := ha
    refine s_br hS ?_ ?_ <;> intro h
    · cbv
      simp only [← hS, Int.ofNat_eq_natCast, cq, Bool.not_eq_true', Bool.not_eq_false', decide_eq_true_eq, decide_eq_false_iff_not, beq_iff_eq, beq_eq_false_iff_ne, ne_eq] at h
      have k5 := qtp (m := 5) h0
      have k6 := qtp (m := 6) h0
      have k7 := qtp (m := 7) h0
      have k11 := qtp (m := 11) h0
      have hlen : lenS F = 512 := by rw [qbv, hF, qep (by omega)]
      rcases idx_at h0 h with ⟨hc, i5, i6, i7⟩ | ⟨hc, i5, i6, i7⟩ | ⟨hc, i5, i6, i7⟩ | ⟨hc, i5, i6, i7⟩
      · refine qaz hS ?_
        cbv
        repeat' (first
          | (refine s_st hS ?_; try cbv)
          | (refine qac hS ?_ ?_ <;> intro h <;> (try cbv) <;> try exact s_ab h)
          | (refine qah hS ?_; intro _ _; try cbv)
          | (refine qad hS ?_; try cbv))
        refine qdt hS fun r5 h5 => ?_
        replace h5 : 0 ≤ r5 := by rw [← h5]; exact i5
        cbv
        repeat' (first
          | (refine s_st hS ?_; try cbv)
          | (refine qac hS ?_ ?_ <;> intro h <;> (try cbv) <;> try exact s_ab h)
          | (refine qah hS ?_; intro _ _; try cbv)
          | (refine qad hS ?_; try cbv))
        refine qaz hS ?_
        cbv
        repeat' (first
          | (refine s_st hS ?_; try cbv)
          | (refine qac hS ?_ ?_ <;> intro h <;> (try cbv) <;> try exact s_ab h)
          | (refine qah hS ?_; intro _ _; try cbv)
          | (refine qad hS ?_; try cbv))
        refine qdt hS fun r6 h6 => ?_
        replace h6 : r6 < 0 := by rw [← h6]; exact i6
        cbv
        repeat' (first
          | (refine s_st hS ?_; try cbv)
          | (refine qac hS ?_ ?_ <;> intro h <;> (try cbv) <;> try exact s_ab h)
          | (refine qah hS ?_; intro _ _; try cbv)
          | (refine qad hS ?_; try cbv))
        refine qaz hS ?_
        cbv
        repeat' (first
          | (refine s_st hS ?_; try cbv)
          | (refine qac hS ?_ ?_ <;> intro h <;> (try cbv) <;> try exact s_ab h)
          | (refine qah hS ?_; intro _ _; try cbv)
          | (refine qad hS ?_; try cbv))
        refine qdt hS fun r7 h7 => ?_
        replace h7 : r7 < 0 := by rw [← h7]; exact i7
        cbv
        repeat' (first
          | (refine s_st hS ?_; try cbv)
          | (refine qac hS ?_ ?_ <;> intro h <;> (try cbv) <;> try exact s_ab h)
          | (refine qah hS ?_; intro _ _; try cbv)
          | (refine qad hS ?_; try cbv))
        refine qaz hS ?_
        cbv
        repeat' (first
          | (refine s_st hS ?_; try cbv)
          | (refine qac hS ?_ ?_ <;> intro h <;> (try cbv) <;> try exact s_ab h)
          | (refine qah hS ?_; intro _ _; try cbv)
          | (refine qad hS ?_; try cbv))
        refine qmc hS rfl rfl ?_
        cbv
        refine qvu (qvt hlen) ?_
        cbv
        repeat' (first
          | (refine s_st hS ?_; try cbv)
          | (refine qac hS ?_ ?_ <;> intro h <;> (try cbv) <;> try exact s_ab h)
          | (refine qah hS ?_; intro _ _; try cbv)
          | (refine qad hS ?_; try cbv))
        refine s_wr' hS h0 (by rw [hF, qep (by omega)]; omega) (Nat.le_refl 2) rfl ?_
        intro F' hF'
        cbv
        repeat' (first
          | (refine s_st hS ?_; try cbv)
          | (refine qac hS ?_ ?_ <;> intro h <;> (try cbv) <;> try exact s_ab h)
          | (refine qah hS ?_; intro _ _; try cbv)
          | (refine qad hS ?_; try cbv))
        obtain ⟨c1, h_c1⟩ : ∃ r_, r_ = c + 1 := ⟨_, rfl⟩
        obtain ⟨F2, hF2⟩ : ∃ F2, F2 = upto c1.toNat := ⟨_, rfl⟩
        obtain ⟨b5, h_b5⟩ : ∃ r_, r_ = a5 + 1 := ⟨_, rfl⟩
        have n5 := qbe (m := 5) h0
        have n6 := qbe (m := 6) h0
        have n7 := qbe (m := 7) h0
        have n11 := qbe (m := 11) h0
        rw [hc, ← h_c1] at n5 n6 n7 n11
        simp at n5 n6 n7 n11
        have hsub : SubL F' F2 := by
          rw [hF2, h_c1]
          exact qlz h0 (by assumption) hF hc (by simp [Hu.base]; omega) hF'
        refine ⟨(c1, b5, a6, a7, a11, F2), by dsimp only; omega, ⟨by dsimp only; omega, by dsimp only; omega, by dsimp only; omega, by dsimp only; omega, by dsimp only; omega, by dsimp only; omega, hF2⟩, rfl, ?_, ?_, ?_⟩
        · cbv; all_goals exact s_sA
        · cbv; all_goals exact s_bA
        · cbv; exact qzaan (hg _ _ hF2 _)
      · refine qaz hS ?_
        cbv
        repeat' (first
          | (refine s_st hS ?_; try cbv)
          | (refine qac hS ?_ ?_ <;> intro h <;> (try cbv) <;> try exact s_ab h)
          | (refine qah hS ?_; intro _ _; try cbv)
          | (refine qad hS ?_; try cbv))
        refine qdt hS fun r5 h5 => ?_
        replace h5 : r5 < 0 := by rw [← h5]; exact i5
        cbv
        repeat' (first
          | (refine s_st hS ?_; try cbv)
          | (refine qac hS ?_ ?_ <;> intro h <;> (try cbv) <;> try exact s_ab h)
          | (refine qah hS ?_; intro _ _; try cbv)
          | (refine qad hS ?_; try cbv))
        refine qaz hS ?_
        cbv
        repeat' (first
          | (refine s_st hS ?_; try cbv)
          | (refine qac hS ?_ ?_ <;> intro h <;> (try cbv) <;> try exact s_ab h)
          | (refine qah hS ?_; intro _ _; try cbv)
          | (refine qad hS ?_; try cbv))
        refine qdt hS fun r6 h6 => ?_
        replace h6 : 0 ≤ r6 := by rw [← h6]; exact i6
        cbv
        repeat' (first
          | (refine s_st hS ?_; try cbv)
          | (refine qac hS ?_ ?_ <;> intro h <;> (try cbv) <;> try exact s_ab h)
          | (refine qah hS ?_; intro _ _; try cbv)
          | (refine qad hS ?_; try cbv))
        refine qaz hS ?_
        cbv
        repeat' (first
          | (refine s_st hS ?_; try cbv)
          | (refine qac hS ?_ ?_ <;> intro h <;> (try cbv) <;> try exact s_ab h)
          | (refine qah hS ?_; intro _ _; try cbv)
          | (refine qad hS ?_; try cbv))
        refine qdt hS fun r7 h7 => ?_
        replace h7 : r7 < 0 := by rw [← h7]; exact i7
        cbv
        repeat' (first
          | (refine s_st hS ?_; try cbv)
          | (refine qac hS ?_ ?_ <;> intro h <;> (try cbv) <;> try exact s_ab h)
          | (refine qah hS ?_; intro _ _; try cbv)
          | (refine qad hS ?_; try cbv))
        refine qaz hS ?_
        cbv
        repeat' (first
          | (refine s_st hS ?_; try cbv)
          | (refine qac hS ?_ ?_ <;> intro h <;> (try cbv) <;> try exact s_ab h)
          | (refine qah hS ?_; intro _ _; try cbv)
          | (refine qad hS ?_; try cbv))
        refine qmc hS rfl rfl ?_
        cbv
        refine qvu (qvt hlen) ?_
        cbv
        repeat' (first
          | (refine s_st hS ?_; try cbv)
          | (refine qac hS ?_ ?_ <;> intro h <;> (try cbv) <;> try exact s_ab h)
          | (refine qah hS ?_; intro _ _; try cbv)
          | (refine qad hS ?_; try cbv))
        refine s_wr' hS h0 (by rw [hF, qep (by omega)]; omega) (Nat.le_refl 2) rfl ?_
        intro F' hF'
        cbv
        repeat' (first
          | (refine s_st hS ?_; try cbv)
          | (refine qac hS ?_ ?_ <;> intro h <;> (try cbv) <;> try exact s_ab h)
          | (refine qah hS ?_; intro _ _; try cbv)
          | (refine qad hS ?_; try cbv))
        obtain ⟨c1, h_c1⟩ : ∃ r_, r_ = c + 1 := ⟨_, rfl⟩
        obtain ⟨F2, hF2⟩ : ∃ F2, F2 = upto c1.toNat := ⟨_, rfl⟩
        obtain ⟨b6, h_b6⟩ : ∃ r_, r_ = a6 + 1 := ⟨_, rfl⟩
        have n5 := qbe (m := 5) h0
        have n6 := qbe (m := 6) h0
        have n7 := qbe (m := 7) h0
        have n11 := qbe (m := 11) h0
        rw [hc, ← h_c1] at n5 n6 n7 n11
        simp at n5 n6 n7 n11
        have hsub : SubL F' F2 := by
          rw [hF2, h_c1]
          exact qlz h0 (by assumption) hF hc (by simp [Hu.base]; omega) hF'
        refine ⟨(c1, a5, b6, a7, a11, F2), by dsimp only; omega, ⟨by dsimp only; omega, by dsimp only; omega, by dsimp only; omega, by dsimp only; omega, by dsimp only; omega, by dsimp only; omega, hF2⟩, rfl, ?_, ?_, ?_⟩
        · cbv; all_goals exact s_sA
        · cbv; all_goals exact s_bA
        · cbv; exact qzaan (hg _ _ hF2 _)
      · refine qaz hS ?_
        cbv
        repeat' (first
          | (refine s_st hS ?_; try cbv)
          | (refine qac hS ?_ ?_ <;> intro h <;> (try cbv) <;> try exact s_ab h)
          | (refine qah hS ?_; intro _ _; try cbv)
          | (refine qad hS ?_; try cbv))
        refine qdt hS fun r5 h5 => ?_
        replace h5 : r5 < 0 := by rw [← h5]; exact i5
        cbv
        repeat' (first
          | (refine s_st hS ?_; try cbv)
          | (refine qac hS ?_ ?_ <;> intro h <;> (try cbv) <;> try exact s_ab h)
          | (refine qah hS ?_; intro _ _; try cbv)
          | (refine qad hS ?_; try cbv))
        refine qaz hS ?_
        cbv
        repeat' (first
          | (refine s_st hS ?_; try cbv)
          | (refine qac hS ?_ ?_ <;> intro h <;> (try cbv) <;> try exact s_ab h)
          | (refine qah hS ?_; intro _ _; try cbv)
          | (refine qad hS ?_; try cbv))
        refine qdt hS fun r6 h6 => ?_
        replace h6 : r6 < 0 := by rw [← h6]; exact i6
        cbv
        repeat' (first
          | (refine s_st hS ?_; try cbv)
          | (refine qac hS ?_ ?_ <;> intro h <;> (try cbv) <;> try exact s_ab h)
          | (refine qah hS ?_; intro _ _; try cbv)
          | (refine qad hS ?_; try cbv))
        refine qaz hS ?_
        cbv
        repeat' (first
          | (refine s_st hS ?_; try cbv)
          | (refine qac hS ?_ ?_ <;> intro h <;> (try cbv) <;> try exact s_ab h)
          | (refine qah hS ?_; intro _ _; try cbv)
          | (refine qad hS ?_; try cbv))
        refine qdt hS fun r7 h7 => ?_
        replace h7 : 0 ≤ r7 := by rw [← h7]; exact i7
        cbv
        repeat' (first
          | (refine s_st hS ?_; try cbv)
          | (refine qac hS ?_ ?_ <;> intro h <;> (try cbv) <;> try exact s_ab h)
          | (refine qah hS ?_; intro _ _; try cbv)
          | (refine qad hS ?_; try cbv))
        refine qaz hS ?_
        cbv
        repeat' (first
          | (refine s_st hS ?_; try cbv)
          | (refine qac hS ?_ ?_ <;> intro h <;> (try cbv) <;> try exact s_ab h)
          | (refine qah hS ?_; intro _ _; try cbv)
          | (refine qad hS ?_; try cbv))
        refine qmc hS rfl rfl ?_
        cbv
        refine qvu (qvt hlen) ?_
        cbv
        repeat' (first
          | (refine s_st hS ?_; try cbv)
          | (refine qac hS ?_ ?_ <;> intro h <;> (try cbv) <;> try exact s_ab h)
          | (refine qah hS ?_; intro _ _; try cbv)
          | (refine qad hS ?_; try cbv))
        refine s_wr' hS h0 (by rw [hF, qep (by omega)]; omega) (Nat.le_refl 2) rfl ?_
        intro F' hF'
        cbv
        repeat' (first
          | (refine s_st hS ?_; try cbv)
          | (refine qac hS ?_ ?_ <;> intro h <;> (try cbv) <;> try exact s_ab h)
          | (refine qah hS ?_; intro _ _; try cbv)
          | (refine qad hS ?_; try cbv))
        obtain ⟨c1, h_c1⟩ : ∃ r_, r_ = c + 1 := ⟨_, rfl⟩
        obtain ⟨F2, hF2⟩ : ∃ F2, F2 = upto c1.toNat := ⟨_, rfl⟩
        obtain ⟨b7, h_b7⟩ : ∃ r_, r_ = a7 + 1 := ⟨_, rfl⟩
        have n5 := qbe (m := 5) h0
        have n6 := qbe (m := 6) h0
        have n7 := qbe (m := 7) h0
        have n11 := qbe (m := 11) h0
        rw [hc, ← h_c1] at n5 n6 n7 n11
        simp at n5 n6 n7 n11
        have hsub : SubL F' F2 := by
          rw [hF2, h_c1]
          exact qlz h0 (by assumption) hF hc (by simp [Hu.base]; omega) hF'
        refine ⟨(c1, a5, a6, b7, a11, F2), by dsimp only; omega, ⟨by dsimp only; omega, by dsimp only; omega, by dsimp only; omega, by dsimp only; omega, by dsimp only; omega, by dsimp only; omega, hF2⟩, rfl, ?_, ?_, ?_⟩
        · cbv; all_goals exact s_sA
        · cbv; all_goals exact s_bA
        · cbv; exact qzaan (hg _ _ hF2 _)
      · refine qaz hS ?_
        cbv
        repeat' (first
          | (refine s_st hS ?_; try cbv)
          | (refine qac hS ?_ ?_ <;> intro h <;> (try cbv) <;> try exact s_ab h)
          | (refine qah hS ?_; intro _ _; try cbv)
          | (refine qad hS ?_; try cbv))
        refine qdt hS fun r5 h5 => ?_
        replace h5 : r5 < 0 := by rw [← h5]; exact i5
        cbv
        repeat' (first
          | (refine s_st hS ?_; try cbv)
          | (refine qac hS ?_ ?_ <;> intro h <;> (try cbv) <;> try exact s_ab h)
          | (refine qah hS ?_; intro _ _; try cbv)
          | (refine qad hS ?_; try cbv))
        refine qaz hS ?_
        cbv
        repeat' (first
          | (refine s_st hS ?_; try cbv)
          | (refine qac hS ?_ ?_ <;> intro h <;> (try cbv) <;> try exact s_ab h)
          | (refine qah hS ?_; intro _ _; try cbv)
          | (refine qad hS ?_; try cbv))
        refine qdt hS fun r6 h6 => ?_
        replace h6 : r6 < 0 := by rw [← h6]; exact i6
        cbv
        repeat' (first
          | (refine s_st hS ?_; try cbv)
          | (refine qac hS ?_ ?_ <;> intro h <;> (try cbv) <;> try exact s_ab h)
          | (refine qah hS ?_; intro _ _; try cbv)
          | (refine qad hS ?_; try cbv))
        refine qaz hS ?_
        cbv
        repeat' (first
          | (refine s_st hS ?_; try cbv)
          | (refine qac hS ?_ ?_ <;> intro h <;> (try cbv) <;> try exact s_ab h)
          | (refine qah hS ?_; intro _ _; try cbv)
          | (refine qad hS ?_; try cbv))
        refine qdt hS fun r7 h7 => ?_
        replace h7 : r7 < 0 := by rw [← h7]; exact i7
        cbv
        repeat' (first
          | (refine s_st hS ?_; try cbv)
          | (refine qac hS ?_ ?_ <;> intro h <;> (try cbv) <;> try exact s_ab h)
          | (refine qah hS ?_; intro _ _; try cbv)
          | (refine qad hS ?_; try cbv))
        refine qaz hS ?_
        cbv
        repeat' (first
          | (refine s_st hS ?_; try cbv)
          | (refine qac hS ?_ ?_ <;> intro h <;> (try cbv) <;> try exact s_ab h)
          | (refine qah hS ?_; intro _ _; try cbv)
          | (refine qad hS ?_; try cbv))
        refine qmc hS rfl rfl ?_
        cbv
        refine qvu (qvt hlen) ?_
        cbv
        repeat' (first
          | (refine s_st hS ?_; try cbv)
          | (refine qac hS ?_ ?_ <;> intro h <;> (try cbv) <;> try exact s_ab h)
          | (refine qah hS ?_; intro _ _; try cbv)
          | (refine qad hS ?_; try cbv))
        refine s_wr' hS h0 (by rw [hF, qep (by omega)]; omega) (Nat.le_refl 2) rfl ?_
        intro F' hF'
        cbv
        repeat' (first
          | (refine s_st hS ?_; try cbv)
          | (refine qac hS ?_ ?_ <;> intro h <;> (try cbv) <;> try exact s_ab h)
          | (refine qah hS ?_; intro _ _; try cbv)
          | (refine qad hS ?_; try cbv))
        obtain ⟨c1, h_c1⟩ : ∃ r_, r_ = c + 1 := ⟨_, rfl⟩
        obtain ⟨F2, hF2⟩ : ∃ F2, F2 = upto c1.toNat := ⟨_, rfl⟩
        obtain ⟨b11, h_b11⟩ : ∃ r_, r_ = a11 + 1 := ⟨_, rfl⟩
        have n5 := qbe (m := 5) h0
        have n6 := qbe (m := 6) h0
        have n7 := qbe (m := 7) h0
        have n11 := qbe (m := 11) h0
        rw [hc, ← h_c1] at n5 n6 n7 n11
        simp at n5 n6 n7 n11
        have hsub : SubL F' F2 := by
          rw [hF2, h_c1]
          exact qlz h0 (by assumption) hF hc (by simp [Hu.base]; omega) hF'
        refine ⟨(c1, a5, a6, a7, b11, F2), by dsimp only; omega, ⟨by dsimp only; omega, by dsimp only; omega, by dsimp only; omega, by dsimp only; omega, by dsimp only; omega, by dsimp only; omega, hF2⟩, rfl, ?_, ?_, ?_⟩
        · cbv; all_goals exact s_sA
        · cbv; all_goals exact s_bA
        · cbv; exact qzaan (hg _ _ hF2 _)
    · simp only [← hS, Int.ofNat_eq_natCast, cq, Bool.not_eq_true', Bool.not_eq_false', decide_eq_true_eq, decide_eq_false_iff_not, beq_iff_eq, beq_eq_false_iff_ne, ne_eq] at h
      have hF2 : F = codeLit := by rw [hF, show c = 256 by omega]; exact qfu
      rw [hF2]
      cbv
      refine qwt hS (by subst hS; kernel_rfl) ?_
      refine s_all hS (by kernel_rfl) (by kernel_rfl) (by kernel_rfl) ?_
      cbv
      rw [← hT]
      exact Sub.rfl
end Cz
namespace Cz
open Go Go.RowKit Go.Proofs
theorem qto {T : List SV} (hT : codeLit = T) : lenS T = 512 := by rw [qbv, ← hT, ← qfu, qep (Nat.le_refl _)]
end Cz
namespace Cz
open Go Go.RowKit Go.Proofs
theorem SubM.refl : ∀ (es : List (SV × SV)), SubM es es
  | [] => .nil
  | (_, _) :: r => .cons .rfl .rfl (SubM.refl r)
end Cz
namespace Cz
open Go Go.RowKit Go.Proofs
def findO (a m : Int) : Option Nat := if 0 ≤ a ∧ 0 ≤ m then Hu.find a.toNat m.toNat else none
def findR (a m : Int) : Int := match findO a m with | some c => c | none => 0
end Cz
namespace Cz
open Go Go.RowKit Go.Proofs
def bitI (b : List Int) (i : Int) : Int := ((Hu.bl b).getD i.toNat false).toNat
theorem qub : ∀ {m n i : Nat}, i < m → (Hu.bitsN m n)[i]? = some (n / 2 ^ (m - 1 - i) % 2 == 1)
  | m + 1, n, i, h => by
    simp only [Hu.bitsN]
    rcases Nat.lt_or_ge i m with hi | hi
    · rw [List.getElem?_append_left (by rw [Hu.qbp]; exact hi), qub hi, Nat.div_div_eq_div_mul, ← Nat.pow_succ', show m + 1 - 1 - i = (m - 1 - i).succ by omega]
    · obtain rfl : i = m := by omega
      rw [List.getElem?_append_right (by rw [Hu.qbp]; omega), Hu.qbp]
      simp
theorem bl_get {b : List Int} {q j : Nat} {v : Int} (h : b[q]? = some v) (hj : j < 8) : (Hu.bl b)[q * 8 + j]? = (Hu.bitsN 8 v.toNat)[j]? := by
  induction b generalizing q with
  | nil => simp at h
  | cons u b ih =>
    cases q with
    | zero =>
      simp only [List.getElem?_cons_zero, Option.some.injEq] at h; subst h
      simp only [Hu.bl, List.flatMap_cons, Nat.zero_mul, Nat.zero_add]
      rw [List.getElem?_append_left (by rw [Hu.qbp]; exact hj)]
    | succ q =>
      simp only [List.getElem?_cons_succ] at h
      have := ih h
      simp only [Hu.bl, List.flatMap_cons] at this ⊢
      rw [List.getElem?_append_right (by rw [Hu.qbp]; omega), Hu.qbp, show (q + 1) * 8 + j - 8 = q * 8 + j by omega]
      exact this
theorem bit_of {b : List Int} {i q j v r : Int} (hv : b[q.toNat]? = some v) (hok : Hu.BOk b) (h0 : 0 ≤ i) (hq : q = i / 8) (hj : j = 7 - i % 8) (hr : r = v / 2 ^ j.toNat % 2) : bitI b i = r := by
  have hv0 := hok v (List.mem_of_getElem? hv)
  have e : i.toNat = q.toNat * 8 + (i % 8).toNat := by omega
  unfold bitI
  rw [List.getD_eq_getElem?_getD, e, bl_get hv (by omega), qub (by omega), show 8 - 1 - (i % 8).toNat = j.toNat by omega, hr]
  simp only [Option.getD_some]
  have e2 : v / 2 ^ j.toNat % 2 = ((v.toNat / 2 ^ j.toNat % 2 : Nat) : Int) := by
    push_cast
    rw [Int.toNat_of_nonneg hv0.1]
  rw [e2]
  have : v.toNat / 2 ^ j.toNat % 2 = 0 ∨ v.toNat / 2 ^ j.toNat % 2 = 1 := by omega
  rcases this with h | h <;> simp [h]
def okI (b : List Int) (i k : Int) : Bool := decide (0 ≤ i) && decide (i + k ≤ 8 * ilen b)
theorem okI_t {b : List Int} {i k : Int} (h0 : 0 ≤ i) (h : i + k ≤ 8 * ilen b) : okI b i k = true := by unfold okI; simp [h0, h]
theorem okI_f {b : List Int} {i k : Int} (h : i < 0 ∨ 8 * ilen b < i + k) : okI b i k = false := by
  unfold okI
  rcases h with h | h
  · simp; omega
  · simp; omega
theorem rowB {S : Sy} (hS : S0 Tryz.prog = S) {b : List Int} {F : List SV} (hF : cellsB b = F) {q i v : Int} {K : SV → Prop} (hv : b[q.toNat]? = some v) (hi : i = q) (h0 : 0 ≤ q) (h : K (.i .u8 (.y v))) : S.rd F i 1 0 1 false K := by
  subst hi
  exact s_rowp hS (enc := by1) hF hv (fun _ => rfl) h0 (Nat.le_refl _) rfl h
end Cz
namespace Cz
open Go Go.RowKit Go.Proofs
def bitsI (b : List Int) (k : Int) : Int := Hu.nbits (b.take k.toNat)
theorem zs_len {Zs : List SV} (h : repS 512 [SV.i .i64 (.l 0)] = Zs) : Zs.length = 512 := by rw [← h, qxa, List.length_replicate]
theorem qnk {T : List SV} (h : codeLit = T) : plains T = true := by rw [← h, ← qfu]; exact qvg 256
theorem gc_c {x y : Bool} : x = true → y = true → (match x with | false => false | true => y) = true := by intro hx hy; subst hx; exact hy
theorem gc_m {F : List SV} {ok : Nat → Bool} : refsBL ok F = true → (match F with | [] => true | x :: xs => refsB ok x && refsBL ok xs) = true := by
  intro h
  cases F with
  | nil => rfl
  | cons x xs => simpa only [refsBL] using h
theorem code_at {c j : Nat} (h : c < 256) (hj : j + 1 ≤ 2) : ((upto 256).drop (c * 2 + j)).take 1 = ((cellC c).drop j).take 1 := by
  have e : upto 256 = (List.range 256).flatMap cellC := by simp [upto]
  rw [e]
  exact qzacl (enc := cellC) (sz := 2) (fun _ => rfl) (l := List.range 256) (i := c) (a := c) (by simp [h]) j 1 hj
theorem code_rd1 {S : Sy} (hS : S0 Tryz.prog = S) {T : List SV} (hT : codeLit = T) {c : Int} {K : SV → Prop} (h0 : 0 ≤ c) (h : c < 256) {m : Int} (hm : clsI c = m)
    (h1 : K (.i .i64 (.y m))) : S.rd T c 2 1 1 false K := by
  subst hT hm
  rw [← qfu]
  refine s_rd hS h0 (by rw [qep (Nat.le_refl _)]; omega) (Nat.le_refl _) (v := .i .i64 (.y (clsI c))) ?_ h1
  rw [code_at (by omega) (by omega)]
  rfl
theorem code_rd0 {S : Sy} (hS : S0 Tryz.prog = S) {T : List SV} (hT : codeLit = T) {c : Int} {K : SV → Prop} (h0 : 0 ≤ c) (h : c < 256) {m : Int} (hm : codeI c = m)
    (h1 : K (.i .i64 (.y m))) : S.rd T c 2 0 1 false K := by
  subst hT hm
  rw [← qfu]
  refine s_rd hS h0 (by rw [qep (Nat.le_refl _)]; omega) (by omega) (v := .i .i64 (.y (codeI c))) ?_ h1
  rw [code_at (by omega) (by omega)]
  rfl
theorem qtq (c : Int) : 5 ≤ clsI c ∧ clsI c ≤ 11 := by
  unfold clsI
  rcases Hu.qik c.toNat with h | h | h | h <;> rw [h] <;> decide
theorem qix {b : List Int} {j v : Int} (hv : b[j.toNat]? = some v) (h0 : 0 ≤ j) : bitsI b (j + 1) = bitsI b j + clsI v := by
  unfold bitsI Hu.nbits Hu.enc clsI
  rw [qdd hv h0, List.flatMap_append, List.length_append]
  simp [Hu.cod, Hu.qbp]
theorem qeu {b : List Int} {j : Int} (h0 : 0 ≤ j) : 0 ≤ bitsI b j ∧ bitsI b j ≤ 11 * j := by
  unfold bitsI Hu.nbits Hu.enc
  have h1 : ∀ (l : List Int), (l.flatMap fun v => Hu.cod v.toNat).length ≤ 11 * l.length := by
    intro l
    induction l with
    | nil => simp
    | cons v l ih =>
      have := qtq v
      unfold clsI at this
      simp only [List.flatMap_cons, List.length_append, List.length_cons, Hu.cod, Hu.qbp] at ih ⊢
      omega
  have h2 := h1 (b.take j.toNat)
  have h3 : (b.take j.toNat).length ≤ j.toNat := by rw [List.length_take]; omega
  omega
theorem Bits_f {b : List Int} {r : Int} (hb : Hu.BOk b) (hn : ilen b ≤ 1000000) (hr : bitsI b (ilen b) = r) :
    (S0 Tryz.prog).call 100 [.sl 0 1 (.l 0) (.y (ilen b)) none] [.r true true (.l 0) 1 (cellsB b)] (fun x _ => Sub x (.i .i64 (.y r))) := by
  obtain ⟨n, hn'⟩ : ∃ n, n = ilen b := ⟨_, rfl⟩
  have h0n := qag b
  rw [← hn'] at hn h0n hr ⊢
  have hpl := qae b
  generalize hF : cellsB b = F at hpl ⊢
  have hc := codes_f
  generalize hT : codeLit = T at hc
  have hTl := qto hT
  generalize hS : S0 Tryz.prog = S
  refine qab hS I.qzaau ?_
  unfold I.qzaal
  generalize hZ : repS 512 [SV.i .i64 (.l 0)] = Zs
  have hZn := zs_len hZ
  have hTn : T.length = 512 := by rw [← qbv]; exact hTl
  have hTp := qnk hT
  cbv
  refine qbc hS hc .rfl rfl (by rw [← hT]; rfl) ?_
  cbv
  refine qwt hS (by subst hS; simp only [qzack, cmp_eq, hTn]; rfl) ?_
  refine s_all hS hZn hTn hTp ?_
  cbv
  refine qax hS 2 I.qqm (fun x : Int × Int => 0 ≤ x.1 ∧ x.1 ≤ n ∧ x.2 = bitsI b x.1)
    (fun x => [(9, .i .i64 (.y x.1)), (2, .i .i64 (.y x.2))]) (fun x => [])
    (fun x => (n - x.1).toNat) (0, 0) rfl ⟨⟨Int.le_refl _, by dsimp only; omega, rfl⟩, rfl, ?_, ?_, ?_⟩ ?_
  · cbv; all_goals exact s_sA
  · cbv; all_goals exact s_bA
  · cbv; exact gc_c (gc_m (qar hpl)) (gc_c (gc_m (qar hTp)) rfl)
  · intro x
    obtain ⟨j, w⟩ := x
    intro hx
    dsimp only at hx
    cbv
    obtain ⟨g0, g1, g2⟩ := hx
    repeat' (first
      | (refine s_st hS ?_; try cbv)
      | (refine qac hS ?_ ?_ <;> intro h <;> (try cbv) <;> try exact s_ab h)
      | (refine qah hS ?_; intro _ _; try cbv)
      | (refine qad hS ?_; try cbv))
    · obtain ⟨v, hv⟩ := qka (l := b) (i := j) (by omega) (by omega)
      have hb0 := hb v (List.mem_of_getElem? hv)
      obtain ⟨m, hm⟩ : ∃ m, clsI v = m := ⟨_, rfl⟩
      have hmb := qtq v
      rw [hm] at hmb
      have hbd := qeu (b := b) g0
      have hnx := qix hv g0
      rw [hm] at hnx
      repeat' (first
        | (refine s_st hS ?_; try cbv)
        | (refine qac hS ?_ ?_ <;> intro h <;> (try cbv) <;> try exact s_ab h)
        | (refine qah hS ?_; intro _ _; try cbv)
        | (refine qad hS ?_; try cbv)
        | (refine rowB hS hF hv rfl (by omega) ?_; try cbv)
        | (refine qvu (qvt hTl) ?_; cbv)
        | (refine code_rd1 hS hT hb0.1 hb0.2 hm ?_; cbv))
      rename_i w2 hw2 j2 hj2
      refine ⟨(j2, w2), by dsimp only; omega, ⟨by dsimp only; omega, by dsimp only; omega, by dsimp only; rw [hj2, hnx]; omega⟩, rfl, ?_, ?_, ?_⟩
      · cbv; all_goals exact s_sA
      · cbv; all_goals exact s_bA
      · cbv; exact gc_c (gc_m (qar hpl)) (gc_c (gc_m (qar hTp)) rfl)
    · have e : w = r := by rw [← hr, g2, show j = n by omega]
      all_goals exact s_sA
end Cz
namespace Cz
open Go Go.RowKit Go.Proofs
def encT (b : List Int) (j : Int) : List Bool := Hu.enc (b.take j.toNat)
def outI (b : List Int) (j q : Int) : List Int := Hu.packs q.toNat (encT b j)
def rowI (b : List Int) (j q : Int) : Int := Hu.valB ((encT b j).drop (8 * q.toNat))
theorem qgq (b : List Int) (j : Int) : ((encT b j).length : Int) = bitsI b j := rfl
theorem qtg {b : List Int} {j v : Int} (hv : b[j.toNat]? = some v) (h0 : 0 ≤ j) : encT b (j + 1) = encT b j ++ Hu.cod v.toNat := by
  unfold encT Hu.enc
  rw [qdd hv h0, List.flatMap_append]
  simp
theorem qoh : ∀ (q : Nat) (E : List Bool), Hu.packs (q + 1) E = Hu.packs q E ++ [(Hu.valB ((E.drop (8 * q)).take 8) : Int)]
  | 0, E => by simp [Hu.packs]
  | q + 1, E => by
    rw [Hu.packs, qoh q (E.drop 8), Hu.packs, List.drop_drop, show 8 + 8 * q = 8 * (q + 1) by omega]
    rfl
theorem qsc : ∀ (q : Nat) (E D : List Bool), 8 * q ≤ E.length → Hu.packs q (E ++ D) = Hu.packs q E
  | 0, _, _, _ => rfl
  | q + 1, E, D, h => by
    rw [Hu.packs, Hu.packs, List.take_append_of_le_length (by omega), List.drop_append_of_le_length (by omega), qsc q _ _ (by simp; omega)]
theorem qdn (k : Nat) : ((2 ^ k : Nat) : Int) = (2 : Int) ^ k := by norm_cast
theorem row_next {b : List Int} {j q v : Int} (hv : b[j.toNat]? = some v) (h0 : 0 ≤ j) (hq : 0 ≤ q) (h : 8 * q ≤ bitsI b j) (hb : 0 ≤ v ∧ v < 256) :
    rowI b (j + 1) q = rowI b j q * 2 ^ (clsI v).toNat + codeI v := by
  unfold rowI
  rw [qtg hv h0, List.drop_append_of_le_length (by rw [← qgq] at h; omega), Hu.qdj]
  unfold clsI codeI Hu.cod
  rw [Hu.qbp, Hu.qnt _ _ (Hu.qzacq (by omega))]
  push_cast
  simp
theorem out_next {b : List Int} {j q v : Int} (hv : b[j.toNat]? = some v) (h0 : 0 ≤ j) (hq : 0 ≤ q) (h : 8 * q ≤ bitsI b j) : outI b (j + 1) q = outI b j q := by
  unfold outI
  rw [qtg hv h0, qsc _ _ _ (by rw [← qgq] at h; omega)]
theorem valB_mod (A B : List Bool) : Hu.valB (A ++ B) % 2 ^ B.length = Hu.valB B := by
  rw [Hu.qdj, Nat.add_comm, Nat.add_mul_mod_self_right, Nat.mod_eq_of_lt (Hu.qki B)]
theorem valB_div (A B : List Bool) : Hu.valB (A ++ B) / 2 ^ B.length = Hu.valB A := by
  rw [Hu.qdj, Nat.add_comm, Nat.add_mul_div_right _ _ (Nat.two_pow_pos _), Nat.div_eq_of_lt (Hu.qki B), Nat.zero_add]
theorem row_mask {b : List Int} {j q q0 : Int} (hq0 : 0 ≤ q0) (hq : q0 ≤ q) (h : 8 * q ≤ bitsI b j) : rowI b j q0 % 2 ^ (bitsI b j - 8 * q).toNat = rowI b j q := by
  unfold rowI
  rw [← qgq] at h ⊢
  generalize encT b j = E at h ⊢
  have e : E.drop (8 * q0.toNat) = (E.drop (8 * q0.toNat)).take (8 * (q.toNat - q0.toNat)) ++ E.drop (8 * q.toNat) := by
    conv => lhs; rw [← List.take_append_drop (8 * (q.toNat - q0.toNat)) (E.drop (8 * q0.toNat))]
    rw [List.drop_drop, show 8 * q0.toNat + 8 * (q.toNat - q0.toNat) = 8 * q.toNat by omega]
  have hl : ((E.length : Int) - 8 * q).toNat = (E.drop (8 * q.toNat)).length := by rw [List.length_drop]; omega
  rw [hl, ← qdn, ← Int.natCast_emod]
  rw [e, valB_mod]
theorem row_bd {b : List Int} {j q : Int} (hq : 0 ≤ q) (h : 8 * q ≤ bitsI b j) : 0 ≤ rowI b j q ∧ rowI b j q < 2 ^ (bitsI b j - 8 * q).toNat := by
  unfold rowI
  rw [← qgq] at h ⊢
  have h1 := Hu.qki ((encT b j).drop (8 * q.toNat))
  rw [List.length_drop, show (encT b j).length - 8 * q.toNat = (((encT b j).length : Int) - 8 * q).toNat by omega] at h1
  rw [← qdn]
  omega
theorem out_more {b : List Int} {j q q0 r s u x : Int} (hq0 : 0 ≤ q0) (hq : q0 ≤ q) (h : 8 * (q + 1) ≤ bitsI b j) (hr : rowI b j q0 = r) (hu : u = bitsI b j - 8 * (q + 1)) (hs : s = r / 2 ^ u.toNat) (hx : x = s % 256) :
    outI b j (q + 1) = outI b j q ++ [x] := by
  unfold outI
  rw [show (q + 1).toNat = q.toNat + 1 by omega, qoh]
  congr 2
  rw [hx, hs, ← hr, hu]
  unfold rowI
  rw [← qgq] at h ⊢
  generalize encT b j = E at h ⊢
  have e1 : E.drop (8 * q0.toNat) = (E.drop (8 * q0.toNat)).take (8 * (q.toNat - q0.toNat)) ++ ((E.drop (8 * q.toNat)).take 8 ++ E.drop (8 * (q.toNat + 1))) := by
    have e2 : E.drop (8 * q.toNat) = (E.drop (8 * q.toNat)).take 8 ++ E.drop (8 * (q.toNat + 1)) := by
      conv => lhs; rw [← List.take_append_drop 8 (E.drop (8 * q.toNat))]
      rw [List.drop_drop, show 8 * q.toNat + 8 = 8 * (q.toNat + 1) by omega]
    rw [← e2]
    conv => lhs; rw [← List.take_append_drop (8 * (q.toNat - q0.toNat)) (E.drop (8 * q0.toNat))]
    rw [List.drop_drop, show 8 * q0.toNat + 8 * (q.toNat - q0.toNat) = 8 * q.toNat by omega]
  have hl : ((E.length : Int) - 8 * (q + 1)).toNat = (E.drop (8 * (q.toNat + 1))).length := by rw [List.length_drop]; omega
  rw [hl, e1, ← List.append_assoc, ← qdn, ← Int.natCast_ediv, valB_div]
  have h8 : ((E.drop (8 * q.toNat)).take 8).length = 8 := by rw [List.length_take, List.length_drop]; omega
  have := valB_mod ((E.drop (8 * q0.toNat)).take (8 * (q.toNat - q0.toNat))) ((E.drop (8 * q.toNat)).take 8)
  rw [h8] at this
  rw [← this]
  rfl
theorem put_end0 {b : List Int} {n q : Int} (hn : n = ilen b) (hq : 0 ≤ q) (h : bitsI b n = 8 * q) : Hu.put b = outI b n q := by
  have e : encT b n = Hu.enc b := by unfold encT; rw [qca (by omega)]
  have hl := qgq b n
  rw [h, e] at hl
  unfold outI Hu.put Hu.pack
  rw [e]
  have : Hu.padded (Hu.enc b) = Hu.enc b := by unfold Hu.padded Hu.pad; rw [show (8 - (Hu.enc b).length % 8) % 8 = 0 by omega]; simp
  rw [this, show (Hu.enc b).length / 8 = q.toNat by omega]
theorem put_end1 {b : List Int} {n q w u x : Int} (hn : n = ilen b) (hq : 0 ≤ q) (hu : u = 8 - (bitsI b n - 8 * q)) (h1 : 0 < bitsI b n - 8 * q) (h2 : bitsI b n - 8 * q < 8) (hr : rowI b n q = w)
    (hx : x = w * 2 ^ u.toNat + (2 ^ u.toNat - 1)) : Hu.put b = outI b n q ++ [x] := by
  have e : encT b n = Hu.enc b := by unfold encT; rw [qca (by omega)]
  have hl := qgq b n
  rw [e] at hl
  unfold rowI at hr
  unfold outI Hu.put Hu.pack
  rw [Hu.qis, e]
  rw [e] at hr
  rw [show 8 * (((Hu.enc b).length + 7) / 8) / 8 = q.toNat + 1 by omega, qoh]
  have hp : Hu.pad (Hu.enc b).length = u.toNat := by unfold Hu.pad; omega
  have e1 : Hu.packs q.toNat (Hu.padded (Hu.enc b)) = Hu.packs q.toNat (Hu.enc b) := by unfold Hu.padded; rw [qsc _ _ _ (by omega)]
  rw [e1]
  congr 2
  unfold Hu.padded
  rw [hp, List.drop_append_of_le_length (by omega), List.take_of_length_le (by simp; omega), Hu.qdj, List.length_replicate, Hu.qlw, hx, ← hr]
  have := Nat.two_pow_pos u.toNat
  rw [← qdn, Int.natCast_add, Int.natCast_mul, Int.natCast_sub (by omega)]
  rfl
theorem qxf (b : List Int) (j q : Int) (hq : 0 ≤ q) : ilen (outI b j q) = q := by unfold ilen outI; rw [Hu.qdg]; omega
end Cz
namespace Cz
open Go Go.RowKit Go.Proofs
theorem s_cv8 {S : Sy} {P : Program} {a : Int} {K : Int → Prop} (hS : S0 P = S) (h : ∀ r, r = a % 256 → K r) : S.cv .u8 a K := by
  refine s_cve hS _ ?_ (h _ rfl)
  simp [IntKind.wrap, IntKind.bits, IntKind.signed]
theorem qwn {S : Sy} (hS : S0 Tryz.prog = S) {l l' : List Int} {F G : List SV} {x st' : Int} {ro lit : Bool} {st : Z} (hF : cellsB l = F) (hG : cellsB l' = G) (hl : l' = l ++ [x]) (hst : st.v = st') :
    SubB (.r ro lit st 1 (S.app F [.i .u8 (.y x)])) (.r ro false (.y st') 1 G) := by
  subst hS hF hG hl
  refine .r ?_ hst (qae _)
  rw [app_eq]
  have : cellsB l ++ [SV.i .u8 (.y x)] = cellsB (l ++ [x]) := by unfold cellsB; rw [List.flatMap_append]; rfl
  rw [this]
  exact .rfl
theorem qkd {S : Sy} (hS : S0 Tryz.prog = S) {q : Int} {sz : Nat} {G : List SV} {k : Unit → Prop} (h : ilen G = q * sz) (hk : k ()) : S.chk (S.cmp .eq (S.sc q sz) (S.flen G)) k := by
  subst hS
  refine qwt rfl ?_ hk
  rw [cmp_eq, sc_eq, qzack]
  unfold ilen at h
  exact decide_eq_true h.symm
theorem qao (l : List Int) : ilen (cellsB l) = ilen l := by rw [qed]; simp [ilen]
theorem qrx {S : Sy} (hS : S0 Tryz.prog = S) {n0 k : Nat} {l L : List Int} {F G : List SV} {x : Int} {lit : Bool} {st nn : Z} {l' : List Blk} (hF : cellsB l = F) (hG : cellsB L = G) (hl : L = l ++ [x]) (hk : n0 ≤ k)
    (hn : nn.v = ilen l + 1) (hB : l'[k]? = some (.r false lit st 1 (S.app F [.i .u8 (.y x)]))) : RowIs n0 1 G (.sl k 1 (.l 0) nn none) l' := by
  subst hS hF hG hl
  have e : (S0 Tryz.prog).app (cellsB l) [SV.i .u8 (.y x)] = cellsB (l ++ [x]) := by rw [app_eq]; unfold cellsB; rw [List.flatMap_append]; rfl
  rw [e] at hB
  refine .inr ⟨k, nn, lit, st, _, hk, rfl, hB, .rfl, qae _, ?_⟩
  have := qao (l ++ [x])
  unfold ilen at this hn
  rw [this, hn]
  simp
theorem qiq {n0 k : Nat} {l : List Int} {G : List SV} {lit : Bool} {st nn : Z} {l' : List Blk} (hG : cellsB l = G) (hk : n0 ≤ k)
    (hn : nn.v = ilen l) (hB : l'[k]? = some (.r false lit st 1 G)) : RowIs n0 1 G (.sl k 1 (.l 0) nn none) l' := by
  subst hG
  refine .inr ⟨k, nn, lit, st, _, hk, rfl, hB, .rfl, qae _, ?_⟩
  have := qao l
  unfold ilen at this hn
  rw [this, hn]
  simp
theorem qyo {v : Int} (h : 0 ≤ v ∧ v < 256) : 0 ≤ codeI v ∧ codeI v < 2 ^ (clsI v).toNat ∧ codeI v < 2048 := by
  have h1 := Hu.qzacq (c := v.toNat) (by omega)
  have h2 : (2 : Nat) ^ Hu.cls v.toNat ≤ 2 ^ 11 := Nat.pow_le_pow_right (by omega) (by rcases Hu.qik v.toNat with h | h | h | h <;> omega)
  unfold codeI clsI
  rw [Int.toNat_natCast, ← qdn]
  omega
theorem row_bd' {b : List Int} {j q : Int} (hq : 0 ≤ q) (h : 8 * q ≤ bitsI b j) {k : Nat} (hk : bitsI b j - 8 * q ≤ k) : 0 ≤ rowI b j q ∧ rowI b j q < 2 ^ k := by
  have h1 := row_bd hq h
  have h2 := qhp (m := (bitsI b j - 8 * q).toNat) (n := k) (by omega)
  omega
theorem put_f {b : List Int} (hb : Hu.BOk b) (hn : ilen b ≤ 1000000) :
    (S0 Tryz.prog).call 102 [.sl 0 1 (.l 0) (.y (ilen b)) none] [.r true true (.l 0) 1 (cellsB b)] (OwnR 1 1 (cellsB (Hu.put b)) false []) := by
  obtain ⟨n, hn'⟩ : ∃ n, n = ilen b := ⟨_, rfl⟩
  have h0n := qag b
  rw [← hn'] at hn h0n ⊢
  have hpl := qae b
  generalize hF : cellsB b = F at hpl ⊢
  have hc := codes_f
  generalize hT : codeLit = T at hc
  have hTl := qto hT
  have hTn : T.length = 512 := by rw [← qbv]; exact hTl
  have hTp := qnk hT
  generalize hP : cellsB (Hu.put b) = P
  generalize hS : S0 Tryz.prog = S
  refine qab hS I.qzacj ?_
  unfold I.huff_Put
  generalize hZ : repS 512 [SV.i .i64 (.l 0)] = Zs
  have hZn := zs_len hZ
  cbv
  refine qbc hS hc .rfl rfl (by rw [← hT]; rfl) ?_
  cbv
  refine qwt hS (by subst hS; simp only [qzack, cmp_eq, hTn]; rfl) ?_
  refine s_all hS hZn hTn hTp ?_
  cbv
  refine qoa hS 2 1 (by omega) rfl ?_
  cbv
  refine qax hS 3 I.qtn (fun x : Int × Int × Int × Int × Int × List SV => 0 ≤ x.1 ∧ x.1 ≤ n ∧ 0 ≤ x.2.2.2.1 ∧ x.2.1 = bitsI b x.1 - 8 * x.2.2.2.1 ∧ 0 ≤ x.2.1 ∧ x.2.1 < 8 ∧ x.2.2.1 = rowI b x.1 x.2.2.2.1 ∧ x.2.2.2.2.2 = cellsB (outI b x.1 x.2.2.2.1))
    (fun x => [(12, .i .i64 (.y x.1)), (4, .i .i64 (.y x.2.1)), (3, .i .u64 (.y x.2.2.1)), (2, .sl 2 1 (.l 0) (.y x.2.2.2.1) none)]) (fun x => [(2, .r false false (.y x.2.2.2.2.1) 1 x.2.2.2.2.2)])
    (fun x => (n - x.1).toNat) (0, 0, 0, 0, 0, []) rfl ⟨⟨Int.le_refl _, by dsimp only; omega, by dsimp only; omega, rfl, by dsimp only; omega, by dsimp only; omega, rfl, rfl⟩, rfl, ?_, ?_, ?_⟩ ?_
  · cbv; (repeat' (first | exact qev | exact Sub.rfl | exact SubL.nil | refine SubL.cons ?_ ?_ | exact qak rfl | exact qef rfl rfl))
  · cbv; refine ⟨.rfl, .rfl, .r .rfl rfl rfl, trivial⟩
  · cbv; exact gc_c (gc_m (qar hpl)) (gc_c (gc_m (qar hTp)) rfl)
  · intro x
    obtain ⟨j, u, w, q, st, G⟩ := x
    intro hx
    dsimp only at hx
    cbv
    obtain ⟨g0, g1, g2, g3, g4, g5, g6, g7⟩ := hx
    refine qac hS ?_ ?_ <;> intro h <;> cbv
    · obtain ⟨v, hv⟩ := qka (l := b) (i := j) (by omega) (by omega)
      have hb0 := hb v (List.mem_of_getElem? hv)
      obtain ⟨m, hm⟩ : ∃ m, clsI v = m := ⟨_, rfl⟩
      obtain ⟨c, hcv⟩ : ∃ c, codeI v = c := ⟨_, rfl⟩
      have hmb := qtq v
      rw [hm] at hmb
      have hbd := qeu (b := b) g0
      have hnx := qix hv g0
      rw [hm] at hnx
      repeat' (first
        | (refine s_st hS ?_; try cbv)
        | (refine qac hS ?_ ?_ <;> intro h <;> (try cbv) <;> try exact s_ab h)
        | (refine qah hS ?_; intro _ _; try cbv)
        | (refine qad hS ?_; try cbv)
        | (refine rowB hS hF hv rfl (by omega) ?_; try cbv))
      have hcb := qyo hb0
      rw [hcv, hm] at hcb
      have hW := row_next hv g0 g2 (by omega) hb0
      rw [hm, hcv, ← g6] at hW
      have hWb := row_bd' (b := b) (j := j + 1) (q := q) g2 (by omega) (k := 18) (by omega)
      obtain ⟨p, hp⟩ : ∃ p : Int, 2 ^ m.toNat = p := ⟨_, rfl⟩
      rw [hp] at hW hcb
      obtain ⟨W, hWe⟩ : ∃ W, rowI b (j + 1) q = W := ⟨_, rfl⟩
      rw [hWe] at hW hWb
      have hw0 := (row_bd (b := b) (j := j) (q := q) g2 (by omega)).1
      rw [← g6] at hw0
      have hwp : 0 ≤ w * p := Int.mul_nonneg hw0 (by omega)
      refine qal hS rfl I.quk (by decide +kernel) ?_
      cbv
      repeat' (first
        | (refine s_st hS ?_; try cbv)
        | (refine qac hS ?_ ?_ <;> intro h <;> (try cbv) <;> try exact s_ab h)
        | (refine qah hS ?_; intro _ _; try cbv)
        | (refine qad hS ?_; try cbv)
        | (refine rowB hS hF hv rfl (by omega) ?_; try cbv)
        | (refine qvu (qvt hTl) ?_; cbv)
        | (refine code_rd1 hS hT hb0.1 hb0.2 hm ?_; cbv)
        | (refine code_rd0 hS hT hb0.1 hb0.2 hcv ?_; cbv)
        | (refine And.intro rfl ?_; try cbv)
        | (refine qmd hS (c := p) (by rw [← hp]; congr 1; simp only [IntKind.bits]; omega) ?_ (by simp only [lo]; omega) (by simp only [hi]; omega); intro _ _; cbv)
        | (refine s_orl hS hp (by omega) (by simp only [*]; exact Int.mul_emod_left _ _) (by omega) (by omega) (by simp only [hi]; omega) ?_; intro _ _; cbv))
      rename_i r1 hr1 r2 hr2 u1 hu1
      obtain ⟨j1, h_j1⟩ : ∃ j1, j1 = j + 1 := ⟨_, rfl⟩
      rw [← h_j1] at hnx hWe
      have hout : G = cellsB (outI b j1 q) := by rw [g7, h_j1, out_next hv g0 g2 (by omega)]
      have hr2W : rowI b j1 q = r2 := by rw [hWe]; omega
      clear hp hwp hr1 hr2 hW hWe hcb
      refine qax hS 3 I.qtm (fun x : Int × Int × Int × List SV => q ≤ x.2.1 ∧ x.1 = bitsI b j1 - 8 * x.2.1 ∧ 0 ≤ x.1 ∧ x.1 ≤ 18 ∧ x.2.2.2 = cellsB (outI b j1 x.2.1))
        (fun x => [(4, .i .i64 (.y x.1)), (2, .sl 2 1 (.l 0) (.y x.2.1) none)]) (fun x => [(2, .r false false (.y x.2.2.1) 1 x.2.2.2)])
        (fun x => x.1.toNat) (u1, q, st, G) rfl ⟨⟨by dsimp only; omega, by dsimp only; omega, by dsimp only; omega, by dsimp only; omega, hout⟩, rfl, ?_, ?_, ?_⟩ ?_
      · cbv; all_goals exact s_sA
      · cbv; all_goals exact s_bA
      · cbv; exact gc_c (gc_m (qar hpl)) (gc_c (gc_m (qar hTp)) rfl)
      · intro x
        obtain ⟨y, q1, st1, G1⟩ := x
        intro hx
        dsimp only at hx
        cbv
        obtain ⟨k0, k1, k2, k3, k4⟩ := hx
        refine qac hS ?_ ?_ <;> intro h <;> cbv
        · have hG1 : ilen G1 = q1 := by rw [k4, qao, qxf _ _ _ (by omega)]
          repeat' (first
            | (refine s_st hS ?_; try cbv)
            | (refine qac hS ?_ ?_ <;> intro h <;> (try cbv) <;> try exact s_ab h)
            | (refine qah hS ?_; intro _ _; try cbv)
            | (refine qad hS ?_; try cbv)
            | (refine s_shr hS (by simp only [IntKind.bits]; omega) ?_; intro _ _; cbv)
            | (refine s_cv8 hS ?_; intro _ _; cbv))
          refine qkd hS (by rw [hG1]; omega) ?_
          cbv
          repeat' (first
            | (refine s_st hS ?_; try cbv)
            | (refine qac hS ?_ ?_ <;> intro h <;> (try cbv) <;> try exact s_ab h)
            | (refine qah hS ?_; intro _ _; try cbv)
            | (refine qad hS ?_; try cbv))
          rename_i y2 hy2 s2 hs2 x2 hx2
          obtain ⟨q2, h_q2⟩ : ∃ q2, q2 = q1 + 1 := ⟨_, rfl⟩
          obtain ⟨st2, h_st2⟩ : ∃ st2, st2 = S.flen G1 := ⟨_, rfl⟩
          obtain ⟨G2, h_G2⟩ : ∃ G2, G2 = cellsB (outI b j1 q2) := ⟨_, rfl⟩
          refine ⟨(y2, q2, st2, G2), by dsimp only; omega, ⟨by dsimp only; omega, by dsimp only; omega, by dsimp only; omega, by dsimp only; omega, h_G2⟩, rfl, ?_, ?_, ?_⟩
          · cbv; (repeat' (first | exact qev | exact Sub.rfl | exact SubL.nil | refine SubL.cons ?_ ?_ | exact qak rfl | (refine qef rfl ?_; simp only [Z.v, ← hS, Int.ofNat_eq_natCast, cq, Bool.not_eq_true', Bool.not_eq_false', decide_eq_true_eq, decide_eq_false_iff_not, beq_iff_eq, beq_eq_false_iff_ne, ne_eq]; omega)))
          · cbv
            refine ⟨.rfl, .rfl, qwn hS k4.symm h_G2.symm ?_ h_st2.symm, trivial⟩
            rw [h_q2]
            exact out_more g2 k0 (by omega) hr2W (by omega) hs2 hx2
          · cbv; exact gc_c (gc_m (qar hpl)) (gc_c (gc_m (qar hTp)) rfl)
        · obtain ⟨p, hp⟩ : ∃ p : Int, 2 ^ y.toNat = p := ⟨_, rfl⟩
          have hp1 : p < 512 := by
            have := qhp (m := y.toNat) (n := 8) (by omega)
            rw [hp] at this
            omega
          have hp0 : 0 < p := by rw [← hp]; exact qcv _
          repeat' (first
            | (refine s_st hS ?_; try cbv)
            | (refine qac hS ?_ ?_ <;> intro h <;> (try cbv) <;> try exact s_ab h)
            | (refine qah hS ?_; intro _ _; try cbv)
            | (refine qad hS ?_; try cbv)
            | (refine qmd hS (c := p) (by rw [← hp]; congr 1; simp only [IntKind.bits]; omega) ?_ (by simp only [lo]; omega) (by simp only [hi]; omega); intro _ _; cbv)
            | (refine s_andl hS (c := p) (m := y.toNat) ⟨by omega, hp, by simp only [IntKind.bits]; omega⟩ ?_; intro _ _; cbv))
          rename_i s1 hs1 s2 hs2 w3 hw3 j3 hj3
          have hw3' : w3 = rowI b j1 q1 := by rw [hw3, ← hp, ← hr2W, k1, row_mask g2 k0 (by omega)]
          refine ⟨(j3, y, w3, q1, st1, G1), by dsimp only; omega, ⟨by dsimp only; omega, by dsimp only; omega, by dsimp only; omega, ?_, by dsimp only; omega, by dsimp only; omega, ?_, ?_⟩, rfl, ?_, ?_, ?_⟩
          · dsimp only; rw [k1, hj3, ← h_j1]
          · dsimp only; rw [hw3', hj3, ← h_j1]
          · dsimp only; rw [k4, hj3, ← h_j1]
          · cbv; all_goals exact s_sA
          · cbv; all_goals exact s_bA
          · cbv; exact gc_c (gc_m (qar hpl)) (gc_c (gc_m (qar hTp)) rfl)
    · have hG : ilen G = q := by rw [g7, qao, qxf _ _ _ (by omega)]
      obtain ⟨p, hp⟩ : ∃ p : Int, 2 ^ (8 - u).toNat = p := ⟨_, rfl⟩
      have hp1 : p < 512 := by
        have := qhp (m := (8 - u).toNat) (n := 8) (by omega)
        rw [hp] at this
        omega
      have hp0 : 0 < p := by rw [← hp]; exact qcv _
      have hwb := row_bd' (b := b) (j := j) (q := q) g2 (by omega) (k := u.toNat) (by omega)
      rw [← g6] at hwb
      have hwp0 : 0 ≤ w * p := Int.mul_nonneg hwb.1 (by omega)
      have hwp : w * p + p ≤ 256 := by
        have h1 : (w + 1) * p ≤ 2 ^ u.toNat * p := Int.mul_le_mul_of_nonneg_right (by omega) (by omega)
        have h2 : (2 : Int) ^ u.toNat * p = 256 := by
          rw [← hp, ← Int.pow_add, show u.toNat + (8 - u).toNat = 8 by omega]; rfl
        rw [Int.add_mul] at h1
        omega
      have hbd := qeu (b := b) g0
      obtain rfl : j = n := by omega
      repeat' (first
        | (refine s_st hS ?_; try cbv)
        | (refine qac hS ?_ ?_ <;> intro h <;> (try cbv) <;> try exact s_ab h)
        | (refine qah hS ?_; intro _ _; try cbv)
        | (refine qad hS ?_; try cbv)
        | (refine qal hS rfl I.quj (by decide +kernel) ?_; cbv)
        | (refine qmd hS (c := p) (by rw [← hp]; congr 1; simp only [IntKind.bits]; omega) ?_ (by simp only [lo]; omega) (by simp only [hi]; omega); intro _ _; cbv)
        | (refine s_orl hS hp (by omega) (by simp only [*]; exact Int.mul_emod_left _ _) (by omega) (by omega) (by simp only [hi]; omega) ?_; intro _ _; cbv)
        | (refine And.intro rfl ?_; try cbv)
        | (refine qkd hS (by rw [hG]; omega) ?_; cbv))
      · rename_i e1 he1 e2 he2 e3 he3 e4 he4 x hx
        refine ⟨_, .rfl, ?_⟩
        have hend := put_end1 (u := 8 - u) (x := x) hn' g2 (by omega) (by omega) (by omega) g6.symm (by rw [hp, hx, he2, he4, he3]; omega)
        exact qrx hS g7.symm hP hend (by omega) (by rw [qxf _ _ _ g2]; simp only [Z.v, ← hS, Int.ofNat_eq_natCast, cq, Bool.not_eq_true', Bool.not_eq_false', decide_eq_true_eq, decide_eq_false_iff_not, beq_iff_eq, beq_eq_false_iff_ne, ne_eq]; omega) rfl
      · have hu0 : u = 0 := by omega
        have hPG : P = G := by rw [g7, ← hP, put_end0 hn' g2 (by omega)]
        refine ⟨_, .rfl, ?_⟩
        rw [hPG]
        exact qiq g7.symm (by omega) (by rw [qxf _ _ _ g2]; rfl) rfl
end Cz
namespace Cz
open Go Go.RowKit Go.Proofs
def takeL (b : List Int) : List Int := (Hu.take b).getD []
def takeE (b : List Int) : Int := if (Hu.take b).isSome then 0 else 70
end Cz
namespace Cz
open Go Go.RowKit Go.Proofs
theorem qzaai (L : List Int) (c : Int) : ilen (L ++ [c]) = ilen L + 1 := by unfold ilen; simp
end Cz
namespace Cz
open Go Go.RowKit Go.Proofs
def satI (x : List UInt8) (i : Int) : Int := (x.getD i.toNat 0).toNat
theorem sat_eq {P : Program} {x : List UInt8} {i : Int} : (S0 P).sat x i = satI x i := rfl
theorem qzabr {x : List UInt8} {i : Nat} {c : Int} (h0 : 0 ≤ c) (h : c < 256) : satI x i = c ↔ (x.getD i 0 == c.toNat.toUInt8) = true := by
  unfold satI
  rw [Int.toNat_natCast, beq_iff_eq]
  constructor
  · intro e
    apply UInt8.toNat_inj.1
    rw [UInt8.toNat_ofNat', ← e, Int.toNat_natCast]
    have := (x.getD i 0).toNat_lt
    omega
  · intro e
    rw [e]
    simp only [Nat.toUInt8, UInt8.toNat_ofNat']
    omega
theorem idx_found {x : List UInt8} {c j : Int} (h0 : 0 ≤ c) (h : c < 256) (hj0 : 0 ≤ j) (hj : j < ilen x) (hn : ∀ i : Nat, (i : Int) < j → satI x i ≠ c) (he : satI x j = c) : idxI x c = j := by
  unfold idxI
  have : (List.range x.length).find? (fun i => x.getD i 0 == c.toNat.toUInt8) = some j.toNat := by
    rw [List.find?_range_eq_some]
    have he' : (x.getD j.toNat 0 == c.toNat.toUInt8) = true := (qzabr h0 h).1 (by rw [Int.toNat_of_nonneg hj0]; exact he)
    refine ⟨he', by simp only [List.mem_range]; unfold ilen at hj; omega, ?_⟩
    intro i hi
    have h1 := hn i (by omega)
    rw [Ne, qzabr h0 h] at h1
    simpa using h1
  rw [this]
  show ((j.toNat : Nat) : Int) = j
  omega
theorem idx_none {x : List UInt8} {c : Int} (h0 : 0 ≤ c) (h : c < 256) (hn : ∀ i : Nat, (i : Int) < ilen x → satI x i ≠ c) : idxI x c = -1 := by
  unfold idxI
  have : (List.range x.length).find? (fun i => x.getD i 0 == c.toNat.toUInt8) = none := by
    rw [List.find?_eq_none]
    intro i hi
    simp only [List.mem_range] at hi
    have h1 := hn i (by unfold ilen; omega)
    rw [Ne, qzabr h0 h] at h1
    exact h1
  rw [this]
theorem nc (n : Nat) : NatCast.natCast n = (n : Int) := rfl
theorem place_f {x : List UInt8} {c r : Int} (hx : ilen x ≤ 1000) (h0 : 0 ≤ c) (hc : c < 256) (hr : idxI x c = r) : (S0 Tryz.prog).call 124 [.s x, .i .u8 (.y c)] [] (fun y _ => Sub y (.i .i64 (.y r))) := by
  have hnx : (S0 Tryz.prog).slen x = ilen x := rfl
  rw [slen_eq] at hnx
  have hx0 := qag x
  generalize hS : S0 Tryz.prog = S
  refine qab hS I.qjw ?_
  cbv
  refine qax hS 0 I.qft (fun j : Int => 0 ≤ j ∧ j ≤ ilen x ∧ ∀ i : Nat, (i : Int) < j → satI x i ≠ c)
    (fun j => [(5, .i .i64 (.y j))]) (fun _ => []) (fun j => (ilen x - j).toNat) 0 rfl ⟨⟨Int.le_refl _, by omega, fun i hi => by omega⟩, rfl, ?_, ?_, by cbv⟩ ?_
  · cbv; all_goals exact s_sA
  · cbv; all_goals exact s_bA
  intro j hj
  cbv
  obtain ⟨g0, g1, g2'⟩ := hj
  have g2 : ∀ i : Nat, (i : Int) < j → satI x i ≠ c := g2'
  repeat' (first
    | (refine s_st hS ?_; try cbv)
    | (refine qac hS ?_ ?_ <;> intro h <;> (try cbv) <;> try exact s_ab h)
    | (refine qah hS ?_; intro _ _; try cbv)
    | (refine qad hS ?_; try cbv))
  · refine qak ?_
    rw [sat_eq] at h
    simp only [Z.v]
    rw [← hr]; exact (idx_found h0 hc g0 (by omega) g2 h).symm
  · rw [sat_eq] at h
    rename_i j2 hj2
    have g3 : ∀ i : Nat, (i : Int) < j2 → satI x i ≠ c := by
      intro i hi
      rcases Int.lt_or_le i j with hl | hl
      · exact g2 i hl
      · have e : (i : Int) = j := by omega
        rw [e]; exact h
    refine ⟨j2, by omega, ⟨by omega, by omega, g3⟩, rfl, ?_, ?_, by cbv⟩
    · cbv; all_goals exact s_sA
    · cbv; all_goals exact s_bA
  · refine qak ?_
    simp only [Z.v]
    have g2 : ∀ i : Nat, (i : Int) < j → satI x i ≠ c := g2'
    simp only [nc] at *
    rw [← hr]; exact (idx_none h0 hc fun i hi => g2 i (by omega)).symm
theorem qdf {S : Sy} (hS : S0 Tryz.prog = S) {l : List Blk} {K : SV → List Blk → Prop} {x : List UInt8} {c : Z} (hx : ilen x ≤ 1000) (h0 : 0 ≤ c.v) (h : c.v < 256) (hK : ∀ r, idxI x c.v = r → K (.i .i64 (.y r)) l) :
    S.call 124 [.s x, .i .u8 c] l K :=
  qbc hS (place_f (c := c.v) hx h0 h rfl) (.cons .rfl (.cons (qak rfl) .nil)) rfl rfl (hK _ rfl)
def w18 : List UInt8 := [45, 47, 48, 49, 50, 51, 97, 99, 101, 105, 110, 111, 114, 115, 116, 117, 46, 52, 53, 54, 55, 56, 57, 58, 98, 100, 102, 103, 104, 108, 109, 112, 65, 66, 67, 68, 69, 70, 71, 72, 106, 107, 113, 118, 119, 120, 121, 122]
theorem w18_all : (List.range 256).all (fun n => has w18 n == !(Hu.cls n == 11)) = true := by decide +kernel
theorem w18_at {c : Int} (h0 : 0 ≤ c) (h : c < 256) : (Hu.cls c.toNat = 11 ∧ idxI w18 c < 0) ∨ (Hu.cls c.toNat ≠ 11 ∧ 0 ≤ idxI w18 c) := by
  obtain ⟨n, rfl⟩ : ∃ n : Nat, c = n := ⟨c.toNat, by omega⟩
  have h1 := List.all_eq_true.1 w18_all n (by simp; omega)
  simp only [Int.toNat_natCast] at *
  by_cases e : Hu.cls n = 11
  · exact .inl ⟨e, qex (by simpa [e] using h1)⟩
  · exact .inr ⟨e, qre (by rw [beq_iff_eq] at h1; rw [h1]; simp [e])⟩
theorem idx_all : (List.range 256).all (fun n => (!(Hu.cls n == 5) || (idxI w5 n == (Hu.codeOf n : Int))) && ((!(Hu.cls n == 6) || (32 + idxI w6 n == (Hu.codeOf n : Int))) && (!(Hu.cls n == 7) || (96 + idxI w7 n == (Hu.codeOf n : Int))))) = true := by decide +kernel
theorem idx_code {c : Int} (h0 : 0 ≤ c) (h : c < 256) : (Hu.cls c.toNat = 5 → idxI w5 c = codeI c) ∧ (Hu.cls c.toNat = 6 → 32 + idxI w6 c = codeI c) ∧ (Hu.cls c.toNat = 7 → 96 + idxI w7 c = codeI c) := by
  obtain ⟨n, rfl⟩ : ∃ n : Nat, c = n := ⟨c.toNat, by omega⟩
  have h1 := List.all_eq_true.1 idx_all n (by simp; omega)
  simp only [Bool.and_eq_true, Bool.or_eq_true, Bool.not_eq_true', beq_eq_false_iff_ne, beq_iff_eq] at h1
  unfold codeI
  simp only [Int.toNat_natCast] at *
  exact ⟨fun e => h1.1.resolve_left (by simp [e]), fun e => h1.2.1.resolve_left (by simp [e]), fun e => h1.2.2.resolve_left (by simp [e])⟩
theorem others_f {c r : Int} (h0 : 0 ≤ c) (hc : c < 256) (hr : cntI 11 c = r) : (S0 Tryz.prog).call 125 [.i .u8 (.y c)] [] (fun y _ => Sub y (.i .i64 (.y r))) := by
  generalize hS : S0 Tryz.prog = S
  refine qab hS I.qig ?_
  cbv
  refine qax hS 0 I.qfc (fun x : Int × Int => 0 ≤ x.1 ∧ x.1 ≤ c ∧ x.2 = cntI 11 x.1)
    (fun x => [(4, .i .i64 (.y x.1)), (3, .i .i64 (.y x.2))]) (fun _ => []) (fun x => (c - x.1).toNat) (0, 0) rfl ⟨⟨Int.le_refl _, by dsimp only; omega, rfl⟩, rfl, ?_, ?_, by cbv⟩ ?_
  · cbv; all_goals exact s_sA
  · cbv; all_goals exact s_bA
  intro x
  obtain ⟨j, w⟩ := x
  intro hx
  dsimp only at hx
  cbv
  obtain ⟨g0, g1, g2⟩ := hx
  have hw : 0 ≤ w ∧ w ≤ j := by rw [g2]; exact qtp g0
  refine s_cvi hS ?_ (by simp only [lo]; omega) (by simp only [hi]; omega)
  cbv
  refine qac hS ?_ ?_ <;> intro h <;> cbv
  · repeat' (first
    | (refine s_st hS ?_; try cbv)
    | (refine qac hS ?_ ?_ <;> intro h <;> (try cbv) <;> try exact s_ab h)
    | (refine qah hS ?_; intro _ _; try cbv)
    | (refine qad hS ?_; try cbv))
    rcases w18_at g0 (by omega) with ⟨e, hq⟩ | ⟨e, hq⟩
    · refine qdf hS (by decide) g0 (by simp only [Z.v]; omega) fun r18 h18 => ?_
      replace h18 : r18 < 0 := by rw [← h18]; exact hq
      cbv
      repeat' (first
        | (refine s_st hS ?_; try cbv)
        | (refine qac hS ?_ ?_ <;> intro h <;> (try cbv) <;> try exact s_ab h)
        | (refine qah hS ?_; intro _ _; try cbv)
        | (refine qad hS ?_; try cbv))
      rename_i w2 hw2 j2 hj2
      have n11 := qbe (m := 11) g0
      rw [if_pos e, ← hj2] at n11
      have g2 : w = cntI 11 j := g2
      refine ⟨(j2, w2), by dsimp only; omega, ⟨by dsimp only; omega, by dsimp only; omega, by dsimp only; omega⟩, rfl, ?_, ?_, by cbv⟩
      · cbv; all_goals exact s_sA
      · cbv; all_goals exact s_bA
    · refine qdf hS (by decide) g0 (by simp only [Z.v]; omega) fun r18 h18 => ?_
      replace h18 : 0 ≤ r18 := by rw [← h18]; exact hq
      cbv
      repeat' (first
        | (refine s_st hS ?_; try cbv)
        | (refine qac hS ?_ ?_ <;> intro h <;> (try cbv) <;> try exact s_ab h)
        | (refine qah hS ?_; intro _ _; try cbv)
        | (refine qad hS ?_; try cbv))
      rename_i j2 hj2
      have n11 := qbe (m := 11) g0
      rw [if_neg e, ← hj2] at n11
      have g2 : w = cntI 11 j := g2
      refine ⟨(j2, w), by dsimp only; omega, ⟨by dsimp only; omega, by dsimp only; omega, by dsimp only; omega⟩, rfl, ?_, ?_, by cbv⟩
      · cbv; all_goals exact s_sA
      · cbv; all_goals exact s_bA
  · refine qak ?_
    simp only [Z.v]
    rw [← hr, g2, show j = c by omega]
theorem others_u {S : Sy} (hS : S0 Tryz.prog = S) {l : List Blk} {K : SV → List Blk → Prop} {c : Z} (h0 : 0 ≤ c.v) (h : c.v < 256) (hK : ∀ r, cntI 11 c.v = r → K (.i .i64 (.y r)) l) :
    S.call 125 [.i .u8 c] l K :=
  qbc hS (others_f (c := c.v) h0 h rfl) (.cons (qak rfl) .nil) rfl rfl (hK _ rfl)
theorem rCode_f {c a m : Int} (h0 : 0 ≤ c) (hc : c < 256) (ha : codeI c = a) (hm : clsI c = m) : (S0 Tryz.prog).call 114 [.i .u8 (.y c)] [] (fun x _ => Sub x (.tp [.i .i64 (.y a), .i .i64 (.y m)])) := by
  obtain ⟨x5, x6, x7⟩ := idx_code h0 hc
  have cb := qyo ⟨h0, hc⟩
  rw [ha] at x5 x6 x7 cb
  generalize hS : S0 Tryz.prog = S
  refine qab hS I.qlm ?_
  cbv
  rcases idx_at h0 hc with ⟨e, i5, i6, i7⟩ | ⟨e, i5, i6, i7⟩ | ⟨e, i5, i6, i7⟩ | ⟨e, i5, i6, i7⟩
  · have x5 := x5 e
    have em : m = 5 := by rw [← hm]; unfold clsI; rw [e]; rfl
    refine qdf hS (by decide) h0 hc fun r h => ?_
    replace h : r = idxI w5 c := h.symm
    cbv
    repeat' (first
      | (refine s_st hS ?_; try cbv)
      | (refine qac hS ?_ ?_ <;> intro h <;> (try cbv) <;> try exact s_ab h)
      | (refine qah hS ?_; intro _ _; try cbv)
      | (refine qad hS ?_; try cbv))
    refine qdf hS (by decide) h0 hc fun s h => ?_
    replace h : s = idxI w5 c := h.symm
    cbv
    all_goals exact s_sA
  · have x6 := x6 e
    have em : m = 6 := by rw [← hm]; unfold clsI; rw [e]; rfl
    refine qdf hS (by decide) h0 hc fun r h => ?_
    replace h : r = idxI w5 c := h.symm
    cbv
    repeat' (first
      | (refine s_st hS ?_; try cbv)
      | (refine qac hS ?_ ?_ <;> intro h <;> (try cbv) <;> try exact s_ab h)
      | (refine qah hS ?_; intro _ _; try cbv)
      | (refine qad hS ?_; try cbv))
    refine qdf hS (by decide) h0 hc fun r h => ?_
    replace h : r = idxI w6 c := h.symm
    cbv
    repeat' (first
      | (refine s_st hS ?_; try cbv)
      | (refine qac hS ?_ ?_ <;> intro h <;> (try cbv) <;> try exact s_ab h)
      | (refine qah hS ?_; intro _ _; try cbv)
      | (refine qad hS ?_; try cbv))
    refine qdf hS (by decide) h0 hc fun s h => ?_
    replace h : s = idxI w6 c := h.symm
    cbv
    repeat' (first
      | (refine s_st hS ?_; try cbv)
      | (refine qac hS ?_ ?_ <;> intro h <;> (try cbv) <;> try exact s_ab h)
      | (refine qah hS ?_; intro _ _; try cbv)
      | (refine qad hS ?_; try cbv))
    all_goals exact s_sA
  · have x7 := x7 e
    have em : m = 7 := by rw [← hm]; unfold clsI; rw [e]; rfl
    refine qdf hS (by decide) h0 hc fun r h => ?_
    replace h : r = idxI w5 c := h.symm
    cbv
    repeat' (first
      | (refine s_st hS ?_; try cbv)
      | (refine qac hS ?_ ?_ <;> intro h <;> (try cbv) <;> try exact s_ab h)
      | (refine qah hS ?_; intro _ _; try cbv)
      | (refine qad hS ?_; try cbv))
    refine qdf hS (by decide) h0 hc fun r h => ?_
    replace h : r = idxI w6 c := h.symm
    cbv
    repeat' (first
      | (refine s_st hS ?_; try cbv)
      | (refine qac hS ?_ ?_ <;> intro h <;> (try cbv) <;> try exact s_ab h)
      | (refine qah hS ?_; intro _ _; try cbv)
      | (refine qad hS ?_; try cbv))
    refine qdf hS (by decide) h0 hc fun r h => ?_
    replace h : r = idxI w7 c := h.symm
    cbv
    repeat' (first
      | (refine s_st hS ?_; try cbv)
      | (refine qac hS ?_ ?_ <;> intro h <;> (try cbv) <;> try exact s_ab h)
      | (refine qah hS ?_; intro _ _; try cbv)
      | (refine qad hS ?_; try cbv))
    refine qdf hS (by decide) h0 hc fun s h => ?_
    replace h : s = idxI w7 c := h.symm
    cbv
    repeat' (first
      | (refine s_st hS ?_; try cbv)
      | (refine qac hS ?_ ?_ <;> intro h <;> (try cbv) <;> try exact s_ab h)
      | (refine qah hS ?_; intro _ _; try cbv)
      | (refine qad hS ?_; try cbv))
    all_goals exact s_sA
  · have x11 : a = 1792 + cntI 11 c := by rw [← ha, codeI_eq e]; rfl
    have em : m = 11 := by rw [← hm]; unfold clsI; rw [e]; rfl
    refine qdf hS (by decide) h0 hc fun r h => ?_
    replace h : r = idxI w5 c := h.symm
    cbv
    repeat' (first
      | (refine s_st hS ?_; try cbv)
      | (refine qac hS ?_ ?_ <;> intro h <;> (try cbv) <;> try exact s_ab h)
      | (refine qah hS ?_; intro _ _; try cbv)
      | (refine qad hS ?_; try cbv))
    refine qdf hS (by decide) h0 hc fun r h => ?_
    replace h : r = idxI w6 c := h.symm
    cbv
    repeat' (first
      | (refine s_st hS ?_; try cbv)
      | (refine qac hS ?_ ?_ <;> intro h <;> (try cbv) <;> try exact s_ab h)
      | (refine qah hS ?_; intro _ _; try cbv)
      | (refine qad hS ?_; try cbv))
    refine qdf hS (by decide) h0 hc fun r h => ?_
    replace h : r = idxI w7 c := h.symm
    cbv
    repeat' (first
      | (refine s_st hS ?_; try cbv)
      | (refine qac hS ?_ ?_ <;> intro h <;> (try cbv) <;> try exact s_ab h)
      | (refine qah hS ?_; intro _ _; try cbv)
      | (refine qad hS ?_; try cbv))
    refine others_u hS h0 hc fun s h => ?_
    replace h : s = cntI 11 c := h.symm
    cbv
    repeat' (first
      | (refine s_st hS ?_; try cbv)
      | (refine qac hS ?_ ?_ <;> intro h <;> (try cbv) <;> try exact s_ab h)
      | (refine qah hS ?_; intro _ _; try cbv)
      | (refine qad hS ?_; try cbv))
    all_goals exact s_sA
theorem rCode_u {S : Sy} (hS : S0 Tryz.prog = S) {l : List Blk} {K : SV → List Blk → Prop} {c : Z} (h0 : 0 ≤ c.v) (h : c.v < 256) (hK : ∀ a m, codeI c.v = a → clsI c.v = m → K (.tp [.i .i64 (.y a), .i .i64 (.y m)]) l) :
    S.call 114 [.i .u8 c] l K :=
  qbc hS (rCode_f (c := c.v) h0 h rfl rfl) (.cons (qak rfl) .nil) rfl rfl (hK _ _ rfl rfl)
end Cz
namespace Cz
open Go Go.RowKit Go.Proofs
theorem qzq {S : Sy} {k : IntKind} {a b : Int} {K : Int → Prop} (hS : S0 Tryz.prog = S) (h0 : 0 ≤ a) (hb : 0 < b) (h1 : a ≤ Cz.hi k) (h : ∀ r, r = a / b → K r) : S.ar .quo k a b K := by
  refine qrs hS _ ?_ (h _ rfl)
  show k.wrap (a.tdiv b) = _
  rw [Int.tdiv_eq_ediv_of_nonneg h0]
  have h2 := Int.ediv_nonneg h0 (by omega : 0 ≤ b)
  have h3 := Int.ediv_le_self b h0
  exact qfw (by have := qzace k; omega) (by omega)
theorem s_rem {S : Sy} {k : IntKind} {a b : Int} {K : Int → Prop} (hS : S0 Tryz.prog = S) (h0 : 0 ≤ a) (h : ∀ r, r = a % b → K r) : S.ar .rem k a b K := by
  refine qrs hS _ ?_ (h _ rfl)
  show a.tmod b = _
  exact Int.tmod_eq_emod_of_nonneg h0
theorem rBits_f {b : List Int} {r : Int} (hb : Hu.BOk b) (hn : ilen b ≤ 1000000) (hr : bitsI b (ilen b) = r) :
    (S0 Tryz.prog).call 104 [.sl 0 1 (.l 0) (.y (ilen b)) none] [.r true true (.l 0) 1 (cellsB b)] (fun x _ => Sub x (.i .i64 (.y r))) := by
  obtain ⟨n, hn'⟩ : ∃ n, n = ilen b := ⟨_, rfl⟩
  have h0n := qag b
  rw [← hn'] at hn h0n hr ⊢
  have hpl := qae b
  generalize hF : cellsB b = F at hpl ⊢
  generalize hS : S0 Tryz.prog = S
  refine qab hS I.qln ?_
  cbv
  refine qax hS 1 I.qgu (fun x : Int × Int => 0 ≤ x.1 ∧ x.1 ≤ n ∧ x.2 = bitsI b x.1)
    (fun x => [(4, .i .i64 (.y x.1)), (3, .i .i64 (.y x.2))]) (fun x => [])
    (fun x => (n - x.1).toNat) (0, 0) rfl ⟨⟨Int.le_refl _, by dsimp only; omega, rfl⟩, rfl, ?_, ?_, ?_⟩ ?_
  · cbv; all_goals exact s_sA
  · cbv; all_goals exact s_bA
  · cbv; exact gc_c (gc_m (qar hpl)) rfl
  · intro x
    obtain ⟨j, w⟩ := x
    intro hx
    dsimp only at hx
    cbv
    obtain ⟨g0, g1, g2⟩ := hx
    repeat' (first
      | (refine s_st hS ?_; try cbv)
      | (refine qac hS ?_ ?_ <;> intro h <;> (try cbv) <;> try exact s_ab h)
      | (refine qah hS ?_; intro _ _; try cbv)
      | (refine qad hS ?_; try cbv))
    · obtain ⟨v, hv⟩ := qka (l := b) (i := j) (by omega) (by omega)
      have hb0 := hb v (List.mem_of_getElem? hv)
      obtain ⟨m, hm⟩ : ∃ m, clsI v = m := ⟨_, rfl⟩
      have hmb := qtq v
      rw [hm] at hmb
      have hbd := qeu (b := b) g0
      have hnx := qix hv g0
      rw [hm] at hnx
      repeat' (first
        | (refine s_st hS ?_; try cbv)
        | (refine qac hS ?_ ?_ <;> intro h <;> (try cbv) <;> try exact s_ab h)
        | (refine qah hS ?_; intro _ _; try cbv)
        | (refine qad hS ?_; try cbv)
        | (refine rowB hS hF hv rfl (by omega) ?_; try cbv)
        | (refine rCode_u hS hb0.1 hb0.2 fun a m' ha hm' => ?_; obtain rfl : m' = m := hm'.symm.trans hm; cbv))
      rename_i w2 hw2 j2 hj2
      refine ⟨(j2, w2), by dsimp only; omega, ⟨by dsimp only; omega, by dsimp only; omega, by dsimp only; rw [hj2, hnx]; omega⟩, rfl, ?_, ?_, ?_⟩
      · cbv; all_goals exact s_sA
      · cbv; all_goals exact s_bA
      · cbv; exact gc_c (gc_m (qar hpl)) rfl
    · have e : w = r := by rw [← hr, g2, show j = n by omega]
      all_goals exact s_sA
def shortB (b : List Int) : Bool := decide ((bitsI b (ilen b) + 7) / 8 < ilen b)
theorem Shorter_f {b : List Int} {t : Bool} (hb : Hu.BOk b) (hn : ilen b ≤ 1000000) (ht : shortB b = t) :
    (S0 Tryz.prog).call 81 [.sl 0 1 (.l 0) (.y (ilen b)) none] [.r true true (.l 0) 1 (cellsB b)] (fun x _ => Sub x (.b t)) := by
  have hB := Bits_f hb hn rfl
  obtain ⟨r, hr⟩ : ∃ r, bitsI b (ilen b) = r := ⟨_, rfl⟩
  have hrb := qeu (b := b) (qag b)
  obtain ⟨n, hn'⟩ : ∃ n, ilen b = n := ⟨_, rfl⟩
  have h0n := qag b
  have ht' : t = decide ((r + 7) / 8 < n) := by rw [← ht, ← hr, ← hn']; rfl
  rw [hr] at hrb hB
  rw [hn'] at hn h0n hrb hB ⊢
  have hpl := qae b
  generalize hF : cellsB b = F at hpl hB ⊢
  generalize hS : S0 Tryz.prog = S
  refine qab hS I.qtd ?_
  cbv
  refine qlx hS id hB .rfl rfl ⟨⟨true, .l 0, 1, F, true, true, .l 0, F, rfl, hpl, rfl, .rfl⟩, trivial⟩ rfl ?_
  cbv
  repeat' (first
    | (refine s_st hS ?_; try cbv)
    | (refine qac hS ?_ ?_ <;> intro h <;> (try cbv) <;> try exact s_ab h)
    | (refine qah hS ?_; intro _ _; try cbv)
    | (refine qad hS ?_; try cbv)
    | (refine qzp hS (c := 8) rfl ?_; intro _ _; cbv))
  rename_i e
  refine qrn ?_
  simp only [← hS, Int.ofNat_eq_natCast, cq, Bool.not_eq_true', Bool.not_eq_false', decide_eq_true_eq, decide_eq_false_iff_not, beq_iff_eq, beq_eq_false_iff_ne, ne_eq]
  rw [ht']
  congr 2
  omega
theorem rShorter_f {b : List Int} {t : Bool} (hb : Hu.BOk b) (hn : ilen b ≤ 1000000) (ht : shortB b = t) :
    (S0 Tryz.prog).call 84 [.sl 0 1 (.l 0) (.y (ilen b)) none] [.r true true (.l 0) 1 (cellsB b)] (fun x _ => Sub x (.b t)) := by
  have hB := rBits_f hb hn rfl
  obtain ⟨r, hr⟩ : ∃ r, bitsI b (ilen b) = r := ⟨_, rfl⟩
  have hrb := qeu (b := b) (qag b)
  obtain ⟨n, hn'⟩ : ∃ n, ilen b = n := ⟨_, rfl⟩
  have h0n := qag b
  have ht' : t = decide ((r + 7) / 8 < n) := by rw [← ht, ← hr, ← hn']; rfl
  rw [hr] at hrb hB
  rw [hn'] at hn h0n hrb hB ⊢
  have hpl := qae b
  generalize hF : cellsB b = F at hpl hB ⊢
  generalize hS : S0 Tryz.prog = S
  refine qab hS I.qhf ?_
  cbv
  refine qlx hS id hB .rfl rfl ⟨⟨true, .l 0, 1, F, true, true, .l 0, F, rfl, hpl, rfl, .rfl⟩, trivial⟩ rfl ?_
  cbv
  repeat' (first
    | (refine s_st hS ?_; try cbv)
    | (refine qac hS ?_ ?_ <;> intro h <;> (try cbv) <;> try exact s_ab h)
    | (refine qah hS ?_; intro _ _; try cbv)
    | (refine qad hS ?_; try cbv)
    | (refine qzq hS (by omega) (by omega) (by simp only [hi]; omega) ?_; intro _ _; cbv))
  rename_i e
  refine qrn ?_
  simp only [← hS, Int.ofNat_eq_natCast, cq, Bool.not_eq_true', Bool.not_eq_false', decide_eq_true_eq, decide_eq_false_iff_not, beq_iff_eq, beq_eq_false_iff_ne, ne_eq]
  rw [ht']
  congr 2
  omega
def shrI (v k : Int) : Int := v / 2 ^ k.toNat
def bitB (b : List Int) (i : Int) : Bool := okI b i 1
def bitR (b : List Int) (i : Int) : Int := if bitB b i then bitI b i else 0
theorem Bit_f {b : List Int} {i r : Int} {t : Bool} (hb : Hu.BOk b) (hn : ilen b ≤ 1000000) (hi64 : i ≤ 9223372036854775807) (hr : bitR b i = r) (ht : bitB b i = t) :
    (S0 Tryz.prog).call 126 [.sl 0 1 (.l 0) (.y (ilen b)) none, .i .i64 (.y i)] [.r true true (.l 0) 1 (cellsB b)] (fun x _ => Sub x (.tp [.i .i64 (.y r), .b t])) := by
  obtain ⟨n, hn'⟩ : ∃ n, n = ilen b := ⟨_, rfl⟩
  have h0n := qag b
  rw [← hn'] at hn h0n ⊢
  have hpl := qae b
  generalize hF : cellsB b = F at hpl ⊢
  generalize hS : S0 Tryz.prog = S
  refine qab hS I.qng ?_
  cbv
  repeat' (first
    | (refine s_st hS ?_; try cbv)
    | (refine qac hS ?_ ?_ <;> intro h <;> (try cbv) <;> try exact s_ab h)
    | (refine qah hS ?_; intro _ _; try cbv)
    | (refine qad hS ?_; try cbv)
    | (refine qzq hS (by omega) (by omega) (by simp only [hi]; omega) ?_; intro _ _; cbv))
  · have e2 : t = false := by rw [← ht]; exact okI_f (.inl h)
    have e1 : r = 0 := by rw [← hr]; unfold bitR; rw [ht, e2]; rfl
    all_goals exact s_sA
  · have e2 : t = false := by rw [← ht]; exact okI_f (.inr (by omega))
    have e1 : r = 0 := by rw [← hr]; unfold bitR; rw [ht, e2]; rfl
    all_goals exact s_sA
  · have e2 : t = true := by rw [← ht]; exact okI_t (by omega) (by omega)
    have e1 : r = bitI b i := by rw [← hr]; unfold bitR; rw [ht, e2]; rfl
    rename_i q1 hq1 q hq
    obtain ⟨v, hv⟩ := qka (l := b) (i := q) (by omega) (by omega)
    have hb0 := hb v (List.mem_of_getElem? hv)
    repeat' (first
      | (refine s_st hS ?_; try cbv)
      | (refine qac hS ?_ ?_ <;> intro h <;> (try cbv) <;> try exact s_ab h)
      | (refine qah hS ?_; intro _ _; try cbv)
      | (refine qad hS ?_; try cbv)
      | (refine rowB hS hF hv rfl (by omega) ?_; try cbv))
    obtain ⟨sh, hsh⟩ : ∃ sh, sh = 7 - i % 8 := ⟨_, rfl⟩
    refine qax hS 1 I.qhj (fun x : Int × Int => 0 ≤ x.1 ∧ x.1 ≤ sh ∧ x.2 = shrI v x.1)
      (fun x => [(7, .i .i64 (.y x.1)), (6, .i .i64 (.y x.2))]) (fun x => [])
      (fun x => (sh - x.1).toNat) (0, v) rfl ⟨⟨Int.le_refl _, by dsimp only; omega, by simp [shrI]⟩, rfl, ?_, ?_, ?_⟩ ?_
    · cbv; all_goals exact s_sA
    · cbv; all_goals exact s_bA
    · cbv; exact gc_c (gc_m (qar hpl)) rfl
    · intro x
      obtain ⟨k, w⟩ := x
      intro hx
      dsimp only at hx
      cbv
      obtain ⟨g0, g1, g2⟩ := hx
      unfold shrI at g2
      have hw : 0 ≤ w ∧ w < 256 := by
        rw [g2]
        have h1 := Int.ediv_nonneg hb0.1 (by have := qcv k.toNat; omega : (0 : Int) ≤ 2 ^ k.toNat)
        have h2 := Int.ediv_le_self ((2 : Int) ^ k.toNat) hb0.1
        omega
      have hw2 : w / 2 = shrI v (k + 1) := by
        unfold shrI
        rw [g2, Int.ediv_ediv_of_nonneg (by have := qcv k.toNat; omega), show (k + 1).toNat = k.toNat + 1 by omega, Int.pow_succ]
      have hend : k = sh → bitI b i = w % 2 := fun e => bit_of hv hb (by omega) hq (j := k) (by omega) (by rw [g2])
      clear g2
      repeat' (first
        | (refine s_st hS ?_; try cbv)
        | (refine qac hS ?_ ?_ <;> intro h <;> (try cbv) <;> try exact s_ab h)
        | (refine qah hS ?_; intro _ _; try cbv)
        | (refine qad hS ?_; try cbv)
        | (refine s_rem hS (by omega) ?_; intro _ _; cbv)
        | (refine qzq hS (by omega) (by omega) (by simp only [hi]; omega) ?_; intro _ _; cbv))
      · rename_i w2 hw2' k2 hk2
        refine ⟨(k2, w2), by dsimp only; omega, ⟨by dsimp only; omega, by dsimp only; omega, ?_⟩, rfl, ?_, ?_, ?_⟩
        · dsimp only; rw [hw2', hk2]; exact hw2
        · cbv; all_goals exact s_sA
        · cbv; all_goals exact s_bA
        · cbv; exact gc_c (gc_m (qar hpl)) rfl
      · have := hend (by omega)
        all_goals exact s_sA
theorem Bit_u {S : Sy} (hS : S0 Tryz.prog = S) {b : List Int} {F : List SV} {n : Int} {zi : Z} {k : Nat} {ro lit : Bool} {st : Z} {l : List Blk} {K : SV → List Blk → Prop} (hb : Hu.BOk b) (hn : ilen b ≤ 1000000) (hn' : n = ilen b) (hF : cellsB b = F)
    (hrow : lget l k = .r ro lit st 1 F) (i : Int) (hzi : zi.v = i) (h0 : 0 ≤ i) (h8 : i < 8 * n) (h1 : ∀ r, bitI b i = r → K (.tp [.i .i64 (.y r), .tt]) l) :
    S.call 126 [.sl k 1 (.l 0) (.y n) none, .i .i64 zi] l K := by
  subst hn' hF hzi
  have hB : bitB b zi.v = true := okI_t h0 (by omega)
  have hf := Bit_f (b := b) (i := zi.v) hb hn (by omega) rfl rfl
  refine qlx hS (fun _ => k) (sv := .tp [.i .i64 (.y (bitI b zi.v)), .tt]) (qbf hf fun x l' hx => ⟨x, .rfl, hx.trans (qbs (.cons (qak ?_) (.cons (qwm hB) .nil)))⟩) (.cons .rfl (.cons (qak rfl) .nil)) rfl ⟨⟨_, _, _, _, _, _, _, _, rfl, qae b, hrow, .rfl⟩, trivial⟩ rfl (h1 _ rfl)
  unfold bitR; rw [hB]; rfl
def strB (l : List Int) : List UInt8 := l.map fun v => v.toNat.toUInt8
theorem s_bs {S : Sy} (hS : S0 Tryz.prog = S) {l : List Int} {F : List SV} {n : Int} {K : List UInt8 → Prop} (hb : Hu.BOk l) (hF : cellsB l = F) (hn : n = ilen l) (h : K (strB l)) : S.bs F 0 n K := by
  subst hS hF hn
  refine ⟨Int.le_refl _, qag l, strB l, ⟨by simp [strB, ilen], ?_⟩, h⟩
  intro q c hc
  unfold strB at hc
  rw [List.getElem?_map, Option.map_eq_some_iff] at hc
  obtain ⟨v, hv, rfl⟩ := hc
  refine ⟨.y v, ?_, ?_⟩
  · rw [show (0 : Int).toNat + q = q by simp]; exact cellsB_get hv
  · have := hb v (List.mem_of_getElem? hv)
    simp only [Z.v, Nat.toUInt8, UInt8.toNat_ofNat']
    omega
end Cz
namespace Cz
open Go Go.RowKit Go.Proofs
def layN (N : Nat) (E : List Bool) : List Int := Hu.packs N (E ++ List.replicate (8 * N - E.length) false)
def layB (E : List Bool) : List Int := layN ((E.length + 7) / 8) E
theorem layN_len (N : Nat) (E : List Bool) : ilen (layN N E) = N := by unfold layN ilen; rw [Hu.qdg]
theorem layN_ok (N : Nat) (E : List Bool) : Hu.BOk (layN N E) := Hu.qxd _ _
theorem layB_len (E : List Bool) : ilen (layB E) = ((E.length + 7) / 8 : Nat) := layN_len _ _
theorem qhq : ∀ (N : Nat) (X : List Bool) (j : Nat), j < N → (Hu.packs N X)[j]? = some ((Hu.valB ((X.drop (8 * j)).take 8) : Nat) : Int)
  | 0, _, _, h => by omega
  | N + 1, X, 0, _ => by simp [Hu.packs]
  | N + 1, X, j + 1, h => by
    simp only [Hu.packs, List.getElem?_cons_succ]
    rw [qhq N _ j (by omega), List.drop_drop, show 8 + 8 * j = 8 * (j + 1) by omega]
theorem valB_set : ∀ (Y : List Bool) (q : Nat) (b : Bool), q < Y.length → Y[q]? = some false → Hu.valB (Y.set q b) = Hu.valB Y + b.toNat * 2 ^ (Y.length - 1 - q)
  | [], q, _, h, _ => by simp at h
  | y :: Y, 0, b, _, hf => by
    simp only [List.getElem?_cons_zero, Option.some.injEq] at hf; subst hf
    simp only [List.set_cons_zero, Hu.qhl, List.length_cons]
    simp
    omega
  | y :: Y, q + 1, b, h, hf => by
    simp only [List.getElem?_cons_succ] at hf
    simp only [List.length_cons] at h
    simp only [List.set_cons_succ, Hu.qhl, List.length_cons, List.length_set]
    rw [valB_set Y q b (by omega) hf, show Y.length + 1 - 1 - (q + 1) = Y.length - 1 - q by omega]
    omega
theorem layN_set {N k : Nat} {E : List Bool} {b : Bool} (hk : E.length = k) (h : k < 8 * N) :
    ∃ v, (layN N E)[k / 8]? = some v ∧ 0 ≤ v ∧ v + b.toNat * 2 ^ (7 - k % 8) < 256 ∧ layN N (E ++ [b]) = (layN N E).set (k / 8) (v + b.toNat * 2 ^ (7 - k % 8)) := by
  have hX : E ++ [b] ++ List.replicate (8 * N - (E ++ [b]).length) false = (E ++ List.replicate (8 * N - E.length) false).set k b := by
    rw [List.set_append_right _ _ (by omega), hk, Nat.sub_self, show 8 * N - k = (8 * N - (k + 1)) + 1 by omega, List.replicate_succ, List.set_cons_zero]
    simp [hk]
  have hl : (E ++ List.replicate (8 * N - E.length) false).length = 8 * N := by simp; omega
  have hf : (E ++ List.replicate (8 * N - E.length) false)[k]? = some false := by
    rw [List.getElem?_append_right (by omega), hk, Nat.sub_self, List.getElem?_replicate, if_pos (by omega)]
  generalize hXe : E ++ List.replicate (8 * N - E.length) false = X at hX hl hf
  have hY : ((X.drop (8 * (k / 8))).take 8).length = 8 := by rw [List.length_take, List.length_drop]; omega
  have hq : ((X.drop (8 * (k / 8))).take 8)[k % 8]? = some false := by
    rw [List.getElem?_take_of_lt (by omega), List.getElem?_drop, show 8 * (k / 8) + k % 8 = k by omega]; exact hf
  have hset : ((X.set k b).drop (8 * (k / 8))).take 8 = ((X.drop (8 * (k / 8))).take 8).set (k % 8) b := by
    rw [List.drop_set, if_neg (by omega), List.take_set, show k - 8 * (k / 8) = k % 8 by omega]
  have hv := valB_set _ (k % 8) b (by rw [hY]; omega) hq
  rw [hY] at hv
  have hlt := Hu.qki (((X.drop (8 * (k / 8))).take 8).set (k % 8) b)
  rw [List.length_set, hY, hv] at hlt
  refine ⟨(Hu.valB ((X.drop (8 * (k / 8))).take 8) : Nat), ?_, by omega, ?_, ?_⟩
  · unfold layN; rw [hXe]; exact qhq N X _ (by omega)
  · rw [← qdn]
    have : ((b.toNat * 2 ^ (7 - k % 8) : Nat) : Int) = (b.toNat : Int) * ((2 ^ (7 - k % 8) : Nat) : Int) := by push_cast; rfl
    rw [← this]
    have e : 8 - 1 - k % 8 = 7 - k % 8 := by omega
    rw [e] at hlt
    omega
  · unfold layN
    rw [hX, hXe]
    apply List.ext_getElem?
    intro j
    rcases Nat.lt_or_ge j N with hj | hj
    · rw [qhq N _ j hj]
      by_cases hjk : j = k / 8
      · subst hjk
        rw [List.getElem?_set_self (by rw [Hu.qdg]; omega), hset, hv, ← qdn]
        have e : 8 - 1 - k % 8 = 7 - k % 8 := by omega
        rw [e]
        push_cast
        rfl
      · rw [List.getElem?_set_ne (fun e => hjk e.symm), qhq N _ j hj]
        congr 3
        rw [List.drop_set]
        split
        · rfl
        · rw [List.take_set]
          rename_i h1
          rw [List.set_eq_of_length_le]
          rw [List.length_take, List.length_drop]
          omega
    · rw [List.getElem?_eq_none (by rw [Hu.qdg]; omega), List.getElem?_eq_none (by rw [List.length_set, Hu.qdg]; omega)]
theorem layN_zero (N : Nat) : layN N [] = List.replicate N 0 := by
  unfold layN
  simp only [List.nil_append, List.length_nil, Nat.sub_zero]
  apply List.ext_getElem?
  intro j
  rcases Nat.lt_or_ge j N with hj | hj
  · rw [qhq N _ j hj, List.getElem?_replicate, if_pos hj]
    congr 1
    rw [List.drop_replicate, List.take_replicate]
    have : ∀ m, Hu.valB (List.replicate m false) = 0 := by
      intro m
      induction m with
      | zero => rfl
      | succ m ih => rw [List.replicate_succ, Hu.qhl, ih]; simp
    rw [this]; rfl
  · rw [List.getElem?_eq_none (by rw [Hu.qdg]; omega), List.getElem?_eq_none (by simp; omega)]
theorem layB_bit {E : List Bool} {i : Int} (h0 : 0 ≤ i) (h : i < E.length) : bitI (layB E) i = ((E.getD i.toNat false).toNat : Nat) := by
  unfold bitI layB layN
  rw [Hu.qys _ _ (by simp; omega), List.getD_eq_getElem?_getD, List.getElem?_append_left (by omega), ← List.getD_eq_getElem?_getD]
theorem code_bit {m c i : Int} (h0 : 0 ≤ i) (h : i < m) (hc : 0 ≤ c) : c / 2 ^ (m - 1 - i).toNat % 2 = (((Hu.bitsN m.toNat c.toNat).getD i.toNat false).toNat : Nat) := by
  rw [List.getD_eq_getElem?_getD, qub (by omega), show m.toNat - 1 - i.toNat = (m - 1 - i).toNat by omega, Option.getD_some]
  have e2 : c / 2 ^ (m - 1 - i).toNat % 2 = ((c.toNat / 2 ^ (m - 1 - i).toNat % 2 : Nat) : Int) := by
    push_cast
    rw [Int.toNat_of_nonneg hc]
  rw [e2]
  have : c.toNat / 2 ^ (m - 1 - i).toNat % 2 = 0 ∨ c.toNat / 2 ^ (m - 1 - i).toNat % 2 = 1 := by omega
  rcases this with h | h <;> simp [h]
end Cz
namespace Cz
open Go Go.RowKit Go.Proofs
end Cz
namespace Cz
open Go Go.RowKit Go.Proofs
def lenB (E : List Bool) : Int := E.length
theorem lenB_nn (E : List Bool) : 0 ≤ lenB E := by unfold lenB; omega
theorem lenB_lay (E : List Bool) : ilen (layB E) = (lenB E + 7) / 8 := by rw [layB_len]; unfold lenB; omega
theorem zero_sub : ∀ n, SubL (repS n [.i .u8 (.l 0)]) (cellsB (List.replicate n 0))
  | 0 => .nil
  | n + 1 => .cons (qak rfl) (zero_sub n)
theorem qvd : ∀ n, plains (repS n [.i .u8 (.l 0)]) = true
  | 0 => rfl
  | n + 1 => by simpa [repS, catS, plains, plainV] using qvd n
theorem qwg {L : List Int} {q : Nat} {x : Int} : repl (cellsB L) (q * 1 + 0) [.i .u8 (.y x)] = cellsB (L.set q x) := by
  rw [qed, qed, List.map_set, Nat.mul_one, Nat.add_zero]
  simp only [repl, qci]
def eI (E : List Bool) (i : Int) : Int := (E.getD i.toNat false).toNat
theorem eI_bd (E : List Bool) (i : Int) : 0 ≤ eI E i ∧ eI E i ≤ 1 := by
  unfold eI
  cases E.getD i.toNat false <;> decide
theorem lay_step {E : List Bool} {N : Nat} {j q sh p u : Int} {L : List Int} (h0 : 0 ≤ j) (h1 : j < lenB E) (hN : lenB E ≤ 8 * N) (hL : L = layN N (E.take j.toNat)) (hq : q = j / 8) (hsh : sh = 7 - j % 8) (hp : 2 ^ sh.toNat = p) (hu : eI E j = u) :
    ∃ v, L[q.toNat]? = some v ∧ 0 ≤ v ∧ v < 256 ∧ 0 ≤ u * p ∧ v + u * p < 256 ∧ ∀ x, x = v + u * p → layN N (E.take (j + 1).toNat) = L.set q.toNat x := by
  have hlen : (E.take j.toNat).length = j.toNat := by unfold lenB at h1; rw [List.length_take]; omega
  have hlt : j.toNat < E.length := by unfold lenB at h1; omega
  obtain ⟨v, h2, h3, h4, h5⟩ := layN_set (N := N) (E := E.take j.toNat) (b := E.getD j.toNat false) hlen (by unfold lenB at *; omega)
  have e1 : (7 - j.toNat % 8) = sh.toNat := by omega
  rw [e1, hp] at h4 h5
  have hu' : ((E.getD j.toNat false).toNat : Int) = u := hu
  rw [hu'] at h4 h5
  have hp0 : 0 < p := by rw [← hp]; exact qcv _
  have hub := eI_bd E j
  rw [hu] at hub
  have hup : 0 ≤ u * p := Int.mul_nonneg hub.1 (by omega)
  have e2 : j.toNat / 8 = q.toNat := by omega
  rw [e2] at h2 h5
  refine ⟨v, by rw [hL]; exact h2, h3, by omega, hup, h4, fun x hx => ?_⟩
  rw [hx, hL, ← h5, show (j + 1).toNat = j.toNat + 1 by omega, List.take_add_one, List.getD_eq_getElem?_getD, List.getElem?_eq_getElem hlt]
  rfl
theorem eI_left {E D : List Bool} {i : Int} (h0 : 0 ≤ i) (h : i < lenB E) : bitI (layB E) i = eI (E ++ D) i := by
  unfold lenB at h
  rw [layB_bit h0 h]
  unfold eI
  rw [List.getD_eq_getElem?_getD, List.getD_eq_getElem?_getD, List.getElem?_append_left (by omega)]
theorem eI_right {E : List Bool} {i m c : Int} (h : lenB E ≤ i) (h2 : i < lenB E + m) (hc : 0 ≤ c) : c / 2 ^ (lenB E + m - 1 - i).toNat % 2 = eI (E ++ Hu.bitsN m.toNat c.toNat) i := by
  have := code_bit (m := m) (c := c) (i := i - lenB E) (by omega) (by omega) hc
  unfold eI
  unfold lenB at *
  rw [List.getD_eq_getElem?_getD, List.getElem?_append_right (by omega), ← List.getD_eq_getElem?_getD, show i.toNat - E.length = (i - (E.length : Int)).toNat by omega, ← this]
  rw [show (m - 1 - (i - (E.length : Int))).toNat = ((E.length : Int) + m - 1 - i).toNat by omega]
theorem Lay_f {E : List Bool} {c m : Int} (hE : lenB E ≤ 100000) (hm0 : 0 ≤ m) (hm : m ≤ 30) (hc0 : 0 ≤ c) (hc : c < 2 ^ m.toNat) :
    (S0 Tryz.prog).call 115 [.sl 0 1 (.l 0) (.y (ilen (layB E))) none, .i .i64 (.y (lenB E)), .i .i64 (.y c), .i .i64 (.y m)] [.r true true (.l 0) 1 (cellsB (layB E))]
      (OwnR 1 1 (cellsB (layB (E ++ Hu.bitsN m.toNat c.toNat))) true [.i .i64 (.y (lenB E + m)), .i .i64 (.y 0)]) := by
  have hbe : Hu.BOk (layB E) := layN_ok _ _
  have hpl := qae (layB E)
  have hlen := lenB_lay E
  obtain ⟨n, hn'⟩ : ∃ n, n = ilen (layB E) := ⟨_, rfl⟩
  obtain ⟨e, he⟩ : ∃ e, e = lenB E := ⟨_, rfl⟩
  have he0 := lenB_nn E
  obtain ⟨E2, hE2⟩ : ∃ E2, E2 = E ++ Hu.bitsN m.toNat c.toNat := ⟨_, rfl⟩
  have hl2 : lenB E2 = e + m := by rw [he, hE2]; unfold lenB; rw [List.length_append, Hu.qbp]; omega
  have hnb : ilen (layB E) ≤ 1000000 := by omega
  have hbit1 : ∀ i, 0 ≤ i → i < e → bitI (layB E) i = eI E2 i := fun i h0 h1 => by rw [hE2]; exact eI_left h0 (by omega)
  have hbit2 : ∀ i, e ≤ i → i < e + m → c / 2 ^ (e + m - 1 - i).toNat % 2 = eI E2 i := fun i h0 h1 => by rw [hE2, he]; exact eI_right (by omega) (by omega) hc0
  rw [← hE2]
  rw [← hn'] at hlen ⊢
  rw [← he] at hlen hE he0 ⊢
  obtain ⟨p, hp⟩ : ∃ p : Int, 2 ^ m.toNat = p := ⟨_, rfl⟩
  rw [hp] at hc
  have hp0 : 0 < p := by rw [← hp]; exact qcv _
  have hp1 : p ≤ 1073741824 := by have := qhp (m := m.toNat) (n := 30) (by omega); rw [hp] at this; omega
  obtain ⟨e2, he2⟩ : ∃ e2, e2 = e + m := ⟨_, rfl⟩
  rw [← he2] at hl2 ⊢
  obtain ⟨N, hN⟩ : ∃ N, N = ((e2 + 7) / 8).toNat := ⟨_, rfl⟩
  have hlay : layB E2 = layN N E2 := by unfold layB; congr 1; unfold lenB at hl2; omega
  rw [hlay]
  generalize hP : cellsB (layN N E2) = P
  generalize hF : cellsB (layB E) = F at hpl ⊢
  generalize hS : S0 Tryz.prog = S
  refine qab hS I.qnf ?_
  cbv
  repeat' (first
    | (refine s_st hS ?_; try cbv)
    | (refine qac hS ?_ ?_ <;> intro h <;> (try cbv) <;> try exact s_ab h)
    | (refine qah hS ?_; intro _ _; try cbv)
    | (refine qad hS ?_; try cbv)
    | (refine s_mul hS ?_ (by simp only [lo]; omega) (by simp only [hi]; omega); intro _ _; try cbv)
    | (refine qmd hS (c := p) (by rw [← hp]; congr 1; simp only [IntKind.bits]; omega) ?_ (by simp only [lo]; omega) (by simp only [hi]; omega); intro _ _; cbv)
    | (refine qzq hS (by omega) (by omega) (by simp only [hi]; omega) ?_; intro _ _; cbv))
  rename_i f2 hf2 f3 hf3 f4 hf4
  have hf4N : f4.toNat = N := by rw [hN]; congr 1; omega
  refine s_mk hS rfl (by omega) (by omega) (qvd _) ?_
  rw [hf4N]
  obtain ⟨G0, hG0⟩ : ∃ G0, G0 = cellsB (layN N (E2.take (0 : Int).toNat)) := ⟨_, rfl⟩
  have hs0 : FSub (repS N [.i .u8 (.l 0)]) G0 := by
    rw [hG0, show E2.take (0 : Int).toNat = [] by simp, layN_zero]; exact (zero_sub N).fsub
  have hp0 : plains G0 = true := by rw [hG0]; exact qae _
  generalize repS N [SV.i .u8 (.l 0)] = Z0 at hs0
  cbv
  refine qax hS 2 I.qhi (fun x : Int × List Int × List SV => 0 ≤ x.1 ∧ x.1 ≤ e2 ∧ x.2.1 = layN N (E2.take x.1.toNat) ∧ x.2.2 = cellsB x.2.1)
    (fun x => [(13, .i .i64 (.y x.1))]) (fun x => [(1, .r false false (.l 0) 1 x.2.2)])
    (fun x => (e2 - x.1).toNat) (0, layN N (E2.take (0 : Int).toNat), G0) rfl ⟨⟨Int.le_refl _, by dsimp only; omega, rfl, hG0⟩, rfl, ?_, ?_, ?_⟩ ?_
  · cbv; all_goals exact s_sA
  · cbv; exact ⟨.rfl, .r hs0 rfl hp0, trivial⟩
  · cbv; exact gc_c (gc_m (qar hpl)) rfl
  · intro x
    obtain ⟨j, L, G⟩ := x
    intro hx
    dsimp only at hx
    cbv
    obtain ⟨g0, g1, g2, g3⟩ := hx
    refine qac hS ?_ ?_ <;> intro h <;> cbv
    · obtain ⟨q, hq⟩ : ∃ q, q = j / 8 := ⟨_, rfl⟩
      obtain ⟨sh, hsh⟩ : ∃ sh, sh = 7 - j % 8 := ⟨_, rfl⟩
      obtain ⟨pw, hpw⟩ : ∃ pw : Int, 2 ^ sh.toNat = pw := ⟨_, rfl⟩
      obtain ⟨u, hu⟩ : ∃ u, eI E2 j = u := ⟨_, rfl⟩
      have hub := eI_bd E2 j
      rw [hu] at hub
      obtain ⟨v, k1, k2, k3, k4, k5, k6⟩ := lay_step (N := N) g0 (by omega) (by omega) g2 hq hsh hpw hu
      have b1 : j < e → bitI (layB E) j = u := fun hj => by rw [hbit1 j g0 hj, hu]
      have b2 : e ≤ j → c / 2 ^ (e + m - 1 - j).toNat % 2 = u := fun hj => by rw [hbit2 j hj (by omega), hu]
      have hgl : q < N := by omega
      have hGl : G.length = N := by rw [g3, qed, List.length_map, g2]; unfold layN; rw [Hu.qdg]
      clear hbit1 hbit2 g2
      repeat' (first
        | (refine s_st hS ?_; try cbv)
        | (refine qac hS ?_ ?_ <;> intro h <;> (try cbv) <;> try exact s_ab h)
        | (refine qah hS ?_; intro _ _; try cbv)
        | (refine qad hS ?_; try cbv))
      · refine Bit_u hS hbe hnb hn' hF rfl j rfl g0 (by omega) fun r hr => ?_
        obtain rfl : r = u := hr.symm.trans (b1 (by assumption))
        cbv
        repeat' (first
          | (refine s_st hS ?_; try cbv)
          | (refine qac hS ?_ ?_ <;> intro h <;> (try cbv) <;> try exact s_ab h)
          | (refine qah hS ?_; intro _ _; try cbv)
          | (refine qad hS ?_; try cbv)
          | (refine qzq hS (by omega) (by omega) (by simp only [hi]; omega) ?_; intro _ _; cbv)
          | (refine rowB hS g3.symm k1 (by omega) (by omega) ?_; try cbv)
          | (refine s_rem hS (by omega) ?_; intro _ _; cbv)
          | (refine qmd hS (c := pw) (by rw [← hpw]; congr 1; simp only [IntKind.bits]; omega) ?_ (by simp only [lo]; omega) (by simp only [hi]; omega); intro _ _; cbv)
          | (refine s_wr' hS (by omega) (by omega) (Nat.le_refl 1) rfl fun F' hF' => ?_; cbv))
        rename_i x hx j2 hj2
        obtain ⟨L2, hL2⟩ : ∃ L2, L2 = L.set q.toNat x := ⟨_, rfl⟩
        obtain ⟨G2, hG2⟩ : ∃ G2, G2 = cellsB L2 := ⟨_, rfl⟩
        have hFG : F' = G2 := by
          rw [← hF', hG2, hL2, ← qwg, g3]
          congr 2
          omega
        refine ⟨(j2, L2, G2), by dsimp only; omega, ⟨by dsimp only; omega, by dsimp only; omega, ?_, hG2⟩, rfl, ?_, ?_, ?_⟩
        · dsimp only; rw [hL2, hj2]; exact (k6 x (by omega)).symm
        · cbv; all_goals exact s_sA
        · cbv; refine ⟨.rfl, ?_, trivial⟩; rw [hFG]; exact .rfl
        · cbv; exact gc_c (gc_m (qar hpl)) rfl
      · refine s_shr hS (by simp only [IntKind.bits]; omega) fun r hr => ?_
        have hr0 : 0 ≤ r := by rw [hr]; exact Int.ediv_nonneg (by omega) (Int.le_of_lt (qcv _))
        cbv
        refine s_rem hS hr0 fun r2 hr2 => ?_
        obtain rfl : r2 = u := by
          rw [← b2 (by omega), hr2, hr]
          congr 3
          omega
        cbv
        repeat' (first
          | (refine s_st hS ?_; try cbv)
          | (refine qac hS ?_ ?_ <;> intro h <;> (try cbv) <;> try exact s_ab h)
          | (refine qah hS ?_; intro _ _; try cbv)
          | (refine qad hS ?_; try cbv)
          | (refine qzq hS (by omega) (by omega) (by simp only [hi]; omega) ?_; intro _ _; cbv)
          | (refine rowB hS g3.symm k1 (by omega) (by omega) ?_; try cbv)
          | (refine s_rem hS (by omega) ?_; intro _ _; cbv)
          | (refine qmd hS (c := pw) (by rw [← hpw]; congr 1; simp only [IntKind.bits]; omega) ?_ (by simp only [lo]; omega) (by simp only [hi]; omega); intro _ _; cbv)
          | (refine s_wr' hS (by omega) (by omega) (Nat.le_refl 1) rfl fun F' hF' => ?_; cbv))
        rename_i x hx j2 hj2
        obtain ⟨L2, hL2⟩ : ∃ L2, L2 = L.set q.toNat x := ⟨_, rfl⟩
        obtain ⟨G2, hG2⟩ : ∃ G2, G2 = cellsB L2 := ⟨_, rfl⟩
        have hFG : F' = G2 := by
          rw [← hF', hG2, hL2, ← qwg, g3]
          congr 2
          omega
        refine ⟨(j2, L2, G2), by dsimp only; omega, ⟨by dsimp only; omega, by dsimp only; omega, ?_, hG2⟩, rfl, ?_, ?_, ?_⟩
        · dsimp only; rw [hL2, hj2]; exact (k6 x (by omega)).symm
        · cbv; all_goals exact s_sA
        · cbv; refine ⟨.rfl, ?_, trivial⟩; rw [hFG]; exact .rfl
        · cbv; exact gc_c (gc_m (qar hpl)) rfl
    · have hPG : P = G := by
        rw [g3, ← hP, g2, List.take_of_length_le]
        unfold lenB at hl2
        omega
      refine ⟨.sl 1 1 (.l 0) (.y f4) none, qbs (.cons .rfl (.cons (qak (by simp only [Z.v]; omega)) (.cons (qak rfl) .nil))), ?_⟩
      rw [hPG]
      exact qiq g3.symm (Nat.le_refl 1) (by rw [g2, layN_len]; simp only [Z.v]; omega) rfl
end Cz
namespace Cz
open Go Go.RowKit Go.Proofs
theorem lay_u {S : Sy} (hS : S0 Tryz.prog = S) {E : List Bool} {c m : Int} {k : Nat} {F : List SV} {ro lit : Bool} {st zn zu zc zm : Z} {l : List Blk} {K : SV → List Blk → Prop} (hE : lenB E ≤ 100000) (hF : cellsB (layB E) = F)
    (hrow : lget l k = .r ro lit st 1 F) (hn : zn.v = ilen (layB E)) (hu : zu.v = lenB E) (hzc : zc.v = c) (hzm : zm.v = m) (hm0 : 0 ≤ m) (hm : m ≤ 30) (hc0 : 0 ≤ c) (hc : c < 2 ^ m.toNat)
    (hK : ∀ E2 n2 F2 st u2, E2 = E ++ Hu.bitsN m.toNat c.toNat → cellsB (layB E2) = F2 → n2 = ilen (layB E2) → u2 = lenB E + m → K (.tp [.sl (len l) 1 (.l 0) (.y n2) none, .i .i64 (.y u2), .i .i64 (.y 0)]) (snoc l (.r false false (.y st) 1 F2))) :
    S.call 115 [.sl k 1 (.l 0) zn none, .i .i64 zu, .i .i64 zc, .i .i64 zm] l K := by
  subst hzc hzm hF
  refine qfy hS (fun _ => k) (Lay_f hE hm0 hm hc0 hc) (.cons (qef rfl hn) (.cons (qak hu) (.cons (qak rfl) (.cons (qak rfl) .nil)))) rfl ⟨⟨_, _, _, _, _, _, _, _, rfl, qae _, hrow, .rfl⟩, trivial⟩ (by omega) (qae _) rfl (n := ilen (layB (E ++ Hu.bitsN zm.v.toNat zc.v.toNat))) ?_ fun st => hK _ _ _ st _ rfl rfl rfl rfl
  have := qao (layB (E ++ Hu.bitsN zm.v.toNat zc.v.toNat))
  unfold ilen at this ⊢
  rw [this]; simp
theorem bits_ones (k : Nat) : Hu.bitsN k (2 ^ k - 1) = List.replicate k true := by
  have := Hu.qpp (List.replicate k true)
  rwa [List.length_replicate, Hu.qlw] at this
theorem lay_put {b : List Int} {E2 : List Bool} {k c : Int} (h : E2 = Hu.enc b ++ Hu.bitsN k.toNat c.toNat) (hk : k = 8 * ((lenB (Hu.enc b) + 7) / 8) - lenB (Hu.enc b)) (hc : c = 2 ^ k.toNat - 1) : layB E2 = Hu.put b := by
  have hc' : c.toNat = 2 ^ k.toNat - 1 := by rw [hc, ← qdn]; omega
  rw [hc', bits_ones] at h
  unfold lenB at hk
  have hp : k.toNat = Hu.pad (Hu.enc b).length := by unfold Hu.pad; omega
  unfold Hu.put Hu.pack layB layN Hu.padded
  rw [h, hp]
  have hl : (Hu.enc b ++ List.replicate (Hu.pad (Hu.enc b).length) true).length = 8 * (((Hu.enc b).length + 7) / 8) := Hu.qis _
  rw [hl]
  rw [show (8 * (((Hu.enc b).length + 7) / 8) + 7) / 8 = ((Hu.enc b).length + 7) / 8 by omega, Nat.sub_self, show 8 * (((Hu.enc b).length + 7) / 8) / 8 = ((Hu.enc b).length + 7) / 8 by omega]
  simp
theorem encT_0 (b : List Int) : encT b 0 = [] := by unfold encT; simp [Hu.enc]
theorem pl_m {F : List SV} : plains F = true → (match F with | [] => true | x :: xs => plainV x && plains xs) = true := by
  intro h
  cases F with
  | nil => rfl
  | cons x xs => simpa only [plains] using h
theorem rput_f {b : List Int} (hb : Hu.BOk b) (hn : ilen b ≤ 5000) :
    (S0 Tryz.prog).call 105 [.sl 0 1 (.l 0) (.y (ilen b)) none] [.r true true (.l 0) 1 (cellsB b)] (OwnR 1 1 (cellsB (Hu.put b)) false []) := by
  obtain ⟨n, hn'⟩ : ∃ n, n = ilen b := ⟨_, rfl⟩
  have h0n := qag b
  rw [← hn'] at hn h0n ⊢
  have hpl := qae b
  generalize hF : cellsB b = F at hpl ⊢
  generalize hP : cellsB (Hu.put b) = P
  generalize hS : S0 Tryz.prog = S
  refine qab hS I.qnc ?_
  cbv
  refine qoa hS 3 1 (by omega) rfl ?_
  cbv
  refine s_loop_ren hS 2 I.qhg (fun x : Int × Int × Int × Int × List SV => 0 ≤ x.1 ∧ x.1 ≤ n ∧ x.2.1 = bitsI b x.1 ∧ x.2.2.1 = ilen (layB (encT b x.1)) ∧ x.2.2.2.2 = cellsB (layB (encT b x.1)))
    (fun x => [(5, .i .i64 (.y x.1)), (4, .i .i64 (.y x.2.1)), (3, .sl 1 1 (.l 0) (.y x.2.2.1) none)]) (fun x => [(1, .r false false (.y x.2.2.2.1) 1 x.2.2.2.2)])
    (fun x => (n - x.1).toNat) (0, 0, 0, 0, []) rfl rfl (fun _ => rfl) ⟨⟨Int.le_refl _, by dsimp only; omega, by dsimp only; rfl, by dsimp only; rw [encT_0]; rfl, by dsimp only; rw [encT_0]; rfl⟩, rfl, ?_, ?_, ?_⟩ ?_
  · cbv; (repeat' (first | exact qev | exact Sub.rfl | exact SubL.nil | refine SubL.cons ?_ ?_ | exact qak rfl | exact qef rfl rfl))
  · cbv; exact ⟨.rfl, .r .rfl rfl rfl, trivial⟩
  · cbv; exact gc_c (gc_m (qar hpl)) rfl
  · intro x
    obtain ⟨j, u, nn, st, G⟩ := x
    intro hx
    dsimp only at hx
    cbv
    obtain ⟨g0, g1, g2, g3, g4⟩ := hx
    have hbd := qeu (b := b) g0
    rw [← g2] at hbd
    refine qac hS ?_ ?_ <;> intro h <;> cbv
    · obtain ⟨v, hv⟩ := qka (l := b) (i := j) (by omega) (by omega)
      have hb0 := hb v (List.mem_of_getElem? hv)
      obtain ⟨m, hm⟩ : ∃ m, clsI v = m := ⟨_, rfl⟩
      obtain ⟨c, hcv⟩ : ∃ c, codeI v = c := ⟨_, rfl⟩
      have hmb := qtq v
      have hcb := qyo hb0
      have hnx := qix hv g0
      have hen := qtg hv g0
      have hco : Hu.cod v.toNat = Hu.bitsN m.toNat c.toNat := by rw [← hm, ← hcv]; rfl
      rw [hco] at hen
      rw [hm] at hmb hnx hcb
      rw [hcv] at hcb
      have hlE : lenB (encT b j) = u := g2.symm
      repeat' (first
        | (refine s_st hS ?_; try cbv)
        | (refine qac hS ?_ ?_ <;> intro h <;> (try cbv) <;> try exact s_ab h)
        | (refine qah hS ?_; intro _ _; try cbv)
        | (refine qad hS ?_; try cbv)
        | (refine rowB hS hF hv rfl (by omega) ?_; try cbv)
        | (refine rCode_u hS hb0.1 hb0.2 fun c' m' hc' hm' => ?_; obtain rfl : c' = c := hc'.symm.trans hcv; obtain rfl : m' = m := hm'.symm.trans hm; cbv))
      refine lay_u hS (E := encT b j) (c := c') (m := m') (by omega) g4.symm rfl (by simp only [Z.v]; exact g3) (by simp only [Z.v]; omega) rfl rfl (by omega) (by omega) hcb.1 hcb.2.1 fun E2 n2 F2 st2 u2 hE2 hF2 hn2 hu2 => ?_
      cbv
      repeat' (first
        | (refine s_st hS ?_; try cbv)
        | (refine qac hS ?_ ?_ <;> intro h <;> (try cbv) <;> try exact s_ab h)
        | (refine qah hS ?_; intro _ _; try cbv)
        | (refine qad hS ?_; try cbv))
      rename_i j2 hj2
      rw [← hen, ← hj2] at hE2
      refine ⟨(j2, u2, n2, st2, F2), 1, 2, by decide, by decide, by dsimp only; omega, ⟨by dsimp only; omega, by dsimp only; omega, by dsimp only; rw [hj2, hnx]; omega, by dsimp only; rw [hn2, hE2], by dsimp only; rw [← hF2, hE2]⟩, rfl, ?_, ?_, ?_⟩
      · cbv; all_goals exact s_sA
      · cbv
        exact ⟨.inr ⟨.rfl, pl_m hpl, trivial⟩, .inr ⟨.rfl, pl_m (by rw [← hF2]; exact qae _), trivial⟩, trivial⟩
      · cbv; exact gc_c (gc_m (qar hpl)) rfl
    · obtain rfl : j = n := by omega
      have hee : encT b j = Hu.enc b := by unfold encT; rw [qca (by omega)]
      have hlE : lenB (Hu.enc b) = u := by rw [← hee]; exact g2.symm
      have hnn : nn = (u + 7) / 8 := by rw [g3, lenB_lay, hee, hlE]
      obtain ⟨k, hk⟩ : ∃ k, k = 8 * nn - u := ⟨_, rfl⟩
      obtain ⟨p, hp⟩ : ∃ p : Int, 2 ^ k.toNat = p := ⟨_, rfl⟩
      have hp0 : 0 < p := by rw [← hp]; exact qcv _
      have hp1 : p ≤ 128 := by have := qhp (m := k.toNat) (n := 7) (by omega); rw [hp] at this; omega
      repeat' (first
        | (refine s_st hS ?_; try cbv)
        | (refine qac hS ?_ ?_ <;> intro h <;> (try cbv) <;> try exact s_ab h)
        | (refine qah hS ?_; intro _ _; try cbv)
        | (refine qad hS ?_; try cbv)
        | (refine s_mul hS ?_ (by simp only [lo]; omega) (by simp only [hi]; omega); intro _ _; try cbv)
        | (refine qmd hS (c := p) (by rw [← hp]; congr 1; simp only [IntKind.bits]; omega) ?_ (by simp only [lo]; omega) (by simp only [hi]; omega); intro _ _; cbv))
      rename_i a1 ha1 k1 hk1 a3 ha3 c1 hc1
      have hkk : k1 = k := by omega
      refine lay_u hS (E := encT b j) (c := c1) (m := k1) (by rw [hee]; omega) g4.symm rfl (by simp only [Z.v]; exact g3) (by simp only [Z.v]; rw [hee]; omega) rfl rfl (by omega) (by omega) (by omega) (by rw [hkk, hp]; omega) fun E2 n2 F2 st2 u2 hE2 hF2 hn2 hu2 => ?_
      cbv
      rw [hee] at hE2
      have hPF : P = F2 := by rw [← hP, ← hF2, lay_put hE2 (by rw [hlE]; omega) (by rw [hkk, hp]; omega)]
      refine ⟨_, .rfl, ?_⟩
      rw [hPF]
      exact qiq hF2 (by omega) hn2 rfl
end Cz
namespace Cz
open Go Go.RowKit Go.Proofs
end Cz
namespace Cz
open Go Go.RowKit Go.Proofs
theorem qdp (L : List Int) : ilen L * ((1 : Nat) : Int) = (cellsB L).length := by
  have := qao L
  unfold ilen at this ⊢
  rw [this]; simp
section
variable {S : Sy} {b : List Int} {F : List SV} {k : Nat} {ro lit : Bool} {st zn : Z} {l : List Blk} {K : SV → List Blk → Prop}
theorem put_u (hS : S0 Tryz.prog = S) (hb : Hu.BOk b) (hn : ilen b ≤ 1000000) (hrow : lget l k = .r ro lit st 1 F) (hs : FSub F (cellsB b)) (hz : zn.v = ilen b)
    (hK : ∀ F2 n2 st, cellsB (Hu.put b) = F2 → n2 = ilen (Hu.put b) → K (.sl (len l) 1 (.l 0) (.y n2) none) (snoc l (.r false false (.y st) 1 F2))) : S.call 102 [.sl k 1 (.l 0) zn none] l K :=
  qfy hS (fun _ => k) (put_f hb hn) (.cons (qef rfl hz) .nil) rfl ⟨⟨_, _, _, _, _, _, _, _, rfl, qae _, hrow, hs⟩, trivial⟩ (by omega) (qae _) rfl (qdp _) fun st => hK _ _ st rfl rfl
theorem rput_u (hS : S0 Tryz.prog = S) (hb : Hu.BOk b) (hn : ilen b ≤ 5000) (hrow : lget l k = .r ro lit st 1 F) (hs : FSub F (cellsB b)) (hz : zn.v = ilen b)
    (hK : ∀ F2 n2 st, cellsB (Hu.put b) = F2 → n2 = ilen (Hu.put b) → K (.sl (len l) 1 (.l 0) (.y n2) none) (snoc l (.r false false (.y st) 1 F2))) : S.call 105 [.sl k 1 (.l 0) zn none] l K :=
  qfy hS (fun _ => k) (rput_f hb hn) (.cons (qef rfl hz) .nil) rfl ⟨⟨_, _, _, _, _, _, _, _, rfl, qae _, hrow, hs⟩, trivial⟩ (by omega) (qae _) rfl (qdp _) fun st => hK _ _ st rfl rfl
theorem short_u (hS : S0 Tryz.prog = S) (hb : Hu.BOk b) (hn : ilen b ≤ 1000000) (hrow : lget l k = .r ro lit st 1 F) (hs : FSub F (cellsB b)) (hz : zn.v = ilen b)
    (hK : ∀ t, shortB b = t → K (.b t) l) : S.call 81 [.sl k 1 (.l 0) zn none] l K :=
  qlx hS (fun _ => k) (Shorter_f hb hn rfl) (.cons (qef rfl hz) .nil) rfl ⟨⟨_, _, _, _, _, _, _, _, rfl, qae _, hrow, hs⟩, trivial⟩ rfl (hK _ rfl)
theorem rshort_u (hS : S0 Tryz.prog = S) (hb : Hu.BOk b) (hn : ilen b ≤ 1000000) (hrow : lget l k = .r ro lit st 1 F) (hs : FSub F (cellsB b)) (hz : zn.v = ilen b)
    (hK : ∀ t, shortB b = t → K (.b t) l) : S.call 84 [.sl k 1 (.l 0) zn none] l K :=
  qlx hS (fun _ => k) (rShorter_f hb hn rfl) (.cons (qef rfl hz) .nil) rfl ⟨⟨_, _, _, _, _, _, _, _, rfl, qae _, hrow, hs⟩, trivial⟩ rfl (hK _ rfl)
end
theorem bok1 {l : List Int} (h : l.all (fun v => decide (0 ≤ v) && decide (v < 256)) = true) : Hu.BOk l := by
  intro v hv
  have := List.all_eq_true.1 h v hv
  simpa using this
end Cz
namespace Cz
open Go Go.RowKit Go.Proofs
def part (b : List Int) (o n : Int) : List Int := (b.drop o.toNat).take n.toNat
theorem qrw {n0 k : Nat} {L : List Int} {X P : List SV} {lit : Bool} {st nn : Z} {l' : List Blk} (hX : X = cellsB L) (hP : cellsB L = P) (hk : n0 ≤ k) (hn : nn.v = ilen L) (hB : l'[k]? = some (.r false lit st 1 X)) : RowIs n0 1 P (.sl k 1 (.l 0) nn none) l' := by
  rw [hX, hP] at hB
  exact qiq hP hk hn hB
def pgo (b : List Int) : Nat → Int → Int → Int × Int × Int
  | 0, _, _ => (0, 0, 60)
  | f + 1, at', n => match b[at'.toNat]? with
    | none => (0, 0, 10)
    | some v =>
      if 5 < at' ∨ 2147483648 ≤ n + v % 128 * 2 ^ (7 * (at' - 1)).toNat then (0, 0, 60)
      else if v < 128 then (n + v % 128 * 2 ^ (7 * (at' - 1)).toNat, at' + 1, 0)
      else pgo b f (at' + 1) (n + v % 128 * 2 ^ (7 * (at' - 1)).toNat)
def preI (b : List Int) (p : Int) : Int × Int × Int := match b with
  | [] => (0, 0, 10)
  | v :: _ => if v % p < p - 1 then (v % p, 1, 0) else pgo b 6 1 (p - 1)
def preN (b : List Int) (p : Int) : Int := (preI b p).1
def preE (b : List Int) (p : Int) : Int := (preI b p).2.2
def preR (b : List Int) (p : Int) : List Int := if preE b p = 0 then b.drop (preI b p).2.1.toNat else []
end Cz
namespace Cz
open Go Go.RowKit Go.Proofs
end Cz
namespace Cz
open Go Go.RowKit Go.Proofs
end Cz
namespace Cz
open Go Go.RowKit Go.Proofs
def tTake (b : List Int) : List Int × List Int × Int :=
  if preE b 128 ≠ 0 then ([], [], preE b 128)
  else if ilen (preR b 128) < preN b 128 then ([], [], 10)
  else if b.getD 0 0 < 128 then (part (preR b 128) 0 (preN b 128), (preR b 128).drop (preN b 128).toNat, 0)
  else if takeE (part (preR b 128) 0 (preN b 128)) = 0 then (takeL (part (preR b 128) 0 (preN b 128)), (preR b 128).drop (preN b 128).toNat, 0)
  else ([], [], 70)
end Cz
namespace Cz
open Go Go.RowKit Go.Proofs
end Cz
