/- What the claims of this group lean on, part 5: our engine, the functions' simplified codes, their contracts. No condition. -/
import Derived.Test.YtdbnbknghhpbiaaGreatDoorKY4
import Derived.Test.YtdbnbknghhpbiaaGreatDoorProg
set_option maxRecDepth 100000
set_option linter.unusedSimpArgs false
set_option linter.unusedVariables false
set_option maxHeartbeats 4000000
namespace Cz
open Go Go.RowKit Go.Proofs
namespace I
def o (d : Nat) (x : AOp) : AO := ⟨some d, x, none⟩
def u (x : AOp) : AO := ⟨none, x, none⟩
def q (d : Nat) (x : AOp) (a : Nat) (b : Bool) : AO := ⟨some d, x, some (a, b)⟩
def z (n : Int) : Opd := .c (.i .i64 (.l n))
def f (g : Nat) (l : List Opd) : AOp := .call (.c (.fn (.func g) [] [])) l
def kk (l : List (List Nat)) (n : Nat) : List Nat := l.getD n []
def qgr : Nat → List Nat := kk [[0,3,14],[31,32,33,34,35,36,37,38,39,40,41,42,43,44,45,46,47,48,49,50,51,52,53],[55],[56,57,58,59,60,61,62],[1,2,7,63,64,65,66,67,68,69],[16,18,70,71,72,73,74,75,76,77],[],[79,80,81,82,83],[84,85,86,87,88],[89,90,91,92,93],[94,95,96,97,98],[99,100,101,102,103,104,105,106],[5,107,108,109,110,111,112,113,114],[6,10,19,20,21,22,23,24,25,26,27,28,29,30,115,116,117,118,119,120,121,122,123,124,125,126,127,128,129,130,131,132,133,134,135,136,137,138,139,140,141,142,143,144,145,146,147,148,149,150,151,152,153,154],[],[156,157],[4,15,17,158,159,160,161,162,163,164,165,166,167,168,169,170,171,172,173,174]]
def qfg : List (Nat × List Nat) := [(0,[]),(1,[]),(2,[]),(3,[]),(4,[]),(5,[]),(6,[]),(7,[]),(8,[]),(9,[]),(10,[]),(11,[]),(12,[]),(13,[]),(14,[]),(15,[]),(16,[]),(17,[]),(18,[]),(19,[]),(20,[]),(21,[]),(22,[]),(23,[]),(24,[]),(25,[]),(26,[]),(27,[]),(28,[]),(29,[]),(30,[]),(31,[]),(32,[]),(33,[]),(35,[]),(36,[]),(34,[35]),(37,[]),(38,[]),(39,[]),(40,[])]
def qff : List (Nat × List Nat) := [(0,[]),(2,[]),(1,[]),(3,[]),(4,[]),(5,[]),(6,[]),(7,[]),(9,[]),(10,[]),(8,[9,10]),(11,[]),(12,[]),(13,[]),(14,[]),(15,[]),(16,[]),(17,[])]
def qjv : IR :=
 (.seq (.reg [o 7 (.box (.t 0)),o 10 (.box (.t 3)),o 14 (.mv (.c .ff))] [0,3,14]) (.seq (.seq (.reg [o 31 (.load true 2 (.t 7)),o 32 (f 18 [(.t 31)]),o 33 (.mv (.t 32)),q 34 (.mv (.t 2)) 33 false,q 35 (.len false (.t 34)) 33 false,q 36 (.bin .gt (.t 35) (z 2000)) 33 false,o 37 (.pick (.t 33) (.c .tt) (.t 36)),o 38 (.mv (.t 37)),q 39 (.fad 0 (.t 10)) 38 false,q 40 (.load false 1 (.t 39)) 38 false,q 41 (.len true (.t 40)) 38 false,q 42 (.bin .gt (.t 41) (z 2000)) 38 false,o 43 (.pick (.t 38) (.c .tt) (.t 42)),o 44 (.mv (.t 43)),q 45 (.fad 1 (.t 10)) 44 false,q 46 (.load false 1 (.t 45)) 44 false,q 47 (.len true (.t 46)) 44 false,q 48 (.bin .gt (.t 47) (z 2000)) 44 false,o 49 (.pick (.t 44) (.c .tt) (.t 48)),o 50 (.mv (.t 49)),q 51 (.mv (.t 4)) 50 false,q 52 (.len false (.t 51)) 50 false,q 53 (.bin .gt (.t 52) (z 60)) 50 false,o 54 (.pick (.t 50) (.c .tt) (.t 53))] [31,32,33,34,35,36,37,38,39,40,41,42,43,44,45,46,47,48,49,50,51,52,53]) (.cond (.t 54) (.seq (.reg [o 55 (f 19 []),o 14 (.mv (.t 55))] [55]) .ret) .skip)) (.seq (.reg [o 57 (.load true 2 (.t 7)),o 58 (.mv (.t 1)),o 59 (.mv (.t 2)),o 60 (f 20 [(.t 57),(.t 58),(.t 59)]),o 56 (.mv (.t 60)),o 61 (.ext (.t 56) 0),o 62 (.ext (.t 56) 1),o 15 (.alloc [(.re (.slice none 0 0)),.ff,(.i .i64 (.l 0)),(.re (.slice none 0 0))]),u (.store 4 (.t 15) (.t 61)),o 16 (.mv (.t 62))] [56,57,58,59,60,61,62]) (.seq (.reg [o 64 (.load true 2 (.t 7)),o 65 (.mv (.t 1)),o 66 (.mv (.t 2)),o 67 (f 21 [(.t 64),(.t 65),(.t 66)]),o 63 (.mv (.t 67)),o 68 (.ext (.t 63) 0),o 69 (.ext (.t 63) 1),o 17 (.alloc [(.re (.slice none 0 0)),.ff,(.i .i64 (.l 0)),(.re (.slice none 0 0))]),u (.store 4 (.t 17) (.t 68)),o 18 (.mv (.t 69))] [1,2,7,63,64,65,66,67,68,69]) (.seq (.seq (.reg [o 70 (.load true 4 (.t 15)),o 71 (.load true 4 (.t 17)),o 72 (f 22 [(.t 70),(.t 71)]),o 73 (.not (.t 72)),o 74 (.mv (.t 73)),q 75 (.mv (.t 16)) 74 false,q 76 (.mv (.t 18)) 74 false,q 77 (.bin .ne (.t 75) (.t 76)) 74 false,o 78 (.pick (.t 74) (.c .tt) (.t 77))] [16,18,70,71,72,73,74,75,76,77]) (.cond (.t 78) (.seq (.reg [o 14 (.mv (.c .ff))] []) .ret) .skip)) (.seq (.reg [o 80 (.mv (.t 5)),o 81 (f 23 [(.t 80)]),o 79 (.mv (.t 81)),o 82 (.ext (.t 79) 0),o 83 (.ext (.t 79) 1),o 19 (.mv (.t 82)),o 20 (.mv (.t 83))] [79,80,81,82,83]) (.seq (.reg [o 85 (.mv (.t 5)),o 86 (f 24 [(.t 85)]),o 84 (.mv (.t 86)),o 87 (.ext (.t 84) 0),o 88 (.ext (.t 84) 1),o 21 (.mv (.t 87)),o 22 (.mv (.t 88))] [84,85,86,87,88]) (.seq (.reg [o 90 (.mv (.t 5)),o 91 (f 25 [(.t 90)]),o 89 (.mv (.t 91)),o 92 (.ext (.t 89) 0),o 93 (.ext (.t 89) 1),o 23 (.mv (.t 92)),o 24 (.mv (.t 93))] [89,90,91,92,93]) (.seq (.reg [o 95 (.mv (.t 5)),o 96 (f 26 [(.t 95)]),o 94 (.mv (.t 96)),o 97 (.ext (.t 94) 0),o 98 (.ext (.t 94) 1),o 25 (.mv (.t 97)),o 26 (.mv (.t 98))] [94,95,96,97,98]) (.seq (.reg [o 100 (.mv (.t 5)),o 101 (.fad 1 (.t 10)),o 102 (.load false 1 (.t 101)),o 103 (.mv (.t 6)),o 104 (f 27 [(.t 100),(.t 102),(.t 103)]),o 99 (.mv (.t 104)),o 105 (.ext (.t 99) 0),o 106 (.ext (.t 99) 1),o 27 (.mv
 (.t 105)),o 28 (.mv (.t 106))] [99,100,101,102,103,104,105,106]) (.seq (.reg [o 108 (.mv (.t 5)),o 109 (.fad 1 (.t 10)),o 110 (.load false 1 (.t 109)),o 111 (.mv (.t 6)),o 112 (f 28 [(.t 108),(.t 110),(.t 111)]),o 107 (.mv (.t 112)),o 113 (.ext (.t 107) 0),o 114 (.ext (.t 107) 1),o 29 (.mv (.t 113)),o 30 (.mv (.t 114))] [5,107,108,109,110,111,112,113,114]) (.seq (.seq (.draw [o 115 (.mv (.t 19)),o 116 (.mv (.t 21)),o 117 (f 29 [(.t 115),(.t 116)]),o 118 (.not (.t 117)),o 119 (.mv (.t 118)),q 120 (.mv (.t 20)) 119 false,q 121 (.mv (.t 22)) 119 false,q 122 (.bin .ne (.t 120) (.t 121)) 119 false,o 123 (.pick (.t 119) (.c .tt) (.t 122)),o 124 (.mv (.t 123)),q 125 (.mv (.t 23)) 124 false,q 126 (.mv (.t 25)) 124 false,q 127 (f 29 [(.t 125),(.t 126)]) 124 false,q 128 (.not (.t 127)) 124 false,o 129 (.pick (.t 124) (.c .tt) (.t 128)),o 130 (.mv (.t 129)),q 131 (.mv (.t 24)) 130 false,q 132 (.mv (.t 26)) 130 false,q 133 (.bin .ne (.t 131) (.t 132)) 130 false,o 134 (.pick (.t 130) (.c .tt) (.t 133)),o 135 (.mv (.t 134)),q 136 (.mv (.t 27)) 135 false,q 137 (.mv (.t 29)) 135 false,q 138 (f 29 [(.t 136),(.t 137)]) 135 false,q 139 (.not (.t 138)) 135 false,o 140 (.pick (.t 135) (.c .tt) (.t 139)),o 141 (.mv (.t 140)),q 142 (.mv (.t 28)) 141 false,q 143 (.mv (.t 30)) 141 false,q 144 (.bin .ne (.t 142) (.t 143)) 141 false,o 145 (.pick (.t 141) (.c .tt) (.t 144)),o 146 (.mv (.t 145)),q 147 (.load true 2 (.t 10)) 146 false,q 148 (.mv (.t 6)) 146 false,q 149 (f 30 [(.t 147),(.t 148)]) 146 false,q 150 (.load true 2 (.t 10)) 146 false,q 151 (.mv (.t 6)) 146 false,q 152 (f 31 [(.t 150),(.t 151)]) 146 false,q 153 (f 29 [(.t 149),(.t 152)]) 146 false,q 154 (.not (.t 153)) 146 false,o 155 (.pick (.t 146) (.c .tt) (.t 154))] [[],[],[0,1],[2],[3,2],[4],[4],[5,6,4],[4,7],[8,4],[9],[9],[10,11,9,9],[12,9],[9,13],[14,12],[15],[15],[16,17,15],[15,18],[19,15],[20],[20],[21,22,20,20],[23,20],[20,24],[25,23],[26],[26],[27,28,26],[26,29],[30,26],[31],[31],[32,33,31,31],[31],[31],[35,36,34,31],[34,37,37,31],[38,31],[31,39]] [6,10,19,20,21,22,23,24,25,26,27,28,29,30,115,116,117,118,119,120,121,122,123,124,125,126,127,128,129,130,131,132,133,134,135,136,137,138,139,140,141,142,143,144,145,146,147,148,149,150,151,152,153,154]) (.cond (.t 155) (.seq (.reg [o 14 (.mv (.c .ff))] []) .ret) .skip)) (.seq (.reg [o 156 (.mv (.t 4)),o 157 (.fad 0 (.t 17)),u (.store 1 (.t 157) (.t 156))] [156,157]) (.seq (.draw [o 158 (.mv (.t 4)),o 159 (f 32 [(.t 158)]),o 160 (.mv (.t 4)),o 161 (f 33 [(.t 160)]),o 162 (.bin .eq (.t 159) (.t 161)),o 163 (.mv (.t 162)),q 164 (.load true 4 (.t 15)) 163 true,q 165 (.load true 4 (.t 17)) 163 true,q 166 (f 34 [(.t 164),(.t 165)]) 163 true,q 167 (.load true 4 (.t 15)) 163 true,q 168 (.load true 4 (.t 17)) 163 true,q 169 (f 22 [(.t 167),(.t 168)]) 163 true,q 170 (.eqA ⟨false,[.kb]⟩ false (.t 166) (.t 169)) 163 true,o 171 (.pick (.t 163) (.t 170) (.c .ff)),o 172 (.mv (.t 171)),q 173 (f 19 []) 172 true,o 174 (.pick (.t 172) (.t 173) (.c .ff)),o 14 (.mv (.t 174))]
 [[],[0],[],[2,1],[1,3],[4,3],[5],[5],[6,7,5,5],[5],[5],[9,10,8,5],[8,11,5],[5,12],[13,11],[14,14],[14,15],[16,15,0,1,2,3,4,5,6,7,8,9,10,11,12,13,14,15,16]] [4,15,17,158,159,160,161,162,163,164,165,166,167,168,169,170,171,172,173,174]) .ret))))))))))))))
theorem qdn : FnIs Tryz.prog 4 175 [.t 14] qjv :=
  ⟨Tryz.f4, _, qgr, Tryz.func4, rfl, rfl, by kernel_rfl, by kernel_rfl, Tryz.call4⟩
def qoz : Nat → List Nat := kk [[4],[0,1,5,6,7,8,9]]
def qur : IR :=
 (.seq (.reg [o 4 (.mv (.c .ff))] [4]) (.seq (.reg [o 5 (.mv (.t 0)),o 6 (.cvBS (.t 5)),o 7 (.mv (.t 1)),o 8 (.cvBS (.t 7)),o 9 (.bin .eq (.t 6) (.t 8)),o 4 (.mv (.t 9))] [0,1,5,6,7,8,9]) .ret))
theorem qps : FnIs Tryz.prog 10 10 [.t 4] qur :=
  ⟨Tryz.f10, _, qoz, Tryz.func10, rfl, rfl, by kernel_rfl, by kernel_rfl, Tryz.call10⟩
def qoo : Nat → List Nat := kk [[0,1,4],[2,3,5,6,7,8,9,10,11,12,13,14,15,16]]
def quf : IR :=
 (.seq (.reg [o 2 (.box (.t 0)),o 3 (.box (.t 1)),o 4 (.mv (.c .ff))] [0,1,4]) (.seq (.reg [o 5 (.fad 0 (.t 2)),o 6 (.load false 1 (.t 5)),o 7 (.fad 0 (.t 3)),o 8 (.load false 1 (.t 7)),o 9 (.bin .eq (.t 6) (.t 8)),o 10 (.mv (.t 9)),q 11 (.fad 1 (.t 2)) 10 true,q 12 (.load false 1 (.t 11)) 10 true,q 13 (.fad 1 (.t 3)) 10 true,q 14 (.load false 1 (.t 13)) 10 true,q 15 (f 45 [(.t 12),(.t 14)]) 10 true,o 16 (.pick (.t 10) (.t 15) (.c .ff)),o 4 (.mv (.t 16))] [2,3,5,6,7,8,9,10,11,12,13,14,15,16]) .ret))
theorem qpi : FnIs Tryz.prog 11 17 [.t 4] quf :=
  ⟨Tryz.f11, _, qoo, Tryz.func11, rfl, rfl, by kernel_rfl, by kernel_rfl, Tryz.call11⟩
def qng : Nat → List Nat := kk [[0,2],[],[],[5,6,7,8,9,10,11,12],[14,15],[16,17,18,19,20,21,22,23,24,25,26,27,28,29,30,31,32],[1,3,33,34,35,36,37,38,39,40]]
def qij : List Nat := [0,2,5,6,7,8,9,10,11,12,13,14,15,16,17,18,19,20,21,22,23,24,25,26,27,28,29,30,31,32,33,34,35,36,37,38,39,40]
def qjb : List (Nat × List Nat) := [(0,[]),(1,[]),(2,[]),(3,[]),(4,[]),(5,[]),(6,[]),(7,[]),(8,[]),(9,[]),(10,[]),(11,[]),(12,[]),(13,[]),(14,[]),(15,[]),(16,[]),(17,[])]
def qtg : IR :=
 (.seq (.reg [o 1 (.box (.t 0)),o 2 (.mv (.c .ff))] [0,2]) (.seq (.reg [o 3 (.mv (z 0))] []) (.seq (.seq (.reg [o 4 (.mv (z 0))] []) (.block 0 (.loop (.seq (.seq (.reg [o 5 (.mv (.t 4)),o 6 (.fad 1 (.t 1)),o 7 (.load false 1 (.t 6)),o 8 (.len false (.t 7)),o 9 (.bin .lt (.t 5) (.t 8)),o 10 (.mv (.t 9)),q 11 (.mv (.t 4)) 10 true,q 12 (.bin .le (.t 11) (z 200)) 10 true,o 13 (.pick (.t 10) (.t 12) (.c .ff))] [5,6,7,8,9,10,11,12]) (.cond (.t 13) .skip (.exit 0))) (.seq (.block 1 (.draw [o 16 (.mv (.t 3)),o 17 (.fad 1 (.t 1)),o 18 (.load false 1 (.t 17)),o 19 (.mv (.t 4)),o 20 (.iadS 2 (.t 18) (.t 19)),o 21 (.fad 0 (.t 20)),o 22 (.load false 1 (.t 21)),o 23 (.len true (.t 22)),o 24 (.bin .add (.t 16) (.t 23)),o 25 (.fad 1 (.t 1)),o 26 (.load false 1 (.t 25)),o 27 (.mv (.t 4)),o 28 (.iadS 2 (.t 26) (.t 27)),o 29 (.fad 1 (.t 28)),o 30 (.load false 1 (.t 29)),o 31 (.len true (.t 30)),o 32 (.bin .add (.t 24) (.t 31)),o 3 (.mv (.t 32))] [[],[],[1],[],[2,3],[4],[5],[6],[0,7],[],[9],[],[10,11],[12],[13],[14],[8,15],[16,0,1,2,3,4,5,6,7,8,9,10,11,12,13,14,15,16]] [16,17,18,19,20,21,22,23,24,25,26,27,28,29,30,31,32])) (.reg [o 14 (.mv (.t 4)),o 15 (.bin .add (.t 14) (z 1)),o 4 (.mv (.t 15))] [14,15])))))) (.seq (.reg [o 33 (.fad 1 (.t 1)),o 34 (.load false 1 (.t 33)),o 35 (.len false (.t 34)),o 36 (.bin .gt (.t 35) (z 200)),o 37 (.mv (.t 36)),q 38 (.mv (.t 3)) 37 false,q 39 (.bin .gt (.t 38) (z 9000)) 37 false,o 40 (.pick (.t 37) (.c .tt) (.t 39)),o 2 (.mv (.t 40))] [1,3,33,34,35,36,37,38,39,40]) .ret))))
theorem qnp : FnIs Tryz.prog 18 41 [.t 2] qtg :=
  ⟨Tryz.f18, _, qng, Tryz.func18, rfl, rfl, by kernel_rfl, by kernel_rfl, Tryz.call18⟩
def qnm : Nat → List Nat := kk [[0],[18],[19,20,21,22,23,24],[25,26,27,28,29,30],[6,31,32,33,34,35,36],[8,37,38,39,40,41,42],[43,44,45,46,47,48,49],[1,12,50,51,52,53,54,55],[56,57,58,59],[60,61,62,63],[64,65,66,67,68,69,70,71,72,73,74,75,76,77,78,79],[],[2,3,4,5,7,9,10,11,13,14,15,16,17,81,82,83,84,85,86,87,88,89,90,91,92,93,94,95,96,97,98,99,100,101,102,103,104,105,106,107,108,109,110,111,112,113,114,115,116,117,118,119,120,121,122,123,124,125,126,127,128,129,130,131,132,133,134,135,136,137,138,139,140,141,142,143,144,145,146,147,148,149,150,151,152,153,154,155,156,157,158,159,160,161,162,163,164,165,166,167,168,169,170,171,172,173,174,175,176,177,178]]
def qje : List (Nat × List Nat) := [(0,[]),(1,[]),(2,[]),(3,[]),(4,[]),(5,[]),(6,[]),(7,[]),(8,[]),(9,[]),(10,[]),(11,[]),(12,[]),(13,[]),(14,[]),(15,[]),(16,[]),(17,[]),(18,[]),(19,[]),(20,[]),(21,[]),(22,[]),(23,[]),(24,[]),(25,[]),(26,[]),(27,[]),(28,[]),(29,[]),(30,[]),(31,[]),(32,[]),(33,[]),(34,[]),(35,[]),(36,[]),(37,[]),(38,[]),(39,[]),(40,[]),(41,[]),(42,[]),(43,[]),(44,[]),(45,[]),(46,[]),(47,[]),(48,[]),(49,[]),(50,[]),(51,[]),(52,[]),(53,[]),(54,[]),(55,[]),(56,[]),(57,[]),(58,[]),(59,[]),(60,[]),(61,[]),(62,[]),(63,[]),(64,[]),(65,[]),(66,[]),(67,[]),(68,[]),(69,[]),(70,[]),(71,[]),(72,[]),(73,[]),(74,[]),(75,[]),(76,[]),(77,[]),(78,[]),(79,[]),(80,[]),(81,[]),(82,[]),(83,[]),(84,[]),(85,[]),(86,[]),(87,[]),(88,[]),(89,[]),(90,[]),(91,[]),(92,[]),(93,[]),(94,[]),(95,[]),(96,[]),(97,[]),(98,[])]
def qtm : IR :=
 (.seq (.reg [o 0 (.mv (.c .ff))] [0]) (.seq (.reg [o 18 (.build [(.i .i64 (.l 0)),(.re (.slice none 0 0))] [(0,1,(z 100))]),o 1 (.alloc [(.i .i64 (.l 0)),(.re (.slice none 0 0))]),u (.store 2 (.t 1) (.t 18))] [18]) (.seq (.reg [o 20 (.load true 2 (.t 1)),o 21 (.buildS 1 1 [(.i .u8 (.l 0))] [(0,(.c (.i .u8 (.l 130))))]),o 22 (f 20 [(.t 20),(z 100),(.t 21)]),o 19 (.mv (.t 22)),o 23 (.ext (.t 19) 0),o 24 (.ext (.t 19) 1),o 2 (.alloc [(.re (.slice none 0 0)),.ff,(.i .i64 (.l 0)),(.re (.slice none 0 0))]),u (.store 4 (.t 2) (.t 23)),o 3 (.mv (.t 24))] [19,20,21,22,23,24]) (.seq (.reg [o 26 (.load true 2 (.t 1)),o 27 (.buildS 1 5 [(.i .u8 (.l 0))] [(0,(.c (.i .u8 (.l 64)))),(1,(.c (.i .u8 (.l 1)))),(2,(.c (.i .u8 (.l 97)))),(3,(.c (.i .u8 (.l 1)))),(4,(.c (.i .u8 (.l 49))))]),o 28 (f 20 [(.t 26),(z 100),(.t 27)]),o 25 (.mv (.t 28)),o 29 (.ext (.t 25) 0),o 30 (.ext (.t 25) 1),o 4 (.alloc [(.re (.slice none 0 0)),.ff,(.i .i64 (.l 0)),(.re (.slice none 0 0))]),u (.store 4 (.t 4) (.t 29)),o 5 (.mv (.t 30))] [25,26,27,28,29,30]) (.seq (.reg [o 32 (.load true 2 (.t 1)),o 33 (.buildS 1 1 [(.i .u8 (.l 0))] [(0,(.c (.i .u8 (.l 128))))]),o 34 (f 20 [(.t 32),(z 100),(.t 33)]),o 31 (.mv (.t 34)),o 35 (.ext (.t 31) 0),o 36 (.ext (.t 31) 1),o 6 (.alloc [(.re (.slice none 0 0)),.ff,(.i .i64 (.l 0)),(.re (.slice none 0 0))]),u (.store 4 (.t 6) (.t 35)),o 7 (.mv (.t 36))] [6,31,32,33,34,35,36]) (.seq (.reg [o 38 (.load true 2 (.t 1)),o 39 (.buildS 1 2 [(.i .u8 (.l 0))] [(0,(.c (.i .u8 (.l 130)))),(1,(.c (.i .u8 (.l 32))))]),o 40 (f 20 [(.t 38),(z 100),(.t 39)]),o 37 (.mv (.t 40)),o 41 (.ext (.t 37) 0),o 42 (.ext (.t 37) 1),o 8 (.alloc [(.re (.slice none 0 0)),.ff,(.i .i64 (.l 0)),(.re (.slice none 0 0))]),u (.store 4 (.t 8) (.t 41)),o 9 (.mv (.t 42))] [8,37,38,39,40,41,42]) (.seq (.reg [o 44 (.fad 2 (.t 4)),o 45 (.load true 2 (.t 44)),o 46 (.buildS 1 1 [(.i .u8 (.l 0))] [(0,(.c (.i .u8 (.l 32))))]),o 47 (f 20 [(.t 45),(z 100),(.t 46)]),o 43 (.mv (.t 47)),o 48 (.ext (.t 43) 0),o 49 (.ext (.t 43) 1),o 10 (.alloc [(.re (.slice none 0 0)),.ff,(.i .i64 (.l 0)),(.re (.slice none 0 0))]),u (.store 4 (.t 10) (.t 48)),o 11 (.mv (.t 49))] [43,44,45,46,47,48,49]) (.seq (.reg [o 51 (.load true 2 (.t 1)),o 52 (.buildS 1 2 [(.i .u8 (.l 0))] [(0,(.c (.i .u8 (.l 63)))),(1,(.c (.i .u8 (.l 70))))]),o 53 (f 20 [(.t 51),(z 100),(.t 52)]),o 50 (.mv (.t 53)),o 54 (.ext (.t 50) 0),o 55 (.ext (.t 50) 1),o 12 (.alloc [(.re (.slice none 0 0)),.ff,(.i .i64 (.l 0)),(.re (.slice none 0 0))]),u (.store 4 (.t 12) (.t 54)),o 13 (.mv (.t 55))] [1,12,50,51,52,53,54,55]) (.seq (.reg [o 57 (f 23 [(z 2)]),o 56 (.mv (.t 57)),o 58 (.ext (.t 56) 0),o 59 (.ext (.t 56) 1),o 14 (.mv (.t 58)),o 15 (.mv (.t 59))] [56,57,58,59]) (.seq (.reg [o 61 (f 27 [(z 21),(.c (.s [50])),(z 2)]),o 60 (.mv (.t 61)),o 62 (.ext (.t 60) 0),o 63 (.ext (.t 60) 1),o 16 (.mv (.t 62)),o 17 (.mv (.t 63))] [60,61,62,63]) (.seq (.seq (.reg [o 64 (.fad 0 (.t 2)),o 65 (.load false 1 (.t 64)),o 66 (.len false (.t 65)),o 67 (.bin .ne (.t 66)
 (z 1)),o 68 (.mv (.t 67)),q 69 (.fad 0 (.t 4)) 68 false,q 70 (.load false 1 (.t 69)) 68 false,q 71 (.len false (.t 70)) 68 false,q 72 (.bin .ne (.t 71) (z 1)) 68 false,o 73 (.pick (.t 68) (.c .tt) (.t 72)),o 74 (.mv (.t 73)),q 75 (.fad 2 (.t 4)) 74 false,q 76 (.fad 1 (.t 75)) 74 false,q 77 (.load false 1 (.t 76)) 74 false,q 78 (.len false (.t 77)) 74 false,q 79 (.bin .ne (.t 78) (z 1)) 74 false,o 80 (.pick (.t 74) (.c .tt) (.t 79))] [64,65,66,67,68,69,70,71,72,73,74,75,76,77,78,79]) (.cond (.t 80) (.seq (.reg [o 0 (.mv (.c .ff))] []) .ret) .skip)) (.seq (.draw [o 81 (.mv (.t 3)),o 82 (.bin .eq (.t 81) (z 0)),o 83 (.mv (.t 82)),q 84 (.fad 0 (.t 2)) 83 true,q 85 (.load false 1 (.t 84)) 83 true,q 86 (.iadS 2 (.t 85) (z 0)) 83 true,q 87 (.load true 2 (.t 86)) 83 true,q 88 (.build [(.s []),(.s [])] [(0,1,(.c (.s [58,109,101,116,104,111,100]))),(1,1,(.c (.s [80,79,83,84])))]) 83 true,q 89 (.eqA ⟨true,[.ks,.ks]⟩ false (.t 87) (.t 88)) 83 true,o 90 (.pick (.t 83) (.t 89) (.c .ff)),o 91 (.mv (.t 90)),q 92 (.mv (.t 5)) 91 true,q 93 (.bin .eq (.t 92) (z 0)) 91 true,o 94 (.pick (.t 91) (.t 93) (.c .ff)),o 95 (.mv (.t 94)),q 96 (.fad 0 (.t 4)) 95 true,q 97 (.load false 1 (.t 96)) 95 true,q 98 (.iadS 2 (.t 97) (z 0)) 95 true,q 99 (.load true 2 (.t 98)) 95 true,q 100 (.build [(.s []),(.s [])] [(0,1,(.c (.s [97]))),(1,1,(.c (.s [49])))]) 95 true,q 101 (.eqA ⟨true,[.ks,.ks]⟩ false (.t 99) (.t 100)) 95 true,o 102 (.pick (.t 95) (.t 101) (.c .ff)),o 103 (.mv (.t 102)),q 104 (.fad 2 (.t 4)) 103 true,q 105 (.fad 1 (.t 104)) 103 true,q 106 (.load false 1 (.t 105)) 103 true,q 107 (.iadS 2 (.t 106) (z 0)) 103 true,q 108 (.load true 2 (.t 107)) 103 true,q 109 (.fad 0 (.t 4)) 103 true,q 110 (.load false 1 (.t 109)) 103 true,q 111 (.iadS 2 (.t 110) (z 0)) 103 true,q 112 (.load true 2 (.t 111)) 103 true,q 113 (.eqA ⟨true,[.ks,.ks]⟩ false (.t 108) (.t 112)) 103 true,o 114 (.pick (.t 103) (.t 113) (.c .ff)),o 115 (.mv (.t 114)),q 116 (.mv (.t 7)) 115 true,q 117 (.bin .eq (.t 116) (z 90)) 115 true,o 118 (.pick (.t 115) (.t 117) (.c .ff)),o 119 (.mv (.t 118)),q 120 (.mv (.t 9)) 119 true,q 121 (.bin .eq (.t 120) (z 100)) 119 true,o 122 (.pick (.t 119) (.t 121) (.c .ff)),o 123 (.mv (.t 122)),q 124 (.mv (.t 11)) 123 true,q 125 (.bin .eq (.t 124) (z 0)) 123 true,o 126 (.pick (.t 123) (.t 125) (.c .ff)),o 127 (.mv (.t 126)),q 128 (.fad 2 (.t 10)) 127 true,q 129 (.fad 1 (.t 128)) 127 true,q 130 (.load false 1 (.t 129)) 127 true,q 131 (.len false (.t 130)) 127 true,q 132 (.bin .eq (.t 131) (z 0)) 127 true,o 133 (.pick (.t 127) (.t 132) (.c .ff)),o 134 (.mv (.t 133)),q 135 (.fad 2 (.t 10)) 134 true,q 136 (.fad 0 (.t 135)) 134 true,q 137 (.load false 1 (.t 136)) 134 true,q 138 (.bin .eq (.t 137) (z 0)) 134 true,o 139 (.pick (.t 134) (.t 138) (.c .ff)),o 140 (.mv (.t 139)),q 141 (.mv (.t 13)) 140 true,q 142 (.bin .eq (.t 141) (z 100)) 140 true,o 143 (.pick (.t 140) (.t 142) (.c .ff)),o 144 (.mv (.t 143)),q 145 (.mv (.t 15)) 144 true,q 146 (.bin .eq (.t 145) (z 0)) 144 true,o 147 (.pick
 (.t 144) (.t 146) (.c .ff)),o 148 (.mv (.t 147)),q 149 (.mv (.t 14)) 148 true,q 150 (.buildS 1 1 [(.i .u8 (.l 0))] [(0,(.c (.i .u8 (.l 130))))]) 148 true,q 151 (f 29 [(.t 149),(.t 150)]) 148 true,o 152 (.pick (.t 148) (.t 151) (.c .ff)),o 153 (.mv (.t 152)),q 154 (.mv (.t 17)) 153 true,q 155 (.bin .eq (.t 154) (z 0)) 153 true,o 156 (.pick (.t 153) (.t 155) (.c .ff)),o 157 (.mv (.t 156)),q 158 (.mv (.t 16)) 157 true,q 159 (.buildS 1 4 [(.i .u8 (.l 0))] [(0,(.c (.i .u8 (.l 31)))),(1,(.c (.i .u8 (.l 6)))),(2,(.c (.i .u8 (.l 1)))),(3,(.c (.i .u8 (.l 50))))]) 157 true,q 160 (f 29 [(.t 158),(.t 159)]) 157 true,o 161 (.pick (.t 157) (.t 160) (.c .ff)),o 162 (.mv (.t 161)),q 163 (.fad 0 (.t 4)) 162 true,q 164 (.load false 1 (.t 163)) 162 true,q 165 (f 32 [(.t 164)]) 162 true,q 166 (.bin .eq (.t 165) (z 34)) 162 true,o 167 (.pick (.t 162) (.t 166) (.c .ff)),o 168 (.mv (.t 167)),q 169 (.load true 4 (.t 2)) 168 true,q 170 (.load true 4 (.t 2)) 168 true,q 171 (f 34 [(.t 169),(.t 170)]) 168 true,o 172 (.pick (.t 168) (.t 171) (.c .ff)),o 173 (.mv (.t 172)),q 174 (.load true 4 (.t 2)) 173 true,q 175 (.load true 4 (.t 4)) 173 true,q 176 (f 34 [(.t 174),(.t 175)]) 173 true,q 177 (.not (.t 176)) 173 true,o 178 (.pick (.t 173) (.t 177) (.c .ff)),o 0 (.mv (.t 178))] [[],[0],[1],[2],[3,2],[4,2],[5,2],[2],[6,7,2],[2,8],[9,2],[10],[11,10],[10,12],[13,10],[14],[15,14],[16,14],[17,14],[14],[18,19,14],[14,20],[21,14],[22],[23,22],[24,22],[25,22],[26,22],[22],[28,22],[29,22],[30,22],[27,31,22],[22,32],[33,22],[34],[35,34],[34,36],[37,34],[38],[39,38],[38,40],[41,38],[42],[43,42],[42,44],[45,42],[46],[47,46],[48,46],[49,46],[50,46],[46,51],[52,46],[53],[54,53],[55,53],[56,53],[53,57],[58,53],[59],[60,59],[59,61],[62,59],[63],[64,63],[63,65],[66,63],[67],[67],[68,69,67,67],[67,70],[71,70],[72],[73,72],[72,74],[75,72],[76],[76],[77,78,76,76],[76,79],[80,79],[81],[82,81],[83,81,81],[84,81],[81,85],[86,84],[87],[87],[88,89,87,87],[87,90],[91,90],[92],[92],[93,94,92,92],[95,92],[92,96],[97,95,0,1,2,3,4,5,6,7,8,9,10,11,12,13,14,15,16,17,18,19,20,21,22,23,24,25,26,27,28,29,30,31,32,33,34,35,36,37,38,39,40,41,42,43,44,45,46,47,48,49,50,51,52,53,54,55,56,57,58,59,60,61,62,63,64,65,66,67,68,69,70,71,72,73,74,75,76,77,78,79,80,81,82,83,84,85,86,87,88,89,90,91,92,93,94,95,96,97]] [2,3,4,5,7,9,10,11,13,14,15,16,17,81,82,83,84,85,86,87,88,89,90,91,92,93,94,95,96,97,98,99,100,101,102,103,104,105,106,107,108,109,110,111,112,113,114,115,116,117,118,119,120,121,122,123,124,125,126,127,128,129,130,131,132,133,134,135,136,137,138,139,140,141,142,143,144,145,146,147,148,149,150,151,152,153,154,155,156,157,158,159,160,161,162,163,164,165,166,167,168,169,170,171,172,173,174,175,176,177,178]) .ret))))))))))))
theorem qnu : FnIs Tryz.prog 19 179 [.t 0] qtm :=
  ⟨Tryz.f19, _, qnm, Tryz.func19, rfl, rfl, by kernel_rfl, by kernel_rfl, Tryz.call19⟩
def qwq : Nat → List Nat := kk [[0,1],[],[],[12,13,14,15,16,17,18,19,20,21],[3,23,24,25,26,27,28,29,30],[2,31,32],[34],[35],[11,36],[37],[39],[],[4,9,41,42,43,44,45,46,47],[6,10,49,50,51,52,53,54,55,56,57],[58],[60,61,62,63,64,65,66,67,68],[9,69,70],[71,72,73,74,75],[8,76],[6,78],[6,10,79,80,81,82,83,84,85],[86],[87,88]]
def qhc : List (Nat × List Nat) := [(0,[]),(1,[]),(2,[]),(3,[0]),(4,[]),(5,[])]
def qdc : List (Nat × List Nat) := [(0,[]),(1,[]),(2,[1]),(3,[])]
def qzadx : IR :=
 (.seq (.reg [o 3 (.box (.t 0)),o 4 (.box (.t 1)),o 6 (.alloc [(.re (.slice none 0 0)),.ff,(.i .i64 (.l 0)),(.re (.slice none 0 0))]),o 7 (.alloc [(.i .i64 (.l 0))])] [0,1]) (.scope (.seq (.reg [o 8 (.alloc [(.i .i64 (.l 0))]),o 9 (.alloc [(.i .i64 (.l 0))])] []) (.seq (.seq (.reg [u (.store 1 (.t 7) (z 2))] []) (.seq (.reg [o 12 (.load true 2 (.t 3)),o 13 (f 47 [(.t 12)]),o 14 (.not (.t 13)),o 15 (.mv (.t 14)),q 16 (.load false 1 (.t 4)) 15 false,q 17 (.bin .lt (.t 16) (z 0)) 15 false,o 18 (.pick (.t 15) (.c .tt) (.t 17)),o 19 (.mv (.t 18)),q 20 (.load false 1 (.t 4)) 19 false,q 21 (.bin .gt (.t 20) (z 4096)) 19 false,o 22 (.pick (.t 19) (.c .tt) (.t 21))] [12,13,14,15,16,17,18,19,20,21]) (.cond (.t 22) (.goto 0) .skip))) (.seq (.reg [o 24 (.load true 2 (.t 3)),o 25 (.fad 0 (.t 3)),o 26 (.load false 1 (.t 25)),o 27 (f 35 [(.t 24),(.t 26)]),o 23 (.mv (.t 27)),o 28 (.ext (.t 23) 0),o 29 (.ext (.t 23) 1),o 30 (.fad 2 (.t 6)),u (.store 2 (.t 30) (.t 28))] [3,23,24,25,26,27,28,29,30]) (.seq (.seq (.reg [o 31 (.fad 2 (.t 6)),o 32 (.mv (.t 2)),o 33 (f 48 [(.t 31),(.t 32)])] [2,31,32]) (.block 0 (.rf (.t 33) [34,35] (.seq (.reg [o 10 (.alloc [(.s []),(.s []),.ff,.ff,(.i .i64 (.l 0)),(.re (.slice none 0 0))]),u (.store 6 (.t 10) (.t 34))] [34]) (.reg [o 11 (.mv (.t 35))] [35])) (.block 1 (.seq (.seq (.reg [o 36 (.mv (.t 11)),u (.store 1 (.t 7) (.t 36))] [11,36]) (.seq (.reg [o 37 (.load false 1 (.t 7)),o 38 (.bin .ne (.t 37) (z 0))] [37]) (.cond (.t 38) (.goto 0) .skip))) (.seq (.seq (.reg [o 39 (.fad 2 (.t 10)),o 40 (.load false 1 (.t 39))] [39]) (.cond (.t 40) (.seq (.seq (.reg [u (.store 1 (.t 7) (z 100))] []) (.seq (.reg [o 41 (.load false 1 (.t 9)),o 42 (.bin .gt (.t 41) (z 0)),o 43 (.mv (.t 42)),q 44 (.fad 4 (.t 10)) 43 false,q 45 (.load false 1 (.t 44)) 43 false,q 46 (.load false 1 (.t 4)) 43 false,q 47 (.bin .gt (.t 45) (.t 46)) 43 false,o 48 (.pick (.t 43) (.c .tt) (.t 47))] [4,9,41,42,43,44,45,46,47]) (.cond (.t 48) (.goto 0) .skip))) (.seq (.reg [o 50 (.fad 2 (.t 6)),o 51 (.load true 2 (.t 50)),o 52 (.fad 4 (.t 10)),o 53 (.load false 1 (.t 52)),o 54 (f 35 [(.t 51),(.t 53)]),o 49 (.mv (.t 54)),o 55 (.ext (.t 49) 0),o 56 (.ext (.t 49) 1),o 57 (.fad 2 (.t 6)),u (.store 2 (.t 57) (.t 55))] [6,10,49,50,51,52,53,54,55,56,57]) (.exit 1))) .skip)) (.seq (.seq (.reg [o 58 (.fad 3 (.t 10)),o 59 (.load false 1 (.t 58))] [58]) (.cond (.t 59) (.reg [o 61 (.fad 2 (.t 6)),o 62 (.load true 2 (.t 61)),o 63 (.fad 0 (.t 10)),o 64 (.load true 2 (.t 63)),o 65 (f 39 [(.t 62),(.t 64)]),o 60 (.mv (.t 65)),o 66 (.ext (.t 60) 0),o 67 (.ext (.t 60) 1),o 68 (.fad 2 (.t 6)),u (.store 2 (.t 68) (.t 66))] [60,61,62,63,64,65,66,67,68]) .skip)) (.seq (.reg [o 69 (.load false 1 (.t 9)),o 70 (.bin .add (.t 69) (z 1)),u (.store 1 (.t 9) (.t 70))] [9,69,70]) (.seq (.seq (.draw [o 71 (.load false 1 (.t 8)),o 72 (.fad 0 (.t 10)),o 73 (.load true 2 (.t 72)),o 74 (f 38 [(.t 73)]),o 75 (.bin .add (.t 71) (.t 74)),u (.store 1 (.t 8) (.t 75))] [[],[],[1],[2],[0,3],[4,3,0,1,2,3,4]]
 [71,72,73,74,75]) (.seq (.reg [o 76 (.load false 1 (.t 8)),o 77 (.bin .gt (.t 76) (z 2000))] [8,76]) (.cond (.t 77) (.seq (.reg [o 78 (.fad 1 (.t 6)),u (.store 1 (.t 78) (.c .tt))] [6,78]) (.exit 1)) .skip))) (.reg [o 79 (.fad 0 (.t 6)),o 80 (.load false 1 (.t 79)),o 81 (.fad 0 (.t 10)),o 82 (.load true 2 (.t 81)),o 83 (.buildS 2 1 [(.s []),(.s [])] [(0,(.t 82))]),o 84 (.app 2 (.t 80) (.t 83)),o 85 (.fad 0 (.t 6)),u (.store 1 (.t 85) (.t 84))] [6,10,79,80,81,82,83,84,85])))))))))) (.seq (.seq (.reg [o 86 (.load true 4 (.t 6)),u (.store 4 (.t 6) (.t 86)),u (.store 1 (.t 7) (z 0))] [86]) .ret) (.seq (.label 0) (.seq (.draw [o 87 (.build [(.re (.slice none 0 0)),.ff,(.i .i64 (.l 0)),(.re (.slice none 0 0))] []),o 88 (.load false 1 (.t 7)),u (.store 4 (.t 6) (.t 87)),u (.store 1 (.t 7) (.t 88))] [[],[],[0,0],[1,2,0,1,2]] [87,88]) .ret)))))))))
theorem qlq : FnIs Tryz.prog 20 89 [.c 6 true 4, .c 7 false 1] qzadx :=
  ⟨Tryz.f20, _, qwq, Tryz.func20, rfl, rfl, by kernel_rfl, by kernel_rfl, Tryz.call20⟩
def qni : Nat → List Nat := kk [[0,7],[10,11,12,13,14,15,16,17,18,19],[21],[2,22,23,24,25,26],[3,27,28,29,30,31,32,33,34,35,36,37],[38,39,40,41,42],[44,45,46],[47],[9,49,50],[8,51,52,53,54]]
def qik : List Nat := [0,2,3,4,5,7,9,10,11,12,13,14,15,16,17,18,19,20,21,22,23,24,25,26,27,28,29,30,31,32,33,34,35,36,37,38,39,40,41,42,43,44,45,46,47,48,49,50,51,52,53,54]
def qti : IR :=
 (.seq (.reg [o 3 (.box (.t 0)),o 6 (.alloc [(.re (.slice none 0 0)),.ff,(.i .i64 (.l 0)),(.re (.slice none 0 0))]),o 7 (.mv (z 0))] [0,7]) (.seq (.seq (.reg [o 10 (.load true 2 (.t 3)),o 11 (f 40 [(.t 10)]),o 12 (.not (.t 11)),o 13 (.mv (.t 12)),q 14 (.mv (.t 1)) 13 false,q 15 (.bin .lt (.t 14) (z 0)) 13 false,o 16 (.pick (.t 13) (.c .tt) (.t 15)),o 17 (.mv (.t 16)),q 18 (.mv (.t 1)) 17 false,q 19 (.bin .gt (.t 18) (z 4096)) 17 false,o 20 (.pick (.t 17) (.c .tt) (.t 19))] [10,11,12,13,14,15,16,17,18,19]) (.cond (.t 20) (.seq (.reg [o 21 (.build [(.re (.slice none 0 0)),.ff,(.i .i64 (.l 0)),(.re (.slice none 0 0))] []),u (.store 4 (.t 6) (.t 21)),o 7 (.mv (z 2))] [21]) .ret) .skip)) (.seq (.reg [o 22 (.buildS 1 0 [(.i .u8 (.l 0))] []),o 23 (.mv (.t 2)),o 24 (.app 1 (.t 22) (.t 23)),o 25 (.build [(.re (.slice none 0 0)),(.re (.slice none 0 0)),.ff,(.i .i64 (.l 0)),(.re (.slice none 0 0)),(.i .i64 (.l 0)),.ff] [(0,1,(.t 24))]),o 26 (.box (.t 25)),o 8 (.mv (.t 26))] [2,22,23,24,25,26]) (.seq (.reg [o 28 (.mv (.t 8)),o 29 (.load true 2 (.t 3)),o 30 (.fad 0 (.t 3)),o 31 (.load false 1 (.t 30)),o 32 (f 42 [(.t 29),(.t 31)]),o 27 (.mv (.t 32)),o 33 (.ext (.t 27) 0),o 34 (.ext (.t 27) 1),o 35 (.nilc (.t 28)),o 36 (.fad 1 (.t 35)),o 37 (.fad 2 (.t 36)),u (.store 2 (.t 37) (.t 33))] [3,27,28,29,30,31,32,33,34,35,36,37]) (.seq (.block 0 (.loop (.seq (.seq (.reg [o 38 (.mv (.t 8)),o 39 (.nilc (.t 38)),o 40 (.fad 0 (.t 39)),o 41 (.load false 1 (.t 40)),o 42 (.len false (.t 41)),o 43 (.bin .gt (.t 42) (z 0))] [38,39,40,41,42]) (.cond (.t 43) .skip (.exit 0))) (.block 1 (.seq (.reg [o 44 (.mv (.t 8)),o 45 (.mv (.t 1)),o 46 (f 49 [(.t 44),(.t 45)]),o 9 (.mv (.t 46))] [44,45,46]) (.seq (.reg [o 47 (.mv (.t 9)),o 48 (.bin .ne (.t 47) (z 0))] [47]) (.cond (.t 48) (.seq (.reg [o 49 (.build [(.re (.slice none 0 0)),.ff,(.i .i64 (.l 0)),(.re (.slice none 0 0))] []),o 50 (.mv (.t 9)),u (.store 4 (.t 6) (.t 49)),o 7 (.mv (.t 50))] [9,49,50]) .ret) .skip))))))) (.seq (.reg [o 51 (.mv (.t 8)),o 52 (.nilc (.t 51)),o 53 (.fad 1 (.t 52)),o 54 (.load true 4 (.t 53)),u (.store 4 (.t 6) (.t 54)),o 7 (.mv (z 0))] [8,51,52,53,54]) .ret))))))
theorem qfn : FnIs Tryz.prog 21 55 [.c 6 true 4, .t 7] qti :=
  ⟨Tryz.f21, _, qni, Tryz.func21, rfl, rfl, by kernel_rfl, by kernel_rfl, Tryz.call21⟩
def qom : Nat → List Nat := kk [[0,1,4],[2,3,5,6,7,8,9,10,11,12,13,14,15,16,17,18,19,20,21,22,23]]
def qud : IR :=
 (.seq (.reg [o 2 (.box (.t 0)),o 3 (.box (.t 1)),o 4 (.mv (.c .ff))] [0,1,4]) (.seq (.reg [o 5 (.fad 0 (.t 2)),o 6 (.load false 1 (.t 5)),o 7 (.fad 0 (.t 3)),o 8 (.load false 1 (.t 7)),o 9 (f 50 [(.t 6),(.t 8)]),o 10 (.mv (.t 9)),q 11 (.fad 1 (.t 2)) 10 true,q 12 (.load false 1 (.t 11)) 10 true,q 13 (.fad 1 (.t 3)) 10 true,q 14 (.load false 1 (.t 13)) 10 true,q 15 (.eqA ⟨false,[.kb]⟩ false (.t 12) (.t 14)) 10 true,o 16 (.pick (.t 10) (.t 15) (.c .ff)),o 17 (.mv (.t 16)),q 18 (.fad 2 (.t 2)) 17 true,q 19 (.load true 2 (.t 18)) 17 true,q 20 (.fad 2 (.t 3)) 17 true,q 21 (.load true 2 (.t 20)) 17 true,q 22 (f 11 [(.t 19),(.t 21)]) 17 true,o 23 (.pick (.t 17) (.t 22) (.c .ff)),o 4 (.mv (.t 23))] [2,3,5,6,7,8,9,10,11,12,13,14,15,16,17,18,19,20,21,22,23]) .ret))
theorem qpg : FnIs Tryz.prog 22 24 [.t 4] qud :=
  ⟨Tryz.f22, _, qom, Tryz.func22, rfl, rfl, by kernel_rfl, by kernel_rfl, Tryz.call22⟩
def qsk : Nat → List Nat := kk [[2,3],[0,4,5,6,7,8]]
def qyi : IR :=
 (.seq (.reg [o 2 (.mv (.c (.re (.slice none 0 0)))),o 3 (.mv (z 0))] [2,3]) (.seq (.reg [o 4 (.mv (.t 0)),o 5 (.build [(.i .i64 (.l 0)),(.i .i64 (.l 0))] [(0,1,(z 128)),(1,1,(z 7))]),o 6 (f 51 [(.t 4),(.t 5)]),o 7 (.ext (.t 6) 0),o 8 (.ext (.t 6) 1),o 2 (.mv (.t 7)),o 3 (.mv (.t 8))] [0,4,5,6,7,8]) .ret))
theorem qig : FnIs Tryz.prog 23 9 [.t 2, .t 3] qyi :=
  ⟨Tryz.f23, _, qsk, Tryz.func23, rfl, rfl, by kernel_rfl, by kernel_rfl, Tryz.call23⟩
def qka : Nat → List Nat := kk [[2,3],[0,4,5,6,7]]
def qpy : IR :=
 (.seq (.reg [o 2 (.mv (.c (.re (.slice none 0 0)))),o 3 (.mv (z 0))] [2,3]) (.seq (.reg [o 4 (.mv (.t 0)),o 5 (f 52 [(.t 4),(z 7),(.c (.i .u8 (.l 128)))]),o 6 (.ext (.t 5) 0),o 7 (.ext (.t 5) 1),o 2 (.mv (.t 6)),o 3 (.mv (.t 7))] [0,4,5,6,7]) .ret))
theorem qel : FnIs Tryz.prog 24 8 [.t 2, .t 3] qpy :=
  ⟨Tryz.f24, _, qka, Tryz.func24, rfl, rfl, by kernel_rfl, by kernel_rfl, Tryz.call24⟩
def qwn : Nat → List Nat := kk [[2,3],[0,4,5,6,7,8]]
def qzadu : IR :=
 (.seq (.reg [o 2 (.mv (.c (.re (.slice none 0 0)))),o 3 (.mv (z 0))] [2,3]) (.seq (.reg [o 4 (.mv (.t 0)),o 5 (.build [(.i .i64 (.l 0)),(.i .i64 (.l 0))] [(0,1,(z 32)),(1,1,(z 5))]),o 6 (f 51 [(.t 4),(.t 5)]),o 7 (.ext (.t 6) 0),o 8 (.ext (.t 6) 1),o 2 (.mv (.t 7)),o 3 (.mv (.t 8))] [0,4,5,6,7,8]) .ret))
theorem qlp : FnIs Tryz.prog 25 9 [.t 2, .t 3] qzadu :=
  ⟨Tryz.f25, _, qwn, Tryz.func25, rfl, rfl, by kernel_rfl, by kernel_rfl, Tryz.call25⟩
def qne : Nat → List Nat := kk [[2,3],[0,4,5,6,7]]
def qte : IR :=
 (.seq (.reg [o 2 (.mv (.c (.re (.slice none 0 0)))),o 3 (.mv (z 0))] [2,3]) (.seq (.reg [o 4 (.mv (.t 0)),o 5 (f 52 [(.t 4),(z 5),(.c (.i .u8 (.l 32)))]),o 6 (.ext (.t 5) 0),o 7 (.ext (.t 5) 1),o 2 (.mv (.t 6)),o 3 (.mv (.t 7))] [0,4,5,6,7]) .ret))
theorem qfm : FnIs Tryz.prog 26 8 [.t 2, .t 3] qte :=
  ⟨Tryz.f26, _, qne, Tryz.func26, rfl, rfl, by kernel_rfl, by kernel_rfl, Tryz.call26⟩
def qwo : Nat → List Nat := kk [[6,7],[2,10,11,12,13,14,15,16],[0,9,17,18,19,20,21],[],[1,8,23,24,25,26]]
def qzadv : IR :=
 (.seq (.reg [o 6 (.mv (.c (.re (.slice none 0 0)))),o 7 (.mv (z 0))] [6,7]) (.seq (.reg [o 11 (.mv (.t 0)),o 12 (.mv (.t 2)),o 13 (f 53 [(.t 12)]),o 14 (f 51 [(.t 11),(.t 13)]),o 10 (.mv (.t 14)),o 15 (.ext (.t 10) 0),o 16 (.ext (.t 10) 1),o 8 (.mv (.t 15)),o 9 (.mv (.t 16))] [2,10,11,12,13,14,15,16]) (.seq (.seq (.reg [o 17 (.mv (.t 9)),o 18 (.bin .ne (.t 17) (z 0)),o 19 (.mv (.t 18)),q 20 (.mv (.t 0)) 19 false,q 21 (.bin .eq (.t 20) (z 0)) 19 false,o 22 (.pick (.t 19) (.c .tt) (.t 21))] [0,9,17,18,19,20,21]) (.cond (.t 22) (.seq (.reg [o 6 (.mv (.c (.re (.slice none 0 0)))),o 7 (.mv (z 2))] []) .ret) .skip)) (.seq (.reg [o 23 (.mv (.t 8)),o 24 (.mv (.t 1)),o 25 (f 54 [(.t 24)]),o 26 (.app 1 (.t 23) (.t 25)),o 6 (.mv (.t 26)),o 7 (.mv (z 0))] [1,8,23,24,25,26]) .ret))))
theorem qgg : FnIs Tryz.prog 27 27 [.t 6, .t 7] qzadv :=
  ⟨Tryz.f27, _, qwo, Tryz.func27, rfl, rfl, by kernel_rfl, by kernel_rfl, Tryz.call27⟩
def qnf : Nat → List Nat := kk [[6,7],[2,10,11,12,13,14,15],[0,9,16,17,18,19,20],[],[1,8,22,23,24,25]]
def qtf : IR :=
 (.seq (.reg [o 6 (.mv (.c (.re (.slice none 0 0)))),o 7 (.mv (z 0))] [6,7]) (.seq (.reg [o 11 (.mv (.t 0)),o 12 (.mv (.t 2)),o 13 (f 55 [(.t 11),(.t 12)]),o 10 (.mv (.t 13)),o 14 (.ext (.t 10) 0),o 15 (.ext (.t 10) 1),o 8 (.mv (.t 14)),o 9 (.mv (.t 15))] [2,10,11,12,13,14,15]) (.seq (.seq (.reg [o 16 (.mv (.t 9)),o 17 (.bin .ne (.t 16) (z 0)),o 18 (.mv (.t 17)),q 19 (.mv (.t 0)) 18 false,q 20 (.bin .lt (.t 19) (z 1)) 18 false,o 21 (.pick (.t 18) (.c .tt) (.t 20))] [0,9,16,17,18,19,20]) (.cond (.t 21) (.seq (.reg [o 6 (.mv (.c (.re (.slice none 0 0)))),o 7 (.mv (z 2))] []) .ret) .skip)) (.seq (.reg [o 22 (.mv (.t 8)),o 23 (.mv (.t 1)),o 24 (f 56 [(.t 23)]),o 25 (.app 1 (.t 22) (.t 24)),o 6 (.mv (.t 25)),o 7 (.mv (z 0))] [1,8,22,23,24,25]) .ret))))
theorem qdo : FnIs Tryz.prog 28 26 [.t 6, .t 7] qtf :=
  ⟨Tryz.f28, _, qnf, Tryz.func28, rfl, rfl, by kernel_rfl, by kernel_rfl, Tryz.call28⟩
def qpb : Nat → List Nat := kk [[4],[0,1,5,6,7,8,9]]
def qut : IR :=
 (.seq (.reg [o 4 (.mv (.c .ff))] [4]) (.seq (.reg [o 5 (.mv (.t 0)),o 6 (.cvBS (.t 5)),o 7 (.mv (.t 1)),o 8 (.cvBS (.t 7)),o 9 (.bin .eq (.t 6) (.t 8)),o 4 (.mv (.t 9))] [0,1,5,6,7,8,9]) .ret))
theorem qpu : FnIs Tryz.prog 29 10 [.t 4] qut :=
  ⟨Tryz.f29, _, qpb, Tryz.func29, rfl, rfl, by kernel_rfl, by kernel_rfl, Tryz.call29⟩
def qwp : Nat → List Nat := kk [[0,4],[1,6,7,8,9,10,11,12],[2,5,13,14,15,16,17,18,19,20,21]]
def qqn : List (Nat × List Nat) := [(0,[]),(1,[]),(2,[]),(4,[]),(5,[]),(3,[5]),(6,[]),(7,[]),(8,[]),(9,[])]
def qzadw : IR :=
 (.seq (.reg [o 2 (.box (.t 0)),o 4 (.mv (.c (.re (.slice none 0 0))))] [0,4]) (.seq (.reg [o 8 (.mv (.t 1)),o 9 (f 53 [(.t 8)]),o 10 (f 51 [(z 0),(.t 9)]),o 7 (.mv (.t 10)),o 11 (.ext (.t 7) 0),o 12 (.ext (.t 7) 1),o 5 (.mv (.t 11)),o 6 (.mv (.t 12))] [1,6,7,8,9,10,11,12]) (.seq (.draw [o 13 (.mv (.t 5)),o 14 (.fad 0 (.t 2)),o 15 (.load false 1 (.t 14)),o 16 (f 54 [(.t 15)]),o 17 (.fad 1 (.t 2)),o 18 (.load false 1 (.t 17)),o 19 (f 54 [(.t 18)]),o 20 (.buildS 1 3 [(.re (.slice none 0 0))] [(0,(.t 13)),(1,(.t 16)),(2,(.t 19))]),o 21 (f 57 [(.t 20)]),o 4 (.mv (.t 21))] [[],[],[1],[2],[],[4],[5,3],[0,3,6],[7,6],[8,8,0,1,2,3,4,5,6,7,8]] [2,5,13,14,15,16,17,18,19,20,21]) .ret)))
theorem qxe : FnIs Tryz.prog 30 22 [.t 4] qzadw :=
  ⟨Tryz.f30, _, qwp, Tryz.func30, rfl, rfl, by kernel_rfl, by kernel_rfl, Tryz.call30⟩
def qnh : Nat → List Nat := kk [[0,4],[1,6,7,8,9,10,11],[2,5,12,13,14,15,16,17,18,19,20]]
def qjc : List (Nat × List Nat) := [(0,[]),(1,[]),(2,[]),(5,[]),(6,[]),(3,[6]),(4,[6]),(7,[]),(8,[]),(9,[])]
def qth : IR :=
 (.seq (.reg [o 2 (.box (.t 0)),o 4 (.mv (.c (.re (.slice none 0 0))))] [0,4]) (.seq (.reg [o 8 (.mv (.t 1)),o 9 (f 55 [(z 0),(.t 8)]),o 7 (.mv (.t 9)),o 10 (.ext (.t 7) 0),o 11 (.ext (.t 7) 1),o 5 (.mv (.t 10)),o 6 (.mv (.t 11))] [1,6,7,8,9,10,11]) (.seq (.draw [o 12 (.mv (.t 5)),o 13 (.fad 0 (.t 2)),o 14 (.load false 1 (.t 13)),o 15 (f 56 [(.t 14)]),o 16 (.app 1 (.t 12) (.t 15)),o 17 (.fad 1 (.t 2)),o 18 (.load false 1 (.t 17)),o 19 (f 56 [(.t 18)]),o 20 (.app 1 (.t 16) (.t 19)),o 4 (.mv (.t 20))] [[],[],[1],[2],[0,3,3],[],[5],[6,4],[4,7,7],[8,8,0,1,2,3,4,5,6,7,8]] [2,5,12,13,14,15,16,17,18,19,20]) .ret)))
theorem qnq : FnIs Tryz.prog 31 21 [.t 4] qth :=
  ⟨Tryz.f31, _, qnh, Tryz.func31, rfl, rfl, by kernel_rfl, by kernel_rfl, Tryz.call31⟩
def qys : Nat → List Nat := kk [[],[0],[],[9,10],[4,11,12,13,14],[15],[16]]
def qrk : List Nat := [0,1,3,4,8,9,10,11,12,13,14,15,16]
def qzagj : IR :=
 (.seq (.reg [o 2 (.mv (z 0))] []) (.seq (.seq (.reg [o 5 (.mv (.t 0)),o 6 (.len false (.t 5)),o 7 (.mv (z 0))] [0]) (.block 0 (.loop (.seq (.reg [o 8 (.bin .lt (.t 7) (.t 6))] []) (.seq (.cond (.t 8) .skip (.exit 0)) (.seq (.block 1 (.seq (.reg [o 9 (.iadS 2 (.t 5) (.t 7)),o 10 (.load true 2 (.t 9)),o 4 (.alloc [(.s []),(.s [])]),u (.store 2 (.t 4) (.t 10))] [9,10]) (.reg [o 11 (.mv (.t 2)),o 12 (.load true 2 (.t 4)),o 13 (f 38 [(.t 12)]),o 14 (.bin .add (.t 11) (.t 13)),o 2 (.mv (.t 14))] [4,11,12,13,14]))) (.reg [o 15 (.bin .add (.t 7) (z 1)),o 7 (.mv (.t 15))] [15]))))))) (.seq (.reg [o 16 (.mv (.t 2)),o 2 (.mv (.t 16))] [16]) .ret)))
theorem qze : FnIs Tryz.prog 32 17 [.t 2] qzagj :=
  ⟨Tryz.f32, _, qys, Tryz.func32, rfl, rfl, by kernel_rfl, by kernel_rfl, Tryz.call32⟩
def qol : Nat → List Nat := kk [[2],[],[],[5,6,7],[9,10],[11,12,13,14,15,16,17],[3,18]]
def qjm : List Nat := [1,2,5,6,7,8,9,10,11,12,13,14,15,16,17,18]
def quc : IR :=
 (.seq (.reg [o 2 (.mv (z 0))] [2]) (.seq (.reg [o 3 (.mv (z 0))] []) (.seq (.seq (.reg [o 4 (.mv (z 0))] []) (.block 0 (.loop (.seq (.seq (.reg [o 5 (.mv (.t 4)),o 6 (.mv (.t 0)),o 7 (.len false (.t 6)),o 8 (.bin .lt (.t 5) (.t 7))] [5,6,7]) (.cond (.t 8) .skip (.exit 0))) (.seq (.block 1 (.reg [o 11 (.mv (.t 3)),o 12 (.mv (.t 0)),o 13 (.mv (.t 4)),o 14 (.iadS 2 (.t 12) (.t 13)),o 15 (.load true 2 (.t 14)),o 16 (f 58 [(.t 15)]),o 17 (.bin .add (.t 11) (.t 16)),o 3 (.mv (.t 17))] [11,12,13,14,15,16,17])) (.reg [o 9 (.mv (.t 4)),o 10 (.bin .add (.t 9) (z 1)),o 4 (.mv (.t 10))] [9,10])))))) (.seq (.reg [o 18 (.mv (.t 3)),o 2 (.mv (.t 18))] [3,18]) .ret))))
theorem qpf : FnIs Tryz.prog 33 19 [.t 2] quc :=
  ⟨Tryz.f33, _, qol, Tryz.func33, rfl, rfl, by kernel_rfl, by kernel_rfl, Tryz.call33⟩
def qyt : Nat → List Nat := kk [[0,1,4],[2,3,5,6,7,8,9,10,11,12,13,14,15,16,17,18,19,20,21,22,23]]
def qzagk : IR :=
 (.seq (.reg [o 2 (.box (.t 0)),o 3 (.box (.t 1)),o 4 (.mv (.c .ff))] [0,1,4]) (.seq (.reg [o 5 (.fad 1 (.t 2)),o 6 (.load false 1 (.t 5)),o 7 (.fad 1 (.t 3)),o 8 (.load false 1 (.t 7)),o 9 (.eqA ⟨false,[.kb]⟩ false (.t 6) (.t 8)),o 10 (.mv (.t 9)),q 11 (.fad 0 (.t 2)) 10 true,q 12 (.load false 1 (.t 11)) 10 true,q 13 (.fad 0 (.t 3)) 10 true,q 14 (.load false 1 (.t 13)) 10 true,q 15 (f 59 [(.t 12),(.t 14)]) 10 true,o 16 (.pick (.t 10) (.t 15) (.c .ff)),o 17 (.mv (.t 16)),q 18 (.fad 2 (.t 2)) 17 true,q 19 (.load true 2 (.t 18)) 17 true,q 20 (.fad 2 (.t 3)) 17 true,q 21 (.load true 2 (.t 20)) 17 true,q 22 (f 60 [(.t 19),(.t 21)]) 17 true,o 23 (.pick (.t 17) (.t 22) (.c .ff)),o 4 (.mv (.t 23))] [2,3,5,6,7,8,9,10,11,12,13,14,15,16,17,18,19,20,21,22,23]) .ret))
theorem qzf : FnIs Tryz.prog 34 24 [.t 4] qzagk :=
  ⟨Tryz.f34, _, qyt, Tryz.func34, rfl, rfl, by kernel_rfl, by kernel_rfl, Tryz.call34⟩
def qwt : Nat → List Nat := kk [[0,5],[1,8,9,10,11,12],[7,13,14,15,16,17,18],[20],[2,21,22,23,24],[25],[6,26]]
def qzaed : IR :=
 (.seq (.reg [o 2 (.box (.t 0)),o 4 (.alloc [(.i .i64 (.l 0)),(.re (.slice none 0 0))]),o 5 (.mv (z 0))] [0,5]) (.seq (.reg [o 9 (.mv (.t 1)),o 10 (f 61 [(.t 9)]),o 8 (.mv (.t 10)),o 11 (.ext (.t 8) 0),o 12 (.ext (.t 8) 1),o 6 (.alloc [(.i .i64 (.l 0)),(.re (.slice none 0 0))]),u (.store 2 (.t 6) (.t 11)),o 7 (.mv (.t 12))] [1,8,9,10,11,12]) (.seq (.seq (.reg [o 13 (.mv (.t 7)),o 14 (.bin .ne (.t 13) (z 0)),o 15 (.mv (.t 14)),q 16 (.load true 2 (.t 2)) 15 false,q 17 (f 47 [(.t 16)]) 15 false,q 18 (.not (.t 17)) 15 false,o 19 (.pick (.t 15) (.c .tt) (.t 18))] [7,13,14,15,16,17,18]) (.cond (.t 19) (.seq (.reg [o 20 (.build [(.i .i64 (.l 0)),(.re (.slice none 0 0))] []),u (.store 2 (.t 4) (.t 20)),o 5 (.mv (z 2))] [20]) .ret) .skip)) (.seq (.reg [o 21 (.fad 1 (.t 2)),o 22 (.load false 1 (.t 21)),o 23 (f 62 [(.t 22)]),o 24 (.fad 1 (.t 6)),u (.store 1 (.t 24) (.t 23))] [2,21,22,23,24]) (.seq (.reg [o 25 (f 63 [(.t 6)])] [25]) (.seq (.reg [o 26 (.load true 2 (.t 6)),u (.store 2 (.t 4) (.t 26)),o 5 (.mv (z 0))] [6,26]) .ret))))))
theorem qxi : FnIs Tryz.prog 35 27 [.c 4 true 2, .t 5] qzaed :=
  ⟨Tryz.f35, _, qwt, Tryz.func35, rfl, rfl, by kernel_rfl, by kernel_rfl, Tryz.call35⟩
def qzaca : Nat → List Nat := kk [[0,2],[1,3,4,5,6,7,8,9,10]]
def table_Size : IR :=
 (.seq (.reg [o 1 (.box (.t 0)),o 2 (.mv (z 0))] [0,2]) (.seq (.reg [o 3 (.fad 0 (.t 1)),o 4 (.load false 1 (.t 3)),o 5 (.len true (.t 4)),o 6 (.bin .add (z 32) (.t 5)),o 7 (.fad 1 (.t 1)),o 8 (.load false 1 (.t 7)),o 9 (.len true (.t 8)),o 10 (.bin .add (.t 6) (.t 9)),o 2 (.mv (.t 10))] [1,3,4,5,6,7,8,9,10]) .ret))
theorem qzack : FnIs Tryz.prog 38 11 [.t 2] table_Size :=
  ⟨Tryz.f38, _, qzaca, Tryz.func38, rfl, rfl, by kernel_rfl, by kernel_rfl, Tryz.call38⟩
def qzafb : Nat → List Nat := kk [[0,1,5],[6,7],[9],[3,10,11,12,13,14,15],[16],[2,17]]
def table_Add : IR :=
 (.seq (.reg [o 2 (.box (.t 0)),o 3 (.box (.t 1)),o 4 (.alloc [(.i .i64 (.l 0)),(.re (.slice none 0 0))]),o 5 (.mv (z 0))] [0,1,5]) (.seq (.seq (.reg [o 6 (.load true 2 (.t 2)),o 7 (f 47 [(.t 6)]),o 8 (.not (.t 7))] [6,7]) (.cond (.t 8) (.seq (.reg [o 9 (.build [(.i .i64 (.l 0)),(.re (.slice none 0 0))] []),u (.store 2 (.t 4) (.t 9)),o 5 (.mv (z 2))] [9]) .ret) .skip)) (.seq (.reg [o 10 (.load true 2 (.t 3)),o 11 (.buildS 2 1 [(.s []),(.s [])] [(0,(.t 10))]),o 12 (.fad 1 (.t 2)),o 13 (.load false 1 (.t 12)),o 14 (.app 2 (.t 11) (.t 13)),o 15 (.fad 1 (.t 2)),u (.store 1 (.t 15) (.t 14))] [3,10,11,12,13,14,15]) (.seq (.reg [o 16 (f 63 [(.t 2)])] [16]) (.seq (.reg [o 17 (.load true 2 (.t 2)),u (.store 2 (.t 4) (.t 17)),o 5 (.mv (z 0))] [2,17]) .ret)))))
theorem qzafs : FnIs Tryz.prog 39 18 [.c 4 true 2, .t 5] table_Add :=
  ⟨Tryz.f39, _, qzafb, Tryz.func39, rfl, rfl, by kernel_rfl, by kernel_rfl, Tryz.call39⟩
def qnj : Nat → List Nat := kk [[0,2],[1,3,4,5,6,7,8,9,10,11,12,13,14,15,16,17]]
def qjd : List (Nat × List Nat) := [(0,[]),(1,[]),(2,[]),(3,[]),(4,[]),(5,[]),(6,[]),(7,[]),(8,[]),(9,[]),(11,[]),(12,[]),(10,[12]),(13,[]),(14,[]),(15,[])]
def qtj : IR :=
 (.seq (.reg [o 1 (.box (.t 0)),o 2 (.mv (.c .ff))] [0,2]) (.seq (.draw [o 3 (.fad 0 (.t 1)),o 4 (.load false 1 (.t 3)),o 5 (.bin .ge (.t 4) (z 0)),o 6 (.mv (.t 5)),q 7 (.fad 0 (.t 1)) 6 true,q 8 (.load false 1 (.t 7)) 6 true,q 9 (.bin .le (.t 8) (z 4096)) 6 true,o 10 (.pick (.t 6) (.t 9) (.c .ff)),o 11 (.mv (.t 10)),q 12 (.load true 2 (.t 1)) 11 true,q 13 (f 65 [(.t 12)]) 11 true,q 14 (.fad 0 (.t 1)) 11 true,q 15 (.load false 1 (.t 14)) 11 true,q 16 (.bin .le (.t 13) (.t 15)) 11 true,o 17 (.pick (.t 11) (.t 16) (.c .ff)),o 2 (.mv (.t 17))] [[],[0],[1],[2],[3],[4,3],[5,3],[3,6],[7,3],[8],[9,8,8],[8],[11,8],[10,12,8],[8,13],[14,10,0,1,2,3,4,5,6,7,8,9,10,11,12,13,14]] [1,3,4,5,6,7,8,9,10,11,12,13,14,15,16,17]) .ret))
theorem qnr : FnIs Tryz.prog 40 18 [.t 2] qtj :=
  ⟨Tryz.f40, _, qnj, Tryz.func40, rfl, rfl, by kernel_rfl, by kernel_rfl, Tryz.call40⟩
def qlk : Nat → List Nat := kk [[0,5],[6,7,8,9,10,11,12,13,14,15],[17],[1,18,19],[2,20,21]]
def qrq : IR :=
 (.seq (.reg [o 2 (.box (.t 0)),o 4 (.alloc [(.i .i64 (.l 0)),(.re (.slice none 0 0))]),o 5 (.mv (z 0))] [0,5]) (.seq (.seq (.reg [o 6 (.load true 2 (.t 2)),o 7 (f 40 [(.t 6)]),o 8 (.not (.t 7)),o 9 (.mv (.t 8)),q 10 (.mv (.t 1)) 9 false,q 11 (.bin .lt (.t 10) (z 0)) 9 false,o 12 (.pick (.t 9) (.c .tt) (.t 11)),o 13 (.mv (.t 12)),q 14 (.mv (.t 1)) 13 false,q 15 (.bin .gt (.t 14) (z 4096)) 13 false,o 16 (.pick (.t 13) (.c .tt) (.t 15))] [6,7,8,9,10,11,12,13,14,15]) (.cond (.t 16) (.seq (.reg [o 17 (.build [(.i .i64 (.l 0)),(.re (.slice none 0 0))] []),u (.store 2 (.t 4) (.t 17)),o 5 (.mv (z 2))] [17]) .ret) .skip)) (.seq (.reg [o 18 (.mv (.t 1)),o 19 (.fad 0 (.t 2)),u (.store 1 (.t 19) (.t 18))] [1,18,19]) (.seq (.reg [o 20 (.load true 2 (.t 2)),o 21 (f 67 [(.t 20)]),u (.store 2 (.t 4) (.t 21)),o 5 (.mv (z 0))] [2,20,21]) .ret))))
theorem qlv : FnIs Tryz.prog 42 22 [.c 4 true 2, .t 5] qrq :=
  ⟨Tryz.f42, _, qlk, Tryz.func42, rfl, rfl, by kernel_rfl, by kernel_rfl, Tryz.call42⟩
def qqr : Nat → List Nat := kk [[0,1,5],[6,7],[9],[3,10,11,12,13,14,15],[2,16,17]]
def qxw : IR :=
 (.seq (.reg [o 2 (.box (.t 0)),o 3 (.box (.t 1)),o 4 (.alloc [(.i .i64 (.l 0)),(.re (.slice none 0 0))]),o 5 (.mv (z 0))] [0,1,5]) (.seq (.seq (.reg [o 6 (.load true 2 (.t 2)),o 7 (f 40 [(.t 6)]),o 8 (.not (.t 7))] [6,7]) (.cond (.t 8) (.seq (.reg [o 9 (.build [(.i .i64 (.l 0)),(.re (.slice none 0 0))] []),u (.store 2 (.t 4) (.t 9)),o 5 (.mv (z 2))] [9]) .ret) .skip)) (.seq (.reg [o 10 (.load true 2 (.t 3)),o 11 (.buildS 2 1 [(.s []),(.s [])] [(0,(.t 10))]),o 12 (.fad 1 (.t 2)),o 13 (.load false 1 (.t 12)),o 14 (.app 2 (.t 11) (.t 13)),o 15 (.fad 1 (.t 2)),u (.store 1 (.t 15) (.t 14))] [3,10,11,12,13,14,15]) (.seq (.reg [o 16 (.load true 2 (.t 2)),o 17 (f 67 [(.t 16)]),u (.store 2 (.t 4) (.t 17)),o 5 (.mv (z 0))] [2,16,17]) .ret))))
theorem qrd : FnIs Tryz.prog 44 18 [.c 4 true 2, .t 5] qxw :=
  ⟨Tryz.f44, _, qqr, Tryz.func44, rfl, rfl, by kernel_rfl, by kernel_rfl, Tryz.call44⟩
def qll : Nat → List Nat := kk [[4],[6,7,8,9],[],[],[11,12,13],[15,16],[17,18,19,20,21,22,23,24]]
def qhr : List Nat := [2,3,4,6,7,8,9,10,11,12,13,14,15,16,17,18,19,20,21,22,23,24,25]
def qic : List (Nat × List Nat) := [(0,[]),(1,[]),(2,[]),(3,[]),(4,[]),(5,[]),(6,[]),(7,[]),(8,[])]
def qrr : IR :=
 (.seq (.reg [o 4 (.mv (.c .ff))] [4]) (.seq (.seq (.reg [o 6 (.mv (.t 0)),o 7 (.len false (.t 6)),o 8 (.mv (.t 1)),o 9 (.len false (.t 8)),o 10 (.bin .ne (.t 7) (.t 9))] [6,7,8,9]) (.cond (.t 10) (.seq (.reg [o 4 (.mv (.c .ff))] []) .ret) .skip)) (.seq (.seq (.reg [o 5 (.mv (z 0))] []) (.block 0 (.loop (.seq (.seq (.reg [o 11 (.mv (.t 5)),o 12 (.mv (.t 0)),o 13 (.len false (.t 12)),o 14 (.bin .lt (.t 11) (.t 13))] [11,12,13]) (.cond (.t 14) .skip (.exit 0))) (.seq (.block 1 (.seq (.draw [o 17 (.mv (.t 0)),o 18 (.mv (.t 5)),o 19 (.iadS 2 (.t 17) (.t 18)),o 20 (.load true 2 (.t 19)),o 21 (.mv (.t 1)),o 22 (.mv (.t 5)),o 23 (.iadS 2 (.t 21) (.t 22)),o 24 (.load true 2 (.t 23)),o 25 (.eqA ⟨true,[.ks,.ks]⟩ true (.t 20) (.t 24))] [[],[],[0,1],[2],[],[],[4,5],[6],[3,7]] [17,18,19,20,21,22,23,24]) (.cond (.t 25) (.seq (.reg [o 4 (.mv (.c .ff))] []) .ret) .skip))) (.reg [o 15 (.mv (.t 5)),o 16 (.bin .add (.t 15) (z 1)),o 5 (.mv (.t 16))] [15,16])))))) (.seq (.reg [o 4 (.mv (.c .tt))] []) .ret))))
theorem qlw : FnIs Tryz.prog 45 26 [.t 4] qrr :=
  ⟨Tryz.f45, _, qll, Tryz.func45, rfl, rfl, by kernel_rfl, by kernel_rfl, Tryz.call45⟩
def qyx : Nat → List Nat := kk [[0,2],[1,3,4,5,6,7,8,9,10,11,12,13,14,15,16,17]]
def qsh : List (Nat × List Nat) := [(0,[]),(1,[]),(2,[]),(3,[]),(4,[]),(5,[]),(6,[]),(7,[]),(8,[]),(9,[]),(11,[]),(12,[]),(10,[12]),(13,[]),(14,[]),(15,[])]
def qzagq : IR :=
 (.seq (.reg [o 1 (.box (.t 0)),o 2 (.mv (.c .ff))] [0,2]) (.seq (.draw [o 3 (.fad 0 (.t 1)),o 4 (.load false 1 (.t 3)),o 5 (.bin .ge (.t 4) (z 0)),o 6 (.mv (.t 5)),q 7 (.fad 0 (.t 1)) 6 true,q 8 (.load false 1 (.t 7)) 6 true,q 9 (.bin .le (.t 8) (z 4096)) 6 true,o 10 (.pick (.t 6) (.t 9) (.c .ff)),o 11 (.mv (.t 10)),q 12 (.load true 2 (.t 1)) 11 true,q 13 (f 69 [(.t 12)]) 11 true,q 14 (.fad 0 (.t 1)) 11 true,q 15 (.load false 1 (.t 14)) 11 true,q 16 (.bin .le (.t 13) (.t 15)) 11 true,o 17 (.pick (.t 11) (.t 16) (.c .ff)),o 2 (.mv (.t 17))] [[],[0],[1],[2],[3],[4,3],[5,3],[3,6],[7,3],[8],[9,8,8],[8],[11,8],[10,12,8],[8,13],[14,10,0,1,2,3,4,5,6,7,8,9,10,11,12,13,14]] [1,3,4,5,6,7,8,9,10,11,12,13,14,15,16,17]) .ret))
theorem qzi : FnIs Tryz.prog 47 18 [.t 2] qzagq :=
  ⟨Tryz.f47, _, qyx, Tryz.func47, rfl, rfl, by kernel_rfl, by kernel_rfl, Tryz.call47⟩
def qwm : Nat → List Nat := kk [[0,1,4],[2,3,5]]
def qzadt : IR :=
 (.seq (.reg [o 2 (.box (.t 0)),o 3 (.box (.t 1)),o 4 (.mv (.c (.re .nilFunc)))] [0,1,4]) (.seq (.reg [o 5 (.mkF (.func 70) [] [(.t 3),(.t 2)]),o 4 (.mv (.t 5))] [2,3,5]) .ret))
theorem qxd : FnIs Tryz.prog 48 6 [.t 4] qzadt :=
  ⟨Tryz.f48, _, qwm, Tryz.func48, rfl, rfl, by kernel_rfl, by kernel_rfl, Tryz.call48⟩
def qgq : Nat → List Nat := kk [[4],[10,11,12,13,14,15],[17,18],[19,20,21,22,23],[24],[7,26],[6,27,28,29,30,31,32,33,34,35,36],[37],[0,8,39,40,41],[9,42],[44,45],[0,46,47],[5,49,50],[0,1,51,52,53],[0,54,55]]
def qju : IR :=
 (.seq (.reg [o 4 (.mv (z 0))] [4]) (.seq (.reg [o 10 (.mv (.t 0)),o 11 (.nilc (.t 10)),o 12 (.fad 0 (.t 11)),o 13 (.load false 1 (.t 12)),o 14 (.iadS 1 (.t 13) (z 0)),o 15 (.load false 1 (.t 14)),o 5 (.mv (.t 15))] [10,11,12,13,14,15]) (.seq (.block 0 (.seq (.reg [o 17 (.mv (.t 5)),o 18 (.bin .ge (.t 17) (.c (.i .u8 (.l 128)))),o 16 (.mv (.t 18))] [17,18]) (.cond (.t 16) (.seq (.reg [o 20 (.mv (.t 0)),o 21 (f 72 [(.t 20),(z 7)]),o 19 (.mv (.t 21)),o 22 (.ext (.t 19) 0),o 23 (.ext (.t 19) 1),o 6 (.mv (.t 22)),o 7 (.mv (.t 23))] [19,20,21,22,23]) (.seq (.seq (.reg [o 24 (.mv (.t 7)),o 25 (.bin .ne (.t 24) (z 0))] [24]) (.cond (.t 25) (.seq (.reg [o 26 (.mv (.t 7)),o 4 (.mv (.t 26))] [7,26]) .ret) .skip)) (.seq (.reg [o 28 (.mv (.t 0)),o 29 (.nilc (.t 28)),o 30 (.fad 1 (.t 29)),o 31 (.fad 2 (.t 30)),o 32 (.load true 2 (.t 31)),o 33 (.mv (.t 6)),o 34 (f 66 [(.t 32),(.t 33)]),o 27 (.mv (.t 34)),o 35 (.ext (.t 27) 0),o 36 (.ext (.t 27) 1),o 8 (.alloc [(.s []),(.s [])]),u (.store 2 (.t 8) (.t 35)),o 9 (.mv (.t 36))] [6,27,28,29,30,31,32,33,34,35,36]) (.seq (.seq (.reg [o 37 (.mv (.t 9)),o 38 (.bin .eq (.t 37) (z 0))] [37]) (.cond (.t 38) (.reg [o 39 (.mv (.t 0)),o 40 (.load true 2 (.t 8)),o 41 (f 73 [(.t 39),(.t 40)])] [0,8,39,40,41]) .skip)) (.seq (.reg [o 42 (.mv (.t 9)),o 4 (.mv (.t 42))] [9,42]) .ret))))) (.seq (.reg [o 44 (.mv (.t 5)),o 45 (.bin .ge (.t 44) (.c (.i .u8 (.l 64)))),o 43 (.mv (.t 45))] [44,45]) (.cond (.t 43) (.seq (.reg [o 46 (.mv (.t 0)),o 47 (f 74 [(.t 46),(z 6),(.c .tt)]),o 4 (.mv (.t 47))] [0,46,47]) .ret) (.seq (.reg [o 49 (.mv (.t 5)),o 50 (.bin .ge (.t 49) (.c (.i .u8 (.l 32)))),o 48 (.mv (.t 50))] [5,49,50]) (.cond (.t 48) (.seq (.reg [o 51 (.mv (.t 0)),o 52 (.mv (.t 1)),o 53 (f 75 [(.t 51),(.t 52)]),o 4 (.mv (.t 53))] [0,1,51,52,53]) .ret) .skip))))))) (.seq (.reg [o 54 (.mv (.t 0)),o 55 (f 74 [(.t 54),(z 4),(.c .ff)]),o 4 (.mv (.t 55))] [0,54,55]) .ret))))
theorem qgu : FnIs Tryz.prog 49 56 [.t 4] qju :=
  ⟨Tryz.f49, _, qgq, Tryz.func49, rfl, rfl, by kernel_rfl, by kernel_rfl, Tryz.call49⟩
def qli : Nat → List Nat := kk [[4],[6,7,8,9],[],[],[11,12,13],[15,16],[17,18,19,20,21,22,23,24]]
def qhq : List Nat := [2,3,4,6,7,8,9,10,11,12,13,14,15,16,17,18,19,20,21,22,23,24,25]
def qib : List (Nat × List Nat) := [(0,[]),(1,[]),(2,[]),(3,[]),(4,[]),(5,[]),(6,[]),(7,[]),(8,[])]
def qro : IR :=
 (.seq (.reg [o 4 (.mv (.c .ff))] [4]) (.seq (.seq (.reg [o 6 (.mv (.t 0)),o 7 (.len false (.t 6)),o 8 (.mv (.t 1)),o 9 (.len false (.t 8)),o 10 (.bin .ne (.t 7) (.t 9))] [6,7,8,9]) (.cond (.t 10) (.seq (.reg [o 4 (.mv (.c .ff))] []) .ret) .skip)) (.seq (.seq (.reg [o 5 (.mv (z 0))] []) (.block 0 (.loop (.seq (.seq (.reg [o 11 (.mv (.t 5)),o 12 (.mv (.t 0)),o 13 (.len false (.t 12)),o 14 (.bin .lt (.t 11) (.t 13))] [11,12,13]) (.cond (.t 14) .skip (.exit 0))) (.seq (.block 1 (.seq (.draw [o 17 (.mv (.t 0)),o 18 (.mv (.t 5)),o 19 (.iadS 2 (.t 17) (.t 18)),o 20 (.load true 2 (.t 19)),o 21 (.mv (.t 1)),o 22 (.mv (.t 5)),o 23 (.iadS 2 (.t 21) (.t 22)),o 24 (.load true 2 (.t 23)),o 25 (.eqA ⟨true,[.ks,.ks]⟩ true (.t 20) (.t 24))] [[],[],[0,1],[2],[],[],[4,5],[6],[3,7]] [17,18,19,20,21,22,23,24]) (.cond (.t 25) (.seq (.reg [o 4 (.mv (.c .ff))] []) .ret) .skip))) (.reg [o 15 (.mv (.t 5)),o 16 (.bin .add (.t 15) (z 1)),o 5 (.mv (.t 16))] [15,16])))))) (.seq (.reg [o 4 (.mv (.c .tt))] []) .ret))))
theorem qlt : FnIs Tryz.prog 50 26 [.t 4] qro :=
  ⟨Tryz.f50, _, qli, Tryz.func50, rfl, rfl, by kernel_rfl, by kernel_rfl, Tryz.call50⟩
def qzaby : Nat → List Nat := kk [[1,4,5],[0,3,6,7,8,9,10,11,12,13,14]]
def unpack_put : IR :=
 (.seq (.reg [o 3 (.box (.t 1)),o 4 (.mv (.c (.re (.slice none 0 0)))),o 5 (.mv (z 0))] [1,4,5]) (.seq (.reg [o 6 (.mv (.t 0)),o 7 (.iadA 2 1 (.t 3) (z 1)),o 8 (.load false 1 (.t 7)),o 9 (.iadA 2 1 (.t 3) (z 0)),o 10 (.load false 1 (.t 9)),o 11 (.cv .u8 (.t 10)),o 12 (f 76 [(.t 6),(.t 8),(.t 11)]),o 13 (.ext (.t 12) 0),o 14 (.ext (.t 12) 1),o 4 (.mv (.t 13)),o 5 (.mv (.t 14))] [0,3,6,7,8,9,10,11,12,13,14]) .ret))
theorem qcm : FnIs Tryz.prog 51 15 [.t 4, .t 5] unpack_put :=
  ⟨Tryz.f51, _, qzaby, Tryz.func51, rfl, rfl, by kernel_rfl, by kernel_rfl, Tryz.call51⟩
def qqu : Nat → List Nat := kk [[6,7],[11,12,13],[],[1,15,16],[2,17,18,19,20,21,22,23,24],[25,26],[0,9,28,29,30,31,32],[9,33,34,35,36,37],[8,38,39,40],[41],[43,44,45,46,47,48,49],[50,51],[0,10,52,53,54,55,56]]
def qkg : List Nat := [1,2,3,4,5,6,7,8,9,11,12,13,14,15,16,17,18,19,20,21,22,23,24,25,26,27,28,29,30,31,32,33,34,35,36,37,38,39,40,41,42,43,44,45,46,47,48,49,50,51,52,53,54,55,56]
def qxz : IR :=
 (.seq (.reg [o 6 (.mv (.c (.re (.slice none 0 0)))),o 7 (.mv (z 0))] [6,7]) (.seq (.seq (.reg [o 11 (.mv (.t 0)),o 12 (.mv (.t 1)),o 13 (f 77 [(.t 11),(.t 12)]),o 14 (.not (.t 13))] [11,12,13]) (.cond (.t 14) (.seq (.reg [o 6 (.mv (.c (.re (.slice none 0 0)))),o 7 (.mv (z 2))] []) .ret) .skip)) (.seq (.reg [o 15 (.mv (.t 1)),o 16 (f 78 [(.t 15)]),o 8 (.mv (.t 16))] [1,15,16]) (.seq (.reg [o 17 (.mv (.t 2)),o 18 (.cv .i64 (.t 17)),o 19 (.mv (.t 8)),o 20 (.bin .add (.t 19) (z 1)),o 21 (.bin .quo (.t 18) (.t 20)),o 22 (.mv (.t 8)),o 23 (.bin .add (.t 22) (z 1)),o 24 (.bin .mul (.t 21) (.t 23)),o 9 (.mv (.t 24))] [2,17,18,19,20,21,22,23,24]) (.seq (.seq (.reg [o 25 (.mv (.t 0)),o 26 (.mv (.t 8)),o 27 (.bin .lt (.t 25) (.t 26))] [25,26]) (.cond (.t 27) (.seq (.reg [o 28 (.mv (.t 9)),o 29 (.mv (.t 0)),o 30 (.bin .add (.t 28) (.t 29)),o 31 (.cv .u8 (.t 30)),o 32 (.buildS 1 1 [(.i .u8 (.l 0))] [(0,(.t 31))]),o 6 (.mv (.t 32)),o 7 (.mv (z 0))] [0,9,28,29,30,31,32]) .ret) .skip)) (.seq (.reg [o 33 (.mv (.t 9)),o 34 (.mv (.t 8)),o 35 (.bin .add (.t 33) (.t 34)),o 36 (.cv .u8 (.t 35)),o 37 (.buildS 1 1 [(.i .u8 (.l 0))] [(0,(.t 36))]),o 10 (.mv (.t 37))] [9,33,34,35,36,37]) (.seq (.reg [o 38 (.mv (.t 0)),o 39 (.mv (.t 8)),o 40 (.bin .sub (.t 38) (.t 39)),o 0 (.mv (.t 40))] [8,38,39,40]) (.seq (.block 0 (.loop (.seq (.seq (.reg [o 41 (.mv (.t 0)),o 42 (.bin .ge (.t 41) (z 128))] [41]) (.cond (.t 42) .skip (.exit 0))) (.block 1 (.seq (.reg [o 43 (.mv (.t 10)),o 44 (.mv (.t 0)),o 45 (.bin .rem (.t 44) (z 128)),o 46 (.bin .add (.t 45) (z 128)),o 47 (.cv .u8 (.t 46)),o 48 (.buildS 1 1 [(.i .u8 (.l 0))] [(0,(.t 47))]),o 49 (.app 1 (.t 43) (.t 48)),o 10 (.mv (.t 49))] [43,44,45,46,47,48,49]) (.reg [o 50 (.mv (.t 0)),o 51 (.bin .quo (.t 50) (z 128)),o 0 (.mv (.t 51))] [50,51])))))) (.seq (.reg [o 52 (.mv (.t 10)),o 53 (.mv (.t 0)),o 54 (.cv .u8 (.t 53)),o 55 (.buildS 1 1 [(.i .u8 (.l 0))] [(0,(.t 54))]),o 56 (.app 1 (.t 52) (.t 55)),o 6 (.mv (.t 56)),o 7 (.mv (z 0))] [0,10,52,53,54,55,56]) .ret)))))))))
theorem qhg : FnIs Tryz.prog 52 57 [.t 6, .t 7] qxz :=
  ⟨Tryz.f52, _, qqu, Tryz.func52, rfl, rfl, by kernel_rfl, by kernel_rfl, Tryz.call52⟩
def qzaew : Nat → List Nat := kk [[],[0,5,6,7,8,9,10,11],[4],[3,13],[14]]
def unpack_of : IR :=
 (.seq (.reg [o 2 (.alloc [(.i .i64 (.l 0)),(.i .i64 (.l 0))])] []) (.seq (.seq (.reg [o 6 (f 79 []),o 7 (.mv (.t 0)),o 8 (.build [(.i .i64 (.l 0))] [(0,1,(.t 7))]),o 9 (.look ⟨true,[.ki]⟩ (.ag [(.i .i64 (.l 0)),(.i .i64 (.l 0))]) true (.t 6) (.t 8)),o 5 (.mv (.t 9)),o 10 (.ext (.t 5) 0),o 11 (.ext (.t 5) 1),o 3 (.alloc [(.i .i64 (.l 0)),(.i .i64 (.l 0))]),u (.store 2 (.t 3) (.t 10)),o 4 (.mv (.t 11))] [0,5,6,7,8,9,10,11]) (.seq (.reg [o 12 (.mv (.t 4))] [4]) (.cond (.t 12) (.seq (.reg [o 13 (.load true 2 (.t 3)),u (.store 2 (.t 2) (.t 13))] [3,13]) .ret) .skip))) (.seq (.reg [o 14 (.build [(.i .i64 (.l 0)),(.i .i64 (.l 0))] [(0,1,(z 0)),(1,1,(z 4))]),u (.store 2 (.t 2) (.t 14))] [14]) .ret)))
theorem qzafo : FnIs Tryz.prog 53 15 [.c 2 true 2] unpack_of :=
  ⟨Tryz.f53, _, qzaew, Tryz.func53, rfl, rfl, by kernel_rfl, by kernel_rfl, Tryz.call53⟩
def qzaez : Nat → List Nat := kk [[2],[4],[5,6],[8],[0,3,9,10,11]]
def text_Best : IR :=
 (.seq (.reg [o 2 (.mv (.c (.re (.slice none 0 0))))] [2]) (.seq (.reg [o 4 (f 80 []),o 3 (.mv (.t 4))] [4]) (.seq (.seq (.reg [o 5 (.mv (.t 0)),o 6 (.cvSB (.t 5)),o 7 (f 81 [(.t 6)])] [5,6]) (.cond (.t 7) (.reg [o 8 (f 82 []),o 3 (.mv (.t 8))] [8]) .skip)) (.seq (.reg [o 9 (.mv (.t 0)),o 10 (.mv (.t 3)),o 11 (f 83 [(.t 9),(.t 10)]),o 2 (.mv (.t 11))] [0,3,9,10,11]) .ret))))
theorem qzafq : FnIs Tryz.prog 54 12 [.t 2] text_Best :=
  ⟨Tryz.f54, _, qzaez, Tryz.func54, rfl, rfl, by kernel_rfl, by kernel_rfl, Tryz.call54⟩
def qnd : Nat → List Nat := kk [[4,5],[1],[8],[0,9,10,11,12],[6,14],[0,15,16,17,18],[0,19,20,21,22]]
def qtd : IR :=
 (.seq (.reg [o 4 (.mv (.c (.re (.slice none 0 0)))),o 5 (.mv (z 0))] [4,5]) (.seq (.seq (.reg [o 6 (.mv (.t 1))] [1]) (.block 0 (.seq (.reg [o 8 (.bin .eq (.t 6) (z 1)),o 7 (.mv (.t 8))] [8]) (.cond (.t 7) (.seq (.reg [o 9 (.mv (.t 0)),o 10 (f 52 [(.t 9),(z 6),(.c (.i .u8 (.l 64)))]),o 11 (.ext (.t 10) 0),o 12 (.ext (.t 10) 1),o 4 (.mv (.t 11)),o 5 (.mv (.t 12))] [0,9,10,11,12]) .ret) (.seq (.reg [o 14 (.bin .eq (.t 6) (z 2)),o 13 (.mv (.t 14))] [6,14]) (.cond (.t 13) (.seq (.reg [o 15 (.mv (.t 0)),o 16 (f 52 [(.t 15),(z 4),(.c (.i .u8 (.l 16)))]),o 17 (.ext (.t 16) 0),o 18 (.ext (.t 16) 1),o 4 (.mv (.t 17)),o 5 (.mv (.t 18))] [0,15,16,17,18]) .ret) .skip)))))) (.seq (.reg [o 19 (.mv (.t 0)),o 20 (f 52 [(.t 19),(z 4),(.c (.i .u8 (.l 0)))]),o 21 (.ext (.t 20) 0),o 22 (.ext (.t 20) 1),o 4 (.mv (.t 21)),o 5 (.mv (.t 22))] [0,19,20,21,22]) .ret)))
theorem qcq : FnIs Tryz.prog 55 23 [.t 4, .t 5] qtd :=
  ⟨Tryz.f55, _, qnd, Tryz.func55, rfl, rfl, by kernel_rfl, by kernel_rfl, Tryz.call55⟩
def qos : Nat → List Nat := kk [[2],[3,4],[0,6,7],[0,8,9]]
def quj : IR :=
 (.seq (.reg [o 2 (.mv (.c (.re (.slice none 0 0))))] [2]) (.seq (.seq (.reg [o 3 (.mv (.t 0)),o 4 (.cvSB (.t 3)),o 5 (f 84 [(.t 4)])] [3,4]) (.cond (.t 5) (.seq (.reg [o 6 (.mv (.t 0)),o 7 (f 85 [(.t 6)]),o 2 (.mv (.t 7))] [0,6,7]) .ret) .skip)) (.seq (.reg [o 8 (.mv (.t 0)),o 9 (f 86 [(.t 8)]),o 2 (.mv (.t 9))] [0,8,9]) .ret)))
theorem qpm : FnIs Tryz.prog 56 10 [.t 2] quj :=
  ⟨Tryz.f56, _, qos, Tryz.func56, rfl, rfl, by kernel_rfl, by kernel_rfl, Tryz.call56⟩
def qfh : Nat → List Nat := kk [[2],[],[],[],[13,14],[5,15,16,17,18],[19],[21],[22],[3,23,24],[0],[],[29,30],[8,31,32,33],[34],[6,35]]
def qgn : IR :=
 (.seq (.reg [o 2 (.mv (.c (.re (.slice none 0 0))))] [2]) (.seq (.reg [o 3 (.mv (z 0))] []) (.seq (.seq (.reg [o 9 (.mv (.t 0)),o 10 (.len false (.t 9)),o 11 (.mv (z 0))] []) (.block 0 (.loop (.seq (.reg [o 12 (.bin .lt (.t 11) (.t 10))] []) (.seq (.cond (.t 12) .skip (.exit 0)) (.seq (.block 1 (.seq (.reg [o 13 (.iadS 1 (.t 9) (.t 11)),o 14 (.load false 1 (.t 13)),o 5 (.mv (.t 14))] [13,14]) (.seq (.reg [o 15 (.mv (.t 3)),o 16 (.mv (.t 5)),o 17 (.len false (.t 16)),o 18 (.bin .add (.t 15) (.t 17)),o 3 (.mv (.t 18))] [5,15,16,17,18]) (.seq (.reg [o 19 (.mv (.t 3)),o 20 (.bin .lt (.t 19) (z 0))] [19]) (.cond (.t 20) (.reg [o 21 .die,u .die] [21]) .skip))))) (.reg [o 22 (.bin .add (.t 11) (z 1)),o 11 (.mv (.t 22))] [22]))))))) (.seq (.reg [o 23 (.mv (.t 3)),o 24 (f 87 [(.c (.re (.slice none 0 0))),(.t 23)]),o 6 (.mv (.t 24))] [3,23,24]) (.seq (.seq (.reg [o 25 (.mv (.t 0)),o 26 (.len false (.t 25)),o 27 (.mv (z 0))] [0]) (.block 2 (.loop (.seq (.reg [o 28 (.bin .lt (.t 27) (.t 26))] []) (.seq (.cond (.t 28) .skip (.exit 2)) (.seq (.block 3 (.seq (.reg [o 29 (.iadS 1 (.t 25) (.t 27)),o 30 (.load false 1 (.t 29)),o 8 (.mv (.t 30))] [29,30]) (.reg [o 31 (.mv (.t 6)),o 32 (.mv (.t 8)),o 33 (.app 1 (.t 31) (.t 32)),o 6 (.mv (.t 33))] [8,31,32,33]))) (.reg [o 34 (.bin .add (.t 27) (z 1)),o 27 (.mv (.t 34))] [34]))))))) (.seq (.reg [o 35 (.mv (.t 6)),o 2 (.mv (.t 35))] [6,35]) .ret))))))
theorem qfk : FnIs Tryz.prog 57 36 [.t 2] qgn :=
  ⟨Tryz.f57, _, qfh, Tryz.func57, rfl, rfl, by kernel_rfl, by kernel_rfl, Tryz.call57⟩
def qon : Nat → List Nat := kk [[0,2],[1,3,4,5,6,7,8,9,10]]
def que : IR :=
 (.seq (.reg [o 1 (.box (.t 0)),o 2 (.mv (z 0))] [0,2]) (.seq (.reg [o 3 (.fad 0 (.t 1)),o 4 (.load false 1 (.t 3)),o 5 (.len true (.t 4)),o 6 (.fad 1 (.t 1)),o 7 (.load false 1 (.t 6)),o 8 (.len true (.t 7)),o 9 (.bin .add (.t 5) (.t 8)),o 10 (.bin .add (.t 9) (z 32)),o 2 (.mv (.t 10))] [1,3,4,5,6,7,8,9,10]) .ret))
theorem qph : FnIs Tryz.prog 58 11 [.t 2] que :=
  ⟨Tryz.f58, _, qon, Tryz.func58, rfl, rfl, by kernel_rfl, by kernel_rfl, Tryz.call58⟩
def qgo : Nat → List Nat := kk [[4],[6,7,8,9],[],[11],[],[15],[5,16,17,18,19,20,21,22,23],[],[25]]
def qfb : List Nat := [2,3,4,5,6,7,8,9,10,11,14,15,16,17,18,19,20,21,22,23,24,25]
def qfe : List (Nat × List Nat) := [(0,[]),(1,[]),(2,[]),(3,[]),(4,[]),(5,[]),(6,[]),(7,[]),(8,[])]
def qiw : IR :=
 (.seq (.reg [o 4 (.mv (.c .ff))] [4]) (.seq (.seq (.reg [o 6 (.mv (.t 0)),o 7 (.len false (.t 6)),o 8 (.mv (.t 1)),o 9 (.len false (.t 8)),o 10 (.bin .ne (.t 7) (.t 9))] [6,7,8,9]) (.cond (.t 10) (.seq (.reg [o 4 (.mv (.c .ff))] []) .ret) .skip)) (.seq (.seq (.reg [o 11 (.mv (.t 0)),o 12 (.len false (.t 11)),o 13 (.mv (z 0))] [11]) (.block 0 (.loop (.seq (.reg [o 14 (.bin .lt (.t 13) (.t 12))] []) (.seq (.cond (.t 14) .skip (.exit 0)) (.seq (.block 1 (.seq (.reg [o 15 (.mv (.t 13)),o 5 (.mv (.t 15))] [15]) (.seq (.draw [o 16 (.mv (.t 0)),o 17 (.mv (.t 5)),o 18 (.iadS 2 (.t 16) (.t 17)),o 19 (.load true 2 (.t 18)),o 20 (.mv (.t 1)),o 21 (.mv (.t 5)),o 22 (.iadS 2 (.t 20) (.t 21)),o 23 (.load true 2 (.t 22)),o 24 (.eqA ⟨true,[.ks,.ks]⟩ true (.t 19) (.t 23))] [[],[],[0,1],[2],[],[],[4,5],[6],[3,7]] [5,16,17,18,19,20,21,22,23]) (.cond (.t 24) (.seq (.reg [o 4 (.mv (.c .ff))] []) .ret) .skip)))) (.reg [o 25 (.bin .add (.t 13) (z 1)),o 13 (.mv (.t 25))] [25]))))))) (.seq (.reg [o 4 (.mv (.c .tt))] []) .ret))))
theorem qgs : FnIs Tryz.prog 59 26 [.t 4] qiw :=
  ⟨Tryz.f59, _, qgo, Tryz.func59, rfl, rfl, by kernel_rfl, by kernel_rfl, Tryz.call59⟩
def qzacb : Nat → List Nat := kk [[0,1,4],[2,3,5,6,7,8,9,10,11,12,13,14,15,16]]
def table_Same : IR :=
 (.seq (.reg [o 2 (.box (.t 0)),o 3 (.box (.t 1)),o 4 (.mv (.c .ff))] [0,1,4]) (.seq (.reg [o 5 (.fad 0 (.t 2)),o 6 (.load false 1 (.t 5)),o 7 (.fad 0 (.t 3)),o 8 (.load false 1 (.t 7)),o 9 (.bin .eq (.t 6) (.t 8)),o 10 (.mv (.t 9)),q 11 (.fad 1 (.t 2)) 10 true,q 12 (.load false 1 (.t 11)) 10 true,q 13 (.fad 1 (.t 3)) 10 true,q 14 (.load false 1 (.t 13)) 10 true,q 15 (f 59 [(.t 12),(.t 14)]) 10 true,o 16 (.pick (.t 10) (.t 15) (.c .ff)),o 4 (.mv (.t 16))] [2,3,5,6,7,8,9,10,11,12,13,14,15,16]) .ret))
theorem qzacl : FnIs Tryz.prog 60 17 [.t 4] table_Same :=
  ⟨Tryz.f60, _, qzacb, Tryz.func60, rfl, rfl, by kernel_rfl, by kernel_rfl, Tryz.call60⟩
def qzafa : Nat → List Nat := kk [[3],[4,5,6,7,8],[10],[0,11,12],[13]]
def table_New : IR :=
 (.seq (.reg [o 2 (.alloc [(.i .i64 (.l 0)),(.re (.slice none 0 0))]),o 3 (.mv (z 0))] [3]) (.seq (.seq (.reg [o 4 (.mv (.t 0)),o 5 (.bin .lt (.t 4) (z 0)),o 6 (.mv (.t 5)),q 7 (.mv (.t 0)) 6 false,q 8 (.bin .gt (.t 7) (z 4096)) 6 false,o 9 (.pick (.t 6) (.c .tt) (.t 8))] [4,5,6,7,8]) (.cond (.t 9) (.seq (.reg [o 10 (.load true 2 (.t 2)),u (.store 2 (.t 2) (.t 10)),o 3 (.mv (z 2))] [10]) .ret) .skip)) (.seq (.reg [o 11 (.mv (.t 0)),o 12 (.fad 0 (.t 2)),u (.store 1 (.t 12) (.t 11))] [0,11,12]) (.seq (.reg [o 13 (.load true 2 (.t 2)),u (.store 2 (.t 2) (.t 13)),o 3 (.mv (z 0))] [13]) .ret))))
theorem qzafr : FnIs Tryz.prog 61 14 [.c 2 true 2, .t 3] table_New :=
  ⟨Tryz.f61, _, qzafa, Tryz.func61, rfl, rfl, by kernel_rfl, by kernel_rfl, Tryz.call61⟩
def qgp : Nat → List Nat := kk [[2],[3],[],[0,5,6,7]]
def qix : IR :=
 (.seq (.reg [o 2 (.mv (.c (.re (.slice none 0 0))))] [2]) (.seq (.seq (.reg [o 3 (.mv (.t 0)),o 4 (.nilS false (.t 3))] [3]) (.cond (.t 4) (.seq (.reg [o 2 (.mv (.c (.re (.slice none 0 0))))] []) .ret) .skip)) (.seq (.reg [o 5 (.buildS 2 0 [(.s []),(.s [])] []),o 6 (.mv (.t 0)),o 7 (.app 2 (.t 5) (.t 6)),o 2 (.mv (.t 7))] [0,5,6,7]) .ret)))
theorem qgt : FnIs Tryz.prog 62 8 [.t 2] qix :=
  ⟨Tryz.f62, _, qgp, Tryz.func62, rfl, rfl, by kernel_rfl, by kernel_rfl, Tryz.call62⟩
def qyw : Nat → List Nat := kk [[4,5,6,7],[8,9,10,11,12,13],[14,15,16,17,18],[20,21,22,23,24,25,26,27,28,29],[3,30,31,32,33,34,35,36,37,38]]
def qzagp : IR :=
 (.scope (.seq (.reg [o 4 (.mv (.t 0)),o 5 (.nilc (.t 4)),o 6 (.load true 2 (.t 5)),o 7 (f 69 [(.t 6)]),o 2 (.mv (.t 7))] [4,5,6,7]) (.seq (.label 0) (.seq (.reg [o 8 (.mv (.t 0)),o 9 (.nilc (.t 8)),o 10 (.fad 1 (.t 9)),o 11 (.load false 1 (.t 10)),o 12 (.len false (.t 11)),o 13 (.bin .sub (.t 12) (z 1)),o 3 (.mv (.t 13))] [8,9,10,11,12,13]) (.seq (.reg [o 14 (.mv (.t 2)),o 15 (.mv (.t 0)),o 16 (.nilc (.t 15)),o 17 (.fad 0 (.t 16)),o 18 (.load false 1 (.t 17)),o 19 (.bin .gt (.t 14) (.t 18))] [14,15,16,17,18]) (.cond (.t 19) (.seq (.reg [o 20 (.mv (.t 2)),o 21 (.mv (.t 0)),o 22 (.nilc (.t 21)),o 23 (.fad 1 (.t 22)),o 24 (.load false 1 (.t 23)),o 25 (.mv (.t 3)),o 26 (.iadS 2 (.t 24) (.t 25)),o 27 (.load true 2 (.t 26)),o 28 (f 38 [(.t 27)]),o 29 (.bin .sub (.t 20) (.t 28)),o 2 (.mv (.t 29))] [20,21,22,23,24,25,26,27,28,29]) (.seq (.reg [o 30 (.mv (.t 0)),o 31 (.mv (.t 0)),o 32 (.nilc (.t 31)),o 33 (.fad 1 (.t 32)),o 34 (.load false 1 (.t 33)),o 35 (.mv (.t 3)),o 36 (.slc 2 (.t 34) none (some (.t 35)) none),o 37 (.nilc (.t 30)),o 38 (.fad 1 (.t 37)),u (.store 1 (.t 38) (.t 36))] [3,30,31,32,33,34,35,36,37,38]) (.goto 0))) .skip))))))
theorem qzh : FnIs Tryz.prog 63 39 [] qzagp :=
  ⟨Tryz.f63, _, qyw, Tryz.func63, rfl, rfl, by kernel_rfl, by kernel_rfl, Tryz.call63⟩
def qws : Nat → List Nat := kk [[0,2],[1,3]]
def qzaec : IR :=
 (.seq (.reg [o 1 (.box (.t 0)),o 2 (.mv (.c (.re .nilFunc)))] [0,2]) (.seq (.reg [o 3 (.mkF (.func 88) [] [(.t 1)]),o 2 (.mv (.t 3))] [1,3]) .ret))
theorem qxh : FnIs Tryz.prog 64 4 [.t 2] qzaec :=
  ⟨Tryz.f64, _, qws, Tryz.func64, rfl, rfl, by kernel_rfl, by kernel_rfl, Tryz.call64⟩
def qop : Nat → List Nat := kk [[0,2],[],[],[5,6,7,8],[10,11],[12,13,14,15,16,17,18,19],[3,20]]
def qjn : List Nat := [0,2,5,6,7,8,9,10,11,12,13,14,15,16,17,18,19,20]
def qug : IR :=
 (.seq (.reg [o 1 (.box (.t 0)),o 2 (.mv (z 0))] [0,2]) (.seq (.reg [o 3 (.mv (z 0))] []) (.seq (.seq (.reg [o 4 (.mv (z 0))] []) (.block 0 (.loop (.seq (.seq (.reg [o 5 (.mv (.t 4)),o 6 (.fad 1 (.t 1)),o 7 (.load false 1 (.t 6)),o 8 (.len false (.t 7)),o 9 (.bin .lt (.t 5) (.t 8))] [5,6,7,8]) (.cond (.t 9) .skip (.exit 0))) (.seq (.block 1 (.reg [o 12 (.mv (.t 3)),o 13 (.fad 1 (.t 1)),o 14 (.load false 1 (.t 13)),o 15 (.mv (.t 4)),o 16 (.iadS 2 (.t 14) (.t 15)),o 17 (.load true 2 (.t 16)),o 18 (f 58 [(.t 17)]),o 19 (.bin .add (.t 12) (.t 18)),o 3 (.mv (.t 19))] [12,13,14,15,16,17,18,19])) (.reg [o 10 (.mv (.t 4)),o 11 (.bin .add (.t 10) (z 1)),o 4 (.mv (.t 11))] [10,11])))))) (.seq (.reg [o 20 (.mv (.t 3)),o 2 (.mv (.t 20))] [3,20]) .ret))))
theorem qpj : FnIs Tryz.prog 65 21 [.t 2] qug :=
  ⟨Tryz.f65, _, qop, Tryz.func65, rfl, rfl, by kernel_rfl, by kernel_rfl, Tryz.call65⟩
def qsn : Nat → List Nat := kk [[0,5],[8,9,10,11,12],[7],[6,14],[15,16,17,18,19,20,21,22,23],[25],[1,2,26,27,28,29,30,31]]
def qzn : IR :=
 (.seq (.reg [o 2 (.box (.t 0)),o 4 (.alloc [(.s []),(.s [])]),o 5 (.mv (z 0))] [0,5]) (.seq (.reg [o 9 (.mv (.t 1)),o 10 (f 91 [(.t 9)]),o 8 (.mv (.t 10)),o 11 (.ext (.t 8) 0),o 12 (.ext (.t 8) 1),o 6 (.alloc [(.s []),(.s [])]),u (.store 2 (.t 6) (.t 11)),o 7 (.mv (.t 12))] [8,9,10,11,12]) (.seq (.seq (.reg [o 13 (.mv (.t 7))] [7]) (.cond (.t 13) (.seq (.reg [o 14 (.load true 2 (.t 6)),u (.store 2 (.t 4) (.t 14)),o 5 (.mv (z 0))] [6,14]) .ret) .skip)) (.seq (.seq (.reg [o 15 (.mv (.t 1)),o 16 (.bin .lt (.t 15) (z 21)),o 17 (.mv (.t 16)),q 18 (.mv (.t 1)) 17 false,q 19 (.bin .sub (.t 18) (z 21)) 17 false,q 20 (.fad 1 (.t 2)) 17 false,q 21 (.load false 1 (.t 20)) 17 false,q 22 (.len false (.t 21)) 17 false,q 23 (.bin .ge (.t 19) (.t 22)) 17 false,o 24 (.pick (.t 17) (.c .tt) (.t 23))] [15,16,17,18,19,20,21,22,23]) (.cond (.t 24) (.seq (.reg [o 25 (.build [(.s []),(.s [])] []),u (.store 2 (.t 4) (.t 25)),o 5 (.mv (z 90))] [25]) .ret) .skip)) (.seq (.reg [o 26 (.fad 1 (.t 2)),o 27 (.load false 1 (.t 26)),o 28 (.mv (.t 1)),o 29 (.bin .sub (.t 28) (z 21)),o 30 (.iadS 2 (.t 27) (.t 29)),o 31 (.load true 2 (.t 30)),u (.store 2 (.t 4) (.t 31)),o 5 (.mv (z 0))] [1,2,26,27,28,29,30,31]) .ret)))))
theorem qsv : FnIs Tryz.prog 66 32 [.c 4 true 2, .t 5] qzn :=
  ⟨Tryz.f66, _, qsn, Tryz.func66, rfl, rfl, by kernel_rfl, by kernel_rfl, Tryz.call66⟩
def qkb : Nat → List Nat := kk [[0],[3,4,5,6,7],[8,9,10,11],[13,14,15,16,17,18,19,20],[1,21]]
def qgv : List Nat := [0,3,4,5,6,7,8,9,10,11,12,13,14,15,16,17,18,19,20,21]
def qhk : List (Nat × List Nat) := [(0,[]),(2,[]),(3,[]),(1,[3]),(4,[])]
def qpz : IR :=
 (.seq (.reg [o 1 (.box (.t 0)),o 2 (.alloc [(.i .i64 (.l 0)),(.re (.slice none 0 0))])] [0]) (.seq (.reg [o 3 (.buildS 2 0 [(.s []),(.s [])] []),o 4 (.fad 1 (.t 1)),o 5 (.load false 1 (.t 4)),o 6 (.app 2 (.t 3) (.t 5)),o 7 (.fad 1 (.t 1)),u (.store 1 (.t 7) (.t 6))] [3,4,5,6,7]) (.seq (.block 0 (.loop (.seq (.seq (.draw [o 8 (.load true 2 (.t 1)),o 9 (f 65 [(.t 8)]),o 10 (.fad 0 (.t 1)),o 11 (.load false 1 (.t 10)),o 12 (.bin .gt (.t 9) (.t 11))] [[],[0],[],[2],[1,3]] [8,9,10,11]) (.cond (.t 12) .skip (.exit 0))) (.block 1 (.reg [o 13 (.fad 1 (.t 1)),o 14 (.load false 1 (.t 13)),o 15 (.fad 1 (.t 1)),o 16 (.load false 1 (.t 15)),o 17 (.len false (.t 16)),o 18 (.bin .sub (.t 17) (z 1)),o 19 (.slc 2 (.t 14) none (some (.t 18)) none),o 20 (.fad 1 (.t 1)),u (.store 1 (.t 20) (.t 19))] [13,14,15,16,17,18,19,20]))))) (.seq (.reg [o 21 (.load true 2 (.t 1)),u (.store 2 (.t 2) (.t 21))] [1,21]) .ret))))
theorem qkd : FnIs Tryz.prog 67 22 [.c 2 true 2] qpz :=
  ⟨Tryz.f67, _, qkb, Tryz.func67, rfl, rfl, by kernel_rfl, by kernel_rfl, Tryz.call67⟩
def qzacc : Nat → List Nat := kk [[0],[1,5],[],[10,11],[4,12,13,14,15],[16],[17]]
def qtb : List Nat := [0,1,3,4,5,9,10,11,12,13,14,15,16,17]
def table_Full : IR :=
 (.seq (.reg [o 1 (.box (.t 0)),o 2 (.mv (z 0))] [0]) (.seq (.seq (.reg [o 5 (.fad 1 (.t 1)),o 6 (.load false 1 (.t 5)),o 7 (.len false (.t 6)),o 8 (.mv (z 0))] [1,5]) (.block 0 (.loop (.seq (.reg [o 9 (.bin .lt (.t 8) (.t 7))] []) (.seq (.cond (.t 9) .skip (.exit 0)) (.seq (.block 1 (.seq (.reg [o 10 (.iadS 2 (.t 6) (.t 8)),o 11 (.load true 2 (.t 10)),o 4 (.alloc [(.s []),(.s [])]),u (.store 2 (.t 4) (.t 11))] [10,11]) (.reg [o 12 (.mv (.t 2)),o 13 (.load true 2 (.t 4)),o 14 (f 38 [(.t 13)]),o 15 (.bin .add (.t 12) (.t 14)),o 2 (.mv (.t 15))] [4,12,13,14,15]))) (.reg [o 16 (.bin .add (.t 8) (z 1)),o 8 (.mv (.t 16))] [16]))))))) (.seq (.reg [o 17 (.mv (.t 2)),o 2 (.mv (.t 17))] [17]) .ret)))
theorem qzacm : FnIs Tryz.prog 69 18 [.t 2] table_Full :=
  ⟨Tryz.f69, _, qzacc, Tryz.func69, rfl, rfl, by kernel_rfl, by kernel_rfl, Tryz.call69⟩
def qsj : Nat → List Nat := kk [[6,7],[9,10,11,12,13,14,15,16],[5,17,18,19,20,21,22,23,24],[4,26,27]]
def qmb : List Nat := [3,4,5,6,7,8,9,10,11,12,13,14,15,16,17,18,19,20,21,22,23,24,25,26,27]
def qbo : Spl := (.node 4 8
  (.leaf [(0,[]),(1,[]),(2,[]),(3,[]),(4,[]),(5,[]),(6,[]),(7,[]),(8,[]),(9,[]),(10,[])])
  (.leaf [(0,[]),(1,[]),(2,[]),(3,[]),(8,[0,2,3]),(4,[]),(5,[]),(6,[]),(7,[]),(9,[]),(10,[])]))
def qyh : IR :=
 (.block 0 (.loop (.seq (.seq (.reg [o 6 (.load false 1 (.t 1)),o 7 (.len false (.t 6)),o 8 (.bin .gt (.t 7) (z 0))] [6,7]) (.cond (.t 8) .skip (.exit 0))) (.block 1 (.seq (.draw [o 10 (.load false 1 (.t 2)),o 11 (.nilc (.t 10)),o 12 (.load true 2 (.t 11)),o 13 (.load false 1 (.t 1)),o 14 (f 71 [(.t 12),(.t 13)]),o 9 (.mv (.t 14)),o 15 (.ext (.t 9) 0),o 16 (.ext (.t 9) 1),o 4 (.alloc [(.s []),(.s []),.ff,.ff,(.i .i64 (.l 0)),(.re (.slice none 0 0))]),u (.store 6 (.t 4) (.t 15)),o 5 (.mv (.t 16))] [[],[0],[1],[],[2,3],[4],[5],[5],[],[8,6,4,0,1,2,3,4,5,6,8],[7,9,0,1,2,3,4,5,6,7,8,9]] [9,10,11,12,13,14,15,16]) (.seq (.seq (.reg [o 17 (.mv (.t 0)),o 18 (.load true 6 (.t 4)),o 19 (.mv (.t 5)),o 20 (.call (.t 17) [(.t 18),(.t 19)]),o 21 (.not (.t 20)),o 22 (.mv (.t 21)),q 23 (.mv (.t 5)) 22 false,q 24 (.bin .ne (.t 23) (z 0)) 22 false,o 25 (.pick (.t 22) (.c .tt) (.t 24))] [5,17,18,19,20,21,22,23,24]) (.cond (.t 25) .ret .skip)) (.reg [o 26 (.fad 5 (.t 4)),o 27 (.load false 1 (.t 26)),u (.store 1 (.t 1) (.t 27))] [4,26,27])))))))
theorem qss : FnIs Tryz.prog 70 28 [] qyh :=
  ⟨Tryz.f70, _, qsj, Tryz.func70, rfl, rfl, by kernel_rfl, by kernel_rfl, Tryz.call70⟩
def qyr : Nat → List Nat := kk [[0,5],[],[],[],[15,16,17],[7,18,19,20,21,22,23,24],[8,26],[27],[1,28,29,30,31,32,33,34],[35],[37,38],[],[6,40,41,42],[2,9,10,43,44,45,46,47,48,49,50,51,52],[54],[10,55,56],[2,9,57,58,59,60,61,62,63],[39,65],[9,10,66,67,68,69,70],[71,72]]
def qzagi : IR :=
 (.seq (.reg [o 2 (.box (.t 0)),o 4 (.alloc [(.s []),(.s []),.ff,.ff,(.i .i64 (.l 0)),(.re (.slice none 0 0))]),o 5 (.mv (z 0))] [0,5]) (.seq (.reg [o 6 (.mv (z 4))] []) (.seq (.seq (.reg [o 11 (.buildS 1 3 [(.i .i64 (.l 0))] [(0,(z 7)),(1,(z 6)),(2,(z 5))]),o 12 (.len false (.t 11)),o 13 (.mv (z 0))] []) (.block 0 (.loop (.seq (.reg [o 14 (.bin .lt (.t 13) (.t 12))] []) (.seq (.cond (.t 14) .skip (.exit 0)) (.seq (.block 1 (.seq (.reg [o 15 (.mv (.t 13)),o 16 (.iadS 1 (.t 11) (.t 13)),o 17 (.load false 1 (.t 16)),o 7 (.mv (.t 15)),o 8 (.mv (.t 17))] [15,16,17]) (.seq (.reg [o 18 (.mv (.t 1)),o 19 (.iadS 1 (.t 18) (z 0)),o 20 (.load false 1 (.t 19)),o 21 (.mv (.t 7)),o 22 (.bin .sub (z 7) (.t 21)),o 23 (.bin .shr (.t 20) (.t 22)),o 24 (.bin .and (.t 23) (.c (.i .u8 (.l 1)))),o 25 (.bin .eq (.t 24) (.c (.i .u8 (.l 1))))] [7,18,19,20,21,22,23,24]) (.cond (.t 25) (.seq (.reg [o 26 (.mv (.t 8)),o 6 (.mv (.t 26))] [8,26]) (.exit 0)) .skip)))) (.reg [o 27 (.bin .add (.t 13) (z 1)),o 13 (.mv (.t 27))] [27]))))))) (.seq (.reg [o 29 (.mv (.t 1)),o 30 (.mv (.t 6)),o 31 (f 92 [(.t 29),(.t 30)]),o 28 (.mv (.t 31)),o 32 (.ext (.t 28) 0),o 33 (.ext (.t 28) 1),o 34 (.ext (.t 28) 2),o 9 (.mv (.t 32)),o 10 (.mv (.t 33)),o 5 (.mv (.t 34))] [1,28,29,30,31,32,33,34]) (.seq (.seq (.reg [o 35 (.mv (.t 5)),o 36 (.bin .ne (.t 35) (z 0))] [35]) (.cond (.t 36) (.seq (.reg [o 37 (.load true 6 (.t 4)),o 38 (.mv (.t 5)),u (.store 6 (.t 4) (.t 37)),o 5 (.mv (.t 38))] [37,38]) .ret) .skip)) (.seq (.seq (.reg [o 39 (.mv (.t 6))] []) (.block 2 (.seq (.reg [o 54 (.bin .eq (.t 39) (z 7)),o 53 (.mv (.t 54))] [54]) (.cond (.t 53) (.seq (.reg [o 55 (.mv (.t 10)),o 56 (.fad 5 (.t 4)),u (.store 1 (.t 56) (.t 55))] [10,55,56]) (.reg [o 58 (.load true 2 (.t 2)),o 59 (.mv (.t 9)),o 60 (f 93 [(.t 58),(.t 59)]),o 57 (.mv (.t 60)),o 61 (.ext (.t 57) 0),o 62 (.ext (.t 57) 1),o 63 (.fad 0 (.t 4)),u (.store 2 (.t 63) (.t 61)),o 5 (.mv (.t 62))] [2,9,57,58,59,60,61,62,63])) (.seq (.reg [o 65 (.bin .eq (.t 39) (z 5)),o 64 (.mv (.t 65))] [39,65]) (.cond (.t 64) (.reg [o 66 (.mv (.t 9)),o 67 (.mv (.t 10)),o 68 (.fad 2 (.t 4)),u (.store 1 (.t 68) (.c .tt)),o 69 (.fad 4 (.t 4)),u (.store 1 (.t 69) (.t 66)),o 70 (.fad 5 (.t 4)),u (.store 1 (.t 70) (.t 67))] [9,10,66,67,68,69,70]) (.seq (.reg [o 40 (.mv (.t 6)),o 41 (.bin .eq (.t 40) (z 6)),o 42 (.fad 3 (.t 4)),u (.store 1 (.t 42) (.t 41))] [6,40,41,42]) (.reg [o 44 (.load true 2 (.t 2)),o 45 (.mv (.t 9)),o 46 (.mv (.t 10)),o 47 (f 94 [(.t 44),(.t 45),(.t 46)]),o 43 (.mv (.t 47)),o 48 (.ext (.t 43) 0),o 49 (.ext (.t 43) 1),o 50 (.ext (.t 43) 2),o 51 (.fad 0 (.t 4)),u (.store 2 (.t 51) (.t 48)),o 52 (.fad 5 (.t 4)),u (.store 1 (.t 52) (.t 49)),o 5 (.mv (.t 50))] [2,9,10,43,44,45,46,47,48,49,50,51,52])))))))) (.seq (.reg [o 71 (.load true 6 (.t 4)),o 72 (.mv (.t 5)),u (.store 6 (.t 4) (.t 71)),o 5 (.mv (.t 72))] [71,72]) .ret)))))))
theorem qzd : FnIs Tryz.prog 71 73 [.c 4 true 6, .t 5] qzagi :=
  ⟨Tryz.f71, _, qyr, Tryz.func71, rfl, rfl, by kernel_rfl, by kernel_rfl, Tryz.call71⟩
def qfj : Nat → List Nat := kk [[4,5],[1,9,10,11,12,13,14,15,16,17,18],[19],[0,7,21,22,23,24],[6,8,25,26]]
def qgx : IR :=
 (.seq (.reg [o 4 (.mv (z 0)),o 5 (.mv (z 0))] [4,5]) (.seq (.reg [o 10 (.mv (.t 0)),o 11 (.nilc (.t 10)),o 12 (.fad 0 (.t 11)),o 13 (.load false 1 (.t 12)),o 14 (.mv (.t 1)),o 15 (f 95 [(.t 13),(.t 14)]),o 9 (.mv (.t 15)),o 16 (.ext (.t 9) 0),o 17 (.ext (.t 9) 1),o 18 (.ext (.t 9) 2),o 6 (.mv (.t 16)),o 7 (.mv (.t 17)),o 8 (.mv (.t 18))] [1,9,10,11,12,13,14,15,16,17,18]) (.seq (.seq (.reg [o 19 (.mv (.t 8)),o 20 (.bin .eq (.t 19) (z 0))] [19]) (.cond (.t 20) (.reg [o 21 (.mv (.t 0)),o 22 (.mv (.t 7)),o 23 (.nilc (.t 21)),o 24 (.fad 0 (.t 23)),u (.store 1 (.t 24) (.t 22))] [0,7,21,22,23,24]) .skip)) (.seq (.reg [o 25 (.mv (.t 6)),o 26 (.mv (.t 8)),o 4 (.mv (.t 25)),o 5 (.mv (.t 26))] [6,8,25,26]) .ret))))
theorem qac : FnIs Tryz.prog 72 27 [.t 4, .t 5] qgx :=
  ⟨Tryz.f72, _, qfj, Tryz.func72, rfl, rfl, by kernel_rfl, by kernel_rfl, Tryz.call72⟩
def qge : Nat → List Nat := kk [[1],[4,5,6],[7,8,9,10,11,12,13,14,15,16],[17,18,19,20],[22,23,24,25],[26,27,28,29,30],[0,3,32,33,34,35,36,37,38,39,40,41,42,43]]
def qba : List (Nat × List Nat) := [(0,[]),(1,[]),(2,[]),(3,[]),(4,[]),(5,[]),(6,[4]),(7,[]),(8,[]),(9,[]),(10,[])]
def qaz : List (Nat × List Nat) := [(0,[]),(1,[]),(2,[]),(3,[]),(4,[]),(5,[]),(6,[]),(7,[5]),(8,[]),(9,[]),(10,[]),(11,[]),(12,[])]
def qip : IR :=
 (.seq (.reg [o 3 (.box (.t 1))] [1]) (.seq (.reg [o 4 (.mv (.t 0)),o 5 (.nilc (.t 4)),o 6 (.fad 6 (.t 5)),u (.store 1 (.t 6) (.c .tt))] [4,5,6]) (.seq (.draw [o 7 (.mv (.t 0)),o 8 (.mv (.t 0)),o 9 (.nilc (.t 8)),o 10 (.fad 5 (.t 9)),o 11 (.load false 1 (.t 10)),o 12 (.load true 2 (.t 3)),o 13 (f 58 [(.t 12)]),o 14 (.bin .add (.t 11) (.t 13)),o 15 (.nilc (.t 7)),o 16 (.fad 5 (.t 15)),u (.store 1 (.t 16) (.t 14))] [[],[],[1],[2],[3],[],[5],[4,6],[0,0,1,2,3,4,5,6,7],[8,0,1,2,3,4,5,6,7],[9,7,6,0,1,2,3,4,5,6,7]] [7,8,9,10,11,12,13,14,15,16]) (.seq (.seq (.reg [o 17 (.mv (.t 0)),o 18 (.nilc (.t 17)),o 19 (.fad 5 (.t 18)),o 20 (.load false 1 (.t 19)),o 21 (.bin .gt (.t 20) (z 2000))] [17,18,19,20]) (.cond (.t 21) (.reg [o 22 (.mv (.t 0)),o 23 (.nilc (.t 22)),o 24 (.fad 1 (.t 23)),o 25 (.fad 1 (.t 24)),u (.store 1 (.t 25) (.c .tt))] [22,23,24,25]) .skip)) (.seq (.reg [o 26 (.mv (.t 0)),o 27 (.nilc (.t 26)),o 28 (.fad 1 (.t 27)),o 29 (.fad 1 (.t 28)),o 30 (.load false 1 (.t 29)),o 31 (.not (.t 30))] [26,27,28,29,30]) (.cond (.t 31) (.draw [o 32 (.mv (.t 0)),o 33 (.mv (.t 0)),o 34 (.nilc (.t 33)),o 35 (.fad 1 (.t 34)),o 36 (.fad 0 (.t 35)),o 37 (.load false 1 (.t 36)),o 38 (.load true 2 (.t 3)),o 39 (.buildS 2 1 [(.s []),(.s [])] [(0,(.t 38))]),o 40 (.app 2 (.t 37) (.t 39)),o 41 (.nilc (.t 32)),o 42 (.fad 1 (.t 41)),o 43 (.fad 0 (.t 42)),u (.store 1 (.t 43) (.t 40))] [[],[],[1],[2],[3],[4],[],[6],[5,7],[0,0,1,2,3,4,5,6,7,8],[9,0,1,2,3,4,5,6,7,8],[10,0,1,2,3,4,5,6,7,8],[11,8,8,0,1,2,3,4,5,6,7,8]] [0,3,32,33,34,35,36,37,38,39,40,41,42,43]) .skip))))))
theorem qbe : FnIs Tryz.prog 73 44 [] qip :=
  ⟨Tryz.f73, _, qge, Tryz.func73, rfl, rfl, by kernel_rfl, by kernel_rfl, Tryz.call73⟩
def qey : Nat → List Nat := kk [[6],[1,10,11,12,13,14,15],[16],[8,18],[],[19],[7,21,22,23,24,25,26,27,28,29,30],[31,32,33,34,35,36],[37],[8,39],[40,41,42,43,44,45],[46],[8,48],[49,50,51],[2],[0,9,53,54,55,56,57,58,59,60,61,62,63,64,65,66]]
def qcl : List (Nat × List Nat) := [(0,[]),(1,[]),(2,[]),(3,[]),(4,[]),(5,[]),(6,[]),(7,[]),(8,[]),(9,[]),(10,[]),(11,[]),(12,[]),(13,[]),(14,[])]
def qgm : IR :=
 (.seq (.reg [o 6 (.mv (z 0))] [6]) (.seq (.reg [o 11 (.mv (.t 0)),o 12 (.mv (.t 1)),o 13 (f 72 [(.t 11),(.t 12)]),o 10 (.mv (.t 13)),o 14 (.ext (.t 10) 0),o 15 (.ext (.t 10) 1),o 7 (.mv (.t 14)),o 8 (.mv (.t 15))] [1,10,11,12,13,14,15]) (.seq (.seq (.reg [o 16 (.mv (.t 8)),o 17 (.bin .ne (.t 16) (z 0))] [16]) (.cond (.t 17) (.seq (.reg [o 18 (.mv (.t 8)),o 6 (.mv (.t 18))] [8,18]) .ret) .skip)) (.seq (.reg [o 9 (.alloc [(.s []),(.s [])])] []) (.seq (.seq (.reg [o 19 (.mv (.t 7)),o 20 (.bin .gt (.t 19) (z 0))] [19]) (.cond (.t 20) (.reg [o 22 (.mv (.t 0)),o 23 (.nilc (.t 22)),o 24 (.fad 1 (.t 23)),o 25 (.fad 2 (.t 24)),o 26 (.load true 2 (.t 25)),o 27 (.mv (.t 7)),o 28 (f 66 [(.t 26),(.t 27)]),o 21 (.mv (.t 28)),o 29 (.ext (.t 21) 0),o 30 (.ext (.t 21) 1),u (.store 2 (.t 9) (.t 29)),o 8 (.mv (.t 30))] [7,21,22,23,24,25,26,27,28,29,30]) (.reg [o 32 (.mv (.t 0)),o 33 (f 96 [(.t 32)]),o 31 (.mv (.t 33)),o 34 (.ext (.t 31) 0),o 35 (.ext (.t 31) 1),o 36 (.fad 0 (.t 9)),u (.store 1 (.t 36) (.t 34)),o 8 (.mv (.t 35))] [31,32,33,34,35,36]))) (.seq (.seq (.reg [o 37 (.mv (.t 8)),o 38 (.bin .ne (.t 37) (z 0))] [37]) (.cond (.t 38) (.seq (.reg [o 39 (.mv (.t 8)),o 6 (.mv (.t 39))] [8,39]) .ret) .skip)) (.seq (.reg [o 41 (.mv (.t 0)),o 42 (f 96 [(.t 41)]),o 40 (.mv (.t 42)),o 43 (.ext (.t 40) 0),o 44 (.ext (.t 40) 1),o 45 (.fad 1 (.t 9)),u (.store 1 (.t 45) (.t 43)),o 8 (.mv (.t 44))] [40,41,42,43,44,45]) (.seq (.seq (.reg [o 46 (.mv (.t 8)),o 47 (.bin .ne (.t 46) (z 0))] [46]) (.cond (.t 47) (.seq (.reg [o 48 (.mv (.t 8)),o 6 (.mv (.t 48))] [8,48]) .ret) .skip)) (.seq (.reg [o 49 (.mv (.t 0)),o 50 (.load true 2 (.t 9)),o 51 (f 73 [(.t 49),(.t 50)])] [49,50,51]) (.seq (.seq (.reg [o 52 (.mv (.t 2))] [2]) (.cond (.t 52) (.draw [o 54 (.mv (.t 0)),o 55 (.mv (.t 0)),o 56 (.nilc (.t 55)),o 57 (.fad 1 (.t 56)),o 58 (.fad 2 (.t 57)),o 59 (.load true 2 (.t 58)),o 60 (.load true 2 (.t 9)),o 61 (f 44 [(.t 59),(.t 60)]),o 53 (.mv (.t 61)),o 62 (.ext (.t 53) 0),o 63 (.ext (.t 53) 1),o 64 (.nilc (.t 54)),o 65 (.fad 1 (.t 64)),o 66 (.fad 2 (.t 65)),u (.store 2 (.t 66) (.t 62))] [[],[],[1],[2],[3],[4],[],[5,6],[7],[8],[8],[0,0,1,2,3,4,5,6,7,8,9],[11,0,1,2,3,4,5,6,7,8,9],[12,0,1,2,3,4,5,6,7,8,9],[13,9,7,0,1,2,3,4,5,6,7,8,9]] [0,9,53,54,55,56,57,58,59,60,61,62,63,64,65,66]) .skip)) (.seq (.reg [o 6 (.mv (z 0))] []) .ret)))))))))))
theorem qaf : FnIs Tryz.prog 74 67 [.t 6] qgm :=
  ⟨Tryz.f74, _, qey, Tryz.func74, rfl, rfl, by kernel_rfl, by kernel_rfl, Tryz.call74⟩
def qfi : Nat → List Nat := kk [[4],[7,8,9,10,11],[12],[6,14],[1,15,16,17,18,19,20,21,22],[],[0,5,24,25,26,27,28,29,30,31,32,33,34,35,36,37]]
def qgw : IR :=
 (.seq (.reg [o 4 (.mv (z 0))] [4]) (.seq (.reg [o 8 (.mv (.t 0)),o 9 (f 72 [(.t 8),(z 5)]),o 7 (.mv (.t 9)),o 10 (.ext (.t 7) 0),o 11 (.ext (.t 7) 1),o 5 (.mv (.t 10)),o 6 (.mv (.t 11))] [7,8,9,10,11]) (.seq (.seq (.reg [o 12 (.mv (.t 6)),o 13 (.bin .ne (.t 12) (z 0))] [12]) (.cond (.t 13) (.seq (.reg [o 14 (.mv (.t 6)),o 4 (.mv (.t 14))] [6,14]) .ret) .skip)) (.seq (.seq (.reg [o 15 (.mv (.t 0)),o 16 (.nilc (.t 15)),o 17 (.fad 6 (.t 16)),o 18 (.load false 1 (.t 17)),o 19 (.mv (.t 18)),q 20 (.mv (.t 5)) 19 false,q 21 (.mv (.t 1)) 19 false,q 22 (.bin .gt (.t 20) (.t 21)) 19 false,o 23 (.pick (.t 19) (.c .tt) (.t 22))] [1,15,16,17,18,19,20,21,22]) (.cond (.t 23) (.seq (.reg [o 4 (.mv (z 100))] []) .ret) .skip)) (.seq (.reg [o 25 (.mv (.t 0)),o 26 (.mv (.t 0)),o 27 (.nilc (.t 26)),o 28 (.fad 1 (.t 27)),o 29 (.fad 2 (.t 28)),o 30 (.load true 2 (.t 29)),o 31 (.mv (.t 5)),o 32 (f 42 [(.t 30),(.t 31)]),o 24 (.mv (.t 32)),o 33 (.ext (.t 24) 0),o 34 (.ext (.t 24) 1),o 35 (.nilc (.t 25)),o 36 (.fad 1 (.t 35)),o 37 (.fad 2 (.t 36)),u (.store 2 (.t 37) (.t 33))] [0,5,24,25,26,27,28,29,30,31,32,33,34,35,36,37]) (.seq (.reg [o 4 (.mv (z 0))] []) .ret))))))
theorem qbi : FnIs Tryz.prog 75 38 [.t 4] qgw :=
  ⟨Tryz.f75, _, qfi, Tryz.func75, rfl, rfl, by kernel_rfl, by kernel_rfl, Tryz.call75⟩
def qzacd : Nat → List Nat := kk [[],[11,12,13,14,15,16,17,18,19,20,21],[],[1,23,24,25],[2,26,27,28,29],[30,31],[0,9,33,34,35,36,37],[9,38,39,40,41,42,43,44],[0,8,45,46,47,48],[50],[6,10,51,52,53,54],[55]]
def prefix_Put : IR :=
 (.seq (.reg [o 6 (.alloc [(.re (.slice none 0 0))]),o 7 (.mv (z 0))] []) (.seq (.seq (.reg [o 11 (.mv (.t 1)),o 12 (f 97 [(.t 11)]),o 13 (.not (.t 12)),o 14 (.mv (.t 13)),q 15 (.mv (.t 0)) 14 false,q 16 (.bin .lt (.t 15) (z 0)) 14 false,o 17 (.pick (.t 14) (.c .tt) (.t 16)),o 18 (.mv (.t 17)),q 19 (.mv (.t 0)) 18 false,q 20 (.bin .shr (.t 19) (.c (.i .u64 (.l 31)))) 18 false,q 21 (.bin .ne (.t 20) (z 0)) 18 false,o 22 (.pick (.t 18) (.c .tt) (.t 21))] [11,12,13,14,15,16,17,18,19,20,21]) (.cond (.t 22) (.seq (.reg [u (.store 1 (.t 6) (.c (.re (.slice none 0 0)))),o 7 (.mv (z 2))] []) .ret) .skip)) (.seq (.reg [o 23 (.mv (.t 1)),o 24 (.bin .shl (z 1) (.t 23)),o 25 (.bin .sub (.t 24) (z 1)),o 8 (.mv (.t 25))] [1,23,24,25]) (.seq (.reg [o 26 (.mv (.t 2)),o 27 (.mv (.t 8)),o 28 (.cv .u8 (.t 27)),o 29 (.bin .andn (.t 26) (.t 28)),o 9 (.mv (.t 29))] [2,26,27,28,29]) (.seq (.seq (.reg [o 30 (.mv (.t 0)),o 31 (.mv (.t 8)),o 32 (.bin .lt (.t 30) (.t 31))] [30,31]) (.cond (.t 32) (.seq (.reg [o 33 (.mv (.t 9)),o 34 (.mv (.t 0)),o 35 (.cv .u8 (.t 34)),o 36 (.bin .or (.t 33) (.t 35)),o 37 (.buildS 1 1 [(.i .u8 (.l 0))] [(0,(.t 36))]),u (.store 1 (.t 6) (.t 37)),o 7 (.mv (z 0))] [0,9,33,34,35,36,37]) .ret) .skip)) (.seq (.reg [o 38 (.load false 1 (.t 6)),o 39 (.mv (.t 9)),o 40 (.mv (.t 8)),o 41 (.cv .u8 (.t 40)),o 42 (.bin .or (.t 39) (.t 41)),o 43 (.buildS 1 1 [(.i .u8 (.l 0))] [(0,(.t 42))]),o 44 (.app 1 (.t 38) (.t 43)),u (.store 1 (.t 6) (.t 44))] [9,38,39,40,41,42,43,44]) (.seq (.seq (.reg [o 45 (.mv (.t 0)),o 46 (.mv (.t 8)),o 47 (.bin .sub (.t 45) (.t 46)),o 48 (.cv .u32 (.t 47)),o 49 (f 98 [(.t 48)])] [0,8,45,46,47,48]) (.block 0 (.rf (.t 49) [50] (.reg [o 10 (.mv (.t 50))] [50]) (.block 1 (.reg [o 51 (.load false 1 (.t 6)),o 52 (.mv (.t 10)),o 53 (.buildS 1 1 [(.i .u8 (.l 0))] [(0,(.t 52))]),o 54 (.app 1 (.t 51) (.t 53)),u (.store 1 (.t 6) (.t 54))] [6,10,51,52,53,54]))))) (.seq (.reg [o 55 (.load false 1 (.t 6)),u (.store 1 (.t 6) (.t 55)),o 7 (.mv (z 0))] [55]) .ret))))))))
theorem qrb : FnIs Tryz.prog 76 56 [.c 6 false 1, .t 7] prefix_Put :=
  ⟨Tryz.f76, _, qzacd, Tryz.func76, rfl, rfl, by kernel_rfl, by kernel_rfl, Tryz.call76⟩
def qqt : Nat → List Nat := kk [[4],[0,1,5,6,7,8,9,10,11,12,13,14,15,16,17,18]]
def qxy : IR :=
 (.seq (.reg [o 4 (.mv (.c .ff))] [4]) (.seq (.reg [o 5 (.mv (.t 1)),o 6 (.bin .ge (.t 5) (z 1)),o 7 (.mv (.t 6)),q 8 (.mv (.t 1)) 7 true,q 9 (.bin .le (.t 8) (z 8)) 7 true,o 10 (.pick (.t 7) (.t 9) (.c .ff)),o 11 (.mv (.t 10)),q 12 (.mv (.t 0)) 11 true,q 13 (.bin .ge (.t 12) (z 0)) 11 true,o 14 (.pick (.t 11) (.t 13) (.c .ff)),o 15 (.mv (.t 14)),q 16 (.mv (.t 0)) 15 true,q 17 (.bin .lt (.t 16) (z 2147483648)) 15 true,o 18 (.pick (.t 15) (.t 17) (.c .ff)),o 4 (.mv (.t 18))] [0,1,5,6,7,8,9,10,11,12,13,14,15,16,17,18]) .ret))
theorem qhf : FnIs Tryz.prog 77 19 [.t 4] qxy :=
  ⟨Tryz.f77, _, qqt, Tryz.func77, rfl, rfl, by kernel_rfl, by kernel_rfl, Tryz.call77⟩
def qox : Nat → List Nat := kk [[2],[0,3,4,5,6]]
def qup : IR :=
 (.seq (.reg [o 2 (.mv (z 0))] [2]) (.seq (.reg [o 3 (.mv (.t 0)),o 4 (.cv .u64 (.t 3)),o 5 (.bin .shl (z 1) (.t 4)),o 6 (.bin .sub (.t 5) (z 1)),o 2 (.mv (.t 6))] [0,3,4,5,6]) .ret))
theorem qgj : FnIs Tryz.prog 78 7 [.t 2] qup :=
  ⟨Tryz.f78, _, qox, Tryz.func78, rfl, rfl, by kernel_rfl, by kernel_rfl, Tryz.call78⟩
def qyq : Nat → List Nat := kk [[0],[1,2,3,4,5,6]]
def qry : Spl := (.node 3 6
  (.leaf [(1,[]),(2,[]),(4,[]),(5,[]),(0,[]),(3,[]),(6,[]),(7,[]),(8,[])])
  (.leaf [(1,[]),(2,[]),(4,[]),(5,[]),(0,[]),(6,[]),(3,[]),(7,[]),(8,[])]))
def qzagh : IR :=
 (.seq (.reg [o 0 (.mv (.c (.re (.map none))))] [0]) (.seq (.draw [o 1 .mkM,o 2 (.build [(.i .i64 (.l 0))] [(0,1,(z 1))]),o 3 (.build [(.i .i64 (.l 0)),(.i .i64 (.l 0))] [(0,1,(z 64)),(1,1,(z 6))]),u (.mupd ⟨true,[.ki]⟩ (.t 1) (.t 2) (.t 3)),o 4 (.build [(.i .i64 (.l 0))] [(0,1,(z 2))]),o 5 (.build [(.i .i64 (.l 0)),(.i .i64 (.l 0))] [(0,1,(z 16)),(1,1,(z 4))]),u (.mupd ⟨true,[.ki]⟩ (.t 1) (.t 4) (.t 5)),o 6 (.mv (.t 1)),o 0 (.mv (.t 6))] [[],[],[],[0,1,2],[],[],[0,4,5],[0,1,2,3,4,5,6],[7,0,1,2,3,4,5,6,7]] [1,2,3,4,5,6]) .ret))
theorem qzc : FnIs Tryz.prog 79 7 [.t 0] qzagh :=
  ⟨Tryz.f79, _, qyq, Tryz.func79, rfl, rfl, by kernel_rfl, by kernel_rfl, Tryz.call79⟩
def qzabz : Nat → List Nat := kk [[0]]
def text_plain : IR :=
 (.seq (.reg [o 0 (.mv (.c (.re .nilFunc)))] [0]) (.seq (.reg [o 0 (.mv (.c (.fn (.func 99) [] [])))] []) .ret))
theorem qzacj : FnIs Tryz.prog 80 1 [.t 0] text_plain :=
  ⟨Tryz.f80, _, qzabz, Tryz.func80, rfl, rfl, by kernel_rfl, by kernel_rfl, Tryz.call80⟩
def qwx : Nat → List Nat := kk [[2],[0,3,4,5,6,7,8,9]]
def qzafg : IR :=
 (.seq (.reg [o 2 (.mv (.c .ff))] [2]) (.seq (.reg [o 3 (.mv (.t 0)),o 4 (f 100 [(.t 3)]),o 5 (.bin .add (.t 4) (z 7)),o 6 (.bin .shr (.t 5) (.c (.i .u64 (.l 3)))),o 7 (.mv (.t 0)),o 8 (.len false (.t 7)),o 9 (.bin .lt (.t 6) (.t 8)),o 2 (.mv (.t 9))] [0,3,4,5,6,7,8,9]) .ret))
theorem qxk : FnIs Tryz.prog 81 10 [.t 2] qzafg :=
  ⟨Tryz.f81, _, qwx, Tryz.func81, rfl, rfl, by kernel_rfl, by kernel_rfl, Tryz.call81⟩
def qyv : Nat → List Nat := kk [[0]]
def qzagm : IR :=
 (.seq (.reg [o 0 (.mv (.c (.re .nilFunc)))] [0]) (.seq (.reg [o 0 (.mv (.c (.fn (.func 101) [] [])))] []) .ret))
theorem qzg : FnIs Tryz.prog 82 1 [.t 0] qzagm :=
  ⟨Tryz.f82, _, qyv, Tryz.func82, rfl, rfl, by kernel_rfl, by kernel_rfl, Tryz.call82⟩
def qzahh : Nat → List Nat := kk [[],[0,1,6,7],[9],[4,5,10,11,12],[13]]
def text_all : IR :=
 (.seq (.reg [o 4 (.alloc [(.re (.slice none 0 0))])] []) (.seq (.seq (.reg [o 6 (.mv (.t 0)),o 7 (.mv (.t 1)),o 8 (f 103 [(.t 6),(.t 7)])] [0,1,6,7]) (.block 0 (.rf (.t 8) [9] (.reg [o 5 (.mv (.t 9))] [9]) (.block 1 (.reg [o 10 (.load false 1 (.t 4)),o 11 (.mv (.t 5)),o 12 (.app 1 (.t 10) (.t 11)),u (.store 1 (.t 4) (.t 12))] [4,5,10,11,12]))))) (.seq (.reg [o 13 (.load false 1 (.t 4)),u (.store 1 (.t 4) (.t 13))] [13]) .ret)))
theorem qxg : FnIs Tryz.prog 83 14 [.c 4 false 1] text_all :=
  ⟨Tryz.f83, _, qzahh, Tryz.func83, rfl, rfl, by kernel_rfl, by kernel_rfl, Tryz.call83⟩
def qkc : Nat → List Nat := kk [[2],[0,3,4,5,6,7,8,9]]
def qqa : IR :=
 (.seq (.reg [o 2 (.mv (.c .ff))] [2]) (.seq (.reg [o 3 (.mv (.t 0)),o 4 (f 104 [(.t 3)]),o 5 (.bin .add (.t 4) (z 7)),o 6 (.bin .quo (.t 5) (z 8)),o 7 (.mv (.t 0)),o 8 (.len false (.t 7)),o 9 (.bin .lt (.t 6) (.t 8)),o 2 (.mv (.t 9))] [0,3,4,5,6,7,8,9]) .ret))
theorem qke : FnIs Tryz.prog 84 10 [.t 2] qqa :=
  ⟨Tryz.f84, _, qkc, Tryz.func84, rfl, rfl, by kernel_rfl, by kernel_rfl, Tryz.call84⟩
def qor : Nat → List Nat := kk [[2],[0,6,7,8],[5,9,10,11,12,13,14],[3,4,15,16,17]]
def qui : IR :=
 (.seq (.reg [o 2 (.mv (.c (.re (.slice none 0 0))))] [2]) (.seq (.reg [o 6 (.mv (.t 0)),o 7 (.cvSB (.t 6)),o 8 (f 105 [(.t 7)]),o 3 (.mv (.t 8))] [0,6,7,8]) (.seq (.reg [o 10 (.mv (.t 3)),o 11 (.len false (.t 10)),o 12 (f 52 [(.t 11),(z 7),(.c (.i .u8 (.l 128)))]),o 9 (.mv (.t 12)),o 13 (.ext (.t 9) 0),o 14 (.ext (.t 9) 1),o 4 (.mv (.t 13)),o 5 (.mv (.t 14))] [5,9,10,11,12,13,14]) (.seq (.reg [o 15 (.mv (.t 4)),o 16 (.mv (.t 3)),o 17 (.app 1 (.t 15) (.t 16)),o 2 (.mv (.t 17))] [3,4,15,16,17]) .ret))))
theorem qpl : FnIs Tryz.prog 85 18 [.t 2] qui :=
  ⟨Tryz.f85, _, qor, Tryz.func85, rfl, rfl, by kernel_rfl, by kernel_rfl, Tryz.call85⟩
def qnk : Nat → List Nat := kk [[2],[4,5,6,7,8,9,10],[0,3,11,12,13]]
def qtk : IR :=
 (.seq (.reg [o 2 (.mv (.c (.re (.slice none 0 0))))] [2]) (.seq (.reg [o 6 (.mv (.t 0)),o 7 (.len true (.t 6)),o 8 (f 52 [(.t 7),(z 7),(.c (.i .u8 (.l 0)))]),o 5 (.mv (.t 8)),o 9 (.ext (.t 5) 0),o 10 (.ext (.t 5) 1),o 3 (.mv (.t 9)),o 4 (.mv (.t 10))] [4,5,6,7,8,9,10]) (.seq (.reg [o 11 (.mv (.t 3)),o 12 (.mv (.t 0)),o 13 (.app 1 (.t 11) (.t 12)),o 2 (.mv (.t 13))] [0,3,11,12,13]) .ret)))
theorem qns : FnIs Tryz.prog 86 14 [.t 2] qtk :=
  ⟨Tryz.f86, _, qnk, Tryz.func86, rfl, rfl, by kernel_rfl, by kernel_rfl, Tryz.call86⟩
def qgc : Nat → List Nat := kk [[4],[5],[7],[8,9,10,11,12,13,14],[15],[1,17,18,19,20,21,22,23,24,25],[0,26]]
def qhv : IR :=
 (.seq (.reg [o 4 (.mv (.c (.re (.slice none 0 0))))] [4]) (.seq (.seq (.reg [o 5 (.mv (.t 1)),o 6 (.bin .lt (.t 5) (z 0))] [5]) (.cond (.t 6) (.reg [o 7 .die,u .die] [7]) .skip)) (.seq (.seq (.reg [o 8 (.mv (.t 1)),o 9 (.mv (.t 0)),o 10 (.capS (.t 9)),o 11 (.mv (.t 0)),o 12 (.len false (.t 11)),o 13 (.bin .sub (.t 10) (.t 12)),o 14 (.bin .sub (.t 8) (.t 13)),o 1 (.mv (.t 14))] [8,9,10,11,12,13,14]) (.seq (.reg [o 15 (.mv (.t 1)),o 16 (.bin .gt (.t 15) (z 0))] [15]) (.cond (.t 16) (.reg [o 17 (.mv (.t 0)),o 18 (.mv (.t 0)),o 19 (.capS (.t 18)),o 20 (.slc 1 (.t 17) none (some (.t 19)) none),o 21 (.mv (.t 1)),o 22 (.appZ 1 [(.i .u8 (.l 0))] (.t 20) (.t 21)),o 23 (.mv (.t 0)),o 24 (.len false (.t 23)),o 25 (.slc 1 (.t 22) none (some (.t 24)) none),o 0 (.mv (.t 25))] [1,17,18,19,20,21,22,23,24,25]) .skip))) (.seq (.reg [o 26 (.mv (.t 0)),o 4 (.mv (.t 26))] [0,26]) .ret))))
theorem qgh : FnIs Tryz.prog 87 27 [.t 4] qhv :=
  ⟨Tryz.f87, _, qgc, Tryz.func87, rfl, rfl, by kernel_rfl, by kernel_rfl, Tryz.call87⟩
def qsl : Nat → List Nat := kk [[0],[],[],[11],[12,13],[4,7,14,15,16,17,18,19],[2,3,5,6,20,21,22,23,24,25],[1],[],[31,32],[33,34],[9,35,36,37,38],[40]]
def qmc : List Nat := [0,1,4,5,6,7,8,9,10,11,12,13,14,15,16,17,18,19,20,21,22,23,24,25,26,30,31,32,33,34,35,36,37,38,39,40]
def qyj : IR :=
 (.seq (.reg [o 2 (.box (.t 0))] [0]) (.seq (.reg [o 3 (.alloc [(.i .i64 (.l 0))]),u (.store 1 (.t 3) (z 0))] []) (.seq (.seq (.reg [o 10 (f 89 [(.c (.s [58,109,101,116,104,111,100,32,71,69,84,10,58,109,101,116,104,111,100,32,80,79,83,84,10,58,112,97,116,104,32,47,10,58,115,99,104,101,109,101,32,104,116,116,112,10,58,115,99,104,101,109,101,32,104,116,116,112,115,10,58,115,116,97,116,117,115,32,50,48,48,10,58,115,116,97,116,117,115,32,50,48,52,10,58,115,116,97,116,117,115,32,52,48,52,10,58,115,116,97,116,117,115,32,53,48,48,10,97,99,99,101,112,116,10,99,111,110,116,101,110,116,45,108,101,110,103,116,104,10,99,111,110,116,101,110,116,45,116,121,112,101,10,99,111,111,107,105,101,10,100,97,116,101,10,104,111,115,116,10,108,111,99,97,116,105,111,110,10,112,114,105,111,114,105,116,121,10,112,114,105,111,114,105,116,121,32,117,61,49,10,115,101,114,118,101,114,10,117,115,101,114,45,97,103,101,110,116])),(.c (.s [10]))])] []) (.block 0 (.rf (.t 10) [11] (.reg [o 4 (.mv (.t 11))] [11]) (.block 1 (.seq (.reg [o 12 (.load false 1 (.t 3)),o 13 (.bin .add (.t 12) (z 1)),u (.store 1 (.t 3) (.t 13))] [12,13]) (.seq (.reg [o 15 (.mv (.t 4)),o 16 (f 90 [(.t 15),(.c (.s [32]))]),o 14 (.mv (.t 16)),o 17 (.ext (.t 14) 0),o 18 (.ext (.t 14) 1),o 19 (.ext (.t 14) 2),o 5 (.mv (.t 17)),o 6 (.mv (.t 18)),o 7 (.mv (.t 19))] [4,7,14,15,16,17,18,19]) (.seq (.reg [o 20 (.load false 1 (.t 2)),o 21 (.load false 1 (.t 3)),o 22 (.mv (.t 5)),o 23 (.mv (.t 6)),o 24 (.build [(.s []),(.s [])] [(0,1,(.t 22)),(1,1,(.t 23))]),o 25 (.call (.t 20) [(.t 21),(.t 24)]),o 26 (.not (.t 25))] [2,3,5,6,20,21,22,23,24,25]) (.cond (.t 26) .ret .skip)))))))) (.seq (.reg [o 27 (.load false 1 (.t 1)),o 28 (.len false (.t 27)),o 29 (.mv (z 0))] [1]) (.block 2 (.loop (.seq (.reg [o 30 (.bin .lt (.t 29) (.t 28))] []) (.seq (.cond (.t 30) .skip (.exit 2)) (.seq (.block 3 (.seq (.reg [o 31 (.iadS 2 (.t 27) (.t 29)),o 32 (.load true 2 (.t 31)),o 9 (.alloc [(.s []),(.s [])]),u (.store 2 (.t 9) (.t 32))] [31,32]) (.seq (.reg [o 33 (.load false 1 (.t 3)),o 34 (.bin .add (.t 33) (z 1)),u (.store 1 (.t 3) (.t 34))] [33,34]) (.seq (.reg [o 35 (.load false 1 (.t 2)),o 36 (.load false 1 (.t 3)),o 37 (.load true 2 (.t 9)),o 38 (.call (.t 35) [(.t 36),(.t 37)]),o 39 (.not (.t 38))] [9,35,36,37,38]) (.cond (.t 39) .ret .skip))))) (.reg [o 40 (.bin .add (.t 29) (z 1)),o 29 (.mv (.t 40))] [40]))))))))))
theorem qst : FnIs Tryz.prog 88 41 [] qyj :=
  ⟨Tryz.f88, _, qsl, Tryz.func88, rfl, rfl, by kernel_rfl, by kernel_rfl, Tryz.call88⟩
def qoj : Nat → List Nat := kk [[4],[0,1,5,6,7]]
def qtu : IR :=
 (.seq (.reg [o 4 (.mv (.c (.re .nilFunc)))] [4]) (.seq (.reg [o 5 (.mv (.t 0)),o 6 (.mv (.t 1)),o 7 (f 106 [(.t 5),(.t 6),(z 0)]),o 4 (.mv (.t 7))] [0,1,5,6,7]) .ret))
theorem qpd : FnIs Tryz.prog 89 8 [.t 4] qtu :=
  ⟨Tryz.f89, _, qoj, Tryz.func89, rfl, rfl, by kernel_rfl, by kernel_rfl, Tryz.call89⟩
def qyy : Nat → List Nat := kk [[4,5,6],[0,1,7,8,9,10,11,12]]
def qzags : IR :=
 (.seq (.reg [o 4 (.mv (.c (.s []))),o 5 (.mv (.c (.s []))),o 6 (.mv (.c .ff))] [4,5,6]) (.seq (.reg [o 7 (.mv (.t 0)),o 8 (.mv (.t 1)),o 9 (f 107 [(.t 7),(.t 8)]),o 10 (.ext (.t 9) 0),o 11 (.ext (.t 9) 1),o 12 (.ext (.t 9) 2),o 4 (.mv (.t 10)),o 5 (.mv (.t 11)),o 6 (.mv (.t 12))] [0,1,7,8,9,10,11,12]) .ret))
theorem qzj : FnIs Tryz.prog 90 13 [.t 4, .t 5, .t 6] qzags :=
  ⟨Tryz.f90, _, qyy, Tryz.func90, rfl, rfl, by kernel_rfl, by kernel_rfl, Tryz.call90⟩
def qlj : Nat → List Nat := kk [[3],[5,6,7,8,9,10,11,12,13,14,15,16,17,18,19,20,21,22,23,24,25],[26,27,28,29,30],[32],[0,4,33,34,35,36]]
def qrp : IR :=
 (.seq (.reg [o 2 (.alloc [(.s []),(.s [])]),o 3 (.mv (.c .ff))] [3]) (.seq (.reg [o 5 (.build [(.s []),(.s [])] [(0,1,(.c (.s [58,109,101,116,104,111,100]))),(1,1,(.c (.s [71,69,84])))]),o 6 (.build [(.s []),(.s [])] [(0,1,(.c (.s [58,109,101,116,104,111,100]))),(1,1,(.c (.s [80,79,83,84])))]),o 7 (.build [(.s []),(.s [])] [(0,1,(.c (.s [58,112,97,116,104]))),(1,1,(.c (.s [47])))]),o 8 (.build [(.s []),(.s [])] [(0,1,(.c (.s [58,115,99,104,101,109,101]))),(1,1,(.c (.s [104,116,116,112])))]),o 9 (.build [(.s []),(.s [])] [(0,1,(.c (.s [58,115,99,104,101,109,101]))),(1,1,(.c (.s [104,116,116,112,115])))]),o 10 (.build [(.s []),(.s [])] [(0,1,(.c (.s [58,115,116,97,116,117,115]))),(1,1,(.c (.s [50,48,48])))]),o 11 (.build [(.s []),(.s [])] [(0,1,(.c (.s [58,115,116,97,116,117,115]))),(1,1,(.c (.s [50,48,52])))]),o 12 (.build [(.s []),(.s [])] [(0,1,(.c (.s [58,115,116,97,116,117,115]))),(1,1,(.c (.s [52,48,52])))]),o 13 (.build [(.s []),(.s [])] [(0,1,(.c (.s [58,115,116,97,116,117,115]))),(1,1,(.c (.s [53,48,48])))]),o 14 (.build [(.s []),(.s [])] [(0,1,(.c (.s [97,99,99,101,112,116])))]),o 15 (.build [(.s []),(.s [])] [(0,1,(.c (.s [99,111,110,116,101,110,116,45,108,101,110,103,116,104])))]),o 16 (.build [(.s []),(.s [])] [(0,1,(.c (.s [99,111,110,116,101,110,116,45,116,121,112,101])))]),o 17 (.build [(.s []),(.s [])] [(0,1,(.c (.s [99,111,111,107,105,101])))]),o 18 (.build [(.s []),(.s [])] [(0,1,(.c (.s [100,97,116,101])))]),o 19 (.build [(.s []),(.s [])] [(0,1,(.c (.s [104,111,115,116])))]),o 20 (.build [(.s []),(.s [])] [(0,1,(.c (.s [108,111,99,97,116,105,111,110])))]),o 21 (.build [(.s []),(.s [])] [(0,1,(.c (.s [112,114,105,111,114,105,116,121])))]),o 22 (.build [(.s []),(.s [])] [(0,1,(.c (.s [112,114,105,111,114,105,116,121]))),(1,1,(.c (.s [117,61,49])))]),o 23 (.build [(.s []),(.s [])] [(0,1,(.c (.s [115,101,114,118,101,114])))]),o 24 (.build [(.s []),(.s [])] [(0,1,(.c (.s [117,115,101,114,45,97,103,101,110,116])))]),o 25 (.build [(.s []),(.s []),(.s []),(.s []),(.s []),(.s []),(.s []),(.s []),(.s []),(.s []),(.s []),(.s []),(.s []),(.s []),(.s []),(.s []),(.s []),(.s []),(.s []),(.s []),(.s []),(.s []),(.s []),(.s []),(.s []),(.s []),(.s []),(.s []),(.s []),(.s []),(.s []),(.s []),(.s []),(.s []),(.s []),(.s []),(.s []),(.s []),(.s []),(.s [])] [(0,2,(.t 5)),(2,2,(.t 6)),(4,2,(.t 7)),(6,2,(.t 8)),(8,2,(.t 9)),(10,2,(.t 10)),(12,2,(.t 11)),(14,2,(.t 12)),(16,2,(.t 13)),(18,2,(.t 14)),(20,2,(.t 15)),(22,2,(.t 16)),(24,2,(.t 17)),(26,2,(.t 18)),(28,2,(.t 19)),(30,2,(.t 20)),(32,2,(.t 21)),(34,2,(.t 22)),(36,2,(.t 23)),(38,2,(.t 24))]),o 4 (.alloc [(.s []),(.s []),(.s []),(.s []),(.s []),(.s []),(.s []),(.s []),(.s []),(.s []),(.s []),(.s []),(.s []),(.s []),(.s []),(.s []),(.s []),(.s []),(.s []),(.s []),(.s []),(.s []),(.s []),(.s []),(.s []),(.s []),(.s []),(.s []),(.s []),(.s []),(.s []),(.s []),(.s []),(.s []),(.s []),(.s []),(.s []),(.s []),(.s []),(.s [])]),u (.store 40 (.t 4) (.t 25))]
 [5,6,7,8,9,10,11,12,13,14,15,16,17,18,19,20,21,22,23,24,25]) (.seq (.seq (.reg [o 26 (.mv (.t 0)),o 27 (.bin .lt (.t 26) (z 1)),o 28 (.mv (.t 27)),q 29 (.mv (.t 0)) 28 false,q 30 (.bin .gt (.t 29) (z 20)) 28 false,o 31 (.pick (.t 28) (.c .tt) (.t 30))] [26,27,28,29,30]) (.cond (.t 31) (.seq (.reg [o 32 (.build [(.s []),(.s [])] []),u (.store 2 (.t 2) (.t 32)),o 3 (.mv (.c .ff))] [32]) .ret) .skip)) (.seq (.reg [o 33 (.mv (.t 0)),o 34 (.bin .sub (.t 33) (z 1)),o 35 (.iadA 20 2 (.t 4) (.t 34)),o 36 (.load true 2 (.t 35)),u (.store 2 (.t 2) (.t 36)),o 3 (.mv (.c .tt))] [0,4,33,34,35,36]) .ret))))
theorem qlu : FnIs Tryz.prog 91 37 [.c 2 true 2, .t 3] qrp :=
  ⟨Tryz.f91, _, qlj, Tryz.func91, rfl, rfl, by kernel_rfl, by kernel_rfl, Tryz.call91⟩
def qyz : Nat → List Nat := kk [[4,5,6],[7,8],[],[9,10],[],[12,13],[1,15,16,17],[18,19,20,21,22,23],[7,24,25],[0,27,28,29,30],[],[31,32],[],[33,34,35],[37,38,39,40,41,42,43,44,45,46,47,48],[],[49,50,51,52,53,54],[56,57,58,59,60],[0,8,62,63,64,65,66,67],[68]]
def qrl : List Nat := [1,2,3,5,6,7,9,10,11,12,13,14,15,16,17,18,19,20,21,22,23,24,25,26,27,28,29,30,31,32,33,34,35,36,37,38,39,40,41,42,43,44,45,46,47,48,49,50,51,52,53,54,55,56,57,58,59,60,61,62,63,64,65,66,67,68]
def qzahb : IR :=
 (.seq (.reg [o 4 (.mv (z 0)),o 5 (.mv (.c (.re (.slice none 0 0)))),o 6 (.mv (z 0))] [4,5,6]) (.scope (.seq (.reg [o 7 (.mv (z 0)),o 8 (.mv (z 0))] [7,8]) (.seq (.seq (.reg [o 6 (.mv (z 2))] []) (.seq (.reg [o 9 (.mv (.t 1)),o 10 (f 97 [(.t 9)]),o 11 (.not (.t 10))] [9,10]) (.cond (.t 11) (.goto 0) .skip))) (.seq (.seq (.reg [o 6 (.mv (z 10))] []) (.seq (.reg [o 12 (.mv (.t 0)),o 13 (.len false (.t 12)),o 14 (.bin .eq (.t 13) (z 0))] [12,13]) (.cond (.t 14) (.goto 0) .skip))) (.seq (.reg [o 15 (.mv (.t 1)),o 16 (.bin .shl (z 1) (.t 15)),o 17 (.bin .sub (.t 16) (z 1)),o 7 (.mv (.t 17))] [1,15,16,17]) (.seq (.seq (.reg [o 18 (.mv (.t 0)),o 19 (.iadS 1 (.t 18) (z 0)),o 20 (.load false 1 (.t 19)),o 21 (.cv .i64 (.t 20)),o 22 (.mv (.t 7)),o 23 (.bin .and (.t 21) (.t 22)),o 4 (.mv (.t 23))] [18,19,20,21,22,23]) (.seq (.reg [o 24 (.mv (.t 4)),o 25 (.mv (.t 7)),o 26 (.bin .lt (.t 24) (.t 25))] [7,24,25]) (.cond (.t 26) (.seq (.reg [o 27 (.mv (.t 4)),o 28 (.mv (.t 0)),o 29 (.slc 1 (.t 28) (some (z 1)) none none),o 30 (f 108 [(.t 29)]),o 4 (.mv (.t 27)),o 5 (.mv (.t 30)),o 6 (.mv (z 0))] [0,27,28,29,30]) .ret) .skip))) (.seq (.seq (.reg [o 8 (.mv (z 1))] []) (.block 0 (.loop (.seq (.block 1 (.seq (.seq (.reg [o 6 (.mv (z 10))] []) (.seq (.reg [o 33 (.mv (.t 8)),o 34 (.mv (.t 0)),o 35 (.len false (.t 34)),o 36 (.bin .ge (.t 33) (.t 35))] [33,34,35]) (.cond (.t 36) (.goto 0) .skip))) (.seq (.reg [o 37 (.mv (.t 4)),o 38 (.mv (.t 0)),o 39 (.mv (.t 8)),o 40 (.iadS 1 (.t 38) (.t 39)),o 41 (.load false 1 (.t 40)),o 42 (.bin .and (.t 41) (.c (.i .u8 (.l 127)))),o 43 (.cv .i64 (.t 42)),o 44 (.mv (.t 8)),o 45 (.bin .sub (.t 44) (z 1)),o 46 (.bin .mul (z 7) (.t 45)),o 47 (.bin .shl (.t 43) (.t 46)),o 48 (.bin .add (.t 37) (.t 47)),o 4 (.mv (.t 48))] [37,38,39,40,41,42,43,44,45,46,47,48]) (.seq (.seq (.reg [o 6 (.mv (z 60))] []) (.seq (.reg [o 49 (.mv (.t 8)),o 50 (.bin .gt (.t 49) (z 5)),o 51 (.mv (.t 50)),q 52 (.mv (.t 4)) 51 false,q 53 (.bin .shr (.t 52) (.c (.i .u64 (.l 31)))) 51 false,q 54 (.bin .ne (.t 53) (z 0)) 51 false,o 55 (.pick (.t 51) (.c .tt) (.t 54))] [49,50,51,52,53,54]) (.cond (.t 55) (.goto 0) .skip))) (.seq (.reg [o 56 (.mv (.t 0)),o 57 (.mv (.t 8)),o 58 (.iadS 1 (.t 56) (.t 57)),o 59 (.load false 1 (.t 58)),o 60 (.bin .and (.t 59) (.c (.i .u8 (.l 128)))),o 61 (.bin .eq (.t 60) (.c (.i .u8 (.l 0))))] [56,57,58,59,60]) (.cond (.t 61) (.seq (.reg [o 62 (.mv (.t 4)),o 63 (.mv (.t 0)),o 64 (.mv (.t 8)),o 65 (.bin .add (.t 64) (z 1)),o 66 (.slc 1 (.t 63) (some (.t 65)) none none),o 67 (f 108 [(.t 66)]),o 4 (.mv (.t 62)),o 5 (.mv (.t 67)),o 6 (.mv (z 0))] [0,8,62,63,64,65,66,67]) .ret) .skip)))))) (.reg [o 31 (.mv (.t 8)),o 32 (.bin .add (.t 31) (z 1)),o 8 (.mv (.t 32))] [31,32]))))) (.seq (.label 0) (.seq (.reg [o 68 (.mv (.t 6)),o 4 (.mv (z 0)),o 5 (.mv (.c (.re (.slice none 0 0)))),o 6 (.mv (.t 68))] [68]) .ret))))))))))
theorem qzk : FnIs Tryz.prog 92 69 [.t 4, .t 5, .t 6] qzahb :=
  ⟨Tryz.f92, _, qyz, Tryz.func92, rfl, rfl, by kernel_rfl, by kernel_rfl, Tryz.call92⟩
def qzahi : Nat → List Nat := kk [[0,1],[2,8,9],[11],[12],[3,6,13,14],[7,16],[17]]
def table_At : IR :=
 (.seq (.reg [o 2 (.box (.t 0)),o 3 (.box (.t 1)),o 4 (.alloc [(.s []),(.s [])]),o 5 (.alloc [(.i .i64 (.l 0))])] [0,1]) (.seq (.seq (.reg [o 8 (.fad 1 (.t 2)),o 9 (.load false 1 (.t 8)),o 10 (f 64 [(.t 9)])] [2,8,9]) (.block 0 (.rf (.t 10) [11,12] (.seq (.reg [o 6 (.mv (.t 11))] [11]) (.reg [o 7 (.alloc [(.s []),(.s [])]),u (.store 2 (.t 7) (.t 12))] [12])) (.block 1 (.seq (.reg [o 13 (.mv (.t 6)),o 14 (.load false 1 (.t 3)),o 15 (.bin .eq (.t 13) (.t 14))] [3,6,13,14]) (.cond (.t 15) (.seq (.reg [o 16 (.load true 2 (.t 7)),u (.store 2 (.t 4) (.t 16)),u (.store 1 (.t 5) (z 0))] [7,16]) .ret) .skip)))))) (.seq (.reg [o 17 (.build [(.s []),(.s [])] []),u (.store 2 (.t 4) (.t 17)),u (.store 1 (.t 5) (z 90))] [17]) .ret)))
theorem qzahk : FnIs Tryz.prog 93 18 [.c 4 true 2, .c 5 false 1] table_At :=
  ⟨Tryz.f93, _, qzahi, Tryz.func93, rfl, rfl, by kernel_rfl, by kernel_rfl, Tryz.call93⟩
def qwl : Nat → List Nat := kk [[0,7,8],[9],[10],[1,3,12,13,14,15,16,17],[2,18,19,20,21,22,23,24],[25],[27,28,29,30,31,32,33],[34,35,36]]
def qzads : IR :=
 (.seq (.reg [o 3 (.box (.t 0)),o 6 (.alloc [(.s []),(.s [])]),o 7 (.mv (.c (.re (.slice none 0 0)))),o 8 (.mv (z 0))] [0,7,8]) (.seq (.seq (.reg [o 9 (.mv (.t 2)),o 7 (.mv (.t 9))] [9]) (.seq (.reg [o 10 (.mv (.t 1)),o 11 (.bin .gt (.t 10) (z 0))] [10]) (.cond (.t 11) (.reg [o 13 (.load true 2 (.t 3)),o 14 (.mv (.t 1)),o 15 (f 93 [(.t 13),(.t 14)]),o 12 (.mv (.t 15)),o 16 (.ext (.t 12) 0),o 17 (.ext (.t 12) 1),u (.store 2 (.t 6) (.t 16)),o 8 (.mv (.t 17))] [1,3,12,13,14,15,16,17]) (.reg [o 19 (.mv (.t 2)),o 20 (f 109 [(.t 19)]),o 18 (.mv (.t 20)),o 21 (.ext (.t 18) 0),o 22 (.ext (.t 18) 1),o 23 (.ext (.t 18) 2),o 24 (.fad 0 (.t 6)),u (.store 1 (.t 24) (.t 21)),o 7 (.mv (.t 22)),o 8 (.mv (.t 23))] [2,18,19,20,21,22,23,24])))) (.seq (.seq (.reg [o 25 (.mv (.t 8)),o 26 (.bin .eq (.t 25) (z 0))] [25]) (.cond (.t 26) (.reg [o 28 (.mv (.t 7)),o 29 (f 109 [(.t 28)]),o 27 (.mv (.t 29)),o 30 (.ext (.t 27) 0),o 31 (.ext (.t 27) 1),o 32 (.ext (.t 27) 2),o 33 (.fad 1 (.t 6)),u (.store 1 (.t 33) (.t 30)),o 7 (.mv (.t 31)),o 8 (.mv (.t 32))] [27,28,29,30,31,32,33]) .skip)) (.seq (.reg [o 34 (.load true 2 (.t 6)),o 35 (.mv (.t 7)),o 36 (.mv (.t 8)),u (.store 2 (.t 6) (.t 34)),o 7 (.mv (.t 35)),o 8 (.mv (.t 36))] [34,35,36]) .ret))))
theorem qxc : FnIs Tryz.prog 94 37 [.c 6 true 2, .t 7, .t 8] qzads :=
  ⟨Tryz.f94, _, qwl, Tryz.func94, rfl, rfl, by kernel_rfl, by kernel_rfl, Tryz.call94⟩
def qoy : Nat → List Nat := kk [[4,5,6],[12,13,14,15,16],[],[18,19],[],[1,21,22],[23,24,25,26,27,28,29],[],[7,30,31,32],[],[10],[34,35],[36,37,38],[],[40,41,42,43,44,45,46,47,48,49,50],[51,52,53,54,55],[],[57,58,59,60,61],[62,63],[0,8,9,64,65,66,67,68,69]]
def qjq : List Nat := [1,2,3,4,5,6,7,12,13,14,15,16,17,18,19,20,21,22,23,24,25,26,27,28,29,30,31,32,33,34,35,36,37,38,39,40,41,42,43,44,45,46,47,48,49,50,51,52,53,54,55,56,57,58,59,60,61,62,63,64,65,66,67,68,69]
def quq : IR :=
 (.seq (.reg [o 4 (.mv (z 0)),o 5 (.mv (.c (.re (.slice none 0 0)))),o 6 (.mv (z 0))] [4,5,6]) (.seq (.seq (.reg [o 12 (.mv (.t 1)),o 13 (.bin .lt (.t 12) (z 1)),o 14 (.mv (.t 13)),q 15 (.mv (.t 1)) 14 false,q 16 (.bin .gt (.t 15) (z 8)) 14 false,o 17 (.pick (.t 14) (.c .tt) (.t 16))] [12,13,14,15,16]) (.cond (.t 17) (.seq (.reg [o 4 (.mv (z 0)),o 5 (.mv (.c (.re (.slice none 0 0)))),o 6 (.mv (z 2))] []) .ret) .skip)) (.seq (.seq (.reg [o 18 (.mv (.t 0)),o 19 (.len false (.t 18)),o 20 (.bin .eq (.t 19) (z 0))] [18,19]) (.cond (.t 20) (.seq (.reg [o 4 (.mv (z 0)),o 5 (.mv (.c (.re (.slice none 0 0)))),o 6 (.mv (z 10))] []) .ret) .skip)) (.seq (.reg [o 21 (.mv (.t 1)),o 22 (f 78 [(.t 21)]),o 7 (.mv (.t 22))] [1,21,22]) (.seq (.reg [o 23 (.mv (.t 0)),o 24 (.iadS 1 (.t 23) (z 0)),o 25 (.load false 1 (.t 24)),o 26 (.cv .i64 (.t 25)),o 27 (.mv (.t 7)),o 28 (.bin .add (.t 27) (z 1)),o 29 (.bin .rem (.t 26) (.t 28)),o 8 (.mv (.t 29))] [23,24,25,26,27,28,29]) (.seq (.reg [o 9 (.mv (z 1))] []) (.seq (.reg [o 30 (.mv (.t 8)),o 31 (.mv (.t 7)),o 32 (.bin .eq (.t 30) (.t 31)),o 10 (.mv (.t 32))] [7,30,31,32]) (.seq (.seq (.reg [o 11 (.mv (z 0))] []) (.block 0 (.loop (.seq (.seq (.reg [o 33 (.mv (.t 10))] [10]) (.cond (.t 33) .skip (.exit 0))) (.seq (.block 1 (.seq (.seq (.reg [o 36 (.mv (.t 9)),o 37 (.mv (.t 0)),o 38 (.len false (.t 37)),o 39 (.bin .ge (.t 36) (.t 38))] [36,37,38]) (.cond (.t 39) (.seq (.reg [o 4 (.mv (z 0)),o 5 (.mv (.c (.re (.slice none 0 0)))),o 6 (.mv (z 10))] []) .ret) .skip)) (.seq (.reg [o 40 (.mv (.t 8)),o 41 (.mv (.t 0)),o 42 (.mv (.t 9)),o 43 (.iadS 1 (.t 41) (.t 42)),o 44 (.load false 1 (.t 43)),o 45 (.bin .rem (.t 44) (.c (.i .u8 (.l 128)))),o 46 (.cv .i64 (.t 45)),o 47 (.mv (.t 11)),o 48 (.cv .u64 (.t 47)),o 49 (.bin .shl (.t 46) (.t 48)),o 50 (.bin .add (.t 40) (.t 49)),o 8 (.mv (.t 50))] [40,41,42,43,44,45,46,47,48,49,50]) (.seq (.seq (.reg [o 51 (.mv (.t 9)),o 52 (.bin .eq (.t 51) (z 6)),o 53 (.mv (.t 52)),q 54 (.mv (.t 8)) 53 false,q 55 (.bin .ge (.t 54) (z 2147483648)) 53 false,o 56 (.pick (.t 53) (.c .tt) (.t 55))] [51,52,53,54,55]) (.cond (.t 56) (.seq (.reg [o 4 (.mv (z 0)),o 5 (.mv (.c (.re (.slice none 0 0)))),o 6 (.mv (z 60))] []) .ret) .skip)) (.seq (.reg [o 57 (.mv (.t 0)),o 58 (.mv (.t 9)),o 59 (.iadS 1 (.t 57) (.t 58)),o 60 (.load false 1 (.t 59)),o 61 (.bin .ge (.t 60) (.c (.i .u8 (.l 128)))),o 10 (.mv (.t 61))] [57,58,59,60,61]) (.reg [o 62 (.mv (.t 9)),o 63 (.bin .add (.t 62) (z 1)),o 9 (.mv (.t 63))] [62,63])))))) (.reg [o 34 (.mv (.t 11)),o 35 (.bin .add (.t 34) (z 7)),o 11 (.mv (.t 35))] [34,35])))))) (.seq (.reg [o 64 (.mv (.t 8)),o 65 (.buildS 1 0 [(.i .u8 (.l 0))] []),o 66 (.mv (.t 0)),o 67 (.mv (.t 9)),o 68 (.slc 1 (.t 66) (some (.t 67)) none none),o 69 (.app 1 (.t 65) (.t 68)),o 4 (.mv (.t 64)),o 5 (.mv (.t 69)),o 6 (.mv (z 0))] [0,8,9,64,65,66,67,68,69]) .ret)))))))))
theorem qpr : FnIs Tryz.prog 95 70 [.t 4, .t 5, .t 6] quq :=
  ⟨Tryz.f95, _, qoy, Tryz.func95, rfl, rfl, by kernel_rfl, by kernel_rfl, Tryz.call95⟩
def qgd : Nat → List Nat := kk [[2,3],[7,8,9,10,11,12,13,14,15],[16],[0,5,18,19,20,21],[4,6,22,23]]
def qio : IR :=
 (.seq (.reg [o 2 (.mv (.c (.s []))),o 3 (.mv (z 0))] [2,3]) (.seq (.reg [o 8 (.mv (.t 0)),o 9 (.nilc (.t 8)),o 10 (.fad 0 (.t 9)),o 11 (.load false 1 (.t 10)),o 12 (f 110 [(.t 11)]),o 7 (.mv (.t 12)),o 13 (.ext (.t 7) 0),o 14 (.ext (.t 7) 1),o 15 (.ext (.t 7) 2),o 4 (.mv (.t 13)),o 5 (.mv (.t 14)),o 6 (.mv (.t 15))] [7,8,9,10,11,12,13,14,15]) (.seq (.seq (.reg [o 16 (.mv (.t 6)),o 17 (.bin .eq (.t 16) (z 0))] [16]) (.cond (.t 17) (.reg [o 18 (.mv (.t 0)),o 19 (.mv (.t 5)),o 20 (.nilc (.t 18)),o 21 (.fad 0 (.t 20)),u (.store 1 (.t 21) (.t 19))] [0,5,18,19,20,21]) .skip)) (.seq (.reg [o 22 (.mv (.t 4)),o 23 (.mv (.t 6)),o 2 (.mv (.t 22)),o 3 (.mv (.t 23))] [4,6,22,23]) .ret))))
theorem qan : FnIs Tryz.prog 96 24 [.t 2, .t 3] qio :=
  ⟨Tryz.f96, _, qgd, Tryz.func96, rfl, rfl, by kernel_rfl, by kernel_rfl, Tryz.call96⟩
def qwu : Nat → List Nat := kk [[2],[0,3,4,5,6,7,8]]
def qzaeq : IR :=
 (.seq (.reg [o 2 (.mv (.c .ff))] [2]) (.seq (.reg [o 3 (.mv (.t 0)),o 4 (.bin .gt (.t 3) (z 0)),o 5 (.mv (.t 4)),q 6 (.mv (.t 0)) 5 true,q 7 (.bin .le (.t 6) (z 8)) 5 true,o 8 (.pick (.t 5) (.t 7) (.c .ff)),o 2 (.mv (.t 8))] [0,3,4,5,6,7,8]) .ret))
theorem qgi : FnIs Tryz.prog 97 9 [.t 2] qzaeq :=
  ⟨Tryz.f97, _, qwu, Tryz.func97, rfl, rfl, by kernel_rfl, by kernel_rfl, Tryz.call97⟩
def qsm : Nat → List Nat := kk [[0,2],[1,3]]
def qym : IR :=
 (.seq (.reg [o 1 (.box (.t 0)),o 2 (.mv (.c (.re .nilFunc)))] [0,2]) (.seq (.reg [o 3 (.mkF (.func 111) [] [(.t 1)]),o 2 (.mv (.t 3))] [1,3]) .ret))
theorem qsu : FnIs Tryz.prog 98 4 [.t 2] qym :=
  ⟨Tryz.f98, _, qsm, Tryz.func98, rfl, rfl, by kernel_rfl, by kernel_rfl, Tryz.call98⟩
def qwr : Nat → List Nat := kk [[2,3],[0,4,5]]
def qzadz : IR :=
 (.seq (.reg [o 2 (.mv (.c (.i .u8 (.l 0)))),o 3 (.mv (.c (.re (.slice none 0 0))))] [2,3]) (.seq (.reg [o 4 (.mv (.t 0)),o 5 (.cvSB (.t 4)),o 2 (.mv (.c (.i .u8 (.l 0)))),o 3 (.mv (.t 5))] [0,4,5]) .ret))
theorem qxf : FnIs Tryz.prog 99 6 [.t 2, .t 3] qzadz :=
  ⟨Tryz.f99, _, qwr, Tryz.func99, rfl, rfl, by kernel_rfl, by kernel_rfl, Tryz.call99⟩
def qzafd : Nat → List Nat := kk [[],[6],[0],[],[11,12],[5,13,14,15,16,17,18],[19],[20]]
def qub : List Nat := [0,1,4,5,6,10,11,12,13,14,15,16,17,18,19,20]
def qzafh : IR :=
 (.seq (.reg [o 2 (.mv (z 0))] []) (.seq (.reg [o 6 (f 112 []),o 3 (.alloc (repS 512 [(.i .i64 (.l 0))])),u (.store 512 (.t 3) (.t 6))] [6]) (.seq (.seq (.reg [o 7 (.mv (.t 0)),o 8 (.len false (.t 7)),o 9 (.mv (z 0))] [0]) (.block 0 (.loop (.seq (.reg [o 10 (.bin .lt (.t 9) (.t 8))] []) (.seq (.cond (.t 10) .skip (.exit 0)) (.seq (.block 1 (.seq (.reg [o 11 (.iadS 1 (.t 7) (.t 9)),o 12 (.load false 1 (.t 11)),o 5 (.mv (.t 12))] [11,12]) (.reg [o 13 (.mv (.t 2)),o 14 (.mv (.t 5)),o 15 (.iadA 256 2 (.t 3) (.t 14)),o 16 (.iadA 2 1 (.t 15) (z 1)),o 17 (.load false 1 (.t 16)),o 18 (.bin .add (.t 13) (.t 17)),o 2 (.mv (.t 18))] [5,13,14,15,16,17,18]))) (.reg [o 19 (.bin .add (.t 9) (z 1)),o 9 (.mv (.t 19))] [19]))))))) (.seq (.reg [o 20 (.mv (.t 2)),o 2 (.mv (.t 20))] [20]) .ret))))
theorem qzafu : FnIs Tryz.prog 100 21 [.t 2] qzafh :=
  ⟨Tryz.f100, _, qzafd, Tryz.func100, rfl, rfl, by kernel_rfl, by kernel_rfl, Tryz.call100⟩
def qtx : Nat → List Nat := kk [[2,3],[0,4,5,6]]
def qzabc : IR :=
 (.seq (.reg [o 2 (.mv (.c (.i .u8 (.l 0)))),o 3 (.mv (.c (.re (.slice none 0 0))))] [2,3]) (.seq (.reg [o 4 (.mv (.t 0)),o 5 (.cvSB (.t 4)),o 6 (f 102 [(.t 5)]),o 2 (.mv (.c (.i .u8 (.l 128)))),o 3 (.mv (.t 6))] [0,4,5,6]) .ret))
theorem qtz : FnIs Tryz.prog 101 7 [.t 2, .t 3] qzabc :=
  ⟨Tryz.f101, _, qtx, Tryz.func101, rfl, rfl, by kernel_rfl, by kernel_rfl, Tryz.call101⟩
def qzahj : Nat → List Nat := kk [[],[],[],[9],[0],[],[14,15],[7,16,17,18,19,20,21,22,23,24,25,26,27,28,29,30,31,32,33],[34],[36,37],[38,39,40,41,42,43,44],[45,46,47,48,49],[50],[51,52],[4,53],[3,8,55,56,57,58,59,60,61,62,63,64,65],[66]]
def qxu : List Nat := [0,1,6,7,8,9,13,14,15,16,17,18,19,20,21,22,23,24,25,26,27,28,29,30,31,32,33,34,35,36,37,38,39,40,41,42,43,44,45,46,47,48,49,50,51,52,53,54,55,56,57,58,59,60,61,62,63,64,65,66]
def qxt : List Nat := [0,1,6,7,8,9,13,14,15,16,17,18,19,20,21,22,23,24,25,26,27,28,29,30,31,32,33,34,35,36,37,38,39,40,41,42,43,44,45,46,47,48,49,50,51,52,53,54,55,56,57,58,59,60,61,62,63,64,65,66]
def qyo : List (Nat × List Nat) := [(0,[]),(1,[]),(2,[]),(3,[]),(4,[]),(5,[]),(6,[]),(7,[]),(8,[]),(9,[]),(10,[]),(11,[]),(12,[]),(13,[]),(14,[]),(15,[]),(16,[]),(17,[]),(18,[14,15,16]),(19,[])]
def qyn : List (Nat × List Nat) := [(0,[]),(1,[]),(2,[]),(3,[]),(4,[]),(5,[]),(6,[]),(7,[]),(8,[]),(9,[]),(10,[]),(11,[])]
def huff_Put : IR :=
 (.seq (.reg [o 2 (.mv (.c (.re (.slice none 0 0))))] []) (.seq (.reg [o 3 (.mv (.c (.i .u64 (.l 0))))] []) (.seq (.reg [o 4 (.mv (z 0))] []) (.seq (.reg [o 9 (f 112 []),o 5 (.alloc (repS 512 [(.i .i64 (.l 0))])),u (.store 512 (.t 5) (.t 9))] [9]) (.seq (.seq (.reg [o 10 (.mv (.t 0)),o 11 (.len false (.t 10)),o 12 (.mv (z 0))] [0]) (.block 0 (.loop (.seq (.reg [o 13 (.bin .lt (.t 12) (.t 11))] []) (.seq (.cond (.t 13) .skip (.exit 0)) (.seq (.block 1 (.seq (.reg [o 14 (.iadS 1 (.t 10) (.t 12)),o 15 (.load false 1 (.t 14)),o 7 (.mv (.t 15))] [14,15]) (.seq (.draw [o 16 (.mv (.t 3)),o 17 (.mv (.t 7)),o 18 (.iadA 256 2 (.t 5) (.t 17)),o 19 (.iadA 2 1 (.t 18) (z 1)),o 20 (.load false 1 (.t 19)),o 21 (.bin .shl (.t 16) (.t 20)),o 22 (.mv (.t 7)),o 23 (.iadA 256 2 (.t 5) (.t 22)),o 24 (.iadA 2 1 (.t 23) (z 0)),o 25 (.load false 1 (.t 24)),o 26 (.cv .u64 (.t 25)),o 27 (.bin .or (.t 21) (.t 26)),o 28 (.mv (.t 4)),o 29 (.mv (.t 7)),o 30 (.iadA 256 2 (.t 5) (.t 29)),o 31 (.iadA 2 1 (.t 30) (z 1)),o 32 (.load false 1 (.t 31)),o 33 (.bin .add (.t 28) (.t 32)),o 3 (.mv (.t 27)),o 4 (.mv (.t 33))] [[],[],[1],[2],[3],[0,4],[],[6],[7],[8],[9],[5,10],[],[],[13],[14],[15],[12,16],[11,0,1,2,3,4,5,6,7,8,9,10,11],[17,18,0,1,2,3,4,5,6,7,8,9,10,11,12,13,14,15,16,17,18]] [7,16,17,18,19,20,21,22,23,24,25,26,27,28,29,30,31,32,33]) (.seq (.block 2 (.loop (.seq (.seq (.reg [o 34 (.mv (.t 4)),o 35 (.bin .ge (.t 34) (z 8))] [34]) (.cond (.t 35) .skip (.exit 2))) (.block 3 (.seq (.reg [o 36 (.mv (.t 4)),o 37 (.bin .sub (.t 36) (z 8)),o 4 (.mv (.t 37))] [36,37]) (.reg [o 38 (.mv (.t 2)),o 39 (.mv (.t 3)),o 40 (.mv (.t 4)),o 41 (.bin .shr (.t 39) (.t 40)),o 42 (.cv .u8 (.t 41)),o 43 (.buildS 1 1 [(.i .u8 (.l 0))] [(0,(.t 42))]),o 44 (.app 1 (.t 38) (.t 43)),o 2 (.mv (.t 44))] [38,39,40,41,42,43,44])))))) (.reg [o 45 (.mv (.t 3)),o 46 (.mv (.t 4)),o 47 (.bin .shl (.c (.i .u64 (.l 1))) (.t 46)),o 48 (.bin .sub (.t 47) (.c (.i .u64 (.l 1)))),o 49 (.bin .and (.t 45) (.t 48)),o 3 (.mv (.t 49))] [45,46,47,48,49]))))) (.reg [o 50 (.bin .add (.t 12) (z 1)),o 12 (.mv (.t 50))] [50]))))))) (.seq (.seq (.reg [o 51 (.mv (.t 4)),o 52 (.bin .sub (z 8) (.t 51)),o 8 (.mv (.t 52))] [51,52]) (.seq (.reg [o 53 (.mv (.t 4)),o 54 (.bin .gt (.t 53) (z 0))] [4,53]) (.cond (.t 54) (.draw [o 55 (.mv (.t 2)),o 56 (.mv (.t 3)),o 57 (.mv (.t 8)),o 58 (.bin .shl (.t 56) (.t 57)),o 59 (.mv (.t 8)),o 60 (.bin .shl (.c (.i .u64 (.l 1))) (.t 59)),o 61 (.bin .sub (.t 60) (.c (.i .u64 (.l 1)))),o 62 (.bin .or (.t 58) (.t 61)),o 63 (.cv .u8 (.t 62)),o 64 (.buildS 1 1 [(.i .u8 (.l 0))] [(0,(.t 63))]),o 65 (.app 1 (.t 55) (.t 64)),o 2 (.mv (.t 65))] [[],[],[],[1,2],[],[4],[5],[3,6],[7],[8],[0,9],[10,10,0,1,2,3,4,5,6,7,8,9,10]] [3,8,55,56,57,58,59,60,61,62,63,64,65]) .skip))) (.seq (.reg [o 66 (.mv (.t 2)),o 2 (.mv (.t 66))] [66]) .ret)))))))
theorem qzahl : FnIs Tryz.prog 102 67 [.t 2] huff_Put :=
  ⟨Tryz.f102, _, qzahj, Tryz.func102, rfl, rfl, by kernel_rfl, by kernel_rfl, Tryz.call102⟩
def qzaex : Nat → List Nat := kk [[0,1,4],[2,3,5]]
def text_told : IR :=
 (.seq (.reg [o 2 (.box (.t 0)),o 3 (.box (.t 1)),o 4 (.mv (.c (.re .nilFunc)))] [0,1,4]) (.seq (.reg [o 5 (.mkF (.func 113) [] [(.t 3),(.t 2)]),o 4 (.mv (.t 5))] [2,3,5]) .ret))
theorem qtp : FnIs Tryz.prog 103 6 [.t 4] text_told :=
  ⟨Tryz.f103, _, qzaex, Tryz.func103, rfl, rfl, by kernel_rfl, by kernel_rfl, Tryz.call103⟩
def qow : Nat → List Nat := kk [[2],[],[],[7,8,9],[11,12],[5,13,14,15,16,17,18,19,20],[6,21,22,23],[3,24]]
def qjp : List Nat := [1,2,5,6,7,8,9,10,11,12,13,14,15,16,17,18,19,20,21,22,23,24]
def qun : IR :=
 (.seq (.reg [o 2 (.mv (z 0))] [2]) (.seq (.reg [o 3 (.mv (z 0))] []) (.seq (.seq (.reg [o 4 (.mv (z 0))] []) (.block 0 (.loop (.seq (.seq (.reg [o 7 (.mv (.t 4)),o 8 (.mv (.t 0)),o 9 (.len false (.t 8)),o 10 (.bin .lt (.t 7) (.t 9))] [7,8,9]) (.cond (.t 10) .skip (.exit 0))) (.seq (.block 1 (.seq (.reg [o 14 (.mv (.t 0)),o 15 (.mv (.t 4)),o 16 (.iadS 1 (.t 14) (.t 15)),o 17 (.load false 1 (.t 16)),o 18 (f 114 [(.t 17)]),o 13 (.mv (.t 18)),o 19 (.ext (.t 13) 0),o 20 (.ext (.t 13) 1),o 5 (.mv (.t 19)),o 6 (.mv (.t 20))] [5,13,14,15,16,17,18,19,20]) (.reg [o 21 (.mv (.t 3)),o 22 (.mv (.t 6)),o 23 (.bin .add (.t 21) (.t 22)),o 3 (.mv (.t 23))] [6,21,22,23]))) (.reg [o 11 (.mv (.t 4)),o 12 (.bin .add (.t 11) (z 1)),o 4 (.mv (.t 12))] [11,12])))))) (.seq (.reg [o 24 (.mv (.t 3)),o 2 (.mv (.t 24))] [3,24]) .ret))))
theorem qpq : FnIs Tryz.prog 104 25 [.t 2] qun :=
  ⟨Tryz.f104, _, qow, Tryz.func104, rfl, rfl, by kernel_rfl, by kernel_rfl, Tryz.call104⟩
def qqs : Nat → List Nat := kk [[2],[],[],[],[9,10,11],[13,14],[15,16,17,18,19,20,21,22],[6,7,23,24,25,26,27,28,29,30,31],[32,33,34,35,36],[4,8,37,38,39,40,41,42,43,44,45,46,47,48],[3,49]]
def qkf : List Nat := [1,2,6,7,8,9,10,11,12,13,14,15,16,17,18,19,20,21,22,23,24,25,26,27,28,29,30,31,32,33,34,35,36,37,38,39,40,41,42,43,44,45,46,47,48,49]
def qxx : IR :=
 (.seq (.reg [o 2 (.mv (.c (.re (.slice none 0 0))))] [2]) (.seq (.reg [o 3 (.mv (.c (.re (.slice none 0 0))))] []) (.seq (.reg [o 4 (.mv (z 0))] []) (.seq (.seq (.reg [o 5 (.mv (z 0))] []) (.block 0 (.loop (.seq (.seq (.reg [o 9 (.mv (.t 5)),o 10 (.mv (.t 0)),o 11 (.len false (.t 10)),o 12 (.bin .lt (.t 9) (.t 11))] [9,10,11]) (.cond (.t 12) .skip (.exit 0))) (.seq (.block 1 (.seq (.reg [o 16 (.mv (.t 0)),o 17 (.mv (.t 5)),o 18 (.iadS 1 (.t 16) (.t 17)),o 19 (.load false 1 (.t 18)),o 20 (f 114 [(.t 19)]),o 15 (.mv (.t 20)),o 21 (.ext (.t 15) 0),o 22 (.ext (.t 15) 1),o 6 (.mv (.t 21)),o 7 (.mv (.t 22))] [15,16,17,18,19,20,21,22]) (.reg [o 24 (.mv (.t 3)),o 25 (.mv (.t 4)),o 26 (.mv (.t 6)),o 27 (.mv (.t 7)),o 28 (f 115 [(.t 24),(.t 25),(.t 26),(.t 27)]),o 23 (.mv (.t 28)),o 29 (.ext (.t 23) 0),o 30 (.ext (.t 23) 1),o 31 (.ext (.t 23) 2),o 3 (.mv (.t 29)),o 4 (.mv (.t 30))] [6,7,23,24,25,26,27,28,29,30,31]))) (.reg [o 13 (.mv (.t 5)),o 14 (.bin .add (.t 13) (z 1)),o 5 (.mv (.t 14))] [13,14])))))) (.seq (.reg [o 32 (.mv (.t 3)),o 33 (.len false (.t 32)),o 34 (.bin .mul (z 8) (.t 33)),o 35 (.mv (.t 4)),o 36 (.bin .sub (.t 34) (.t 35)),o 8 (.mv (.t 36))] [32,33,34,35,36]) (.seq (.reg [o 38 (.mv (.t 3)),o 39 (.mv (.t 4)),o 40 (.mv (.t 8)),o 41 (.cv .u64 (.t 40)),o 42 (.bin .shl (z 1) (.t 41)),o 43 (.bin .sub (.t 42) (z 1)),o 44 (.mv (.t 8)),o 45 (f 115 [(.t 38),(.t 39),(.t 43),(.t 44)]),o 37 (.mv (.t 45)),o 46 (.ext (.t 37) 0),o 47 (.ext (.t 37) 1),o 48 (.ext (.t 37) 2),o 3 (.mv (.t 46))] [4,8,37,38,39,40,41,42,43,44,45,46,47,48]) (.seq (.reg [o 49 (.mv (.t 3)),o 2 (.mv (.t 49))] [3,49]) .ret)))))))
theorem qre : FnIs Tryz.prog 105 50 [.t 2] qxx :=
  ⟨Tryz.f105, _, qqs, Tryz.func105, rfl, rfl, by kernel_rfl, by kernel_rfl, Tryz.call105⟩
def qoi : Nat → List Nat := kk [[0,1,2,6],[3,4,5,7]]
def qtt : IR :=
 (.seq (.reg [o 3 (.box (.t 0)),o 4 (.box (.t 1)),o 5 (.box (.t 2)),o 6 (.mv (.c (.re .nilFunc)))] [0,1,2,6]) (.seq (.reg [o 7 (.mkF (.func 116) [] [(.t 4),(.t 3),(.t 5)]),o 6 (.mv (.t 7))] [3,4,5,7]) .ret))
theorem qpc : FnIs Tryz.prog 106 8 [.t 6] qtt :=
  ⟨Tryz.f106, _, qoi, Tryz.func106, rfl, rfl, by kernel_rfl, by kernel_rfl, Tryz.call106⟩
def qqq : Nat → List Nat := kk [[4,5,6],[8,9,10],[11],[0,1,7,13,14,15,16,17,18,19,20,21],[0,22]]
def qld : List (Nat × List Nat) := [(0,[]),(1,[]),(2,[]),(3,[]),(4,[]),(5,[]),(6,[]),(7,[]),(8,[]),(9,[]),(10,[]),(11,[])]
def qvm : IR :=
 (.seq (.reg [o 4 (.mv (.c (.s []))),o 5 (.mv (.c (.s []))),o 6 (.mv (.c .ff))] [4,5,6]) (.seq (.seq (.reg [o 8 (.mv (.t 0)),o 9 (.mv (.t 1)),o 10 (f 119 [(.t 8),(.t 9)]),o 7 (.mv (.t 10))] [8,9,10]) (.seq (.reg [o 11 (.mv (.t 7)),o 12 (.bin .ge (.t 11) (z 0))] [11]) (.cond (.t 12) (.seq (.draw [o 13 (.mv (.t 0)),o 14 (.mv (.t 7)),o 15 (.slcS (.t 13) none (some (.t 14))),o 16 (.mv (.t 0)),o 17 (.mv (.t 7)),o 18 (.mv (.t 1)),o 19 (.len true (.t 18)),o 20 (.bin .add (.t 17) (.t 19)),o 21 (.slcS (.t 16) (some (.t 20)) none),o 4 (.mv (.t 15)),o 5 (.mv (.t 21)),o 6 (.mv (.c .tt))] [[],[],[0,1],[],[],[],[5],[4,6],[3,7],[2,0,1,2],[8,9,0,1,2,3,4,5,6,7,8,9],[10,0,1,2,3,4,5,6,7,8,9,10]] [0,1,7,13,14,15,16,17,18,19,20,21]) .ret) .skip))) (.seq (.reg [o 22 (.mv (.t 0)),o 4 (.mv (.t 22)),o 5 (.mv (.c (.s []))),o 6 (.mv (.c .ff))] [0,22]) .ret)))
theorem qra : FnIs Tryz.prog 107 23 [.t 4, .t 5, .t 6] qvm :=
  ⟨Tryz.f107, _, qqq, Tryz.func107, rfl, rfl, by kernel_rfl, by kernel_rfl, Tryz.call107⟩
def qzb : Nat → List Nat := kk [[2],[3],[],[0,5,6,7]]
def qzahx : IR :=
 (.seq (.reg [o 2 (.mv (.c (.re (.slice none 0 0))))] [2]) (.seq (.seq (.reg [o 3 (.mv (.t 0)),o 4 (.nilS false (.t 3))] [3]) (.cond (.t 4) (.seq (.reg [o 2 (.mv (.c (.re (.slice none 0 0))))] []) .ret) .skip)) (.seq (.reg [o 5 (.buildS 1 0 [(.i .u8 (.l 0))] []),o 6 (.mv (.t 0)),o 7 (.app 1 (.t 5) (.t 6)),o 2 (.mv (.t 7))] [0,5,6,7]) .ret)))
theorem qzm : FnIs Tryz.prog 108 8 [.t 2] qzahx :=
  ⟨Tryz.f108, _, qzb, Tryz.func108, rfl, rfl, by kernel_rfl, by kernel_rfl, Tryz.call108⟩
def qzaey : Nat → List Nat := kk [[2,3,4],[5],[6],[7,8,9,10,11,12],[13],[],[15,16,17],[5,19,20,21,22,23,24,25,26],[0,27,28,29,30],[6,32,33,34],[35,36,37,38,39],[40],[6,42,43,44],[45]]
def qwg : List (Nat × List Nat) := [(0,[]),(1,[]),(2,[]),(4,[]),(5,[]),(6,[]),(3,[]),(7,[]),(8,[]),(9,[])]
def text_Take : IR :=
 (.seq (.reg [o 2 (.mv (.c (.s []))),o 3 (.mv (.c (.re (.slice none 0 0)))),o 4 (.mv (z 0))] [2,3,4]) (.scope (.seq (.reg [o 5 (.mv (z 0))] [5]) (.seq (.reg [o 6 (.mv (.c (.re (.slice none 0 0))))] [6]) (.seq (.seq (.reg [o 8 (.mv (.t 0)),o 9 (f 92 [(.t 8),(z 7)]),o 7 (.mv (.t 9)),o 10 (.ext (.t 7) 0),o 11 (.ext (.t 7) 1),o 12 (.ext (.t 7) 2),o 5 (.mv (.t 10)),o 3 (.mv (.t 11)),o 4 (.mv (.t 12))] [7,8,9,10,11,12]) (.seq (.reg [o 13 (.mv (.t 4)),o 14 (.bin .ne (.t 13) (z 0))] [13]) (.cond (.t 14) (.goto 0) .skip))) (.seq (.seq (.reg [o 4 (.mv (z 10))] []) (.seq (.reg [o 15 (.mv (.t 5)),o 16 (.mv (.t 3)),o 17 (.len false (.t 16)),o 18 (.bin .gt (.t 15) (.t 17))] [15,16,17]) (.cond (.t 18) (.goto 0) .skip))) (.seq (.seq (.draw [o 19 (.mv (.t 3)),o 20 (.mv (.t 5)),o 21 (.slc 1 (.t 19) none (some (.t 20)) none),o 22 (f 120 [(.t 21)]),o 23 (.mv (.t 3)),o 24 (.mv (.t 5)),o 25 (.slc 1 (.t 23) (some (.t 24)) none none),o 26 (f 108 [(.t 25)]),o 6 (.mv (.t 22)),o 3 (.mv (.t 26))] [[],[],[0,1],[2],[],[],[4,5],[6,3],[3,7,0,1,2,3],[7,8,0,1,2,3,4,5,6,7,8]] [5,19,20,21,22,23,24,25,26]) (.seq (.reg [o 27 (.mv (.t 0)),o 28 (.iadS 1 (.t 27) (z 0)),o 29 (.load false 1 (.t 28)),o 30 (.bin .and (.t 29) (.c (.i .u8 (.l 128)))),o 31 (.bin .eq (.t 30) (.c (.i .u8 (.l 0))))] [0,27,28,29,30]) (.cond (.t 31) (.seq (.reg [o 32 (.mv (.t 6)),o 33 (.cvBS (.t 32)),o 34 (.mv (.t 3)),o 2 (.mv (.t 33)),o 3 (.mv (.t 34)),o 4 (.mv (z 0))] [6,32,33,34]) .ret) .skip))) (.seq (.seq (.reg [o 36 (.mv (.t 6)),o 37 (f 121 [(.t 36)]),o 35 (.mv (.t 37)),o 38 (.ext (.t 35) 0),o 39 (.ext (.t 35) 1),o 6 (.mv (.t 38)),o 4 (.mv (.t 39))] [35,36,37,38,39]) (.seq (.reg [o 40 (.mv (.t 4)),o 41 (.bin .eq (.t 40) (z 0))] [40]) (.cond (.t 41) (.seq (.reg [o 42 (.mv (.t 6)),o 43 (.cvBS (.t 42)),o 44 (.mv (.t 3)),o 2 (.mv (.t 43)),o 3 (.mv (.t 44)),o 4 (.mv (z 0))] [6,42,43,44]) .ret) .skip))) (.seq (.label 0) (.seq (.reg [o 45 (.mv (.t 4)),o 2 (.mv (.c (.s []))),o 3 (.mv (.c (.re (.slice none 0 0)))),o 4 (.mv (.t 45))] [45]) .ret))))))))))
theorem qzafp : FnIs Tryz.prog 109 46 [.t 2, .t 3, .t 4] text_Take :=
  ⟨Tryz.f109, _, qzaey, Tryz.func109, rfl, rfl, by kernel_rfl, by kernel_rfl, Tryz.call109⟩
def qoq : Nat → List Nat := kk [[2,3,4],[12,13,14,15,16,17],[18],[7,20],[21,22,23],[],[5,6,25,26,27,28,29,30,31,32],[0,33,34,35],[8,9,37,38,39],[8,40,41,42,43,44],[45],[11,47],[9,10,48,49,50]]
def qjz : List (Nat × List Nat) := [(0,[]),(1,[]),(2,[]),(4,[]),(5,[]),(6,[]),(3,[]),(7,[]),(8,[]),(9,[])]
def quh : IR :=
 (.seq (.reg [o 2 (.mv (.c (.s []))),o 3 (.mv (.c (.re (.slice none 0 0)))),o 4 (.mv (z 0))] [2,3,4]) (.seq (.reg [o 13 (.mv (.t 0)),o 14 (f 95 [(.t 13),(z 7)]),o 12 (.mv (.t 14)),o 15 (.ext (.t 12) 0),o 16 (.ext (.t 12) 1),o 17 (.ext (.t 12) 2),o 5 (.mv (.t 15)),o 6 (.mv (.t 16)),o 7 (.mv (.t 17))] [12,13,14,15,16,17]) (.seq (.seq (.reg [o 18 (.mv (.t 7)),o 19 (.bin .ne (.t 18) (z 0))] [18]) (.cond (.t 19) (.seq (.reg [o 20 (.mv (.t 7)),o 2 (.mv (.c (.s []))),o 3 (.mv (.c (.re (.slice none 0 0)))),o 4 (.mv (.t 20))] [7,20]) .ret) .skip)) (.seq (.seq (.reg [o 21 (.mv (.t 6)),o 22 (.len false (.t 21)),o 23 (.mv (.t 5)),o 24 (.bin .lt (.t 22) (.t 23))] [21,22,23]) (.cond (.t 24) (.seq (.reg [o 2 (.mv (.c (.s []))),o 3 (.mv (.c (.re (.slice none 0 0)))),o 4 (.mv (z 10))] []) .ret) .skip)) (.seq (.draw [o 25 (.mv (.t 6)),o 26 (.mv (.t 5)),o 27 (.slc 1 (.t 25) none (some (.t 26)) none),o 28 (.buildS 1 0 [(.i .u8 (.l 0))] []),o 29 (.mv (.t 6)),o 30 (.mv (.t 5)),o 31 (.slc 1 (.t 29) (some (.t 30)) none none),o 32 (.app 1 (.t 28) (.t 31)),o 8 (.mv (.t 27)),o 9 (.mv (.t 32))] [[],[],[0,1],[],[],[],[4,5],[3,6],[2,7,0,1,2],[7,8,0,1,2,3,4,5,6,7,8]] [5,6,25,26,27,28,29,30,31,32]) (.seq (.seq (.reg [o 33 (.mv (.t 0)),o 34 (.iadS 1 (.t 33) (z 0)),o 35 (.load false 1 (.t 34)),o 36 (.bin .lt (.t 35) (.c (.i .u8 (.l 128))))] [0,33,34,35]) (.cond (.t 36) (.seq (.reg [o 37 (.mv (.t 8)),o 38 (.cvBS (.t 37)),o 39 (.mv (.t 9)),o 2 (.mv (.t 38)),o 3 (.mv (.t 39)),o 4 (.mv (z 0))] [8,9,37,38,39]) .ret) .skip)) (.seq (.reg [o 41 (.mv (.t 8)),o 42 (f 122 [(.t 41)]),o 40 (.mv (.t 42)),o 43 (.ext (.t 40) 0),o 44 (.ext (.t 40) 1),o 10 (.mv (.t 43)),o 11 (.mv (.t 44))] [8,40,41,42,43,44]) (.seq (.seq (.reg [o 45 (.mv (.t 11)),o 46 (.bin .ne (.t 45) (z 0))] [45]) (.cond (.t 46) (.seq (.reg [o 47 (.mv (.t 11)),o 2 (.mv (.c (.s []))),o 3 (.mv (.c (.re (.slice none 0 0)))),o 4 (.mv (.t 47))] [11,47]) .ret) .skip)) (.seq (.reg [o 48 (.mv (.t 10)),o 49 (.cvBS (.t 48)),o 50 (.mv (.t 9)),o 2 (.mv (.t 49)),o 3 (.mv (.t 50)),o 4 (.mv (z 0))] [9,10,48,49,50]) .ret)))))))))
theorem qpk : FnIs Tryz.prog 110 51 [.t 2, .t 3, .t 4] quh :=
  ⟨Tryz.f110, _, qoq, Tryz.func110, rfl, rfl, by kernel_rfl, by kernel_rfl, Tryz.call110⟩
def qok : Nat → List Nat := kk [[3,4],[6,7,8,9,10],[12,13],[0,1,14,15,16,17]]
def qjl : List Nat := [2,3,4,5,6,7,8,9,10,11,12,13,14,15,16,17]
def qtw : IR :=
 (.seq (.block 0 (.loop (.seq (.seq (.reg [o 3 (.load false 1 (.t 1)),o 4 (.bin .shr (.t 3) (.c (.i .u64 (.l 7)))),o 5 (.bin .ne (.t 4) (.c (.i .u32 (.l 0))))] [3,4]) (.cond (.t 5) .skip (.exit 0))) (.block 1 (.seq (.seq (.reg [o 6 (.mv (.t 0)),o 7 (.load false 1 (.t 1)),o 8 (.cv .u8 (.t 7)),o 9 (.bin .or (.t 8) (.c (.i .u8 (.l 128)))),o 10 (.call (.t 6) [(.t 9)]),o 11 (.not (.t 10))] [6,7,8,9,10]) (.cond (.t 11) .ret .skip)) (.reg [o 12 (.load false 1 (.t 1)),o 13 (.bin .shr (.t 12) (.c (.i .u64 (.l 7)))),u (.store 1 (.t 1) (.t 13))] [12,13])))))) (.reg [o 14 (.mv (.t 0)),o 15 (.load false 1 (.t 1)),o 16 (.cv .u8 (.t 15)),o 17 (.call (.t 14) [(.t 16)])] [0,1,14,15,16,17]))
theorem qpe : FnIs Tryz.prog 111 18 [] qtw :=
  ⟨Tryz.f111, _, qok, Tryz.func111, rfl, rfl, by kernel_rfl, by kernel_rfl, Tryz.call111⟩
def qzach : Nat → List Nat := kk [[],[],[4],[5],[0,1,2,6,7,8],[9]]
def qzaal : IR :=
 (.seq (.reg [o 0 (.alloc (repS 512 [(.i .i64 (.l 0))]))] []) (.seq (.seq (.reg [o 3 (f 123 [])] []) (.block 0 (.rf (.t 3) [4,5] (.seq (.reg [o 1 (.mv (.t 4))] [4]) (.reg [o 2 (.alloc [(.i .i64 (.l 0)),(.i .i64 (.l 0))]),u (.store 2 (.t 2) (.t 5))] [5])) (.block 1 (.reg [o 6 (.mv (.t 1)),o 7 (.load true 2 (.t 2)),o 8 (.iadA 256 2 (.t 0) (.t 6)),u (.store 2 (.t 8) (.t 7))] [0,1,2,6,7,8]))))) (.seq (.reg [o 9 (.load true 512 (.t 0)),u (.store 512 (.t 0) (.t 9))] [9]) .ret)))
theorem qzacq : FnIs Tryz.prog 112 10 [.c 0 true 512] qzaal :=
  ⟨Tryz.f112, _, qzach, Tryz.func112, rfl, rfl, by kernel_rfl, by kernel_rfl, Tryz.call112⟩
def qyu : Nat → List Nat := kk [[1,2,8,9,10,11,12,13],[4,14,15,16,17,18,19,20],[6,7,21,22,23,24,25,26],[0,5,28,29,30]]
def qzagl : IR :=
 (.seq (.reg [o 9 (.load false 1 (.t 1)),o 10 (.load false 1 (.t 2)),o 11 (.call (.t 9) [(.t 10)]),o 8 (.mv (.t 11)),o 12 (.ext (.t 8) 0),o 13 (.ext (.t 8) 1),o 4 (.mv (.t 12)),o 5 (.mv (.t 13))] [1,2,8,9,10,11,12,13]) (.seq (.reg [o 15 (.mv (.t 5)),o 16 (.len false (.t 15)),o 17 (.mv (.t 4)),o 18 (f 76 [(.t 16),(z 7),(.t 17)]),o 14 (.mv (.t 18)),o 19 (.ext (.t 14) 0),o 20 (.ext (.t 14) 1),o 6 (.mv (.t 19)),o 7 (.mv (.t 20))] [4,14,15,16,17,18,19,20]) (.seq (.reg [o 21 (.mv (.t 7)),o 22 (.bin .eq (.t 21) (z 0)),o 23 (.mv (.t 22)),q 24 (.mv (.t 0)) 23 true,q 25 (.mv (.t 6)) 23 true,q 26 (.call (.t 24) [(.t 25)]) 23 true,o 27 (.pick (.t 23) (.t 26) (.c .ff))] [6,7,21,22,23,24,25,26]) (.cond (.t 27) (.reg [o 28 (.mv (.t 0)),o 29 (.mv (.t 5)),o 30 (.call (.t 28) [(.t 29)])] [0,5,28,29,30]) .skip))))
theorem qoc : FnIs Tryz.prog 113 31 [] qzagl :=
  ⟨Tryz.f113, _, qyu, Tryz.func113, rfl, rfl, by kernel_rfl, by kernel_rfl, Tryz.call113⟩
def qov : Nat → List Nat := kk [[2,3],[5,6,7],[0,8,9],[11,12,13],[0,14,15,16],[18,19,20],[0,21,22,23],[0,24,25,26]]
def qum : IR :=
 (.seq (.reg [o 2 (.mv (z 0)),o 3 (.mv (z 0))] [2,3]) (.seq (.block 0 (.seq (.reg [o 5 (.mv (.t 0)),o 6 (f 124 [(.c (.s [45,47,48,49,50,51,97,99,101,105,110,111,114,115,116,117])),(.t 5)]),o 7 (.bin .ge (.t 6) (z 0)),o 4 (.mv (.t 7))] [5,6,7]) (.cond (.t 4) (.seq (.reg [o 8 (.mv (.t 0)),o 9 (f 124 [(.c (.s [45,47,48,49,50,51,97,99,101,105,110,111,114,115,116,117])),(.t 8)]),o 2 (.mv (.t 9)),o 3 (.mv (z 5))] [0,8,9]) .ret) (.seq (.reg [o 11 (.mv (.t 0)),o 12 (f 124 [(.c (.s [46,52,53,54,55,56,57,58,98,100,102,103,104,108,109,112])),(.t 11)]),o 13 (.bin .ge (.t 12) (z 0)),o 10 (.mv (.t 13))] [11,12,13]) (.cond (.t 10) (.seq (.reg [o 14 (.mv (.t 0)),o 15 (f 124 [(.c (.s [46,52,53,54,55,56,57,58,98,100,102,103,104,108,109,112])),(.t 14)]),o 16 (.bin .add (z 32) (.t 15)),o 2 (.mv (.t 16)),o 3 (.mv (z 6))] [0,14,15,16]) .ret) (.seq (.reg [o 18 (.mv (.t 0)),o 19 (f 124 [(.c (.s [65,66,67,68,69,70,71,72,106,107,113,118,119,120,121,122])),(.t 18)]),o 20 (.bin .ge (.t 19) (z 0)),o 17 (.mv (.t 20))] [18,19,20]) (.cond (.t 17) (.seq (.reg [o 21 (.mv (.t 0)),o 22 (f 124 [(.c (.s [65,66,67,68,69,70,71,72,106,107,113,118,119,120,121,122])),(.t 21)]),o 23 (.bin .add (z 96) (.t 22)),o 2 (.mv (.t 23)),o 3 (.mv (z 7))] [0,21,22,23]) .ret) .skip))))))) (.seq (.reg [o 24 (.mv (.t 0)),o 25 (f 125 [(.t 24)]),o 26 (.bin .add (z 1792) (.t 25)),o 2 (.mv (.t 26)),o 3 (.mv (z 11))] [0,24,25,26]) .ret)))
theorem qpp : FnIs Tryz.prog 114 27 [.t 2, .t 3] qum :=
  ⟨Tryz.f114, _, qov, Tryz.func114, rfl, rfl, by kernel_rfl, by kernel_rfl, Tryz.call114⟩
def qqv : Nat → List Nat := kk [[8,9,10],[15,16,17,18,19,20,21,22,23,24,25,26,27,28,29,30,31,32,33,34,35,36,37,38,39,40,41,42,43,44,45,46,47,48,49],[],[3,51,52,53],[54,55,56,57],[],[58,59],[61,62],[14],[63,64],[66,67,68,69,70,71],[72,73,74,75,76,77,78,79],[14,80,81,82,83,84,85,86,87,88,89,90,91,92,93,94,95,96],[11,12,97,98]]
def qkh : List Nat := [3,4,5,6,7,8,9,10,14,15,16,17,18,19,20,21,22,23,24,25,26,27,28,29,30,31,32,33,34,35,36,37,38,39,40,41,42,43,44,45,46,47,48,49,50,51,52,53,54,55,56,57,58,59,60,61,62,63,64,65,66,67,68,69,70,71,72,73,74,75,76,77,78,79,80,81,82,83,84,85,86,87,88,89,90,91,92,93,94,95,96,97,98]
def qya : IR :=
 (.seq (.reg [o 8 (.mv (.c (.re (.slice none 0 0)))),o 9 (.mv (z 0)),o 10 (.mv (z 0))] [8,9,10]) (.seq (.seq (.reg [o 15 (.mv (.t 3)),o 16 (.bin .lt (.t 15) (z 0)),o 17 (.mv (.t 16)),q 18 (.mv (.t 3)) 17 false,q 19 (.bin .gt (.t 18) (z 30)) 17 false,o 20 (.pick (.t 17) (.c .tt) (.t 19)),o 21 (.mv (.t 20)),q 22 (.mv (.t 2)) 21 false,q 23 (.bin .lt (.t 22) (z 0)) 21 false,o 24 (.pick (.t 21) (.c .tt) (.t 23)),o 25 (.mv (.t 24)),q 26 (.mv (.t 2)) 25 false,q 27 (.mv (.t 3)) 25 false,q 28 (.cv .u64 (.t 27)) 25 false,q 29 (.bin .shl (z 1) (.t 28)) 25 false,q 30 (.bin .ge (.t 26) (.t 29)) 25 false,o 31 (.pick (.t 25) (.c .tt) (.t 30)),o 32 (.mv (.t 31)),q 33 (.mv (.t 1)) 32 false,q 34 (.bin .lt (.t 33) (z 0)) 32 false,o 35 (.pick (.t 32) (.c .tt) (.t 34)),o 36 (.mv (.t 35)),q 37 (.mv (.t 1)) 36 false,q 38 (.mv (.t 0)) 36 false,q 39 (.len false (.t 38)) 36 false,q 40 (.bin .mul (z 8) (.t 39)) 36 false,q 41 (.bin .gt (.t 37) (.t 40)) 36 false,o 42 (.pick (.t 36) (.c .tt) (.t 41)),o 43 (.mv (.t 42)),q 44 (.mv (.t 0)) 43 false,q 45 (.len false (.t 44)) 43 false,q 46 (.bin .mul (z 8) (.t 45)) 43 false,q 47 (.mv (.t 1)) 43 false,q 48 (.bin .sub (.t 46) (.t 47)) 43 false,q 49 (.bin .ge (.t 48) (z 8)) 43 false,o 50 (.pick (.t 43) (.c .tt) (.t 49))] [15,16,17,18,19,20,21,22,23,24,25,26,27,28,29,30,31,32,33,34,35,36,37,38,39,40,41,42,43,44,45,46,47,48,49]) (.cond (.t 50) (.seq (.reg [o 8 (.mv (.c (.re (.slice none 0 0)))),o 9 (.mv (z 0)),o 10 (.mv (z 2))] []) .ret) .skip)) (.seq (.reg [o 51 (.mv (.t 1)),o 52 (.mv (.t 3)),o 53 (.bin .add (.t 51) (.t 52)),o 11 (.mv (.t 53))] [3,51,52,53]) (.seq (.reg [o 54 (.mv (.t 11)),o 55 (.bin .add (.t 54) (z 7)),o 56 (.bin .quo (.t 55) (z 8)),o 57 (.mkS 1 [(.i .u8 (.l 0))] (.t 56) (.t 56)),o 12 (.mv (.t 57))] [54,55,56,57]) (.seq (.seq (.reg [o 13 (.mv (z 0))] []) (.block 0 (.loop (.seq (.seq (.reg [o 58 (.mv (.t 13)),o 59 (.mv (.t 11)),o 60 (.bin .lt (.t 58) (.t 59))] [58,59]) (.cond (.t 60) .skip (.exit 0))) (.seq (.block 1 (.seq (.reg [o 14 (.mv (z 0))] [14]) (.seq (.seq (.reg [o 63 (.mv (.t 13)),o 64 (.mv (.t 1)),o 65 (.bin .lt (.t 63) (.t 64))] [63,64]) (.cond (.t 65) (.reg [o 67 (.mv (.t 0)),o 68 (.mv (.t 13)),o 69 (f 126 [(.t 67),(.t 68)]),o 66 (.mv (.t 69)),o 70 (.ext (.t 66) 0),o 71 (.ext (.t 66) 1),o 14 (.mv (.t 70))] [66,67,68,69,70,71]) (.reg [o 72 (.mv (.t 2)),o 73 (.mv (.t 11)),o 74 (.bin .sub (.t 73) (z 1)),o 75 (.mv (.t 13)),o 76 (.bin .sub (.t 74) (.t 75)),o 77 (.cv .u64 (.t 76)),o 78 (.bin .shr (.t 72) (.t 77)),o 79 (.bin .rem (.t 78) (z 2)),o 14 (.mv (.t 79))] [72,73,74,75,76,77,78,79]))) (.reg [o 80 (.mv (.t 12)),o 81 (.mv (.t 13)),o 82 (.bin .quo (.t 81) (z 8)),o 83 (.mv (.t 12)),o 84 (.mv (.t 13)),o 85 (.bin .quo (.t 84) (z 8)),o 86 (.iadS 1 (.t 83) (.t 85)),o 87 (.load false 1 (.t 86)),o 88 (.mv (.t 14)),o 89 (.mv (.t 13)),o 90 (.bin .rem (.t 89) (z 8)),o 91 (.bin .sub (z 7) (.t 90)),o 92 (.cv .u64 (.t 91)),o 93 (.bin .shl (.t 88) (.t 92)),o 94 (.cv .u8 (.t 93)),o 95 (.bin .add (.t 87) (.t 94)),o 96 (.iadS
 1 (.t 80) (.t 82)),u (.store 1 (.t 96) (.t 95))] [14,80,81,82,83,84,85,86,87,88,89,90,91,92,93,94,95,96])))) (.reg [o 61 (.mv (.t 13)),o 62 (.bin .add (.t 61) (z 1)),o 13 (.mv (.t 62))] [61,62])))))) (.seq (.reg [o 97 (.mv (.t 12)),o 98 (.mv (.t 11)),o 8 (.mv (.t 97)),o 9 (.mv (.t 98)),o 10 (.mv (z 0))] [11,12,97,98]) .ret))))))
theorem qrf : FnIs Tryz.prog 115 99 [.t 8, .t 9, .t 10] qya :=
  ⟨Tryz.f115, _, qqv, Tryz.func115, rfl, rfl, by kernel_rfl, by kernel_rfl, Tryz.call115⟩
def qlh : Nat → List Nat := kk [[9,10],[12,13],[5,15,16,17,18,19],[20,21,22,23,24],[6,26,27,28],[29,30,31],[32],[34,35,36,37,38],[8,39,40,41],[7,43,44,45,46,47,48],[0,2,49,50,51]]
def qhp : List Nat := [4,5,6,7,8,9,10,11,12,13,14,15,16,17,18,19,20,21,22,23,24,25,26,27,28,29,30,31,32,33,34,35,36,37,38,39,40,41,42,43,44,45,46,47,48,49,50,51]
def qqf : IR :=
 (.seq (.seq (.reg [o 9 (.load false 1 (.t 1)),o 10 (.len true (.t 9)),o 11 (.bin .eq (.t 10) (z 0))] [9,10]) (.cond (.t 11) (.seq (.block 0 (.loop (.seq (.seq (.reg [o 12 (.load false 1 (.t 2)),o 13 (.len true (.t 12)),o 14 (.bin .gt (.t 13) (z 0))] [12,13]) (.cond (.t 14) .skip (.exit 0))) (.block 1 (.seq (.reg [o 16 (.load false 1 (.t 2)),o 17 (f 117 [(.t 16)]),o 15 (.mv (.t 17)),o 18 (.ext (.t 15) 0),o 19 (.ext (.t 15) 1),o 5 (.mv (.t 18)),o 6 (.mv (.t 19))] [5,15,16,17,18,19]) (.seq (.seq (.reg [o 20 (.mv (.t 0)),o 21 (.load false 1 (.t 2)),o 22 (.mv (.t 6)),o 23 (.slcS (.t 21) none (some (.t 22))),o 24 (.call (.t 20) [(.t 23)]),o 25 (.not (.t 24))] [20,21,22,23,24]) (.cond (.t 25) .ret .skip)) (.reg [o 26 (.load false 1 (.t 2)),o 27 (.mv (.t 6)),o 28 (.slcS (.t 26) (some (.t 27)) none),u (.store 1 (.t 2) (.t 28))] [6,26,27,28]))))))) .ret) .skip)) (.seq (.block 2 (.loop (.block 3 (.seq (.reg [o 29 (.load false 1 (.t 2)),o 30 (.load false 1 (.t 1)),o 31 (f 118 [(.t 29),(.t 30)]),o 7 (.mv (.t 31))] [29,30,31]) (.seq (.seq (.reg [o 32 (.mv (.t 7)),o 33 (.bin .lt (.t 32) (z 0))] [32]) (.cond (.t 33) (.exit 2) .skip)) (.seq (.reg [o 34 (.load false 1 (.t 2)),o 35 (.mv (.t 7)),o 36 (.load false 1 (.t 3)),o 37 (.bin .add (.t 35) (.t 36)),o 38 (.slcS (.t 34) none (some (.t 37))),o 8 (.mv (.t 38))] [34,35,36,37,38]) (.seq (.seq (.reg [o 39 (.mv (.t 0)),o 40 (.mv (.t 8)),o 41 (.call (.t 39) [(.t 40)]),o 42 (.not (.t 41))] [8,39,40,41]) (.cond (.t 42) .ret .skip)) (.reg [o 43 (.load false 1 (.t 2)),o 44 (.mv (.t 7)),o 45 (.load false 1 (.t 1)),o 46 (.len true (.t 45)),o 47 (.bin .add (.t 44) (.t 46)),o 48 (.slcS (.t 43) (some (.t 47)) none),u (.store 1 (.t 2) (.t 48))] [7,43,44,45,46,47,48])))))))) (.reg [o 49 (.mv (.t 0)),o 50 (.load false 1 (.t 2)),o 51 (.call (.t 49) [(.t 50)])] [0,2,49,50,51])))
theorem qlr : FnIs Tryz.prog 116 52 [] qqf :=
  ⟨Tryz.f116, _, qlh, Tryz.func116, rfl, rfl, by kernel_rfl, by kernel_rfl, Tryz.call116⟩
def qty : Nat → List Nat := kk [[4],[0,1,5,6,7]]
def qzabd : IR :=
 (.seq (.reg [o 4 (.mv (z 0))] [4]) (.seq (.reg [o 5 (.mv (.t 0)),o 6 (.mv (.t 1)),o 7 (f 119 [(.t 5),(.t 6)]),o 4 (.mv (.t 7))] [0,1,5,6,7]) .ret))
theorem qua : FnIs Tryz.prog 118 8 [.t 4] qzabd :=
  ⟨Tryz.f118, _, qty, Tryz.func118, rfl, rfl, by kernel_rfl, by kernel_rfl, Tryz.call118⟩
def qnb : Nat → List Nat := kk [[4],[14,15],[17,18,19,20,21,22,23],[],[25,26],[0,1,27,28,29,30],[32,33,34,35],[],[37,38,39,40,41,42,43,44],[0,1,45,46,47],[48,49],[50,51],[],[52,53,54,55,56],[],[57,58],[60,61,62,63],[65,66,67,68,69,70,71],[72],[],[11,74,75,76,77],[78,79,80,81,82,83,84,85,86,87,88,89,90,91,92],[8,94],[95,96],[97,98],[99,100,101,102,103,104,105,106],[0,1,108,109,110,111,112],[113],[8,12,115,116,117],[],[118,119,120,121,122,123,124,125,126,127,128,129,130,131],[0,1,133,134,135,136,137],[138],[],[8,13,140,141,142]]
def qrw : IR :=
 (.seq (.reg [o 4 (.mv (z 0))] [4]) (.seq (.reg [o 14 (.mv (.t 1)),o 15 (.len true (.t 14)),o 5 (.mv (.t 15))] [14,15]) (.seq (.block 0 (.seq (.reg [o 17 (.mv (.t 5)),o 18 (.bin .eq (.t 17) (z 0)),o 19 (.mv (.t 18)),q 20 (.mv (.t 1)) 19 false,q 21 (.mv (.t 0)) 19 false,q 22 (.bin .eq (.t 20) (.t 21)) 19 false,o 23 (.pick (.t 19) (.c .tt) (.t 22)),o 16 (.mv (.t 23))] [17,18,19,20,21,22,23]) (.cond (.t 16) (.seq (.reg [o 4 (.mv (z 0))] []) .ret) (.seq (.reg [o 25 (.mv (.t 5)),o 26 (.bin .eq (.t 25) (z 1)),o 24 (.mv (.t 26))] [25,26]) (.cond (.t 24) (.seq (.reg [o 27 (.mv (.t 0)),o 28 (.mv (.t 1)),o 29 (.ixS (.t 28) (z 0)),o 30 (f 128 [(.t 27),(.t 29)]),o 4 (.mv (.t 30))] [0,1,27,28,29,30]) .ret) (.seq (.reg [o 32 (.mv (.t 5)),o 33 (.mv (.t 0)),o 34 (.len true (.t 33)),o 35 (.bin .ge (.t 32) (.t 34)),o 31 (.mv (.t 35))] [32,33,34,35]) (.cond (.t 31) (.seq (.reg [o 4 (.mv (z (-1)))] []) .ret) (.seq (.reg [o 37 (.mv (.t 5)),o 38 (.load false 1 (.c .any)),o 39 (.bin .le (.t 37) (.t 38)),o 40 (.mv (.t 39)),q 41 (.mv (.t 0)) 40 true,q 42 (.len true (.t 41)) 40 true,q 43 (.bin .le (.t 42) (z 64)) 40 true,o 44 (.pick (.t 40) (.t 43) (.c .ff)),o 36 (.mv (.t 44))] [37,38,39,40,41,42,43,44]) (.cond (.t 36) (.seq (.reg [o 45 (.mv (.t 0)),o 46 (.mv (.t 1)),o 47 (f 129 [(.t 45),(.t 46)]),o 4 (.mv (.t 47))] [0,1,45,46,47]) .ret) .skip))))))))) (.seq (.reg [o 48 (.mv (.t 1)),o 49 (.ixS (.t 48) (z 0)),o 6 (.mv (.t 49))] [48,49]) (.seq (.reg [o 50 (.mv (.t 1)),o 51 (.ixS (.t 50) (z 1)),o 7 (.mv (.t 51))] [50,51]) (.seq (.reg [o 8 (.mv (z 0))] []) (.seq (.reg [o 52 (.mv (.t 0)),o 53 (.len true (.t 52)),o 54 (.mv (.t 5)),o 55 (.bin .sub (.t 53) (.t 54)),o 56 (.bin .add (.t 55) (z 1)),o 9 (.mv (.t 56))] [52,53,54,55,56]) (.seq (.reg [o 10 (.mv (z 0))] []) (.seq (.block 1 (.loop (.seq (.seq (.reg [o 57 (.mv (.t 8)),o 58 (.mv (.t 9)),o 59 (.bin .lt (.t 57) (.t 58))] [57,58]) (.cond (.t 59) .skip (.exit 1))) (.block 2 (.seq (.seq (.reg [o 60 (.mv (.t 0)),o 61 (.mv (.t 8)),o 62 (.ixS (.t 60) (.t 61)),o 63 (.mv (.t 6)),o 64 (.bin .ne (.t 62) (.t 63))] [60,61,62,63]) (.cond (.t 64) (.seq (.reg [o 65 (.mv (.t 0)),o 66 (.mv (.t 8)),o 67 (.bin .add (.t 66) (z 1)),o 68 (.mv (.t 9)),o 69 (.slcS (.t 65) (some (.t 67)) (some (.t 68))),o 70 (.mv (.t 6)),o 71 (f 128 [(.t 69),(.t 70)]),o 11 (.mv (.t 71))] [65,66,67,68,69,70,71]) (.seq (.seq (.reg [o 72 (.mv (.t 11)),o 73 (.bin .lt (.t 72) (z 0))] [72]) (.cond (.t 73) (.seq (.reg [o 4 (.mv (z (-1)))] []) .ret) .skip)) (.reg [o 74 (.mv (.t 8)),o 75 (.mv (.t 11)),o 76 (.bin .add (.t 75) (z 1)),o 77 (.bin .add (.t 74) (.t 76)),o 8 (.mv (.t 77))] [11,74,75,76,77]))) .skip)) (.seq (.seq (.reg [o 78 (.mv (.t 0)),o 79 (.mv (.t 8)),o 80 (.bin .add (.t 79) (z 1)),o 81 (.ixS (.t 78) (.t 80)),o 82 (.mv (.t 7)),o 83 (.bin .eq (.t 81) (.t 82)),o 84 (.mv (.t 83)),q 85 (.mv (.t 0)) 84 true,q 86 (.mv (.t 8)) 84 true,q 87 (.mv (.t 8)) 84 true,q 88 (.mv (.t 5)) 84 true,q 89 (.bin .add (.t 87) (.t 88)) 84 true,q 90 (.slcS (.t 85) (some (.t 86)) (some (.t
 89))) 84 true,q 91 (.mv (.t 1)) 84 true,q 92 (.bin .eq (.t 90) (.t 91)) 84 true,o 93 (.pick (.t 84) (.t 92) (.c .ff))] [78,79,80,81,82,83,84,85,86,87,88,89,90,91,92]) (.cond (.t 93) (.seq (.reg [o 94 (.mv (.t 8)),o 4 (.mv (.t 94))] [8,94]) .ret) .skip)) (.seq (.reg [o 95 (.mv (.t 8)),o 96 (.bin .add (.t 95) (z 1)),o 8 (.mv (.t 96))] [95,96]) (.seq (.reg [o 97 (.mv (.t 10)),o 98 (.bin .add (.t 97) (z 1)),o 10 (.mv (.t 98))] [97,98]) (.seq (.reg [o 99 (.mv (.t 5)),o 100 (.load false 1 (.c .any)),o 101 (.bin .le (.t 99) (.t 100)),o 102 (.mv (.t 101)),q 103 (.mv (.t 10)) 102 true,q 104 (.mv (.t 8)) 102 true,q 105 (f 130 [(.t 104)]) 102 true,q 106 (.bin .gt (.t 103) (.t 105)) 102 true,o 107 (.pick (.t 102) (.t 106) (.c .ff))] [99,100,101,102,103,104,105,106]) (.cond (.t 107) (.seq (.reg [o 108 (.mv (.t 0)),o 109 (.mv (.t 8)),o 110 (.slcS (.t 108) (some (.t 109)) none),o 111 (.mv (.t 1)),o 112 (f 129 [(.t 110),(.t 111)]),o 12 (.mv (.t 112))] [0,1,108,109,110,111,112]) (.seq (.seq (.reg [o 113 (.mv (.t 12)),o 114 (.bin .ge (.t 113) (z 0))] [113]) (.cond (.t 114) (.seq (.reg [o 115 (.mv (.t 12)),o 116 (.mv (.t 8)),o 117 (.bin .add (.t 115) (.t 116)),o 4 (.mv (.t 117))] [8,12,115,116,117]) .ret) .skip)) (.seq (.reg [o 4 (.mv (z (-1)))] []) .ret))) (.seq (.reg [o 118 (.mv (.t 5)),o 119 (.load false 1 (.c .any)),o 120 (.bin .gt (.t 118) (.t 119)),o 121 (.mv (.t 120)),q 122 (.mv (.t 10)) 121 true,q 123 (.mv (.t 8)) 121 true,q 124 (.bin .shr (.t 123) (.c (.i .u64 (.l 4)))) 121 true,q 125 (.bin .add (z 4) (.t 124)) 121 true,q 126 (.bin .ge (.t 122) (.t 125)) 121 true,o 127 (.pick (.t 121) (.t 126) (.c .ff)),o 128 (.mv (.t 127)),q 129 (.mv (.t 8)) 128 true,q 130 (.mv (.t 9)) 128 true,q 131 (.bin .lt (.t 129) (.t 130)) 128 true,o 132 (.pick (.t 128) (.t 131) (.c .ff))] [118,119,120,121,122,123,124,125,126,127,128,129,130,131]) (.cond (.t 132) (.seq (.reg [o 133 (.mv (.t 0)),o 134 (.mv (.t 8)),o 135 (.slcS (.t 133) (some (.t 134)) none),o 136 (.mv (.t 1)),o 137 (f 131 [(.t 135),(.t 136)]),o 13 (.mv (.t 137))] [0,1,133,134,135,136,137]) (.seq (.seq (.reg [o 138 (.mv (.t 13)),o 139 (.bin .lt (.t 138) (z 0))] [138]) (.cond (.t 139) (.seq (.reg [o 4 (.mv (z (-1)))] []) .ret) .skip)) (.seq (.reg [o 140 (.mv (.t 8)),o 141 (.mv (.t 13)),o 142 (.bin .add (.t 140) (.t 141)),o 4 (.mv (.t 142))] [8,13,140,141,142]) .ret))) .skip)))))))))))) (.seq (.reg [o 4 (.mv (z (-1)))] []) .ret))))))))))
theorem qnn : FnIs Tryz.prog 119 143 [.t 4] qrw :=
  ⟨Tryz.f119, _, qnb, Tryz.func119, rfl, rfl, by kernel_rfl, by kernel_rfl, Tryz.call119⟩
def qfr : Nat → List Nat := kk [[2],[3],[],[0,5,6,7]]
def qhj : IR :=
 (.seq (.reg [o 2 (.mv (.c (.re (.slice none 0 0))))] [2]) (.seq (.seq (.reg [o 3 (.mv (.t 0)),o 4 (.nilS false (.t 3))] [3]) (.cond (.t 4) (.seq (.reg [o 2 (.mv (.c (.re (.slice none 0 0))))] []) .ret) .skip)) (.seq (.reg [o 5 (.buildS 1 0 [(.i .u8 (.l 0))] []),o 6 (.mv (.t 0)),o 7 (.app 1 (.t 5) (.t 6)),o 2 (.mv (.t 7))] [0,5,6,7]) .ret)))
theorem qft : FnIs Tryz.prog 120 8 [.t 2] qhj :=
  ⟨Tryz.f120, _, qfr, Tryz.func120, rfl, rfl, by kernel_rfl, by kernel_rfl, Tryz.call120⟩
def qzafc : Nat → List Nat := kk [[3],[13],[6],[],[],[17],[18,19,20,21,22,23,24],[10,25],[9,27,28,29,30,31,32,33,34],[12],[11,36,37,38,39],[8,40,41,42],[43],[44,45,46,47,48],[49],[0,51,52,53,54,55,56,57,58,59,60,61],[5,6,62,63,64,65],[67]]
def qzaff : IR :=
 (.seq (.reg [o 2 (.mv (.c (.re (.slice none 0 0)))),o 3 (.mv (z 0))] [3]) (.scope (.seq (.reg [o 13 (f 132 []),o 4 (.mv (.t 13)),o 5 (.mv (z 0))] [13]) (.seq (.reg [o 6 (.mv (z 0))] [6]) (.seq (.label 0) (.seq (.seq (.reg [o 14 (.build [(.i .i64 (.l 0)),(.i .i64 (.l 0)),(.i .i64 (.l 0)),(.i .i64 (.l 0))] [(0,1,(z 5)),(1,1,(z 6)),(2,1,(z 7)),(3,1,(z 11))]),o 15 (.mv (z 0))] []) (.block 0 (.loop (.seq (.reg [o 16 (.bin .lt (.t 15) (z 4))] []) (.seq (.cond (.t 16) .skip (.exit 0)) (.seq (.block 1 (.seq (.reg [o 17 (.ixA false 4 1 (.t 14) (.t 15)),o 8 (.mv (.t 17))] [17]) (.seq (.reg [o 19 (.mv (.t 0)),o 20 (.mv (.t 5)),o 21 (.mv (.t 8)),o 22 (f 133 [(.t 19),(.t 20),(.t 21)]),o 18 (.mv (.t 22)),o 23 (.ext (.t 18) 0),o 24 (.ext (.t 18) 1),o 9 (.mv (.t 23)),o 10 (.mv (.t 24))] [18,19,20,21,22,23,24]) (.seq (.seq (.reg [o 25 (.mv (.t 10)),o 26 (.not (.t 25))] [10,25]) (.cond (.t 26) (.exit 0) .skip)) (.seq (.reg [o 28 (.mv (.t 4)),o 29 (.mv (.t 9)),o 30 (.mv (.t 8)),o 31 (.build [(.i .i64 (.l 0)),(.i .i64 (.l 0))] [(0,1,(.t 29)),(1,1,(.t 30))]),o 32 (.look ⟨true,[.ki,.ki]⟩ (.i .u8 (.l 0)) true (.t 28) (.t 31)),o 27 (.mv (.t 32)),o 33 (.ext (.t 27) 0),o 34 (.ext (.t 27) 1),o 11 (.mv (.t 33)),o 12 (.mv (.t 34))] [9,27,28,29,30,31,32,33,34]) (.seq (.reg [o 35 (.mv (.t 12))] [12]) (.cond (.t 35) (.seq (.reg [o 36 (.mv (.t 2)),o 37 (.mv (.t 11)),o 38 (.buildS 1 1 [(.i .u8 (.l 0))] [(0,(.t 37))]),o 39 (.app 1 (.t 36) (.t 38)),o 2 (.mv (.t 39))] [11,36,37,38,39]) (.seq (.reg [o 40 (.mv (.t 5)),o 41 (.mv (.t 8)),o 42 (.bin .add (.t 40) (.t 41)),o 5 (.mv (.t 42))] [8,40,41,42]) (.goto 0))) .skip))))))) (.reg [o 43 (.bin .add (.t 15) (z 1)),o 15 (.mv (.t 43))] [43]))))))) (.seq (.seq (.reg [o 44 (.mv (.t 0)),o 45 (.len false (.t 44)),o 46 (.bin .mul (z 8) (.t 45)),o 47 (.mv (.t 5)),o 48 (.bin .sub (.t 46) (.t 47)),o 5 (.mv (.t 48))] [44,45,46,47,48]) (.seq (.reg [o 49 (.mv (.t 5)),o 50 (.bin .gt (.t 49) (z 7))] [49]) (.cond (.t 50) (.goto 1) .skip))) (.seq (.reg [o 52 (.mv (.t 0)),o 53 (.mv (.t 0)),o 54 (.len false (.t 53)),o 55 (.bin .mul (z 8) (.t 54)),o 56 (.mv (.t 5)),o 57 (.bin .sub (.t 55) (.t 56)),o 58 (.mv (.t 5)),o 59 (f 133 [(.t 52),(.t 57),(.t 58)]),o 51 (.mv (.t 59)),o 60 (.ext (.t 51) 0),o 61 (.ext (.t 51) 1),o 6 (.mv (.t 60))] [0,51,52,53,54,55,56,57,58,59,60,61]) (.seq (.seq (.reg [o 62 (.mv (.t 6)),o 63 (.mv (.t 5)),o 64 (.bin .shl (z 1) (.t 63)),o 65 (.bin .sub (.t 64) (z 1)),o 66 (.bin .eq (.t 62) (.t 65))] [5,6,62,63,64,65]) (.cond (.t 66) (.seq (.reg [o 67 (.mv (.t 2)),o 2 (.mv (.t 67)),o 3 (.mv (z 0))] [67]) .ret) .skip)) (.seq (.label 1) (.seq (.reg [o 2 (.mv (.c (.re (.slice none 0 0)))),o 3 (.mv (z 70))] []) .ret)))))))))))
theorem qzaft : FnIs Tryz.prog 121 68 [.t 2, .t 3] qzaff :=
  ⟨Tryz.f121, _, qzafc, Tryz.func121, rfl, rfl, by kernel_rfl, by kernel_rfl, Tryz.call121⟩
def qou : Nat → List Nat := kk [[2,3],[],[],[11,12,13,14,15,16],[17],[6,19,20,21,22],[7,23,24,25],[26,27,28,29,30],[31],[],[0,5,10,33,34,35,36,37,38,39],[8,9,40,41,42,43,44],[],[4,46]]
def qjo : List Nat := [1,2,3,6,7,8,9,10,11,12,13,14,15,16,17,18,19,20,21,22,23,24,25,26,27,28,29,30,31,32,33,34,35,36,37,38,39,40,41,42,43,44,45,46]
def qul : IR :=
 (.seq (.reg [o 2 (.mv (.c (.re (.slice none 0 0)))),o 3 (.mv (z 0))] [2,3]) (.seq (.reg [o 4 (.mv (.c (.re (.slice none 0 0))))] []) (.seq (.reg [o 5 (.mv (z 0))] []) (.seq (.block 0 (.loop (.block 1 (.seq (.reg [o 12 (.mv (.t 0)),o 13 (.mv (.t 5)),o 14 (f 134 [(.t 12),(.t 13)]),o 11 (.mv (.t 14)),o 15 (.ext (.t 11) 0),o 16 (.ext (.t 11) 1),o 6 (.mv (.t 15)),o 7 (.mv (.t 16))] [11,12,13,14,15,16]) (.seq (.seq (.reg [o 17 (.mv (.t 7)),o 18 (.bin .eq (.t 17) (z 0))] [17]) (.cond (.t 18) (.exit 0) .skip)) (.seq (.reg [o 19 (.mv (.t 4)),o 20 (.mv (.t 6)),o 21 (.buildS 1 1 [(.i .u8 (.l 0))] [(0,(.t 20))]),o 22 (.app 1 (.t 19) (.t 21)),o 4 (.mv (.t 22))] [6,19,20,21,22]) (.reg [o 23 (.mv (.t 5)),o 24 (.mv (.t 7)),o 25 (.bin .add (.t 23) (.t 24)),o 5 (.mv (.t 25))] [7,23,24,25]))))))) (.seq (.reg [o 26 (.mv (.t 0)),o 27 (.len false (.t 26)),o 28 (.bin .mul (z 8) (.t 27)),o 29 (.mv (.t 5)),o 30 (.bin .sub (.t 28) (.t 29)),o 8 (.mv (.t 30))] [26,27,28,29,30]) (.seq (.seq (.reg [o 31 (.mv (.t 8)),o 32 (.bin .gt (.t 31) (z 7))] [31]) (.cond (.t 32) (.seq (.reg [o 2 (.mv (.c (.re (.slice none 0 0)))),o 3 (.mv (z 70))] []) .ret) .skip)) (.seq (.reg [o 34 (.mv (.t 0)),o 35 (.mv (.t 5)),o 36 (.mv (.t 8)),o 37 (f 135 [(.t 34),(.t 35),(.t 36)]),o 33 (.mv (.t 37)),o 38 (.ext (.t 33) 0),o 39 (.ext (.t 33) 1),o 9 (.mv (.t 38)),o 10 (.mv (.t 39))] [0,5,10,33,34,35,36,37,38,39]) (.seq (.seq (.reg [o 40 (.mv (.t 9)),o 41 (.mv (.t 8)),o 42 (.cv .u64 (.t 41)),o 43 (.bin .shl (z 1) (.t 42)),o 44 (.bin .sub (.t 43) (z 1)),o 45 (.bin .ne (.t 40) (.t 44))] [8,9,40,41,42,43,44]) (.cond (.t 45) (.seq (.reg [o 2 (.mv (.c (.re (.slice none 0 0)))),o 3 (.mv (z 70))] []) .ret) .skip)) (.seq (.reg [o 46 (.mv (.t 4)),o 2 (.mv (.t 46)),o 3 (.mv (z 0))] [4,46]) .ret)))))))))
theorem qpo : FnIs Tryz.prog 122 47 [.t 2, .t 3] qul :=
  ⟨Tryz.f122, _, qou, Tryz.func122, rfl, rfl, by kernel_rfl, by kernel_rfl, Tryz.call122⟩
def qzaci : Nat → List Nat := kk [[0]]
def huff_bytes : IR :=
 (.seq (.reg [o 0 (.mv (.c (.re .nilFunc)))] [0]) (.seq (.reg [o 0 (.mv (.c (.fn (.func 136) [] [])))] []) .ret))
theorem qrc : FnIs Tryz.prog 123 1 [.t 0] huff_bytes :=
  ⟨Tryz.f123, _, qzaci, Tryz.func123, rfl, rfl, by kernel_rfl, by kernel_rfl, Tryz.call123⟩
def qnl : Nat → List Nat := kk [[4],[],[6,7,8],[10,11],[12,13,14,15],[5,17]]
def qil : List Nat := [2,3,4,6,7,8,9,10,11,12,13,14,15,16,17]
def qtl : IR :=
 (.seq (.reg [o 4 (.mv (z 0))] [4]) (.seq (.seq (.reg [o 5 (.mv (z 0))] []) (.block 0 (.loop (.seq (.seq (.reg [o 6 (.mv (.t 5)),o 7 (.mv (.t 0)),o 8 (.len true (.t 7)),o 9 (.bin .lt (.t 6) (.t 8))] [6,7,8]) (.cond (.t 9) .skip (.exit 0))) (.seq (.block 1 (.seq (.reg [o 12 (.mv (.t 0)),o 13 (.mv (.t 5)),o 14 (.ixS (.t 12) (.t 13)),o 15 (.mv (.t 1)),o 16 (.bin .eq (.t 14) (.t 15))] [12,13,14,15]) (.cond (.t 16) (.seq (.reg [o 17 (.mv (.t 5)),o 4 (.mv (.t 17))] [5,17]) .ret) .skip))) (.reg [o 10 (.mv (.t 5)),o 11 (.bin .add (.t 10) (z 1)),o 5 (.mv (.t 11))] [10,11])))))) (.seq (.reg [o 4 (.mv (z (-1)))] []) .ret)))
theorem qnt : FnIs Tryz.prog 124 18 [.t 4] qtl :=
  ⟨Tryz.f124, _, qnl, Tryz.func124, rfl, rfl, by kernel_rfl, by kernel_rfl, Tryz.call124⟩
def qlm : Nat → List Nat := kk [[2],[],[],[5,6,7],[9,10],[11,12,13],[15,16],[3,17]]
def qhs : List Nat := [1,2,5,6,7,8,9,10,11,12,13,14,15,16,17]
def qrs : IR :=
 (.seq (.reg [o 2 (.mv (z 0))] [2]) (.seq (.reg [o 3 (.mv (z 0))] []) (.seq (.seq (.reg [o 4 (.mv (z 0))] []) (.block 0 (.loop (.seq (.seq (.reg [o 5 (.mv (.t 4)),o 6 (.mv (.t 0)),o 7 (.cv .i64 (.t 6)),o 8 (.bin .lt (.t 5) (.t 7))] [5,6,7]) (.cond (.t 8) .skip (.exit 0))) (.seq (.block 1 (.seq (.reg [o 11 (.mv (.t 4)),o 12 (.cv .u8 (.t 11)),o 13 (f 124 [(.c (.s [45,47,48,49,50,51,97,99,101,105,110,111,114,115,116,117,46,52,53,54,55,56,57,58,98,100,102,103,104,108,109,112,65,66,67,68,69,70,71,72,106,107,113,118,119,120,121,122])),(.t 12)]),o 14 (.bin .lt (.t 13) (z 0))] [11,12,13]) (.cond (.t 14) (.reg [o 15 (.mv (.t 3)),o 16 (.bin .add (.t 15) (z 1)),o 3 (.mv (.t 16))] [15,16]) .skip))) (.reg [o 9 (.mv (.t 4)),o 10 (.bin .add (.t 9) (z 1)),o 4 (.mv (.t 10))] [9,10])))))) (.seq (.reg [o 17 (.mv (.t 3)),o 2 (.mv (.t 17))] [3,17]) .ret))))
theorem qlx : FnIs Tryz.prog 125 18 [.t 2] qrs :=
  ⟨Tryz.f125, _, qlm, Tryz.func125, rfl, rfl, by kernel_rfl, by kernel_rfl, Tryz.call125⟩
def qqw : Nat → List Nat := kk [[4,5],[8,9,10,11,12,13,14,15],[],[0,17,18,19,20,21,22],[],[23,24,25,26],[28,29],[30,31],[6,32,33]]
def qki : List Nat := [0,2,3,4,5,8,9,10,11,12,13,14,15,16,17,18,19,20,21,22,23,24,25,26,27,28,29,30,31,32,33]
def qyb : IR :=
 (.seq (.reg [o 4 (.mv (z 0)),o 5 (.mv (.c .ff))] [4,5]) (.seq (.seq (.reg [o 8 (.mv (.t 1)),o 9 (.bin .lt (.t 8) (z 0)),o 10 (.mv (.t 9)),q 11 (.mv (.t 1)) 10 false,q 12 (.bin .quo (.t 11) (z 8)) 10 false,q 13 (.mv (.t 0)) 10 false,q 14 (.len false (.t 13)) 10 false,q 15 (.bin .ge (.t 12) (.t 14)) 10 false,o 16 (.pick (.t 10) (.c .tt) (.t 15))] [8,9,10,11,12,13,14,15]) (.cond (.t 16) (.seq (.reg [o 4 (.mv (z 0)),o 5 (.mv (.c .ff))] []) .ret) .skip)) (.seq (.reg [o 17 (.mv (.t 0)),o 18 (.mv (.t 1)),o 19 (.bin .quo (.t 18) (z 8)),o 20 (.iadS 1 (.t 17) (.t 19)),o 21 (.load false 1 (.t 20)),o 22 (.cv .i64 (.t 21)),o 6 (.mv (.t 22))] [0,17,18,19,20,21,22]) (.seq (.seq (.reg [o 7 (.mv (z 0))] []) (.block 0 (.loop (.seq (.seq (.reg [o 23 (.mv (.t 7)),o 24 (.mv (.t 1)),o 25 (.bin .rem (.t 24) (z 8)),o 26 (.bin .sub (z 7) (.t 25)),o 27 (.bin .lt (.t 23) (.t 26))] [23,24,25,26]) (.cond (.t 27) .skip (.exit 0))) (.seq (.block 1 (.reg [o 30 (.mv (.t 6)),o 31 (.bin .quo (.t 30) (z 2)),o 6 (.mv (.t 31))] [30,31])) (.reg [o 28 (.mv (.t 7)),o 29 (.bin .add (.t 28) (z 1)),o 7 (.mv (.t 29))] [28,29])))))) (.seq (.reg [o 32 (.mv (.t 6)),o 33 (.bin .rem (.t 32) (z 2)),o 4 (.mv (.t 33)),o 5 (.mv (.c .tt))] [6,32,33]) .ret)))))
theorem qrg : FnIs Tryz.prog 126 34 [.t 4, .t 5] qyb :=
  ⟨Tryz.f126, _, qqw, Tryz.func126, rfl, rfl, by kernel_rfl, by kernel_rfl, Tryz.call126⟩
def qif : Nat → List Nat := kk [[4],[0,1,5,6,7]]
def qkq : IR :=
 (.seq (.reg [o 4 (.mv (z 0))] [4]) (.seq (.reg [o 5 (.mv (.t 0)),o 6 (.mv (.t 1)),o 7 (f 138 [(.t 5),(.t 6)]),o 4 (.mv (.t 7))] [0,1,5,6,7]) .ret))
theorem qdw : FnIs Tryz.prog 128 8 [.t 4] qkq :=
  ⟨Tryz.f128, _, qif, Tryz.func128, rfl, rfl, by kernel_rfl, by kernel_rfl, Tryz.call128⟩
def qzacg : Nat → List Nat := kk [[],[4],[],[6],[7],[1,2,3,8,9,10],[1,11]]
def qzaak : IR :=
 (.seq (.reg [o 0 (.mv (.c (.re (.map none))))] []) (.seq (.reg [o 4 .mkM,o 1 (.alloc [(.re (.map none))]),u (.store 1 (.t 1) (.t 4))] [4]) (.seq (.seq (.reg [o 5 (f 123 [])] []) (.block 0 (.rf (.t 5) [6,7] (.seq (.reg [o 2 (.mv (.t 6))] [6]) (.reg [o 3 (.alloc [(.i .i64 (.l 0)),(.i .i64 (.l 0))]),u (.store 2 (.t 3) (.t 7))] [7])) (.block 1 (.reg [o 8 (.load false 1 (.t 1)),o 9 (.load true 2 (.t 3)),o 10 (.mv (.t 2)),u (.mupd ⟨true,[.ki,.ki]⟩ (.t 8) (.t 9) (.t 10))] [1,2,3,8,9,10]))))) (.seq (.reg [o 11 (.load false 1 (.t 1)),o 0 (.mv (.t 11))] [1,11]) .ret))))
theorem qzacp : FnIs Tryz.prog 132 12 [.t 0] qzaak :=
  ⟨Tryz.f132, _, qzacg, Tryz.func132, rfl, rfl, by kernel_rfl, by kernel_rfl, Tryz.call132⟩
def qzacf : Nat → List Nat := kk [[6,7],[8],[0,1,10,11,12,13,14,15,16,17,18],[19,20,21,22,23],[],[0,1,2,25,26,27,28,29,30]]
def octet_Bits : IR :=
 (.seq (.reg [o 6 (.mv (z 0)),o 7 (.mv (.c .ff))] [6,7]) (.seq (.seq (.reg [o 8 (.mv (.t 2)),o 9 (.bin .eq (.t 8) (z 0))] [8]) (.cond (.t 9) (.seq (.reg [o 10 (.mv (.t 1)),o 11 (.bin .ge (.t 10) (z 0)),o 12 (.mv (.t 11)),q 13 (.mv (.t 1)) 12 true,q 14 (.mv (.t 0)) 12 true,q 15 (.len false (.t 14)) 12 true,q 16 (.bin .mul (z 8) (.t 15)) 12 true,q 17 (.bin .le (.t 13) (.t 16)) 12 true,o 18 (.pick (.t 12) (.t 17) (.c .ff)),o 6 (.mv (z 0)),o 7 (.mv (.t 18))] [0,1,10,11,12,13,14,15,16,17,18]) .ret) .skip)) (.seq (.seq (.reg [o 19 (.mv (.t 2)),o 20 (.bin .lt (.t 19) (z 0)),o 21 (.mv (.t 20)),q 22 (.mv (.t 2)) 21 false,q 23 (.bin .gt (.t 22) (z 30)) 21 false,o 24 (.pick (.t 21) (.c .tt) (.t 23))] [19,20,21,22,23]) (.cond (.t 24) (.seq (.reg [o 6 (.mv (z 0)),o 7 (.mv (.c .ff))] []) .ret) .skip)) (.seq (.reg [o 25 (.mv (.t 0)),o 26 (.mv (.t 1)),o 27 (.mv (.t 2)),o 28 (f 140 [(.t 25),(.t 26),(.t 27)]),o 29 (.ext (.t 28) 0),o 30 (.ext (.t 28) 1),o 6 (.mv (.t 29)),o 7 (.mv (.t 30))] [0,1,2,25,26,27,28,29,30]) .ret))))
theorem qzaco : FnIs Tryz.prog 133 31 [.t 6, .t 7] octet_Bits :=
  ⟨Tryz.f133, _, qzacf, Tryz.func133, rfl, rfl, by kernel_rfl, by kernel_rfl, Tryz.call133⟩
def qot : Nat → List Nat := kk [[4,5],[12],[],[13],[15,16],[17,18,19,20,21,22,23,24,25],[9,26],[],[8,28,29,30,31,32,33,34,35],[11],[6,7,10,37,38,39,40]]
def qcf : List (Nat × List Nat) := [(0,[]),(1,[]),(2,[]),(3,[]),(4,[]),(5,[])]
def quk : IR :=
 (.seq (.reg [o 4 (.mv (.c (.i .u8 (.l 0)))),o 5 (.mv (z 0))] [4,5]) (.seq (.reg [o 12 (.build [(.i .i64 (.l 0)),(.i .i64 (.l 0)),(.i .i64 (.l 0)),(.i .i64 (.l 0))] [(0,1,(z 5)),(1,1,(z 6)),(2,1,(z 7)),(3,1,(z 11))]),o 6 (.alloc [(.i .i64 (.l 0)),(.i .i64 (.l 0)),(.i .i64 (.l 0)),(.i .i64 (.l 0))]),u (.store 4 (.t 6) (.t 12))] [12]) (.seq (.seq (.reg [o 7 (.mv (z 0))] []) (.block 0 (.loop (.seq (.seq (.reg [o 13 (.mv (.t 7)),o 14 (.bin .lt (.t 13) (z 4))] [13]) (.cond (.t 14) .skip (.exit 0))) (.seq (.block 1 (.seq (.reg [o 18 (.mv (.t 0)),o 19 (.mv (.t 1)),o 20 (.mv (.t 7)),o 21 (.iadA 4 1 (.t 6) (.t 20)),o 22 (.load false 1 (.t 21)),o 23 (f 135 [(.t 18),(.t 19),(.t 22)]),o 17 (.mv (.t 23)),o 24 (.ext (.t 17) 0),o 25 (.ext (.t 17) 1),o 8 (.mv (.t 24)),o 9 (.mv (.t 25))] [17,18,19,20,21,22,23,24,25]) (.seq (.seq (.reg [o 26 (.mv (.t 9)),o 27 (.not (.t 26))] [9,26]) (.cond (.t 27) (.seq (.reg [o 4 (.mv (.c (.i .u8 (.l 0)))),o 5 (.mv (z 0))] []) .ret) .skip)) (.seq (.reg [o 29 (.mv (.t 8)),o 30 (.mv (.t 7)),o 31 (.iadA 4 1 (.t 6) (.t 30)),o 32 (.load false 1 (.t 31)),o 33 (f 141 [(.t 29),(.t 32)]),o 28 (.mv (.t 33)),o 34 (.ext (.t 28) 0),o 35 (.ext (.t 28) 1),o 10 (.mv (.t 34)),o 11 (.mv (.t 35))] [8,28,29,30,31,32,33,34,35]) (.seq (.reg [o 36 (.mv (.t 11))] [11]) (.cond (.t 36) (.seq (.draw [o 37 (.mv (.t 10)),o 38 (.mv (.t 7)),o 39 (.iadA 4 1 (.t 6) (.t 38)),o 40 (.load false 1 (.t 39)),o 4 (.mv (.t 37)),o 5 (.mv (.t 40))] [[],[],[1],[2],[0,0],[3,4,0,1,2,3,4]] [6,7,10,37,38,39,40]) .ret) .skip)))))) (.reg [o 15 (.mv (.t 7)),o 16 (.bin .add (.t 15) (z 1)),o 7 (.mv (.t 16))] [15,16])))))) (.seq (.reg [o 4 (.mv (.c (.i .u8 (.l 0)))),o 5 (.mv (z 0))] []) .ret))))
theorem qpn : FnIs Tryz.prog 134 41 [.t 4, .t 5] quk :=
  ⟨Tryz.f134, _, qot, Tryz.func134, rfl, rfl, by kernel_rfl, by kernel_rfl, Tryz.call134⟩
def qpa : Nat → List Nat := kk [[6,7],[12,13,14,15,16,17,18,19,20,21,22,23,24,25,26,27,28,29,30,31,32,33,34,35,36],[],[],[],[38,39],[41,42],[11,43,44,45,46,47,48,49,50],[10,51,52,53,54],[8,55]]
def qjr : List Nat := [3,4,5,6,7,10,11,12,13,14,15,16,17,18,19,20,21,22,23,24,25,26,27,28,29,30,31,32,33,34,35,36,37,38,39,40,41,42,43,44,45,46,47,48,49,50,51,52,53,54,55]
def qus : IR :=
 (.seq (.reg [o 6 (.mv (z 0)),o 7 (.mv (.c .ff))] [6,7]) (.seq (.seq (.reg [o 12 (.mv (.t 2)),o 13 (.bin .lt (.t 12) (z 0)),o 14 (.mv (.t 13)),q 15 (.mv (.t 2)) 14 false,q 16 (.bin .gt (.t 15) (z 30)) 14 false,o 17 (.pick (.t 14) (.c .tt) (.t 16)),o 18 (.mv (.t 17)),q 19 (.mv (.t 1)) 18 false,q 20 (.bin .lt (.t 19) (z 0)) 18 false,o 21 (.pick (.t 18) (.c .tt) (.t 20)),o 22 (.mv (.t 21)),q 23 (.mv (.t 1)) 22 false,q 24 (.mv (.t 0)) 22 false,q 25 (.len false (.t 24)) 22 false,q 26 (.bin .mul (z 8) (.t 25)) 22 false,q 27 (.bin .gt (.t 23) (.t 26)) 22 false,o 28 (.pick (.t 22) (.c .tt) (.t 27)),o 29 (.mv (.t 28)),q 30 (.mv (.t 0)) 29 false,q 31 (.len false (.t 30)) 29 false,q 32 (.bin .mul (z 8) (.t 31)) 29 false,q 33 (.mv (.t 1)) 29 false,q 34 (.bin .sub (.t 32) (.t 33)) 29 false,q 35 (.mv (.t 2)) 29 false,q 36 (.bin .lt (.t 34) (.t 35)) 29 false,o 37 (.pick (.t 29) (.c .tt) (.t 36))] [12,13,14,15,16,17,18,19,20,21,22,23,24,25,26,27,28,29,30,31,32,33,34,35,36]) (.cond (.t 37) (.seq (.reg [o 6 (.mv (z 0)),o 7 (.mv (.c .ff))] []) .ret) .skip)) (.seq (.reg [o 8 (.mv (z 0))] []) (.seq (.seq (.reg [o 9 (.mv (z 0))] []) (.block 0 (.loop (.seq (.seq (.reg [o 38 (.mv (.t 9)),o 39 (.mv (.t 2)),o 40 (.bin .lt (.t 38) (.t 39))] [38,39]) (.cond (.t 40) .skip (.exit 0))) (.seq (.block 1 (.seq (.reg [o 44 (.mv (.t 0)),o 45 (.mv (.t 1)),o 46 (.mv (.t 9)),o 47 (.bin .add (.t 45) (.t 46)),o 48 (f 126 [(.t 44),(.t 47)]),o 43 (.mv (.t 48)),o 49 (.ext (.t 43) 0),o 50 (.ext (.t 43) 1),o 10 (.mv (.t 49)),o 11 (.mv (.t 50))] [11,43,44,45,46,47,48,49,50]) (.reg [o 51 (.mv (.t 8)),o 52 (.bin .mul (z 2) (.t 51)),o 53 (.mv (.t 10)),o 54 (.bin .add (.t 52) (.t 53)),o 8 (.mv (.t 54))] [10,51,52,53,54]))) (.reg [o 41 (.mv (.t 9)),o 42 (.bin .add (.t 41) (z 1)),o 9 (.mv (.t 42))] [41,42])))))) (.seq (.reg [o 55 (.mv (.t 8)),o 6 (.mv (.t 55)),o 7 (.mv (.c .tt))] [8,55]) .ret)))))
theorem qpt : FnIs Tryz.prog 135 56 [.t 6, .t 7] qus :=
  ⟨Tryz.f135, _, qpa, Tryz.func135, rfl, rfl, by kernel_rfl, by kernel_rfl, Tryz.call135⟩
def qww : Nat → List Nat := kk [[8,9],[],[],[12],[],[],[],[16,17],[6,18,19,20,21],[5,23,24],[25],[26,27,28],[29,30,31,32],[3,4,7,33,34,35,36,37,38,39],[41]]
def qgl : List Nat := [1,3,4,5,6,7,8,9,11,12,13,14,15,16,17,18,19,20,21,22,23,24,25,26,27,28,29,30,31,32,33,34,35,36,37,38,39,40,41]
def qzafe : IR :=
 (.seq (.reg [o 8 .mkM,u (.mupd ⟨false,[.ki]⟩ (.t 8) (z 5) (z 0)),u (.mupd ⟨false,[.ki]⟩ (.t 8) (z 6) (z 32)),u (.mupd ⟨false,[.ki]⟩ (.t 8) (z 7) (z 96)),u (.mupd ⟨false,[.ki]⟩ (.t 8) (z 11) (z 1792)),o 9 (.mv (.t 8)),o 2 (.mv (.t 9))] [8,9]) (.seq (.reg [o 10 (.mv (z 0))] []) (.block 0 (.loop (.seq (.reg [o 11 (.bin .lt (.t 10) (z 256))] []) (.seq (.cond (.t 11) .skip (.exit 0)) (.seq (.block 1 (.seq (.reg [o 12 (.mv (.t 10)),o 3 (.mv (.t 12))] [12]) (.seq (.reg [o 4 (.mv (z 11))] []) (.seq (.seq (.reg [o 13 (.build [(.s []),(.s []),(.s [])] [(0,1,(.c (.s [45,47,48,49,50,51,97,99,101,105,110,111,114,115,116,117]))),(1,1,(.c (.s [46,52,53,54,55,56,57,58,98,100,102,103,104,108,109,112]))),(2,1,(.c (.s [65,66,67,68,69,70,71,72,106,107,113,118,119,120,121,122])))]),o 14 (.mv (z 0))] []) (.block 2 (.loop (.seq (.reg [o 15 (.bin .lt (.t 14) (z 3))] []) (.seq (.cond (.t 15) .skip (.exit 2)) (.seq (.block 3 (.seq (.reg [o 16 (.mv (.t 14)),o 17 (.ixA false 3 1 (.t 13) (.t 14)),o 5 (.mv (.t 16)),o 6 (.mv (.t 17))] [16,17]) (.seq (.reg [o 18 (.mv (.t 6)),o 19 (.mv (.t 3)),o 20 (.cv .u8 (.t 19)),o 21 (f 137 [(.t 18),(.t 20)]),o 22 (.bin .ge (.t 21) (z 0))] [6,18,19,20,21]) (.cond (.t 22) (.reg [o 23 (.mv (.t 5)),o 24 (.bin .add (z 5) (.t 23)),o 4 (.mv (.t 24))] [5,23,24]) .skip)))) (.reg [o 25 (.bin .add (.t 14) (z 1)),o 14 (.mv (.t 25))] [25]))))))) (.seq (.reg [o 26 (.mv (.t 2)),o 27 (.mv (.t 4)),o 28 (.look ⟨false,[.ki]⟩ (.i .i64 (.l 0)) false (.t 26) (.t 27)),o 7 (.mv (.t 28))] [26,27,28]) (.seq (.reg [o 29 (.mv (.t 2)),o 30 (.mv (.t 4)),o 31 (.look ⟨false,[.ki]⟩ (.i .i64 (.l 0)) false (.t 29) (.t 30)),o 32 (.bin .add (.t 31) (z 1)),u (.mupd ⟨false,[.ki]⟩ (.t 29) (.t 30) (.t 32))] [29,30,31,32]) (.seq (.reg [o 33 (.mv (.t 0)),o 34 (.mv (.t 3)),o 35 (.cv .u8 (.t 34)),o 36 (.mv (.t 7)),o 37 (.mv (.t 4)),o 38 (.build [(.i .i64 (.l 0)),(.i .i64 (.l 0))] [(0,1,(.t 36)),(1,1,(.t 37))]),o 39 (.call (.t 33) [(.t 35),(.t 38)]),o 40 (.not (.t 39))] [3,4,7,33,34,35,36,37,38,39]) (.cond (.t 40) .ret .skip)))))))) (.reg [o 41 (.bin .add (.t 10) (z 1)),o 10 (.mv (.t 41))] [41]))))))))
theorem qls : FnIs Tryz.prog 136 42 [] qzafe :=
  ⟨Tryz.f136, _, qww, Tryz.func136, rfl, rfl, by kernel_rfl, by kernel_rfl, Tryz.call136⟩
def qnc : Nat → List Nat := kk [[4],[0,1,5,6,7]]
def qrx : IR :=
 (.seq (.reg [o 4 (.mv (z 0))] [4]) (.seq (.reg [o 5 (.mv (.t 0)),o 6 (.mv (.t 1)),o 7 (f 128 [(.t 5),(.t 6)]),o 4 (.mv (.t 7))] [0,1,5,6,7]) .ret))
theorem qno : FnIs Tryz.prog 137 8 [.t 4] qrx :=
  ⟨Tryz.f137, _, qnc, Tryz.func137, rfl, rfl, by kernel_rfl, by kernel_rfl, Tryz.call137⟩
def qza : Nat → List Nat := kk [[],[10],[],[2,12],[0,1,13,14],[16],[9,17,18,19,20,21],[22,23],[8,24],[26]]
def qzahf : IR :=
 (.seq (.reg [o 6 (.alloc [(.i .i64 (.l 0))]),o 7 (.alloc [.ff])] []) (.seq (.seq (.reg [o 10 (.mv (.t 1)),o 11 (.bin .lt (.t 10) (z 0))] [10]) (.cond (.t 11) (.seq (.reg [u (.store 1 (.t 6) (z 0)),u (.store 1 (.t 7) (.c .ff))] []) .ret) .skip)) (.seq (.reg [o 12 (.mv (.t 2)),o 8 (.alloc [(.i .i64 (.l 0))]),u (.store 1 (.t 8) (.t 12))] [2,12]) (.seq (.seq (.reg [o 13 (.mv (.t 0)),o 14 (.mv (.t 1)),o 15 (f 142 [(.t 13),(.t 14)])] [0,1,13,14]) (.block 0 (.rf (.t 15) [16] (.reg [o 9 (.mv (.t 16))] [16]) (.block 1 (.seq (.reg [o 17 (.load false 1 (.t 6)),o 18 (.bin .shl (.t 17) (.c (.i .u64 (.l 1)))),o 19 (.mv (.t 9)),o 20 (.cv .i64 (.t 19)),o 21 (.bin .or (.t 18) (.t 20)),u (.store 1 (.t 6) (.t 21))] [9,17,18,19,20,21]) (.seq (.reg [o 22 (.load false 1 (.t 8)),o 23 (.bin .sub (.t 22) (z 1)),u (.store 1 (.t 8) (.t 23))] [22,23]) (.seq (.reg [o 24 (.load false 1 (.t 8)),o 25 (.bin .eq (.t 24) (z 0))] [8,24]) (.cond (.t 25) (.seq (.reg [o 26 (.load false 1 (.t 6)),u (.store 1 (.t 6) (.t 26)),u (.store 1 (.t 7) (.c .tt))] [26]) .ret) .skip)))))))) (.seq (.reg [u (.store 1 (.t 6) (z 0)),u (.store 1 (.t 7) (.c .ff))] []) .ret)))))
theorem qzl : FnIs Tryz.prog 140 27 [.c 6 false 1, .c 7 false 1] qzahf :=
  ⟨Tryz.f140, _, qza, Tryz.func140, rfl, rfl, by kernel_rfl, by kernel_rfl, Tryz.call140⟩
def qso : Nat → List Nat := kk [[4,5],[],[9],[11,12],[13,14,15,16,17,18],[7,8,19,20,21,22,23,24,25],[6,27,28]]
def qmd : List Nat := [2,3,4,5,7,8,9,10,11,12,13,14,15,16,17,18,19,20,21,22,23,24,25,26,27,28]
def qzo : IR :=
 (.seq (.reg [o 4 (.mv (.c (.i .u8 (.l 0)))),o 5 (.mv (.c .ff))] [4,5]) (.seq (.seq (.reg [o 6 (.mv (z 0))] []) (.block 0 (.loop (.seq (.seq (.reg [o 9 (.mv (.t 6)),o 10 (.bin .lt (.t 9) (z 256))] [9]) (.cond (.t 10) .skip (.exit 0))) (.seq (.block 1 (.seq (.reg [o 14 (.mv (.t 6)),o 15 (.cv .u8 (.t 14)),o 16 (f 114 [(.t 15)]),o 13 (.mv (.t 16)),o 17 (.ext (.t 13) 0),o 18 (.ext (.t 13) 1),o 7 (.mv (.t 17)),o 8 (.mv (.t 18))] [13,14,15,16,17,18]) (.seq (.reg [o 19 (.mv (.t 7)),o 20 (.mv (.t 0)),o 21 (.bin .eq (.t 19) (.t 20)),o 22 (.mv (.t 21)),q 23 (.mv (.t 8)) 22 true,q 24 (.mv (.t 1)) 22 true,q 25 (.bin .eq (.t 23) (.t 24)) 22 true,o 26 (.pick (.t 22) (.t 25) (.c .ff))] [7,8,19,20,21,22,23,24,25]) (.cond (.t 26) (.seq (.reg [o 27 (.mv (.t 6)),o 28 (.cv .u8 (.t 27)),o 4 (.mv (.t 28)),o 5 (.mv (.c .tt))] [6,27,28]) .ret) .skip)))) (.reg [o 11 (.mv (.t 6)),o 12 (.bin .add (.t 11) (z 1)),o 6 (.mv (.t 12))] [11,12])))))) (.seq (.reg [o 4 (.mv (.c (.i .u8 (.l 0)))),o 5 (.mv (.c .ff))] []) .ret)))
theorem qsw : FnIs Tryz.prog 141 29 [.t 4, .t 5] qzo :=
  ⟨Tryz.f141, _, qso, Tryz.func141, rfl, rfl, by kernel_rfl, by kernel_rfl, Tryz.call141⟩
def qzace : Nat → List Nat := kk [[0,1,4],[2,3,5]]
def octet_bits : IR :=
 (.seq (.reg [o 2 (.box (.t 0)),o 3 (.box (.t 1)),o 4 (.mv (.c (.re .nilFunc)))] [0,1,4]) (.seq (.reg [o 5 (.mkF (.func 143) [] [(.t 3),(.t 2)]),o 4 (.mv (.t 5))] [2,3,5]) .ret))
theorem qzacn : FnIs Tryz.prog 142 6 [.t 4] octet_bits :=
  ⟨Tryz.f142, _, qzace, Tryz.func142, rfl, rfl, by kernel_rfl, by kernel_rfl, Tryz.call142⟩
def qwv : Nat → List Nat := kk [[4,5,6,7],[9,10],[11,12,13,14,15,16,17,18,19,20,21,22]]
def qpw : List Nat := [3,4,5,6,7,8,9,10,11,12,13,14,15,16,17,18,19,20,21,22,23]
def qqo : List (Nat × List Nat) := [(0,[]),(1,[]),(2,[]),(3,[]),(4,[]),(5,[]),(6,[]),(7,[]),(8,[]),(9,[]),(10,[]),(11,[]),(12,[])]
def qzaes : IR :=
 (.block 0 (.loop (.seq (.seq (.reg [o 4 (.load false 1 (.t 1)),o 5 (.bin .shr (.t 4) (.c (.i .u64 (.l 3)))),o 6 (.load false 1 (.t 2)),o 7 (.len false (.t 6)),o 8 (.bin .lt (.t 5) (.t 7))] [4,5,6,7]) (.cond (.t 8) .skip (.exit 0))) (.seq (.block 1 (.seq (.draw [o 11 (.mv (.t 0)),o 12 (.load false 1 (.t 2)),o 13 (.load false 1 (.t 1)),o 14 (.bin .shr (.t 13) (.c (.i .u64 (.l 3)))),o 15 (.iadS 1 (.t 12) (.t 14)),o 16 (.load false 1 (.t 15)),o 17 (.load false 1 (.t 1)),o 18 (.bin .and (.t 17) (z 7)),o 19 (.bin .sub (z 7) (.t 18)),o 20 (.bin .shr (.t 16) (.t 19)),o 21 (.bin .and (.t 20) (.c (.i .u8 (.l 1)))),o 22 (.call (.t 11) [(.t 21)]),o 23 (.not (.t 22))] [[],[],[],[2],[1,3],[4],[],[6],[7],[5,8],[9],[0,10],[11]] [11,12,13,14,15,16,17,18,19,20,21,22]) (.cond (.t 23) .ret .skip))) (.reg [o 9 (.load false 1 (.t 1)),o 10 (.bin .add (.t 9) (z 1)),u (.store 1 (.t 1) (.t 10))] [9,10])))))
theorem qxj : FnIs Tryz.prog 143 24 [] qzaes :=
  ⟨Tryz.f143, _, qwv, Tryz.func143, rfl, rfl, by kernel_rfl, by kernel_rfl, Tryz.call143⟩
end I
end Cz
namespace Hu
def valB : List Bool → Nat := List.foldl (fun n b => 2 * n + b.toNat) 0
def bitsN : Nat → Nat → List Bool
  | 0, _ => []
  | m + 1, n => bitsN m (n / 2) ++ [n % 2 == 1]
theorem qbg : ∀ (m n : Nat), (bitsN m n).length = m
  | 0, _ => rfl
  | m + 1, n => by simp [bitsN, qbg m]
theorem qqz : ∀ (l : List Bool) (a : Nat), l.foldl (fun n b => 2 * n + b.toNat) a = a * 2 ^ l.length + valB l
  | [], a => by simp [valB]
  | b :: l, a => by
    simp only [List.foldl_cons, valB, List.length_cons]
    rw [qqz l, qqz l (2 * 0 + b.toNat), Nat.pow_succ]
    generalize 2 ^ l.length = q
    have : (2 * a + b.toNat) * q = a * (q * 2) + (2 * 0 + b.toNat) * q := by
      rw [Nat.add_mul, Nat.mul_zero, Nat.zero_add, Nat.mul_comm 2 a, Nat.mul_assoc, Nat.mul_comm 2 q]
    omega
theorem qkm (b : Bool) (l : List Bool) : valB (b :: l) = b.toNat * 2 ^ l.length + valB l := by
  have := qqz l (2 * 0 + b.toNat)
  simpa [valB] using this
theorem qem (l m : List Bool) : valB (l ++ m) = valB l * 2 ^ m.length + valB m := by
  simp only [valB, List.foldl_append]
  exact qqz m _
theorem qvi (l : List Bool) (b : Bool) : valB (l ++ [b]) = 2 * valB l + b.toNat := by
  rw [qem]; simp [valB]; omega
theorem qkl : ∀ (l : List Bool), valB l < 2 ^ l.length
  | [] => by simp [valB]
  | b :: l => by
    rw [qkm, List.length_cons, Nat.pow_succ]
    have := qkl l
    cases b <;> simp only [Bool.toNat_true, Bool.toNat_false] <;> omega
theorem qmf : ∀ (m n : Nat), n < 2 ^ m → valB (bitsN m n) = n
  | 0, n, h => by simp at h; subst h; rfl
  | m + 1, n, h => by
    rw [Nat.pow_succ] at h
    rw [bitsN, qvi, qmf m (n / 2) (by omega)]
    by_cases hb : n % 2 = 1
    · rw [hb]; simp only [beq_self_eq_true, Bool.toNat_true]; omega
    · rw [show (n % 2 == 1) = false by simpa using hb]; simp only [Bool.toNat_false]; omega
theorem bitsN_snoc (l : List Bool) (b : Bool) : bitsN (l.length + 1) (valB (l ++ [b])) = bitsN l.length (valB l) ++ [b] := by
  rw [bitsN, qvi]
  have h1 : (2 * valB l + b.toNat) / 2 = valB l := by cases b <;> simp only [Bool.toNat_true, Bool.toNat_false] <;> omega
  have h2 : ((2 * valB l + b.toNat) % 2 == 1) = b := by cases b <;> simp <;> omega
  rw [h1, h2]
theorem qis (l : List Bool) : bitsN l.length (valB l) = l := by
  suffices ∀ (r : List Bool), bitsN r.reverse.length (valB r.reverse) = r.reverse by simpa using this l.reverse
  intro r
  induction r with
  | nil => rfl
  | cons b r ih =>
    rw [List.reverse_cons, show (r.reverse ++ [b]).length = r.reverse.length + 1 by simp, bitsN_snoc, ih]
theorem valB_inj {l m : List Bool} (hl : l.length = m.length) (h : valB l = valB m) : l = m := by
  rw [← qis l, ← qis m, hl, h]
theorem qkk : ∀ k, valB (List.replicate k true) = 2 ^ k - 1
  | 0 => rfl
  | k + 1 => by
    rw [List.replicate_succ, qkm, qkk k, List.length_replicate, Nat.pow_succ]
    have := Nat.two_pow_pos k
    simp; omega
def bl (l : List Int) : List Bool := l.flatMap fun v => bitsN 8 v.toNat
theorem qzaax (l : List Int) : (bl l).length = 8 * l.length := by
  induction l with
  | nil => rfl
  | cons v l ih => simp only [bl, List.flatMap_cons, List.length_append, qbg, List.length_cons] at *; omega
def packs : Nat → List Bool → List Int
  | 0, _ => []
  | n + 1, bs => (valB (bs.take 8) : Int) :: packs n (bs.drop 8)
def pack (bs : List Bool) : List Int := packs (bs.length / 8) bs
def BOk (l : List Int) : Prop := ∀ v ∈ l, 0 ≤ v ∧ v < 256
theorem qeg : ∀ (n : Nat) (bs : List Bool), (packs n bs).length = n
  | 0, _ => rfl
  | n + 1, bs => by simp [packs, qeg n]
theorem qzabs : ∀ (n : Nat) (bs : List Bool), BOk (packs n bs)
  | 0, _ => by simp [packs, BOk]
  | n + 1, bs => by
    intro v hv
    simp only [packs, List.mem_cons] at hv
    rcases hv with rfl | hv
    · have h1 := qkl (bs.take 8)
      have h2 : 2 ^ (bs.take 8).length ≤ 2 ^ 8 := Nat.pow_le_pow_right (by omega) (by simp; omega)
      omega
    · exact qzabs n _ v hv
theorem qzadh : ∀ (n : Nat) (bs : List Bool), bs.length = 8 * n → bl (packs n bs) = bs
  | 0, bs, h => by have : bs = [] := List.length_eq_zero_iff.1 (by omega); subst this; rfl
  | n + 1, bs, h => by
    simp only [packs, bl, List.flatMap_cons]
    have h1 := qzadh n (bs.drop 8) (by simp; omega)
    simp only [bl] at h1
    rw [h1]
    have h2 : (bs.take 8).length = 8 := by simp; omega
    have h3 := qis (bs.take 8)
    rw [h2] at h3
    simp only [Int.toNat_natCast, h3, List.take_append_drop]
theorem qzabt : ∀ (l : List Int), BOk l → packs l.length (bl l) = l
  | [], _ => rfl
  | v :: l, h => by
    have hv := h v (by simp)
    have h1 : ((bl (v :: l)).take 8) = bitsN 8 v.toNat := by
      simp only [bl, List.flatMap_cons]; rw [List.take_append_of_le_length (by rw [qbg]; omega), List.take_of_length_le (by rw [qbg]; omega)]
    have h2 : ((bl (v :: l)).drop 8) = bl l := by
      simp only [bl, List.flatMap_cons]; rw [List.drop_append_of_le_length (by rw [qbg]; omega), List.drop_of_length_le (by rw [qbg]; omega)]; rfl
    simp only [List.length_cons, packs, h1, h2, qzabt l (fun u hu => h u (by simp [hu]))]
    rw [qmf 8 _ (by omega)]
    simp; omega
theorem bl_inj {l m : List Int} (hl : BOk l) (hm : BOk m) (h : bl l = bl m) : l = m := by
  have h1 : l.length = m.length := by have := congrArg List.length h; rw [qzaax, qzaax] at this; omega
  rw [← qzabt l hl, ← qzabt m hm, h1, h]
def five : List Nat := [45, 47, 48, 49, 50, 51, 97, 99, 101, 105, 110, 111, 114, 115, 116, 117]
def six : List Nat := [46, 52, 53, 54, 55, 56, 57, 58, 98, 100, 102, 103, 104, 108, 109, 112]
def seven : List Nat := [65, 66, 67, 68, 69, 70, 71, 72, 106, 107, 113, 118, 119, 120, 121, 122]
def cls (c : Nat) : Nat := if five.contains c then 5 else if six.contains c then 6 else if seven.contains c then 7 else 11
def cnt (m c : Nat) : Nat := ((List.range c).filter fun x => cls x == m).length
def base (m : Nat) : Nat := if m = 5 then 0 else if m = 6 then 32 else if m = 7 then 96 else 1792
def codeOf (c : Nat) : Nat := base (cls c) + cnt (cls c) c
theorem qzadb (m c : Nat) : cnt m (c + 1) = cnt m c + (if cls c = m then 1 else 0) := by
  simp only [cnt, List.range_succ, List.filter_append, List.length_append]
  by_cases h : cls c = m <;> simp [h]
def find (code many : Nat) : Option Nat := (List.range 256).find? fun c => codeOf c == code && cls c == many
theorem cnt_le (m c : Nat) : cnt m c ≤ c := by
  have := List.length_filter_le (fun x => cls x == m) (List.range c)
  simpa [cnt] using this
theorem cnt_mono (m : Nat) {c d : Nat} (h : c ≤ d) : cnt m c ≤ cnt m d := by
  induction d with
  | zero => have : c = 0 := by omega
            subst this; exact Nat.le_refl _
  | succ d ih =>
    rcases Nat.lt_or_ge d c with h1 | h1
    · have : c = d + 1 := by omega
      subst this; exact Nat.le_refl _
    · rw [qzadb]; have := ih h1; omega
theorem qzaas {m c d : Nat} (hc : cls c = m) (h : c < d) : cnt m c < cnt m d := by
  have h1 : cnt m (c + 1) ≤ cnt m d := cnt_mono m h
  rw [qzadb, if_pos hc] at h1
  omega
theorem qme (c : Nat) : cls c = 5 ∨ cls c = 6 ∨ cls c = 7 ∨ cls c = 11 := by
  unfold cls
  split
  · exact .inl rfl
  · split
    · exact .inr (.inl rfl)
    · split
      · exact .inr (.inr (.inl rfl))
      · exact .inr (.inr (.inr rfl))
theorem all5 : cnt 5 256 = 16 := by decide +kernel
theorem all6 : cnt 6 256 = 16 := by decide +kernel
theorem all7 : cnt 7 256 = 16 := by decide +kernel
theorem all11 : cnt 11 256 = 208 := by decide +kernel
theorem qzacz {c : Nat} (h : c < 256) : (cls c = 5 ∧ codeOf c < 16) ∨ (cls c = 6 ∧ 32 ≤ codeOf c ∧ codeOf c < 48) ∨ (cls c = 7 ∧ 96 ≤ codeOf c ∧ codeOf c < 112) ∨ (cls c = 11 ∧ 1792 ≤ codeOf c ∧ codeOf c < 2000) := by
  rcases qme c with e | e | e | e
  · have := qzaas e h; rw [all5] at this; exact .inl ⟨e, by simp only [codeOf, e, base]; simp; omega⟩
  · have := qzaas e h; rw [all6] at this; exact .inr (.inl ⟨e, by simp only [codeOf, e, base]; simp; omega⟩)
  · have := qzaas e h; rw [all7] at this; exact .inr (.inr (.inl ⟨e, by simp only [codeOf, e, base]; simp; omega⟩))
  · have := qzaas e h; rw [all11] at this; exact .inr (.inr (.inr ⟨e, by simp only [codeOf, e, base]; simp; omega⟩))
theorem qzaht {c : Nat} (h : c < 256) : codeOf c < 2 ^ cls c := by
  rcases qzacz h with ⟨e, b⟩ | ⟨e, b⟩ | ⟨e, b⟩ | ⟨e, b⟩ <;> rw [e] <;> omega
theorem qvf {c d : Nat} (h1 : cls c = cls d) (h2 : codeOf c = codeOf d) : c = d := by
  simp only [codeOf, h1] at h2
  rcases Nat.lt_trichotomy c d with h | h | h
  · have := qzaas (m := cls d) h1 h; omega
  · exact h
  · have := qzaas (m := cls d) rfl h; omega
theorem code_apart {c d : Nat} (hc : c < 256) (hd : d < 256) (hm : cls c ≤ cls d) (h : codeOf d / 2 ^ (cls d - cls c) = codeOf c) : c = d := by
  rcases qzacz hc with ⟨e, b⟩ | ⟨e, b⟩ | ⟨e, b⟩ | ⟨e, b⟩ <;> rcases qzacz hd with ⟨e', b'⟩ | ⟨e', b'⟩ | ⟨e', b'⟩ | ⟨e', b'⟩ <;> rw [e, e'] at h <;> simp at h <;>
    first | exact qvf (e.trans e'.symm) h.symm | (rw [e, e'] at hm; omega) | omega
theorem qrh {code many c : Nat} (h : find code many = some c) : c < 256 ∧ codeOf c = code ∧ cls c = many := by
  have h1 := List.find?_some h
  have h2 := List.mem_of_find?_eq_some h
  simp only [Bool.and_eq_true, beq_iff_eq] at h1
  exact ⟨by simpa using h2, h1.1, h1.2⟩
theorem qxl {c : Nat} (h : c < 256) : find (codeOf c) (cls c) = some c := by
  cases hf : find (codeOf c) (cls c) with
  | none =>
    have := List.find?_eq_none.1 hf c (by simpa using h)
    simp at this
  | some d =>
    obtain ⟨_, h1, h2⟩ := qrh hf
    rw [qvf h2 h1]
theorem qzafw {code many : Nat} (h : ∀ c, c < 256 → cls c = many → codeOf c ≠ code) : find code many = none := by
  cases hf : find code many with
  | none => rfl
  | some d => obtain ⟨a, b, c⟩ := qrh hf; exact absurd b (h d a c)
def cod (c : Nat) : List Bool := bitsN (cls c) (codeOf c)
def enc (b : List Int) : List Bool := b.flatMap fun v => cod v.toNat
def at1 (bs : List Bool) (m : Nat) : Option Nat := if m ≤ bs.length then find (valB (bs.take m)) m else none
def sym (bs : List Bool) : Option (Nat × Nat) :=
  match at1 bs 5 with
  | some c => some (c, 5)
  | none => match at1 bs 6 with
    | some c => some (c, 6)
    | none => match at1 bs 7 with
      | some c => some (c, 7)
      | none => match at1 bs 11 with
        | some c => some (c, 11)
        | none => none
theorem at1_some {bs : List Bool} {m c : Nat} (h : at1 bs m = some c) : c < 256 ∧ cls c = m ∧ m ≤ bs.length ∧ bs = cod c ++ bs.drop m := by
  unfold at1 at h
  split at h
  · rename_i hm
    obtain ⟨h1, h2, h3⟩ := qrh h
    refine ⟨h1, h3, hm, ?_⟩
    have h4 := qis (bs.take m)
    rw [List.length_take, Nat.min_eq_left hm, ← h2] at h4
    have : cod c = bs.take m := by rw [cod, h3]; exact h4
    rw [this, List.take_append_drop]
  · cases h
theorem sym_some {bs : List Bool} {c m : Nat} (h : sym bs = some (c, m)) : c < 256 ∧ cls c = m ∧ m ≤ bs.length ∧ 5 ≤ m ∧ bs = cod c ++ bs.drop m := by
  unfold sym at h
  repeat' (split at h)
  all_goals first | (cases h; done) | skip
  all_goals (rename_i h1; cases h; obtain ⟨a, b, c, d⟩ := at1_some h1; exact ⟨a, b, c, by omega, d⟩)
def dec (bs : List Bool) : List Int × List Bool :=
  match h : sym bs with
  | some (c, m) => let r := dec (bs.drop m); ((c : Int) :: r.1, r.2)
  | none => ([], bs)
termination_by bs.length
decreasing_by
  obtain ⟨_, _, h1, h2, _⟩ := sym_some h
  simp only [List.length_drop]; omega
theorem qmw {bs : List Bool} {c m : Nat} (h : sym bs = some (c, m)) : dec bs = ((c : Int) :: (dec (bs.drop m)).1, (dec (bs.drop m)).2) := by
  rw [dec]; split
  · rename_i c' m' h'; rw [h] at h'; cases h'; rfl
  · rename_i h'; rw [h] at h'; cases h'
theorem qve {bs : List Bool} (h : sym bs = none) : dec bs = ([], bs) := by
  rw [dec]; split
  · rename_i c' m' h'; rw [h] at h'; cases h'
  · rfl
theorem dec_enc (bs : List Bool) : bs = enc (dec bs).1 ++ (dec bs).2 ∧ BOk (dec bs).1 ∧ sym (dec bs).2 = none := by
  generalize hn : bs.length = n
  induction n using Nat.strongRecOn generalizing bs with
  | ind n ih =>
    cases h : sym bs with
    | none => rw [qve h]; exact ⟨rfl, by simp [BOk], h⟩
    | some p =>
      obtain ⟨c, m⟩ := p
      obtain ⟨h1, h2, h3, h4, h5⟩ := sym_some h
      rw [qmw h]
      obtain ⟨g1, g2, g3⟩ := ih (bs.drop m).length (by simp; omega) (bs.drop m) rfl
      refine ⟨?_, ?_, g3⟩
      · simp only [enc, List.flatMap_cons, Int.toNat_natCast, List.append_assoc]
        simp only [enc] at g1
        rw [← g1]; exact h5
      · intro v hv
        simp only [List.mem_cons] at hv
        rcases hv with rfl | hv
        · omega
        · exact g2 v hv
theorem valB_take {m n k : Nat} (h : n < 2 ^ m) (hk : k ≤ m) : valB ((bitsN m n).take k) = n / 2 ^ (m - k) := by
  have h1 : bitsN m n = (bitsN m n).take k ++ (bitsN m n).drop k := (List.take_append_drop _ _).symm
  have h2 := congrArg valB h1
  rw [qmf m n h, qem] at h2
  have h3 := qkl ((bitsN m n).drop k)
  rw [List.length_drop, qbg] at h2 h3
  generalize valB ((bitsN m n).take k) = A at h2 ⊢
  generalize valB ((bitsN m n).drop k) = B at h2 h3
  rw [h2, Nat.mul_comm, Nat.mul_add_div (Nat.two_pow_pos _), Nat.div_eq_of_lt h3, Nat.add_zero]
theorem qzadj {c m : Nat} (hc : c < 256) (hm : m ≤ cls c) (t : List Bool) : at1 (cod c ++ t) m = if m = cls c then some c else none := by
  unfold at1
  rw [if_pos (by simp [cod, qbg]; omega), List.take_append_of_le_length (by simp [cod, qbg]; omega)]
  have hv := valB_take (qzaht hc) hm
  unfold cod
  rw [hv]
  split
  · rename_i h; subst h; simp [qxl hc]
  · rename_i h
    refine qzafw fun d hd hdm e => ?_
    have := code_apart hd hc (by omega) (by rw [hdm]; exact e.symm)
    subst this; omega
theorem sym_cod {c : Nat} (hc : c < 256) (t : List Bool) : sym (cod c ++ t) = some (c, cls c) := by
  have h5 := fun h : 5 ≤ cls c => qzadj hc h t
  have h6 := fun h : 6 ≤ cls c => qzadj hc h t
  have h7 := fun h : 7 ≤ cls c => qzadj hc h t
  have h11 := fun h : 11 ≤ cls c => qzadj hc h t
  unfold sym
  rcases qme c with e | e | e | e
  · rw [h5 (by omega), e]; simp
  · rw [h5 (by omega), h6 (by omega), e]; simp
  · rw [h5 (by omega), h6 (by omega), h7 (by omega), e]; simp
  · rw [h5 (by omega), h6 (by omega), h7 (by omega), h11 (by omega), e]; simp
theorem qzaar : ∀ (b : List Int) (t : List Bool), BOk b → sym t = none → dec (enc b ++ t) = (b, t)
  | [], t, _, h => by simpa [enc] using qve h
  | v :: b, t, hb, h => by
    have hv := hb v (by simp)
    have e : enc (v :: b) ++ t = cod v.toNat ++ (enc b ++ t) := by simp [enc]
    have hd : (cod v.toNat ++ (enc b ++ t)).drop (cls v.toNat) = enc b ++ t := by
      rw [List.drop_append_of_le_length (by simp [cod, qbg]), List.drop_of_length_le (by simp [cod, qbg])]; rfl
    rw [e, qmw (sym_cod (by omega) _), hd, qzaar b t (fun u hu => hb u (by simp [hu])) h]
    simp; omega
theorem qzabv {k m : Nat} (hm : m = 5 ∨ m = 6 ∨ m = 7 ∨ m = 11) : at1 (List.replicate k true) m = none := by
  unfold at1
  split
  · rename_i h
    rw [List.length_replicate] at h
    rw [List.take_replicate, Nat.min_eq_left h, qkk]
    refine qzafw fun d hd hdm e => ?_
    rcases qzacz hd with ⟨e', b⟩ | ⟨e', b⟩ | ⟨e', b⟩ | ⟨e', b⟩ <;> rw [e'] at hdm <;> subst hdm <;> omega
  · rfl
theorem sym_ones (k : Nat) : sym (List.replicate k true) = none := by
  unfold sym
  rw [qzabv (.inl rfl), qzabv (.inr (.inl rfl)), qzabv (.inr (.inr (.inl rfl))), qzabv (.inr (.inr (.inr rfl)))]
def pad (n : Nat) : Nat := (8 - n % 8) % 8
def padded (bs : List Bool) : List Bool := bs ++ List.replicate (pad bs.length) true
def put (b : List Int) : List Int := pack (padded (enc b))
def nbits (b : List Int) : Nat := (enc b).length
def take (d : List Int) : Option (List Int) :=
  let r := dec (bl d)
  if r.2.length ≤ 7 ∧ r.2 = List.replicate r.2.length true then some r.1 else none
theorem qml (bs : List Bool) : (padded bs).length = 8 * ((bs.length + 7) / 8) := by
  simp only [padded, List.length_append, List.length_replicate, pad]; omega
theorem bl_put (b : List Int) : bl (put b) = padded (enc b) := by
  unfold put pack
  exact qzadh _ _ (by rw [qml]; omega)
theorem qsd (b : List Int) : (put b).length = (nbits b + 7) / 8 := by
  unfold put pack; rw [qeg, qml]; unfold nbits; omega
theorem put_ok (b : List Int) : BOk (put b) := qzabs _ _
theorem dec_put (b : List Int) (hb : BOk b) (k : Nat) : dec (enc b ++ List.replicate k true) = (b, List.replicate k true) := qzaar b _ hb (sym_ones k)
theorem take_put (b : List Int) (hb : BOk b) : take (put b) = some b := by
  unfold take
  rw [bl_put, padded, dec_put b hb]
  simp only [List.length_replicate, and_true]
  rw [if_pos (by unfold pad; omega)]
theorem put_take {d o : List Int} (hd : BOk d) (h : take d = some o) : put o = d ∧ BOk o := by
  unfold take at h
  obtain ⟨h1, h2, _⟩ := dec_enc (bl d)
  simp only at h
  split at h
  · rename_i hr
    cases h
    refine ⟨bl_inj (put_ok _) hd ?_, h2⟩
    rw [bl_put, padded]
    have hl := congrArg List.length h1
    rw [qzaax, List.length_append] at hl
    have hp : pad (enc (dec (bl d)).1).length = (dec (bl d)).2.length := by unfold pad; omega
    rw [hp, ← hr.2]; exact h1.symm
  · cases h
end Hu
namespace Cz
open Go Go.RowKit Go.Proofs
def idxI (x : List UInt8) (c : Int) : Int := match (List.range x.length).find? (fun i => x.getD i 0 == c.toNat.toUInt8) with
  | some i => i
  | none => -1
def has (x : List UInt8) (c : Int) : Bool := x.any fun b => b == c.toNat.toUInt8
theorem qvb {x : List UInt8} {c : Int} (h : has x c = true) : 0 ≤ idxI x c := by
  unfold idxI
  split
  · omega
  · rename_i hn
    simp only [has, List.any_eq_true] at h
    obtain ⟨b, hb, e⟩ := h
    obtain ⟨i, hi⟩ := List.getElem?_of_mem hb
    have := List.find?_eq_none.1 hn i (by simp; exact (List.getElem?_eq_some_iff.1 hi).1)
    simp [List.getD_eq_getElem?_getD, hi] at this
    exact absurd (by simpa using e) this
theorem qhm {x : List UInt8} {c : Int} (h : has x c = false) : idxI x c < 0 := by
  unfold idxI
  split
  · rename_i i hi
    have h1 := List.find?_some hi
    have h2 := List.mem_of_find?_eq_some hi
    simp only [List.mem_range] at h2
    simp only [has, List.any_eq_false] at h
    have := h _ (List.getElem_mem h2)
    simp [List.getD_eq_getElem?_getD, List.getElem?_eq_getElem h2] at h1
    simp [h1] at this
  · omega
theorem idx_f (x : List UInt8) (c : Int) : (S0 Tryz.prog).call 138 [.s x, .i .u8 (.y c)] [] (fun y _ => Sub y (.i .i64 (.y (idxI x c)))) := by
  intro N W0 ρ W vals hR hd
  obtain ⟨l⟩ := vals
  match l, hd with
  | [u, v], hd =>
    simp only [denL, den, Z.v] at hd
    obtain ⟨rfl, rfl, _⟩ := hd
    have hrun : (callFunc 138 #[.string ⟨x.toArray⟩, .int .u8 c]).run Tryz.prog W = .ok (.value (.int .i64 (idxI x c))) W := by
      have h1 : (Tryz.f138.name == "runtime.NumGoroutine") = false := by decide +kernel
      have h2 : Tryz.f138.body.isNone = true := by kernel_rfl
      have h3 : Extern.findNext Tryz.f138 = none := by kernel_rfl
      have h4 : Extern.find Tryz.f138 = some Extern.BytealgIndexByte.indexByte := by kernel_rfl
      simp only [callFunc, Sem.run_bind, run_program, Result.andThen_ok, Tryz.func138, h1, h2, h3, h4, run_mark, Bool.false_eq_true, if_false, if_true]
      have hs : (ByteArray.mk x.toArray).size = x.length := by show x.toArray.size = _; simp
      have hb : ∀ i, i < x.length → (ByteArray.mk x.toArray)[i]! = x.getD i 0 := by
        intro i hi
        rw [getElem!_pos _ i (by rw [hs]; exact hi), List.getD_eq_getElem?_getD, List.getElem?_eq_getElem hi]
        rfl
      have hf : (List.range (ByteArray.mk x.toArray).size).find? (fun i => (ByteArray.mk x.toArray)[i]! == c.toNat.toUInt8) = (List.range x.length).find? (fun i => x.getD i 0 == c.toNat.toUInt8) := by
        rw [hs]
        have : ∀ (l : List Nat), (∀ i ∈ l, i < x.length) → l.find? (fun i => (ByteArray.mk x.toArray)[i]! == c.toNat.toUInt8) = l.find? (fun i => x.getD i 0 == c.toNat.toUInt8) := by
          intro l
          induction l with
          | nil => intro _; rfl
          | cons i l ih =>
            intro hl
            simp only [List.find?_cons, hb i (hl i (by simp))]
            rw [ih (fun j hj => hl j (by simp [hj]))]
        exact this _ (fun i hi => by simpa using hi)
      have hrun : (Extern.BytealgIndexByte.indexByte #[.string ⟨x.toArray⟩, .int .u8 c]).run Tryz.prog W = .ok (.int .i64 (idxI x c)) W := by
        show (match (List.range (ByteArray.mk x.toArray).size).find? (fun i => (ByteArray.mk x.toArray)[i]! == c.toNat.toUInt8) with
          | some i => (pure (goInt i) : Sem Value)
          | none => pure (goInt (-1))).run Tryz.prog W = _
        rw [hf]
        unfold idxI
        split <;> rfl
      rw [hrun]
      rfl
    rw [hrun]
    exact ⟨ρ, _, [], .rfl, Le.refl _ _, Nat.le_refl _, hR, by simp [den, Z.v]⟩
theorem index_f (x : List UInt8) (c : Int) : (S0 Tryz.prog).call 137 [.s x, .i .u8 (.y c)] [] (fun y _ => Sub y (.i .i64 (.y (idxI x c)))) := by
  generalize hT : idxI x c = T
  generalize hS : S0 Tryz.prog = S
  refine qaa hS I.qno ?_
  cbv
  refine qaa hS I.qdw ?_
  cbv
  refine qbf hS (idx_f x c) .rfl rfl rfl ?_
  rw [hT]
  cbv
  exact .rfl
theorem qcb {S : Sy} (hS : S0 Tryz.prog = S) {l : List Blk} {K : SV → List Blk → Prop} {x : List UInt8} {c : Z} (h : ∀ r, idxI x c.v = r → K (.i .i64 (.y r)) l) : S.call 137 [.s x, .i .u8 c] l K :=
  qbf hS (index_f x c.v) (.cons .rfl (.cons (qae rfl) .nil)) rfl rfl (h _ rfl)
def by1 (v : Int) : List SV := [.i .u8 (.y v)]
def cellsB (l : List Int) : List SV := l.flatMap by1
theorem qab (l : List Int) : plains (cellsB l) = true := by
  induction l with
  | nil => rfl
  | cons v l ih => simpa [cellsB, by1, plains, plainV] using ih
theorem qdy (l : List Int) : cellsB l = l.map fun v => .i .u8 (.y v) := by
  induction l with
  | nil => rfl
  | cons u l ih => simp only [cellsB, List.flatMap_cons, List.map_cons] at ih ⊢; rw [ih]; rfl
theorem qzaav {l : List Int} {q : Nat} {v : Int} (h : l[q]? = some v) : (cellsB l)[q]? = some (.i .u8 (.y v)) := by
  rw [qdy, List.getElem?_map, h]; rfl
end Cz
namespace Cz
open Go Go.RowKit Go.Proofs
theorem u8b {n : Int} (h : lo .u8 ≤ n ∧ n ≤ Cz.hi .u8) : 0 ≤ n ∧ n < 256 := by
  simp only [lo, Cz.hi] at h
  omega
theorem pk1 {svs : List SV} (h : pkVs [.i .u8] svs) : ∃ v : Int, svs = by1 v ∧ (0 ≤ v ∧ v < 256) := by
  match svs, h with
  | [x], h =>
    simp only [pkVs, pkV] at h
    obtain ⟨⟨n, rfl, h1⟩, _⟩ := h
    exact ⟨n, rfl, u8b h1⟩
end Cz
namespace Cz
open Go Go.RowKit Go.Proofs
def w5 : List UInt8 := [45, 47, 48, 49, 50, 51, 97, 99, 101, 105, 110, 111, 114, 115, 116, 117]
def w6 : List UInt8 := [46, 52, 53, 54, 55, 56, 57, 58, 98, 100, 102, 103, 104, 108, 109, 112]
def w7 : List UInt8 := [65, 66, 67, 68, 69, 70, 71, 72, 106, 107, 113, 118, 119, 120, 121, 122]
theorem has_all : (List.range 256).all (fun n => (has w5 n == (Hu.cls n == 5)) && ((has w6 n == (Hu.cls n == 6)) && (has w7 n == (Hu.cls n == 7)))) = true := by decide +kernel
theorem has_at {n : Nat} (h : n < 256) : has w5 n = (Hu.cls n == 5) ∧ has w6 n = (Hu.cls n == 6) ∧ has w7 n = (Hu.cls n == 7) := by
  have := List.all_eq_true.1 has_all n (by simpa using h)
  simpa using this
theorem idx_at {c : Int} (h0 : 0 ≤ c) (h : c < 256) :
    (Hu.cls c.toNat = 5 ∧ 0 ≤ idxI w5 c ∧ idxI w6 c < 0 ∧ idxI w7 c < 0) ∨ (Hu.cls c.toNat = 6 ∧ idxI w5 c < 0 ∧ 0 ≤ idxI w6 c ∧ idxI w7 c < 0) ∨
    (Hu.cls c.toNat = 7 ∧ idxI w5 c < 0 ∧ idxI w6 c < 0 ∧ 0 ≤ idxI w7 c) ∨ (Hu.cls c.toNat = 11 ∧ idxI w5 c < 0 ∧ idxI w6 c < 0 ∧ idxI w7 c < 0) := by
  obtain ⟨n, rfl⟩ : ∃ n : Nat, c = n := ⟨c.toNat, by omega⟩
  obtain ⟨g5, g6, g7⟩ := has_at (n := n) (by omega)
  simp only [Int.toNat_natCast]
  rcases Hu.qme n with e | e | e | e <;> rw [e] at g5 g6 g7
  · exact .inl ⟨e, qvb g5, qhm g6, qhm g7⟩
  · exact .inr (.inl ⟨e, qhm g5, qvb g6, qhm g7⟩)
  · exact .inr (.inr (.inl ⟨e, qhm g5, qhm g6, qvb g7⟩))
  · exact .inr (.inr (.inr ⟨e, qhm g5, qhm g6, qhm g7⟩))
theorem qzaaj {c : Prop} {inst : Decidable c} {A B : Prop} (hc : c) (h : A) : @ite Prop c inst A B := by rw [if_pos hc]; exact h
def cellC (n : Nat) : List SV := [.i .i64 (.y (Hu.codeOf n)), .i .i64 (.y (Hu.cls n))]
def upto (c : Nat) : List SV := (List.range c).flatMap cellC ++ List.replicate (2 * (256 - c)) (.i .i64 (.l 0))
theorem qzagc (n : Nat) : ((List.range n).flatMap cellC).length = 2 * n := by
  induction n with
  | zero => rfl
  | succ n ih => rw [List.range_succ, List.flatMap_append, List.length_append, ih]; simp [cellC]; omega
theorem qgy {c : Nat} (h : c ≤ 256) : (upto c).length = 512 := by
  simp only [upto, List.length_append, qzagc, List.length_replicate]; omega
theorem repl2 (A B : List SV) (x y u v : SV) : repl (A ++ x :: y :: B) A.length [u, v] = A ++ u :: v :: B := by
  simp only [repl, qck]
  rw [List.set_append_right _ _ (Nat.le_refl _), Nat.sub_self, List.set_cons_zero, List.set_append_right _ _ (by omega), show A.length + 1 - A.length = 1 by omega]
  rfl
theorem upto_next {c : Nat} (h : c < 256) : repl (upto c) (c * 2) (cellC c) = upto (c + 1) := by
  have e1 : 2 * (256 - c) = 2 * (256 - (c + 1)) + 1 + 1 := by omega
  have e2 : c * 2 = ((List.range c).flatMap cellC).length := by rw [qzagc]; omega
  unfold upto
  rw [e1, List.replicate_succ, List.replicate_succ, e2]
  have := repl2 ((List.range c).flatMap cellC) (List.replicate (2 * (256 - (c + 1))) (.i .i64 (.l 0))) (.i .i64 (.l 0)) (.i .i64 (.l 0)) (.i .i64 (.y (Hu.codeOf c))) (.i .i64 (.y (Hu.cls c)))
  rw [List.range_succ, List.flatMap_append]
  simp only [List.flatMap_cons, List.flatMap_nil, List.append_nil, List.append_assoc]
  exact this
theorem qzabm (x : SV) : ∀ n, repS n [x] = List.replicate n x
  | 0 => rfl
  | n + 1 => by rw [repS, qzabm x n, List.replicate_succ]; rfl
theorem qxa {F : List SV} {ok : Nat → Bool} (h : refsBL ok F = true) : (match (match F with | [] => true | x :: xs => refsB ok x && refsBL ok xs) with | false => false | true => true) = true := by
  cases F with
  | nil => rfl
  | cons x xs => simp only [refsBL] at h; simp only [h]
theorem qak {ok : Nat → Bool} : ∀ {F : List SV}, plains F = true → refsBL ok F = true
  | [], _ => rfl
  | x :: xs, h => by
    simp only [plains, Bool.and_eq_true] at h
    simp only [refsBL, Bool.and_eq_true]
    exact ⟨qwd h.1, qak h.2⟩
theorem qzu (c : Nat) : plains (upto c) = true := by
  have h1 : ∀ (xs ys : List SV), plains (xs ++ ys) = (plains xs && plains ys) := by
    intro xs ys
    induction xs with
    | nil => simp [plains]
    | cons x xs ih => simp [plains, ih, Bool.and_assoc]
  have h2 : ∀ n, plains (List.replicate n (SV.i .i64 (.l 0))) = true := by
    intro n
    induction n with
    | zero => rfl
    | succ n ih => rw [List.replicate_succ]; simpa [plains, plainV] using ih
  have h3 : ∀ (l : List Nat), plains (l.flatMap cellC) = true := by
    intro l
    induction l with
    | nil => rfl
    | cons n l ih => rw [List.flatMap_cons, h1, ih]; rfl
  rw [upto, h1, h2, h3]; rfl
def codeLit : List SV :=
  [.i .i64 (.y 1792), .i .i64 (.y 11), .i .i64 (.y 1793), .i .i64 (.y 11), .i .i64 (.y 1794), .i .i64 (.y 11), .i .i64 (.y 1795), .i .i64 (.y 11), .i .i64 (.y 1796), .i .i64 (.y 11), .i .i64 (.y 1797), .i .i64 (.y 11), .i .i64 (.y 1798), .i .i64 (.y 11), .i .i64 (.y 1799), .i .i64 (.y 11), .i .i64 (.y 1800), .i .i64 (.y 11), .i .i64 (.y 1801), .i .i64 (.y 11), .i .i64 (.y 1802), .i .i64 (.y 11), .i .i64 (.y 1803), .i .i64 (.y 11), .i .i64 (.y 1804), .i .i64 (.y 11), .i .i64 (.y 1805), .i .i64 (.y 11), .i .i64 (.y 1806), .i .i64 (.y 11), .i .i64 (.y 1807), .i .i64 (.y 11), .i .i64 (.y 1808), .i .i64 (.y 11), .i .i64 (.y 1809), .i .i64 (.y 11), .i .i64 (.y 1810), .i .i64 (.y 11), .i .i64 (.y 1811), .i .i64 (.y 11), .i .i64 (.y 1812), .i .i64 (.y 11), .i .i64 (.y 1813), .i .i64 (.y 11), .i .i64 (.y 1814), .i .i64 (.y 11), .i .i64 (.y 1815), .i .i64 (.y 11), .i .i64 (.y 1816), .i .i64 (.y 11), .i .i64 (.y 1817), .i .i64 (.y 11), .i .i64 (.y 1818), .i .i64 (.y 11), .i .i64 (.y 1819), .i .i64 (.y 11), .i .i64 (.y 1820), .i .i64 (.y 11), .i .i64 (.y 1821), .i .i64 (.y 11), .i .i64 (.y 1822), .i .i64 (.y 11), .i .i64 (.y 1823), .i .i64 (.y 11), .i .i64 (.y 1824), .i .i64 (.y 11), .i .i64 (.y 1825), .i .i64 (.y 11), .i .i64 (.y 1826), .i .i64 (.y 11), .i .i64 (.y 1827), .i .i64 (.y 11), .i .i64 (.y 1828), .i .i64 (.y 11), .i .i64 (.y 1829), .i .i64 (.y 11), .i .i64 (.y 1830), .i .i64 (.y 11), .i .i64 (.y 1831), .i .i64 (.y 11), .i .i64 (.y 1832), .i .i64 (.y 11), .i .i64 (.y 1833), .i .i64 (.y 11), .i .i64 (.y 1834), .i .i64 (.y 11), .i .i64 (.y 1835), .i .i64 (.y 11), .i .i64 (.y 1836), .i .i64 (.y 11), .i .i64 (.y 0), .i .i64 (.y 5), .i .i64 (.y 32), .i .i64 (.y 6), .i .i64 (.y 1), .i .i64 (.y 5), .i .i64 (.y 2), .i .i64 (.y 5), .i .i64 (.y 3), .i .i64 (.y 5), .i .i64 (.y 4), .i .i64 (.y 5), .i .i64 (.y 5), .i .i64 (.y 5), .i .i64 (.y 33), .i .i64 (.y 6), .i .i64 (.y 34), .i .i64 (.y 6), .i .i64 (.y 35), .i .i64 (.y 6), .i .i64 (.y 36), .i .i64 (.y 6), .i .i64 (.y 37), .i .i64 (.y 6), .i .i64 (.y 38), .i .i64 (.y 6), .i .i64 (.y 39), .i .i64 (.y 6), .i .i64 (.y 1837), .i .i64 (.y 11), .i .i64 (.y 1838), .i .i64 (.y 11), .i .i64 (.y 1839), .i .i64 (.y 11), .i .i64 (.y 1840), .i .i64 (.y 11), .i .i64 (.y 1841), .i .i64 (.y 11), .i .i64 (.y 1842), .i .i64 (.y 11), .i .i64 (.y 96), .i .i64 (.y 7), .i .i64 (.y 97), .i .i64 (.y 7), .i .i64 (.y 98), .i .i64 (.y 7), .i .i64 (.y 99), .i .i64 (.y 7), .i .i64 (.y 100), .i .i64 (.y 7), .i .i64 (.y 101), .i .i64 (.y 7), .i .i64 (.y 102), .i .i64 (.y 7), .i .i64 (.y 103), .i .i64 (.y 7), .i .i64 (.y 1843), .i .i64 (.y 11), .i .i64 (.y 1844), .i .i64 (.y 11), .i .i64 (.y 1845), .i .i64 (.y 11), .i .i64 (.y 1846), .i .i64 (.y 11), .i .i64 (.y 1847), .i .i64 (.y 11), .i .i64 (.y 1848), .i .i64 (.y 11), .i .i64 (.y 1849), .i .i64 (.y 11), .i .i64 (.y 1850), .i .i64 (.y 11), .i .i64 (.y 1851), .i .i64 (.y 11), .i .i64 (.y 1852), .i .i64 (.y 11), .i .i64 (.y 1853), .i .i64 (.y 11), .i .i64 (.y 1854), .i .i64 (.y 11), .i .i64 (.y 1855), .i .i64 (.y 11), .i .i64 (.y 1856), .i .i64 (.y 11), .i .i64 (.y 1857), .i .i64 (.y 11), .i .i64 (.y 1858), .i .i64 (.y 11), .i .i64 (.y 1859), .i .i64 (.y 11), .i .i64 (.y 1860), .i .i64 (.y 11), .i .i64 (.y 1861), .i .i64 (.y 11), .i .i64 (.y 1862), .i .i64 (.y 11), .i .i64 (.y 1863), .i .i64 (.y 11), .i .i64 (.y 1864), .i .i64 (.y 11), .i .i64 (.y 1865), .i .i64 (.y 11), .i .i64 (.y 1866), .i .i64 (.y 11), .i .i64 (.y 6), .i .i64 (.y 5), .i .i64 (.y 40), .i .i64 (.y 6), .i .i64 (.y 7), .i .i64 (.y 5), .i .i64 (.y 41), .i .i64 (.y 6), .i .i64 (.y 8), .i .i64 (.y 5), .i .i64 (.y 42), .i .i64 (.y 6), .i .i64 (.y 43), .i .i64 (.y 6), .i .i64 (.y 44), .i .i64 (.y 6), .i .i64 (.y 9), .i .i64 (.y 5), .i .i64 (.y 104), .i .i64 (.y 7), .i .i64 (.y 105), .i .i64 (.y 7), .i .i64 (.y 45), .i .i64 (.y 6), .i .i64 (.y 46), .i .i64 (.y 6), .i .i64 (.y 10), .i .i64 (.y 5), .i .i64 (.y 11), .i .i64 (.y 5), .i .i64 (.y 47), .i .i64 (.y 6), .i .i64 (.y 106), .i .i64 (.y 7), .i .i64 (.y 12), .i .i64 (.y 5), .i .i64 (.y 13), .i .i64 (.y 5), .i .i64 (.y 14), .i .i64 (.y 5), .i .i64 (.y 15), .i .i64 (.y 5), .i .i64 (.y 107), .i .i64 (.y 7), .i .i64 (.y 108), .i .i64 (.y 7), .i .i64 (.y 109), .i .i64 (.y 7), .i .i64 (.y 110), .i .i64 (.y 7), .i .i64 (.y 111), .i .i64 (.y 7), .i .i64 (.y 1867), .i .i64 (.y 11), .i .i64 (.y 1868), .i .i64 (.y 11), .i .i64 (.y 1869), .i .i64 (.y 11), .i .i64 (.y 1870), .i .i64 (.y 11), .i .i64 (.y 1871), .i .i64 (.y 11), .i .i64 (.y 1872), .i .i64 (.y 11), .i .i64 (.y 1873), .i .i64 (.y 11), .i .i64 (.y 1874), .i .i64 (.y 11), .i .i64 (.y 1875), .i .i64 (.y 11), .i .i64 (.y 1876), .i .i64 (.y 11), .i .i64 (.y 1877), .i .i64 (.y 11), .i .i64 (.y 1878), .i .i64 (.y 11), .i .i64 (.y 1879), .i .i64 (.y 11), .i .i64 (.y 1880), .i .i64 (.y 11), .i .i64 (.y 1881), .i .i64 (.y 11), .i .i64 (.y 1882), .i .i64 (.y 11), .i .i64 (.y 1883), .i .i64 (.y 11), .i .i64 (.y 1884), .i .i64 (.y 11), .i .i64 (.y 1885), .i .i64 (.y 11), .i .i64 (.y 1886), .i .i64 (.y 11), .i .i64 (.y 1887), .i .i64 (.y 11), .i .i64 (.y 1888), .i .i64 (.y 11), .i .i64 (.y 1889), .i .i64 (.y 11), .i .i64 (.y 1890), .i .i64 (.y 11), .i .i64 (.y 1891), .i .i64 (.y 11), .i .i64 (.y 1892), .i .i64 (.y 11), .i .i64 (.y 1893), .i .i64 (.y 11), .i .i64 (.y 1894), .i .i64 (.y 11), .i .i64 (.y 1895), .i .i64 (.y 11), .i .i64 (.y 1896), .i .i64 (.y 11), .i .i64 (.y 1897), .i .i64 (.y 11), .i .i64 (.y 1898), .i .i64 (.y 11), .i .i64 (.y 1899), .i .i64 (.y 11), .i .i64 (.y 1900), .i .i64 (.y 11), .i .i64 (.y 1901), .i .i64 (.y 11), .i .i64 (.y 1902), .i .i64 (.y 11), .i .i64 (.y 1903), .i .i64 (.y 11), .i .i64 (.y 1904), .i .i64 (.y 11), .i .i64 (.y 1905), .i .i64 (.y 11), .i .i64 (.y 1906), .i .i64 (.y 11), .i .i64 (.y 1907), .i .i64 (.y 11), .i .i64 (.y 1908), .i .i64 (.y 11), .i .i64 (.y 1909), .i .i64 (.y 11), .i .i64 (.y 1910), .i .i64 (.y 11), .i .i64 (.y 1911), .i .i64 (.y 11), .i .i64 (.y 1912), .i .i64 (.y 11), .i .i64 (.y 1913), .i .i64 (.y 11), .i .i64 (.y 1914), .i .i64 (.y 11), .i .i64 (.y 1915), .i .i64 (.y 11), .i .i64 (.y 1916), .i .i64 (.y 11), .i .i64 (.y 1917), .i .i64 (.y 11), .i .i64 (.y 1918), .i .i64 (.y 11), .i .i64 (.y 1919), .i .i64 (.y 11), .i .i64 (.y 1920), .i .i64 (.y 11), .i .i64 (.y 1921), .i .i64 (.y 11), .i .i64 (.y 1922), .i .i64 (.y 11), .i .i64 (.y 1923), .i .i64 (.y 11), .i .i64 (.y 1924), .i .i64 (.y 11), .i .i64 (.y 1925), .i .i64 (.y 11), .i .i64 (.y 1926), .i .i64 (.y 11), .i .i64 (.y 1927), .i .i64 (.y 11), .i .i64 (.y 1928), .i .i64 (.y 11), .i .i64 (.y 1929), .i .i64 (.y 11), .i .i64 (.y 1930), .i .i64 (.y 11), .i .i64 (.y 1931), .i .i64 (.y 11), .i .i64 (.y 1932), .i .i64 (.y 11), .i .i64 (.y 1933), .i .i64 (.y 11), .i .i64 (.y 1934), .i .i64 (.y 11), .i .i64 (.y 1935), .i .i64 (.y 11), .i .i64 (.y 1936), .i .i64 (.y 11), .i .i64 (.y 1937), .i .i64 (.y 11), .i .i64 (.y 1938), .i .i64 (.y 11), .i .i64 (.y 1939), .i .i64 (.y 11), .i .i64 (.y 1940), .i .i64 (.y 11), .i .i64 (.y 1941), .i .i64 (.y 11), .i .i64 (.y 1942), .i .i64 (.y 11), .i .i64 (.y 1943), .i .i64 (.y 11), .i .i64 (.y 1944), .i .i64 (.y 11), .i .i64 (.y 1945), .i .i64 (.y 11), .i .i64 (.y 1946), .i .i64 (.y 11), .i .i64 (.y 1947), .i .i64 (.y 11), .i .i64 (.y 1948), .i .i64 (.y 11), .i .i64 (.y 1949), .i .i64 (.y 11), .i .i64 (.y 1950), .i .i64 (.y 11), .i .i64 (.y 1951), .i .i64 (.y 11), .i .i64 (.y 1952), .i .i64 (.y 11), .i .i64 (.y 1953), .i .i64 (.y 11), .i .i64 (.y 1954), .i .i64 (.y 11), .i .i64 (.y 1955), .i .i64 (.y 11), .i .i64 (.y 1956), .i .i64 (.y 11), .i .i64 (.y 1957), .i .i64 (.y 11), .i .i64 (.y 1958), .i .i64 (.y 11), .i .i64 (.y 1959), .i .i64 (.y 11), .i .i64 (.y 1960), .i .i64 (.y 11), .i .i64 (.y 1961), .i .i64 (.y 11), .i .i64 (.y 1962), .i .i64 (.y 11), .i .i64 (.y 1963), .i .i64 (.y 11), .i .i64 (.y 1964), .i .i64 (.y 11), .i .i64 (.y 1965), .i .i64 (.y 11), .i .i64 (.y 1966), .i .i64 (.y 11), .i .i64 (.y 1967), .i .i64 (.y 11), .i .i64 (.y 1968), .i .i64 (.y 11), .i .i64 (.y 1969), .i .i64 (.y 11), .i .i64 (.y 1970), .i .i64 (.y 11), .i .i64 (.y 1971), .i .i64 (.y 11), .i .i64 (.y 1972), .i .i64 (.y 11), .i .i64 (.y 1973), .i .i64 (.y 11), .i .i64 (.y 1974), .i .i64 (.y 11), .i .i64 (.y 1975), .i .i64 (.y 11), .i .i64 (.y 1976), .i .i64 (.y 11), .i .i64 (.y 1977), .i .i64 (.y 11), .i .i64 (.y 1978), .i .i64 (.y 11), .i .i64 (.y 1979), .i .i64 (.y 11), .i .i64 (.y 1980), .i .i64 (.y 11), .i .i64 (.y 1981), .i .i64 (.y 11), .i .i64 (.y 1982), .i .i64 (.y 11), .i .i64 (.y 1983), .i .i64 (.y 11), .i .i64 (.y 1984), .i .i64 (.y 11), .i .i64 (.y 1985), .i .i64 (.y 11), .i .i64 (.y 1986), .i .i64 (.y 11), .i .i64 (.y 1987), .i .i64 (.y 11), .i .i64 (.y 1988), .i .i64 (.y 11), .i .i64 (.y 1989), .i .i64 (.y 11), .i .i64 (.y 1990), .i .i64 (.y 11), .i .i64 (.y 1991), .i .i64 (.y 11), .i .i64 (.y 1992), .i .i64 (.y 11), .i .i64 (.y 1993), .i .i64 (.y 11), .i .i64 (.y 1994), .i .i64 (.y 11), .i .i64 (.y 1995), .i .i64 (.y 11), .i .i64 (.y 1996), .i .i64 (.y 11), .i .i64 (.y 1997), .i .i64 (.y 11), .i .i64 (.y 1998), .i .i64 (.y 11), .i .i64 (.y 1999), .i .i64 (.y 11)]
theorem qim : upto 256 = codeLit := by kernel_rfl
def cntI (m : Nat) (c : Int) : Int := Hu.cnt m c.toNat
def codeI (c : Int) : Int := Hu.codeOf c.toNat
def clsI (c : Int) : Int := Hu.cls c.toNat
theorem qjs {m : Nat} {c : Int} (h : 0 ≤ c) : 0 ≤ cntI m c ∧ cntI m c ≤ c := by
  have := Hu.cnt_le m c.toNat
  unfold cntI; omega
theorem qas {m : Nat} {c : Int} (h : 0 ≤ c) : cntI m (c + 1) = cntI m c + (if Hu.cls c.toNat = m then 1 else 0) := by
  unfold cntI
  rw [show (c + 1).toNat = c.toNat + 1 by omega, Hu.qzadb]
  split <;> simp
theorem qmx {m : Nat} {c : Int} (h : Hu.cls c.toNat = m) : codeI c = Hu.base m + cntI m c := by
  unfold codeI cntI Hu.codeOf; rw [h]; simp
theorem qzaai {F : List SV} {n : Nat} : lenS F = n → n = (match F with | [] => 0 | _ :: l => lenS l + 1) := by
  intro h
  cases F with
  | nil => exact h.symm
  | cons x xs => exact h.symm
theorem s_wr' {S : Sy} {F : List SV} {i : Int} {sz j : Nat} {ws : List SV} {K : List SV → Prop} (hS : S0 Tryz.prog = S) (h0 : 0 ≤ i) (h1 : (i.toNat + 1) * sz ≤ F.length) (h2 : j + ws.length ≤ sz) (h3 : plains ws = true)
    (h4 : ∀ F', repl F (i.toNat * sz + j) ws = F' → K F') : S.wr F i sz j ws K := s_wr hS h0 h1 h2 h3 (h4 _ rfl)
theorem subL_put {x y : SV} (h : Sub x y) : ∀ {F F' : List SV} (o : Nat), SubL F F' → SubL (put F o x) (put F' o y)
  | _, _, _, .nil => .nil
  | _, _, 0, .cons _ hs => .cons h hs
  | _, _, o + 1, .cons h1 hs => .cons h1 (subL_put h o hs)
theorem subL_repl {ws ws' : List SV} (h : SubL ws ws') : ∀ {F F' : List SV} (o : Nat), SubL F F' → SubL (repl F o ws) (repl F' o ws') := by
  induction h with
  | nil => exact fun _ h => h
  | cons h _ ih => exact fun o hF => ih (o + 1) (subL_put h o hF)
theorem qqe {F F' : List SV} {c a : Int} {m : Nat} (h0 : 0 ≤ c) (h : c < 256) (hF : F = upto c.toNat) (hc : Hu.cls c.toNat = m) (ha : a = Hu.base m + cntI m c) (h' : repl F (c.toNat * 2 + 0) [.i .i64 (.y a), .i .i64 (.l m)] = F') : SubL F' (upto (c + 1).toNat) := by
  rw [← h', hF, show (c + 1).toNat = c.toNat + 1 by omega, ← upto_next (by omega)]
  refine subL_repl (.cons (qae ?_) (.cons (qae ?_) .nil)) _ .rfl
  · simp only [Z.v]; rw [ha, ← qmx hc]; rfl
  · simp only [Z.v]; rw [← hc]
theorem s_all {S : Sy} (hS : S0 Tryz.prog = S) {cs ws : List SV} {sz : Nat} {K : List SV → Prop} (h1 : cs.length = sz) (h2 : ws.length = sz) (hp : plains ws = true) (h : K ws) : S.wr cs 0 sz 0 ws K := by
  refine s_wr hS (Int.le_refl 0) (by rw [h1]; simp) (by rw [h2]; simp) hp ?_
  have : ∀ (cs ws : List SV), cs.length = ws.length → repl cs 0 ws = ws := by
    intro cs
    induction cs with
    | nil => intro ws h; cases ws with
      | nil => rfl
      | cons => simp at h
    | cons c cs ih => intro ws h; cases ws with
      | nil => simp at h
      | cons w ws =>
        rw [repl, put, qqh, ih ws (by simpa using h)]
  rw [show (0 : Int).toNat * sz + 0 = 0 by simp, this cs ws (by rw [h1, h2])]
  exact h
theorem codes_f : (S0 Tryz.prog).call 112 [] [] (fun x _ => Sub x (.ag codeLit)) := by
  generalize hT : codeLit = T
  generalize hS : S0 Tryz.prog = S
  refine qaa hS I.qzacq ?_
  unfold I.qzaal
  generalize hZ : repS 512 [SV.i .i64 (.l 0)] = Zs
  cbv
  refine qaa hS I.qrc ?_
  cbv
  refine qiy hS I.qls ?_
  cbv
  iterate 4 (refine s_mu hS ?_; cbv)
  have hz : Zs = upto 0 := by rw [← hZ, qzabm]; rfl
  have hg : ∀ (F : List SV) (n : Nat), F = upto n → ∀ ok, refsBL ok F = true := by
    intro F n hF ok
    subst hF
    exact qak (qzu n)
  refine qav hS 4 I.qgl (fun x : Int × Int × Int × Int × Int × List SV => 0 ≤ x.1 ∧ x.1 ≤ 256 ∧ x.2.1 = cntI 5 x.1 ∧ x.2.2.1 = 32 + cntI 6 x.1 ∧ x.2.2.2.1 = 96 + cntI 7 x.1 ∧ x.2.2.2.2.1 = 1792 + cntI 11 x.1 ∧ x.2.2.2.2.2 = upto x.1.toNat)
    (fun x => [(10, .i .i64 (.y x.1))])
    (fun x => [(0, .c x.2.2.2.2.2), (3, .m [(.i .i64 (.l 5), .i .i64 (.y x.2.1)), (.i .i64 (.l 6), .i .i64 (.y x.2.2.1)), (.i .i64 (.l 7), .i .i64 (.y x.2.2.2.1)), (.i .i64 (.l 11), .i .i64 (.y x.2.2.2.2.1))])])
    (fun x => (256 - x.1).toNat) (0, 0, 32, 96, 1792, Zs) rfl ⟨⟨Int.le_refl _, (by show (0 : Int) ≤ 256; omega), rfl, rfl, rfl, rfl, hz⟩, rfl, ?_, ?_, ?_⟩ ?_
  · cbv; all_goals exact s_sA
  · cbv; all_goals exact s_bA
  · cbv
    exact qxa (hg _ _ hz _)
  · intro x
    obtain ⟨c, a5, a6, a7, a11, F⟩ := x
    intro ha
    dsimp only at ha
    cbv
    obtain ⟨h0, h1, e5, e6, e7, e11, hF⟩ := ha
    refine s_br hS ?_ ?_ <;> intro h
    · cbv
      simp only [← hS, Int.ofNat_eq_natCast, cq, Bool.not_eq_true', Bool.not_eq_false', decide_eq_true_eq, decide_eq_false_iff_not, beq_iff_eq, beq_eq_false_iff_ne, ne_eq] at h
      have k5 := qjs (m := 5) h0
      have k6 := qjs (m := 6) h0
      have k7 := qjs (m := 7) h0
      have k11 := qjs (m := 11) h0
      have hlen : lenS F = 512 := by rw [qcj, hF, qgy (by omega)]
      rcases idx_at h0 h with ⟨hc, i5, i6, i7⟩ | ⟨hc, i5, i6, i7⟩ | ⟨hc, i5, i6, i7⟩ | ⟨hc, i5, i6, i7⟩
      · refine qag hS ?_
        cbv
        repeat' (first | (refine qbr hS ?_; try cbv) | fail)
        refine qcb hS fun r5 h5 => ?_
        replace h5 : 0 ≤ r5 := by rw [← h5]; exact i5
        cbv
        repeat' (first | (refine qai hS ?_ ?_ <;> intro h <;> (try cbv) <;> try exact s_ab h) | fail)
        refine qag hS ?_
        cbv
        repeat' (first | (refine qbr hS ?_; try cbv) | fail)
        refine qcb hS fun r6 h6 => ?_
        replace h6 : r6 < 0 := by rw [← h6]; exact i6
        cbv
        repeat' (first | (refine qai hS ?_ ?_ <;> intro h <;> (try cbv) <;> try exact s_ab h) | fail)
        refine qag hS ?_
        cbv
        repeat' (first | (refine qbr hS ?_; try cbv) | fail)
        refine qcb hS fun r7 h7 => ?_
        replace h7 : r7 < 0 := by rw [← h7]; exact i7
        cbv
        repeat' (first | (refine qai hS ?_ ?_ <;> intro h <;> (try cbv) <;> try exact s_ab h) | fail)
        refine qag hS ?_
        cbv
        repeat' (first | (refine s_st hS ?_; try cbv) | (refine qax hS ?_; intro _ _; try cbv) | (refine qbr hS ?_; try cbv) | fail)
        refine qfp hS rfl rfl ?_
        cbv
        refine qzaaj (qzaai hlen) ?_
        cbv
        repeat' (first | (refine s_st hS ?_; try cbv) | fail)
        refine s_wr' hS h0 (by rw [hF, qgy (by omega)]; omega) (Nat.le_refl 2) rfl ?_
        intro F' hF'
        cbv
        repeat' (first | (refine qax hS ?_; intro _ _; try cbv) | fail)
        obtain ⟨c1, h_c1⟩ : ∃ r_, r_ = c + 1 := ⟨_, rfl⟩
        obtain ⟨F2, hF2⟩ : ∃ F2, F2 = upto c1.toNat := ⟨_, rfl⟩
        obtain ⟨b5, h_b5⟩ : ∃ r_, r_ = a5 + 1 := ⟨_, rfl⟩
        have n5 := qas (m := 5) h0
        have n6 := qas (m := 6) h0
        have n7 := qas (m := 7) h0
        have n11 := qas (m := 11) h0
        rw [hc, ← h_c1] at n5 n6 n7 n11
        simp at n5 n6 n7 n11
        have hsub : SubL F' F2 := by
          rw [hF2, h_c1]
          exact qqe h0 (by assumption) hF hc (by simp [Hu.base]; omega) hF'
        refine ⟨(c1, b5, a6, a7, a11, F2), by dsimp only; omega, ⟨by dsimp only; omega, by dsimp only; omega, by dsimp only; omega, by dsimp only; omega, by dsimp only; omega, by dsimp only; omega, hF2⟩, rfl, ?_, ?_, ?_⟩
        · cbv; all_goals exact s_sA
        · cbv; all_goals exact s_bA
        · cbv; exact qxa (hg _ _ hF2 _)
      · refine qag hS ?_
        cbv
        repeat' (first | (refine qbr hS ?_; try cbv) | fail)
        refine qcb hS fun r5 h5 => ?_
        replace h5 : r5 < 0 := by rw [← h5]; exact i5
        cbv
        repeat' (first | (refine qai hS ?_ ?_ <;> intro h <;> (try cbv) <;> try exact s_ab h) | fail)
        refine qag hS ?_
        cbv
        repeat' (first | (refine qbr hS ?_; try cbv) | fail)
        refine qcb hS fun r6 h6 => ?_
        replace h6 : 0 ≤ r6 := by rw [← h6]; exact i6
        cbv
        repeat' (first | (refine qai hS ?_ ?_ <;> intro h <;> (try cbv) <;> try exact s_ab h) | fail)
        refine qag hS ?_
        cbv
        repeat' (first | (refine qbr hS ?_; try cbv) | fail)
        refine qcb hS fun r7 h7 => ?_
        replace h7 : r7 < 0 := by rw [← h7]; exact i7
        cbv
        repeat' (first | (refine qai hS ?_ ?_ <;> intro h <;> (try cbv) <;> try exact s_ab h) | fail)
        refine qag hS ?_
        cbv
        repeat' (first | (refine s_st hS ?_; try cbv) | (refine qax hS ?_; intro _ _; try cbv) | (refine qbr hS ?_; try cbv) | fail)
        refine qfp hS rfl rfl ?_
        cbv
        refine qzaaj (qzaai hlen) ?_
        cbv
        repeat' (first | (refine s_st hS ?_; try cbv) | fail)
        refine s_wr' hS h0 (by rw [hF, qgy (by omega)]; omega) (Nat.le_refl 2) rfl ?_
        intro F' hF'
        cbv
        repeat' (first | (refine qax hS ?_; intro _ _; try cbv) | fail)
        obtain ⟨c1, h_c1⟩ : ∃ r_, r_ = c + 1 := ⟨_, rfl⟩
        obtain ⟨F2, hF2⟩ : ∃ F2, F2 = upto c1.toNat := ⟨_, rfl⟩
        obtain ⟨b6, h_b6⟩ : ∃ r_, r_ = a6 + 1 := ⟨_, rfl⟩
        have n5 := qas (m := 5) h0
        have n6 := qas (m := 6) h0
        have n7 := qas (m := 7) h0
        have n11 := qas (m := 11) h0
        rw [hc, ← h_c1] at n5 n6 n7 n11
        simp at n5 n6 n7 n11
        have hsub : SubL F' F2 := by
          rw [hF2, h_c1]
          exact qqe h0 (by assumption) hF hc (by simp [Hu.base]; omega) hF'
        refine ⟨(c1, a5, b6, a7, a11, F2), by dsimp only; omega, ⟨by dsimp only; omega, by dsimp only; omega, by dsimp only; omega, by dsimp only; omega, by dsimp only; omega, by dsimp only; omega, hF2⟩, rfl, ?_, ?_, ?_⟩
        · cbv; all_goals exact s_sA
        · cbv; all_goals exact s_bA
        · cbv; exact qxa (hg _ _ hF2 _)
      · refine qag hS ?_
        cbv
        repeat' (first | (refine qbr hS ?_; try cbv) | fail)
        refine qcb hS fun r5 h5 => ?_
        replace h5 : r5 < 0 := by rw [← h5]; exact i5
        cbv
        repeat' (first | (refine qai hS ?_ ?_ <;> intro h <;> (try cbv) <;> try exact s_ab h) | fail)
        refine qag hS ?_
        cbv
        repeat' (first | (refine qbr hS ?_; try cbv) | fail)
        refine qcb hS fun r6 h6 => ?_
        replace h6 : r6 < 0 := by rw [← h6]; exact i6
        cbv
        repeat' (first | (refine qai hS ?_ ?_ <;> intro h <;> (try cbv) <;> try exact s_ab h) | fail)
        refine qag hS ?_
        cbv
        repeat' (first | (refine qbr hS ?_; try cbv) | fail)
        refine qcb hS fun r7 h7 => ?_
        replace h7 : 0 ≤ r7 := by rw [← h7]; exact i7
        cbv
        repeat' (first | (refine qai hS ?_ ?_ <;> intro h <;> (try cbv) <;> try exact s_ab h) | fail)
        refine qag hS ?_
        cbv
        repeat' (first | (refine s_st hS ?_; try cbv) | (refine qax hS ?_; intro _ _; try cbv) | (refine qbr hS ?_; try cbv) | fail)
        refine qfp hS rfl rfl ?_
        cbv
        refine qzaaj (qzaai hlen) ?_
        cbv
        repeat' (first | (refine s_st hS ?_; try cbv) | fail)
        refine s_wr' hS h0 (by rw [hF, qgy (by omega)]; omega) (Nat.le_refl 2) rfl ?_
        intro F' hF'
        cbv
        repeat' (first | (refine qax hS ?_; intro _ _; try cbv) | fail)
        obtain ⟨c1, h_c1⟩ : ∃ r_, r_ = c + 1 := ⟨_, rfl⟩
        obtain ⟨F2, hF2⟩ : ∃ F2, F2 = upto c1.toNat := ⟨_, rfl⟩
        obtain ⟨b7, h_b7⟩ : ∃ r_, r_ = a7 + 1 := ⟨_, rfl⟩
        have n5 := qas (m := 5) h0
        have n6 := qas (m := 6) h0
        have n7 := qas (m := 7) h0
        have n11 := qas (m := 11) h0
        rw [hc, ← h_c1] at n5 n6 n7 n11
        simp at n5 n6 n7 n11
        have hsub : SubL F' F2 := by
          rw [hF2, h_c1]
          exact qqe h0 (by assumption) hF hc (by simp [Hu.base]; omega) hF'
        refine ⟨(c1, a5, a6, b7, a11, F2), by dsimp only; omega, ⟨by dsimp only; omega, by dsimp only; omega, by dsimp only; omega, by dsimp only; omega, by dsimp only; omega, by dsimp only; omega, hF2⟩, rfl, ?_, ?_, ?_⟩
        · cbv; all_goals exact s_sA
        · cbv; all_goals exact s_bA
        · cbv; exact qxa (hg _ _ hF2 _)
      · refine qag hS ?_
        cbv
        repeat' (first | (refine qbr hS ?_; try cbv) | fail)
        refine qcb hS fun r5 h5 => ?_
        replace h5 : r5 < 0 := by rw [← h5]; exact i5
        cbv
        repeat' (first | (refine qai hS ?_ ?_ <;> intro h <;> (try cbv) <;> try exact s_ab h) | fail)
        refine qag hS ?_
        cbv
        repeat' (first | (refine qbr hS ?_; try cbv) | fail)
        refine qcb hS fun r6 h6 => ?_
        replace h6 : r6 < 0 := by rw [← h6]; exact i6
        cbv
        repeat' (first | (refine qai hS ?_ ?_ <;> intro h <;> (try cbv) <;> try exact s_ab h) | fail)
        refine qag hS ?_
        cbv
        repeat' (first | (refine qbr hS ?_; try cbv) | fail)
        refine qcb hS fun r7 h7 => ?_
        replace h7 : r7 < 0 := by rw [← h7]; exact i7
        cbv
        repeat' (first | (refine qai hS ?_ ?_ <;> intro h <;> (try cbv) <;> try exact s_ab h) | fail)
        refine qag hS ?_
        cbv
        repeat' (first | (refine s_st hS ?_; try cbv) | (refine qax hS ?_; intro _ _; try cbv) | (refine qbr hS ?_; try cbv) | fail)
        refine qfp hS rfl rfl ?_
        cbv
        refine qzaaj (qzaai hlen) ?_
        cbv
        repeat' (first | (refine s_st hS ?_; try cbv) | fail)
        refine s_wr' hS h0 (by rw [hF, qgy (by omega)]; omega) (Nat.le_refl 2) rfl ?_
        intro F' hF'
        cbv
        repeat' (first | (refine qax hS ?_; intro _ _; try cbv) | fail)
        obtain ⟨c1, h_c1⟩ : ∃ r_, r_ = c + 1 := ⟨_, rfl⟩
        obtain ⟨F2, hF2⟩ : ∃ F2, F2 = upto c1.toNat := ⟨_, rfl⟩
        obtain ⟨b11, h_b11⟩ : ∃ r_, r_ = a11 + 1 := ⟨_, rfl⟩
        have n5 := qas (m := 5) h0
        have n6 := qas (m := 6) h0
        have n7 := qas (m := 7) h0
        have n11 := qas (m := 11) h0
        rw [hc, ← h_c1] at n5 n6 n7 n11
        simp at n5 n6 n7 n11
        have hsub : SubL F' F2 := by
          rw [hF2, h_c1]
          exact qqe h0 (by assumption) hF hc (by simp [Hu.base]; omega) hF'
        refine ⟨(c1, a5, a6, a7, b11, F2), by dsimp only; omega, ⟨by dsimp only; omega, by dsimp only; omega, by dsimp only; omega, by dsimp only; omega, by dsimp only; omega, by dsimp only; omega, hF2⟩, rfl, ?_, ?_, ?_⟩
        · cbv; all_goals exact s_sA
        · cbv; all_goals exact s_bA
        · cbv; exact qxa (hg _ _ hF2 _)
    · simp only [← hS, Int.ofNat_eq_natCast, cq, Bool.not_eq_true', Bool.not_eq_false', decide_eq_true_eq, decide_eq_false_iff_not, beq_iff_eq, beq_eq_false_iff_ne, ne_eq] at h
      have hF2 : F = codeLit := by rw [hF, show c = 256 by omega]; exact qim
      rw [hF2]
      cbv
      refine qzabh hS (by subst hS; kernel_rfl) ?_
      refine s_all hS (by kernel_rfl) (by kernel_rfl) (by kernel_rfl) ?_
      cbv
      rw [← hT]
      exact Sub.rfl
end Cz
namespace Cz
open Go Go.RowKit Go.Proofs
theorem qxv {T : List SV} (hT : codeLit = T) : lenS T = 512 := by rw [qcj, ← hT, ← qim, qgy (Nat.le_refl _)]
end Cz
namespace Cz
open Go Go.RowKit Go.Proofs
def ent (n : Nat) : SV × SV := (.ag [.i .i64 (.y (codeI n)), .i .i64 (.y (clsI n))], .i .u8 (.y n))
def knownE (c : Nat) : List (SV × SV) := (List.range c).map ent
theorem qbl (c : Nat) : norefM (knownE c) = true := by
  unfold knownE
  induction List.range c with
  | nil => rfl
  | cons n l ih => simp only [List.map_cons, ent, norefM, ih]; rfl
theorem SubM.refl : ∀ (es : List (SV × SV)), SubM es es
  | [] => .nil
  | (_, _) :: r => .cons .rfl .rfl (SubM.refl r)
theorem gcM_ok {n : Nat} : ∀ {es : List (SV × SV)}, norefM es = true → gcM n es = true
  | [], _ => rfl
  | (k, v) :: r, h => by
    simp only [norefM, Bool.and_eq_true] at h
    simp only [gcM, Bool.and_eq_true]
    exact ⟨⟨qhy (fun _ h => by cases h) _ h.1.1, qhy (fun _ h => by cases h) _ h.1.2⟩, gcM_ok h.2⟩
theorem gc_map {n : Nat} {es : List (SV × SV)} : norefM es = true → (match
      match es with
      | [] => true
      | (k, v) :: r => refsB (low n) k && refsB (low n) v && gcM n r with
    | false => false
    | true => true) = true := by
  intro h
  have := gcM_ok (n := n) h
  cases es with
  | nil => rfl
  | cons e r => simp only [gcM] at this; simp only [this]
theorem known_keys {n : Nat} {e : SV × SV} (h : e ∈ knownE n) : ∃ k, k < n ∧ e = ent k := by
  simp only [knownE, List.mem_map, List.mem_range] at h
  obtain ⟨k, hk, rfl⟩ := h
  exact ⟨k, hk, rfl⟩
theorem known_next (n : Nat) : knownE (n + 1) = knownE n ++ [ent n] := by
  unfold knownE; rw [List.range_succ, List.map_append]; rfl
theorem veq_2 {S : Sy} (hS : S0 Tryz.prog = S) {x y : Z} {a b : Int} {k1 k2 : Unit → Prop} (h1 : x.v = a → y.v = b → k1 ()) (h2 : (x.v ≠ a ∨ y.v ≠ b) → k2 ()) :
    veq S ⟨true, [.ki, .ki]⟩ (.ag [.i .i64 x, .i .i64 y]) (.ag [.i .i64 (.y a), .i .i64 (.y b)]) k1 k2 := by
  subst hS
  have e : ∀ (x : Z) (a : Int) (k1 k2 : Unit → Prop), (x.v = a → k1 ()) → (x.v ≠ a → k2 ()) → veq1 (S0 Tryz.prog) .ki (.i .i64 x) (.i .i64 (.y a)) k1 k2 := by
    intro x a k1 k2 h1 h2
    have : (S0 Tryz.prog).br ((S0 Tryz.prog).cmp .eq x.v a) k1 k2 := ⟨fun h => h1 (by simpa [qzaat] using h), fun h => h2 (by simpa [qzaat] using h)⟩
    cases x <;> exact this
  show veq1 (S0 Tryz.prog) .ki (.i .i64 x) (.i .i64 (.y a)) (fun _ => veq1 (S0 Tryz.prog) .ki (.i .i64 y) (.i .i64 (.y b)) (fun _ => k1 ()) k2) k2
  exact e x a _ _ (fun e1 => e y b _ _ (fun e2 => h1 e1 e2) fun n => h2 (.inr n)) fun n => h2 (.inl n)
theorem qzadp {S : Sy} (hS : S0 Tryz.prog = S) {x y : Z} {v : SV} {K : List (SV × SV) → Prop} : ∀ {es acc : List (SV × SV)} (h : ∀ e ∈ es, ∃ a b, e.1 = .ag [.i .i64 (.y a), .i .i64 (.y b)] ∧ (x.v ≠ a ∨ y.v ≠ b))
    (hK : K (acc ++ es ++ [(.ag [.i .i64 x, .i .i64 y], v)])), vmupd S ⟨true, [.ki, .ki]⟩ (.ag [.i .i64 x, .i .i64 y]) v K acc es
  | [], acc, _, hK => by simpa [vmupd] using hK
  | (k, u) :: r, acc, h, hK => by
    obtain ⟨a, b, e, hn⟩ := h _ (List.mem_cons_self ..)
    dsimp only at e
    subst e
    simp only [vmupd]
    refine veq_2 hS (fun e1 e2 => ?_) fun _ => qzadp hS (fun e he => h e (List.mem_cons_of_mem _ he)) (by simpa using hK)
    rcases hn with hn | hn <;> contradiction
theorem qzadc {c : Int} {m : Nat} {z : Z} (h : Hu.cls c.toNat = m) (hz : z.v = m) : clsI c = z.v := by unfold clsI; rw [h, hz]
theorem qqp {S : Sy} (hS : S0 Tryz.prog = S) {c a : Int} {z : Z} {K : List (SV × SV) → Prop} {es : List (SV × SV)} (h0 : 0 ≤ c) (hc : codeI c = a) (hm : clsI c = z.v) (he : es = knownE c.toNat)
    (hK : ∀ es', SubM es' (knownE (c + 1).toNat) → norefM es' = true → K es') :
    vmupd S ⟨true, [.ki, .ki]⟩ (.ag [.i .i64 (.y a), .i .i64 z]) (.i .u8 (.y c)) K [] es := by
  subst he
  refine qzadp hS (fun e h => ?_) (hK _ ?_ ?_)
  · obtain ⟨k, hk, rfl⟩ := known_keys h
    refine ⟨_, _, rfl, ?_⟩
    simp only [Z.v]
    by_cases e1 : a = codeI k
    · refine .inr fun e2 => ?_
      rw [← hc] at e1
      have e3 : clsI c = clsI k := hm.trans e2
      unfold codeI at e1; unfold clsI at e3
      simp only [Int.toNat_natCast] at e1 e3
      have := Hu.qvf (c := c.toNat) (d := k) (by omega) (by omega)
      omega
    · exact .inl e1
  · rw [show (c + 1).toNat = c.toNat + 1 by omega, known_next, List.nil_append]
    have : ∀ (l : List (SV × SV)) (x y : SV × SV), Sub x.1 y.1 → Sub x.2 y.2 → SubM (l ++ [x]) (l ++ [y]) := by
      intro l x y h1 h2
      induction l with
      | nil => exact .cons h1 h2 .nil
      | cons e l ih => exact .cons .rfl .rfl ih
    refine this _ _ _ (qco (.cons (qae ?_) (.cons (qae ?_) .nil))) (qae ?_)
    · simp only [Z.v]; rw [← hc, Int.toNat_of_nonneg h0]
    · rw [← hm, Int.toNat_of_nonneg h0]; rfl
    · simp only [Z.v]; omega
  · rw [List.nil_append]
    have := qbl c.toNat
    generalize knownE c.toNat = l at this
    induction l with
    | nil => rfl
    | cons e l ih => obtain ⟨k, u⟩ := e; simp only [norefM, Bool.and_eq_true, List.cons_append] at this ⊢; exact ⟨this.1, ih this.2⟩
theorem known_f {T : List (SV × SV)} (hT : knownE 256 = T) : (S0 Tryz.prog).call 132 [] [] (MapIs 0 T) := by
  generalize hS : S0 Tryz.prog = S
  refine qaa hS I.qzacp ?_
  unfold I.qzaak
  cbv
  refine qaa hS I.qrc ?_
  cbv
  refine qiy hS I.qls ?_
  cbv
  iterate 4 (refine s_mu hS ?_; cbv)
  refine qav hS 5 I.qgl (fun x : Int × Int × Int × Int × Int × List (SV × SV) => 0 ≤ x.1 ∧ x.1 ≤ 256 ∧ x.2.1 = cntI 5 x.1 ∧ x.2.2.1 = 32 + cntI 6 x.1 ∧ x.2.2.2.1 = 96 + cntI 7 x.1 ∧ x.2.2.2.2.1 = 1792 + cntI 11 x.1 ∧ x.2.2.2.2.2 = knownE x.1.toNat)
    (fun x => [(10, .i .i64 (.y x.1))])
    (fun x => [(0, .m x.2.2.2.2.2), (4, .m [(.i .i64 (.l 5), .i .i64 (.y x.2.1)), (.i .i64 (.l 6), .i .i64 (.y x.2.2.1)), (.i .i64 (.l 7), .i .i64 (.y x.2.2.2.1)), (.i .i64 (.l 11), .i .i64 (.y x.2.2.2.2.1))])])
    (fun x => (256 - x.1).toNat) (0, 0, 32, 96, 1792, []) rfl ⟨⟨Int.le_refl _, (by show (0 : Int) ≤ 256; omega), rfl, rfl, rfl, rfl, rfl⟩, rfl, ?_, ?_, ?_⟩ ?_
  · cbv; all_goals exact s_sA
  · cbv; all_goals exact s_bA
  · cbv
  · intro x
    obtain ⟨c, a5, a6, a7, a11, F⟩ := x
    intro ha
    dsimp only at ha
    cbv
    obtain ⟨h0, h1, e5, e6, e7, e11, hF⟩ := ha
    refine s_br hS ?_ ?_ <;> intro h
    · cbv
      simp only [← hS, Int.ofNat_eq_natCast, cq, Bool.not_eq_true', Bool.not_eq_false', decide_eq_true_eq, decide_eq_false_iff_not, beq_iff_eq, beq_eq_false_iff_ne, ne_eq] at h
      have k5 := qjs (m := 5) h0
      have k6 := qjs (m := 6) h0
      have k7 := qjs (m := 7) h0
      have k11 := qjs (m := 11) h0
      rcases idx_at h0 h with ⟨hc, i5, i6, i7⟩ | ⟨hc, i5, i6, i7⟩ | ⟨hc, i5, i6, i7⟩ | ⟨hc, i5, i6, i7⟩
      · refine qag hS ?_
        cbv
        repeat' (first | (refine qbr hS ?_; try cbv) | fail)
        refine qcb hS fun r5 h5 => ?_
        replace h5 : 0 ≤ r5 := by rw [← h5]; exact i5
        cbv
        repeat' (first | (refine qai hS ?_ ?_ <;> intro h <;> (try cbv) <;> try exact s_ab h) | fail)
        refine qag hS ?_
        cbv
        repeat' (first | (refine qbr hS ?_; try cbv) | fail)
        refine qcb hS fun r6 h6 => ?_
        replace h6 : r6 < 0 := by rw [← h6]; exact i6
        cbv
        repeat' (first | (refine qai hS ?_ ?_ <;> intro h <;> (try cbv) <;> try exact s_ab h) | fail)
        refine qag hS ?_
        cbv
        repeat' (first | (refine qbr hS ?_; try cbv) | fail)
        refine qcb hS fun r7 h7 => ?_
        replace h7 : r7 < 0 := by rw [← h7]; exact i7
        cbv
        repeat' (first | (refine qai hS ?_ ?_ <;> intro h <;> (try cbv) <;> try exact s_ab h) | fail)
        refine qag hS ?_
        cbv
        repeat' (first | (refine s_st hS ?_; try cbv) | (refine qax hS ?_; intro _ _; try cbv) | (refine qbr hS ?_; try cbv) | fail)
        refine qfp hS rfl rfl ?_
        cbv
        refine s_mu hS ?_
        refine qqp hS h0 (by rw [qmx hc]; simp [Hu.base]; omega) (qzadc hc rfl) hF fun F' hF' hN => ?_
        cbv
        repeat' (first | (refine qax hS ?_; intro _ _; try cbv) | fail)
        obtain ⟨c1, h_c1⟩ : ∃ r_, r_ = c + 1 := ⟨_, rfl⟩
        obtain ⟨F2, hF2⟩ : ∃ F2, F2 = knownE c1.toNat := ⟨_, rfl⟩
        obtain ⟨b5, h_b5⟩ : ∃ r_, r_ = a5 + 1 := ⟨_, rfl⟩
        have n5 := qas (m := 5) h0
        have n6 := qas (m := 6) h0
        have n7 := qas (m := 7) h0
        have n11 := qas (m := 11) h0
        rw [hc, ← h_c1] at n5 n6 n7 n11
        simp at n5 n6 n7 n11
        have hsub : SubM F' F2 := by
          rw [hF2, h_c1]
          exact hF'
        refine ⟨(c1, b5, a6, a7, a11, F2), by dsimp only; omega, ⟨by dsimp only; omega, by dsimp only; omega, by dsimp only; omega, by dsimp only; omega, by dsimp only; omega, by dsimp only; omega, hF2⟩, rfl, ?_, ?_, ?_⟩
        · cbv; all_goals exact s_sA
        · cbv; refine ⟨SubB.m hsub, ?_⟩; all_goals exact s_bA
        · cbv
          exact gc_map (by rw [hF2]; exact qbl _)
      · refine qag hS ?_
        cbv
        repeat' (first | (refine qbr hS ?_; try cbv) | fail)
        refine qcb hS fun r5 h5 => ?_
        replace h5 : r5 < 0 := by rw [← h5]; exact i5
        cbv
        repeat' (first | (refine qai hS ?_ ?_ <;> intro h <;> (try cbv) <;> try exact s_ab h) | fail)
        refine qag hS ?_
        cbv
        repeat' (first | (refine qbr hS ?_; try cbv) | fail)
        refine qcb hS fun r6 h6 => ?_
        replace h6 : 0 ≤ r6 := by rw [← h6]; exact i6
        cbv
        repeat' (first | (refine qai hS ?_ ?_ <;> intro h <;> (try cbv) <;> try exact s_ab h) | fail)
        refine qag hS ?_
        cbv
        repeat' (first | (refine qbr hS ?_; try cbv) | fail)
        refine qcb hS fun r7 h7 => ?_
        replace h7 : r7 < 0 := by rw [← h7]; exact i7
        cbv
        repeat' (first | (refine qai hS ?_ ?_ <;> intro h <;> (try cbv) <;> try exact s_ab h) | fail)
        refine qag hS ?_
        cbv
        repeat' (first | (refine s_st hS ?_; try cbv) | (refine qax hS ?_; intro _ _; try cbv) | (refine qbr hS ?_; try cbv) | fail)
        refine qfp hS rfl rfl ?_
        cbv
        refine s_mu hS ?_
        refine qqp hS h0 (by rw [qmx hc]; simp [Hu.base]; omega) (qzadc hc rfl) hF fun F' hF' hN => ?_
        cbv
        repeat' (first | (refine qax hS ?_; intro _ _; try cbv) | fail)
        obtain ⟨c1, h_c1⟩ : ∃ r_, r_ = c + 1 := ⟨_, rfl⟩
        obtain ⟨F2, hF2⟩ : ∃ F2, F2 = knownE c1.toNat := ⟨_, rfl⟩
        obtain ⟨b6, h_b6⟩ : ∃ r_, r_ = a6 + 1 := ⟨_, rfl⟩
        have n5 := qas (m := 5) h0
        have n6 := qas (m := 6) h0
        have n7 := qas (m := 7) h0
        have n11 := qas (m := 11) h0
        rw [hc, ← h_c1] at n5 n6 n7 n11
        simp at n5 n6 n7 n11
        have hsub : SubM F' F2 := by
          rw [hF2, h_c1]
          exact hF'
        refine ⟨(c1, a5, b6, a7, a11, F2), by dsimp only; omega, ⟨by dsimp only; omega, by dsimp only; omega, by dsimp only; omega, by dsimp only; omega, by dsimp only; omega, by dsimp only; omega, hF2⟩, rfl, ?_, ?_, ?_⟩
        · cbv; all_goals exact s_sA
        · cbv; refine ⟨SubB.m hsub, ?_⟩; all_goals exact s_bA
        · cbv
          exact gc_map (by rw [hF2]; exact qbl _)
      · refine qag hS ?_
        cbv
        repeat' (first | (refine qbr hS ?_; try cbv) | fail)
        refine qcb hS fun r5 h5 => ?_
        replace h5 : r5 < 0 := by rw [← h5]; exact i5
        cbv
        repeat' (first | (refine qai hS ?_ ?_ <;> intro h <;> (try cbv) <;> try exact s_ab h) | fail)
        refine qag hS ?_
        cbv
        repeat' (first | (refine qbr hS ?_; try cbv) | fail)
        refine qcb hS fun r6 h6 => ?_
        replace h6 : r6 < 0 := by rw [← h6]; exact i6
        cbv
        repeat' (first | (refine qai hS ?_ ?_ <;> intro h <;> (try cbv) <;> try exact s_ab h) | fail)
        refine qag hS ?_
        cbv
        repeat' (first | (refine qbr hS ?_; try cbv) | fail)
        refine qcb hS fun r7 h7 => ?_
        replace h7 : 0 ≤ r7 := by rw [← h7]; exact i7
        cbv
        repeat' (first | (refine qai hS ?_ ?_ <;> intro h <;> (try cbv) <;> try exact s_ab h) | fail)
        refine qag hS ?_
        cbv
        repeat' (first | (refine s_st hS ?_; try cbv) | (refine qax hS ?_; intro _ _; try cbv) | (refine qbr hS ?_; try cbv) | fail)
        refine qfp hS rfl rfl ?_
        cbv
        refine s_mu hS ?_
        refine qqp hS h0 (by rw [qmx hc]; simp [Hu.base]; omega) (qzadc hc rfl) hF fun F' hF' hN => ?_
        cbv
        repeat' (first | (refine qax hS ?_; intro _ _; try cbv) | fail)
        obtain ⟨c1, h_c1⟩ : ∃ r_, r_ = c + 1 := ⟨_, rfl⟩
        obtain ⟨F2, hF2⟩ : ∃ F2, F2 = knownE c1.toNat := ⟨_, rfl⟩
        obtain ⟨b7, h_b7⟩ : ∃ r_, r_ = a7 + 1 := ⟨_, rfl⟩
        have n5 := qas (m := 5) h0
        have n6 := qas (m := 6) h0
        have n7 := qas (m := 7) h0
        have n11 := qas (m := 11) h0
        rw [hc, ← h_c1] at n5 n6 n7 n11
        simp at n5 n6 n7 n11
        have hsub : SubM F' F2 := by
          rw [hF2, h_c1]
          exact hF'
        refine ⟨(c1, a5, a6, b7, a11, F2), by dsimp only; omega, ⟨by dsimp only; omega, by dsimp only; omega, by dsimp only; omega, by dsimp only; omega, by dsimp only; omega, by dsimp only; omega, hF2⟩, rfl, ?_, ?_, ?_⟩
        · cbv; all_goals exact s_sA
        · cbv; refine ⟨SubB.m hsub, ?_⟩; all_goals exact s_bA
        · cbv
          exact gc_map (by rw [hF2]; exact qbl _)
      · refine qag hS ?_
        cbv
        repeat' (first | (refine qbr hS ?_; try cbv) | fail)
        refine qcb hS fun r5 h5 => ?_
        replace h5 : r5 < 0 := by rw [← h5]; exact i5
        cbv
        repeat' (first | (refine qai hS ?_ ?_ <;> intro h <;> (try cbv) <;> try exact s_ab h) | fail)
        refine qag hS ?_
        cbv
        repeat' (first | (refine qbr hS ?_; try cbv) | fail)
        refine qcb hS fun r6 h6 => ?_
        replace h6 : r6 < 0 := by rw [← h6]; exact i6
        cbv
        repeat' (first | (refine qai hS ?_ ?_ <;> intro h <;> (try cbv) <;> try exact s_ab h) | fail)
        refine qag hS ?_
        cbv
        repeat' (first | (refine qbr hS ?_; try cbv) | fail)
        refine qcb hS fun r7 h7 => ?_
        replace h7 : r7 < 0 := by rw [← h7]; exact i7
        cbv
        repeat' (first | (refine qai hS ?_ ?_ <;> intro h <;> (try cbv) <;> try exact s_ab h) | fail)
        refine qag hS ?_
        cbv
        repeat' (first | (refine s_st hS ?_; try cbv) | (refine qax hS ?_; intro _ _; try cbv) | (refine qbr hS ?_; try cbv) | fail)
        refine qfp hS rfl rfl ?_
        cbv
        refine s_mu hS ?_
        refine qqp hS h0 (by rw [qmx hc]; simp [Hu.base]; omega) (qzadc hc rfl) hF fun F' hF' hN => ?_
        cbv
        repeat' (first | (refine qax hS ?_; intro _ _; try cbv) | fail)
        obtain ⟨c1, h_c1⟩ : ∃ r_, r_ = c + 1 := ⟨_, rfl⟩
        obtain ⟨F2, hF2⟩ : ∃ F2, F2 = knownE c1.toNat := ⟨_, rfl⟩
        obtain ⟨b11, h_b11⟩ : ∃ r_, r_ = a11 + 1 := ⟨_, rfl⟩
        have n5 := qas (m := 5) h0
        have n6 := qas (m := 6) h0
        have n7 := qas (m := 7) h0
        have n11 := qas (m := 11) h0
        rw [hc, ← h_c1] at n5 n6 n7 n11
        simp at n5 n6 n7 n11
        have hsub : SubM F' F2 := by
          rw [hF2, h_c1]
          exact hF'
        refine ⟨(c1, a5, a6, a7, b11, F2), by dsimp only; omega, ⟨by dsimp only; omega, by dsimp only; omega, by dsimp only; omega, by dsimp only; omega, by dsimp only; omega, by dsimp only; omega, hF2⟩, rfl, ?_, ?_, ?_⟩
        · cbv; all_goals exact s_sA
        · cbv; refine ⟨SubB.m hsub, ?_⟩; all_goals exact s_bA
        · cbv
          exact gc_map (by rw [hF2]; exact qbl _)
    · simp only [← hS, Int.ofNat_eq_natCast, cq, Bool.not_eq_true', Bool.not_eq_false', decide_eq_true_eq, decide_eq_false_iff_not, beq_iff_eq, beq_eq_false_iff_ne, ne_eq] at h
      have hF2 : F = T := by rw [hF, show c = 256 by omega]; exact hT
      cbv
      exact ⟨0, F, Nat.le_refl _, rfl, rfl, by rw [hF2]; exact SubM.refl _, by rw [hF]; exact qbl _⟩
end Cz
namespace Cz
open Go Go.RowKit Go.Proofs
def findO (a m : Int) : Option Nat := if 0 ≤ a ∧ 0 ≤ m then Hu.find a.toNat m.toNat else none
def findR (a m : Int) : Int := match findO a m with | some c => c | none => 0
def findB (a m : Int) : Bool := (findO a m).isSome
theorem qmq {a m : Int} {c : Nat} (h : findO a m = some c) : c < 256 ∧ codeI c = a ∧ clsI c = m := by
  unfold findO at h
  split at h
  · rename_i h0
    obtain ⟨h1, h2, h3⟩ := Hu.qrh h
    refine ⟨h1, ?_, ?_⟩
    · unfold codeI; simp only [Int.toNat_natCast, h2]; omega
    · unfold clsI; simp only [Int.toNat_natCast, h3]; omega
  · cases h
theorem findO_none {a m : Int} (h : findO a m = none) {c : Nat} (hc : c < 256) : ¬(codeI c = a ∧ clsI c = m) := by
  rintro ⟨rfl, rfl⟩
  unfold findO codeI clsI at h
  simp only [Int.toNat_natCast] at h
  rw [if_pos ⟨by omega, by omega⟩, Hu.qxl hc] at h
  cases h
theorem qzs {S : Sy} (hS : S0 Tryz.prog = S) {x y zero : SV} {a b : Z} {K : SV → Bool → Prop} {c : Nat} (h1 : codeI c = a.v) (h2 : clsI c = b.v) (hK : K (.i .u8 (.y c)) true) : ∀ (l : List Nat), c ∈ l →
    vlook S ⟨true, [.ki, .ki]⟩ (.ag [.i .i64 a, .i .i64 b]) K zero (l.map ent)
  | [], h => by cases h
  | k :: l, h => by
    simp only [List.map_cons, ent, vlook]
    refine veq_2 hS (fun e1 e2 => ?_) fun hn => ?_
    · have : k = c := by
        have e3 := e1.symm.trans h1.symm
        have e4 := e2.symm.trans h2.symm
        unfold codeI at e3; unfold clsI at e4
        simp only [Int.toNat_natCast] at e3 e4
        exact Hu.qvf (by omega) (by omega)
      rw [this]; exact hK
    · rcases List.mem_cons.1 h with rfl | h
      · rcases hn with hn | hn
        · exact absurd h1.symm hn
        · exact absurd h2.symm hn
      · exact qzs (x := x) (y := y) hS h1 h2 hK l h
theorem qzt {S : Sy} (hS : S0 Tryz.prog = S) {zero : SV} {a b : Z} {K : SV → Bool → Prop} (hK : K zero false) : ∀ (l : List Nat), (∀ c ∈ l, ¬(codeI c = a.v ∧ clsI c = b.v)) →
    vlook S ⟨true, [.ki, .ki]⟩ (.ag [.i .i64 a, .i .i64 b]) K zero (l.map ent)
  | [], h => by simpa [vlook] using hK
  | k :: l, h => by
    simp only [List.map_cons, ent, vlook]
    refine veq_2 hS (fun e1 e2 => ?_) fun _ => qzt hS hK l fun c hc => h c (List.mem_cons_of_mem _ hc)
    exact absurd ⟨e1.symm, e2.symm⟩ (h k (List.mem_cons_self ..))
theorem qdv {S : Sy} (hS : S0 Tryz.prog = S) {T : List (SV × SV)} (hT : knownE 256 = T) {a b : Z} {K : SV → Bool → Prop} {zero : SV}
    (h1 : ∀ c : Int, findO a.v b.v = some c.toNat → 0 ≤ c → c < 256 → K (.i .u8 (.y c)) true) (h2 : findO a.v b.v = none → K zero false) :
    S.lk ⟨true, [.ki, .ki]⟩ (.ag [.i .i64 a, .i .i64 b]) K zero T := by
  refine s_lk hS ?_
  subst hT
  unfold knownE
  cases hf : findO a.v b.v with
  | some c =>
    obtain ⟨hc, e1, e2⟩ := qmq hf
    exact qzs (x := zero) (y := zero) hS e1 e2 (h1 c (by simpa using hf) (by omega) (by omega)) _ (by simp [hc])
  | none => exact qzt hS (h2 hf) _ fun c hc => findO_none hf (by simpa using hc)
end Cz
