/- What the claims of this group lean on, part 5: our engine, the functions' simplified codes, their contracts. No condition. -/
import Derived.Test.YtdbnbknghhpbiaaDoorKTo4
import Derived.Test.YtdbnbknghhpbiaaDoorProg
namespace Cz
open Go Go.RowKit Go.Proofs
namespace I
set_option maxRecDepth 100000
def kl_causeylaw09_TableOwn : Nat → List Nat := fun
  | 0 => [0, 1, 6]
  | 1 => [14, 15, 16, 17, 18, 19, 20]
  | 2 => [22]
  | 3 => [23, 24, 25, 26]
  | 4 => [4, 9, 27, 28, 29, 30, 31, 32]
  | 5 => [2, 11, 33, 34, 35, 36, 37, 38]
  | 7 => [39, 40, 41, 42]
  | 8 => [44, 45]
  | 9 => [46, 47, 48, 49, 50]
  | 11 => [51, 52, 53, 54]
  | 12 => [56, 57]
  | 13 => [58, 59, 60, 61, 62]
  | 14 => [3, 7, 63, 64, 65, 66, 67, 68, 69]
  | _ => []
def dead_causeylaw09_TableOwn_0 : List Nat := [0, 1, 2, 4, 5, 6, 8, 9, 11, 12, 14, 15, 16, 17, 18, 19, 20, 21, 22, 23, 24, 25, 26, 27, 28, 29, 30, 31, 32, 33, 34, 35, 36, 37, 38, 39, 40, 41, 42, 43, 44, 45, 46, 47, 48, 49, 50, 51, 52, 53, 54, 55, 56, 57, 58, 59, 60, 61, 62, 63, 64, 65, 66, 67, 68, 69] -- live: [3, 7, 10, 13]
def dead_causeylaw09_TableOwn_1 : List Nat := [0, 1, 2, 4, 5, 6, 9, 11, 13, 14, 15, 16, 17, 18, 19, 20, 21, 22, 23, 24, 25, 26, 27, 28, 29, 30, 31, 32, 33, 34, 35, 36, 37, 38, 39, 40, 41, 42, 43, 44, 45, 46, 47, 48, 49, 50, 51, 52, 53, 54, 55, 56, 57, 58, 59, 60, 61, 62, 63, 64, 65, 66, 67, 68, 69] -- live: [3, 7, 8, 10, 12]
def causeylaw09_TableOwn : IR :=
 (.seq (.reg [⟨(some 3), .box (.t 0), none⟩,
   ⟨(some 4), .box (.t 1), none⟩,
   ⟨(some 6), .mv (.c .ff), none⟩] [0, 1, 6])
 (.seq (.seq (.reg [⟨(some 14), .fad 1 (.t 3), none⟩,
   ⟨(some 15), .load false 1 (.t 14), none⟩,
   ⟨(some 16), .call (.c (.fn (.func 15) [] [])) [(.t 15)], none⟩,
   ⟨(some 17), .mv (.t 16), none⟩,
   ⟨(some 18), .load true 2 (.t 4), (some (17, false))⟩,
   ⟨(some 19), .buildS 2 1 [(.s []), (.s [])] [(0, (.t 18))], (some (17, false))⟩,
   ⟨(some 20), .call (.c (.fn (.func 15) [] [])) [(.t 19)], (some (17, false))⟩,
   ⟨(some 21), .pick (.t 17) (.c .tt) (.t 20), none⟩] [14, 15, 16, 17, 18, 19, 20])
 (.cond (.t 21)
  (.seq (.reg [⟨(some 22), .call (.c (.fn (.func 16) [] [])) [], none⟩,
    ⟨(some 6), .mv (.t 22), none⟩] [22])
  .ret)
  .skip))
 (.seq (.reg [⟨(some 23), .buildS 2 0 [(.s []), (.s [])] [], none⟩,
   ⟨(some 24), .fad 1 (.t 3), none⟩,
   ⟨(some 25), .load false 1 (.t 24), none⟩,
   ⟨(some 26), .app 2 (.t 23) (.t 25), none⟩,
   ⟨(some 7), .mv (.t 26), none⟩] [23, 24, 25, 26])
 (.seq (.reg [⟨(some 28), .load true 2 (.t 3), none⟩,
   ⟨(some 29), .load true 2 (.t 4), none⟩,
   ⟨(some 30), .call (.c (.fn (.func 28) [] [])) [(.t 28), (.t 29)], none⟩,
   ⟨(some 27), .mv (.t 30), none⟩,
   ⟨(some 31), .ext (.t 27) 0, none⟩,
   ⟨(some 32), .ext (.t 27) 1, none⟩,
   ⟨(some 8), .alloc [(.i .i64 (.l 0)), (.re (.slice none 0 0))], none⟩,
   ⟨none, .store 2 (.t 8) (.t 31), none⟩,
   ⟨(some 9), .mv (.t 32), none⟩] [4, 9, 27, 28, 29, 30, 31, 32])
 (.seq (.reg [⟨(some 34), .load true 2 (.t 3), none⟩,
   ⟨(some 35), .mv (.t 2), none⟩,
   ⟨(some 36), .call (.c (.fn (.func 30) [] [])) [(.t 34), (.t 35)], none⟩,
   ⟨(some 33), .mv (.t 36), none⟩,
   ⟨(some 37), .ext (.t 33) 0, none⟩,
   ⟨(some 38), .ext (.t 33) 1, none⟩,
   ⟨(some 10), .alloc [(.i .i64 (.l 0)), (.re (.slice none 0 0))], none⟩,
   ⟨none, .store 2 (.t 10) (.t 37), none⟩,
   ⟨(some 11), .mv (.t 38), none⟩] [2, 11, 33, 34, 35, 36, 37, 38])
 (.seq (.seq (.reg [⟨(some 12), .mv (.c (.i .i64 (.l 0))), none⟩] [])
 (.block 0 (.loop (.seq (.seq (.reg [⟨(some 39), .mv (.t 12), none⟩,
     ⟨(some 40), .fad 1 (.t 8), none⟩,
     ⟨(some 41), .load false 1 (.t 40), none⟩,
     ⟨(some 42), .len false (.t 41), none⟩,
     ⟨(some 43), .bin .lt (.t 39) (.t 42), none⟩] [39, 40, 41, 42])
   (.cond (.t 43)
    .skip
    (.exit 0)))
   (.seq (.block 1 (.reg [⟨(some 46), .fad 1 (.t 8), none⟩,
      ⟨(some 47), .load false 1 (.t 46), none⟩,
      ⟨(some 48), .mv (.t 12), none⟩,
      ⟨(some 49), .iadS 2 (.t 47) (.t 48), none⟩,
      ⟨(some 50), .fad 0 (.t 49), none⟩,
      ⟨none, .store 1 (.t 50) (.c (.s [63])), none⟩] [46, 47, 48, 49, 50]))
   (.reg [⟨(some 44), .mv (.t 12), none⟩,
     ⟨(some 45), .bin .add (.t 44) (.c (.i .i64 (.l 1))), none⟩,
     ⟨(some 12), .mv (.t 45), none⟩] [44, 45]))))))
 (.seq (.seq (.reg [⟨(some 13), .mv (.c (.i .i64 (.l 0))), none⟩] [])
 (.block 2 (.loop (.seq (.seq (.reg [⟨(some 51), .mv (.t 13), none⟩,
     ⟨(some 52), .fad 1 (.t 10), none⟩,
     ⟨(some 53), .load false 1 (.t 52), none⟩,
     ⟨(some 54), .len false (.t 53), none⟩,
     ⟨(some 55), .bin .lt (.t 51) (.t 54), none⟩] [51, 52, 53, 54])
   (.cond (.t 55)
    .skip
    (.exit 2)))
   (.seq (.block 3 (.reg [⟨(some 58), .fad 1 (.t 10), none⟩,
      ⟨(some 59), .load false 1 (.t 58), none⟩,
      ⟨(some 60), .mv (.t 13), none⟩,
      ⟨(some 61), .iadS 2 (.t 59) (.t 60), none⟩,
      ⟨(some 62), .fad 0 (.t 61), none⟩,
      ⟨none, .store 1 (.t 62) (.c (.s [63])), none⟩] [58, 59, 60, 61, 62]))
   (.reg [⟨(some 56), .mv (.t 13), none⟩,
     ⟨(some 57), .bin .add (.t 56) (.c (.i .i64 (.l 1))), none⟩,
     ⟨(some 13), .mv (.t 57), none⟩] [56, 57]))))))
 (.seq (.reg [⟨(some 63), .fad 1 (.t 3), none⟩,
   ⟨(some 64), .load false 1 (.t 63), none⟩,
   ⟨(some 65), .mv (.t 7), none⟩,
   ⟨(some 66), .call (.c (.fn (.func 37) [] [])) [(.t 64), (.t 65)], none⟩,
   ⟨(some 67), .mv (.t 66), none⟩,
   ⟨(some 68), .call (.c (.fn (.func 16) [] [])) [], (some (67, true))⟩,
   ⟨(some 69), .pick (.t 67) (.t 68) (.c .ff), none⟩,
   ⟨(some 6), .mv (.t 69), none⟩] [3, 7, 63, 64, 65, 66, 67, 68, 69])
 .ret))))))))
theorem fn_causeylaw09_TableOwn : FnIs Tryd.prog 7 70 [.t 6] causeylaw09_TableOwn :=
  ⟨Tryd.f7, _, kl_causeylaw09_TableOwn, Tryd.func7, rfl, rfl, by kernel_rfl, by kernel_rfl, Tryd.call7⟩
def kl_causeyref09_Great : Nat → List Nat := fun
  | 0 => [2]
  | 3 => [5, 6, 7, 8, 9, 10, 11]
  | 4 => [13, 14]
  | 5 => [15, 16, 17, 18, 19, 20, 21, 22, 23, 24, 25, 26, 27, 28, 29]
  | 6 => [0, 3, 30, 31, 32, 33, 34, 35, 36]
  | _ => []
def dead_causeyref09_Great_0 : List Nat := [1, 2, 5, 6, 7, 8, 9, 10, 11, 12, 13, 14, 15, 16, 17, 18, 19, 20, 21, 22, 23, 24, 25, 26, 27, 28, 29, 30, 31, 32, 33, 34, 35, 36] -- live: [0, 3, 4]
def ord_causeyref09_Great_0 : List (Nat × List Nat) := [(0, []), (1, []), (2, []), (3, []), (4, []), (5, []), (6, []), (7, []), (8, []), (9, []), (10, []), (11, []), (12, []), (13, []), (14, []), (15, [])]
def causeyref09_Great : IR :=
 (.seq (.reg [⟨(some 2), .mv (.c .ff), none⟩] [2])
 (.seq (.reg [⟨(some 3), .mv (.c (.i .i64 (.l 0))), none⟩] [])
 (.seq (.seq (.reg [⟨(some 4), .mv (.c (.i .i64 (.l 0))), none⟩] [])
 (.block 0 (.loop (.seq (.seq (.reg [⟨(some 5), .mv (.t 4), none⟩,
     ⟨(some 6), .mv (.t 0), none⟩,
     ⟨(some 7), .len false (.t 6), none⟩,
     ⟨(some 8), .bin .lt (.t 5) (.t 7), none⟩,
     ⟨(some 9), .mv (.t 8), none⟩,
     ⟨(some 10), .mv (.t 4), (some (9, true))⟩,
     ⟨(some 11), .bin .le (.t 10) (.c (.i .i64 (.l 140))), (some (9, true))⟩,
     ⟨(some 12), .pick (.t 9) (.t 11) (.c .ff), none⟩] [5, 6, 7, 8, 9, 10, 11])
   (.cond (.t 12)
    .skip
    (.exit 0)))
   (.seq (.block 1 (.draw [⟨(some 15), .mv (.t 3), none⟩,
      ⟨(some 16), .mv (.t 0), none⟩,
      ⟨(some 17), .mv (.t 4), none⟩,
      ⟨(some 18), .iadS 2 (.t 16) (.t 17), none⟩,
      ⟨(some 19), .fad 0 (.t 18), none⟩,
      ⟨(some 20), .load false 1 (.t 19), none⟩,
      ⟨(some 21), .len true (.t 20), none⟩,
      ⟨(some 22), .bin .add (.t 15) (.t 21), none⟩,
      ⟨(some 23), .mv (.t 0), none⟩,
      ⟨(some 24), .mv (.t 4), none⟩,
      ⟨(some 25), .iadS 2 (.t 23) (.t 24), none⟩,
      ⟨(some 26), .fad 1 (.t 25), none⟩,
      ⟨(some 27), .load false 1 (.t 26), none⟩,
      ⟨(some 28), .len true (.t 27), none⟩,
      ⟨(some 29), .bin .add (.t 22) (.t 28), none⟩,
      ⟨(some 3), .mv (.t 29), none⟩] [[], [], [], [1, 2], [3], [4], [5], [0, 6], [], [], [8, 9], [10], [11], [12], [7, 13], [14, 0, 1, 2, 3, 4, 5, 6, 7, 8, 9, 10, 11, 12, 13, 14]] [15, 16, 17, 18, 19, 20, 21, 22, 23, 24, 25, 26, 27, 28, 29]))
   (.reg [⟨(some 13), .mv (.t 4), none⟩,
     ⟨(some 14), .bin .add (.t 13) (.c (.i .i64 (.l 1))), none⟩,
     ⟨(some 4), .mv (.t 14), none⟩] [13, 14]))))))
 (.seq (.reg [⟨(some 30), .mv (.t 0), none⟩,
   ⟨(some 31), .len false (.t 30), none⟩,
   ⟨(some 32), .bin .gt (.t 31) (.c (.i .i64 (.l 140))), none⟩,
   ⟨(some 33), .mv (.t 32), none⟩,
   ⟨(some 34), .mv (.t 3), (some (33, false))⟩,
   ⟨(some 35), .bin .gt (.t 34) (.c (.i .i64 (.l 5000))), (some (33, false))⟩,
   ⟨(some 36), .pick (.t 33) (.c .tt) (.t 35), none⟩,
   ⟨(some 2), .mv (.t 36), none⟩] [0, 3, 30, 31, 32, 33, 34, 35, 36])
 .ret))))
theorem fn_causeyref09_Great : FnIs Tryd.prog 15 37 [.t 2] causeyref09_Great :=
  ⟨Tryd.f15, _, kl_causeyref09_Great, Tryd.func15, rfl, rfl, by kernel_rfl, by kernel_rfl, Tryd.call15⟩
def kl_causeylaw09_wakes : Nat → List Nat := fun
  | 0 => [0]
  | 1 => [27, 28, 29, 30]
  | 2 => [1, 31, 32, 33, 34, 35, 36]
  | 3 => [37, 38, 39, 40, 41, 42]
  | 4 => [43, 44, 45, 46, 47, 48]
  | 5 => [49, 50, 51, 52, 53, 54]
  | 6 => [55, 56, 57, 58, 59, 60]
  | 7 => [61, 62, 63, 64, 65, 66]
  | 8 => [67, 68, 69, 70, 71]
  | 9 => [17, 72, 73, 74, 75, 76]
  | 10 => [77, 78, 79, 80]
  | 11 => [21, 81, 82, 83, 84]
  | 12 => [85, 86, 87, 88, 89]
  | 13 => [25, 90, 91, 92, 93]
  | 14 => [2, 3, 4, 5, 6, 7, 8, 9, 10, 11, 12, 13, 14, 15, 16, 18, 19, 20, 22, 23, 24, 26, 94, 95, 96, 97, 98, 99, 100, 101, 102, 103, 104, 105, 106, 107, 108, 109, 110, 111, 112, 113, 114, 115, 116, 117, 118, 119, 120, 121, 122, 123, 124, 125, 126, 127, 128, 129, 130, 131, 132, 133, 134, 135, 136, 137, 138, 139, 140, 141, 142, 143, 144, 145, 146, 147, 148, 149, 150, 151, 152, 153, 154, 155, 156, 157, 158, 159, 160, 161, 162, 163, 164, 165, 166, 167, 168, 169, 170, 171, 172, 173, 174, 175, 176, 177, 178, 179, 180, 181, 182, 183, 184, 185, 186, 187, 188, 189, 190, 191, 192, 193, 194, 195, 196, 197, 198, 199, 200, 201, 202, 203, 204, 205, 206, 207, 208, 209, 210, 211, 212, 213]
  | _ => []
def causeylaw09_wakes : IR :=
 (.seq (.reg [⟨(some 0), .mv (.c .ff), none⟩] [0])
 (.seq (.reg [⟨(some 28), .call (.c (.fn (.func 19) [] [])) [(.c (.i .i64 (.l 100)))], none⟩,
   ⟨(some 27), .mv (.t 28), none⟩,
   ⟨(some 29), .ext (.t 27) 0, none⟩,
   ⟨(some 30), .ext (.t 27) 1, none⟩,
   ⟨(some 1), .alloc [(.i .i64 (.l 0)), (.re (.slice none 0 0))], none⟩,
   ⟨none, .store 2 (.t 1) (.t 29), none⟩,
   ⟨(some 2), .mv (.t 30), none⟩] [27, 28, 29, 30])
 (.seq (.reg [⟨(some 32), .load true 2 (.t 1), none⟩,
   ⟨(some 33), .build [(.s []), (.s [])] [(0, 1, (.c (.s [97]))), (1, 1, (.c (.s [49])))], none⟩,
   ⟨(some 34), .call (.c (.fn (.func 28) [] [])) [(.t 32), (.t 33)], none⟩,
   ⟨(some 31), .mv (.t 34), none⟩,
   ⟨(some 35), .ext (.t 31) 0, none⟩,
   ⟨(some 36), .ext (.t 31) 1, none⟩,
   ⟨(some 3), .alloc [(.i .i64 (.l 0)), (.re (.slice none 0 0))], none⟩,
   ⟨none, .store 2 (.t 3) (.t 35), none⟩,
   ⟨(some 4), .mv (.t 36), none⟩] [1, 31, 32, 33, 34, 35, 36])
 (.seq (.reg [⟨(some 38), .load true 2 (.t 3), none⟩,
   ⟨(some 39), .build [(.s []), (.s [])] [(0, 1, (.c (.s [98]))), (1, 1, (.c (.s [50])))], none⟩,
   ⟨(some 40), .call (.c (.fn (.func 28) [] [])) [(.t 38), (.t 39)], none⟩,
   ⟨(some 37), .mv (.t 40), none⟩,
   ⟨(some 41), .ext (.t 37) 0, none⟩,
   ⟨(some 42), .ext (.t 37) 1, none⟩,
   ⟨(some 5), .alloc [(.i .i64 (.l 0)), (.re (.slice none 0 0))], none⟩,
   ⟨none, .store 2 (.t 5) (.t 41), none⟩,
   ⟨(some 6), .mv (.t 42), none⟩] [37, 38, 39, 40, 41, 42])
 (.seq (.reg [⟨(some 44), .load true 2 (.t 5), none⟩,
   ⟨(some 45), .build [(.s []), (.s [])] [(0, 1, (.c (.s [99]))), (1, 1, (.c (.s [51])))], none⟩,
   ⟨(some 46), .call (.c (.fn (.func 28) [] [])) [(.t 44), (.t 45)], none⟩,
   ⟨(some 43), .mv (.t 46), none⟩,
   ⟨(some 47), .ext (.t 43) 0, none⟩,
   ⟨(some 48), .ext (.t 43) 1, none⟩,
   ⟨(some 7), .alloc [(.i .i64 (.l 0)), (.re (.slice none 0 0))], none⟩,
   ⟨none, .store 2 (.t 7) (.t 47), none⟩,
   ⟨(some 8), .mv (.t 48), none⟩] [43, 44, 45, 46, 47, 48])
 (.seq (.reg [⟨(some 50), .load true 2 (.t 7), none⟩,
   ⟨(some 51), .build [(.s []), (.s [])] [(0, 1, (.c (.s [58, 109, 101, 116, 104, 111, 100]))), (1, 1, (.c (.s [80, 85, 84])))], none⟩,
   ⟨(some 52), .call (.c (.fn (.func 34) [] [])) [(.t 50), (.t 51)], none⟩,
   ⟨(some 49), .mv (.t 52), none⟩,
   ⟨(some 53), .ext (.t 49) 0, none⟩,
   ⟨(some 54), .ext (.t 49) 1, none⟩,
   ⟨(some 9), .mv (.t 53), none⟩,
   ⟨(some 10), .mv (.t 54), none⟩] [49, 50, 51, 52, 53, 54])
 (.seq (.reg [⟨(some 56), .load true 2 (.t 7), none⟩,
   ⟨(some 57), .build [(.s []), (.s [])] [(0, 1, (.c (.s [58, 109, 101, 116, 104, 111, 100]))), (1, 1, (.c (.s [80, 79, 83, 84])))], none⟩,
   ⟨(some 58), .call (.c (.fn (.func 34) [] [])) [(.t 56), (.t 57)], none⟩,
   ⟨(some 55), .mv (.t 58), none⟩,
   ⟨(some 59), .ext (.t 55) 0, none⟩,
   ⟨(some 60), .ext (.t 55) 1, none⟩,
   ⟨(some 11), .mv (.t 59), none⟩,
   ⟨(some 12), .mv (.t 60), none⟩] [55, 56, 57, 58, 59, 60])
 (.seq (.reg [⟨(some 62), .load true 2 (.t 7), none⟩,
   ⟨(some 63), .build [(.s []), (.s [])] [(0, 1, (.c (.s [98]))), (1, 1, (.c (.s [50])))], none⟩,
   ⟨(some 64), .call (.c (.fn (.func 34) [] [])) [(.t 62), (.t 63)], none⟩,
   ⟨(some 61), .mv (.t 64), none⟩,
   ⟨(some 65), .ext (.t 61) 0, none⟩,
   ⟨(some 66), .ext (.t 61) 1, none⟩,
   ⟨(some 13), .mv (.t 65), none⟩,
   ⟨(some 14), .mv (.t 66), none⟩] [61, 62, 63, 64, 65, 66])
 (.seq (.reg [⟨(some 68), .load true 2 (.t 7), none⟩,
   ⟨(some 69), .call (.c (.fn (.func 32) [] [])) [(.t 68), (.c (.i .i64 (.l 21)))], none⟩,
   ⟨(some 67), .mv (.t 69), none⟩,
   ⟨(some 70), .ext (.t 67) 0, none⟩,
   ⟨(some 71), .ext (.t 67) 1, none⟩,
   ⟨(some 15), .alloc [(.s []), (.s [])], none⟩,
   ⟨none, .store 2 (.t 15) (.t 70), none⟩,
   ⟨(some 16), .mv (.t 71), none⟩] [67, 68, 69, 70, 71])
 (.seq (.reg [⟨(some 73), .load true 2 (.t 7), none⟩,
   ⟨(some 74), .call (.c (.fn (.func 32) [] [])) [(.t 73), (.c (.i .i64 (.l 23)))], none⟩,
   ⟨(some 72), .mv (.t 74), none⟩,
   ⟨(some 75), .ext (.t 72) 0, none⟩,
   ⟨(some 76), .ext (.t 72) 1, none⟩,
   ⟨(some 17), .alloc [(.s []), (.s [])], none⟩,
   ⟨none, .store 2 (.t 17) (.t 75), none⟩,
   ⟨(some 18), .mv (.t 76), none⟩] [17, 72, 73, 74, 75, 76])
 (.seq (.reg [⟨(some 78), .call (.c (.fn (.func 17) [] [])) [(.c (.i .i64 (.l 18)))], none⟩,
   ⟨(some 77), .mv (.t 78), none⟩,
   ⟨(some 79), .ext (.t 77) 0, none⟩,
   ⟨(some 80), .ext (.t 77) 1, none⟩,
   ⟨(some 19), .alloc [(.s []), (.s [])], none⟩,
   ⟨none, .store 2 (.t 19) (.t 79), none⟩,
   ⟨(some 20), .mv (.t 80), none⟩] [77, 78, 79, 80])
 (.seq (.reg [⟨(some 82), .call (.c (.fn (.func 17) [] [])) [(.c (.i .i64 (.l 21)))], none⟩,
   ⟨(some 81), .mv (.t 82), none⟩,
   ⟨(some 83), .ext (.t 81) 0, none⟩,
   ⟨(some 84), .ext (.t 81) 1, none⟩,
   ⟨(some 21), .alloc [(.s []), (.s [])], none⟩,
   ⟨none, .store 2 (.t 21) (.t 83), none⟩,
   ⟨(some 22), .mv (.t 84), none⟩] [21, 81, 82, 83, 84])
 (.seq (.reg [⟨(some 86), .load true 2 (.t 7), none⟩,
   ⟨(some 87), .call (.c (.fn (.func 30) [] [])) [(.t 86), (.c (.i .i64 (.l 40)))], none⟩,
   ⟨(some 85), .mv (.t 87), none⟩,
   ⟨(some 88), .ext (.t 85) 0, none⟩,
   ⟨(some 89), .ext (.t 85) 1, none⟩,
   ⟨(some 23), .alloc [(.i .i64 (.l 0)), (.re (.slice none 0 0))], none⟩,
   ⟨none, .store 2 (.t 23) (.t 88), none⟩,
   ⟨(some 24), .mv (.t 89), none⟩] [85, 86, 87, 88, 89])
 (.seq (.reg [⟨(some 91), .call (.c (.fn (.func 19) [] [])) [(.c (.i .i64 (.l 4097)))], none⟩,
   ⟨(some 90), .mv (.t 91), none⟩,
   ⟨(some 92), .ext (.t 90) 0, none⟩,
   ⟨(some 93), .ext (.t 90) 1, none⟩,
   ⟨(some 25), .alloc [(.i .i64 (.l 0)), (.re (.slice none 0 0))], none⟩,
   ⟨none, .store 2 (.t 25) (.t 92), none⟩,
   ⟨(some 26), .mv (.t 93), none⟩] [25, 90, 91, 92, 93])
 (.seq (.reg [⟨(some 94), .mv (.t 2), none⟩,
   ⟨(some 95), .bin .eq (.t 94) (.c (.i .i64 (.l 0))), none⟩,
   ⟨(some 96), .mv (.t 95), none⟩,
   ⟨(some 97), .mv (.t 4), (some (96, true))⟩,
   ⟨(some 98), .bin .eq (.t 97) (.c (.i .i64 (.l 0))), (some (96, true))⟩,
   ⟨(some 99), .pick (.t 96) (.t 98) (.c .ff), none⟩,
   ⟨(some 100), .mv (.t 99), none⟩,
   ⟨(some 101), .mv (.t 6), (some (100, true))⟩,
   ⟨(some 102), .bin .eq (.t 101) (.c (.i .i64 (.l 0))), (some (100, true))⟩,
   ⟨(some 103), .pick (.t 100) (.t 102) (.c .ff), none⟩,
   ⟨(some 104), .mv (.t 103), none⟩,
   ⟨(some 105), .mv (.t 8), (some (104, true))⟩,
   ⟨(some 106), .bin .eq (.t 105) (.c (.i .i64 (.l 0))), (some (104, true))⟩,
   ⟨(some 107), .pick (.t 104) (.t 106) (.c .ff), none⟩,
   ⟨(some 108), .mv (.t 107), none⟩,
   ⟨(some 109), .load true 2 (.t 3), (some (108, true))⟩,
   ⟨(some 110), .call (.c (.fn (.func 24) [] [])) [(.t 109)], (some (108, true))⟩,
   ⟨(some 111), .bin .eq (.t 110) (.c (.i .i64 (.l 34))), (some (108, true))⟩,
   ⟨(some 112), .pick (.t 108) (.t 111) (.c .ff), none⟩,
   ⟨(some 113), .mv (.t 112), none⟩,
   ⟨(some 114), .load true 2 (.t 5), (some (113, true))⟩,
   ⟨(some 115), .call (.c (.fn (.func 24) [] [])) [(.t 114)], (some (113, true))⟩,
   ⟨(some 116), .bin .eq (.t 115) (.c (.i .i64 (.l 68))), (some (113, true))⟩,
   ⟨(some 117), .pick (.t 113) (.t 116) (.c .ff), none⟩,
   ⟨(some 118), .mv (.t 117), none⟩,
   ⟨(some 119), .load true 2 (.t 7), (some (118, true))⟩,
   ⟨(some 120), .call (.c (.fn (.func 24) [] [])) [(.t 119)], (some (118, true))⟩,
   ⟨(some 121), .bin .eq (.t 120) (.c (.i .i64 (.l 68))), (some (118, true))⟩,
   ⟨(some 122), .pick (.t 118) (.t 121) (.c .ff), none⟩,
   ⟨(some 123), .mv (.t 122), none⟩,
   ⟨(some 124), .mv (.t 9), (some (123, true))⟩,
   ⟨(some 125), .bin .eq (.t 124) (.c (.i .i64 (.l 1))), (some (123, true))⟩,
   ⟨(some 126), .pick (.t 123) (.t 125) (.c .ff), none⟩,
   ⟨(some 127), .mv (.t 126), none⟩,
   ⟨(some 128), .mv (.t 10), (some (127, true))⟩,
   ⟨(some 129), .not (.t 128), (some (127, true))⟩,
   ⟨(some 130), .pick (.t 127) (.t 129) (.c .ff), none⟩,
   ⟨(some 131), .mv (.t 130), none⟩,
   ⟨(some 132), .mv (.t 11), (some (131, true))⟩,
   ⟨(some 133), .bin .eq (.t 132) (.c (.i .i64 (.l 2))), (some (131, true))⟩,
   ⟨(some 134), .pick (.t 131) (.t 133) (.c .ff), none⟩,
   ⟨(some 135), .mv (.t 134), none⟩,
   ⟨(some 136), .mv (.t 12), (some (135, true))⟩,
   ⟨(some 137), .pick (.t 135) (.t 136) (.c .ff), none⟩,
   ⟨(some 138), .mv (.t 137), none⟩,
   ⟨(some 139), .mv (.t 13), (some (138, true))⟩,
   ⟨(some 140), .bin .eq (.t 139) (.c (.i .i64 (.l 22))), (some (138, true))⟩,
   ⟨(some 141), .pick (.t 138) (.t 140) (.c .ff), none⟩,
   ⟨(some 142), .mv (.t 141), none⟩,
   ⟨(some 143), .mv (.t 14), (some (142, true))⟩,
   ⟨(some 144), .pick (.t 142) (.t 143) (.c .ff), none⟩,
   ⟨(some 145), .mv (.t 144), none⟩,
   ⟨(some 146), .load true 2 (.t 15), (some (145, true))⟩,
   ⟨(some 147), .build [(.s []), (.s [])] [(0, 1, (.c (.s [99]))), (1, 1, (.c (.s [51])))], (some (145, true))⟩,
   ⟨(some 148), .eqA ⟨true, [.ks, .ks]⟩ false (.t 146) (.t 147), (some (145, true))⟩,
   ⟨(some 149), .pick (.t 145) (.t 148) (.c .ff), none⟩,
   ⟨(some 150), .mv (.t 149), none⟩,
   ⟨(some 151), .mv (.t 16), (some (150, true))⟩,
   ⟨(some 152), .bin .eq (.t 151) (.c (.i .i64 (.l 0))), (some (150, true))⟩,
   ⟨(some 153), .pick (.t 150) (.t 152) (.c .ff), none⟩,
   ⟨(some 154), .mv (.t 153), none⟩,
   ⟨(some 155), .mv (.t 18), (some (154, true))⟩,
   ⟨(some 156), .bin .eq (.t 155) (.c (.i .i64 (.l 90))), (some (154, true))⟩,
   ⟨(some 157), .pick (.t 154) (.t 156) (.c .ff), none⟩,
   ⟨(some 158), .mv (.t 157), none⟩,
   ⟨(some 159), .load true 2 (.t 19), (some (158, true))⟩,
   ⟨(some 160), .build [(.s []), (.s [])] [(0, 1, (.c (.s [112, 114, 105, 111, 114, 105, 116, 121]))), (1, 1, (.c (.s [117, 61, 49])))], (some (158, true))⟩,
   ⟨(some 161), .eqA ⟨true, [.ks, .ks]⟩ false (.t 159) (.t 160), (some (158, true))⟩,
   ⟨(some 162), .pick (.t 158) (.t 161) (.c .ff), none⟩,
   ⟨(some 163), .mv (.t 162), none⟩,
   ⟨(some 164), .mv (.t 20), (some (163, true))⟩,
   ⟨(some 165), .pick (.t 163) (.t 164) (.c .ff), none⟩,
   ⟨(some 166), .mv (.t 165), none⟩,
   ⟨(some 167), .mv (.t 22), (some (166, true))⟩,
   ⟨(some 168), .not (.t 167), (some (166, true))⟩,
   ⟨(some 169), .pick (.t 166) (.t 168) (.c .ff), none⟩,
   ⟨(some 170), .mv (.t 169), none⟩,
   ⟨(some 171), .mv (.t 24), (some (170, true))⟩,
   ⟨(some 172), .bin .eq (.t 171) (.c (.i .i64 (.l 0))), (some (170, true))⟩,
   ⟨(some 173), .pick (.t 170) (.t 172) (.c .ff), none⟩,
   ⟨(some 174), .mv (.t 173), none⟩,
   ⟨(some 175), .fad 1 (.t 23), (some (174, true))⟩,
   ⟨(some 176), .load false 1 (.t 175), (some (174, true))⟩,
   ⟨(some 177), .len false (.t 176), (some (174, true))⟩,
   ⟨(some 178), .bin .eq (.t 177) (.c (.i .i64 (.l 1))), (some (174, true))⟩,
   ⟨(some 179), .pick (.t 174) (.t 178) (.c .ff), none⟩,
   ⟨(some 180), .mv (.t 179), none⟩,
   ⟨(some 181), .fad 0 (.t 23), (some (180, true))⟩,
   ⟨(some 182), .load false 1 (.t 181), (some (180, true))⟩,
   ⟨(some 183), .bin .eq (.t 182) (.c (.i .i64 (.l 40))), (some (180, true))⟩,
   ⟨(some 184), .pick (.t 180) (.t 183) (.c .ff), none⟩,
   ⟨(some 185), .mv (.t 184), none⟩,
   ⟨(some 186), .mv (.t 26), (some (185, true))⟩,
   ⟨(some 187), .bin .eq (.t 186) (.c (.i .i64 (.l 2))), (some (185, true))⟩,
   ⟨(some 188), .pick (.t 185) (.t 187) (.c .ff), none⟩,
   ⟨(some 189), .mv (.t 188), none⟩,
   ⟨(some 190), .load true 2 (.t 7), (some (189, true))⟩,
   ⟨(some 191), .call (.c (.fn (.func 26) [] [])) [(.t 190)], (some (189, true))⟩,
   ⟨(some 192), .pick (.t 189) (.t 191) (.c .ff), none⟩,
   ⟨(some 193), .mv (.t 192), none⟩,
   ⟨(some 194), .build [(.i .i64 (.l 0)), (.re (.slice none 0 0))] [(0, 1, (.c (.i .i64 (.l (-1)))))], (some (193, true))⟩,
   ⟨(some 195), .call (.c (.fn (.func 26) [] [])) [(.t 194)], (some (193, true))⟩,
   ⟨(some 196), .not (.t 195), (some (193, true))⟩,
   ⟨(some 197), .pick (.t 193) (.t 196) (.c .ff), none⟩,
   ⟨(some 198), .mv (.t 197), none⟩,
   ⟨(some 199), .load true 2 (.t 19), (some (198, true))⟩,
   ⟨(some 200), .call (.c (.fn (.func 22) [] [])) [(.t 199)], (some (198, true))⟩,
   ⟨(some 201), .bin .eq (.t 200) (.c (.i .i64 (.l 43))), (some (198, true))⟩,
   ⟨(some 202), .pick (.t 198) (.t 201) (.c .ff), none⟩,
   ⟨(some 203), .mv (.t 202), none⟩,
   ⟨(some 204), .load true 2 (.t 7), (some (203, true))⟩,
   ⟨(some 205), .load true 2 (.t 7), (some (203, true))⟩,
   ⟨(some 206), .call (.c (.fn (.func 36) [] [])) [(.t 204), (.t 205)], (some (203, true))⟩,
   ⟨(some 207), .pick (.t 203) (.t 206) (.c .ff), none⟩,
   ⟨(some 208), .mv (.t 207), none⟩,
   ⟨(some 209), .load true 2 (.t 7), (some (208, true))⟩,
   ⟨(some 210), .load true 2 (.t 23), (some (208, true))⟩,
   ⟨(some 211), .call (.c (.fn (.func 36) [] [])) [(.t 209), (.t 210)], (some (208, true))⟩,
   ⟨(some 212), .not (.t 211), (some (208, true))⟩,
   ⟨(some 213), .pick (.t 208) (.t 212) (.c .ff), none⟩,
   ⟨(some 0), .mv (.t 213), none⟩] [2, 3, 4, 5, 6, 7, 8, 9, 10, 11, 12, 13, 14, 15, 16, 18, 19, 20, 22, 23, 24, 26, 94, 95, 96, 97, 98, 99, 100, 101, 102, 103, 104, 105, 106, 107, 108, 109, 110, 111, 112, 113, 114, 115, 116, 117, 118, 119, 120, 121, 122, 123, 124, 125, 126, 127, 128, 129, 130, 131, 132, 133, 134, 135, 136, 137, 138, 139, 140, 141, 142, 143, 144, 145, 146, 147, 148, 149, 150, 151, 152, 153, 154, 155, 156, 157, 158, 159, 160, 161, 162, 163, 164, 165, 166, 167, 168, 169, 170, 171, 172, 173, 174, 175, 176, 177, 178, 179, 180, 181, 182, 183, 184, 185, 186, 187, 188, 189, 190, 191, 192, 193, 194, 195, 196, 197, 198, 199, 200, 201, 202, 203, 204, 205, 206, 207, 208, 209, 210, 211, 212, 213])
 .ret)))))))))))))))
theorem fn_causeylaw09_wakes : FnIs Tryd.prog 16 214 [.t 0] causeylaw09_wakes :=
  ⟨Tryd.f16, _, kl_causeylaw09_wakes, Tryd.func16, rfl, rfl, by kernel_rfl, by kernel_rfl, Tryd.call16⟩
def kl_table_Static : Nat → List Nat := fun
  | 0 => [3]
  | 1 => [6]
  | 2 => [8]
  | 3 => [0, 9, 10, 11, 12, 13, 14]
  | 4 => [4, 5, 15, 16, 17]
  | _ => []
def table_Static : IR :=
 (.seq (.reg [⟨(some 2), .alloc [(.s []), (.s [])], none⟩,
   ⟨(some 3), .mv (.c .ff), none⟩] [3])
 (.seq (.seq (.reg [⟨(some 6), .mv (.t 0), none⟩,
   ⟨(some 7), .bin .gt (.t 6) (.c (.i .i64 (.l 20))), none⟩] [6])
 (.cond (.t 7)
  (.seq (.reg [⟨(some 8), .build [(.s []), (.s [])] [], none⟩,
    ⟨none, .store 2 (.t 2) (.t 8), none⟩,
    ⟨(some 3), .mv (.c .ff), none⟩] [8])
  .ret)
  .skip))
 (.seq (.reg [⟨(some 10), .build [(.i .i64 (.l 0)), (.re (.slice none 0 0))] [], none⟩,
   ⟨(some 11), .mv (.t 0), none⟩,
   ⟨(some 12), .call (.c (.fn (.func 32) [] [])) [(.t 10), (.t 11)], none⟩,
   ⟨(some 9), .mv (.t 12), none⟩,
   ⟨(some 13), .ext (.t 9) 0, none⟩,
   ⟨(some 14), .ext (.t 9) 1, none⟩,
   ⟨(some 4), .alloc [(.s []), (.s [])], none⟩,
   ⟨none, .store 2 (.t 4) (.t 13), none⟩,
   ⟨(some 5), .mv (.t 14), none⟩] [0, 9, 10, 11, 12, 13, 14])
 (.seq (.reg [⟨(some 15), .load true 2 (.t 4), none⟩,
   ⟨(some 16), .mv (.t 5), none⟩,
   ⟨(some 17), .bin .eq (.t 16) (.c (.i .i64 (.l 0))), none⟩,
   ⟨none, .store 2 (.t 2) (.t 15), none⟩,
   ⟨(some 3), .mv (.t 17), none⟩] [4, 5, 15, 16, 17])
 .ret))))
theorem fn_table_Static : FnIs Tryd.prog 17 18 [.c 2 true 2, .t 3] table_Static :=
  ⟨Tryd.f17, _, kl_table_Static, Tryd.func17, rfl, rfl, by kernel_rfl, by kernel_rfl, Tryd.call17⟩
def kl_table_New : Nat → List Nat := fun
  | 0 => [3]
  | 1 => [4, 5, 6, 7, 8]
  | 2 => [10]
  | 3 => [0, 11, 12]
  | 4 => [13]
  | _ => []
def table_New : IR :=
 (.seq (.reg [⟨(some 2), .alloc [(.i .i64 (.l 0)), (.re (.slice none 0 0))], none⟩,
   ⟨(some 3), .mv (.c (.i .i64 (.l 0))), none⟩] [3])
 (.seq (.seq (.reg [⟨(some 4), .mv (.t 0), none⟩,
   ⟨(some 5), .bin .lt (.t 4) (.c (.i .i64 (.l 0))), none⟩,
   ⟨(some 6), .mv (.t 5), none⟩,
   ⟨(some 7), .mv (.t 0), (some (6, false))⟩,
   ⟨(some 8), .bin .gt (.t 7) (.c (.i .i64 (.l 4096))), (some (6, false))⟩,
   ⟨(some 9), .pick (.t 6) (.c .tt) (.t 8), none⟩] [4, 5, 6, 7, 8])
 (.cond (.t 9)
  (.seq (.reg [⟨(some 10), .load true 2 (.t 2), none⟩,
    ⟨none, .store 2 (.t 2) (.t 10), none⟩,
    ⟨(some 3), .mv (.c (.i .i64 (.l 2))), none⟩] [10])
  .ret)
  .skip))
 (.seq (.reg [⟨(some 11), .mv (.t 0), none⟩,
   ⟨(some 12), .fad 0 (.t 2), none⟩,
   ⟨none, .store 1 (.t 12) (.t 11), none⟩] [0, 11, 12])
 (.seq (.reg [⟨(some 13), .load true 2 (.t 2), none⟩,
   ⟨none, .store 2 (.t 2) (.t 13), none⟩,
   ⟨(some 3), .mv (.c (.i .i64 (.l 0))), none⟩] [13])
 .ret))))
theorem fn_table_New : FnIs Tryd.prog 19 14 [.c 2 true 2, .t 3] table_New :=
  ⟨Tryd.f19, _, kl_table_New, Tryd.func19, rfl, rfl, by kernel_rfl, by kernel_rfl, Tryd.call19⟩
def kl_table_Size : Nat → List Nat := fun
  | 0 => [0, 2]
  | 1 => [1, 3, 4, 5, 6, 7, 8, 9, 10]
  | _ => []
def table_Size : IR :=
 (.seq (.reg [⟨(some 1), .box (.t 0), none⟩,
   ⟨(some 2), .mv (.c (.i .i64 (.l 0))), none⟩] [0, 2])
 (.seq (.reg [⟨(some 3), .fad 0 (.t 1), none⟩,
   ⟨(some 4), .load false 1 (.t 3), none⟩,
   ⟨(some 5), .len true (.t 4), none⟩,
   ⟨(some 6), .bin .add (.c (.i .i64 (.l 32))) (.t 5), none⟩,
   ⟨(some 7), .fad 1 (.t 1), none⟩,
   ⟨(some 8), .load false 1 (.t 7), none⟩,
   ⟨(some 9), .len true (.t 8), none⟩,
   ⟨(some 10), .bin .add (.t 6) (.t 9), none⟩,
   ⟨(some 2), .mv (.t 10), none⟩] [1, 3, 4, 5, 6, 7, 8, 9, 10])
 .ret))
theorem fn_table_Size : FnIs Tryd.prog 22 11 [.t 2] table_Size :=
  ⟨Tryd.f22, _, kl_table_Size, Tryd.func22, rfl, rfl, by kernel_rfl, by kernel_rfl, Tryd.call22⟩
def kl_table_Full : Nat → List Nat := fun
  | 0 => [0]
  | 1 => [1, 5]
  | 3 => [10, 11]
  | 4 => [4, 12, 13, 14, 15]
  | 5 => [16]
  | 6 => [17]
  | _ => []
def dead_table_Full_0 : List Nat := [0, 1, 3, 4, 5, 9, 10, 11, 12, 13, 14, 15, 16, 17] -- live: [2, 6, 7, 8]
def table_Full : IR :=
 (.seq (.reg [⟨(some 1), .box (.t 0), none⟩,
   ⟨(some 2), .mv (.c (.i .i64 (.l 0))), none⟩] [0])
 (.seq (.seq (.reg [⟨(some 5), .fad 1 (.t 1), none⟩,
   ⟨(some 6), .load false 1 (.t 5), none⟩,
   ⟨(some 7), .len false (.t 6), none⟩,
   ⟨(some 8), .mv (.c (.i .i64 (.l 0))), none⟩] [1, 5])
 (.block 0 (.loop (.seq (.reg [⟨(some 9), .bin .lt (.t 8) (.t 7), none⟩] [])
   (.seq (.cond (.t 9)
    .skip
    (.exit 0))
   (.seq (.block 1 (.seq (.reg [⟨(some 10), .iadS 2 (.t 6) (.t 8), none⟩,
      ⟨(some 11), .load true 2 (.t 10), none⟩,
      ⟨(some 4), .alloc [(.s []), (.s [])], none⟩,
      ⟨none, .store 2 (.t 4) (.t 11), none⟩] [10, 11])
    (.reg [⟨(some 12), .mv (.t 2), none⟩,
      ⟨(some 13), .load true 2 (.t 4), none⟩,
      ⟨(some 14), .call (.c (.fn (.func 22) [] [])) [(.t 13)], none⟩,
      ⟨(some 15), .bin .add (.t 12) (.t 14), none⟩,
      ⟨(some 2), .mv (.t 15), none⟩] [4, 12, 13, 14, 15])))
   (.reg [⟨(some 16), .bin .add (.t 8) (.c (.i .i64 (.l 1))), none⟩,
     ⟨(some 8), .mv (.t 16), none⟩] [16])))))))
 (.seq (.reg [⟨(some 17), .mv (.t 2), none⟩,
   ⟨(some 2), .mv (.t 17), none⟩] [17])
 .ret)))
theorem fn_table_Full : FnIs Tryd.prog 24 18 [.t 2] table_Full :=
  ⟨Tryd.f24, _, kl_table_Full, Tryd.func24, rfl, rfl, by kernel_rfl, by kernel_rfl, Tryd.call24⟩
def kl_table_Right : Nat → List Nat := fun
  | 0 => [0, 2]
  | 1 => [1, 3, 4, 5, 6, 7, 8, 9, 10, 11, 12, 13, 14, 15, 16, 17]
  | _ => []
def ord_table_Right_0 : List (Nat × List Nat) := [(0, []), (1, []), (2, []), (3, []), (4, []), (5, []), (6, []), (7, []), (8, []), (9, []), (11, []), (12, []), (10, [12]), (13, []), (14, []), (15, [])]
def table_Right : IR :=
 (.seq (.reg [⟨(some 1), .box (.t 0), none⟩,
   ⟨(some 2), .mv (.c .ff), none⟩] [0, 2])
 (.seq (.draw [⟨(some 3), .fad 0 (.t 1), none⟩,
   ⟨(some 4), .load false 1 (.t 3), none⟩,
   ⟨(some 5), .bin .ge (.t 4) (.c (.i .i64 (.l 0))), none⟩,
   ⟨(some 6), .mv (.t 5), none⟩,
   ⟨(some 7), .fad 0 (.t 1), (some (6, true))⟩,
   ⟨(some 8), .load false 1 (.t 7), (some (6, true))⟩,
   ⟨(some 9), .bin .le (.t 8) (.c (.i .i64 (.l 4096))), (some (6, true))⟩,
   ⟨(some 10), .pick (.t 6) (.t 9) (.c .ff), none⟩,
   ⟨(some 11), .mv (.t 10), none⟩,
   ⟨(some 12), .load true 2 (.t 1), (some (11, true))⟩,
   ⟨(some 13), .call (.c (.fn (.func 24) [] [])) [(.t 12)], (some (11, true))⟩,
   ⟨(some 14), .fad 0 (.t 1), (some (11, true))⟩,
   ⟨(some 15), .load false 1 (.t 14), (some (11, true))⟩,
   ⟨(some 16), .bin .le (.t 13) (.t 15), (some (11, true))⟩,
   ⟨(some 17), .pick (.t 11) (.t 16) (.c .ff), none⟩,
   ⟨(some 2), .mv (.t 17), none⟩] [[], [0], [1], [2], [3], [4, 3], [5, 3], [3, 6], [7, 3], [8], [9, 8, 8], [8], [11, 8], [10, 12, 8], [8, 13], [14, 10, 0, 1, 2, 3, 4, 5, 6, 7, 8, 9, 10, 11, 12, 13, 14]] [1, 3, 4, 5, 6, 7, 8, 9, 10, 11, 12, 13, 14, 15, 16, 17])
 .ret))
theorem fn_table_Right : FnIs Tryd.prog 26 18 [.t 2] table_Right :=
  ⟨Tryd.f26, _, kl_table_Right, Tryd.func26, rfl, rfl, by kernel_rfl, by kernel_rfl, Tryd.call26⟩
def kl_table_Add : Nat → List Nat := fun
  | 0 => [0, 1, 5]
  | 1 => [6, 7]
  | 2 => [9]
  | 3 => [3, 10, 11, 12, 13, 14, 15]
  | 4 => [16]
  | 5 => [2, 17]
  | _ => []
def table_Add : IR :=
 (.seq (.reg [⟨(some 2), .box (.t 0), none⟩,
   ⟨(some 3), .box (.t 1), none⟩,
   ⟨(some 4), .alloc [(.i .i64 (.l 0)), (.re (.slice none 0 0))], none⟩,
   ⟨(some 5), .mv (.c (.i .i64 (.l 0))), none⟩] [0, 1, 5])
 (.seq (.seq (.reg [⟨(some 6), .load true 2 (.t 2), none⟩,
   ⟨(some 7), .call (.c (.fn (.func 26) [] [])) [(.t 6)], none⟩,
   ⟨(some 8), .not (.t 7), none⟩] [6, 7])
 (.cond (.t 8)
  (.seq (.reg [⟨(some 9), .build [(.i .i64 (.l 0)), (.re (.slice none 0 0))] [], none⟩,
    ⟨none, .store 2 (.t 4) (.t 9), none⟩,
    ⟨(some 5), .mv (.c (.i .i64 (.l 2))), none⟩] [9])
  .ret)
  .skip))
 (.seq (.reg [⟨(some 10), .load true 2 (.t 3), none⟩,
   ⟨(some 11), .buildS 2 1 [(.s []), (.s [])] [(0, (.t 10))], none⟩,
   ⟨(some 12), .fad 1 (.t 2), none⟩,
   ⟨(some 13), .load false 1 (.t 12), none⟩,
   ⟨(some 14), .app 2 (.t 11) (.t 13), none⟩,
   ⟨(some 15), .fad 1 (.t 2), none⟩,
   ⟨none, .store 1 (.t 15) (.t 14), none⟩] [3, 10, 11, 12, 13, 14, 15])
 (.seq (.reg [⟨(some 16), .call (.c (.fn (.func 56) [] [])) [(.t 2)], none⟩] [16])
 (.seq (.reg [⟨(some 17), .load true 2 (.t 2), none⟩,
   ⟨none, .store 2 (.t 4) (.t 17), none⟩,
   ⟨(some 5), .mv (.c (.i .i64 (.l 0))), none⟩] [2, 17])
 .ret)))))
theorem fn_table_Add : FnIs Tryd.prog 28 18 [.c 4 true 2, .t 5] table_Add :=
  ⟨Tryd.f28, _, kl_table_Add, Tryd.func28, rfl, rfl, by kernel_rfl, by kernel_rfl, Tryd.call28⟩
def kl_table_Resize : Nat → List Nat := fun
  | 0 => [0, 5]
  | 1 => [1, 8, 9, 10, 11, 12]
  | 2 => [7, 13, 14, 15, 16, 17, 18]
  | 3 => [20]
  | 4 => [2, 21, 22, 23, 24]
  | 5 => [25]
  | 6 => [6, 26]
  | _ => []
def table_Resize : IR :=
 (.seq (.reg [⟨(some 2), .box (.t 0), none⟩,
   ⟨(some 4), .alloc [(.i .i64 (.l 0)), (.re (.slice none 0 0))], none⟩,
   ⟨(some 5), .mv (.c (.i .i64 (.l 0))), none⟩] [0, 5])
 (.seq (.reg [⟨(some 9), .mv (.t 1), none⟩,
   ⟨(some 10), .call (.c (.fn (.func 19) [] [])) [(.t 9)], none⟩,
   ⟨(some 8), .mv (.t 10), none⟩,
   ⟨(some 11), .ext (.t 8) 0, none⟩,
   ⟨(some 12), .ext (.t 8) 1, none⟩,
   ⟨(some 6), .alloc [(.i .i64 (.l 0)), (.re (.slice none 0 0))], none⟩,
   ⟨none, .store 2 (.t 6) (.t 11), none⟩,
   ⟨(some 7), .mv (.t 12), none⟩] [1, 8, 9, 10, 11, 12])
 (.seq (.seq (.reg [⟨(some 13), .mv (.t 7), none⟩,
   ⟨(some 14), .bin .ne (.t 13) (.c (.i .i64 (.l 0))), none⟩,
   ⟨(some 15), .mv (.t 14), none⟩,
   ⟨(some 16), .load true 2 (.t 2), (some (15, false))⟩,
   ⟨(some 17), .call (.c (.fn (.func 26) [] [])) [(.t 16)], (some (15, false))⟩,
   ⟨(some 18), .not (.t 17), (some (15, false))⟩,
   ⟨(some 19), .pick (.t 15) (.c .tt) (.t 18), none⟩] [7, 13, 14, 15, 16, 17, 18])
 (.cond (.t 19)
  (.seq (.reg [⟨(some 20), .build [(.i .i64 (.l 0)), (.re (.slice none 0 0))] [], none⟩,
    ⟨none, .store 2 (.t 4) (.t 20), none⟩,
    ⟨(some 5), .mv (.c (.i .i64 (.l 2))), none⟩] [20])
  .ret)
  .skip))
 (.seq (.reg [⟨(some 21), .fad 1 (.t 2), none⟩,
   ⟨(some 22), .load false 1 (.t 21), none⟩,
   ⟨(some 23), .call (.c (.fn (.func 58) [] [])) [(.t 22)], none⟩,
   ⟨(some 24), .fad 1 (.t 6), none⟩,
   ⟨none, .store 1 (.t 24) (.t 23), none⟩] [2, 21, 22, 23, 24])
 (.seq (.reg [⟨(some 25), .call (.c (.fn (.func 56) [] [])) [(.t 6)], none⟩] [25])
 (.seq (.reg [⟨(some 26), .load true 2 (.t 6), none⟩,
   ⟨none, .store 2 (.t 4) (.t 26), none⟩,
   ⟨(some 5), .mv (.c (.i .i64 (.l 0))), none⟩] [6, 26])
 .ret))))))
theorem fn_table_Resize : FnIs Tryd.prog 30 27 [.c 4 true 2, .t 5] table_Resize :=
  ⟨Tryd.f30, _, kl_table_Resize, Tryd.func30, rfl, rfl, by kernel_rfl, by kernel_rfl, Tryd.call30⟩
def kl_table_At : Nat → List Nat := fun
  | 0 => [0, 1]
  | 1 => [2, 8, 9]
  | 2 => [11]
  | 3 => [12]
  | 4 => [3, 6, 13, 14]
  | 5 => [7, 16]
  | 6 => [17]
  | _ => []
def table_At : IR :=
 (.seq (.reg [⟨(some 2), .box (.t 0), none⟩,
   ⟨(some 3), .box (.t 1), none⟩,
   ⟨(some 4), .alloc [(.s []), (.s [])], none⟩,
   ⟨(some 5), .alloc [(.i .i64 (.l 0))], none⟩] [0, 1])
 (.seq (.seq (.reg [⟨(some 8), .fad 1 (.t 2), none⟩,
   ⟨(some 9), .load false 1 (.t 8), none⟩,
   ⟨(some 10), .call (.c (.fn (.func 59) [] [])) [(.t 9)], none⟩] [2, 8, 9])
 (.block 0 (.rf (.t 10) [11, 12]
   (.seq (.reg [⟨(some 6), .mv (.t 11), none⟩] [11])
   (.reg [⟨(some 7), .alloc [(.s []), (.s [])], none⟩,
     ⟨none, .store 2 (.t 7) (.t 12), none⟩] [12]))
   (.block 1 (.seq (.reg [⟨(some 13), .mv (.t 6), none⟩,
      ⟨(some 14), .load false 1 (.t 3), none⟩,
      ⟨(some 15), .bin .eq (.t 13) (.t 14), none⟩] [3, 6, 13, 14])
    (.cond (.t 15)
     (.seq (.reg [⟨(some 16), .load true 2 (.t 7), none⟩,
       ⟨none, .store 2 (.t 4) (.t 16), none⟩,
       ⟨none, .store 1 (.t 5) (.c (.i .i64 (.l 0))), none⟩] [7, 16])
     .ret)
     .skip))))))
 (.seq (.reg [⟨(some 17), .build [(.s []), (.s [])] [], none⟩,
   ⟨none, .store 2 (.t 4) (.t 17), none⟩,
   ⟨none, .store 1 (.t 5) (.c (.i .i64 (.l 90))), none⟩] [17])
 .ret)))
theorem fn_table_At : FnIs Tryd.prog 32 18 [.c 4 true 2, .c 5 false 1] table_At :=
  ⟨Tryd.f32, _, kl_table_At, Tryd.func32, rfl, rfl, by kernel_rfl, by kernel_rfl, Tryd.call32⟩
def kl_table_Find : Nat → List Nat := fun
  | 0 => [0, 1]
  | 1 => [16, 17]
  | 2 => [2, 18, 19]
  | 3 => [21]
  | 4 => [22]
  | 5 => [10, 23, 24, 25, 26, 27, 28]
  | 6 => [11, 29]
  | 7 => [6, 31, 32, 33]
  | 8 => [12, 34, 35, 36, 37, 38, 39, 40]
  | 9 => [13, 41]
  | 10 => [7, 8, 9, 43, 44, 45, 46]
  | 11 => [6, 47, 48, 49, 50, 51, 52]
  | 12 => [15]
  | 13 => [14, 54]
  | 14 => [3, 7, 55, 56, 57, 58]
  | _ => []
def table_Find : IR :=
 (.seq (.reg [⟨(some 2), .box (.t 0), none⟩,
   ⟨(some 3), .box (.t 1), none⟩,
   ⟨(some 4), .mv (.c (.i .i64 (.l 0))), none⟩,
   ⟨(some 5), .mv (.c .ff), none⟩] [0, 1])
 (.seq (.reg [⟨(some 16), .mkM, none⟩,
   ⟨(some 17), .mkM, none⟩,
   ⟨(some 6), .alloc [(.re (.map none))], none⟩,
   ⟨(some 7), .alloc [(.re (.map none))], none⟩,
   ⟨none, .store 1 (.t 6) (.t 16), none⟩,
   ⟨none, .store 1 (.t 7) (.t 17), none⟩] [16, 17])
 (.seq (.seq (.reg [⟨(some 18), .fad 1 (.t 2), none⟩,
   ⟨(some 19), .load false 1 (.t 18), none⟩,
   ⟨(some 20), .call (.c (.fn (.func 59) [] [])) [(.t 19)], none⟩] [2, 18, 19])
 (.block 0 (.rf (.t 20) [21, 22]
   (.seq (.reg [⟨(some 8), .mv (.t 21), none⟩] [21])
   (.reg [⟨(some 9), .alloc [(.s []), (.s [])], none⟩,
     ⟨none, .store 2 (.t 9) (.t 22), none⟩] [22]))
   (.block 1 (.seq (.seq (.reg [⟨(some 24), .load false 1 (.t 6), none⟩,
      ⟨(some 25), .load true 2 (.t 9), none⟩,
      ⟨(some 26), .look ⟨true, [.ks, .ks]⟩ (.i .i64 (.l 0)) true (.t 24) (.t 25), none⟩,
      ⟨(some 23), .mv (.t 26), none⟩,
      ⟨(some 27), .ext (.t 23) 0, none⟩,
      ⟨(some 28), .ext (.t 23) 1, none⟩,
      ⟨(some 10), .mv (.t 27), none⟩,
      ⟨(some 11), .mv (.t 28), none⟩] [10, 23, 24, 25, 26, 27, 28])
    (.seq (.reg [⟨(some 29), .mv (.t 11), none⟩,
      ⟨(some 30), .not (.t 29), none⟩] [11, 29])
    (.cond (.t 30)
     (.reg [⟨(some 31), .load false 1 (.t 6), none⟩,
       ⟨(some 32), .load true 2 (.t 9), none⟩,
       ⟨(some 33), .mv (.t 8), none⟩,
       ⟨none, .mupd ⟨true, [.ks, .ks]⟩ (.t 31) (.t 32) (.t 33), none⟩] [6, 31, 32, 33])
     .skip)))
    (.seq (.reg [⟨(some 35), .load false 1 (.t 7), none⟩,
      ⟨(some 36), .fad 0 (.t 9), none⟩,
      ⟨(some 37), .load false 1 (.t 36), none⟩,
      ⟨(some 38), .look ⟨false, [.ks]⟩ (.i .i64 (.l 0)) true (.t 35) (.t 37), none⟩,
      ⟨(some 34), .mv (.t 38), none⟩,
      ⟨(some 39), .ext (.t 34) 0, none⟩,
      ⟨(some 40), .ext (.t 34) 1, none⟩,
      ⟨(some 12), .mv (.t 39), none⟩,
      ⟨(some 13), .mv (.t 40), none⟩] [12, 34, 35, 36, 37, 38, 39, 40])
    (.seq (.reg [⟨(some 41), .mv (.t 13), none⟩,
      ⟨(some 42), .not (.t 41), none⟩] [13, 41])
    (.cond (.t 42)
     (.reg [⟨(some 43), .load false 1 (.t 7), none⟩,
       ⟨(some 44), .fad 0 (.t 9), none⟩,
       ⟨(some 45), .load false 1 (.t 44), none⟩,
       ⟨(some 46), .mv (.t 8), none⟩,
       ⟨none, .mupd ⟨false, [.ks]⟩ (.t 43) (.t 45) (.t 46), none⟩] [7, 8, 9, 43, 44, 45, 46])
     .skip))))))))
 (.seq (.seq (.reg [⟨(some 48), .load false 1 (.t 6), none⟩,
   ⟨(some 49), .load true 2 (.t 3), none⟩,
   ⟨(some 50), .look ⟨true, [.ks, .ks]⟩ (.i .i64 (.l 0)) true (.t 48) (.t 49), none⟩,
   ⟨(some 47), .mv (.t 50), none⟩,
   ⟨(some 51), .ext (.t 47) 0, none⟩,
   ⟨(some 52), .ext (.t 47) 1, none⟩,
   ⟨(some 14), .mv (.t 51), none⟩,
   ⟨(some 15), .mv (.t 52), none⟩] [6, 47, 48, 49, 50, 51, 52])
 (.seq (.reg [⟨(some 53), .mv (.t 15), none⟩] [15])
 (.cond (.t 53)
  (.seq (.reg [⟨(some 54), .mv (.t 14), none⟩,
    ⟨(some 4), .mv (.t 54), none⟩,
    ⟨(some 5), .mv (.c .tt), none⟩] [14, 54])
  .ret)
  .skip)))
 (.seq (.reg [⟨(some 55), .load false 1 (.t 7), none⟩,
   ⟨(some 56), .fad 0 (.t 3), none⟩,
   ⟨(some 57), .load false 1 (.t 56), none⟩,
   ⟨(some 58), .look ⟨false, [.ks]⟩ (.i .i64 (.l 0)) false (.t 55) (.t 57), none⟩,
   ⟨(some 4), .mv (.t 58), none⟩,
   ⟨(some 5), .mv (.c .ff), none⟩] [3, 7, 55, 56, 57, 58])
 .ret)))))
theorem fn_table_Find : FnIs Tryd.prog 34 59 [.t 4, .t 5] table_Find :=
  ⟨Tryd.f34, _, kl_table_Find, Tryd.func34, rfl, rfl, by kernel_rfl, by kernel_rfl, Tryd.call34⟩
def kl_table_Same : Nat → List Nat := fun
  | 0 => [0, 1, 4]
  | 1 => [2, 3, 5, 6, 7, 8, 9, 10, 11, 12, 13, 14, 15, 16]
  | _ => []
def table_Same : IR :=
 (.seq (.reg [⟨(some 2), .box (.t 0), none⟩,
   ⟨(some 3), .box (.t 1), none⟩,
   ⟨(some 4), .mv (.c .ff), none⟩] [0, 1, 4])
 (.seq (.reg [⟨(some 5), .fad 0 (.t 2), none⟩,
   ⟨(some 6), .load false 1 (.t 5), none⟩,
   ⟨(some 7), .fad 0 (.t 3), none⟩,
   ⟨(some 8), .load false 1 (.t 7), none⟩,
   ⟨(some 9), .bin .eq (.t 6) (.t 8), none⟩,
   ⟨(some 10), .mv (.t 9), none⟩,
   ⟨(some 11), .fad 1 (.t 2), (some (10, true))⟩,
   ⟨(some 12), .load false 1 (.t 11), (some (10, true))⟩,
   ⟨(some 13), .fad 1 (.t 3), (some (10, true))⟩,
   ⟨(some 14), .load false 1 (.t 13), (some (10, true))⟩,
   ⟨(some 15), .call (.c (.fn (.func 60) [] [])) [(.t 12), (.t 14)], (some (10, true))⟩,
   ⟨(some 16), .pick (.t 10) (.t 15) (.c .ff), none⟩,
   ⟨(some 4), .mv (.t 16), none⟩] [2, 3, 5, 6, 7, 8, 9, 10, 11, 12, 13, 14, 15, 16])
 .ret))
theorem fn_table_Same : FnIs Tryd.prog 36 17 [.t 4] table_Same :=
  ⟨Tryd.f36, _, kl_table_Same, Tryd.func36, rfl, rfl, by kernel_rfl, by kernel_rfl, Tryd.call36⟩
def kl_causeyref09_Fields : Nat → List Nat := fun
  | 0 => [4]
  | 1 => [6, 7, 8, 9]
  | 4 => [11, 12, 13]
  | 5 => [15, 16]
  | 6 => [17, 18, 19, 20, 21, 22, 23, 24]
  | _ => []
def dead_causeyref09_Fields_0 : List Nat := [2, 3, 4, 6, 7, 8, 9, 10, 11, 12, 13, 14, 15, 16, 17, 18, 19, 20, 21, 22, 23, 24, 25] -- live: [0, 1, 5]
def ord_causeyref09_Fields_0 : List (Nat × List Nat) := [(0, []), (1, []), (2, []), (3, []), (4, []), (5, []), (6, []), (7, []), (8, [])]
def causeyref09_Fields : IR :=
 (.seq (.reg [⟨(some 4), .mv (.c .ff), none⟩] [4])
 (.seq (.seq (.reg [⟨(some 6), .mv (.t 0), none⟩,
   ⟨(some 7), .len false (.t 6), none⟩,
   ⟨(some 8), .mv (.t 1), none⟩,
   ⟨(some 9), .len false (.t 8), none⟩,
   ⟨(some 10), .bin .ne (.t 7) (.t 9), none⟩] [6, 7, 8, 9])
 (.cond (.t 10)
  (.seq (.reg [⟨(some 4), .mv (.c .ff), none⟩] [])
  .ret)
  .skip))
 (.seq (.seq (.reg [⟨(some 5), .mv (.c (.i .i64 (.l 0))), none⟩] [])
 (.block 0 (.loop (.seq (.seq (.reg [⟨(some 11), .mv (.t 5), none⟩,
     ⟨(some 12), .mv (.t 0), none⟩,
     ⟨(some 13), .len false (.t 12), none⟩,
     ⟨(some 14), .bin .lt (.t 11) (.t 13), none⟩] [11, 12, 13])
   (.cond (.t 14)
    .skip
    (.exit 0)))
   (.seq (.block 1 (.seq (.draw [⟨(some 17), .mv (.t 0), none⟩,
      ⟨(some 18), .mv (.t 5), none⟩,
      ⟨(some 19), .iadS 2 (.t 17) (.t 18), none⟩,
      ⟨(some 20), .load true 2 (.t 19), none⟩,
      ⟨(some 21), .mv (.t 1), none⟩,
      ⟨(some 22), .mv (.t 5), none⟩,
      ⟨(some 23), .iadS 2 (.t 21) (.t 22), none⟩,
      ⟨(some 24), .load true 2 (.t 23), none⟩,
      ⟨(some 25), .eqA ⟨true, [.ks, .ks]⟩ true (.t 20) (.t 24), none⟩] [[], [], [0, 1], [2], [], [], [4, 5], [6], [3, 7]] [17, 18, 19, 20, 21, 22, 23, 24])
    (.cond (.t 25)
     (.seq (.reg [⟨(some 4), .mv (.c .ff), none⟩] [])
     .ret)
     .skip)))
   (.reg [⟨(some 15), .mv (.t 5), none⟩,
     ⟨(some 16), .bin .add (.t 15) (.c (.i .i64 (.l 1))), none⟩,
     ⟨(some 5), .mv (.t 16), none⟩] [15, 16]))))))
 (.seq (.reg [⟨(some 4), .mv (.c .tt), none⟩] [])
 .ret))))
theorem fn_causeyref09_Fields : FnIs Tryd.prog 37 26 [.t 4] causeyref09_Fields :=
  ⟨Tryd.f37, _, kl_causeyref09_Fields, Tryd.func37, rfl, rfl, by kernel_rfl, by kernel_rfl, Tryd.call37⟩
def kl_table_evict : Nat → List Nat := fun
  | 0 => [4, 5, 6, 7]
  | 1 => [8, 9, 10, 11, 12, 13]
  | 2 => [14, 15, 16, 17, 18]
  | 3 => [20, 21, 22, 23, 24, 25, 26, 27, 28, 29]
  | 4 => [3, 30, 31, 32, 33, 34, 35, 36, 37, 38]
  | _ => []
def table_evict : IR :=
 (.scope (.seq (.reg [⟨(some 4), .mv (.t 0), none⟩,
    ⟨(some 5), .nilc (.t 4), none⟩,
    ⟨(some 6), .load true 2 (.t 5), none⟩,
    ⟨(some 7), .call (.c (.fn (.func 24) [] [])) [(.t 6)], none⟩,
    ⟨(some 2), .mv (.t 7), none⟩] [4, 5, 6, 7])
  (.seq (.label 0)
  (.seq (.reg [⟨(some 8), .mv (.t 0), none⟩,
    ⟨(some 9), .nilc (.t 8), none⟩,
    ⟨(some 10), .fad 1 (.t 9), none⟩,
    ⟨(some 11), .load false 1 (.t 10), none⟩,
    ⟨(some 12), .len false (.t 11), none⟩,
    ⟨(some 13), .bin .sub (.t 12) (.c (.i .i64 (.l 1))), none⟩,
    ⟨(some 3), .mv (.t 13), none⟩] [8, 9, 10, 11, 12, 13])
  (.seq (.reg [⟨(some 14), .mv (.t 2), none⟩,
    ⟨(some 15), .mv (.t 0), none⟩,
    ⟨(some 16), .nilc (.t 15), none⟩,
    ⟨(some 17), .fad 0 (.t 16), none⟩,
    ⟨(some 18), .load false 1 (.t 17), none⟩,
    ⟨(some 19), .bin .gt (.t 14) (.t 18), none⟩] [14, 15, 16, 17, 18])
  (.cond (.t 19)
   (.seq (.reg [⟨(some 20), .mv (.t 2), none⟩,
     ⟨(some 21), .mv (.t 0), none⟩,
     ⟨(some 22), .nilc (.t 21), none⟩,
     ⟨(some 23), .fad 1 (.t 22), none⟩,
     ⟨(some 24), .load false 1 (.t 23), none⟩,
     ⟨(some 25), .mv (.t 3), none⟩,
     ⟨(some 26), .iadS 2 (.t 24) (.t 25), none⟩,
     ⟨(some 27), .load true 2 (.t 26), none⟩,
     ⟨(some 28), .call (.c (.fn (.func 22) [] [])) [(.t 27)], none⟩,
     ⟨(some 29), .bin .sub (.t 20) (.t 28), none⟩,
     ⟨(some 2), .mv (.t 29), none⟩] [20, 21, 22, 23, 24, 25, 26, 27, 28, 29])
   (.seq (.reg [⟨(some 30), .mv (.t 0), none⟩,
     ⟨(some 31), .mv (.t 0), none⟩,
     ⟨(some 32), .nilc (.t 31), none⟩,
     ⟨(some 33), .fad 1 (.t 32), none⟩,
     ⟨(some 34), .load false 1 (.t 33), none⟩,
     ⟨(some 35), .mv (.t 3), none⟩,
     ⟨(some 36), .slc 2 (.t 34) none (some (.t 35)) none, none⟩,
     ⟨(some 37), .nilc (.t 30), none⟩,
     ⟨(some 38), .fad 1 (.t 37), none⟩,
     ⟨none, .store 1 (.t 38) (.t 36), none⟩] [3, 30, 31, 32, 33, 34, 35, 36, 37, 38])
   (.goto 0)))
   .skip))))))
theorem fn_table_evict : FnIs Tryd.prog 56 39 [] table_evict :=
  ⟨Tryd.f56, _, kl_table_evict, Tryd.func56, rfl, rfl, by kernel_rfl, by kernel_rfl, Tryd.call56⟩
def kl_slices_Clone_api_Field_ : Nat → List Nat := fun
  | 0 => [2]
  | 1 => [3]
  | 3 => [0, 5, 6, 7]
  | _ => []
def slices_Clone_api_Field_ : IR :=
 (.seq (.reg [⟨(some 2), .mv (.c (.re (.slice none 0 0))), none⟩] [2])
 (.seq (.seq (.reg [⟨(some 3), .mv (.t 0), none⟩,
   ⟨(some 4), .nilS false (.t 3), none⟩] [3])
 (.cond (.t 4)
  (.seq (.reg [⟨(some 2), .mv (.c (.re (.slice none 0 0))), none⟩] [])
  .ret)
  .skip))
 (.seq (.reg [⟨(some 5), .buildS 2 0 [(.s []), (.s [])] [], none⟩,
   ⟨(some 6), .mv (.t 0), none⟩,
   ⟨(some 7), .app 2 (.t 5) (.t 6), none⟩,
   ⟨(some 2), .mv (.t 7), none⟩] [0, 5, 6, 7])
 .ret)))
theorem fn_slices_Clone_api_Field_ : FnIs Tryd.prog 58 8 [.t 2] slices_Clone_api_Field_ :=
  ⟨Tryd.f58, _, kl_slices_Clone_api_Field_, Tryd.func58, rfl, rfl, by kernel_rfl, by kernel_rfl, Tryd.call58⟩
def kl_table_fields : Nat → List Nat := fun
  | 0 => [0, 2]
  | 1 => [1, 3]
  | _ => []
def table_fields : IR :=
 (.seq (.reg [⟨(some 1), .box (.t 0), none⟩,
   ⟨(some 2), .mv (.c (.re .nilFunc)), none⟩] [0, 2])
 (.seq (.reg [⟨(some 3), .mkF (.func 73) [] [(.t 1)], none⟩,
   ⟨(some 2), .mv (.t 3), none⟩] [1, 3])
 .ret))
theorem fn_table_fields : FnIs Tryd.prog 59 4 [.t 2] table_fields :=
  ⟨Tryd.f59, _, kl_table_fields, Tryd.func59, rfl, rfl, by kernel_rfl, by kernel_rfl, Tryd.call59⟩
def kl_slices_Equal_api_Field_ : Nat → List Nat := fun
  | 0 => [4]
  | 1 => [6, 7, 8, 9]
  | 3 => [11]
  | 5 => [15]
  | 6 => [5, 16, 17, 18, 19, 20, 21, 22, 23]
  | 8 => [25]
  | _ => []
def dead_slices_Equal_api_Field__0 : List Nat := [2, 3, 4, 5, 6, 7, 8, 9, 10, 11, 14, 15, 16, 17, 18, 19, 20, 21, 22, 23, 24, 25] -- live: [0, 1, 12, 13]
def ord_slices_Equal_api_Field__0 : List (Nat × List Nat) := [(0, []), (1, []), (2, []), (3, []), (4, []), (5, []), (6, []), (7, []), (8, [])]
def slices_Equal_api_Field_ : IR :=
 (.seq (.reg [⟨(some 4), .mv (.c .ff), none⟩] [4])
 (.seq (.seq (.reg [⟨(some 6), .mv (.t 0), none⟩,
   ⟨(some 7), .len false (.t 6), none⟩,
   ⟨(some 8), .mv (.t 1), none⟩,
   ⟨(some 9), .len false (.t 8), none⟩,
   ⟨(some 10), .bin .ne (.t 7) (.t 9), none⟩] [6, 7, 8, 9])
 (.cond (.t 10)
  (.seq (.reg [⟨(some 4), .mv (.c .ff), none⟩] [])
  .ret)
  .skip))
 (.seq (.seq (.reg [⟨(some 11), .mv (.t 0), none⟩,
   ⟨(some 12), .len false (.t 11), none⟩,
   ⟨(some 13), .mv (.c (.i .i64 (.l 0))), none⟩] [11])
 (.block 0 (.loop (.seq (.reg [⟨(some 14), .bin .lt (.t 13) (.t 12), none⟩] [])
   (.seq (.cond (.t 14)
    .skip
    (.exit 0))
   (.seq (.block 1 (.seq (.reg [⟨(some 15), .mv (.t 13), none⟩,
      ⟨(some 5), .mv (.t 15), none⟩] [15])
    (.seq (.draw [⟨(some 16), .mv (.t 0), none⟩,
      ⟨(some 17), .mv (.t 5), none⟩,
      ⟨(some 18), .iadS 2 (.t 16) (.t 17), none⟩,
      ⟨(some 19), .load true 2 (.t 18), none⟩,
      ⟨(some 20), .mv (.t 1), none⟩,
      ⟨(some 21), .mv (.t 5), none⟩,
      ⟨(some 22), .iadS 2 (.t 20) (.t 21), none⟩,
      ⟨(some 23), .load true 2 (.t 22), none⟩,
      ⟨(some 24), .eqA ⟨true, [.ks, .ks]⟩ true (.t 19) (.t 23), none⟩] [[], [], [0, 1], [2], [], [], [4, 5], [6], [3, 7]] [5, 16, 17, 18, 19, 20, 21, 22, 23])
    (.cond (.t 24)
     (.seq (.reg [⟨(some 4), .mv (.c .ff), none⟩] [])
     .ret)
     .skip))))
   (.reg [⟨(some 25), .bin .add (.t 13) (.c (.i .i64 (.l 1))), none⟩,
     ⟨(some 13), .mv (.t 25), none⟩] [25])))))))
 (.seq (.reg [⟨(some 4), .mv (.c .tt), none⟩] [])
 .ret))))
theorem fn_slices_Equal_api_Field_ : FnIs Tryd.prog 60 26 [.t 4] slices_Equal_api_Field_ :=
  ⟨Tryd.f60, _, kl_slices_Equal_api_Field_, Tryd.func60, rfl, rfl, by kernel_rfl, by kernel_rfl, Tryd.call60⟩
def kl_table_fields_1 : Nat → List Nat := fun
  | 0 => [0]
  | 3 => [11]
  | 4 => [12, 13]
  | 5 => [4, 7, 14, 15, 16, 17, 18, 19]
  | 6 => [2, 3, 5, 6, 20, 21, 22, 23, 24, 25]
  | 7 => [1]
  | 9 => [31, 32]
  | 10 => [33, 34]
  | 11 => [9, 35, 36, 37, 38]
  | 12 => [40]
  | _ => []
def dead_table_fields_1_0 : List Nat := [0, 1, 4, 5, 6, 7, 8, 9, 10, 11, 12, 13, 14, 15, 16, 17, 18, 19, 20, 21, 22, 23, 24, 25, 26, 30, 31, 32, 33, 34, 35, 36, 37, 38, 39, 40] -- live: [2, 3, 27, 28, 29]
def table_fields_1 : IR :=
 (.seq (.reg [⟨(some 2), .box (.t 0), none⟩] [0])
 (.seq (.reg [⟨(some 3), .alloc [(.i .i64 (.l 0))], none⟩,
   ⟨none, .store 1 (.t 3) (.c (.i .i64 (.l 0))), none⟩] [])
 (.seq (.seq (.reg [⟨(some 10), .call (.c (.fn (.func 74) [] [])) [(.c (.s [58, 109, 101, 116, 104, 111, 100, 32, 71, 69, 84, 10, 58, 109, 101, 116, 104, 111, 100, 32, 80, 79, 83, 84, 10, 58, 112, 97, 116, 104, 32, 47, 10, 58, 115, 99, 104, 101, 109, 101, 32, 104, 116, 116, 112, 10, 58, 115, 99, 104, 101, 109, 101, 32, 104, 116, 116, 112, 115, 10, 58, 115, 116, 97, 116, 117, 115, 32, 50, 48, 48, 10, 58, 115, 116, 97, 116, 117, 115, 32, 50, 48, 52, 10, 58, 115, 116, 97, 116, 117, 115, 32, 52, 48, 52, 10, 58, 115, 116, 97, 116, 117, 115, 32, 53, 48, 48, 10, 97, 99, 99, 101, 112, 116, 10, 99, 111, 110, 116, 101, 110, 116, 45, 108, 101, 110, 103, 116, 104, 10, 99, 111, 110, 116, 101, 110, 116, 45, 116, 121, 112, 101, 10, 99, 111, 111, 107, 105, 101, 10, 100, 97, 116, 101, 10, 104, 111, 115, 116, 10, 108, 111, 99, 97, 116, 105, 111, 110, 10, 112, 114, 105, 111, 114, 105, 116, 121, 10, 112, 114, 105, 111, 114, 105, 116, 121, 32, 117, 61, 49, 10, 115, 101, 114, 118, 101, 114, 10, 117, 115, 101, 114, 45, 97, 103, 101, 110, 116])), (.c (.s [10]))], none⟩] [])
 (.block 0 (.rf (.t 10) [11]
   (.reg [⟨(some 4), .mv (.t 11), none⟩] [11])
   (.block 1 (.seq (.reg [⟨(some 12), .load false 1 (.t 3), none⟩,
      ⟨(some 13), .bin .add (.t 12) (.c (.i .i64 (.l 1))), none⟩,
      ⟨none, .store 1 (.t 3) (.t 13), none⟩] [12, 13])
    (.seq (.reg [⟨(some 15), .mv (.t 4), none⟩,
      ⟨(some 16), .call (.c (.fn (.func 75) [] [])) [(.t 15), (.c (.s [32]))], none⟩,
      ⟨(some 14), .mv (.t 16), none⟩,
      ⟨(some 17), .ext (.t 14) 0, none⟩,
      ⟨(some 18), .ext (.t 14) 1, none⟩,
      ⟨(some 19), .ext (.t 14) 2, none⟩,
      ⟨(some 5), .mv (.t 17), none⟩,
      ⟨(some 6), .mv (.t 18), none⟩,
      ⟨(some 7), .mv (.t 19), none⟩] [4, 7, 14, 15, 16, 17, 18, 19])
    (.seq (.reg [⟨(some 20), .load false 1 (.t 2), none⟩,
      ⟨(some 21), .load false 1 (.t 3), none⟩,
      ⟨(some 22), .mv (.t 5), none⟩,
      ⟨(some 23), .mv (.t 6), none⟩,
      ⟨(some 24), .build [(.s []), (.s [])] [(0, 1, (.t 22)), (1, 1, (.t 23))], none⟩,
      ⟨(some 25), .call (.t 20) [(.t 21), (.t 24)], none⟩,
      ⟨(some 26), .not (.t 25), none⟩] [2, 3, 5, 6, 20, 21, 22, 23, 24, 25])
    (.cond (.t 26)
     .ret
     .skip))))))))
 (.seq (.reg [⟨(some 27), .load false 1 (.t 1), none⟩,
   ⟨(some 28), .len false (.t 27), none⟩,
   ⟨(some 29), .mv (.c (.i .i64 (.l 0))), none⟩] [1])
 (.block 2 (.loop (.seq (.reg [⟨(some 30), .bin .lt (.t 29) (.t 28), none⟩] [])
   (.seq (.cond (.t 30)
    .skip
    (.exit 2))
   (.seq (.block 3 (.seq (.reg [⟨(some 31), .iadS 2 (.t 27) (.t 29), none⟩,
      ⟨(some 32), .load true 2 (.t 31), none⟩,
      ⟨(some 9), .alloc [(.s []), (.s [])], none⟩,
      ⟨none, .store 2 (.t 9) (.t 32), none⟩] [31, 32])
    (.seq (.reg [⟨(some 33), .load false 1 (.t 3), none⟩,
      ⟨(some 34), .bin .add (.t 33) (.c (.i .i64 (.l 1))), none⟩,
      ⟨none, .store 1 (.t 3) (.t 34), none⟩] [33, 34])
    (.seq (.reg [⟨(some 35), .load false 1 (.t 2), none⟩,
      ⟨(some 36), .load false 1 (.t 3), none⟩,
      ⟨(some 37), .load true 2 (.t 9), none⟩,
      ⟨(some 38), .call (.t 35) [(.t 36), (.t 37)], none⟩,
      ⟨(some 39), .not (.t 38), none⟩] [9, 35, 36, 37, 38])
    (.cond (.t 39)
     .ret
     .skip)))))
   (.reg [⟨(some 40), .bin .add (.t 29) (.c (.i .i64 (.l 1))), none⟩,
     ⟨(some 29), .mv (.t 40), none⟩] [40]))))))))))
theorem fn_table_fields_1 : FnIs Tryd.prog 73 41 [] table_fields_1 :=
  ⟨Tryd.f73, _, kl_table_fields_1, Tryd.func73, rfl, rfl, by kernel_rfl, by kernel_rfl, Tryd.call73⟩
def kl_strings_SplitSeq : Nat → List Nat := fun
  | 0 => [4]
  | 1 => [0, 1, 5, 6, 7]
  | _ => []
def strings_SplitSeq : IR :=
 (.seq (.reg [⟨(some 4), .mv (.c (.re .nilFunc)), none⟩] [4])
 (.seq (.reg [⟨(some 5), .mv (.t 0), none⟩,
   ⟨(some 6), .mv (.t 1), none⟩,
   ⟨(some 7), .call (.c (.fn (.func 92) [] [])) [(.t 5), (.t 6), (.c (.i .i64 (.l 0)))], none⟩,
   ⟨(some 4), .mv (.t 7), none⟩] [0, 1, 5, 6, 7])
 .ret))
theorem fn_strings_SplitSeq : FnIs Tryd.prog 74 8 [.t 4] strings_SplitSeq :=
  ⟨Tryd.f74, _, kl_strings_SplitSeq, Tryd.func74, rfl, rfl, by kernel_rfl, by kernel_rfl, Tryd.call74⟩
def kl_strings_Cut : Nat → List Nat := fun
  | 0 => [4, 5, 6]
  | 1 => [0, 1, 7, 8, 9, 10, 11, 12]
  | _ => []
def strings_Cut : IR :=
 (.seq (.reg [⟨(some 4), .mv (.c (.s [])), none⟩,
   ⟨(some 5), .mv (.c (.s [])), none⟩,
   ⟨(some 6), .mv (.c .ff), none⟩] [4, 5, 6])
 (.seq (.reg [⟨(some 7), .mv (.t 0), none⟩,
   ⟨(some 8), .mv (.t 1), none⟩,
   ⟨(some 9), .call (.c (.fn (.func 93) [] [])) [(.t 7), (.t 8)], none⟩,
   ⟨(some 10), .ext (.t 9) 0, none⟩,
   ⟨(some 11), .ext (.t 9) 1, none⟩,
   ⟨(some 12), .ext (.t 9) 2, none⟩,
   ⟨(some 4), .mv (.t 10), none⟩,
   ⟨(some 5), .mv (.t 11), none⟩,
   ⟨(some 6), .mv (.t 12), none⟩] [0, 1, 7, 8, 9, 10, 11, 12])
 .ret))
theorem fn_strings_Cut : FnIs Tryd.prog 75 13 [.t 4, .t 5, .t 6] strings_Cut :=
  ⟨Tryd.f75, _, kl_strings_Cut, Tryd.func75, rfl, rfl, by kernel_rfl, by kernel_rfl, Tryd.call75⟩
def kl_strings_splitSeq : Nat → List Nat := fun
  | 0 => [0, 1, 2, 6]
  | 1 => [3, 4, 5, 7]
  | _ => []
def strings_splitSeq : IR :=
 (.seq (.reg [⟨(some 3), .box (.t 0), none⟩,
   ⟨(some 4), .box (.t 1), none⟩,
   ⟨(some 5), .box (.t 2), none⟩,
   ⟨(some 6), .mv (.c (.re .nilFunc)), none⟩] [0, 1, 2, 6])
 (.seq (.reg [⟨(some 7), .mkF (.func 105) [] [(.t 4), (.t 3), (.t 5)], none⟩,
   ⟨(some 6), .mv (.t 7), none⟩] [3, 4, 5, 7])
 .ret))
theorem fn_strings_splitSeq : FnIs Tryd.prog 92 8 [.t 6] strings_splitSeq :=
  ⟨Tryd.f92, _, kl_strings_splitSeq, Tryd.func92, rfl, rfl, by kernel_rfl, by kernel_rfl, Tryd.call92⟩
def kl_stringslite_Cut : Nat → List Nat := fun
  | 0 => [4, 5, 6]
  | 1 => [8, 9, 10]
  | 2 => [11]
  | 3 => [0, 1, 7, 13, 14, 15, 16, 17, 18, 19, 20, 21]
  | 4 => [0, 22]
  | _ => []
def ord_stringslite_Cut_0 : List (Nat × List Nat) := [(0, []), (1, []), (2, []), (3, []), (4, []), (5, []), (6, []), (7, []), (8, []), (9, []), (10, []), (11, [])]
def stringslite_Cut : IR :=
 (.seq (.reg [⟨(some 4), .mv (.c (.s [])), none⟩,
   ⟨(some 5), .mv (.c (.s [])), none⟩,
   ⟨(some 6), .mv (.c .ff), none⟩] [4, 5, 6])
 (.seq (.seq (.reg [⟨(some 8), .mv (.t 0), none⟩,
   ⟨(some 9), .mv (.t 1), none⟩,
   ⟨(some 10), .call (.c (.fn (.func 108) [] [])) [(.t 8), (.t 9)], none⟩,
   ⟨(some 7), .mv (.t 10), none⟩] [8, 9, 10])
 (.seq (.reg [⟨(some 11), .mv (.t 7), none⟩,
   ⟨(some 12), .bin .ge (.t 11) (.c (.i .i64 (.l 0))), none⟩] [11])
 (.cond (.t 12)
  (.seq (.draw [⟨(some 13), .mv (.t 0), none⟩,
    ⟨(some 14), .mv (.t 7), none⟩,
    ⟨(some 15), .slcS (.t 13) none (some (.t 14)), none⟩,
    ⟨(some 16), .mv (.t 0), none⟩,
    ⟨(some 17), .mv (.t 7), none⟩,
    ⟨(some 18), .mv (.t 1), none⟩,
    ⟨(some 19), .len true (.t 18), none⟩,
    ⟨(some 20), .bin .add (.t 17) (.t 19), none⟩,
    ⟨(some 21), .slcS (.t 16) (some (.t 20)) none, none⟩,
    ⟨(some 4), .mv (.t 15), none⟩,
    ⟨(some 5), .mv (.t 21), none⟩,
    ⟨(some 6), .mv (.c .tt), none⟩] [[], [], [0, 1], [], [], [], [5], [4, 6], [3, 7], [2, 0, 1, 2], [8, 9, 0, 1, 2, 3, 4, 5, 6, 7, 8, 9], [10, 0, 1, 2, 3, 4, 5, 6, 7, 8, 9, 10]] [0, 1, 7, 13, 14, 15, 16, 17, 18, 19, 20, 21])
  .ret)
  .skip)))
 (.seq (.reg [⟨(some 22), .mv (.t 0), none⟩,
   ⟨(some 4), .mv (.t 22), none⟩,
   ⟨(some 5), .mv (.c (.s [])), none⟩,
   ⟨(some 6), .mv (.c .ff), none⟩] [0, 22])
 .ret)))
theorem fn_stringslite_Cut : FnIs Tryd.prog 93 23 [.t 4, .t 5, .t 6] stringslite_Cut :=
  ⟨Tryd.f93, _, kl_stringslite_Cut, Tryd.func93, rfl, rfl, by kernel_rfl, by kernel_rfl, Tryd.call93⟩
def kl_strings_splitSeq_1 : Nat → List Nat := fun
  | 0 => [9, 10]
  | 1 => [12, 13]
  | 2 => [5, 15, 16, 17, 18, 19]
  | 3 => [20, 21, 22, 23, 24]
  | 4 => [6, 26, 27, 28]
  | 5 => [29, 30, 31]
  | 6 => [32]
  | 7 => [34, 35, 36, 37, 38]
  | 8 => [8, 39, 40, 41]
  | 9 => [7, 43, 44, 45, 46, 47, 48]
  | 10 => [0, 2, 49, 50, 51]
  | _ => []
def dead_strings_splitSeq_1_0 : List Nat := [4, 5, 6, 7, 8, 9, 10, 11, 12, 13, 14, 15, 16, 17, 18, 19, 20, 21, 22, 23, 24, 25, 26, 27, 28, 29, 30, 31, 32, 33, 34, 35, 36, 37, 38, 39, 40, 41, 42, 43, 44, 45, 46, 47, 48, 49, 50, 51] -- live: [0, 1, 2, 3]
def strings_splitSeq_1 : IR :=
 (.seq (.seq (.reg [⟨(some 9), .load false 1 (.t 1), none⟩,
   ⟨(some 10), .len true (.t 9), none⟩,
   ⟨(some 11), .bin .eq (.t 10) (.c (.i .i64 (.l 0))), none⟩] [9, 10])
 (.cond (.t 11)
  (.seq (.block 0 (.loop (.seq (.seq (.reg [⟨(some 12), .load false 1 (.t 2), none⟩,
      ⟨(some 13), .len true (.t 12), none⟩,
      ⟨(some 14), .bin .gt (.t 13) (.c (.i .i64 (.l 0))), none⟩] [12, 13])
    (.cond (.t 14)
     .skip
     (.exit 0)))
    (.block 1 (.seq (.reg [⟨(some 16), .load false 1 (.t 2), none⟩,
       ⟨(some 17), .call (.c (.fn (.func 106) [] [])) [(.t 16)], none⟩,
       ⟨(some 15), .mv (.t 17), none⟩,
       ⟨(some 18), .ext (.t 15) 0, none⟩,
       ⟨(some 19), .ext (.t 15) 1, none⟩,
       ⟨(some 5), .mv (.t 18), none⟩,
       ⟨(some 6), .mv (.t 19), none⟩] [5, 15, 16, 17, 18, 19])
     (.seq (.seq (.reg [⟨(some 20), .mv (.t 0), none⟩,
       ⟨(some 21), .load false 1 (.t 2), none⟩,
       ⟨(some 22), .mv (.t 6), none⟩,
       ⟨(some 23), .slcS (.t 21) none (some (.t 22)), none⟩,
       ⟨(some 24), .call (.t 20) [(.t 23)], none⟩,
       ⟨(some 25), .not (.t 24), none⟩] [20, 21, 22, 23, 24])
     (.cond (.t 25)
      .ret
      .skip))
     (.reg [⟨(some 26), .load false 1 (.t 2), none⟩,
       ⟨(some 27), .mv (.t 6), none⟩,
       ⟨(some 28), .slcS (.t 26) (some (.t 27)) none, none⟩,
       ⟨none, .store 1 (.t 2) (.t 28), none⟩] [6, 26, 27, 28])))))))
  .ret)
  .skip))
 (.seq (.block 2 (.loop (.block 3 (.seq (.reg [⟨(some 29), .load false 1 (.t 2), none⟩,
      ⟨(some 30), .load false 1 (.t 1), none⟩,
      ⟨(some 31), .call (.c (.fn (.func 107) [] [])) [(.t 29), (.t 30)], none⟩,
      ⟨(some 7), .mv (.t 31), none⟩] [29, 30, 31])
    (.seq (.seq (.reg [⟨(some 32), .mv (.t 7), none⟩,
      ⟨(some 33), .bin .lt (.t 32) (.c (.i .i64 (.l 0))), none⟩] [32])
    (.cond (.t 33)
     (.exit 2)
     .skip))
    (.seq (.reg [⟨(some 34), .load false 1 (.t 2), none⟩,
      ⟨(some 35), .mv (.t 7), none⟩,
      ⟨(some 36), .load false 1 (.t 3), none⟩,
      ⟨(some 37), .bin .add (.t 35) (.t 36), none⟩,
      ⟨(some 38), .slcS (.t 34) none (some (.t 37)), none⟩,
      ⟨(some 8), .mv (.t 38), none⟩] [34, 35, 36, 37, 38])
    (.seq (.seq (.reg [⟨(some 39), .mv (.t 0), none⟩,
      ⟨(some 40), .mv (.t 8), none⟩,
      ⟨(some 41), .call (.t 39) [(.t 40)], none⟩,
      ⟨(some 42), .not (.t 41), none⟩] [8, 39, 40, 41])
    (.cond (.t 42)
     .ret
     .skip))
    (.reg [⟨(some 43), .load false 1 (.t 2), none⟩,
      ⟨(some 44), .mv (.t 7), none⟩,
      ⟨(some 45), .load false 1 (.t 1), none⟩,
      ⟨(some 46), .len true (.t 45), none⟩,
      ⟨(some 47), .bin .add (.t 44) (.t 46), none⟩,
      ⟨(some 48), .slcS (.t 43) (some (.t 47)) none, none⟩,
      ⟨none, .store 1 (.t 2) (.t 48), none⟩] [7, 43, 44, 45, 46, 47, 48]))))))))
 (.reg [⟨(some 49), .mv (.t 0), none⟩,
   ⟨(some 50), .load false 1 (.t 2), none⟩,
   ⟨(some 51), .call (.t 49) [(.t 50)], none⟩] [0, 2, 49, 50, 51])))
theorem fn_strings_splitSeq_1 : FnIs Tryd.prog 105 52 [] strings_splitSeq_1 :=
  ⟨Tryd.f105, _, kl_strings_splitSeq_1, Tryd.func105, rfl, rfl, by kernel_rfl, by kernel_rfl, Tryd.call105⟩
def kl_strings_Index : Nat → List Nat := fun
  | 0 => [4]
  | 1 => [0, 1, 5, 6, 7]
  | _ => []
def strings_Index : IR :=
 (.seq (.reg [⟨(some 4), .mv (.c (.i .i64 (.l 0))), none⟩] [4])
 (.seq (.reg [⟨(some 5), .mv (.t 0), none⟩,
   ⟨(some 6), .mv (.t 1), none⟩,
   ⟨(some 7), .call (.c (.fn (.func 108) [] [])) [(.t 5), (.t 6)], none⟩,
   ⟨(some 4), .mv (.t 7), none⟩] [0, 1, 5, 6, 7])
 .ret))
theorem fn_strings_Index : FnIs Tryd.prog 107 8 [.t 4] strings_Index :=
  ⟨Tryd.f107, _, kl_strings_Index, Tryd.func107, rfl, rfl, by kernel_rfl, by kernel_rfl, Tryd.call107⟩
def kl_stringslite_Index : Nat → List Nat := fun
  | 0 => [4]
  | 1 => [14, 15]
  | 2 => [17, 18, 19, 20, 21, 22, 23]
  | 4 => [25, 26]
  | 5 => [0, 1, 27, 28, 29, 30]
  | 6 => [32, 33, 34, 35]
  | 8 => [37, 38, 39, 40, 41, 42, 43, 44]
  | 9 => [0, 1, 45, 46, 47]
  | 10 => [48, 49]
  | 11 => [50, 51]
  | 13 => [52, 53, 54, 55, 56]
  | 15 => [57, 58]
  | 16 => [60, 61, 62, 63]
  | 17 => [65, 66, 67, 68, 69, 70, 71]
  | 18 => [72]
  | 20 => [11, 74, 75, 76, 77]
  | 21 => [78, 79, 80, 81, 82, 83, 84, 85, 86, 87, 88, 89, 90, 91, 92]
  | 22 => [8, 94]
  | 23 => [95, 96]
  | 24 => [97, 98]
  | 25 => [99, 100, 101, 102, 103, 104, 105, 106]
  | 26 => [0, 1, 108, 109, 110, 111, 112]
  | 27 => [113]
  | 28 => [8, 12, 115, 116, 117]
  | 30 => [118, 119, 120, 121, 122, 123, 124, 125, 126, 127, 128, 129, 130, 131]
  | 31 => [0, 1, 133, 134, 135, 136, 137]
  | 32 => [138]
  | 34 => [8, 13, 140, 141, 142]
  | _ => []
def stringslite_Index : IR :=
 (.seq (.reg [⟨(some 4), .mv (.c (.i .i64 (.l 0))), none⟩] [4])
 (.seq (.reg [⟨(some 14), .mv (.t 1), none⟩,
   ⟨(some 15), .len true (.t 14), none⟩,
   ⟨(some 5), .mv (.t 15), none⟩] [14, 15])
 (.seq (.block 0 (.seq (.reg [⟨(some 17), .mv (.t 5), none⟩,
    ⟨(some 18), .bin .eq (.t 17) (.c (.i .i64 (.l 0))), none⟩,
    ⟨(some 19), .mv (.t 18), none⟩,
    ⟨(some 20), .mv (.t 1), (some (19, false))⟩,
    ⟨(some 21), .mv (.t 0), (some (19, false))⟩,
    ⟨(some 22), .bin .eq (.t 20) (.t 21), (some (19, false))⟩,
    ⟨(some 23), .pick (.t 19) (.c .tt) (.t 22), none⟩,
    ⟨(some 16), .mv (.t 23), none⟩] [17, 18, 19, 20, 21, 22, 23])
  (.cond (.t 16)
   (.seq (.reg [⟨(some 4), .mv (.c (.i .i64 (.l 0))), none⟩] [])
   .ret)
   (.seq (.reg [⟨(some 25), .mv (.t 5), none⟩,
     ⟨(some 26), .bin .eq (.t 25) (.c (.i .i64 (.l 1))), none⟩,
     ⟨(some 24), .mv (.t 26), none⟩] [25, 26])
   (.cond (.t 24)
    (.seq (.reg [⟨(some 27), .mv (.t 0), none⟩,
      ⟨(some 28), .mv (.t 1), none⟩,
      ⟨(some 29), .ixS (.t 28) (.c (.i .i64 (.l 0))), none⟩,
      ⟨(some 30), .call (.c (.fn (.func 116) [] [])) [(.t 27), (.t 29)], none⟩,
      ⟨(some 4), .mv (.t 30), none⟩] [0, 1, 27, 28, 29, 30])
    .ret)
    (.seq (.reg [⟨(some 32), .mv (.t 5), none⟩,
      ⟨(some 33), .mv (.t 0), none⟩,
      ⟨(some 34), .len true (.t 33), none⟩,
      ⟨(some 35), .bin .ge (.t 32) (.t 34), none⟩,
      ⟨(some 31), .mv (.t 35), none⟩] [32, 33, 34, 35])
    (.cond (.t 31)
     (.seq (.reg [⟨(some 4), .mv (.c (.i .i64 (.l (-1)))), none⟩] [])
     .ret)
     (.seq (.reg [⟨(some 37), .mv (.t 5), none⟩,
       ⟨(some 38), .load false 1 (.c .any), none⟩,
       ⟨(some 39), .bin .le (.t 37) (.t 38), none⟩,
       ⟨(some 40), .mv (.t 39), none⟩,
       ⟨(some 41), .mv (.t 0), (some (40, true))⟩,
       ⟨(some 42), .len true (.t 41), (some (40, true))⟩,
       ⟨(some 43), .bin .le (.t 42) (.c (.i .i64 (.l 64))), (some (40, true))⟩,
       ⟨(some 44), .pick (.t 40) (.t 43) (.c .ff), none⟩,
       ⟨(some 36), .mv (.t 44), none⟩] [37, 38, 39, 40, 41, 42, 43, 44])
     (.cond (.t 36)
      (.seq (.reg [⟨(some 45), .mv (.t 0), none⟩,
        ⟨(some 46), .mv (.t 1), none⟩,
        ⟨(some 47), .call (.c (.fn (.func 117) [] [])) [(.t 45), (.t 46)], none⟩,
        ⟨(some 4), .mv (.t 47), none⟩] [0, 1, 45, 46, 47])
      .ret)
      .skip)))))))))
 (.seq (.reg [⟨(some 48), .mv (.t 1), none⟩,
   ⟨(some 49), .ixS (.t 48) (.c (.i .i64 (.l 0))), none⟩,
   ⟨(some 6), .mv (.t 49), none⟩] [48, 49])
 (.seq (.reg [⟨(some 50), .mv (.t 1), none⟩,
   ⟨(some 51), .ixS (.t 50) (.c (.i .i64 (.l 1))), none⟩,
   ⟨(some 7), .mv (.t 51), none⟩] [50, 51])
 (.seq (.reg [⟨(some 8), .mv (.c (.i .i64 (.l 0))), none⟩] [])
 (.seq (.reg [⟨(some 52), .mv (.t 0), none⟩,
   ⟨(some 53), .len true (.t 52), none⟩,
   ⟨(some 54), .mv (.t 5), none⟩,
   ⟨(some 55), .bin .sub (.t 53) (.t 54), none⟩,
   ⟨(some 56), .bin .add (.t 55) (.c (.i .i64 (.l 1))), none⟩,
   ⟨(some 9), .mv (.t 56), none⟩] [52, 53, 54, 55, 56])
 (.seq (.reg [⟨(some 10), .mv (.c (.i .i64 (.l 0))), none⟩] [])
 (.seq (.block 1 (.loop (.seq (.seq (.reg [⟨(some 57), .mv (.t 8), none⟩,
     ⟨(some 58), .mv (.t 9), none⟩,
     ⟨(some 59), .bin .lt (.t 57) (.t 58), none⟩] [57, 58])
   (.cond (.t 59)
    .skip
    (.exit 1)))
   (.block 2 (.seq (.seq (.reg [⟨(some 60), .mv (.t 0), none⟩,
      ⟨(some 61), .mv (.t 8), none⟩,
      ⟨(some 62), .ixS (.t 60) (.t 61), none⟩,
      ⟨(some 63), .mv (.t 6), none⟩,
      ⟨(some 64), .bin .ne (.t 62) (.t 63), none⟩] [60, 61, 62, 63])
    (.cond (.t 64)
     (.seq (.reg [⟨(some 65), .mv (.t 0), none⟩,
       ⟨(some 66), .mv (.t 8), none⟩,
       ⟨(some 67), .bin .add (.t 66) (.c (.i .i64 (.l 1))), none⟩,
       ⟨(some 68), .mv (.t 9), none⟩,
       ⟨(some 69), .slcS (.t 65) (some (.t 67)) (some (.t 68)), none⟩,
       ⟨(some 70), .mv (.t 6), none⟩,
       ⟨(some 71), .call (.c (.fn (.func 116) [] [])) [(.t 69), (.t 70)], none⟩,
       ⟨(some 11), .mv (.t 71), none⟩] [65, 66, 67, 68, 69, 70, 71])
     (.seq (.seq (.reg [⟨(some 72), .mv (.t 11), none⟩,
       ⟨(some 73), .bin .lt (.t 72) (.c (.i .i64 (.l 0))), none⟩] [72])
     (.cond (.t 73)
      (.seq (.reg [⟨(some 4), .mv (.c (.i .i64 (.l (-1)))), none⟩] [])
      .ret)
      .skip))
     (.reg [⟨(some 74), .mv (.t 8), none⟩,
       ⟨(some 75), .mv (.t 11), none⟩,
       ⟨(some 76), .bin .add (.t 75) (.c (.i .i64 (.l 1))), none⟩,
       ⟨(some 77), .bin .add (.t 74) (.t 76), none⟩,
       ⟨(some 8), .mv (.t 77), none⟩] [11, 74, 75, 76, 77])))
     .skip))
    (.seq (.seq (.reg [⟨(some 78), .mv (.t 0), none⟩,
      ⟨(some 79), .mv (.t 8), none⟩,
      ⟨(some 80), .bin .add (.t 79) (.c (.i .i64 (.l 1))), none⟩,
      ⟨(some 81), .ixS (.t 78) (.t 80), none⟩,
      ⟨(some 82), .mv (.t 7), none⟩,
      ⟨(some 83), .bin .eq (.t 81) (.t 82), none⟩,
      ⟨(some 84), .mv (.t 83), none⟩,
      ⟨(some 85), .mv (.t 0), (some (84, true))⟩,
      ⟨(some 86), .mv (.t 8), (some (84, true))⟩,
      ⟨(some 87), .mv (.t 8), (some (84, true))⟩,
      ⟨(some 88), .mv (.t 5), (some (84, true))⟩,
      ⟨(some 89), .bin .add (.t 87) (.t 88), (some (84, true))⟩,
      ⟨(some 90), .slcS (.t 85) (some (.t 86)) (some (.t 89)), (some (84, true))⟩,
      ⟨(some 91), .mv (.t 1), (some (84, true))⟩,
      ⟨(some 92), .bin .eq (.t 90) (.t 91), (some (84, true))⟩,
      ⟨(some 93), .pick (.t 84) (.t 92) (.c .ff), none⟩] [78, 79, 80, 81, 82, 83, 84, 85, 86, 87, 88, 89, 90, 91, 92])
    (.cond (.t 93)
     (.seq (.reg [⟨(some 94), .mv (.t 8), none⟩,
       ⟨(some 4), .mv (.t 94), none⟩] [8, 94])
     .ret)
     .skip))
    (.seq (.reg [⟨(some 95), .mv (.t 8), none⟩,
      ⟨(some 96), .bin .add (.t 95) (.c (.i .i64 (.l 1))), none⟩,
      ⟨(some 8), .mv (.t 96), none⟩] [95, 96])
    (.seq (.reg [⟨(some 97), .mv (.t 10), none⟩,
      ⟨(some 98), .bin .add (.t 97) (.c (.i .i64 (.l 1))), none⟩,
      ⟨(some 10), .mv (.t 98), none⟩] [97, 98])
    (.seq (.reg [⟨(some 99), .mv (.t 5), none⟩,
      ⟨(some 100), .load false 1 (.c .any), none⟩,
      ⟨(some 101), .bin .le (.t 99) (.t 100), none⟩,
      ⟨(some 102), .mv (.t 101), none⟩,
      ⟨(some 103), .mv (.t 10), (some (102, true))⟩,
      ⟨(some 104), .mv (.t 8), (some (102, true))⟩,
      ⟨(some 105), .call (.c (.fn (.func 118) [] [])) [(.t 104)], (some (102, true))⟩,
      ⟨(some 106), .bin .gt (.t 103) (.t 105), (some (102, true))⟩,
      ⟨(some 107), .pick (.t 102) (.t 106) (.c .ff), none⟩] [99, 100, 101, 102, 103, 104, 105, 106])
    (.cond (.t 107)
     (.seq (.reg [⟨(some 108), .mv (.t 0), none⟩,
       ⟨(some 109), .mv (.t 8), none⟩,
       ⟨(some 110), .slcS (.t 108) (some (.t 109)) none, none⟩,
       ⟨(some 111), .mv (.t 1), none⟩,
       ⟨(some 112), .call (.c (.fn (.func 117) [] [])) [(.t 110), (.t 111)], none⟩,
       ⟨(some 12), .mv (.t 112), none⟩] [0, 1, 108, 109, 110, 111, 112])
     (.seq (.seq (.reg [⟨(some 113), .mv (.t 12), none⟩,
       ⟨(some 114), .bin .ge (.t 113) (.c (.i .i64 (.l 0))), none⟩] [113])
     (.cond (.t 114)
      (.seq (.reg [⟨(some 115), .mv (.t 12), none⟩,
        ⟨(some 116), .mv (.t 8), none⟩,
        ⟨(some 117), .bin .add (.t 115) (.t 116), none⟩,
        ⟨(some 4), .mv (.t 117), none⟩] [8, 12, 115, 116, 117])
      .ret)
      .skip))
     (.seq (.reg [⟨(some 4), .mv (.c (.i .i64 (.l (-1)))), none⟩] [])
     .ret)))
     (.seq (.reg [⟨(some 118), .mv (.t 5), none⟩,
       ⟨(some 119), .load false 1 (.c .any), none⟩,
       ⟨(some 120), .bin .gt (.t 118) (.t 119), none⟩,
       ⟨(some 121), .mv (.t 120), none⟩,
       ⟨(some 122), .mv (.t 10), (some (121, true))⟩,
       ⟨(some 123), .mv (.t 8), (some (121, true))⟩,
       ⟨(some 124), .bin .shr (.t 123) (.c (.i .u64 (.l 4))), (some (121, true))⟩,
       ⟨(some 125), .bin .add (.c (.i .i64 (.l 4))) (.t 124), (some (121, true))⟩,
       ⟨(some 126), .bin .ge (.t 122) (.t 125), (some (121, true))⟩,
       ⟨(some 127), .pick (.t 121) (.t 126) (.c .ff), none⟩,
       ⟨(some 128), .mv (.t 127), none⟩,
       ⟨(some 129), .mv (.t 8), (some (128, true))⟩,
       ⟨(some 130), .mv (.t 9), (some (128, true))⟩,
       ⟨(some 131), .bin .lt (.t 129) (.t 130), (some (128, true))⟩,
       ⟨(some 132), .pick (.t 128) (.t 131) (.c .ff), none⟩] [118, 119, 120, 121, 122, 123, 124, 125, 126, 127, 128, 129, 130, 131])
     (.cond (.t 132)
      (.seq (.reg [⟨(some 133), .mv (.t 0), none⟩,
        ⟨(some 134), .mv (.t 8), none⟩,
        ⟨(some 135), .slcS (.t 133) (some (.t 134)) none, none⟩,
        ⟨(some 136), .mv (.t 1), none⟩,
        ⟨(some 137), .call (.c (.fn (.func 119) [] [])) [(.t 135), (.t 136)], none⟩,
        ⟨(some 13), .mv (.t 137), none⟩] [0, 1, 133, 134, 135, 136, 137])
      (.seq (.seq (.reg [⟨(some 138), .mv (.t 13), none⟩,
        ⟨(some 139), .bin .lt (.t 138) (.c (.i .i64 (.l 0))), none⟩] [138])
      (.cond (.t 139)
       (.seq (.reg [⟨(some 4), .mv (.c (.i .i64 (.l (-1)))), none⟩] [])
       .ret)
       .skip))
      (.seq (.reg [⟨(some 140), .mv (.t 8), none⟩,
        ⟨(some 141), .mv (.t 13), none⟩,
        ⟨(some 142), .bin .add (.t 140) (.t 141), none⟩,
        ⟨(some 4), .mv (.t 142), none⟩] [8, 13, 140, 141, 142])
      .ret)))
      .skip))))))))))))
 (.seq (.reg [⟨(some 4), .mv (.c (.i .i64 (.l (-1)))), none⟩] [])
 .ret))))))))))
theorem fn_stringslite_Index : FnIs Tryd.prog 108 143 [.t 4] stringslite_Index :=
  ⟨Tryd.f108, _, kl_stringslite_Index, Tryd.func108, rfl, rfl, by kernel_rfl, by kernel_rfl, Tryd.call108⟩
def kl_stringslite_IndexByte : Nat → List Nat := fun
  | 0 => [4]
  | 1 => [0, 1, 5, 6, 7]
  | _ => []
def stringslite_IndexByte : IR :=
 (.seq (.reg [⟨(some 4), .mv (.c (.i .i64 (.l 0))), none⟩] [4])
 (.seq (.reg [⟨(some 5), .mv (.t 0), none⟩,
   ⟨(some 6), .mv (.t 1), none⟩,
   ⟨(some 7), .call (.c (.fn (.func 124) [] [])) [(.t 5), (.t 6)], none⟩,
   ⟨(some 4), .mv (.t 7), none⟩] [0, 1, 5, 6, 7])
 .ret))
theorem fn_stringslite_IndexByte : FnIs Tryd.prog 116 8 [.t 4] stringslite_IndexByte :=
  ⟨Tryd.f116, _, kl_stringslite_IndexByte, Tryd.func116, rfl, rfl, by kernel_rfl, by kernel_rfl, Tryd.call116⟩
end I
end Cz
set_option linter.unusedSimpArgs false
set_option linter.unusedVariables false
namespace Hu
def valB : List Bool → Nat := List.foldl (fun n b => 2 * n + b.toNat) 0
def bitsN : Nat → Nat → List Bool
  | 0, _ => []
  | m + 1, n => bitsN m (n / 2) ++ [n % 2 == 1]
theorem fold_valB : ∀ (l : List Bool) (a : Nat), l.foldl (fun n b => 2 * n + b.toNat) a = a * 2 ^ l.length + valB l
  | [], a => by simp [valB]
  | b :: l, a => by
    simp only [List.foldl_cons, valB, List.length_cons]
    rw [fold_valB l, fold_valB l (2 * 0 + b.toNat), Nat.pow_succ]
    generalize 2 ^ l.length = q
    have : (2 * a + b.toNat) * q = a * (q * 2) + (2 * 0 + b.toNat) * q := by
      rw [Nat.add_mul, Nat.mul_zero, Nat.zero_add, Nat.mul_comm 2 a, Nat.mul_assoc, Nat.mul_comm 2 q]
    omega
theorem valB_append (l m : List Bool) : valB (l ++ m) = valB l * 2 ^ m.length + valB m := by
  simp only [valB, List.foldl_append]
  exact fold_valB m _
theorem valB_snoc (l : List Bool) (b : Bool) : valB (l ++ [b]) = 2 * valB l + b.toNat := by
  rw [valB_append]; simp [valB]; omega
theorem bitsN_snoc (l : List Bool) (b : Bool) : bitsN (l.length + 1) (valB (l ++ [b])) = bitsN l.length (valB l) ++ [b] := by
  rw [bitsN, valB_snoc]
  have h1 : (2 * valB l + b.toNat) / 2 = valB l := by cases b <;> simp only [Bool.toNat_true, Bool.toNat_false] <;> omega
  have h2 : ((2 * valB l + b.toNat) % 2 == 1) = b := by cases b <;> simp <;> omega
  rw [h1, h2]
theorem bitsN_valB (l : List Bool) : bitsN l.length (valB l) = l := by
  suffices ∀ (r : List Bool), bitsN r.reverse.length (valB r.reverse) = r.reverse by simpa using this l.reverse
  intro r
  induction r with
  | nil => rfl
  | cons b r ih =>
    rw [List.reverse_cons, show (r.reverse ++ [b]).length = r.reverse.length + 1 by simp, bitsN_snoc, ih]
def bl (l : List Int) : List Bool := l.flatMap fun v => bitsN 8 v.toNat
def packs : Nat → List Bool → List Int
  | 0, _ => []
  | n + 1, bs => (valB (bs.take 8) : Int) :: packs n (bs.drop 8)
def pack (bs : List Bool) : List Int := packs (bs.length / 8) bs
theorem packs_len : ∀ (n : Nat) (bs : List Bool), (packs n bs).length = n
  | 0, _ => rfl
  | n + 1, bs => by simp [packs, packs_len n]
def five : List Nat := [45, 47, 48, 49, 50, 51, 97, 99, 101, 105, 110, 111, 114, 115, 116, 117]
def six : List Nat := [46, 52, 53, 54, 55, 56, 57, 58, 98, 100, 102, 103, 104, 108, 109, 112]
def seven : List Nat := [65, 66, 67, 68, 69, 70, 71, 72, 106, 107, 113, 118, 119, 120, 121, 122]
def cls (c : Nat) : Nat := if five.contains c then 5 else if six.contains c then 6 else if seven.contains c then 7 else 11
def cnt (m c : Nat) : Nat := ((List.range c).filter fun x => cls x == m).length
def base (m : Nat) : Nat := if m = 5 then 0 else if m = 6 then 32 else if m = 7 then 96 else 1792
def codeOf (c : Nat) : Nat := base (cls c) + cnt (cls c) c
def find (code many : Nat) : Option Nat := (List.range 256).find? fun c => codeOf c == code && cls c == many
theorem find_some {code many c : Nat} (h : find code many = some c) : c < 256 ∧ codeOf c = code ∧ cls c = many := by
  have h1 := List.find?_some h
  have h2 := List.mem_of_find?_eq_some h
  simp only [Bool.and_eq_true, beq_iff_eq] at h1
  exact ⟨by simpa using h2, h1.1, h1.2⟩
def cod (c : Nat) : List Bool := bitsN (cls c) (codeOf c)
def enc (b : List Int) : List Bool := b.flatMap fun v => cod v.toNat
def at1 (bs : List Bool) (m : Nat) : Option Nat := if m ≤ bs.length then find (valB (bs.take m)) m else none
def sym (bs : List Bool) : Option (Nat × Nat) :=
  match at1 bs 5 with
  | some c => some (c, 5)
  | none => match at1 bs 6 with
    | some c => some (c, 6)
    | none => match at1 bs 7 with
      | some c => some (c, 7)
      | none => match at1 bs 11 with
        | some c => some (c, 11)
        | none => none
theorem at1_some {bs : List Bool} {m c : Nat} (h : at1 bs m = some c) : c < 256 ∧ cls c = m ∧ m ≤ bs.length ∧ bs = cod c ++ bs.drop m := by
  unfold at1 at h
  split at h
  · rename_i hm
    obtain ⟨h1, h2, h3⟩ := find_some h
    refine ⟨h1, h3, hm, ?_⟩
    have h4 := bitsN_valB (bs.take m)
    rw [List.length_take, Nat.min_eq_left hm, ← h2] at h4
    have : cod c = bs.take m := by rw [cod, h3]; exact h4
    rw [this, List.take_append_drop]
  · cases h
theorem sym_some {bs : List Bool} {c m : Nat} (h : sym bs = some (c, m)) : c < 256 ∧ cls c = m ∧ m ≤ bs.length ∧ 5 ≤ m ∧ bs = cod c ++ bs.drop m := by
  unfold sym at h
  repeat' (split at h)
  all_goals first | (cases h; done) | skip
  all_goals (rename_i h1; cases h; obtain ⟨a, b, c, d⟩ := at1_some h1; exact ⟨a, b, c, by omega, d⟩)
def dec (bs : List Bool) : List Int × List Bool :=
  match h : sym bs with
  | some (c, m) => let r := dec (bs.drop m); ((c : Int) :: r.1, r.2)
  | none => ([], bs)
termination_by bs.length
decreasing_by
  obtain ⟨_, _, h1, h2, _⟩ := sym_some h
  simp only [List.length_drop]; omega
def pad (n : Nat) : Nat := (8 - n % 8) % 8
def padded (bs : List Bool) : List Bool := bs ++ List.replicate (pad bs.length) true
def put (b : List Int) : List Int := pack (padded (enc b))
def nbits (b : List Int) : Nat := (enc b).length
def take (d : List Int) : Option (List Int) :=
  let r := dec (bl d)
  if r.2.length ≤ 7 ∧ r.2 = List.replicate r.2.length true then some r.1 else none
theorem padded_len (bs : List Bool) : (padded bs).length = 8 * ((bs.length + 7) / 8) := by
  simp only [padded, List.length_append, List.length_replicate, pad]; omega
theorem put_len (b : List Int) : (put b).length = (nbits b + 7) / 8 := by
  unfold put pack; rw [packs_len, padded_len]; unfold nbits; omega
end Hu
namespace Cz
open Go Go.RowKit Go.Proofs
set_option linter.unusedSimpArgs false
set_option linter.unusedVariables false
set_option maxRecDepth 100000
set_option maxHeartbeats 1000000
def idxI (x : List UInt8) (c : Int) : Int := match (List.range x.length).find? (fun i => x.getD i 0 == c.toNat.toUInt8) with
  | some i => i
  | none => -1
theorem idx_f (x : List UInt8) (c : Int) : (S0 Tryd.prog).call 124 [.s x, .i .u8 (.y c)] [] (fun y _ => Sub y (.i .i64 (.y (idxI x c)))) := by
  intro N W0 ρ W vals hR hd
  obtain ⟨l⟩ := vals
  match l, hd with
  | [u, v], hd =>
    simp only [denL, den, Z.v] at hd
    obtain ⟨rfl, rfl, _⟩ := hd
    have hrun : (callFunc 124 #[.string ⟨x.toArray⟩, .int .u8 c]).run Tryd.prog W = .ok (.value (.int .i64 (idxI x c))) W := by
      have h1 : (Tryd.f124.name == "runtime.NumGoroutine") = false := by decide +kernel
      have h2 : Tryd.f124.body.isNone = true := by kernel_rfl
      have h3 : Extern.findNext Tryd.f124 = none := by kernel_rfl
      have h4 : Extern.find Tryd.f124 = some Extern.BytealgIndexByte.indexByte := by kernel_rfl
      simp only [callFunc, Sem.run_bind, run_program, Result.andThen_ok, Tryd.func124, h1, h2, h3, h4, run_mark, Bool.false_eq_true, if_false, if_true]
      have hs : (ByteArray.mk x.toArray).size = x.length := by show x.toArray.size = _; simp
      have hb : ∀ i, i < x.length → (ByteArray.mk x.toArray)[i]! = x.getD i 0 := by
        intro i hi
        rw [getElem!_pos _ i (by rw [hs]; exact hi), List.getD_eq_getElem?_getD, List.getElem?_eq_getElem hi]
        rfl
      have hf : (List.range (ByteArray.mk x.toArray).size).find? (fun i => (ByteArray.mk x.toArray)[i]! == c.toNat.toUInt8) = (List.range x.length).find? (fun i => x.getD i 0 == c.toNat.toUInt8) := by
        rw [hs]
        have : ∀ (l : List Nat), (∀ i ∈ l, i < x.length) → l.find? (fun i => (ByteArray.mk x.toArray)[i]! == c.toNat.toUInt8) = l.find? (fun i => x.getD i 0 == c.toNat.toUInt8) := by
          intro l
          induction l with
          | nil => intro _; rfl
          | cons i l ih =>
            intro hl
            simp only [List.find?_cons, hb i (hl i (by simp))]
            rw [ih (fun j hj => hl j (by simp [hj]))]
        exact this _ (fun i hi => by simpa using hi)
      have hrun : (Extern.BytealgIndexByte.indexByte #[.string ⟨x.toArray⟩, .int .u8 c]).run Tryd.prog W = .ok (.int .i64 (idxI x c)) W := by
        show (match (List.range (ByteArray.mk x.toArray).size).find? (fun i => (ByteArray.mk x.toArray)[i]! == c.toNat.toUInt8) with
          | some i => (pure (goInt i) : Sem Value)
          | none => pure (goInt (-1))).run Tryd.prog W = _
        rw [hf]
        unfold idxI
        split <;> rfl
      rw [hrun]
      rfl
    rw [hrun]
    exact ⟨ρ, _, [], .rfl, Le.refl _ _, Nat.le_refl _, hR, by simp [den, Z.v]⟩
end Cz
namespace Cz
open Go Go.RowKit Go.Proofs
set_option linter.unusedSimpArgs false
set_option linter.unusedVariables false
end Cz
namespace Cz
open Go Go.RowKit Go.Proofs
set_option linter.unusedSimpArgs false
set_option linter.unusedVariables false
set_option maxRecDepth 100000
set_option maxHeartbeats 4000000
end Cz
namespace Cz
open Go Go.RowKit Go.Proofs
set_option linter.unusedSimpArgs false
set_option linter.unusedVariables false
set_option maxRecDepth 100000
set_option maxHeartbeats 4000000
end Cz
namespace Cz
open Go Go.RowKit Go.Proofs
set_option linter.unusedSimpArgs false
set_option linter.unusedVariables false
set_option maxRecDepth 100000
set_option maxHeartbeats 4000000
theorem SubM.refl : ∀ (es : List (SV × SV)), SubM es es
  | [] => .nil
  | (_, _) :: r => .cons .rfl .rfl (SubM.refl r)
end Cz
namespace Cz
open Go Go.RowKit Go.Proofs
set_option linter.unusedSimpArgs false
set_option linter.unusedVariables false
set_option maxRecDepth 100000
set_option maxHeartbeats 4000000
def findO (a m : Int) : Option Nat := if 0 ≤ a ∧ 0 ≤ m then Hu.find a.toNat m.toNat else none
def findR (a m : Int) : Int := match findO a m with | some c => c | none => 0
end Cz
namespace Cz
open Go Go.RowKit Go.Proofs
set_option linter.unusedSimpArgs false
set_option linter.unusedVariables false
namespace Tb
abbrev Fd := List UInt8 × List UInt8
def stL : List Fd :=
   [([58, 109, 101, 116, 104, 111, 100], [71, 69, 84]),
    ([58, 109, 101, 116, 104, 111, 100], [80, 79, 83, 84]),
    ([58, 112, 97, 116, 104], [47]),
    ([58, 115, 99, 104, 101, 109, 101], [104, 116, 116, 112]),
    ([58, 115, 99, 104, 101, 109, 101], [104, 116, 116, 112, 115]),
    ([58, 115, 116, 97, 116, 117, 115], [50, 48, 48]),
    ([58, 115, 116, 97, 116, 117, 115], [50, 48, 52]),
    ([58, 115, 116, 97, 116, 117, 115], [52, 48, 52]),
    ([58, 115, 116, 97, 116, 117, 115], [53, 48, 48]),
    ([97, 99, 99, 101, 112, 116], []),
    ([99, 111, 110, 116, 101, 110, 116, 45, 108, 101, 110, 103, 116, 104], []),
    ([99, 111, 110, 116, 101, 110, 116, 45, 116, 121, 112, 101], []),
    ([99, 111, 111, 107, 105, 101], []),
    ([100, 97, 116, 101], []),
    ([104, 111, 115, 116], []),
    ([108, 111, 99, 97, 116, 105, 111, 110], []),
    ([112, 114, 105, 111, 114, 105, 116, 121], []),
    ([112, 114, 105, 111, 114, 105, 116, 121], [117, 61, 49]),
    ([115, 101, 114, 118, 101, 114], []),
    ([117, 115, 101, 114, 45, 97, 103, 101, 110, 116], [])]
def lineL : List (List UInt8) :=
   [[58, 109, 101, 116, 104, 111, 100, 32, 71, 69, 84],
    [58, 109, 101, 116, 104, 111, 100, 32, 80, 79, 83, 84],
    [58, 112, 97, 116, 104, 32, 47],
    [58, 115, 99, 104, 101, 109, 101, 32, 104, 116, 116, 112],
    [58, 115, 99, 104, 101, 109, 101, 32, 104, 116, 116, 112, 115],
    [58, 115, 116, 97, 116, 117, 115, 32, 50, 48, 48],
    [58, 115, 116, 97, 116, 117, 115, 32, 50, 48, 52],
    [58, 115, 116, 97, 116, 117, 115, 32, 52, 48, 52],
    [58, 115, 116, 97, 116, 117, 115, 32, 53, 48, 48],
    [97, 99, 99, 101, 112, 116],
    [99, 111, 110, 116, 101, 110, 116, 45, 108, 101, 110, 103, 116, 104],
    [99, 111, 110, 116, 101, 110, 116, 45, 116, 121, 112, 101],
    [99, 111, 111, 107, 105, 101],
    [100, 97, 116, 101],
    [104, 111, 115, 116],
    [108, 111, 99, 97, 116, 105, 111, 110],
    [112, 114, 105, 111, 114, 105, 116, 121],
    [112, 114, 105, 111, 114, 105, 116, 121, 32, 117, 61, 49],
    [115, 101, 114, 118, 101, 114],
    [117, 115, 101, 114, 45, 97, 103, 101, 110, 116]]
def joinT : List (List UInt8) → List UInt8
  | [] => []
  | [x] => x
  | x :: y :: r => x ++ 10 :: joinT (y :: r)
def remT (j : Nat) : List UInt8 := joinT (lineL.drop j)
def szF (f : Fd) : Int := ilen f.1 + ilen f.2 + 32
theorem szF_pos (f : Fd) : 32 ≤ szF f := by have := ilen_nn f.1; have := ilen_nn f.2; unfold szF; omega
def fullL : List Fd → Int
  | [] => 0
  | f :: r => szF f + fullL r
theorem fullL_nn : ∀ l : List Fd, 0 ≤ fullL l
  | [] => by simp [fullL]
  | f :: r => by have := szF_pos f; have := fullL_nn r; simp only [fullL]; omega
theorem fullL_app : ∀ l m : List Fd, fullL (l ++ m) = fullL l + fullL m
  | [], m => by simp [fullL]
  | f :: r, m => by simp only [List.cons_append, fullL, fullL_app r m]; omega
theorem fullL_len : ∀ l : List Fd, 32 * ilen l ≤ fullL l
  | [] => by simp [fullL, ilen]
  | f :: r => by have := szF_pos f; have := fullL_len r; simp only [fullL, ilen, List.length_cons] at *; omega
theorem full_next {l : List Fd} {i : Int} {f : Fd} (h : l[i.toNat]? = some f) (h0 : 0 ≤ i) : fullL (l.take (i + 1).toNat) = fullL (l.take i.toNat) + szF f := by
  rw [take_next h h0, fullL_app]; simp [fullL]
theorem full_take (l : List Fd) (n : Nat) : fullL (l.take n) ≤ fullL l := by
  conv => rhs; rw [← List.take_append_drop n l]
  rw [fullL_app]
  have := fullL_nn (l.drop n); omega
theorem full_at {l : List Fd} {i : Nat} {f : Fd} (h : l[i]? = some f) : szF f ≤ fullL l := by
  have h1 := full_take l (i + 1)
  have h2 := full_next (i := i) (by simpa using h) (by omega)
  have h3 := fullL_nn (l.take i)
  rw [show ((i : Int) + 1).toNat = i + 1 by omega] at h2
  simp only [Int.toNat_natCast] at h2
  omega
def rightL (mx : Int) (l : List Fd) : Bool := decide (0 ≤ mx ∧ mx ≤ 4096 ∧ fullL l ≤ mx)
def evN (mx : Int) (l : List Fd) : Nat → Nat
  | 0 => 0
  | n + 1 => if fullL (l.take (n + 1)) ≤ mx then n + 1 else evN mx l n
def evL (mx : Int) (l : List Fd) : List Fd := l.take (evN mx l l.length)
theorem evN_le (mx : Int) (l : List Fd) : ∀ n, evN mx l n ≤ n
  | 0 => Nat.le_refl _
  | n + 1 => by
    simp only [evN]
    split
    · exact Nat.le_refl _
    · exact Nat.le_succ_of_le (evN_le mx l n)
theorem evN_stop {mx : Int} {l : List Fd} {n : Nat} (h : fullL (l.take n) ≤ mx) : evN mx l n = n := by
  cases n with
  | zero => rfl
  | succ n => rw [evN, if_pos h]
theorem evN_next {mx : Int} {l : List Fd} {n : Nat} (h : ¬fullL (l.take (n + 1)) ≤ mx) : evN mx l (n + 1) = evN mx l n := by rw [evN, if_neg h]
abbrev Tab := Int × List Fd
def newR (most : Int) : Tab × Int := if most < 0 ∨ 4096 < most then ((0, []), 2) else ((most, []), 0)
def addR (t : Tab) (f : Fd) : Tab × Int := if rightL t.1 t.2 then ((t.1, evL t.1 (f :: t.2)), 0) else ((0, []), 2)
def resR (t : Tab) (most : Int) : Tab × Int := if rightL t.1 t.2 = true ∧ 0 ≤ most ∧ most ≤ 4096 then ((most, evL most t.2), 0) else ((0, []), 2)
def allF (l : List Fd) : List Fd := stL ++ l
def atR (l : List Fd) (i : Int) : Fd × Int := if i < 1 then (([], []), 90) else match (allF l)[(i - 1).toNat]? with
  | some f => (f, 0)
  | none => (([], []), 90)
def fstI (p : Fd → Bool) : List Fd → Int → Int
  | [], _ => 0
  | x :: r, i => if p x then i else fstI p r (i + 1)
def findR (l : List Fd) (f : Fd) : Int × Bool :=
  if fstI (fun x => x == f) (allF l) 1 ≠ 0 then (fstI (fun x => x == f) (allF l) 1, true) else (fstI (fun x => x.1 == f.1) (allF l) 1, false)
theorem stL_len : stL.length = 20 := rfl
theorem line_facts : ∀ j : Fin 20, idxI (remT j.val) 10 = (if j.val < 19 then ilen (lineL.getD j.val []) else -1) ∧
    (remT j.val).take (lineL.getD j.val []).length = lineL.getD j.val [] ∧ (j.val < 19 → (remT j.val).drop ((lineL.getD j.val []).length + 1) = remT (j.val + 1)) ∧ (j.val = 19 → remT j.val = lineL.getD j.val []) ∧
    (if idxI (lineL.getD j.val []) 32 < 0 then stL.getD j.val ([], []) = (lineL.getD j.val [], []) else
      stL.getD j.val ([], []) = ((lineL.getD j.val []).take (idxI (lineL.getD j.val []) 32).toNat, (lineL.getD j.val []).drop ((idxI (lineL.getD j.val []) 32).toNat + 1))) ∧ ilen (lineL.getD j.val []) ≤ 20 ∧ ilen (remT j.val) ≤ 300 ∧ idxI (lineL.getD j.val []) 32 < ilen (lineL.getD j.val []) := by
  decide +kernel
end Tb
end Cz
namespace Cz
open Go Go.RowKit Go.Proofs
set_option linter.unusedSimpArgs false
set_option linter.unusedVariables false
set_option maxRecDepth 100000
set_option maxHeartbeats 4000000
namespace Tb
def fdE (f : Fd) : List SV := [.s f.1, .s f.2]
def cellsF (l : List Fd) : List SV := l.flatMap fdE
theorem cellsF_plain (l : List Fd) : plains (cellsF l) = true := plains_flat (fun _ => rfl) l
theorem cellsF_len (l : List Fd) : (cellsF l).length = l.length * 2 := flat_len (enc := fdE) (fun _ => rfl) l
def tabV (mx : Int) (l : List Fd) : SV := .ag [.i .i64 (.y mx), .v false 2 (cellsF l) (.y (ilen l))]
theorem cells_take (l : List Fd) (n : Nat) : (cellsF l).take (n * 2) = cellsF (l.take n) := by
  induction l generalizing n with
  | nil => simp [cellsF]
  | cons f l ih =>
    cases n with
    | zero => simp [cellsF]
    | succ n =>
      have := ih n
      simp only [cellsF, List.flatMap_cons, fdE, List.take_succ_cons] at this ⊢
      rw [show (n + 1) * 2 = n * 2 + 1 + 1 by omega]
      simp only [List.cons_append, List.nil_append, List.take_succ_cons]
      rw [this]
theorem row_tab {l' : List Blk} {g : Nat → Nat} {ks : List (Option Nat)} {k : Nat} {len : Z} {cap : Option Z} {lit : Bool} {st : Z} {F : List SV} {lit' : Bool} {n : Z} {l : List Fd} {m : Nat} (hB : l'[k]? = some (.r false lit st 2 F)) (hk : kpOf ks k = none)
    (hF : F = cellsF l) (hm : len.v = m) (hn : len.v = n.v) : Fz l' g ks (.sl k 2 (.l 0) len cap) (.v lit' 2 (cellsF (l.take m)) n) := by
  refine fz_row hB hk ?_ (cellsF_plain _) hn
  rw [hF, show (Z.l 0).v.toNat * 2 = 0 from rfl, List.drop_zero, show len.v.toNat = m by omega, cells_take]
inductive TabC (bl : List Blk) : List SV → Int → List Fd → Prop where
  | v {z n : Z} {lit : Bool} {F : List SV} {mx : Int} {l : List Fd} (hz : z.v = mx) (hF : cellsF l = F) (hn : n.v = ilen l) : TabC bl [.i .i64 z, .v lit 2 F n] mx l
  | nil {z : Z} {mx : Int} (hz : z.v = mx) : TabC bl [.i .i64 z, .re (.slice none 0 0)] mx []
  | row {z n st : Z} {k : Nat} {lit : Bool} {cap : Option Z} {F : List SV} {mx : Int} {l l0 : List Fd} (hz : z.v = mx) (hB : lget bl k = .r false lit st 2 F) (hF : cellsF l0 = F) (hl : l = l0.take n.v.toNat) (hn : n.v = ilen l) : TabC bl [.i .i64 z, .sl k 2 (.l 0) n cap] mx l
theorem TabC.fz {bl : List Blk} {cs : List SV} {mx : Int} {l : List Fd} (h : TabC bl cs mx l) {g : Nat → Nat} : FzL bl g [] [.ag cs] [tabV mx l] := by
  cases h with
  | v hz hF hn => exact .cons (.ag (.cons (.sub (sub_i hz) rfl) (.cons (.sub (sub_v hF.symm hn) rfl) .nil))) .nil
  | nil hz => exact .cons (.ag (.cons (.sub (sub_i hz) rfl) (.cons (.sub (sub_nv (by decide) rfl rfl) rfl) .nil))) .nil
  | @row z n st k lit cap F mx l l0 hz hB hF hl hn =>
    subst hl
    refine .cons (.ag (.cons (.sub (sub_i hz) rfl) (.cons (row_tab (lget_some hB (by simp)) rfl hF.symm ?_ hn) .nil))) .nil
    have := ilen_nn (l0.take n.v.toNat)
    omega
theorem TabC.sub {cs : List SV} {mx : Int} {l : List Fd} (h : TabC [] cs mx l) : SubL [.ag cs] [tabV mx l] := by
  cases h with
  | v hz hF hn => exact .cons (sub_ag (.cons (sub_i hz) (.cons (sub_v hF.symm hn) .nil))) .nil
  | nil hz => exact .cons (sub_ag (.cons (sub_i hz) (.cons (sub_nv (by decide) rfl rfl) .nil))) .nil
  | row hz hB hF hl hn => simp [lget] at hB
theorem rowF {S : Sy} (hS : S0 Tryd.prog = S) {l : List Fd} {F : List SV} (hF : cellsF l = F) {q : Int} {a b : List UInt8} {K : SV → Prop} (hv : l[q.toNat]? = some (a, b)) (h0 : 0 ≤ q) (h : K (.ag [.s a, .s b])) : S.rd F q 2 0 2 true K :=
  s_rowp hS (enc := fdE) hF hv (fun _ => rfl) h0 (Nat.le_refl _) rfl h
theorem rowF1 {S : Sy} (hS : S0 Tryd.prog = S) {l : List Fd} {F : List SV} (hF : cellsF l = F) {q : Int} {a b : List UInt8} {K : SV → Prop} (hv : l[q.toNat]? = some (a, b)) (h0 : 0 ≤ q) (h : K (.s a)) : S.rd F q 2 0 1 false K :=
  s_rowp hS (enc := fdE) hF hv (fun _ => rfl) h0 (by decide) rfl h
theorem rowF2 {S : Sy} (hS : S0 Tryd.prog = S) {l : List Fd} {F : List SV} (hF : cellsF l = F) {q : Int} {a b : List UInt8} {K : SV → Prop} (hv : l[q.toNat]? = some (a, b)) (h0 : 0 ≤ q) (h : K (.s b)) : S.rd F q 2 1 1 false K :=
  s_rowp hS (enc := fdE) hF hv (fun _ => rfl) h0 (by decide) rfl h
theorem size_f {a b : List UInt8} {n : Int} (hn : n = szF (a, b)) (h : n ≤ 1000000000) : (S0 Tryd.prog).call 22 [.ag [.s a, .s b]] [] (fun y _ => Sub y (.i .i64 (.y n))) := by
  generalize hS : S0 Tryd.prog = S
  have g1 := ilen_nn a
  have g2 := ilen_nn b
  have hn' : n = ilen a + ilen b + 32 := hn
  refine call_in' hS I.fn_table_Size ?_
  cbv
  repeat' (first
    | (refine s_st hS ?_; try cbv)
    | (refine s_sbr hS ?_ ?_ <;> intro h <;> (try cbv) <;> try exact s_ab h)
    | (refine s_sta hS ?_; intro _ _; try cbv)
    | (refine s_stc hS ?_; try cbv)
    | (refine s_stl hS ?_; intro _ _; try cbv)
    | (refine s_chl hS ?_; try cbv)
    | fail)
  refine sub_i ?_
  simp only [Z.v]; omega
section
variable {S : Sy} {bl : List Blk} {K : SV → List Blk → Prop}
theorem size_u (hS : S0 Tryd.prog = S) {a b : List UInt8} (h : szF (a, b) ≤ 1000000000) (hK : ∀ n, n = szF (a, b) → K (.i .i64 (.y n)) bl) : S.call 22 [.ag [.s a, .s b]] bl K :=
  use_val hS (size_f rfl h) .rfl rfl rfl (hK _ rfl)
end
theorem full_f {mx : Int} {l : List Fd} {n : Int} (hn : n = fullL l) (h : n ≤ 100000000) : (S0 Tryd.prog).call 24 [tabV mx l] [] (fun y _ => Sub y (.i .i64 (.y n))) := by
  generalize hF : cellsF l = F
  obtain ⟨m, hm⟩ : ∃ m, m = ilen l := ⟨_, rfl⟩
  have hlen := fullL_len l
  have h0 := ilen_nn l
  unfold tabV
  rw [hF, ← hm]
  generalize hS : S0 Tryd.prog = S
  refine call_in' hS I.fn_table_Full ?_
  cbv
  refine s_loop_up hS 1 I.dead_table_Full_0 (fun x : Int × Int => 0 ≤ x.1 ∧ x.1 ≤ m ∧ x.2 = fullL (l.take x.1.toNat)) (fun x => [(2, .i .i64 (.y x.2)), (8, .i .i64 (.y x.1))]) (fun _ => []) (fun x => (m - x.1).toNat) (0, 0) rfl
    ⟨⟨Int.le_refl _, by omega, rfl⟩, rfl, ?_, ?_, by cbv⟩ ?_
  · cbv; all_goals exact s_sA
  · cbv; all_goals exact s_bA
  intro x
  obtain ⟨i, s⟩ := x
  intro hx
  dsimp only at hx
  cbv
  obtain ⟨k0, k1, k2⟩ := hx
  have hs0 := fullL_nn (l.take i.toNat)
  have hs1 := full_take l i.toNat
  rw [← k2] at hs0 hs1
  refine s_sbr hS ?_ ?_ <;> intro h <;> cbv
  · obtain ⟨⟨a, b⟩, hp⟩ := at_ex (l := l) (i := i) (by omega) k0
    have hsz := full_at hp
    have hsp := szF_pos (a, b)
    have hnx := full_next hp k0
    rw [← k2] at hnx
    have hs2 := full_take l (i + 1).toNat
    repeat' (first
      | (refine s_st hS ?_; try cbv)
      | (refine s_sbr hS ?_ ?_ <;> intro h <;> (try cbv) <;> try exact s_ab h)
      | (refine s_sta hS ?_; intro _ _; try cbv)
      | (refine s_stc hS ?_; try cbv)
      | (refine s_stl hS ?_; intro _ _; try cbv)
      | (refine s_chl hS ?_; try cbv)
      | (refine rowF hS hF hp (by omega) ?_; cbv)
      | (refine size_u hS (by omega) fun n1 hn1 => ?_; cbv)
      | fail)
    rename_i s2 hs2 i2 hi2
    refine ⟨(i2, s2), by dsimp only; omega, ⟨by dsimp only; omega, by dsimp only; omega, by dsimp only; rw [hs2, hi2, hnx]; omega⟩, rfl, ?_, ?_, by cbv⟩
    · cbv; all_goals exact s_sA
    · cbv; all_goals exact s_bA
  · refine sub_i ?_
    simp only [Z.v]; rw [hn, k2, take_all (by omega)]
section
variable {S : Sy} {bl : List Blk} {K : SV → List Blk → Prop} {cs : List SV} {mx : Int} {l : List Fd}
theorem full_u (hS : S0 Tryd.prog = S) (hc : TabC bl cs mx l) (h : fullL l ≤ 100000000) (hK : ∀ n, n = fullL l → K (.i .i64 (.y n)) bl) : S.call 24 [.ag cs] bl K :=
  use_tmp hS (full_f rfl h) hc.fz rfl rfl (hK _ rfl)
end
theorem right_f {mx : Int} {l : List Fd} {t : Bool} (ht : rightL mx l = t) (hb : fullL l ≤ 100000000) : (S0 Tryd.prog).call 26 [tabV mx l] [] (fun y _ => Sub y (.b t)) := by
  generalize hF : cellsF l = F
  obtain ⟨m, hm⟩ : ∃ m, m = ilen l := ⟨_, rfl⟩
  unfold tabV
  rw [hF, ← hm]
  generalize hS : S0 Tryd.prog = S
  refine call_in' hS I.fn_table_Right ?_
  cbv
  refine s_draw hS rfl I.ord_table_Right_0 (by decide +kernel) ?_
  cbv
  repeat' (first
    | (refine s_st hS ?_; try cbv)
    | (refine s_sbr hS ?_ ?_ <;> intro h <;> (try cbv) <;> try exact s_ab h)
    | (refine s_sta hS ?_; intro _ _; try cbv)
    | (refine s_stc hS ?_; try cbv)
    | (refine s_stl hS ?_; intro _ _; try cbv)
    | (refine s_chl hS ?_; try cbv)
    | (refine And.intro rfl ?_; try cbv)
    | (refine full_u hS (.v rfl hF hm) hb fun n1 hn1 => ?_; cbv)
    | fail)
  all_goals first | refine sub_b ?_ | refine sub_tt ?_ | refine sub_ff ?_
  all_goals (rw [← ht]; simp only [← hS, Int.ofNat_eq_natCast, cr, rightL, decide_eq_true_eq, decide_eq_false_iff_not, decide_eq_decide] at *; omega)
section
variable {S : Sy} {bl : List Blk} {K : SV → List Blk → Prop} {cs : List SV} {mx : Int} {l : List Fd}
theorem right_u (hS : S0 Tryd.prog = S) (hc : TabC bl cs mx l) (h : fullL l ≤ 100000000) (h1 : rightL mx l = true → K .tt bl) (h2 : rightL mx l = false → K .ff bl) : S.call 26 [.ag cs] bl K := by
  refine use_tmp hS (call_lit (right_f rfl h)) hc.fz rfl (by cases rightL mx l <;> rfl) ?_
  cases hr : rightL mx l
  · exact h2 hr
  · exact h1 hr
end
theorem tabS {cs : List SV} {mx e : Int} {l : List Fd} {z : Z} (hc : TabC [] cs mx l) (he : z.v = e) : Sub (.tp [.ag cs, .i .i64 z]) (.tp [tabV mx l, .i .i64 (.y e)]) := by
  match hc.sub with
  | .cons h1 _ => exact sub_tp (.cons h1 (.cons (sub_i he) .nil))
theorem tell_tab {bl : List Blk} {cs : List SV} {mx e n : Int} {l : List Fd} {F : List SV} {z : Z} (hF : cellsF l = F) (hn : n = ilen l) (he : z.v = e) (hc : TabC bl cs mx l) : Tell (.tp [.ag [.i .i64 (.y mx), .v false 2 F (.y n)], .i .i64 (.y e)]) (.tp [.ag cs, .i .i64 z]) bl := by
  subst hF hn
  exact fun g => match hc.fz (g := g) with
    | .cons h1 _ => .tp (.cons h1 (.cons (.sub (sub_i he) rfl) .nil))
    | .fsub h hp => by simp [tabV, plains, plainV] at hp
theorem new_f {most mx e : Int} {l : List Fd} (hr : newR most = ((mx, l), e)) : (S0 Tryd.prog).call 19 [.i .i64 (.y most)] [] (fun y _ => Sub y (.tp [tabV mx l, .i .i64 (.y e)])) := by
  unfold newR at hr
  generalize hS : S0 Tryd.prog = S
  refine call_in' hS I.fn_table_New ?_
  cbv
  repeat' (first
    | (refine s_st hS ?_; try cbv)
    | (refine s_sbr hS ?_ ?_ <;> intro h <;> (try cbv) <;> try exact s_ab h)
    | (refine s_sta hS ?_; intro _ _; try cbv)
    | (refine s_stc hS ?_; try cbv)
    | (refine s_stl hS ?_; intro _ _; try cbv)
    | (refine s_chl hS ?_; try cbv)
    | fail)
  all_goals first
    | (rw [if_pos (by omega)] at hr; cases hr; exact tabS (.nil rfl) rfl)
    | (rw [if_neg (by omega)] at hr; cases hr; exact tabS (.nil rfl) rfl)
section
variable {S : Sy} {bl : List Blk} {K : SV → List Blk → Prop}
theorem new_u (hS : S0 Tryd.prog = S) {most : Z} (h1 : most.v < 0 ∨ 4096 < most.v → K (.tp [.ag [.i .i64 (.y 0), .v false 2 [] (.y 0)], .i .i64 (.l 2)]) bl) (h2 : 0 ≤ most.v → most.v ≤ 4096 → K (.tp [.ag [.i .i64 (.y most.v), .v false 2 [] (.y 0)], .i .i64 (.l 0)]) bl) :
    S.call 19 [.i .i64 most] bl K := by
  by_cases h : most.v < 0 ∨ 4096 < most.v
  · exact use_val hS (sv := .tp [.ag [.i .i64 (.y 0), .v false 2 [] (.y 0)], .i .i64 (.l 2)]) (call_post (new_f (most := most.v) (by unfold newR; rw [if_pos h])) fun x _ hx => ⟨x, .rfl, hx.trans (sub_tp (.cons .rfl (.cons (sub_i rfl) .nil)))⟩) (.cons (sub_i rfl) .nil) rfl rfl (h1 h)
  · exact use_val hS (sv := .tp [.ag [.i .i64 (.y most.v), .v false 2 [] (.y 0)], .i .i64 (.l 0)]) (call_post (new_f (most := most.v) (by unfold newR; rw [if_neg h])) fun x _ hx => ⟨x, .rfl, hx.trans (sub_tp (.cons .rfl (.cons (sub_i rfl) .nil)))⟩) (.cons (sub_i rfl) .nil) rfl rfl (h2 (by omega) (by omega))
end
theorem first2 : ∀ i, i < 2 → ([some 0, some 1] : List (Option Nat))[i]? = some (some i)
  | 0, _ => rfl
  | 1, _ => rfl
  | n + 2, h => by omega
theorem ev_pos {mx k : Int} {l : List Fd} (h0 : 0 ≤ mx) (h : mx < fullL (l.take k.toNat)) : 1 ≤ k := by
  rcases Int.lt_or_le k 1 with h1 | h1
  · rw [show k.toNat = 0 by omega] at h
    simp [fullL] at h
    omega
  · exact h1
theorem ev_end {mx k m e : Int} {l : List Fd} (hm : m = ilen l) (he : e = ilen (evL mx l)) (k0 : 0 ≤ k) (k1 : k ≤ m) (kev : evN mx l m.toNat = evN mx l k.toNat) (h : ¬mx < fullL (l.take k.toNat)) : k = e := by
  have h1 : evN mx l k.toNat = k.toNat := evN_stop (by omega)
  have h2 : m.toNat = l.length := by rw [hm]; unfold ilen; omega
  rw [he]
  unfold evL
  rw [← h2, kev, h1]
  unfold ilen at *
  rw [List.length_take]
  omega
theorem ev_step {mx k r : Int} {l : List Fd} {m : Int} (hr : r = k - 1) (k1 : 1 ≤ k) (kev : evN mx l m.toNat = evN mx l k.toNat) (h : mx < fullL (l.take k.toNat)) : evN mx l m.toNat = evN mx l r.toNat := by
  rw [kev, show k.toNat = r.toNat + 1 by omega]
  exact evN_next (by rw [show r.toNat + 1 = k.toNat by omega]; omega)
theorem evict_f {mx : Int} {l : List Fd} {F : List SV} {st : Int} (hF : cellsF l = F) (h0 : 0 ≤ mx) (hb : fullL l ≤ 100000000) :
    (S0 Tryd.prog).call 56 [.p 0 0] [.c [.i .i64 (.y mx), .sl 1 2 (.l 0) (.y (ilen l)) none], .r false false (.y st) 2 F]
      (PostB 2 (fun _ g => [.c [.i .i64 (.y mx), .sl (g 1) 2 (.l 0) (.y (ilen (evL mx l))) none], .r false false (.y st) 2 F]) (fun _ => .any)) := by
  obtain ⟨m, hm⟩ : ∃ m, m = ilen l := ⟨_, rfl⟩
  obtain ⟨e, he⟩ : ∃ e, e = ilen (evL mx l) := ⟨_, rfl⟩
  have hm0 := ilen_nn l
  have hlen := fullL_len l
  have hpl := cellsF_plain l
  rw [hF] at hpl
  rw [← hm, ← he]
  generalize hS : S0 Tryd.prog = S
  have fin : ∀ k : Int, k = e → PostB 2 (fun _ g => [.c [.i .i64 (.y mx), .sl (g 1) 2 (.l 0) (.y e) none], .r false false (.y st) 2 F]) (fun _ => .any) (.tp []) [.c [.i .i64 (.y mx), .sl 1 2 (.l 0) (.y k) none], .r false false (.y st) 2 F] := by
    rintro k rfl
    exact ⟨[some 0, some 1], fun _ => 0, first2, fun g => ⟨⟨⟨_, rfl, rfl, .c (.cons (.sub .rfl rfl) (.cons (.keep (i := 1) rfl rfl rfl) .nil))⟩, rfl, ⟨_, rfl, rfl, .r .rfl hpl rfl⟩, rfl, trivial⟩, .sub sub_any rfl⟩⟩
  refine call_in' hS I.fn_table_evict ?_
  cbv
  refine full_u hS (.row rfl rfl hF (l := l) (by simp [Z.v, hm, ilen]) (by simp [Z.v, hm])) hb fun f hf0 => ?_
  cbv
  have hf : f = fullL (l.take m.toNat) := by rw [hf0, take_all (by omega)]
  repeat' (first
    | (refine s_st hS ?_; try cbv)
    | (refine s_sbr hS ?_ ?_ <;> intro h <;> (try cbv) <;> try exact s_ab h)
    | (refine s_sta hS ?_; intro _ _; try cbv)
    | (refine s_stc hS ?_; try cbv)
    | (refine s_stl hS ?_; intro _ _; try cbv)
    | (refine s_chl hS ?_; try cbv)
    | fail)
  · have k1 := ev_pos h0 (hf ▸ h)
    rename_i r hr
    obtain ⟨⟨a, b⟩, hp⟩ := at_ex (l := l) (i := r) (by omega) (by omega)
    have hnx := full_next hp (by omega)
    rw [show r + 1 = m by omega, ← hf] at hnx
    have hn0 := fullL_nn (l.take r.toNat)
    have hsp := szF_pos (a, b)
    repeat' (first
      | (refine s_st hS ?_; try cbv)
      | (refine s_sbr hS ?_ ?_ <;> intro h <;> (try cbv) <;> try exact s_ab h)
      | (refine s_sta hS ?_; intro _ _; try cbv)
      | (refine s_stc hS ?_; try cbv)
      | (refine s_stl hS ?_; intro _ _; try cbv)
      | (refine s_chl hS ?_; try cbv)
      | (refine rowF hS hF hp (by omega) ?_; cbv)
      | (refine size_u hS (by omega) fun n1 hn1 => ?_; cbv)
      | fail)
    rename_i f2 hf2
    refine s_jump_up hS 2 [1, 3, 4, 5, 6, 7, 8, 9, 10, 11, 12, 13, 14, 15, 16, 17, 18, 19, 20, 21, 22, 23, 24, 25, 26, 27, 28, 29, 30, 31, 32, 33, 34, 35, 36, 37, 38]
      (fun x : Int × Int => 0 ≤ x.1 ∧ x.1 ≤ m ∧ x.2 = fullL (l.take x.1.toNat) ∧ evN mx l m.toNat = evN mx l x.1.toNat)
      (fun x => [(2, .i .i64 (.y x.2))]) (fun x => [(0, .c [.i .i64 (.y mx), .sl 1 2 (.l 0) (.y x.1) none])]) (fun x => x.1.toNat) (r, f2) rfl rfl
      ⟨⟨by dsimp only; omega, by dsimp only; omega, by dsimp only; omega, ev_step hr k1 rfl (hf ▸ h)⟩, rfl, ?_, ?_, by cbv⟩ ?_
    · cbv; all_goals exact s_sA
    · cbv; all_goals exact s_bA
    intro x
    obtain ⟨k, g⟩ := x
    intro hx
    dsimp only at hx
    cbv
    obtain ⟨j0, j1, j2, j3⟩ := hx
    repeat' (first
      | (refine s_st hS ?_; try cbv)
      | (refine s_sbr hS ?_ ?_ <;> intro h <;> (try cbv) <;> try exact s_ab h)
      | (refine s_sta hS ?_; intro _ _; try cbv)
      | (refine s_stc hS ?_; try cbv)
      | (refine s_stl hS ?_; intro _ _; try cbv)
      | (refine s_chl hS ?_; try cbv)
      | fail)
    · have k1 := ev_pos h0 (j2 ▸ h)
      rename_i r2 hr2
      obtain ⟨⟨a2, b2⟩, hp2⟩ := at_ex (l := l) (i := r2) (by omega) (by omega)
      have hnx2 := full_next hp2 (by omega)
      rw [show r2 + 1 = k by omega, ← j2] at hnx2
      have hn02 := fullL_nn (l.take r2.toNat)
      have hsp2 := szF_pos (a2, b2)
      have hgf := full_take l k.toNat
      rw [← j2] at hgf
      repeat' (first
        | (refine s_st hS ?_; try cbv)
        | (refine s_sbr hS ?_ ?_ <;> intro h <;> (try cbv) <;> try exact s_ab h)
        | (refine s_sta hS ?_; intro _ _; try cbv)
        | (refine s_stc hS ?_; try cbv)
        | (refine s_stl hS ?_; intro _ _; try cbv)
        | (refine s_chl hS ?_; try cbv)
        | (refine rowF hS hF hp2 (by omega) ?_; cbv)
        | (refine size_u hS (by omega) fun n2 hn2 => ?_; cbv)
        | fail)
      rename_i f3 hf3
      refine ⟨(r2, f3), by dsimp only; omega, ⟨by dsimp only; omega, by dsimp only; omega, by dsimp only; omega, ev_step hr2 k1 j3 (j2 ▸ h)⟩, rfl, ?_, ?_, by cbv⟩
      · cbv; all_goals exact s_sA
      · cbv; all_goals exact s_bA
    · exact fin _ (ev_end hm he j0 j1 j3 (by rw [← j2]; exact h))
  · exact fin _ (ev_end hm he (by omega) (by omega) rfl (by rw [← hf]; exact h))
section
variable {S : Sy} {bl : List Blk} {K : SV → List Blk → Prop}
theorem evict_u (hS : S0 Tryd.prog = S) {p k : Nat} {z n : Z} {mx : Int} {l : List Fd} {lit : Bool} {st : Z} {F : List SV} (hF : cellsF l = F) (h0 : 0 ≤ mx) (hb : fullL l ≤ 100000000)
    (hK : ∀ e, e = ilen (evL mx l) → K .any (lset (lset bl p (.c [.i .i64 (.y mx), .sl k 2 (.l 0) (.y e) none])) k (.r false false (.y st.v) 2 F)))
    (hp : lget bl p = .c [.i .i64 z, .sl k 2 (.l 0) n none] := by rfl) (hk : lget bl k = .r false lit st 2 F := by rfl) (hne : nodupN [p, k] = true := by rfl) (hz : z.v = mx := by rfl) (hn : n.v = ilen l := by first | assumption | (simp only [Z.v]; omega)) : S.call 56 [.p p 0] bl K := by
  refine use_box hS [p, k] (evict_f (st := st.v) hF h0 hb) rfl hne .rfl ⟨?_, ?_, trivial⟩ rfl fun sts => hK _ rfl
  · simp only [fOf, hp]
    exact .c (.cons (sub_i hz) (.cons (sub_sl rfl (by simpa [Z.v] using hn)) .nil)) rfl
  · simp only [fOf, hk]
    exact .r .rfl (hF ▸ cellsF_plain l) rfl
end
end Tb
end Cz
namespace Cz
open Go Go.RowKit Go.Proofs
set_option linter.unusedSimpArgs false
set_option linter.unusedVariables false
set_option maxRecDepth 100000
set_option maxHeartbeats 4000000
namespace Tb
theorem clone_f {l : List Fd} {F : List SV} {n : Int} (hF : cellsF l = F) (hn : n = ilen l) (hb : n ≤ 100000000) : (S0 Tryd.prog).call 58 [.v false 2 F (.y n)] [] (Kept [(2, F)] (fun m => .sl m 2 (.l 0) (.y n) none)) := by
  have hpl : plains F = true := hF ▸ cellsF_plain l
  have hlen : (ilen F : Int) = n * 2 := by rw [← hF, hn]; have := cellsF_len l; unfold ilen; omega
  have h0 := ilen_nn l
  generalize hS : S0 Tryd.prog = S
  refine call_in' hS I.fn_slices_Clone_api_Field_ ?_
  cbv
  refine s_nil hS (fun h => ?_) ?_
  · cbv
    have : F = [] := by rw [← hF, List.eq_nil_of_length_eq_zero (l := l) (by unfold ilen at hn; omega)]; rfl
    exact ⟨[none], ⟨this, trivial⟩, fun m => .nilk (i := 0) rfl rfl h⟩
  · cbv
    repeat' (first
      | (refine s_st hS ?_; try cbv)
      | (refine s_sbr hS ?_ ?_ <;> intro h <;> (try cbv) <;> try exact s_ab h)
      | (refine s_sta hS ?_; intro _ _; try cbv)
      | (refine s_stc hS ?_; try cbv)
      | (refine s_stl hS ?_; intro _ _; try cbv)
      | (refine s_chl hS ?_; try cbv)
      | fail)
    refine ⟨[some 0], ⟨⟨_, _, _, rfl, ?_⟩, rfl, trivial⟩, fun m => .keep (i := 0) rfl rfl ?_⟩
    · subst hS; exact .rfl
    · rfl
section
variable {S : Sy} {bl : List Blk} {K : SV → List Blk → Prop}
theorem clone_u (hS : S0 Tryd.prog = S) {x : SV} {l : List Fd} {n : Int} {F : List SV} (hx : SubL [x] [.v false 2 F (.y n)]) (hF : cellsF l = F) (hn : n = ilen l) (hb : n ≤ 100000000)
    (hK : ∀ st, K (.sl (len bl) 2 (.l 0) (.y n) none) (snoc bl (.r false false (.y st) 2 F))) : S.call 58 [x] bl K :=
  use_kept hS (clone_f hF hn hb) hx rfl ⟨⟨by decide, hF ▸ cellsF_plain l⟩, trivial⟩ fun sts => hK _
end
theorem evL_take (mx : Int) (l : List Fd) : evL mx l = l.take (ilen (evL mx l)).toNat := by
  have := evN_le mx l l.length
  have h : (ilen (evL mx l)).toNat = evN mx l l.length := by unfold ilen evL; rw [List.length_take]; omega
  rw [h]; rfl
def tabE (mx : Int) (l : List Fd) (e : Int) : SV := .tp [tabV mx l, .i .i64 (.y e)]
theorem res_f {mx most mx' e : Int} {l l' : List Fd} (hr : resR (mx, l) most = ((mx', l'), e)) (hb : fullL l ≤ 100000000) :
    (S0 Tryd.prog).call 30 [tabV mx l, .i .i64 (.y most)] [] (Tell (tabE mx' l' e)) := by
  generalize hF : cellsF l = F
  obtain ⟨m, hm⟩ : ∃ m, m = ilen l := ⟨_, rfl⟩
  have hlen := fullL_len l
  have hm0 := ilen_nn l
  unfold tabE tabV
  generalize hF' : cellsF l' = F'
  obtain ⟨m', hm'⟩ : ∃ m, m = ilen l' := ⟨_, rfl⟩
  rw [hF, ← hm, ← hm']
  unfold resR at hr
  dsimp only at hr
  generalize hS : S0 Tryd.prog = S
  refine call_in' hS I.fn_table_Resize ?_
  cbv
  refine new_u hS (fun h1 => ?_) (fun h1 h2 => ?_) <;> cbv <;> dsimp only [Z.v] at *
  · rw [if_neg (by intro h; omega)] at hr
    cases hr
    exact tell_tab hF' hm' rfl (.nil rfl)
  · refine right_u hS (.v rfl hF hm) hb (fun h3 => ?_) (fun h3 => ?_) <;> cbv <;> dsimp only [Z.v] at *
    · rw [if_pos ⟨h3, h1, h2⟩] at hr
      refine clone_u hS .rfl hF hm (by omega) fun st => ?_
      cbv
      refine evict_u hS (mx := most) hF h1 hb fun n1 hn1 => ?_
      cbv
      cases hr
      refine tell_tab hF' hm' rfl (.row rfl rfl hF ?_ hn1)
      dsimp only [Z.v]
      rw [hn1]; exact evL_take _ _
    · rw [if_neg (by intro h; rw [h.1] at h3; cases h3)] at hr
      cases hr
      exact tell_tab hF' hm' rfl (.nil rfl)
theorem add_f {mx mx' e : Int} {l l' : List Fd} {a b : List UInt8} (hr : addR (mx, l) (a, b) = ((mx', l'), e)) (hb : fullL l ≤ 10000000) (hs : szF (a, b) ≤ 10000000) :
    (S0 Tryd.prog).call 28 [tabV mx l, .ag [.s a, .s b]] [] (Tell (tabE mx' l' e)) := by
  generalize hF : cellsF l = F
  obtain ⟨m, hm⟩ : ∃ m, m = ilen l := ⟨_, rfl⟩
  have hlen := fullL_len l
  have hm0 := ilen_nn l
  have hfl : ilen F = m * 2 := by rw [← hF, hm]; have := cellsF_len l; unfold ilen; omega
  unfold tabE tabV
  generalize hF' : cellsF l' = F'
  obtain ⟨m', hm'⟩ : ∃ m, m = ilen l' := ⟨_, rfl⟩
  rw [hF, ← hm, ← hm']
  unfold addR at hr
  dsimp only at hr
  generalize hS : S0 Tryd.prog = S
  refine call_in' hS I.fn_table_Add ?_
  cbv
  refine right_u hS (.v rfl hF hm) (by omega) (fun h3 => ?_) (fun h3 => ?_) <;> cbv <;> dsimp only [Z.v] at *
  · have hmx : 0 ≤ mx := by unfold rightL at h3; have := of_decide_eq_true h3; omega
    rw [if_pos h3] at hr
    repeat' (first
      | (refine s_st hS ?_; try cbv)
      | (refine s_sbr hS ?_ ?_ <;> intro h <;> (try cbv) <;> try exact s_ab h)
      | (refine s_sta hS ?_; intro _ _; try cbv)
      | (refine s_stc hS ?_; try cbv)
      | (refine s_stl hS ?_; intro _ _; try cbv)
      | (refine s_chl hS ?_; try cbv)
      | fail)
    have e1 : S.app [.s a, .s b] F = cellsF ((a, b) :: l) := by subst hS; rw [← hF]; rfl
    have e2 : S.pl 1 m = ilen ((a, b) :: l) := by subst hS; rw [hm]; simp only [pl_eq]; simp [ilen]; omega
    have e3 : fullL ((a, b) :: l) = szF (a, b) + fullL l := rfl
    refine evict_u hS (mx := mx) (l := (a, b) :: l) e1.symm hmx (by omega) fun n1 hn1 => ?_
    cbv
    cases hr
    refine tell_tab hF' hm' rfl (.row rfl rfl e1.symm ?_ hn1)
    dsimp only [Z.v]
    rw [hn1]; exact evL_take _ _
  · rw [if_neg (by rw [h3]; simp)] at hr
    cases hr
    exact tell_tab hF' hm' rfl (.nil rfl)
end Tb
end Cz
namespace Cz
open Go Go.RowKit Go.Proofs
set_option linter.unusedSimpArgs false
set_option linter.unusedVariables false
set_option maxRecDepth 100000
set_option maxHeartbeats 4000000
namespace Tb
theorem take_ne {l k : List Fd} {i : Int} {x y : Fd} (hx : l[i.toNat]? = some x) (hy : k[i.toNat]? = some y) (h : x ≠ y) : ¬l = k := by
  intro e; subst e; rw [hx] at hy; cases hy; exact h rfl
theorem take_eq_next {l k : List Fd} {i : Int} {x : Fd} (h0 : 0 ≤ i) (hx : l[i.toNat]? = some x) (hy : k[i.toNat]? = some x) (h : l.take i.toNat = k.take i.toNat) : l.take (i + 1).toNat = k.take (i + 1).toNat := by
  rw [take_next hx h0, take_next hy h0, h]
theorem fields_f {l k : List Fd} {t : Bool} (ht : decide (l = k) = t) (h1 : ilen l ≤ 100000000) (h2 : ilen k ≤ 100000000) : (S0 Tryd.prog).call 37 [.v false 2 (cellsF l) (.y (ilen l)), .v false 2 (cellsF k) (.y (ilen k))] [] (fun y _ => Sub y (.b t)) := by
  generalize hF : cellsF l = F
  generalize hG : cellsF k = G
  obtain ⟨m, hm⟩ : ∃ m, m = ilen l := ⟨_, rfl⟩
  obtain ⟨n, hn⟩ : ∃ n, n = ilen k := ⟨_, rfl⟩
  have h3 := ilen_nn l
  have h4 := ilen_nn k
  rw [← hm] at h1 h3 ⊢
  rw [← hn] at h2 h4 ⊢
  generalize hS : S0 Tryd.prog = S
  refine call_in' hS I.fn_causeyref09_Fields ?_
  cbv
  refine s_sbr hS ?_ ?_ <;> intro h <;> cbv
  · have e : t = false := by rw [← ht]; exact decide_eq_false (fun e => by subst e; omega)
    all_goals exact s_sA
  refine s_loop_up hS 0 I.dead_causeyref09_Fields_0 (fun x : Int => 0 ≤ x ∧ x ≤ m ∧ l.take x.toNat = k.take x.toNat) (fun x => [(5, .i .i64 (.y x))]) (fun _ => []) (fun x => (m - x).toNat) 0 rfl
    ⟨⟨Int.le_refl _, by omega, rfl⟩, rfl, ?_, ?_, by cbv⟩ ?_
  · cbv; all_goals exact s_sA
  · cbv; all_goals exact s_bA
  intro i hx
  cbv
  obtain ⟨k0, k1, k2⟩ := hx
  refine s_br hS ?_ ?_ <;> intro h' <;> cbv <;> simp only [← hS, Int.ofNat_eq_natCast, cq, Bool.not_eq_true', Bool.not_eq_false', decide_eq_true_eq, decide_eq_false_iff_not, beq_iff_eq, beq_eq_false_iff_ne, ne_eq] at h'
  · obtain ⟨⟨a, b⟩, hp⟩ := at_ex (l := l) (i := i) (by omega) k0
    obtain ⟨⟨c, d⟩, hq⟩ := at_ex (l := k) (i := i) (by omega) k0
    refine s_draw hS rfl I.ord_causeyref09_Fields_0 (by decide +kernel) ?_
    cbv
    repeat' (first
      | (refine s_st hS ?_; try cbv)
      | (refine s_sbr hS ?_ ?_ <;> intro h <;> (try cbv) <;> try exact s_ab h)
      | (refine s_sta hS ?_; intro _ _; try cbv)
      | (refine s_stc hS ?_; try cbv)
      | (refine s_stl hS ?_; intro _ _; try cbv)
      | (refine s_chl hS ?_; try cbv)
      | (refine And.intro rfl ?_; try cbv)
      | (refine rowF hS hF hp (by omega) ?_; cbv)
      | (refine rowF hS hG hq (by omega) ?_; cbv)
      | fail)
    · have he : (a, b) = (c, d) := by congr
      rename_i r hr
      refine ⟨r, by omega, ⟨by omega, by omega, ?_⟩, rfl, ?_, ?_, by cbv⟩
      · rw [hr]; exact take_eq_next k0 (he ▸ hp) hq k2
      · cbv; all_goals exact s_sA
      · cbv; all_goals exact s_bA
    all_goals
      have e : t = false := by rw [← ht]; exact decide_eq_false (take_ne hp hq (by intro e; cases e; simp_all))
      all_goals exact s_sA
  · have e : t = true := by rw [← ht]; exact decide_eq_true (by rwa [take_all (by omega), take_all (by omega)] at k2)
    all_goals exact s_sA
theorem equal_f {l k : List Fd} {t : Bool} (ht : decide (l = k) = t) (h1 : ilen l ≤ 100000000) (h2 : ilen k ≤ 100000000) : (S0 Tryd.prog).call 60 [.v false 2 (cellsF l) (.y (ilen l)), .v false 2 (cellsF k) (.y (ilen k))] [] (fun y _ => Sub y (.b t)) := by
  generalize hF : cellsF l = F
  generalize hG : cellsF k = G
  obtain ⟨m, hm⟩ : ∃ m, m = ilen l := ⟨_, rfl⟩
  obtain ⟨n, hn⟩ : ∃ n, n = ilen k := ⟨_, rfl⟩
  have h3 := ilen_nn l
  have h4 := ilen_nn k
  rw [← hm] at h1 h3 ⊢
  rw [← hn] at h2 h4 ⊢
  generalize hS : S0 Tryd.prog = S
  refine call_in' hS I.fn_slices_Equal_api_Field_ ?_
  cbv
  refine s_sbr hS ?_ ?_ <;> intro h <;> cbv
  · have e : t = false := by rw [← ht]; exact decide_eq_false (fun e => by subst e; omega)
    all_goals exact s_sA
  refine s_loop_up hS 0 I.dead_slices_Equal_api_Field__0 (fun x : Int => 0 ≤ x ∧ x ≤ m ∧ l.take x.toNat = k.take x.toNat) (fun x => [(12, .i .i64 (.y m)), (13, .i .i64 (.y x))]) (fun _ => []) (fun x => (m - x).toNat) 0 rfl
    ⟨⟨Int.le_refl _, by omega, rfl⟩, rfl, ?_, ?_, by cbv⟩ ?_
  · cbv; all_goals exact s_sA
  · cbv; all_goals exact s_bA
  intro i hx
  cbv
  obtain ⟨k0, k1, k2⟩ := hx
  refine s_br hS ?_ ?_ <;> intro h' <;> cbv <;> simp only [← hS, Int.ofNat_eq_natCast, cq, Bool.not_eq_true', Bool.not_eq_false', decide_eq_true_eq, decide_eq_false_iff_not, beq_iff_eq, beq_eq_false_iff_ne, ne_eq] at h'
  · obtain ⟨⟨a, b⟩, hp⟩ := at_ex (l := l) (i := i) (by omega) k0
    obtain ⟨⟨c, d⟩, hq⟩ := at_ex (l := k) (i := i) (by omega) k0
    refine s_draw hS rfl I.ord_slices_Equal_api_Field__0 (by decide +kernel) ?_
    cbv
    repeat' (first
      | (refine s_st hS ?_; try cbv)
      | (refine s_sbr hS ?_ ?_ <;> intro h <;> (try cbv) <;> try exact s_ab h)
      | (refine s_sta hS ?_; intro _ _; try cbv)
      | (refine s_stc hS ?_; try cbv)
      | (refine s_stl hS ?_; intro _ _; try cbv)
      | (refine s_chl hS ?_; try cbv)
      | (refine And.intro rfl ?_; try cbv)
      | (refine rowF hS hF hp (by omega) ?_; cbv)
      | (refine rowF hS hG hq (by omega) ?_; cbv)
      | fail)
    · have he : (a, b) = (c, d) := by congr
      rename_i r hr
      refine ⟨r, by omega, ⟨by omega, by omega, ?_⟩, rfl, ?_, ?_, by cbv⟩
      · rw [hr]; exact take_eq_next k0 (he ▸ hp) hq k2
      · cbv; all_goals exact s_sA
      · cbv; all_goals exact s_bA
    all_goals
      have e : t = false := by rw [← ht]; exact decide_eq_false (take_ne hp hq (by intro e; cases e; simp_all))
      all_goals exact s_sA
  · have e : t = true := by rw [← ht]; exact decide_eq_true (by rwa [take_all (by omega), take_all (by omega)] at k2)
    all_goals exact s_sA
section
variable {S : Sy} {bl : List Blk} {K : SV → List Blk → Prop}
theorem fields_u (hS : S0 Tryd.prog = S) {x y : SV} {l k : List Fd} (hc : FzL bl id [] [x, y] [.v false 2 (cellsF l) (.y (ilen l)), .v false 2 (cellsF k) (.y (ilen k))]) (hl : ilen l ≤ 100000000) (hk : ilen k ≤ 100000000) (h1 : l = k → K .tt bl) (h2 : l ≠ k → K .ff bl) :
    S.call 37 [x, y] bl K := by
  by_cases h : l = k
  · exact use_tmp hS (call_lit (fields_f (decide_eq_true h) hl hk)) hc rfl rfl (h1 h)
  · exact use_tmp hS (call_lit (fields_f (decide_eq_false h) hl hk)) hc rfl rfl (h2 h)
theorem equal_u (hS : S0 Tryd.prog = S) {x y : SV} {l k : List Fd} (hc : FzL bl id [] [x, y] [.v false 2 (cellsF l) (.y (ilen l)), .v false 2 (cellsF k) (.y (ilen k))]) (hl : ilen l ≤ 100000000) (hk : ilen k ≤ 100000000) (h1 : l = k → K .tt bl) (h2 : l ≠ k → K .ff bl) :
    S.call 60 [x, y] bl K := by
  by_cases h : l = k
  · exact use_tmp hS (call_lit (equal_f (decide_eq_true h) hl hk)) hc rfl rfl (h1 h)
  · exact use_tmp hS (call_lit (equal_f (decide_eq_false h) hl hk)) hc rfl rfl (h2 h)
end
end Tb
end Cz
namespace Cz
open Go Go.RowKit Go.Proofs
set_option linter.unusedSimpArgs false
set_option linter.unusedVariables false
set_option maxRecDepth 100000
set_option maxHeartbeats 4000000
namespace Tb
theorem same_f {mx my : Int} {l k : List Fd} {t : Bool} (ht : decide (mx = my ∧ l = k) = t) (h1 : ilen l ≤ 100000000) (h2 : ilen k ≤ 100000000) : (S0 Tryd.prog).call 36 [tabV mx l, tabV my k] [] (fun y _ => Sub y (.b t)) := by
  unfold tabV
  generalize hF : cellsF l = F
  generalize hG : cellsF k = G
  obtain ⟨m, hm⟩ : ∃ m, m = ilen l := ⟨_, rfl⟩
  obtain ⟨n, hn⟩ : ∃ n, n = ilen k := ⟨_, rfl⟩
  rw [← hm, ← hn]
  generalize hS : S0 Tryd.prog = S
  refine call_in' hS I.fn_table_Same ?_
  cbv
  refine s_sbr hS ?_ ?_ <;> intro h <;> cbv
  · refine equal_u hS (l := l) (k := k) (.cons (.sub (sub_v hF.symm hm) rfl) (.cons (.sub (sub_v hG.symm hn) rfl) .nil)) h1 h2 (fun he => ?_) (fun he => ?_) <;> cbv
    · have e : t = true := by rw [← ht]; exact decide_eq_true ⟨h, he⟩
      all_goals exact s_sA
    · have e : t = false := by rw [← ht]; exact decide_eq_false fun e => he e.2
      all_goals exact s_sA
  · have e : t = false := by rw [← ht]; exact decide_eq_false fun e => h e.1
    all_goals exact s_sA
def greatL (l : List Fd) : Bool := decide (140 < ilen l ∨ 5000 < fullL l - 32 * ilen l)
def shortL (l : List Fd) : Prop := ∀ f, f ∈ l → ilen f.1 ≤ 140737488355328 ∧ ilen f.2 ≤ 140737488355328
theorem full_short {l : List Fd} (h : shortL l) : fullL l ≤ 281474976710688 * ilen l := by
  induction l with
  | nil => simp [fullL, ilen]
  | cons f l ih =>
    have h1 := h f (List.mem_cons_self ..)
    have h2 := ih fun g hg => h g (List.mem_cons_of_mem _ hg)
    simp only [fullL, szF, ilen, List.length_cons] at *
    omega
theorem great_f {l : List Fd} {t : Bool} (ht : greatL l = t) (hs : shortL l) (hm1 : ilen l ≤ 140737488355328) : (S0 Tryd.prog).call 15 [.v false 2 (cellsF l) (.y (ilen l))] [] (fun y _ => Sub y (.b t)) := by
  generalize hF : cellsF l = F
  obtain ⟨m, hm⟩ : ∃ m, m = ilen l := ⟨_, rfl⟩
  have h0 := ilen_nn l
  unfold greatL at ht
  rw [← hm] at ht h0 hm1 ⊢
  generalize hS : S0 Tryd.prog = S
  refine call_in' hS I.fn_causeyref09_Great ?_
  cbv
  refine s_loop_up hS 0 I.dead_causeyref09_Great_0 (fun x : Int × Int => 0 ≤ x.1 ∧ x.1 ≤ m ∧ x.1 ≤ 141 ∧ x.2 = fullL (l.take x.1.toNat) - 32 * x.1) (fun x => [(3, .i .i64 (.y x.2)), (4, .i .i64 (.y x.1))]) (fun _ => []) (fun x => (m - x.1).toNat) (0, 0) rfl
    ⟨⟨Int.le_refl _, by omega, by omega, rfl⟩, rfl, ?_, ?_, by cbv⟩ ?_
  · cbv; all_goals exact s_sA
  · cbv; all_goals exact s_bA
  intro x
  obtain ⟨i, s⟩ := x
  intro hx
  dsimp only at hx
  cbv
  obtain ⟨k0, k1, k3, k2⟩ := hx
  have hs0 := fullL_len (l.take i.toNat)
  have hs1 := full_short (l := l.take i.toNat) fun f hf => hs f (List.mem_of_mem_take hf)
  have hs2 : ilen (l.take i.toNat) = i := by unfold ilen at hm ⊢; rw [List.length_take]; omega
  rw [hs2] at hs0 hs1
  refine s_sbr hS ?_ ?_ <;> intro h <;> cbv
  · refine s_br hS ?_ ?_ <;> intro h' <;> cbv <;> simp only [← hS, Int.ofNat_eq_natCast, cq, Bool.not_eq_true', Bool.not_eq_false', decide_eq_true_eq, decide_eq_false_iff_not, beq_iff_eq, beq_eq_false_iff_ne, ne_eq] at h'
    · obtain ⟨⟨a, b⟩, hp⟩ := at_ex (l := l) (i := i) (by omega) k0
      have hsz := hs _ (List.mem_of_getElem? hp)
      dsimp only at hsz
      have hsn : szF (a, b) = ilen a + ilen b + 32 := rfl
      have ha := ilen_nn a
      have hb := ilen_nn b
      have hnx := full_next hp k0
      refine s_draw hS rfl I.ord_causeyref09_Great_0 (by decide +kernel) ?_
      cbv
      repeat' (first
        | (refine s_st hS ?_; try cbv)
        | (refine s_sbr hS ?_ ?_ <;> intro h <;> (try cbv) <;> try exact s_ab h)
        | (refine s_sta hS ?_; intro _ _; try cbv)
        | (refine s_stc hS ?_; try cbv)
        | (refine s_stl hS ?_; intro _ _; try cbv)
        | (refine s_chl hS ?_; try cbv)
        | (refine And.intro rfl ?_; try cbv)
        | (refine rowF1 hS hF hp (by omega) ?_; cbv)
        | (refine rowF2 hS hF hp (by omega) ?_; cbv)
        | fail)
      rename_i s1 hs1' s2 hs2' i2 hi2
      refine ⟨(i2, s2), by dsimp only; omega, ⟨by dsimp only; omega, by dsimp only; omega, by dsimp only; omega, by dsimp only; rw [hi2, hnx]; omega⟩, rfl, ?_, ?_, by cbv⟩
      · cbv; all_goals exact s_sA
      · cbv; all_goals exact s_bA
    · have e : t = true := by rw [← ht]; exact decide_eq_true (.inl (by omega))
      repeat' (first
        | (refine s_st hS ?_; try cbv)
        | (refine s_sbr hS ?_ ?_ <;> intro h <;> (try cbv) <;> try exact s_ab h)
        | (refine s_sta hS ?_; intro _ _; try cbv)
        | (refine s_stc hS ?_; try cbv)
        | (refine s_stl hS ?_; intro _ _; try cbv)
        | (refine s_chl hS ?_; try cbv)
        | fail)
      all_goals
        cbv
        all_goals exact s_sA
  · rw [take_all (by omega)] at k2
    repeat' (first
      | (refine s_st hS ?_; try cbv)
      | (refine s_sbr hS ?_ ?_ <;> intro h <;> (try cbv) <;> try exact s_ab h)
      | (refine s_sta hS ?_; intro _ _; try cbv)
      | (refine s_stc hS ?_; try cbv)
      | (refine s_stl hS ?_; intro _ _; try cbv)
      | (refine s_chl hS ?_; try cbv)
      | fail)
    · have e : t = true := by rw [← ht]; exact decide_eq_true (.inl (by omega))
      all_goals exact s_sA
    · refine sub_b ?_
      rw [← ht, ← hS]
      simp only [cq]
      exact decide_eq_decide.2 ⟨fun h => .inr (by omega), fun h => by omega⟩
section
variable {S : Sy} {bl : List Blk} {K : SV → List Blk → Prop} {cs : List SV} {mx my : Int} {l k : List Fd}
theorem great_u (hS : S0 Tryd.prog = S) {x : SV} (hc : FzL bl id [] [x] [.v false 2 (cellsF l) (.y (ilen l))]) (hs : shortL l) (hm : ilen l ≤ 140737488355328) (h1 : 140 < ilen l ∨ 5000 < fullL l - 32 * ilen l → K .tt bl) (h2 : ilen l ≤ 140 → fullL l ≤ 5000 + 32 * ilen l → K .ff bl) :
    S.call 15 [x] bl K := by
  cases h : greatL l with
  | true => exact use_tmp hS (call_lit (great_f h hs hm)) hc rfl rfl (h1 (of_decide_eq_true h))
  | false =>
    have := of_decide_eq_false h
    exact use_tmp hS (call_lit (great_f h hs hm)) hc rfl rfl (h2 (by omega) (by omega))
theorem fz_two {bl : List Blk} {g : Nat → Nat} {x y a b : SV} (hx : FzL bl g [] [x] [a]) (hy : FzL bl g [] [y] [b]) (ha : plainV a = false) (hb : plainV b = false) : FzL bl g [] [x, y] [a, b] := by
  cases hx with
  | cons h1 _ => cases hy with
    | cons h2 _ => exact .cons h1 (.cons h2 .nil)
    | fsub h hp => simp [plains, hb] at hp
  | fsub h hp => simp [plains, ha] at hp
end
end Tb
end Cz
namespace Cz
open Go Go.RowKit Go.Proofs
set_option linter.unusedSimpArgs false
set_option linter.unusedVariables false
set_option maxRecDepth 100000
set_option maxHeartbeats 4000000
namespace Tb
def statR (i : Int) : Fd × Bool := if 1 ≤ i ∧ i ≤ 20 then (stL.getD (i - 1).toNat ([], []), true) else (([], []), false)
theorem stat_ex {i : Int} (h1 : 1 ≤ i) (h2 : i ≤ 20) : ∃ a b, stL[(i - 1).toNat]? = some (a, b) ∧ statR i = ((a, b), true) := by
  have h : (i - 1).toNat < stL.length := by rw [stL_len]; omega
  refine ⟨(stL[(i - 1).toNat]).1, (stL[(i - 1).toNat]).2, List.getElem?_eq_getElem h, ?_⟩
  unfold statR
  rw [if_pos ⟨h1, h2⟩, List.getD_eq_getElem?_getD, List.getElem?_eq_getElem h]; rfl
theorem at_stat {l : List Fd} {i : Int} {a b : List UInt8} (h : statR i = ((a, b), true)) : atR l i = ((a, b), 0) := by
  by_cases hi : 1 ≤ i ∧ i ≤ 20
  · obtain ⟨c, d, hp, hq⟩ := stat_ex hi.1 hi.2
    rw [hq] at h; cases h
    unfold atR allF
    rw [if_neg (by omega), List.getElem?_append_left (by rw [stL_len]; omega), hp]
  · unfold statR at h; rw [if_neg hi] at h; cases h
theorem at_none {l : List Fd} {i : Int} (hi : i < 1 ∨ ilen l ≤ i - 21) : atR l i = (([], []), 90) := by
  unfold atR
  split
  · rfl
  · unfold allF
    unfold ilen at hi
    rw [List.getElem?_eq_none (by rw [List.length_append, stL_len]; omega)]
theorem TabC.fzi {bl : List Blk} {cs : List SV} {mx : Int} {l : List Fd} (h : TabC bl cs mx l) {g : Nat → Nat} {x y : SV} (hx : Sub x y) (hr : refsB (fun _ => false) x = true) : FzL bl g [] [.ag cs, x] [tabV mx l, y] := by
  have h1 := h.fz (g := g)
  cases h1 with
  | cons h1 _ => exact .cons h1 (.cons (.sub hx hr) .nil)
  | fsub h hp => simp [tabV, plains, plainV] at hp
end Tb
end Cz
namespace Cz
open Go Go.RowKit Go.Proofs
set_option linter.unusedSimpArgs false
set_option linter.unusedVariables false
set_option maxRecDepth 100000
set_option maxHeartbeats 4000000
namespace Tb
theorem bidx_u {S : Sy} (hS : S0 Tryd.prog = S) {l : List Blk} {K : SV → List Blk → Prop} {x : List UInt8} {z : Z} {T : Int} (hT : idxI x z.v = T) (h : K (.i .i64 (.y T)) l) : S.call 116 [.s x, .i .u8 z] l K := by
  refine use_val hS (sv := .i .i64 (.y T)) (args' := [.s x, .i .u8 (.y z.v)]) ?_ (.cons .rfl (.cons (sub_i rfl) .nil)) rfl rfl h
  generalize hS : S0 Tryd.prog = S
  refine call_in' hS I.fn_stringslite_IndexByte ?_
  cbv
  refine use_val hS (idx_f x z.v) .rfl rfl rfl ?_
  rw [hT]
  cbv
  exact .rfl
theorem lidx_f (x : List UInt8) (c : UInt8) (hx : ilen x ≤ 140737488355328) : (S0 Tryd.prog).call 108 [.s x, .s [c]] [] (fun y _ => Sub y (.i .i64 (.y (idxI x c.toNat)))) := by
  generalize hT : idxI x c.toNat = T
  generalize hS : S0 Tryd.prog = S
  have h2 : S.sat [c] 0 = c.toNat := by subst hS; rfl
  refine call_in' hS I.fn_stringslite_Index ?_
  cbv
  refine s_sbr hS ?_ ?_ <;> intro h <;> cbv
  · exfalso; simp at h
  refine s_sbr hS ?_ ?_ <;> intro h <;> cbv
  · refine sub_i ?_
    rw [← h] at hT
    simp [idxI] at hT
    exact hT
  refine s_sbr hS ?_ ?_ <;> intro h <;> cbv
  · repeat' (first
    | (refine s_st hS ?_; try cbv)
    | (refine s_sbr hS ?_ ?_ <;> intro h <;> (try cbv) <;> try exact s_ab h)
    | (refine s_sta hS ?_; intro _ _; try cbv)
    | (refine s_stc hS ?_; try cbv)
    | (refine s_stl hS ?_; intro _ _; try cbv)
    | (refine s_chl hS ?_; try cbv)
    | fail)
    refine bidx_u hS (T := T) (by rw [← hT]; exact congrArg (idxI x) h2) ?_
    cbv
    all_goals exact s_sA
  · exfalso; simp at h
theorem lidx_u {S : Sy} (hS : S0 Tryd.prog = S) {l : List Blk} {K : SV → List Blk → Prop} {x : List UInt8} {c : UInt8} {T : Int} (hx : ilen x ≤ 140737488355328) (hT : idxI x c.toNat = T) (h : K (.i .i64 (.y T)) l) : S.call 108 [.s x, .s [c]] l K := by
  subst hT
  exact use_val hS (lidx_f x c hx) .rfl rfl rfl h
theorem sidx_u {S : Sy} (hS : S0 Tryd.prog = S) {l : List Blk} {K : SV → List Blk → Prop} {x : List UInt8} {c : UInt8} {T : Int} (hx : ilen x ≤ 140737488355328) (hT : idxI x c.toNat = T) (h : K (.i .i64 (.y T)) l) : S.call 107 [.s x, .s [c]] l K := by
  refine use_val hS (sv := .i .i64 (.y T)) (args' := [.s x, .s [c]]) ?_ .rfl rfl rfl h
  generalize hS : S0 Tryd.prog = S
  refine call_in' hS I.fn_strings_Index ?_
  cbv
  refine lidx_u hS hx hT ?_
  cbv
  exact .rfl
def cutR (x : List UInt8) : Fd := if idxI x 32 < 0 then (x, []) else (x.take (idxI x 32).toNat, x.drop ((idxI x 32).toNat + 1))
theorem cut_f (x : List UInt8) {a b : List UInt8} (hr : cutR x = (a, b)) (hx : ilen x ≤ 140737488355328) (hi : idxI x 32 < ilen x) : ∃ t : Bool, (S0 Tryd.prog).call 75 [.s x, .s [32]] [] (fun y _ => Sub y (.tp [.s a, .s b, .b t])) := by
  obtain ⟨T, hT⟩ : ∃ T, idxI x 32 = T := ⟨_, rfl⟩
  unfold cutR at hr
  rw [hT] at hr hi
  obtain ⟨t, ht⟩ : ∃ t, t = decide (0 ≤ T) := ⟨_, rfl⟩
  refine ⟨t, ?_⟩
  generalize hS : S0 Tryd.prog = S
  refine call_in' hS I.fn_strings_Cut ?_
  cbv
  refine call_in' hS I.fn_stringslite_Cut ?_
  cbv
  refine lidx_u hS (c := 32) hx hT ?_
  cbv
  refine s_sbr hS ?_ ?_ <;> intro h <;> cbv
  · rw [if_neg (by omega)] at hr
    have hc : ilen ([32] : List UInt8) = 1 := rfl
    have hc2 : (([32] : List UInt8).length : Int) = 1 := rfl
    have hx' : ilen x = x.length := rfl
    refine s_draw hS rfl I.ord_stringslite_Cut_0 (by decide +kernel) ?_
    cbv
    repeat' (first
      | (refine s_st hS ?_; try cbv)
      | (refine s_sbr hS ?_ ?_ <;> intro h <;> (try cbv) <;> try exact s_ab h)
      | (refine s_sta hS ?_; intro _ _; try cbv)
      | (refine s_stc hS ?_; try cbv)
      | (refine s_stl hS ?_; intro _ _; try cbv)
      | (refine s_chl hS ?_; try cbv)
      | (refine And.intro rfl ?_; try cbv)
      | fail)
    cases hr
    rename_i r hr
    have e : t = true := by rw [ht]; exact decide_eq_true h
    have e1 : S.ssub x 0 T = x.take T.toNat := by subst hS; rfl
    have e2 : S.ssub x r (S.slen x) = x.drop (T.toNat + 1) := by
      rw [hr, hc]
      subst hS
      show (x.take x.length).drop (T + 1).toNat = _
      rw [List.take_length, show (T + 1).toNat = T.toNat + 1 by omega]
    rw [← e1, ← e2]
    all_goals exact s_sA
  · rw [if_pos (by omega)] at hr
    cases hr
    have e : t = false := by rw [ht]; exact decide_eq_false h
    all_goals exact s_sA
theorem cut_u {S : Sy} (hS : S0 Tryd.prog = S) {l : List Blk} {K : SV → List Blk → Prop} {x a b : List UInt8} (hr : cutR x = (a, b)) (hx : ilen x ≤ 140737488355328) (hi : idxI x 32 < ilen x) (h : ∀ t, K (.tp [.s a, .s b, .b t]) l) : S.call 75 [.s x, .s [32]] l K := by
  obtain ⟨t, ht⟩ := cut_f x hr hx hi
  exact use_val hS ht .rfl rfl rfl (h t)
theorem line_at {j : Int} (h0 : 0 ≤ j) (h1 : j < 19) : ∃ (L a b : List UInt8), idxI (remT j.toNat) 10 = ilen L ∧ (remT j.toNat).take L.length = L ∧ (remT j.toNat).drop (L.length + 1) = remT (j + 1).toNat ∧ cutR L = (a, b) ∧ stL[j.toNat]? = some (a, b) ∧ ilen L ≤ 20 ∧ ilen (remT j.toNat) ≤ 300 ∧ idxI L 32 < ilen L ∧ ilen L < ilen (remT j.toNat) := by
  have h := line_facts ⟨j.toNat, by omega⟩
  dsimp only at h
  obtain ⟨e1, e2, e3, e4, e5, e6, e7, e8⟩ := h
  have hj : j.toNat < 19 := by omega
  rw [if_pos hj] at e1
  have hs : j.toNat < stL.length := by rw [stL_len]; omega
  have hst : stL[j.toNat]? = some (stL.getD j.toNat ([], [])) := by rw [List.getD_eq_getElem?_getD, List.getElem?_eq_getElem hs]; rfl
  have hL : ilen (lineL.getD j.toNat []) < ilen (remT j.toNat) := by
    have := e3 hj
    have hd := congrArg List.length e2
    rw [List.length_take] at hd
    rcases Nat.lt_or_ge (lineL.getD j.toNat []).length (remT j.toNat).length with h | h
    · unfold ilen; omega
    · exfalso
      rw [List.drop_eq_nil_of_le (by omega)] at this
      have h2 : ∀ k : Fin 20, remT k.val ≠ [] := by decide +kernel
      exact h2 ⟨j.toNat + 1, by omega⟩ this.symm
  refine ⟨lineL.getD j.toNat [], (stL.getD j.toNat ([], [])).1, (stL.getD j.toNat ([], [])).2, e1, e2, ?_, ?_, hst, e6, e7, e8, hL⟩
  · rw [e3 hj]; congr 1; omega
  · unfold cutR
    by_cases h : idxI (lineL.getD j.toNat []) 32 < 0
    · rw [if_pos h] at e5 ⊢; rw [e5]
    · rw [if_neg h] at e5 ⊢; rw [e5]
theorem line_last {j : Int} (h1 : j = 19) : ∃ (a b : List UInt8), idxI (remT j.toNat) 10 = -1 ∧ cutR (remT j.toNat) = (a, b) ∧ stL[j.toNat]? = some (a, b) ∧ ilen (remT j.toNat) ≤ 300 ∧ idxI (remT j.toNat) 32 < ilen (remT j.toNat) := by
  subst h1
  exact ⟨[117, 115, 101, 114, 45, 97, 103, 101, 110, 116], [], by decide +kernel⟩
theorem at_i {l : List Fd} {i j : Int} {a b : List UInt8} (h0 : 0 ≤ j) (h : (allF l)[j.toNat]? = some (a, b)) (hi : i = j + 1) : atR l i = ((a, b), 0) := by
  unfold atR
  rw [if_neg (by omega), show (i - 1).toNat = j.toNat by omega, h]
theorem all_st {l : List Fd} {j : Int} {f : Fd} (h : stL[j.toNat]? = some f) : (allF l)[j.toNat]? = some f := by
  unfold allF
  have := (List.getElem?_eq_some_iff.1 h).1
  rw [List.getElem?_append_left this, h]
theorem all_row {l : List Fd} {j k : Int} (h0 : 0 ≤ j) (hk : k = j + 20) {f : Fd} (h : l[j.toNat]? = some f) : (allF l)[k.toNat]? = some f := by
  unfold allF
  rw [List.getElem?_append_right (by rw [stL_len]; omega), stL_len, show k.toNat - 20 = j.toNat by omega, h]
theorem at_f {mx i e : Int} {l : List Fd} {a b : List UInt8} (hr : atR l i = ((a, b), e)) (hm : ilen l ≤ 100000000) : (S0 Tryd.prog).call 32 [tabV mx l, .i .i64 (.y i)] [] (fun y _ => Sub y (.tp [.ag [.s a, .s b], .i .i64 (.y e)])) := by
  unfold tabV
  generalize hF : cellsF l = F
  obtain ⟨m, hm'⟩ : ∃ m, m = ilen l := ⟨_, rfl⟩
  have h0 := ilen_nn l
  rw [← hm'] at h0 hm ⊢
  generalize hS : S0 Tryd.prog = S
  refine call_in' hS I.fn_table_At ?_
  cbv
  refine call_in' hS I.fn_table_fields ?_
  cbv
  refine rfc_in' hS I.fn_table_fields_1 ?_
  cbv
  refine call_in' hS I.fn_strings_SplitSeq ?_
  cbv
  refine call_in' hS I.fn_strings_splitSeq ?_
  cbv
  refine rfc_in' hS I.fn_strings_splitSeq_1 ?_
  cbv
  refine s_sbr hS ?_ ?_ <;> intro h <;> cbv
  · exfalso; simp at h
  have hc : ilen ([10] : List UInt8) = 1 := rfl
  have hc2 : (([10] : List UInt8).length : Int) = 1 := rfl
  refine s_loop_up hS 14 I.dead_strings_splitSeq_1_0 (fun x : Int × List UInt8 => 0 ≤ x.1 ∧ x.1 ≤ 19 ∧ (i < 1 ∨ x.1 < i) ∧ x.2 = remT x.1.toNat) (fun _ => []) (fun x => [(8, .c [.i .i64 (.y x.1)]), (9, .c [.s x.2])]) (fun x => (19 - x.1).toNat) (0, remT 0) rfl
    ⟨⟨Int.le_refl _, by dsimp only; omega, by dsimp only; omega, rfl⟩, rfl, ?_, ?_, by cbv⟩ ?_
  · cbv; all_goals exact s_sA
  · cbv; all_goals exact s_bA
  intro x
  obtain ⟨j, s⟩ := x
  intro hx
  dsimp only at hx
  cbv
  obtain ⟨k0, k1, k2, k3⟩ := hx
  have hjj : j < 19 ∨ 19 ≤ j := by omega
  rcases hjj with hj | hj
  · obtain ⟨L, c, d, f1, f2, f3, f4, f5, f6, f7, f8, f9⟩ := line_at k0 hj
    rw [← k3] at f1 f2 f3 f7 f9
    refine sidx_u hS (c := 10) (by omega) f1 ?_
    generalize hn : ilen L = n at *
    have hn0 : 0 ≤ n := hn ▸ ilen_nn L
    cbv
    repeat' (first
      | (refine s_st hS ?_; try cbv)
      | (refine s_sbr hS ?_ ?_ <;> intro h <;> (try cbv) <;> try exact s_ab h)
      | (refine s_sta hS ?_; intro _ _; try cbv)
      | (refine s_stc hS ?_; try cbv)
      | (refine s_stl hS ?_; intro _ _; try cbv)
      | (refine s_chl hS ?_; try cbv)
      | (refine s_yld hS rfl rfl ?_; cbv)
      | fail)
    rename_i r1 hr1 j1 hj1
    have e1 : S.ssub s 0 r1 = L := by
      subst hS
      show (s.take r1.toNat).drop 0 = L
      rw [List.drop_zero, show r1.toNat = L.length by unfold ilen at hn; omega, f2]
    refine cut_u hS (x := S.ssub s 0 r1) (a := c) (b := d) (by rw [e1]; exact f4) (by rw [e1]; omega) (by rw [e1, hn]; exact f8) fun t => ?_
    cbv
    repeat' (first
      | (refine s_st hS ?_; try cbv)
      | (refine s_sbr hS ?_ ?_ <;> intro h <;> (try cbv) <;> try exact s_ab h)
      | (refine s_sta hS ?_; intro _ _; try cbv)
      | (refine s_stc hS ?_; try cbv)
      | (refine s_stl hS ?_; intro _ _; try cbv)
      | (refine s_chl hS ?_; try cbv)
      | (refine s_yld hS rfl rfl ?_; cbv)
      | fail)
    · rename_i h
      rw [at_i k0 (all_st f5) (by omega)] at hr
      cases hr
      all_goals exact s_sA
    · rename_i h r2 hr2
      refine ⟨(j1, S.ssub s r2 (S.slen s)), by dsimp only; omega, ⟨by dsimp only; omega, by dsimp only; omega, by dsimp only; omega, ?_⟩, rfl, ?_, ?_, by cbv⟩
      · dsimp only
        rw [hj1, ← f3]
        subst hS
        show (s.take s.length).drop r2.toNat = _
        rw [List.take_length, show r2.toNat = L.length + 1 by unfold ilen at hn; omega]
      · cbv; all_goals exact s_sA
      · cbv; all_goals exact s_bA
  · obtain ⟨c, d, f1, f4, f5, f7, f8⟩ := line_last (j := j) (by omega)
    rw [← k3] at f1 f4 f7 f8
    refine sidx_u hS (c := 10) (by omega) f1 ?_
    cbv
    refine s_br hS ?_ ?_ <;> intro h' <;> cbv <;> simp only [← hS, Int.ofNat_eq_natCast, cq, Bool.not_eq_true', Bool.not_eq_false', decide_eq_true_eq, decide_eq_false_iff_not, beq_iff_eq, beq_eq_false_iff_ne, ne_eq] at h'
    · repeat' (first
      | (refine s_st hS ?_; try cbv)
      | (refine s_sbr hS ?_ ?_ <;> intro h <;> (try cbv) <;> try exact s_ab h)
      | (refine s_sta hS ?_; intro _ _; try cbv)
      | (refine s_stc hS ?_; try cbv)
      | (refine s_stl hS ?_; intro _ _; try cbv)
      | (refine s_chl hS ?_; try cbv)
      | (refine s_yld hS rfl rfl ?_; cbv)
      | fail)
      refine cut_u hS (a := c) (b := d) f4 (by omega) f8 fun t => ?_
      cbv
      repeat' (first
        | (refine s_st hS ?_; try cbv)
        | (refine s_sbr hS ?_ ?_ <;> intro h <;> (try cbv) <;> try exact s_ab h)
        | (refine s_sta hS ?_; intro _ _; try cbv)
        | (refine s_stc hS ?_; try cbv)
        | (refine s_stl hS ?_; intro _ _; try cbv)
        | (refine s_chl hS ?_; try cbv)
        | (refine s_yld hS rfl rfl ?_; cbv)
        | fail)
      · rename_i h
        rw [at_i k0 (all_st f5) (by omega)] at hr
        cases hr
        all_goals exact s_sA
      · rename_i j1 hj1
        refine s_loop_up hS 15 I.dead_table_fields_1_0 (fun x : Int × Int => 0 ≤ x.1 ∧ x.1 ≤ m ∧ x.2 = x.1 + 20 ∧ (i < 1 ∨ x.2 < i)) (fun x => [(29, .i .i64 (.y x.1))]) (fun x => [(8, .c [.i .i64 (.y x.2)])]) (fun x => (m - x.1).toNat) (0, j1) rfl
          ⟨⟨Int.le_refl _, by dsimp only; omega, by dsimp only; omega, by dsimp only; omega⟩, rfl, ?_, ?_, by cbv⟩ ?_
        · cbv; all_goals exact s_sA
        · cbv; all_goals exact s_bA
        intro x
        obtain ⟨q, u⟩ := x
        intro hx
        dsimp only at hx
        cbv
        obtain ⟨q0, q1, q2, q3⟩ := hx
        refine s_sbr hS ?_ ?_ <;> intro h <;> cbv
        · obtain ⟨⟨v, w⟩, hp⟩ := at_ex (l := l) (i := q) (by omega) q0
          repeat' (first
            | (refine s_st hS ?_; try cbv)
            | (refine s_sbr hS ?_ ?_ <;> intro h <;> (try cbv) <;> try exact s_ab h)
            | (refine s_sta hS ?_; intro _ _; try cbv)
            | (refine s_stc hS ?_; try cbv)
            | (refine s_stl hS ?_; intro _ _; try cbv)
            | (refine s_chl hS ?_; try cbv)
            | (refine s_yld hS rfl rfl ?_; cbv)
            | (refine rowF hS hF hp (by omega) ?_; cbv)
            | fail)
          · rw [at_i (j := u) (by omega) (all_row q0 q2 hp) (by omega)] at hr
            cases hr
            all_goals exact s_sA
          · rename_i u1 hu1 q4 hq4
            refine ⟨(q4, u1), by dsimp only; omega, ⟨by dsimp only; omega, by dsimp only; omega, by dsimp only; omega, by dsimp only; omega⟩, rfl, ?_, ?_, by cbv⟩
            · cbv; all_goals exact s_sA
            · cbv; all_goals exact s_bA
        · repeat' (first
          | (refine s_st hS ?_; try cbv)
          | (refine s_sbr hS ?_ ?_ <;> intro h <;> (try cbv) <;> try exact s_ab h)
          | (refine s_sta hS ?_; intro _ _; try cbv)
          | (refine s_stc hS ?_; try cbv)
          | (refine s_stl hS ?_; intro _ _; try cbv)
          | (refine s_chl hS ?_; try cbv)
          | fail)
          rw [at_none (by omega)] at hr
          cases hr
          all_goals exact s_sA
    · omega
section
variable {S : Sy} {bl : List Blk} {K : SV → List Blk → Prop} {cs : List SV} {mx : Int} {l : List Fd}
theorem at_u (hS : S0 Tryd.prog = S) {z : Z} (hc : TabC bl cs mx l) (hm : ilen l ≤ 100000000)
    (hK : ∀ a b e, atR l z.v = ((a, b), e) → K (.tp [.ag [.s a, .s b], .i .i64 (.l e)]) bl) : S.call 32 [.ag cs, .i .i64 z] bl K := by
  cases hr : atR l z.v with
  | mk f e => cases f with
    | mk a b => exact use_tmp hS (call_lit (at_f hr hm)) (hc.fzi (sub_i (b := .y z.v) rfl) rfl) rfl rfl (hK a b e hr)
end
theorem static_f {i : Int} {a b : List UInt8} {t : Bool} (hr : statR i = ((a, b), t)) : (S0 Tryd.prog).call 17 [.i .i64 (.y i)] [] (fun y _ => Sub y (.tp [.ag [.s a, .s b], .b t])) := by
  generalize hS : S0 Tryd.prog = S
  refine call_in' hS I.fn_table_Static ?_
  cbv
  refine s_sbr hS ?_ ?_ <;> intro h <;> cbv
  · unfold statR at hr
    rw [if_neg (by omega)] at hr
    cases hr
    all_goals exact s_sA
  · refine at_u hS (.nil rfl) (by decide) fun c d e he => ?_
    dsimp only [Z.v] at he
    cbv
    by_cases hi : 1 ≤ i
    · obtain ⟨c', d', hp, hq⟩ := stat_ex (i := i) hi (by omega)
      rw [at_stat hq] at he
      rw [hq] at hr
      cases he; cases hr
      cbv
      all_goals exact s_sA
    · rw [at_none (.inl (by omega))] at he
      unfold statR at hr
      rw [if_neg (by omega)] at hr
      cases he; cases hr
      cbv
      all_goals exact s_sA
end Tb
end Cz
namespace Cz
open Go Go.RowKit Go.Proofs
set_option linter.unusedSimpArgs false
set_option linter.unusedVariables false
set_option maxRecDepth 100000
set_option maxHeartbeats 4000000
section
variable {α : Type} [DecidableEq α]
def mapE (enc : α → SV) (ms : List (α × Int)) : List (SV × SV) := ms.map fun p => (enc p.1, .i .i64 (.y p.2))
def mget : List (α × Int) → α → Int
  | [], _ => 0
  | (k, v) :: r, a => if a = k then v else mget r a
theorem mget_app (a b : α) (n : Int) : ∀ ms : List (α × Int), (∀ p, p ∈ ms → 1 ≤ p.2) → mget (ms ++ [(b, n)]) a = if mget ms a ≠ 0 then mget ms a else if a = b then n else 0
  | [], _ => by simp [mget]
  | (k, v) :: r, hv => by
    simp only [List.cons_append, mget]
    split
    · have := hv (k, v) (List.mem_cons_self ..)
      dsimp only at this
      rw [if_pos (by omega)]
    · exact mget_app a b n r fun p hp => hv p (List.mem_cons_of_mem _ hp)
theorem lk_g {P : Program} {S : Sy} {sig : Sg} {enc : α → SV} {zero : SV} {K : SV → Bool → Prop} {a : α} (hS : S0 P = S) (heq : ∀ (b : α) (k1 k2 : Unit → Prop), (a = b → k1 ()) → (a ≠ b → k2 ()) → veq S sig (enc a) (enc b) k1 k2)
    {ms : List (α × Int)} {E : List (SV × SV)} (hE : mapE enc ms = E) (h1 : mget ms a ≠ 0 → K (.i .i64 (.y (mget ms a))) true) (h2 : mget ms a = 0 → K zero false) (hv : ∀ p, p ∈ ms → 1 ≤ p.2) : S.lk sig (enc a) K zero E := by
  refine s_lk hS ?_
  subst hE
  induction ms with
  | nil => exact h2 rfl
  | cons p r ih =>
    obtain ⟨k, v⟩ := p
    simp only [mapE, List.map_cons, vlook]
    have h0 := hv (k, v) (List.mem_cons_self ..)
    dsimp only at h0
    refine heq k _ _ (fun e => ?_) (fun e => ?_)
    · simp only [mget, if_pos e] at h1
      exact h1 (by omega)
    · simp only [mget, if_neg e] at h1 h2
      exact ih h1 h2 fun p hp => hv p (List.mem_cons_of_mem _ hp)
theorem mu_g {P : Program} {S : Sy} {sig : Sg} {enc : α → SV} {K : List (SV × SV) → Prop} {a : α} {z : Z} (hS : S0 P = S) (heq : ∀ (b : α) (k1 k2 : Unit → Prop), (a = b → k1 ()) → (a ≠ b → k2 ()) → veq S sig (enc a) (enc b) k1 k2)
    {ms : List (α × Int)} {E : List (SV × SV)} (hE : mapE enc ms = E) (h0 : mget ms a = 0) (hv : ∀ p, p ∈ ms → 1 ≤ p.2) (h : ∀ E', E ++ [(enc a, .i .i64 z)] = E' → K E') : S.mu sig (enc a) (.i .i64 z) K [] E := by
  refine s_mu hS ?_
  have key : ∀ (r : List (α × Int)) (acc : List (SV × SV)), (∀ p, p ∈ r → 1 ≤ p.2) → mget r a = 0 → acc ++ mapE enc r = E → vmupd S sig (enc a) (.i .i64 z) K acc (mapE enc r) := by
    intro r
    induction r with
    | nil => intro acc _ _ he; simp only [mapE, List.map_nil, List.append_nil, vmupd] at he ⊢; exact h _ (by rw [he])
    | cons p r ih =>
      intro acc hv h0 he
      obtain ⟨k, v⟩ := p
      have h1 := hv (k, v) (List.mem_cons_self ..)
      dsimp only at h1
      simp only [mget] at h0
      have hk : a ≠ k := by intro e; rw [if_pos e] at h0; omega
      rw [if_neg hk] at h0
      simp only [mapE, List.map_cons, vmupd]
      exact heq k _ _ (fun e => absurd e hk) fun _ => ih _ (fun p hp => hv p (List.mem_cons_of_mem _ hp)) h0 (by rw [← he]; simp [mapE])
  have := key ms [] hv h0 (by simpa using hE)
  rwa [hE] at this
end
namespace Tb
theorem fstI_app (p : Fd → Bool) : ∀ (l r : List Fd) (k : Int), 1 ≤ k → fstI p (l ++ r) k = if fstI p l k ≠ 0 then fstI p l k else fstI p r (k + l.length)
  | [], r, k, _ => by simp [fstI]
  | x :: l, r, k, hk => by
    simp only [List.cons_append, fstI]
    split
    · rw [if_pos (by omega)]
    · rw [fstI_app p l r (k + 1) (by omega)]
      simp only [List.length_cons]
      rw [show k + 1 + (l.length : Int) = k + ((l.length + 1 : Nat) : Int) by omega]
theorem allF_len (l : List Fd) : ilen (allF l) = 20 + ilen l := by
  unfold ilen allF
  rw [List.length_append, stL_len]; omega
end Tb
end Cz
namespace Cz
open Go Go.RowKit Go.Proofs
set_option linter.unusedSimpArgs false
set_option linter.unusedVariables false
set_option maxRecDepth 100000
set_option maxHeartbeats 4000000
namespace Tb
theorem eqF' {S : Sy} (hS : S0 Tryd.prog = S) (x y : Fd) (k1 k2 : Unit → Prop) (h1 : x = y → k1 ()) (h2 : x ≠ y → k2 ()) : veq S ⟨true, [.ks, .ks]⟩ (.ag [.s x.1, .s x.2]) (.ag [.s y.1, .s y.2]) k1 k2 := by
  obtain ⟨a, b⟩ := x
  obtain ⟨c, d⟩ := y
  cbv
  refine s_br hS (fun h => ?_) (fun h => ?_) <;> cbv <;> simp only [← hS, Int.ofNat_eq_natCast, cq, Bool.not_eq_true', Bool.not_eq_false', decide_eq_true_eq, decide_eq_false_iff_not, beq_iff_eq, beq_eq_false_iff_ne, ne_eq] at h
  · refine s_br hS (fun h' => ?_) (fun h' => ?_) <;> cbv <;> simp only [← hS, Int.ofNat_eq_natCast, cq, Bool.not_eq_true', Bool.not_eq_false', decide_eq_true_eq, decide_eq_false_iff_not, beq_iff_eq, beq_eq_false_iff_ne, ne_eq] at h'
    · exact h1 (by rw [h, h'])
    · exact h2 (by intro e; cases e; exact h' rfl)
  · exact h2 (by intro e; cases e; exact h rfl)
theorem eqN' {S : Sy} (hS : S0 Tryd.prog = S) (x y : List UInt8) (k1 k2 : Unit → Prop) (h1 : x = y → k1 ()) (h2 : x ≠ y → k2 ()) : veq S ⟨false, [.ks]⟩ (.s x) (.s y) k1 k2 := by
  cbv
  refine s_br hS (fun h => ?_) (fun h => ?_) <;> cbv <;> simp only [← hS, Int.ofNat_eq_natCast, cq, Bool.not_eq_true', Bool.not_eq_false', decide_eq_true_eq, decide_eq_false_iff_not, beq_iff_eq, beq_eq_false_iff_ne, ne_eq] at h
  · exact h1 h
  · exact h2 h
def encF (x : Fd) : SV := .ag [.s x.1, .s x.2]
def MapG {α : Type} [DecidableEq α] (enc : α → SV) (key : Fd → α) (E : List (SV × SV)) (L : List Fd) : Prop :=
  ∃ ms : List (α × Int), mapE enc ms = E ∧ (∀ p, p ∈ ms → 1 ≤ p.2) ∧ ∀ k, mget ms k = fstI (fun x => decide (key x = k)) L 1
section
variable {α : Type} [DecidableEq α] {enc : α → SV} {key : Fd → α} {E : List (SV × SV)} {L : List Fd}
theorem fst_snoc (p : Fd → Bool) (L : List Fd) (x : Fd) : fstI p (L ++ [x]) 1 = if fstI p L 1 ≠ 0 then fstI p L 1 else if p x then 1 + L.length else 0 := by
  rw [fstI_app p L [x] 1 (Int.le_refl _)]
  simp only [fstI]
theorem MapG.keep (h : MapG enc key E L) {x : Fd} (hx : fstI (fun y => decide (key y = key x)) L 1 ≠ 0) : MapG enc key E (L ++ [x]) := by
  obtain ⟨ms, h1, h2, h3⟩ := h
  refine ⟨ms, h1, h2, fun k => ?_⟩
  rw [h3, fst_snoc]
  split
  · rfl
  · rename_i h0
    split
    · rename_i hk
      exact absurd (by rw [← of_decide_eq_true hk] at h0; omega) hx
    · omega
theorem MapG.put (h : MapG enc key E L) {x : Fd} (hx : fstI (fun y => decide (key y = key x)) L 1 = 0) : MapG enc key (E ++ [(enc (key x), .i .i64 (.y (1 + L.length)))]) (L ++ [x]) := by
  obtain ⟨ms, h1, h2, h3⟩ := h
  refine ⟨ms ++ [(key x, (1 + L.length : Int))], ?_, ?_, fun k => ?_⟩
  · rw [← h1]; simp [mapE]
  · intro p hp
    rcases List.mem_append.1 hp with hp | hp
    · exact h2 p hp
    · rw [List.mem_singleton.1 hp]; dsimp only; omega
  · rw [mget_app _ _ _ _ h2, h3, fst_snoc]
    simp only [decide_eq_true_eq]
    split
    · rfl
    · split
      · rename_i e; rw [if_pos e.symm]
      · rename_i e; rw [if_neg fun e' => e e'.symm]
theorem MapG.nil : MapG enc key [] [] := ⟨[], rfl, fun _ h => by simp at h, fun _ => rfl⟩
theorem lkG {S : Sy} {sig : Sg} {zero : SV} {K : SV → Bool → Prop} (hS : S0 Tryd.prog = S) (heq : ∀ (a b : α) (k1 k2 : Unit → Prop), (a = b → k1 ()) → (a ≠ b → k2 ()) → veq S sig (enc a) (enc b) k1 k2) (h : MapG enc key E L) {a : α} {n : Int} (hn : n = fstI (fun x => decide (key x = a)) L 1)
    (h1 : n ≠ 0 → K (.i .i64 (.y n)) true) (h2 : n = 0 → K zero false) : S.lk sig (enc a) K zero E := by
  obtain ⟨ms, hE, hv, hm⟩ := h
  rw [← hm] at hn
  subst hn
  exact lk_g (enc := enc) (a := a) hS (heq a) hE h1 h2 hv
theorem muG {S : Sy} {sig : Sg} {K : List (SV × SV) → Prop} (hS : S0 Tryd.prog = S) (heq : ∀ (a b : α) (k1 k2 : Unit → Prop), (a = b → k1 ()) → (a ≠ b → k2 ()) → veq S sig (enc a) (enc b) k1 k2) (h : MapG enc key E L) {x : Fd} {n : Int} (h0 : fstI (fun y => decide (key y = key x)) L 1 = 0) (hz : n = 1 + L.length)
    (hK : ∀ E', MapG enc key E' (L ++ [x]) → K E') : S.mu sig (enc (key x)) (.i .i64 (.y n)) K [] E := by
  have h' := h.put h0
  obtain ⟨ms, hE, hv, hm⟩ := h
  refine mu_g (enc := enc) (a := key x) hS (heq (key x)) hE (by rw [hm]; exact h0) hv fun E' hE' => hK E' ?_
  rw [← hE', hz]; exact h'
end
section
variable {S : Sy} {E : List (SV × SV)} {L : List Fd} {a b : List UInt8} {n : Int}
theorem lkF (hS : S0 Tryd.prog = S) (h : MapG encF id E L) (hn : n = fstI (fun x => decide (id x = (a, b))) L 1) {zero : SV} {K : SV → Bool → Prop} (h1 : n ≠ 0 → K (.i .i64 (.y n)) true) (h2 : n = 0 → K zero false) :
    S.lk ⟨true, [.ks, .ks]⟩ (.ag [.s a, .s b]) K zero E := lkG (enc := encF) (a := (a, b)) hS (eqF' hS) h hn h1 h2
theorem lkN (hS : S0 Tryd.prog = S) (h : MapG SV.s Prod.fst E L) (hn : n = fstI (fun x => decide (x.1 = a)) L 1) {zero : SV} {K : SV → Bool → Prop} (h1 : n ≠ 0 → K (.i .i64 (.y n)) true) (h2 : n = 0 → K zero false) :
    S.lk ⟨false, [.ks]⟩ (.s a) K zero E := lkG (enc := SV.s) (a := a) hS (eqN' hS) h hn h1 h2
theorem muF (hS : S0 Tryd.prog = S) (h : MapG encF id E L) (h0 : fstI (fun x => decide (id x = (a, b))) L 1 = 0) (hz : n = 1 + L.length) {K : List (SV × SV) → Prop} (hK : ∀ E', MapG encF id E' (L ++ [(a, b)]) → K E') :
    S.mu ⟨true, [.ks, .ks]⟩ (.ag [.s a, .s b]) (.i .i64 (.y n)) K [] E := muG (enc := encF) (key := id) (x := (a, b)) hS (eqF' hS) h h0 hz hK
theorem muN (hS : S0 Tryd.prog = S) (h : MapG SV.s Prod.fst E L) (h0 : fstI (fun x => decide (x.1 = a)) L 1 = 0) (hz : n = 1 + L.length) {K : List (SV × SV) → Prop} (hK : ∀ E', MapG SV.s Prod.fst E' (L ++ [(a, b)]) → K E') :
    S.mu ⟨false, [.ks]⟩ (.s a) (.i .i64 (.y n)) K [] E := muG (enc := SV.s) (key := Prod.fst) (x := (a, b)) hS (eqN' hS) h h0 hz hK
end
section
variable {E : List (SV × SV)} {L : List Fd}
theorem MapG.gcF (h : MapG encF id E L) (m : Nat) : gcM m E = true := by
  obtain ⟨ms, h1, -, -⟩ := h
  subst h1
  induction ms with
  | nil => rfl
  | cons p r ih => exact ih
theorem MapG.gcN (h : MapG SV.s Prod.fst E L) (m : Nat) : gcM m E = true := by
  obtain ⟨ms, h1, -, -⟩ := h
  subst h1
  induction ms with
  | nil => rfl
  | cons p r ih => exact ih
end
theorem line_last2 {j : Int} (h1 : j = 19) (l : List Fd) : ∃ (a b : List UInt8), idxI (remT j.toNat) 10 = -1 ∧ cutR (remT j.toNat) = (a, b) ∧ stL[j.toNat]? = some (a, b) ∧ ilen (remT j.toNat) ≤ 300 ∧ idxI (remT j.toNat) 32 < ilen (remT j.toNat) ∧
    fstI (fun x => decide (id x = (a, b))) ((allF l).take j.toNat) 1 = 0 ∧ fstI (fun x => decide (x.1 = a)) ((allF l).take j.toNat) 1 = 0 := by
  subst h1
  unfold allF
  rw [List.take_append_of_le_length (by decide)]
  exact ⟨[117, 115, 101, 114, 45, 97, 103, 101, 110, 116], [], by decide +kernel⟩
theorem find_f {mx n : Int} {l : List Fd} {a b : List UInt8} {t : Bool} (hr : findR l (a, b) = (n, t)) (hm : ilen l ≤ 100000000) : (S0 Tryd.prog).call 34 [tabV mx l, .ag [.s a, .s b]] [] (fun y _ => Sub y (.tp [.i .i64 (.y n), .b t])) := by
  unfold tabV
  generalize hF : cellsF l = F
  obtain ⟨m, hm'⟩ : ∃ m, m = ilen l := ⟨_, rfl⟩
  have h0 := ilen_nn l
  unfold findR at hr
  rw [← hm'] at h0 hm ⊢
  generalize hS : S0 Tryd.prog = S
  refine call_in' hS I.fn_table_Find ?_
  cbv
  refine call_in' hS I.fn_table_fields ?_
  cbv
  refine rfc_in' hS I.fn_table_fields_1 ?_
  cbv
  refine call_in' hS I.fn_strings_SplitSeq ?_
  cbv
  refine call_in' hS I.fn_strings_splitSeq ?_
  cbv
  refine rfc_in' hS I.fn_strings_splitSeq_1 ?_
  cbv
  refine s_sbr hS ?_ ?_ <;> intro h <;> cbv
  · exfalso; simp at h
  have hc : ilen ([10] : List UInt8) = 1 := rfl
  have hc2 : (([10] : List UInt8).length : Int) = 1 := rfl
  refine s_loop_up hS 16 I.dead_strings_splitSeq_1_0 (fun x : Int × List UInt8 × List (SV × SV) × List (SV × SV) => 0 ≤ x.1 ∧ x.1 ≤ 19 ∧ x.2.1 = remT x.1.toNat ∧ MapG encF id x.2.2.1 ((allF l).take x.1.toNat) ∧ MapG SV.s Prod.fst x.2.2.2 ((allF l).take x.1.toNat)) (fun _ => [])
    (fun x => [(2, .m x.2.2.1), (3, .m x.2.2.2), (10, .c [.i .i64 (.y x.1)]), (11, .c [.s x.2.1])]) (fun x => (19 - x.1).toNat) (0, remT 0, [], []) rfl
    ⟨⟨Int.le_refl _, by dsimp only; omega, rfl, .nil, .nil⟩, rfl, ?_, ?_, by cbv⟩ ?_
  · cbv; all_goals exact s_sA
  · cbv; all_goals exact s_bA
  intro x
  obtain ⟨j, s, E1, E2⟩ := x
  intro hx
  dsimp only at hx
  cbv
  obtain ⟨k0, k1, k3, g1, g2⟩ := hx
  have hjj : j < 19 ∨ 19 ≤ j := by omega
  rcases hjj with hj | hj
  · obtain ⟨L, c, d, f1, f2, f3, f4, f5, f6, f7, f8, f9⟩ := line_at k0 hj
    rw [← k3] at f1 f2 f3 f7 f9
    have hall := all_st (l := l) f5
    have htn := take_next hall k0
    have hlt : ((allF l).take j.toNat).length = j.toNat := by rw [List.length_take]; have := (List.getElem?_eq_some_iff.1 hall).1; omega
    refine sidx_u hS (c := 10) (by omega) f1 ?_
    generalize hn : ilen L = n1 at *
    have hn0 : 0 ≤ n1 := hn ▸ ilen_nn L
    cbv
    repeat' (first
      | (refine s_st hS ?_; try cbv)
      | (refine s_sbr hS ?_ ?_ <;> intro h <;> (try cbv) <;> try exact s_ab h)
      | (refine s_sta hS ?_; intro _ _; try cbv)
      | (refine s_stc hS ?_; try cbv)
      | (refine s_stl hS ?_; intro _ _; try cbv)
      | (refine s_chl hS ?_; try cbv)
      | (refine s_yld hS rfl rfl ?_; cbv)
      | fail)
    rename_i r1 hr1 j1 hj1
    have e1 : S.ssub s 0 r1 = L := by
      subst hS
      show (s.take r1.toNat).drop 0 = L
      rw [List.drop_zero, show r1.toNat = L.length by unfold ilen at hn; omega, f2]
    refine cut_u hS (x := S.ssub s 0 r1) (a := c) (b := d) (by rw [e1]; exact f4) (by rw [e1]; omega) (by rw [e1, hn]; exact f8) fun t => ?_
    generalize hT : (allF l).take j.toNat = T at *
    cbv
    refine s_yld hS rfl rfl ?_
    cbv
    obtain ⟨nf, hnf⟩ : ∃ nf, nf = fstI (fun x => decide (id x = (c, d))) T 1 := ⟨_, rfl⟩
    obtain ⟨nn, hnn⟩ : ∃ nn, nn = fstI (fun x => decide (x.1 = c)) T 1 := ⟨_, rfl⟩
    refine lkF hS g1 hnf (fun q => ?_) (fun q => ?_) <;> cbv
    · have g1' := g1.keep (x := (c, d)) (fun e => q (hnf.trans e))
      refine lkN hS g2 hnn (fun q2 => ?_) (fun q2 => ?_) <;> cbv
      · have g2' := g2.keep (x := (c, d)) (fun e => q2 (hnn.trans e))
        repeat' (first
          | (refine s_st hS ?_; try cbv)
          | (refine s_sbr hS ?_ ?_ <;> intro h <;> (try cbv) <;> try exact s_ab h)
          | (refine s_sta hS ?_; intro _ _; try cbv)
          | (refine s_stc hS ?_; try cbv)
          | (refine s_stl hS ?_; intro _ _; try cbv)
          | (refine s_chl hS ?_; try cbv)
          | fail)
        rename_i r2 hr2
        refine ⟨(j1, S.ssub s r2 (S.slen s), E1, E2), by dsimp only; omega, ⟨by dsimp only; omega, by dsimp only; omega, ?_, by dsimp only; rw [hj1, htn]; exact g1', by dsimp only; rw [hj1, htn]; exact g2'⟩, rfl, ?_, ?_, by cbv; (have ga := MapG.gcF g1' 16; have gb := MapG.gcN g2' 16; cbv at ga gb; first | rw [ga, gb] | (rw [ga]; rw [gb]))⟩
        · dsimp only
          rw [hj1, ← f3]
          subst hS
          show (s.take s.length).drop r2.toNat = _
          rw [List.take_length, show r2.toNat = L.length + 1 by unfold ilen at hn; omega]
        · cbv; all_goals exact s_sA
        · cbv; all_goals exact s_bA
      · refine muN (b := d) hS g2 (hnn.symm.trans q2) (show j1 = 1 + (T.length : Int) by omega) fun E2' g2' => ?_
        cbv
        repeat' (first
          | (refine s_st hS ?_; try cbv)
          | (refine s_sbr hS ?_ ?_ <;> intro h <;> (try cbv) <;> try exact s_ab h)
          | (refine s_sta hS ?_; intro _ _; try cbv)
          | (refine s_stc hS ?_; try cbv)
          | (refine s_stl hS ?_; intro _ _; try cbv)
          | (refine s_chl hS ?_; try cbv)
          | fail)
        rename_i r2 hr2
        refine ⟨(j1, S.ssub s r2 (S.slen s), E1, E2'), by dsimp only; omega, ⟨by dsimp only; omega, by dsimp only; omega, ?_, by dsimp only; rw [hj1, htn]; exact g1', by dsimp only; rw [hj1, htn]; exact g2'⟩, rfl, ?_, ?_, by cbv; (have ga := MapG.gcF g1' 16; have gb := MapG.gcN g2' 16; cbv at ga gb; first | rw [ga, gb] | (rw [ga]; rw [gb]))⟩
        · dsimp only
          rw [hj1, ← f3]
          subst hS
          show (s.take s.length).drop r2.toNat = _
          rw [List.take_length, show r2.toNat = L.length + 1 by unfold ilen at hn; omega]
        · cbv; all_goals exact s_sA
        · cbv; all_goals exact s_bA
    · refine muF hS g1 (hnf.symm.trans q) (show j1 = 1 + (T.length : Int) by omega) fun E1' g1' => ?_
      cbv
      refine lkN hS g2 hnn (fun q2 => ?_) (fun q2 => ?_) <;> cbv
      · have g2' := g2.keep (x := (c, d)) (fun e => q2 (hnn.trans e))
        repeat' (first
          | (refine s_st hS ?_; try cbv)
          | (refine s_sbr hS ?_ ?_ <;> intro h <;> (try cbv) <;> try exact s_ab h)
          | (refine s_sta hS ?_; intro _ _; try cbv)
          | (refine s_stc hS ?_; try cbv)
          | (refine s_stl hS ?_; intro _ _; try cbv)
          | (refine s_chl hS ?_; try cbv)
          | fail)
        rename_i r2 hr2
        refine ⟨(j1, S.ssub s r2 (S.slen s), E1', E2), by dsimp only; omega, ⟨by dsimp only; omega, by dsimp only; omega, ?_, by dsimp only; rw [hj1, htn]; exact g1', by dsimp only; rw [hj1, htn]; exact g2'⟩, rfl, ?_, ?_, by cbv; (have ga := MapG.gcF g1' 16; have gb := MapG.gcN g2' 16; cbv at ga gb; first | rw [ga, gb] | (rw [ga]; rw [gb]))⟩
        · dsimp only
          rw [hj1, ← f3]
          subst hS
          show (s.take s.length).drop r2.toNat = _
          rw [List.take_length, show r2.toNat = L.length + 1 by unfold ilen at hn; omega]
        · cbv; all_goals exact s_sA
        · cbv; all_goals exact s_bA
      · refine muN (b := d) hS g2 (hnn.symm.trans q2) (show j1 = 1 + (T.length : Int) by omega) fun E2' g2' => ?_
        cbv
        repeat' (first
          | (refine s_st hS ?_; try cbv)
          | (refine s_sbr hS ?_ ?_ <;> intro h <;> (try cbv) <;> try exact s_ab h)
          | (refine s_sta hS ?_; intro _ _; try cbv)
          | (refine s_stc hS ?_; try cbv)
          | (refine s_stl hS ?_; intro _ _; try cbv)
          | (refine s_chl hS ?_; try cbv)
          | fail)
        rename_i r2 hr2
        refine ⟨(j1, S.ssub s r2 (S.slen s), E1', E2'), by dsimp only; omega, ⟨by dsimp only; omega, by dsimp only; omega, ?_, by dsimp only; rw [hj1, htn]; exact g1', by dsimp only; rw [hj1, htn]; exact g2'⟩, rfl, ?_, ?_, by cbv; (have ga := MapG.gcF g1' 16; have gb := MapG.gcN g2' 16; cbv at ga gb; first | rw [ga, gb] | (rw [ga]; rw [gb]))⟩
        · dsimp only
          rw [hj1, ← f3]
          subst hS
          show (s.take s.length).drop r2.toNat = _
          rw [List.take_length, show r2.toNat = L.length + 1 by unfold ilen at hn; omega]
        · cbv; all_goals exact s_sA
        · cbv; all_goals exact s_bA
  · obtain ⟨c, d, f1, f4, f5, f7, f8, f9, f10⟩ := line_last2 (j := j) (by omega) l
    rw [← k3] at f1 f4 f7 f8
    have hall := all_st (l := l) f5
    have htn := take_next hall k0
    have hlt : ((allF l).take j.toNat).length = j.toNat := by rw [List.length_take]; have := (List.getElem?_eq_some_iff.1 hall).1; omega
    generalize hT : (allF l).take j.toNat = T at *
    refine sidx_u hS (c := 10) (by omega) f1 ?_
    cbv
    refine s_br hS ?_ ?_ <;> intro h' <;> cbv <;> simp only [← hS, Int.ofNat_eq_natCast, cq, Bool.not_eq_true', Bool.not_eq_false', decide_eq_true_eq, decide_eq_false_iff_not, beq_iff_eq, beq_eq_false_iff_ne, ne_eq] at h'
    · repeat' (first
      | (refine s_st hS ?_; try cbv)
      | (refine s_sbr hS ?_ ?_ <;> intro h <;> (try cbv) <;> try exact s_ab h)
      | (refine s_sta hS ?_; intro _ _; try cbv)
      | (refine s_stc hS ?_; try cbv)
      | (refine s_stl hS ?_; intro _ _; try cbv)
      | (refine s_chl hS ?_; try cbv)
      | (refine s_yld hS rfl rfl ?_; cbv)
      | fail)
      rename_i j1 hj1
      refine cut_u hS (a := c) (b := d) f4 (by omega) f8 fun t => ?_
      cbv
      refine s_yld hS rfl rfl ?_
      cbv
      obtain ⟨nzf9, hnzf9⟩ : ∃ nz, nz = (0 : Int) := ⟨_, rfl⟩
      refine lkF hS g1 (hnzf9.trans f9.symm) (fun q => ?_) (fun _ => ?_) <;> cbv
      · exact absurd hnzf9 q
      refine muF hS g1 f9 (show j1 = 1 + (T.length : Int) by omega) fun E1' g1' => ?_
      cbv
      obtain ⟨nzf10, hnzf10⟩ : ∃ nz, nz = (0 : Int) := ⟨_, rfl⟩
      refine lkN hS g2 (hnzf10.trans f10.symm) (fun q => ?_) (fun _ => ?_) <;> cbv
      · exact absurd hnzf10 q
      refine muN (b := d) hS g2 f10 (show j1 = 1 + (T.length : Int) by omega) fun E2' g2' => ?_
      cbv
      repeat' (first
        | (refine s_st hS ?_; try cbv)
        | (refine s_sbr hS ?_ ?_ <;> intro h <;> (try cbv) <;> try exact s_ab h)
        | (refine s_sta hS ?_; intro _ _; try cbv)
        | (refine s_stc hS ?_; try cbv)
        | (refine s_stl hS ?_; intro _ _; try cbv)
        | (refine s_chl hS ?_; try cbv)
        | fail)
      rw [← htn] at g1' g2'
      clear g1 g2 htn hlt hall
      refine s_loop_up hS 17 I.dead_table_fields_1_0 (fun x : Int × Int × List (SV × SV) × List (SV × SV) => 0 ≤ x.1 ∧ x.1 ≤ m ∧ x.2.1 = x.1 + 20 ∧ MapG encF id x.2.2.1 ((allF l).take x.2.1.toNat) ∧ MapG SV.s Prod.fst x.2.2.2 ((allF l).take x.2.1.toNat)) (fun x => [(29, .i .i64 (.y x.1))]) (fun x => [(2, .m x.2.2.1), (3, .m x.2.2.2), (10, .c [.i .i64 (.y x.2.1)])]) (fun x => (m - x.1).toNat) (0, j1, E1', E2') rfl
        ⟨⟨Int.le_refl _, by dsimp only; omega, by dsimp only; omega, by dsimp only; rw [hj1]; exact g1', by dsimp only; rw [hj1]; exact g2'⟩, rfl, ?_, ?_, by cbv; (have ga := MapG.gcF g1' 17; have gb := MapG.gcN g2' 17; cbv at ga gb; first | rw [ga, gb] | (rw [ga]; rw [gb]))⟩ ?_
      · cbv; all_goals exact s_sA
      · cbv; all_goals exact s_bA
      clear g1' g2'
      intro x
      obtain ⟨q, u, E1, E2⟩ := x
      intro hx
      dsimp only at hx
      cbv
      obtain ⟨q0, q1, q2, g1, g2⟩ := hx
      refine s_sbr hS ?_ ?_ <;> intro h <;> cbv
      · obtain ⟨⟨c, d⟩, hp⟩ := at_ex (l := l) (i := q) (by omega) q0
        have hall := all_row q0 q2 hp
        have htn := take_next hall (by omega)
        have hlt : ((allF l).take u.toNat).length = u.toNat := by rw [List.length_take]; have := (List.getElem?_eq_some_iff.1 hall).1; omega
        generalize hT' : (allF l).take u.toNat = T at *
        repeat' (first
          | (refine s_st hS ?_; try cbv)
          | (refine s_sbr hS ?_ ?_ <;> intro h <;> (try cbv) <;> try exact s_ab h)
          | (refine s_sta hS ?_; intro _ _; try cbv)
          | (refine s_stc hS ?_; try cbv)
          | (refine s_stl hS ?_; intro _ _; try cbv)
          | (refine s_chl hS ?_; try cbv)
          | (refine rowF hS hF hp (by omega) ?_; cbv)
          | fail)
        rename_i u1 hu1
        refine s_yld hS rfl rfl ?_
        cbv
        obtain ⟨nf, hnf⟩ : ∃ nf, nf = fstI (fun x => decide (id x = (c, d))) T 1 := ⟨_, rfl⟩
        obtain ⟨nn, hnn⟩ : ∃ nn, nn = fstI (fun x => decide (x.1 = c)) T 1 := ⟨_, rfl⟩
        refine lkF hS g1 hnf (fun q => ?_) (fun q => ?_) <;> cbv
        · have g1' := g1.keep (x := (c, d)) (fun e => q (hnf.trans e))
          refine lkN hS g2 hnn (fun q2 => ?_) (fun q2 => ?_) <;> cbv
          · have g2' := g2.keep (x := (c, d)) (fun e => q2 (hnn.trans e))
            repeat' (first
              | (refine s_st hS ?_; try cbv)
              | (refine s_sbr hS ?_ ?_ <;> intro h <;> (try cbv) <;> try exact s_ab h)
              | (refine s_sta hS ?_; intro _ _; try cbv)
              | (refine s_stc hS ?_; try cbv)
              | (refine s_stl hS ?_; intro _ _; try cbv)
              | (refine s_chl hS ?_; try cbv)
              | fail)
            rename_i q4 hq4
            refine ⟨(q4, u1, E1, E2), by dsimp only; omega, ⟨by dsimp only; omega, by dsimp only; omega, by dsimp only; omega, by dsimp only; rw [hu1, htn]; exact g1', by dsimp only; rw [hu1, htn]; exact g2'⟩, rfl, ?_, ?_, by cbv; (have ga := MapG.gcF g1' 17; have gb := MapG.gcN g2' 17; cbv at ga gb; first | rw [ga, gb] | (rw [ga]; rw [gb]))⟩
            · cbv; all_goals exact s_sA
            · cbv; all_goals exact s_bA
          · refine muN (b := d) hS g2 (hnn.symm.trans q2) (show u1 = 1 + (T.length : Int) by omega) fun E2' g2' => ?_
            cbv
            repeat' (first
              | (refine s_st hS ?_; try cbv)
              | (refine s_sbr hS ?_ ?_ <;> intro h <;> (try cbv) <;> try exact s_ab h)
              | (refine s_sta hS ?_; intro _ _; try cbv)
              | (refine s_stc hS ?_; try cbv)
              | (refine s_stl hS ?_; intro _ _; try cbv)
              | (refine s_chl hS ?_; try cbv)
              | fail)
            rename_i q4 hq4
            refine ⟨(q4, u1, E1, E2'), by dsimp only; omega, ⟨by dsimp only; omega, by dsimp only; omega, by dsimp only; omega, by dsimp only; rw [hu1, htn]; exact g1', by dsimp only; rw [hu1, htn]; exact g2'⟩, rfl, ?_, ?_, by cbv; (have ga := MapG.gcF g1' 17; have gb := MapG.gcN g2' 17; cbv at ga gb; first | rw [ga, gb] | (rw [ga]; rw [gb]))⟩
            · cbv; all_goals exact s_sA
            · cbv; all_goals exact s_bA
        · refine muF hS g1 (hnf.symm.trans q) (show u1 = 1 + (T.length : Int) by omega) fun E1' g1' => ?_
          cbv
          refine lkN hS g2 hnn (fun q2 => ?_) (fun q2 => ?_) <;> cbv
          · have g2' := g2.keep (x := (c, d)) (fun e => q2 (hnn.trans e))
            repeat' (first
              | (refine s_st hS ?_; try cbv)
              | (refine s_sbr hS ?_ ?_ <;> intro h <;> (try cbv) <;> try exact s_ab h)
              | (refine s_sta hS ?_; intro _ _; try cbv)
              | (refine s_stc hS ?_; try cbv)
              | (refine s_stl hS ?_; intro _ _; try cbv)
              | (refine s_chl hS ?_; try cbv)
              | fail)
            rename_i q4 hq4
            refine ⟨(q4, u1, E1', E2), by dsimp only; omega, ⟨by dsimp only; omega, by dsimp only; omega, by dsimp only; omega, by dsimp only; rw [hu1, htn]; exact g1', by dsimp only; rw [hu1, htn]; exact g2'⟩, rfl, ?_, ?_, by cbv; (have ga := MapG.gcF g1' 17; have gb := MapG.gcN g2' 17; cbv at ga gb; first | rw [ga, gb] | (rw [ga]; rw [gb]))⟩
            · cbv; all_goals exact s_sA
            · cbv; all_goals exact s_bA
          · refine muN (b := d) hS g2 (hnn.symm.trans q2) (show u1 = 1 + (T.length : Int) by omega) fun E2' g2' => ?_
            cbv
            repeat' (first
              | (refine s_st hS ?_; try cbv)
              | (refine s_sbr hS ?_ ?_ <;> intro h <;> (try cbv) <;> try exact s_ab h)
              | (refine s_sta hS ?_; intro _ _; try cbv)
              | (refine s_stc hS ?_; try cbv)
              | (refine s_stl hS ?_; intro _ _; try cbv)
              | (refine s_chl hS ?_; try cbv)
              | fail)
            rename_i q4 hq4
            refine ⟨(q4, u1, E1', E2'), by dsimp only; omega, ⟨by dsimp only; omega, by dsimp only; omega, by dsimp only; omega, by dsimp only; rw [hu1, htn]; exact g1', by dsimp only; rw [hu1, htn]; exact g2'⟩, rfl, ?_, ?_, by cbv; (have ga := MapG.gcF g1' 17; have gb := MapG.gcN g2' 17; cbv at ga gb; first | rw [ga, gb] | (rw [ga]; rw [gb]))⟩
            · cbv; all_goals exact s_sA
            · cbv; all_goals exact s_bA
      · have hta : (allF l).take u.toNat = allF l := take_all (by rw [allF_len]; omega)
        rw [hta] at g1 g2
        have b1 : (fun x : Fd => x == (a, b)) = fun x => decide (id x = (a, b)) := by funext x; rw [Bool.eq_iff_iff]; simp
        have b2 : (fun x : Fd => x.1 == (a, b).1) = fun x => decide (x.1 = a) := by funext x; rw [Bool.eq_iff_iff]; simp
        rw [b1, b2] at hr
        obtain ⟨nf, hnf⟩ : ∃ nf, nf = fstI (fun x => decide (id x = (a, b))) (allF l) 1 := ⟨_, rfl⟩
        obtain ⟨nn, hnn⟩ : ∃ nn, nn = fstI (fun x => decide (x.1 = a)) (allF l) 1 := ⟨_, rfl⟩
        rw [← hnf, ← hnn] at hr
        refine lkF hS g1 hnf (fun q => ?_) (fun q => ?_) <;> cbv
        · rw [if_pos q] at hr
          cases hr
          repeat' (first
            | (refine s_st hS ?_; try cbv)
            | (refine s_sbr hS ?_ ?_ <;> intro h <;> (try cbv) <;> try exact s_ab h)
            | (refine s_sta hS ?_; intro _ _; try cbv)
            | (refine s_stc hS ?_; try cbv)
            | (refine s_stl hS ?_; intro _ _; try cbv)
            | (refine s_chl hS ?_; try cbv)
            | fail)
          all_goals exact s_sA
        · rw [if_neg (fun h => h q)] at hr
          refine lkN hS g2 hnn (fun q => ?_) (fun q => ?_) <;> cbv
          · cases hr
            repeat' (first
              | (refine s_st hS ?_; try cbv)
              | (refine s_sbr hS ?_ ?_ <;> intro h <;> (try cbv) <;> try exact s_ab h)
              | (refine s_sta hS ?_; intro _ _; try cbv)
              | (refine s_stc hS ?_; try cbv)
              | (refine s_stl hS ?_; intro _ _; try cbv)
              | (refine s_chl hS ?_; try cbv)
              | fail)
            all_goals exact s_sA
          · cases hr
            repeat' (first
              | (refine s_st hS ?_; try cbv)
              | (refine s_sbr hS ?_ ?_ <;> intro h <;> (try cbv) <;> try exact s_ab h)
              | (refine s_sta hS ?_; intro _ _; try cbv)
              | (refine s_stc hS ?_; try cbv)
              | (refine s_stl hS ?_; intro _ _; try cbv)
              | (refine s_chl hS ?_; try cbv)
              | fail)
            all_goals exact s_sA
    · omega
end Tb
end Cz
namespace Cz
open Go Go.RowKit Go.Proofs
set_option linter.unusedSimpArgs false
set_option linter.unusedVariables false
set_option maxRecDepth 100000
set_option maxHeartbeats 4000000
namespace Tb
section
variable {S : Sy} {bl : List Blk} {K : SV → List Blk → Prop} {cs : List SV} {mx mx' e n : Int} {l l' : List Fd} {F : List SV} {a b : List UInt8}
theorem use_tell_l (hS : S0 Tryd.prog = S) {g : FuncId} {args args' : List SV} {y y' : SV} (hF : (S0 Tryd.prog).call g args' [] (Tell y)) (ha : SubL args args') (hr : refsBL (fun _ => false) args' = true) (hy : Sub y y') (hK : K y' bl) : S.call g args bl K := by
  subst hS
  exact call_post (use_tell rfl hF ha hr (K := fun x l' => x = y ∧ l' = bl) ⟨rfl, rfl⟩) fun x l' h => ⟨y', h.1 ▸ hy, h.2 ▸ hK⟩
theorem tabE_l (hF : cellsF l' = F) (hn : ilen l' = n) : Sub (tabE mx' l' e) (.tp [.ag [.i .i64 (.l mx'), .v true 2 F (.l n)], .i .i64 (.l e)]) := by
  subst hF hn
  exact sub_tp (.cons (sub_ag (.cons (sub_i rfl) (.cons (sub_v rfl rfl) .nil))) (.cons (sub_i rfl) .nil))
theorem new_l (hS : S0 Tryd.prog = S) {most : Z} (hr : newR most.v = ((mx', l'), e)) (hF : cellsF l' = F) (hn : ilen l' = n) (hK : K (.tp [.ag [.i .i64 (.l mx'), .v true 2 F (.l n)], .i .i64 (.l e)]) bl) :
    S.call 19 [.i .i64 most] bl K :=
  use_val hS (call_post (new_f hr) fun x _ h => ⟨x, .rfl, h.trans (tabE_l (e := e) hF hn)⟩) (.cons (sub_i rfl) .nil) rfl rfl hK
theorem add_l (hS : S0 Tryd.prog = S) (hc : TabC [] cs mx l) (hr : addR (mx, l) (a, b) = ((mx', l'), e)) (hF : cellsF l' = F) (hn : ilen l' = n) (hb : fullL l ≤ 10000000) (hs : szF (a, b) ≤ 10000000)
    (hK : K (.tp [.ag [.i .i64 (.l mx'), .v true 2 F (.l n)], .i .i64 (.l e)]) bl) : S.call 28 [.ag cs, .ag [.s a, .s b]] bl K := by
  refine use_tell_l hS (add_f hr hb hs) ?_ rfl (tabE_l hF hn) hK
  match hc.sub with
  | .cons h _ => exact .cons h .rfl
theorem res_l (hS : S0 Tryd.prog = S) (hc : TabC [] cs mx l) {most : Z} (hr : resR (mx, l) most.v = ((mx', l'), e)) (hF : cellsF l' = F) (hn : ilen l' = n) (hb : fullL l ≤ 100000000)
    (hK : K (.tp [.ag [.i .i64 (.l mx'), .v true 2 F (.l n)], .i .i64 (.l e)]) bl) : S.call 30 [.ag cs, .i .i64 most] bl K := by
  refine use_tell_l hS (res_f hr hb) ?_ rfl (tabE_l hF hn) hK
  match hc.sub with
  | .cons h _ => exact .cons h (.cons (sub_i rfl) .nil)
theorem find_l (hS : S0 Tryd.prog = S) (hc : TabC bl cs mx l) {t : Bool} (hr : findR l (a, b) = (n, t)) (hm : ilen l ≤ 100000000) (hK : K (.tp [.i .i64 (.l n), ofB t]) bl) : S.call 34 [.ag cs, .ag [.s a, .s b]] bl K :=
  use_tmp hS (call_lit (find_f hr hm)) (hc.fzi .rfl rfl) rfl (by cases t <;> rfl) hK
theorem at_l (hS : S0 Tryd.prog = S) {z : Z} (hc : TabC bl cs mx l) (hr : atR l z.v = ((a, b), e)) (hm : ilen l ≤ 100000000) (hK : K (.tp [.ag [.s a, .s b], .i .i64 (.l e)]) bl) : S.call 32 [.ag cs, .i .i64 z] bl K :=
  use_tmp hS (call_lit (at_f hr hm)) (hc.fzi (sub_i (b := .y z.v) rfl) rfl) rfl rfl hK
theorem static_l (hS : S0 Tryd.prog = S) {z : Z} {t : Bool} (hr : statR z.v = ((a, b), t)) (hK : K (.tp [.ag [.s a, .s b], ofB t]) bl) : S.call 17 [.i .i64 z] bl K :=
  use_val hS (call_lit (static_f hr)) (.cons (sub_i rfl) .nil) rfl (by cases t <;> rfl) hK
theorem full_l (hS : S0 Tryd.prog = S) (hc : TabC bl cs mx l) (hn : n = fullL l) (h : n ≤ 100000000) (hK : K (.i .i64 (.l n)) bl) : S.call 24 [.ag cs] bl K :=
  use_tmp hS (call_lit (full_f hn h)) hc.fz rfl rfl hK
theorem right_l (hS : S0 Tryd.prog = S) (hc : TabC bl cs mx l) {t : Bool} (ht : rightL mx l = t) (h : fullL l ≤ 100000000) (hK : K (ofB t) bl) : S.call 26 [.ag cs] bl K :=
  use_tmp hS (call_lit (right_f ht h)) hc.fz rfl (by cases t <;> rfl) hK
theorem size_l (hS : S0 Tryd.prog = S) (hn : n = szF (a, b)) (h : n ≤ 1000000000) (hK : K (.i .i64 (.l n)) bl) : S.call 22 [.ag [.s a, .s b]] bl K :=
  use_val hS (call_lit (size_f hn h)) .rfl rfl rfl hK
theorem same_l (hS : S0 Tryd.prog = S) {cs' : List SV} {my : Int} {k : List Fd} (hc : TabC bl cs mx l) (hc' : TabC bl cs' my k) {t : Bool} (ht : decide (mx = my ∧ l = k) = t) (hl : ilen l ≤ 100000000) (hk : ilen k ≤ 100000000) (hK : K (ofB t) bl) :
    S.call 36 [.ag cs, .ag cs'] bl K :=
  use_tmp hS (call_lit (same_f ht hl hk)) (fz_two hc.fz hc'.fz rfl rfl) rfl (by cases t <;> rfl) hK
end
abbrev fa : Fd := ([97], [49])
abbrev fb : Fd := ([98], [50])
abbrev fc : Fd := ([99], [51])
theorem wakes_f : (S0 Tryd.prog).call 16 [] [] (fun y _ => Sub y .tt) := by
  generalize hS : S0 Tryd.prog = S
  refine call_in' hS I.fn_causeylaw09_wakes ?_
  cbv
  refine new_l hS (mx' := 100) (l' := []) (e := 0) rfl rfl rfl ?_
  cbv
  refine add_l hS (mx := 100) (l := []) (mx' := 100) (l' := [fa]) (e := 0) (.v rfl rfl rfl) (by decide +kernel) rfl rfl (by decide +kernel) (by decide +kernel) ?_
  cbv
  refine add_l hS (mx := 100) (l := [fa]) (mx' := 100) (l' := [fb, fa]) (e := 0) (.v rfl rfl rfl) (by decide +kernel) rfl rfl (by decide +kernel) (by decide +kernel) ?_
  cbv
  refine add_l hS (mx := 100) (l := [fb, fa]) (mx' := 100) (l' := [fc, fb]) (e := 0) (.v rfl rfl rfl) (by decide +kernel) rfl rfl (by decide +kernel) (by decide +kernel) ?_
  cbv
  refine find_l hS (mx := 100) (l := [fc, fb]) (.v rfl rfl rfl) (n := 1) (t := false) (by decide +kernel) (by decide +kernel) ?_
  cbv
  refine find_l hS (mx := 100) (l := [fc, fb]) (.v rfl rfl rfl) (n := 2) (t := true) (by decide +kernel) (by decide +kernel) ?_
  cbv
  refine find_l hS (mx := 100) (l := [fc, fb]) (.v rfl rfl rfl) (n := 22) (t := true) (by decide +kernel) (by decide +kernel) ?_
  cbv
  refine at_l hS (mx := 100) (l := [fc, fb]) (.v rfl rfl rfl) (a := [99]) (b := [51]) (e := 0) (by decide +kernel) (by decide +kernel) ?_
  cbv
  refine at_l hS (mx := 100) (l := [fc, fb]) (.v rfl rfl rfl) (a := []) (b := []) (e := 90) (by decide +kernel) (by decide +kernel) ?_
  cbv
  refine static_l hS (a := [112, 114, 105, 111, 114, 105, 116, 121]) (b := [117, 61, 49]) (t := true) (by decide +kernel) ?_
  cbv
  refine static_l hS (a := []) (b := []) (t := false) (by decide +kernel) ?_
  cbv
  refine res_l hS (mx := 100) (l := [fc, fb]) (mx' := 40) (l' := [fc]) (e := 0) (.v rfl rfl rfl) (by decide +kernel) rfl rfl (by decide +kernel) ?_
  cbv
  refine new_l hS (mx' := 0) (l' := []) (e := 2) rfl rfl rfl ?_
  cbv
  refine full_l hS (mx := 100) (l := [fa]) (.v rfl rfl rfl) (n := 34) (by decide +kernel) (by decide) ?_
  cbv
  refine full_l hS (mx := 100) (l := [fb, fa]) (.v rfl rfl rfl) (n := 68) (by decide +kernel) (by decide) ?_
  cbv
  refine full_l hS (mx := 100) (l := [fc, fb]) (.v rfl rfl rfl) (n := 68) (by decide +kernel) (by decide) ?_
  cbv
  repeat' (first
    | (refine s_st hS ?_; try cbv)
    | (refine s_sbr hS ?_ ?_ <;> intro h <;> (try cbv) <;> try exact s_ab h)
    | (refine s_sta hS ?_; intro _ _; try cbv)
    | (refine s_stc hS ?_; try cbv)
    | (refine s_stl hS ?_; intro _ _; try cbv)
    | (refine s_chl hS ?_; try cbv)
    | fail)
  refine right_l hS (mx := 100) (l := [fc, fb]) (.v rfl rfl rfl) (t := true) (by decide +kernel) (by decide +kernel) ?_
  cbv
  refine right_l hS (mx := -1) (l := []) (.nil rfl) (t := false) (by decide +kernel) (by decide +kernel) ?_
  cbv
  refine size_l hS (n := 43) (by decide +kernel) (by decide) ?_
  cbv
  refine same_l hS (mx := 100) (l := [fc, fb]) (my := 100) (k := [fc, fb]) (.v rfl rfl rfl) (.v rfl rfl rfl) (t := true) (by decide +kernel) (by decide +kernel) (by decide +kernel) ?_
  cbv
  refine same_l hS (mx := 100) (l := [fc, fb]) (my := 40) (k := [fc]) (.v rfl rfl rfl) (.v rfl rfl rfl) (t := false) (by decide +kernel) (by decide +kernel) (by decide +kernel) ?_
  cbv
  exact .rfl
theorem wakes_u {S : Sy} {bl : List Blk} {K : SV → List Blk → Prop} (hS : S0 Tryd.prog = S) (hK : K .tt bl) : S.call 16 [] bl K := use_val hS wakes_f .rfl rfl rfl hK
theorem evL_len (mx : Int) (l : List Fd) : ilen (evL mx l) ≤ ilen l := by unfold ilen evL; rw [List.length_take]; omega
end Tb
end Cz
namespace Cz
open Go Go.RowKit Go.Proofs
set_option linter.unusedSimpArgs false
set_option linter.unusedVariables false
set_option maxRecDepth 100000
set_option maxHeartbeats 4000000
namespace Tb
section
variable {S : Sy} {bl : List Blk} {K : SV → List Blk → Prop} {cs : List SV} {mx mx' e n : Int} {l l' : List Fd} {F : List SV} {a b : List UInt8}
theorem tabE_g (hF : cellsF l' = F) (hn : n = ilen l') : Sub (tabE mx' l' e) (.tp [.ag [.i .i64 (.y mx'), .v false 2 F (.y n)], .i .i64 (.y e)]) := by
  subst hF hn; exact .rfl
theorem add_g (hS : S0 Tryd.prog = S) (hc : TabC [] cs mx l) (hr : addR (mx, l) (a, b) = ((mx', l'), e)) (hF : cellsF l' = F) (hn : n = ilen l') (hb : fullL l ≤ 10000000) (hs : szF (a, b) ≤ 10000000)
    (hK : K (.tp [.ag [.i .i64 (.y mx'), .v false 2 F (.y n)], .i .i64 (.y e)]) bl) : S.call 28 [.ag cs, .ag [.s a, .s b]] bl K := by
  refine use_tell_l hS (add_f hr hb hs) ?_ rfl (tabE_g hF hn) hK
  match hc.sub with
  | .cons h _ => exact .cons h .rfl
theorem res_g (hS : S0 Tryd.prog = S) (hc : TabC [] cs mx l) {most : Z} (hr : resR (mx, l) most.v = ((mx', l'), e)) (hF : cellsF l' = F) (hn : n = ilen l') (hb : fullL l ≤ 10000000)
    (hK : K (.tp [.ag [.i .i64 (.y mx'), .v false 2 F (.y n)], .i .i64 (.y e)]) bl) : S.call 30 [.ag cs, .i .i64 most] bl K := by
  refine use_tell_l hS (res_f hr (by omega)) ?_ rfl (tabE_g hF hn) hK
  match hc.sub with
  | .cons h _ => exact .cons h (.cons (sub_i rfl) .nil)
end
end Tb
end Cz
namespace Cz
open Go Go.RowKit
set_option linter.unusedSimpArgs false
set_option linter.unusedVariables false
def Ctx (C : SV → SV) : Prop := ∀ (ρ : Nms) (s : SV) (v : Value), den ρ (C s) v → ∃ u, den ρ s u ∧ ∀ (ρ' : Nms) (s' : SV), den ρ' s' u → den ρ' (C s') v
section
variable {P : Program} {l : List Blk}
theorem call_one {C : SV → SV} (hC : Ctx C) {sz : Nat} {F : List SV} {n : Int} {g : FuncId} {args : List SV}
    (hF : (S0 P).call g args [] (fun x l' => ∃ (j : Nat) (lit : Bool) (st z : Z) (F' : List SV), x = C (.sl j sz (.l 0) z none) ∧ l'[j]? = some (.r false lit st sz F') ∧ plains F' = true ∧ F'.take (z.v.toNat * sz) = F ∧ z.v = n)) :
    (S0 P).call g args [] (fun x l' => ∃ (j : Nat) (z : Z), x = C (.sl j sz (.l 0) z none) ∧ l'[j]? = some (.r false false (.l 0) sz F) ∧ z.v = n) := by
  intro N W0 ρ W vals hR hd
  refine NextR.mono ?_ (hF N W0 ρ W vals hR hd)
  rintro v W' ⟨ρ', x, l', ⟨j, lit, st, z, F', rfl, hB, hp, hFF, hz⟩, hle, hll, hR', hdv⟩
  obtain ⟨u, hu, hback⟩ := hC _ _ _ hdv
  have hj := (List.getElem?_eq_some_iff.1 hB).1
  obtain ⟨hsz, hvs, _, hown⟩ := hR'.blk j _ hB
  obtain ⟨cur, _, _, hown2, _, _⟩ := hown rfl
  simp only [den] at hu
  obtain ⟨h0, h1, vw, hvw, hin, hs⟩ := hu
  have e0 : (Z.l 0).v.toNat = 0 := rfl
  rw [e0] at hs hin
  rw [Nat.zero_add] at hin
  -- the slice's own view
  have key : ∃ vw0 : View, vw0.n = F.length ∧ vw0.n ≤ vw0.cap * sz ∧ (∀ a, vw0.base = some a → vw.base = some a) ∧ ViewOk W' ρ' F vw0 ∧ OwnOk N W' vw0 (vw0.cap * sz) ∧ (0 + z.v.toNat) * sz ≤ vw0.n ∧ SlVal vw0 sz 0 z.v.toNat (Option.map Z.v none) u := by
    have empty : z.v.toNat = 0 → (∃ a', u = .slice a' 0 0) → ∃ vw0 : View, vw0.n = F.length ∧ vw0.n ≤ vw0.cap * sz ∧ (∀ a, vw0.base = some a → vw.base = some a) ∧ ViewOk W' ρ' F vw0 ∧ OwnOk N W' vw0 (vw0.cap * sz) ∧ (0 + z.v.toNat) * sz ≤ vw0.n ∧ SlVal vw0 sz 0 z.v.toNat (Option.map Z.v none) u := by
      intro hz0 ha
      have hF0 : F = [] := by rw [← hFF, hz0]; simp
      subst hF0
      exact ⟨⟨none, 0, 0⟩, rfl, Nat.zero_le _, (fun a h => by cases h), ⟨Nat.zero_le _, fun _ => ⟨rfl, rfl⟩, fun q x hq _ => by simp at hq⟩, (fun a h => by cases h), by rw [hz0]; simp, ⟨rfl, hz0, ha⟩⟩
    have hv := hvs vw hvw
    unfold SlVal at hs
    cases hb : vw.base with
    | none =>
      rw [hb] at hs
      rw [← hb] at *
      exact empty hs.2.1 hs.2.2
    | some a =>
      rw [hb] at hs
      rcases hs with ⟨c, e, hc, hc2, hc3⟩ | ⟨h2, h3, _⟩
      · have hlen : F.length = z.v.toNat * sz := by rw [← hFF, List.length_take]; have := hv.1; omega
        refine ⟨⟨some a, z.v.toNat * sz, c⟩, hlen.symm, Nat.mul_le_mul_right _ hc, fun b h => by rw [← h], ⟨by rw [hlen]; exact Nat.le_refl _, fun h => by (cases h), fun q x hq hx => ?_⟩, ?_, by rw [Nat.zero_add]; exact Nat.le_refl _, ?_⟩
        · have hq' : q < z.v.toNat * sz := hq
          have : F'[q]? = some x := by rw [← hFF, List.getElem?_take_of_lt hq'] at hx; exact hx
          obtain ⟨a', w, g1, g2, g3⟩ := hv.2.2 q x (by omega) this
          rw [hb] at g1
          exact ⟨a', w, g1, g2, g3⟩
        · have hc4 : c = vw.cap := by have h5 : 0 + c = vw.cap := hc3; omega
          intro b hb'
          have := hown2 vw hvw b (by rw [hb]; exact hb')
          rw [hc4]; exact this
        · unfold SlVal
          refine .inl ⟨c, e, hc, by rw [Nat.zero_add]; exact Nat.le_refl _, ?_⟩
          simp only [Option.map_none, Nat.zero_add]
      · exact hb ▸ empty h2 h3
  obtain ⟨vw0, k1, k2, k3, k4, k5, k6, k7⟩ := key
  let ρ2 : Nms := ⟨fun k => if k = j then [vw0] else ρ' k, ρ'.fz, ρ'.q⟩
  have hj2 : ρ2 j = [vw0] := by simp [ρ2]
  have ho2 : ∀ k, k ≠ j → ρ2 k = ρ' k := fun k hk => by simp [ρ2, hk]
  have hpF : plains F = true := by rw [← hFF]; exact plains_of fun x hx => plains_all hp x (List.mem_of_mem_take hx)
  have hat : ∀ (k : Nat) (B : Blk), ((List.replicate l'.length Blk.dead).set j (.r false false (.l 0) sz F))[k]? = some B → B.wr = true → k = j ∧ B = .r false false (.l 0) sz F := by
    intro k B hk hw
    by_cases e : k = j
    · subst e
      rw [List.getElem?_set_self (by simpa using hj)] at hk
      exact ⟨rfl, (Option.some.inj hk).symm⟩
    · rw [List.getElem?_set_ne (fun h => e h.symm), List.getElem?_replicate] at hk
      split at hk
      · cases hk; cases hw
      · cases hk
  refine ⟨ρ2, C (.sl j sz (.l 0) z none), (List.replicate l'.length Blk.dead).set j (.r false false (.l 0) sz F), ⟨j, z, rfl, ?_, hz⟩, ⟨fun k hk => absurd hk (Nat.not_lt_zero k), hle.fz, hle.fq, hle.q⟩, by simp, ⟨hR'.below, hR'.le, ?_, ?_, ?_, ?_, ?_, hR'.qN, hR'.fin, ?_⟩, ?_⟩
  · rw [List.getElem?_set_self (by simpa using hj)]
  · intro k hk
    simp only [List.length_set, List.length_replicate] at hk
    rw [ho2 k (by omega)]; exact hR'.out k hk
  · intro k vw' a hv ha
    by_cases e : k = j
    · subst e
      rw [hj2, List.mem_singleton] at hv; subst hv
      exact hR'.ids k vw a hvw (k3 a ha)
    · rw [ho2 k e] at hv; exact hR'.ids k vw' a hv ha
  · intro k B hk
    by_cases e : k = j
    · subst e
      rw [List.getElem?_set_self (by simpa using hj)] at hk
      simp only [Option.some.injEq] at hk; subst hk
      refine ⟨hsz, fun vw' hv => ?_, fun _ x hx => plains_all hpF x hx, fun _ => ⟨vw0, by rw [hj2]; simp, k1, fun vw' hv => ?_, k2, fun vw' hv => ?_⟩⟩
      · rw [hj2, List.mem_singleton] at hv; subst hv
        exact ViewOk.plain (ρ := ρ') ρ2 (fun _ _ _ h => h) hpF k4
      · rw [hj2, List.mem_singleton] at hv; subst hv; exact k5
      · rw [hj2, List.mem_singleton] at hv; subst hv; exact .inl ⟨rfl, rfl⟩
    · rw [List.getElem?_set_ne (fun h => e h.symm), List.getElem?_replicate] at hk
      split at hk
      · cases hk; trivial
      · cases hk
  · intro k k' B vw1 vw2 a a' hB' hw hne hv hv' ha ha'
    obtain ⟨rfl, _⟩ := hat k B hB' hw
    rw [hj2, List.mem_singleton] at hv; subst hv
    rw [ho2 k' (fun e => hne e.symm)] at hv'
    exact hR'.sep k k' _ vw vw2 a a' hB rfl hne hvw hv' (k3 a ha) ha'
  · intro k B vw1 a hB' hw hv ha
    obtain ⟨rfl, _⟩ := hat k B hB' hw
    rw [hj2, List.mem_singleton] at hv; subst hv
    exact hR'.own k _ vw a hB rfl hvw (k3 a ha)
  · intro k B vw1 a hB' hw hv ha o
    obtain ⟨rfl, _⟩ := hat k B hB' hw
    rw [hj2, List.mem_singleton] at hv; subst hv
    exact hR'.fsep k _ vw a hB rfl hvw (k3 a ha) o
  · refine hback ρ2 _ ?_
    simp only [den]
    exact ⟨h0, h1, vw0, by rw [hj2]; simp, by rw [e0]; exact k6, by rw [e0]; exact k7⟩
end
section
variable {P : Program} {l : List Blk}
theorem use_one {S : Sy} (hS : S0 P = S) {C : SV → SV} (hC : Ctx C) (hCz : ∀ (l' : List Blk) (j m : Nat) (z z' : Z) (sz : Nat), z.v = z'.v → Fz l' (fun i => m + i) [some j] (C (.sl j sz (.l 0) z none)) (C (.sl m sz (.l 0) z' none))) {sz : Nat} {F : List SV} {n : Int} {g : FuncId} {args args' : List SV} {K : SV → List Blk → Prop}
    (hF : (S0 P).call g args' [] (fun x l' => ∃ (j : Nat) (lit : Bool) (st z : Z) (F' : List SV), x = C (.sl j sz (.l 0) z none) ∧ l'[j]? = some (.r false lit st sz F') ∧ plains F' = true ∧ F'.take (z.v.toNat * sz) = F ∧ z.v = n)) (ha : SubL args args')
    (hr : refsBL (fun _ => false) args' = true) (hsz : 0 < sz) (hp : plains F = true) (hK : K (C (.sl (len l) sz (.l 0) (.y n) none)) (snoc l (.r false false (.y 0) sz F))) : S.call g args l K := by
  subst hS
  refine call_sub ha (call_keptZ (Z := fun sts => sts 0 = 0) (rows := [(sz, F)]) (y := fun m => C (.sl m sz (.l 0) (.y n) none)) (call_post (call_one hC hF) fun x l' h => ⟨x, .rfl, ?_⟩) hr ⟨⟨hsz, hp⟩, trivial⟩ fun sts hz => ?_)
  · obtain ⟨j, z, rfl, hj, hz⟩ := h
    refine ⟨[some j], ⟨⟨_, _, _, hj, .rfl⟩, rfl, trivial⟩, fun m => hCz l' j m z (.y n) sz hz, ?_⟩
    simp only [stsOf, List.getElem?_cons_zero, hj]
    rfl
  · have : rowBs sts [(sz, F)] 0 = [.r false false (.y 0) sz F] := by simp only [rowBs, hz]
    rw [this]
    rw [len_eq, snoc_eq] at hK
    exact hK
end
end Cz
namespace Cz
open Go Go.RowKit Go.Proofs
set_option linter.unusedSimpArgs false
set_option linter.unusedVariables false
namespace Tb
theorem op_i {svs : List SV} (h : pkVs [.i .i64] svs) : ∃ n, svs = [.i .i64 (.y n)] ∧ -9223372036854775808 ≤ n ∧ n ≤ 9223372036854775807 := by
  obtain ⟨x, rfl, h'⟩ := pkVs_one h
  simp only [pkV] at h'
  obtain ⟨n, rfl, h1, h2⟩ := h'
  exact ⟨n, rfl, h1, h2⟩
theorem op_fd' {svs : List SV} (h : pkVs [.s, .s] svs) : ∃ f : Fd, svs = fdE f ∧ ilen f.1 ≤ 140737488355328 ∧ ilen f.2 ≤ 140737488355328 := by
  match svs, h with
  | [], h => simp [pkVs] at h
  | [_], h => simp [pkVs] at h
  | _ :: _ :: _ :: _, h => simp [pkVs] at h
  | [x, y], h =>
    simp only [pkVs, pkV] at h
    obtain ⟨⟨a, rfl, ha⟩, ⟨b, rfl, hb⟩, _⟩ := h
    exact ⟨(a, b), rfl, ha, hb⟩
theorem op_fd {svs : List SV} (h : pkVs [.s, .s] svs) : ∃ a b, svs = [.s a, .s b] ∧ shortL [(a, b)] := by
  obtain ⟨f, rfl, h1, h2⟩ := op_fd' h
  exact ⟨f.1, f.2, rfl, fun g hg => by rw [List.mem_singleton.1 hg]; exact ⟨h1, h2⟩⟩
theorem op_fds' {x : SV} (h : pkV (.sl [.s, .s]) x) : ∃ l : List Fd, x = .v false 2 (cellsF l) (.y (ilen l)) ∧ ilen l ≤ 140737488355328 ∧ shortL l := by
  obtain ⟨l, h1, h2, h3⟩ := pk_rows (ec := fdE) (good := fun f => ilen f.1 ≤ 140737488355328 ∧ ilen f.2 ≤ 140737488355328) (fun svs h => op_fd' h) h
  exact ⟨l, h1, h2, h3⟩
theorem op_tab {svs : List SV} (h : pkVs [.i .i64, .sl [.s, .s]] svs) : ∃ mx l, svs = [.i .i64 (.y mx), .v false 2 (cellsF l) (.y (ilen l))] ∧ -9223372036854775808 ≤ mx ∧ mx ≤ 9223372036854775807 ∧ ilen l ≤ 140737488355328 ∧ shortL l := by
  match svs, h with
  | [], h => simp [pkVs] at h
  | [_], h => simp [pkVs] at h
  | _ :: _ :: _ :: _, h => simp [pkVs] at h
  | [x, y], h =>
    simp only [pkVs] at h
    obtain ⟨h1, h2, _⟩ := h
    simp only [pkV] at h1
    obtain ⟨n, rfl, h3, h4⟩ := h1
    obtain ⟨l, rfl, h5, h6⟩ := op_fds' h2
    exact ⟨n, l, rfl, h3, h4, h5, h6⟩
end Tb
end Cz
