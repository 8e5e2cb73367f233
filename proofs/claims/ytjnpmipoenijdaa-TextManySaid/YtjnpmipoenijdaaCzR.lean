/- Printed by a small program of ours (wip/tools/print_ir): the simplified codes of the functions. -/
import Derived.Test.YtjnpmipoenijdaaProg
import Derived.Test.YtjnpmipoenijdaaE3
namespace Cz
open Go Go.RowKit Go.Proofs
namespace I
set_option maxRecDepth 100000

def kl_gosem_cut_init : Nat → List Nat := fun
  | 0 => [0]
  | _ => []
def gosem_cut_init : IR :=
 (.reg [⟨(some 0), .call (.c (.fn (.func 1) [] [])) [], none⟩] [0])
theorem fn_gosem_cut_init : FnIs Try.prog 2 1 [] gosem_cut_init :=
  ⟨Try.f2, _, kl_gosem_cut_init, Try.func2, rfl, rfl, by kernel_rfl, by kernel_rfl, Try.call2⟩

def kl_causeylaw07_HuffTells : Nat → List Nat := fun
  | 0 => [10]
  | 1 => [23, 24, 25, 26, 27, 28, 29]
  | 2 => [31]
  | 3 => [32, 33, 34, 35, 36]
  | 4 => [0, 37, 38, 39, 40, 41]
  | 5 => [42, 43, 44, 45, 46, 47]
  | 6 => [1, 2, 48, 49, 50, 51, 52, 53]
  | 7 => [54, 55, 56, 57, 58]
  | 8 => [4, 59, 60, 61, 62, 63]
  | 9 => [3, 11, 12, 13, 14, 15, 16, 17, 18, 19, 20, 21, 22, 64, 65, 66, 67, 68, 69, 70, 71, 72, 73, 74, 75, 76, 77, 78, 79, 80, 81, 82, 83, 84, 85, 86, 87, 88, 89, 90, 91, 92, 93, 94, 95, 96, 97, 98, 99, 100, 101, 102, 103, 104, 105, 106, 107, 108, 109, 110, 111, 112, 113, 114, 115]
  | _ => []
def causeylaw07_HuffTells : IR :=
 (.seq (.reg [⟨(some 10), .mv (.c .ff), none⟩] [10])
 (.seq (.seq (.reg [⟨(some 23), .mv (.t 3), none⟩,
   ⟨(some 24), .len false (.t 23), none⟩,
   ⟨(some 25), .bin .gt (.t 24) (.c (.i .i64 (.l 200))), none⟩,
   ⟨(some 26), .mv (.t 25), none⟩,
   ⟨(some 27), .mv (.t 4), (some (26, false))⟩,
   ⟨(some 28), .len false (.t 27), (some (26, false))⟩,
   ⟨(some 29), .bin .gt (.t 28) (.c (.i .i64 (.l 200))), (some (26, false))⟩,
   ⟨(some 30), .pick (.t 26) (.c .tt) (.t 29), none⟩] [23, 24, 25, 26, 27, 28, 29])
 (.cond (.t 30)
  (.seq (.reg [⟨(some 31), .call (.c (.fn (.func 12) [] [])) [], none⟩,
    ⟨(some 10), .mv (.t 31), none⟩] [31])
  .ret)
  .skip))
 (.seq (.reg [⟨(some 33), .mv (.t 0), none⟩,
   ⟨(some 34), .call (.c (.fn (.func 13) [] [])) [(.t 33)], none⟩,
   ⟨(some 32), .mv (.t 34), none⟩,
   ⟨(some 35), .ext (.t 32) 0, none⟩,
   ⟨(some 36), .ext (.t 32) 1, none⟩,
   ⟨(some 11), .mv (.t 35), none⟩,
   ⟨(some 12), .mv (.t 36), none⟩] [32, 33, 34, 35, 36])
 (.seq (.reg [⟨(some 38), .mv (.t 0), none⟩,
   ⟨(some 39), .call (.c (.fn (.func 14) [] [])) [(.t 38)], none⟩,
   ⟨(some 37), .mv (.t 39), none⟩,
   ⟨(some 40), .ext (.t 37) 0, none⟩,
   ⟨(some 41), .ext (.t 37) 1, none⟩,
   ⟨(some 13), .mv (.t 40), none⟩,
   ⟨(some 14), .mv (.t 41), none⟩] [0, 37, 38, 39, 40, 41])
 (.seq (.reg [⟨(some 43), .mv (.t 1), none⟩,
   ⟨(some 44), .mv (.t 2), none⟩,
   ⟨(some 45), .call (.c (.fn (.func 15) [] [])) [(.t 43), (.t 44)], none⟩,
   ⟨(some 42), .mv (.t 45), none⟩,
   ⟨(some 46), .ext (.t 42) 0, none⟩,
   ⟨(some 47), .ext (.t 42) 1, none⟩,
   ⟨(some 15), .mv (.t 46), none⟩,
   ⟨(some 16), .mv (.t 47), none⟩] [42, 43, 44, 45, 46, 47])
 (.seq (.reg [⟨(some 49), .mv (.t 1), none⟩,
   ⟨(some 50), .mv (.t 2), none⟩,
   ⟨(some 51), .call (.c (.fn (.func 16) [] [])) [(.t 49), (.t 50)], none⟩,
   ⟨(some 48), .mv (.t 51), none⟩,
   ⟨(some 52), .ext (.t 48) 0, none⟩,
   ⟨(some 53), .ext (.t 48) 1, none⟩,
   ⟨(some 17), .mv (.t 52), none⟩,
   ⟨(some 18), .mv (.t 53), none⟩] [1, 2, 48, 49, 50, 51, 52, 53])
 (.seq (.reg [⟨(some 55), .mv (.t 4), none⟩,
   ⟨(some 56), .call (.c (.fn (.func 17) [] [])) [(.t 55)], none⟩,
   ⟨(some 54), .mv (.t 56), none⟩,
   ⟨(some 57), .ext (.t 54) 0, none⟩,
   ⟨(some 58), .ext (.t 54) 1, none⟩,
   ⟨(some 19), .mv (.t 57), none⟩,
   ⟨(some 20), .mv (.t 58), none⟩] [54, 55, 56, 57, 58])
 (.seq (.reg [⟨(some 60), .mv (.t 4), none⟩,
   ⟨(some 61), .call (.c (.fn (.func 18) [] [])) [(.t 60)], none⟩,
   ⟨(some 59), .mv (.t 61), none⟩,
   ⟨(some 62), .ext (.t 59) 0, none⟩,
   ⟨(some 63), .ext (.t 59) 1, none⟩,
   ⟨(some 21), .mv (.t 62), none⟩,
   ⟨(some 22), .mv (.t 63), none⟩] [4, 59, 60, 61, 62, 63])
 (.seq (.reg [⟨(some 64), .mv (.t 11), none⟩,
   ⟨(some 65), .mv (.t 13), none⟩,
   ⟨(some 66), .bin .eq (.t 64) (.t 65), none⟩,
   ⟨(some 67), .mv (.t 66), none⟩,
   ⟨(some 68), .mv (.t 12), (some (67, true))⟩,
   ⟨(some 69), .mv (.t 14), (some (67, true))⟩,
   ⟨(some 70), .bin .eq (.t 68) (.t 69), (some (67, true))⟩,
   ⟨(some 71), .pick (.t 67) (.t 70) (.c .ff), none⟩,
   ⟨(some 72), .mv (.t 71), none⟩,
   ⟨(some 73), .mv (.t 15), (some (72, true))⟩,
   ⟨(some 74), .mv (.t 17), (some (72, true))⟩,
   ⟨(some 75), .bin .eq (.t 73) (.t 74), (some (72, true))⟩,
   ⟨(some 76), .pick (.t 72) (.t 75) (.c .ff), none⟩,
   ⟨(some 77), .mv (.t 76), none⟩,
   ⟨(some 78), .mv (.t 16), (some (77, true))⟩,
   ⟨(some 79), .mv (.t 18), (some (77, true))⟩,
   ⟨(some 80), .eqA ⟨false, [.kb]⟩ false (.t 78) (.t 79), (some (77, true))⟩,
   ⟨(some 81), .pick (.t 77) (.t 80) (.c .ff), none⟩,
   ⟨(some 82), .mv (.t 81), none⟩,
   ⟨(some 83), .mv (.t 3), (some (82, true))⟩,
   ⟨(some 84), .call (.c (.fn (.func 19) [] [])) [(.t 83)], (some (82, true))⟩,
   ⟨(some 85), .mv (.t 3), (some (82, true))⟩,
   ⟨(some 86), .call (.c (.fn (.func 20) [] [])) [(.t 85)], (some (82, true))⟩,
   ⟨(some 87), .bin .eq (.t 84) (.t 86), (some (82, true))⟩,
   ⟨(some 88), .pick (.t 82) (.t 87) (.c .ff), none⟩,
   ⟨(some 89), .mv (.t 88), none⟩,
   ⟨(some 90), .mv (.t 3), (some (89, true))⟩,
   ⟨(some 91), .call (.c (.fn (.func 22) [] [])) [(.t 90)], (some (89, true))⟩,
   ⟨(some 92), .mv (.t 3), (some (89, true))⟩,
   ⟨(some 93), .call (.c (.fn (.func 23) [] [])) [(.t 92)], (some (89, true))⟩,
   ⟨(some 94), .call (.c (.fn (.func 21) [] [])) [(.t 91), (.t 93)], (some (89, true))⟩,
   ⟨(some 95), .pick (.t 89) (.t 94) (.c .ff), none⟩,
   ⟨(some 96), .mv (.t 95), none⟩,
   ⟨(some 97), .mv (.t 19), (some (96, true))⟩,
   ⟨(some 98), .mv (.t 21), (some (96, true))⟩,
   ⟨(some 99), .call (.c (.fn (.func 21) [] [])) [(.t 97), (.t 98)], (some (96, true))⟩,
   ⟨(some 100), .pick (.t 96) (.t 99) (.c .ff), none⟩,
   ⟨(some 101), .mv (.t 100), none⟩,
   ⟨(some 102), .mv (.t 20), (some (101, true))⟩,
   ⟨(some 103), .mv (.t 22), (some (101, true))⟩,
   ⟨(some 104), .bin .eq (.t 102) (.t 103), (some (101, true))⟩,
   ⟨(some 105), .pick (.t 101) (.t 104) (.c .ff), none⟩,
   ⟨(some 106), .mv (.t 105), none⟩,
   ⟨(some 107), .mv (.t 3), (some (106, true))⟩,
   ⟨(some 108), .call (.c (.fn (.func 24) [] [])) [(.t 107)], (some (106, true))⟩,
   ⟨(some 109), .mv (.t 3), (some (106, true))⟩,
   ⟨(some 110), .call (.c (.fn (.func 25) [] [])) [(.t 109)], (some (106, true))⟩,
   ⟨(some 111), .eqA ⟨false, [.kb]⟩ false (.t 108) (.t 110), (some (106, true))⟩,
   ⟨(some 112), .pick (.t 106) (.t 111) (.c .ff), none⟩,
   ⟨(some 113), .mv (.t 112), none⟩,
   ⟨(some 114), .call (.c (.fn (.func 12) [] [])) [], (some (113, true))⟩,
   ⟨(some 115), .pick (.t 113) (.t 114) (.c .ff), none⟩,
   ⟨(some 10), .mv (.t 115), none⟩] [3, 11, 12, 13, 14, 15, 16, 17, 18, 19, 20, 21, 22, 64, 65, 66, 67, 68, 69, 70, 71, 72, 73, 74, 75, 76, 77, 78, 79, 80, 81, 82, 83, 84, 85, 86, 87, 88, 89, 90, 91, 92, 93, 94, 95, 96, 97, 98, 99, 100, 101, 102, 103, 104, 105, 106, 107, 108, 109, 110, 111, 112, 113, 114, 115])
 .ret)))))))))
theorem fn_causeylaw07_HuffTells : FnIs Try.prog 3 116 [.t 10] causeylaw07_HuffTells :=
  ⟨Try.f3, _, kl_causeylaw07_HuffTells, Try.func3, rfl, rfl, by kernel_rfl, by kernel_rfl, Try.call3⟩

def kl_causeylaw07_HuffApart : Nat → List Nat := fun
  | 0 => [4]
  | 1 => [13, 14, 15, 16, 17]
  | 2 => [18, 19, 20, 21, 22]
  | 3 => [23, 24, 25, 26, 27, 28]
  | 4 => [9, 10, 29, 30, 31, 32, 33, 34, 35, 36, 37, 38, 39, 40, 41, 42, 43, 44, 45, 46, 47, 48, 49, 50, 51, 52, 53, 54, 55, 56, 57, 58, 59, 60, 61, 62, 63, 64, 65]
  | 6 => [67, 68, 69]
  | 7 => [7, 8, 11, 70, 71, 72, 73, 74, 75, 76, 77, 78, 79, 80, 81, 82]
  | 8 => [0, 1, 5, 6, 12, 83, 84, 85, 86, 87, 88, 89, 90, 91, 92, 93, 94, 95, 96, 97, 98]
  | _ => []
def causeylaw07_HuffApart : IR :=
 (.seq (.reg [⟨(some 4), .mv (.c .ff), none⟩] [4])
 (.seq (.reg [⟨(some 14), .mv (.t 0), none⟩,
   ⟨(some 15), .call (.c (.fn (.func 13) [] [])) [(.t 14)], none⟩,
   ⟨(some 13), .mv (.t 15), none⟩,
   ⟨(some 16), .ext (.t 13) 0, none⟩,
   ⟨(some 17), .ext (.t 13) 1, none⟩,
   ⟨(some 5), .mv (.t 16), none⟩,
   ⟨(some 6), .mv (.t 17), none⟩] [13, 14, 15, 16, 17])
 (.seq (.reg [⟨(some 19), .mv (.t 1), none⟩,
   ⟨(some 20), .call (.c (.fn (.func 13) [] [])) [(.t 19)], none⟩,
   ⟨(some 18), .mv (.t 20), none⟩,
   ⟨(some 21), .ext (.t 18) 0, none⟩,
   ⟨(some 22), .ext (.t 18) 1, none⟩,
   ⟨(some 7), .mv (.t 21), none⟩,
   ⟨(some 8), .mv (.t 22), none⟩] [18, 19, 20, 21, 22])
 (.seq (.reg [⟨(some 24), .mv (.t 5), none⟩,
   ⟨(some 25), .mv (.t 6), none⟩,
   ⟨(some 26), .call (.c (.fn (.func 15) [] [])) [(.t 24), (.t 25)], none⟩,
   ⟨(some 23), .mv (.t 26), none⟩,
   ⟨(some 27), .ext (.t 23) 0, none⟩,
   ⟨(some 28), .ext (.t 23) 1, none⟩,
   ⟨(some 9), .mv (.t 27), none⟩,
   ⟨(some 10), .mv (.t 28), none⟩] [23, 24, 25, 26, 27, 28])
 (.seq (.seq (.reg [⟨(some 29), .mv (.t 10), none⟩,
   ⟨(some 30), .not (.t 29), none⟩,
   ⟨(some 31), .mv (.t 30), none⟩,
   ⟨(some 32), .mv (.t 9), (some (31, false))⟩,
   ⟨(some 33), .mv (.t 0), (some (31, false))⟩,
   ⟨(some 34), .bin .ne (.t 32) (.t 33), (some (31, false))⟩,
   ⟨(some 35), .pick (.t 31) (.c .tt) (.t 34), none⟩,
   ⟨(some 36), .mv (.t 35), none⟩,
   ⟨(some 37), .mv (.t 5), (some (36, false))⟩,
   ⟨(some 38), .bin .lt (.t 37) (.c (.i .i64 (.l 0))), (some (36, false))⟩,
   ⟨(some 39), .pick (.t 36) (.c .tt) (.t 38), none⟩,
   ⟨(some 40), .mv (.t 39), none⟩,
   ⟨(some 41), .mv (.t 6), (some (40, false))⟩,
   ⟨(some 42), .bin .lt (.t 41) (.c (.i .i64 (.l 1))), (some (40, false))⟩,
   ⟨(some 43), .pick (.t 40) (.c .tt) (.t 42), none⟩,
   ⟨(some 44), .mv (.t 43), none⟩,
   ⟨(some 45), .mv (.t 6), (some (44, false))⟩,
   ⟨(some 46), .bin .gt (.t 45) (.c (.i .i64 (.l 11))), (some (44, false))⟩,
   ⟨(some 47), .pick (.t 44) (.c .tt) (.t 46), none⟩,
   ⟨(some 48), .mv (.t 47), none⟩,
   ⟨(some 49), .mv (.t 5), (some (48, false))⟩,
   ⟨(some 50), .mv (.t 6), (some (48, false))⟩,
   ⟨(some 51), .cv .u64 (.t 50), (some (48, false))⟩,
   ⟨(some 52), .bin .shl (.c (.i .i64 (.l 1))) (.t 51), (some (48, false))⟩,
   ⟨(some 53), .bin .ge (.t 49) (.t 52), (some (48, false))⟩,
   ⟨(some 54), .pick (.t 48) (.c .tt) (.t 53), none⟩,
   ⟨(some 55), .mv (.t 54), none⟩,
   ⟨(some 56), .mv (.t 7), (some (55, false))⟩,
   ⟨(some 57), .bin .lt (.t 56) (.c (.i .i64 (.l 0))), (some (55, false))⟩,
   ⟨(some 58), .pick (.t 55) (.c .tt) (.t 57), none⟩,
   ⟨(some 59), .mv (.t 58), none⟩,
   ⟨(some 60), .mv (.t 8), (some (59, false))⟩,
   ⟨(some 61), .bin .lt (.t 60) (.c (.i .i64 (.l 1))), (some (59, false))⟩,
   ⟨(some 62), .pick (.t 59) (.c .tt) (.t 61), none⟩,
   ⟨(some 63), .mv (.t 62), none⟩,
   ⟨(some 64), .mv (.t 8), (some (63, false))⟩,
   ⟨(some 65), .bin .gt (.t 64) (.c (.i .i64 (.l 11))), (some (63, false))⟩,
   ⟨(some 66), .pick (.t 63) (.c .tt) (.t 65), none⟩] [9, 10, 29, 30, 31, 32, 33, 34, 35, 36, 37, 38, 39, 40, 41, 42, 43, 44, 45, 46, 47, 48, 49, 50, 51, 52, 53, 54, 55, 56, 57, 58, 59, 60, 61, 62, 63, 64, 65])
 (.cond (.t 66)
  (.seq (.reg [⟨(some 4), .mv (.c .ff), none⟩] [])
  .ret)
  .skip))
 (.seq (.reg [⟨(some 67), .mv (.t 6), none⟩,
   ⟨(some 68), .mv (.t 8), none⟩,
   ⟨(some 69), .bin .min (.t 67) (.t 68), none⟩,
   ⟨(some 11), .mv (.t 69), none⟩] [67, 68, 69])
 (.seq (.reg [⟨(some 70), .mv (.t 5), none⟩,
   ⟨(some 71), .mv (.t 6), none⟩,
   ⟨(some 72), .mv (.t 11), none⟩,
   ⟨(some 73), .bin .sub (.t 71) (.t 72), none⟩,
   ⟨(some 74), .cv .u64 (.t 73), none⟩,
   ⟨(some 75), .bin .shr (.t 70) (.t 74), none⟩,
   ⟨(some 76), .mv (.t 7), none⟩,
   ⟨(some 77), .mv (.t 8), none⟩,
   ⟨(some 78), .mv (.t 11), none⟩,
   ⟨(some 79), .bin .sub (.t 77) (.t 78), none⟩,
   ⟨(some 80), .cv .u64 (.t 79), none⟩,
   ⟨(some 81), .bin .shr (.t 76) (.t 80), none⟩,
   ⟨(some 82), .bin .eq (.t 75) (.t 81), none⟩,
   ⟨(some 12), .mv (.t 82), none⟩] [7, 8, 11, 70, 71, 72, 73, 74, 75, 76, 77, 78, 79, 80, 81, 82])
 (.seq (.reg [⟨(some 83), .mv (.t 12), none⟩,
   ⟨(some 84), .mv (.t 0), none⟩,
   ⟨(some 85), .mv (.t 1), none⟩,
   ⟨(some 86), .bin .eq (.t 84) (.t 85), none⟩,
   ⟨(some 87), .eqA ⟨false, [.kb]⟩ false (.t 83) (.t 86), none⟩,
   ⟨(some 88), .mv (.t 87), none⟩,
   ⟨(some 89), .mv (.t 6), (some (88, true))⟩,
   ⟨(some 90), .bin .sub (.c (.i .i64 (.l 11))) (.t 89), (some (88, true))⟩,
   ⟨(some 91), .cv .u64 (.t 90), (some (88, true))⟩,
   ⟨(some 92), .bin .shr (.c (.i .i64 (.l 2047))) (.t 91), (some (88, true))⟩,
   ⟨(some 93), .mv (.t 5), (some (88, true))⟩,
   ⟨(some 94), .bin .ne (.t 92) (.t 93), (some (88, true))⟩,
   ⟨(some 95), .pick (.t 88) (.t 94) (.c .ff), none⟩,
   ⟨(some 96), .mv (.t 95), none⟩,
   ⟨(some 97), .call (.c (.fn (.func 12) [] [])) [], (some (96, true))⟩,
   ⟨(some 98), .pick (.t 96) (.t 97) (.c .ff), none⟩,
   ⟨(some 4), .mv (.t 98), none⟩] [0, 1, 5, 6, 12, 83, 84, 85, 86, 87, 88, 89, 90, 91, 92, 93, 94, 95, 96, 97, 98])
 .ret))))))))
theorem fn_causeylaw07_HuffApart : FnIs Try.prog 4 99 [.t 4] causeylaw07_HuffApart :=
  ⟨Try.f4, _, kl_causeylaw07_HuffApart, Try.func4, rfl, rfl, by kernel_rfl, by kernel_rfl, Try.call4⟩

def kl_causeylaw07_HuffBack : Nat → List Nat := fun
  | 0 => [4]
  | 1 => [14, 15, 16, 17, 18, 19, 20]
  | 2 => [22]
  | 3 => [23, 24]
  | 4 => [25, 26, 27, 28, 29]
  | 5 => [30, 31]
  | 6 => [0, 6, 7, 32, 33, 34, 35, 36, 37, 38, 39, 40, 41, 42, 43, 44, 45, 46, 47, 48, 49, 50, 51, 52, 53, 54, 55, 56]
  | 8 => [8, 58]
  | 9 => [59, 60, 61, 62]
  | 10 => [64, 65]
  | 11 => [66, 67, 68, 69, 70, 71]
  | 12 => [10, 11, 72, 73, 74, 75, 76]
  | 14 => [78, 79, 80, 81, 82]
  | 15 => [83]
  | 16 => [12, 13, 85, 86, 87, 88, 89, 90, 91, 92, 93, 94]
  | 17 => [1, 12, 95, 96, 97, 98, 99, 100, 101]
  | _ => []
def dead_causeylaw07_HuffBack_0 : List Nat := [0, 2, 3, 4, 6, 7, 8, 10, 11, 12, 13, 14, 15, 16, 17, 18, 19, 20, 21, 22, 23, 24, 25, 26, 27, 28, 29, 30, 31, 32, 33, 34, 35, 36, 37, 38, 39, 40, 41, 42, 43, 44, 45, 46, 47, 48, 49, 50, 51, 52, 53, 54, 55, 56, 57, 58, 59, 60, 61, 62, 63, 64, 65, 66, 67, 68, 69, 70, 71, 72, 73, 74, 75, 76, 77, 78, 79, 80, 81, 82, 83, 84, 85, 86, 87, 88, 89, 90, 91, 92, 93, 94, 95, 96, 97, 98, 99, 100, 101] -- live: [1, 5, 9]
def causeylaw07_HuffBack : IR :=
 (.seq (.reg [⟨(some 4), .mv (.c .ff), none⟩] [4])
 (.seq (.seq (.reg [⟨(some 14), .mv (.t 0), none⟩,
   ⟨(some 15), .len false (.t 14), none⟩,
   ⟨(some 16), .bin .gt (.t 15) (.c (.i .i64 (.l 200))), none⟩,
   ⟨(some 17), .mv (.t 16), none⟩,
   ⟨(some 18), .mv (.t 1), (some (17, false))⟩,
   ⟨(some 19), .len false (.t 18), (some (17, false))⟩,
   ⟨(some 20), .bin .gt (.t 19) (.c (.i .i64 (.l 200))), (some (17, false))⟩,
   ⟨(some 21), .pick (.t 17) (.c .tt) (.t 20), none⟩] [14, 15, 16, 17, 18, 19, 20])
 (.cond (.t 21)
  (.seq (.reg [⟨(some 22), .call (.c (.fn (.func 12) [] [])) [], none⟩,
    ⟨(some 4), .mv (.t 22), none⟩] [22])
  .ret)
  .skip))
 (.seq (.reg [⟨(some 23), .mv (.t 0), none⟩,
   ⟨(some 24), .call (.c (.fn (.func 22) [] [])) [(.t 23)], none⟩,
   ⟨(some 5), .mv (.t 24), none⟩] [23, 24])
 (.seq (.reg [⟨(some 26), .mv (.t 5), none⟩,
   ⟨(some 27), .call (.c (.fn (.func 17) [] [])) [(.t 26)], none⟩,
   ⟨(some 25), .mv (.t 27), none⟩,
   ⟨(some 28), .ext (.t 25) 0, none⟩,
   ⟨(some 29), .ext (.t 25) 1, none⟩,
   ⟨(some 6), .mv (.t 28), none⟩,
   ⟨(some 7), .mv (.t 29), none⟩] [25, 26, 27, 28, 29])
 (.seq (.reg [⟨(some 30), .mv (.t 0), none⟩,
   ⟨(some 31), .call (.c (.fn (.func 19) [] [])) [(.t 30)], none⟩,
   ⟨(some 8), .mv (.t 31), none⟩] [30, 31])
 (.seq (.seq (.reg [⟨(some 32), .mv (.t 7), none⟩,
   ⟨(some 33), .bin .ne (.t 32) (.c (.i .i64 (.l 0))), none⟩,
   ⟨(some 34), .mv (.t 33), none⟩,
   ⟨(some 35), .mv (.t 6), (some (34, false))⟩,
   ⟨(some 36), .mv (.t 0), (some (34, false))⟩,
   ⟨(some 37), .call (.c (.fn (.func 21) [] [])) [(.t 35), (.t 36)], (some (34, false))⟩,
   ⟨(some 38), .not (.t 37), (some (34, false))⟩,
   ⟨(some 39), .pick (.t 34) (.c .tt) (.t 38), none⟩,
   ⟨(some 40), .mv (.t 39), none⟩,
   ⟨(some 41), .mv (.t 5), (some (40, false))⟩,
   ⟨(some 42), .len false (.t 41), (some (40, false))⟩,
   ⟨(some 43), .mv (.t 8), (some (40, false))⟩,
   ⟨(some 44), .bin .add (.t 43) (.c (.i .i64 (.l 7))), (some (40, false))⟩,
   ⟨(some 45), .bin .quo (.t 44) (.c (.i .i64 (.l 8))), (some (40, false))⟩,
   ⟨(some 46), .bin .ne (.t 42) (.t 45), (some (40, false))⟩,
   ⟨(some 47), .pick (.t 40) (.c .tt) (.t 46), none⟩,
   ⟨(some 48), .mv (.t 47), none⟩,
   ⟨(some 49), .mv (.t 0), (some (48, false))⟩,
   ⟨(some 50), .call (.c (.fn (.func 24) [] [])) [(.t 49)], (some (48, false))⟩,
   ⟨(some 51), .mv (.t 5), (some (48, false))⟩,
   ⟨(some 52), .len false (.t 51), (some (48, false))⟩,
   ⟨(some 53), .mv (.t 0), (some (48, false))⟩,
   ⟨(some 54), .len false (.t 53), (some (48, false))⟩,
   ⟨(some 55), .bin .lt (.t 52) (.t 54), (some (48, false))⟩,
   ⟨(some 56), .eqA ⟨false, [.kb]⟩ true (.t 50) (.t 55), (some (48, false))⟩,
   ⟨(some 57), .pick (.t 48) (.c .tt) (.t 56), none⟩] [0, 6, 7, 32, 33, 34, 35, 36, 37, 38, 39, 40, 41, 42, 43, 44, 45, 46, 47, 48, 49, 50, 51, 52, 53, 54, 55, 56])
 (.cond (.t 57)
  (.seq (.reg [⟨(some 4), .mv (.c .ff), none⟩] [])
  .ret)
  .skip))
 (.seq (.seq (.reg [⟨(some 58), .mv (.t 8), none⟩,
   ⟨(some 9), .mv (.t 58), none⟩] [8, 58])
 (.block 0 (.loop (.seq (.seq (.reg [⟨(some 59), .mv (.t 9), none⟩,
     ⟨(some 60), .mv (.t 5), none⟩,
     ⟨(some 61), .len false (.t 60), none⟩,
     ⟨(some 62), .bin .mul (.c (.i .i64 (.l 8))) (.t 61), none⟩,
     ⟨(some 63), .bin .lt (.t 59) (.t 62), none⟩] [59, 60, 61, 62])
   (.cond (.t 63)
    .skip
    (.exit 0)))
   (.seq (.block 1 (.seq (.reg [⟨(some 67), .mv (.t 5), none⟩,
      ⟨(some 68), .mv (.t 9), none⟩,
      ⟨(some 69), .call (.c (.fn (.func 26) [] [])) [(.t 67), (.t 68)], none⟩,
      ⟨(some 66), .mv (.t 69), none⟩,
      ⟨(some 70), .ext (.t 66) 0, none⟩,
      ⟨(some 71), .ext (.t 66) 1, none⟩,
      ⟨(some 10), .mv (.t 70), none⟩,
      ⟨(some 11), .mv (.t 71), none⟩] [66, 67, 68, 69, 70, 71])
    (.seq (.reg [⟨(some 72), .mv (.t 11), none⟩,
      ⟨(some 73), .not (.t 72), none⟩,
      ⟨(some 74), .mv (.t 73), none⟩,
      ⟨(some 75), .mv (.t 10), (some (74, false))⟩,
      ⟨(some 76), .bin .ne (.t 75) (.c (.i .i64 (.l 1))), (some (74, false))⟩,
      ⟨(some 77), .pick (.t 74) (.c .tt) (.t 76), none⟩] [10, 11, 72, 73, 74, 75, 76])
    (.cond (.t 77)
     (.seq (.reg [⟨(some 4), .mv (.c .ff), none⟩] [])
     .ret)
     .skip))))
   (.reg [⟨(some 64), .mv (.t 9), none⟩,
     ⟨(some 65), .bin .add (.t 64) (.c (.i .i64 (.l 1))), none⟩,
     ⟨(some 9), .mv (.t 65), none⟩] [64, 65]))))))
 (.seq (.reg [⟨(some 79), .mv (.t 1), none⟩,
   ⟨(some 80), .call (.c (.fn (.func 17) [] [])) [(.t 79)], none⟩,
   ⟨(some 78), .mv (.t 80), none⟩,
   ⟨(some 81), .ext (.t 78) 0, none⟩,
   ⟨(some 82), .ext (.t 78) 1, none⟩,
   ⟨(some 12), .mv (.t 81), none⟩,
   ⟨(some 13), .mv (.t 82), none⟩] [78, 79, 80, 81, 82])
 (.seq (.seq (.reg [⟨(some 83), .mv (.t 13), none⟩,
   ⟨(some 84), .bin .ne (.t 83) (.c (.i .i64 (.l 0))), none⟩] [83])
 (.cond (.t 84)
  (.seq (.reg [⟨(some 85), .mv (.t 13), none⟩,
    ⟨(some 86), .bin .eq (.t 85) (.c (.i .i64 (.l 70))), none⟩,
    ⟨(some 87), .mv (.t 86), none⟩,
    ⟨(some 88), .mv (.t 12), (some (87, true))⟩,
    ⟨(some 89), .len false (.t 88), (some (87, true))⟩,
    ⟨(some 90), .bin .eq (.t 89) (.c (.i .i64 (.l 0))), (some (87, true))⟩,
    ⟨(some 91), .pick (.t 87) (.t 90) (.c .ff), none⟩,
    ⟨(some 92), .mv (.t 91), none⟩,
    ⟨(some 93), .call (.c (.fn (.func 12) [] [])) [], (some (92, true))⟩,
    ⟨(some 94), .pick (.t 92) (.t 93) (.c .ff), none⟩,
    ⟨(some 4), .mv (.t 94), none⟩] [12, 13, 85, 86, 87, 88, 89, 90, 91, 92, 93, 94])
  .ret)
  .skip))
 (.seq (.reg [⟨(some 95), .mv (.t 12), none⟩,
   ⟨(some 96), .call (.c (.fn (.func 22) [] [])) [(.t 95)], none⟩,
   ⟨(some 97), .mv (.t 1), none⟩,
   ⟨(some 98), .call (.c (.fn (.func 21) [] [])) [(.t 96), (.t 97)], none⟩,
   ⟨(some 99), .mv (.t 98), none⟩,
   ⟨(some 100), .call (.c (.fn (.func 12) [] [])) [], (some (99, true))⟩,
   ⟨(some 101), .pick (.t 99) (.t 100) (.c .ff), none⟩,
   ⟨(some 4), .mv (.t 101), none⟩] [1, 12, 95, 96, 97, 98, 99, 100, 101])
 .ret))))))))))
theorem fn_causeylaw07_HuffBack : FnIs Try.prog 5 102 [.t 4] causeylaw07_HuffBack :=
  ⟨Try.f5, _, kl_causeylaw07_HuffBack, Try.func5, rfl, rfl, by kernel_rfl, by kernel_rfl, Try.call5⟩

def kl_causeylaw07_HuffRow : Nat → List Nat := fun
  | 0 => [2]
  | 1 => [10, 11]
  | 2 => [13]
  | 3 => [14, 15]
  | 6 => [16, 17, 18]
  | 7 => [20, 21]
  | 8 => [22, 23, 24, 25, 26, 27, 28, 29]
  | 9 => [30, 31, 32, 33, 34, 35, 36]
  | 10 => [6, 8, 9, 37, 38, 39, 40, 41, 42]
  | 12 => [7, 44, 45, 46]
  | 13 => [0, 3, 4, 47, 48, 49, 50, 51, 52, 53, 54, 55, 56, 57, 58, 59, 60, 61]
  | _ => []
def dead_causeylaw07_HuffRow_0 : List Nat := [1, 2, 6, 7, 8, 9, 10, 11, 12, 13, 14, 15, 16, 17, 18, 19, 20, 21, 22, 23, 24, 25, 26, 27, 28, 29, 30, 31, 32, 33, 34, 35, 36, 37, 38, 39, 40, 41, 42, 43, 44, 45, 46, 47, 48, 49, 50, 51, 52, 53, 54, 55, 56, 57, 58, 59, 60, 61] -- live: [0, 3, 4, 5]
def causeylaw07_HuffRow : IR :=
 (.seq (.reg [⟨(some 2), .mv (.c .ff), none⟩] [2])
 (.seq (.seq (.reg [⟨(some 10), .mv (.t 0), none⟩,
   ⟨(some 11), .len false (.t 10), none⟩,
   ⟨(some 12), .bin .gt (.t 11) (.c (.i .i64 (.l 200))), none⟩] [10, 11])
 (.cond (.t 12)
  (.seq (.reg [⟨(some 13), .call (.c (.fn (.func 12) [] [])) [], none⟩,
    ⟨(some 2), .mv (.t 13), none⟩] [13])
  .ret)
  .skip))
 (.seq (.reg [⟨(some 14), .mv (.t 0), none⟩,
   ⟨(some 15), .call (.c (.fn (.func 22) [] [])) [(.t 14)], none⟩,
   ⟨(some 3), .mv (.t 15), none⟩] [14, 15])
 (.seq (.reg [⟨(some 4), .mv (.c (.i .i64 (.l 0))), none⟩] [])
 (.seq (.seq (.reg [⟨(some 5), .mv (.c (.i .i64 (.l 0))), none⟩] [])
 (.block 0 (.loop (.seq (.seq (.reg [⟨(some 16), .mv (.t 5), none⟩,
     ⟨(some 17), .mv (.t 0), none⟩,
     ⟨(some 18), .len false (.t 17), none⟩,
     ⟨(some 19), .bin .lt (.t 16) (.t 18), none⟩] [16, 17, 18])
   (.cond (.t 19)
    .skip
    (.exit 0)))
   (.seq (.block 1 (.seq (.reg [⟨(some 23), .mv (.t 0), none⟩,
      ⟨(some 24), .mv (.t 5), none⟩,
      ⟨(some 25), .iadS 1 (.t 23) (.t 24), none⟩,
      ⟨(some 26), .load false 1 (.t 25), none⟩,
      ⟨(some 27), .call (.c (.fn (.func 13) [] [])) [(.t 26)], none⟩,
      ⟨(some 22), .mv (.t 27), none⟩,
      ⟨(some 28), .ext (.t 22) 0, none⟩,
      ⟨(some 29), .ext (.t 22) 1, none⟩,
      ⟨(some 6), .mv (.t 28), none⟩,
      ⟨(some 7), .mv (.t 29), none⟩] [22, 23, 24, 25, 26, 27, 28, 29])
    (.seq (.reg [⟨(some 31), .mv (.t 3), none⟩,
      ⟨(some 32), .mv (.t 4), none⟩,
      ⟨(some 33), .mv (.t 7), none⟩,
      ⟨(some 34), .call (.c (.fn (.func 27) [] [])) [(.t 31), (.t 32), (.t 33)], none⟩,
      ⟨(some 30), .mv (.t 34), none⟩,
      ⟨(some 35), .ext (.t 30) 0, none⟩,
      ⟨(some 36), .ext (.t 30) 1, none⟩,
      ⟨(some 8), .mv (.t 35), none⟩,
      ⟨(some 9), .mv (.t 36), none⟩] [30, 31, 32, 33, 34, 35, 36])
    (.seq (.seq (.reg [⟨(some 37), .mv (.t 9), none⟩,
      ⟨(some 38), .not (.t 37), none⟩,
      ⟨(some 39), .mv (.t 38), none⟩,
      ⟨(some 40), .mv (.t 8), (some (39, false))⟩,
      ⟨(some 41), .mv (.t 6), (some (39, false))⟩,
      ⟨(some 42), .bin .ne (.t 40) (.t 41), (some (39, false))⟩,
      ⟨(some 43), .pick (.t 39) (.c .tt) (.t 42), none⟩] [6, 8, 9, 37, 38, 39, 40, 41, 42])
    (.cond (.t 43)
     (.seq (.reg [⟨(some 2), .mv (.c .ff), none⟩] [])
     .ret)
     .skip))
    (.reg [⟨(some 44), .mv (.t 4), none⟩,
      ⟨(some 45), .mv (.t 7), none⟩,
      ⟨(some 46), .bin .add (.t 44) (.t 45), none⟩,
      ⟨(some 4), .mv (.t 46), none⟩] [7, 44, 45, 46])))))
   (.reg [⟨(some 20), .mv (.t 5), none⟩,
     ⟨(some 21), .bin .add (.t 20) (.c (.i .i64 (.l 1))), none⟩,
     ⟨(some 5), .mv (.t 21), none⟩] [20, 21]))))))
 (.seq (.reg [⟨(some 47), .mv (.t 4), none⟩,
   ⟨(some 48), .mv (.t 0), none⟩,
   ⟨(some 49), .call (.c (.fn (.func 19) [] [])) [(.t 48)], none⟩,
   ⟨(some 50), .bin .eq (.t 47) (.t 49), none⟩,
   ⟨(some 51), .mv (.t 50), none⟩,
   ⟨(some 52), .mv (.t 3), (some (51, true))⟩,
   ⟨(some 53), .len false (.t 52), (some (51, true))⟩,
   ⟨(some 54), .bin .mul (.c (.i .i64 (.l 8))) (.t 53), (some (51, true))⟩,
   ⟨(some 55), .mv (.t 4), (some (51, true))⟩,
   ⟨(some 56), .bin .sub (.t 54) (.t 55), (some (51, true))⟩,
   ⟨(some 57), .bin .lt (.t 56) (.c (.i .i64 (.l 8))), (some (51, true))⟩,
   ⟨(some 58), .pick (.t 51) (.t 57) (.c .ff), none⟩,
   ⟨(some 59), .mv (.t 58), none⟩,
   ⟨(some 60), .call (.c (.fn (.func 12) [] [])) [], (some (59, true))⟩,
   ⟨(some 61), .pick (.t 59) (.t 60) (.c .ff), none⟩,
   ⟨(some 2), .mv (.t 61), none⟩] [0, 3, 4, 47, 48, 49, 50, 51, 52, 53, 54, 55, 56, 57, 58, 59, 60, 61])
 .ret))))))
theorem fn_causeylaw07_HuffRow : FnIs Try.prog 6 62 [.t 2] causeylaw07_HuffRow :=
  ⟨Try.f6, _, kl_causeylaw07_HuffRow, Try.func6, rfl, rfl, by kernel_rfl, by kernel_rfl, Try.call6⟩

def kl_causeylaw07_HuffMore : Nat → List Nat := fun
  | 0 => [2]
  | 1 => [5, 6]
  | 2 => [8]
  | 3 => [0, 9, 10, 11, 12, 13, 14, 15, 16, 17, 18]
  | 4 => [3, 4, 19, 20, 21, 22, 23, 24, 25, 26, 27, 28]
  | _ => []
def causeylaw07_HuffMore : IR :=
 (.seq (.reg [⟨(some 2), .mv (.c .ff), none⟩] [2])
 (.seq (.seq (.reg [⟨(some 5), .mv (.t 0), none⟩,
   ⟨(some 6), .len false (.t 5), none⟩,
   ⟨(some 7), .bin .gt (.t 6) (.c (.i .i64 (.l 200))), none⟩] [5, 6])
 (.cond (.t 7)
  (.seq (.reg [⟨(some 8), .call (.c (.fn (.func 12) [] [])) [], none⟩,
    ⟨(some 2), .mv (.t 8), none⟩] [8])
  .ret)
  .skip))
 (.seq (.reg [⟨(some 10), .buildS 1 0 [(.i .u8 (.l 0))] [], none⟩,
   ⟨(some 11), .mv (.t 0), none⟩,
   ⟨(some 12), .call (.c (.fn (.func 22) [] [])) [(.t 11)], none⟩,
   ⟨(some 13), .app 1 (.t 10) (.t 12), none⟩,
   ⟨(some 14), .buildS 1 1 [(.i .u8 (.l 0))] [(0, (.c (.i .u8 (.l 255))))], none⟩,
   ⟨(some 15), .app 1 (.t 13) (.t 14), none⟩,
   ⟨(some 16), .call (.c (.fn (.func 17) [] [])) [(.t 15)], none⟩,
   ⟨(some 9), .mv (.t 16), none⟩,
   ⟨(some 17), .ext (.t 9) 0, none⟩,
   ⟨(some 18), .ext (.t 9) 1, none⟩,
   ⟨(some 3), .mv (.t 17), none⟩,
   ⟨(some 4), .mv (.t 18), none⟩] [0, 9, 10, 11, 12, 13, 14, 15, 16, 17, 18])
 (.seq (.reg [⟨(some 19), .mv (.t 4), none⟩,
   ⟨(some 20), .bin .eq (.t 19) (.c (.i .i64 (.l 70))), none⟩,
   ⟨(some 21), .mv (.t 20), none⟩,
   ⟨(some 22), .mv (.t 3), (some (21, true))⟩,
   ⟨(some 23), .len false (.t 22), (some (21, true))⟩,
   ⟨(some 24), .bin .eq (.t 23) (.c (.i .i64 (.l 0))), (some (21, true))⟩,
   ⟨(some 25), .pick (.t 21) (.t 24) (.c .ff), none⟩,
   ⟨(some 26), .mv (.t 25), none⟩,
   ⟨(some 27), .call (.c (.fn (.func 12) [] [])) [], (some (26, true))⟩,
   ⟨(some 28), .pick (.t 26) (.t 27) (.c .ff), none⟩,
   ⟨(some 2), .mv (.t 28), none⟩] [3, 4, 19, 20, 21, 22, 23, 24, 25, 26, 27, 28])
 .ret))))
theorem fn_causeylaw07_HuffMore : FnIs Try.prog 7 29 [.t 2] causeylaw07_HuffMore :=
  ⟨Try.f7, _, kl_causeylaw07_HuffMore, Try.func7, rfl, rfl, by kernel_rfl, by kernel_rfl, Try.call7⟩

def kl_causeylaw08_TextTells : Nat → List Nat := fun
  | 0 => [4]
  | 1 => [11, 12, 13, 14, 15, 16, 17]
  | 2 => [19]
  | 3 => [20, 21, 22, 23, 24, 25]
  | 4 => [1, 26, 27, 28, 29, 30, 31]
  | 5 => [0, 5, 6, 7, 8, 9, 10, 32, 33, 34, 35, 36, 37, 38, 39, 40, 41, 42, 43, 44, 45, 46, 47, 48, 49, 50, 51, 52, 53, 54, 55, 56, 57, 58, 59, 60, 61, 62, 63, 64, 65, 66, 67, 68, 69, 70, 71, 72, 73, 74, 75]
  | _ => []
def causeylaw08_TextTells : IR :=
 (.seq (.reg [⟨(some 4), .mv (.c .ff), none⟩] [4])
 (.seq (.seq (.reg [⟨(some 11), .mv (.t 0), none⟩,
   ⟨(some 12), .len true (.t 11), none⟩,
   ⟨(some 13), .bin .gt (.t 12) (.c (.i .i64 (.l 3000))), none⟩,
   ⟨(some 14), .mv (.t 13), none⟩,
   ⟨(some 15), .mv (.t 1), (some (14, false))⟩,
   ⟨(some 16), .len false (.t 15), (some (14, false))⟩,
   ⟨(some 17), .bin .gt (.t 16) (.c (.i .i64 (.l 3000))), (some (14, false))⟩,
   ⟨(some 18), .pick (.t 14) (.c .tt) (.t 17), none⟩] [11, 12, 13, 14, 15, 16, 17])
 (.cond (.t 18)
  (.seq (.reg [⟨(some 19), .call (.c (.fn (.func 28) [] [])) [], none⟩,
    ⟨(some 4), .mv (.t 19), none⟩] [19])
  .ret)
  .skip))
 (.seq (.reg [⟨(some 21), .mv (.t 1), none⟩,
   ⟨(some 22), .call (.c (.fn (.func 29) [] [])) [(.t 21)], none⟩,
   ⟨(some 20), .mv (.t 22), none⟩,
   ⟨(some 23), .ext (.t 20) 0, none⟩,
   ⟨(some 24), .ext (.t 20) 1, none⟩,
   ⟨(some 25), .ext (.t 20) 2, none⟩,
   ⟨(some 5), .mv (.t 23), none⟩,
   ⟨(some 6), .mv (.t 24), none⟩,
   ⟨(some 7), .mv (.t 25), none⟩] [20, 21, 22, 23, 24, 25])
 (.seq (.reg [⟨(some 27), .mv (.t 1), none⟩,
   ⟨(some 28), .call (.c (.fn (.func 30) [] [])) [(.t 27)], none⟩,
   ⟨(some 26), .mv (.t 28), none⟩,
   ⟨(some 29), .ext (.t 26) 0, none⟩,
   ⟨(some 30), .ext (.t 26) 1, none⟩,
   ⟨(some 31), .ext (.t 26) 2, none⟩,
   ⟨(some 8), .mv (.t 29), none⟩,
   ⟨(some 9), .mv (.t 30), none⟩,
   ⟨(some 10), .mv (.t 31), none⟩] [1, 26, 27, 28, 29, 30, 31])
 (.seq (.reg [⟨(some 32), .mv (.t 0), none⟩,
   ⟨(some 33), .call (.c (.fn (.func 32) [] [])) [(.t 32)], none⟩,
   ⟨(some 34), .mv (.t 0), none⟩,
   ⟨(some 35), .call (.c (.fn (.func 33) [] [])) [(.t 34)], none⟩,
   ⟨(some 36), .call (.c (.fn (.func 31) [] [])) [(.t 33), (.t 35)], none⟩,
   ⟨(some 37), .mv (.t 36), none⟩,
   ⟨(some 38), .mv (.t 0), (some (37, true))⟩,
   ⟨(some 39), .call (.c (.fn (.func 34) [] [])) [(.t 38)], (some (37, true))⟩,
   ⟨(some 40), .mv (.t 0), (some (37, true))⟩,
   ⟨(some 41), .call (.c (.fn (.func 35) [] [])) [(.t 40)], (some (37, true))⟩,
   ⟨(some 42), .call (.c (.fn (.func 31) [] [])) [(.t 39), (.t 41)], (some (37, true))⟩,
   ⟨(some 43), .pick (.t 37) (.t 42) (.c .ff), none⟩,
   ⟨(some 44), .mv (.t 43), none⟩,
   ⟨(some 45), .mv (.t 0), (some (44, true))⟩,
   ⟨(some 46), .call (.c (.fn (.func 36) [] [])) [(.t 45)], (some (44, true))⟩,
   ⟨(some 47), .mv (.t 0), (some (44, true))⟩,
   ⟨(some 48), .call (.c (.fn (.func 37) [] [])) [(.t 47)], (some (44, true))⟩,
   ⟨(some 49), .call (.c (.fn (.func 31) [] [])) [(.t 46), (.t 48)], (some (44, true))⟩,
   ⟨(some 50), .pick (.t 44) (.t 49) (.c .ff), none⟩,
   ⟨(some 51), .mv (.t 50), none⟩,
   ⟨(some 52), .mv (.t 0), (some (51, true))⟩,
   ⟨(some 53), .call (.c (.fn (.func 38) [] [])) [(.t 52)], (some (51, true))⟩,
   ⟨(some 54), .mv (.t 0), (some (51, true))⟩,
   ⟨(some 55), .call (.c (.fn (.func 39) [] [])) [(.t 54)], (some (51, true))⟩,
   ⟨(some 56), .bin .eq (.t 53) (.t 55), (some (51, true))⟩,
   ⟨(some 57), .pick (.t 51) (.t 56) (.c .ff), none⟩,
   ⟨(some 58), .mv (.t 57), none⟩,
   ⟨(some 59), .mv (.t 5), (some (58, true))⟩,
   ⟨(some 60), .mv (.t 8), (some (58, true))⟩,
   ⟨(some 61), .bin .eq (.t 59) (.t 60), (some (58, true))⟩,
   ⟨(some 62), .pick (.t 58) (.t 61) (.c .ff), none⟩,
   ⟨(some 63), .mv (.t 62), none⟩,
   ⟨(some 64), .mv (.t 6), (some (63, true))⟩,
   ⟨(some 65), .mv (.t 9), (some (63, true))⟩,
   ⟨(some 66), .call (.c (.fn (.func 31) [] [])) [(.t 64), (.t 65)], (some (63, true))⟩,
   ⟨(some 67), .pick (.t 63) (.t 66) (.c .ff), none⟩,
   ⟨(some 68), .mv (.t 67), none⟩,
   ⟨(some 69), .mv (.t 7), (some (68, true))⟩,
   ⟨(some 70), .mv (.t 10), (some (68, true))⟩,
   ⟨(some 71), .bin .eq (.t 69) (.t 70), (some (68, true))⟩,
   ⟨(some 72), .pick (.t 68) (.t 71) (.c .ff), none⟩,
   ⟨(some 73), .mv (.t 72), none⟩,
   ⟨(some 74), .call (.c (.fn (.func 28) [] [])) [], (some (73, true))⟩,
   ⟨(some 75), .pick (.t 73) (.t 74) (.c .ff), none⟩,
   ⟨(some 4), .mv (.t 75), none⟩] [0, 5, 6, 7, 8, 9, 10, 32, 33, 34, 35, 36, 37, 38, 39, 40, 41, 42, 43, 44, 45, 46, 47, 48, 49, 50, 51, 52, 53, 54, 55, 56, 57, 58, 59, 60, 61, 62, 63, 64, 65, 66, 67, 68, 69, 70, 71, 72, 73, 74, 75])
 .ret)))))
theorem fn_causeylaw08_TextTells : FnIs Try.prog 8 76 [.t 4] causeylaw08_TextTells :=
  ⟨Try.f8, _, kl_causeylaw08_TextTells, Try.func8, rfl, rfl, by kernel_rfl, by kernel_rfl, Try.call8⟩

def kl_causeylaw08_TextBack : Nat → List Nat := fun
  | 0 => [4]
  | 1 => [13, 14, 15, 16, 17, 18, 19]
  | 2 => [21]
  | 3 => [22, 23, 24, 25, 26, 27, 28]
  | 5 => [29]
  | 6 => [31, 32]
  | 7 => [33, 34, 35, 36]
  | 9 => [38, 39, 40, 41, 42, 43, 44, 45, 46, 47, 48, 49]
  | 10 => [10, 11, 50, 51, 52, 53, 54, 55, 56, 57, 58, 59, 60, 61, 62, 63]
  | 11 => [7, 8, 9, 12, 64, 65, 66, 67, 68, 69, 70, 71, 72, 73, 74, 75, 76, 77, 78, 79]
  | 13 => [0, 5, 81, 82, 83, 84, 85, 86, 87, 88, 89, 90, 91, 92, 93, 94, 95, 96, 97, 98, 99, 100, 101, 102, 103, 104, 105, 106, 107]
  | _ => []
def dead_causeylaw08_TextBack_0 : List Nat := [2, 3, 4, 7, 8, 9, 10, 11, 12, 13, 14, 15, 16, 17, 18, 19, 20, 21, 22, 23, 24, 25, 26, 27, 28, 29, 30, 31, 32, 33, 34, 35, 36, 37, 38, 39, 40, 41, 42, 43, 44, 45, 46, 47, 48, 49, 50, 51, 52, 53, 54, 55, 56, 57, 58, 59, 60, 61, 62, 63, 64, 65, 66, 67, 68, 69, 70, 71, 72, 73, 74, 75, 76, 77, 78, 79, 80, 81, 82, 83, 84, 85, 86, 87, 88, 89, 90, 91, 92, 93, 94, 95, 96, 97, 98, 99, 100, 101, 102, 103, 104, 105, 106, 107] -- live: [0, 1, 5, 6]
def ord_causeylaw08_TextBack_0 : List (Nat × List Nat) := [(0, []), (1, []), (2, []), (3, []), (4, []), (5, []), (6, []), (7, []), (8, []), (9, []), (10, []), (11, []), (12, []), (13, []), (14, []), (15, []), (16, [])]
def ord_causeylaw08_TextBack_1 : List (Nat × List Nat) := [(0, []), (1, []), (2, []), (3, []), (4, []), (5, []), (6, []), (7, []), (8, []), (9, []), (10, []), (11, []), (12, []), (13, []), (14, []), (15, []), (16, []), (17, []), (19, []), (20, []), (21, []), (18, [19, 20]), (22, []), (23, []), (24, []), (25, []), (26, []), (27, [])]
def causeylaw08_TextBack : IR :=
 (.seq (.reg [⟨(some 4), .mv (.c .ff), none⟩] [4])
 (.seq (.seq (.reg [⟨(some 13), .mv (.t 0), none⟩,
   ⟨(some 14), .len true (.t 13), none⟩,
   ⟨(some 15), .bin .gt (.t 14) (.c (.i .i64 (.l 3000))), none⟩,
   ⟨(some 16), .mv (.t 15), none⟩,
   ⟨(some 17), .mv (.t 1), (some (16, false))⟩,
   ⟨(some 18), .len false (.t 17), (some (16, false))⟩,
   ⟨(some 19), .bin .gt (.t 18) (.c (.i .i64 (.l 300))), (some (16, false))⟩,
   ⟨(some 20), .pick (.t 16) (.c .tt) (.t 19), none⟩] [13, 14, 15, 16, 17, 18, 19])
 (.cond (.t 20)
  (.seq (.reg [⟨(some 21), .call (.c (.fn (.func 28) [] [])) [], none⟩,
    ⟨(some 4), .mv (.t 21), none⟩] [21])
  .ret)
  .skip))
 (.seq (.reg [⟨(some 22), .mv (.t 0), none⟩,
   ⟨(some 23), .call (.c (.fn (.func 32) [] [])) [(.t 22)], none⟩,
   ⟨(some 24), .mv (.t 0), none⟩,
   ⟨(some 25), .call (.c (.fn (.func 34) [] [])) [(.t 24)], none⟩,
   ⟨(some 26), .mv (.t 0), none⟩,
   ⟨(some 27), .call (.c (.fn (.func 36) [] [])) [(.t 26)], none⟩,
   ⟨(some 28), .build [(.re (.slice none 0 0)), (.re (.slice none 0 0)), (.re (.slice none 0 0))] [(0, 1, (.t 23)), (1, 1, (.t 25)), (2, 1, (.t 27))], none⟩,
   ⟨(some 5), .alloc [(.re (.slice none 0 0)), (.re (.slice none 0 0)), (.re (.slice none 0 0))], none⟩,
   ⟨none, .store 3 (.t 5) (.t 28), none⟩] [22, 23, 24, 25, 26, 27, 28])
 (.seq (.seq (.reg [⟨(some 6), .mv (.c (.i .i64 (.l 0))), none⟩] [])
 (.block 0 (.loop (.seq (.seq (.reg [⟨(some 29), .mv (.t 6), none⟩,
     ⟨(some 30), .bin .lt (.t 29) (.c (.i .i64 (.l 3))), none⟩] [29])
   (.cond (.t 30)
    .skip
    (.exit 0)))
   (.seq (.block 1 (.seq (.seq (.reg [⟨(some 33), .mv (.t 6), none⟩,
      ⟨(some 34), .iadA 3 1 (.t 5) (.t 33), none⟩,
      ⟨(some 35), .load false 1 (.t 34), none⟩,
      ⟨(some 36), .len false (.t 35), none⟩,
      ⟨(some 37), .bin .eq (.t 36) (.c (.i .i64 (.l 0))), none⟩] [33, 34, 35, 36])
    (.cond (.t 37)
     (.seq (.reg [⟨(some 4), .mv (.c .ff), none⟩] [])
     .ret)
     .skip))
    (.seq (.reg [⟨(some 39), .buildS 1 0 [(.i .u8 (.l 0))] [], none⟩,
      ⟨(some 40), .mv (.t 6), none⟩,
      ⟨(some 41), .iadA 3 1 (.t 5) (.t 40), none⟩,
      ⟨(some 42), .load false 1 (.t 41), none⟩,
      ⟨(some 43), .app 1 (.t 39) (.t 42), none⟩,
      ⟨(some 44), .mv (.t 1), none⟩,
      ⟨(some 45), .app 1 (.t 43) (.t 44), none⟩,
      ⟨(some 46), .call (.c (.fn (.func 29) [] [])) [(.t 45)], none⟩,
      ⟨(some 38), .mv (.t 46), none⟩,
      ⟨(some 47), .ext (.t 38) 0, none⟩,
      ⟨(some 48), .ext (.t 38) 1, none⟩,
      ⟨(some 49), .ext (.t 38) 2, none⟩,
      ⟨(some 7), .mv (.t 47), none⟩,
      ⟨(some 8), .mv (.t 48), none⟩,
      ⟨(some 9), .mv (.t 49), none⟩] [38, 39, 40, 41, 42, 43, 44, 45, 46, 47, 48, 49])
    (.seq (.draw [⟨(some 51), .mv (.t 6), none⟩,
      ⟨(some 52), .iadA 3 1 (.t 5) (.t 51), none⟩,
      ⟨(some 53), .load false 1 (.t 52), none⟩,
      ⟨(some 54), .mv (.t 6), none⟩,
      ⟨(some 55), .iadA 3 1 (.t 5) (.t 54), none⟩,
      ⟨(some 56), .load false 1 (.t 55), none⟩,
      ⟨(some 57), .len false (.t 56), none⟩,
      ⟨(some 58), .bin .sub (.t 57) (.c (.i .i64 (.l 1))), none⟩,
      ⟨(some 59), .slc 1 (.t 53) none (some (.t 58)) none, none⟩,
      ⟨(some 60), .call (.c (.fn (.func 29) [] [])) [(.t 59)], none⟩,
      ⟨(some 50), .mv (.t 60), none⟩,
      ⟨(some 61), .ext (.t 50) 0, none⟩,
      ⟨(some 62), .ext (.t 50) 1, none⟩,
      ⟨(some 63), .ext (.t 50) 2, none⟩,
      ⟨(some 10), .mv (.t 61), none⟩,
      ⟨(some 11), .mv (.t 62), none⟩,
      ⟨(some 12), .mv (.t 63), none⟩] [[], [0], [1], [], [3], [4], [5], [6], [2, 7], [8], [9], [10], [10], [10], [11, 9, 0, 1, 2, 3, 4, 5, 6, 7, 8, 9, 10, 11], [12, 14, 0, 1, 2, 3, 4, 5, 6, 7, 8, 9, 10, 11, 12, 14], [13, 15, 0, 1, 2, 3, 4, 5, 6, 7, 8, 9, 10, 11, 12, 13, 14, 15]] [10, 11, 50, 51, 52, 53, 54, 55, 56, 57, 58, 59, 60, 61, 62, 63])
    (.seq (.reg [⟨(some 64), .mv (.t 9), none⟩,
      ⟨(some 65), .bin .ne (.t 64) (.c (.i .i64 (.l 0))), none⟩,
      ⟨(some 66), .mv (.t 65), none⟩,
      ⟨(some 67), .mv (.t 7), (some (66, false))⟩,
      ⟨(some 68), .mv (.t 0), (some (66, false))⟩,
      ⟨(some 69), .bin .ne (.t 67) (.t 68), (some (66, false))⟩,
      ⟨(some 70), .pick (.t 66) (.c .tt) (.t 69), none⟩,
      ⟨(some 71), .mv (.t 70), none⟩,
      ⟨(some 72), .mv (.t 8), (some (71, false))⟩,
      ⟨(some 73), .mv (.t 1), (some (71, false))⟩,
      ⟨(some 74), .call (.c (.fn (.func 31) [] [])) [(.t 72), (.t 73)], (some (71, false))⟩,
      ⟨(some 75), .not (.t 74), (some (71, false))⟩,
      ⟨(some 76), .pick (.t 71) (.c .tt) (.t 75), none⟩,
      ⟨(some 77), .mv (.t 76), none⟩,
      ⟨(some 78), .mv (.t 12), (some (77, false))⟩,
      ⟨(some 79), .bin .ne (.t 78) (.c (.i .i64 (.l 10))), (some (77, false))⟩,
      ⟨(some 80), .pick (.t 77) (.c .tt) (.t 79), none⟩] [7, 8, 9, 12, 64, 65, 66, 67, 68, 69, 70, 71, 72, 73, 74, 75, 76, 77, 78, 79])
    (.cond (.t 80)
     (.seq (.reg [⟨(some 4), .mv (.c .ff), none⟩] [])
     .ret)
     .skip))))))
   (.reg [⟨(some 31), .mv (.t 6), none⟩,
     ⟨(some 32), .bin .add (.t 31) (.c (.i .i64 (.l 1))), none⟩,
     ⟨(some 6), .mv (.t 32), none⟩] [31, 32]))))))
 (.seq (.draw [⟨(some 81), .iadA 3 1 (.t 5) (.c (.i .i64 (.l 2))), none⟩,
   ⟨(some 82), .load false 1 (.t 81), none⟩,
   ⟨(some 83), .len false (.t 82), none⟩,
   ⟨(some 84), .iadA 3 1 (.t 5) (.c (.i .i64 (.l 0))), none⟩,
   ⟨(some 85), .load false 1 (.t 84), none⟩,
   ⟨(some 86), .len false (.t 85), none⟩,
   ⟨(some 87), .bin .le (.t 83) (.t 86), none⟩,
   ⟨(some 88), .mv (.t 87), none⟩,
   ⟨(some 89), .iadA 3 1 (.t 5) (.c (.i .i64 (.l 2))), (some (88, true))⟩,
   ⟨(some 90), .load false 1 (.t 89), (some (88, true))⟩,
   ⟨(some 91), .len false (.t 90), (some (88, true))⟩,
   ⟨(some 92), .iadA 3 1 (.t 5) (.c (.i .i64 (.l 1))), (some (88, true))⟩,
   ⟨(some 93), .load false 1 (.t 92), (some (88, true))⟩,
   ⟨(some 94), .len false (.t 93), (some (88, true))⟩,
   ⟨(some 95), .bin .le (.t 91) (.t 94), (some (88, true))⟩,
   ⟨(some 96), .pick (.t 88) (.t 95) (.c .ff), none⟩,
   ⟨(some 97), .mv (.t 96), none⟩,
   ⟨(some 98), .mv (.t 0), (some (97, true))⟩,
   ⟨(some 99), .call (.c (.fn (.func 38) [] [])) [(.t 98)], (some (97, true))⟩,
   ⟨(some 100), .iadA 3 1 (.t 5) (.c (.i .i64 (.l 2))), (some (97, true))⟩,
   ⟨(some 101), .load false 1 (.t 100), (some (97, true))⟩,
   ⟨(some 102), .len false (.t 101), (some (97, true))⟩,
   ⟨(some 103), .bin .eq (.t 99) (.t 102), (some (97, true))⟩,
   ⟨(some 104), .pick (.t 97) (.t 103) (.c .ff), none⟩,
   ⟨(some 105), .mv (.t 104), none⟩,
   ⟨(some 106), .call (.c (.fn (.func 28) [] [])) [], (some (105, true))⟩,
   ⟨(some 107), .pick (.t 105) (.t 106) (.c .ff), none⟩,
   ⟨(some 4), .mv (.t 107), none⟩] [[], [0], [1], [], [3], [4], [2, 5], [6], [7], [8, 7], [9, 7], [7], [11, 7], [12, 7], [10, 13, 7], [7, 14], [15, 7], [16], [17, 16, 16], [16], [19, 16], [20, 16], [18, 21, 16], [16, 22], [23, 18], [24, 24], [24, 25], [26, 25, 0, 1, 2, 3, 4, 5, 6, 7, 8, 9, 10, 11, 12, 13, 14, 15, 16, 17, 18, 19, 20, 21, 22, 23, 24, 25, 26]] [0, 5, 81, 82, 83, 84, 85, 86, 87, 88, 89, 90, 91, 92, 93, 94, 95, 96, 97, 98, 99, 100, 101, 102, 103, 104, 105, 106, 107])
 .ret)))))
theorem fn_causeylaw08_TextBack : FnIs Try.prog 9 108 [.t 4] causeylaw08_TextBack :=
  ⟨Try.f9, _, kl_causeylaw08_TextBack, Try.func9, rfl, rfl, by kernel_rfl, by kernel_rfl, Try.call9⟩

def kl_causeylaw08_TextOnly : Nat → List Nat := fun
  | 0 => [2]
  | 1 => [12, 13]
  | 2 => [15]
  | 3 => [16, 17, 18, 19, 20, 21]
  | 4 => [22, 23, 24, 25, 26, 27]
  | 5 => [28, 29, 30, 31, 32, 33, 34]
  | 6 => [3, 4, 5, 8, 36, 37, 38, 39, 40, 41, 42, 43, 44, 45, 46, 47, 48, 49, 50, 51, 52, 53, 54, 55, 56, 57, 58, 59, 60, 61, 62, 63, 64, 65, 66]
  | 7 => [67, 68, 69]
  | 8 => [0, 70, 71, 72]
  | 9 => [3, 4, 5, 6, 7, 9, 74, 75, 76, 77, 78, 79, 80, 81, 82, 83, 84, 85, 86, 87, 88, 89, 90, 91]
  | 10 => [9, 92, 93, 94, 95, 96]
  | 11 => [97]
  | 12 => [3, 4, 5, 11, 99, 100, 101, 102, 103, 104, 105, 106, 107, 108, 109, 110, 111, 112, 113]
  | 13 => [3, 4, 5, 6, 7, 10, 114, 115, 116, 117, 118, 119, 120, 121, 122, 123, 124, 125, 126, 127, 128, 129, 130, 131]
  | _ => []
def causeylaw08_TextOnly : IR :=
 (.seq (.reg [⟨(some 2), .mv (.c .ff), none⟩] [2])
 (.seq (.seq (.reg [⟨(some 12), .mv (.t 0), none⟩,
   ⟨(some 13), .len false (.t 12), none⟩,
   ⟨(some 14), .bin .gt (.t 13) (.c (.i .i64 (.l 3000))), none⟩] [12, 13])
 (.cond (.t 14)
  (.seq (.reg [⟨(some 15), .call (.c (.fn (.func 28) [] [])) [], none⟩,
    ⟨(some 2), .mv (.t 15), none⟩] [15])
  .ret)
  .skip))
 (.seq (.reg [⟨(some 17), .mv (.t 0), none⟩,
   ⟨(some 18), .call (.c (.fn (.func 29) [] [])) [(.t 17)], none⟩,
   ⟨(some 16), .mv (.t 18), none⟩,
   ⟨(some 19), .ext (.t 16) 0, none⟩,
   ⟨(some 20), .ext (.t 16) 1, none⟩,
   ⟨(some 21), .ext (.t 16) 2, none⟩,
   ⟨(some 3), .mv (.t 19), none⟩,
   ⟨(some 4), .mv (.t 20), none⟩,
   ⟨(some 5), .mv (.t 21), none⟩] [16, 17, 18, 19, 20, 21])
 (.seq (.reg [⟨(some 23), .mv (.t 0), none⟩,
   ⟨(some 24), .call (.c (.fn (.func 40) [] [])) [(.t 23), (.c (.i .i64 (.l 7)))], none⟩,
   ⟨(some 22), .mv (.t 24), none⟩,
   ⟨(some 25), .ext (.t 22) 0, none⟩,
   ⟨(some 26), .ext (.t 22) 1, none⟩,
   ⟨(some 27), .ext (.t 22) 2, none⟩,
   ⟨(some 6), .mv (.t 25), none⟩,
   ⟨(some 7), .mv (.t 26), none⟩,
   ⟨(some 8), .mv (.t 27), none⟩] [22, 23, 24, 25, 26, 27])
 (.seq (.seq (.reg [⟨(some 28), .mv (.t 8), none⟩,
   ⟨(some 29), .bin .ne (.t 28) (.c (.i .i64 (.l 0))), none⟩,
   ⟨(some 30), .mv (.t 29), none⟩,
   ⟨(some 31), .mv (.t 7), (some (30, false))⟩,
   ⟨(some 32), .len false (.t 31), (some (30, false))⟩,
   ⟨(some 33), .mv (.t 6), (some (30, false))⟩,
   ⟨(some 34), .bin .lt (.t 32) (.t 33), (some (30, false))⟩,
   ⟨(some 35), .pick (.t 30) (.c .tt) (.t 34), none⟩] [28, 29, 30, 31, 32, 33, 34])
 (.cond (.t 35)
  (.seq (.reg [⟨(some 36), .mv (.t 5), none⟩,
    ⟨(some 37), .bin .ne (.t 36) (.c (.i .i64 (.l 0))), none⟩,
    ⟨(some 38), .mv (.t 37), none⟩,
    ⟨(some 39), .mv (.t 8), (some (38, true))⟩,
    ⟨(some 40), .bin .eq (.t 39) (.c (.i .i64 (.l 0))), (some (38, true))⟩,
    ⟨(some 41), .mv (.t 40), (some (38, true))⟩,
    ⟨(some 42), .mv (.t 5), (some (41, false))⟩,
    ⟨(some 43), .mv (.t 8), (some (41, false))⟩,
    ⟨(some 44), .bin .eq (.t 42) (.t 43), (some (41, false))⟩,
    ⟨(some 45), .pick (.t 41) (.c .tt) (.t 44), (some (38, true))⟩,
    ⟨(some 46), .pick (.t 38) (.t 45) (.c .ff), none⟩,
    ⟨(some 47), .mv (.t 46), none⟩,
    ⟨(some 48), .mv (.t 8), (some (47, true))⟩,
    ⟨(some 49), .bin .ne (.t 48) (.c (.i .i64 (.l 0))), (some (47, true))⟩,
    ⟨(some 50), .mv (.t 49), (some (47, true))⟩,
    ⟨(some 51), .mv (.t 5), (some (50, false))⟩,
    ⟨(some 52), .bin .eq (.t 51) (.c (.i .i64 (.l 10))), (some (50, false))⟩,
    ⟨(some 53), .pick (.t 50) (.c .tt) (.t 52), (some (47, true))⟩,
    ⟨(some 54), .pick (.t 47) (.t 53) (.c .ff), none⟩,
    ⟨(some 55), .mv (.t 54), none⟩,
    ⟨(some 56), .mv (.t 3), (some (55, true))⟩,
    ⟨(some 57), .bin .eq (.t 56) (.c (.s [])), (some (55, true))⟩,
    ⟨(some 58), .pick (.t 55) (.t 57) (.c .ff), none⟩,
    ⟨(some 59), .mv (.t 58), none⟩,
    ⟨(some 60), .mv (.t 4), (some (59, true))⟩,
    ⟨(some 61), .len false (.t 60), (some (59, true))⟩,
    ⟨(some 62), .bin .eq (.t 61) (.c (.i .i64 (.l 0))), (some (59, true))⟩,
    ⟨(some 63), .pick (.t 59) (.t 62) (.c .ff), none⟩,
    ⟨(some 64), .mv (.t 63), none⟩,
    ⟨(some 65), .call (.c (.fn (.func 28) [] [])) [], (some (64, true))⟩,
    ⟨(some 66), .pick (.t 64) (.t 65) (.c .ff), none⟩,
    ⟨(some 2), .mv (.t 66), none⟩] [3, 4, 5, 8, 36, 37, 38, 39, 40, 41, 42, 43, 44, 45, 46, 47, 48, 49, 50, 51, 52, 53, 54, 55, 56, 57, 58, 59, 60, 61, 62, 63, 64, 65, 66])
  .ret)
  .skip))
 (.seq (.reg [⟨(some 67), .mv (.t 7), none⟩,
   ⟨(some 68), .mv (.t 6), none⟩,
   ⟨(some 69), .slc 1 (.t 67) none (some (.t 68)) none, none⟩,
   ⟨(some 9), .mv (.t 69), none⟩] [67, 68, 69])
 (.seq (.seq (.reg [⟨(some 70), .mv (.t 0), none⟩,
   ⟨(some 71), .iadS 1 (.t 70) (.c (.i .i64 (.l 0))), none⟩,
   ⟨(some 72), .load false 1 (.t 71), none⟩,
   ⟨(some 73), .bin .lt (.t 72) (.c (.i .u8 (.l 128))), none⟩] [0, 70, 71, 72])
 (.cond (.t 73)
  (.seq (.reg [⟨(some 74), .mv (.t 5), none⟩,
    ⟨(some 75), .bin .eq (.t 74) (.c (.i .i64 (.l 0))), none⟩,
    ⟨(some 76), .mv (.t 75), none⟩,
    ⟨(some 77), .mv (.t 3), (some (76, true))⟩,
    ⟨(some 78), .mv (.t 9), (some (76, true))⟩,
    ⟨(some 79), .cvBS (.t 78), (some (76, true))⟩,
    ⟨(some 80), .bin .eq (.t 77) (.t 79), (some (76, true))⟩,
    ⟨(some 81), .pick (.t 76) (.t 80) (.c .ff), none⟩,
    ⟨(some 82), .mv (.t 81), none⟩,
    ⟨(some 83), .mv (.t 4), (some (82, true))⟩,
    ⟨(some 84), .mv (.t 7), (some (82, true))⟩,
    ⟨(some 85), .mv (.t 6), (some (82, true))⟩,
    ⟨(some 86), .slc 1 (.t 84) (some (.t 85)) none none, (some (82, true))⟩,
    ⟨(some 87), .call (.c (.fn (.func 31) [] [])) [(.t 83), (.t 86)], (some (82, true))⟩,
    ⟨(some 88), .pick (.t 82) (.t 87) (.c .ff), none⟩,
    ⟨(some 89), .mv (.t 88), none⟩,
    ⟨(some 90), .call (.c (.fn (.func 28) [] [])) [], (some (89, true))⟩,
    ⟨(some 91), .pick (.t 89) (.t 90) (.c .ff), none⟩,
    ⟨(some 2), .mv (.t 91), none⟩] [3, 4, 5, 6, 7, 9, 74, 75, 76, 77, 78, 79, 80, 81, 82, 83, 84, 85, 86, 87, 88, 89, 90, 91])
  .ret)
  .skip))
 (.seq (.reg [⟨(some 93), .mv (.t 9), none⟩,
   ⟨(some 94), .call (.c (.fn (.func 18) [] [])) [(.t 93)], none⟩,
   ⟨(some 92), .mv (.t 94), none⟩,
   ⟨(some 95), .ext (.t 92) 0, none⟩,
   ⟨(some 96), .ext (.t 92) 1, none⟩,
   ⟨(some 10), .mv (.t 95), none⟩,
   ⟨(some 11), .mv (.t 96), none⟩] [9, 92, 93, 94, 95, 96])
 (.seq (.seq (.reg [⟨(some 97), .mv (.t 11), none⟩,
   ⟨(some 98), .bin .ne (.t 97) (.c (.i .i64 (.l 0))), none⟩] [97])
 (.cond (.t 98)
  (.seq (.reg [⟨(some 99), .mv (.t 5), none⟩,
    ⟨(some 100), .mv (.t 11), none⟩,
    ⟨(some 101), .bin .eq (.t 99) (.t 100), none⟩,
    ⟨(some 102), .mv (.t 101), none⟩,
    ⟨(some 103), .mv (.t 3), (some (102, true))⟩,
    ⟨(some 104), .bin .eq (.t 103) (.c (.s [])), (some (102, true))⟩,
    ⟨(some 105), .pick (.t 102) (.t 104) (.c .ff), none⟩,
    ⟨(some 106), .mv (.t 105), none⟩,
    ⟨(some 107), .mv (.t 4), (some (106, true))⟩,
    ⟨(some 108), .len false (.t 107), (some (106, true))⟩,
    ⟨(some 109), .bin .eq (.t 108) (.c (.i .i64 (.l 0))), (some (106, true))⟩,
    ⟨(some 110), .pick (.t 106) (.t 109) (.c .ff), none⟩,
    ⟨(some 111), .mv (.t 110), none⟩,
    ⟨(some 112), .call (.c (.fn (.func 28) [] [])) [], (some (111, true))⟩,
    ⟨(some 113), .pick (.t 111) (.t 112) (.c .ff), none⟩,
    ⟨(some 2), .mv (.t 113), none⟩] [3, 4, 5, 11, 99, 100, 101, 102, 103, 104, 105, 106, 107, 108, 109, 110, 111, 112, 113])
  .ret)
  .skip))
 (.seq (.reg [⟨(some 114), .mv (.t 5), none⟩,
   ⟨(some 115), .bin .eq (.t 114) (.c (.i .i64 (.l 0))), none⟩,
   ⟨(some 116), .mv (.t 115), none⟩,
   ⟨(some 117), .mv (.t 3), (some (116, true))⟩,
   ⟨(some 118), .mv (.t 10), (some (116, true))⟩,
   ⟨(some 119), .cvBS (.t 118), (some (116, true))⟩,
   ⟨(some 120), .bin .eq (.t 117) (.t 119), (some (116, true))⟩,
   ⟨(some 121), .pick (.t 116) (.t 120) (.c .ff), none⟩,
   ⟨(some 122), .mv (.t 121), none⟩,
   ⟨(some 123), .mv (.t 4), (some (122, true))⟩,
   ⟨(some 124), .mv (.t 7), (some (122, true))⟩,
   ⟨(some 125), .mv (.t 6), (some (122, true))⟩,
   ⟨(some 126), .slc 1 (.t 124) (some (.t 125)) none none, (some (122, true))⟩,
   ⟨(some 127), .call (.c (.fn (.func 31) [] [])) [(.t 123), (.t 126)], (some (122, true))⟩,
   ⟨(some 128), .pick (.t 122) (.t 127) (.c .ff), none⟩,
   ⟨(some 129), .mv (.t 128), none⟩,
   ⟨(some 130), .call (.c (.fn (.func 28) [] [])) [], (some (129, true))⟩,
   ⟨(some 131), .pick (.t 129) (.t 130) (.c .ff), none⟩,
   ⟨(some 2), .mv (.t 131), none⟩] [3, 4, 5, 6, 7, 10, 114, 115, 116, 117, 118, 119, 120, 121, 122, 123, 124, 125, 126, 127, 128, 129, 130, 131])
 .ret))))))))))
theorem fn_causeylaw08_TextOnly : FnIs Try.prog 10 132 [.t 2] causeylaw08_TextOnly :=
  ⟨Try.f10, _, kl_causeylaw08_TextOnly, Try.func10, rfl, rfl, by kernel_rfl, by kernel_rfl, Try.call10⟩

def kl_causeylaw08_TextMany : Nat → List Nat := fun
  | 0 => [4]
  | 1 => [11, 12]
  | 2 => [14]
  | 5 => [15, 16, 17]
  | 6 => [19, 20]
  | 7 => [21, 22, 23, 24, 25]
  | 8 => [27]
  | 9 => [28, 29, 30, 31, 32, 33, 34, 35, 36]
  | 10 => [38, 39, 40, 41, 42, 43, 44]
  | 11 => [45, 46, 47, 48, 49, 50, 51]
  | 13 => [52, 53, 54]
  | 14 => [56, 57]
  | 15 => [5, 58, 59, 60, 61, 62, 63]
  | 16 => [8, 10, 64, 65, 66, 67, 68, 69, 70, 71, 72]
  | 18 => [9, 74]
  | 19 => [5, 75, 76, 77, 78, 79, 80]
  | _ => []
def dead_causeylaw08_TextMany_0 : List Nat := [1, 2, 3, 4, 6, 8, 9, 10, 11, 12, 13, 14, 15, 16, 17, 18, 19, 20, 21, 22, 23, 24, 25, 26, 27, 28, 29, 30, 31, 32, 33, 34, 35, 36, 37, 38, 39, 40, 41, 42, 43, 44, 45, 46, 47, 48, 49, 50, 51, 52, 53, 54, 55, 56, 57, 58, 59, 60, 61, 62, 63, 64, 65, 66, 67, 68, 69, 70, 71, 72, 73, 74, 75, 76, 77, 78, 79, 80] -- live: [0, 5, 7]
def dead_causeylaw08_TextMany_1 : List Nat := [2, 3, 4, 7, 8, 9, 10, 11, 12, 13, 14, 15, 16, 17, 18, 19, 20, 21, 22, 23, 24, 25, 26, 27, 28, 29, 30, 31, 32, 33, 34, 35, 36, 37, 38, 39, 40, 41, 42, 43, 44, 45, 46, 47, 48, 49, 50, 51, 52, 53, 54, 55, 56, 57, 58, 59, 60, 61, 62, 63, 64, 65, 66, 67, 68, 69, 70, 71, 72, 73, 74, 75, 76, 77, 78, 79, 80] -- live: [0, 1, 5, 6]
def causeylaw08_TextMany : IR :=
 (.seq (.reg [⟨(some 4), .mv (.c .ff), none⟩] [4])
 (.seq (.seq (.reg [⟨(some 11), .mv (.t 0), none⟩,
   ⟨(some 12), .len false (.t 11), none⟩,
   ⟨(some 13), .bin .gt (.t 12) (.c (.i .i64 (.l 40))), none⟩] [11, 12])
 (.cond (.t 13)
  (.seq (.reg [⟨(some 14), .call (.c (.fn (.func 28) [] [])) [], none⟩,
    ⟨(some 4), .mv (.t 14), none⟩] [14])
  .ret)
  .skip))
 (.seq (.reg [⟨(some 5), .mv (.c (.re (.slice none 0 0))), none⟩] [])
 (.seq (.seq (.reg [⟨(some 6), .mv (.c (.i .i64 (.l 0))), none⟩] [])
 (.block 0 (.loop (.seq (.seq (.reg [⟨(some 15), .mv (.t 6), none⟩,
     ⟨(some 16), .mv (.t 0), none⟩,
     ⟨(some 17), .len false (.t 16), none⟩,
     ⟨(some 18), .bin .lt (.t 15) (.t 17), none⟩] [15, 16, 17])
   (.cond (.t 18)
    .skip
    (.exit 0)))
   (.seq (.block 1 (.seq (.seq (.reg [⟨(some 21), .mv (.t 0), none⟩,
      ⟨(some 22), .mv (.t 6), none⟩,
      ⟨(some 23), .iadS 1 (.t 21) (.t 22), none⟩,
      ⟨(some 24), .load false 1 (.t 23), none⟩,
      ⟨(some 25), .len true (.t 24), none⟩,
      ⟨(some 26), .bin .gt (.t 25) (.c (.i .i64 (.l 400))), none⟩] [21, 22, 23, 24, 25])
    (.cond (.t 26)
     (.seq (.reg [⟨(some 27), .call (.c (.fn (.func 28) [] [])) [], none⟩,
       ⟨(some 4), .mv (.t 27), none⟩] [27])
     .ret)
     .skip))
    (.seq (.reg [⟨(some 28), .mv (.t 6), none⟩,
      ⟨(some 29), .mv (.t 1), none⟩,
      ⟨(some 30), .len false (.t 29), none⟩,
      ⟨(some 31), .bin .lt (.t 28) (.t 30), none⟩,
      ⟨(some 32), .mv (.t 31), none⟩,
      ⟨(some 33), .mv (.t 1), (some (32, true))⟩,
      ⟨(some 34), .mv (.t 6), (some (32, true))⟩,
      ⟨(some 35), .iadS 1 (.t 33) (.t 34), (some (32, true))⟩,
      ⟨(some 36), .load false 1 (.t 35), (some (32, true))⟩,
      ⟨(some 37), .pick (.t 32) (.t 36) (.c .ff), none⟩] [28, 29, 30, 31, 32, 33, 34, 35, 36])
    (.cond (.t 37)
     (.reg [⟨(some 38), .mv (.t 5), none⟩,
       ⟨(some 39), .mv (.t 0), none⟩,
       ⟨(some 40), .mv (.t 6), none⟩,
       ⟨(some 41), .iadS 1 (.t 39) (.t 40), none⟩,
       ⟨(some 42), .load false 1 (.t 41), none⟩,
       ⟨(some 43), .call (.c (.fn (.func 34) [] [])) [(.t 42)], none⟩,
       ⟨(some 44), .app 1 (.t 38) (.t 43), none⟩,
       ⟨(some 5), .mv (.t 44), none⟩] [38, 39, 40, 41, 42, 43, 44])
     (.reg [⟨(some 45), .mv (.t 5), none⟩,
       ⟨(some 46), .mv (.t 0), none⟩,
       ⟨(some 47), .mv (.t 6), none⟩,
       ⟨(some 48), .iadS 1 (.t 46) (.t 47), none⟩,
       ⟨(some 49), .load false 1 (.t 48), none⟩,
       ⟨(some 50), .call (.c (.fn (.func 32) [] [])) [(.t 49)], none⟩,
       ⟨(some 51), .app 1 (.t 45) (.t 50), none⟩,
       ⟨(some 5), .mv (.t 51), none⟩] [45, 46, 47, 48, 49, 50, 51])))))
   (.reg [⟨(some 19), .mv (.t 6), none⟩,
     ⟨(some 20), .bin .add (.t 19) (.c (.i .i64 (.l 1))), none⟩,
     ⟨(some 6), .mv (.t 20), none⟩] [19, 20]))))))
 (.seq (.seq (.reg [⟨(some 7), .mv (.c (.i .i64 (.l 0))), none⟩] [])
 (.block 2 (.loop (.seq (.seq (.reg [⟨(some 52), .mv (.t 7), none⟩,
     ⟨(some 53), .mv (.t 0), none⟩,
     ⟨(some 54), .len false (.t 53), none⟩,
     ⟨(some 55), .bin .lt (.t 52) (.t 54), none⟩] [52, 53, 54])
   (.cond (.t 55)
    .skip
    (.exit 2)))
   (.seq (.block 3 (.seq (.reg [⟨(some 59), .mv (.t 5), none⟩,
      ⟨(some 60), .call (.c (.fn (.func 29) [] [])) [(.t 59)], none⟩,
      ⟨(some 58), .mv (.t 60), none⟩,
      ⟨(some 61), .ext (.t 58) 0, none⟩,
      ⟨(some 62), .ext (.t 58) 1, none⟩,
      ⟨(some 63), .ext (.t 58) 2, none⟩,
      ⟨(some 8), .mv (.t 61), none⟩,
      ⟨(some 9), .mv (.t 62), none⟩,
      ⟨(some 10), .mv (.t 63), none⟩] [5, 58, 59, 60, 61, 62, 63])
    (.seq (.seq (.reg [⟨(some 64), .mv (.t 10), none⟩,
      ⟨(some 65), .bin .ne (.t 64) (.c (.i .i64 (.l 0))), none⟩,
      ⟨(some 66), .mv (.t 65), none⟩,
      ⟨(some 67), .mv (.t 8), (some (66, false))⟩,
      ⟨(some 68), .mv (.t 0), (some (66, false))⟩,
      ⟨(some 69), .mv (.t 7), (some (66, false))⟩,
      ⟨(some 70), .iadS 1 (.t 68) (.t 69), (some (66, false))⟩,
      ⟨(some 71), .load false 1 (.t 70), (some (66, false))⟩,
      ⟨(some 72), .bin .ne (.t 67) (.t 71), (some (66, false))⟩,
      ⟨(some 73), .pick (.t 66) (.c .tt) (.t 72), none⟩] [8, 10, 64, 65, 66, 67, 68, 69, 70, 71, 72])
    (.cond (.t 73)
     (.seq (.reg [⟨(some 4), .mv (.c .ff), none⟩] [])
     .ret)
     .skip))
    (.reg [⟨(some 74), .mv (.t 9), none⟩,
      ⟨(some 5), .mv (.t 74), none⟩] [9, 74]))))
   (.reg [⟨(some 56), .mv (.t 7), none⟩,
     ⟨(some 57), .bin .add (.t 56) (.c (.i .i64 (.l 1))), none⟩,
     ⟨(some 7), .mv (.t 57), none⟩] [56, 57]))))))
 (.seq (.reg [⟨(some 75), .mv (.t 5), none⟩,
   ⟨(some 76), .len false (.t 75), none⟩,
   ⟨(some 77), .bin .eq (.t 76) (.c (.i .i64 (.l 0))), none⟩,
   ⟨(some 78), .mv (.t 77), none⟩,
   ⟨(some 79), .call (.c (.fn (.func 28) [] [])) [], (some (78, true))⟩,
   ⟨(some 80), .pick (.t 78) (.t 79) (.c .ff), none⟩,
   ⟨(some 4), .mv (.t 80), none⟩] [5, 75, 76, 77, 78, 79, 80])
 .ret))))))
theorem fn_causeylaw08_TextMany : FnIs Try.prog 11 81 [.t 4] causeylaw08_TextMany :=
  ⟨Try.f11, _, kl_causeylaw08_TextMany, Try.func11, rfl, rfl, by kernel_rfl, by kernel_rfl, Try.call11⟩

def kl_causeylaw07_wakes : Nat → List Nat := fun
  | 0 => [0]
  | 1 => [15, 16, 17, 18]
  | 2 => [19, 20, 21, 22]
  | 3 => [23, 24, 25, 26]
  | 4 => [7, 27, 28, 29, 30]
  | 5 => [31, 32, 33, 34, 35]
  | 6 => [11, 36, 37, 38, 39, 40]
  | 7 => [41, 42, 43, 44]
  | 8 => [1, 2, 3, 4, 5, 6, 8, 9, 10, 12, 13, 14, 45, 46, 47, 48, 49, 50, 51, 52, 53, 54, 55, 56, 57, 58, 59, 60, 61, 62, 63, 64, 65, 66, 67, 68, 69, 70, 71, 72, 73, 74, 75, 76, 77, 78, 79, 80, 81, 82, 83, 84, 85, 86, 87, 88, 89, 90, 91, 92, 93, 94, 95, 96, 97, 98, 99, 100, 101, 102, 103, 104, 105, 106, 107, 108, 109, 110, 111, 112, 113, 114, 115, 116, 117, 118, 119, 120, 121]
  | _ => []
def causeylaw07_wakes : IR :=
 (.seq (.reg [⟨(some 0), .mv (.c .ff), none⟩] [0])
 (.seq (.reg [⟨(some 16), .call (.c (.fn (.func 13) [] [])) [(.c (.i .u8 (.l 97)))], none⟩,
   ⟨(some 15), .mv (.t 16), none⟩,
   ⟨(some 17), .ext (.t 15) 0, none⟩,
   ⟨(some 18), .ext (.t 15) 1, none⟩,
   ⟨(some 1), .mv (.t 17), none⟩,
   ⟨(some 2), .mv (.t 18), none⟩] [15, 16, 17, 18])
 (.seq (.reg [⟨(some 20), .call (.c (.fn (.func 13) [] [])) [(.c (.i .u8 (.l 0)))], none⟩,
   ⟨(some 19), .mv (.t 20), none⟩,
   ⟨(some 21), .ext (.t 19) 0, none⟩,
   ⟨(some 22), .ext (.t 19) 1, none⟩,
   ⟨(some 3), .mv (.t 21), none⟩,
   ⟨(some 4), .mv (.t 22), none⟩] [19, 20, 21, 22])
 (.seq (.reg [⟨(some 24), .call (.c (.fn (.func 15) [] [])) [(.c (.i .i64 (.l 6))), (.c (.i .i64 (.l 5)))], none⟩,
   ⟨(some 23), .mv (.t 24), none⟩,
   ⟨(some 25), .ext (.t 23) 0, none⟩,
   ⟨(some 26), .ext (.t 23) 1, none⟩,
   ⟨(some 5), .mv (.t 25), none⟩,
   ⟨(some 6), .mv (.t 26), none⟩] [23, 24, 25, 26])
 (.seq (.reg [⟨(some 28), .call (.c (.fn (.func 15) [] [])) [(.c (.i .i64 (.l 2047))), (.c (.i .i64 (.l 11)))], none⟩,
   ⟨(some 27), .mv (.t 28), none⟩,
   ⟨(some 29), .ext (.t 27) 0, none⟩,
   ⟨(some 30), .ext (.t 27) 1, none⟩,
   ⟨(some 7), .mv (.t 29), none⟩,
   ⟨(some 8), .mv (.t 30), none⟩] [7, 27, 28, 29, 30])
 (.seq (.reg [⟨(some 32), .buildS 1 1 [(.i .u8 (.l 0))] [(0, (.c (.i .u8 (.l 55))))], none⟩,
   ⟨(some 33), .call (.c (.fn (.func 17) [] [])) [(.t 32)], none⟩,
   ⟨(some 31), .mv (.t 33), none⟩,
   ⟨(some 34), .ext (.t 31) 0, none⟩,
   ⟨(some 35), .ext (.t 31) 1, none⟩,
   ⟨(some 9), .mv (.t 34), none⟩,
   ⟨(some 10), .mv (.t 35), none⟩] [31, 32, 33, 34, 35])
 (.seq (.reg [⟨(some 37), .buildS 1 2 [(.i .u8 (.l 0))] [(0, (.c (.i .u8 (.l 255)))), (1, (.c (.i .u8 (.l 255))))], none⟩,
   ⟨(some 38), .call (.c (.fn (.func 17) [] [])) [(.t 37)], none⟩,
   ⟨(some 36), .mv (.t 38), none⟩,
   ⟨(some 39), .ext (.t 36) 0, none⟩,
   ⟨(some 40), .ext (.t 36) 1, none⟩,
   ⟨(some 11), .mv (.t 39), none⟩,
   ⟨(some 12), .mv (.t 40), none⟩] [11, 36, 37, 38, 39, 40])
 (.seq (.reg [⟨(some 42), .call (.c (.fn (.func 17) [] [])) [(.c (.re (.slice none 0 0)))], none⟩,
   ⟨(some 41), .mv (.t 42), none⟩,
   ⟨(some 43), .ext (.t 41) 0, none⟩,
   ⟨(some 44), .ext (.t 41) 1, none⟩,
   ⟨(some 13), .mv (.t 43), none⟩,
   ⟨(some 14), .mv (.t 44), none⟩] [41, 42, 43, 44])
 (.seq (.reg [⟨(some 45), .mv (.t 1), none⟩,
   ⟨(some 46), .bin .eq (.t 45) (.c (.i .i64 (.l 6))), none⟩,
   ⟨(some 47), .mv (.t 46), none⟩,
   ⟨(some 48), .mv (.t 2), (some (47, true))⟩,
   ⟨(some 49), .bin .eq (.t 48) (.c (.i .i64 (.l 5))), (some (47, true))⟩,
   ⟨(some 50), .pick (.t 47) (.t 49) (.c .ff), none⟩,
   ⟨(some 51), .mv (.t 50), none⟩,
   ⟨(some 52), .mv (.t 3), (some (51, true))⟩,
   ⟨(some 53), .bin .eq (.t 52) (.c (.i .i64 (.l 1792))), (some (51, true))⟩,
   ⟨(some 54), .pick (.t 51) (.t 53) (.c .ff), none⟩,
   ⟨(some 55), .mv (.t 54), none⟩,
   ⟨(some 56), .mv (.t 4), (some (55, true))⟩,
   ⟨(some 57), .bin .eq (.t 56) (.c (.i .i64 (.l 11))), (some (55, true))⟩,
   ⟨(some 58), .pick (.t 55) (.t 57) (.c .ff), none⟩,
   ⟨(some 59), .mv (.t 58), none⟩,
   ⟨(some 60), .mv (.t 5), (some (59, true))⟩,
   ⟨(some 61), .bin .eq (.t 60) (.c (.i .u8 (.l 97))), (some (59, true))⟩,
   ⟨(some 62), .pick (.t 59) (.t 61) (.c .ff), none⟩,
   ⟨(some 63), .mv (.t 62), none⟩,
   ⟨(some 64), .mv (.t 6), (some (63, true))⟩,
   ⟨(some 65), .pick (.t 63) (.t 64) (.c .ff), none⟩,
   ⟨(some 66), .mv (.t 65), none⟩,
   ⟨(some 67), .mv (.t 8), (some (66, true))⟩,
   ⟨(some 68), .not (.t 67), (some (66, true))⟩,
   ⟨(some 69), .pick (.t 66) (.t 68) (.c .ff), none⟩,
   ⟨(some 70), .mv (.t 69), none⟩,
   ⟨(some 71), .buildS 1 1 [(.i .u8 (.l 0))] [(0, (.c (.i .u8 (.l 97))))], (some (70, true))⟩,
   ⟨(some 72), .cvLL (.t 71), (some (70, true))⟩,
   ⟨(some 73), .call (.c (.fn (.func 22) [] [])) [(.t 72)], (some (70, true))⟩,
   ⟨(some 74), .buildS 1 1 [(.i .u8 (.l 0))] [(0, (.c (.i .u8 (.l 55))))], (some (70, true))⟩,
   ⟨(some 75), .call (.c (.fn (.func 21) [] [])) [(.t 73), (.t 74)], (some (70, true))⟩,
   ⟨(some 76), .pick (.t 70) (.t 75) (.c .ff), none⟩,
   ⟨(some 77), .mv (.t 76), none⟩,
   ⟨(some 78), .buildS 1 1 [(.i .u8 (.l 0))] [(0, (.c (.i .u8 (.l 0))))], (some (77, true))⟩,
   ⟨(some 79), .call (.c (.fn (.func 22) [] [])) [(.t 78)], (some (77, true))⟩,
   ⟨(some 80), .buildS 1 2 [(.i .u8 (.l 0))] [(0, (.c (.i .u8 (.l 224)))), (1, (.c (.i .u8 (.l 31))))], (some (77, true))⟩,
   ⟨(some 81), .call (.c (.fn (.func 21) [] [])) [(.t 79), (.t 80)], (some (77, true))⟩,
   ⟨(some 82), .pick (.t 77) (.t 81) (.c .ff), none⟩,
   ⟨(some 83), .mv (.t 82), none⟩,
   ⟨(some 84), .mv (.t 9), (some (83, true))⟩,
   ⟨(some 85), .cvBS (.t 84), (some (83, true))⟩,
   ⟨(some 86), .bin .eq (.t 85) (.c (.s [97])), (some (83, true))⟩,
   ⟨(some 87), .pick (.t 83) (.t 86) (.c .ff), none⟩,
   ⟨(some 88), .mv (.t 87), none⟩,
   ⟨(some 89), .mv (.t 10), (some (88, true))⟩,
   ⟨(some 90), .bin .eq (.t 89) (.c (.i .i64 (.l 0))), (some (88, true))⟩,
   ⟨(some 91), .pick (.t 88) (.t 90) (.c .ff), none⟩,
   ⟨(some 92), .mv (.t 91), none⟩,
   ⟨(some 93), .mv (.t 12), (some (92, true))⟩,
   ⟨(some 94), .bin .eq (.t 93) (.c (.i .i64 (.l 70))), (some (92, true))⟩,
   ⟨(some 95), .pick (.t 92) (.t 94) (.c .ff), none⟩,
   ⟨(some 96), .mv (.t 95), none⟩,
   ⟨(some 97), .mv (.t 13), (some (96, true))⟩,
   ⟨(some 98), .len false (.t 97), (some (96, true))⟩,
   ⟨(some 99), .bin .eq (.t 98) (.c (.i .i64 (.l 0))), (some (96, true))⟩,
   ⟨(some 100), .pick (.t 96) (.t 99) (.c .ff), none⟩,
   ⟨(some 101), .mv (.t 100), none⟩,
   ⟨(some 102), .mv (.t 14), (some (101, true))⟩,
   ⟨(some 103), .bin .eq (.t 102) (.c (.i .i64 (.l 0))), (some (101, true))⟩,
   ⟨(some 104), .pick (.t 101) (.t 103) (.c .ff), none⟩,
   ⟨(some 105), .mv (.t 104), none⟩,
   ⟨(some 106), .buildS 1 4 [(.i .u8 (.l 0))] [(0, (.c (.i .u8 (.l 97)))), (1, (.c (.i .u8 (.l 46)))), (2, (.c (.i .u8 (.l 65)))), (3, (.c (.i .u8 (.l 33))))], (some (105, true))⟩,
   ⟨(some 107), .cvLL (.t 106), (some (105, true))⟩,
   ⟨(some 108), .call (.c (.fn (.func 19) [] [])) [(.t 107)], (some (105, true))⟩,
   ⟨(some 109), .bin .eq (.t 108) (.c (.i .i64 (.l 29))), (some (105, true))⟩,
   ⟨(some 110), .pick (.t 105) (.t 109) (.c .ff), none⟩,
   ⟨(some 111), .mv (.t 110), none⟩,
   ⟨(some 112), .buildS 1 2 [(.i .u8 (.l 0))] [(0, (.c (.i .u8 (.l 97)))), (1, (.c (.i .u8 (.l 97))))], (some (111, true))⟩,
   ⟨(some 113), .cvLL (.t 112), (some (111, true))⟩,
   ⟨(some 114), .call (.c (.fn (.func 24) [] [])) [(.t 113)], (some (111, true))⟩,
   ⟨(some 115), .eqA ⟨false, [.kb]⟩ false (.t 114) (.c .ff), (some (111, true))⟩,
   ⟨(some 116), .pick (.t 111) (.t 115) (.c .ff), none⟩,
   ⟨(some 117), .mv (.t 116), none⟩,
   ⟨(some 118), .buildS 1 3 [(.i .u8 (.l 0))] [(0, (.c (.i .u8 (.l 97)))), (1, (.c (.i .u8 (.l 97)))), (2, (.c (.i .u8 (.l 97))))], (some (117, true))⟩,
   ⟨(some 119), .cvLL (.t 118), (some (117, true))⟩,
   ⟨(some 120), .call (.c (.fn (.func 24) [] [])) [(.t 119)], (some (117, true))⟩,
   ⟨(some 121), .pick (.t 117) (.t 120) (.c .ff), none⟩,
   ⟨(some 0), .mv (.t 121), none⟩] [1, 2, 3, 4, 5, 6, 8, 9, 10, 12, 13, 14, 45, 46, 47, 48, 49, 50, 51, 52, 53, 54, 55, 56, 57, 58, 59, 60, 61, 62, 63, 64, 65, 66, 67, 68, 69, 70, 71, 72, 73, 74, 75, 76, 77, 78, 79, 80, 81, 82, 83, 84, 85, 86, 87, 88, 89, 90, 91, 92, 93, 94, 95, 96, 97, 98, 99, 100, 101, 102, 103, 104, 105, 106, 107, 108, 109, 110, 111, 112, 113, 114, 115, 116, 117, 118, 119, 120, 121])
 .ret)))))))))
theorem fn_causeylaw07_wakes : FnIs Try.prog 12 122 [.t 0] causeylaw07_wakes :=
  ⟨Try.f12, _, kl_causeylaw07_wakes, Try.func12, rfl, rfl, by kernel_rfl, by kernel_rfl, Try.call12⟩

def kl_huff_Code : Nat → List Nat := fun
  | 0 => [2, 3]
  | 1 => [0, 5, 6, 7]
  | 2 => [4, 8, 9, 10, 11]
  | _ => []
def ord_huff_Code_0 : List (Nat × List Nat) := [(0, []), (1, []), (2, []), (3, []), (4, []), (5, [])]
def huff_Code : IR :=
 (.seq (.reg [⟨(some 2), .mv (.c (.i .i64 (.l 0))), none⟩,
   ⟨(some 3), .mv (.c (.i .i64 (.l 0))), none⟩] [2, 3])
 (.seq (.reg [⟨(some 5), .call (.c (.fn (.func 41) [] [])) [], none⟩,
   ⟨(some 6), .mv (.t 0), none⟩,
   ⟨(some 7), .ixA true 256 2 (.t 5) (.t 6), none⟩,
   ⟨(some 4), .alloc [(.i .i64 (.l 0)), (.i .i64 (.l 0))], none⟩,
   ⟨none, .store 2 (.t 4) (.t 7), none⟩] [0, 5, 6, 7])
 (.seq (.draw [⟨(some 8), .iadA 2 1 (.t 4) (.c (.i .i64 (.l 0))), none⟩,
   ⟨(some 9), .load false 1 (.t 8), none⟩,
   ⟨(some 10), .iadA 2 1 (.t 4) (.c (.i .i64 (.l 1))), none⟩,
   ⟨(some 11), .load false 1 (.t 10), none⟩,
   ⟨(some 2), .mv (.t 9), none⟩,
   ⟨(some 3), .mv (.t 11), none⟩] [[], [0], [], [2], [1, 0, 1], [3, 4, 0, 1, 2, 3, 4]] [4, 8, 9, 10, 11])
 .ret)))
theorem fn_huff_Code : FnIs Try.prog 13 12 [.t 2, .t 3] huff_Code :=
  ⟨Try.f13, _, kl_huff_Code, Try.func13, rfl, rfl, by kernel_rfl, by kernel_rfl, Try.call13⟩

def kl_causeyref07_Code : Nat → List Nat := fun
  | 0 => [2, 3]
  | 1 => [5, 6, 7]
  | 2 => [0, 8, 9]
  | 3 => [11, 12, 13]
  | 4 => [0, 14, 15, 16]
  | 5 => [18, 19, 20]
  | 6 => [0, 21, 22, 23]
  | 7 => [0, 24, 25, 26]
  | _ => []
def causeyref07_Code : IR :=
 (.seq (.reg [⟨(some 2), .mv (.c (.i .i64 (.l 0))), none⟩,
   ⟨(some 3), .mv (.c (.i .i64 (.l 0))), none⟩] [2, 3])
 (.seq (.block 0 (.seq (.reg [⟨(some 5), .mv (.t 0), none⟩,
    ⟨(some 6), .call (.c (.fn (.func 42) [] [])) [(.c (.s [45, 47, 48, 49, 50, 51, 97, 99, 101, 105, 110, 111, 114, 115, 116, 117])), (.t 5)], none⟩,
    ⟨(some 7), .bin .ge (.t 6) (.c (.i .i64 (.l 0))), none⟩,
    ⟨(some 4), .mv (.t 7), none⟩] [5, 6, 7])
  (.cond (.t 4)
   (.seq (.reg [⟨(some 8), .mv (.t 0), none⟩,
     ⟨(some 9), .call (.c (.fn (.func 42) [] [])) [(.c (.s [45, 47, 48, 49, 50, 51, 97, 99, 101, 105, 110, 111, 114, 115, 116, 117])), (.t 8)], none⟩,
     ⟨(some 2), .mv (.t 9), none⟩,
     ⟨(some 3), .mv (.c (.i .i64 (.l 5))), none⟩] [0, 8, 9])
   .ret)
   (.seq (.reg [⟨(some 11), .mv (.t 0), none⟩,
     ⟨(some 12), .call (.c (.fn (.func 42) [] [])) [(.c (.s [46, 52, 53, 54, 55, 56, 57, 58, 98, 100, 102, 103, 104, 108, 109, 112])), (.t 11)], none⟩,
     ⟨(some 13), .bin .ge (.t 12) (.c (.i .i64 (.l 0))), none⟩,
     ⟨(some 10), .mv (.t 13), none⟩] [11, 12, 13])
   (.cond (.t 10)
    (.seq (.reg [⟨(some 14), .mv (.t 0), none⟩,
      ⟨(some 15), .call (.c (.fn (.func 42) [] [])) [(.c (.s [46, 52, 53, 54, 55, 56, 57, 58, 98, 100, 102, 103, 104, 108, 109, 112])), (.t 14)], none⟩,
      ⟨(some 16), .bin .add (.c (.i .i64 (.l 32))) (.t 15), none⟩,
      ⟨(some 2), .mv (.t 16), none⟩,
      ⟨(some 3), .mv (.c (.i .i64 (.l 6))), none⟩] [0, 14, 15, 16])
    .ret)
    (.seq (.reg [⟨(some 18), .mv (.t 0), none⟩,
      ⟨(some 19), .call (.c (.fn (.func 42) [] [])) [(.c (.s [65, 66, 67, 68, 69, 70, 71, 72, 106, 107, 113, 118, 119, 120, 121, 122])), (.t 18)], none⟩,
      ⟨(some 20), .bin .ge (.t 19) (.c (.i .i64 (.l 0))), none⟩,
      ⟨(some 17), .mv (.t 20), none⟩] [18, 19, 20])
    (.cond (.t 17)
     (.seq (.reg [⟨(some 21), .mv (.t 0), none⟩,
       ⟨(some 22), .call (.c (.fn (.func 42) [] [])) [(.c (.s [65, 66, 67, 68, 69, 70, 71, 72, 106, 107, 113, 118, 119, 120, 121, 122])), (.t 21)], none⟩,
       ⟨(some 23), .bin .add (.c (.i .i64 (.l 96))) (.t 22), none⟩,
       ⟨(some 2), .mv (.t 23), none⟩,
       ⟨(some 3), .mv (.c (.i .i64 (.l 7))), none⟩] [0, 21, 22, 23])
     .ret)
     .skip)))))))
 (.seq (.reg [⟨(some 24), .mv (.t 0), none⟩,
   ⟨(some 25), .call (.c (.fn (.func 43) [] [])) [(.t 24)], none⟩,
   ⟨(some 26), .bin .add (.c (.i .i64 (.l 1792))) (.t 25), none⟩,
   ⟨(some 2), .mv (.t 26), none⟩,
   ⟨(some 3), .mv (.c (.i .i64 (.l 11))), none⟩] [0, 24, 25, 26])
 .ret)))
theorem fn_causeyref07_Code : FnIs Try.prog 14 27 [.t 2, .t 3] causeyref07_Code :=
  ⟨Try.f14, _, kl_causeyref07_Code, Try.func14, rfl, rfl, by kernel_rfl, by kernel_rfl, Try.call14⟩

def kl_huff_Of : Nat → List Nat := fun
  | 0 => [4, 5]
  | 1 => [0, 1, 8, 9, 10, 11, 12, 13, 14, 15]
  | 2 => [6, 7, 16, 17]
  | _ => []
def huff_Of : IR :=
 (.seq (.reg [⟨(some 4), .mv (.c (.i .u8 (.l 0))), none⟩,
   ⟨(some 5), .mv (.c .ff), none⟩] [4, 5])
 (.seq (.reg [⟨(some 9), .call (.c (.fn (.func 44) [] [])) [], none⟩,
   ⟨(some 10), .mv (.t 0), none⟩,
   ⟨(some 11), .mv (.t 1), none⟩,
   ⟨(some 12), .build [(.i .i64 (.l 0)), (.i .i64 (.l 0))] [(0, 1, (.t 10)), (1, 1, (.t 11))], none⟩,
   ⟨(some 13), .look ⟨true, [.ki, .ki]⟩ (.i .u8 (.l 0)) true (.t 9) (.t 12), none⟩,
   ⟨(some 8), .mv (.t 13), none⟩,
   ⟨(some 14), .ext (.t 8) 0, none⟩,
   ⟨(some 15), .ext (.t 8) 1, none⟩,
   ⟨(some 6), .mv (.t 14), none⟩,
   ⟨(some 7), .mv (.t 15), none⟩] [0, 1, 8, 9, 10, 11, 12, 13, 14, 15])
 (.seq (.reg [⟨(some 16), .mv (.t 6), none⟩,
   ⟨(some 17), .mv (.t 7), none⟩,
   ⟨(some 4), .mv (.t 16), none⟩,
   ⟨(some 5), .mv (.t 17), none⟩] [6, 7, 16, 17])
 .ret)))
theorem fn_huff_Of : FnIs Try.prog 15 18 [.t 4, .t 5] huff_Of :=
  ⟨Try.f15, _, kl_huff_Of, Try.func15, rfl, rfl, by kernel_rfl, by kernel_rfl, Try.call15⟩

def kl_causeyref07_Of : Nat → List Nat := fun
  | 0 => [4, 5]
  | 2 => [9]
  | 3 => [11, 12]
  | 4 => [13, 14, 15, 16, 17, 18]
  | 5 => [7, 8, 19, 20, 21, 22, 23, 24, 25]
  | 6 => [6, 27, 28]
  | _ => []
def dead_causeyref07_Of_0 : List Nat := [2, 3, 4, 5, 7, 8, 9, 10, 11, 12, 13, 14, 15, 16, 17, 18, 19, 20, 21, 22, 23, 24, 25, 26, 27, 28] -- live: [0, 1, 6]
def causeyref07_Of : IR :=
 (.seq (.reg [⟨(some 4), .mv (.c (.i .u8 (.l 0))), none⟩,
   ⟨(some 5), .mv (.c .ff), none⟩] [4, 5])
 (.seq (.seq (.reg [⟨(some 6), .mv (.c (.i .i64 (.l 0))), none⟩] [])
 (.block 0 (.loop (.seq (.seq (.reg [⟨(some 9), .mv (.t 6), none⟩,
     ⟨(some 10), .bin .lt (.t 9) (.c (.i .i64 (.l 256))), none⟩] [9])
   (.cond (.t 10)
    .skip
    (.exit 0)))
   (.seq (.block 1 (.seq (.reg [⟨(some 14), .mv (.t 6), none⟩,
      ⟨(some 15), .cv .u8 (.t 14), none⟩,
      ⟨(some 16), .call (.c (.fn (.func 14) [] [])) [(.t 15)], none⟩,
      ⟨(some 13), .mv (.t 16), none⟩,
      ⟨(some 17), .ext (.t 13) 0, none⟩,
      ⟨(some 18), .ext (.t 13) 1, none⟩,
      ⟨(some 7), .mv (.t 17), none⟩,
      ⟨(some 8), .mv (.t 18), none⟩] [13, 14, 15, 16, 17, 18])
    (.seq (.reg [⟨(some 19), .mv (.t 7), none⟩,
      ⟨(some 20), .mv (.t 0), none⟩,
      ⟨(some 21), .bin .eq (.t 19) (.t 20), none⟩,
      ⟨(some 22), .mv (.t 21), none⟩,
      ⟨(some 23), .mv (.t 8), (some (22, true))⟩,
      ⟨(some 24), .mv (.t 1), (some (22, true))⟩,
      ⟨(some 25), .bin .eq (.t 23) (.t 24), (some (22, true))⟩,
      ⟨(some 26), .pick (.t 22) (.t 25) (.c .ff), none⟩] [7, 8, 19, 20, 21, 22, 23, 24, 25])
    (.cond (.t 26)
     (.seq (.reg [⟨(some 27), .mv (.t 6), none⟩,
       ⟨(some 28), .cv .u8 (.t 27), none⟩,
       ⟨(some 4), .mv (.t 28), none⟩,
       ⟨(some 5), .mv (.c .tt), none⟩] [6, 27, 28])
     .ret)
     .skip))))
   (.reg [⟨(some 11), .mv (.t 6), none⟩,
     ⟨(some 12), .bin .add (.t 11) (.c (.i .i64 (.l 1))), none⟩,
     ⟨(some 6), .mv (.t 12), none⟩] [11, 12]))))))
 (.seq (.reg [⟨(some 4), .mv (.c (.i .u8 (.l 0))), none⟩,
   ⟨(some 5), .mv (.c .ff), none⟩] [])
 .ret)))
theorem fn_causeyref07_Of : FnIs Try.prog 16 29 [.t 4, .t 5] causeyref07_Of :=
  ⟨Try.f16, _, kl_causeyref07_Of, Try.func16, rfl, rfl, by kernel_rfl, by kernel_rfl, Try.call16⟩

def kl_huff_Take : Nat → List Nat := fun
  | 0 => [3]
  | 1 => [13]
  | 2 => [6]
  | 5 => [17]
  | 6 => [18, 19, 20, 21, 22, 23, 24]
  | 7 => [10, 25]
  | 8 => [9, 27, 28, 29, 30, 31, 32, 33, 34]
  | 9 => [12]
  | 10 => [11, 36, 37, 38, 39]
  | 11 => [8, 40, 41, 42]
  | 12 => [43]
  | 13 => [44, 45, 46, 47, 48]
  | 14 => [49]
  | 15 => [0, 51, 52, 53, 54, 55, 56, 57, 58, 59, 60, 61]
  | 16 => [5, 6, 62, 63, 64, 65]
  | 17 => [67]
  | _ => []
def dead_huff_Take_0 : List Nat := [1, 3, 6, 7, 8, 9, 10, 11, 12, 13, 16, 17, 18, 19, 20, 21, 22, 23, 24, 25, 26, 27, 28, 29, 30, 31, 32, 33, 34, 35, 36, 37, 38, 39, 40, 41, 42, 43, 44, 45, 46, 47, 48, 49, 50, 51, 52, 53, 54, 55, 56, 57, 58, 59, 60, 61, 62, 63, 64, 65, 66, 67] -- live: [0, 2, 4, 5, 14, 15]
def huff_Take : IR :=
 (.seq (.reg [⟨(some 2), .mv (.c (.re (.slice none 0 0))), none⟩,
   ⟨(some 3), .mv (.c (.i .i64 (.l 0))), none⟩] [3])
 (.scope (.seq (.reg [⟨(some 13), .call (.c (.fn (.func 44) [] [])) [], none⟩,
    ⟨(some 4), .mv (.t 13), none⟩,
    ⟨(some 5), .mv (.c (.i .i64 (.l 0))), none⟩] [13])
  (.seq (.reg [⟨(some 6), .mv (.c (.i .i64 (.l 0))), none⟩] [6])
  (.seq (.label 0)
  (.seq (.seq (.reg [⟨(some 14), .build [(.i .i64 (.l 0)), (.i .i64 (.l 0)), (.i .i64 (.l 0)), (.i .i64 (.l 0))] [(0, 1, (.c (.i .i64 (.l 5)))), (1, 1, (.c (.i .i64 (.l 6)))), (2, 1, (.c (.i .i64 (.l 7)))), (3, 1, (.c (.i .i64 (.l 11))))], none⟩,
    ⟨(some 15), .mv (.c (.i .i64 (.l 0))), none⟩] [])
  (.block 0 (.loop (.seq (.reg [⟨(some 16), .bin .lt (.t 15) (.c (.i .i64 (.l 4))), none⟩] [])
    (.seq (.cond (.t 16)
     .skip
     (.exit 0))
    (.seq (.block 1 (.seq (.reg [⟨(some 17), .ixA false 4 1 (.t 14) (.t 15), none⟩,
       ⟨(some 8), .mv (.t 17), none⟩] [17])
     (.seq (.reg [⟨(some 19), .mv (.t 0), none⟩,
       ⟨(some 20), .mv (.t 5), none⟩,
       ⟨(some 21), .mv (.t 8), none⟩,
       ⟨(some 22), .call (.c (.fn (.func 45) [] [])) [(.t 19), (.t 20), (.t 21)], none⟩,
       ⟨(some 18), .mv (.t 22), none⟩,
       ⟨(some 23), .ext (.t 18) 0, none⟩,
       ⟨(some 24), .ext (.t 18) 1, none⟩,
       ⟨(some 9), .mv (.t 23), none⟩,
       ⟨(some 10), .mv (.t 24), none⟩] [18, 19, 20, 21, 22, 23, 24])
     (.seq (.seq (.reg [⟨(some 25), .mv (.t 10), none⟩,
       ⟨(some 26), .not (.t 25), none⟩] [10, 25])
     (.cond (.t 26)
      (.exit 0)
      .skip))
     (.seq (.reg [⟨(some 28), .mv (.t 4), none⟩,
       ⟨(some 29), .mv (.t 9), none⟩,
       ⟨(some 30), .mv (.t 8), none⟩,
       ⟨(some 31), .build [(.i .i64 (.l 0)), (.i .i64 (.l 0))] [(0, 1, (.t 29)), (1, 1, (.t 30))], none⟩,
       ⟨(some 32), .look ⟨true, [.ki, .ki]⟩ (.i .u8 (.l 0)) true (.t 28) (.t 31), none⟩,
       ⟨(some 27), .mv (.t 32), none⟩,
       ⟨(some 33), .ext (.t 27) 0, none⟩,
       ⟨(some 34), .ext (.t 27) 1, none⟩,
       ⟨(some 11), .mv (.t 33), none⟩,
       ⟨(some 12), .mv (.t 34), none⟩] [9, 27, 28, 29, 30, 31, 32, 33, 34])
     (.seq (.reg [⟨(some 35), .mv (.t 12), none⟩] [12])
     (.cond (.t 35)
      (.seq (.reg [⟨(some 36), .mv (.t 2), none⟩,
        ⟨(some 37), .mv (.t 11), none⟩,
        ⟨(some 38), .buildS 1 1 [(.i .u8 (.l 0))] [(0, (.t 37))], none⟩,
        ⟨(some 39), .app 1 (.t 36) (.t 38), none⟩,
        ⟨(some 2), .mv (.t 39), none⟩] [11, 36, 37, 38, 39])
      (.seq (.reg [⟨(some 40), .mv (.t 5), none⟩,
        ⟨(some 41), .mv (.t 8), none⟩,
        ⟨(some 42), .bin .add (.t 40) (.t 41), none⟩,
        ⟨(some 5), .mv (.t 42), none⟩] [8, 40, 41, 42])
      (.goto 0)))
      .skip)))))))
    (.reg [⟨(some 43), .bin .add (.t 15) (.c (.i .i64 (.l 1))), none⟩,
      ⟨(some 15), .mv (.t 43), none⟩] [43])))))))
  (.seq (.seq (.reg [⟨(some 44), .mv (.t 0), none⟩,
    ⟨(some 45), .len false (.t 44), none⟩,
    ⟨(some 46), .bin .mul (.c (.i .i64 (.l 8))) (.t 45), none⟩,
    ⟨(some 47), .mv (.t 5), none⟩,
    ⟨(some 48), .bin .sub (.t 46) (.t 47), none⟩,
    ⟨(some 5), .mv (.t 48), none⟩] [44, 45, 46, 47, 48])
  (.seq (.reg [⟨(some 49), .mv (.t 5), none⟩,
    ⟨(some 50), .bin .gt (.t 49) (.c (.i .i64 (.l 7))), none⟩] [49])
  (.cond (.t 50)
   (.goto 1)
   .skip)))
  (.seq (.reg [⟨(some 52), .mv (.t 0), none⟩,
    ⟨(some 53), .mv (.t 0), none⟩,
    ⟨(some 54), .len false (.t 53), none⟩,
    ⟨(some 55), .bin .mul (.c (.i .i64 (.l 8))) (.t 54), none⟩,
    ⟨(some 56), .mv (.t 5), none⟩,
    ⟨(some 57), .bin .sub (.t 55) (.t 56), none⟩,
    ⟨(some 58), .mv (.t 5), none⟩,
    ⟨(some 59), .call (.c (.fn (.func 45) [] [])) [(.t 52), (.t 57), (.t 58)], none⟩,
    ⟨(some 51), .mv (.t 59), none⟩,
    ⟨(some 60), .ext (.t 51) 0, none⟩,
    ⟨(some 61), .ext (.t 51) 1, none⟩,
    ⟨(some 6), .mv (.t 60), none⟩] [0, 51, 52, 53, 54, 55, 56, 57, 58, 59, 60, 61])
  (.seq (.seq (.reg [⟨(some 62), .mv (.t 6), none⟩,
    ⟨(some 63), .mv (.t 5), none⟩,
    ⟨(some 64), .bin .shl (.c (.i .i64 (.l 1))) (.t 63), none⟩,
    ⟨(some 65), .bin .sub (.t 64) (.c (.i .i64 (.l 1))), none⟩,
    ⟨(some 66), .bin .eq (.t 62) (.t 65), none⟩] [5, 6, 62, 63, 64, 65])
  (.cond (.t 66)
   (.seq (.reg [⟨(some 67), .mv (.t 2), none⟩,
     ⟨(some 2), .mv (.t 67), none⟩,
     ⟨(some 3), .mv (.c (.i .i64 (.l 0))), none⟩] [67])
   .ret)
   .skip))
  (.seq (.label 1)
  (.seq (.reg [⟨(some 2), .mv (.c (.re (.slice none 0 0))), none⟩,
    ⟨(some 3), .mv (.c (.i .i64 (.l 70))), none⟩] [])
  .ret)))))))))))
theorem fn_huff_Take : FnIs Try.prog 17 68 [.t 2, .t 3] huff_Take :=
  ⟨Try.f17, _, kl_huff_Take, Try.func17, rfl, rfl, by kernel_rfl, by kernel_rfl, Try.call17⟩

def kl_causeyref07_Take : Nat → List Nat := fun
  | 0 => [2, 3]
  | 3 => [11, 12, 13, 14, 15, 16]
  | 4 => [17]
  | 5 => [6, 19, 20, 21, 22]
  | 6 => [7, 23, 24, 25]
  | 7 => [26, 27, 28, 29, 30]
  | 8 => [31]
  | 10 => [0, 5, 10, 33, 34, 35, 36, 37, 38, 39]
  | 11 => [8, 9, 40, 41, 42, 43, 44]
  | 13 => [4, 46]
  | _ => []
def dead_causeyref07_Take_0 : List Nat := [1, 2, 3, 6, 7, 8, 9, 10, 11, 12, 13, 14, 15, 16, 17, 18, 19, 20, 21, 22, 23, 24, 25, 26, 27, 28, 29, 30, 31, 32, 33, 34, 35, 36, 37, 38, 39, 40, 41, 42, 43, 44, 45, 46] -- live: [0, 4, 5]
def causeyref07_Take : IR :=
 (.seq (.reg [⟨(some 2), .mv (.c (.re (.slice none 0 0))), none⟩,
   ⟨(some 3), .mv (.c (.i .i64 (.l 0))), none⟩] [2, 3])
 (.seq (.reg [⟨(some 4), .mv (.c (.re (.slice none 0 0))), none⟩] [])
 (.seq (.reg [⟨(some 5), .mv (.c (.i .i64 (.l 0))), none⟩] [])
 (.seq (.block 0 (.loop (.block 1 (.seq (.reg [⟨(some 12), .mv (.t 0), none⟩,
      ⟨(some 13), .mv (.t 5), none⟩,
      ⟨(some 14), .call (.c (.fn (.func 46) [] [])) [(.t 12), (.t 13)], none⟩,
      ⟨(some 11), .mv (.t 14), none⟩,
      ⟨(some 15), .ext (.t 11) 0, none⟩,
      ⟨(some 16), .ext (.t 11) 1, none⟩,
      ⟨(some 6), .mv (.t 15), none⟩,
      ⟨(some 7), .mv (.t 16), none⟩] [11, 12, 13, 14, 15, 16])
    (.seq (.seq (.reg [⟨(some 17), .mv (.t 7), none⟩,
      ⟨(some 18), .bin .eq (.t 17) (.c (.i .i64 (.l 0))), none⟩] [17])
    (.cond (.t 18)
     (.exit 0)
     .skip))
    (.seq (.reg [⟨(some 19), .mv (.t 4), none⟩,
      ⟨(some 20), .mv (.t 6), none⟩,
      ⟨(some 21), .buildS 1 1 [(.i .u8 (.l 0))] [(0, (.t 20))], none⟩,
      ⟨(some 22), .app 1 (.t 19) (.t 21), none⟩,
      ⟨(some 4), .mv (.t 22), none⟩] [6, 19, 20, 21, 22])
    (.reg [⟨(some 23), .mv (.t 5), none⟩,
      ⟨(some 24), .mv (.t 7), none⟩,
      ⟨(some 25), .bin .add (.t 23) (.t 24), none⟩,
      ⟨(some 5), .mv (.t 25), none⟩] [7, 23, 24, 25])))))))
 (.seq (.reg [⟨(some 26), .mv (.t 0), none⟩,
   ⟨(some 27), .len false (.t 26), none⟩,
   ⟨(some 28), .bin .mul (.c (.i .i64 (.l 8))) (.t 27), none⟩,
   ⟨(some 29), .mv (.t 5), none⟩,
   ⟨(some 30), .bin .sub (.t 28) (.t 29), none⟩,
   ⟨(some 8), .mv (.t 30), none⟩] [26, 27, 28, 29, 30])
 (.seq (.seq (.reg [⟨(some 31), .mv (.t 8), none⟩,
   ⟨(some 32), .bin .gt (.t 31) (.c (.i .i64 (.l 7))), none⟩] [31])
 (.cond (.t 32)
  (.seq (.reg [⟨(some 2), .mv (.c (.re (.slice none 0 0))), none⟩,
    ⟨(some 3), .mv (.c (.i .i64 (.l 70))), none⟩] [])
  .ret)
  .skip))
 (.seq (.reg [⟨(some 34), .mv (.t 0), none⟩,
   ⟨(some 35), .mv (.t 5), none⟩,
   ⟨(some 36), .mv (.t 8), none⟩,
   ⟨(some 37), .call (.c (.fn (.func 27) [] [])) [(.t 34), (.t 35), (.t 36)], none⟩,
   ⟨(some 33), .mv (.t 37), none⟩,
   ⟨(some 38), .ext (.t 33) 0, none⟩,
   ⟨(some 39), .ext (.t 33) 1, none⟩,
   ⟨(some 9), .mv (.t 38), none⟩,
   ⟨(some 10), .mv (.t 39), none⟩] [0, 5, 10, 33, 34, 35, 36, 37, 38, 39])
 (.seq (.seq (.reg [⟨(some 40), .mv (.t 9), none⟩,
   ⟨(some 41), .mv (.t 8), none⟩,
   ⟨(some 42), .cv .u64 (.t 41), none⟩,
   ⟨(some 43), .bin .shl (.c (.i .i64 (.l 1))) (.t 42), none⟩,
   ⟨(some 44), .bin .sub (.t 43) (.c (.i .i64 (.l 1))), none⟩,
   ⟨(some 45), .bin .ne (.t 40) (.t 44), none⟩] [8, 9, 40, 41, 42, 43, 44])
 (.cond (.t 45)
  (.seq (.reg [⟨(some 2), .mv (.c (.re (.slice none 0 0))), none⟩,
    ⟨(some 3), .mv (.c (.i .i64 (.l 70))), none⟩] [])
  .ret)
  .skip))
 (.seq (.reg [⟨(some 46), .mv (.t 4), none⟩,
   ⟨(some 2), .mv (.t 46), none⟩,
   ⟨(some 3), .mv (.c (.i .i64 (.l 0))), none⟩] [4, 46])
 .ret)))))))))
theorem fn_causeyref07_Take : FnIs Try.prog 18 47 [.t 2, .t 3] causeyref07_Take :=
  ⟨Try.f18, _, kl_causeyref07_Take, Try.func18, rfl, rfl, by kernel_rfl, by kernel_rfl, Try.call18⟩

def kl_huff_Bits : Nat → List Nat := fun
  | 1 => [6]
  | 2 => [0]
  | 4 => [11, 12]
  | 5 => [5, 13, 14, 15, 16, 17, 18]
  | 6 => [19]
  | 7 => [20]
  | _ => []
def dead_huff_Bits_0 : List Nat := [0, 1, 4, 5, 6, 10, 11, 12, 13, 14, 15, 16, 17, 18, 19, 20] -- live: [2, 3, 7, 8, 9]
def huff_Bits : IR :=
 (.seq (.reg [⟨(some 2), .mv (.c (.i .i64 (.l 0))), none⟩] [])
 (.seq (.reg [⟨(some 6), .call (.c (.fn (.func 41) [] [])) [], none⟩,
   ⟨(some 3), .alloc (repS 512 [(.i .i64 (.l 0))]), none⟩,
   ⟨none, .store 512 (.t 3) (.t 6), none⟩] [6])
 (.seq (.seq (.reg [⟨(some 7), .mv (.t 0), none⟩,
   ⟨(some 8), .len false (.t 7), none⟩,
   ⟨(some 9), .mv (.c (.i .i64 (.l 0))), none⟩] [0])
 (.block 0 (.loop (.seq (.reg [⟨(some 10), .bin .lt (.t 9) (.t 8), none⟩] [])
   (.seq (.cond (.t 10)
    .skip
    (.exit 0))
   (.seq (.block 1 (.seq (.reg [⟨(some 11), .iadS 1 (.t 7) (.t 9), none⟩,
      ⟨(some 12), .load false 1 (.t 11), none⟩,
      ⟨(some 5), .mv (.t 12), none⟩] [11, 12])
    (.reg [⟨(some 13), .mv (.t 2), none⟩,
      ⟨(some 14), .mv (.t 5), none⟩,
      ⟨(some 15), .iadA 256 2 (.t 3) (.t 14), none⟩,
      ⟨(some 16), .iadA 2 1 (.t 15) (.c (.i .i64 (.l 1))), none⟩,
      ⟨(some 17), .load false 1 (.t 16), none⟩,
      ⟨(some 18), .bin .add (.t 13) (.t 17), none⟩,
      ⟨(some 2), .mv (.t 18), none⟩] [5, 13, 14, 15, 16, 17, 18])))
   (.reg [⟨(some 19), .bin .add (.t 9) (.c (.i .i64 (.l 1))), none⟩,
     ⟨(some 9), .mv (.t 19), none⟩] [19])))))))
 (.seq (.reg [⟨(some 20), .mv (.t 2), none⟩,
   ⟨(some 2), .mv (.t 20), none⟩] [20])
 .ret))))
theorem fn_huff_Bits : FnIs Try.prog 19 21 [.t 2] huff_Bits :=
  ⟨Try.f19, _, kl_huff_Bits, Try.func19, rfl, rfl, by kernel_rfl, by kernel_rfl, Try.call19⟩

def kl_causeyref07_Bits : Nat → List Nat := fun
  | 0 => [2]
  | 3 => [7, 8, 9]
  | 4 => [11, 12]
  | 5 => [5, 13, 14, 15, 16, 17, 18, 19, 20]
  | 6 => [6, 21, 22, 23]
  | 7 => [3, 24]
  | _ => []
def dead_causeyref07_Bits_0 : List Nat := [1, 2, 5, 6, 7, 8, 9, 10, 11, 12, 13, 14, 15, 16, 17, 18, 19, 20, 21, 22, 23, 24] -- live: [0, 3, 4]
def causeyref07_Bits : IR :=
 (.seq (.reg [⟨(some 2), .mv (.c (.i .i64 (.l 0))), none⟩] [2])
 (.seq (.reg [⟨(some 3), .mv (.c (.i .i64 (.l 0))), none⟩] [])
 (.seq (.seq (.reg [⟨(some 4), .mv (.c (.i .i64 (.l 0))), none⟩] [])
 (.block 0 (.loop (.seq (.seq (.reg [⟨(some 7), .mv (.t 4), none⟩,
     ⟨(some 8), .mv (.t 0), none⟩,
     ⟨(some 9), .len false (.t 8), none⟩,
     ⟨(some 10), .bin .lt (.t 7) (.t 9), none⟩] [7, 8, 9])
   (.cond (.t 10)
    .skip
    (.exit 0)))
   (.seq (.block 1 (.seq (.reg [⟨(some 14), .mv (.t 0), none⟩,
      ⟨(some 15), .mv (.t 4), none⟩,
      ⟨(some 16), .iadS 1 (.t 14) (.t 15), none⟩,
      ⟨(some 17), .load false 1 (.t 16), none⟩,
      ⟨(some 18), .call (.c (.fn (.func 14) [] [])) [(.t 17)], none⟩,
      ⟨(some 13), .mv (.t 18), none⟩,
      ⟨(some 19), .ext (.t 13) 0, none⟩,
      ⟨(some 20), .ext (.t 13) 1, none⟩,
      ⟨(some 5), .mv (.t 19), none⟩,
      ⟨(some 6), .mv (.t 20), none⟩] [5, 13, 14, 15, 16, 17, 18, 19, 20])
    (.reg [⟨(some 21), .mv (.t 3), none⟩,
      ⟨(some 22), .mv (.t 6), none⟩,
      ⟨(some 23), .bin .add (.t 21) (.t 22), none⟩,
      ⟨(some 3), .mv (.t 23), none⟩] [6, 21, 22, 23])))
   (.reg [⟨(some 11), .mv (.t 4), none⟩,
     ⟨(some 12), .bin .add (.t 11) (.c (.i .i64 (.l 1))), none⟩,
     ⟨(some 4), .mv (.t 12), none⟩] [11, 12]))))))
 (.seq (.reg [⟨(some 24), .mv (.t 3), none⟩,
   ⟨(some 2), .mv (.t 24), none⟩] [3, 24])
 .ret))))
theorem fn_causeyref07_Bits : FnIs Try.prog 20 25 [.t 2] causeyref07_Bits :=
  ⟨Try.f20, _, kl_causeyref07_Bits, Try.func20, rfl, rfl, by kernel_rfl, by kernel_rfl, Try.call20⟩

def kl_causeyref01_Same : Nat → List Nat := fun
  | 0 => [4]
  | 1 => [0, 1, 5, 6, 7, 8, 9]
  | _ => []
def causeyref01_Same : IR :=
 (.seq (.reg [⟨(some 4), .mv (.c .ff), none⟩] [4])
 (.seq (.reg [⟨(some 5), .mv (.t 0), none⟩,
   ⟨(some 6), .cvBS (.t 5), none⟩,
   ⟨(some 7), .mv (.t 1), none⟩,
   ⟨(some 8), .cvBS (.t 7), none⟩,
   ⟨(some 9), .bin .eq (.t 6) (.t 8), none⟩,
   ⟨(some 4), .mv (.t 9), none⟩] [0, 1, 5, 6, 7, 8, 9])
 .ret))
theorem fn_causeyref01_Same : FnIs Try.prog 21 10 [.t 4] causeyref01_Same :=
  ⟨Try.f21, _, kl_causeyref01_Same, Try.func21, rfl, rfl, by kernel_rfl, by kernel_rfl, Try.call21⟩

def kl_huff_Put : Nat → List Nat := fun
  | 3 => [9]
  | 4 => [0]
  | 6 => [14, 15]
  | 7 => [7, 16, 17, 18, 19, 20, 21, 22, 23, 24, 25, 26, 27, 28, 29, 30, 31, 32, 33]
  | 8 => [34]
  | 9 => [36, 37]
  | 10 => [38, 39, 40, 41, 42, 43, 44]
  | 11 => [45, 46, 47, 48, 49]
  | 12 => [50]
  | 13 => [51, 52]
  | 14 => [4, 53]
  | 15 => [3, 8, 55, 56, 57, 58, 59, 60, 61, 62, 63, 64, 65]
  | 16 => [66]
  | _ => []
def dead_huff_Put_0 : List Nat := [0, 1, 6, 7, 8, 9, 13, 14, 15, 16, 17, 18, 19, 20, 21, 22, 23, 24, 25, 26, 27, 28, 29, 30, 31, 32, 33, 34, 35, 36, 37, 38, 39, 40, 41, 42, 43, 44, 45, 46, 47, 48, 49, 50, 51, 52, 53, 54, 55, 56, 57, 58, 59, 60, 61, 62, 63, 64, 65, 66] -- live: [2, 3, 4, 5, 10, 11, 12]
def dead_huff_Put_1 : List Nat := [0, 1, 6, 7, 8, 9, 13, 14, 15, 16, 17, 18, 19, 20, 21, 22, 23, 24, 25, 26, 27, 28, 29, 30, 31, 32, 33, 34, 35, 36, 37, 38, 39, 40, 41, 42, 43, 44, 45, 46, 47, 48, 49, 50, 51, 52, 53, 54, 55, 56, 57, 58, 59, 60, 61, 62, 63, 64, 65, 66] -- live: [2, 3, 4, 5, 10, 11, 12]
def ord_huff_Put_0 : List (Nat × List Nat) := [(0, []), (1, []), (2, []), (3, []), (4, []), (5, []), (6, []), (7, []), (8, []), (9, []), (10, []), (11, []), (12, []), (13, []), (14, []), (15, []), (16, []), (17, []), (18, [14, 15, 16]), (19, [])]
def ord_huff_Put_1 : List (Nat × List Nat) := [(0, []), (1, []), (2, []), (3, []), (4, []), (5, []), (6, []), (7, []), (8, []), (9, []), (10, []), (11, [])]
def huff_Put : IR :=
 (.seq (.reg [⟨(some 2), .mv (.c (.re (.slice none 0 0))), none⟩] [])
 (.seq (.reg [⟨(some 3), .mv (.c (.i .u64 (.l 0))), none⟩] [])
 (.seq (.reg [⟨(some 4), .mv (.c (.i .i64 (.l 0))), none⟩] [])
 (.seq (.reg [⟨(some 9), .call (.c (.fn (.func 41) [] [])) [], none⟩,
   ⟨(some 5), .alloc (repS 512 [(.i .i64 (.l 0))]), none⟩,
   ⟨none, .store 512 (.t 5) (.t 9), none⟩] [9])
 (.seq (.seq (.reg [⟨(some 10), .mv (.t 0), none⟩,
   ⟨(some 11), .len false (.t 10), none⟩,
   ⟨(some 12), .mv (.c (.i .i64 (.l 0))), none⟩] [0])
 (.block 0 (.loop (.seq (.reg [⟨(some 13), .bin .lt (.t 12) (.t 11), none⟩] [])
   (.seq (.cond (.t 13)
    .skip
    (.exit 0))
   (.seq (.block 1 (.seq (.reg [⟨(some 14), .iadS 1 (.t 10) (.t 12), none⟩,
      ⟨(some 15), .load false 1 (.t 14), none⟩,
      ⟨(some 7), .mv (.t 15), none⟩] [14, 15])
    (.seq (.draw [⟨(some 16), .mv (.t 3), none⟩,
      ⟨(some 17), .mv (.t 7), none⟩,
      ⟨(some 18), .iadA 256 2 (.t 5) (.t 17), none⟩,
      ⟨(some 19), .iadA 2 1 (.t 18) (.c (.i .i64 (.l 1))), none⟩,
      ⟨(some 20), .load false 1 (.t 19), none⟩,
      ⟨(some 21), .bin .shl (.t 16) (.t 20), none⟩,
      ⟨(some 22), .mv (.t 7), none⟩,
      ⟨(some 23), .iadA 256 2 (.t 5) (.t 22), none⟩,
      ⟨(some 24), .iadA 2 1 (.t 23) (.c (.i .i64 (.l 0))), none⟩,
      ⟨(some 25), .load false 1 (.t 24), none⟩,
      ⟨(some 26), .cv .u64 (.t 25), none⟩,
      ⟨(some 27), .bin .or (.t 21) (.t 26), none⟩,
      ⟨(some 28), .mv (.t 4), none⟩,
      ⟨(some 29), .mv (.t 7), none⟩,
      ⟨(some 30), .iadA 256 2 (.t 5) (.t 29), none⟩,
      ⟨(some 31), .iadA 2 1 (.t 30) (.c (.i .i64 (.l 1))), none⟩,
      ⟨(some 32), .load false 1 (.t 31), none⟩,
      ⟨(some 33), .bin .add (.t 28) (.t 32), none⟩,
      ⟨(some 3), .mv (.t 27), none⟩,
      ⟨(some 4), .mv (.t 33), none⟩] [[], [], [1], [2], [3], [0, 4], [], [6], [7], [8], [9], [5, 10], [], [], [13], [14], [15], [12, 16], [11, 0, 1, 2, 3, 4, 5, 6, 7, 8, 9, 10, 11], [17, 18, 0, 1, 2, 3, 4, 5, 6, 7, 8, 9, 10, 11, 12, 13, 14, 15, 16, 17, 18]] [7, 16, 17, 18, 19, 20, 21, 22, 23, 24, 25, 26, 27, 28, 29, 30, 31, 32, 33])
    (.seq (.block 2 (.loop (.seq (.seq (.reg [⟨(some 34), .mv (.t 4), none⟩,
        ⟨(some 35), .bin .ge (.t 34) (.c (.i .i64 (.l 8))), none⟩] [34])
      (.cond (.t 35)
       .skip
       (.exit 2)))
      (.block 3 (.seq (.reg [⟨(some 36), .mv (.t 4), none⟩,
         ⟨(some 37), .bin .sub (.t 36) (.c (.i .i64 (.l 8))), none⟩,
         ⟨(some 4), .mv (.t 37), none⟩] [36, 37])
       (.reg [⟨(some 38), .mv (.t 2), none⟩,
         ⟨(some 39), .mv (.t 3), none⟩,
         ⟨(some 40), .mv (.t 4), none⟩,
         ⟨(some 41), .bin .shr (.t 39) (.t 40), none⟩,
         ⟨(some 42), .cv .u8 (.t 41), none⟩,
         ⟨(some 43), .buildS 1 1 [(.i .u8 (.l 0))] [(0, (.t 42))], none⟩,
         ⟨(some 44), .app 1 (.t 38) (.t 43), none⟩,
         ⟨(some 2), .mv (.t 44), none⟩] [38, 39, 40, 41, 42, 43, 44]))))))
    (.reg [⟨(some 45), .mv (.t 3), none⟩,
      ⟨(some 46), .mv (.t 4), none⟩,
      ⟨(some 47), .bin .shl (.c (.i .u64 (.l 1))) (.t 46), none⟩,
      ⟨(some 48), .bin .sub (.t 47) (.c (.i .u64 (.l 1))), none⟩,
      ⟨(some 49), .bin .and (.t 45) (.t 48), none⟩,
      ⟨(some 3), .mv (.t 49), none⟩] [45, 46, 47, 48, 49])))))
   (.reg [⟨(some 50), .bin .add (.t 12) (.c (.i .i64 (.l 1))), none⟩,
     ⟨(some 12), .mv (.t 50), none⟩] [50])))))))
 (.seq (.seq (.reg [⟨(some 51), .mv (.t 4), none⟩,
   ⟨(some 52), .bin .sub (.c (.i .i64 (.l 8))) (.t 51), none⟩,
   ⟨(some 8), .mv (.t 52), none⟩] [51, 52])
 (.seq (.reg [⟨(some 53), .mv (.t 4), none⟩,
   ⟨(some 54), .bin .gt (.t 53) (.c (.i .i64 (.l 0))), none⟩] [4, 53])
 (.cond (.t 54)
  (.draw [⟨(some 55), .mv (.t 2), none⟩,
    ⟨(some 56), .mv (.t 3), none⟩,
    ⟨(some 57), .mv (.t 8), none⟩,
    ⟨(some 58), .bin .shl (.t 56) (.t 57), none⟩,
    ⟨(some 59), .mv (.t 8), none⟩,
    ⟨(some 60), .bin .shl (.c (.i .u64 (.l 1))) (.t 59), none⟩,
    ⟨(some 61), .bin .sub (.t 60) (.c (.i .u64 (.l 1))), none⟩,
    ⟨(some 62), .bin .or (.t 58) (.t 61), none⟩,
    ⟨(some 63), .cv .u8 (.t 62), none⟩,
    ⟨(some 64), .buildS 1 1 [(.i .u8 (.l 0))] [(0, (.t 63))], none⟩,
    ⟨(some 65), .app 1 (.t 55) (.t 64), none⟩,
    ⟨(some 2), .mv (.t 65), none⟩] [[], [], [], [1, 2], [], [4], [5], [3, 6], [7], [8], [0, 9], [10, 10, 0, 1, 2, 3, 4, 5, 6, 7, 8, 9, 10]] [3, 8, 55, 56, 57, 58, 59, 60, 61, 62, 63, 64, 65])
  .skip)))
 (.seq (.reg [⟨(some 66), .mv (.t 2), none⟩,
   ⟨(some 2), .mv (.t 66), none⟩] [66])
 .ret)))))))
theorem fn_huff_Put : FnIs Try.prog 22 67 [.t 2] huff_Put :=
  ⟨Try.f22, _, kl_huff_Put, Try.func22, rfl, rfl, by kernel_rfl, by kernel_rfl, Try.call22⟩

def kl_causeyref07_Put : Nat → List Nat := fun
  | 0 => [2]
  | 4 => [9, 10, 11]
  | 5 => [13, 14]
  | 6 => [15, 16, 17, 18, 19, 20, 21, 22]
  | 7 => [6, 7, 23, 24, 25, 26, 27, 28, 29, 30, 31]
  | 8 => [32, 33, 34, 35, 36]
  | 9 => [4, 8, 37, 38, 39, 40, 41, 42, 43, 44, 45, 46, 47, 48]
  | 10 => [3, 49]
  | _ => []
def dead_causeyref07_Put_0 : List Nat := [1, 2, 6, 7, 8, 9, 10, 11, 12, 13, 14, 15, 16, 17, 18, 19, 20, 21, 22, 23, 24, 25, 26, 27, 28, 29, 30, 31, 32, 33, 34, 35, 36, 37, 38, 39, 40, 41, 42, 43, 44, 45, 46, 47, 48, 49] -- live: [0, 3, 4, 5]
def causeyref07_Put : IR :=
 (.seq (.reg [⟨(some 2), .mv (.c (.re (.slice none 0 0))), none⟩] [2])
 (.seq (.reg [⟨(some 3), .mv (.c (.re (.slice none 0 0))), none⟩] [])
 (.seq (.reg [⟨(some 4), .mv (.c (.i .i64 (.l 0))), none⟩] [])
 (.seq (.seq (.reg [⟨(some 5), .mv (.c (.i .i64 (.l 0))), none⟩] [])
 (.block 0 (.loop (.seq (.seq (.reg [⟨(some 9), .mv (.t 5), none⟩,
     ⟨(some 10), .mv (.t 0), none⟩,
     ⟨(some 11), .len false (.t 10), none⟩,
     ⟨(some 12), .bin .lt (.t 9) (.t 11), none⟩] [9, 10, 11])
   (.cond (.t 12)
    .skip
    (.exit 0)))
   (.seq (.block 1 (.seq (.reg [⟨(some 16), .mv (.t 0), none⟩,
      ⟨(some 17), .mv (.t 5), none⟩,
      ⟨(some 18), .iadS 1 (.t 16) (.t 17), none⟩,
      ⟨(some 19), .load false 1 (.t 18), none⟩,
      ⟨(some 20), .call (.c (.fn (.func 14) [] [])) [(.t 19)], none⟩,
      ⟨(some 15), .mv (.t 20), none⟩,
      ⟨(some 21), .ext (.t 15) 0, none⟩,
      ⟨(some 22), .ext (.t 15) 1, none⟩,
      ⟨(some 6), .mv (.t 21), none⟩,
      ⟨(some 7), .mv (.t 22), none⟩] [15, 16, 17, 18, 19, 20, 21, 22])
    (.reg [⟨(some 24), .mv (.t 3), none⟩,
      ⟨(some 25), .mv (.t 4), none⟩,
      ⟨(some 26), .mv (.t 6), none⟩,
      ⟨(some 27), .mv (.t 7), none⟩,
      ⟨(some 28), .call (.c (.fn (.func 47) [] [])) [(.t 24), (.t 25), (.t 26), (.t 27)], none⟩,
      ⟨(some 23), .mv (.t 28), none⟩,
      ⟨(some 29), .ext (.t 23) 0, none⟩,
      ⟨(some 30), .ext (.t 23) 1, none⟩,
      ⟨(some 31), .ext (.t 23) 2, none⟩,
      ⟨(some 3), .mv (.t 29), none⟩,
      ⟨(some 4), .mv (.t 30), none⟩] [6, 7, 23, 24, 25, 26, 27, 28, 29, 30, 31])))
   (.reg [⟨(some 13), .mv (.t 5), none⟩,
     ⟨(some 14), .bin .add (.t 13) (.c (.i .i64 (.l 1))), none⟩,
     ⟨(some 5), .mv (.t 14), none⟩] [13, 14]))))))
 (.seq (.reg [⟨(some 32), .mv (.t 3), none⟩,
   ⟨(some 33), .len false (.t 32), none⟩,
   ⟨(some 34), .bin .mul (.c (.i .i64 (.l 8))) (.t 33), none⟩,
   ⟨(some 35), .mv (.t 4), none⟩,
   ⟨(some 36), .bin .sub (.t 34) (.t 35), none⟩,
   ⟨(some 8), .mv (.t 36), none⟩] [32, 33, 34, 35, 36])
 (.seq (.reg [⟨(some 38), .mv (.t 3), none⟩,
   ⟨(some 39), .mv (.t 4), none⟩,
   ⟨(some 40), .mv (.t 8), none⟩,
   ⟨(some 41), .cv .u64 (.t 40), none⟩,
   ⟨(some 42), .bin .shl (.c (.i .i64 (.l 1))) (.t 41), none⟩,
   ⟨(some 43), .bin .sub (.t 42) (.c (.i .i64 (.l 1))), none⟩,
   ⟨(some 44), .mv (.t 8), none⟩,
   ⟨(some 45), .call (.c (.fn (.func 47) [] [])) [(.t 38), (.t 39), (.t 43), (.t 44)], none⟩,
   ⟨(some 37), .mv (.t 45), none⟩,
   ⟨(some 46), .ext (.t 37) 0, none⟩,
   ⟨(some 47), .ext (.t 37) 1, none⟩,
   ⟨(some 48), .ext (.t 37) 2, none⟩,
   ⟨(some 3), .mv (.t 46), none⟩] [4, 8, 37, 38, 39, 40, 41, 42, 43, 44, 45, 46, 47, 48])
 (.seq (.reg [⟨(some 49), .mv (.t 3), none⟩,
   ⟨(some 2), .mv (.t 49), none⟩] [3, 49])
 .ret)))))))
theorem fn_causeyref07_Put : FnIs Try.prog 23 50 [.t 2] causeyref07_Put :=
  ⟨Try.f23, _, kl_causeyref07_Put, Try.func23, rfl, rfl, by kernel_rfl, by kernel_rfl, Try.call23⟩

def kl_huff_Shorter : Nat → List Nat := fun
  | 0 => [2]
  | 1 => [0, 3, 4, 5, 6, 7, 8, 9]
  | _ => []
def huff_Shorter : IR :=
 (.seq (.reg [⟨(some 2), .mv (.c .ff), none⟩] [2])
 (.seq (.reg [⟨(some 3), .mv (.t 0), none⟩,
   ⟨(some 4), .call (.c (.fn (.func 19) [] [])) [(.t 3)], none⟩,
   ⟨(some 5), .bin .add (.t 4) (.c (.i .i64 (.l 7))), none⟩,
   ⟨(some 6), .bin .shr (.t 5) (.c (.i .u64 (.l 3))), none⟩,
   ⟨(some 7), .mv (.t 0), none⟩,
   ⟨(some 8), .len false (.t 7), none⟩,
   ⟨(some 9), .bin .lt (.t 6) (.t 8), none⟩,
   ⟨(some 2), .mv (.t 9), none⟩] [0, 3, 4, 5, 6, 7, 8, 9])
 .ret))
theorem fn_huff_Shorter : FnIs Try.prog 24 10 [.t 2] huff_Shorter :=
  ⟨Try.f24, _, kl_huff_Shorter, Try.func24, rfl, rfl, by kernel_rfl, by kernel_rfl, Try.call24⟩

def kl_causeyref07_Shorter : Nat → List Nat := fun
  | 0 => [2]
  | 1 => [0, 3, 4, 5, 6, 7, 8, 9]
  | _ => []
def causeyref07_Shorter : IR :=
 (.seq (.reg [⟨(some 2), .mv (.c .ff), none⟩] [2])
 (.seq (.reg [⟨(some 3), .mv (.t 0), none⟩,
   ⟨(some 4), .call (.c (.fn (.func 20) [] [])) [(.t 3)], none⟩,
   ⟨(some 5), .bin .add (.t 4) (.c (.i .i64 (.l 7))), none⟩,
   ⟨(some 6), .bin .quo (.t 5) (.c (.i .i64 (.l 8))), none⟩,
   ⟨(some 7), .mv (.t 0), none⟩,
   ⟨(some 8), .len false (.t 7), none⟩,
   ⟨(some 9), .bin .lt (.t 6) (.t 8), none⟩,
   ⟨(some 2), .mv (.t 9), none⟩] [0, 3, 4, 5, 6, 7, 8, 9])
 .ret))
theorem fn_causeyref07_Shorter : FnIs Try.prog 25 10 [.t 2] causeyref07_Shorter :=
  ⟨Try.f25, _, kl_causeyref07_Shorter, Try.func25, rfl, rfl, by kernel_rfl, by kernel_rfl, Try.call25⟩

def kl_causeyref01_Bit : Nat → List Nat := fun
  | 0 => [4, 5]
  | 1 => [8, 9, 10, 11, 12, 13, 14, 15]
  | 3 => [0, 17, 18, 19, 20, 21, 22]
  | 5 => [23, 24, 25, 26]
  | 6 => [28, 29]
  | 7 => [30, 31]
  | 8 => [6, 32, 33]
  | _ => []
def dead_causeyref01_Bit_0 : List Nat := [0, 2, 3, 4, 5, 8, 9, 10, 11, 12, 13, 14, 15, 16, 17, 18, 19, 20, 21, 22, 23, 24, 25, 26, 27, 28, 29, 30, 31, 32, 33] -- live: [1, 6, 7]
def causeyref01_Bit : IR :=
 (.seq (.reg [⟨(some 4), .mv (.c (.i .i64 (.l 0))), none⟩,
   ⟨(some 5), .mv (.c .ff), none⟩] [4, 5])
 (.seq (.seq (.reg [⟨(some 8), .mv (.t 1), none⟩,
   ⟨(some 9), .bin .lt (.t 8) (.c (.i .i64 (.l 0))), none⟩,
   ⟨(some 10), .mv (.t 9), none⟩,
   ⟨(some 11), .mv (.t 1), (some (10, false))⟩,
   ⟨(some 12), .bin .quo (.t 11) (.c (.i .i64 (.l 8))), (some (10, false))⟩,
   ⟨(some 13), .mv (.t 0), (some (10, false))⟩,
   ⟨(some 14), .len false (.t 13), (some (10, false))⟩,
   ⟨(some 15), .bin .ge (.t 12) (.t 14), (some (10, false))⟩,
   ⟨(some 16), .pick (.t 10) (.c .tt) (.t 15), none⟩] [8, 9, 10, 11, 12, 13, 14, 15])
 (.cond (.t 16)
  (.seq (.reg [⟨(some 4), .mv (.c (.i .i64 (.l 0))), none⟩,
    ⟨(some 5), .mv (.c .ff), none⟩] [])
  .ret)
  .skip))
 (.seq (.reg [⟨(some 17), .mv (.t 0), none⟩,
   ⟨(some 18), .mv (.t 1), none⟩,
   ⟨(some 19), .bin .quo (.t 18) (.c (.i .i64 (.l 8))), none⟩,
   ⟨(some 20), .iadS 1 (.t 17) (.t 19), none⟩,
   ⟨(some 21), .load false 1 (.t 20), none⟩,
   ⟨(some 22), .cv .i64 (.t 21), none⟩,
   ⟨(some 6), .mv (.t 22), none⟩] [0, 17, 18, 19, 20, 21, 22])
 (.seq (.seq (.reg [⟨(some 7), .mv (.c (.i .i64 (.l 0))), none⟩] [])
 (.block 0 (.loop (.seq (.seq (.reg [⟨(some 23), .mv (.t 7), none⟩,
     ⟨(some 24), .mv (.t 1), none⟩,
     ⟨(some 25), .bin .rem (.t 24) (.c (.i .i64 (.l 8))), none⟩,
     ⟨(some 26), .bin .sub (.c (.i .i64 (.l 7))) (.t 25), none⟩,
     ⟨(some 27), .bin .lt (.t 23) (.t 26), none⟩] [23, 24, 25, 26])
   (.cond (.t 27)
    .skip
    (.exit 0)))
   (.seq (.block 1 (.reg [⟨(some 30), .mv (.t 6), none⟩,
      ⟨(some 31), .bin .quo (.t 30) (.c (.i .i64 (.l 2))), none⟩,
      ⟨(some 6), .mv (.t 31), none⟩] [30, 31]))
   (.reg [⟨(some 28), .mv (.t 7), none⟩,
     ⟨(some 29), .bin .add (.t 28) (.c (.i .i64 (.l 1))), none⟩,
     ⟨(some 7), .mv (.t 29), none⟩] [28, 29]))))))
 (.seq (.reg [⟨(some 32), .mv (.t 6), none⟩,
   ⟨(some 33), .bin .rem (.t 32) (.c (.i .i64 (.l 2))), none⟩,
   ⟨(some 4), .mv (.t 33), none⟩,
   ⟨(some 5), .mv (.c .tt), none⟩] [6, 32, 33])
 .ret)))))
theorem fn_causeyref01_Bit : FnIs Try.prog 26 34 [.t 4, .t 5] causeyref01_Bit :=
  ⟨Try.f26, _, kl_causeyref01_Bit, Try.func26, rfl, rfl, by kernel_rfl, by kernel_rfl, Try.call26⟩

def kl_causeyref01_Bits : Nat → List Nat := fun
  | 0 => [6, 7]
  | 1 => [12, 13, 14, 15, 16, 17, 18, 19, 20, 21, 22, 23, 24, 25, 26, 27, 28, 29, 30, 31, 32, 33, 34, 35, 36]
  | 5 => [38, 39]
  | 6 => [41, 42]
  | 7 => [11, 43, 44, 45, 46, 47, 48, 49, 50]
  | 8 => [10, 51, 52, 53, 54]
  | 9 => [8, 55]
  | _ => []
def dead_causeyref01_Bits_0 : List Nat := [3, 4, 5, 6, 7, 10, 11, 12, 13, 14, 15, 16, 17, 18, 19, 20, 21, 22, 23, 24, 25, 26, 27, 28, 29, 30, 31, 32, 33, 34, 35, 36, 37, 38, 39, 40, 41, 42, 43, 44, 45, 46, 47, 48, 49, 50, 51, 52, 53, 54, 55] -- live: [0, 1, 2, 8, 9]
def causeyref01_Bits : IR :=
 (.seq (.reg [⟨(some 6), .mv (.c (.i .i64 (.l 0))), none⟩,
   ⟨(some 7), .mv (.c .ff), none⟩] [6, 7])
 (.seq (.seq (.reg [⟨(some 12), .mv (.t 2), none⟩,
   ⟨(some 13), .bin .lt (.t 12) (.c (.i .i64 (.l 0))), none⟩,
   ⟨(some 14), .mv (.t 13), none⟩,
   ⟨(some 15), .mv (.t 2), (some (14, false))⟩,
   ⟨(some 16), .bin .gt (.t 15) (.c (.i .i64 (.l 30))), (some (14, false))⟩,
   ⟨(some 17), .pick (.t 14) (.c .tt) (.t 16), none⟩,
   ⟨(some 18), .mv (.t 17), none⟩,
   ⟨(some 19), .mv (.t 1), (some (18, false))⟩,
   ⟨(some 20), .bin .lt (.t 19) (.c (.i .i64 (.l 0))), (some (18, false))⟩,
   ⟨(some 21), .pick (.t 18) (.c .tt) (.t 20), none⟩,
   ⟨(some 22), .mv (.t 21), none⟩,
   ⟨(some 23), .mv (.t 1), (some (22, false))⟩,
   ⟨(some 24), .mv (.t 0), (some (22, false))⟩,
   ⟨(some 25), .len false (.t 24), (some (22, false))⟩,
   ⟨(some 26), .bin .mul (.c (.i .i64 (.l 8))) (.t 25), (some (22, false))⟩,
   ⟨(some 27), .bin .gt (.t 23) (.t 26), (some (22, false))⟩,
   ⟨(some 28), .pick (.t 22) (.c .tt) (.t 27), none⟩,
   ⟨(some 29), .mv (.t 28), none⟩,
   ⟨(some 30), .mv (.t 0), (some (29, false))⟩,
   ⟨(some 31), .len false (.t 30), (some (29, false))⟩,
   ⟨(some 32), .bin .mul (.c (.i .i64 (.l 8))) (.t 31), (some (29, false))⟩,
   ⟨(some 33), .mv (.t 1), (some (29, false))⟩,
   ⟨(some 34), .bin .sub (.t 32) (.t 33), (some (29, false))⟩,
   ⟨(some 35), .mv (.t 2), (some (29, false))⟩,
   ⟨(some 36), .bin .lt (.t 34) (.t 35), (some (29, false))⟩,
   ⟨(some 37), .pick (.t 29) (.c .tt) (.t 36), none⟩] [12, 13, 14, 15, 16, 17, 18, 19, 20, 21, 22, 23, 24, 25, 26, 27, 28, 29, 30, 31, 32, 33, 34, 35, 36])
 (.cond (.t 37)
  (.seq (.reg [⟨(some 6), .mv (.c (.i .i64 (.l 0))), none⟩,
    ⟨(some 7), .mv (.c .ff), none⟩] [])
  .ret)
  .skip))
 (.seq (.reg [⟨(some 8), .mv (.c (.i .i64 (.l 0))), none⟩] [])
 (.seq (.seq (.reg [⟨(some 9), .mv (.c (.i .i64 (.l 0))), none⟩] [])
 (.block 0 (.loop (.seq (.seq (.reg [⟨(some 38), .mv (.t 9), none⟩,
     ⟨(some 39), .mv (.t 2), none⟩,
     ⟨(some 40), .bin .lt (.t 38) (.t 39), none⟩] [38, 39])
   (.cond (.t 40)
    .skip
    (.exit 0)))
   (.seq (.block 1 (.seq (.reg [⟨(some 44), .mv (.t 0), none⟩,
      ⟨(some 45), .mv (.t 1), none⟩,
      ⟨(some 46), .mv (.t 9), none⟩,
      ⟨(some 47), .bin .add (.t 45) (.t 46), none⟩,
      ⟨(some 48), .call (.c (.fn (.func 26) [] [])) [(.t 44), (.t 47)], none⟩,
      ⟨(some 43), .mv (.t 48), none⟩,
      ⟨(some 49), .ext (.t 43) 0, none⟩,
      ⟨(some 50), .ext (.t 43) 1, none⟩,
      ⟨(some 10), .mv (.t 49), none⟩,
      ⟨(some 11), .mv (.t 50), none⟩] [11, 43, 44, 45, 46, 47, 48, 49, 50])
    (.reg [⟨(some 51), .mv (.t 8), none⟩,
      ⟨(some 52), .bin .mul (.c (.i .i64 (.l 2))) (.t 51), none⟩,
      ⟨(some 53), .mv (.t 10), none⟩,
      ⟨(some 54), .bin .add (.t 52) (.t 53), none⟩,
      ⟨(some 8), .mv (.t 54), none⟩] [10, 51, 52, 53, 54])))
   (.reg [⟨(some 41), .mv (.t 9), none⟩,
     ⟨(some 42), .bin .add (.t 41) (.c (.i .i64 (.l 1))), none⟩,
     ⟨(some 9), .mv (.t 42), none⟩] [41, 42]))))))
 (.seq (.reg [⟨(some 55), .mv (.t 8), none⟩,
   ⟨(some 6), .mv (.t 55), none⟩,
   ⟨(some 7), .mv (.c .tt), none⟩] [8, 55])
 .ret)))))
theorem fn_causeyref01_Bits : FnIs Try.prog 27 56 [.t 6, .t 7] causeyref01_Bits :=
  ⟨Try.f27, _, kl_causeyref01_Bits, Try.func27, rfl, rfl, by kernel_rfl, by kernel_rfl, Try.call27⟩

def kl_causeylaw08_wakes : Nat → List Nat := fun
  | 0 => [0]
  | 1 => [16, 17, 18, 19, 20, 21]
  | 2 => [4, 5, 22, 23, 24, 25, 26, 27]
  | 3 => [7, 8, 28, 29, 30, 31, 32]
  | 4 => [10, 11, 33, 34, 35, 36, 37, 38]
  | 5 => [14, 39, 40, 41, 42, 43, 44]
  | 6 => [1, 2, 3, 6, 9, 12, 13, 15, 45, 46, 47, 48, 49, 50, 51, 52, 53, 54, 55, 56, 57, 58, 59, 60, 61, 62, 63, 64, 65, 66, 67, 68, 69, 70, 71, 72, 73, 74, 75, 76, 77, 78, 79, 80, 81, 82, 83, 84, 85, 86, 87, 88, 89, 90, 91, 92, 93, 94, 95, 96, 97, 98, 99]
  | _ => []
def causeylaw08_wakes : IR :=
 (.seq (.reg [⟨(some 0), .mv (.c .ff), none⟩] [0])
 (.seq (.reg [⟨(some 17), .buildS 1 4 [(.i .u8 (.l 0))] [(0, (.c (.i .u8 (.l 130)))), (1, (.c (.i .u8 (.l 49)))), (2, (.c (.i .u8 (.l 141)))), (3, (.c (.i .u8 (.l 9))))], none⟩,
   ⟨(some 18), .call (.c (.fn (.func 29) [] [])) [(.t 17)], none⟩,
   ⟨(some 16), .mv (.t 18), none⟩,
   ⟨(some 19), .ext (.t 16) 0, none⟩,
   ⟨(some 20), .ext (.t 16) 1, none⟩,
   ⟨(some 21), .ext (.t 16) 2, none⟩,
   ⟨(some 1), .mv (.t 19), none⟩,
   ⟨(some 2), .mv (.t 20), none⟩,
   ⟨(some 3), .mv (.t 21), none⟩] [16, 17, 18, 19, 20, 21])
 (.seq (.reg [⟨(some 23), .buildS 1 2 [(.i .u8 (.l 0))] [(0, (.c (.i .u8 (.l 2)))), (1, (.c (.i .u8 (.l 97))))], none⟩,
   ⟨(some 24), .call (.c (.fn (.func 29) [] [])) [(.t 23)], none⟩,
   ⟨(some 22), .mv (.t 24), none⟩,
   ⟨(some 25), .ext (.t 22) 0, none⟩,
   ⟨(some 26), .ext (.t 22) 1, none⟩,
   ⟨(some 27), .ext (.t 22) 2, none⟩,
   ⟨(some 4), .mv (.t 25), none⟩,
   ⟨(some 5), .mv (.t 26), none⟩,
   ⟨(some 6), .mv (.t 27), none⟩] [4, 5, 22, 23, 24, 25, 26, 27])
 (.seq (.reg [⟨(some 29), .call (.c (.fn (.func 29) [] [])) [(.c (.re (.slice none 0 0)))], none⟩,
   ⟨(some 28), .mv (.t 29), none⟩,
   ⟨(some 30), .ext (.t 28) 0, none⟩,
   ⟨(some 31), .ext (.t 28) 1, none⟩,
   ⟨(some 32), .ext (.t 28) 2, none⟩,
   ⟨(some 7), .mv (.t 30), none⟩,
   ⟨(some 8), .mv (.t 31), none⟩,
   ⟨(some 9), .mv (.t 32), none⟩] [7, 8, 28, 29, 30, 31, 32])
 (.seq (.reg [⟨(some 34), .buildS 1 2 [(.i .u8 (.l 0))] [(0, (.c (.i .u8 (.l 129)))), (1, (.c (.i .u8 (.l 255))))], none⟩,
   ⟨(some 35), .call (.c (.fn (.func 29) [] [])) [(.t 34)], none⟩,
   ⟨(some 33), .mv (.t 35), none⟩,
   ⟨(some 36), .ext (.t 33) 0, none⟩,
   ⟨(some 37), .ext (.t 33) 1, none⟩,
   ⟨(some 38), .ext (.t 33) 2, none⟩,
   ⟨(some 10), .mv (.t 36), none⟩,
   ⟨(some 11), .mv (.t 37), none⟩,
   ⟨(some 12), .mv (.t 38), none⟩] [10, 11, 33, 34, 35, 36, 37, 38])
 (.seq (.reg [⟨(some 40), .buildS 1 1 [(.i .u8 (.l 0))] [(0, (.c (.i .u8 (.l 0))))], none⟩,
   ⟨(some 41), .call (.c (.fn (.func 29) [] [])) [(.t 40)], none⟩,
   ⟨(some 39), .mv (.t 41), none⟩,
   ⟨(some 42), .ext (.t 39) 0, none⟩,
   ⟨(some 43), .ext (.t 39) 1, none⟩,
   ⟨(some 44), .ext (.t 39) 2, none⟩,
   ⟨(some 13), .mv (.t 42), none⟩,
   ⟨(some 14), .mv (.t 43), none⟩,
   ⟨(some 15), .mv (.t 44), none⟩] [14, 39, 40, 41, 42, 43, 44])
 (.seq (.reg [⟨(some 45), .call (.c (.fn (.func 32) [] [])) [(.c (.s [97]))], none⟩,
   ⟨(some 46), .buildS 1 2 [(.i .u8 (.l 0))] [(0, (.c (.i .u8 (.l 1)))), (1, (.c (.i .u8 (.l 97))))], none⟩,
   ⟨(some 47), .call (.c (.fn (.func 31) [] [])) [(.t 45), (.t 46)], none⟩,
   ⟨(some 48), .mv (.t 47), none⟩,
   ⟨(some 49), .call (.c (.fn (.func 34) [] [])) [(.c (.s [97]))], (some (48, true))⟩,
   ⟨(some 50), .buildS 1 2 [(.i .u8 (.l 0))] [(0, (.c (.i .u8 (.l 129)))), (1, (.c (.i .u8 (.l 55))))], (some (48, true))⟩,
   ⟨(some 51), .call (.c (.fn (.func 31) [] [])) [(.t 49), (.t 50)], (some (48, true))⟩,
   ⟨(some 52), .pick (.t 48) (.t 51) (.c .ff), none⟩,
   ⟨(some 53), .mv (.t 52), none⟩,
   ⟨(some 54), .call (.c (.fn (.func 36) [] [])) [(.c (.s [97]))], (some (53, true))⟩,
   ⟨(some 55), .buildS 1 2 [(.i .u8 (.l 0))] [(0, (.c (.i .u8 (.l 1)))), (1, (.c (.i .u8 (.l 97))))], (some (53, true))⟩,
   ⟨(some 56), .call (.c (.fn (.func 31) [] [])) [(.t 54), (.t 55)], (some (53, true))⟩,
   ⟨(some 57), .pick (.t 53) (.t 56) (.c .ff), none⟩,
   ⟨(some 58), .mv (.t 57), none⟩,
   ⟨(some 59), .call (.c (.fn (.func 36) [] [])) [(.c (.s [97, 97, 97]))], (some (58, true))⟩,
   ⟨(some 60), .buildS 1 3 [(.i .u8 (.l 0))] [(0, (.c (.i .u8 (.l 130)))), (1, (.c (.i .u8 (.l 49)))), (2, (.c (.i .u8 (.l 141))))], (some (58, true))⟩,
   ⟨(some 61), .call (.c (.fn (.func 31) [] [])) [(.t 59), (.t 60)], (some (58, true))⟩,
   ⟨(some 62), .pick (.t 58) (.t 61) (.c .ff), none⟩,
   ⟨(some 63), .mv (.t 62), none⟩,
   ⟨(some 64), .mv (.t 3), (some (63, true))⟩,
   ⟨(some 65), .bin .eq (.t 64) (.c (.i .i64 (.l 0))), (some (63, true))⟩,
   ⟨(some 66), .pick (.t 63) (.t 65) (.c .ff), none⟩,
   ⟨(some 67), .mv (.t 66), none⟩,
   ⟨(some 68), .mv (.t 1), (some (67, true))⟩,
   ⟨(some 69), .bin .eq (.t 68) (.c (.s [97, 97, 97])), (some (67, true))⟩,
   ⟨(some 70), .pick (.t 67) (.t 69) (.c .ff), none⟩,
   ⟨(some 71), .mv (.t 70), none⟩,
   ⟨(some 72), .mv (.t 2), (some (71, true))⟩,
   ⟨(some 73), .buildS 1 1 [(.i .u8 (.l 0))] [(0, (.c (.i .u8 (.l 9))))], (some (71, true))⟩,
   ⟨(some 74), .call (.c (.fn (.func 31) [] [])) [(.t 72), (.t 73)], (some (71, true))⟩,
   ⟨(some 75), .pick (.t 71) (.t 74) (.c .ff), none⟩,
   ⟨(some 76), .mv (.t 75), none⟩,
   ⟨(some 77), .mv (.t 6), (some (76, true))⟩,
   ⟨(some 78), .bin .eq (.t 77) (.c (.i .i64 (.l 10))), (some (76, true))⟩,
   ⟨(some 79), .pick (.t 76) (.t 78) (.c .ff), none⟩,
   ⟨(some 80), .mv (.t 79), none⟩,
   ⟨(some 81), .mv (.t 9), (some (80, true))⟩,
   ⟨(some 82), .bin .eq (.t 81) (.c (.i .i64 (.l 10))), (some (80, true))⟩,
   ⟨(some 83), .pick (.t 80) (.t 82) (.c .ff), none⟩,
   ⟨(some 84), .mv (.t 83), none⟩,
   ⟨(some 85), .mv (.t 12), (some (84, true))⟩,
   ⟨(some 86), .bin .eq (.t 85) (.c (.i .i64 (.l 70))), (some (84, true))⟩,
   ⟨(some 87), .pick (.t 84) (.t 86) (.c .ff), none⟩,
   ⟨(some 88), .mv (.t 87), none⟩,
   ⟨(some 89), .mv (.t 15), (some (88, true))⟩,
   ⟨(some 90), .bin .eq (.t 89) (.c (.i .i64 (.l 0))), (some (88, true))⟩,
   ⟨(some 91), .pick (.t 88) (.t 90) (.c .ff), none⟩,
   ⟨(some 92), .mv (.t 91), none⟩,
   ⟨(some 93), .mv (.t 13), (some (92, true))⟩,
   ⟨(some 94), .bin .eq (.t 93) (.c (.s [])), (some (92, true))⟩,
   ⟨(some 95), .pick (.t 92) (.t 94) (.c .ff), none⟩,
   ⟨(some 96), .mv (.t 95), none⟩,
   ⟨(some 97), .call (.c (.fn (.func 38) [] [])) [(.c (.s [97, 97, 97]))], (some (96, true))⟩,
   ⟨(some 98), .bin .eq (.t 97) (.c (.i .i64 (.l 3))), (some (96, true))⟩,
   ⟨(some 99), .pick (.t 96) (.t 98) (.c .ff), none⟩,
   ⟨(some 0), .mv (.t 99), none⟩] [1, 2, 3, 6, 9, 12, 13, 15, 45, 46, 47, 48, 49, 50, 51, 52, 53, 54, 55, 56, 57, 58, 59, 60, 61, 62, 63, 64, 65, 66, 67, 68, 69, 70, 71, 72, 73, 74, 75, 76, 77, 78, 79, 80, 81, 82, 83, 84, 85, 86, 87, 88, 89, 90, 91, 92, 93, 94, 95, 96, 97, 98, 99])
 .ret)))))))
theorem fn_causeylaw08_wakes : FnIs Try.prog 28 100 [.t 0] causeylaw08_wakes :=
  ⟨Try.f28, _, kl_causeylaw08_wakes, Try.func28, rfl, rfl, by kernel_rfl, by kernel_rfl, Try.call28⟩

def kl_text_Take : Nat → List Nat := fun
  | 0 => [2, 3, 4]
  | 1 => [5]
  | 2 => [6]
  | 3 => [7, 8, 9, 10, 11, 12]
  | 4 => [13]
  | 6 => [15, 16, 17]
  | 7 => [5, 19, 20, 21, 22, 23, 24, 25, 26]
  | 8 => [0, 27, 28, 29, 30]
  | 9 => [6, 32, 33, 34]
  | 10 => [35, 36, 37, 38, 39]
  | 11 => [40]
  | 12 => [6, 42, 43, 44]
  | 13 => [45]
  | _ => []
def ord_text_Take_0 : List (Nat × List Nat) := [(0, []), (1, []), (2, []), (4, []), (5, []), (6, []), (3, []), (7, []), (8, []), (9, [])]
def text_Take : IR :=
 (.seq (.reg [⟨(some 2), .mv (.c (.s [])), none⟩,
   ⟨(some 3), .mv (.c (.re (.slice none 0 0))), none⟩,
   ⟨(some 4), .mv (.c (.i .i64 (.l 0))), none⟩] [2, 3, 4])
 (.scope (.seq (.reg [⟨(some 5), .mv (.c (.i .i64 (.l 0))), none⟩] [5])
  (.seq (.reg [⟨(some 6), .mv (.c (.re (.slice none 0 0))), none⟩] [6])
  (.seq (.seq (.reg [⟨(some 8), .mv (.t 0), none⟩,
    ⟨(some 9), .call (.c (.fn (.func 48) [] [])) [(.t 8), (.c (.i .i64 (.l 7)))], none⟩,
    ⟨(some 7), .mv (.t 9), none⟩,
    ⟨(some 10), .ext (.t 7) 0, none⟩,
    ⟨(some 11), .ext (.t 7) 1, none⟩,
    ⟨(some 12), .ext (.t 7) 2, none⟩,
    ⟨(some 5), .mv (.t 10), none⟩,
    ⟨(some 3), .mv (.t 11), none⟩,
    ⟨(some 4), .mv (.t 12), none⟩] [7, 8, 9, 10, 11, 12])
  (.seq (.reg [⟨(some 13), .mv (.t 4), none⟩,
    ⟨(some 14), .bin .ne (.t 13) (.c (.i .i64 (.l 0))), none⟩] [13])
  (.cond (.t 14)
   (.goto 0)
   .skip)))
  (.seq (.seq (.reg [⟨(some 4), .mv (.c (.i .i64 (.l 10))), none⟩] [])
  (.seq (.reg [⟨(some 15), .mv (.t 5), none⟩,
    ⟨(some 16), .mv (.t 3), none⟩,
    ⟨(some 17), .len false (.t 16), none⟩,
    ⟨(some 18), .bin .gt (.t 15) (.t 17), none⟩] [15, 16, 17])
  (.cond (.t 18)
   (.goto 0)
   .skip)))
  (.seq (.seq (.draw [⟨(some 19), .mv (.t 3), none⟩,
    ⟨(some 20), .mv (.t 5), none⟩,
    ⟨(some 21), .slc 1 (.t 19) none (some (.t 20)) none, none⟩,
    ⟨(some 22), .call (.c (.fn (.func 49) [] [])) [(.t 21)], none⟩,
    ⟨(some 23), .mv (.t 3), none⟩,
    ⟨(some 24), .mv (.t 5), none⟩,
    ⟨(some 25), .slc 1 (.t 23) (some (.t 24)) none none, none⟩,
    ⟨(some 26), .call (.c (.fn (.func 50) [] [])) [(.t 25)], none⟩,
    ⟨(some 6), .mv (.t 22), none⟩,
    ⟨(some 3), .mv (.t 26), none⟩] [[], [], [0, 1], [2], [], [], [4, 5], [6, 3], [3, 7, 0, 1, 2, 3], [7, 8, 0, 1, 2, 3, 4, 5, 6, 7, 8]] [5, 19, 20, 21, 22, 23, 24, 25, 26])
  (.seq (.reg [⟨(some 27), .mv (.t 0), none⟩,
    ⟨(some 28), .iadS 1 (.t 27) (.c (.i .i64 (.l 0))), none⟩,
    ⟨(some 29), .load false 1 (.t 28), none⟩,
    ⟨(some 30), .bin .and (.t 29) (.c (.i .u8 (.l 128))), none⟩,
    ⟨(some 31), .bin .eq (.t 30) (.c (.i .u8 (.l 0))), none⟩] [0, 27, 28, 29, 30])
  (.cond (.t 31)
   (.seq (.reg [⟨(some 32), .mv (.t 6), none⟩,
     ⟨(some 33), .cvBS (.t 32), none⟩,
     ⟨(some 34), .mv (.t 3), none⟩,
     ⟨(some 2), .mv (.t 33), none⟩,
     ⟨(some 3), .mv (.t 34), none⟩,
     ⟨(some 4), .mv (.c (.i .i64 (.l 0))), none⟩] [6, 32, 33, 34])
   .ret)
   .skip)))
  (.seq (.seq (.reg [⟨(some 36), .mv (.t 6), none⟩,
    ⟨(some 37), .call (.c (.fn (.func 17) [] [])) [(.t 36)], none⟩,
    ⟨(some 35), .mv (.t 37), none⟩,
    ⟨(some 38), .ext (.t 35) 0, none⟩,
    ⟨(some 39), .ext (.t 35) 1, none⟩,
    ⟨(some 6), .mv (.t 38), none⟩,
    ⟨(some 4), .mv (.t 39), none⟩] [35, 36, 37, 38, 39])
  (.seq (.reg [⟨(some 40), .mv (.t 4), none⟩,
    ⟨(some 41), .bin .eq (.t 40) (.c (.i .i64 (.l 0))), none⟩] [40])
  (.cond (.t 41)
   (.seq (.reg [⟨(some 42), .mv (.t 6), none⟩,
     ⟨(some 43), .cvBS (.t 42), none⟩,
     ⟨(some 44), .mv (.t 3), none⟩,
     ⟨(some 2), .mv (.t 43), none⟩,
     ⟨(some 3), .mv (.t 44), none⟩,
     ⟨(some 4), .mv (.c (.i .i64 (.l 0))), none⟩] [6, 42, 43, 44])
   .ret)
   .skip)))
  (.seq (.label 0)
  (.seq (.reg [⟨(some 45), .mv (.t 4), none⟩,
    ⟨(some 2), .mv (.c (.s [])), none⟩,
    ⟨(some 3), .mv (.c (.re (.slice none 0 0))), none⟩,
    ⟨(some 4), .mv (.t 45), none⟩] [45])
  .ret))))))))))
theorem fn_text_Take : FnIs Try.prog 29 46 [.t 2, .t 3, .t 4] text_Take :=
  ⟨Try.f29, _, kl_text_Take, Try.func29, rfl, rfl, by kernel_rfl, by kernel_rfl, Try.call29⟩

def kl_causeyref08_Take : Nat → List Nat := fun
  | 0 => [2, 3, 4]
  | 1 => [12, 13, 14, 15, 16, 17]
  | 2 => [18]
  | 3 => [7, 20]
  | 4 => [21, 22, 23]
  | 6 => [5, 6, 25, 26, 27, 28, 29, 30, 31, 32]
  | 7 => [0, 33, 34, 35]
  | 8 => [8, 9, 37, 38, 39]
  | 9 => [8, 40, 41, 42, 43, 44]
  | 10 => [45]
  | 11 => [11, 47]
  | 12 => [9, 10, 48, 49, 50]
  | _ => []
def ord_causeyref08_Take_0 : List (Nat × List Nat) := [(0, []), (1, []), (2, []), (4, []), (5, []), (6, []), (3, []), (7, []), (8, []), (9, [])]
def causeyref08_Take : IR :=
 (.seq (.reg [⟨(some 2), .mv (.c (.s [])), none⟩,
   ⟨(some 3), .mv (.c (.re (.slice none 0 0))), none⟩,
   ⟨(some 4), .mv (.c (.i .i64 (.l 0))), none⟩] [2, 3, 4])
 (.seq (.reg [⟨(some 13), .mv (.t 0), none⟩,
   ⟨(some 14), .call (.c (.fn (.func 40) [] [])) [(.t 13), (.c (.i .i64 (.l 7)))], none⟩,
   ⟨(some 12), .mv (.t 14), none⟩,
   ⟨(some 15), .ext (.t 12) 0, none⟩,
   ⟨(some 16), .ext (.t 12) 1, none⟩,
   ⟨(some 17), .ext (.t 12) 2, none⟩,
   ⟨(some 5), .mv (.t 15), none⟩,
   ⟨(some 6), .mv (.t 16), none⟩,
   ⟨(some 7), .mv (.t 17), none⟩] [12, 13, 14, 15, 16, 17])
 (.seq (.seq (.reg [⟨(some 18), .mv (.t 7), none⟩,
   ⟨(some 19), .bin .ne (.t 18) (.c (.i .i64 (.l 0))), none⟩] [18])
 (.cond (.t 19)
  (.seq (.reg [⟨(some 20), .mv (.t 7), none⟩,
    ⟨(some 2), .mv (.c (.s [])), none⟩,
    ⟨(some 3), .mv (.c (.re (.slice none 0 0))), none⟩,
    ⟨(some 4), .mv (.t 20), none⟩] [7, 20])
  .ret)
  .skip))
 (.seq (.seq (.reg [⟨(some 21), .mv (.t 6), none⟩,
   ⟨(some 22), .len false (.t 21), none⟩,
   ⟨(some 23), .mv (.t 5), none⟩,
   ⟨(some 24), .bin .lt (.t 22) (.t 23), none⟩] [21, 22, 23])
 (.cond (.t 24)
  (.seq (.reg [⟨(some 2), .mv (.c (.s [])), none⟩,
    ⟨(some 3), .mv (.c (.re (.slice none 0 0))), none⟩,
    ⟨(some 4), .mv (.c (.i .i64 (.l 10))), none⟩] [])
  .ret)
  .skip))
 (.seq (.draw [⟨(some 25), .mv (.t 6), none⟩,
   ⟨(some 26), .mv (.t 5), none⟩,
   ⟨(some 27), .slc 1 (.t 25) none (some (.t 26)) none, none⟩,
   ⟨(some 28), .buildS 1 0 [(.i .u8 (.l 0))] [], none⟩,
   ⟨(some 29), .mv (.t 6), none⟩,
   ⟨(some 30), .mv (.t 5), none⟩,
   ⟨(some 31), .slc 1 (.t 29) (some (.t 30)) none none, none⟩,
   ⟨(some 32), .app 1 (.t 28) (.t 31), none⟩,
   ⟨(some 8), .mv (.t 27), none⟩,
   ⟨(some 9), .mv (.t 32), none⟩] [[], [], [0, 1], [], [], [], [4, 5], [3, 6], [2, 7, 0, 1, 2], [7, 8, 0, 1, 2, 3, 4, 5, 6, 7, 8]] [5, 6, 25, 26, 27, 28, 29, 30, 31, 32])
 (.seq (.seq (.reg [⟨(some 33), .mv (.t 0), none⟩,
   ⟨(some 34), .iadS 1 (.t 33) (.c (.i .i64 (.l 0))), none⟩,
   ⟨(some 35), .load false 1 (.t 34), none⟩,
   ⟨(some 36), .bin .lt (.t 35) (.c (.i .u8 (.l 128))), none⟩] [0, 33, 34, 35])
 (.cond (.t 36)
  (.seq (.reg [⟨(some 37), .mv (.t 8), none⟩,
    ⟨(some 38), .cvBS (.t 37), none⟩,
    ⟨(some 39), .mv (.t 9), none⟩,
    ⟨(some 2), .mv (.t 38), none⟩,
    ⟨(some 3), .mv (.t 39), none⟩,
    ⟨(some 4), .mv (.c (.i .i64 (.l 0))), none⟩] [8, 9, 37, 38, 39])
  .ret)
  .skip))
 (.seq (.reg [⟨(some 41), .mv (.t 8), none⟩,
   ⟨(some 42), .call (.c (.fn (.func 18) [] [])) [(.t 41)], none⟩,
   ⟨(some 40), .mv (.t 42), none⟩,
   ⟨(some 43), .ext (.t 40) 0, none⟩,
   ⟨(some 44), .ext (.t 40) 1, none⟩,
   ⟨(some 10), .mv (.t 43), none⟩,
   ⟨(some 11), .mv (.t 44), none⟩] [8, 40, 41, 42, 43, 44])
 (.seq (.seq (.reg [⟨(some 45), .mv (.t 11), none⟩,
   ⟨(some 46), .bin .ne (.t 45) (.c (.i .i64 (.l 0))), none⟩] [45])
 (.cond (.t 46)
  (.seq (.reg [⟨(some 47), .mv (.t 11), none⟩,
    ⟨(some 2), .mv (.c (.s [])), none⟩,
    ⟨(some 3), .mv (.c (.re (.slice none 0 0))), none⟩,
    ⟨(some 4), .mv (.t 47), none⟩] [11, 47])
  .ret)
  .skip))
 (.seq (.reg [⟨(some 48), .mv (.t 10), none⟩,
   ⟨(some 49), .cvBS (.t 48), none⟩,
   ⟨(some 50), .mv (.t 9), none⟩,
   ⟨(some 2), .mv (.t 49), none⟩,
   ⟨(some 3), .mv (.t 50), none⟩,
   ⟨(some 4), .mv (.c (.i .i64 (.l 0))), none⟩] [9, 10, 48, 49, 50])
 .ret)))))))))
theorem fn_causeyref08_Take : FnIs Try.prog 30 51 [.t 2, .t 3, .t 4] causeyref08_Take :=
  ⟨Try.f30, _, kl_causeyref08_Take, Try.func30, rfl, rfl, by kernel_rfl, by kernel_rfl, Try.call30⟩

def kl_causeylaw08_same : Nat → List Nat := fun
  | 0 => [4]
  | 1 => [0, 1, 5, 6, 7, 8, 9]
  | _ => []
def causeylaw08_same : IR :=
 (.seq (.reg [⟨(some 4), .mv (.c .ff), none⟩] [4])
 (.seq (.reg [⟨(some 5), .mv (.t 0), none⟩,
   ⟨(some 6), .cvBS (.t 5), none⟩,
   ⟨(some 7), .mv (.t 1), none⟩,
   ⟨(some 8), .cvBS (.t 7), none⟩,
   ⟨(some 9), .bin .eq (.t 6) (.t 8), none⟩,
   ⟨(some 4), .mv (.t 9), none⟩] [0, 1, 5, 6, 7, 8, 9])
 .ret))
theorem fn_causeylaw08_same : FnIs Try.prog 31 10 [.t 4] causeylaw08_same :=
  ⟨Try.f31, _, kl_causeylaw08_same, Try.func31, rfl, rfl, by kernel_rfl, by kernel_rfl, Try.call31⟩

def kl_text_Plain : Nat → List Nat := fun
  | 0 => [2]
  | 1 => [0, 3, 4, 5]
  | _ => []
def text_Plain : IR :=
 (.seq (.reg [⟨(some 2), .mv (.c (.re (.slice none 0 0))), none⟩] [2])
 (.seq (.reg [⟨(some 3), .mv (.t 0), none⟩,
   ⟨(some 4), .call (.c (.fn (.func 52) [] [])) [], none⟩,
   ⟨(some 5), .call (.c (.fn (.func 51) [] [])) [(.t 3), (.t 4)], none⟩,
   ⟨(some 2), .mv (.t 5), none⟩] [0, 3, 4, 5])
 .ret))
theorem fn_text_Plain : FnIs Try.prog 32 6 [.t 2] text_Plain :=
  ⟨Try.f32, _, kl_text_Plain, Try.func32, rfl, rfl, by kernel_rfl, by kernel_rfl, Try.call32⟩

def kl_causeyref08_Plain : Nat → List Nat := fun
  | 0 => [2]
  | 1 => [4, 5, 6, 7, 8, 9, 10]
  | 2 => [0, 3, 11, 12, 13]
  | _ => []
def causeyref08_Plain : IR :=
 (.seq (.reg [⟨(some 2), .mv (.c (.re (.slice none 0 0))), none⟩] [2])
 (.seq (.reg [⟨(some 6), .mv (.t 0), none⟩,
   ⟨(some 7), .len true (.t 6), none⟩,
   ⟨(some 8), .call (.c (.fn (.func 53) [] [])) [(.t 7), (.c (.i .i64 (.l 7))), (.c (.i .u8 (.l 0)))], none⟩,
   ⟨(some 5), .mv (.t 8), none⟩,
   ⟨(some 9), .ext (.t 5) 0, none⟩,
   ⟨(some 10), .ext (.t 5) 1, none⟩,
   ⟨(some 3), .mv (.t 9), none⟩,
   ⟨(some 4), .mv (.t 10), none⟩] [4, 5, 6, 7, 8, 9, 10])
 (.seq (.reg [⟨(some 11), .mv (.t 3), none⟩,
   ⟨(some 12), .mv (.t 0), none⟩,
   ⟨(some 13), .app 1 (.t 11) (.t 12), none⟩,
   ⟨(some 2), .mv (.t 13), none⟩] [0, 3, 11, 12, 13])
 .ret)))
theorem fn_causeyref08_Plain : FnIs Try.prog 33 14 [.t 2] causeyref08_Plain :=
  ⟨Try.f33, _, kl_causeyref08_Plain, Try.func33, rfl, rfl, by kernel_rfl, by kernel_rfl, Try.call33⟩

def kl_text_Bits : Nat → List Nat := fun
  | 0 => [2]
  | 1 => [0, 3, 4, 5]
  | _ => []
def text_Bits : IR :=
 (.seq (.reg [⟨(some 2), .mv (.c (.re (.slice none 0 0))), none⟩] [2])
 (.seq (.reg [⟨(some 3), .mv (.t 0), none⟩,
   ⟨(some 4), .call (.c (.fn (.func 54) [] [])) [], none⟩,
   ⟨(some 5), .call (.c (.fn (.func 51) [] [])) [(.t 3), (.t 4)], none⟩,
   ⟨(some 2), .mv (.t 5), none⟩] [0, 3, 4, 5])
 .ret))
theorem fn_text_Bits : FnIs Try.prog 34 6 [.t 2] text_Bits :=
  ⟨Try.f34, _, kl_text_Bits, Try.func34, rfl, rfl, by kernel_rfl, by kernel_rfl, Try.call34⟩

def kl_causeyref08_Bits : Nat → List Nat := fun
  | 0 => [2]
  | 1 => [0, 6, 7, 8]
  | 2 => [5, 9, 10, 11, 12, 13, 14]
  | 3 => [3, 4, 15, 16, 17]
  | _ => []
def causeyref08_Bits : IR :=
 (.seq (.reg [⟨(some 2), .mv (.c (.re (.slice none 0 0))), none⟩] [2])
 (.seq (.reg [⟨(some 6), .mv (.t 0), none⟩,
   ⟨(some 7), .cvSB (.t 6), none⟩,
   ⟨(some 8), .call (.c (.fn (.func 23) [] [])) [(.t 7)], none⟩,
   ⟨(some 3), .mv (.t 8), none⟩] [0, 6, 7, 8])
 (.seq (.reg [⟨(some 10), .mv (.t 3), none⟩,
   ⟨(some 11), .len false (.t 10), none⟩,
   ⟨(some 12), .call (.c (.fn (.func 53) [] [])) [(.t 11), (.c (.i .i64 (.l 7))), (.c (.i .u8 (.l 128)))], none⟩,
   ⟨(some 9), .mv (.t 12), none⟩,
   ⟨(some 13), .ext (.t 9) 0, none⟩,
   ⟨(some 14), .ext (.t 9) 1, none⟩,
   ⟨(some 4), .mv (.t 13), none⟩,
   ⟨(some 5), .mv (.t 14), none⟩] [5, 9, 10, 11, 12, 13, 14])
 (.seq (.reg [⟨(some 15), .mv (.t 4), none⟩,
   ⟨(some 16), .mv (.t 3), none⟩,
   ⟨(some 17), .app 1 (.t 15) (.t 16), none⟩,
   ⟨(some 2), .mv (.t 17), none⟩] [3, 4, 15, 16, 17])
 .ret))))
theorem fn_causeyref08_Bits : FnIs Try.prog 35 18 [.t 2] causeyref08_Bits :=
  ⟨Try.f35, _, kl_causeyref08_Bits, Try.func35, rfl, rfl, by kernel_rfl, by kernel_rfl, Try.call35⟩

def kl_text_Best : Nat → List Nat := fun
  | 0 => [2]
  | 1 => [4]
  | 2 => [5, 6]
  | 3 => [8]
  | 4 => [0, 3, 9, 10, 11]
  | _ => []
def text_Best : IR :=
 (.seq (.reg [⟨(some 2), .mv (.c (.re (.slice none 0 0))), none⟩] [2])
 (.seq (.reg [⟨(some 4), .call (.c (.fn (.func 52) [] [])) [], none⟩,
   ⟨(some 3), .mv (.t 4), none⟩] [4])
 (.seq (.seq (.reg [⟨(some 5), .mv (.t 0), none⟩,
   ⟨(some 6), .cvSB (.t 5), none⟩,
   ⟨(some 7), .call (.c (.fn (.func 24) [] [])) [(.t 6)], none⟩] [5, 6])
 (.cond (.t 7)
  (.reg [⟨(some 8), .call (.c (.fn (.func 54) [] [])) [], none⟩,
    ⟨(some 3), .mv (.t 8), none⟩] [8])
  .skip))
 (.seq (.reg [⟨(some 9), .mv (.t 0), none⟩,
   ⟨(some 10), .mv (.t 3), none⟩,
   ⟨(some 11), .call (.c (.fn (.func 51) [] [])) [(.t 9), (.t 10)], none⟩,
   ⟨(some 2), .mv (.t 11), none⟩] [0, 3, 9, 10, 11])
 .ret))))
theorem fn_text_Best : FnIs Try.prog 36 12 [.t 2] text_Best :=
  ⟨Try.f36, _, kl_text_Best, Try.func36, rfl, rfl, by kernel_rfl, by kernel_rfl, Try.call36⟩

def kl_causeyref08_Best : Nat → List Nat := fun
  | 0 => [2]
  | 1 => [3, 4]
  | 2 => [0, 6, 7]
  | 3 => [0, 8, 9]
  | _ => []
def causeyref08_Best : IR :=
 (.seq (.reg [⟨(some 2), .mv (.c (.re (.slice none 0 0))), none⟩] [2])
 (.seq (.seq (.reg [⟨(some 3), .mv (.t 0), none⟩,
   ⟨(some 4), .cvSB (.t 3), none⟩,
   ⟨(some 5), .call (.c (.fn (.func 25) [] [])) [(.t 4)], none⟩] [3, 4])
 (.cond (.t 5)
  (.seq (.reg [⟨(some 6), .mv (.t 0), none⟩,
    ⟨(some 7), .call (.c (.fn (.func 35) [] [])) [(.t 6)], none⟩,
    ⟨(some 2), .mv (.t 7), none⟩] [0, 6, 7])
  .ret)
  .skip))
 (.seq (.reg [⟨(some 8), .mv (.t 0), none⟩,
   ⟨(some 9), .call (.c (.fn (.func 33) [] [])) [(.t 8)], none⟩,
   ⟨(some 2), .mv (.t 9), none⟩] [0, 8, 9])
 .ret)))
theorem fn_causeyref08_Best : FnIs Try.prog 37 10 [.t 2] causeyref08_Best :=
  ⟨Try.f37, _, kl_causeyref08_Best, Try.func37, rfl, rfl, by kernel_rfl, by kernel_rfl, Try.call37⟩

def kl_text_Size : Nat → List Nat := fun
  | 0 => [2]
  | 1 => [0, 3, 4, 5]
  | _ => []
def text_Size : IR :=
 (.seq (.reg [⟨(some 2), .mv (.c (.i .i64 (.l 0))), none⟩] [2])
 (.seq (.reg [⟨(some 3), .mv (.t 0), none⟩,
   ⟨(some 4), .call (.c (.fn (.func 36) [] [])) [(.t 3)], none⟩,
   ⟨(some 5), .len false (.t 4), none⟩,
   ⟨(some 2), .mv (.t 5), none⟩] [0, 3, 4, 5])
 .ret))
theorem fn_text_Size : FnIs Try.prog 38 6 [.t 2] text_Size :=
  ⟨Try.f38, _, kl_text_Size, Try.func38, rfl, rfl, by kernel_rfl, by kernel_rfl, Try.call38⟩

def kl_causeyref08_Size : Nat → List Nat := fun
  | 0 => [2]
  | 1 => [0, 3, 4, 5]
  | _ => []
def causeyref08_Size : IR :=
 (.seq (.reg [⟨(some 2), .mv (.c (.i .i64 (.l 0))), none⟩] [2])
 (.seq (.reg [⟨(some 3), .mv (.t 0), none⟩,
   ⟨(some 4), .call (.c (.fn (.func 37) [] [])) [(.t 3)], none⟩,
   ⟨(some 5), .len false (.t 4), none⟩,
   ⟨(some 2), .mv (.t 5), none⟩] [0, 3, 4, 5])
 .ret))
theorem fn_causeyref08_Size : FnIs Try.prog 39 6 [.t 2] causeyref08_Size :=
  ⟨Try.f39, _, kl_causeyref08_Size, Try.func39, rfl, rfl, by kernel_rfl, by kernel_rfl, Try.call39⟩

def kl_causeyref06_Take : Nat → List Nat := fun
  | 0 => [4, 5, 6]
  | 1 => [12, 13, 14, 15, 16]
  | 3 => [18, 19]
  | 5 => [1, 21, 22]
  | 6 => [23, 24, 25, 26, 27, 28, 29]
  | 8 => [7, 30, 31, 32]
  | 10 => [10]
  | 11 => [34, 35]
  | 12 => [36, 37, 38]
  | 14 => [40, 41, 42, 43, 44, 45, 46, 47, 48, 49, 50]
  | 15 => [51, 52, 53, 54, 55]
  | 17 => [57, 58, 59, 60, 61]
  | 18 => [62, 63]
  | 19 => [0, 8, 9, 64, 65, 66, 67, 68, 69]
  | _ => []
def dead_causeyref06_Take_0 : List Nat := [1, 2, 3, 4, 5, 6, 7, 12, 13, 14, 15, 16, 17, 18, 19, 20, 21, 22, 23, 24, 25, 26, 27, 28, 29, 30, 31, 32, 33, 34, 35, 36, 37, 38, 39, 40, 41, 42, 43, 44, 45, 46, 47, 48, 49, 50, 51, 52, 53, 54, 55, 56, 57, 58, 59, 60, 61, 62, 63, 64, 65, 66, 67, 68, 69] -- live: [0, 8, 9, 10, 11]
def causeyref06_Take : IR :=
 (.seq (.reg [⟨(some 4), .mv (.c (.i .i64 (.l 0))), none⟩,
   ⟨(some 5), .mv (.c (.re (.slice none 0 0))), none⟩,
   ⟨(some 6), .mv (.c (.i .i64 (.l 0))), none⟩] [4, 5, 6])
 (.seq (.seq (.reg [⟨(some 12), .mv (.t 1), none⟩,
   ⟨(some 13), .bin .lt (.t 12) (.c (.i .i64 (.l 1))), none⟩,
   ⟨(some 14), .mv (.t 13), none⟩,
   ⟨(some 15), .mv (.t 1), (some (14, false))⟩,
   ⟨(some 16), .bin .gt (.t 15) (.c (.i .i64 (.l 8))), (some (14, false))⟩,
   ⟨(some 17), .pick (.t 14) (.c .tt) (.t 16), none⟩] [12, 13, 14, 15, 16])
 (.cond (.t 17)
  (.seq (.reg [⟨(some 4), .mv (.c (.i .i64 (.l 0))), none⟩,
    ⟨(some 5), .mv (.c (.re (.slice none 0 0))), none⟩,
    ⟨(some 6), .mv (.c (.i .i64 (.l 2))), none⟩] [])
  .ret)
  .skip))
 (.seq (.seq (.reg [⟨(some 18), .mv (.t 0), none⟩,
   ⟨(some 19), .len false (.t 18), none⟩,
   ⟨(some 20), .bin .eq (.t 19) (.c (.i .i64 (.l 0))), none⟩] [18, 19])
 (.cond (.t 20)
  (.seq (.reg [⟨(some 4), .mv (.c (.i .i64 (.l 0))), none⟩,
    ⟨(some 5), .mv (.c (.re (.slice none 0 0))), none⟩,
    ⟨(some 6), .mv (.c (.i .i64 (.l 10))), none⟩] [])
  .ret)
  .skip))
 (.seq (.reg [⟨(some 21), .mv (.t 1), none⟩,
   ⟨(some 22), .call (.c (.fn (.func 55) [] [])) [(.t 21)], none⟩,
   ⟨(some 7), .mv (.t 22), none⟩] [1, 21, 22])
 (.seq (.reg [⟨(some 23), .mv (.t 0), none⟩,
   ⟨(some 24), .iadS 1 (.t 23) (.c (.i .i64 (.l 0))), none⟩,
   ⟨(some 25), .load false 1 (.t 24), none⟩,
   ⟨(some 26), .cv .i64 (.t 25), none⟩,
   ⟨(some 27), .mv (.t 7), none⟩,
   ⟨(some 28), .bin .add (.t 27) (.c (.i .i64 (.l 1))), none⟩,
   ⟨(some 29), .bin .rem (.t 26) (.t 28), none⟩,
   ⟨(some 8), .mv (.t 29), none⟩] [23, 24, 25, 26, 27, 28, 29])
 (.seq (.reg [⟨(some 9), .mv (.c (.i .i64 (.l 1))), none⟩] [])
 (.seq (.reg [⟨(some 30), .mv (.t 8), none⟩,
   ⟨(some 31), .mv (.t 7), none⟩,
   ⟨(some 32), .bin .eq (.t 30) (.t 31), none⟩,
   ⟨(some 10), .mv (.t 32), none⟩] [7, 30, 31, 32])
 (.seq (.seq (.reg [⟨(some 11), .mv (.c (.i .i64 (.l 0))), none⟩] [])
 (.block 0 (.loop (.seq (.seq (.reg [⟨(some 33), .mv (.t 10), none⟩] [10])
   (.cond (.t 33)
    .skip
    (.exit 0)))
   (.seq (.block 1 (.seq (.seq (.reg [⟨(some 36), .mv (.t 9), none⟩,
      ⟨(some 37), .mv (.t 0), none⟩,
      ⟨(some 38), .len false (.t 37), none⟩,
      ⟨(some 39), .bin .ge (.t 36) (.t 38), none⟩] [36, 37, 38])
    (.cond (.t 39)
     (.seq (.reg [⟨(some 4), .mv (.c (.i .i64 (.l 0))), none⟩,
       ⟨(some 5), .mv (.c (.re (.slice none 0 0))), none⟩,
       ⟨(some 6), .mv (.c (.i .i64 (.l 10))), none⟩] [])
     .ret)
     .skip))
    (.seq (.reg [⟨(some 40), .mv (.t 8), none⟩,
      ⟨(some 41), .mv (.t 0), none⟩,
      ⟨(some 42), .mv (.t 9), none⟩,
      ⟨(some 43), .iadS 1 (.t 41) (.t 42), none⟩,
      ⟨(some 44), .load false 1 (.t 43), none⟩,
      ⟨(some 45), .bin .rem (.t 44) (.c (.i .u8 (.l 128))), none⟩,
      ⟨(some 46), .cv .i64 (.t 45), none⟩,
      ⟨(some 47), .mv (.t 11), none⟩,
      ⟨(some 48), .cv .u64 (.t 47), none⟩,
      ⟨(some 49), .bin .shl (.t 46) (.t 48), none⟩,
      ⟨(some 50), .bin .add (.t 40) (.t 49), none⟩,
      ⟨(some 8), .mv (.t 50), none⟩] [40, 41, 42, 43, 44, 45, 46, 47, 48, 49, 50])
    (.seq (.seq (.reg [⟨(some 51), .mv (.t 9), none⟩,
      ⟨(some 52), .bin .eq (.t 51) (.c (.i .i64 (.l 6))), none⟩,
      ⟨(some 53), .mv (.t 52), none⟩,
      ⟨(some 54), .mv (.t 8), (some (53, false))⟩,
      ⟨(some 55), .bin .ge (.t 54) (.c (.i .i64 (.l 2147483648))), (some (53, false))⟩,
      ⟨(some 56), .pick (.t 53) (.c .tt) (.t 55), none⟩] [51, 52, 53, 54, 55])
    (.cond (.t 56)
     (.seq (.reg [⟨(some 4), .mv (.c (.i .i64 (.l 0))), none⟩,
       ⟨(some 5), .mv (.c (.re (.slice none 0 0))), none⟩,
       ⟨(some 6), .mv (.c (.i .i64 (.l 60))), none⟩] [])
     .ret)
     .skip))
    (.seq (.reg [⟨(some 57), .mv (.t 0), none⟩,
      ⟨(some 58), .mv (.t 9), none⟩,
      ⟨(some 59), .iadS 1 (.t 57) (.t 58), none⟩,
      ⟨(some 60), .load false 1 (.t 59), none⟩,
      ⟨(some 61), .bin .ge (.t 60) (.c (.i .u8 (.l 128))), none⟩,
      ⟨(some 10), .mv (.t 61), none⟩] [57, 58, 59, 60, 61])
    (.reg [⟨(some 62), .mv (.t 9), none⟩,
      ⟨(some 63), .bin .add (.t 62) (.c (.i .i64 (.l 1))), none⟩,
      ⟨(some 9), .mv (.t 63), none⟩] [62, 63]))))))
   (.reg [⟨(some 34), .mv (.t 11), none⟩,
     ⟨(some 35), .bin .add (.t 34) (.c (.i .i64 (.l 7))), none⟩,
     ⟨(some 11), .mv (.t 35), none⟩] [34, 35]))))))
 (.seq (.reg [⟨(some 64), .mv (.t 8), none⟩,
   ⟨(some 65), .buildS 1 0 [(.i .u8 (.l 0))] [], none⟩,
   ⟨(some 66), .mv (.t 0), none⟩,
   ⟨(some 67), .mv (.t 9), none⟩,
   ⟨(some 68), .slc 1 (.t 66) (some (.t 67)) none none, none⟩,
   ⟨(some 69), .app 1 (.t 65) (.t 68), none⟩,
   ⟨(some 4), .mv (.t 64), none⟩,
   ⟨(some 5), .mv (.t 69), none⟩,
   ⟨(some 6), .mv (.c (.i .i64 (.l 0))), none⟩] [0, 8, 9, 64, 65, 66, 67, 68, 69])
 .ret)))))))))
theorem fn_causeyref06_Take : FnIs Try.prog 40 70 [.t 4, .t 5, .t 6] causeyref06_Take :=
  ⟨Try.f40, _, kl_causeyref06_Take, Try.func40, rfl, rfl, by kernel_rfl, by kernel_rfl, Try.call40⟩

def kl_huff_codes : Nat → List Nat := fun
  | 2 => [4]
  | 3 => [5]
  | 4 => [0, 1, 2, 6, 7, 8]
  | 5 => [9]
  | _ => []
def huff_codes : IR :=
 (.seq (.reg [⟨(some 0), .alloc (repS 512 [(.i .i64 (.l 0))]), none⟩] [])
 (.seq (.seq (.reg [⟨(some 3), .call (.c (.fn (.func 56) [] [])) [], none⟩] [])
 (.block 0 (.rf (.t 3) [4, 5]
   (.seq (.reg [⟨(some 1), .mv (.t 4), none⟩] [4])
   (.reg [⟨(some 2), .alloc [(.i .i64 (.l 0)), (.i .i64 (.l 0))], none⟩,
     ⟨none, .store 2 (.t 2) (.t 5), none⟩] [5]))
   (.block 1 (.reg [⟨(some 6), .mv (.t 1), none⟩,
      ⟨(some 7), .load true 2 (.t 2), none⟩,
      ⟨(some 8), .iadA 256 2 (.t 0) (.t 6), none⟩,
      ⟨none, .store 2 (.t 8) (.t 7), none⟩] [0, 1, 2, 6, 7, 8])))))
 (.seq (.reg [⟨(some 9), .load true 512 (.t 0), none⟩,
   ⟨none, .store 512 (.t 0) (.t 9), none⟩] [9])
 .ret)))
theorem fn_huff_codes : FnIs Try.prog 41 10 [.c 0 true 512] huff_codes :=
  ⟨Try.f41, _, kl_huff_codes, Try.func41, rfl, rfl, by kernel_rfl, by kernel_rfl, Try.call41⟩

def kl_causeyref07_place : Nat → List Nat := fun
  | 0 => [4]
  | 2 => [6, 7, 8]
  | 3 => [10, 11]
  | 4 => [12, 13, 14, 15]
  | 5 => [5, 17]
  | _ => []
def dead_causeyref07_place_0 : List Nat := [2, 3, 4, 6, 7, 8, 9, 10, 11, 12, 13, 14, 15, 16, 17] -- live: [0, 1, 5]
def causeyref07_place : IR :=
 (.seq (.reg [⟨(some 4), .mv (.c (.i .i64 (.l 0))), none⟩] [4])
 (.seq (.seq (.reg [⟨(some 5), .mv (.c (.i .i64 (.l 0))), none⟩] [])
 (.block 0 (.loop (.seq (.seq (.reg [⟨(some 6), .mv (.t 5), none⟩,
     ⟨(some 7), .mv (.t 0), none⟩,
     ⟨(some 8), .len true (.t 7), none⟩,
     ⟨(some 9), .bin .lt (.t 6) (.t 8), none⟩] [6, 7, 8])
   (.cond (.t 9)
    .skip
    (.exit 0)))
   (.seq (.block 1 (.seq (.reg [⟨(some 12), .mv (.t 0), none⟩,
      ⟨(some 13), .mv (.t 5), none⟩,
      ⟨(some 14), .ixS (.t 12) (.t 13), none⟩,
      ⟨(some 15), .mv (.t 1), none⟩,
      ⟨(some 16), .bin .eq (.t 14) (.t 15), none⟩] [12, 13, 14, 15])
    (.cond (.t 16)
     (.seq (.reg [⟨(some 17), .mv (.t 5), none⟩,
       ⟨(some 4), .mv (.t 17), none⟩] [5, 17])
     .ret)
     .skip)))
   (.reg [⟨(some 10), .mv (.t 5), none⟩,
     ⟨(some 11), .bin .add (.t 10) (.c (.i .i64 (.l 1))), none⟩,
     ⟨(some 5), .mv (.t 11), none⟩] [10, 11]))))))
 (.seq (.reg [⟨(some 4), .mv (.c (.i .i64 (.l (-1)))), none⟩] [])
 .ret)))
theorem fn_causeyref07_place : FnIs Try.prog 42 18 [.t 4] causeyref07_place :=
  ⟨Try.f42, _, kl_causeyref07_place, Try.func42, rfl, rfl, by kernel_rfl, by kernel_rfl, Try.call42⟩

def kl_causeyref07_others : Nat → List Nat := fun
  | 0 => [2]
  | 3 => [5, 6, 7]
  | 4 => [9, 10]
  | 5 => [11, 12, 13]
  | 6 => [15, 16]
  | 7 => [3, 17]
  | _ => []
def dead_causeyref07_others_0 : List Nat := [1, 2, 5, 6, 7, 8, 9, 10, 11, 12, 13, 14, 15, 16, 17] -- live: [0, 3, 4]
def causeyref07_others : IR :=
 (.seq (.reg [⟨(some 2), .mv (.c (.i .i64 (.l 0))), none⟩] [2])
 (.seq (.reg [⟨(some 3), .mv (.c (.i .i64 (.l 0))), none⟩] [])
 (.seq (.seq (.reg [⟨(some 4), .mv (.c (.i .i64 (.l 0))), none⟩] [])
 (.block 0 (.loop (.seq (.seq (.reg [⟨(some 5), .mv (.t 4), none⟩,
     ⟨(some 6), .mv (.t 0), none⟩,
     ⟨(some 7), .cv .i64 (.t 6), none⟩,
     ⟨(some 8), .bin .lt (.t 5) (.t 7), none⟩] [5, 6, 7])
   (.cond (.t 8)
    .skip
    (.exit 0)))
   (.seq (.block 1 (.seq (.reg [⟨(some 11), .mv (.t 4), none⟩,
      ⟨(some 12), .cv .u8 (.t 11), none⟩,
      ⟨(some 13), .call (.c (.fn (.func 42) [] [])) [(.c (.s [45, 47, 48, 49, 50, 51, 97, 99, 101, 105, 110, 111, 114, 115, 116, 117, 46, 52, 53, 54, 55, 56, 57, 58, 98, 100, 102, 103, 104, 108, 109, 112, 65, 66, 67, 68, 69, 70, 71, 72, 106, 107, 113, 118, 119, 120, 121, 122])), (.t 12)], none⟩,
      ⟨(some 14), .bin .lt (.t 13) (.c (.i .i64 (.l 0))), none⟩] [11, 12, 13])
    (.cond (.t 14)
     (.reg [⟨(some 15), .mv (.t 3), none⟩,
       ⟨(some 16), .bin .add (.t 15) (.c (.i .i64 (.l 1))), none⟩,
       ⟨(some 3), .mv (.t 16), none⟩] [15, 16])
     .skip)))
   (.reg [⟨(some 9), .mv (.t 4), none⟩,
     ⟨(some 10), .bin .add (.t 9) (.c (.i .i64 (.l 1))), none⟩,
     ⟨(some 4), .mv (.t 10), none⟩] [9, 10]))))))
 (.seq (.reg [⟨(some 17), .mv (.t 3), none⟩,
   ⟨(some 2), .mv (.t 17), none⟩] [3, 17])
 .ret))))
theorem fn_causeyref07_others : FnIs Try.prog 43 18 [.t 2] causeyref07_others :=
  ⟨Try.f43, _, kl_causeyref07_others, Try.func43, rfl, rfl, by kernel_rfl, by kernel_rfl, Try.call43⟩

def kl_huff_known : Nat → List Nat := fun
  | 1 => [4]
  | 3 => [6]
  | 4 => [7]
  | 5 => [1, 2, 3, 8, 9, 10]
  | 6 => [1, 11]
  | _ => []
def huff_known : IR :=
 (.seq (.reg [⟨(some 0), .mv (.c (.re (.map none))), none⟩] [])
 (.seq (.reg [⟨(some 4), .mkM, none⟩,
   ⟨(some 1), .alloc [(.re (.map none))], none⟩,
   ⟨none, .store 1 (.t 1) (.t 4), none⟩] [4])
 (.seq (.seq (.reg [⟨(some 5), .call (.c (.fn (.func 56) [] [])) [], none⟩] [])
 (.block 0 (.rf (.t 5) [6, 7]
   (.seq (.reg [⟨(some 2), .mv (.t 6), none⟩] [6])
   (.reg [⟨(some 3), .alloc [(.i .i64 (.l 0)), (.i .i64 (.l 0))], none⟩,
     ⟨none, .store 2 (.t 3) (.t 7), none⟩] [7]))
   (.block 1 (.reg [⟨(some 8), .load false 1 (.t 1), none⟩,
      ⟨(some 9), .load true 2 (.t 3), none⟩,
      ⟨(some 10), .mv (.t 2), none⟩,
      ⟨none, .mupd ⟨true, [.ki, .ki]⟩ (.t 8) (.t 9) (.t 10), none⟩] [1, 2, 3, 8, 9, 10])))))
 (.seq (.reg [⟨(some 11), .load false 1 (.t 1), none⟩,
   ⟨(some 0), .mv (.t 11), none⟩] [1, 11])
 .ret))))
theorem fn_huff_known : FnIs Try.prog 44 12 [.t 0] huff_known :=
  ⟨Try.f44, _, kl_huff_known, Try.func44, rfl, rfl, by kernel_rfl, by kernel_rfl, Try.call44⟩

def kl_octet_Bits : Nat → List Nat := fun
  | 0 => [6, 7]
  | 1 => [8]
  | 2 => [0, 1, 10, 11, 12, 13, 14, 15, 16, 17, 18]
  | 3 => [19, 20, 21, 22, 23]
  | 5 => [0, 1, 2, 25, 26, 27, 28, 29, 30]
  | _ => []
def octet_Bits : IR :=
 (.seq (.reg [⟨(some 6), .mv (.c (.i .i64 (.l 0))), none⟩,
   ⟨(some 7), .mv (.c .ff), none⟩] [6, 7])
 (.seq (.seq (.reg [⟨(some 8), .mv (.t 2), none⟩,
   ⟨(some 9), .bin .eq (.t 8) (.c (.i .i64 (.l 0))), none⟩] [8])
 (.cond (.t 9)
  (.seq (.reg [⟨(some 10), .mv (.t 1), none⟩,
    ⟨(some 11), .bin .ge (.t 10) (.c (.i .i64 (.l 0))), none⟩,
    ⟨(some 12), .mv (.t 11), none⟩,
    ⟨(some 13), .mv (.t 1), (some (12, true))⟩,
    ⟨(some 14), .mv (.t 0), (some (12, true))⟩,
    ⟨(some 15), .len false (.t 14), (some (12, true))⟩,
    ⟨(some 16), .bin .mul (.c (.i .i64 (.l 8))) (.t 15), (some (12, true))⟩,
    ⟨(some 17), .bin .le (.t 13) (.t 16), (some (12, true))⟩,
    ⟨(some 18), .pick (.t 12) (.t 17) (.c .ff), none⟩,
    ⟨(some 6), .mv (.c (.i .i64 (.l 0))), none⟩,
    ⟨(some 7), .mv (.t 18), none⟩] [0, 1, 10, 11, 12, 13, 14, 15, 16, 17, 18])
  .ret)
  .skip))
 (.seq (.seq (.reg [⟨(some 19), .mv (.t 2), none⟩,
   ⟨(some 20), .bin .lt (.t 19) (.c (.i .i64 (.l 0))), none⟩,
   ⟨(some 21), .mv (.t 20), none⟩,
   ⟨(some 22), .mv (.t 2), (some (21, false))⟩,
   ⟨(some 23), .bin .gt (.t 22) (.c (.i .i64 (.l 30))), (some (21, false))⟩,
   ⟨(some 24), .pick (.t 21) (.c .tt) (.t 23), none⟩] [19, 20, 21, 22, 23])
 (.cond (.t 24)
  (.seq (.reg [⟨(some 6), .mv (.c (.i .i64 (.l 0))), none⟩,
    ⟨(some 7), .mv (.c .ff), none⟩] [])
  .ret)
  .skip))
 (.seq (.reg [⟨(some 25), .mv (.t 0), none⟩,
   ⟨(some 26), .mv (.t 1), none⟩,
   ⟨(some 27), .mv (.t 2), none⟩,
   ⟨(some 28), .call (.c (.fn (.func 57) [] [])) [(.t 25), (.t 26), (.t 27)], none⟩,
   ⟨(some 29), .ext (.t 28) 0, none⟩,
   ⟨(some 30), .ext (.t 28) 1, none⟩,
   ⟨(some 6), .mv (.t 29), none⟩,
   ⟨(some 7), .mv (.t 30), none⟩] [0, 1, 2, 25, 26, 27, 28, 29, 30])
 .ret))))
theorem fn_octet_Bits : FnIs Try.prog 45 31 [.t 6, .t 7] octet_Bits :=
  ⟨Try.f45, _, kl_octet_Bits, Try.func45, rfl, rfl, by kernel_rfl, by kernel_rfl, Try.call45⟩

def kl_causeyref07_next : Nat → List Nat := fun
  | 0 => [4, 5]
  | 1 => [12]
  | 3 => [13]
  | 4 => [15, 16]
  | 5 => [17, 18, 19, 20, 21, 22, 23, 24, 25]
  | 6 => [9, 26]
  | 8 => [8, 28, 29, 30, 31, 32, 33, 34, 35]
  | 9 => [11]
  | 10 => [6, 7, 10, 37, 38, 39, 40]
  | _ => []
def dead_causeyref07_next_0 : List Nat := [2, 3, 4, 5, 8, 9, 10, 11, 12, 13, 14, 15, 16, 17, 18, 19, 20, 21, 22, 23, 24, 25, 26, 27, 28, 29, 30, 31, 32, 33, 34, 35, 36, 37, 38, 39, 40] -- live: [0, 1, 6, 7]
def ord_causeyref07_next_0 : List (Nat × List Nat) := [(0, []), (1, []), (2, []), (3, []), (4, []), (5, [])]
def causeyref07_next : IR :=
 (.seq (.reg [⟨(some 4), .mv (.c (.i .u8 (.l 0))), none⟩,
   ⟨(some 5), .mv (.c (.i .i64 (.l 0))), none⟩] [4, 5])
 (.seq (.reg [⟨(some 12), .build [(.i .i64 (.l 0)), (.i .i64 (.l 0)), (.i .i64 (.l 0)), (.i .i64 (.l 0))] [(0, 1, (.c (.i .i64 (.l 5)))), (1, 1, (.c (.i .i64 (.l 6)))), (2, 1, (.c (.i .i64 (.l 7)))), (3, 1, (.c (.i .i64 (.l 11))))], none⟩,
   ⟨(some 6), .alloc [(.i .i64 (.l 0)), (.i .i64 (.l 0)), (.i .i64 (.l 0)), (.i .i64 (.l 0))], none⟩,
   ⟨none, .store 4 (.t 6) (.t 12), none⟩] [12])
 (.seq (.seq (.reg [⟨(some 7), .mv (.c (.i .i64 (.l 0))), none⟩] [])
 (.block 0 (.loop (.seq (.seq (.reg [⟨(some 13), .mv (.t 7), none⟩,
     ⟨(some 14), .bin .lt (.t 13) (.c (.i .i64 (.l 4))), none⟩] [13])
   (.cond (.t 14)
    .skip
    (.exit 0)))
   (.seq (.block 1 (.seq (.reg [⟨(some 18), .mv (.t 0), none⟩,
      ⟨(some 19), .mv (.t 1), none⟩,
      ⟨(some 20), .mv (.t 7), none⟩,
      ⟨(some 21), .iadA 4 1 (.t 6) (.t 20), none⟩,
      ⟨(some 22), .load false 1 (.t 21), none⟩,
      ⟨(some 23), .call (.c (.fn (.func 27) [] [])) [(.t 18), (.t 19), (.t 22)], none⟩,
      ⟨(some 17), .mv (.t 23), none⟩,
      ⟨(some 24), .ext (.t 17) 0, none⟩,
      ⟨(some 25), .ext (.t 17) 1, none⟩,
      ⟨(some 8), .mv (.t 24), none⟩,
      ⟨(some 9), .mv (.t 25), none⟩] [17, 18, 19, 20, 21, 22, 23, 24, 25])
    (.seq (.seq (.reg [⟨(some 26), .mv (.t 9), none⟩,
      ⟨(some 27), .not (.t 26), none⟩] [9, 26])
    (.cond (.t 27)
     (.seq (.reg [⟨(some 4), .mv (.c (.i .u8 (.l 0))), none⟩,
       ⟨(some 5), .mv (.c (.i .i64 (.l 0))), none⟩] [])
     .ret)
     .skip))
    (.seq (.reg [⟨(some 29), .mv (.t 8), none⟩,
      ⟨(some 30), .mv (.t 7), none⟩,
      ⟨(some 31), .iadA 4 1 (.t 6) (.t 30), none⟩,
      ⟨(some 32), .load false 1 (.t 31), none⟩,
      ⟨(some 33), .call (.c (.fn (.func 16) [] [])) [(.t 29), (.t 32)], none⟩,
      ⟨(some 28), .mv (.t 33), none⟩,
      ⟨(some 34), .ext (.t 28) 0, none⟩,
      ⟨(some 35), .ext (.t 28) 1, none⟩,
      ⟨(some 10), .mv (.t 34), none⟩,
      ⟨(some 11), .mv (.t 35), none⟩] [8, 28, 29, 30, 31, 32, 33, 34, 35])
    (.seq (.reg [⟨(some 36), .mv (.t 11), none⟩] [11])
    (.cond (.t 36)
     (.seq (.draw [⟨(some 37), .mv (.t 10), none⟩,
       ⟨(some 38), .mv (.t 7), none⟩,
       ⟨(some 39), .iadA 4 1 (.t 6) (.t 38), none⟩,
       ⟨(some 40), .load false 1 (.t 39), none⟩,
       ⟨(some 4), .mv (.t 37), none⟩,
       ⟨(some 5), .mv (.t 40), none⟩] [[], [], [1], [2], [0, 0], [3, 4, 0, 1, 2, 3, 4]] [6, 7, 10, 37, 38, 39, 40])
     .ret)
     .skip))))))
   (.reg [⟨(some 15), .mv (.t 7), none⟩,
     ⟨(some 16), .bin .add (.t 15) (.c (.i .i64 (.l 1))), none⟩,
     ⟨(some 7), .mv (.t 16), none⟩] [15, 16]))))))
 (.seq (.reg [⟨(some 4), .mv (.c (.i .u8 (.l 0))), none⟩,
   ⟨(some 5), .mv (.c (.i .i64 (.l 0))), none⟩] [])
 .ret))))
theorem fn_causeyref07_next : FnIs Try.prog 46 41 [.t 4, .t 5] causeyref07_next :=
  ⟨Try.f46, _, kl_causeyref07_next, Try.func46, rfl, rfl, by kernel_rfl, by kernel_rfl, Try.call46⟩

def kl_causeyref01_Lay : Nat → List Nat := fun
  | 0 => [8, 9, 10]
  | 1 => [15, 16, 17, 18, 19, 20, 21, 22, 23, 24, 25, 26, 27, 28, 29, 30, 31, 32, 33, 34, 35, 36, 37, 38, 39, 40, 41, 42, 43, 44, 45, 46, 47, 48, 49]
  | 3 => [3, 51, 52, 53]
  | 4 => [54, 55, 56, 57]
  | 6 => [58, 59]
  | 7 => [61, 62]
  | 8 => [14]
  | 9 => [63, 64]
  | 10 => [66, 67, 68, 69, 70, 71]
  | 11 => [72, 73, 74, 75, 76, 77, 78, 79]
  | 12 => [14, 80, 81, 82, 83, 84, 85, 86, 87, 88, 89, 90, 91, 92, 93, 94, 95, 96]
  | 13 => [11, 12, 97, 98]
  | _ => []
def dead_causeyref01_Lay_0 : List Nat := [3, 4, 5, 6, 7, 8, 9, 10, 14, 15, 16, 17, 18, 19, 20, 21, 22, 23, 24, 25, 26, 27, 28, 29, 30, 31, 32, 33, 34, 35, 36, 37, 38, 39, 40, 41, 42, 43, 44, 45, 46, 47, 48, 49, 50, 51, 52, 53, 54, 55, 56, 57, 58, 59, 60, 61, 62, 63, 64, 65, 66, 67, 68, 69, 70, 71, 72, 73, 74, 75, 76, 77, 78, 79, 80, 81, 82, 83, 84, 85, 86, 87, 88, 89, 90, 91, 92, 93, 94, 95, 96, 97, 98] -- live: [0, 1, 2, 11, 12, 13]
def causeyref01_Lay : IR :=
 (.seq (.reg [⟨(some 8), .mv (.c (.re (.slice none 0 0))), none⟩,
   ⟨(some 9), .mv (.c (.i .i64 (.l 0))), none⟩,
   ⟨(some 10), .mv (.c (.i .i64 (.l 0))), none⟩] [8, 9, 10])
 (.seq (.seq (.reg [⟨(some 15), .mv (.t 3), none⟩,
   ⟨(some 16), .bin .lt (.t 15) (.c (.i .i64 (.l 0))), none⟩,
   ⟨(some 17), .mv (.t 16), none⟩,
   ⟨(some 18), .mv (.t 3), (some (17, false))⟩,
   ⟨(some 19), .bin .gt (.t 18) (.c (.i .i64 (.l 30))), (some (17, false))⟩,
   ⟨(some 20), .pick (.t 17) (.c .tt) (.t 19), none⟩,
   ⟨(some 21), .mv (.t 20), none⟩,
   ⟨(some 22), .mv (.t 2), (some (21, false))⟩,
   ⟨(some 23), .bin .lt (.t 22) (.c (.i .i64 (.l 0))), (some (21, false))⟩,
   ⟨(some 24), .pick (.t 21) (.c .tt) (.t 23), none⟩,
   ⟨(some 25), .mv (.t 24), none⟩,
   ⟨(some 26), .mv (.t 2), (some (25, false))⟩,
   ⟨(some 27), .mv (.t 3), (some (25, false))⟩,
   ⟨(some 28), .cv .u64 (.t 27), (some (25, false))⟩,
   ⟨(some 29), .bin .shl (.c (.i .i64 (.l 1))) (.t 28), (some (25, false))⟩,
   ⟨(some 30), .bin .ge (.t 26) (.t 29), (some (25, false))⟩,
   ⟨(some 31), .pick (.t 25) (.c .tt) (.t 30), none⟩,
   ⟨(some 32), .mv (.t 31), none⟩,
   ⟨(some 33), .mv (.t 1), (some (32, false))⟩,
   ⟨(some 34), .bin .lt (.t 33) (.c (.i .i64 (.l 0))), (some (32, false))⟩,
   ⟨(some 35), .pick (.t 32) (.c .tt) (.t 34), none⟩,
   ⟨(some 36), .mv (.t 35), none⟩,
   ⟨(some 37), .mv (.t 1), (some (36, false))⟩,
   ⟨(some 38), .mv (.t 0), (some (36, false))⟩,
   ⟨(some 39), .len false (.t 38), (some (36, false))⟩,
   ⟨(some 40), .bin .mul (.c (.i .i64 (.l 8))) (.t 39), (some (36, false))⟩,
   ⟨(some 41), .bin .gt (.t 37) (.t 40), (some (36, false))⟩,
   ⟨(some 42), .pick (.t 36) (.c .tt) (.t 41), none⟩,
   ⟨(some 43), .mv (.t 42), none⟩,
   ⟨(some 44), .mv (.t 0), (some (43, false))⟩,
   ⟨(some 45), .len false (.t 44), (some (43, false))⟩,
   ⟨(some 46), .bin .mul (.c (.i .i64 (.l 8))) (.t 45), (some (43, false))⟩,
   ⟨(some 47), .mv (.t 1), (some (43, false))⟩,
   ⟨(some 48), .bin .sub (.t 46) (.t 47), (some (43, false))⟩,
   ⟨(some 49), .bin .ge (.t 48) (.c (.i .i64 (.l 8))), (some (43, false))⟩,
   ⟨(some 50), .pick (.t 43) (.c .tt) (.t 49), none⟩] [15, 16, 17, 18, 19, 20, 21, 22, 23, 24, 25, 26, 27, 28, 29, 30, 31, 32, 33, 34, 35, 36, 37, 38, 39, 40, 41, 42, 43, 44, 45, 46, 47, 48, 49])
 (.cond (.t 50)
  (.seq (.reg [⟨(some 8), .mv (.c (.re (.slice none 0 0))), none⟩,
    ⟨(some 9), .mv (.c (.i .i64 (.l 0))), none⟩,
    ⟨(some 10), .mv (.c (.i .i64 (.l 2))), none⟩] [])
  .ret)
  .skip))
 (.seq (.reg [⟨(some 51), .mv (.t 1), none⟩,
   ⟨(some 52), .mv (.t 3), none⟩,
   ⟨(some 53), .bin .add (.t 51) (.t 52), none⟩,
   ⟨(some 11), .mv (.t 53), none⟩] [3, 51, 52, 53])
 (.seq (.reg [⟨(some 54), .mv (.t 11), none⟩,
   ⟨(some 55), .bin .add (.t 54) (.c (.i .i64 (.l 7))), none⟩,
   ⟨(some 56), .bin .quo (.t 55) (.c (.i .i64 (.l 8))), none⟩,
   ⟨(some 57), .mkS 1 [(.i .u8 (.l 0))] (.t 56) (.t 56), none⟩,
   ⟨(some 12), .mv (.t 57), none⟩] [54, 55, 56, 57])
 (.seq (.seq (.reg [⟨(some 13), .mv (.c (.i .i64 (.l 0))), none⟩] [])
 (.block 0 (.loop (.seq (.seq (.reg [⟨(some 58), .mv (.t 13), none⟩,
     ⟨(some 59), .mv (.t 11), none⟩,
     ⟨(some 60), .bin .lt (.t 58) (.t 59), none⟩] [58, 59])
   (.cond (.t 60)
    .skip
    (.exit 0)))
   (.seq (.block 1 (.seq (.reg [⟨(some 14), .mv (.c (.i .i64 (.l 0))), none⟩] [14])
    (.seq (.seq (.reg [⟨(some 63), .mv (.t 13), none⟩,
      ⟨(some 64), .mv (.t 1), none⟩,
      ⟨(some 65), .bin .lt (.t 63) (.t 64), none⟩] [63, 64])
    (.cond (.t 65)
     (.reg [⟨(some 67), .mv (.t 0), none⟩,
       ⟨(some 68), .mv (.t 13), none⟩,
       ⟨(some 69), .call (.c (.fn (.func 26) [] [])) [(.t 67), (.t 68)], none⟩,
       ⟨(some 66), .mv (.t 69), none⟩,
       ⟨(some 70), .ext (.t 66) 0, none⟩,
       ⟨(some 71), .ext (.t 66) 1, none⟩,
       ⟨(some 14), .mv (.t 70), none⟩] [66, 67, 68, 69, 70, 71])
     (.reg [⟨(some 72), .mv (.t 2), none⟩,
       ⟨(some 73), .mv (.t 11), none⟩,
       ⟨(some 74), .bin .sub (.t 73) (.c (.i .i64 (.l 1))), none⟩,
       ⟨(some 75), .mv (.t 13), none⟩,
       ⟨(some 76), .bin .sub (.t 74) (.t 75), none⟩,
       ⟨(some 77), .cv .u64 (.t 76), none⟩,
       ⟨(some 78), .bin .shr (.t 72) (.t 77), none⟩,
       ⟨(some 79), .bin .rem (.t 78) (.c (.i .i64 (.l 2))), none⟩,
       ⟨(some 14), .mv (.t 79), none⟩] [72, 73, 74, 75, 76, 77, 78, 79])))
    (.reg [⟨(some 80), .mv (.t 12), none⟩,
      ⟨(some 81), .mv (.t 13), none⟩,
      ⟨(some 82), .bin .quo (.t 81) (.c (.i .i64 (.l 8))), none⟩,
      ⟨(some 83), .mv (.t 12), none⟩,
      ⟨(some 84), .mv (.t 13), none⟩,
      ⟨(some 85), .bin .quo (.t 84) (.c (.i .i64 (.l 8))), none⟩,
      ⟨(some 86), .iadS 1 (.t 83) (.t 85), none⟩,
      ⟨(some 87), .load false 1 (.t 86), none⟩,
      ⟨(some 88), .mv (.t 14), none⟩,
      ⟨(some 89), .mv (.t 13), none⟩,
      ⟨(some 90), .bin .rem (.t 89) (.c (.i .i64 (.l 8))), none⟩,
      ⟨(some 91), .bin .sub (.c (.i .i64 (.l 7))) (.t 90), none⟩,
      ⟨(some 92), .cv .u64 (.t 91), none⟩,
      ⟨(some 93), .bin .shl (.t 88) (.t 92), none⟩,
      ⟨(some 94), .cv .u8 (.t 93), none⟩,
      ⟨(some 95), .bin .add (.t 87) (.t 94), none⟩,
      ⟨(some 96), .iadS 1 (.t 80) (.t 82), none⟩,
      ⟨none, .store 1 (.t 96) (.t 95), none⟩] [14, 80, 81, 82, 83, 84, 85, 86, 87, 88, 89, 90, 91, 92, 93, 94, 95, 96]))))
   (.reg [⟨(some 61), .mv (.t 13), none⟩,
     ⟨(some 62), .bin .add (.t 61) (.c (.i .i64 (.l 1))), none⟩,
     ⟨(some 13), .mv (.t 62), none⟩] [61, 62]))))))
 (.seq (.reg [⟨(some 97), .mv (.t 12), none⟩,
   ⟨(some 98), .mv (.t 11), none⟩,
   ⟨(some 8), .mv (.t 97), none⟩,
   ⟨(some 9), .mv (.t 98), none⟩,
   ⟨(some 10), .mv (.c (.i .i64 (.l 0))), none⟩] [11, 12, 97, 98])
 .ret))))))
theorem fn_causeyref01_Lay : FnIs Try.prog 47 99 [.t 8, .t 9, .t 10] causeyref01_Lay :=
  ⟨Try.f47, _, kl_causeyref01_Lay, Try.func47, rfl, rfl, by kernel_rfl, by kernel_rfl, Try.call47⟩

def kl_prefix_Take : Nat → List Nat := fun
  | 0 => [4, 5, 6]
  | 1 => [7, 8]
  | 3 => [9, 10]
  | 5 => [12, 13]
  | 6 => [1, 15, 16, 17]
  | 7 => [18, 19, 20, 21, 22, 23]
  | 8 => [7, 24, 25]
  | 9 => [0, 27, 28, 29, 30]
  | 11 => [31, 32]
  | 13 => [33, 34, 35]
  | 14 => [37, 38, 39, 40, 41, 42, 43, 44, 45, 46, 47, 48]
  | 16 => [49, 50, 51, 52, 53, 54]
  | 17 => [56, 57, 58, 59, 60]
  | 18 => [0, 8, 62, 63, 64, 65, 66, 67]
  | 19 => [68]
  | _ => []
def dead_prefix_Take_0 : List Nat := [1, 2, 3, 5, 6, 7, 9, 10, 11, 12, 13, 14, 15, 16, 17, 18, 19, 20, 21, 22, 23, 24, 25, 26, 27, 28, 29, 30, 31, 32, 33, 34, 35, 36, 37, 38, 39, 40, 41, 42, 43, 44, 45, 46, 47, 48, 49, 50, 51, 52, 53, 54, 55, 56, 57, 58, 59, 60, 61, 62, 63, 64, 65, 66, 67, 68] -- live: [0, 4, 8]
def prefix_Take : IR :=
 (.seq (.reg [⟨(some 4), .mv (.c (.i .i64 (.l 0))), none⟩,
   ⟨(some 5), .mv (.c (.re (.slice none 0 0))), none⟩,
   ⟨(some 6), .mv (.c (.i .i64 (.l 0))), none⟩] [4, 5, 6])
 (.scope (.seq (.reg [⟨(some 7), .mv (.c (.i .i64 (.l 0))), none⟩,
    ⟨(some 8), .mv (.c (.i .i64 (.l 0))), none⟩] [7, 8])
  (.seq (.seq (.reg [⟨(some 6), .mv (.c (.i .i64 (.l 2))), none⟩] [])
  (.seq (.reg [⟨(some 9), .mv (.t 1), none⟩,
    ⟨(some 10), .call (.c (.fn (.func 58) [] [])) [(.t 9)], none⟩,
    ⟨(some 11), .not (.t 10), none⟩] [9, 10])
  (.cond (.t 11)
   (.goto 0)
   .skip)))
  (.seq (.seq (.reg [⟨(some 6), .mv (.c (.i .i64 (.l 10))), none⟩] [])
  (.seq (.reg [⟨(some 12), .mv (.t 0), none⟩,
    ⟨(some 13), .len false (.t 12), none⟩,
    ⟨(some 14), .bin .eq (.t 13) (.c (.i .i64 (.l 0))), none⟩] [12, 13])
  (.cond (.t 14)
   (.goto 0)
   .skip)))
  (.seq (.reg [⟨(some 15), .mv (.t 1), none⟩,
    ⟨(some 16), .bin .shl (.c (.i .i64 (.l 1))) (.t 15), none⟩,
    ⟨(some 17), .bin .sub (.t 16) (.c (.i .i64 (.l 1))), none⟩,
    ⟨(some 7), .mv (.t 17), none⟩] [1, 15, 16, 17])
  (.seq (.seq (.reg [⟨(some 18), .mv (.t 0), none⟩,
    ⟨(some 19), .iadS 1 (.t 18) (.c (.i .i64 (.l 0))), none⟩,
    ⟨(some 20), .load false 1 (.t 19), none⟩,
    ⟨(some 21), .cv .i64 (.t 20), none⟩,
    ⟨(some 22), .mv (.t 7), none⟩,
    ⟨(some 23), .bin .and (.t 21) (.t 22), none⟩,
    ⟨(some 4), .mv (.t 23), none⟩] [18, 19, 20, 21, 22, 23])
  (.seq (.reg [⟨(some 24), .mv (.t 4), none⟩,
    ⟨(some 25), .mv (.t 7), none⟩,
    ⟨(some 26), .bin .lt (.t 24) (.t 25), none⟩] [7, 24, 25])
  (.cond (.t 26)
   (.seq (.reg [⟨(some 27), .mv (.t 4), none⟩,
     ⟨(some 28), .mv (.t 0), none⟩,
     ⟨(some 29), .slc 1 (.t 28) (some (.c (.i .i64 (.l 1)))) none none, none⟩,
     ⟨(some 30), .call (.c (.fn (.func 50) [] [])) [(.t 29)], none⟩,
     ⟨(some 4), .mv (.t 27), none⟩,
     ⟨(some 5), .mv (.t 30), none⟩,
     ⟨(some 6), .mv (.c (.i .i64 (.l 0))), none⟩] [0, 27, 28, 29, 30])
   .ret)
   .skip)))
  (.seq (.seq (.reg [⟨(some 8), .mv (.c (.i .i64 (.l 1))), none⟩] [])
  (.block 0 (.loop (.seq (.block 1 (.seq (.seq (.reg [⟨(some 6), .mv (.c (.i .i64 (.l 10))), none⟩] [])
     (.seq (.reg [⟨(some 33), .mv (.t 8), none⟩,
       ⟨(some 34), .mv (.t 0), none⟩,
       ⟨(some 35), .len false (.t 34), none⟩,
       ⟨(some 36), .bin .ge (.t 33) (.t 35), none⟩] [33, 34, 35])
     (.cond (.t 36)
      (.goto 0)
      .skip)))
     (.seq (.reg [⟨(some 37), .mv (.t 4), none⟩,
       ⟨(some 38), .mv (.t 0), none⟩,
       ⟨(some 39), .mv (.t 8), none⟩,
       ⟨(some 40), .iadS 1 (.t 38) (.t 39), none⟩,
       ⟨(some 41), .load false 1 (.t 40), none⟩,
       ⟨(some 42), .bin .and (.t 41) (.c (.i .u8 (.l 127))), none⟩,
       ⟨(some 43), .cv .i64 (.t 42), none⟩,
       ⟨(some 44), .mv (.t 8), none⟩,
       ⟨(some 45), .bin .sub (.t 44) (.c (.i .i64 (.l 1))), none⟩,
       ⟨(some 46), .bin .mul (.c (.i .i64 (.l 7))) (.t 45), none⟩,
       ⟨(some 47), .bin .shl (.t 43) (.t 46), none⟩,
       ⟨(some 48), .bin .add (.t 37) (.t 47), none⟩,
       ⟨(some 4), .mv (.t 48), none⟩] [37, 38, 39, 40, 41, 42, 43, 44, 45, 46, 47, 48])
     (.seq (.seq (.reg [⟨(some 6), .mv (.c (.i .i64 (.l 60))), none⟩] [])
     (.seq (.reg [⟨(some 49), .mv (.t 8), none⟩,
       ⟨(some 50), .bin .gt (.t 49) (.c (.i .i64 (.l 5))), none⟩,
       ⟨(some 51), .mv (.t 50), none⟩,
       ⟨(some 52), .mv (.t 4), (some (51, false))⟩,
       ⟨(some 53), .bin .shr (.t 52) (.c (.i .u64 (.l 31))), (some (51, false))⟩,
       ⟨(some 54), .bin .ne (.t 53) (.c (.i .i64 (.l 0))), (some (51, false))⟩,
       ⟨(some 55), .pick (.t 51) (.c .tt) (.t 54), none⟩] [49, 50, 51, 52, 53, 54])
     (.cond (.t 55)
      (.goto 0)
      .skip)))
     (.seq (.reg [⟨(some 56), .mv (.t 0), none⟩,
       ⟨(some 57), .mv (.t 8), none⟩,
       ⟨(some 58), .iadS 1 (.t 56) (.t 57), none⟩,
       ⟨(some 59), .load false 1 (.t 58), none⟩,
       ⟨(some 60), .bin .and (.t 59) (.c (.i .u8 (.l 128))), none⟩,
       ⟨(some 61), .bin .eq (.t 60) (.c (.i .u8 (.l 0))), none⟩] [56, 57, 58, 59, 60])
     (.cond (.t 61)
      (.seq (.reg [⟨(some 62), .mv (.t 4), none⟩,
        ⟨(some 63), .mv (.t 0), none⟩,
        ⟨(some 64), .mv (.t 8), none⟩,
        ⟨(some 65), .bin .add (.t 64) (.c (.i .i64 (.l 1))), none⟩,
        ⟨(some 66), .slc 1 (.t 63) (some (.t 65)) none none, none⟩,
        ⟨(some 67), .call (.c (.fn (.func 50) [] [])) [(.t 66)], none⟩,
        ⟨(some 4), .mv (.t 62), none⟩,
        ⟨(some 5), .mv (.t 67), none⟩,
        ⟨(some 6), .mv (.c (.i .i64 (.l 0))), none⟩] [0, 8, 62, 63, 64, 65, 66, 67])
      .ret)
      .skip))))))
    (.reg [⟨(some 31), .mv (.t 8), none⟩,
      ⟨(some 32), .bin .add (.t 31) (.c (.i .i64 (.l 1))), none⟩,
      ⟨(some 8), .mv (.t 32), none⟩] [31, 32])))))
  (.seq (.label 0)
  (.seq (.reg [⟨(some 68), .mv (.t 6), none⟩,
    ⟨(some 4), .mv (.c (.i .i64 (.l 0))), none⟩,
    ⟨(some 5), .mv (.c (.re (.slice none 0 0))), none⟩,
    ⟨(some 6), .mv (.t 68), none⟩] [68])
  .ret))))))))))
theorem fn_prefix_Take : FnIs Try.prog 48 69 [.t 4, .t 5, .t 6] prefix_Take :=
  ⟨Try.f48, _, kl_prefix_Take, Try.func48, rfl, rfl, by kernel_rfl, by kernel_rfl, Try.call48⟩

def kl_slices_Clone___byte_byte_ : Nat → List Nat := fun
  | 0 => [2]
  | 1 => [3]
  | 3 => [0, 5, 6, 7]
  | _ => []
def slices_Clone___byte_byte_ : IR :=
 (.seq (.reg [⟨(some 2), .mv (.c (.re (.slice none 0 0))), none⟩] [2])
 (.seq (.seq (.reg [⟨(some 3), .mv (.t 0), none⟩,
   ⟨(some 4), .nilS false (.t 3), none⟩] [3])
 (.cond (.t 4)
  (.seq (.reg [⟨(some 2), .mv (.c (.re (.slice none 0 0))), none⟩] [])
  .ret)
  .skip))
 (.seq (.reg [⟨(some 5), .buildS 1 0 [(.i .u8 (.l 0))] [], none⟩,
   ⟨(some 6), .mv (.t 0), none⟩,
   ⟨(some 7), .app 1 (.t 5) (.t 6), none⟩,
   ⟨(some 2), .mv (.t 7), none⟩] [0, 5, 6, 7])
 .ret)))
theorem fn_slices_Clone___byte_byte_ : FnIs Try.prog 49 8 [.t 2] slices_Clone___byte_byte_ :=
  ⟨Try.f49, _, kl_slices_Clone___byte_byte_, Try.func49, rfl, rfl, by kernel_rfl, by kernel_rfl, Try.call49⟩

def kl_bytes_Clone : Nat → List Nat := fun
  | 0 => [2]
  | 1 => [3]
  | 3 => [0, 5, 6, 7]
  | _ => []
def bytes_Clone : IR :=
 (.seq (.reg [⟨(some 2), .mv (.c (.re (.slice none 0 0))), none⟩] [2])
 (.seq (.seq (.reg [⟨(some 3), .mv (.t 0), none⟩,
   ⟨(some 4), .nilS false (.t 3), none⟩] [3])
 (.cond (.t 4)
  (.seq (.reg [⟨(some 2), .mv (.c (.re (.slice none 0 0))), none⟩] [])
  .ret)
  .skip))
 (.seq (.reg [⟨(some 5), .buildS 1 0 [(.i .u8 (.l 0))] [], none⟩,
   ⟨(some 6), .mv (.t 0), none⟩,
   ⟨(some 7), .app 1 (.t 5) (.t 6), none⟩,
   ⟨(some 2), .mv (.t 7), none⟩] [0, 5, 6, 7])
 .ret)))
theorem fn_bytes_Clone : FnIs Try.prog 50 8 [.t 2] bytes_Clone :=
  ⟨Try.f50, _, kl_bytes_Clone, Try.func50, rfl, rfl, by kernel_rfl, by kernel_rfl, Try.call50⟩

def kl_text_all : Nat → List Nat := fun
  | 1 => [0, 1, 6, 7]
  | 2 => [9]
  | 3 => [4, 5, 10, 11, 12]
  | 4 => [13]
  | _ => []
def text_all : IR :=
 (.seq (.reg [⟨(some 4), .alloc [(.re (.slice none 0 0))], none⟩] [])
 (.seq (.seq (.reg [⟨(some 6), .mv (.t 0), none⟩,
   ⟨(some 7), .mv (.t 1), none⟩,
   ⟨(some 8), .call (.c (.fn (.func 59) [] [])) [(.t 6), (.t 7)], none⟩] [0, 1, 6, 7])
 (.block 0 (.rf (.t 8) [9]
   (.reg [⟨(some 5), .mv (.t 9), none⟩] [9])
   (.block 1 (.reg [⟨(some 10), .load false 1 (.t 4), none⟩,
      ⟨(some 11), .mv (.t 5), none⟩,
      ⟨(some 12), .app 1 (.t 10) (.t 11), none⟩,
      ⟨none, .store 1 (.t 4) (.t 12), none⟩] [4, 5, 10, 11, 12])))))
 (.seq (.reg [⟨(some 13), .load false 1 (.t 4), none⟩,
   ⟨none, .store 1 (.t 4) (.t 13), none⟩] [13])
 .ret)))
theorem fn_text_all : FnIs Try.prog 51 14 [.c 4 false 1] text_all :=
  ⟨Try.f51, _, kl_text_all, Try.func51, rfl, rfl, by kernel_rfl, by kernel_rfl, Try.call51⟩

def kl_text_plain : Nat → List Nat := fun
  | 0 => [0]
  | _ => []
def text_plain : IR :=
 (.seq (.reg [⟨(some 0), .mv (.c (.re .nilFunc)), none⟩] [0])
 (.seq (.reg [⟨(some 0), .mv (.c (.fn (.func 60) [] [])), none⟩] [])
 .ret))
theorem fn_text_plain : FnIs Try.prog 52 1 [.t 0] text_plain :=
  ⟨Try.f52, _, kl_text_plain, Try.func52, rfl, rfl, by kernel_rfl, by kernel_rfl, Try.call52⟩

def kl_causeyref06_Put : Nat → List Nat := fun
  | 0 => [6, 7]
  | 1 => [11, 12, 13]
  | 3 => [1, 15, 16]
  | 4 => [2, 17, 18, 19, 20, 21, 22, 23, 24]
  | 5 => [25, 26]
  | 6 => [0, 9, 28, 29, 30, 31, 32]
  | 7 => [9, 33, 34, 35, 36, 37]
  | 8 => [8, 38, 39, 40]
  | 9 => [41]
  | 10 => [43, 44, 45, 46, 47, 48, 49]
  | 11 => [50, 51]
  | 12 => [0, 10, 52, 53, 54, 55, 56]
  | _ => []
def dead_causeyref06_Put_0 : List Nat := [1, 2, 3, 4, 5, 6, 7, 8, 9, 11, 12, 13, 14, 15, 16, 17, 18, 19, 20, 21, 22, 23, 24, 25, 26, 27, 28, 29, 30, 31, 32, 33, 34, 35, 36, 37, 38, 39, 40, 41, 42, 43, 44, 45, 46, 47, 48, 49, 50, 51, 52, 53, 54, 55, 56] -- live: [0, 10]
def causeyref06_Put : IR :=
 (.seq (.reg [⟨(some 6), .mv (.c (.re (.slice none 0 0))), none⟩,
   ⟨(some 7), .mv (.c (.i .i64 (.l 0))), none⟩] [6, 7])
 (.seq (.seq (.reg [⟨(some 11), .mv (.t 0), none⟩,
   ⟨(some 12), .mv (.t 1), none⟩,
   ⟨(some 13), .call (.c (.fn (.func 61) [] [])) [(.t 11), (.t 12)], none⟩,
   ⟨(some 14), .not (.t 13), none⟩] [11, 12, 13])
 (.cond (.t 14)
  (.seq (.reg [⟨(some 6), .mv (.c (.re (.slice none 0 0))), none⟩,
    ⟨(some 7), .mv (.c (.i .i64 (.l 2))), none⟩] [])
  .ret)
  .skip))
 (.seq (.reg [⟨(some 15), .mv (.t 1), none⟩,
   ⟨(some 16), .call (.c (.fn (.func 55) [] [])) [(.t 15)], none⟩,
   ⟨(some 8), .mv (.t 16), none⟩] [1, 15, 16])
 (.seq (.reg [⟨(some 17), .mv (.t 2), none⟩,
   ⟨(some 18), .cv .i64 (.t 17), none⟩,
   ⟨(some 19), .mv (.t 8), none⟩,
   ⟨(some 20), .bin .add (.t 19) (.c (.i .i64 (.l 1))), none⟩,
   ⟨(some 21), .bin .quo (.t 18) (.t 20), none⟩,
   ⟨(some 22), .mv (.t 8), none⟩,
   ⟨(some 23), .bin .add (.t 22) (.c (.i .i64 (.l 1))), none⟩,
   ⟨(some 24), .bin .mul (.t 21) (.t 23), none⟩,
   ⟨(some 9), .mv (.t 24), none⟩] [2, 17, 18, 19, 20, 21, 22, 23, 24])
 (.seq (.seq (.reg [⟨(some 25), .mv (.t 0), none⟩,
   ⟨(some 26), .mv (.t 8), none⟩,
   ⟨(some 27), .bin .lt (.t 25) (.t 26), none⟩] [25, 26])
 (.cond (.t 27)
  (.seq (.reg [⟨(some 28), .mv (.t 9), none⟩,
    ⟨(some 29), .mv (.t 0), none⟩,
    ⟨(some 30), .bin .add (.t 28) (.t 29), none⟩,
    ⟨(some 31), .cv .u8 (.t 30), none⟩,
    ⟨(some 32), .buildS 1 1 [(.i .u8 (.l 0))] [(0, (.t 31))], none⟩,
    ⟨(some 6), .mv (.t 32), none⟩,
    ⟨(some 7), .mv (.c (.i .i64 (.l 0))), none⟩] [0, 9, 28, 29, 30, 31, 32])
  .ret)
  .skip))
 (.seq (.reg [⟨(some 33), .mv (.t 9), none⟩,
   ⟨(some 34), .mv (.t 8), none⟩,
   ⟨(some 35), .bin .add (.t 33) (.t 34), none⟩,
   ⟨(some 36), .cv .u8 (.t 35), none⟩,
   ⟨(some 37), .buildS 1 1 [(.i .u8 (.l 0))] [(0, (.t 36))], none⟩,
   ⟨(some 10), .mv (.t 37), none⟩] [9, 33, 34, 35, 36, 37])
 (.seq (.reg [⟨(some 38), .mv (.t 0), none⟩,
   ⟨(some 39), .mv (.t 8), none⟩,
   ⟨(some 40), .bin .sub (.t 38) (.t 39), none⟩,
   ⟨(some 0), .mv (.t 40), none⟩] [8, 38, 39, 40])
 (.seq (.block 0 (.loop (.seq (.seq (.reg [⟨(some 41), .mv (.t 0), none⟩,
     ⟨(some 42), .bin .ge (.t 41) (.c (.i .i64 (.l 128))), none⟩] [41])
   (.cond (.t 42)
    .skip
    (.exit 0)))
   (.block 1 (.seq (.reg [⟨(some 43), .mv (.t 10), none⟩,
      ⟨(some 44), .mv (.t 0), none⟩,
      ⟨(some 45), .bin .rem (.t 44) (.c (.i .i64 (.l 128))), none⟩,
      ⟨(some 46), .bin .add (.t 45) (.c (.i .i64 (.l 128))), none⟩,
      ⟨(some 47), .cv .u8 (.t 46), none⟩,
      ⟨(some 48), .buildS 1 1 [(.i .u8 (.l 0))] [(0, (.t 47))], none⟩,
      ⟨(some 49), .app 1 (.t 43) (.t 48), none⟩,
      ⟨(some 10), .mv (.t 49), none⟩] [43, 44, 45, 46, 47, 48, 49])
    (.reg [⟨(some 50), .mv (.t 0), none⟩,
      ⟨(some 51), .bin .quo (.t 50) (.c (.i .i64 (.l 128))), none⟩,
      ⟨(some 0), .mv (.t 51), none⟩] [50, 51]))))))
 (.seq (.reg [⟨(some 52), .mv (.t 10), none⟩,
   ⟨(some 53), .mv (.t 0), none⟩,
   ⟨(some 54), .cv .u8 (.t 53), none⟩,
   ⟨(some 55), .buildS 1 1 [(.i .u8 (.l 0))] [(0, (.t 54))], none⟩,
   ⟨(some 56), .app 1 (.t 52) (.t 55), none⟩,
   ⟨(some 6), .mv (.t 56), none⟩,
   ⟨(some 7), .mv (.c (.i .i64 (.l 0))), none⟩] [0, 10, 52, 53, 54, 55, 56])
 .ret)))))))))
theorem fn_causeyref06_Put : FnIs Try.prog 53 57 [.t 6, .t 7] causeyref06_Put :=
  ⟨Try.f53, _, kl_causeyref06_Put, Try.func53, rfl, rfl, by kernel_rfl, by kernel_rfl, Try.call53⟩

def kl_text_packed : Nat → List Nat := fun
  | 0 => [0]
  | _ => []
def text_packed : IR :=
 (.seq (.reg [⟨(some 0), .mv (.c (.re .nilFunc)), none⟩] [0])
 (.seq (.reg [⟨(some 0), .mv (.c (.fn (.func 62) [] [])), none⟩] [])
 .ret))
theorem fn_text_packed : FnIs Try.prog 54 1 [.t 0] text_packed :=
  ⟨Try.f54, _, kl_text_packed, Try.func54, rfl, rfl, by kernel_rfl, by kernel_rfl, Try.call54⟩

def kl_causeyref06_most : Nat → List Nat := fun
  | 0 => [2]
  | 1 => [0, 3, 4, 5, 6]
  | _ => []
def causeyref06_most : IR :=
 (.seq (.reg [⟨(some 2), .mv (.c (.i .i64 (.l 0))), none⟩] [2])
 (.seq (.reg [⟨(some 3), .mv (.t 0), none⟩,
   ⟨(some 4), .cv .u64 (.t 3), none⟩,
   ⟨(some 5), .bin .shl (.c (.i .i64 (.l 1))) (.t 4), none⟩,
   ⟨(some 6), .bin .sub (.t 5) (.c (.i .i64 (.l 1))), none⟩,
   ⟨(some 2), .mv (.t 6), none⟩] [0, 3, 4, 5, 6])
 .ret))
theorem fn_causeyref06_most : FnIs Try.prog 55 7 [.t 2] causeyref06_most :=
  ⟨Try.f55, _, kl_causeyref06_most, Try.func55, rfl, rfl, by kernel_rfl, by kernel_rfl, Try.call55⟩

def kl_huff_bytes : Nat → List Nat := fun
  | 0 => [0]
  | _ => []
def huff_bytes : IR :=
 (.seq (.reg [⟨(some 0), .mv (.c (.re .nilFunc)), none⟩] [0])
 (.seq (.reg [⟨(some 0), .mv (.c (.fn (.func 63) [] [])), none⟩] [])
 .ret))
theorem fn_huff_bytes : FnIs Try.prog 56 1 [.t 0] huff_bytes :=
  ⟨Try.f56, _, kl_huff_bytes, Try.func56, rfl, rfl, by kernel_rfl, by kernel_rfl, Try.call56⟩

def kl_octet_first : Nat → List Nat := fun
  | 1 => [10]
  | 3 => [2, 12]
  | 4 => [0, 1, 13, 14]
  | 5 => [16]
  | 6 => [9, 17, 18, 19, 20, 21]
  | 7 => [22, 23]
  | 8 => [8, 24]
  | 9 => [26]
  | _ => []
def octet_first : IR :=
 (.seq (.reg [⟨(some 6), .alloc [(.i .i64 (.l 0))], none⟩,
   ⟨(some 7), .alloc [.ff], none⟩] [])
 (.seq (.seq (.reg [⟨(some 10), .mv (.t 1), none⟩,
   ⟨(some 11), .bin .lt (.t 10) (.c (.i .i64 (.l 0))), none⟩] [10])
 (.cond (.t 11)
  (.seq (.reg [⟨none, .store 1 (.t 6) (.c (.i .i64 (.l 0))), none⟩,
    ⟨none, .store 1 (.t 7) (.c .ff), none⟩] [])
  .ret)
  .skip))
 (.seq (.reg [⟨(some 12), .mv (.t 2), none⟩,
   ⟨(some 8), .alloc [(.i .i64 (.l 0))], none⟩,
   ⟨none, .store 1 (.t 8) (.t 12), none⟩] [2, 12])
 (.seq (.seq (.reg [⟨(some 13), .mv (.t 0), none⟩,
   ⟨(some 14), .mv (.t 1), none⟩,
   ⟨(some 15), .call (.c (.fn (.func 65) [] [])) [(.t 13), (.t 14)], none⟩] [0, 1, 13, 14])
 (.block 0 (.rf (.t 15) [16]
   (.reg [⟨(some 9), .mv (.t 16), none⟩] [16])
   (.block 1 (.seq (.reg [⟨(some 17), .load false 1 (.t 6), none⟩,
      ⟨(some 18), .bin .shl (.t 17) (.c (.i .u64 (.l 1))), none⟩,
      ⟨(some 19), .mv (.t 9), none⟩,
      ⟨(some 20), .cv .i64 (.t 19), none⟩,
      ⟨(some 21), .bin .or (.t 18) (.t 20), none⟩,
      ⟨none, .store 1 (.t 6) (.t 21), none⟩] [9, 17, 18, 19, 20, 21])
    (.seq (.reg [⟨(some 22), .load false 1 (.t 8), none⟩,
      ⟨(some 23), .bin .sub (.t 22) (.c (.i .i64 (.l 1))), none⟩,
      ⟨none, .store 1 (.t 8) (.t 23), none⟩] [22, 23])
    (.seq (.reg [⟨(some 24), .load false 1 (.t 8), none⟩,
      ⟨(some 25), .bin .eq (.t 24) (.c (.i .i64 (.l 0))), none⟩] [8, 24])
    (.cond (.t 25)
     (.seq (.reg [⟨(some 26), .load false 1 (.t 6), none⟩,
       ⟨none, .store 1 (.t 6) (.t 26), none⟩,
       ⟨none, .store 1 (.t 7) (.c .tt), none⟩] [26])
     .ret)
     .skip))))))))
 (.seq (.reg [⟨none, .store 1 (.t 6) (.c (.i .i64 (.l 0))), none⟩,
   ⟨none, .store 1 (.t 7) (.c .ff), none⟩] [])
 .ret)))))
theorem fn_octet_first : FnIs Try.prog 57 27 [.c 6 false 1, .c 7 false 1] octet_first :=
  ⟨Try.f57, _, kl_octet_first, Try.func57, rfl, rfl, by kernel_rfl, by kernel_rfl, Try.call57⟩

def kl_prefix_right : Nat → List Nat := fun
  | 0 => [2]
  | 1 => [0, 3, 4, 5, 6, 7, 8]
  | _ => []
def prefix_right : IR :=
 (.seq (.reg [⟨(some 2), .mv (.c .ff), none⟩] [2])
 (.seq (.reg [⟨(some 3), .mv (.t 0), none⟩,
   ⟨(some 4), .bin .gt (.t 3) (.c (.i .i64 (.l 0))), none⟩,
   ⟨(some 5), .mv (.t 4), none⟩,
   ⟨(some 6), .mv (.t 0), (some (5, true))⟩,
   ⟨(some 7), .bin .le (.t 6) (.c (.i .i64 (.l 8))), (some (5, true))⟩,
   ⟨(some 8), .pick (.t 5) (.t 7) (.c .ff), none⟩,
   ⟨(some 2), .mv (.t 8), none⟩] [0, 3, 4, 5, 6, 7, 8])
 .ret))
theorem fn_prefix_right : FnIs Try.prog 58 9 [.t 2] prefix_right :=
  ⟨Try.f58, _, kl_prefix_right, Try.func58, rfl, rfl, by kernel_rfl, by kernel_rfl, Try.call58⟩

def kl_text_told : Nat → List Nat := fun
  | 0 => [0, 1, 4]
  | 1 => [2, 3, 5]
  | _ => []
def text_told : IR :=
 (.seq (.reg [⟨(some 2), .box (.t 0), none⟩,
   ⟨(some 3), .box (.t 1), none⟩,
   ⟨(some 4), .mv (.c (.re .nilFunc)), none⟩] [0, 1, 4])
 (.seq (.reg [⟨(some 5), .mkF (.func 66) [] [(.t 3), (.t 2)], none⟩,
   ⟨(some 4), .mv (.t 5), none⟩] [2, 3, 5])
 .ret))
theorem fn_text_told : FnIs Try.prog 59 6 [.t 4] text_told :=
  ⟨Try.f59, _, kl_text_told, Try.func59, rfl, rfl, by kernel_rfl, by kernel_rfl, Try.call59⟩

def kl_text_plain_1 : Nat → List Nat := fun
  | 0 => [2, 3]
  | 1 => [0, 4, 5]
  | _ => []
def text_plain_1 : IR :=
 (.seq (.reg [⟨(some 2), .mv (.c (.i .u8 (.l 0))), none⟩,
   ⟨(some 3), .mv (.c (.re (.slice none 0 0))), none⟩] [2, 3])
 (.seq (.reg [⟨(some 4), .mv (.t 0), none⟩,
   ⟨(some 5), .cvSB (.t 4), none⟩,
   ⟨(some 2), .mv (.c (.i .u8 (.l 0))), none⟩,
   ⟨(some 3), .mv (.t 5), none⟩] [0, 4, 5])
 .ret))
theorem fn_text_plain_1 : FnIs Try.prog 60 6 [.t 2, .t 3] text_plain_1 :=
  ⟨Try.f60, _, kl_text_plain_1, Try.func60, rfl, rfl, by kernel_rfl, by kernel_rfl, Try.call60⟩

def kl_causeyref06_may : Nat → List Nat := fun
  | 0 => [4]
  | 1 => [0, 1, 5, 6, 7, 8, 9, 10, 11, 12, 13, 14, 15, 16, 17, 18]
  | _ => []
def causeyref06_may : IR :=
 (.seq (.reg [⟨(some 4), .mv (.c .ff), none⟩] [4])
 (.seq (.reg [⟨(some 5), .mv (.t 1), none⟩,
   ⟨(some 6), .bin .ge (.t 5) (.c (.i .i64 (.l 1))), none⟩,
   ⟨(some 7), .mv (.t 6), none⟩,
   ⟨(some 8), .mv (.t 1), (some (7, true))⟩,
   ⟨(some 9), .bin .le (.t 8) (.c (.i .i64 (.l 8))), (some (7, true))⟩,
   ⟨(some 10), .pick (.t 7) (.t 9) (.c .ff), none⟩,
   ⟨(some 11), .mv (.t 10), none⟩,
   ⟨(some 12), .mv (.t 0), (some (11, true))⟩,
   ⟨(some 13), .bin .ge (.t 12) (.c (.i .i64 (.l 0))), (some (11, true))⟩,
   ⟨(some 14), .pick (.t 11) (.t 13) (.c .ff), none⟩,
   ⟨(some 15), .mv (.t 14), none⟩,
   ⟨(some 16), .mv (.t 0), (some (15, true))⟩,
   ⟨(some 17), .bin .lt (.t 16) (.c (.i .i64 (.l 2147483648))), (some (15, true))⟩,
   ⟨(some 18), .pick (.t 15) (.t 17) (.c .ff), none⟩,
   ⟨(some 4), .mv (.t 18), none⟩] [0, 1, 5, 6, 7, 8, 9, 10, 11, 12, 13, 14, 15, 16, 17, 18])
 .ret))
theorem fn_causeyref06_may : FnIs Try.prog 61 19 [.t 4] causeyref06_may :=
  ⟨Try.f61, _, kl_causeyref06_may, Try.func61, rfl, rfl, by kernel_rfl, by kernel_rfl, Try.call61⟩

def kl_text_packed_1 : Nat → List Nat := fun
  | 0 => [2, 3]
  | 1 => [0, 4, 5, 6]
  | _ => []
def text_packed_1 : IR :=
 (.seq (.reg [⟨(some 2), .mv (.c (.i .u8 (.l 0))), none⟩,
   ⟨(some 3), .mv (.c (.re (.slice none 0 0))), none⟩] [2, 3])
 (.seq (.reg [⟨(some 4), .mv (.t 0), none⟩,
   ⟨(some 5), .cvSB (.t 4), none⟩,
   ⟨(some 6), .call (.c (.fn (.func 22) [] [])) [(.t 5)], none⟩,
   ⟨(some 2), .mv (.c (.i .u8 (.l 128))), none⟩,
   ⟨(some 3), .mv (.t 6), none⟩] [0, 4, 5, 6])
 .ret))
theorem fn_text_packed_1 : FnIs Try.prog 62 7 [.t 2, .t 3] text_packed_1 :=
  ⟨Try.f62, _, kl_text_packed_1, Try.func62, rfl, rfl, by kernel_rfl, by kernel_rfl, Try.call62⟩

def kl_huff_bytes_1 : Nat → List Nat := fun
  | 0 => [8, 9]
  | 3 => [12]
  | 7 => [16, 17]
  | 8 => [6, 18, 19, 20, 21]
  | 9 => [5, 23, 24]
  | 10 => [25]
  | 11 => [26, 27, 28]
  | 12 => [29, 30, 31, 32]
  | 13 => [3, 4, 7, 33, 34, 35, 36, 37, 38, 39]
  | 14 => [41]
  | _ => []
def dead_huff_bytes_1_0 : List Nat := [1, 3, 4, 5, 6, 7, 8, 9, 11, 12, 13, 14, 15, 16, 17, 18, 19, 20, 21, 22, 23, 24, 25, 26, 27, 28, 29, 30, 31, 32, 33, 34, 35, 36, 37, 38, 39, 40, 41] -- live: [0, 2, 10]
def dead_huff_bytes_1_1 : List Nat := [1, 5, 6, 7, 8, 9, 11, 12, 15, 16, 17, 18, 19, 20, 21, 22, 23, 24, 25, 26, 27, 28, 29, 30, 31, 32, 33, 34, 35, 36, 37, 38, 39, 40, 41] -- live: [0, 2, 3, 4, 10, 13, 14]
def huff_bytes_1 : IR :=
 (.seq (.reg [⟨(some 8), .mkM, none⟩,
   ⟨none, .mupd ⟨false, [.ki]⟩ (.t 8) (.c (.i .i64 (.l 5))) (.c (.i .i64 (.l 0))), none⟩,
   ⟨none, .mupd ⟨false, [.ki]⟩ (.t 8) (.c (.i .i64 (.l 6))) (.c (.i .i64 (.l 32))), none⟩,
   ⟨none, .mupd ⟨false, [.ki]⟩ (.t 8) (.c (.i .i64 (.l 7))) (.c (.i .i64 (.l 96))), none⟩,
   ⟨none, .mupd ⟨false, [.ki]⟩ (.t 8) (.c (.i .i64 (.l 11))) (.c (.i .i64 (.l 1792))), none⟩,
   ⟨(some 9), .mv (.t 8), none⟩,
   ⟨(some 2), .mv (.t 9), none⟩] [8, 9])
 (.seq (.reg [⟨(some 10), .mv (.c (.i .i64 (.l 0))), none⟩] [])
 (.block 0 (.loop (.seq (.reg [⟨(some 11), .bin .lt (.t 10) (.c (.i .i64 (.l 256))), none⟩] [])
   (.seq (.cond (.t 11)
    .skip
    (.exit 0))
   (.seq (.block 1 (.seq (.reg [⟨(some 12), .mv (.t 10), none⟩,
      ⟨(some 3), .mv (.t 12), none⟩] [12])
    (.seq (.reg [⟨(some 4), .mv (.c (.i .i64 (.l 11))), none⟩] [])
    (.seq (.seq (.reg [⟨(some 13), .build [(.s []), (.s []), (.s [])] [(0, 1, (.c (.s [45, 47, 48, 49, 50, 51, 97, 99, 101, 105, 110, 111, 114, 115, 116, 117]))), (1, 1, (.c (.s [46, 52, 53, 54, 55, 56, 57, 58, 98, 100, 102, 103, 104, 108, 109, 112]))), (2, 1, (.c (.s [65, 66, 67, 68, 69, 70, 71, 72, 106, 107, 113, 118, 119, 120, 121, 122])))], none⟩,
      ⟨(some 14), .mv (.c (.i .i64 (.l 0))), none⟩] [])
    (.block 2 (.loop (.seq (.reg [⟨(some 15), .bin .lt (.t 14) (.c (.i .i64 (.l 3))), none⟩] [])
      (.seq (.cond (.t 15)
       .skip
       (.exit 2))
      (.seq (.block 3 (.seq (.reg [⟨(some 16), .mv (.t 14), none⟩,
         ⟨(some 17), .ixA false 3 1 (.t 13) (.t 14), none⟩,
         ⟨(some 5), .mv (.t 16), none⟩,
         ⟨(some 6), .mv (.t 17), none⟩] [16, 17])
       (.seq (.reg [⟨(some 18), .mv (.t 6), none⟩,
         ⟨(some 19), .mv (.t 3), none⟩,
         ⟨(some 20), .cv .u8 (.t 19), none⟩,
         ⟨(some 21), .call (.c (.fn (.func 64) [] [])) [(.t 18), (.t 20)], none⟩,
         ⟨(some 22), .bin .ge (.t 21) (.c (.i .i64 (.l 0))), none⟩] [6, 18, 19, 20, 21])
       (.cond (.t 22)
        (.reg [⟨(some 23), .mv (.t 5), none⟩,
          ⟨(some 24), .bin .add (.c (.i .i64 (.l 5))) (.t 23), none⟩,
          ⟨(some 4), .mv (.t 24), none⟩] [5, 23, 24])
        .skip))))
      (.reg [⟨(some 25), .bin .add (.t 14) (.c (.i .i64 (.l 1))), none⟩,
        ⟨(some 14), .mv (.t 25), none⟩] [25])))))))
    (.seq (.reg [⟨(some 26), .mv (.t 2), none⟩,
      ⟨(some 27), .mv (.t 4), none⟩,
      ⟨(some 28), .look ⟨false, [.ki]⟩ (.i .i64 (.l 0)) false (.t 26) (.t 27), none⟩,
      ⟨(some 7), .mv (.t 28), none⟩] [26, 27, 28])
    (.seq (.reg [⟨(some 29), .mv (.t 2), none⟩,
      ⟨(some 30), .mv (.t 4), none⟩,
      ⟨(some 31), .look ⟨false, [.ki]⟩ (.i .i64 (.l 0)) false (.t 29) (.t 30), none⟩,
      ⟨(some 32), .bin .add (.t 31) (.c (.i .i64 (.l 1))), none⟩,
      ⟨none, .mupd ⟨false, [.ki]⟩ (.t 29) (.t 30) (.t 32), none⟩] [29, 30, 31, 32])
    (.seq (.reg [⟨(some 33), .mv (.t 0), none⟩,
      ⟨(some 34), .mv (.t 3), none⟩,
      ⟨(some 35), .cv .u8 (.t 34), none⟩,
      ⟨(some 36), .mv (.t 7), none⟩,
      ⟨(some 37), .mv (.t 4), none⟩,
      ⟨(some 38), .build [(.i .i64 (.l 0)), (.i .i64 (.l 0))] [(0, 1, (.t 36)), (1, 1, (.t 37))], none⟩,
      ⟨(some 39), .call (.t 33) [(.t 35), (.t 38)], none⟩,
      ⟨(some 40), .not (.t 39), none⟩] [3, 4, 7, 33, 34, 35, 36, 37, 38, 39])
    (.cond (.t 40)
     .ret
     .skip))))))))
   (.reg [⟨(some 41), .bin .add (.t 10) (.c (.i .i64 (.l 1))), none⟩,
     ⟨(some 10), .mv (.t 41), none⟩] [41]))))))))
theorem fn_huff_bytes_1 : FnIs Try.prog 63 42 [] huff_bytes_1 :=
  ⟨Try.f63, _, kl_huff_bytes_1, Try.func63, rfl, rfl, by kernel_rfl, by kernel_rfl, Try.call63⟩

def kl_strings_IndexByte : Nat → List Nat := fun
  | 0 => [4]
  | 1 => [0, 1, 5, 6, 7]
  | _ => []
def strings_IndexByte : IR :=
 (.seq (.reg [⟨(some 4), .mv (.c (.i .i64 (.l 0))), none⟩] [4])
 (.seq (.reg [⟨(some 5), .mv (.t 0), none⟩,
   ⟨(some 6), .mv (.t 1), none⟩,
   ⟨(some 7), .call (.c (.fn (.func 68) [] [])) [(.t 5), (.t 6)], none⟩,
   ⟨(some 4), .mv (.t 7), none⟩] [0, 1, 5, 6, 7])
 .ret))
theorem fn_strings_IndexByte : FnIs Try.prog 64 8 [.t 4] strings_IndexByte :=
  ⟨Try.f64, _, kl_strings_IndexByte, Try.func64, rfl, rfl, by kernel_rfl, by kernel_rfl, Try.call64⟩

def kl_octet_bits : Nat → List Nat := fun
  | 0 => [0, 1, 4]
  | 1 => [2, 3, 5]
  | _ => []
def octet_bits : IR :=
 (.seq (.reg [⟨(some 2), .box (.t 0), none⟩,
   ⟨(some 3), .box (.t 1), none⟩,
   ⟨(some 4), .mv (.c (.re .nilFunc)), none⟩] [0, 1, 4])
 (.seq (.reg [⟨(some 5), .mkF (.func 69) [] [(.t 3), (.t 2)], none⟩,
   ⟨(some 4), .mv (.t 5), none⟩] [2, 3, 5])
 .ret))
theorem fn_octet_bits : FnIs Try.prog 65 6 [.t 4] octet_bits :=
  ⟨Try.f65, _, kl_octet_bits, Try.func65, rfl, rfl, by kernel_rfl, by kernel_rfl, Try.call65⟩

def kl_text_told_1 : Nat → List Nat := fun
  | 0 => [1, 2, 8, 9, 10, 11, 12, 13]
  | 1 => [4, 14, 15, 16, 17, 18, 19, 20]
  | 2 => [6, 7, 21, 22, 23, 24, 25, 26]
  | 3 => [0, 5, 28, 29, 30]
  | _ => []
def text_told_1 : IR :=
 (.seq (.reg [⟨(some 9), .load false 1 (.t 1), none⟩,
   ⟨(some 10), .load false 1 (.t 2), none⟩,
   ⟨(some 11), .call (.t 9) [(.t 10)], none⟩,
   ⟨(some 8), .mv (.t 11), none⟩,
   ⟨(some 12), .ext (.t 8) 0, none⟩,
   ⟨(some 13), .ext (.t 8) 1, none⟩,
   ⟨(some 4), .mv (.t 12), none⟩,
   ⟨(some 5), .mv (.t 13), none⟩] [1, 2, 8, 9, 10, 11, 12, 13])
 (.seq (.reg [⟨(some 15), .mv (.t 5), none⟩,
   ⟨(some 16), .len false (.t 15), none⟩,
   ⟨(some 17), .mv (.t 4), none⟩,
   ⟨(some 18), .call (.c (.fn (.func 67) [] [])) [(.t 16), (.c (.i .i64 (.l 7))), (.t 17)], none⟩,
   ⟨(some 14), .mv (.t 18), none⟩,
   ⟨(some 19), .ext (.t 14) 0, none⟩,
   ⟨(some 20), .ext (.t 14) 1, none⟩,
   ⟨(some 6), .mv (.t 19), none⟩,
   ⟨(some 7), .mv (.t 20), none⟩] [4, 14, 15, 16, 17, 18, 19, 20])
 (.seq (.reg [⟨(some 21), .mv (.t 7), none⟩,
   ⟨(some 22), .bin .eq (.t 21) (.c (.i .i64 (.l 0))), none⟩,
   ⟨(some 23), .mv (.t 22), none⟩,
   ⟨(some 24), .mv (.t 0), (some (23, true))⟩,
   ⟨(some 25), .mv (.t 6), (some (23, true))⟩,
   ⟨(some 26), .call (.t 24) [(.t 25)], (some (23, true))⟩,
   ⟨(some 27), .pick (.t 23) (.t 26) (.c .ff), none⟩] [6, 7, 21, 22, 23, 24, 25, 26])
 (.cond (.t 27)
  (.reg [⟨(some 28), .mv (.t 0), none⟩,
    ⟨(some 29), .mv (.t 5), none⟩,
    ⟨(some 30), .call (.t 28) [(.t 29)], none⟩] [0, 5, 28, 29, 30])
  .skip))))
theorem fn_text_told_1 : FnIs Try.prog 66 31 [] text_told_1 :=
  ⟨Try.f66, _, kl_text_told_1, Try.func66, rfl, rfl, by kernel_rfl, by kernel_rfl, Try.call66⟩

def kl_prefix_Put : Nat → List Nat := fun
  | 1 => [11, 12, 13, 14, 15, 16, 17, 18, 19, 20, 21]
  | 3 => [1, 23, 24, 25]
  | 4 => [2, 26, 27, 28, 29]
  | 5 => [30, 31]
  | 6 => [0, 9, 33, 34, 35, 36, 37]
  | 7 => [9, 38, 39, 40, 41, 42, 43, 44]
  | 8 => [0, 8, 45, 46, 47, 48]
  | 9 => [50]
  | 10 => [6, 10, 51, 52, 53, 54]
  | 11 => [55]
  | _ => []
def prefix_Put : IR :=
 (.seq (.reg [⟨(some 6), .alloc [(.re (.slice none 0 0))], none⟩,
   ⟨(some 7), .mv (.c (.i .i64 (.l 0))), none⟩] [])
 (.seq (.seq (.reg [⟨(some 11), .mv (.t 1), none⟩,
   ⟨(some 12), .call (.c (.fn (.func 58) [] [])) [(.t 11)], none⟩,
   ⟨(some 13), .not (.t 12), none⟩,
   ⟨(some 14), .mv (.t 13), none⟩,
   ⟨(some 15), .mv (.t 0), (some (14, false))⟩,
   ⟨(some 16), .bin .lt (.t 15) (.c (.i .i64 (.l 0))), (some (14, false))⟩,
   ⟨(some 17), .pick (.t 14) (.c .tt) (.t 16), none⟩,
   ⟨(some 18), .mv (.t 17), none⟩,
   ⟨(some 19), .mv (.t 0), (some (18, false))⟩,
   ⟨(some 20), .bin .shr (.t 19) (.c (.i .u64 (.l 31))), (some (18, false))⟩,
   ⟨(some 21), .bin .ne (.t 20) (.c (.i .i64 (.l 0))), (some (18, false))⟩,
   ⟨(some 22), .pick (.t 18) (.c .tt) (.t 21), none⟩] [11, 12, 13, 14, 15, 16, 17, 18, 19, 20, 21])
 (.cond (.t 22)
  (.seq (.reg [⟨none, .store 1 (.t 6) (.c (.re (.slice none 0 0))), none⟩,
    ⟨(some 7), .mv (.c (.i .i64 (.l 2))), none⟩] [])
  .ret)
  .skip))
 (.seq (.reg [⟨(some 23), .mv (.t 1), none⟩,
   ⟨(some 24), .bin .shl (.c (.i .i64 (.l 1))) (.t 23), none⟩,
   ⟨(some 25), .bin .sub (.t 24) (.c (.i .i64 (.l 1))), none⟩,
   ⟨(some 8), .mv (.t 25), none⟩] [1, 23, 24, 25])
 (.seq (.reg [⟨(some 26), .mv (.t 2), none⟩,
   ⟨(some 27), .mv (.t 8), none⟩,
   ⟨(some 28), .cv .u8 (.t 27), none⟩,
   ⟨(some 29), .bin .andn (.t 26) (.t 28), none⟩,
   ⟨(some 9), .mv (.t 29), none⟩] [2, 26, 27, 28, 29])
 (.seq (.seq (.reg [⟨(some 30), .mv (.t 0), none⟩,
   ⟨(some 31), .mv (.t 8), none⟩,
   ⟨(some 32), .bin .lt (.t 30) (.t 31), none⟩] [30, 31])
 (.cond (.t 32)
  (.seq (.reg [⟨(some 33), .mv (.t 9), none⟩,
    ⟨(some 34), .mv (.t 0), none⟩,
    ⟨(some 35), .cv .u8 (.t 34), none⟩,
    ⟨(some 36), .bin .or (.t 33) (.t 35), none⟩,
    ⟨(some 37), .buildS 1 1 [(.i .u8 (.l 0))] [(0, (.t 36))], none⟩,
    ⟨none, .store 1 (.t 6) (.t 37), none⟩,
    ⟨(some 7), .mv (.c (.i .i64 (.l 0))), none⟩] [0, 9, 33, 34, 35, 36, 37])
  .ret)
  .skip))
 (.seq (.reg [⟨(some 38), .load false 1 (.t 6), none⟩,
   ⟨(some 39), .mv (.t 9), none⟩,
   ⟨(some 40), .mv (.t 8), none⟩,
   ⟨(some 41), .cv .u8 (.t 40), none⟩,
   ⟨(some 42), .bin .or (.t 39) (.t 41), none⟩,
   ⟨(some 43), .buildS 1 1 [(.i .u8 (.l 0))] [(0, (.t 42))], none⟩,
   ⟨(some 44), .app 1 (.t 38) (.t 43), none⟩,
   ⟨none, .store 1 (.t 6) (.t 44), none⟩] [9, 38, 39, 40, 41, 42, 43, 44])
 (.seq (.seq (.reg [⟨(some 45), .mv (.t 0), none⟩,
   ⟨(some 46), .mv (.t 8), none⟩,
   ⟨(some 47), .bin .sub (.t 45) (.t 46), none⟩,
   ⟨(some 48), .cv .u32 (.t 47), none⟩,
   ⟨(some 49), .call (.c (.fn (.func 70) [] [])) [(.t 48)], none⟩] [0, 8, 45, 46, 47, 48])
 (.block 0 (.rf (.t 49) [50]
   (.reg [⟨(some 10), .mv (.t 50), none⟩] [50])
   (.block 1 (.reg [⟨(some 51), .load false 1 (.t 6), none⟩,
      ⟨(some 52), .mv (.t 10), none⟩,
      ⟨(some 53), .buildS 1 1 [(.i .u8 (.l 0))] [(0, (.t 52))], none⟩,
      ⟨(some 54), .app 1 (.t 51) (.t 53), none⟩,
      ⟨none, .store 1 (.t 6) (.t 54), none⟩] [6, 10, 51, 52, 53, 54])))))
 (.seq (.reg [⟨(some 55), .load false 1 (.t 6), none⟩,
   ⟨none, .store 1 (.t 6) (.t 55), none⟩,
   ⟨(some 7), .mv (.c (.i .i64 (.l 0))), none⟩] [55])
 .ret))))))))
theorem fn_prefix_Put : FnIs Try.prog 67 56 [.c 6 false 1, .t 7] prefix_Put :=
  ⟨Try.f67, _, kl_prefix_Put, Try.func67, rfl, rfl, by kernel_rfl, by kernel_rfl, Try.call67⟩

def kl_stringslite_IndexByte : Nat → List Nat := fun
  | 0 => [4]
  | 1 => [0, 1, 5, 6, 7]
  | _ => []
def stringslite_IndexByte : IR :=
 (.seq (.reg [⟨(some 4), .mv (.c (.i .i64 (.l 0))), none⟩] [4])
 (.seq (.reg [⟨(some 5), .mv (.t 0), none⟩,
   ⟨(some 6), .mv (.t 1), none⟩,
   ⟨(some 7), .call (.c (.fn (.func 71) [] [])) [(.t 5), (.t 6)], none⟩,
   ⟨(some 4), .mv (.t 7), none⟩] [0, 1, 5, 6, 7])
 .ret))
theorem fn_stringslite_IndexByte : FnIs Try.prog 68 8 [.t 4] stringslite_IndexByte :=
  ⟨Try.f68, _, kl_stringslite_IndexByte, Try.func68, rfl, rfl, by kernel_rfl, by kernel_rfl, Try.call68⟩

def kl_octet_bits_1 : Nat → List Nat := fun
  | 0 => [4, 5, 6, 7]
  | 1 => [9, 10]
  | 2 => [11, 12, 13, 14, 15, 16, 17, 18, 19, 20, 21, 22]
  | _ => []
def dead_octet_bits_1_0 : List Nat := [3, 4, 5, 6, 7, 8, 9, 10, 11, 12, 13, 14, 15, 16, 17, 18, 19, 20, 21, 22, 23] -- live: [0, 1, 2]
def ord_octet_bits_1_0 : List (Nat × List Nat) := [(0, []), (1, []), (2, []), (3, []), (4, []), (5, []), (6, []), (7, []), (8, []), (9, []), (10, []), (11, []), (12, [])]
def octet_bits_1 : IR :=
 (.block 0 (.loop (.seq (.seq (.reg [⟨(some 4), .load false 1 (.t 1), none⟩,
     ⟨(some 5), .bin .shr (.t 4) (.c (.i .u64 (.l 3))), none⟩,
     ⟨(some 6), .load false 1 (.t 2), none⟩,
     ⟨(some 7), .len false (.t 6), none⟩,
     ⟨(some 8), .bin .lt (.t 5) (.t 7), none⟩] [4, 5, 6, 7])
   (.cond (.t 8)
    .skip
    (.exit 0)))
   (.seq (.block 1 (.seq (.draw [⟨(some 11), .mv (.t 0), none⟩,
      ⟨(some 12), .load false 1 (.t 2), none⟩,
      ⟨(some 13), .load false 1 (.t 1), none⟩,
      ⟨(some 14), .bin .shr (.t 13) (.c (.i .u64 (.l 3))), none⟩,
      ⟨(some 15), .iadS 1 (.t 12) (.t 14), none⟩,
      ⟨(some 16), .load false 1 (.t 15), none⟩,
      ⟨(some 17), .load false 1 (.t 1), none⟩,
      ⟨(some 18), .bin .and (.t 17) (.c (.i .i64 (.l 7))), none⟩,
      ⟨(some 19), .bin .sub (.c (.i .i64 (.l 7))) (.t 18), none⟩,
      ⟨(some 20), .bin .shr (.t 16) (.t 19), none⟩,
      ⟨(some 21), .bin .and (.t 20) (.c (.i .u8 (.l 1))), none⟩,
      ⟨(some 22), .call (.t 11) [(.t 21)], none⟩,
      ⟨(some 23), .not (.t 22), none⟩] [[], [], [], [2], [1, 3], [4], [], [6], [7], [5, 8], [9], [0, 10], [11]] [11, 12, 13, 14, 15, 16, 17, 18, 19, 20, 21, 22])
    (.cond (.t 23)
     .ret
     .skip)))
   (.reg [⟨(some 9), .load false 1 (.t 1), none⟩,
     ⟨(some 10), .bin .add (.t 9) (.c (.i .i64 (.l 1))), none⟩,
     ⟨none, .store 1 (.t 1) (.t 10), none⟩] [9, 10])))))
theorem fn_octet_bits_1 : FnIs Try.prog 69 24 [] octet_bits_1 :=
  ⟨Try.f69, _, kl_octet_bits_1, Try.func69, rfl, rfl, by kernel_rfl, by kernel_rfl, Try.call69⟩

def kl_prefix_septets : Nat → List Nat := fun
  | 0 => [0, 2]
  | 1 => [1, 3]
  | _ => []
def prefix_septets : IR :=
 (.seq (.reg [⟨(some 1), .box (.t 0), none⟩,
   ⟨(some 2), .mv (.c (.re .nilFunc)), none⟩] [0, 2])
 (.seq (.reg [⟨(some 3), .mkF (.func 72) [] [(.t 1)], none⟩,
   ⟨(some 2), .mv (.t 3), none⟩] [1, 3])
 .ret))
theorem fn_prefix_septets : FnIs Try.prog 70 4 [.t 2] prefix_septets :=
  ⟨Try.f70, _, kl_prefix_septets, Try.func70, rfl, rfl, by kernel_rfl, by kernel_rfl, Try.call70⟩

def kl_prefix_septets_1 : Nat → List Nat := fun
  | 0 => [3, 4]
  | 1 => [6, 7, 8, 9, 10]
  | 2 => [12, 13]
  | 3 => [0, 1, 14, 15, 16, 17]
  | _ => []
def dead_prefix_septets_1_0 : List Nat := [2, 3, 4, 5, 6, 7, 8, 9, 10, 11, 12, 13, 14, 15, 16, 17] -- live: [0, 1]
def prefix_septets_1 : IR :=
 (.seq (.block 0 (.loop (.seq (.seq (.reg [⟨(some 3), .load false 1 (.t 1), none⟩,
     ⟨(some 4), .bin .shr (.t 3) (.c (.i .u64 (.l 7))), none⟩,
     ⟨(some 5), .bin .ne (.t 4) (.c (.i .u32 (.l 0))), none⟩] [3, 4])
   (.cond (.t 5)
    .skip
    (.exit 0)))
   (.block 1 (.seq (.seq (.reg [⟨(some 6), .mv (.t 0), none⟩,
      ⟨(some 7), .load false 1 (.t 1), none⟩,
      ⟨(some 8), .cv .u8 (.t 7), none⟩,
      ⟨(some 9), .bin .or (.t 8) (.c (.i .u8 (.l 128))), none⟩,
      ⟨(some 10), .call (.t 6) [(.t 9)], none⟩,
      ⟨(some 11), .not (.t 10), none⟩] [6, 7, 8, 9, 10])
    (.cond (.t 11)
     .ret
     .skip))
    (.reg [⟨(some 12), .load false 1 (.t 1), none⟩,
      ⟨(some 13), .bin .shr (.t 12) (.c (.i .u64 (.l 7))), none⟩,
      ⟨none, .store 1 (.t 1) (.t 13), none⟩] [12, 13]))))))
 (.reg [⟨(some 14), .mv (.t 0), none⟩,
   ⟨(some 15), .load false 1 (.t 1), none⟩,
   ⟨(some 16), .cv .u8 (.t 15), none⟩,
   ⟨(some 17), .call (.t 14) [(.t 16)], none⟩] [0, 1, 14, 15, 16, 17]))
theorem fn_prefix_septets_1 : FnIs Try.prog 72 18 [] prefix_septets_1 :=
  ⟨Try.f72, _, kl_prefix_septets_1, Try.func72, rfl, rfl, by kernel_rfl, by kernel_rfl, Try.call72⟩
end I
end Cz
