/- Printed by a small program of ours (wip/tools/print_ir): the simplified codes of the functions. -/
import Derived.Test.YtpidadlehhcngaaProg
import Derived.Test.YtpidadlehhcngaaCzY2
namespace Cz
open Go Go.RowKit Go.Proofs
namespace I
set_option maxRecDepth 100000

def kl_gosem_cut_init : Nat → List Nat := fun
  | 0 => [0]
  | _ => []
def gosem_cut_init : IR :=
 (.reg [⟨(some 0), .call (.c (.fn (.func 1) [] [])) [], none⟩] [0])
theorem fn_gosem_cut_init : FnIs Try.prog 2 1 [] gosem_cut_init :=
  ⟨Try.f2, _, kl_gosem_cut_init, Try.func2, rfl, rfl, by kernel_rfl, by kernel_rfl, Try.call2⟩

def kl_causeylaw21_SettingTells : Nat → List Nat := fun
  | 0 => [0, 1, 2, 8]
  | 1 => [23, 24]
  | 2 => [26]
  | 3 => [27, 28, 29, 30, 31, 32, 33]
  | 4 => [3, 34, 35, 36, 37, 38, 39, 40]
  | 5 => [11, 14, 41, 42, 43, 44, 45, 46, 47, 48, 49, 50, 51, 52]
  | 7 => [54, 55, 56, 57, 58, 59]
  | 8 => [60, 61, 62, 63, 64, 65]
  | 9 => [9, 10, 11, 12, 13, 14, 66, 67, 68, 69, 70, 71, 72, 73, 74, 75, 76, 77]
  | 11 => [79, 80, 81, 82, 83]
  | 12 => [84, 85, 86, 87, 88]
  | 13 => [89, 90, 91, 92, 93]
  | 14 => [94, 95, 96, 97, 98]
  | 15 => [4, 5, 6, 15, 16, 17, 18, 19, 20, 21, 22, 99, 100, 101, 102, 103, 104, 105, 106, 107, 108, 109, 110, 111, 112, 113, 114, 115, 116, 117, 118, 119, 120, 121, 122, 123, 124, 125, 126, 127, 128, 129, 130, 131, 132, 133, 134, 135, 136, 137, 138, 139, 140, 141, 142, 143, 144, 145, 146, 147]
  | _ => []
def ord_causeylaw21_SettingTells_0 : List (Nat × List Nat) := [(0, []), (1, []), (2, []), (3, []), (4, []), (5, []), (6, []), (7, []), (8, []), (9, []), (10, []), (11, []), (12, []), (13, []), (14, []), (15, []), (16, []), (17, []), (18, []), (19, []), (21, []), (20, [21]), (22, []), (23, []), (24, []), (25, []), (26, []), (28, []), (27, [28]), (29, []), (30, []), (31, []), (32, []), (33, []), (34, []), (35, []), (36, []), (37, []), (38, []), (39, []), (41, []), (42, []), (40, [41, 42]), (43, []), (44, []), (45, []), (46, []), (47, []), (48, []), (49, [])]
def causeylaw21_SettingTells : IR :=
 (.seq (.reg [⟨(some 4), .box (.t 0), none⟩,
   ⟨(some 5), .box (.t 1), none⟩,
   ⟨(some 6), .box (.t 2), none⟩,
   ⟨(some 8), .mv (.c .ff), none⟩] [0, 1, 2, 8])
 (.seq (.seq (.reg [⟨(some 23), .mv (.t 3), none⟩,
   ⟨(some 24), .len false (.t 23), none⟩,
   ⟨(some 25), .bin .gt (.t 24) (.c (.i .i64 (.l 60))), none⟩] [23, 24])
 (.cond (.t 25)
  (.seq (.reg [⟨(some 26), .call (.c (.fn (.func 7) [] [])) [], none⟩,
    ⟨(some 8), .mv (.t 26), none⟩] [26])
  .ret)
  .skip))
 (.seq (.reg [⟨(some 28), .load true 9 (.t 5), none⟩,
   ⟨(some 29), .mv (.t 3), none⟩,
   ⟨(some 30), .call (.c (.fn (.func 8) [] [])) [(.t 28), (.t 29)], none⟩,
   ⟨(some 27), .mv (.t 30), none⟩,
   ⟨(some 31), .ext (.t 27) 0, none⟩,
   ⟨(some 32), .ext (.t 27) 1, none⟩,
   ⟨(some 33), .ext (.t 27) 2, none⟩,
   ⟨(some 9), .alloc [.ff, (.i .i64 (.l 0)), (.i .i64 (.l 0)), (.i .i64 (.l 0)), (.i .i64 (.l 0)), .ff, .ff, (.i .i64 (.l 0)), (.i .i64 (.l 0))], none⟩,
   ⟨(some 10), .alloc [.ff, (.i .i64 (.l 0)), (.i .u32 (.l 0))], none⟩,
   ⟨none, .store 9 (.t 9) (.t 31), none⟩,
   ⟨none, .store 3 (.t 10) (.t 32), none⟩,
   ⟨(some 11), .mv (.t 33), none⟩] [27, 28, 29, 30, 31, 32, 33])
 (.seq (.reg [⟨(some 35), .load true 9 (.t 5), none⟩,
   ⟨(some 36), .mv (.t 3), none⟩,
   ⟨(some 37), .call (.c (.fn (.func 9) [] [])) [(.t 35), (.t 36)], none⟩,
   ⟨(some 34), .mv (.t 37), none⟩,
   ⟨(some 38), .ext (.t 34) 0, none⟩,
   ⟨(some 39), .ext (.t 34) 1, none⟩,
   ⟨(some 40), .ext (.t 34) 2, none⟩,
   ⟨(some 12), .alloc [.ff, (.i .i64 (.l 0)), (.i .i64 (.l 0)), (.i .i64 (.l 0)), (.i .i64 (.l 0)), .ff, .ff, (.i .i64 (.l 0)), (.i .i64 (.l 0))], none⟩,
   ⟨(some 13), .alloc [.ff, (.i .i64 (.l 0)), (.i .u32 (.l 0))], none⟩,
   ⟨none, .store 9 (.t 12) (.t 38), none⟩,
   ⟨none, .store 3 (.t 13) (.t 39), none⟩,
   ⟨(some 14), .mv (.t 40), none⟩] [3, 34, 35, 36, 37, 38, 39, 40])
 (.seq (.seq (.reg [⟨(some 41), .load true 9 (.t 9), none⟩,
   ⟨(some 42), .load true 9 (.t 12), none⟩,
   ⟨(some 43), .eqA ⟨true, [.kb, .ki, .ki, .ki, .ki, .kb, .kb, .ki, .ki]⟩ true (.t 41) (.t 42), none⟩,
   ⟨(some 44), .mv (.t 43), none⟩,
   ⟨(some 45), .load true 3 (.t 10), (some (44, false))⟩,
   ⟨(some 46), .load true 3 (.t 13), (some (44, false))⟩,
   ⟨(some 47), .eqA ⟨true, [.kb, .ki, .ki]⟩ true (.t 45) (.t 46), (some (44, false))⟩,
   ⟨(some 48), .pick (.t 44) (.c .tt) (.t 47), none⟩,
   ⟨(some 49), .mv (.t 48), none⟩,
   ⟨(some 50), .mv (.t 11), (some (49, false))⟩,
   ⟨(some 51), .mv (.t 14), (some (49, false))⟩,
   ⟨(some 52), .bin .ne (.t 50) (.t 51), (some (49, false))⟩,
   ⟨(some 53), .pick (.t 49) (.c .tt) (.t 52), none⟩] [11, 14, 41, 42, 43, 44, 45, 46, 47, 48, 49, 50, 51, 52])
 (.cond (.t 53)
  (.seq (.reg [⟨(some 8), .mv (.c .ff), none⟩] [])
  .ret)
  .skip))
 (.seq (.reg [⟨(some 55), .load true 9 (.t 5), none⟩,
   ⟨(some 56), .call (.c (.fn (.func 10) [] [])) [(.t 55)], none⟩,
   ⟨(some 54), .mv (.t 56), none⟩,
   ⟨(some 57), .ext (.t 54) 0, none⟩,
   ⟨(some 58), .ext (.t 54) 1, none⟩,
   ⟨(some 59), .ext (.t 54) 2, none⟩,
   ⟨none, .store 9 (.t 9) (.t 57), none⟩,
   ⟨none, .store 3 (.t 10) (.t 58), none⟩,
   ⟨(some 11), .mv (.t 59), none⟩] [54, 55, 56, 57, 58, 59])
 (.seq (.reg [⟨(some 61), .load true 9 (.t 5), none⟩,
   ⟨(some 62), .call (.c (.fn (.func 11) [] [])) [(.t 61)], none⟩,
   ⟨(some 60), .mv (.t 62), none⟩,
   ⟨(some 63), .ext (.t 60) 0, none⟩,
   ⟨(some 64), .ext (.t 60) 1, none⟩,
   ⟨(some 65), .ext (.t 60) 2, none⟩,
   ⟨none, .store 9 (.t 12) (.t 63), none⟩,
   ⟨none, .store 3 (.t 13) (.t 64), none⟩,
   ⟨(some 14), .mv (.t 65), none⟩] [60, 61, 62, 63, 64, 65])
 (.seq (.seq (.reg [⟨(some 66), .load true 9 (.t 9), none⟩,
   ⟨(some 67), .load true 9 (.t 12), none⟩,
   ⟨(some 68), .eqA ⟨true, [.kb, .ki, .ki, .ki, .ki, .kb, .kb, .ki, .ki]⟩ true (.t 66) (.t 67), none⟩,
   ⟨(some 69), .mv (.t 68), none⟩,
   ⟨(some 70), .load true 3 (.t 10), (some (69, false))⟩,
   ⟨(some 71), .load true 3 (.t 13), (some (69, false))⟩,
   ⟨(some 72), .eqA ⟨true, [.kb, .ki, .ki]⟩ true (.t 70) (.t 71), (some (69, false))⟩,
   ⟨(some 73), .pick (.t 69) (.c .tt) (.t 72), none⟩,
   ⟨(some 74), .mv (.t 73), none⟩,
   ⟨(some 75), .mv (.t 11), (some (74, false))⟩,
   ⟨(some 76), .mv (.t 14), (some (74, false))⟩,
   ⟨(some 77), .bin .ne (.t 75) (.t 76), (some (74, false))⟩,
   ⟨(some 78), .pick (.t 74) (.c .tt) (.t 77), none⟩] [9, 10, 11, 12, 13, 14, 66, 67, 68, 69, 70, 71, 72, 73, 74, 75, 76, 77])
 (.cond (.t 78)
  (.seq (.reg [⟨(some 8), .mv (.c .ff), none⟩] [])
  .ret)
  .skip))
 (.seq (.reg [⟨(some 80), .load true 9 (.t 5), none⟩,
   ⟨(some 81), .call (.c (.fn (.func 12) [] [])) [(.t 80)], none⟩,
   ⟨(some 79), .mv (.t 81), none⟩,
   ⟨(some 82), .ext (.t 79) 0, none⟩,
   ⟨(some 83), .ext (.t 79) 1, none⟩,
   ⟨(some 15), .alloc [.ff, (.i .i64 (.l 0)), (.i .i64 (.l 0)), (.i .i64 (.l 0)), (.i .i64 (.l 0)), .ff, .ff, (.i .i64 (.l 0)), (.i .i64 (.l 0))], none⟩,
   ⟨none, .store 9 (.t 15) (.t 82), none⟩,
   ⟨(some 16), .mv (.t 83), none⟩] [79, 80, 81, 82, 83])
 (.seq (.reg [⟨(some 85), .load true 9 (.t 5), none⟩,
   ⟨(some 86), .call (.c (.fn (.func 13) [] [])) [(.t 85)], none⟩,
   ⟨(some 84), .mv (.t 86), none⟩,
   ⟨(some 87), .ext (.t 84) 0, none⟩,
   ⟨(some 88), .ext (.t 84) 1, none⟩,
   ⟨(some 17), .alloc [.ff, (.i .i64 (.l 0)), (.i .i64 (.l 0)), (.i .i64 (.l 0)), (.i .i64 (.l 0)), .ff, .ff, (.i .i64 (.l 0)), (.i .i64 (.l 0))], none⟩,
   ⟨none, .store 9 (.t 17) (.t 87), none⟩,
   ⟨(some 18), .mv (.t 88), none⟩] [84, 85, 86, 87, 88])
 (.seq (.reg [⟨(some 90), .load true 3 (.t 4), none⟩,
   ⟨(some 91), .call (.c (.fn (.func 14) [] [])) [(.t 90)], none⟩,
   ⟨(some 89), .mv (.t 91), none⟩,
   ⟨(some 92), .ext (.t 89) 0, none⟩,
   ⟨(some 93), .ext (.t 89) 1, none⟩,
   ⟨(some 19), .mv (.t 92), none⟩,
   ⟨(some 20), .mv (.t 93), none⟩] [89, 90, 91, 92, 93])
 (.seq (.reg [⟨(some 95), .load true 3 (.t 4), none⟩,
   ⟨(some 96), .call (.c (.fn (.func 15) [] [])) [(.t 95)], none⟩,
   ⟨(some 94), .mv (.t 96), none⟩,
   ⟨(some 97), .ext (.t 94) 0, none⟩,
   ⟨(some 98), .ext (.t 94) 1, none⟩,
   ⟨(some 21), .mv (.t 97), none⟩,
   ⟨(some 22), .mv (.t 98), none⟩] [94, 95, 96, 97, 98])
 (.seq (.draw [⟨(some 99), .load true 9 (.t 15), none⟩,
   ⟨(some 100), .load true 9 (.t 17), none⟩,
   ⟨(some 101), .eqA ⟨true, [.kb, .ki, .ki, .ki, .ki, .kb, .kb, .ki, .ki]⟩ false (.t 99) (.t 100), none⟩,
   ⟨(some 102), .mv (.t 101), none⟩,
   ⟨(some 103), .mv (.t 16), (some (102, true))⟩,
   ⟨(some 104), .mv (.t 18), (some (102, true))⟩,
   ⟨(some 105), .eqA ⟨false, [.kb]⟩ false (.t 103) (.t 104), (some (102, true))⟩,
   ⟨(some 106), .pick (.t 102) (.t 105) (.c .ff), none⟩,
   ⟨(some 107), .mv (.t 106), none⟩,
   ⟨(some 108), .mv (.t 19), (some (107, true))⟩,
   ⟨(some 109), .mv (.t 21), (some (107, true))⟩,
   ⟨(some 110), .call (.c (.fn (.func 16) [] [])) [(.t 108), (.t 109)], (some (107, true))⟩,
   ⟨(some 111), .pick (.t 107) (.t 110) (.c .ff), none⟩,
   ⟨(some 112), .mv (.t 111), none⟩,
   ⟨(some 113), .mv (.t 20), (some (112, true))⟩,
   ⟨(some 114), .mv (.t 22), (some (112, true))⟩,
   ⟨(some 115), .bin .eq (.t 113) (.t 114), (some (112, true))⟩,
   ⟨(some 116), .pick (.t 112) (.t 115) (.c .ff), none⟩,
   ⟨(some 117), .mv (.t 116), none⟩,
   ⟨(some 118), .load true 3 (.t 4), (some (117, true))⟩,
   ⟨(some 119), .call (.c (.fn (.func 17) [] [])) [(.t 118)], (some (117, true))⟩,
   ⟨(some 120), .load true 3 (.t 4), (some (117, true))⟩,
   ⟨(some 121), .call (.c (.fn (.func 18) [] [])) [(.t 120)], (some (117, true))⟩,
   ⟨(some 122), .eqA ⟨false, [.kb]⟩ false (.t 119) (.t 121), (some (117, true))⟩,
   ⟨(some 123), .pick (.t 117) (.t 122) (.c .ff), none⟩,
   ⟨(some 124), .mv (.t 123), none⟩,
   ⟨(some 125), .load true 9 (.t 5), (some (124, true))⟩,
   ⟨(some 126), .call (.c (.fn (.func 19) [] [])) [(.t 125)], (some (124, true))⟩,
   ⟨(some 127), .load true 9 (.t 5), (some (124, true))⟩,
   ⟨(some 128), .call (.c (.fn (.func 20) [] [])) [(.t 127)], (some (124, true))⟩,
   ⟨(some 129), .eqA ⟨false, [.kb]⟩ false (.t 126) (.t 128), (some (124, true))⟩,
   ⟨(some 130), .pick (.t 124) (.t 129) (.c .ff), none⟩,
   ⟨(some 131), .mv (.t 130), none⟩,
   ⟨(some 132), .call (.c (.fn (.func 21) [] [])) [], (some (131, true))⟩,
   ⟨(some 133), .call (.c (.fn (.func 22) [] [])) [], (some (131, true))⟩,
   ⟨(some 134), .eqA ⟨true, [.kb, .ki, .ki, .ki, .ki, .kb, .kb, .ki, .ki]⟩ false (.t 132) (.t 133), (some (131, true))⟩,
   ⟨(some 135), .pick (.t 131) (.t 134) (.c .ff), none⟩,
   ⟨(some 136), .mv (.t 135), none⟩,
   ⟨(some 137), .load true 9 (.t 5), (some (136, true))⟩,
   ⟨(some 138), .load true 9 (.t 6), (some (136, true))⟩,
   ⟨(some 139), .call (.c (.fn (.func 23) [] [])) [(.t 137), (.t 138)], (some (136, true))⟩,
   ⟨(some 140), .load true 9 (.t 5), (some (136, true))⟩,
   ⟨(some 141), .load true 9 (.t 6), (some (136, true))⟩,
   ⟨(some 142), .call (.c (.fn (.func 24) [] [])) [(.t 140), (.t 141)], (some (136, true))⟩,
   ⟨(some 143), .bin .eq (.t 139) (.t 142), (some (136, true))⟩,
   ⟨(some 144), .pick (.t 136) (.t 143) (.c .ff), none⟩,
   ⟨(some 145), .mv (.t 144), none⟩,
   ⟨(some 146), .call (.c (.fn (.func 7) [] [])) [], (some (145, true))⟩,
   ⟨(some 147), .pick (.t 145) (.t 146) (.c .ff), none⟩,
   ⟨(some 8), .mv (.t 147), none⟩] [[], [], [0, 1], [2], [3], [3], [4, 5, 3], [3, 6], [7, 3], [8], [8], [9, 10, 8, 8], [8, 11], [12, 11], [13], [13], [14, 15, 13], [13, 16], [17, 13], [18], [19, 18, 18], [18], [21, 20, 18], [20, 22, 18], [18, 23], [24, 22], [25], [26, 25, 25], [25], [28, 27, 25], [27, 29, 25], [25, 30], [31, 29], [32, 32], [33, 32], [33, 34, 32], [32, 35], [36, 34], [37], [37], [38, 39, 37, 37], [37], [37], [41, 42, 40, 37], [40, 43, 37], [37, 44], [45, 43], [46, 46], [46, 47], [48, 47, 0, 1, 2, 3, 4, 5, 6, 7, 8, 9, 10, 11, 12, 13, 14, 15, 16, 17, 18, 19, 20, 21, 22, 23, 24, 25, 26, 27, 28, 29, 30, 31, 32, 33, 34, 35, 36, 37, 38, 39, 40, 41, 42, 43, 44, 45, 46, 47, 48]] [4, 5, 6, 15, 16, 17, 18, 19, 20, 21, 22, 99, 100, 101, 102, 103, 104, 105, 106, 107, 108, 109, 110, 111, 112, 113, 114, 115, 116, 117, 118, 119, 120, 121, 122, 123, 124, 125, 126, 127, 128, 129, 130, 131, 132, 133, 134, 135, 136, 137, 138, 139, 140, 141, 142, 143, 144, 145, 146, 147])
 .ret)))))))))))))
theorem fn_causeylaw21_SettingTells : FnIs Try.prog 3 148 [.t 8] causeylaw21_SettingTells :=
  ⟨Try.f3, _, kl_causeylaw21_SettingTells, Try.func3, rfl, rfl, by kernel_rfl, by kernel_rfl, Try.call3⟩

def kl_causeylaw21_SettingLast : Nat → List Nat := fun
  | 0 => [0, 4]
  | 1 => [11, 12, 13, 14, 15, 16, 17]
  | 2 => [19]
  | 3 => [20, 21, 22, 23, 24, 25, 26]
  | 4 => [27, 28, 29, 30, 31, 32]
  | 5 => [2, 5, 6, 7, 34, 35, 36, 37, 38, 39, 40, 41, 42, 43, 44, 45, 46, 47, 48]
  | 6 => [49]
  | 7 => [50, 51, 52, 53, 54]
  | 8 => [10]
  | 9 => [9, 56, 57, 58]
  | 10 => [59, 60, 61, 62, 63]
  | 11 => [10]
  | 12 => [9, 65, 66, 67]
  | 13 => [68, 69, 70, 71, 72]
  | 14 => [10]
  | 15 => [9, 74, 75, 76]
  | 16 => [77, 78, 79, 80, 81]
  | 17 => [10]
  | 18 => [9, 83, 84, 85]
  | 19 => [1, 86, 87, 88, 89, 90]
  | 20 => [10, 91, 92, 93, 94, 95]
  | 21 => [9, 97, 98, 99, 100]
  | 22 => [2, 101, 102, 103, 104, 105]
  | 23 => [5, 8, 106, 107, 108, 109, 110, 111, 112, 113, 114, 115]
  | _ => []
def ord_causeylaw21_SettingLast_0 : List (Nat × List Nat) := [(0, []), (1, []), (2, []), (3, []), (4, [1]), (5, []), (6, [])]
def causeylaw21_SettingLast : IR :=
 (.seq (.reg [⟨(some 2), .box (.t 0), none⟩,
   ⟨(some 4), .mv (.c .ff), none⟩] [0, 4])
 (.seq (.seq (.reg [⟨(some 11), .mv (.t 1), none⟩,
   ⟨(some 12), .len false (.t 11), none⟩,
   ⟨(some 13), .bin .gt (.t 12) (.c (.i .i64 (.l 60))), none⟩,
   ⟨(some 14), .mv (.t 13), none⟩,
   ⟨(some 15), .load true 9 (.t 2), (some (14, false))⟩,
   ⟨(some 16), .call (.c (.fn (.func 20) [] [])) [(.t 15)], (some (14, false))⟩,
   ⟨(some 17), .not (.t 16), (some (14, false))⟩,
   ⟨(some 18), .pick (.t 14) (.c .tt) (.t 17), none⟩] [11, 12, 13, 14, 15, 16, 17])
 (.cond (.t 18)
  (.seq (.reg [⟨(some 19), .call (.c (.fn (.func 7) [] [])) [], none⟩,
    ⟨(some 4), .mv (.t 19), none⟩] [19])
  .ret)
  .skip))
 (.seq (.reg [⟨(some 21), .load true 9 (.t 2), none⟩,
   ⟨(some 22), .mv (.t 1), none⟩,
   ⟨(some 23), .call (.c (.fn (.func 8) [] [])) [(.t 21), (.t 22)], none⟩,
   ⟨(some 20), .mv (.t 23), none⟩,
   ⟨(some 24), .ext (.t 20) 0, none⟩,
   ⟨(some 25), .ext (.t 20) 1, none⟩,
   ⟨(some 26), .ext (.t 20) 2, none⟩,
   ⟨(some 5), .alloc [.ff, (.i .i64 (.l 0)), (.i .i64 (.l 0)), (.i .i64 (.l 0)), (.i .i64 (.l 0)), .ff, .ff, (.i .i64 (.l 0)), (.i .i64 (.l 0))], none⟩,
   ⟨(some 6), .alloc [.ff, (.i .i64 (.l 0)), (.i .u32 (.l 0))], none⟩,
   ⟨none, .store 9 (.t 5) (.t 24), none⟩,
   ⟨none, .store 3 (.t 6) (.t 25), none⟩,
   ⟨(some 7), .mv (.t 26), none⟩] [20, 21, 22, 23, 24, 25, 26])
 (.seq (.seq (.reg [⟨(some 27), .mv (.t 7), none⟩,
   ⟨(some 28), .bin .ne (.t 27) (.c (.i .i64 (.l 0))), none⟩,
   ⟨(some 29), .mv (.t 28), none⟩,
   ⟨(some 30), .load true 3 (.t 6), (some (29, false))⟩,
   ⟨(some 31), .build [.ff, (.i .i64 (.l 0)), (.i .u32 (.l 0))] [], (some (29, false))⟩,
   ⟨(some 32), .eqA ⟨true, [.kb, .ki, .ki]⟩ true (.t 30) (.t 31), (some (29, false))⟩,
   ⟨(some 33), .pick (.t 29) (.c .tt) (.t 32), none⟩] [27, 28, 29, 30, 31, 32])
 (.cond (.t 33)
  (.seq (.reg [⟨(some 34), .load true 9 (.t 5), none⟩,
    ⟨(some 35), .load true 9 (.t 2), none⟩,
    ⟨(some 36), .eqA ⟨true, [.kb, .ki, .ki, .ki, .ki, .kb, .kb, .ki, .ki]⟩ false (.t 34) (.t 35), none⟩,
    ⟨(some 37), .mv (.t 36), none⟩,
    ⟨(some 38), .mv (.t 7), (some (37, true))⟩,
    ⟨(some 39), .bin .eq (.t 38) (.c (.i .i64 (.l 0))), (some (37, true))⟩,
    ⟨(some 40), .mv (.t 39), (some (37, true))⟩,
    ⟨(some 41), .load true 3 (.t 6), (some (40, false))⟩,
    ⟨(some 42), .build [.ff, (.i .i64 (.l 0)), (.i .u32 (.l 0))] [], (some (40, false))⟩,
    ⟨(some 43), .eqA ⟨true, [.kb, .ki, .ki]⟩ false (.t 41) (.t 42), (some (40, false))⟩,
    ⟨(some 44), .pick (.t 40) (.c .tt) (.t 43), (some (37, true))⟩,
    ⟨(some 45), .pick (.t 37) (.t 44) (.c .ff), none⟩,
    ⟨(some 46), .mv (.t 45), none⟩,
    ⟨(some 47), .call (.c (.fn (.func 7) [] [])) [], (some (46, true))⟩,
    ⟨(some 48), .pick (.t 46) (.t 47) (.c .ff), none⟩,
    ⟨(some 4), .mv (.t 48), none⟩] [2, 5, 6, 7, 34, 35, 36, 37, 38, 39, 40, 41, 42, 43, 44, 45, 46, 47, 48])
  .ret)
  .skip))
 (.seq (.reg [⟨(some 49), .load true 9 (.t 2), none⟩,
   ⟨(some 8), .alloc [.ff, (.i .i64 (.l 0)), (.i .i64 (.l 0)), (.i .i64 (.l 0)), (.i .i64 (.l 0)), .ff, .ff, (.i .i64 (.l 0)), (.i .i64 (.l 0))], none⟩,
   ⟨none, .store 9 (.t 8) (.t 49), none⟩] [49])
 (.seq (.reg [⟨(some 51), .mv (.t 1), none⟩,
   ⟨(some 52), .call (.c (.fn (.func 25) [] [])) [(.t 51), (.c (.i .u16 (.l 1)))], none⟩,
   ⟨(some 50), .mv (.t 52), none⟩,
   ⟨(some 53), .ext (.t 50) 0, none⟩,
   ⟨(some 54), .ext (.t 50) 1, none⟩,
   ⟨(some 9), .mv (.t 53), none⟩,
   ⟨(some 10), .mv (.t 54), none⟩] [50, 51, 52, 53, 54])
 (.seq (.seq (.reg [⟨(some 55), .mv (.t 10), none⟩] [10])
 (.cond (.t 55)
  (.reg [⟨(some 56), .mv (.t 9), none⟩,
    ⟨(some 57), .cv .i64 (.t 56), none⟩,
    ⟨(some 58), .fad 1 (.t 8), none⟩,
    ⟨none, .store 1 (.t 58) (.t 57), none⟩] [9, 56, 57, 58])
  .skip))
 (.seq (.reg [⟨(some 60), .mv (.t 1), none⟩,
   ⟨(some 61), .call (.c (.fn (.func 25) [] [])) [(.t 60), (.c (.i .u16 (.l 4)))], none⟩,
   ⟨(some 59), .mv (.t 61), none⟩,
   ⟨(some 62), .ext (.t 59) 0, none⟩,
   ⟨(some 63), .ext (.t 59) 1, none⟩,
   ⟨(some 9), .mv (.t 62), none⟩,
   ⟨(some 10), .mv (.t 63), none⟩] [59, 60, 61, 62, 63])
 (.seq (.seq (.reg [⟨(some 64), .mv (.t 10), none⟩] [10])
 (.cond (.t 64)
  (.reg [⟨(some 65), .mv (.t 9), none⟩,
    ⟨(some 66), .cv .i64 (.t 65), none⟩,
    ⟨(some 67), .fad 2 (.t 8), none⟩,
    ⟨none, .store 1 (.t 67) (.t 66), none⟩] [9, 65, 66, 67])
  .skip))
 (.seq (.reg [⟨(some 69), .mv (.t 1), none⟩,
   ⟨(some 70), .call (.c (.fn (.func 25) [] [])) [(.t 69), (.c (.i .u16 (.l 5)))], none⟩,
   ⟨(some 68), .mv (.t 70), none⟩,
   ⟨(some 71), .ext (.t 68) 0, none⟩,
   ⟨(some 72), .ext (.t 68) 1, none⟩,
   ⟨(some 9), .mv (.t 71), none⟩,
   ⟨(some 10), .mv (.t 72), none⟩] [68, 69, 70, 71, 72])
 (.seq (.seq (.reg [⟨(some 73), .mv (.t 10), none⟩] [10])
 (.cond (.t 73)
  (.reg [⟨(some 74), .mv (.t 9), none⟩,
    ⟨(some 75), .cv .i64 (.t 74), none⟩,
    ⟨(some 76), .fad 3 (.t 8), none⟩,
    ⟨none, .store 1 (.t 76) (.t 75), none⟩] [9, 74, 75, 76])
  .skip))
 (.seq (.reg [⟨(some 78), .mv (.t 1), none⟩,
   ⟨(some 79), .call (.c (.fn (.func 25) [] [])) [(.t 78), (.c (.i .u16 (.l 6)))], none⟩,
   ⟨(some 77), .mv (.t 79), none⟩,
   ⟨(some 80), .ext (.t 77) 0, none⟩,
   ⟨(some 81), .ext (.t 77) 1, none⟩,
   ⟨(some 9), .mv (.t 80), none⟩,
   ⟨(some 10), .mv (.t 81), none⟩] [77, 78, 79, 80, 81])
 (.seq (.seq (.reg [⟨(some 82), .mv (.t 10), none⟩] [10])
 (.cond (.t 82)
  (.reg [⟨(some 83), .mv (.t 9), none⟩,
    ⟨(some 84), .cv .i64 (.t 83), none⟩,
    ⟨(some 85), .fad 4 (.t 8), none⟩,
    ⟨none, .store 1 (.t 85) (.t 84), none⟩] [9, 83, 84, 85])
  .skip))
 (.seq (.reg [⟨(some 87), .mv (.t 1), none⟩,
   ⟨(some 88), .call (.c (.fn (.func 25) [] [])) [(.t 87), (.c (.i .u16 (.l 9)))], none⟩,
   ⟨(some 86), .mv (.t 88), none⟩,
   ⟨(some 89), .ext (.t 86) 0, none⟩,
   ⟨(some 90), .ext (.t 86) 1, none⟩,
   ⟨(some 9), .mv (.t 89), none⟩,
   ⟨(some 10), .mv (.t 90), none⟩] [1, 86, 87, 88, 89, 90])
 (.seq (.seq (.reg [⟨(some 91), .mv (.t 10), none⟩,
   ⟨(some 92), .mv (.t 91), none⟩,
   ⟨(some 93), .fad 0 (.t 2), (some (92, true))⟩,
   ⟨(some 94), .load false 1 (.t 93), (some (92, true))⟩,
   ⟨(some 95), .not (.t 94), (some (92, true))⟩,
   ⟨(some 96), .pick (.t 92) (.t 95) (.c .ff), none⟩] [10, 91, 92, 93, 94, 95])
 (.cond (.t 96)
  (.reg [⟨(some 97), .mv (.t 9), none⟩,
    ⟨(some 98), .bin .ne (.t 97) (.c (.i .u32 (.l 0))), none⟩,
    ⟨(some 99), .fad 5 (.t 8), none⟩,
    ⟨none, .store 1 (.t 99) (.c .tt), none⟩,
    ⟨(some 100), .fad 6 (.t 8), none⟩,
    ⟨none, .store 1 (.t 100) (.t 98), none⟩] [9, 97, 98, 99, 100])
  .skip))
 (.seq (.draw [⟨(some 101), .fad 7 (.t 2), none⟩,
   ⟨(some 102), .load false 1 (.t 101), none⟩,
   ⟨(some 103), .bin .add (.t 102) (.c (.i .i64 (.l 1))), none⟩,
   ⟨(some 104), .fad 0 (.t 8), none⟩,
   ⟨none, .store 1 (.t 104) (.c .tt), none⟩,
   ⟨(some 105), .fad 7 (.t 8), none⟩,
   ⟨none, .store 1 (.t 105) (.t 103), none⟩] [[], [0], [1], [], [3], [0, 1, 2, 3, 4], [5, 2, 4, 0, 1, 2, 3, 4]] [2, 101, 102, 103, 104, 105])
 (.seq (.reg [⟨(some 106), .load true 9 (.t 5), none⟩,
   ⟨(some 107), .load true 9 (.t 8), none⟩,
   ⟨(some 108), .eqA ⟨true, [.kb, .ki, .ki, .ki, .ki, .kb, .kb, .ki, .ki]⟩ false (.t 106) (.t 107), none⟩,
   ⟨(some 109), .mv (.t 108), none⟩,
   ⟨(some 110), .load true 9 (.t 5), (some (109, true))⟩,
   ⟨(some 111), .call (.c (.fn (.func 19) [] [])) [(.t 110)], (some (109, true))⟩,
   ⟨(some 112), .pick (.t 109) (.t 111) (.c .ff), none⟩,
   ⟨(some 113), .mv (.t 112), none⟩,
   ⟨(some 114), .call (.c (.fn (.func 7) [] [])) [], (some (113, true))⟩,
   ⟨(some 115), .pick (.t 113) (.t 114) (.c .ff), none⟩,
   ⟨(some 4), .mv (.t 115), none⟩] [5, 8, 106, 107, 108, 109, 110, 111, 112, 113, 114, 115])
 .ret)))))))))))))))))
theorem fn_causeylaw21_SettingLast : FnIs Try.prog 4 116 [.t 4] causeylaw21_SettingLast :=
  ⟨Try.f4, _, kl_causeylaw21_SettingLast, Try.func4, rfl, rfl, by kernel_rfl, by kernel_rfl, Try.call4⟩

def kl_causeylaw21_SettingOwes : Nat → List Nat := fun
  | 0 => [0, 6]
  | 1 => [15, 16, 17, 18, 19, 20, 21, 22, 23, 24, 25, 26, 27, 28, 29, 30, 31, 32]
  | 2 => [34]
  | 3 => [35, 36]
  | 5 => [37, 38]
  | 6 => [40, 41]
  | 7 => [42, 43, 44, 45, 46, 47]
  | 8 => [11, 48, 49, 50, 51, 52, 53, 54, 55, 56]
  | 10 => [58, 59]
  | 11 => [3, 9, 10, 61, 62, 63, 64, 65, 66, 67, 68, 69, 70, 71]
  | 12 => [9, 72]
  | 13 => [73, 74]
  | 15 => [75, 76]
  | 16 => [78, 79]
  | 17 => [80, 81, 82, 83, 84]
  | 18 => [85, 86, 87]
  | 20 => [14]
  | 21 => [90, 91]
  | 22 => [13, 92]
  | 23 => [93, 94, 95]
  | 25 => [3, 97, 98, 99, 100, 101]
  | _ => []
def dead_causeylaw21_SettingOwes_0 : List Nat := [0, 4, 5, 6, 9, 10, 11, 12, 13, 14, 15, 16, 17, 18, 19, 20, 21, 22, 23, 24, 25, 26, 27, 28, 29, 30, 31, 32, 33, 34, 35, 36, 37, 38, 39, 40, 41, 42, 43, 44, 45, 46, 47, 48, 49, 50, 51, 52, 53, 54, 55, 56, 57, 58, 59, 60, 61, 62, 63, 64, 65, 66, 67, 68, 69, 70, 71, 72, 73, 74, 75, 76, 77, 78, 79, 80, 81, 82, 83, 84, 85, 86, 87, 88, 89, 90, 91, 92, 93, 94, 95, 96, 97, 98, 99, 100, 101] -- live: [1, 2, 3, 7, 8]
def dead_causeylaw21_SettingOwes_1 : List Nat := [0, 4, 5, 6, 9, 10, 11, 13, 14, 15, 16, 17, 18, 19, 20, 21, 22, 23, 24, 25, 26, 27, 28, 29, 30, 31, 32, 33, 34, 35, 36, 37, 38, 39, 40, 41, 42, 43, 44, 45, 46, 47, 48, 49, 50, 51, 52, 53, 54, 55, 56, 57, 58, 59, 60, 61, 62, 63, 64, 65, 66, 67, 68, 69, 70, 71, 72, 73, 74, 75, 76, 77, 78, 79, 80, 81, 82, 83, 84, 85, 86, 87, 88, 89, 90, 91, 92, 93, 94, 95, 96, 97, 98, 99, 100, 101] -- live: [1, 2, 3, 7, 8, 12]
def causeylaw21_SettingOwes : IR :=
 (.seq (.reg [⟨(some 3), .box (.t 0), none⟩,
   ⟨(some 6), .mv (.c .ff), none⟩] [0, 6])
 (.seq (.seq (.reg [⟨(some 15), .load true 9 (.t 3), none⟩,
   ⟨(some 16), .call (.c (.fn (.func 20) [] [])) [(.t 15)], none⟩,
   ⟨(some 17), .not (.t 16), none⟩,
   ⟨(some 18), .mv (.t 17), none⟩,
   ⟨(some 19), .mv (.t 1), (some (18, false))⟩,
   ⟨(some 20), .bin .lt (.t 19) (.c (.i .i64 (.l 0))), (some (18, false))⟩,
   ⟨(some 21), .pick (.t 18) (.c .tt) (.t 20), none⟩,
   ⟨(some 22), .mv (.t 21), none⟩,
   ⟨(some 23), .mv (.t 1), (some (22, false))⟩,
   ⟨(some 24), .bin .gt (.t 23) (.c (.i .i64 (.l 70))), (some (22, false))⟩,
   ⟨(some 25), .pick (.t 22) (.c .tt) (.t 24), none⟩,
   ⟨(some 26), .mv (.t 25), none⟩,
   ⟨(some 27), .mv (.t 2), (some (26, false))⟩,
   ⟨(some 28), .bin .lt (.t 27) (.c (.i .i64 (.l 0))), (some (26, false))⟩,
   ⟨(some 29), .pick (.t 26) (.c .tt) (.t 28), none⟩,
   ⟨(some 30), .mv (.t 29), none⟩,
   ⟨(some 31), .mv (.t 2), (some (30, false))⟩,
   ⟨(some 32), .bin .gt (.t 31) (.c (.i .i64 (.l 3))), (some (30, false))⟩,
   ⟨(some 33), .pick (.t 30) (.c .tt) (.t 32), none⟩] [15, 16, 17, 18, 19, 20, 21, 22, 23, 24, 25, 26, 27, 28, 29, 30, 31, 32])
 (.cond (.t 33)
  (.seq (.reg [⟨(some 34), .call (.c (.fn (.func 7) [] [])) [], none⟩,
    ⟨(some 6), .mv (.t 34), none⟩] [34])
  .ret)
  .skip))
 (.seq (.reg [⟨(some 35), .fad 7 (.t 3), none⟩,
   ⟨(some 36), .load false 1 (.t 35), none⟩,
   ⟨(some 7), .mv (.t 36), none⟩] [35, 36])
 (.seq (.seq (.reg [⟨(some 8), .mv (.c (.i .i64 (.l 0))), none⟩] [])
 (.block 0 (.loop (.seq (.seq (.reg [⟨(some 37), .mv (.t 8), none⟩,
     ⟨(some 38), .mv (.t 1), none⟩,
     ⟨(some 39), .bin .lt (.t 37) (.t 38), none⟩] [37, 38])
   (.cond (.t 39)
    .skip
    (.exit 0)))
   (.seq (.block 1 (.seq (.reg [⟨(some 43), .load true 9 (.t 3), none⟩,
      ⟨(some 44), .call (.c (.fn (.func 8) [] [])) [(.t 43), (.c (.re (.slice none 0 0)))], none⟩,
      ⟨(some 42), .mv (.t 44), none⟩,
      ⟨(some 45), .ext (.t 42) 0, none⟩,
      ⟨(some 46), .ext (.t 42) 1, none⟩,
      ⟨(some 47), .ext (.t 42) 2, none⟩,
      ⟨(some 9), .alloc [.ff, (.i .i64 (.l 0)), (.i .i64 (.l 0)), (.i .i64 (.l 0)), (.i .i64 (.l 0)), .ff, .ff, (.i .i64 (.l 0)), (.i .i64 (.l 0))], none⟩,
      ⟨(some 10), .alloc [.ff, (.i .i64 (.l 0)), (.i .u32 (.l 0))], none⟩,
      ⟨none, .store 9 (.t 9) (.t 45), none⟩,
      ⟨none, .store 3 (.t 10) (.t 46), none⟩,
      ⟨(some 11), .mv (.t 47), none⟩] [42, 43, 44, 45, 46, 47])
    (.seq (.seq (.reg [⟨(some 48), .mv (.t 11), none⟩,
      ⟨(some 49), .bin .ne (.t 48) (.c (.i .i64 (.l 0))), none⟩,
      ⟨(some 50), .mv (.t 49), none⟩,
      ⟨(some 51), .load true 3 (.t 10), (some (50, false))⟩,
      ⟨(some 52), .build [.ff, (.i .i64 (.l 0)), (.i .u32 (.l 0))] [], (some (50, false))⟩,
      ⟨(some 53), .eqA ⟨true, [.kb, .ki, .ki]⟩ false (.t 51) (.t 52), (some (50, false))⟩,
      ⟨(some 54), .mv (.t 7), (some (50, false))⟩,
      ⟨(some 55), .bin .lt (.t 54) (.c (.i .i64 (.l 64))), (some (50, false))⟩,
      ⟨(some 56), .eqA ⟨false, [.kb]⟩ true (.t 53) (.t 55), (some (50, false))⟩,
      ⟨(some 57), .pick (.t 50) (.c .tt) (.t 56), none⟩] [11, 48, 49, 50, 51, 52, 53, 54, 55, 56])
    (.cond (.t 57)
     (.seq (.reg [⟨(some 6), .mv (.c .ff), none⟩] [])
     .ret)
     .skip))
    (.seq (.seq (.reg [⟨(some 58), .load true 3 (.t 10), none⟩,
      ⟨(some 59), .build [.ff, (.i .i64 (.l 0)), (.i .u32 (.l 0))] [], none⟩,
      ⟨(some 60), .eqA ⟨true, [.kb, .ki, .ki]⟩ true (.t 58) (.t 59), none⟩] [58, 59])
    (.cond (.t 60)
     (.seq (.reg [⟨(some 61), .load true 3 (.t 10), none⟩,
       ⟨(some 62), .build [.ff, (.i .i64 (.l 0)), (.i .u32 (.l 0))] [(0, 1, (.c .tt)), (2, 1, (.c (.i .u32 (.l 11))))], none⟩,
       ⟨(some 63), .eqA ⟨true, [.kb, .ki, .ki]⟩ false (.t 61) (.t 62), none⟩,
       ⟨(some 64), .mv (.t 63), none⟩,
       ⟨(some 65), .load true 9 (.t 9), (some (64, true))⟩,
       ⟨(some 66), .load true 9 (.t 3), (some (64, true))⟩,
       ⟨(some 67), .eqA ⟨true, [.kb, .ki, .ki, .ki, .ki, .kb, .kb, .ki, .ki]⟩ false (.t 65) (.t 66), (some (64, true))⟩,
       ⟨(some 68), .pick (.t 64) (.t 67) (.c .ff), none⟩,
       ⟨(some 69), .mv (.t 68), none⟩,
       ⟨(some 70), .call (.c (.fn (.func 7) [] [])) [], (some (69, true))⟩,
       ⟨(some 71), .pick (.t 69) (.t 70) (.c .ff), none⟩,
       ⟨(some 6), .mv (.t 71), none⟩] [3, 9, 10, 61, 62, 63, 64, 65, 66, 67, 68, 69, 70, 71])
     .ret)
     .skip))
    (.seq (.reg [⟨(some 72), .load true 9 (.t 9), none⟩,
      ⟨none, .store 9 (.t 3) (.t 72), none⟩] [9, 72])
    (.seq (.reg [⟨(some 73), .mv (.t 7), none⟩,
      ⟨(some 74), .bin .add (.t 73) (.c (.i .i64 (.l 1))), none⟩,
      ⟨(some 7), .mv (.t 74), none⟩] [73, 74])
    (.seq (.seq (.reg [⟨(some 12), .mv (.c (.i .i64 (.l 0))), none⟩] [])
    (.block 2 (.loop (.seq (.seq (.reg [⟨(some 75), .mv (.t 12), none⟩,
        ⟨(some 76), .mv (.t 2), none⟩,
        ⟨(some 77), .bin .lt (.t 75) (.t 76), none⟩] [75, 76])
      (.cond (.t 77)
       .skip
       (.exit 2)))
      (.seq (.block 3 (.seq (.reg [⟨(some 81), .load true 9 (.t 3), none⟩,
         ⟨(some 82), .call (.c (.fn (.func 12) [] [])) [(.t 81)], none⟩,
         ⟨(some 80), .mv (.t 82), none⟩,
         ⟨(some 83), .ext (.t 80) 0, none⟩,
         ⟨(some 84), .ext (.t 80) 1, none⟩,
         ⟨(some 13), .alloc [.ff, (.i .i64 (.l 0)), (.i .i64 (.l 0)), (.i .i64 (.l 0)), (.i .i64 (.l 0)), .ff, .ff, (.i .i64 (.l 0)), (.i .i64 (.l 0))], none⟩,
         ⟨none, .store 9 (.t 13) (.t 83), none⟩,
         ⟨(some 14), .mv (.t 84), none⟩] [80, 81, 82, 83, 84])
       (.seq (.seq (.reg [⟨(some 85), .mv (.t 14), none⟩,
         ⟨(some 86), .mv (.t 7), none⟩,
         ⟨(some 87), .bin .gt (.t 86) (.c (.i .i64 (.l 0))), none⟩,
         ⟨(some 88), .eqA ⟨false, [.kb]⟩ true (.t 85) (.t 87), none⟩] [85, 86, 87])
       (.cond (.t 88)
        (.seq (.reg [⟨(some 6), .mv (.c .ff), none⟩] [])
        .ret)
        .skip))
       (.seq (.seq (.reg [⟨(some 89), .mv (.t 14), none⟩] [14])
       (.cond (.t 89)
        (.reg [⟨(some 90), .mv (.t 7), none⟩,
          ⟨(some 91), .bin .sub (.t 90) (.c (.i .i64 (.l 1))), none⟩,
          ⟨(some 7), .mv (.t 91), none⟩] [90, 91])
        .skip))
       (.reg [⟨(some 92), .load true 9 (.t 13), none⟩,
         ⟨none, .store 9 (.t 3) (.t 92), none⟩] [13, 92])))))
      (.reg [⟨(some 78), .mv (.t 12), none⟩,
        ⟨(some 79), .bin .add (.t 78) (.c (.i .i64 (.l 1))), none⟩,
        ⟨(some 12), .mv (.t 79), none⟩] [78, 79]))))))
    (.seq (.reg [⟨(some 93), .fad 7 (.t 3), none⟩,
      ⟨(some 94), .load false 1 (.t 93), none⟩,
      ⟨(some 95), .mv (.t 7), none⟩,
      ⟨(some 96), .bin .ne (.t 94) (.t 95), none⟩] [93, 94, 95])
    (.cond (.t 96)
     (.seq (.reg [⟨(some 6), .mv (.c .ff), none⟩] [])
     .ret)
     .skip)))))))))
   (.reg [⟨(some 40), .mv (.t 8), none⟩,
     ⟨(some 41), .bin .add (.t 40) (.c (.i .i64 (.l 1))), none⟩,
     ⟨(some 8), .mv (.t 41), none⟩] [40, 41]))))))
 (.seq (.reg [⟨(some 97), .load true 9 (.t 3), none⟩,
   ⟨(some 98), .call (.c (.fn (.func 19) [] [])) [(.t 97)], none⟩,
   ⟨(some 99), .mv (.t 98), none⟩,
   ⟨(some 100), .call (.c (.fn (.func 7) [] [])) [], (some (99, true))⟩,
   ⟨(some 101), .pick (.t 99) (.t 100) (.c .ff), none⟩,
   ⟨(some 6), .mv (.t 101), none⟩] [3, 97, 98, 99, 100, 101])
 .ret)))))
theorem fn_causeylaw21_SettingOwes : FnIs Try.prog 5 102 [.t 6] causeylaw21_SettingOwes :=
  ⟨Try.f5, _, kl_causeylaw21_SettingOwes, Try.func5, rfl, rfl, by kernel_rfl, by kernel_rfl, Try.call5⟩

def kl_causeylaw21_SettingAcks : Nat → List Nat := fun
  | 0 => [0, 2]
  | 1 => [6, 7]
  | 2 => [9]
  | 3 => [10, 11, 12, 13, 14, 15]
  | 4 => [5, 16, 17, 18, 19, 20, 21, 22, 23, 24, 25]
  | 6 => [27, 28]
  | 7 => [1, 3, 4, 30, 31, 32, 33, 34, 35, 36, 37, 38, 39, 40, 41, 42, 43, 44]
  | 8 => [45, 46, 47, 48]
  | 9 => [1, 3, 49, 50, 51, 52, 53, 54]
  | _ => []
def ord_causeylaw21_SettingAcks_0 : List (Nat × List Nat) := [(0, []), (1, []), (2, []), (3, []), (4, []), (5, []), (6, []), (7, []), (8, []), (9, []), (10, [])]
def causeylaw21_SettingAcks : IR :=
 (.seq (.reg [⟨(some 1), .box (.t 0), none⟩,
   ⟨(some 2), .mv (.c .ff), none⟩] [0, 2])
 (.seq (.seq (.reg [⟨(some 6), .load true 9 (.t 1), none⟩,
   ⟨(some 7), .call (.c (.fn (.func 20) [] [])) [(.t 6)], none⟩,
   ⟨(some 8), .not (.t 7), none⟩] [6, 7])
 (.cond (.t 8)
  (.seq (.reg [⟨(some 9), .call (.c (.fn (.func 7) [] [])) [], none⟩,
    ⟨(some 2), .mv (.t 9), none⟩] [9])
  .ret)
  .skip))
 (.seq (.reg [⟨(some 11), .load true 9 (.t 1), none⟩,
   ⟨(some 12), .call (.c (.fn (.func 10) [] [])) [(.t 11)], none⟩,
   ⟨(some 10), .mv (.t 12), none⟩,
   ⟨(some 13), .ext (.t 10) 0, none⟩,
   ⟨(some 14), .ext (.t 10) 1, none⟩,
   ⟨(some 15), .ext (.t 10) 2, none⟩,
   ⟨(some 3), .alloc [.ff, (.i .i64 (.l 0)), (.i .i64 (.l 0)), (.i .i64 (.l 0)), (.i .i64 (.l 0)), .ff, .ff, (.i .i64 (.l 0)), (.i .i64 (.l 0))], none⟩,
   ⟨(some 4), .alloc [.ff, (.i .i64 (.l 0)), (.i .u32 (.l 0))], none⟩,
   ⟨none, .store 9 (.t 3) (.t 13), none⟩,
   ⟨none, .store 3 (.t 4) (.t 14), none⟩,
   ⟨(some 5), .mv (.t 15), none⟩] [10, 11, 12, 13, 14, 15])
 (.seq (.seq (.draw [⟨(some 16), .mv (.t 5), none⟩,
   ⟨(some 17), .bin .ne (.t 16) (.c (.i .i64 (.l 0))), none⟩,
   ⟨(some 18), .mv (.t 17), none⟩,
   ⟨(some 19), .load true 3 (.t 4), (some (18, false))⟩,
   ⟨(some 20), .build [.ff, (.i .i64 (.l 0)), (.i .u32 (.l 0))] [], (some (18, false))⟩,
   ⟨(some 21), .eqA ⟨true, [.kb, .ki, .ki]⟩ false (.t 19) (.t 20), (some (18, false))⟩,
   ⟨(some 22), .fad 8 (.t 1), (some (18, false))⟩,
   ⟨(some 23), .load false 1 (.t 22), (some (18, false))⟩,
   ⟨(some 24), .bin .gt (.t 23) (.c (.i .i64 (.l 0))), (some (18, false))⟩,
   ⟨(some 25), .eqA ⟨false, [.kb]⟩ true (.t 21) (.t 24), (some (18, false))⟩,
   ⟨(some 26), .pick (.t 18) (.c .tt) (.t 25), none⟩] [[], [0], [1], [2], [2], [3, 4, 2], [2], [6, 2], [7, 2], [5, 8, 2], [2, 9]] [5, 16, 17, 18, 19, 20, 21, 22, 23, 24, 25])
 (.cond (.t 26)
  (.seq (.reg [⟨(some 2), .mv (.c .ff), none⟩] [])
  .ret)
  .skip))
 (.seq (.seq (.reg [⟨(some 27), .fad 8 (.t 1), none⟩,
   ⟨(some 28), .load false 1 (.t 27), none⟩,
   ⟨(some 29), .bin .eq (.t 28) (.c (.i .i64 (.l 0))), none⟩] [27, 28])
 (.cond (.t 29)
  (.seq (.reg [⟨(some 30), .load true 9 (.t 3), none⟩,
    ⟨(some 31), .load true 9 (.t 1), none⟩,
    ⟨(some 32), .eqA ⟨true, [.kb, .ki, .ki, .ki, .ki, .kb, .kb, .ki, .ki]⟩ false (.t 30) (.t 31), none⟩,
    ⟨(some 33), .mv (.t 32), none⟩,
    ⟨(some 34), .fad 0 (.t 4), (some (33, true))⟩,
    ⟨(some 35), .load false 1 (.t 34), (some (33, true))⟩,
    ⟨(some 36), .pick (.t 33) (.t 35) (.c .ff), none⟩,
    ⟨(some 37), .mv (.t 36), none⟩,
    ⟨(some 38), .fad 2 (.t 4), (some (37, true))⟩,
    ⟨(some 39), .load false 1 (.t 38), (some (37, true))⟩,
    ⟨(some 40), .bin .eq (.t 39) (.c (.i .u32 (.l 1))), (some (37, true))⟩,
    ⟨(some 41), .pick (.t 37) (.t 40) (.c .ff), none⟩,
    ⟨(some 42), .mv (.t 41), none⟩,
    ⟨(some 43), .call (.c (.fn (.func 7) [] [])) [], (some (42, true))⟩,
    ⟨(some 44), .pick (.t 42) (.t 43) (.c .ff), none⟩,
    ⟨(some 2), .mv (.t 44), none⟩] [1, 3, 4, 30, 31, 32, 33, 34, 35, 36, 37, 38, 39, 40, 41, 42, 43, 44])
  .ret)
  .skip))
 (.seq (.reg [⟨(some 45), .fad 8 (.t 3), none⟩,
   ⟨(some 46), .load false 1 (.t 45), none⟩,
   ⟨(some 47), .bin .add (.t 46) (.c (.i .i64 (.l 1))), none⟩,
   ⟨(some 48), .fad 8 (.t 3), none⟩,
   ⟨none, .store 1 (.t 48) (.t 47), none⟩] [45, 46, 47, 48])
 (.seq (.reg [⟨(some 49), .load true 9 (.t 3), none⟩,
   ⟨(some 50), .load true 9 (.t 1), none⟩,
   ⟨(some 51), .eqA ⟨true, [.kb, .ki, .ki, .ki, .ki, .kb, .kb, .ki, .ki]⟩ false (.t 49) (.t 50), none⟩,
   ⟨(some 52), .mv (.t 51), none⟩,
   ⟨(some 53), .call (.c (.fn (.func 7) [] [])) [], (some (52, true))⟩,
   ⟨(some 54), .pick (.t 52) (.t 53) (.c .ff), none⟩,
   ⟨(some 2), .mv (.t 54), none⟩] [1, 3, 49, 50, 51, 52, 53, 54])
 .ret)))))))
theorem fn_causeylaw21_SettingAcks : FnIs Try.prog 6 55 [.t 2] causeylaw21_SettingAcks :=
  ⟨Try.f6, _, kl_causeylaw21_SettingAcks, Try.func6, rfl, rfl, by kernel_rfl, by kernel_rfl, Try.call6⟩

def kl_causeylaw21_wakes : Nat → List Nat := fun
  | 0 => [0]
  | 1 => [26, 27, 28, 29, 30, 31, 32, 33, 34, 35]
  | 2 => [36, 37, 38, 39, 40, 41]
  | 3 => [7, 42, 43, 44, 45, 46, 47]
  | 4 => [10, 48, 49, 50, 51, 52, 53, 54, 55]
  | 5 => [13, 14, 56, 57, 58, 59, 60, 61, 62, 63]
  | 6 => [64, 65, 66, 67, 68]
  | 7 => [16, 18, 69, 70, 71, 72, 73]
  | 8 => [74]
  | 9 => [75, 76, 77, 78, 79]
  | 10 => [23, 80, 81, 82, 83, 84]
  | 11 => [85]
  | 12 => [1, 2, 3, 4, 5, 6, 8, 9, 11, 12, 15, 17, 19, 20, 21, 22, 24, 25, 86, 87, 88, 89, 90, 91, 92, 93, 94, 95, 96, 97, 98, 99, 100, 101, 102, 103, 104, 105, 106, 107, 108, 109, 110, 111, 112, 113, 114, 115, 116, 117, 118, 119, 120, 121, 122, 123, 124, 125, 126, 127, 128, 129, 130, 131, 132, 133, 134, 135, 136, 137, 138, 139, 140, 141, 142, 143, 144, 145, 146, 147, 148, 149, 150, 151, 152, 153, 154, 155, 156, 157, 158, 159, 160, 161, 162, 163, 164, 165, 166, 167, 168, 169, 170, 171, 172, 173, 174, 175, 176, 177, 178, 179, 180, 181, 182, 183, 184, 185, 186, 187, 188, 189]
  | _ => []
def ord_causeylaw21_wakes_0 : List (Nat × List Nat) := [(0, []), (1, []), (2, []), (3, []), (4, []), (5, []), (6, []), (7, []), (8, []), (9, []), (10, []), (11, []), (12, []), (13, []), (14, []), (15, []), (16, []), (17, []), (18, []), (19, []), (20, []), (21, []), (22, []), (23, []), (24, []), (25, []), (26, []), (27, []), (28, []), (29, []), (30, []), (31, []), (32, []), (33, []), (34, []), (35, []), (36, []), (37, []), (38, []), (39, []), (40, []), (41, []), (42, []), (43, []), (44, []), (45, []), (46, []), (47, []), (48, []), (49, []), (50, []), (51, []), (52, []), (53, []), (54, []), (55, []), (56, []), (57, []), (58, []), (59, []), (60, []), (61, []), (62, []), (63, []), (64, []), (65, []), (66, []), (67, []), (68, []), (69, []), (70, []), (71, []), (72, []), (73, []), (74, []), (75, []), (76, []), (77, []), (78, []), (79, []), (80, []), (81, []), (82, []), (83, []), (84, []), (85, []), (86, []), (87, []), (88, []), (89, []), (90, []), (91, []), (92, []), (93, []), (94, []), (95, []), (96, []), (97, []), (98, []), (100, []), (99, [100]), (101, []), (102, []), (103, []), (104, [])]
def causeylaw21_wakes : IR :=
 (.seq (.reg [⟨(some 0), .mv (.c .ff), none⟩] [0])
 (.seq (.reg [⟨(some 27), .call (.c (.fn (.func 21) [] [])) [], none⟩,
   ⟨(some 28), .build [(.i .u16 (.l 0)), (.i .u32 (.l 0))] [(0, 1, (.c (.i .u16 (.l 4)))), (1, 1, (.c (.i .u32 (.l 9))))], none⟩,
   ⟨(some 29), .build [(.i .u16 (.l 0)), (.i .u32 (.l 0))] [(0, 1, (.c (.i .u16 (.l 4)))), (1, 1, (.c (.i .u32 (.l 7))))], none⟩,
   ⟨(some 30), .build [(.i .u16 (.l 0)), (.i .u32 (.l 0))] [(0, 1, (.c (.i .u16 (.l 77)))), (1, 1, (.c (.i .u32 (.l 1))))], none⟩,
   ⟨(some 31), .buildS 2 3 [(.i .u16 (.l 0)), (.i .u32 (.l 0))] [(0, (.t 28)), (1, (.t 29)), (2, (.t 30))], none⟩,
   ⟨(some 32), .call (.c (.fn (.func 8) [] [])) [(.t 27), (.t 31)], none⟩,
   ⟨(some 26), .mv (.t 32), none⟩,
   ⟨(some 33), .ext (.t 26) 0, none⟩,
   ⟨(some 34), .ext (.t 26) 1, none⟩,
   ⟨(some 35), .ext (.t 26) 2, none⟩,
   ⟨(some 1), .alloc [.ff, (.i .i64 (.l 0)), (.i .i64 (.l 0)), (.i .i64 (.l 0)), (.i .i64 (.l 0)), .ff, .ff, (.i .i64 (.l 0)), (.i .i64 (.l 0))], none⟩,
   ⟨(some 2), .alloc [.ff, (.i .i64 (.l 0)), (.i .u32 (.l 0))], none⟩,
   ⟨none, .store 9 (.t 1) (.t 33), none⟩,
   ⟨none, .store 3 (.t 2) (.t 34), none⟩,
   ⟨(some 3), .mv (.t 35), none⟩] [26, 27, 28, 29, 30, 31, 32, 33, 34, 35])
 (.seq (.reg [⟨(some 37), .load true 9 (.t 1), none⟩,
   ⟨(some 38), .call (.c (.fn (.func 10) [] [])) [(.t 37)], none⟩,
   ⟨(some 36), .mv (.t 38), none⟩,
   ⟨(some 39), .ext (.t 36) 0, none⟩,
   ⟨(some 40), .ext (.t 36) 1, none⟩,
   ⟨(some 41), .ext (.t 36) 2, none⟩,
   ⟨(some 4), .alloc [.ff, (.i .i64 (.l 0)), (.i .i64 (.l 0)), (.i .i64 (.l 0)), (.i .i64 (.l 0)), .ff, .ff, (.i .i64 (.l 0)), (.i .i64 (.l 0))], none⟩,
   ⟨(some 5), .alloc [.ff, (.i .i64 (.l 0)), (.i .u32 (.l 0))], none⟩,
   ⟨none, .store 9 (.t 4) (.t 39), none⟩,
   ⟨none, .store 3 (.t 5) (.t 40), none⟩,
   ⟨(some 6), .mv (.t 41), none⟩] [36, 37, 38, 39, 40, 41])
 (.seq (.reg [⟨(some 43), .load true 9 (.t 4), none⟩,
   ⟨(some 44), .call (.c (.fn (.func 10) [] [])) [(.t 43)], none⟩,
   ⟨(some 42), .mv (.t 44), none⟩,
   ⟨(some 45), .ext (.t 42) 0, none⟩,
   ⟨(some 46), .ext (.t 42) 1, none⟩,
   ⟨(some 47), .ext (.t 42) 2, none⟩,
   ⟨(some 7), .alloc [.ff, (.i .i64 (.l 0)), (.i .i64 (.l 0)), (.i .i64 (.l 0)), (.i .i64 (.l 0)), .ff, .ff, (.i .i64 (.l 0)), (.i .i64 (.l 0))], none⟩,
   ⟨(some 8), .alloc [.ff, (.i .i64 (.l 0)), (.i .u32 (.l 0))], none⟩,
   ⟨none, .store 9 (.t 7) (.t 45), none⟩,
   ⟨none, .store 3 (.t 8) (.t 46), none⟩,
   ⟨(some 9), .mv (.t 47), none⟩] [7, 42, 43, 44, 45, 46, 47])
 (.seq (.reg [⟨(some 49), .load true 9 (.t 1), none⟩,
   ⟨(some 50), .build [(.i .u16 (.l 0)), (.i .u32 (.l 0))] [(0, 1, (.c (.i .u16 (.l 9)))), (1, 1, (.c (.i .u32 (.l 1))))], none⟩,
   ⟨(some 51), .buildS 2 1 [(.i .u16 (.l 0)), (.i .u32 (.l 0))] [(0, (.t 50))], none⟩,
   ⟨(some 52), .call (.c (.fn (.func 8) [] [])) [(.t 49), (.t 51)], none⟩,
   ⟨(some 48), .mv (.t 52), none⟩,
   ⟨(some 53), .ext (.t 48) 0, none⟩,
   ⟨(some 54), .ext (.t 48) 1, none⟩,
   ⟨(some 55), .ext (.t 48) 2, none⟩,
   ⟨(some 10), .alloc [.ff, (.i .i64 (.l 0)), (.i .i64 (.l 0)), (.i .i64 (.l 0)), (.i .i64 (.l 0)), .ff, .ff, (.i .i64 (.l 0)), (.i .i64 (.l 0))], none⟩,
   ⟨(some 11), .alloc [.ff, (.i .i64 (.l 0)), (.i .u32 (.l 0))], none⟩,
   ⟨none, .store 9 (.t 10) (.t 53), none⟩,
   ⟨none, .store 3 (.t 11) (.t 54), none⟩,
   ⟨(some 12), .mv (.t 55), none⟩] [10, 48, 49, 50, 51, 52, 53, 54, 55])
 (.seq (.reg [⟨(some 57), .load true 9 (.t 1), none⟩,
   ⟨(some 58), .build [(.i .u16 (.l 0)), (.i .u32 (.l 0))] [(0, 1, (.c (.i .u16 (.l 5)))), (1, 1, (.c (.i .u32 (.l 1))))], none⟩,
   ⟨(some 59), .buildS 2 1 [(.i .u16 (.l 0)), (.i .u32 (.l 0))] [(0, (.t 58))], none⟩,
   ⟨(some 60), .call (.c (.fn (.func 8) [] [])) [(.t 57), (.t 59)], none⟩,
   ⟨(some 56), .mv (.t 60), none⟩,
   ⟨(some 61), .ext (.t 56) 0, none⟩,
   ⟨(some 62), .ext (.t 56) 1, none⟩,
   ⟨(some 63), .ext (.t 56) 2, none⟩,
   ⟨(some 13), .alloc [.ff, (.i .i64 (.l 0)), (.i .i64 (.l 0)), (.i .i64 (.l 0)), (.i .i64 (.l 0)), .ff, .ff, (.i .i64 (.l 0)), (.i .i64 (.l 0))], none⟩,
   ⟨(some 14), .alloc [.ff, (.i .i64 (.l 0)), (.i .u32 (.l 0))], none⟩,
   ⟨none, .store 9 (.t 13) (.t 61), none⟩,
   ⟨none, .store 3 (.t 14) (.t 62), none⟩,
   ⟨(some 15), .mv (.t 63), none⟩] [13, 14, 56, 57, 58, 59, 60, 61, 62, 63])
 (.seq (.reg [⟨(some 65), .load true 9 (.t 1), none⟩,
   ⟨(some 66), .call (.c (.fn (.func 12) [] [])) [(.t 65)], none⟩,
   ⟨(some 64), .mv (.t 66), none⟩,
   ⟨(some 67), .ext (.t 64) 0, none⟩,
   ⟨(some 68), .ext (.t 64) 1, none⟩,
   ⟨(some 16), .alloc [.ff, (.i .i64 (.l 0)), (.i .i64 (.l 0)), (.i .i64 (.l 0)), (.i .i64 (.l 0)), .ff, .ff, (.i .i64 (.l 0)), (.i .i64 (.l 0))], none⟩,
   ⟨none, .store 9 (.t 16) (.t 67), none⟩,
   ⟨(some 17), .mv (.t 68), none⟩] [64, 65, 66, 67, 68])
 (.seq (.reg [⟨(some 70), .load true 9 (.t 16), none⟩,
   ⟨(some 71), .call (.c (.fn (.func 12) [] [])) [(.t 70)], none⟩,
   ⟨(some 69), .mv (.t 71), none⟩,
   ⟨(some 72), .ext (.t 69) 0, none⟩,
   ⟨(some 73), .ext (.t 69) 1, none⟩,
   ⟨(some 18), .alloc [.ff, (.i .i64 (.l 0)), (.i .i64 (.l 0)), (.i .i64 (.l 0)), (.i .i64 (.l 0)), .ff, .ff, (.i .i64 (.l 0)), (.i .i64 (.l 0))], none⟩,
   ⟨none, .store 9 (.t 18) (.t 72), none⟩,
   ⟨(some 19), .mv (.t 73), none⟩] [16, 18, 69, 70, 71, 72, 73])
 (.seq (.reg [⟨(some 74), .build [(.i .i64 (.l 0)), (.i .i64 (.l 0)), (.i .i64 (.l 0))] [(0, 1, (.c (.i .i64 (.l 2)))), (1, 1, (.c (.i .i64 (.l 100)))), (2, 1, (.c (.i .i64 (.l 10))))], none⟩,
   ⟨(some 20), .alloc [(.i .i64 (.l 0)), (.i .i64 (.l 0)), (.i .i64 (.l 0))], none⟩,
   ⟨none, .store 3 (.t 20) (.t 74), none⟩] [74])
 (.seq (.reg [⟨(some 76), .load true 3 (.t 20), none⟩,
   ⟨(some 77), .call (.c (.fn (.func 14) [] [])) [(.t 76)], none⟩,
   ⟨(some 75), .mv (.t 77), none⟩,
   ⟨(some 78), .ext (.t 75) 0, none⟩,
   ⟨(some 79), .ext (.t 75) 1, none⟩,
   ⟨(some 21), .mv (.t 78), none⟩,
   ⟨(some 22), .mv (.t 79), none⟩] [75, 76, 77, 78, 79])
 (.seq (.reg [⟨(some 81), .build [(.i .i64 (.l 0)), (.i .i64 (.l 0)), (.i .i64 (.l 0))] [], none⟩,
   ⟨(some 82), .call (.c (.fn (.func 14) [] [])) [(.t 81)], none⟩,
   ⟨(some 80), .mv (.t 82), none⟩,
   ⟨(some 83), .ext (.t 80) 0, none⟩,
   ⟨(some 84), .ext (.t 80) 1, none⟩,
   ⟨(some 23), .mv (.t 83), none⟩,
   ⟨(some 24), .mv (.t 84), none⟩] [23, 80, 81, 82, 83, 84])
 (.seq (.reg [⟨(some 85), .build [.ff, (.i .i64 (.l 0)), (.i .u32 (.l 0))] [(0, 1, (.c .tt)), (2, 1, (.c (.i .u32 (.l 1))))], none⟩,
   ⟨(some 25), .alloc [.ff, (.i .i64 (.l 0)), (.i .u32 (.l 0))], none⟩,
   ⟨none, .store 3 (.t 25) (.t 85), none⟩] [85])
 (.seq (.draw [⟨(some 86), .load true 3 (.t 2), none⟩,
   ⟨(some 87), .build [.ff, (.i .i64 (.l 0)), (.i .u32 (.l 0))] [], none⟩,
   ⟨(some 88), .eqA ⟨true, [.kb, .ki, .ki]⟩ false (.t 86) (.t 87), none⟩,
   ⟨(some 89), .mv (.t 88), none⟩,
   ⟨(some 90), .mv (.t 3), (some (89, true))⟩,
   ⟨(some 91), .bin .eq (.t 90) (.c (.i .i64 (.l 0))), (some (89, true))⟩,
   ⟨(some 92), .pick (.t 89) (.t 91) (.c .ff), none⟩,
   ⟨(some 93), .mv (.t 92), none⟩,
   ⟨(some 94), .fad 2 (.t 1), (some (93, true))⟩,
   ⟨(some 95), .load false 1 (.t 94), (some (93, true))⟩,
   ⟨(some 96), .bin .eq (.t 95) (.c (.i .i64 (.l 7))), (some (93, true))⟩,
   ⟨(some 97), .pick (.t 93) (.t 96) (.c .ff), none⟩,
   ⟨(some 98), .mv (.t 97), none⟩,
   ⟨(some 99), .fad 7 (.t 1), (some (98, true))⟩,
   ⟨(some 100), .load false 1 (.t 99), (some (98, true))⟩,
   ⟨(some 101), .bin .eq (.t 100) (.c (.i .i64 (.l 1))), (some (98, true))⟩,
   ⟨(some 102), .pick (.t 98) (.t 101) (.c .ff), none⟩,
   ⟨(some 103), .mv (.t 102), none⟩,
   ⟨(some 104), .fad 0 (.t 1), (some (103, true))⟩,
   ⟨(some 105), .load false 1 (.t 104), (some (103, true))⟩,
   ⟨(some 106), .pick (.t 103) (.t 105) (.c .ff), none⟩,
   ⟨(some 107), .mv (.t 106), none⟩,
   ⟨(some 108), .load true 3 (.t 5), (some (107, true))⟩,
   ⟨(some 109), .build [.ff, (.i .i64 (.l 0)), (.i .u32 (.l 0))] [], (some (107, true))⟩,
   ⟨(some 110), .eqA ⟨true, [.kb, .ki, .ki]⟩ false (.t 108) (.t 109), (some (107, true))⟩,
   ⟨(some 111), .pick (.t 107) (.t 110) (.c .ff), none⟩,
   ⟨(some 112), .mv (.t 111), none⟩,
   ⟨(some 113), .mv (.t 6), (some (112, true))⟩,
   ⟨(some 114), .bin .eq (.t 113) (.c (.i .i64 (.l 0))), (some (112, true))⟩,
   ⟨(some 115), .pick (.t 112) (.t 114) (.c .ff), none⟩,
   ⟨(some 116), .mv (.t 115), none⟩,
   ⟨(some 117), .fad 8 (.t 4), (some (116, true))⟩,
   ⟨(some 118), .load false 1 (.t 117), (some (116, true))⟩,
   ⟨(some 119), .bin .eq (.t 118) (.c (.i .i64 (.l 0))), (some (116, true))⟩,
   ⟨(some 120), .pick (.t 116) (.t 119) (.c .ff), none⟩,
   ⟨(some 121), .mv (.t 120), none⟩,
   ⟨(some 122), .load true 3 (.t 8), (some (121, true))⟩,
   ⟨(some 123), .load true 3 (.t 25), (some (121, true))⟩,
   ⟨(some 124), .eqA ⟨true, [.kb, .ki, .ki]⟩ false (.t 122) (.t 123), (some (121, true))⟩,
   ⟨(some 125), .pick (.t 121) (.t 124) (.c .ff), none⟩,
   ⟨(some 126), .mv (.t 125), none⟩,
   ⟨(some 127), .mv (.t 9), (some (126, true))⟩,
   ⟨(some 128), .bin .eq (.t 127) (.c (.i .i64 (.l 0))), (some (126, true))⟩,
   ⟨(some 129), .pick (.t 126) (.t 128) (.c .ff), none⟩,
   ⟨(some 130), .mv (.t 129), none⟩,
   ⟨(some 131), .load true 3 (.t 11), (some (130, true))⟩,
   ⟨(some 132), .load true 3 (.t 25), (some (130, true))⟩,
   ⟨(some 133), .eqA ⟨true, [.kb, .ki, .ki]⟩ false (.t 131) (.t 132), (some (130, true))⟩,
   ⟨(some 134), .pick (.t 130) (.t 133) (.c .ff), none⟩,
   ⟨(some 135), .mv (.t 134), none⟩,
   ⟨(some 136), .mv (.t 12), (some (135, true))⟩,
   ⟨(some 137), .bin .eq (.t 136) (.c (.i .i64 (.l 0))), (some (135, true))⟩,
   ⟨(some 138), .pick (.t 135) (.t 137) (.c .ff), none⟩,
   ⟨(some 139), .mv (.t 138), none⟩,
   ⟨(some 140), .mv (.t 15), (some (139, true))⟩,
   ⟨(some 141), .bin .eq (.t 140) (.c (.i .i64 (.l 2))), (some (139, true))⟩,
   ⟨(some 142), .pick (.t 139) (.t 141) (.c .ff), none⟩,
   ⟨(some 143), .mv (.t 142), none⟩,
   ⟨(some 144), .mv (.t 17), (some (143, true))⟩,
   ⟨(some 145), .pick (.t 143) (.t 144) (.c .ff), none⟩,
   ⟨(some 146), .mv (.t 145), none⟩,
   ⟨(some 147), .mv (.t 19), (some (146, true))⟩,
   ⟨(some 148), .not (.t 147), (some (146, true))⟩,
   ⟨(some 149), .pick (.t 146) (.t 148) (.c .ff), none⟩,
   ⟨(some 150), .mv (.t 149), none⟩,
   ⟨(some 151), .mv (.t 22), (some (150, true))⟩,
   ⟨(some 152), .bin .eq (.t 151) (.c (.i .i64 (.l 0))), (some (150, true))⟩,
   ⟨(some 153), .pick (.t 150) (.t 152) (.c .ff), none⟩,
   ⟨(some 154), .mv (.t 153), none⟩,
   ⟨(some 155), .mv (.t 21), (some (154, true))⟩,
   ⟨(some 156), .build [(.i .u16 (.l 0)), (.i .u32 (.l 0))] [(0, 1, (.c (.i .u16 (.l 3)))), (1, 1, (.c (.i .u32 (.l 2))))], (some (154, true))⟩,
   ⟨(some 157), .build [(.i .u16 (.l 0)), (.i .u32 (.l 0))] [(0, 1, (.c (.i .u16 (.l 4)))), (1, 1, (.c (.i .u32 (.l 100))))], (some (154, true))⟩,
   ⟨(some 158), .build [(.i .u16 (.l 0)), (.i .u32 (.l 0))] [(0, 1, (.c (.i .u16 (.l 9)))), (1, 1, (.c (.i .u32 (.l 1))))], (some (154, true))⟩,
   ⟨(some 159), .buildS 2 3 [(.i .u16 (.l 0)), (.i .u32 (.l 0))] [(0, (.t 156)), (1, (.t 157)), (2, (.t 158))], (some (154, true))⟩,
   ⟨(some 160), .call (.c (.fn (.func 16) [] [])) [(.t 155), (.t 159)], (some (154, true))⟩,
   ⟨(some 161), .pick (.t 154) (.t 160) (.c .ff), none⟩,
   ⟨(some 162), .mv (.t 161), none⟩,
   ⟨(some 163), .mv (.t 24), (some (162, true))⟩,
   ⟨(some 164), .bin .eq (.t 163) (.c (.i .i64 (.l 2))), (some (162, true))⟩,
   ⟨(some 165), .pick (.t 162) (.t 164) (.c .ff), none⟩,
   ⟨(some 166), .mv (.t 165), none⟩,
   ⟨(some 167), .load true 3 (.t 20), (some (166, true))⟩,
   ⟨(some 168), .call (.c (.fn (.func 17) [] [])) [(.t 167)], (some (166, true))⟩,
   ⟨(some 169), .pick (.t 166) (.t 168) (.c .ff), none⟩,
   ⟨(some 170), .mv (.t 169), none⟩,
   ⟨(some 171), .build [(.i .i64 (.l 0)), (.i .i64 (.l 0)), (.i .i64 (.l 0))] [], (some (170, true))⟩,
   ⟨(some 172), .call (.c (.fn (.func 17) [] [])) [(.t 171)], (some (170, true))⟩,
   ⟨(some 173), .not (.t 172), (some (170, true))⟩,
   ⟨(some 174), .pick (.t 170) (.t 173) (.c .ff), none⟩,
   ⟨(some 175), .mv (.t 174), none⟩,
   ⟨(some 176), .load true 9 (.t 1), (some (175, true))⟩,
   ⟨(some 177), .call (.c (.fn (.func 19) [] [])) [(.t 176)], (some (175, true))⟩,
   ⟨(some 178), .pick (.t 175) (.t 177) (.c .ff), none⟩,
   ⟨(some 179), .mv (.t 178), none⟩,
   ⟨(some 180), .build [.ff, (.i .i64 (.l 0)), (.i .i64 (.l 0)), (.i .i64 (.l 0)), (.i .i64 (.l 0)), .ff, .ff, (.i .i64 (.l 0)), (.i .i64 (.l 0))] [], (some (179, true))⟩,
   ⟨(some 181), .call (.c (.fn (.func 19) [] [])) [(.t 180)], (some (179, true))⟩,
   ⟨(some 182), .not (.t 181), (some (179, true))⟩,
   ⟨(some 183), .pick (.t 179) (.t 182) (.c .ff), none⟩,
   ⟨(some 184), .mv (.t 183), none⟩,
   ⟨(some 185), .call (.c (.fn (.func 21) [] [])) [], (some (184, true))⟩,
   ⟨(some 186), .load true 9 (.t 1), (some (184, true))⟩,
   ⟨(some 187), .call (.c (.fn (.func 23) [] [])) [(.t 185), (.t 186)], (some (184, true))⟩,
   ⟨(some 188), .bin .eq (.t 187) (.c (.i .i64 (.l (-65528)))), (some (184, true))⟩,
   ⟨(some 189), .pick (.t 184) (.t 188) (.c .ff), none⟩,
   ⟨(some 0), .mv (.t 189), none⟩] [[], [], [0, 1], [2], [3], [4, 3], [3, 5], [6, 3], [7], [8, 7], [9, 7], [7, 10], [11, 7], [12], [13, 12], [14, 12], [12, 15], [16, 12], [17], [18, 17], [17, 19], [20, 17], [21], [21], [22, 23, 21], [21, 24], [25, 21], [26], [27, 26], [26, 28], [29, 26], [30], [31, 30], [32, 30], [30, 33], [34, 30], [35], [35], [36, 37, 35], [35, 38], [39, 35], [40], [41, 40], [40, 42], [43, 40], [44], [44], [45, 46, 44], [44, 47], [48, 44], [49], [50, 49], [49, 51], [52, 49], [53], [54, 53], [53, 55], [56, 53], [57], [57, 58], [59, 57], [60], [61, 60], [60, 62], [63, 60], [64], [65, 64], [64, 66], [67, 64], [68], [68], [68], [68], [70, 71, 72, 68], [69, 73, 68, 68], [68, 74], [75, 74], [76], [77, 76], [76, 78], [79, 76], [80], [81, 80, 80], [80, 82], [83, 82], [84], [85, 84, 84], [86, 84], [84, 87], [88, 86], [89], [90, 89, 89], [89, 91], [92, 91], [93], [94, 93, 93], [95, 93], [93, 96], [97, 95], [98, 98], [98], [99, 100, 99, 98], [101, 98], [98, 102], [103, 101, 0, 1, 2, 3, 4, 5, 6, 7, 8, 9, 10, 11, 12, 13, 14, 15, 16, 17, 18, 19, 20, 21, 22, 23, 24, 25, 26, 27, 28, 29, 30, 31, 32, 33, 34, 35, 36, 37, 38, 39, 40, 41, 42, 43, 44, 45, 46, 47, 48, 49, 50, 51, 52, 53, 54, 55, 56, 57, 58, 59, 60, 61, 62, 63, 64, 65, 66, 67, 68, 69, 70, 71, 72, 73, 74, 75, 76, 77, 78, 79, 80, 81, 82, 83, 84, 85, 86, 87, 88, 89, 90, 91, 92, 93, 94, 95, 96, 97, 98, 99, 100, 101, 102, 103]] [1, 2, 3, 4, 5, 6, 8, 9, 11, 12, 15, 17, 19, 20, 21, 22, 24, 25, 86, 87, 88, 89, 90, 91, 92, 93, 94, 95, 96, 97, 98, 99, 100, 101, 102, 103, 104, 105, 106, 107, 108, 109, 110, 111, 112, 113, 114, 115, 116, 117, 118, 119, 120, 121, 122, 123, 124, 125, 126, 127, 128, 129, 130, 131, 132, 133, 134, 135, 136, 137, 138, 139, 140, 141, 142, 143, 144, 145, 146, 147, 148, 149, 150, 151, 152, 153, 154, 155, 156, 157, 158, 159, 160, 161, 162, 163, 164, 165, 166, 167, 168, 169, 170, 171, 172, 173, 174, 175, 176, 177, 178, 179, 180, 181, 182, 183, 184, 185, 186, 187, 188, 189])
 .ret)))))))))))))
theorem fn_causeylaw21_wakes : FnIs Try.prog 7 190 [.t 0] causeylaw21_wakes :=
  ⟨Try.f7, _, kl_causeylaw21_wakes, Try.func7, rfl, rfl, by kernel_rfl, by kernel_rfl, Try.call7⟩

def kl_setting_Take : Nat → List Nat := fun
  | 0 => [0]
  | 1 => [14]
  | 3 => [8, 15, 16, 17, 18, 19, 20, 21, 22, 23, 24, 25, 26, 27, 28, 29]
  | 4 => [30, 31, 32]
  | 5 => [33]
  | 6 => [10]
  | 7 => [10]
  | 8 => [2, 37, 38]
  | 9 => [1]
  | 11 => [43, 44]
  | 12 => [45, 46, 47, 48]
  | 13 => [12, 13, 49, 50, 51, 52, 53, 54, 55, 56]
  | 14 => [2, 58, 59]
  | 15 => [60]
  | 16 => [61, 62, 63, 64, 65]
  | 17 => [66, 67]
  | 18 => [2, 69, 70]
  | 19 => [7, 71, 72]
  | _ => []
def dead_setting_Take_0 : List Nat := [0, 1, 3, 6, 8, 10, 11, 12, 13, 14, 15, 16, 17, 18, 19, 20, 21, 22, 23, 24, 25, 26, 27, 28, 29, 30, 31, 32, 33, 34, 35, 36, 37, 38, 42, 43, 44, 45, 46, 47, 48, 49, 50, 51, 52, 53, 54, 55, 56, 57, 58, 59, 60, 61, 62, 63, 64, 65, 66, 67, 68, 69, 70, 71, 72] -- live: [2, 4, 5, 7, 9, 39, 40, 41]
def ord_setting_Take_0 : List (Nat × List Nat) := [(0, []), (1, [0]), (2, []), (3, []), (4, [])]
def ord_setting_Take_1 : List (Nat × List Nat) := [(0, []), (1, []), (2, []), (3, []), (4, [1]), (5, []), (6, [])]
def ord_setting_Take_2 : List (Nat × List Nat) := [(0, []), (1, [0]), (2, []), (3, []), (4, [])]
def setting_Take : IR :=
 (.seq (.reg [⟨(some 2), .box (.t 0), none⟩,
   ⟨(some 4), .alloc [.ff, (.i .i64 (.l 0)), (.i .i64 (.l 0)), (.i .i64 (.l 0)), (.i .i64 (.l 0)), .ff, .ff, (.i .i64 (.l 0)), (.i .i64 (.l 0))], none⟩,
   ⟨(some 5), .alloc [.ff, (.i .i64 (.l 0)), (.i .u32 (.l 0))], none⟩,
   ⟨(some 6), .mv (.c (.i .i64 (.l 0))), none⟩] [0])
 (.seq (.reg [⟨(some 14), .load true 9 (.t 2), none⟩,
   ⟨(some 7), .alloc [.ff, (.i .i64 (.l 0)), (.i .i64 (.l 0)), (.i .i64 (.l 0)), (.i .i64 (.l 0)), .ff, .ff, (.i .i64 (.l 0)), (.i .i64 (.l 0))], none⟩,
   ⟨none, .store 9 (.t 7) (.t 14), none⟩] [14])
 (.seq (.reg [⟨(some 8), .mv (.c (.fn (.func 26) [] [])), none⟩] [])
 (.seq (.reg [⟨(some 15), .mkM, none⟩,
   ⟨(some 16), .mv (.t 8), none⟩,
   ⟨(some 17), .fad 1 (.t 7), none⟩,
   ⟨(some 18), .call (.t 16) [(.t 17)], none⟩,
   ⟨none, .mupd ⟨false, [.ki]⟩ (.t 15) (.c (.i .u16 (.l 1))) (.t 18), none⟩,
   ⟨(some 19), .mv (.t 8), none⟩,
   ⟨(some 20), .fad 2 (.t 7), none⟩,
   ⟨(some 21), .call (.t 19) [(.t 20)], none⟩,
   ⟨none, .mupd ⟨false, [.ki]⟩ (.t 15) (.c (.i .u16 (.l 4))) (.t 21), none⟩,
   ⟨(some 22), .mv (.t 8), none⟩,
   ⟨(some 23), .fad 3 (.t 7), none⟩,
   ⟨(some 24), .call (.t 22) [(.t 23)], none⟩,
   ⟨none, .mupd ⟨false, [.ki]⟩ (.t 15) (.c (.i .u16 (.l 5))) (.t 24), none⟩,
   ⟨(some 25), .mv (.t 8), none⟩,
   ⟨(some 26), .fad 4 (.t 7), none⟩,
   ⟨(some 27), .call (.t 25) [(.t 26)], none⟩,
   ⟨none, .mupd ⟨false, [.ki]⟩ (.t 15) (.c (.i .u16 (.l 6))) (.t 27), none⟩,
   ⟨(some 28), .mkF (.func 28) [] [(.t 2), (.t 7)], none⟩,
   ⟨none, .mupd ⟨false, [.ki]⟩ (.t 15) (.c (.i .u16 (.l 9))) (.t 28), none⟩,
   ⟨(some 29), .mv (.t 15), none⟩,
   ⟨(some 9), .mv (.t 29), none⟩] [8, 15, 16, 17, 18, 19, 20, 21, 22, 23, 24, 25, 26, 27, 28, 29])
 (.seq (.reg [⟨(some 30), .load true 9 (.t 2), none⟩,
   ⟨(some 31), .call (.c (.fn (.func 19) [] [])) [(.t 30)], none⟩,
   ⟨(some 32), .not (.t 31), none⟩,
   ⟨(some 10), .alloc [.ff], none⟩,
   ⟨none, .store 1 (.t 10) (.t 32), none⟩] [30, 31, 32])
 (.seq (.seq (.reg [⟨(some 33), .mv (.t 1), none⟩,
   ⟨(some 34), .call (.c (.fn (.func 29) [] [])) [(.t 33)], none⟩] [33])
 (.block 0 (.rf (.t 34) [35]
   .skip
   (.block 1 (.reg [⟨none, .store 1 (.t 10) (.c .tt), none⟩] [10])))))
 (.seq (.seq (.reg [⟨(some 36), .load false 1 (.t 10), none⟩] [10])
 (.cond (.t 36)
  (.seq (.reg [⟨(some 37), .load true 9 (.t 2), none⟩,
    ⟨(some 38), .build [.ff, (.i .i64 (.l 0)), (.i .u32 (.l 0))] [], none⟩,
    ⟨none, .store 9 (.t 4) (.t 37), none⟩,
    ⟨none, .store 3 (.t 5) (.t 38), none⟩,
    ⟨(some 6), .mv (.c (.i .i64 (.l 2))), none⟩] [2, 37, 38])
  .ret)
  .skip))
 (.seq (.seq (.reg [⟨(some 39), .mv (.t 1), none⟩,
   ⟨(some 40), .len false (.t 39), none⟩,
   ⟨(some 41), .mv (.c (.i .i64 (.l 0))), none⟩] [1])
 (.block 2 (.loop (.seq (.reg [⟨(some 42), .bin .lt (.t 41) (.t 40), none⟩] [])
   (.seq (.cond (.t 42)
    .skip
    (.exit 2))
   (.seq (.block 3 (.seq (.reg [⟨(some 43), .iadS 2 (.t 39) (.t 41), none⟩,
      ⟨(some 44), .load true 2 (.t 43), none⟩,
      ⟨(some 12), .alloc [(.i .u16 (.l 0)), (.i .u32 (.l 0))], none⟩,
      ⟨none, .store 2 (.t 12) (.t 44), none⟩] [43, 44])
    (.seq (.reg [⟨(some 45), .mv (.t 9), none⟩,
      ⟨(some 46), .fad 0 (.t 12), none⟩,
      ⟨(some 47), .load false 1 (.t 46), none⟩,
      ⟨(some 48), .look ⟨false, [.ki]⟩ (.re .nilFunc) false (.t 45) (.t 47), none⟩,
      ⟨(some 13), .mv (.t 48), none⟩] [45, 46, 47, 48])
    (.seq (.reg [⟨(some 49), .mv (.t 13), none⟩,
      ⟨(some 50), .eqN false true (.t 49) (.c (.re .nilFunc)), none⟩,
      ⟨(some 51), .mv (.t 50), none⟩,
      ⟨(some 52), .mv (.t 13), (some (51, true))⟩,
      ⟨(some 53), .fad 1 (.t 12), (some (51, true))⟩,
      ⟨(some 54), .load false 1 (.t 53), (some (51, true))⟩,
      ⟨(some 55), .call (.t 52) [(.t 54)], (some (51, true))⟩,
      ⟨(some 56), .not (.t 55), (some (51, true))⟩,
      ⟨(some 57), .pick (.t 51) (.t 56) (.c .ff), none⟩] [12, 13, 49, 50, 51, 52, 53, 54, 55, 56])
    (.cond (.t 57)
     (.seq (.draw [⟨(some 58), .load true 9 (.t 2), none⟩,
       ⟨(some 59), .call (.c (.fn (.func 30) [] [])) [(.c (.i .u32 (.l 1)))], none⟩,
       ⟨none, .store 9 (.t 4) (.t 58), none⟩,
       ⟨none, .store 3 (.t 5) (.t 59), none⟩,
       ⟨(some 6), .mv (.c (.i .i64 (.l 0))), none⟩] [[], [], [0, 1, 0], [1, 2, 0, 1, 2], [3, 0, 1, 2, 3]] [2, 58, 59])
     .ret)
     .skip)))))
   (.reg [⟨(some 60), .bin .add (.t 41) (.c (.i .i64 (.l 1))), none⟩,
     ⟨(some 41), .mv (.t 60), none⟩] [60])))))))
 (.seq (.seq (.draw [⟨(some 61), .fad 7 (.t 2), none⟩,
   ⟨(some 62), .load false 1 (.t 61), none⟩,
   ⟨(some 63), .bin .add (.t 62) (.c (.i .i64 (.l 1))), none⟩,
   ⟨(some 64), .fad 0 (.t 7), none⟩,
   ⟨none, .store 1 (.t 64) (.c .tt), none⟩,
   ⟨(some 65), .fad 7 (.t 7), none⟩,
   ⟨none, .store 1 (.t 65) (.t 63), none⟩] [[], [0], [1], [], [3], [0, 1, 2, 3, 4], [5, 2, 4, 0, 1, 2, 3, 4]] [61, 62, 63, 64, 65])
 (.seq (.reg [⟨(some 66), .fad 7 (.t 7), none⟩,
   ⟨(some 67), .load false 1 (.t 66), none⟩,
   ⟨(some 68), .bin .gt (.t 67) (.c (.i .i64 (.l 64))), none⟩] [66, 67])
 (.cond (.t 68)
  (.seq (.draw [⟨(some 69), .load true 9 (.t 2), none⟩,
    ⟨(some 70), .call (.c (.fn (.func 30) [] [])) [(.c (.i .u32 (.l 11)))], none⟩,
    ⟨none, .store 9 (.t 4) (.t 69), none⟩,
    ⟨none, .store 3 (.t 5) (.t 70), none⟩,
    ⟨(some 6), .mv (.c (.i .i64 (.l 0))), none⟩] [[], [], [0, 1, 0], [1, 2, 0, 1, 2], [3, 0, 1, 2, 3]] [2, 69, 70])
  .ret)
  .skip)))
 (.seq (.reg [⟨(some 71), .load true 9 (.t 7), none⟩,
   ⟨(some 72), .build [.ff, (.i .i64 (.l 0)), (.i .u32 (.l 0))] [], none⟩,
   ⟨none, .store 9 (.t 4) (.t 71), none⟩,
   ⟨none, .store 3 (.t 5) (.t 72), none⟩,
   ⟨(some 6), .mv (.c (.i .i64 (.l 0))), none⟩] [7, 71, 72])
 .ret))))))))))
theorem fn_setting_Take : FnIs Try.prog 8 73 [.c 4 true 9, .c 5 true 3, .t 6] setting_Take :=
  ⟨Try.f8, _, kl_setting_Take, Try.func8, rfl, rfl, by kernel_rfl, by kernel_rfl, Try.call8⟩

def kl_causeyref21_Take : Nat → List Nat := fun
  | 0 => [0, 6]
  | 1 => [10, 11, 12, 13, 14, 15, 16]
  | 2 => [2, 18, 19]
  | 3 => [20]
  | 5 => [21, 22, 23]
  | 6 => [25, 26]
  | 7 => [27, 28, 29, 30, 31, 32]
  | 8 => [33, 34, 35, 36]
  | 9 => [39]
  | 10 => [9, 40, 41]
  | 11 => [43]
  | 12 => [9, 44, 45]
  | 13 => [47]
  | 14 => [9, 48, 49]
  | 15 => [51]
  | 16 => [9, 52, 53]
  | 17 => [37, 55]
  | 18 => [56, 57, 58, 59, 60, 61, 62, 63]
  | 19 => [2, 65, 66]
  | 20 => [67, 68]
  | 21 => [9, 70, 71, 72, 73]
  | 22 => [74]
  | 23 => [75, 76, 77, 78]
  | 24 => [79, 80]
  | 25 => [2, 82, 83]
  | 26 => [7, 84, 85]
  | _ => []
def dead_causeyref21_Take_0 : List Nat := [0, 3, 6, 9, 10, 11, 12, 13, 14, 15, 16, 17, 18, 19, 20, 21, 22, 23, 24, 25, 26, 27, 28, 29, 30, 31, 32, 33, 34, 35, 36, 37, 38, 39, 40, 41, 42, 43, 44, 45, 46, 47, 48, 49, 50, 51, 52, 53, 54, 55, 56, 57, 58, 59, 60, 61, 62, 63, 64, 65, 66, 67, 68, 69, 70, 71, 72, 73, 74, 75, 76, 77, 78, 79, 80, 81, 82, 83, 84, 85] -- live: [1, 2, 4, 5, 7, 8]
def causeyref21_Take : IR :=
 (.seq (.reg [⟨(some 2), .box (.t 0), none⟩,
   ⟨(some 4), .alloc [.ff, (.i .i64 (.l 0)), (.i .i64 (.l 0)), (.i .i64 (.l 0)), (.i .i64 (.l 0)), .ff, .ff, (.i .i64 (.l 0)), (.i .i64 (.l 0))], none⟩,
   ⟨(some 5), .alloc [.ff, (.i .i64 (.l 0)), (.i .u32 (.l 0))], none⟩,
   ⟨(some 6), .mv (.c (.i .i64 (.l 0))), none⟩] [0, 6])
 (.seq (.seq (.reg [⟨(some 10), .load true 9 (.t 2), none⟩,
   ⟨(some 11), .call (.c (.fn (.func 20) [] [])) [(.t 10)], none⟩,
   ⟨(some 12), .not (.t 11), none⟩,
   ⟨(some 13), .mv (.t 12), none⟩,
   ⟨(some 14), .mv (.t 1), (some (13, false))⟩,
   ⟨(some 15), .call (.c (.fn (.func 31) [] [])) [(.t 14)], (some (13, false))⟩,
   ⟨(some 16), .not (.t 15), (some (13, false))⟩,
   ⟨(some 17), .pick (.t 13) (.c .tt) (.t 16), none⟩] [10, 11, 12, 13, 14, 15, 16])
 (.cond (.t 17)
  (.seq (.reg [⟨(some 18), .load true 9 (.t 2), none⟩,
    ⟨(some 19), .build [.ff, (.i .i64 (.l 0)), (.i .u32 (.l 0))] [], none⟩,
    ⟨none, .store 9 (.t 4) (.t 18), none⟩,
    ⟨none, .store 3 (.t 5) (.t 19), none⟩,
    ⟨(some 6), .mv (.c (.i .i64 (.l 2))), none⟩] [2, 18, 19])
  .ret)
  .skip))
 (.seq (.reg [⟨(some 20), .load true 9 (.t 2), none⟩,
   ⟨(some 7), .alloc [.ff, (.i .i64 (.l 0)), (.i .i64 (.l 0)), (.i .i64 (.l 0)), (.i .i64 (.l 0)), .ff, .ff, (.i .i64 (.l 0)), (.i .i64 (.l 0))], none⟩,
   ⟨none, .store 9 (.t 7) (.t 20), none⟩] [20])
 (.seq (.seq (.reg [⟨(some 8), .mv (.c (.i .i64 (.l 0))), none⟩] [])
 (.block 0 (.loop (.seq (.seq (.reg [⟨(some 21), .mv (.t 8), none⟩,
     ⟨(some 22), .mv (.t 1), none⟩,
     ⟨(some 23), .len false (.t 22), none⟩,
     ⟨(some 24), .bin .lt (.t 21) (.t 23), none⟩] [21, 22, 23])
   (.cond (.t 24)
    .skip
    (.exit 0)))
   (.seq (.block 1 (.seq (.reg [⟨(some 27), .mv (.t 1), none⟩,
      ⟨(some 28), .mv (.t 8), none⟩,
      ⟨(some 29), .iadS 2 (.t 27) (.t 28), none⟩,
      ⟨(some 30), .fad 1 (.t 29), none⟩,
      ⟨(some 31), .load false 1 (.t 30), none⟩,
      ⟨(some 32), .cv .i64 (.t 31), none⟩,
      ⟨(some 9), .mv (.t 32), none⟩] [27, 28, 29, 30, 31, 32])
    (.seq (.reg [⟨(some 33), .mv (.t 1), none⟩,
      ⟨(some 34), .mv (.t 8), none⟩,
      ⟨(some 35), .iadS 2 (.t 33) (.t 34), none⟩,
      ⟨(some 36), .fad 0 (.t 35), none⟩,
      ⟨(some 37), .load false 1 (.t 36), none⟩] [33, 34, 35, 36])
    (.block 2 (.seq (.reg [⟨(some 39), .bin .eq (.t 37) (.c (.i .u16 (.l 1))), none⟩,
       ⟨(some 38), .mv (.t 39), none⟩] [39])
     (.cond (.t 38)
      (.reg [⟨(some 40), .mv (.t 9), none⟩,
        ⟨(some 41), .fad 1 (.t 7), none⟩,
        ⟨none, .store 1 (.t 41) (.t 40), none⟩] [9, 40, 41])
      (.seq (.reg [⟨(some 43), .bin .eq (.t 37) (.c (.i .u16 (.l 4))), none⟩,
        ⟨(some 42), .mv (.t 43), none⟩] [43])
      (.cond (.t 42)
       (.reg [⟨(some 44), .mv (.t 9), none⟩,
         ⟨(some 45), .fad 2 (.t 7), none⟩,
         ⟨none, .store 1 (.t 45) (.t 44), none⟩] [9, 44, 45])
       (.seq (.reg [⟨(some 47), .bin .eq (.t 37) (.c (.i .u16 (.l 5))), none⟩,
         ⟨(some 46), .mv (.t 47), none⟩] [47])
       (.cond (.t 46)
        (.reg [⟨(some 48), .mv (.t 9), none⟩,
          ⟨(some 49), .fad 3 (.t 7), none⟩,
          ⟨none, .store 1 (.t 49) (.t 48), none⟩] [9, 48, 49])
        (.seq (.reg [⟨(some 51), .bin .eq (.t 37) (.c (.i .u16 (.l 6))), none⟩,
          ⟨(some 50), .mv (.t 51), none⟩] [51])
        (.cond (.t 50)
         (.reg [⟨(some 52), .mv (.t 9), none⟩,
           ⟨(some 53), .fad 4 (.t 7), none⟩,
           ⟨none, .store 1 (.t 53) (.t 52), none⟩] [9, 52, 53])
         (.seq (.reg [⟨(some 55), .bin .eq (.t 37) (.c (.i .u16 (.l 9))), none⟩,
           ⟨(some 54), .mv (.t 55), none⟩] [37, 55])
         (.cond (.t 54)
          (.seq (.seq (.reg [⟨(some 56), .fad 0 (.t 2), none⟩,
            ⟨(some 57), .load false 1 (.t 56), none⟩,
            ⟨(some 58), .mv (.t 57), none⟩,
            ⟨(some 59), .mv (.t 9), (some (58, true))⟩,
            ⟨(some 60), .bin .ne (.t 59) (.c (.i .i64 (.l 0))), (some (58, true))⟩,
            ⟨(some 61), .fad 6 (.t 2), (some (58, true))⟩,
            ⟨(some 62), .load false 1 (.t 61), (some (58, true))⟩,
            ⟨(some 63), .eqA ⟨false, [.kb]⟩ true (.t 60) (.t 62), (some (58, true))⟩,
            ⟨(some 64), .pick (.t 58) (.t 63) (.c .ff), none⟩] [56, 57, 58, 59, 60, 61, 62, 63])
          (.cond (.t 64)
           (.seq (.reg [⟨(some 65), .load true 9 (.t 2), none⟩,
             ⟨(some 66), .build [.ff, (.i .i64 (.l 0)), (.i .u32 (.l 0))] [(0, 1, (.c .tt)), (2, 1, (.c (.i .u32 (.l 1))))], none⟩,
             ⟨none, .store 9 (.t 4) (.t 65), none⟩,
             ⟨none, .store 3 (.t 5) (.t 66), none⟩,
             ⟨(some 6), .mv (.c (.i .i64 (.l 0))), none⟩] [2, 65, 66])
           .ret)
           .skip))
          (.seq (.reg [⟨(some 67), .fad 0 (.t 2), none⟩,
            ⟨(some 68), .load false 1 (.t 67), none⟩,
            ⟨(some 69), .not (.t 68), none⟩] [67, 68])
          (.cond (.t 69)
           (.reg [⟨(some 70), .mv (.t 9), none⟩,
             ⟨(some 71), .bin .ne (.t 70) (.c (.i .i64 (.l 0))), none⟩,
             ⟨(some 72), .fad 5 (.t 7), none⟩,
             ⟨none, .store 1 (.t 72) (.c .tt), none⟩,
             ⟨(some 73), .fad 6 (.t 7), none⟩,
             ⟨none, .store 1 (.t 73) (.t 71), none⟩] [9, 70, 71, 72, 73])
           .skip)))
          .skip))))))))))))))
   (.reg [⟨(some 25), .mv (.t 8), none⟩,
     ⟨(some 26), .bin .add (.t 25) (.c (.i .i64 (.l 1))), none⟩,
     ⟨(some 8), .mv (.t 26), none⟩] [25, 26]))))))
 (.seq (.reg [⟨(some 74), .fad 0 (.t 7), none⟩,
   ⟨none, .store 1 (.t 74) (.c .tt), none⟩] [74])
 (.seq (.reg [⟨(some 75), .fad 7 (.t 7), none⟩,
   ⟨(some 76), .load false 1 (.t 75), none⟩,
   ⟨(some 77), .bin .add (.t 76) (.c (.i .i64 (.l 1))), none⟩,
   ⟨(some 78), .fad 7 (.t 7), none⟩,
   ⟨none, .store 1 (.t 78) (.t 77), none⟩] [75, 76, 77, 78])
 (.seq (.seq (.reg [⟨(some 79), .fad 7 (.t 7), none⟩,
   ⟨(some 80), .load false 1 (.t 79), none⟩,
   ⟨(some 81), .bin .gt (.t 80) (.c (.i .i64 (.l 64))), none⟩] [79, 80])
 (.cond (.t 81)
  (.seq (.reg [⟨(some 82), .load true 9 (.t 2), none⟩,
    ⟨(some 83), .build [.ff, (.i .i64 (.l 0)), (.i .u32 (.l 0))] [(0, 1, (.c .tt)), (2, 1, (.c (.i .u32 (.l 11))))], none⟩,
    ⟨none, .store 9 (.t 4) (.t 82), none⟩,
    ⟨none, .store 3 (.t 5) (.t 83), none⟩,
    ⟨(some 6), .mv (.c (.i .i64 (.l 0))), none⟩] [2, 82, 83])
  .ret)
  .skip))
 (.seq (.reg [⟨(some 84), .load true 9 (.t 7), none⟩,
   ⟨(some 85), .build [.ff, (.i .i64 (.l 0)), (.i .u32 (.l 0))] [], none⟩,
   ⟨none, .store 9 (.t 4) (.t 84), none⟩,
   ⟨none, .store 3 (.t 5) (.t 85), none⟩,
   ⟨(some 6), .mv (.c (.i .i64 (.l 0))), none⟩] [7, 84, 85])
 .ret))))))))
theorem fn_causeyref21_Take : FnIs Try.prog 9 86 [.c 4 true 9, .c 5 true 3, .t 6] causeyref21_Take :=
  ⟨Try.f9, _, kl_causeyref21_Take, Try.func9, rfl, rfl, by kernel_rfl, by kernel_rfl, Try.call9⟩

def kl_setting_Ack : Nat → List Nat := fun
  | 0 => [0]
  | 1 => [5]
  | 2 => [6, 7, 8, 9]
  | 3 => [11, 12, 13]
  | 5 => [1, 15, 16, 17]
  | 6 => [18]
  | 7 => [19, 20, 21]
  | _ => []
def ord_setting_Ack_0 : List (Nat × List Nat) := [(0, []), (1, []), (2, []), (3, [1]), (4, []), (5, [])]
def setting_Ack : IR :=
 (.seq (.reg [⟨(some 1), .box (.t 0), none⟩,
   ⟨(some 2), .alloc [.ff, (.i .i64 (.l 0)), (.i .i64 (.l 0)), (.i .i64 (.l 0)), (.i .i64 (.l 0)), .ff, .ff, (.i .i64 (.l 0)), (.i .i64 (.l 0))], none⟩,
   ⟨(some 3), .alloc [.ff, (.i .i64 (.l 0)), (.i .u32 (.l 0))], none⟩,
   ⟨(some 4), .mv (.c (.i .i64 (.l 0))), none⟩] [0])
 (.seq (.reg [⟨(some 5), .load true 9 (.t 1), none⟩,
   ⟨none, .store 9 (.t 2) (.t 5), none⟩] [5])
 (.seq (.block 0 (.seq (.reg [⟨(some 11), .load true 9 (.t 1), none⟩,
    ⟨(some 12), .call (.c (.fn (.func 19) [] [])) [(.t 11)], none⟩,
    ⟨(some 13), .not (.t 12), none⟩,
    ⟨(some 10), .mv (.t 13), none⟩] [11, 12, 13])
  (.cond (.t 10)
   (.reg [⟨(some 4), .mv (.c (.i .i64 (.l 2))), none⟩] [])
   (.seq (.reg [⟨(some 15), .fad 8 (.t 1), none⟩,
     ⟨(some 16), .load false 1 (.t 15), none⟩,
     ⟨(some 17), .bin .eq (.t 16) (.c (.i .i64 (.l 0))), none⟩,
     ⟨(some 14), .mv (.t 17), none⟩] [1, 15, 16, 17])
   (.cond (.t 14)
    (.reg [⟨(some 18), .call (.c (.fn (.func 30) [] [])) [(.c (.i .u32 (.l 1)))], none⟩,
      ⟨none, .store 3 (.t 3) (.t 18), none⟩] [18])
    (.reg [⟨(some 6), .fad 8 (.t 2), none⟩,
      ⟨(some 7), .load false 1 (.t 6), none⟩,
      ⟨(some 8), .bin .sub (.t 7) (.c (.i .i64 (.l 1))), none⟩,
      ⟨(some 9), .fad 8 (.t 2), none⟩,
      ⟨none, .store 1 (.t 9) (.t 8), none⟩] [6, 7, 8, 9]))))))
 (.seq (.draw [⟨(some 19), .load true 9 (.t 2), none⟩,
   ⟨(some 20), .load true 3 (.t 3), none⟩,
   ⟨(some 21), .mv (.t 4), none⟩,
   ⟨none, .store 9 (.t 2) (.t 19), none⟩,
   ⟨none, .store 3 (.t 3) (.t 20), none⟩,
   ⟨(some 4), .mv (.t 21), none⟩] [[], [], [], [0, 0], [1, 3, 0, 1, 3], [2, 4, 0, 1, 2, 3, 4]] [19, 20, 21])
 .ret))))
theorem fn_setting_Ack : FnIs Try.prog 10 22 [.c 2 true 9, .c 3 true 3, .t 4] setting_Ack :=
  ⟨Try.f10, _, kl_setting_Ack, Try.func10, rfl, rfl, by kernel_rfl, by kernel_rfl, Try.call10⟩

def kl_causeyref21_Ack : Nat → List Nat := fun
  | 0 => [0, 4]
  | 1 => [5, 6]
  | 2 => [1, 8, 9]
  | 3 => [10, 11]
  | 4 => [1, 13, 14]
  | 5 => [15, 16, 17, 18]
  | 6 => [1, 19, 20]
  | _ => []
def causeyref21_Ack : IR :=
 (.seq (.reg [⟨(some 1), .box (.t 0), none⟩,
   ⟨(some 2), .alloc [.ff, (.i .i64 (.l 0)), (.i .i64 (.l 0)), (.i .i64 (.l 0)), (.i .i64 (.l 0)), .ff, .ff, (.i .i64 (.l 0)), (.i .i64 (.l 0))], none⟩,
   ⟨(some 3), .alloc [.ff, (.i .i64 (.l 0)), (.i .u32 (.l 0))], none⟩,
   ⟨(some 4), .mv (.c (.i .i64 (.l 0))), none⟩] [0, 4])
 (.seq (.seq (.reg [⟨(some 5), .load true 9 (.t 1), none⟩,
   ⟨(some 6), .call (.c (.fn (.func 20) [] [])) [(.t 5)], none⟩,
   ⟨(some 7), .not (.t 6), none⟩] [5, 6])
 (.cond (.t 7)
  (.seq (.reg [⟨(some 8), .load true 9 (.t 1), none⟩,
    ⟨(some 9), .build [.ff, (.i .i64 (.l 0)), (.i .u32 (.l 0))] [], none⟩,
    ⟨none, .store 9 (.t 2) (.t 8), none⟩,
    ⟨none, .store 3 (.t 3) (.t 9), none⟩,
    ⟨(some 4), .mv (.c (.i .i64 (.l 2))), none⟩] [1, 8, 9])
  .ret)
  .skip))
 (.seq (.seq (.reg [⟨(some 10), .fad 8 (.t 1), none⟩,
   ⟨(some 11), .load false 1 (.t 10), none⟩,
   ⟨(some 12), .bin .eq (.t 11) (.c (.i .i64 (.l 0))), none⟩] [10, 11])
 (.cond (.t 12)
  (.seq (.reg [⟨(some 13), .load true 9 (.t 1), none⟩,
    ⟨(some 14), .build [.ff, (.i .i64 (.l 0)), (.i .u32 (.l 0))] [(0, 1, (.c .tt)), (2, 1, (.c (.i .u32 (.l 1))))], none⟩,
    ⟨none, .store 9 (.t 2) (.t 13), none⟩,
    ⟨none, .store 3 (.t 3) (.t 14), none⟩,
    ⟨(some 4), .mv (.c (.i .i64 (.l 0))), none⟩] [1, 13, 14])
  .ret)
  .skip))
 (.seq (.reg [⟨(some 15), .fad 8 (.t 1), none⟩,
   ⟨(some 16), .load false 1 (.t 15), none⟩,
   ⟨(some 17), .bin .sub (.t 16) (.c (.i .i64 (.l 1))), none⟩,
   ⟨(some 18), .fad 8 (.t 1), none⟩,
   ⟨none, .store 1 (.t 18) (.t 17), none⟩] [15, 16, 17, 18])
 (.seq (.reg [⟨(some 19), .load true 9 (.t 1), none⟩,
   ⟨(some 20), .build [.ff, (.i .i64 (.l 0)), (.i .u32 (.l 0))] [], none⟩,
   ⟨none, .store 9 (.t 2) (.t 19), none⟩,
   ⟨none, .store 3 (.t 3) (.t 20), none⟩,
   ⟨(some 4), .mv (.c (.i .i64 (.l 0))), none⟩] [1, 19, 20])
 .ret)))))
theorem fn_causeyref21_Ack : FnIs Try.prog 11 21 [.c 2 true 9, .c 3 true 3, .t 4] causeyref21_Ack :=
  ⟨Try.f11, _, kl_causeyref21_Ack, Try.func11, rfl, rfl, by kernel_rfl, by kernel_rfl, Try.call11⟩

def kl_setting_Paid : Nat → List Nat := fun
  | 0 => [0, 3]
  | 1 => [4, 5, 6, 7, 8, 9, 10]
  | 2 => [1, 12]
  | 3 => [13, 14, 15, 16]
  | 4 => [1, 17]
  | _ => []
def setting_Paid : IR :=
 (.seq (.reg [⟨(some 1), .box (.t 0), none⟩,
   ⟨(some 2), .alloc [.ff, (.i .i64 (.l 0)), (.i .i64 (.l 0)), (.i .i64 (.l 0)), (.i .i64 (.l 0)), .ff, .ff, (.i .i64 (.l 0)), (.i .i64 (.l 0))], none⟩,
   ⟨(some 3), .mv (.c .ff), none⟩] [0, 3])
 (.seq (.seq (.reg [⟨(some 4), .fad 7 (.t 1), none⟩,
   ⟨(some 5), .load false 1 (.t 4), none⟩,
   ⟨(some 6), .bin .lt (.t 5) (.c (.i .i64 (.l 1))), none⟩,
   ⟨(some 7), .mv (.t 6), none⟩,
   ⟨(some 8), .load true 9 (.t 1), (some (7, false))⟩,
   ⟨(some 9), .call (.c (.fn (.func 19) [] [])) [(.t 8)], (some (7, false))⟩,
   ⟨(some 10), .not (.t 9), (some (7, false))⟩,
   ⟨(some 11), .pick (.t 7) (.c .tt) (.t 10), none⟩] [4, 5, 6, 7, 8, 9, 10])
 (.cond (.t 11)
  (.seq (.reg [⟨(some 12), .load true 9 (.t 1), none⟩,
    ⟨none, .store 9 (.t 2) (.t 12), none⟩,
    ⟨(some 3), .mv (.c .ff), none⟩] [1, 12])
  .ret)
  .skip))
 (.seq (.reg [⟨(some 13), .fad 7 (.t 1), none⟩,
   ⟨(some 14), .load false 1 (.t 13), none⟩,
   ⟨(some 15), .bin .sub (.t 14) (.c (.i .i64 (.l 1))), none⟩,
   ⟨(some 16), .fad 7 (.t 1), none⟩,
   ⟨none, .store 1 (.t 16) (.t 15), none⟩] [13, 14, 15, 16])
 (.seq (.reg [⟨(some 17), .load true 9 (.t 1), none⟩,
   ⟨none, .store 9 (.t 2) (.t 17), none⟩,
   ⟨(some 3), .mv (.c .tt), none⟩] [1, 17])
 .ret))))
theorem fn_setting_Paid : FnIs Try.prog 12 18 [.c 2 true 9, .t 3] setting_Paid :=
  ⟨Try.f12, _, kl_setting_Paid, Try.func12, rfl, rfl, by kernel_rfl, by kernel_rfl, Try.call12⟩

def kl_causeyref21_Paid : Nat → List Nat := fun
  | 0 => [0, 3]
  | 1 => [4, 5, 6, 7, 8, 9, 10]
  | 2 => [1, 12]
  | 3 => [13, 14, 15, 16]
  | 4 => [1, 17]
  | _ => []
def causeyref21_Paid : IR :=
 (.seq (.reg [⟨(some 1), .box (.t 0), none⟩,
   ⟨(some 2), .alloc [.ff, (.i .i64 (.l 0)), (.i .i64 (.l 0)), (.i .i64 (.l 0)), (.i .i64 (.l 0)), .ff, .ff, (.i .i64 (.l 0)), (.i .i64 (.l 0))], none⟩,
   ⟨(some 3), .mv (.c .ff), none⟩] [0, 3])
 (.seq (.seq (.reg [⟨(some 4), .load true 9 (.t 1), none⟩,
   ⟨(some 5), .call (.c (.fn (.func 20) [] [])) [(.t 4)], none⟩,
   ⟨(some 6), .not (.t 5), none⟩,
   ⟨(some 7), .mv (.t 6), none⟩,
   ⟨(some 8), .fad 7 (.t 1), (some (7, false))⟩,
   ⟨(some 9), .load false 1 (.t 8), (some (7, false))⟩,
   ⟨(some 10), .bin .eq (.t 9) (.c (.i .i64 (.l 0))), (some (7, false))⟩,
   ⟨(some 11), .pick (.t 7) (.c .tt) (.t 10), none⟩] [4, 5, 6, 7, 8, 9, 10])
 (.cond (.t 11)
  (.seq (.reg [⟨(some 12), .load true 9 (.t 1), none⟩,
    ⟨none, .store 9 (.t 2) (.t 12), none⟩,
    ⟨(some 3), .mv (.c .ff), none⟩] [1, 12])
  .ret)
  .skip))
 (.seq (.reg [⟨(some 13), .fad 7 (.t 1), none⟩,
   ⟨(some 14), .load false 1 (.t 13), none⟩,
   ⟨(some 15), .bin .sub (.t 14) (.c (.i .i64 (.l 1))), none⟩,
   ⟨(some 16), .fad 7 (.t 1), none⟩,
   ⟨none, .store 1 (.t 16) (.t 15), none⟩] [13, 14, 15, 16])
 (.seq (.reg [⟨(some 17), .load true 9 (.t 1), none⟩,
   ⟨none, .store 9 (.t 2) (.t 17), none⟩,
   ⟨(some 3), .mv (.c .tt), none⟩] [1, 17])
 .ret))))
theorem fn_causeyref21_Paid : FnIs Try.prog 13 18 [.c 2 true 9, .t 3] causeyref21_Paid :=
  ⟨Try.f13, _, kl_causeyref21_Paid, Try.func13, rfl, rfl, by kernel_rfl, by kernel_rfl, Try.call13⟩

def kl_setting_Ours : Nat → List Nat := fun
  | 0 => [0, 2, 3]
  | 1 => [5, 6]
  | 4 => [1, 4, 8, 9, 10, 11, 12, 13, 14, 15, 16, 17, 18]
  | _ => []
def ord_setting_Ours_0 : List (Nat × List Nat) := [(0, []), (1, []), (2, []), (4, []), (5, []), (6, []), (8, []), (3, [6]), (7, []), (9, []), (10, []), (11, []), (12, [])]
def setting_Ours : IR :=
 (.seq (.reg [⟨(some 1), .box (.t 0), none⟩,
   ⟨(some 2), .mv (.c (.re (.slice none 0 0))), none⟩,
   ⟨(some 3), .mv (.c (.i .i64 (.l 0))), none⟩] [0, 2, 3])
 (.seq (.seq (.reg [⟨(some 5), .load true 3 (.t 1), none⟩,
   ⟨(some 6), .call (.c (.fn (.func 17) [] [])) [(.t 5)], none⟩,
   ⟨(some 7), .not (.t 6), none⟩] [5, 6])
 (.cond (.t 7)
  (.seq (.reg [⟨(some 2), .mv (.c (.re (.slice none 0 0))), none⟩,
    ⟨(some 3), .mv (.c (.i .i64 (.l 2))), none⟩] [])
  .ret)
  .skip))
 (.seq (.reg [⟨(some 4), .mv (.c (.fn (.func 32) [] [])), none⟩] [])
 (.seq (.draw [⟨(some 8), .mv (.t 4), none⟩,
   ⟨(some 9), .fad 0 (.t 1), none⟩,
   ⟨(some 10), .load false 1 (.t 9), none⟩,
   ⟨(some 11), .call (.t 8) [(.c (.i .u16 (.l 3))), (.t 10)], none⟩,
   ⟨(some 12), .mv (.t 4), none⟩,
   ⟨(some 13), .fad 1 (.t 1), none⟩,
   ⟨(some 14), .load false 1 (.t 13), none⟩,
   ⟨(some 15), .call (.t 12) [(.c (.i .u16 (.l 4))), (.t 14)], none⟩,
   ⟨(some 16), .mv (.t 4), none⟩,
   ⟨(some 17), .call (.t 16) [(.c (.i .u16 (.l 9))), (.c (.i .i64 (.l 1)))], none⟩,
   ⟨(some 18), .buildS 2 3 [(.i .u16 (.l 0)), (.i .u32 (.l 0))] [(0, (.t 11)), (1, (.t 15)), (2, (.t 17))], none⟩,
   ⟨(some 2), .mv (.t 18), none⟩,
   ⟨(some 3), .mv (.c (.i .i64 (.l 0))), none⟩] [[], [], [1], [0, 2], [], [], [5], [4, 6, 3], [], [8, 7], [3, 7, 9], [10, 9, 0, 1, 2, 3, 4, 5, 6, 7, 8, 9, 10], [11, 0, 1, 2, 3, 4, 5, 6, 7, 8, 9, 10, 11]] [1, 4, 8, 9, 10, 11, 12, 13, 14, 15, 16, 17, 18])
 .ret))))
theorem fn_setting_Ours : FnIs Try.prog 14 19 [.t 2, .t 3] setting_Ours :=
  ⟨Try.f14, _, kl_setting_Ours, Try.func14, rfl, rfl, by kernel_rfl, by kernel_rfl, Try.call14⟩

def kl_causeyref21_Ours : Nat → List Nat := fun
  | 0 => [0, 2, 3]
  | 1 => [4, 5]
  | 3 => [1, 7, 8, 9, 10, 11, 12, 13, 14, 15, 16]
  | _ => []
def causeyref21_Ours : IR :=
 (.seq (.reg [⟨(some 1), .box (.t 0), none⟩,
   ⟨(some 2), .mv (.c (.re (.slice none 0 0))), none⟩,
   ⟨(some 3), .mv (.c (.i .i64 (.l 0))), none⟩] [0, 2, 3])
 (.seq (.seq (.reg [⟨(some 4), .load true 3 (.t 1), none⟩,
   ⟨(some 5), .call (.c (.fn (.func 18) [] [])) [(.t 4)], none⟩,
   ⟨(some 6), .not (.t 5), none⟩] [4, 5])
 (.cond (.t 6)
  (.seq (.reg [⟨(some 2), .mv (.c (.re (.slice none 0 0))), none⟩,
    ⟨(some 3), .mv (.c (.i .i64 (.l 2))), none⟩] [])
  .ret)
  .skip))
 (.seq (.reg [⟨(some 7), .fad 0 (.t 1), none⟩,
   ⟨(some 8), .load false 1 (.t 7), none⟩,
   ⟨(some 9), .cv .u32 (.t 8), none⟩,
   ⟨(some 10), .build [(.i .u16 (.l 0)), (.i .u32 (.l 0))] [(0, 1, (.c (.i .u16 (.l 3)))), (1, 1, (.t 9))], none⟩,
   ⟨(some 11), .fad 1 (.t 1), none⟩,
   ⟨(some 12), .load false 1 (.t 11), none⟩,
   ⟨(some 13), .cv .u32 (.t 12), none⟩,
   ⟨(some 14), .build [(.i .u16 (.l 0)), (.i .u32 (.l 0))] [(0, 1, (.c (.i .u16 (.l 4)))), (1, 1, (.t 13))], none⟩,
   ⟨(some 15), .build [(.i .u16 (.l 0)), (.i .u32 (.l 0))] [(0, 1, (.c (.i .u16 (.l 9)))), (1, 1, (.c (.i .u32 (.l 1))))], none⟩,
   ⟨(some 16), .buildS 2 3 [(.i .u16 (.l 0)), (.i .u32 (.l 0))] [(0, (.t 10)), (1, (.t 14)), (2, (.t 15))], none⟩,
   ⟨(some 2), .mv (.t 16), none⟩,
   ⟨(some 3), .mv (.c (.i .i64 (.l 0))), none⟩] [1, 7, 8, 9, 10, 11, 12, 13, 14, 15, 16])
 .ret)))
theorem fn_causeyref21_Ours : FnIs Try.prog 15 17 [.t 2, .t 3] causeyref21_Ours :=
  ⟨Try.f15, _, kl_causeyref21_Ours, Try.func15, rfl, rfl, by kernel_rfl, by kernel_rfl, Try.call15⟩

def kl_causeyref03_Pairs : Nat → List Nat := fun
  | 0 => [4]
  | 1 => [6, 7, 8, 9]
  | 4 => [11, 12, 13]
  | 5 => [15, 16]
  | 6 => [17, 18, 19, 20, 21, 22, 23, 24]
  | _ => []
def dead_causeyref03_Pairs_0 : List Nat := [2, 3, 4, 6, 7, 8, 9, 10, 11, 12, 13, 14, 15, 16, 17, 18, 19, 20, 21, 22, 23, 24, 25] -- live: [0, 1, 5]
def ord_causeyref03_Pairs_0 : List (Nat × List Nat) := [(0, []), (1, []), (2, []), (3, []), (4, []), (5, []), (6, []), (7, []), (8, [])]
def causeyref03_Pairs : IR :=
 (.seq (.reg [⟨(some 4), .mv (.c .ff), none⟩] [4])
 (.seq (.seq (.reg [⟨(some 6), .mv (.t 0), none⟩,
   ⟨(some 7), .len false (.t 6), none⟩,
   ⟨(some 8), .mv (.t 1), none⟩,
   ⟨(some 9), .len false (.t 8), none⟩,
   ⟨(some 10), .bin .ne (.t 7) (.t 9), none⟩] [6, 7, 8, 9])
 (.cond (.t 10)
  (.seq (.reg [⟨(some 4), .mv (.c .ff), none⟩] [])
  .ret)
  .skip))
 (.seq (.seq (.reg [⟨(some 5), .mv (.c (.i .i64 (.l 0))), none⟩] [])
 (.block 0 (.loop (.seq (.seq (.reg [⟨(some 11), .mv (.t 5), none⟩,
     ⟨(some 12), .mv (.t 0), none⟩,
     ⟨(some 13), .len false (.t 12), none⟩,
     ⟨(some 14), .bin .lt (.t 11) (.t 13), none⟩] [11, 12, 13])
   (.cond (.t 14)
    .skip
    (.exit 0)))
   (.seq (.block 1 (.seq (.draw [⟨(some 17), .mv (.t 0), none⟩,
      ⟨(some 18), .mv (.t 5), none⟩,
      ⟨(some 19), .iadS 2 (.t 17) (.t 18), none⟩,
      ⟨(some 20), .load true 2 (.t 19), none⟩,
      ⟨(some 21), .mv (.t 1), none⟩,
      ⟨(some 22), .mv (.t 5), none⟩,
      ⟨(some 23), .iadS 2 (.t 21) (.t 22), none⟩,
      ⟨(some 24), .load true 2 (.t 23), none⟩,
      ⟨(some 25), .eqA ⟨true, [.ki, .ki]⟩ true (.t 20) (.t 24), none⟩] [[], [], [0, 1], [2], [], [], [4, 5], [6], [3, 7]] [17, 18, 19, 20, 21, 22, 23, 24])
    (.cond (.t 25)
     (.seq (.reg [⟨(some 4), .mv (.c .ff), none⟩] [])
     .ret)
     .skip)))
   (.reg [⟨(some 15), .mv (.t 5), none⟩,
     ⟨(some 16), .bin .add (.t 15) (.c (.i .i64 (.l 1))), none⟩,
     ⟨(some 5), .mv (.t 16), none⟩] [15, 16]))))))
 (.seq (.reg [⟨(some 4), .mv (.c .tt), none⟩] [])
 .ret))))
theorem fn_causeyref03_Pairs : FnIs Try.prog 16 26 [.t 4] causeyref03_Pairs :=
  ⟨Try.f16, _, kl_causeyref03_Pairs, Try.func16, rfl, rfl, by kernel_rfl, by kernel_rfl, Try.call16⟩

def kl_setting_Fits : Nat → List Nat := fun
  | 0 => [0, 2]
  | 1 => [1, 3, 4, 5, 6, 7, 8, 9, 10, 11, 12, 13, 14, 15]
  | _ => []
def setting_Fits : IR :=
 (.seq (.reg [⟨(some 1), .box (.t 0), none⟩,
   ⟨(some 2), .mv (.c .ff), none⟩] [0, 2])
 (.seq (.reg [⟨(some 3), .fad 0 (.t 1), none⟩,
   ⟨(some 4), .load false 1 (.t 3), none⟩,
   ⟨(some 5), .call (.c (.fn (.func 33) [] [])) [(.t 4), (.c (.i .i64 (.l 1))), (.c (.i .i64 (.l 8)))], none⟩,
   ⟨(some 6), .mv (.t 5), none⟩,
   ⟨(some 7), .fad 1 (.t 1), (some (6, true))⟩,
   ⟨(some 8), .load false 1 (.t 7), (some (6, true))⟩,
   ⟨(some 9), .call (.c (.fn (.func 33) [] [])) [(.t 8), (.c (.i .i64 (.l 1))), (.c (.i .i64 (.l 65535)))], (some (6, true))⟩,
   ⟨(some 10), .pick (.t 6) (.t 9) (.c .ff), none⟩,
   ⟨(some 11), .mv (.t 10), none⟩,
   ⟨(some 12), .fad 2 (.t 1), (some (11, true))⟩,
   ⟨(some 13), .load false 1 (.t 12), (some (11, true))⟩,
   ⟨(some 14), .call (.c (.fn (.func 33) [] [])) [(.t 13), (.c (.i .i64 (.l 1))), (.c (.i .i64 (.l 16384)))], (some (11, true))⟩,
   ⟨(some 15), .pick (.t 11) (.t 14) (.c .ff), none⟩,
   ⟨(some 2), .mv (.t 15), none⟩] [1, 3, 4, 5, 6, 7, 8, 9, 10, 11, 12, 13, 14, 15])
 .ret))
theorem fn_setting_Fits : FnIs Try.prog 17 16 [.t 2] setting_Fits :=
  ⟨Try.f17, _, kl_setting_Fits, Try.func17, rfl, rfl, by kernel_rfl, by kernel_rfl, Try.call17⟩

def kl_causeyref21_Fits : Nat → List Nat := fun
  | 0 => [0, 2]
  | 1 => [1, 3, 4, 5, 6, 7, 8, 9, 10, 11, 12, 13, 14, 15]
  | _ => []
def causeyref21_Fits : IR :=
 (.seq (.reg [⟨(some 1), .box (.t 0), none⟩,
   ⟨(some 2), .mv (.c .ff), none⟩] [0, 2])
 (.seq (.reg [⟨(some 3), .fad 0 (.t 1), none⟩,
   ⟨(some 4), .load false 1 (.t 3), none⟩,
   ⟨(some 5), .call (.c (.fn (.func 34) [] [])) [(.t 4), (.c (.i .i64 (.l 1))), (.c (.i .i64 (.l 8)))], none⟩,
   ⟨(some 6), .mv (.t 5), none⟩,
   ⟨(some 7), .fad 1 (.t 1), (some (6, true))⟩,
   ⟨(some 8), .load false 1 (.t 7), (some (6, true))⟩,
   ⟨(some 9), .call (.c (.fn (.func 34) [] [])) [(.t 8), (.c (.i .i64 (.l 1))), (.c (.i .i64 (.l 65535)))], (some (6, true))⟩,
   ⟨(some 10), .pick (.t 6) (.t 9) (.c .ff), none⟩,
   ⟨(some 11), .mv (.t 10), none⟩,
   ⟨(some 12), .fad 2 (.t 1), (some (11, true))⟩,
   ⟨(some 13), .load false 1 (.t 12), (some (11, true))⟩,
   ⟨(some 14), .call (.c (.fn (.func 34) [] [])) [(.t 13), (.c (.i .i64 (.l 1))), (.c (.i .i64 (.l 16384)))], (some (11, true))⟩,
   ⟨(some 15), .pick (.t 11) (.t 14) (.c .ff), none⟩,
   ⟨(some 2), .mv (.t 15), none⟩] [1, 3, 4, 5, 6, 7, 8, 9, 10, 11, 12, 13, 14, 15])
 .ret))
theorem fn_causeyref21_Fits : FnIs Try.prog 18 16 [.t 2] causeyref21_Fits :=
  ⟨Try.f18, _, kl_causeyref21_Fits, Try.func18, rfl, rfl, by kernel_rfl, by kernel_rfl, Try.call18⟩

def kl_setting_Right : Nat → List Nat := fun
  | 0 => [0, 2]
  | 1 => [3, 4, 5, 6, 7, 8, 9, 10, 11, 12, 13, 14, 15, 16, 17, 18, 19, 20, 21, 22, 23]
  | 2 => [25, 26, 27, 28, 29, 30, 31, 32, 33, 34, 35, 36, 37, 38, 39, 40, 41, 42]
  | 3 => [1, 44, 45, 46, 47, 48, 49, 50, 51, 52, 53, 54, 55]
  | _ => []
def setting_Right : IR :=
 (.seq (.reg [⟨(some 1), .box (.t 0), none⟩,
   ⟨(some 2), .mv (.c .ff), none⟩] [0, 2])
 (.scope (.seq (.seq (.reg [⟨(some 3), .fad 1 (.t 1), none⟩,
    ⟨(some 4), .load false 1 (.t 3), none⟩,
    ⟨(some 5), .call (.c (.fn (.func 33) [] [])) [(.t 4), (.c (.i .i64 (.l 0))), (.c (.i .i64 (.l 4294967295)))], none⟩,
    ⟨(some 6), .not (.t 5), none⟩,
    ⟨(some 7), .mv (.t 6), none⟩,
    ⟨(some 8), .fad 2 (.t 1), (some (7, false))⟩,
    ⟨(some 9), .load false 1 (.t 8), (some (7, false))⟩,
    ⟨(some 10), .call (.c (.fn (.func 33) [] [])) [(.t 9), (.c (.i .i64 (.l 0))), (.c (.i .i64 (.l 2147483647)))], (some (7, false))⟩,
    ⟨(some 11), .not (.t 10), (some (7, false))⟩,
    ⟨(some 12), .pick (.t 7) (.c .tt) (.t 11), none⟩,
    ⟨(some 13), .mv (.t 12), none⟩,
    ⟨(some 14), .fad 3 (.t 1), (some (13, false))⟩,
    ⟨(some 15), .load false 1 (.t 14), (some (13, false))⟩,
    ⟨(some 16), .call (.c (.fn (.func 33) [] [])) [(.t 15), (.c (.i .i64 (.l 16384))), (.c (.i .i64 (.l 16777215)))], (some (13, false))⟩,
    ⟨(some 17), .not (.t 16), (some (13, false))⟩,
    ⟨(some 18), .pick (.t 13) (.c .tt) (.t 17), none⟩,
    ⟨(some 19), .mv (.t 18), none⟩,
    ⟨(some 20), .fad 4 (.t 1), (some (19, false))⟩,
    ⟨(some 21), .load false 1 (.t 20), (some (19, false))⟩,
    ⟨(some 22), .call (.c (.fn (.func 33) [] [])) [(.t 21), (.c (.i .i64 (.l (-1)))), (.c (.i .i64 (.l 4294967295)))], (some (19, false))⟩,
    ⟨(some 23), .not (.t 22), (some (19, false))⟩,
    ⟨(some 24), .pick (.t 19) (.c .tt) (.t 23), none⟩] [3, 4, 5, 6, 7, 8, 9, 10, 11, 12, 13, 14, 15, 16, 17, 18, 19, 20, 21, 22, 23])
  (.cond (.t 24)
   (.goto 0)
   .skip))
  (.seq (.seq (.reg [⟨(some 25), .fad 7 (.t 1), none⟩,
    ⟨(some 26), .load false 1 (.t 25), none⟩,
    ⟨(some 27), .call (.c (.fn (.func 33) [] [])) [(.t 26), (.c (.i .i64 (.l 0))), (.c (.i .i64 (.l 64)))], none⟩,
    ⟨(some 28), .not (.t 27), none⟩,
    ⟨(some 29), .mv (.t 28), none⟩,
    ⟨(some 30), .fad 8 (.t 1), (some (29, false))⟩,
    ⟨(some 31), .load false 1 (.t 30), (some (29, false))⟩,
    ⟨(some 32), .call (.c (.fn (.func 33) [] [])) [(.t 31), (.c (.i .i64 (.l 0))), (.c (.i .i64 (.l 64)))], (some (29, false))⟩,
    ⟨(some 33), .not (.t 32), (some (29, false))⟩,
    ⟨(some 34), .pick (.t 29) (.c .tt) (.t 33), none⟩,
    ⟨(some 35), .mv (.t 34), none⟩,
    ⟨(some 36), .fad 6 (.t 1), (some (35, false))⟩,
    ⟨(some 37), .load false 1 (.t 36), (some (35, false))⟩,
    ⟨(some 38), .mv (.t 37), (some (35, false))⟩,
    ⟨(some 39), .fad 5 (.t 1), (some (38, true))⟩,
    ⟨(some 40), .load false 1 (.t 39), (some (38, true))⟩,
    ⟨(some 41), .not (.t 40), (some (38, true))⟩,
    ⟨(some 42), .pick (.t 38) (.t 41) (.c .ff), (some (35, false))⟩,
    ⟨(some 43), .pick (.t 35) (.c .tt) (.t 42), none⟩] [25, 26, 27, 28, 29, 30, 31, 32, 33, 34, 35, 36, 37, 38, 39, 40, 41, 42])
  (.cond (.t 43)
   (.goto 0)
   .skip))
  (.seq (.seq (.reg [⟨(some 44), .fad 0 (.t 1), none⟩,
    ⟨(some 45), .load false 1 (.t 44), none⟩,
    ⟨(some 46), .mv (.t 45), none⟩,
    ⟨(some 47), .fad 7 (.t 1), (some (46, false))⟩,
    ⟨(some 48), .load false 1 (.t 47), (some (46, false))⟩,
    ⟨(some 49), .bin .eq (.t 48) (.c (.i .i64 (.l 0))), (some (46, false))⟩,
    ⟨(some 50), .mv (.t 49), (some (46, false))⟩,
    ⟨(some 51), .fad 5 (.t 1), (some (50, true))⟩,
    ⟨(some 52), .load false 1 (.t 51), (some (50, true))⟩,
    ⟨(some 53), .not (.t 52), (some (50, true))⟩,
    ⟨(some 54), .pick (.t 50) (.t 53) (.c .ff), (some (46, false))⟩,
    ⟨(some 55), .pick (.t 46) (.c .tt) (.t 54), none⟩,
    ⟨(some 2), .mv (.t 55), none⟩] [1, 44, 45, 46, 47, 48, 49, 50, 51, 52, 53, 54, 55])
  .ret)
  (.seq (.label 0)
  (.seq (.reg [⟨(some 2), .mv (.c .ff), none⟩] [])
  .ret)))))))
theorem fn_setting_Right : FnIs Try.prog 19 56 [.t 2] setting_Right :=
  ⟨Try.f19, _, kl_setting_Right, Try.func19, rfl, rfl, by kernel_rfl, by kernel_rfl, Try.call19⟩

def kl_causeyref21_Right : Nat → List Nat := fun
  | 0 => [0, 2]
  | 1 => [1, 3, 4, 5, 6, 7, 8, 9, 10, 11, 12, 13, 14, 15, 16, 17, 18, 19, 20, 21, 22, 23, 24, 25, 26, 27, 28, 29, 30, 31, 32, 33, 34, 35, 36, 37, 38, 39, 40, 41, 42, 43, 44, 45, 46, 47, 48, 49, 50, 51, 52, 53]
  | _ => []
def causeyref21_Right : IR :=
 (.seq (.reg [⟨(some 1), .box (.t 0), none⟩,
   ⟨(some 2), .mv (.c .ff), none⟩] [0, 2])
 (.seq (.reg [⟨(some 3), .fad 1 (.t 1), none⟩,
   ⟨(some 4), .load false 1 (.t 3), none⟩,
   ⟨(some 5), .call (.c (.fn (.func 34) [] [])) [(.t 4), (.c (.i .i64 (.l 0))), (.c (.i .i64 (.l 4294967295)))], none⟩,
   ⟨(some 6), .mv (.t 5), none⟩,
   ⟨(some 7), .fad 2 (.t 1), (some (6, true))⟩,
   ⟨(some 8), .load false 1 (.t 7), (some (6, true))⟩,
   ⟨(some 9), .call (.c (.fn (.func 34) [] [])) [(.t 8), (.c (.i .i64 (.l 0))), (.c (.i .i64 (.l 2147483647)))], (some (6, true))⟩,
   ⟨(some 10), .pick (.t 6) (.t 9) (.c .ff), none⟩,
   ⟨(some 11), .mv (.t 10), none⟩,
   ⟨(some 12), .fad 3 (.t 1), (some (11, true))⟩,
   ⟨(some 13), .load false 1 (.t 12), (some (11, true))⟩,
   ⟨(some 14), .call (.c (.fn (.func 34) [] [])) [(.t 13), (.c (.i .i64 (.l 16384))), (.c (.i .i64 (.l 16777215)))], (some (11, true))⟩,
   ⟨(some 15), .pick (.t 11) (.t 14) (.c .ff), none⟩,
   ⟨(some 16), .mv (.t 15), none⟩,
   ⟨(some 17), .fad 4 (.t 1), (some (16, true))⟩,
   ⟨(some 18), .load false 1 (.t 17), (some (16, true))⟩,
   ⟨(some 19), .call (.c (.fn (.func 34) [] [])) [(.t 18), (.c (.i .i64 (.l (-1)))), (.c (.i .i64 (.l 4294967295)))], (some (16, true))⟩,
   ⟨(some 20), .pick (.t 16) (.t 19) (.c .ff), none⟩,
   ⟨(some 21), .mv (.t 20), none⟩,
   ⟨(some 22), .fad 7 (.t 1), (some (21, true))⟩,
   ⟨(some 23), .load false 1 (.t 22), (some (21, true))⟩,
   ⟨(some 24), .call (.c (.fn (.func 34) [] [])) [(.t 23), (.c (.i .i64 (.l 0))), (.c (.i .i64 (.l 64)))], (some (21, true))⟩,
   ⟨(some 25), .pick (.t 21) (.t 24) (.c .ff), none⟩,
   ⟨(some 26), .mv (.t 25), none⟩,
   ⟨(some 27), .fad 8 (.t 1), (some (26, true))⟩,
   ⟨(some 28), .load false 1 (.t 27), (some (26, true))⟩,
   ⟨(some 29), .call (.c (.fn (.func 34) [] [])) [(.t 28), (.c (.i .i64 (.l 0))), (.c (.i .i64 (.l 64)))], (some (26, true))⟩,
   ⟨(some 30), .pick (.t 26) (.t 29) (.c .ff), none⟩,
   ⟨(some 31), .mv (.t 30), none⟩,
   ⟨(some 32), .fad 5 (.t 1), (some (31, true))⟩,
   ⟨(some 33), .load false 1 (.t 32), (some (31, true))⟩,
   ⟨(some 34), .mv (.t 33), (some (31, true))⟩,
   ⟨(some 35), .fad 6 (.t 1), (some (34, false))⟩,
   ⟨(some 36), .load false 1 (.t 35), (some (34, false))⟩,
   ⟨(some 37), .not (.t 36), (some (34, false))⟩,
   ⟨(some 38), .pick (.t 34) (.c .tt) (.t 37), (some (31, true))⟩,
   ⟨(some 39), .pick (.t 31) (.t 38) (.c .ff), none⟩,
   ⟨(some 40), .mv (.t 39), none⟩,
   ⟨(some 41), .fad 0 (.t 1), (some (40, true))⟩,
   ⟨(some 42), .load false 1 (.t 41), (some (40, true))⟩,
   ⟨(some 43), .mv (.t 42), (some (40, true))⟩,
   ⟨(some 44), .fad 5 (.t 1), (some (43, false))⟩,
   ⟨(some 45), .load false 1 (.t 44), (some (43, false))⟩,
   ⟨(some 46), .not (.t 45), (some (43, false))⟩,
   ⟨(some 47), .mv (.t 46), (some (43, false))⟩,
   ⟨(some 48), .fad 7 (.t 1), (some (47, true))⟩,
   ⟨(some 49), .load false 1 (.t 48), (some (47, true))⟩,
   ⟨(some 50), .bin .eq (.t 49) (.c (.i .i64 (.l 0))), (some (47, true))⟩,
   ⟨(some 51), .pick (.t 47) (.t 50) (.c .ff), (some (43, false))⟩,
   ⟨(some 52), .pick (.t 43) (.c .tt) (.t 51), (some (40, true))⟩,
   ⟨(some 53), .pick (.t 40) (.t 52) (.c .ff), none⟩,
   ⟨(some 2), .mv (.t 53), none⟩] [1, 3, 4, 5, 6, 7, 8, 9, 10, 11, 12, 13, 14, 15, 16, 17, 18, 19, 20, 21, 22, 23, 24, 25, 26, 27, 28, 29, 30, 31, 32, 33, 34, 35, 36, 37, 38, 39, 40, 41, 42, 43, 44, 45, 46, 47, 48, 49, 50, 51, 52, 53])
 .ret))
theorem fn_causeyref21_Right : FnIs Try.prog 20 54 [.t 2] causeyref21_Right :=
  ⟨Try.f20, _, kl_causeyref21_Right, Try.func20, rfl, rfl, by kernel_rfl, by kernel_rfl, Try.call20⟩

def kl_setting_New : Nat → List Nat := fun
  | 1 => [1]
  | _ => []
def setting_New : IR :=
 (.seq (.reg [⟨(some 0), .alloc [.ff, (.i .i64 (.l 0)), (.i .i64 (.l 0)), (.i .i64 (.l 0)), (.i .i64 (.l 0)), .ff, .ff, (.i .i64 (.l 0)), (.i .i64 (.l 0))], none⟩] [])
 (.seq (.reg [⟨(some 1), .build [.ff, (.i .i64 (.l 0)), (.i .i64 (.l 0)), (.i .i64 (.l 0)), (.i .i64 (.l 0)), .ff, .ff, (.i .i64 (.l 0)), (.i .i64 (.l 0))] [(1, 1, (.c (.i .i64 (.l 4096)))), (2, 1, (.c (.i .i64 (.l 65535)))), (3, 1, (.c (.i .i64 (.l 16384)))), (4, 1, (.c (.i .i64 (.l (-1))))), (8, 1, (.c (.i .i64 (.l 1))))], none⟩,
   ⟨none, .store 9 (.t 0) (.t 1), none⟩] [1])
 .ret))
theorem fn_setting_New : FnIs Try.prog 21 2 [.c 0 true 9] setting_New :=
  ⟨Try.f21, _, kl_setting_New, Try.func21, rfl, rfl, by kernel_rfl, by kernel_rfl, Try.call21⟩

def kl_causeyref21_New : Nat → List Nat := fun
  | 1 => [1]
  | _ => []
def causeyref21_New : IR :=
 (.seq (.reg [⟨(some 0), .alloc [.ff, (.i .i64 (.l 0)), (.i .i64 (.l 0)), (.i .i64 (.l 0)), (.i .i64 (.l 0)), .ff, .ff, (.i .i64 (.l 0)), (.i .i64 (.l 0))], none⟩] [])
 (.seq (.reg [⟨(some 1), .build [.ff, (.i .i64 (.l 0)), (.i .i64 (.l 0)), (.i .i64 (.l 0)), (.i .i64 (.l 0)), .ff, .ff, (.i .i64 (.l 0)), (.i .i64 (.l 0))] [(1, 1, (.c (.i .i64 (.l 4096)))), (2, 1, (.c (.i .i64 (.l 65535)))), (3, 1, (.c (.i .i64 (.l 16384)))), (4, 1, (.c (.i .i64 (.l (-1))))), (8, 1, (.c (.i .i64 (.l 1))))], none⟩,
   ⟨none, .store 9 (.t 0) (.t 1), none⟩] [1])
 .ret))
theorem fn_causeyref21_New : FnIs Try.prog 22 2 [.c 0 true 9] causeyref21_New :=
  ⟨Try.f22, _, kl_causeyref21_New, Try.func22, rfl, rfl, by kernel_rfl, by kernel_rfl, Try.call22⟩

def kl_setting_Moved : Nat → List Nat := fun
  | 0 => [0, 1, 4]
  | 1 => [2, 3, 5, 6, 7, 8, 9]
  | _ => []
def setting_Moved : IR :=
 (.seq (.reg [⟨(some 2), .box (.t 0), none⟩,
   ⟨(some 3), .box (.t 1), none⟩,
   ⟨(some 4), .mv (.c (.i .i64 (.l 0))), none⟩] [0, 1, 4])
 (.seq (.reg [⟨(some 5), .fad 2 (.t 3), none⟩,
   ⟨(some 6), .load false 1 (.t 5), none⟩,
   ⟨(some 7), .fad 2 (.t 2), none⟩,
   ⟨(some 8), .load false 1 (.t 7), none⟩,
   ⟨(some 9), .bin .sub (.t 6) (.t 8), none⟩,
   ⟨(some 4), .mv (.t 9), none⟩] [2, 3, 5, 6, 7, 8, 9])
 .ret))
theorem fn_setting_Moved : FnIs Try.prog 23 10 [.t 4] setting_Moved :=
  ⟨Try.f23, _, kl_setting_Moved, Try.func23, rfl, rfl, by kernel_rfl, by kernel_rfl, Try.call23⟩

def kl_causeyref21_Moved : Nat → List Nat := fun
  | 0 => [0, 1, 4]
  | 1 => [2, 3, 5, 6, 7, 8, 9]
  | _ => []
def causeyref21_Moved : IR :=
 (.seq (.reg [⟨(some 2), .box (.t 0), none⟩,
   ⟨(some 3), .box (.t 1), none⟩,
   ⟨(some 4), .mv (.c (.i .i64 (.l 0))), none⟩] [0, 1, 4])
 (.seq (.reg [⟨(some 5), .fad 2 (.t 3), none⟩,
   ⟨(some 6), .load false 1 (.t 5), none⟩,
   ⟨(some 7), .fad 2 (.t 2), none⟩,
   ⟨(some 8), .load false 1 (.t 7), none⟩,
   ⟨(some 9), .bin .sub (.t 6) (.t 8), none⟩,
   ⟨(some 4), .mv (.t 9), none⟩] [2, 3, 5, 6, 7, 8, 9])
 .ret))
theorem fn_causeyref21_Moved : FnIs Try.prog 24 10 [.t 4] causeyref21_Moved :=
  ⟨Try.f24, _, kl_causeyref21_Moved, Try.func24, rfl, rfl, by kernel_rfl, by kernel_rfl, Try.call24⟩

def kl_causeyref03_Last : Nat → List Nat := fun
  | 0 => [4, 5]
  | 1 => [7, 8, 9]
  | 2 => [10]
  | 3 => [12, 13]
  | 4 => [14, 15, 16, 17, 18, 19]
  | 5 => [0, 6, 21, 22, 23, 24, 25]
  | _ => []
def dead_causeyref03_Last_0 : List Nat := [2, 3, 4, 5, 7, 8, 9, 10, 11, 12, 13, 14, 15, 16, 17, 18, 19, 20, 21, 22, 23, 24, 25] -- live: [0, 1, 6]
def causeyref03_Last : IR :=
 (.seq (.reg [⟨(some 4), .mv (.c (.i .u32 (.l 0))), none⟩,
   ⟨(some 5), .mv (.c .ff), none⟩] [4, 5])
 (.seq (.seq (.reg [⟨(some 7), .mv (.t 0), none⟩,
   ⟨(some 8), .len false (.t 7), none⟩,
   ⟨(some 9), .bin .sub (.t 8) (.c (.i .i64 (.l 1))), none⟩,
   ⟨(some 6), .mv (.t 9), none⟩] [7, 8, 9])
 (.block 0 (.loop (.seq (.seq (.reg [⟨(some 10), .mv (.t 6), none⟩,
     ⟨(some 11), .bin .ge (.t 10) (.c (.i .i64 (.l 0))), none⟩] [10])
   (.cond (.t 11)
    .skip
    (.exit 0)))
   (.seq (.block 1 (.seq (.reg [⟨(some 14), .mv (.t 0), none⟩,
      ⟨(some 15), .mv (.t 6), none⟩,
      ⟨(some 16), .iadS 2 (.t 14) (.t 15), none⟩,
      ⟨(some 17), .fad 0 (.t 16), none⟩,
      ⟨(some 18), .load false 1 (.t 17), none⟩,
      ⟨(some 19), .mv (.t 1), none⟩,
      ⟨(some 20), .bin .eq (.t 18) (.t 19), none⟩] [14, 15, 16, 17, 18, 19])
    (.cond (.t 20)
     (.seq (.reg [⟨(some 21), .mv (.t 0), none⟩,
       ⟨(some 22), .mv (.t 6), none⟩,
       ⟨(some 23), .iadS 2 (.t 21) (.t 22), none⟩,
       ⟨(some 24), .fad 1 (.t 23), none⟩,
       ⟨(some 25), .load false 1 (.t 24), none⟩,
       ⟨(some 4), .mv (.t 25), none⟩,
       ⟨(some 5), .mv (.c .tt), none⟩] [0, 6, 21, 22, 23, 24, 25])
     .ret)
     .skip)))
   (.reg [⟨(some 12), .mv (.t 6), none⟩,
     ⟨(some 13), .bin .sub (.t 12) (.c (.i .i64 (.l 1))), none⟩,
     ⟨(some 6), .mv (.t 13), none⟩] [12, 13]))))))
 (.seq (.reg [⟨(some 4), .mv (.c (.i .u32 (.l 0))), none⟩,
   ⟨(some 5), .mv (.c .ff), none⟩] [])
 .ret)))
theorem fn_causeyref03_Last : FnIs Try.prog 25 26 [.t 4, .t 5] causeyref03_Last :=
  ⟨Try.f25, _, kl_causeyref03_Last, Try.func25, rfl, rfl, by kernel_rfl, by kernel_rfl, Try.call25⟩

def kl_setting_Take_1 : Nat → List Nat := fun
  | 0 => [0, 2]
  | 1 => [1, 3]
  | _ => []
def setting_Take_1 : IR :=
 (.seq (.reg [⟨(some 1), .box (.t 0), none⟩,
   ⟨(some 2), .mv (.c (.re .nilFunc)), none⟩] [0, 2])
 (.seq (.reg [⟨(some 3), .mkF (.func 27) [] [(.t 1)], none⟩,
   ⟨(some 2), .mv (.t 3), none⟩] [1, 3])
 .ret))
theorem fn_setting_Take_1 : FnIs Try.prog 26 4 [.t 2] setting_Take_1 :=
  ⟨Try.f26, _, kl_setting_Take_1, Try.func26, rfl, rfl, by kernel_rfl, by kernel_rfl, Try.call26⟩

def kl_setting_Take_1_1 : Nat → List Nat := fun
  | 0 => [3]
  | 1 => [0, 1, 4, 5, 6, 7]
  | _ => []
def setting_Take_1_1 : IR :=
 (.seq (.reg [⟨(some 3), .mv (.c .ff), none⟩] [3])
 (.seq (.reg [⟨(some 4), .load false 1 (.t 1), none⟩,
   ⟨(some 5), .mv (.t 0), none⟩,
   ⟨(some 6), .cv .i64 (.t 5), none⟩,
   ⟨(some 7), .nilc (.t 4), none⟩,
   ⟨none, .store 1 (.t 7) (.t 6), none⟩] [0, 1, 4, 5, 6, 7])
 (.seq (.reg [⟨(some 3), .mv (.c .tt), none⟩] [])
 .ret)))
theorem fn_setting_Take_1_1 : FnIs Try.prog 27 8 [.t 3] setting_Take_1_1 :=
  ⟨Try.f27, _, kl_setting_Take_1_1, Try.func27, rfl, rfl, by kernel_rfl, by kernel_rfl, Try.call27⟩

def kl_setting_Take_2 : Nat → List Nat := fun
  | 0 => [4]
  | 1 => [5]
  | 2 => [0, 1, 7, 8, 9, 10, 11]
  | 3 => [0, 2, 12, 13, 14, 15]
  | _ => []
def setting_Take_2 : IR :=
 (.seq (.reg [⟨(some 4), .mv (.c .ff), none⟩] [4])
 (.seq (.seq (.reg [⟨(some 5), .fad 0 (.t 1), none⟩,
   ⟨(some 6), .load false 1 (.t 5), none⟩] [5])
 (.cond (.t 6)
  (.seq (.reg [⟨(some 7), .fad 6 (.t 1), none⟩,
    ⟨(some 8), .load false 1 (.t 7), none⟩,
    ⟨(some 9), .mv (.t 0), none⟩,
    ⟨(some 10), .bin .ne (.t 9) (.c (.i .u32 (.l 0))), none⟩,
    ⟨(some 11), .eqA ⟨false, [.kb]⟩ false (.t 8) (.t 10), none⟩,
    ⟨(some 4), .mv (.t 11), none⟩] [0, 1, 7, 8, 9, 10, 11])
  .ret)
  .skip))
 (.seq (.reg [⟨(some 12), .mv (.t 0), none⟩,
   ⟨(some 13), .bin .ne (.t 12) (.c (.i .u32 (.l 0))), none⟩,
   ⟨(some 14), .fad 5 (.t 2), none⟩,
   ⟨none, .store 1 (.t 14) (.c .tt), none⟩,
   ⟨(some 15), .fad 6 (.t 2), none⟩,
   ⟨none, .store 1 (.t 15) (.t 13), none⟩] [0, 2, 12, 13, 14, 15])
 (.seq (.reg [⟨(some 4), .mv (.c .tt), none⟩] [])
 .ret))))
theorem fn_setting_Take_2 : FnIs Try.prog 28 16 [.t 4] setting_Take_2 :=
  ⟨Try.f28, _, kl_setting_Take_2, Try.func28, rfl, rfl, by kernel_rfl, by kernel_rfl, Try.call28⟩

def kl_setting_wrong : Nat → List Nat := fun
  | 0 => [0, 2]
  | 1 => [1, 3]
  | _ => []
def setting_wrong : IR :=
 (.seq (.reg [⟨(some 1), .box (.t 0), none⟩,
   ⟨(some 2), .mv (.c (.re .nilFunc)), none⟩] [0, 2])
 (.seq (.reg [⟨(some 3), .mkF (.func 35) [] [(.t 1)], none⟩,
   ⟨(some 2), .mv (.t 3), none⟩] [1, 3])
 .ret))
theorem fn_setting_wrong : FnIs Try.prog 29 4 [.t 2] setting_wrong :=
  ⟨Try.f29, _, kl_setting_wrong, Try.func29, rfl, rfl, by kernel_rfl, by kernel_rfl, Try.call29⟩

def kl_setting_whole : Nat → List Nat := fun
  | 1 => [0, 3, 4]
  | _ => []
def setting_whole : IR :=
 (.seq (.reg [⟨(some 2), .alloc [.ff, (.i .i64 (.l 0)), (.i .u32 (.l 0))], none⟩] [])
 (.seq (.reg [⟨(some 3), .mv (.t 0), none⟩,
   ⟨(some 4), .build [.ff, (.i .i64 (.l 0)), (.i .u32 (.l 0))] [(0, 1, (.c .tt)), (2, 1, (.t 3))], none⟩,
   ⟨none, .store 3 (.t 2) (.t 4), none⟩] [0, 3, 4])
 .ret))
theorem fn_setting_whole : FnIs Try.prog 30 5 [.c 2 true 3] setting_whole :=
  ⟨Try.f30, _, kl_setting_whole, Try.func30, rfl, rfl, by kernel_rfl, by kernel_rfl, Try.call30⟩

def kl_causeyref21_may : Nat → List Nat := fun
  | 0 => [2]
  | 2 => [5, 6, 7]
  | 3 => [9, 10]
  | 4 => [11, 12, 13, 14, 15, 16]
  | 5 => [4, 17, 18, 19, 20, 21, 22, 23, 24, 25, 26, 27, 28, 29, 30, 31, 32, 33, 34, 35, 36, 37, 38]
  | _ => []
def dead_causeyref21_may_0 : List Nat := [1, 2, 4, 5, 6, 7, 8, 9, 10, 11, 12, 13, 14, 15, 16, 17, 18, 19, 20, 21, 22, 23, 24, 25, 26, 27, 28, 29, 30, 31, 32, 33, 34, 35, 36, 37, 38, 39] -- live: [0, 3]
def causeyref21_may : IR :=
 (.seq (.reg [⟨(some 2), .mv (.c .ff), none⟩] [2])
 (.seq (.seq (.reg [⟨(some 3), .mv (.c (.i .i64 (.l 0))), none⟩] [])
 (.block 0 (.loop (.seq (.seq (.reg [⟨(some 5), .mv (.t 3), none⟩,
     ⟨(some 6), .mv (.t 0), none⟩,
     ⟨(some 7), .len false (.t 6), none⟩,
     ⟨(some 8), .bin .lt (.t 5) (.t 7), none⟩] [5, 6, 7])
   (.cond (.t 8)
    .skip
    (.exit 0)))
   (.seq (.block 1 (.seq (.reg [⟨(some 11), .mv (.t 0), none⟩,
      ⟨(some 12), .mv (.t 3), none⟩,
      ⟨(some 13), .iadS 2 (.t 11) (.t 12), none⟩,
      ⟨(some 14), .fad 1 (.t 13), none⟩,
      ⟨(some 15), .load false 1 (.t 14), none⟩,
      ⟨(some 16), .cv .i64 (.t 15), none⟩,
      ⟨(some 4), .mv (.t 16), none⟩] [11, 12, 13, 14, 15, 16])
    (.seq (.reg [⟨(some 17), .mv (.t 0), none⟩,
      ⟨(some 18), .mv (.t 3), none⟩,
      ⟨(some 19), .iadS 2 (.t 17) (.t 18), none⟩,
      ⟨(some 20), .fad 0 (.t 19), none⟩,
      ⟨(some 21), .load false 1 (.t 20), none⟩,
      ⟨(some 22), .bin .eq (.t 21) (.c (.i .u16 (.l 4))), none⟩,
      ⟨(some 23), .mv (.t 22), none⟩,
      ⟨(some 24), .mv (.t 4), (some (23, true))⟩,
      ⟨(some 25), .bin .gt (.t 24) (.c (.i .i64 (.l 2147483647))), (some (23, true))⟩,
      ⟨(some 26), .pick (.t 23) (.t 25) (.c .ff), none⟩,
      ⟨(some 27), .mv (.t 26), none⟩,
      ⟨(some 28), .mv (.t 0), (some (27, false))⟩,
      ⟨(some 29), .mv (.t 3), (some (27, false))⟩,
      ⟨(some 30), .iadS 2 (.t 28) (.t 29), (some (27, false))⟩,
      ⟨(some 31), .fad 0 (.t 30), (some (27, false))⟩,
      ⟨(some 32), .load false 1 (.t 31), (some (27, false))⟩,
      ⟨(some 33), .bin .eq (.t 32) (.c (.i .u16 (.l 5))), (some (27, false))⟩,
      ⟨(some 34), .mv (.t 33), (some (27, false))⟩,
      ⟨(some 35), .mv (.t 4), (some (34, true))⟩,
      ⟨(some 36), .call (.c (.fn (.func 34) [] [])) [(.t 35), (.c (.i .i64 (.l 16384))), (.c (.i .i64 (.l 16777215)))], (some (34, true))⟩,
      ⟨(some 37), .not (.t 36), (some (34, true))⟩,
      ⟨(some 38), .pick (.t 34) (.t 37) (.c .ff), (some (27, false))⟩,
      ⟨(some 39), .pick (.t 27) (.c .tt) (.t 38), none⟩] [4, 17, 18, 19, 20, 21, 22, 23, 24, 25, 26, 27, 28, 29, 30, 31, 32, 33, 34, 35, 36, 37, 38])
    (.cond (.t 39)
     (.seq (.reg [⟨(some 2), .mv (.c .ff), none⟩] [])
     .ret)
     .skip))))
   (.reg [⟨(some 9), .mv (.t 3), none⟩,
     ⟨(some 10), .bin .add (.t 9) (.c (.i .i64 (.l 1))), none⟩,
     ⟨(some 3), .mv (.t 10), none⟩] [9, 10]))))))
 (.seq (.reg [⟨(some 2), .mv (.c .tt), none⟩] [])
 .ret)))
theorem fn_causeyref21_may : FnIs Try.prog 31 40 [.t 2] causeyref21_may :=
  ⟨Try.f31, _, kl_causeyref21_may, Try.func31, rfl, rfl, by kernel_rfl, by kernel_rfl, Try.call31⟩

def kl_setting_Ours_1 : Nat → List Nat := fun
  | 1 => [0, 1, 5, 6, 7, 8]
  | _ => []
def setting_Ours_1 : IR :=
 (.seq (.reg [⟨(some 4), .alloc [(.i .u16 (.l 0)), (.i .u32 (.l 0))], none⟩] [])
 (.seq (.reg [⟨(some 5), .mv (.t 0), none⟩,
   ⟨(some 6), .mv (.t 1), none⟩,
   ⟨(some 7), .cv .u32 (.t 6), none⟩,
   ⟨(some 8), .build [(.i .u16 (.l 0)), (.i .u32 (.l 0))] [(0, 1, (.t 5)), (1, 1, (.t 7))], none⟩,
   ⟨none, .store 2 (.t 4) (.t 8), none⟩] [0, 1, 5, 6, 7, 8])
 .ret))
theorem fn_setting_Ours_1 : FnIs Try.prog 32 9 [.c 4 true 2] setting_Ours_1 :=
  ⟨Try.f32, _, kl_setting_Ours_1, Try.func32, rfl, rfl, by kernel_rfl, by kernel_rfl, Try.call32⟩

def kl_setting_within : Nat → List Nat := fun
  | 0 => [6]
  | 1 => [0, 1, 2, 7, 8, 9, 10, 11, 12, 13, 14]
  | _ => []
def setting_within : IR :=
 (.seq (.reg [⟨(some 6), .mv (.c .ff), none⟩] [6])
 (.seq (.reg [⟨(some 7), .mv (.t 1), none⟩,
   ⟨(some 8), .mv (.t 0), none⟩,
   ⟨(some 9), .bin .le (.t 7) (.t 8), none⟩,
   ⟨(some 10), .mv (.t 9), none⟩,
   ⟨(some 11), .mv (.t 0), (some (10, true))⟩,
   ⟨(some 12), .mv (.t 2), (some (10, true))⟩,
   ⟨(some 13), .bin .le (.t 11) (.t 12), (some (10, true))⟩,
   ⟨(some 14), .pick (.t 10) (.t 13) (.c .ff), none⟩,
   ⟨(some 6), .mv (.t 14), none⟩] [0, 1, 2, 7, 8, 9, 10, 11, 12, 13, 14])
 .ret))
theorem fn_setting_within : FnIs Try.prog 33 15 [.t 6] setting_within :=
  ⟨Try.f33, _, kl_setting_within, Try.func33, rfl, rfl, by kernel_rfl, by kernel_rfl, Try.call33⟩

def kl_causeyref21_within : Nat → List Nat := fun
  | 0 => [6]
  | 1 => [0, 1, 2, 7, 8, 9, 10, 11, 12, 13, 14]
  | _ => []
def causeyref21_within : IR :=
 (.seq (.reg [⟨(some 6), .mv (.c .ff), none⟩] [6])
 (.seq (.reg [⟨(some 7), .mv (.t 0), none⟩,
   ⟨(some 8), .mv (.t 1), none⟩,
   ⟨(some 9), .bin .ge (.t 7) (.t 8), none⟩,
   ⟨(some 10), .mv (.t 9), none⟩,
   ⟨(some 11), .mv (.t 0), (some (10, true))⟩,
   ⟨(some 12), .mv (.t 2), (some (10, true))⟩,
   ⟨(some 13), .bin .le (.t 11) (.t 12), (some (10, true))⟩,
   ⟨(some 14), .pick (.t 10) (.t 13) (.c .ff), none⟩,
   ⟨(some 6), .mv (.t 14), none⟩] [0, 1, 2, 7, 8, 9, 10, 11, 12, 13, 14])
 .ret))
theorem fn_causeyref21_within : FnIs Try.prog 34 15 [.t 6] causeyref21_within :=
  ⟨Try.f34, _, kl_causeyref21_within, Try.func34, rfl, rfl, by kernel_rfl, by kernel_rfl, Try.call34⟩

def kl_setting_wrong_1 : Nat → List Nat := fun
  | 0 => [1]
  | 2 => [11, 12]
  | 3 => [13, 14, 15, 16, 17, 18, 19, 20, 21]
  | 4 => [22, 23, 24, 25, 26, 27, 28, 29, 30, 31]
  | 5 => [4, 5, 6, 32, 33, 34, 35, 36, 37, 38, 39, 40]
  | 6 => [42]
  | _ => []
def dead_setting_wrong_1_0 : List Nat := [1, 2, 3, 4, 5, 6, 10, 11, 12, 13, 14, 15, 16, 17, 18, 19, 20, 21, 22, 23, 24, 25, 26, 27, 28, 29, 30, 31, 32, 33, 34, 35, 36, 37, 38, 39, 40, 41, 42] -- live: [0, 7, 8, 9]
def setting_wrong_1 : IR :=
 (.seq (.reg [⟨(some 7), .load false 1 (.t 1), none⟩,
   ⟨(some 8), .len false (.t 7), none⟩,
   ⟨(some 9), .mv (.c (.i .i64 (.l 0))), none⟩] [1])
 (.block 0 (.loop (.seq (.reg [⟨(some 10), .bin .lt (.t 9) (.t 8), none⟩] [])
   (.seq (.cond (.t 10)
    .skip
    (.exit 0))
   (.seq (.block 1 (.seq (.reg [⟨(some 11), .iadS 2 (.t 7) (.t 9), none⟩,
      ⟨(some 12), .load true 2 (.t 11), none⟩,
      ⟨(some 4), .alloc [(.i .u16 (.l 0)), (.i .u32 (.l 0))], none⟩,
      ⟨none, .store 2 (.t 4) (.t 12), none⟩] [11, 12])
    (.seq (.reg [⟨(some 13), .fad 0 (.t 4), none⟩,
      ⟨(some 14), .load false 1 (.t 13), none⟩,
      ⟨(some 15), .bin .eq (.t 14) (.c (.i .u16 (.l 4))), none⟩,
      ⟨(some 16), .mv (.t 15), none⟩,
      ⟨(some 17), .fad 1 (.t 4), (some (16, true))⟩,
      ⟨(some 18), .load false 1 (.t 17), (some (16, true))⟩,
      ⟨(some 19), .bin .shr (.t 18) (.c (.i .u64 (.l 31))), (some (16, true))⟩,
      ⟨(some 20), .bin .ne (.t 19) (.c (.i .u32 (.l 0))), (some (16, true))⟩,
      ⟨(some 21), .pick (.t 16) (.t 20) (.c .ff), none⟩,
      ⟨(some 5), .mv (.t 21), none⟩] [13, 14, 15, 16, 17, 18, 19, 20, 21])
    (.seq (.reg [⟨(some 22), .fad 0 (.t 4), none⟩,
      ⟨(some 23), .load false 1 (.t 22), none⟩,
      ⟨(some 24), .bin .eq (.t 23) (.c (.i .u16 (.l 5))), none⟩,
      ⟨(some 25), .mv (.t 24), none⟩,
      ⟨(some 26), .fad 1 (.t 4), (some (25, true))⟩,
      ⟨(some 27), .load false 1 (.t 26), (some (25, true))⟩,
      ⟨(some 28), .cv .i64 (.t 27), (some (25, true))⟩,
      ⟨(some 29), .call (.c (.fn (.func 33) [] [])) [(.t 28), (.c (.i .i64 (.l 16384))), (.c (.i .i64 (.l 16777215)))], (some (25, true))⟩,
      ⟨(some 30), .not (.t 29), (some (25, true))⟩,
      ⟨(some 31), .pick (.t 25) (.t 30) (.c .ff), none⟩,
      ⟨(some 6), .mv (.t 31), none⟩] [22, 23, 24, 25, 26, 27, 28, 29, 30, 31])
    (.seq (.reg [⟨(some 32), .mv (.t 5), none⟩,
      ⟨(some 33), .mv (.t 32), none⟩,
      ⟨(some 34), .mv (.t 6), (some (33, false))⟩,
      ⟨(some 35), .pick (.t 33) (.c .tt) (.t 34), none⟩,
      ⟨(some 36), .mv (.t 35), none⟩,
      ⟨(some 37), .mv (.t 0), (some (36, true))⟩,
      ⟨(some 38), .load true 2 (.t 4), (some (36, true))⟩,
      ⟨(some 39), .call (.t 37) [(.t 38)], (some (36, true))⟩,
      ⟨(some 40), .not (.t 39), (some (36, true))⟩,
      ⟨(some 41), .pick (.t 36) (.t 40) (.c .ff), none⟩] [4, 5, 6, 32, 33, 34, 35, 36, 37, 38, 39, 40])
    (.cond (.t 41)
     .ret
     .skip))))))
   (.reg [⟨(some 42), .bin .add (.t 9) (.c (.i .i64 (.l 1))), none⟩,
     ⟨(some 9), .mv (.t 42), none⟩] [42])))))))
theorem fn_setting_wrong_1 : FnIs Try.prog 35 43 [] setting_wrong_1 :=
  ⟨Try.f35, _, kl_setting_wrong_1, Try.func35, rfl, rfl, by kernel_rfl, by kernel_rfl, Try.call35⟩
end I
end Cz
