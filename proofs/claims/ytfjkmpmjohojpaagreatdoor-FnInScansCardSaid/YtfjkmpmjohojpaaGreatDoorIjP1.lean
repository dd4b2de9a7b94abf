/- What the functions that FnInScans calls answer, for every argument within the law's bounds: part 1. -/
import Derived.Test.YtfjkmpmjohojpaaGreatDoorIjEvD
import Derived.Test.YtfjkmpmjohojpaaGreatDoorProg
import Derived.Lib.AtoiAllCases
import Derived.Lib.ItoaLen
import Derived.Lib.ItoaMem
import Derived.Lib.ItoaNum
import Derived.Lib.Split
set_option linter.unusedVariables false
set_option linter.unusedSimpArgs false
set_option linter.unnecessarySimpa false
namespace Go.Proofs.YtfjkmpmjohojpaaGreatDoor.Ij
open Go Go.RowKit Go.Ev
set_option linter.unusedSimpArgs false
set_option linter.unusedVariables false
set_option maxHeartbeats 1600000
def s_laws_big : SFn := ⟨6, .seq (.rg [⟨some 2, none, .mv (.c (.bool false))⟩]) (.seq (.rg [⟨some 3, none, .mv (.t 0)⟩,
  ⟨some 4, none, .lenL (.t 3)⟩,
  ⟨some 5, none, .bin .gtr (.t 4) (.c (.int .i64 1048576))⟩,
  ⟨some 2, none, .mv (.t 5)⟩]) (.ret)), [.t 2]⟩
def s_spec_l1New_L0 : SCode := .seq (.seq (.rg [⟨some 8, none, .mv (.t 4)⟩,
  ⟨some 9, none, .mv (.t 0)⟩,
  ⟨some 10, none, .lenL (.t 9)⟩,
  ⟨some 11, none, .bin .lss (.t 8) (.t 10)⟩,
  ⟨some 12, none, .mv (.t 11)⟩,
  ⟨some 13, some (12, true), .mv (.t 4)⟩,
  ⟨some 14, some (12, true), .bin .lss (.t 13) (.c (.int .i64 4000))⟩,
  ⟨some 15, none, .pick (.t 12) (.t 14) (.c (.bool false))⟩]) (.cond (.t 15) (.skip) (.exit 0))) (.seq (.blk 1 (.rg [⟨some 18, none, .mv (.t 3)⟩,
  ⟨some 19, none, .bin .mul (.t 18) (.c (.int .i64 137))⟩,
  ⟨some 20, none, .mv (.t 0)⟩,
  ⟨some 21, none, .mv (.t 4)⟩,
  ⟨some 22, none, .ia 1 (.t 20) (.t 21)⟩,
  ⟨some 23, none, .ld (.t 22)⟩,
  ⟨some 24, none, .cvI .i64 (.t 23)⟩,
  ⟨some 25, none, .bin .add (.t 19) (.t 24)⟩,
  ⟨some 26, none, .bin .add (.t 25) (.c (.int .i64 11))⟩,
  ⟨some 27, none, .bin .and (.t 26) (.c (.int .i64 1073741823))⟩,
  ⟨some 3, none, .mv (.t 27)⟩])) (.rg [⟨some 16, none, .mv (.t 4)⟩,
  ⟨some 17, none, .bin .add (.t 16) (.c (.int .i64 1))⟩,
  ⟨some 4, none, .mv (.t 17)⟩]))
def s_spec_l1New : SFn := ⟨32, .seq (.rg [⟨some 2, none, .mv (.c .pnil)⟩]) (.seq (.rg [⟨some 5, none, .mv (.t 0)⟩,
  ⟨some 6, none, .lenL (.t 5)⟩,
  ⟨some 7, none, .bin .add (.c (.int .i64 758758)) (.t 6)⟩,
  ⟨some 3, none, .mv (.t 7)⟩]) (.seq (.seq (.rg [⟨some 4, none, .mv (.c (.int .i64 0))⟩]) (.blk 0 (.loop s_spec_l1New_L0))) (.seq (.rg [⟨some 28, none, .mv (.t 0)⟩,
  ⟨some 29, none, .mv (.t 3)⟩,
  ⟨some 30, none, .build [.snil, .int .i64 0, .int .i64 0] [(0, (1, .t 28)), (2, (1, .t 29))]⟩,
  ⟨some 31, none, .box (.t 30)⟩,
  ⟨some 2, none, .mv (.t 31)⟩]) (.ret)))), [.t 2]⟩
def s_spec_l1Byte : SFn := ⟨58, .seq (.rg [⟨some 2, none, .mv (.c (.int .i64 0))⟩]) (.seq (.rg [⟨some 4, none, .mv (.t 0)⟩,
  ⟨some 5, none, .mv (.t 0)⟩,
  ⟨some 6, none, .nilc (.t 5)⟩,
  ⟨some 7, none, .fa 2 (.t 6)⟩,
  ⟨some 8, none, .ld (.t 7)⟩,
  ⟨some 9, none, .bin .mul (.t 8) (.c (.int .i64 6364136223846793005))⟩,
  ⟨some 10, none, .bin .add (.t 9) (.c (.int .i64 1442695040888963407))⟩,
  ⟨some 11, none, .nilc (.t 4)⟩,
  ⟨some 12, none, .fa 2 (.t 11)⟩,
  ⟨none, none, .st 1 (.t 12) (.t 10)⟩]) (.seq (.rg [⟨some 13, none, .mv (.t 0)⟩,
  ⟨some 14, none, .nilc (.t 13)⟩,
  ⟨some 15, none, .fa 2 (.t 14)⟩,
  ⟨some 16, none, .ld (.t 15)⟩,
  ⟨some 17, none, .bin .shr (.t 16) (.c (.int .u64 33))⟩,
  ⟨some 18, none, .mv (.t 0)⟩,
  ⟨some 19, none, .nilc (.t 18)⟩,
  ⟨some 20, none, .fa 2 (.t 19)⟩,
  ⟨some 21, none, .ld (.t 20)⟩,
  ⟨some 22, none, .bin .shr (.t 21) (.c (.int .u64 47))⟩,
  ⟨some 23, none, .bin .xor (.t 17) (.t 22)⟩,
  ⟨some 24, none, .bin .and (.t 23) (.c (.int .i64 255))⟩,
  ⟨some 3, none, .mv (.t 24)⟩]) (.seq (.seq (.rg [⟨some 25, none, .mv (.t 0)⟩,
  ⟨some 26, none, .nilc (.t 25)⟩,
  ⟨some 27, none, .fa 1 (.t 26)⟩,
  ⟨some 28, none, .ld (.t 27)⟩,
  ⟨some 29, none, .mv (.t 0)⟩,
  ⟨some 30, none, .nilc (.t 29)⟩,
  ⟨some 31, none, .fa 0 (.t 30)⟩,
  ⟨some 32, none, .ld (.t 31)⟩,
  ⟨some 33, none, .lenL (.t 32)⟩,
  ⟨some 34, none, .bin .lss (.t 28) (.t 33)⟩]) (.cond (.t 34) (.seq (.rg [⟨some 35, none, .mv (.t 3)⟩,
  ⟨some 36, none, .mv (.t 0)⟩,
  ⟨some 37, none, .nilc (.t 36)⟩,
  ⟨some 38, none, .fa 0 (.t 37)⟩,
  ⟨some 39, none, .ld (.t 38)⟩,
  ⟨some 40, none, .mv (.t 0)⟩,
  ⟨some 41, none, .nilc (.t 40)⟩,
  ⟨some 42, none, .fa 1 (.t 41)⟩,
  ⟨some 43, none, .ld (.t 42)⟩,
  ⟨some 44, none, .ia 1 (.t 39) (.t 43)⟩,
  ⟨some 45, none, .ld (.t 44)⟩,
  ⟨some 46, none, .cvI .i64 (.t 45)⟩,
  ⟨some 47, none, .bin .add (.t 35) (.t 46)⟩,
  ⟨some 48, none, .bin .and (.t 47) (.c (.int .i64 255))⟩,
  ⟨some 3, none, .mv (.t 48)⟩]) (.rg [⟨some 49, none, .mv (.t 0)⟩,
  ⟨some 50, none, .mv (.t 0)⟩,
  ⟨some 51, none, .nilc (.t 50)⟩,
  ⟨some 52, none, .fa 1 (.t 51)⟩,
  ⟨some 53, none, .ld (.t 52)⟩,
  ⟨some 54, none, .bin .add (.t 53) (.c (.int .i64 1))⟩,
  ⟨some 55, none, .nilc (.t 49)⟩,
  ⟨some 56, none, .fa 1 (.t 55)⟩,
  ⟨none, none, .st 1 (.t 56) (.t 54)⟩])) (.skip))) (.seq (.rg [⟨some 57, none, .mv (.t 3)⟩,
  ⟨some 2, none, .mv (.t 57)⟩]) (.ret))))), [.t 2]⟩
def s_spec_l1Below : SFn := ⟨31, .seq (.rg [⟨some 4, none, .mv (.c (.int .i64 0))⟩]) (.seq (.seq (.rg [⟨some 8, none, .mv (.t 1)⟩,
  ⟨some 9, none, .bin .leq (.t 8) (.c (.int .i64 0))⟩]) (.cond (.t 9) (.seq (.rg [⟨some 4, none, .mv (.c (.int .i64 0))⟩]) (.ret)) (.skip))) (.seq (.seq (.rg [⟨some 10, none, .mv (.t 1)⟩,
  ⟨some 11, none, .bin .leq (.t 10) (.c (.int .i64 256))⟩]) (.cond (.t 11) (.seq (.rg [⟨some 12, none, .mv (.t 0)⟩,
  ⟨some 13, none, .callC 60 [.t 12]⟩,
  ⟨some 14, none, .mv (.t 1)⟩,
  ⟨some 15, none, .bin .rem (.t 13) (.t 14)⟩,
  ⟨some 4, none, .mv (.t 15)⟩]) (.ret)) (.skip))) (.seq (.rg [⟨some 16, none, .mv (.t 0)⟩,
  ⟨some 17, none, .callC 60 [.t 16]⟩,
  ⟨some 5, none, .mv (.t 17)⟩]) (.seq (.rg [⟨some 18, none, .mv (.t 0)⟩,
  ⟨some 19, none, .callC 60 [.t 18]⟩,
  ⟨some 6, none, .mv (.t 19)⟩]) (.seq (.rg [⟨some 20, none, .mv (.t 0)⟩,
  ⟨some 21, none, .callC 60 [.t 20]⟩,
  ⟨some 7, none, .mv (.t 21)⟩]) (.seq (.rg [⟨some 22, none, .mv (.t 5)⟩,
  ⟨some 23, none, .bin .mul (.t 22) (.c (.int .i64 65536))⟩,
  ⟨some 24, none, .mv (.t 6)⟩,
  ⟨some 25, none, .bin .mul (.t 24) (.c (.int .i64 256))⟩,
  ⟨some 26, none, .bin .add (.t 23) (.t 25)⟩,
  ⟨some 27, none, .mv (.t 7)⟩,
  ⟨some 28, none, .bin .add (.t 26) (.t 27)⟩,
  ⟨some 29, none, .mv (.t 1)⟩,
  ⟨some 30, none, .bin .rem (.t 28) (.t 29)⟩,
  ⟨some 4, none, .mv (.t 30)⟩]) (.ret))))))), [.t 4]⟩
def s_spec_l1Once : SFn := ⟨9, .seq (.rg [⟨some 4, none, .mv (.c (.bool false))⟩]) (.seq (.rg [⟨some 5, none, .mv (.t 0)⟩,
  ⟨some 6, none, .mv (.t 1)⟩,
  ⟨some 7, none, .callC 37 [.t 5, .t 6]⟩,
  ⟨some 8, none, .bin .eql (.t 7) (.c (.int .i64 0))⟩,
  ⟨some 4, none, .mv (.t 8)⟩]) (.ret)), [.t 4]⟩
def s_spec_l1Str : SFn := ⟨12, .seq (.rg [⟨some 4, none, .mv (.c (.str []))⟩]) (.seq (.rg [⟨some 5, none, .mv (.t 1)⟩,
  ⟨some 6, none, .mv (.t 0)⟩,
  ⟨some 7, none, .mv (.t 1)⟩,
  ⟨some 8, none, .lenL (.t 7)⟩,
  ⟨some 9, none, .callC 37 [.t 6, .t 8]⟩,
  ⟨some 10, none, .ia 1 (.t 5) (.t 9)⟩,
  ⟨some 11, none, .ld (.t 10)⟩,
  ⟨some 4, none, .mv (.t 11)⟩]) (.ret)), [.t 4]⟩
def s_spec_l9Draw2 : SFn := ⟨32, .seq (.rg [⟨some 4, none, .mv (.c .snil)⟩]) (.seq (.rg [⟨some 7, none, .mv (.t 0)⟩,
  ⟨some 8, none, .mv (.t 1)⟩,
  ⟨some 9, none, .callC 37 [.t 7, .t 8]⟩,
  ⟨some 5, none, .mv (.t 9)⟩]) (.seq (.rg [⟨some 10, none, .mv (.t 5)⟩,
  ⟨some 11, none, .mv (.t 0)⟩,
  ⟨some 12, none, .callC 15 [.t 11, .c (.int .i64 2)]⟩,
  ⟨some 13, none, .build [.int .i64 0, .bool false] [(0, (1, .t 10)), (1, (1, .t 12))]⟩,
  ⟨some 14, none, .bslice false [.int .i64 0, .bool false] 1 [(0, .t 13)]⟩,
  ⟨some 6, none, .mv (.t 14)⟩]) (.seq (.seq (.rg [⟨some 15, none, .mv (.t 1)⟩,
  ⟨some 16, none, .bin .gtr (.t 15) (.c (.int .i64 1))⟩,
  ⟨some 17, none, .mv (.t 16)⟩,
  ⟨some 18, some (17, true), .mv (.t 0)⟩,
  ⟨some 19, some (17, true), .callC 15 [.t 18, .c (.int .i64 3)]⟩,
  ⟨some 20, none, .pick (.t 17) (.t 19) (.c (.bool false))⟩]) (.cond (.t 20) (.rg [⟨some 21, none, .mv (.t 6)⟩,
  ⟨some 22, none, .mv (.t 5)⟩,
  ⟨some 23, none, .bin .add (.t 22) (.c (.int .i64 1))⟩,
  ⟨some 24, none, .mv (.t 1)⟩,
  ⟨some 25, none, .bin .rem (.t 23) (.t 24)⟩,
  ⟨some 26, none, .mv (.t 0)⟩,
  ⟨some 27, none, .callC 15 [.t 26, .c (.int .i64 2)]⟩,
  ⟨some 28, none, .build [.int .i64 0, .bool false] [(0, (1, .t 25)), (1, (1, .t 27))]⟩,
  ⟨some 29, none, .bslice false [.int .i64 0, .bool false] 1 [(0, .t 28)]⟩,
  ⟨some 30, none, .app false 16 2 (.t 21) (.t 29)⟩,
  ⟨some 6, none, .mv (.t 30)⟩]) (.skip))) (.seq (.rg [⟨some 31, none, .mv (.t 6)⟩,
  ⟨some 4, none, .mv (.t 31)⟩]) (.ret))))), [.t 4]⟩
def s_spec_l1Int : SFn := ⟨12, .seq (.rg [⟨some 4, none, .mv (.c (.int .i64 0))⟩]) (.seq (.rg [⟨some 5, none, .mv (.t 1)⟩,
  ⟨some 6, none, .mv (.t 0)⟩,
  ⟨some 7, none, .mv (.t 1)⟩,
  ⟨some 8, none, .lenL (.t 7)⟩,
  ⟨some 9, none, .callC 37 [.t 6, .t 8]⟩,
  ⟨some 10, none, .ia 1 (.t 5) (.t 9)⟩,
  ⟨some 11, none, .ld (.t 10)⟩,
  ⟨some 4, none, .mv (.t 11)⟩]) (.ret)), [.t 4]⟩
def s_spec_l9Draw_L0 : SCode := .seq (.seq (.rg [⟨some 17, none, .mv (.t 7)⟩,
  ⟨some 18, none, .mv (.t 0)⟩,
  ⟨some 19, none, .callC 37 [.t 18, .c (.int .i64 3)]⟩,
  ⟨some 20, none, .bin .add (.c (.int .i64 1)) (.t 19)⟩,
  ⟨some 21, none, .bin .lss (.t 17) (.t 20)⟩,
  ⟨some 22, none, .mv (.t 21)⟩,
  ⟨some 23, some (22, true), .mv (.t 7)⟩,
  ⟨some 24, some (22, true), .bin .lss (.t 23) (.c (.int .i64 3))⟩,
  ⟨some 25, none, .pick (.t 22) (.t 24) (.c (.bool false))⟩]) (.cond (.t 25) (.skip) (.exit 0))) (.seq (.blk 1 (.rg [⟨some 28, none, .fa 1 (.t 5)⟩,
  ⟨some 29, none, .ldG (.t 28)⟩,
  ⟨some 30, none, .mv (.t 6)⟩,
  ⟨some 31, none, .mv (.t 7)⟩,
  ⟨some 32, none, .ia 1 (.t 30) (.t 31)⟩,
  ⟨some 33, none, .ldG (.t 32)⟩,
  ⟨some 34, none, .mv (.t 0)⟩,
  ⟨some 35, none, .callC 37 [.t 34, .c (.int .i64 4)]⟩,
  ⟨some 36, none, .bin .add (.c (.int .i64 1)) (.t 35)⟩,
  ⟨some 37, none, .mv (.t 0)⟩,
  ⟨some 38, none, .callC 15 [.t 37, .c (.int .i64 2)]⟩,
  ⟨some 39, none, .build [.str [], .int .i64 0, .bool false] [(0, (1, .t 33)), (1, (1, .t 36)), (2, (1, .t 38))]⟩,
  ⟨some 40, none, .bslice false [.str [], .int .i64 0, .bool false] 1 [(0, .t 39)]⟩,
  ⟨some 41, none, .app true 32 3 (.t 29) (.t 40)⟩,
  ⟨some 42, none, .fa 1 (.t 5)⟩,
  ⟨none, none, .st 1 (.t 42) (.t 41)⟩])) (.rg [⟨some 26, none, .mv (.t 7)⟩,
  ⟨some 27, none, .bin .add (.t 26) (.c (.int .i64 1))⟩,
  ⟨some 7, none, .mv (.t 27)⟩]))
def s_spec_l9Draw_L1 : SCode := .seq (.seq (.rg [⟨some 68, none, .mv (.t 8)⟩,
  ⟨some 69, none, .bin .gtr (.t 68) (.c (.int .i64 0))⟩]) (.cond (.t 69) (.skip) (.exit 2))) (.seq (.blk 3 (.rg [⟨some 72, none, .fa 3 (.t 5)⟩,
  ⟨some 73, none, .ldG (.t 72)⟩,
  ⟨some 74, none, .mv (.t 0)⟩,
  ⟨some 75, none, .bslice false [.str []] 2 [(0, .c (.str [117])), (1, .c (.str [118]))]⟩,
  ⟨some 76, none, .callC 62 [.t 74, .t 75]⟩,
  ⟨some 77, none, .mv (.t 6)⟩,
  ⟨some 78, none, .mv (.t 8)⟩,
  ⟨some 79, none, .ia 1 (.t 77) (.t 78)⟩,
  ⟨some 80, none, .ldG (.t 79)⟩,
  ⟨some 81, none, .bin .add (.t 76) (.t 80)⟩,
  ⟨some 82, none, .mv (.t 0)⟩,
  ⟨some 83, none, .callC 15 [.t 82, .c (.int .i64 2)]⟩,
  ⟨some 84, none, .mv (.t 0)⟩,
  ⟨some 85, none, .fa 1 (.t 5)⟩,
  ⟨some 86, none, .ldG (.t 85)⟩,
  ⟨some 87, none, .lenL (.t 86)⟩,
  ⟨some 88, none, .callC 80 [.t 84, .t 87]⟩,
  ⟨some 89, none, .build [.str [], .bool false, .snil] [(0, (1, .t 81)), (1, (1, .t 83)), (2, (1, .t 88))]⟩,
  ⟨some 90, none, .bslice false [.str [], .bool false, .snil] 1 [(0, .t 89)]⟩,
  ⟨some 91, none, .app false 48 3 (.t 73) (.t 90)⟩,
  ⟨some 92, none, .fa 3 (.t 5)⟩,
  ⟨none, none, .st 1 (.t 92) (.t 91)⟩])) (.rg [⟨some 70, none, .mv (.t 8)⟩,
  ⟨some 71, none, .bin .sub (.t 70) (.c (.int .i64 1))⟩,
  ⟨some 8, none, .mv (.t 71)⟩]))
def s_spec_l9Draw : SFn := ⟨94, .seq (.rg [⟨some 4, none, .alloc [.str [], .snil, .snil, .snil]⟩]) (.seq (.rg [⟨some 9, none, .mv (.t 1)⟩,
  ⟨some 10, none, .mv (.t 0)⟩,
  ⟨some 11, none, .bslice false [.int .i64 0] 4 [(0, .c (.int .i64 1)), (1, .c (.int .i64 1)), (2, .c (.int .i64 3)), (3, .c (.int .i64 2))]⟩,
  ⟨some 12, none, .callC 38 [.t 10, .t 11]⟩,
  ⟨some 13, none, .build [.str [], .int .i64 0, .bool false] [(0, (1, .c (.str [105, 100]))), (1, (1, .t 12))]⟩,
  ⟨some 14, none, .bslice true [.str [], .int .i64 0, .bool false] 1 [(0, .t 13)]⟩,
  ⟨some 15, none, .build [.str [], .snil, .snil, .snil] [(0, (1, .t 9)), (1, (1, .t 14))]⟩,
  ⟨some 5, none, .alloc [.str [], .snil, .snil, .snil]⟩,
  ⟨none, none, .st 4 (.t 5) (.t 15)⟩]) (.seq (.rg [⟨some 16, none, .bslice false [.str []] 3 [(0, .c (.str [97])), (1, .c (.str [98])), (2, .c (.str [99]))]⟩,
  ⟨some 6, none, .mv (.t 16)⟩]) (.seq (.seq (.rg [⟨some 7, none, .mv (.c (.int .i64 0))⟩]) (.blk 0 (.loop s_spec_l9Draw_L0))) (.seq (.rg [⟨some 43, none, .mv (.t 0)⟩,
  ⟨some 44, none, .callC 15 [.t 43, .c (.int .i64 3)]⟩,
  ⟨some 45, none, .build [.int .i64 0, .bool false] [(0, (1, .c (.int .i64 0))), (1, (1, .t 44))]⟩,
  ⟨some 46, none, .bslice false [.int .i64 0, .bool false] 1 [(0, .t 45)]⟩,
  ⟨some 47, none, .fa 2 (.t 5)⟩,
  ⟨none, none, .st 1 (.t 47) (.t 46)⟩]) (.seq (.seq (.rg [⟨some 48, none, .fa 1 (.t 5)⟩,
  ⟨some 49, none, .ldG (.t 48)⟩,
  ⟨some 50, none, .ia 3 (.t 49) (.c (.int .i64 1))⟩,
  ⟨some 51, none, .fa 2 (.t 50)⟩,
  ⟨some 52, none, .ldG (.t 51)⟩,
  ⟨some 53, none, .un .not (.t 52)⟩,
  ⟨some 54, none, .mv (.t 53)⟩,
  ⟨some 55, some (54, true), .mv (.t 0)⟩,
  ⟨some 56, some (54, true), .callC 15 [.t 55, .c (.int .i64 2)]⟩,
  ⟨some 57, none, .pick (.t 54) (.t 56) (.c (.bool false))⟩]) (.cond (.t 57) (.rg [⟨some 58, none, .fa 2 (.t 5)⟩,
  ⟨some 59, none, .ldG (.t 58)⟩,
  ⟨some 60, none, .mv (.t 0)⟩,
  ⟨some 61, none, .callC 15 [.t 60, .c (.int .i64 2)]⟩,
  ⟨some 62, none, .build [.int .i64 0, .bool false] [(0, (1, .c (.int .i64 1))), (1, (1, .t 61))]⟩,
  ⟨some 63, none, .bslice false [.int .i64 0, .bool false] 1 [(0, .t 62)]⟩,
  ⟨some 64, none, .app false 16 2 (.t 59) (.t 63)⟩,
  ⟨some 65, none, .fa 2 (.t 5)⟩,
  ⟨none, none, .st 1 (.t 65) (.t 64)⟩]) (.skip))) (.seq (.seq (.rg [⟨some 66, none, .mv (.t 0)⟩,
  ⟨some 67, none, .callC 37 [.t 66, .c (.int .i64 3)]⟩,
  ⟨some 8, none, .mv (.t 67)⟩]) (.blk 2 (.loop s_spec_l9Draw_L1))) (.seq (.rg [⟨some 93, none, .ldAG 4 (.t 5)⟩,
  ⟨none, none, .st 4 (.t 4) (.t 93)⟩]) (.ret)))))))), [.ldA 4 4]⟩
def s_spec_l10Draw : SFn := ⟨15, .seq (.rg [⟨some 2, none, .mv (.c .snil)⟩]) (.seq (.rg [⟨some 4, none, .mv (.t 0)⟩,
  ⟨some 5, none, .callCZ 59 [.t 4, .c (.str [116])]⟩,
  ⟨some 6, none, .bslice false [.str [], .snil, .snil, .snil] 1 [(0, .t 5)]⟩,
  ⟨some 3, none, .mv (.t 6)⟩]) (.seq (.seq (.rg [⟨some 7, none, .mv (.t 0)⟩,
  ⟨some 8, none, .callC 15 [.t 7, .c (.int .i64 3)]⟩]) (.cond (.t 8) (.rg [⟨some 9, none, .mv (.t 3)⟩,
  ⟨some 10, none, .mv (.t 0)⟩,
  ⟨some 11, none, .callCZ 59 [.t 10, .c (.str [117])]⟩,
  ⟨some 12, none, .bslice false [.str [], .snil, .snil, .snil] 1 [(0, .t 11)]⟩,
  ⟨some 13, none, .app false 88 4 (.t 9) (.t 12)⟩,
  ⟨some 3, none, .mv (.t 13)⟩]) (.skip))) (.seq (.rg [⟨some 14, none, .mv (.t 3)⟩,
  ⟨some 2, none, .mv (.t 14)⟩]) (.ret)))), [.t 2]⟩
def s_spec_l2Num : SFn := ⟨28, .seq (.rg [⟨some 2, none, .mv (.c (.str []))⟩]) (.seq (.blk 0 (.seq (.rg [⟨some 4, none, .mv (.t 0)⟩,
  ⟨some 5, none, .bin .lss (.t 4) (.c (.int .i64 0))⟩,
  ⟨some 3, none, .mv (.t 5)⟩]) (.cond (.t 3) (.seq (.rg [⟨some 6, none, .mv (.t 0)⟩,
  ⟨some 7, none, .un .neg (.t 6)⟩,
  ⟨some 8, none, .callP 81 [.t 7]⟩,
  ⟨some 9, none, .bin .add (.c (.str [45])) (.t 8)⟩,
  ⟨some 2, none, .mv (.t 9)⟩]) (.ret)) (.seq (.rg [⟨some 11, none, .mv (.t 0)⟩,
  ⟨some 12, none, .bin .lss (.t 11) (.c (.int .i64 10))⟩,
  ⟨some 10, none, .mv (.t 12)⟩]) (.cond (.t 10) (.seq (.rg [⟨some 13, none, .mv (.t 0)⟩,
  ⟨some 14, none, .bin .add (.c (.int .i64 48)) (.t 13)⟩,
  ⟨some 15, none, .cvI .u8 (.t 14)⟩,
  ⟨some 16, none, .bslice false [.int .u8 0] 1 [(0, .t 15)]⟩,
  ⟨some 17, none, .cvS (.t 16)⟩,
  ⟨some 2, none, .mv (.t 17)⟩]) (.ret)) (.skip)))))) (.seq (.rg [⟨some 18, none, .mv (.t 0)⟩,
  ⟨some 19, none, .bin .quo (.t 18) (.c (.int .i64 10))⟩,
  ⟨some 20, none, .callP 81 [.t 19]⟩,
  ⟨some 21, none, .mv (.t 0)⟩,
  ⟨some 22, none, .bin .rem (.t 21) (.c (.int .i64 10))⟩,
  ⟨some 23, none, .bin .add (.c (.int .i64 48)) (.t 22)⟩,
  ⟨some 24, none, .cvI .u8 (.t 23)⟩,
  ⟨some 25, none, .bslice false [.int .u8 0] 1 [(0, .t 24)]⟩,
  ⟨some 26, none, .cvS (.t 25)⟩,
  ⟨some 27, none, .bin .add (.t 20) (.t 26)⟩,
  ⟨some 2, none, .mv (.t 27)⟩]) (.ret))), [.t 2]⟩
def s_spec_l9Any_L0 : SCode := .seq (.seq (.rg [⟨some 100, none, .fa 1 (.t 3)⟩,
  ⟨some 101, none, .ldG (.t 100)⟩,
  ⟨some 102, none, .lenL (.t 101)⟩,
  ⟨some 103, none, .mv (.t 0)⟩,
  ⟨some 104, none, .callC 37 [.t 103, .c (.int .i64 2)]⟩,
  ⟨some 105, none, .bin .add (.c (.int .i64 6)) (.t 104)⟩,
  ⟨some 106, none, .bin .lss (.t 102) (.t 105)⟩]) (.cond (.t 106) (.skip) (.exit 1))) (.blk 2 (.rg [⟨some 107, none, .fa 1 (.t 3)⟩,
  ⟨some 108, none, .ldG (.t 107)⟩,
  ⟨some 109, none, .fa 1 (.t 3)⟩,
  ⟨some 110, none, .ldG (.t 109)⟩,
  ⟨some 111, none, .lenL (.t 110)⟩,
  ⟨some 112, none, .callP 81 [.t 111]⟩,
  ⟨some 113, none, .bin .add (.c (.str [122])) (.t 112)⟩,
  ⟨some 114, none, .build [.str [], .int .i64 0, .bool false] [(0, (1, .t 113)), (1, (1, .c (.int .i64 4)))]⟩,
  ⟨some 115, none, .bslice false [.str [], .int .i64 0, .bool false] 1 [(0, .t 114)]⟩,
  ⟨some 116, none, .app true 32 3 (.t 108) (.t 115)⟩,
  ⟨some 117, none, .fa 1 (.t 3)⟩,
  ⟨none, none, .st 1 (.t 117) (.t 116)⟩]))
def s_spec_l9Any : SFn := ⟨119, .seq (.rg [⟨some 2, none, .alloc [.str [], .snil, .snil, .snil]⟩]) (.seq (.rg [⟨some 5, none, .mv (.t 0)⟩,
  ⟨some 6, none, .callC 59 [.t 5, .c (.str [116])]⟩,
  ⟨some 3, none, .alloc [.str [], .snil, .snil, .snil]⟩,
  ⟨none, none, .st 4 (.t 3) (.t 6)⟩]) (.seq (.rg [⟨some 7, none, .mv (.t 0)⟩,
  ⟨some 8, none, .fa 1 (.t 3)⟩,
  ⟨some 9, none, .ldG (.t 8)⟩,
  ⟨some 10, none, .lenL (.t 9)⟩,
  ⟨some 11, none, .callC 37 [.t 7, .t 10]⟩,
  ⟨some 4, none, .mv (.t 11)⟩]) (.seq (.seq (.rg [⟨some 12, none, .mv (.t 0)⟩,
  ⟨some 13, none, .callC 37 [.t 12, .c (.int .i64 16)]⟩]) (.blk 0 (.seq (.rg [⟨some 15, none, .bin .eql (.t 13) (.c (.int .i64 0))⟩,
  ⟨some 14, none, .mv (.t 15)⟩]) (.cond (.t 14) (.rg [⟨some 16, none, .mv (.t 0)⟩,
  ⟨some 17, none, .bslice false [.str []] 4 [(0, .c (.str [])), (1, .c (.str [116, 97, 98, 108, 101])), (2, .c (.str [65])), (3, .c (.str [116, 50]))]⟩,
  ⟨some 18, none, .callC 62 [.t 16, .t 17]⟩,
  ⟨some 19, none, .fa 0 (.t 3)⟩,
  ⟨none, none, .st 1 (.t 19) (.t 18)⟩]) (.seq (.rg [⟨some 21, none, .bin .eql (.t 13) (.c (.int .i64 1))⟩,
  ⟨some 20, none, .mv (.t 21)⟩]) (.cond (.t 20) (.rg [⟨some 22, none, .fa 1 (.t 3)⟩,
  ⟨some 23, none, .ldG (.t 22)⟩,
  ⟨some 24, none, .mv (.t 4)⟩,
  ⟨some 25, none, .mv (.t 0)⟩,
  ⟨some 26, none, .bslice false [.str []] 4 [(0, .c (.str [105, 100])), (1, .c (.str [97])), (2, .c (.str [105, 110, 116])), (3, .c (.str []))]⟩,
  ⟨some 27, none, .callC 62 [.t 25, .t 26]⟩,
  ⟨some 28, none, .ia 3 (.t 23) (.t 24)⟩,
  ⟨some 29, none, .fa 0 (.t 28)⟩,
  ⟨none, none, .st 1 (.t 29) (.t 27)⟩]) (.seq (.rg [⟨some 31, none, .bin .eql (.t 13) (.c (.int .i64 2))⟩,
  ⟨some 30, none, .mv (.t 31)⟩]) (.cond (.t 30) (.rg [⟨some 32, none, .fa 1 (.t 3)⟩,
  ⟨some 33, none, .ldG (.t 32)⟩,
  ⟨some 34, none, .mv (.t 4)⟩,
  ⟨some 35, none, .mv (.t 0)⟩,
  ⟨some 36, none, .callC 37 [.t 35, .c (.int .i64 6)]⟩,
  ⟨some 37, none, .ia 3 (.t 33) (.t 34)⟩,
  ⟨some 38, none, .fa 1 (.t 37)⟩,
  ⟨none, none, .st 1 (.t 38) (.t 36)⟩]) (.seq (.rg [⟨some 40, none, .bin .eql (.t 13) (.c (.int .i64 3))⟩,
  ⟨some 39, none, .mv (.t 40)⟩]) (.cond (.t 39) (.rg [⟨some 41, none, .fa 1 (.t 3)⟩,
  ⟨some 42, none, .ldG (.t 41)⟩,
  ⟨some 43, none, .mv (.t 4)⟩,
  ⟨some 44, none, .fa 1 (.t 3)⟩,
  ⟨some 45, none, .ldG (.t 44)⟩,
  ⟨some 46, none, .mv (.t 4)⟩,
  ⟨some 47, none, .ia 3 (.t 45) (.t 46)⟩,
  ⟨some 48, none, .fa 2 (.t 47)⟩,
  ⟨some 49, none, .ldG (.t 48)⟩,
  ⟨some 50, none, .un .not (.t 49)⟩,
  ⟨some 51, none, .ia 3 (.t 42) (.t 43)⟩,
  ⟨some 52, none, .fa 2 (.t 51)⟩,
  ⟨none, none, .st 1 (.t 52) (.t 50)⟩]) (.seq (.rg [⟨some 54, none, .bin .eql (.t 13) (.c (.int .i64 4))⟩,
  ⟨some 53, none, .mv (.t 54)⟩]) (.cond (.t 53) (.rg [⟨some 55, none, .mv (.t 0)⟩,
  ⟨some 56, none, .fa 1 (.t 3)⟩,
  ⟨some 57, none, .ldG (.t 56)⟩,
  ⟨some 58, none, .lenL (.t 57)⟩,
  ⟨some 59, none, .bin .add (.t 58) (.c (.int .i64 1))⟩,
  ⟨some 60, none, .callC 80 [.t 55, .t 59]⟩,
  ⟨some 61, none, .fa 2 (.t 3)⟩,
  ⟨none, none, .st 1 (.t 61) (.t 60)⟩]) (.seq (.rg [⟨some 63, none, .bin .eql (.t 13) (.c (.int .i64 5))⟩,
  ⟨some 62, none, .mv (.t 63)⟩]) (.cond (.t 62) (.rg [⟨some 64, none, .fa 2 (.t 3)⟩,
  ⟨some 65, none, .ldG (.t 64)⟩,
  ⟨some 66, none, .fa 2 (.t 3)⟩,
  ⟨some 67, none, .ldG (.t 66)⟩,
  ⟨some 68, none, .ia 2 (.t 67) (.c (.int .i64 0))⟩,
  ⟨some 69, none, .ldAG 2 (.t 68)⟩,
  ⟨some 70, none, .bslice false [.int .i64 0, .bool false] 1 [(0, .t 69)]⟩,
  ⟨some 71, none, .app false 16 2 (.t 65) (.t 70)⟩,
  ⟨some 72, none, .fa 2 (.t 3)⟩,
  ⟨none, none, .st 1 (.t 72) (.t 71)⟩]) (.seq (.rg [⟨some 74, none, .bin .eql (.t 13) (.c (.int .i64 6))⟩,
  ⟨some 73, none, .mv (.t 74)⟩]) (.cond (.t 73) (.rg [⟨some 75, none, .fa 3 (.t 3)⟩,
  ⟨some 76, none, .ldG (.t 75)⟩,
  ⟨some 77, none, .mv (.t 0)⟩,
  ⟨some 78, none, .bslice false [.str []] 3 [(0, .c (.str [117, 98])), (1, .c (.str [119])), (2, .c (.str [100, 101, 115, 99]))]⟩,
  ⟨some 79, none, .callC 62 [.t 77, .t 78]⟩,
  ⟨some 80, none, .mv (.t 0)⟩,
  ⟨some 81, none, .fa 1 (.t 3)⟩,
  ⟨some 82, none, .ldG (.t 81)⟩,
  ⟨some 83, none, .lenL (.t 82)⟩,
  ⟨some 84, none, .bin .add (.t 83) (.c (.int .i64 1))⟩,
  ⟨some 85, none, .callC 80 [.t 80, .t 84]⟩,
  ⟨some 86, none, .build [.str [], .bool false, .snil] [(0, (1, .t 79)), (2, (1, .t 85))]⟩,
  ⟨some 87, none, .bslice false [.str [], .bool false, .snil] 1 [(0, .t 86)]⟩,
  ⟨some 88, none, .app false 48 3 (.t 76) (.t 87)⟩,
  ⟨some 89, none, .fa 3 (.t 3)⟩,
  ⟨none, none, .st 1 (.t 89) (.t 88)⟩]) (.seq (.rg [⟨some 91, none, .bin .eql (.t 13) (.c (.int .i64 7))⟩,
  ⟨some 90, none, .mv (.t 91)⟩]) (.cond (.t 90) (.rg [⟨some 92, none, .fa 1 (.t 3)⟩,
  ⟨some 93, none, .ldG (.t 92)⟩,
  ⟨some 94, none, .mv (.t 0)⟩,
  ⟨some 95, none, .callC 37 [.t 94, .c (.int .i64 2)]⟩,
  ⟨some 96, none, .sliL 3 (.t 93) none (some (.t 95))⟩,
  ⟨some 97, none, .fa 1 (.t 3)⟩,
  ⟨none, none, .st 1 (.t 97) (.t 96)⟩]) (.seq (.rg [⟨some 99, none, .bin .eql (.t 13) (.c (.int .i64 8))⟩,
  ⟨some 98, none, .mv (.t 99)⟩]) (.cond (.t 98) (.blk 1 (.loop s_spec_l9Any_L0)) (.skip))))))))))))))))))))) (.seq (.rg [⟨some 118, none, .ldAG 4 (.t 3)⟩,
  ⟨none, none, .st 4 (.t 2) (.t 118)⟩]) (.ret))))), [.ldA 2 4]⟩
def s_spec_l10Any : SFn := ⟨25, .seq (.rg [⟨some 2, none, .mv (.c .snil)⟩]) (.seq (.rg [⟨some 4, none, .mv (.t 0)⟩,
  ⟨some 5, none, .callC 34 [.t 4]⟩,
  ⟨some 3, none, .mv (.t 5)⟩]) (.seq (.seq (.rg [⟨some 6, none, .mv (.t 0)⟩,
  ⟨some 7, none, .callC 37 [.t 6, .c (.int .i64 8)]⟩]) (.blk 0 (.seq (.rg [⟨some 9, none, .bin .eql (.t 7) (.c (.int .i64 0))⟩,
  ⟨some 8, none, .mv (.t 9)⟩]) (.cond (.t 8) (.rg [⟨some 10, none, .mv (.t 3)⟩,
  ⟨some 11, none, .mv (.t 0)⟩,
  ⟨some 12, none, .callCZ 58 [.t 11]⟩,
  ⟨some 13, none, .bslice false [.str [], .snil, .snil, .snil] 1 [(0, .t 12)]⟩,
  ⟨some 14, none, .app false 88 4 (.t 10) (.t 13)⟩,
  ⟨some 3, none, .mv (.t 14)⟩]) (.seq (.rg [⟨some 16, none, .bin .eql (.t 7) (.c (.int .i64 1))⟩,
  ⟨some 15, none, .mv (.t 16)⟩]) (.cond (.t 15) (.rg [⟨some 17, none, .mv (.t 3)⟩,
  ⟨some 18, none, .mv (.t 0)⟩,
  ⟨some 19, none, .callCZ 59 [.t 18, .c (.str [118])]⟩,
  ⟨some 20, none, .mv (.t 0)⟩,
  ⟨some 21, none, .callCZ 59 [.t 20, .c (.str [119])]⟩,
  ⟨some 22, none, .bslice false [.str [], .snil, .snil, .snil] 2 [(0, .t 19), (1, .t 21)]⟩,
  ⟨some 23, none, .app false 88 4 (.t 17) (.t 22)⟩,
  ⟨some 3, none, .mv (.t 23)⟩]) (.skip))))))) (.seq (.rg [⟨some 24, none, .mv (.t 3)⟩,
  ⟨some 2, none, .mv (.t 24)⟩]) (.ret)))), [.t 2]⟩
def s_spec_l22Defs : SFn := ⟨9, .seq (.rg [⟨some 2, none, .mv (.c .snil)⟩]) (.seq (.seq (.rg [⟨some 3, none, .mv (.t 0)⟩,
  ⟨some 4, none, .callC 15 [.t 3, .c (.int .i64 12)]⟩]) (.cond (.t 4) (.seq (.rg [⟨some 5, none, .mv (.t 0)⟩,
  ⟨some 6, none, .callC 33 [.t 5]⟩,
  ⟨some 2, none, .mv (.t 6)⟩]) (.ret)) (.skip))) (.seq (.rg [⟨some 7, none, .mv (.t 0)⟩,
  ⟨some 8, none, .callC 34 [.t 7]⟩,
  ⟨some 2, none, .mv (.t 8)⟩]) (.ret))), [.t 2]⟩
def s_spec_l1In : SFn := ⟨15, .seq (.rg [⟨some 6, none, .mv (.c (.bool false))⟩]) (.seq (.rg [⟨some 7, none, .mv (.t 0)⟩,
  ⟨some 8, none, .mv (.t 1)⟩,
  ⟨some 9, none, .bin .geq (.t 7) (.t 8)⟩,
  ⟨some 10, none, .mv (.t 9)⟩,
  ⟨some 11, some (10, true), .mv (.t 0)⟩,
  ⟨some 12, some (10, true), .mv (.t 2)⟩,
  ⟨some 13, some (10, true), .bin .leq (.t 11) (.t 12)⟩,
  ⟨some 14, none, .pick (.t 10) (.t 13) (.c (.bool false))⟩,
  ⟨some 6, none, .mv (.t 14)⟩]) (.ret)), [.t 6]⟩
def s_spec_l8Small : SFn := ⟨6, .seq (.rg [⟨some 2, none, .mv (.c (.bool false))⟩]) (.seq (.rg [⟨some 3, none, .mv (.t 0)⟩,
  ⟨some 4, none, .cvI .i64 (.t 3)⟩,
  ⟨some 5, none, .callP 14 [.t 4, .c (.int .i64 97), .c (.int .i64 122)]⟩,
  ⟨some 2, none, .mv (.t 5)⟩]) (.ret)), [.t 2]⟩
def s_spec_l2Digit : SFn := ⟨6, .seq (.rg [⟨some 2, none, .mv (.c (.bool false))⟩]) (.seq (.rg [⟨some 3, none, .mv (.t 0)⟩,
  ⟨some 4, none, .cvI .i64 (.t 3)⟩,
  ⟨some 5, none, .callP 14 [.t 4, .c (.int .i64 48), .c (.int .i64 57)]⟩,
  ⟨some 2, none, .mv (.t 5)⟩]) (.ret)), [.t 2]⟩
def s_spec_l8Name_L0 : SCode := .seq (.seq (.rg [⟨some 4, none, .mv (.t 3)⟩,
  ⟨some 5, none, .mv (.t 0)⟩,
  ⟨some 6, none, .lenS (.t 5)⟩,
  ⟨some 7, none, .bin .lss (.t 4) (.t 6)⟩]) (.cond (.t 7) (.skip) (.exit 0))) (.seq (.blk 1 (.seq (.rg [⟨some 10, none, .mv (.t 0)⟩,
  ⟨some 11, none, .mv (.t 3)⟩,
  ⟨some 12, none, .ix (.t 10) (.t 11)⟩,
  ⟨some 13, none, .callP 95 [.t 12]⟩,
  ⟨some 14, none, .un .not (.t 13)⟩,
  ⟨some 15, none, .mv (.t 14)⟩,
  ⟨some 16, some (15, true), .mv (.t 3)⟩,
  ⟨some 17, some (15, true), .bin .eql (.t 16) (.c (.int .i64 0))⟩,
  ⟨some 18, some (15, true), .mv (.t 17)⟩,
  ⟨some 19, some (18, false), .mv (.t 0)⟩,
  ⟨some 20, some (18, false), .mv (.t 3)⟩,
  ⟨some 21, some (18, false), .ix (.t 19) (.t 20)⟩,
  ⟨some 22, some (18, false), .callP 96 [.t 21]⟩,
  ⟨some 23, some (18, false), .un .not (.t 22)⟩,
  ⟨some 24, some (15, true), .pick (.t 18) (.c (.bool true)) (.t 23)⟩,
  ⟨some 25, none, .pick (.t 15) (.t 24) (.c (.bool false))⟩]) (.cond (.t 25) (.seq (.rg [⟨some 2, none, .mv (.c (.bool false))⟩]) (.ret)) (.skip)))) (.rg [⟨some 8, none, .mv (.t 3)⟩,
  ⟨some 9, none, .bin .add (.t 8) (.c (.int .i64 1))⟩,
  ⟨some 3, none, .mv (.t 9)⟩]))
def s_spec_l8Name : SFn := ⟨29, .seq (.rg [⟨some 2, none, .mv (.c (.bool false))⟩]) (.seq (.seq (.rg [⟨some 3, none, .mv (.c (.int .i64 0))⟩]) (.blk 0 (.loop s_spec_l8Name_L0))) (.seq (.rg [⟨some 26, none, .mv (.t 0)⟩,
  ⟨some 27, none, .lenS (.t 26)⟩,
  ⟨some 28, none, .callP 14 [.t 27, .c (.int .i64 1), .c (.int .i64 8)]⟩,
  ⟨some 2, none, .mv (.t 28)⟩]) (.ret))), [.t 2]⟩
def s_spec_l9Has_L0 : SCode := .seq (.seq (.rg [⟨some 6, none, .mv (.t 5)⟩,
  ⟨some 7, none, .mv (.t 0)⟩,
  ⟨some 8, none, .lenL (.t 7)⟩,
  ⟨some 9, none, .bin .lss (.t 6) (.t 8)⟩]) (.cond (.t 9) (.skip) (.exit 0))) (.seq (.blk 1 (.seq (.rg [⟨some 12, none, .mv (.t 0)⟩,
  ⟨some 13, none, .mv (.t 5)⟩,
  ⟨some 14, none, .ia 1 (.t 12) (.t 13)⟩,
  ⟨some 15, none, .ld (.t 14)⟩,
  ⟨some 16, none, .mv (.t 1)⟩,
  ⟨some 17, none, .bin .eql (.t 15) (.t 16)⟩]) (.cond (.t 17) (.seq (.rg [⟨some 4, none, .mv (.c (.bool true))⟩]) (.ret)) (.skip)))) (.rg [⟨some 10, none, .mv (.t 5)⟩,
  ⟨some 11, none, .bin .add (.t 10) (.c (.int .i64 1))⟩,
  ⟨some 5, none, .mv (.t 11)⟩]))
def s_spec_l9Has : SFn := ⟨18, .seq (.rg [⟨some 4, none, .mv (.c (.bool false))⟩]) (.seq (.seq (.rg [⟨some 5, none, .mv (.c (.int .i64 0))⟩]) (.blk 0 (.loop s_spec_l9Has_L0))) (.seq (.rg [⟨some 4, none, .mv (.c (.bool false))⟩]) (.ret))), [.t 4]⟩
def s_spec_l9Word : SFn := ⟨11, .seq (.rg [⟨some 2, none, .mv (.c (.bool false))⟩]) (.seq (.rg [⟨some 3, none, .mv (.t 0)⟩,
  ⟨some 4, none, .callP 90 [.t 3]⟩,
  ⟨some 5, none, .mv (.t 4)⟩,
  ⟨some 6, some (5, true), .bslice false [.str []] 10 [(0, .c (.str [116, 97, 98, 108, 101])), (1, .c (.str [112, 114, 105, 109, 97, 114, 121])), (2, .c (.str [117, 110, 105, 113, 117, 101])), (3, .c (.str [105, 110, 100, 101, 120])), (4, .c (.str [110, 117, 108, 108])), (5, .c (.str [100, 101, 115, 99])), (6, .c (.str [105, 110, 116])), (7, .c (.str [110, 117, 109])), (8, .c (.str [116, 101, 120, 116])), (9, .c (.str [98, 111, 111, 108]))]⟩,
  ⟨some 7, some (5, true), .mv (.t 0)⟩,
  ⟨some 8, some (5, true), .callP 91 [.t 6, .t 7]⟩,
  ⟨some 9, some (5, true), .un .not (.t 8)⟩,
  ⟨some 10, none, .pick (.t 5) (.t 9) (.c (.bool false))⟩,
  ⟨some 2, none, .mv (.t 10)⟩]) (.ret)), [.t 2]⟩
def s_spec_l9Names_L0 : SCode := .seq (.seq (.rg [⟨some 5, none, .mv (.t 3)⟩,
  ⟨some 6, none, .fa 1 (.t 1)⟩,
  ⟨some 7, none, .ld (.t 6)⟩,
  ⟨some 8, none, .lenL (.t 7)⟩,
  ⟨some 9, none, .bin .lss (.t 5) (.t 8)⟩]) (.cond (.t 9) (.skip) (.exit 0))) (.seq (.blk 1 (.seq (.rg [⟨some 12, none, .fa 1 (.t 1)⟩,
  ⟨some 13, none, .ld (.t 12)⟩,
  ⟨some 14, none, .mv (.t 3)⟩,
  ⟨some 15, none, .ia 3 (.t 13) (.t 14)⟩,
  ⟨some 16, none, .fa 0 (.t 15)⟩,
  ⟨some 17, none, .ld (.t 16)⟩,
  ⟨some 18, none, .callP 84 [.t 17]⟩,
  ⟨some 19, none, .un .not (.t 18)⟩]) (.cond (.t 19) (.seq (.rg [⟨some 2, none, .mv (.c (.bool false))⟩]) (.ret)) (.skip)))) (.rg [⟨some 10, none, .mv (.t 3)⟩,
  ⟨some 11, none, .bin .add (.t 10) (.c (.int .i64 1))⟩,
  ⟨some 3, none, .mv (.t 11)⟩]))
def s_spec_l9Names_L1 : SCode := .seq (.seq (.rg [⟨some 20, none, .mv (.t 4)⟩,
  ⟨some 21, none, .fa 3 (.t 1)⟩,
  ⟨some 22, none, .ld (.t 21)⟩,
  ⟨some 23, none, .lenL (.t 22)⟩,
  ⟨some 24, none, .bin .lss (.t 20) (.t 23)⟩]) (.cond (.t 24) (.skip) (.exit 2))) (.seq (.blk 3 (.seq (.rg [⟨some 27, none, .fa 3 (.t 1)⟩,
  ⟨some 28, none, .ld (.t 27)⟩,
  ⟨some 29, none, .mv (.t 4)⟩,
  ⟨some 30, none, .ia 3 (.t 28) (.t 29)⟩,
  ⟨some 31, none, .fa 0 (.t 30)⟩,
  ⟨some 32, none, .ld (.t 31)⟩,
  ⟨some 33, none, .callP 84 [.t 32]⟩,
  ⟨some 34, none, .un .not (.t 33)⟩]) (.cond (.t 34) (.seq (.rg [⟨some 2, none, .mv (.c (.bool false))⟩]) (.ret)) (.skip)))) (.rg [⟨some 25, none, .mv (.t 4)⟩,
  ⟨some 26, none, .bin .add (.t 25) (.c (.int .i64 1))⟩,
  ⟨some 4, none, .mv (.t 26)⟩]))
def s_spec_l9Names : SFn := ⟨38, .seq (.rg [⟨some 1, none, .box (.t 0)⟩,
  ⟨some 2, none, .mv (.c (.bool false))⟩]) (.seq (.seq (.rg [⟨some 3, none, .mv (.c (.int .i64 0))⟩]) (.blk 0 (.loop s_spec_l9Names_L0))) (.seq (.seq (.rg [⟨some 4, none, .mv (.c (.int .i64 0))⟩]) (.blk 2 (.loop s_spec_l9Names_L1))) (.seq (.rg [⟨some 35, none, .fa 0 (.t 1)⟩,
  ⟨some 36, none, .ld (.t 35)⟩,
  ⟨some 37, none, .callP 84 [.t 36]⟩,
  ⟨some 2, none, .mv (.t 37)⟩]) (.ret)))), [.t 2]⟩
def s_spec_l9Types_L0 : SCode := .seq (.seq (.rg [⟨some 4, none, .mv (.t 3)⟩,
  ⟨some 5, none, .fa 1 (.t 1)⟩,
  ⟨some 6, none, .ld (.t 5)⟩,
  ⟨some 7, none, .lenL (.t 6)⟩,
  ⟨some 8, none, .bin .lss (.t 4) (.t 7)⟩]) (.cond (.t 8) (.skip) (.exit 0))) (.seq (.blk 1 (.seq (.rg [⟨some 11, none, .fa 1 (.t 1)⟩,
  ⟨some 12, none, .ld (.t 11)⟩,
  ⟨some 13, none, .mv (.t 3)⟩,
  ⟨some 14, none, .ia 3 (.t 12) (.t 13)⟩,
  ⟨some 15, none, .fa 1 (.t 14)⟩,
  ⟨some 16, none, .ld (.t 15)⟩,
  ⟨some 17, none, .callP 14 [.t 16, .c (.int .i64 1), .c (.int .i64 4)]⟩,
  ⟨some 18, none, .un .not (.t 17)⟩]) (.cond (.t 18) (.seq (.rg [⟨some 2, none, .mv (.c (.bool false))⟩]) (.ret)) (.skip)))) (.rg [⟨some 9, none, .mv (.t 3)⟩,
  ⟨some 10, none, .bin .add (.t 9) (.c (.int .i64 1))⟩,
  ⟨some 3, none, .mv (.t 10)⟩]))
def s_spec_l9Types : SFn := ⟨23, .seq (.rg [⟨some 1, none, .box (.t 0)⟩,
  ⟨some 2, none, .mv (.c (.bool false))⟩]) (.seq (.seq (.rg [⟨some 3, none, .mv (.c (.int .i64 0))⟩]) (.blk 0 (.loop s_spec_l9Types_L0))) (.seq (.rg [⟨some 19, none, .fa 1 (.t 1)⟩,
  ⟨some 20, none, .ld (.t 19)⟩,
  ⟨some 21, none, .lenL (.t 20)⟩,
  ⟨some 22, none, .callP 14 [.t 21, .c (.int .i64 1), .c (.int .i64 6)]⟩,
  ⟨some 2, none, .mv (.t 22)⟩]) (.ret))), [.t 2]⟩
def s_spec_l9Col_L0 : SCode := .seq (.seq (.rg [⟨some 6, none, .mv (.t 5)⟩,
  ⟨some 7, none, .fa 1 (.t 2)⟩,
  ⟨some 8, none, .ld (.t 7)⟩,
  ⟨some 9, none, .lenL (.t 8)⟩,
  ⟨some 10, none, .bin .lss (.t 6) (.t 9)⟩]) (.cond (.t 10) (.skip) (.exit 0))) (.seq (.blk 1 (.seq (.rg [⟨some 13, none, .fa 1 (.t 2)⟩,
  ⟨some 14, none, .ld (.t 13)⟩,
  ⟨some 15, none, .mv (.t 5)⟩,
  ⟨some 16, none, .ia 3 (.t 14) (.t 15)⟩,
  ⟨some 17, none, .fa 0 (.t 16)⟩,
  ⟨some 18, none, .ld (.t 17)⟩,
  ⟨some 19, none, .mv (.t 1)⟩,
  ⟨some 20, none, .bin .eql (.t 18) (.t 19)⟩]) (.cond (.t 20) (.seq (.rg [⟨some 21, none, .mv (.t 5)⟩,
  ⟨some 4, none, .mv (.t 21)⟩]) (.ret)) (.skip)))) (.rg [⟨some 11, none, .mv (.t 5)⟩,
  ⟨some 12, none, .bin .add (.t 11) (.c (.int .i64 1))⟩,
  ⟨some 5, none, .mv (.t 12)⟩]))
def s_spec_l9Col : SFn := ⟨22, .seq (.rg [⟨some 2, none, .box (.t 0)⟩,
  ⟨some 4, none, .mv (.c (.int .i64 0))⟩]) (.seq (.seq (.rg [⟨some 5, none, .mv (.c (.int .i64 0))⟩]) (.blk 0 (.loop s_spec_l9Col_L0))) (.seq (.rg [⟨some 4, none, .mv (.c (.int .i64 (-1)))⟩]) (.ret))), [.t 4]⟩
def s_spec_l9Once_L0 : SCode := .seq (.seq (.rg [⟨some 6, none, .mv (.t 3)⟩,
  ⟨some 7, none, .fa 1 (.t 1)⟩,
  ⟨some 8, none, .ld (.t 7)⟩,
  ⟨some 9, none, .lenL (.t 8)⟩,
  ⟨some 10, none, .bin .lss (.t 6) (.t 9)⟩]) (.cond (.t 10) (.skip) (.exit 0))) (.seq (.blk 1 (.seq (.rg [⟨some 13, none, .ldA 4 (.t 1)⟩,
  ⟨some 14, none, .fa 1 (.t 1)⟩,
  ⟨some 15, none, .ld (.t 14)⟩,
  ⟨some 16, none, .mv (.t 3)⟩,
  ⟨some 17, none, .ia 3 (.t 15) (.t 16)⟩,
  ⟨some 18, none, .fa 0 (.t 17)⟩,
  ⟨some 19, none, .ld (.t 18)⟩,
  ⟨some 20, none, .callP 85 [.t 13, .t 19]⟩,
  ⟨some 21, none, .mv (.t 3)⟩,
  ⟨some 22, none, .bin .neq (.t 20) (.t 21)⟩]) (.cond (.t 22) (.seq (.rg [⟨some 2, none, .mv (.c (.bool false))⟩]) (.ret)) (.skip)))) (.rg [⟨some 11, none, .mv (.t 3)⟩,
  ⟨some 12, none, .bin .add (.t 11) (.c (.int .i64 1))⟩,
  ⟨some 3, none, .mv (.t 12)⟩]))
def s_spec_l9Once_L1 : SCode := .seq (.seq (.rg [⟨some 30, none, .mv (.t 5)⟩,
  ⟨some 31, none, .mv (.t 4)⟩,
  ⟨some 32, none, .bin .lss (.t 30) (.t 31)⟩]) (.cond (.t 32) (.skip) (.exit 4))) (.seq (.blk 5 (.seq (.rg [⟨some 35, none, .fa 3 (.t 1)⟩,
  ⟨some 36, none, .ld (.t 35)⟩,
  ⟨some 37, none, .mv (.t 5)⟩,
  ⟨some 38, none, .ia 3 (.t 36) (.t 37)⟩,
  ⟨some 39, none, .fa 0 (.t 38)⟩,
  ⟨some 40, none, .ld (.t 39)⟩,
  ⟨some 41, none, .fa 3 (.t 1)⟩,
  ⟨some 42, none, .ld (.t 41)⟩,
  ⟨some 43, none, .mv (.t 4)⟩,
  ⟨some 44, none, .ia 3 (.t 42) (.t 43)⟩,
  ⟨some 45, none, .fa 0 (.t 44)⟩,
  ⟨some 46, none, .ld (.t 45)⟩,
  ⟨some 47, none, .bin .eql (.t 40) (.t 46)⟩]) (.cond (.t 47) (.seq (.rg [⟨some 2, none, .mv (.c (.bool false))⟩]) (.ret)) (.skip)))) (.rg [⟨some 33, none, .mv (.t 5)⟩,
  ⟨some 34, none, .bin .add (.t 33) (.c (.int .i64 1))⟩,
  ⟨some 5, none, .mv (.t 34)⟩]))
def s_spec_l9Once_L2 : SCode := .seq (.seq (.rg [⟨some 23, none, .mv (.t 4)⟩,
  ⟨some 24, none, .fa 3 (.t 1)⟩,
  ⟨some 25, none, .ld (.t 24)⟩,
  ⟨some 26, none, .lenL (.t 25)⟩,
  ⟨some 27, none, .bin .lss (.t 23) (.t 26)⟩]) (.cond (.t 27) (.skip) (.exit 2))) (.seq (.blk 3 (.seq (.rg [⟨some 5, none, .mv (.c (.int .i64 0))⟩]) (.blk 4 (.loop s_spec_l9Once_L1)))) (.rg [⟨some 28, none, .mv (.t 4)⟩,
  ⟨some 29, none, .bin .add (.t 28) (.c (.int .i64 1))⟩,
  ⟨some 4, none, .mv (.t 29)⟩]))
def s_spec_l9Once : SFn := ⟨48, .seq (.rg [⟨some 1, none, .box (.t 0)⟩,
  ⟨some 2, none, .mv (.c (.bool false))⟩]) (.seq (.seq (.rg [⟨some 3, none, .mv (.c (.int .i64 0))⟩]) (.blk 0 (.loop s_spec_l9Once_L0))) (.seq (.seq (.rg [⟨some 4, none, .mv (.c (.int .i64 0))⟩]) (.blk 2 (.loop s_spec_l9Once_L2))) (.seq (.rg [⟨some 2, none, .mv (.c (.bool true))⟩]) (.ret)))), [.t 2]⟩
def s_spec_l9Parts_L0 : SCode := .seq (.seq (.rg [⟨some 6, none, .mv (.t 5)⟩,
  ⟨some 7, none, .mv (.t 1)⟩,
  ⟨some 8, none, .lenL (.t 7)⟩,
  ⟨some 9, none, .bin .lss (.t 6) (.t 8)⟩]) (.cond (.t 9) (.skip) (.exit 0))) (.seq (.blk 1 (.seq (.rg [⟨some 12, none, .mv (.t 1)⟩,
  ⟨some 13, none, .mv (.t 5)⟩,
  ⟨some 14, none, .ia 2 (.t 12) (.t 13)⟩,
  ⟨some 15, none, .fa 0 (.t 14)⟩,
  ⟨some 16, none, .ld (.t 15)⟩,
  ⟨some 17, none, .fa 1 (.t 2)⟩,
  ⟨some 18, none, .ld (.t 17)⟩,
  ⟨some 19, none, .lenL (.t 18)⟩,
  ⟨some 20, none, .bin .sub (.t 19) (.c (.int .i64 1))⟩,
  ⟨some 21, none, .callP 14 [.t 16, .c (.int .i64 0), .t 20]⟩,
  ⟨some 22, none, .un .not (.t 21)⟩,
  ⟨some 23, none, .mv (.t 22)⟩,
  ⟨some 24, some (23, false), .mv (.t 5)⟩,
  ⟨some 25, some (23, false), .bin .gtr (.t 24) (.c (.int .i64 0))⟩,
  ⟨some 26, some (23, false), .mv (.t 25)⟩,
  ⟨some 27, some (26, true), .mv (.t 1)⟩,
  ⟨some 28, some (26, true), .ia 2 (.t 27) (.c (.int .i64 0))⟩,
  ⟨some 29, some (26, true), .fa 0 (.t 28)⟩,
  ⟨some 30, some (26, true), .ld (.t 29)⟩,
  ⟨some 31, some (26, true), .mv (.t 1)⟩,
  ⟨some 32, some (26, true), .mv (.t 5)⟩,
  ⟨some 33, some (26, true), .ia 2 (.t 31) (.t 32)⟩,
  ⟨some 34, some (26, true), .fa 0 (.t 33)⟩,
  ⟨some 35, some (26, true), .ld (.t 34)⟩,
  ⟨some 36, some (26, true), .bin .eql (.t 30) (.t 35)⟩,
  ⟨some 37, some (23, false), .pick (.t 26) (.t 36) (.c (.bool false))⟩,
  ⟨some 38, none, .pick (.t 23) (.c (.bool true)) (.t 37)⟩]) (.cond (.t 38) (.seq (.rg [⟨some 4, none, .mv (.c (.bool false))⟩]) (.ret)) (.skip)))) (.rg [⟨some 10, none, .mv (.t 5)⟩,
  ⟨some 11, none, .bin .add (.t 10) (.c (.int .i64 1))⟩,
  ⟨some 5, none, .mv (.t 11)⟩]))
def s_spec_l9Parts : SFn := ⟨42, .seq (.rg [⟨some 2, none, .box (.t 0)⟩,
  ⟨some 4, none, .mv (.c (.bool false))⟩]) (.seq (.seq (.rg [⟨some 5, none, .mv (.c (.int .i64 0))⟩]) (.blk 0 (.loop s_spec_l9Parts_L0))) (.seq (.rg [⟨some 39, none, .mv (.t 1)⟩,
  ⟨some 40, none, .lenL (.t 39)⟩,
  ⟨some 41, none, .callP 14 [.t 40, .c (.int .i64 1), .c (.int .i64 2)]⟩,
  ⟨some 4, none, .mv (.t 41)⟩]) (.ret))), [.t 4]⟩
def s_spec_l9AllParts_L0 : SCode := .seq (.seq (.rg [⟨some 4, none, .mv (.t 3)⟩,
  ⟨some 5, none, .fa 3 (.t 1)⟩,
  ⟨some 6, none, .ld (.t 5)⟩,
  ⟨some 7, none, .lenL (.t 6)⟩,
  ⟨some 8, none, .bin .lss (.t 4) (.t 7)⟩]) (.cond (.t 8) (.skip) (.exit 0))) (.seq (.blk 1 (.seq (.rg [⟨some 11, none, .ldA 4 (.t 1)⟩,
  ⟨some 12, none, .fa 3 (.t 1)⟩,
  ⟨some 13, none, .ld (.t 12)⟩,
  ⟨some 14, none, .mv (.t 3)⟩,
  ⟨some 15, none, .ia 3 (.t 13) (.t 14)⟩,
  ⟨some 16, none, .fa 2 (.t 15)⟩,
  ⟨some 17, none, .ld (.t 16)⟩,
  ⟨some 18, none, .callP 86 [.t 11, .t 17]⟩,
  ⟨some 19, none, .un .not (.t 18)⟩]) (.cond (.t 19) (.seq (.rg [⟨some 2, none, .mv (.c (.bool false))⟩]) (.ret)) (.skip)))) (.rg [⟨some 9, none, .mv (.t 3)⟩,
  ⟨some 10, none, .bin .add (.t 9) (.c (.int .i64 1))⟩,
  ⟨some 3, none, .mv (.t 10)⟩]))
def s_spec_l9AllParts : SFn := ⟨24, .seq (.rg [⟨some 1, none, .box (.t 0)⟩,
  ⟨some 2, none, .mv (.c (.bool false))⟩]) (.seq (.seq (.rg [⟨some 3, none, .mv (.c (.int .i64 0))⟩]) (.blk 0 (.loop s_spec_l9AllParts_L0))) (.seq (.rg [⟨some 20, none, .ldA 4 (.t 1)⟩,
  ⟨some 21, none, .fa 2 (.t 1)⟩,
  ⟨some 22, none, .ld (.t 21)⟩,
  ⟨some 23, none, .callP 86 [.t 20, .t 22]⟩,
  ⟨some 2, none, .mv (.t 23)⟩]) (.ret))), [.t 2]⟩
def s_spec_CheckDef_L0 : SCode := .seq (.seq (.rg [⟨some 25, none, .mv (.t 3)⟩,
  ⟨some 26, none, .fa 2 (.t 1)⟩,
  ⟨some 27, none, .ld (.t 26)⟩,
  ⟨some 28, none, .lenL (.t 27)⟩,
  ⟨some 29, none, .bin .lss (.t 25) (.t 28)⟩]) (.cond (.t 29) (.skip) (.exit 1))) (.seq (.blk 2 (.seq (.rg [⟨some 32, none, .fa 1 (.t 1)⟩,
  ⟨some 33, none, .ld (.t 32)⟩,
  ⟨some 34, none, .fa 2 (.t 1)⟩,
  ⟨some 35, none, .ld (.t 34)⟩,
  ⟨some 36, none, .mv (.t 3)⟩,
  ⟨some 37, none, .ia 2 (.t 35) (.t 36)⟩,
  ⟨some 38, none, .fa 0 (.t 37)⟩,
  ⟨some 39, none, .ld (.t 38)⟩,
  ⟨some 40, none, .ia 3 (.t 33) (.t 39)⟩,
  ⟨some 41, none, .fa 2 (.t 40)⟩,
  ⟨some 42, none, .ld (.t 41)⟩]) (.cond (.t 42) (.seq (.rg [⟨some 2, none, .mv (.c (.int .i64 4))⟩]) (.ret)) (.skip)))) (.rg [⟨some 30, none, .mv (.t 3)⟩,
  ⟨some 31, none, .bin .add (.t 30) (.c (.int .i64 1))⟩,
  ⟨some 3, none, .mv (.t 31)⟩]))
def s_spec_CheckDef : SFn := ⟨43, .seq (.rg [⟨some 1, none, .box (.t 0)⟩,
  ⟨some 2, none, .mv (.c (.int .i64 0))⟩]) (.seq (.blk 0 (.seq (.rg [⟨some 5, none, .ldA 4 (.t 1)⟩,
  ⟨some 6, none, .callP 71 [.t 5]⟩,
  ⟨some 7, none, .un .not (.t 6)⟩,
  ⟨some 4, none, .mv (.t 7)⟩]) (.cond (.t 4) (.seq (.rg [⟨some 2, none, .mv (.c (.int .i64 1))⟩]) (.ret)) (.seq (.rg [⟨some 9, none, .ldA 4 (.t 1)⟩,
  ⟨some 10, none, .callP 72 [.t 9]⟩,
  ⟨some 11, none, .un .not (.t 10)⟩,
  ⟨some 8, none, .mv (.t 11)⟩]) (.cond (.t 8) (.seq (.rg [⟨some 2, none, .mv (.c (.int .i64 2))⟩]) (.ret)) (.seq (.rg [⟨some 13, none, .ldA 4 (.t 1)⟩,
  ⟨some 14, none, .callP 73 [.t 13]⟩,
  ⟨some 15, none, .un .not (.t 14)⟩,
  ⟨some 12, none, .mv (.t 15)⟩]) (.cond (.t 12) (.seq (.rg [⟨some 2, none, .mv (.c (.int .i64 3))⟩]) (.ret)) (.seq (.rg [⟨some 17, none, .fa 3 (.t 1)⟩,
  ⟨some 18, none, .ld (.t 17)⟩,
  ⟨some 19, none, .lenL (.t 18)⟩,
  ⟨some 20, none, .bin .gtr (.t 19) (.c (.int .i64 2))⟩,
  ⟨some 16, none, .mv (.t 20)⟩]) (.cond (.t 16) (.seq (.rg [⟨some 2, none, .mv (.c (.int .i64 6))⟩]) (.ret)) (.seq (.rg [⟨some 22, none, .ldA 4 (.t 1)⟩,
  ⟨some 23, none, .callP 74 [.t 22]⟩,
  ⟨some 24, none, .un .not (.t 23)⟩,
  ⟨some 21, none, .mv (.t 24)⟩]) (.cond (.t 21) (.seq (.rg [⟨some 2, none, .mv (.c (.int .i64 5))⟩]) (.ret)) (.skip)))))))))))) (.seq (.seq (.rg [⟨some 3, none, .mv (.c (.int .i64 0))⟩]) (.blk 1 (.loop s_spec_CheckDef_L0))) (.seq (.rg [⟨some 2, none, .mv (.c (.int .i64 0))⟩]) (.ret)))), [.t 2]⟩
def s_spec_FirstBad_L0 : SCode := .seq (.seq (.rg [⟨some 22, none, .mv (.t 4)⟩,
  ⟨some 23, none, .mv (.t 3)⟩,
  ⟨some 24, none, .bin .lss (.t 22) (.t 23)⟩]) (.cond (.t 24) (.skip) (.exit 2))) (.seq (.blk 3 (.seq (.rg [⟨some 27, none, .mv (.t 0)⟩,
  ⟨some 28, none, .mv (.t 4)⟩,
  ⟨some 29, none, .ia 4 (.t 27) (.t 28)⟩,
  ⟨some 30, none, .fa 0 (.t 29)⟩,
  ⟨some 31, none, .ld (.t 30)⟩,
  ⟨some 32, none, .mv (.t 0)⟩,
  ⟨some 33, none, .mv (.t 3)⟩,
  ⟨some 34, none, .ia 4 (.t 32) (.t 33)⟩,
  ⟨some 35, none, .fa 0 (.t 34)⟩,
  ⟨some 36, none, .ld (.t 35)⟩,
  ⟨some 37, none, .bin .eql (.t 31) (.t 36)⟩]) (.cond (.t 37) (.seq (.rg [⟨some 38, none, .mv (.t 3)⟩,
  ⟨some 2, none, .mv (.t 38)⟩]) (.ret)) (.skip)))) (.rg [⟨some 25, none, .mv (.t 4)⟩,
  ⟨some 26, none, .bin .add (.t 25) (.c (.int .i64 1))⟩,
  ⟨some 4, none, .mv (.t 26)⟩]))
def s_spec_FirstBad_L1 : SCode := .seq (.seq (.rg [⟨some 5, none, .mv (.t 3)⟩,
  ⟨some 6, none, .mv (.t 0)⟩,
  ⟨some 7, none, .lenL (.t 6)⟩,
  ⟨some 8, none, .bin .lss (.t 5) (.t 7)⟩]) (.cond (.t 8) (.skip) (.exit 0))) (.seq (.blk 1 (.seq (.seq (.rg [⟨some 11, none, .mv (.t 0)⟩,
  ⟨some 12, none, .mv (.t 3)⟩,
  ⟨some 13, none, .ia 4 (.t 11) (.t 12)⟩,
  ⟨some 14, none, .ldA 4 (.t 13)⟩,
  ⟨some 15, none, .callP 48 [.t 14]⟩,
  ⟨some 16, none, .bin .neq (.t 15) (.c (.int .i64 0))⟩,
  ⟨some 17, none, .mv (.t 16)⟩,
  ⟨some 18, some (17, false), .mv (.t 3)⟩,
  ⟨some 19, some (17, false), .bin .gtr (.t 18) (.c (.int .i64 2))⟩,
  ⟨some 20, none, .pick (.t 17) (.c (.bool true)) (.t 19)⟩]) (.cond (.t 20) (.seq (.rg [⟨some 21, none, .mv (.t 3)⟩,
  ⟨some 2, none, .mv (.t 21)⟩]) (.ret)) (.skip))) (.seq (.rg [⟨some 4, none, .mv (.c (.int .i64 0))⟩]) (.blk 2 (.loop s_spec_FirstBad_L0))))) (.rg [⟨some 9, none, .mv (.t 3)⟩,
  ⟨some 10, none, .bin .add (.t 9) (.c (.int .i64 1))⟩,
  ⟨some 3, none, .mv (.t 10)⟩]))
def s_spec_FirstBad : SFn := ⟨39, .seq (.rg [⟨some 2, none, .mv (.c (.int .i64 0))⟩]) (.seq (.seq (.rg [⟨some 3, none, .mv (.c (.int .i64 0))⟩]) (.blk 0 (.loop s_spec_FirstBad_L1))) (.seq (.rg [⟨some 2, none, .mv (.c (.int .i64 (-1)))⟩]) (.ret))), [.t 2]⟩
def s_spec_l11Part : SFn := ⟨22, .seq (.rg [⟨some 3, none, .box (.t 0)⟩,
  ⟨some 6, none, .alloc [.int .i64 0, .int .i64 0, .bool false, .bool false]⟩]) (.seq (.rg [⟨some 7, none, .mv (.t 1)⟩,
  ⟨some 8, none, .fa 1 (.t 3)⟩,
  ⟨some 9, none, .ld (.t 8)⟩,
  ⟨some 10, none, .mv (.t 1)⟩,
  ⟨some 11, none, .ia 3 (.t 9) (.t 10)⟩,
  ⟨some 12, none, .fa 1 (.t 11)⟩,
  ⟨some 13, none, .ld (.t 12)⟩,
  ⟨some 14, none, .fa 1 (.t 3)⟩,
  ⟨some 15, none, .ld (.t 14)⟩,
  ⟨some 16, none, .mv (.t 1)⟩,
  ⟨some 17, none, .ia 3 (.t 15) (.t 16)⟩,
  ⟨some 18, none, .fa 2 (.t 17)⟩,
  ⟨some 19, none, .ld (.t 18)⟩,
  ⟨some 20, none, .mv (.t 2)⟩,
  ⟨some 21, none, .build [.int .i64 0, .int .i64 0, .bool false, .bool false] [(0, (1, .t 7)), (1, (1, .t 13)), (2, (1, .t 19)), (3, (1, .t 20))]⟩,
  ⟨none, none, .st 4 (.t 6) (.t 21)⟩]) (.ret)), [.ldA 6 4]⟩
def s_spec_l11Parts_L0 : SCode := .seq (.seq (.rg [⟨some 8, none, .mv (.t 6)⟩,
  ⟨some 9, none, .mv (.t 1)⟩,
  ⟨some 10, none, .lenL (.t 9)⟩,
  ⟨some 11, none, .bin .lss (.t 8) (.t 10)⟩]) (.cond (.t 11) (.skip) (.exit 0))) (.seq (.blk 1 (.rg [⟨some 14, none, .mv (.t 5)⟩,
  ⟨some 15, none, .ldA 4 (.t 2)⟩,
  ⟨some 16, none, .mv (.t 1)⟩,
  ⟨some 17, none, .mv (.t 6)⟩,
  ⟨some 18, none, .ia 2 (.t 16) (.t 17)⟩,
  ⟨some 19, none, .fa 0 (.t 18)⟩,
  ⟨some 20, none, .ld (.t 19)⟩,
  ⟨some 21, none, .mv (.t 1)⟩,
  ⟨some 22, none, .mv (.t 6)⟩,
  ⟨some 23, none, .ia 2 (.t 21) (.t 22)⟩,
  ⟨some 24, none, .fa 1 (.t 23)⟩,
  ⟨some 25, none, .ld (.t 24)⟩,
  ⟨some 26, none, .callP 49 [.t 15, .t 20, .t 25]⟩,
  ⟨some 27, none, .bslice false [.int .i64 0, .int .i64 0, .bool false, .bool false] 1 [(0, .t 26)]⟩,
  ⟨some 28, none, .app false 24 4 (.t 14) (.t 27)⟩,
  ⟨some 5, none, .mv (.t 28)⟩])) (.rg [⟨some 12, none, .mv (.t 6)⟩,
  ⟨some 13, none, .bin .add (.t 12) (.c (.int .i64 1))⟩,
  ⟨some 6, none, .mv (.t 13)⟩]))
def s_spec_l11Parts : SFn := ⟨30, .seq (.rg [⟨some 2, none, .box (.t 0)⟩,
  ⟨some 4, none, .mv (.c .snil)⟩]) (.seq (.rg [⟨some 7, none, .bslice false [.int .i64 0, .int .i64 0, .bool false, .bool false] 0 []⟩,
  ⟨some 5, none, .mv (.t 7)⟩]) (.seq (.seq (.rg [⟨some 6, none, .mv (.c (.int .i64 0))⟩]) (.blk 0 (.loop s_spec_l11Parts_L0))) (.seq (.rg [⟨some 29, none, .mv (.t 5)⟩,
  ⟨some 4, none, .mv (.t 29)⟩]) (.ret)))), [.t 4]⟩
def s_spec_PrimaryPlan : SFn := ⟨11, .seq (.rg [⟨some 1, none, .box (.t 0)⟩,
  ⟨some 2, none, .mv (.c .snil)⟩]) (.seq (.seq (.rg [⟨some 3, none, .ldA 4 (.t 1)⟩,
  ⟨some 4, none, .callP 48 [.t 3]⟩,
  ⟨some 5, none, .bin .neq (.t 4) (.c (.int .i64 0))⟩]) (.cond (.t 5) (.seq (.rg [⟨some 6, none, .bslice false [.int .i64 0, .int .i64 0, .bool false, .bool false] 0 []⟩,
  ⟨some 2, none, .mv (.t 6)⟩]) (.ret)) (.skip))) (.seq (.rg [⟨some 7, none, .ldA 4 (.t 1)⟩,
  ⟨some 8, none, .fa 2 (.t 1)⟩,
  ⟨some 9, none, .ld (.t 8)⟩,
  ⟨some 10, none, .callP 78 [.t 7, .t 9]⟩,
  ⟨some 2, none, .mv (.t 10)⟩]) (.ret))), [.t 2]⟩
def s_spec_IndexPlan : SFn := ⟨31, .seq (.rg [⟨some 2, none, .box (.t 0)⟩,
  ⟨some 4, none, .mv (.c .snil)⟩]) (.seq (.seq (.rg [⟨some 5, none, .ldA 4 (.t 2)⟩,
  ⟨some 6, none, .callP 48 [.t 5]⟩,
  ⟨some 7, none, .bin .neq (.t 6) (.c (.int .i64 0))⟩,
  ⟨some 8, none, .mv (.t 7)⟩,
  ⟨some 9, some (8, false), .mv (.t 1)⟩,
  ⟨some 10, some (8, false), .fa 3 (.t 2)⟩,
  ⟨some 11, some (8, false), .ld (.t 10)⟩,
  ⟨some 12, some (8, false), .lenL (.t 11)⟩,
  ⟨some 13, some (8, false), .bin .sub (.t 12) (.c (.int .i64 1))⟩,
  ⟨some 14, some (8, false), .callP 14 [.t 9, .c (.int .i64 0), .t 13]⟩,
  ⟨some 15, some (8, false), .un .not (.t 14)⟩,
  ⟨some 16, none, .pick (.t 8) (.c (.bool true)) (.t 15)⟩]) (.cond (.t 16) (.seq (.rg [⟨some 17, none, .bslice false [.int .i64 0, .int .i64 0, .bool false, .bool false] 0 []⟩,
  ⟨some 4, none, .mv (.t 17)⟩]) (.ret)) (.skip))) (.seq (.rg [⟨some 18, none, .ldA 4 (.t 2)⟩,
  ⟨some 19, none, .fa 3 (.t 2)⟩,
  ⟨some 20, none, .ld (.t 19)⟩,
  ⟨some 21, none, .mv (.t 1)⟩,
  ⟨some 22, none, .ia 3 (.t 20) (.t 21)⟩,
  ⟨some 23, none, .fa 2 (.t 22)⟩,
  ⟨some 24, none, .ld (.t 23)⟩,
  ⟨some 25, none, .callP 78 [.t 18, .t 24]⟩,
  ⟨some 26, none, .ldA 4 (.t 2)⟩,
  ⟨some 27, none, .fa 2 (.t 2)⟩,
  ⟨some 28, none, .ld (.t 27)⟩,
  ⟨some 29, none, .callP 78 [.t 26, .t 28]⟩,
  ⟨some 30, none, .app false 24 4 (.t 25) (.t 29)⟩,
  ⟨some 4, none, .mv (.t 30)⟩]) (.ret))), [.t 4]⟩
def s_spec_l11Plan : SFn := ⟨12, .seq (.rg [⟨some 2, none, .box (.t 0)⟩,
  ⟨some 4, none, .mv (.c .snil)⟩]) (.seq (.seq (.rg [⟨some 5, none, .mv (.t 1)⟩,
  ⟨some 6, none, .bin .eql (.t 5) (.c (.int .i64 (-1)))⟩]) (.cond (.t 6) (.seq (.rg [⟨some 7, none, .ldA 4 (.t 2)⟩,
  ⟨some 8, none, .callP 55 [.t 7]⟩,
  ⟨some 4, none, .mv (.t 8)⟩]) (.ret)) (.skip))) (.seq (.rg [⟨some 9, none, .ldA 4 (.t 2)⟩,
  ⟨some 10, none, .mv (.t 1)⟩,
  ⟨some 11, none, .callP 56 [.t 9, .t 10]⟩,
  ⟨some 4, none, .mv (.t 11)⟩]) (.ret))), [.t 4]⟩
def s_spec_l11Short : SFn := ⟨34, .seq (.rg [⟨some 3, none, .box (.t 1)⟩,
  ⟨some 4, none, .alloc [.int .i64 0, .int .i64 0, .str []]⟩]) (.seq (.seq (.rg [⟨some 6, none, .fa 2 (.t 3)⟩,
  ⟨some 7, none, .ldG (.t 6)⟩,
  ⟨some 8, none, .mv (.t 7)⟩,
  ⟨some 9, some (8, true), .mv (.t 0)⟩,
  ⟨some 10, some (8, true), .callC 15 [.t 9, .c (.int .i64 4)]⟩,
  ⟨some 11, none, .pick (.t 8) (.t 10) (.c (.bool false))⟩]) (.cond (.t 11) (.seq (.rg [⟨some 12, none, .build [.int .i64 0, .int .i64 0, .str []] []⟩,
  ⟨none, none, .st 3 (.t 4) (.t 12)⟩]) (.ret)) (.skip))) (.seq (.rg [⟨some 13, none, .fa 1 (.t 3)⟩,
  ⟨some 14, none, .ldG (.t 13)⟩,
  ⟨some 15, none, .build [.int .i64 0, .int .i64 0, .str []] [(0, (1, .t 14))]⟩,
  ⟨some 5, none, .alloc [.int .i64 0, .int .i64 0, .str []]⟩,
  ⟨none, none, .st 3 (.t 5) (.t 15)⟩]) (.seq (.seq (.rg [⟨some 16, none, .fa 1 (.t 3)⟩,
  ⟨some 17, none, .ldG (.t 16)⟩]) (.blk 0 (.seq (.rg [⟨some 23, none, .bin .eql (.t 17) (.c (.int .i64 3))⟩,
  ⟨some 22, none, .mv (.t 23)⟩]) (.cond (.t 22) (.rg [⟨some 24, none, .mv (.t 0)⟩,
  ⟨some 25, none, .bslice false [.str []] 5 [(0, .c (.str [])), (1, .c (.str [97])), (2, .c (.str [98])), (3, .c (.str [97, 98])), (4, .c (.str [0]))]⟩,
  ⟨some 26, none, .callC 62 [.t 24, .t 25]⟩,
  ⟨some 27, none, .fa 2 (.t 5)⟩,
  ⟨none, none, .st 1 (.t 27) (.t 26)⟩]) (.seq (.rg [⟨some 29, none, .bin .eql (.t 17) (.c (.int .i64 4))⟩,
  ⟨some 28, none, .mv (.t 29)⟩]) (.cond (.t 28) (.rg [⟨some 30, none, .mv (.t 0)⟩,
  ⟨some 31, none, .callC 37 [.t 30, .c (.int .i64 2)]⟩,
  ⟨some 32, none, .fa 1 (.t 5)⟩,
  ⟨none, none, .st 1 (.t 32) (.t 31)⟩]) (.rg [⟨some 18, none, .mv (.t 0)⟩,
  ⟨some 19, none, .bslice false [.int .i64 0] 7 [(0, .c (.int .i64 0)), (1, .c (.int .i64 1)), (2, .c (.int .i64 2)), (3, .c (.int .i64 3)), (4, .c (.int .i64 4)), (5, .c (.int .i64 5)), (6, .c (.int .i64 (-1)))]⟩,
  ⟨some 20, none, .callC 38 [.t 18, .t 19]⟩,
  ⟨some 21, none, .fa 1 (.t 5)⟩,
  ⟨none, none, .st 1 (.t 21) (.t 20)⟩]))))))) (.seq (.rg [⟨some 33, none, .ldAG 3 (.t 5)⟩,
  ⟨none, none, .st 3 (.t 4) (.t 33)⟩]) (.ret))))), [.ldA 4 3]⟩
def s_spec_l11Row_L0 : SCode := .seq (.seq (.rg [⟨some 8, none, .mv (.t 6)⟩,
  ⟨some 9, none, .fa 1 (.t 3)⟩,
  ⟨some 10, none, .ldG (.t 9)⟩,
  ⟨some 11, none, .lenL (.t 10)⟩,
  ⟨some 12, none, .bin .lss (.t 8) (.t 11)⟩]) (.cond (.t 12) (.skip) (.exit 0))) (.seq (.blk 1 (.rg [⟨some 15, none, .mv (.t 5)⟩,
  ⟨some 16, none, .mv (.t 0)⟩,
  ⟨some 17, none, .fa 1 (.t 3)⟩,
  ⟨some 18, none, .ldG (.t 17)⟩,
  ⟨some 19, none, .mv (.t 6)⟩,
  ⟨some 20, none, .ia 3 (.t 18) (.t 19)⟩,
  ⟨some 21, none, .ldAG 3 (.t 20)⟩,
  ⟨some 22, none, .callC 40 [.t 16, .t 21]⟩,
  ⟨some 23, none, .bslice false [.int .i64 0, .int .i64 0, .str []] 1 [(0, .t 22)]⟩,
  ⟨some 24, none, .app true 32 3 (.t 15) (.t 23)⟩,
  ⟨some 5, none, .mv (.t 24)⟩])) (.rg [⟨some 13, none, .mv (.t 6)⟩,
  ⟨some 14, none, .bin .add (.t 13) (.c (.int .i64 1))⟩,
  ⟨some 6, none, .mv (.t 14)⟩]))
def s_spec_l11Row : SFn := ⟨26, .seq (.rg [⟨some 3, none, .box (.t 1)⟩,
  ⟨some 4, none, .mv (.c .snil)⟩]) (.seq (.rg [⟨some 7, none, .bslice true [.int .i64 0, .int .i64 0, .str []] 0 []⟩,
  ⟨some 5, none, .mv (.t 7)⟩]) (.seq (.seq (.rg [⟨some 6, none, .mv (.c (.int .i64 0))⟩]) (.blk 0 (.loop s_spec_l11Row_L0))) (.seq (.rg [⟨some 25, none, .mv (.t 5)⟩,
  ⟨some 4, none, .mv (.t 25)⟩]) (.ret)))), [.t 4]⟩
def s_spec_Pick_L0 : SCode := .seq (.seq (.rg [⟨some 9, none, .mv (.t 6)⟩,
  ⟨some 10, none, .mv (.t 0)⟩,
  ⟨some 11, none, .lenL (.t 10)⟩,
  ⟨some 12, none, .bin .lss (.t 9) (.t 11)⟩]) (.cond (.t 12) (.skip) (.exit 0))) (.seq (.blk 1 (.seq (.rg [⟨some 15, none, .build [.int .i64 0, .int .i64 0, .str []] []⟩,
  ⟨some 7, none, .alloc [.int .i64 0, .int .i64 0, .str []]⟩,
  ⟨none, none, .st 3 (.t 7) (.t 15)⟩]) (.seq (.seq (.rg [⟨some 16, none, .mv (.t 0)⟩,
  ⟨some 17, none, .mv (.t 6)⟩,
  ⟨some 18, none, .ia 4 (.t 16) (.t 17)⟩,
  ⟨some 19, none, .fa 0 (.t 18)⟩,
  ⟨some 20, none, .ld (.t 19)⟩,
  ⟨some 21, none, .mv (.t 1)⟩,
  ⟨some 22, none, .lenL (.t 21)⟩,
  ⟨some 23, none, .bin .sub (.t 22) (.c (.int .i64 1))⟩,
  ⟨some 24, none, .callP 14 [.t 20, .c (.int .i64 0), .t 23]⟩]) (.cond (.t 24) (.rg [⟨some 25, none, .mv (.t 1)⟩,
  ⟨some 26, none, .mv (.t 0)⟩,
  ⟨some 27, none, .mv (.t 6)⟩,
  ⟨some 28, none, .ia 4 (.t 26) (.t 27)⟩,
  ⟨some 29, none, .fa 0 (.t 28)⟩,
  ⟨some 30, none, .ld (.t 29)⟩,
  ⟨some 31, none, .ia 3 (.t 25) (.t 30)⟩,
  ⟨some 32, none, .ldA 3 (.t 31)⟩,
  ⟨none, none, .st 3 (.t 7) (.t 32)⟩]) (.skip))) (.rg [⟨some 33, none, .mv (.t 5)⟩,
  ⟨some 34, none, .ldA 3 (.t 7)⟩,
  ⟨some 35, none, .bslice true [.int .i64 0, .int .i64 0, .str []] 1 [(0, .t 34)]⟩,
  ⟨some 36, none, .app true 32 3 (.t 33) (.t 35)⟩,
  ⟨some 5, none, .mv (.t 36)⟩])))) (.rg [⟨some 13, none, .mv (.t 6)⟩,
  ⟨some 14, none, .bin .add (.t 13) (.c (.int .i64 1))⟩,
  ⟨some 6, none, .mv (.t 14)⟩]))
def s_spec_Pick : SFn := ⟨38, .seq (.rg [⟨some 4, none, .mv (.c .snil)⟩]) (.seq (.rg [⟨some 8, none, .bslice true [.int .i64 0, .int .i64 0, .str []] 0 []⟩,
  ⟨some 5, none, .mv (.t 8)⟩]) (.seq (.seq (.rg [⟨some 6, none, .mv (.c (.int .i64 0))⟩]) (.blk 0 (.loop s_spec_Pick_L0))) (.seq (.rg [⟨some 37, none, .mv (.t 5)⟩,
  ⟨some 4, none, .mv (.t 37)⟩]) (.ret)))), [.t 4]⟩
def s_spec_l24Draw : SFn := ⟨82, .seq (.rg [⟨some 4, none, .alloc [.int .i64 0, .int .i64 0, .snil, .snil, .bool false, .bool false, .bool false, .int .i64 0]⟩]) (.seq (.rg [⟨some 10, none, .mv (.t 0)⟩,
  ⟨some 11, none, .mv (.t 1)⟩,
  ⟨some 12, none, .lenL (.t 11)⟩,
  ⟨some 13, none, .callC 37 [.t 10, .t 12]⟩,
  ⟨some 14, none, .mv (.t 0)⟩,
  ⟨some 15, none, .callC 15 [.t 14, .c (.int .i64 2)]⟩,
  ⟨some 16, none, .mv (.t 0)⟩,
  ⟨some 17, none, .callC 15 [.t 16, .c (.int .i64 2)]⟩,
  ⟨some 18, none, .mv (.t 0)⟩,
  ⟨some 19, none, .callC 15 [.t 18, .c (.int .i64 2)]⟩,
  ⟨some 20, none, .mv (.t 0)⟩,
  ⟨some 21, none, .bslice false [.int .i64 0] 5 [(0, .c (.int .i64 100)), (1, .c (.int .i64 100)), (2, .c (.int .i64 1)), (3, .c (.int .i64 2)), (4, .c (.int .i64 3))]⟩,
  ⟨some 22, none, .callC 38 [.t 20, .t 21]⟩,
  ⟨some 23, none, .build [.int .i64 0, .int .i64 0, .snil, .snil, .bool false, .bool false, .bool false, .int .i64 0] [(0, (1, .t 13)), (1, (1, .c (.int .i64 (-1)))), (4, (1, .t 15)), (5, (1, .t 17)), (6, (1, .t 19)), (7, (1, .t 22))]⟩,
  ⟨some 5, none, .alloc [.int .i64 0, .int .i64 0, .snil, .snil, .bool false, .bool false, .bool false, .int .i64 0]⟩,
  ⟨none, none, .st 8 (.t 5) (.t 23)⟩]) (.seq (.rg [⟨some 24, none, .mv (.t 1)⟩,
  ⟨some 25, none, .fa 0 (.t 5)⟩,
  ⟨some 26, none, .ldG (.t 25)⟩,
  ⟨some 27, none, .ia 4 (.t 24) (.t 26)⟩,
  ⟨some 28, none, .ldAG 4 (.t 27)⟩,
  ⟨some 6, none, .alloc [.str [], .snil, .snil, .snil]⟩,
  ⟨none, none, .st 4 (.t 6) (.t 28)⟩]) (.seq (.seq (.rg [⟨some 29, none, .fa 3 (.t 6)⟩,
  ⟨some 30, none, .ldG (.t 29)⟩,
  ⟨some 31, none, .lenL (.t 30)⟩,
  ⟨some 32, none, .bin .gtr (.t 31) (.c (.int .i64 0))⟩,
  ⟨some 33, none, .mv (.t 32)⟩,
  ⟨some 34, some (33, true), .mv (.t 0)⟩,
  ⟨some 35, some (33, true), .callC 15 [.t 34, .c (.int .i64 2)]⟩,
  ⟨some 36, none, .pick (.t 33) (.t 35) (.c (.bool false))⟩]) (.cond (.t 36) (.rg [⟨some 37, none, .mv (.t 0)⟩,
  ⟨some 38, none, .fa 3 (.t 6)⟩,
  ⟨some 39, none, .ldG (.t 38)⟩,
  ⟨some 40, none, .lenL (.t 39)⟩,
  ⟨some 41, none, .callC 37 [.t 37, .t 40]⟩,
  ⟨some 42, none, .fa 1 (.t 5)⟩,
  ⟨none, none, .st 1 (.t 42) (.t 41)⟩]) (.skip))) (.seq (.rg [⟨some 43, none, .ldAG 4 (.t 6)⟩,
  ⟨some 44, none, .fa 1 (.t 5)⟩,
  ⟨some 45, none, .ldG (.t 44)⟩,
  ⟨some 46, none, .callP 31 [.t 43, .t 45]⟩,
  ⟨some 7, none, .mv (.t 46)⟩]) (.seq (.rg [⟨some 47, none, .mv (.t 0)⟩,
  ⟨some 48, none, .ldAG 4 (.t 6)⟩,
  ⟨some 49, none, .callCZ 16 [.t 47, .t 48]⟩,
  ⟨some 8, none, .mv (.t 49)⟩]) (.seq (.rg [⟨some 50, none, .mv (.t 0)⟩,
  ⟨some 51, none, .ldAG 4 (.t 6)⟩,
  ⟨some 52, none, .callCZ 16 [.t 50, .t 51]⟩,
  ⟨some 9, none, .mv (.t 52)⟩]) (.seq (.seq (.rg [⟨some 53, none, .mv (.t 7)⟩,
  ⟨some 54, none, .lenL (.t 53)⟩,
  ⟨some 55, none, .bin .eql (.t 54) (.c (.int .i64 0))⟩]) (.cond (.t 55) (.seq (.rg [⟨some 56, none, .ldAG 8 (.t 5)⟩,
  ⟨none, none, .st 8 (.t 4) (.t 56)⟩]) (.ret)) (.skip))) (.seq (.seq (.rg [⟨some 57, none, .mv (.t 0)⟩,
  ⟨some 58, none, .callC 15 [.t 57, .c (.int .i64 2)]⟩]) (.cond (.t 58) (.rg [⟨some 59, none, .mv (.t 7)⟩,
  ⟨some 60, none, .mv (.t 9)⟩,
  ⟨some 61, none, .callD 50 true [.t 59, .t 60]⟩,
  ⟨some 62, none, .mv (.t 0)⟩,
  ⟨some 63, none, .mv (.t 7)⟩,
  ⟨some 64, none, .lenL (.t 63)⟩,
  ⟨some 65, none, .callC 37 [.t 62, .t 64]⟩,
  ⟨some 66, none, .bin .add (.c (.int .i64 1)) (.t 65)⟩,
  ⟨some 67, none, .sliL 3 (.t 61) none (some (.t 66))⟩,
  ⟨some 68, none, .fa 2 (.t 5)⟩,
  ⟨none, none, .st 1 (.t 68) (.t 67)⟩]) (.skip))) (.seq (.seq (.rg [⟨some 69, none, .mv (.t 0)⟩,
  ⟨some 70, none, .callC 15 [.t 69, .c (.int .i64 2)]⟩]) (.cond (.t 70) (.rg [⟨some 71, none, .mv (.t 7)⟩,
  ⟨some 72, none, .mv (.t 8)⟩,
  ⟨some 73, none, .callD 50 true [.t 71, .t 72]⟩,
  ⟨some 74, none, .mv (.t 0)⟩,
  ⟨some 75, none, .mv (.t 7)⟩,
  ⟨some 76, none, .lenL (.t 75)⟩,
  ⟨some 77, none, .callC 37 [.t 74, .t 76]⟩,
  ⟨some 78, none, .bin .add (.c (.int .i64 1)) (.t 77)⟩,
  ⟨some 79, none, .sliL 3 (.t 73) none (some (.t 78))⟩,
  ⟨some 80, none, .fa 3 (.t 5)⟩,
  ⟨none, none, .st 1 (.t 80) (.t 79)⟩]) (.skip))) (.seq (.rg [⟨some 81, none, .ldAG 8 (.t 5)⟩,
  ⟨none, none, .st 8 (.t 4) (.t 81)⟩]) (.ret))))))))))), [.ldA 4 8]⟩
def s_spec_l2Text : SFn := ⟨6, .seq (.rg [⟨some 2, none, .mv (.c (.str []))⟩]) (.seq (.rg [⟨some 3, none, .mv (.t 0)⟩,
  ⟨some 4, none, .bslice false [.str []] 10 [(0, .c (.str [])), (1, .c (.str [97])), (2, .c (.str [98])), (3, .c (.str [97, 98])), (4, .c (.str [0])), (5, .c (.str [97, 0])), (6, .c (.str [0, 255])), (7, .c (.str [255])), (8, .c (.str [119, 111, 114, 100])), (9, .c (.str [122]))]⟩,
  ⟨some 5, none, .callC 62 [.t 3, .t 4]⟩,
  ⟨some 2, none, .mv (.t 5)⟩]) (.ret)), [.t 2]⟩
def s_spec_l2Of : SFn := ⟨41, .seq (.rg [⟨some 6, none, .alloc [.int .i64 0, .int .i64 0, .str []]⟩]) (.seq (.seq (.rg [⟨some 8, none, .mv (.t 2)⟩,
  ⟨some 9, none, .mv (.t 8)⟩,
  ⟨some 10, some (9, true), .mv (.t 0)⟩,
  ⟨some 11, some (9, true), .callC 15 [.t 10, .c (.int .i64 4)]⟩,
  ⟨some 12, none, .pick (.t 9) (.t 11) (.c (.bool false))⟩]) (.cond (.t 12) (.seq (.rg [⟨some 13, none, .build [.int .i64 0, .int .i64 0, .str []] []⟩,
  ⟨none, none, .st 3 (.t 6) (.t 13)⟩]) (.ret)) (.skip))) (.seq (.rg [⟨some 14, none, .mv (.t 1)⟩,
  ⟨some 15, none, .build [.int .i64 0, .int .i64 0, .str []] [(0, (1, .t 14))]⟩,
  ⟨some 7, none, .alloc [.int .i64 0, .int .i64 0, .str []]⟩,
  ⟨none, none, .st 3 (.t 7) (.t 15)⟩]) (.seq (.seq (.rg [⟨some 16, none, .mv (.t 1)⟩]) (.blk 0 (.seq (.rg [⟨some 21, none, .bin .eql (.t 16) (.c (.int .i64 1))⟩,
  ⟨some 20, none, .mv (.t 21)⟩]) (.cond (.t 20) (.rg [⟨some 22, none, .mv (.t 0)⟩,
  ⟨some 23, none, .bslice false [.int .i64 0] 9 [(0, .c (.int .i64 0)), (1, .c (.int .i64 1)), (2, .c (.int .i64 2)), (3, .c (.int .i64 3)), (4, .c (.int .i64 (-1))), (5, .c (.int .i64 255)), (6, .c (.int .i64 256)), (7, .c (.int .i64 2147483647)), (8, .c (.int .i64 (-2147483648)))]⟩,
  ⟨some 24, none, .callC 38 [.t 22, .t 23]⟩,
  ⟨some 25, none, .fa 1 (.t 7)⟩,
  ⟨none, none, .st 1 (.t 25) (.t 24)⟩]) (.seq (.rg [⟨some 27, none, .bin .eql (.t 16) (.c (.int .i64 2))⟩,
  ⟨some 26, none, .mv (.t 27)⟩]) (.cond (.t 26) (.rg [⟨some 28, none, .mv (.t 0)⟩,
  ⟨some 29, none, .mv (.t 0)⟩,
  ⟨some 30, none, .callC 37 [.t 29, .c (.int .i64 100000)]⟩,
  ⟨some 31, none, .un .neg (.t 30)⟩,
  ⟨some 32, none, .bslice false [.int .i64 0] 11 [(0, .c (.int .i64 0)), (1, .c (.int .i64 1)), (2, .c (.int .i64 (-1))), (3, .c (.int .i64 255)), (4, .c (.int .i64 256)), (5, .c (.int .i64 (-256))), (6, .c (.int .i64 (-257))), (7, .c (.int .i64 65535)), (8, .c (.int .i64 1000000000000000)), (9, .c (.int .i64 (-1000000000000000))), (10, .t 31)]⟩,
  ⟨some 33, none, .callC 38 [.t 28, .t 32]⟩,
  ⟨some 34, none, .fa 1 (.t 7)⟩,
  ⟨none, none, .st 1 (.t 34) (.t 33)⟩]) (.seq (.rg [⟨some 36, none, .bin .eql (.t 16) (.c (.int .i64 3))⟩,
  ⟨some 35, none, .mv (.t 36)⟩]) (.cond (.t 35) (.rg [⟨some 37, none, .mv (.t 0)⟩,
  ⟨some 38, none, .callC 82 [.t 37]⟩,
  ⟨some 39, none, .fa 2 (.t 7)⟩,
  ⟨none, none, .st 1 (.t 39) (.t 38)⟩]) (.rg [⟨some 17, none, .mv (.t 0)⟩,
  ⟨some 18, none, .callC 37 [.t 17, .c (.int .i64 2)]⟩,
  ⟨some 19, none, .fa 1 (.t 7)⟩,
  ⟨none, none, .st 1 (.t 19) (.t 18)⟩]))))))))) (.seq (.rg [⟨some 40, none, .ldA 3 (.t 7)⟩,
  ⟨none, none, .st 3 (.t 6) (.t 40)⟩]) (.ret))))), [.ldA 6 3]⟩
def s_spec_l2Draw : SFn := ⟨8, .seq (.rg [⟨some 2, none, .alloc [.int .i64 0, .int .i64 0, .str []]⟩]) (.seq (.rg [⟨some 3, none, .mv (.t 0)⟩,
  ⟨some 4, none, .mv (.t 0)⟩,
  ⟨some 5, none, .callC 37 [.t 4, .c (.int .i64 4)]⟩,
  ⟨some 6, none, .bin .add (.c (.int .i64 1)) (.t 5)⟩,
  ⟨some 7, none, .callC 63 [.t 3, .t 6, .c (.bool true)]⟩,
  ⟨none, none, .st 3 (.t 2) (.t 7)⟩]) (.ret)), [.ldA 2 3]⟩
def s_spec_l1Num : SFn := ⟨11, .seq (.rg [⟨some 2, none, .mv (.c (.int .i64 0))⟩]) (.seq (.rg [⟨some 3, none, .mv (.t 0)⟩,
  ⟨some 4, none, .mv (.t 0)⟩,
  ⟨some 5, none, .callC 37 [.t 4, .c (.int .i64 100000)]⟩,
  ⟨some 6, none, .mv (.t 0)⟩,
  ⟨some 7, none, .callC 37 [.t 6, .c (.int .i64 100000)]⟩,
  ⟨some 8, none, .un .neg (.t 7)⟩,
  ⟨some 9, none, .bslice false [.int .i64 0] 21 [(0, .c (.int .i64 0)), (1, .c (.int .i64 1)), (2, .c (.int .i64 (-1))), (3, .c (.int .i64 63)), (4, .c (.int .i64 127)), (5, .c (.int .i64 128)), (6, .c (.int .i64 255)), (7, .c (.int .i64 256)), (8, .c (.int .i64 65535)), (9, .c (.int .i64 65536)), (10, .c (.int .i64 2147483647)), (11, .c (.int .i64 (-2147483648))), (12, .c (.int .i64 2147483648)), (13, .c (.int .i64 (-2147483649))), (14, .c (.int .i64 1000000000000000)), (15, .c (.int .i64 (-1000000000000000))), (16, .c (.int .i64 1000000000000001)), (17, .c (.int .i64 9223372036854775807)), (18, .c (.int .i64 (-9223372036854775808))), (19, .t 5), (20, .t 8)]⟩,
  ⟨some 10, none, .callC 38 [.t 3, .t 9]⟩,
  ⟨some 2, none, .mv (.t 10)⟩]) (.ret)), [.t 2]⟩
def s_spec_l2Any : SFn := ⟨33, .seq (.rg [⟨some 2, none, .alloc [.int .i64 0, .int .i64 0, .str []]⟩]) (.seq (.rg [⟨some 4, none, .mv (.t 0)⟩,
  ⟨some 5, none, .callC 41 [.t 4]⟩,
  ⟨some 3, none, .alloc [.int .i64 0, .int .i64 0, .str []]⟩,
  ⟨none, none, .st 3 (.t 3) (.t 5)⟩]) (.seq (.seq (.rg [⟨some 6, none, .mv (.t 0)⟩,
  ⟨some 7, none, .callC 37 [.t 6, .c (.int .i64 10)]⟩]) (.blk 0 (.seq (.rg [⟨some 9, none, .bin .eql (.t 7) (.c (.int .i64 0))⟩,
  ⟨some 8, none, .mv (.t 9)⟩]) (.cond (.t 8) (.rg [⟨some 10, none, .mv (.t 0)⟩,
  ⟨some 11, none, .callC 37 [.t 10, .c (.int .i64 6)]⟩,
  ⟨some 12, none, .fa 0 (.t 3)⟩,
  ⟨none, none, .st 1 (.t 12) (.t 11)⟩]) (.seq (.rg [⟨some 14, none, .bin .eql (.t 7) (.c (.int .i64 1))⟩,
  ⟨some 13, none, .mv (.t 14)⟩]) (.cond (.t 13) (.rg [⟨some 15, none, .mv (.t 0)⟩,
  ⟨some 16, none, .callC 61 [.t 15]⟩,
  ⟨some 17, none, .fa 1 (.t 3)⟩,
  ⟨none, none, .st 1 (.t 17) (.t 16)⟩]) (.seq (.rg [⟨some 19, none, .bin .eql (.t 7) (.c (.int .i64 2))⟩,
  ⟨some 18, none, .mv (.t 19)⟩]) (.cond (.t 18) (.rg [⟨some 20, none, .mv (.t 0)⟩,
  ⟨some 21, none, .callC 37 [.t 20, .c (.int .i64 2)]⟩,
  ⟨some 22, none, .bin .add (.c (.int .i64 30)) (.t 21)⟩,
  ⟨some 23, none, .mkS false 1 [.int .u8 0] (.t 22) (.t 22)⟩,
  ⟨some 24, none, .cvS (.t 23)⟩,
  ⟨some 25, none, .fa 2 (.t 3)⟩,
  ⟨none, none, .st 1 (.t 25) (.t 24)⟩]) (.seq (.rg [⟨some 27, none, .bin .eql (.t 7) (.c (.int .i64 3))⟩,
  ⟨some 26, none, .mv (.t 27)⟩]) (.cond (.t 26) (.rg [⟨some 28, none, .mv (.t 0)⟩,
  ⟨some 29, none, .bslice false [.str []] 4 [(0, .c (.str [105, 116, 39, 115])), (1, .c (.str [97, 32, 98])), (2, .c (.str [126])), (3, .c (.str [127]))]⟩,
  ⟨some 30, none, .callC 62 [.t 28, .t 29]⟩,
  ⟨some 31, none, .fa 2 (.t 3)⟩,
  ⟨none, none, .st 1 (.t 31) (.t 30)⟩]) (.skip))))))))))) (.seq (.rg [⟨some 32, none, .ldA 3 (.t 3)⟩,
  ⟨none, none, .st 3 (.t 2) (.t 32)⟩]) (.ret)))), [.ldA 2 3]⟩
def s_spec_l24Any : SFn := ⟨43, .seq (.rg [⟨some 4, none, .alloc [.int .i64 0, .int .i64 0, .snil, .snil, .bool false, .bool false, .bool false, .int .i64 0]⟩]) (.seq (.rg [⟨some 6, none, .build [.int .i64 0, .int .i64 0, .snil, .snil, .bool false, .bool false, .bool false, .int .i64 0] []⟩,
  ⟨some 5, none, .alloc [.int .i64 0, .int .i64 0, .snil, .snil, .bool false, .bool false, .bool false, .int .i64 0]⟩,
  ⟨none, none, .st 8 (.t 5) (.t 6)⟩]) (.seq (.seq (.rg [⟨some 7, none, .mv (.t 1)⟩,
  ⟨some 8, none, .callP 35 [.t 7]⟩,
  ⟨some 9, none, .bin .eql (.t 8) (.c (.int .i64 (-1)))⟩]) (.cond (.t 9) (.rg [⟨some 10, none, .mv (.t 0)⟩,
  ⟨some 11, none, .mv (.t 1)⟩,
  ⟨some 12, none, .callC 36 [.t 10, .t 11]⟩,
  ⟨none, none, .st 8 (.t 5) (.t 12)⟩]) (.skip))) (.seq (.seq (.rg [⟨some 13, none, .mv (.t 0)⟩,
  ⟨some 14, none, .callC 37 [.t 13, .c (.int .i64 12)]⟩]) (.blk 0 (.seq (.rg [⟨some 16, none, .bin .eql (.t 14) (.c (.int .i64 0))⟩,
  ⟨some 15, none, .mv (.t 16)⟩]) (.cond (.t 15) (.rg [⟨some 17, none, .mv (.t 0)⟩,
  ⟨some 18, none, .bslice false [.int .i64 0] 3 [(0, .c (.int .i64 (-1))), (1, .c (.int .i64 0)), (2, .c (.int .i64 3))]⟩,
  ⟨some 19, none, .callC 38 [.t 17, .t 18]⟩,
  ⟨some 20, none, .fa 0 (.t 5)⟩,
  ⟨none, none, .st 1 (.t 20) (.t 19)⟩]) (.seq (.rg [⟨some 22, none, .bin .eql (.t 14) (.c (.int .i64 1))⟩,
  ⟨some 21, none, .mv (.t 22)⟩]) (.cond (.t 21) (.rg [⟨some 23, none, .mv (.t 0)⟩,
  ⟨some 24, none, .bslice false [.int .i64 0] 4 [(0, .c (.int .i64 (-2))), (1, .c (.int .i64 (-1))), (2, .c (.int .i64 0)), (3, .c (.int .i64 2))]⟩,
  ⟨some 25, none, .callC 38 [.t 23, .t 24]⟩,
  ⟨some 26, none, .fa 1 (.t 5)⟩,
  ⟨none, none, .st 1 (.t 26) (.t 25)⟩]) (.seq (.rg [⟨some 28, none, .bin .eql (.t 14) (.c (.int .i64 2))⟩,
  ⟨some 27, none, .mv (.t 28)⟩]) (.cond (.t 27) (.rg [⟨some 29, none, .fa 2 (.t 5)⟩,
  ⟨some 30, none, .ldG (.t 29)⟩,
  ⟨some 31, none, .mv (.t 0)⟩,
  ⟨some 32, none, .callC 39 [.t 31]⟩,
  ⟨some 33, none, .bslice false [.int .i64 0, .int .i64 0, .str []] 1 [(0, .t 32)]⟩,
  ⟨some 34, none, .app true 32 3 (.t 30) (.t 33)⟩,
  ⟨some 35, none, .fa 2 (.t 5)⟩,
  ⟨none, none, .st 1 (.t 35) (.t 34)⟩]) (.seq (.rg [⟨some 37, none, .bin .eql (.t 14) (.c (.int .i64 3))⟩,
  ⟨some 36, none, .mv (.t 37)⟩]) (.cond (.t 36) (.rg [⟨some 38, none, .mv (.t 0)⟩,
  ⟨some 39, none, .bslice false [.int .i64 0] 4 [(0, .c (.int .i64 (-1))), (1, .c (.int .i64 0)), (2, .c (.int .i64 100)), (3, .c (.int .i64 101))]⟩,
  ⟨some 40, none, .callC 38 [.t 38, .t 39]⟩,
  ⟨some 41, none, .fa 7 (.t 5)⟩,
  ⟨none, none, .st 1 (.t 41) (.t 40)⟩]) (.skip))))))))))) (.seq (.rg [⟨some 42, none, .ldAG 8 (.t 5)⟩,
  ⟨none, none, .st 8 (.t 4) (.t 42)⟩]) (.ret))))), [.ldA 4 8]⟩
def s_spec_l11Any_L0 : SCode := .seq (.seq (.rg [⟨some 29, none, .mv (.t 6)⟩,
  ⟨some 30, none, .mv (.t 5)⟩,
  ⟨some 31, none, .lenL (.t 30)⟩,
  ⟨some 32, none, .bin .lss (.t 29) (.t 31)⟩,
  ⟨some 33, none, .mv (.t 32)⟩,
  ⟨some 34, some (33, true), .mv (.t 6)⟩,
  ⟨some 35, some (33, true), .mv (.t 1)⟩,
  ⟨some 36, some (33, true), .ia 4 (.t 35) (.c (.int .i64 0))⟩,
  ⟨some 37, some (33, true), .fa 1 (.t 36)⟩,
  ⟨some 38, some (33, true), .ldG (.t 37)⟩,
  ⟨some 39, some (33, true), .lenL (.t 38)⟩,
  ⟨some 40, some (33, true), .bin .lss (.t 34) (.t 39)⟩,
  ⟨some 41, none, .pick (.t 33) (.t 40) (.c (.bool false))⟩]) (.cond (.t 41) (.skip) (.exit 1))) (.seq (.blk 2 (.seq (.rg [⟨some 44, none, .mv (.t 1)⟩,
  ⟨some 45, none, .ia 4 (.t 44) (.c (.int .i64 0))⟩,
  ⟨some 46, none, .fa 1 (.t 45)⟩,
  ⟨some 47, none, .ldG (.t 46)⟩,
  ⟨some 48, none, .mv (.t 6)⟩,
  ⟨some 49, none, .ia 3 (.t 47) (.t 48)⟩,
  ⟨some 50, none, .fa 1 (.t 49)⟩,
  ⟨some 51, none, .ldG (.t 50)⟩,
  ⟨some 52, none, .bin .eql (.t 51) (.c (.int .i64 3))⟩]) (.cond (.t 52) (.rg [⟨some 53, none, .mv (.t 5)⟩,
  ⟨some 54, none, .mv (.t 6)⟩,
  ⟨some 55, none, .mkS false 1 [.int .u8 0] (.c (.int .i64 30)) (.c (.int .i64 30))⟩,
  ⟨some 56, none, .cvS (.t 55)⟩,
  ⟨some 57, none, .build [.int .i64 0, .int .i64 0, .str []] [(0, (1, .c (.int .i64 3))), (2, (1, .t 56))]⟩,
  ⟨some 58, none, .ia 3 (.t 53) (.t 54)⟩,
  ⟨none, none, .st 3 (.t 58) (.t 57)⟩]) (.skip)))) (.rg [⟨some 42, none, .mv (.t 6)⟩,
  ⟨some 43, none, .bin .add (.t 42) (.c (.int .i64 1))⟩,
  ⟨some 6, none, .mv (.t 43)⟩]))
def s_spec_l11Any : SFn := ⟨60, .seq (.rg [⟨some 4, none, .mv (.c .snil)⟩]) (.seq (.rg [⟨some 7, none, .mv (.t 0)⟩,
  ⟨some 8, none, .mv (.t 1)⟩,
  ⟨some 9, none, .ia 4 (.t 8) (.c (.int .i64 0))⟩,
  ⟨some 10, none, .ldAG 4 (.t 9)⟩,
  ⟨some 11, none, .callC 16 [.t 7, .t 10]⟩,
  ⟨some 5, none, .mv (.t 11)⟩]) (.seq (.seq (.rg [⟨some 12, none, .mv (.t 0)⟩,
  ⟨some 13, none, .callC 37 [.t 12, .c (.int .i64 10)]⟩]) (.blk 0 (.seq (.rg [⟨some 15, none, .bin .eql (.t 13) (.c (.int .i64 0))⟩,
  ⟨some 14, none, .mv (.t 15)⟩]) (.cond (.t 14) (.rg [⟨some 16, none, .mv (.t 5)⟩,
  ⟨some 17, none, .mv (.t 0)⟩,
  ⟨some 18, none, .callC 39 [.t 17]⟩,
  ⟨some 19, none, .ia 3 (.t 16) (.c (.int .i64 0))⟩,
  ⟨none, none, .st 3 (.t 19) (.t 18)⟩]) (.seq (.rg [⟨some 21, none, .bin .eql (.t 13) (.c (.int .i64 1))⟩,
  ⟨some 20, none, .mv (.t 21)⟩]) (.cond (.t 20) (.rg [⟨some 22, none, .mv (.t 5)⟩,
  ⟨some 23, none, .mv (.t 0)⟩,
  ⟨some 24, none, .callC 41 [.t 23]⟩,
  ⟨some 25, none, .bslice false [.int .i64 0, .int .i64 0, .str []] 1 [(0, .t 24)]⟩,
  ⟨some 26, none, .app true 32 3 (.t 22) (.t 25)⟩,
  ⟨some 5, none, .mv (.t 26)⟩]) (.seq (.rg [⟨some 28, none, .bin .eql (.t 13) (.c (.int .i64 2))⟩,
  ⟨some 27, none, .mv (.t 28)⟩]) (.cond (.t 27) (.seq (.rg [⟨some 6, none, .mv (.c (.int .i64 0))⟩]) (.blk 1 (.loop s_spec_l11Any_L0))) (.skip))))))))) (.seq (.rg [⟨some 59, none, .mv (.t 5)⟩,
  ⟨some 4, none, .mv (.t 59)⟩]) (.ret)))), [.t 4]⟩
def s_spec_DrawInScan : SFn := ⟨40, .seq (.rg [⟨some 2, none, .mv (.c .snil)⟩,
  ⟨some 3, none, .alloc [.int .i64 0, .int .i64 0, .snil, .snil, .bool false, .bool false, .bool false, .int .i64 0]⟩,
  ⟨some 4, none, .mv (.c .snil)⟩]) (.seq (.rg [⟨some 8, none, .mv (.t 0)⟩,
  ⟨some 9, none, .callW 11 [.t 8]⟩,
  ⟨some 5, none, .mv (.t 9)⟩]) (.seq (.rg [⟨some 10, none, .mv (.t 5)⟩,
  ⟨some 11, none, .callCZ 12 [.t 10]⟩,
  ⟨some 6, none, .mv (.t 11)⟩]) (.seq (.rg [⟨some 12, none, .mv (.t 5)⟩,
  ⟨some 13, none, .mv (.t 6)⟩,
  ⟨some 14, none, .callCZ 13 [.t 12, .t 13]⟩,
  ⟨some 7, none, .alloc [.int .i64 0, .int .i64 0, .snil, .snil, .bool false, .bool false, .bool false, .int .i64 0]⟩,
  ⟨none, none, .st 8 (.t 7) (.t 14)⟩]) (.seq (.seq (.rg [⟨some 15, none, .fa 0 (.t 7)⟩,
  ⟨some 16, none, .ldG (.t 15)⟩,
  ⟨some 17, none, .mv (.t 6)⟩,
  ⟨some 18, none, .lenL (.t 17)⟩,
  ⟨some 19, none, .bin .sub (.t 18) (.c (.int .i64 1))⟩,
  ⟨some 20, none, .callP 14 [.t 16, .c (.int .i64 0), .t 19]⟩,
  ⟨some 21, none, .mv (.t 20)⟩,
  ⟨some 22, some (21, true), .mv (.t 5)⟩,
  ⟨some 23, some (21, true), .callC 15 [.t 22, .c (.int .i64 8)]⟩,
  ⟨some 24, some (21, true), .un .not (.t 23)⟩,
  ⟨some 25, none, .pick (.t 21) (.t 24) (.c (.bool false))⟩]) (.cond (.t 25) (.seq (.rg [⟨some 26, none, .mv (.t 6)⟩,
  ⟨some 27, none, .ldAG 8 (.t 7)⟩,
  ⟨some 28, none, .mv (.t 5)⟩,
  ⟨some 29, none, .mv (.t 6)⟩,
  ⟨some 30, none, .fa 0 (.t 7)⟩,
  ⟨some 31, none, .ldG (.t 30)⟩,
  ⟨some 32, none, .ia 4 (.t 29) (.t 31)⟩,
  ⟨some 33, none, .ldAG 4 (.t 32)⟩,
  ⟨some 34, none, .callCZ 16 [.t 28, .t 33]⟩,
  ⟨some 2, none, .mv (.t 26)⟩,
  ⟨none, none, .st 8 (.t 3) (.t 27)⟩,
  ⟨some 4, none, .mv (.t 34)⟩]) (.ret)) (.skip))) (.seq (.rg [⟨some 35, none, .mv (.t 6)⟩,
  ⟨some 36, none, .ldAG 8 (.t 7)⟩,
  ⟨some 37, none, .mv (.t 5)⟩,
  ⟨some 38, none, .mv (.t 6)⟩,
  ⟨some 39, none, .callCZ 17 [.t 37, .t 38]⟩,
  ⟨some 2, none, .mv (.t 35)⟩,
  ⟨none, none, .st 8 (.t 3) (.t 36)⟩,
  ⟨some 4, none, .mv (.t 39)⟩]) (.ret)))))), [.t 2, .ldA 3 8, .t 4]⟩
def s_impl_in : SFn := ⟨15, .seq (.rg [⟨some 6, none, .mv (.c (.bool false))⟩]) (.seq (.rg [⟨some 7, none, .mv (.t 0)⟩,
  ⟨some 8, none, .mv (.t 1)⟩,
  ⟨some 9, none, .bin .geq (.t 7) (.t 8)⟩,
  ⟨some 10, none, .mv (.t 9)⟩,
  ⟨some 11, some (10, true), .mv (.t 0)⟩,
  ⟨some 12, some (10, true), .mv (.t 2)⟩,
  ⟨some 13, some (10, true), .bin .leq (.t 11) (.t 12)⟩,
  ⟨some 14, none, .pick (.t 10) (.t 13) (.c (.bool false))⟩,
  ⟨some 6, none, .mv (.t 14)⟩]) (.ret)), [.t 6]⟩
def s_impl_partsOk_L0 : SCode := .seq (.rg [⟨some 29, none, .bin .lss (.t 28) (.t 27)⟩]) (.seq (.cond (.t 29) (.skip) (.exit 2)) (.seq (.blk 3 (.seq (.rg [⟨some 30, none, .ia 2 (.t 26) (.t 28)⟩,
  ⟨some 31, none, .ldA 2 (.t 30)⟩,
  ⟨some 8, none, .alloc [.int .i64 0, .bool false]⟩,
  ⟨none, none, .st 2 (.t 8) (.t 31)⟩]) (.seq (.rg [⟨some 32, none, .fa 0 (.t 8)⟩,
  ⟨some 33, none, .ld (.t 32)⟩,
  ⟨some 34, none, .fa 0 (.t 6)⟩,
  ⟨some 35, none, .ld (.t 34)⟩,
  ⟨some 36, none, .bin .eql (.t 33) (.t 35)⟩]) (.cond (.t 36) (.seq (.rg [⟨some 4, none, .mv (.c (.bool false))⟩]) (.ret)) (.skip))))) (.rg [⟨some 37, none, .bin .add (.t 28) (.c (.int .i64 1))⟩,
  ⟨some 28, none, .mv (.t 37)⟩])))
def s_impl_partsOk_L1 : SCode := .seq (.rg [⟨some 12, none, .bin .lss (.t 11) (.t 10)⟩]) (.seq (.cond (.t 12) (.skip) (.exit 0)) (.seq (.blk 1 (.seq (.rg [⟨some 13, none, .mv (.t 11)⟩,
  ⟨some 14, none, .ia 2 (.t 9) (.t 11)⟩,
  ⟨some 15, none, .ldA 2 (.t 14)⟩,
  ⟨some 6, none, .alloc [.int .i64 0, .bool false]⟩,
  ⟨some 5, none, .mv (.t 13)⟩,
  ⟨none, none, .st 2 (.t 6) (.t 15)⟩]) (.seq (.seq (.rg [⟨some 16, none, .fa 0 (.t 6)⟩,
  ⟨some 17, none, .ld (.t 16)⟩,
  ⟨some 18, none, .fa 1 (.t 2)⟩,
  ⟨some 19, none, .ld (.t 18)⟩,
  ⟨some 20, none, .lenL (.t 19)⟩,
  ⟨some 21, none, .bin .sub (.t 20) (.c (.int .i64 1))⟩,
  ⟨some 22, none, .callP 28 [.t 17, .c (.int .i64 0), .t 21]⟩,
  ⟨some 23, none, .un .not (.t 22)⟩]) (.cond (.t 23) (.seq (.rg [⟨some 4, none, .mv (.c (.bool false))⟩]) (.ret)) (.skip))) (.seq (.rg [⟨some 24, none, .mv (.t 1)⟩,
  ⟨some 25, none, .mv (.t 5)⟩,
  ⟨some 26, none, .sliL 2 (.t 24) none (some (.t 25))⟩,
  ⟨some 27, none, .lenL (.t 26)⟩,
  ⟨some 28, none, .mv (.c (.int .i64 0))⟩]) (.blk 2 (.loop s_impl_partsOk_L0)))))) (.rg [⟨some 38, none, .bin .add (.t 11) (.c (.int .i64 1))⟩,
  ⟨some 11, none, .mv (.t 38)⟩])))
def s_impl_partsOk : SFn := ⟨42, .seq (.rg [⟨some 2, none, .box (.t 0)⟩,
  ⟨some 4, none, .mv (.c (.bool false))⟩]) (.seq (.seq (.rg [⟨some 9, none, .mv (.t 1)⟩,
  ⟨some 10, none, .lenL (.t 9)⟩,
  ⟨some 11, none, .mv (.c (.int .i64 0))⟩]) (.blk 0 (.loop s_impl_partsOk_L1))) (.seq (.rg [⟨some 39, none, .mv (.t 1)⟩,
  ⟨some 40, none, .lenL (.t 39)⟩,
  ⟨some 41, none, .callP 28 [.t 40, .c (.int .i64 1), .c (.int .i64 2)]⟩,
  ⟨some 4, none, .mv (.t 41)⟩]) (.ret))), [.t 4]⟩
def s_impl_isLetter : SFn := ⟨9, .seq (.rg [⟨some 2, none, .mv (.c (.bool false))⟩]) (.seq (.rg [⟨some 3, none, .mv (.t 0)⟩,
  ⟨some 4, none, .bin .geq (.t 3) (.c (.int .u8 97))⟩,
  ⟨some 5, none, .mv (.t 4)⟩,
  ⟨some 6, some (5, true), .mv (.t 0)⟩,
  ⟨some 7, some (5, true), .bin .leq (.t 6) (.c (.int .u8 122))⟩,
  ⟨some 8, none, .pick (.t 5) (.t 7) (.c (.bool false))⟩,
  ⟨some 2, none, .mv (.t 8)⟩]) (.ret)), [.t 2]⟩
def s_impl_isDigit : SFn := ⟨9, .seq (.rg [⟨some 2, none, .mv (.c (.bool false))⟩]) (.seq (.rg [⟨some 3, none, .mv (.t 0)⟩,
  ⟨some 4, none, .bin .geq (.t 3) (.c (.int .u8 48))⟩,
  ⟨some 5, none, .mv (.t 4)⟩,
  ⟨some 6, some (5, true), .mv (.t 0)⟩,
  ⟨some 7, some (5, true), .bin .leq (.t 6) (.c (.int .u8 57))⟩,
  ⟨some 8, none, .pick (.t 5) (.t 7) (.c (.bool false))⟩,
  ⟨some 2, none, .mv (.t 8)⟩]) (.ret)), [.t 2]⟩
def s_impl_nameOk_L0 : SCode := .seq (.seq (.rg [⟨some 4, none, .mv (.t 3)⟩,
  ⟨some 5, none, .mv (.t 0)⟩,
  ⟨some 6, none, .lenS (.t 5)⟩,
  ⟨some 7, none, .bin .lss (.t 4) (.t 6)⟩]) (.cond (.t 7) (.skip) (.exit 0))) (.seq (.blk 1 (.seq (.rg [⟨some 10, none, .mv (.t 0)⟩,
  ⟨some 11, none, .mv (.t 3)⟩,
  ⟨some 12, none, .ix (.t 10) (.t 11)⟩,
  ⟨some 13, none, .callP 93 [.t 12]⟩,
  ⟨some 14, none, .un .not (.t 13)⟩,
  ⟨some 15, none, .mv (.t 14)⟩,
  ⟨some 16, some (15, true), .mv (.t 3)⟩,
  ⟨some 17, some (15, true), .bin .eql (.t 16) (.c (.int .i64 0))⟩,
  ⟨some 18, some (15, true), .mv (.t 17)⟩,
  ⟨some 19, some (18, false), .mv (.t 0)⟩,
  ⟨some 20, some (18, false), .mv (.t 3)⟩,
  ⟨some 21, some (18, false), .ix (.t 19) (.t 20)⟩,
  ⟨some 22, some (18, false), .callP 94 [.t 21]⟩,
  ⟨some 23, some (18, false), .un .not (.t 22)⟩,
  ⟨some 24, some (15, true), .pick (.t 18) (.c (.bool true)) (.t 23)⟩,
  ⟨some 25, none, .pick (.t 15) (.t 24) (.c (.bool false))⟩]) (.cond (.t 25) (.seq (.rg [⟨some 2, none, .mv (.c (.bool false))⟩]) (.ret)) (.skip)))) (.rg [⟨some 8, none, .mv (.t 3)⟩,
  ⟨some 9, none, .bin .add (.t 8) (.c (.int .i64 1))⟩,
  ⟨some 3, none, .mv (.t 9)⟩]))
def s_impl_nameOk : SFn := ⟨29, .seq (.rg [⟨some 2, none, .mv (.c (.bool false))⟩]) (.seq (.seq (.rg [⟨some 3, none, .mv (.c (.int .i64 0))⟩]) (.blk 0 (.loop s_impl_nameOk_L0))) (.seq (.rg [⟨some 26, none, .mv (.t 0)⟩,
  ⟨some 27, none, .lenS (.t 26)⟩,
  ⟨some 28, none, .callP 28 [.t 27, .c (.int .i64 1), .c (.int .i64 8)]⟩,
  ⟨some 2, none, .mv (.t 28)⟩]) (.ret))), [.t 2]⟩
def s_impl_isFree_L0 : SCode := .seq (.rg [⟨some 8, none, .bin .lss (.t 7) (.t 6)⟩]) (.seq (.cond (.t 8) (.skip) (.exit 0)) (.seq (.blk 1 (.seq (.rg [⟨some 9, none, .ia 1 (.t 5) (.t 7)⟩,
  ⟨some 10, none, .ld (.t 9)⟩,
  ⟨some 4, none, .mv (.t 10)⟩]) (.seq (.rg [⟨some 11, none, .mv (.t 4)⟩,
  ⟨some 12, none, .mv (.t 0)⟩,
  ⟨some 13, none, .bin .eql (.t 11) (.t 12)⟩]) (.cond (.t 13) (.seq (.rg [⟨some 2, none, .mv (.c (.bool false))⟩]) (.ret)) (.skip))))) (.rg [⟨some 14, none, .bin .add (.t 7) (.c (.int .i64 1))⟩,
  ⟨some 7, none, .mv (.t 14)⟩])))
def s_impl_isFree : SFn := ⟨17, .seq (.rg [⟨some 2, none, .mv (.c (.bool false))⟩]) (.seq (.seq (.rg [⟨some 5, none, .callP 88 [.c (.str [116, 97, 98, 108, 101, 32, 112, 114, 105, 109, 97, 114, 121, 32, 117, 110, 105, 113, 117, 101, 32, 105, 110, 100, 101, 120, 32, 110, 117, 108, 108, 32, 100, 101, 115, 99, 32, 105, 110, 116, 32, 110, 117, 109, 32, 116, 101, 120, 116, 32, 98, 111, 111, 108]), .c (.str [32])]⟩,
  ⟨some 6, none, .lenL (.t 5)⟩,
  ⟨some 7, none, .mv (.c (.int .i64 0))⟩]) (.blk 0 (.loop s_impl_isFree_L0))) (.seq (.rg [⟨some 15, none, .mv (.t 0)⟩,
  ⟨some 16, none, .callP 89 [.t 15]⟩,
  ⟨some 2, none, .mv (.t 16)⟩]) (.ret))), [.t 2]⟩
def s_impl_namesOk_L0 : SCode := .seq (.rg [⟨some 11, none, .bin .lss (.t 10) (.t 9)⟩]) (.seq (.cond (.t 11) (.skip) (.exit 0)) (.seq (.blk 1 (.seq (.rg [⟨some 12, none, .ia 3 (.t 8) (.t 10)⟩,
  ⟨some 13, none, .ldA 3 (.t 12)⟩,
  ⟨some 4, none, .alloc [.str [], .int .i64 0, .bool false]⟩,
  ⟨none, none, .st 3 (.t 4) (.t 13)⟩]) (.seq (.rg [⟨some 14, none, .fa 0 (.t 4)⟩,
  ⟨some 15, none, .ld (.t 14)⟩,
  ⟨some 16, none, .callP 83 [.t 15]⟩,
  ⟨some 17, none, .un .not (.t 16)⟩]) (.cond (.t 17) (.seq (.rg [⟨some 2, none, .mv (.c (.bool false))⟩]) (.ret)) (.skip))))) (.rg [⟨some 18, none, .bin .add (.t 10) (.c (.int .i64 1))⟩,
  ⟨some 10, none, .mv (.t 18)⟩])))
def s_impl_namesOk_L1 : SCode := .seq (.rg [⟨some 23, none, .bin .lss (.t 22) (.t 21)⟩]) (.seq (.cond (.t 23) (.skip) (.exit 2)) (.seq (.blk 3 (.seq (.rg [⟨some 24, none, .ia 3 (.t 20) (.t 22)⟩,
  ⟨some 25, none, .ldA 3 (.t 24)⟩,
  ⟨some 6, none, .alloc [.str [], .bool false, .snil]⟩,
  ⟨none, none, .st 3 (.t 6) (.t 25)⟩]) (.seq (.rg [⟨some 26, none, .fa 0 (.t 6)⟩,
  ⟨some 27, none, .ld (.t 26)⟩,
  ⟨some 28, none, .callP 83 [.t 27]⟩,
  ⟨some 29, none, .un .not (.t 28)⟩]) (.cond (.t 29) (.seq (.rg [⟨some 2, none, .mv (.c (.bool false))⟩]) (.ret)) (.skip))))) (.rg [⟨some 30, none, .bin .add (.t 22) (.c (.int .i64 1))⟩,
  ⟨some 22, none, .mv (.t 30)⟩])))
def s_impl_namesOk : SFn := ⟨34, .seq (.rg [⟨some 1, none, .box (.t 0)⟩,
  ⟨some 2, none, .mv (.c (.bool false))⟩]) (.seq (.seq (.rg [⟨some 7, none, .fa 1 (.t 1)⟩,
  ⟨some 8, none, .ld (.t 7)⟩,
  ⟨some 9, none, .lenL (.t 8)⟩,
  ⟨some 10, none, .mv (.c (.int .i64 0))⟩]) (.blk 0 (.loop s_impl_namesOk_L0))) (.seq (.seq (.rg [⟨some 19, none, .fa 3 (.t 1)⟩,
  ⟨some 20, none, .ld (.t 19)⟩,
  ⟨some 21, none, .lenL (.t 20)⟩,
  ⟨some 22, none, .mv (.c (.int .i64 0))⟩]) (.blk 2 (.loop s_impl_namesOk_L1))) (.seq (.rg [⟨some 31, none, .fa 0 (.t 1)⟩,
  ⟨some 32, none, .ld (.t 31)⟩,
  ⟨some 33, none, .callP 83 [.t 32]⟩,
  ⟨some 2, none, .mv (.t 33)⟩]) (.ret)))), [.t 2]⟩
def s_impl_twice_L0 : SCode := .seq (.rg [⟨some 25, none, .bin .lss (.t 24) (.t 23)⟩]) (.seq (.cond (.t 25) (.skip) (.exit 2)) (.seq (.blk 3 (.seq (.rg [⟨some 26, none, .ia 3 (.t 22) (.t 24)⟩,
  ⟨some 27, none, .ldA 3 (.t 26)⟩,
  ⟨some 6, none, .alloc [.str [], .int .i64 0, .bool false]⟩,
  ⟨none, none, .st 3 (.t 6) (.t 27)⟩]) (.seq (.rg [⟨some 28, none, .fa 0 (.t 6)⟩,
  ⟨some 29, none, .ld (.t 28)⟩,
  ⟨some 30, none, .fa 0 (.t 4)⟩,
  ⟨some 31, none, .ld (.t 30)⟩,
  ⟨some 32, none, .bin .eql (.t 29) (.t 31)⟩]) (.cond (.t 32) (.seq (.rg [⟨some 2, none, .mv (.c (.bool true))⟩]) (.ret)) (.skip))))) (.rg [⟨some 33, none, .bin .add (.t 24) (.c (.int .i64 1))⟩,
  ⟨some 24, none, .mv (.t 33)⟩])))
def s_impl_twice_L1 : SCode := .seq (.rg [⟨some 15, none, .bin .lss (.t 14) (.t 13)⟩]) (.seq (.cond (.t 15) (.skip) (.exit 0)) (.seq (.blk 1 (.seq (.rg [⟨some 16, none, .mv (.t 14)⟩,
  ⟨some 17, none, .ia 3 (.t 12) (.t 14)⟩,
  ⟨some 18, none, .ldA 3 (.t 17)⟩,
  ⟨some 4, none, .alloc [.str [], .int .i64 0, .bool false]⟩,
  ⟨some 3, none, .mv (.t 16)⟩,
  ⟨none, none, .st 3 (.t 4) (.t 18)⟩]) (.seq (.rg [⟨some 19, none, .fa 1 (.t 1)⟩,
  ⟨some 20, none, .ld (.t 19)⟩,
  ⟨some 21, none, .mv (.t 3)⟩,
  ⟨some 22, none, .sliL 3 (.t 20) none (some (.t 21))⟩,
  ⟨some 23, none, .lenL (.t 22)⟩,
  ⟨some 24, none, .mv (.c (.int .i64 0))⟩]) (.blk 2 (.loop s_impl_twice_L0))))) (.rg [⟨some 34, none, .bin .add (.t 14) (.c (.int .i64 1))⟩,
  ⟨some 14, none, .mv (.t 34)⟩])))
def s_impl_twice_L2 : SCode := .seq (.rg [⟨some 49, none, .bin .lss (.t 48) (.t 47)⟩]) (.seq (.cond (.t 49) (.skip) (.exit 6)) (.seq (.blk 7 (.seq (.rg [⟨some 50, none, .ia 3 (.t 46) (.t 48)⟩,
  ⟨some 51, none, .ldA 3 (.t 50)⟩,
  ⟨some 10, none, .alloc [.str [], .bool false, .snil]⟩,
  ⟨none, none, .st 3 (.t 10) (.t 51)⟩]) (.seq (.rg [⟨some 52, none, .fa 0 (.t 10)⟩,
  ⟨some 53, none, .ld (.t 52)⟩,
  ⟨some 54, none, .fa 0 (.t 8)⟩,
  ⟨some 55, none, .ld (.t 54)⟩,
  ⟨some 56, none, .bin .eql (.t 53) (.t 55)⟩]) (.cond (.t 56) (.seq (.rg [⟨some 2, none, .mv (.c (.bool true))⟩]) (.ret)) (.skip))))) (.rg [⟨some 57, none, .bin .add (.t 48) (.c (.int .i64 1))⟩,
  ⟨some 48, none, .mv (.t 57)⟩])))
def s_impl_twice_L3 : SCode := .seq (.rg [⟨some 39, none, .bin .lss (.t 38) (.t 37)⟩]) (.seq (.cond (.t 39) (.skip) (.exit 4)) (.seq (.blk 5 (.seq (.rg [⟨some 40, none, .mv (.t 38)⟩,
  ⟨some 41, none, .ia 3 (.t 36) (.t 38)⟩,
  ⟨some 42, none, .ldA 3 (.t 41)⟩,
  ⟨some 8, none, .alloc [.str [], .bool false, .snil]⟩,
  ⟨some 7, none, .mv (.t 40)⟩,
  ⟨none, none, .st 3 (.t 8) (.t 42)⟩]) (.seq (.rg [⟨some 43, none, .fa 3 (.t 1)⟩,
  ⟨some 44, none, .ld (.t 43)⟩,
  ⟨some 45, none, .mv (.t 7)⟩,
  ⟨some 46, none, .sliL 3 (.t 44) none (some (.t 45))⟩,
  ⟨some 47, none, .lenL (.t 46)⟩,
  ⟨some 48, none, .mv (.c (.int .i64 0))⟩]) (.blk 6 (.loop s_impl_twice_L2))))) (.rg [⟨some 58, none, .bin .add (.t 38) (.c (.int .i64 1))⟩,
  ⟨some 38, none, .mv (.t 58)⟩])))
def s_impl_twice : SFn := ⟨59, .seq (.rg [⟨some 1, none, .box (.t 0)⟩,
  ⟨some 2, none, .mv (.c (.bool false))⟩]) (.seq (.seq (.rg [⟨some 11, none, .fa 1 (.t 1)⟩,
  ⟨some 12, none, .ld (.t 11)⟩,
  ⟨some 13, none, .lenL (.t 12)⟩,
  ⟨some 14, none, .mv (.c (.int .i64 0))⟩]) (.blk 0 (.loop s_impl_twice_L1))) (.seq (.seq (.rg [⟨some 35, none, .fa 3 (.t 1)⟩,
  ⟨some 36, none, .ld (.t 35)⟩,
  ⟨some 37, none, .lenL (.t 36)⟩,
  ⟨some 38, none, .mv (.c (.int .i64 0))⟩]) (.blk 4 (.loop s_impl_twice_L3))) (.seq (.rg [⟨some 2, none, .mv (.c (.bool false))⟩]) (.ret)))), [.t 2]⟩
def s_impl_CheckDef_L0 : SCode := .seq (.rg [⟨some 21, none, .bin .lss (.t 20) (.t 19)⟩]) (.seq (.cond (.t 21) (.skip) (.exit 0)) (.seq (.blk 1 (.seq (.rg [⟨some 22, none, .ia 3 (.t 18) (.t 20)⟩,
  ⟨some 23, none, .ldA 3 (.t 22)⟩,
  ⟨some 4, none, .alloc [.str [], .int .i64 0, .bool false]⟩,
  ⟨none, none, .st 3 (.t 4) (.t 23)⟩]) (.seq (.rg [⟨some 24, none, .fa 1 (.t 4)⟩,
  ⟨some 25, none, .ld (.t 24)⟩,
  ⟨some 26, none, .callP 28 [.t 25, .c (.int .i64 1), .c (.int .i64 4)]⟩,
  ⟨some 27, none, .un .not (.t 26)⟩]) (.cond (.t 27) (.seq (.rg [⟨some 2, none, .mv (.c (.int .i64 2))⟩]) (.ret)) (.skip))))) (.rg [⟨some 28, none, .bin .add (.t 20) (.c (.int .i64 1))⟩,
  ⟨some 20, none, .mv (.t 28)⟩])))
def s_impl_CheckDef_L1 : SCode := .seq (.rg [⟨some 39, none, .bin .lss (.t 38) (.t 37)⟩]) (.seq (.cond (.t 39) (.skip) (.exit 2)) (.seq (.blk 3 (.seq (.rg [⟨some 40, none, .ia 3 (.t 36) (.t 38)⟩,
  ⟨some 41, none, .ldA 3 (.t 40)⟩,
  ⟨some 6, none, .alloc [.str [], .bool false, .snil]⟩,
  ⟨none, none, .st 3 (.t 6) (.t 41)⟩]) (.seq (.rg [⟨some 42, none, .ldA 4 (.t 1)⟩,
  ⟨some 43, none, .fa 2 (.t 6)⟩,
  ⟨some 44, none, .ld (.t 43)⟩,
  ⟨some 45, none, .callP 67 [.t 42, .t 44]⟩,
  ⟨some 46, none, .un .not (.t 45)⟩]) (.cond (.t 46) (.seq (.rg [⟨some 2, none, .mv (.c (.int .i64 5))⟩]) (.ret)) (.skip))))) (.rg [⟨some 47, none, .bin .add (.t 38) (.c (.int .i64 1))⟩,
  ⟨some 38, none, .mv (.t 47)⟩])))
def s_impl_CheckDef_L2 : SCode := .seq (.rg [⟨some 57, none, .bin .lss (.t 56) (.t 55)⟩]) (.seq (.cond (.t 57) (.skip) (.exit 4)) (.seq (.blk 5 (.seq (.rg [⟨some 58, none, .ia 2 (.t 54) (.t 56)⟩,
  ⟨some 59, none, .ldA 2 (.t 58)⟩,
  ⟨some 8, none, .alloc [.int .i64 0, .bool false]⟩,
  ⟨none, none, .st 2 (.t 8) (.t 59)⟩]) (.seq (.rg [⟨some 60, none, .fa 1 (.t 1)⟩,
  ⟨some 61, none, .ld (.t 60)⟩,
  ⟨some 62, none, .fa 0 (.t 8)⟩,
  ⟨some 63, none, .ld (.t 62)⟩,
  ⟨some 64, none, .ia 3 (.t 61) (.t 63)⟩,
  ⟨some 65, none, .fa 2 (.t 64)⟩,
  ⟨some 66, none, .ld (.t 65)⟩]) (.cond (.t 66) (.seq (.rg [⟨some 2, none, .mv (.c (.int .i64 4))⟩]) (.ret)) (.skip))))) (.rg [⟨some 67, none, .bin .add (.t 56) (.c (.int .i64 1))⟩,
  ⟨some 56, none, .mv (.t 67)⟩])))
def s_impl_CheckDef : SFn := ⟨68, .seq (.rg [⟨some 1, none, .box (.t 0)⟩,
  ⟨some 2, none, .mv (.c (.int .i64 0))⟩]) (.seq (.seq (.rg [⟨some 9, none, .ldA 4 (.t 1)⟩,
  ⟨some 10, none, .callP 65 [.t 9]⟩,
  ⟨some 11, none, .un .not (.t 10)⟩]) (.cond (.t 11) (.seq (.rg [⟨some 2, none, .mv (.c (.int .i64 1))⟩]) (.ret)) (.skip))) (.seq (.seq (.rg [⟨some 12, none, .fa 1 (.t 1)⟩,
  ⟨some 13, none, .ld (.t 12)⟩,
  ⟨some 14, none, .lenL (.t 13)⟩,
  ⟨some 15, none, .callP 28 [.t 14, .c (.int .i64 1), .c (.int .i64 6)]⟩,
  ⟨some 16, none, .un .not (.t 15)⟩]) (.cond (.t 16) (.seq (.rg [⟨some 2, none, .mv (.c (.int .i64 2))⟩]) (.ret)) (.skip))) (.seq (.seq (.rg [⟨some 17, none, .fa 1 (.t 1)⟩,
  ⟨some 18, none, .ld (.t 17)⟩,
  ⟨some 19, none, .lenL (.t 18)⟩,
  ⟨some 20, none, .mv (.c (.int .i64 0))⟩]) (.blk 0 (.loop s_impl_CheckDef_L0))) (.seq (.seq (.rg [⟨some 29, none, .ldA 4 (.t 1)⟩,
  ⟨some 30, none, .callP 66 [.t 29]⟩]) (.cond (.t 30) (.seq (.rg [⟨some 2, none, .mv (.c (.int .i64 3))⟩]) (.ret)) (.skip))) (.seq (.seq (.rg [⟨some 31, none, .fa 3 (.t 1)⟩,
  ⟨some 32, none, .ld (.t 31)⟩,
  ⟨some 33, none, .lenL (.t 32)⟩,
  ⟨some 34, none, .bin .gtr (.t 33) (.c (.int .i64 2))⟩]) (.cond (.t 34) (.seq (.rg [⟨some 2, none, .mv (.c (.int .i64 6))⟩]) (.ret)) (.skip))) (.seq (.seq (.rg [⟨some 35, none, .fa 3 (.t 1)⟩,
  ⟨some 36, none, .ld (.t 35)⟩,
  ⟨some 37, none, .lenL (.t 36)⟩,
  ⟨some 38, none, .mv (.c (.int .i64 0))⟩]) (.blk 2 (.loop s_impl_CheckDef_L1))) (.seq (.seq (.rg [⟨some 48, none, .ldA 4 (.t 1)⟩,
  ⟨some 49, none, .fa 2 (.t 1)⟩,
  ⟨some 50, none, .ld (.t 49)⟩,
  ⟨some 51, none, .callP 67 [.t 48, .t 50]⟩,
  ⟨some 52, none, .un .not (.t 51)⟩]) (.cond (.t 52) (.seq (.rg [⟨some 2, none, .mv (.c (.int .i64 5))⟩]) (.ret)) (.skip))) (.seq (.seq (.rg [⟨some 53, none, .fa 2 (.t 1)⟩,
  ⟨some 54, none, .ld (.t 53)⟩,
  ⟨some 55, none, .lenL (.t 54)⟩,
  ⟨some 56, none, .mv (.c (.int .i64 0))⟩]) (.blk 4 (.loop s_impl_CheckDef_L2))) (.seq (.rg [⟨some 2, none, .mv (.c (.int .i64 0))⟩]) (.ret)))))))))), [.t 2]⟩
def s_impl_FirstBad_L0 : SCode := .seq (.rg [⟨some 27, none, .bin .lss (.t 26) (.t 25)⟩]) (.seq (.cond (.t 27) (.skip) (.exit 2)) (.seq (.blk 3 (.seq (.rg [⟨some 28, none, .ia 4 (.t 24) (.t 26)⟩,
  ⟨some 29, none, .ldA 4 (.t 28)⟩,
  ⟨some 6, none, .alloc [.str [], .snil, .snil, .snil]⟩,
  ⟨none, none, .st 4 (.t 6) (.t 29)⟩]) (.seq (.rg [⟨some 30, none, .fa 0 (.t 6)⟩,
  ⟨some 31, none, .ld (.t 30)⟩,
  ⟨some 32, none, .fa 0 (.t 4)⟩,
  ⟨some 33, none, .ld (.t 32)⟩,
  ⟨some 34, none, .bin .eql (.t 31) (.t 33)⟩]) (.cond (.t 34) (.seq (.rg [⟨some 35, none, .mv (.t 3)⟩,
  ⟨some 2, none, .mv (.t 35)⟩]) (.ret)) (.skip))))) (.rg [⟨some 36, none, .bin .add (.t 26) (.c (.int .i64 1))⟩,
  ⟨some 26, none, .mv (.t 36)⟩])))
def s_impl_FirstBad_L1 : SCode := .seq (.rg [⟨some 10, none, .bin .lss (.t 9) (.t 8)⟩]) (.seq (.cond (.t 10) (.skip) (.exit 0)) (.seq (.blk 1 (.seq (.rg [⟨some 11, none, .mv (.t 9)⟩,
  ⟨some 12, none, .ia 4 (.t 7) (.t 9)⟩,
  ⟨some 13, none, .ldA 4 (.t 12)⟩,
  ⟨some 4, none, .alloc [.str [], .snil, .snil, .snil]⟩,
  ⟨some 3, none, .mv (.t 11)⟩,
  ⟨none, none, .st 4 (.t 4) (.t 13)⟩]) (.seq (.seq (.rg [⟨some 14, none, .mv (.t 3)⟩,
  ⟨some 15, none, .bin .geq (.t 14) (.c (.int .i64 3))⟩,
  ⟨some 16, none, .mv (.t 15)⟩,
  ⟨some 17, some (16, false), .ldA 4 (.t 4)⟩,
  ⟨some 18, some (16, false), .callP 43 [.t 17]⟩,
  ⟨some 19, some (16, false), .bin .neq (.t 18) (.c (.int .i64 0))⟩,
  ⟨some 20, none, .pick (.t 16) (.c (.bool true)) (.t 19)⟩]) (.cond (.t 20) (.seq (.rg [⟨some 21, none, .mv (.t 3)⟩,
  ⟨some 2, none, .mv (.t 21)⟩]) (.ret)) (.skip))) (.seq (.rg [⟨some 22, none, .mv (.t 0)⟩,
  ⟨some 23, none, .mv (.t 3)⟩,
  ⟨some 24, none, .sliL 4 (.t 22) none (some (.t 23))⟩,
  ⟨some 25, none, .lenL (.t 24)⟩,
  ⟨some 26, none, .mv (.c (.int .i64 0))⟩]) (.blk 2 (.loop s_impl_FirstBad_L0)))))) (.rg [⟨some 37, none, .bin .add (.t 9) (.c (.int .i64 1))⟩,
  ⟨some 9, none, .mv (.t 37)⟩])))
def s_impl_FirstBad : SFn := ⟨38, .seq (.rg [⟨some 2, none, .mv (.c (.int .i64 0))⟩]) (.seq (.seq (.rg [⟨some 7, none, .mv (.t 0)⟩,
  ⟨some 8, none, .lenL (.t 7)⟩,
  ⟨some 9, none, .mv (.c (.int .i64 0))⟩]) (.blk 0 (.loop s_impl_FirstBad_L1))) (.seq (.rg [⟨some 2, none, .mv (.c (.int .i64 (-1)))⟩]) (.ret))), [.t 2]⟩
def s_impl_hasIndex : SFn := ⟨28, .seq (.rg [⟨some 6, none, .mv (.c (.bool false))⟩]) (.seq (.rg [⟨some 7, none, .mv (.t 0)⟩,
  ⟨some 8, none, .callP 53 [.t 7]⟩,
  ⟨some 9, none, .bin .eql (.t 8) (.c (.int .i64 (-1)))⟩,
  ⟨some 10, none, .mv (.t 9)⟩,
  ⟨some 11, some (10, true), .mv (.t 1)⟩,
  ⟨some 12, some (10, true), .mv (.t 0)⟩,
  ⟨some 13, some (10, true), .lenL (.t 12)⟩,
  ⟨some 14, some (10, true), .bin .sub (.t 13) (.c (.int .i64 1))⟩,
  ⟨some 15, some (10, true), .callP 28 [.t 11, .c (.int .i64 0), .t 14]⟩,
  ⟨some 16, none, .pick (.t 10) (.t 15) (.c (.bool false))⟩,
  ⟨some 17, none, .mv (.t 16)⟩,
  ⟨some 18, some (17, true), .mv (.t 2)⟩,
  ⟨some 19, some (17, true), .mv (.t 0)⟩,
  ⟨some 20, some (17, true), .mv (.t 1)⟩,
  ⟨some 21, some (17, true), .ia 4 (.t 19) (.t 20)⟩,
  ⟨some 22, some (17, true), .fa 3 (.t 21)⟩,
  ⟨some 23, some (17, true), .ld (.t 22)⟩,
  ⟨some 24, some (17, true), .lenL (.t 23)⟩,
  ⟨some 25, some (17, true), .bin .sub (.t 24) (.c (.int .i64 1))⟩,
  ⟨some 26, some (17, true), .callP 28 [.t 18, .c (.int .i64 (-1)), .t 25]⟩,
  ⟨some 27, none, .pick (.t 17) (.t 26) (.c (.bool false))⟩,
  ⟨some 6, none, .mv (.t 27)⟩]) (.ret)), [.t 6]⟩
def s_impl_partsOf_L0 : SCode := .seq (.rg [⟨some 12, none, .bin .lss (.t 11) (.t 10)⟩]) (.seq (.cond (.t 12) (.skip) (.exit 0)) (.seq (.blk 1 (.seq (.rg [⟨some 13, none, .ia 2 (.t 9) (.t 11)⟩,
  ⟨some 14, none, .ldA 2 (.t 13)⟩,
  ⟨some 7, none, .alloc [.int .i64 0, .bool false]⟩,
  ⟨none, none, .st 2 (.t 7) (.t 14)⟩]) (.seq (.rg [⟨some 15, none, .fa 1 (.t 2)⟩,
  ⟨some 16, none, .ld (.t 15)⟩,
  ⟨some 17, none, .fa 0 (.t 7)⟩,
  ⟨some 18, none, .ld (.t 17)⟩,
  ⟨some 19, none, .ia 3 (.t 16) (.t 18)⟩,
  ⟨some 20, none, .ldA 3 (.t 19)⟩,
  ⟨some 8, none, .alloc [.str [], .int .i64 0, .bool false]⟩,
  ⟨none, none, .st 3 (.t 8) (.t 20)⟩]) (.rg [⟨some 21, none, .mv (.t 5)⟩,
  ⟨some 22, none, .fa 0 (.t 7)⟩,
  ⟨some 23, none, .ld (.t 22)⟩,
  ⟨some 24, none, .fa 1 (.t 8)⟩,
  ⟨some 25, none, .ld (.t 24)⟩,
  ⟨some 26, none, .fa 2 (.t 8)⟩,
  ⟨some 27, none, .ld (.t 26)⟩,
  ⟨some 28, none, .fa 1 (.t 7)⟩,
  ⟨some 29, none, .ld (.t 28)⟩,
  ⟨some 30, none, .build [.int .i64 0, .int .i64 0, .bool false, .bool false] [(0, (1, .t 23)), (1, (1, .t 25)), (2, (1, .t 27)), (3, (1, .t 29))]⟩,
  ⟨some 31, none, .bslice false [.int .i64 0, .int .i64 0, .bool false, .bool false] 1 [(0, .t 30)]⟩,
  ⟨some 32, none, .app false 24 4 (.t 21) (.t 31)⟩,
  ⟨some 5, none, .mv (.t 32)⟩])))) (.rg [⟨some 33, none, .bin .add (.t 11) (.c (.int .i64 1))⟩,
  ⟨some 11, none, .mv (.t 33)⟩])))
def s_impl_partsOf : SFn := ⟨35, .seq (.rg [⟨some 2, none, .box (.t 0)⟩,
  ⟨some 4, none, .mv (.c .snil)⟩]) (.seq (.rg [⟨some 5, none, .mv (.c .snil)⟩]) (.seq (.seq (.rg [⟨some 9, none, .mv (.t 1)⟩,
  ⟨some 10, none, .lenL (.t 9)⟩,
  ⟨some 11, none, .mv (.c (.int .i64 0))⟩]) (.blk 0 (.loop s_impl_partsOf_L0))) (.seq (.rg [⟨some 34, none, .mv (.t 5)⟩,
  ⟨some 4, none, .mv (.t 34)⟩]) (.ret)))), [.t 4]⟩
def s_impl_PrimaryPlan : SFn := ⟨10, .seq (.rg [⟨some 1, none, .box (.t 0)⟩,
  ⟨some 2, none, .mv (.c .snil)⟩]) (.seq (.seq (.rg [⟨some 3, none, .ldA 4 (.t 1)⟩,
  ⟨some 4, none, .callP 43 [.t 3]⟩,
  ⟨some 5, none, .bin .neq (.t 4) (.c (.int .i64 0))⟩]) (.cond (.t 5) (.seq (.rg [⟨some 2, none, .mv (.c .snil)⟩]) (.ret)) (.skip))) (.seq (.rg [⟨some 6, none, .ldA 4 (.t 1)⟩,
  ⟨some 7, none, .fa 2 (.t 1)⟩,
  ⟨some 8, none, .ld (.t 7)⟩,
  ⟨some 9, none, .callP 68 [.t 6, .t 8]⟩,
  ⟨some 2, none, .mv (.t 9)⟩]) (.ret))), [.t 2]⟩
def s_impl_IndexPlan : SFn := ⟨30, .seq (.rg [⟨some 2, none, .box (.t 0)⟩,
  ⟨some 4, none, .mv (.c .snil)⟩]) (.seq (.seq (.rg [⟨some 5, none, .ldA 4 (.t 2)⟩,
  ⟨some 6, none, .callP 43 [.t 5]⟩,
  ⟨some 7, none, .bin .neq (.t 6) (.c (.int .i64 0))⟩,
  ⟨some 8, none, .mv (.t 7)⟩,
  ⟨some 9, some (8, false), .mv (.t 1)⟩,
  ⟨some 10, some (8, false), .fa 3 (.t 2)⟩,
  ⟨some 11, some (8, false), .ld (.t 10)⟩,
  ⟨some 12, some (8, false), .lenL (.t 11)⟩,
  ⟨some 13, some (8, false), .bin .sub (.t 12) (.c (.int .i64 1))⟩,
  ⟨some 14, some (8, false), .callP 28 [.t 9, .c (.int .i64 0), .t 13]⟩,
  ⟨some 15, some (8, false), .un .not (.t 14)⟩,
  ⟨some 16, none, .pick (.t 8) (.c (.bool true)) (.t 15)⟩]) (.cond (.t 16) (.seq (.rg [⟨some 4, none, .mv (.c .snil)⟩]) (.ret)) (.skip))) (.seq (.rg [⟨some 17, none, .ldA 4 (.t 2)⟩,
  ⟨some 18, none, .fa 3 (.t 2)⟩,
  ⟨some 19, none, .ld (.t 18)⟩,
  ⟨some 20, none, .mv (.t 1)⟩,
  ⟨some 21, none, .ia 3 (.t 19) (.t 20)⟩,
  ⟨some 22, none, .fa 2 (.t 21)⟩,
  ⟨some 23, none, .ld (.t 22)⟩,
  ⟨some 24, none, .callP 68 [.t 17, .t 23]⟩,
  ⟨some 25, none, .ldA 4 (.t 2)⟩,
  ⟨some 26, none, .fa 2 (.t 2)⟩,
  ⟨some 27, none, .ld (.t 26)⟩,
  ⟨some 28, none, .callP 68 [.t 25, .t 27]⟩,
  ⟨some 29, none, .app false 24 4 (.t 24) (.t 28)⟩,
  ⟨some 4, none, .mv (.t 29)⟩]) (.ret))), [.t 4]⟩
def s_impl_planOf : SFn := ⟨12, .seq (.rg [⟨some 2, none, .box (.t 0)⟩,
  ⟨some 4, none, .mv (.c .snil)⟩]) (.seq (.seq (.rg [⟨some 5, none, .mv (.t 1)⟩,
  ⟨some 6, none, .bin .lss (.t 5) (.c (.int .i64 0))⟩]) (.cond (.t 6) (.seq (.rg [⟨some 7, none, .ldA 4 (.t 2)⟩,
  ⟨some 8, none, .callP 44 [.t 7]⟩,
  ⟨some 4, none, .mv (.t 8)⟩]) (.ret)) (.skip))) (.seq (.rg [⟨some 9, none, .ldA 4 (.t 2)⟩,
  ⟨some 10, none, .mv (.t 1)⟩,
  ⟨some 11, none, .callP 45 [.t 9, .t 10]⟩,
  ⟨some 4, none, .mv (.t 11)⟩]) (.ret))), [.t 4]⟩
def s_impl_ValOk : SFn := ⟨56, .seq (.rg [⟨some 1, none, .box (.t 0)⟩,
  ⟨some 2, none, .mv (.c (.bool false))⟩]) (.seq (.seq (.rg [⟨some 3, none, .fa 0 (.t 1)⟩,
  ⟨some 4, none, .ld (.t 3)⟩]) (.blk 0 (.seq (.rg [⟨some 6, none, .bin .eql (.t 4) (.c (.int .i64 0))⟩,
  ⟨some 5, none, .mv (.t 6)⟩]) (.cond (.t 5) (.seq (.rg [⟨some 7, none, .fa 1 (.t 1)⟩,
  ⟨some 8, none, .ld (.t 7)⟩,
  ⟨some 9, none, .bin .eql (.t 8) (.c (.int .i64 0))⟩,
  ⟨some 10, none, .mv (.t 9)⟩,
  ⟨some 11, some (10, true), .fa 2 (.t 1)⟩,
  ⟨some 12, some (10, true), .ld (.t 11)⟩,
  ⟨some 13, some (10, true), .bin .eql (.t 12) (.c (.str []))⟩,
  ⟨some 14, none, .pick (.t 10) (.t 13) (.c (.bool false))⟩,
  ⟨some 2, none, .mv (.t 14)⟩]) (.ret)) (.seq (.rg [⟨some 16, none, .bin .eql (.t 4) (.c (.int .i64 1))⟩,
  ⟨some 15, none, .mv (.t 16)⟩]) (.cond (.t 15) (.seq (.rg [⟨some 17, none, .fa 1 (.t 1)⟩,
  ⟨some 18, none, .ld (.t 17)⟩,
  ⟨some 19, none, .callP 28 [.t 18, .c (.int .i64 (-2147483648)), .c (.int .i64 2147483647)]⟩,
  ⟨some 20, none, .mv (.t 19)⟩,
  ⟨some 21, some (20, true), .fa 2 (.t 1)⟩,
  ⟨some 22, some (20, true), .ld (.t 21)⟩,
  ⟨some 23, some (20, true), .bin .eql (.t 22) (.c (.str []))⟩,
  ⟨some 24, none, .pick (.t 20) (.t 23) (.c (.bool false))⟩,
  ⟨some 2, none, .mv (.t 24)⟩]) (.ret)) (.seq (.rg [⟨some 26, none, .bin .eql (.t 4) (.c (.int .i64 2))⟩,
  ⟨some 25, none, .mv (.t 26)⟩]) (.cond (.t 25) (.seq (.rg [⟨some 27, none, .fa 1 (.t 1)⟩,
  ⟨some 28, none, .ld (.t 27)⟩,
  ⟨some 29, none, .callP 28 [.t 28, .c (.int .i64 (-1000000000000000)), .c (.int .i64 1000000000000000)]⟩,
  ⟨some 30, none, .mv (.t 29)⟩,
  ⟨some 31, some (30, true), .fa 2 (.t 1)⟩,
  ⟨some 32, some (30, true), .ld (.t 31)⟩,
  ⟨some 33, some (30, true), .bin .eql (.t 32) (.c (.str []))⟩,
  ⟨some 34, none, .pick (.t 30) (.t 33) (.c (.bool false))⟩,
  ⟨some 2, none, .mv (.t 34)⟩]) (.ret)) (.seq (.rg [⟨some 36, none, .bin .eql (.t 4) (.c (.int .i64 3))⟩,
  ⟨some 35, none, .mv (.t 36)⟩]) (.cond (.t 35) (.seq (.rg [⟨some 37, none, .fa 1 (.t 1)⟩,
  ⟨some 38, none, .ld (.t 37)⟩,
  ⟨some 39, none, .bin .eql (.t 38) (.c (.int .i64 0))⟩,
  ⟨some 40, none, .mv (.t 39)⟩,
  ⟨some 41, some (40, true), .fa 2 (.t 1)⟩,
  ⟨some 42, some (40, true), .ld (.t 41)⟩,
  ⟨some 43, some (40, true), .lenS (.t 42)⟩,
  ⟨some 44, some (40, true), .bin .leq (.t 43) (.c (.int .i64 30))⟩,
  ⟨some 45, none, .pick (.t 40) (.t 44) (.c (.bool false))⟩,
  ⟨some 2, none, .mv (.t 45)⟩]) (.ret)) (.seq (.rg [⟨some 47, none, .bin .eql (.t 4) (.c (.int .i64 4))⟩,
  ⟨some 46, none, .mv (.t 47)⟩]) (.cond (.t 46) (.seq (.rg [⟨some 48, none, .fa 1 (.t 1)⟩,
  ⟨some 49, none, .ld (.t 48)⟩,
  ⟨some 50, none, .callP 28 [.t 49, .c (.int .i64 0), .c (.int .i64 1)]⟩,
  ⟨some 51, none, .mv (.t 50)⟩,
  ⟨some 52, some (51, true), .fa 2 (.t 1)⟩,
  ⟨some 53, some (51, true), .ld (.t 52)⟩,
  ⟨some 54, some (51, true), .bin .eql (.t 53) (.c (.str []))⟩,
  ⟨some 55, none, .pick (.t 51) (.t 54) (.c (.bool false))⟩,
  ⟨some 2, none, .mv (.t 55)⟩]) (.ret)) (.skip))))))))))))) (.seq (.rg [⟨some 2, none, .mv (.c (.bool false))⟩]) (.ret))), [.t 2]⟩
def s_impl_Fits : SFn := ⟨28, .seq (.rg [⟨some 2, none, .box (.t 0)⟩,
  ⟨some 3, none, .box (.t 1)⟩,
  ⟨some 4, none, .mv (.c (.bool false))⟩]) (.seq (.rg [⟨some 5, none, .ldA 3 (.t 3)⟩,
  ⟨some 6, none, .callP 77 [.t 5]⟩,
  ⟨some 7, none, .mv (.t 6)⟩,
  ⟨some 8, some (7, true), .fa 0 (.t 3)⟩,
  ⟨some 9, some (7, true), .ld (.t 8)⟩,
  ⟨some 10, some (7, true), .fa 1 (.t 2)⟩,
  ⟨some 11, some (7, true), .ld (.t 10)⟩,
  ⟨some 12, some (7, true), .bin .eql (.t 9) (.t 11)⟩,
  ⟨some 13, some (7, true), .mv (.t 12)⟩,
  ⟨some 14, some (13, true), .fa 0 (.t 3)⟩,
  ⟨some 15, some (13, true), .ld (.t 14)⟩,
  ⟨some 16, some (13, true), .bin .neq (.t 15) (.c (.int .i64 0))⟩,
  ⟨some 17, some (7, true), .pick (.t 13) (.t 16) (.c (.bool false))⟩,
  ⟨some 18, some (7, true), .mv (.t 17)⟩,
  ⟨some 19, some (18, false), .fa 0 (.t 3)⟩,
  ⟨some 20, some (18, false), .ld (.t 19)⟩,
  ⟨some 21, some (18, false), .bin .eql (.t 20) (.c (.int .i64 0))⟩,
  ⟨some 22, some (18, false), .mv (.t 21)⟩,
  ⟨some 23, some (22, true), .fa 2 (.t 2)⟩,
  ⟨some 24, some (22, true), .ld (.t 23)⟩,
  ⟨some 25, some (18, false), .pick (.t 22) (.t 24) (.c (.bool false))⟩,
  ⟨some 26, some (7, true), .pick (.t 18) (.c (.bool true)) (.t 25)⟩,
  ⟨some 27, none, .pick (.t 7) (.t 26) (.c (.bool false))⟩,
  ⟨some 4, none, .mv (.t 27)⟩]) (.ret)), [.t 4]⟩
def s_impl_FitsAll_L0 : SCode := .seq (.rg [⟨some 15, none, .bin .lss (.t 14) (.t 13)⟩]) (.seq (.cond (.t 15) (.skip) (.exit 0)) (.seq (.blk 1 (.seq (.rg [⟨some 16, none, .mv (.t 14)⟩,
  ⟨some 17, none, .ia 3 (.t 12) (.t 14)⟩,
  ⟨some 18, none, .ldA 3 (.t 17)⟩,
  ⟨some 6, none, .alloc [.int .i64 0, .int .i64 0, .str []]⟩,
  ⟨some 5, none, .mv (.t 16)⟩,
  ⟨none, none, .st 3 (.t 6) (.t 18)⟩]) (.seq (.rg [⟨some 19, none, .mv (.t 0)⟩,
  ⟨some 20, none, .mv (.t 5)⟩,
  ⟨some 21, none, .ia 4 (.t 19) (.t 20)⟩,
  ⟨some 22, none, .ldA 4 (.t 21)⟩,
  ⟨some 23, none, .ldA 3 (.t 6)⟩,
  ⟨some 24, none, .callP 54 [.t 22, .t 23]⟩,
  ⟨some 25, none, .un .not (.t 24)⟩]) (.cond (.t 25) (.seq (.rg [⟨some 4, none, .mv (.c (.bool false))⟩]) (.ret)) (.skip))))) (.rg [⟨some 26, none, .bin .add (.t 14) (.c (.int .i64 1))⟩,
  ⟨some 14, none, .mv (.t 26)⟩])))
def s_impl_FitsAll : SFn := ⟨27, .seq (.rg [⟨some 4, none, .mv (.c (.bool false))⟩]) (.seq (.seq (.rg [⟨some 7, none, .mv (.t 1)⟩,
  ⟨some 8, none, .lenL (.t 7)⟩,
  ⟨some 9, none, .mv (.t 0)⟩,
  ⟨some 10, none, .lenL (.t 9)⟩,
  ⟨some 11, none, .bin .gtr (.t 8) (.t 10)⟩]) (.cond (.t 11) (.seq (.rg [⟨some 4, none, .mv (.c (.bool false))⟩]) (.ret)) (.skip))) (.seq (.seq (.rg [⟨some 12, none, .mv (.t 1)⟩,
  ⟨some 13, none, .lenL (.t 12)⟩,
  ⟨some 14, none, .mv (.c (.int .i64 0))⟩]) (.blk 0 (.loop s_impl_FitsAll_L0))) (.seq (.rg [⟨some 4, none, .mv (.c (.bool true))⟩]) (.ret)))), [.t 4]⟩
def s_impl_ScanOk : SFn := ⟨37, .seq (.rg [⟨some 3, none, .box (.t 1)⟩,
  ⟨some 4, none, .mv (.c (.bool false))⟩]) (.seq (.seq (.rg [⟨some 6, none, .mv (.t 0)⟩,
  ⟨some 7, none, .fa 0 (.t 3)⟩,
  ⟨some 8, none, .ld (.t 7)⟩,
  ⟨some 9, none, .fa 1 (.t 3)⟩,
  ⟨some 10, none, .ld (.t 9)⟩,
  ⟨some 11, none, .callP 27 [.t 6, .t 8, .t 10]⟩,
  ⟨some 12, none, .un .not (.t 11)⟩,
  ⟨some 13, none, .mv (.t 12)⟩,
  ⟨some 14, some (13, false), .fa 7 (.t 3)⟩,
  ⟨some 15, some (13, false), .ld (.t 14)⟩,
  ⟨some 16, some (13, false), .callP 28 [.t 15, .c (.int .i64 0), .c (.int .i64 100)]⟩,
  ⟨some 17, some (13, false), .un .not (.t 16)⟩,
  ⟨some 18, none, .pick (.t 13) (.c (.bool true)) (.t 17)⟩]) (.cond (.t 18) (.seq (.rg [⟨some 4, none, .mv (.c (.bool false))⟩]) (.ret)) (.skip))) (.seq (.rg [⟨some 19, none, .mv (.t 0)⟩,
  ⟨some 20, none, .fa 0 (.t 3)⟩,
  ⟨some 21, none, .ld (.t 20)⟩,
  ⟨some 22, none, .ia 4 (.t 19) (.t 21)⟩,
  ⟨some 23, none, .ldA 4 (.t 22)⟩,
  ⟨some 24, none, .fa 1 (.t 3)⟩,
  ⟨some 25, none, .ld (.t 24)⟩,
  ⟨some 26, none, .callP 20 [.t 23, .t 25]⟩,
  ⟨some 5, none, .mv (.t 26)⟩]) (.seq (.rg [⟨some 27, none, .mv (.t 5)⟩,
  ⟨some 28, none, .fa 2 (.t 3)⟩,
  ⟨some 29, none, .ld (.t 28)⟩,
  ⟨some 30, none, .callP 29 [.t 27, .t 29]⟩,
  ⟨some 31, none, .mv (.t 30)⟩,
  ⟨some 32, some (31, true), .mv (.t 5)⟩,
  ⟨some 33, some (31, true), .fa 3 (.t 3)⟩,
  ⟨some 34, some (31, true), .ld (.t 33)⟩,
  ⟨some 35, some (31, true), .callP 29 [.t 32, .t 34]⟩,
  ⟨some 36, none, .pick (.t 31) (.t 35) (.c (.bool false))⟩,
  ⟨some 4, none, .mv (.t 36)⟩]) (.ret)))), [.t 4]⟩
def s_impl_RowPlan_L0 : SCode := .seq (.rg [⟨some 13, none, .bin .lss (.t 12) (.t 11)⟩]) (.seq (.cond (.t 13) (.skip) (.exit 0)) (.seq (.blk 1 (.seq (.rg [⟨some 14, none, .mv (.t 12)⟩,
  ⟨some 15, none, .ia 3 (.t 10) (.t 12)⟩,
  ⟨some 16, none, .ldA 3 (.t 15)⟩,
  ⟨some 5, none, .alloc [.str [], .int .i64 0, .bool false]⟩,
  ⟨some 4, none, .mv (.t 14)⟩,
  ⟨none, none, .st 3 (.t 5) (.t 16)⟩]) (.rg [⟨some 17, none, .mv (.t 3)⟩,
  ⟨some 18, none, .mv (.t 4)⟩,
  ⟨some 19, none, .fa 1 (.t 5)⟩,
  ⟨some 20, none, .ld (.t 19)⟩,
  ⟨some 21, none, .fa 2 (.t 5)⟩,
  ⟨some 22, none, .ld (.t 21)⟩,
  ⟨some 23, none, .build [.int .i64 0, .int .i64 0, .bool false, .bool false] [(0, (1, .t 18)), (1, (1, .t 20)), (2, (1, .t 22))]⟩,
  ⟨some 24, none, .bslice false [.int .i64 0, .int .i64 0, .bool false, .bool false] 1 [(0, .t 23)]⟩,
  ⟨some 25, none, .app false 24 4 (.t 17) (.t 24)⟩,
  ⟨some 3, none, .mv (.t 25)⟩]))) (.rg [⟨some 26, none, .bin .add (.t 12) (.c (.int .i64 1))⟩,
  ⟨some 12, none, .mv (.t 26)⟩])))
def s_impl_RowPlan : SFn := ⟨28, .seq (.rg [⟨some 1, none, .box (.t 0)⟩,
  ⟨some 2, none, .mv (.c .snil)⟩]) (.seq (.seq (.rg [⟨some 6, none, .ldA 4 (.t 1)⟩,
  ⟨some 7, none, .callP 43 [.t 6]⟩,
  ⟨some 8, none, .bin .neq (.t 7) (.c (.int .i64 0))⟩]) (.cond (.t 8) (.seq (.rg [⟨some 2, none, .mv (.c .snil)⟩]) (.ret)) (.skip))) (.seq (.rg [⟨some 3, none, .mv (.c .snil)⟩]) (.seq (.seq (.rg [⟨some 9, none, .fa 1 (.t 1)⟩,
  ⟨some 10, none, .ld (.t 9)⟩,
  ⟨some 11, none, .lenL (.t 10)⟩,
  ⟨some 12, none, .mv (.c (.int .i64 0))⟩]) (.blk 0 (.loop s_impl_RowPlan_L0))) (.seq (.rg [⟨some 27, none, .mv (.t 3)⟩,
  ⟨some 2, none, .mv (.t 27)⟩]) (.ret))))), [.t 2]⟩
def s_impl_PartOk : SFn := ⟨11, .seq (.rg [⟨some 1, none, .box (.t 0)⟩,
  ⟨some 2, none, .mv (.c (.bool false))⟩]) (.seq (.rg [⟨some 3, none, .fa 0 (.t 1)⟩,
  ⟨some 4, none, .ld (.t 3)⟩,
  ⟨some 5, none, .callP 28 [.t 4, .c (.int .i64 0), .c (.int .i64 9)]⟩,
  ⟨some 6, none, .mv (.t 5)⟩,
  ⟨some 7, some (6, true), .fa 1 (.t 1)⟩,
  ⟨some 8, some (6, true), .ld (.t 7)⟩,
  ⟨some 9, some (6, true), .callP 28 [.t 8, .c (.int .i64 1), .c (.int .i64 4)]⟩,
  ⟨some 10, none, .pick (.t 6) (.t 9) (.c (.bool false))⟩,
  ⟨some 2, none, .mv (.t 10)⟩]) (.ret)), [.t 2]⟩
def s_impl_PlanOk_L0 : SCode := .seq (.rg [⟨some 8, none, .bin .lss (.t 7) (.t 6)⟩]) (.seq (.cond (.t 8) (.skip) (.exit 0)) (.seq (.blk 1 (.seq (.rg [⟨some 9, none, .mv (.t 7)⟩,
  ⟨some 10, none, .ia 4 (.t 5) (.t 7)⟩,
  ⟨some 11, none, .ldA 4 (.t 10)⟩,
  ⟨some 4, none, .alloc [.int .i64 0, .int .i64 0, .bool false, .bool false]⟩,
  ⟨some 3, none, .mv (.t 9)⟩,
  ⟨none, none, .st 4 (.t 4) (.t 11)⟩]) (.seq (.rg [⟨some 12, none, .mv (.t 3)⟩,
  ⟨some 13, none, .bin .geq (.t 12) (.c (.int .i64 6))⟩,
  ⟨some 14, none, .mv (.t 13)⟩,
  ⟨some 15, some (14, false), .ldA 4 (.t 4)⟩,
  ⟨some 16, some (14, false), .callP 64 [.t 15]⟩,
  ⟨some 17, some (14, false), .un .not (.t 16)⟩,
  ⟨some 18, none, .pick (.t 14) (.c (.bool true)) (.t 17)⟩]) (.cond (.t 18) (.seq (.rg [⟨some 2, none, .mv (.c (.bool false))⟩]) (.ret)) (.skip))))) (.rg [⟨some 19, none, .bin .add (.t 7) (.c (.int .i64 1))⟩,
  ⟨some 7, none, .mv (.t 19)⟩])))
def s_impl_PlanOk : SFn := ⟨20, .seq (.rg [⟨some 2, none, .mv (.c (.bool false))⟩]) (.seq (.seq (.rg [⟨some 5, none, .mv (.t 0)⟩,
  ⟨some 6, none, .lenL (.t 5)⟩,
  ⟨some 7, none, .mv (.c (.int .i64 0))⟩]) (.blk 0 (.loop s_impl_PlanOk_L0))) (.seq (.rg [⟨some 2, none, .mv (.c (.bool true))⟩]) (.ret))), [.t 2]⟩
def s_impl_RowOk : SFn := ⟨19, .seq (.rg [⟨some 4, none, .mv (.c (.bool false))⟩]) (.seq (.rg [⟨some 5, none, .mv (.t 0)⟩,
  ⟨some 6, none, .callP 42 [.t 5]⟩,
  ⟨some 7, none, .mv (.t 6)⟩,
  ⟨some 8, some (7, true), .mv (.t 1)⟩,
  ⟨some 9, some (7, true), .lenL (.t 8)⟩,
  ⟨some 10, some (7, true), .mv (.t 0)⟩,
  ⟨some 11, some (7, true), .lenL (.t 10)⟩,
  ⟨some 12, some (7, true), .bin .eql (.t 9) (.t 11)⟩,
  ⟨some 13, none, .pick (.t 7) (.t 12) (.c (.bool false))⟩,
  ⟨some 14, none, .mv (.t 13)⟩,
  ⟨some 15, some (14, true), .mv (.t 0)⟩,
  ⟨some 16, some (14, true), .mv (.t 1)⟩,
  ⟨some 17, some (14, true), .callP 29 [.t 15, .t 16]⟩,
  ⟨some 18, none, .pick (.t 14) (.t 17) (.c (.bool false))⟩,
  ⟨some 4, none, .mv (.t 18)⟩]) (.ret)), [.t 4]⟩
def s_impl_Pick_L0 : SCode := .seq (.rg [⟨some 12, none, .bin .lss (.t 11) (.t 10)⟩]) (.seq (.cond (.t 12) (.skip) (.exit 0)) (.seq (.blk 1 (.seq (.rg [⟨some 13, none, .ia 4 (.t 9) (.t 11)⟩,
  ⟨some 14, none, .ldA 4 (.t 13)⟩,
  ⟨some 7, none, .alloc [.int .i64 0, .int .i64 0, .bool false, .bool false]⟩,
  ⟨none, none, .st 4 (.t 7) (.t 14)⟩]) (.seq (.rg [⟨some 8, none, .alloc [.int .i64 0, .int .i64 0, .str []]⟩]) (.seq (.seq (.rg [⟨some 15, none, .fa 0 (.t 7)⟩,
  ⟨some 16, none, .ld (.t 15)⟩,
  ⟨some 17, none, .mv (.t 1)⟩,
  ⟨some 18, none, .lenL (.t 17)⟩,
  ⟨some 19, none, .bin .sub (.t 18) (.c (.int .i64 1))⟩,
  ⟨some 20, none, .callP 28 [.t 16, .c (.int .i64 0), .t 19]⟩]) (.cond (.t 20) (.rg [⟨some 21, none, .mv (.t 1)⟩,
  ⟨some 22, none, .fa 0 (.t 7)⟩,
  ⟨some 23, none, .ld (.t 22)⟩,
  ⟨some 24, none, .ia 3 (.t 21) (.t 23)⟩,
  ⟨some 25, none, .ldA 3 (.t 24)⟩,
  ⟨none, none, .st 3 (.t 8) (.t 25)⟩]) (.skip))) (.rg [⟨some 26, none, .mv (.t 5)⟩,
  ⟨some 27, none, .ldA 3 (.t 8)⟩,
  ⟨some 28, none, .bslice false [.int .i64 0, .int .i64 0, .str []] 1 [(0, .t 27)]⟩,
  ⟨some 29, none, .app false 32 3 (.t 26) (.t 28)⟩,
  ⟨some 5, none, .mv (.t 29)⟩]))))) (.rg [⟨some 30, none, .bin .add (.t 11) (.c (.int .i64 1))⟩,
  ⟨some 11, none, .mv (.t 30)⟩])))
def s_impl_Pick : SFn := ⟨32, .seq (.rg [⟨some 4, none, .mv (.c .snil)⟩]) (.seq (.rg [⟨some 5, none, .mv (.c .snil)⟩]) (.seq (.seq (.rg [⟨some 9, none, .mv (.t 0)⟩,
  ⟨some 10, none, .lenL (.t 9)⟩,
  ⟨some 11, none, .mv (.c (.int .i64 0))⟩]) (.blk 0 (.loop s_impl_Pick_L0))) (.seq (.rg [⟨some 31, none, .mv (.t 5)⟩,
  ⟨some 4, none, .mv (.t 31)⟩]) (.ret)))), [.t 4]⟩
def s_impl_LessVal : SFn := ⟨32, .seq (.rg [⟨some 2, none, .box (.t 0)⟩,
  ⟨some 3, none, .box (.t 1)⟩,
  ⟨some 4, none, .mv (.c (.bool false))⟩]) (.seq (.blk 0 (.seq (.rg [⟨some 6, none, .fa 0 (.t 2)⟩,
  ⟨some 7, none, .ld (.t 6)⟩,
  ⟨some 8, none, .fa 0 (.t 3)⟩,
  ⟨some 9, none, .ld (.t 8)⟩,
  ⟨some 10, none, .bin .neq (.t 7) (.t 9)⟩,
  ⟨some 5, none, .mv (.t 10)⟩]) (.cond (.t 5) (.seq (.rg [⟨some 11, none, .fa 0 (.t 2)⟩,
  ⟨some 12, none, .ld (.t 11)⟩,
  ⟨some 13, none, .fa 0 (.t 3)⟩,
  ⟨some 14, none, .ld (.t 13)⟩,
  ⟨some 15, none, .bin .lss (.t 12) (.t 14)⟩,
  ⟨some 4, none, .mv (.t 15)⟩]) (.ret)) (.seq (.rg [⟨some 17, none, .fa 1 (.t 2)⟩,
  ⟨some 18, none, .ld (.t 17)⟩,
  ⟨some 19, none, .fa 1 (.t 3)⟩,
  ⟨some 20, none, .ld (.t 19)⟩,
  ⟨some 21, none, .bin .neq (.t 18) (.t 20)⟩,
  ⟨some 16, none, .mv (.t 21)⟩]) (.cond (.t 16) (.seq (.rg [⟨some 22, none, .fa 1 (.t 2)⟩,
  ⟨some 23, none, .ld (.t 22)⟩,
  ⟨some 24, none, .fa 1 (.t 3)⟩,
  ⟨some 25, none, .ld (.t 24)⟩,
  ⟨some 26, none, .bin .lss (.t 23) (.t 25)⟩,
  ⟨some 4, none, .mv (.t 26)⟩]) (.ret)) (.skip)))))) (.seq (.rg [⟨some 27, none, .fa 2 (.t 2)⟩,
  ⟨some 28, none, .ld (.t 27)⟩,
  ⟨some 29, none, .fa 2 (.t 3)⟩,
  ⟨some 30, none, .ld (.t 29)⟩,
  ⟨some 31, none, .bin .lss (.t 28) (.t 30)⟩,
  ⟨some 4, none, .mv (.t 31)⟩]) (.ret))), [.t 4]⟩
def s_impl_LessPart : SFn := ⟨15, .seq (.rg [⟨some 3, none, .box (.t 0)⟩,
  ⟨some 4, none, .box (.t 1)⟩,
  ⟨some 5, none, .box (.t 2)⟩,
  ⟨some 6, none, .mv (.c (.bool false))⟩]) (.seq (.seq (.rg [⟨some 7, none, .fa 3 (.t 3)⟩,
  ⟨some 8, none, .ld (.t 7)⟩]) (.cond (.t 8) (.seq (.rg [⟨some 9, none, .ldA 3 (.t 5)⟩,
  ⟨some 10, none, .ldA 3 (.t 4)⟩,
  ⟨some 11, none, .callP 69 [.t 9, .t 10]⟩,
  ⟨some 6, none, .mv (.t 11)⟩]) (.ret)) (.skip))) (.seq (.rg [⟨some 12, none, .ldA 3 (.t 4)⟩,
  ⟨some 13, none, .ldA 3 (.t 5)⟩,
  ⟨some 14, none, .callP 69 [.t 12, .t 13]⟩,
  ⟨some 6, none, .mv (.t 14)⟩]) (.ret))), [.t 6]⟩
def s_impl_LessKey_L0 : SCode := .seq (.seq (.rg [⟨some 8, none, .mv (.t 7)⟩,
  ⟨some 9, none, .mv (.t 1)⟩,
  ⟨some 10, none, .lenL (.t 9)⟩,
  ⟨some 11, none, .bin .lss (.t 8) (.t 10)⟩,
  ⟨some 12, none, .mv (.t 11)⟩,
  ⟨some 13, some (12, true), .mv (.t 7)⟩,
  ⟨some 14, some (12, true), .mv (.t 2)⟩,
  ⟨some 15, some (12, true), .lenL (.t 14)⟩,
  ⟨some 16, some (12, true), .bin .lss (.t 13) (.t 15)⟩,
  ⟨some 17, none, .pick (.t 12) (.t 16) (.c (.bool false))⟩]) (.cond (.t 17) (.skip) (.exit 0))) (.seq (.blk 1 (.seq (.rg [⟨some 20, none, .mv (.t 1)⟩,
  ⟨some 21, none, .mv (.t 7)⟩,
  ⟨some 22, none, .ia 3 (.t 20) (.t 21)⟩,
  ⟨some 23, none, .ldA 3 (.t 22)⟩,
  ⟨some 24, none, .mv (.t 2)⟩,
  ⟨some 25, none, .mv (.t 7)⟩,
  ⟨some 26, none, .ia 3 (.t 24) (.t 25)⟩,
  ⟨some 27, none, .ldA 3 (.t 26)⟩,
  ⟨some 28, none, .binF .neq [.int .i64, .int .i64, .str] (.t 23) (.t 27)⟩]) (.cond (.t 28) (.seq (.rg [⟨some 29, none, .mv (.t 7)⟩,
  ⟨some 30, none, .mv (.t 0)⟩,
  ⟨some 31, none, .lenL (.t 30)⟩,
  ⟨some 32, none, .bin .lss (.t 29) (.t 31)⟩,
  ⟨some 33, none, .mv (.t 32)⟩,
  ⟨some 34, some (33, true), .mv (.t 0)⟩,
  ⟨some 35, some (33, true), .mv (.t 7)⟩,
  ⟨some 36, some (33, true), .ia 4 (.t 34) (.t 35)⟩,
  ⟨some 37, some (33, true), .ldA 4 (.t 36)⟩,
  ⟨some 38, some (33, true), .mv (.t 1)⟩,
  ⟨some 39, some (33, true), .mv (.t 7)⟩,
  ⟨some 40, some (33, true), .ia 3 (.t 38) (.t 39)⟩,
  ⟨some 41, some (33, true), .ldA 3 (.t 40)⟩,
  ⟨some 42, some (33, true), .mv (.t 2)⟩,
  ⟨some 43, some (33, true), .mv (.t 7)⟩,
  ⟨some 44, some (33, true), .ia 3 (.t 42) (.t 43)⟩,
  ⟨some 45, some (33, true), .ldA 3 (.t 44)⟩,
  ⟨some 46, some (33, true), .callP 46 [.t 37, .t 41, .t 45]⟩,
  ⟨some 47, none, .pick (.t 33) (.t 46) (.c (.bool false))⟩,
  ⟨some 6, none, .mv (.t 47)⟩]) (.ret)) (.skip)))) (.rg [⟨some 18, none, .mv (.t 7)⟩,
  ⟨some 19, none, .bin .add (.t 18) (.c (.int .i64 1))⟩,
  ⟨some 7, none, .mv (.t 19)⟩]))
def s_impl_LessKey : SFn := ⟨53, .seq (.rg [⟨some 6, none, .mv (.c (.bool false))⟩]) (.seq (.seq (.rg [⟨some 7, none, .mv (.c (.int .i64 0))⟩]) (.blk 0 (.loop s_impl_LessKey_L0))) (.seq (.rg [⟨some 48, none, .mv (.t 1)⟩,
  ⟨some 49, none, .lenL (.t 48)⟩,
  ⟨some 50, none, .mv (.t 2)⟩,
  ⟨some 51, none, .lenL (.t 50)⟩,
  ⟨some 52, none, .bin .lss (.t 49) (.t 51)⟩,
  ⟨some 6, none, .mv (.t 52)⟩]) (.ret))), [.t 6]⟩
def s_impl_SameRow_L0 : SCode := .seq (.rg [⟨some 14, none, .bin .lss (.t 13) (.t 12)⟩]) (.seq (.cond (.t 14) (.skip) (.exit 0)) (.seq (.blk 1 (.seq (.rg [⟨some 15, none, .mv (.t 13)⟩,
  ⟨some 5, none, .mv (.t 15)⟩]) (.seq (.rg [⟨some 16, none, .mv (.t 0)⟩,
  ⟨some 17, none, .mv (.t 5)⟩,
  ⟨some 18, none, .ia 3 (.t 16) (.t 17)⟩,
  ⟨some 19, none, .ldA 3 (.t 18)⟩,
  ⟨some 20, none, .mv (.t 1)⟩,
  ⟨some 21, none, .mv (.t 5)⟩,
  ⟨some 22, none, .ia 3 (.t 20) (.t 21)⟩,
  ⟨some 23, none, .ldA 3 (.t 22)⟩,
  ⟨some 24, none, .binF .neq [.int .i64, .int .i64, .str] (.t 19) (.t 23)⟩]) (.cond (.t 24) (.seq (.rg [⟨some 4, none, .mv (.c (.bool false))⟩]) (.ret)) (.skip))))) (.rg [⟨some 25, none, .bin .add (.t 13) (.c (.int .i64 1))⟩,
  ⟨some 13, none, .mv (.t 25)⟩])))
def s_impl_SameRow : SFn := ⟨26, .seq (.rg [⟨some 4, none, .mv (.c (.bool false))⟩]) (.seq (.seq (.rg [⟨some 6, none, .mv (.t 0)⟩,
  ⟨some 7, none, .lenL (.t 6)⟩,
  ⟨some 8, none, .mv (.t 1)⟩,
  ⟨some 9, none, .lenL (.t 8)⟩,
  ⟨some 10, none, .bin .neq (.t 7) (.t 9)⟩]) (.cond (.t 10) (.seq (.rg [⟨some 4, none, .mv (.c (.bool false))⟩]) (.ret)) (.skip))) (.seq (.seq (.rg [⟨some 11, none, .mv (.t 0)⟩,
  ⟨some 12, none, .lenL (.t 11)⟩,
  ⟨some 13, none, .mv (.c (.int .i64 0))⟩]) (.blk 0 (.loop s_impl_SameRow_L0))) (.seq (.rg [⟨some 4, none, .mv (.c (.bool true))⟩]) (.ret)))), [.t 4]⟩
def s_impl_InScan : SFn := ⟨92, .seq (.rg [⟨some 4, none, .box (.t 1)⟩,
  ⟨some 6, none, .mv (.c (.bool false))⟩]) (.seq (.seq (.rg [⟨some 11, none, .mv (.t 0)⟩,
  ⟨some 12, none, .ldA 8 (.t 4)⟩,
  ⟨some 13, none, .callP 9 [.t 11, .t 12]⟩,
  ⟨some 14, none, .un .not (.t 13)⟩,
  ⟨some 15, none, .mv (.t 14)⟩,
  ⟨some 16, some (15, false), .mv (.t 0)⟩,
  ⟨some 17, some (15, false), .fa 0 (.t 4)⟩,
  ⟨some 18, some (15, false), .ld (.t 17)⟩,
  ⟨some 19, some (15, false), .ia 4 (.t 16) (.t 18)⟩,
  ⟨some 20, some (15, false), .ldA 4 (.t 19)⟩,
  ⟨some 21, some (15, false), .callP 19 [.t 20]⟩,
  ⟨some 22, some (15, false), .mv (.t 2)⟩,
  ⟨some 23, some (15, false), .callP 18 [.t 21, .t 22]⟩,
  ⟨some 24, some (15, false), .un .not (.t 23)⟩,
  ⟨some 25, none, .pick (.t 15) (.c (.bool true)) (.t 24)⟩]) (.cond (.t 25) (.seq (.rg [⟨some 6, none, .mv (.c (.bool false))⟩]) (.ret)) (.skip))) (.seq (.rg [⟨some 26, none, .mv (.t 0)⟩,
  ⟨some 27, none, .fa 0 (.t 4)⟩,
  ⟨some 28, none, .ld (.t 27)⟩,
  ⟨some 29, none, .ia 4 (.t 26) (.t 28)⟩,
  ⟨some 30, none, .ldA 4 (.t 29)⟩,
  ⟨some 31, none, .fa 1 (.t 4)⟩,
  ⟨some 32, none, .ld (.t 31)⟩,
  ⟨some 33, none, .callP 20 [.t 30, .t 32]⟩,
  ⟨some 7, none, .mv (.t 33)⟩]) (.seq (.rg [⟨some 34, none, .mv (.t 7)⟩,
  ⟨some 35, none, .mv (.t 2)⟩,
  ⟨some 36, none, .callP 21 [.t 34, .t 35]⟩,
  ⟨some 8, none, .mv (.t 36)⟩]) (.seq (.rg [⟨some 37, none, .mv (.t 8)⟩,
  ⟨some 38, none, .fa 2 (.t 4)⟩,
  ⟨some 39, none, .ld (.t 38)⟩,
  ⟨some 40, none, .lenL (.t 39)⟩,
  ⟨some 41, none, .sliL 3 (.t 37) none (some (.t 40))⟩,
  ⟨some 42, none, .mv (.t 8)⟩,
  ⟨some 43, none, .fa 3 (.t 4)⟩,
  ⟨some 44, none, .ld (.t 43)⟩,
  ⟨some 45, none, .lenL (.t 44)⟩,
  ⟨some 46, none, .sliL 3 (.t 42) none (some (.t 45))⟩,
  ⟨some 9, none, .mv (.t 41)⟩,
  ⟨some 10, none, .mv (.t 46)⟩]) (.seq (.seq (.rg [⟨some 47, none, .fa 2 (.t 4)⟩,
  ⟨some 48, none, .ld (.t 47)⟩,
  ⟨some 49, none, .lenL (.t 48)⟩,
  ⟨some 50, none, .bin .gtr (.t 49) (.c (.int .i64 0))⟩,
  ⟨some 51, none, .mv (.t 50)⟩,
  ⟨some 52, some (51, true), .mv (.t 7)⟩,
  ⟨some 53, some (51, true), .fa 2 (.t 4)⟩,
  ⟨some 54, some (51, true), .ld (.t 53)⟩,
  ⟨some 55, some (51, true), .mv (.t 9)⟩,
  ⟨some 56, some (51, true), .callP 22 [.t 52, .t 54, .t 55]⟩,
  ⟨some 57, some (51, true), .un .not (.t 56)⟩,
  ⟨some 58, none, .pick (.t 51) (.t 57) (.c (.bool false))⟩,
  ⟨some 59, none, .mv (.t 58)⟩,
  ⟨some 60, some (59, true), .fa 4 (.t 4)⟩,
  ⟨some 61, some (59, true), .ld (.t 60)⟩,
  ⟨some 62, some (59, true), .mv (.t 61)⟩,
  ⟨some 63, some (62, false), .fa 2 (.t 4)⟩,
  ⟨some 64, some (62, false), .ld (.t 63)⟩,
  ⟨some 65, some (62, false), .mv (.t 9)⟩,
  ⟨some 66, some (62, false), .callP 23 [.t 64, .t 65]⟩,
  ⟨some 67, some (62, false), .un .not (.t 66)⟩,
  ⟨some 68, some (59, true), .pick (.t 62) (.c (.bool true)) (.t 67)⟩,
  ⟨some 69, none, .pick (.t 59) (.t 68) (.c (.bool false))⟩]) (.cond (.t 69) (.seq (.rg [⟨some 6, none, .mv (.c (.bool false))⟩]) (.ret)) (.skip))) (.seq (.rg [⟨some 70, none, .fa 3 (.t 4)⟩,
  ⟨some 71, none, .ld (.t 70)⟩,
  ⟨some 72, none, .lenL (.t 71)⟩,
  ⟨some 73, none, .bin .eql (.t 72) (.c (.int .i64 0))⟩,
  ⟨some 74, none, .mv (.t 73)⟩,
  ⟨some 75, some (74, false), .mv (.t 7)⟩,
  ⟨some 76, some (74, false), .mv (.t 10)⟩,
  ⟨some 77, some (74, false), .fa 3 (.t 4)⟩,
  ⟨some 78, some (74, false), .ld (.t 77)⟩,
  ⟨some 79, some (74, false), .callP 22 [.t 75, .t 76, .t 78]⟩,
  ⟨some 80, none, .pick (.t 74) (.c (.bool true)) (.t 79)⟩,
  ⟨some 81, none, .mv (.t 80)⟩,
  ⟨some 82, some (81, false), .fa 5 (.t 4)⟩,
  ⟨some 83, some (81, false), .ld (.t 82)⟩,
  ⟨some 84, some (81, false), .un .not (.t 83)⟩,
  ⟨some 85, some (81, false), .mv (.t 84)⟩,
  ⟨some 86, some (85, true), .mv (.t 10)⟩,
  ⟨some 87, some (85, true), .fa 3 (.t 4)⟩,
  ⟨some 88, some (85, true), .ld (.t 87)⟩,
  ⟨some 89, some (85, true), .callP 23 [.t 86, .t 88]⟩,
  ⟨some 90, some (81, false), .pick (.t 85) (.t 89) (.c (.bool false))⟩,
  ⟨some 91, none, .pick (.t 81) (.c (.bool true)) (.t 90)⟩,
  ⟨some 6, none, .mv (.t 91)⟩]) (.ret))))))), [.t 6]⟩
def s_spec_DrawScanOk : SFn := ⟨14, .seq (.rg [⟨some 2, none, .mv (.c .snil)⟩,
  ⟨some 3, none, .alloc [.int .i64 0, .int .i64 0, .snil, .snil, .bool false, .bool false, .bool false, .int .i64 0]⟩]) (.seq (.rg [⟨some 6, none, .mv (.t 0)⟩,
  ⟨some 7, none, .callW 11 [.t 6]⟩,
  ⟨some 4, none, .mv (.t 7)⟩]) (.seq (.rg [⟨some 8, none, .mv (.t 4)⟩,
  ⟨some 9, none, .callCZ 12 [.t 8]⟩,
  ⟨some 5, none, .mv (.t 9)⟩]) (.seq (.rg [⟨some 10, none, .mv (.t 5)⟩,
  ⟨some 11, none, .mv (.t 4)⟩,
  ⟨some 12, none, .mv (.t 5)⟩,
  ⟨some 13, none, .callCZ 13 [.t 11, .t 12]⟩,
  ⟨some 2, none, .mv (.t 10)⟩,
  ⟨none, none, .st 8 (.t 3) (.t 13)⟩]) (.ret)))), [.t 2, .ldA 3 8]⟩
def s_spec_l11There : SFn := ⟨28, .seq (.rg [⟨some 6, none, .mv (.c (.bool false))⟩]) (.seq (.rg [⟨some 7, none, .mv (.t 0)⟩,
  ⟨some 8, none, .callP 35 [.t 7]⟩,
  ⟨some 9, none, .bin .eql (.t 8) (.c (.int .i64 (-1)))⟩,
  ⟨some 10, none, .mv (.t 9)⟩,
  ⟨some 11, some (10, true), .mv (.t 1)⟩,
  ⟨some 12, some (10, true), .mv (.t 0)⟩,
  ⟨some 13, some (10, true), .lenL (.t 12)⟩,
  ⟨some 14, some (10, true), .bin .sub (.t 13) (.c (.int .i64 1))⟩,
  ⟨some 15, some (10, true), .callP 14 [.t 11, .c (.int .i64 0), .t 14]⟩,
  ⟨some 16, none, .pick (.t 10) (.t 15) (.c (.bool false))⟩,
  ⟨some 17, none, .mv (.t 16)⟩,
  ⟨some 18, some (17, true), .mv (.t 2)⟩,
  ⟨some 19, some (17, true), .mv (.t 0)⟩,
  ⟨some 20, some (17, true), .mv (.t 1)⟩,
  ⟨some 21, some (17, true), .ia 4 (.t 19) (.t 20)⟩,
  ⟨some 22, some (17, true), .fa 3 (.t 21)⟩,
  ⟨some 23, some (17, true), .ld (.t 22)⟩,
  ⟨some 24, some (17, true), .lenL (.t 23)⟩,
  ⟨some 25, some (17, true), .bin .sub (.t 24) (.c (.int .i64 1))⟩,
  ⟨some 26, some (17, true), .callP 14 [.t 18, .c (.int .i64 (-1)), .t 25]⟩,
  ⟨some 27, none, .pick (.t 17) (.t 26) (.c (.bool false))⟩,
  ⟨some 6, none, .mv (.t 27)⟩]) (.ret)), [.t 6]⟩
def s_spec_ValOk : SFn := ⟨56, .seq (.rg [⟨some 1, none, .box (.t 0)⟩,
  ⟨some 2, none, .mv (.c (.bool false))⟩]) (.seq (.seq (.rg [⟨some 3, none, .fa 0 (.t 1)⟩,
  ⟨some 4, none, .ld (.t 3)⟩]) (.blk 0 (.seq (.rg [⟨some 6, none, .bin .eql (.t 4) (.c (.int .i64 0))⟩,
  ⟨some 5, none, .mv (.t 6)⟩]) (.cond (.t 5) (.seq (.rg [⟨some 7, none, .fa 1 (.t 1)⟩,
  ⟨some 8, none, .ld (.t 7)⟩,
  ⟨some 9, none, .bin .eql (.t 8) (.c (.int .i64 0))⟩,
  ⟨some 10, none, .mv (.t 9)⟩,
  ⟨some 11, some (10, true), .fa 2 (.t 1)⟩,
  ⟨some 12, some (10, true), .ld (.t 11)⟩,
  ⟨some 13, some (10, true), .bin .eql (.t 12) (.c (.str []))⟩,
  ⟨some 14, none, .pick (.t 10) (.t 13) (.c (.bool false))⟩,
  ⟨some 2, none, .mv (.t 14)⟩]) (.ret)) (.seq (.rg [⟨some 16, none, .bin .eql (.t 4) (.c (.int .i64 1))⟩,
  ⟨some 15, none, .mv (.t 16)⟩]) (.cond (.t 15) (.seq (.rg [⟨some 17, none, .fa 1 (.t 1)⟩,
  ⟨some 18, none, .ld (.t 17)⟩,
  ⟨some 19, none, .callP 14 [.t 18, .c (.int .i64 (-2147483648)), .c (.int .i64 2147483647)]⟩,
  ⟨some 20, none, .mv (.t 19)⟩,
  ⟨some 21, some (20, true), .fa 2 (.t 1)⟩,
  ⟨some 22, some (20, true), .ld (.t 21)⟩,
  ⟨some 23, some (20, true), .bin .eql (.t 22) (.c (.str []))⟩,
  ⟨some 24, none, .pick (.t 20) (.t 23) (.c (.bool false))⟩,
  ⟨some 2, none, .mv (.t 24)⟩]) (.ret)) (.seq (.rg [⟨some 26, none, .bin .eql (.t 4) (.c (.int .i64 2))⟩,
  ⟨some 25, none, .mv (.t 26)⟩]) (.cond (.t 25) (.seq (.rg [⟨some 27, none, .fa 1 (.t 1)⟩,
  ⟨some 28, none, .ld (.t 27)⟩,
  ⟨some 29, none, .callP 14 [.t 28, .c (.int .i64 (-1000000000000000)), .c (.int .i64 1000000000000000)]⟩,
  ⟨some 30, none, .mv (.t 29)⟩,
  ⟨some 31, some (30, true), .fa 2 (.t 1)⟩,
  ⟨some 32, some (30, true), .ld (.t 31)⟩,
  ⟨some 33, some (30, true), .bin .eql (.t 32) (.c (.str []))⟩,
  ⟨some 34, none, .pick (.t 30) (.t 33) (.c (.bool false))⟩,
  ⟨some 2, none, .mv (.t 34)⟩]) (.ret)) (.seq (.rg [⟨some 36, none, .bin .eql (.t 4) (.c (.int .i64 3))⟩,
  ⟨some 35, none, .mv (.t 36)⟩]) (.cond (.t 35) (.seq (.rg [⟨some 37, none, .fa 2 (.t 1)⟩,
  ⟨some 38, none, .ld (.t 37)⟩,
  ⟨some 39, none, .lenS (.t 38)⟩,
  ⟨some 40, none, .bin .leq (.t 39) (.c (.int .i64 30))⟩,
  ⟨some 41, none, .mv (.t 40)⟩,
  ⟨some 42, some (41, true), .fa 1 (.t 1)⟩,
  ⟨some 43, some (41, true), .ld (.t 42)⟩,
  ⟨some 44, some (41, true), .bin .eql (.t 43) (.c (.int .i64 0))⟩,
  ⟨some 45, none, .pick (.t 41) (.t 44) (.c (.bool false))⟩,
  ⟨some 2, none, .mv (.t 45)⟩]) (.ret)) (.seq (.rg [⟨some 47, none, .bin .eql (.t 4) (.c (.int .i64 4))⟩,
  ⟨some 46, none, .mv (.t 47)⟩]) (.cond (.t 46) (.seq (.rg [⟨some 48, none, .fa 1 (.t 1)⟩,
  ⟨some 49, none, .ld (.t 48)⟩,
  ⟨some 50, none, .callP 14 [.t 49, .c (.int .i64 0), .c (.int .i64 1)]⟩,
  ⟨some 51, none, .mv (.t 50)⟩,
  ⟨some 52, some (51, true), .fa 2 (.t 1)⟩,
  ⟨some 53, some (51, true), .ld (.t 52)⟩,
  ⟨some 54, some (51, true), .bin .eql (.t 53) (.c (.str []))⟩,
  ⟨some 55, none, .pick (.t 51) (.t 54) (.c (.bool false))⟩,
  ⟨some 2, none, .mv (.t 55)⟩]) (.ret)) (.skip))))))))))))) (.seq (.rg [⟨some 2, none, .mv (.c (.bool false))⟩]) (.ret))), [.t 2]⟩
def s_spec_Fits : SFn := ⟨28, .seq (.rg [⟨some 2, none, .box (.t 0)⟩,
  ⟨some 3, none, .box (.t 1)⟩,
  ⟨some 4, none, .mv (.c (.bool false))⟩]) (.seq (.rg [⟨some 5, none, .ldA 3 (.t 3)⟩,
  ⟨some 6, none, .callP 79 [.t 5]⟩,
  ⟨some 7, none, .mv (.t 6)⟩,
  ⟨some 8, some (7, true), .fa 0 (.t 3)⟩,
  ⟨some 9, some (7, true), .ld (.t 8)⟩,
  ⟨some 10, some (7, true), .fa 1 (.t 2)⟩,
  ⟨some 11, some (7, true), .ld (.t 10)⟩,
  ⟨some 12, some (7, true), .bin .eql (.t 9) (.t 11)⟩,
  ⟨some 13, some (7, true), .mv (.t 12)⟩,
  ⟨some 14, some (13, true), .fa 0 (.t 3)⟩,
  ⟨some 15, some (13, true), .ld (.t 14)⟩,
  ⟨some 16, some (13, true), .bin .neq (.t 15) (.c (.int .i64 0))⟩,
  ⟨some 17, some (7, true), .pick (.t 13) (.t 16) (.c (.bool false))⟩,
  ⟨some 18, some (7, true), .mv (.t 17)⟩,
  ⟨some 19, some (18, false), .fa 0 (.t 3)⟩,
  ⟨some 20, some (18, false), .ld (.t 19)⟩,
  ⟨some 21, some (18, false), .bin .eql (.t 20) (.c (.int .i64 0))⟩,
  ⟨some 22, some (18, false), .mv (.t 21)⟩,
  ⟨some 23, some (22, true), .fa 2 (.t 2)⟩,
  ⟨some 24, some (22, true), .ld (.t 23)⟩,
  ⟨some 25, some (18, false), .pick (.t 22) (.t 24) (.c (.bool false))⟩,
  ⟨some 26, some (7, true), .pick (.t 18) (.c (.bool true)) (.t 25)⟩,
  ⟨some 27, none, .pick (.t 7) (.t 26) (.c (.bool false))⟩,
  ⟨some 4, none, .mv (.t 27)⟩]) (.ret)), [.t 4]⟩
def s_spec_FitsAll_L0 : SCode := .seq (.seq (.rg [⟨some 11, none, .mv (.t 5)⟩,
  ⟨some 12, none, .mv (.t 1)⟩,
  ⟨some 13, none, .lenL (.t 12)⟩,
  ⟨some 14, none, .bin .lss (.t 11) (.t 13)⟩]) (.cond (.t 14) (.skip) (.exit 0))) (.seq (.blk 1 (.seq (.rg [⟨some 17, none, .mv (.t 0)⟩,
  ⟨some 18, none, .mv (.t 5)⟩,
  ⟨some 19, none, .ia 4 (.t 17) (.t 18)⟩,
  ⟨some 20, none, .ldA 4 (.t 19)⟩,
  ⟨some 21, none, .mv (.t 1)⟩,
  ⟨some 22, none, .mv (.t 5)⟩,
  ⟨some 23, none, .ia 3 (.t 21) (.t 22)⟩,
  ⟨some 24, none, .ldA 3 (.t 23)⟩,
  ⟨some 25, none, .callP 57 [.t 20, .t 24]⟩,
  ⟨some 26, none, .un .not (.t 25)⟩]) (.cond (.t 26) (.seq (.rg [⟨some 4, none, .mv (.c (.bool false))⟩]) (.ret)) (.skip)))) (.rg [⟨some 15, none, .mv (.t 5)⟩,
  ⟨some 16, none, .bin .add (.t 15) (.c (.int .i64 1))⟩,
  ⟨some 5, none, .mv (.t 16)⟩]))
def s_spec_FitsAll : SFn := ⟨27, .seq (.rg [⟨some 4, none, .mv (.c (.bool false))⟩]) (.seq (.seq (.rg [⟨some 6, none, .mv (.t 1)⟩,
  ⟨some 7, none, .lenL (.t 6)⟩,
  ⟨some 8, none, .mv (.t 0)⟩,
  ⟨some 9, none, .lenL (.t 8)⟩,
  ⟨some 10, none, .bin .gtr (.t 7) (.t 9)⟩]) (.cond (.t 10) (.seq (.rg [⟨some 4, none, .mv (.c (.bool false))⟩]) (.ret)) (.skip))) (.seq (.seq (.rg [⟨some 5, none, .mv (.c (.int .i64 0))⟩]) (.blk 0 (.loop s_spec_FitsAll_L0))) (.seq (.rg [⟨some 4, none, .mv (.c (.bool true))⟩]) (.ret)))), [.t 4]⟩
def s_spec_ScanOk : SFn := ⟨37, .seq (.rg [⟨some 3, none, .box (.t 1)⟩,
  ⟨some 4, none, .mv (.c (.bool false))⟩]) (.seq (.seq (.rg [⟨some 6, none, .mv (.t 0)⟩,
  ⟨some 7, none, .fa 0 (.t 3)⟩,
  ⟨some 8, none, .ld (.t 7)⟩,
  ⟨some 9, none, .fa 1 (.t 3)⟩,
  ⟨some 10, none, .ld (.t 9)⟩,
  ⟨some 11, none, .callP 30 [.t 6, .t 8, .t 10]⟩,
  ⟨some 12, none, .un .not (.t 11)⟩,
  ⟨some 13, none, .mv (.t 12)⟩,
  ⟨some 14, some (13, false), .fa 7 (.t 3)⟩,
  ⟨some 15, some (13, false), .ld (.t 14)⟩,
  ⟨some 16, some (13, false), .callP 14 [.t 15, .c (.int .i64 0), .c (.int .i64 100)]⟩,
  ⟨some 17, some (13, false), .un .not (.t 16)⟩,
  ⟨some 18, none, .pick (.t 13) (.c (.bool true)) (.t 17)⟩]) (.cond (.t 18) (.seq (.rg [⟨some 4, none, .mv (.c (.bool false))⟩]) (.ret)) (.skip))) (.seq (.rg [⟨some 19, none, .mv (.t 0)⟩,
  ⟨some 20, none, .fa 0 (.t 3)⟩,
  ⟨some 21, none, .ld (.t 20)⟩,
  ⟨some 22, none, .ia 4 (.t 19) (.t 21)⟩,
  ⟨some 23, none, .ldA 4 (.t 22)⟩,
  ⟨some 24, none, .fa 1 (.t 3)⟩,
  ⟨some 25, none, .ld (.t 24)⟩,
  ⟨some 26, none, .callP 31 [.t 23, .t 25]⟩,
  ⟨some 5, none, .mv (.t 26)⟩]) (.seq (.rg [⟨some 27, none, .mv (.t 5)⟩,
  ⟨some 28, none, .fa 2 (.t 3)⟩,
  ⟨some 29, none, .ld (.t 28)⟩,
  ⟨some 30, none, .callP 32 [.t 27, .t 29]⟩,
  ⟨some 31, none, .mv (.t 30)⟩,
  ⟨some 32, some (31, true), .mv (.t 5)⟩,
  ⟨some 33, some (31, true), .fa 3 (.t 3)⟩,
  ⟨some 34, some (31, true), .ld (.t 33)⟩,
  ⟨some 35, some (31, true), .callP 32 [.t 32, .t 34]⟩,
  ⟨some 36, none, .pick (.t 31) (.t 35) (.c (.bool false))⟩,
  ⟨some 4, none, .mv (.t 36)⟩]) (.ret)))), [.t 4]⟩
def s_spec_RowPlan_L0 : SCode := .seq (.seq (.rg [⟨some 6, none, .mv (.t 4)⟩,
  ⟨some 7, none, .fa 1 (.t 1)⟩,
  ⟨some 8, none, .ld (.t 7)⟩,
  ⟨some 9, none, .lenL (.t 8)⟩,
  ⟨some 10, none, .bin .lss (.t 6) (.t 9)⟩,
  ⟨some 11, none, .mv (.t 10)⟩,
  ⟨some 12, some (11, true), .ldA 4 (.t 1)⟩,
  ⟨some 13, some (11, true), .callP 48 [.t 12]⟩,
  ⟨some 14, some (11, true), .bin .eql (.t 13) (.c (.int .i64 0))⟩,
  ⟨some 15, none, .pick (.t 11) (.t 14) (.c (.bool false))⟩]) (.cond (.t 15) (.skip) (.exit 0))) (.seq (.blk 1 (.rg [⟨some 18, none, .mv (.t 3)⟩,
  ⟨some 19, none, .ldA 4 (.t 1)⟩,
  ⟨some 20, none, .mv (.t 4)⟩,
  ⟨some 21, none, .callP 49 [.t 19, .t 20, .c (.bool false)]⟩,
  ⟨some 22, none, .bslice false [.int .i64 0, .int .i64 0, .bool false, .bool false] 1 [(0, .t 21)]⟩,
  ⟨some 23, none, .app false 24 4 (.t 18) (.t 22)⟩,
  ⟨some 3, none, .mv (.t 23)⟩])) (.rg [⟨some 16, none, .mv (.t 4)⟩,
  ⟨some 17, none, .bin .add (.t 16) (.c (.int .i64 1))⟩,
  ⟨some 4, none, .mv (.t 17)⟩]))
def s_spec_RowPlan : SFn := ⟨25, .seq (.rg [⟨some 1, none, .box (.t 0)⟩,
  ⟨some 2, none, .mv (.c .snil)⟩]) (.seq (.rg [⟨some 5, none, .bslice false [.int .i64 0, .int .i64 0, .bool false, .bool false] 0 []⟩,
  ⟨some 3, none, .mv (.t 5)⟩]) (.seq (.seq (.rg [⟨some 4, none, .mv (.c (.int .i64 0))⟩]) (.blk 0 (.loop s_spec_RowPlan_L0))) (.seq (.rg [⟨some 24, none, .mv (.t 3)⟩,
  ⟨some 2, none, .mv (.t 24)⟩]) (.ret)))), [.t 2]⟩
def s_spec_PartOk : SFn := ⟨11, .seq (.rg [⟨some 1, none, .box (.t 0)⟩,
  ⟨some 2, none, .mv (.c (.bool false))⟩]) (.seq (.rg [⟨some 3, none, .fa 0 (.t 1)⟩,
  ⟨some 4, none, .ld (.t 3)⟩,
  ⟨some 5, none, .callP 14 [.t 4, .c (.int .i64 0), .c (.int .i64 9)]⟩,
  ⟨some 6, none, .mv (.t 5)⟩,
  ⟨some 7, some (6, true), .fa 1 (.t 1)⟩,
  ⟨some 8, some (6, true), .ld (.t 7)⟩,
  ⟨some 9, some (6, true), .callP 14 [.t 8, .c (.int .i64 1), .c (.int .i64 4)]⟩,
  ⟨some 10, none, .pick (.t 6) (.t 9) (.c (.bool false))⟩,
  ⟨some 2, none, .mv (.t 10)⟩]) (.ret)), [.t 2]⟩
def s_spec_PlanOk_L0 : SCode := .seq (.seq (.rg [⟨some 4, none, .mv (.t 3)⟩,
  ⟨some 5, none, .mv (.t 0)⟩,
  ⟨some 6, none, .lenL (.t 5)⟩,
  ⟨some 7, none, .bin .lss (.t 4) (.t 6)⟩]) (.cond (.t 7) (.skip) (.exit 0))) (.seq (.blk 1 (.seq (.rg [⟨some 10, none, .mv (.t 0)⟩,
  ⟨some 11, none, .mv (.t 3)⟩,
  ⟨some 12, none, .ia 4 (.t 10) (.t 11)⟩,
  ⟨some 13, none, .ldA 4 (.t 12)⟩,
  ⟨some 14, none, .callP 70 [.t 13]⟩,
  ⟨some 15, none, .un .not (.t 14)⟩]) (.cond (.t 15) (.seq (.rg [⟨some 2, none, .mv (.c (.bool false))⟩]) (.ret)) (.skip)))) (.rg [⟨some 8, none, .mv (.t 3)⟩,
  ⟨some 9, none, .bin .add (.t 8) (.c (.int .i64 1))⟩,
  ⟨some 3, none, .mv (.t 9)⟩]))
def s_spec_PlanOk : SFn := ⟨19, .seq (.rg [⟨some 2, none, .mv (.c (.bool false))⟩]) (.seq (.seq (.rg [⟨some 3, none, .mv (.c (.int .i64 0))⟩]) (.blk 0 (.loop s_spec_PlanOk_L0))) (.seq (.rg [⟨some 16, none, .mv (.t 0)⟩,
  ⟨some 17, none, .lenL (.t 16)⟩,
  ⟨some 18, none, .bin .leq (.t 17) (.c (.int .i64 6))⟩,
  ⟨some 2, none, .mv (.t 18)⟩]) (.ret))), [.t 2]⟩
def s_spec_RowOk : SFn := ⟨19, .seq (.rg [⟨some 4, none, .mv (.c (.bool false))⟩]) (.seq (.rg [⟨some 5, none, .mv (.t 0)⟩,
  ⟨some 6, none, .callP 47 [.t 5]⟩,
  ⟨some 7, none, .mv (.t 6)⟩,
  ⟨some 8, some (7, true), .mv (.t 1)⟩,
  ⟨some 9, some (7, true), .lenL (.t 8)⟩,
  ⟨some 10, some (7, true), .mv (.t 0)⟩,
  ⟨some 11, some (7, true), .lenL (.t 10)⟩,
  ⟨some 12, some (7, true), .bin .eql (.t 9) (.t 11)⟩,
  ⟨some 13, none, .pick (.t 7) (.t 12) (.c (.bool false))⟩,
  ⟨some 14, none, .mv (.t 13)⟩,
  ⟨some 15, some (14, true), .mv (.t 0)⟩,
  ⟨some 16, some (14, true), .mv (.t 1)⟩,
  ⟨some 17, some (14, true), .callP 32 [.t 15, .t 16]⟩,
  ⟨some 18, none, .pick (.t 14) (.t 17) (.c (.bool false))⟩,
  ⟨some 4, none, .mv (.t 18)⟩]) (.ret)), [.t 4]⟩
def s_spec_SameRow_L0 : SCode := .seq (.seq (.rg [⟨some 11, none, .mv (.t 5)⟩,
  ⟨some 12, none, .mv (.t 0)⟩,
  ⟨some 13, none, .lenL (.t 12)⟩,
  ⟨some 14, none, .bin .lss (.t 11) (.t 13)⟩]) (.cond (.t 14) (.skip) (.exit 0))) (.seq (.blk 1 (.seq (.rg [⟨some 17, none, .mv (.t 0)⟩,
  ⟨some 18, none, .mv (.t 5)⟩,
  ⟨some 19, none, .ia 3 (.t 17) (.t 18)⟩,
  ⟨some 20, none, .ldA 3 (.t 19)⟩,
  ⟨some 21, none, .mv (.t 1)⟩,
  ⟨some 22, none, .mv (.t 5)⟩,
  ⟨some 23, none, .ia 3 (.t 21) (.t 22)⟩,
  ⟨some 24, none, .ldA 3 (.t 23)⟩,
  ⟨some 25, none, .binF .neq [.int .i64, .int .i64, .str] (.t 20) (.t 24)⟩]) (.cond (.t 25) (.seq (.rg [⟨some 4, none, .mv (.c (.bool false))⟩]) (.ret)) (.skip)))) (.rg [⟨some 15, none, .mv (.t 5)⟩,
  ⟨some 16, none, .bin .add (.t 15) (.c (.int .i64 1))⟩,
  ⟨some 5, none, .mv (.t 16)⟩]))
def s_spec_SameRow : SFn := ⟨26, .seq (.rg [⟨some 4, none, .mv (.c (.bool false))⟩]) (.seq (.seq (.rg [⟨some 6, none, .mv (.t 0)⟩,
  ⟨some 7, none, .lenL (.t 6)⟩,
  ⟨some 8, none, .mv (.t 1)⟩,
  ⟨some 9, none, .lenL (.t 8)⟩,
  ⟨some 10, none, .bin .neq (.t 7) (.t 9)⟩]) (.cond (.t 10) (.seq (.rg [⟨some 4, none, .mv (.c (.bool false))⟩]) (.ret)) (.skip))) (.seq (.seq (.rg [⟨some 5, none, .mv (.c (.int .i64 0))⟩]) (.blk 0 (.loop s_spec_SameRow_L0))) (.seq (.rg [⟨some 4, none, .mv (.c (.bool true))⟩]) (.ret)))), [.t 4]⟩
def s_spec_SameVal : SFn := ⟨8, .seq (.rg [⟨some 2, none, .box (.t 0)⟩,
  ⟨some 3, none, .box (.t 1)⟩,
  ⟨some 4, none, .mv (.c (.bool false))⟩]) (.seq (.rg [⟨some 5, none, .ldA 3 (.t 2)⟩,
  ⟨some 6, none, .ldA 3 (.t 3)⟩,
  ⟨some 7, none, .binF .eql [.int .i64, .int .i64, .str] (.t 5) (.t 6)⟩,
  ⟨some 4, none, .mv (.t 7)⟩]) (.ret)), [.t 4]⟩
def s_spec_LessVal : SFn := ⟨30, .seq (.rg [⟨some 2, none, .box (.t 0)⟩,
  ⟨some 3, none, .box (.t 1)⟩,
  ⟨some 4, none, .mv (.c (.bool false))⟩]) (.seq (.seq (.rg [⟨some 5, none, .fa 0 (.t 2)⟩,
  ⟨some 6, none, .ld (.t 5)⟩,
  ⟨some 7, none, .fa 0 (.t 3)⟩,
  ⟨some 8, none, .ld (.t 7)⟩,
  ⟨some 9, none, .bin .neq (.t 6) (.t 8)⟩]) (.cond (.t 9) (.seq (.rg [⟨some 10, none, .fa 0 (.t 2)⟩,
  ⟨some 11, none, .ld (.t 10)⟩,
  ⟨some 12, none, .fa 0 (.t 3)⟩,
  ⟨some 13, none, .ld (.t 12)⟩,
  ⟨some 14, none, .bin .lss (.t 11) (.t 13)⟩,
  ⟨some 4, none, .mv (.t 14)⟩]) (.ret)) (.skip))) (.seq (.seq (.rg [⟨some 15, none, .fa 1 (.t 2)⟩,
  ⟨some 16, none, .ld (.t 15)⟩,
  ⟨some 17, none, .fa 1 (.t 3)⟩,
  ⟨some 18, none, .ld (.t 17)⟩,
  ⟨some 19, none, .bin .neq (.t 16) (.t 18)⟩]) (.cond (.t 19) (.seq (.rg [⟨some 20, none, .fa 1 (.t 2)⟩,
  ⟨some 21, none, .ld (.t 20)⟩,
  ⟨some 22, none, .fa 1 (.t 3)⟩,
  ⟨some 23, none, .ld (.t 22)⟩,
  ⟨some 24, none, .bin .lss (.t 21) (.t 23)⟩,
  ⟨some 4, none, .mv (.t 24)⟩]) (.ret)) (.skip))) (.seq (.rg [⟨some 25, none, .fa 2 (.t 2)⟩,
  ⟨some 26, none, .ld (.t 25)⟩,
  ⟨some 27, none, .fa 2 (.t 3)⟩,
  ⟨some 28, none, .ld (.t 27)⟩,
  ⟨some 29, none, .bin .lss (.t 26) (.t 28)⟩,
  ⟨some 4, none, .mv (.t 29)⟩]) (.ret)))), [.t 4]⟩
def s_spec_LessPart : SFn := ⟨15, .seq (.rg [⟨some 3, none, .box (.t 0)⟩,
  ⟨some 4, none, .box (.t 1)⟩,
  ⟨some 5, none, .box (.t 2)⟩,
  ⟨some 6, none, .mv (.c (.bool false))⟩]) (.seq (.seq (.rg [⟨some 7, none, .fa 3 (.t 3)⟩,
  ⟨some 8, none, .ld (.t 7)⟩]) (.cond (.t 8) (.seq (.rg [⟨some 9, none, .ldA 3 (.t 5)⟩,
  ⟨some 10, none, .ldA 3 (.t 4)⟩,
  ⟨some 11, none, .callP 87 [.t 9, .t 10]⟩,
  ⟨some 6, none, .mv (.t 11)⟩]) (.ret)) (.skip))) (.seq (.rg [⟨some 12, none, .ldA 3 (.t 4)⟩,
  ⟨some 13, none, .ldA 3 (.t 5)⟩,
  ⟨some 14, none, .callP 87 [.t 12, .t 13]⟩,
  ⟨some 6, none, .mv (.t 14)⟩]) (.ret))), [.t 6]⟩
def s_spec_LessKey_L0 : SCode := .seq (.seq (.rg [⟨some 8, none, .mv (.t 7)⟩,
  ⟨some 9, none, .mv (.t 1)⟩,
  ⟨some 10, none, .lenL (.t 9)⟩,
  ⟨some 11, none, .bin .lss (.t 8) (.t 10)⟩,
  ⟨some 12, none, .mv (.t 11)⟩,
  ⟨some 13, some (12, true), .mv (.t 7)⟩,
  ⟨some 14, some (12, true), .mv (.t 2)⟩,
  ⟨some 15, some (12, true), .lenL (.t 14)⟩,
  ⟨some 16, some (12, true), .bin .lss (.t 13) (.t 15)⟩,
  ⟨some 17, none, .pick (.t 12) (.t 16) (.c (.bool false))⟩]) (.cond (.t 17) (.skip) (.exit 0))) (.seq (.blk 1 (.seq (.rg [⟨some 20, none, .mv (.t 1)⟩,
  ⟨some 21, none, .mv (.t 7)⟩,
  ⟨some 22, none, .ia 3 (.t 20) (.t 21)⟩,
  ⟨some 23, none, .ldA 3 (.t 22)⟩,
  ⟨some 24, none, .mv (.t 2)⟩,
  ⟨some 25, none, .mv (.t 7)⟩,
  ⟨some 26, none, .ia 3 (.t 24) (.t 25)⟩,
  ⟨some 27, none, .ldA 3 (.t 26)⟩,
  ⟨some 28, none, .callP 75 [.t 23, .t 27]⟩,
  ⟨some 29, none, .un .not (.t 28)⟩]) (.cond (.t 29) (.seq (.rg [⟨some 30, none, .mv (.t 7)⟩,
  ⟨some 31, none, .mv (.t 0)⟩,
  ⟨some 32, none, .lenL (.t 31)⟩,
  ⟨some 33, none, .bin .lss (.t 30) (.t 32)⟩,
  ⟨some 34, none, .mv (.t 33)⟩,
  ⟨some 35, some (34, true), .mv (.t 0)⟩,
  ⟨some 36, some (34, true), .mv (.t 7)⟩,
  ⟨some 37, some (34, true), .ia 4 (.t 35) (.t 36)⟩,
  ⟨some 38, some (34, true), .ldA 4 (.t 37)⟩,
  ⟨some 39, some (34, true), .mv (.t 1)⟩,
  ⟨some 40, some (34, true), .mv (.t 7)⟩,
  ⟨some 41, some (34, true), .ia 3 (.t 39) (.t 40)⟩,
  ⟨some 42, some (34, true), .ldA 3 (.t 41)⟩,
  ⟨some 43, some (34, true), .mv (.t 2)⟩,
  ⟨some 44, some (34, true), .mv (.t 7)⟩,
  ⟨some 45, some (34, true), .ia 3 (.t 43) (.t 44)⟩,
  ⟨some 46, some (34, true), .ldA 3 (.t 45)⟩,
  ⟨some 47, some (34, true), .callP 76 [.t 38, .t 42, .t 46]⟩,
  ⟨some 48, none, .pick (.t 34) (.t 47) (.c (.bool false))⟩,
  ⟨some 6, none, .mv (.t 48)⟩]) (.ret)) (.skip)))) (.rg [⟨some 18, none, .mv (.t 7)⟩,
  ⟨some 19, none, .bin .add (.t 18) (.c (.int .i64 1))⟩,
  ⟨some 7, none, .mv (.t 19)⟩]))
def s_spec_LessKey : SFn := ⟨54, .seq (.rg [⟨some 6, none, .mv (.c (.bool false))⟩]) (.seq (.seq (.rg [⟨some 7, none, .mv (.c (.int .i64 0))⟩]) (.blk 0 (.loop s_spec_LessKey_L0))) (.seq (.rg [⟨some 49, none, .mv (.t 1)⟩,
  ⟨some 50, none, .lenL (.t 49)⟩,
  ⟨some 51, none, .mv (.t 2)⟩,
  ⟨some 52, none, .lenL (.t 51)⟩,
  ⟨some 53, none, .bin .lss (.t 50) (.t 52)⟩,
  ⟨some 6, none, .mv (.t 53)⟩]) (.ret))), [.t 6]⟩
def s_spec_l24In : SFn := ⟨76, .seq (.rg [⟨some 4, none, .box (.t 1)⟩,
  ⟨some 6, none, .mv (.c (.bool false))⟩]) (.seq (.rg [⟨some 11, none, .mv (.t 0)⟩,
  ⟨some 12, none, .fa 0 (.t 4)⟩,
  ⟨some 13, none, .ld (.t 12)⟩,
  ⟨some 14, none, .ia 4 (.t 11) (.t 13)⟩,
  ⟨some 15, none, .ldA 4 (.t 14)⟩,
  ⟨some 16, none, .fa 1 (.t 4)⟩,
  ⟨some 17, none, .ld (.t 16)⟩,
  ⟨some 18, none, .callP 31 [.t 15, .t 17]⟩,
  ⟨some 7, none, .mv (.t 18)⟩]) (.seq (.rg [⟨some 19, none, .mv (.t 7)⟩,
  ⟨some 20, none, .mv (.t 2)⟩,
  ⟨some 21, none, .callD 50 false [.t 19, .t 20]⟩,
  ⟨some 8, none, .mv (.t 21)⟩]) (.seq (.rg [⟨some 22, none, .mv (.t 8)⟩,
  ⟨some 23, none, .fa 2 (.t 4)⟩,
  ⟨some 24, none, .ld (.t 23)⟩,
  ⟨some 25, none, .lenL (.t 24)⟩,
  ⟨some 26, none, .sliL 3 (.t 22) none (some (.t 25))⟩,
  ⟨some 9, none, .mv (.t 26)⟩]) (.seq (.rg [⟨some 27, none, .mv (.t 8)⟩,
  ⟨some 28, none, .fa 3 (.t 4)⟩,
  ⟨some 29, none, .ld (.t 28)⟩,
  ⟨some 30, none, .lenL (.t 29)⟩,
  ⟨some 31, none, .sliL 3 (.t 27) none (some (.t 30))⟩,
  ⟨some 10, none, .mv (.t 31)⟩]) (.seq (.seq (.rg [⟨some 32, none, .mv (.t 9)⟩,
  ⟨some 33, none, .fa 2 (.t 4)⟩,
  ⟨some 34, none, .ld (.t 33)⟩,
  ⟨some 35, none, .callP 51 [.t 32, .t 34]⟩,
  ⟨some 36, none, .mv (.t 35)⟩,
  ⟨some 37, some (36, true), .fa 4 (.t 4)⟩,
  ⟨some 38, some (36, true), .ld (.t 37)⟩,
  ⟨some 39, none, .pick (.t 36) (.t 38) (.c (.bool false))⟩,
  ⟨some 40, none, .mv (.t 39)⟩,
  ⟨some 41, some (40, true), .fa 2 (.t 4)⟩,
  ⟨some 42, some (40, true), .ld (.t 41)⟩,
  ⟨some 43, some (40, true), .lenL (.t 42)⟩,
  ⟨some 44, some (40, true), .bin .gtr (.t 43) (.c (.int .i64 0))⟩,
  ⟨some 45, none, .pick (.t 40) (.t 44) (.c (.bool false))⟩,
  ⟨some 46, none, .mv (.t 45)⟩,
  ⟨some 47, some (46, false), .mv (.t 10)⟩,
  ⟨some 48, some (46, false), .fa 3 (.t 4)⟩,
  ⟨some 49, some (46, false), .ld (.t 48)⟩,
  ⟨some 50, some (46, false), .callP 51 [.t 47, .t 49]⟩,
  ⟨some 51, some (46, false), .mv (.t 50)⟩,
  ⟨some 52, some (51, true), .fa 5 (.t 4)⟩,
  ⟨some 53, some (51, true), .ld (.t 52)⟩,
  ⟨some 54, some (46, false), .pick (.t 51) (.t 53) (.c (.bool false))⟩,
  ⟨some 55, some (46, false), .mv (.t 54)⟩,
  ⟨some 56, some (55, true), .fa 3 (.t 4)⟩,
  ⟨some 57, some (55, true), .ld (.t 56)⟩,
  ⟨some 58, some (55, true), .lenL (.t 57)⟩,
  ⟨some 59, some (55, true), .bin .gtr (.t 58) (.c (.int .i64 0))⟩,
  ⟨some 60, some (46, false), .pick (.t 55) (.t 59) (.c (.bool false))⟩,
  ⟨some 61, none, .pick (.t 46) (.c (.bool true)) (.t 60)⟩]) (.cond (.t 61) (.seq (.rg [⟨some 6, none, .mv (.c (.bool false))⟩]) (.ret)) (.skip))) (.seq (.rg [⟨some 62, none, .mv (.t 7)⟩,
  ⟨some 63, none, .mv (.t 9)⟩,
  ⟨some 64, none, .fa 2 (.t 4)⟩,
  ⟨some 65, none, .ld (.t 64)⟩,
  ⟨some 66, none, .callP 52 [.t 62, .t 63, .t 65]⟩,
  ⟨some 67, none, .un .not (.t 66)⟩,
  ⟨some 68, none, .mv (.t 67)⟩,
  ⟨some 69, some (68, true), .mv (.t 7)⟩,
  ⟨some 70, some (68, true), .fa 3 (.t 4)⟩,
  ⟨some 71, some (68, true), .ld (.t 70)⟩,
  ⟨some 72, some (68, true), .mv (.t 10)⟩,
  ⟨some 73, some (68, true), .callP 52 [.t 69, .t 71, .t 72]⟩,
  ⟨some 74, some (68, true), .un .not (.t 73)⟩,
  ⟨some 75, none, .pick (.t 68) (.t 74) (.c (.bool false))⟩,
  ⟨some 6, none, .mv (.t 75)⟩]) (.ret))))))), [.t 6]⟩
def s_spec_InScan : SFn := ⟨26, .seq (.rg [⟨some 4, none, .box (.t 1)⟩,
  ⟨some 6, none, .mv (.c (.bool false))⟩]) (.seq (.rg [⟨some 7, none, .mv (.t 0)⟩,
  ⟨some 8, none, .ldA 8 (.t 4)⟩,
  ⟨some 9, none, .callP 10 [.t 7, .t 8]⟩,
  ⟨some 10, none, .mv (.t 9)⟩,
  ⟨some 11, some (10, true), .mv (.t 0)⟩,
  ⟨some 12, some (10, true), .fa 0 (.t 4)⟩,
  ⟨some 13, some (10, true), .ld (.t 12)⟩,
  ⟨some 14, some (10, true), .ia 4 (.t 11) (.t 13)⟩,
  ⟨some 15, some (10, true), .ldA 4 (.t 14)⟩,
  ⟨some 16, some (10, true), .callP 25 [.t 15]⟩,
  ⟨some 17, some (10, true), .mv (.t 2)⟩,
  ⟨some 18, some (10, true), .callP 24 [.t 16, .t 17]⟩,
  ⟨some 19, none, .pick (.t 10) (.t 18) (.c (.bool false))⟩,
  ⟨some 20, none, .mv (.t 19)⟩,
  ⟨some 21, some (20, true), .mv (.t 0)⟩,
  ⟨some 22, some (20, true), .ldA 8 (.t 4)⟩,
  ⟨some 23, some (20, true), .mv (.t 2)⟩,
  ⟨some 24, some (20, true), .callP 26 [.t 21, .t 22, .t 23]⟩,
  ⟨some 25, none, .pick (.t 20) (.t 24) (.c (.bool false))⟩,
  ⟨some 6, none, .mv (.t 25)⟩]) (.ret)), [.t 6]⟩
def s_laws_FnInScans : SFn := ⟨73, .seq (.rg [⟨some 2, none, .mv (.c (.bool false))⟩]) (.seq (.seq (.rg [⟨some 9, none, .mv (.t 0)⟩,
  ⟨some 10, none, .callP 4 [.t 9]⟩]) (.cond (.t 10) (.seq (.rg [⟨some 2, none, .mv (.c (.bool true))⟩]) (.ret)) (.skip))) (.seq (.rg [⟨some 12, none, .mv (.t 0)⟩,
  ⟨some 13, none, .callW 5 [.t 12]⟩,
  ⟨some 11, none, .mv (.t 13)⟩,
  ⟨some 14, none, .ext (.t 11) 0⟩,
  ⟨some 15, none, .ext (.t 11) 1⟩,
  ⟨some 16, none, .ext (.t 11) 2⟩,
  ⟨some 4, none, .alloc [.int .i64 0, .int .i64 0, .snil, .snil, .bool false, .bool false, .bool false, .int .i64 0]⟩,
  ⟨some 3, none, .mv (.t 14)⟩,
  ⟨none, none, .st 8 (.t 4) (.t 15)⟩,
  ⟨some 5, none, .mv (.t 16)⟩]) (.seq (.rg [⟨some 17, none, .mv (.t 3)⟩,
  ⟨some 18, none, .ldA 8 (.t 4)⟩,
  ⟨some 19, none, .mv (.t 5)⟩,
  ⟨some 20, none, .callP 6 [.t 17, .t 18, .t 19]⟩,
  ⟨some 6, none, .mv (.t 20)⟩]) (.seq (.rg [⟨some 22, none, .mv (.t 0)⟩,
  ⟨some 23, none, .callW 7 [.t 22]⟩,
  ⟨some 21, none, .mv (.t 23)⟩,
  ⟨some 24, none, .ext (.t 21) 0⟩,
  ⟨some 25, none, .ext (.t 21) 1⟩,
  ⟨some 8, none, .alloc [.int .i64 0, .int .i64 0, .snil, .snil, .bool false, .bool false, .bool false, .int .i64 0]⟩,
  ⟨some 7, none, .mv (.t 24)⟩,
  ⟨none, none, .st 8 (.t 8) (.t 25)⟩]) (.seq (.seq (.rg [⟨some 26, none, .mv (.t 6)⟩,
  ⟨some 27, none, .mv (.t 3)⟩,
  ⟨some 28, none, .ldA 8 (.t 4)⟩,
  ⟨some 29, none, .mv (.t 5)⟩,
  ⟨some 30, none, .callP 8 [.t 27, .t 28, .t 29]⟩,
  ⟨some 31, none, .binB .neq (.t 26) (.t 30)⟩,
  ⟨some 32, none, .mv (.t 31)⟩,
  ⟨some 33, some (32, false), .mv (.t 7)⟩,
  ⟨some 34, some (32, false), .ldA 8 (.t 8)⟩,
  ⟨some 35, some (32, false), .callP 9 [.t 33, .t 34]⟩,
  ⟨some 36, some (32, false), .mv (.t 7)⟩,
  ⟨some 37, some (32, false), .ldA 8 (.t 8)⟩,
  ⟨some 38, some (32, false), .callP 10 [.t 36, .t 37]⟩,
  ⟨some 39, some (32, false), .binB .neq (.t 35) (.t 38)⟩,
  ⟨some 40, none, .pick (.t 32) (.c (.bool true)) (.t 39)⟩,
  ⟨some 41, none, .mv (.t 40)⟩,
  ⟨some 42, some (41, false), .mv (.t 3)⟩,
  ⟨some 43, some (41, false), .ldA 8 (.t 4)⟩,
  ⟨some 44, some (41, false), .callP 9 [.t 42, .t 43]⟩,
  ⟨some 45, some (41, false), .mv (.t 3)⟩,
  ⟨some 46, some (41, false), .ldA 8 (.t 4)⟩,
  ⟨some 47, some (41, false), .callP 10 [.t 45, .t 46]⟩,
  ⟨some 48, some (41, false), .binB .neq (.t 44) (.t 47)⟩,
  ⟨some 49, none, .pick (.t 41) (.c (.bool true)) (.t 48)⟩]) (.cond (.t 49) (.seq (.rg [⟨some 2, none, .mv (.c (.bool false))⟩]) (.ret)) (.skip))) (.seq (.rg [⟨some 50, none, .bslice false [.int .i64 0, .int .i64 0, .str []] 0 []⟩,
  ⟨some 51, none, .fa 2 (.t 4)⟩,
  ⟨none, none, .st 1 (.t 51) (.t 50)⟩]) (.seq (.rg [⟨some 52, none, .bslice false [.int .i64 0, .int .i64 0, .str []] 0 []⟩,
  ⟨some 53, none, .fa 3 (.t 4)⟩,
  ⟨none, none, .st 1 (.t 53) (.t 52)⟩]) (.seq (.rg [⟨some 54, none, .mv (.t 3)⟩,
  ⟨some 55, none, .ldA 8 (.t 4)⟩,
  ⟨some 56, none, .mv (.t 5)⟩,
  ⟨some 57, none, .callP 6 [.t 54, .t 55, .t 56]⟩,
  ⟨some 58, none, .mv (.t 3)⟩,
  ⟨some 59, none, .ldA 8 (.t 4)⟩,
  ⟨some 60, none, .mv (.t 5)⟩,
  ⟨some 61, none, .callP 8 [.t 58, .t 59, .t 60]⟩,
  ⟨some 62, none, .binB .eql (.t 57) (.t 61)⟩,
  ⟨some 63, none, .mv (.t 62)⟩,
  ⟨some 64, some (63, true), .mv (.t 6)⟩,
  ⟨some 65, some (63, true), .un .not (.t 64)⟩,
  ⟨some 66, some (63, true), .mv (.t 65)⟩,
  ⟨some 67, some (66, false), .mv (.t 3)⟩,
  ⟨some 68, some (66, false), .ldA 8 (.t 4)⟩,
  ⟨some 69, some (66, false), .mv (.t 5)⟩,
  ⟨some 70, some (66, false), .callP 6 [.t 67, .t 68, .t 69]⟩,
  ⟨some 71, some (63, true), .pick (.t 66) (.c (.bool true)) (.t 70)⟩,
  ⟨some 72, none, .pick (.t 63) (.t 71) (.c (.bool false))⟩,
  ⟨some 2, none, .mv (.t 72)⟩]) (.ret))))))))), [.t 2]⟩
def isC : List FuncId := [4, 81, 14, 95, 96, 90, 91, 84, 71, 72, 85, 73, 86, 74, 48, 35, 49, 78, 55, 56, 31, 50, 28, 67, 88, 93, 94, 89, 83, 65, 66, 43, 53, 27, 68, 44, 45, 20, 77, 54, 29, 9, 19, 64, 42, 18, 21, 69, 46, 22, 23, 6, 30, 79, 57, 32, 10, 25, 70, 47, 24, 51, 75, 87, 76, 52, 26, 8]
def rw (f : FuncId) : List Tmp := if f = 80 then [3000, 3001, 3002, 3003, 3004, 3005, 3006, 3007, 3008, 3009, 3010, 3011, 3012, 3013, 3014, 3015, 3016, 3017, 3018, 3019, 3020, 3021, 3022, 3023, 3024, 3025, 3026, 3027, 3028, 3029, 3030, 3031, 3032, 3033, 3034, 3035, 3036, 3037, 3038, 3039, 3040, 3041, 3042, 3043, 3044, 3045, 3046, 3047, 3048, 3049, 3050, 3051, 3052, 3053, 3054, 3055, 3056, 3057, 3058, 3059, 3060, 3061, 3062, 3063, 3064, 3065, 3066, 3067, 3068, 3069, 3070, 3071, 3072, 3073, 3074, 3075, 3076, 3077, 3078, 3079, 3080, 3081, 3082, 3083, 3084, 3085, 3086, 3087, 3088, 3089, 3090, 3091, 3092, 3093, 3094, 3095, 3096, 3097, 3098, 3099, 3100, 3101, 3102, 3103, 3104, 3105, 3106, 3107, 3108, 3109, 3110, 3111, 3112, 3113, 3114, 3115, 3116, 3117, 3118, 3119, 3120, 3121, 3122, 3123, 3124, 3125, 3126, 3127, 3128, 3129, 3130, 3131, 3132, 3133, 3134, 3135, 3136, 3137, 3138, 3139, 3140, 3141, 3142, 3143, 3144, 3145, 3146, 3147, 3148, 3149, 3150, 3151, 3152, 3153, 3154, 3155, 3156, 3157, 3158, 3159, 3160, 3161, 3162, 3163, 3164, 3165, 3166, 3167, 3168, 3169, 3170, 3171, 3172, 3173, 3174, 3175, 3176, 3177, 3178, 3179, 3180, 3181, 3182, 3183, 3184, 3185, 3186, 3187, 3188, 3189, 3190, 3191, 3192, 3193, 3194, 3195, 3196, 3197, 3198, 3199] else if f = 59 then [14, 41, 3000, 3001, 3002, 3003, 3004, 3005, 3006, 3007, 3008, 3009, 3010, 3011, 3012, 3013, 3014, 3015, 3016, 3017, 3018, 3019, 3020, 3021, 3022, 3023, 3024, 3025, 3026, 3027, 3028, 3029, 3030, 3031, 3032, 3033, 3034, 3035, 3036, 3037, 3038, 3039, 3040, 3041, 3042, 3043, 3044, 3045, 3046, 3047, 3048, 3049, 3050, 3051, 3052, 3053, 3054, 3055, 3056, 3057, 3058, 3059, 3060, 3061, 3062, 3063, 3064, 3065, 3066, 3067, 3068, 3069, 3070, 3071, 3072, 3073, 3074, 3075, 3076, 3077, 3078, 3079, 3080, 3081, 3082, 3083, 3084, 3085, 3086, 3087, 3088, 3089, 3090, 3091, 3092, 3093, 3094, 3095, 3096, 3097, 3098, 3099, 3100, 3101, 3102, 3103, 3104, 3105, 3106, 3107, 3108, 3109, 3110, 3111, 3112, 3113, 3114, 3115, 3116, 3117, 3118, 3119, 3120, 3121, 3122, 3123, 3124, 3125, 3126, 3127, 3128, 3129, 3130, 3131, 3132, 3133, 3134, 3135, 3136, 3137, 3138, 3139, 3140, 3141, 3142, 3143, 3144, 3145, 3146, 3147, 3148, 3149, 3150, 3151, 3152, 3153, 3154, 3155, 3156, 3157, 3158, 3159, 3160, 3161, 3162, 3163, 3164, 3165, 3166, 3167, 3168, 3169, 3170, 3171, 3172, 3173, 3174, 3175, 3176, 3177, 3178, 3179, 3180, 3181, 3182, 3183, 3184, 3185, 3186, 3187, 3188, 3189, 3190, 3191, 3192, 3193, 3194, 3195, 3196, 3197, 3198, 3199] else if f = 34 then [3000, 3001, 3002, 3003, 3004, 3005, 3006, 3007, 3008, 3009, 3010, 3011, 3012, 3013, 3014, 3015, 3016, 3017, 3018, 3019, 3020, 3021, 3022, 3023, 3024, 3025, 3026, 3027, 3028, 3029, 3030, 3031, 3032, 3033, 3034, 3035, 3036, 3037, 3038, 3039, 3040, 3041, 3042, 3043, 3044, 3045, 3046, 3047, 3048, 3049, 3050, 3051, 3052, 3053, 3054, 3055, 3056, 3057, 3058, 3059, 3060, 3061, 3062, 3063, 3064, 3065, 3066, 3067, 3068, 3069, 3070, 3071, 3072, 3073, 3074, 3075, 3076, 3077, 3078, 3079, 3080, 3081, 3082, 3083, 3084, 3085, 3086, 3087, 3088, 3089, 3090, 3091, 3092, 3093, 3094, 3095, 3096, 3097, 3098, 3099, 3100, 3101, 3102, 3103, 3104, 3105, 3106, 3107, 3108, 3109, 3110, 3111, 3112, 3113, 3114, 3115, 3116, 3117, 3118, 3119, 3120, 3121, 3122, 3123, 3124, 3125, 3126, 3127, 3128, 3129, 3130, 3131, 3132, 3133, 3134, 3135, 3136, 3137, 3138, 3139, 3140, 3141, 3142, 3143, 3144, 3145, 3146, 3147, 3148, 3149, 3150, 3151, 3152, 3153, 3154, 3155, 3156, 3157, 3158, 3159, 3160, 3161, 3162, 3163, 3164, 3165, 3166, 3167, 3168, 3169, 3170, 3171, 3172, 3173, 3174, 3175, 3176, 3177, 3178, 3179, 3180, 3181, 3182, 3183, 3184, 3185, 3186, 3187, 3188, 3189, 3190, 3191, 3192, 3193, 3194, 3195, 3196, 3197, 3198, 3199, 4005, 4011] else if f = 58 then [116, 3000, 3001, 3002, 3003, 3004, 3005, 3006, 3007, 3008, 3009, 3010, 3011, 3012, 3013, 3014, 3015, 3016, 3017, 3018, 3019, 3020, 3021, 3022, 3023, 3024, 3025, 3026, 3027, 3028, 3029, 3030, 3031, 3032, 3033, 3034, 3035, 3036, 3037, 3038, 3039, 3040, 3041, 3042, 3043, 3044, 3045, 3046, 3047, 3048, 3049, 3050, 3051, 3052, 3053, 3054, 3055, 3056, 3057, 3058, 3059, 3060, 3061, 3062, 3063, 3064, 3065, 3066, 3067, 3068, 3069, 3070, 3071, 3072, 3073, 3074, 3075, 3076, 3077, 3078, 3079, 3080, 3081, 3082, 3083, 3084, 3085, 3086, 3087, 3088, 3089, 3090, 3091, 3092, 3093, 3094, 3095, 3096, 3097, 3098, 3099, 3100, 3101, 3102, 3103, 3104, 3105, 3106, 3107, 3108, 3109, 3110, 3111, 3112, 3113, 3114, 3115, 3116, 3117, 3118, 3119, 3120, 3121, 3122, 3123, 3124, 3125, 3126, 3127, 3128, 3129, 3130, 3131, 3132, 3133, 3134, 3135, 3136, 3137, 3138, 3139, 3140, 3141, 3142, 3143, 3144, 3145, 3146, 3147, 3148, 3149, 3150, 3151, 3152, 3153, 3154, 3155, 3156, 3157, 3158, 3159, 3160, 3161, 3162, 3163, 3164, 3165, 3166, 3167, 3168, 3169, 3170, 3171, 3172, 3173, 3174, 3175, 3176, 3177, 3178, 3179, 3180, 3181, 3182, 3183, 3184, 3185, 3186, 3187, 3188, 3189, 3190, 3191, 3192, 3193, 3194, 3195, 3196, 3197, 3198, 3199] else if f = 33 then [3000, 3001, 3002, 3003, 3004, 3005, 3006, 3007, 3008, 3009, 3010, 3011, 3012, 3013, 3014, 3015, 3016, 3017, 3018, 3019, 3020, 3021, 3022, 3023, 3024, 3025, 3026, 3027, 3028, 3029, 3030, 3031, 3032, 3033, 3034, 3035, 3036, 3037, 3038, 3039, 3040, 3041, 3042, 3043, 3044, 3045, 3046, 3047, 3048, 3049, 3050, 3051, 3052, 3053, 3054, 3055, 3056, 3057, 3058, 3059, 3060, 3061, 3062, 3063, 3064, 3065, 3066, 3067, 3068, 3069, 3070, 3071, 3072, 3073, 3074, 3075, 3076, 3077, 3078, 3079, 3080, 3081, 3082, 3083, 3084, 3085, 3086, 3087, 3088, 3089, 3090, 3091, 3092, 3093, 3094, 3095, 3096, 3097, 3098, 3099, 3100, 3101, 3102, 3103, 3104, 3105, 3106, 3107, 3108, 3109, 3110, 3111, 3112, 3113, 3114, 3115, 3116, 3117, 3118, 3119, 3120, 3121, 3122, 3123, 3124, 3125, 3126, 3127, 3128, 3129, 3130, 3131, 3132, 3133, 3134, 3135, 3136, 3137, 3138, 3139, 3140, 3141, 3142, 3143, 3144, 3145, 3146, 3147, 3148, 3149, 3150, 3151, 3152, 3153, 3154, 3155, 3156, 3157, 3158, 3159, 3160, 3161, 3162, 3163, 3164, 3165, 3166, 3167, 3168, 3169, 3170, 3171, 3172, 3173, 3174, 3175, 3176, 3177, 3178, 3179, 3180, 3181, 3182, 3183, 3184, 3185, 3186, 3187, 3188, 3189, 3190, 3191, 3192, 3193, 3194, 3195, 3196, 3197, 3198, 3199, 4012, 4019, 4021] else if f = 12 then [3000, 3001, 3002, 3003, 3004, 3005, 3006, 3007, 3008, 3009, 3010, 3011, 3012, 3013, 3014, 3015, 3016, 3017, 3018, 3019, 3020, 3021, 3022, 3023, 3024, 3025, 3026, 3027, 3028, 3029, 3030, 3031, 3032, 3033, 3034, 3035, 3036, 3037, 3038, 3039, 3040, 3041, 3042, 3043, 3044, 3045, 3046, 3047, 3048, 3049, 3050, 3051, 3052, 3053, 3054, 3055, 3056, 3057, 3058, 3059, 3060, 3061, 3062, 3063, 3064, 3065, 3066, 3067, 3068, 3069, 3070, 3071, 3072, 3073, 3074, 3075, 3076, 3077, 3078, 3079, 3080, 3081, 3082, 3083, 3084, 3085, 3086, 3087, 3088, 3089, 3090, 3091, 3092, 3093, 3094, 3095, 3096, 3097, 3098, 3099, 3100, 3101, 3102, 3103, 3104, 3105, 3106, 3107, 3108, 3109, 3110, 3111, 3112, 3113, 3114, 3115, 3116, 3117, 3118, 3119, 3120, 3121, 3122, 3123, 3124, 3125, 3126, 3127, 3128, 3129, 3130, 3131, 3132, 3133, 3134, 3135, 3136, 3137, 3138, 3139, 3140, 3141, 3142, 3143, 3144, 3145, 3146, 3147, 3148, 3149, 3150, 3151, 3152, 3153, 3154, 3155, 3156, 3157, 3158, 3159, 3160, 3161, 3162, 3163, 3164, 3165, 3166, 3167, 3168, 3169, 3170, 3171, 3172, 3173, 3174, 3175, 3176, 3177, 3178, 3179, 3180, 3181, 3182, 3183, 3184, 3185, 3186, 3187, 3188, 3189, 3190, 3191, 3192, 3193, 3194, 3195, 3196, 3197, 3198, 3199] else if f = 40 then [3000, 3001, 3002, 3003, 3004, 3005, 3006, 3007, 3008, 3009, 3010, 3011, 3012, 3013, 3014, 3015, 3016, 3017, 3018, 3019, 3020, 3021, 3022, 3023, 3024, 3025, 3026, 3027, 3028, 3029, 3030, 3031, 3032, 3033, 3034, 3035, 3036, 3037, 3038, 3039, 3040, 3041, 3042, 3043, 3044, 3045, 3046, 3047, 3048, 3049, 3050, 3051, 3052, 3053, 3054, 3055, 3056, 3057, 3058, 3059, 3060, 3061, 3062, 3063, 3064, 3065, 3066, 3067, 3068, 3069, 3070, 3071, 3072, 3073, 3074, 3075, 3076, 3077, 3078, 3079, 3080, 3081, 3082, 3083, 3084, 3085, 3086, 3087, 3088, 3089, 3090, 3091, 3092, 3093, 3094, 3095, 3096, 3097, 3098, 3099, 3100, 3101, 3102, 3103, 3104, 3105, 3106, 3107, 3108, 3109, 3110, 3111, 3112, 3113, 3114, 3115, 3116, 3117, 3118, 3119, 3120, 3121, 3122, 3123, 3124, 3125, 3126, 3127, 3128, 3129, 3130, 3131, 3132, 3133, 3134, 3135, 3136, 3137, 3138, 3139, 3140, 3141, 3142, 3143, 3144, 3145, 3146, 3147, 3148, 3149, 3150, 3151, 3152, 3153, 3154, 3155, 3156, 3157, 3158, 3159, 3160, 3161, 3162, 3163, 3164, 3165, 3166, 3167, 3168, 3169, 3170, 3171, 3172, 3173, 3174, 3175, 3176, 3177, 3178, 3179, 3180, 3181, 3182, 3183, 3184, 3185, 3186, 3187, 3188, 3189, 3190, 3191, 3192, 3193, 3194, 3195, 3196, 3197, 3198, 3199] else if f = 16 then [7, 24, 3000, 3001, 3002, 3003, 3004, 3005, 3006, 3007, 3008, 3009, 3010, 3011, 3012, 3013, 3014, 3015, 3016, 3017, 3018, 3019, 3020, 3021, 3022, 3023, 3024, 3025, 3026, 3027, 3028, 3029, 3030, 3031, 3032, 3033, 3034, 3035, 3036, 3037, 3038, 3039, 3040, 3041, 3042, 3043, 3044, 3045, 3046, 3047, 3048, 3049, 3050, 3051, 3052, 3053, 3054, 3055, 3056, 3057, 3058, 3059, 3060, 3061, 3062, 3063, 3064, 3065, 3066, 3067, 3068, 3069, 3070, 3071, 3072, 3073, 3074, 3075, 3076, 3077, 3078, 3079, 3080, 3081, 3082, 3083, 3084, 3085, 3086, 3087, 3088, 3089, 3090, 3091, 3092, 3093, 3094, 3095, 3096, 3097, 3098, 3099, 3100, 3101, 3102, 3103, 3104, 3105, 3106, 3107, 3108, 3109, 3110, 3111, 3112, 3113, 3114, 3115, 3116, 3117, 3118, 3119, 3120, 3121, 3122, 3123, 3124, 3125, 3126, 3127, 3128, 3129, 3130, 3131, 3132, 3133, 3134, 3135, 3136, 3137, 3138, 3139, 3140, 3141, 3142, 3143, 3144, 3145, 3146, 3147, 3148, 3149, 3150, 3151, 3152, 3153, 3154, 3155, 3156, 3157, 3158, 3159, 3160, 3161, 3162, 3163, 3164, 3165, 3166, 3167, 3168, 3169, 3170, 3171, 3172, 3173, 3174, 3175, 3176, 3177, 3178, 3179, 3180, 3181, 3182, 3183, 3184, 3185, 3186, 3187, 3188, 3189, 3190, 3191, 3192, 3193, 3194, 3195, 3196, 3197, 3198, 3199] else if f = 50 then List.range 64 else if f = 36 then [61, 73, 3000, 3001, 3002, 3003, 3004, 3005, 3006, 3007, 3008, 3009, 3010, 3011, 3012, 3013, 3014, 3015, 3016, 3017, 3018, 3019, 3020, 3021, 3022, 3023, 3024, 3025, 3026, 3027, 3028, 3029, 3030, 3031, 3032, 3033, 3034, 3035, 3036, 3037, 3038, 3039, 3040, 3041, 3042, 3043, 3044, 3045, 3046, 3047, 3048, 3049, 3050, 3051, 3052, 3053, 3054, 3055, 3056, 3057, 3058, 3059, 3060, 3061, 3062, 3063, 3064, 3065, 3066, 3067, 3068, 3069, 3070, 3071, 3072, 3073, 3074, 3075, 3076, 3077, 3078, 3079, 3080, 3081, 3082, 3083, 3084, 3085, 3086, 3087, 3088, 3089, 3090, 3091, 3092, 3093, 3094, 3095, 3096, 3097, 3098, 3099, 3100, 3101, 3102, 3103, 3104, 3105, 3106, 3107, 3108, 3109, 3110, 3111, 3112, 3113, 3114, 3115, 3116, 3117, 3118, 3119, 3120, 3121, 3122, 3123, 3124, 3125, 3126, 3127, 3128, 3129, 3130, 3131, 3132, 3133, 3134, 3135, 3136, 3137, 3138, 3139, 3140, 3141, 3142, 3143, 3144, 3145, 3146, 3147, 3148, 3149, 3150, 3151, 3152, 3153, 3154, 3155, 3156, 3157, 3158, 3159, 3160, 3161, 3162, 3163, 3164, 3165, 3166, 3167, 3168, 3169, 3170, 3171, 3172, 3173, 3174, 3175, 3176, 3177, 3178, 3179, 3180, 3181, 3182, 3183, 3184, 3185, 3186, 3187, 3188, 3189, 3190, 3191, 3192, 3193, 3194, 3195, 3196, 3197, 3198, 3199, 4049, 4052] else if f = 13 then [34, 3000, 3001, 3002, 3003, 3004, 3005, 3006, 3007, 3008, 3009, 3010, 3011, 3012, 3013, 3014, 3015, 3016, 3017, 3018, 3019, 3020, 3021, 3022, 3023, 3024, 3025, 3026, 3027, 3028, 3029, 3030, 3031, 3032, 3033, 3034, 3035, 3036, 3037, 3038, 3039, 3040, 3041, 3042, 3043, 3044, 3045, 3046, 3047, 3048, 3049, 3050, 3051, 3052, 3053, 3054, 3055, 3056, 3057, 3058, 3059, 3060, 3061, 3062, 3063, 3064, 3065, 3066, 3067, 3068, 3069, 3070, 3071, 3072, 3073, 3074, 3075, 3076, 3077, 3078, 3079, 3080, 3081, 3082, 3083, 3084, 3085, 3086, 3087, 3088, 3089, 3090, 3091, 3092, 3093, 3094, 3095, 3096, 3097, 3098, 3099, 3100, 3101, 3102, 3103, 3104, 3105, 3106, 3107, 3108, 3109, 3110, 3111, 3112, 3113, 3114, 3115, 3116, 3117, 3118, 3119, 3120, 3121, 3122, 3123, 3124, 3125, 3126, 3127, 3128, 3129, 3130, 3131, 3132, 3133, 3134, 3135, 3136, 3137, 3138, 3139, 3140, 3141, 3142, 3143, 3144, 3145, 3146, 3147, 3148, 3149, 3150, 3151, 3152, 3153, 3154, 3155, 3156, 3157, 3158, 3159, 3160, 3161, 3162, 3163, 3164, 3165, 3166, 3167, 3168, 3169, 3170, 3171, 3172, 3173, 3174, 3175, 3176, 3177, 3178, 3179, 3180, 3181, 3182, 3183, 3184, 3185, 3186, 3187, 3188, 3189, 3190, 3191, 3192, 3193, 3194, 3195, 3196, 3197, 3198, 3199] else if f = 17 then [26, 3000, 3001, 3002, 3003, 3004, 3005, 3006, 3007, 3008, 3009, 3010, 3011, 3012, 3013, 3014, 3015, 3016, 3017, 3018, 3019, 3020, 3021, 3022, 3023, 3024, 3025, 3026, 3027, 3028, 3029, 3030, 3031, 3032, 3033, 3034, 3035, 3036, 3037, 3038, 3039, 3040, 3041, 3042, 3043, 3044, 3045, 3046, 3047, 3048, 3049, 3050, 3051, 3052, 3053, 3054, 3055, 3056, 3057, 3058, 3059, 3060, 3061, 3062, 3063, 3064, 3065, 3066, 3067, 3068, 3069, 3070, 3071, 3072, 3073, 3074, 3075, 3076, 3077, 3078, 3079, 3080, 3081, 3082, 3083, 3084, 3085, 3086, 3087, 3088, 3089, 3090, 3091, 3092, 3093, 3094, 3095, 3096, 3097, 3098, 3099, 3100, 3101, 3102, 3103, 3104, 3105, 3106, 3107, 3108, 3109, 3110, 3111, 3112, 3113, 3114, 3115, 3116, 3117, 3118, 3119, 3120, 3121, 3122, 3123, 3124, 3125, 3126, 3127, 3128, 3129, 3130, 3131, 3132, 3133, 3134, 3135, 3136, 3137, 3138, 3139, 3140, 3141, 3142, 3143, 3144, 3145, 3146, 3147, 3148, 3149, 3150, 3151, 3152, 3153, 3154, 3155, 3156, 3157, 3158, 3159, 3160, 3161, 3162, 3163, 3164, 3165, 3166, 3167, 3168, 3169, 3170, 3171, 3172, 3173, 3174, 3175, 3176, 3177, 3178, 3179, 3180, 3181, 3182, 3183, 3184, 3185, 3186, 3187, 3188, 3189, 3190, 3191, 3192, 3193, 3194, 3195, 3196, 3197, 3198, 3199] else if f = 5 then [3000, 3001, 3002, 3003, 3004, 3005, 3006, 3007, 3008, 3009, 3010, 3011, 3012, 3013, 3014, 3015, 3016, 3017, 3018, 3019, 3020, 3021, 3022, 3023, 3024, 3025, 3026, 3027, 3028, 3029, 3030, 3031, 3032, 3033, 3034, 3035, 3036, 3037, 3038, 3039, 3040, 3041, 3042, 3043, 3044, 3045, 3046, 3047, 3048, 3049, 3050, 3051, 3052, 3053, 3054, 3055, 3056, 3057, 3058, 3059, 3060, 3061, 3062, 3063, 3064, 3065, 3066, 3067, 3068, 3069, 3070, 3071, 3072, 3073, 3074, 3075, 3076, 3077, 3078, 3079, 3080, 3081, 3082, 3083, 3084, 3085, 3086, 3087, 3088, 3089, 3090, 3091, 3092, 3093, 3094, 3095, 3096, 3097, 3098, 3099, 3100, 3101, 3102, 3103, 3104, 3105, 3106, 3107, 3108, 3109, 3110, 3111, 3112, 3113, 3114, 3115, 3116, 3117, 3118, 3119, 3120, 3121, 3122, 3123, 3124, 3125, 3126, 3127, 3128, 3129, 3130, 3131, 3132, 3133, 3134, 3135, 3136, 3137, 3138, 3139, 3140, 3141, 3142, 3143, 3144, 3145, 3146, 3147, 3148, 3149, 3150, 3151, 3152, 3153, 3154, 3155, 3156, 3157, 3158, 3159, 3160, 3161, 3162, 3163, 3164, 3165, 3166, 3167, 3168, 3169, 3170, 3171, 3172, 3173, 3174, 3175, 3176, 3177, 3178, 3179, 3180, 3181, 3182, 3183, 3184, 3185, 3186, 3187, 3188, 3189, 3190, 3191, 3192, 3193, 3194, 3195, 3196, 3197, 3198, 3199, 4011, 4014, 4034, 4039] else if f = 7 then [3000, 3001, 3002, 3003, 3004, 3005, 3006, 3007, 3008, 3009, 3010, 3011, 3012, 3013, 3014, 3015, 3016, 3017, 3018, 3019, 3020, 3021, 3022, 3023, 3024, 3025, 3026, 3027, 3028, 3029, 3030, 3031, 3032, 3033, 3034, 3035, 3036, 3037, 3038, 3039, 3040, 3041, 3042, 3043, 3044, 3045, 3046, 3047, 3048, 3049, 3050, 3051, 3052, 3053, 3054, 3055, 3056, 3057, 3058, 3059, 3060, 3061, 3062, 3063, 3064, 3065, 3066, 3067, 3068, 3069, 3070, 3071, 3072, 3073, 3074, 3075, 3076, 3077, 3078, 3079, 3080, 3081, 3082, 3083, 3084, 3085, 3086, 3087, 3088, 3089, 3090, 3091, 3092, 3093, 3094, 3095, 3096, 3097, 3098, 3099, 3100, 3101, 3102, 3103, 3104, 3105, 3106, 3107, 3108, 3109, 3110, 3111, 3112, 3113, 3114, 3115, 3116, 3117, 3118, 3119, 3120, 3121, 3122, 3123, 3124, 3125, 3126, 3127, 3128, 3129, 3130, 3131, 3132, 3133, 3134, 3135, 3136, 3137, 3138, 3139, 3140, 3141, 3142, 3143, 3144, 3145, 3146, 3147, 3148, 3149, 3150, 3151, 3152, 3153, 3154, 3155, 3156, 3157, 3158, 3159, 3160, 3161, 3162, 3163, 3164, 3165, 3166, 3167, 3168, 3169, 3170, 3171, 3172, 3173, 3174, 3175, 3176, 3177, 3178, 3179, 3180, 3181, 3182, 3183, 3184, 3185, 3186, 3187, 3188, 3189, 3190, 3191, 3192, 3193, 3194, 3195, 3196, 3197, 3198, 3199, 4009, 4013] else []
def fr (f : FuncId) : Bool := f == 78 || f == 68 || f == 19 || f == 21 || f == 25
def dp (f : FuncId) : Nat := if f = 50 then 1 else if f = 60 then 9 else if f = 37 then 9 else if f = 15 then 9 else if f = 62 then 9 else if f = 80 then 9 else if f = 38 then 9 else if f = 59 then 9 else if f = 34 then 9 else if f = 58 then 9 else if f = 33 then 9 else if f = 12 then 9 else if f = 40 then 9 else if f = 16 then 9 else if f = 36 then 9 else if f = 82 then 9 else if f = 63 then 9 else if f = 41 then 9 else if f = 61 then 9 else if f = 39 then 9 else if f = 13 then 9 else if f = 17 then 9 else 0
noncomputable def EE (cs : List (FuncId × (List AV → Option AV))) : Env := mkE Tryz.prog isC rw fr dp cs
theorem st_laws_big_ : stF (EE []) 4 = some (s_laws_big) := by kernel_rfl
theorem st_laws_big (cs) : stF (EE cs) 4 = some (s_laws_big) := (stF_mk cs [] 4).trans st_laws_big_
theorem st_spec_l1New_ : stF (EE []) 11 = some (s_spec_l1New) := by kernel_rfl
theorem st_spec_l1New (cs) : stF (EE cs) 11 = some (s_spec_l1New) := (stF_mk cs [] 11).trans st_spec_l1New_
theorem st_spec_l1Byte_ : stF (EE []) 60 = some (s_spec_l1Byte) := by kernel_rfl
theorem st_spec_l1Byte (cs) : stF (EE cs) 60 = some (s_spec_l1Byte) := (stF_mk cs [] 60).trans st_spec_l1Byte_
theorem st_spec_l1Below_ : stF (EE []) 37 = some (s_spec_l1Below) := by kernel_rfl
theorem st_spec_l1Below (cs) : stF (EE cs) 37 = some (s_spec_l1Below) := (stF_mk cs [] 37).trans st_spec_l1Below_
theorem st_spec_l1Once_ : stF (EE []) 15 = some (s_spec_l1Once) := by kernel_rfl
theorem st_spec_l1Once (cs) : stF (EE cs) 15 = some (s_spec_l1Once) := (stF_mk cs [] 15).trans st_spec_l1Once_
theorem st_spec_l1Str_ : stF (EE []) 62 = some (s_spec_l1Str) := by kernel_rfl
theorem st_spec_l1Str (cs) : stF (EE cs) 62 = some (s_spec_l1Str) := (stF_mk cs [] 62).trans st_spec_l1Str_
theorem st_spec_l9Draw2_ : stF (EE []) 80 = some (s_spec_l9Draw2) := by kernel_rfl
theorem st_spec_l9Draw2 (cs) : stF (EE cs) 80 = some (s_spec_l9Draw2) := (stF_mk cs [] 80).trans st_spec_l9Draw2_
theorem st_spec_l1Int_ : stF (EE []) 38 = some (s_spec_l1Int) := by kernel_rfl
theorem st_spec_l1Int (cs) : stF (EE cs) 38 = some (s_spec_l1Int) := (stF_mk cs [] 38).trans st_spec_l1Int_
theorem st_spec_l9Draw_ : stF (EE []) 59 = some (s_spec_l9Draw) := by kernel_rfl
theorem st_spec_l9Draw (cs) : stF (EE cs) 59 = some (s_spec_l9Draw) := (stF_mk cs [] 59).trans st_spec_l9Draw_
theorem st_spec_l10Draw_ : stF (EE []) 34 = some (s_spec_l10Draw) := by kernel_rfl
theorem st_spec_l10Draw (cs) : stF (EE cs) 34 = some (s_spec_l10Draw) := (stF_mk cs [] 34).trans st_spec_l10Draw_
theorem st_spec_l2Num_ : stF (EE []) 81 = some (s_spec_l2Num) := by kernel_rfl
theorem st_spec_l2Num (cs) : stF (EE cs) 81 = some (s_spec_l2Num) := (stF_mk cs [] 81).trans st_spec_l2Num_
theorem st_spec_l9Any_ : stF (EE []) 58 = some (s_spec_l9Any) := by kernel_rfl
theorem st_spec_l9Any (cs) : stF (EE cs) 58 = some (s_spec_l9Any) := (stF_mk cs [] 58).trans st_spec_l9Any_
theorem st_spec_l10Any_ : stF (EE []) 33 = some (s_spec_l10Any) := by kernel_rfl
theorem st_spec_l10Any (cs) : stF (EE cs) 33 = some (s_spec_l10Any) := (stF_mk cs [] 33).trans st_spec_l10Any_
theorem st_spec_l22Defs_ : stF (EE []) 12 = some (s_spec_l22Defs) := by kernel_rfl
theorem st_spec_l22Defs (cs) : stF (EE cs) 12 = some (s_spec_l22Defs) := (stF_mk cs [] 12).trans st_spec_l22Defs_
theorem st_spec_l1In_ : stF (EE []) 14 = some (s_spec_l1In) := by kernel_rfl
theorem st_spec_l1In (cs) : stF (EE cs) 14 = some (s_spec_l1In) := (stF_mk cs [] 14).trans st_spec_l1In_
theorem st_spec_l8Small_ : stF (EE []) 95 = some (s_spec_l8Small) := by kernel_rfl
theorem st_spec_l8Small (cs) : stF (EE cs) 95 = some (s_spec_l8Small) := (stF_mk cs [] 95).trans st_spec_l8Small_
theorem st_spec_l2Digit_ : stF (EE []) 96 = some (s_spec_l2Digit) := by kernel_rfl
theorem st_spec_l2Digit (cs) : stF (EE cs) 96 = some (s_spec_l2Digit) := (stF_mk cs [] 96).trans st_spec_l2Digit_
theorem st_spec_l8Name_ : stF (EE []) 90 = some (s_spec_l8Name) := by kernel_rfl
theorem st_spec_l8Name (cs) : stF (EE cs) 90 = some (s_spec_l8Name) := (stF_mk cs [] 90).trans st_spec_l8Name_
theorem st_spec_l9Has_ : stF (EE []) 91 = some (s_spec_l9Has) := by kernel_rfl
theorem st_spec_l9Has (cs) : stF (EE cs) 91 = some (s_spec_l9Has) := (stF_mk cs [] 91).trans st_spec_l9Has_
theorem st_spec_l9Word_ : stF (EE []) 84 = some (s_spec_l9Word) := by kernel_rfl
theorem st_spec_l9Word (cs) : stF (EE cs) 84 = some (s_spec_l9Word) := (stF_mk cs [] 84).trans st_spec_l9Word_
theorem st_spec_l9Names_ : stF (EE []) 71 = some (s_spec_l9Names) := by kernel_rfl
theorem st_spec_l9Names (cs) : stF (EE cs) 71 = some (s_spec_l9Names) := (stF_mk cs [] 71).trans st_spec_l9Names_
theorem st_spec_l9Types_ : stF (EE []) 72 = some (s_spec_l9Types) := by kernel_rfl
theorem st_spec_l9Types (cs) : stF (EE cs) 72 = some (s_spec_l9Types) := (stF_mk cs [] 72).trans st_spec_l9Types_
theorem st_spec_l9Col_ : stF (EE []) 85 = some (s_spec_l9Col) := by kernel_rfl
theorem st_spec_l9Col (cs) : stF (EE cs) 85 = some (s_spec_l9Col) := (stF_mk cs [] 85).trans st_spec_l9Col_
theorem st_spec_l9Once_ : stF (EE []) 73 = some (s_spec_l9Once) := by kernel_rfl
theorem st_spec_l9Once (cs) : stF (EE cs) 73 = some (s_spec_l9Once) := (stF_mk cs [] 73).trans st_spec_l9Once_
theorem st_spec_l9Parts_ : stF (EE []) 86 = some (s_spec_l9Parts) := by kernel_rfl
theorem st_spec_l9Parts (cs) : stF (EE cs) 86 = some (s_spec_l9Parts) := (stF_mk cs [] 86).trans st_spec_l9Parts_
theorem st_spec_l9AllParts_ : stF (EE []) 74 = some (s_spec_l9AllParts) := by kernel_rfl
theorem st_spec_l9AllParts (cs) : stF (EE cs) 74 = some (s_spec_l9AllParts) := (stF_mk cs [] 74).trans st_spec_l9AllParts_
theorem st_spec_CheckDef_ : stF (EE []) 48 = some (s_spec_CheckDef) := by kernel_rfl
theorem st_spec_CheckDef (cs) : stF (EE cs) 48 = some (s_spec_CheckDef) := (stF_mk cs [] 48).trans st_spec_CheckDef_
theorem st_spec_FirstBad_ : stF (EE []) 35 = some (s_spec_FirstBad) := by kernel_rfl
theorem st_spec_FirstBad (cs) : stF (EE cs) 35 = some (s_spec_FirstBad) := (stF_mk cs [] 35).trans st_spec_FirstBad_
theorem st_spec_l11Part_ : stF (EE []) 49 = some (s_spec_l11Part) := by kernel_rfl
theorem st_spec_l11Part (cs) : stF (EE cs) 49 = some (s_spec_l11Part) := (stF_mk cs [] 49).trans st_spec_l11Part_
theorem st_spec_l11Parts_ : stF (EE []) 78 = some (s_spec_l11Parts) := by kernel_rfl
theorem st_spec_l11Parts (cs) : stF (EE cs) 78 = some (s_spec_l11Parts) := (stF_mk cs [] 78).trans st_spec_l11Parts_
theorem st_spec_PrimaryPlan_ : stF (EE []) 55 = some (s_spec_PrimaryPlan) := by kernel_rfl
theorem st_spec_PrimaryPlan (cs) : stF (EE cs) 55 = some (s_spec_PrimaryPlan) := (stF_mk cs [] 55).trans st_spec_PrimaryPlan_
theorem st_spec_IndexPlan_ : stF (EE []) 56 = some (s_spec_IndexPlan) := by kernel_rfl
theorem st_spec_IndexPlan (cs) : stF (EE cs) 56 = some (s_spec_IndexPlan) := (stF_mk cs [] 56).trans st_spec_IndexPlan_
theorem st_spec_l11Plan_ : stF (EE []) 31 = some (s_spec_l11Plan) := by kernel_rfl
theorem st_spec_l11Plan (cs) : stF (EE cs) 31 = some (s_spec_l11Plan) := (stF_mk cs [] 31).trans st_spec_l11Plan_
theorem st_spec_l11Short_ : stF (EE []) 40 = some (s_spec_l11Short) := by kernel_rfl
theorem st_spec_l11Short (cs) : stF (EE cs) 40 = some (s_spec_l11Short) := (stF_mk cs [] 40).trans st_spec_l11Short_
theorem st_spec_l11Row_ : stF (EE []) 16 = some (s_spec_l11Row) := by kernel_rfl
theorem st_spec_l11Row (cs) : stF (EE cs) 16 = some (s_spec_l11Row) := (stF_mk cs [] 16).trans st_spec_l11Row_
theorem st_spec_Pick_ : stF (EE []) 50 = some (s_spec_Pick) := by kernel_rfl
theorem st_spec_Pick (cs) : stF (EE cs) 50 = some (s_spec_Pick) := (stF_mk cs [] 50).trans st_spec_Pick_
theorem st_spec_l24Draw_ : stF (EE []) 36 = some (s_spec_l24Draw) := by kernel_rfl
theorem st_spec_l24Draw (cs) : stF (EE cs) 36 = some (s_spec_l24Draw) := (stF_mk cs [] 36).trans st_spec_l24Draw_
theorem st_spec_l2Text_ : stF (EE []) 82 = some (s_spec_l2Text) := by kernel_rfl
theorem st_spec_l2Text (cs) : stF (EE cs) 82 = some (s_spec_l2Text) := (stF_mk cs [] 82).trans st_spec_l2Text_
theorem st_spec_l2Of_ : stF (EE []) 63 = some (s_spec_l2Of) := by kernel_rfl
theorem st_spec_l2Of (cs) : stF (EE cs) 63 = some (s_spec_l2Of) := (stF_mk cs [] 63).trans st_spec_l2Of_
theorem st_spec_l2Draw_ : stF (EE []) 41 = some (s_spec_l2Draw) := by kernel_rfl
theorem st_spec_l2Draw (cs) : stF (EE cs) 41 = some (s_spec_l2Draw) := (stF_mk cs [] 41).trans st_spec_l2Draw_
theorem st_spec_l1Num_ : stF (EE []) 61 = some (s_spec_l1Num) := by kernel_rfl
theorem st_spec_l1Num (cs) : stF (EE cs) 61 = some (s_spec_l1Num) := (stF_mk cs [] 61).trans st_spec_l1Num_
theorem st_spec_l2Any_ : stF (EE []) 39 = some (s_spec_l2Any) := by kernel_rfl
theorem st_spec_l2Any (cs) : stF (EE cs) 39 = some (s_spec_l2Any) := (stF_mk cs [] 39).trans st_spec_l2Any_
theorem st_spec_l24Any_ : stF (EE []) 13 = some (s_spec_l24Any) := by kernel_rfl
theorem st_spec_l24Any (cs) : stF (EE cs) 13 = some (s_spec_l24Any) := (stF_mk cs [] 13).trans st_spec_l24Any_
theorem st_spec_l11Any_ : stF (EE []) 17 = some (s_spec_l11Any) := by kernel_rfl
theorem st_spec_l11Any (cs) : stF (EE cs) 17 = some (s_spec_l11Any) := (stF_mk cs [] 17).trans st_spec_l11Any_
theorem st_spec_DrawInScan_ : stF (EE []) 5 = some (s_spec_DrawInScan) := by kernel_rfl
theorem st_spec_DrawInScan (cs) : stF (EE cs) 5 = some (s_spec_DrawInScan) := (stF_mk cs [] 5).trans st_spec_DrawInScan_
theorem st_impl_in_ : stF (EE []) 28 = some (s_impl_in) := by kernel_rfl
theorem st_impl_in (cs) : stF (EE cs) 28 = some (s_impl_in) := (stF_mk cs [] 28).trans st_impl_in_
theorem st_impl_partsOk_ : stF (EE []) 67 = some (s_impl_partsOk) := by kernel_rfl
theorem st_impl_partsOk (cs) : stF (EE cs) 67 = some (s_impl_partsOk) := (stF_mk cs [] 67).trans st_impl_partsOk_
theorem st_impl_isLetter_ : stF (EE []) 93 = some (s_impl_isLetter) := by kernel_rfl
theorem st_impl_isLetter (cs) : stF (EE cs) 93 = some (s_impl_isLetter) := (stF_mk cs [] 93).trans st_impl_isLetter_
theorem st_impl_isDigit_ : stF (EE []) 94 = some (s_impl_isDigit) := by kernel_rfl
theorem st_impl_isDigit (cs) : stF (EE cs) 94 = some (s_impl_isDigit) := (stF_mk cs [] 94).trans st_impl_isDigit_
theorem st_impl_nameOk_ : stF (EE []) 89 = some (s_impl_nameOk) := by kernel_rfl
theorem st_impl_nameOk (cs) : stF (EE cs) 89 = some (s_impl_nameOk) := (stF_mk cs [] 89).trans st_impl_nameOk_
theorem st_impl_isFree_ : stF (EE []) 83 = some (s_impl_isFree) := by kernel_rfl
theorem st_impl_isFree (cs) : stF (EE cs) 83 = some (s_impl_isFree) := (stF_mk cs [] 83).trans st_impl_isFree_
theorem st_impl_namesOk_ : stF (EE []) 65 = some (s_impl_namesOk) := by kernel_rfl
theorem st_impl_namesOk (cs) : stF (EE cs) 65 = some (s_impl_namesOk) := (stF_mk cs [] 65).trans st_impl_namesOk_
theorem st_impl_twice_ : stF (EE []) 66 = some (s_impl_twice) := by kernel_rfl
theorem st_impl_twice (cs) : stF (EE cs) 66 = some (s_impl_twice) := (stF_mk cs [] 66).trans st_impl_twice_
theorem st_impl_CheckDef_ : stF (EE []) 43 = some (s_impl_CheckDef) := by kernel_rfl
theorem st_impl_CheckDef (cs) : stF (EE cs) 43 = some (s_impl_CheckDef) := (stF_mk cs [] 43).trans st_impl_CheckDef_
theorem st_impl_FirstBad_ : stF (EE []) 53 = some (s_impl_FirstBad) := by kernel_rfl
theorem st_impl_FirstBad (cs) : stF (EE cs) 53 = some (s_impl_FirstBad) := (stF_mk cs [] 53).trans st_impl_FirstBad_
theorem st_impl_hasIndex_ : stF (EE []) 27 = some (s_impl_hasIndex) := by kernel_rfl
theorem st_impl_hasIndex (cs) : stF (EE cs) 27 = some (s_impl_hasIndex) := (stF_mk cs [] 27).trans st_impl_hasIndex_
theorem st_impl_partsOf_ : stF (EE []) 68 = some (s_impl_partsOf) := by kernel_rfl
theorem st_impl_partsOf (cs) : stF (EE cs) 68 = some (s_impl_partsOf) := (stF_mk cs [] 68).trans st_impl_partsOf_
theorem st_impl_PrimaryPlan_ : stF (EE []) 44 = some (s_impl_PrimaryPlan) := by kernel_rfl
theorem st_impl_PrimaryPlan (cs) : stF (EE cs) 44 = some (s_impl_PrimaryPlan) := (stF_mk cs [] 44).trans st_impl_PrimaryPlan_
theorem st_impl_IndexPlan_ : stF (EE []) 45 = some (s_impl_IndexPlan) := by kernel_rfl
theorem st_impl_IndexPlan (cs) : stF (EE cs) 45 = some (s_impl_IndexPlan) := (stF_mk cs [] 45).trans st_impl_IndexPlan_
theorem st_impl_planOf_ : stF (EE []) 20 = some (s_impl_planOf) := by kernel_rfl
theorem st_impl_planOf (cs) : stF (EE cs) 20 = some (s_impl_planOf) := (stF_mk cs [] 20).trans st_impl_planOf_
theorem st_impl_ValOk_ : stF (EE []) 77 = some (s_impl_ValOk) := by kernel_rfl
theorem st_impl_ValOk (cs) : stF (EE cs) 77 = some (s_impl_ValOk) := (stF_mk cs [] 77).trans st_impl_ValOk_
theorem st_impl_Fits_ : stF (EE []) 54 = some (s_impl_Fits) := by kernel_rfl
theorem st_impl_Fits (cs) : stF (EE cs) 54 = some (s_impl_Fits) := (stF_mk cs [] 54).trans st_impl_Fits_
theorem st_impl_FitsAll_ : stF (EE []) 29 = some (s_impl_FitsAll) := by kernel_rfl
theorem st_impl_FitsAll (cs) : stF (EE cs) 29 = some (s_impl_FitsAll) := (stF_mk cs [] 29).trans st_impl_FitsAll_
theorem st_impl_ScanOk_ : stF (EE []) 9 = some (s_impl_ScanOk) := by kernel_rfl
theorem st_impl_ScanOk (cs) : stF (EE cs) 9 = some (s_impl_ScanOk) := (stF_mk cs [] 9).trans st_impl_ScanOk_
theorem st_impl_RowPlan_ : stF (EE []) 19 = some (s_impl_RowPlan) := by kernel_rfl
theorem st_impl_RowPlan (cs) : stF (EE cs) 19 = some (s_impl_RowPlan) := (stF_mk cs [] 19).trans st_impl_RowPlan_
theorem st_impl_PartOk_ : stF (EE []) 64 = some (s_impl_PartOk) := by kernel_rfl
theorem st_impl_PartOk (cs) : stF (EE cs) 64 = some (s_impl_PartOk) := (stF_mk cs [] 64).trans st_impl_PartOk_
theorem st_impl_PlanOk_ : stF (EE []) 42 = some (s_impl_PlanOk) := by kernel_rfl
theorem st_impl_PlanOk (cs) : stF (EE cs) 42 = some (s_impl_PlanOk) := (stF_mk cs [] 42).trans st_impl_PlanOk_
theorem st_impl_RowOk_ : stF (EE []) 18 = some (s_impl_RowOk) := by kernel_rfl
theorem st_impl_RowOk (cs) : stF (EE cs) 18 = some (s_impl_RowOk) := (stF_mk cs [] 18).trans st_impl_RowOk_
theorem st_impl_Pick_ : stF (EE []) 21 = some (s_impl_Pick) := by kernel_rfl
theorem st_impl_Pick (cs) : stF (EE cs) 21 = some (s_impl_Pick) := (stF_mk cs [] 21).trans st_impl_Pick_
theorem st_impl_LessVal_ : stF (EE []) 69 = some (s_impl_LessVal) := by kernel_rfl
theorem st_impl_LessVal (cs) : stF (EE cs) 69 = some (s_impl_LessVal) := (stF_mk cs [] 69).trans st_impl_LessVal_
theorem st_impl_LessPart_ : stF (EE []) 46 = some (s_impl_LessPart) := by kernel_rfl
theorem st_impl_LessPart (cs) : stF (EE cs) 46 = some (s_impl_LessPart) := (stF_mk cs [] 46).trans st_impl_LessPart_
theorem st_impl_LessKey_ : stF (EE []) 22 = some (s_impl_LessKey) := by kernel_rfl
theorem st_impl_LessKey (cs) : stF (EE cs) 22 = some (s_impl_LessKey) := (stF_mk cs [] 22).trans st_impl_LessKey_
theorem st_impl_SameRow_ : stF (EE []) 23 = some (s_impl_SameRow) := by kernel_rfl
theorem st_impl_SameRow (cs) : stF (EE cs) 23 = some (s_impl_SameRow) := (stF_mk cs [] 23).trans st_impl_SameRow_
theorem st_impl_InScan_ : stF (EE []) 6 = some (s_impl_InScan) := by kernel_rfl
theorem st_impl_InScan (cs) : stF (EE cs) 6 = some (s_impl_InScan) := (stF_mk cs [] 6).trans st_impl_InScan_
theorem st_spec_DrawScanOk_ : stF (EE []) 7 = some (s_spec_DrawScanOk) := by kernel_rfl
theorem st_spec_DrawScanOk (cs) : stF (EE cs) 7 = some (s_spec_DrawScanOk) := (stF_mk cs [] 7).trans st_spec_DrawScanOk_
theorem st_spec_l11There_ : stF (EE []) 30 = some (s_spec_l11There) := by kernel_rfl
theorem st_spec_l11There (cs) : stF (EE cs) 30 = some (s_spec_l11There) := (stF_mk cs [] 30).trans st_spec_l11There_
theorem st_spec_ValOk_ : stF (EE []) 79 = some (s_spec_ValOk) := by kernel_rfl
theorem st_spec_ValOk (cs) : stF (EE cs) 79 = some (s_spec_ValOk) := (stF_mk cs [] 79).trans st_spec_ValOk_
theorem st_spec_Fits_ : stF (EE []) 57 = some (s_spec_Fits) := by kernel_rfl
theorem st_spec_Fits (cs) : stF (EE cs) 57 = some (s_spec_Fits) := (stF_mk cs [] 57).trans st_spec_Fits_
theorem st_spec_FitsAll_ : stF (EE []) 32 = some (s_spec_FitsAll) := by kernel_rfl
theorem st_spec_FitsAll (cs) : stF (EE cs) 32 = some (s_spec_FitsAll) := (stF_mk cs [] 32).trans st_spec_FitsAll_
theorem st_spec_ScanOk_ : stF (EE []) 10 = some (s_spec_ScanOk) := by kernel_rfl
theorem st_spec_ScanOk (cs) : stF (EE cs) 10 = some (s_spec_ScanOk) := (stF_mk cs [] 10).trans st_spec_ScanOk_
theorem st_spec_RowPlan_ : stF (EE []) 25 = some (s_spec_RowPlan) := by kernel_rfl
theorem st_spec_RowPlan (cs) : stF (EE cs) 25 = some (s_spec_RowPlan) := (stF_mk cs [] 25).trans st_spec_RowPlan_
theorem st_spec_PartOk_ : stF (EE []) 70 = some (s_spec_PartOk) := by kernel_rfl
theorem st_spec_PartOk (cs) : stF (EE cs) 70 = some (s_spec_PartOk) := (stF_mk cs [] 70).trans st_spec_PartOk_
theorem st_spec_PlanOk_ : stF (EE []) 47 = some (s_spec_PlanOk) := by kernel_rfl
theorem st_spec_PlanOk (cs) : stF (EE cs) 47 = some (s_spec_PlanOk) := (stF_mk cs [] 47).trans st_spec_PlanOk_
theorem st_spec_RowOk_ : stF (EE []) 24 = some (s_spec_RowOk) := by kernel_rfl
theorem st_spec_RowOk (cs) : stF (EE cs) 24 = some (s_spec_RowOk) := (stF_mk cs [] 24).trans st_spec_RowOk_
theorem st_spec_SameRow_ : stF (EE []) 51 = some (s_spec_SameRow) := by kernel_rfl
theorem st_spec_SameRow (cs) : stF (EE cs) 51 = some (s_spec_SameRow) := (stF_mk cs [] 51).trans st_spec_SameRow_
theorem st_spec_SameVal_ : stF (EE []) 75 = some (s_spec_SameVal) := by kernel_rfl
theorem st_spec_SameVal (cs) : stF (EE cs) 75 = some (s_spec_SameVal) := (stF_mk cs [] 75).trans st_spec_SameVal_
theorem st_spec_LessVal_ : stF (EE []) 87 = some (s_spec_LessVal) := by kernel_rfl
theorem st_spec_LessVal (cs) : stF (EE cs) 87 = some (s_spec_LessVal) := (stF_mk cs [] 87).trans st_spec_LessVal_
theorem st_spec_LessPart_ : stF (EE []) 76 = some (s_spec_LessPart) := by kernel_rfl
theorem st_spec_LessPart (cs) : stF (EE cs) 76 = some (s_spec_LessPart) := (stF_mk cs [] 76).trans st_spec_LessPart_
theorem st_spec_LessKey_ : stF (EE []) 52 = some (s_spec_LessKey) := by kernel_rfl
theorem st_spec_LessKey (cs) : stF (EE cs) 52 = some (s_spec_LessKey) := (stF_mk cs [] 52).trans st_spec_LessKey_
theorem st_spec_l24In_ : stF (EE []) 26 = some (s_spec_l24In) := by kernel_rfl
theorem st_spec_l24In (cs) : stF (EE cs) 26 = some (s_spec_l24In) := (stF_mk cs [] 26).trans st_spec_l24In_
theorem st_spec_InScan_ : stF (EE []) 8 = some (s_spec_InScan) := by kernel_rfl
theorem st_spec_InScan (cs) : stF (EE cs) 8 = some (s_spec_InScan) := (stF_mk cs [] 8).trans st_spec_InScan_
theorem st_laws_FnInScans_ : stF (EE []) 3 = some (s_laws_FnInScans) := by kernel_rfl
theorem st_laws_FnInScans (cs) : stF (EE cs) 3 = some (s_laws_FnInScans) := (stF_mk cs [] 3).trans st_laws_FnInScans_
theorem entered : entB Tryz.prog isC = true := by kernel_rfl
end Go.Proofs.YtfjkmpmjohojpaaGreatDoor.Ij
namespace Go.Proofs.YtfjkmpmjohojpaaGreatDoor.Ij
open Go Go.RowKit Go.Ev
set_option linter.unusedSimpArgs false
set_option linter.unusedVariables false
set_option maxHeartbeats 1600000
structure TVal where
  fK : Int
  fN : Int
  fS : List UInt8
def TVal.row (v : TVal) : List AV := [.int .i64 v.fK, .int .i64 v.fN, .str v.fS]
theorem TVal.inj (a b : TVal) (h : a.row = b.row) : a = b := by
  obtain ⟨aK, aN, aS⟩ := a
  obtain ⟨bK, bN, bS⟩ := b
  simp only [TVal.row, List.cons.injEq, AV.int.injEq, AV.str.injEq, true_and, and_true] at h
  obtain ⟨h0, h1, h2⟩ := h
  subst h0
  subst h1
  subst h2
  rfl
def tVal : TD TVal where
  row := TVal.row
  enc v := .agg v.row
  sz := 3
  one := false
  cost v := v.fS.length
  fits v := v.fS.length ≤ 9223372036854775807
  ok v := intT.ok v.fK ∧ intT.ok v.fN
  len _ := rfl
  pos := by decide
  inj := TVal.inj
  enc1 h := by cases h
  encA _ _ := rfl
  frz v c hc := by
    simp only [TVal.row, List.mem_cons, List.not_mem_nil, or_false] at hc
    rcases hc with rfl | rfl | rfl <;> exact ⟨rfl, rfl⟩
  fit v h := by omega
  dep := 0
  okd v c hc := by
    simp only [TVal.row, List.mem_cons, List.not_mem_nil, or_false] at hc
    rcases hc with rfl | rfl | rfl
    · exact okV.mono (n := 0) rfl (Nat.zero_le _)
    · exact okV.mono (n := 0) rfl (Nat.zero_le _)
    · exact okV.mono (n := 0) rfl (Nat.zero_le _)
theorem tVal_enc (v : TVal) : tVal.enc v = .agg v.row := rfl
theorem tVal_row : tVal.row = TVal.row := rfl
attribute [go_sem] tVal_enc tVal_row
structure TCol where
  fName : List UInt8
  fType : Int
  fNull : Bool
def TCol.row (v : TCol) : List AV := [.str v.fName, .int .i64 v.fType, .bool v.fNull]
theorem TCol.inj (a b : TCol) (h : a.row = b.row) : a = b := by
  obtain ⟨aName, aType, aNull⟩ := a
  obtain ⟨bName, bType, bNull⟩ := b
  simp only [TCol.row, List.cons.injEq, AV.int.injEq, AV.str.injEq, AV.bool.injEq, true_and, and_true] at h
  obtain ⟨h0, h1, h2⟩ := h
  subst h0
  subst h1
  subst h2
  rfl
def tCol : TD TCol where
  row := TCol.row
  enc v := .agg v.row
  sz := 3
  one := false
  cost v := v.fName.length
  fits v := v.fName.length ≤ 9223372036854775807
  ok v := intT.ok v.fType
  len _ := rfl
  pos := by decide
  inj := TCol.inj
  enc1 h := by cases h
  encA _ _ := rfl
  frz v c hc := by
    simp only [TCol.row, List.mem_cons, List.not_mem_nil, or_false] at hc
    rcases hc with rfl | rfl | rfl <;> exact ⟨rfl, rfl⟩
  fit v h := by omega
  dep := 0
  okd v c hc := by
    simp only [TCol.row, List.mem_cons, List.not_mem_nil, or_false] at hc
    rcases hc with rfl | rfl | rfl
    · exact okV.mono (n := 0) rfl (Nat.zero_le _)
    · exact okV.mono (n := 0) rfl (Nat.zero_le _)
    · exact okV.mono (n := 0) rfl (Nat.zero_le _)
theorem tCol_enc (v : TCol) : tCol.enc v = .agg v.row := rfl
theorem tCol_row : tCol.row = TCol.row := rfl
attribute [go_sem] tCol_enc tCol_row
structure TBy where
  fCol : Int
  fDesc : Bool
def TBy.row (v : TBy) : List AV := [.int .i64 v.fCol, .bool v.fDesc]
theorem TBy.inj (a b : TBy) (h : a.row = b.row) : a = b := by
  obtain ⟨aCol, aDesc⟩ := a
  obtain ⟨bCol, bDesc⟩ := b
  simp only [TBy.row, List.cons.injEq, AV.int.injEq, AV.bool.injEq, true_and, and_true] at h
  obtain ⟨h0, h1⟩ := h
  subst h0
  subst h1
  rfl
def tBy : TD TBy where
  row := TBy.row
  enc v := .agg v.row
  sz := 2
  one := false
  cost _ := 0
  fits _ := True
  ok v := intT.ok v.fCol
  len _ := rfl
  pos := by decide
  inj := TBy.inj
  enc1 h := by cases h
  encA _ _ := rfl
  frz v c hc := by
    simp only [TBy.row, List.mem_cons, List.not_mem_nil, or_false] at hc
    rcases hc with rfl | rfl <;> exact ⟨rfl, rfl⟩
  fit _ _ := trivial
  dep := 0
  okd v c hc := by
    simp only [TBy.row, List.mem_cons, List.not_mem_nil, or_false] at hc
    rcases hc with rfl | rfl
    · exact okV.mono (n := 0) rfl (Nat.zero_le _)
    · exact okV.mono (n := 0) rfl (Nat.zero_le _)
theorem tBy_enc (v : TBy) : tBy.enc v = .agg v.row := rfl
theorem tBy_row : tBy.row = TBy.row := rfl
attribute [go_sem] tBy_enc tBy_row
structure TIndex where
  fName : List UInt8
  fUnique : Bool
  fParts : List (TBy)
def TIndex.row (v : TIndex) : List AV := [.str v.fName, .bool v.fUnique, .imm (v.fParts.map TBy.row)]
theorem TIndex.inj (a b : TIndex) (h : a.row = b.row) : a = b := by
  obtain ⟨aName, aUnique, aParts⟩ := a
  obtain ⟨bName, bUnique, bParts⟩ := b
  simp only [TIndex.row, List.cons.injEq, AV.str.injEq, AV.bool.injEq, AV.imm.injEq, and_true] at h
  obtain ⟨h0, h1, h2⟩ := h
  have h2 := TD.map_inj tBy h2
  subst h0
  subst h1
  subst h2
  rfl
def tIndex : TD TIndex where
  row := TIndex.row
  enc v := .agg v.row
  sz := 3
  one := false
  cost v := v.fName.length + (sliceT tBy).cost v.fParts
  fits v := v.fName.length ≤ 9223372036854775807 ∧ (sliceT tBy).fits v.fParts
  ok v := (sliceT tBy).ok v.fParts
  len _ := rfl
  pos := by decide
  inj := TIndex.inj
  enc1 h := by cases h
  encA _ _ := rfl
  frz v c hc := by
    simp only [TIndex.row, List.mem_cons, List.not_mem_nil, or_false] at hc
    rcases hc with rfl | rfl | rfl <;> exact ⟨rfl, rfl⟩
  fit v h := ⟨by omega, (sliceT tBy).fit _ (by omega)⟩
  dep := 1
  okd v c hc := by
    simp only [TIndex.row, List.mem_cons, List.not_mem_nil, or_false] at hc
    rcases hc with rfl | rfl | rfl
    · exact okV.mono (n := 0) rfl (Nat.zero_le _)
    · exact okV.mono (n := 0) rfl (Nat.zero_le _)
    · exact (((sliceT tBy)).okd v.fParts _ (by exact List.mem_singleton.2 rfl)).mono (by decide)
theorem tIndex_enc (v : TIndex) : tIndex.enc v = .agg v.row := rfl
theorem tIndex_row : tIndex.row = TIndex.row := rfl
attribute [go_sem] tIndex_enc tIndex_row
structure TDef where
  fName : List UInt8
  fCols : List (TCol)
  fPrimary : List (TBy)
  fIndexes : List (TIndex)
def TDef.row (v : TDef) : List AV := [.str v.fName, .imm (v.fCols.map TCol.row), .imm (v.fPrimary.map TBy.row), .imm (v.fIndexes.map TIndex.row)]
theorem TDef.inj (a b : TDef) (h : a.row = b.row) : a = b := by
  obtain ⟨aName, aCols, aPrimary, aIndexes⟩ := a
  obtain ⟨bName, bCols, bPrimary, bIndexes⟩ := b
  simp only [TDef.row, List.cons.injEq, AV.str.injEq, AV.imm.injEq, and_true] at h
  obtain ⟨h0, h1, h2, h3⟩ := h
  have h1 := TD.map_inj tCol h1
  have h2 := TD.map_inj tBy h2
  have h3 := TD.map_inj tIndex h3
  subst h0
  subst h1
  subst h2
  subst h3
  rfl
def tDef : TD TDef where
  row := TDef.row
  enc v := .agg v.row
  sz := 4
  one := false
  cost v := v.fName.length + (sliceT tCol).cost v.fCols + (sliceT tBy).cost v.fPrimary + (sliceT tIndex).cost v.fIndexes
  fits v := v.fName.length ≤ 9223372036854775807 ∧ (sliceT tCol).fits v.fCols ∧ (sliceT tBy).fits v.fPrimary ∧ (sliceT tIndex).fits v.fIndexes
  ok v := (sliceT tCol).ok v.fCols ∧ (sliceT tBy).ok v.fPrimary ∧ (sliceT tIndex).ok v.fIndexes
  len _ := rfl
  pos := by decide
  inj := TDef.inj
  enc1 h := by cases h
  encA _ _ := rfl
  frz v c hc := by
    simp only [TDef.row, List.mem_cons, List.not_mem_nil, or_false] at hc
    rcases hc with rfl | rfl | rfl | rfl <;> exact ⟨rfl, rfl⟩
  fit v h := ⟨by omega, (sliceT tCol).fit _ (by omega), (sliceT tBy).fit _ (by omega), (sliceT tIndex).fit _ (by omega)⟩
  dep := 2
  okd v c hc := by
    simp only [TDef.row, List.mem_cons, List.not_mem_nil, or_false] at hc
    rcases hc with rfl | rfl | rfl | rfl
    · exact okV.mono (n := 0) rfl (Nat.zero_le _)
    · exact (((sliceT tCol)).okd v.fCols _ (by exact List.mem_singleton.2 rfl)).mono (by decide)
    · exact (((sliceT tBy)).okd v.fPrimary _ (by exact List.mem_singleton.2 rfl)).mono (by decide)
    · exact (((sliceT tIndex)).okd v.fIndexes _ (by exact List.mem_singleton.2 rfl)).mono (by decide)
theorem tDef_enc (v : TDef) : tDef.enc v = .agg v.row := rfl
theorem tDef_row : tDef.row = TDef.row := rfl
attribute [go_sem] tDef_enc tDef_row
structure TScan where
  fT : Int
  fI : Int
  fLo : List (TVal)
  fHi : List (TVal)
  fLoEx : Bool
  fHiEx : Bool
  fRev : Bool
  fLimit : Int
def TScan.row (v : TScan) : List AV := [.int .i64 v.fT, .int .i64 v.fI, .imm (v.fLo.map TVal.row), .imm (v.fHi.map TVal.row), .bool v.fLoEx, .bool v.fHiEx, .bool v.fRev, .int .i64 v.fLimit]
theorem TScan.inj (a b : TScan) (h : a.row = b.row) : a = b := by
  obtain ⟨aT, aI, aLo, aHi, aLoEx, aHiEx, aRev, aLimit⟩ := a
  obtain ⟨bT, bI, bLo, bHi, bLoEx, bHiEx, bRev, bLimit⟩ := b
  simp only [TScan.row, List.cons.injEq, AV.int.injEq, AV.bool.injEq, AV.imm.injEq, true_and, and_true] at h
  obtain ⟨h0, h1, h2, h3, h4, h5, h6, h7⟩ := h
  have h2 := TD.map_inj tVal h2
  have h3 := TD.map_inj tVal h3
  subst h0
  subst h1
  subst h2
  subst h3
  subst h4
  subst h5
  subst h6
  subst h7
  rfl
def tScan : TD TScan where
  row := TScan.row
  enc v := .agg v.row
  sz := 8
  one := false
  cost v := (sliceT tVal).cost v.fLo + (sliceT tVal).cost v.fHi
  fits v := (sliceT tVal).fits v.fLo ∧ (sliceT tVal).fits v.fHi
  ok v := intT.ok v.fT ∧ intT.ok v.fI ∧ (sliceT tVal).ok v.fLo ∧ (sliceT tVal).ok v.fHi ∧ intT.ok v.fLimit
  len _ := rfl
  pos := by decide
  inj := TScan.inj
  enc1 h := by cases h
  encA _ _ := rfl
  frz v c hc := by
    simp only [TScan.row, List.mem_cons, List.not_mem_nil, or_false] at hc
    rcases hc with rfl | rfl | rfl | rfl | rfl | rfl | rfl | rfl <;> exact ⟨rfl, rfl⟩
  fit v h := ⟨(sliceT tVal).fit _ (by omega), (sliceT tVal).fit _ (by omega)⟩
  dep := 1
  okd v c hc := by
    simp only [TScan.row, List.mem_cons, List.not_mem_nil, or_false] at hc
    rcases hc with rfl | rfl | rfl | rfl | rfl | rfl | rfl | rfl
    · exact okV.mono (n := 0) rfl (Nat.zero_le _)
    · exact okV.mono (n := 0) rfl (Nat.zero_le _)
    · exact (((sliceT tVal)).okd v.fLo _ (by exact List.mem_singleton.2 rfl)).mono (by decide)
    · exact (((sliceT tVal)).okd v.fHi _ (by exact List.mem_singleton.2 rfl)).mono (by decide)
    · exact okV.mono (n := 0) rfl (Nat.zero_le _)
    · exact okV.mono (n := 0) rfl (Nat.zero_le _)
    · exact okV.mono (n := 0) rfl (Nat.zero_le _)
    · exact okV.mono (n := 0) rfl (Nat.zero_le _)
theorem tScan_enc (v : TScan) : tScan.enc v = .agg v.row := rfl
theorem tScan_row : tScan.row = TScan.row := rfl
attribute [go_sem] tScan_enc tScan_row
structure TPart where
  fCol : Int
  fType : Int
  fNull : Bool
  fDesc : Bool
def TPart.row (v : TPart) : List AV := [.int .i64 v.fCol, .int .i64 v.fType, .bool v.fNull, .bool v.fDesc]
theorem TPart.inj (a b : TPart) (h : a.row = b.row) : a = b := by
  obtain ⟨aCol, aType, aNull, aDesc⟩ := a
  obtain ⟨bCol, bType, bNull, bDesc⟩ := b
  simp only [TPart.row, List.cons.injEq, AV.int.injEq, AV.bool.injEq, true_and, and_true] at h
  obtain ⟨h0, h1, h2, h3⟩ := h
  subst h0
  subst h1
  subst h2
  subst h3
  rfl
def tPart : TD TPart where
  row := TPart.row
  enc v := .agg v.row
  sz := 4
  one := false
  cost _ := 0
  fits _ := True
  ok v := intT.ok v.fCol ∧ intT.ok v.fType
  len _ := rfl
  pos := by decide
  inj := TPart.inj
  enc1 h := by cases h
  encA _ _ := rfl
  frz v c hc := by
    simp only [TPart.row, List.mem_cons, List.not_mem_nil, or_false] at hc
    rcases hc with rfl | rfl | rfl | rfl <;> exact ⟨rfl, rfl⟩
  fit _ _ := trivial
  dep := 0
  okd v c hc := by
    simp only [TPart.row, List.mem_cons, List.not_mem_nil, or_false] at hc
    rcases hc with rfl | rfl | rfl | rfl
    · exact okV.mono (n := 0) rfl (Nat.zero_le _)
    · exact okV.mono (n := 0) rfl (Nat.zero_le _)
    · exact okV.mono (n := 0) rfl (Nat.zero_le _)
    · exact okV.mono (n := 0) rfl (Nat.zero_le _)
theorem tPart_enc (v : TPart) : tPart.enc v = .agg v.row := rfl
theorem tPart_row : tPart.row = TPart.row := rfl
attribute [go_sem] tPart_enc tPart_row
end Go.Proofs.YtfjkmpmjohojpaaGreatDoor.Ij
namespace Go.Proofs.YtfjkmpmjohojpaaGreatDoor.Ij
open Go Go.RowKit Go.Ev
set_option linter.unusedSimpArgs false
set_option linter.unusedVariables false
set_option maxHeartbeats 1600000
def inR (x a b : Int) : Bool := decide (a ≤ x) && decide (x ≤ b)
theorem inR_lt {t n : Int} (h : inR t 0 (n - 1) = true) : 0 ≤ t ∧ t < n := by
  unfold inR at h
  simp at h
  omega
theorem inR_nat {t : Int} {n : Nat} (h : inR t 0 ((n : Int) - 1) = true) : 0 ≤ t ∧ t.toNat < n := by
  have := inR_lt h
  omega
def valOk (v : TVal) : Bool :=
  if v.fK = 0 then v.fN == 0 && v.fS == [] else if v.fK = 1 then inR v.fN (-2147483648) 2147483647 && v.fS == [] else if v.fK = 2 then inR v.fN (-1000000000000000) 1000000000000000 && v.fS == []
  else if v.fK = 3 then decide ((v.fS.length : Int) ≤ 30) && v.fN == 0 else if v.fK = 4 then inR v.fN 0 1 && v.fS == [] else false
end Go.Proofs.YtfjkmpmjohojpaaGreatDoor.Ij
namespace Go.Proofs.YtfjkmpmjohojpaaGreatDoor.Ij
open Go Go.RowKit Go.Ev
set_option linter.unusedSimpArgs false
set_option linter.unusedVariables false
set_option maxHeartbeats 1600000
theorem vFill0 : sFill [.int .i64 0, .int .i64 0, .str []] [] = some [.int .i64 0, .int .i64 0, .str []] := rfl
theorem vFillK (k : Int) : sFill [.int .i64 0, .int .i64 0, .str []] [(0, 1, .int .i64 k)] = some [.int .i64 k, .int .i64 0, .str []] := rfl
def NumB (n : Int) : AV → Hp → Prop := NumP fun x => if n ≤ 0 then x = 0 else 0 ≤ x ∧ x < n
def BoolP : AV → Hp → Prop := fun v _ => ∃ b, v = .bool b
def okVal (t : TVal) : Prop := t.fS.length ≤ 40 ∧ -9223372036854775808 ≤ t.fK ∧ t.fK ≤ 9223372036854775807 ∧ -9223372036854775808 ≤ t.fN ∧ t.fN ≤ 9223372036854775807
def ValP : AV → Hp → Prop := fun v _ => ∃ t : TVal, v = .agg t.row ∧ okVal t
theorem sMake_z {m : Nat} {h : Hp} (hm : m ≤ 1048576) : sMake false 1 [.int .u8 0] (.int .i64 (m : Int)) (.int .i64 (m : Int)) h = some (.app h.nx (List.replicate m [.int .u8 0]), h.newApp m 1) := by
  simp only [sMake]
  rw [if_pos ⟨by omega, Int.le_refl _, by omega, by unfold room; omega⟩]
  rfl
theorem zeroBytes : ∀ m : Nat, rowsBytes (List.replicate m [.int .u8 0]) = some (List.replicate m 0)
  | 0 => rfl
  | m + 1 => by
    simp only [List.replicate_succ, rowsBytes, zeroBytes m]
    rfl
noncomputable def C_laws_big := c1 (sliceT u8T) (fun (c : List (UInt8)) => True) (.bool) fun (c : List (UInt8)) => decide (1048576 < (c.length : Int))
theorem C_laws_big_eq (c : List (UInt8)) (h : True) : C_laws_big [.imm (c.map u8T.row)] = some (.bool ((decide (1048576 < (c.length : Int))))) := c1_eq (sliceT u8T) h
theorem ok_laws_big {WI : World → Prop} (hs : Stable WI) (cs) (hT : TOK (EE cs) WI) : PureOK Tryz.prog WI 4 C_laws_big := by
  refine pure1 (E := EE cs) hT hs (by rw [st_laws_big]; rfl) fun c hp => out_wp (n := 0) (st_laws_big cs) ?_
  simp only [go_sem, Nat.reduceBEq, s_laws_big, List.length_map]
theorem L_spec_l1New (cs) {code : List UInt8} (hcode : code.length ≤ 1048576) : ∀ (rest pre : List UInt8) (e : Ps) (h : Hp) (x : Int), code = pre ++ rest → e 0 = .imm (code.map u8T.row) → e 4 = .int .i64 pre.length → e 3 = .int .i64 x →
    WL (EE cs) s_spec_l1New_L0 e h fun y e' h' => y = .exit 0 ∧ h' = h ∧ e' 0 = .imm (code.map u8T.row) ∧ ∃ x : Int, e' 3 = .int .i64 x
  | [], pre, e, h, x, hl, e0, e4, e3 => by
    refine .step (wp_sound _ _ _ _ ?_)
    simp only [go_sem, Nat.reduceBEq, s_spec_l1New_L0, e0, e4, e3, lt_end hl]
    exact ⟨x, rfl⟩
  | b :: rest, pre, e, h, x, hl, e0, e4, e3 => by
    have hlt : pre.length < code.length := by rw [hl]; simp
    obtain ⟨fA, hA⟩ : ∃ f : Int → Int, ∀ a h, kBin .and (.int .i64 a) (.int .i64 1073741823) h = some (.int .i64 (f a), h) := ⟨_, fun a h => kAnd64 a 1073741823 h⟩
    have hw : IntKind.wrap .i64 ((pre.length : Int) + 1) = (pre.length : Int) + 1 := wrapId (by omega) (by omega)
    by_cases h4 : (pre.length : Int) < 4000
    · refine .step (.mono (wp_sound _ _ _ (fun y e1 h1 => y = .norm ∧ h1 = h ∧ e1 0 = .imm (code.map u8T.row) ∧ e1 4 = .int .i64 ((pre.length : Int) + 1) ∧ ∃ x : Int, e1 3 = .int .i64 x) ?_) ?_)
      · simp only [go_sem, Nat.reduceBEq, s_spec_l1New_L0, e0, e4, e3, lt_map hl, h4, kIa_map (row := u8T.row) (sz := 1) hl rfl, u8T_row, hA, hw]
        exact ⟨_, rfl⟩
      · rintro _ e1 _ ⟨rfl, rfl, q0, q4, x1, q3⟩
        exact L_spec_l1New cs hcode rest (pre ++ [b]) e1 _ x1 (by rw [hl]; simp) q0 (by rw [q4]; simp) q3
    · refine .step (wp_sound _ _ _ _ ?_)
      simp only [go_sem, Nat.reduceBEq, s_spec_l1New_L0, e0, e4, e3, lt_map hl, h4]
      exact ⟨x, rfl⟩
/-- A new cursor. -/
theorem run_spec_l1New (cs) (code : List UInt8) (h : Hp) (hcode : code.length ≤ 1048576) : ∃ r h', RunF (EE cs) 11 [.imm (code.map u8T.row)] h (.ptr r 0, h') ∧ Cur code r h' ∧ h.nx ≤ r ∧ h.nx ≤ h'.nx ∧ (∀ q, q < h.nx → h'.hp q = h.hp q) ∧ ∀ q, q < h.nx → h'.ap q = h.ap q := by
  have : ∃ rr, RunF (EE cs) 11 [.imm (code.map u8T.row)] h rr ∧ ∃ x : Int, rr = (.ptr h.nx 0, h.new [.imm (code.map u8T.row), .int .i64 0, .int .i64 x]) := by
    refine run_wp (st_spec_l1New cs) ?_
    have hw : IntKind.wrap .i64 (758758 + (code.length : Int)) = 758758 + (code.length : Int) := wrapId (by omega) (by omega)
    simp only [go_sem, Nat.reduceBEq, s_spec_l1New, List.length_map, hw]
    refine (L_spec_l1New cs hcode code [] _ h (758758 + (code.length : Int)) rfl (by simp only [go_sem, Nat.reduceBEq]) (by simp only [go_sem, Nat.reduceBEq, List.length_nil]) (by simp only [go_sem, Nat.reduceBEq]) ).mono ?_
    rintro y e' h' ⟨rfl, rfl, q0, x, q3⟩
    have hf : sFill [.snil, .int .i64 0, .int .i64 0] [(0, 1, .imm (code.map u8T.row)), (2, 1, .int .i64 x)] = some [.imm (code.map u8T.row), .int .i64 0, .int .i64 x] := rfl
    simp only [go_sem, Nat.reduceBEq, q0, q3, hf]
    exact ⟨fun _ e => (by cases e), _, rfl, x, rfl⟩
  obtain ⟨rr, h1, x, rfl⟩ := this
  exact ⟨h.nx, _, h1, ⟨by simp [Hp.new], 0, x, by simp [Hp.new], by omega, by omega⟩, Nat.le_refl _, by simp [Hp.new], fun q hq => by simp only [Hp.new]; rw [if_neg (by omega)], fun q hq => rfl⟩
theorem dr_spec_l1Byte (cs) : DrawV (EE cs) 60 [] (NumP fun x => 0 ≤ x ∧ x ≤ 255) := draw_of (st_spec_l1Byte cs) fun code r h hcode hcur => by
  obtain ⟨hr, i, x0, hh, hi0, hi1⟩ := hcur
  obtain ⟨fA, hA1, hA2⟩ : ∃ f : Int → Int, (∀ a, 0 ≤ f a ∧ f a ≤ 255) ∧ ∀ a h, kBin .and (.int .i64 a) (.int .i64 255) h = some (.int .i64 (f a), h) := ⟨low255, low255_rng, kAnd255⟩
  obtain ⟨fS, hS⟩ : ∃ f : Int → Int, ∀ a h, kBin .shr (.int .i64 a) (.int .u64 33) h = some (.int .i64 (f a), h) := ⟨shrI 33, kShr33⟩
  obtain ⟨fT, hT⟩ : ∃ f : Int → Int, ∀ a h, kBin .shr (.int .i64 a) (.int .u64 47) h = some (.int .i64 (f a), h) := ⟨shrI 47, kShr47⟩
  obtain ⟨fX, hX⟩ : ∃ f : Int → Int → Int, ∀ a b h, kBin .xor (.int .i64 a) (.int .i64 b) h = some (.int .i64 (f a b), h) := ⟨xorI, kXor64⟩
  by_cases hlt : i < (code.length : Int)
  · obtain ⟨b, hb⟩ : ∃ b, code[i.toNat]? = some b := ⟨_, List.getElem?_eq_getElem (by omega)⟩
    have hw : IntKind.wrap .i64 (i + 1) = i + 1 := wrapId (by omega) (by omega)
    have hia := fun h => kIa_nth (h := h) (row := u8T.row) (sz := 1) hi0 hb rfl
    simp only [go_sem, kSt_ptr, Nat.reduceBEq, Nat.reduceAdd, Nat.reduceLeDiff, s_spec_l1Byte, hh, hlt, hia, u8T_row, hS, hT, hX, hA2, hw]
    refine ⟨fun _ e => (by cases e), _, rfl, ⟨_, rfl, hA1 _⟩, ⟨⟨hr, i + 1, _, if_pos rfl, by omega, by omega⟩, fun q hq hqr => by simp [hqr], fun _ _ => rfl, Nat.le_refl _⟩⟩
  · simp only [go_sem, kSt_ptr, Nat.reduceBEq, Nat.reduceAdd, Nat.reduceLeDiff, s_spec_l1Byte, hh, hlt, hS, hT, hX, hA2]
    refine ⟨fun _ e => (by cases e), _, rfl, ⟨_, rfl, hA1 _⟩, ⟨⟨hr, i, _, if_pos rfl, by omega, by omega⟩, fun q hq hqr => by simp [hqr], fun _ _ => rfl, Nat.le_refl _⟩⟩
end Go.Proofs.YtfjkmpmjohojpaaGreatDoor.Ij
namespace Go.Proofs.YtfjkmpmjohojpaaGreatDoor.Ij
open Go Go.RowKit Go.Ev
set_option linter.unusedSimpArgs false
set_option linter.unusedVariables false
set_option maxHeartbeats 1600000
theorem dr_spec_l1Below (cs) (n : Int) : DrawV (EE cs) 37 [.int .i64 n] (NumB n) := draw_of (st_spec_l1Below cs) fun code r h hcode hcur => by
  by_cases h0 : n ≤ 0
  · simp only [go_sem, Nat.reduceBEq, s_spec_l1Below, h0]
    exact ⟨fun _ e => (by cases e), _, rfl, ⟨0, rfl, by show (if n ≤ 0 then (0 : Int) = 0 else _); rw [if_pos h0]⟩, cur_refl hcur⟩
  have hne : n ≠ 0 := by omega
  have hrem : ∀ (x : Int) (h : Hp), kBin .rem (.int .i64 x) (.int .i64 n) h = some (.int .i64 (x.tmod n), h) := fun x h => kBin_rem _ _ _ hne
  have fin : ∀ x : Int, 0 ≤ x → (if n ≤ 0 then x.tmod n = 0 else 0 ≤ x.tmod n ∧ x.tmod n < n) := fun x hx => by
    rw [if_neg h0]
    exact ⟨Int.tmod_nonneg n hx, Int.tmod_lt_of_pos x (by omega)⟩
  by_cases h1 : n ≤ 256
  · simp only [go_sem, Nat.reduceBEq, s_spec_l1Below, h0, h1]
    refine hP_draw (dr_spec_l1Byte cs) hcode hcur ?_
    rintro _ ha ⟨x, rfl, hx⟩ hc
    simp only [go_sem, Nat.reduceBEq, hrem]
    exact ⟨fun _ e => (by cases e), _, rfl, ⟨_, rfl, fin x hx.1⟩, hc⟩
  simp only [go_sem, Nat.reduceBEq, s_spec_l1Below, h0, h1]
  refine hP_draw (dr_spec_l1Byte cs) hcode hcur ?_
  rintro _ ha ⟨x, rfl, hx⟩ hc
  simp only [go_sem, Nat.reduceBEq]
  refine hP_draw (dr_spec_l1Byte cs) hcode hc.cur ?_
  rintro _ hb ⟨y, rfl, hy⟩ hc2
  simp only [go_sem, Nat.reduceBEq]
  refine hP_draw (dr_spec_l1Byte cs) hcode hc2.cur ?_
  rintro _ hd ⟨z, rfl, hz⟩ hc3
  have w1 : IntKind.wrap .i64 (x * 65536) = x * 65536 := wrapId (by omega) (by omega)
  have w2 : IntKind.wrap .i64 (y * 256) = y * 256 := wrapId (by omega) (by omega)
  have w3 : IntKind.wrap .i64 (x * 65536 + y * 256) = x * 65536 + y * 256 := wrapId (by omega) (by omega)
  have w4 : IntKind.wrap .i64 (x * 65536 + y * 256 + z) = x * 65536 + y * 256 + z := wrapId (by omega) (by omega)
  simp only [go_sem, Nat.reduceBEq, hrem, w1, w2, w3, w4]
  exact ⟨fun _ e => (by cases e), _, rfl, ⟨_, rfl, fin _ (by omega)⟩, (hc.trans hc2).trans hc3⟩
theorem dr_spec_l1Once (cs) (n : Int) : DrawV (EE cs) 15 [.int .i64 n] BoolP := draw_of (st_spec_l1Once cs) fun code r h hcode hcur => by
  simp only [go_sem, Nat.reduceBEq, s_spec_l1Once]
  refine hP_draw (dr_spec_l1Below cs n) hcode hcur ?_
  rintro _ ha ⟨x, rfl, hx⟩ hc
  simp only [go_sem, Nat.reduceBEq]
  exact ⟨fun _ e => (by cases e), _, rfl, ⟨_, rfl⟩, hc⟩
theorem dr_spec_l1Str (cs) (l : List (List UInt8)) (hl : l ≠ []) (id : Nat) : DrawV (EE cs) 62 [.app id (l.map strT.row)] (StrP (· ∈ l)) := draw_of (st_spec_l1Str cs) fun code r h hcode hcur => by
  have hpos := List.length_pos_iff.2 hl
  simp only [go_sem, Nat.reduceBEq, s_spec_l1Str, List.length_map]
  refine hP_draw (dr_spec_l1Below cs (l.length : Int)) hcode hcur ?_
  rintro _ ha ⟨x, rfl, hx⟩ hc
  have hx : 0 ≤ x ∧ x < (l.length : Int) := by
    have h2 : (if (l.length : Int) ≤ 0 then x = 0 else 0 ≤ x ∧ x < (l.length : Int)) := hx
    rwa [if_neg (by omega)] at h2
  obtain ⟨v, hv⟩ : ∃ v, l[x.toNat]? = some v := ⟨_, List.getElem?_eq_getElem (by omega)⟩
  have hia : ∀ h, kIa 1 (.app id (l.map strT.row)) (.int .i64 x) h = some (.cptr [.str v], h) := fun h => kIa_app hx.1 (by rw [List.getElem?_map, hv]; rfl) rfl
  simp only [go_sem, Nat.reduceBEq, hia]
  exact ⟨fun _ e => (by cases e), _, rfl, ⟨v, rfl, List.mem_of_getElem? hv⟩, hc⟩
def okCol (c : TCol) : Prop := c.fName.length ≤ 8 ∧ 0 ≤ c.fType ∧ c.fType ≤ 9
def okBy (b : TBy) : Prop := 0 ≤ b.fCol ∧ b.fCol ≤ 20
def okIdx (x : TIndex) : Prop := x.fName.length ≤ 8 ∧ x.fParts.length ≤ 2 ∧ ∀ p ∈ x.fParts, okBy p
structure okDef (d : TDef) : Prop where
  name : d.fName.length ≤ 8
  cl : d.fCols.length ≤ 8
  cols : ∀ c ∈ d.fCols, okCol c
  pl : d.fPrimary.length ≤ 4
  prim : ∀ p ∈ d.fPrimary, okBy p
  il : d.fIndexes.length ≤ 3
  idx : ∀ x ∈ d.fIndexes, okIdx x
theorem cost_sum {α : Type} {T : TD α} {k : Nat} : ∀ {l : List α}, (∀ v ∈ l, T.cost v ≤ k) → costL T l ≤ k * l.length
  | [], _ => Nat.zero_le _
  | v :: l, h => by
    have h1 := h v List.mem_cons_self
    have h2 := cost_sum (T := T) (k := k) (l := l) fun x hx => h x (List.mem_cons_of_mem _ hx)
    show T.cost v + costL T l ≤ k * (l.length + 1)
    rw [Nat.mul_add]
    omega
theorem okCol.cost {c : TCol} (h : okCol c) : tCol.cost c ≤ 8 := h.1
theorem cost_bys (l : List TBy) : costL tBy l = 0 := by
  have := cost_sum (T := tBy) (k := 0) (l := l) fun v _ => Nat.le_refl 0
  omega
theorem okIdx.cost {x : TIndex} (h : okIdx x) : tIndex.cost x ≤ 10 := by
  have e : tIndex.cost x = x.fName.length + (x.fParts.length + costL tBy x.fParts) := rfl
  rw [e, cost_bys]
  obtain ⟨h1, h2, _⟩ := h
  omega
theorem okDef.cost {d : TDef} (h : okDef d) : tDef.cost d ≤ 200 := by
  have e : tDef.cost d = d.fName.length + (d.fCols.length + costL tCol d.fCols) + (d.fPrimary.length + costL tBy d.fPrimary) + (d.fIndexes.length + costL tIndex d.fIndexes) := rfl
  have h1 := cost_sum (T := tCol) (k := 8) (l := d.fCols) fun v hv => (h.cols v hv).cost
  have h2 := cost_bys d.fPrimary
  have h3 := cost_sum (T := tIndex) (k := 10) (l := d.fIndexes) fun v hv => (h.idx v hv).cost
  have := h.name; have := h.cl; have := h.pl; have := h.il
  omega
theorem okDef.ok {d : TDef} (h : okDef d) : tDef.ok d := by
  have b : ∀ p : TBy, okBy p → tBy.ok p := fun p hp => (show -9223372036854775808 ≤ p.fCol ∧ p.fCol ≤ 9223372036854775807 from ⟨by have := hp.1; omega, by have := hp.2; omega⟩)
  exact ⟨fun c hc => (show -9223372036854775808 ≤ c.fType ∧ c.fType ≤ 9223372036854775807 from ⟨by have := (h.cols c hc).2.1; omega, by have := (h.cols c hc).2.2; omega⟩), fun p hp => b p (h.prim p hp), fun x hx p hp => b p ((h.idx x hx).2.2 p hp)⟩
theorem goodDefs {s : List TDef} (hl : s.length ≤ 4) (h : ∀ d ∈ s, okDef d) : (sliceT tDef).good s := by
  have h1 := cost_sum (T := tDef) (k := 200) (l := s) fun d hd => (h d hd).cost
  refine ⟨?_, fun d hd => (h d hd).ok⟩
  show s.length + costL tDef s ≤ 1048576
  omega
/-- One or two drawn parts of columns. -/
def BysP : AV → Hp → Prop := fun v h => ∃ l, grows tBy l v h ∧ 1 ≤ l.length ∧ l.length ≤ 2 ∧ ∀ p ∈ l, okBy p
theorem curApps {code : List UInt8} {r : Nat} {h h1 h2 : Hp} (s : CurS code r h h1) (k2 : ∀ q, h2.hp q = h1.hp q) (k3 : h1.nx ≤ h2.nx) (k4 : ∀ q, q < h.nx → h2.ap q = h1.ap q) : CurS code r h h2 :=
  ⟨s.cur.same k3 (k2 r), fun q hq hr => (k2 q).trans (s.hp q hq hr), fun q hq => (k4 q hq).trans (s.ap q hq), Nat.le_trans s.nx k3⟩
theorem sApp_rows {α : Type} {T : TD α} {bt r : Nat} {h : Hp} {l more : List α} {x : AV} (hr : h.hp r = some (l.map T.row).flatten) (hx : rowsIn h T.sz x = some (more.map T.row)) (hb : (l.length + more.length) * bt ≤ room) :
    sApp true bt T.sz (.sl r 0 l.length T.sz) x h = some (.sl h.nx 0 (l ++ more).length T.sz, (h.kill r).new ((l ++ more).map T.row).flatten) := by
  have hh : headLen T.sz (more.map T.row) = true := by
    cases more with
    | nil => rfl
    | cons v r => simp [headLen, T.len]
  have hf : (l.map T.row).flatten.length = l.length * T.sz := by rw [flat_len (T.rows_len l), List.length_map]
  simp only [sApp, hx, Option.bind_some, hh, if_true, and_self, hr, List.length_map, hf, hb, List.map_append, List.flatten_append, List.length_append]
/-- What a growing slice's number is at least. -/
def growsL {α : Type} (T : TD α) (lo : Nat) (l : List α) (v : AV) (h : Hp) : Prop := grows T l v h ∧ ∀ id rows, v = .app id rows → lo ≤ id
theorem growsL.step {α : Type} {T : TD α} {lo : Nat} {l : List α} {v : AV} {h h' : Hp} (g : growsL T lo l v h) (hn : h.nx ≤ h'.nx) (ha : ∀ q, lo ≤ q → q < h.nx → h'.ap q = h.ap q) : growsL T lo l v h' := by
  obtain ⟨g1, g2⟩ := g
  refine ⟨?_, g2⟩
  rcases g1 with g1 | ⟨id, rfl, k2, k3⟩
  · exact .inl g1
  · exact .inr ⟨id, rfl, by rw [ha id (g2 id _ rfl) k3]; exact k2, by omega⟩
/-- A table that nobody else has: its columns in a block. -/
def DefS (lo : Nat) (d : TDef) (v : AV) (h : Hp) : Prop := ∃ b x2 x3, v = .agg [.str d.fName, .sl b 0 d.fCols.length 3, x2, x3] ∧ h.hp b = some (d.fCols.map TCol.row).flatten ∧ lo ≤ b ∧ b < h.nx ∧ growsL tBy lo d.fPrimary x2 h ∧ growsL tIndex lo d.fIndexes x3 h
def names3 : List (List UInt8) := [[97], [98], [99]]
theorem names3_at {i : Nat} (hi : i < 3) : ∃ s : List UInt8, names3[i]? = some s ∧ s.length = 1 := by
  match i, hi with
  | 0, _ => exact ⟨_, rfl, rfl⟩
  | 1, _ => exact ⟨_, rfl, rfl⟩
  | 2, _ => exact ⟨_, rfl, rfl⟩
theorem growsL_app {α : Type} {T : TD α} {l more : List α} {v x : AV} {h : Hp} {lo bt : Nat} (hg : growsL T lo l v h) (hlo : lo ≤ h.nx) (hx : rowsIn h T.sz x = some (more.map T.row)) (hb : (l.length + more.length) * bt ≤ room) :
    ∃ v' h', sApp false bt T.sz v x h = some (v', h') ∧ growsL T lo (l ++ more) v' h' ∧ h'.hp = h.hp ∧ h.nx ≤ h'.nx ∧ (∀ q, q < lo → h'.ap q = h.ap q) ∧ (∀ r, r < h.nx → (∀ m, v ≠ .app r m) → h'.ap r = h.ap r) := by
  obtain ⟨v', h', h1, h2, h3, h4, h5⟩ := grows_app (bt := bt) hg.1 hx hb
  refine ⟨v', h', h1, ⟨h2, fun id rows e => ?_⟩, h3, h4, fun q hq => h5 q (by omega) fun m e => by have := hg.2 q m e; omega, h5⟩
  rcases hg.1 with ⟨rfl, rfl⟩ | ⟨i, rfl, k2, k3⟩
  · simp only [sApp, hx, Option.bind_some] at h1
    split at h1
    · split at h1
      · injection h1 with h1; injection h1 with e1 e2; subst e1; cases e
      · split at h1
        · simp only [Bool.false_eq_true, if_false, Option.bind_eq_some_iff, Option.some.injEq, Prod.mk.injEq] at h1
          obtain ⟨_, _, e1, _⟩ := h1
          subst e1
          injection e with e1 e2
          omega
        · cases h1
    · cases h1
  · rw [kApp_rows T l more hx k2 hb] at h1
    injection h1 with h1; injection h1 with e1 e2; subst e1
    injection e with e1 e2
    subst e1
    exact hg.2 i _ rfl
theorem hP_growB {α : Type} {T : TD α} {l : List α} {v x : AV} {h : Hp} {lo bt n : Nat} {E : Env} {c : CallH} {d : Option Nat} {os : List SOper} {e : Ps} {Q : QS} (more : List α) (hn : n = T.sz) (hg : growsL T lo l v h) (hlo : lo ≤ h.nx) (hx : rowsIn h T.sz x = some (more.map T.row)) (hb : (l.length + more.length) * bt ≤ room)
    (hw : ∀ v' h', growsL T lo (l ++ more) v' h' → h'.hp = h.hp → h.nx ≤ h'.nx → (∀ q, q < lo → h'.ap q = h.ap q) → (∀ r, r < h.nx → (∀ m, v ≠ .app r m) → h'.ap r = h.ap r) → hP (kThen (some (upd? e d v', h')) E c os) Q) : hP (kThen (kOper d (some true) (sApp false bt n v x h) e h) E c os) Q := by
  subst hn
  obtain ⟨v', h', h1, h2, h3, h4, h5, h6⟩ := growsL_app (bt := bt) hg hlo hx hb
  rw [h1, kOper_go]
  exact hw v' h' h2 h3 h4 h5 h6
theorem growsL.other {α β : Type} {T : TD α} {U : TD β} {lo lo2 : Nat} {l : List α} {m : List β} {v x : AV} {h h' : Hp} (hsz : T.sz ≠ U.sz) (g : growsL T lo l v h) (u : growsL U lo2 m x h) (hn : h.nx ≤ h'.nx) (hk : ∀ r, r < h.nx → (∀ m, x ≠ .app r m) → h'.ap r = h.ap r) : growsL T lo l v h' := by
  obtain ⟨ga, gb⟩ := g
  refine ⟨?_, gb⟩
  rcases ga with ga | ⟨i, rfl, a1, a2⟩
  · exact .inl ga
  · refine .inr ⟨i, rfl, ?_, by omega⟩
    rw [hk i a2 fun q e => ?_]
    · exact a1
    · rcases u.1 with ⟨_, e3⟩ | ⟨j, e3, b1, _⟩
      · rw [e3] at e; cases e
      · rw [e3] at e
        injection e with e _
        subst e
        rw [a1] at b1
        injection b1 with b1
        exact hsz (Prod.mk.inj b1).2
theorem frzD_sl {α : Type} {T : TD α} {b : Nat} {h : Hp} {l : List α} (hh : h.hp b = some (l.map T.row).flatten) : frzD 8 h (.sl b 0 l.length T.sz) = some (.imm (l.map T.row)) := by
  have := frzE_rows (n := 7) hh (TD.rows_len l) fun x hx c hc => by
    obtain ⟨v, _, rfl⟩ := List.mem_map.1 hx
    exact frzD_cell (T.frz v c hc).1
  rw [List.length_map] at this
  exact this
theorem frzD_grows {α : Type} {T : TD α} {l : List α} {v : AV} {h h' : Hp} (g : grows T l v h) : frzD 8 h' v = some (.imm (l.map T.row)) := by
  rcases g with ⟨rfl, rfl⟩ | ⟨id, rfl, _, _⟩ <;> rfl
theorem DefS.frz {lo : Nat} {d : TDef} {v : AV} {h : Hp} (s : DefS lo d v h) : frzE 8 (h.upper lo) v = some (.agg d.row) := by
  obtain ⟨b, x2, x3, rfl, h1, h2, h3, h4, h5⟩ := s
  have hb : (h.upper lo).hp b = some (d.fCols.map tCol.row).flatten := (if_neg (by omega)).trans h1
  have e1 := frzD_sl (T := tCol) hb
  have e2 := frzD_grows (h' := h.upper lo) h4.1
  have e3 := frzD_grows (h' := h.upper lo) h5.1
  show (mapO (frzD 8 (h.upper lo)) [.str d.fName, .sl b 0 d.fCols.length 3, x2, x3]).map AV.agg = _
  have e0 : frzD 8 (h.upper lo) (.str d.fName) = some (.str d.fName) := rfl
  have e1' : frzD 8 (h.upper lo) (.sl b 0 d.fCols.length 3) = some (.imm (d.fCols.map TCol.row)) := e1
  simp only [mapO, e0, e1', e2, e3, Option.bind_some, Option.map_some]
  rfl
/-- A table that is only looked at. -/
def DefR (t : AV) : Prop := ∃ d : TDef, t = .agg d.row ∧ okDef d ∧ 2 ≤ d.fCols.length
/-- Drawn tables. -/
def DefsP (n : Nat) (h0 : Hp) (v : AV) (h : Hp) : Prop := ∃ s : List TDef, growsL tDef h0.nx s v h ∧ 1 ≤ s.length ∧ s.length ≤ n ∧ (∀ d ∈ s, okDef d) ∧ ∀ d, s[0]? = some d → 2 ≤ d.fCols.length
theorem DefsP.low {n m : Nat} {h0 h1 : Hp} {v : AV} {h : Hp} (p : DefsP n h1 v h) (hn : h0.nx ≤ h1.nx) (hm : n ≤ m) : DefsP m h0 v h := by
  obtain ⟨s, g, a, b, c⟩ := p
  exact ⟨s, ⟨g.1, fun id rows e => Nat.le_trans hn (g.2 id rows e)⟩, a, Nat.le_trans b hm, c⟩
/-- A drawn row of the call's own. -/
def RowS (n : Nat) (h0 : Hp) (v : AV) (h : Hp) : Prop := ∃ (b : Nat) (l : List TVal), v = .sl b 0 l.length 3 ∧ h.hp b = some (l.map TVal.row).flatten ∧ h0.nx ≤ b ∧ b < h.nx ∧ l.length = n ∧ ∀ t ∈ l, okVal t
/-- A row that is only looked at. -/
def RowR (n : Nat) (t : AV) : Prop := ∃ l : List TVal, t = .imm (l.map TVal.row) ∧ l.length = n ∧ ∀ t ∈ l, okVal t
theorem RowS.frz {n : Nat} {h : Hp} {v : AV} {h' : Hp} (p : RowS n h v h') : ∃ t, frzE 8 (h'.upper h.nx) v = some t ∧ RowR n t := by
  obtain ⟨b, l, rfl, h1, h2, h3, h4, h5⟩ := p
  have hb : (h'.upper h.nx).hp b = some (l.map tVal.row).flatten := (if_neg (by omega)).trans h1
  exact ⟨_, frzD_sl (T := tVal) hb, l, rfl, h4, h5⟩
theorem kSt_val {B i m : Nat} {l : List TVal} {t : TVal} {H : Hp} (hi : i < l.length) (hm : m = i * 3) (hH : H.hp B = some (l.map TVal.row).flatten) : kSt 3 (.ptr B m) (.agg t.row) H = some (.tup [], ⟨fun q => if q = B then some ((l.set i t).map TVal.row).flatten else H.hp q, H.ap, H.nx⟩) := by
  have e : l = l.take i ++ l[i] :: l.drop (i + 1) := by rw [← List.drop_eq_getElem_cons, List.take_append_drop]
  have e2 : (l.map TVal.row).flatten = ((l.take i).map TVal.row).flatten ++ (l[i].row ++ ((l.drop (i + 1)).map TVal.row).flatten) := by
    have := congrArg (fun l : List TVal => (l.map TVal.row).flatten) e
    simp only [List.map_append, List.map_cons, List.flatten_append, List.flatten_cons] at this
    exact this
  have e3 : ((l.set i t).map TVal.row).flatten = ((l.take i).map TVal.row).flatten ++ (t.row ++ ((l.drop (i + 1)).map TVal.row).flatten) := by
    rw [List.set_eq_take_append_cons_drop, if_pos hi, List.map_append, List.map_cons, List.flatten_append, List.flatten_cons]
  have hl : ((l.take i).map TVal.row).flatten.length = i * 3 := by
    have := flatten_len (sz := 3) (tVal.rows_len (l.take i))
    rw [List.length_map, List.length_take, Nat.min_eq_left (by omega)] at this
    exact this
  rw [kSt_cells (m := 3) (x := .agg t.row) (hH.trans (congrArg some e2)) (hm.trans hl.symm) rfl rfl rfl, e3]
  rfl
def RowX (h0 : Hp) (v : AV) (h : Hp) : Prop := ∃ n, n ≤ 9 ∧ RowS n h0 v h
def RowXR (t : AV) : Prop := ∃ n, n ≤ 9 ∧ RowR n t
theorem RowX.frz {h : Hp} {v : AV} {h' : Hp} (p : RowX h v h') : ∃ t, frzE 8 (h'.upper h.nx) v = some t ∧ RowXR t := by
  obtain ⟨n, h1, h2⟩ := p
  obtain ⟨t, h3, h4⟩ := h2.frz
  exact ⟨t, h3, n, h1, h4⟩
theorem frzD_slx {α : Type} {T : TD α} {b : Nat} {h : Hp} {l : List α} {more : List AV} (hh : h.hp b = some ((l.map T.row).flatten ++ more)) : frzD 8 h (.sl b 0 l.length T.sz) = some (.imm (l.map T.row)) := by
  have hl := flatten_len (T.rows_len l)
  have hc := chunk_flatten (l.map T.row) (T.rows_len l) more
  rw [List.length_map] at hl hc
  show ((h.hp b).bind fun cs => if 0 + l.length * T.sz ≤ cs.length then (mapO (mapO (frzD 7 h)) (chunk T.sz (cs.drop 0) l.length)).map AV.imm else none) = _
  rw [hh, Option.bind_some, if_pos (by rw [List.length_append, hl]; omega), List.drop_zero, hc]
  have e : mapO (mapO (frzD 7 h)) (l.map T.row) = some (l.map T.row) := mapO_id fun x hx => mapO_id fun c hc => by
    obtain ⟨v, _, rfl⟩ := List.mem_map.1 hx
    exact frzD_cell (T.frz v c hc).1
  rw [e]
  rfl
/-- Values that nobody else has, at the head of a block whose number is known about. -/
def LoS (lo hi : Nat) (l : List TVal) (v : AV) (h : Hp) : Prop := (l = [] ∧ v = .snil) ∨ ∃ b more, v = .sl b 0 l.length 3 ∧ h.hp b = some ((l.map TVal.row).flatten ++ more) ∧ lo ≤ b ∧ b < hi
theorem LoS.cell {lo hi : Nat} {l : List TVal} {v : AV} {h : Hp} (s : LoS lo hi l v h) : notCell v = false := by
  rcases s with ⟨_, rfl⟩ | ⟨b, more, rfl, _⟩ <;> rfl
theorem LoS.mono {lo hi lo' hi' : Nat} {l : List TVal} {v : AV} {h h' : Hp} (s : LoS lo hi l v h) (h1 : lo' ≤ lo) (h2 : hi ≤ hi') (hp : ∀ q, lo ≤ q → q < hi → h'.hp q = h.hp q) : LoS lo' hi' l v h' := by
  rcases s with s | ⟨b, more, e, k1, k2, k3⟩
  · exact .inl s
  · exact .inr ⟨b, more, e, (hp b k2 k3).trans k1, by omega, by omega⟩
theorem LoS.frz {lo hi n : Nat} {l : List TVal} {v : AV} {h : Hp} (s : LoS lo hi l v h) (hn : n ≤ lo) : frzD 8 (h.upper n) v = some (.imm (l.map TVal.row)) := by
  rcases s with ⟨rfl, rfl⟩ | ⟨b, more, rfl, k1, k2, k3⟩
  · rfl
  · have hb : (h.upper n).hp b = some ((l.map tVal.row).flatten ++ more) := (if_neg (by omega)).trans k1
    exact frzD_slx (T := tVal) hb
structure okScan (n : Nat) (c : TScan) : Prop where
  t : -1 ≤ c.fT ∧ c.fT ≤ 4
  i : -2 ≤ c.fI ∧ c.fI ≤ 3
  lo : c.fLo.length ≤ n ∧ ∀ v ∈ c.fLo, okVal v
  hi : c.fHi.length ≤ 4 ∧ ∀ v ∈ c.fHi, okVal v
  lim : -1 ≤ c.fLimit ∧ c.fLimit ≤ 101
def ScanC (h0 : Hp) (cells : List AV) (h : Hp) : Prop := ∃ (c : TScan) (m : Nat) (lo hi : AV), cells = [.int .i64 c.fT, .int .i64 c.fI, lo, hi, .bool c.fLoEx, .bool c.fHiEx, .bool c.fRev, .int .i64 c.fLimit] ∧ LoS h0.nx m c.fLo lo h ∧ LoS m h.nx c.fHi hi h ∧ h0.nx ≤ m ∧ m ≤ h.nx ∧ okScan 5 c
/-- A drawn scan, its ends the call's own. -/
def ScanS (h0 : Hp) (v : AV) (h : Hp) : Prop := ∃ cells, v = .agg cells ∧ ScanC h0 cells h
def ScanU (h0 : Hp) (cells : List AV) (h : Hp) : Prop := ∃ (c : TScan) (lo hi : AV), cells = [.int .i64 c.fT, .int .i64 c.fI, lo, hi, .bool c.fLoEx, .bool c.fHiEx, .bool c.fRev, .int .i64 c.fLimit] ∧ LoS h0.nx h.nx c.fLo lo h ∧ LoS h0.nx h.nx c.fHi hi h ∧ okScan 6 c
def ScanA (h0 : Hp) (v : AV) (h : Hp) : Prop := ∃ cells, v = .agg cells ∧ ScanU h0 cells h
/-- A scan that is only looked at. -/
def ScanR (t : AV) : Prop := ∃ c : TScan, t = .agg c.row ∧ okScan 6 c
theorem ScanA.frz {h : Hp} {v : AV} {h' : Hp} (p : ScanA h v h') : ∃ t, frzE 8 (h'.upper h.nx) v = some t ∧ ScanR t := by
  obtain ⟨_, rfl, c, lo, hi, rfl, h1, h2, ho⟩ := p
  have e1 := h1.frz (n := h.nx) (Nat.le_refl _)
  have e2 := h2.frz (n := h.nx) (Nat.le_refl _)
  refine ⟨.agg c.row, ?_, c, rfl, ho⟩
  show (mapO (frzD 8 (h'.upper h.nx)) [.int .i64 c.fT, .int .i64 c.fI, lo, hi, .bool c.fLoEx, .bool c.fHiEx, .bool c.fRev, .int .i64 c.fLimit]).map AV.agg = _
  have ei : ∀ (k : IntKind) (x : Int), frzD 8 (h'.upper h.nx) (.int k x) = some (.int k x) := fun _ _ => rfl
  have eb : ∀ (x : Bool), frzD 8 (h'.upper h.nx) (.bool x) = some (.bool x) := fun _ => rfl
  simp only [mapO, ei, eb, e1, e2, Option.bind_some, Option.map_some]
  rfl
theorem kSl_sl {B n m : Nat} {i : Int} (hi : i = (m : Int)) (hm : m ≤ n) : sIdxL 3 (.sl B 0 n 3) none (some (.int .i64 i)) = some (.sl B 0 m 3) := by
  subst hi
  have h0 : ¬ (m : Int) < 0 := by omega
  have hmm : (m : Int) ≤ (n : Int) := by omega
  simp [sIdxL, asNat, hmm]
theorem dthL_vals : ∀ (l : List TVal) (h : Hp), dthL (dth 7) (l.map TVal.row).flatten h = some ((l.map TVal.row).flatten, h)
  | [], h => rfl
  | v :: l, h => by
    have e : ((v :: l).map TVal.row).flatten = .int .i64 v.fK :: .int .i64 v.fN :: .str v.fS :: (l.map TVal.row).flatten := rfl
    have e1 : ∀ (x : Int) (h : Hp), dth 7 (.int .i64 x) h = some (.int .i64 x, h) := fun _ _ => rfl
    have e2 : ∀ (s : List UInt8) (h : Hp), dth 7 (.str s) h = some (.str s, h) := fun _ _ => rfl
    rw [e]
    simp only [dthL, e1, e2, dthL_vals l h, Option.bind_some, Option.map_some]
theorem dthE_vals {l : List TVal} (hl : 1 ≤ l.length) (h : Hp) : dthE 8 (.imm (l.map TVal.row)) h = some (.sl h.nx 0 l.length 3, h.new (l.map TVal.row).flatten) := by
  cases l with
  | nil => simp at hl
  | cons v l =>
    have e := dthL_vals (v :: l) h
    show (if (TVal.row v).length = 0 then none else (dthL (dth 7) (TVal.row v :: l.map TVal.row).flatten h).map fun p => (AV.sl p.2.nx 0 ((l.map TVal.row).length + 1) (TVal.row v).length, p.2.new p.1)) = _
    have e2 : (TVal.row v :: l.map TVal.row) = (v :: l).map TVal.row := rfl
    rw [if_neg (by show ¬ 3 = 0; omega), e2, e]
    simp only [Option.map_some, List.length_map]
    rfl
theorem sApp_lo {lo hi id : Nat} {l : List TVal} {v : AV} {t : TVal} {h : Hp} (s : LoS lo hi l v h) (hl : l.length ≤ 6) : ∃ h', sApp true 32 3 v (.app id [t.row]) h = some (.sl h.nx 0 (l ++ [t]).length 3, h') ∧ h'.hp h.nx = some ((l ++ [t]).map TVal.row).flatten ∧ h'.nx = h.nx + 1 ∧ (∀ q, q < h.nx → (q < lo ∨ hi ≤ q) → h'.hp q = h.hp q) ∧ h'.ap = h.ap := by
  have hx : rowsIn h 3 (.app id [t.row]) = some [t.row] := rfl
  have hh : headLen 3 [t.row] = true := rfl
  rcases s with ⟨rfl, rfl⟩ | ⟨b, more, rfl, k1, k2, k3⟩
  · refine ⟨h.new t.row, ?_, by simp [Hp.new], rfl, fun q hq _ => if_neg (by omega), rfl⟩
    have hb : 1 * 32 ≤ room := by unfold room; omega
    have e : [t.row].flatten = t.row := by simp
    simp only [sApp, hx, Option.bind_some, hh, if_true, List.isEmpty_cons, Bool.false_eq_true, if_false, List.length_cons, List.length_nil, hb, Nat.zero_add, List.nil_append, e]
  · have hf : (l.map TVal.row).flatten.length = l.length * 3 := by
      have := flatten_len (sz := 3) (tVal.rows_len l)
      rw [List.length_map] at this
      exact this
    have hb : (l.length + 1) * 32 ≤ room := by unfold room; omega
    have e : (l.map TVal.row).flatten ++ [t.row].flatten = ((l ++ [t]).map TVal.row).flatten := by simp
    refine ⟨(h.kill b).new ((l ++ [t]).map TVal.row).flatten, ?_, by simp [Hp.new, Hp.kill], rfl, fun q hq hqq => ?_, rfl⟩
    · cases hm : more with
      | nil =>
        subst hm
        simp only [sApp, hx, Option.bind_some, hh, if_true, k1, List.append_nil, hf, List.length_cons, List.length_nil, hb, and_self, e, List.length_append]
      | cons a m =>
        subst hm
        have g1 : ¬ (l.map TVal.row).flatten.length + (m.length + 1) = l.length * 3 := by rw [hf]; omega
        have g2 : l.length * 3 < (l.map TVal.row).flatten.length + (m.length + 1) := by rw [hf]; omega
        have g3 : ((l.map TVal.row).flatten ++ a :: m).take (l.length * 3) = (l.map TVal.row).flatten := List.take_left' hf
        simp only [sApp, hx, Option.bind_some, hh, if_true, k1, g1, g2, g3, false_and, if_false, List.length_cons, List.length_nil, Nat.zero_add, hb, and_self, e, List.length_append]
    · have g1 : ¬ q = h.nx := by omega
      have g2 : ¬ q = b := by omega
      simp [Hp.new, Hp.kill, g1, g2]
end Go.Proofs.YtfjkmpmjohojpaaGreatDoor.Ij
namespace Go.Proofs.YtfjkmpmjohojpaaGreatDoor.Ij
open Go Go.RowKit Go.Ev
set_option linter.unusedSimpArgs false
set_option linter.unusedVariables false
set_option maxHeartbeats 1600000
theorem dr_spec_l9Draw2 (cs) (n : Int) (hn : 1 ≤ n ∧ n ≤ 20) : DrawV (EE cs) 80 [.int .i64 n] BysP := draw_of (st_spec_l9Draw2 cs) fun code r h hcode hcur => by
  simp only [go_sem, Nat.reduceBEq, s_spec_l9Draw2]
  refine hP_draw (dr_spec_l1Below cs n) hcode hcur ?_
  rintro _ h1 ⟨a, rfl, ha⟩ c1
  replace ha : 0 ≤ a ∧ a < n := by
    have : (if n ≤ 0 then a = 0 else 0 ≤ a ∧ a < n) := ha
    rwa [if_neg (by omega)] at this
  simp only [go_sem, Nat.reduceBEq]
  refine hP_draw (dr_spec_l1Once cs 2) hcode c1.cur ?_
  rintro _ h2 ⟨b, rfl⟩ c2
  have s2 := c1.trans c2
  have g1 : sFill [.int .i64 0, .bool false] [(0, 1, .int .i64 a), (1, 1, .bool b)] = some [.int .i64 a, .bool b] := rfl
  have f1 : fillR (List.replicate 1 [.int .i64 0, .bool false]) 2 [(0, .agg [.int .i64 a, .bool b])] = some [[.int .i64 a, .bool b]] := rfl
  have f2 : frzRows [[.int .i64 a, .bool b]] = some [[.int .i64 a, .bool b]] := rfl
  have o1 : okBy ⟨a, b⟩ := ⟨by show 0 ≤ a; omega, by show a ≤ 20; omega⟩
  by_cases hc : n > 1
  · simp only [go_sem, Nat.reduceBEq, Nat.reduceAdd, g1, f1, f2, hc]
    refine hP_draw (dr_spec_l1Once cs 3) hcode (s2.cur.same (by simp) rfl) ?_
    rintro _ h3 ⟨b2, rfl⟩ c3
    have s3 : CurS code r h h3 := s2.trans (c3.pre (by simp) (fun _ _ _ => rfl) (fun q hq => by simp; omega))
    have ap3 : h3.ap h2.nx = some (1, 2) := (c3.ap h2.nx (by simp)).trans (by simp)
    have nx3 : h2.nx < h3.nx := Nat.lt_of_lt_of_le (by simp) c3.nx
    cases b2 with
    | false =>
      simp only [go_sem, Nat.reduceBEq]
      exact ⟨fun _ e => (by cases e), _, rfl, ⟨[⟨a, b⟩], .inr ⟨h2.nx, rfl, ap3, nx3⟩, by simp, by simp, by simpa using o1⟩, s3⟩
    | true =>
      have hne : n ≠ 0 := by omega
      have hrem : ∀ (x : Int) (h : Hp), kBin .rem (.int .i64 x) (.int .i64 n) h = some (.int .i64 (x.tmod n), h) := fun x h => kBin_rem _ _ _ hne
      have hw : IntKind.wrap .i64 (a + 1) = a + 1 := wrapId (by omega) (by omega)
      have o2 : 0 ≤ (a + 1).tmod n ∧ (a + 1).tmod n < n := ⟨Int.tmod_nonneg n (by omega), Int.tmod_lt_of_pos _ (by omega)⟩
      simp only [go_sem, Nat.reduceBEq, hw, hrem]
      generalize (a + 1).tmod n = a2 at *
      refine hP_draw (dr_spec_l1Once cs 2) hcode s3.cur ?_
      rintro _ h4 ⟨b3, rfl⟩ c4
      have s4 := s3.trans c4
      have g1 : sFill [.int .i64 0, .bool false] [(0, 1, .int .i64 a2), (1, 1, .bool b3)] = some [.int .i64 a2, .bool b3] := rfl
      have f1 : fillR (List.replicate 1 [.int .i64 0, .bool false]) 2 [(0, .agg [.int .i64 a2, .bool b3])] = some [[.int .i64 a2, .bool b3]] := rfl
      have f2 : frzRows [[.int .i64 a2, .bool b3]] = some [[.int .i64 a2, .bool b3]] := rfl
      have gx : grows tBy [⟨a, b⟩] (.app h2.nx [[.int .i64 a, .bool b]]) h4 := .inr ⟨h2.nx, rfl, (c4.ap h2.nx nx3).trans ap3, Nat.lt_of_lt_of_le nx3 c4.nx⟩
      simp only [go_sem, Nat.reduceBEq, Nat.reduceAdd, g1, f1, f2]
      refine hP_grow (T := tBy) (l := [⟨a, b⟩]) [⟨a2, b3⟩] rfl (gx.mono (by simp) fun q hq => by simp; omega) rfl (by simp only [List.length_cons, List.length_nil]; unfold room; omega) ?_
      intro v' h5 k1 k2 k3 k4
      simp only [go_sem, Nat.reduceBEq]
      refine ⟨fun _ e => (by cases e), _, rfl, ⟨_, k1, by simp, by simp, fun p hp => ?_⟩, ?_⟩
      · simp only [List.cons_append, List.nil_append, List.mem_cons, List.not_mem_nil, or_false] at hp
        rcases hp with rfl | rfl
        · exact o1
        · exact ⟨by show 0 ≤ a2; omega, by show a2 ≤ 20; omega⟩
      · have hs2 := s2.nx
        have hs4 := s4.nx
        have e3 : h4.nx + 1 ≤ h5.nx := k3
        exact curApps s4 (fun q => congrFun k2 q) (by omega) fun q hq => (k4 q (by show q < h4.nx + 1; omega) (fun m e => by injection e with e; omega)).trans (by simp; omega)
  · simp only [go_sem, Nat.reduceBEq, Nat.reduceAdd, g1, f1, f2, hc]
    exact ⟨fun _ e => (by cases e), _, rfl, ⟨[⟨a, b⟩], .inr ⟨h2.nx, rfl, by simp; rfl, Nat.lt_succ_self _⟩, by simp, by simp, by simpa using o1⟩, s2.more (by simp) (fun _ _ => rfl) (fun q hq => by simp; omega)⟩
theorem dr_spec_l1Int (cs) (l : List Int) (hl : l ≠ []) (id : Nat) : DrawV (EE cs) 38 [.app id (l.map intT.row)] (NumP (· ∈ l)) := draw_of (st_spec_l1Int cs) fun code r h hcode hcur => by
  have hpos := List.length_pos_iff.2 hl
  simp only [go_sem, Nat.reduceBEq, s_spec_l1Int, List.length_map]
  refine hP_draw (dr_spec_l1Below cs (l.length : Int)) hcode hcur ?_
  rintro _ ha ⟨x, rfl, hx⟩ hc
  have hx : 0 ≤ x ∧ x < (l.length : Int) := by
    have h2 : (if (l.length : Int) ≤ 0 then x = 0 else 0 ≤ x ∧ x < (l.length : Int)) := hx
    rwa [if_neg (by omega)] at h2
  obtain ⟨v, hv⟩ : ∃ v, l[x.toNat]? = some v := ⟨_, List.getElem?_eq_getElem (by omega)⟩
  have hia : ∀ h, kIa 1 (.app id (l.map intT.row)) (.int .i64 x) h = some (.cptr [.int .i64 v], h) := fun h => kIa_app hx.1 (by rw [List.getElem?_map, hv]; rfl) rfl
  simp only [go_sem, Nat.reduceBEq, hia]
  exact ⟨fun _ e => (by cases e), _, rfl, ⟨v, rfl, List.mem_of_getElem? hv⟩, hc⟩
/-- Where the loop over the columns stands. -/
structure D9 (code : List UInt8) (r : Nat) (h0 : Hp) (b4 b5 : Nat) (name : List UInt8) (idn : Nat) (cols : List TCol) (B : Nat) (e : Ps) (h : Hp) : Prop where
  e0 : e 0 = .ptr r 0
  e4 : e 4 = .ptr b4 0
  e5 : e 5 = .ptr b5 0
  e6 : e 6 = .app idn (names3.map strT.row)
  p4 : h.hp b4 = some [.str [], .snil, .snil, .snil]
  p5 : h.hp b5 = some [.str name, .sl B 0 cols.length 3, .snil, .snil]
  pB : h.hp B = some (cols.map TCol.row).flatten
  lB : h0.nx ≤ B
  l4 : h0.nx ≤ b4
  l5 : h0.nx ≤ b5
  n45 : b4 ≠ b5
  n4 : B ≠ b4
  n5 : B ≠ b5
  x4 : b4 < h.nx
  x5 : b5 < h.nx
  xB : B < h.nx
  rn : r < h0.nx
  s : CurS code r h0 h
  ok : ∀ c ∈ cols, okCol c
theorem D9.draw {code : List UInt8} {r : Nat} {h0 : Hp} {b4 b5 : Nat} {name : List UInt8} {idn : Nat} {cols : List TCol} {B : Nat} {e e' : Ps} {h h' : Hp} (d : D9 code r h0 b4 b5 name idn cols B e h) (c : CurS code r h h') (k0 : e' 0 = e 0) (k4 : e' 4 = e 4) (k5 : e' 5 = e 5) (k6 : e' 6 = e 6) : D9 code r h0 b4 b5 name idn cols B e' h' := by
  have hn := c.nx
  have hr := d.rn
  have := d.l4; have := d.l5; have := d.lB; have := d.x4; have := d.x5; have := d.xB
  exact ⟨k0.trans d.e0, k4.trans d.e4, k5.trans d.e5, k6.trans d.e6, (c.hp b4 d.x4 (by omega)).trans d.p4, (c.hp b5 d.x5 (by omega)).trans d.p5, (c.hp B d.xB (by omega)).trans d.pB, d.lB, d.l4, d.l5, d.n45, d.n4, d.n5, by omega, by omega, by omega, d.rn, d.s.trans c, d.ok⟩
theorem L0_spec_l9Draw (cs) {code : List UInt8} {r : Nat} {h0 : Hp} {b4 b5 : Nat} {name : List UInt8} {idn : Nat} (hcode : code.length ≤ 1048576) {Q : QS}
    (hq : ∀ cols B e h, 2 ≤ cols.length → cols.length ≤ 4 → D9 code r h0 b4 b5 name idn cols B e h → Q (.exit 0) e h) :
    ∀ (k : Nat) (cols : List TCol) (B : Nat) (e : Ps) (h : Hp), cols.length + k = 4 → 1 ≤ cols.length → D9 code r h0 b4 b5 name idn cols B e h → e 7 = .int .i64 ((cols.length : Int) - 1) → WL (EE cs) s_spec_l9Draw_L0 e h Q := by
  intro k
  induction k with
  | zero =>
    intro cols B e h hk hl d e7
    refine .step (wp_sound _ _ _ _ ?_)
    simp only [go_sem, Nat.reduceBEq, s_spec_l9Draw_L0, d.e0, e7]
    refine hP_draw (dr_spec_l1Below cs 3) hcode d.s.cur ?_
    rintro _ h1 ⟨x, rfl, hx⟩ c1
    replace hx : 0 ≤ x ∧ x < 3 := hx
    have hw : IntKind.wrap .i64 (1 + x) = 1 + x := wrapId (by omega) (by omega)
    have hc : ¬ (cols.length : Int) - 1 < 1 + x := by omega
    simp only [go_sem, Nat.reduceBEq, hw, hc]
    exact hq cols B _ _ (by omega) (by omega) (d.draw c1 (by simp only [go_sem, Nat.reduceBEq]) (by simp only [go_sem, Nat.reduceBEq]) (by simp only [go_sem, Nat.reduceBEq]) (by simp only [go_sem, Nat.reduceBEq]))
  | succ k ih =>
    intro cols B e h hk hl d e7
    refine .step (wp_sound _ _ _ _ ?_)
    simp only [go_sem, Nat.reduceBEq, s_spec_l9Draw_L0, d.e0, e7]
    refine hP_draw (dr_spec_l1Below cs 3) hcode d.s.cur ?_
    rintro _ h1 ⟨x, rfl, hx⟩ c1
    replace hx : 0 ≤ x ∧ x < 3 := hx
    have hw : IntKind.wrap .i64 (1 + x) = 1 + x := wrapId (by omega) (by omega)
    by_cases hc : (cols.length : Int) - 1 < 1 + x
    case neg =>
      simp only [go_sem, Nat.reduceBEq, hw, hc]
      exact hq cols B _ _ (by omega) (by omega) (d.draw c1 (by simp only [go_sem, Nat.reduceBEq]) (by simp only [go_sem, Nat.reduceBEq]) (by simp only [go_sem, Nat.reduceBEq]) (by simp only [go_sem, Nat.reduceBEq]))
    have h3 : (cols.length : Int) - 1 < 3 := by omega
    have d1 := d.draw (e' := e) c1 rfl rfl rfl rfl
    obtain ⟨s, hs1, hs2⟩ := names3_at (i := cols.length - 1) (by omega)
    have hia : ∀ h, kIa 1 (.app idn (names3.map strT.row)) (.int .i64 ((cols.length : Int) - 1)) h = some (.cptr [.str s], h) := fun h => kIa_app (by omega) (by rw [List.getElem?_map, show ((cols.length : Int) - 1).toNat = cols.length - 1 by omega, hs1]; rfl) rfl
    simp only [go_sem, Nat.reduceBEq, Nat.reduceAdd, Nat.reduceLeDiff, hw, hc, h3, d.e0, d.e5, d1.p5, d.e6, hia, e7]
    refine hP_draw (dr_spec_l1Below cs 4) hcode d1.s.cur ?_
    rintro _ h2 ⟨y, rfl, hy⟩ c2
    replace hy : 0 ≤ y ∧ y < 4 := hy
    have hw2 : IntKind.wrap .i64 (1 + y) = 1 + y := wrapId (by omega) (by omega)
    simp only [go_sem, Nat.reduceBEq, hw2, d.e0]
    refine hP_draw (dr_spec_l1Once cs 2) hcode (d1.s.trans c2).cur ?_
    rintro _ h4 ⟨b, rfl⟩ c3
    have d3 := (d1.draw (e' := e) c2 rfl rfl rfl rfl).draw (e' := e) c3 rfl rfl rfl rfl
    have g1 : sFill [.str [], .int .i64 0, .bool false] [(0, 1, .str s), (1, 1, .int .i64 (1 + y)), (2, 1, .bool b)] = some [.str s, .int .i64 (1 + y), .bool b] := rfl
    have f1 : fillR (List.replicate 1 [.str [], .int .i64 0, .bool false]) 3 [(0, .agg [.str s, .int .i64 (1 + y), .bool b])] = some [[.str s, .int .i64 (1 + y), .bool b]] := rfl
    have f2 : frzRows [[.str s, .int .i64 (1 + y), .bool b]] = some [[.str s, .int .i64 (1 + y), .bool b]] := rfl
    have sa : ∀ (H : Hp) (id : Nat), H.hp B = some (cols.map TCol.row).flatten → sApp true 32 3 (.sl B 0 cols.length 3) (.app id [[.str s, .int .i64 (1 + y), .bool b]]) H = some (.sl H.nx 0 (cols ++ [(⟨s, 1 + y, b⟩ : TCol)]).length 3, (H.kill B).new ((cols ++ [(⟨s, 1 + y, b⟩ : TCol)]).map TCol.row).flatten) := fun H id hH =>
      sApp_rows (T := tCol) (bt := 32) (x := .app id [[.str s, .int .i64 (1 + y), .bool b]]) (more := [(⟨s, 1 + y, b⟩ : TCol)]) hH rfl (by simp only [List.length_cons, List.length_nil]; unfold room; omega)
    simp only [go_sem, Nat.reduceBEq, Nat.reduceAdd, g1, f1, f2]
    rw [sa _ _ (by simp only [go_sem, d3.pB])]
    have m5 : ¬ b5 = h4.nx + 1 := by have := d3.x5; omega
    have m4 : ¬ b4 = h4.nx + 1 := by have := d3.x4; omega
    have mB : ¬ h4.nx + 1 = B := by have := d3.xB; omega
    have q5 : ¬ b5 = B := fun e => d.n5 e.symm
    have q4 : ¬ b4 = B := fun e => d.n4 e.symm
    have hw3 : IntKind.wrap .i64 ((cols.length : Int) - 1 + 1) = ((cols ++ [(⟨s, 1 + y, b⟩ : TCol)]).length : Int) - 1 := by rw [wrapId (by omega) (by omega), List.length_append, List.length_singleton]; omega
    simp only [go_sem, kSt_ptr, Nat.reduceBEq, Nat.reduceAdd, Nat.reduceLeDiff, d.e5, Hp.kill, d3.p5, m5, q5, e7, hw3]
    refine ih (cols ++ [⟨s, 1 + y, b⟩]) (h4.nx + 1) _ _ (by simp; omega) (by simp) ?_ (by simp only [go_sem, Nat.reduceBEq])
    have hn := d3.s.nx
    have l4 := d.l4
    have l5 := d.l5
    have lB := d.lB
    have rn := d.rn
    have x4 := d3.x4
    have x5 := d3.x5
    have n45 := d.n45
    have n45' : ¬ b5 = b4 := fun e => n45 e.symm
    have mm5 : ¬ h4.nx + 1 = b5 := by omega
    have hp : ∀ q, q < h0.nx → ¬ q = b5 ∧ ¬ q = h4.nx + 1 ∧ ¬ q = B ∧ ¬ q = h4.nx := fun q hq => ⟨by omega, by omega, by omega, by omega⟩
    obtain ⟨r1, r2, r3, r4⟩ := hp r rn
    refine ⟨by simp only [go_sem, Nat.reduceBEq, d.e0], by simp only [go_sem, Nat.reduceBEq, d.e4], by simp only [go_sem, Nat.reduceBEq, d.e5], by simp only [go_sem, Nat.reduceBEq, d.e6], by simp only [go_sem, n45, m4, q4, d3.p4], by simp only [go_sem], by simp only [go_sem, mm5], by omega, l4, l5, n45, fun e => m4 e.symm, mm5, by show b4 < h4.nx + 1 + 1; omega, by show b5 < h4.nx + 1 + 1; omega, Nat.lt_succ_self _, rn, ?_, fun c hc => ?_⟩
    · exact ⟨d3.s.cur.same (by show h4.nx ≤ h4.nx + 1 + 1; omega) (by simp only [go_sem, r1, r2, r3]), fun q hq hr => by obtain ⟨s1, s2, s3, s4⟩ := hp q hq; simp only [go_sem, s1, s2, s3]; exact d3.s.hp q hq hr, fun q hq => by obtain ⟨s1, s2, s3, s4⟩ := hp q hq; simp only [go_sem, s4]; exact d3.s.ap q hq, by show h0.nx ≤ h4.nx + 1 + 1; omega⟩
    · rcases List.mem_append.1 hc with hc | hc
      · exact d.ok c hc
      · rw [List.mem_singleton] at hc
        subst hc
        exact ⟨by show s.length ≤ 8; omega, by show 0 ≤ 1 + y; omega, by show 1 + y ≤ 9; omega⟩
/-- Where the loop over the indexes stands. -/
structure E9 (code : List UInt8) (r : Nat) (h0 : Hp) (b4 b5 : Nat) (name : List UInt8) (idn : Nat) (cols : List TCol) (prim : List TBy) (idx : List TIndex) (B : Nat) (e : Ps) (h : Hp) : Prop where
  e0 : e 0 = .ptr r 0
  e4 : e 4 = .ptr b4 0
  e5 : e 5 = .ptr b5 0
  e6 : e 6 = .app idn (names3.map strT.row)
  p4 : h.hp b4 = some [.str [], .snil, .snil, .snil]
  p5 : ∃ x2 x3, h.hp b5 = some [.str name, .sl B 0 cols.length 3, x2, x3] ∧ growsL tBy h0.nx prim x2 h ∧ growsL tIndex h0.nx idx x3 h
  pB : h.hp B = some (cols.map TCol.row).flatten
  lB : h0.nx ≤ B
  l4 : h0.nx ≤ b4
  l5 : h0.nx ≤ b5
  n45 : b4 ≠ b5
  n4 : B ≠ b4
  n5 : B ≠ b5
  x4 : b4 < h.nx
  x5 : b5 < h.nx
  xB : B < h.nx
  rn : r < h0.nx
  s : CurS code r h0 h
theorem E9.draw {code : List UInt8} {r : Nat} {h0 : Hp} {b4 b5 : Nat} {name : List UInt8} {idn : Nat} {cols : List TCol} {prim : List TBy} {idx : List TIndex} {B : Nat} {e e' : Ps} {h h' : Hp} (d : E9 code r h0 b4 b5 name idn cols prim idx B e h) (c : CurS code r h h') (k0 : e' 0 = e 0) (k4 : e' 4 = e 4) (k5 : e' 5 = e 5) (k6 : e' 6 = e 6) : E9 code r h0 b4 b5 name idn cols prim idx B e' h' := by
  have hn := c.nx
  have hr := d.rn
  have := d.l4; have := d.l5; have := d.lB; have := d.x4; have := d.x5; have := d.xB
  obtain ⟨x2, x3, q1, q2, q3⟩ := d.p5
  exact ⟨k0.trans d.e0, k4.trans d.e4, k5.trans d.e5, k6.trans d.e6, (c.hp b4 d.x4 (by omega)).trans d.p4, ⟨x2, x3, (c.hp b5 d.x5 (by omega)).trans q1, q2.step hn fun q _ h2 => c.ap q h2, q3.step hn fun q _ h2 => c.ap q h2⟩, (c.hp B d.xB (by omega)).trans d.pB, d.lB, d.l4, d.l5, d.n45, d.n4, d.n5, by omega, by omega, by omega, d.rn, d.s.trans c⟩
theorem L1_spec_l9Draw (cs) {code : List UInt8} {r : Nat} {h0 : Hp} {b4 b5 : Nat} {name : List UInt8} {idn : Nat} {cols : List TCol} {prim : List TBy} {B : Nat} (hcode : code.length ≤ 1048576) (hcl : 2 ≤ cols.length ∧ cols.length ≤ 4) {Q : QS}
    (hq : ∀ idx e h, idx.length ≤ 2 → (∀ x ∈ idx, okIdx x) → E9 code r h0 b4 b5 name idn cols prim idx B e h → Q (.exit 2) e h) :
    ∀ (k : Nat) (idx : List TIndex) (e : Ps) (h : Hp), idx.length + k ≤ 2 → (∀ x ∈ idx, okIdx x) → E9 code r h0 b4 b5 name idn cols prim idx B e h → e 8 = .int .i64 (k : Int) → WL (EE cs) s_spec_l9Draw_L1 e h Q := by
  intro k
  induction k with
  | zero =>
    intro idx e h hk ho d e8
    refine .step (wp_sound _ _ _ _ ?_)
    simp only [go_sem, Nat.reduceBEq, s_spec_l9Draw_L1, e8, Int.lt_irrefl]
    exact hq idx _ _ (by omega) ho (d.draw (cur_refl d.s.cur) (by simp only [go_sem, Nat.reduceBEq]) (by simp only [go_sem, Nat.reduceBEq]) (by simp only [go_sem, Nat.reduceBEq]) (by simp only [go_sem, Nat.reduceBEq]))
  | succ k ih =>
    intro idx e h hk ho d e8
    have hpos : (((k + 1 : Nat) : Int) > 0) := by omega
    have hw0 : IntKind.wrap .i64 (((k + 1 : Nat) : Int) - 1) = (k : Int) := by rw [wrapId (by omega) (by omega)]; omega
    obtain ⟨x2, x3, q1, q2, q3⟩ := d.p5
    have x5 := d.x5
    have rn := d.rn
    have l5 := d.l5
    have l4 := d.l4
    have lB := d.lB
    have f0 : fillR (List.replicate 2 [.str []]) 1 [(0, .str [117]), (1, .str [118])] = some [[.str [117]], [.str [118]]] := rfl
    have f0z : frzRows [[.str [117]], [.str [118]]] = some [[.str [117]], [.str [118]]] := rfl
    refine .step (wp_sound _ _ _ _ ?_)
    simp only [go_sem, Nat.reduceBEq, Nat.reduceAdd, Nat.reduceLeDiff, s_spec_l9Draw_L1, e8, hpos, d.e0, d.e5, q1, f0, f0z]
    refine hP_draw (dr_spec_l1Str cs ([[117], [118]] : List (List UInt8)) (by simp) _) hcode (d.s.cur.same (by simp) rfl) ?_
    rintro _ h1 ⟨s, rfl, hs⟩ c1
    have hsl : s.length = 1 := (show ∀ s ∈ ([[117], [118]] : List (List UInt8)), s.length = 1 by decide) s hs
    have c1' : CurS code r h h1 := c1.pre (by simp) (fun _ _ _ => rfl) (fun q hq => by simp; omega)
    have d1 := d.draw (e' := e) c1' rfl rfl rfl rfl
    obtain ⟨x2a, x3a, q1a, q2a, q3a⟩ := d1.p5
    obtain ⟨nm, hs1, hs2⟩ := names3_at (i := k + 1) (by omega)
    have hia : ∀ h, kIa 1 (.app idn (names3.map strT.row)) (.int .i64 ((k + 1 : Nat) : Int)) h = some (.cptr [.str nm], h) := fun h => kIa_app (by omega) (by rw [List.getElem?_map, show (((k + 1 : Nat) : Int)).toNat = k + 1 by omega, hs1]; rfl) rfl
    have hcat : ∀ h, kBin .add (.str s) (.str nm) h = some (.str (s ++ nm), h) := fun h => kCat (by omega)
    simp only [go_sem, Nat.reduceBEq, d.e6, hia, e8, hcat, d.e0]
    refine hP_draw (dr_spec_l1Once cs 2) hcode d1.s.cur ?_
    rintro _ h2 ⟨b, rfl⟩ c2
    have d2 := d1.draw (e' := e) c2 rfl rfl rfl rfl
    obtain ⟨x2b, x3b, q1b, q2b, q3b⟩ := d2.p5
    simp only [go_sem, Nat.reduceBEq, Nat.reduceAdd, Nat.reduceLeDiff, d.e0, d.e5, q1b]
    refine hP_draw (dr_spec_l9Draw2 cs (cols.length : Int) (by omega)) hcode d2.s.cur ?_
    rintro v h3 ⟨l, gl, l1, l2, lo⟩ c3
    have t3 : CurS code r h h3 := (c1'.trans c2).trans c3
    have d3 := d.draw (e' := e) t3 rfl rfl rfl rfl
    have p53 : h3.hp b5 = some [.str name, .sl B 0 cols.length 3, x2, x3] := (t3.hp b5 x5 (by omega)).trans q1
    have g2 := q2.step t3.nx fun q _ h2 => t3.ap q h2
    have g3 := q3.step t3.nx fun q _ h2 => t3.ap q h2
    have hn3 := d3.s.nx
    rcases gl with ⟨rfl, _⟩ | ⟨idl, rfl, _, _⟩
    · simp at l1
    have g1 : sFill [.str [], .bool false, .snil] [(0, 1, .str (s ++ nm)), (1, 1, .bool b), (2, 1, .app idl (l.map TBy.row))] = some [.str (s ++ nm), .bool b, .app idl (l.map TBy.row)] := rfl
    have f1 : fillR (List.replicate 1 [.str [], .bool false, .snil]) 3 [(0, .agg [.str (s ++ nm), .bool b, .app idl (l.map TBy.row)])] = some [[.str (s ++ nm), .bool b, .app idl (l.map TBy.row)]] := rfl
    have f2 : frzRows [[.str (s ++ nm), .bool b, .app idl (l.map TBy.row)]] = some [[.str (s ++ nm), .bool b, .imm (l.map TBy.row)]] := rfl
    have tb : tBy.row = TBy.row := rfl
    rw [tb]
    simp only [go_sem, Nat.reduceBEq, Nat.reduceAdd, g1, f1, f2]
    refine hP_growB (T := tIndex) [(⟨s ++ nm, b, l⟩ : TIndex)] rfl (g3.step (by simp) fun q _ hq => by simp; omega) (by simp; omega) rfl (by simp only [List.length_cons, List.length_nil]; unfold room; omega) ?_
    intro v' h5 k1 k2 k3 k4 k5
    have zv := k1.1.cell.2
    have p55 : h5.hp b5 = some [.str name, .sl B 0 cols.length 3, x2, x3] := (congrFun k2 b5).trans p53
    have hk : h3.nx + 1 ≤ h5.nx := k3
    simp only [go_sem, kSt_ptr, Nat.reduceBEq, Nat.reduceAdd, d.e5, p55, zv, cell1 zv, e8, hw0]
    have hap : ∀ q, h0.nx ≤ q → q < h3.nx → (if q = h3.nx then some (1, 3) else h3.ap q) = h3.ap q := fun q _ hq => if_neg (by omega)
    have g2' : growsL tBy h0.nx prim x2 h5 := growsL.other (by decide) (g2.step (h' := ⟨h3.hp, fun r => if r = h3.nx then some (1, 3) else h3.ap r, h3.nx + 1⟩) (Nat.le_succ _) hap) (g3.step (h' := ⟨h3.hp, fun r => if r = h3.nx then some (1, 3) else h3.ap r, h3.nx + 1⟩) (Nat.le_succ _) hap) k3 k5
    have x4 := d3.x4
    have x5' := d3.x5
    have xB := d3.xB
    have n45 := d.n45
    have n5 := d.n5
    have n45' : ¬ b4 = b5 := n45
    have q0 : ∀ q, q < h0.nx → ¬ q = b5 := fun q hq => by omega
    refine ih (idx ++ [⟨s ++ nm, b, l⟩]) _ _ (by simp; omega) (fun x hx => ?_) ?_ (by simp only [go_sem, Nat.reduceBEq])
    · rcases List.mem_append.1 hx with hx | hx
      · exact ho x hx
      · rw [List.mem_singleton] at hx
        subst hx
        exact ⟨by simp; omega, l2, lo⟩
    · refine ⟨by simp only [go_sem, Nat.reduceBEq, d.e0], by simp only [go_sem, Nat.reduceBEq, d.e4], by simp only [go_sem, Nat.reduceBEq, d.e5], by simp only [go_sem, Nat.reduceBEq, d.e6], by simp only [go_sem, n45']; exact (congrFun k2 b4).trans d3.p4, ⟨x2, v', by simp only [go_sem], g2', k1⟩, by simp only [go_sem, n5]; exact (congrFun k2 B).trans d3.pB, lB, l4, l5, n45, d.n4, n5, by show b4 < h5.nx; omega, by show b5 < h5.nx; omega, by show B < h5.nx; omega, rn, ?_⟩
      have t5 : CurS code r h0 h5 := curApps d3.s (fun q => congrFun k2 q) (by omega) fun q hq => (k4 q hq).trans (if_neg (by omega))
      have hr5 := q0 r rn
      exact ⟨t5.cur.same (Nat.le_refl _) (by simp only [go_sem, hr5]), fun q hq hr => by have := q0 q hq; simp only [go_sem, this]; exact t5.hp q hq hr, t5.ap, t5.nx⟩
/-- A drawn table. -/
def DrP (h0 : Hp) (v : AV) (h : Hp) : Prop := ∃ d, DefS h0.nx d v h ∧ okDef d ∧ 2 ≤ d.fCols.length ∧ d.fCols.length ≤ 4 ∧ 1 ≤ d.fPrimary.length ∧ d.fPrimary.length ≤ 2 ∧ d.fIndexes.length ≤ 2
theorem dr_spec_l9Draw (cs) (name : List UInt8) (hname : name.length ≤ 8) : DrawR (EE cs) 59 [.str name] DrP := drawR_of (st_spec_l9Draw cs) fun code r h hcode hcur => by
  have rn := hcur.1
  have fI : fillR (List.replicate 4 [.int .i64 0]) 1 [(0, .int .i64 1), (1, .int .i64 1), (2, .int .i64 3), (3, .int .i64 2)] = some [[.int .i64 1], [.int .i64 1], [.int .i64 3], [.int .i64 2]] := rfl
  have fIz : frzRows [[.int .i64 1], [.int .i64 1], [.int .i64 3], [.int .i64 2]] = some [[.int .i64 1], [.int .i64 1], [.int .i64 3], [.int .i64 2]] := rfl
  simp only [go_sem, Nat.reduceBEq, s_spec_l9Draw, fI, fIz]
  refine hP_draw (dr_spec_l1Int cs ([1, 1, 3, 2] : List Int) (by simp) _) hcode (hcur.same (by show h.nx ≤ h.nx + 1 + 1; omega) (by simp; omega)) ?_
  rintro _ h1 ⟨x, rfl, hx⟩ c1
  have hx2 : 0 ≤ x ∧ x ≤ 9 := (show ∀ x ∈ ([1, 1, 3, 2] : List Int), 0 ≤ x ∧ x ≤ 9 by decide) x hx
  have s1 : CurS code r h h1 := c1.pre (by show h.nx ≤ h.nx + 1 + 1; omega) (fun q hq _ => by simp; omega) (fun q hq => by simp; omega)
  have p4 : h1.hp h.nx = some [.str [], .snil, .snil, .snil] := (c1.hp h.nx (by show h.nx < h.nx + 1 + 1; omega) (by omega)).trans (by simp)
  have x4 : h.nx < h1.nx := Nat.lt_of_lt_of_le (by show h.nx < h.nx + 1 + 1; omega) c1.nx
  have g1 : sFill [.str [], .int .i64 0, .bool false] [(0, 1, .str [105, 100]), (1, 1, .int .i64 x)] = some [.str [105, 100], .int .i64 x, .bool false] := rfl
  have f1 : fillR (List.replicate 1 [.str [], .int .i64 0, .bool false]) 3 [(0, .agg [.str [105, 100], .int .i64 x, .bool false])] = some [[.str [105, 100], .int .i64 x, .bool false]] := rfl
  have g2 : sFill [.str [], .snil, .snil, .snil] [(0, 1, .str name), (1, 1, .sl h1.nx 0 1 3)] = some [.str name, .sl h1.nx 0 1 3, .snil, .snil] := rfl
  have fN : fillR (List.replicate 3 [.str []]) 1 [(0, .str [97]), (1, .str [98]), (2, .str [99])] = some [[.str [97]], [.str [98]], [.str [99]]] := rfl
  have fNz : frzRows [[.str [97]], [.str [98]], [.str [99]]] = some [[.str [97]], [.str [98]], [.str [99]]] := rfl
  simp only [go_sem, kSt_ptr, Nat.reduceBEq, Nat.reduceAdd, g1, f1, g2, fN, fNz]
  refine L0_spec_l9Draw cs (r := r) (h0 := h) (b4 := h.nx) (b5 := h1.nx + 1) (name := name) (idn := h1.nx + 1 + 1) hcode (fun cols B e2 h2 hc2 hc4 d => ?_) 3 [⟨[105, 100], x, false⟩] h1.nx _ _ rfl (by simp) ?_ (by simp only [go_sem, Nat.reduceBEq]; first | done | rfl)
  rotate_left 1
  · have m1 : ¬ h.nx = h1.nx + 1 := by omega
    have m2 : ¬ h.nx = h1.nx := by omega
    have m3 : ¬ h1.nx = h1.nx + 1 := by omega
    have q0 : ∀ q, q < h.nx → (¬ q = h1.nx + 1) ∧ ¬ q = h1.nx ∧ ¬ q = h1.nx + 1 + 1 := fun q hq => ⟨by omega, by omega, by omega⟩
    obtain ⟨r1, r2, _⟩ := q0 r rn
    refine ⟨by simp only [go_sem, Nat.reduceBEq], by simp only [go_sem, Nat.reduceBEq], by simp only [go_sem, Nat.reduceBEq], by simp only [go_sem, Nat.reduceBEq]; first | done | rfl, by simp only [go_sem, m1, m2, p4], by simp only [go_sem]; first | done | rfl, by simp only [go_sem, m3]; first | done | rfl, by omega, Nat.le_refl _, by omega, by omega, by omega, m3, by show h.nx < h1.nx + 1 + 1 + 1; omega, by show h1.nx + 1 < h1.nx + 1 + 1 + 1; omega, by show h1.nx < h1.nx + 1 + 1 + 1; omega, rn, ?_, fun c hc => ?_⟩
    · exact ⟨s1.cur.same (by show h1.nx ≤ h1.nx + 1 + 1 + 1; omega) (by simp only [go_sem, r1, r2]), fun q hq hr => by obtain ⟨t1, t2, t3⟩ := q0 q hq; simp only [go_sem, t1, t2]; exact s1.hp q hq hr, fun q hq => by obtain ⟨t1, t2, t3⟩ := q0 q hq; simp only [go_sem, t3]; exact s1.ap q hq, by have := s1.nx; show h.nx ≤ h1.nx + 1 + 1 + 1; omega⟩
    · rw [List.mem_singleton] at hc
      subst hc
      exact ⟨by show 2 ≤ 8; omega, by show 0 ≤ x; omega, by show x ≤ 9; omega⟩
  have hcl : 2 ≤ cols.length ∧ cols.length ≤ 4 := ⟨hc2, hc4⟩
  simp only [go_sem, d.e0]
  refine hP_draw (dr_spec_l1Once cs 3) hcode d.s.cur ?_
  rintro _ h3 ⟨b, rfl⟩ c3
  have d3 := d.draw (e' := e2) c3 rfl rfl rfl rfl
  have g3 : sFill [.int .i64 0, .bool false] [(0, 1, .int .i64 0), (1, 1, .bool b)] = some [.int .i64 0, .bool b] := rfl
  have f3 : fillR (List.replicate 1 [.int .i64 0, .bool false]) 2 [(0, .agg [.int .i64 0, .bool b])] = some [[.int .i64 0, .bool b]] := rfl
  have f3z : frzRows [[.int .i64 0, .bool b]] = some [[.int .i64 0, .bool b]] := rfl
  obtain ⟨c0, c1', rest, hcols⟩ : ∃ c0 c1 rest, cols = c0 :: c1 :: rest := by
    match cols, hc2 with
    | a :: b :: rest, _ => exact ⟨a, b, rest, rfl⟩
  have hB : h3.hp B = some (.str c0.fName :: .int .i64 c0.fType :: .bool c0.fNull :: .str c1'.fName :: .int .i64 c1'.fType :: .bool c1'.fNull :: (rest.map TCol.row).flatten) := by rw [d3.pB, hcols]; rfl
  have hia : ∀ H, kIa 3 (.sl B 0 cols.length 3) (.int .i64 1) H = some (.ptr B 3, H) := fun H => by
    rw [kIa_sl (by decide) (by show 1 < cols.length; omega)]
    rfl
  have n5 := d3.n5
  simp only [go_sem, kSt_ptr, Nat.reduceBEq, Nat.reduceAdd, Nat.reduceLeDiff, g3, f3, f3z, d.e5, d3.p5, hia, n5, hB]
  have lB := d3.lB
  have x4' := d3.x4
  have x5' := d3.x5
  have xB' := d3.xB
  have n45 := d3.n45
  have q0 : ∀ q, q < h.nx → (¬ q = h1.nx + 1) ∧ ¬ q = h3.nx := fun q hq => ⟨by omega, by omega⟩
  have z0 : E9 code r h h.nx (h1.nx + 1) name (h1.nx + 1 + 1) cols [⟨0, b⟩] [] B e2 ⟨fun q => if q = h1.nx + 1 then some [.str name, .sl B 0 cols.length 3, .app h3.nx [[.int .i64 0, .bool b]], .snil] else h3.hp q, fun r => if r = h3.nx then some (1, 2) else h3.ap r, h3.nx + 1⟩ := by
    obtain ⟨r1, r2⟩ := q0 r rn
    refine ⟨d.e0, d.e4, d.e5, d.e6, by simp only [go_sem, n45, d3.p4], ⟨.app h3.nx [[.int .i64 0, .bool b]], .snil, by simp only [go_sem], ⟨.inr ⟨h3.nx, rfl, by simp only [go_sem]; first | done | rfl, Nat.lt_succ_self _⟩, fun id rows e => by injection e with e _; omega⟩, ⟨.inl ⟨rfl, rfl⟩, fun id rows e => by cases e⟩⟩, by simp only [go_sem, n5, d3.pB], lB, d3.l4, d3.l5, n45, d3.n4, n5, by show h.nx < h3.nx + 1; omega, by show h1.nx + 1 < h3.nx + 1; omega, by show B < h3.nx + 1; omega, rn, ?_⟩
    exact ⟨d3.s.cur.same (Nat.le_succ _) (by simp only [go_sem, r1]), fun q hq hr => by obtain ⟨t1, t2⟩ := q0 q hq; simp only [go_sem, t1]; exact d3.s.hp q hq hr, fun q hq => by obtain ⟨t1, t2⟩ := q0 q hq; simp only [go_sem, t2]; exact d3.s.ap q hq, Nat.le_succ_of_le d3.s.nx⟩
  have o0 : okBy ⟨0, b⟩ := ⟨by show (0 : Int) ≤ 0; omega, by show (0 : Int) ≤ 20; omega⟩
  obtain ⟨H0, hH0⟩ : ∃ H0 : Hp, H0 = ⟨fun q => if q = h1.nx + 1 then some [.str name, .sl B 0 cols.length 3, .app h3.nx [[.int .i64 0, .bool b]], .snil] else h3.hp q, fun r => if r = h3.nx then some (1, 2) else h3.ap r, h3.nx + 1⟩ := ⟨_, rfl⟩
  rw [← hH0] at z0 ⊢
  clear hB hia
  cases hnl : c1'.fNull with
  | true =>
    simp only [go_sem, Nat.reduceBEq, Bool.not_true, d.e0]
    have z := z0
    have hpo : ∀ p ∈ [(⟨0, b⟩ : TBy)], okBy p := by simpa using o0
    obtain ⟨prim, hprim⟩ : ∃ prim : List TBy, prim = [⟨0, b⟩] := ⟨_, rfl⟩
    have hp1 : 1 ≤ prim.length := by rw [hprim]; simp
    have hp2 : prim.length ≤ 2 := by rw [hprim]; simp
    rw [← hprim] at z hpo
    refine hP_draw (dr_spec_l1Below cs 3) hcode z.s.cur ?_
    rintro _ hy ⟨y, rfl, hyy⟩ cy
    replace hyy : 0 ≤ y ∧ y < 3 := hyy
    obtain ⟨k, rfl⟩ : ∃ k : Nat, y = (k : Int) := ⟨y.toNat, by omega⟩
    simp only [go_sem, Nat.reduceBEq]
    refine L1_spec_l9Draw cs hcode hcl (fun idx e6 h6 hil hio w => ?_) k [] _ hy (by simp; omega) (fun x hx => by cases hx) (z.draw cy (by simp only [go_sem, Nat.reduceBEq]) (by simp only [go_sem, Nat.reduceBEq]) (by simp only [go_sem, Nat.reduceBEq]) (by simp only [go_sem, Nat.reduceBEq])) (by simp only [go_sem, Nat.reduceBEq])
    obtain ⟨x2, x3, q1, q2, q3⟩ := w.p5
    have z2 := q2.1.cell.2
    have z3 := q3.1.cell.2
    simp only [go_sem, kSt_ptr, Nat.reduceBEq, Nat.reduceAdd, w.e4, w.e5, w.p4, q1, z2, z3]
    have w4 := w.x4
    refine ⟨fun _ e => (by cases e), _, rfl, ⟨⟨name, cols, prim, idx⟩, ⟨B, x2, x3, rfl, ?_, w.lB, w.xB, q2, q3⟩, ⟨hname, by show cols.length ≤ 8; omega, d.ok, by show prim.length ≤ 4; omega, hpo, by show idx.length ≤ 3; omega, hio⟩, hcl.1, hcl.2, hp1, hp2, hil⟩, ?_⟩
    · simp only [go_sem, w.n4]
      exact w.pB
    · have q0 : ∀ q, q < h.nx → ¬ q = h.nx := fun q hq => by omega
      have hr4 := q0 r w.rn
      exact ⟨w.s.cur.same (Nat.le_refl _) (by simp only [go_sem, hr4]), fun q hq hr => by have := q0 q hq; simp only [go_sem, this]; exact w.s.hp q hq hr, w.s.ap, w.s.nx⟩
  | false =>
    simp only [go_sem, Nat.reduceBEq, Bool.not_false, d.e0]
    refine hP_draw (dr_spec_l1Once cs 2) hcode z0.s.cur ?_
    rintro _ h4 ⟨b2, rfl⟩ c4
    have z1 := z0.draw (e' := e2) c4 rfl rfl rfl rfl
    cases b2 with
    | false =>
      simp only [go_sem, Nat.reduceBEq, d.e0]
      have z := z1
      have hpo : ∀ p ∈ [(⟨0, b⟩ : TBy)], okBy p := by simpa using o0
      obtain ⟨prim, hprim⟩ : ∃ prim : List TBy, prim = [⟨0, b⟩] := ⟨_, rfl⟩
      have hp1 : 1 ≤ prim.length := by rw [hprim]; simp
      have hp2 : prim.length ≤ 2 := by rw [hprim]; simp
      rw [← hprim] at z hpo
      refine hP_draw (dr_spec_l1Below cs 3) hcode z.s.cur ?_
      rintro _ hy ⟨y, rfl, hyy⟩ cy
      replace hyy : 0 ≤ y ∧ y < 3 := hyy
      obtain ⟨k, rfl⟩ : ∃ k : Nat, y = (k : Int) := ⟨y.toNat, by omega⟩
      simp only [go_sem, Nat.reduceBEq]
      refine L1_spec_l9Draw cs hcode hcl (fun idx e6 h6 hil hio w => ?_) k [] _ hy (by simp; omega) (fun x hx => by cases hx) (z.draw cy (by simp only [go_sem, Nat.reduceBEq]) (by simp only [go_sem, Nat.reduceBEq]) (by simp only [go_sem, Nat.reduceBEq]) (by simp only [go_sem, Nat.reduceBEq])) (by simp only [go_sem, Nat.reduceBEq])
      obtain ⟨x2, x3, q1, q2, q3⟩ := w.p5
      have z2 := q2.1.cell.2
      have z3 := q3.1.cell.2
      simp only [go_sem, kSt_ptr, Nat.reduceBEq, Nat.reduceAdd, w.e4, w.e5, w.p4, q1, z2, z3]
      have w4 := w.x4
      refine ⟨fun _ e => (by cases e), _, rfl, ⟨⟨name, cols, prim, idx⟩, ⟨B, x2, x3, rfl, ?_, w.lB, w.xB, q2, q3⟩, ⟨hname, by show cols.length ≤ 8; omega, d.ok, by show prim.length ≤ 4; omega, hpo, by show idx.length ≤ 3; omega, hio⟩, hcl.1, hcl.2, hp1, hp2, hil⟩, ?_⟩
      · simp only [go_sem, w.n4]
        exact w.pB
      · have q0 : ∀ q, q < h.nx → ¬ q = h.nx := fun q hq => by omega
        have hr4 := q0 r w.rn
        exact ⟨w.s.cur.same (Nat.le_refl _) (by simp only [go_sem, hr4]), fun q hq hr => by have := q0 q hq; simp only [go_sem, this]; exact w.s.hp q hq hr, w.s.ap, w.s.nx⟩
    | true =>
      obtain ⟨x2, x3, q1, q2, q3⟩ := z1.p5
      simp only [go_sem, Nat.reduceBEq, Nat.reduceAdd, Nat.reduceLeDiff, d.e0, d.e5, q1]
      refine hP_draw (dr_spec_l1Once cs 2) hcode z1.s.cur ?_
      rintro _ h5 ⟨b3, rfl⟩ c5
      have z2 := z1.draw (e' := e2) c5 rfl rfl rfl rfl
      have g2 := q2.step c5.nx fun q _ h2 => c5.ap q h2
      have g3' := q3.step c5.nx fun q _ h2 => c5.ap q h2
      have y4 := z1.x4
      have y5 := z1.x5
      have p55 : h5.hp (h1.nx + 1) = some [.str name, .sl B 0 cols.length 3, x2, x3] := (c5.hp _ y5 (by omega)).trans q1
      have hn5 := z2.s.nx
      have g4 : sFill [.int .i64 0, .bool false] [(0, 1, .int .i64 1), (1, 1, .bool b3)] = some [.int .i64 1, .bool b3] := rfl
      have f4 : fillR (List.replicate 1 [.int .i64 0, .bool false]) 2 [(0, .agg [.int .i64 1, .bool b3])] = some [[.int .i64 1, .bool b3]] := rfl
      have f4z : frzRows [[.int .i64 1, .bool b3]] = some [[.int .i64 1, .bool b3]] := rfl
      have hap : ∀ q, h.nx ≤ q → q < h5.nx → (if q = h5.nx then some (1, 2) else h5.ap q) = h5.ap q := fun q _ hq => if_neg (by omega)
      simp only [go_sem, Nat.reduceBEq, Nat.reduceAdd, g4, f4, f4z]
      refine hP_growB (T := tBy) [(⟨1, b3⟩ : TBy)] rfl (g2.step (by simp) fun q h1 hq => by simp; omega) (by simp; omega) rfl (by simp only [List.length_cons, List.length_nil]; unfold room; omega) ?_
      intro v' h6 k1 k2 k3 k4 k5
      have zv := k1.1.cell.2
      have p56 : h6.hp (h1.nx + 1) = some [.str name, .sl B 0 cols.length 3, x2, x3] := (congrFun k2 _).trans p55
      have g3'' : growsL tIndex h.nx [] x3 h6 := growsL.other (by decide) (g3'.step (h' := ⟨h5.hp, fun r => if r = h5.nx then some (1, 2) else h5.ap r, h5.nx + 1⟩) (Nat.le_succ _) hap) (g2.step (h' := ⟨h5.hp, fun r => if r = h5.nx then some (1, 2) else h5.ap r, h5.nx + 1⟩) (Nat.le_succ _) hap) k3 k5
      have hk : h5.nx + 1 ≤ h6.nx := k3
      simp only [go_sem, kSt_ptr, Nat.reduceBEq, Nat.reduceAdd, Nat.reduceLeDiff, d.e5, p56, zv, cell1 zv, d.e0]
      have z : E9 code r h h.nx (h1.nx + 1) name (h1.nx + 1 + 1) cols [⟨0, b⟩, ⟨1, b3⟩] [] B e2 ⟨fun q => if q = h1.nx + 1 then some [.str name, .sl B 0 cols.length 3, v', x3] else h6.hp q, h6.ap, h6.nx⟩ := by
        obtain ⟨r1, _⟩ := q0 r rn
        have t6 : CurS code r h h6 := curApps z2.s (fun q => congrFun k2 q) (by omega) fun q hq => (k4 q hq).trans (if_neg (by omega))
        have v4 := z2.x4
        have v5 := z2.x5
        have vB := z2.xB
        refine ⟨d.e0, d.e4, d.e5, d.e6, by simp only [go_sem, n45]; exact (congrFun k2 _).trans z2.p4, ⟨v', x3, by simp only [go_sem], k1, g3''⟩, by simp only [go_sem, n5]; exact (congrFun k2 B).trans z2.pB, lB, d3.l4, d3.l5, n45, d3.n4, n5, by show h.nx < h6.nx; omega, by show h1.nx + 1 < h6.nx; omega, by show B < h6.nx; omega, rn, ?_⟩
        exact ⟨t6.cur.same (Nat.le_refl _) (by simp only [go_sem, r1]), fun q hq hr => by obtain ⟨t1, t2⟩ := q0 q hq; simp only [go_sem, t1]; exact t6.hp q hq hr, t6.ap, t6.nx⟩
      have hpo : ∀ p ∈ [(⟨0, b⟩ : TBy), ⟨1, b3⟩], okBy p := fun p hp => by
        simp only [List.mem_cons, List.not_mem_nil, or_false] at hp
        rcases hp with rfl | rfl
        · exact o0
        · exact ⟨by show (0 : Int) ≤ 1; omega, by show (1 : Int) ≤ 20; omega⟩
      obtain ⟨prim, hprim⟩ : ∃ prim : List TBy, prim = [⟨0, b⟩, ⟨1, b3⟩] := ⟨_, rfl⟩
      have hp1 : 1 ≤ prim.length := by rw [hprim]; simp
      have hp2 : prim.length ≤ 2 := by rw [hprim]; simp
      rw [← hprim] at z hpo
      refine hP_draw (dr_spec_l1Below cs 3) hcode z.s.cur ?_
      rintro _ hy ⟨y, rfl, hyy⟩ cy
      replace hyy : 0 ≤ y ∧ y < 3 := hyy
      obtain ⟨k, rfl⟩ : ∃ k : Nat, y = (k : Int) := ⟨y.toNat, by omega⟩
      simp only [go_sem, Nat.reduceBEq]
      refine L1_spec_l9Draw cs hcode hcl (fun idx e6 h6 hil hio w => ?_) k [] _ hy (by simp; omega) (fun x hx => by cases hx) (z.draw cy (by simp only [go_sem, Nat.reduceBEq]) (by simp only [go_sem, Nat.reduceBEq]) (by simp only [go_sem, Nat.reduceBEq]) (by simp only [go_sem, Nat.reduceBEq])) (by simp only [go_sem, Nat.reduceBEq])
      obtain ⟨x2, x3, q1, q2, q3⟩ := w.p5
      have z2 := q2.1.cell.2
      have z3 := q3.1.cell.2
      simp only [go_sem, kSt_ptr, Nat.reduceBEq, Nat.reduceAdd, w.e4, w.e5, w.p4, q1, z2, z3]
      have w4 := w.x4
      refine ⟨fun _ e => (by cases e), _, rfl, ⟨⟨name, cols, prim, idx⟩, ⟨B, x2, x3, rfl, ?_, w.lB, w.xB, q2, q3⟩, ⟨hname, by show cols.length ≤ 8; omega, d.ok, by show prim.length ≤ 4; omega, hpo, by show idx.length ≤ 3; omega, hio⟩, hcl.1, hcl.2, hp1, hp2, hil⟩, ?_⟩
      · simp only [go_sem, w.n4]
        exact w.pB
      · have q0 : ∀ q, q < h.nx → ¬ q = h.nx := fun q hq => by omega
        have hr4 := q0 r w.rn
        exact ⟨w.s.cur.same (Nat.le_refl _) (by simp only [go_sem, hr4]), fun q hq hr => by have := q0 q hq; simp only [go_sem, this]; exact w.s.hp q hq hr, w.s.ap, w.s.nx⟩
theorem drz {h : Hp} {v : AV} {h' : Hp} (p : DrP h v h') : ∃ t, frzE 8 (h'.upper h.nx) v = some t ∧ DefR t := by
  obtain ⟨d, h1, h2, h3, _⟩ := p
  exact ⟨_, h1.frz, d, rfl, h2, h3⟩
end Go.Proofs.YtfjkmpmjohojpaaGreatDoor.Ij
