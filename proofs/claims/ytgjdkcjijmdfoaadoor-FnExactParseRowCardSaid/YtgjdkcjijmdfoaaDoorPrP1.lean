/- What the functions that FnExactParseRow calls answer, for every argument within the law's bounds: part 1. -/
import Derived.Test.YtgjdkcjijmdfoaaDoorPrEvC
import Derived.Test.YtgjdkcjijmdfoaaDoorProg
import Derived.Lib.AtoiAllCases
import Derived.Lib.ItoaLen
import Derived.Lib.ItoaMem
import Derived.Lib.ItoaNum
import Derived.Lib.Split
import Derived.Lib.SplitLaws
set_option linter.unusedVariables false
set_option linter.unusedSimpArgs false
/- The resolved code of what FnExactParseRow calls. -/
namespace Go.Proofs.YtgjdkcjijmdfoaaDoor.Pr
open Go Go.RowKit Go.Ev
set_option linter.unusedSimpArgs false
set_option linter.unusedVariables false
set_option maxHeartbeats 1600000
def s_spec_l1In : SFn := ⟨15, .seq (.rg [⟨some 6, none, .mv (.c (.bool false))⟩]) (.seq (.rg [⟨some 7, none, .mv (.t 0)⟩,
  ⟨some 8, none, .mv (.t 1)⟩,
  ⟨some 9, none, .bin .geq (.t 7) (.t 8)⟩,
  ⟨some 10, none, .mv (.t 9)⟩,
  ⟨some 11, some (10, true), .mv (.t 0)⟩,
  ⟨some 12, some (10, true), .mv (.t 2)⟩,
  ⟨some 13, some (10, true), .bin .leq (.t 11) (.t 12)⟩,
  ⟨some 14, none, .pick (.t 10) (.t 13) (.c (.bool false))⟩,
  ⟨some 6, none, .mv (.t 14)⟩]) (.ret)), [.t 6]⟩
def s_spec_l2Plain_L0 : SCode := .seq (.seq (.rg [⟨some 4, none, .mv (.t 3)⟩,
  ⟨some 5, none, .mv (.t 0)⟩,
  ⟨some 6, none, .lenS (.t 5)⟩,
  ⟨some 7, none, .bin .lss (.t 4) (.t 6)⟩]) (.cond (.t 7) (.skip) (.exit 0))) (.seq (.blk 1 (.seq (.rg [⟨some 10, none, .mv (.t 0)⟩,
  ⟨some 11, none, .mv (.t 3)⟩,
  ⟨some 12, none, .ix (.t 10) (.t 11)⟩,
  ⟨some 13, none, .cvI .i64 (.t 12)⟩,
  ⟨some 14, none, .callP 39 [.t 13, .c (.int .i64 32), .c (.int .i64 126)]⟩,
  ⟨some 15, none, .un .not (.t 14)⟩,
  ⟨some 16, none, .mv (.t 15)⟩,
  ⟨some 17, some (16, false), .mv (.t 0)⟩,
  ⟨some 18, some (16, false), .mv (.t 3)⟩,
  ⟨some 19, some (16, false), .ix (.t 17) (.t 18)⟩,
  ⟨some 20, some (16, false), .bin .eql (.t 19) (.c (.int .u8 39))⟩,
  ⟨some 21, none, .pick (.t 16) (.c (.bool true)) (.t 20)⟩]) (.cond (.t 21) (.seq (.rg [⟨some 2, none, .mv (.c (.bool false))⟩]) (.ret)) (.skip)))) (.rg [⟨some 8, none, .mv (.t 3)⟩,
  ⟨some 9, none, .bin .add (.t 8) (.c (.int .i64 1))⟩,
  ⟨some 3, none, .mv (.t 9)⟩]))
def s_spec_l2Plain : SFn := ⟨22, .seq (.rg [⟨some 2, none, .mv (.c (.bool false))⟩]) (.seq (.seq (.rg [⟨some 3, none, .mv (.c (.int .i64 0))⟩]) (.blk 0 (.loop s_spec_l2Plain_L0))) (.seq (.rg [⟨some 2, none, .mv (.c (.bool true))⟩]) (.ret))), [.t 2]⟩
def s_spec_l2Digit : SFn := ⟨6, .seq (.rg [⟨some 2, none, .mv (.c (.bool false))⟩]) (.seq (.rg [⟨some 3, none, .mv (.t 0)⟩,
  ⟨some 4, none, .cvI .i64 (.t 3)⟩,
  ⟨some 5, none, .callP 39 [.t 4, .c (.int .i64 48), .c (.int .i64 57)]⟩,
  ⟨some 2, none, .mv (.t 5)⟩]) (.ret)), [.t 2]⟩
def s_spec_l2Parse_L0 : SCode := .seq (.seq (.rg [⟨some 35, none, .mv (.t 6)⟩,
  ⟨some 36, none, .mv (.t 0)⟩,
  ⟨some 37, none, .lenS (.t 36)⟩,
  ⟨some 38, none, .bin .lss (.t 35) (.t 37)⟩]) (.cond (.t 38) (.skip) (.exit 0))) (.seq (.blk 1 (.seq (.seq (.rg [⟨some 41, none, .mv (.t 0)⟩,
  ⟨some 42, none, .mv (.t 6)⟩,
  ⟨some 43, none, .ix (.t 41) (.t 42)⟩,
  ⟨some 44, none, .callP 120 [.t 43]⟩,
  ⟨some 45, none, .un .not (.t 44)⟩]) (.cond (.t 45) (.seq (.rg [⟨some 2, none, .mv (.c (.int .i64 0))⟩,
  ⟨some 3, none, .mv (.c (.bool false))⟩]) (.ret)) (.skip))) (.rg [⟨some 46, none, .mv (.t 5)⟩,
  ⟨some 47, none, .bin .mul (.t 46) (.c (.int .i64 10))⟩,
  ⟨some 48, none, .mv (.t 0)⟩,
  ⟨some 49, none, .mv (.t 6)⟩,
  ⟨some 50, none, .ix (.t 48) (.t 49)⟩,
  ⟨some 51, none, .bin .sub (.t 50) (.c (.int .u8 48))⟩,
  ⟨some 52, none, .cvI .i64 (.t 51)⟩,
  ⟨some 53, none, .bin .add (.t 47) (.t 52)⟩,
  ⟨some 5, none, .mv (.t 53)⟩]))) (.rg [⟨some 39, none, .mv (.t 6)⟩,
  ⟨some 40, none, .bin .add (.t 39) (.c (.int .i64 1))⟩,
  ⟨some 6, none, .mv (.t 40)⟩]))
def s_spec_l2Parse : SFn := ⟨58, .seq (.rg [⟨some 2, none, .mv (.c (.int .i64 0))⟩,
  ⟨some 3, none, .mv (.c (.bool false))⟩]) (.seq (.rg [⟨some 7, none, .mv (.t 0)⟩,
  ⟨some 8, none, .lenS (.t 7)⟩,
  ⟨some 9, none, .bin .gtr (.t 8) (.c (.int .i64 0))⟩,
  ⟨some 10, none, .mv (.t 9)⟩,
  ⟨some 11, some (10, true), .mv (.t 0)⟩,
  ⟨some 12, some (10, true), .ix (.t 11) (.c (.int .i64 0))⟩,
  ⟨some 13, some (10, true), .bin .eql (.t 12) (.c (.int .u8 45))⟩,
  ⟨some 14, none, .pick (.t 10) (.t 13) (.c (.bool false))⟩,
  ⟨some 4, none, .mv (.t 14)⟩]) (.seq (.seq (.rg [⟨some 15, none, .mv (.t 4)⟩]) (.cond (.t 15) (.rg [⟨some 16, none, .mv (.t 0)⟩,
  ⟨some 17, none, .sliS (.t 16) (some (.c (.int .i64 1))) none⟩,
  ⟨some 0, none, .mv (.t 17)⟩]) (.skip))) (.seq (.seq (.rg [⟨some 18, none, .mv (.t 0)⟩,
  ⟨some 19, none, .lenS (.t 18)⟩,
  ⟨some 20, none, .callP 39 [.t 19, .c (.int .i64 1), .c (.int .i64 16)]⟩,
  ⟨some 21, none, .un .not (.t 20)⟩,
  ⟨some 22, none, .mv (.t 21)⟩,
  ⟨some 23, some (22, false), .mv (.t 0)⟩,
  ⟨some 24, some (22, false), .ix (.t 23) (.c (.int .i64 0))⟩,
  ⟨some 25, some (22, false), .bin .eql (.t 24) (.c (.int .u8 48))⟩,
  ⟨some 26, some (22, false), .mv (.t 25)⟩,
  ⟨some 27, some (26, true), .mv (.t 0)⟩,
  ⟨some 28, some (26, true), .lenS (.t 27)⟩,
  ⟨some 29, some (26, true), .bin .gtr (.t 28) (.c (.int .i64 1))⟩,
  ⟨some 30, some (26, true), .mv (.t 29)⟩,
  ⟨some 31, some (30, false), .mv (.t 4)⟩,
  ⟨some 32, some (26, true), .pick (.t 30) (.c (.bool true)) (.t 31)⟩,
  ⟨some 33, some (22, false), .pick (.t 26) (.t 32) (.c (.bool false))⟩,
  ⟨some 34, none, .pick (.t 22) (.c (.bool true)) (.t 33)⟩]) (.cond (.t 34) (.seq (.rg [⟨some 2, none, .mv (.c (.int .i64 0))⟩,
  ⟨some 3, none, .mv (.c (.bool false))⟩]) (.ret)) (.skip))) (.seq (.rg [⟨some 5, none, .mv (.c (.int .i64 0))⟩]) (.seq (.seq (.rg [⟨some 6, none, .mv (.c (.int .i64 0))⟩]) (.blk 0 (.loop s_spec_l2Parse_L0))) (.seq (.seq (.rg [⟨some 54, none, .mv (.t 4)⟩]) (.cond (.t 54) (.rg [⟨some 55, none, .mv (.t 5)⟩,
  ⟨some 56, none, .un .neg (.t 55)⟩,
  ⟨some 5, none, .mv (.t 56)⟩]) (.skip))) (.seq (.rg [⟨some 57, none, .mv (.t 5)⟩,
  ⟨some 2, none, .mv (.t 57)⟩,
  ⟨some 3, none, .mv (.c (.bool true))⟩]) (.ret)))))))), [.t 2, .t 3]⟩
def s_spec_l2Val : SFn := ⟨61, .seq (.rg [⟨some 2, none, .alloc [.int .i64 0, .int .i64 0, .str []]⟩,
  ⟨some 3, none, .mv (.c (.bool false))⟩]) (.seq (.seq (.rg [⟨some 7, none, .mv (.t 0)⟩]) (.blk 0 (.seq (.rg [⟨some 9, none, .bin .eql (.t 7) (.c (.str [110, 117, 108, 108]))⟩,
  ⟨some 8, none, .mv (.t 9)⟩]) (.cond (.t 8) (.seq (.rg [⟨some 10, none, .build [.int .i64 0, .int .i64 0, .str []] []⟩,
  ⟨none, none, .st 3 (.t 2) (.t 10)⟩,
  ⟨some 3, none, .mv (.c (.bool true))⟩]) (.ret)) (.seq (.rg [⟨some 12, none, .bin .eql (.t 7) (.c (.str [110, 111]))⟩,
  ⟨some 11, none, .mv (.t 12)⟩]) (.cond (.t 11) (.seq (.rg [⟨some 13, none, .build [.int .i64 0, .int .i64 0, .str []] [(0, (1, .c (.int .i64 4)))]⟩,
  ⟨none, none, .st 3 (.t 2) (.t 13)⟩,
  ⟨some 3, none, .mv (.c (.bool true))⟩]) (.ret)) (.seq (.rg [⟨some 15, none, .bin .eql (.t 7) (.c (.str [121, 101, 115]))⟩,
  ⟨some 14, none, .mv (.t 15)⟩]) (.cond (.t 14) (.seq (.rg [⟨some 16, none, .build [.int .i64 0, .int .i64 0, .str []] [(0, (1, .c (.int .i64 4))), (1, (1, .c (.int .i64 1)))]⟩,
  ⟨none, none, .st 3 (.t 2) (.t 16)⟩,
  ⟨some 3, none, .mv (.c (.bool true))⟩]) (.ret)) (.skip))))))))) (.seq (.seq (.rg [⟨some 17, none, .mv (.t 0)⟩,
  ⟨some 18, none, .lenS (.t 17)⟩,
  ⟨some 19, none, .bin .lss (.t 18) (.c (.int .i64 2))⟩]) (.cond (.t 19) (.seq (.rg [⟨some 20, none, .build [.int .i64 0, .int .i64 0, .str []] []⟩,
  ⟨none, none, .st 3 (.t 2) (.t 20)⟩,
  ⟨some 3, none, .mv (.c (.bool false))⟩]) (.ret)) (.skip))) (.seq (.seq (.rg [⟨some 21, none, .mv (.t 0)⟩,
  ⟨some 22, none, .ix (.t 21) (.c (.int .i64 0))⟩,
  ⟨some 23, none, .bin .eql (.t 22) (.c (.int .u8 39))⟩]) (.cond (.t 23) (.seq (.rg [⟨some 24, none, .mv (.t 0)⟩,
  ⟨some 25, none, .mv (.t 0)⟩,
  ⟨some 26, none, .lenS (.t 25)⟩,
  ⟨some 27, none, .bin .sub (.t 26) (.c (.int .i64 1))⟩,
  ⟨some 28, none, .sliS (.t 24) (some (.c (.int .i64 1))) (some (.t 27))⟩,
  ⟨some 29, none, .build [.int .i64 0, .int .i64 0, .str []] [(0, (1, .c (.int .i64 3))), (2, (1, .t 28))]⟩,
  ⟨some 4, none, .alloc [.int .i64 0, .int .i64 0, .str []]⟩,
  ⟨none, none, .st 3 (.t 4) (.t 29)⟩]) (.seq (.rg [⟨some 30, none, .ldA 3 (.t 4)⟩,
  ⟨some 31, none, .mv (.t 0)⟩,
  ⟨some 32, none, .mv (.t 0)⟩,
  ⟨some 33, none, .lenS (.t 32)⟩,
  ⟨some 34, none, .bin .sub (.t 33) (.c (.int .i64 1))⟩,
  ⟨some 35, none, .ix (.t 31) (.t 34)⟩,
  ⟨some 36, none, .bin .eql (.t 35) (.c (.int .u8 39))⟩,
  ⟨some 37, none, .mv (.t 36)⟩,
  ⟨some 38, some (37, true), .fa 2 (.t 4)⟩,
  ⟨some 39, some (37, true), .ld (.t 38)⟩,
  ⟨some 40, some (37, true), .callP 54 [.t 39]⟩,
  ⟨some 41, none, .pick (.t 37) (.t 40) (.c (.bool false))⟩,
  ⟨none, none, .st 3 (.t 2) (.t 30)⟩,
  ⟨some 3, none, .mv (.t 41)⟩]) (.ret))) (.skip))) (.seq (.rg [⟨some 43, none, .mv (.t 0)⟩,
  ⟨some 44, none, .sliS (.t 43) (some (.c (.int .i64 1))) none⟩,
  ⟨some 45, none, .callP 99 [.t 44]⟩,
  ⟨some 42, none, .mv (.t 45)⟩,
  ⟨some 46, none, .ext (.t 42) 0⟩,
  ⟨some 47, none, .ext (.t 42) 1⟩,
  ⟨some 5, none, .mv (.t 46)⟩,
  ⟨some 6, none, .mv (.t 47)⟩]) (.seq (.seq (.rg [⟨some 48, none, .mv (.t 0)⟩,
  ⟨some 49, none, .ix (.t 48) (.c (.int .i64 0))⟩]) (.blk 1 (.seq (.rg [⟨some 51, none, .bin .eql (.t 49) (.c (.int .u8 105))⟩,
  ⟨some 50, none, .mv (.t 51)⟩]) (.cond (.t 50) (.seq (.rg [⟨some 52, none, .mv (.t 5)⟩,
  ⟨some 53, none, .build [.int .i64 0, .int .i64 0, .str []] [(0, (1, .c (.int .i64 1))), (1, (1, .t 52))]⟩,
  ⟨some 54, none, .mv (.t 6)⟩,
  ⟨none, none, .st 3 (.t 2) (.t 53)⟩,
  ⟨some 3, none, .mv (.t 54)⟩]) (.ret)) (.seq (.rg [⟨some 56, none, .bin .eql (.t 49) (.c (.int .u8 110))⟩,
  ⟨some 55, none, .mv (.t 56)⟩]) (.cond (.t 55) (.seq (.rg [⟨some 57, none, .mv (.t 5)⟩,
  ⟨some 58, none, .build [.int .i64 0, .int .i64 0, .str []] [(0, (1, .c (.int .i64 2))), (1, (1, .t 57))]⟩,
  ⟨some 59, none, .mv (.t 6)⟩,
  ⟨none, none, .st 3 (.t 2) (.t 58)⟩,
  ⟨some 3, none, .mv (.t 59)⟩]) (.ret)) (.skip))))))) (.seq (.rg [⟨some 60, none, .build [.int .i64 0, .int .i64 0, .str []] []⟩,
  ⟨none, none, .st 3 (.t 2) (.t 60)⟩,
  ⟨some 3, none, .mv (.c (.bool false))⟩]) (.ret))))))), [.ldA 2 3, .t 3]⟩
def s_spec_ValOk : SFn := ⟨56, .seq (.rg [⟨some 1, none, .box (.t 0)⟩,
  ⟨some 2, none, .mv (.c (.bool false))⟩]) (.seq (.seq (.rg [⟨some 3, none, .fa 0 (.t 1)⟩,
  ⟨some 4, none, .ld (.t 3)⟩]) (.blk 0 (.seq (.rg [⟨some 6, none, .bin .eql (.t 4) (.c (.int .i64 0))⟩,
  ⟨some 5, none, .mv (.t 6)⟩]) (.cond (.t 5) (.seq (.rg [⟨some 7, none, .fa 1 (.t 1)⟩,
  ⟨some 8, none, .ld (.t 7)⟩,
  ⟨some 9, none, .bin .eql (.t 8) (.c (.int .i64 0))⟩,
  ⟨some 10, none, .mv (.t 9)⟩,
  ⟨some 11, some (10, true), .fa 2 (.t 1)⟩,
  ⟨some 12, some (10, true), .ld (.t 11)⟩,
  ⟨some 13, some (10, true), .bin .eql (.t 12) (.c (.str []))⟩,
  ⟨some 14, none, .pick (.t 10) (.t 13) (.c (.bool false))⟩,
  ⟨some 2, none, .mv (.t 14)⟩]) (.ret)) (.seq (.rg [⟨some 16, none, .bin .eql (.t 4) (.c (.int .i64 1))⟩,
  ⟨some 15, none, .mv (.t 16)⟩]) (.cond (.t 15) (.seq (.rg [⟨some 17, none, .fa 1 (.t 1)⟩,
  ⟨some 18, none, .ld (.t 17)⟩,
  ⟨some 19, none, .callP 39 [.t 18, .c (.int .i64 (-2147483648)), .c (.int .i64 2147483647)]⟩,
  ⟨some 20, none, .mv (.t 19)⟩,
  ⟨some 21, some (20, true), .fa 2 (.t 1)⟩,
  ⟨some 22, some (20, true), .ld (.t 21)⟩,
  ⟨some 23, some (20, true), .bin .eql (.t 22) (.c (.str []))⟩,
  ⟨some 24, none, .pick (.t 20) (.t 23) (.c (.bool false))⟩,
  ⟨some 2, none, .mv (.t 24)⟩]) (.ret)) (.seq (.rg [⟨some 26, none, .bin .eql (.t 4) (.c (.int .i64 2))⟩,
  ⟨some 25, none, .mv (.t 26)⟩]) (.cond (.t 25) (.seq (.rg [⟨some 27, none, .fa 1 (.t 1)⟩,
  ⟨some 28, none, .ld (.t 27)⟩,
  ⟨some 29, none, .callP 39 [.t 28, .c (.int .i64 (-1000000000000000)), .c (.int .i64 1000000000000000)]⟩,
  ⟨some 30, none, .mv (.t 29)⟩,
  ⟨some 31, some (30, true), .fa 2 (.t 1)⟩,
  ⟨some 32, some (30, true), .ld (.t 31)⟩,
  ⟨some 33, some (30, true), .bin .eql (.t 32) (.c (.str []))⟩,
  ⟨some 34, none, .pick (.t 30) (.t 33) (.c (.bool false))⟩,
  ⟨some 2, none, .mv (.t 34)⟩]) (.ret)) (.seq (.rg [⟨some 36, none, .bin .eql (.t 4) (.c (.int .i64 3))⟩,
  ⟨some 35, none, .mv (.t 36)⟩]) (.cond (.t 35) (.seq (.rg [⟨some 37, none, .fa 2 (.t 1)⟩,
  ⟨some 38, none, .ld (.t 37)⟩,
  ⟨some 39, none, .lenS (.t 38)⟩,
  ⟨some 40, none, .bin .leq (.t 39) (.c (.int .i64 30))⟩,
  ⟨some 41, none, .mv (.t 40)⟩,
  ⟨some 42, some (41, true), .fa 1 (.t 1)⟩,
  ⟨some 43, some (41, true), .ld (.t 42)⟩,
  ⟨some 44, some (41, true), .bin .eql (.t 43) (.c (.int .i64 0))⟩,
  ⟨some 45, none, .pick (.t 41) (.t 44) (.c (.bool false))⟩,
  ⟨some 2, none, .mv (.t 45)⟩]) (.ret)) (.seq (.rg [⟨some 47, none, .bin .eql (.t 4) (.c (.int .i64 4))⟩,
  ⟨some 46, none, .mv (.t 47)⟩]) (.cond (.t 46) (.seq (.rg [⟨some 48, none, .fa 1 (.t 1)⟩,
  ⟨some 49, none, .ld (.t 48)⟩,
  ⟨some 50, none, .callP 39 [.t 49, .c (.int .i64 0), .c (.int .i64 1)]⟩,
  ⟨some 51, none, .mv (.t 50)⟩,
  ⟨some 52, some (51, true), .fa 2 (.t 1)⟩,
  ⟨some 53, some (51, true), .ld (.t 52)⟩,
  ⟨some 54, some (51, true), .bin .eql (.t 53) (.c (.str []))⟩,
  ⟨some 55, none, .pick (.t 51) (.t 54) (.c (.bool false))⟩,
  ⟨some 2, none, .mv (.t 55)⟩]) (.ret)) (.skip))))))))))))) (.seq (.rg [⟨some 2, none, .mv (.c (.bool false))⟩]) (.ret))), [.t 2]⟩
def s_spec_ParseVal : SFn := ⟨20, .seq (.rg [⟨some 2, none, .alloc [.int .i64 0, .int .i64 0, .str []]⟩,
  ⟨some 3, none, .mv (.c (.bool false))⟩]) (.seq (.rg [⟨some 7, none, .mv (.t 0)⟩,
  ⟨some 8, none, .callP 79 [.t 7]⟩,
  ⟨some 6, none, .mv (.t 8)⟩,
  ⟨some 9, none, .ext (.t 6) 0⟩,
  ⟨some 10, none, .ext (.t 6) 1⟩,
  ⟨some 4, none, .alloc [.int .i64 0, .int .i64 0, .str []]⟩,
  ⟨none, none, .st 3 (.t 4) (.t 9)⟩,
  ⟨some 5, none, .mv (.t 10)⟩]) (.seq (.seq (.rg [⟨some 11, none, .mv (.t 5)⟩,
  ⟨some 12, none, .un .not (.t 11)⟩,
  ⟨some 13, none, .mv (.t 12)⟩,
  ⟨some 14, some (13, false), .ldA 3 (.t 4)⟩,
  ⟨some 15, some (13, false), .callP 53 [.t 14]⟩,
  ⟨some 16, some (13, false), .un .not (.t 15)⟩,
  ⟨some 17, none, .pick (.t 13) (.c (.bool true)) (.t 16)⟩]) (.cond (.t 17) (.seq (.rg [⟨some 18, none, .build [.int .i64 0, .int .i64 0, .str []] []⟩,
  ⟨none, none, .st 3 (.t 2) (.t 18)⟩,
  ⟨some 3, none, .mv (.c (.bool false))⟩]) (.ret)) (.skip))) (.seq (.rg [⟨some 19, none, .ldA 3 (.t 4)⟩,
  ⟨none, none, .st 3 (.t 2) (.t 19)⟩,
  ⟨some 3, none, .mv (.c (.bool true))⟩]) (.ret)))), [.ldA 2 3, .t 3]⟩
def s_spec_l28Split_L0 : SCode := .seq (.seq (.rg [⟨some 9, none, .mv (.t 7)⟩,
  ⟨some 10, none, .mv (.t 0)⟩,
  ⟨some 11, none, .lenS (.t 10)⟩,
  ⟨some 12, none, .bin .leq (.t 9) (.t 11)⟩]) (.cond (.t 12) (.skip) (.exit 0))) (.seq (.blk 1 (.seq (.rg [⟨some 15, none, .mv (.t 7)⟩,
  ⟨some 16, none, .mv (.t 0)⟩,
  ⟨some 17, none, .lenS (.t 16)⟩,
  ⟨some 18, none, .bin .eql (.t 15) (.t 17)⟩,
  ⟨some 19, none, .mv (.t 18)⟩,
  ⟨some 20, some (19, false), .mv (.t 0)⟩,
  ⟨some 21, some (19, false), .mv (.t 7)⟩,
  ⟨some 22, some (19, false), .ix (.t 20) (.t 21)⟩,
  ⟨some 23, some (19, false), .mv (.t 1)⟩,
  ⟨some 24, some (19, false), .bin .eql (.t 22) (.t 23)⟩,
  ⟨some 25, none, .pick (.t 19) (.c (.bool true)) (.t 24)⟩]) (.cond (.t 25) (.seq (.rg [⟨some 26, none, .mv (.t 5)⟩,
  ⟨some 27, none, .mv (.t 0)⟩,
  ⟨some 28, none, .mv (.t 6)⟩,
  ⟨some 29, none, .mv (.t 7)⟩,
  ⟨some 30, none, .sliS (.t 27) (some (.t 28)) (some (.t 29))⟩,
  ⟨some 31, none, .bslice false [.str []] 1 [(0, .t 30)]⟩,
  ⟨some 32, none, .app false 16 1 (.t 26) (.t 31)⟩,
  ⟨some 5, none, .mv (.t 32)⟩]) (.rg [⟨some 33, none, .mv (.t 7)⟩,
  ⟨some 34, none, .bin .add (.t 33) (.c (.int .i64 1))⟩,
  ⟨some 6, none, .mv (.t 34)⟩])) (.skip)))) (.rg [⟨some 13, none, .mv (.t 7)⟩,
  ⟨some 14, none, .bin .add (.t 13) (.c (.int .i64 1))⟩,
  ⟨some 7, none, .mv (.t 14)⟩]))
def s_spec_l28Split : SFn := ⟨36, .seq (.rg [⟨some 4, none, .mv (.c .snil)⟩]) (.seq (.rg [⟨some 8, none, .bslice false [.str []] 0 []⟩,
  ⟨some 5, none, .mv (.t 8)⟩]) (.seq (.rg [⟨some 6, none, .mv (.c (.int .i64 0))⟩]) (.seq (.seq (.rg [⟨some 7, none, .mv (.c (.int .i64 0))⟩]) (.blk 0 (.loop s_spec_l28Split_L0))) (.seq (.rg [⟨some 35, none, .mv (.t 5)⟩,
  ⟨some 4, none, .mv (.t 35)⟩]) (.ret))))), [.t 4]⟩
def s_spec_ParseRow_L0 : SCode := .seq (.seq (.rg [⟨some 15, none, .mv (.t 6)⟩,
  ⟨some 16, none, .mv (.t 5)⟩,
  ⟨some 17, none, .lenL (.t 16)⟩,
  ⟨some 18, none, .bin .lss (.t 15) (.t 17)⟩]) (.cond (.t 18) (.skip) (.exit 0))) (.seq (.blk 1 (.seq (.rg [⟨some 22, none, .mv (.t 5)⟩,
  ⟨some 23, none, .mv (.t 6)⟩,
  ⟨some 24, none, .ia 1 (.t 22) (.t 23)⟩,
  ⟨some 25, none, .ld (.t 24)⟩,
  ⟨some 26, none, .callP 49 [.t 25]⟩,
  ⟨some 21, none, .mv (.t 26)⟩,
  ⟨some 27, none, .ext (.t 21) 0⟩,
  ⟨some 28, none, .ext (.t 21) 1⟩,
  ⟨some 7, none, .alloc [.int .i64 0, .int .i64 0, .str []]⟩,
  ⟨none, none, .st 3 (.t 7) (.t 27)⟩,
  ⟨some 8, none, .mv (.t 28)⟩]) (.seq (.seq (.rg [⟨some 29, none, .mv (.t 8)⟩,
  ⟨some 30, none, .un .not (.t 29)⟩,
  ⟨some 31, none, .mv (.t 30)⟩,
  ⟨some 32, some (31, false), .mv (.t 6)⟩,
  ⟨some 33, some (31, false), .bin .gtr (.t 32) (.c (.int .i64 7))⟩,
  ⟨some 34, none, .pick (.t 31) (.c (.bool true)) (.t 33)⟩]) (.cond (.t 34) (.seq (.rg [⟨some 35, none, .bslice false [.int .i64 0, .int .i64 0, .str []] 0 []⟩,
  ⟨some 2, none, .mv (.t 35)⟩,
  ⟨some 3, none, .mv (.c (.bool false))⟩]) (.ret)) (.skip))) (.rg [⟨some 36, none, .mv (.t 4)⟩,
  ⟨some 37, none, .ldA 3 (.t 7)⟩,
  ⟨some 38, none, .bslice false [.int .i64 0, .int .i64 0, .str []] 1 [(0, .t 37)]⟩,
  ⟨some 39, none, .app false 32 3 (.t 36) (.t 38)⟩,
  ⟨some 4, none, .mv (.t 39)⟩])))) (.rg [⟨some 19, none, .mv (.t 6)⟩,
  ⟨some 20, none, .bin .add (.t 19) (.c (.int .i64 1))⟩,
  ⟨some 6, none, .mv (.t 20)⟩]))
def s_spec_ParseRow : SFn := ⟨41, .seq (.rg [⟨some 2, none, .mv (.c .snil)⟩,
  ⟨some 3, none, .mv (.c (.bool false))⟩]) (.seq (.rg [⟨some 9, none, .bslice false [.int .i64 0, .int .i64 0, .str []] 0 []⟩,
  ⟨some 4, none, .mv (.t 9)⟩]) (.seq (.seq (.rg [⟨some 10, none, .mv (.t 0)⟩,
  ⟨some 11, none, .bin .eql (.t 10) (.c (.str []))⟩]) (.cond (.t 11) (.seq (.rg [⟨some 12, none, .mv (.t 4)⟩,
  ⟨some 2, none, .mv (.t 12)⟩,
  ⟨some 3, none, .mv (.c (.bool true))⟩]) (.ret)) (.skip))) (.seq (.rg [⟨some 13, none, .mv (.t 0)⟩,
  ⟨some 14, none, .callP 48 [.t 13, .c (.int .u8 32)]⟩,
  ⟨some 5, none, .mv (.t 14)⟩]) (.seq (.seq (.rg [⟨some 6, none, .mv (.c (.int .i64 0))⟩]) (.blk 0 (.loop s_spec_ParseRow_L0))) (.seq (.rg [⟨some 40, none, .mv (.t 4)⟩,
  ⟨some 2, none, .mv (.t 40)⟩,
  ⟨some 3, none, .mv (.c (.bool true))⟩]) (.ret)))))), [.t 2, .t 3]⟩
def s_impl_in : SFn := ⟨15, .seq (.rg [⟨some 6, none, .mv (.c (.bool false))⟩]) (.seq (.rg [⟨some 7, none, .mv (.t 0)⟩,
  ⟨some 8, none, .mv (.t 1)⟩,
  ⟨some 9, none, .bin .geq (.t 7) (.t 8)⟩,
  ⟨some 10, none, .mv (.t 9)⟩,
  ⟨some 11, some (10, true), .mv (.t 0)⟩,
  ⟨some 12, some (10, true), .mv (.t 2)⟩,
  ⟨some 13, some (10, true), .bin .leq (.t 11) (.t 12)⟩,
  ⟨some 14, none, .pick (.t 10) (.t 13) (.c (.bool false))⟩,
  ⟨some 6, none, .mv (.t 14)⟩]) (.ret)), [.t 6]⟩
def s_impl_ValOk : SFn := ⟨56, .seq (.rg [⟨some 1, none, .box (.t 0)⟩,
  ⟨some 2, none, .mv (.c (.bool false))⟩]) (.seq (.seq (.rg [⟨some 3, none, .fa 0 (.t 1)⟩,
  ⟨some 4, none, .ld (.t 3)⟩]) (.blk 0 (.seq (.rg [⟨some 6, none, .bin .eql (.t 4) (.c (.int .i64 0))⟩,
  ⟨some 5, none, .mv (.t 6)⟩]) (.cond (.t 5) (.seq (.rg [⟨some 7, none, .fa 1 (.t 1)⟩,
  ⟨some 8, none, .ld (.t 7)⟩,
  ⟨some 9, none, .bin .eql (.t 8) (.c (.int .i64 0))⟩,
  ⟨some 10, none, .mv (.t 9)⟩,
  ⟨some 11, some (10, true), .fa 2 (.t 1)⟩,
  ⟨some 12, some (10, true), .ld (.t 11)⟩,
  ⟨some 13, some (10, true), .bin .eql (.t 12) (.c (.str []))⟩,
  ⟨some 14, none, .pick (.t 10) (.t 13) (.c (.bool false))⟩,
  ⟨some 2, none, .mv (.t 14)⟩]) (.ret)) (.seq (.rg [⟨some 16, none, .bin .eql (.t 4) (.c (.int .i64 1))⟩,
  ⟨some 15, none, .mv (.t 16)⟩]) (.cond (.t 15) (.seq (.rg [⟨some 17, none, .fa 1 (.t 1)⟩,
  ⟨some 18, none, .ld (.t 17)⟩,
  ⟨some 19, none, .callP 44 [.t 18, .c (.int .i64 (-2147483648)), .c (.int .i64 2147483647)]⟩,
  ⟨some 20, none, .mv (.t 19)⟩,
  ⟨some 21, some (20, true), .fa 2 (.t 1)⟩,
  ⟨some 22, some (20, true), .ld (.t 21)⟩,
  ⟨some 23, some (20, true), .bin .eql (.t 22) (.c (.str []))⟩,
  ⟨some 24, none, .pick (.t 20) (.t 23) (.c (.bool false))⟩,
  ⟨some 2, none, .mv (.t 24)⟩]) (.ret)) (.seq (.rg [⟨some 26, none, .bin .eql (.t 4) (.c (.int .i64 2))⟩,
  ⟨some 25, none, .mv (.t 26)⟩]) (.cond (.t 25) (.seq (.rg [⟨some 27, none, .fa 1 (.t 1)⟩,
  ⟨some 28, none, .ld (.t 27)⟩,
  ⟨some 29, none, .callP 44 [.t 28, .c (.int .i64 (-1000000000000000)), .c (.int .i64 1000000000000000)]⟩,
  ⟨some 30, none, .mv (.t 29)⟩,
  ⟨some 31, some (30, true), .fa 2 (.t 1)⟩,
  ⟨some 32, some (30, true), .ld (.t 31)⟩,
  ⟨some 33, some (30, true), .bin .eql (.t 32) (.c (.str []))⟩,
  ⟨some 34, none, .pick (.t 30) (.t 33) (.c (.bool false))⟩,
  ⟨some 2, none, .mv (.t 34)⟩]) (.ret)) (.seq (.rg [⟨some 36, none, .bin .eql (.t 4) (.c (.int .i64 3))⟩,
  ⟨some 35, none, .mv (.t 36)⟩]) (.cond (.t 35) (.seq (.rg [⟨some 37, none, .fa 1 (.t 1)⟩,
  ⟨some 38, none, .ld (.t 37)⟩,
  ⟨some 39, none, .bin .eql (.t 38) (.c (.int .i64 0))⟩,
  ⟨some 40, none, .mv (.t 39)⟩,
  ⟨some 41, some (40, true), .fa 2 (.t 1)⟩,
  ⟨some 42, some (40, true), .ld (.t 41)⟩,
  ⟨some 43, some (40, true), .lenS (.t 42)⟩,
  ⟨some 44, some (40, true), .bin .leq (.t 43) (.c (.int .i64 30))⟩,
  ⟨some 45, none, .pick (.t 40) (.t 44) (.c (.bool false))⟩,
  ⟨some 2, none, .mv (.t 45)⟩]) (.ret)) (.seq (.rg [⟨some 47, none, .bin .eql (.t 4) (.c (.int .i64 4))⟩,
  ⟨some 46, none, .mv (.t 47)⟩]) (.cond (.t 46) (.seq (.rg [⟨some 48, none, .fa 1 (.t 1)⟩,
  ⟨some 49, none, .ld (.t 48)⟩,
  ⟨some 50, none, .callP 44 [.t 49, .c (.int .i64 0), .c (.int .i64 1)]⟩,
  ⟨some 51, none, .mv (.t 50)⟩,
  ⟨some 52, some (51, true), .fa 2 (.t 1)⟩,
  ⟨some 53, some (51, true), .ld (.t 52)⟩,
  ⟨some 54, some (51, true), .bin .eql (.t 53) (.c (.str []))⟩,
  ⟨some 55, none, .pick (.t 51) (.t 54) (.c (.bool false))⟩,
  ⟨some 2, none, .mv (.t 55)⟩]) (.ret)) (.skip))))))))))))) (.seq (.rg [⟨some 2, none, .mv (.c (.bool false))⟩]) (.ret))), [.t 2]⟩
def s_impl_ValText_L0 : SCode := .seq (.seq (.rg [⟨some 28, none, .mv (.t 3)⟩,
  ⟨some 29, none, .fa 2 (.t 1)⟩,
  ⟨some 30, none, .ld (.t 29)⟩,
  ⟨some 31, none, .lenS (.t 30)⟩,
  ⟨some 32, none, .bin .lss (.t 28) (.t 31)⟩]) (.cond (.t 32) (.skip) (.exit 1))) (.seq (.blk 2 (.seq (.rg [⟨some 35, none, .fa 2 (.t 1)⟩,
  ⟨some 36, none, .ld (.t 35)⟩,
  ⟨some 37, none, .mv (.t 3)⟩,
  ⟨some 38, none, .ix (.t 36) (.t 37)⟩,
  ⟨some 39, none, .bin .lss (.t 38) (.c (.int .u8 32))⟩,
  ⟨some 40, none, .mv (.t 39)⟩,
  ⟨some 41, some (40, false), .fa 2 (.t 1)⟩,
  ⟨some 42, some (40, false), .ld (.t 41)⟩,
  ⟨some 43, some (40, false), .mv (.t 3)⟩,
  ⟨some 44, some (40, false), .ix (.t 42) (.t 43)⟩,
  ⟨some 45, some (40, false), .bin .gtr (.t 44) (.c (.int .u8 126))⟩,
  ⟨some 46, none, .pick (.t 40) (.c (.bool true)) (.t 45)⟩,
  ⟨some 47, none, .mv (.t 46)⟩,
  ⟨some 48, some (47, false), .fa 2 (.t 1)⟩,
  ⟨some 49, some (47, false), .ld (.t 48)⟩,
  ⟨some 50, some (47, false), .mv (.t 3)⟩,
  ⟨some 51, some (47, false), .ix (.t 49) (.t 50)⟩,
  ⟨some 52, some (47, false), .bin .eql (.t 51) (.c (.int .u8 39))⟩,
  ⟨some 53, none, .pick (.t 47) (.c (.bool true)) (.t 52)⟩]) (.cond (.t 53) (.seq (.rg [⟨some 2, none, .mv (.c (.str []))⟩]) (.ret)) (.skip)))) (.rg [⟨some 33, none, .mv (.t 3)⟩,
  ⟨some 34, none, .bin .add (.t 33) (.c (.int .i64 1))⟩,
  ⟨some 3, none, .mv (.t 34)⟩]))
def s_impl_ValText : SFn := ⟨58, .seq (.rg [⟨some 1, none, .box (.t 0)⟩,
  ⟨some 2, none, .mv (.c (.str []))⟩]) (.seq (.seq (.rg [⟨some 4, none, .ldA 3 (.t 1)⟩,
  ⟨some 5, none, .callP 56 [.t 4]⟩,
  ⟨some 6, none, .un .not (.t 5)⟩]) (.cond (.t 6) (.seq (.rg [⟨some 2, none, .mv (.c (.str []))⟩]) (.ret)) (.skip))) (.seq (.seq (.rg [⟨some 7, none, .fa 0 (.t 1)⟩,
  ⟨some 8, none, .ld (.t 7)⟩]) (.blk 0 (.seq (.rg [⟨some 10, none, .bin .eql (.t 8) (.c (.int .i64 0))⟩,
  ⟨some 9, none, .mv (.t 10)⟩]) (.cond (.t 9) (.seq (.rg [⟨some 2, none, .mv (.c (.str [110, 117, 108, 108]))⟩]) (.ret)) (.seq (.rg [⟨some 12, none, .bin .eql (.t 8) (.c (.int .i64 1))⟩,
  ⟨some 11, none, .mv (.t 12)⟩]) (.cond (.t 11) (.seq (.rg [⟨some 13, none, .fa 1 (.t 1)⟩,
  ⟨some 14, none, .ld (.t 13)⟩,
  ⟨some 15, none, .callP 57 [.t 14]⟩,
  ⟨some 16, none, .bin .add (.c (.str [105])) (.t 15)⟩,
  ⟨some 2, none, .mv (.t 16)⟩]) (.ret)) (.seq (.rg [⟨some 18, none, .bin .eql (.t 8) (.c (.int .i64 2))⟩,
  ⟨some 17, none, .mv (.t 18)⟩]) (.cond (.t 17) (.seq (.rg [⟨some 19, none, .fa 1 (.t 1)⟩,
  ⟨some 20, none, .ld (.t 19)⟩,
  ⟨some 21, none, .callP 57 [.t 20]⟩,
  ⟨some 22, none, .bin .add (.c (.str [110])) (.t 21)⟩,
  ⟨some 2, none, .mv (.t 22)⟩]) (.ret)) (.seq (.rg [⟨some 24, none, .bin .eql (.t 8) (.c (.int .i64 4))⟩,
  ⟨some 23, none, .mv (.t 24)⟩]) (.cond (.t 23) (.seq (.seq (.rg [⟨some 25, none, .fa 1 (.t 1)⟩,
  ⟨some 26, none, .ld (.t 25)⟩,
  ⟨some 27, none, .bin .eql (.t 26) (.c (.int .i64 1))⟩]) (.cond (.t 27) (.seq (.rg [⟨some 2, none, .mv (.c (.str [121, 101, 115]))⟩]) (.ret)) (.skip))) (.seq (.rg [⟨some 2, none, .mv (.c (.str [110, 111]))⟩]) (.ret))) (.skip))))))))))) (.seq (.seq (.rg [⟨some 3, none, .mv (.c (.int .i64 0))⟩]) (.blk 1 (.loop s_impl_ValText_L0))) (.seq (.rg [⟨some 54, none, .fa 2 (.t 1)⟩,
  ⟨some 55, none, .ld (.t 54)⟩,
  ⟨some 56, none, .bin .add (.c (.str [39])) (.t 55)⟩,
  ⟨some 57, none, .bin .add (.t 56) (.c (.str [39]))⟩,
  ⟨some 2, none, .mv (.t 57)⟩]) (.ret))))), [.t 2]⟩
def s_impl_ParseVal : SFn := ⟨71, .seq (.rg [⟨some 2, none, .alloc [.int .i64 0, .int .i64 0, .str []]⟩,
  ⟨some 3, none, .mv (.c (.bool false))⟩]) (.seq (.rg [⟨some 4, none, .alloc [.int .i64 0, .int .i64 0, .str []]⟩]) (.seq (.blk 0 (.seq (.rg [⟨some 9, none, .mv (.t 0)⟩,
  ⟨some 10, none, .bin .eql (.t 9) (.c (.str [110, 111]))⟩,
  ⟨some 11, none, .mv (.t 10)⟩,
  ⟨some 12, some (11, false), .mv (.t 0)⟩,
  ⟨some 13, some (11, false), .bin .eql (.t 12) (.c (.str [121, 101, 115]))⟩,
  ⟨some 14, none, .pick (.t 11) (.c (.bool true)) (.t 13)⟩,
  ⟨some 8, none, .mv (.t 14)⟩]) (.cond (.t 8) (.seq (.rg [⟨some 15, none, .build [.int .i64 0, .int .i64 0, .str []] [(0, (1, .c (.int .i64 4)))]⟩,
  ⟨none, none, .st 3 (.t 4) (.t 15)⟩]) (.seq (.rg [⟨some 16, none, .mv (.t 0)⟩,
  ⟨some 17, none, .bin .eql (.t 16) (.c (.str [121, 101, 115]))⟩]) (.cond (.t 17) (.rg [⟨some 18, none, .fa 1 (.t 4)⟩,
  ⟨none, none, .st 1 (.t 18) (.c (.int .i64 1))⟩]) (.skip)))) (.seq (.rg [⟨some 20, none, .mv (.t 0)⟩,
  ⟨some 21, none, .callP 81 [.t 20, .c (.str [105])]⟩,
  ⟨some 22, none, .mv (.t 21)⟩,
  ⟨some 23, some (22, false), .mv (.t 0)⟩,
  ⟨some 24, some (22, false), .callP 81 [.t 23, .c (.str [110])]⟩,
  ⟨some 25, some (22, false), .mv (.t 24)⟩,
  ⟨some 26, some (25, true), .mv (.t 0)⟩,
  ⟨some 27, some (25, true), .bin .neq (.t 26) (.c (.str [110, 117, 108, 108]))⟩,
  ⟨some 28, some (22, false), .pick (.t 25) (.t 27) (.c (.bool false))⟩,
  ⟨some 29, none, .pick (.t 22) (.c (.bool true)) (.t 28)⟩,
  ⟨some 19, none, .mv (.t 29)⟩]) (.cond (.t 19) (.seq (.rg [⟨some 31, none, .mv (.t 0)⟩,
  ⟨some 32, none, .sliS (.t 31) (some (.c (.int .i64 1))) none⟩,
  ⟨some 33, none, .callP 82 [.t 32]⟩,
  ⟨some 30, none, .mv (.t 33)⟩,
  ⟨some 34, none, .ext (.t 30) 0⟩,
  ⟨some 35, none, .ext (.t 30) 1⟩,
  ⟨some 5, none, .mv (.t 34)⟩,
  ⟨some 6, none, .mv (.t 35)⟩]) (.seq (.seq (.rg [⟨some 36, none, .mv (.t 6)⟩,
  ⟨some 37, none, .binI .neq (.t 36) (.c .inil)⟩]) (.cond (.t 37) (.seq (.rg [⟨some 38, none, .build [.int .i64 0, .int .i64 0, .str []] []⟩,
  ⟨none, none, .st 3 (.t 2) (.t 38)⟩,
  ⟨some 3, none, .mv (.c (.bool false))⟩]) (.ret)) (.skip))) (.seq (.rg [⟨some 39, none, .mv (.t 5)⟩,
  ⟨some 40, none, .build [.int .i64 0, .int .i64 0, .str []] [(0, (1, .c (.int .i64 1))), (1, (1, .t 39))]⟩,
  ⟨none, none, .st 3 (.t 4) (.t 40)⟩]) (.seq (.rg [⟨some 41, none, .mv (.t 0)⟩,
  ⟨some 42, none, .ix (.t 41) (.c (.int .i64 0))⟩,
  ⟨some 43, none, .bin .eql (.t 42) (.c (.int .u8 110))⟩]) (.cond (.t 43) (.rg [⟨some 44, none, .fa 0 (.t 4)⟩,
  ⟨none, none, .st 1 (.t 44) (.c (.int .i64 2))⟩]) (.skip)))))) (.seq (.rg [⟨some 46, none, .mv (.t 0)⟩,
  ⟨some 47, none, .lenS (.t 46)⟩,
  ⟨some 48, none, .bin .geq (.t 47) (.c (.int .i64 2))⟩,
  ⟨some 49, none, .mv (.t 48)⟩,
  ⟨some 50, some (49, true), .mv (.t 0)⟩,
  ⟨some 51, some (49, true), .ix (.t 50) (.c (.int .i64 0))⟩,
  ⟨some 52, some (49, true), .bin .eql (.t 51) (.c (.int .u8 39))⟩,
  ⟨some 53, none, .pick (.t 49) (.t 52) (.c (.bool false))⟩,
  ⟨some 45, none, .mv (.t 53)⟩]) (.cond (.t 45) (.rg [⟨some 54, none, .mv (.t 0)⟩,
  ⟨some 55, none, .mv (.t 0)⟩,
  ⟨some 56, none, .lenS (.t 55)⟩,
  ⟨some 57, none, .bin .sub (.t 56) (.c (.int .i64 1))⟩,
  ⟨some 58, none, .sliS (.t 54) (some (.c (.int .i64 1))) (some (.t 57))⟩,
  ⟨some 59, none, .build [.int .i64 0, .int .i64 0, .str []] [(0, (1, .c (.int .i64 3))), (2, (1, .t 58))]⟩,
  ⟨none, none, .st 3 (.t 4) (.t 59)⟩]) (.skip)))))))) (.seq (.seq (.rg [⟨some 60, none, .ldA 3 (.t 4)⟩,
  ⟨some 61, none, .callP 33 [.t 60]⟩,
  ⟨some 7, none, .mv (.t 61)⟩]) (.seq (.rg [⟨some 62, none, .mv (.t 7)⟩,
  ⟨some 63, none, .bin .eql (.t 62) (.c (.str []))⟩,
  ⟨some 64, none, .mv (.t 63)⟩,
  ⟨some 65, some (64, false), .mv (.t 7)⟩,
  ⟨some 66, some (64, false), .mv (.t 0)⟩,
  ⟨some 67, some (64, false), .bin .neq (.t 65) (.t 66)⟩,
  ⟨some 68, none, .pick (.t 64) (.c (.bool true)) (.t 67)⟩]) (.cond (.t 68) (.seq (.rg [⟨some 69, none, .build [.int .i64 0, .int .i64 0, .str []] []⟩,
  ⟨none, none, .st 3 (.t 2) (.t 69)⟩,
  ⟨some 3, none, .mv (.c (.bool false))⟩]) (.ret)) (.skip)))) (.seq (.rg [⟨some 70, none, .ldA 3 (.t 4)⟩,
  ⟨none, none, .st 3 (.t 2) (.t 70)⟩,
  ⟨some 3, none, .mv (.c (.bool true))⟩]) (.ret))))), [.ldA 2 3, .t 3]⟩
def s_impl_ParseRow_L0 : SCode := .seq (.rg [⟨some 15, none, .bin .lss (.t 14) (.t 13)⟩]) (.seq (.cond (.t 15) (.skip) (.exit 0)) (.seq (.blk 1 (.seq (.rg [⟨some 16, none, .ia 1 (.t 12) (.t 14)⟩,
  ⟨some 17, none, .ld (.t 16)⟩,
  ⟨some 6, none, .mv (.t 17)⟩]) (.seq (.rg [⟨some 19, none, .mv (.t 6)⟩,
  ⟨some 20, none, .callP 51 [.t 19]⟩,
  ⟨some 18, none, .mv (.t 20)⟩,
  ⟨some 21, none, .ext (.t 18) 0⟩,
  ⟨some 22, none, .ext (.t 18) 1⟩,
  ⟨some 7, none, .alloc [.int .i64 0, .int .i64 0, .str []]⟩,
  ⟨none, none, .st 3 (.t 7) (.t 21)⟩,
  ⟨some 8, none, .mv (.t 22)⟩]) (.seq (.seq (.rg [⟨some 23, none, .mv (.t 8)⟩,
  ⟨some 24, none, .un .not (.t 23)⟩,
  ⟨some 25, none, .mv (.t 24)⟩,
  ⟨some 26, some (25, false), .mv (.t 4)⟩,
  ⟨some 27, some (25, false), .lenL (.t 26)⟩,
  ⟨some 28, some (25, false), .bin .geq (.t 27) (.c (.int .i64 8))⟩,
  ⟨some 29, none, .pick (.t 25) (.c (.bool true)) (.t 28)⟩]) (.cond (.t 29) (.seq (.rg [⟨some 2, none, .mv (.c .snil)⟩,
  ⟨some 3, none, .mv (.c (.bool false))⟩]) (.ret)) (.skip))) (.rg [⟨some 30, none, .mv (.t 4)⟩,
  ⟨some 31, none, .ldA 3 (.t 7)⟩,
  ⟨some 32, none, .bslice true [.int .i64 0, .int .i64 0, .str []] 1 [(0, .t 31)]⟩,
  ⟨some 33, none, .app true 32 3 (.t 30) (.t 32)⟩,
  ⟨some 4, none, .mv (.t 33)⟩]))))) (.rg [⟨some 34, none, .bin .add (.t 14) (.c (.int .i64 1))⟩,
  ⟨some 14, none, .mv (.t 34)⟩])))
def s_impl_ParseRow : SFn := ⟨36, .seq (.rg [⟨some 2, none, .mv (.c .snil)⟩,
  ⟨some 3, none, .mv (.c (.bool false))⟩]) (.seq (.seq (.rg [⟨some 9, none, .mv (.t 0)⟩,
  ⟨some 10, none, .bin .eql (.t 9) (.c (.str []))⟩]) (.cond (.t 10) (.seq (.rg [⟨some 2, none, .mv (.c .snil)⟩,
  ⟨some 3, none, .mv (.c (.bool true))⟩]) (.ret)) (.skip))) (.seq (.rg [⟨some 4, none, .mv (.c .snil)⟩]) (.seq (.seq (.rg [⟨some 11, none, .mv (.t 0)⟩,
  ⟨some 12, none, .callP 50 [.t 11, .c (.str [32])]⟩,
  ⟨some 13, none, .lenL (.t 12)⟩,
  ⟨some 14, none, .mv (.c (.int .i64 0))⟩]) (.blk 0 (.loop s_impl_ParseRow_L0))) (.seq (.rg [⟨some 35, none, .mv (.t 4)⟩,
  ⟨some 2, none, .mv (.t 35)⟩,
  ⟨some 3, none, .mv (.c (.bool true))⟩]) (.ret))))), [.t 2, .t 3]⟩
def s_laws_eqVal : SFn := ⟨20, .seq (.rg [⟨some 2, none, .box (.t 0)⟩,
  ⟨some 3, none, .box (.t 1)⟩,
  ⟨some 4, none, .mv (.c (.bool false))⟩]) (.seq (.seq (.rg [⟨some 5, none, .fa 0 (.t 2)⟩,
  ⟨some 6, none, .ld (.t 5)⟩,
  ⟨some 7, none, .fa 0 (.t 3)⟩,
  ⟨some 8, none, .ld (.t 7)⟩,
  ⟨some 9, none, .bin .neq (.t 6) (.t 8)⟩]) (.cond (.t 9) (.seq (.rg [⟨some 4, none, .mv (.c (.bool false))⟩]) (.ret)) (.skip))) (.seq (.seq (.rg [⟨some 10, none, .fa 1 (.t 2)⟩,
  ⟨some 11, none, .ld (.t 10)⟩,
  ⟨some 12, none, .fa 1 (.t 3)⟩,
  ⟨some 13, none, .ld (.t 12)⟩,
  ⟨some 14, none, .bin .neq (.t 11) (.t 13)⟩]) (.cond (.t 14) (.seq (.rg [⟨some 4, none, .mv (.c (.bool false))⟩]) (.ret)) (.skip))) (.seq (.seq (.rg [⟨some 15, none, .fa 2 (.t 2)⟩,
  ⟨some 16, none, .ld (.t 15)⟩,
  ⟨some 17, none, .fa 2 (.t 3)⟩,
  ⟨some 18, none, .ld (.t 17)⟩,
  ⟨some 19, none, .bin .neq (.t 16) (.t 18)⟩]) (.cond (.t 19) (.seq (.rg [⟨some 4, none, .mv (.c (.bool false))⟩]) (.ret)) (.skip))) (.seq (.rg [⟨some 4, none, .mv (.c (.bool true))⟩]) (.ret))))), [.t 4]⟩
def s_laws_markText_L0 : SCode := .seq (.seq (.rg [⟨some 6, none, .mv (.t 0)⟩,
  ⟨some 7, none, .bin .gtr (.t 6) (.c (.int .i64 0))⟩]) (.cond (.t 7) (.skip) (.exit 0))) (.blk 1 (.seq (.rg [⟨some 8, none, .mv (.t 0)⟩,
  ⟨some 9, none, .bin .rem (.t 8) (.c (.int .i64 10))⟩,
  ⟨some 10, none, .bin .add (.c (.int .i64 48)) (.t 9)⟩,
  ⟨some 11, none, .cvI .u8 (.t 10)⟩,
  ⟨some 12, none, .bslice false [.int .u8 0] 1 [(0, .t 11)]⟩,
  ⟨some 13, none, .cvS (.t 12)⟩,
  ⟨some 14, none, .mv (.t 3)⟩,
  ⟨some 15, none, .bin .add (.t 13) (.t 14)⟩,
  ⟨some 3, none, .mv (.t 15)⟩]) (.rg [⟨some 16, none, .mv (.t 0)⟩,
  ⟨some 17, none, .bin .quo (.t 16) (.c (.int .i64 10))⟩,
  ⟨some 0, none, .mv (.t 17)⟩])))
def s_laws_markText : SFn := ⟨20, .seq (.rg [⟨some 2, none, .mv (.c (.str []))⟩]) (.seq (.seq (.rg [⟨some 4, none, .mv (.t 0)⟩,
  ⟨some 5, none, .bin .leq (.t 4) (.c (.int .i64 0))⟩]) (.cond (.t 5) (.seq (.rg [⟨some 2, none, .mv (.c (.str [109, 48]))⟩]) (.ret)) (.skip))) (.seq (.rg [⟨some 3, none, .mv (.c (.str []))⟩]) (.seq (.blk 0 (.loop s_laws_markText_L0)) (.seq (.rg [⟨some 18, none, .mv (.t 3)⟩,
  ⟨some 19, none, .bin .add (.c (.str [109])) (.t 18)⟩,
  ⟨some 2, none, .mv (.t 19)⟩]) (.ret))))), [.t 2]⟩
def s_laws_FnExactParseRow : SFn := ⟨66, .seq (.rg [⟨some 2, none, .mv (.c (.bool false))⟩]) (.seq (.seq (.rg [⟨some 11, none, .mv (.t 0)⟩,
  ⟨some 12, none, .lenS (.t 11)⟩,
  ⟨some 13, none, .bin .gtr (.t 12) (.c (.int .i64 1048576))⟩]) (.cond (.t 13) (.seq (.rg [⟨some 2, none, .mv (.c (.bool true))⟩]) (.ret)) (.skip))) (.seq (.rg [⟨some 15, none, .mv (.t 0)⟩,
  ⟨some 16, none, .callP 25 [.t 15]⟩,
  ⟨some 14, none, .mv (.t 16)⟩,
  ⟨some 17, none, .ext (.t 14) 0⟩,
  ⟨some 18, none, .ext (.t 14) 1⟩,
  ⟨some 3, none, .mv (.t 17)⟩,
  ⟨some 4, none, .mv (.t 18)⟩]) (.seq (.rg [⟨some 20, none, .mv (.t 0)⟩,
  ⟨some 21, none, .callD 26 true [.t 20]⟩,
  ⟨some 19, none, .mv (.t 21)⟩,
  ⟨some 22, none, .ext (.t 19) 0⟩,
  ⟨some 23, none, .ext (.t 19) 1⟩,
  ⟨some 5, none, .mv (.t 22)⟩,
  ⟨some 6, none, .mv (.t 23)⟩]) (.seq (.seq (.rg [⟨some 24, none, .mv (.t 5)⟩,
  ⟨some 25, none, .mv (.t 3)⟩,
  ⟨some 26, none, .callD 11 false [.t 24, .t 25]⟩,
  ⟨some 27, none, .un .not (.t 26)⟩,
  ⟨some 28, none, .mv (.t 27)⟩,
  ⟨some 29, some (28, false), .mv (.t 6)⟩,
  ⟨some 30, some (28, false), .mv (.t 4)⟩,
  ⟨some 31, some (28, false), .binB .neq (.t 29) (.t 30)⟩,
  ⟨some 32, none, .pick (.t 28) (.c (.bool true)) (.t 31)⟩]) (.cond (.t 32) (.seq (.rg [⟨some 2, none, .mv (.c (.bool false))⟩]) (.ret)) (.skip))) (.seq (.rg [⟨some 7, none, .mv (.c (.int .i64 1))⟩]) (.seq (.rg [⟨some 33, none, .mv (.t 5)⟩,
  ⟨some 34, none, .mv (.t 7)⟩,
  ⟨some 35, none, .callW 27 [.t 33, .t 34]⟩,
  ⟨some 7, none, .mv (.t 35)⟩]) (.seq (.rg [⟨some 8, none, .mv (.c (.int .i64 1))⟩]) (.seq (.rg [⟨some 36, none, .mv (.t 5)⟩,
  ⟨some 37, none, .mv (.t 8)⟩,
  ⟨some 38, none, .callD 28 false [.t 36, .t 37]⟩,
  ⟨some 8, none, .mv (.t 38)⟩]) (.seq (.seq (.rg [⟨some 39, none, .mv (.t 8)⟩,
  ⟨some 40, none, .bin .lss (.t 39) (.c (.int .i64 0))⟩]) (.cond (.t 40) (.seq (.rg [⟨some 2, none, .mv (.c (.bool false))⟩]) (.ret)) (.skip))) (.seq (.seq (.rg [⟨some 41, none, .mv (.t 8)⟩,
  ⟨some 42, none, .mv (.t 7)⟩,
  ⟨some 43, none, .bin .neq (.t 41) (.t 42)⟩]) (.cond (.t 43) (.seq (.rg [⟨some 2, none, .mv (.c (.bool false))⟩]) (.ret)) (.skip))) (.seq (.rg [⟨some 45, none, .mv (.t 0)⟩,
  ⟨some 46, none, .callD 26 false [.t 45]⟩,
  ⟨some 44, none, .mv (.t 46)⟩,
  ⟨some 47, none, .ext (.t 44) 0⟩,
  ⟨some 48, none, .ext (.t 44) 1⟩,
  ⟨some 9, none, .mv (.t 47)⟩,
  ⟨some 10, none, .mv (.t 48)⟩]) (.seq (.seq (.rg [⟨some 49, none, .mv (.t 9)⟩,
  ⟨some 50, none, .mv (.t 3)⟩,
  ⟨some 51, none, .callD 11 false [.t 49, .t 50]⟩,
  ⟨some 52, none, .un .not (.t 51)⟩,
  ⟨some 53, none, .mv (.t 52)⟩,
  ⟨some 54, some (53, false), .mv (.t 10)⟩,
  ⟨some 55, some (53, false), .mv (.t 4)⟩,
  ⟨some 56, some (53, false), .binB .neq (.t 54) (.t 55)⟩,
  ⟨some 57, none, .pick (.t 53) (.c (.bool true)) (.t 56)⟩]) (.cond (.t 57) (.seq (.rg [⟨some 2, none, .mv (.c (.bool false))⟩]) (.ret)) (.skip))) (.seq (.rg [⟨some 8, none, .mv (.c (.int .i64 1))⟩]) (.seq (.rg [⟨some 58, none, .mv (.t 5)⟩,
  ⟨some 59, none, .mv (.t 8)⟩,
  ⟨some 60, none, .callD 28 false [.t 58, .t 59]⟩,
  ⟨some 8, none, .mv (.t 60)⟩]) (.seq (.seq (.rg [⟨some 61, none, .mv (.t 8)⟩,
  ⟨some 62, none, .bin .lss (.t 61) (.c (.int .i64 0))⟩]) (.cond (.t 62) (.seq (.rg [⟨some 2, none, .mv (.c (.bool false))⟩]) (.ret)) (.skip))) (.seq (.seq (.rg [⟨some 63, none, .mv (.t 8)⟩,
  ⟨some 64, none, .mv (.t 7)⟩,
  ⟨some 65, none, .bin .neq (.t 63) (.t 64)⟩]) (.cond (.t 65) (.seq (.rg [⟨some 2, none, .mv (.c (.bool false))⟩]) (.ret)) (.skip))) (.seq (.rg [⟨some 2, none, .mv (.c (.bool true))⟩]) (.ret)))))))))))))))))), [.t 2]⟩
def b_laws_markValS : SCode := .seq (.rg [⟨some 12, none, .mv (.t 0)⟩,
  ⟨some 13, none, .mv (.t 5)⟩,
  ⟨some 14, none, .mv (.t 1)⟩,
  ⟨some 15, none, .ia 3 (.t 12) (.t 13)⟩,
  ⟨some 16, none, .fa 0 (.t 15)⟩,
  ⟨none, none, .st 1 (.t 16) (.t 14)⟩]) (.seq (.rg [⟨some 17, none, .mv (.t 1)⟩,
  ⟨some 18, none, .bin .add (.t 17) (.c (.int .i64 1))⟩,
  ⟨some 1, none, .mv (.t 18)⟩]) (.seq (.rg [⟨some 19, none, .mv (.t 0)⟩,
  ⟨some 20, none, .mv (.t 5)⟩,
  ⟨some 21, none, .mv (.t 1)⟩,
  ⟨some 22, none, .ia 3 (.t 19) (.t 20)⟩,
  ⟨some 23, none, .fa 1 (.t 22)⟩,
  ⟨none, none, .st 1 (.t 23) (.t 21)⟩]) (.seq (.rg [⟨some 24, none, .mv (.t 1)⟩,
  ⟨some 25, none, .bin .add (.t 24) (.c (.int .i64 1))⟩,
  ⟨some 1, none, .mv (.t 25)⟩]) (.seq (.rg [⟨some 26, none, .mv (.t 0)⟩,
  ⟨some 27, none, .mv (.t 5)⟩,
  ⟨some 28, none, .mv (.t 1)⟩,
  ⟨some 29, none, .callP 52 [.t 28]⟩,
  ⟨some 30, none, .ia 3 (.t 26) (.t 27)⟩,
  ⟨some 31, none, .fa 2 (.t 30)⟩,
  ⟨none, none, .st 1 (.t 31) (.t 29)⟩]) (.rg [⟨some 32, none, .mv (.t 1)⟩,
  ⟨some 33, none, .bin .add (.t 32) (.c (.int .i64 1))⟩,
  ⟨some 1, none, .mv (.t 33)⟩])))))
def b_laws_heldValS : SCode := .seq (.seq (.rg [⟨some 12, none, .mv (.t 0)⟩,
  ⟨some 13, none, .mv (.t 5)⟩,
  ⟨some 14, none, .ia 3 (.t 12) (.t 13)⟩,
  ⟨some 15, none, .fa 0 (.t 14)⟩,
  ⟨some 16, none, .ld (.t 15)⟩,
  ⟨some 17, none, .mv (.t 1)⟩,
  ⟨some 18, none, .bin .neq (.t 16) (.t 17)⟩]) (.cond (.t 18) (.seq (.rg [⟨some 4, none, .mv (.c (.int .i64 (-1)))⟩]) (.ret)) (.skip))) (.seq (.rg [⟨some 19, none, .mv (.t 1)⟩,
  ⟨some 20, none, .bin .add (.t 19) (.c (.int .i64 1))⟩,
  ⟨some 1, none, .mv (.t 20)⟩]) (.seq (.seq (.rg [⟨some 21, none, .mv (.t 0)⟩,
  ⟨some 22, none, .mv (.t 5)⟩,
  ⟨some 23, none, .ia 3 (.t 21) (.t 22)⟩,
  ⟨some 24, none, .fa 1 (.t 23)⟩,
  ⟨some 25, none, .ld (.t 24)⟩,
  ⟨some 26, none, .mv (.t 1)⟩,
  ⟨some 27, none, .bin .neq (.t 25) (.t 26)⟩]) (.cond (.t 27) (.seq (.rg [⟨some 4, none, .mv (.c (.int .i64 (-1)))⟩]) (.ret)) (.skip))) (.seq (.rg [⟨some 28, none, .mv (.t 1)⟩,
  ⟨some 29, none, .bin .add (.t 28) (.c (.int .i64 1))⟩,
  ⟨some 1, none, .mv (.t 29)⟩]) (.seq (.seq (.rg [⟨some 30, none, .mv (.t 0)⟩,
  ⟨some 31, none, .mv (.t 5)⟩,
  ⟨some 32, none, .ia 3 (.t 30) (.t 31)⟩,
  ⟨some 33, none, .fa 2 (.t 32)⟩,
  ⟨some 34, none, .ld (.t 33)⟩,
  ⟨some 35, none, .mv (.t 1)⟩,
  ⟨some 36, none, .callP 52 [.t 35]⟩,
  ⟨some 37, none, .bin .neq (.t 34) (.t 36)⟩]) (.cond (.t 37) (.seq (.rg [⟨some 4, none, .mv (.c (.int .i64 (-1)))⟩]) (.ret)) (.skip))) (.rg [⟨some 38, none, .mv (.t 1)⟩,
  ⟨some 39, none, .bin .add (.t 38) (.c (.int .i64 1))⟩,
  ⟨some 1, none, .mv (.t 39)⟩])))))
def isC : List FuncId := [39, 54, 120, 99, 79, 53, 49, 48, 25, 81, 82, 44, 56, 57, 33, 51, 50, 26, 36, 11, 52, 28]
def rw (f : FuncId) : List Tmp := if f = 26 then List.range 64 else if f = 6 then [21] else []
def fr (f : FuncId) : Bool := false
def dp (f : FuncId) : Nat := if f = 26 then 1 else if f = 70 then 1 else if f = 69 then 1 else if f = 42 then 1 else if f = 20 then 1 else if f = 93 then 1 else if f = 71 then 1 else if f = 21 then 1 else if f = 9 then 1 else if f = 14 then 1 else if f = 11 then 2 else if f = 28 then 2 else 0
noncomputable def EE (cs : List (FuncId × (List AV → Option AV))) : Env := mkE Tryd.prog isC rw fr dp cs
theorem st_spec_l1In_ : stF (EE []) 39 = some (s_spec_l1In) := by kernel_rfl
theorem st_spec_l1In (cs) : stF (EE cs) 39 = some (s_spec_l1In) := (stF_mk cs [] 39).trans st_spec_l1In_
theorem st_spec_l2Plain_ : stF (EE []) 54 = some (s_spec_l2Plain) := by kernel_rfl
theorem st_spec_l2Plain (cs) : stF (EE cs) 54 = some (s_spec_l2Plain) := (stF_mk cs [] 54).trans st_spec_l2Plain_
theorem st_spec_l2Digit_ : stF (EE []) 120 = some (s_spec_l2Digit) := by kernel_rfl
theorem st_spec_l2Digit (cs) : stF (EE cs) 120 = some (s_spec_l2Digit) := (stF_mk cs [] 120).trans st_spec_l2Digit_
theorem st_spec_l2Parse_ : stF (EE []) 99 = some (s_spec_l2Parse) := by kernel_rfl
theorem st_spec_l2Parse (cs) : stF (EE cs) 99 = some (s_spec_l2Parse) := (stF_mk cs [] 99).trans st_spec_l2Parse_
theorem st_spec_l2Val_ : stF (EE []) 79 = some (s_spec_l2Val) := by kernel_rfl
theorem st_spec_l2Val (cs) : stF (EE cs) 79 = some (s_spec_l2Val) := (stF_mk cs [] 79).trans st_spec_l2Val_
theorem st_spec_ValOk_ : stF (EE []) 53 = some (s_spec_ValOk) := by kernel_rfl
theorem st_spec_ValOk (cs) : stF (EE cs) 53 = some (s_spec_ValOk) := (stF_mk cs [] 53).trans st_spec_ValOk_
theorem st_spec_ParseVal_ : stF (EE []) 49 = some (s_spec_ParseVal) := by kernel_rfl
theorem st_spec_ParseVal (cs) : stF (EE cs) 49 = some (s_spec_ParseVal) := (stF_mk cs [] 49).trans st_spec_ParseVal_
theorem st_spec_l28Split_ : stF (EE []) 48 = some (s_spec_l28Split) := by kernel_rfl
theorem st_spec_l28Split (cs) : stF (EE cs) 48 = some (s_spec_l28Split) := (stF_mk cs [] 48).trans st_spec_l28Split_
theorem st_spec_ParseRow_ : stF (EE []) 25 = some (s_spec_ParseRow) := by kernel_rfl
theorem st_spec_ParseRow (cs) : stF (EE cs) 25 = some (s_spec_ParseRow) := (stF_mk cs [] 25).trans st_spec_ParseRow_
theorem st_impl_in_ : stF (EE []) 44 = some (s_impl_in) := by kernel_rfl
theorem st_impl_in (cs) : stF (EE cs) 44 = some (s_impl_in) := (stF_mk cs [] 44).trans st_impl_in_
theorem st_impl_ValOk_ : stF (EE []) 56 = some (s_impl_ValOk) := by kernel_rfl
theorem st_impl_ValOk (cs) : stF (EE cs) 56 = some (s_impl_ValOk) := (stF_mk cs [] 56).trans st_impl_ValOk_
theorem st_impl_ValText_ : stF (EE []) 33 = some (s_impl_ValText) := by kernel_rfl
theorem st_impl_ValText (cs) : stF (EE cs) 33 = some (s_impl_ValText) := (stF_mk cs [] 33).trans st_impl_ValText_
theorem st_impl_ParseVal_ : stF (EE []) 51 = some (s_impl_ParseVal) := by kernel_rfl
theorem st_impl_ParseVal (cs) : stF (EE cs) 51 = some (s_impl_ParseVal) := (stF_mk cs [] 51).trans st_impl_ParseVal_
theorem st_impl_ParseRow_ : stF (EE []) 26 = some (s_impl_ParseRow) := by kernel_rfl
theorem st_impl_ParseRow (cs) : stF (EE cs) 26 = some (s_impl_ParseRow) := (stF_mk cs [] 26).trans st_impl_ParseRow_
theorem st_laws_eqVal_ : stF (EE []) 36 = some (s_laws_eqVal) := by kernel_rfl
theorem st_laws_eqVal (cs) : stF (EE cs) 36 = some (s_laws_eqVal) := (stF_mk cs [] 36).trans st_laws_eqVal_
theorem st_laws_eqValS_ : stF (EE []) 11 = some (eqSF 36 3 false) := by kernel_rfl
theorem st_laws_eqValS (cs) : stF (EE cs) 11 = some (eqSF 36 3 false) := (stF_mk cs [] 11).trans st_laws_eqValS_
theorem st_laws_markText_ : stF (EE []) 52 = some (s_laws_markText) := by kernel_rfl
theorem st_laws_markText (cs) : stF (EE cs) 52 = some (s_laws_markText) := (stF_mk cs [] 52).trans st_laws_markText_
theorem st_laws_markValS_ : stF (EE []) 27 = some (mkF 35 34 b_laws_markValS) := by kernel_rfl
theorem st_laws_markValS (cs) : stF (EE cs) 27 = some (mkF 35 34 b_laws_markValS) := (stF_mk cs [] 27).trans st_laws_markValS_
theorem st_laws_heldValS_ : stF (EE []) 28 = some (mkF 41 40 b_laws_heldValS) := by kernel_rfl
theorem st_laws_heldValS (cs) : stF (EE cs) 28 = some (mkF 41 40 b_laws_heldValS) := (stF_mk cs [] 28).trans st_laws_heldValS_
theorem st_laws_FnExactParseRow_ : stF (EE []) 6 = some (s_laws_FnExactParseRow) := by kernel_rfl
theorem st_laws_FnExactParseRow (cs) : stF (EE cs) 6 = some (s_laws_FnExactParseRow) := (stF_mk cs [] 6).trans st_laws_FnExactParseRow_
theorem entered : entB Tryd.prog isC = true := by kernel_rfl
end Go.Proofs.YtgjdkcjijmdfoaaDoor.Pr
/- The types of FnExactParseRow's arguments, as trees. -/
namespace Go.Proofs.YtgjdkcjijmdfoaaDoor.Pr
open Go Go.RowKit Go.Ev
set_option linter.unusedSimpArgs false
set_option linter.unusedVariables false
set_option maxHeartbeats 1600000
structure TCol where
  fName : List UInt8
  fType : Int
  fNull : Bool
def TCol.row (v : TCol) : List AV := [.str v.fName, .int .i64 v.fType, .bool v.fNull]
theorem TCol.inj (a b : TCol) (h : a.row = b.row) : a = b := by
  obtain ⟨aName, aType, aNull⟩ := a
  obtain ⟨bName, bType, bNull⟩ := b
  simp only [TCol.row, List.cons.injEq, AV.int.injEq, AV.str.injEq, AV.bool.injEq, AV.imm.injEq, true_and, and_true] at h
  obtain ⟨h0, h1, h2⟩ := h
  subst h0
  subst h1
  subst h2
  rfl
def tCol : TD TCol where
  row := TCol.row
  enc v := .agg v.row
  sz := 3
  one := false
  cost v := v.fName.length
  fits v := v.fName.length ≤ 9223372036854775807
  ok v := intT.ok v.fType
  len _ := rfl
  pos := by decide
  inj := TCol.inj
  enc1 h := by cases h
  encA _ _ := rfl
  frz v c hc := by
    simp only [TCol.row, List.mem_cons, List.not_mem_nil, or_false] at hc
    rcases hc with rfl | rfl | rfl <;> exact ⟨rfl, rfl⟩
  fit v h := by omega
  dep := 0
  okd v c hc := by
    simp only [TCol.row, List.mem_cons, List.not_mem_nil, or_false] at hc
    rcases hc with rfl | rfl | rfl
    · exact okV.mono (n := 0) rfl (Nat.zero_le _)
    · exact okV.mono (n := 0) rfl (Nat.zero_le _)
    · exact okV.mono (n := 0) rfl (Nat.zero_le _)
theorem tCol_enc (v : TCol) : tCol.enc v = .agg v.row := rfl
theorem tCol_row : tCol.row = TCol.row := rfl
attribute [go_sem] tCol_enc tCol_row
structure TBy where
  fCol : Int
  fDesc : Bool
def TBy.row (v : TBy) : List AV := [.int .i64 v.fCol, .bool v.fDesc]
theorem TBy.inj (a b : TBy) (h : a.row = b.row) : a = b := by
  obtain ⟨aCol, aDesc⟩ := a
  obtain ⟨bCol, bDesc⟩ := b
  simp only [TBy.row, List.cons.injEq, AV.int.injEq, AV.str.injEq, AV.bool.injEq, AV.imm.injEq, true_and, and_true] at h
  obtain ⟨h0, h1⟩ := h
  subst h0
  subst h1
  rfl
def tBy : TD TBy where
  row := TBy.row
  enc v := .agg v.row
  sz := 2
  one := false
  cost _ := 0
  fits _ := True
  ok v := intT.ok v.fCol
  len _ := rfl
  pos := by decide
  inj := TBy.inj
  enc1 h := by cases h
  encA _ _ := rfl
  frz v c hc := by
    simp only [TBy.row, List.mem_cons, List.not_mem_nil, or_false] at hc
    rcases hc with rfl | rfl <;> exact ⟨rfl, rfl⟩
  fit _ _ := trivial
  dep := 0
  okd v c hc := by
    simp only [TBy.row, List.mem_cons, List.not_mem_nil, or_false] at hc
    rcases hc with rfl | rfl
    · exact okV.mono (n := 0) rfl (Nat.zero_le _)
    · exact okV.mono (n := 0) rfl (Nat.zero_le _)
theorem tBy_enc (v : TBy) : tBy.enc v = .agg v.row := rfl
theorem tBy_row : tBy.row = TBy.row := rfl
attribute [go_sem] tBy_enc tBy_row
structure TIndex where
  fName : List UInt8
  fUnique : Bool
  fParts : List (TBy)
def TIndex.row (v : TIndex) : List AV := [.str v.fName, .bool v.fUnique, .imm (v.fParts.map TBy.row)]
theorem TIndex.inj (a b : TIndex) (h : a.row = b.row) : a = b := by
  obtain ⟨aName, aUnique, aParts⟩ := a
  obtain ⟨bName, bUnique, bParts⟩ := b
  simp only [TIndex.row, List.cons.injEq, AV.int.injEq, AV.str.injEq, AV.bool.injEq, AV.imm.injEq, true_and, and_true] at h
  obtain ⟨h0, h1, h2⟩ := h
  have h2 := TD.map_inj tBy h2
  subst h0
  subst h1
  subst h2
  rfl
def tIndex : TD TIndex where
  row := TIndex.row
  enc v := .agg v.row
  sz := 3
  one := false
  cost v := v.fName.length + (sliceT tBy).cost v.fParts
  fits v := v.fName.length ≤ 9223372036854775807 ∧ (sliceT tBy).fits v.fParts
  ok v := (sliceT tBy).ok v.fParts
  len _ := rfl
  pos := by decide
  inj := TIndex.inj
  enc1 h := by cases h
  encA _ _ := rfl
  frz v c hc := by
    simp only [TIndex.row, List.mem_cons, List.not_mem_nil, or_false] at hc
    rcases hc with rfl | rfl | rfl <;> exact ⟨rfl, rfl⟩
  fit v h := ⟨by omega, (sliceT tBy).fit _ (by omega)⟩
  dep := 1
  okd v c hc := by
    simp only [TIndex.row, List.mem_cons, List.not_mem_nil, or_false] at hc
    rcases hc with rfl | rfl | rfl
    · exact okV.mono (n := 0) rfl (Nat.zero_le _)
    · exact okV.mono (n := 0) rfl (Nat.zero_le _)
    · exact (((sliceT tBy)).okd v.fParts _ (by exact List.mem_singleton.2 rfl)).mono (by decide)
theorem tIndex_enc (v : TIndex) : tIndex.enc v = .agg v.row := rfl
theorem tIndex_row : tIndex.row = TIndex.row := rfl
attribute [go_sem] tIndex_enc tIndex_row
structure TDef where
  fName : List UInt8
  fCols : List (TCol)
  fPrimary : List (TBy)
  fIndexes : List (TIndex)
def TDef.row (v : TDef) : List AV := [.str v.fName, .imm (v.fCols.map TCol.row), .imm (v.fPrimary.map TBy.row), .imm (v.fIndexes.map TIndex.row)]
theorem TDef.inj (a b : TDef) (h : a.row = b.row) : a = b := by
  obtain ⟨aName, aCols, aPrimary, aIndexes⟩ := a
  obtain ⟨bName, bCols, bPrimary, bIndexes⟩ := b
  simp only [TDef.row, List.cons.injEq, AV.int.injEq, AV.str.injEq, AV.bool.injEq, AV.imm.injEq, true_and, and_true] at h
  obtain ⟨h0, h1, h2, h3⟩ := h
  have h1 := TD.map_inj tCol h1
  have h2 := TD.map_inj tBy h2
  have h3 := TD.map_inj tIndex h3
  subst h0
  subst h1
  subst h2
  subst h3
  rfl
def tDef : TD TDef where
  row := TDef.row
  enc v := .agg v.row
  sz := 4
  one := false
  cost v := v.fName.length + (sliceT tCol).cost v.fCols + (sliceT tBy).cost v.fPrimary + (sliceT tIndex).cost v.fIndexes
  fits v := v.fName.length ≤ 9223372036854775807 ∧ (sliceT tCol).fits v.fCols ∧ (sliceT tBy).fits v.fPrimary ∧ (sliceT tIndex).fits v.fIndexes
  ok v := (sliceT tCol).ok v.fCols ∧ (sliceT tBy).ok v.fPrimary ∧ (sliceT tIndex).ok v.fIndexes
  len _ := rfl
  pos := by decide
  inj := TDef.inj
  enc1 h := by cases h
  encA _ _ := rfl
  frz v c hc := by
    simp only [TDef.row, List.mem_cons, List.not_mem_nil, or_false] at hc
    rcases hc with rfl | rfl | rfl | rfl <;> exact ⟨rfl, rfl⟩
  fit v h := ⟨by omega, (sliceT tCol).fit _ (by omega), (sliceT tBy).fit _ (by omega), (sliceT tIndex).fit _ (by omega)⟩
  dep := 2
  okd v c hc := by
    simp only [TDef.row, List.mem_cons, List.not_mem_nil, or_false] at hc
    rcases hc with rfl | rfl | rfl | rfl
    · exact okV.mono (n := 0) rfl (Nat.zero_le _)
    · exact (((sliceT tCol)).okd v.fCols _ (by exact List.mem_singleton.2 rfl)).mono (by decide)
    · exact (((sliceT tBy)).okd v.fPrimary _ (by exact List.mem_singleton.2 rfl)).mono (by decide)
    · exact (((sliceT tIndex)).okd v.fIndexes _ (by exact List.mem_singleton.2 rfl)).mono (by decide)
theorem tDef_enc (v : TDef) : tDef.enc v = .agg v.row := rfl
theorem tDef_row : tDef.row = TDef.row := rfl
attribute [go_sem] tDef_enc tDef_row
structure TVal where
  fK : Int
  fN : Int
  fS : List UInt8
def TVal.row (v : TVal) : List AV := [.int .i64 v.fK, .int .i64 v.fN, .str v.fS]
theorem TVal.inj (a b : TVal) (h : a.row = b.row) : a = b := by
  obtain ⟨aK, aN, aS⟩ := a
  obtain ⟨bK, bN, bS⟩ := b
  simp only [TVal.row, List.cons.injEq, AV.int.injEq, AV.str.injEq, AV.bool.injEq, AV.imm.injEq, true_and, and_true] at h
  obtain ⟨h0, h1, h2⟩ := h
  subst h0
  subst h1
  subst h2
  rfl
def tVal : TD TVal where
  row := TVal.row
  enc v := .agg v.row
  sz := 3
  one := false
  cost v := v.fS.length
  fits v := v.fS.length ≤ 9223372036854775807
  ok v := intT.ok v.fK ∧ intT.ok v.fN
  len _ := rfl
  pos := by decide
  inj := TVal.inj
  enc1 h := by cases h
  encA _ _ := rfl
  frz v c hc := by
    simp only [TVal.row, List.mem_cons, List.not_mem_nil, or_false] at hc
    rcases hc with rfl | rfl | rfl <;> exact ⟨rfl, rfl⟩
  fit v h := by omega
  dep := 0
  okd v c hc := by
    simp only [TVal.row, List.mem_cons, List.not_mem_nil, or_false] at hc
    rcases hc with rfl | rfl | rfl
    · exact okV.mono (n := 0) rfl (Nat.zero_le _)
    · exact okV.mono (n := 0) rfl (Nat.zero_le _)
    · exact okV.mono (n := 0) rfl (Nat.zero_le _)
theorem tVal_enc (v : TVal) : tVal.enc v = .agg v.row := rfl
theorem tVal_row : tVal.row = TVal.row := rfl
attribute [go_sem] tVal_enc tVal_row
end Go.Proofs.YtgjdkcjijmdfoaaDoor.Pr
/- What the functions that FnExactParseRow calls answer: part 1. -/
namespace Go.Proofs.YtgjdkcjijmdfoaaDoor.Pr
open Go Go.RowKit Go.Ev
set_option linter.unusedSimpArgs false
set_option linter.unusedVariables false
set_option maxHeartbeats 1600000
def inR (x a b : Int) : Bool := decide (a ≤ x) && decide (x ≤ b)
theorem ev_spec_l1In (cs) (x a b : Int) : ∃ k n, out (EE cs) k n 39 [.int .i64 x, .int .i64 a, .int .i64 b] = some (.bool (inR x a b)) := by
  refine out_K (n := 0) (st_spec_l1In cs) ?_
  by_cases h1 : a ≤ x
  · simp only [go_sem, kSt_ptr, Nat.reduceBEq, Nat.reduceAdd, Nat.reduceEqDiff, Nat.reduceLeDiff, Nat.reduceSub, reduceIte, Int.reduceBEq, Int.reduceEq, Int.reduceLT, Int.reduceLE, Int.reduceGT, Int.reduceGE, Int.reduceNe, Int.reduceBNe, s_spec_l1In, h1, inR]
  · simp only [go_sem, kSt_ptr, Nat.reduceBEq, Nat.reduceAdd, Nat.reduceEqDiff, Nat.reduceLeDiff, Nat.reduceSub, reduceIte, Int.reduceBEq, Int.reduceEq, Int.reduceLT, Int.reduceLE, Int.reduceGT, Int.reduceGE, Int.reduceNe, Int.reduceBNe, s_spec_l1In, h1, inR]
noncomputable def C_spec_l1In := ct (fun a : Int × Int × Int => [.int .i64 a.1, .int .i64 a.2.1, .int .i64 a.2.2]) (fun _ => True) .bool fun a => inR a.1 a.2.1 a.2.2
theorem C_spec_l1In_eq (x a b : Int) : C_spec_l1In [.int .i64 x, .int .i64 a, .int .i64 b] = some (.bool (inR x a b)) := by
  unfold C_spec_l1In
  exact ct_eq (a := (x, a, b)) (fun a b h => by
    simp only [List.cons.injEq, AV.int.injEq, and_true, true_and] at h
    exact Prod.ext h.1 (Prod.ext h.2.1 h.2.2)) trivial
theorem ok_spec_l1In {WI} (hs : Stable WI) (cs) (hT : TOK (EE cs) WI) : PureOK Tryd.prog WI 39 C_spec_l1In :=
  pure_out hT hs (by rw [st_spec_l1In]; rfl) fun a _ => ev_spec_l1In cs a.1 a.2.1 a.2.2
theorem u8Id (b : UInt8) : IntKind.wrap .i64 (b.toNat : Int) = b.toNat := by
  have := b.toNat_lt
  exact wrapId (by omega) (by omega)
def plainB (b : UInt8) : Bool := inR b.toNat 32 126 && !((b.toNat : Int) == 39)
theorem L_spec_l2Plain (cs) (hT : (EE cs).T 39 = some C_spec_l1In) (s : List UInt8) (hs : s.length ≤ 9223372036854775807) : ∀ (rest pre : List UInt8) (e : Ps) (h : Hp), s = pre ++ rest → e 0 = .str s → e 3 = .int .i64 pre.length →
    WL (EE cs) s_spec_l2Plain_L0 e h fun x e' h' => h' = h ∧ if rest.all plainB = true then x = .exit 0 else x = .ret ∧ e' 2 = .bool false
  | [], pre, e, h, hl, h0, h3 => by
    refine .step (.sim ?_)
    simp only [go_sem, kSt_ptr, Nat.reduceBEq, Nat.reduceAdd, Nat.reduceEqDiff, Nat.reduceLeDiff, Nat.reduceSub, reduceIte, Int.reduceBEq, Int.reduceEq, Int.reduceLT, Int.reduceLE, Int.reduceGT, Int.reduceGE, Int.reduceNe, Int.reduceBNe, s_spec_l2Plain_L0, h0, h3, lt_end hl, List.all_nil]
  | b :: rest, pre, e, h, hl, h0, h3 => by
    have hlt : pre.length < s.length := by rw [hl]; simp
    have hw : IntKind.wrap .i64 ((pre.length : Int) + 1) = (pre.length : Int) + 1 := wrapId (by omega) (by omega)
    have out : ∀ hp : plainB b = false, ∀ (Q : QS), (∀ e', e' 2 = .bool false → Q .ret e' h) → W (EE cs) s_spec_l2Plain_L0 e h Q := by
      intro hp Q hQ
      refine .mono (.sim (Q := fun x e1 h1 => x = .ret ∧ h1 = h ∧ e1 2 = .bool false) ?_) ?_
      · cases hi : inR b.toNat 32 126
        · simp only [go_sem, kSt_ptr, Nat.reduceBEq, Nat.reduceAdd, Nat.reduceEqDiff, Nat.reduceLeDiff, Nat.reduceSub, reduceIte, Int.reduceBEq, Int.reduceEq, Int.reduceLT, Int.reduceLE, Int.reduceGT, Int.reduceGE, Int.reduceNe, Int.reduceBNe, s_spec_l2Plain_L0, h0, h3, lt_map hl, kIx_at hl, u8Id, hT, C_spec_l1In_eq, hi]
        · by_cases hb : (b.toNat : Int) = 39
          · have hbe : ((b.toNat : Int) == 39) = true := by simpa using hb
            simp only [go_sem, kSt_ptr, Nat.reduceBEq, Nat.reduceAdd, Nat.reduceEqDiff, Nat.reduceLeDiff, Nat.reduceSub, reduceIte, Int.reduceBEq, Int.reduceEq, Int.reduceLT, Int.reduceLE, Int.reduceGT, Int.reduceGE, Int.reduceNe, Int.reduceBNe, s_spec_l2Plain_L0, h0, h3, lt_map hl, kIx_at hl, u8Id, hT, C_spec_l1In_eq, hi, hbe]
          · exact absurd hp (by simp only [plainB, hi, beqF hb]; decide)
      · rintro _ e1 _ ⟨rfl, rfl, h2⟩
        exact hQ e1 h2
    cases hp : plainB b
    · refine .step (out hp _ fun e' h2 => ?_)
      simp [hp, h2]
    · simp only [plainB, Bool.and_eq_true, Bool.not_eq_true'] at hp
      refine .step (.mono (.sim (Q := fun x e1 h1 => x = .norm ∧ h1 = h ∧ e1 0 = .str s ∧ e1 3 = .int .i64 ((pre.length : Int) + 1)) ?_) ?_)
      · simp only [go_sem, kSt_ptr, Nat.reduceBEq, Nat.reduceAdd, Nat.reduceEqDiff, Nat.reduceLeDiff, Nat.reduceSub, reduceIte, Int.reduceBEq, Int.reduceEq, Int.reduceLT, Int.reduceLE, Int.reduceGT, Int.reduceGE, Int.reduceNe, Int.reduceBNe, s_spec_l2Plain_L0, h0, h3, lt_map hl, kIx_at hl, u8Id, hT, C_spec_l1In_eq, hp.1, hp.2, hw]
      · rintro _ e1 _ ⟨rfl, rfl, he0, he3⟩
        refine (L_spec_l2Plain cs hT s hs rest (pre ++ [b]) e1 _ (by rw [hl]; simp) he0 (by rw [he3]; simp)).mono ?_
        have hp' : plainB b = true := by simp only [plainB, hp.1, hp.2]; rfl
        simp only [List.all_cons, hp', Bool.true_and]
        exact fun _ _ _ h => h
theorem ev_spec_l2Plain (cs) (hT : (EE cs).T 39 = some C_spec_l1In) (s : List UInt8) (hs : s.length ≤ 9223372036854775807) : ∃ k n, out (EE cs) k n 54 [.str s] = some (.bool (s.all plainB)) := by
  refine out_W (n := 0) (st_spec_l2Plain cs) ?_
  show W _ (.seq _ (.seq (.seq _ (.blk 0 (.loop s_spec_l2Plain_L0))) _)) _ _ _
  refine .cut (M := fun e1 h1 => h1 = Hp.empty ∧ e1 0 = .str s) (.sim (by simp only [go_sem, kSt_ptr, Nat.reduceBEq, Nat.reduceAdd, Nat.reduceEqDiff, Nat.reduceLeDiff, Nat.reduceSub, reduceIte, Int.reduceBEq, Int.reduceEq, Int.reduceLT, Int.reduceLE, Int.reduceGT, Int.reduceGE, Int.reduceNe, Int.reduceBNe])) ?_
  rintro e1 h1 ⟨rfl, k0⟩
  refine .seq (.cut (M := fun e2 h2 => h2 = Hp.empty ∧ e2 0 = .str s ∧ e2 3 = .int .i64 0) (.sim (by simp only [go_sem, kSt_ptr, Nat.reduceBEq, Nat.reduceAdd, Nat.reduceEqDiff, Nat.reduceLeDiff, Nat.reduceSub, reduceIte, Int.reduceBEq, Int.reduceEq, Int.reduceLT, Int.reduceLE, Int.reduceGT, Int.reduceGE, Int.reduceNe, Int.reduceBNe, k0])) ?_)
  rintro e2 h2 ⟨rfl, k0, k3⟩
  refine .blk (.loop ((L_spec_l2Plain cs hT s hs s [] e2 Hp.empty rfl k0 k3).mono ?_))
  rintro x e' h' ⟨rfl, j2⟩
  split at j2
  · rename_i hz
    subst j2
    rw [outOf_exit]
    refine .sim ?_
    simp only [go_sem, kSt_ptr, Nat.reduceBEq, Nat.reduceAdd, Nat.reduceEqDiff, Nat.reduceLeDiff, Nat.reduceSub, reduceIte, Int.reduceBEq, Int.reduceEq, Int.reduceLT, Int.reduceLE, Int.reduceGT, Int.reduceGE, Int.reduceNe, Int.reduceBNe, s_spec_l2Plain, hz]
  · rename_i hz
    have hz' : s.all plainB = false := by simpa using hz
    obtain ⟨rfl, j3⟩ := j2
    simp only [go_sem, kSt_ptr, Nat.reduceBEq, Nat.reduceAdd, Nat.reduceEqDiff, Nat.reduceLeDiff, Nat.reduceSub, reduceIte, Int.reduceBEq, Int.reduceEq, Int.reduceLT, Int.reduceLE, Int.reduceGT, Int.reduceGE, Int.reduceNe, Int.reduceBNe, s_spec_l2Plain, j3, hz']
noncomputable def C_spec_l2Plain := ct (fun a : List UInt8 => [.str a]) (fun a => a.length ≤ 9223372036854775807) .bool fun a => a.all plainB
theorem C_spec_l2Plain_eq (s : List UInt8) (hs : s.length ≤ 9223372036854775807) : C_spec_l2Plain [.str s] = some (.bool (s.all plainB)) := by
  unfold C_spec_l2Plain
  exact ct_eq (a := s) (fun a b h => by simpa using h) hs
theorem ok_spec_l2Plain {WI} (hs : Stable WI) (cs) (hT : TOK (EE cs) WI) (h : (EE cs).T 39 = some C_spec_l1In) : PureOK Tryd.prog WI 54 C_spec_l2Plain := pure_out hT hs (by rw [st_spec_l2Plain]; rfl) fun a h1 => ev_spec_l2Plain cs h a h1
theorem u8i (b : UInt8) : IntKind.wrap .i64 (b.toNat : Int) = b.toNat := by
  have := b.toNat_lt
  exact wrapId (by omega) (by omega)
def smallB (b : UInt8) : Bool := inR b.toNat 97 122
def digitB (b : UInt8) : Bool := inR b.toNat 48 57
def nameB (pre : List UInt8) (b : UInt8) : Bool := smallB b || (!((pre.length : Int) == 0) && digitB b)
def isName (s : List UInt8) : Bool := allP nameB [] s && inR s.length 1 8
def words : List (List UInt8) := [[116, 97, 98, 108, 101], [112, 114, 105, 109, 97, 114, 121], [117, 110, 105, 113, 117, 101], [105, 110, 100, 101, 120], [110, 117, 108, 108], [100, 101, 115, 99], [105, 110, 116], [110, 117, 109], [116, 101, 120, 116], [98, 111, 111, 108]]
def hasS (l : List (List UInt8)) (s : List UInt8) : Bool := !(l.all fun w => !(w == s))
def freeW (s : List UInt8) : Bool := isName s && !(hasS words s)
def defNames (v : TDef) : Bool := (v.fCols.all fun c => freeW c.fName) && ((v.fIndexes.all fun x => freeW x.fName) && freeW v.fName)
def defTypes (v : TDef) : Bool := (v.fCols.all fun c => inR c.fType 1 4) && inR v.fCols.length 1 6
def colF (name : List UInt8) (pre : List TCol) (c : TCol) : Option Int := if c.fName = name then some (pre.length : Int) else none
def colAt (l : List TCol) (name : List UInt8) : Int := (earlyL (colF name) [] l).getD (-1)
def onceC (pre : List TCol) (c : TCol) : Bool := pre.all fun x => !(x.fName == c.fName)
def onceX (pre : List TIndex) (c : TIndex) : Bool := pre.all fun x => !(x.fName == c.fName)
def defOnce (v : TDef) : Bool := allP onceC [] v.fCols && allP onceX [] v.fIndexes
def partP (n : Int) (pre : List TBy) (p : TBy) : Bool := inR p.fCol 0 n && (pre.all fun q => !(q.fCol == p.fCol))
def partsOK (v : TDef) (l : List TBy) : Bool := allP (partP ((v.fCols.length : Int) - 1)) [] l && inR l.length 1 2
def defParts (v : TDef) : Bool := (v.fIndexes.all fun x => partsOK v x.fParts) && partsOK v v.fPrimary
def colNull (v : TDef) (i : Int) : Bool := match v.fCols[i.toNat]? with
  | some c => c.fNull
  | none => false
def primNull (v : TDef) : Bool := v.fPrimary.all fun p => !(colNull v p.fCol)
def checkDef (v : TDef) : Int :=
  if defNames v = false then 1 else if defTypes v = false then 2 else if defOnce v = false then 3 else if (2 : Int) < v.fIndexes.length then 6 else if defParts v = false then 5 else if primNull v = false then 4 else 0

theorem early_col (name : List UInt8) : ∀ (l pre : List TCol), (∀ x ∈ pre, x.fName ≠ name) → ∀ k, earlyL (colF name) pre l = some k → ∃ p c r, pre ++ l = p ++ c :: r ∧ k = p.length ∧ c.fName = name ∧ ∀ x ∈ p, x.fName ≠ name
  | [], pre, hp, k, h => by cases h
  | c :: r, pre, hp, k, h => by
    simp only [earlyL, colF] at h
    by_cases hc : c.fName = name
    · rw [if_pos hc] at h
      simp only [Option.some.injEq] at h
      exact ⟨pre, c, r, rfl, h.symm, hc, hp⟩
    · rw [if_neg hc] at h
      obtain ⟨p, c', r', h1, h2⟩ := early_col name r (pre ++ [c]) (fun x hx => by
        rcases List.mem_append.1 hx with hx | hx
        · exact hp x hx
        · simp only [List.mem_singleton] at hx; subst hx; exact hc) k h
      exact ⟨p, c', r', by rw [← h1]; simp, h2⟩
theorem early_skip (name : List UInt8) : ∀ (p pre l : List TCol), (∀ x ∈ p, x.fName ≠ name) → earlyL (colF name) pre (p ++ l) = earlyL (colF name) (pre ++ p) l
  | [], pre, l, _ => by simp
  | c :: p, pre, l, h => by
    have hc := h c List.mem_cons_self
    simp only [List.cons_append, earlyL, colF, if_neg hc]
    rw [early_skip name p (pre ++ [c]) l fun x hx => h x (List.mem_cons_of_mem _ hx)]
    simp
theorem colAt_once {l pre rest : List TCol} {c : TCol} (hl : l = pre ++ c :: rest) : (colAt l c.fName == (pre.length : Int)) = onceC pre c := by
  by_cases h : ∀ x ∈ pre, x.fName ≠ c.fName
  · have h1 : colAt l c.fName = pre.length := by
      unfold colAt
      rw [hl, early_skip _ pre [] _ h]
      simp [earlyL, colF]
    have h2 : onceC pre c = true := by
      unfold onceC
      rw [List.all_eq_true]
      intro x hx
      simp [h x hx]
    rw [h1, h2, beq_self_eq_true]
  · have h2 : onceC pre c = false := by
      cases h3 : onceC pre c with
      | false => rfl
      | true =>
        unfold onceC at h3
        rw [List.all_eq_true] at h3
        exact absurd (fun x hx => by simpa using h3 x hx) h
    rw [h2]
    have h4 : colAt l c.fName ≠ pre.length := by
      intro e
      unfold colAt at e
      cases he : earlyL (colF c.fName) [] l with
      | none => rw [he] at e; simp only [Option.getD_none] at e; omega
      | some k =>
        rw [he] at e
        simp only [Option.getD_some] at e
        obtain ⟨p, c', r, h5, h6, h7, h8⟩ := early_col c.fName l [] (fun x hx => by cases hx) k he
        have hlen : p.length = pre.length := by omega
        rw [List.nil_append, hl] at h5
        have := List.append_inj_left h5.symm hlen
        subst this
        exact h h8
    simpa using h4
theorem allP_congr {α : Type} {p q : List α → α → Bool} : ∀ (l pre : List α), (∀ pre' v rest, pre ++ l = pre' ++ v :: rest → p pre' v = q pre' v) → allP p pre l = allP q pre l
  | [], _, _ => rfl
  | v :: l, pre, h => by
    simp only [allP]
    rw [h pre v l rfl, allP_congr l (pre ++ [v]) fun pre' w rest he => h pre' w rest (by rw [← he]; simp)]
theorem defLens {v : TDef} (h : tDef.cost v ≤ 1048576) : v.fName.length ≤ 1048576 ∧ v.fCols.length ≤ 1048576 ∧ v.fPrimary.length ≤ 1048576 ∧ v.fIndexes.length ≤ 1048576 ∧ (∀ c ∈ v.fCols, c.fName.length ≤ 1048576) ∧ ∀ x ∈ v.fIndexes, x.fName.length ≤ 1048576 ∧ x.fParts.length ≤ 1048576 := by
  have h0 : v.fName.length + (v.fCols.length + costL tCol v.fCols) + (v.fPrimary.length + costL tBy v.fPrimary) + (v.fIndexes.length + costL tIndex v.fIndexes) ≤ 1048576 := h
  refine ⟨by omega, by omega, by omega, by omega, fun c hc => ?_, fun x hx => ?_⟩
  · have h1 := costL_mem tCol hc
    have h2 : tCol.cost c = c.fName.length := rfl
    omega
  · have h1 := costL_mem tIndex hx
    have h2 : tIndex.cost x = x.fName.length + (x.fParts.length + costL tBy x.fParts) := rfl
    constructor <;> omega
theorem defCols_len {v : TDef} (h : tDef.cost v ≤ 1048576) : IntKind.wrap .i64 ((v.fCols.length : Int) - 1) = (v.fCols.length : Int) - 1 := by
  have := (defLens h).2.1
  exact wrapId (by omega) (by omega)
theorem partsOK_spec (v : TDef) (l : List TBy) : (allP (fun pre p => inR p.fCol 0 ((v.fCols.length : Int) - 1) && !(decide (0 < (pre.length : Int)) && ((l.head?.map (·.fCol)) == some p.fCol))) [] l && inR l.length 1 2) = partsOK v l := by
  unfold partsOK
  by_cases h2 : l.length ≤ 2
  · congr 1
    refine allP_congr l [] fun pre p rest he => ?_
    rw [List.nil_append] at he
    unfold partP
    congr 1
    have hpl : pre.length ≤ 1 := by rw [he] at h2; simp at h2; omega
    match pre, hpl, he with
    | [], _, _ => simp
    | [q], _, he =>
      subst he
      simp
    | _ :: _ :: _, h, _ => simp at h
  · have : inR l.length 1 2 = false := by
      unfold inR
      simp
      omega
    rw [this, Bool.and_false, Bool.and_false]
theorem parts_col {v : TDef} {l : List TBy} (h : partsOK v l = true) : ∀ p ∈ l, 0 ≤ p.fCol ∧ p.fCol.toNat < v.fCols.length := by
  unfold partsOK at h
  simp only [Bool.and_eq_true] at h
  have go : ∀ (l pre : List TBy), allP (partP ((v.fCols.length : Int) - 1)) pre l = true → ∀ p ∈ l, 0 ≤ p.fCol ∧ p.fCol.toNat < v.fCols.length := by
    intro l
    induction l with
    | nil => intro pre _ p hp; cases hp
    | cons x l ih =>
      intro pre hx p hp
      simp only [allP, Bool.and_eq_true] at hx
      rcases List.mem_cons.1 hp with rfl | hp
      · have := hx.1
        unfold partP at this
        simp only [Bool.and_eq_true] at this
        have h1 := this.1
        unfold inR at h1
        simp at h1
        omega
      · exact ih _ hx.2 p hp
  exact go l [] h.1
theorem def_good {v : TDef} (h : checkDef v = 0) : defNames v = true ∧ defTypes v = true ∧ defOnce v = true ∧ v.fIndexes.length ≤ 2 ∧ defParts v = true ∧ primNull v = true := by
  unfold checkDef at h
  cases h1 : defNames v <;> simp [h1] at h
  cases h2 : defTypes v <;> simp [h2] at h
  cases h3 : defOnce v <;> simp [h3] at h
  by_cases h4 : (2 : Int) < v.fIndexes.length
  · simp [h4] at h
  cases h5 : defParts v <;> simp [h4, h5] at h
  cases h6 : primNull v <;> simp [h6] at h
  exact ⟨rfl, rfl, rfl, by omega, rfl, rfl⟩
noncomputable def C_spec_l2Digit := c1 u8T (fun (b : UInt8) => True) (.bool) fun (b : UInt8) => digitB b
theorem C_spec_l2Digit_eq (b : UInt8) (h : True) : C_spec_l2Digit [.int .u8 (b).toNat] = some (.bool ((digitB b))) := c1_eq u8T h
theorem ok_spec_l2Digit {WI : World → Prop} (hs : Stable WI) (cs) (hT : TOK (EE cs) WI) (h : (EE cs).T 39 = some C_spec_l1In) : PureOK Tryd.prog WI 120 C_spec_l2Digit := by
  refine pure1 (E := EE cs) hT hs (by rw [st_spec_l2Digit]; rfl) fun b hp => out_wp (n := 0) (st_spec_l2Digit cs) ?_
  simp only [go_sem, kSt_ptr, Nat.reduceBEq, Nat.reduceAdd, Nat.reduceEqDiff, Nat.reduceLeDiff, Nat.reduceSub, reduceIte, Int.reduceBEq, Int.reduceEq, Int.reduceLT, Int.reduceLE, Int.reduceGT, Int.reduceGE, Int.reduceNe, Int.reduceBNe, s_spec_l2Digit, u8i, h, C_spec_l1In_eq, digitB]
def valOk (v : TVal) : Bool :=
  if v.fK = 0 then v.fN == 0 && v.fS == [] else if v.fK = 1 then inR v.fN (-2147483648) 2147483647 && v.fS == [] else if v.fK = 2 then inR v.fN (-1000000000000000) 1000000000000000 && v.fS == []
  else if v.fK = 3 then decide ((v.fS.length : Int) ≤ 30) && v.fN == 0 else if v.fK = 4 then inR v.fN 0 1 && v.fS == [] else false
theorem valOk_rng {v : TVal} (h : valOk v = true) (hk : v.fK = 1 ∨ v.fK = 2) : -1000000000000000 ≤ v.fN ∧ v.fN ≤ 1000000000000000 := by
  rcases hk with hk | hk <;> simp [valOk, hk, inR] at h <;> omega
theorem valOk_len {v : TVal} (h : valOk v = true) (hk : v.fK = 3) : v.fS.length ≤ 30 := by
  simp [valOk, hk] at h
  omega
theorem valOk_str {v : TVal} (h : valOk v = true) (hk : v.fK ≠ 3) : v.fS = [] := by
  by_cases h0 : v.fK = 0
  · simp [valOk, h0] at h; exact h.2
  by_cases h1 : v.fK = 1
  · simp [valOk, h1] at h; exact h.2
  by_cases h2 : v.fK = 2
  · simp [valOk, h2] at h; exact h.2
  by_cases h4 : v.fK = 4
  · simp [valOk, h4] at h; exact h.2
  · simp [valOk, h0, h1, h2, hk, h4] at h
end Go.Proofs.YtgjdkcjijmdfoaaDoor.Pr
/- What the functions that FnExactParseRow calls answer: part 2. -/
namespace Go.Proofs.YtgjdkcjijmdfoaaDoor.Pr
open Go Go.RowKit Go.Ev
set_option linter.unusedSimpArgs false
set_option linter.unusedVariables false
set_option maxHeartbeats 1600000
def valText (v : TVal) : List UInt8 :=
  if valOk v = false ∨ v.fS.all plainB = false then [] else
  if v.fK = 1 then 105 :: Lib.itoa v.fN else if v.fK = 2 then 110 :: Lib.itoa v.fN else if v.fK = 3 then 39 :: (v.fS ++ [39]) else if v.fK = 4 then (if v.fN = 1 then [121, 101, 115] else [110, 111]) else [110, 117, 108, 108]
theorem valText_len (v : TVal) : (valText v).length ≤ 40 := by
  unfold valText
  split
  · simp
  · rename_i h
    have hv : valOk v = true := by
      cases hv : valOk v
      · exact absurd (Or.inl hv) h
      · rfl
    split
    · rename_i h1
      have hr := valOk_rng hv (.inl h1)
      have := Lib.itoa_length_le v.fN (by omega) (by omega)
      simp; omega
    split
    · rename_i h2
      have hr := valOk_rng hv (.inr h2)
      have := Lib.itoa_length_le v.fN (by omega) (by omega)
      simp; omega
    split
    · rename_i h3
      have := valOk_len hv h3
      simp; omega
    split
    · split <;> simp
    · simp
def digN (b : UInt8) : Bool := decide (48 ≤ b.toNat) && decide (b.toNat ≤ 57)
def dstep (n : Nat) (b : UInt8) : Nat := n * 10 + (b.toNat - 48)
def numD (n : Nat) (l : List UInt8) : Nat := l.foldl dstep n
theorem numD_nil (n : Nat) : numD n [] = n := rfl
theorem numD_cons (n : Nat) (b : UInt8) (r : List UInt8) : numD n (b :: r) = numD (dstep n b) r := by unfold numD; rw [List.foldl_cons]
theorem numD_snoc (b : UInt8) (l : List UInt8) (n : Nat) : numD n (l ++ [b]) = numD n l * 10 + (b.toNat - 48) := by
  unfold numD
  rw [List.foldl_append, List.foldl_cons, List.foldl_nil, dstep]
theorem numD_ge (l : List UInt8) : ∀ n : Nat, n ≤ numD n l := by
  induction l with
  | nil => intro n; rw [numD_nil]; exact Nat.le_refl _
  | cons b l ih =>
    intro n
    rw [numD_cons]
    refine Nat.le_trans ?_ (ih (dstep n b))
    unfold dstep
    omega
theorem numD_lt (l : List UInt8) : ∀ (n : Nat), l.all digN = true → numD n l < (n + 1) * 10 ^ l.length := by
  induction l with
  | nil => intro n _; rw [numD_nil, List.length_nil, Nat.pow_zero, Nat.mul_one]; exact Nat.lt_succ_self n
  | cons b l ih =>
    intro n h
    rw [List.all_cons, Bool.and_eq_true] at h
    have hb : 48 ≤ b.toNat ∧ b.toNat ≤ 57 := by simpa [digN] using h.1
    have h1 := ih (dstep n b) h.2
    have hs : dstep n b + 1 ≤ (n + 1) * 10 := by unfold dstep; omega
    have h2 : (dstep n b + 1) * 10 ^ l.length ≤ ((n + 1) * 10) * 10 ^ l.length := Nat.mul_le_mul_right _ hs
    have h3 : (n + 1) * 10 ^ (b :: l).length = ((n + 1) * 10) * 10 ^ l.length := by
      rw [List.length_cons, Nat.pow_succ, Nat.mul_comm (10 ^ l.length) 10, Nat.mul_assoc]
    rw [h3, numD_cons]
    exact Nat.lt_of_lt_of_le h1 h2
theorem dig48 (d : Nat) (h : d < 10) : (UInt8.ofNat (48 + d)).toNat = 48 + d := by
  rw [UInt8.toNat_ofNat']
  omega
theorem dec_spec : ∀ (u : Nat), numD 0 (Lib.decDigits u) = u ∧ (Lib.decDigits u).all digN = true ∧ Lib.decDigits u ≠ [] ∧ (1 ≤ u → (Lib.decDigits u).head? ≠ some 48) := by
  intro u
  induction u using Nat.strongRecOn with
  | _ u ih =>
    by_cases h : u < 10
    · rw [Lib.decDigits_one h]
      have hd := dig48 u h
      refine ⟨by rw [numD_cons, numD_nil, dstep, hd]; omega, by simp only [List.all_cons, List.all_nil, digN, hd, Bool.and_true, Bool.and_eq_true, decide_eq_true_eq]; omega, by simp, fun h1 e => ?_⟩
      simp only [List.head?_cons, Option.some.injEq] at e
      have := congrArg UInt8.toNat e
      rw [hd] at this
      have h48 : (48 : UInt8).toNat = 48 := rfl
      omega
    · have he : Lib.decDigits u = Lib.decDigits (u / 10) ++ [UInt8.ofNat (48 + u % 10)] := by rw [Lib.decDigits, dif_neg h]
      obtain ⟨i1, i2, i3, i4⟩ := ih (u / 10) (by omega)
      have hd := dig48 (u % 10) (by omega)
      rw [he]
      refine ⟨by rw [numD_snoc, i1, hd]; omega, by rw [List.all_append, i2]; simp only [List.all_cons, List.all_nil, digN, hd, Bool.and_true, Bool.true_and, Bool.and_eq_true, decide_eq_true_eq]; omega, by simp, fun _ => ?_⟩
      obtain ⟨c, r, hc⟩ := List.exists_cons_of_ne_nil i3
      rw [hc] at i4 ⊢
      exact i4 (by omega)
theorem dec_of : ∀ (l : List UInt8), l.all digN = true → l ≠ [] → (l.head? ≠ some 48 ∨ l.length = 1) → Lib.decDigits (numD 0 l) = l := by
  have gen : ∀ (k : Nat) (l : List UInt8), l.length = k → l.all digN = true → l ≠ [] → (l.head? ≠ some 48 ∨ l.length = 1) → Lib.decDigits (numD 0 l) = l := by
    intro k
    induction k with
    | zero => intro l hl _ hn; exact absurd (List.eq_nil_of_length_eq_zero hl) hn
    | succ k ih =>
      intro l hl ha hn hh
      obtain ⟨p, b, rfl⟩ : ∃ p b, l = p ++ [b] := ⟨l.dropLast, l.getLast hn, (List.dropLast_concat_getLast hn).symm⟩
      rw [List.all_append, Bool.and_eq_true] at ha
      have hb : 48 ≤ b.toNat ∧ b.toNat ≤ 57 := by simpa [digN] using ha.2
      have hbe : UInt8.ofNat (48 + (b.toNat - 48)) = b := by rw [show 48 + (b.toNat - 48) = b.toNat by omega]; simp
      rw [numD_snoc]
      cases p with
      | nil =>
        rw [numD_nil, List.nil_append, Nat.zero_mul, Nat.zero_add, Lib.decDigits_one (by omega), hbe]
      | cons c r =>
        have hc : c ≠ 48 := by
          rcases hh with hh | hh
          · simpa using hh
          · simp at hh
        have hcd : 48 ≤ c.toNat ∧ c.toNat ≤ 57 := by
          have := ha.1
          simp only [List.all_cons, Bool.and_eq_true, digN, decide_eq_true_eq] at this
          exact this.1
        have hc1 : 49 ≤ c.toNat := by
          rcases Nat.lt_or_ge 48 c.toNat with h | h
          · exact h
          · exact absurd (UInt8.toNat_inj.1 (show c.toNat = (48 : UInt8).toNat by have h48 : (48 : UInt8).toNat = 48 := rfl; omega)) hc
        have hi := ih (c :: r) (by simpa using hl) ha.1 (by simp) (.inl (by simpa using hc))
        have hge : 1 ≤ numD 0 (c :: r) := by rw [numD_cons]; exact Nat.le_trans (by unfold dstep; omega) (numD_ge r _)
        rw [Lib.decDigits, dif_neg (by omega), show (numD 0 (c :: r) * 10 + (b.toNat - 48)) / 10 = numD 0 (c :: r) by omega, show (numD 0 (c :: r) * 10 + (b.toNat - 48)) % 10 = b.toNat - 48 by omega, hi, hbe]
  exact fun l => gen l.length l rfl
theorem dlen : ∀ (k u : Nat), u < 10 ^ k → 1 ≤ k → Lib.nDigits u ≤ k
  | 0, _, _, h => by omega
  | k + 1, u, hk, _ => by
    by_cases h10 : u < 10
    · rw [Lib.nDigits_small h10]; omega
    · rw [Lib.nDigits_big h10]
      have hq : u / 10 < 10 ^ k := by rw [Nat.pow_succ] at hk; omega
      have hk1 : 1 ≤ k := by
        cases k with
        | zero => simp at hq; omega
        | succ k => omega
      have := dlen k (u / 10) hq hk1
      omega
theorem dec_len16 {u : Nat} (h : u < 10 ^ 16) : (Lib.decDigits u).length ≤ 16 := by
  rw [Lib.decDigits_length]
  exact dlen 16 u h (by omega)
theorem parseU (l : List UInt8) : ∀ (acc : Nat), l.all digN = true → numD acc l < 1000000000000000000 → Lib.parseUint10 acc l = .ok (numD acc l) := by
  induction l with
  | nil => intro acc _ _; rfl
  | cons b l ih =>
    intro acc ha hn
    rw [List.all_cons, Bool.and_eq_true] at ha
    have hb : 48 ≤ b.toNat ∧ b.toNat ≤ 57 := by simpa [digN] using ha.1
    have hge := numD_ge l (dstep acc b)
    rw [numD_cons] at hn ⊢
    have hd : acc * 10 + (b.toNat - 48) = dstep acc b := rfl
    have hlo : acc * 10 ≤ dstep acc b := by unfold dstep; omega
    rw [Lib.parseUint10, if_pos hb, if_neg (by omega), hd, if_neg (by omega)]
    exact ih _ ha.2 hn
theorem atoi_itoa (n : Int) (h : -1000000000000000 ≤ n ∧ n ≤ 1000000000000000) : Lib.atoiAll (Lib.itoa n) = .ok n := by
  have mag : ∀ u : Nat, u ≤ 1000000000000000 → Lib.parseMag (Lib.decDigits u) = .ok u := fun u hu => by
    obtain ⟨i1, i2, i3, _⟩ := dec_spec u
    unfold Lib.parseMag
    rw [if_neg i3, parseU _ 0 i2 (by rw [i1]; omega), i1]
  by_cases hn : n < 0
  · obtain ⟨u, rfl⟩ : ∃ u : Nat, n = -(u : Int) := ⟨n.natAbs, by omega⟩
    rw [Lib.itoa_neg u (by omega), Lib.atoiAll_minus, mag u (by omega)]
    simp only [Lib.signed]
    rw [if_neg (by omega)]
  · obtain ⟨u, rfl⟩ : ∃ u : Nat, n = (u : Int) := ⟨n.toNat, by omega⟩
    rw [Lib.itoa_nonneg]
    obtain ⟨i1, i2, i3, _⟩ := dec_spec u
    have hm := mag u (by omega)
    obtain ⟨c, r, hc⟩ := List.exists_cons_of_ne_nil i3
    rw [hc] at hm i2 ⊢
    simp only [List.all_cons, Bool.and_eq_true, digN, decide_eq_true_eq] at i2
    rw [Lib.atoiAll_plain c r (by omega) (by omega), hm]
    simp only [Lib.signless]
    rw [if_neg (by omega)]
/-- A numeral, as the reference reads it. -/
def parse2 (s : List UInt8) : Int × Bool :=
  let minus := s.head? == some 45
  let t := if minus then s.tail else s
  if inR t.length 1 16 = false ∨ (t.head? = some 48 ∧ ((1 : Int) < t.length ∨ minus = true)) ∨ t.all digN = false then (0, false) else (if minus then -(numD 0 t : Int) else numD 0 t, true)
theorem parse2_of {s t : List UInt8} {m : Bool} (hm : (s.head? == some 45) = m) (ht : t = if m then s.tail else s) :
    parse2 s = if inR t.length 1 16 = false ∨ (t.head? = some 48 ∧ ((1 : Int) < t.length ∨ m = true)) ∨ t.all digN = false then (0, false) else (if m then -(numD 0 t : Int) else numD 0 t, true) := by
  subst hm; subst ht; rfl
theorem parse2_itoa {s : List UInt8} (h : (parse2 s).2 = true) : Lib.itoa (parse2 s).1 = s := by
  cases hm : (s.head? == some 45)
  · have hpo := parse2_of hm (t := s) rfl
    by_cases hc : inR s.length 1 16 = false ∨ (s.head? = some 48 ∧ ((1 : Int) < s.length ∨ false = true)) ∨ s.all digN = false
    · rw [hpo, if_pos hc] at h; cases h
    rw [hpo, if_neg hc]
    simp only [not_or, not_and, inR, Bool.not_eq_false, Bool.and_eq_true, decide_eq_true_eq] at hc
    obtain ⟨h1, h2, h3⟩ := hc
    show Lib.itoa (numD 0 s : Int) = s
    rw [Lib.itoa_nonneg]
    refine dec_of s h3 (fun e => by subst e; simp at h1) ?_
    by_cases h48 : s.head? = some 48
    · have := h2 h48
      exact .inr (by omega)
    · exact .inl h48
  · obtain ⟨r, rfl⟩ : ∃ r, s = 45 :: r := by
      cases s with
      | nil => simp at hm
      | cons c r => simp at hm; exact ⟨r, by rw [hm]⟩
    have hpo := parse2_of hm (t := r) rfl
    by_cases hc : inR r.length 1 16 = false ∨ (r.head? = some 48 ∧ ((1 : Int) < r.length ∨ true = true)) ∨ r.all digN = false
    · rw [hpo, if_pos hc] at h; cases h
    rw [hpo, if_neg hc]
    simp only [not_or, not_and, inR, Bool.not_eq_false, Bool.and_eq_true, decide_eq_true_eq] at hc
    obtain ⟨h1, h2, h3⟩ := hc
    show Lib.itoa (-(numD 0 r : Int)) = 45 :: r
    have h48 : r.head? ≠ some 48 := fun e => (h2 e).2 trivial
    have hr : r ≠ [] := fun e => by subst e; simp at h1
    have hd := dec_of r h3 hr (.inl h48)
    have hpos : 1 ≤ numD 0 r := by
      obtain ⟨c, q, rfl⟩ := List.exists_cons_of_ne_nil hr
      simp only [List.head?_cons, ne_eq, Option.some.injEq] at h48
      simp only [List.all_cons, Bool.and_eq_true] at h3
      have hcd : 48 ≤ c.toNat ∧ c.toNat ≤ 57 := by simpa [digN] using h3.1
      have : 49 ≤ c.toNat := by
        rcases Nat.lt_or_ge 48 c.toNat with h | h
        · exact h
        · exact absurd (UInt8.toNat_inj.1 (show c.toNat = (48 : UInt8).toNat by have h48 : (48 : UInt8).toNat = 48 := rfl; omega)) h48
      rw [numD_cons]
      exact Nat.le_trans (by unfold dstep; omega) (numD_ge q _)
    rw [Lib.itoa_neg _ hpos, hd]
theorem itoa_parse2 (n : Int) (h : -1000000000000000 ≤ n ∧ n ≤ 1000000000000000) : parse2 (Lib.itoa n) = (n, true) := by
  by_cases hn : n < 0
  · obtain ⟨u, rfl⟩ : ∃ u : Nat, n = -(u : Int) := ⟨n.natAbs, by omega⟩
    rw [Lib.itoa_neg u (by omega)]
    obtain ⟨i1, i2, i3, i4⟩ := dec_spec u
    have hl := dec_len16 (u := u) (by omega)
    have hp := List.length_pos_iff.2 i3
    unfold parse2
    simp only [List.head?_cons, List.tail_cons, beq_self_eq_true, if_true]
    rw [if_neg, i1]
    simp only [not_or, not_and, inR, Bool.not_eq_false, Bool.and_eq_true, decide_eq_true_eq]
    exact ⟨by omega, fun e => absurd e (i4 (by omega)), i2⟩
  · obtain ⟨u, rfl⟩ : ∃ u : Nat, n = (u : Int) := ⟨n.toNat, by omega⟩
    rw [Lib.itoa_nonneg]
    obtain ⟨i1, i2, i3, i4⟩ := dec_spec u
    have hl := dec_len16 (u := u) (by omega)
    have hp := List.length_pos_iff.2 i3
    have hm : ((Lib.decDigits u).head? == some 45) = false := by
      obtain ⟨c, r, hc⟩ := List.exists_cons_of_ne_nil i3
      rw [hc] at i2 ⊢
      simp only [List.all_cons, Bool.and_eq_true, digN, decide_eq_true_eq] at i2
      simp only [List.head?_cons, beq_eq_false_iff_ne, ne_eq, Option.some.injEq]
      rintro rfl
      have h45 : (45 : UInt8).toNat = 45 := rfl
      omega
    unfold parse2
    simp only [hm, Bool.false_eq_true, if_false]
    rw [if_neg, i1]
    simp only [not_or, not_and, inR, Bool.not_eq_false, Bool.and_eq_true, decide_eq_true_eq]
    refine ⟨by omega, fun e => ⟨?_, by simp⟩, i2⟩
    by_cases h0 : 1 ≤ u
    · exact absurd e (i4 h0)
    · have : u = 0 := by omega
      subst this
      rw [Lib.decDigits_one (by omega)]
      simp
theorem sli_tail (c : UInt8) (r : List UInt8) : sIdxS (.str (c :: r)) (some (.int .i64 1)) none = some (.str r) := by
  have h1 : (1 : Int) ≤ (((c :: r).length : Nat) : Int) := by simp; omega
  simp only [sIdxS, asNat, Option.bind_some, List.take_length]
  rw [if_pos ⟨by decide, h1⟩]
  rfl
theorem sli_mid (c z : UInt8) (m : List UInt8) : sIdxS (.str (c :: (m ++ [z]))) (some (.int .i64 1)) (some (.int .i64 ((m.length : Int) + 1))) = some (.str m) := by
  have h1 : (((c :: (m ++ [z])).length : Nat) : Int) = (m.length : Int) + 2 := by simp; omega
  have h2 : ((m.length : Int) + 1).toNat = m.length + 1 := by omega
  simp only [sIdxS, asNat]
  rw [if_pos ⟨by omega, by omega⟩, Option.bind_some, h2, if_pos ⟨by decide, by omega⟩]
  simp
theorem ix_head (c : UInt8) (r : List UInt8) (h : Hp) : kIx (.str (c :: r)) (.int .i64 0) h = some (.int .u8 c.toNat, h) := kIx_str (by decide) rfl
theorem u8eq {b c : UInt8} (h : b = c) : ((b.toNat : Int) == (c.toNat : Int)) = true := by subst h; simp
theorem u8ne {b c : UInt8} (h : ¬ b = c) : ((b.toNat : Int) == (c.toNat : Int)) = false := by
  simp only [beq_eq_false_iff_ne, ne_eq]
  exact fun e => h (UInt8.toNat_inj.1 (by omega))
theorem u8q39 : (((39 : UInt8).toNat : Int) == 39) = true := by decide
theorem u8q105 : (((105 : UInt8).toNat : Int) == 105) = true := by decide
theorem u8q110 : (((110 : UInt8).toNat : Int) == 110) = true := by decide
end Go.Proofs.YtgjdkcjijmdfoaaDoor.Pr
/- What the functions that FnExactParseRow calls answer: part 3. -/
namespace Go.Proofs.YtgjdkcjijmdfoaaDoor.Pr
open Go Go.RowKit Go.Ev
set_option linter.unusedSimpArgs false
set_option linter.unusedVariables false
set_option maxHeartbeats 1600000
theorem digitN (b : UInt8) : digitB b = digN b := by
  unfold digitB digN inR
  congr 1 <;> (apply decide_eq_decide.2; omega)
noncomputable def C_spec_l2Parse := c1 strT (fun (s : List UInt8) => s.length ≤ 1048576) (fun x => .tup [.int .i64 x.1, .bool x.2]) fun (s : List UInt8) => parse2 s
theorem C_spec_l2Parse_eq (s : List UInt8) (h : s.length ≤ 1048576) : C_spec_l2Parse [.str s] = some (.tup [.int .i64 ((parse2 s).1), .bool ((parse2 s).2)]) := c1_eq strT h
theorem ok_spec_l2Parse {WI : World → Prop} (hs : Stable WI) (cs) (hT : TOK (EE cs) WI) (h1 : (EE cs).T 120 = some C_spec_l2Digit) (h2 : (EE cs).T 39 = some C_spec_l1In) : PureOK Tryd.prog WI 99 C_spec_l2Parse := by
  refine pure1 (E := EE cs) hT hs (by rw [st_spec_l2Parse]; rfl) fun s hp => out_wp (n := 0) (st_spec_l2Parse cs) ?_
  have loop : ∀ (t : List UInt8) (m : Bool) (e : Ps) (h : Hp), t.length ≤ 16 → e 0 = .str t → e 4 = .bool m → e 5 = .int .i64 0 → e 6 = .int .i64 0 → WL (EE cs) s_spec_l2Parse_L0 e h fun x e' h' => (t.all digN = true ∧ x = .exit 0 ∧ e' 4 = .bool m ∧ e' 5 = .int .i64 (numD 0 t)) ∨ (t.all digN = false ∧ x = .ret ∧ e' 2 = .int .i64 0 ∧ e' 3 = .bool false) := by
    intro t m e h ht g0 g4 g5 g6
    refine (wl_all (l := t) (fun pre b => digN b) (fun pre e h => e 0 = .str t ∧ e 4 = .bool m ∧ e 5 = .int .i64 (numD 0 pre) ∧ pre.all digN = true ∧ e 6 = .int .i64 pre.length) (.exit 0) (fun e h => e 0 = .str t ∧ e 4 = .bool m ∧ e 5 = .int .i64 (numD 0 (t)) ∧ (t).all digN = true) (fun e h => e 2 = .int .i64 0 ∧ e 3 = .bool false) (by omega) ?_ ?_ ?_ (by simp) t [] _ _ rfl ?_).mono ?_
    · rintro pre b rest e h a hp ⟨q0, q1, q2, q3, ix⟩
      have hlt := numD_lt pre 0 q3
      have hle : 10 ^ pre.length ≤ 10 ^ 16 := Nat.pow_le_pow_right (by omega) (by have := a.lt; omega)
      have hb : 48 ≤ b.toNat ∧ b.toNat ≤ 57 := by simpa [digN] using hp
      have w1 : IntKind.wrap .i64 ((numD 0 pre : Int) * 10) = (numD 0 pre : Int) * 10 := wrapId (by omega) (by omega)
      have w2 : IntKind.wrap .u8 ((b.toNat : Int) - 48) = (b.toNat : Int) - 48 := by simp [IntKind.wrap, IntKind.bits, IntKind.signed]; omega
      have w3 : IntKind.wrap .i64 ((b.toNat : Int) - 48) = (b.toNat : Int) - 48 := wrapId (by omega) (by omega)
      have w4 : IntKind.wrap .i64 ((numD 0 pre : Int) * 10 + ((b.toNat : Int) - 48)) = ((numD 0 (pre ++ [b]) : Nat) : Int) := by rw [numD_snoc, wrapId (by omega) (by omega)]; omega
      simp only [go_sem, kSt_ptr, Nat.reduceBEq, Nat.reduceAdd, Nat.reduceEqDiff, Nat.reduceLeDiff, Nat.reduceSub, reduceIte, Int.reduceBEq, Int.reduceEq, Int.reduceLT, Int.reduceLE, Int.reduceGT, Int.reduceGE, Int.reduceNe, Int.reduceBNe, s_spec_l2Parse_L0, q0, q1, q2, q3, ix, a.dl, kIx_at a.hl, hp, a.hw, h1, C_spec_l2Digit_eq, digitN, w1, w2, w3, w4, List.all_append, List.all_cons, List.all_nil, Bool.and_true]
    · rintro pre b rest e h a hp ⟨q0, q1, q2, q3, ix⟩
      simp only [go_sem, kSt_ptr, Nat.reduceBEq, Nat.reduceAdd, Nat.reduceEqDiff, Nat.reduceLeDiff, Nat.reduceSub, reduceIte, Int.reduceBEq, Int.reduceEq, Int.reduceLT, Int.reduceLE, Int.reduceGT, Int.reduceGE, Int.reduceNe, Int.reduceBNe, s_spec_l2Parse_L0, q0, q1, q2, q3, ix, a.dl, kIx_at a.hl, hp, a.hw, h1, C_spec_l2Digit_eq, digitN, hp]
    · rintro e h ⟨q0, q1, q2, q3, ix⟩
      simp only [go_sem, kSt_ptr, Nat.reduceBEq, Nat.reduceAdd, Nat.reduceEqDiff, Nat.reduceLeDiff, Nat.reduceSub, reduceIte, Int.reduceBEq, Int.reduceEq, Int.reduceLT, Int.reduceLE, Int.reduceGT, Int.reduceGE, Int.reduceNe, Int.reduceBNe, s_spec_l2Parse_L0, q0, q1, q2, q3, ix]
    · simp only [go_sem, kSt_ptr, Nat.reduceBEq, Nat.reduceAdd, Nat.reduceEqDiff, Nat.reduceLeDiff, Nat.reduceSub, reduceIte, Int.reduceBEq, Int.reduceEq, Int.reduceLT, Int.reduceLE, Int.reduceGT, Int.reduceGE, Int.reduceNe, Int.reduceBNe, g0, g4, g5, g6, numD_nil, List.all_nil]
    · rintro x e' h' (⟨hp, rfl, j0, j4, j5, j3⟩ | ⟨hp, rfl, j2, j3⟩)
      · rw [allP_all] at hp
        exact .inl ⟨hp, rfl, j4, j5⟩
      · rw [allP_all] at hp
        exact .inr ⟨hp, rfl, j2, j3⟩
  cases s with
  | nil =>
    have hp2 : parse2 [] = (0, false) := rfl
    have hi : inR 0 1 16 = false := by decide
    simp only [go_sem, kSt_ptr, Nat.reduceBEq, Nat.reduceAdd, Nat.reduceEqDiff, Nat.reduceLeDiff, Nat.reduceSub, reduceIte, Int.reduceBEq, Int.reduceEq, Int.reduceLT, Int.reduceLE, Int.reduceGT, Int.reduceGE, Int.reduceNe, Int.reduceBNe, s_spec_l2Parse, h2, C_spec_l1In_eq, List.length_nil, hi, hp2, Int.lt_irrefl]
  | cons c r =>
    have hl : (0 : Int) < ((r.length + 1 : Nat) : Int) := by omega
    have hih := ix_head c r
    have hst := sli_tail c r
    by_cases hc : c = 45
    · have hce : ((c.toNat : Int) == 45) = true := u8eq hc
      have hm : ((c :: r).head? == some 45) = true := by simp [hc]
      have hpo := parse2_of hm (t := r) rfl
      cases hi : inR (r.length : Int) 1 16
      · have hp2 : parse2 (c :: r) = (0, false) := by rw [hpo, if_pos (.inl hi)]
        simp only [go_sem, kSt_ptr, Nat.reduceBEq, Nat.reduceAdd, Nat.reduceEqDiff, Nat.reduceLeDiff, Nat.reduceSub, reduceIte, Int.reduceBEq, Int.reduceEq, Int.reduceLT, Int.reduceLE, Int.reduceGT, Int.reduceGE, Int.reduceNe, Int.reduceBNe, s_spec_l2Parse, hl, hih, hce, hst, h2, C_spec_l1In_eq, hi, hp2]
      have hr16 : r.length ≤ 16 := by simp [inR] at hi; omega
      cases r with
      | nil => simp [inR] at hi
      | cons d q =>
        have hl : (0 : Int) < ((q.length + 1 + 1 : Nat) : Int) := hl
        have hi : inR ((q.length + 1 : Nat) : Int) 1 16 = true := hi
        have hih2 := ix_head d q
        by_cases hd : d = 48
        · have hde : ((d.toNat : Int) == 48) = true := u8eq hd
          have hp2 : parse2 (c :: d :: q) = (0, false) := by rw [hpo, if_pos (.inr (.inl ⟨by simp [hd], .inr rfl⟩))]
          by_cases hq : (1 : Int) < ((q.length + 1 : Nat) : Int)
          · simp only [go_sem, kSt_ptr, Nat.reduceBEq, Nat.reduceAdd, Nat.reduceEqDiff, Nat.reduceLeDiff, Nat.reduceSub, reduceIte, Int.reduceBEq, Int.reduceEq, Int.reduceLT, Int.reduceLE, Int.reduceGT, Int.reduceGE, Int.reduceNe, Int.reduceBNe, s_spec_l2Parse, hl, hih, hce, hst, h2, C_spec_l1In_eq, hi, hp2, hih2, hde, hq]
          · simp only [go_sem, kSt_ptr, Nat.reduceBEq, Nat.reduceAdd, Nat.reduceEqDiff, Nat.reduceLeDiff, Nat.reduceSub, reduceIte, Int.reduceBEq, Int.reduceEq, Int.reduceLT, Int.reduceLE, Int.reduceGT, Int.reduceGE, Int.reduceNe, Int.reduceBNe, s_spec_l2Parse, hl, hih, hce, hst, h2, C_spec_l1In_eq, hi, hp2, hih2, hde, hq]
        · have hde : ((d.toNat : Int) == 48) = false := u8ne hd
          simp only [go_sem, kSt_ptr, Nat.reduceBEq, Nat.reduceAdd, Nat.reduceEqDiff, Nat.reduceLeDiff, Nat.reduceSub, reduceIte, Int.reduceBEq, Int.reduceEq, Int.reduceLT, Int.reduceLE, Int.reduceGT, Int.reduceGE, Int.reduceNe, Int.reduceBNe, s_spec_l2Parse, hl, hih, hce, hst, h2, C_spec_l1In_eq, hi, hih2, hde]
          refine (loop (d :: q) true _ _ hr16 (by simp only [go_sem, kSt_ptr, Nat.reduceBEq, Nat.reduceAdd, Nat.reduceEqDiff, Nat.reduceLeDiff, Nat.reduceSub, reduceIte, Int.reduceBEq, Int.reduceEq, Int.reduceLT, Int.reduceLE, Int.reduceGT, Int.reduceGE, Int.reduceNe, Int.reduceBNe]) (by simp only [go_sem, kSt_ptr, Nat.reduceBEq, Nat.reduceAdd, Nat.reduceEqDiff, Nat.reduceLeDiff, Nat.reduceSub, reduceIte, Int.reduceBEq, Int.reduceEq, Int.reduceLT, Int.reduceLE, Int.reduceGT, Int.reduceGE, Int.reduceNe, Int.reduceBNe]) (by simp only [go_sem, kSt_ptr, Nat.reduceBEq, Nat.reduceAdd, Nat.reduceEqDiff, Nat.reduceLeDiff, Nat.reduceSub, reduceIte, Int.reduceBEq, Int.reduceEq, Int.reduceLT, Int.reduceLE, Int.reduceGT, Int.reduceGE, Int.reduceNe, Int.reduceBNe]) (by simp only [go_sem, kSt_ptr, Nat.reduceBEq, Nat.reduceAdd, Nat.reduceEqDiff, Nat.reduceLeDiff, Nat.reduceSub, reduceIte, Int.reduceBEq, Int.reduceEq, Int.reduceLT, Int.reduceLE, Int.reduceGT, Int.reduceGE, Int.reduceNe, Int.reduceBNe])).mono ?_
          rintro x e' h' (⟨hz, rfl, j4, j5⟩ | ⟨hz, rfl, j2, j3⟩)
          · have hlt := numD_lt (d :: q) 0 hz
            have hle : 10 ^ (d :: q).length ≤ 10 ^ 16 := Nat.pow_le_pow_right (by omega) hr16
            have hw : IntKind.wrap .i64 (0 - (numD 0 (d :: q) : Int)) = -(numD 0 (d :: q) : Int) := by rw [wrapId (by omega) (by omega)]; omega
            have hp2 : parse2 (c :: d :: q) = (-(numD 0 (d :: q) : Int), true) := by rw [hpo, if_neg (by rw [List.length_cons, hi, hz]; simp [hd])]; rfl
            simp only [go_sem, kSt_ptr, Nat.reduceBEq, Nat.reduceAdd, Nat.reduceEqDiff, Nat.reduceLeDiff, Nat.reduceSub, reduceIte, Int.reduceBEq, Int.reduceEq, Int.reduceLT, Int.reduceLE, Int.reduceGT, Int.reduceGE, Int.reduceNe, Int.reduceBNe, j4, j5, hw, hp2]
          · have hp2 : parse2 (c :: d :: q) = (0, false) := by rw [hpo, if_pos (.inr (.inr hz))]
            simp only [go_sem, kSt_ptr, Nat.reduceBEq, Nat.reduceAdd, Nat.reduceEqDiff, Nat.reduceLeDiff, Nat.reduceSub, reduceIte, Int.reduceBEq, Int.reduceEq, Int.reduceLT, Int.reduceLE, Int.reduceGT, Int.reduceGE, Int.reduceNe, Int.reduceBNe, j2, j3, hp2]
    · have hce : ((c.toNat : Int) == 45) = false := u8ne hc
      have hm : ((c :: r).head? == some 45) = false := by simp [hc]
      have hpo := parse2_of hm (t := c :: r) rfl
      cases hi : inR ((r.length + 1 : Nat) : Int) 1 16
      · have hp2 : parse2 (c :: r) = (0, false) := by rw [hpo, if_pos (.inl hi)]
        simp only [go_sem, kSt_ptr, Nat.reduceBEq, Nat.reduceAdd, Nat.reduceEqDiff, Nat.reduceLeDiff, Nat.reduceSub, reduceIte, Int.reduceBEq, Int.reduceEq, Int.reduceLT, Int.reduceLE, Int.reduceGT, Int.reduceGE, Int.reduceNe, Int.reduceBNe, s_spec_l2Parse, hl, hih, hce, h2, C_spec_l1In_eq, hi, hp2]
      have hr16 : (c :: r).length ≤ 16 := by simp only [inR, Bool.and_eq_true, decide_eq_true_eq] at hi; rw [List.length_cons]; omega
      have fin : ∀ (hno : ¬ ((c :: r).head? = some 48 ∧ ((1 : Int) < (((c :: r).length : Nat) : Int) ∨ false = true))), ((c :: r).all digN = true → parse2 (c :: r) = ((numD 0 (c :: r) : Int), true)) ∧ ((c :: r).all digN = false → parse2 (c :: r) = (0, false)) := fun hno => by
        refine ⟨fun hz => ?_, fun hz => ?_⟩
        · rw [hpo, if_neg]
          · rfl
          · rintro (h | h | h)
            · rw [List.length_cons, hi] at h; cases h
            · exact hno h
            · rw [hz] at h; cases h
        · rw [hpo, if_pos (.inr (.inr hz))]
      by_cases hd : c = 48
      · have hde : ((c.toNat : Int) == 48) = true := u8eq hd
        by_cases hq : (1 : Int) < ((r.length + 1 : Nat) : Int)
        · have hp2 : parse2 (c :: r) = (0, false) := by rw [hpo, if_pos (.inr (.inl ⟨by simp [hd], .inl hq⟩))]
          simp only [go_sem, kSt_ptr, Nat.reduceBEq, Nat.reduceAdd, Nat.reduceEqDiff, Nat.reduceLeDiff, Nat.reduceSub, reduceIte, Int.reduceBEq, Int.reduceEq, Int.reduceLT, Int.reduceLE, Int.reduceGT, Int.reduceGE, Int.reduceNe, Int.reduceBNe, s_spec_l2Parse, hl, hih, hce, h2, C_spec_l1In_eq, hi, hp2, hde, hq]
        · obtain ⟨f1, f2⟩ := fin (fun h => by rcases h.2 with h | h; exact hq h; cases h)
          simp only [go_sem, kSt_ptr, Nat.reduceBEq, Nat.reduceAdd, Nat.reduceEqDiff, Nat.reduceLeDiff, Nat.reduceSub, reduceIte, Int.reduceBEq, Int.reduceEq, Int.reduceLT, Int.reduceLE, Int.reduceGT, Int.reduceGE, Int.reduceNe, Int.reduceBNe, s_spec_l2Parse, hl, hih, hce, h2, C_spec_l1In_eq, hi, hde, hq]
          refine (loop (c :: r) false _ _ hr16 (by simp only [go_sem, kSt_ptr, Nat.reduceBEq, Nat.reduceAdd, Nat.reduceEqDiff, Nat.reduceLeDiff, Nat.reduceSub, reduceIte, Int.reduceBEq, Int.reduceEq, Int.reduceLT, Int.reduceLE, Int.reduceGT, Int.reduceGE, Int.reduceNe, Int.reduceBNe]) (by simp only [go_sem, kSt_ptr, Nat.reduceBEq, Nat.reduceAdd, Nat.reduceEqDiff, Nat.reduceLeDiff, Nat.reduceSub, reduceIte, Int.reduceBEq, Int.reduceEq, Int.reduceLT, Int.reduceLE, Int.reduceGT, Int.reduceGE, Int.reduceNe, Int.reduceBNe]) (by simp only [go_sem, kSt_ptr, Nat.reduceBEq, Nat.reduceAdd, Nat.reduceEqDiff, Nat.reduceLeDiff, Nat.reduceSub, reduceIte, Int.reduceBEq, Int.reduceEq, Int.reduceLT, Int.reduceLE, Int.reduceGT, Int.reduceGE, Int.reduceNe, Int.reduceBNe]) (by simp only [go_sem, kSt_ptr, Nat.reduceBEq, Nat.reduceAdd, Nat.reduceEqDiff, Nat.reduceLeDiff, Nat.reduceSub, reduceIte, Int.reduceBEq, Int.reduceEq, Int.reduceLT, Int.reduceLE, Int.reduceGT, Int.reduceGE, Int.reduceNe, Int.reduceBNe])).mono ?_
          rintro x e' h' (⟨hz, rfl, j4, j5⟩ | ⟨hz, rfl, j2, j3⟩)
          · simp only [go_sem, kSt_ptr, Nat.reduceBEq, Nat.reduceAdd, Nat.reduceEqDiff, Nat.reduceLeDiff, Nat.reduceSub, reduceIte, Int.reduceBEq, Int.reduceEq, Int.reduceLT, Int.reduceLE, Int.reduceGT, Int.reduceGE, Int.reduceNe, Int.reduceBNe, j4, j5, f1 hz]
          · simp only [go_sem, kSt_ptr, Nat.reduceBEq, Nat.reduceAdd, Nat.reduceEqDiff, Nat.reduceLeDiff, Nat.reduceSub, reduceIte, Int.reduceBEq, Int.reduceEq, Int.reduceLT, Int.reduceLE, Int.reduceGT, Int.reduceGE, Int.reduceNe, Int.reduceBNe, j2, j3, f2 hz]
      · have hde : ((c.toNat : Int) == 48) = false := u8ne hd
        obtain ⟨f1, f2⟩ := fin (fun h => hd (by simpa using h.1))
        simp only [go_sem, kSt_ptr, Nat.reduceBEq, Nat.reduceAdd, Nat.reduceEqDiff, Nat.reduceLeDiff, Nat.reduceSub, reduceIte, Int.reduceBEq, Int.reduceEq, Int.reduceLT, Int.reduceLE, Int.reduceGT, Int.reduceGE, Int.reduceNe, Int.reduceBNe, s_spec_l2Parse, hl, hih, hce, h2, C_spec_l1In_eq, hi, hde]
        refine (loop (c :: r) false _ _ hr16 (by simp only [go_sem, kSt_ptr, Nat.reduceBEq, Nat.reduceAdd, Nat.reduceEqDiff, Nat.reduceLeDiff, Nat.reduceSub, reduceIte, Int.reduceBEq, Int.reduceEq, Int.reduceLT, Int.reduceLE, Int.reduceGT, Int.reduceGE, Int.reduceNe, Int.reduceBNe]) (by simp only [go_sem, kSt_ptr, Nat.reduceBEq, Nat.reduceAdd, Nat.reduceEqDiff, Nat.reduceLeDiff, Nat.reduceSub, reduceIte, Int.reduceBEq, Int.reduceEq, Int.reduceLT, Int.reduceLE, Int.reduceGT, Int.reduceGE, Int.reduceNe, Int.reduceBNe]) (by simp only [go_sem, kSt_ptr, Nat.reduceBEq, Nat.reduceAdd, Nat.reduceEqDiff, Nat.reduceLeDiff, Nat.reduceSub, reduceIte, Int.reduceBEq, Int.reduceEq, Int.reduceLT, Int.reduceLE, Int.reduceGT, Int.reduceGE, Int.reduceNe, Int.reduceBNe]) (by simp only [go_sem, kSt_ptr, Nat.reduceBEq, Nat.reduceAdd, Nat.reduceEqDiff, Nat.reduceLeDiff, Nat.reduceSub, reduceIte, Int.reduceBEq, Int.reduceEq, Int.reduceLT, Int.reduceLE, Int.reduceGT, Int.reduceGE, Int.reduceNe, Int.reduceBNe])).mono ?_
        rintro x e' h' (⟨hz, rfl, j4, j5⟩ | ⟨hz, rfl, j2, j3⟩)
        · simp only [go_sem, kSt_ptr, Nat.reduceBEq, Nat.reduceAdd, Nat.reduceEqDiff, Nat.reduceLeDiff, Nat.reduceSub, reduceIte, Int.reduceBEq, Int.reduceEq, Int.reduceLT, Int.reduceLE, Int.reduceGT, Int.reduceGE, Int.reduceNe, Int.reduceBNe, j4, j5, f1 hz]
        · simp only [go_sem, kSt_ptr, Nat.reduceBEq, Nat.reduceAdd, Nat.reduceEqDiff, Nat.reduceLeDiff, Nat.reduceSub, reduceIte, Int.reduceBEq, Int.reduceEq, Int.reduceLT, Int.reduceLE, Int.reduceGT, Int.reduceGE, Int.reduceNe, Int.reduceBNe, j2, j3, f2 hz]
def nullB : List UInt8 := [110, 117, 108, 108]
def noB : List UInt8 := [110, 111]
def yesB : List UInt8 := [121, 101, 115]
def zeroV : TVal := ⟨0, 0, []⟩
/-- A value of its text, as the reference reads it. -/
def val2 (s : List UInt8) : TVal × Bool :=
  if s = nullB then (zeroV, true) else if s = noB then (⟨4, 0, []⟩, true) else if s = yesB then (⟨4, 1, []⟩, true) else
  if (s.length : Int) < 2 then (zeroV, false) else
  if s.head? = some 39 then (⟨3, 0, s.tail.dropLast⟩, s.getLast? == some 39 && s.tail.dropLast.all plainB) else
  if s.head? = some 105 then (⟨1, (parse2 s.tail).1, []⟩, (parse2 s.tail).2) else
  if s.head? = some 110 then (⟨2, (parse2 s.tail).1, []⟩, (parse2 s.tail).2) else (zeroV, false)
def parseVal (s : List UInt8) : TVal × Bool := if (val2 s).2 = false ∨ valOk (val2 s).1 = false then (zeroV, false) else ((val2 s).1, true)
def chkV (s : List UInt8) (v : TVal) : TVal × Bool := if valText v = [] ∨ ¬ valText v = s then (zeroV, false) else (v, true)
def valI (s : List UInt8) : TVal × Bool :=
  if s = noB then chkV s ⟨4, 0, []⟩ else if s = yesB then chkV s ⟨4, 1, []⟩ else
  if s.head? = some 105 ∨ (s.head? = some 110 ∧ s ≠ nullB) then
    match Lib.atoiAll s.tail with
    | .ok n => chkV s ⟨if s.head? = some 110 then 2 else 1, n, []⟩
    | _ => (zeroV, false)
  else if 2 ≤ (s.length : Int) ∧ s.head? = some 39 then chkV s ⟨3, 0, s.tail.dropLast⟩ else chkV s zeroV
theorem valI_num {c : UInt8} {d : List UInt8} {k : Int} (hk : k = 1 ∧ c = 105 ∨ k = 2 ∧ c = 110) : (match Lib.atoiAll d with | .ok n => chkV (c :: d) ⟨k, n, []⟩ | _ => (zeroV, false)) = if (parse2 d).2 = false ∨ valOk ⟨k, (parse2 d).1, []⟩ = false then (zeroV, false) else (⟨k, (parse2 d).1, []⟩, true) := by
  have txt : ∀ n, valOk ⟨k, n, []⟩ = true → valText ⟨k, n, []⟩ = c :: Lib.itoa n := fun n hn => by
    rcases hk with ⟨rfl, rfl⟩ | ⟨rfl, rfl⟩ <;> simp [valText, hn]
  have no : ∀ n, valOk ⟨k, n, []⟩ = false → valText ⟨k, n, []⟩ = [] := fun n hn => by simp [valText, hn]
  have rng : ∀ n, valOk ⟨k, n, []⟩ = true → -1000000000000000 ≤ n ∧ n ≤ 1000000000000000 := fun n hn => valOk_rng hn (by rcases hk with ⟨rfl, _⟩ | ⟨rfl, _⟩ <;> simp)
  split
  · rename_i n hn
    by_cases hv : valOk ⟨k, n, []⟩ = true
    · by_cases he : Lib.itoa n = d
      · subst he
        rw [itoa_parse2 n (rng n hv)]
        simp [chkV, txt n hv, hv]
      · rw [chkV, if_pos (.inr (by rw [txt n hv]; simpa using he)), if_pos]
        cases hp : (parse2 d).2
        · exact .inl rfl
        · have h1 := parse2_itoa hp
          cases hv2 : valOk ⟨k, (parse2 d).1, []⟩
          · exact .inr rfl
          · have h2 := atoi_itoa _ (rng _ hv2)
            rw [h1, hn] at h2
            injection h2 with h2
            rw [h2] at he
            exact absurd h1 he
    · have hv' : valOk ⟨k, n, []⟩ = false := by simpa using hv
      rw [chkV, if_pos (.inl (no n hv')), if_pos]
      cases hp : (parse2 d).2
      · exact .inl rfl
      · have h1 := parse2_itoa hp
        cases hv2 : valOk ⟨k, (parse2 d).1, []⟩
        · exact .inr rfl
        · have h2 := atoi_itoa _ (rng _ hv2)
          rw [h1, hn] at h2
          injection h2 with h2
          rw [← h2, hv'] at hv2
          cases hv2
  · rename_i hn
    rw [if_pos]
    cases hp : (parse2 d).2
    · exact .inl rfl
    · have h1 := parse2_itoa hp
      cases hv2 : valOk ⟨k, (parse2 d).1, []⟩
      · exact .inr rfl
      · have h2 := atoi_itoa _ (rng _ hv2)
        rw [h1] at h2
        exact absurd h2 (hn _)
theorem parseVal_of {s : List UInt8} {v : TVal} {b : Bool} (h : val2 s = (v, b)) : parseVal s = if b = false ∨ valOk v = false then (zeroV, false) else (v, true) := by
  unfold parseVal
  rw [h]
theorem valI_eq (s : List UInt8) : valI s = parseVal s := by
  by_cases h0 : s = nullB
  · subst h0; rfl
  by_cases h1 : s = noB
  · subst h1; rfl
  by_cases h2 : s = yesB
  · subst h2; rfl
  have hz : chkV s zeroV = (zeroV, false) := by
    have : valText zeroV = nullB := rfl
    rw [chkV, if_pos (.inr (by rw [this]; exact fun e => h0 e.symm))]
  cases s with
  | nil => rfl
  | cons c d =>
    by_cases hi : c = 105
    · subst hi
      by_cases hd : d = []
      · subst hd; rfl
      have hl : ¬ (((105 : UInt8) :: d).length : Int) < 2 := by have := List.length_pos_iff.2 hd; simp; omega
      have hv : val2 (105 :: d) = (⟨1, (parse2 d).1, []⟩, (parse2 d).2) := by
        unfold val2
        rw [if_neg h0, if_neg h1, if_neg h2, if_neg hl, if_neg (by simp), if_pos List.head?_cons]
        rfl
      have hn : ¬ ((105 : UInt8) :: d).head? = some 110 := by simp
      rw [parseVal_of hv, ← valI_num (c := 105) (.inl ⟨rfl, rfl⟩), valI, if_neg h1, if_neg h2, if_pos (.inl rfl)]
      simp only [if_neg hn, List.tail_cons]
    by_cases hn : c = 110
    · subst hn
      by_cases hd : d = []
      · subst hd; rfl
      have hl : ¬ (((110 : UInt8) :: d).length : Int) < 2 := by have := List.length_pos_iff.2 hd; simp; omega
      have hv : val2 (110 :: d) = (⟨2, (parse2 d).1, []⟩, (parse2 d).2) := by
        unfold val2
        rw [if_neg h0, if_neg h1, if_neg h2, if_neg hl, if_neg (by simp), if_neg (by simp), if_pos List.head?_cons]
        rfl
      have hn : ((110 : UInt8) :: d).head? = some 110 := rfl
      rw [parseVal_of hv, ← valI_num (c := 110) (.inr ⟨rfl, rfl⟩), valI, if_neg h1, if_neg h2, if_pos (.inr ⟨rfl, h0⟩)]
      simp only [if_pos hn, List.tail_cons]
    have hni : ¬ (((c :: d).head? = some 105) ∨ ((c :: d).head? = some 110 ∧ (c :: d) ≠ nullB)) := by
      simp only [List.head?_cons, Option.some.injEq, hi, hn, false_or, false_and, not_false_eq_true]
    rw [valI, if_neg h1, if_neg h2, if_neg hni]
    by_cases hl : (((c :: d).length : Nat) : Int) < 2
    · have hv : val2 (c :: d) = (zeroV, false) := by unfold val2; rw [if_neg h0, if_neg h1, if_neg h2, if_pos hl]
      rw [if_neg (by omega), parseVal_of hv, if_pos (.inl rfl), hz]
    by_cases hq : c = 39
    · subst hq
      have hd : d ≠ [] := fun e => by subst e; simp at hl
      obtain ⟨m, z, rfl⟩ : ∃ m z, d = m ++ [z] := ⟨d.dropLast, d.getLast hd, (List.dropLast_concat_getLast hd).symm⟩
      have e1 : ((39 : UInt8) :: (m ++ [z])).tail.dropLast = m := by simp
      have e2 : ((39 : UInt8) :: (m ++ [z])).getLast? = some z := by rw [← List.cons_append, List.getLast?_append]; rfl
      have hv : val2 (39 :: (m ++ [z])) = (⟨3, 0, m⟩, z == 39 && m.all plainB) := by
        unfold val2
        rw [if_neg h0, if_neg h1, if_neg h2, if_neg hl, if_pos List.head?_cons, e1, e2]
        rfl
      rw [if_pos ⟨by omega, rfl⟩, parseVal_of hv, e1]
      simp only [chkV, valText]
      cases ho : valOk ⟨3, 0, m⟩
      · simp [ho]
      · cases ha : m.all plainB
        · simp [ho, ha]
        · by_cases hz : z = 39
          · subst hz; simp [ho, ha]
          · simp [ho, ha, hz, Ne.symm hz]
    · have hv : val2 (c :: d) = (zeroV, false) := by
        unfold val2
        rw [if_neg h0, if_neg h1, if_neg h2, if_neg hl, if_neg (by simpa using hq), if_neg (by simpa using hi), if_neg (by simpa using hn)]
      rw [if_neg (by simp [hq]), parseVal_of hv, if_pos (.inl rfl), hz]
end Go.Proofs.YtgjdkcjijmdfoaaDoor.Pr
/- What the functions that FnExactParseRow calls answer: part 4. -/
namespace Go.Proofs.YtgjdkcjijmdfoaaDoor.Pr
open Go Go.RowKit Go.Ev
set_option linter.unusedSimpArgs false
set_option linter.unusedVariables false
set_option maxHeartbeats 1600000
theorem vFill0 : sFill [.int .i64 0, .int .i64 0, .str []] [] = some [.int .i64 0, .int .i64 0, .str []] := rfl
theorem vFillK (k : Int) : sFill [.int .i64 0, .int .i64 0, .str []] [(0, 1, .int .i64 k)] = some [.int .i64 k, .int .i64 0, .str []] := rfl
theorem vFillKN (k n : Int) : sFill [.int .i64 0, .int .i64 0, .str []] [(0, 1, .int .i64 k), (1, 1, .int .i64 n)] = some [.int .i64 k, .int .i64 n, .str []] := rfl
theorem vFillKS (k : Int) (s : List UInt8) : sFill [.int .i64 0, .int .i64 0, .str []] [(0, 1, .int .i64 k), (2, 1, .str s)] = some [.int .i64 k, .int .i64 0, .str s] := rfl
theorem sq10 : (([110, 111] : List UInt8) == [110, 117, 108, 108]) = false := by decide
theorem sq20 : (([121, 101, 115] : List UInt8) == [110, 117, 108, 108]) = false := by decide
theorem sq21 : (([121, 101, 115] : List UInt8) == [110, 111]) = false := by decide
theorem sq12 : (([110, 111] : List UInt8) == [121, 101, 115]) = false := by decide
theorem sq_no0 : (([110, 111] : List UInt8) == []) = false := by decide
theorem sq_yes0 : (([121, 101, 115] : List UInt8) == []) = false := by decide
theorem sq_null0 : (([110, 117, 108, 108] : List UInt8) == []) = false := by decide
theorem sq_nulle : (([110, 117, 108, 108] : List UInt8) == []) = false := by decide
theorem sq_nulln : (([110, 117, 108, 108] : List UInt8) == [110, 117, 108, 108]) = true := by decide
theorem hpre0 (c : UInt8) : Lib.hasPrefix [] [c] = false := rfl
theorem u8q105n : (((105 : UInt8).toNat : Int) == 110) = false := by decide
theorem strFillR (s : List UInt8) : fillR (List.replicate 1 [.str []]) 1 [(0, .str s)] = some [[.str s]] := rfl
theorem strFrzR (s : List UInt8) : frzRows [[.str s]] = some [[.str s]] := rfl
theorem vFillR (k n : Int) (s : List UInt8) : fillR (List.replicate 1 [.int .i64 0, .int .i64 0, .str []]) 3 [(0, .agg [.int .i64 k, .int .i64 n, .str s])] = some [[.int .i64 k, .int .i64 n, .str s]] := rfl
theorem vFrzR (k n : Int) (s : List UInt8) : frzRows [[.int .i64 k, .int .i64 n, .str s]] = some [[.int .i64 k, .int .i64 n, .str s]] := rfl
theorem u8w32 : ((32 : UInt8).toNat : Int) = 32 := by decide
theorem rep0 {α : Type} (x : α) : List.replicate 0 x = [] := rfl
theorem fill0 (n : Nat) : fillR [] n [] = some [] := rfl
theorem frz0 : frzRows [] = some [] := rfl
theorem frzT_grows {α : Type} {T : TD α} {l : List α} {v : AV} {h : Hp} {n : Nat} (hg : grows T l v h) : frzT n h v = some (.imm (l.map T.row)) := by
  rcases hg with ⟨rfl, rfl⟩ | ⟨id, rfl, _, _⟩ <;> cases n <;> rfl
noncomputable def C_spec_l2Val := c1 strT (fun (s : List UInt8) => s.length ≤ 1048576) (fun x => .tup [.agg (x.1).row, .bool x.2]) fun (s : List UInt8) => val2 s
theorem C_spec_l2Val_eq (s : List UInt8) (h : s.length ≤ 1048576) : C_spec_l2Val [.str s] = some (.tup [.agg (((val2 s).1)).row, .bool ((val2 s).2)]) := c1_eq strT h
theorem ok_spec_l2Val {WI : World → Prop} (hs : Stable WI) (cs) (hT : TOK (EE cs) WI) (h1 : (EE cs).T 54 = some C_spec_l2Plain) (h2 : (EE cs).T 99 = some C_spec_l2Parse) : PureOK Tryd.prog WI 79 C_spec_l2Val := by
  refine pure1 (E := EE cs) hT hs (by rw [st_spec_l2Val]; rfl) fun s hp => out_wp (n := 0) (st_spec_l2Val cs) ?_
  by_cases e0 : s = nullB
  · subst e0
    have hv : val2 nullB = (⟨0, 0, []⟩, true) := rfl
    rw [hv]
    simp only [go_sem, kSt_ptr, Nat.reduceBEq, Nat.reduceAdd, Nat.reduceEqDiff, Nat.reduceLeDiff, Nat.reduceSub, reduceIte, Int.reduceBEq, Int.reduceEq, Int.reduceLT, Int.reduceLE, Int.reduceGT, Int.reduceGE, Int.reduceNe, Int.reduceBNe, s_spec_l2Val, nullB, TVal.row, vFill0, vFillK, vFillKN, vFillKS]
  by_cases e1 : s = noB
  · subst e1
    have hv : val2 noB = (⟨4, 0, []⟩, true) := rfl
    rw [hv]
    simp only [go_sem, kSt_ptr, Nat.reduceBEq, Nat.reduceAdd, Nat.reduceEqDiff, Nat.reduceLeDiff, Nat.reduceSub, reduceIte, Int.reduceBEq, Int.reduceEq, Int.reduceLT, Int.reduceLE, Int.reduceGT, Int.reduceGE, Int.reduceNe, Int.reduceBNe, s_spec_l2Val, noB, TVal.row, vFill0, vFillK, vFillKN, vFillKS, sq10, sq20, sq21]
  by_cases e2 : s = yesB
  · subst e2
    have hv : val2 yesB = (⟨4, 1, []⟩, true) := rfl
    rw [hv]
    simp only [go_sem, kSt_ptr, Nat.reduceBEq, Nat.reduceAdd, Nat.reduceEqDiff, Nat.reduceLeDiff, Nat.reduceSub, reduceIte, Int.reduceBEq, Int.reduceEq, Int.reduceLT, Int.reduceLE, Int.reduceGT, Int.reduceGE, Int.reduceNe, Int.reduceBNe, s_spec_l2Val, yesB, TVal.row, vFill0, vFillK, vFillKN, vFillKS, sq10, sq20, sq21]
  have b0 := beqF e0
  have b1 := beqF e1
  have b2 := beqF e2
  unfold nullB at b0
  unfold noB at b1
  unfold yesB at b2
  by_cases hl : (s.length : Int) < 2
  · have hv : val2 s = (⟨0, 0, []⟩, false) := by unfold val2; rw [if_neg e0, if_neg e1, if_neg e2, if_pos hl]; rfl
    rw [hv]
    simp only [go_sem, kSt_ptr, Nat.reduceBEq, Nat.reduceAdd, Nat.reduceEqDiff, Nat.reduceLeDiff, Nat.reduceSub, reduceIte, Int.reduceBEq, Int.reduceEq, Int.reduceLT, Int.reduceLE, Int.reduceGT, Int.reduceGE, Int.reduceNe, Int.reduceBNe, s_spec_l2Val, b0, b1, b2, hl, TVal.row, vFill0, vFillK, vFillKN, vFillKS]
  cases s with
  | nil => simp at hl
  | cons c d =>
    have hl3 : ¬ ((d.length + 1 : Nat) : Int) < 2 := hl
    have hih := ix_head c d
    by_cases hq : c = 39
    · subst hq
      have hd : d ≠ [] := fun e => by subst e; simp at hl
      obtain ⟨m, z, rfl⟩ : ∃ m z, d = m ++ [z] := ⟨d.dropLast, d.getLast hd, (List.dropLast_concat_getLast hd).symm⟩
      have hv : val2 (39 :: (m ++ [z])) = (⟨3, 0, m⟩, z == 39 && m.all plainB) := by
        unfold val2
        rw [if_neg e0, if_neg e1, if_neg e2, if_neg hl, if_pos List.head?_cons]
        have z1 : ((39 : UInt8) :: (m ++ [z])).tail.dropLast = m := by simp
        have z2 : ((39 : UInt8) :: (m ++ [z])).getLast? = some z := by rw [← List.cons_append, List.getLast?_append]; rfl
        rw [z1, z2]
        rfl
      rw [hv]
      have hlen : (((m ++ [z]).length + 1 : Nat) : Int) = (m.length : Int) + 2 := by simp; omega
      have hlen2 : m.length ≤ 1048576 := by simp at hp; omega
      have hw : IntKind.wrap .i64 ((m.length : Int) + 2 - 1) = (m.length : Int) + 1 := by rw [wrapId (by omega) (by omega)]; omega
      have hsl := sli_mid 39 z m
      have hl' : ¬ (m.length : Int) + 2 < 2 := by omega
      have hixz : ∀ h, kIx (.str (39 :: (m ++ [z]))) (.int .i64 ((m.length : Int) + 1)) h = some (.int .u8 z.toNat, h) := fun h => by
        have := kIx_at (h := h) (s := 39 :: (m ++ [z])) (pre := 39 :: m) (rest := []) (b := z) rfl
        simpa using this
      have hc1 := C_spec_l2Plain_eq m (by omega)
      by_cases hz : z = 39
      · have hze : ((z.toNat : Int) == 39) = true := u8eq hz
        have hzb : (z == 39) = true := by simp [hz]
        simp only [go_sem, kSt_ptr, Nat.reduceBEq, Nat.reduceAdd, Nat.reduceEqDiff, Nat.reduceLeDiff, Nat.reduceSub, reduceIte, Int.reduceBEq, Int.reduceEq, Int.reduceLT, Int.reduceLE, Int.reduceGT, Int.reduceGE, Int.reduceNe, Int.reduceBNe, s_spec_l2Val, b0, b1, b2, hlen, hl', hih, u8q39, hw, hsl, hixz, hze, hzb, h1, hc1, TVal.row, vFill0, vFillK, vFillKN, vFillKS, sq10, sq20, sq21, Bool.true_and]
      · have hze : ((z.toNat : Int) == 39) = false := u8ne hz
        have hzb : (z == 39) = false := by simp [hz]
        simp only [go_sem, kSt_ptr, Nat.reduceBEq, Nat.reduceAdd, Nat.reduceEqDiff, Nat.reduceLeDiff, Nat.reduceSub, reduceIte, Int.reduceBEq, Int.reduceEq, Int.reduceLT, Int.reduceLE, Int.reduceGT, Int.reduceGE, Int.reduceNe, Int.reduceBNe, s_spec_l2Val, b0, b1, b2, hlen, hl', hih, u8q39, hw, hsl, hixz, hze, hzb, h1, hc1, TVal.row, vFill0, vFillK, vFillKN, vFillKS, sq10, sq20, sq21, Bool.false_and]
    have q39 : ((c.toNat : Int) == 39) = false := u8ne hq
    have hst := sli_tail c d
    have hpd : d.length ≤ 1048576 := by simp at hp; omega
    have hc2 := C_spec_l2Parse_eq d hpd
    by_cases hi : c = 105
    · subst hi
      have hv : val2 (105 :: d) = (⟨1, (parse2 d).1, []⟩, (parse2 d).2) := by
        unfold val2
        rw [if_neg e0, if_neg e1, if_neg e2, if_neg hl, if_neg (by simp), if_pos List.head?_cons]
        rfl
      rw [hv]
      simp only [go_sem, kSt_ptr, Nat.reduceBEq, Nat.reduceAdd, Nat.reduceEqDiff, Nat.reduceLeDiff, Nat.reduceSub, reduceIte, Int.reduceBEq, Int.reduceEq, Int.reduceLT, Int.reduceLE, Int.reduceGT, Int.reduceGE, Int.reduceNe, Int.reduceBNe, s_spec_l2Val, b0, b1, b2, hl3, hih, q39, hst, h2, hc2, u8q105, TVal.row, vFill0, vFillK, vFillKN, vFillKS, sq10, sq20, sq21]
    have q105 : ((c.toNat : Int) == 105) = false := u8ne hi
    by_cases hn : c = 110
    · subst hn
      have hv : val2 (110 :: d) = (⟨2, (parse2 d).1, []⟩, (parse2 d).2) := by
        unfold val2
        rw [if_neg e0, if_neg e1, if_neg e2, if_neg hl, if_neg (by simp), if_neg (by simp), if_pos List.head?_cons]
        rfl
      rw [hv]
      simp only [go_sem, kSt_ptr, Nat.reduceBEq, Nat.reduceAdd, Nat.reduceEqDiff, Nat.reduceLeDiff, Nat.reduceSub, reduceIte, Int.reduceBEq, Int.reduceEq, Int.reduceLT, Int.reduceLE, Int.reduceGT, Int.reduceGE, Int.reduceNe, Int.reduceBNe, s_spec_l2Val, b0, b1, b2, hl3, hih, q39, q105, hst, h2, hc2, u8q110, TVal.row, vFill0, vFillK, vFillKN, vFillKS, sq10, sq20, sq21]
    have q110 : ((c.toNat : Int) == 110) = false := u8ne hn
    have hv : val2 (c :: d) = (⟨0, 0, []⟩, false) := by
      unfold val2
      rw [if_neg e0, if_neg e1, if_neg e2, if_neg hl, if_neg (by simpa using hq), if_neg (by simpa using hi), if_neg (by simpa using hn)]
      rfl
    rw [hv]
    simp only [go_sem, kSt_ptr, Nat.reduceBEq, Nat.reduceAdd, Nat.reduceEqDiff, Nat.reduceLeDiff, Nat.reduceSub, reduceIte, Int.reduceBEq, Int.reduceEq, Int.reduceLT, Int.reduceLE, Int.reduceGT, Int.reduceGE, Int.reduceNe, Int.reduceBNe, s_spec_l2Val, b0, b1, b2, hl3, hih, q39, q105, q110, hst, h2, hc2, TVal.row, vFill0, vFillK, vFillKN, vFillKS]
theorem ev_spec_ValOk (cs) (hT : (EE cs).T 39 = some C_spec_l1In) (v : TVal) : ∃ k n, out (EE cs) k n 53 [.agg v.row] = some (.bool (valOk v)) := by
  refine out_K (n := 0) (st_spec_ValOk cs) ?_
  by_cases h0 : v.fK = 0
  · by_cases hn : v.fN = 0
    · simp only [go_sem, kSt_ptr, Nat.reduceBEq, Nat.reduceAdd, Nat.reduceEqDiff, Nat.reduceLeDiff, Nat.reduceSub, reduceIte, Int.reduceBEq, Int.reduceEq, Int.reduceLT, Int.reduceLE, Int.reduceGT, Int.reduceGE, Int.reduceNe, Int.reduceBNe, s_spec_ValOk, TVal.row, h0, hn, valOk]
    · simp only [go_sem, kSt_ptr, Nat.reduceBEq, Nat.reduceAdd, Nat.reduceEqDiff, Nat.reduceLeDiff, Nat.reduceSub, reduceIte, Int.reduceBEq, Int.reduceEq, Int.reduceLT, Int.reduceLE, Int.reduceGT, Int.reduceGE, Int.reduceNe, Int.reduceBNe, s_spec_ValOk, TVal.row, h0, hn, beqF hn, valOk]
  by_cases h1 : v.fK = 1
  · cases hn : inR v.fN (-2147483648) 2147483647
    · simp only [go_sem, kSt_ptr, Nat.reduceBEq, Nat.reduceAdd, Nat.reduceEqDiff, Nat.reduceLeDiff, Nat.reduceSub, reduceIte, Int.reduceBEq, Int.reduceEq, Int.reduceLT, Int.reduceLE, Int.reduceGT, Int.reduceGE, Int.reduceNe, Int.reduceBNe, s_spec_ValOk, TVal.row, h1, hn, valOk, hT, C_spec_l1In_eq]
    · simp only [go_sem, kSt_ptr, Nat.reduceBEq, Nat.reduceAdd, Nat.reduceEqDiff, Nat.reduceLeDiff, Nat.reduceSub, reduceIte, Int.reduceBEq, Int.reduceEq, Int.reduceLT, Int.reduceLE, Int.reduceGT, Int.reduceGE, Int.reduceNe, Int.reduceBNe, s_spec_ValOk, TVal.row, h1, hn, valOk, hT, C_spec_l1In_eq]
  by_cases h2 : v.fK = 2
  · cases hn : inR v.fN (-1000000000000000) 1000000000000000
    · simp only [go_sem, kSt_ptr, Nat.reduceBEq, Nat.reduceAdd, Nat.reduceEqDiff, Nat.reduceLeDiff, Nat.reduceSub, reduceIte, Int.reduceBEq, Int.reduceEq, Int.reduceLT, Int.reduceLE, Int.reduceGT, Int.reduceGE, Int.reduceNe, Int.reduceBNe, s_spec_ValOk, TVal.row, h2, hn, valOk, hT, C_spec_l1In_eq]
    · simp only [go_sem, kSt_ptr, Nat.reduceBEq, Nat.reduceAdd, Nat.reduceEqDiff, Nat.reduceLeDiff, Nat.reduceSub, reduceIte, Int.reduceBEq, Int.reduceEq, Int.reduceLT, Int.reduceLE, Int.reduceGT, Int.reduceGE, Int.reduceNe, Int.reduceBNe, s_spec_ValOk, TVal.row, h2, hn, valOk, hT, C_spec_l1In_eq]
  by_cases h3 : v.fK = 3
  · by_cases hn : (v.fS.length : Int) ≤ 30
    · simp only [go_sem, kSt_ptr, Nat.reduceBEq, Nat.reduceAdd, Nat.reduceEqDiff, Nat.reduceLeDiff, Nat.reduceSub, reduceIte, Int.reduceBEq, Int.reduceEq, Int.reduceLT, Int.reduceLE, Int.reduceGT, Int.reduceGE, Int.reduceNe, Int.reduceBNe, s_spec_ValOk, TVal.row, h3, hn, valOk, hT, C_spec_l1In_eq]
    · simp only [go_sem, kSt_ptr, Nat.reduceBEq, Nat.reduceAdd, Nat.reduceEqDiff, Nat.reduceLeDiff, Nat.reduceSub, reduceIte, Int.reduceBEq, Int.reduceEq, Int.reduceLT, Int.reduceLE, Int.reduceGT, Int.reduceGE, Int.reduceNe, Int.reduceBNe, s_spec_ValOk, TVal.row, h3, hn, valOk, hT, C_spec_l1In_eq]
  by_cases h4 : v.fK = 4
  · cases hn : inR v.fN 0 1
    · simp only [go_sem, kSt_ptr, Nat.reduceBEq, Nat.reduceAdd, Nat.reduceEqDiff, Nat.reduceLeDiff, Nat.reduceSub, reduceIte, Int.reduceBEq, Int.reduceEq, Int.reduceLT, Int.reduceLE, Int.reduceGT, Int.reduceGE, Int.reduceNe, Int.reduceBNe, s_spec_ValOk, TVal.row, h4, hn, valOk, hT, C_spec_l1In_eq]
    · simp only [go_sem, kSt_ptr, Nat.reduceBEq, Nat.reduceAdd, Nat.reduceEqDiff, Nat.reduceLeDiff, Nat.reduceSub, reduceIte, Int.reduceBEq, Int.reduceEq, Int.reduceLT, Int.reduceLE, Int.reduceGT, Int.reduceGE, Int.reduceNe, Int.reduceBNe, s_spec_ValOk, TVal.row, h4, hn, valOk, hT, C_spec_l1In_eq]
  simp only [go_sem, kSt_ptr, Nat.reduceBEq, Nat.reduceAdd, Nat.reduceEqDiff, Nat.reduceLeDiff, Nat.reduceSub, reduceIte, Int.reduceBEq, Int.reduceEq, Int.reduceLT, Int.reduceLE, Int.reduceGT, Int.reduceGE, Int.reduceNe, Int.reduceBNe, s_spec_ValOk, TVal.row, h0, h1, h2, h3, h4, beqF h0, beqF h1, beqF h2, beqF h3, beqF h4, valOk, hT, C_spec_l1In_eq]
noncomputable def C_spec_ValOk := ct (fun a : TVal => [.agg a.row]) (fun _ => True) .bool valOk
theorem C_spec_ValOk_eq (k n : Int) (s : List UInt8) : C_spec_ValOk [.agg [.int .i64 k, .int .i64 n, .str s]] = some (.bool (valOk ⟨k, n, s⟩)) := by
  unfold C_spec_ValOk
  exact ct_eq (a := (⟨k, n, s⟩ : TVal)) (fun a b h => by
    simp only [List.cons.injEq, AV.agg.injEq, and_true] at h
    exact TVal.inj _ _ h) trivial
theorem ok_spec_ValOk {WI} (hs : Stable WI) (cs) (hT : TOK (EE cs) WI) (h : (EE cs).T 39 = some C_spec_l1In) : PureOK Tryd.prog WI 53 C_spec_ValOk := pure_out hT hs (by rw [st_spec_ValOk]; rfl) fun a _ => ev_spec_ValOk cs h a
noncomputable def C_spec_ParseVal := c1 strT (fun (s : List UInt8) => s.length ≤ 1048576) (fun x => .tup [.agg (x.1).row, .bool x.2]) fun (s : List UInt8) => parseVal s
theorem C_spec_ParseVal_eq (s : List UInt8) (h : s.length ≤ 1048576) : C_spec_ParseVal [.str s] = some (.tup [.agg (((parseVal s).1)).row, .bool ((parseVal s).2)]) := c1_eq strT h
theorem ok_spec_ParseVal {WI : World → Prop} (hs : Stable WI) (cs) (hT : TOK (EE cs) WI) (h1 : (EE cs).T 79 = some C_spec_l2Val) (h2 : (EE cs).T 53 = some C_spec_ValOk) : PureOK Tryd.prog WI 49 C_spec_ParseVal := by
  refine pure1 (E := EE cs) hT hs (by rw [st_spec_ParseVal]; rfl) fun s hp => out_wp (n := 0) (st_spec_ParseVal cs) ?_
  have hc := C_spec_l2Val_eq s hp
  rcases hv : val2 s with ⟨⟨k, n, t⟩, b⟩
  rw [hv] at hc
  have hx := parseVal_of hv
  rw [hx]
  cases b with
  | false => simp only [go_sem, kSt_ptr, Nat.reduceBEq, Nat.reduceAdd, Nat.reduceEqDiff, Nat.reduceLeDiff, Nat.reduceSub, reduceIte, Int.reduceBEq, Int.reduceEq, Int.reduceLT, Int.reduceLE, Int.reduceGT, Int.reduceGE, Int.reduceNe, Int.reduceBNe, s_spec_ParseVal, h1, hc, TVal.row, vFill0, zeroV, true_or]
  | true =>
    cases ho : valOk ⟨k, n, t⟩ with
    | false => simp only [go_sem, kSt_ptr, Nat.reduceBEq, Nat.reduceAdd, Nat.reduceEqDiff, Nat.reduceLeDiff, Nat.reduceSub, reduceIte, Int.reduceBEq, Int.reduceEq, Int.reduceLT, Int.reduceLE, Int.reduceGT, Int.reduceGE, Int.reduceNe, Int.reduceBNe, s_spec_ParseVal, h1, hc, h2, C_spec_ValOk_eq, ho, TVal.row, vFill0, zeroV, or_true]
    | true => simp only [go_sem, kSt_ptr, Nat.reduceBEq, Nat.reduceAdd, Nat.reduceEqDiff, Nat.reduceLeDiff, Nat.reduceSub, reduceIte, Int.reduceBEq, Int.reduceEq, Int.reduceLT, Int.reduceLE, Int.reduceGT, Int.reduceGE, Int.reduceNe, Int.reduceBNe, s_spec_ParseVal, h1, hc, h2, C_spec_ValOk_eq, ho, TVal.row, vFill0, zeroV, Bool.true_eq_false, or_self]
def cutB (c : UInt8) : List UInt8 → List (List UInt8)
  | [] => [[]]
  | b :: r => if b = c then [] :: cutB c r else match cutB c r with
    | h :: t => (b :: h) :: t
    | [] => [[b]]
theorem cutB_ne (c : UInt8) : ∀ s, cutB c s ≠ []
  | [] => by simp [cutB]
  | b :: r => by
    unfold cutB
    split
    · simp
    · split <;> simp
theorem index_cons1 (b c : UInt8) (l : List UInt8) : Lib.index (b :: l) [c] = if b = c then 0 else if Lib.index l [c] = -1 then -1 else Lib.index l [c] + 1 := by
  rw [Lib.index]
  by_cases h : b = c
  · subst h; simp [List.isPrefixOf]
  · have : ([c] : List UInt8).isPrefixOf (b :: l) = false := by simp [List.isPrefixOf, Ne.symm h]
    rw [this, if_neg h]
    simp
theorem splitK_cut (c : UInt8) : ∀ (s : List UInt8) (k : Nat), k = Lib.count s [c] → Lib.splitK [c] 0 k s = cutB c s
  | [], k, hk => by
    cases k with
    | zero => rfl
    | succ k => simp [Lib.splitK, Lib.index, cutB]
  | b :: r, k, hk => by
    by_cases h : b = c
    · subst h
      rw [Lib.count_cons_eq] at hk
      obtain ⟨j, rfl⟩ : ∃ j, k = j + 1 := ⟨k - 1, by omega⟩
      have := splitK_cut b r j (by omega)
      rw [Lib.splitK, index_cons1, if_pos rfl]
      simp [cutB, this]
    · rw [Lib.count_cons_ne b c r h] at hk
      have ih := splitK_cut c r k hk
      have hge := Lib.index_ge r [c]
      rw [cutB, if_neg h, ← ih]
      cases k with
      | zero => simp [Lib.splitK]
      | succ k =>
        rw [Lib.splitK, Lib.splitK, index_cons1, if_neg h]
        by_cases hm : Lib.index r [c] = -1
        · simp [hm]
        · have h1 : ¬ Lib.index r [c] + 1 = -1 := by omega
          obtain ⟨j, hj⟩ : ∃ j : Nat, Lib.index r [c] = j := ⟨(Lib.index r [c]).toNat, by omega⟩
          have e1 : ((j : Int) + 1).toNat = j + 1 := by omega
          have e2 : ¬ (j : Int) = -1 := by omega
          have e3 : ¬ (j : Int) + 1 = -1 := by omega
          simp [hj, e1, e2, e3]

theorem split_cut (c : UInt8) (s : List UInt8) : Lib.split s [c] = cutB c s := splitK_cut c s _ rfl
theorem cutB_snoc (c b : UInt8) : ∀ s : List UInt8, cutB c (s ++ [b]) = if b = c then cutB c s ++ [[]] else (cutB c s).dropLast ++ [(cutB c s).getLast (cutB_ne c s) ++ [b]]
  | [] => by
    by_cases h : b = c
    · subst h; simp [cutB]
    · simp [cutB, h]
  | a :: r => by
    have ih := cutB_snoc c b r
    have hne := cutB_ne c r
    by_cases hb : b = c
    · rw [if_pos hb] at ih ⊢
      by_cases ha : a = c
      · simp only [List.cons_append, cutB, ha, if_true, ih]
      · simp only [List.cons_append, cutB, ha, if_false, ih]
        obtain ⟨h, t, e⟩ := List.exists_cons_of_ne_nil hne
        rw [e]
        rfl
    · rw [if_neg hb] at ih ⊢
      by_cases ha : a = c
      · simp only [List.cons_append, cutB, ha, if_true, ih]
        rw [List.dropLast_cons_of_ne_nil hne, List.getLast_cons hne]
        rfl
      · simp only [List.cons_append, cutB, ha, if_false, ih]
        obtain ⟨h, t, e⟩ := List.exists_cons_of_ne_nil hne
        simp only [e]
        cases t with
        | nil => simp
        | cons t1 t2 => simp
theorem cutB_len (c : UInt8) : ∀ s : List UInt8, (cutB c s).length ≤ s.length + 1
  | [] => by simp [cutB]
  | b :: r => by
    have := cutB_len c r
    unfold cutB
    split
    · simp; omega
    · split
      · rename_i e; rw [e] at this; simp at this ⊢; omega
      · simp
theorem cutB_mem (c : UInt8) : ∀ (s : List UInt8) (p : List UInt8), p ∈ cutB c s → p.length ≤ s.length
  | [], p, h => by simp [cutB] at h; simp [h]
  | b :: r, p, h => by
    have ih := cutB_mem c r
    unfold cutB at h
    split at h
    · rcases List.mem_cons.1 h with rfl | h
      · simp
      · have := ih p h; simp; omega
    · split at h
      · rename_i e
        rcases List.mem_cons.1 h with rfl | h
        · have := ih _ (by rw [e]; exact List.mem_cons_self); simp; omega
        · have := ih p (by rw [e]; exact List.mem_cons_of_mem _ h); simp; omega
      · simp at h; simp [h]
def cutL (c : UInt8) (s : List UInt8) : List UInt8 := (cutB c s).getLast (cutB_ne c s)
theorem cutL_snoc_eq (c : UInt8) (s : List UInt8) : cutL c (s ++ [c]) = [] ∧ (cutB c (s ++ [c])).dropLast = cutB c s := by
  unfold cutL
  have := cutB_snoc c c s
  rw [if_pos rfl] at this
  simp only [this]
  simp
theorem cutL_snoc_ne {c b : UInt8} (s : List UInt8) (h : ¬ b = c) : cutL c (s ++ [b]) = cutL c s ++ [b] ∧ (cutB c (s ++ [b])).dropLast = (cutB c s).dropLast := by
  unfold cutL
  have := cutB_snoc c b s
  rw [if_neg h] at this
  simp only [this]
  simp
theorem cut_eq (c : UInt8) (s : List UInt8) : cutB c s = (cutB c s).dropLast ++ [cutL c s] := (List.dropLast_concat_getLast (cutB_ne c s)).symm
theorem cutL_suf (c : UInt8) (s : List UInt8) : ∃ X, s = X ++ cutL c s := by
  have gen : ∀ (r : List UInt8), ∃ X, r.reverse = X ++ cutL c r.reverse := by
    intro r
    induction r with
    | nil => exact ⟨[], rfl⟩
    | cons b r ih =>
      rw [List.reverse_cons]
      by_cases h : b = c
      · subst h
        rw [(cutL_snoc_eq b r.reverse).1]
        exact ⟨r.reverse ++ [b], by simp⟩
      · rw [(cutL_snoc_ne r.reverse h).1]
        obtain ⟨X, hX⟩ := ih
        exact ⟨X, by rw [← List.append_assoc, ← hX]⟩
  have := gen s.reverse
  rwa [List.reverse_reverse] at this
theorem cutL_len (c : UInt8) (s : List UInt8) : (cutL c s).length ≤ s.length := by
  obtain ⟨X, hX⟩ := cutL_suf c s
  have := congrArg List.length hX
  rw [List.length_append] at this
  omega
/-- Where the last piece begins. -/
def cutF (c : UInt8) (s : List UInt8) : Nat := s.length - (cutL c s).length
theorem cutF_eq (c : UInt8) (s : List UInt8) : cutF c (s ++ [c]) = s.length + 1 := by
  unfold cutF
  rw [(cutL_snoc_eq c s).1]
  simp
theorem cutF_ne {c b : UInt8} (s : List UInt8) (h : ¬ b = c) : cutF c (s ++ [b]) = cutF c s := by
  unfold cutF
  rw [(cutL_snoc_ne s h).1]
  simp
theorem cutF_sl (c : UInt8) {s pre rest : List UInt8} (hs : s = pre ++ rest) : sIdxS (.str s) (some (.int .i64 (cutF c pre))) (some (.int .i64 pre.length)) = some (.str (cutL c pre)) := by
  have hl := cutL_len c pre
  obtain ⟨X, hX⟩ := cutL_suf c pre
  have hXl : X.length = cutF c pre := by
    have := congrArg List.length hX
    rw [List.length_append] at this
    unfold cutF
    omega
  have h1 : cutF c pre ≤ pre.length := by unfold cutF; omega
  have h2 : pre.length ≤ s.length := by rw [hs]; simp
  simp only [sIdxS, asNat]
  rw [if_pos ⟨by omega, by omega⟩, Option.bind_some, Int.toNat_natCast, if_pos ⟨by omega, by omega⟩, Option.bind_some, Int.toNat_natCast]
  congr 2
  rw [hs, List.take_left', ← hXl]
  · conv => lhs; rw [hX]
    simp
  · rfl
/-- A row of its text. -/
def okB (p : List UInt8) : Bool := (parseVal p).2
def vOf (p : List UInt8) : TVal := (parseVal p).1
def parseRow (s : List UInt8) : List TVal × Bool :=
  if s = [] then ([], true) else if (cutB 32 s).all okB = true ∧ (cutB 32 s).length ≤ 8 then ((cutB 32 s).map vOf, true) else ([], false)
theorem allP_row : ∀ (rest pre : List (List UInt8)), allP (fun pre v => okB v && decide ((pre.length : Int) ≤ 7)) pre rest = true ↔ rest.all okB = true ∧ (rest ≠ [] → pre.length + rest.length ≤ 8)
  | [], pre => by simp [allP]
  | v :: rest, pre => by
    rw [allP, Bool.and_eq_true, allP_row rest (pre ++ [v]), Bool.and_eq_true, List.all_cons, Bool.and_eq_true, decide_eq_true_eq, List.length_append, List.length_cons, List.length_nil, List.length_cons]
    constructor
    · rintro ⟨⟨h1, h2⟩, h3, h4⟩
      refine ⟨⟨h1, h3⟩, fun _ => ?_⟩
      by_cases hr : rest = []
      · subst hr; simp; omega
      · have := h4 hr; omega
    · rintro ⟨⟨h1, h3⟩, h4⟩
      have := h4 (by simp)
      exact ⟨⟨h1, by omega⟩, h3, fun _ => by omega⟩
theorem parseRow_all {s : List UInt8} (hs : ¬ s = []) : (allP (fun pre v => okB v && decide ((pre.length : Int) ≤ 7)) [] (cutB 32 s) = true → parseRow s = ((cutB 32 s).map vOf, true)) ∧ (allP (fun pre v => okB v && decide ((pre.length : Int) ≤ 7)) [] (cutB 32 s) = false → parseRow s = ([], false)) := by
  have h := allP_row (cutB 32 s) []
  have hne := cutB_ne 32 s
  unfold parseRow
  rw [if_neg hs]
  refine ⟨fun ha => ?_, fun ha => ?_⟩
  · obtain ⟨h1, h2⟩ := h.1 ha
    rw [if_pos ⟨h1, by have := h2 hne; simpa using this⟩]
  · rw [if_neg]
    rintro ⟨h1, h2⟩
    have := h.2 ⟨h1, fun _ => by simpa using h2⟩
    rw [ha] at this
    cases this
theorem parseRow_good (s : List UInt8) (hs : s.length ≤ 1048576) : (parseRow s).1.length ≤ 8 := by
  unfold parseRow
  split
  · simp
  · split
    · rename_i h; simpa using h.2
    · simp
theorem vOf_len (p : List UInt8) : (vOf p).fS.length ≤ 30 := by
  unfold vOf parseVal
  split
  · exact Nat.zero_le _
  · rename_i h
    simp only [not_or, Bool.not_eq_false] at h
    by_cases h3 : (val2 p).1.fK = 3
    · exact valOk_len h.2 h3
    · rw [valOk_str h.2 h3]; exact Nat.zero_le _
theorem parseRow_cost (s : List UInt8) : (sliceT tVal).cost (parseRow s).1 ≤ 1048576 := by
  have each : ∀ l : List (List UInt8), costL tVal (l.map vOf) ≤ 30 * l.length := by
    intro l
    induction l with
    | nil => exact Nat.le_refl _
    | cons p l ih =>
      have h1 : tVal.cost (vOf p) ≤ 30 := vOf_len p
      show tVal.cost (vOf p) + costL tVal (l.map vOf) ≤ 30 * (l.length + 1)
      omega
  have hc : ∀ l : List TVal, (sliceT tVal).cost l = l.length + costL tVal l := fun _ => rfl
  rw [hc]
  unfold parseRow
  split
  · simp [costL]
  · split
    · rename_i h
      have h1 := each (cutB 32 s)
      have h2 : ((cutB 32 s).map vOf).length = (cutB 32 s).length := by simp
      simp only []
      omega
    · simp [costL]
end Go.Proofs.YtgjdkcjijmdfoaaDoor.Pr
/- What the functions that FnExactParseRow calls answer: part 5. -/
namespace Go.Proofs.YtgjdkcjijmdfoaaDoor.Pr
open Go Go.RowKit Go.Ev
set_option linter.unusedSimpArgs false
set_option linter.unusedVariables false
set_option maxHeartbeats 1600000
noncomputable def C_spec_l28Split := c2 strT u8T (fun (s : List UInt8) (c : UInt8) => s.length ≤ 1048576) (fun x => .imm (x.map strT.row)) fun (s : List UInt8) (c : UInt8) => cutB c s
theorem C_spec_l28Split_eq (s : List UInt8) (c : UInt8) (h : s.length ≤ 1048576) : C_spec_l28Split [.str s, .int .u8 (c).toNat] = some (.imm (((cutB c s)).map strT.row)) := c2_eq strT u8T h
theorem ok_spec_l28Split {WI : World → Prop} (hs : Stable WI) (cs) (hT : TOK (EE cs) WI) : PureOK Tryd.prog WI 48 C_spec_l28Split := by
  refine pure2 (E := EE cs) hT hs (by rw [st_spec_l28Split]; rfl) fun s c hp => out_wp (n := 1) (st_spec_l28Split cs) ?_
  simp only [go_sem, kSt_ptr, Nat.reduceBEq, Nat.reduceAdd, Nat.reduceEqDiff, Nat.reduceLeDiff, Nat.reduceSub, reduceIte, Int.reduceBEq, Int.reduceEq, Int.reduceLT, Int.reduceLE, Int.reduceGT, Int.reduceGE, Int.reduceNe, Int.reduceBNe, s_spec_l28Split, rep0, fill0, frz0]
  refine (wl_for (l := (s ++ [c])) (fun pre e h => e 0 = .str s ∧ e 1 = .int .u8 c.toNat ∧ grows strT (cutB c pre).dropLast (e 5) h ∧ e 6 = .int .i64 (cutF c pre) ∧ e 7 = .int .i64 pre.length) (.exit 0) (fun e h => grows strT (cutB c s) (e 5) h) (by simp; omega) ?_ ?_ (by simp) (s ++ [c]) [] _ _ rfl ?_).mono ?_
  · rintro pre b rest e h a ⟨q0, q1, q2, q3, ix⟩
    have hlt : pre.length < s.length + 1 := by have := a.lt; simpa using this
    have hle : decide ((pre.length : Int) ≤ (s.length : Int)) = true := decide_eq_true (by omega)
    have hlen : ((cutB c pre).dropLast).length ≤ 1048576 := by have := cutB_len c pre; rw [List.length_dropLast]; omega
    have hcat : cutB c pre = (cutB c pre).dropLast ++ [cutL c pre] := cut_eq c pre
    have step : ∀ (hbc : b = c) (rs : List UInt8), s = pre ++ rs → (cutB c (pre ++ [b])).dropLast = (cutB c pre).dropLast ++ [cutL c pre] ∧ cutF c (pre ++ [b]) = pre.length + 1 := fun hbc rs hs => by subst hbc; exact ⟨by rw [(cutL_snoc_eq b pre).2]; exact hcat, cutF_eq b pre⟩
    by_cases hr : rest = []
    · have hsp : s = pre ∧ b = c := by have h2 := a.hl; rw [hr] at h2; have := List.append_inj' h2 rfl; exact ⟨this.1, by simpa using this.2.symm⟩
      obtain ⟨hsp, hbc⟩ := hsp
      obtain ⟨st1, st2⟩ := step hbc [] (by rw [hsp]; simp)
      have hsl := cutF_sl c (s := s) (pre := pre) (rest := []) (by rw [hsp]; simp)
      have hie : ((pre.length : Int) == (s.length : Int)) = true := by rw [hsp]; simp
      simp only [go_sem, kSt_ptr, Nat.reduceBEq, Nat.reduceAdd, Nat.reduceEqDiff, Nat.reduceLeDiff, Nat.reduceSub, reduceIte, Int.reduceBEq, Int.reduceEq, Int.reduceLT, Int.reduceLE, Int.reduceGT, Int.reduceGE, Int.reduceNe, Int.reduceBNe, s_spec_l28Split_L0, q0, q1, q3, ix, hle, hie, hsl, a.hw, strFillR, strFrzR]
      refine hP_grow [cutL c pre] rfl (q2.mono (by simp <;> omega) (fun r hr => by simp <;> omega)) rfl (by simp only [List.length_cons, List.length_nil]; unfold room; omega) ?_
      intro v' h' g1 g2 g3 _
      simp only [go_sem, kSt_ptr, Nat.reduceBEq, Nat.reduceAdd, Nat.reduceEqDiff, Nat.reduceLeDiff, Nat.reduceSub, reduceIte, Int.reduceBEq, Int.reduceEq, Int.reduceLT, Int.reduceLE, Int.reduceGT, Int.reduceGE, Int.reduceNe, Int.reduceBNe, q0, q1, ix, a.hw, st1, st2, g1]
      simp
    obtain ⟨rs, hs⟩ : ∃ rs, s = pre ++ b :: rs := by obtain ⟨q, z, hz⟩ : ∃ q z, rest = q ++ [z] := ⟨rest.dropLast, rest.getLast hr, (List.dropLast_concat_getLast hr).symm⟩; have h2 := a.hl; rw [hz, ← List.cons_append, ← List.append_assoc] at h2; exact ⟨q, (List.append_inj' h2 rfl).1⟩
    have hie : ((pre.length : Int) == (s.length : Int)) = false := by rw [hs]; simp; omega
    by_cases hbc : b = c
    · have hbe : ((b.toNat : Int) == (c.toNat : Int)) = true := u8eq hbc
      obtain ⟨st1, st2⟩ := step hbc (b :: rs) hs
      have hsl := cutF_sl c (s := s) (pre := pre) (rest := b :: rs) hs
      simp only [go_sem, kSt_ptr, Nat.reduceBEq, Nat.reduceAdd, Nat.reduceEqDiff, Nat.reduceLeDiff, Nat.reduceSub, reduceIte, Int.reduceBEq, Int.reduceEq, Int.reduceLT, Int.reduceLE, Int.reduceGT, Int.reduceGE, Int.reduceNe, Int.reduceBNe, s_spec_l28Split_L0, q0, q1, q3, ix, hle, hie, kIx_at hs, hbe, hsl, a.hw, strFillR, strFrzR]
      refine hP_grow [cutL c pre] rfl (q2.mono (by simp <;> omega) (fun r hr => by simp <;> omega)) rfl (by simp only [List.length_cons, List.length_nil]; unfold room; omega) ?_
      intro v' h' g1 g2 g3 _
      simp only [go_sem, kSt_ptr, Nat.reduceBEq, Nat.reduceAdd, Nat.reduceEqDiff, Nat.reduceLeDiff, Nat.reduceSub, reduceIte, Int.reduceBEq, Int.reduceEq, Int.reduceLT, Int.reduceLE, Int.reduceGT, Int.reduceGE, Int.reduceNe, Int.reduceBNe, q0, q1, ix, a.hw, st1, st2, g1]
      simp
    have hbe : ((b.toNat : Int) == (c.toNat : Int)) = false := u8ne hbc
    have st1 := (cutL_snoc_ne pre hbc).2
    have st2 := cutF_ne pre hbc
    simp only [go_sem, kSt_ptr, Nat.reduceBEq, Nat.reduceAdd, Nat.reduceEqDiff, Nat.reduceLeDiff, Nat.reduceSub, reduceIte, Int.reduceBEq, Int.reduceEq, Int.reduceLT, Int.reduceLE, Int.reduceGT, Int.reduceGE, Int.reduceNe, Int.reduceBNe, s_spec_l28Split_L0, q0, q1, q2, q3, ix, a.dl, lt_self, a.hw, hle, q2, hle, hie, kIx_at hs, hbe, st1, st2]
  · rintro e h ⟨q0, q1, q2, q3, ix⟩
    rw [(cutL_snoc_eq c s).2] at q2
    have hle : decide ((s.length : Int) + 1 ≤ (s.length : Int)) = false := decide_eq_false (by omega)
    simp only [go_sem, kSt_ptr, Nat.reduceBEq, Nat.reduceAdd, Nat.reduceEqDiff, Nat.reduceLeDiff, Nat.reduceSub, reduceIte, Int.reduceBEq, Int.reduceEq, Int.reduceLT, Int.reduceLE, Int.reduceGT, Int.reduceGE, Int.reduceNe, Int.reduceBNe, s_spec_l28Split_L0, q0, q1, q2, q3, ix, hle, q2]
  · simp only [go_sem, kSt_ptr, Nat.reduceBEq, Nat.reduceAdd, Nat.reduceEqDiff, Nat.reduceLeDiff, Nat.reduceSub, reduceIte, Int.reduceBEq, Int.reduceEq, Int.reduceLT, Int.reduceLE, Int.reduceGT, Int.reduceGE, Int.reduceNe, Int.reduceBNe]; exact ⟨grows_new strT Hp.empty, rfl⟩
  · rintro x e h ⟨rfl, j⟩
    simp only [go_sem, kSt_ptr, Nat.reduceBEq, Nat.reduceAdd, Nat.reduceEqDiff, Nat.reduceLeDiff, Nat.reduceSub, reduceIte, Int.reduceBEq, Int.reduceEq, Int.reduceLT, Int.reduceLE, Int.reduceGT, Int.reduceGE, Int.reduceNe, Int.reduceBNe]
    exact frzE_grows j
noncomputable def C_spec_ParseRow := c1 strT (fun (s : List UInt8) => s.length ≤ 1048576) (fun x => .tup [.imm (x.1.map TVal.row), .bool x.2]) fun (s : List UInt8) => parseRow s
theorem C_spec_ParseRow_eq (s : List UInt8) (h : s.length ≤ 1048576) : C_spec_ParseRow [.str s] = some (.tup [.imm (((parseRow s).1).map TVal.row), .bool ((parseRow s).2)]) := c1_eq strT h
theorem ok_spec_ParseRow {WI : World → Prop} (hs : Stable WI) (cs) (hT : TOK (EE cs) WI) (h1 : (EE cs).T 49 = some C_spec_ParseVal) (h2 : (EE cs).T 48 = some C_spec_l28Split) : PureOK Tryd.prog WI 25 C_spec_ParseRow := by
  refine pure1 (E := EE cs) hT hs (by rw [st_spec_ParseRow]; rfl) fun s hp => out_wp (n := 1) (st_spec_ParseRow cs) ?_
  have hp0 := hp
  by_cases hs : s = []
  · subst hs
    have hx : parseRow [] = ([], true) := rfl
    simp only [go_sem, kSt_ptr, Nat.reduceBEq, Nat.reduceAdd, Nat.reduceEqDiff, Nat.reduceLeDiff, Nat.reduceSub, reduceIte, Int.reduceBEq, Int.reduceEq, Int.reduceLT, Int.reduceLE, Int.reduceGT, Int.reduceGE, Int.reduceNe, Int.reduceBNe, s_spec_ParseRow, hx, rep0, fill0, frz0]
  have hse := beqF hs
  have hc := C_spec_l28Split_eq s 32 hp
  rw [u8w32] at hc
  have hlen := cutB_len 32 s
  obtain ⟨f1, f2⟩ := parseRow_all hs
  simp only [go_sem, kSt_ptr, Nat.reduceBEq, Nat.reduceAdd, Nat.reduceEqDiff, Nat.reduceLeDiff, Nat.reduceSub, reduceIte, Int.reduceBEq, Int.reduceEq, Int.reduceLT, Int.reduceLE, Int.reduceGT, Int.reduceGE, Int.reduceNe, Int.reduceBNe, s_spec_ParseRow, hse, h2, hc, rep0, fill0, frz0]
  refine (wl_all (l := (cutB 32 s)) (fun pre p => okB p && decide ((pre.length : Int) ≤ 7)) (fun pre e h => e 5 = .imm ((cutB 32 s).map strT.row) ∧ grows tVal (pre.map vOf) (e 4) h ∧ e 6 = .int .i64 pre.length) (.exit 0) (fun e h => e 5 = .imm ((cutB 32 s).map strT.row) ∧ grows tVal (((cutB 32 s)).map vOf) (e 4) h) (fun e h => grows tVal [] (e 2) h ∧ e 3 = .bool false) (by omega) ?_ ?_ ?_ (by simp) (cutB 32 s) [] _ _ rfl ?_).mono ?_
  · rintro pre p rest e h a hp ⟨q0, q1, ix⟩
    have hpl : p.length ≤ 1048576 := Nat.le_trans (cutB_mem 32 s p a.mem) hp0
    have hc1 := C_spec_ParseVal_eq p hpl
    have hlt := a.lt
    have hne : ¬ h.nx = h.nx + 1 := by omega
    simp only [Bool.and_eq_true, decide_eq_true_eq] at hp
    have hgt : ¬ (7 : Int) < (pre.length : Int) := by omega
    have ho : (parseVal p).2 = true := hp.1
    all_goals simp only [go_sem, kSt_ptr, Nat.reduceBEq, Nat.reduceAdd, Nat.reduceEqDiff, Nat.reduceLeDiff, Nat.reduceSub, reduceIte, Int.reduceBEq, Int.reduceEq, Int.reduceLT, Int.reduceLE, Int.reduceGT, Int.reduceGE, Int.reduceNe, Int.reduceBNe, s_spec_ParseRow_L0, q0, q1, ix, a.dl, a.ia (row := strT.row) (sz := 1) rfl, hp, a.hw, strT_row, TVal.row, h1, hc1, ho, hne, vFillR, vFrzR, rep0, fill0, frz0, hgt]
    refine hP_grow [vOf p] rfl (q1.mono (by simp <;> omega) (fun r hr => by simp <;> omega)) rfl (by simp only [List.length_cons, List.length_nil, List.length_map]; unfold room; omega) ?_
    intro v' h' g1 g2 g3 _
    simp only [go_sem, kSt_ptr, Nat.reduceBEq, Nat.reduceAdd, Nat.reduceEqDiff, Nat.reduceLeDiff, Nat.reduceSub, reduceIte, Int.reduceBEq, Int.reduceEq, Int.reduceLT, Int.reduceLE, Int.reduceGT, Int.reduceGE, Int.reduceNe, Int.reduceBNe, q0, ix, a.hw, List.map_append, List.map_cons, List.map_nil, g1]
  · rintro pre p rest e h a hp ⟨q0, q1, ix⟩
    have hpl : p.length ≤ 1048576 := Nat.le_trans (cutB_mem 32 s p a.mem) hp0
    have hc1 := C_spec_ParseVal_eq p hpl
    have hlt := a.lt
    have hne : ¬ h.nx = h.nx + 1 := by omega
    have hcase : (parseVal p).2 = false ∨ ((parseVal p).2 = true ∧ (7 : Int) < (pre.length : Int)) := by cases hx : (parseVal p).2; exact .inl rfl; have hx' : okB p = true := hx; rw [hx', Bool.true_and] at hp; exact .inr ⟨rfl, by simpa using hp⟩
    rcases hcase with ho | ⟨ho, hgt⟩
    all_goals simp only [go_sem, kSt_ptr, Nat.reduceBEq, Nat.reduceAdd, Nat.reduceEqDiff, Nat.reduceLeDiff, Nat.reduceSub, reduceIte, Int.reduceBEq, Int.reduceEq, Int.reduceLT, Int.reduceLE, Int.reduceGT, Int.reduceGE, Int.reduceNe, Int.reduceBNe, s_spec_ParseRow_L0, q0, q1, ix, a.dl, a.ia (row := strT.row) (sz := 1) rfl, hp, a.hw, strT_row, TVal.row, h1, hc1, ho, hne, vFillR, vFrzR, rep0, fill0, frz0]
    · exact .inr ⟨_, rfl, by simp <;> rfl, by simp⟩
    simp only [go_sem, kSt_ptr, Nat.reduceBEq, Nat.reduceAdd, Nat.reduceEqDiff, Nat.reduceLeDiff, Nat.reduceSub, reduceIte, Int.reduceBEq, Int.reduceEq, Int.reduceLT, Int.reduceLE, Int.reduceGT, Int.reduceGE, Int.reduceNe, Int.reduceBNe, hgt]
    exact .inr ⟨_, rfl, by simp <;> rfl, by simp⟩
  · rintro e h ⟨q0, q1, ix⟩
    simp only [go_sem, kSt_ptr, Nat.reduceBEq, Nat.reduceAdd, Nat.reduceEqDiff, Nat.reduceLeDiff, Nat.reduceSub, reduceIte, Int.reduceBEq, Int.reduceEq, Int.reduceLT, Int.reduceLE, Int.reduceGT, Int.reduceGE, Int.reduceNe, Int.reduceBNe, s_spec_ParseRow_L0, q0, q1, ix]
  · simp only [go_sem, kSt_ptr, Nat.reduceBEq, Nat.reduceAdd, Nat.reduceEqDiff, Nat.reduceLeDiff, Nat.reduceSub, reduceIte, Int.reduceBEq, Int.reduceEq, Int.reduceLT, Int.reduceLE, Int.reduceGT, Int.reduceGE, Int.reduceNe, Int.reduceBNe]; exact .inr ⟨_, rfl, by simp <;> rfl, by simp⟩
  · rintro x e h (⟨hq, rfl, j0, j1⟩ | ⟨hq, rfl, j1, j2⟩)
    · rw [f1 hq]
      have hz := frzT_grows (n := 1) j1
      simp only [go_sem, kSt_ptr, Nat.reduceBEq, Nat.reduceAdd, Nat.reduceEqDiff, Nat.reduceLeDiff, Nat.reduceSub, reduceIte, Int.reduceBEq, Int.reduceEq, Int.reduceLT, Int.reduceLE, Int.reduceGT, Int.reduceGE, Int.reduceNe, Int.reduceBNe, hz]
    · rw [f2 hq]
      have hz := frzT_grows (n := 1) j1
      simp only [go_sem, kSt_ptr, Nat.reduceBEq, Nat.reduceAdd, Nat.reduceEqDiff, Nat.reduceLeDiff, Nat.reduceSub, reduceIte, Int.reduceBEq, Int.reduceEq, Int.reduceLT, Int.reduceLE, Int.reduceGT, Int.reduceGE, Int.reduceNe, Int.reduceBNe, hz, j2]
noncomputable def C_strings_HasPrefix := c2 strT strT (fun _ _ => True) .bool fun s p => Lib.hasPrefix s p
theorem C_strings_HasPrefix_eq (s p : List UInt8) : C_strings_HasPrefix [.str s, .str p] = some (.bool (Lib.hasPrefix s p)) := c2_eq strT strT trivial
noncomputable def C_strconv_Atoi := c1 strT (fun s => s.length ≤ 1048576) (atoiT 156) id
theorem C_strconv_Atoi_eq (s : List UInt8) (h : s.length ≤ 1048576) : C_strconv_Atoi [.str s] = some (atoiT 156 s) := c1_eq strT h
theorem ev_impl_in (cs) (x a b : Int) : ∃ k n, out (EE cs) k n 44 [.int .i64 x, .int .i64 a, .int .i64 b] = some (.bool (inR x a b)) := by
  refine out_K (n := 0) (st_impl_in cs) ?_
  by_cases h1 : a ≤ x
  · simp only [go_sem, kSt_ptr, Nat.reduceBEq, Nat.reduceAdd, Nat.reduceEqDiff, Nat.reduceLeDiff, Nat.reduceSub, reduceIte, Int.reduceBEq, Int.reduceEq, Int.reduceLT, Int.reduceLE, Int.reduceGT, Int.reduceGE, Int.reduceNe, Int.reduceBNe, s_impl_in, h1, inR]
  · simp only [go_sem, kSt_ptr, Nat.reduceBEq, Nat.reduceAdd, Nat.reduceEqDiff, Nat.reduceLeDiff, Nat.reduceSub, reduceIte, Int.reduceBEq, Int.reduceEq, Int.reduceLT, Int.reduceLE, Int.reduceGT, Int.reduceGE, Int.reduceNe, Int.reduceBNe, s_impl_in, h1, inR]
noncomputable def C_impl_in := ct (fun a : Int × Int × Int => [.int .i64 a.1, .int .i64 a.2.1, .int .i64 a.2.2]) (fun _ => True) .bool fun a => inR a.1 a.2.1 a.2.2
theorem C_impl_in_eq (x a b : Int) : C_impl_in [.int .i64 x, .int .i64 a, .int .i64 b] = some (.bool (inR x a b)) := by
  unfold C_impl_in
  exact ct_eq (a := (x, a, b)) (fun a b h => by
    simp only [List.cons.injEq, AV.int.injEq, and_true, true_and] at h
    exact Prod.ext h.1 (Prod.ext h.2.1 h.2.2)) trivial
theorem ok_impl_in {WI} (hs : Stable WI) (cs) (hT : TOK (EE cs) WI) : PureOK Tryd.prog WI 44 C_impl_in :=
  pure_out hT hs (by rw [st_impl_in]; rfl) fun a _ => ev_impl_in cs a.1 a.2.1 a.2.2
theorem ev_impl_ValOk (cs) (hT : (EE cs).T 44 = some C_impl_in) (v : TVal) : ∃ k n, out (EE cs) k n 56 [.agg v.row] = some (.bool (valOk v)) := by
  refine out_K (n := 0) (st_impl_ValOk cs) ?_
  by_cases h0 : v.fK = 0
  · by_cases hn : v.fN = 0
    · simp only [go_sem, kSt_ptr, Nat.reduceBEq, Nat.reduceAdd, Nat.reduceEqDiff, Nat.reduceLeDiff, Nat.reduceSub, reduceIte, Int.reduceBEq, Int.reduceEq, Int.reduceLT, Int.reduceLE, Int.reduceGT, Int.reduceGE, Int.reduceNe, Int.reduceBNe, s_impl_ValOk, TVal.row, h0, hn, valOk]
    · simp only [go_sem, kSt_ptr, Nat.reduceBEq, Nat.reduceAdd, Nat.reduceEqDiff, Nat.reduceLeDiff, Nat.reduceSub, reduceIte, Int.reduceBEq, Int.reduceEq, Int.reduceLT, Int.reduceLE, Int.reduceGT, Int.reduceGE, Int.reduceNe, Int.reduceBNe, s_impl_ValOk, TVal.row, h0, hn, beqF hn, valOk]
  by_cases h1 : v.fK = 1
  · cases hn : inR v.fN (-2147483648) 2147483647
    · simp only [go_sem, kSt_ptr, Nat.reduceBEq, Nat.reduceAdd, Nat.reduceEqDiff, Nat.reduceLeDiff, Nat.reduceSub, reduceIte, Int.reduceBEq, Int.reduceEq, Int.reduceLT, Int.reduceLE, Int.reduceGT, Int.reduceGE, Int.reduceNe, Int.reduceBNe, s_impl_ValOk, TVal.row, h1, hn, valOk, hT, C_impl_in_eq]
    · simp only [go_sem, kSt_ptr, Nat.reduceBEq, Nat.reduceAdd, Nat.reduceEqDiff, Nat.reduceLeDiff, Nat.reduceSub, reduceIte, Int.reduceBEq, Int.reduceEq, Int.reduceLT, Int.reduceLE, Int.reduceGT, Int.reduceGE, Int.reduceNe, Int.reduceBNe, s_impl_ValOk, TVal.row, h1, hn, valOk, hT, C_impl_in_eq]
  by_cases h2 : v.fK = 2
  · cases hn : inR v.fN (-1000000000000000) 1000000000000000
    · simp only [go_sem, kSt_ptr, Nat.reduceBEq, Nat.reduceAdd, Nat.reduceEqDiff, Nat.reduceLeDiff, Nat.reduceSub, reduceIte, Int.reduceBEq, Int.reduceEq, Int.reduceLT, Int.reduceLE, Int.reduceGT, Int.reduceGE, Int.reduceNe, Int.reduceBNe, s_impl_ValOk, TVal.row, h2, hn, valOk, hT, C_impl_in_eq]
    · simp only [go_sem, kSt_ptr, Nat.reduceBEq, Nat.reduceAdd, Nat.reduceEqDiff, Nat.reduceLeDiff, Nat.reduceSub, reduceIte, Int.reduceBEq, Int.reduceEq, Int.reduceLT, Int.reduceLE, Int.reduceGT, Int.reduceGE, Int.reduceNe, Int.reduceBNe, s_impl_ValOk, TVal.row, h2, hn, valOk, hT, C_impl_in_eq]
  by_cases h3 : v.fK = 3
  · by_cases hn : v.fN = 0
    · simp only [go_sem, kSt_ptr, Nat.reduceBEq, Nat.reduceAdd, Nat.reduceEqDiff, Nat.reduceLeDiff, Nat.reduceSub, reduceIte, Int.reduceBEq, Int.reduceEq, Int.reduceLT, Int.reduceLE, Int.reduceGT, Int.reduceGE, Int.reduceNe, Int.reduceBNe, s_impl_ValOk, TVal.row, h3, hn, valOk, hT, C_impl_in_eq]
    · simp only [go_sem, kSt_ptr, Nat.reduceBEq, Nat.reduceAdd, Nat.reduceEqDiff, Nat.reduceLeDiff, Nat.reduceSub, reduceIte, Int.reduceBEq, Int.reduceEq, Int.reduceLT, Int.reduceLE, Int.reduceGT, Int.reduceGE, Int.reduceNe, Int.reduceBNe, s_impl_ValOk, TVal.row, h3, hn, beqF hn, valOk, hT, C_impl_in_eq]
  by_cases h4 : v.fK = 4
  · cases hn : inR v.fN 0 1
    · simp only [go_sem, kSt_ptr, Nat.reduceBEq, Nat.reduceAdd, Nat.reduceEqDiff, Nat.reduceLeDiff, Nat.reduceSub, reduceIte, Int.reduceBEq, Int.reduceEq, Int.reduceLT, Int.reduceLE, Int.reduceGT, Int.reduceGE, Int.reduceNe, Int.reduceBNe, s_impl_ValOk, TVal.row, h4, hn, valOk, hT, C_impl_in_eq]
    · simp only [go_sem, kSt_ptr, Nat.reduceBEq, Nat.reduceAdd, Nat.reduceEqDiff, Nat.reduceLeDiff, Nat.reduceSub, reduceIte, Int.reduceBEq, Int.reduceEq, Int.reduceLT, Int.reduceLE, Int.reduceGT, Int.reduceGE, Int.reduceNe, Int.reduceBNe, s_impl_ValOk, TVal.row, h4, hn, valOk, hT, C_impl_in_eq]
  simp only [go_sem, kSt_ptr, Nat.reduceBEq, Nat.reduceAdd, Nat.reduceEqDiff, Nat.reduceLeDiff, Nat.reduceSub, reduceIte, Int.reduceBEq, Int.reduceEq, Int.reduceLT, Int.reduceLE, Int.reduceGT, Int.reduceGE, Int.reduceNe, Int.reduceBNe, s_impl_ValOk, TVal.row, h0, h1, h2, h3, h4, beqF h0, beqF h1, beqF h2, beqF h3, beqF h4, valOk, hT, C_impl_in_eq]
noncomputable def C_impl_ValOk := ct (fun a : TVal => [.agg a.row]) (fun _ => True) .bool valOk
theorem C_impl_ValOk_eq (k n : Int) (s : List UInt8) : C_impl_ValOk [.agg [.int .i64 k, .int .i64 n, .str s]] = some (.bool (valOk ⟨k, n, s⟩)) := by
  unfold C_impl_ValOk
  exact ct_eq (a := (⟨k, n, s⟩ : TVal)) (fun a b h => by
    simp only [List.cons.injEq, AV.agg.injEq, and_true] at h
    exact TVal.inj _ _ h) trivial
theorem ok_impl_ValOk {WI} (hs : Stable WI) (cs) (hT : TOK (EE cs) WI) (h : (EE cs).T 44 = some C_impl_in) : PureOK Tryd.prog WI 56 C_impl_ValOk := pure_out hT hs (by rw [st_impl_ValOk]; rfl) fun a _ => ev_impl_ValOk cs h a
noncomputable def C_strconv_Itoa := ct (fun a : Int => [.int .i64 a]) (fun a => -9223372036854775808 ≤ a ∧ a ≤ 9223372036854775807) .str Lib.itoa
theorem C_strconv_Itoa_eq (n : Int) (hn : -9223372036854775808 ≤ n ∧ n ≤ 9223372036854775807) : C_strconv_Itoa [.int .i64 n] = some (.str (Lib.itoa n)) := by
  unfold C_strconv_Itoa
  exact ct_eq (a := n) (fun a b h => by simpa using h) hn
theorem L_impl_ValText (cs) (kk nn : Int) (s : List UInt8) (hs : s.length ≤ 9223372036854775807) : ∀ (rest pre : List UInt8) (e : Ps) (h : Hp), s = pre ++ rest → h.hp 0 = some [.int .i64 kk, .int .i64 nn, .str s] → e 1 = .ptr 0 0 → e 3 = .int .i64 pre.length →
    WL (EE cs) s_impl_ValText_L0 e h fun x e' h' => h' = h ∧ if rest.all plainB = true then x = .exit 1 ∧ e' 1 = .ptr 0 0 else x = .ret ∧ e' 2 = .str []
  | [], pre, e, h, hl, hh, h1, h3 => by
    refine .step (.sim ?_)
    simp only [go_sem, kSt_ptr, Nat.reduceBEq, Nat.reduceAdd, Nat.reduceEqDiff, Nat.reduceLeDiff, Nat.reduceSub, reduceIte, Int.reduceBEq, Int.reduceEq, Int.reduceLT, Int.reduceLE, Int.reduceGT, Int.reduceGE, Int.reduceNe, Int.reduceBNe, s_impl_ValText_L0, hh, h1, h3, lt_end hl, List.all_nil]
  | b :: rest, pre, e, h, hl, hh, h1, h3 => by
    have hlt : pre.length < s.length := by rw [hl]; simp
    have hw : IntKind.wrap .i64 ((pre.length : Int) + 1) = (pre.length : Int) + 1 := wrapId (by omega) (by omega)
    have out : ∀ hp : plainB b = false, ∀ (Q : QS), (∀ e', e' 2 = .str [] → Q .ret e' h) → W (EE cs) s_impl_ValText_L0 e h Q := by
      intro hp Q hQ
      refine .mono (.sim (Q := fun x e1 h1 => x = .ret ∧ h1 = h ∧ e1 2 = .str []) ?_) ?_
      · by_cases c1 : (b.toNat : Int) < 32
        · simp only [go_sem, kSt_ptr, Nat.reduceBEq, Nat.reduceAdd, Nat.reduceEqDiff, Nat.reduceLeDiff, Nat.reduceSub, reduceIte, Int.reduceBEq, Int.reduceEq, Int.reduceLT, Int.reduceLE, Int.reduceGT, Int.reduceGE, Int.reduceNe, Int.reduceBNe, s_impl_ValText_L0, hh, h1, h3, lt_map hl, kIx_at hl, c1]
        by_cases c2 : (126 : Int) < b.toNat
        · simp only [go_sem, kSt_ptr, Nat.reduceBEq, Nat.reduceAdd, Nat.reduceEqDiff, Nat.reduceLeDiff, Nat.reduceSub, reduceIte, Int.reduceBEq, Int.reduceEq, Int.reduceLT, Int.reduceLE, Int.reduceGT, Int.reduceGE, Int.reduceNe, Int.reduceBNe, s_impl_ValText_L0, hh, h1, h3, lt_map hl, kIx_at hl, c1, c2]
        by_cases hb : (b.toNat : Int) = 39
        · have hbe : ((b.toNat : Int) == 39) = true := by simpa using hb
          simp only [go_sem, kSt_ptr, Nat.reduceBEq, Nat.reduceAdd, Nat.reduceEqDiff, Nat.reduceLeDiff, Nat.reduceSub, reduceIte, Int.reduceBEq, Int.reduceEq, Int.reduceLT, Int.reduceLE, Int.reduceGT, Int.reduceGE, Int.reduceNe, Int.reduceBNe, s_impl_ValText_L0, hh, h1, h3, lt_map hl, kIx_at hl, c1, c2, hbe]
        · exact absurd hp (by simp only [plainB, inR, beqF hb]; simp; omega)
      · rintro _ e1 _ ⟨rfl, rfl, h2⟩
        exact hQ e1 h2
    cases hp : plainB b
    · refine .step (out hp _ fun e' h2 => ?_)
      simp [hp, h2]
    · have hp' := hp
      simp only [plainB, inR, Bool.and_eq_true, Bool.not_eq_true', decide_eq_true_eq] at hp
      have c1 : ¬ (b.toNat : Int) < 32 := by omega
      have c2 : ¬ (126 : Int) < b.toNat := by omega
      refine .step (.mono (.sim (Q := fun x e1 h1 => x = .norm ∧ h1 = h ∧ e1 1 = .ptr 0 0 ∧ e1 3 = .int .i64 ((pre.length : Int) + 1)) ?_) ?_)
      · simp only [go_sem, kSt_ptr, Nat.reduceBEq, Nat.reduceAdd, Nat.reduceEqDiff, Nat.reduceLeDiff, Nat.reduceSub, reduceIte, Int.reduceBEq, Int.reduceEq, Int.reduceLT, Int.reduceLE, Int.reduceGT, Int.reduceGE, Int.reduceNe, Int.reduceBNe, s_impl_ValText_L0, hh, h1, h3, lt_map hl, kIx_at hl, c1, c2, hp.2, hw]
      · rintro _ e1 _ ⟨rfl, rfl, he1, he3⟩
        refine (L_impl_ValText cs kk nn s hs rest (pre ++ [b]) e1 _ (by rw [hl]; simp) hh he1 (by rw [he3]; simp)).mono ?_
        simp only [List.all_cons, hp', Bool.true_and]
        exact fun _ _ _ h => h
theorem ev_impl_ValText (cs) (hT56 : (EE cs).T 56 = some C_impl_ValOk) (hT57 : (EE cs).T 57 = some C_strconv_Itoa) (v : TVal) (hs : v.fS.length ≤ 9223372036854775807) : ∃ k n, out (EE cs) k n 33 [.agg v.row] = some (.str (valText v)) := by
  refine out_W (n := 0) (st_impl_ValText cs) ?_
  obtain ⟨k, n, s⟩ := v
  cases hv : valOk ⟨k, n, s⟩
  · refine .sim ?_
    simp only [go_sem, kSt_ptr, Nat.reduceBEq, Nat.reduceAdd, Nat.reduceEqDiff, Nat.reduceLeDiff, Nat.reduceSub, reduceIte, Int.reduceBEq, Int.reduceEq, Int.reduceLT, Int.reduceLE, Int.reduceGT, Int.reduceGE, Int.reduceNe, Int.reduceBNe, s_impl_ValText, TVal.row, hT56, C_impl_ValOk_eq, hv, valText, true_or]
  by_cases h3 : k = 3
  · subst h3
    have hl := valOk_len hv rfl
    simp only at hl
    have hc : ∀ h, kBin .add (.str [39]) (.str s) h = some (.str (39 :: s), h) := fun h => kCat (by simp; omega)
    have hc2 : ∀ h, kBin .add (.str (39 :: s)) (.str [39]) h = some (.str (39 :: (s ++ [39])), h) := fun h => kCat (by simp; omega)
    show W _ (.seq _ (.seq _ (.seq _ (.seq (.seq _ (.blk 1 (.loop s_impl_ValText_L0))) _)))) _ _ _
    refine .re (.re (.cut (M := fun e1 h1 => h1.hp 0 = some [.int .i64 3, .int .i64 n, .str s] ∧ e1 1 = .ptr 0 0) (.sim (by simp only [go_sem, kSt_ptr, Nat.reduceBEq, Nat.reduceAdd, Nat.reduceEqDiff, Nat.reduceLeDiff, Nat.reduceSub, reduceIte, Int.reduceBEq, Int.reduceEq, Int.reduceLT, Int.reduceLE, Int.reduceGT, Int.reduceGE, Int.reduceNe, Int.reduceBNe, TVal.row, hT56, C_impl_ValOk_eq, hv])) ?_))
    rintro e1 h1 ⟨hh, k1⟩
    refine .seq (.cut (M := fun e2 h2 => h2.hp 0 = some [.int .i64 3, .int .i64 n, .str s] ∧ e2 1 = .ptr 0 0 ∧ e2 3 = .int .i64 0) (.sim (by simp only [go_sem, kSt_ptr, Nat.reduceBEq, Nat.reduceAdd, Nat.reduceEqDiff, Nat.reduceLeDiff, Nat.reduceSub, reduceIte, Int.reduceBEq, Int.reduceEq, Int.reduceLT, Int.reduceLE, Int.reduceGT, Int.reduceGE, Int.reduceNe, Int.reduceBNe, k1, hh])) ?_)
    rintro e2 h2 ⟨hh, k1, k3⟩
    refine .blk (.loop ((L_impl_ValText cs 3 n s hs s [] e2 h2 rfl hh k1 k3).mono ?_))
    rintro x e' h' ⟨rfl, j2⟩
    split at j2
    · rename_i hz
      obtain ⟨rfl, j3⟩ := j2
      rw [outOf_exit]
      refine .sim ?_
      simp only [go_sem, kSt_ptr, Nat.reduceBEq, Nat.reduceAdd, Nat.reduceEqDiff, Nat.reduceLeDiff, Nat.reduceSub, reduceIte, Int.reduceBEq, Int.reduceEq, Int.reduceLT, Int.reduceLE, Int.reduceGT, Int.reduceGE, Int.reduceNe, Int.reduceBNe, s_impl_ValText, hh, j3, hc, hc2, hv, hz, valText, Bool.true_eq_false, or_self]
    · rename_i hz
      have hz' : s.all plainB = false := by simpa using hz
      obtain ⟨rfl, j3⟩ := j2
      simp only [go_sem, kSt_ptr, Nat.reduceBEq, Nat.reduceAdd, Nat.reduceEqDiff, Nat.reduceLeDiff, Nat.reduceSub, reduceIte, Int.reduceBEq, Int.reduceEq, Int.reduceLT, Int.reduceLE, Int.reduceGT, Int.reduceGE, Int.reduceNe, Int.reduceBNe, s_impl_ValText, j3, hz', valText, or_true]
  have hs0 := valOk_str hv h3
  simp only at hs0
  subst hs0
  refine .sim ?_
  by_cases h0 : k = 0
  · subst h0
    simp only [go_sem, kSt_ptr, Nat.reduceBEq, Nat.reduceAdd, Nat.reduceEqDiff, Nat.reduceLeDiff, Nat.reduceSub, reduceIte, Int.reduceBEq, Int.reduceEq, Int.reduceLT, Int.reduceLE, Int.reduceGT, Int.reduceGE, Int.reduceNe, Int.reduceBNe, s_impl_ValText, TVal.row, hT56, C_impl_ValOk_eq, hv, valText, Bool.true_eq_false, or_self, List.all_nil]
  by_cases h1 : k = 1
  · subst h1
    have hr := valOk_rng hv (.inl rfl)
    simp only at hr
    have c57 := C_strconv_Itoa_eq n (by omega)
    have hl := Lib.itoa_length_le n (by omega) (by omega)
    have hc : ∀ h, kBin .add (.str [105]) (.str (Lib.itoa n)) h = some (.str (105 :: Lib.itoa n), h) := fun h => kCat (by simp; omega)
    simp only [go_sem, kSt_ptr, Nat.reduceBEq, Nat.reduceAdd, Nat.reduceEqDiff, Nat.reduceLeDiff, Nat.reduceSub, reduceIte, Int.reduceBEq, Int.reduceEq, Int.reduceLT, Int.reduceLE, Int.reduceGT, Int.reduceGE, Int.reduceNe, Int.reduceBNe, s_impl_ValText, TVal.row, hT56, hT57, C_impl_ValOk_eq, c57, hv, hc, valText, Bool.true_eq_false, or_self, List.all_nil]
  by_cases h2 : k = 2
  · subst h2
    have hr := valOk_rng hv (.inr rfl)
    simp only at hr
    have c57 := C_strconv_Itoa_eq n (by omega)
    have hl := Lib.itoa_length_le n (by omega) (by omega)
    have hc : ∀ h, kBin .add (.str [110]) (.str (Lib.itoa n)) h = some (.str (110 :: Lib.itoa n), h) := fun h => kCat (by simp; omega)
    simp only [go_sem, kSt_ptr, Nat.reduceBEq, Nat.reduceAdd, Nat.reduceEqDiff, Nat.reduceLeDiff, Nat.reduceSub, reduceIte, Int.reduceBEq, Int.reduceEq, Int.reduceLT, Int.reduceLE, Int.reduceGT, Int.reduceGE, Int.reduceNe, Int.reduceBNe, s_impl_ValText, TVal.row, hT56, hT57, C_impl_ValOk_eq, c57, hv, hc, valText, Bool.true_eq_false, or_self, List.all_nil]
  by_cases h4 : k = 4
  · subst h4
    by_cases hn : n = 1
    · subst hn
      simp only [go_sem, kSt_ptr, Nat.reduceBEq, Nat.reduceAdd, Nat.reduceEqDiff, Nat.reduceLeDiff, Nat.reduceSub, reduceIte, Int.reduceBEq, Int.reduceEq, Int.reduceLT, Int.reduceLE, Int.reduceGT, Int.reduceGE, Int.reduceNe, Int.reduceBNe, s_impl_ValText, TVal.row, hT56, hT57, C_impl_ValOk_eq, hv, valText, Bool.true_eq_false, or_self, List.all_nil]
    · simp only [go_sem, kSt_ptr, Nat.reduceBEq, Nat.reduceAdd, Nat.reduceEqDiff, Nat.reduceLeDiff, Nat.reduceSub, reduceIte, Int.reduceBEq, Int.reduceEq, Int.reduceLT, Int.reduceLE, Int.reduceGT, Int.reduceGE, Int.reduceNe, Int.reduceBNe, s_impl_ValText, TVal.row, hT56, hT57, C_impl_ValOk_eq, hv, hn, beqF hn, valText, Bool.true_eq_false, or_self, List.all_nil]
  · simp [valOk, h0, h1, h2, h3, h4] at hv
noncomputable def C_impl_ValText := ct (fun a : TVal => [.agg a.row]) (fun a => a.fS.length ≤ 9223372036854775807) .str valText
theorem C_impl_ValText_eq (k n : Int) (s : List UInt8) (hs : s.length ≤ 9223372036854775807) : C_impl_ValText [.agg [.int .i64 k, .int .i64 n, .str s]] = some (.str (valText ⟨k, n, s⟩)) := by
  unfold C_impl_ValText
  exact ct_eq (a := (⟨k, n, s⟩ : TVal)) (fun a b h => by
    simp only [List.cons.injEq, AV.agg.injEq, and_true] at h
    exact TVal.inj _ _ h) hs
theorem ok_impl_ValText {WI} (hs : Stable WI) (cs) (hT : TOK (EE cs) WI) (h56 : (EE cs).T 56 = some C_impl_ValOk) (h57 : (EE cs).T 57 = some C_strconv_Itoa) : PureOK Tryd.prog WI 33 C_impl_ValText := pure_out hT hs (by rw [st_impl_ValText]; rfl) fun a h1 => ev_impl_ValText cs h56 h57 a h1
end Go.Proofs.YtgjdkcjijmdfoaaDoor.Pr
/- What the functions that FnExactParseRow calls answer: part 6. -/
namespace Go.Proofs.YtgjdkcjijmdfoaaDoor.Pr
open Go Go.RowKit Go.Ev
set_option linter.unusedSimpArgs false
set_option linter.unusedVariables false
set_option maxHeartbeats 1600000
noncomputable def C_impl_ParseVal := c1 strT (fun (s : List UInt8) => s.length ≤ 1048576) (fun x => .tup [.agg (x.1).row, .bool x.2]) fun (s : List UInt8) => parseVal s
theorem C_impl_ParseVal_eq (s : List UInt8) (h : s.length ≤ 1048576) : C_impl_ParseVal [.str s] = some (.tup [.agg (((parseVal s).1)).row, .bool ((parseVal s).2)]) := c1_eq strT h
theorem ok_impl_ParseVal {WI : World → Prop} (hs : Stable WI) (cs) (hT : TOK (EE cs) WI) (h1 : (EE cs).T 81 = some C_strings_HasPrefix) (h2 : (EE cs).T 82 = some C_strconv_Atoi) (h3 : (EE cs).T 33 = some C_impl_ValText) : PureOK Tryd.prog WI 51 C_impl_ParseVal := by
  refine pure1 (E := EE cs) hT hs (by rw [st_impl_ParseVal]; rfl) fun s hp => out_wp (n := 0) (st_impl_ParseVal cs) ?_
  rw [← valI_eq]
  have fin : ∀ (k n : Int) (t : List UInt8) (hv : t.length ≤ 9223372036854775807), C_impl_ValText [.agg [.int .i64 k, .int .i64 n, .str t]] = some (.str (valText ⟨k, n, t⟩)) := fun k n t hv => C_impl_ValText_eq k n t hv
  have p1 := fun (t : List UInt8) => C_strings_HasPrefix_eq t [105]
  have p2 := fun (t : List UInt8) => C_strings_HasPrefix_eq t [110]
  by_cases e1 : s = noB
  · subst e1
    have hx : valI noB = (⟨4, 0, []⟩, true) := rfl
    have ht : valText ⟨4, 0, []⟩ = noB := rfl
    have hc := fin 4 0 [] (by simp)
    rw [ht] at hc
    simp only [noB] at hc hx
    simp only [go_sem, kSt_ptr, Nat.reduceBEq, Nat.reduceAdd, Nat.reduceEqDiff, Nat.reduceLeDiff, Nat.reduceSub, reduceIte, Int.reduceBEq, Int.reduceEq, Int.reduceLT, Int.reduceLE, Int.reduceGT, Int.reduceGE, Int.reduceNe, Int.reduceBNe, s_impl_ParseVal, noB, hx, vFillK, vFill0, sq12, h3, hc, sq_no0, TVal.row]
  by_cases e2 : s = yesB
  · subst e2
    have hx : valI yesB = (⟨4, 1, []⟩, true) := rfl
    have ht : valText ⟨4, 1, []⟩ = yesB := rfl
    have hc := fin 4 1 [] (by simp)
    rw [ht] at hc
    simp only [yesB] at hc hx
    simp only [go_sem, kSt_ptr, Nat.reduceBEq, Nat.reduceAdd, Nat.reduceEqDiff, Nat.reduceLeDiff, Nat.reduceSub, reduceIte, Int.reduceBEq, Int.reduceEq, Int.reduceLT, Int.reduceLE, Int.reduceGT, Int.reduceGE, Int.reduceNe, Int.reduceBNe, s_impl_ParseVal, yesB, hx, vFillK, vFill0, sq21, h3, hc, sq_yes0, TVal.row]
  have b1 := beqF e1
  have b2 := beqF e2
  have b0' : ∀ h : s = nullB, (s == [110, 117, 108, 108]) = true := fun h => by subst h; rfl
  have b0 : ∀ h : ¬ s = nullB, (s == [110, 117, 108, 108]) = false := fun h => beqF h
  unfold noB at b1
  unfold yesB at b2
  -- the end, by what the text of the value is
  have chk : ∀ v : TVal, (valText v = [] ∧ chkV s v = (zeroV, false)) ∨ (¬ valText v = [] ∧ ¬ valText v = s ∧ chkV s v = (zeroV, false)) ∨ (¬ valText v = [] ∧ valText v = s ∧ chkV s v = (v, true)) := fun v => by
    by_cases h1 : valText v = []
    · exact .inl ⟨h1, by unfold chkV; rw [if_pos (.inl h1)]⟩
    by_cases h2 : valText v = s
    · exact .inr (.inr ⟨h1, h2, by unfold chkV; rw [if_neg (by rintro (h | h); exact h1 h; exact h h2)]⟩)
    · exact .inr (.inl ⟨h1, h2, by unfold chkV; rw [if_pos (.inr h2)]⟩)
  cases s with
  | nil =>
    have hx : valI [] = (zeroV, false) := rfl
    have ht : valText ⟨0, 0, []⟩ = nullB := rfl
    have hc := fin 0 0 [] (by simp)
    rw [ht] at hc
    simp only [nullB] at hc
    simp only [go_sem, kSt_ptr, Nat.reduceBEq, Nat.reduceAdd, Nat.reduceEqDiff, Nat.reduceLeDiff, Nat.reduceSub, reduceIte, Int.reduceBEq, Int.reduceEq, Int.reduceLT, Int.reduceLE, Int.reduceGT, Int.reduceGE, Int.reduceNe, Int.reduceBNe, s_impl_ParseVal, b1, b2, h1, p1, p2, hpre0, hx, zeroV, vFillK, vFill0, List.length_nil, h3, hc, sq_null0, sq_nulle, TVal.row]
  | cons c d =>
    have hih := ix_head c d
    have hst := sli_tail c d
    have hpd : d.length ≤ 1048576 := by simp at hp; omega
    have hat := C_strconv_Atoi_eq d hpd
    have hl0 : ¬ ((d.length + 1 : Nat) : Int) < 0 := by omega
    -- a numeral
    have num : ∀ (k : Int) (hk : k = 1 ∧ c = 105 ∨ k = 2 ∧ c = 110) (hnn : c = 110 → ¬ (c :: d) = nullB), valI (c :: d) = (match Lib.atoiAll d with | .ok n => chkV (c :: d) ⟨k, n, []⟩ | _ => (zeroV, false)) := fun k hk hnn => by
      unfold valI
      rw [if_neg e1, if_neg e2]
      rcases hk with ⟨rfl, rfl⟩ | ⟨rfl, rfl⟩
      · rw [if_pos (.inl List.head?_cons)]
        have hn : ¬ ((105 : UInt8) :: d).head? = some 110 := by simp
        simp only [if_neg hn, List.tail_cons]
        all_goals rfl
      · rw [if_pos (.inr ⟨List.head?_cons, hnn rfl⟩)]
        have hn : ((110 : UInt8) :: d).head? = some 110 := List.head?_cons
        simp only [if_pos hn, List.tail_cons]
        all_goals rfl
    by_cases hi : c = 105
    · subst hi
      have hpi : Lib.hasPrefix (105 :: d) [105] = true := by simp [Lib.hasPrefix, List.isPrefixOf]
      have hxn := num 1 (.inl ⟨rfl, rfl⟩) (fun h => by simp at h)
      cases ha : Lib.atoiAll d
      · rename_i n
        have hT : ∀ te, atoiT te d = .tup [.int .i64 n, .inil] := fun te => by unfold atoiT; rw [ha]
        rw [ha] at hxn
        simp only at hxn
        have hc := fin 1 n [] (by simp)
        rcases chk ⟨1, n, []⟩ with ⟨k1, k2⟩ | ⟨k1, k2, k3⟩ | ⟨k1, k2, k3⟩
        · rw [k1] at hc
          rw [hxn, k2]
          simp only [go_sem, kSt_ptr, Nat.reduceBEq, Nat.reduceAdd, Nat.reduceEqDiff, Nat.reduceLeDiff, Nat.reduceSub, reduceIte, Int.reduceBEq, Int.reduceEq, Int.reduceLT, Int.reduceLE, Int.reduceGT, Int.reduceGE, Int.reduceNe, Int.reduceBNe, s_impl_ParseVal, b1, b2, h1, p1, hpi, hst, h2, hat, hT, hih, u8q105n, vFillKN, vFill0, h3, hc, zeroV, TVal.row]
        · rw [hxn, k3]
          have q1 := beqF k1
          have q2 := beqF k2
          simp only [go_sem, kSt_ptr, Nat.reduceBEq, Nat.reduceAdd, Nat.reduceEqDiff, Nat.reduceLeDiff, Nat.reduceSub, reduceIte, Int.reduceBEq, Int.reduceEq, Int.reduceLT, Int.reduceLE, Int.reduceGT, Int.reduceGE, Int.reduceNe, Int.reduceBNe, s_impl_ParseVal, b1, b2, h1, p1, hpi, hst, h2, hat, hT, hih, u8q105n, vFillKN, vFill0, h3, hc, q1, q2, zeroV, TVal.row]
        · rw [hxn, k3]
          have q1 := beqF k1
          have q2 : (valText ⟨1, n, []⟩ == 105 :: d) = true := by rw [k2]; simp
          simp only [go_sem, kSt_ptr, Nat.reduceBEq, Nat.reduceAdd, Nat.reduceEqDiff, Nat.reduceLeDiff, Nat.reduceSub, reduceIte, Int.reduceBEq, Int.reduceEq, Int.reduceLT, Int.reduceLE, Int.reduceGT, Int.reduceGE, Int.reduceNe, Int.reduceBNe, s_impl_ParseVal, b1, b2, h1, p1, hpi, hst, h2, hat, hT, hih, u8q105n, vFillKN, vFill0, h3, hc, q1, q2, zeroV, TVal.row]
      · have hT : ∀ te, atoiT te d = .tup [.int .i64 0, .ifc te .unk] := fun te => by unfold atoiT; rw [ha]
        rw [ha] at hxn
        simp only at hxn
        rw [hxn]
        simp only [go_sem, kSt_ptr, Nat.reduceBEq, Nat.reduceAdd, Nat.reduceEqDiff, Nat.reduceLeDiff, Nat.reduceSub, reduceIte, Int.reduceBEq, Int.reduceEq, Int.reduceLT, Int.reduceLE, Int.reduceGT, Int.reduceGE, Int.reduceNe, Int.reduceBNe, s_impl_ParseVal, b1, b2, h1, p1, hpi, hst, h2, hat, hT, vFill0, zeroV, TVal.row]
      · have hT : ∀ te, atoiT te d = .tup [.int .i64 (Lib.atoiSat d), .ifc te .unk] := fun te => by unfold atoiT; rw [ha]
        rw [ha] at hxn
        simp only at hxn
        rw [hxn]
        simp only [go_sem, kSt_ptr, Nat.reduceBEq, Nat.reduceAdd, Nat.reduceEqDiff, Nat.reduceLeDiff, Nat.reduceSub, reduceIte, Int.reduceBEq, Int.reduceEq, Int.reduceLT, Int.reduceLE, Int.reduceGT, Int.reduceGE, Int.reduceNe, Int.reduceBNe, s_impl_ParseVal, b1, b2, h1, p1, hpi, hst, h2, hat, hT, vFill0, zeroV, TVal.row]
    have hpi : Lib.hasPrefix (c :: d) [105] = false := by simp [Lib.hasPrefix, List.isPrefixOf, Ne.symm hi]
    by_cases hn : c = 110 ∧ ¬ (c :: d) = nullB
    · obtain ⟨rfl, hn0⟩ := hn
      have hpn : Lib.hasPrefix (110 :: d) [110] = true := by simp [Lib.hasPrefix, List.isPrefixOf]
      have b0 := b0 hn0
      have hxn := num 2 (.inr ⟨rfl, rfl⟩) (fun _ => hn0)
      cases ha : Lib.atoiAll d
      · rename_i n
        have hT : ∀ te, atoiT te d = .tup [.int .i64 n, .inil] := fun te => by unfold atoiT; rw [ha]
        rw [ha] at hxn
        simp only at hxn
        have hc := fin 2 n [] (by simp)
        rcases chk ⟨2, n, []⟩ with ⟨k1, k2⟩ | ⟨k1, k2, k3⟩ | ⟨k1, k2, k3⟩
        · rw [k1] at hc
          rw [hxn, k2]
          simp only [go_sem, kSt_ptr, Nat.reduceBEq, Nat.reduceAdd, Nat.reduceEqDiff, Nat.reduceLeDiff, Nat.reduceSub, reduceIte, Int.reduceBEq, Int.reduceEq, Int.reduceLT, Int.reduceLE, Int.reduceGT, Int.reduceGE, Int.reduceNe, Int.reduceBNe, s_impl_ParseVal, b1, b2, b0, h1, p1, p2, hpi, hpn, hst, h2, hat, hT, hih, u8q110, vFillKN, vFill0, h3, hc, zeroV, TVal.row]
        · rw [hxn, k3]
          have q1 := beqF k1
          have q2 := beqF k2
          simp only [go_sem, kSt_ptr, Nat.reduceBEq, Nat.reduceAdd, Nat.reduceEqDiff, Nat.reduceLeDiff, Nat.reduceSub, reduceIte, Int.reduceBEq, Int.reduceEq, Int.reduceLT, Int.reduceLE, Int.reduceGT, Int.reduceGE, Int.reduceNe, Int.reduceBNe, s_impl_ParseVal, b1, b2, b0, h1, p1, p2, hpi, hpn, hst, h2, hat, hT, hih, u8q110, vFillKN, vFill0, h3, hc, q1, q2, zeroV, TVal.row]
        · rw [hxn, k3]
          have q1 := beqF k1
          have q2 : (valText ⟨2, n, []⟩ == 110 :: d) = true := by rw [k2]; simp
          simp only [go_sem, kSt_ptr, Nat.reduceBEq, Nat.reduceAdd, Nat.reduceEqDiff, Nat.reduceLeDiff, Nat.reduceSub, reduceIte, Int.reduceBEq, Int.reduceEq, Int.reduceLT, Int.reduceLE, Int.reduceGT, Int.reduceGE, Int.reduceNe, Int.reduceBNe, s_impl_ParseVal, b1, b2, b0, h1, p1, p2, hpi, hpn, hst, h2, hat, hT, hih, u8q110, vFillKN, vFill0, h3, hc, q1, q2, zeroV, TVal.row]
      · have hT : ∀ te, atoiT te d = .tup [.int .i64 0, .ifc te .unk] := fun te => by unfold atoiT; rw [ha]
        rw [ha] at hxn
        simp only at hxn
        rw [hxn]
        simp only [go_sem, kSt_ptr, Nat.reduceBEq, Nat.reduceAdd, Nat.reduceEqDiff, Nat.reduceLeDiff, Nat.reduceSub, reduceIte, Int.reduceBEq, Int.reduceEq, Int.reduceLT, Int.reduceLE, Int.reduceGT, Int.reduceGE, Int.reduceNe, Int.reduceBNe, s_impl_ParseVal, b1, b2, b0, h1, p1, p2, hpi, hpn, hst, h2, hat, hT, vFill0, zeroV, TVal.row]
      · have hT : ∀ te, atoiT te d = .tup [.int .i64 (Lib.atoiSat d), .ifc te .unk] := fun te => by unfold atoiT; rw [ha]
        rw [ha] at hxn
        simp only at hxn
        rw [hxn]
        simp only [go_sem, kSt_ptr, Nat.reduceBEq, Nat.reduceAdd, Nat.reduceEqDiff, Nat.reduceLeDiff, Nat.reduceSub, reduceIte, Int.reduceBEq, Int.reduceEq, Int.reduceLT, Int.reduceLE, Int.reduceGT, Int.reduceGE, Int.reduceNe, Int.reduceBNe, s_impl_ParseVal, b1, b2, b0, h1, p1, p2, hpi, hpn, hst, h2, hat, hT, vFill0, zeroV, TVal.row]
    -- neither
    have hx0 : valI (c :: d) = if 2 ≤ (((c :: d).length : Nat) : Int) ∧ (c :: d).head? = some 39 then chkV (c :: d) ⟨3, 0, (c :: d).tail.dropLast⟩ else chkV (c :: d) zeroV := by
      unfold valI
      rw [if_neg e1, if_neg e2, if_neg]
      rintro (h | h)
      · exact hi (by simpa using h)
      · exact hn ⟨by simpa using h.1, h.2⟩
    have key : ∀ {h : Hp}, True := trivial
    by_cases h39 : c = 39 ∧ d ≠ []
    · obtain ⟨rfl, hd⟩ := h39
      have hpn : Lib.hasPrefix (39 :: d) [110] = false := by simp [Lib.hasPrefix, List.isPrefixOf]
      obtain ⟨m, z, rfl⟩ : ∃ m z, d = m ++ [z] := ⟨d.dropLast, d.getLast hd, (List.dropLast_concat_getLast hd).symm⟩
      have hsl := sli_mid 39 z m
      have hlen : (((m ++ [z]).length + 1 : Nat) : Int) = (m.length : Int) + 2 := by simp; omega
      have hm : m.length ≤ 1048576 := by simp at hpd; omega
      have hw : IntKind.wrap .i64 ((m.length : Int) + 2 - 1) = (m.length : Int) + 1 := by rw [wrapId (by omega) (by omega)]; omega
      have h2l : (2 : Int) ≤ (m.length : Int) + 2 := by omega
      have z1 : ((39 : UInt8) :: (m ++ [z])).tail.dropLast = m := by simp
      rw [z1, if_pos ⟨by rw [List.length_cons, hlen]; omega, List.head?_cons⟩] at hx0
      have hc := fin 3 0 m (by omega)
      rcases chk ⟨3, 0, m⟩ with ⟨k1, k2⟩ | ⟨k1, k2, k3⟩ | ⟨k1, k2, k3⟩
      · rw [k1] at hc
        rw [hx0, k2]
        simp only [go_sem, kSt_ptr, Nat.reduceBEq, Nat.reduceAdd, Nat.reduceEqDiff, Nat.reduceLeDiff, Nat.reduceSub, reduceIte, Int.reduceBEq, Int.reduceEq, Int.reduceLT, Int.reduceLE, Int.reduceGT, Int.reduceGE, Int.reduceNe, Int.reduceBNe, s_impl_ParseVal, b1, b2, h1, p1, p2, hpi, hpn, hlen, h2l, hih, u8q39, hw, hsl, vFillKS, vFill0, h3, hc, zeroV, TVal.row]
      · rw [hx0, k3]
        have q1 := beqF k1
        have q2 := beqF k2
        simp only [go_sem, kSt_ptr, Nat.reduceBEq, Nat.reduceAdd, Nat.reduceEqDiff, Nat.reduceLeDiff, Nat.reduceSub, reduceIte, Int.reduceBEq, Int.reduceEq, Int.reduceLT, Int.reduceLE, Int.reduceGT, Int.reduceGE, Int.reduceNe, Int.reduceBNe, s_impl_ParseVal, b1, b2, h1, p1, p2, hpi, hpn, hlen, h2l, hih, u8q39, hw, hsl, vFillKS, vFill0, h3, hc, q1, q2, zeroV, TVal.row]
      · rw [hx0, k3]
        have q1 := beqF k1
        have q2 : (valText ⟨3, 0, m⟩ == 39 :: (m ++ [z])) = true := by rw [k2]; simp
        simp only [go_sem, kSt_ptr, Nat.reduceBEq, Nat.reduceAdd, Nat.reduceEqDiff, Nat.reduceLeDiff, Nat.reduceSub, reduceIte, Int.reduceBEq, Int.reduceEq, Int.reduceLT, Int.reduceLE, Int.reduceGT, Int.reduceGE, Int.reduceNe, Int.reduceBNe, s_impl_ParseVal, b1, b2, h1, p1, p2, hpi, hpn, hlen, h2l, hih, u8q39, hw, hsl, vFillKS, vFill0, h3, hc, q1, q2, zeroV, TVal.row]
    have hxz : valI (c :: d) = chkV (c :: d) zeroV := by
      rw [hx0, if_neg]
      rintro ⟨h1, h2⟩
      exact h39 ⟨by simpa using h2, fun e => by subst e; simp at h1⟩
    have hc := fin 0 0 [] (by simp)
    have ht : valText ⟨0, 0, []⟩ = [110, 117, 108, 108] := rfl
    rw [ht] at hc
    have hres : (¬ (c :: d) = nullB → valI (c :: d) = (zeroV, false)) ∧ ((c :: d) = nullB → valI (c :: d) = (zeroV, true)) := by
      rw [hxz]
      have htz : valText zeroV = [110, 117, 108, 108] := rfl
      refine ⟨fun hne => ?_, fun he => ?_⟩
      · unfold chkV; rw [if_pos (.inr (by rw [htz]; exact fun e => hne e.symm))]
      · unfold chkV; rw [htz, if_neg (by rintro (h | h); cases h; exact h he.symm)]
    by_cases hq : c = 39
    · have hd : d = [] := Classical.byContradiction fun h => h39 ⟨hq, h⟩
      have hpn : Lib.hasPrefix (c :: d) [110] = false := by subst hq; simp [Lib.hasPrefix, List.isPrefixOf]
      have hne : ¬ (c :: d) = nullB := by subst hq; simp [nullB]
      have h2l : ¬ (2 : Int) ≤ ((d.length + 1 : Nat) : Int) := by subst hd; decide
      rw [hres.1 hne]
      have q2 : (([110, 117, 108, 108] : List UInt8) == c :: d) = false := beqF fun e => hne e.symm
      simp only [go_sem, kSt_ptr, Nat.reduceBEq, Nat.reduceAdd, Nat.reduceEqDiff, Nat.reduceLeDiff, Nat.reduceSub, reduceIte, Int.reduceBEq, Int.reduceEq, Int.reduceLT, Int.reduceLE, Int.reduceGT, Int.reduceGE, Int.reduceNe, Int.reduceBNe, s_impl_ParseVal, b1, b2, h1, p1, p2, hpi, hpn, h2l, vFill0, h3, hc, sq_null0, q2, zeroV, TVal.row]
    have q39 : ((c.toNat : Int) == 39) = false := u8ne hq
    by_cases he : (c :: d) = nullB
    · rw [hres.2 he]
      have b0 := b0' he
      have hpn : Lib.hasPrefix (c :: d) [110] = true := by rw [he]; rfl
      have q2 : (([110, 117, 108, 108] : List UInt8) == c :: d) = true := by rw [he]; rfl
      have h2l : (2 : Int) ≤ ((d.length + 1 : Nat) : Int) := by
        have := congrArg List.length he
        simp [nullB] at this
        omega
      simp only [go_sem, kSt_ptr, Nat.reduceBEq, Nat.reduceAdd, Nat.reduceEqDiff, Nat.reduceLeDiff, Nat.reduceSub, reduceIte, Int.reduceBEq, Int.reduceEq, Int.reduceLT, Int.reduceLE, Int.reduceGT, Int.reduceGE, Int.reduceNe, Int.reduceBNe, s_impl_ParseVal, b1, b2, b0, h1, p1, p2, hpi, hpn, h2l, hih, q39, vFill0, h3, hc, sq_null0, q2, zeroV, TVal.row]
    · rw [hres.1 he]
      have hpn : Lib.hasPrefix (c :: d) [110] = false := by
        by_cases h110 : c = 110
        · exact absurd ⟨h110, he⟩ hn
        · simp [Lib.hasPrefix, List.isPrefixOf, Ne.symm h110]
      have q2 : (([110, 117, 108, 108] : List UInt8) == c :: d) = false := beqF fun e => he e.symm
      by_cases h2l : (2 : Int) ≤ ((d.length + 1 : Nat) : Int)
      · simp only [go_sem, kSt_ptr, Nat.reduceBEq, Nat.reduceAdd, Nat.reduceEqDiff, Nat.reduceLeDiff, Nat.reduceSub, reduceIte, Int.reduceBEq, Int.reduceEq, Int.reduceLT, Int.reduceLE, Int.reduceGT, Int.reduceGE, Int.reduceNe, Int.reduceBNe, s_impl_ParseVal, b1, b2, h1, p1, p2, hpi, hpn, h2l, hih, q39, vFill0, h3, hc, sq_null0, q2, zeroV, TVal.row]
      · simp only [go_sem, kSt_ptr, Nat.reduceBEq, Nat.reduceAdd, Nat.reduceEqDiff, Nat.reduceLeDiff, Nat.reduceSub, reduceIte, Int.reduceBEq, Int.reduceEq, Int.reduceLT, Int.reduceLE, Int.reduceGT, Int.reduceGE, Int.reduceNe, Int.reduceBNe, s_impl_ParseVal, b1, b2, h1, p1, p2, hpi, hpn, h2l, hih, q39, vFill0, h3, hc, sq_null0, q2, zeroV, TVal.row]
def wordsText : List UInt8 := [116, 97, 98, 108, 101, 32, 112, 114, 105, 109, 97, 114, 121, 32, 117, 110, 105, 113, 117, 101, 32, 105, 110, 100, 101, 120, 32, 110, 117, 108, 108, 32, 100, 101, 115, 99, 32, 105, 110, 116, 32, 110, 117, 109, 32, 116, 101, 120, 116, 32, 98, 111, 111, 108]
theorem words_split : Lib.split wordsText [32] = words := by decide +kernel
noncomputable def C_strings_Split := c2 strT strT (fun s sep => s.length < 4294967281 ∧ 1 ≤ sep.length) (fun l => .imm (l.map strT.row)) fun s sep => Lib.split s sep
theorem C_strings_Split_eq (s sep : List UInt8) (h : s.length < 4294967281 ∧ 1 ≤ sep.length) : C_strings_Split [.str s, .str sep] = some (.imm ((Lib.split s sep).map strT.row)) := c2_eq strT strT h
noncomputable def C_impl_ParseRow := c1 strT (fun (s : List UInt8) => s.length ≤ 1048576) (fun x => .tup [.imm (x.1.map TVal.row), .bool x.2]) fun (s : List UInt8) => parseRow s
theorem C_impl_ParseRow_eq (s : List UInt8) (h : s.length ≤ 1048576) : C_impl_ParseRow [.str s] = some (.tup [.imm (((parseRow s).1).map TVal.row), .bool ((parseRow s).2)]) := c1_eq strT h
theorem ok_impl_ParseRow {WI : World → Prop} (hs : Stable WI) (cs) (hT : TOK (EE cs) WI) (h1 : (EE cs).T 51 = some C_impl_ParseVal) (h2 : (EE cs).T 50 = some C_strings_Split) : OwnOK Tryd.prog WI 26 C_impl_ParseRow := by
  refine own1 (E := EE cs) hT hs (by rw [st_impl_ParseRow]; rfl) fun s hp => outO_wp (st_impl_ParseRow cs) ?_
  have hp0 := hp
  by_cases hs : s = []
  · subst hs
    have hx : parseRow [] = ([], true) := rfl
    simp only [go_sem, kSt_ptr, Nat.reduceBEq, Nat.reduceAdd, Nat.reduceEqDiff, Nat.reduceLeDiff, Nat.reduceSub, reduceIte, Int.reduceBEq, Int.reduceEq, Int.reduceLT, Int.reduceLE, Int.reduceGT, Int.reduceGE, Int.reduceNe, Int.reduceBNe, s_impl_ParseRow, hx]
    exact (OwS.nil 0 tVal (lo := 0) (hi := 0) (Nat.le_refl _) (Nat.zero_le _)).owI.owE_tb (by decide) true
  have hse := beqF hs
  have hc := C_strings_Split_eq s [32] ⟨by omega, by simp⟩
  rw [split_cut] at hc
  have hlen := cutB_len 32 s
  obtain ⟨f1, f2⟩ := parseRow_all hs
  simp only [go_sem, kSt_ptr, Nat.reduceBEq, Nat.reduceAdd, Nat.reduceEqDiff, Nat.reduceLeDiff, Nat.reduceSub, reduceIte, Int.reduceBEq, Int.reduceEq, Int.reduceLT, Int.reduceLE, Int.reduceGT, Int.reduceGE, Int.reduceNe, Int.reduceBNe, s_impl_ParseRow, hse, h2, hc]
  refine (wl_all (l := (cutB 32 s)) (fun pre p => okB p && decide ((pre.length : Int) ≤ 7)) (fun pre e h => e 12 = .imm ((cutB 32 s).map strT.row) ∧ OwS 0 tVal 0 h.nx (pre.map vOf) (e 4) h ∧ e 14 = .int .i64 pre.length ∧ e 13 = .int .i64 ((cutB 32 s)).length) (.exit 0) (fun e h => e 12 = .imm ((cutB 32 s).map strT.row) ∧ OwS 0 tVal 0 h.nx (((cutB 32 s)).map vOf) (e 4) h) (fun e h => OwS 0 tVal 0 h.nx [] (e 2) h ∧ e 3 = .bool false) (by omega) ?_ ?_ ?_ (by simp) (cutB 32 s) [] _ _ rfl ?_).mono ?_
  · rintro pre p rest e h a hp ⟨q0, q1, ix, nx⟩
    have hpl : p.length ≤ 1048576 := Nat.le_trans (cutB_mem 32 s p a.mem) hp0
    have hc1 := C_impl_ParseVal_eq p hpl
    have hlt := a.lt
    have hne : ¬ h.nx = h.nx + 1 := by omega
    have hlL := fun h2 => (q1.lenL h2)
    rw [List.length_map] at hlL
    simp only [Bool.and_eq_true, decide_eq_true_eq] at hp
    have hgt : ¬ (8 : Int) ≤ (pre.length : Int) := by omega
    have ho : (parseVal p).2 = true := hp.1
    all_goals simp only [go_sem, kSt_ptr, Nat.reduceBEq, Nat.reduceAdd, Nat.reduceEqDiff, Nat.reduceLeDiff, Nat.reduceSub, reduceIte, Int.reduceBEq, Int.reduceEq, Int.reduceLT, Int.reduceLE, Int.reduceGT, Int.reduceGE, Int.reduceNe, Int.reduceBNe, s_impl_ParseRow_L0, q0, q1, ix, nx, a.dl, a.ia (row := strT.row) (sz := 1) rfl, hp, a.hw, strT_row, TVal.row, h1, hc1, ho, hne, hlL, vFillR, vFrzR, hgt]
    refine hP_growL [vOf p] rfl rfl (q1.mono (by simp <;> omega) (fun q _ hq => by have g1 : ¬ q = h.nx + 1 := (by omega); have g2 : ¬ q = h.nx := (by omega); simp [g1, g2])) (rowsIn_sl1 (cs := (vOf p).row) (by simp [TVal.row, vOf]) rfl) (by simp only [List.length_cons, List.length_nil, List.length_map]; unfold room; omega) ?_
    intro v' h' g1 g2 g3 g4
    simp only [go_sem, kSt_ptr, Nat.reduceBEq, Nat.reduceAdd, Nat.reduceEqDiff, Nat.reduceLeDiff, Nat.reduceSub, reduceIte, Int.reduceBEq, Int.reduceEq, Int.reduceLT, Int.reduceLE, Int.reduceGT, Int.reduceGE, Int.reduceNe, Int.reduceBNe, q0, ix, nx, a.hw, List.map_append, List.map_cons, List.map_nil, g1]
  · rintro pre p rest e h a hp ⟨q0, q1, ix, nx⟩
    have hpl : p.length ≤ 1048576 := Nat.le_trans (cutB_mem 32 s p a.mem) hp0
    have hc1 := C_impl_ParseVal_eq p hpl
    have hlt := a.lt
    have hne : ¬ h.nx = h.nx + 1 := by omega
    have hlL := fun h2 => (q1.lenL h2)
    rw [List.length_map] at hlL
    have hcase : (parseVal p).2 = false ∨ ((parseVal p).2 = true ∧ (8 : Int) ≤ (pre.length : Int)) := by cases hx : (parseVal p).2; exact .inl rfl; have hx' : okB p = true := hx; rw [hx', Bool.true_and] at hp; exact .inr ⟨rfl, by have := of_decide_eq_false hp; omega⟩
    rcases hcase with ho | ⟨ho, hgt⟩
    all_goals simp only [go_sem, kSt_ptr, Nat.reduceBEq, Nat.reduceAdd, Nat.reduceEqDiff, Nat.reduceLeDiff, Nat.reduceSub, reduceIte, Int.reduceBEq, Int.reduceEq, Int.reduceLT, Int.reduceLE, Int.reduceGT, Int.reduceGE, Int.reduceNe, Int.reduceBNe, s_impl_ParseRow_L0, q0, q1, ix, nx, a.dl, a.ia (row := strT.row) (sz := 1) rfl, hp, a.hw, strT_row, TVal.row, h1, hc1, ho, hne, hlL, vFillR, vFrzR]
    · exact OwS.nil _ _ (Nat.zero_le _) (Nat.le_refl _)
    simp only [go_sem, kSt_ptr, Nat.reduceBEq, Nat.reduceAdd, Nat.reduceEqDiff, Nat.reduceLeDiff, Nat.reduceSub, reduceIte, Int.reduceBEq, Int.reduceEq, Int.reduceLT, Int.reduceLE, Int.reduceGT, Int.reduceGE, Int.reduceNe, Int.reduceBNe, hgt]
    exact OwS.nil _ _ (Nat.zero_le _) (Nat.le_refl _)
  · rintro e h ⟨q0, q1, ix, nx⟩
    simp only [go_sem, kSt_ptr, Nat.reduceBEq, Nat.reduceAdd, Nat.reduceEqDiff, Nat.reduceLeDiff, Nat.reduceSub, reduceIte, Int.reduceBEq, Int.reduceEq, Int.reduceLT, Int.reduceLE, Int.reduceGT, Int.reduceGE, Int.reduceNe, Int.reduceBNe, s_impl_ParseRow_L0, q0, q1, ix, nx]
  · simp only [go_sem, kSt_ptr, Nat.reduceBEq, Nat.reduceAdd, Nat.reduceEqDiff, Nat.reduceLeDiff, Nat.reduceSub, reduceIte, Int.reduceBEq, Int.reduceEq, Int.reduceLT, Int.reduceLE, Int.reduceGT, Int.reduceGE, Int.reduceNe, Int.reduceBNe]; exact OwS.nil _ _ (Nat.zero_le _) (Nat.le_refl _)
  · rintro x e h (⟨hq, rfl, j0, j1⟩ | ⟨hq, rfl, j1, j2⟩)
    · rw [f1 hq]
      simp only [go_sem, kSt_ptr, Nat.reduceBEq, Nat.reduceAdd, Nat.reduceEqDiff, Nat.reduceLeDiff, Nat.reduceSub, reduceIte, Int.reduceBEq, Int.reduceEq, Int.reduceLT, Int.reduceLE, Int.reduceGT, Int.reduceGE, Int.reduceNe, Int.reduceBNe, j1]
      exact j1.owI.owE_tb (by decide) true
    · rw [f2 hq]
      simp only [go_sem, kSt_ptr, Nat.reduceBEq, Nat.reduceAdd, Nat.reduceEqDiff, Nat.reduceLeDiff, Nat.reduceSub, reduceIte, Int.reduceBEq, Int.reduceEq, Int.reduceLT, Int.reduceLE, Int.reduceGT, Int.reduceGE, Int.reduceNe, Int.reduceBNe, j1, j2]
      exact j1.owI.owE_tb (by decide) false
end Go.Proofs.YtgjdkcjijmdfoaaDoor.Pr
/- What the functions that FnExactParseRow calls answer: part 7. -/
namespace Go.Proofs.YtgjdkcjijmdfoaaDoor.Pr
open Go Go.RowKit Go.Ev
set_option linter.unusedSimpArgs false
set_option linter.unusedVariables false
set_option maxHeartbeats 1600000
theorem ok_laws_eqVal {WI : World → Prop} (hs : Stable WI) (cs) (hT : TOK (EE cs) WI)  : PureOK Tryd.prog WI 36 (eqC tVal) := by
  refine pureEq (E := EE cs) hT hs (by rw [st_laws_eqVal]; rfl) fun v hc => out_K (n := 0) (st_laws_eqVal cs) ?_
  have hcost : tVal.cost v = v.fS.length := rfl
  simp only [go_sem, kSt_ptr, Nat.reduceBEq, Nat.reduceAdd, Nat.reduceEqDiff, Nat.reduceLeDiff, Nat.reduceSub, reduceIte, Int.reduceBEq, Int.reduceEq, Int.reduceLT, Int.reduceLE, Int.reduceGT, Int.reduceGE, Int.reduceNe, Int.reduceBNe, s_laws_eqVal, TVal.row]
theorem ok_laws_eqValS {WI : World → Prop} (hs : Stable WI) (cs) (hT : TOK (EE cs) WI) (h0 : (EE cs).T 36 = some (eqC tVal)) : PureOK Tryd.prog WI 11 (eqC (sliceT tVal)) := eqS_ok (E := EE cs) (T := tVal) hT hs h0 (st_laws_eqValS cs)
theorem u8dig (d : Nat) (h : d < 10) : rowsBytes [[.int .u8 (IntKind.wrap .u8 (IntKind.wrap .i64 (48 + (d : Int))))]] = some [UInt8.ofNat (48 + d)] := by
  have h1 : IntKind.wrap .i64 (48 + (d : Int)) = 48 + (d : Int) := wrapId (by omega) (by omega)
  have h2 : IntKind.wrap .u8 (48 + (d : Int)) = 48 + (d : Int) := by
    simp [IntKind.wrap, IntKind.bits, IntKind.signed]
    omega
  rw [h1, h2]
  simp only [rowsBytes, rowByte, Option.bind_some, Option.map_some]
  congr 2
def mtext (k : Int) : List UInt8 := if k ≤ 0 then [109, 48] else 109 :: Lib.decDigits k.toNat
def mbool (k : Int) : Bool := k.tmod 3 == 0
def mbyte (k : Int) : UInt8 := UInt8.ofNat k.toNat
def mkE_int (_v k : Int) : Int := k
def cnE_int (_v : Int) : Nat := 1
def mkE_byte (_v : UInt8) (k : Int) : UInt8 := mbyte k
def cnE_byte (_v : UInt8) : Nat := 1
def mkE_string (_v : List UInt8) (k : Int) : List UInt8 := mtext k
def cnE_string (_v : List UInt8) : Nat := 1
theorem u8mark (k : Int) (h : 0 ≤ k) : IntKind.wrap .u8 k = ((mbyte k).toNat : Int) := by
  unfold mbyte
  rw [UInt8.toNat_ofNat']
  simp [IntKind.wrap, IntKind.bits, IntKind.signed]
  omega
theorem krem3 (k : Int) (h : Hp) : kBin .rem (.int .i64 k) (.int .i64 3) h = some (.int .i64 (k.tmod 3), h) := kBin_rem _ _ _ (by decide)
theorem mb3 (k : Int) : (k.tmod 3 == 0) = mbool k := rfl
def MkI {α : Type} (mk : α → Int → α) (cnt : α → Nat) : Prop := ∀ v k, mk (mk v k) k = mk v k ∧ cnt (mk v k) = cnt v
theorem mkL_idem {α : Type} {mk : α → Int → α} {cnt : α → Nat} (h : MkI mk cnt) : MkI (mkL mk cnt) (cntL cnt) := by
  intro l
  induction l with
  | nil => intro k; exact ⟨rfl, rfl⟩
  | cons v l ih =>
    intro k
    obtain ⟨h1, h2⟩ := h v k
    obtain ⟨i1, i2⟩ := ih (k + cnt v)
    exact ⟨by simp only [mkL, h1, h2, i1], by simp only [mkL, cntL, h2, i2]⟩
def MkF {α : Type} (T : TD α) (mk : α → Int → α) (cnt : α → Nat) : Prop := ∀ v k, T.fits v → 0 ≤ k → k + ((cnt v : Nat) : Int) ≤ 4611686018427387904 → T.fits (mk v k)
theorem mkL_fits {α : Type} {T : TD α} {mk : α → Int → α} {cnt : α → Nat} (h : MkF T mk cnt) : MkF (sliceT T) (mkL mk cnt) (cntL cnt) := by
  intro l k hf hk hk2
  refine ⟨by rw [mkL_len]; exact hf.1, ?_⟩
  have hf2 := hf.2
  clear hf
  induction l generalizing k with
  | nil => intro v hv; cases hv
  | cons v l ih =>
    simp only [cntL] at hk2
    intro u hu
    rcases List.mem_cons.1 hu with rfl | hu
    · exact h v k (hf2 v List.mem_cons_self) hk (by omega)
    · exact ih (k + cnt v) (by omega) (by omega) (fun w hw => hf2 w (List.mem_cons_of_mem _ hw)) u hu
theorem mtext_len (k : Int) (h0 : 0 ≤ k) (h1 : k ≤ 4611686018427387904) : (mtext k).length ≤ 9223372036854775807 := by
  unfold mtext
  split
  · decide
  · obtain ⟨u, rfl⟩ : ∃ u : Nat, k = (u : Int) := ⟨k.toNat, by omega⟩
    have := Lib.itoa_length_le (u : Int) (by omega) (by omega)
    rw [Lib.itoa_nonneg] at this
    rw [Int.toNat_natCast, List.length_cons]
    omega
theorem mi_int : MkI mkE_int cnE_int := fun _ _ => ⟨rfl, rfl⟩
theorem mi_byte : MkI mkE_byte cnE_byte := fun _ _ => ⟨rfl, rfl⟩
theorem mi_string : MkI mkE_string cnE_string := fun _ _ => ⟨rfl, rfl⟩
theorem mf_int : MkF intT mkE_int cnE_int := fun _ _ _ _ _ => trivial
theorem mf_byte : MkF u8T mkE_byte cnE_byte := fun _ _ _ _ _ => trivial
theorem mf_string : MkF strT mkE_string cnE_string := fun v k _ h0 h1 => mtext_len k h0 (by simp only [cnE_string] at h1; omega)
noncomputable def C_laws_markText := c1 intT (fun (k : Int) => 0 ≤ k ∧ k ≤ 4611686018427387904) (.str) fun (k : Int) => mtext k
theorem C_laws_markText_eq (k : Int) (h : 0 ≤ k ∧ k ≤ 4611686018427387904) : C_laws_markText [.int .i64 k] = some (.str ((mtext k))) := c1_eq intT h
theorem L_laws_markText (cs) (K : Nat) (hK : K ≤ 4611686018427387904) : ∀ (fuel u : Nat) (out : List UInt8) (e : Ps) (h : Hp), u ≤ fuel → u ≤ K → (0 < u → out.length + (Lib.decDigits u).length ≤ 30) → (0 < u → Lib.decDigits u ++ out = Lib.decDigits K) → (u = 0 → out = Lib.decDigits K) → e 0 = .int .i64 (u : Int) → e 3 = .str out →
    WL (EE cs) s_laws_markText_L0 e h fun x e' h' => x = .exit 0 ∧ e' 3 = .str (Lib.decDigits K)
  | fuel, 0, out, e, h, hf, huK, hl, h1, h2, h0, h3 => by
    refine .step (.sim ?_)
    have he := h2 rfl
    subst he
    simp only [go_sem, kSt_ptr, Nat.reduceBEq, Nat.reduceAdd, Nat.reduceEqDiff, Nat.reduceLeDiff, Nat.reduceSub, reduceIte, Int.reduceBEq, Int.reduceEq, Int.reduceLT, Int.reduceLE, Int.reduceGT, Int.reduceGE, Int.reduceNe, Int.reduceBNe, s_laws_markText_L0, h0, h3, Int.lt_irrefl]
  | 0, u + 1, out, e, h, hf, huK, hl, h1, h2, h0, h3 => by omega
  | fuel + 1, u + 1, out, e, h, hf, huK, hl, h1, h2, h0, h3 => by
    have hpos : (0 : Int) < ((u + 1 : Nat) : Int) := by omega
    have hd := u8dig ((u + 1) % 10) (Nat.mod_lt _ (by omega))
    have eq : IntKind.wrap .i64 (((u + 1 : Nat) : Int).tdiv 10) = (((u + 1) / 10 : Nat) : Int) := by
      rw [show ((u + 1 : Nat) : Int).tdiv 10 = (((u + 1) / 10 : Nat) : Int) from rfl]
      exact wrapId (by omega) (by omega)
    have er : ((u + 1 : Nat) : Int).tmod 10 = (((u + 1) % 10 : Nat) : Int) := rfl
    have kq : ∀ h, kBin .quo (.int .i64 ((u + 1 : Nat) : Int)) (.int .i64 10) h = some (.int .i64 (((u + 1) / 10 : Nat) : Int), h) := fun h => by rw [kBin_quo _ _ _ (by decide), eq]
    have kr : ∀ h, kBin .rem (.int .i64 ((u + 1 : Nat) : Int)) (.int .i64 10) h = some (.int .i64 (((u + 1) % 10 : Nat) : Int), h) := fun h => by rw [kBin_rem _ _ _ (by decide), er]
    have hl := hl (by omega)
    have hdl : 1 ≤ (Lib.decDigits (u + 1)).length := List.length_pos_iff.2 (dec_spec _).2.2.1
    have hc : ∀ h, kBin .add (.str [UInt8.ofNat (48 + (u + 1) % 10)]) (.str out) h = some (.str (UInt8.ofNat (48 + (u + 1) % 10) :: out), h) := fun h => kCat (by simp; omega)
    refine .step (.mono (.sim (Q := fun x e1 h1 => x = .norm ∧ e1 0 = .int .i64 (((u + 1) / 10 : Nat) : Int) ∧ e1 3 = .str (UInt8.ofNat (48 + (u + 1) % 10) :: out)) ?_) ?_)
    · simp only [go_sem, kSt_ptr, Nat.reduceBEq, Nat.reduceAdd, Nat.reduceEqDiff, Nat.reduceLeDiff, Nat.reduceSub, reduceIte, Int.reduceBEq, Int.reduceEq, Int.reduceLT, Int.reduceLE, Int.reduceGT, Int.reduceGE, Int.reduceNe, Int.reduceBNe, s_laws_markText_L0, h0, h3, hpos, kq, kr, hc, hd, fillR, List.replicate, frzRows, notStr, rowsIn, isAggV, List.set, Nat.reduceLT, Nat.lt_irrefl, Bool.not_false, Bool.true_or, Option.some.injEq, List.set_cons_zero]
    · rintro _ e1 h1' ⟨rfl, k0, k3⟩
      have hsplit : ∀ hq : 0 < (u + 1) / 10, Lib.decDigits (u + 1) = Lib.decDigits ((u + 1) / 10) ++ [UInt8.ofNat (48 + (u + 1) % 10)] := fun hq => by rw [Lib.decDigits, dif_neg (by omega)]
      refine L_laws_markText cs K hK fuel ((u + 1) / 10) _ e1 h1' (by omega) (by omega) ?_ (fun hq => ?_) (fun hq => ?_) k0 k3
      · intro hq
        have := congrArg List.length (hsplit hq)
        rw [List.length_append] at this
        simp at this ⊢
        omega
      · rw [← h1 (by omega), hsplit hq, List.append_assoc]
        rfl
      · rw [← h1 (by omega), Lib.decDigits_one (show u + 1 < 10 by omega), Nat.mod_eq_of_lt (by omega)]
        rfl
theorem ok_laws_markText {WI : World → Prop} (hs : Stable WI) (cs) (hT : TOK (EE cs) WI) : PureOK Tryd.prog WI 52 C_laws_markText := by
  refine pure1 (E := EE cs) hT hs (by rw [st_laws_markText]; rfl) fun k hp => out_wp (n := 0) (st_laws_markText cs) ?_
  obtain ⟨h0, h1⟩ := hp
  by_cases hz : k ≤ 0
  · have : k = 0 := by omega
    subst this
    simp only [go_sem, kSt_ptr, Nat.reduceBEq, Nat.reduceAdd, Nat.reduceEqDiff, Nat.reduceLeDiff, Nat.reduceSub, reduceIte, Int.reduceBEq, Int.reduceEq, Int.reduceLT, Int.reduceLE, Int.reduceGT, Int.reduceGE, Int.reduceNe, Int.reduceBNe, s_laws_markText, mtext]
  obtain ⟨u, rfl⟩ : ∃ u : Nat, k = (u : Int) := ⟨k.toNat, by omega⟩
  have hlen : (Lib.decDigits u).length ≤ 21 := by
    have := Lib.itoa_length_le (u : Int) (by omega) (by omega)
    rwa [Lib.itoa_nonneg] at this
  simp only [go_sem, kSt_ptr, Nat.reduceBEq, Nat.reduceAdd, Nat.reduceEqDiff, Nat.reduceLeDiff, Nat.reduceSub, reduceIte, Int.reduceBEq, Int.reduceEq, Int.reduceLT, Int.reduceLE, Int.reduceGT, Int.reduceGE, Int.reduceNe, Int.reduceBNe, s_laws_markText, hz]
  refine (L_laws_markText cs u (by omega) u u [] _ _ (Nat.le_refl _) (Nat.le_refl _) (fun _ => by simp; omega) (fun _ => by simp) (fun e => by omega) (by simp only [go_sem, kSt_ptr, Nat.reduceBEq, Nat.reduceAdd, Nat.reduceEqDiff, Nat.reduceLeDiff, Nat.reduceSub, reduceIte, Int.reduceBEq, Int.reduceEq, Int.reduceLT, Int.reduceLE, Int.reduceGT, Int.reduceGE, Int.reduceNe, Int.reduceBNe]) (by simp only [go_sem, kSt_ptr, Nat.reduceBEq, Nat.reduceAdd, Nat.reduceEqDiff, Nat.reduceLeDiff, Nat.reduceSub, reduceIte, Int.reduceBEq, Int.reduceEq, Int.reduceLT, Int.reduceLE, Int.reduceGT, Int.reduceGE, Int.reduceNe, Int.reduceBNe])).mono ?_
  rintro x e' h' ⟨rfl, j3⟩
  have hc : ∀ h, kBin .add (.str [109]) (.str (Lib.decDigits u)) h = some (.str (109 :: Lib.decDigits u), h) := fun h => kCat (by simp; omega)
  simp only [go_sem, kSt_ptr, Nat.reduceBEq, Nat.reduceAdd, Nat.reduceEqDiff, Nat.reduceLeDiff, Nat.reduceSub, reduceIte, Int.reduceBEq, Int.reduceEq, Int.reduceLT, Int.reduceLE, Int.reduceGT, Int.reduceGE, Int.reduceNe, Int.reduceBNe, j3, hc, mtext, hz, Int.toNat_natCast]
def mkE_Val (v : TVal) (k : Int) : TVal := ⟨k, k + 1, mtext (k + 1 + 1)⟩
def cnE_Val (v : TVal) : Nat := 3
theorem mi_Val : MkI mkE_Val cnE_Val := fun v k => by
  constructor
  · simp only [mkE_Val]
  · simp only [mkE_Val, cnE_Val]
theorem mf_Val : MkF tVal mkE_Val cnE_Val := fun v k hf h0 h1 => by
  unfold cnE_Val at h1
  exact mtext_len (k + 1 + 1) (by omega) (by omega)
theorem mb_laws_markValS (cs) (h_laws_markText : (EE cs).T 52 = some C_laws_markText) : MkB (EE cs) b_laws_markValS tVal mkE_Val cnE_Val := by
  intro m e h r len i k A c B v R e0 e5 e1 hr hA hi hc hd hnd hrR hlt hrn hf hk hk2
  obtain ⟨c0, c1, c2, rfl⟩ := len3 hc
  replace e0 : e 0 = .sl r 0 len 3 := e0
  replace hA : A.length = i * 3 := hA
  replace hr : h.hp r = some (A ++ c0 :: c1 :: c2 :: B) := hr
  replace hd : dfzL (dfz m h) [c0, c1, c2] = some ([.int .i64 v.fK, .int .i64 v.fN, .str v.fS], R) := hd
  obtain ⟨R0, S0, d0, hd0, rfl⟩ := dfzL_cons_inv hd
  obtain ⟨rfl, rfl⟩ := dfz_int d0
  obtain ⟨R1, S1, d1, hd1, rfl⟩ := dfzL_cons_inv hd0
  obtain ⟨rfl, rfl⟩ := dfz_int d1
  obtain ⟨R2, S2, d2, hd2, rfl⟩ := dfzL_cons_inv hd1
  obtain ⟨rfl, rfl⟩ := dfz_str d2
  obtain ⟨_, rfl⟩ := dfzL_nil_inv hd2
  simp only [List.nil_append, List.append_nil] at hnd hrR hlt ⊢
  unfold cnE_Val at hk2
  have hcn : k + ((cnE_Val v : Nat) : Int) = k + 1 + 1 + 1 := by unfold cnE_Val; omega
  have w0 : IntKind.wrap .i64 (k + 1) = k + 1 := wrapId (by omega) (by omega)
  have w1 : IntKind.wrap .i64 (k + 1 + 1) = k + 1 + 1 := wrapId (by omega) (by omega)
  have w2 : IntKind.wrap .i64 (k + 1 + 1 + 1) = k + 1 + 1 + 1 := wrapId (by omega) (by omega)
  have x2 := C_laws_markText_eq (k + 1 + 1) (by omega)
  have ia := fun h => kIa_mid (r := r) (h := h) hA hi
  have dl : decide ((i : Int) < (len : Int)) = true := decide_eq_true (by omega)
  simp only [go_sem, kSt_ptr, Nat.reduceBEq, Nat.reduceAdd, Nat.reduceEqDiff, Nat.reduceLeDiff, Nat.reduceSub, reduceIte, Int.reduceBEq, Int.reduceEq, Int.reduceLT, Int.reduceLE, Int.reduceGT, Int.reduceGE, Int.reduceNe, Int.reduceBNe, b_laws_markValS, w0, w1, w2, x2, h_laws_markText, e0, e5, e1, ia, hr]
  refine ⟨rfl, by rw [hcn], [.int .i64 (k), .int .i64 (k + 1), .str (mtext (k + 1 + 1))], rfl, rfl, ?_, fun q hq hqr _ => by simp [hqr]⟩
  exact dfzL_leafs fun c hc => by
    simp only [List.mem_cons, List.not_mem_nil, or_false] at hc
    rcases hc with rfl | rfl | rfl <;> rfl
theorem mk_laws_markValS (cs) (h_laws_markText : (EE cs).T 52 = some C_laws_markText) : MkS (EE cs) 27 (sliceT tVal) (mkL mkE_Val cnE_Val) (cntL cnE_Val) := mkS_ok (st_laws_markValS cs) (by decide) (mb_laws_markValS cs h_laws_markText)
theorem hb_laws_heldValS (cs) (h_laws_markText : (EE cs).T 52 = some C_laws_markText) : HdB (EE cs) b_laws_heldValS tVal mkE_Val cnE_Val := by
  intro l pre v rest k e h a e0 e5 e1 hm hf hk hk2
  have g0 : k = v.fK := congrArg TVal.fK hm
  have g1 : k + 1 = v.fN := congrArg TVal.fN hm
  have g2 : mtext (k + 1 + 1) = v.fS := congrArg TVal.fS hm
  unfold cnE_Val at hk2
  have hcn : k + ((cnE_Val v : Nat) : Int) = k + 1 + 1 + 1 := by unfold cnE_Val; omega
  have w0 : IntKind.wrap .i64 (k + 1) = k + 1 := wrapId (by omega) (by omega)
  have w1 : IntKind.wrap .i64 (k + 1 + 1) = k + 1 + 1 := wrapId (by omega) (by omega)
  have w2 : IntKind.wrap .i64 (k + 1 + 1 + 1) = k + 1 + 1 + 1 := wrapId (by omega) (by omega)
  have x2 := C_laws_markText_eq (k + 1 + 1) (by omega)
  simp only [go_sem, kSt_ptr, Nat.reduceBEq, Nat.reduceAdd, Nat.reduceEqDiff, Nat.reduceLeDiff, Nat.reduceSub, reduceIte, Int.reduceBEq, Int.reduceEq, Int.reduceLT, Int.reduceLE, Int.reduceGT, Int.reduceGE, Int.reduceNe, Int.reduceBNe, b_laws_heldValS, e0, e5, e1, a.ia (row := TVal.row) (sz := 3) rfl, TVal.row, ← g0, ← g1, ← g2, w0, w1, w2, x2, h_laws_markText, hcn]
theorem ok_laws_heldValS {WI : World → Prop} (hs : Stable WI) (cs) (hT : TOK (EE cs) WI) (h_laws_markText : (EE cs).T 52 = some C_laws_markText) : ReadOK Tryd.prog WI 28 (hdC (sliceT tVal) (mkL mkE_Val cnE_Val) (cntL cnE_Val)) := hdS_ok (E := EE cs) hT hs (st_laws_heldValS cs) (by decide) (hb_laws_heldValS cs h_laws_markText)
end Go.Proofs.YtgjdkcjijmdfoaaDoor.Pr
/- The law FnExactParseRow, by what its functions answer. -/
namespace Go.Proofs.YtgjdkcjijmdfoaaDoor.Pr
open Go Go.RowKit Go.Ev
set_option linter.unusedSimpArgs false
set_option linter.unusedVariables false
set_option maxHeartbeats 1600000
set_option maxRecDepth 100000
theorem ev_law (cs) (h_spec_ParseRow : (EE cs).T 25 = some C_spec_ParseRow) (h_impl_ParseRow : (EE cs).T 26 = some C_impl_ParseRow) (h_laws_eqValS : (EE cs).T 11 = some (eqC (sliceT tVal))) (m_laws_markValS : MkS (EE cs) 27 (sliceT tVal) (mkL mkE_Val cnE_Val) (cntL cnE_Val)) (h_laws_heldValS : (EE cs).T 28 = some (hdC (sliceT tVal) (mkL mkE_Val cnE_Val) (cntL cnE_Val))) (v0 : List UInt8) (f0 : strT.fits v0) (o0 : strT.ok v0) : ∃ k n, out (EE cs) k n 6 [strT.enc v0] = some (.bool true) := by
  refine out_wp (n := 0) (st_laws_FnExactParseRow cs) ?_
  by_cases hl : (1048576 : Int) < v0.length
  · simp only [go_sem, kSt_ptr, Nat.reduceBEq, Nat.reduceAdd, Nat.reduceEqDiff, Nat.reduceLeDiff, Nat.reduceSub, reduceIte, Int.reduceBEq, Int.reduceEq, Int.reduceLT, Int.reduceLE, Int.reduceGT, Int.reduceGE, Int.reduceNe, Int.reduceBNe, s_laws_FnExactParseRow, hl]
  have hv : v0.length ≤ 1048576 := by omega
  have a0 := C_spec_ParseRow_eq v0 hv
  have a1 := C_impl_ParseRow_eq v0 hv
  have hcost := parseRow_cost v0
  have hlen := parseRow_good v0
  have hfit := (sliceT tVal).fit (parseRow v0).1 hcost
  generalize (parseRow v0).2 = ok at a0 a1
  generalize (parseRow v0).1 = l at a0 a1 hcost hfit hlen
  have hcnt : (1 : Int) + ((cntL cnE_Val l : Nat) : Int) ≤ 4611686018427387904 := by
    have : ∀ l : List TVal, cntL cnE_Val l = 3 * l.length := by
      intro l
      induction l with
      | nil => rfl
      | cons v l ih => simp only [cntL, ih, cnE_Val, List.length_cons]; omega
    rw [this]
    omega
  have e0 : eqC (sliceT tVal) [.imm (l.map TVal.row), .imm (l.map TVal.row)] = some (.bool true) := eqC_eq (sliceT tVal) hcost
  simp only [go_sem, kSt_ptr, Nat.reduceBEq, Nat.reduceAdd, Nat.reduceEqDiff, Nat.reduceLeDiff, Nat.reduceSub, reduceIte, Int.reduceBEq, Int.reduceEq, Int.reduceLT, Int.reduceLE, Int.reduceGT, Int.reduceGE, Int.reduceNe, Int.reduceBNe, s_laws_FnExactParseRow, hl, h_spec_ParseRow, a0, h_impl_ParseRow]
  refine hP_ownT (n := 1) (mapO1 (frzT_str _)) a1 ((sliceT tVal).okT l (by decide)) (by decide) rfl ?_
  intro x h1 ox k1 k2 k3
  have hx : frzT 8 h1 x = some (.imm (l.map TVal.row)) := ox.frz (by decide)
  have hne : (ok != ok) = false := by simp
  have hnb : (!(ok == ok)) = false := by simp
  simp only [go_sem, kSt_ptr, Nat.reduceBEq, Nat.reduceAdd, Nat.reduceEqDiff, Nat.reduceLeDiff, Nat.reduceSub, reduceIte, Int.reduceBEq, Int.reduceEq, Int.reduceLT, Int.reduceLE, Int.reduceGT, Int.reduceGE, Int.reduceNe, Int.reduceBNe, h_laws_eqValS, deepC_false, hx, e0, hne, hnb]
  refine hP_markI m_laws_markValS hfit (by decide) hcnt ox ?_
  intro h2 ox2 k4 k5
  have hx2 : frzT 8 h2 x = some (.imm ((mkL mkE_Val cnE_Val l 1).map TVal.row)) := ox2.frz (by decide)
  obtain ⟨i1, i2⟩ := mkL_idem mi_Val l 1
  have hheld : hdC (sliceT tVal) (mkL mkE_Val cnE_Val) (cntL cnE_Val) [.imm ((mkL mkE_Val cnE_Val l 1).map TVal.row), .int .i64 1] = some (.int .i64 (1 + ((cntL cnE_Val l : Nat) : Int))) := by
    have := hdC_eq (T := sliceT tVal) (mk := mkL mkE_Val cnE_Val) (cnt := cntL cnE_Val) (mkL mkE_Val cnE_Val l 1) 1 i1 (mkL_fits mf_Val l 1 hfit (by decide) hcnt) (by decide) (by rw [i2]; exact hcnt)
    rw [i2] at this
    exact this
  have hlt : decide ((1 : Int) + ((cntL cnE_Val l : Nat) : Int) < 0) = false := decide_eq_false (by omega)
  simp only [go_sem, kSt_ptr, Nat.reduceBEq, Nat.reduceAdd, Nat.reduceEqDiff, Nat.reduceLeDiff, Nat.reduceSub, reduceIte, Int.reduceBEq, Int.reduceEq, Int.reduceLT, Int.reduceLE, Int.reduceGT, Int.reduceGE, Int.reduceNe, Int.reduceBNe, h_laws_heldValS, deepC_false, hx2, hheld, hlt, a1, h_impl_ParseRow, h_laws_eqValS, e0, hne, hnb]
noncomputable def C_law := c1 strT (fun v0 => (strT.fits v0 ∧ strT.ok v0)) .bool fun _ => true
theorem ok_law {WI : World → Prop} (hs : Stable WI) (cs) (hT : TOK (EE cs) WI) (h_spec_ParseRow : (EE cs).T 25 = some C_spec_ParseRow) (h_impl_ParseRow : (EE cs).T 26 = some C_impl_ParseRow) (h_laws_eqValS : (EE cs).T 11 = some (eqC (sliceT tVal))) (m_laws_markValS : MkS (EE cs) 27 (sliceT tVal) (mkL mkE_Val cnE_Val) (cntL cnE_Val)) (h_laws_heldValS : (EE cs).T 28 = some (hdC (sliceT tVal) (mkL mkE_Val cnE_Val) (cntL cnE_Val))) : PureOK Tryd.prog WI 6 C_law :=
  pure1 (E := EE cs) hT hs (by rw [st_laws_FnExactParseRow]; rfl) fun v0 ⟨f0, o0⟩ => ev_law cs  h_spec_ParseRow h_impl_ParseRow h_laws_eqValS m_laws_markValS h_laws_heldValS v0 f0 o0
section
variable {WI : World → Prop} (hs : Stable WI)
include hs
theorem law_ok (p_strings_HasPrefix : PureOK Tryd.prog WI 81 C_strings_HasPrefix) (p_strconv_Atoi : PureOK Tryd.prog WI 82 C_strconv_Atoi) (p_strconv_Itoa : PureOK Tryd.prog WI 57 C_strconv_Itoa) (p_strings_Split : PureOK Tryd.prog WI 50 C_strings_Split) : PureOK Tryd.prog WI 6 C_law := by
  have t0 : TOK (EE []) WI := tok_nil (entB_spec entered)
  have t1 := tok_cons rfl rfl (ok_spec_l1In hs _ t0) t0
  have t2 := tok_cons rfl rfl (ok_spec_l2Plain hs _ t1 rfl) t1
  have t3 := tok_cons rfl rfl (ok_spec_l2Digit hs _ t2 rfl) t2
  have t4 := tok_cons rfl rfl (ok_spec_l2Parse hs _ t3 rfl rfl) t3
  have t5 := tok_cons rfl rfl (ok_spec_l2Val hs _ t4 rfl rfl) t4
  have t6 := tok_cons rfl rfl (ok_spec_ValOk hs _ t5 rfl) t5
  have t7 := tok_cons rfl rfl (ok_spec_ParseVal hs _ t6 rfl rfl) t6
  have t8 := tok_cons rfl rfl (ok_spec_l28Split hs _ t7) t7
  have t9 := tok_cons rfl rfl (ok_spec_ParseRow hs _ t8 rfl rfl) t8
  have t10 := tok_cons rfl rfl p_strings_HasPrefix t9
  have t11 := tok_cons rfl rfl p_strconv_Atoi t10
  have t12 := tok_cons rfl rfl (ok_impl_in hs _ t11) t11
  have t13 := tok_cons rfl rfl (ok_impl_ValOk hs _ t12 rfl) t12
  have t14 := tok_cons rfl rfl p_strconv_Itoa t13
  have t15 := tok_cons rfl rfl (ok_impl_ValText hs _ t14 rfl rfl) t14
  have t16 := tok_cons rfl rfl (ok_impl_ParseVal hs _ t15 rfl rfl rfl) t15
  have t17 := tok_cons rfl rfl p_strings_Split t16
  have t18 := tok_consO rfl (ok_impl_ParseRow hs _ t17 rfl rfl) t17
  have t19 := tok_cons rfl rfl (ok_laws_eqVal hs _ t18) t18
  have t20 := tok_consR rfl ⟨(ok_laws_eqValS hs _ t19 rfl), eqC_leaf⟩ t19
  have t21 := tok_cons rfl rfl (ok_laws_markText hs _ t20) t20
  have t22 := tok_consR rfl (ok_laws_heldValS hs _ t21 rfl) t21
  exact ok_law hs _ t22 rfl rfl rfl (mk_laws_markValS _ rfl) rfl
end
theorem hlaw (xs : List AV) (h : shpAs Tryd.prog 8 Tryd.f6.params.toList xs) : C_law xs = some (.bool true) := by
  rw [Tryd.params6] at h
  obtain ⟨y0, r0, rfl, z0, zend⟩ := h
  have hr : r0 = [] := zend
  subst hr
  obtain ⟨v0, e0, f0⟩ := shp_str Tryd.underlying9 (shpA_one (fun fs e => by rw [Tryd.underlying9] at e; cases e) z0)
  obtain rfl : y0 = strT.enc v0 := List.head_eq_of_cons_eq e0
  have o0 : strT.ok v0 := trivial
  exact c1_eq strT ⟨f0, o0⟩
end Go.Proofs.YtgjdkcjijmdfoaaDoor.Pr
