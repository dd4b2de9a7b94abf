/- What the functions that FnRowTexts calls answer, for every argument within the law's bounds: part 1. -/
import Derived.Test.YtbpafgbehkphoaaDoorRwEvC
import Derived.Test.YtbpafgbehkphoaaDoorProg
import Derived.Lib.AtoiAllCases
import Derived.Lib.Bytealg
import Derived.Lib.ItoaLen
import Derived.Lib.ItoaMem
import Derived.Lib.ItoaNum
import Derived.Lib.Join
import Derived.Lib.Split
import Derived.Lib.SplitLaws
set_option linter.unusedVariables false
set_option linter.unusedSimpArgs false
/- The resolved code of what FnRowTexts calls. -/
namespace Go.Proofs.YtbpafgbehkphoaaDoor.Rw
open Go Go.RowKit Go.Ev
set_option linter.unusedSimpArgs false
set_option linter.unusedVariables false
set_option maxHeartbeats 1600000
def s_impl_in : SFn := ⟨15, .seq (.rg [⟨some 6, none, .mv (.c (.bool false))⟩]) (.seq (.rg [⟨some 7, none, .mv (.t 0)⟩,
  ⟨some 8, none, .mv (.t 1)⟩,
  ⟨some 9, none, .bin .geq (.t 7) (.t 8)⟩,
  ⟨some 10, none, .mv (.t 9)⟩,
  ⟨some 11, some (10, true), .mv (.t 0)⟩,
  ⟨some 12, some (10, true), .mv (.t 2)⟩,
  ⟨some 13, some (10, true), .bin .leq (.t 11) (.t 12)⟩,
  ⟨some 14, none, .pick (.t 10) (.t 13) (.c (.bool false))⟩,
  ⟨some 6, none, .mv (.t 14)⟩]) (.ret)), [.t 6]⟩
def s_impl_ValOk : SFn := ⟨56, .seq (.rg [⟨some 1, none, .box (.t 0)⟩,
  ⟨some 2, none, .mv (.c (.bool false))⟩]) (.seq (.seq (.rg [⟨some 3, none, .fa 0 (.t 1)⟩,
  ⟨some 4, none, .ld (.t 3)⟩]) (.blk 0 (.seq (.rg [⟨some 6, none, .bin .eql (.t 4) (.c (.int .i64 0))⟩,
  ⟨some 5, none, .mv (.t 6)⟩]) (.cond (.t 5) (.seq (.rg [⟨some 7, none, .fa 1 (.t 1)⟩,
  ⟨some 8, none, .ld (.t 7)⟩,
  ⟨some 9, none, .bin .eql (.t 8) (.c (.int .i64 0))⟩,
  ⟨some 10, none, .mv (.t 9)⟩,
  ⟨some 11, some (10, true), .fa 2 (.t 1)⟩,
  ⟨some 12, some (10, true), .ld (.t 11)⟩,
  ⟨some 13, some (10, true), .bin .eql (.t 12) (.c (.str []))⟩,
  ⟨some 14, none, .pick (.t 10) (.t 13) (.c (.bool false))⟩,
  ⟨some 2, none, .mv (.t 14)⟩]) (.ret)) (.seq (.rg [⟨some 16, none, .bin .eql (.t 4) (.c (.int .i64 1))⟩,
  ⟨some 15, none, .mv (.t 16)⟩]) (.cond (.t 15) (.seq (.rg [⟨some 17, none, .fa 1 (.t 1)⟩,
  ⟨some 18, none, .ld (.t 17)⟩,
  ⟨some 19, none, .callP 44 [.t 18, .c (.int .i64 (-2147483648)), .c (.int .i64 2147483647)]⟩,
  ⟨some 20, none, .mv (.t 19)⟩,
  ⟨some 21, some (20, true), .fa 2 (.t 1)⟩,
  ⟨some 22, some (20, true), .ld (.t 21)⟩,
  ⟨some 23, some (20, true), .bin .eql (.t 22) (.c (.str []))⟩,
  ⟨some 24, none, .pick (.t 20) (.t 23) (.c (.bool false))⟩,
  ⟨some 2, none, .mv (.t 24)⟩]) (.ret)) (.seq (.rg [⟨some 26, none, .bin .eql (.t 4) (.c (.int .i64 2))⟩,
  ⟨some 25, none, .mv (.t 26)⟩]) (.cond (.t 25) (.seq (.rg [⟨some 27, none, .fa 1 (.t 1)⟩,
  ⟨some 28, none, .ld (.t 27)⟩,
  ⟨some 29, none, .callP 44 [.t 28, .c (.int .i64 (-1000000000000000)), .c (.int .i64 1000000000000000)]⟩,
  ⟨some 30, none, .mv (.t 29)⟩,
  ⟨some 31, some (30, true), .fa 2 (.t 1)⟩,
  ⟨some 32, some (30, true), .ld (.t 31)⟩,
  ⟨some 33, some (30, true), .bin .eql (.t 32) (.c (.str []))⟩,
  ⟨some 34, none, .pick (.t 30) (.t 33) (.c (.bool false))⟩,
  ⟨some 2, none, .mv (.t 34)⟩]) (.ret)) (.seq (.rg [⟨some 36, none, .bin .eql (.t 4) (.c (.int .i64 3))⟩,
  ⟨some 35, none, .mv (.t 36)⟩]) (.cond (.t 35) (.seq (.rg [⟨some 37, none, .fa 1 (.t 1)⟩,
  ⟨some 38, none, .ld (.t 37)⟩,
  ⟨some 39, none, .bin .eql (.t 38) (.c (.int .i64 0))⟩,
  ⟨some 40, none, .mv (.t 39)⟩,
  ⟨some 41, some (40, true), .fa 2 (.t 1)⟩,
  ⟨some 42, some (40, true), .ld (.t 41)⟩,
  ⟨some 43, some (40, true), .lenS (.t 42)⟩,
  ⟨some 44, some (40, true), .bin .leq (.t 43) (.c (.int .i64 30))⟩,
  ⟨some 45, none, .pick (.t 40) (.t 44) (.c (.bool false))⟩,
  ⟨some 2, none, .mv (.t 45)⟩]) (.ret)) (.seq (.rg [⟨some 47, none, .bin .eql (.t 4) (.c (.int .i64 4))⟩,
  ⟨some 46, none, .mv (.t 47)⟩]) (.cond (.t 46) (.seq (.rg [⟨some 48, none, .fa 1 (.t 1)⟩,
  ⟨some 49, none, .ld (.t 48)⟩,
  ⟨some 50, none, .callP 44 [.t 49, .c (.int .i64 0), .c (.int .i64 1)]⟩,
  ⟨some 51, none, .mv (.t 50)⟩,
  ⟨some 52, some (51, true), .fa 2 (.t 1)⟩,
  ⟨some 53, some (51, true), .ld (.t 52)⟩,
  ⟨some 54, some (51, true), .bin .eql (.t 53) (.c (.str []))⟩,
  ⟨some 55, none, .pick (.t 51) (.t 54) (.c (.bool false))⟩,
  ⟨some 2, none, .mv (.t 55)⟩]) (.ret)) (.skip))))))))))))) (.seq (.rg [⟨some 2, none, .mv (.c (.bool false))⟩]) (.ret))), [.t 2]⟩
def s_impl_ValText_L0 : SCode := .seq (.seq (.rg [⟨some 28, none, .mv (.t 3)⟩,
  ⟨some 29, none, .fa 2 (.t 1)⟩,
  ⟨some 30, none, .ld (.t 29)⟩,
  ⟨some 31, none, .lenS (.t 30)⟩,
  ⟨some 32, none, .bin .lss (.t 28) (.t 31)⟩]) (.cond (.t 32) (.skip) (.exit 1))) (.seq (.blk 2 (.seq (.rg [⟨some 35, none, .fa 2 (.t 1)⟩,
  ⟨some 36, none, .ld (.t 35)⟩,
  ⟨some 37, none, .mv (.t 3)⟩,
  ⟨some 38, none, .ix (.t 36) (.t 37)⟩,
  ⟨some 39, none, .bin .lss (.t 38) (.c (.int .u8 32))⟩,
  ⟨some 40, none, .mv (.t 39)⟩,
  ⟨some 41, some (40, false), .fa 2 (.t 1)⟩,
  ⟨some 42, some (40, false), .ld (.t 41)⟩,
  ⟨some 43, some (40, false), .mv (.t 3)⟩,
  ⟨some 44, some (40, false), .ix (.t 42) (.t 43)⟩,
  ⟨some 45, some (40, false), .bin .gtr (.t 44) (.c (.int .u8 126))⟩,
  ⟨some 46, none, .pick (.t 40) (.c (.bool true)) (.t 45)⟩,
  ⟨some 47, none, .mv (.t 46)⟩,
  ⟨some 48, some (47, false), .fa 2 (.t 1)⟩,
  ⟨some 49, some (47, false), .ld (.t 48)⟩,
  ⟨some 50, some (47, false), .mv (.t 3)⟩,
  ⟨some 51, some (47, false), .ix (.t 49) (.t 50)⟩,
  ⟨some 52, some (47, false), .bin .eql (.t 51) (.c (.int .u8 39))⟩,
  ⟨some 53, none, .pick (.t 47) (.c (.bool true)) (.t 52)⟩]) (.cond (.t 53) (.seq (.rg [⟨some 2, none, .mv (.c (.str []))⟩]) (.ret)) (.skip)))) (.rg [⟨some 33, none, .mv (.t 3)⟩,
  ⟨some 34, none, .bin .add (.t 33) (.c (.int .i64 1))⟩,
  ⟨some 3, none, .mv (.t 34)⟩]))
def s_impl_ValText : SFn := ⟨58, .seq (.rg [⟨some 1, none, .box (.t 0)⟩,
  ⟨some 2, none, .mv (.c (.str []))⟩]) (.seq (.seq (.rg [⟨some 4, none, .ldA 3 (.t 1)⟩,
  ⟨some 5, none, .callP 28 [.t 4]⟩,
  ⟨some 6, none, .un .not (.t 5)⟩]) (.cond (.t 6) (.seq (.rg [⟨some 2, none, .mv (.c (.str []))⟩]) (.ret)) (.skip))) (.seq (.seq (.rg [⟨some 7, none, .fa 0 (.t 1)⟩,
  ⟨some 8, none, .ld (.t 7)⟩]) (.blk 0 (.seq (.rg [⟨some 10, none, .bin .eql (.t 8) (.c (.int .i64 0))⟩,
  ⟨some 9, none, .mv (.t 10)⟩]) (.cond (.t 9) (.seq (.rg [⟨some 2, none, .mv (.c (.str [110, 117, 108, 108]))⟩]) (.ret)) (.seq (.rg [⟨some 12, none, .bin .eql (.t 8) (.c (.int .i64 1))⟩,
  ⟨some 11, none, .mv (.t 12)⟩]) (.cond (.t 11) (.seq (.rg [⟨some 13, none, .fa 1 (.t 1)⟩,
  ⟨some 14, none, .ld (.t 13)⟩,
  ⟨some 15, none, .callP 29 [.t 14]⟩,
  ⟨some 16, none, .bin .add (.c (.str [105])) (.t 15)⟩,
  ⟨some 2, none, .mv (.t 16)⟩]) (.ret)) (.seq (.rg [⟨some 18, none, .bin .eql (.t 8) (.c (.int .i64 2))⟩,
  ⟨some 17, none, .mv (.t 18)⟩]) (.cond (.t 17) (.seq (.rg [⟨some 19, none, .fa 1 (.t 1)⟩,
  ⟨some 20, none, .ld (.t 19)⟩,
  ⟨some 21, none, .callP 29 [.t 20]⟩,
  ⟨some 22, none, .bin .add (.c (.str [110])) (.t 21)⟩,
  ⟨some 2, none, .mv (.t 22)⟩]) (.ret)) (.seq (.rg [⟨some 24, none, .bin .eql (.t 8) (.c (.int .i64 4))⟩,
  ⟨some 23, none, .mv (.t 24)⟩]) (.cond (.t 23) (.seq (.seq (.rg [⟨some 25, none, .fa 1 (.t 1)⟩,
  ⟨some 26, none, .ld (.t 25)⟩,
  ⟨some 27, none, .bin .eql (.t 26) (.c (.int .i64 1))⟩]) (.cond (.t 27) (.seq (.rg [⟨some 2, none, .mv (.c (.str [121, 101, 115]))⟩]) (.ret)) (.skip))) (.seq (.rg [⟨some 2, none, .mv (.c (.str [110, 111]))⟩]) (.ret))) (.skip))))))))))) (.seq (.seq (.rg [⟨some 3, none, .mv (.c (.int .i64 0))⟩]) (.blk 1 (.loop s_impl_ValText_L0))) (.seq (.rg [⟨some 54, none, .fa 2 (.t 1)⟩,
  ⟨some 55, none, .ld (.t 54)⟩,
  ⟨some 56, none, .bin .add (.c (.str [39])) (.t 55)⟩,
  ⟨some 57, none, .bin .add (.t 56) (.c (.str [39]))⟩,
  ⟨some 2, none, .mv (.t 57)⟩]) (.ret))))), [.t 2]⟩
def s_impl_RowText_L0 : SCode := .seq (.rg [⟨some 10, none, .bin .lss (.t 9) (.t 8)⟩]) (.seq (.cond (.t 10) (.skip) (.exit 0)) (.seq (.blk 1 (.seq (.rg [⟨some 11, none, .ia 3 (.t 7) (.t 9)⟩,
  ⟨some 12, none, .ldA 3 (.t 11)⟩,
  ⟨some 5, none, .alloc [.int .i64 0, .int .i64 0, .str []]⟩,
  ⟨none, none, .st 3 (.t 5) (.t 12)⟩]) (.seq (.rg [⟨some 13, none, .ldA 3 (.t 5)⟩,
  ⟨some 14, none, .callP 16 [.t 13]⟩,
  ⟨some 6, none, .mv (.t 14)⟩]) (.seq (.seq (.rg [⟨some 15, none, .mv (.t 6)⟩,
  ⟨some 16, none, .bin .eql (.t 15) (.c (.str []))⟩,
  ⟨some 17, none, .mv (.t 16)⟩,
  ⟨some 18, some (17, false), .mv (.t 6)⟩,
  ⟨some 19, some (17, false), .callP 17 [.t 18, .c (.str [32])]⟩,
  ⟨some 20, none, .pick (.t 17) (.c (.bool true)) (.t 19)⟩]) (.cond (.t 20) (.seq (.rg [⟨some 2, none, .mv (.c (.str []))⟩]) (.ret)) (.skip))) (.rg [⟨some 21, none, .mv (.t 3)⟩,
  ⟨some 22, none, .mv (.t 6)⟩,
  ⟨some 23, none, .bslice false [.str []] 1 [(0, .t 22)]⟩,
  ⟨some 24, none, .app false 16 1 (.t 21) (.t 23)⟩,
  ⟨some 3, none, .mv (.t 24)⟩]))))) (.rg [⟨some 25, none, .bin .add (.t 9) (.c (.int .i64 1))⟩,
  ⟨some 9, none, .mv (.t 25)⟩])))
def s_impl_RowText : SFn := ⟨28, .seq (.rg [⟨some 2, none, .mv (.c (.str []))⟩]) (.seq (.rg [⟨some 3, none, .mv (.c .snil)⟩]) (.seq (.seq (.rg [⟨some 7, none, .mv (.t 0)⟩,
  ⟨some 8, none, .lenL (.t 7)⟩,
  ⟨some 9, none, .mv (.c (.int .i64 0))⟩]) (.blk 0 (.loop s_impl_RowText_L0))) (.seq (.rg [⟨some 26, none, .mv (.t 3)⟩,
  ⟨some 27, none, .callP 18 [.t 26, .c (.str [32])]⟩,
  ⟨some 2, none, .mv (.t 27)⟩]) (.ret)))), [.t 2]⟩
def s_laws_big : SFn := ⟨6, .seq (.rg [⟨some 2, none, .mv (.c (.bool false))⟩]) (.seq (.rg [⟨some 3, none, .mv (.t 0)⟩,
  ⟨some 4, none, .lenL (.t 3)⟩,
  ⟨some 5, none, .bin .gtr (.t 4) (.c (.int .i64 1048576))⟩,
  ⟨some 2, none, .mv (.t 5)⟩]) (.ret)), [.t 2]⟩
def s_spec_l1New_L0 : SCode := .seq (.seq (.rg [⟨some 8, none, .mv (.t 4)⟩,
  ⟨some 9, none, .mv (.t 0)⟩,
  ⟨some 10, none, .lenL (.t 9)⟩,
  ⟨some 11, none, .bin .lss (.t 8) (.t 10)⟩,
  ⟨some 12, none, .mv (.t 11)⟩,
  ⟨some 13, some (12, true), .mv (.t 4)⟩,
  ⟨some 14, some (12, true), .bin .lss (.t 13) (.c (.int .i64 4000))⟩,
  ⟨some 15, none, .pick (.t 12) (.t 14) (.c (.bool false))⟩]) (.cond (.t 15) (.skip) (.exit 0))) (.seq (.blk 1 (.rg [⟨some 18, none, .mv (.t 3)⟩,
  ⟨some 19, none, .bin .mul (.t 18) (.c (.int .i64 137))⟩,
  ⟨some 20, none, .mv (.t 0)⟩,
  ⟨some 21, none, .mv (.t 4)⟩,
  ⟨some 22, none, .ia 1 (.t 20) (.t 21)⟩,
  ⟨some 23, none, .ld (.t 22)⟩,
  ⟨some 24, none, .cvI .i64 (.t 23)⟩,
  ⟨some 25, none, .bin .add (.t 19) (.t 24)⟩,
  ⟨some 26, none, .bin .add (.t 25) (.c (.int .i64 11))⟩,
  ⟨some 27, none, .bin .and (.t 26) (.c (.int .i64 1073741823))⟩,
  ⟨some 3, none, .mv (.t 27)⟩])) (.rg [⟨some 16, none, .mv (.t 4)⟩,
  ⟨some 17, none, .bin .add (.t 16) (.c (.int .i64 1))⟩,
  ⟨some 4, none, .mv (.t 17)⟩]))
def s_spec_l1New : SFn := ⟨32, .seq (.rg [⟨some 2, none, .mv (.c .pnil)⟩]) (.seq (.rg [⟨some 5, none, .mv (.t 0)⟩,
  ⟨some 6, none, .lenL (.t 5)⟩,
  ⟨some 7, none, .bin .add (.c (.int .i64 758758)) (.t 6)⟩,
  ⟨some 3, none, .mv (.t 7)⟩]) (.seq (.seq (.rg [⟨some 4, none, .mv (.c (.int .i64 0))⟩]) (.blk 0 (.loop s_spec_l1New_L0))) (.seq (.rg [⟨some 28, none, .mv (.t 0)⟩,
  ⟨some 29, none, .mv (.t 3)⟩,
  ⟨some 30, none, .build [.snil, .int .i64 0, .int .i64 0] [(0, (1, .t 28)), (2, (1, .t 29))]⟩,
  ⟨some 31, none, .box (.t 30)⟩,
  ⟨some 2, none, .mv (.t 31)⟩]) (.ret)))), [.t 2]⟩
def s_spec_l1Byte : SFn := ⟨58, .seq (.rg [⟨some 2, none, .mv (.c (.int .i64 0))⟩]) (.seq (.rg [⟨some 4, none, .mv (.t 0)⟩,
  ⟨some 5, none, .mv (.t 0)⟩,
  ⟨some 6, none, .nilc (.t 5)⟩,
  ⟨some 7, none, .fa 2 (.t 6)⟩,
  ⟨some 8, none, .ld (.t 7)⟩,
  ⟨some 9, none, .bin .mul (.t 8) (.c (.int .i64 6364136223846793005))⟩,
  ⟨some 10, none, .bin .add (.t 9) (.c (.int .i64 1442695040888963407))⟩,
  ⟨some 11, none, .nilc (.t 4)⟩,
  ⟨some 12, none, .fa 2 (.t 11)⟩,
  ⟨none, none, .st 1 (.t 12) (.t 10)⟩]) (.seq (.rg [⟨some 13, none, .mv (.t 0)⟩,
  ⟨some 14, none, .nilc (.t 13)⟩,
  ⟨some 15, none, .fa 2 (.t 14)⟩,
  ⟨some 16, none, .ld (.t 15)⟩,
  ⟨some 17, none, .bin .shr (.t 16) (.c (.int .u64 33))⟩,
  ⟨some 18, none, .mv (.t 0)⟩,
  ⟨some 19, none, .nilc (.t 18)⟩,
  ⟨some 20, none, .fa 2 (.t 19)⟩,
  ⟨some 21, none, .ld (.t 20)⟩,
  ⟨some 22, none, .bin .shr (.t 21) (.c (.int .u64 47))⟩,
  ⟨some 23, none, .bin .xor (.t 17) (.t 22)⟩,
  ⟨some 24, none, .bin .and (.t 23) (.c (.int .i64 255))⟩,
  ⟨some 3, none, .mv (.t 24)⟩]) (.seq (.seq (.rg [⟨some 25, none, .mv (.t 0)⟩,
  ⟨some 26, none, .nilc (.t 25)⟩,
  ⟨some 27, none, .fa 1 (.t 26)⟩,
  ⟨some 28, none, .ld (.t 27)⟩,
  ⟨some 29, none, .mv (.t 0)⟩,
  ⟨some 30, none, .nilc (.t 29)⟩,
  ⟨some 31, none, .fa 0 (.t 30)⟩,
  ⟨some 32, none, .ld (.t 31)⟩,
  ⟨some 33, none, .lenL (.t 32)⟩,
  ⟨some 34, none, .bin .lss (.t 28) (.t 33)⟩]) (.cond (.t 34) (.seq (.rg [⟨some 35, none, .mv (.t 3)⟩,
  ⟨some 36, none, .mv (.t 0)⟩,
  ⟨some 37, none, .nilc (.t 36)⟩,
  ⟨some 38, none, .fa 0 (.t 37)⟩,
  ⟨some 39, none, .ld (.t 38)⟩,
  ⟨some 40, none, .mv (.t 0)⟩,
  ⟨some 41, none, .nilc (.t 40)⟩,
  ⟨some 42, none, .fa 1 (.t 41)⟩,
  ⟨some 43, none, .ld (.t 42)⟩,
  ⟨some 44, none, .ia 1 (.t 39) (.t 43)⟩,
  ⟨some 45, none, .ld (.t 44)⟩,
  ⟨some 46, none, .cvI .i64 (.t 45)⟩,
  ⟨some 47, none, .bin .add (.t 35) (.t 46)⟩,
  ⟨some 48, none, .bin .and (.t 47) (.c (.int .i64 255))⟩,
  ⟨some 3, none, .mv (.t 48)⟩]) (.rg [⟨some 49, none, .mv (.t 0)⟩,
  ⟨some 50, none, .mv (.t 0)⟩,
  ⟨some 51, none, .nilc (.t 50)⟩,
  ⟨some 52, none, .fa 1 (.t 51)⟩,
  ⟨some 53, none, .ld (.t 52)⟩,
  ⟨some 54, none, .bin .add (.t 53) (.c (.int .i64 1))⟩,
  ⟨some 55, none, .nilc (.t 49)⟩,
  ⟨some 56, none, .fa 1 (.t 55)⟩,
  ⟨none, none, .st 1 (.t 56) (.t 54)⟩])) (.skip))) (.seq (.rg [⟨some 57, none, .mv (.t 3)⟩,
  ⟨some 2, none, .mv (.t 57)⟩]) (.ret))))), [.t 2]⟩
def s_spec_l1Below : SFn := ⟨31, .seq (.rg [⟨some 4, none, .mv (.c (.int .i64 0))⟩]) (.seq (.seq (.rg [⟨some 8, none, .mv (.t 1)⟩,
  ⟨some 9, none, .bin .leq (.t 8) (.c (.int .i64 0))⟩]) (.cond (.t 9) (.seq (.rg [⟨some 4, none, .mv (.c (.int .i64 0))⟩]) (.ret)) (.skip))) (.seq (.seq (.rg [⟨some 10, none, .mv (.t 1)⟩,
  ⟨some 11, none, .bin .leq (.t 10) (.c (.int .i64 256))⟩]) (.cond (.t 11) (.seq (.rg [⟨some 12, none, .mv (.t 0)⟩,
  ⟨some 13, none, .callW 34 [.t 12]⟩,
  ⟨some 14, none, .mv (.t 1)⟩,
  ⟨some 15, none, .bin .rem (.t 13) (.t 14)⟩,
  ⟨some 4, none, .mv (.t 15)⟩]) (.ret)) (.skip))) (.seq (.rg [⟨some 16, none, .mv (.t 0)⟩,
  ⟨some 17, none, .callW 34 [.t 16]⟩,
  ⟨some 5, none, .mv (.t 17)⟩]) (.seq (.rg [⟨some 18, none, .mv (.t 0)⟩,
  ⟨some 19, none, .callW 34 [.t 18]⟩,
  ⟨some 6, none, .mv (.t 19)⟩]) (.seq (.rg [⟨some 20, none, .mv (.t 0)⟩,
  ⟨some 21, none, .callW 34 [.t 20]⟩,
  ⟨some 7, none, .mv (.t 21)⟩]) (.seq (.rg [⟨some 22, none, .mv (.t 5)⟩,
  ⟨some 23, none, .bin .mul (.t 22) (.c (.int .i64 65536))⟩,
  ⟨some 24, none, .mv (.t 6)⟩,
  ⟨some 25, none, .bin .mul (.t 24) (.c (.int .i64 256))⟩,
  ⟨some 26, none, .bin .add (.t 23) (.t 25)⟩,
  ⟨some 27, none, .mv (.t 7)⟩,
  ⟨some 28, none, .bin .add (.t 26) (.t 27)⟩,
  ⟨some 29, none, .mv (.t 1)⟩,
  ⟨some 30, none, .bin .rem (.t 28) (.t 29)⟩,
  ⟨some 4, none, .mv (.t 30)⟩]) (.ret))))))), [.t 4]⟩
def s_spec_l1Once : SFn := ⟨9, .seq (.rg [⟨some 4, none, .mv (.c (.bool false))⟩]) (.seq (.rg [⟨some 5, none, .mv (.t 0)⟩,
  ⟨some 6, none, .mv (.t 1)⟩,
  ⟨some 7, none, .callW 19 [.t 5, .t 6]⟩,
  ⟨some 8, none, .bin .eql (.t 7) (.c (.int .i64 0))⟩,
  ⟨some 4, none, .mv (.t 8)⟩]) (.ret)), [.t 4]⟩
def s_spec_l1Int : SFn := ⟨12, .seq (.rg [⟨some 4, none, .mv (.c (.int .i64 0))⟩]) (.seq (.rg [⟨some 5, none, .mv (.t 1)⟩,
  ⟨some 6, none, .mv (.t 0)⟩,
  ⟨some 7, none, .mv (.t 1)⟩,
  ⟨some 8, none, .lenL (.t 7)⟩,
  ⟨some 9, none, .callW 19 [.t 6, .t 8]⟩,
  ⟨some 10, none, .ia 1 (.t 5) (.t 9)⟩,
  ⟨some 11, none, .ld (.t 10)⟩,
  ⟨some 4, none, .mv (.t 11)⟩]) (.ret)), [.t 4]⟩
def s_spec_l1Str : SFn := ⟨12, .seq (.rg [⟨some 4, none, .mv (.c (.str []))⟩]) (.seq (.rg [⟨some 5, none, .mv (.t 1)⟩,
  ⟨some 6, none, .mv (.t 0)⟩,
  ⟨some 7, none, .mv (.t 1)⟩,
  ⟨some 8, none, .lenL (.t 7)⟩,
  ⟨some 9, none, .callW 19 [.t 6, .t 8]⟩,
  ⟨some 10, none, .ia 1 (.t 5) (.t 9)⟩,
  ⟨some 11, none, .ld (.t 10)⟩,
  ⟨some 4, none, .mv (.t 11)⟩]) (.ret)), [.t 4]⟩
def s_spec_l2Text : SFn := ⟨6, .seq (.rg [⟨some 2, none, .mv (.c (.str []))⟩]) (.seq (.rg [⟨some 3, none, .mv (.t 0)⟩,
  ⟨some 4, none, .bslice false [.str []] 10 [(0, .c (.str [])), (1, .c (.str [97])), (2, .c (.str [98])), (3, .c (.str [97, 98])), (4, .c (.str [0])), (5, .c (.str [97, 0])), (6, .c (.str [0, 255])), (7, .c (.str [255])), (8, .c (.str [119, 111, 114, 100])), (9, .c (.str [122]))]⟩,
  ⟨some 5, none, .callW 20 [.t 3, .t 4]⟩,
  ⟨some 2, none, .mv (.t 5)⟩]) (.ret)), [.t 2]⟩
def s_spec_l2Of : SFn := ⟨41, .seq (.rg [⟨some 6, none, .alloc [.int .i64 0, .int .i64 0, .str []]⟩]) (.seq (.seq (.rg [⟨some 8, none, .mv (.t 2)⟩,
  ⟨some 9, none, .mv (.t 8)⟩,
  ⟨some 10, some (9, true), .mv (.t 0)⟩,
  ⟨some 11, some (9, true), .callW 74 [.t 10, .c (.int .i64 4)]⟩,
  ⟨some 12, none, .pick (.t 9) (.t 11) (.c (.bool false))⟩]) (.cond (.t 12) (.seq (.rg [⟨some 13, none, .build [.int .i64 0, .int .i64 0, .str []] []⟩,
  ⟨none, none, .st 3 (.t 6) (.t 13)⟩]) (.ret)) (.skip))) (.seq (.rg [⟨some 14, none, .mv (.t 1)⟩,
  ⟨some 15, none, .build [.int .i64 0, .int .i64 0, .str []] [(0, (1, .t 14))]⟩,
  ⟨some 7, none, .alloc [.int .i64 0, .int .i64 0, .str []]⟩,
  ⟨none, none, .st 3 (.t 7) (.t 15)⟩]) (.seq (.seq (.rg [⟨some 16, none, .mv (.t 1)⟩]) (.blk 0 (.seq (.rg [⟨some 21, none, .bin .eql (.t 16) (.c (.int .i64 1))⟩,
  ⟨some 20, none, .mv (.t 21)⟩]) (.cond (.t 20) (.rg [⟨some 22, none, .mv (.t 0)⟩,
  ⟨some 23, none, .bslice false [.int .i64 0] 9 [(0, .c (.int .i64 0)), (1, .c (.int .i64 1)), (2, .c (.int .i64 2)), (3, .c (.int .i64 3)), (4, .c (.int .i64 (-1))), (5, .c (.int .i64 255)), (6, .c (.int .i64 256)), (7, .c (.int .i64 2147483647)), (8, .c (.int .i64 (-2147483648)))]⟩,
  ⟨some 24, none, .callW 57 [.t 22, .t 23]⟩,
  ⟨some 25, none, .fa 1 (.t 7)⟩,
  ⟨none, none, .st 1 (.t 25) (.t 24)⟩]) (.seq (.rg [⟨some 27, none, .bin .eql (.t 16) (.c (.int .i64 2))⟩,
  ⟨some 26, none, .mv (.t 27)⟩]) (.cond (.t 26) (.rg [⟨some 28, none, .mv (.t 0)⟩,
  ⟨some 29, none, .mv (.t 0)⟩,
  ⟨some 30, none, .callW 19 [.t 29, .c (.int .i64 100000)]⟩,
  ⟨some 31, none, .un .neg (.t 30)⟩,
  ⟨some 32, none, .bslice false [.int .i64 0] 11 [(0, .c (.int .i64 0)), (1, .c (.int .i64 1)), (2, .c (.int .i64 (-1))), (3, .c (.int .i64 255)), (4, .c (.int .i64 256)), (5, .c (.int .i64 (-256))), (6, .c (.int .i64 (-257))), (7, .c (.int .i64 65535)), (8, .c (.int .i64 1000000000000000)), (9, .c (.int .i64 (-1000000000000000))), (10, .t 31)]⟩,
  ⟨some 33, none, .callW 57 [.t 28, .t 32]⟩,
  ⟨some 34, none, .fa 1 (.t 7)⟩,
  ⟨none, none, .st 1 (.t 34) (.t 33)⟩]) (.seq (.rg [⟨some 36, none, .bin .eql (.t 16) (.c (.int .i64 3))⟩,
  ⟨some 35, none, .mv (.t 36)⟩]) (.cond (.t 35) (.rg [⟨some 37, none, .mv (.t 0)⟩,
  ⟨some 38, none, .callW 75 [.t 37]⟩,
  ⟨some 39, none, .fa 2 (.t 7)⟩,
  ⟨none, none, .st 1 (.t 39) (.t 38)⟩]) (.rg [⟨some 17, none, .mv (.t 0)⟩,
  ⟨some 18, none, .callW 19 [.t 17, .c (.int .i64 2)]⟩,
  ⟨some 19, none, .fa 1 (.t 7)⟩,
  ⟨none, none, .st 1 (.t 19) (.t 18)⟩]))))))))) (.seq (.rg [⟨some 40, none, .ldA 3 (.t 7)⟩,
  ⟨none, none, .st 3 (.t 6) (.t 40)⟩]) (.ret))))), [.ldA 6 3]⟩
def s_spec_l2Draw : SFn := ⟨8, .seq (.rg [⟨some 2, none, .alloc [.int .i64 0, .int .i64 0, .str []]⟩]) (.seq (.rg [⟨some 3, none, .mv (.t 0)⟩,
  ⟨some 4, none, .mv (.t 0)⟩,
  ⟨some 5, none, .callW 19 [.t 4, .c (.int .i64 4)]⟩,
  ⟨some 6, none, .bin .add (.c (.int .i64 1)) (.t 5)⟩,
  ⟨some 7, none, .callW 56 [.t 3, .t 6, .c (.bool true)]⟩,
  ⟨none, none, .st 3 (.t 2) (.t 7)⟩]) (.ret)), [.ldA 2 3]⟩
def s_spec_l1Num : SFn := ⟨11, .seq (.rg [⟨some 2, none, .mv (.c (.int .i64 0))⟩]) (.seq (.rg [⟨some 3, none, .mv (.t 0)⟩,
  ⟨some 4, none, .mv (.t 0)⟩,
  ⟨some 5, none, .callW 19 [.t 4, .c (.int .i64 100000)]⟩,
  ⟨some 6, none, .mv (.t 0)⟩,
  ⟨some 7, none, .callW 19 [.t 6, .c (.int .i64 100000)]⟩,
  ⟨some 8, none, .un .neg (.t 7)⟩,
  ⟨some 9, none, .bslice false [.int .i64 0] 21 [(0, .c (.int .i64 0)), (1, .c (.int .i64 1)), (2, .c (.int .i64 (-1))), (3, .c (.int .i64 63)), (4, .c (.int .i64 127)), (5, .c (.int .i64 128)), (6, .c (.int .i64 255)), (7, .c (.int .i64 256)), (8, .c (.int .i64 65535)), (9, .c (.int .i64 65536)), (10, .c (.int .i64 2147483647)), (11, .c (.int .i64 (-2147483648))), (12, .c (.int .i64 2147483648)), (13, .c (.int .i64 (-2147483649))), (14, .c (.int .i64 1000000000000000)), (15, .c (.int .i64 (-1000000000000000))), (16, .c (.int .i64 1000000000000001)), (17, .c (.int .i64 9223372036854775807)), (18, .c (.int .i64 (-9223372036854775808))), (19, .t 5), (20, .t 8)]⟩,
  ⟨some 10, none, .callW 57 [.t 3, .t 9]⟩,
  ⟨some 2, none, .mv (.t 10)⟩]) (.ret)), [.t 2]⟩
def s_spec_l2Any : SFn := ⟨33, .seq (.rg [⟨some 2, none, .alloc [.int .i64 0, .int .i64 0, .str []]⟩]) (.seq (.rg [⟨some 4, none, .mv (.t 0)⟩,
  ⟨some 5, none, .callW 42 [.t 4]⟩,
  ⟨some 3, none, .alloc [.int .i64 0, .int .i64 0, .str []]⟩,
  ⟨none, none, .st 3 (.t 3) (.t 5)⟩]) (.seq (.seq (.rg [⟨some 6, none, .mv (.t 0)⟩,
  ⟨some 7, none, .callW 19 [.t 6, .c (.int .i64 10)]⟩]) (.blk 0 (.seq (.rg [⟨some 9, none, .bin .eql (.t 7) (.c (.int .i64 0))⟩,
  ⟨some 8, none, .mv (.t 9)⟩]) (.cond (.t 8) (.rg [⟨some 10, none, .mv (.t 0)⟩,
  ⟨some 11, none, .callW 19 [.t 10, .c (.int .i64 6)]⟩,
  ⟨some 12, none, .fa 0 (.t 3)⟩,
  ⟨none, none, .st 1 (.t 12) (.t 11)⟩]) (.seq (.rg [⟨some 14, none, .bin .eql (.t 7) (.c (.int .i64 1))⟩,
  ⟨some 13, none, .mv (.t 14)⟩]) (.cond (.t 13) (.rg [⟨some 15, none, .mv (.t 0)⟩,
  ⟨some 16, none, .callW 43 [.t 15]⟩,
  ⟨some 17, none, .fa 1 (.t 3)⟩,
  ⟨none, none, .st 1 (.t 17) (.t 16)⟩]) (.seq (.rg [⟨some 19, none, .bin .eql (.t 7) (.c (.int .i64 2))⟩,
  ⟨some 18, none, .mv (.t 19)⟩]) (.cond (.t 18) (.rg [⟨some 20, none, .mv (.t 0)⟩,
  ⟨some 21, none, .callW 19 [.t 20, .c (.int .i64 2)]⟩,
  ⟨some 22, none, .bin .add (.c (.int .i64 30)) (.t 21)⟩,
  ⟨some 23, none, .mkS false 1 [.int .u8 0] (.t 22) (.t 22)⟩,
  ⟨some 24, none, .cvS (.t 23)⟩,
  ⟨some 25, none, .fa 2 (.t 3)⟩,
  ⟨none, none, .st 1 (.t 25) (.t 24)⟩]) (.seq (.rg [⟨some 27, none, .bin .eql (.t 7) (.c (.int .i64 3))⟩,
  ⟨some 26, none, .mv (.t 27)⟩]) (.cond (.t 26) (.rg [⟨some 28, none, .mv (.t 0)⟩,
  ⟨some 29, none, .bslice false [.str []] 4 [(0, .c (.str [105, 116, 39, 115])), (1, .c (.str [97, 32, 98])), (2, .c (.str [126])), (3, .c (.str [127]))]⟩,
  ⟨some 30, none, .callW 20 [.t 28, .t 29]⟩,
  ⟨some 31, none, .fa 2 (.t 3)⟩,
  ⟨none, none, .st 1 (.t 31) (.t 30)⟩]) (.skip))))))))))) (.seq (.rg [⟨some 32, none, .ldA 3 (.t 3)⟩,
  ⟨none, none, .st 3 (.t 2) (.t 32)⟩]) (.ret)))), [.ldA 2 3]⟩
def s_spec_l28Row_L0 : SCode := .seq (.seq (.rg [⟨some 8, none, .mv (.t 4)⟩,
  ⟨some 9, none, .bin .gtr (.t 8) (.c (.int .i64 0))⟩]) (.cond (.t 9) (.skip) (.exit 0))) (.seq (.blk 1 (.rg [⟨some 12, none, .mv (.t 3)⟩,
  ⟨some 13, none, .mv (.t 0)⟩,
  ⟨some 14, none, .callW 27 [.t 13]⟩,
  ⟨some 15, none, .bslice false [.int .i64 0, .int .i64 0, .str []] 1 [(0, .t 14)]⟩,
  ⟨some 16, none, .app false 32 3 (.t 12) (.t 15)⟩,
  ⟨some 3, none, .mv (.t 16)⟩])) (.rg [⟨some 10, none, .mv (.t 4)⟩,
  ⟨some 11, none, .bin .sub (.t 10) (.c (.int .i64 1))⟩,
  ⟨some 4, none, .mv (.t 11)⟩]))
def s_spec_l28Row : SFn := ⟨18, .seq (.rg [⟨some 2, none, .mv (.c .snil)⟩]) (.seq (.rg [⟨some 5, none, .bslice false [.int .i64 0, .int .i64 0, .str []] 0 []⟩,
  ⟨some 3, none, .mv (.t 5)⟩]) (.seq (.seq (.rg [⟨some 6, none, .mv (.t 0)⟩,
  ⟨some 7, none, .callW 19 [.t 6, .c (.int .i64 4)]⟩,
  ⟨some 4, none, .mv (.t 7)⟩]) (.blk 0 (.loop s_spec_l28Row_L0))) (.seq (.rg [⟨some 17, none, .mv (.t 3)⟩,
  ⟨some 2, none, .mv (.t 17)⟩]) (.ret)))), [.t 2]⟩
def s_spec_DrawRowText : SFn := ⟨8, .seq (.rg [⟨some 2, none, .mv (.c .snil)⟩]) (.seq (.rg [⟨some 4, none, .mv (.t 0)⟩,
  ⟨some 5, none, .callW 14 [.t 4]⟩,
  ⟨some 3, none, .mv (.t 5)⟩]) (.seq (.rg [⟨some 6, none, .mv (.t 3)⟩,
  ⟨some 7, none, .callW 15 [.t 6]⟩,
  ⟨some 2, none, .mv (.t 7)⟩]) (.ret))), [.t 2]⟩
def s_spec_l1In : SFn := ⟨15, .seq (.rg [⟨some 6, none, .mv (.c (.bool false))⟩]) (.seq (.rg [⟨some 7, none, .mv (.t 0)⟩,
  ⟨some 8, none, .mv (.t 1)⟩,
  ⟨some 9, none, .bin .geq (.t 7) (.t 8)⟩,
  ⟨some 10, none, .mv (.t 9)⟩,
  ⟨some 11, some (10, true), .mv (.t 0)⟩,
  ⟨some 12, some (10, true), .mv (.t 2)⟩,
  ⟨some 13, some (10, true), .bin .leq (.t 11) (.t 12)⟩,
  ⟨some 14, none, .pick (.t 10) (.t 13) (.c (.bool false))⟩,
  ⟨some 6, none, .mv (.t 14)⟩]) (.ret)), [.t 6]⟩
def s_spec_ValOk : SFn := ⟨56, .seq (.rg [⟨some 1, none, .box (.t 0)⟩,
  ⟨some 2, none, .mv (.c (.bool false))⟩]) (.seq (.seq (.rg [⟨some 3, none, .fa 0 (.t 1)⟩,
  ⟨some 4, none, .ld (.t 3)⟩]) (.blk 0 (.seq (.rg [⟨some 6, none, .bin .eql (.t 4) (.c (.int .i64 0))⟩,
  ⟨some 5, none, .mv (.t 6)⟩]) (.cond (.t 5) (.seq (.rg [⟨some 7, none, .fa 1 (.t 1)⟩,
  ⟨some 8, none, .ld (.t 7)⟩,
  ⟨some 9, none, .bin .eql (.t 8) (.c (.int .i64 0))⟩,
  ⟨some 10, none, .mv (.t 9)⟩,
  ⟨some 11, some (10, true), .fa 2 (.t 1)⟩,
  ⟨some 12, some (10, true), .ld (.t 11)⟩,
  ⟨some 13, some (10, true), .bin .eql (.t 12) (.c (.str []))⟩,
  ⟨some 14, none, .pick (.t 10) (.t 13) (.c (.bool false))⟩,
  ⟨some 2, none, .mv (.t 14)⟩]) (.ret)) (.seq (.rg [⟨some 16, none, .bin .eql (.t 4) (.c (.int .i64 1))⟩,
  ⟨some 15, none, .mv (.t 16)⟩]) (.cond (.t 15) (.seq (.rg [⟨some 17, none, .fa 1 (.t 1)⟩,
  ⟨some 18, none, .ld (.t 17)⟩,
  ⟨some 19, none, .callP 55 [.t 18, .c (.int .i64 (-2147483648)), .c (.int .i64 2147483647)]⟩,
  ⟨some 20, none, .mv (.t 19)⟩,
  ⟨some 21, some (20, true), .fa 2 (.t 1)⟩,
  ⟨some 22, some (20, true), .ld (.t 21)⟩,
  ⟨some 23, some (20, true), .bin .eql (.t 22) (.c (.str []))⟩,
  ⟨some 24, none, .pick (.t 20) (.t 23) (.c (.bool false))⟩,
  ⟨some 2, none, .mv (.t 24)⟩]) (.ret)) (.seq (.rg [⟨some 26, none, .bin .eql (.t 4) (.c (.int .i64 2))⟩,
  ⟨some 25, none, .mv (.t 26)⟩]) (.cond (.t 25) (.seq (.rg [⟨some 27, none, .fa 1 (.t 1)⟩,
  ⟨some 28, none, .ld (.t 27)⟩,
  ⟨some 29, none, .callP 55 [.t 28, .c (.int .i64 (-1000000000000000)), .c (.int .i64 1000000000000000)]⟩,
  ⟨some 30, none, .mv (.t 29)⟩,
  ⟨some 31, some (30, true), .fa 2 (.t 1)⟩,
  ⟨some 32, some (30, true), .ld (.t 31)⟩,
  ⟨some 33, some (30, true), .bin .eql (.t 32) (.c (.str []))⟩,
  ⟨some 34, none, .pick (.t 30) (.t 33) (.c (.bool false))⟩,
  ⟨some 2, none, .mv (.t 34)⟩]) (.ret)) (.seq (.rg [⟨some 36, none, .bin .eql (.t 4) (.c (.int .i64 3))⟩,
  ⟨some 35, none, .mv (.t 36)⟩]) (.cond (.t 35) (.seq (.rg [⟨some 37, none, .fa 2 (.t 1)⟩,
  ⟨some 38, none, .ld (.t 37)⟩,
  ⟨some 39, none, .lenS (.t 38)⟩,
  ⟨some 40, none, .bin .leq (.t 39) (.c (.int .i64 30))⟩,
  ⟨some 41, none, .mv (.t 40)⟩,
  ⟨some 42, some (41, true), .fa 1 (.t 1)⟩,
  ⟨some 43, some (41, true), .ld (.t 42)⟩,
  ⟨some 44, some (41, true), .bin .eql (.t 43) (.c (.int .i64 0))⟩,
  ⟨some 45, none, .pick (.t 41) (.t 44) (.c (.bool false))⟩,
  ⟨some 2, none, .mv (.t 45)⟩]) (.ret)) (.seq (.rg [⟨some 47, none, .bin .eql (.t 4) (.c (.int .i64 4))⟩,
  ⟨some 46, none, .mv (.t 47)⟩]) (.cond (.t 46) (.seq (.rg [⟨some 48, none, .fa 1 (.t 1)⟩,
  ⟨some 49, none, .ld (.t 48)⟩,
  ⟨some 50, none, .callP 55 [.t 49, .c (.int .i64 0), .c (.int .i64 1)]⟩,
  ⟨some 51, none, .mv (.t 50)⟩,
  ⟨some 52, some (51, true), .fa 2 (.t 1)⟩,
  ⟨some 53, some (51, true), .ld (.t 52)⟩,
  ⟨some 54, some (51, true), .bin .eql (.t 53) (.c (.str []))⟩,
  ⟨some 55, none, .pick (.t 51) (.t 54) (.c (.bool false))⟩,
  ⟨some 2, none, .mv (.t 55)⟩]) (.ret)) (.skip))))))))))))) (.seq (.rg [⟨some 2, none, .mv (.c (.bool false))⟩]) (.ret))), [.t 2]⟩
def s_spec_l2Plain_L0 : SCode := .seq (.seq (.rg [⟨some 4, none, .mv (.t 3)⟩,
  ⟨some 5, none, .mv (.t 0)⟩,
  ⟨some 6, none, .lenS (.t 5)⟩,
  ⟨some 7, none, .bin .lss (.t 4) (.t 6)⟩]) (.cond (.t 7) (.skip) (.exit 0))) (.seq (.blk 1 (.seq (.rg [⟨some 10, none, .mv (.t 0)⟩,
  ⟨some 11, none, .mv (.t 3)⟩,
  ⟨some 12, none, .ix (.t 10) (.t 11)⟩,
  ⟨some 13, none, .cvI .i64 (.t 12)⟩,
  ⟨some 14, none, .callP 55 [.t 13, .c (.int .i64 32), .c (.int .i64 126)]⟩,
  ⟨some 15, none, .un .not (.t 14)⟩,
  ⟨some 16, none, .mv (.t 15)⟩,
  ⟨some 17, some (16, false), .mv (.t 0)⟩,
  ⟨some 18, some (16, false), .mv (.t 3)⟩,
  ⟨some 19, some (16, false), .ix (.t 17) (.t 18)⟩,
  ⟨some 20, some (16, false), .bin .eql (.t 19) (.c (.int .u8 39))⟩,
  ⟨some 21, none, .pick (.t 16) (.c (.bool true)) (.t 20)⟩]) (.cond (.t 21) (.seq (.rg [⟨some 2, none, .mv (.c (.bool false))⟩]) (.ret)) (.skip)))) (.rg [⟨some 8, none, .mv (.t 3)⟩,
  ⟨some 9, none, .bin .add (.t 8) (.c (.int .i64 1))⟩,
  ⟨some 3, none, .mv (.t 9)⟩]))
def s_spec_l2Plain : SFn := ⟨22, .seq (.rg [⟨some 2, none, .mv (.c (.bool false))⟩]) (.seq (.seq (.rg [⟨some 3, none, .mv (.c (.int .i64 0))⟩]) (.blk 0 (.loop s_spec_l2Plain_L0))) (.seq (.rg [⟨some 2, none, .mv (.c (.bool true))⟩]) (.ret))), [.t 2]⟩
def s_spec_l2Num : SFn := ⟨28, .seq (.rg [⟨some 2, none, .mv (.c (.str []))⟩]) (.seq (.blk 0 (.seq (.rg [⟨some 4, none, .mv (.t 0)⟩,
  ⟨some 5, none, .bin .lss (.t 4) (.c (.int .i64 0))⟩,
  ⟨some 3, none, .mv (.t 5)⟩]) (.cond (.t 3) (.seq (.rg [⟨some 6, none, .mv (.t 0)⟩,
  ⟨some 7, none, .un .neg (.t 6)⟩,
  ⟨some 8, none, .callP 41 [.t 7]⟩,
  ⟨some 9, none, .bin .add (.c (.str [45])) (.t 8)⟩,
  ⟨some 2, none, .mv (.t 9)⟩]) (.ret)) (.seq (.rg [⟨some 11, none, .mv (.t 0)⟩,
  ⟨some 12, none, .bin .lss (.t 11) (.c (.int .i64 10))⟩,
  ⟨some 10, none, .mv (.t 12)⟩]) (.cond (.t 10) (.seq (.rg [⟨some 13, none, .mv (.t 0)⟩,
  ⟨some 14, none, .bin .add (.c (.int .i64 48)) (.t 13)⟩,
  ⟨some 15, none, .cvI .u8 (.t 14)⟩,
  ⟨some 16, none, .bslice false [.int .u8 0] 1 [(0, .t 15)]⟩,
  ⟨some 17, none, .cvS (.t 16)⟩,
  ⟨some 2, none, .mv (.t 17)⟩]) (.ret)) (.skip)))))) (.seq (.rg [⟨some 18, none, .mv (.t 0)⟩,
  ⟨some 19, none, .bin .quo (.t 18) (.c (.int .i64 10))⟩,
  ⟨some 20, none, .callP 41 [.t 19]⟩,
  ⟨some 21, none, .mv (.t 0)⟩,
  ⟨some 22, none, .bin .rem (.t 21) (.c (.int .i64 10))⟩,
  ⟨some 23, none, .bin .add (.c (.int .i64 48)) (.t 22)⟩,
  ⟨some 24, none, .cvI .u8 (.t 23)⟩,
  ⟨some 25, none, .bslice false [.int .u8 0] 1 [(0, .t 24)]⟩,
  ⟨some 26, none, .cvS (.t 25)⟩,
  ⟨some 27, none, .bin .add (.t 20) (.t 26)⟩,
  ⟨some 2, none, .mv (.t 27)⟩]) (.ret))), [.t 2]⟩
def s_spec_ValText : SFn := ⟨37, .seq (.rg [⟨some 1, none, .box (.t 0)⟩,
  ⟨some 2, none, .mv (.c (.str []))⟩]) (.seq (.seq (.rg [⟨some 3, none, .ldA 3 (.t 1)⟩,
  ⟨some 4, none, .callP 39 [.t 3]⟩,
  ⟨some 5, none, .un .not (.t 4)⟩,
  ⟨some 6, none, .mv (.t 5)⟩,
  ⟨some 7, some (6, false), .fa 2 (.t 1)⟩,
  ⟨some 8, some (6, false), .ld (.t 7)⟩,
  ⟨some 9, some (6, false), .callP 40 [.t 8]⟩,
  ⟨some 10, some (6, false), .un .not (.t 9)⟩,
  ⟨some 11, none, .pick (.t 6) (.c (.bool true)) (.t 10)⟩]) (.cond (.t 11) (.seq (.rg [⟨some 2, none, .mv (.c (.str []))⟩]) (.ret)) (.skip))) (.seq (.seq (.rg [⟨some 12, none, .fa 0 (.t 1)⟩,
  ⟨some 13, none, .ld (.t 12)⟩]) (.blk 0 (.seq (.rg [⟨some 15, none, .bin .eql (.t 13) (.c (.int .i64 1))⟩,
  ⟨some 14, none, .mv (.t 15)⟩]) (.cond (.t 14) (.seq (.rg [⟨some 16, none, .fa 1 (.t 1)⟩,
  ⟨some 17, none, .ld (.t 16)⟩,
  ⟨some 18, none, .callP 41 [.t 17]⟩,
  ⟨some 19, none, .bin .add (.c (.str [105])) (.t 18)⟩,
  ⟨some 2, none, .mv (.t 19)⟩]) (.ret)) (.seq (.rg [⟨some 21, none, .bin .eql (.t 13) (.c (.int .i64 2))⟩,
  ⟨some 20, none, .mv (.t 21)⟩]) (.cond (.t 20) (.seq (.rg [⟨some 22, none, .fa 1 (.t 1)⟩,
  ⟨some 23, none, .ld (.t 22)⟩,
  ⟨some 24, none, .callP 41 [.t 23]⟩,
  ⟨some 25, none, .bin .add (.c (.str [110])) (.t 24)⟩,
  ⟨some 2, none, .mv (.t 25)⟩]) (.ret)) (.seq (.rg [⟨some 27, none, .bin .eql (.t 13) (.c (.int .i64 3))⟩,
  ⟨some 26, none, .mv (.t 27)⟩]) (.cond (.t 26) (.seq (.rg [⟨some 28, none, .fa 2 (.t 1)⟩,
  ⟨some 29, none, .ld (.t 28)⟩,
  ⟨some 30, none, .bin .add (.c (.str [39])) (.t 29)⟩,
  ⟨some 31, none, .bin .add (.t 30) (.c (.str [39]))⟩,
  ⟨some 2, none, .mv (.t 31)⟩]) (.ret)) (.seq (.rg [⟨some 33, none, .bin .eql (.t 13) (.c (.int .i64 4))⟩,
  ⟨some 32, none, .mv (.t 33)⟩]) (.cond (.t 32) (.seq (.seq (.rg [⟨some 34, none, .fa 1 (.t 1)⟩,
  ⟨some 35, none, .ld (.t 34)⟩,
  ⟨some 36, none, .bin .eql (.t 35) (.c (.int .i64 1))⟩]) (.cond (.t 36) (.seq (.rg [⟨some 2, none, .mv (.c (.str [121, 101, 115]))⟩]) (.ret)) (.skip))) (.seq (.rg [⟨some 2, none, .mv (.c (.str [110, 111]))⟩]) (.ret))) (.skip))))))))))) (.seq (.rg [⟨some 2, none, .mv (.c (.str [110, 117, 108, 108]))⟩]) (.ret)))), [.t 2]⟩
def s_spec_l28Blank_L0 : SCode := .seq (.seq (.rg [⟨some 4, none, .mv (.t 3)⟩,
  ⟨some 5, none, .mv (.t 0)⟩,
  ⟨some 6, none, .lenS (.t 5)⟩,
  ⟨some 7, none, .bin .lss (.t 4) (.t 6)⟩]) (.cond (.t 7) (.skip) (.exit 0))) (.seq (.blk 1 (.seq (.rg [⟨some 10, none, .mv (.t 0)⟩,
  ⟨some 11, none, .mv (.t 3)⟩,
  ⟨some 12, none, .ix (.t 10) (.t 11)⟩,
  ⟨some 13, none, .bin .eql (.t 12) (.c (.int .u8 32))⟩]) (.cond (.t 13) (.seq (.rg [⟨some 2, none, .mv (.c (.bool true))⟩]) (.ret)) (.skip)))) (.rg [⟨some 8, none, .mv (.t 3)⟩,
  ⟨some 9, none, .bin .add (.t 8) (.c (.int .i64 1))⟩,
  ⟨some 3, none, .mv (.t 9)⟩]))
def s_spec_l28Blank : SFn := ⟨14, .seq (.rg [⟨some 2, none, .mv (.c (.bool false))⟩]) (.seq (.seq (.rg [⟨some 3, none, .mv (.c (.int .i64 0))⟩]) (.blk 0 (.loop s_spec_l28Blank_L0))) (.seq (.rg [⟨some 2, none, .mv (.c (.bool false))⟩]) (.ret))), [.t 2]⟩
def s_spec_RowText_L0 : SCode := .seq (.seq (.rg [⟨some 6, none, .mv (.t 4)⟩,
  ⟨some 7, none, .mv (.t 0)⟩,
  ⟨some 8, none, .lenL (.t 7)⟩,
  ⟨some 9, none, .bin .lss (.t 6) (.t 8)⟩]) (.cond (.t 9) (.skip) (.exit 0))) (.seq (.blk 1 (.seq (.rg [⟨some 12, none, .mv (.t 0)⟩,
  ⟨some 13, none, .mv (.t 4)⟩,
  ⟨some 14, none, .ia 3 (.t 12) (.t 13)⟩,
  ⟨some 15, none, .ldA 3 (.t 14)⟩,
  ⟨some 16, none, .callP 25 [.t 15]⟩,
  ⟨some 5, none, .mv (.t 16)⟩]) (.seq (.seq (.rg [⟨some 17, none, .mv (.t 5)⟩,
  ⟨some 18, none, .bin .eql (.t 17) (.c (.str []))⟩,
  ⟨some 19, none, .mv (.t 18)⟩,
  ⟨some 20, some (19, false), .mv (.t 5)⟩,
  ⟨some 21, some (19, false), .callP 26 [.t 20]⟩,
  ⟨some 22, none, .pick (.t 19) (.c (.bool true)) (.t 21)⟩]) (.cond (.t 22) (.seq (.rg [⟨some 2, none, .mv (.c (.str []))⟩]) (.ret)) (.skip))) (.seq (.seq (.rg [⟨some 23, none, .mv (.t 4)⟩,
  ⟨some 24, none, .bin .gtr (.t 23) (.c (.int .i64 0))⟩]) (.cond (.t 24) (.rg [⟨some 25, none, .mv (.t 3)⟩,
  ⟨some 26, none, .bin .add (.t 25) (.c (.str [32]))⟩,
  ⟨some 3, none, .mv (.t 26)⟩]) (.skip))) (.rg [⟨some 27, none, .mv (.t 3)⟩,
  ⟨some 28, none, .mv (.t 5)⟩,
  ⟨some 29, none, .bin .add (.t 27) (.t 28)⟩,
  ⟨some 3, none, .mv (.t 29)⟩]))))) (.rg [⟨some 10, none, .mv (.t 4)⟩,
  ⟨some 11, none, .bin .add (.t 10) (.c (.int .i64 1))⟩,
  ⟨some 4, none, .mv (.t 11)⟩]))
def s_spec_RowText : SFn := ⟨31, .seq (.rg [⟨some 2, none, .mv (.c (.str []))⟩]) (.seq (.rg [⟨some 3, none, .mv (.c (.str []))⟩]) (.seq (.seq (.rg [⟨some 4, none, .mv (.c (.int .i64 0))⟩]) (.blk 0 (.loop s_spec_RowText_L0))) (.seq (.rg [⟨some 30, none, .mv (.t 3)⟩,
  ⟨some 2, none, .mv (.t 30)⟩]) (.ret)))), [.t 2]⟩
def s_spec_DrawParseRow : SFn := ⟨25, .seq (.rg [⟨some 2, none, .mv (.c (.str []))⟩]) (.seq (.rg [⟨some 5, none, .mv (.t 0)⟩,
  ⟨some 6, none, .callW 14 [.t 5]⟩,
  ⟨some 3, none, .mv (.t 6)⟩]) (.seq (.rg [⟨some 7, none, .mv (.t 3)⟩,
  ⟨some 8, none, .callW 15 [.t 7]⟩,
  ⟨some 9, none, .callP 12 [.t 8]⟩,
  ⟨some 4, none, .mv (.t 9)⟩]) (.seq (.seq (.rg [⟨some 10, none, .mv (.t 3)⟩,
  ⟨some 11, none, .callW 19 [.t 10, .c (.int .i64 5)]⟩]) (.blk 0 (.seq (.rg [⟨some 13, none, .bin .eql (.t 11) (.c (.int .i64 0))⟩,
  ⟨some 12, none, .mv (.t 13)⟩]) (.cond (.t 12) (.seq (.rg [⟨some 14, none, .mv (.t 4)⟩,
  ⟨some 15, none, .mv (.t 3)⟩,
  ⟨some 16, none, .bslice false [.str []] 5 [(0, .c (.str [32])), (1, .c (.str [32, 120])), (2, .c (.str [32, 105, 49])), (3, .c (.str [32, 32, 105, 49])), (4, .c (.str [32, 110, 117, 108, 108, 32, 110, 117, 108, 108, 32, 110, 117, 108, 108, 32, 110, 117, 108, 108, 32, 110, 117, 108, 108, 32, 110, 117, 108, 108, 32, 110, 117, 108, 108, 32, 110, 117, 108, 108]))]⟩,
  ⟨some 17, none, .callW 20 [.t 15, .t 16]⟩,
  ⟨some 18, none, .bin .add (.t 14) (.t 17)⟩,
  ⟨some 2, none, .mv (.t 18)⟩]) (.ret)) (.seq (.rg [⟨some 20, none, .bin .eql (.t 11) (.c (.int .i64 1))⟩,
  ⟨some 19, none, .mv (.t 20)⟩]) (.cond (.t 19) (.seq (.rg [⟨some 21, none, .mv (.t 3)⟩,
  ⟨some 22, none, .bslice false [.str []] 6 [(0, .c (.str [])), (1, .c (.str [32])), (2, .c (.str [105, 49, 32, 39, 97, 39, 32, 110, 117, 108, 108])), (3, .c (.str [105, 49, 32, 32, 105, 50])), (4, .c (.str [39, 97, 32, 98, 39])), (5, .c (.str [121, 101, 115, 32, 110, 111, 32, 110, 45, 53]))]⟩,
  ⟨some 23, none, .callW 20 [.t 21, .t 22]⟩,
  ⟨some 2, none, .mv (.t 23)⟩]) (.ret)) (.skip))))))) (.seq (.rg [⟨some 24, none, .mv (.t 4)⟩,
  ⟨some 2, none, .mv (.t 24)⟩]) (.ret))))), [.t 2]⟩
def s_impl_ParseVal : SFn := ⟨71, .seq (.rg [⟨some 2, none, .alloc [.int .i64 0, .int .i64 0, .str []]⟩,
  ⟨some 3, none, .mv (.c (.bool false))⟩]) (.seq (.rg [⟨some 4, none, .alloc [.int .i64 0, .int .i64 0, .str []]⟩]) (.seq (.blk 0 (.seq (.rg [⟨some 9, none, .mv (.t 0)⟩,
  ⟨some 10, none, .bin .eql (.t 9) (.c (.str [110, 111]))⟩,
  ⟨some 11, none, .mv (.t 10)⟩,
  ⟨some 12, some (11, false), .mv (.t 0)⟩,
  ⟨some 13, some (11, false), .bin .eql (.t 12) (.c (.str [121, 101, 115]))⟩,
  ⟨some 14, none, .pick (.t 11) (.c (.bool true)) (.t 13)⟩,
  ⟨some 8, none, .mv (.t 14)⟩]) (.cond (.t 8) (.seq (.rg [⟨some 15, none, .build [.int .i64 0, .int .i64 0, .str []] [(0, (1, .c (.int .i64 4)))]⟩,
  ⟨none, none, .st 3 (.t 4) (.t 15)⟩]) (.seq (.rg [⟨some 16, none, .mv (.t 0)⟩,
  ⟨some 17, none, .bin .eql (.t 16) (.c (.str [121, 101, 115]))⟩]) (.cond (.t 17) (.rg [⟨some 18, none, .fa 1 (.t 4)⟩,
  ⟨none, none, .st 1 (.t 18) (.c (.int .i64 1))⟩]) (.skip)))) (.seq (.rg [⟨some 20, none, .mv (.t 0)⟩,
  ⟨some 21, none, .callP 36 [.t 20, .c (.str [105])]⟩,
  ⟨some 22, none, .mv (.t 21)⟩,
  ⟨some 23, some (22, false), .mv (.t 0)⟩,
  ⟨some 24, some (22, false), .callP 36 [.t 23, .c (.str [110])]⟩,
  ⟨some 25, some (22, false), .mv (.t 24)⟩,
  ⟨some 26, some (25, true), .mv (.t 0)⟩,
  ⟨some 27, some (25, true), .bin .neq (.t 26) (.c (.str [110, 117, 108, 108]))⟩,
  ⟨some 28, some (22, false), .pick (.t 25) (.t 27) (.c (.bool false))⟩,
  ⟨some 29, none, .pick (.t 22) (.c (.bool true)) (.t 28)⟩,
  ⟨some 19, none, .mv (.t 29)⟩]) (.cond (.t 19) (.seq (.rg [⟨some 31, none, .mv (.t 0)⟩,
  ⟨some 32, none, .sliS (.t 31) (some (.c (.int .i64 1))) none⟩,
  ⟨some 33, none, .callP 37 [.t 32]⟩,
  ⟨some 30, none, .mv (.t 33)⟩,
  ⟨some 34, none, .ext (.t 30) 0⟩,
  ⟨some 35, none, .ext (.t 30) 1⟩,
  ⟨some 5, none, .mv (.t 34)⟩,
  ⟨some 6, none, .mv (.t 35)⟩]) (.seq (.seq (.rg [⟨some 36, none, .mv (.t 6)⟩,
  ⟨some 37, none, .binI .neq (.t 36) (.c .inil)⟩]) (.cond (.t 37) (.seq (.rg [⟨some 38, none, .build [.int .i64 0, .int .i64 0, .str []] []⟩,
  ⟨none, none, .st 3 (.t 2) (.t 38)⟩,
  ⟨some 3, none, .mv (.c (.bool false))⟩]) (.ret)) (.skip))) (.seq (.rg [⟨some 39, none, .mv (.t 5)⟩,
  ⟨some 40, none, .build [.int .i64 0, .int .i64 0, .str []] [(0, (1, .c (.int .i64 1))), (1, (1, .t 39))]⟩,
  ⟨none, none, .st 3 (.t 4) (.t 40)⟩]) (.seq (.rg [⟨some 41, none, .mv (.t 0)⟩,
  ⟨some 42, none, .ix (.t 41) (.c (.int .i64 0))⟩,
  ⟨some 43, none, .bin .eql (.t 42) (.c (.int .u8 110))⟩]) (.cond (.t 43) (.rg [⟨some 44, none, .fa 0 (.t 4)⟩,
  ⟨none, none, .st 1 (.t 44) (.c (.int .i64 2))⟩]) (.skip)))))) (.seq (.rg [⟨some 46, none, .mv (.t 0)⟩,
  ⟨some 47, none, .lenS (.t 46)⟩,
  ⟨some 48, none, .bin .geq (.t 47) (.c (.int .i64 2))⟩,
  ⟨some 49, none, .mv (.t 48)⟩,
  ⟨some 50, some (49, true), .mv (.t 0)⟩,
  ⟨some 51, some (49, true), .ix (.t 50) (.c (.int .i64 0))⟩,
  ⟨some 52, some (49, true), .bin .eql (.t 51) (.c (.int .u8 39))⟩,
  ⟨some 53, none, .pick (.t 49) (.t 52) (.c (.bool false))⟩,
  ⟨some 45, none, .mv (.t 53)⟩]) (.cond (.t 45) (.rg [⟨some 54, none, .mv (.t 0)⟩,
  ⟨some 55, none, .mv (.t 0)⟩,
  ⟨some 56, none, .lenS (.t 55)⟩,
  ⟨some 57, none, .bin .sub (.t 56) (.c (.int .i64 1))⟩,
  ⟨some 58, none, .sliS (.t 54) (some (.c (.int .i64 1))) (some (.t 57))⟩,
  ⟨some 59, none, .build [.int .i64 0, .int .i64 0, .str []] [(0, (1, .c (.int .i64 3))), (2, (1, .t 58))]⟩,
  ⟨none, none, .st 3 (.t 4) (.t 59)⟩]) (.skip)))))))) (.seq (.seq (.rg [⟨some 60, none, .ldA 3 (.t 4)⟩,
  ⟨some 61, none, .callP 16 [.t 60]⟩,
  ⟨some 7, none, .mv (.t 61)⟩]) (.seq (.rg [⟨some 62, none, .mv (.t 7)⟩,
  ⟨some 63, none, .bin .eql (.t 62) (.c (.str []))⟩,
  ⟨some 64, none, .mv (.t 63)⟩,
  ⟨some 65, some (64, false), .mv (.t 7)⟩,
  ⟨some 66, some (64, false), .mv (.t 0)⟩,
  ⟨some 67, some (64, false), .bin .neq (.t 65) (.t 66)⟩,
  ⟨some 68, none, .pick (.t 64) (.c (.bool true)) (.t 67)⟩]) (.cond (.t 68) (.seq (.rg [⟨some 69, none, .build [.int .i64 0, .int .i64 0, .str []] []⟩,
  ⟨none, none, .st 3 (.t 2) (.t 69)⟩,
  ⟨some 3, none, .mv (.c (.bool false))⟩]) (.ret)) (.skip)))) (.seq (.rg [⟨some 70, none, .ldA 3 (.t 4)⟩,
  ⟨none, none, .st 3 (.t 2) (.t 70)⟩,
  ⟨some 3, none, .mv (.c (.bool true))⟩]) (.ret))))), [.ldA 2 3, .t 3]⟩
def s_impl_ParseRow_L0 : SCode := .seq (.rg [⟨some 15, none, .bin .lss (.t 14) (.t 13)⟩]) (.seq (.cond (.t 15) (.skip) (.exit 0)) (.seq (.blk 1 (.seq (.rg [⟨some 16, none, .ia 1 (.t 12) (.t 14)⟩,
  ⟨some 17, none, .ld (.t 16)⟩,
  ⟨some 6, none, .mv (.t 17)⟩]) (.seq (.rg [⟨some 19, none, .mv (.t 6)⟩,
  ⟨some 20, none, .callP 22 [.t 19]⟩,
  ⟨some 18, none, .mv (.t 20)⟩,
  ⟨some 21, none, .ext (.t 18) 0⟩,
  ⟨some 22, none, .ext (.t 18) 1⟩,
  ⟨some 7, none, .alloc [.int .i64 0, .int .i64 0, .str []]⟩,
  ⟨none, none, .st 3 (.t 7) (.t 21)⟩,
  ⟨some 8, none, .mv (.t 22)⟩]) (.seq (.seq (.rg [⟨some 23, none, .mv (.t 8)⟩,
  ⟨some 24, none, .un .not (.t 23)⟩,
  ⟨some 25, none, .mv (.t 24)⟩,
  ⟨some 26, some (25, false), .mv (.t 4)⟩,
  ⟨some 27, some (25, false), .lenL (.t 26)⟩,
  ⟨some 28, some (25, false), .bin .geq (.t 27) (.c (.int .i64 8))⟩,
  ⟨some 29, none, .pick (.t 25) (.c (.bool true)) (.t 28)⟩]) (.cond (.t 29) (.seq (.rg [⟨some 2, none, .mv (.c .snil)⟩,
  ⟨some 3, none, .mv (.c (.bool false))⟩]) (.ret)) (.skip))) (.rg [⟨some 30, none, .mv (.t 4)⟩,
  ⟨some 31, none, .ldA 3 (.t 7)⟩,
  ⟨some 32, none, .bslice true [.int .i64 0, .int .i64 0, .str []] 1 [(0, .t 31)]⟩,
  ⟨some 33, none, .app true 32 3 (.t 30) (.t 32)⟩,
  ⟨some 4, none, .mv (.t 33)⟩]))))) (.rg [⟨some 34, none, .bin .add (.t 14) (.c (.int .i64 1))⟩,
  ⟨some 14, none, .mv (.t 34)⟩])))
def s_impl_ParseRow : SFn := ⟨36, .seq (.rg [⟨some 2, none, .mv (.c .snil)⟩,
  ⟨some 3, none, .mv (.c (.bool false))⟩]) (.seq (.seq (.rg [⟨some 9, none, .mv (.t 0)⟩,
  ⟨some 10, none, .bin .eql (.t 9) (.c (.str []))⟩]) (.cond (.t 10) (.seq (.rg [⟨some 2, none, .mv (.c .snil)⟩,
  ⟨some 3, none, .mv (.c (.bool true))⟩]) (.ret)) (.skip))) (.seq (.rg [⟨some 4, none, .mv (.c .snil)⟩]) (.seq (.seq (.rg [⟨some 11, none, .mv (.t 0)⟩,
  ⟨some 12, none, .callP 21 [.t 11, .c (.str [32])]⟩,
  ⟨some 13, none, .lenL (.t 12)⟩,
  ⟨some 14, none, .mv (.c (.int .i64 0))⟩]) (.blk 0 (.loop s_impl_ParseRow_L0))) (.seq (.rg [⟨some 35, none, .mv (.t 4)⟩,
  ⟨some 2, none, .mv (.t 35)⟩,
  ⟨some 3, none, .mv (.c (.bool true))⟩]) (.ret))))), [.t 2, .t 3]⟩
def s_spec_l2Digit : SFn := ⟨6, .seq (.rg [⟨some 2, none, .mv (.c (.bool false))⟩]) (.seq (.rg [⟨some 3, none, .mv (.t 0)⟩,
  ⟨some 4, none, .cvI .i64 (.t 3)⟩,
  ⟨some 5, none, .callP 55 [.t 4, .c (.int .i64 48), .c (.int .i64 57)]⟩,
  ⟨some 2, none, .mv (.t 5)⟩]) (.ret)), [.t 2]⟩
def s_spec_l2Parse_L0 : SCode := .seq (.seq (.rg [⟨some 35, none, .mv (.t 6)⟩,
  ⟨some 36, none, .mv (.t 0)⟩,
  ⟨some 37, none, .lenS (.t 36)⟩,
  ⟨some 38, none, .bin .lss (.t 35) (.t 37)⟩]) (.cond (.t 38) (.skip) (.exit 0))) (.seq (.blk 1 (.seq (.seq (.rg [⟨some 41, none, .mv (.t 0)⟩,
  ⟨some 42, none, .mv (.t 6)⟩,
  ⟨some 43, none, .ix (.t 41) (.t 42)⟩,
  ⟨some 44, none, .callP 73 [.t 43]⟩,
  ⟨some 45, none, .un .not (.t 44)⟩]) (.cond (.t 45) (.seq (.rg [⟨some 2, none, .mv (.c (.int .i64 0))⟩,
  ⟨some 3, none, .mv (.c (.bool false))⟩]) (.ret)) (.skip))) (.rg [⟨some 46, none, .mv (.t 5)⟩,
  ⟨some 47, none, .bin .mul (.t 46) (.c (.int .i64 10))⟩,
  ⟨some 48, none, .mv (.t 0)⟩,
  ⟨some 49, none, .mv (.t 6)⟩,
  ⟨some 50, none, .ix (.t 48) (.t 49)⟩,
  ⟨some 51, none, .bin .sub (.t 50) (.c (.int .u8 48))⟩,
  ⟨some 52, none, .cvI .i64 (.t 51)⟩,
  ⟨some 53, none, .bin .add (.t 47) (.t 52)⟩,
  ⟨some 5, none, .mv (.t 53)⟩]))) (.rg [⟨some 39, none, .mv (.t 6)⟩,
  ⟨some 40, none, .bin .add (.t 39) (.c (.int .i64 1))⟩,
  ⟨some 6, none, .mv (.t 40)⟩]))
def s_spec_l2Parse : SFn := ⟨58, .seq (.rg [⟨some 2, none, .mv (.c (.int .i64 0))⟩,
  ⟨some 3, none, .mv (.c (.bool false))⟩]) (.seq (.rg [⟨some 7, none, .mv (.t 0)⟩,
  ⟨some 8, none, .lenS (.t 7)⟩,
  ⟨some 9, none, .bin .gtr (.t 8) (.c (.int .i64 0))⟩,
  ⟨some 10, none, .mv (.t 9)⟩,
  ⟨some 11, some (10, true), .mv (.t 0)⟩,
  ⟨some 12, some (10, true), .ix (.t 11) (.c (.int .i64 0))⟩,
  ⟨some 13, some (10, true), .bin .eql (.t 12) (.c (.int .u8 45))⟩,
  ⟨some 14, none, .pick (.t 10) (.t 13) (.c (.bool false))⟩,
  ⟨some 4, none, .mv (.t 14)⟩]) (.seq (.seq (.rg [⟨some 15, none, .mv (.t 4)⟩]) (.cond (.t 15) (.rg [⟨some 16, none, .mv (.t 0)⟩,
  ⟨some 17, none, .sliS (.t 16) (some (.c (.int .i64 1))) none⟩,
  ⟨some 0, none, .mv (.t 17)⟩]) (.skip))) (.seq (.seq (.rg [⟨some 18, none, .mv (.t 0)⟩,
  ⟨some 19, none, .lenS (.t 18)⟩,
  ⟨some 20, none, .callP 55 [.t 19, .c (.int .i64 1), .c (.int .i64 16)]⟩,
  ⟨some 21, none, .un .not (.t 20)⟩,
  ⟨some 22, none, .mv (.t 21)⟩,
  ⟨some 23, some (22, false), .mv (.t 0)⟩,
  ⟨some 24, some (22, false), .ix (.t 23) (.c (.int .i64 0))⟩,
  ⟨some 25, some (22, false), .bin .eql (.t 24) (.c (.int .u8 48))⟩,
  ⟨some 26, some (22, false), .mv (.t 25)⟩,
  ⟨some 27, some (26, true), .mv (.t 0)⟩,
  ⟨some 28, some (26, true), .lenS (.t 27)⟩,
  ⟨some 29, some (26, true), .bin .gtr (.t 28) (.c (.int .i64 1))⟩,
  ⟨some 30, some (26, true), .mv (.t 29)⟩,
  ⟨some 31, some (30, false), .mv (.t 4)⟩,
  ⟨some 32, some (26, true), .pick (.t 30) (.c (.bool true)) (.t 31)⟩,
  ⟨some 33, some (22, false), .pick (.t 26) (.t 32) (.c (.bool false))⟩,
  ⟨some 34, none, .pick (.t 22) (.c (.bool true)) (.t 33)⟩]) (.cond (.t 34) (.seq (.rg [⟨some 2, none, .mv (.c (.int .i64 0))⟩,
  ⟨some 3, none, .mv (.c (.bool false))⟩]) (.ret)) (.skip))) (.seq (.rg [⟨some 5, none, .mv (.c (.int .i64 0))⟩]) (.seq (.seq (.rg [⟨some 6, none, .mv (.c (.int .i64 0))⟩]) (.blk 0 (.loop s_spec_l2Parse_L0))) (.seq (.seq (.rg [⟨some 54, none, .mv (.t 4)⟩]) (.cond (.t 54) (.rg [⟨some 55, none, .mv (.t 5)⟩,
  ⟨some 56, none, .un .neg (.t 55)⟩,
  ⟨some 5, none, .mv (.t 56)⟩]) (.skip))) (.seq (.rg [⟨some 57, none, .mv (.t 5)⟩,
  ⟨some 2, none, .mv (.t 57)⟩,
  ⟨some 3, none, .mv (.c (.bool true))⟩]) (.ret)))))))), [.t 2, .t 3]⟩
def s_spec_l2Val : SFn := ⟨61, .seq (.rg [⟨some 2, none, .alloc [.int .i64 0, .int .i64 0, .str []]⟩,
  ⟨some 3, none, .mv (.c (.bool false))⟩]) (.seq (.seq (.rg [⟨some 7, none, .mv (.t 0)⟩]) (.blk 0 (.seq (.rg [⟨some 9, none, .bin .eql (.t 7) (.c (.str [110, 117, 108, 108]))⟩,
  ⟨some 8, none, .mv (.t 9)⟩]) (.cond (.t 8) (.seq (.rg [⟨some 10, none, .build [.int .i64 0, .int .i64 0, .str []] []⟩,
  ⟨none, none, .st 3 (.t 2) (.t 10)⟩,
  ⟨some 3, none, .mv (.c (.bool true))⟩]) (.ret)) (.seq (.rg [⟨some 12, none, .bin .eql (.t 7) (.c (.str [110, 111]))⟩,
  ⟨some 11, none, .mv (.t 12)⟩]) (.cond (.t 11) (.seq (.rg [⟨some 13, none, .build [.int .i64 0, .int .i64 0, .str []] [(0, (1, .c (.int .i64 4)))]⟩,
  ⟨none, none, .st 3 (.t 2) (.t 13)⟩,
  ⟨some 3, none, .mv (.c (.bool true))⟩]) (.ret)) (.seq (.rg [⟨some 15, none, .bin .eql (.t 7) (.c (.str [121, 101, 115]))⟩,
  ⟨some 14, none, .mv (.t 15)⟩]) (.cond (.t 14) (.seq (.rg [⟨some 16, none, .build [.int .i64 0, .int .i64 0, .str []] [(0, (1, .c (.int .i64 4))), (1, (1, .c (.int .i64 1)))]⟩,
  ⟨none, none, .st 3 (.t 2) (.t 16)⟩,
  ⟨some 3, none, .mv (.c (.bool true))⟩]) (.ret)) (.skip))))))))) (.seq (.seq (.rg [⟨some 17, none, .mv (.t 0)⟩,
  ⟨some 18, none, .lenS (.t 17)⟩,
  ⟨some 19, none, .bin .lss (.t 18) (.c (.int .i64 2))⟩]) (.cond (.t 19) (.seq (.rg [⟨some 20, none, .build [.int .i64 0, .int .i64 0, .str []] []⟩,
  ⟨none, none, .st 3 (.t 2) (.t 20)⟩,
  ⟨some 3, none, .mv (.c (.bool false))⟩]) (.ret)) (.skip))) (.seq (.seq (.rg [⟨some 21, none, .mv (.t 0)⟩,
  ⟨some 22, none, .ix (.t 21) (.c (.int .i64 0))⟩,
  ⟨some 23, none, .bin .eql (.t 22) (.c (.int .u8 39))⟩]) (.cond (.t 23) (.seq (.rg [⟨some 24, none, .mv (.t 0)⟩,
  ⟨some 25, none, .mv (.t 0)⟩,
  ⟨some 26, none, .lenS (.t 25)⟩,
  ⟨some 27, none, .bin .sub (.t 26) (.c (.int .i64 1))⟩,
  ⟨some 28, none, .sliS (.t 24) (some (.c (.int .i64 1))) (some (.t 27))⟩,
  ⟨some 29, none, .build [.int .i64 0, .int .i64 0, .str []] [(0, (1, .c (.int .i64 3))), (2, (1, .t 28))]⟩,
  ⟨some 4, none, .alloc [.int .i64 0, .int .i64 0, .str []]⟩,
  ⟨none, none, .st 3 (.t 4) (.t 29)⟩]) (.seq (.rg [⟨some 30, none, .ldA 3 (.t 4)⟩,
  ⟨some 31, none, .mv (.t 0)⟩,
  ⟨some 32, none, .mv (.t 0)⟩,
  ⟨some 33, none, .lenS (.t 32)⟩,
  ⟨some 34, none, .bin .sub (.t 33) (.c (.int .i64 1))⟩,
  ⟨some 35, none, .ix (.t 31) (.t 34)⟩,
  ⟨some 36, none, .bin .eql (.t 35) (.c (.int .u8 39))⟩,
  ⟨some 37, none, .mv (.t 36)⟩,
  ⟨some 38, some (37, true), .fa 2 (.t 4)⟩,
  ⟨some 39, some (37, true), .ld (.t 38)⟩,
  ⟨some 40, some (37, true), .callP 40 [.t 39]⟩,
  ⟨some 41, none, .pick (.t 37) (.t 40) (.c (.bool false))⟩,
  ⟨none, none, .st 3 (.t 2) (.t 30)⟩,
  ⟨some 3, none, .mv (.t 41)⟩]) (.ret))) (.skip))) (.seq (.rg [⟨some 43, none, .mv (.t 0)⟩,
  ⟨some 44, none, .sliS (.t 43) (some (.c (.int .i64 1))) none⟩,
  ⟨some 45, none, .callP 54 [.t 44]⟩,
  ⟨some 42, none, .mv (.t 45)⟩,
  ⟨some 46, none, .ext (.t 42) 0⟩,
  ⟨some 47, none, .ext (.t 42) 1⟩,
  ⟨some 5, none, .mv (.t 46)⟩,
  ⟨some 6, none, .mv (.t 47)⟩]) (.seq (.seq (.rg [⟨some 48, none, .mv (.t 0)⟩,
  ⟨some 49, none, .ix (.t 48) (.c (.int .i64 0))⟩]) (.blk 1 (.seq (.rg [⟨some 51, none, .bin .eql (.t 49) (.c (.int .u8 105))⟩,
  ⟨some 50, none, .mv (.t 51)⟩]) (.cond (.t 50) (.seq (.rg [⟨some 52, none, .mv (.t 5)⟩,
  ⟨some 53, none, .build [.int .i64 0, .int .i64 0, .str []] [(0, (1, .c (.int .i64 1))), (1, (1, .t 52))]⟩,
  ⟨some 54, none, .mv (.t 6)⟩,
  ⟨none, none, .st 3 (.t 2) (.t 53)⟩,
  ⟨some 3, none, .mv (.t 54)⟩]) (.ret)) (.seq (.rg [⟨some 56, none, .bin .eql (.t 49) (.c (.int .u8 110))⟩,
  ⟨some 55, none, .mv (.t 56)⟩]) (.cond (.t 55) (.seq (.rg [⟨some 57, none, .mv (.t 5)⟩,
  ⟨some 58, none, .build [.int .i64 0, .int .i64 0, .str []] [(0, (1, .c (.int .i64 2))), (1, (1, .t 57))]⟩,
  ⟨some 59, none, .mv (.t 6)⟩,
  ⟨none, none, .st 3 (.t 2) (.t 58)⟩,
  ⟨some 3, none, .mv (.t 59)⟩]) (.ret)) (.skip))))))) (.seq (.rg [⟨some 60, none, .build [.int .i64 0, .int .i64 0, .str []] []⟩,
  ⟨none, none, .st 3 (.t 2) (.t 60)⟩,
  ⟨some 3, none, .mv (.c (.bool false))⟩]) (.ret))))))), [.ldA 2 3, .t 3]⟩
def s_spec_ParseVal : SFn := ⟨20, .seq (.rg [⟨some 2, none, .alloc [.int .i64 0, .int .i64 0, .str []]⟩,
  ⟨some 3, none, .mv (.c (.bool false))⟩]) (.seq (.rg [⟨some 7, none, .mv (.t 0)⟩,
  ⟨some 8, none, .callP 38 [.t 7]⟩,
  ⟨some 6, none, .mv (.t 8)⟩,
  ⟨some 9, none, .ext (.t 6) 0⟩,
  ⟨some 10, none, .ext (.t 6) 1⟩,
  ⟨some 4, none, .alloc [.int .i64 0, .int .i64 0, .str []]⟩,
  ⟨none, none, .st 3 (.t 4) (.t 9)⟩,
  ⟨some 5, none, .mv (.t 10)⟩]) (.seq (.seq (.rg [⟨some 11, none, .mv (.t 5)⟩,
  ⟨some 12, none, .un .not (.t 11)⟩,
  ⟨some 13, none, .mv (.t 12)⟩,
  ⟨some 14, some (13, false), .ldA 3 (.t 4)⟩,
  ⟨some 15, some (13, false), .callP 39 [.t 14]⟩,
  ⟨some 16, some (13, false), .un .not (.t 15)⟩,
  ⟨some 17, none, .pick (.t 13) (.c (.bool true)) (.t 16)⟩]) (.cond (.t 17) (.seq (.rg [⟨some 18, none, .build [.int .i64 0, .int .i64 0, .str []] []⟩,
  ⟨none, none, .st 3 (.t 2) (.t 18)⟩,
  ⟨some 3, none, .mv (.c (.bool false))⟩]) (.ret)) (.skip))) (.seq (.rg [⟨some 19, none, .ldA 3 (.t 4)⟩,
  ⟨none, none, .st 3 (.t 2) (.t 19)⟩,
  ⟨some 3, none, .mv (.c (.bool true))⟩]) (.ret)))), [.ldA 2 3, .t 3]⟩
def s_spec_l28Split_L0 : SCode := .seq (.seq (.rg [⟨some 9, none, .mv (.t 7)⟩,
  ⟨some 10, none, .mv (.t 0)⟩,
  ⟨some 11, none, .lenS (.t 10)⟩,
  ⟨some 12, none, .bin .leq (.t 9) (.t 11)⟩]) (.cond (.t 12) (.skip) (.exit 0))) (.seq (.blk 1 (.seq (.rg [⟨some 15, none, .mv (.t 7)⟩,
  ⟨some 16, none, .mv (.t 0)⟩,
  ⟨some 17, none, .lenS (.t 16)⟩,
  ⟨some 18, none, .bin .eql (.t 15) (.t 17)⟩,
  ⟨some 19, none, .mv (.t 18)⟩,
  ⟨some 20, some (19, false), .mv (.t 0)⟩,
  ⟨some 21, some (19, false), .mv (.t 7)⟩,
  ⟨some 22, some (19, false), .ix (.t 20) (.t 21)⟩,
  ⟨some 23, some (19, false), .mv (.t 1)⟩,
  ⟨some 24, some (19, false), .bin .eql (.t 22) (.t 23)⟩,
  ⟨some 25, none, .pick (.t 19) (.c (.bool true)) (.t 24)⟩]) (.cond (.t 25) (.seq (.rg [⟨some 26, none, .mv (.t 5)⟩,
  ⟨some 27, none, .mv (.t 0)⟩,
  ⟨some 28, none, .mv (.t 6)⟩,
  ⟨some 29, none, .mv (.t 7)⟩,
  ⟨some 30, none, .sliS (.t 27) (some (.t 28)) (some (.t 29))⟩,
  ⟨some 31, none, .bslice false [.str []] 1 [(0, .t 30)]⟩,
  ⟨some 32, none, .app false 16 1 (.t 26) (.t 31)⟩,
  ⟨some 5, none, .mv (.t 32)⟩]) (.rg [⟨some 33, none, .mv (.t 7)⟩,
  ⟨some 34, none, .bin .add (.t 33) (.c (.int .i64 1))⟩,
  ⟨some 6, none, .mv (.t 34)⟩])) (.skip)))) (.rg [⟨some 13, none, .mv (.t 7)⟩,
  ⟨some 14, none, .bin .add (.t 13) (.c (.int .i64 1))⟩,
  ⟨some 7, none, .mv (.t 14)⟩]))
def s_spec_l28Split : SFn := ⟨36, .seq (.rg [⟨some 4, none, .mv (.c .snil)⟩]) (.seq (.rg [⟨some 8, none, .bslice false [.str []] 0 []⟩,
  ⟨some 5, none, .mv (.t 8)⟩]) (.seq (.rg [⟨some 6, none, .mv (.c (.int .i64 0))⟩]) (.seq (.seq (.rg [⟨some 7, none, .mv (.c (.int .i64 0))⟩]) (.blk 0 (.loop s_spec_l28Split_L0))) (.seq (.rg [⟨some 35, none, .mv (.t 5)⟩,
  ⟨some 4, none, .mv (.t 35)⟩]) (.ret))))), [.t 4]⟩
def s_spec_ParseRow_L0 : SCode := .seq (.seq (.rg [⟨some 15, none, .mv (.t 6)⟩,
  ⟨some 16, none, .mv (.t 5)⟩,
  ⟨some 17, none, .lenL (.t 16)⟩,
  ⟨some 18, none, .bin .lss (.t 15) (.t 17)⟩]) (.cond (.t 18) (.skip) (.exit 0))) (.seq (.blk 1 (.seq (.rg [⟨some 22, none, .mv (.t 5)⟩,
  ⟨some 23, none, .mv (.t 6)⟩,
  ⟨some 24, none, .ia 1 (.t 22) (.t 23)⟩,
  ⟨some 25, none, .ld (.t 24)⟩,
  ⟨some 26, none, .callP 24 [.t 25]⟩,
  ⟨some 21, none, .mv (.t 26)⟩,
  ⟨some 27, none, .ext (.t 21) 0⟩,
  ⟨some 28, none, .ext (.t 21) 1⟩,
  ⟨some 7, none, .alloc [.int .i64 0, .int .i64 0, .str []]⟩,
  ⟨none, none, .st 3 (.t 7) (.t 27)⟩,
  ⟨some 8, none, .mv (.t 28)⟩]) (.seq (.seq (.rg [⟨some 29, none, .mv (.t 8)⟩,
  ⟨some 30, none, .un .not (.t 29)⟩,
  ⟨some 31, none, .mv (.t 30)⟩,
  ⟨some 32, some (31, false), .mv (.t 6)⟩,
  ⟨some 33, some (31, false), .bin .gtr (.t 32) (.c (.int .i64 7))⟩,
  ⟨some 34, none, .pick (.t 31) (.c (.bool true)) (.t 33)⟩]) (.cond (.t 34) (.seq (.rg [⟨some 35, none, .bslice false [.int .i64 0, .int .i64 0, .str []] 0 []⟩,
  ⟨some 2, none, .mv (.t 35)⟩,
  ⟨some 3, none, .mv (.c (.bool false))⟩]) (.ret)) (.skip))) (.rg [⟨some 36, none, .mv (.t 4)⟩,
  ⟨some 37, none, .ldA 3 (.t 7)⟩,
  ⟨some 38, none, .bslice false [.int .i64 0, .int .i64 0, .str []] 1 [(0, .t 37)]⟩,
  ⟨some 39, none, .app false 32 3 (.t 36) (.t 38)⟩,
  ⟨some 4, none, .mv (.t 39)⟩])))) (.rg [⟨some 19, none, .mv (.t 6)⟩,
  ⟨some 20, none, .bin .add (.t 19) (.c (.int .i64 1))⟩,
  ⟨some 6, none, .mv (.t 20)⟩]))
def s_spec_ParseRow : SFn := ⟨41, .seq (.rg [⟨some 2, none, .mv (.c .snil)⟩,
  ⟨some 3, none, .mv (.c (.bool false))⟩]) (.seq (.rg [⟨some 9, none, .bslice false [.int .i64 0, .int .i64 0, .str []] 0 []⟩,
  ⟨some 4, none, .mv (.t 9)⟩]) (.seq (.seq (.rg [⟨some 10, none, .mv (.t 0)⟩,
  ⟨some 11, none, .bin .eql (.t 10) (.c (.str []))⟩]) (.cond (.t 11) (.seq (.rg [⟨some 12, none, .mv (.t 4)⟩,
  ⟨some 2, none, .mv (.t 12)⟩,
  ⟨some 3, none, .mv (.c (.bool true))⟩]) (.ret)) (.skip))) (.seq (.rg [⟨some 13, none, .mv (.t 0)⟩,
  ⟨some 14, none, .callP 23 [.t 13, .c (.int .u8 32)]⟩,
  ⟨some 5, none, .mv (.t 14)⟩]) (.seq (.seq (.rg [⟨some 6, none, .mv (.c (.int .i64 0))⟩]) (.blk 0 (.loop s_spec_ParseRow_L0))) (.seq (.rg [⟨some 40, none, .mv (.t 4)⟩,
  ⟨some 2, none, .mv (.t 40)⟩,
  ⟨some 3, none, .mv (.c (.bool true))⟩]) (.ret)))))), [.t 2, .t 3]⟩
def s_spec_DrawRowsText_L0 : SCode := .seq (.seq (.rg [⟨some 11, none, .mv (.t 5)⟩,
  ⟨some 12, none, .bin .gtr (.t 11) (.c (.int .i64 0))⟩]) (.cond (.t 12) (.skip) (.exit 0))) (.seq (.blk 1 (.rg [⟨some 15, none, .mv (.t 4)⟩,
  ⟨some 16, none, .mv (.t 3)⟩,
  ⟨some 17, none, .callW 15 [.t 16]⟩,
  ⟨some 18, none, .bslice false [.snil] 1 [(0, .t 17)]⟩,
  ⟨some 19, none, .app false 24 1 (.t 15) (.t 18)⟩,
  ⟨some 4, none, .mv (.t 19)⟩])) (.rg [⟨some 13, none, .mv (.t 5)⟩,
  ⟨some 14, none, .bin .sub (.t 13) (.c (.int .i64 1))⟩,
  ⟨some 5, none, .mv (.t 14)⟩]))
def s_spec_DrawRowsText : SFn := ⟨21, .seq (.rg [⟨some 2, none, .mv (.c .snil)⟩]) (.seq (.rg [⟨some 6, none, .mv (.t 0)⟩,
  ⟨some 7, none, .callW 14 [.t 6]⟩,
  ⟨some 3, none, .mv (.t 7)⟩]) (.seq (.rg [⟨some 8, none, .bslice false [.snil] 0 []⟩,
  ⟨some 4, none, .mv (.t 8)⟩]) (.seq (.seq (.rg [⟨some 9, none, .mv (.t 3)⟩,
  ⟨some 10, none, .callW 19 [.t 9, .c (.int .i64 4)]⟩,
  ⟨some 5, none, .mv (.t 10)⟩]) (.blk 0 (.loop s_spec_DrawRowsText_L0))) (.seq (.rg [⟨some 20, none, .mv (.t 4)⟩,
  ⟨some 2, none, .mv (.t 20)⟩]) (.ret))))), [.t 2]⟩
def s_impl_RowsText_L0 : SCode := .seq (.rg [⟨some 9, none, .bin .lss (.t 8) (.t 7)⟩]) (.seq (.cond (.t 9) (.skip) (.exit 0)) (.seq (.blk 1 (.seq (.rg [⟨some 10, none, .ia 1 (.t 6) (.t 8)⟩,
  ⟨some 11, none, .ld (.t 10)⟩,
  ⟨some 5, none, .mv (.t 11)⟩]) (.rg [⟨some 12, none, .mv (.t 3)⟩,
  ⟨some 13, none, .mv (.t 5)⟩,
  ⟨some 14, none, .callP 6 [.t 13]⟩,
  ⟨some 15, none, .bin .add (.t 14) (.c (.str [10]))⟩,
  ⟨some 16, none, .bin .add (.t 12) (.t 15)⟩,
  ⟨some 3, none, .mv (.t 16)⟩]))) (.rg [⟨some 17, none, .bin .add (.t 8) (.c (.int .i64 1))⟩,
  ⟨some 8, none, .mv (.t 17)⟩])))
def s_impl_RowsText : SFn := ⟨19, .seq (.rg [⟨some 2, none, .mv (.c (.str []))⟩]) (.seq (.rg [⟨some 3, none, .mv (.c (.str []))⟩]) (.seq (.seq (.rg [⟨some 6, none, .mv (.t 0)⟩,
  ⟨some 7, none, .lenL (.t 6)⟩,
  ⟨some 8, none, .mv (.c (.int .i64 0))⟩]) (.blk 0 (.loop s_impl_RowsText_L0))) (.seq (.rg [⟨some 18, none, .mv (.t 3)⟩,
  ⟨some 2, none, .mv (.t 18)⟩]) (.ret)))), [.t 2]⟩
def s_laws_sameVals_L0 : SCode := .seq (.seq (.rg [⟨some 11, none, .mv (.t 5)⟩,
  ⟨some 12, none, .mv (.t 0)⟩,
  ⟨some 13, none, .lenL (.t 12)⟩,
  ⟨some 14, none, .bin .lss (.t 11) (.t 13)⟩]) (.cond (.t 14) (.skip) (.exit 0))) (.seq (.blk 1 (.seq (.rg [⟨some 17, none, .mv (.t 0)⟩,
  ⟨some 18, none, .mv (.t 5)⟩,
  ⟨some 19, none, .ia 3 (.t 17) (.t 18)⟩,
  ⟨some 20, none, .ldA 3 (.t 19)⟩,
  ⟨some 21, none, .mv (.t 1)⟩,
  ⟨some 22, none, .mv (.t 5)⟩,
  ⟨some 23, none, .ia 3 (.t 21) (.t 22)⟩,
  ⟨some 24, none, .ldA 3 (.t 23)⟩,
  ⟨some 25, none, .binF .neq [.int .i64, .int .i64, .str] (.t 20) (.t 24)⟩]) (.cond (.t 25) (.seq (.rg [⟨some 4, none, .mv (.c (.bool false))⟩]) (.ret)) (.skip)))) (.rg [⟨some 15, none, .mv (.t 5)⟩,
  ⟨some 16, none, .bin .add (.t 15) (.c (.int .i64 1))⟩,
  ⟨some 5, none, .mv (.t 16)⟩]))
def s_laws_sameVals : SFn := ⟨26, .seq (.rg [⟨some 4, none, .mv (.c (.bool false))⟩]) (.seq (.seq (.rg [⟨some 6, none, .mv (.t 0)⟩,
  ⟨some 7, none, .lenL (.t 6)⟩,
  ⟨some 8, none, .mv (.t 1)⟩,
  ⟨some 9, none, .lenL (.t 8)⟩,
  ⟨some 10, none, .bin .neq (.t 7) (.t 9)⟩]) (.cond (.t 10) (.seq (.rg [⟨some 4, none, .mv (.c (.bool false))⟩]) (.ret)) (.skip))) (.seq (.seq (.rg [⟨some 5, none, .mv (.c (.int .i64 0))⟩]) (.blk 0 (.loop s_laws_sameVals_L0))) (.seq (.rg [⟨some 4, none, .mv (.c (.bool true))⟩]) (.ret)))), [.t 4]⟩
def s_laws_FnRowTexts_L0 : SCode := .seq (.seq (.rg [⟨some 35, none, .mv (.t 12)⟩,
  ⟨some 36, none, .mv (.t 10)⟩,
  ⟨some 37, none, .lenL (.t 36)⟩,
  ⟨some 38, none, .bin .lss (.t 35) (.t 37)⟩]) (.cond (.t 38) (.skip) (.exit 0))) (.seq (.blk 1 (.rg [⟨some 41, none, .mv (.t 11)⟩,
  ⟨some 42, none, .mv (.t 10)⟩,
  ⟨some 43, none, .mv (.t 12)⟩,
  ⟨some 44, none, .ia 1 (.t 42) (.t 43)⟩,
  ⟨some 45, none, .ld (.t 44)⟩,
  ⟨some 46, none, .callP 6 [.t 45]⟩,
  ⟨some 47, none, .bin .add (.t 41) (.t 46)⟩,
  ⟨some 48, none, .bin .add (.t 47) (.c (.str [10]))⟩,
  ⟨some 11, none, .mv (.t 48)⟩])) (.rg [⟨some 39, none, .mv (.t 12)⟩,
  ⟨some 40, none, .bin .add (.t 39) (.c (.int .i64 1))⟩,
  ⟨some 12, none, .mv (.t 40)⟩]))
def s_laws_FnRowTexts : SFn := ⟨88, .seq (.rg [⟨some 2, none, .mv (.c (.bool false))⟩]) (.seq (.seq (.rg [⟨some 15, none, .mv (.t 0)⟩,
  ⟨some 16, none, .callP 4 [.t 15]⟩]) (.cond (.t 16) (.seq (.rg [⟨some 2, none, .mv (.c (.bool true))⟩]) (.ret)) (.skip))) (.seq (.rg [⟨some 17, none, .mv (.t 0)⟩,
  ⟨some 18, none, .callW 5 [.t 17]⟩,
  ⟨some 3, none, .mv (.t 18)⟩]) (.seq (.rg [⟨some 19, none, .mv (.t 3)⟩,
  ⟨some 20, none, .callP 6 [.t 19]⟩,
  ⟨some 4, none, .mv (.t 20)⟩]) (.seq (.rg [⟨some 21, none, .mv (.t 0)⟩,
  ⟨some 22, none, .callW 7 [.t 21]⟩,
  ⟨some 5, none, .mv (.t 22)⟩]) (.seq (.rg [⟨some 24, none, .mv (.t 5)⟩,
  ⟨some 25, none, .callP 8 [.t 24]⟩,
  ⟨some 23, none, .mv (.t 25)⟩,
  ⟨some 26, none, .ext (.t 23) 0⟩,
  ⟨some 27, none, .ext (.t 23) 1⟩,
  ⟨some 6, none, .mv (.t 26)⟩,
  ⟨some 7, none, .mv (.t 27)⟩]) (.seq (.rg [⟨some 29, none, .mv (.t 5)⟩,
  ⟨some 30, none, .callP 9 [.t 29]⟩,
  ⟨some 28, none, .mv (.t 30)⟩,
  ⟨some 31, none, .ext (.t 28) 0⟩,
  ⟨some 32, none, .ext (.t 28) 1⟩,
  ⟨some 8, none, .mv (.t 31)⟩,
  ⟨some 9, none, .mv (.t 32)⟩]) (.seq (.rg [⟨some 33, none, .mv (.t 0)⟩,
  ⟨some 34, none, .callW 10 [.t 33]⟩,
  ⟨some 10, none, .mv (.t 34)⟩]) (.seq (.rg [⟨some 11, none, .mv (.c (.str []))⟩]) (.seq (.seq (.rg [⟨some 12, none, .mv (.c (.int .i64 0))⟩]) (.blk 0 (.loop s_laws_FnRowTexts_L0))) (.seq (.seq (.rg [⟨some 49, none, .mv (.t 7)⟩,
  ⟨some 50, none, .mv (.t 9)⟩,
  ⟨some 51, none, .binB .neq (.t 49) (.t 50)⟩,
  ⟨some 52, none, .mv (.t 51)⟩,
  ⟨some 53, some (52, false), .mv (.t 7)⟩,
  ⟨some 54, some (52, false), .mv (.t 53)⟩,
  ⟨some 55, some (54, true), .mv (.t 6)⟩,
  ⟨some 56, some (54, true), .callP 6 [.t 55]⟩,
  ⟨some 57, some (54, true), .mv (.t 5)⟩,
  ⟨some 58, some (54, true), .bin .neq (.t 56) (.t 57)⟩,
  ⟨some 59, some (52, false), .pick (.t 54) (.t 58) (.c (.bool false))⟩,
  ⟨some 60, none, .pick (.t 52) (.c (.bool true)) (.t 59)⟩,
  ⟨some 61, none, .mv (.t 60)⟩,
  ⟨some 62, some (61, false), .mv (.t 10)⟩,
  ⟨some 63, some (61, false), .callP 11 [.t 62]⟩,
  ⟨some 64, some (61, false), .mv (.t 11)⟩,
  ⟨some 65, some (61, false), .bin .neq (.t 63) (.t 64)⟩,
  ⟨some 66, none, .pick (.t 61) (.c (.bool true)) (.t 65)⟩,
  ⟨some 67, none, .mv (.t 66)⟩,
  ⟨some 68, some (67, false), .mv (.t 4)⟩,
  ⟨some 69, some (67, false), .mv (.t 3)⟩,
  ⟨some 70, some (67, false), .callP 12 [.t 69]⟩,
  ⟨some 71, some (67, false), .bin .neq (.t 68) (.t 70)⟩,
  ⟨some 72, none, .pick (.t 67) (.c (.bool true)) (.t 71)⟩]) (.cond (.t 72) (.seq (.rg [⟨some 2, none, .mv (.c (.bool false))⟩]) (.ret)) (.skip))) (.seq (.rg [⟨some 74, none, .mv (.t 4)⟩,
  ⟨some 75, none, .callP 8 [.t 74]⟩,
  ⟨some 73, none, .mv (.t 75)⟩,
  ⟨some 76, none, .ext (.t 73) 0⟩,
  ⟨some 77, none, .ext (.t 73) 1⟩,
  ⟨some 13, none, .mv (.t 76)⟩,
  ⟨some 14, none, .mv (.t 77)⟩]) (.seq (.rg [⟨some 78, none, .mv (.t 4)⟩,
  ⟨some 79, none, .bin .eql (.t 78) (.c (.str []))⟩,
  ⟨some 80, none, .mv (.t 79)⟩,
  ⟨some 81, some (80, false), .mv (.t 14)⟩,
  ⟨some 82, some (80, false), .mv (.t 81)⟩,
  ⟨some 83, some (82, true), .mv (.t 13)⟩,
  ⟨some 84, some (82, true), .mv (.t 3)⟩,
  ⟨some 85, some (82, true), .callP 13 [.t 83, .t 84]⟩,
  ⟨some 86, some (80, false), .pick (.t 82) (.t 85) (.c (.bool false))⟩,
  ⟨some 87, none, .pick (.t 80) (.c (.bool true)) (.t 86)⟩,
  ⟨some 2, none, .mv (.t 87)⟩]) (.ret))))))))))))), [.t 2]⟩
def isC : List FuncId := [44, 28, 29, 16, 17, 18, 6, 4, 55, 39, 40, 41, 25, 26, 12, 36, 37, 22, 21, 8, 73, 54, 38, 24, 23, 9, 11, 13]
def rw (f : FuncId) : List Tmp := if f = 8 then List.range 64 else []
def fr (f : FuncId) : Bool := false
def dp (f : FuncId) : Nat := 0
noncomputable def EE (cs : List (FuncId × (List AV → Option AV))) : Env := mkE Tryd.prog isC rw fr dp cs
theorem st_impl_in_ : stF (EE []) 44 = some (s_impl_in) := by kernel_rfl
theorem st_impl_in (cs) : stF (EE cs) 44 = some (s_impl_in) := (stF_mk cs [] 44).trans st_impl_in_
theorem st_impl_ValOk_ : stF (EE []) 28 = some (s_impl_ValOk) := by kernel_rfl
theorem st_impl_ValOk (cs) : stF (EE cs) 28 = some (s_impl_ValOk) := (stF_mk cs [] 28).trans st_impl_ValOk_
theorem st_impl_ValText_ : stF (EE []) 16 = some (s_impl_ValText) := by kernel_rfl
theorem st_impl_ValText (cs) : stF (EE cs) 16 = some (s_impl_ValText) := (stF_mk cs [] 16).trans st_impl_ValText_
theorem st_impl_RowText_ : stF (EE []) 6 = some (s_impl_RowText) := by kernel_rfl
theorem st_impl_RowText (cs) : stF (EE cs) 6 = some (s_impl_RowText) := (stF_mk cs [] 6).trans st_impl_RowText_
theorem st_laws_big_ : stF (EE []) 4 = some (s_laws_big) := by kernel_rfl
theorem st_laws_big (cs) : stF (EE cs) 4 = some (s_laws_big) := (stF_mk cs [] 4).trans st_laws_big_
theorem st_spec_l1New_ : stF (EE []) 14 = some (s_spec_l1New) := by kernel_rfl
theorem st_spec_l1New (cs) : stF (EE cs) 14 = some (s_spec_l1New) := (stF_mk cs [] 14).trans st_spec_l1New_
theorem st_spec_l1Byte_ : stF (EE []) 34 = some (s_spec_l1Byte) := by kernel_rfl
theorem st_spec_l1Byte (cs) : stF (EE cs) 34 = some (s_spec_l1Byte) := (stF_mk cs [] 34).trans st_spec_l1Byte_
theorem st_spec_l1Below_ : stF (EE []) 19 = some (s_spec_l1Below) := by kernel_rfl
theorem st_spec_l1Below (cs) : stF (EE cs) 19 = some (s_spec_l1Below) := (stF_mk cs [] 19).trans st_spec_l1Below_
theorem st_spec_l1Once_ : stF (EE []) 74 = some (s_spec_l1Once) := by kernel_rfl
theorem st_spec_l1Once (cs) : stF (EE cs) 74 = some (s_spec_l1Once) := (stF_mk cs [] 74).trans st_spec_l1Once_
theorem st_spec_l1Int_ : stF (EE []) 57 = some (s_spec_l1Int) := by kernel_rfl
theorem st_spec_l1Int (cs) : stF (EE cs) 57 = some (s_spec_l1Int) := (stF_mk cs [] 57).trans st_spec_l1Int_
theorem st_spec_l1Str_ : stF (EE []) 20 = some (s_spec_l1Str) := by kernel_rfl
theorem st_spec_l1Str (cs) : stF (EE cs) 20 = some (s_spec_l1Str) := (stF_mk cs [] 20).trans st_spec_l1Str_
theorem st_spec_l2Text_ : stF (EE []) 75 = some (s_spec_l2Text) := by kernel_rfl
theorem st_spec_l2Text (cs) : stF (EE cs) 75 = some (s_spec_l2Text) := (stF_mk cs [] 75).trans st_spec_l2Text_
theorem st_spec_l2Of_ : stF (EE []) 56 = some (s_spec_l2Of) := by kernel_rfl
theorem st_spec_l2Of (cs) : stF (EE cs) 56 = some (s_spec_l2Of) := (stF_mk cs [] 56).trans st_spec_l2Of_
theorem st_spec_l2Draw_ : stF (EE []) 42 = some (s_spec_l2Draw) := by kernel_rfl
theorem st_spec_l2Draw (cs) : stF (EE cs) 42 = some (s_spec_l2Draw) := (stF_mk cs [] 42).trans st_spec_l2Draw_
theorem st_spec_l1Num_ : stF (EE []) 43 = some (s_spec_l1Num) := by kernel_rfl
theorem st_spec_l1Num (cs) : stF (EE cs) 43 = some (s_spec_l1Num) := (stF_mk cs [] 43).trans st_spec_l1Num_
theorem st_spec_l2Any_ : stF (EE []) 27 = some (s_spec_l2Any) := by kernel_rfl
theorem st_spec_l2Any (cs) : stF (EE cs) 27 = some (s_spec_l2Any) := (stF_mk cs [] 27).trans st_spec_l2Any_
theorem st_spec_l28Row_ : stF (EE []) 15 = some (s_spec_l28Row) := by kernel_rfl
theorem st_spec_l28Row (cs) : stF (EE cs) 15 = some (s_spec_l28Row) := (stF_mk cs [] 15).trans st_spec_l28Row_
theorem st_spec_DrawRowText_ : stF (EE []) 5 = some (s_spec_DrawRowText) := by kernel_rfl
theorem st_spec_DrawRowText (cs) : stF (EE cs) 5 = some (s_spec_DrawRowText) := (stF_mk cs [] 5).trans st_spec_DrawRowText_
theorem st_spec_l1In_ : stF (EE []) 55 = some (s_spec_l1In) := by kernel_rfl
theorem st_spec_l1In (cs) : stF (EE cs) 55 = some (s_spec_l1In) := (stF_mk cs [] 55).trans st_spec_l1In_
theorem st_spec_ValOk_ : stF (EE []) 39 = some (s_spec_ValOk) := by kernel_rfl
theorem st_spec_ValOk (cs) : stF (EE cs) 39 = some (s_spec_ValOk) := (stF_mk cs [] 39).trans st_spec_ValOk_
theorem st_spec_l2Plain_ : stF (EE []) 40 = some (s_spec_l2Plain) := by kernel_rfl
theorem st_spec_l2Plain (cs) : stF (EE cs) 40 = some (s_spec_l2Plain) := (stF_mk cs [] 40).trans st_spec_l2Plain_
theorem st_spec_l2Num_ : stF (EE []) 41 = some (s_spec_l2Num) := by kernel_rfl
theorem st_spec_l2Num (cs) : stF (EE cs) 41 = some (s_spec_l2Num) := (stF_mk cs [] 41).trans st_spec_l2Num_
theorem st_spec_ValText_ : stF (EE []) 25 = some (s_spec_ValText) := by kernel_rfl
theorem st_spec_ValText (cs) : stF (EE cs) 25 = some (s_spec_ValText) := (stF_mk cs [] 25).trans st_spec_ValText_
theorem st_spec_l28Blank_ : stF (EE []) 26 = some (s_spec_l28Blank) := by kernel_rfl
theorem st_spec_l28Blank (cs) : stF (EE cs) 26 = some (s_spec_l28Blank) := (stF_mk cs [] 26).trans st_spec_l28Blank_
theorem st_spec_RowText_ : stF (EE []) 12 = some (s_spec_RowText) := by kernel_rfl
theorem st_spec_RowText (cs) : stF (EE cs) 12 = some (s_spec_RowText) := (stF_mk cs [] 12).trans st_spec_RowText_
theorem st_spec_DrawParseRow_ : stF (EE []) 7 = some (s_spec_DrawParseRow) := by kernel_rfl
theorem st_spec_DrawParseRow (cs) : stF (EE cs) 7 = some (s_spec_DrawParseRow) := (stF_mk cs [] 7).trans st_spec_DrawParseRow_
theorem st_impl_ParseVal_ : stF (EE []) 22 = some (s_impl_ParseVal) := by kernel_rfl
theorem st_impl_ParseVal (cs) : stF (EE cs) 22 = some (s_impl_ParseVal) := (stF_mk cs [] 22).trans st_impl_ParseVal_
theorem st_impl_ParseRow_ : stF (EE []) 8 = some (s_impl_ParseRow) := by kernel_rfl
theorem st_impl_ParseRow (cs) : stF (EE cs) 8 = some (s_impl_ParseRow) := (stF_mk cs [] 8).trans st_impl_ParseRow_
theorem st_spec_l2Digit_ : stF (EE []) 73 = some (s_spec_l2Digit) := by kernel_rfl
theorem st_spec_l2Digit (cs) : stF (EE cs) 73 = some (s_spec_l2Digit) := (stF_mk cs [] 73).trans st_spec_l2Digit_
theorem st_spec_l2Parse_ : stF (EE []) 54 = some (s_spec_l2Parse) := by kernel_rfl
theorem st_spec_l2Parse (cs) : stF (EE cs) 54 = some (s_spec_l2Parse) := (stF_mk cs [] 54).trans st_spec_l2Parse_
theorem st_spec_l2Val_ : stF (EE []) 38 = some (s_spec_l2Val) := by kernel_rfl
theorem st_spec_l2Val (cs) : stF (EE cs) 38 = some (s_spec_l2Val) := (stF_mk cs [] 38).trans st_spec_l2Val_
theorem st_spec_ParseVal_ : stF (EE []) 24 = some (s_spec_ParseVal) := by kernel_rfl
theorem st_spec_ParseVal (cs) : stF (EE cs) 24 = some (s_spec_ParseVal) := (stF_mk cs [] 24).trans st_spec_ParseVal_
theorem st_spec_l28Split_ : stF (EE []) 23 = some (s_spec_l28Split) := by kernel_rfl
theorem st_spec_l28Split (cs) : stF (EE cs) 23 = some (s_spec_l28Split) := (stF_mk cs [] 23).trans st_spec_l28Split_
theorem st_spec_ParseRow_ : stF (EE []) 9 = some (s_spec_ParseRow) := by kernel_rfl
theorem st_spec_ParseRow (cs) : stF (EE cs) 9 = some (s_spec_ParseRow) := (stF_mk cs [] 9).trans st_spec_ParseRow_
theorem st_spec_DrawRowsText_ : stF (EE []) 10 = some (s_spec_DrawRowsText) := by kernel_rfl
theorem st_spec_DrawRowsText (cs) : stF (EE cs) 10 = some (s_spec_DrawRowsText) := (stF_mk cs [] 10).trans st_spec_DrawRowsText_
theorem st_impl_RowsText_ : stF (EE []) 11 = some (s_impl_RowsText) := by kernel_rfl
theorem st_impl_RowsText (cs) : stF (EE cs) 11 = some (s_impl_RowsText) := (stF_mk cs [] 11).trans st_impl_RowsText_
theorem st_laws_sameVals_ : stF (EE []) 13 = some (s_laws_sameVals) := by kernel_rfl
theorem st_laws_sameVals (cs) : stF (EE cs) 13 = some (s_laws_sameVals) := (stF_mk cs [] 13).trans st_laws_sameVals_
theorem st_laws_FnRowTexts_ : stF (EE []) 3 = some (s_laws_FnRowTexts) := by kernel_rfl
theorem st_laws_FnRowTexts (cs) : stF (EE cs) 3 = some (s_laws_FnRowTexts) := (stF_mk cs [] 3).trans st_laws_FnRowTexts_
theorem entered : entB Tryd.prog isC = true := by kernel_rfl
end Go.Proofs.YtbpafgbehkphoaaDoor.Rw
/- The types of FnRowTexts's arguments, as trees. -/
namespace Go.Proofs.YtbpafgbehkphoaaDoor.Rw
open Go Go.RowKit Go.Ev
set_option linter.unusedSimpArgs false
set_option linter.unusedVariables false
set_option maxHeartbeats 1600000
structure TVal where
  fK : Int
  fN : Int
  fS : List UInt8
def TVal.row (v : TVal) : List AV := [.int .i64 v.fK, .int .i64 v.fN, .str v.fS]
theorem TVal.inj (a b : TVal) (h : a.row = b.row) : a = b := by
  obtain ⟨aK, aN, aS⟩ := a
  obtain ⟨bK, bN, bS⟩ := b
  simp only [TVal.row, List.cons.injEq, AV.int.injEq, AV.str.injEq, AV.bool.injEq, AV.imm.injEq, true_and, and_true] at h
  obtain ⟨h0, h1, h2⟩ := h
  subst h0
  subst h1
  subst h2
  rfl
def tVal : TD TVal where
  row := TVal.row
  enc v := .agg v.row
  sz := 3
  one := false
  cost v := v.fS.length
  fits v := v.fS.length ≤ 9223372036854775807
  ok v := intT.ok v.fK ∧ intT.ok v.fN
  len _ := rfl
  pos := by decide
  inj := TVal.inj
  enc1 h := by cases h
  encA _ _ := rfl
  frz v c hc := by
    simp only [TVal.row, List.mem_cons, List.not_mem_nil, or_false] at hc
    rcases hc with rfl | rfl | rfl <;> exact ⟨rfl, rfl⟩
  fit v h := by omega
  dep := 0
  okd v c hc := by
    simp only [TVal.row, List.mem_cons, List.not_mem_nil, or_false] at hc
    rcases hc with rfl | rfl | rfl
    · exact okV.mono (n := 0) rfl (Nat.zero_le _)
    · exact okV.mono (n := 0) rfl (Nat.zero_le _)
    · exact okV.mono (n := 0) rfl (Nat.zero_le _)
theorem tVal_enc (v : TVal) : tVal.enc v = .agg v.row := rfl
theorem tVal_row : tVal.row = TVal.row := rfl
attribute [go_sem] tVal_enc tVal_row
structure TCol where
  fName : List UInt8
  fType : Int
  fNull : Bool
def TCol.row (v : TCol) : List AV := [.str v.fName, .int .i64 v.fType, .bool v.fNull]
theorem TCol.inj (a b : TCol) (h : a.row = b.row) : a = b := by
  obtain ⟨aName, aType, aNull⟩ := a
  obtain ⟨bName, bType, bNull⟩ := b
  simp only [TCol.row, List.cons.injEq, AV.int.injEq, AV.str.injEq, AV.bool.injEq, AV.imm.injEq, true_and, and_true] at h
  obtain ⟨h0, h1, h2⟩ := h
  subst h0
  subst h1
  subst h2
  rfl
def tCol : TD TCol where
  row := TCol.row
  enc v := .agg v.row
  sz := 3
  one := false
  cost v := v.fName.length
  fits v := v.fName.length ≤ 9223372036854775807
  ok v := intT.ok v.fType
  len _ := rfl
  pos := by decide
  inj := TCol.inj
  enc1 h := by cases h
  encA _ _ := rfl
  frz v c hc := by
    simp only [TCol.row, List.mem_cons, List.not_mem_nil, or_false] at hc
    rcases hc with rfl | rfl | rfl <;> exact ⟨rfl, rfl⟩
  fit v h := by omega
  dep := 0
  okd v c hc := by
    simp only [TCol.row, List.mem_cons, List.not_mem_nil, or_false] at hc
    rcases hc with rfl | rfl | rfl
    · exact okV.mono (n := 0) rfl (Nat.zero_le _)
    · exact okV.mono (n := 0) rfl (Nat.zero_le _)
    · exact okV.mono (n := 0) rfl (Nat.zero_le _)
theorem tCol_enc (v : TCol) : tCol.enc v = .agg v.row := rfl
theorem tCol_row : tCol.row = TCol.row := rfl
attribute [go_sem] tCol_enc tCol_row
structure TBy where
  fCol : Int
  fDesc : Bool
def TBy.row (v : TBy) : List AV := [.int .i64 v.fCol, .bool v.fDesc]
theorem TBy.inj (a b : TBy) (h : a.row = b.row) : a = b := by
  obtain ⟨aCol, aDesc⟩ := a
  obtain ⟨bCol, bDesc⟩ := b
  simp only [TBy.row, List.cons.injEq, AV.int.injEq, AV.str.injEq, AV.bool.injEq, AV.imm.injEq, true_and, and_true] at h
  obtain ⟨h0, h1⟩ := h
  subst h0
  subst h1
  rfl
def tBy : TD TBy where
  row := TBy.row
  enc v := .agg v.row
  sz := 2
  one := false
  cost _ := 0
  fits _ := True
  ok v := intT.ok v.fCol
  len _ := rfl
  pos := by decide
  inj := TBy.inj
  enc1 h := by cases h
  encA _ _ := rfl
  frz v c hc := by
    simp only [TBy.row, List.mem_cons, List.not_mem_nil, or_false] at hc
    rcases hc with rfl | rfl <;> exact ⟨rfl, rfl⟩
  fit _ _ := trivial
  dep := 0
  okd v c hc := by
    simp only [TBy.row, List.mem_cons, List.not_mem_nil, or_false] at hc
    rcases hc with rfl | rfl
    · exact okV.mono (n := 0) rfl (Nat.zero_le _)
    · exact okV.mono (n := 0) rfl (Nat.zero_le _)
theorem tBy_enc (v : TBy) : tBy.enc v = .agg v.row := rfl
theorem tBy_row : tBy.row = TBy.row := rfl
attribute [go_sem] tBy_enc tBy_row
structure TIndex where
  fName : List UInt8
  fUnique : Bool
  fParts : List (TBy)
def TIndex.row (v : TIndex) : List AV := [.str v.fName, .bool v.fUnique, .imm (v.fParts.map TBy.row)]
theorem TIndex.inj (a b : TIndex) (h : a.row = b.row) : a = b := by
  obtain ⟨aName, aUnique, aParts⟩ := a
  obtain ⟨bName, bUnique, bParts⟩ := b
  simp only [TIndex.row, List.cons.injEq, AV.int.injEq, AV.str.injEq, AV.bool.injEq, AV.imm.injEq, true_and, and_true] at h
  obtain ⟨h0, h1, h2⟩ := h
  have h2 := TD.map_inj tBy h2
  subst h0
  subst h1
  subst h2
  rfl
def tIndex : TD TIndex where
  row := TIndex.row
  enc v := .agg v.row
  sz := 3
  one := false
  cost v := v.fName.length + (sliceT tBy).cost v.fParts
  fits v := v.fName.length ≤ 9223372036854775807 ∧ (sliceT tBy).fits v.fParts
  ok v := (sliceT tBy).ok v.fParts
  len _ := rfl
  pos := by decide
  inj := TIndex.inj
  enc1 h := by cases h
  encA _ _ := rfl
  frz v c hc := by
    simp only [TIndex.row, List.mem_cons, List.not_mem_nil, or_false] at hc
    rcases hc with rfl | rfl | rfl <;> exact ⟨rfl, rfl⟩
  fit v h := ⟨by omega, (sliceT tBy).fit _ (by omega)⟩
  dep := 1
  okd v c hc := by
    simp only [TIndex.row, List.mem_cons, List.not_mem_nil, or_false] at hc
    rcases hc with rfl | rfl | rfl
    · exact okV.mono (n := 0) rfl (Nat.zero_le _)
    · exact okV.mono (n := 0) rfl (Nat.zero_le _)
    · exact (((sliceT tBy)).okd v.fParts _ (by exact List.mem_singleton.2 rfl)).mono (by decide)
theorem tIndex_enc (v : TIndex) : tIndex.enc v = .agg v.row := rfl
theorem tIndex_row : tIndex.row = TIndex.row := rfl
attribute [go_sem] tIndex_enc tIndex_row
structure TDef where
  fName : List UInt8
  fCols : List (TCol)
  fPrimary : List (TBy)
  fIndexes : List (TIndex)
def TDef.row (v : TDef) : List AV := [.str v.fName, .imm (v.fCols.map TCol.row), .imm (v.fPrimary.map TBy.row), .imm (v.fIndexes.map TIndex.row)]
theorem TDef.inj (a b : TDef) (h : a.row = b.row) : a = b := by
  obtain ⟨aName, aCols, aPrimary, aIndexes⟩ := a
  obtain ⟨bName, bCols, bPrimary, bIndexes⟩ := b
  simp only [TDef.row, List.cons.injEq, AV.int.injEq, AV.str.injEq, AV.bool.injEq, AV.imm.injEq, true_and, and_true] at h
  obtain ⟨h0, h1, h2, h3⟩ := h
  have h1 := TD.map_inj tCol h1
  have h2 := TD.map_inj tBy h2
  have h3 := TD.map_inj tIndex h3
  subst h0
  subst h1
  subst h2
  subst h3
  rfl
def tDef : TD TDef where
  row := TDef.row
  enc v := .agg v.row
  sz := 4
  one := false
  cost v := v.fName.length + (sliceT tCol).cost v.fCols + (sliceT tBy).cost v.fPrimary + (sliceT tIndex).cost v.fIndexes
  fits v := v.fName.length ≤ 9223372036854775807 ∧ (sliceT tCol).fits v.fCols ∧ (sliceT tBy).fits v.fPrimary ∧ (sliceT tIndex).fits v.fIndexes
  ok v := (sliceT tCol).ok v.fCols ∧ (sliceT tBy).ok v.fPrimary ∧ (sliceT tIndex).ok v.fIndexes
  len _ := rfl
  pos := by decide
  inj := TDef.inj
  enc1 h := by cases h
  encA _ _ := rfl
  frz v c hc := by
    simp only [TDef.row, List.mem_cons, List.not_mem_nil, or_false] at hc
    rcases hc with rfl | rfl | rfl | rfl <;> exact ⟨rfl, rfl⟩
  fit v h := ⟨by omega, (sliceT tCol).fit _ (by omega), (sliceT tBy).fit _ (by omega), (sliceT tIndex).fit _ (by omega)⟩
  dep := 2
  okd v c hc := by
    simp only [TDef.row, List.mem_cons, List.not_mem_nil, or_false] at hc
    rcases hc with rfl | rfl | rfl | rfl
    · exact okV.mono (n := 0) rfl (Nat.zero_le _)
    · exact (((sliceT tCol)).okd v.fCols _ (by exact List.mem_singleton.2 rfl)).mono (by decide)
    · exact (((sliceT tBy)).okd v.fPrimary _ (by exact List.mem_singleton.2 rfl)).mono (by decide)
    · exact (((sliceT tIndex)).okd v.fIndexes _ (by exact List.mem_singleton.2 rfl)).mono (by decide)
theorem tDef_enc (v : TDef) : tDef.enc v = .agg v.row := rfl
theorem tDef_row : tDef.row = TDef.row := rfl
attribute [go_sem] tDef_enc tDef_row
end Go.Proofs.YtbpafgbehkphoaaDoor.Rw
/- What the functions that FnRowTexts calls answer: part 1. -/
namespace Go.Proofs.YtbpafgbehkphoaaDoor.Rw
open Go Go.RowKit Go.Ev
set_option linter.unusedSimpArgs false
set_option linter.unusedVariables false
set_option maxHeartbeats 1600000
def inR (x a b : Int) : Bool := decide (a ≤ x) && decide (x ≤ b)
theorem ev_impl_in (cs) (x a b : Int) : ∃ k n, out (EE cs) k n 44 [.int .i64 x, .int .i64 a, .int .i64 b] = some (.bool (inR x a b)) := by
  refine out_K (n := 0) (st_impl_in cs) ?_
  by_cases h1 : a ≤ x
  · simp only [go_sem, kSt_ptr, Nat.reduceBEq, Nat.reduceAdd, Nat.reduceEqDiff, Nat.reduceLeDiff, Nat.reduceSub, reduceIte, Int.reduceBEq, Int.reduceEq, Int.reduceLT, Int.reduceLE, Int.reduceGT, Int.reduceGE, Int.reduceNe, Int.reduceBNe, s_impl_in, h1, inR]
  · simp only [go_sem, kSt_ptr, Nat.reduceBEq, Nat.reduceAdd, Nat.reduceEqDiff, Nat.reduceLeDiff, Nat.reduceSub, reduceIte, Int.reduceBEq, Int.reduceEq, Int.reduceLT, Int.reduceLE, Int.reduceGT, Int.reduceGE, Int.reduceNe, Int.reduceBNe, s_impl_in, h1, inR]
noncomputable def C_impl_in := ct (fun a : Int × Int × Int => [.int .i64 a.1, .int .i64 a.2.1, .int .i64 a.2.2]) (fun _ => True) .bool fun a => inR a.1 a.2.1 a.2.2
theorem C_impl_in_eq (x a b : Int) : C_impl_in [.int .i64 x, .int .i64 a, .int .i64 b] = some (.bool (inR x a b)) := by
  unfold C_impl_in
  exact ct_eq (a := (x, a, b)) (fun a b h => by
    simp only [List.cons.injEq, AV.int.injEq, and_true, true_and] at h
    exact Prod.ext h.1 (Prod.ext h.2.1 h.2.2)) trivial
theorem ok_impl_in {WI} (hs : Stable WI) (cs) (hT : TOK (EE cs) WI) : PureOK Tryd.prog WI 44 C_impl_in :=
  pure_out hT hs (by rw [st_impl_in]; rfl) fun a _ => ev_impl_in cs a.1 a.2.1 a.2.2
def valOk (v : TVal) : Bool :=
  if v.fK = 0 then v.fN == 0 && v.fS == [] else if v.fK = 1 then inR v.fN (-2147483648) 2147483647 && v.fS == [] else if v.fK = 2 then inR v.fN (-1000000000000000) 1000000000000000 && v.fS == []
  else if v.fK = 3 then decide ((v.fS.length : Int) ≤ 30) && v.fN == 0 else if v.fK = 4 then inR v.fN 0 1 && v.fS == [] else false
theorem valOk_rng {v : TVal} (h : valOk v = true) (hk : v.fK = 1 ∨ v.fK = 2) : -1000000000000000 ≤ v.fN ∧ v.fN ≤ 1000000000000000 := by
  rcases hk with hk | hk <;> simp [valOk, hk, inR] at h <;> omega
theorem valOk_len {v : TVal} (h : valOk v = true) (hk : v.fK = 3) : v.fS.length ≤ 30 := by
  simp [valOk, hk] at h
  omega
theorem valOk_str {v : TVal} (h : valOk v = true) (hk : v.fK ≠ 3) : v.fS = [] := by
  by_cases h0 : v.fK = 0
  · simp [valOk, h0] at h; exact h.2
  by_cases h1 : v.fK = 1
  · simp [valOk, h1] at h; exact h.2
  by_cases h2 : v.fK = 2
  · simp [valOk, h2] at h; exact h.2
  by_cases h4 : v.fK = 4
  · simp [valOk, h4] at h; exact h.2
  · simp [valOk, h0, h1, h2, hk, h4] at h
theorem ev_impl_ValOk (cs) (hT : (EE cs).T 44 = some C_impl_in) (v : TVal) : ∃ k n, out (EE cs) k n 28 [.agg v.row] = some (.bool (valOk v)) := by
  refine out_K (n := 0) (st_impl_ValOk cs) ?_
  by_cases h0 : v.fK = 0
  · by_cases hn : v.fN = 0
    · simp only [go_sem, kSt_ptr, Nat.reduceBEq, Nat.reduceAdd, Nat.reduceEqDiff, Nat.reduceLeDiff, Nat.reduceSub, reduceIte, Int.reduceBEq, Int.reduceEq, Int.reduceLT, Int.reduceLE, Int.reduceGT, Int.reduceGE, Int.reduceNe, Int.reduceBNe, s_impl_ValOk, TVal.row, h0, hn, valOk]
    · simp only [go_sem, kSt_ptr, Nat.reduceBEq, Nat.reduceAdd, Nat.reduceEqDiff, Nat.reduceLeDiff, Nat.reduceSub, reduceIte, Int.reduceBEq, Int.reduceEq, Int.reduceLT, Int.reduceLE, Int.reduceGT, Int.reduceGE, Int.reduceNe, Int.reduceBNe, s_impl_ValOk, TVal.row, h0, hn, beqF hn, valOk]
  by_cases h1 : v.fK = 1
  · cases hn : inR v.fN (-2147483648) 2147483647
    · simp only [go_sem, kSt_ptr, Nat.reduceBEq, Nat.reduceAdd, Nat.reduceEqDiff, Nat.reduceLeDiff, Nat.reduceSub, reduceIte, Int.reduceBEq, Int.reduceEq, Int.reduceLT, Int.reduceLE, Int.reduceGT, Int.reduceGE, Int.reduceNe, Int.reduceBNe, s_impl_ValOk, TVal.row, h1, hn, valOk, hT, C_impl_in_eq]
    · simp only [go_sem, kSt_ptr, Nat.reduceBEq, Nat.reduceAdd, Nat.reduceEqDiff, Nat.reduceLeDiff, Nat.reduceSub, reduceIte, Int.reduceBEq, Int.reduceEq, Int.reduceLT, Int.reduceLE, Int.reduceGT, Int.reduceGE, Int.reduceNe, Int.reduceBNe, s_impl_ValOk, TVal.row, h1, hn, valOk, hT, C_impl_in_eq]
  by_cases h2 : v.fK = 2
  · cases hn : inR v.fN (-1000000000000000) 1000000000000000
    · simp only [go_sem, kSt_ptr, Nat.reduceBEq, Nat.reduceAdd, Nat.reduceEqDiff, Nat.reduceLeDiff, Nat.reduceSub, reduceIte, Int.reduceBEq, Int.reduceEq, Int.reduceLT, Int.reduceLE, Int.reduceGT, Int.reduceGE, Int.reduceNe, Int.reduceBNe, s_impl_ValOk, TVal.row, h2, hn, valOk, hT, C_impl_in_eq]
    · simp only [go_sem, kSt_ptr, Nat.reduceBEq, Nat.reduceAdd, Nat.reduceEqDiff, Nat.reduceLeDiff, Nat.reduceSub, reduceIte, Int.reduceBEq, Int.reduceEq, Int.reduceLT, Int.reduceLE, Int.reduceGT, Int.reduceGE, Int.reduceNe, Int.reduceBNe, s_impl_ValOk, TVal.row, h2, hn, valOk, hT, C_impl_in_eq]
  by_cases h3 : v.fK = 3
  · by_cases hn : v.fN = 0
    · simp only [go_sem, kSt_ptr, Nat.reduceBEq, Nat.reduceAdd, Nat.reduceEqDiff, Nat.reduceLeDiff, Nat.reduceSub, reduceIte, Int.reduceBEq, Int.reduceEq, Int.reduceLT, Int.reduceLE, Int.reduceGT, Int.reduceGE, Int.reduceNe, Int.reduceBNe, s_impl_ValOk, TVal.row, h3, hn, valOk, hT, C_impl_in_eq]
    · simp only [go_sem, kSt_ptr, Nat.reduceBEq, Nat.reduceAdd, Nat.reduceEqDiff, Nat.reduceLeDiff, Nat.reduceSub, reduceIte, Int.reduceBEq, Int.reduceEq, Int.reduceLT, Int.reduceLE, Int.reduceGT, Int.reduceGE, Int.reduceNe, Int.reduceBNe, s_impl_ValOk, TVal.row, h3, hn, beqF hn, valOk, hT, C_impl_in_eq]
  by_cases h4 : v.fK = 4
  · cases hn : inR v.fN 0 1
    · simp only [go_sem, kSt_ptr, Nat.reduceBEq, Nat.reduceAdd, Nat.reduceEqDiff, Nat.reduceLeDiff, Nat.reduceSub, reduceIte, Int.reduceBEq, Int.reduceEq, Int.reduceLT, Int.reduceLE, Int.reduceGT, Int.reduceGE, Int.reduceNe, Int.reduceBNe, s_impl_ValOk, TVal.row, h4, hn, valOk, hT, C_impl_in_eq]
    · simp only [go_sem, kSt_ptr, Nat.reduceBEq, Nat.reduceAdd, Nat.reduceEqDiff, Nat.reduceLeDiff, Nat.reduceSub, reduceIte, Int.reduceBEq, Int.reduceEq, Int.reduceLT, Int.reduceLE, Int.reduceGT, Int.reduceGE, Int.reduceNe, Int.reduceBNe, s_impl_ValOk, TVal.row, h4, hn, valOk, hT, C_impl_in_eq]
  simp only [go_sem, kSt_ptr, Nat.reduceBEq, Nat.reduceAdd, Nat.reduceEqDiff, Nat.reduceLeDiff, Nat.reduceSub, reduceIte, Int.reduceBEq, Int.reduceEq, Int.reduceLT, Int.reduceLE, Int.reduceGT, Int.reduceGE, Int.reduceNe, Int.reduceBNe, s_impl_ValOk, TVal.row, h0, h1, h2, h3, h4, beqF h0, beqF h1, beqF h2, beqF h3, beqF h4, valOk, hT, C_impl_in_eq]
noncomputable def C_impl_ValOk := ct (fun a : TVal => [.agg a.row]) (fun _ => True) .bool valOk
theorem C_impl_ValOk_eq (k n : Int) (s : List UInt8) : C_impl_ValOk [.agg [.int .i64 k, .int .i64 n, .str s]] = some (.bool (valOk ⟨k, n, s⟩)) := by
  unfold C_impl_ValOk
  exact ct_eq (a := (⟨k, n, s⟩ : TVal)) (fun a b h => by
    simp only [List.cons.injEq, AV.agg.injEq, and_true] at h
    exact TVal.inj _ _ h) trivial
theorem ok_impl_ValOk {WI} (hs : Stable WI) (cs) (hT : TOK (EE cs) WI) (h : (EE cs).T 44 = some C_impl_in) : PureOK Tryd.prog WI 28 C_impl_ValOk := pure_out hT hs (by rw [st_impl_ValOk]; rfl) fun a _ => ev_impl_ValOk cs h a
noncomputable def C_strconv_Itoa := ct (fun a : Int => [.int .i64 a]) (fun a => -9223372036854775808 ≤ a ∧ a ≤ 9223372036854775807) .str Lib.itoa
theorem C_strconv_Itoa_eq (n : Int) (hn : -9223372036854775808 ≤ n ∧ n ≤ 9223372036854775807) : C_strconv_Itoa [.int .i64 n] = some (.str (Lib.itoa n)) := by
  unfold C_strconv_Itoa
  exact ct_eq (a := n) (fun a b h => by simpa using h) hn
theorem u8Id (b : UInt8) : IntKind.wrap .i64 (b.toNat : Int) = b.toNat := by
  have := b.toNat_lt
  exact wrapId (by omega) (by omega)
def plainB (b : UInt8) : Bool := inR b.toNat 32 126 && !((b.toNat : Int) == 39)
def valText (v : TVal) : List UInt8 :=
  if valOk v = false ∨ v.fS.all plainB = false then [] else
  if v.fK = 1 then 105 :: Lib.itoa v.fN else if v.fK = 2 then 110 :: Lib.itoa v.fN else if v.fK = 3 then 39 :: (v.fS ++ [39]) else if v.fK = 4 then (if v.fN = 1 then [121, 101, 115] else [110, 111]) else [110, 117, 108, 108]
theorem valText_len (v : TVal) : (valText v).length ≤ 40 := by
  unfold valText
  split
  · simp
  · rename_i h
    have hv : valOk v = true := by
      cases hv : valOk v
      · exact absurd (Or.inl hv) h
      · rfl
    split
    · rename_i h1
      have hr := valOk_rng hv (.inl h1)
      have := Lib.itoa_length_le v.fN (by omega) (by omega)
      simp; omega
    split
    · rename_i h2
      have hr := valOk_rng hv (.inr h2)
      have := Lib.itoa_length_le v.fN (by omega) (by omega)
      simp; omega
    split
    · rename_i h3
      have := valOk_len hv h3
      simp; omega
    split
    · split <;> simp
    · simp
theorem L_impl_ValText (cs) (kk nn : Int) (s : List UInt8) (hs : s.length ≤ 9223372036854775807) : ∀ (rest pre : List UInt8) (e : Ps) (h : Hp), s = pre ++ rest → h.hp 0 = some [.int .i64 kk, .int .i64 nn, .str s] → e 1 = .ptr 0 0 → e 3 = .int .i64 pre.length →
    WL (EE cs) s_impl_ValText_L0 e h fun x e' h' => h' = h ∧ if rest.all plainB = true then x = .exit 1 ∧ e' 1 = .ptr 0 0 else x = .ret ∧ e' 2 = .str []
  | [], pre, e, h, hl, hh, h1, h3 => by
    refine .step (.sim ?_)
    simp only [go_sem, kSt_ptr, Nat.reduceBEq, Nat.reduceAdd, Nat.reduceEqDiff, Nat.reduceLeDiff, Nat.reduceSub, reduceIte, Int.reduceBEq, Int.reduceEq, Int.reduceLT, Int.reduceLE, Int.reduceGT, Int.reduceGE, Int.reduceNe, Int.reduceBNe, s_impl_ValText_L0, hh, h1, h3, lt_end hl, List.all_nil]
  | b :: rest, pre, e, h, hl, hh, h1, h3 => by
    have hlt : pre.length < s.length := by rw [hl]; simp
    have hw : IntKind.wrap .i64 ((pre.length : Int) + 1) = (pre.length : Int) + 1 := wrapId (by omega) (by omega)
    have out : ∀ hp : plainB b = false, ∀ (Q : QS), (∀ e', e' 2 = .str [] → Q .ret e' h) → W (EE cs) s_impl_ValText_L0 e h Q := by
      intro hp Q hQ
      refine .mono (.sim (Q := fun x e1 h1 => x = .ret ∧ h1 = h ∧ e1 2 = .str []) ?_) ?_
      · by_cases c1 : (b.toNat : Int) < 32
        · simp only [go_sem, kSt_ptr, Nat.reduceBEq, Nat.reduceAdd, Nat.reduceEqDiff, Nat.reduceLeDiff, Nat.reduceSub, reduceIte, Int.reduceBEq, Int.reduceEq, Int.reduceLT, Int.reduceLE, Int.reduceGT, Int.reduceGE, Int.reduceNe, Int.reduceBNe, s_impl_ValText_L0, hh, h1, h3, lt_map hl, kIx_at hl, c1]
        by_cases c2 : (126 : Int) < b.toNat
        · simp only [go_sem, kSt_ptr, Nat.reduceBEq, Nat.reduceAdd, Nat.reduceEqDiff, Nat.reduceLeDiff, Nat.reduceSub, reduceIte, Int.reduceBEq, Int.reduceEq, Int.reduceLT, Int.reduceLE, Int.reduceGT, Int.reduceGE, Int.reduceNe, Int.reduceBNe, s_impl_ValText_L0, hh, h1, h3, lt_map hl, kIx_at hl, c1, c2]
        by_cases hb : (b.toNat : Int) = 39
        · have hbe : ((b.toNat : Int) == 39) = true := by simpa using hb
          simp only [go_sem, kSt_ptr, Nat.reduceBEq, Nat.reduceAdd, Nat.reduceEqDiff, Nat.reduceLeDiff, Nat.reduceSub, reduceIte, Int.reduceBEq, Int.reduceEq, Int.reduceLT, Int.reduceLE, Int.reduceGT, Int.reduceGE, Int.reduceNe, Int.reduceBNe, s_impl_ValText_L0, hh, h1, h3, lt_map hl, kIx_at hl, c1, c2, hbe]
        · exact absurd hp (by simp only [plainB, inR, beqF hb]; simp; omega)
      · rintro _ e1 _ ⟨rfl, rfl, h2⟩
        exact hQ e1 h2
    cases hp : plainB b
    · refine .step (out hp _ fun e' h2 => ?_)
      simp [hp, h2]
    · have hp' := hp
      simp only [plainB, inR, Bool.and_eq_true, Bool.not_eq_true', decide_eq_true_eq] at hp
      have c1 : ¬ (b.toNat : Int) < 32 := by omega
      have c2 : ¬ (126 : Int) < b.toNat := by omega
      refine .step (.mono (.sim (Q := fun x e1 h1 => x = .norm ∧ h1 = h ∧ e1 1 = .ptr 0 0 ∧ e1 3 = .int .i64 ((pre.length : Int) + 1)) ?_) ?_)
      · simp only [go_sem, kSt_ptr, Nat.reduceBEq, Nat.reduceAdd, Nat.reduceEqDiff, Nat.reduceLeDiff, Nat.reduceSub, reduceIte, Int.reduceBEq, Int.reduceEq, Int.reduceLT, Int.reduceLE, Int.reduceGT, Int.reduceGE, Int.reduceNe, Int.reduceBNe, s_impl_ValText_L0, hh, h1, h3, lt_map hl, kIx_at hl, c1, c2, hp.2, hw]
      · rintro _ e1 _ ⟨rfl, rfl, he1, he3⟩
        refine (L_impl_ValText cs kk nn s hs rest (pre ++ [b]) e1 _ (by rw [hl]; simp) hh he1 (by rw [he3]; simp)).mono ?_
        simp only [List.all_cons, hp', Bool.true_and]
        exact fun _ _ _ h => h
theorem ev_impl_ValText (cs) (hT56 : (EE cs).T 28 = some C_impl_ValOk) (hT57 : (EE cs).T 29 = some C_strconv_Itoa) (v : TVal) (hs : v.fS.length ≤ 9223372036854775807) : ∃ k n, out (EE cs) k n 16 [.agg v.row] = some (.str (valText v)) := by
  refine out_W (n := 0) (st_impl_ValText cs) ?_
  obtain ⟨k, n, s⟩ := v
  cases hv : valOk ⟨k, n, s⟩
  · refine .sim ?_
    simp only [go_sem, kSt_ptr, Nat.reduceBEq, Nat.reduceAdd, Nat.reduceEqDiff, Nat.reduceLeDiff, Nat.reduceSub, reduceIte, Int.reduceBEq, Int.reduceEq, Int.reduceLT, Int.reduceLE, Int.reduceGT, Int.reduceGE, Int.reduceNe, Int.reduceBNe, s_impl_ValText, TVal.row, hT56, C_impl_ValOk_eq, hv, valText, true_or]
  by_cases h3 : k = 3
  · subst h3
    have hl := valOk_len hv rfl
    simp only at hl
    have hc : ∀ h, kBin .add (.str [39]) (.str s) h = some (.str (39 :: s), h) := fun h => kCat (by simp; omega)
    have hc2 : ∀ h, kBin .add (.str (39 :: s)) (.str [39]) h = some (.str (39 :: (s ++ [39])), h) := fun h => kCat (by simp; omega)
    show W _ (.seq _ (.seq _ (.seq _ (.seq (.seq _ (.blk 1 (.loop s_impl_ValText_L0))) _)))) _ _ _
    refine .re (.re (.cut (M := fun e1 h1 => h1.hp 0 = some [.int .i64 3, .int .i64 n, .str s] ∧ e1 1 = .ptr 0 0) (.sim (by simp only [go_sem, kSt_ptr, Nat.reduceBEq, Nat.reduceAdd, Nat.reduceEqDiff, Nat.reduceLeDiff, Nat.reduceSub, reduceIte, Int.reduceBEq, Int.reduceEq, Int.reduceLT, Int.reduceLE, Int.reduceGT, Int.reduceGE, Int.reduceNe, Int.reduceBNe, TVal.row, hT56, C_impl_ValOk_eq, hv])) ?_))
    rintro e1 h1 ⟨hh, k1⟩
    refine .seq (.cut (M := fun e2 h2 => h2.hp 0 = some [.int .i64 3, .int .i64 n, .str s] ∧ e2 1 = .ptr 0 0 ∧ e2 3 = .int .i64 0) (.sim (by simp only [go_sem, kSt_ptr, Nat.reduceBEq, Nat.reduceAdd, Nat.reduceEqDiff, Nat.reduceLeDiff, Nat.reduceSub, reduceIte, Int.reduceBEq, Int.reduceEq, Int.reduceLT, Int.reduceLE, Int.reduceGT, Int.reduceGE, Int.reduceNe, Int.reduceBNe, k1, hh])) ?_)
    rintro e2 h2 ⟨hh, k1, k3⟩
    refine .blk (.loop ((L_impl_ValText cs 3 n s hs s [] e2 h2 rfl hh k1 k3).mono ?_))
    rintro x e' h' ⟨rfl, j2⟩
    split at j2
    · rename_i hz
      obtain ⟨rfl, j3⟩ := j2
      rw [outOf_exit]
      refine .sim ?_
      simp only [go_sem, kSt_ptr, Nat.reduceBEq, Nat.reduceAdd, Nat.reduceEqDiff, Nat.reduceLeDiff, Nat.reduceSub, reduceIte, Int.reduceBEq, Int.reduceEq, Int.reduceLT, Int.reduceLE, Int.reduceGT, Int.reduceGE, Int.reduceNe, Int.reduceBNe, s_impl_ValText, hh, j3, hc, hc2, hv, hz, valText, Bool.true_eq_false, or_self]
    · rename_i hz
      have hz' : s.all plainB = false := by simpa using hz
      obtain ⟨rfl, j3⟩ := j2
      simp only [go_sem, kSt_ptr, Nat.reduceBEq, Nat.reduceAdd, Nat.reduceEqDiff, Nat.reduceLeDiff, Nat.reduceSub, reduceIte, Int.reduceBEq, Int.reduceEq, Int.reduceLT, Int.reduceLE, Int.reduceGT, Int.reduceGE, Int.reduceNe, Int.reduceBNe, s_impl_ValText, j3, hz', valText, or_true]
  have hs0 := valOk_str hv h3
  simp only at hs0
  subst hs0
  refine .sim ?_
  by_cases h0 : k = 0
  · subst h0
    simp only [go_sem, kSt_ptr, Nat.reduceBEq, Nat.reduceAdd, Nat.reduceEqDiff, Nat.reduceLeDiff, Nat.reduceSub, reduceIte, Int.reduceBEq, Int.reduceEq, Int.reduceLT, Int.reduceLE, Int.reduceGT, Int.reduceGE, Int.reduceNe, Int.reduceBNe, s_impl_ValText, TVal.row, hT56, C_impl_ValOk_eq, hv, valText, Bool.true_eq_false, or_self, List.all_nil]
  by_cases h1 : k = 1
  · subst h1
    have hr := valOk_rng hv (.inl rfl)
    simp only at hr
    have c57 := C_strconv_Itoa_eq n (by omega)
    have hl := Lib.itoa_length_le n (by omega) (by omega)
    have hc : ∀ h, kBin .add (.str [105]) (.str (Lib.itoa n)) h = some (.str (105 :: Lib.itoa n), h) := fun h => kCat (by simp; omega)
    simp only [go_sem, kSt_ptr, Nat.reduceBEq, Nat.reduceAdd, Nat.reduceEqDiff, Nat.reduceLeDiff, Nat.reduceSub, reduceIte, Int.reduceBEq, Int.reduceEq, Int.reduceLT, Int.reduceLE, Int.reduceGT, Int.reduceGE, Int.reduceNe, Int.reduceBNe, s_impl_ValText, TVal.row, hT56, hT57, C_impl_ValOk_eq, c57, hv, hc, valText, Bool.true_eq_false, or_self, List.all_nil]
  by_cases h2 : k = 2
  · subst h2
    have hr := valOk_rng hv (.inr rfl)
    simp only at hr
    have c57 := C_strconv_Itoa_eq n (by omega)
    have hl := Lib.itoa_length_le n (by omega) (by omega)
    have hc : ∀ h, kBin .add (.str [110]) (.str (Lib.itoa n)) h = some (.str (110 :: Lib.itoa n), h) := fun h => kCat (by simp; omega)
    simp only [go_sem, kSt_ptr, Nat.reduceBEq, Nat.reduceAdd, Nat.reduceEqDiff, Nat.reduceLeDiff, Nat.reduceSub, reduceIte, Int.reduceBEq, Int.reduceEq, Int.reduceLT, Int.reduceLE, Int.reduceGT, Int.reduceGE, Int.reduceNe, Int.reduceBNe, s_impl_ValText, TVal.row, hT56, hT57, C_impl_ValOk_eq, c57, hv, hc, valText, Bool.true_eq_false, or_self, List.all_nil]
  by_cases h4 : k = 4
  · subst h4
    by_cases hn : n = 1
    · subst hn
      simp only [go_sem, kSt_ptr, Nat.reduceBEq, Nat.reduceAdd, Nat.reduceEqDiff, Nat.reduceLeDiff, Nat.reduceSub, reduceIte, Int.reduceBEq, Int.reduceEq, Int.reduceLT, Int.reduceLE, Int.reduceGT, Int.reduceGE, Int.reduceNe, Int.reduceBNe, s_impl_ValText, TVal.row, hT56, hT57, C_impl_ValOk_eq, hv, valText, Bool.true_eq_false, or_self, List.all_nil]
    · simp only [go_sem, kSt_ptr, Nat.reduceBEq, Nat.reduceAdd, Nat.reduceEqDiff, Nat.reduceLeDiff, Nat.reduceSub, reduceIte, Int.reduceBEq, Int.reduceEq, Int.reduceLT, Int.reduceLE, Int.reduceGT, Int.reduceGE, Int.reduceNe, Int.reduceBNe, s_impl_ValText, TVal.row, hT56, hT57, C_impl_ValOk_eq, hv, hn, beqF hn, valText, Bool.true_eq_false, or_self, List.all_nil]
  · simp [valOk, h0, h1, h2, h3, h4] at hv
noncomputable def C_impl_ValText := ct (fun a : TVal => [.agg a.row]) (fun a => a.fS.length ≤ 9223372036854775807) .str valText
theorem C_impl_ValText_eq (k n : Int) (s : List UInt8) (hs : s.length ≤ 9223372036854775807) : C_impl_ValText [.agg [.int .i64 k, .int .i64 n, .str s]] = some (.str (valText ⟨k, n, s⟩)) := by
  unfold C_impl_ValText
  exact ct_eq (a := (⟨k, n, s⟩ : TVal)) (fun a b h => by
    simp only [List.cons.injEq, AV.agg.injEq, and_true] at h
    exact TVal.inj _ _ h) hs
theorem ok_impl_ValText {WI} (hs : Stable WI) (cs) (hT : TOK (EE cs) WI) (h56 : (EE cs).T 28 = some C_impl_ValOk) (h57 : (EE cs).T 29 = some C_strconv_Itoa) : PureOK Tryd.prog WI 16 C_impl_ValText := pure_out hT hs (by rw [st_impl_ValText]; rfl) fun a h1 => ev_impl_ValText cs h56 h57 a h1
def blank : List UInt8 → Bool
  | [] => false
  | b :: r => if (b.toNat : Int) = 32 then true else blank r
theorem idx_cons (b : UInt8) (l : List UInt8) (c : UInt8) : (0 ≤ Lib.indexByte (b :: l) c) ↔ (b = c ∨ 0 ≤ Lib.indexByte l c) := by
  have h3 := Lib.indexByte_ge l c
  rw [Lib.indexByte]
  by_cases hb : b = c
  · subst hb
    simp
  · have h1 : (b == c) = false := by simpa using hb
    rw [h1]
    by_cases h4 : Lib.indexByte l c = -1
    · simp [h4, hb]
    · have h5 : (Lib.indexByte l c == -1) = false := by simpa using h4
      simp only [h5, Bool.false_eq_true, if_false, hb, false_or]
      omega
theorem blank_cons (b : UInt8) (l : List UInt8) : blank (b :: l) = true ↔ (b = 32 ∨ blank l = true) := by
  rw [blank]
  by_cases hb : b = 32
  · subst hb
    simp
  · have h2 : ¬ (b.toNat : Int) = 32 := fun e => hb (UInt8.toNat_inj.1 (by show b.toNat = 32; omega))
    rw [if_neg h2]
    simp [hb]
theorem has32_iff : ∀ s : List UInt8, 0 ≤ Lib.indexByte s 32 ↔ blank s = true
  | [] => by simp [Lib.indexByte, blank]
  | b :: l => by rw [idx_cons, blank_cons, has32_iff l]
theorem has32 (s : List UInt8) : decide (0 ≤ Lib.indexByte s 32) = blank s := by
  have := has32_iff s
  cases hb : blank s
  · exact decide_eq_false fun h => by rw [this.1 h] at hb; cases hb
  · exact decide_eq_true (this.2 hb)
noncomputable def C_strings_Contains := ct (fun a : List UInt8 => [.str a, .str [32]]) (fun _ => True) .bool blank
theorem C_strings_Contains_eq (s : List UInt8) : C_strings_Contains [.str s, .str [32]] = some (.bool (blank s)) := by
  unfold C_strings_Contains
  exact ct_eq (a := s) (fun a b h => by simpa using h) trivial
def strRow (t : List UInt8) : List AV := [.str t]
theorem strRows_inj {a b : List (List UInt8)} (h : a.map strRow = b.map strRow) : a = b := (List.map_inj_right (fun x y h => by simpa [strRow] using h)).1 h
noncomputable def C_strings_Join := ct (fun a : List (List UInt8) => [.imm (a.map strRow), .str [32]]) (fun a => a.length ≤ 1048576 ∧ (Lib.join a [32]).length ≤ 140737488355328) .str fun a => Lib.join a [32]
theorem C_strings_Join_eq (a : List (List UInt8)) (h : a.length ≤ 1048576 ∧ (Lib.join a [32]).length ≤ 140737488355328) : C_strings_Join [.imm (a.map strRow), .str [32]] = some (.str (Lib.join a [32])) := by
  unfold C_strings_Join
  exact ct_eq (a := a) (fun a b h => by
    simp only [List.cons.injEq, AV.imm.injEq, and_true] at h
    exact strRows_inj h) h
end Go.Proofs.YtbpafgbehkphoaaDoor.Rw
/- What the functions that FnRowTexts calls answer: part 2. -/
namespace Go.Proofs.YtbpafgbehkphoaaDoor.Rw
open Go Go.RowKit Go.Ev
set_option linter.unusedSimpArgs false
set_option linter.unusedVariables false
set_option maxHeartbeats 1600000
/-- The texts behind those that stand already. -/
def rowGo (first : Bool) (acc : List UInt8) : List TVal → List UInt8
  | [] => acc
  | v :: r => if valText v = [] ∨ blank (valText v) = true then [] else rowGo false (if first then acc ++ valText v else (acc ++ [32]) ++ valText v) r
/-- What stands in the slot of the texts. -/
def txt (ts : List (List UInt8)) (v : AV) (h : Hp) : Prop := (ts = [] ∧ v = .snil) ∨ ∃ id, v = .app id (ts.map strRow) ∧ h.ap id = some (ts.length, 1) ∧ id < h.nx
/-- The texts, none where one falls. -/
def rowTs : List TVal → Option (List (List UInt8))
  | [] => some []
  | v :: r => if valText v = [] ∨ blank (valText v) = true then none else (rowTs r).map fun l => valText v :: l
def rowImpl (l : List TVal) : List UInt8 := match rowTs l with
  | none => []
  | some ts => Lib.join ts [32]
theorem rowGo_eq : ∀ (l : List TVal) (first : Bool) (acc : List UInt8), rowGo first acc l = match rowTs l with
    | none => []
    | some ts => acc ++ (if first then Lib.join ts [32] else Lib.joinTail [32] ts)
  | [], first, acc => by cases first <;> simp [rowGo, rowTs, Lib.join, Lib.joinTail, List.intercalate]
  | v :: r, first, acc => by
    simp only [rowGo, rowTs]
    split
    · rfl
    · rw [rowGo_eq r]
      cases rowTs r with
      | none => rfl
      | some ts =>
        cases first with
        | true => simp [Lib.join_cons, Lib.joinTail]
        | false => simp [Lib.joinTail]
theorem rowGo_impl (l : List TVal) : rowGo true [] l = rowImpl l := by
  rw [rowGo_eq]
  unfold rowImpl
  cases rowTs l <;> rfl
theorem rowTs_len : ∀ {l : List TVal} {ts : List (List UInt8)}, rowTs l = some ts → ts.length = l.length ∧ ∀ t ∈ ts, t.length ≤ 40
  | [], ts, h => by simp only [rowTs, Option.some.injEq] at h; subst h; exact ⟨rfl, fun t ht => by cases ht⟩
  | v :: r, ts, h => by
    simp only [rowTs] at h
    split at h
    · cases h
    · simp only [Option.map_eq_some_iff] at h
      obtain ⟨l', h1, rfl⟩ := h
      obtain ⟨k1, k2⟩ := rowTs_len h1
      refine ⟨by simp [k1], fun t ht => ?_⟩
      rcases List.mem_cons.1 ht with rfl | ht
      · exact valText_len v
      · exact k2 t ht
theorem lens_le {ts : List (List UInt8)} (h : ∀ t ∈ ts, t.length ≤ 40) : Lib.lens ts ≤ 40 * ts.length := by
  induction ts with
  | nil => simp [Lib.lens]
  | cons t r ih =>
    have h1 := h t List.mem_cons_self
    have h2 := ih fun u hu => h u (List.mem_cons_of_mem _ hu)
    simp only [Lib.lens, List.map_cons, List.sum_cons, List.length_cons] at h2 ⊢
    omega
theorem join_len {ts : List (List UInt8)} (h : ∀ t ∈ ts, t.length ≤ 40) : (Lib.join ts [32]).length ≤ 41 * ts.length := by
  cases ts with
  | nil => simp [Lib.join_nil]
  | cons t r =>
    have h1 := h t List.mem_cons_self
    have h2 := lens_le fun u hu => h u (List.mem_cons_of_mem _ hu)
    rw [Lib.join_cons, List.length_append, Lib.joinTail_length]
    simp only [List.length_cons, List.length_nil] at h2 ⊢
    omega
theorem valsLen {l : List TVal} (h : (sliceT tVal).good l) : l.length ≤ 1048576 ∧ ∀ v ∈ l, v.fS.length ≤ 9223372036854775807 :=
  ⟨by have : l.length + costL tVal l ≤ 1048576 := h.1; omega, ((sliceT tVal).fit l h.1).2⟩
theorem rowImpl_len (r : List TVal) : (rowImpl r).length ≤ 41 * r.length := by
  unfold rowImpl
  cases h : rowTs r with
  | none => simp
  | some ts =>
    obtain ⟨h1, h2⟩ := rowTs_len h
    have := join_len h2
    simp only
    omega
theorem L_impl_RowText (cs) (hT33 : (EE cs).T 16 = some C_impl_ValText) (hT34 : (EE cs).T 17 = some C_strings_Contains) (l : List TVal) (hlen : l.length ≤ 1048576) (hs : ∀ v ∈ l, v.fS.length ≤ 9223372036854775807) : ∀ (rest pre : List TVal) (ts : List (List UInt8)) (e : Ps) (h : Hp), l = pre ++ rest → ts.length = pre.length → e 7 = .imm (l.map TVal.row) → e 8 = .int .i64 l.length → e 9 = .int .i64 pre.length → txt ts (e 3) h →
    WL (EE cs) s_impl_RowText_L0 e h fun x e' h' => match rowTs rest with
      | none => x = .ret ∧ e' 2 = .str []
      | some tl => x = .exit 0 ∧ txt (ts ++ tl) (e' 3) h'
  | [], pre, ts, e, h, hl, htl, h7, h8, h9, ht => by
    refine .step (.sim ?_)
    simp only [go_sem, kSt_ptr, Nat.reduceBEq, Nat.reduceAdd, Nat.reduceEqDiff, Nat.reduceLeDiff, Nat.reduceSub, reduceIte, Int.reduceBEq, Int.reduceEq, Int.reduceLT, Int.reduceLE, Int.reduceGT, Int.reduceGE, Int.reduceNe, Int.reduceBNe, s_impl_RowText_L0, h7, h8, h9, lt_end hl, rowTs, ht]
  | v :: rest, pre, ts, e, h, hl, htl, h7, h8, h9, ht => by
    have hv : v.fS.length ≤ 9223372036854775807 := hs v (by rw [hl]; simp)
    have hlt : pre.length < l.length := by rw [hl]; simp
    have hw : IntKind.wrap .i64 ((pre.length : Int) + 1) = (pre.length : Int) + 1 := wrapId (by omega) (by omega)
    have c30 := C_impl_ValText_eq v.fK v.fN v.fS hv
    by_cases hte : valText v = []
    · have hte' : valText ⟨v.fK, v.fN, v.fS⟩ = [] := hte
      refine .step (.sim ?_)
      simp only [go_sem, kSt_ptr, Nat.reduceBEq, Nat.reduceAdd, Nat.reduceEqDiff, Nat.reduceLeDiff, Nat.reduceSub, reduceIte, Int.reduceBEq, Int.reduceEq, Int.reduceLT, Int.reduceLE, Int.reduceGT, Int.reduceGE, Int.reduceNe, Int.reduceBNe, s_impl_RowText_L0, h7, h8, h9, lt_map hl, kIa_map (row := TVal.row) (sz := 3) hl rfl, TVal.row, hT33, c30, hte, hte', rowTs, true_or]
    have hq : valText ⟨v.fK, v.fN, v.fS⟩ = valText v := rfl
    cases hb : blank (valText v)
    case true =>
      refine .step (.sim ?_)
      simp only [go_sem, kSt_ptr, Nat.reduceBEq, Nat.reduceAdd, Nat.reduceEqDiff, Nat.reduceLeDiff, Nat.reduceSub, reduceIte, Int.reduceBEq, Int.reduceEq, Int.reduceLT, Int.reduceLE, Int.reduceGT, Int.reduceGE, Int.reduceNe, Int.reduceBNe, s_impl_RowText_L0, h7, h8, h9, lt_map hl, kIa_map (row := TVal.row) (sz := 3) hl rfl, TVal.row, hT33, hT34, c30, hq, C_strings_Contains_eq, beqF hte, hte, hb, rowTs, or_true]
    have f1 : fillR (List.replicate 1 [.str []]) 1 [(0, .str (valText v))] = some [[.str (valText v)]] := rfl
    have f2 : frzRows [[.str (valText v)]] = some [[.str (valText v)]] := rfl
    have next : W (EE cs) s_impl_RowText_L0 e h fun x e1 h1 => x = .norm ∧ e1 7 = .imm (l.map TVal.row) ∧ e1 8 = .int .i64 l.length ∧ e1 9 = .int .i64 ((pre.length : Int) + 1) ∧ txt (ts ++ [valText v]) (e1 3) h1 := by
      rcases ht with ⟨rfl, h3⟩ | ⟨id, h3, hap, hnx⟩
      · have ap : ∀ id h, sApp false 16 1 .snil (.app id [[.str (valText v)]]) h = some (.app h.nx [[.str (valText v)]], h.newApp 1 1) := fun id h => sApp_snil rfl rfl (by decide)
        refine .sim ?_
        simp only [go_sem, kSt_ptr, Nat.reduceBEq, Nat.reduceAdd, Nat.reduceEqDiff, Nat.reduceLeDiff, Nat.reduceSub, reduceIte, Int.reduceBEq, Int.reduceEq, Int.reduceLT, Int.reduceLE, Int.reduceGT, Int.reduceGE, Int.reduceNe, Int.reduceBNe, s_impl_RowText_L0, h7, h8, h9, h3, lt_map hl, kIa_map (row := TVal.row) (sz := 3) hl rfl, TVal.row, hT33, hT34, c30, hq, C_strings_Contains_eq, beqF hte, hte, hb, hw, f1, f2, ap]
        exact .inr ⟨_, rfl, by simp, by simp⟩
      · have ap : ∀ id' (H : Hp), H.ap id = some (ts.length, 1) → sApp false 16 1 (.app id (ts.map strRow)) (.app id' [[.str (valText v)]]) H = some (.app id (ts.map strRow ++ [[.str (valText v)]]), H.setApp id (ts.length + 1) 1) := fun id' H hH => by
          have := sApp_app (bt := 16) (sz := 1) (id := id) (id' := id') (rows := ts.map strRow) (row := [.str (valText v)]) (row' := [.str (valText v)]) (h := H) (by rw [List.length_map]; exact hH) rfl rfl (by rw [List.length_map, htl]; unfold room; omega)
          rw [List.length_map] at this
          exact this
        have hne : ¬ id = h.nx + 1 := by omega
        refine .sim ?_
        simp only [go_sem, kSt_ptr, Nat.reduceBEq, Nat.reduceAdd, Nat.reduceEqDiff, Nat.reduceLeDiff, Nat.reduceSub, reduceIte, Int.reduceBEq, Int.reduceEq, Int.reduceLT, Int.reduceLE, Int.reduceGT, Int.reduceGE, Int.reduceNe, Int.reduceBNe, s_impl_RowText_L0, h7, h8, h9, h3, lt_map hl, kIa_map (row := TVal.row) (sz := 3) hl rfl, TVal.row, hT33, hT34, c30, hq, C_strings_Contains_eq, beqF hte, hte, hb, hw, f1, f2, ap, hap, hne]
        exact .inr ⟨id, by simp [strRow], by simp, by simp; omega⟩
    refine .step (next.mono ?_)
    rintro _ e1 h1 ⟨rfl, k7, k8, k9, kt⟩
    refine (L_impl_RowText cs hT33 hT34 l hlen hs rest (pre ++ [v]) (ts ++ [valText v]) e1 h1 (by rw [hl]; simp) (by simp [htl]) k7 k8 (by rw [k9]; simp) kt).mono ?_
    intro x e' h' hx
    simp only [rowTs, hte, hb, Bool.false_eq_true, or_self, if_false]
    cases hr : rowTs rest with
    | none => rw [hr] at hx; exact hx
    | some tl =>
      rw [hr] at hx
      simp only [Option.map_some]
      exact ⟨hx.1, by have := hx.2; rwa [List.append_assoc] at this⟩
theorem ev_impl_RowText (cs) (hT33 : (EE cs).T 16 = some C_impl_ValText) (hT34 : (EE cs).T 17 = some C_strings_Contains) (hT35 : (EE cs).T 18 = some C_strings_Join) (l : List TVal) (hlen : l.length ≤ 1048576) (hs : ∀ v ∈ l, v.fS.length ≤ 9223372036854775807) : ∃ k n, out (EE cs) k n 6 [.imm (l.map TVal.row)] = some (.str (rowImpl l)) := by
  refine out_W (n := 0) (st_impl_RowText cs) ?_
  show W _ (.seq _ (.seq _ (.seq (.seq _ (.blk 0 (.loop s_impl_RowText_L0))) _))) _ _ _
  refine .re (.cut (M := fun e1 h1 => e1 0 = .imm (l.map TVal.row) ∧ e1 3 = .snil) (.sim (by simp only [go_sem, kSt_ptr, Nat.reduceBEq, Nat.reduceAdd, Nat.reduceEqDiff, Nat.reduceLeDiff, Nat.reduceSub, reduceIte, Int.reduceBEq, Int.reduceEq, Int.reduceLT, Int.reduceLE, Int.reduceGT, Int.reduceGE, Int.reduceNe, Int.reduceBNe])) ?_)
  rintro e1 h1 ⟨k0, k3⟩
  refine .seq (.cut (M := fun e2 h2 => e2 7 = .imm (l.map TVal.row) ∧ e2 8 = .int .i64 l.length ∧ e2 9 = .int .i64 0 ∧ e2 3 = .snil) (.sim (by simp only [go_sem, kSt_ptr, Nat.reduceBEq, Nat.reduceAdd, Nat.reduceEqDiff, Nat.reduceLeDiff, Nat.reduceSub, reduceIte, Int.reduceBEq, Int.reduceEq, Int.reduceLT, Int.reduceLE, Int.reduceGT, Int.reduceGE, Int.reduceNe, Int.reduceBNe, k0, k3])) ?_)
  rintro e2 h2 ⟨k7, k8, k9, k3⟩
  refine .blk (.loop ((L_impl_RowText cs hT33 hT34 l hlen hs l [] [] e2 h2 rfl rfl k7 k8 k9 (.inl ⟨rfl, k3⟩)).mono ?_))
  intro x e' h' hx
  cases hr : rowTs l with
  | none =>
    rw [hr] at hx
    obtain ⟨rfl, j2⟩ := hx
    simp only [go_sem, kSt_ptr, Nat.reduceBEq, Nat.reduceAdd, Nat.reduceEqDiff, Nat.reduceLeDiff, Nat.reduceSub, reduceIte, Int.reduceBEq, Int.reduceEq, Int.reduceLT, Int.reduceLE, Int.reduceGT, Int.reduceGE, Int.reduceNe, Int.reduceBNe, s_impl_RowText, j2, rowImpl, hr]
  | some ts =>
    rw [hr] at hx
    obtain ⟨rfl, j2⟩ := hx
    obtain ⟨n1, n2⟩ := rowTs_len hr
    have jl := join_len n2
    have c35 := C_strings_Join_eq ts ⟨by omega, by omega⟩
    rw [outOf_exit]
    refine .sim ?_
    rcases j2 with ⟨ht, j3⟩ | ⟨id, j3, _⟩
    · simp only [List.nil_append] at ht
      subst ht
      have c35' : C_strings_Join [.imm [], .str [32]] = some (.str (Lib.join [] [32])) := c35
      simp only [go_sem, kSt_ptr, Nat.reduceBEq, Nat.reduceAdd, Nat.reduceEqDiff, Nat.reduceLeDiff, Nat.reduceSub, reduceIte, Int.reduceBEq, Int.reduceEq, Int.reduceLT, Int.reduceLE, Int.reduceGT, Int.reduceGE, Int.reduceNe, Int.reduceBNe, s_impl_RowText, j3, hT35, c35', rowImpl, hr]
    · simp only [List.nil_append] at j3
      simp only [go_sem, kSt_ptr, Nat.reduceBEq, Nat.reduceAdd, Nat.reduceEqDiff, Nat.reduceLeDiff, Nat.reduceSub, reduceIte, Int.reduceBEq, Int.reduceEq, Int.reduceLT, Int.reduceLE, Int.reduceGT, Int.reduceGE, Int.reduceNe, Int.reduceBNe, s_impl_RowText, j3, hT35, c35, rowImpl, hr]
noncomputable def C_impl_RowText := c1 (sliceT tVal) (fun a => (sliceT tVal).good a) .str rowImpl
theorem C_impl_RowText_eq (a : List TVal) (h : (sliceT tVal).good a) : C_impl_RowText [.imm (a.map TVal.row)] = some (.str (rowImpl a)) := c1_eq (sliceT tVal) h
theorem ok_impl_RowText {WI} (hs : Stable WI) (cs) (hT : TOK (EE cs) WI) (h33 : (EE cs).T 16 = some C_impl_ValText) (h34 : (EE cs).T 17 = some C_strings_Contains) (h35 : (EE cs).T 18 = some C_strings_Join) : PureOK Tryd.prog WI 6 C_impl_RowText := pure1 hT hs (by rw [st_impl_RowText]; rfl) fun a h => ev_impl_RowText cs h33 h34 h35 a (valsLen h).1 (valsLen h).2
def digN (b : UInt8) : Bool := decide (48 ≤ b.toNat) && decide (b.toNat ≤ 57)
def dstep (n : Nat) (b : UInt8) : Nat := n * 10 + (b.toNat - 48)
def numD (n : Nat) (l : List UInt8) : Nat := l.foldl dstep n
theorem numD_nil (n : Nat) : numD n [] = n := rfl
theorem numD_cons (n : Nat) (b : UInt8) (r : List UInt8) : numD n (b :: r) = numD (dstep n b) r := by unfold numD; rw [List.foldl_cons]
theorem numD_snoc (b : UInt8) (l : List UInt8) (n : Nat) : numD n (l ++ [b]) = numD n l * 10 + (b.toNat - 48) := by
  unfold numD
  rw [List.foldl_append, List.foldl_cons, List.foldl_nil, dstep]
theorem numD_ge (l : List UInt8) : ∀ n : Nat, n ≤ numD n l := by
  induction l with
  | nil => intro n; rw [numD_nil]; exact Nat.le_refl _
  | cons b l ih =>
    intro n
    rw [numD_cons]
    refine Nat.le_trans ?_ (ih (dstep n b))
    unfold dstep
    omega
theorem numD_lt (l : List UInt8) : ∀ (n : Nat), l.all digN = true → numD n l < (n + 1) * 10 ^ l.length := by
  induction l with
  | nil => intro n _; rw [numD_nil, List.length_nil, Nat.pow_zero, Nat.mul_one]; exact Nat.lt_succ_self n
  | cons b l ih =>
    intro n h
    rw [List.all_cons, Bool.and_eq_true] at h
    have hb : 48 ≤ b.toNat ∧ b.toNat ≤ 57 := by simpa [digN] using h.1
    have h1 := ih (dstep n b) h.2
    have hs : dstep n b + 1 ≤ (n + 1) * 10 := by unfold dstep; omega
    have h2 : (dstep n b + 1) * 10 ^ l.length ≤ ((n + 1) * 10) * 10 ^ l.length := Nat.mul_le_mul_right _ hs
    have h3 : (n + 1) * 10 ^ (b :: l).length = ((n + 1) * 10) * 10 ^ l.length := by
      rw [List.length_cons, Nat.pow_succ, Nat.mul_comm (10 ^ l.length) 10, Nat.mul_assoc]
    rw [h3, numD_cons]
    exact Nat.lt_of_lt_of_le h1 h2
theorem dig48 (d : Nat) (h : d < 10) : (UInt8.ofNat (48 + d)).toNat = 48 + d := by
  rw [UInt8.toNat_ofNat']
  omega
theorem dec_spec : ∀ (u : Nat), numD 0 (Lib.decDigits u) = u ∧ (Lib.decDigits u).all digN = true ∧ Lib.decDigits u ≠ [] ∧ (1 ≤ u → (Lib.decDigits u).head? ≠ some 48) := by
  intro u
  induction u using Nat.strongRecOn with
  | _ u ih =>
    by_cases h : u < 10
    · rw [Lib.decDigits_one h]
      have hd := dig48 u h
      refine ⟨by rw [numD_cons, numD_nil, dstep, hd]; omega, by simp only [List.all_cons, List.all_nil, digN, hd, Bool.and_true, Bool.and_eq_true, decide_eq_true_eq]; omega, by simp, fun h1 e => ?_⟩
      simp only [List.head?_cons, Option.some.injEq] at e
      have := congrArg UInt8.toNat e
      rw [hd] at this
      have h48 : (48 : UInt8).toNat = 48 := rfl
      omega
    · have he : Lib.decDigits u = Lib.decDigits (u / 10) ++ [UInt8.ofNat (48 + u % 10)] := by rw [Lib.decDigits, dif_neg h]
      obtain ⟨i1, i2, i3, i4⟩ := ih (u / 10) (by omega)
      have hd := dig48 (u % 10) (by omega)
      rw [he]
      refine ⟨by rw [numD_snoc, i1, hd]; omega, by rw [List.all_append, i2]; simp only [List.all_cons, List.all_nil, digN, hd, Bool.and_true, Bool.true_and, Bool.and_eq_true, decide_eq_true_eq]; omega, by simp, fun _ => ?_⟩
      obtain ⟨c, r, hc⟩ := List.exists_cons_of_ne_nil i3
      rw [hc] at i4 ⊢
      exact i4 (by omega)
theorem dec_of : ∀ (l : List UInt8), l.all digN = true → l ≠ [] → (l.head? ≠ some 48 ∨ l.length = 1) → Lib.decDigits (numD 0 l) = l := by
  have gen : ∀ (k : Nat) (l : List UInt8), l.length = k → l.all digN = true → l ≠ [] → (l.head? ≠ some 48 ∨ l.length = 1) → Lib.decDigits (numD 0 l) = l := by
    intro k
    induction k with
    | zero => intro l hl _ hn; exact absurd (List.eq_nil_of_length_eq_zero hl) hn
    | succ k ih =>
      intro l hl ha hn hh
      obtain ⟨p, b, rfl⟩ : ∃ p b, l = p ++ [b] := ⟨l.dropLast, l.getLast hn, (List.dropLast_concat_getLast hn).symm⟩
      rw [List.all_append, Bool.and_eq_true] at ha
      have hb : 48 ≤ b.toNat ∧ b.toNat ≤ 57 := by simpa [digN] using ha.2
      have hbe : UInt8.ofNat (48 + (b.toNat - 48)) = b := by rw [show 48 + (b.toNat - 48) = b.toNat by omega]; simp
      rw [numD_snoc]
      cases p with
      | nil =>
        rw [numD_nil, List.nil_append, Nat.zero_mul, Nat.zero_add, Lib.decDigits_one (by omega), hbe]
      | cons c r =>
        have hc : c ≠ 48 := by
          rcases hh with hh | hh
          · simpa using hh
          · simp at hh
        have hcd : 48 ≤ c.toNat ∧ c.toNat ≤ 57 := by
          have := ha.1
          simp only [List.all_cons, Bool.and_eq_true, digN, decide_eq_true_eq] at this
          exact this.1
        have hc1 : 49 ≤ c.toNat := by
          rcases Nat.lt_or_ge 48 c.toNat with h | h
          · exact h
          · exact absurd (UInt8.toNat_inj.1 (show c.toNat = (48 : UInt8).toNat by have h48 : (48 : UInt8).toNat = 48 := rfl; omega)) hc
        have hi := ih (c :: r) (by simpa using hl) ha.1 (by simp) (.inl (by simpa using hc))
        have hge : 1 ≤ numD 0 (c :: r) := by rw [numD_cons]; exact Nat.le_trans (by unfold dstep; omega) (numD_ge r _)
        rw [Lib.decDigits, dif_neg (by omega), show (numD 0 (c :: r) * 10 + (b.toNat - 48)) / 10 = numD 0 (c :: r) by omega, show (numD 0 (c :: r) * 10 + (b.toNat - 48)) % 10 = b.toNat - 48 by omega, hi, hbe]
  exact fun l => gen l.length l rfl
theorem dlen : ∀ (k u : Nat), u < 10 ^ k → 1 ≤ k → Lib.nDigits u ≤ k
  | 0, _, _, h => by omega
  | k + 1, u, hk, _ => by
    by_cases h10 : u < 10
    · rw [Lib.nDigits_small h10]; omega
    · rw [Lib.nDigits_big h10]
      have hq : u / 10 < 10 ^ k := by rw [Nat.pow_succ] at hk; omega
      have hk1 : 1 ≤ k := by
        cases k with
        | zero => simp at hq; omega
        | succ k => omega
      have := dlen k (u / 10) hq hk1
      omega
theorem dec_len16 {u : Nat} (h : u < 10 ^ 16) : (Lib.decDigits u).length ≤ 16 := by
  rw [Lib.decDigits_length]
  exact dlen 16 u h (by omega)
theorem parseU (l : List UInt8) : ∀ (acc : Nat), l.all digN = true → numD acc l < 1000000000000000000 → Lib.parseUint10 acc l = .ok (numD acc l) := by
  induction l with
  | nil => intro acc _ _; rfl
  | cons b l ih =>
    intro acc ha hn
    rw [List.all_cons, Bool.and_eq_true] at ha
    have hb : 48 ≤ b.toNat ∧ b.toNat ≤ 57 := by simpa [digN] using ha.1
    have hge := numD_ge l (dstep acc b)
    rw [numD_cons] at hn ⊢
    have hd : acc * 10 + (b.toNat - 48) = dstep acc b := rfl
    have hlo : acc * 10 ≤ dstep acc b := by unfold dstep; omega
    rw [Lib.parseUint10, if_pos hb, if_neg (by omega), hd, if_neg (by omega)]
    exact ih _ ha.2 hn
theorem atoi_itoa (n : Int) (h : -1000000000000000 ≤ n ∧ n ≤ 1000000000000000) : Lib.atoiAll (Lib.itoa n) = .ok n := by
  have mag : ∀ u : Nat, u ≤ 1000000000000000 → Lib.parseMag (Lib.decDigits u) = .ok u := fun u hu => by
    obtain ⟨i1, i2, i3, _⟩ := dec_spec u
    unfold Lib.parseMag
    rw [if_neg i3, parseU _ 0 i2 (by rw [i1]; omega), i1]
  by_cases hn : n < 0
  · obtain ⟨u, rfl⟩ : ∃ u : Nat, n = -(u : Int) := ⟨n.natAbs, by omega⟩
    rw [Lib.itoa_neg u (by omega), Lib.atoiAll_minus, mag u (by omega)]
    simp only [Lib.signed]
    rw [if_neg (by omega)]
  · obtain ⟨u, rfl⟩ : ∃ u : Nat, n = (u : Int) := ⟨n.toNat, by omega⟩
    rw [Lib.itoa_nonneg]
    obtain ⟨i1, i2, i3, _⟩ := dec_spec u
    have hm := mag u (by omega)
    obtain ⟨c, r, hc⟩ := List.exists_cons_of_ne_nil i3
    rw [hc] at hm i2 ⊢
    simp only [List.all_cons, Bool.and_eq_true, digN, decide_eq_true_eq] at i2
    rw [Lib.atoiAll_plain c r (by omega) (by omega), hm]
    simp only [Lib.signless]
    rw [if_neg (by omega)]
/-- A numeral, as the reference reads it. -/
def parse2 (s : List UInt8) : Int × Bool :=
  let minus := s.head? == some 45
  let t := if minus then s.tail else s
  if inR t.length 1 16 = false ∨ (t.head? = some 48 ∧ ((1 : Int) < t.length ∨ minus = true)) ∨ t.all digN = false then (0, false) else (if minus then -(numD 0 t : Int) else numD 0 t, true)
theorem parse2_of {s t : List UInt8} {m : Bool} (hm : (s.head? == some 45) = m) (ht : t = if m then s.tail else s) :
    parse2 s = if inR t.length 1 16 = false ∨ (t.head? = some 48 ∧ ((1 : Int) < t.length ∨ m = true)) ∨ t.all digN = false then (0, false) else (if m then -(numD 0 t : Int) else numD 0 t, true) := by
  subst hm; subst ht; rfl
theorem parse2_itoa {s : List UInt8} (h : (parse2 s).2 = true) : Lib.itoa (parse2 s).1 = s := by
  cases hm : (s.head? == some 45)
  · have hpo := parse2_of hm (t := s) rfl
    by_cases hc : inR s.length 1 16 = false ∨ (s.head? = some 48 ∧ ((1 : Int) < s.length ∨ false = true)) ∨ s.all digN = false
    · rw [hpo, if_pos hc] at h; cases h
    rw [hpo, if_neg hc]
    simp only [not_or, not_and, inR, Bool.not_eq_false, Bool.and_eq_true, decide_eq_true_eq] at hc
    obtain ⟨h1, h2, h3⟩ := hc
    show Lib.itoa (numD 0 s : Int) = s
    rw [Lib.itoa_nonneg]
    refine dec_of s h3 (fun e => by subst e; simp at h1) ?_
    by_cases h48 : s.head? = some 48
    · have := h2 h48
      exact .inr (by omega)
    · exact .inl h48
  · obtain ⟨r, rfl⟩ : ∃ r, s = 45 :: r := by
      cases s with
      | nil => simp at hm
      | cons c r => simp at hm; exact ⟨r, by rw [hm]⟩
    have hpo := parse2_of hm (t := r) rfl
    by_cases hc : inR r.length 1 16 = false ∨ (r.head? = some 48 ∧ ((1 : Int) < r.length ∨ true = true)) ∨ r.all digN = false
    · rw [hpo, if_pos hc] at h; cases h
    rw [hpo, if_neg hc]
    simp only [not_or, not_and, inR, Bool.not_eq_false, Bool.and_eq_true, decide_eq_true_eq] at hc
    obtain ⟨h1, h2, h3⟩ := hc
    show Lib.itoa (-(numD 0 r : Int)) = 45 :: r
    have h48 : r.head? ≠ some 48 := fun e => (h2 e).2 trivial
    have hr : r ≠ [] := fun e => by subst e; simp at h1
    have hd := dec_of r h3 hr (.inl h48)
    have hpos : 1 ≤ numD 0 r := by
      obtain ⟨c, q, rfl⟩ := List.exists_cons_of_ne_nil hr
      simp only [List.head?_cons, ne_eq, Option.some.injEq] at h48
      simp only [List.all_cons, Bool.and_eq_true] at h3
      have hcd : 48 ≤ c.toNat ∧ c.toNat ≤ 57 := by simpa [digN] using h3.1
      have : 49 ≤ c.toNat := by
        rcases Nat.lt_or_ge 48 c.toNat with h | h
        · exact h
        · exact absurd (UInt8.toNat_inj.1 (show c.toNat = (48 : UInt8).toNat by have h48 : (48 : UInt8).toNat = 48 := rfl; omega)) h48
      rw [numD_cons]
      exact Nat.le_trans (by unfold dstep; omega) (numD_ge q _)
    rw [Lib.itoa_neg _ hpos, hd]
theorem itoa_parse2 (n : Int) (h : -1000000000000000 ≤ n ∧ n ≤ 1000000000000000) : parse2 (Lib.itoa n) = (n, true) := by
  by_cases hn : n < 0
  · obtain ⟨u, rfl⟩ : ∃ u : Nat, n = -(u : Int) := ⟨n.natAbs, by omega⟩
    rw [Lib.itoa_neg u (by omega)]
    obtain ⟨i1, i2, i3, i4⟩ := dec_spec u
    have hl := dec_len16 (u := u) (by omega)
    have hp := List.length_pos_iff.2 i3
    unfold parse2
    simp only [List.head?_cons, List.tail_cons, beq_self_eq_true, if_true]
    rw [if_neg, i1]
    simp only [not_or, not_and, inR, Bool.not_eq_false, Bool.and_eq_true, decide_eq_true_eq]
    exact ⟨by omega, fun e => absurd e (i4 (by omega)), i2⟩
  · obtain ⟨u, rfl⟩ : ∃ u : Nat, n = (u : Int) := ⟨n.toNat, by omega⟩
    rw [Lib.itoa_nonneg]
    obtain ⟨i1, i2, i3, i4⟩ := dec_spec u
    have hl := dec_len16 (u := u) (by omega)
    have hp := List.length_pos_iff.2 i3
    have hm : ((Lib.decDigits u).head? == some 45) = false := by
      obtain ⟨c, r, hc⟩ := List.exists_cons_of_ne_nil i3
      rw [hc] at i2 ⊢
      simp only [List.all_cons, Bool.and_eq_true, digN, decide_eq_true_eq] at i2
      simp only [List.head?_cons, beq_eq_false_iff_ne, ne_eq, Option.some.injEq]
      rintro rfl
      have h45 : (45 : UInt8).toNat = 45 := rfl
      omega
    unfold parse2
    simp only [hm, Bool.false_eq_true, if_false]
    rw [if_neg, i1]
    simp only [not_or, not_and, inR, Bool.not_eq_false, Bool.and_eq_true, decide_eq_true_eq]
    refine ⟨by omega, fun e => ⟨?_, by simp⟩, i2⟩
    by_cases h0 : 1 ≤ u
    · exact absurd e (i4 h0)
    · have : u = 0 := by omega
      subst this
      rw [Lib.decDigits_one (by omega)]
      simp
end Go.Proofs.YtbpafgbehkphoaaDoor.Rw
/- What the functions that FnRowTexts calls answer: part 3. -/
namespace Go.Proofs.YtbpafgbehkphoaaDoor.Rw
open Go Go.RowKit Go.Ev
set_option linter.unusedSimpArgs false
set_option linter.unusedVariables false
set_option maxHeartbeats 1600000
def nullB : List UInt8 := [110, 117, 108, 108]
def noB : List UInt8 := [110, 111]
def yesB : List UInt8 := [121, 101, 115]
def zeroV : TVal := ⟨0, 0, []⟩
/-- A value of its text, as the reference reads it. -/
def val2 (s : List UInt8) : TVal × Bool :=
  if s = nullB then (zeroV, true) else if s = noB then (⟨4, 0, []⟩, true) else if s = yesB then (⟨4, 1, []⟩, true) else
  if (s.length : Int) < 2 then (zeroV, false) else
  if s.head? = some 39 then (⟨3, 0, s.tail.dropLast⟩, s.getLast? == some 39 && s.tail.dropLast.all plainB) else
  if s.head? = some 105 then (⟨1, (parse2 s.tail).1, []⟩, (parse2 s.tail).2) else
  if s.head? = some 110 then (⟨2, (parse2 s.tail).1, []⟩, (parse2 s.tail).2) else (zeroV, false)
def parseVal (s : List UInt8) : TVal × Bool := if (val2 s).2 = false ∨ valOk (val2 s).1 = false then (zeroV, false) else ((val2 s).1, true)
def chkV (s : List UInt8) (v : TVal) : TVal × Bool := if valText v = [] ∨ ¬ valText v = s then (zeroV, false) else (v, true)
def valI (s : List UInt8) : TVal × Bool :=
  if s = noB then chkV s ⟨4, 0, []⟩ else if s = yesB then chkV s ⟨4, 1, []⟩ else
  if s.head? = some 105 ∨ (s.head? = some 110 ∧ s ≠ nullB) then
    match Lib.atoiAll s.tail with
    | .ok n => chkV s ⟨if s.head? = some 110 then 2 else 1, n, []⟩
    | _ => (zeroV, false)
  else if 2 ≤ (s.length : Int) ∧ s.head? = some 39 then chkV s ⟨3, 0, s.tail.dropLast⟩ else chkV s zeroV
theorem valI_num {c : UInt8} {d : List UInt8} {k : Int} (hk : k = 1 ∧ c = 105 ∨ k = 2 ∧ c = 110) : (match Lib.atoiAll d with | .ok n => chkV (c :: d) ⟨k, n, []⟩ | _ => (zeroV, false)) = if (parse2 d).2 = false ∨ valOk ⟨k, (parse2 d).1, []⟩ = false then (zeroV, false) else (⟨k, (parse2 d).1, []⟩, true) := by
  have txt : ∀ n, valOk ⟨k, n, []⟩ = true → valText ⟨k, n, []⟩ = c :: Lib.itoa n := fun n hn => by
    rcases hk with ⟨rfl, rfl⟩ | ⟨rfl, rfl⟩ <;> simp [valText, hn]
  have no : ∀ n, valOk ⟨k, n, []⟩ = false → valText ⟨k, n, []⟩ = [] := fun n hn => by simp [valText, hn]
  have rng : ∀ n, valOk ⟨k, n, []⟩ = true → -1000000000000000 ≤ n ∧ n ≤ 1000000000000000 := fun n hn => valOk_rng hn (by rcases hk with ⟨rfl, _⟩ | ⟨rfl, _⟩ <;> simp)
  split
  · rename_i n hn
    by_cases hv : valOk ⟨k, n, []⟩ = true
    · by_cases he : Lib.itoa n = d
      · subst he
        rw [itoa_parse2 n (rng n hv)]
        simp [chkV, txt n hv, hv]
      · rw [chkV, if_pos (.inr (by rw [txt n hv]; simpa using he)), if_pos]
        cases hp : (parse2 d).2
        · exact .inl rfl
        · have h1 := parse2_itoa hp
          cases hv2 : valOk ⟨k, (parse2 d).1, []⟩
          · exact .inr rfl
          · have h2 := atoi_itoa _ (rng _ hv2)
            rw [h1, hn] at h2
            injection h2 with h2
            rw [h2] at he
            exact absurd h1 he
    · have hv' : valOk ⟨k, n, []⟩ = false := by simpa using hv
      rw [chkV, if_pos (.inl (no n hv')), if_pos]
      cases hp : (parse2 d).2
      · exact .inl rfl
      · have h1 := parse2_itoa hp
        cases hv2 : valOk ⟨k, (parse2 d).1, []⟩
        · exact .inr rfl
        · have h2 := atoi_itoa _ (rng _ hv2)
          rw [h1, hn] at h2
          injection h2 with h2
          rw [← h2, hv'] at hv2
          cases hv2
  · rename_i hn
    rw [if_pos]
    cases hp : (parse2 d).2
    · exact .inl rfl
    · have h1 := parse2_itoa hp
      cases hv2 : valOk ⟨k, (parse2 d).1, []⟩
      · exact .inr rfl
      · have h2 := atoi_itoa _ (rng _ hv2)
        rw [h1] at h2
        exact absurd h2 (hn _)
theorem parseVal_of {s : List UInt8} {v : TVal} {b : Bool} (h : val2 s = (v, b)) : parseVal s = if b = false ∨ valOk v = false then (zeroV, false) else (v, true) := by
  unfold parseVal
  rw [h]
theorem valI_eq (s : List UInt8) : valI s = parseVal s := by
  by_cases h0 : s = nullB
  · subst h0; rfl
  by_cases h1 : s = noB
  · subst h1; rfl
  by_cases h2 : s = yesB
  · subst h2; rfl
  have hz : chkV s zeroV = (zeroV, false) := by
    have : valText zeroV = nullB := rfl
    rw [chkV, if_pos (.inr (by rw [this]; exact fun e => h0 e.symm))]
  cases s with
  | nil => rfl
  | cons c d =>
    by_cases hi : c = 105
    · subst hi
      by_cases hd : d = []
      · subst hd; rfl
      have hl : ¬ (((105 : UInt8) :: d).length : Int) < 2 := by have := List.length_pos_iff.2 hd; simp; omega
      have hv : val2 (105 :: d) = (⟨1, (parse2 d).1, []⟩, (parse2 d).2) := by
        unfold val2
        rw [if_neg h0, if_neg h1, if_neg h2, if_neg hl, if_neg (by simp), if_pos List.head?_cons]
        rfl
      have hn : ¬ ((105 : UInt8) :: d).head? = some 110 := by simp
      rw [parseVal_of hv, ← valI_num (c := 105) (.inl ⟨rfl, rfl⟩), valI, if_neg h1, if_neg h2, if_pos (.inl rfl)]
      simp only [if_neg hn, List.tail_cons]
    by_cases hn : c = 110
    · subst hn
      by_cases hd : d = []
      · subst hd; rfl
      have hl : ¬ (((110 : UInt8) :: d).length : Int) < 2 := by have := List.length_pos_iff.2 hd; simp; omega
      have hv : val2 (110 :: d) = (⟨2, (parse2 d).1, []⟩, (parse2 d).2) := by
        unfold val2
        rw [if_neg h0, if_neg h1, if_neg h2, if_neg hl, if_neg (by simp), if_neg (by simp), if_pos List.head?_cons]
        rfl
      have hn : ((110 : UInt8) :: d).head? = some 110 := rfl
      rw [parseVal_of hv, ← valI_num (c := 110) (.inr ⟨rfl, rfl⟩), valI, if_neg h1, if_neg h2, if_pos (.inr ⟨rfl, h0⟩)]
      simp only [if_pos hn, List.tail_cons]
    have hni : ¬ (((c :: d).head? = some 105) ∨ ((c :: d).head? = some 110 ∧ (c :: d) ≠ nullB)) := by
      simp only [List.head?_cons, Option.some.injEq, hi, hn, false_or, false_and, not_false_eq_true]
    rw [valI, if_neg h1, if_neg h2, if_neg hni]
    by_cases hl : (((c :: d).length : Nat) : Int) < 2
    · have hv : val2 (c :: d) = (zeroV, false) := by unfold val2; rw [if_neg h0, if_neg h1, if_neg h2, if_pos hl]
      rw [if_neg (by omega), parseVal_of hv, if_pos (.inl rfl), hz]
    by_cases hq : c = 39
    · subst hq
      have hd : d ≠ [] := fun e => by subst e; simp at hl
      obtain ⟨m, z, rfl⟩ : ∃ m z, d = m ++ [z] := ⟨d.dropLast, d.getLast hd, (List.dropLast_concat_getLast hd).symm⟩
      have e1 : ((39 : UInt8) :: (m ++ [z])).tail.dropLast = m := by simp
      have e2 : ((39 : UInt8) :: (m ++ [z])).getLast? = some z := by rw [← List.cons_append, List.getLast?_append]; rfl
      have hv : val2 (39 :: (m ++ [z])) = (⟨3, 0, m⟩, z == 39 && m.all plainB) := by
        unfold val2
        rw [if_neg h0, if_neg h1, if_neg h2, if_neg hl, if_pos List.head?_cons, e1, e2]
        rfl
      rw [if_pos ⟨by omega, rfl⟩, parseVal_of hv, e1]
      simp only [chkV, valText]
      cases ho : valOk ⟨3, 0, m⟩
      · simp [ho]
      · cases ha : m.all plainB
        · simp [ho, ha]
        · by_cases hz : z = 39
          · subst hz; simp [ho, ha]
          · simp [ho, ha, hz, Ne.symm hz]
    · have hv : val2 (c :: d) = (zeroV, false) := by
        unfold val2
        rw [if_neg h0, if_neg h1, if_neg h2, if_neg hl, if_neg (by simpa using hq), if_neg (by simpa using hi), if_neg (by simpa using hn)]
      rw [if_neg (by simp [hq]), parseVal_of hv, if_pos (.inl rfl), hz]
theorem vFill0 : sFill [.int .i64 0, .int .i64 0, .str []] [] = some [.int .i64 0, .int .i64 0, .str []] := rfl
theorem vFillK (k : Int) : sFill [.int .i64 0, .int .i64 0, .str []] [(0, 1, .int .i64 k)] = some [.int .i64 k, .int .i64 0, .str []] := rfl
theorem vFillKN (k n : Int) : sFill [.int .i64 0, .int .i64 0, .str []] [(0, 1, .int .i64 k), (1, 1, .int .i64 n)] = some [.int .i64 k, .int .i64 n, .str []] := rfl
theorem vFillKS (k : Int) (s : List UInt8) : sFill [.int .i64 0, .int .i64 0, .str []] [(0, 1, .int .i64 k), (2, 1, .str s)] = some [.int .i64 k, .int .i64 0, .str s] := rfl
theorem sq10 : (([110, 111] : List UInt8) == [110, 117, 108, 108]) = false := by decide
theorem sq20 : (([121, 101, 115] : List UInt8) == [110, 117, 108, 108]) = false := by decide
theorem sq21 : (([121, 101, 115] : List UInt8) == [110, 111]) = false := by decide
theorem sq12 : (([110, 111] : List UInt8) == [121, 101, 115]) = false := by decide
theorem sq_no0 : (([110, 111] : List UInt8) == []) = false := by decide
theorem sq_yes0 : (([121, 101, 115] : List UInt8) == []) = false := by decide
theorem sq_null0 : (([110, 117, 108, 108] : List UInt8) == []) = false := by decide
theorem sq_nulle : (([110, 117, 108, 108] : List UInt8) == []) = false := by decide
theorem sq_nulln : (([110, 117, 108, 108] : List UInt8) == [110, 117, 108, 108]) = true := by decide
theorem hpre0 (c : UInt8) : Lib.hasPrefix [] [c] = false := rfl
theorem u8q105n : (((105 : UInt8).toNat : Int) == 110) = false := by decide
theorem strFillR (s : List UInt8) : fillR (List.replicate 1 [.str []]) 1 [(0, .str s)] = some [[.str s]] := rfl
theorem strFrzR (s : List UInt8) : frzRows [[.str s]] = some [[.str s]] := rfl
theorem vFillR (k n : Int) (s : List UInt8) : fillR (List.replicate 1 [.int .i64 0, .int .i64 0, .str []]) 3 [(0, .agg [.int .i64 k, .int .i64 n, .str s])] = some [[.int .i64 k, .int .i64 n, .str s]] := rfl
theorem vFrzR (k n : Int) (s : List UInt8) : frzRows [[.int .i64 k, .int .i64 n, .str s]] = some [[.int .i64 k, .int .i64 n, .str s]] := rfl
theorem u8w32 : ((32 : UInt8).toNat : Int) = 32 := by decide
theorem rep0 {α : Type} (x : α) : List.replicate 0 x = [] := rfl
theorem fill0 (n : Nat) : fillR [] n [] = some [] := rfl
theorem frz0 : frzRows [] = some [] := rfl
theorem frzT_grows {α : Type} {T : TD α} {l : List α} {v : AV} {h : Hp} {n : Nat} (hg : grows T l v h) : frzT n h v = some (.imm (l.map T.row)) := by
  rcases hg with ⟨rfl, rfl⟩ | ⟨id, rfl, _, _⟩ <;> cases n <;> rfl
def NumB (n : Int) : AV → Hp → Prop := NumP fun x => if n ≤ 0 then x = 0 else 0 ≤ x ∧ x < n
def BoolP : AV → Hp → Prop := fun v _ => ∃ b, v = .bool b
def okVal (t : TVal) : Prop := t.fS.length ≤ 40 ∧ -9223372036854775808 ≤ t.fK ∧ t.fK ≤ 9223372036854775807 ∧ -9223372036854775808 ≤ t.fN ∧ t.fN ≤ 9223372036854775807
def ValP : AV → Hp → Prop := fun v _ => ∃ t : TVal, v = .agg t.row ∧ okVal t
theorem sMake_z {m : Nat} {h : Hp} (hm : m ≤ 1048576) : sMake false 1 [.int .u8 0] (.int .i64 (m : Int)) (.int .i64 (m : Int)) h = some (.app h.nx (List.replicate m [.int .u8 0]), h.newApp m 1) := by
  simp only [sMake]
  rw [if_pos ⟨by omega, Int.le_refl _, by omega, by unfold room; omega⟩]
  rfl
theorem zeroBytes : ∀ m : Nat, rowsBytes (List.replicate m [.int .u8 0]) = some (List.replicate m 0)
  | 0 => rfl
  | m + 1 => by
    simp only [List.replicate_succ, rowsBytes, zeroBytes m]
    rfl
noncomputable def C_laws_big := c1 (sliceT u8T) (fun (c : List (UInt8)) => True) (.bool) fun (c : List (UInt8)) => decide (1048576 < (c.length : Int))
theorem C_laws_big_eq (c : List (UInt8)) (h : True) : C_laws_big [.imm (c.map u8T.row)] = some (.bool ((decide (1048576 < (c.length : Int))))) := c1_eq (sliceT u8T) h
theorem ok_laws_big {WI : World → Prop} (hs : Stable WI) (cs) (hT : TOK (EE cs) WI) : PureOK Tryd.prog WI 4 C_laws_big := by
  refine pure1 (E := EE cs) hT hs (by rw [st_laws_big]; rfl) fun c hp => out_wp (n := 0) (st_laws_big cs) ?_
  simp only [go_sem, kSt_ptr, Nat.reduceBEq, Nat.reduceAdd, Nat.reduceEqDiff, Nat.reduceLeDiff, Nat.reduceSub, reduceIte, Int.reduceBEq, Int.reduceEq, Int.reduceLT, Int.reduceLE, Int.reduceGT, Int.reduceGE, Int.reduceNe, Int.reduceBNe, s_laws_big, List.length_map]
theorem L_spec_l1New (cs) {code : List UInt8} (hcode : code.length ≤ 1048576) : ∀ (rest pre : List UInt8) (e : Ps) (h : Hp) (x : Int), code = pre ++ rest → e 0 = .imm (code.map u8T.row) → e 4 = .int .i64 pre.length → e 3 = .int .i64 x →
    WL (EE cs) s_spec_l1New_L0 e h fun y e' h' => y = .exit 0 ∧ h' = h ∧ e' 0 = .imm (code.map u8T.row) ∧ ∃ x : Int, e' 3 = .int .i64 x
  | [], pre, e, h, x, hl, e0, e4, e3 => by
    refine .step (wp_sound _ _ _ _ ?_)
    simp only [go_sem, kSt_ptr, Nat.reduceBEq, Nat.reduceAdd, Nat.reduceEqDiff, Nat.reduceLeDiff, Nat.reduceSub, reduceIte, Int.reduceBEq, Int.reduceEq, Int.reduceLT, Int.reduceLE, Int.reduceGT, Int.reduceGE, Int.reduceNe, Int.reduceBNe, s_spec_l1New_L0, e0, e4, e3, lt_end hl]
    exact ⟨x, rfl⟩
  | b :: rest, pre, e, h, x, hl, e0, e4, e3 => by
    have hlt : pre.length < code.length := by rw [hl]; simp
    obtain ⟨fA, hA⟩ : ∃ f : Int → Int, ∀ a h, kBin .and (.int .i64 a) (.int .i64 1073741823) h = some (.int .i64 (f a), h) := ⟨_, fun a h => kAnd64 a 1073741823 h⟩
    have hw : IntKind.wrap .i64 ((pre.length : Int) + 1) = (pre.length : Int) + 1 := wrapId (by omega) (by omega)
    by_cases h4 : (pre.length : Int) < 4000
    · refine .step (.mono (wp_sound _ _ _ (fun y e1 h1 => y = .norm ∧ h1 = h ∧ e1 0 = .imm (code.map u8T.row) ∧ e1 4 = .int .i64 ((pre.length : Int) + 1) ∧ ∃ x : Int, e1 3 = .int .i64 x) ?_) ?_)
      · simp only [go_sem, kSt_ptr, Nat.reduceBEq, Nat.reduceAdd, Nat.reduceEqDiff, Nat.reduceLeDiff, Nat.reduceSub, reduceIte, Int.reduceBEq, Int.reduceEq, Int.reduceLT, Int.reduceLE, Int.reduceGT, Int.reduceGE, Int.reduceNe, Int.reduceBNe, s_spec_l1New_L0, e0, e4, e3, lt_map hl, h4, kIa_map (row := u8T.row) (sz := 1) hl rfl, u8T_row, hA, hw]
        exact ⟨_, rfl⟩
      · rintro _ e1 _ ⟨rfl, rfl, q0, q4, x1, q3⟩
        exact L_spec_l1New cs hcode rest (pre ++ [b]) e1 _ x1 (by rw [hl]; simp) q0 (by rw [q4]; simp) q3
    · refine .step (wp_sound _ _ _ _ ?_)
      simp only [go_sem, kSt_ptr, Nat.reduceBEq, Nat.reduceAdd, Nat.reduceEqDiff, Nat.reduceLeDiff, Nat.reduceSub, reduceIte, Int.reduceBEq, Int.reduceEq, Int.reduceLT, Int.reduceLE, Int.reduceGT, Int.reduceGE, Int.reduceNe, Int.reduceBNe, s_spec_l1New_L0, e0, e4, e3, lt_map hl, h4]
      exact ⟨x, rfl⟩
/-- A new cursor. -/
theorem run_spec_l1New (cs) (code : List UInt8) (h : Hp) (hcode : code.length ≤ 1048576) : ∃ r h', RunF (EE cs) 14 [.imm (code.map u8T.row)] h (.ptr r 0, h') ∧ Cur code r h' ∧ h.nx ≤ r ∧ h.nx ≤ h'.nx ∧ (∀ q, q < h.nx → h'.hp q = h.hp q) ∧ ∀ q, q < h.nx → h'.ap q = h.ap q := by
  have : ∃ rr, RunF (EE cs) 14 [.imm (code.map u8T.row)] h rr ∧ ∃ x : Int, rr = (.ptr h.nx 0, h.new [.imm (code.map u8T.row), .int .i64 0, .int .i64 x]) := by
    refine run_wp (st_spec_l1New cs) ?_
    have hw : IntKind.wrap .i64 (758758 + (code.length : Int)) = 758758 + (code.length : Int) := wrapId (by omega) (by omega)
    simp only [go_sem, kSt_ptr, Nat.reduceBEq, Nat.reduceAdd, Nat.reduceEqDiff, Nat.reduceLeDiff, Nat.reduceSub, reduceIte, Int.reduceBEq, Int.reduceEq, Int.reduceLT, Int.reduceLE, Int.reduceGT, Int.reduceGE, Int.reduceNe, Int.reduceBNe, s_spec_l1New, List.length_map, hw]
    refine (L_spec_l1New cs hcode code [] _ h (758758 + (code.length : Int)) rfl (by simp only [go_sem, kSt_ptr, Nat.reduceBEq, Nat.reduceAdd, Nat.reduceEqDiff, Nat.reduceLeDiff, Nat.reduceSub, reduceIte, Int.reduceBEq, Int.reduceEq, Int.reduceLT, Int.reduceLE, Int.reduceGT, Int.reduceGE, Int.reduceNe, Int.reduceBNe]) (by simp only [go_sem, kSt_ptr, Nat.reduceBEq, Nat.reduceAdd, Nat.reduceEqDiff, Nat.reduceLeDiff, Nat.reduceSub, reduceIte, Int.reduceBEq, Int.reduceEq, Int.reduceLT, Int.reduceLE, Int.reduceGT, Int.reduceGE, Int.reduceNe, Int.reduceBNe, List.length_nil]) (by simp only [go_sem, kSt_ptr, Nat.reduceBEq, Nat.reduceAdd, Nat.reduceEqDiff, Nat.reduceLeDiff, Nat.reduceSub, reduceIte, Int.reduceBEq, Int.reduceEq, Int.reduceLT, Int.reduceLE, Int.reduceGT, Int.reduceGE, Int.reduceNe, Int.reduceBNe]) ).mono ?_
    rintro y e' h' ⟨rfl, rfl, q0, x, q3⟩
    have hf : sFill [.snil, .int .i64 0, .int .i64 0] [(0, 1, .imm (code.map u8T.row)), (2, 1, .int .i64 x)] = some [.imm (code.map u8T.row), .int .i64 0, .int .i64 x] := rfl
    simp only [go_sem, kSt_ptr, Nat.reduceBEq, Nat.reduceAdd, Nat.reduceEqDiff, Nat.reduceLeDiff, Nat.reduceSub, reduceIte, Int.reduceBEq, Int.reduceEq, Int.reduceLT, Int.reduceLE, Int.reduceGT, Int.reduceGE, Int.reduceNe, Int.reduceBNe, q0, q3, hf]
    exact ⟨fun _ e => (by cases e), _, rfl, x, rfl⟩
  obtain ⟨rr, h1, x, rfl⟩ := this
  exact ⟨h.nx, _, h1, ⟨by simp [Hp.new], 0, x, by simp [Hp.new], by omega, by omega⟩, Nat.le_refl _, by simp [Hp.new], fun q hq => by simp only [Hp.new]; rw [if_neg (by omega)], fun q hq => rfl⟩
theorem dr_spec_l1Byte (cs) : DrawV (EE cs) 34 [] (NumP fun x => 0 ≤ x ∧ x ≤ 255) := draw_of (st_spec_l1Byte cs) fun code r h hcode hcur => by
  obtain ⟨hr, i, x0, hh, hi0, hi1⟩ := hcur
  obtain ⟨fA, hA1, hA2⟩ : ∃ f : Int → Int, (∀ a, 0 ≤ f a ∧ f a ≤ 255) ∧ ∀ a h, kBin .and (.int .i64 a) (.int .i64 255) h = some (.int .i64 (f a), h) := ⟨low255, low255_rng, kAnd255⟩
  obtain ⟨fS, hS⟩ : ∃ f : Int → Int, ∀ a h, kBin .shr (.int .i64 a) (.int .u64 33) h = some (.int .i64 (f a), h) := ⟨shrI 33, kShr33⟩
  obtain ⟨fT, hT⟩ : ∃ f : Int → Int, ∀ a h, kBin .shr (.int .i64 a) (.int .u64 47) h = some (.int .i64 (f a), h) := ⟨shrI 47, kShr47⟩
  obtain ⟨fX, hX⟩ : ∃ f : Int → Int → Int, ∀ a b h, kBin .xor (.int .i64 a) (.int .i64 b) h = some (.int .i64 (f a b), h) := ⟨xorI, kXor64⟩
  by_cases hlt : i < (code.length : Int)
  · obtain ⟨b, hb⟩ : ∃ b, code[i.toNat]? = some b := ⟨_, List.getElem?_eq_getElem (by omega)⟩
    have hw : IntKind.wrap .i64 (i + 1) = i + 1 := wrapId (by omega) (by omega)
    have hia := fun h => kIa_nth (h := h) (row := u8T.row) (sz := 1) hi0 hb rfl
    simp only [go_sem, kSt_ptr, Nat.reduceBEq, Nat.reduceAdd, Nat.reduceEqDiff, Nat.reduceLeDiff, Nat.reduceSub, reduceIte, Int.reduceBEq, Int.reduceEq, Int.reduceLT, Int.reduceLE, Int.reduceGT, Int.reduceGE, Int.reduceNe, Int.reduceBNe, s_spec_l1Byte, hh, hlt, hia, u8T_row, hS, hT, hX, hA2, hw]
    refine ⟨fun _ e => (by cases e), _, rfl, ⟨_, rfl, hA1 _⟩, ⟨⟨hr, i + 1, _, if_pos rfl, by omega, by omega⟩, fun q hq hqr => by simp [hqr], fun _ _ => rfl, Nat.le_refl _⟩⟩
  · simp only [go_sem, kSt_ptr, Nat.reduceBEq, Nat.reduceAdd, Nat.reduceEqDiff, Nat.reduceLeDiff, Nat.reduceSub, reduceIte, Int.reduceBEq, Int.reduceEq, Int.reduceLT, Int.reduceLE, Int.reduceGT, Int.reduceGE, Int.reduceNe, Int.reduceBNe, s_spec_l1Byte, hh, hlt, hS, hT, hX, hA2]
    refine ⟨fun _ e => (by cases e), _, rfl, ⟨_, rfl, hA1 _⟩, ⟨⟨hr, i, _, if_pos rfl, by omega, by omega⟩, fun q hq hqr => by simp [hqr], fun _ _ => rfl, Nat.le_refl _⟩⟩
end Go.Proofs.YtbpafgbehkphoaaDoor.Rw
/- What the functions that FnRowTexts calls answer: part 4. -/
namespace Go.Proofs.YtbpafgbehkphoaaDoor.Rw
open Go Go.RowKit Go.Ev
set_option linter.unusedSimpArgs false
set_option linter.unusedVariables false
set_option maxHeartbeats 1600000
theorem dr_spec_l1Below (cs) (n : Int) : DrawV (EE cs) 19 [.int .i64 n] (NumB n) := draw_of (st_spec_l1Below cs) fun code r h hcode hcur => by
  by_cases h0 : n ≤ 0
  · simp only [go_sem, kSt_ptr, Nat.reduceBEq, Nat.reduceAdd, Nat.reduceEqDiff, Nat.reduceLeDiff, Nat.reduceSub, reduceIte, Int.reduceBEq, Int.reduceEq, Int.reduceLT, Int.reduceLE, Int.reduceGT, Int.reduceGE, Int.reduceNe, Int.reduceBNe, s_spec_l1Below, h0]
    exact ⟨fun _ e => (by cases e), _, rfl, ⟨0, rfl, by show (if n ≤ 0 then (0 : Int) = 0 else _); rw [if_pos h0]⟩, cur_refl hcur⟩
  have hne : n ≠ 0 := by omega
  have hrem : ∀ (x : Int) (h : Hp), kBin .rem (.int .i64 x) (.int .i64 n) h = some (.int .i64 (x.tmod n), h) := fun x h => kBin_rem _ _ _ hne
  have fin : ∀ x : Int, 0 ≤ x → (if n ≤ 0 then x.tmod n = 0 else 0 ≤ x.tmod n ∧ x.tmod n < n) := fun x hx => by
    rw [if_neg h0]
    exact ⟨Int.tmod_nonneg n hx, Int.tmod_lt_of_pos x (by omega)⟩
  by_cases h1 : n ≤ 256
  · simp only [go_sem, kSt_ptr, Nat.reduceBEq, Nat.reduceAdd, Nat.reduceEqDiff, Nat.reduceLeDiff, Nat.reduceSub, reduceIte, Int.reduceBEq, Int.reduceEq, Int.reduceLT, Int.reduceLE, Int.reduceGT, Int.reduceGE, Int.reduceNe, Int.reduceBNe, s_spec_l1Below, h0, h1]
    refine hP_draw (dr_spec_l1Byte cs) hcode hcur ?_
    rintro _ ha ⟨x, rfl, hx⟩ hc
    simp only [go_sem, kSt_ptr, Nat.reduceBEq, Nat.reduceAdd, Nat.reduceEqDiff, Nat.reduceLeDiff, Nat.reduceSub, reduceIte, Int.reduceBEq, Int.reduceEq, Int.reduceLT, Int.reduceLE, Int.reduceGT, Int.reduceGE, Int.reduceNe, Int.reduceBNe, hrem]
    exact ⟨fun _ e => (by cases e), _, rfl, ⟨_, rfl, fin x hx.1⟩, hc⟩
  simp only [go_sem, kSt_ptr, Nat.reduceBEq, Nat.reduceAdd, Nat.reduceEqDiff, Nat.reduceLeDiff, Nat.reduceSub, reduceIte, Int.reduceBEq, Int.reduceEq, Int.reduceLT, Int.reduceLE, Int.reduceGT, Int.reduceGE, Int.reduceNe, Int.reduceBNe, s_spec_l1Below, h0, h1]
  refine hP_draw (dr_spec_l1Byte cs) hcode hcur ?_
  rintro _ ha ⟨x, rfl, hx⟩ hc
  simp only [go_sem, kSt_ptr, Nat.reduceBEq, Nat.reduceAdd, Nat.reduceEqDiff, Nat.reduceLeDiff, Nat.reduceSub, reduceIte, Int.reduceBEq, Int.reduceEq, Int.reduceLT, Int.reduceLE, Int.reduceGT, Int.reduceGE, Int.reduceNe, Int.reduceBNe]
  refine hP_draw (dr_spec_l1Byte cs) hcode hc.cur ?_
  rintro _ hb ⟨y, rfl, hy⟩ hc2
  simp only [go_sem, kSt_ptr, Nat.reduceBEq, Nat.reduceAdd, Nat.reduceEqDiff, Nat.reduceLeDiff, Nat.reduceSub, reduceIte, Int.reduceBEq, Int.reduceEq, Int.reduceLT, Int.reduceLE, Int.reduceGT, Int.reduceGE, Int.reduceNe, Int.reduceBNe]
  refine hP_draw (dr_spec_l1Byte cs) hcode hc2.cur ?_
  rintro _ hd ⟨z, rfl, hz⟩ hc3
  have w1 : IntKind.wrap .i64 (x * 65536) = x * 65536 := wrapId (by omega) (by omega)
  have w2 : IntKind.wrap .i64 (y * 256) = y * 256 := wrapId (by omega) (by omega)
  have w3 : IntKind.wrap .i64 (x * 65536 + y * 256) = x * 65536 + y * 256 := wrapId (by omega) (by omega)
  have w4 : IntKind.wrap .i64 (x * 65536 + y * 256 + z) = x * 65536 + y * 256 + z := wrapId (by omega) (by omega)
  simp only [go_sem, kSt_ptr, Nat.reduceBEq, Nat.reduceAdd, Nat.reduceEqDiff, Nat.reduceLeDiff, Nat.reduceSub, reduceIte, Int.reduceBEq, Int.reduceEq, Int.reduceLT, Int.reduceLE, Int.reduceGT, Int.reduceGE, Int.reduceNe, Int.reduceBNe, hrem, w1, w2, w3, w4]
  exact ⟨fun _ e => (by cases e), _, rfl, ⟨_, rfl, fin _ (by omega)⟩, (hc.trans hc2).trans hc3⟩
theorem dr_spec_l1Once (cs) (n : Int) : DrawV (EE cs) 74 [.int .i64 n] BoolP := draw_of (st_spec_l1Once cs) fun code r h hcode hcur => by
  simp only [go_sem, kSt_ptr, Nat.reduceBEq, Nat.reduceAdd, Nat.reduceEqDiff, Nat.reduceLeDiff, Nat.reduceSub, reduceIte, Int.reduceBEq, Int.reduceEq, Int.reduceLT, Int.reduceLE, Int.reduceGT, Int.reduceGE, Int.reduceNe, Int.reduceBNe, s_spec_l1Once]
  refine hP_draw (dr_spec_l1Below cs n) hcode hcur ?_
  rintro _ ha ⟨x, rfl, hx⟩ hc
  simp only [go_sem, kSt_ptr, Nat.reduceBEq, Nat.reduceAdd, Nat.reduceEqDiff, Nat.reduceLeDiff, Nat.reduceSub, reduceIte, Int.reduceBEq, Int.reduceEq, Int.reduceLT, Int.reduceLE, Int.reduceGT, Int.reduceGE, Int.reduceNe, Int.reduceBNe]
  exact ⟨fun _ e => (by cases e), _, rfl, ⟨_, rfl⟩, hc⟩
theorem dr_spec_l1Int (cs) (l : List Int) (hl : l ≠ []) (id : Nat) : DrawV (EE cs) 57 [.app id (l.map intT.row)] (NumP (· ∈ l)) := draw_of (st_spec_l1Int cs) fun code r h hcode hcur => by
  have hpos := List.length_pos_iff.2 hl
  simp only [go_sem, kSt_ptr, Nat.reduceBEq, Nat.reduceAdd, Nat.reduceEqDiff, Nat.reduceLeDiff, Nat.reduceSub, reduceIte, Int.reduceBEq, Int.reduceEq, Int.reduceLT, Int.reduceLE, Int.reduceGT, Int.reduceGE, Int.reduceNe, Int.reduceBNe, s_spec_l1Int, List.length_map]
  refine hP_draw (dr_spec_l1Below cs (l.length : Int)) hcode hcur ?_
  rintro _ ha ⟨x, rfl, hx⟩ hc
  have hx : 0 ≤ x ∧ x < (l.length : Int) := by
    have h2 : (if (l.length : Int) ≤ 0 then x = 0 else 0 ≤ x ∧ x < (l.length : Int)) := hx
    rwa [if_neg (by omega)] at h2
  obtain ⟨v, hv⟩ : ∃ v, l[x.toNat]? = some v := ⟨_, List.getElem?_eq_getElem (by omega)⟩
  have hia : ∀ h, kIa 1 (.app id (l.map intT.row)) (.int .i64 x) h = some (.cptr [.int .i64 v], h) := fun h => kIa_app hx.1 (by rw [List.getElem?_map, hv]; rfl) rfl
  simp only [go_sem, kSt_ptr, Nat.reduceBEq, Nat.reduceAdd, Nat.reduceEqDiff, Nat.reduceLeDiff, Nat.reduceSub, reduceIte, Int.reduceBEq, Int.reduceEq, Int.reduceLT, Int.reduceLE, Int.reduceGT, Int.reduceGE, Int.reduceNe, Int.reduceBNe, hia]
  exact ⟨fun _ e => (by cases e), _, rfl, ⟨v, rfl, List.mem_of_getElem? hv⟩, hc⟩
theorem dr_spec_l1Str (cs) (l : List (List UInt8)) (hl : l ≠ []) (id : Nat) : DrawV (EE cs) 20 [.app id (l.map strT.row)] (StrP (· ∈ l)) := draw_of (st_spec_l1Str cs) fun code r h hcode hcur => by
  have hpos := List.length_pos_iff.2 hl
  simp only [go_sem, kSt_ptr, Nat.reduceBEq, Nat.reduceAdd, Nat.reduceEqDiff, Nat.reduceLeDiff, Nat.reduceSub, reduceIte, Int.reduceBEq, Int.reduceEq, Int.reduceLT, Int.reduceLE, Int.reduceGT, Int.reduceGE, Int.reduceNe, Int.reduceBNe, s_spec_l1Str, List.length_map]
  refine hP_draw (dr_spec_l1Below cs (l.length : Int)) hcode hcur ?_
  rintro _ ha ⟨x, rfl, hx⟩ hc
  have hx : 0 ≤ x ∧ x < (l.length : Int) := by
    have h2 : (if (l.length : Int) ≤ 0 then x = 0 else 0 ≤ x ∧ x < (l.length : Int)) := hx
    rwa [if_neg (by omega)] at h2
  obtain ⟨v, hv⟩ : ∃ v, l[x.toNat]? = some v := ⟨_, List.getElem?_eq_getElem (by omega)⟩
  have hia : ∀ h, kIa 1 (.app id (l.map strT.row)) (.int .i64 x) h = some (.cptr [.str v], h) := fun h => kIa_app hx.1 (by rw [List.getElem?_map, hv]; rfl) rfl
  simp only [go_sem, kSt_ptr, Nat.reduceBEq, Nat.reduceAdd, Nat.reduceEqDiff, Nat.reduceLeDiff, Nat.reduceSub, reduceIte, Int.reduceBEq, Int.reduceEq, Int.reduceLT, Int.reduceLE, Int.reduceGT, Int.reduceGE, Int.reduceNe, Int.reduceBNe, hia]
  exact ⟨fun _ e => (by cases e), _, rfl, ⟨v, rfl, List.mem_of_getElem? hv⟩, hc⟩
theorem dr_spec_l2Text (cs) : DrawV (EE cs) 75 [] (StrP fun s => s.length ≤ 40) := draw_of (st_spec_l2Text cs) fun code r h hcode hcur => by
  have f1 : fillR (List.replicate 10 [.str []]) 1 [(0, .str []), (1, .str [97]), (2, .str [98]), (3, .str [97, 98]), (4, .str [0]), (5, .str [97, 0]), (6, .str [0, 255]), (7, .str [255]), (8, .str [119, 111, 114, 100]), (9, .str [122])] = some [[.str []], [.str [97]], [.str [98]], [.str [97, 98]], [.str [0]], [.str [97, 0]], [.str [0, 255]], [.str [255]], [.str [119, 111, 114, 100]], [.str [122]]] := rfl
  have f1z : frzRows [[.str []], [.str [97]], [.str [98]], [.str [97, 98]], [.str [0]], [.str [97, 0]], [.str [0, 255]], [.str [255]], [.str [119, 111, 114, 100]], [.str [122]]] = some [[.str []], [.str [97]], [.str [98]], [.str [97, 98]], [.str [0]], [.str [97, 0]], [.str [0, 255]], [.str [255]], [.str [119, 111, 114, 100]], [.str [122]]] := rfl
  simp only [go_sem, kSt_ptr, Nat.reduceBEq, Nat.reduceAdd, Nat.reduceEqDiff, Nat.reduceLeDiff, Nat.reduceSub, reduceIte, Int.reduceBEq, Int.reduceEq, Int.reduceLT, Int.reduceLE, Int.reduceGT, Int.reduceGE, Int.reduceNe, Int.reduceBNe, s_spec_l2Text, f1, f1z]
  refine hP_draw (dr_spec_l1Str cs ([[], [97], [98], [97, 98], [0], [97, 0], [0, 255], [255], [119, 111, 114, 100], [122]] : List (List UInt8)) (by simp) _) hcode (hcur.same (by simp) rfl) ?_
  rintro _ ha ⟨s, rfl, hs⟩ hc
  simp only [go_sem, kSt_ptr, Nat.reduceBEq, Nat.reduceAdd, Nat.reduceEqDiff, Nat.reduceLeDiff, Nat.reduceSub, reduceIte, Int.reduceBEq, Int.reduceEq, Int.reduceLT, Int.reduceLE, Int.reduceGT, Int.reduceGE, Int.reduceNe, Int.reduceBNe]
  refine ⟨fun _ e => (by cases e), _, rfl, ⟨s, rfl, ?_⟩, hc.pre (by simp) (fun _ _ _ => rfl) (fun q hq => by simp; omega)⟩
  have : ∀ s ∈ ([[], [97], [98], [97, 98], [0], [97, 0], [0, 255], [255], [119, 111, 114, 100], [122]] : List (List UInt8)), s.length ≤ 40 := by decide
  exact this s hs
theorem dr_spec_l2Of (cs) (t : Int) (ht : 1 ≤ t ∧ t ≤ 4) : DrawV (EE cs) 56 [.int .i64 t, .bool true] ValP := draw_of (st_spec_l2Of cs) fun code r h hcode hcur => by
  have hrn := hcur.1
  have hne : ¬ r = h.nx := by omega
  have hne' : ¬ h.nx = r := by omega
  simp only [go_sem, kSt_ptr, Nat.reduceBEq, Nat.reduceAdd, Nat.reduceEqDiff, Nat.reduceLeDiff, Nat.reduceSub, reduceIte, Int.reduceBEq, Int.reduceEq, Int.reduceLT, Int.reduceLE, Int.reduceGT, Int.reduceGE, Int.reduceNe, Int.reduceBNe, s_spec_l2Of]
  refine hP_draw (dr_spec_l1Once cs 4) hcode (hcur.same (by simp) (by simp [hne])) ?_
  rintro _ ha ⟨b, rfl⟩ hc
  have s0 : CurS code r h ha := hc.pre (by simp) (fun q hq _ => by have : ¬ q = h.nx := (by omega); simp [this]) (fun _ _ => rfl)
  have h6 : ha.hp h.nx = some [.int .i64 0, .int .i64 0, .str []] := (hc.hp h.nx (by simp) hne').trans (by simp)
  have hnx : h.nx < ha.nx := Nat.lt_of_lt_of_le (by simp) hc.nx
  have n1 : ¬ h.nx = ha.nx := by omega
  have n2 : ¬ ha.nx = h.nx := by omega
  have n3 : ¬ r = ha.nx := by omega
  have n4 : ¬ ha.nx = r := by omega
  cases b with
  | true =>
    simp only [go_sem, kSt_ptr, Nat.reduceBEq, Nat.reduceAdd, Nat.reduceEqDiff, Nat.reduceLeDiff, Nat.reduceSub, reduceIte, Int.reduceBEq, Int.reduceEq, Int.reduceLT, Int.reduceLE, Int.reduceGT, Int.reduceGE, Int.reduceNe, Int.reduceBNe, h6, vFill0]
    exact ⟨fun _ e => (by cases e), _, rfl, ⟨⟨0, 0, []⟩, rfl, by unfold okVal; decide⟩, s0.put (b := h.nx) (Nat.le_refl _) hne' (by simp) (fun q hq _ => by simp [hq]) (fun _ _ => rfl)⟩
  | false =>
  have fin : ∀ (x : Int) (hx : -9223372036854775808 ≤ x ∧ x ≤ 9223372036854775807), okVal ⟨t, x, []⟩ := fun x hx => ⟨by simp, by show _ ≤ t; omega, by show t ≤ _; omega, hx.1, hx.2⟩
  have hra : r < ha.nx := by omega
  have nxt : ∀ (H hm : Hp) (cs0 : List AV), ha.nx < H.nx → H.hp ha.nx = some cs0 → (∀ q, q < ha.nx → H.hp q = ha.hp q) → (∀ q, q < ha.nx → H.ap q = ha.ap q) → CurS code r H hm → hm.hp ha.nx = some cs0 ∧ hm.hp h.nx = some [.int .i64 0, .int .i64 0, .str []] ∧ CurS code r h hm := fun H hm cs0 k1 k2 k3 k4 hq =>
    ⟨(hq.hp ha.nx k1 n4).trans k2, (hq.hp h.nx (by omega) hne').trans ((k3 h.nx hnx).trans h6), s0.trans (hq.pre (by omega) (fun q hq _ => k3 q hq) k4)⟩
  have c0 : ∀ H : Hp, ha.nx < H.nx → (∀ q, q < ha.nx → H.hp q = ha.hp q) → Cur code r H := fun H k1 k3 => s0.cur.same (by omega) (k3 r hra)
  have lo : ∀ q, q < ha.nx → ¬ q = ha.nx := fun q hq => by omega
  have lo2 : ∀ q, q < ha.nx → ¬ q = ha.nx + 1 := fun q hq => by omega
  have t4 : t = 1 ∨ t = 2 ∨ t = 3 ∨ t = 4 := by omega
  rcases t4 with rfl | rfl | rfl | rfl
  · have f1 : fillR (List.replicate 9 [.int .i64 0]) 1 [(0, .int .i64 0), (1, .int .i64 1), (2, .int .i64 2), (3, .int .i64 3), (4, .int .i64 (-1)), (5, .int .i64 255), (6, .int .i64 256), (7, .int .i64 2147483647), (8, .int .i64 (-2147483648))] = some [[.int .i64 0], [.int .i64 1], [.int .i64 2], [.int .i64 3], [.int .i64 (-1)], [.int .i64 255], [.int .i64 256], [.int .i64 2147483647], [.int .i64 (-2147483648)]] := rfl
    have f1z : frzRows [[.int .i64 0], [.int .i64 1], [.int .i64 2], [.int .i64 3], [.int .i64 (-1)], [.int .i64 255], [.int .i64 256], [.int .i64 2147483647], [.int .i64 (-2147483648)]] = some [[.int .i64 0], [.int .i64 1], [.int .i64 2], [.int .i64 3], [.int .i64 (-1)], [.int .i64 255], [.int .i64 256], [.int .i64 2147483647], [.int .i64 (-2147483648)]] := rfl
    simp only [go_sem, kSt_ptr, Nat.reduceBEq, Nat.reduceAdd, Nat.reduceEqDiff, Nat.reduceLeDiff, Nat.reduceSub, reduceIte, Int.reduceBEq, Int.reduceEq, Int.reduceLT, Int.reduceLE, Int.reduceGT, Int.reduceGE, Int.reduceNe, Int.reduceBNe, h6, vFillK, n1, n2, f1, f1z]
    refine hP_draw (dr_spec_l1Int cs ([0, 1, 2, 3, (-1), 255, 256, 2147483647, (-2147483648)] : List (Int)) (by simp) _) hcode (c0 _ (by simp <;> omega) (fun q hq => by simp [lo q hq])) ?_
    rintro _ hm ⟨x, rfl, hx⟩ hq
    obtain ⟨m1, m2, m3⟩ := nxt _ hm [.int .i64 1, .int .i64 0, .str []] (by simp <;> omega) (by simp) (fun q hq => by simp [lo q hq]) (fun q hq => by simp [lo2 q hq]) hq
    simp only [go_sem, kSt_ptr, Nat.reduceBEq, Nat.reduceAdd, Nat.reduceEqDiff, Nat.reduceLeDiff, Nat.reduceSub, reduceIte, Int.reduceBEq, Int.reduceEq, Int.reduceLT, Int.reduceLE, Int.reduceGT, Int.reduceGE, Int.reduceNe, Int.reduceBNe, m1, m2, n1, n2]
    have hx2 : -9223372036854775808 ≤ x ∧ x ≤ 9223372036854775807 := by
      simp only [List.mem_cons, List.not_mem_nil, or_false] at hx
      omega
    exact ⟨fun _ e => (by cases e), _, rfl, ⟨⟨1, x, []⟩, rfl, fin x hx2⟩, m3.put2 (b := h.nx) (b' := ha.nx) (Nat.le_refl _) hne' (by omega) n4 (by simp) (fun q q1 q2 _ => by simp [q1, q2]) (fun _ _ => rfl)⟩
  · simp only [go_sem, kSt_ptr, Nat.reduceBEq, Nat.reduceAdd, Nat.reduceEqDiff, Nat.reduceLeDiff, Nat.reduceSub, reduceIte, Int.reduceBEq, Int.reduceEq, Int.reduceLT, Int.reduceLE, Int.reduceGT, Int.reduceGE, Int.reduceNe, Int.reduceBNe, h6, vFillK, n1, n2]
    refine hP_draw (dr_spec_l1Below cs 100000) hcode (c0 _ (by simp <;> omega) (fun q hq => by simp [lo q hq])) ?_
    rintro _ hm ⟨y, rfl, hy⟩ hq
    replace hy : 0 ≤ y ∧ y < 100000 := hy
    have hw : IntKind.wrap .i64 (0 - y) = -y := by rw [wrapId (by omega) (by omega)]; omega
    obtain ⟨m1, m2, m3⟩ := nxt _ hm [.int .i64 2, .int .i64 0, .str []] (by simp <;> omega) (by simp) (fun q hq => by simp [lo q hq]) (fun q hq => by simp [lo2 q hq]) hq
    have hmx : ha.nx < hm.nx := Nat.lt_of_lt_of_le (by simp <;> omega) hq.nx
    have f2 : fillR (List.replicate 11 [.int .i64 0]) 1 [(0, .int .i64 0), (1, .int .i64 1), (2, .int .i64 (-1)), (3, .int .i64 255), (4, .int .i64 256), (5, .int .i64 (-256)), (6, .int .i64 (-257)), (7, .int .i64 65535), (8, .int .i64 1000000000000000), (9, .int .i64 (-1000000000000000)), (10, .int .i64 (-y))] = some [[.int .i64 0], [.int .i64 1], [.int .i64 (-1)], [.int .i64 255], [.int .i64 256], [.int .i64 (-256)], [.int .i64 (-257)], [.int .i64 65535], [.int .i64 1000000000000000], [.int .i64 (-1000000000000000)], [.int .i64 (-y)]] := rfl
    have f2z : frzRows [[.int .i64 0], [.int .i64 1], [.int .i64 (-1)], [.int .i64 255], [.int .i64 256], [.int .i64 (-256)], [.int .i64 (-257)], [.int .i64 65535], [.int .i64 1000000000000000], [.int .i64 (-1000000000000000)], [.int .i64 (-y)]] = some [[.int .i64 0], [.int .i64 1], [.int .i64 (-1)], [.int .i64 255], [.int .i64 256], [.int .i64 (-256)], [.int .i64 (-257)], [.int .i64 65535], [.int .i64 1000000000000000], [.int .i64 (-1000000000000000)], [.int .i64 (-y)]] := rfl
    simp only [go_sem, kSt_ptr, Nat.reduceBEq, Nat.reduceAdd, Nat.reduceEqDiff, Nat.reduceLeDiff, Nat.reduceSub, reduceIte, Int.reduceBEq, Int.reduceEq, Int.reduceLT, Int.reduceLE, Int.reduceGT, Int.reduceGE, Int.reduceNe, Int.reduceBNe, hw, f2, f2z]
    refine hP_draw (dr_spec_l1Int cs ([0, 1, (-1), 255, 256, (-256), (-257), 65535, 1000000000000000, (-1000000000000000), (-y)] : List (Int)) (by simp) _) hcode (m3.cur.same (by simp) rfl) ?_
    rintro _ hz ⟨x, rfl, hx⟩ hq2
    have g1 : hz.hp ha.nx = some [.int .i64 2, .int .i64 0, .str []] := (hq2.hp ha.nx (by simp; omega) n4).trans m1
    have g2 : hz.hp h.nx = some [.int .i64 0, .int .i64 0, .str []] := (hq2.hp h.nx (by simp; omega) hne').trans m2
    have g3 : CurS code r h hz := m3.trans (hq2.pre (by simp) (fun _ _ _ => rfl) (fun q hq => by simp; omega))
    simp only [go_sem, kSt_ptr, Nat.reduceBEq, Nat.reduceAdd, Nat.reduceEqDiff, Nat.reduceLeDiff, Nat.reduceSub, reduceIte, Int.reduceBEq, Int.reduceEq, Int.reduceLT, Int.reduceLE, Int.reduceGT, Int.reduceGE, Int.reduceNe, Int.reduceBNe, g1, g2, n1, n2]
    have hx2 : -9223372036854775808 ≤ x ∧ x ≤ 9223372036854775807 := by
      simp only [List.mem_cons, List.not_mem_nil, or_false] at hx
      omega
    exact ⟨fun _ e => (by cases e), _, rfl, ⟨⟨2, x, []⟩, rfl, fin x hx2⟩, g3.put2 (b := h.nx) (b' := ha.nx) (Nat.le_refl _) hne' (by omega) n4 (by simp) (fun q q1 q2 _ => by simp [q1, q2]) (fun _ _ => rfl)⟩
  · simp only [go_sem, kSt_ptr, Nat.reduceBEq, Nat.reduceAdd, Nat.reduceEqDiff, Nat.reduceLeDiff, Nat.reduceSub, reduceIte, Int.reduceBEq, Int.reduceEq, Int.reduceLT, Int.reduceLE, Int.reduceGT, Int.reduceGE, Int.reduceNe, Int.reduceBNe, h6, vFillK, n1, n2]
    refine hP_draw (dr_spec_l2Text cs) hcode (c0 _ (by simp <;> omega) (fun q hq => by simp [lo q hq])) ?_
    rintro _ hm ⟨s, rfl, hs⟩ hq
    obtain ⟨m1, m2, m3⟩ := nxt _ hm [.int .i64 3, .int .i64 0, .str []] (by simp <;> omega) (by simp) (fun q hq => by simp [lo q hq]) (fun q hq => by simp [lo2 q hq]) hq
    simp only [go_sem, kSt_ptr, Nat.reduceBEq, Nat.reduceAdd, Nat.reduceEqDiff, Nat.reduceLeDiff, Nat.reduceSub, reduceIte, Int.reduceBEq, Int.reduceEq, Int.reduceLT, Int.reduceLE, Int.reduceGT, Int.reduceGE, Int.reduceNe, Int.reduceBNe, m1, m2, n1, n2]
    exact ⟨fun _ e => (by cases e), _, rfl, ⟨⟨3, 0, s⟩, rfl, ⟨hs, by show (_ : Int) ≤ 3; omega, by show (3 : Int) ≤ _; omega, by show (_ : Int) ≤ 0; omega, by show (0 : Int) ≤ _; omega⟩⟩, m3.put2 (b := h.nx) (b' := ha.nx) (Nat.le_refl _) hne' (by omega) n4 (by simp) (fun q q1 q2 _ => by simp [q1, q2]) (fun _ _ => rfl)⟩
  · simp only [go_sem, kSt_ptr, Nat.reduceBEq, Nat.reduceAdd, Nat.reduceEqDiff, Nat.reduceLeDiff, Nat.reduceSub, reduceIte, Int.reduceBEq, Int.reduceEq, Int.reduceLT, Int.reduceLE, Int.reduceGT, Int.reduceGE, Int.reduceNe, Int.reduceBNe, h6, vFillK, n1, n2]
    refine hP_draw (dr_spec_l1Below cs 2) hcode (c0 _ (by simp <;> omega) (fun q hq => by simp [lo q hq])) ?_
    rintro _ hm ⟨x, rfl, hx⟩ hq
    replace hx : 0 ≤ x ∧ x < 2 := hx
    obtain ⟨m1, m2, m3⟩ := nxt _ hm [.int .i64 4, .int .i64 0, .str []] (by simp <;> omega) (by simp) (fun q hq => by simp [lo q hq]) (fun q hq => by simp [lo2 q hq]) hq
    simp only [go_sem, kSt_ptr, Nat.reduceBEq, Nat.reduceAdd, Nat.reduceEqDiff, Nat.reduceLeDiff, Nat.reduceSub, reduceIte, Int.reduceBEq, Int.reduceEq, Int.reduceLT, Int.reduceLE, Int.reduceGT, Int.reduceGE, Int.reduceNe, Int.reduceBNe, m1, m2, n1, n2]
    exact ⟨fun _ e => (by cases e), _, rfl, ⟨⟨4, x, []⟩, rfl, fin x (by omega)⟩, m3.put2 (b := h.nx) (b' := ha.nx) (Nat.le_refl _) hne' (by omega) n4 (by simp) (fun q q1 q2 _ => by simp [q1, q2]) (fun _ _ => rfl)⟩
theorem dr_spec_l2Draw (cs) : DrawV (EE cs) 42 [] ValP := draw_of (st_spec_l2Draw cs) fun code r h hcode hcur => by
  have hrn := hcur.1
  have hne : ¬ r = h.nx := by omega
  have hne' : ¬ h.nx = r := by omega
  simp only [go_sem, kSt_ptr, Nat.reduceBEq, Nat.reduceAdd, Nat.reduceEqDiff, Nat.reduceLeDiff, Nat.reduceSub, reduceIte, Int.reduceBEq, Int.reduceEq, Int.reduceLT, Int.reduceLE, Int.reduceGT, Int.reduceGE, Int.reduceNe, Int.reduceBNe, s_spec_l2Draw]
  refine hP_draw (dr_spec_l1Below cs 4) hcode (hcur.same (by simp) (by simp [hne])) ?_
  rintro _ ha ⟨x, rfl, hx⟩ hc
  replace hx : 0 ≤ x ∧ x < 4 := hx
  have hw : IntKind.wrap .i64 (1 + x) = 1 + x := wrapId (by omega) (by omega)
  simp only [go_sem, kSt_ptr, Nat.reduceBEq, Nat.reduceAdd, Nat.reduceEqDiff, Nat.reduceLeDiff, Nat.reduceSub, reduceIte, Int.reduceBEq, Int.reduceEq, Int.reduceLT, Int.reduceLE, Int.reduceGT, Int.reduceGE, Int.reduceNe, Int.reduceBNe, hw]
  refine hP_draw (dr_spec_l2Of cs (1 + x) (by omega)) hcode hc.cur ?_
  rintro _ hb ⟨v, rfl, hv⟩ hc2
  have h2 : hb.hp h.nx = some [.int .i64 0, .int .i64 0, .str []] := (hc2.hp h.nx (Nat.lt_of_lt_of_le (by simp) hc.nx) hne').trans ((hc.hp h.nx (by simp) hne').trans (by simp))
  have s1 : CurS code r h ha := (hc.pre (by simp) (fun q hq _ => by have : ¬ q = h.nx := (by omega); simp [this]) (fun _ _ => rfl))
  have s0 : CurS code r h hb := s1.trans hc2
  simp only [go_sem, kSt_ptr, Nat.reduceBEq, Nat.reduceAdd, Nat.reduceEqDiff, Nat.reduceLeDiff, Nat.reduceSub, reduceIte, Int.reduceBEq, Int.reduceEq, Int.reduceLT, Int.reduceLE, Int.reduceGT, Int.reduceGE, Int.reduceNe, Int.reduceBNe, h2, TVal.row]
  exact ⟨fun _ e => (by cases e), _, rfl, ⟨v, rfl, hv⟩, s0.put (b := h.nx) (Nat.le_refl _) hne' (by simp) (fun q hq _ => by simp [hq]) (fun _ _ => rfl)⟩
theorem dr_spec_l1Num (cs) : DrawV (EE cs) 43 [] (NumP fun x => -9223372036854775808 ≤ x ∧ x ≤ 9223372036854775807) := draw_of (st_spec_l1Num cs) fun code r h hcode hcur => by
  simp only [go_sem, kSt_ptr, Nat.reduceBEq, Nat.reduceAdd, Nat.reduceEqDiff, Nat.reduceLeDiff, Nat.reduceSub, reduceIte, Int.reduceBEq, Int.reduceEq, Int.reduceLT, Int.reduceLE, Int.reduceGT, Int.reduceGE, Int.reduceNe, Int.reduceBNe, s_spec_l1Num]
  refine hP_draw (dr_spec_l1Below cs 100000) hcode hcur ?_
  rintro _ ha ⟨x, rfl, hx⟩ hc
  simp only [go_sem, kSt_ptr, Nat.reduceBEq, Nat.reduceAdd, Nat.reduceEqDiff, Nat.reduceLeDiff, Nat.reduceSub, reduceIte, Int.reduceBEq, Int.reduceEq, Int.reduceLT, Int.reduceLE, Int.reduceGT, Int.reduceGE, Int.reduceNe, Int.reduceBNe]
  refine hP_draw (dr_spec_l1Below cs 100000) hcode hc.cur ?_
  rintro _ hb ⟨y, rfl, hy⟩ hc2
  replace hx : 0 ≤ x ∧ x < 100000 := hx
  replace hy : 0 ≤ y ∧ y < 100000 := hy
  have hw : IntKind.wrap .i64 (0 - y) = -y := by rw [wrapId (by omega) (by omega)]; omega
  have f1 : fillR (List.replicate 21 [.int .i64 0]) 1 [(0, .int .i64 0), (1, .int .i64 1), (2, .int .i64 (-1)), (3, .int .i64 63), (4, .int .i64 127), (5, .int .i64 128), (6, .int .i64 255), (7, .int .i64 256), (8, .int .i64 65535), (9, .int .i64 65536), (10, .int .i64 2147483647), (11, .int .i64 (-2147483648)), (12, .int .i64 2147483648), (13, .int .i64 (-2147483649)), (14, .int .i64 1000000000000000), (15, .int .i64 (-1000000000000000)), (16, .int .i64 1000000000000001), (17, .int .i64 9223372036854775807), (18, .int .i64 (-9223372036854775808)), (19, .int .i64 x), (20, .int .i64 (-y))] = some [[.int .i64 0], [.int .i64 1], [.int .i64 (-1)], [.int .i64 63], [.int .i64 127], [.int .i64 128], [.int .i64 255], [.int .i64 256], [.int .i64 65535], [.int .i64 65536], [.int .i64 2147483647], [.int .i64 (-2147483648)], [.int .i64 2147483648], [.int .i64 (-2147483649)], [.int .i64 1000000000000000], [.int .i64 (-1000000000000000)], [.int .i64 1000000000000001], [.int .i64 9223372036854775807], [.int .i64 (-9223372036854775808)], [.int .i64 x], [.int .i64 (-y)]] := rfl
  have f1z : frzRows [[.int .i64 0], [.int .i64 1], [.int .i64 (-1)], [.int .i64 63], [.int .i64 127], [.int .i64 128], [.int .i64 255], [.int .i64 256], [.int .i64 65535], [.int .i64 65536], [.int .i64 2147483647], [.int .i64 (-2147483648)], [.int .i64 2147483648], [.int .i64 (-2147483649)], [.int .i64 1000000000000000], [.int .i64 (-1000000000000000)], [.int .i64 1000000000000001], [.int .i64 9223372036854775807], [.int .i64 (-9223372036854775808)], [.int .i64 x], [.int .i64 (-y)]] = some [[.int .i64 0], [.int .i64 1], [.int .i64 (-1)], [.int .i64 63], [.int .i64 127], [.int .i64 128], [.int .i64 255], [.int .i64 256], [.int .i64 65535], [.int .i64 65536], [.int .i64 2147483647], [.int .i64 (-2147483648)], [.int .i64 2147483648], [.int .i64 (-2147483649)], [.int .i64 1000000000000000], [.int .i64 (-1000000000000000)], [.int .i64 1000000000000001], [.int .i64 9223372036854775807], [.int .i64 (-9223372036854775808)], [.int .i64 x], [.int .i64 (-y)]] := rfl
  simp only [go_sem, kSt_ptr, Nat.reduceBEq, Nat.reduceAdd, Nat.reduceEqDiff, Nat.reduceLeDiff, Nat.reduceSub, reduceIte, Int.reduceBEq, Int.reduceEq, Int.reduceLT, Int.reduceLE, Int.reduceGT, Int.reduceGE, Int.reduceNe, Int.reduceBNe, hw, f1, f1z]
  refine hP_draw (dr_spec_l1Int cs ([0, 1, (-1), 63, 127, 128, 255, 256, 65535, 65536, 2147483647, (-2147483648), 2147483648, (-2147483649), 1000000000000000, (-1000000000000000), 1000000000000001, 9223372036854775807, (-9223372036854775808), x, (-y)] : List (Int)) (by simp) _) hcode (hc2.cur.same (by simp) rfl) ?_
  rintro _ hd ⟨z, rfl, hz⟩ hc3
  simp only [go_sem, kSt_ptr, Nat.reduceBEq, Nat.reduceAdd, Nat.reduceEqDiff, Nat.reduceLeDiff, Nat.reduceSub, reduceIte, Int.reduceBEq, Int.reduceEq, Int.reduceLT, Int.reduceLE, Int.reduceGT, Int.reduceGE, Int.reduceNe, Int.reduceBNe]
  refine ⟨fun _ e => (by cases e), _, rfl, ⟨z, rfl, ?_⟩, (hc.trans hc2).trans (hc3.pre (by simp) (fun _ _ _ => rfl) (fun q hq => by simp; omega))⟩
  simp only [List.mem_cons, List.not_mem_nil, or_false] at hz
  omega
end Go.Proofs.YtbpafgbehkphoaaDoor.Rw
/- What the functions that FnRowTexts calls answer: part 5. -/
namespace Go.Proofs.YtbpafgbehkphoaaDoor.Rw
open Go Go.RowKit Go.Ev
set_option linter.unusedSimpArgs false
set_option linter.unusedVariables false
set_option maxHeartbeats 1600000
theorem dr_spec_l2Any (cs) : DrawV (EE cs) 27 [] ValP := draw_of (st_spec_l2Any cs) fun code r h hcode hcur => by
  have hrn := hcur.1
  have hne : ¬ r = h.nx := by omega
  have hne' : ¬ h.nx = r := by omega
  simp only [go_sem, kSt_ptr, Nat.reduceBEq, Nat.reduceAdd, Nat.reduceEqDiff, Nat.reduceLeDiff, Nat.reduceSub, reduceIte, Int.reduceBEq, Int.reduceEq, Int.reduceLT, Int.reduceLE, Int.reduceGT, Int.reduceGE, Int.reduceNe, Int.reduceBNe, s_spec_l2Any]
  refine hP_draw (dr_spec_l2Draw cs) hcode (hcur.same (by simp) (by simp [hne])) ?_
  rintro _ h1 ⟨v, rfl, hv⟩ hc1
  have s1 : CurS code r h h1 := hc1.pre (by simp) (fun q hq _ => by have : ¬ q = h.nx := (by omega); simp [this]) (fun _ _ => rfl)
  have g1 : h1.hp h.nx = some [.int .i64 0, .int .i64 0, .str []] := (hc1.hp h.nx (by simp) hne').trans (by simp)
  have hnx1 : h.nx < h1.nx := Nat.lt_of_lt_of_le (by simp) hc1.nx
  have n1 : ¬ h.nx = h1.nx := by omega
  have n2 : ¬ h1.nx = h.nx := by omega
  have n3 : ¬ r = h1.nx := by omega
  have n4 : ¬ h1.nx = r := by omega
  obtain ⟨vk, vn, vs⟩ := v
  simp only [go_sem, kSt_ptr, Nat.reduceBEq, Nat.reduceAdd, Nat.reduceEqDiff, Nat.reduceLeDiff, Nat.reduceSub, reduceIte, Int.reduceBEq, Int.reduceEq, Int.reduceLT, Int.reduceLE, Int.reduceGT, Int.reduceGE, Int.reduceNe, Int.reduceBNe, TVal.row]
  refine hP_draw (dr_spec_l1Below cs 10) hcode (s1.cur.same (by simp) (by simp [n3])) ?_
  rintro _ ha ⟨k, rfl, hk⟩ hc
  replace hk : 0 ≤ k ∧ k < 10 := hk
  have s0 : CurS code r h ha := s1.trans (hc.pre (by simp) (fun q hq _ => by have : ¬ q = h1.nx := (by omega); simp [this]) (fun _ _ => rfl))
  have h6 : ha.hp h.nx = some [.int .i64 0, .int .i64 0, .str []] := (hc.hp h.nx (by simp <;> omega) hne').trans (by simp [n1, g1])
  have h3 : ha.hp h1.nx = some [.int .i64 vk, .int .i64 vn, .str vs] := (hc.hp h1.nx (by simp) n4).trans (by simp)
  have hnx : h1.nx < ha.nx := Nat.lt_of_lt_of_le (by simp) hc.nx
  -- behind one more draw
  have nxt : ∀ (H hm : Hp), CurS code r H hm → ha.nx ≤ H.nx → (∀ q, q < ha.nx → H.hp q = ha.hp q) → (∀ q, q < ha.nx → H.ap q = ha.ap q) → hm.hp h1.nx = some [.int .i64 vk, .int .i64 vn, .str vs] ∧ hm.hp h.nx = some [.int .i64 0, .int .i64 0, .str []] ∧ CurS code r h hm := fun H hm hq k1 k3 k4 =>
    ⟨(hq.hp h1.nx (by omega) n4).trans ((k3 h1.nx hnx).trans h3), (hq.hp h.nx (by omega) hne').trans ((k3 h.nx (by omega)).trans h6), s0.trans (hq.pre k1 (fun q hq _ => k3 q hq) k4)⟩
  have c0 : ∀ H : Hp, ha.nx ≤ H.nx → (∀ q, q < ha.nx → H.hp q = ha.hp q) → Cur code r H := fun H k1 k3 => s0.cur.same k1 (k3 r (by omega))
  obtain ⟨hv1, hv2, hv3, hv4, hv5⟩ := hv
  simp only at hv1 hv2 hv3 hv4 hv5
  by_cases k0 : k = 0
  · subst k0
    simp only [go_sem, kSt_ptr, Nat.reduceBEq, Nat.reduceAdd, Nat.reduceEqDiff, Nat.reduceLeDiff, Nat.reduceSub, reduceIte, Int.reduceBEq, Int.reduceEq, Int.reduceLT, Int.reduceLE, Int.reduceGT, Int.reduceGE, Int.reduceNe, Int.reduceBNe]
    refine hP_draw (dr_spec_l1Below cs 6) hcode s0.cur ?_
    rintro _ hm ⟨x, rfl, hx⟩ hq
    replace hx : 0 ≤ x ∧ x < 6 := hx
    obtain ⟨m1, m2, m3⟩ := nxt _ hm hq (Nat.le_refl _) (fun _ _ => rfl) (fun _ _ => rfl)
    simp only [go_sem, kSt_ptr, Nat.reduceBEq, Nat.reduceAdd, Nat.reduceEqDiff, Nat.reduceLeDiff, Nat.reduceSub, reduceIte, Int.reduceBEq, Int.reduceEq, Int.reduceLT, Int.reduceLE, Int.reduceGT, Int.reduceGE, Int.reduceNe, Int.reduceBNe, m1, m2, n1, n2]
    exact ⟨fun _ e => (by cases e), _, rfl, ⟨⟨x, vn, vs⟩, rfl, ⟨hv1, by show _ ≤ x; omega, by show x ≤ _; omega, hv4, hv5⟩⟩, m3.put2 (b := h.nx) (b' := h1.nx) (Nat.le_refl _) hne' (by omega) n4 (by simp) (fun q q1 q2 _ => by simp [q1, q2]) (fun _ _ => rfl)⟩
  by_cases k1 : k = 1
  · subst k1
    simp only [go_sem, kSt_ptr, Nat.reduceBEq, Nat.reduceAdd, Nat.reduceEqDiff, Nat.reduceLeDiff, Nat.reduceSub, reduceIte, Int.reduceBEq, Int.reduceEq, Int.reduceLT, Int.reduceLE, Int.reduceGT, Int.reduceGE, Int.reduceNe, Int.reduceBNe]
    refine hP_draw (dr_spec_l1Num cs) hcode s0.cur ?_
    rintro _ hm ⟨x, rfl, hx⟩ hq
    obtain ⟨m1, m2, m3⟩ := nxt _ hm hq (Nat.le_refl _) (fun _ _ => rfl) (fun _ _ => rfl)
    simp only [go_sem, kSt_ptr, Nat.reduceBEq, Nat.reduceAdd, Nat.reduceEqDiff, Nat.reduceLeDiff, Nat.reduceSub, reduceIte, Int.reduceBEq, Int.reduceEq, Int.reduceLT, Int.reduceLE, Int.reduceGT, Int.reduceGE, Int.reduceNe, Int.reduceBNe, m1, m2, n1, n2]
    exact ⟨fun _ e => (by cases e), _, rfl, ⟨⟨vk, x, vs⟩, rfl, ⟨hv1, hv2, hv3, hx.1, hx.2⟩⟩, m3.put2 (b := h.nx) (b' := h1.nx) (Nat.le_refl _) hne' (by omega) n4 (by simp) (fun q q1 q2 _ => by simp [q1, q2]) (fun _ _ => rfl)⟩
  by_cases k2 : k = 2
  · subst k2
    simp only [go_sem, kSt_ptr, Nat.reduceBEq, Nat.reduceAdd, Nat.reduceEqDiff, Nat.reduceLeDiff, Nat.reduceSub, reduceIte, Int.reduceBEq, Int.reduceEq, Int.reduceLT, Int.reduceLE, Int.reduceGT, Int.reduceGE, Int.reduceNe, Int.reduceBNe]
    refine hP_draw (dr_spec_l1Below cs 2) hcode s0.cur ?_
    rintro _ hm ⟨x, rfl, hx⟩ hq
    replace hx : 0 ≤ x ∧ x < 2 := hx
    obtain ⟨m1, m2, m3⟩ := nxt _ hm hq (Nat.le_refl _) (fun _ _ => rfl) (fun _ _ => rfl)
    have hw : IntKind.wrap .i64 (30 + x) = 30 + x := wrapId (by omega) (by omega)
    obtain ⟨m, hm30⟩ : ∃ m : Nat, 30 + x = (m : Int) := ⟨(30 + x).toNat, by omega⟩
    have hw2 : IntKind.wrap .i64 (m : Int) = (m : Int) := wrapId (by omega) (by omega)
    have hmk : ∀ h, sMake false 1 [.int .u8 0] (.int .i64 (m : Int)) (.int .i64 (m : Int)) h = some (.app h.nx (List.replicate m [.int .u8 0]), h.newApp m 1) := fun h => sMake_z (by omega)
    have hcv : rowsBytes (List.replicate m [.int .u8 0]) = some (List.replicate m 0) := zeroBytes m
    simp only [go_sem, kSt_ptr, Nat.reduceBEq, Nat.reduceAdd, Nat.reduceEqDiff, Nat.reduceLeDiff, Nat.reduceSub, reduceIte, Int.reduceBEq, Int.reduceEq, Int.reduceLT, Int.reduceLE, Int.reduceGT, Int.reduceGE, Int.reduceNe, Int.reduceBNe, hw, hm30, hw2, hmk, hcv, m1, m2, n1, n2, rowsIn, notStr]
    exact ⟨fun _ e => (by cases e), _, rfl, ⟨⟨vk, vn, List.replicate m 0⟩, rfl, ⟨by simp; omega, hv2, hv3, hv4, hv5⟩⟩, m3.put2 (b := h.nx) (b' := h1.nx) (Nat.le_refl _) hne' (by omega) n4 (by simp) (fun q q1 q2 _ => by simp [q1, q2]) (fun q hq => by simp; omega)⟩
  by_cases k3 : k = 3
  · subst k3
    have f1 : fillR (List.replicate 4 [.str []]) 1 [(0, .str [105, 116, 39, 115]), (1, .str [97, 32, 98]), (2, .str [126]), (3, .str [127])] = some [[.str [105, 116, 39, 115]], [.str [97, 32, 98]], [.str [126]], [.str [127]]] := rfl
    have f1z : frzRows [[.str [105, 116, 39, 115]], [.str [97, 32, 98]], [.str [126]], [.str [127]]] = some [[.str [105, 116, 39, 115]], [.str [97, 32, 98]], [.str [126]], [.str [127]]] := rfl
    simp only [go_sem, kSt_ptr, Nat.reduceBEq, Nat.reduceAdd, Nat.reduceEqDiff, Nat.reduceLeDiff, Nat.reduceSub, reduceIte, Int.reduceBEq, Int.reduceEq, Int.reduceLT, Int.reduceLE, Int.reduceGT, Int.reduceGE, Int.reduceNe, Int.reduceBNe, f1, f1z]
    refine hP_draw (dr_spec_l1Str cs ([[105, 116, 39, 115], [97, 32, 98], [126], [127]] : List (List UInt8)) (by simp) _) hcode (c0 _ (by simp) (fun _ _ => rfl)) ?_
    rintro _ hm ⟨s, rfl, hs⟩ hq
    obtain ⟨m1, m2, m3⟩ := nxt _ hm hq (by simp) (fun _ _ => rfl) (fun q hq => by have : ¬ q = ha.nx := (by omega); simp [this])
    have hl : s.length ≤ 40 := (show ∀ s ∈ ([[105, 116, 39, 115], [97, 32, 98], [126], [127]] : List (List UInt8)), s.length ≤ 40 by decide) s hs
    simp only [go_sem, kSt_ptr, Nat.reduceBEq, Nat.reduceAdd, Nat.reduceEqDiff, Nat.reduceLeDiff, Nat.reduceSub, reduceIte, Int.reduceBEq, Int.reduceEq, Int.reduceLT, Int.reduceLE, Int.reduceGT, Int.reduceGE, Int.reduceNe, Int.reduceBNe, m1, m2, n1, n2]
    exact ⟨fun _ e => (by cases e), _, rfl, ⟨⟨vk, vn, s⟩, rfl, ⟨hl, hv2, hv3, hv4, hv5⟩⟩, m3.put2 (b := h.nx) (b' := h1.nx) (Nat.le_refl _) hne' (by omega) n4 (by simp) (fun q q1 q2 _ => by simp [q1, q2]) (fun _ _ => rfl)⟩
  have b0 := beqF k0
  have b1 := beqF k1
  have b2 := beqF k2
  have b3 := beqF k3
  simp only [go_sem, kSt_ptr, Nat.reduceBEq, Nat.reduceAdd, Nat.reduceEqDiff, Nat.reduceLeDiff, Nat.reduceSub, reduceIte, Int.reduceBEq, Int.reduceEq, Int.reduceLT, Int.reduceLE, Int.reduceGT, Int.reduceGE, Int.reduceNe, Int.reduceBNe, b0, b1, b2, b3, h3, h6, n1, n2]
  exact ⟨fun _ e => (by cases e), _, rfl, ⟨⟨vk, vn, vs⟩, rfl, ⟨hv1, hv2, hv3, hv4, hv5⟩⟩, s0.put (b := h.nx) (Nat.le_refl _) hne' (by simp) (fun q hq _ => by simp [hq]) (fun _ _ => rfl)⟩
/-- A drawn row. -/
def RowP : AV → Hp → Prop := fun v h => ∃ (id : Nat) (l : List TVal), v = .app id (l.map TVal.row) ∧ l.length ≤ 3 ∧ ∀ t ∈ l, okVal t
theorem L_spec_l28Row (cs) {code : List UInt8} {r : Nat} {h0 : Hp} (hcode : code.length ≤ 1048576) : ∀ (k id : Nat) (l : List TVal) (e : Ps) (h : Hp), l.length + k ≤ 3 → e 0 = .ptr r 0 → e 4 = .int .i64 (k : Int) → e 3 = .app id (l.map TVal.row) → h.ap id = some (l.length, 3) → h0.nx ≤ id → id < h.nx → (∀ t ∈ l, okVal t) → CurS code r h0 h →
    WL (EE cs) s_spec_l28Row_L0 e h fun x e' h' => x = .exit 0 ∧ CurS code r h0 h' ∧ RowP (e' 3) h'
  | 0, id, l, e, h, hl, e0, e4, e3, ha, hid, hid2, ho, hc => by
    refine .step (wp_sound _ _ _ _ ?_)
    simp only [go_sem, kSt_ptr, Nat.reduceBEq, Nat.reduceAdd, Nat.reduceEqDiff, Nat.reduceLeDiff, Nat.reduceSub, reduceIte, Int.reduceBEq, Int.reduceEq, Int.reduceLT, Int.reduceLE, Int.reduceGT, Int.reduceGE, Int.reduceNe, Int.reduceBNe, s_spec_l28Row_L0, e4, Int.lt_irrefl]
    exact ⟨hc, id, l, e3, by omega, ho⟩
  | k + 1, id, l, e, h, hl, e0, e4, e3, ha, hid, hid2, ho, hc => by
    have hpos : (0 : Int) < ((k + 1 : Nat) : Int) := by omega
    have hw : IntKind.wrap .i64 (((k + 1 : Nat) : Int) - 1) = (k : Int) := by rw [wrapId (by omega) (by omega)]; omega
    refine .step (.mono (wp_sound _ _ _ (fun x e1 h1 => x = .norm ∧ ∃ v : TVal, e1 0 = .ptr r 0 ∧ e1 4 = .int .i64 (k : Int) ∧ e1 3 = .app id ((l ++ [v]).map TVal.row) ∧ h1.ap id = some (l.length + 1, 3) ∧ id < h1.nx ∧ okVal v ∧ CurS code r h0 h1) ?_) ?_)
    · simp only [go_sem, kSt_ptr, Nat.reduceBEq, Nat.reduceAdd, Nat.reduceEqDiff, Nat.reduceLeDiff, Nat.reduceSub, reduceIte, Int.reduceBEq, Int.reduceEq, Int.reduceLT, Int.reduceLE, Int.reduceGT, Int.reduceGE, Int.reduceNe, Int.reduceBNe, s_spec_l28Row_L0, e0, e4, e3, hpos]
      refine hP_draw (dr_spec_l2Any cs) hcode hc.cur ?_
      rintro _ h1 ⟨v, rfl, hv⟩ hc1
      have hlt := Nat.lt_of_lt_of_le hid2 hc1.nx
      have hnid : ¬ id = h1.nx := by omega
      simp only [go_sem, kSt_ptr, Nat.reduceBEq, Nat.reduceAdd, Nat.reduceEqDiff, Nat.reduceLeDiff, Nat.reduceSub, reduceIte, Int.reduceBEq, Int.reduceEq, Int.reduceLT, Int.reduceLE, Int.reduceGT, Int.reduceGE, Int.reduceNe, Int.reduceBNe, TVal.row, vFillR, vFrzR]
      refine hP_appI (T := tVal) (l := l) [v] rfl (by simp [hnid, hc1.ap id hid2, ha]; rfl) rfl (by simp only [List.length_cons, List.length_nil]; unfold room; omega) ?_
      simp only [go_sem, kSt_ptr, Nat.reduceBEq, Nat.reduceAdd, Nat.reduceEqDiff, Nat.reduceLeDiff, Nat.reduceSub, reduceIte, Int.reduceBEq, Int.reduceEq, Int.reduceLT, Int.reduceLE, Int.reduceGT, Int.reduceGE, Int.reduceNe, Int.reduceBNe, e0, e4, hw]
      refine ⟨v, rfl, by simp; rfl, by omega, hv, (hc.trans hc1).cur.same (by simp) rfl, fun q hq hqr => (hc.trans hc1).hp q hq hqr, fun q hq => ?_, by have := (hc.trans hc1).nx; simp; omega⟩
      have q1 : ¬ q = id := by omega
      have q2 : ¬ q = h1.nx := by have := (hc.trans hc1).nx; omega
      simp [q1, q2, (hc.trans hc1).ap q hq]
    · rintro x e1 h1 ⟨rfl, v, q1, q2, q3, q4, q5, q6, q7⟩
      refine L_spec_l28Row cs hcode k id (l ++ [v]) e1 h1 (by simp; omega) q1 q2 q3 (by simpa using q4) hid q5 (fun t ht => ?_) q7
      rcases List.mem_append.1 ht with ht | ht
      · exact ho t ht
      · rw [List.mem_singleton] at ht; subst ht; exact q6
theorem dr_spec_l28Row (cs) : DrawV (EE cs) 15 [] RowP := draw_of (st_spec_l28Row cs) fun code r h hcode hcur => by
  simp only [go_sem, kSt_ptr, Nat.reduceBEq, Nat.reduceAdd, Nat.reduceEqDiff, Nat.reduceLeDiff, Nat.reduceSub, reduceIte, Int.reduceBEq, Int.reduceEq, Int.reduceLT, Int.reduceLE, Int.reduceGT, Int.reduceGE, Int.reduceNe, Int.reduceBNe, s_spec_l28Row, rep0, fill0, frz0]
  refine hP_draw (dr_spec_l1Below cs 4) hcode (hcur.same (by simp) rfl) ?_
  rintro _ ha ⟨x, rfl, hx⟩ hc
  replace hx : 0 ≤ x ∧ x < 4 := hx
  obtain ⟨k, rfl⟩ : ∃ k : Nat, x = (k : Int) := ⟨x.toNat, by omega⟩
  have s0 : CurS code r h ha := hc.pre (by simp) (fun _ _ _ => rfl) (fun q hq => by have : ¬ q = h.nx := (by omega); simp [this])
  simp only [go_sem, kSt_ptr, Nat.reduceBEq, Nat.reduceAdd, Nat.reduceEqDiff, Nat.reduceLeDiff, Nat.reduceSub, reduceIte, Int.reduceBEq, Int.reduceEq, Int.reduceLT, Int.reduceLE, Int.reduceGT, Int.reduceGE, Int.reduceNe, Int.reduceBNe]
  refine (L_spec_l28Row cs (h0 := h) hcode k h.nx [] _ ha (by simp; omega) (by simp only [go_sem, kSt_ptr, Nat.reduceBEq, Nat.reduceAdd, Nat.reduceEqDiff, Nat.reduceLeDiff, Nat.reduceSub, reduceIte, Int.reduceBEq, Int.reduceEq, Int.reduceLT, Int.reduceLE, Int.reduceGT, Int.reduceGE, Int.reduceNe, Int.reduceBNe]) (by simp only [go_sem, kSt_ptr, Nat.reduceBEq, Nat.reduceAdd, Nat.reduceEqDiff, Nat.reduceLeDiff, Nat.reduceSub, reduceIte, Int.reduceBEq, Int.reduceEq, Int.reduceLT, Int.reduceLE, Int.reduceGT, Int.reduceGE, Int.reduceNe, Int.reduceBNe]) (by simp only [go_sem, kSt_ptr, Nat.reduceBEq, Nat.reduceAdd, Nat.reduceEqDiff, Nat.reduceLeDiff, Nat.reduceSub, reduceIte, Int.reduceBEq, Int.reduceEq, Int.reduceLT, Int.reduceLE, Int.reduceGT, Int.reduceGE, Int.reduceNe, Int.reduceBNe, List.map_nil]) ((hc.ap h.nx (by simp)).trans (by simp)) (Nat.le_refl _) (Nat.lt_of_lt_of_le (by simp) hc.nx) (fun t ht => (by cases ht)) s0).mono ?_
  rintro x e' h' ⟨rfl, hq, hr⟩
  simp only [go_sem, kSt_ptr, Nat.reduceBEq, Nat.reduceAdd, Nat.reduceEqDiff, Nat.reduceLeDiff, Nat.reduceSub, reduceIte, Int.reduceBEq, Int.reduceEq, Int.reduceLT, Int.reduceLE, Int.reduceGT, Int.reduceGE, Int.reduceNe, Int.reduceBNe]
  exact ⟨fun _ e => (by cases e), _, rfl, hr, hq⟩
theorem run_spec_DrawRowText (cs) (code : List UInt8) (h : Hp) (hcode : code.length ≤ 1048576) : ∃ v h', RunF (EE cs) 5 [.imm (code.map u8T.row)] h (v, h') ∧ RowP v h' := by
  have : ∃ rr, RunF (EE cs) 5 [.imm (code.map u8T.row)] h rr ∧ RowP rr.1 rr.2 := by
    refine run_wp (st_spec_DrawRowText cs) ?_
    simp only [go_sem, kSt_ptr, Nat.reduceBEq, Nat.reduceAdd, Nat.reduceEqDiff, Nat.reduceLeDiff, Nat.reduceSub, reduceIte, Int.reduceBEq, Int.reduceEq, Int.reduceLT, Int.reduceLE, Int.reduceGT, Int.reduceGE, Int.reduceNe, Int.reduceBNe, s_spec_DrawRowText]
    obtain ⟨r, h1, k1, k2, k3⟩ := run_spec_l1New cs code h hcode
    refine hP_call k1 ?_
    simp only [go_sem, kSt_ptr, Nat.reduceBEq, Nat.reduceAdd, Nat.reduceEqDiff, Nat.reduceLeDiff, Nat.reduceSub, reduceIte, Int.reduceBEq, Int.reduceEq, Int.reduceLT, Int.reduceLE, Int.reduceGT, Int.reduceGE, Int.reduceNe, Int.reduceBNe]
    refine hP_draw (dr_spec_l28Row cs) hcode k2 ?_
    intro v h2 hv hc
    simp only [go_sem, kSt_ptr, Nat.reduceBEq, Nat.reduceAdd, Nat.reduceEqDiff, Nat.reduceLeDiff, Nat.reduceSub, reduceIte, Int.reduceBEq, Int.reduceEq, Int.reduceLT, Int.reduceLE, Int.reduceGT, Int.reduceGE, Int.reduceNe, Int.reduceBNe]
    exact ⟨fun _ e => (by cases e), _, rfl, hv⟩
  obtain ⟨⟨v, h'⟩, h1, h2⟩ := this
  exact ⟨v, h', h1, h2⟩
theorem ev_spec_l1In (cs) (x a b : Int) : ∃ k n, out (EE cs) k n 55 [.int .i64 x, .int .i64 a, .int .i64 b] = some (.bool (inR x a b)) := by
  refine out_K (n := 0) (st_spec_l1In cs) ?_
  by_cases h1 : a ≤ x
  · simp only [go_sem, kSt_ptr, Nat.reduceBEq, Nat.reduceAdd, Nat.reduceEqDiff, Nat.reduceLeDiff, Nat.reduceSub, reduceIte, Int.reduceBEq, Int.reduceEq, Int.reduceLT, Int.reduceLE, Int.reduceGT, Int.reduceGE, Int.reduceNe, Int.reduceBNe, s_spec_l1In, h1, inR]
  · simp only [go_sem, kSt_ptr, Nat.reduceBEq, Nat.reduceAdd, Nat.reduceEqDiff, Nat.reduceLeDiff, Nat.reduceSub, reduceIte, Int.reduceBEq, Int.reduceEq, Int.reduceLT, Int.reduceLE, Int.reduceGT, Int.reduceGE, Int.reduceNe, Int.reduceBNe, s_spec_l1In, h1, inR]
noncomputable def C_spec_l1In := ct (fun a : Int × Int × Int => [.int .i64 a.1, .int .i64 a.2.1, .int .i64 a.2.2]) (fun _ => True) .bool fun a => inR a.1 a.2.1 a.2.2
theorem C_spec_l1In_eq (x a b : Int) : C_spec_l1In [.int .i64 x, .int .i64 a, .int .i64 b] = some (.bool (inR x a b)) := by
  unfold C_spec_l1In
  exact ct_eq (a := (x, a, b)) (fun a b h => by
    simp only [List.cons.injEq, AV.int.injEq, and_true, true_and] at h
    exact Prod.ext h.1 (Prod.ext h.2.1 h.2.2)) trivial
theorem ok_spec_l1In {WI} (hs : Stable WI) (cs) (hT : TOK (EE cs) WI) : PureOK Tryd.prog WI 55 C_spec_l1In :=
  pure_out hT hs (by rw [st_spec_l1In]; rfl) fun a _ => ev_spec_l1In cs a.1 a.2.1 a.2.2
theorem ev_spec_ValOk (cs) (hT : (EE cs).T 55 = some C_spec_l1In) (v : TVal) : ∃ k n, out (EE cs) k n 39 [.agg v.row] = some (.bool (valOk v)) := by
  refine out_K (n := 0) (st_spec_ValOk cs) ?_
  by_cases h0 : v.fK = 0
  · by_cases hn : v.fN = 0
    · simp only [go_sem, kSt_ptr, Nat.reduceBEq, Nat.reduceAdd, Nat.reduceEqDiff, Nat.reduceLeDiff, Nat.reduceSub, reduceIte, Int.reduceBEq, Int.reduceEq, Int.reduceLT, Int.reduceLE, Int.reduceGT, Int.reduceGE, Int.reduceNe, Int.reduceBNe, s_spec_ValOk, TVal.row, h0, hn, valOk]
    · simp only [go_sem, kSt_ptr, Nat.reduceBEq, Nat.reduceAdd, Nat.reduceEqDiff, Nat.reduceLeDiff, Nat.reduceSub, reduceIte, Int.reduceBEq, Int.reduceEq, Int.reduceLT, Int.reduceLE, Int.reduceGT, Int.reduceGE, Int.reduceNe, Int.reduceBNe, s_spec_ValOk, TVal.row, h0, hn, beqF hn, valOk]
  by_cases h1 : v.fK = 1
  · cases hn : inR v.fN (-2147483648) 2147483647
    · simp only [go_sem, kSt_ptr, Nat.reduceBEq, Nat.reduceAdd, Nat.reduceEqDiff, Nat.reduceLeDiff, Nat.reduceSub, reduceIte, Int.reduceBEq, Int.reduceEq, Int.reduceLT, Int.reduceLE, Int.reduceGT, Int.reduceGE, Int.reduceNe, Int.reduceBNe, s_spec_ValOk, TVal.row, h1, hn, valOk, hT, C_spec_l1In_eq]
    · simp only [go_sem, kSt_ptr, Nat.reduceBEq, Nat.reduceAdd, Nat.reduceEqDiff, Nat.reduceLeDiff, Nat.reduceSub, reduceIte, Int.reduceBEq, Int.reduceEq, Int.reduceLT, Int.reduceLE, Int.reduceGT, Int.reduceGE, Int.reduceNe, Int.reduceBNe, s_spec_ValOk, TVal.row, h1, hn, valOk, hT, C_spec_l1In_eq]
  by_cases h2 : v.fK = 2
  · cases hn : inR v.fN (-1000000000000000) 1000000000000000
    · simp only [go_sem, kSt_ptr, Nat.reduceBEq, Nat.reduceAdd, Nat.reduceEqDiff, Nat.reduceLeDiff, Nat.reduceSub, reduceIte, Int.reduceBEq, Int.reduceEq, Int.reduceLT, Int.reduceLE, Int.reduceGT, Int.reduceGE, Int.reduceNe, Int.reduceBNe, s_spec_ValOk, TVal.row, h2, hn, valOk, hT, C_spec_l1In_eq]
    · simp only [go_sem, kSt_ptr, Nat.reduceBEq, Nat.reduceAdd, Nat.reduceEqDiff, Nat.reduceLeDiff, Nat.reduceSub, reduceIte, Int.reduceBEq, Int.reduceEq, Int.reduceLT, Int.reduceLE, Int.reduceGT, Int.reduceGE, Int.reduceNe, Int.reduceBNe, s_spec_ValOk, TVal.row, h2, hn, valOk, hT, C_spec_l1In_eq]
  by_cases h3 : v.fK = 3
  · by_cases hn : (v.fS.length : Int) ≤ 30
    · simp only [go_sem, kSt_ptr, Nat.reduceBEq, Nat.reduceAdd, Nat.reduceEqDiff, Nat.reduceLeDiff, Nat.reduceSub, reduceIte, Int.reduceBEq, Int.reduceEq, Int.reduceLT, Int.reduceLE, Int.reduceGT, Int.reduceGE, Int.reduceNe, Int.reduceBNe, s_spec_ValOk, TVal.row, h3, hn, valOk, hT, C_spec_l1In_eq]
    · simp only [go_sem, kSt_ptr, Nat.reduceBEq, Nat.reduceAdd, Nat.reduceEqDiff, Nat.reduceLeDiff, Nat.reduceSub, reduceIte, Int.reduceBEq, Int.reduceEq, Int.reduceLT, Int.reduceLE, Int.reduceGT, Int.reduceGE, Int.reduceNe, Int.reduceBNe, s_spec_ValOk, TVal.row, h3, hn, valOk, hT, C_spec_l1In_eq]
  by_cases h4 : v.fK = 4
  · cases hn : inR v.fN 0 1
    · simp only [go_sem, kSt_ptr, Nat.reduceBEq, Nat.reduceAdd, Nat.reduceEqDiff, Nat.reduceLeDiff, Nat.reduceSub, reduceIte, Int.reduceBEq, Int.reduceEq, Int.reduceLT, Int.reduceLE, Int.reduceGT, Int.reduceGE, Int.reduceNe, Int.reduceBNe, s_spec_ValOk, TVal.row, h4, hn, valOk, hT, C_spec_l1In_eq]
    · simp only [go_sem, kSt_ptr, Nat.reduceBEq, Nat.reduceAdd, Nat.reduceEqDiff, Nat.reduceLeDiff, Nat.reduceSub, reduceIte, Int.reduceBEq, Int.reduceEq, Int.reduceLT, Int.reduceLE, Int.reduceGT, Int.reduceGE, Int.reduceNe, Int.reduceBNe, s_spec_ValOk, TVal.row, h4, hn, valOk, hT, C_spec_l1In_eq]
  simp only [go_sem, kSt_ptr, Nat.reduceBEq, Nat.reduceAdd, Nat.reduceEqDiff, Nat.reduceLeDiff, Nat.reduceSub, reduceIte, Int.reduceBEq, Int.reduceEq, Int.reduceLT, Int.reduceLE, Int.reduceGT, Int.reduceGE, Int.reduceNe, Int.reduceBNe, s_spec_ValOk, TVal.row, h0, h1, h2, h3, h4, beqF h0, beqF h1, beqF h2, beqF h3, beqF h4, valOk, hT, C_spec_l1In_eq]
noncomputable def C_spec_ValOk := ct (fun a : TVal => [.agg a.row]) (fun _ => True) .bool valOk
theorem C_spec_ValOk_eq (k n : Int) (s : List UInt8) : C_spec_ValOk [.agg [.int .i64 k, .int .i64 n, .str s]] = some (.bool (valOk ⟨k, n, s⟩)) := by
  unfold C_spec_ValOk
  exact ct_eq (a := (⟨k, n, s⟩ : TVal)) (fun a b h => by
    simp only [List.cons.injEq, AV.agg.injEq, and_true] at h
    exact TVal.inj _ _ h) trivial
theorem ok_spec_ValOk {WI} (hs : Stable WI) (cs) (hT : TOK (EE cs) WI) (h : (EE cs).T 55 = some C_spec_l1In) : PureOK Tryd.prog WI 39 C_spec_ValOk := pure_out hT hs (by rw [st_spec_ValOk]; rfl) fun a _ => ev_spec_ValOk cs h a
theorem L_spec_l2Plain (cs) (hT : (EE cs).T 55 = some C_spec_l1In) (s : List UInt8) (hs : s.length ≤ 9223372036854775807) : ∀ (rest pre : List UInt8) (e : Ps) (h : Hp), s = pre ++ rest → e 0 = .str s → e 3 = .int .i64 pre.length →
    WL (EE cs) s_spec_l2Plain_L0 e h fun x e' h' => h' = h ∧ if rest.all plainB = true then x = .exit 0 else x = .ret ∧ e' 2 = .bool false
  | [], pre, e, h, hl, h0, h3 => by
    refine .step (.sim ?_)
    simp only [go_sem, kSt_ptr, Nat.reduceBEq, Nat.reduceAdd, Nat.reduceEqDiff, Nat.reduceLeDiff, Nat.reduceSub, reduceIte, Int.reduceBEq, Int.reduceEq, Int.reduceLT, Int.reduceLE, Int.reduceGT, Int.reduceGE, Int.reduceNe, Int.reduceBNe, s_spec_l2Plain_L0, h0, h3, lt_end hl, List.all_nil]
  | b :: rest, pre, e, h, hl, h0, h3 => by
    have hlt : pre.length < s.length := by rw [hl]; simp
    have hw : IntKind.wrap .i64 ((pre.length : Int) + 1) = (pre.length : Int) + 1 := wrapId (by omega) (by omega)
    have out : ∀ hp : plainB b = false, ∀ (Q : QS), (∀ e', e' 2 = .bool false → Q .ret e' h) → W (EE cs) s_spec_l2Plain_L0 e h Q := by
      intro hp Q hQ
      refine .mono (.sim (Q := fun x e1 h1 => x = .ret ∧ h1 = h ∧ e1 2 = .bool false) ?_) ?_
      · cases hi : inR b.toNat 32 126
        · simp only [go_sem, kSt_ptr, Nat.reduceBEq, Nat.reduceAdd, Nat.reduceEqDiff, Nat.reduceLeDiff, Nat.reduceSub, reduceIte, Int.reduceBEq, Int.reduceEq, Int.reduceLT, Int.reduceLE, Int.reduceGT, Int.reduceGE, Int.reduceNe, Int.reduceBNe, s_spec_l2Plain_L0, h0, h3, lt_map hl, kIx_at hl, u8Id, hT, C_spec_l1In_eq, hi]
        · by_cases hb : (b.toNat : Int) = 39
          · have hbe : ((b.toNat : Int) == 39) = true := by simpa using hb
            simp only [go_sem, kSt_ptr, Nat.reduceBEq, Nat.reduceAdd, Nat.reduceEqDiff, Nat.reduceLeDiff, Nat.reduceSub, reduceIte, Int.reduceBEq, Int.reduceEq, Int.reduceLT, Int.reduceLE, Int.reduceGT, Int.reduceGE, Int.reduceNe, Int.reduceBNe, s_spec_l2Plain_L0, h0, h3, lt_map hl, kIx_at hl, u8Id, hT, C_spec_l1In_eq, hi, hbe]
          · exact absurd hp (by simp only [plainB, hi, beqF hb]; decide)
      · rintro _ e1 _ ⟨rfl, rfl, h2⟩
        exact hQ e1 h2
    cases hp : plainB b
    · refine .step (out hp _ fun e' h2 => ?_)
      simp [hp, h2]
    · simp only [plainB, Bool.and_eq_true, Bool.not_eq_true'] at hp
      refine .step (.mono (.sim (Q := fun x e1 h1 => x = .norm ∧ h1 = h ∧ e1 0 = .str s ∧ e1 3 = .int .i64 ((pre.length : Int) + 1)) ?_) ?_)
      · simp only [go_sem, kSt_ptr, Nat.reduceBEq, Nat.reduceAdd, Nat.reduceEqDiff, Nat.reduceLeDiff, Nat.reduceSub, reduceIte, Int.reduceBEq, Int.reduceEq, Int.reduceLT, Int.reduceLE, Int.reduceGT, Int.reduceGE, Int.reduceNe, Int.reduceBNe, s_spec_l2Plain_L0, h0, h3, lt_map hl, kIx_at hl, u8Id, hT, C_spec_l1In_eq, hp.1, hp.2, hw]
      · rintro _ e1 _ ⟨rfl, rfl, he0, he3⟩
        refine (L_spec_l2Plain cs hT s hs rest (pre ++ [b]) e1 _ (by rw [hl]; simp) he0 (by rw [he3]; simp)).mono ?_
        have hp' : plainB b = true := by simp only [plainB, hp.1, hp.2]; rfl
        simp only [List.all_cons, hp', Bool.true_and]
        exact fun _ _ _ h => h
theorem ev_spec_l2Plain (cs) (hT : (EE cs).T 55 = some C_spec_l1In) (s : List UInt8) (hs : s.length ≤ 9223372036854775807) : ∃ k n, out (EE cs) k n 40 [.str s] = some (.bool (s.all plainB)) := by
  refine out_W (n := 0) (st_spec_l2Plain cs) ?_
  show W _ (.seq _ (.seq (.seq _ (.blk 0 (.loop s_spec_l2Plain_L0))) _)) _ _ _
  refine .cut (M := fun e1 h1 => h1 = Hp.empty ∧ e1 0 = .str s) (.sim (by simp only [go_sem, kSt_ptr, Nat.reduceBEq, Nat.reduceAdd, Nat.reduceEqDiff, Nat.reduceLeDiff, Nat.reduceSub, reduceIte, Int.reduceBEq, Int.reduceEq, Int.reduceLT, Int.reduceLE, Int.reduceGT, Int.reduceGE, Int.reduceNe, Int.reduceBNe])) ?_
  rintro e1 h1 ⟨rfl, k0⟩
  refine .seq (.cut (M := fun e2 h2 => h2 = Hp.empty ∧ e2 0 = .str s ∧ e2 3 = .int .i64 0) (.sim (by simp only [go_sem, kSt_ptr, Nat.reduceBEq, Nat.reduceAdd, Nat.reduceEqDiff, Nat.reduceLeDiff, Nat.reduceSub, reduceIte, Int.reduceBEq, Int.reduceEq, Int.reduceLT, Int.reduceLE, Int.reduceGT, Int.reduceGE, Int.reduceNe, Int.reduceBNe, k0])) ?_)
  rintro e2 h2 ⟨rfl, k0, k3⟩
  refine .blk (.loop ((L_spec_l2Plain cs hT s hs s [] e2 Hp.empty rfl k0 k3).mono ?_))
  rintro x e' h' ⟨rfl, j2⟩
  split at j2
  · rename_i hz
    subst j2
    rw [outOf_exit]
    refine .sim ?_
    simp only [go_sem, kSt_ptr, Nat.reduceBEq, Nat.reduceAdd, Nat.reduceEqDiff, Nat.reduceLeDiff, Nat.reduceSub, reduceIte, Int.reduceBEq, Int.reduceEq, Int.reduceLT, Int.reduceLE, Int.reduceGT, Int.reduceGE, Int.reduceNe, Int.reduceBNe, s_spec_l2Plain, hz]
  · rename_i hz
    have hz' : s.all plainB = false := by simpa using hz
    obtain ⟨rfl, j3⟩ := j2
    simp only [go_sem, kSt_ptr, Nat.reduceBEq, Nat.reduceAdd, Nat.reduceEqDiff, Nat.reduceLeDiff, Nat.reduceSub, reduceIte, Int.reduceBEq, Int.reduceEq, Int.reduceLT, Int.reduceLE, Int.reduceGT, Int.reduceGE, Int.reduceNe, Int.reduceBNe, s_spec_l2Plain, j3, hz']
noncomputable def C_spec_l2Plain := ct (fun a : List UInt8 => [.str a]) (fun a => a.length ≤ 9223372036854775807) .bool fun a => a.all plainB
theorem C_spec_l2Plain_eq (s : List UInt8) (hs : s.length ≤ 9223372036854775807) : C_spec_l2Plain [.str s] = some (.bool (s.all plainB)) := by
  unfold C_spec_l2Plain
  exact ct_eq (a := s) (fun a b h => by simpa using h) hs
theorem ok_spec_l2Plain {WI} (hs : Stable WI) (cs) (hT : TOK (EE cs) WI) (h : (EE cs).T 55 = some C_spec_l1In) : PureOK Tryd.prog WI 40 C_spec_l2Plain := pure_out hT hs (by rw [st_spec_l2Plain]; rfl) fun a h1 => ev_spec_l2Plain cs h a h1
end Go.Proofs.YtbpafgbehkphoaaDoor.Rw
/- What the functions that FnRowTexts calls answer: part 6. -/
namespace Go.Proofs.YtbpafgbehkphoaaDoor.Rw
open Go Go.RowKit Go.Ev
set_option linter.unusedSimpArgs false
set_option linter.unusedVariables false
set_option maxHeartbeats 1600000
theorem u8dig (d : Nat) (h : d < 10) : rowsBytes [[.int .u8 (IntKind.wrap .u8 (IntKind.wrap .i64 (48 + (d : Int))))]] = some [UInt8.ofNat (48 + d)] := by
  have h1 : IntKind.wrap .i64 (48 + (d : Int)) = 48 + (d : Int) := wrapId (by omega) (by omega)
  have h2 : IntKind.wrap .u8 (48 + (d : Int)) = 48 + (d : Int) := by
    simp [IntKind.wrap, IntKind.bits, IntKind.signed]
    omega
  rw [h1, h2]
  simp only [rowsBytes, rowByte, Option.bind_some, Option.map_some]
  congr 2
noncomputable def C_spec_l2Num := ct (fun a : Int => [.int .i64 a]) (fun a => -1000000000000000 ≤ a ∧ a ≤ 1000000000000000) .str Lib.itoa
theorem C_spec_l2Num_eq (n : Int) (hn : -1000000000000000 ≤ n ∧ n ≤ 1000000000000000) : C_spec_l2Num [.int .i64 n] = some (.str (Lib.itoa n)) := by
  unfold C_spec_l2Num
  exact ct_eq (a := n) (fun a b h => by simpa using h) hn
noncomputable def CL_spec_l2Num (m : Nat) := ct (fun a : Nat => [.int .i64 (a : Int)]) (fun a => a < 10 ^ m ∧ m ≤ 18) .str Lib.decDigits
theorem CL_spec_l2Num_eq (m a : Nat) (h : a < 10 ^ m ∧ m ≤ 18) : CL_spec_l2Num m [.int .i64 (a : Int)] = some (.str (Lib.decDigits a)) := by
  unfold CL_spec_l2Num
  exact ct_eq (a := a) (fun a b h => by simp at h; omega) h
theorem evs_spec_l2Num (cs) (a : Nat) (h : a < 10) : ∃ k n, out (EE cs) k n 41 [.int .i64 (a : Int)] = some (.str (Lib.decDigits a)) := by
  refine out_K (n := 0) (st_spec_l2Num cs) ?_
  have h1 : ¬ (a : Int) < 0 := by omega
  have h2 : (a : Int) < 10 := by omega
  have hd := u8dig a h
  have he := Lib.decDigits_one h
  simp only [go_sem, kSt_ptr, Nat.reduceBEq, Nat.reduceAdd, Nat.reduceEqDiff, Nat.reduceLeDiff, Nat.reduceSub, reduceIte, Int.reduceBEq, Int.reduceEq, Int.reduceLT, Int.reduceLE, Int.reduceGT, Int.reduceGE, Int.reduceNe, Int.reduceBNe, s_spec_l2Num, h1, h2, hd, he, fillR, List.replicate, frzRows, notStr, rowsIn, isAggV, List.set, Nat.reduceLT, Nat.lt_irrefl, Bool.not_false, Bool.true_or, Option.some.injEq, List.set_cons_zero]
theorem dec_len {a : Nat} (h : a < 10 ^ 18) : (Lib.decDigits a).length ≤ 21 := by
  have := Lib.itoa_length_le (a : Int) (by omega) (by omega)
  rw [Lib.itoa_nonneg] at this
  exact this
theorem evr_spec_l2Num (cs) (m : Nat) (hT : (EE cs).T 41 = some (CL_spec_l2Num m)) (a : Nat) (h10 : 10 ≤ a) (h : a < 10 ^ (m + 1)) (hm : m + 1 ≤ 18) : ∃ k n, out (EE cs) k n 41 [.int .i64 (a : Int)] = some (.str (Lib.decDigits a)) := by
  refine out_K (n := 0) (st_spec_l2Num cs) ?_
  have hb : a < 10 ^ 18 := Nat.lt_of_lt_of_le h (Nat.pow_le_pow_right (by omega) hm)
  have h1 : ¬ (a : Int) < 0 := by omega
  have h2 : ¬ (a : Int) < 10 := by omega
  have hq : a / 10 < 10 ^ m := by rw [Nat.pow_succ] at h; omega
  have hd := u8dig (a % 10) (Nat.mod_lt _ (by omega))
  have eq : IntKind.wrap .i64 ((a : Int).tdiv 10) = ((a / 10 : Nat) : Int) := by
    rw [show (a : Int).tdiv 10 = ((a / 10 : Nat) : Int) from rfl]
    exact wrapId (by omega) (by omega)
  have er : (a : Int).tmod 10 = ((a % 10 : Nat) : Int) := rfl
  have kq : ∀ h, kBin .quo (.int .i64 (a : Int)) (.int .i64 10) h = some (.int .i64 ((a / 10 : Nat) : Int), h) := fun h => by rw [kBin_quo _ _ _ (by decide), eq]
  have kr : ∀ h, kBin .rem (.int .i64 (a : Int)) (.int .i64 10) h = some (.int .i64 ((a % 10 : Nat) : Int), h) := fun h => by rw [kBin_rem _ _ _ (by decide), er]
  have c55 := CL_spec_l2Num_eq m (a / 10) ⟨hq, by omega⟩
  have he : Lib.decDigits a = Lib.decDigits (a / 10) ++ [UInt8.ofNat (48 + a % 10)] := by rw [Lib.decDigits, dif_neg (by omega)]
  have hl := dec_len (a := a / 10) (by omega)
  have hc : ∀ h, kBin .add (.str (Lib.decDigits (a / 10))) (.str [UInt8.ofNat (48 + a % 10)]) h = some (.str (Lib.decDigits (a / 10) ++ [UInt8.ofNat (48 + a % 10)]), h) := fun h => kCat (by simp; omega)
  simp only [go_sem, kSt_ptr, Nat.reduceBEq, Nat.reduceAdd, Nat.reduceEqDiff, Nat.reduceLeDiff, Nat.reduceSub, reduceIte, Int.reduceBEq, Int.reduceEq, Int.reduceLT, Int.reduceLE, Int.reduceGT, Int.reduceGE, Int.reduceNe, Int.reduceBNe, s_spec_l2Num, h1, h2, hT, kq, kr, c55, hc, hd, he, fillR, List.replicate, frzRows, notStr, rowsIn, isAggV, List.set, Nat.reduceLT, Nat.lt_irrefl, Bool.not_false, Bool.true_or, Option.some.injEq, List.set_cons_zero]
theorem okL_spec_l2Num {WI : World → Prop} (hs : Stable WI) : ∀ (m : Nat) (cs), TOK (EE cs) WI → PureOK Tryd.prog WI 41 (CL_spec_l2Num m)
  | 0, cs, hT => pure_out hT hs (by rw [st_spec_l2Num]; rfl) fun a h => evs_spec_l2Num cs a (by have := h.1; simp at this; omega)
  | m + 1, cs, hT => by
    have ih := okL_spec_l2Num hs m cs hT
    refine pure_out (E := EE ((41, CL_spec_l2Num m) :: cs)) (tok_cons rfl rfl ih hT) hs (by rw [st_spec_l2Num]; rfl) fun a h => ?_
    by_cases h10 : a < 10
    · exact evs_spec_l2Num _ a h10
    · exact evr_spec_l2Num _ m rfl a (by omega) h.1 h.2
theorem ev_spec_l2Num (cs) (hT : (EE cs).T 41 = some (CL_spec_l2Num 16)) (x : Int) (h : -1000000000000000 ≤ x ∧ x ≤ 1000000000000000) : ∃ k n, out (EE cs) k n 41 [.int .i64 x] = some (.str (Lib.itoa x)) := by
  by_cases hx : x < 0
  · obtain ⟨a, rfl⟩ : ∃ a : Nat, x = -(a : Int) := ⟨x.natAbs, by omega⟩
    have ha : a < 10 ^ 16 := by omega
    refine out_K (n := 0) (st_spec_l2Num cs) ?_
    have c55 := CL_spec_l2Num_eq 16 a ⟨ha, by omega⟩
    have kn : ∀ h, kUn .neg (.int .i64 (-(a : Int))) h = some (.int .i64 (a : Int), h) := fun h => by
      rw [kUn_neg, show (0 : Int) - -(a : Int) = (a : Int) by omega, wrapId (by omega) (by omega)]
    have hl := dec_len (a := a) (by omega)
    have hc : ∀ h, kBin .add (.str [45]) (.str (Lib.decDigits a)) h = some (.str (45 :: Lib.decDigits a), h) := fun h => kCat (by simp; omega)
    have he := Lib.itoa_neg a (by omega)
    simp only [go_sem, kSt_ptr, Nat.reduceBEq, Nat.reduceAdd, Nat.reduceEqDiff, Nat.reduceLeDiff, Nat.reduceSub, reduceIte, Int.reduceBEq, Int.reduceEq, Int.reduceLT, Int.reduceLE, Int.reduceGT, Int.reduceGE, Int.reduceNe, Int.reduceBNe, s_spec_l2Num, hx, hT, kn, c55, hc, he]
  · obtain ⟨a, rfl⟩ : ∃ a : Nat, x = (a : Int) := ⟨x.toNat, by omega⟩
    rw [Lib.itoa_nonneg]
    by_cases h10 : a < 10
    · exact evs_spec_l2Num cs a h10
    · exact evr_spec_l2Num cs 16 hT a (by omega) (by omega) (by omega)
theorem ok_spec_l2Num {WI : World → Prop} (hs : Stable WI) (cs) (hT : TOK (EE cs) WI) : PureOK Tryd.prog WI 41 C_spec_l2Num :=
  pure_out (E := EE ((41, CL_spec_l2Num 16) :: cs)) (tok_cons rfl rfl (okL_spec_l2Num hs 16 cs hT) hT) hs (by rw [st_spec_l2Num]; rfl) fun a h => ev_spec_l2Num _ rfl a h
theorem ev_spec_ValText (cs) (hT53 : (EE cs).T 39 = some C_spec_ValOk) (hT54 : (EE cs).T 40 = some C_spec_l2Plain) (hT55 : (EE cs).T 41 = some C_spec_l2Num) (v : TVal) (hs : v.fS.length ≤ 9223372036854775807) : ∃ k n, out (EE cs) k n 25 [.agg v.row] = some (.str (valText v)) := by
  refine out_K (n := 0) (st_spec_ValText cs) ?_
  obtain ⟨k, n, s⟩ := v
  have c54 := C_spec_l2Plain_eq s hs
  cases hv : valOk ⟨k, n, s⟩
  · simp only [go_sem, kSt_ptr, Nat.reduceBEq, Nat.reduceAdd, Nat.reduceEqDiff, Nat.reduceLeDiff, Nat.reduceSub, reduceIte, Int.reduceBEq, Int.reduceEq, Int.reduceLT, Int.reduceLE, Int.reduceGT, Int.reduceGE, Int.reduceNe, Int.reduceBNe, s_spec_ValText, TVal.row, hT53, hT54, C_spec_ValOk_eq, c54, hv, valText, true_or]
  cases ha : s.all plainB
  · simp only [go_sem, kSt_ptr, Nat.reduceBEq, Nat.reduceAdd, Nat.reduceEqDiff, Nat.reduceLeDiff, Nat.reduceSub, reduceIte, Int.reduceBEq, Int.reduceEq, Int.reduceLT, Int.reduceLE, Int.reduceGT, Int.reduceGE, Int.reduceNe, Int.reduceBNe, s_spec_ValText, TVal.row, hT53, hT54, C_spec_ValOk_eq, c54, hv, ha, valText, or_true]
  by_cases h1 : k = 1
  · subst h1
    have hr := valOk_rng hv (.inl rfl)
    have c55 := C_spec_l2Num_eq n hr
    have hl := Lib.itoa_length_le n (by have := hr.1; simp only at this; omega) (by have := hr.2; simp only at this; omega)
    have hc : ∀ h, kBin .add (.str [105]) (.str (Lib.itoa n)) h = some (.str (105 :: Lib.itoa n), h) := fun h => kCat (by simp; omega)
    simp only [go_sem, kSt_ptr, Nat.reduceBEq, Nat.reduceAdd, Nat.reduceEqDiff, Nat.reduceLeDiff, Nat.reduceSub, reduceIte, Int.reduceBEq, Int.reduceEq, Int.reduceLT, Int.reduceLE, Int.reduceGT, Int.reduceGE, Int.reduceNe, Int.reduceBNe, s_spec_ValText, TVal.row, hT53, hT54, hT55, C_spec_ValOk_eq, c54, c55, hv, ha, hc, valText, Bool.true_eq_false, or_self]
  by_cases h2 : k = 2
  · subst h2
    have hr := valOk_rng hv (.inr rfl)
    have c55 := C_spec_l2Num_eq n hr
    have hl := Lib.itoa_length_le n (by have := hr.1; simp only at this; omega) (by have := hr.2; simp only at this; omega)
    have hc : ∀ h, kBin .add (.str [110]) (.str (Lib.itoa n)) h = some (.str (110 :: Lib.itoa n), h) := fun h => kCat (by simp; omega)
    simp only [go_sem, kSt_ptr, Nat.reduceBEq, Nat.reduceAdd, Nat.reduceEqDiff, Nat.reduceLeDiff, Nat.reduceSub, reduceIte, Int.reduceBEq, Int.reduceEq, Int.reduceLT, Int.reduceLE, Int.reduceGT, Int.reduceGE, Int.reduceNe, Int.reduceBNe, s_spec_ValText, TVal.row, hT53, hT54, hT55, C_spec_ValOk_eq, c54, c55, hv, ha, hc, valText, Bool.true_eq_false, or_self]
  by_cases h3 : k = 3
  · subst h3
    have hl := valOk_len hv rfl
    simp only at hl
    have hc : ∀ h, kBin .add (.str [39]) (.str s) h = some (.str (39 :: s), h) := fun h => kCat (by simp; omega)
    have hc2 : ∀ h, kBin .add (.str (39 :: s)) (.str [39]) h = some (.str (39 :: (s ++ [39])), h) := fun h => kCat (by simp; omega)
    simp only [go_sem, kSt_ptr, Nat.reduceBEq, Nat.reduceAdd, Nat.reduceEqDiff, Nat.reduceLeDiff, Nat.reduceSub, reduceIte, Int.reduceBEq, Int.reduceEq, Int.reduceLT, Int.reduceLE, Int.reduceGT, Int.reduceGE, Int.reduceNe, Int.reduceBNe, s_spec_ValText, TVal.row, hT53, hT54, hT55, C_spec_ValOk_eq, c54, hv, ha, hc, hc2, valText, Bool.true_eq_false, or_self]
  by_cases h4 : k = 4
  · subst h4
    by_cases hn : n = 1
    · subst hn
      simp only [go_sem, kSt_ptr, Nat.reduceBEq, Nat.reduceAdd, Nat.reduceEqDiff, Nat.reduceLeDiff, Nat.reduceSub, reduceIte, Int.reduceBEq, Int.reduceEq, Int.reduceLT, Int.reduceLE, Int.reduceGT, Int.reduceGE, Int.reduceNe, Int.reduceBNe, s_spec_ValText, TVal.row, hT53, hT54, hT55, C_spec_ValOk_eq, c54, hv, ha, valText, Bool.true_eq_false, or_self]
    · simp only [go_sem, kSt_ptr, Nat.reduceBEq, Nat.reduceAdd, Nat.reduceEqDiff, Nat.reduceLeDiff, Nat.reduceSub, reduceIte, Int.reduceBEq, Int.reduceEq, Int.reduceLT, Int.reduceLE, Int.reduceGT, Int.reduceGE, Int.reduceNe, Int.reduceBNe, s_spec_ValText, TVal.row, hT53, hT54, hT55, C_spec_ValOk_eq, c54, hv, ha, hn, beqF hn, valText, Bool.true_eq_false, or_self]
  simp only [go_sem, kSt_ptr, Nat.reduceBEq, Nat.reduceAdd, Nat.reduceEqDiff, Nat.reduceLeDiff, Nat.reduceSub, reduceIte, Int.reduceBEq, Int.reduceEq, Int.reduceLT, Int.reduceLE, Int.reduceGT, Int.reduceGE, Int.reduceNe, Int.reduceBNe, s_spec_ValText, TVal.row, hT53, hT54, hT55, C_spec_ValOk_eq, c54, hv, ha, h1, h2, h3, h4, beqF h1, beqF h2, beqF h3, beqF h4, valText, Bool.true_eq_false, or_self]
noncomputable def C_spec_ValText := ct (fun a : TVal => [.agg a.row]) (fun a => a.fS.length ≤ 9223372036854775807) .str valText
theorem C_spec_ValText_eq (k n : Int) (s : List UInt8) (hs : s.length ≤ 9223372036854775807) : C_spec_ValText [.agg [.int .i64 k, .int .i64 n, .str s]] = some (.str (valText ⟨k, n, s⟩)) := by
  unfold C_spec_ValText
  exact ct_eq (a := (⟨k, n, s⟩ : TVal)) (fun a b h => by
    simp only [List.cons.injEq, AV.agg.injEq, and_true] at h
    exact TVal.inj _ _ h) hs
theorem ok_spec_ValText {WI} (hs : Stable WI) (cs) (hT : TOK (EE cs) WI) (h53 : (EE cs).T 39 = some C_spec_ValOk) (h54 : (EE cs).T 40 = some C_spec_l2Plain) (h55 : (EE cs).T 41 = some C_spec_l2Num) : PureOK Tryd.prog WI 25 C_spec_ValText := pure_out hT hs (by rw [st_spec_ValText]; rfl) fun a h1 => ev_spec_ValText cs h53 h54 h55 a h1
theorem L_spec_l28Blank (cs) (s : List UInt8) (hs : s.length ≤ 9223372036854775807) : ∀ (rest pre : List UInt8) (e : Ps) (h : Hp), s = pre ++ rest → e 0 = .str s → e 3 = .int .i64 pre.length →
    WL (EE cs) s_spec_l28Blank_L0 e h fun x e' h' => h' = h ∧ if blank rest = true then x = .ret ∧ e' 2 = .bool true else x = .exit 0
  | [], pre, e, h, hl, h0, h3 => by
    refine .step (.sim ?_)
    simp only [go_sem, kSt_ptr, Nat.reduceBEq, Nat.reduceAdd, Nat.reduceEqDiff, Nat.reduceLeDiff, Nat.reduceSub, reduceIte, Int.reduceBEq, Int.reduceEq, Int.reduceLT, Int.reduceLE, Int.reduceGT, Int.reduceGE, Int.reduceNe, Int.reduceBNe, s_spec_l28Blank_L0, h0, h3, lt_end hl, blank, Bool.false_eq_true]
  | b :: rest, pre, e, h, hl, h0, h3 => by
    have hlt : pre.length < s.length := by rw [hl]; simp
    have hw : IntKind.wrap .i64 ((pre.length : Int) + 1) = (pre.length : Int) + 1 := wrapId (by omega) (by omega)
    by_cases hb : (b.toNat : Int) = 32
    · refine .step (.sim ?_)
      simp only [go_sem, kSt_ptr, Nat.reduceBEq, Nat.reduceAdd, Nat.reduceEqDiff, Nat.reduceLeDiff, Nat.reduceSub, reduceIte, Int.reduceBEq, Int.reduceEq, Int.reduceLT, Int.reduceLE, Int.reduceGT, Int.reduceGE, Int.reduceNe, Int.reduceBNe, s_spec_l28Blank_L0, h0, h3, lt_map hl, kIx_at hl, hb, blank]
    · refine .step (.mono (.sim (Q := fun x e1 h1 => x = .norm ∧ h1 = h ∧ e1 0 = .str s ∧ e1 3 = .int .i64 ((pre.length : Int) + 1)) ?_) ?_)
      · simp only [go_sem, kSt_ptr, Nat.reduceBEq, Nat.reduceAdd, Nat.reduceEqDiff, Nat.reduceLeDiff, Nat.reduceSub, reduceIte, Int.reduceBEq, Int.reduceEq, Int.reduceLT, Int.reduceLE, Int.reduceGT, Int.reduceGE, Int.reduceNe, Int.reduceBNe, s_spec_l28Blank_L0, h0, h3, lt_map hl, kIx_at hl, beqF hb, hw]
      · rintro _ e1 _ ⟨rfl, rfl, he0, he3⟩
        refine (L_spec_l28Blank cs s hs rest (pre ++ [b]) e1 _ (by rw [hl]; simp) he0 (by rw [he3]; simp)).mono ?_
        simp only [blank, hb, if_false]
        exact fun _ _ _ h => h
theorem ev_spec_l28Blank (cs) (s : List UInt8) (hs : s.length ≤ 9223372036854775807) : ∃ k n, out (EE cs) k n 26 [.str s] = some (.bool (blank s)) := by
  refine out_W (n := 0) (st_spec_l28Blank cs) ?_
  show W _ (.seq _ (.seq (.seq _ (.blk 0 (.loop s_spec_l28Blank_L0))) _)) _ _ _
  refine .cut (M := fun e1 h1 => h1 = Hp.empty ∧ e1 0 = .str s) (.sim (by simp only [go_sem, kSt_ptr, Nat.reduceBEq, Nat.reduceAdd, Nat.reduceEqDiff, Nat.reduceLeDiff, Nat.reduceSub, reduceIte, Int.reduceBEq, Int.reduceEq, Int.reduceLT, Int.reduceLE, Int.reduceGT, Int.reduceGE, Int.reduceNe, Int.reduceBNe])) ?_
  rintro e1 h1 ⟨rfl, k0⟩
  refine .seq (.cut (M := fun e2 h2 => h2 = Hp.empty ∧ e2 0 = .str s ∧ e2 3 = .int .i64 0) (.sim (by simp only [go_sem, kSt_ptr, Nat.reduceBEq, Nat.reduceAdd, Nat.reduceEqDiff, Nat.reduceLeDiff, Nat.reduceSub, reduceIte, Int.reduceBEq, Int.reduceEq, Int.reduceLT, Int.reduceLE, Int.reduceGT, Int.reduceGE, Int.reduceNe, Int.reduceBNe, k0])) ?_)
  rintro e2 h2 ⟨rfl, k0, k3⟩
  refine .blk (.loop ((L_spec_l28Blank cs s hs s [] e2 Hp.empty rfl k0 k3).mono ?_))
  rintro x e' h' ⟨rfl, j2⟩
  split at j2
  · rename_i hz
    obtain ⟨rfl, j3⟩ := j2
    simp only [go_sem, kSt_ptr, Nat.reduceBEq, Nat.reduceAdd, Nat.reduceEqDiff, Nat.reduceLeDiff, Nat.reduceSub, reduceIte, Int.reduceBEq, Int.reduceEq, Int.reduceLT, Int.reduceLE, Int.reduceGT, Int.reduceGE, Int.reduceNe, Int.reduceBNe, s_spec_l28Blank, j3, hz]
  · rename_i hz
    have hz' : blank s = false := by simpa using hz
    subst j2
    rw [outOf_exit]
    refine .sim ?_
    simp only [go_sem, kSt_ptr, Nat.reduceBEq, Nat.reduceAdd, Nat.reduceEqDiff, Nat.reduceLeDiff, Nat.reduceSub, reduceIte, Int.reduceBEq, Int.reduceEq, Int.reduceLT, Int.reduceLE, Int.reduceGT, Int.reduceGE, Int.reduceNe, Int.reduceBNe, s_spec_l28Blank, hz']
noncomputable def C_spec_l28Blank := ct (fun a : List UInt8 => [.str a]) (fun a => a.length ≤ 9223372036854775807) .bool blank
theorem C_spec_l28Blank_eq (s : List UInt8) (hs : s.length ≤ 9223372036854775807) : C_spec_l28Blank [.str s] = some (.bool (blank s)) := by
  unfold C_spec_l28Blank
  exact ct_eq (a := s) (fun a b h => by simpa using h) hs
theorem ok_spec_l28Blank {WI} (hs : Stable WI) (cs) (hT : TOK (EE cs) WI) : PureOK Tryd.prog WI 26 C_spec_l28Blank := pure_out hT hs (by rw [st_spec_l28Blank]; rfl) fun a h1 => ev_spec_l28Blank cs a h1
theorem L_spec_RowText (cs) (hT30 : (EE cs).T 25 = some C_spec_ValText) (hT31 : (EE cs).T 26 = some C_spec_l28Blank) (l : List TVal) (hlen : l.length ≤ 1048576) (hs : ∀ v ∈ l, v.fS.length ≤ 9223372036854775807) : ∀ (rest pre : List TVal) (acc : List UInt8) (e : Ps) (h : Hp), l = pre ++ rest → e 0 = .imm (l.map TVal.row) → e 4 = .int .i64 pre.length → e 3 = .str acc → acc.length ≤ 41 * pre.length →
    WL (EE cs) s_spec_RowText_L0 e h fun x e' h' => h' = h ∧ ((x = .ret ∧ e' 2 = .str (rowGo (pre.length == 0) acc rest)) ∨ (x = .exit 0 ∧ e' 3 = .str (rowGo (pre.length == 0) acc rest)))
  | [], pre, acc, e, h, hl, h0, h4, h3, ha => by
    refine .step (.sim ?_)
    simp only [go_sem, kSt_ptr, Nat.reduceBEq, Nat.reduceAdd, Nat.reduceEqDiff, Nat.reduceLeDiff, Nat.reduceSub, reduceIte, Int.reduceBEq, Int.reduceEq, Int.reduceLT, Int.reduceLE, Int.reduceGT, Int.reduceGE, Int.reduceNe, Int.reduceBNe, s_spec_RowText_L0, h0, h4, h3, lt_end hl, rowGo, or_true]
  | v :: rest, pre, acc, e, h, hl, h0, h4, h3, ha => by
    have hv : v.fS.length ≤ 9223372036854775807 := hs v (by rw [hl]; simp)
    have hlt : pre.length < l.length := by rw [hl]; simp
    have hw : IntKind.wrap .i64 ((pre.length : Int) + 1) = (pre.length : Int) + 1 := wrapId (by omega) (by omega)
    have c30 := C_spec_ValText_eq v.fK v.fN v.fS hv
    have vl := valText_len v
    have c31 := C_spec_l28Blank_eq (valText v) (by omega)
    by_cases ht : valText v = []
    · have ht' : valText ⟨v.fK, v.fN, v.fS⟩ = [] := ht
      refine .step (.sim ?_)
      simp only [go_sem, kSt_ptr, Nat.reduceBEq, Nat.reduceAdd, Nat.reduceEqDiff, Nat.reduceLeDiff, Nat.reduceSub, reduceIte, Int.reduceBEq, Int.reduceEq, Int.reduceLT, Int.reduceLE, Int.reduceGT, Int.reduceGE, Int.reduceNe, Int.reduceBNe, s_spec_RowText_L0, h0, h4, h3, lt_map hl, kIa_map (row := TVal.row) (sz := 3) hl rfl, TVal.row, hT30, c30, ht, ht', rowGo, true_or]
    cases hb : blank (valText v)
    case true =>
      have hq : valText ⟨v.fK, v.fN, v.fS⟩ = valText v := rfl
      refine .step (.sim ?_)
      simp only [go_sem, kSt_ptr, Nat.reduceBEq, Nat.reduceAdd, Nat.reduceEqDiff, Nat.reduceLeDiff, Nat.reduceSub, reduceIte, Int.reduceBEq, Int.reduceEq, Int.reduceLT, Int.reduceLE, Int.reduceGT, Int.reduceGE, Int.reduceNe, Int.reduceBNe, s_spec_RowText_L0, h0, h4, h3, lt_map hl, kIa_map (row := TVal.row) (sz := 3) hl rfl, TVal.row, hT30, hT31, c30, hq, c31, beqF ht, ht, hb, rowGo, or_true, true_or]
    have hq : valText ⟨v.fK, v.fN, v.fS⟩ = valText v := rfl
    have c1 : ∀ h, kBin .add (.str acc) (.str (valText v)) h = some (.str (acc ++ valText v), h) := fun h => kCat (by omega)
    have c2 : ∀ h, kBin .add (.str acc) (.str [32]) h = some (.str (acc ++ [32]), h) := fun h => kCat (by simp; omega)
    have c3 : ∀ h, kBin .add (.str (acc ++ [32])) (.str (valText v)) h = some (.str ((acc ++ [32]) ++ valText v), h) := fun h => kCat (by simp; omega)
    refine .step (.mono (.sim (Q := fun x e1 h1 => x = .norm ∧ h1 = h ∧ e1 0 = .imm (l.map TVal.row) ∧ e1 4 = .int .i64 ((pre.length : Int) + 1) ∧ e1 3 = .str (if pre.length == 0 then acc ++ valText v else (acc ++ [32]) ++ valText v)) ?_) ?_)
    · by_cases hp : pre.length = 0
      · have hg : ¬ (0 : Int) < (pre.length : Int) := by omega
        have hp' : (pre.length == 0) = true := by simpa using hp
        simp only [go_sem, kSt_ptr, Nat.reduceBEq, Nat.reduceAdd, Nat.reduceEqDiff, Nat.reduceLeDiff, Nat.reduceSub, reduceIte, Int.reduceBEq, Int.reduceEq, Int.reduceLT, Int.reduceLE, Int.reduceGT, Int.reduceGE, Int.reduceNe, Int.reduceBNe, s_spec_RowText_L0, h0, h4, h3, lt_map hl, kIa_map (row := TVal.row) (sz := 3) hl rfl, TVal.row, hT30, hT31, c30, hq, c31, beqF ht, hb, hg, hp', c1, hw]
      · have hg : (0 : Int) < (pre.length : Int) := by omega
        have hp' : (pre.length == 0) = false := by simpa using hp
        simp only [go_sem, kSt_ptr, Nat.reduceBEq, Nat.reduceAdd, Nat.reduceEqDiff, Nat.reduceLeDiff, Nat.reduceSub, reduceIte, Int.reduceBEq, Int.reduceEq, Int.reduceLT, Int.reduceLE, Int.reduceGT, Int.reduceGE, Int.reduceNe, Int.reduceBNe, s_spec_RowText_L0, h0, h4, h3, lt_map hl, kIa_map (row := TVal.row) (sz := 3) hl rfl, TVal.row, hT30, hT31, c30, hq, c31, beqF ht, hb, hg, hp', c2, c3, hw]
    · rintro _ e1 _ ⟨rfl, rfl, he0, he4, he3⟩
      refine (L_spec_RowText cs hT30 hT31 l hlen hs rest (pre ++ [v]) _ e1 _ (by rw [hl]; simp) he0 (by rw [he4]; simp) he3 (by split <;> simp <;> omega)).mono ?_
      have hf : ((pre ++ [v]).length == 0) = false := by simp
      rw [hf]
      simp only [rowGo, ht, hb, Bool.false_eq_true, or_self, if_false]
      exact fun _ _ _ h => h
theorem ev_spec_RowText (cs) (hT30 : (EE cs).T 25 = some C_spec_ValText) (hT31 : (EE cs).T 26 = some C_spec_l28Blank) (l : List TVal) (hlen : l.length ≤ 1048576) (hs : ∀ v ∈ l, v.fS.length ≤ 9223372036854775807) : ∃ k n, out (EE cs) k n 12 [.imm (l.map TVal.row)] = some (.str (rowGo true [] l)) := by
  refine out_W (n := 0) (st_spec_RowText cs) ?_
  show W _ (.seq _ (.seq _ (.seq (.seq _ (.blk 0 (.loop s_spec_RowText_L0))) _))) _ _ _
  refine .re (.cut (M := fun e1 h1 => e1 0 = .imm (l.map TVal.row) ∧ e1 3 = .str []) (.sim (by simp only [go_sem, kSt_ptr, Nat.reduceBEq, Nat.reduceAdd, Nat.reduceEqDiff, Nat.reduceLeDiff, Nat.reduceSub, reduceIte, Int.reduceBEq, Int.reduceEq, Int.reduceLT, Int.reduceLE, Int.reduceGT, Int.reduceGE, Int.reduceNe, Int.reduceBNe])) ?_)
  rintro e1 h1 ⟨k0, k3⟩
  refine .seq (.cut (M := fun e2 h2 => e2 0 = .imm (l.map TVal.row) ∧ e2 3 = .str [] ∧ e2 4 = .int .i64 0) (.sim (by simp only [go_sem, kSt_ptr, Nat.reduceBEq, Nat.reduceAdd, Nat.reduceEqDiff, Nat.reduceLeDiff, Nat.reduceSub, reduceIte, Int.reduceBEq, Int.reduceEq, Int.reduceLT, Int.reduceLE, Int.reduceGT, Int.reduceGE, Int.reduceNe, Int.reduceBNe, k0, k3])) ?_)
  rintro e2 h2 ⟨k0, k3, k4⟩
  refine .blk (.loop ((L_spec_RowText cs hT30 hT31 l hlen hs l [] [] e2 h2 rfl k0 k4 k3 (by simp)).mono ?_))
  rintro x e' h' ⟨rfl, ⟨rfl, j3⟩ | ⟨rfl, j3⟩⟩
  · have j3' : e' 2 = .str (rowGo true [] l) := j3
    simp only [go_sem, kSt_ptr, Nat.reduceBEq, Nat.reduceAdd, Nat.reduceEqDiff, Nat.reduceLeDiff, Nat.reduceSub, reduceIte, Int.reduceBEq, Int.reduceEq, Int.reduceLT, Int.reduceLE, Int.reduceGT, Int.reduceGE, Int.reduceNe, Int.reduceBNe, s_spec_RowText, j3']
  · have j3' : e' 3 = .str (rowGo true [] l) := j3
    rw [outOf_exit]
    refine .sim ?_
    simp only [go_sem, kSt_ptr, Nat.reduceBEq, Nat.reduceAdd, Nat.reduceEqDiff, Nat.reduceLeDiff, Nat.reduceSub, reduceIte, Int.reduceBEq, Int.reduceEq, Int.reduceLT, Int.reduceLE, Int.reduceGT, Int.reduceGE, Int.reduceNe, Int.reduceBNe, s_spec_RowText, j3']
noncomputable def C_spec_RowText := c1 (sliceT tVal) (fun a => (sliceT tVal).good a) .str rowImpl
theorem C_spec_RowText_eq (a : List TVal) (h : (sliceT tVal).good a) : C_spec_RowText [.imm (a.map TVal.row)] = some (.str (rowImpl a)) := c1_eq (sliceT tVal) h
theorem ok_spec_RowText {WI} (hs : Stable WI) (cs) (hT : TOK (EE cs) WI) (h30 : (EE cs).T 25 = some C_spec_ValText) (h31 : (EE cs).T 26 = some C_spec_l28Blank) : PureOK Tryd.prog WI 12 C_spec_RowText := pure1 hT hs (by rw [st_spec_RowText]; rfl) fun a h => by rw [← rowGo_impl]; exact ev_spec_RowText cs h30 h31 a (valsLen h).1 (valsLen h).2
end Go.Proofs.YtbpafgbehkphoaaDoor.Rw
/- What the functions that FnRowTexts calls answer: part 7. -/
namespace Go.Proofs.YtbpafgbehkphoaaDoor.Rw
open Go Go.RowKit Go.Ev
set_option linter.unusedSimpArgs false
set_option linter.unusedVariables false
set_option maxHeartbeats 1600000
theorem goodRow {l : List TVal} (h1 : l.length ≤ 3) (h2 : ∀ t ∈ l, okVal t) : (sliceT tVal).good l := by
  have hc : ∀ l : List TVal, (∀ t ∈ l, okVal t) → costL tVal l ≤ 40 * l.length := by
    intro l
    induction l with
    | nil => intro _; exact Nat.le_refl _
    | cons v l ih =>
      intro h
      have h1 : tVal.cost v ≤ 40 := (h v List.mem_cons_self).1
      have h2 := ih fun t ht => h t (List.mem_cons_of_mem _ ht)
      show tVal.cost v + costL tVal l ≤ 40 * (l.length + 1)
      omega
  refine ⟨?_, fun t ht => ?_⟩
  · have := hc l h2
    show l.length + costL tVal l ≤ 1048576
    omega
  · obtain ⟨_, k1, k2, k3, k4⟩ := h2 t ht
    exact ⟨⟨k1, k2⟩, ⟨k3, k4⟩⟩
theorem rowImpl_len3 {l : List TVal} (h1 : l.length ≤ 3) : (rowImpl l).length ≤ 123 := by
  unfold rowImpl
  cases h : rowTs l with
  | none => simp
  | some ts =>
    obtain ⟨k1, k2⟩ := rowTs_len h
    have := join_len k2
    simp only
    omega
/-- Drawn rows. -/
def RowsP : AV → Hp → Prop := fun v h => ∃ (id : Nat) (l : List (List TVal)), v = .app id (l.map (sliceT tVal).row) ∧ l.length ≤ 3 ∧ ∀ x ∈ l, x.length ≤ 3 ∧ ∀ t ∈ x, okVal t
theorem run_spec_DrawParseRow (cs) (hT : (EE cs).T 12 = some C_spec_RowText) (code : List UInt8) (h : Hp) (hcode : code.length ≤ 1048576) : ∃ v h', RunF (EE cs) 7 [.imm (code.map u8T.row)] h (v, h') ∧ ∃ t : List UInt8, v = .str t ∧ t.length ≤ 1048576 := by
  have : ∃ rr, RunF (EE cs) 7 [.imm (code.map u8T.row)] h rr ∧ ∃ t : List UInt8, rr.1 = .str t ∧ t.length ≤ 1048576 := by
    refine run_wp (st_spec_DrawParseRow cs) ?_
    simp only [go_sem, kSt_ptr, Nat.reduceBEq, Nat.reduceAdd, Nat.reduceEqDiff, Nat.reduceLeDiff, Nat.reduceSub, reduceIte, Int.reduceBEq, Int.reduceEq, Int.reduceLT, Int.reduceLE, Int.reduceGT, Int.reduceGE, Int.reduceNe, Int.reduceBNe, s_spec_DrawParseRow]
    obtain ⟨r, h1, k1, k2, k3⟩ := run_spec_l1New cs code h hcode
    refine hP_call k1 ?_
    simp only [go_sem, kSt_ptr, Nat.reduceBEq, Nat.reduceAdd, Nat.reduceEqDiff, Nat.reduceLeDiff, Nat.reduceSub, reduceIte, Int.reduceBEq, Int.reduceEq, Int.reduceLT, Int.reduceLE, Int.reduceGT, Int.reduceGE, Int.reduceNe, Int.reduceBNe]
    refine hP_draw (dr_spec_l28Row cs) hcode k2 ?_
    rintro _ h2 ⟨id, l, rfl, hl, ho⟩ hc
    have hg := C_spec_RowText_eq l (goodRow hl ho)
    have hlen := rowImpl_len3 hl
    simp only [go_sem, kSt_ptr, Nat.reduceBEq, Nat.reduceAdd, Nat.reduceEqDiff, Nat.reduceLeDiff, Nat.reduceSub, reduceIte, Int.reduceBEq, Int.reduceEq, Int.reduceLT, Int.reduceLE, Int.reduceGT, Int.reduceGE, Int.reduceNe, Int.reduceBNe, hT, hg]
    refine hP_draw (dr_spec_l1Below cs 5) hcode hc.cur ?_
    rintro _ h3 ⟨x, rfl, hx⟩ hc3
    by_cases x0 : x = 0
    · subst x0
      have f1 : fillR (List.replicate 5 [.str []]) 1 [(0, .str [32]), (1, .str [32, 120]), (2, .str [32, 105, 49]), (3, .str [32, 32, 105, 49]), (4, .str [32, 110, 117, 108, 108, 32, 110, 117, 108, 108, 32, 110, 117, 108, 108, 32, 110, 117, 108, 108, 32, 110, 117, 108, 108, 32, 110, 117, 108, 108, 32, 110, 117, 108, 108, 32, 110, 117, 108, 108])] = some [[.str [32]], [.str [32, 120]], [.str [32, 105, 49]], [.str [32, 32, 105, 49]], [.str [32, 110, 117, 108, 108, 32, 110, 117, 108, 108, 32, 110, 117, 108, 108, 32, 110, 117, 108, 108, 32, 110, 117, 108, 108, 32, 110, 117, 108, 108, 32, 110, 117, 108, 108, 32, 110, 117, 108, 108]]] := rfl
      have f1z : frzRows [[.str [32]], [.str [32, 120]], [.str [32, 105, 49]], [.str [32, 32, 105, 49]], [.str [32, 110, 117, 108, 108, 32, 110, 117, 108, 108, 32, 110, 117, 108, 108, 32, 110, 117, 108, 108, 32, 110, 117, 108, 108, 32, 110, 117, 108, 108, 32, 110, 117, 108, 108, 32, 110, 117, 108, 108]]] = some [[.str [32]], [.str [32, 120]], [.str [32, 105, 49]], [.str [32, 32, 105, 49]], [.str [32, 110, 117, 108, 108, 32, 110, 117, 108, 108, 32, 110, 117, 108, 108, 32, 110, 117, 108, 108, 32, 110, 117, 108, 108, 32, 110, 117, 108, 108, 32, 110, 117, 108, 108, 32, 110, 117, 108, 108]]] := rfl
      simp only [go_sem, kSt_ptr, Nat.reduceBEq, Nat.reduceAdd, Nat.reduceEqDiff, Nat.reduceLeDiff, Nat.reduceSub, reduceIte, Int.reduceBEq, Int.reduceEq, Int.reduceLT, Int.reduceLE, Int.reduceGT, Int.reduceGE, Int.reduceNe, Int.reduceBNe, f1, f1z]
      refine hP_draw (dr_spec_l1Str cs ([[32], [32, 120], [32, 105, 49], [32, 32, 105, 49], [32, 110, 117, 108, 108, 32, 110, 117, 108, 108, 32, 110, 117, 108, 108, 32, 110, 117, 108, 108, 32, 110, 117, 108, 108, 32, 110, 117, 108, 108, 32, 110, 117, 108, 108, 32, 110, 117, 108, 108]] : List (List UInt8)) (by simp) _) hcode (hc3.cur.same (by simp) rfl) ?_
      rintro _ h4 ⟨s, rfl, hs⟩ hc4
      have hs2 : s.length ≤ 40 := (show ∀ s ∈ ([[32], [32, 120], [32, 105, 49], [32, 32, 105, 49], [32, 110, 117, 108, 108, 32, 110, 117, 108, 108, 32, 110, 117, 108, 108, 32, 110, 117, 108, 108, 32, 110, 117, 108, 108, 32, 110, 117, 108, 108, 32, 110, 117, 108, 108, 32, 110, 117, 108, 108]] : List (List UInt8)), s.length ≤ 40 by decide) s hs
      have hcat : ∀ h, kBin .add (.str (rowImpl l)) (.str s) h = some (.str (rowImpl l ++ s), h) := fun h => kCat (by omega)
      simp only [go_sem, kSt_ptr, Nat.reduceBEq, Nat.reduceAdd, Nat.reduceEqDiff, Nat.reduceLeDiff, Nat.reduceSub, reduceIte, Int.reduceBEq, Int.reduceEq, Int.reduceLT, Int.reduceLE, Int.reduceGT, Int.reduceGE, Int.reduceNe, Int.reduceBNe, hcat]
      exact ⟨fun _ e => (by cases e), _, rfl, _, rfl, by simp; omega⟩
    by_cases x1 : x = 1
    · subst x1
      have f2 : fillR (List.replicate 6 [.str []]) 1 [(0, .str []), (1, .str [32]), (2, .str [105, 49, 32, 39, 97, 39, 32, 110, 117, 108, 108]), (3, .str [105, 49, 32, 32, 105, 50]), (4, .str [39, 97, 32, 98, 39]), (5, .str [121, 101, 115, 32, 110, 111, 32, 110, 45, 53])] = some [[.str []], [.str [32]], [.str [105, 49, 32, 39, 97, 39, 32, 110, 117, 108, 108]], [.str [105, 49, 32, 32, 105, 50]], [.str [39, 97, 32, 98, 39]], [.str [121, 101, 115, 32, 110, 111, 32, 110, 45, 53]]] := rfl
      have f2z : frzRows [[.str []], [.str [32]], [.str [105, 49, 32, 39, 97, 39, 32, 110, 117, 108, 108]], [.str [105, 49, 32, 32, 105, 50]], [.str [39, 97, 32, 98, 39]], [.str [121, 101, 115, 32, 110, 111, 32, 110, 45, 53]]] = some [[.str []], [.str [32]], [.str [105, 49, 32, 39, 97, 39, 32, 110, 117, 108, 108]], [.str [105, 49, 32, 32, 105, 50]], [.str [39, 97, 32, 98, 39]], [.str [121, 101, 115, 32, 110, 111, 32, 110, 45, 53]]] := rfl
      simp only [go_sem, kSt_ptr, Nat.reduceBEq, Nat.reduceAdd, Nat.reduceEqDiff, Nat.reduceLeDiff, Nat.reduceSub, reduceIte, Int.reduceBEq, Int.reduceEq, Int.reduceLT, Int.reduceLE, Int.reduceGT, Int.reduceGE, Int.reduceNe, Int.reduceBNe, f2, f2z]
      refine hP_draw (dr_spec_l1Str cs ([[], [32], [105, 49, 32, 39, 97, 39, 32, 110, 117, 108, 108], [105, 49, 32, 32, 105, 50], [39, 97, 32, 98, 39], [121, 101, 115, 32, 110, 111, 32, 110, 45, 53]] : List (List UInt8)) (by simp) _) hcode (hc3.cur.same (by simp) rfl) ?_
      rintro _ h4 ⟨s, rfl, hs⟩ hc4
      have hs2 : s.length ≤ 40 := (show ∀ s ∈ ([[], [32], [105, 49, 32, 39, 97, 39, 32, 110, 117, 108, 108], [105, 49, 32, 32, 105, 50], [39, 97, 32, 98, 39], [121, 101, 115, 32, 110, 111, 32, 110, 45, 53]] : List (List UInt8)), s.length ≤ 40 by decide) s hs
      simp only [go_sem, kSt_ptr, Nat.reduceBEq, Nat.reduceAdd, Nat.reduceEqDiff, Nat.reduceLeDiff, Nat.reduceSub, reduceIte, Int.reduceBEq, Int.reduceEq, Int.reduceLT, Int.reduceLE, Int.reduceGT, Int.reduceGE, Int.reduceNe, Int.reduceBNe]
      exact ⟨fun _ e => (by cases e), _, rfl, _, rfl, by omega⟩
    have b0 := beqF x0
    have b1 := beqF x1
    simp only [go_sem, kSt_ptr, Nat.reduceBEq, Nat.reduceAdd, Nat.reduceEqDiff, Nat.reduceLeDiff, Nat.reduceSub, reduceIte, Int.reduceBEq, Int.reduceEq, Int.reduceLT, Int.reduceLE, Int.reduceGT, Int.reduceGE, Int.reduceNe, Int.reduceBNe, b0, b1]
    exact ⟨fun _ e => (by cases e), _, rfl, _, rfl, by omega⟩
  obtain ⟨⟨v, h'⟩, h1, h2⟩ := this
  exact ⟨v, h', h1, h2⟩
noncomputable def C_strings_HasPrefix := c2 strT strT (fun _ _ => True) .bool fun s p => Lib.hasPrefix s p
theorem C_strings_HasPrefix_eq (s p : List UInt8) : C_strings_HasPrefix [.str s, .str p] = some (.bool (Lib.hasPrefix s p)) := c2_eq strT strT trivial
noncomputable def C_strconv_Atoi := c1 strT (fun s => s.length ≤ 1048576) (atoiT 89) id
theorem C_strconv_Atoi_eq (s : List UInt8) (h : s.length ≤ 1048576) : C_strconv_Atoi [.str s] = some (atoiT 89 s) := c1_eq strT h
theorem sli_tail (c : UInt8) (r : List UInt8) : sIdxS (.str (c :: r)) (some (.int .i64 1)) none = some (.str r) := by
  have h1 : (1 : Int) ≤ (((c :: r).length : Nat) : Int) := by simp; omega
  simp only [sIdxS, asNat, Option.bind_some, List.take_length]
  rw [if_pos ⟨by decide, h1⟩]
  rfl
theorem sli_mid (c z : UInt8) (m : List UInt8) : sIdxS (.str (c :: (m ++ [z]))) (some (.int .i64 1)) (some (.int .i64 ((m.length : Int) + 1))) = some (.str m) := by
  have h1 : (((c :: (m ++ [z])).length : Nat) : Int) = (m.length : Int) + 2 := by simp; omega
  have h2 : ((m.length : Int) + 1).toNat = m.length + 1 := by omega
  simp only [sIdxS, asNat]
  rw [if_pos ⟨by omega, by omega⟩, Option.bind_some, h2, if_pos ⟨by decide, by omega⟩]
  simp
theorem ix_head (c : UInt8) (r : List UInt8) (h : Hp) : kIx (.str (c :: r)) (.int .i64 0) h = some (.int .u8 c.toNat, h) := kIx_str (by decide) rfl
theorem u8eq {b c : UInt8} (h : b = c) : ((b.toNat : Int) == (c.toNat : Int)) = true := by subst h; simp
theorem u8ne {b c : UInt8} (h : ¬ b = c) : ((b.toNat : Int) == (c.toNat : Int)) = false := by
  simp only [beq_eq_false_iff_ne, ne_eq]
  exact fun e => h (UInt8.toNat_inj.1 (by omega))
theorem u8q39 : (((39 : UInt8).toNat : Int) == 39) = true := by decide
theorem u8q105 : (((105 : UInt8).toNat : Int) == 105) = true := by decide
theorem u8q110 : (((110 : UInt8).toNat : Int) == 110) = true := by decide
noncomputable def C_impl_ParseVal := c1 strT (fun (s : List UInt8) => s.length ≤ 1048576) (fun x => .tup [.agg (x.1).row, .bool x.2]) fun (s : List UInt8) => parseVal s
theorem C_impl_ParseVal_eq (s : List UInt8) (h : s.length ≤ 1048576) : C_impl_ParseVal [.str s] = some (.tup [.agg (((parseVal s).1)).row, .bool ((parseVal s).2)]) := c1_eq strT h
theorem ok_impl_ParseVal {WI : World → Prop} (hs : Stable WI) (cs) (hT : TOK (EE cs) WI) (h1 : (EE cs).T 36 = some C_strings_HasPrefix) (h2 : (EE cs).T 37 = some C_strconv_Atoi) (h3 : (EE cs).T 16 = some C_impl_ValText) : PureOK Tryd.prog WI 22 C_impl_ParseVal := by
  refine pure1 (E := EE cs) hT hs (by rw [st_impl_ParseVal]; rfl) fun s hp => out_wp (n := 0) (st_impl_ParseVal cs) ?_
  rw [← valI_eq]
  have fin : ∀ (k n : Int) (t : List UInt8) (hv : t.length ≤ 9223372036854775807), C_impl_ValText [.agg [.int .i64 k, .int .i64 n, .str t]] = some (.str (valText ⟨k, n, t⟩)) := fun k n t hv => C_impl_ValText_eq k n t hv
  have p1 := fun (t : List UInt8) => C_strings_HasPrefix_eq t [105]
  have p2 := fun (t : List UInt8) => C_strings_HasPrefix_eq t [110]
  by_cases e1 : s = noB
  · subst e1
    have hx : valI noB = (⟨4, 0, []⟩, true) := rfl
    have ht : valText ⟨4, 0, []⟩ = noB := rfl
    have hc := fin 4 0 [] (by simp)
    rw [ht] at hc
    simp only [noB] at hc hx
    simp only [go_sem, kSt_ptr, Nat.reduceBEq, Nat.reduceAdd, Nat.reduceEqDiff, Nat.reduceLeDiff, Nat.reduceSub, reduceIte, Int.reduceBEq, Int.reduceEq, Int.reduceLT, Int.reduceLE, Int.reduceGT, Int.reduceGE, Int.reduceNe, Int.reduceBNe, s_impl_ParseVal, noB, hx, vFillK, vFill0, sq12, h3, hc, sq_no0, TVal.row]
  by_cases e2 : s = yesB
  · subst e2
    have hx : valI yesB = (⟨4, 1, []⟩, true) := rfl
    have ht : valText ⟨4, 1, []⟩ = yesB := rfl
    have hc := fin 4 1 [] (by simp)
    rw [ht] at hc
    simp only [yesB] at hc hx
    simp only [go_sem, kSt_ptr, Nat.reduceBEq, Nat.reduceAdd, Nat.reduceEqDiff, Nat.reduceLeDiff, Nat.reduceSub, reduceIte, Int.reduceBEq, Int.reduceEq, Int.reduceLT, Int.reduceLE, Int.reduceGT, Int.reduceGE, Int.reduceNe, Int.reduceBNe, s_impl_ParseVal, yesB, hx, vFillK, vFill0, sq21, h3, hc, sq_yes0, TVal.row]
  have b1 := beqF e1
  have b2 := beqF e2
  have b0' : ∀ h : s = nullB, (s == [110, 117, 108, 108]) = true := fun h => by subst h; rfl
  have b0 : ∀ h : ¬ s = nullB, (s == [110, 117, 108, 108]) = false := fun h => beqF h
  unfold noB at b1
  unfold yesB at b2
  -- the end, by what the text of the value is
  have chk : ∀ v : TVal, (valText v = [] ∧ chkV s v = (zeroV, false)) ∨ (¬ valText v = [] ∧ ¬ valText v = s ∧ chkV s v = (zeroV, false)) ∨ (¬ valText v = [] ∧ valText v = s ∧ chkV s v = (v, true)) := fun v => by
    by_cases h1 : valText v = []
    · exact .inl ⟨h1, by unfold chkV; rw [if_pos (.inl h1)]⟩
    by_cases h2 : valText v = s
    · exact .inr (.inr ⟨h1, h2, by unfold chkV; rw [if_neg (by rintro (h | h); exact h1 h; exact h h2)]⟩)
    · exact .inr (.inl ⟨h1, h2, by unfold chkV; rw [if_pos (.inr h2)]⟩)
  cases s with
  | nil =>
    have hx : valI [] = (zeroV, false) := rfl
    have ht : valText ⟨0, 0, []⟩ = nullB := rfl
    have hc := fin 0 0 [] (by simp)
    rw [ht] at hc
    simp only [nullB] at hc
    simp only [go_sem, kSt_ptr, Nat.reduceBEq, Nat.reduceAdd, Nat.reduceEqDiff, Nat.reduceLeDiff, Nat.reduceSub, reduceIte, Int.reduceBEq, Int.reduceEq, Int.reduceLT, Int.reduceLE, Int.reduceGT, Int.reduceGE, Int.reduceNe, Int.reduceBNe, s_impl_ParseVal, b1, b2, h1, p1, p2, hpre0, hx, zeroV, vFillK, vFill0, List.length_nil, h3, hc, sq_null0, sq_nulle, TVal.row]
  | cons c d =>
    have hih := ix_head c d
    have hst := sli_tail c d
    have hpd : d.length ≤ 1048576 := by simp at hp; omega
    have hat := C_strconv_Atoi_eq d hpd
    have hl0 : ¬ ((d.length + 1 : Nat) : Int) < 0 := by omega
    -- a numeral
    have num : ∀ (k : Int) (hk : k = 1 ∧ c = 105 ∨ k = 2 ∧ c = 110) (hnn : c = 110 → ¬ (c :: d) = nullB), valI (c :: d) = (match Lib.atoiAll d with | .ok n => chkV (c :: d) ⟨k, n, []⟩ | _ => (zeroV, false)) := fun k hk hnn => by
      unfold valI
      rw [if_neg e1, if_neg e2]
      rcases hk with ⟨rfl, rfl⟩ | ⟨rfl, rfl⟩
      · rw [if_pos (.inl List.head?_cons)]
        have hn : ¬ ((105 : UInt8) :: d).head? = some 110 := by simp
        simp only [if_neg hn, List.tail_cons]
        all_goals rfl
      · rw [if_pos (.inr ⟨List.head?_cons, hnn rfl⟩)]
        have hn : ((110 : UInt8) :: d).head? = some 110 := List.head?_cons
        simp only [if_pos hn, List.tail_cons]
        all_goals rfl
    by_cases hi : c = 105
    · subst hi
      have hpi : Lib.hasPrefix (105 :: d) [105] = true := by simp [Lib.hasPrefix, List.isPrefixOf]
      have hxn := num 1 (.inl ⟨rfl, rfl⟩) (fun h => by simp at h)
      cases ha : Lib.atoiAll d
      · rename_i n
        have hT : ∀ te, atoiT te d = .tup [.int .i64 n, .inil] := fun te => by unfold atoiT; rw [ha]
        rw [ha] at hxn
        simp only at hxn
        have hc := fin 1 n [] (by simp)
        rcases chk ⟨1, n, []⟩ with ⟨k1, k2⟩ | ⟨k1, k2, k3⟩ | ⟨k1, k2, k3⟩
        · rw [k1] at hc
          rw [hxn, k2]
          simp only [go_sem, kSt_ptr, Nat.reduceBEq, Nat.reduceAdd, Nat.reduceEqDiff, Nat.reduceLeDiff, Nat.reduceSub, reduceIte, Int.reduceBEq, Int.reduceEq, Int.reduceLT, Int.reduceLE, Int.reduceGT, Int.reduceGE, Int.reduceNe, Int.reduceBNe, s_impl_ParseVal, b1, b2, h1, p1, hpi, hst, h2, hat, hT, hih, u8q105n, vFillKN, vFill0, h3, hc, zeroV, TVal.row]
        · rw [hxn, k3]
          have q1 := beqF k1
          have q2 := beqF k2
          simp only [go_sem, kSt_ptr, Nat.reduceBEq, Nat.reduceAdd, Nat.reduceEqDiff, Nat.reduceLeDiff, Nat.reduceSub, reduceIte, Int.reduceBEq, Int.reduceEq, Int.reduceLT, Int.reduceLE, Int.reduceGT, Int.reduceGE, Int.reduceNe, Int.reduceBNe, s_impl_ParseVal, b1, b2, h1, p1, hpi, hst, h2, hat, hT, hih, u8q105n, vFillKN, vFill0, h3, hc, q1, q2, zeroV, TVal.row]
        · rw [hxn, k3]
          have q1 := beqF k1
          have q2 : (valText ⟨1, n, []⟩ == 105 :: d) = true := by rw [k2]; simp
          simp only [go_sem, kSt_ptr, Nat.reduceBEq, Nat.reduceAdd, Nat.reduceEqDiff, Nat.reduceLeDiff, Nat.reduceSub, reduceIte, Int.reduceBEq, Int.reduceEq, Int.reduceLT, Int.reduceLE, Int.reduceGT, Int.reduceGE, Int.reduceNe, Int.reduceBNe, s_impl_ParseVal, b1, b2, h1, p1, hpi, hst, h2, hat, hT, hih, u8q105n, vFillKN, vFill0, h3, hc, q1, q2, zeroV, TVal.row]
      · have hT : ∀ te, atoiT te d = .tup [.int .i64 0, .ifc te .unk] := fun te => by unfold atoiT; rw [ha]
        rw [ha] at hxn
        simp only at hxn
        rw [hxn]
        simp only [go_sem, kSt_ptr, Nat.reduceBEq, Nat.reduceAdd, Nat.reduceEqDiff, Nat.reduceLeDiff, Nat.reduceSub, reduceIte, Int.reduceBEq, Int.reduceEq, Int.reduceLT, Int.reduceLE, Int.reduceGT, Int.reduceGE, Int.reduceNe, Int.reduceBNe, s_impl_ParseVal, b1, b2, h1, p1, hpi, hst, h2, hat, hT, vFill0, zeroV, TVal.row]
      · have hT : ∀ te, atoiT te d = .tup [.int .i64 (Lib.atoiSat d), .ifc te .unk] := fun te => by unfold atoiT; rw [ha]
        rw [ha] at hxn
        simp only at hxn
        rw [hxn]
        simp only [go_sem, kSt_ptr, Nat.reduceBEq, Nat.reduceAdd, Nat.reduceEqDiff, Nat.reduceLeDiff, Nat.reduceSub, reduceIte, Int.reduceBEq, Int.reduceEq, Int.reduceLT, Int.reduceLE, Int.reduceGT, Int.reduceGE, Int.reduceNe, Int.reduceBNe, s_impl_ParseVal, b1, b2, h1, p1, hpi, hst, h2, hat, hT, vFill0, zeroV, TVal.row]
    have hpi : Lib.hasPrefix (c :: d) [105] = false := by simp [Lib.hasPrefix, List.isPrefixOf, Ne.symm hi]
    by_cases hn : c = 110 ∧ ¬ (c :: d) = nullB
    · obtain ⟨rfl, hn0⟩ := hn
      have hpn : Lib.hasPrefix (110 :: d) [110] = true := by simp [Lib.hasPrefix, List.isPrefixOf]
      have b0 := b0 hn0
      have hxn := num 2 (.inr ⟨rfl, rfl⟩) (fun _ => hn0)
      cases ha : Lib.atoiAll d
      · rename_i n
        have hT : ∀ te, atoiT te d = .tup [.int .i64 n, .inil] := fun te => by unfold atoiT; rw [ha]
        rw [ha] at hxn
        simp only at hxn
        have hc := fin 2 n [] (by simp)
        rcases chk ⟨2, n, []⟩ with ⟨k1, k2⟩ | ⟨k1, k2, k3⟩ | ⟨k1, k2, k3⟩
        · rw [k1] at hc
          rw [hxn, k2]
          simp only [go_sem, kSt_ptr, Nat.reduceBEq, Nat.reduceAdd, Nat.reduceEqDiff, Nat.reduceLeDiff, Nat.reduceSub, reduceIte, Int.reduceBEq, Int.reduceEq, Int.reduceLT, Int.reduceLE, Int.reduceGT, Int.reduceGE, Int.reduceNe, Int.reduceBNe, s_impl_ParseVal, b1, b2, b0, h1, p1, p2, hpi, hpn, hst, h2, hat, hT, hih, u8q110, vFillKN, vFill0, h3, hc, zeroV, TVal.row]
        · rw [hxn, k3]
          have q1 := beqF k1
          have q2 := beqF k2
          simp only [go_sem, kSt_ptr, Nat.reduceBEq, Nat.reduceAdd, Nat.reduceEqDiff, Nat.reduceLeDiff, Nat.reduceSub, reduceIte, Int.reduceBEq, Int.reduceEq, Int.reduceLT, Int.reduceLE, Int.reduceGT, Int.reduceGE, Int.reduceNe, Int.reduceBNe, s_impl_ParseVal, b1, b2, b0, h1, p1, p2, hpi, hpn, hst, h2, hat, hT, hih, u8q110, vFillKN, vFill0, h3, hc, q1, q2, zeroV, TVal.row]
        · rw [hxn, k3]
          have q1 := beqF k1
          have q2 : (valText ⟨2, n, []⟩ == 110 :: d) = true := by rw [k2]; simp
          simp only [go_sem, kSt_ptr, Nat.reduceBEq, Nat.reduceAdd, Nat.reduceEqDiff, Nat.reduceLeDiff, Nat.reduceSub, reduceIte, Int.reduceBEq, Int.reduceEq, Int.reduceLT, Int.reduceLE, Int.reduceGT, Int.reduceGE, Int.reduceNe, Int.reduceBNe, s_impl_ParseVal, b1, b2, b0, h1, p1, p2, hpi, hpn, hst, h2, hat, hT, hih, u8q110, vFillKN, vFill0, h3, hc, q1, q2, zeroV, TVal.row]
      · have hT : ∀ te, atoiT te d = .tup [.int .i64 0, .ifc te .unk] := fun te => by unfold atoiT; rw [ha]
        rw [ha] at hxn
        simp only at hxn
        rw [hxn]
        simp only [go_sem, kSt_ptr, Nat.reduceBEq, Nat.reduceAdd, Nat.reduceEqDiff, Nat.reduceLeDiff, Nat.reduceSub, reduceIte, Int.reduceBEq, Int.reduceEq, Int.reduceLT, Int.reduceLE, Int.reduceGT, Int.reduceGE, Int.reduceNe, Int.reduceBNe, s_impl_ParseVal, b1, b2, b0, h1, p1, p2, hpi, hpn, hst, h2, hat, hT, vFill0, zeroV, TVal.row]
      · have hT : ∀ te, atoiT te d = .tup [.int .i64 (Lib.atoiSat d), .ifc te .unk] := fun te => by unfold atoiT; rw [ha]
        rw [ha] at hxn
        simp only at hxn
        rw [hxn]
        simp only [go_sem, kSt_ptr, Nat.reduceBEq, Nat.reduceAdd, Nat.reduceEqDiff, Nat.reduceLeDiff, Nat.reduceSub, reduceIte, Int.reduceBEq, Int.reduceEq, Int.reduceLT, Int.reduceLE, Int.reduceGT, Int.reduceGE, Int.reduceNe, Int.reduceBNe, s_impl_ParseVal, b1, b2, b0, h1, p1, p2, hpi, hpn, hst, h2, hat, hT, vFill0, zeroV, TVal.row]
    -- neither
    have hx0 : valI (c :: d) = if 2 ≤ (((c :: d).length : Nat) : Int) ∧ (c :: d).head? = some 39 then chkV (c :: d) ⟨3, 0, (c :: d).tail.dropLast⟩ else chkV (c :: d) zeroV := by
      unfold valI
      rw [if_neg e1, if_neg e2, if_neg]
      rintro (h | h)
      · exact hi (by simpa using h)
      · exact hn ⟨by simpa using h.1, h.2⟩
    have key : ∀ {h : Hp}, True := trivial
    by_cases h39 : c = 39 ∧ d ≠ []
    · obtain ⟨rfl, hd⟩ := h39
      have hpn : Lib.hasPrefix (39 :: d) [110] = false := by simp [Lib.hasPrefix, List.isPrefixOf]
      obtain ⟨m, z, rfl⟩ : ∃ m z, d = m ++ [z] := ⟨d.dropLast, d.getLast hd, (List.dropLast_concat_getLast hd).symm⟩
      have hsl := sli_mid 39 z m
      have hlen : (((m ++ [z]).length + 1 : Nat) : Int) = (m.length : Int) + 2 := by simp; omega
      have hm : m.length ≤ 1048576 := by simp at hpd; omega
      have hw : IntKind.wrap .i64 ((m.length : Int) + 2 - 1) = (m.length : Int) + 1 := by rw [wrapId (by omega) (by omega)]; omega
      have h2l : (2 : Int) ≤ (m.length : Int) + 2 := by omega
      have z1 : ((39 : UInt8) :: (m ++ [z])).tail.dropLast = m := by simp
      rw [z1, if_pos ⟨by rw [List.length_cons, hlen]; omega, List.head?_cons⟩] at hx0
      have hc := fin 3 0 m (by omega)
      rcases chk ⟨3, 0, m⟩ with ⟨k1, k2⟩ | ⟨k1, k2, k3⟩ | ⟨k1, k2, k3⟩
      · rw [k1] at hc
        rw [hx0, k2]
        simp only [go_sem, kSt_ptr, Nat.reduceBEq, Nat.reduceAdd, Nat.reduceEqDiff, Nat.reduceLeDiff, Nat.reduceSub, reduceIte, Int.reduceBEq, Int.reduceEq, Int.reduceLT, Int.reduceLE, Int.reduceGT, Int.reduceGE, Int.reduceNe, Int.reduceBNe, s_impl_ParseVal, b1, b2, h1, p1, p2, hpi, hpn, hlen, h2l, hih, u8q39, hw, hsl, vFillKS, vFill0, h3, hc, zeroV, TVal.row]
      · rw [hx0, k3]
        have q1 := beqF k1
        have q2 := beqF k2
        simp only [go_sem, kSt_ptr, Nat.reduceBEq, Nat.reduceAdd, Nat.reduceEqDiff, Nat.reduceLeDiff, Nat.reduceSub, reduceIte, Int.reduceBEq, Int.reduceEq, Int.reduceLT, Int.reduceLE, Int.reduceGT, Int.reduceGE, Int.reduceNe, Int.reduceBNe, s_impl_ParseVal, b1, b2, h1, p1, p2, hpi, hpn, hlen, h2l, hih, u8q39, hw, hsl, vFillKS, vFill0, h3, hc, q1, q2, zeroV, TVal.row]
      · rw [hx0, k3]
        have q1 := beqF k1
        have q2 : (valText ⟨3, 0, m⟩ == 39 :: (m ++ [z])) = true := by rw [k2]; simp
        simp only [go_sem, kSt_ptr, Nat.reduceBEq, Nat.reduceAdd, Nat.reduceEqDiff, Nat.reduceLeDiff, Nat.reduceSub, reduceIte, Int.reduceBEq, Int.reduceEq, Int.reduceLT, Int.reduceLE, Int.reduceGT, Int.reduceGE, Int.reduceNe, Int.reduceBNe, s_impl_ParseVal, b1, b2, h1, p1, p2, hpi, hpn, hlen, h2l, hih, u8q39, hw, hsl, vFillKS, vFill0, h3, hc, q1, q2, zeroV, TVal.row]
    have hxz : valI (c :: d) = chkV (c :: d) zeroV := by
      rw [hx0, if_neg]
      rintro ⟨h1, h2⟩
      exact h39 ⟨by simpa using h2, fun e => by subst e; simp at h1⟩
    have hc := fin 0 0 [] (by simp)
    have ht : valText ⟨0, 0, []⟩ = [110, 117, 108, 108] := rfl
    rw [ht] at hc
    have hres : (¬ (c :: d) = nullB → valI (c :: d) = (zeroV, false)) ∧ ((c :: d) = nullB → valI (c :: d) = (zeroV, true)) := by
      rw [hxz]
      have htz : valText zeroV = [110, 117, 108, 108] := rfl
      refine ⟨fun hne => ?_, fun he => ?_⟩
      · unfold chkV; rw [if_pos (.inr (by rw [htz]; exact fun e => hne e.symm))]
      · unfold chkV; rw [htz, if_neg (by rintro (h | h); cases h; exact h he.symm)]
    by_cases hq : c = 39
    · have hd : d = [] := Classical.byContradiction fun h => h39 ⟨hq, h⟩
      have hpn : Lib.hasPrefix (c :: d) [110] = false := by subst hq; simp [Lib.hasPrefix, List.isPrefixOf]
      have hne : ¬ (c :: d) = nullB := by subst hq; simp [nullB]
      have h2l : ¬ (2 : Int) ≤ ((d.length + 1 : Nat) : Int) := by subst hd; decide
      rw [hres.1 hne]
      have q2 : (([110, 117, 108, 108] : List UInt8) == c :: d) = false := beqF fun e => hne e.symm
      simp only [go_sem, kSt_ptr, Nat.reduceBEq, Nat.reduceAdd, Nat.reduceEqDiff, Nat.reduceLeDiff, Nat.reduceSub, reduceIte, Int.reduceBEq, Int.reduceEq, Int.reduceLT, Int.reduceLE, Int.reduceGT, Int.reduceGE, Int.reduceNe, Int.reduceBNe, s_impl_ParseVal, b1, b2, h1, p1, p2, hpi, hpn, h2l, vFill0, h3, hc, sq_null0, q2, zeroV, TVal.row]
    have q39 : ((c.toNat : Int) == 39) = false := u8ne hq
    by_cases he : (c :: d) = nullB
    · rw [hres.2 he]
      have b0 := b0' he
      have hpn : Lib.hasPrefix (c :: d) [110] = true := by rw [he]; rfl
      have q2 : (([110, 117, 108, 108] : List UInt8) == c :: d) = true := by rw [he]; rfl
      have h2l : (2 : Int) ≤ ((d.length + 1 : Nat) : Int) := by
        have := congrArg List.length he
        simp [nullB] at this
        omega
      simp only [go_sem, kSt_ptr, Nat.reduceBEq, Nat.reduceAdd, Nat.reduceEqDiff, Nat.reduceLeDiff, Nat.reduceSub, reduceIte, Int.reduceBEq, Int.reduceEq, Int.reduceLT, Int.reduceLE, Int.reduceGT, Int.reduceGE, Int.reduceNe, Int.reduceBNe, s_impl_ParseVal, b1, b2, b0, h1, p1, p2, hpi, hpn, h2l, hih, q39, vFill0, h3, hc, sq_null0, q2, zeroV, TVal.row]
    · rw [hres.1 he]
      have hpn : Lib.hasPrefix (c :: d) [110] = false := by
        by_cases h110 : c = 110
        · exact absurd ⟨h110, he⟩ hn
        · simp [Lib.hasPrefix, List.isPrefixOf, Ne.symm h110]
      have q2 : (([110, 117, 108, 108] : List UInt8) == c :: d) = false := beqF fun e => he e.symm
      by_cases h2l : (2 : Int) ≤ ((d.length + 1 : Nat) : Int)
      · simp only [go_sem, kSt_ptr, Nat.reduceBEq, Nat.reduceAdd, Nat.reduceEqDiff, Nat.reduceLeDiff, Nat.reduceSub, reduceIte, Int.reduceBEq, Int.reduceEq, Int.reduceLT, Int.reduceLE, Int.reduceGT, Int.reduceGE, Int.reduceNe, Int.reduceBNe, s_impl_ParseVal, b1, b2, h1, p1, p2, hpi, hpn, h2l, hih, q39, vFill0, h3, hc, sq_null0, q2, zeroV, TVal.row]
      · simp only [go_sem, kSt_ptr, Nat.reduceBEq, Nat.reduceAdd, Nat.reduceEqDiff, Nat.reduceLeDiff, Nat.reduceSub, reduceIte, Int.reduceBEq, Int.reduceEq, Int.reduceLT, Int.reduceLE, Int.reduceGT, Int.reduceGE, Int.reduceNe, Int.reduceBNe, s_impl_ParseVal, b1, b2, h1, p1, p2, hpi, hpn, h2l, hih, q39, vFill0, h3, hc, sq_null0, q2, zeroV, TVal.row]
end Go.Proofs.YtbpafgbehkphoaaDoor.Rw
/- What the functions that FnRowTexts calls answer: part 8. -/
namespace Go.Proofs.YtbpafgbehkphoaaDoor.Rw
open Go Go.RowKit Go.Ev
set_option linter.unusedSimpArgs false
set_option linter.unusedVariables false
set_option maxHeartbeats 1600000
theorem u8i (b : UInt8) : IntKind.wrap .i64 (b.toNat : Int) = b.toNat := by
  have := b.toNat_lt
  exact wrapId (by omega) (by omega)
def smallB (b : UInt8) : Bool := inR b.toNat 97 122
def digitB (b : UInt8) : Bool := inR b.toNat 48 57
def nameB (pre : List UInt8) (b : UInt8) : Bool := smallB b || (!((pre.length : Int) == 0) && digitB b)
def isName (s : List UInt8) : Bool := allP nameB [] s && inR s.length 1 8
def words : List (List UInt8) := [[116, 97, 98, 108, 101], [112, 114, 105, 109, 97, 114, 121], [117, 110, 105, 113, 117, 101], [105, 110, 100, 101, 120], [110, 117, 108, 108], [100, 101, 115, 99], [105, 110, 116], [110, 117, 109], [116, 101, 120, 116], [98, 111, 111, 108]]
def hasS (l : List (List UInt8)) (s : List UInt8) : Bool := !(l.all fun w => !(w == s))
def freeW (s : List UInt8) : Bool := isName s && !(hasS words s)
def defNames (v : TDef) : Bool := (v.fCols.all fun c => freeW c.fName) && ((v.fIndexes.all fun x => freeW x.fName) && freeW v.fName)
def defTypes (v : TDef) : Bool := (v.fCols.all fun c => inR c.fType 1 4) && inR v.fCols.length 1 6
def colF (name : List UInt8) (pre : List TCol) (c : TCol) : Option Int := if c.fName = name then some (pre.length : Int) else none
def colAt (l : List TCol) (name : List UInt8) : Int := (earlyL (colF name) [] l).getD (-1)
def onceC (pre : List TCol) (c : TCol) : Bool := pre.all fun x => !(x.fName == c.fName)
def onceX (pre : List TIndex) (c : TIndex) : Bool := pre.all fun x => !(x.fName == c.fName)
def defOnce (v : TDef) : Bool := allP onceC [] v.fCols && allP onceX [] v.fIndexes
def partP (n : Int) (pre : List TBy) (p : TBy) : Bool := inR p.fCol 0 n && (pre.all fun q => !(q.fCol == p.fCol))
def partsOK (v : TDef) (l : List TBy) : Bool := allP (partP ((v.fCols.length : Int) - 1)) [] l && inR l.length 1 2
def defParts (v : TDef) : Bool := (v.fIndexes.all fun x => partsOK v x.fParts) && partsOK v v.fPrimary
def colNull (v : TDef) (i : Int) : Bool := match v.fCols[i.toNat]? with
  | some c => c.fNull
  | none => false
def primNull (v : TDef) : Bool := v.fPrimary.all fun p => !(colNull v p.fCol)
def checkDef (v : TDef) : Int :=
  if defNames v = false then 1 else if defTypes v = false then 2 else if defOnce v = false then 3 else if (2 : Int) < v.fIndexes.length then 6 else if defParts v = false then 5 else if primNull v = false then 4 else 0

theorem early_col (name : List UInt8) : ∀ (l pre : List TCol), (∀ x ∈ pre, x.fName ≠ name) → ∀ k, earlyL (colF name) pre l = some k → ∃ p c r, pre ++ l = p ++ c :: r ∧ k = p.length ∧ c.fName = name ∧ ∀ x ∈ p, x.fName ≠ name
  | [], pre, hp, k, h => by cases h
  | c :: r, pre, hp, k, h => by
    simp only [earlyL, colF] at h
    by_cases hc : c.fName = name
    · rw [if_pos hc] at h
      simp only [Option.some.injEq] at h
      exact ⟨pre, c, r, rfl, h.symm, hc, hp⟩
    · rw [if_neg hc] at h
      obtain ⟨p, c', r', h1, h2⟩ := early_col name r (pre ++ [c]) (fun x hx => by
        rcases List.mem_append.1 hx with hx | hx
        · exact hp x hx
        · simp only [List.mem_singleton] at hx; subst hx; exact hc) k h
      exact ⟨p, c', r', by rw [← h1]; simp, h2⟩
theorem early_skip (name : List UInt8) : ∀ (p pre l : List TCol), (∀ x ∈ p, x.fName ≠ name) → earlyL (colF name) pre (p ++ l) = earlyL (colF name) (pre ++ p) l
  | [], pre, l, _ => by simp
  | c :: p, pre, l, h => by
    have hc := h c List.mem_cons_self
    simp only [List.cons_append, earlyL, colF, if_neg hc]
    rw [early_skip name p (pre ++ [c]) l fun x hx => h x (List.mem_cons_of_mem _ hx)]
    simp
theorem colAt_once {l pre rest : List TCol} {c : TCol} (hl : l = pre ++ c :: rest) : (colAt l c.fName == (pre.length : Int)) = onceC pre c := by
  by_cases h : ∀ x ∈ pre, x.fName ≠ c.fName
  · have h1 : colAt l c.fName = pre.length := by
      unfold colAt
      rw [hl, early_skip _ pre [] _ h]
      simp [earlyL, colF]
    have h2 : onceC pre c = true := by
      unfold onceC
      rw [List.all_eq_true]
      intro x hx
      simp [h x hx]
    rw [h1, h2, beq_self_eq_true]
  · have h2 : onceC pre c = false := by
      cases h3 : onceC pre c with
      | false => rfl
      | true =>
        unfold onceC at h3
        rw [List.all_eq_true] at h3
        exact absurd (fun x hx => by simpa using h3 x hx) h
    rw [h2]
    have h4 : colAt l c.fName ≠ pre.length := by
      intro e
      unfold colAt at e
      cases he : earlyL (colF c.fName) [] l with
      | none => rw [he] at e; simp only [Option.getD_none] at e; omega
      | some k =>
        rw [he] at e
        simp only [Option.getD_some] at e
        obtain ⟨p, c', r, h5, h6, h7, h8⟩ := early_col c.fName l [] (fun x hx => by cases hx) k he
        have hlen : p.length = pre.length := by omega
        rw [List.nil_append, hl] at h5
        have := List.append_inj_left h5.symm hlen
        subst this
        exact h h8
    simpa using h4
theorem allP_congr {α : Type} {p q : List α → α → Bool} : ∀ (l pre : List α), (∀ pre' v rest, pre ++ l = pre' ++ v :: rest → p pre' v = q pre' v) → allP p pre l = allP q pre l
  | [], _, _ => rfl
  | v :: l, pre, h => by
    simp only [allP]
    rw [h pre v l rfl, allP_congr l (pre ++ [v]) fun pre' w rest he => h pre' w rest (by rw [← he]; simp)]
theorem defLens {v : TDef} (h : tDef.cost v ≤ 1048576) : v.fName.length ≤ 1048576 ∧ v.fCols.length ≤ 1048576 ∧ v.fPrimary.length ≤ 1048576 ∧ v.fIndexes.length ≤ 1048576 ∧ (∀ c ∈ v.fCols, c.fName.length ≤ 1048576) ∧ ∀ x ∈ v.fIndexes, x.fName.length ≤ 1048576 ∧ x.fParts.length ≤ 1048576 := by
  have h0 : v.fName.length + (v.fCols.length + costL tCol v.fCols) + (v.fPrimary.length + costL tBy v.fPrimary) + (v.fIndexes.length + costL tIndex v.fIndexes) ≤ 1048576 := h
  refine ⟨by omega, by omega, by omega, by omega, fun c hc => ?_, fun x hx => ?_⟩
  · have h1 := costL_mem tCol hc
    have h2 : tCol.cost c = c.fName.length := rfl
    omega
  · have h1 := costL_mem tIndex hx
    have h2 : tIndex.cost x = x.fName.length + (x.fParts.length + costL tBy x.fParts) := rfl
    constructor <;> omega
theorem defCols_len {v : TDef} (h : tDef.cost v ≤ 1048576) : IntKind.wrap .i64 ((v.fCols.length : Int) - 1) = (v.fCols.length : Int) - 1 := by
  have := (defLens h).2.1
  exact wrapId (by omega) (by omega)
theorem partsOK_spec (v : TDef) (l : List TBy) : (allP (fun pre p => inR p.fCol 0 ((v.fCols.length : Int) - 1) && !(decide (0 < (pre.length : Int)) && ((l.head?.map (·.fCol)) == some p.fCol))) [] l && inR l.length 1 2) = partsOK v l := by
  unfold partsOK
  by_cases h2 : l.length ≤ 2
  · congr 1
    refine allP_congr l [] fun pre p rest he => ?_
    rw [List.nil_append] at he
    unfold partP
    congr 1
    have hpl : pre.length ≤ 1 := by rw [he] at h2; simp at h2; omega
    match pre, hpl, he with
    | [], _, _ => simp
    | [q], _, he =>
      subst he
      simp
    | _ :: _ :: _, h, _ => simp at h
  · have : inR l.length 1 2 = false := by
      unfold inR
      simp
      omega
    rw [this, Bool.and_false, Bool.and_false]
theorem parts_col {v : TDef} {l : List TBy} (h : partsOK v l = true) : ∀ p ∈ l, 0 ≤ p.fCol ∧ p.fCol.toNat < v.fCols.length := by
  unfold partsOK at h
  simp only [Bool.and_eq_true] at h
  have go : ∀ (l pre : List TBy), allP (partP ((v.fCols.length : Int) - 1)) pre l = true → ∀ p ∈ l, 0 ≤ p.fCol ∧ p.fCol.toNat < v.fCols.length := by
    intro l
    induction l with
    | nil => intro pre _ p hp; cases hp
    | cons x l ih =>
      intro pre hx p hp
      simp only [allP, Bool.and_eq_true] at hx
      rcases List.mem_cons.1 hp with rfl | hp
      · have := hx.1
        unfold partP at this
        simp only [Bool.and_eq_true] at this
        have h1 := this.1
        unfold inR at h1
        simp at h1
        omega
      · exact ih _ hx.2 p hp
  exact go l [] h.1
theorem def_good {v : TDef} (h : checkDef v = 0) : defNames v = true ∧ defTypes v = true ∧ defOnce v = true ∧ v.fIndexes.length ≤ 2 ∧ defParts v = true ∧ primNull v = true := by
  unfold checkDef at h
  cases h1 : defNames v <;> simp [h1] at h
  cases h2 : defTypes v <;> simp [h2] at h
  cases h3 : defOnce v <;> simp [h3] at h
  by_cases h4 : (2 : Int) < v.fIndexes.length
  · simp [h4] at h
  cases h5 : defParts v <;> simp [h4, h5] at h
  cases h6 : primNull v <;> simp [h6] at h
  exact ⟨rfl, rfl, rfl, by omega, rfl, rfl⟩
def wordsText : List UInt8 := [116, 97, 98, 108, 101, 32, 112, 114, 105, 109, 97, 114, 121, 32, 117, 110, 105, 113, 117, 101, 32, 105, 110, 100, 101, 120, 32, 110, 117, 108, 108, 32, 100, 101, 115, 99, 32, 105, 110, 116, 32, 110, 117, 109, 32, 116, 101, 120, 116, 32, 98, 111, 111, 108]
theorem words_split : Lib.split wordsText [32] = words := by decide +kernel
noncomputable def C_strings_Split := c2 strT strT (fun s sep => s.length < 4294967281 ∧ 1 ≤ sep.length) (fun l => .imm (l.map strT.row)) fun s sep => Lib.split s sep
theorem C_strings_Split_eq (s sep : List UInt8) (h : s.length < 4294967281 ∧ 1 ≤ sep.length) : C_strings_Split [.str s, .str sep] = some (.imm ((Lib.split s sep).map strT.row)) := c2_eq strT strT h
def cutB (c : UInt8) : List UInt8 → List (List UInt8)
  | [] => [[]]
  | b :: r => if b = c then [] :: cutB c r else match cutB c r with
    | h :: t => (b :: h) :: t
    | [] => [[b]]
theorem cutB_ne (c : UInt8) : ∀ s, cutB c s ≠ []
  | [] => by simp [cutB]
  | b :: r => by
    unfold cutB
    split
    · simp
    · split <;> simp
theorem index_cons1 (b c : UInt8) (l : List UInt8) : Lib.index (b :: l) [c] = if b = c then 0 else if Lib.index l [c] = -1 then -1 else Lib.index l [c] + 1 := by
  rw [Lib.index]
  by_cases h : b = c
  · subst h; simp [List.isPrefixOf]
  · have : ([c] : List UInt8).isPrefixOf (b :: l) = false := by simp [List.isPrefixOf, Ne.symm h]
    rw [this, if_neg h]
    simp
theorem splitK_cut (c : UInt8) : ∀ (s : List UInt8) (k : Nat), k = Lib.count s [c] → Lib.splitK [c] 0 k s = cutB c s
  | [], k, hk => by
    cases k with
    | zero => rfl
    | succ k => simp [Lib.splitK, Lib.index, cutB]
  | b :: r, k, hk => by
    by_cases h : b = c
    · subst h
      rw [Lib.count_cons_eq] at hk
      obtain ⟨j, rfl⟩ : ∃ j, k = j + 1 := ⟨k - 1, by omega⟩
      have := splitK_cut b r j (by omega)
      rw [Lib.splitK, index_cons1, if_pos rfl]
      simp [cutB, this]
    · rw [Lib.count_cons_ne b c r h] at hk
      have ih := splitK_cut c r k hk
      have hge := Lib.index_ge r [c]
      rw [cutB, if_neg h, ← ih]
      cases k with
      | zero => simp [Lib.splitK]
      | succ k =>
        rw [Lib.splitK, Lib.splitK, index_cons1, if_neg h]
        by_cases hm : Lib.index r [c] = -1
        · simp [hm]
        · have h1 : ¬ Lib.index r [c] + 1 = -1 := by omega
          obtain ⟨j, hj⟩ : ∃ j : Nat, Lib.index r [c] = j := ⟨(Lib.index r [c]).toNat, by omega⟩
          have e1 : ((j : Int) + 1).toNat = j + 1 := by omega
          have e2 : ¬ (j : Int) = -1 := by omega
          have e3 : ¬ (j : Int) + 1 = -1 := by omega
          simp [hj, e1, e2, e3]

theorem split_cut (c : UInt8) (s : List UInt8) : Lib.split s [c] = cutB c s := splitK_cut c s _ rfl
theorem cutB_snoc (c b : UInt8) : ∀ s : List UInt8, cutB c (s ++ [b]) = if b = c then cutB c s ++ [[]] else (cutB c s).dropLast ++ [(cutB c s).getLast (cutB_ne c s) ++ [b]]
  | [] => by
    by_cases h : b = c
    · subst h; simp [cutB]
    · simp [cutB, h]
  | a :: r => by
    have ih := cutB_snoc c b r
    have hne := cutB_ne c r
    by_cases hb : b = c
    · rw [if_pos hb] at ih ⊢
      by_cases ha : a = c
      · simp only [List.cons_append, cutB, ha, if_true, ih]
      · simp only [List.cons_append, cutB, ha, if_false, ih]
        obtain ⟨h, t, e⟩ := List.exists_cons_of_ne_nil hne
        rw [e]
        rfl
    · rw [if_neg hb] at ih ⊢
      by_cases ha : a = c
      · simp only [List.cons_append, cutB, ha, if_true, ih]
        rw [List.dropLast_cons_of_ne_nil hne, List.getLast_cons hne]
        rfl
      · simp only [List.cons_append, cutB, ha, if_false, ih]
        obtain ⟨h, t, e⟩ := List.exists_cons_of_ne_nil hne
        simp only [e]
        cases t with
        | nil => simp
        | cons t1 t2 => simp
theorem cutB_len (c : UInt8) : ∀ s : List UInt8, (cutB c s).length ≤ s.length + 1
  | [] => by simp [cutB]
  | b :: r => by
    have := cutB_len c r
    unfold cutB
    split
    · simp; omega
    · split
      · rename_i e; rw [e] at this; simp at this ⊢; omega
      · simp
theorem cutB_mem (c : UInt8) : ∀ (s : List UInt8) (p : List UInt8), p ∈ cutB c s → p.length ≤ s.length
  | [], p, h => by simp [cutB] at h; simp [h]
  | b :: r, p, h => by
    have ih := cutB_mem c r
    unfold cutB at h
    split at h
    · rcases List.mem_cons.1 h with rfl | h
      · simp
      · have := ih p h; simp; omega
    · split at h
      · rename_i e
        rcases List.mem_cons.1 h with rfl | h
        · have := ih _ (by rw [e]; exact List.mem_cons_self); simp; omega
        · have := ih p (by rw [e]; exact List.mem_cons_of_mem _ h); simp; omega
      · simp at h; simp [h]
def cutL (c : UInt8) (s : List UInt8) : List UInt8 := (cutB c s).getLast (cutB_ne c s)
theorem cutL_snoc_eq (c : UInt8) (s : List UInt8) : cutL c (s ++ [c]) = [] ∧ (cutB c (s ++ [c])).dropLast = cutB c s := by
  unfold cutL
  have := cutB_snoc c c s
  rw [if_pos rfl] at this
  simp only [this]
  simp
theorem cutL_snoc_ne {c b : UInt8} (s : List UInt8) (h : ¬ b = c) : cutL c (s ++ [b]) = cutL c s ++ [b] ∧ (cutB c (s ++ [b])).dropLast = (cutB c s).dropLast := by
  unfold cutL
  have := cutB_snoc c b s
  rw [if_neg h] at this
  simp only [this]
  simp
theorem cut_eq (c : UInt8) (s : List UInt8) : cutB c s = (cutB c s).dropLast ++ [cutL c s] := (List.dropLast_concat_getLast (cutB_ne c s)).symm
theorem cutL_suf (c : UInt8) (s : List UInt8) : ∃ X, s = X ++ cutL c s := by
  have gen : ∀ (r : List UInt8), ∃ X, r.reverse = X ++ cutL c r.reverse := by
    intro r
    induction r with
    | nil => exact ⟨[], rfl⟩
    | cons b r ih =>
      rw [List.reverse_cons]
      by_cases h : b = c
      · subst h
        rw [(cutL_snoc_eq b r.reverse).1]
        exact ⟨r.reverse ++ [b], by simp⟩
      · rw [(cutL_snoc_ne r.reverse h).1]
        obtain ⟨X, hX⟩ := ih
        exact ⟨X, by rw [← List.append_assoc, ← hX]⟩
  have := gen s.reverse
  rwa [List.reverse_reverse] at this
theorem cutL_len (c : UInt8) (s : List UInt8) : (cutL c s).length ≤ s.length := by
  obtain ⟨X, hX⟩ := cutL_suf c s
  have := congrArg List.length hX
  rw [List.length_append] at this
  omega
/-- Where the last piece begins. -/
def cutF (c : UInt8) (s : List UInt8) : Nat := s.length - (cutL c s).length
theorem cutF_eq (c : UInt8) (s : List UInt8) : cutF c (s ++ [c]) = s.length + 1 := by
  unfold cutF
  rw [(cutL_snoc_eq c s).1]
  simp
theorem cutF_ne {c b : UInt8} (s : List UInt8) (h : ¬ b = c) : cutF c (s ++ [b]) = cutF c s := by
  unfold cutF
  rw [(cutL_snoc_ne s h).1]
  simp
theorem cutF_sl (c : UInt8) {s pre rest : List UInt8} (hs : s = pre ++ rest) : sIdxS (.str s) (some (.int .i64 (cutF c pre))) (some (.int .i64 pre.length)) = some (.str (cutL c pre)) := by
  have hl := cutL_len c pre
  obtain ⟨X, hX⟩ := cutL_suf c pre
  have hXl : X.length = cutF c pre := by
    have := congrArg List.length hX
    rw [List.length_append] at this
    unfold cutF
    omega
  have h1 : cutF c pre ≤ pre.length := by unfold cutF; omega
  have h2 : pre.length ≤ s.length := by rw [hs]; simp
  simp only [sIdxS, asNat]
  rw [if_pos ⟨by omega, by omega⟩, Option.bind_some, Int.toNat_natCast, if_pos ⟨by omega, by omega⟩, Option.bind_some, Int.toNat_natCast]
  congr 2
  rw [hs, List.take_left', ← hXl]
  · conv => lhs; rw [hX]
    simp
  · rfl
/-- A row of its text. -/
def okB (p : List UInt8) : Bool := (parseVal p).2
def vOf (p : List UInt8) : TVal := (parseVal p).1
def parseRow (s : List UInt8) : List TVal × Bool :=
  if s = [] then ([], true) else if (cutB 32 s).all okB = true ∧ (cutB 32 s).length ≤ 8 then ((cutB 32 s).map vOf, true) else ([], false)
theorem allP_row : ∀ (rest pre : List (List UInt8)), allP (fun pre v => okB v && decide ((pre.length : Int) ≤ 7)) pre rest = true ↔ rest.all okB = true ∧ (rest ≠ [] → pre.length + rest.length ≤ 8)
  | [], pre => by simp [allP]
  | v :: rest, pre => by
    rw [allP, Bool.and_eq_true, allP_row rest (pre ++ [v]), Bool.and_eq_true, List.all_cons, Bool.and_eq_true, decide_eq_true_eq, List.length_append, List.length_cons, List.length_nil, List.length_cons]
    constructor
    · rintro ⟨⟨h1, h2⟩, h3, h4⟩
      refine ⟨⟨h1, h3⟩, fun _ => ?_⟩
      by_cases hr : rest = []
      · subst hr; simp; omega
      · have := h4 hr; omega
    · rintro ⟨⟨h1, h3⟩, h4⟩
      have := h4 (by simp)
      exact ⟨⟨h1, by omega⟩, h3, fun _ => by omega⟩
theorem parseRow_all {s : List UInt8} (hs : ¬ s = []) : (allP (fun pre v => okB v && decide ((pre.length : Int) ≤ 7)) [] (cutB 32 s) = true → parseRow s = ((cutB 32 s).map vOf, true)) ∧ (allP (fun pre v => okB v && decide ((pre.length : Int) ≤ 7)) [] (cutB 32 s) = false → parseRow s = ([], false)) := by
  have h := allP_row (cutB 32 s) []
  have hne := cutB_ne 32 s
  unfold parseRow
  rw [if_neg hs]
  refine ⟨fun ha => ?_, fun ha => ?_⟩
  · obtain ⟨h1, h2⟩ := h.1 ha
    rw [if_pos ⟨h1, by have := h2 hne; simpa using this⟩]
  · rw [if_neg]
    rintro ⟨h1, h2⟩
    have := h.2 ⟨h1, fun _ => by simpa using h2⟩
    rw [ha] at this
    cases this
theorem parseRow_good (s : List UInt8) (hs : s.length ≤ 1048576) : (parseRow s).1.length ≤ 8 := by
  unfold parseRow
  split
  · simp
  · split
    · rename_i h; simpa using h.2
    · simp
theorem vOf_len (p : List UInt8) : (vOf p).fS.length ≤ 30 := by
  unfold vOf parseVal
  split
  · exact Nat.zero_le _
  · rename_i h
    simp only [not_or, Bool.not_eq_false] at h
    by_cases h3 : (val2 p).1.fK = 3
    · exact valOk_len h.2 h3
    · rw [valOk_str h.2 h3]; exact Nat.zero_le _
theorem parseRow_cost (s : List UInt8) : (sliceT tVal).cost (parseRow s).1 ≤ 1048576 := by
  have each : ∀ l : List (List UInt8), costL tVal (l.map vOf) ≤ 30 * l.length := by
    intro l
    induction l with
    | nil => exact Nat.le_refl _
    | cons p l ih =>
      have h1 : tVal.cost (vOf p) ≤ 30 := vOf_len p
      show tVal.cost (vOf p) + costL tVal (l.map vOf) ≤ 30 * (l.length + 1)
      omega
  have hc : ∀ l : List TVal, (sliceT tVal).cost l = l.length + costL tVal l := fun _ => rfl
  rw [hc]
  unfold parseRow
  split
  · simp [costL]
  · split
    · rename_i h
      have h1 := each (cutB 32 s)
      have h2 : ((cutB 32 s).map vOf).length = (cutB 32 s).length := by simp
      simp only []
      omega
    · simp [costL]
end Go.Proofs.YtbpafgbehkphoaaDoor.Rw
