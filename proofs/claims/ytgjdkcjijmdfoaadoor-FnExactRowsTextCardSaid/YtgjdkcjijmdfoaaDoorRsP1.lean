/- What the functions that FnExactRowsText calls answer, for every argument within the law's bounds: part 1. -/
import Derived.Test.YtgjdkcjijmdfoaaDoorRsEvB
import Derived.Test.YtgjdkcjijmdfoaaDoorProg
import Derived.Lib.Bytealg
import Derived.Lib.ItoaLen
import Derived.Lib.ItoaMem
import Derived.Lib.ItoaNum
import Derived.Lib.Join
/- The resolved code of what FnExactRowsText calls. -/
namespace Go.Proofs.YtgjdkcjijmdfoaaDoor.Rs
open Go Go.RowKit Go.Ev
set_option linter.unusedSimpArgs false
def s_laws_szVal : SFn := ⟨13, .seq (.rg [⟨some 2, none, .box (.t 0)⟩,
  ⟨some 4, none, .mv (.c (.int .i64 0))⟩]) (.seq (.rg [⟨some 5, none, .mv (.t 1)⟩,
  ⟨some 6, none, .fa 2 (.t 2)⟩,
  ⟨some 7, none, .ld (.t 6)⟩,
  ⟨some 8, none, .lenS (.t 7)⟩,
  ⟨some 9, none, .bin .sub (.t 5) (.t 8)⟩,
  ⟨some 1, none, .mv (.t 9)⟩]) (.seq (.seq (.rg [⟨some 10, none, .mv (.t 1)⟩,
  ⟨some 11, none, .bin .lss (.t 10) (.c (.int .i64 0))⟩]) (.cond (.t 11) (.seq (.rg [⟨some 4, none, .mv (.c (.int .i64 (-1)))⟩]) (.ret)) (.skip))) (.seq (.rg [⟨some 12, none, .mv (.t 1)⟩,
  ⟨some 4, none, .mv (.t 12)⟩]) (.ret)))), [.t 4]⟩
def s_laws_toVal : SFn := ⟨14, .seq (.rg [⟨some 1, none, .box (.t 0)⟩,
  ⟨some 2, none, .alloc [.int .i64 0, .int .i64 0, .str []]⟩]) (.seq (.rg [⟨some 3, none, .alloc [.int .i64 0, .int .i64 0, .str []]⟩]) (.seq (.rg [⟨some 4, none, .fa 0 (.t 1)⟩,
  ⟨some 5, none, .ld (.t 4)⟩,
  ⟨some 6, none, .fa 0 (.t 3)⟩,
  ⟨none, none, .st 1 (.t 6) (.t 5)⟩]) (.seq (.rg [⟨some 7, none, .fa 1 (.t 1)⟩,
  ⟨some 8, none, .ld (.t 7)⟩,
  ⟨some 9, none, .fa 1 (.t 3)⟩,
  ⟨none, none, .st 1 (.t 9) (.t 8)⟩]) (.seq (.rg [⟨some 10, none, .fa 2 (.t 1)⟩,
  ⟨some 11, none, .ld (.t 10)⟩,
  ⟨some 12, none, .fa 2 (.t 3)⟩,
  ⟨none, none, .st 1 (.t 12) (.t 11)⟩]) (.seq (.rg [⟨some 13, none, .ldA 3 (.t 3)⟩,
  ⟨none, none, .st 3 (.t 2) (.t 13)⟩]) (.ret)))))), [.ldA 2 3]⟩
def s_spec_l1In : SFn := ⟨15, .seq (.rg [⟨some 6, none, .mv (.c (.bool false))⟩]) (.seq (.rg [⟨some 7, none, .mv (.t 0)⟩,
  ⟨some 8, none, .mv (.t 1)⟩,
  ⟨some 9, none, .bin .geq (.t 7) (.t 8)⟩,
  ⟨some 10, none, .mv (.t 9)⟩,
  ⟨some 11, some (10, true), .mv (.t 0)⟩,
  ⟨some 12, some (10, true), .mv (.t 2)⟩,
  ⟨some 13, some (10, true), .bin .leq (.t 11) (.t 12)⟩,
  ⟨some 14, none, .pick (.t 10) (.t 13) (.c (.bool false))⟩,
  ⟨some 6, none, .mv (.t 14)⟩]) (.ret)), [.t 6]⟩
def s_spec_ValOk : SFn := ⟨56, .seq (.rg [⟨some 1, none, .box (.t 0)⟩,
  ⟨some 2, none, .mv (.c (.bool false))⟩]) (.seq (.seq (.rg [⟨some 3, none, .fa 0 (.t 1)⟩,
  ⟨some 4, none, .ld (.t 3)⟩]) (.blk 0 (.seq (.rg [⟨some 6, none, .bin .eql (.t 4) (.c (.int .i64 0))⟩,
  ⟨some 5, none, .mv (.t 6)⟩]) (.cond (.t 5) (.seq (.rg [⟨some 7, none, .fa 1 (.t 1)⟩,
  ⟨some 8, none, .ld (.t 7)⟩,
  ⟨some 9, none, .bin .eql (.t 8) (.c (.int .i64 0))⟩,
  ⟨some 10, none, .mv (.t 9)⟩,
  ⟨some 11, some (10, true), .fa 2 (.t 1)⟩,
  ⟨some 12, some (10, true), .ld (.t 11)⟩,
  ⟨some 13, some (10, true), .bin .eql (.t 12) (.c (.str []))⟩,
  ⟨some 14, none, .pick (.t 10) (.t 13) (.c (.bool false))⟩,
  ⟨some 2, none, .mv (.t 14)⟩]) (.ret)) (.seq (.rg [⟨some 16, none, .bin .eql (.t 4) (.c (.int .i64 1))⟩,
  ⟨some 15, none, .mv (.t 16)⟩]) (.cond (.t 15) (.seq (.rg [⟨some 17, none, .fa 1 (.t 1)⟩,
  ⟨some 18, none, .ld (.t 17)⟩,
  ⟨some 19, none, .callP 39 [.t 18, .c (.int .i64 (-2147483648)), .c (.int .i64 2147483647)]⟩,
  ⟨some 20, none, .mv (.t 19)⟩,
  ⟨some 21, some (20, true), .fa 2 (.t 1)⟩,
  ⟨some 22, some (20, true), .ld (.t 21)⟩,
  ⟨some 23, some (20, true), .bin .eql (.t 22) (.c (.str []))⟩,
  ⟨some 24, none, .pick (.t 20) (.t 23) (.c (.bool false))⟩,
  ⟨some 2, none, .mv (.t 24)⟩]) (.ret)) (.seq (.rg [⟨some 26, none, .bin .eql (.t 4) (.c (.int .i64 2))⟩,
  ⟨some 25, none, .mv (.t 26)⟩]) (.cond (.t 25) (.seq (.rg [⟨some 27, none, .fa 1 (.t 1)⟩,
  ⟨some 28, none, .ld (.t 27)⟩,
  ⟨some 29, none, .callP 39 [.t 28, .c (.int .i64 (-1000000000000000)), .c (.int .i64 1000000000000000)]⟩,
  ⟨some 30, none, .mv (.t 29)⟩,
  ⟨some 31, some (30, true), .fa 2 (.t 1)⟩,
  ⟨some 32, some (30, true), .ld (.t 31)⟩,
  ⟨some 33, some (30, true), .bin .eql (.t 32) (.c (.str []))⟩,
  ⟨some 34, none, .pick (.t 30) (.t 33) (.c (.bool false))⟩,
  ⟨some 2, none, .mv (.t 34)⟩]) (.ret)) (.seq (.rg [⟨some 36, none, .bin .eql (.t 4) (.c (.int .i64 3))⟩,
  ⟨some 35, none, .mv (.t 36)⟩]) (.cond (.t 35) (.seq (.rg [⟨some 37, none, .fa 2 (.t 1)⟩,
  ⟨some 38, none, .ld (.t 37)⟩,
  ⟨some 39, none, .lenS (.t 38)⟩,
  ⟨some 40, none, .bin .leq (.t 39) (.c (.int .i64 30))⟩,
  ⟨some 41, none, .mv (.t 40)⟩,
  ⟨some 42, some (41, true), .fa 1 (.t 1)⟩,
  ⟨some 43, some (41, true), .ld (.t 42)⟩,
  ⟨some 44, some (41, true), .bin .eql (.t 43) (.c (.int .i64 0))⟩,
  ⟨some 45, none, .pick (.t 41) (.t 44) (.c (.bool false))⟩,
  ⟨some 2, none, .mv (.t 45)⟩]) (.ret)) (.seq (.rg [⟨some 47, none, .bin .eql (.t 4) (.c (.int .i64 4))⟩,
  ⟨some 46, none, .mv (.t 47)⟩]) (.cond (.t 46) (.seq (.rg [⟨some 48, none, .fa 1 (.t 1)⟩,
  ⟨some 49, none, .ld (.t 48)⟩,
  ⟨some 50, none, .callP 39 [.t 49, .c (.int .i64 0), .c (.int .i64 1)]⟩,
  ⟨some 51, none, .mv (.t 50)⟩,
  ⟨some 52, some (51, true), .fa 2 (.t 1)⟩,
  ⟨some 53, some (51, true), .ld (.t 52)⟩,
  ⟨some 54, some (51, true), .bin .eql (.t 53) (.c (.str []))⟩,
  ⟨some 55, none, .pick (.t 51) (.t 54) (.c (.bool false))⟩,
  ⟨some 2, none, .mv (.t 55)⟩]) (.ret)) (.skip))))))))))))) (.seq (.rg [⟨some 2, none, .mv (.c (.bool false))⟩]) (.ret))), [.t 2]⟩
def s_spec_l2Plain_L0 : SCode := .seq (.seq (.rg [⟨some 4, none, .mv (.t 3)⟩,
  ⟨some 5, none, .mv (.t 0)⟩,
  ⟨some 6, none, .lenS (.t 5)⟩,
  ⟨some 7, none, .bin .lss (.t 4) (.t 6)⟩]) (.cond (.t 7) (.skip) (.exit 0))) (.seq (.blk 1 (.seq (.rg [⟨some 10, none, .mv (.t 0)⟩,
  ⟨some 11, none, .mv (.t 3)⟩,
  ⟨some 12, none, .ix (.t 10) (.t 11)⟩,
  ⟨some 13, none, .cvI .i64 (.t 12)⟩,
  ⟨some 14, none, .callP 39 [.t 13, .c (.int .i64 32), .c (.int .i64 126)]⟩,
  ⟨some 15, none, .un .not (.t 14)⟩,
  ⟨some 16, none, .mv (.t 15)⟩,
  ⟨some 17, some (16, false), .mv (.t 0)⟩,
  ⟨some 18, some (16, false), .mv (.t 3)⟩,
  ⟨some 19, some (16, false), .ix (.t 17) (.t 18)⟩,
  ⟨some 20, some (16, false), .bin .eql (.t 19) (.c (.int .u8 39))⟩,
  ⟨some 21, none, .pick (.t 16) (.c (.bool true)) (.t 20)⟩]) (.cond (.t 21) (.seq (.rg [⟨some 2, none, .mv (.c (.bool false))⟩]) (.ret)) (.skip)))) (.rg [⟨some 8, none, .mv (.t 3)⟩,
  ⟨some 9, none, .bin .add (.t 8) (.c (.int .i64 1))⟩,
  ⟨some 3, none, .mv (.t 9)⟩]))
def s_spec_l2Plain : SFn := ⟨22, .seq (.rg [⟨some 2, none, .mv (.c (.bool false))⟩]) (.seq (.seq (.rg [⟨some 3, none, .mv (.c (.int .i64 0))⟩]) (.blk 0 (.loop s_spec_l2Plain_L0))) (.seq (.rg [⟨some 2, none, .mv (.c (.bool true))⟩]) (.ret))), [.t 2]⟩
def s_spec_l2Num : SFn := ⟨28, .seq (.rg [⟨some 2, none, .mv (.c (.str []))⟩]) (.seq (.blk 0 (.seq (.rg [⟨some 4, none, .mv (.t 0)⟩,
  ⟨some 5, none, .bin .lss (.t 4) (.c (.int .i64 0))⟩,
  ⟨some 3, none, .mv (.t 5)⟩]) (.cond (.t 3) (.seq (.rg [⟨some 6, none, .mv (.t 0)⟩,
  ⟨some 7, none, .un .neg (.t 6)⟩,
  ⟨some 8, none, .callP 55 [.t 7]⟩,
  ⟨some 9, none, .bin .add (.c (.str [45])) (.t 8)⟩,
  ⟨some 2, none, .mv (.t 9)⟩]) (.ret)) (.seq (.rg [⟨some 11, none, .mv (.t 0)⟩,
  ⟨some 12, none, .bin .lss (.t 11) (.c (.int .i64 10))⟩,
  ⟨some 10, none, .mv (.t 12)⟩]) (.cond (.t 10) (.seq (.rg [⟨some 13, none, .mv (.t 0)⟩,
  ⟨some 14, none, .bin .add (.c (.int .i64 48)) (.t 13)⟩,
  ⟨some 15, none, .cvI .u8 (.t 14)⟩,
  ⟨some 16, none, .bslice false [.int .u8 0] 1 [(0, .t 15)]⟩,
  ⟨some 17, none, .cvS (.t 16)⟩,
  ⟨some 2, none, .mv (.t 17)⟩]) (.ret)) (.skip)))))) (.seq (.rg [⟨some 18, none, .mv (.t 0)⟩,
  ⟨some 19, none, .bin .quo (.t 18) (.c (.int .i64 10))⟩,
  ⟨some 20, none, .callP 55 [.t 19]⟩,
  ⟨some 21, none, .mv (.t 0)⟩,
  ⟨some 22, none, .bin .rem (.t 21) (.c (.int .i64 10))⟩,
  ⟨some 23, none, .bin .add (.c (.int .i64 48)) (.t 22)⟩,
  ⟨some 24, none, .cvI .u8 (.t 23)⟩,
  ⟨some 25, none, .bslice false [.int .u8 0] 1 [(0, .t 24)]⟩,
  ⟨some 26, none, .cvS (.t 25)⟩,
  ⟨some 27, none, .bin .add (.t 20) (.t 26)⟩,
  ⟨some 2, none, .mv (.t 27)⟩]) (.ret))), [.t 2]⟩
def s_spec_ValText : SFn := ⟨37, .seq (.rg [⟨some 1, none, .box (.t 0)⟩,
  ⟨some 2, none, .mv (.c (.str []))⟩]) (.seq (.seq (.rg [⟨some 3, none, .ldA 3 (.t 1)⟩,
  ⟨some 4, none, .callP 53 [.t 3]⟩,
  ⟨some 5, none, .un .not (.t 4)⟩,
  ⟨some 6, none, .mv (.t 5)⟩,
  ⟨some 7, some (6, false), .fa 2 (.t 1)⟩,
  ⟨some 8, some (6, false), .ld (.t 7)⟩,
  ⟨some 9, some (6, false), .callP 54 [.t 8]⟩,
  ⟨some 10, some (6, false), .un .not (.t 9)⟩,
  ⟨some 11, none, .pick (.t 6) (.c (.bool true)) (.t 10)⟩]) (.cond (.t 11) (.seq (.rg [⟨some 2, none, .mv (.c (.str []))⟩]) (.ret)) (.skip))) (.seq (.seq (.rg [⟨some 12, none, .fa 0 (.t 1)⟩,
  ⟨some 13, none, .ld (.t 12)⟩]) (.blk 0 (.seq (.rg [⟨some 15, none, .bin .eql (.t 13) (.c (.int .i64 1))⟩,
  ⟨some 14, none, .mv (.t 15)⟩]) (.cond (.t 14) (.seq (.rg [⟨some 16, none, .fa 1 (.t 1)⟩,
  ⟨some 17, none, .ld (.t 16)⟩,
  ⟨some 18, none, .callP 55 [.t 17]⟩,
  ⟨some 19, none, .bin .add (.c (.str [105])) (.t 18)⟩,
  ⟨some 2, none, .mv (.t 19)⟩]) (.ret)) (.seq (.rg [⟨some 21, none, .bin .eql (.t 13) (.c (.int .i64 2))⟩,
  ⟨some 20, none, .mv (.t 21)⟩]) (.cond (.t 20) (.seq (.rg [⟨some 22, none, .fa 1 (.t 1)⟩,
  ⟨some 23, none, .ld (.t 22)⟩,
  ⟨some 24, none, .callP 55 [.t 23]⟩,
  ⟨some 25, none, .bin .add (.c (.str [110])) (.t 24)⟩,
  ⟨some 2, none, .mv (.t 25)⟩]) (.ret)) (.seq (.rg [⟨some 27, none, .bin .eql (.t 13) (.c (.int .i64 3))⟩,
  ⟨some 26, none, .mv (.t 27)⟩]) (.cond (.t 26) (.seq (.rg [⟨some 28, none, .fa 2 (.t 1)⟩,
  ⟨some 29, none, .ld (.t 28)⟩,
  ⟨some 30, none, .bin .add (.c (.str [39])) (.t 29)⟩,
  ⟨some 31, none, .bin .add (.t 30) (.c (.str [39]))⟩,
  ⟨some 2, none, .mv (.t 31)⟩]) (.ret)) (.seq (.rg [⟨some 33, none, .bin .eql (.t 13) (.c (.int .i64 4))⟩,
  ⟨some 32, none, .mv (.t 33)⟩]) (.cond (.t 32) (.seq (.seq (.rg [⟨some 34, none, .fa 1 (.t 1)⟩,
  ⟨some 35, none, .ld (.t 34)⟩,
  ⟨some 36, none, .bin .eql (.t 35) (.c (.int .i64 1))⟩]) (.cond (.t 36) (.seq (.rg [⟨some 2, none, .mv (.c (.str [121, 101, 115]))⟩]) (.ret)) (.skip))) (.seq (.rg [⟨some 2, none, .mv (.c (.str [110, 111]))⟩]) (.ret))) (.skip))))))))))) (.seq (.rg [⟨some 2, none, .mv (.c (.str [110, 117, 108, 108]))⟩]) (.ret)))), [.t 2]⟩
def s_spec_l28Blank_L0 : SCode := .seq (.seq (.rg [⟨some 4, none, .mv (.t 3)⟩,
  ⟨some 5, none, .mv (.t 0)⟩,
  ⟨some 6, none, .lenS (.t 5)⟩,
  ⟨some 7, none, .bin .lss (.t 4) (.t 6)⟩]) (.cond (.t 7) (.skip) (.exit 0))) (.seq (.blk 1 (.seq (.rg [⟨some 10, none, .mv (.t 0)⟩,
  ⟨some 11, none, .mv (.t 3)⟩,
  ⟨some 12, none, .ix (.t 10) (.t 11)⟩,
  ⟨some 13, none, .bin .eql (.t 12) (.c (.int .u8 32))⟩]) (.cond (.t 13) (.seq (.rg [⟨some 2, none, .mv (.c (.bool true))⟩]) (.ret)) (.skip)))) (.rg [⟨some 8, none, .mv (.t 3)⟩,
  ⟨some 9, none, .bin .add (.t 8) (.c (.int .i64 1))⟩,
  ⟨some 3, none, .mv (.t 9)⟩]))
def s_spec_l28Blank : SFn := ⟨14, .seq (.rg [⟨some 2, none, .mv (.c (.bool false))⟩]) (.seq (.seq (.rg [⟨some 3, none, .mv (.c (.int .i64 0))⟩]) (.blk 0 (.loop s_spec_l28Blank_L0))) (.seq (.rg [⟨some 2, none, .mv (.c (.bool false))⟩]) (.ret))), [.t 2]⟩
def s_spec_RowText_L0 : SCode := .seq (.seq (.rg [⟨some 6, none, .mv (.t 4)⟩,
  ⟨some 7, none, .mv (.t 0)⟩,
  ⟨some 8, none, .lenL (.t 7)⟩,
  ⟨some 9, none, .bin .lss (.t 6) (.t 8)⟩]) (.cond (.t 9) (.skip) (.exit 0))) (.seq (.blk 1 (.seq (.rg [⟨some 12, none, .mv (.t 0)⟩,
  ⟨some 13, none, .mv (.t 4)⟩,
  ⟨some 14, none, .ia 3 (.t 12) (.t 13)⟩,
  ⟨some 15, none, .ldA 3 (.t 14)⟩,
  ⟨some 16, none, .callP 30 [.t 15]⟩,
  ⟨some 5, none, .mv (.t 16)⟩]) (.seq (.seq (.rg [⟨some 17, none, .mv (.t 5)⟩,
  ⟨some 18, none, .bin .eql (.t 17) (.c (.str []))⟩,
  ⟨some 19, none, .mv (.t 18)⟩,
  ⟨some 20, some (19, false), .mv (.t 5)⟩,
  ⟨some 21, some (19, false), .callP 31 [.t 20]⟩,
  ⟨some 22, none, .pick (.t 19) (.c (.bool true)) (.t 21)⟩]) (.cond (.t 22) (.seq (.rg [⟨some 2, none, .mv (.c (.str []))⟩]) (.ret)) (.skip))) (.seq (.seq (.rg [⟨some 23, none, .mv (.t 4)⟩,
  ⟨some 24, none, .bin .gtr (.t 23) (.c (.int .i64 0))⟩]) (.cond (.t 24) (.rg [⟨some 25, none, .mv (.t 3)⟩,
  ⟨some 26, none, .bin .add (.t 25) (.c (.str [32]))⟩,
  ⟨some 3, none, .mv (.t 26)⟩]) (.skip))) (.rg [⟨some 27, none, .mv (.t 3)⟩,
  ⟨some 28, none, .mv (.t 5)⟩,
  ⟨some 29, none, .bin .add (.t 27) (.t 28)⟩,
  ⟨some 3, none, .mv (.t 29)⟩]))))) (.rg [⟨some 10, none, .mv (.t 4)⟩,
  ⟨some 11, none, .bin .add (.t 10) (.c (.int .i64 1))⟩,
  ⟨some 4, none, .mv (.t 11)⟩]))
def s_spec_RowText : SFn := ⟨31, .seq (.rg [⟨some 2, none, .mv (.c (.str []))⟩]) (.seq (.rg [⟨some 3, none, .mv (.c (.str []))⟩]) (.seq (.seq (.rg [⟨some 4, none, .mv (.c (.int .i64 0))⟩]) (.blk 0 (.loop s_spec_RowText_L0))) (.seq (.rg [⟨some 30, none, .mv (.t 3)⟩,
  ⟨some 2, none, .mv (.t 30)⟩]) (.ret)))), [.t 2]⟩
def s_spec_RowsText_L0 : SCode := .seq (.seq (.rg [⟨some 5, none, .mv (.t 4)⟩,
  ⟨some 6, none, .mv (.t 0)⟩,
  ⟨some 7, none, .lenL (.t 6)⟩,
  ⟨some 8, none, .bin .lss (.t 5) (.t 7)⟩]) (.cond (.t 8) (.skip) (.exit 0))) (.seq (.blk 1 (.rg [⟨some 11, none, .mv (.t 3)⟩,
  ⟨some 12, none, .mv (.t 0)⟩,
  ⟨some 13, none, .mv (.t 4)⟩,
  ⟨some 14, none, .ia 1 (.t 12) (.t 13)⟩,
  ⟨some 15, none, .ld (.t 14)⟩,
  ⟨some 16, none, .callP 8 [.t 15]⟩,
  ⟨some 17, none, .bin .add (.t 11) (.t 16)⟩,
  ⟨some 18, none, .bin .add (.t 17) (.c (.str [10]))⟩,
  ⟨some 3, none, .mv (.t 18)⟩])) (.rg [⟨some 9, none, .mv (.t 4)⟩,
  ⟨some 10, none, .bin .add (.t 9) (.c (.int .i64 1))⟩,
  ⟨some 4, none, .mv (.t 10)⟩]))
def s_spec_RowsText : SFn := ⟨20, .seq (.rg [⟨some 2, none, .mv (.c (.str []))⟩]) (.seq (.rg [⟨some 3, none, .mv (.c (.str []))⟩]) (.seq (.seq (.rg [⟨some 4, none, .mv (.c (.int .i64 0))⟩]) (.blk 0 (.loop s_spec_RowsText_L0))) (.seq (.rg [⟨some 19, none, .mv (.t 3)⟩,
  ⟨some 2, none, .mv (.t 19)⟩]) (.ret)))), [.t 2]⟩
def s_impl_in : SFn := ⟨15, .seq (.rg [⟨some 6, none, .mv (.c (.bool false))⟩]) (.seq (.rg [⟨some 7, none, .mv (.t 0)⟩,
  ⟨some 8, none, .mv (.t 1)⟩,
  ⟨some 9, none, .bin .geq (.t 7) (.t 8)⟩,
  ⟨some 10, none, .mv (.t 9)⟩,
  ⟨some 11, some (10, true), .mv (.t 0)⟩,
  ⟨some 12, some (10, true), .mv (.t 2)⟩,
  ⟨some 13, some (10, true), .bin .leq (.t 11) (.t 12)⟩,
  ⟨some 14, none, .pick (.t 10) (.t 13) (.c (.bool false))⟩,
  ⟨some 6, none, .mv (.t 14)⟩]) (.ret)), [.t 6]⟩
def s_impl_ValOk : SFn := ⟨56, .seq (.rg [⟨some 1, none, .box (.t 0)⟩,
  ⟨some 2, none, .mv (.c (.bool false))⟩]) (.seq (.seq (.rg [⟨some 3, none, .fa 0 (.t 1)⟩,
  ⟨some 4, none, .ld (.t 3)⟩]) (.blk 0 (.seq (.rg [⟨some 6, none, .bin .eql (.t 4) (.c (.int .i64 0))⟩,
  ⟨some 5, none, .mv (.t 6)⟩]) (.cond (.t 5) (.seq (.rg [⟨some 7, none, .fa 1 (.t 1)⟩,
  ⟨some 8, none, .ld (.t 7)⟩,
  ⟨some 9, none, .bin .eql (.t 8) (.c (.int .i64 0))⟩,
  ⟨some 10, none, .mv (.t 9)⟩,
  ⟨some 11, some (10, true), .fa 2 (.t 1)⟩,
  ⟨some 12, some (10, true), .ld (.t 11)⟩,
  ⟨some 13, some (10, true), .bin .eql (.t 12) (.c (.str []))⟩,
  ⟨some 14, none, .pick (.t 10) (.t 13) (.c (.bool false))⟩,
  ⟨some 2, none, .mv (.t 14)⟩]) (.ret)) (.seq (.rg [⟨some 16, none, .bin .eql (.t 4) (.c (.int .i64 1))⟩,
  ⟨some 15, none, .mv (.t 16)⟩]) (.cond (.t 15) (.seq (.rg [⟨some 17, none, .fa 1 (.t 1)⟩,
  ⟨some 18, none, .ld (.t 17)⟩,
  ⟨some 19, none, .callP 44 [.t 18, .c (.int .i64 (-2147483648)), .c (.int .i64 2147483647)]⟩,
  ⟨some 20, none, .mv (.t 19)⟩,
  ⟨some 21, some (20, true), .fa 2 (.t 1)⟩,
  ⟨some 22, some (20, true), .ld (.t 21)⟩,
  ⟨some 23, some (20, true), .bin .eql (.t 22) (.c (.str []))⟩,
  ⟨some 24, none, .pick (.t 20) (.t 23) (.c (.bool false))⟩,
  ⟨some 2, none, .mv (.t 24)⟩]) (.ret)) (.seq (.rg [⟨some 26, none, .bin .eql (.t 4) (.c (.int .i64 2))⟩,
  ⟨some 25, none, .mv (.t 26)⟩]) (.cond (.t 25) (.seq (.rg [⟨some 27, none, .fa 1 (.t 1)⟩,
  ⟨some 28, none, .ld (.t 27)⟩,
  ⟨some 29, none, .callP 44 [.t 28, .c (.int .i64 (-1000000000000000)), .c (.int .i64 1000000000000000)]⟩,
  ⟨some 30, none, .mv (.t 29)⟩,
  ⟨some 31, some (30, true), .fa 2 (.t 1)⟩,
  ⟨some 32, some (30, true), .ld (.t 31)⟩,
  ⟨some 33, some (30, true), .bin .eql (.t 32) (.c (.str []))⟩,
  ⟨some 34, none, .pick (.t 30) (.t 33) (.c (.bool false))⟩,
  ⟨some 2, none, .mv (.t 34)⟩]) (.ret)) (.seq (.rg [⟨some 36, none, .bin .eql (.t 4) (.c (.int .i64 3))⟩,
  ⟨some 35, none, .mv (.t 36)⟩]) (.cond (.t 35) (.seq (.rg [⟨some 37, none, .fa 1 (.t 1)⟩,
  ⟨some 38, none, .ld (.t 37)⟩,
  ⟨some 39, none, .bin .eql (.t 38) (.c (.int .i64 0))⟩,
  ⟨some 40, none, .mv (.t 39)⟩,
  ⟨some 41, some (40, true), .fa 2 (.t 1)⟩,
  ⟨some 42, some (40, true), .ld (.t 41)⟩,
  ⟨some 43, some (40, true), .lenS (.t 42)⟩,
  ⟨some 44, some (40, true), .bin .leq (.t 43) (.c (.int .i64 30))⟩,
  ⟨some 45, none, .pick (.t 40) (.t 44) (.c (.bool false))⟩,
  ⟨some 2, none, .mv (.t 45)⟩]) (.ret)) (.seq (.rg [⟨some 47, none, .bin .eql (.t 4) (.c (.int .i64 4))⟩,
  ⟨some 46, none, .mv (.t 47)⟩]) (.cond (.t 46) (.seq (.rg [⟨some 48, none, .fa 1 (.t 1)⟩,
  ⟨some 49, none, .ld (.t 48)⟩,
  ⟨some 50, none, .callP 44 [.t 49, .c (.int .i64 0), .c (.int .i64 1)]⟩,
  ⟨some 51, none, .mv (.t 50)⟩,
  ⟨some 52, some (51, true), .fa 2 (.t 1)⟩,
  ⟨some 53, some (51, true), .ld (.t 52)⟩,
  ⟨some 54, some (51, true), .bin .eql (.t 53) (.c (.str []))⟩,
  ⟨some 55, none, .pick (.t 51) (.t 54) (.c (.bool false))⟩,
  ⟨some 2, none, .mv (.t 55)⟩]) (.ret)) (.skip))))))))))))) (.seq (.rg [⟨some 2, none, .mv (.c (.bool false))⟩]) (.ret))), [.t 2]⟩
def s_impl_ValText_L0 : SCode := .seq (.seq (.rg [⟨some 28, none, .mv (.t 3)⟩,
  ⟨some 29, none, .fa 2 (.t 1)⟩,
  ⟨some 30, none, .ld (.t 29)⟩,
  ⟨some 31, none, .lenS (.t 30)⟩,
  ⟨some 32, none, .bin .lss (.t 28) (.t 31)⟩]) (.cond (.t 32) (.skip) (.exit 1))) (.seq (.blk 2 (.seq (.rg [⟨some 35, none, .fa 2 (.t 1)⟩,
  ⟨some 36, none, .ld (.t 35)⟩,
  ⟨some 37, none, .mv (.t 3)⟩,
  ⟨some 38, none, .ix (.t 36) (.t 37)⟩,
  ⟨some 39, none, .bin .lss (.t 38) (.c (.int .u8 32))⟩,
  ⟨some 40, none, .mv (.t 39)⟩,
  ⟨some 41, some (40, false), .fa 2 (.t 1)⟩,
  ⟨some 42, some (40, false), .ld (.t 41)⟩,
  ⟨some 43, some (40, false), .mv (.t 3)⟩,
  ⟨some 44, some (40, false), .ix (.t 42) (.t 43)⟩,
  ⟨some 45, some (40, false), .bin .gtr (.t 44) (.c (.int .u8 126))⟩,
  ⟨some 46, none, .pick (.t 40) (.c (.bool true)) (.t 45)⟩,
  ⟨some 47, none, .mv (.t 46)⟩,
  ⟨some 48, some (47, false), .fa 2 (.t 1)⟩,
  ⟨some 49, some (47, false), .ld (.t 48)⟩,
  ⟨some 50, some (47, false), .mv (.t 3)⟩,
  ⟨some 51, some (47, false), .ix (.t 49) (.t 50)⟩,
  ⟨some 52, some (47, false), .bin .eql (.t 51) (.c (.int .u8 39))⟩,
  ⟨some 53, none, .pick (.t 47) (.c (.bool true)) (.t 52)⟩]) (.cond (.t 53) (.seq (.rg [⟨some 2, none, .mv (.c (.str []))⟩]) (.ret)) (.skip)))) (.rg [⟨some 33, none, .mv (.t 3)⟩,
  ⟨some 34, none, .bin .add (.t 33) (.c (.int .i64 1))⟩,
  ⟨some 3, none, .mv (.t 34)⟩]))
def s_impl_ValText : SFn := ⟨58, .seq (.rg [⟨some 1, none, .box (.t 0)⟩,
  ⟨some 2, none, .mv (.c (.str []))⟩]) (.seq (.seq (.rg [⟨some 4, none, .ldA 3 (.t 1)⟩,
  ⟨some 5, none, .callP 56 [.t 4]⟩,
  ⟨some 6, none, .un .not (.t 5)⟩]) (.cond (.t 6) (.seq (.rg [⟨some 2, none, .mv (.c (.str []))⟩]) (.ret)) (.skip))) (.seq (.seq (.rg [⟨some 7, none, .fa 0 (.t 1)⟩,
  ⟨some 8, none, .ld (.t 7)⟩]) (.blk 0 (.seq (.rg [⟨some 10, none, .bin .eql (.t 8) (.c (.int .i64 0))⟩,
  ⟨some 9, none, .mv (.t 10)⟩]) (.cond (.t 9) (.seq (.rg [⟨some 2, none, .mv (.c (.str [110, 117, 108, 108]))⟩]) (.ret)) (.seq (.rg [⟨some 12, none, .bin .eql (.t 8) (.c (.int .i64 1))⟩,
  ⟨some 11, none, .mv (.t 12)⟩]) (.cond (.t 11) (.seq (.rg [⟨some 13, none, .fa 1 (.t 1)⟩,
  ⟨some 14, none, .ld (.t 13)⟩,
  ⟨some 15, none, .callP 57 [.t 14]⟩,
  ⟨some 16, none, .bin .add (.c (.str [105])) (.t 15)⟩,
  ⟨some 2, none, .mv (.t 16)⟩]) (.ret)) (.seq (.rg [⟨some 18, none, .bin .eql (.t 8) (.c (.int .i64 2))⟩,
  ⟨some 17, none, .mv (.t 18)⟩]) (.cond (.t 17) (.seq (.rg [⟨some 19, none, .fa 1 (.t 1)⟩,
  ⟨some 20, none, .ld (.t 19)⟩,
  ⟨some 21, none, .callP 57 [.t 20]⟩,
  ⟨some 22, none, .bin .add (.c (.str [110])) (.t 21)⟩,
  ⟨some 2, none, .mv (.t 22)⟩]) (.ret)) (.seq (.rg [⟨some 24, none, .bin .eql (.t 8) (.c (.int .i64 4))⟩,
  ⟨some 23, none, .mv (.t 24)⟩]) (.cond (.t 23) (.seq (.seq (.rg [⟨some 25, none, .fa 1 (.t 1)⟩,
  ⟨some 26, none, .ld (.t 25)⟩,
  ⟨some 27, none, .bin .eql (.t 26) (.c (.int .i64 1))⟩]) (.cond (.t 27) (.seq (.rg [⟨some 2, none, .mv (.c (.str [121, 101, 115]))⟩]) (.ret)) (.skip))) (.seq (.rg [⟨some 2, none, .mv (.c (.str [110, 111]))⟩]) (.ret))) (.skip))))))))))) (.seq (.seq (.rg [⟨some 3, none, .mv (.c (.int .i64 0))⟩]) (.blk 1 (.loop s_impl_ValText_L0))) (.seq (.rg [⟨some 54, none, .fa 2 (.t 1)⟩,
  ⟨some 55, none, .ld (.t 54)⟩,
  ⟨some 56, none, .bin .add (.c (.str [39])) (.t 55)⟩,
  ⟨some 57, none, .bin .add (.t 56) (.c (.str [39]))⟩,
  ⟨some 2, none, .mv (.t 57)⟩]) (.ret))))), [.t 2]⟩
def s_impl_RowText_L0 : SCode := .seq (.rg [⟨some 10, none, .bin .lss (.t 9) (.t 8)⟩]) (.seq (.cond (.t 10) (.skip) (.exit 0)) (.seq (.blk 1 (.seq (.rg [⟨some 11, none, .ia 3 (.t 7) (.t 9)⟩,
  ⟨some 12, none, .ldA 3 (.t 11)⟩,
  ⟨some 5, none, .alloc [.int .i64 0, .int .i64 0, .str []]⟩,
  ⟨none, none, .st 3 (.t 5) (.t 12)⟩]) (.seq (.rg [⟨some 13, none, .ldA 3 (.t 5)⟩,
  ⟨some 14, none, .callP 33 [.t 13]⟩,
  ⟨some 6, none, .mv (.t 14)⟩]) (.seq (.seq (.rg [⟨some 15, none, .mv (.t 6)⟩,
  ⟨some 16, none, .bin .eql (.t 15) (.c (.str []))⟩,
  ⟨some 17, none, .mv (.t 16)⟩,
  ⟨some 18, some (17, false), .mv (.t 6)⟩,
  ⟨some 19, some (17, false), .callP 34 [.t 18, .c (.str [32])]⟩,
  ⟨some 20, none, .pick (.t 17) (.c (.bool true)) (.t 19)⟩]) (.cond (.t 20) (.seq (.rg [⟨some 2, none, .mv (.c (.str []))⟩]) (.ret)) (.skip))) (.rg [⟨some 21, none, .mv (.t 3)⟩,
  ⟨some 22, none, .mv (.t 6)⟩,
  ⟨some 23, none, .bslice false [.str []] 1 [(0, .t 22)]⟩,
  ⟨some 24, none, .app false 16 1 (.t 21) (.t 23)⟩,
  ⟨some 3, none, .mv (.t 24)⟩]))))) (.rg [⟨some 25, none, .bin .add (.t 9) (.c (.int .i64 1))⟩,
  ⟨some 9, none, .mv (.t 25)⟩])))
def s_impl_RowText : SFn := ⟨28, .seq (.rg [⟨some 2, none, .mv (.c (.str []))⟩]) (.seq (.rg [⟨some 3, none, .mv (.c .snil)⟩]) (.seq (.seq (.rg [⟨some 7, none, .mv (.t 0)⟩,
  ⟨some 8, none, .lenL (.t 7)⟩,
  ⟨some 9, none, .mv (.c (.int .i64 0))⟩]) (.blk 0 (.loop s_impl_RowText_L0))) (.seq (.rg [⟨some 26, none, .mv (.t 3)⟩,
  ⟨some 27, none, .callP 35 [.t 26, .c (.str [32])]⟩,
  ⟨some 2, none, .mv (.t 27)⟩]) (.ret)))), [.t 2]⟩
def s_impl_RowsText_L0 : SCode := .seq (.rg [⟨some 9, none, .bin .lss (.t 8) (.t 7)⟩]) (.seq (.cond (.t 9) (.skip) (.exit 0)) (.seq (.blk 1 (.seq (.rg [⟨some 10, none, .ia 1 (.t 6) (.t 8)⟩,
  ⟨some 11, none, .ld (.t 10)⟩,
  ⟨some 5, none, .mv (.t 11)⟩]) (.rg [⟨some 12, none, .mv (.t 3)⟩,
  ⟨some 13, none, .mv (.t 5)⟩,
  ⟨some 14, none, .callP 10 [.t 13]⟩,
  ⟨some 15, none, .bin .add (.t 14) (.c (.str [10]))⟩,
  ⟨some 16, none, .bin .add (.t 12) (.t 15)⟩,
  ⟨some 3, none, .mv (.t 16)⟩]))) (.rg [⟨some 17, none, .bin .add (.t 8) (.c (.int .i64 1))⟩,
  ⟨some 8, none, .mv (.t 17)⟩])))
def s_impl_RowsText : SFn := ⟨19, .seq (.rg [⟨some 2, none, .mv (.c (.str []))⟩]) (.seq (.rg [⟨some 3, none, .mv (.c (.str []))⟩]) (.seq (.seq (.rg [⟨some 6, none, .mv (.t 0)⟩,
  ⟨some 7, none, .lenL (.t 6)⟩,
  ⟨some 8, none, .mv (.c (.int .i64 0))⟩]) (.blk 0 (.loop s_impl_RowsText_L0))) (.seq (.rg [⟨some 18, none, .mv (.t 3)⟩,
  ⟨some 2, none, .mv (.t 18)⟩]) (.ret)))), [.t 2]⟩
def s_laws_eqVal : SFn := ⟨20, .seq (.rg [⟨some 2, none, .box (.t 0)⟩,
  ⟨some 3, none, .box (.t 1)⟩,
  ⟨some 4, none, .mv (.c (.bool false))⟩]) (.seq (.seq (.rg [⟨some 5, none, .fa 0 (.t 2)⟩,
  ⟨some 6, none, .ld (.t 5)⟩,
  ⟨some 7, none, .fa 0 (.t 3)⟩,
  ⟨some 8, none, .ld (.t 7)⟩,
  ⟨some 9, none, .bin .neq (.t 6) (.t 8)⟩]) (.cond (.t 9) (.seq (.rg [⟨some 4, none, .mv (.c (.bool false))⟩]) (.ret)) (.skip))) (.seq (.seq (.rg [⟨some 10, none, .fa 1 (.t 2)⟩,
  ⟨some 11, none, .ld (.t 10)⟩,
  ⟨some 12, none, .fa 1 (.t 3)⟩,
  ⟨some 13, none, .ld (.t 12)⟩,
  ⟨some 14, none, .bin .neq (.t 11) (.t 13)⟩]) (.cond (.t 14) (.seq (.rg [⟨some 4, none, .mv (.c (.bool false))⟩]) (.ret)) (.skip))) (.seq (.seq (.rg [⟨some 15, none, .fa 2 (.t 2)⟩,
  ⟨some 16, none, .ld (.t 15)⟩,
  ⟨some 17, none, .fa 2 (.t 3)⟩,
  ⟨some 18, none, .ld (.t 17)⟩,
  ⟨some 19, none, .bin .neq (.t 16) (.t 18)⟩]) (.cond (.t 19) (.seq (.rg [⟨some 4, none, .mv (.c (.bool false))⟩]) (.ret)) (.skip))) (.seq (.rg [⟨some 4, none, .mv (.c (.bool true))⟩]) (.ret))))), [.t 4]⟩
def s_laws_FnExactRowsText : SFn := ⟨27, .seq (.rg [⟨some 2, none, .mv (.c (.bool false))⟩]) (.seq (.rg [⟨some 3, none, .mv (.c (.int .i64 1048576))⟩]) (.seq (.rg [⟨some 7, none, .mv (.t 0)⟩,
  ⟨some 8, none, .mv (.t 3)⟩,
  ⟨some 9, none, .callP 12 [.t 7, .t 8]⟩,
  ⟨some 3, none, .mv (.t 9)⟩]) (.seq (.seq (.rg [⟨some 10, none, .mv (.t 3)⟩,
  ⟨some 11, none, .bin .lss (.t 10) (.c (.int .i64 0))⟩]) (.cond (.t 11) (.seq (.rg [⟨some 2, none, .mv (.c (.bool true))⟩]) (.ret)) (.skip))) (.seq (.rg [⟨some 12, none, .mv (.t 0)⟩,
  ⟨some 13, none, .callP 14 [.t 12]⟩,
  ⟨some 14, none, .callP 13 [.t 13]⟩,
  ⟨some 4, none, .mv (.t 14)⟩]) (.seq (.rg [⟨some 15, none, .mv (.t 0)⟩,
  ⟨some 16, none, .callP 14 [.t 15]⟩,
  ⟨some 5, none, .mv (.t 16)⟩]) (.seq (.rg [⟨some 17, none, .mv (.t 5)⟩,
  ⟨some 18, none, .callP 15 [.t 17]⟩,
  ⟨some 6, none, .mv (.t 18)⟩]) (.seq (.seq (.rg [⟨some 19, none, .mv (.t 6)⟩,
  ⟨some 20, none, .mv (.t 4)⟩,
  ⟨some 21, none, .bin .neq (.t 19) (.t 20)⟩]) (.cond (.t 21) (.seq (.rg [⟨some 2, none, .mv (.c (.bool false))⟩]) (.ret)) (.skip))) (.seq (.seq (.rg [⟨some 22, none, .mv (.t 5)⟩,
  ⟨some 23, none, .mv (.t 0)⟩,
  ⟨some 24, none, .callP 14 [.t 23]⟩,
  ⟨some 25, none, .callP 16 [.t 22, .t 24]⟩,
  ⟨some 26, none, .un .not (.t 25)⟩]) (.cond (.t 26) (.seq (.rg [⟨some 2, none, .mv (.c (.bool false))⟩]) (.ret)) (.skip))) (.seq (.rg [⟨some 2, none, .mv (.c (.bool true))⟩]) (.ret)))))))))), [.t 2]⟩
def isC : List FuncId := [29, 7, 12, 32, 9, 14, 39, 53, 54, 55, 30, 31, 8, 13, 44, 56, 57, 33, 34, 35, 10, 15, 36, 11, 16]
def rw (f : FuncId) : List Tmp := if f = 9 then [7] else if f = 14 then [7] else []
noncomputable def EE (cs : List (FuncId × (List AV → Option AV))) : Env := mkE Tryd.prog isC rw cs
theorem st_laws_szVal_ : stF (EE []) 29 = some (s_laws_szVal) := by kernel_rfl
theorem st_laws_szVal (cs) : stF (EE cs) 29 = some (s_laws_szVal) := (stF_mk cs [] 29).trans st_laws_szVal_
theorem st_laws_szValS_ : stF (EE []) 7 = some (szSF 29 3 false) := by kernel_rfl
theorem st_laws_szValS (cs) : stF (EE cs) 7 = some (szSF 29 3 false) := (stF_mk cs [] 7).trans st_laws_szValS_
theorem st_laws_szValSS_ : stF (EE []) 12 = some (szSF 7 1 true) := by kernel_rfl
theorem st_laws_szValSS (cs) : stF (EE cs) 12 = some (szSF 7 1 true) := (stF_mk cs [] 12).trans st_laws_szValSS_
theorem st_laws_toVal_ : stF (EE []) 32 = some (s_laws_toVal) := by kernel_rfl
theorem st_laws_toVal (cs) : stF (EE cs) 32 = some (s_laws_toVal) := (stF_mk cs [] 32).trans st_laws_toVal_
theorem st_laws_toValS_ : stF (EE []) 9 = some (toSF 32 3 false 32 [.int .i64 0, .int .i64 0, .str []]) := by kernel_rfl
theorem st_laws_toValS (cs) : stF (EE cs) 9 = some (toSF 32 3 false 32 [.int .i64 0, .int .i64 0, .str []]) := (stF_mk cs [] 9).trans st_laws_toValS_
theorem st_laws_toValSS_ : stF (EE []) 14 = some (toSF 9 1 true 24 [.snil]) := by kernel_rfl
theorem st_laws_toValSS (cs) : stF (EE cs) 14 = some (toSF 9 1 true 24 [.snil]) := (stF_mk cs [] 14).trans st_laws_toValSS_
theorem st_spec_l1In_ : stF (EE []) 39 = some (s_spec_l1In) := by kernel_rfl
theorem st_spec_l1In (cs) : stF (EE cs) 39 = some (s_spec_l1In) := (stF_mk cs [] 39).trans st_spec_l1In_
theorem st_spec_ValOk_ : stF (EE []) 53 = some (s_spec_ValOk) := by kernel_rfl
theorem st_spec_ValOk (cs) : stF (EE cs) 53 = some (s_spec_ValOk) := (stF_mk cs [] 53).trans st_spec_ValOk_
theorem st_spec_l2Plain_ : stF (EE []) 54 = some (s_spec_l2Plain) := by kernel_rfl
theorem st_spec_l2Plain (cs) : stF (EE cs) 54 = some (s_spec_l2Plain) := (stF_mk cs [] 54).trans st_spec_l2Plain_
theorem st_spec_l2Num_ : stF (EE []) 55 = some (s_spec_l2Num) := by kernel_rfl
theorem st_spec_l2Num (cs) : stF (EE cs) 55 = some (s_spec_l2Num) := (stF_mk cs [] 55).trans st_spec_l2Num_
theorem st_spec_ValText_ : stF (EE []) 30 = some (s_spec_ValText) := by kernel_rfl
theorem st_spec_ValText (cs) : stF (EE cs) 30 = some (s_spec_ValText) := (stF_mk cs [] 30).trans st_spec_ValText_
theorem st_spec_l28Blank_ : stF (EE []) 31 = some (s_spec_l28Blank) := by kernel_rfl
theorem st_spec_l28Blank (cs) : stF (EE cs) 31 = some (s_spec_l28Blank) := (stF_mk cs [] 31).trans st_spec_l28Blank_
theorem st_spec_RowText_ : stF (EE []) 8 = some (s_spec_RowText) := by kernel_rfl
theorem st_spec_RowText (cs) : stF (EE cs) 8 = some (s_spec_RowText) := (stF_mk cs [] 8).trans st_spec_RowText_
theorem st_spec_RowsText_ : stF (EE []) 13 = some (s_spec_RowsText) := by kernel_rfl
theorem st_spec_RowsText (cs) : stF (EE cs) 13 = some (s_spec_RowsText) := (stF_mk cs [] 13).trans st_spec_RowsText_
theorem st_impl_in_ : stF (EE []) 44 = some (s_impl_in) := by kernel_rfl
theorem st_impl_in (cs) : stF (EE cs) 44 = some (s_impl_in) := (stF_mk cs [] 44).trans st_impl_in_
theorem st_impl_ValOk_ : stF (EE []) 56 = some (s_impl_ValOk) := by kernel_rfl
theorem st_impl_ValOk (cs) : stF (EE cs) 56 = some (s_impl_ValOk) := (stF_mk cs [] 56).trans st_impl_ValOk_
theorem st_impl_ValText_ : stF (EE []) 33 = some (s_impl_ValText) := by kernel_rfl
theorem st_impl_ValText (cs) : stF (EE cs) 33 = some (s_impl_ValText) := (stF_mk cs [] 33).trans st_impl_ValText_
theorem st_impl_RowText_ : stF (EE []) 10 = some (s_impl_RowText) := by kernel_rfl
theorem st_impl_RowText (cs) : stF (EE cs) 10 = some (s_impl_RowText) := (stF_mk cs [] 10).trans st_impl_RowText_
theorem st_impl_RowsText_ : stF (EE []) 15 = some (s_impl_RowsText) := by kernel_rfl
theorem st_impl_RowsText (cs) : stF (EE cs) 15 = some (s_impl_RowsText) := (stF_mk cs [] 15).trans st_impl_RowsText_
theorem st_laws_eqVal_ : stF (EE []) 36 = some (s_laws_eqVal) := by kernel_rfl
theorem st_laws_eqVal (cs) : stF (EE cs) 36 = some (s_laws_eqVal) := (stF_mk cs [] 36).trans st_laws_eqVal_
theorem st_laws_eqValS_ : stF (EE []) 11 = some (eqSF 36 3 false) := by kernel_rfl
theorem st_laws_eqValS (cs) : stF (EE cs) 11 = some (eqSF 36 3 false) := (stF_mk cs [] 11).trans st_laws_eqValS_
theorem st_laws_eqValSS_ : stF (EE []) 16 = some (eqSF 11 1 true) := by kernel_rfl
theorem st_laws_eqValSS (cs) : stF (EE cs) 16 = some (eqSF 11 1 true) := (stF_mk cs [] 16).trans st_laws_eqValSS_
theorem st_laws_FnExactRowsText_ : stF (EE []) 4 = some (s_laws_FnExactRowsText) := by kernel_rfl
theorem st_laws_FnExactRowsText (cs) : stF (EE cs) 4 = some (s_laws_FnExactRowsText) := (stF_mk cs [] 4).trans st_laws_FnExactRowsText_
theorem entered : entB Tryd.prog isC = true := by kernel_rfl
end Go.Proofs.YtgjdkcjijmdfoaaDoor.Rs
/- The types of FnExactRowsText's arguments, as trees. -/
namespace Go.Proofs.YtgjdkcjijmdfoaaDoor.Rs
open Go Go.RowKit Go.Ev
set_option linter.unusedSimpArgs false
structure TVal where
  fK : Int
  fN : Int
  fS : List UInt8
def TVal.row (v : TVal) : List AV := [.int .i64 v.fK, .int .i64 v.fN, .str v.fS]
theorem TVal.inj (a b : TVal) (h : a.row = b.row) : a = b := by
  obtain ⟨aK, aN, aS⟩ := a
  obtain ⟨bK, bN, bS⟩ := b
  simp only [TVal.row, List.cons.injEq, AV.int.injEq, AV.str.injEq, AV.bool.injEq, AV.imm.injEq, true_and, and_true] at h
  obtain ⟨h0, h1, h2⟩ := h
  subst h0
  subst h1
  subst h2
  rfl
def tVal : TD TVal where
  row := TVal.row
  enc v := .agg v.row
  sz := 3
  one := false
  cost v := v.fS.length
  fits v := v.fS.length ≤ 9223372036854775807
  ok v := intT.ok v.fK ∧ intT.ok v.fN
  len _ := rfl
  pos := by decide
  inj := TVal.inj
  enc1 h := by cases h
  encA _ _ := rfl
  frz v c hc := by
    simp only [TVal.row, List.mem_cons, List.not_mem_nil, or_false] at hc
    rcases hc with rfl | rfl | rfl <;> exact ⟨rfl, rfl⟩
  fit v h := by omega
theorem tVal_enc (v : TVal) : tVal.enc v = .agg v.row := rfl
theorem tVal_row : tVal.row = TVal.row := rfl
attribute [go_sem] tVal_enc tVal_row
end Go.Proofs.YtgjdkcjijmdfoaaDoor.Rs
/- What the functions that FnExactRowsText calls answer: part 1. -/
namespace Go.Proofs.YtgjdkcjijmdfoaaDoor.Rs
open Go Go.RowKit Go.Ev
set_option linter.unusedSimpArgs false
theorem ok_laws_szVal {WI : World → Prop} (hs : Stable WI) (cs) (hT : TOK (EE cs) WI)  : PureOK Tryd.prog WI 29 (szC tVal) := by
  refine pure2 (E := EE cs) hT hs (by rw [st_laws_szVal]; rfl) fun v left ⟨hfits, hlo, hhi⟩ => out_K (n := 0) (st_laws_szVal cs) ?_
  have q0 : v.fS.length ≤ 9223372036854775807 := hfits
  have hcost : tVal.cost v = v.fS.length := rfl
  have w0 : IntKind.wrap .i64 (left - (v.fS.length : Int)) = left - (v.fS.length : Int) := wrapId (by omega) (by omega)
  by_cases n0 : left - (v.fS.length : Int) < 0
  · skip
    have hz : szR (tVal.cost v) left = -1 := by unfold szR; rw [if_pos (by omega)]
    rw [hz]
    simp only [go_sem, kSt_ptr, Nat.reduceBEq, Nat.reduceAdd, Nat.reduceEqDiff, Nat.reduceLeDiff, Nat.reduceSub, reduceIte, Int.reduceBEq, Int.reduceEq, Int.reduceLT, Int.reduceLE, Int.reduceGT, Int.reduceGE, Int.reduceNe, Int.reduceBNe, s_laws_szVal, TVal.row, w0, n0]
  have hz : szR (tVal.cost v) left = left - (v.fS.length : Int) := by unfold szR; rw [if_neg (by omega)]; omega
  rw [hz]
  simp only [go_sem, kSt_ptr, Nat.reduceBEq, Nat.reduceAdd, Nat.reduceEqDiff, Nat.reduceLeDiff, Nat.reduceSub, reduceIte, Int.reduceBEq, Int.reduceEq, Int.reduceLT, Int.reduceLE, Int.reduceGT, Int.reduceGE, Int.reduceNe, Int.reduceBNe, s_laws_szVal, TVal.row, w0, n0]
theorem ok_laws_szValS {WI : World → Prop} (hs : Stable WI) (cs) (hT : TOK (EE cs) WI) (h0 : (EE cs).T 29 = some (szC tVal)) : PureOK Tryd.prog WI 7 (szC (sliceT tVal)) := szS_ok (E := EE cs) (T := tVal) hT hs h0 (st_laws_szValS cs)
theorem ok_laws_szValSS {WI : World → Prop} (hs : Stable WI) (cs) (hT : TOK (EE cs) WI) (h0 : (EE cs).T 7 = some (szC (sliceT tVal))) : PureOK Tryd.prog WI 12 (szC (sliceT (sliceT tVal))) := szS_ok (E := EE cs) (T := (sliceT tVal)) hT hs h0 (st_laws_szValSS cs)
theorem ok_laws_toVal {WI : World → Prop} (hs : Stable WI) (cs) (hT : TOK (EE cs) WI)  : PureOK Tryd.prog WI 32 (toC tVal) := by
  refine pure1 (E := EE cs) hT hs (by rw [st_laws_toVal]; rfl) fun v hc => out_K (n := 0) (st_laws_toVal cs) ?_
  have hcost : tVal.cost v = v.fS.length := rfl
  simp only [go_sem, kSt_ptr, Nat.reduceBEq, Nat.reduceAdd, Nat.reduceEqDiff, Nat.reduceLeDiff, Nat.reduceSub, reduceIte, Int.reduceBEq, Int.reduceEq, Int.reduceLT, Int.reduceLE, Int.reduceGT, Int.reduceGE, Int.reduceNe, Int.reduceBNe, s_laws_toVal, TVal.row, id_eq]
theorem ok_laws_toValS {WI : World → Prop} (hs : Stable WI) (cs) (hT : TOK (EE cs) WI) (h0 : (EE cs).T 32 = some (toC tVal)) : PureOK Tryd.prog WI 9 (toC (sliceT tVal)) := toS_ok (E := EE cs) (T := tVal) (bt := 32) (z := [.int .i64 0, .int .i64 0, .str []]) hT hs h0 rfl (by decide) (st_laws_toValS cs)
theorem ok_laws_toValSS {WI : World → Prop} (hs : Stable WI) (cs) (hT : TOK (EE cs) WI) (h0 : (EE cs).T 9 = some (toC (sliceT tVal))) : PureOK Tryd.prog WI 14 (toC (sliceT (sliceT tVal))) := toS_ok (E := EE cs) (T := (sliceT tVal)) (bt := 24) (z := [.snil]) hT hs h0 rfl (by decide) (st_laws_toValSS cs)
def inR (x a b : Int) : Bool := decide (a ≤ x) && decide (x ≤ b)
theorem ev_spec_l1In (cs) (x a b : Int) : ∃ k n, out (EE cs) k n 39 [.int .i64 x, .int .i64 a, .int .i64 b] = some (.bool (inR x a b)) := by
  refine out_K (n := 0) (st_spec_l1In cs) ?_
  by_cases h1 : a ≤ x
  · simp only [go_sem, kSt_ptr, Nat.reduceBEq, Nat.reduceAdd, Nat.reduceEqDiff, Nat.reduceLeDiff, Nat.reduceSub, reduceIte, Int.reduceBEq, Int.reduceEq, Int.reduceLT, Int.reduceLE, Int.reduceGT, Int.reduceGE, Int.reduceNe, Int.reduceBNe, s_spec_l1In, h1, inR]
  · simp only [go_sem, kSt_ptr, Nat.reduceBEq, Nat.reduceAdd, Nat.reduceEqDiff, Nat.reduceLeDiff, Nat.reduceSub, reduceIte, Int.reduceBEq, Int.reduceEq, Int.reduceLT, Int.reduceLE, Int.reduceGT, Int.reduceGE, Int.reduceNe, Int.reduceBNe, s_spec_l1In, h1, inR]
noncomputable def C_spec_l1In := ct (fun a : Int × Int × Int => [.int .i64 a.1, .int .i64 a.2.1, .int .i64 a.2.2]) (fun _ => True) .bool fun a => inR a.1 a.2.1 a.2.2
theorem C_spec_l1In_eq (x a b : Int) : C_spec_l1In [.int .i64 x, .int .i64 a, .int .i64 b] = some (.bool (inR x a b)) := by
  unfold C_spec_l1In
  exact ct_eq (a := (x, a, b)) (fun a b h => by
    simp only [List.cons.injEq, AV.int.injEq, and_true, true_and] at h
    exact Prod.ext h.1 (Prod.ext h.2.1 h.2.2)) trivial
theorem ok_spec_l1In {WI} (hs : Stable WI) (cs) (hT : TOK (EE cs) WI) : PureOK Tryd.prog WI 39 C_spec_l1In :=
  pure_out hT hs (by rw [st_spec_l1In]; rfl) fun a _ => ev_spec_l1In cs a.1 a.2.1 a.2.2
def valOk (v : TVal) : Bool :=
  if v.fK = 0 then v.fN == 0 && v.fS == [] else if v.fK = 1 then inR v.fN (-2147483648) 2147483647 && v.fS == [] else if v.fK = 2 then inR v.fN (-1000000000000000) 1000000000000000 && v.fS == []
  else if v.fK = 3 then decide ((v.fS.length : Int) ≤ 30) && v.fN == 0 else if v.fK = 4 then inR v.fN 0 1 && v.fS == [] else false
theorem valOk_rng {v : TVal} (h : valOk v = true) (hk : v.fK = 1 ∨ v.fK = 2) : -1000000000000000 ≤ v.fN ∧ v.fN ≤ 1000000000000000 := by
  rcases hk with hk | hk <;> simp [valOk, hk, inR] at h <;> omega
theorem valOk_len {v : TVal} (h : valOk v = true) (hk : v.fK = 3) : v.fS.length ≤ 30 := by
  simp [valOk, hk] at h
  omega
theorem valOk_str {v : TVal} (h : valOk v = true) (hk : v.fK ≠ 3) : v.fS = [] := by
  by_cases h0 : v.fK = 0
  · simp [valOk, h0] at h; exact h.2
  by_cases h1 : v.fK = 1
  · simp [valOk, h1] at h; exact h.2
  by_cases h2 : v.fK = 2
  · simp [valOk, h2] at h; exact h.2
  by_cases h4 : v.fK = 4
  · simp [valOk, h4] at h; exact h.2
  · simp [valOk, h0, h1, h2, hk, h4] at h
theorem ev_spec_ValOk (cs) (hT : (EE cs).T 39 = some C_spec_l1In) (v : TVal) : ∃ k n, out (EE cs) k n 53 [.agg v.row] = some (.bool (valOk v)) := by
  refine out_K (n := 0) (st_spec_ValOk cs) ?_
  by_cases h0 : v.fK = 0
  · by_cases hn : v.fN = 0
    · simp only [go_sem, kSt_ptr, Nat.reduceBEq, Nat.reduceAdd, Nat.reduceEqDiff, Nat.reduceLeDiff, Nat.reduceSub, reduceIte, Int.reduceBEq, Int.reduceEq, Int.reduceLT, Int.reduceLE, Int.reduceGT, Int.reduceGE, Int.reduceNe, Int.reduceBNe, s_spec_ValOk, TVal.row, h0, hn, valOk]
    · simp only [go_sem, kSt_ptr, Nat.reduceBEq, Nat.reduceAdd, Nat.reduceEqDiff, Nat.reduceLeDiff, Nat.reduceSub, reduceIte, Int.reduceBEq, Int.reduceEq, Int.reduceLT, Int.reduceLE, Int.reduceGT, Int.reduceGE, Int.reduceNe, Int.reduceBNe, s_spec_ValOk, TVal.row, h0, hn, beqF hn, valOk]
  by_cases h1 : v.fK = 1
  · cases hn : inR v.fN (-2147483648) 2147483647
    · simp only [go_sem, kSt_ptr, Nat.reduceBEq, Nat.reduceAdd, Nat.reduceEqDiff, Nat.reduceLeDiff, Nat.reduceSub, reduceIte, Int.reduceBEq, Int.reduceEq, Int.reduceLT, Int.reduceLE, Int.reduceGT, Int.reduceGE, Int.reduceNe, Int.reduceBNe, s_spec_ValOk, TVal.row, h1, hn, valOk, hT, C_spec_l1In_eq]
    · simp only [go_sem, kSt_ptr, Nat.reduceBEq, Nat.reduceAdd, Nat.reduceEqDiff, Nat.reduceLeDiff, Nat.reduceSub, reduceIte, Int.reduceBEq, Int.reduceEq, Int.reduceLT, Int.reduceLE, Int.reduceGT, Int.reduceGE, Int.reduceNe, Int.reduceBNe, s_spec_ValOk, TVal.row, h1, hn, valOk, hT, C_spec_l1In_eq]
  by_cases h2 : v.fK = 2
  · cases hn : inR v.fN (-1000000000000000) 1000000000000000
    · simp only [go_sem, kSt_ptr, Nat.reduceBEq, Nat.reduceAdd, Nat.reduceEqDiff, Nat.reduceLeDiff, Nat.reduceSub, reduceIte, Int.reduceBEq, Int.reduceEq, Int.reduceLT, Int.reduceLE, Int.reduceGT, Int.reduceGE, Int.reduceNe, Int.reduceBNe, s_spec_ValOk, TVal.row, h2, hn, valOk, hT, C_spec_l1In_eq]
    · simp only [go_sem, kSt_ptr, Nat.reduceBEq, Nat.reduceAdd, Nat.reduceEqDiff, Nat.reduceLeDiff, Nat.reduceSub, reduceIte, Int.reduceBEq, Int.reduceEq, Int.reduceLT, Int.reduceLE, Int.reduceGT, Int.reduceGE, Int.reduceNe, Int.reduceBNe, s_spec_ValOk, TVal.row, h2, hn, valOk, hT, C_spec_l1In_eq]
  by_cases h3 : v.fK = 3
  · by_cases hn : (v.fS.length : Int) ≤ 30
    · simp only [go_sem, kSt_ptr, Nat.reduceBEq, Nat.reduceAdd, Nat.reduceEqDiff, Nat.reduceLeDiff, Nat.reduceSub, reduceIte, Int.reduceBEq, Int.reduceEq, Int.reduceLT, Int.reduceLE, Int.reduceGT, Int.reduceGE, Int.reduceNe, Int.reduceBNe, s_spec_ValOk, TVal.row, h3, hn, valOk, hT, C_spec_l1In_eq]
    · simp only [go_sem, kSt_ptr, Nat.reduceBEq, Nat.reduceAdd, Nat.reduceEqDiff, Nat.reduceLeDiff, Nat.reduceSub, reduceIte, Int.reduceBEq, Int.reduceEq, Int.reduceLT, Int.reduceLE, Int.reduceGT, Int.reduceGE, Int.reduceNe, Int.reduceBNe, s_spec_ValOk, TVal.row, h3, hn, valOk, hT, C_spec_l1In_eq]
  by_cases h4 : v.fK = 4
  · cases hn : inR v.fN 0 1
    · simp only [go_sem, kSt_ptr, Nat.reduceBEq, Nat.reduceAdd, Nat.reduceEqDiff, Nat.reduceLeDiff, Nat.reduceSub, reduceIte, Int.reduceBEq, Int.reduceEq, Int.reduceLT, Int.reduceLE, Int.reduceGT, Int.reduceGE, Int.reduceNe, Int.reduceBNe, s_spec_ValOk, TVal.row, h4, hn, valOk, hT, C_spec_l1In_eq]
    · simp only [go_sem, kSt_ptr, Nat.reduceBEq, Nat.reduceAdd, Nat.reduceEqDiff, Nat.reduceLeDiff, Nat.reduceSub, reduceIte, Int.reduceBEq, Int.reduceEq, Int.reduceLT, Int.reduceLE, Int.reduceGT, Int.reduceGE, Int.reduceNe, Int.reduceBNe, s_spec_ValOk, TVal.row, h4, hn, valOk, hT, C_spec_l1In_eq]
  simp only [go_sem, kSt_ptr, Nat.reduceBEq, Nat.reduceAdd, Nat.reduceEqDiff, Nat.reduceLeDiff, Nat.reduceSub, reduceIte, Int.reduceBEq, Int.reduceEq, Int.reduceLT, Int.reduceLE, Int.reduceGT, Int.reduceGE, Int.reduceNe, Int.reduceBNe, s_spec_ValOk, TVal.row, h0, h1, h2, h3, h4, beqF h0, beqF h1, beqF h2, beqF h3, beqF h4, valOk, hT, C_spec_l1In_eq]
noncomputable def C_spec_ValOk := ct (fun a : TVal => [.agg a.row]) (fun _ => True) .bool valOk
theorem C_spec_ValOk_eq (k n : Int) (s : List UInt8) : C_spec_ValOk [.agg [.int .i64 k, .int .i64 n, .str s]] = some (.bool (valOk ⟨k, n, s⟩)) := by
  unfold C_spec_ValOk
  exact ct_eq (a := (⟨k, n, s⟩ : TVal)) (fun a b h => by
    simp only [List.cons.injEq, AV.agg.injEq, and_true] at h
    exact TVal.inj _ _ h) trivial
theorem ok_spec_ValOk {WI} (hs : Stable WI) (cs) (hT : TOK (EE cs) WI) (h : (EE cs).T 39 = some C_spec_l1In) : PureOK Tryd.prog WI 53 C_spec_ValOk := pure_out hT hs (by rw [st_spec_ValOk]; rfl) fun a _ => ev_spec_ValOk cs h a
theorem u8Id (b : UInt8) : IntKind.wrap .i64 (b.toNat : Int) = b.toNat := by
  have := b.toNat_lt
  exact wrapId (by omega) (by omega)
def plainB (b : UInt8) : Bool := inR b.toNat 32 126 && !((b.toNat : Int) == 39)
theorem L_spec_l2Plain (cs) (hT : (EE cs).T 39 = some C_spec_l1In) (s : List UInt8) (hs : s.length ≤ 9223372036854775807) : ∀ (rest pre : List UInt8) (e : Ps) (h : Hp), s = pre ++ rest → e 0 = .str s → e 3 = .int .i64 pre.length →
    WL (EE cs) s_spec_l2Plain_L0 e h fun x e' h' => h' = h ∧ if rest.all plainB = true then x = .exit 0 else x = .ret ∧ e' 2 = .bool false
  | [], pre, e, h, hl, h0, h3 => by
    refine .step (.sim ?_)
    simp only [go_sem, kSt_ptr, Nat.reduceBEq, Nat.reduceAdd, Nat.reduceEqDiff, Nat.reduceLeDiff, Nat.reduceSub, reduceIte, Int.reduceBEq, Int.reduceEq, Int.reduceLT, Int.reduceLE, Int.reduceGT, Int.reduceGE, Int.reduceNe, Int.reduceBNe, s_spec_l2Plain_L0, h0, h3, lt_end hl, List.all_nil]
  | b :: rest, pre, e, h, hl, h0, h3 => by
    have hlt : pre.length < s.length := by rw [hl]; simp
    have hw : IntKind.wrap .i64 ((pre.length : Int) + 1) = (pre.length : Int) + 1 := wrapId (by omega) (by omega)
    have out : ∀ hp : plainB b = false, ∀ (Q : QS), (∀ e', e' 2 = .bool false → Q .ret e' h) → W (EE cs) s_spec_l2Plain_L0 e h Q := by
      intro hp Q hQ
      refine .mono (.sim (Q := fun x e1 h1 => x = .ret ∧ h1 = h ∧ e1 2 = .bool false) ?_) ?_
      · cases hi : inR b.toNat 32 126
        · simp only [go_sem, kSt_ptr, Nat.reduceBEq, Nat.reduceAdd, Nat.reduceEqDiff, Nat.reduceLeDiff, Nat.reduceSub, reduceIte, Int.reduceBEq, Int.reduceEq, Int.reduceLT, Int.reduceLE, Int.reduceGT, Int.reduceGE, Int.reduceNe, Int.reduceBNe, s_spec_l2Plain_L0, h0, h3, lt_map hl, kIx_at hl, u8Id, hT, C_spec_l1In_eq, hi]
        · by_cases hb : (b.toNat : Int) = 39
          · have hbe : ((b.toNat : Int) == 39) = true := by simpa using hb
            simp only [go_sem, kSt_ptr, Nat.reduceBEq, Nat.reduceAdd, Nat.reduceEqDiff, Nat.reduceLeDiff, Nat.reduceSub, reduceIte, Int.reduceBEq, Int.reduceEq, Int.reduceLT, Int.reduceLE, Int.reduceGT, Int.reduceGE, Int.reduceNe, Int.reduceBNe, s_spec_l2Plain_L0, h0, h3, lt_map hl, kIx_at hl, u8Id, hT, C_spec_l1In_eq, hi, hbe]
          · exact absurd hp (by simp only [plainB, hi, beqF hb]; decide)
      · rintro _ e1 _ ⟨rfl, rfl, h2⟩
        exact hQ e1 h2
    cases hp : plainB b
    · refine .step (out hp _ fun e' h2 => ?_)
      simp [hp, h2]
    · simp only [plainB, Bool.and_eq_true, Bool.not_eq_true'] at hp
      refine .step (.mono (.sim (Q := fun x e1 h1 => x = .norm ∧ h1 = h ∧ e1 0 = .str s ∧ e1 3 = .int .i64 ((pre.length : Int) + 1)) ?_) ?_)
      · simp only [go_sem, kSt_ptr, Nat.reduceBEq, Nat.reduceAdd, Nat.reduceEqDiff, Nat.reduceLeDiff, Nat.reduceSub, reduceIte, Int.reduceBEq, Int.reduceEq, Int.reduceLT, Int.reduceLE, Int.reduceGT, Int.reduceGE, Int.reduceNe, Int.reduceBNe, s_spec_l2Plain_L0, h0, h3, lt_map hl, kIx_at hl, u8Id, hT, C_spec_l1In_eq, hp.1, hp.2, hw]
      · rintro _ e1 _ ⟨rfl, rfl, he0, he3⟩
        refine (L_spec_l2Plain cs hT s hs rest (pre ++ [b]) e1 _ (by rw [hl]; simp) he0 (by rw [he3]; simp)).mono ?_
        have hp' : plainB b = true := by simp only [plainB, hp.1, hp.2]; rfl
        simp only [List.all_cons, hp', Bool.true_and]
        exact fun _ _ _ h => h
theorem ev_spec_l2Plain (cs) (hT : (EE cs).T 39 = some C_spec_l1In) (s : List UInt8) (hs : s.length ≤ 9223372036854775807) : ∃ k n, out (EE cs) k n 54 [.str s] = some (.bool (s.all plainB)) := by
  refine out_W (n := 0) (st_spec_l2Plain cs) ?_
  show W _ (.seq _ (.seq (.seq _ (.blk 0 (.loop s_spec_l2Plain_L0))) _)) _ _ _
  refine .cut (M := fun e1 h1 => h1 = Hp.empty ∧ e1 0 = .str s) (.sim (by simp only [go_sem, kSt_ptr, Nat.reduceBEq, Nat.reduceAdd, Nat.reduceEqDiff, Nat.reduceLeDiff, Nat.reduceSub, reduceIte, Int.reduceBEq, Int.reduceEq, Int.reduceLT, Int.reduceLE, Int.reduceGT, Int.reduceGE, Int.reduceNe, Int.reduceBNe])) ?_
  rintro e1 h1 ⟨rfl, k0⟩
  refine .seq (.cut (M := fun e2 h2 => h2 = Hp.empty ∧ e2 0 = .str s ∧ e2 3 = .int .i64 0) (.sim (by simp only [go_sem, kSt_ptr, Nat.reduceBEq, Nat.reduceAdd, Nat.reduceEqDiff, Nat.reduceLeDiff, Nat.reduceSub, reduceIte, Int.reduceBEq, Int.reduceEq, Int.reduceLT, Int.reduceLE, Int.reduceGT, Int.reduceGE, Int.reduceNe, Int.reduceBNe, k0])) ?_)
  rintro e2 h2 ⟨rfl, k0, k3⟩
  refine .blk (.loop ((L_spec_l2Plain cs hT s hs s [] e2 Hp.empty rfl k0 k3).mono ?_))
  rintro x e' h' ⟨rfl, j2⟩
  split at j2
  · rename_i hz
    subst j2
    rw [outOf_exit]
    refine .sim ?_
    simp only [go_sem, kSt_ptr, Nat.reduceBEq, Nat.reduceAdd, Nat.reduceEqDiff, Nat.reduceLeDiff, Nat.reduceSub, reduceIte, Int.reduceBEq, Int.reduceEq, Int.reduceLT, Int.reduceLE, Int.reduceGT, Int.reduceGE, Int.reduceNe, Int.reduceBNe, s_spec_l2Plain, hz]
  · rename_i hz
    have hz' : s.all plainB = false := by simpa using hz
    obtain ⟨rfl, j3⟩ := j2
    simp only [go_sem, kSt_ptr, Nat.reduceBEq, Nat.reduceAdd, Nat.reduceEqDiff, Nat.reduceLeDiff, Nat.reduceSub, reduceIte, Int.reduceBEq, Int.reduceEq, Int.reduceLT, Int.reduceLE, Int.reduceGT, Int.reduceGE, Int.reduceNe, Int.reduceBNe, s_spec_l2Plain, j3, hz']
noncomputable def C_spec_l2Plain := ct (fun a : List UInt8 => [.str a]) (fun a => a.length ≤ 9223372036854775807) .bool fun a => a.all plainB
theorem C_spec_l2Plain_eq (s : List UInt8) (hs : s.length ≤ 9223372036854775807) : C_spec_l2Plain [.str s] = some (.bool (s.all plainB)) := by
  unfold C_spec_l2Plain
  exact ct_eq (a := s) (fun a b h => by simpa using h) hs
theorem ok_spec_l2Plain {WI} (hs : Stable WI) (cs) (hT : TOK (EE cs) WI) (h : (EE cs).T 39 = some C_spec_l1In) : PureOK Tryd.prog WI 54 C_spec_l2Plain := pure_out hT hs (by rw [st_spec_l2Plain]; rfl) fun a h1 => ev_spec_l2Plain cs h a h1
noncomputable def C_spec_l2Num := ct (fun a : Int => [.int .i64 a]) (fun a => -1000000000000000 ≤ a ∧ a ≤ 1000000000000000) .str Lib.itoa
theorem C_spec_l2Num_eq (n : Int) (hn : -1000000000000000 ≤ n ∧ n ≤ 1000000000000000) : C_spec_l2Num [.int .i64 n] = some (.str (Lib.itoa n)) := by
  unfold C_spec_l2Num
  exact ct_eq (a := n) (fun a b h => by simpa using h) hn
theorem u8dig (d : Nat) (h : d < 10) : rowsBytes [[.int .u8 (IntKind.wrap .u8 (IntKind.wrap .i64 (48 + (d : Int))))]] = some [UInt8.ofNat (48 + d)] := by
  have h1 : IntKind.wrap .i64 (48 + (d : Int)) = 48 + (d : Int) := wrapId (by omega) (by omega)
  have h2 : IntKind.wrap .u8 (48 + (d : Int)) = 48 + (d : Int) := by
    simp [IntKind.wrap, IntKind.bits, IntKind.signed]
    omega
  rw [h1, h2]
  simp only [rowsBytes, rowByte, Option.bind_some, Option.map_some]
  congr 2
noncomputable def CL_spec_l2Num (m : Nat) := ct (fun a : Nat => [.int .i64 (a : Int)]) (fun a => a < 10 ^ m ∧ m ≤ 18) .str Lib.decDigits
theorem CL_spec_l2Num_eq (m a : Nat) (h : a < 10 ^ m ∧ m ≤ 18) : CL_spec_l2Num m [.int .i64 (a : Int)] = some (.str (Lib.decDigits a)) := by
  unfold CL_spec_l2Num
  exact ct_eq (a := a) (fun a b h => by simp at h; omega) h
theorem evs_spec_l2Num (cs) (a : Nat) (h : a < 10) : ∃ k n, out (EE cs) k n 55 [.int .i64 (a : Int)] = some (.str (Lib.decDigits a)) := by
  refine out_K (n := 0) (st_spec_l2Num cs) ?_
  have h1 : ¬ (a : Int) < 0 := by omega
  have h2 : (a : Int) < 10 := by omega
  have hd := u8dig a h
  have he := Lib.decDigits_one h
  simp only [go_sem, kSt_ptr, Nat.reduceBEq, Nat.reduceAdd, Nat.reduceEqDiff, Nat.reduceLeDiff, Nat.reduceSub, reduceIte, Int.reduceBEq, Int.reduceEq, Int.reduceLT, Int.reduceLE, Int.reduceGT, Int.reduceGE, Int.reduceNe, Int.reduceBNe, s_spec_l2Num, h1, h2, hd, he, fillR, List.replicate, frzRows, notStr, rowsIn, isAggV, List.set, Nat.reduceLT, Nat.lt_irrefl, Bool.not_false, Bool.true_or, Option.some.injEq, List.set_cons_zero]
theorem dec_len {a : Nat} (h : a < 10 ^ 18) : (Lib.decDigits a).length ≤ 21 := by
  have := Lib.itoa_length_le (a : Int) (by omega) (by omega)
  rw [Lib.itoa_nonneg] at this
  exact this
theorem evr_spec_l2Num (cs) (m : Nat) (hT : (EE cs).T 55 = some (CL_spec_l2Num m)) (a : Nat) (h10 : 10 ≤ a) (h : a < 10 ^ (m + 1)) (hm : m + 1 ≤ 18) : ∃ k n, out (EE cs) k n 55 [.int .i64 (a : Int)] = some (.str (Lib.decDigits a)) := by
  refine out_K (n := 0) (st_spec_l2Num cs) ?_
  have hb : a < 10 ^ 18 := Nat.lt_of_lt_of_le h (Nat.pow_le_pow_right (by omega) hm)
  have h1 : ¬ (a : Int) < 0 := by omega
  have h2 : ¬ (a : Int) < 10 := by omega
  have hq : a / 10 < 10 ^ m := by rw [Nat.pow_succ] at h; omega
  have hd := u8dig (a % 10) (Nat.mod_lt _ (by omega))
  have eq : IntKind.wrap .i64 ((a : Int).tdiv 10) = ((a / 10 : Nat) : Int) := by
    rw [show (a : Int).tdiv 10 = ((a / 10 : Nat) : Int) from rfl]
    exact wrapId (by omega) (by omega)
  have er : (a : Int).tmod 10 = ((a % 10 : Nat) : Int) := rfl
  have kq : ∀ h, kBin .quo (.int .i64 (a : Int)) (.int .i64 10) h = some (.int .i64 ((a / 10 : Nat) : Int), h) := fun h => by rw [kBin_quo _ _ _ (by decide), eq]
  have kr : ∀ h, kBin .rem (.int .i64 (a : Int)) (.int .i64 10) h = some (.int .i64 ((a % 10 : Nat) : Int), h) := fun h => by rw [kBin_rem _ _ _ (by decide), er]
  have c55 := CL_spec_l2Num_eq m (a / 10) ⟨hq, by omega⟩
  have he : Lib.decDigits a = Lib.decDigits (a / 10) ++ [UInt8.ofNat (48 + a % 10)] := by rw [Lib.decDigits, dif_neg (by omega)]
  have hl := dec_len (a := a / 10) (by omega)
  have hc : ∀ h, kBin .add (.str (Lib.decDigits (a / 10))) (.str [UInt8.ofNat (48 + a % 10)]) h = some (.str (Lib.decDigits (a / 10) ++ [UInt8.ofNat (48 + a % 10)]), h) := fun h => kCat (by simp; omega)
  simp only [go_sem, kSt_ptr, Nat.reduceBEq, Nat.reduceAdd, Nat.reduceEqDiff, Nat.reduceLeDiff, Nat.reduceSub, reduceIte, Int.reduceBEq, Int.reduceEq, Int.reduceLT, Int.reduceLE, Int.reduceGT, Int.reduceGE, Int.reduceNe, Int.reduceBNe, s_spec_l2Num, h1, h2, hT, kq, kr, c55, hc, hd, he, fillR, List.replicate, frzRows, notStr, rowsIn, isAggV, List.set, Nat.reduceLT, Nat.lt_irrefl, Bool.not_false, Bool.true_or, Option.some.injEq, List.set_cons_zero]
theorem okL_spec_l2Num {WI : World → Prop} (hs : Stable WI) : ∀ (m : Nat) (cs), TOK (EE cs) WI → PureOK Tryd.prog WI 55 (CL_spec_l2Num m)
  | 0, cs, hT => pure_out hT hs (by rw [st_spec_l2Num]; rfl) fun a h => evs_spec_l2Num cs a (by have := h.1; simp at this; omega)
  | m + 1, cs, hT => by
    have ih := okL_spec_l2Num hs m cs hT
    refine pure_out (E := EE ((55, CL_spec_l2Num m) :: cs)) (tok_cons ih hT) hs (by rw [st_spec_l2Num]; rfl) fun a h => ?_
    by_cases h10 : a < 10
    · exact evs_spec_l2Num _ a h10
    · exact evr_spec_l2Num _ m rfl a (by omega) h.1 h.2
theorem ev_spec_l2Num (cs) (hT : (EE cs).T 55 = some (CL_spec_l2Num 16)) (x : Int) (h : -1000000000000000 ≤ x ∧ x ≤ 1000000000000000) : ∃ k n, out (EE cs) k n 55 [.int .i64 x] = some (.str (Lib.itoa x)) := by
  by_cases hx : x < 0
  · obtain ⟨a, rfl⟩ : ∃ a : Nat, x = -(a : Int) := ⟨x.natAbs, by omega⟩
    have ha : a < 10 ^ 16 := by omega
    refine out_K (n := 0) (st_spec_l2Num cs) ?_
    have c55 := CL_spec_l2Num_eq 16 a ⟨ha, by omega⟩
    have kn : ∀ h, kUn .neg (.int .i64 (-(a : Int))) h = some (.int .i64 (a : Int), h) := fun h => by
      rw [kUn_neg, show (0 : Int) - -(a : Int) = (a : Int) by omega, wrapId (by omega) (by omega)]
    have hl := dec_len (a := a) (by omega)
    have hc : ∀ h, kBin .add (.str [45]) (.str (Lib.decDigits a)) h = some (.str (45 :: Lib.decDigits a), h) := fun h => kCat (by simp; omega)
    have he := Lib.itoa_neg a (by omega)
    simp only [go_sem, kSt_ptr, Nat.reduceBEq, Nat.reduceAdd, Nat.reduceEqDiff, Nat.reduceLeDiff, Nat.reduceSub, reduceIte, Int.reduceBEq, Int.reduceEq, Int.reduceLT, Int.reduceLE, Int.reduceGT, Int.reduceGE, Int.reduceNe, Int.reduceBNe, s_spec_l2Num, hx, hT, kn, c55, hc, he]
  · obtain ⟨a, rfl⟩ : ∃ a : Nat, x = (a : Int) := ⟨x.toNat, by omega⟩
    rw [Lib.itoa_nonneg]
    by_cases h10 : a < 10
    · exact evs_spec_l2Num cs a h10
    · exact evr_spec_l2Num cs 16 hT a (by omega) (by omega) (by omega)
theorem ok_spec_l2Num {WI : World → Prop} (hs : Stable WI) (cs) (hT : TOK (EE cs) WI) : PureOK Tryd.prog WI 55 C_spec_l2Num :=
  pure_out (E := EE ((55, CL_spec_l2Num 16) :: cs)) (tok_cons (okL_spec_l2Num hs 16 cs hT) hT) hs (by rw [st_spec_l2Num]; rfl) fun a h => ev_spec_l2Num _ rfl a h
end Go.Proofs.YtgjdkcjijmdfoaaDoor.Rs
/- What the functions that FnExactRowsText calls answer: part 2. -/
namespace Go.Proofs.YtgjdkcjijmdfoaaDoor.Rs
open Go Go.RowKit Go.Ev
set_option linter.unusedSimpArgs false
def valText (v : TVal) : List UInt8 :=
  if valOk v = false ∨ v.fS.all plainB = false then [] else
  if v.fK = 1 then 105 :: Lib.itoa v.fN else if v.fK = 2 then 110 :: Lib.itoa v.fN else if v.fK = 3 then 39 :: (v.fS ++ [39]) else if v.fK = 4 then (if v.fN = 1 then [121, 101, 115] else [110, 111]) else [110, 117, 108, 108]
theorem valText_len (v : TVal) : (valText v).length ≤ 40 := by
  unfold valText
  split
  · simp
  · rename_i h
    have hv : valOk v = true := by
      cases hv : valOk v
      · exact absurd (Or.inl hv) h
      · rfl
    split
    · rename_i h1
      have hr := valOk_rng hv (.inl h1)
      have := Lib.itoa_length_le v.fN (by omega) (by omega)
      simp; omega
    split
    · rename_i h2
      have hr := valOk_rng hv (.inr h2)
      have := Lib.itoa_length_le v.fN (by omega) (by omega)
      simp; omega
    split
    · rename_i h3
      have := valOk_len hv h3
      simp; omega
    split
    · split <;> simp
    · simp
theorem ev_spec_ValText (cs) (hT53 : (EE cs).T 53 = some C_spec_ValOk) (hT54 : (EE cs).T 54 = some C_spec_l2Plain) (hT55 : (EE cs).T 55 = some C_spec_l2Num) (v : TVal) (hs : v.fS.length ≤ 9223372036854775807) : ∃ k n, out (EE cs) k n 30 [.agg v.row] = some (.str (valText v)) := by
  refine out_K (n := 0) (st_spec_ValText cs) ?_
  obtain ⟨k, n, s⟩ := v
  have c54 := C_spec_l2Plain_eq s hs
  cases hv : valOk ⟨k, n, s⟩
  · simp only [go_sem, kSt_ptr, Nat.reduceBEq, Nat.reduceAdd, Nat.reduceEqDiff, Nat.reduceLeDiff, Nat.reduceSub, reduceIte, Int.reduceBEq, Int.reduceEq, Int.reduceLT, Int.reduceLE, Int.reduceGT, Int.reduceGE, Int.reduceNe, Int.reduceBNe, s_spec_ValText, TVal.row, hT53, hT54, C_spec_ValOk_eq, c54, hv, valText, true_or]
  cases ha : s.all plainB
  · simp only [go_sem, kSt_ptr, Nat.reduceBEq, Nat.reduceAdd, Nat.reduceEqDiff, Nat.reduceLeDiff, Nat.reduceSub, reduceIte, Int.reduceBEq, Int.reduceEq, Int.reduceLT, Int.reduceLE, Int.reduceGT, Int.reduceGE, Int.reduceNe, Int.reduceBNe, s_spec_ValText, TVal.row, hT53, hT54, C_spec_ValOk_eq, c54, hv, ha, valText, or_true]
  by_cases h1 : k = 1
  · subst h1
    have hr := valOk_rng hv (.inl rfl)
    have c55 := C_spec_l2Num_eq n hr
    have hl := Lib.itoa_length_le n (by have := hr.1; simp only at this; omega) (by have := hr.2; simp only at this; omega)
    have hc : ∀ h, kBin .add (.str [105]) (.str (Lib.itoa n)) h = some (.str (105 :: Lib.itoa n), h) := fun h => kCat (by simp; omega)
    simp only [go_sem, kSt_ptr, Nat.reduceBEq, Nat.reduceAdd, Nat.reduceEqDiff, Nat.reduceLeDiff, Nat.reduceSub, reduceIte, Int.reduceBEq, Int.reduceEq, Int.reduceLT, Int.reduceLE, Int.reduceGT, Int.reduceGE, Int.reduceNe, Int.reduceBNe, s_spec_ValText, TVal.row, hT53, hT54, hT55, C_spec_ValOk_eq, c54, c55, hv, ha, hc, valText, Bool.true_eq_false, or_self]
  by_cases h2 : k = 2
  · subst h2
    have hr := valOk_rng hv (.inr rfl)
    have c55 := C_spec_l2Num_eq n hr
    have hl := Lib.itoa_length_le n (by have := hr.1; simp only at this; omega) (by have := hr.2; simp only at this; omega)
    have hc : ∀ h, kBin .add (.str [110]) (.str (Lib.itoa n)) h = some (.str (110 :: Lib.itoa n), h) := fun h => kCat (by simp; omega)
    simp only [go_sem, kSt_ptr, Nat.reduceBEq, Nat.reduceAdd, Nat.reduceEqDiff, Nat.reduceLeDiff, Nat.reduceSub, reduceIte, Int.reduceBEq, Int.reduceEq, Int.reduceLT, Int.reduceLE, Int.reduceGT, Int.reduceGE, Int.reduceNe, Int.reduceBNe, s_spec_ValText, TVal.row, hT53, hT54, hT55, C_spec_ValOk_eq, c54, c55, hv, ha, hc, valText, Bool.true_eq_false, or_self]
  by_cases h3 : k = 3
  · subst h3
    have hl := valOk_len hv rfl
    simp only at hl
    have hc : ∀ h, kBin .add (.str [39]) (.str s) h = some (.str (39 :: s), h) := fun h => kCat (by simp; omega)
    have hc2 : ∀ h, kBin .add (.str (39 :: s)) (.str [39]) h = some (.str (39 :: (s ++ [39])), h) := fun h => kCat (by simp; omega)
    simp only [go_sem, kSt_ptr, Nat.reduceBEq, Nat.reduceAdd, Nat.reduceEqDiff, Nat.reduceLeDiff, Nat.reduceSub, reduceIte, Int.reduceBEq, Int.reduceEq, Int.reduceLT, Int.reduceLE, Int.reduceGT, Int.reduceGE, Int.reduceNe, Int.reduceBNe, s_spec_ValText, TVal.row, hT53, hT54, hT55, C_spec_ValOk_eq, c54, hv, ha, hc, hc2, valText, Bool.true_eq_false, or_self]
  by_cases h4 : k = 4
  · subst h4
    by_cases hn : n = 1
    · subst hn
      simp only [go_sem, kSt_ptr, Nat.reduceBEq, Nat.reduceAdd, Nat.reduceEqDiff, Nat.reduceLeDiff, Nat.reduceSub, reduceIte, Int.reduceBEq, Int.reduceEq, Int.reduceLT, Int.reduceLE, Int.reduceGT, Int.reduceGE, Int.reduceNe, Int.reduceBNe, s_spec_ValText, TVal.row, hT53, hT54, hT55, C_spec_ValOk_eq, c54, hv, ha, valText, Bool.true_eq_false, or_self]
    · simp only [go_sem, kSt_ptr, Nat.reduceBEq, Nat.reduceAdd, Nat.reduceEqDiff, Nat.reduceLeDiff, Nat.reduceSub, reduceIte, Int.reduceBEq, Int.reduceEq, Int.reduceLT, Int.reduceLE, Int.reduceGT, Int.reduceGE, Int.reduceNe, Int.reduceBNe, s_spec_ValText, TVal.row, hT53, hT54, hT55, C_spec_ValOk_eq, c54, hv, ha, hn, beqF hn, valText, Bool.true_eq_false, or_self]
  simp only [go_sem, kSt_ptr, Nat.reduceBEq, Nat.reduceAdd, Nat.reduceEqDiff, Nat.reduceLeDiff, Nat.reduceSub, reduceIte, Int.reduceBEq, Int.reduceEq, Int.reduceLT, Int.reduceLE, Int.reduceGT, Int.reduceGE, Int.reduceNe, Int.reduceBNe, s_spec_ValText, TVal.row, hT53, hT54, hT55, C_spec_ValOk_eq, c54, hv, ha, h1, h2, h3, h4, beqF h1, beqF h2, beqF h3, beqF h4, valText, Bool.true_eq_false, or_self]
noncomputable def C_spec_ValText := ct (fun a : TVal => [.agg a.row]) (fun a => a.fS.length ≤ 9223372036854775807) .str valText
theorem C_spec_ValText_eq (k n : Int) (s : List UInt8) (hs : s.length ≤ 9223372036854775807) : C_spec_ValText [.agg [.int .i64 k, .int .i64 n, .str s]] = some (.str (valText ⟨k, n, s⟩)) := by
  unfold C_spec_ValText
  exact ct_eq (a := (⟨k, n, s⟩ : TVal)) (fun a b h => by
    simp only [List.cons.injEq, AV.agg.injEq, and_true] at h
    exact TVal.inj _ _ h) hs
theorem ok_spec_ValText {WI} (hs : Stable WI) (cs) (hT : TOK (EE cs) WI) (h53 : (EE cs).T 53 = some C_spec_ValOk) (h54 : (EE cs).T 54 = some C_spec_l2Plain) (h55 : (EE cs).T 55 = some C_spec_l2Num) : PureOK Tryd.prog WI 30 C_spec_ValText := pure_out hT hs (by rw [st_spec_ValText]; rfl) fun a h1 => ev_spec_ValText cs h53 h54 h55 a h1
def blank : List UInt8 → Bool
  | [] => false
  | b :: r => if (b.toNat : Int) = 32 then true else blank r
theorem idx_cons (b : UInt8) (l : List UInt8) (c : UInt8) : (0 ≤ Lib.indexByte (b :: l) c) ↔ (b = c ∨ 0 ≤ Lib.indexByte l c) := by
  have h3 := Lib.indexByte_ge l c
  rw [Lib.indexByte]
  by_cases hb : b = c
  · subst hb
    simp
  · have h1 : (b == c) = false := by simpa using hb
    rw [h1]
    by_cases h4 : Lib.indexByte l c = -1
    · simp [h4, hb]
    · have h5 : (Lib.indexByte l c == -1) = false := by simpa using h4
      simp only [h5, Bool.false_eq_true, if_false, hb, false_or]
      omega
theorem blank_cons (b : UInt8) (l : List UInt8) : blank (b :: l) = true ↔ (b = 32 ∨ blank l = true) := by
  rw [blank]
  by_cases hb : b = 32
  · subst hb
    simp
  · have h2 : ¬ (b.toNat : Int) = 32 := fun e => hb (UInt8.toNat_inj.1 (by show b.toNat = 32; omega))
    rw [if_neg h2]
    simp [hb]
theorem has32_iff : ∀ s : List UInt8, 0 ≤ Lib.indexByte s 32 ↔ blank s = true
  | [] => by simp [Lib.indexByte, blank]
  | b :: l => by rw [idx_cons, blank_cons, has32_iff l]
theorem has32 (s : List UInt8) : decide (0 ≤ Lib.indexByte s 32) = blank s := by
  have := has32_iff s
  cases hb : blank s
  · exact decide_eq_false fun h => by rw [this.1 h] at hb; cases hb
  · exact decide_eq_true (this.2 hb)
theorem L_spec_l28Blank (cs) (s : List UInt8) (hs : s.length ≤ 9223372036854775807) : ∀ (rest pre : List UInt8) (e : Ps) (h : Hp), s = pre ++ rest → e 0 = .str s → e 3 = .int .i64 pre.length →
    WL (EE cs) s_spec_l28Blank_L0 e h fun x e' h' => h' = h ∧ if blank rest = true then x = .ret ∧ e' 2 = .bool true else x = .exit 0
  | [], pre, e, h, hl, h0, h3 => by
    refine .step (.sim ?_)
    simp only [go_sem, kSt_ptr, Nat.reduceBEq, Nat.reduceAdd, Nat.reduceEqDiff, Nat.reduceLeDiff, Nat.reduceSub, reduceIte, Int.reduceBEq, Int.reduceEq, Int.reduceLT, Int.reduceLE, Int.reduceGT, Int.reduceGE, Int.reduceNe, Int.reduceBNe, s_spec_l28Blank_L0, h0, h3, lt_end hl, blank, Bool.false_eq_true]
  | b :: rest, pre, e, h, hl, h0, h3 => by
    have hlt : pre.length < s.length := by rw [hl]; simp
    have hw : IntKind.wrap .i64 ((pre.length : Int) + 1) = (pre.length : Int) + 1 := wrapId (by omega) (by omega)
    by_cases hb : (b.toNat : Int) = 32
    · refine .step (.sim ?_)
      simp only [go_sem, kSt_ptr, Nat.reduceBEq, Nat.reduceAdd, Nat.reduceEqDiff, Nat.reduceLeDiff, Nat.reduceSub, reduceIte, Int.reduceBEq, Int.reduceEq, Int.reduceLT, Int.reduceLE, Int.reduceGT, Int.reduceGE, Int.reduceNe, Int.reduceBNe, s_spec_l28Blank_L0, h0, h3, lt_map hl, kIx_at hl, hb, blank]
    · refine .step (.mono (.sim (Q := fun x e1 h1 => x = .norm ∧ h1 = h ∧ e1 0 = .str s ∧ e1 3 = .int .i64 ((pre.length : Int) + 1)) ?_) ?_)
      · simp only [go_sem, kSt_ptr, Nat.reduceBEq, Nat.reduceAdd, Nat.reduceEqDiff, Nat.reduceLeDiff, Nat.reduceSub, reduceIte, Int.reduceBEq, Int.reduceEq, Int.reduceLT, Int.reduceLE, Int.reduceGT, Int.reduceGE, Int.reduceNe, Int.reduceBNe, s_spec_l28Blank_L0, h0, h3, lt_map hl, kIx_at hl, beqF hb, hw]
      · rintro _ e1 _ ⟨rfl, rfl, he0, he3⟩
        refine (L_spec_l28Blank cs s hs rest (pre ++ [b]) e1 _ (by rw [hl]; simp) he0 (by rw [he3]; simp)).mono ?_
        simp only [blank, hb, if_false]
        exact fun _ _ _ h => h
theorem ev_spec_l28Blank (cs) (s : List UInt8) (hs : s.length ≤ 9223372036854775807) : ∃ k n, out (EE cs) k n 31 [.str s] = some (.bool (blank s)) := by
  refine out_W (n := 0) (st_spec_l28Blank cs) ?_
  show W _ (.seq _ (.seq (.seq _ (.blk 0 (.loop s_spec_l28Blank_L0))) _)) _ _ _
  refine .cut (M := fun e1 h1 => h1 = Hp.empty ∧ e1 0 = .str s) (.sim (by simp only [go_sem, kSt_ptr, Nat.reduceBEq, Nat.reduceAdd, Nat.reduceEqDiff, Nat.reduceLeDiff, Nat.reduceSub, reduceIte, Int.reduceBEq, Int.reduceEq, Int.reduceLT, Int.reduceLE, Int.reduceGT, Int.reduceGE, Int.reduceNe, Int.reduceBNe])) ?_
  rintro e1 h1 ⟨rfl, k0⟩
  refine .seq (.cut (M := fun e2 h2 => h2 = Hp.empty ∧ e2 0 = .str s ∧ e2 3 = .int .i64 0) (.sim (by simp only [go_sem, kSt_ptr, Nat.reduceBEq, Nat.reduceAdd, Nat.reduceEqDiff, Nat.reduceLeDiff, Nat.reduceSub, reduceIte, Int.reduceBEq, Int.reduceEq, Int.reduceLT, Int.reduceLE, Int.reduceGT, Int.reduceGE, Int.reduceNe, Int.reduceBNe, k0])) ?_)
  rintro e2 h2 ⟨rfl, k0, k3⟩
  refine .blk (.loop ((L_spec_l28Blank cs s hs s [] e2 Hp.empty rfl k0 k3).mono ?_))
  rintro x e' h' ⟨rfl, j2⟩
  split at j2
  · rename_i hz
    obtain ⟨rfl, j3⟩ := j2
    simp only [go_sem, kSt_ptr, Nat.reduceBEq, Nat.reduceAdd, Nat.reduceEqDiff, Nat.reduceLeDiff, Nat.reduceSub, reduceIte, Int.reduceBEq, Int.reduceEq, Int.reduceLT, Int.reduceLE, Int.reduceGT, Int.reduceGE, Int.reduceNe, Int.reduceBNe, s_spec_l28Blank, j3, hz]
  · rename_i hz
    have hz' : blank s = false := by simpa using hz
    subst j2
    rw [outOf_exit]
    refine .sim ?_
    simp only [go_sem, kSt_ptr, Nat.reduceBEq, Nat.reduceAdd, Nat.reduceEqDiff, Nat.reduceLeDiff, Nat.reduceSub, reduceIte, Int.reduceBEq, Int.reduceEq, Int.reduceLT, Int.reduceLE, Int.reduceGT, Int.reduceGE, Int.reduceNe, Int.reduceBNe, s_spec_l28Blank, hz']
noncomputable def C_spec_l28Blank := ct (fun a : List UInt8 => [.str a]) (fun a => a.length ≤ 9223372036854775807) .bool blank
theorem C_spec_l28Blank_eq (s : List UInt8) (hs : s.length ≤ 9223372036854775807) : C_spec_l28Blank [.str s] = some (.bool (blank s)) := by
  unfold C_spec_l28Blank
  exact ct_eq (a := s) (fun a b h => by simpa using h) hs
theorem ok_spec_l28Blank {WI} (hs : Stable WI) (cs) (hT : TOK (EE cs) WI) : PureOK Tryd.prog WI 31 C_spec_l28Blank := pure_out hT hs (by rw [st_spec_l28Blank]; rfl) fun a h1 => ev_spec_l28Blank cs a h1
def strRow (t : List UInt8) : List AV := [.str t]
theorem strRows_inj {a b : List (List UInt8)} (h : a.map strRow = b.map strRow) : a = b := (List.map_inj_right (fun x y h => by simpa [strRow] using h)).1 h
/-- The texts behind those that stand already. -/
def rowGo (first : Bool) (acc : List UInt8) : List TVal → List UInt8
  | [] => acc
  | v :: r => if valText v = [] ∨ blank (valText v) = true then [] else rowGo false (if first then acc ++ valText v else (acc ++ [32]) ++ valText v) r
/-- What stands in the slot of the texts. -/
def txt (ts : List (List UInt8)) (v : AV) (h : Hp) : Prop := (ts = [] ∧ v = .snil) ∨ ∃ id, v = .app id (ts.map strRow) ∧ h.ap id = some (ts.length, 1) ∧ id < h.nx
/-- The texts, none where one falls. -/
def rowTs : List TVal → Option (List (List UInt8))
  | [] => some []
  | v :: r => if valText v = [] ∨ blank (valText v) = true then none else (rowTs r).map fun l => valText v :: l
def rowImpl (l : List TVal) : List UInt8 := match rowTs l with
  | none => []
  | some ts => Lib.join ts [32]
theorem rowGo_eq : ∀ (l : List TVal) (first : Bool) (acc : List UInt8), rowGo first acc l = match rowTs l with
    | none => []
    | some ts => acc ++ (if first then Lib.join ts [32] else Lib.joinTail [32] ts)
  | [], first, acc => by cases first <;> simp [rowGo, rowTs, Lib.join, Lib.joinTail, List.intercalate]
  | v :: r, first, acc => by
    simp only [rowGo, rowTs]
    split
    · rfl
    · rw [rowGo_eq r]
      cases rowTs r with
      | none => rfl
      | some ts =>
        cases first with
        | true => simp [Lib.join_cons, Lib.joinTail]
        | false => simp [Lib.joinTail]
theorem rowGo_impl (l : List TVal) : rowGo true [] l = rowImpl l := by
  rw [rowGo_eq]
  unfold rowImpl
  cases rowTs l <;> rfl
theorem rowTs_len : ∀ {l : List TVal} {ts : List (List UInt8)}, rowTs l = some ts → ts.length = l.length ∧ ∀ t ∈ ts, t.length ≤ 40
  | [], ts, h => by simp only [rowTs, Option.some.injEq] at h; subst h; exact ⟨rfl, fun t ht => by cases ht⟩
  | v :: r, ts, h => by
    simp only [rowTs] at h
    split at h
    · cases h
    · simp only [Option.map_eq_some_iff] at h
      obtain ⟨l', h1, rfl⟩ := h
      obtain ⟨k1, k2⟩ := rowTs_len h1
      refine ⟨by simp [k1], fun t ht => ?_⟩
      rcases List.mem_cons.1 ht with rfl | ht
      · exact valText_len v
      · exact k2 t ht
theorem lens_le {ts : List (List UInt8)} (h : ∀ t ∈ ts, t.length ≤ 40) : Lib.lens ts ≤ 40 * ts.length := by
  induction ts with
  | nil => simp [Lib.lens]
  | cons t r ih =>
    have h1 := h t List.mem_cons_self
    have h2 := ih fun u hu => h u (List.mem_cons_of_mem _ hu)
    simp only [Lib.lens, List.map_cons, List.sum_cons, List.length_cons] at h2 ⊢
    omega
theorem join_len {ts : List (List UInt8)} (h : ∀ t ∈ ts, t.length ≤ 40) : (Lib.join ts [32]).length ≤ 41 * ts.length := by
  cases ts with
  | nil => simp [Lib.join_nil]
  | cons t r =>
    have h1 := h t List.mem_cons_self
    have h2 := lens_le fun u hu => h u (List.mem_cons_of_mem _ hu)
    rw [Lib.join_cons, List.length_append, Lib.joinTail_length]
    simp only [List.length_cons, List.length_nil] at h2 ⊢
    omega
theorem valsLen {l : List TVal} (h : (sliceT tVal).good l) : l.length ≤ 1048576 ∧ ∀ v ∈ l, v.fS.length ≤ 9223372036854775807 :=
  ⟨by have : l.length + costL tVal l ≤ 1048576 := h.1; omega, ((sliceT tVal).fit l h.1).2⟩
theorem rowImpl_len (r : List TVal) : (rowImpl r).length ≤ 41 * r.length := by
  unfold rowImpl
  cases h : rowTs r with
  | none => simp
  | some ts =>
    obtain ⟨h1, h2⟩ := rowTs_len h
    have := join_len h2
    simp only
    omega
theorem L_spec_RowText (cs) (hT30 : (EE cs).T 30 = some C_spec_ValText) (hT31 : (EE cs).T 31 = some C_spec_l28Blank) (l : List TVal) (hlen : l.length ≤ 1048576) (hs : ∀ v ∈ l, v.fS.length ≤ 9223372036854775807) : ∀ (rest pre : List TVal) (acc : List UInt8) (e : Ps) (h : Hp), l = pre ++ rest → e 0 = .imm (l.map TVal.row) → e 4 = .int .i64 pre.length → e 3 = .str acc → acc.length ≤ 41 * pre.length →
    WL (EE cs) s_spec_RowText_L0 e h fun x e' h' => h' = h ∧ ((x = .ret ∧ e' 2 = .str (rowGo (pre.length == 0) acc rest)) ∨ (x = .exit 0 ∧ e' 3 = .str (rowGo (pre.length == 0) acc rest)))
  | [], pre, acc, e, h, hl, h0, h4, h3, ha => by
    refine .step (.sim ?_)
    simp only [go_sem, kSt_ptr, Nat.reduceBEq, Nat.reduceAdd, Nat.reduceEqDiff, Nat.reduceLeDiff, Nat.reduceSub, reduceIte, Int.reduceBEq, Int.reduceEq, Int.reduceLT, Int.reduceLE, Int.reduceGT, Int.reduceGE, Int.reduceNe, Int.reduceBNe, s_spec_RowText_L0, h0, h4, h3, lt_end hl, rowGo, or_true]
  | v :: rest, pre, acc, e, h, hl, h0, h4, h3, ha => by
    have hv : v.fS.length ≤ 9223372036854775807 := hs v (by rw [hl]; simp)
    have hlt : pre.length < l.length := by rw [hl]; simp
    have hw : IntKind.wrap .i64 ((pre.length : Int) + 1) = (pre.length : Int) + 1 := wrapId (by omega) (by omega)
    have c30 := C_spec_ValText_eq v.fK v.fN v.fS hv
    have vl := valText_len v
    have c31 := C_spec_l28Blank_eq (valText v) (by omega)
    by_cases ht : valText v = []
    · have ht' : valText ⟨v.fK, v.fN, v.fS⟩ = [] := ht
      refine .step (.sim ?_)
      simp only [go_sem, kSt_ptr, Nat.reduceBEq, Nat.reduceAdd, Nat.reduceEqDiff, Nat.reduceLeDiff, Nat.reduceSub, reduceIte, Int.reduceBEq, Int.reduceEq, Int.reduceLT, Int.reduceLE, Int.reduceGT, Int.reduceGE, Int.reduceNe, Int.reduceBNe, s_spec_RowText_L0, h0, h4, h3, lt_map hl, kIa_map (row := TVal.row) (sz := 3) hl rfl, TVal.row, hT30, c30, ht, ht', rowGo, true_or]
    cases hb : blank (valText v)
    case true =>
      have hq : valText ⟨v.fK, v.fN, v.fS⟩ = valText v := rfl
      refine .step (.sim ?_)
      simp only [go_sem, kSt_ptr, Nat.reduceBEq, Nat.reduceAdd, Nat.reduceEqDiff, Nat.reduceLeDiff, Nat.reduceSub, reduceIte, Int.reduceBEq, Int.reduceEq, Int.reduceLT, Int.reduceLE, Int.reduceGT, Int.reduceGE, Int.reduceNe, Int.reduceBNe, s_spec_RowText_L0, h0, h4, h3, lt_map hl, kIa_map (row := TVal.row) (sz := 3) hl rfl, TVal.row, hT30, hT31, c30, hq, c31, beqF ht, ht, hb, rowGo, or_true, true_or]
    have hq : valText ⟨v.fK, v.fN, v.fS⟩ = valText v := rfl
    have c1 : ∀ h, kBin .add (.str acc) (.str (valText v)) h = some (.str (acc ++ valText v), h) := fun h => kCat (by omega)
    have c2 : ∀ h, kBin .add (.str acc) (.str [32]) h = some (.str (acc ++ [32]), h) := fun h => kCat (by simp; omega)
    have c3 : ∀ h, kBin .add (.str (acc ++ [32])) (.str (valText v)) h = some (.str ((acc ++ [32]) ++ valText v), h) := fun h => kCat (by simp; omega)
    refine .step (.mono (.sim (Q := fun x e1 h1 => x = .norm ∧ h1 = h ∧ e1 0 = .imm (l.map TVal.row) ∧ e1 4 = .int .i64 ((pre.length : Int) + 1) ∧ e1 3 = .str (if pre.length == 0 then acc ++ valText v else (acc ++ [32]) ++ valText v)) ?_) ?_)
    · by_cases hp : pre.length = 0
      · have hg : ¬ (0 : Int) < (pre.length : Int) := by omega
        have hp' : (pre.length == 0) = true := by simpa using hp
        simp only [go_sem, kSt_ptr, Nat.reduceBEq, Nat.reduceAdd, Nat.reduceEqDiff, Nat.reduceLeDiff, Nat.reduceSub, reduceIte, Int.reduceBEq, Int.reduceEq, Int.reduceLT, Int.reduceLE, Int.reduceGT, Int.reduceGE, Int.reduceNe, Int.reduceBNe, s_spec_RowText_L0, h0, h4, h3, lt_map hl, kIa_map (row := TVal.row) (sz := 3) hl rfl, TVal.row, hT30, hT31, c30, hq, c31, beqF ht, hb, hg, hp', c1, hw]
      · have hg : (0 : Int) < (pre.length : Int) := by omega
        have hp' : (pre.length == 0) = false := by simpa using hp
        simp only [go_sem, kSt_ptr, Nat.reduceBEq, Nat.reduceAdd, Nat.reduceEqDiff, Nat.reduceLeDiff, Nat.reduceSub, reduceIte, Int.reduceBEq, Int.reduceEq, Int.reduceLT, Int.reduceLE, Int.reduceGT, Int.reduceGE, Int.reduceNe, Int.reduceBNe, s_spec_RowText_L0, h0, h4, h3, lt_map hl, kIa_map (row := TVal.row) (sz := 3) hl rfl, TVal.row, hT30, hT31, c30, hq, c31, beqF ht, hb, hg, hp', c2, c3, hw]
    · rintro _ e1 _ ⟨rfl, rfl, he0, he4, he3⟩
      refine (L_spec_RowText cs hT30 hT31 l hlen hs rest (pre ++ [v]) _ e1 _ (by rw [hl]; simp) he0 (by rw [he4]; simp) he3 (by split <;> simp <;> omega)).mono ?_
      have hf : ((pre ++ [v]).length == 0) = false := by simp
      rw [hf]
      simp only [rowGo, ht, hb, Bool.false_eq_true, or_self, if_false]
      exact fun _ _ _ h => h
theorem ev_spec_RowText (cs) (hT30 : (EE cs).T 30 = some C_spec_ValText) (hT31 : (EE cs).T 31 = some C_spec_l28Blank) (l : List TVal) (hlen : l.length ≤ 1048576) (hs : ∀ v ∈ l, v.fS.length ≤ 9223372036854775807) : ∃ k n, out (EE cs) k n 8 [.imm (l.map TVal.row)] = some (.str (rowGo true [] l)) := by
  refine out_W (n := 0) (st_spec_RowText cs) ?_
  show W _ (.seq _ (.seq _ (.seq (.seq _ (.blk 0 (.loop s_spec_RowText_L0))) _))) _ _ _
  refine .re (.cut (M := fun e1 h1 => e1 0 = .imm (l.map TVal.row) ∧ e1 3 = .str []) (.sim (by simp only [go_sem, kSt_ptr, Nat.reduceBEq, Nat.reduceAdd, Nat.reduceEqDiff, Nat.reduceLeDiff, Nat.reduceSub, reduceIte, Int.reduceBEq, Int.reduceEq, Int.reduceLT, Int.reduceLE, Int.reduceGT, Int.reduceGE, Int.reduceNe, Int.reduceBNe])) ?_)
  rintro e1 h1 ⟨k0, k3⟩
  refine .seq (.cut (M := fun e2 h2 => e2 0 = .imm (l.map TVal.row) ∧ e2 3 = .str [] ∧ e2 4 = .int .i64 0) (.sim (by simp only [go_sem, kSt_ptr, Nat.reduceBEq, Nat.reduceAdd, Nat.reduceEqDiff, Nat.reduceLeDiff, Nat.reduceSub, reduceIte, Int.reduceBEq, Int.reduceEq, Int.reduceLT, Int.reduceLE, Int.reduceGT, Int.reduceGE, Int.reduceNe, Int.reduceBNe, k0, k3])) ?_)
  rintro e2 h2 ⟨k0, k3, k4⟩
  refine .blk (.loop ((L_spec_RowText cs hT30 hT31 l hlen hs l [] [] e2 h2 rfl k0 k4 k3 (by simp)).mono ?_))
  rintro x e' h' ⟨rfl, ⟨rfl, j3⟩ | ⟨rfl, j3⟩⟩
  · have j3' : e' 2 = .str (rowGo true [] l) := j3
    simp only [go_sem, kSt_ptr, Nat.reduceBEq, Nat.reduceAdd, Nat.reduceEqDiff, Nat.reduceLeDiff, Nat.reduceSub, reduceIte, Int.reduceBEq, Int.reduceEq, Int.reduceLT, Int.reduceLE, Int.reduceGT, Int.reduceGE, Int.reduceNe, Int.reduceBNe, s_spec_RowText, j3']
  · have j3' : e' 3 = .str (rowGo true [] l) := j3
    rw [outOf_exit]
    refine .sim ?_
    simp only [go_sem, kSt_ptr, Nat.reduceBEq, Nat.reduceAdd, Nat.reduceEqDiff, Nat.reduceLeDiff, Nat.reduceSub, reduceIte, Int.reduceBEq, Int.reduceEq, Int.reduceLT, Int.reduceLE, Int.reduceGT, Int.reduceGE, Int.reduceNe, Int.reduceBNe, s_spec_RowText, j3']
noncomputable def C_spec_RowText := c1 (sliceT tVal) (fun a => (sliceT tVal).good a) .str rowImpl
theorem C_spec_RowText_eq (a : List TVal) (h : (sliceT tVal).good a) : C_spec_RowText [.imm (a.map TVal.row)] = some (.str (rowImpl a)) := c1_eq (sliceT tVal) h
theorem ok_spec_RowText {WI} (hs : Stable WI) (cs) (hT : TOK (EE cs) WI) (h30 : (EE cs).T 30 = some C_spec_ValText) (h31 : (EE cs).T 31 = some C_spec_l28Blank) : PureOK Tryd.prog WI 8 C_spec_RowText := pure1 hT hs (by rw [st_spec_RowText]; rfl) fun a h => by rw [← rowGo_impl]; exact ev_spec_RowText cs h30 h31 a (valsLen h).1 (valsLen h).2
end Go.Proofs.YtgjdkcjijmdfoaaDoor.Rs
/- What the functions that FnExactRowsText calls answer: part 3. -/
namespace Go.Proofs.YtgjdkcjijmdfoaaDoor.Rs
open Go Go.RowKit Go.Ev
set_option linter.unusedSimpArgs false
def rowsText : List (List TVal) → List UInt8
  | [] => []
  | r :: l => (rowImpl r ++ [10]) ++ rowsText l
theorem rowsText_len : ∀ (l : List (List TVal)), (rowsText l).length ≤ 41 * costL (sliceT tVal) l + l.length
  | [] => by simp [rowsText]
  | r :: l => by
    have h1 := rowImpl_len r
    have h2 := rowsText_len l
    have h3 : (sliceT tVal).cost r = r.length + costL tVal r := rfl
    simp only [rowsText, costL, List.length_append, List.length_cons, List.length_nil]
    omega
theorem rowsText_snoc (r : List TVal) : ∀ (l : List (List TVal)), rowsText (l ++ [r]) = rowsText l ++ (rowImpl r ++ [10])
  | [] => by simp [rowsText]
  | x :: l => by simp only [List.cons_append, rowsText, rowsText_snoc r l, List.append_assoc]
theorem rowsGood {l : List (List TVal)} (h : (sliceT (sliceT tVal)).good l) : l.length ≤ 1048576 ∧ (∀ r ∈ l, (sliceT tVal).good r) ∧ ∀ pre r rest, l = pre ++ r :: rest → (rowsText (pre ++ [r])).length ≤ 1000000000 := by
  have h0 : l.length + costL (sliceT tVal) l ≤ 1048576 := h.1
  refine ⟨by omega, fun r hr => ⟨by have := costL_mem (sliceT tVal) hr; omega, h.2 r hr⟩, fun pre r rest hl => ?_⟩
  have h1 := rowsText_len l
  have h2 : ∀ a b : List (List TVal), (rowsText a).length ≤ (rowsText (a ++ b)).length := fun a b => by
    induction a with
    | nil => simp [rowsText]
    | cons x a ih => simp only [List.cons_append, rowsText, List.length_append]; omega
  have h3 := h2 (pre ++ [r]) rest
  rw [show pre ++ [r] ++ rest = l by rw [hl]; simp] at h3
  omega
theorem L_spec_RowsText (cs) (hT : (EE cs).T 8 = some C_spec_RowText) (l : List (List TVal)) (hg : (sliceT (sliceT tVal)).good l) : ∀ (rest pre : List (List TVal)) (e : Ps) (h : Hp), l = pre ++ rest → e 0 = .imm (l.map (sliceT tVal).row) → e 4 = .int .i64 pre.length → e 3 = .str (rowsText pre) →
    WL (EE cs) s_spec_RowsText_L0 e h fun x e' h' => x = .exit 0 ∧ e' 3 = .str (rowsText l)
  | [], pre, e, h, hl, h0, h4, h3 => by
    have hp : l = pre := by rw [hl]; simp
    subst hp
    have hlt : decide ((l.length : Int) < (l.length : Int)) = false := by simp
    refine .step (.sim ?_)
    simp only [go_sem, kSt_ptr, Nat.reduceBEq, Nat.reduceAdd, Nat.reduceEqDiff, Nat.reduceLeDiff, Nat.reduceSub, reduceIte, Int.reduceBEq, Int.reduceEq, Int.reduceLT, Int.reduceLE, Int.reduceGT, Int.reduceGE, Int.reduceNe, Int.reduceBNe, s_spec_RowsText_L0, h0, h4, h3, hlt]
  | r :: rest, pre, e, h, hl, h0, h4, h3 => by
    obtain ⟨g1, g2, g3⟩ := rowsGood hg
    have hlt : pre.length < l.length := by rw [hl]; simp
    have hw : IntKind.wrap .i64 ((pre.length : Int) + 1) = (pre.length : Int) + 1 := wrapId (by omega) (by omega)
    have hc := C_spec_RowText_eq r (g2 r (by rw [hl]; simp))
    have hl3 := g3 pre r rest hl
    rw [rowsText_snoc] at hl3
    simp only [List.length_append, List.length_cons, List.length_nil] at hl3
    have c1 : ∀ h, kBin .add (.str (rowsText pre)) (.str (rowImpl r)) h = some (.str (rowsText pre ++ rowImpl r), h) := fun h => kCat (by omega)
    have c2 : ∀ h, kBin .add (.str (rowsText pre ++ rowImpl r)) (.str [10]) h = some (.str ((rowsText pre ++ rowImpl r) ++ [10]), h) := fun h => kCat (by simp only [List.length_append, List.length_cons, List.length_nil]; omega)
    refine .step (.mono (.sim (Q := fun x e1 h1 => x = .norm ∧ e1 0 = .imm (l.map (sliceT tVal).row) ∧ e1 4 = .int .i64 ((pre.length : Int) + 1) ∧ e1 3 = .str ((rowsText pre ++ rowImpl r) ++ [10])) ?_) ?_)
    · simp only [go_sem, kSt_ptr, Nat.reduceBEq, Nat.reduceAdd, Nat.reduceEqDiff, Nat.reduceLeDiff, Nat.reduceSub, reduceIte, Int.reduceBEq, Int.reduceEq, Int.reduceLT, Int.reduceLE, Int.reduceGT, Int.reduceGE, Int.reduceNe, Int.reduceBNe, s_spec_RowsText_L0, h0, h4, h3, lt_map hl, kIa_map (row := (sliceT tVal).row) (sz := 1) hl rfl, tVal_row, hT, hc, c1, c2, hw]
    · rintro _ e1 h1 ⟨rfl, k0, k4, k3⟩
      exact L_spec_RowsText cs hT l hg rest (pre ++ [r]) e1 h1 (by rw [hl]; simp) k0 (by rw [k4]; simp) (by rw [k3, rowsText_snoc, List.append_assoc])
theorem ev_spec_RowsText (cs) (hT : (EE cs).T 8 = some C_spec_RowText) (l : List (List TVal)) (hg : (sliceT (sliceT tVal)).good l) : ∃ k n, out (EE cs) k n 13 [.imm (l.map (sliceT tVal).row)] = some (.str (rowsText l)) := by
  refine out_W (n := 0) (st_spec_RowsText cs) ?_
  show W _ (.seq _ (.seq _ (.seq (.seq _ (.blk 0 (.loop s_spec_RowsText_L0))) _))) _ _ _
  refine .re (.cut (M := fun e1 h1 => e1 0 = .imm (l.map (sliceT tVal).row) ∧ e1 3 = .str []) (.sim (by simp only [go_sem, kSt_ptr, Nat.reduceBEq, Nat.reduceAdd, Nat.reduceEqDiff, Nat.reduceLeDiff, Nat.reduceSub, reduceIte, Int.reduceBEq, Int.reduceEq, Int.reduceLT, Int.reduceLE, Int.reduceGT, Int.reduceGE, Int.reduceNe, Int.reduceBNe])) ?_)
  rintro e1 h1 ⟨k0, k3⟩
  refine .seq (.cut (M := fun e2 h2 => e2 0 = .imm (l.map (sliceT tVal).row) ∧ e2 3 = .str [] ∧ e2 4 = .int .i64 0) (.sim (by simp only [go_sem, kSt_ptr, Nat.reduceBEq, Nat.reduceAdd, Nat.reduceEqDiff, Nat.reduceLeDiff, Nat.reduceSub, reduceIte, Int.reduceBEq, Int.reduceEq, Int.reduceLT, Int.reduceLE, Int.reduceGT, Int.reduceGE, Int.reduceNe, Int.reduceBNe, k0, k3])) ?_)
  rintro e2 h2 ⟨k0, k3, k4⟩
  refine .blk (.loop ((L_spec_RowsText cs hT l hg l [] e2 h2 rfl k0 k4 k3).mono ?_))
  rintro x e' h' ⟨rfl, j3⟩
  rw [outOf_exit]
  refine .sim ?_
  simp only [go_sem, kSt_ptr, Nat.reduceBEq, Nat.reduceAdd, Nat.reduceEqDiff, Nat.reduceLeDiff, Nat.reduceSub, reduceIte, Int.reduceBEq, Int.reduceEq, Int.reduceLT, Int.reduceLE, Int.reduceGT, Int.reduceGE, Int.reduceNe, Int.reduceBNe, s_spec_RowsText, j3]
noncomputable def C_spec_RowsText := c1 (sliceT (sliceT tVal)) (sliceT (sliceT tVal)).good .str rowsText
theorem C_spec_RowsText_eq (l : List (List TVal)) (h : (sliceT (sliceT tVal)).good l) : C_spec_RowsText [.imm (l.map (sliceT tVal).row)] = some (.str (rowsText l)) := c1_eq (sliceT (sliceT tVal)) h
theorem ok_spec_RowsText {WI} (hs : Stable WI) (cs) (hT : TOK (EE cs) WI) (h1 : (EE cs).T 8 = some C_spec_RowText) : PureOK Tryd.prog WI 13 C_spec_RowsText :=
  pure1 (E := EE cs) hT hs (by rw [st_spec_RowsText]; rfl) fun l h => ev_spec_RowsText cs h1 l h
theorem ev_impl_in (cs) (x a b : Int) : ∃ k n, out (EE cs) k n 44 [.int .i64 x, .int .i64 a, .int .i64 b] = some (.bool (inR x a b)) := by
  refine out_K (n := 0) (st_impl_in cs) ?_
  by_cases h1 : a ≤ x
  · simp only [go_sem, kSt_ptr, Nat.reduceBEq, Nat.reduceAdd, Nat.reduceEqDiff, Nat.reduceLeDiff, Nat.reduceSub, reduceIte, Int.reduceBEq, Int.reduceEq, Int.reduceLT, Int.reduceLE, Int.reduceGT, Int.reduceGE, Int.reduceNe, Int.reduceBNe, s_impl_in, h1, inR]
  · simp only [go_sem, kSt_ptr, Nat.reduceBEq, Nat.reduceAdd, Nat.reduceEqDiff, Nat.reduceLeDiff, Nat.reduceSub, reduceIte, Int.reduceBEq, Int.reduceEq, Int.reduceLT, Int.reduceLE, Int.reduceGT, Int.reduceGE, Int.reduceNe, Int.reduceBNe, s_impl_in, h1, inR]
noncomputable def C_impl_in := ct (fun a : Int × Int × Int => [.int .i64 a.1, .int .i64 a.2.1, .int .i64 a.2.2]) (fun _ => True) .bool fun a => inR a.1 a.2.1 a.2.2
theorem C_impl_in_eq (x a b : Int) : C_impl_in [.int .i64 x, .int .i64 a, .int .i64 b] = some (.bool (inR x a b)) := by
  unfold C_impl_in
  exact ct_eq (a := (x, a, b)) (fun a b h => by
    simp only [List.cons.injEq, AV.int.injEq, and_true, true_and] at h
    exact Prod.ext h.1 (Prod.ext h.2.1 h.2.2)) trivial
theorem ok_impl_in {WI} (hs : Stable WI) (cs) (hT : TOK (EE cs) WI) : PureOK Tryd.prog WI 44 C_impl_in :=
  pure_out hT hs (by rw [st_impl_in]; rfl) fun a _ => ev_impl_in cs a.1 a.2.1 a.2.2
theorem ev_impl_ValOk (cs) (hT : (EE cs).T 44 = some C_impl_in) (v : TVal) : ∃ k n, out (EE cs) k n 56 [.agg v.row] = some (.bool (valOk v)) := by
  refine out_K (n := 0) (st_impl_ValOk cs) ?_
  by_cases h0 : v.fK = 0
  · by_cases hn : v.fN = 0
    · simp only [go_sem, kSt_ptr, Nat.reduceBEq, Nat.reduceAdd, Nat.reduceEqDiff, Nat.reduceLeDiff, Nat.reduceSub, reduceIte, Int.reduceBEq, Int.reduceEq, Int.reduceLT, Int.reduceLE, Int.reduceGT, Int.reduceGE, Int.reduceNe, Int.reduceBNe, s_impl_ValOk, TVal.row, h0, hn, valOk]
    · simp only [go_sem, kSt_ptr, Nat.reduceBEq, Nat.reduceAdd, Nat.reduceEqDiff, Nat.reduceLeDiff, Nat.reduceSub, reduceIte, Int.reduceBEq, Int.reduceEq, Int.reduceLT, Int.reduceLE, Int.reduceGT, Int.reduceGE, Int.reduceNe, Int.reduceBNe, s_impl_ValOk, TVal.row, h0, hn, beqF hn, valOk]
  by_cases h1 : v.fK = 1
  · cases hn : inR v.fN (-2147483648) 2147483647
    · simp only [go_sem, kSt_ptr, Nat.reduceBEq, Nat.reduceAdd, Nat.reduceEqDiff, Nat.reduceLeDiff, Nat.reduceSub, reduceIte, Int.reduceBEq, Int.reduceEq, Int.reduceLT, Int.reduceLE, Int.reduceGT, Int.reduceGE, Int.reduceNe, Int.reduceBNe, s_impl_ValOk, TVal.row, h1, hn, valOk, hT, C_impl_in_eq]
    · simp only [go_sem, kSt_ptr, Nat.reduceBEq, Nat.reduceAdd, Nat.reduceEqDiff, Nat.reduceLeDiff, Nat.reduceSub, reduceIte, Int.reduceBEq, Int.reduceEq, Int.reduceLT, Int.reduceLE, Int.reduceGT, Int.reduceGE, Int.reduceNe, Int.reduceBNe, s_impl_ValOk, TVal.row, h1, hn, valOk, hT, C_impl_in_eq]
  by_cases h2 : v.fK = 2
  · cases hn : inR v.fN (-1000000000000000) 1000000000000000
    · simp only [go_sem, kSt_ptr, Nat.reduceBEq, Nat.reduceAdd, Nat.reduceEqDiff, Nat.reduceLeDiff, Nat.reduceSub, reduceIte, Int.reduceBEq, Int.reduceEq, Int.reduceLT, Int.reduceLE, Int.reduceGT, Int.reduceGE, Int.reduceNe, Int.reduceBNe, s_impl_ValOk, TVal.row, h2, hn, valOk, hT, C_impl_in_eq]
    · simp only [go_sem, kSt_ptr, Nat.reduceBEq, Nat.reduceAdd, Nat.reduceEqDiff, Nat.reduceLeDiff, Nat.reduceSub, reduceIte, Int.reduceBEq, Int.reduceEq, Int.reduceLT, Int.reduceLE, Int.reduceGT, Int.reduceGE, Int.reduceNe, Int.reduceBNe, s_impl_ValOk, TVal.row, h2, hn, valOk, hT, C_impl_in_eq]
  by_cases h3 : v.fK = 3
  · by_cases hn : v.fN = 0
    · simp only [go_sem, kSt_ptr, Nat.reduceBEq, Nat.reduceAdd, Nat.reduceEqDiff, Nat.reduceLeDiff, Nat.reduceSub, reduceIte, Int.reduceBEq, Int.reduceEq, Int.reduceLT, Int.reduceLE, Int.reduceGT, Int.reduceGE, Int.reduceNe, Int.reduceBNe, s_impl_ValOk, TVal.row, h3, hn, valOk, hT, C_impl_in_eq]
    · simp only [go_sem, kSt_ptr, Nat.reduceBEq, Nat.reduceAdd, Nat.reduceEqDiff, Nat.reduceLeDiff, Nat.reduceSub, reduceIte, Int.reduceBEq, Int.reduceEq, Int.reduceLT, Int.reduceLE, Int.reduceGT, Int.reduceGE, Int.reduceNe, Int.reduceBNe, s_impl_ValOk, TVal.row, h3, hn, beqF hn, valOk, hT, C_impl_in_eq]
  by_cases h4 : v.fK = 4
  · cases hn : inR v.fN 0 1
    · simp only [go_sem, kSt_ptr, Nat.reduceBEq, Nat.reduceAdd, Nat.reduceEqDiff, Nat.reduceLeDiff, Nat.reduceSub, reduceIte, Int.reduceBEq, Int.reduceEq, Int.reduceLT, Int.reduceLE, Int.reduceGT, Int.reduceGE, Int.reduceNe, Int.reduceBNe, s_impl_ValOk, TVal.row, h4, hn, valOk, hT, C_impl_in_eq]
    · simp only [go_sem, kSt_ptr, Nat.reduceBEq, Nat.reduceAdd, Nat.reduceEqDiff, Nat.reduceLeDiff, Nat.reduceSub, reduceIte, Int.reduceBEq, Int.reduceEq, Int.reduceLT, Int.reduceLE, Int.reduceGT, Int.reduceGE, Int.reduceNe, Int.reduceBNe, s_impl_ValOk, TVal.row, h4, hn, valOk, hT, C_impl_in_eq]
  simp only [go_sem, kSt_ptr, Nat.reduceBEq, Nat.reduceAdd, Nat.reduceEqDiff, Nat.reduceLeDiff, Nat.reduceSub, reduceIte, Int.reduceBEq, Int.reduceEq, Int.reduceLT, Int.reduceLE, Int.reduceGT, Int.reduceGE, Int.reduceNe, Int.reduceBNe, s_impl_ValOk, TVal.row, h0, h1, h2, h3, h4, beqF h0, beqF h1, beqF h2, beqF h3, beqF h4, valOk, hT, C_impl_in_eq]
noncomputable def C_impl_ValOk := ct (fun a : TVal => [.agg a.row]) (fun _ => True) .bool valOk
theorem C_impl_ValOk_eq (k n : Int) (s : List UInt8) : C_impl_ValOk [.agg [.int .i64 k, .int .i64 n, .str s]] = some (.bool (valOk ⟨k, n, s⟩)) := by
  unfold C_impl_ValOk
  exact ct_eq (a := (⟨k, n, s⟩ : TVal)) (fun a b h => by
    simp only [List.cons.injEq, AV.agg.injEq, and_true] at h
    exact TVal.inj _ _ h) trivial
theorem ok_impl_ValOk {WI} (hs : Stable WI) (cs) (hT : TOK (EE cs) WI) (h : (EE cs).T 44 = some C_impl_in) : PureOK Tryd.prog WI 56 C_impl_ValOk := pure_out hT hs (by rw [st_impl_ValOk]; rfl) fun a _ => ev_impl_ValOk cs h a
noncomputable def C_strconv_Itoa := ct (fun a : Int => [.int .i64 a]) (fun a => -9223372036854775808 ≤ a ∧ a ≤ 9223372036854775807) .str Lib.itoa
theorem C_strconv_Itoa_eq (n : Int) (hn : -9223372036854775808 ≤ n ∧ n ≤ 9223372036854775807) : C_strconv_Itoa [.int .i64 n] = some (.str (Lib.itoa n)) := by
  unfold C_strconv_Itoa
  exact ct_eq (a := n) (fun a b h => by simpa using h) hn
theorem L_impl_ValText (cs) (kk nn : Int) (s : List UInt8) (hs : s.length ≤ 9223372036854775807) : ∀ (rest pre : List UInt8) (e : Ps) (h : Hp), s = pre ++ rest → h.hp 0 = some [.int .i64 kk, .int .i64 nn, .str s] → e 1 = .ptr 0 0 → e 3 = .int .i64 pre.length →
    WL (EE cs) s_impl_ValText_L0 e h fun x e' h' => h' = h ∧ if rest.all plainB = true then x = .exit 1 ∧ e' 1 = .ptr 0 0 else x = .ret ∧ e' 2 = .str []
  | [], pre, e, h, hl, hh, h1, h3 => by
    refine .step (.sim ?_)
    simp only [go_sem, kSt_ptr, Nat.reduceBEq, Nat.reduceAdd, Nat.reduceEqDiff, Nat.reduceLeDiff, Nat.reduceSub, reduceIte, Int.reduceBEq, Int.reduceEq, Int.reduceLT, Int.reduceLE, Int.reduceGT, Int.reduceGE, Int.reduceNe, Int.reduceBNe, s_impl_ValText_L0, hh, h1, h3, lt_end hl, List.all_nil]
  | b :: rest, pre, e, h, hl, hh, h1, h3 => by
    have hlt : pre.length < s.length := by rw [hl]; simp
    have hw : IntKind.wrap .i64 ((pre.length : Int) + 1) = (pre.length : Int) + 1 := wrapId (by omega) (by omega)
    have out : ∀ hp : plainB b = false, ∀ (Q : QS), (∀ e', e' 2 = .str [] → Q .ret e' h) → W (EE cs) s_impl_ValText_L0 e h Q := by
      intro hp Q hQ
      refine .mono (.sim (Q := fun x e1 h1 => x = .ret ∧ h1 = h ∧ e1 2 = .str []) ?_) ?_
      · by_cases c1 : (b.toNat : Int) < 32
        · simp only [go_sem, kSt_ptr, Nat.reduceBEq, Nat.reduceAdd, Nat.reduceEqDiff, Nat.reduceLeDiff, Nat.reduceSub, reduceIte, Int.reduceBEq, Int.reduceEq, Int.reduceLT, Int.reduceLE, Int.reduceGT, Int.reduceGE, Int.reduceNe, Int.reduceBNe, s_impl_ValText_L0, hh, h1, h3, lt_map hl, kIx_at hl, c1]
        by_cases c2 : (126 : Int) < b.toNat
        · simp only [go_sem, kSt_ptr, Nat.reduceBEq, Nat.reduceAdd, Nat.reduceEqDiff, Nat.reduceLeDiff, Nat.reduceSub, reduceIte, Int.reduceBEq, Int.reduceEq, Int.reduceLT, Int.reduceLE, Int.reduceGT, Int.reduceGE, Int.reduceNe, Int.reduceBNe, s_impl_ValText_L0, hh, h1, h3, lt_map hl, kIx_at hl, c1, c2]
        by_cases hb : (b.toNat : Int) = 39
        · have hbe : ((b.toNat : Int) == 39) = true := by simpa using hb
          simp only [go_sem, kSt_ptr, Nat.reduceBEq, Nat.reduceAdd, Nat.reduceEqDiff, Nat.reduceLeDiff, Nat.reduceSub, reduceIte, Int.reduceBEq, Int.reduceEq, Int.reduceLT, Int.reduceLE, Int.reduceGT, Int.reduceGE, Int.reduceNe, Int.reduceBNe, s_impl_ValText_L0, hh, h1, h3, lt_map hl, kIx_at hl, c1, c2, hbe]
        · exact absurd hp (by simp only [plainB, inR, beqF hb]; simp; omega)
      · rintro _ e1 _ ⟨rfl, rfl, h2⟩
        exact hQ e1 h2
    cases hp : plainB b
    · refine .step (out hp _ fun e' h2 => ?_)
      simp [hp, h2]
    · have hp' := hp
      simp only [plainB, inR, Bool.and_eq_true, Bool.not_eq_true', decide_eq_true_eq] at hp
      have c1 : ¬ (b.toNat : Int) < 32 := by omega
      have c2 : ¬ (126 : Int) < b.toNat := by omega
      refine .step (.mono (.sim (Q := fun x e1 h1 => x = .norm ∧ h1 = h ∧ e1 1 = .ptr 0 0 ∧ e1 3 = .int .i64 ((pre.length : Int) + 1)) ?_) ?_)
      · simp only [go_sem, kSt_ptr, Nat.reduceBEq, Nat.reduceAdd, Nat.reduceEqDiff, Nat.reduceLeDiff, Nat.reduceSub, reduceIte, Int.reduceBEq, Int.reduceEq, Int.reduceLT, Int.reduceLE, Int.reduceGT, Int.reduceGE, Int.reduceNe, Int.reduceBNe, s_impl_ValText_L0, hh, h1, h3, lt_map hl, kIx_at hl, c1, c2, hp.2, hw]
      · rintro _ e1 _ ⟨rfl, rfl, he1, he3⟩
        refine (L_impl_ValText cs kk nn s hs rest (pre ++ [b]) e1 _ (by rw [hl]; simp) hh he1 (by rw [he3]; simp)).mono ?_
        simp only [List.all_cons, hp', Bool.true_and]
        exact fun _ _ _ h => h
theorem ev_impl_ValText (cs) (hT56 : (EE cs).T 56 = some C_impl_ValOk) (hT57 : (EE cs).T 57 = some C_strconv_Itoa) (v : TVal) (hs : v.fS.length ≤ 9223372036854775807) : ∃ k n, out (EE cs) k n 33 [.agg v.row] = some (.str (valText v)) := by
  refine out_W (n := 0) (st_impl_ValText cs) ?_
  obtain ⟨k, n, s⟩ := v
  cases hv : valOk ⟨k, n, s⟩
  · refine .sim ?_
    simp only [go_sem, kSt_ptr, Nat.reduceBEq, Nat.reduceAdd, Nat.reduceEqDiff, Nat.reduceLeDiff, Nat.reduceSub, reduceIte, Int.reduceBEq, Int.reduceEq, Int.reduceLT, Int.reduceLE, Int.reduceGT, Int.reduceGE, Int.reduceNe, Int.reduceBNe, s_impl_ValText, TVal.row, hT56, C_impl_ValOk_eq, hv, valText, true_or]
  by_cases h3 : k = 3
  · subst h3
    have hl := valOk_len hv rfl
    simp only at hl
    have hc : ∀ h, kBin .add (.str [39]) (.str s) h = some (.str (39 :: s), h) := fun h => kCat (by simp; omega)
    have hc2 : ∀ h, kBin .add (.str (39 :: s)) (.str [39]) h = some (.str (39 :: (s ++ [39])), h) := fun h => kCat (by simp; omega)
    show W _ (.seq _ (.seq _ (.seq _ (.seq (.seq _ (.blk 1 (.loop s_impl_ValText_L0))) _)))) _ _ _
    refine .re (.re (.cut (M := fun e1 h1 => h1.hp 0 = some [.int .i64 3, .int .i64 n, .str s] ∧ e1 1 = .ptr 0 0) (.sim (by simp only [go_sem, kSt_ptr, Nat.reduceBEq, Nat.reduceAdd, Nat.reduceEqDiff, Nat.reduceLeDiff, Nat.reduceSub, reduceIte, Int.reduceBEq, Int.reduceEq, Int.reduceLT, Int.reduceLE, Int.reduceGT, Int.reduceGE, Int.reduceNe, Int.reduceBNe, TVal.row, hT56, C_impl_ValOk_eq, hv])) ?_))
    rintro e1 h1 ⟨hh, k1⟩
    refine .seq (.cut (M := fun e2 h2 => h2.hp 0 = some [.int .i64 3, .int .i64 n, .str s] ∧ e2 1 = .ptr 0 0 ∧ e2 3 = .int .i64 0) (.sim (by simp only [go_sem, kSt_ptr, Nat.reduceBEq, Nat.reduceAdd, Nat.reduceEqDiff, Nat.reduceLeDiff, Nat.reduceSub, reduceIte, Int.reduceBEq, Int.reduceEq, Int.reduceLT, Int.reduceLE, Int.reduceGT, Int.reduceGE, Int.reduceNe, Int.reduceBNe, k1, hh])) ?_)
    rintro e2 h2 ⟨hh, k1, k3⟩
    refine .blk (.loop ((L_impl_ValText cs 3 n s hs s [] e2 h2 rfl hh k1 k3).mono ?_))
    rintro x e' h' ⟨rfl, j2⟩
    split at j2
    · rename_i hz
      obtain ⟨rfl, j3⟩ := j2
      rw [outOf_exit]
      refine .sim ?_
      simp only [go_sem, kSt_ptr, Nat.reduceBEq, Nat.reduceAdd, Nat.reduceEqDiff, Nat.reduceLeDiff, Nat.reduceSub, reduceIte, Int.reduceBEq, Int.reduceEq, Int.reduceLT, Int.reduceLE, Int.reduceGT, Int.reduceGE, Int.reduceNe, Int.reduceBNe, s_impl_ValText, hh, j3, hc, hc2, hv, hz, valText, Bool.true_eq_false, or_self]
    · rename_i hz
      have hz' : s.all plainB = false := by simpa using hz
      obtain ⟨rfl, j3⟩ := j2
      simp only [go_sem, kSt_ptr, Nat.reduceBEq, Nat.reduceAdd, Nat.reduceEqDiff, Nat.reduceLeDiff, Nat.reduceSub, reduceIte, Int.reduceBEq, Int.reduceEq, Int.reduceLT, Int.reduceLE, Int.reduceGT, Int.reduceGE, Int.reduceNe, Int.reduceBNe, s_impl_ValText, j3, hz', valText, or_true]
  have hs0 := valOk_str hv h3
  simp only at hs0
  subst hs0
  refine .sim ?_
  by_cases h0 : k = 0
  · subst h0
    simp only [go_sem, kSt_ptr, Nat.reduceBEq, Nat.reduceAdd, Nat.reduceEqDiff, Nat.reduceLeDiff, Nat.reduceSub, reduceIte, Int.reduceBEq, Int.reduceEq, Int.reduceLT, Int.reduceLE, Int.reduceGT, Int.reduceGE, Int.reduceNe, Int.reduceBNe, s_impl_ValText, TVal.row, hT56, C_impl_ValOk_eq, hv, valText, Bool.true_eq_false, or_self, List.all_nil]
  by_cases h1 : k = 1
  · subst h1
    have hr := valOk_rng hv (.inl rfl)
    simp only at hr
    have c57 := C_strconv_Itoa_eq n (by omega)
    have hl := Lib.itoa_length_le n (by omega) (by omega)
    have hc : ∀ h, kBin .add (.str [105]) (.str (Lib.itoa n)) h = some (.str (105 :: Lib.itoa n), h) := fun h => kCat (by simp; omega)
    simp only [go_sem, kSt_ptr, Nat.reduceBEq, Nat.reduceAdd, Nat.reduceEqDiff, Nat.reduceLeDiff, Nat.reduceSub, reduceIte, Int.reduceBEq, Int.reduceEq, Int.reduceLT, Int.reduceLE, Int.reduceGT, Int.reduceGE, Int.reduceNe, Int.reduceBNe, s_impl_ValText, TVal.row, hT56, hT57, C_impl_ValOk_eq, c57, hv, hc, valText, Bool.true_eq_false, or_self, List.all_nil]
  by_cases h2 : k = 2
  · subst h2
    have hr := valOk_rng hv (.inr rfl)
    simp only at hr
    have c57 := C_strconv_Itoa_eq n (by omega)
    have hl := Lib.itoa_length_le n (by omega) (by omega)
    have hc : ∀ h, kBin .add (.str [110]) (.str (Lib.itoa n)) h = some (.str (110 :: Lib.itoa n), h) := fun h => kCat (by simp; omega)
    simp only [go_sem, kSt_ptr, Nat.reduceBEq, Nat.reduceAdd, Nat.reduceEqDiff, Nat.reduceLeDiff, Nat.reduceSub, reduceIte, Int.reduceBEq, Int.reduceEq, Int.reduceLT, Int.reduceLE, Int.reduceGT, Int.reduceGE, Int.reduceNe, Int.reduceBNe, s_impl_ValText, TVal.row, hT56, hT57, C_impl_ValOk_eq, c57, hv, hc, valText, Bool.true_eq_false, or_self, List.all_nil]
  by_cases h4 : k = 4
  · subst h4
    by_cases hn : n = 1
    · subst hn
      simp only [go_sem, kSt_ptr, Nat.reduceBEq, Nat.reduceAdd, Nat.reduceEqDiff, Nat.reduceLeDiff, Nat.reduceSub, reduceIte, Int.reduceBEq, Int.reduceEq, Int.reduceLT, Int.reduceLE, Int.reduceGT, Int.reduceGE, Int.reduceNe, Int.reduceBNe, s_impl_ValText, TVal.row, hT56, hT57, C_impl_ValOk_eq, hv, valText, Bool.true_eq_false, or_self, List.all_nil]
    · simp only [go_sem, kSt_ptr, Nat.reduceBEq, Nat.reduceAdd, Nat.reduceEqDiff, Nat.reduceLeDiff, Nat.reduceSub, reduceIte, Int.reduceBEq, Int.reduceEq, Int.reduceLT, Int.reduceLE, Int.reduceGT, Int.reduceGE, Int.reduceNe, Int.reduceBNe, s_impl_ValText, TVal.row, hT56, hT57, C_impl_ValOk_eq, hv, hn, beqF hn, valText, Bool.true_eq_false, or_self, List.all_nil]
  · simp [valOk, h0, h1, h2, h3, h4] at hv
noncomputable def C_impl_ValText := ct (fun a : TVal => [.agg a.row]) (fun a => a.fS.length ≤ 9223372036854775807) .str valText
theorem C_impl_ValText_eq (k n : Int) (s : List UInt8) (hs : s.length ≤ 9223372036854775807) : C_impl_ValText [.agg [.int .i64 k, .int .i64 n, .str s]] = some (.str (valText ⟨k, n, s⟩)) := by
  unfold C_impl_ValText
  exact ct_eq (a := (⟨k, n, s⟩ : TVal)) (fun a b h => by
    simp only [List.cons.injEq, AV.agg.injEq, and_true] at h
    exact TVal.inj _ _ h) hs
theorem ok_impl_ValText {WI} (hs : Stable WI) (cs) (hT : TOK (EE cs) WI) (h56 : (EE cs).T 56 = some C_impl_ValOk) (h57 : (EE cs).T 57 = some C_strconv_Itoa) : PureOK Tryd.prog WI 33 C_impl_ValText := pure_out hT hs (by rw [st_impl_ValText]; rfl) fun a h1 => ev_impl_ValText cs h56 h57 a h1
end Go.Proofs.YtgjdkcjijmdfoaaDoor.Rs
/- What the functions that FnExactRowsText calls answer: part 4. -/
namespace Go.Proofs.YtgjdkcjijmdfoaaDoor.Rs
open Go Go.RowKit Go.Ev
set_option linter.unusedSimpArgs false
noncomputable def C_strings_Contains := ct (fun a : List UInt8 => [.str a, .str [32]]) (fun _ => True) .bool blank
theorem C_strings_Contains_eq (s : List UInt8) : C_strings_Contains [.str s, .str [32]] = some (.bool (blank s)) := by
  unfold C_strings_Contains
  exact ct_eq (a := s) (fun a b h => by simpa using h) trivial
noncomputable def C_strings_Join := ct (fun a : List (List UInt8) => [.imm (a.map strRow), .str [32]]) (fun a => a.length ≤ 1048576 ∧ (Lib.join a [32]).length ≤ 140737488355328) .str fun a => Lib.join a [32]
theorem C_strings_Join_eq (a : List (List UInt8)) (h : a.length ≤ 1048576 ∧ (Lib.join a [32]).length ≤ 140737488355328) : C_strings_Join [.imm (a.map strRow), .str [32]] = some (.str (Lib.join a [32])) := by
  unfold C_strings_Join
  exact ct_eq (a := a) (fun a b h => by
    simp only [List.cons.injEq, AV.imm.injEq, and_true] at h
    exact strRows_inj h) h
theorem L_impl_RowText (cs) (hT33 : (EE cs).T 33 = some C_impl_ValText) (hT34 : (EE cs).T 34 = some C_strings_Contains) (l : List TVal) (hlen : l.length ≤ 1048576) (hs : ∀ v ∈ l, v.fS.length ≤ 9223372036854775807) : ∀ (rest pre : List TVal) (ts : List (List UInt8)) (e : Ps) (h : Hp), l = pre ++ rest → ts.length = pre.length → e 7 = .imm (l.map TVal.row) → e 8 = .int .i64 l.length → e 9 = .int .i64 pre.length → txt ts (e 3) h →
    WL (EE cs) s_impl_RowText_L0 e h fun x e' h' => match rowTs rest with
      | none => x = .ret ∧ e' 2 = .str []
      | some tl => x = .exit 0 ∧ txt (ts ++ tl) (e' 3) h'
  | [], pre, ts, e, h, hl, htl, h7, h8, h9, ht => by
    refine .step (.sim ?_)
    simp only [go_sem, kSt_ptr, Nat.reduceBEq, Nat.reduceAdd, Nat.reduceEqDiff, Nat.reduceLeDiff, Nat.reduceSub, reduceIte, Int.reduceBEq, Int.reduceEq, Int.reduceLT, Int.reduceLE, Int.reduceGT, Int.reduceGE, Int.reduceNe, Int.reduceBNe, s_impl_RowText_L0, h7, h8, h9, lt_end hl, rowTs, ht]
  | v :: rest, pre, ts, e, h, hl, htl, h7, h8, h9, ht => by
    have hv : v.fS.length ≤ 9223372036854775807 := hs v (by rw [hl]; simp)
    have hlt : pre.length < l.length := by rw [hl]; simp
    have hw : IntKind.wrap .i64 ((pre.length : Int) + 1) = (pre.length : Int) + 1 := wrapId (by omega) (by omega)
    have c30 := C_impl_ValText_eq v.fK v.fN v.fS hv
    by_cases hte : valText v = []
    · have hte' : valText ⟨v.fK, v.fN, v.fS⟩ = [] := hte
      refine .step (.sim ?_)
      simp only [go_sem, kSt_ptr, Nat.reduceBEq, Nat.reduceAdd, Nat.reduceEqDiff, Nat.reduceLeDiff, Nat.reduceSub, reduceIte, Int.reduceBEq, Int.reduceEq, Int.reduceLT, Int.reduceLE, Int.reduceGT, Int.reduceGE, Int.reduceNe, Int.reduceBNe, s_impl_RowText_L0, h7, h8, h9, lt_map hl, kIa_map (row := TVal.row) (sz := 3) hl rfl, TVal.row, hT33, c30, hte, hte', rowTs, true_or]
    have hq : valText ⟨v.fK, v.fN, v.fS⟩ = valText v := rfl
    cases hb : blank (valText v)
    case true =>
      refine .step (.sim ?_)
      simp only [go_sem, kSt_ptr, Nat.reduceBEq, Nat.reduceAdd, Nat.reduceEqDiff, Nat.reduceLeDiff, Nat.reduceSub, reduceIte, Int.reduceBEq, Int.reduceEq, Int.reduceLT, Int.reduceLE, Int.reduceGT, Int.reduceGE, Int.reduceNe, Int.reduceBNe, s_impl_RowText_L0, h7, h8, h9, lt_map hl, kIa_map (row := TVal.row) (sz := 3) hl rfl, TVal.row, hT33, hT34, c30, hq, C_strings_Contains_eq, beqF hte, hte, hb, rowTs, or_true]
    have f1 : fillR (List.replicate 1 [.str []]) 1 [(0, .str (valText v))] = some [[.str (valText v)]] := rfl
    have f2 : frzRows [[.str (valText v)]] = some [[.str (valText v)]] := rfl
    have next : W (EE cs) s_impl_RowText_L0 e h fun x e1 h1 => x = .norm ∧ e1 7 = .imm (l.map TVal.row) ∧ e1 8 = .int .i64 l.length ∧ e1 9 = .int .i64 ((pre.length : Int) + 1) ∧ txt (ts ++ [valText v]) (e1 3) h1 := by
      rcases ht with ⟨rfl, h3⟩ | ⟨id, h3, hap, hnx⟩
      · have ap : ∀ id h, sApp false 16 1 .snil (.app id [[.str (valText v)]]) h = some (.app h.nx [[.str (valText v)]], h.newApp 1 1) := fun id h => sApp_snil rfl rfl (by decide)
        refine .sim ?_
        simp only [go_sem, kSt_ptr, Nat.reduceBEq, Nat.reduceAdd, Nat.reduceEqDiff, Nat.reduceLeDiff, Nat.reduceSub, reduceIte, Int.reduceBEq, Int.reduceEq, Int.reduceLT, Int.reduceLE, Int.reduceGT, Int.reduceGE, Int.reduceNe, Int.reduceBNe, s_impl_RowText_L0, h7, h8, h9, h3, lt_map hl, kIa_map (row := TVal.row) (sz := 3) hl rfl, TVal.row, hT33, hT34, c30, hq, C_strings_Contains_eq, beqF hte, hte, hb, hw, f1, f2, ap]
        exact .inr ⟨_, rfl, by simp, by simp⟩
      · have ap : ∀ id' (H : Hp), H.ap id = some (ts.length, 1) → sApp false 16 1 (.app id (ts.map strRow)) (.app id' [[.str (valText v)]]) H = some (.app id (ts.map strRow ++ [[.str (valText v)]]), H.setApp id (ts.length + 1) 1) := fun id' H hH => by
          have := sApp_app (bt := 16) (sz := 1) (id := id) (id' := id') (rows := ts.map strRow) (row := [.str (valText v)]) (row' := [.str (valText v)]) (h := H) (by rw [List.length_map]; exact hH) rfl rfl (by rw [List.length_map, htl]; unfold room; omega)
          rw [List.length_map] at this
          exact this
        have hne : ¬ id = h.nx + 1 := by omega
        refine .sim ?_
        simp only [go_sem, kSt_ptr, Nat.reduceBEq, Nat.reduceAdd, Nat.reduceEqDiff, Nat.reduceLeDiff, Nat.reduceSub, reduceIte, Int.reduceBEq, Int.reduceEq, Int.reduceLT, Int.reduceLE, Int.reduceGT, Int.reduceGE, Int.reduceNe, Int.reduceBNe, s_impl_RowText_L0, h7, h8, h9, h3, lt_map hl, kIa_map (row := TVal.row) (sz := 3) hl rfl, TVal.row, hT33, hT34, c30, hq, C_strings_Contains_eq, beqF hte, hte, hb, hw, f1, f2, ap, hap, hne]
        exact .inr ⟨id, by simp [strRow], by simp, by simp; omega⟩
    refine .step (next.mono ?_)
    rintro _ e1 h1 ⟨rfl, k7, k8, k9, kt⟩
    refine (L_impl_RowText cs hT33 hT34 l hlen hs rest (pre ++ [v]) (ts ++ [valText v]) e1 h1 (by rw [hl]; simp) (by simp [htl]) k7 k8 (by rw [k9]; simp) kt).mono ?_
    intro x e' h' hx
    simp only [rowTs, hte, hb, Bool.false_eq_true, or_self, if_false]
    cases hr : rowTs rest with
    | none => rw [hr] at hx; exact hx
    | some tl =>
      rw [hr] at hx
      simp only [Option.map_some]
      exact ⟨hx.1, by have := hx.2; rwa [List.append_assoc] at this⟩
theorem ev_impl_RowText (cs) (hT33 : (EE cs).T 33 = some C_impl_ValText) (hT34 : (EE cs).T 34 = some C_strings_Contains) (hT35 : (EE cs).T 35 = some C_strings_Join) (l : List TVal) (hlen : l.length ≤ 1048576) (hs : ∀ v ∈ l, v.fS.length ≤ 9223372036854775807) : ∃ k n, out (EE cs) k n 10 [.imm (l.map TVal.row)] = some (.str (rowImpl l)) := by
  refine out_W (n := 0) (st_impl_RowText cs) ?_
  show W _ (.seq _ (.seq _ (.seq (.seq _ (.blk 0 (.loop s_impl_RowText_L0))) _))) _ _ _
  refine .re (.cut (M := fun e1 h1 => e1 0 = .imm (l.map TVal.row) ∧ e1 3 = .snil) (.sim (by simp only [go_sem, kSt_ptr, Nat.reduceBEq, Nat.reduceAdd, Nat.reduceEqDiff, Nat.reduceLeDiff, Nat.reduceSub, reduceIte, Int.reduceBEq, Int.reduceEq, Int.reduceLT, Int.reduceLE, Int.reduceGT, Int.reduceGE, Int.reduceNe, Int.reduceBNe])) ?_)
  rintro e1 h1 ⟨k0, k3⟩
  refine .seq (.cut (M := fun e2 h2 => e2 7 = .imm (l.map TVal.row) ∧ e2 8 = .int .i64 l.length ∧ e2 9 = .int .i64 0 ∧ e2 3 = .snil) (.sim (by simp only [go_sem, kSt_ptr, Nat.reduceBEq, Nat.reduceAdd, Nat.reduceEqDiff, Nat.reduceLeDiff, Nat.reduceSub, reduceIte, Int.reduceBEq, Int.reduceEq, Int.reduceLT, Int.reduceLE, Int.reduceGT, Int.reduceGE, Int.reduceNe, Int.reduceBNe, k0, k3])) ?_)
  rintro e2 h2 ⟨k7, k8, k9, k3⟩
  refine .blk (.loop ((L_impl_RowText cs hT33 hT34 l hlen hs l [] [] e2 h2 rfl rfl k7 k8 k9 (.inl ⟨rfl, k3⟩)).mono ?_))
  intro x e' h' hx
  cases hr : rowTs l with
  | none =>
    rw [hr] at hx
    obtain ⟨rfl, j2⟩ := hx
    simp only [go_sem, kSt_ptr, Nat.reduceBEq, Nat.reduceAdd, Nat.reduceEqDiff, Nat.reduceLeDiff, Nat.reduceSub, reduceIte, Int.reduceBEq, Int.reduceEq, Int.reduceLT, Int.reduceLE, Int.reduceGT, Int.reduceGE, Int.reduceNe, Int.reduceBNe, s_impl_RowText, j2, rowImpl, hr]
  | some ts =>
    rw [hr] at hx
    obtain ⟨rfl, j2⟩ := hx
    obtain ⟨n1, n2⟩ := rowTs_len hr
    have jl := join_len n2
    have c35 := C_strings_Join_eq ts ⟨by omega, by omega⟩
    rw [outOf_exit]
    refine .sim ?_
    rcases j2 with ⟨ht, j3⟩ | ⟨id, j3, _⟩
    · simp only [List.nil_append] at ht
      subst ht
      have c35' : C_strings_Join [.imm [], .str [32]] = some (.str (Lib.join [] [32])) := c35
      simp only [go_sem, kSt_ptr, Nat.reduceBEq, Nat.reduceAdd, Nat.reduceEqDiff, Nat.reduceLeDiff, Nat.reduceSub, reduceIte, Int.reduceBEq, Int.reduceEq, Int.reduceLT, Int.reduceLE, Int.reduceGT, Int.reduceGE, Int.reduceNe, Int.reduceBNe, s_impl_RowText, j3, hT35, c35', rowImpl, hr]
    · simp only [List.nil_append] at j3
      simp only [go_sem, kSt_ptr, Nat.reduceBEq, Nat.reduceAdd, Nat.reduceEqDiff, Nat.reduceLeDiff, Nat.reduceSub, reduceIte, Int.reduceBEq, Int.reduceEq, Int.reduceLT, Int.reduceLE, Int.reduceGT, Int.reduceGE, Int.reduceNe, Int.reduceBNe, s_impl_RowText, j3, hT35, c35, rowImpl, hr]
noncomputable def C_impl_RowText := c1 (sliceT tVal) (fun a => (sliceT tVal).good a) .str rowImpl
theorem C_impl_RowText_eq (a : List TVal) (h : (sliceT tVal).good a) : C_impl_RowText [.imm (a.map TVal.row)] = some (.str (rowImpl a)) := c1_eq (sliceT tVal) h
theorem ok_impl_RowText {WI} (hs : Stable WI) (cs) (hT : TOK (EE cs) WI) (h33 : (EE cs).T 33 = some C_impl_ValText) (h34 : (EE cs).T 34 = some C_strings_Contains) (h35 : (EE cs).T 35 = some C_strings_Join) : PureOK Tryd.prog WI 10 C_impl_RowText := pure1 hT hs (by rw [st_impl_RowText]; rfl) fun a h => ev_impl_RowText cs h33 h34 h35 a (valsLen h).1 (valsLen h).2
theorem L_impl_RowsText (cs) (hT : (EE cs).T 10 = some C_impl_RowText) (l : List (List TVal)) (hg : (sliceT (sliceT tVal)).good l) : ∀ (rest pre : List (List TVal)) (e : Ps) (h : Hp), l = pre ++ rest → e 6 = .imm (l.map (sliceT tVal).row) → e 7 = .int .i64 l.length → e 8 = .int .i64 pre.length → e 3 = .str (rowsText pre) →
    WL (EE cs) s_impl_RowsText_L0 e h fun x e' h' => x = .exit 0 ∧ e' 3 = .str (rowsText l)
  | [], pre, e, h, hl, h6, h7, h8, h3 => by
    have hp : l = pre := by rw [hl]; simp
    subst hp
    have hlt : decide ((l.length : Int) < (l.length : Int)) = false := by simp
    refine .step (.sim ?_)
    simp only [go_sem, kSt_ptr, Nat.reduceBEq, Nat.reduceAdd, Nat.reduceEqDiff, Nat.reduceLeDiff, Nat.reduceSub, reduceIte, Int.reduceBEq, Int.reduceEq, Int.reduceLT, Int.reduceLE, Int.reduceGT, Int.reduceGE, Int.reduceNe, Int.reduceBNe, s_impl_RowsText_L0, h6, h7, h8, h3, hlt]
  | r :: rest, pre, e, h, hl, h6, h7, h8, h3 => by
    obtain ⟨g1, g2, g3⟩ := rowsGood hg
    have hlt : pre.length < l.length := by rw [hl]; simp
    have hw : IntKind.wrap .i64 ((pre.length : Int) + 1) = (pre.length : Int) + 1 := wrapId (by omega) (by omega)
    have hc := C_impl_RowText_eq r (g2 r (by rw [hl]; simp))
    have hl3 := g3 pre r rest hl
    rw [rowsText_snoc] at hl3
    simp only [List.length_append, List.length_cons, List.length_nil] at hl3
    have c1 : ∀ h, kBin .add (.str (rowImpl r)) (.str [10]) h = some (.str (rowImpl r ++ [10]), h) := fun h => kCat (by simp only [List.length_cons, List.length_nil]; omega)
    have c2 : ∀ h, kBin .add (.str (rowsText pre)) (.str (rowImpl r ++ [10])) h = some (.str (rowsText pre ++ (rowImpl r ++ [10])), h) := fun h => kCat (by simp only [List.length_append, List.length_cons, List.length_nil]; omega)
    refine .step (.mono (.sim (Q := fun x e1 h1 => x = .norm ∧ e1 6 = .imm (l.map (sliceT tVal).row) ∧ e1 7 = .int .i64 l.length ∧ e1 8 = .int .i64 ((pre.length : Int) + 1) ∧ e1 3 = .str (rowsText pre ++ (rowImpl r ++ [10]))) ?_) ?_)
    · simp only [go_sem, kSt_ptr, Nat.reduceBEq, Nat.reduceAdd, Nat.reduceEqDiff, Nat.reduceLeDiff, Nat.reduceSub, reduceIte, Int.reduceBEq, Int.reduceEq, Int.reduceLT, Int.reduceLE, Int.reduceGT, Int.reduceGE, Int.reduceNe, Int.reduceBNe, s_impl_RowsText_L0, h6, h7, h8, h3, lt_map hl, kIa_map (row := (sliceT tVal).row) (sz := 1) hl rfl, tVal_row, hT, hc, c1, c2, hw]
    · rintro _ e1 h1 ⟨rfl, k6, k7, k8, k3⟩
      exact L_impl_RowsText cs hT l hg rest (pre ++ [r]) e1 h1 (by rw [hl]; simp) k6 k7 (by rw [k8]; simp) (by rw [k3, rowsText_snoc])
theorem ev_impl_RowsText (cs) (hT : (EE cs).T 10 = some C_impl_RowText) (l : List (List TVal)) (hg : (sliceT (sliceT tVal)).good l) : ∃ k n, out (EE cs) k n 15 [.imm (l.map (sliceT tVal).row)] = some (.str (rowsText l)) := by
  refine out_W (n := 0) (st_impl_RowsText cs) ?_
  show W _ (.seq _ (.seq _ (.seq (.seq _ (.blk 0 (.loop s_impl_RowsText_L0))) _))) _ _ _
  refine .re (.cut (M := fun e1 h1 => e1 0 = .imm (l.map (sliceT tVal).row) ∧ e1 3 = .str []) (.sim (by simp only [go_sem, kSt_ptr, Nat.reduceBEq, Nat.reduceAdd, Nat.reduceEqDiff, Nat.reduceLeDiff, Nat.reduceSub, reduceIte, Int.reduceBEq, Int.reduceEq, Int.reduceLT, Int.reduceLE, Int.reduceGT, Int.reduceGE, Int.reduceNe, Int.reduceBNe])) ?_)
  rintro e1 h1 ⟨k0, k3⟩
  refine .seq (.cut (M := fun e2 h2 => e2 6 = .imm (l.map (sliceT tVal).row) ∧ e2 7 = .int .i64 l.length ∧ e2 3 = .str [] ∧ e2 8 = .int .i64 0) (.sim (by simp only [go_sem, kSt_ptr, Nat.reduceBEq, Nat.reduceAdd, Nat.reduceEqDiff, Nat.reduceLeDiff, Nat.reduceSub, reduceIte, Int.reduceBEq, Int.reduceEq, Int.reduceLT, Int.reduceLE, Int.reduceGT, Int.reduceGE, Int.reduceNe, Int.reduceBNe, k0, k3])) ?_)
  rintro e2 h2 ⟨k6, k7, k3, k8⟩
  refine .blk (.loop ((L_impl_RowsText cs hT l hg l [] e2 h2 rfl k6 k7 k8 k3).mono ?_))
  rintro x e' h' ⟨rfl, j3⟩
  rw [outOf_exit]
  refine .sim ?_
  simp only [go_sem, kSt_ptr, Nat.reduceBEq, Nat.reduceAdd, Nat.reduceEqDiff, Nat.reduceLeDiff, Nat.reduceSub, reduceIte, Int.reduceBEq, Int.reduceEq, Int.reduceLT, Int.reduceLE, Int.reduceGT, Int.reduceGE, Int.reduceNe, Int.reduceBNe, s_impl_RowsText, j3]
noncomputable def C_impl_RowsText := c1 (sliceT (sliceT tVal)) (sliceT (sliceT tVal)).good .str rowsText
theorem C_impl_RowsText_eq (l : List (List TVal)) (h : (sliceT (sliceT tVal)).good l) : C_impl_RowsText [.imm (l.map (sliceT tVal).row)] = some (.str (rowsText l)) := c1_eq (sliceT (sliceT tVal)) h
theorem ok_impl_RowsText {WI} (hs : Stable WI) (cs) (hT : TOK (EE cs) WI) (h1 : (EE cs).T 10 = some C_impl_RowText) : PureOK Tryd.prog WI 15 C_impl_RowsText :=
  pure1 (E := EE cs) hT hs (by rw [st_impl_RowsText]; rfl) fun l h => ev_impl_RowsText cs h1 l h
theorem ok_laws_eqVal {WI : World → Prop} (hs : Stable WI) (cs) (hT : TOK (EE cs) WI)  : PureOK Tryd.prog WI 36 (eqC tVal) := by
  refine pureEq (E := EE cs) hT hs (by rw [st_laws_eqVal]; rfl) fun v hc => out_K (n := 0) (st_laws_eqVal cs) ?_
  have hcost : tVal.cost v = v.fS.length := rfl
  simp only [go_sem, kSt_ptr, Nat.reduceBEq, Nat.reduceAdd, Nat.reduceEqDiff, Nat.reduceLeDiff, Nat.reduceSub, reduceIte, Int.reduceBEq, Int.reduceEq, Int.reduceLT, Int.reduceLE, Int.reduceGT, Int.reduceGE, Int.reduceNe, Int.reduceBNe, s_laws_eqVal, TVal.row]
theorem ok_laws_eqValS {WI : World → Prop} (hs : Stable WI) (cs) (hT : TOK (EE cs) WI) (h0 : (EE cs).T 36 = some (eqC tVal)) : PureOK Tryd.prog WI 11 (eqC (sliceT tVal)) := eqS_ok (E := EE cs) (T := tVal) hT hs h0 (st_laws_eqValS cs)
theorem ok_laws_eqValSS {WI : World → Prop} (hs : Stable WI) (cs) (hT : TOK (EE cs) WI) (h0 : (EE cs).T 11 = some (eqC (sliceT tVal))) : PureOK Tryd.prog WI 16 (eqC (sliceT (sliceT tVal))) := eqS_ok (E := EE cs) (T := (sliceT tVal)) hT hs h0 (st_laws_eqValSS cs)
end Go.Proofs.YtgjdkcjijmdfoaaDoor.Rs
/- The law FnExactRowsText, by what its functions answer. -/
namespace Go.Proofs.YtgjdkcjijmdfoaaDoor.Rs
open Go Go.RowKit Go.Ev
set_option linter.unusedSimpArgs false
set_option maxRecDepth 100000
theorem ev_law (cs) (h0 : (EE cs).T 12 = some (szC (sliceT (sliceT tVal)))) (h1 : (EE cs).T 14 = some (toC (sliceT (sliceT tVal)))) (h2 : (EE cs).T 13 = some C_spec_RowsText) (h3 : (EE cs).T 15 = some C_impl_RowsText) (h4 : (EE cs).T 16 = some (eqC (sliceT (sliceT tVal)))) (v0 : List (List (TVal))) (f0 : (sliceT (sliceT tVal)).fits v0) (o0 : (sliceT (sliceT tVal)).ok v0) : ∃ k n, out (EE cs) k n 4 [(sliceT (sliceT tVal)).enc v0] = some (.bool true) := by
  refine out_K (n := 0) (st_laws_FnExactRowsText cs) ?_
  have c0 : szC (sliceT (sliceT tVal)) [.imm (v0.map (sliceT tVal).row), .int .i64 (1048576)] = some (.int .i64 (szR ((sliceT (sliceT tVal)).cost v0) (1048576))) := szC_eq (sliceT (sliceT tVal)) ⟨f0, by omega, by omega⟩
  by_cases n0 : szR ((sliceT (sliceT tVal)).cost v0) (1048576) < 0
  · obtain ⟨e0, e0'⟩ := szR_neg n0 (by omega)
    simp only [go_sem, kSt_ptr, Nat.reduceBEq, Nat.reduceAdd, Nat.reduceEqDiff, Nat.reduceLeDiff, Nat.reduceSub, reduceIte, Int.reduceBEq, Int.reduceEq, Int.reduceLT, Int.reduceLE, Int.reduceGT, Int.reduceGE, Int.reduceNe, Int.reduceBNe, s_laws_FnExactRowsText, h0, h1, h2, h3, h4, c0, e0]
  obtain ⟨e0, n0'⟩ := szR_pos n0
  have g0 : (sliceT (sliceT tVal)).good v0 := ⟨by omega, o0⟩
  have t0 : toC (sliceT (sliceT tVal)) [.imm (v0.map (sliceT tVal).row)] = some (.imm (v0.map (sliceT tVal).row)) := toC_eq (sliceT (sliceT tVal)) g0.1
  have u0 : eqC (sliceT (sliceT tVal)) [.imm (v0.map (sliceT tVal).row), .imm (v0.map (sliceT tVal).row)] = some (.bool true) := eqC_eq (sliceT (sliceT tVal)) g0.1
  have a0 := C_spec_RowsText_eq v0 g0
  have a1 := C_impl_RowsText_eq v0 g0
  simp only [go_sem, kSt_ptr, Nat.reduceBEq, Nat.reduceAdd, Nat.reduceEqDiff, Nat.reduceLeDiff, Nat.reduceSub, reduceIte, Int.reduceBEq, Int.reduceEq, Int.reduceLT, Int.reduceLE, Int.reduceGT, Int.reduceGE, Int.reduceNe, Int.reduceBNe, s_laws_FnExactRowsText, h0, h1, h2, h3, h4, c0, e0, n0', t0, u0, a0, a1]
noncomputable def C_law := c1 (sliceT (sliceT tVal)) (fun v0 => ((sliceT (sliceT tVal)).fits v0 ∧ (sliceT (sliceT tVal)).ok v0)) .bool fun _ => true
theorem ok_law {WI : World → Prop} (hs : Stable WI) (cs) (hT : TOK (EE cs) WI) (h0 : (EE cs).T 12 = some (szC (sliceT (sliceT tVal)))) (h1 : (EE cs).T 14 = some (toC (sliceT (sliceT tVal)))) (h2 : (EE cs).T 13 = some C_spec_RowsText) (h3 : (EE cs).T 15 = some C_impl_RowsText) (h4 : (EE cs).T 16 = some (eqC (sliceT (sliceT tVal)))) : PureOK Tryd.prog WI 4 C_law :=
  pure1 (E := EE cs) hT hs (by rw [st_laws_FnExactRowsText]; rfl) fun v0 ⟨f0, o0⟩ => ev_law cs h0 h1 h2 h3 h4 v0 f0 o0
section
variable {WI : World → Prop} (hs : Stable WI)
include hs
theorem law_ok (p_strconv_Itoa : PureOK Tryd.prog WI 57 C_strconv_Itoa) (p_strings_Contains : PureOK Tryd.prog WI 34 C_strings_Contains) (p_strings_Join : PureOK Tryd.prog WI 35 C_strings_Join) : PureOK Tryd.prog WI 4 C_law := by
  have t0 : TOK (EE []) WI := tok_nil (entB_spec entered)
  have t1 := tok_cons (ok_laws_szVal hs _ t0) t0
  have t2 := tok_cons (ok_laws_szValS hs _ t1 rfl) t1
  have t3 := tok_cons (ok_laws_szValSS hs _ t2 rfl) t2
  have t4 := tok_cons (ok_laws_toVal hs _ t3) t3
  have t5 := tok_cons (ok_laws_toValS hs _ t4 rfl) t4
  have t6 := tok_cons (ok_laws_toValSS hs _ t5 rfl) t5
  have t7 := tok_cons (ok_spec_l1In hs _ t6) t6
  have t8 := tok_cons (ok_spec_ValOk hs _ t7 rfl) t7
  have t9 := tok_cons (ok_spec_l2Plain hs _ t8 rfl) t8
  have t10 := tok_cons (ok_spec_l2Num hs _ t9) t9
  have t11 := tok_cons (ok_spec_ValText hs _ t10 rfl rfl rfl) t10
  have t12 := tok_cons (ok_spec_l28Blank hs _ t11) t11
  have t13 := tok_cons (ok_spec_RowText hs _ t12 rfl rfl) t12
  have t14 := tok_cons (ok_spec_RowsText hs _ t13 rfl) t13
  have t15 := tok_cons (ok_impl_in hs _ t14) t14
  have t16 := tok_cons (ok_impl_ValOk hs _ t15 rfl) t15
  have t17 := tok_cons p_strconv_Itoa t16
  have t18 := tok_cons (ok_impl_ValText hs _ t17 rfl rfl) t17
  have t19 := tok_cons p_strings_Contains t18
  have t20 := tok_cons p_strings_Join t19
  have t21 := tok_cons (ok_impl_RowText hs _ t20 rfl rfl rfl) t20
  have t22 := tok_cons (ok_impl_RowsText hs _ t21 rfl) t21
  have t23 := tok_cons (ok_laws_eqVal hs _ t22) t22
  have t24 := tok_cons (ok_laws_eqValS hs _ t23 rfl) t23
  have t25 := tok_cons (ok_laws_eqValSS hs _ t24 rfl) t24
  exact ok_law hs _ t25 rfl rfl rfl rfl rfl
end
theorem shp_Val {n : Nat} {r : List AV} (h : shp Tryd.prog (n + 2) 56 r) : ∃ v : TVal, r = v.row ∧ tVal.fits v ∧ tVal.ok v := by
  obtain ⟨_, _, rfl, z0, _, _, rfl, z1, _, _, rfl, z2, rfl⟩ := shp_struct Tryd.underlying56 h
  obtain ⟨x0, rfl, y0⟩ := shp_int Tryd.underlying3 z0
  obtain ⟨x1, rfl, y1⟩ := shp_int Tryd.underlying3 z1
  obtain ⟨x2, rfl, y2⟩ := shp_str Tryd.underlying9 z2
  exact ⟨⟨x0, x1, x2⟩, rfl, y2, ⟨wf_i64 y0, wf_i64 y1⟩⟩
theorem shp_SVal {n : Nat} {r : List AV} (h : shp Tryd.prog (n + 3) 22 r) : ∃ l : List (TVal), r = (sliceT tVal).row l ∧ (sliceT tVal).fits l ∧ (sliceT tVal).ok l := by
  obtain ⟨rows, rfl, hl, hr⟩ := shp_slice Tryd.underlying22 h
  obtain ⟨l, h1, h2, h3⟩ := rows_of (enc := tVal.row) (p := fun v => tVal.fits v ∧ tVal.ok v) fun r hr' => shp_Val (n := n) (hr r hr')
  subst h1
  exact ⟨l, rfl, ⟨by simpa using hl, fun v hv => (h3 v hv).1⟩, fun v hv => (h3 v hv).2⟩
theorem shp_SSVal {n : Nat} {r : List AV} (h : shp Tryd.prog (n + 4) 29 r) : ∃ l : List (List (TVal)), r = (sliceT (sliceT tVal)).row l ∧ (sliceT (sliceT tVal)).fits l ∧ (sliceT (sliceT tVal)).ok l := by
  obtain ⟨rows, rfl, hl, hr⟩ := shp_slice Tryd.underlying29 h
  obtain ⟨l, h1, h2, h3⟩ := rows_of (enc := (sliceT tVal).row) (p := fun v => (sliceT tVal).fits v ∧ (sliceT tVal).ok v) fun r hr' => shp_SVal (n := n) (hr r hr')
  subst h1
  exact ⟨l, rfl, ⟨by simpa using hl, fun v hv => (h3 v hv).1⟩, fun v hv => (h3 v hv).2⟩
theorem hlaw (xs : List AV) (h : shpAs Tryd.prog 8 Tryd.f4.params.toList xs) : C_law xs = some (.bool true) := by
  rw [Tryd.params4] at h
  obtain ⟨y0, r0, rfl, z0, zend⟩ := h
  have hr : r0 = [] := zend
  subst hr
  obtain ⟨v0, e0, f0, o0⟩ := shp_SSVal (n := 4) (shpA_one (fun fs e => by rw [Tryd.underlying29] at e; cases e) z0)
  obtain rfl : y0 = (sliceT (sliceT tVal)).enc v0 := List.head_eq_of_cons_eq e0
  exact c1_eq (sliceT (sliceT tVal)) ⟨f0, o0⟩
end Go.Proofs.YtgjdkcjijmdfoaaDoor.Rs
