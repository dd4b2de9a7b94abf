/- What the functions that FnExactInScan calls answer, for every argument within the law's bounds: part 1. -/
import Derived.Test.YtienjjjhjeigmaaGreatDoorIsEvC
import Derived.Test.YtienjjjhjeigmaaGreatDoorProg
import Derived.Lib.Split
/- The resolved code of what FnExactInScan calls. -/
namespace Go.Proofs.YtienjjjhjeigmaaGreatDoor.Is
open Go Go.RowKit Go.Ev
set_option linter.unusedSimpArgs false
set_option linter.unusedVariables false
set_option maxHeartbeats 1600000
def s_laws_szCol : SFn := ⟨13, .seq (.rg [⟨some 2, none, .box (.t 0)⟩,
  ⟨some 4, none, .mv (.c (.int .i64 0))⟩]) (.seq (.rg [⟨some 5, none, .mv (.t 1)⟩,
  ⟨some 6, none, .fa 0 (.t 2)⟩,
  ⟨some 7, none, .ld (.t 6)⟩,
  ⟨some 8, none, .lenS (.t 7)⟩,
  ⟨some 9, none, .bin .sub (.t 5) (.t 8)⟩,
  ⟨some 1, none, .mv (.t 9)⟩]) (.seq (.seq (.rg [⟨some 10, none, .mv (.t 1)⟩,
  ⟨some 11, none, .bin .lss (.t 10) (.c (.int .i64 0))⟩]) (.cond (.t 11) (.seq (.rg [⟨some 4, none, .mv (.c (.int .i64 (-1)))⟩]) (.ret)) (.skip))) (.seq (.rg [⟨some 12, none, .mv (.t 1)⟩,
  ⟨some 4, none, .mv (.t 12)⟩]) (.ret)))), [.t 4]⟩
def s_laws_szIndex : SFn := ⟨19, .seq (.rg [⟨some 2, none, .box (.t 0)⟩,
  ⟨some 4, none, .mv (.c (.int .i64 0))⟩]) (.seq (.rg [⟨some 5, none, .mv (.t 1)⟩,
  ⟨some 6, none, .fa 0 (.t 2)⟩,
  ⟨some 7, none, .ld (.t 6)⟩,
  ⟨some 8, none, .lenS (.t 7)⟩,
  ⟨some 9, none, .bin .sub (.t 5) (.t 8)⟩,
  ⟨some 1, none, .mv (.t 9)⟩]) (.seq (.seq (.rg [⟨some 10, none, .mv (.t 1)⟩,
  ⟨some 11, none, .bin .lss (.t 10) (.c (.int .i64 0))⟩]) (.cond (.t 11) (.seq (.rg [⟨some 4, none, .mv (.c (.int .i64 (-1)))⟩]) (.ret)) (.skip))) (.seq (.rg [⟨some 12, none, .fa 2 (.t 2)⟩,
  ⟨some 13, none, .ld (.t 12)⟩,
  ⟨some 14, none, .mv (.t 1)⟩,
  ⟨some 15, none, .callP 62 [.t 13, .t 14]⟩,
  ⟨some 1, none, .mv (.t 15)⟩]) (.seq (.seq (.rg [⟨some 16, none, .mv (.t 1)⟩,
  ⟨some 17, none, .bin .lss (.t 16) (.c (.int .i64 0))⟩]) (.cond (.t 17) (.seq (.rg [⟨some 4, none, .mv (.c (.int .i64 (-1)))⟩]) (.ret)) (.skip))) (.seq (.rg [⟨some 18, none, .mv (.t 1)⟩,
  ⟨some 4, none, .mv (.t 18)⟩]) (.ret)))))), [.t 4]⟩
def s_laws_szDef : SFn := ⟨31, .seq (.rg [⟨some 2, none, .box (.t 0)⟩,
  ⟨some 4, none, .mv (.c (.int .i64 0))⟩]) (.seq (.rg [⟨some 5, none, .mv (.t 1)⟩,
  ⟨some 6, none, .fa 0 (.t 2)⟩,
  ⟨some 7, none, .ld (.t 6)⟩,
  ⟨some 8, none, .lenS (.t 7)⟩,
  ⟨some 9, none, .bin .sub (.t 5) (.t 8)⟩,
  ⟨some 1, none, .mv (.t 9)⟩]) (.seq (.seq (.rg [⟨some 10, none, .mv (.t 1)⟩,
  ⟨some 11, none, .bin .lss (.t 10) (.c (.int .i64 0))⟩]) (.cond (.t 11) (.seq (.rg [⟨some 4, none, .mv (.c (.int .i64 (-1)))⟩]) (.ret)) (.skip))) (.seq (.rg [⟨some 12, none, .fa 1 (.t 2)⟩,
  ⟨some 13, none, .ld (.t 12)⟩,
  ⟨some 14, none, .mv (.t 1)⟩,
  ⟨some 15, none, .callP 61 [.t 13, .t 14]⟩,
  ⟨some 1, none, .mv (.t 15)⟩]) (.seq (.seq (.rg [⟨some 16, none, .mv (.t 1)⟩,
  ⟨some 17, none, .bin .lss (.t 16) (.c (.int .i64 0))⟩]) (.cond (.t 17) (.seq (.rg [⟨some 4, none, .mv (.c (.int .i64 (-1)))⟩]) (.ret)) (.skip))) (.seq (.rg [⟨some 18, none, .fa 2 (.t 2)⟩,
  ⟨some 19, none, .ld (.t 18)⟩,
  ⟨some 20, none, .mv (.t 1)⟩,
  ⟨some 21, none, .callP 62 [.t 19, .t 20]⟩,
  ⟨some 1, none, .mv (.t 21)⟩]) (.seq (.seq (.rg [⟨some 22, none, .mv (.t 1)⟩,
  ⟨some 23, none, .bin .lss (.t 22) (.c (.int .i64 0))⟩]) (.cond (.t 23) (.seq (.rg [⟨some 4, none, .mv (.c (.int .i64 (-1)))⟩]) (.ret)) (.skip))) (.seq (.rg [⟨some 24, none, .fa 3 (.t 2)⟩,
  ⟨some 25, none, .ld (.t 24)⟩,
  ⟨some 26, none, .mv (.t 1)⟩,
  ⟨some 27, none, .callP 63 [.t 25, .t 26]⟩,
  ⟨some 1, none, .mv (.t 27)⟩]) (.seq (.seq (.rg [⟨some 28, none, .mv (.t 1)⟩,
  ⟨some 29, none, .bin .lss (.t 28) (.c (.int .i64 0))⟩]) (.cond (.t 29) (.seq (.rg [⟨some 4, none, .mv (.c (.int .i64 (-1)))⟩]) (.ret)) (.skip))) (.seq (.rg [⟨some 30, none, .mv (.t 1)⟩,
  ⟨some 4, none, .mv (.t 30)⟩]) (.ret)))))))))), [.t 4]⟩
def s_laws_szVal : SFn := ⟨13, .seq (.rg [⟨some 2, none, .box (.t 0)⟩,
  ⟨some 4, none, .mv (.c (.int .i64 0))⟩]) (.seq (.rg [⟨some 5, none, .mv (.t 1)⟩,
  ⟨some 6, none, .fa 2 (.t 2)⟩,
  ⟨some 7, none, .ld (.t 6)⟩,
  ⟨some 8, none, .lenS (.t 7)⟩,
  ⟨some 9, none, .bin .sub (.t 5) (.t 8)⟩,
  ⟨some 1, none, .mv (.t 9)⟩]) (.seq (.seq (.rg [⟨some 10, none, .mv (.t 1)⟩,
  ⟨some 11, none, .bin .lss (.t 10) (.c (.int .i64 0))⟩]) (.cond (.t 11) (.seq (.rg [⟨some 4, none, .mv (.c (.int .i64 (-1)))⟩]) (.ret)) (.skip))) (.seq (.rg [⟨some 12, none, .mv (.t 1)⟩,
  ⟨some 4, none, .mv (.t 12)⟩]) (.ret)))), [.t 4]⟩
def s_laws_szScan : SFn := ⟨18, .seq (.rg [⟨some 2, none, .box (.t 0)⟩,
  ⟨some 4, none, .mv (.c (.int .i64 0))⟩]) (.seq (.rg [⟨some 5, none, .fa 2 (.t 2)⟩,
  ⟨some 6, none, .ld (.t 5)⟩,
  ⟨some 7, none, .mv (.t 1)⟩,
  ⟨some 8, none, .callP 9 [.t 6, .t 7]⟩,
  ⟨some 1, none, .mv (.t 8)⟩]) (.seq (.seq (.rg [⟨some 9, none, .mv (.t 1)⟩,
  ⟨some 10, none, .bin .lss (.t 9) (.c (.int .i64 0))⟩]) (.cond (.t 10) (.seq (.rg [⟨some 4, none, .mv (.c (.int .i64 (-1)))⟩]) (.ret)) (.skip))) (.seq (.rg [⟨some 11, none, .fa 3 (.t 2)⟩,
  ⟨some 12, none, .ld (.t 11)⟩,
  ⟨some 13, none, .mv (.t 1)⟩,
  ⟨some 14, none, .callP 9 [.t 12, .t 13]⟩,
  ⟨some 1, none, .mv (.t 14)⟩]) (.seq (.seq (.rg [⟨some 15, none, .mv (.t 1)⟩,
  ⟨some 16, none, .bin .lss (.t 15) (.c (.int .i64 0))⟩]) (.cond (.t 16) (.seq (.rg [⟨some 4, none, .mv (.c (.int .i64 (-1)))⟩]) (.ret)) (.skip))) (.seq (.rg [⟨some 17, none, .mv (.t 1)⟩,
  ⟨some 4, none, .mv (.t 17)⟩]) (.ret)))))), [.t 4]⟩
def s_laws_toCol : SFn := ⟨14, .seq (.rg [⟨some 1, none, .box (.t 0)⟩,
  ⟨some 2, none, .alloc [.str [], .int .i64 0, .bool false]⟩]) (.seq (.rg [⟨some 3, none, .alloc [.str [], .int .i64 0, .bool false]⟩]) (.seq (.rg [⟨some 4, none, .fa 0 (.t 1)⟩,
  ⟨some 5, none, .ld (.t 4)⟩,
  ⟨some 6, none, .fa 0 (.t 3)⟩,
  ⟨none, none, .st 1 (.t 6) (.t 5)⟩]) (.seq (.rg [⟨some 7, none, .fa 1 (.t 1)⟩,
  ⟨some 8, none, .ld (.t 7)⟩,
  ⟨some 9, none, .fa 1 (.t 3)⟩,
  ⟨none, none, .st 1 (.t 9) (.t 8)⟩]) (.seq (.rg [⟨some 10, none, .fa 2 (.t 1)⟩,
  ⟨some 11, none, .ld (.t 10)⟩,
  ⟨some 12, none, .fa 2 (.t 3)⟩,
  ⟨none, none, .st 1 (.t 12) (.t 11)⟩]) (.seq (.rg [⟨some 13, none, .ldA 3 (.t 3)⟩,
  ⟨none, none, .st 3 (.t 2) (.t 13)⟩]) (.ret)))))), [.ldA 2 3]⟩
def s_laws_toBy : SFn := ⟨11, .seq (.rg [⟨some 1, none, .box (.t 0)⟩,
  ⟨some 2, none, .alloc [.int .i64 0, .bool false]⟩]) (.seq (.rg [⟨some 3, none, .alloc [.int .i64 0, .bool false]⟩]) (.seq (.rg [⟨some 4, none, .fa 0 (.t 1)⟩,
  ⟨some 5, none, .ld (.t 4)⟩,
  ⟨some 6, none, .fa 0 (.t 3)⟩,
  ⟨none, none, .st 1 (.t 6) (.t 5)⟩]) (.seq (.rg [⟨some 7, none, .fa 1 (.t 1)⟩,
  ⟨some 8, none, .ld (.t 7)⟩,
  ⟨some 9, none, .fa 1 (.t 3)⟩,
  ⟨none, none, .st 1 (.t 9) (.t 8)⟩]) (.seq (.rg [⟨some 10, none, .ldA 2 (.t 3)⟩,
  ⟨none, none, .st 2 (.t 2) (.t 10)⟩]) (.ret))))), [.ldA 2 2]⟩
def s_laws_toIndex : SFn := ⟨15, .seq (.rg [⟨some 1, none, .box (.t 0)⟩,
  ⟨some 2, none, .alloc [.str [], .bool false, .snil]⟩]) (.seq (.rg [⟨some 3, none, .alloc [.str [], .bool false, .snil]⟩]) (.seq (.rg [⟨some 4, none, .fa 0 (.t 1)⟩,
  ⟨some 5, none, .ld (.t 4)⟩,
  ⟨some 6, none, .fa 0 (.t 3)⟩,
  ⟨none, none, .st 1 (.t 6) (.t 5)⟩]) (.seq (.rg [⟨some 7, none, .fa 1 (.t 1)⟩,
  ⟨some 8, none, .ld (.t 7)⟩,
  ⟨some 9, none, .fa 1 (.t 3)⟩,
  ⟨none, none, .st 1 (.t 9) (.t 8)⟩]) (.seq (.rg [⟨some 10, none, .fa 2 (.t 1)⟩,
  ⟨some 11, none, .ld (.t 10)⟩,
  ⟨some 12, none, .callP 75 [.t 11]⟩,
  ⟨some 13, none, .fa 2 (.t 3)⟩,
  ⟨none, none, .st 1 (.t 13) (.t 12)⟩]) (.seq (.rg [⟨some 14, none, .ldA 3 (.t 3)⟩,
  ⟨none, none, .st 3 (.t 2) (.t 14)⟩]) (.ret)))))), [.ldA 2 3]⟩
def s_laws_toDef : SFn := ⟨20, .seq (.rg [⟨some 1, none, .box (.t 0)⟩,
  ⟨some 2, none, .alloc [.str [], .snil, .snil, .snil]⟩]) (.seq (.rg [⟨some 3, none, .alloc [.str [], .snil, .snil, .snil]⟩]) (.seq (.rg [⟨some 4, none, .fa 0 (.t 1)⟩,
  ⟨some 5, none, .ld (.t 4)⟩,
  ⟨some 6, none, .fa 0 (.t 3)⟩,
  ⟨none, none, .st 1 (.t 6) (.t 5)⟩]) (.seq (.rg [⟨some 7, none, .fa 1 (.t 1)⟩,
  ⟨some 8, none, .ld (.t 7)⟩,
  ⟨some 9, none, .callP 74 [.t 8]⟩,
  ⟨some 10, none, .fa 1 (.t 3)⟩,
  ⟨none, none, .st 1 (.t 10) (.t 9)⟩]) (.seq (.rg [⟨some 11, none, .fa 2 (.t 1)⟩,
  ⟨some 12, none, .ld (.t 11)⟩,
  ⟨some 13, none, .callP 75 [.t 12]⟩,
  ⟨some 14, none, .fa 2 (.t 3)⟩,
  ⟨none, none, .st 1 (.t 14) (.t 13)⟩]) (.seq (.rg [⟨some 15, none, .fa 3 (.t 1)⟩,
  ⟨some 16, none, .ld (.t 15)⟩,
  ⟨some 17, none, .callP 76 [.t 16]⟩,
  ⟨some 18, none, .fa 3 (.t 3)⟩,
  ⟨none, none, .st 1 (.t 18) (.t 17)⟩]) (.seq (.rg [⟨some 19, none, .ldA 4 (.t 3)⟩,
  ⟨none, none, .st 4 (.t 2) (.t 19)⟩]) (.ret))))))), [.ldA 2 4]⟩
def s_laws_toVal : SFn := ⟨14, .seq (.rg [⟨some 1, none, .box (.t 0)⟩,
  ⟨some 2, none, .alloc [.int .i64 0, .int .i64 0, .str []]⟩]) (.seq (.rg [⟨some 3, none, .alloc [.int .i64 0, .int .i64 0, .str []]⟩]) (.seq (.rg [⟨some 4, none, .fa 0 (.t 1)⟩,
  ⟨some 5, none, .ld (.t 4)⟩,
  ⟨some 6, none, .fa 0 (.t 3)⟩,
  ⟨none, none, .st 1 (.t 6) (.t 5)⟩]) (.seq (.rg [⟨some 7, none, .fa 1 (.t 1)⟩,
  ⟨some 8, none, .ld (.t 7)⟩,
  ⟨some 9, none, .fa 1 (.t 3)⟩,
  ⟨none, none, .st 1 (.t 9) (.t 8)⟩]) (.seq (.rg [⟨some 10, none, .fa 2 (.t 1)⟩,
  ⟨some 11, none, .ld (.t 10)⟩,
  ⟨some 12, none, .fa 2 (.t 3)⟩,
  ⟨none, none, .st 1 (.t 12) (.t 11)⟩]) (.seq (.rg [⟨some 13, none, .ldA 3 (.t 3)⟩,
  ⟨none, none, .st 3 (.t 2) (.t 13)⟩]) (.ret)))))), [.ldA 2 3]⟩
def s_laws_toScan : SFn := ⟨31, .seq (.rg [⟨some 1, none, .box (.t 0)⟩,
  ⟨some 2, none, .alloc [.int .i64 0, .int .i64 0, .snil, .snil, .bool false, .bool false, .bool false, .int .i64 0]⟩]) (.seq (.rg [⟨some 3, none, .alloc [.int .i64 0, .int .i64 0, .snil, .snil, .bool false, .bool false, .bool false, .int .i64 0]⟩]) (.seq (.rg [⟨some 4, none, .fa 0 (.t 1)⟩,
  ⟨some 5, none, .ld (.t 4)⟩,
  ⟨some 6, none, .fa 0 (.t 3)⟩,
  ⟨none, none, .st 1 (.t 6) (.t 5)⟩]) (.seq (.rg [⟨some 7, none, .fa 1 (.t 1)⟩,
  ⟨some 8, none, .ld (.t 7)⟩,
  ⟨some 9, none, .fa 1 (.t 3)⟩,
  ⟨none, none, .st 1 (.t 9) (.t 8)⟩]) (.seq (.rg [⟨some 10, none, .fa 2 (.t 1)⟩,
  ⟨some 11, none, .ld (.t 10)⟩,
  ⟨some 12, none, .callP 13 [.t 11]⟩,
  ⟨some 13, none, .fa 2 (.t 3)⟩,
  ⟨none, none, .st 1 (.t 13) (.t 12)⟩]) (.seq (.rg [⟨some 14, none, .fa 3 (.t 1)⟩,
  ⟨some 15, none, .ld (.t 14)⟩,
  ⟨some 16, none, .callP 13 [.t 15]⟩,
  ⟨some 17, none, .fa 3 (.t 3)⟩,
  ⟨none, none, .st 1 (.t 17) (.t 16)⟩]) (.seq (.rg [⟨some 18, none, .fa 4 (.t 1)⟩,
  ⟨some 19, none, .ld (.t 18)⟩,
  ⟨some 20, none, .fa 4 (.t 3)⟩,
  ⟨none, none, .st 1 (.t 20) (.t 19)⟩]) (.seq (.rg [⟨some 21, none, .fa 5 (.t 1)⟩,
  ⟨some 22, none, .ld (.t 21)⟩,
  ⟨some 23, none, .fa 5 (.t 3)⟩,
  ⟨none, none, .st 1 (.t 23) (.t 22)⟩]) (.seq (.rg [⟨some 24, none, .fa 6 (.t 1)⟩,
  ⟨some 25, none, .ld (.t 24)⟩,
  ⟨some 26, none, .fa 6 (.t 3)⟩,
  ⟨none, none, .st 1 (.t 26) (.t 25)⟩]) (.seq (.rg [⟨some 27, none, .fa 7 (.t 1)⟩,
  ⟨some 28, none, .ld (.t 27)⟩,
  ⟨some 29, none, .fa 7 (.t 3)⟩,
  ⟨none, none, .st 1 (.t 29) (.t 28)⟩]) (.seq (.rg [⟨some 30, none, .ldA 8 (.t 3)⟩,
  ⟨none, none, .st 8 (.t 2) (.t 30)⟩]) (.ret))))))))))), [.ldA 2 8]⟩
def s_spec_l1In : SFn := ⟨15, .seq (.rg [⟨some 6, none, .mv (.c (.bool false))⟩]) (.seq (.rg [⟨some 7, none, .mv (.t 0)⟩,
  ⟨some 8, none, .mv (.t 1)⟩,
  ⟨some 9, none, .bin .geq (.t 7) (.t 8)⟩,
  ⟨some 10, none, .mv (.t 9)⟩,
  ⟨some 11, some (10, true), .mv (.t 0)⟩,
  ⟨some 12, some (10, true), .mv (.t 2)⟩,
  ⟨some 13, some (10, true), .bin .leq (.t 11) (.t 12)⟩,
  ⟨some 14, none, .pick (.t 10) (.t 13) (.c (.bool false))⟩,
  ⟨some 6, none, .mv (.t 14)⟩]) (.ret)), [.t 6]⟩
def s_spec_l8Small : SFn := ⟨6, .seq (.rg [⟨some 2, none, .mv (.c (.bool false))⟩]) (.seq (.rg [⟨some 3, none, .mv (.t 0)⟩,
  ⟨some 4, none, .cvI .i64 (.t 3)⟩,
  ⟨some 5, none, .callP 65 [.t 4, .c (.int .i64 97), .c (.int .i64 122)]⟩,
  ⟨some 2, none, .mv (.t 5)⟩]) (.ret)), [.t 2]⟩
def s_spec_l2Digit : SFn := ⟨6, .seq (.rg [⟨some 2, none, .mv (.c (.bool false))⟩]) (.seq (.rg [⟨some 3, none, .mv (.t 0)⟩,
  ⟨some 4, none, .cvI .i64 (.t 3)⟩,
  ⟨some 5, none, .callP 65 [.t 4, .c (.int .i64 48), .c (.int .i64 57)]⟩,
  ⟨some 2, none, .mv (.t 5)⟩]) (.ret)), [.t 2]⟩
def s_spec_l8Name_L0 : SCode := .seq (.seq (.rg [⟨some 4, none, .mv (.t 3)⟩,
  ⟨some 5, none, .mv (.t 0)⟩,
  ⟨some 6, none, .lenS (.t 5)⟩,
  ⟨some 7, none, .bin .lss (.t 4) (.t 6)⟩]) (.cond (.t 7) (.skip) (.exit 0))) (.seq (.blk 1 (.seq (.rg [⟨some 10, none, .mv (.t 0)⟩,
  ⟨some 11, none, .mv (.t 3)⟩,
  ⟨some 12, none, .ix (.t 10) (.t 11)⟩,
  ⟨some 13, none, .callP 294 [.t 12]⟩,
  ⟨some 14, none, .un .not (.t 13)⟩,
  ⟨some 15, none, .mv (.t 14)⟩,
  ⟨some 16, some (15, true), .mv (.t 3)⟩,
  ⟨some 17, some (15, true), .bin .eql (.t 16) (.c (.int .i64 0))⟩,
  ⟨some 18, some (15, true), .mv (.t 17)⟩,
  ⟨some 19, some (18, false), .mv (.t 0)⟩,
  ⟨some 20, some (18, false), .mv (.t 3)⟩,
  ⟨some 21, some (18, false), .ix (.t 19) (.t 20)⟩,
  ⟨some 22, some (18, false), .callP 295 [.t 21]⟩,
  ⟨some 23, some (18, false), .un .not (.t 22)⟩,
  ⟨some 24, some (15, true), .pick (.t 18) (.c (.bool true)) (.t 23)⟩,
  ⟨some 25, none, .pick (.t 15) (.t 24) (.c (.bool false))⟩]) (.cond (.t 25) (.seq (.rg [⟨some 2, none, .mv (.c (.bool false))⟩]) (.ret)) (.skip)))) (.rg [⟨some 8, none, .mv (.t 3)⟩,
  ⟨some 9, none, .bin .add (.t 8) (.c (.int .i64 1))⟩,
  ⟨some 3, none, .mv (.t 9)⟩]))
def s_spec_l8Name : SFn := ⟨29, .seq (.rg [⟨some 2, none, .mv (.c (.bool false))⟩]) (.seq (.seq (.rg [⟨some 3, none, .mv (.c (.int .i64 0))⟩]) (.blk 0 (.loop s_spec_l8Name_L0))) (.seq (.rg [⟨some 26, none, .mv (.t 0)⟩,
  ⟨some 27, none, .lenS (.t 26)⟩,
  ⟨some 28, none, .callP 65 [.t 27, .c (.int .i64 1), .c (.int .i64 8)]⟩,
  ⟨some 2, none, .mv (.t 28)⟩]) (.ret))), [.t 2]⟩
def s_spec_l9Has_L0 : SCode := .seq (.seq (.rg [⟨some 6, none, .mv (.t 5)⟩,
  ⟨some 7, none, .mv (.t 0)⟩,
  ⟨some 8, none, .lenL (.t 7)⟩,
  ⟨some 9, none, .bin .lss (.t 6) (.t 8)⟩]) (.cond (.t 9) (.skip) (.exit 0))) (.seq (.blk 1 (.seq (.rg [⟨some 12, none, .mv (.t 0)⟩,
  ⟨some 13, none, .mv (.t 5)⟩,
  ⟨some 14, none, .ia 1 (.t 12) (.t 13)⟩,
  ⟨some 15, none, .ld (.t 14)⟩,
  ⟨some 16, none, .mv (.t 1)⟩,
  ⟨some 17, none, .bin .eql (.t 15) (.t 16)⟩]) (.cond (.t 17) (.seq (.rg [⟨some 4, none, .mv (.c (.bool true))⟩]) (.ret)) (.skip)))) (.rg [⟨some 10, none, .mv (.t 5)⟩,
  ⟨some 11, none, .bin .add (.t 10) (.c (.int .i64 1))⟩,
  ⟨some 5, none, .mv (.t 11)⟩]))
def s_spec_l9Has : SFn := ⟨18, .seq (.rg [⟨some 4, none, .mv (.c (.bool false))⟩]) (.seq (.seq (.rg [⟨some 5, none, .mv (.c (.int .i64 0))⟩]) (.blk 0 (.loop s_spec_l9Has_L0))) (.seq (.rg [⟨some 4, none, .mv (.c (.bool false))⟩]) (.ret))), [.t 4]⟩
def s_spec_l9Word : SFn := ⟨11, .seq (.rg [⟨some 2, none, .mv (.c (.bool false))⟩]) (.seq (.rg [⟨some 3, none, .mv (.t 0)⟩,
  ⟨some 4, none, .callP 250 [.t 3]⟩,
  ⟨some 5, none, .mv (.t 4)⟩,
  ⟨some 6, some (5, true), .bslice false [.str []] 10 [(0, .c (.str [116, 97, 98, 108, 101])), (1, .c (.str [112, 114, 105, 109, 97, 114, 121])), (2, .c (.str [117, 110, 105, 113, 117, 101])), (3, .c (.str [105, 110, 100, 101, 120])), (4, .c (.str [110, 117, 108, 108])), (5, .c (.str [100, 101, 115, 99])), (6, .c (.str [105, 110, 116])), (7, .c (.str [110, 117, 109])), (8, .c (.str [116, 101, 120, 116])), (9, .c (.str [98, 111, 111, 108]))]⟩,
  ⟨some 7, some (5, true), .mv (.t 0)⟩,
  ⟨some 8, some (5, true), .callP 251 [.t 6, .t 7]⟩,
  ⟨some 9, some (5, true), .un .not (.t 8)⟩,
  ⟨some 10, none, .pick (.t 5) (.t 9) (.c (.bool false))⟩,
  ⟨some 2, none, .mv (.t 10)⟩]) (.ret)), [.t 2]⟩
def s_spec_l9Names_L0 : SCode := .seq (.seq (.rg [⟨some 5, none, .mv (.t 3)⟩,
  ⟨some 6, none, .fa 1 (.t 1)⟩,
  ⟨some 7, none, .ld (.t 6)⟩,
  ⟨some 8, none, .lenL (.t 7)⟩,
  ⟨some 9, none, .bin .lss (.t 5) (.t 8)⟩]) (.cond (.t 9) (.skip) (.exit 0))) (.seq (.blk 1 (.seq (.rg [⟨some 12, none, .fa 1 (.t 1)⟩,
  ⟨some 13, none, .ld (.t 12)⟩,
  ⟨some 14, none, .mv (.t 3)⟩,
  ⟨some 15, none, .ia 3 (.t 13) (.t 14)⟩,
  ⟨some 16, none, .fa 0 (.t 15)⟩,
  ⟨some 17, none, .ld (.t 16)⟩,
  ⟨some 18, none, .callP 206 [.t 17]⟩,
  ⟨some 19, none, .un .not (.t 18)⟩]) (.cond (.t 19) (.seq (.rg [⟨some 2, none, .mv (.c (.bool false))⟩]) (.ret)) (.skip)))) (.rg [⟨some 10, none, .mv (.t 3)⟩,
  ⟨some 11, none, .bin .add (.t 10) (.c (.int .i64 1))⟩,
  ⟨some 3, none, .mv (.t 11)⟩]))
def s_spec_l9Names_L1 : SCode := .seq (.seq (.rg [⟨some 20, none, .mv (.t 4)⟩,
  ⟨some 21, none, .fa 3 (.t 1)⟩,
  ⟨some 22, none, .ld (.t 21)⟩,
  ⟨some 23, none, .lenL (.t 22)⟩,
  ⟨some 24, none, .bin .lss (.t 20) (.t 23)⟩]) (.cond (.t 24) (.skip) (.exit 2))) (.seq (.blk 3 (.seq (.rg [⟨some 27, none, .fa 3 (.t 1)⟩,
  ⟨some 28, none, .ld (.t 27)⟩,
  ⟨some 29, none, .mv (.t 4)⟩,
  ⟨some 30, none, .ia 3 (.t 28) (.t 29)⟩,
  ⟨some 31, none, .fa 0 (.t 30)⟩,
  ⟨some 32, none, .ld (.t 31)⟩,
  ⟨some 33, none, .callP 206 [.t 32]⟩,
  ⟨some 34, none, .un .not (.t 33)⟩]) (.cond (.t 34) (.seq (.rg [⟨some 2, none, .mv (.c (.bool false))⟩]) (.ret)) (.skip)))) (.rg [⟨some 25, none, .mv (.t 4)⟩,
  ⟨some 26, none, .bin .add (.t 25) (.c (.int .i64 1))⟩,
  ⟨some 4, none, .mv (.t 26)⟩]))
def s_spec_l9Names : SFn := ⟨38, .seq (.rg [⟨some 1, none, .box (.t 0)⟩,
  ⟨some 2, none, .mv (.c (.bool false))⟩]) (.seq (.seq (.rg [⟨some 3, none, .mv (.c (.int .i64 0))⟩]) (.blk 0 (.loop s_spec_l9Names_L0))) (.seq (.seq (.rg [⟨some 4, none, .mv (.c (.int .i64 0))⟩]) (.blk 2 (.loop s_spec_l9Names_L1))) (.seq (.rg [⟨some 35, none, .fa 0 (.t 1)⟩,
  ⟨some 36, none, .ld (.t 35)⟩,
  ⟨some 37, none, .callP 206 [.t 36]⟩,
  ⟨some 2, none, .mv (.t 37)⟩]) (.ret)))), [.t 2]⟩
def s_spec_l9Types_L0 : SCode := .seq (.seq (.rg [⟨some 4, none, .mv (.t 3)⟩,
  ⟨some 5, none, .fa 1 (.t 1)⟩,
  ⟨some 6, none, .ld (.t 5)⟩,
  ⟨some 7, none, .lenL (.t 6)⟩,
  ⟨some 8, none, .bin .lss (.t 4) (.t 7)⟩]) (.cond (.t 8) (.skip) (.exit 0))) (.seq (.blk 1 (.seq (.rg [⟨some 11, none, .fa 1 (.t 1)⟩,
  ⟨some 12, none, .ld (.t 11)⟩,
  ⟨some 13, none, .mv (.t 3)⟩,
  ⟨some 14, none, .ia 3 (.t 12) (.t 13)⟩,
  ⟨some 15, none, .fa 1 (.t 14)⟩,
  ⟨some 16, none, .ld (.t 15)⟩,
  ⟨some 17, none, .callP 65 [.t 16, .c (.int .i64 1), .c (.int .i64 4)]⟩,
  ⟨some 18, none, .un .not (.t 17)⟩]) (.cond (.t 18) (.seq (.rg [⟨some 2, none, .mv (.c (.bool false))⟩]) (.ret)) (.skip)))) (.rg [⟨some 9, none, .mv (.t 3)⟩,
  ⟨some 10, none, .bin .add (.t 9) (.c (.int .i64 1))⟩,
  ⟨some 3, none, .mv (.t 10)⟩]))
def s_spec_l9Types : SFn := ⟨23, .seq (.rg [⟨some 1, none, .box (.t 0)⟩,
  ⟨some 2, none, .mv (.c (.bool false))⟩]) (.seq (.seq (.rg [⟨some 3, none, .mv (.c (.int .i64 0))⟩]) (.blk 0 (.loop s_spec_l9Types_L0))) (.seq (.rg [⟨some 19, none, .fa 1 (.t 1)⟩,
  ⟨some 20, none, .ld (.t 19)⟩,
  ⟨some 21, none, .lenL (.t 20)⟩,
  ⟨some 22, none, .callP 65 [.t 21, .c (.int .i64 1), .c (.int .i64 6)]⟩,
  ⟨some 2, none, .mv (.t 22)⟩]) (.ret))), [.t 2]⟩
def s_spec_l9Col_L0 : SCode := .seq (.seq (.rg [⟨some 6, none, .mv (.t 5)⟩,
  ⟨some 7, none, .fa 1 (.t 2)⟩,
  ⟨some 8, none, .ld (.t 7)⟩,
  ⟨some 9, none, .lenL (.t 8)⟩,
  ⟨some 10, none, .bin .lss (.t 6) (.t 9)⟩]) (.cond (.t 10) (.skip) (.exit 0))) (.seq (.blk 1 (.seq (.rg [⟨some 13, none, .fa 1 (.t 2)⟩,
  ⟨some 14, none, .ld (.t 13)⟩,
  ⟨some 15, none, .mv (.t 5)⟩,
  ⟨some 16, none, .ia 3 (.t 14) (.t 15)⟩,
  ⟨some 17, none, .fa 0 (.t 16)⟩,
  ⟨some 18, none, .ld (.t 17)⟩,
  ⟨some 19, none, .mv (.t 1)⟩,
  ⟨some 20, none, .bin .eql (.t 18) (.t 19)⟩]) (.cond (.t 20) (.seq (.rg [⟨some 21, none, .mv (.t 5)⟩,
  ⟨some 4, none, .mv (.t 21)⟩]) (.ret)) (.skip)))) (.rg [⟨some 11, none, .mv (.t 5)⟩,
  ⟨some 12, none, .bin .add (.t 11) (.c (.int .i64 1))⟩,
  ⟨some 5, none, .mv (.t 12)⟩]))
def s_spec_l9Col : SFn := ⟨22, .seq (.rg [⟨some 2, none, .box (.t 0)⟩,
  ⟨some 4, none, .mv (.c (.int .i64 0))⟩]) (.seq (.seq (.rg [⟨some 5, none, .mv (.c (.int .i64 0))⟩]) (.blk 0 (.loop s_spec_l9Col_L0))) (.seq (.rg [⟨some 4, none, .mv (.c (.int .i64 (-1)))⟩]) (.ret))), [.t 4]⟩
def s_spec_l9Once_L0 : SCode := .seq (.seq (.rg [⟨some 6, none, .mv (.t 3)⟩,
  ⟨some 7, none, .fa 1 (.t 1)⟩,
  ⟨some 8, none, .ld (.t 7)⟩,
  ⟨some 9, none, .lenL (.t 8)⟩,
  ⟨some 10, none, .bin .lss (.t 6) (.t 9)⟩]) (.cond (.t 10) (.skip) (.exit 0))) (.seq (.blk 1 (.seq (.rg [⟨some 13, none, .ldA 4 (.t 1)⟩,
  ⟨some 14, none, .fa 1 (.t 1)⟩,
  ⟨some 15, none, .ld (.t 14)⟩,
  ⟨some 16, none, .mv (.t 3)⟩,
  ⟨some 17, none, .ia 3 (.t 15) (.t 16)⟩,
  ⟨some 18, none, .fa 0 (.t 17)⟩,
  ⟨some 19, none, .ld (.t 18)⟩,
  ⟨some 20, none, .callP 207 [.t 13, .t 19]⟩,
  ⟨some 21, none, .mv (.t 3)⟩,
  ⟨some 22, none, .bin .neq (.t 20) (.t 21)⟩]) (.cond (.t 22) (.seq (.rg [⟨some 2, none, .mv (.c (.bool false))⟩]) (.ret)) (.skip)))) (.rg [⟨some 11, none, .mv (.t 3)⟩,
  ⟨some 12, none, .bin .add (.t 11) (.c (.int .i64 1))⟩,
  ⟨some 3, none, .mv (.t 12)⟩]))
def s_spec_l9Once_L1 : SCode := .seq (.seq (.rg [⟨some 30, none, .mv (.t 5)⟩,
  ⟨some 31, none, .mv (.t 4)⟩,
  ⟨some 32, none, .bin .lss (.t 30) (.t 31)⟩]) (.cond (.t 32) (.skip) (.exit 4))) (.seq (.blk 5 (.seq (.rg [⟨some 35, none, .fa 3 (.t 1)⟩,
  ⟨some 36, none, .ld (.t 35)⟩,
  ⟨some 37, none, .mv (.t 5)⟩,
  ⟨some 38, none, .ia 3 (.t 36) (.t 37)⟩,
  ⟨some 39, none, .fa 0 (.t 38)⟩,
  ⟨some 40, none, .ld (.t 39)⟩,
  ⟨some 41, none, .fa 3 (.t 1)⟩,
  ⟨some 42, none, .ld (.t 41)⟩,
  ⟨some 43, none, .mv (.t 4)⟩,
  ⟨some 44, none, .ia 3 (.t 42) (.t 43)⟩,
  ⟨some 45, none, .fa 0 (.t 44)⟩,
  ⟨some 46, none, .ld (.t 45)⟩,
  ⟨some 47, none, .bin .eql (.t 40) (.t 46)⟩]) (.cond (.t 47) (.seq (.rg [⟨some 2, none, .mv (.c (.bool false))⟩]) (.ret)) (.skip)))) (.rg [⟨some 33, none, .mv (.t 5)⟩,
  ⟨some 34, none, .bin .add (.t 33) (.c (.int .i64 1))⟩,
  ⟨some 5, none, .mv (.t 34)⟩]))
def s_spec_l9Once_L2 : SCode := .seq (.seq (.rg [⟨some 23, none, .mv (.t 4)⟩,
  ⟨some 24, none, .fa 3 (.t 1)⟩,
  ⟨some 25, none, .ld (.t 24)⟩,
  ⟨some 26, none, .lenL (.t 25)⟩,
  ⟨some 27, none, .bin .lss (.t 23) (.t 26)⟩]) (.cond (.t 27) (.skip) (.exit 2))) (.seq (.blk 3 (.seq (.rg [⟨some 5, none, .mv (.c (.int .i64 0))⟩]) (.blk 4 (.loop s_spec_l9Once_L1)))) (.rg [⟨some 28, none, .mv (.t 4)⟩,
  ⟨some 29, none, .bin .add (.t 28) (.c (.int .i64 1))⟩,
  ⟨some 4, none, .mv (.t 29)⟩]))
def s_spec_l9Once : SFn := ⟨48, .seq (.rg [⟨some 1, none, .box (.t 0)⟩,
  ⟨some 2, none, .mv (.c (.bool false))⟩]) (.seq (.seq (.rg [⟨some 3, none, .mv (.c (.int .i64 0))⟩]) (.blk 0 (.loop s_spec_l9Once_L0))) (.seq (.seq (.rg [⟨some 4, none, .mv (.c (.int .i64 0))⟩]) (.blk 2 (.loop s_spec_l9Once_L2))) (.seq (.rg [⟨some 2, none, .mv (.c (.bool true))⟩]) (.ret)))), [.t 2]⟩
def s_spec_l9Parts_L0 : SCode := .seq (.seq (.rg [⟨some 6, none, .mv (.t 5)⟩,
  ⟨some 7, none, .mv (.t 1)⟩,
  ⟨some 8, none, .lenL (.t 7)⟩,
  ⟨some 9, none, .bin .lss (.t 6) (.t 8)⟩]) (.cond (.t 9) (.skip) (.exit 0))) (.seq (.blk 1 (.seq (.rg [⟨some 12, none, .mv (.t 1)⟩,
  ⟨some 13, none, .mv (.t 5)⟩,
  ⟨some 14, none, .ia 2 (.t 12) (.t 13)⟩,
  ⟨some 15, none, .fa 0 (.t 14)⟩,
  ⟨some 16, none, .ld (.t 15)⟩,
  ⟨some 17, none, .fa 1 (.t 2)⟩,
  ⟨some 18, none, .ld (.t 17)⟩,
  ⟨some 19, none, .lenL (.t 18)⟩,
  ⟨some 20, none, .bin .sub (.t 19) (.c (.int .i64 1))⟩,
  ⟨some 21, none, .callP 65 [.t 16, .c (.int .i64 0), .t 20]⟩,
  ⟨some 22, none, .un .not (.t 21)⟩,
  ⟨some 23, none, .mv (.t 22)⟩,
  ⟨some 24, some (23, false), .mv (.t 5)⟩,
  ⟨some 25, some (23, false), .bin .gtr (.t 24) (.c (.int .i64 0))⟩,
  ⟨some 26, some (23, false), .mv (.t 25)⟩,
  ⟨some 27, some (26, true), .mv (.t 1)⟩,
  ⟨some 28, some (26, true), .ia 2 (.t 27) (.c (.int .i64 0))⟩,
  ⟨some 29, some (26, true), .fa 0 (.t 28)⟩,
  ⟨some 30, some (26, true), .ld (.t 29)⟩,
  ⟨some 31, some (26, true), .mv (.t 1)⟩,
  ⟨some 32, some (26, true), .mv (.t 5)⟩,
  ⟨some 33, some (26, true), .ia 2 (.t 31) (.t 32)⟩,
  ⟨some 34, some (26, true), .fa 0 (.t 33)⟩,
  ⟨some 35, some (26, true), .ld (.t 34)⟩,
  ⟨some 36, some (26, true), .bin .eql (.t 30) (.t 35)⟩,
  ⟨some 37, some (23, false), .pick (.t 26) (.t 36) (.c (.bool false))⟩,
  ⟨some 38, none, .pick (.t 23) (.c (.bool true)) (.t 37)⟩]) (.cond (.t 38) (.seq (.rg [⟨some 4, none, .mv (.c (.bool false))⟩]) (.ret)) (.skip)))) (.rg [⟨some 10, none, .mv (.t 5)⟩,
  ⟨some 11, none, .bin .add (.t 10) (.c (.int .i64 1))⟩,
  ⟨some 5, none, .mv (.t 11)⟩]))
def s_spec_l9Parts : SFn := ⟨42, .seq (.rg [⟨some 2, none, .box (.t 0)⟩,
  ⟨some 4, none, .mv (.c (.bool false))⟩]) (.seq (.seq (.rg [⟨some 5, none, .mv (.c (.int .i64 0))⟩]) (.blk 0 (.loop s_spec_l9Parts_L0))) (.seq (.rg [⟨some 39, none, .mv (.t 1)⟩,
  ⟨some 40, none, .lenL (.t 39)⟩,
  ⟨some 41, none, .callP 65 [.t 40, .c (.int .i64 1), .c (.int .i64 2)]⟩,
  ⟨some 4, none, .mv (.t 41)⟩]) (.ret))), [.t 4]⟩
def s_spec_l9AllParts_L0 : SCode := .seq (.seq (.rg [⟨some 4, none, .mv (.t 3)⟩,
  ⟨some 5, none, .fa 3 (.t 1)⟩,
  ⟨some 6, none, .ld (.t 5)⟩,
  ⟨some 7, none, .lenL (.t 6)⟩,
  ⟨some 8, none, .bin .lss (.t 4) (.t 7)⟩]) (.cond (.t 8) (.skip) (.exit 0))) (.seq (.blk 1 (.seq (.rg [⟨some 11, none, .ldA 4 (.t 1)⟩,
  ⟨some 12, none, .fa 3 (.t 1)⟩,
  ⟨some 13, none, .ld (.t 12)⟩,
  ⟨some 14, none, .mv (.t 3)⟩,
  ⟨some 15, none, .ia 3 (.t 13) (.t 14)⟩,
  ⟨some 16, none, .fa 2 (.t 15)⟩,
  ⟨some 17, none, .ld (.t 16)⟩,
  ⟨some 18, none, .callP 208 [.t 11, .t 17]⟩,
  ⟨some 19, none, .un .not (.t 18)⟩]) (.cond (.t 19) (.seq (.rg [⟨some 2, none, .mv (.c (.bool false))⟩]) (.ret)) (.skip)))) (.rg [⟨some 9, none, .mv (.t 3)⟩,
  ⟨some 10, none, .bin .add (.t 9) (.c (.int .i64 1))⟩,
  ⟨some 3, none, .mv (.t 10)⟩]))
def s_spec_l9AllParts : SFn := ⟨24, .seq (.rg [⟨some 1, none, .box (.t 0)⟩,
  ⟨some 2, none, .mv (.c (.bool false))⟩]) (.seq (.seq (.rg [⟨some 3, none, .mv (.c (.int .i64 0))⟩]) (.blk 0 (.loop s_spec_l9AllParts_L0))) (.seq (.rg [⟨some 20, none, .ldA 4 (.t 1)⟩,
  ⟨some 21, none, .fa 2 (.t 1)⟩,
  ⟨some 22, none, .ld (.t 21)⟩,
  ⟨some 23, none, .callP 208 [.t 20, .t 22]⟩,
  ⟨some 2, none, .mv (.t 23)⟩]) (.ret))), [.t 2]⟩
def s_spec_CheckDef_L0 : SCode := .seq (.seq (.rg [⟨some 25, none, .mv (.t 3)⟩,
  ⟨some 26, none, .fa 2 (.t 1)⟩,
  ⟨some 27, none, .ld (.t 26)⟩,
  ⟨some 28, none, .lenL (.t 27)⟩,
  ⟨some 29, none, .bin .lss (.t 25) (.t 28)⟩]) (.cond (.t 29) (.skip) (.exit 1))) (.seq (.blk 2 (.seq (.rg [⟨some 32, none, .fa 1 (.t 1)⟩,
  ⟨some 33, none, .ld (.t 32)⟩,
  ⟨some 34, none, .fa 2 (.t 1)⟩,
  ⟨some 35, none, .ld (.t 34)⟩,
  ⟨some 36, none, .mv (.t 3)⟩,
  ⟨some 37, none, .ia 2 (.t 35) (.t 36)⟩,
  ⟨some 38, none, .fa 0 (.t 37)⟩,
  ⟨some 39, none, .ld (.t 38)⟩,
  ⟨some 40, none, .ia 3 (.t 33) (.t 39)⟩,
  ⟨some 41, none, .fa 2 (.t 40)⟩,
  ⟨some 42, none, .ld (.t 41)⟩]) (.cond (.t 42) (.seq (.rg [⟨some 2, none, .mv (.c (.int .i64 4))⟩]) (.ret)) (.skip)))) (.rg [⟨some 30, none, .mv (.t 3)⟩,
  ⟨some 31, none, .bin .add (.t 30) (.c (.int .i64 1))⟩,
  ⟨some 3, none, .mv (.t 31)⟩]))
def s_spec_CheckDef : SFn := ⟨43, .seq (.rg [⟨some 1, none, .box (.t 0)⟩,
  ⟨some 2, none, .mv (.c (.int .i64 0))⟩]) (.seq (.blk 0 (.seq (.rg [⟨some 5, none, .ldA 4 (.t 1)⟩,
  ⟨some 6, none, .callP 137 [.t 5]⟩,
  ⟨some 7, none, .un .not (.t 6)⟩,
  ⟨some 4, none, .mv (.t 7)⟩]) (.cond (.t 4) (.seq (.rg [⟨some 2, none, .mv (.c (.int .i64 1))⟩]) (.ret)) (.seq (.rg [⟨some 9, none, .ldA 4 (.t 1)⟩,
  ⟨some 10, none, .callP 138 [.t 9]⟩,
  ⟨some 11, none, .un .not (.t 10)⟩,
  ⟨some 8, none, .mv (.t 11)⟩]) (.cond (.t 8) (.seq (.rg [⟨some 2, none, .mv (.c (.int .i64 2))⟩]) (.ret)) (.seq (.rg [⟨some 13, none, .ldA 4 (.t 1)⟩,
  ⟨some 14, none, .callP 139 [.t 13]⟩,
  ⟨some 15, none, .un .not (.t 14)⟩,
  ⟨some 12, none, .mv (.t 15)⟩]) (.cond (.t 12) (.seq (.rg [⟨some 2, none, .mv (.c (.int .i64 3))⟩]) (.ret)) (.seq (.rg [⟨some 17, none, .fa 3 (.t 1)⟩,
  ⟨some 18, none, .ld (.t 17)⟩,
  ⟨some 19, none, .lenL (.t 18)⟩,
  ⟨some 20, none, .bin .gtr (.t 19) (.c (.int .i64 2))⟩,
  ⟨some 16, none, .mv (.t 20)⟩]) (.cond (.t 16) (.seq (.rg [⟨some 2, none, .mv (.c (.int .i64 6))⟩]) (.ret)) (.seq (.rg [⟨some 22, none, .ldA 4 (.t 1)⟩,
  ⟨some 23, none, .callP 140 [.t 22]⟩,
  ⟨some 24, none, .un .not (.t 23)⟩,
  ⟨some 21, none, .mv (.t 24)⟩]) (.cond (.t 21) (.seq (.rg [⟨some 2, none, .mv (.c (.int .i64 5))⟩]) (.ret)) (.skip)))))))))))) (.seq (.seq (.rg [⟨some 3, none, .mv (.c (.int .i64 0))⟩]) (.blk 1 (.loop s_spec_CheckDef_L0))) (.seq (.rg [⟨some 2, none, .mv (.c (.int .i64 0))⟩]) (.ret)))), [.t 2]⟩
def s_spec_FirstBad_L0 : SCode := .seq (.seq (.rg [⟨some 22, none, .mv (.t 4)⟩,
  ⟨some 23, none, .mv (.t 3)⟩,
  ⟨some 24, none, .bin .lss (.t 22) (.t 23)⟩]) (.cond (.t 24) (.skip) (.exit 2))) (.seq (.blk 3 (.seq (.rg [⟨some 27, none, .mv (.t 0)⟩,
  ⟨some 28, none, .mv (.t 4)⟩,
  ⟨some 29, none, .ia 4 (.t 27) (.t 28)⟩,
  ⟨some 30, none, .fa 0 (.t 29)⟩,
  ⟨some 31, none, .ld (.t 30)⟩,
  ⟨some 32, none, .mv (.t 0)⟩,
  ⟨some 33, none, .mv (.t 3)⟩,
  ⟨some 34, none, .ia 4 (.t 32) (.t 33)⟩,
  ⟨some 35, none, .fa 0 (.t 34)⟩,
  ⟨some 36, none, .ld (.t 35)⟩,
  ⟨some 37, none, .bin .eql (.t 31) (.t 36)⟩]) (.cond (.t 37) (.seq (.rg [⟨some 38, none, .mv (.t 3)⟩,
  ⟨some 2, none, .mv (.t 38)⟩]) (.ret)) (.skip)))) (.rg [⟨some 25, none, .mv (.t 4)⟩,
  ⟨some 26, none, .bin .add (.t 25) (.c (.int .i64 1))⟩,
  ⟨some 4, none, .mv (.t 26)⟩]))
def s_spec_FirstBad_L1 : SCode := .seq (.seq (.rg [⟨some 5, none, .mv (.t 3)⟩,
  ⟨some 6, none, .mv (.t 0)⟩,
  ⟨some 7, none, .lenL (.t 6)⟩,
  ⟨some 8, none, .bin .lss (.t 5) (.t 7)⟩]) (.cond (.t 8) (.skip) (.exit 0))) (.seq (.blk 1 (.seq (.seq (.rg [⟨some 11, none, .mv (.t 0)⟩,
  ⟨some 12, none, .mv (.t 3)⟩,
  ⟨some 13, none, .ia 4 (.t 11) (.t 12)⟩,
  ⟨some 14, none, .ldA 4 (.t 13)⟩,
  ⟨some 15, none, .callP 69 [.t 14]⟩,
  ⟨some 16, none, .bin .neq (.t 15) (.c (.int .i64 0))⟩,
  ⟨some 17, none, .mv (.t 16)⟩,
  ⟨some 18, some (17, false), .mv (.t 3)⟩,
  ⟨some 19, some (17, false), .bin .gtr (.t 18) (.c (.int .i64 2))⟩,
  ⟨some 20, none, .pick (.t 17) (.c (.bool true)) (.t 19)⟩]) (.cond (.t 20) (.seq (.rg [⟨some 21, none, .mv (.t 3)⟩,
  ⟨some 2, none, .mv (.t 21)⟩]) (.ret)) (.skip))) (.seq (.rg [⟨some 4, none, .mv (.c (.int .i64 0))⟩]) (.blk 2 (.loop s_spec_FirstBad_L0))))) (.rg [⟨some 9, none, .mv (.t 3)⟩,
  ⟨some 10, none, .bin .add (.t 9) (.c (.int .i64 1))⟩,
  ⟨some 3, none, .mv (.t 10)⟩]))
def s_spec_FirstBad : SFn := ⟨39, .seq (.rg [⟨some 2, none, .mv (.c (.int .i64 0))⟩]) (.seq (.seq (.rg [⟨some 3, none, .mv (.c (.int .i64 0))⟩]) (.blk 0 (.loop s_spec_FirstBad_L1))) (.seq (.rg [⟨some 2, none, .mv (.c (.int .i64 (-1)))⟩]) (.ret))), [.t 2]⟩
def s_spec_l11There : SFn := ⟨28, .seq (.rg [⟨some 6, none, .mv (.c (.bool false))⟩]) (.seq (.rg [⟨some 7, none, .mv (.t 0)⟩,
  ⟨some 8, none, .callP 45 [.t 7]⟩,
  ⟨some 9, none, .bin .eql (.t 8) (.c (.int .i64 (-1)))⟩,
  ⟨some 10, none, .mv (.t 9)⟩,
  ⟨some 11, some (10, true), .mv (.t 1)⟩,
  ⟨some 12, some (10, true), .mv (.t 0)⟩,
  ⟨some 13, some (10, true), .lenL (.t 12)⟩,
  ⟨some 14, some (10, true), .bin .sub (.t 13) (.c (.int .i64 1))⟩,
  ⟨some 15, some (10, true), .callP 65 [.t 11, .c (.int .i64 0), .t 14]⟩,
  ⟨some 16, none, .pick (.t 10) (.t 15) (.c (.bool false))⟩,
  ⟨some 17, none, .mv (.t 16)⟩,
  ⟨some 18, some (17, true), .mv (.t 2)⟩,
  ⟨some 19, some (17, true), .mv (.t 0)⟩,
  ⟨some 20, some (17, true), .mv (.t 1)⟩,
  ⟨some 21, some (17, true), .ia 4 (.t 19) (.t 20)⟩,
  ⟨some 22, some (17, true), .fa 3 (.t 21)⟩,
  ⟨some 23, some (17, true), .ld (.t 22)⟩,
  ⟨some 24, some (17, true), .lenL (.t 23)⟩,
  ⟨some 25, some (17, true), .bin .sub (.t 24) (.c (.int .i64 1))⟩,
  ⟨some 26, some (17, true), .callP 65 [.t 18, .c (.int .i64 (-1)), .t 25]⟩,
  ⟨some 27, none, .pick (.t 17) (.t 26) (.c (.bool false))⟩,
  ⟨some 6, none, .mv (.t 27)⟩]) (.ret)), [.t 6]⟩
def s_spec_l11Part : SFn := ⟨22, .seq (.rg [⟨some 3, none, .box (.t 0)⟩,
  ⟨some 6, none, .alloc [.int .i64 0, .int .i64 0, .bool false, .bool false]⟩]) (.seq (.rg [⟨some 7, none, .mv (.t 1)⟩,
  ⟨some 8, none, .fa 1 (.t 3)⟩,
  ⟨some 9, none, .ld (.t 8)⟩,
  ⟨some 10, none, .mv (.t 1)⟩,
  ⟨some 11, none, .ia 3 (.t 9) (.t 10)⟩,
  ⟨some 12, none, .fa 1 (.t 11)⟩,
  ⟨some 13, none, .ld (.t 12)⟩,
  ⟨some 14, none, .fa 1 (.t 3)⟩,
  ⟨some 15, none, .ld (.t 14)⟩,
  ⟨some 16, none, .mv (.t 1)⟩,
  ⟨some 17, none, .ia 3 (.t 15) (.t 16)⟩,
  ⟨some 18, none, .fa 2 (.t 17)⟩,
  ⟨some 19, none, .ld (.t 18)⟩,
  ⟨some 20, none, .mv (.t 2)⟩,
  ⟨some 21, none, .build [.int .i64 0, .int .i64 0, .bool false, .bool false] [(0, (1, .t 7)), (1, (1, .t 13)), (2, (1, .t 19)), (3, (1, .t 20))]⟩,
  ⟨none, none, .st 4 (.t 6) (.t 21)⟩]) (.ret)), [.ldA 6 4]⟩
def s_spec_l11Parts_L0 : SCode := .seq (.seq (.rg [⟨some 8, none, .mv (.t 6)⟩,
  ⟨some 9, none, .mv (.t 1)⟩,
  ⟨some 10, none, .lenL (.t 9)⟩,
  ⟨some 11, none, .bin .lss (.t 8) (.t 10)⟩]) (.cond (.t 11) (.skip) (.exit 0))) (.seq (.blk 1 (.rg [⟨some 14, none, .mv (.t 5)⟩,
  ⟨some 15, none, .ldA 4 (.t 2)⟩,
  ⟨some 16, none, .mv (.t 1)⟩,
  ⟨some 17, none, .mv (.t 6)⟩,
  ⟨some 18, none, .ia 2 (.t 16) (.t 17)⟩,
  ⟨some 19, none, .fa 0 (.t 18)⟩,
  ⟨some 20, none, .ld (.t 19)⟩,
  ⟨some 21, none, .mv (.t 1)⟩,
  ⟨some 22, none, .mv (.t 6)⟩,
  ⟨some 23, none, .ia 2 (.t 21) (.t 22)⟩,
  ⟨some 24, none, .fa 1 (.t 23)⟩,
  ⟨some 25, none, .ld (.t 24)⟩,
  ⟨some 26, none, .callP 70 [.t 15, .t 20, .t 25]⟩,
  ⟨some 27, none, .bslice false [.int .i64 0, .int .i64 0, .bool false, .bool false] 1 [(0, .t 26)]⟩,
  ⟨some 28, none, .app false 24 4 (.t 14) (.t 27)⟩,
  ⟨some 5, none, .mv (.t 28)⟩])) (.rg [⟨some 12, none, .mv (.t 6)⟩,
  ⟨some 13, none, .bin .add (.t 12) (.c (.int .i64 1))⟩,
  ⟨some 6, none, .mv (.t 13)⟩]))
def s_spec_l11Parts : SFn := ⟨30, .seq (.rg [⟨some 2, none, .box (.t 0)⟩,
  ⟨some 4, none, .mv (.c .snil)⟩]) (.seq (.rg [⟨some 7, none, .bslice false [.int .i64 0, .int .i64 0, .bool false, .bool false] 0 []⟩,
  ⟨some 5, none, .mv (.t 7)⟩]) (.seq (.seq (.rg [⟨some 6, none, .mv (.c (.int .i64 0))⟩]) (.blk 0 (.loop s_spec_l11Parts_L0))) (.seq (.rg [⟨some 29, none, .mv (.t 5)⟩,
  ⟨some 4, none, .mv (.t 29)⟩]) (.ret)))), [.t 4]⟩
def s_spec_PrimaryPlan : SFn := ⟨11, .seq (.rg [⟨some 1, none, .box (.t 0)⟩,
  ⟨some 2, none, .mv (.c .snil)⟩]) (.seq (.seq (.rg [⟨some 3, none, .ldA 4 (.t 1)⟩,
  ⟨some 4, none, .callP 69 [.t 3]⟩,
  ⟨some 5, none, .bin .neq (.t 4) (.c (.int .i64 0))⟩]) (.cond (.t 5) (.seq (.rg [⟨some 6, none, .bslice false [.int .i64 0, .int .i64 0, .bool false, .bool false] 0 []⟩,
  ⟨some 2, none, .mv (.t 6)⟩]) (.ret)) (.skip))) (.seq (.rg [⟨some 7, none, .ldA 4 (.t 1)⟩,
  ⟨some 8, none, .fa 2 (.t 1)⟩,
  ⟨some 9, none, .ld (.t 8)⟩,
  ⟨some 10, none, .callP 204 [.t 7, .t 9]⟩,
  ⟨some 2, none, .mv (.t 10)⟩]) (.ret))), [.t 2]⟩
def s_spec_IndexPlan : SFn := ⟨31, .seq (.rg [⟨some 2, none, .box (.t 0)⟩,
  ⟨some 4, none, .mv (.c .snil)⟩]) (.seq (.seq (.rg [⟨some 5, none, .ldA 4 (.t 2)⟩,
  ⟨some 6, none, .callP 69 [.t 5]⟩,
  ⟨some 7, none, .bin .neq (.t 6) (.c (.int .i64 0))⟩,
  ⟨some 8, none, .mv (.t 7)⟩,
  ⟨some 9, some (8, false), .mv (.t 1)⟩,
  ⟨some 10, some (8, false), .fa 3 (.t 2)⟩,
  ⟨some 11, some (8, false), .ld (.t 10)⟩,
  ⟨some 12, some (8, false), .lenL (.t 11)⟩,
  ⟨some 13, some (8, false), .bin .sub (.t 12) (.c (.int .i64 1))⟩,
  ⟨some 14, some (8, false), .callP 65 [.t 9, .c (.int .i64 0), .t 13]⟩,
  ⟨some 15, some (8, false), .un .not (.t 14)⟩,
  ⟨some 16, none, .pick (.t 8) (.c (.bool true)) (.t 15)⟩]) (.cond (.t 16) (.seq (.rg [⟨some 17, none, .bslice false [.int .i64 0, .int .i64 0, .bool false, .bool false] 0 []⟩,
  ⟨some 4, none, .mv (.t 17)⟩]) (.ret)) (.skip))) (.seq (.rg [⟨some 18, none, .ldA 4 (.t 2)⟩,
  ⟨some 19, none, .fa 3 (.t 2)⟩,
  ⟨some 20, none, .ld (.t 19)⟩,
  ⟨some 21, none, .mv (.t 1)⟩,
  ⟨some 22, none, .ia 3 (.t 20) (.t 21)⟩,
  ⟨some 23, none, .fa 2 (.t 22)⟩,
  ⟨some 24, none, .ld (.t 23)⟩,
  ⟨some 25, none, .callP 204 [.t 18, .t 24]⟩,
  ⟨some 26, none, .ldA 4 (.t 2)⟩,
  ⟨some 27, none, .fa 2 (.t 2)⟩,
  ⟨some 28, none, .ld (.t 27)⟩,
  ⟨some 29, none, .callP 204 [.t 26, .t 28]⟩,
  ⟨some 30, none, .app false 24 4 (.t 25) (.t 29)⟩,
  ⟨some 4, none, .mv (.t 30)⟩]) (.ret))), [.t 4]⟩
def s_spec_l11Plan : SFn := ⟨12, .seq (.rg [⟨some 2, none, .box (.t 0)⟩,
  ⟨some 4, none, .mv (.c .snil)⟩]) (.seq (.seq (.rg [⟨some 5, none, .mv (.t 1)⟩,
  ⟨some 6, none, .bin .eql (.t 5) (.c (.int .i64 (-1)))⟩]) (.cond (.t 6) (.seq (.rg [⟨some 7, none, .ldA 4 (.t 2)⟩,
  ⟨some 8, none, .callP 133 [.t 7]⟩,
  ⟨some 4, none, .mv (.t 8)⟩]) (.ret)) (.skip))) (.seq (.rg [⟨some 9, none, .ldA 4 (.t 2)⟩,
  ⟨some 10, none, .mv (.t 1)⟩,
  ⟨some 11, none, .callP 134 [.t 9, .t 10]⟩,
  ⟨some 4, none, .mv (.t 11)⟩]) (.ret))), [.t 4]⟩
def s_spec_ValOk : SFn := ⟨56, .seq (.rg [⟨some 1, none, .box (.t 0)⟩,
  ⟨some 2, none, .mv (.c (.bool false))⟩]) (.seq (.seq (.rg [⟨some 3, none, .fa 0 (.t 1)⟩,
  ⟨some 4, none, .ld (.t 3)⟩]) (.blk 0 (.seq (.rg [⟨some 6, none, .bin .eql (.t 4) (.c (.int .i64 0))⟩,
  ⟨some 5, none, .mv (.t 6)⟩]) (.cond (.t 5) (.seq (.rg [⟨some 7, none, .fa 1 (.t 1)⟩,
  ⟨some 8, none, .ld (.t 7)⟩,
  ⟨some 9, none, .bin .eql (.t 8) (.c (.int .i64 0))⟩,
  ⟨some 10, none, .mv (.t 9)⟩,
  ⟨some 11, some (10, true), .fa 2 (.t 1)⟩,
  ⟨some 12, some (10, true), .ld (.t 11)⟩,
  ⟨some 13, some (10, true), .bin .eql (.t 12) (.c (.str []))⟩,
  ⟨some 14, none, .pick (.t 10) (.t 13) (.c (.bool false))⟩,
  ⟨some 2, none, .mv (.t 14)⟩]) (.ret)) (.seq (.rg [⟨some 16, none, .bin .eql (.t 4) (.c (.int .i64 1))⟩,
  ⟨some 15, none, .mv (.t 16)⟩]) (.cond (.t 15) (.seq (.rg [⟨some 17, none, .fa 1 (.t 1)⟩,
  ⟨some 18, none, .ld (.t 17)⟩,
  ⟨some 19, none, .callP 65 [.t 18, .c (.int .i64 (-2147483648)), .c (.int .i64 2147483647)]⟩,
  ⟨some 20, none, .mv (.t 19)⟩,
  ⟨some 21, some (20, true), .fa 2 (.t 1)⟩,
  ⟨some 22, some (20, true), .ld (.t 21)⟩,
  ⟨some 23, some (20, true), .bin .eql (.t 22) (.c (.str []))⟩,
  ⟨some 24, none, .pick (.t 20) (.t 23) (.c (.bool false))⟩,
  ⟨some 2, none, .mv (.t 24)⟩]) (.ret)) (.seq (.rg [⟨some 26, none, .bin .eql (.t 4) (.c (.int .i64 2))⟩,
  ⟨some 25, none, .mv (.t 26)⟩]) (.cond (.t 25) (.seq (.rg [⟨some 27, none, .fa 1 (.t 1)⟩,
  ⟨some 28, none, .ld (.t 27)⟩,
  ⟨some 29, none, .callP 65 [.t 28, .c (.int .i64 (-1000000000000000)), .c (.int .i64 1000000000000000)]⟩,
  ⟨some 30, none, .mv (.t 29)⟩,
  ⟨some 31, some (30, true), .fa 2 (.t 1)⟩,
  ⟨some 32, some (30, true), .ld (.t 31)⟩,
  ⟨some 33, some (30, true), .bin .eql (.t 32) (.c (.str []))⟩,
  ⟨some 34, none, .pick (.t 30) (.t 33) (.c (.bool false))⟩,
  ⟨some 2, none, .mv (.t 34)⟩]) (.ret)) (.seq (.rg [⟨some 36, none, .bin .eql (.t 4) (.c (.int .i64 3))⟩,
  ⟨some 35, none, .mv (.t 36)⟩]) (.cond (.t 35) (.seq (.rg [⟨some 37, none, .fa 2 (.t 1)⟩,
  ⟨some 38, none, .ld (.t 37)⟩,
  ⟨some 39, none, .lenS (.t 38)⟩,
  ⟨some 40, none, .bin .leq (.t 39) (.c (.int .i64 30))⟩,
  ⟨some 41, none, .mv (.t 40)⟩,
  ⟨some 42, some (41, true), .fa 1 (.t 1)⟩,
  ⟨some 43, some (41, true), .ld (.t 42)⟩,
  ⟨some 44, some (41, true), .bin .eql (.t 43) (.c (.int .i64 0))⟩,
  ⟨some 45, none, .pick (.t 41) (.t 44) (.c (.bool false))⟩,
  ⟨some 2, none, .mv (.t 45)⟩]) (.ret)) (.seq (.rg [⟨some 47, none, .bin .eql (.t 4) (.c (.int .i64 4))⟩,
  ⟨some 46, none, .mv (.t 47)⟩]) (.cond (.t 46) (.seq (.rg [⟨some 48, none, .fa 1 (.t 1)⟩,
  ⟨some 49, none, .ld (.t 48)⟩,
  ⟨some 50, none, .callP 65 [.t 49, .c (.int .i64 0), .c (.int .i64 1)]⟩,
  ⟨some 51, none, .mv (.t 50)⟩,
  ⟨some 52, some (51, true), .fa 2 (.t 1)⟩,
  ⟨some 53, some (51, true), .ld (.t 52)⟩,
  ⟨some 54, some (51, true), .bin .eql (.t 53) (.c (.str []))⟩,
  ⟨some 55, none, .pick (.t 51) (.t 54) (.c (.bool false))⟩,
  ⟨some 2, none, .mv (.t 55)⟩]) (.ret)) (.skip))))))))))))) (.seq (.rg [⟨some 2, none, .mv (.c (.bool false))⟩]) (.ret))), [.t 2]⟩
def s_spec_Fits : SFn := ⟨28, .seq (.rg [⟨some 2, none, .box (.t 0)⟩,
  ⟨some 3, none, .box (.t 1)⟩,
  ⟨some 4, none, .mv (.c (.bool false))⟩]) (.seq (.rg [⟨some 5, none, .ldA 3 (.t 3)⟩,
  ⟨some 6, none, .callP 205 [.t 5]⟩,
  ⟨some 7, none, .mv (.t 6)⟩,
  ⟨some 8, some (7, true), .fa 0 (.t 3)⟩,
  ⟨some 9, some (7, true), .ld (.t 8)⟩,
  ⟨some 10, some (7, true), .fa 1 (.t 2)⟩,
  ⟨some 11, some (7, true), .ld (.t 10)⟩,
  ⟨some 12, some (7, true), .bin .eql (.t 9) (.t 11)⟩,
  ⟨some 13, some (7, true), .mv (.t 12)⟩,
  ⟨some 14, some (13, true), .fa 0 (.t 3)⟩,
  ⟨some 15, some (13, true), .ld (.t 14)⟩,
  ⟨some 16, some (13, true), .bin .neq (.t 15) (.c (.int .i64 0))⟩,
  ⟨some 17, some (7, true), .pick (.t 13) (.t 16) (.c (.bool false))⟩,
  ⟨some 18, some (7, true), .mv (.t 17)⟩,
  ⟨some 19, some (18, false), .fa 0 (.t 3)⟩,
  ⟨some 20, some (18, false), .ld (.t 19)⟩,
  ⟨some 21, some (18, false), .bin .eql (.t 20) (.c (.int .i64 0))⟩,
  ⟨some 22, some (18, false), .mv (.t 21)⟩,
  ⟨some 23, some (22, true), .fa 2 (.t 2)⟩,
  ⟨some 24, some (22, true), .ld (.t 23)⟩,
  ⟨some 25, some (18, false), .pick (.t 22) (.t 24) (.c (.bool false))⟩,
  ⟨some 26, some (7, true), .pick (.t 18) (.c (.bool true)) (.t 25)⟩,
  ⟨some 27, none, .pick (.t 7) (.t 26) (.c (.bool false))⟩,
  ⟨some 4, none, .mv (.t 27)⟩]) (.ret)), [.t 4]⟩
def s_spec_FitsAll_L0 : SCode := .seq (.seq (.rg [⟨some 11, none, .mv (.t 5)⟩,
  ⟨some 12, none, .mv (.t 1)⟩,
  ⟨some 13, none, .lenL (.t 12)⟩,
  ⟨some 14, none, .bin .lss (.t 11) (.t 13)⟩]) (.cond (.t 14) (.skip) (.exit 0))) (.seq (.blk 1 (.seq (.rg [⟨some 17, none, .mv (.t 0)⟩,
  ⟨some 18, none, .mv (.t 5)⟩,
  ⟨some 19, none, .ia 4 (.t 17) (.t 18)⟩,
  ⟨some 20, none, .ldA 4 (.t 19)⟩,
  ⟨some 21, none, .mv (.t 1)⟩,
  ⟨some 22, none, .mv (.t 5)⟩,
  ⟨some 23, none, .ia 3 (.t 21) (.t 22)⟩,
  ⟨some 24, none, .ldA 3 (.t 23)⟩,
  ⟨some 25, none, .callP 135 [.t 20, .t 24]⟩,
  ⟨some 26, none, .un .not (.t 25)⟩]) (.cond (.t 26) (.seq (.rg [⟨some 4, none, .mv (.c (.bool false))⟩]) (.ret)) (.skip)))) (.rg [⟨some 15, none, .mv (.t 5)⟩,
  ⟨some 16, none, .bin .add (.t 15) (.c (.int .i64 1))⟩,
  ⟨some 5, none, .mv (.t 16)⟩]))
def s_spec_FitsAll : SFn := ⟨27, .seq (.rg [⟨some 4, none, .mv (.c (.bool false))⟩]) (.seq (.seq (.rg [⟨some 6, none, .mv (.t 1)⟩,
  ⟨some 7, none, .lenL (.t 6)⟩,
  ⟨some 8, none, .mv (.t 0)⟩,
  ⟨some 9, none, .lenL (.t 8)⟩,
  ⟨some 10, none, .bin .gtr (.t 7) (.t 9)⟩]) (.cond (.t 10) (.seq (.rg [⟨some 4, none, .mv (.c (.bool false))⟩]) (.ret)) (.skip))) (.seq (.seq (.rg [⟨some 5, none, .mv (.c (.int .i64 0))⟩]) (.blk 0 (.loop s_spec_FitsAll_L0))) (.seq (.rg [⟨some 4, none, .mv (.c (.bool true))⟩]) (.ret)))), [.t 4]⟩
def s_spec_ScanOk : SFn := ⟨37, .seq (.rg [⟨some 3, none, .box (.t 1)⟩,
  ⟨some 4, none, .mv (.c (.bool false))⟩]) (.seq (.seq (.rg [⟨some 6, none, .mv (.t 0)⟩,
  ⟨some 7, none, .fa 0 (.t 3)⟩,
  ⟨some 8, none, .ld (.t 7)⟩,
  ⟨some 9, none, .fa 1 (.t 3)⟩,
  ⟨some 10, none, .ld (.t 9)⟩,
  ⟨some 11, none, .callP 64 [.t 6, .t 8, .t 10]⟩,
  ⟨some 12, none, .un .not (.t 11)⟩,
  ⟨some 13, none, .mv (.t 12)⟩,
  ⟨some 14, some (13, false), .fa 7 (.t 3)⟩,
  ⟨some 15, some (13, false), .ld (.t 14)⟩,
  ⟨some 16, some (13, false), .callP 65 [.t 15, .c (.int .i64 0), .c (.int .i64 100)]⟩,
  ⟨some 17, some (13, false), .un .not (.t 16)⟩,
  ⟨some 18, none, .pick (.t 13) (.c (.bool true)) (.t 17)⟩]) (.cond (.t 18) (.seq (.rg [⟨some 4, none, .mv (.c (.bool false))⟩]) (.ret)) (.skip))) (.seq (.rg [⟨some 19, none, .mv (.t 0)⟩,
  ⟨some 20, none, .fa 0 (.t 3)⟩,
  ⟨some 21, none, .ld (.t 20)⟩,
  ⟨some 22, none, .ia 4 (.t 19) (.t 21)⟩,
  ⟨some 23, none, .ldA 4 (.t 22)⟩,
  ⟨some 24, none, .fa 1 (.t 3)⟩,
  ⟨some 25, none, .ld (.t 24)⟩,
  ⟨some 26, none, .callP 66 [.t 23, .t 25]⟩,
  ⟨some 5, none, .mv (.t 26)⟩]) (.seq (.rg [⟨some 27, none, .mv (.t 5)⟩,
  ⟨some 28, none, .fa 2 (.t 3)⟩,
  ⟨some 29, none, .ld (.t 28)⟩,
  ⟨some 30, none, .callP 67 [.t 27, .t 29]⟩,
  ⟨some 31, none, .mv (.t 30)⟩,
  ⟨some 32, some (31, true), .mv (.t 5)⟩,
  ⟨some 33, some (31, true), .fa 3 (.t 3)⟩,
  ⟨some 34, some (31, true), .ld (.t 33)⟩,
  ⟨some 35, some (31, true), .callP 67 [.t 32, .t 34]⟩,
  ⟨some 36, none, .pick (.t 31) (.t 35) (.c (.bool false))⟩,
  ⟨some 4, none, .mv (.t 36)⟩]) (.ret)))), [.t 4]⟩
def s_spec_RowPlan_L0 : SCode := .seq (.seq (.rg [⟨some 6, none, .mv (.t 4)⟩,
  ⟨some 7, none, .fa 1 (.t 1)⟩,
  ⟨some 8, none, .ld (.t 7)⟩,
  ⟨some 9, none, .lenL (.t 8)⟩,
  ⟨some 10, none, .bin .lss (.t 6) (.t 9)⟩,
  ⟨some 11, none, .mv (.t 10)⟩,
  ⟨some 12, some (11, true), .ldA 4 (.t 1)⟩,
  ⟨some 13, some (11, true), .callP 69 [.t 12]⟩,
  ⟨some 14, some (11, true), .bin .eql (.t 13) (.c (.int .i64 0))⟩,
  ⟨some 15, none, .pick (.t 11) (.t 14) (.c (.bool false))⟩]) (.cond (.t 15) (.skip) (.exit 0))) (.seq (.blk 1 (.rg [⟨some 18, none, .mv (.t 3)⟩,
  ⟨some 19, none, .ldA 4 (.t 1)⟩,
  ⟨some 20, none, .mv (.t 4)⟩,
  ⟨some 21, none, .callP 70 [.t 19, .t 20, .c (.bool false)]⟩,
  ⟨some 22, none, .bslice false [.int .i64 0, .int .i64 0, .bool false, .bool false] 1 [(0, .t 21)]⟩,
  ⟨some 23, none, .app false 24 4 (.t 18) (.t 22)⟩,
  ⟨some 3, none, .mv (.t 23)⟩])) (.rg [⟨some 16, none, .mv (.t 4)⟩,
  ⟨some 17, none, .bin .add (.t 16) (.c (.int .i64 1))⟩,
  ⟨some 4, none, .mv (.t 17)⟩]))
def s_spec_RowPlan : SFn := ⟨25, .seq (.rg [⟨some 1, none, .box (.t 0)⟩,
  ⟨some 2, none, .mv (.c .snil)⟩]) (.seq (.rg [⟨some 5, none, .bslice false [.int .i64 0, .int .i64 0, .bool false, .bool false] 0 []⟩,
  ⟨some 3, none, .mv (.t 5)⟩]) (.seq (.seq (.rg [⟨some 4, none, .mv (.c (.int .i64 0))⟩]) (.blk 0 (.loop s_spec_RowPlan_L0))) (.seq (.rg [⟨some 24, none, .mv (.t 3)⟩,
  ⟨some 2, none, .mv (.t 24)⟩]) (.ret)))), [.t 2]⟩
def s_spec_PartOk : SFn := ⟨11, .seq (.rg [⟨some 1, none, .box (.t 0)⟩,
  ⟨some 2, none, .mv (.c (.bool false))⟩]) (.seq (.rg [⟨some 3, none, .fa 0 (.t 1)⟩,
  ⟨some 4, none, .ld (.t 3)⟩,
  ⟨some 5, none, .callP 65 [.t 4, .c (.int .i64 0), .c (.int .i64 9)]⟩,
  ⟨some 6, none, .mv (.t 5)⟩,
  ⟨some 7, some (6, true), .fa 1 (.t 1)⟩,
  ⟨some 8, some (6, true), .ld (.t 7)⟩,
  ⟨some 9, some (6, true), .callP 65 [.t 8, .c (.int .i64 1), .c (.int .i64 4)]⟩,
  ⟨some 10, none, .pick (.t 6) (.t 9) (.c (.bool false))⟩,
  ⟨some 2, none, .mv (.t 10)⟩]) (.ret)), [.t 2]⟩
def s_spec_PlanOk_L0 : SCode := .seq (.seq (.rg [⟨some 4, none, .mv (.t 3)⟩,
  ⟨some 5, none, .mv (.t 0)⟩,
  ⟨some 6, none, .lenL (.t 5)⟩,
  ⟨some 7, none, .bin .lss (.t 4) (.t 6)⟩]) (.cond (.t 7) (.skip) (.exit 0))) (.seq (.blk 1 (.seq (.rg [⟨some 10, none, .mv (.t 0)⟩,
  ⟨some 11, none, .mv (.t 3)⟩,
  ⟨some 12, none, .ia 4 (.t 10) (.t 11)⟩,
  ⟨some 13, none, .ldA 4 (.t 12)⟩,
  ⟨some 14, none, .callP 136 [.t 13]⟩,
  ⟨some 15, none, .un .not (.t 14)⟩]) (.cond (.t 15) (.seq (.rg [⟨some 2, none, .mv (.c (.bool false))⟩]) (.ret)) (.skip)))) (.rg [⟨some 8, none, .mv (.t 3)⟩,
  ⟨some 9, none, .bin .add (.t 8) (.c (.int .i64 1))⟩,
  ⟨some 3, none, .mv (.t 9)⟩]))
def s_spec_PlanOk : SFn := ⟨19, .seq (.rg [⟨some 2, none, .mv (.c (.bool false))⟩]) (.seq (.seq (.rg [⟨some 3, none, .mv (.c (.int .i64 0))⟩]) (.blk 0 (.loop s_spec_PlanOk_L0))) (.seq (.rg [⟨some 16, none, .mv (.t 0)⟩,
  ⟨some 17, none, .lenL (.t 16)⟩,
  ⟨some 18, none, .bin .leq (.t 17) (.c (.int .i64 6))⟩,
  ⟨some 2, none, .mv (.t 18)⟩]) (.ret))), [.t 2]⟩
def s_spec_RowOk : SFn := ⟨19, .seq (.rg [⟨some 4, none, .mv (.c (.bool false))⟩]) (.seq (.rg [⟨some 5, none, .mv (.t 0)⟩,
  ⟨some 6, none, .callP 68 [.t 5]⟩,
  ⟨some 7, none, .mv (.t 6)⟩,
  ⟨some 8, some (7, true), .mv (.t 1)⟩,
  ⟨some 9, some (7, true), .lenL (.t 8)⟩,
  ⟨some 10, some (7, true), .mv (.t 0)⟩,
  ⟨some 11, some (7, true), .lenL (.t 10)⟩,
  ⟨some 12, some (7, true), .bin .eql (.t 9) (.t 11)⟩,
  ⟨some 13, none, .pick (.t 7) (.t 12) (.c (.bool false))⟩,
  ⟨some 14, none, .mv (.t 13)⟩,
  ⟨some 15, some (14, true), .mv (.t 0)⟩,
  ⟨some 16, some (14, true), .mv (.t 1)⟩,
  ⟨some 17, some (14, true), .callP 67 [.t 15, .t 16]⟩,
  ⟨some 18, none, .pick (.t 14) (.t 17) (.c (.bool false))⟩,
  ⟨some 4, none, .mv (.t 18)⟩]) (.ret)), [.t 4]⟩
def s_spec_Pick_L0 : SCode := .seq (.seq (.rg [⟨some 9, none, .mv (.t 6)⟩,
  ⟨some 10, none, .mv (.t 0)⟩,
  ⟨some 11, none, .lenL (.t 10)⟩,
  ⟨some 12, none, .bin .lss (.t 9) (.t 11)⟩]) (.cond (.t 12) (.skip) (.exit 0))) (.seq (.blk 1 (.seq (.rg [⟨some 15, none, .build [.int .i64 0, .int .i64 0, .str []] []⟩,
  ⟨some 7, none, .alloc [.int .i64 0, .int .i64 0, .str []]⟩,
  ⟨none, none, .st 3 (.t 7) (.t 15)⟩]) (.seq (.seq (.rg [⟨some 16, none, .mv (.t 0)⟩,
  ⟨some 17, none, .mv (.t 6)⟩,
  ⟨some 18, none, .ia 4 (.t 16) (.t 17)⟩,
  ⟨some 19, none, .fa 0 (.t 18)⟩,
  ⟨some 20, none, .ld (.t 19)⟩,
  ⟨some 21, none, .mv (.t 1)⟩,
  ⟨some 22, none, .lenL (.t 21)⟩,
  ⟨some 23, none, .bin .sub (.t 22) (.c (.int .i64 1))⟩,
  ⟨some 24, none, .callP 65 [.t 20, .c (.int .i64 0), .t 23]⟩]) (.cond (.t 24) (.rg [⟨some 25, none, .mv (.t 1)⟩,
  ⟨some 26, none, .mv (.t 0)⟩,
  ⟨some 27, none, .mv (.t 6)⟩,
  ⟨some 28, none, .ia 4 (.t 26) (.t 27)⟩,
  ⟨some 29, none, .fa 0 (.t 28)⟩,
  ⟨some 30, none, .ld (.t 29)⟩,
  ⟨some 31, none, .ia 3 (.t 25) (.t 30)⟩,
  ⟨some 32, none, .ldA 3 (.t 31)⟩,
  ⟨none, none, .st 3 (.t 7) (.t 32)⟩]) (.skip))) (.rg [⟨some 33, none, .mv (.t 5)⟩,
  ⟨some 34, none, .ldA 3 (.t 7)⟩,
  ⟨some 35, none, .bslice false [.int .i64 0, .int .i64 0, .str []] 1 [(0, .t 34)]⟩,
  ⟨some 36, none, .app false 32 3 (.t 33) (.t 35)⟩,
  ⟨some 5, none, .mv (.t 36)⟩])))) (.rg [⟨some 13, none, .mv (.t 6)⟩,
  ⟨some 14, none, .bin .add (.t 13) (.c (.int .i64 1))⟩,
  ⟨some 6, none, .mv (.t 14)⟩]))
def s_spec_Pick : SFn := ⟨38, .seq (.rg [⟨some 4, none, .mv (.c .snil)⟩]) (.seq (.rg [⟨some 8, none, .bslice false [.int .i64 0, .int .i64 0, .str []] 0 []⟩,
  ⟨some 5, none, .mv (.t 8)⟩]) (.seq (.seq (.rg [⟨some 6, none, .mv (.c (.int .i64 0))⟩]) (.blk 0 (.loop s_spec_Pick_L0))) (.seq (.rg [⟨some 37, none, .mv (.t 5)⟩,
  ⟨some 4, none, .mv (.t 37)⟩]) (.ret)))), [.t 4]⟩
def s_spec_SameRow_L0 : SCode := .seq (.seq (.rg [⟨some 11, none, .mv (.t 5)⟩,
  ⟨some 12, none, .mv (.t 0)⟩,
  ⟨some 13, none, .lenL (.t 12)⟩,
  ⟨some 14, none, .bin .lss (.t 11) (.t 13)⟩]) (.cond (.t 14) (.skip) (.exit 0))) (.seq (.blk 1 (.seq (.rg [⟨some 17, none, .mv (.t 0)⟩,
  ⟨some 18, none, .mv (.t 5)⟩,
  ⟨some 19, none, .ia 3 (.t 17) (.t 18)⟩,
  ⟨some 20, none, .ldA 3 (.t 19)⟩,
  ⟨some 21, none, .mv (.t 1)⟩,
  ⟨some 22, none, .mv (.t 5)⟩,
  ⟨some 23, none, .ia 3 (.t 21) (.t 22)⟩,
  ⟨some 24, none, .ldA 3 (.t 23)⟩,
  ⟨some 25, none, .binF .neq [.int .i64, .int .i64, .str] (.t 20) (.t 24)⟩]) (.cond (.t 25) (.seq (.rg [⟨some 4, none, .mv (.c (.bool false))⟩]) (.ret)) (.skip)))) (.rg [⟨some 15, none, .mv (.t 5)⟩,
  ⟨some 16, none, .bin .add (.t 15) (.c (.int .i64 1))⟩,
  ⟨some 5, none, .mv (.t 16)⟩]))
def s_spec_SameRow : SFn := ⟨26, .seq (.rg [⟨some 4, none, .mv (.c (.bool false))⟩]) (.seq (.seq (.rg [⟨some 6, none, .mv (.t 0)⟩,
  ⟨some 7, none, .lenL (.t 6)⟩,
  ⟨some 8, none, .mv (.t 1)⟩,
  ⟨some 9, none, .lenL (.t 8)⟩,
  ⟨some 10, none, .bin .neq (.t 7) (.t 9)⟩]) (.cond (.t 10) (.seq (.rg [⟨some 4, none, .mv (.c (.bool false))⟩]) (.ret)) (.skip))) (.seq (.seq (.rg [⟨some 5, none, .mv (.c (.int .i64 0))⟩]) (.blk 0 (.loop s_spec_SameRow_L0))) (.seq (.rg [⟨some 4, none, .mv (.c (.bool true))⟩]) (.ret)))), [.t 4]⟩
def s_spec_SameVal : SFn := ⟨8, .seq (.rg [⟨some 2, none, .box (.t 0)⟩,
  ⟨some 3, none, .box (.t 1)⟩,
  ⟨some 4, none, .mv (.c (.bool false))⟩]) (.seq (.rg [⟨some 5, none, .ldA 3 (.t 2)⟩,
  ⟨some 6, none, .ldA 3 (.t 3)⟩,
  ⟨some 7, none, .binF .eql [.int .i64, .int .i64, .str] (.t 5) (.t 6)⟩,
  ⟨some 4, none, .mv (.t 7)⟩]) (.ret)), [.t 4]⟩
def s_spec_LessVal : SFn := ⟨30, .seq (.rg [⟨some 2, none, .box (.t 0)⟩,
  ⟨some 3, none, .box (.t 1)⟩,
  ⟨some 4, none, .mv (.c (.bool false))⟩]) (.seq (.seq (.rg [⟨some 5, none, .fa 0 (.t 2)⟩,
  ⟨some 6, none, .ld (.t 5)⟩,
  ⟨some 7, none, .fa 0 (.t 3)⟩,
  ⟨some 8, none, .ld (.t 7)⟩,
  ⟨some 9, none, .bin .neq (.t 6) (.t 8)⟩]) (.cond (.t 9) (.seq (.rg [⟨some 10, none, .fa 0 (.t 2)⟩,
  ⟨some 11, none, .ld (.t 10)⟩,
  ⟨some 12, none, .fa 0 (.t 3)⟩,
  ⟨some 13, none, .ld (.t 12)⟩,
  ⟨some 14, none, .bin .lss (.t 11) (.t 13)⟩,
  ⟨some 4, none, .mv (.t 14)⟩]) (.ret)) (.skip))) (.seq (.seq (.rg [⟨some 15, none, .fa 1 (.t 2)⟩,
  ⟨some 16, none, .ld (.t 15)⟩,
  ⟨some 17, none, .fa 1 (.t 3)⟩,
  ⟨some 18, none, .ld (.t 17)⟩,
  ⟨some 19, none, .bin .neq (.t 16) (.t 18)⟩]) (.cond (.t 19) (.seq (.rg [⟨some 20, none, .fa 1 (.t 2)⟩,
  ⟨some 21, none, .ld (.t 20)⟩,
  ⟨some 22, none, .fa 1 (.t 3)⟩,
  ⟨some 23, none, .ld (.t 22)⟩,
  ⟨some 24, none, .bin .lss (.t 21) (.t 23)⟩,
  ⟨some 4, none, .mv (.t 24)⟩]) (.ret)) (.skip))) (.seq (.rg [⟨some 25, none, .fa 2 (.t 2)⟩,
  ⟨some 26, none, .ld (.t 25)⟩,
  ⟨some 27, none, .fa 2 (.t 3)⟩,
  ⟨some 28, none, .ld (.t 27)⟩,
  ⟨some 29, none, .bin .lss (.t 26) (.t 28)⟩,
  ⟨some 4, none, .mv (.t 29)⟩]) (.ret)))), [.t 4]⟩
def s_spec_LessPart : SFn := ⟨15, .seq (.rg [⟨some 3, none, .box (.t 0)⟩,
  ⟨some 4, none, .box (.t 1)⟩,
  ⟨some 5, none, .box (.t 2)⟩,
  ⟨some 6, none, .mv (.c (.bool false))⟩]) (.seq (.seq (.rg [⟨some 7, none, .fa 3 (.t 3)⟩,
  ⟨some 8, none, .ld (.t 7)⟩]) (.cond (.t 8) (.seq (.rg [⟨some 9, none, .ldA 3 (.t 5)⟩,
  ⟨some 10, none, .ldA 3 (.t 4)⟩,
  ⟨some 11, none, .callP 209 [.t 9, .t 10]⟩,
  ⟨some 6, none, .mv (.t 11)⟩]) (.ret)) (.skip))) (.seq (.rg [⟨some 12, none, .ldA 3 (.t 4)⟩,
  ⟨some 13, none, .ldA 3 (.t 5)⟩,
  ⟨some 14, none, .callP 209 [.t 12, .t 13]⟩,
  ⟨some 6, none, .mv (.t 14)⟩]) (.ret))), [.t 6]⟩
def s_spec_LessKey_L0 : SCode := .seq (.seq (.rg [⟨some 8, none, .mv (.t 7)⟩,
  ⟨some 9, none, .mv (.t 1)⟩,
  ⟨some 10, none, .lenL (.t 9)⟩,
  ⟨some 11, none, .bin .lss (.t 8) (.t 10)⟩,
  ⟨some 12, none, .mv (.t 11)⟩,
  ⟨some 13, some (12, true), .mv (.t 7)⟩,
  ⟨some 14, some (12, true), .mv (.t 2)⟩,
  ⟨some 15, some (12, true), .lenL (.t 14)⟩,
  ⟨some 16, some (12, true), .bin .lss (.t 13) (.t 15)⟩,
  ⟨some 17, none, .pick (.t 12) (.t 16) (.c (.bool false))⟩]) (.cond (.t 17) (.skip) (.exit 0))) (.seq (.blk 1 (.seq (.rg [⟨some 20, none, .mv (.t 1)⟩,
  ⟨some 21, none, .mv (.t 7)⟩,
  ⟨some 22, none, .ia 3 (.t 20) (.t 21)⟩,
  ⟨some 23, none, .ldA 3 (.t 22)⟩,
  ⟨some 24, none, .mv (.t 2)⟩,
  ⟨some 25, none, .mv (.t 7)⟩,
  ⟨some 26, none, .ia 3 (.t 24) (.t 25)⟩,
  ⟨some 27, none, .ldA 3 (.t 26)⟩,
  ⟨some 28, none, .callP 141 [.t 23, .t 27]⟩,
  ⟨some 29, none, .un .not (.t 28)⟩]) (.cond (.t 29) (.seq (.rg [⟨some 30, none, .mv (.t 7)⟩,
  ⟨some 31, none, .mv (.t 0)⟩,
  ⟨some 32, none, .lenL (.t 31)⟩,
  ⟨some 33, none, .bin .lss (.t 30) (.t 32)⟩,
  ⟨some 34, none, .mv (.t 33)⟩,
  ⟨some 35, some (34, true), .mv (.t 0)⟩,
  ⟨some 36, some (34, true), .mv (.t 7)⟩,
  ⟨some 37, some (34, true), .ia 4 (.t 35) (.t 36)⟩,
  ⟨some 38, some (34, true), .ldA 4 (.t 37)⟩,
  ⟨some 39, some (34, true), .mv (.t 1)⟩,
  ⟨some 40, some (34, true), .mv (.t 7)⟩,
  ⟨some 41, some (34, true), .ia 3 (.t 39) (.t 40)⟩,
  ⟨some 42, some (34, true), .ldA 3 (.t 41)⟩,
  ⟨some 43, some (34, true), .mv (.t 2)⟩,
  ⟨some 44, some (34, true), .mv (.t 7)⟩,
  ⟨some 45, some (34, true), .ia 3 (.t 43) (.t 44)⟩,
  ⟨some 46, some (34, true), .ldA 3 (.t 45)⟩,
  ⟨some 47, some (34, true), .callP 142 [.t 38, .t 42, .t 46]⟩,
  ⟨some 48, none, .pick (.t 34) (.t 47) (.c (.bool false))⟩,
  ⟨some 6, none, .mv (.t 48)⟩]) (.ret)) (.skip)))) (.rg [⟨some 18, none, .mv (.t 7)⟩,
  ⟨some 19, none, .bin .add (.t 18) (.c (.int .i64 1))⟩,
  ⟨some 7, none, .mv (.t 19)⟩]))
def s_spec_LessKey : SFn := ⟨54, .seq (.rg [⟨some 6, none, .mv (.c (.bool false))⟩]) (.seq (.seq (.rg [⟨some 7, none, .mv (.c (.int .i64 0))⟩]) (.blk 0 (.loop s_spec_LessKey_L0))) (.seq (.rg [⟨some 49, none, .mv (.t 1)⟩,
  ⟨some 50, none, .lenL (.t 49)⟩,
  ⟨some 51, none, .mv (.t 2)⟩,
  ⟨some 52, none, .lenL (.t 51)⟩,
  ⟨some 53, none, .bin .lss (.t 50) (.t 52)⟩,
  ⟨some 6, none, .mv (.t 53)⟩]) (.ret))), [.t 6]⟩
def s_spec_l24In : SFn := ⟨76, .seq (.rg [⟨some 4, none, .box (.t 1)⟩,
  ⟨some 6, none, .mv (.c (.bool false))⟩]) (.seq (.rg [⟨some 11, none, .mv (.t 0)⟩,
  ⟨some 12, none, .fa 0 (.t 4)⟩,
  ⟨some 13, none, .ld (.t 12)⟩,
  ⟨some 14, none, .ia 4 (.t 11) (.t 13)⟩,
  ⟨some 15, none, .ldA 4 (.t 14)⟩,
  ⟨some 16, none, .fa 1 (.t 4)⟩,
  ⟨some 17, none, .ld (.t 16)⟩,
  ⟨some 18, none, .callP 66 [.t 15, .t 17]⟩,
  ⟨some 7, none, .mv (.t 18)⟩]) (.seq (.rg [⟨some 19, none, .mv (.t 7)⟩,
  ⟨some 20, none, .mv (.t 2)⟩,
  ⟨some 21, none, .callP 71 [.t 19, .t 20]⟩,
  ⟨some 8, none, .mv (.t 21)⟩]) (.seq (.rg [⟨some 22, none, .mv (.t 8)⟩,
  ⟨some 23, none, .fa 2 (.t 4)⟩,
  ⟨some 24, none, .ld (.t 23)⟩,
  ⟨some 25, none, .lenL (.t 24)⟩,
  ⟨some 26, none, .sliL 3 (.t 22) none (some (.t 25))⟩,
  ⟨some 9, none, .mv (.t 26)⟩]) (.seq (.rg [⟨some 27, none, .mv (.t 8)⟩,
  ⟨some 28, none, .fa 3 (.t 4)⟩,
  ⟨some 29, none, .ld (.t 28)⟩,
  ⟨some 30, none, .lenL (.t 29)⟩,
  ⟨some 31, none, .sliL 3 (.t 27) none (some (.t 30))⟩,
  ⟨some 10, none, .mv (.t 31)⟩]) (.seq (.seq (.rg [⟨some 32, none, .mv (.t 9)⟩,
  ⟨some 33, none, .fa 2 (.t 4)⟩,
  ⟨some 34, none, .ld (.t 33)⟩,
  ⟨some 35, none, .callP 72 [.t 32, .t 34]⟩,
  ⟨some 36, none, .mv (.t 35)⟩,
  ⟨some 37, some (36, true), .fa 4 (.t 4)⟩,
  ⟨some 38, some (36, true), .ld (.t 37)⟩,
  ⟨some 39, none, .pick (.t 36) (.t 38) (.c (.bool false))⟩,
  ⟨some 40, none, .mv (.t 39)⟩,
  ⟨some 41, some (40, true), .fa 2 (.t 4)⟩,
  ⟨some 42, some (40, true), .ld (.t 41)⟩,
  ⟨some 43, some (40, true), .lenL (.t 42)⟩,
  ⟨some 44, some (40, true), .bin .gtr (.t 43) (.c (.int .i64 0))⟩,
  ⟨some 45, none, .pick (.t 40) (.t 44) (.c (.bool false))⟩,
  ⟨some 46, none, .mv (.t 45)⟩,
  ⟨some 47, some (46, false), .mv (.t 10)⟩,
  ⟨some 48, some (46, false), .fa 3 (.t 4)⟩,
  ⟨some 49, some (46, false), .ld (.t 48)⟩,
  ⟨some 50, some (46, false), .callP 72 [.t 47, .t 49]⟩,
  ⟨some 51, some (46, false), .mv (.t 50)⟩,
  ⟨some 52, some (51, true), .fa 5 (.t 4)⟩,
  ⟨some 53, some (51, true), .ld (.t 52)⟩,
  ⟨some 54, some (46, false), .pick (.t 51) (.t 53) (.c (.bool false))⟩,
  ⟨some 55, some (46, false), .mv (.t 54)⟩,
  ⟨some 56, some (55, true), .fa 3 (.t 4)⟩,
  ⟨some 57, some (55, true), .ld (.t 56)⟩,
  ⟨some 58, some (55, true), .lenL (.t 57)⟩,
  ⟨some 59, some (55, true), .bin .gtr (.t 58) (.c (.int .i64 0))⟩,
  ⟨some 60, some (46, false), .pick (.t 55) (.t 59) (.c (.bool false))⟩,
  ⟨some 61, none, .pick (.t 46) (.c (.bool true)) (.t 60)⟩]) (.cond (.t 61) (.seq (.rg [⟨some 6, none, .mv (.c (.bool false))⟩]) (.ret)) (.skip))) (.seq (.rg [⟨some 62, none, .mv (.t 7)⟩,
  ⟨some 63, none, .mv (.t 9)⟩,
  ⟨some 64, none, .fa 2 (.t 4)⟩,
  ⟨some 65, none, .ld (.t 64)⟩,
  ⟨some 66, none, .callP 73 [.t 62, .t 63, .t 65]⟩,
  ⟨some 67, none, .un .not (.t 66)⟩,
  ⟨some 68, none, .mv (.t 67)⟩,
  ⟨some 69, some (68, true), .mv (.t 7)⟩,
  ⟨some 70, some (68, true), .fa 3 (.t 4)⟩,
  ⟨some 71, some (68, true), .ld (.t 70)⟩,
  ⟨some 72, some (68, true), .mv (.t 10)⟩,
  ⟨some 73, some (68, true), .callP 73 [.t 69, .t 71, .t 72]⟩,
  ⟨some 74, some (68, true), .un .not (.t 73)⟩,
  ⟨some 75, none, .pick (.t 68) (.t 74) (.c (.bool false))⟩,
  ⟨some 6, none, .mv (.t 75)⟩]) (.ret))))))), [.t 6]⟩
def s_spec_InScan : SFn := ⟨26, .seq (.rg [⟨some 4, none, .box (.t 1)⟩,
  ⟨some 6, none, .mv (.c (.bool false))⟩]) (.seq (.rg [⟨some 7, none, .mv (.t 0)⟩,
  ⟨some 8, none, .ldA 8 (.t 4)⟩,
  ⟨some 9, none, .callP 29 [.t 7, .t 8]⟩,
  ⟨some 10, none, .mv (.t 9)⟩,
  ⟨some 11, some (10, true), .mv (.t 0)⟩,
  ⟨some 12, some (10, true), .fa 0 (.t 4)⟩,
  ⟨some 13, some (10, true), .ld (.t 12)⟩,
  ⟨some 14, some (10, true), .ia 4 (.t 11) (.t 13)⟩,
  ⟨some 15, some (10, true), .ldA 4 (.t 14)⟩,
  ⟨some 16, some (10, true), .callP 31 [.t 15]⟩,
  ⟨some 17, some (10, true), .mv (.t 2)⟩,
  ⟨some 18, some (10, true), .callP 30 [.t 16, .t 17]⟩,
  ⟨some 19, none, .pick (.t 10) (.t 18) (.c (.bool false))⟩,
  ⟨some 20, none, .mv (.t 19)⟩,
  ⟨some 21, some (20, true), .mv (.t 0)⟩,
  ⟨some 22, some (20, true), .ldA 8 (.t 4)⟩,
  ⟨some 23, some (20, true), .mv (.t 2)⟩,
  ⟨some 24, some (20, true), .callP 32 [.t 21, .t 22, .t 23]⟩,
  ⟨some 25, none, .pick (.t 20) (.t 24) (.c (.bool false))⟩,
  ⟨some 6, none, .mv (.t 25)⟩]) (.ret)), [.t 6]⟩
def s_impl_in : SFn := ⟨15, .seq (.rg [⟨some 6, none, .mv (.c (.bool false))⟩]) (.seq (.rg [⟨some 7, none, .mv (.t 0)⟩,
  ⟨some 8, none, .mv (.t 1)⟩,
  ⟨some 9, none, .bin .geq (.t 7) (.t 8)⟩,
  ⟨some 10, none, .mv (.t 9)⟩,
  ⟨some 11, some (10, true), .mv (.t 0)⟩,
  ⟨some 12, some (10, true), .mv (.t 2)⟩,
  ⟨some 13, some (10, true), .bin .leq (.t 11) (.t 12)⟩,
  ⟨some 14, none, .pick (.t 10) (.t 13) (.c (.bool false))⟩,
  ⟨some 6, none, .mv (.t 14)⟩]) (.ret)), [.t 6]⟩
def s_impl_partsOk_L0 : SCode := .seq (.rg [⟨some 29, none, .bin .lss (.t 28) (.t 27)⟩]) (.seq (.cond (.t 29) (.skip) (.exit 2)) (.seq (.blk 3 (.seq (.rg [⟨some 30, none, .ia 2 (.t 26) (.t 28)⟩,
  ⟨some 31, none, .ldA 2 (.t 30)⟩,
  ⟨some 8, none, .alloc [.int .i64 0, .bool false]⟩,
  ⟨none, none, .st 2 (.t 8) (.t 31)⟩]) (.seq (.rg [⟨some 32, none, .fa 0 (.t 8)⟩,
  ⟨some 33, none, .ld (.t 32)⟩,
  ⟨some 34, none, .fa 0 (.t 6)⟩,
  ⟨some 35, none, .ld (.t 34)⟩,
  ⟨some 36, none, .bin .eql (.t 33) (.t 35)⟩]) (.cond (.t 36) (.seq (.rg [⟨some 4, none, .mv (.c (.bool false))⟩]) (.ret)) (.skip))))) (.rg [⟨some 37, none, .bin .add (.t 28) (.c (.int .i64 1))⟩,
  ⟨some 28, none, .mv (.t 37)⟩])))
def s_impl_partsOk_L1 : SCode := .seq (.rg [⟨some 12, none, .bin .lss (.t 11) (.t 10)⟩]) (.seq (.cond (.t 12) (.skip) (.exit 0)) (.seq (.blk 1 (.seq (.rg [⟨some 13, none, .mv (.t 11)⟩,
  ⟨some 14, none, .ia 2 (.t 9) (.t 11)⟩,
  ⟨some 15, none, .ldA 2 (.t 14)⟩,
  ⟨some 6, none, .alloc [.int .i64 0, .bool false]⟩,
  ⟨some 5, none, .mv (.t 13)⟩,
  ⟨none, none, .st 2 (.t 6) (.t 15)⟩]) (.seq (.seq (.rg [⟨some 16, none, .fa 0 (.t 6)⟩,
  ⟨some 17, none, .ld (.t 16)⟩,
  ⟨some 18, none, .fa 1 (.t 2)⟩,
  ⟨some 19, none, .ld (.t 18)⟩,
  ⟨some 20, none, .lenL (.t 19)⟩,
  ⟨some 21, none, .bin .sub (.t 20) (.c (.int .i64 1))⟩,
  ⟨some 22, none, .callP 78 [.t 17, .c (.int .i64 0), .t 21]⟩,
  ⟨some 23, none, .un .not (.t 22)⟩]) (.cond (.t 23) (.seq (.rg [⟨some 4, none, .mv (.c (.bool false))⟩]) (.ret)) (.skip))) (.seq (.rg [⟨some 24, none, .mv (.t 1)⟩,
  ⟨some 25, none, .mv (.t 5)⟩,
  ⟨some 26, none, .sliL 2 (.t 24) none (some (.t 25))⟩,
  ⟨some 27, none, .lenL (.t 26)⟩,
  ⟨some 28, none, .mv (.c (.int .i64 0))⟩]) (.blk 2 (.loop s_impl_partsOk_L0)))))) (.rg [⟨some 38, none, .bin .add (.t 11) (.c (.int .i64 1))⟩,
  ⟨some 11, none, .mv (.t 38)⟩])))
def s_impl_partsOk : SFn := ⟨42, .seq (.rg [⟨some 2, none, .box (.t 0)⟩,
  ⟨some 4, none, .mv (.c (.bool false))⟩]) (.seq (.seq (.rg [⟨some 9, none, .mv (.t 1)⟩,
  ⟨some 10, none, .lenL (.t 9)⟩,
  ⟨some 11, none, .mv (.c (.int .i64 0))⟩]) (.blk 0 (.loop s_impl_partsOk_L1))) (.seq (.rg [⟨some 39, none, .mv (.t 1)⟩,
  ⟨some 40, none, .lenL (.t 39)⟩,
  ⟨some 41, none, .callP 78 [.t 40, .c (.int .i64 1), .c (.int .i64 2)]⟩,
  ⟨some 4, none, .mv (.t 41)⟩]) (.ret))), [.t 4]⟩
def s_impl_isLetter : SFn := ⟨9, .seq (.rg [⟨some 2, none, .mv (.c (.bool false))⟩]) (.seq (.rg [⟨some 3, none, .mv (.t 0)⟩,
  ⟨some 4, none, .bin .geq (.t 3) (.c (.int .u8 97))⟩,
  ⟨some 5, none, .mv (.t 4)⟩,
  ⟨some 6, some (5, true), .mv (.t 0)⟩,
  ⟨some 7, some (5, true), .bin .leq (.t 6) (.c (.int .u8 122))⟩,
  ⟨some 8, none, .pick (.t 5) (.t 7) (.c (.bool false))⟩,
  ⟨some 2, none, .mv (.t 8)⟩]) (.ret)), [.t 2]⟩
def s_impl_isDigit : SFn := ⟨9, .seq (.rg [⟨some 2, none, .mv (.c (.bool false))⟩]) (.seq (.rg [⟨some 3, none, .mv (.t 0)⟩,
  ⟨some 4, none, .bin .geq (.t 3) (.c (.int .u8 48))⟩,
  ⟨some 5, none, .mv (.t 4)⟩,
  ⟨some 6, some (5, true), .mv (.t 0)⟩,
  ⟨some 7, some (5, true), .bin .leq (.t 6) (.c (.int .u8 57))⟩,
  ⟨some 8, none, .pick (.t 5) (.t 7) (.c (.bool false))⟩,
  ⟨some 2, none, .mv (.t 8)⟩]) (.ret)), [.t 2]⟩
def s_impl_nameOk_L0 : SCode := .seq (.seq (.rg [⟨some 4, none, .mv (.t 3)⟩,
  ⟨some 5, none, .mv (.t 0)⟩,
  ⟨some 6, none, .lenS (.t 5)⟩,
  ⟨some 7, none, .bin .lss (.t 4) (.t 6)⟩]) (.cond (.t 7) (.skip) (.exit 0))) (.seq (.blk 1 (.seq (.rg [⟨some 10, none, .mv (.t 0)⟩,
  ⟨some 11, none, .mv (.t 3)⟩,
  ⟨some 12, none, .ix (.t 10) (.t 11)⟩,
  ⟨some 13, none, .callP 297 [.t 12]⟩,
  ⟨some 14, none, .un .not (.t 13)⟩,
  ⟨some 15, none, .mv (.t 14)⟩,
  ⟨some 16, some (15, true), .mv (.t 3)⟩,
  ⟨some 17, some (15, true), .bin .eql (.t 16) (.c (.int .i64 0))⟩,
  ⟨some 18, some (15, true), .mv (.t 17)⟩,
  ⟨some 19, some (18, false), .mv (.t 0)⟩,
  ⟨some 20, some (18, false), .mv (.t 3)⟩,
  ⟨some 21, some (18, false), .ix (.t 19) (.t 20)⟩,
  ⟨some 22, some (18, false), .callP 298 [.t 21]⟩,
  ⟨some 23, some (18, false), .un .not (.t 22)⟩,
  ⟨some 24, some (15, true), .pick (.t 18) (.c (.bool true)) (.t 23)⟩,
  ⟨some 25, none, .pick (.t 15) (.t 24) (.c (.bool false))⟩]) (.cond (.t 25) (.seq (.rg [⟨some 2, none, .mv (.c (.bool false))⟩]) (.ret)) (.skip)))) (.rg [⟨some 8, none, .mv (.t 3)⟩,
  ⟨some 9, none, .bin .add (.t 8) (.c (.int .i64 1))⟩,
  ⟨some 3, none, .mv (.t 9)⟩]))
def s_impl_nameOk : SFn := ⟨29, .seq (.rg [⟨some 2, none, .mv (.c (.bool false))⟩]) (.seq (.seq (.rg [⟨some 3, none, .mv (.c (.int .i64 0))⟩]) (.blk 0 (.loop s_impl_nameOk_L0))) (.seq (.rg [⟨some 26, none, .mv (.t 0)⟩,
  ⟨some 27, none, .lenS (.t 26)⟩,
  ⟨some 28, none, .callP 78 [.t 27, .c (.int .i64 1), .c (.int .i64 8)]⟩,
  ⟨some 2, none, .mv (.t 28)⟩]) (.ret))), [.t 2]⟩
def s_impl_isFree_L0 : SCode := .seq (.rg [⟨some 8, none, .bin .lss (.t 7) (.t 6)⟩]) (.seq (.cond (.t 8) (.skip) (.exit 0)) (.seq (.blk 1 (.seq (.rg [⟨some 9, none, .ia 1 (.t 5) (.t 7)⟩,
  ⟨some 10, none, .ld (.t 9)⟩,
  ⟨some 4, none, .mv (.t 10)⟩]) (.seq (.rg [⟨some 11, none, .mv (.t 4)⟩,
  ⟨some 12, none, .mv (.t 0)⟩,
  ⟨some 13, none, .bin .eql (.t 11) (.t 12)⟩]) (.cond (.t 13) (.seq (.rg [⟨some 2, none, .mv (.c (.bool false))⟩]) (.ret)) (.skip))))) (.rg [⟨some 14, none, .bin .add (.t 7) (.c (.int .i64 1))⟩,
  ⟨some 7, none, .mv (.t 14)⟩])))
def s_impl_isFree : SFn := ⟨17, .seq (.rg [⟨some 2, none, .mv (.c (.bool false))⟩]) (.seq (.seq (.rg [⟨some 5, none, .callP 252 [.c (.str [116, 97, 98, 108, 101, 32, 112, 114, 105, 109, 97, 114, 121, 32, 117, 110, 105, 113, 117, 101, 32, 105, 110, 100, 101, 120, 32, 110, 117, 108, 108, 32, 100, 101, 115, 99, 32, 105, 110, 116, 32, 110, 117, 109, 32, 116, 101, 120, 116, 32, 98, 111, 111, 108]), .c (.str [32])]⟩,
  ⟨some 6, none, .lenL (.t 5)⟩,
  ⟨some 7, none, .mv (.c (.int .i64 0))⟩]) (.blk 0 (.loop s_impl_isFree_L0))) (.seq (.rg [⟨some 15, none, .mv (.t 0)⟩,
  ⟨some 16, none, .callP 253 [.t 15]⟩,
  ⟨some 2, none, .mv (.t 16)⟩]) (.ret))), [.t 2]⟩
def s_impl_namesOk_L0 : SCode := .seq (.rg [⟨some 11, none, .bin .lss (.t 10) (.t 9)⟩]) (.seq (.cond (.t 11) (.skip) (.exit 0)) (.seq (.blk 1 (.seq (.rg [⟨some 12, none, .ia 3 (.t 8) (.t 10)⟩,
  ⟨some 13, none, .ldA 3 (.t 12)⟩,
  ⟨some 4, none, .alloc [.str [], .int .i64 0, .bool false]⟩,
  ⟨none, none, .st 3 (.t 4) (.t 13)⟩]) (.seq (.rg [⟨some 14, none, .fa 0 (.t 4)⟩,
  ⟨some 15, none, .ld (.t 14)⟩,
  ⟨some 16, none, .callP 211 [.t 15]⟩,
  ⟨some 17, none, .un .not (.t 16)⟩]) (.cond (.t 17) (.seq (.rg [⟨some 2, none, .mv (.c (.bool false))⟩]) (.ret)) (.skip))))) (.rg [⟨some 18, none, .bin .add (.t 10) (.c (.int .i64 1))⟩,
  ⟨some 10, none, .mv (.t 18)⟩])))
def s_impl_namesOk_L1 : SCode := .seq (.rg [⟨some 23, none, .bin .lss (.t 22) (.t 21)⟩]) (.seq (.cond (.t 23) (.skip) (.exit 2)) (.seq (.blk 3 (.seq (.rg [⟨some 24, none, .ia 3 (.t 20) (.t 22)⟩,
  ⟨some 25, none, .ldA 3 (.t 24)⟩,
  ⟨some 6, none, .alloc [.str [], .bool false, .snil]⟩,
  ⟨none, none, .st 3 (.t 6) (.t 25)⟩]) (.seq (.rg [⟨some 26, none, .fa 0 (.t 6)⟩,
  ⟨some 27, none, .ld (.t 26)⟩,
  ⟨some 28, none, .callP 211 [.t 27]⟩,
  ⟨some 29, none, .un .not (.t 28)⟩]) (.cond (.t 29) (.seq (.rg [⟨some 2, none, .mv (.c (.bool false))⟩]) (.ret)) (.skip))))) (.rg [⟨some 30, none, .bin .add (.t 22) (.c (.int .i64 1))⟩,
  ⟨some 22, none, .mv (.t 30)⟩])))
def s_impl_namesOk : SFn := ⟨34, .seq (.rg [⟨some 1, none, .box (.t 0)⟩,
  ⟨some 2, none, .mv (.c (.bool false))⟩]) (.seq (.seq (.rg [⟨some 7, none, .fa 1 (.t 1)⟩,
  ⟨some 8, none, .ld (.t 7)⟩,
  ⟨some 9, none, .lenL (.t 8)⟩,
  ⟨some 10, none, .mv (.c (.int .i64 0))⟩]) (.blk 0 (.loop s_impl_namesOk_L0))) (.seq (.seq (.rg [⟨some 19, none, .fa 3 (.t 1)⟩,
  ⟨some 20, none, .ld (.t 19)⟩,
  ⟨some 21, none, .lenL (.t 20)⟩,
  ⟨some 22, none, .mv (.c (.int .i64 0))⟩]) (.blk 2 (.loop s_impl_namesOk_L1))) (.seq (.rg [⟨some 31, none, .fa 0 (.t 1)⟩,
  ⟨some 32, none, .ld (.t 31)⟩,
  ⟨some 33, none, .callP 211 [.t 32]⟩,
  ⟨some 2, none, .mv (.t 33)⟩]) (.ret)))), [.t 2]⟩
def s_impl_twice_L0 : SCode := .seq (.rg [⟨some 25, none, .bin .lss (.t 24) (.t 23)⟩]) (.seq (.cond (.t 25) (.skip) (.exit 2)) (.seq (.blk 3 (.seq (.rg [⟨some 26, none, .ia 3 (.t 22) (.t 24)⟩,
  ⟨some 27, none, .ldA 3 (.t 26)⟩,
  ⟨some 6, none, .alloc [.str [], .int .i64 0, .bool false]⟩,
  ⟨none, none, .st 3 (.t 6) (.t 27)⟩]) (.seq (.rg [⟨some 28, none, .fa 0 (.t 6)⟩,
  ⟨some 29, none, .ld (.t 28)⟩,
  ⟨some 30, none, .fa 0 (.t 4)⟩,
  ⟨some 31, none, .ld (.t 30)⟩,
  ⟨some 32, none, .bin .eql (.t 29) (.t 31)⟩]) (.cond (.t 32) (.seq (.rg [⟨some 2, none, .mv (.c (.bool true))⟩]) (.ret)) (.skip))))) (.rg [⟨some 33, none, .bin .add (.t 24) (.c (.int .i64 1))⟩,
  ⟨some 24, none, .mv (.t 33)⟩])))
def s_impl_twice_L1 : SCode := .seq (.rg [⟨some 15, none, .bin .lss (.t 14) (.t 13)⟩]) (.seq (.cond (.t 15) (.skip) (.exit 0)) (.seq (.blk 1 (.seq (.rg [⟨some 16, none, .mv (.t 14)⟩,
  ⟨some 17, none, .ia 3 (.t 12) (.t 14)⟩,
  ⟨some 18, none, .ldA 3 (.t 17)⟩,
  ⟨some 4, none, .alloc [.str [], .int .i64 0, .bool false]⟩,
  ⟨some 3, none, .mv (.t 16)⟩,
  ⟨none, none, .st 3 (.t 4) (.t 18)⟩]) (.seq (.rg [⟨some 19, none, .fa 1 (.t 1)⟩,
  ⟨some 20, none, .ld (.t 19)⟩,
  ⟨some 21, none, .mv (.t 3)⟩,
  ⟨some 22, none, .sliL 3 (.t 20) none (some (.t 21))⟩,
  ⟨some 23, none, .lenL (.t 22)⟩,
  ⟨some 24, none, .mv (.c (.int .i64 0))⟩]) (.blk 2 (.loop s_impl_twice_L0))))) (.rg [⟨some 34, none, .bin .add (.t 14) (.c (.int .i64 1))⟩,
  ⟨some 14, none, .mv (.t 34)⟩])))
def s_impl_twice_L2 : SCode := .seq (.rg [⟨some 49, none, .bin .lss (.t 48) (.t 47)⟩]) (.seq (.cond (.t 49) (.skip) (.exit 6)) (.seq (.blk 7 (.seq (.rg [⟨some 50, none, .ia 3 (.t 46) (.t 48)⟩,
  ⟨some 51, none, .ldA 3 (.t 50)⟩,
  ⟨some 10, none, .alloc [.str [], .bool false, .snil]⟩,
  ⟨none, none, .st 3 (.t 10) (.t 51)⟩]) (.seq (.rg [⟨some 52, none, .fa 0 (.t 10)⟩,
  ⟨some 53, none, .ld (.t 52)⟩,
  ⟨some 54, none, .fa 0 (.t 8)⟩,
  ⟨some 55, none, .ld (.t 54)⟩,
  ⟨some 56, none, .bin .eql (.t 53) (.t 55)⟩]) (.cond (.t 56) (.seq (.rg [⟨some 2, none, .mv (.c (.bool true))⟩]) (.ret)) (.skip))))) (.rg [⟨some 57, none, .bin .add (.t 48) (.c (.int .i64 1))⟩,
  ⟨some 48, none, .mv (.t 57)⟩])))
def s_impl_twice_L3 : SCode := .seq (.rg [⟨some 39, none, .bin .lss (.t 38) (.t 37)⟩]) (.seq (.cond (.t 39) (.skip) (.exit 4)) (.seq (.blk 5 (.seq (.rg [⟨some 40, none, .mv (.t 38)⟩,
  ⟨some 41, none, .ia 3 (.t 36) (.t 38)⟩,
  ⟨some 42, none, .ldA 3 (.t 41)⟩,
  ⟨some 8, none, .alloc [.str [], .bool false, .snil]⟩,
  ⟨some 7, none, .mv (.t 40)⟩,
  ⟨none, none, .st 3 (.t 8) (.t 42)⟩]) (.seq (.rg [⟨some 43, none, .fa 3 (.t 1)⟩,
  ⟨some 44, none, .ld (.t 43)⟩,
  ⟨some 45, none, .mv (.t 7)⟩,
  ⟨some 46, none, .sliL 3 (.t 44) none (some (.t 45))⟩,
  ⟨some 47, none, .lenL (.t 46)⟩,
  ⟨some 48, none, .mv (.c (.int .i64 0))⟩]) (.blk 6 (.loop s_impl_twice_L2))))) (.rg [⟨some 58, none, .bin .add (.t 38) (.c (.int .i64 1))⟩,
  ⟨some 38, none, .mv (.t 58)⟩])))
def s_impl_twice : SFn := ⟨59, .seq (.rg [⟨some 1, none, .box (.t 0)⟩,
  ⟨some 2, none, .mv (.c (.bool false))⟩]) (.seq (.seq (.rg [⟨some 11, none, .fa 1 (.t 1)⟩,
  ⟨some 12, none, .ld (.t 11)⟩,
  ⟨some 13, none, .lenL (.t 12)⟩,
  ⟨some 14, none, .mv (.c (.int .i64 0))⟩]) (.blk 0 (.loop s_impl_twice_L1))) (.seq (.seq (.rg [⟨some 35, none, .fa 3 (.t 1)⟩,
  ⟨some 36, none, .ld (.t 35)⟩,
  ⟨some 37, none, .lenL (.t 36)⟩,
  ⟨some 38, none, .mv (.c (.int .i64 0))⟩]) (.blk 4 (.loop s_impl_twice_L3))) (.seq (.rg [⟨some 2, none, .mv (.c (.bool false))⟩]) (.ret)))), [.t 2]⟩
def s_impl_CheckDef_L0 : SCode := .seq (.rg [⟨some 21, none, .bin .lss (.t 20) (.t 19)⟩]) (.seq (.cond (.t 21) (.skip) (.exit 0)) (.seq (.blk 1 (.seq (.rg [⟨some 22, none, .ia 3 (.t 18) (.t 20)⟩,
  ⟨some 23, none, .ldA 3 (.t 22)⟩,
  ⟨some 4, none, .alloc [.str [], .int .i64 0, .bool false]⟩,
  ⟨none, none, .st 3 (.t 4) (.t 23)⟩]) (.seq (.rg [⟨some 24, none, .fa 1 (.t 4)⟩,
  ⟨some 25, none, .ld (.t 24)⟩,
  ⟨some 26, none, .callP 78 [.t 25, .c (.int .i64 1), .c (.int .i64 4)]⟩,
  ⟨some 27, none, .un .not (.t 26)⟩]) (.cond (.t 27) (.seq (.rg [⟨some 2, none, .mv (.c (.int .i64 2))⟩]) (.ret)) (.skip))))) (.rg [⟨some 28, none, .bin .add (.t 20) (.c (.int .i64 1))⟩,
  ⟨some 20, none, .mv (.t 28)⟩])))
def s_impl_CheckDef_L1 : SCode := .seq (.rg [⟨some 39, none, .bin .lss (.t 38) (.t 37)⟩]) (.seq (.cond (.t 39) (.skip) (.exit 2)) (.seq (.blk 3 (.seq (.rg [⟨some 40, none, .ia 3 (.t 36) (.t 38)⟩,
  ⟨some 41, none, .ldA 3 (.t 40)⟩,
  ⟨some 6, none, .alloc [.str [], .bool false, .snil]⟩,
  ⟨none, none, .st 3 (.t 6) (.t 41)⟩]) (.seq (.rg [⟨some 42, none, .ldA 4 (.t 1)⟩,
  ⟨some 43, none, .fa 2 (.t 6)⟩,
  ⟨some 44, none, .ld (.t 43)⟩,
  ⟨some 45, none, .callP 150 [.t 42, .t 44]⟩,
  ⟨some 46, none, .un .not (.t 45)⟩]) (.cond (.t 46) (.seq (.rg [⟨some 2, none, .mv (.c (.int .i64 5))⟩]) (.ret)) (.skip))))) (.rg [⟨some 47, none, .bin .add (.t 38) (.c (.int .i64 1))⟩,
  ⟨some 38, none, .mv (.t 47)⟩])))
def s_impl_CheckDef_L2 : SCode := .seq (.rg [⟨some 57, none, .bin .lss (.t 56) (.t 55)⟩]) (.seq (.cond (.t 57) (.skip) (.exit 4)) (.seq (.blk 5 (.seq (.rg [⟨some 58, none, .ia 2 (.t 54) (.t 56)⟩,
  ⟨some 59, none, .ldA 2 (.t 58)⟩,
  ⟨some 8, none, .alloc [.int .i64 0, .bool false]⟩,
  ⟨none, none, .st 2 (.t 8) (.t 59)⟩]) (.seq (.rg [⟨some 60, none, .fa 1 (.t 1)⟩,
  ⟨some 61, none, .ld (.t 60)⟩,
  ⟨some 62, none, .fa 0 (.t 8)⟩,
  ⟨some 63, none, .ld (.t 62)⟩,
  ⟨some 64, none, .ia 3 (.t 61) (.t 63)⟩,
  ⟨some 65, none, .fa 2 (.t 64)⟩,
  ⟨some 66, none, .ld (.t 65)⟩]) (.cond (.t 66) (.seq (.rg [⟨some 2, none, .mv (.c (.int .i64 4))⟩]) (.ret)) (.skip))))) (.rg [⟨some 67, none, .bin .add (.t 56) (.c (.int .i64 1))⟩,
  ⟨some 56, none, .mv (.t 67)⟩])))
def s_impl_CheckDef : SFn := ⟨68, .seq (.rg [⟨some 1, none, .box (.t 0)⟩,
  ⟨some 2, none, .mv (.c (.int .i64 0))⟩]) (.seq (.seq (.rg [⟨some 9, none, .ldA 4 (.t 1)⟩,
  ⟨some 10, none, .callP 148 [.t 9]⟩,
  ⟨some 11, none, .un .not (.t 10)⟩]) (.cond (.t 11) (.seq (.rg [⟨some 2, none, .mv (.c (.int .i64 1))⟩]) (.ret)) (.skip))) (.seq (.seq (.rg [⟨some 12, none, .fa 1 (.t 1)⟩,
  ⟨some 13, none, .ld (.t 12)⟩,
  ⟨some 14, none, .lenL (.t 13)⟩,
  ⟨some 15, none, .callP 78 [.t 14, .c (.int .i64 1), .c (.int .i64 6)]⟩,
  ⟨some 16, none, .un .not (.t 15)⟩]) (.cond (.t 16) (.seq (.rg [⟨some 2, none, .mv (.c (.int .i64 2))⟩]) (.ret)) (.skip))) (.seq (.seq (.rg [⟨some 17, none, .fa 1 (.t 1)⟩,
  ⟨some 18, none, .ld (.t 17)⟩,
  ⟨some 19, none, .lenL (.t 18)⟩,
  ⟨some 20, none, .mv (.c (.int .i64 0))⟩]) (.blk 0 (.loop s_impl_CheckDef_L0))) (.seq (.seq (.rg [⟨some 29, none, .ldA 4 (.t 1)⟩,
  ⟨some 30, none, .callP 149 [.t 29]⟩]) (.cond (.t 30) (.seq (.rg [⟨some 2, none, .mv (.c (.int .i64 3))⟩]) (.ret)) (.skip))) (.seq (.seq (.rg [⟨some 31, none, .fa 3 (.t 1)⟩,
  ⟨some 32, none, .ld (.t 31)⟩,
  ⟨some 33, none, .lenL (.t 32)⟩,
  ⟨some 34, none, .bin .gtr (.t 33) (.c (.int .i64 2))⟩]) (.cond (.t 34) (.seq (.rg [⟨some 2, none, .mv (.c (.int .i64 6))⟩]) (.ret)) (.skip))) (.seq (.seq (.rg [⟨some 35, none, .fa 3 (.t 1)⟩,
  ⟨some 36, none, .ld (.t 35)⟩,
  ⟨some 37, none, .lenL (.t 36)⟩,
  ⟨some 38, none, .mv (.c (.int .i64 0))⟩]) (.blk 2 (.loop s_impl_CheckDef_L1))) (.seq (.seq (.rg [⟨some 48, none, .ldA 4 (.t 1)⟩,
  ⟨some 49, none, .fa 2 (.t 1)⟩,
  ⟨some 50, none, .ld (.t 49)⟩,
  ⟨some 51, none, .callP 150 [.t 48, .t 50]⟩,
  ⟨some 52, none, .un .not (.t 51)⟩]) (.cond (.t 52) (.seq (.rg [⟨some 2, none, .mv (.c (.int .i64 5))⟩]) (.ret)) (.skip))) (.seq (.seq (.rg [⟨some 53, none, .fa 2 (.t 1)⟩,
  ⟨some 54, none, .ld (.t 53)⟩,
  ⟨some 55, none, .lenL (.t 54)⟩,
  ⟨some 56, none, .mv (.c (.int .i64 0))⟩]) (.blk 4 (.loop s_impl_CheckDef_L2))) (.seq (.rg [⟨some 2, none, .mv (.c (.int .i64 0))⟩]) (.ret)))))))))), [.t 2]⟩
def s_impl_FirstBad_L0 : SCode := .seq (.rg [⟨some 27, none, .bin .lss (.t 26) (.t 25)⟩]) (.seq (.cond (.t 27) (.skip) (.exit 2)) (.seq (.blk 3 (.seq (.rg [⟨some 28, none, .ia 4 (.t 24) (.t 26)⟩,
  ⟨some 29, none, .ldA 4 (.t 28)⟩,
  ⟨some 6, none, .alloc [.str [], .snil, .snil, .snil]⟩,
  ⟨none, none, .st 4 (.t 6) (.t 29)⟩]) (.seq (.rg [⟨some 30, none, .fa 0 (.t 6)⟩,
  ⟨some 31, none, .ld (.t 30)⟩,
  ⟨some 32, none, .fa 0 (.t 4)⟩,
  ⟨some 33, none, .ld (.t 32)⟩,
  ⟨some 34, none, .bin .eql (.t 31) (.t 33)⟩]) (.cond (.t 34) (.seq (.rg [⟨some 35, none, .mv (.t 3)⟩,
  ⟨some 2, none, .mv (.t 35)⟩]) (.ret)) (.skip))))) (.rg [⟨some 36, none, .bin .add (.t 26) (.c (.int .i64 1))⟩,
  ⟨some 26, none, .mv (.t 36)⟩])))
def s_impl_FirstBad_L1 : SCode := .seq (.rg [⟨some 10, none, .bin .lss (.t 9) (.t 8)⟩]) (.seq (.cond (.t 10) (.skip) (.exit 0)) (.seq (.blk 1 (.seq (.rg [⟨some 11, none, .mv (.t 9)⟩,
  ⟨some 12, none, .ia 4 (.t 7) (.t 9)⟩,
  ⟨some 13, none, .ldA 4 (.t 12)⟩,
  ⟨some 4, none, .alloc [.str [], .snil, .snil, .snil]⟩,
  ⟨some 3, none, .mv (.t 11)⟩,
  ⟨none, none, .st 4 (.t 4) (.t 13)⟩]) (.seq (.seq (.rg [⟨some 14, none, .mv (.t 3)⟩,
  ⟨some 15, none, .bin .geq (.t 14) (.c (.int .i64 3))⟩,
  ⟨some 16, none, .mv (.t 15)⟩,
  ⟨some 17, some (16, false), .ldA 4 (.t 4)⟩,
  ⟨some 18, some (16, false), .callP 81 [.t 17]⟩,
  ⟨some 19, some (16, false), .bin .neq (.t 18) (.c (.int .i64 0))⟩,
  ⟨some 20, none, .pick (.t 16) (.c (.bool true)) (.t 19)⟩]) (.cond (.t 20) (.seq (.rg [⟨some 21, none, .mv (.t 3)⟩,
  ⟨some 2, none, .mv (.t 21)⟩]) (.ret)) (.skip))) (.seq (.rg [⟨some 22, none, .mv (.t 0)⟩,
  ⟨some 23, none, .mv (.t 3)⟩,
  ⟨some 24, none, .sliL 4 (.t 22) none (some (.t 23))⟩,
  ⟨some 25, none, .lenL (.t 24)⟩,
  ⟨some 26, none, .mv (.c (.int .i64 0))⟩]) (.blk 2 (.loop s_impl_FirstBad_L0)))))) (.rg [⟨some 37, none, .bin .add (.t 9) (.c (.int .i64 1))⟩,
  ⟨some 9, none, .mv (.t 37)⟩])))
def s_impl_FirstBad : SFn := ⟨38, .seq (.rg [⟨some 2, none, .mv (.c (.int .i64 0))⟩]) (.seq (.seq (.rg [⟨some 7, none, .mv (.t 0)⟩,
  ⟨some 8, none, .lenL (.t 7)⟩,
  ⟨some 9, none, .mv (.c (.int .i64 0))⟩]) (.blk 0 (.loop s_impl_FirstBad_L1))) (.seq (.rg [⟨some 2, none, .mv (.c (.int .i64 (-1)))⟩]) (.ret))), [.t 2]⟩
def s_impl_hasIndex : SFn := ⟨28, .seq (.rg [⟨some 6, none, .mv (.c (.bool false))⟩]) (.seq (.rg [⟨some 7, none, .mv (.t 0)⟩,
  ⟨some 8, none, .callP 50 [.t 7]⟩,
  ⟨some 9, none, .bin .eql (.t 8) (.c (.int .i64 (-1)))⟩,
  ⟨some 10, none, .mv (.t 9)⟩,
  ⟨some 11, some (10, true), .mv (.t 1)⟩,
  ⟨some 12, some (10, true), .mv (.t 0)⟩,
  ⟨some 13, some (10, true), .lenL (.t 12)⟩,
  ⟨some 14, some (10, true), .bin .sub (.t 13) (.c (.int .i64 1))⟩,
  ⟨some 15, some (10, true), .callP 78 [.t 11, .c (.int .i64 0), .t 14]⟩,
  ⟨some 16, none, .pick (.t 10) (.t 15) (.c (.bool false))⟩,
  ⟨some 17, none, .mv (.t 16)⟩,
  ⟨some 18, some (17, true), .mv (.t 2)⟩,
  ⟨some 19, some (17, true), .mv (.t 0)⟩,
  ⟨some 20, some (17, true), .mv (.t 1)⟩,
  ⟨some 21, some (17, true), .ia 4 (.t 19) (.t 20)⟩,
  ⟨some 22, some (17, true), .fa 3 (.t 21)⟩,
  ⟨some 23, some (17, true), .ld (.t 22)⟩,
  ⟨some 24, some (17, true), .lenL (.t 23)⟩,
  ⟨some 25, some (17, true), .bin .sub (.t 24) (.c (.int .i64 1))⟩,
  ⟨some 26, some (17, true), .callP 78 [.t 18, .c (.int .i64 (-1)), .t 25]⟩,
  ⟨some 27, none, .pick (.t 17) (.t 26) (.c (.bool false))⟩,
  ⟨some 6, none, .mv (.t 27)⟩]) (.ret)), [.t 6]⟩
def s_impl_partsOf_L0 : SCode := .seq (.rg [⟨some 12, none, .bin .lss (.t 11) (.t 10)⟩]) (.seq (.cond (.t 12) (.skip) (.exit 0)) (.seq (.blk 1 (.seq (.rg [⟨some 13, none, .ia 2 (.t 9) (.t 11)⟩,
  ⟨some 14, none, .ldA 2 (.t 13)⟩,
  ⟨some 7, none, .alloc [.int .i64 0, .bool false]⟩,
  ⟨none, none, .st 2 (.t 7) (.t 14)⟩]) (.seq (.rg [⟨some 15, none, .fa 1 (.t 2)⟩,
  ⟨some 16, none, .ld (.t 15)⟩,
  ⟨some 17, none, .fa 0 (.t 7)⟩,
  ⟨some 18, none, .ld (.t 17)⟩,
  ⟨some 19, none, .ia 3 (.t 16) (.t 18)⟩,
  ⟨some 20, none, .ldA 3 (.t 19)⟩,
  ⟨some 8, none, .alloc [.str [], .int .i64 0, .bool false]⟩,
  ⟨none, none, .st 3 (.t 8) (.t 20)⟩]) (.rg [⟨some 21, none, .mv (.t 5)⟩,
  ⟨some 22, none, .fa 0 (.t 7)⟩,
  ⟨some 23, none, .ld (.t 22)⟩,
  ⟨some 24, none, .fa 1 (.t 8)⟩,
  ⟨some 25, none, .ld (.t 24)⟩,
  ⟨some 26, none, .fa 2 (.t 8)⟩,
  ⟨some 27, none, .ld (.t 26)⟩,
  ⟨some 28, none, .fa 1 (.t 7)⟩,
  ⟨some 29, none, .ld (.t 28)⟩,
  ⟨some 30, none, .build [.int .i64 0, .int .i64 0, .bool false, .bool false] [(0, (1, .t 23)), (1, (1, .t 25)), (2, (1, .t 27)), (3, (1, .t 29))]⟩,
  ⟨some 31, none, .bslice false [.int .i64 0, .int .i64 0, .bool false, .bool false] 1 [(0, .t 30)]⟩,
  ⟨some 32, none, .app false 24 4 (.t 21) (.t 31)⟩,
  ⟨some 5, none, .mv (.t 32)⟩])))) (.rg [⟨some 33, none, .bin .add (.t 11) (.c (.int .i64 1))⟩,
  ⟨some 11, none, .mv (.t 33)⟩])))
def s_impl_partsOf : SFn := ⟨35, .seq (.rg [⟨some 2, none, .box (.t 0)⟩,
  ⟨some 4, none, .mv (.c .snil)⟩]) (.seq (.rg [⟨some 5, none, .mv (.c .snil)⟩]) (.seq (.seq (.rg [⟨some 9, none, .mv (.t 1)⟩,
  ⟨some 10, none, .lenL (.t 9)⟩,
  ⟨some 11, none, .mv (.c (.int .i64 0))⟩]) (.blk 0 (.loop s_impl_partsOf_L0))) (.seq (.rg [⟨some 34, none, .mv (.t 5)⟩,
  ⟨some 4, none, .mv (.t 34)⟩]) (.ret)))), [.t 4]⟩
def s_impl_PrimaryPlan : SFn := ⟨10, .seq (.rg [⟨some 1, none, .box (.t 0)⟩,
  ⟨some 2, none, .mv (.c .snil)⟩]) (.seq (.seq (.rg [⟨some 3, none, .ldA 4 (.t 1)⟩,
  ⟨some 4, none, .callP 81 [.t 3]⟩,
  ⟨some 5, none, .bin .neq (.t 4) (.c (.int .i64 0))⟩]) (.cond (.t 5) (.seq (.rg [⟨some 2, none, .mv (.c .snil)⟩]) (.ret)) (.skip))) (.seq (.rg [⟨some 6, none, .ldA 4 (.t 1)⟩,
  ⟨some 7, none, .fa 2 (.t 1)⟩,
  ⟨some 8, none, .ld (.t 7)⟩,
  ⟨some 9, none, .callP 151 [.t 6, .t 8]⟩,
  ⟨some 2, none, .mv (.t 9)⟩]) (.ret))), [.t 2]⟩
def s_impl_IndexPlan : SFn := ⟨30, .seq (.rg [⟨some 2, none, .box (.t 0)⟩,
  ⟨some 4, none, .mv (.c .snil)⟩]) (.seq (.seq (.rg [⟨some 5, none, .ldA 4 (.t 2)⟩,
  ⟨some 6, none, .callP 81 [.t 5]⟩,
  ⟨some 7, none, .bin .neq (.t 6) (.c (.int .i64 0))⟩,
  ⟨some 8, none, .mv (.t 7)⟩,
  ⟨some 9, some (8, false), .mv (.t 1)⟩,
  ⟨some 10, some (8, false), .fa 3 (.t 2)⟩,
  ⟨some 11, some (8, false), .ld (.t 10)⟩,
  ⟨some 12, some (8, false), .lenL (.t 11)⟩,
  ⟨some 13, some (8, false), .bin .sub (.t 12) (.c (.int .i64 1))⟩,
  ⟨some 14, some (8, false), .callP 78 [.t 9, .c (.int .i64 0), .t 13]⟩,
  ⟨some 15, some (8, false), .un .not (.t 14)⟩,
  ⟨some 16, none, .pick (.t 8) (.c (.bool true)) (.t 15)⟩]) (.cond (.t 16) (.seq (.rg [⟨some 4, none, .mv (.c .snil)⟩]) (.ret)) (.skip))) (.seq (.rg [⟨some 17, none, .ldA 4 (.t 2)⟩,
  ⟨some 18, none, .fa 3 (.t 2)⟩,
  ⟨some 19, none, .ld (.t 18)⟩,
  ⟨some 20, none, .mv (.t 1)⟩,
  ⟨some 21, none, .ia 3 (.t 19) (.t 20)⟩,
  ⟨some 22, none, .fa 2 (.t 21)⟩,
  ⟨some 23, none, .ld (.t 22)⟩,
  ⟨some 24, none, .callP 151 [.t 17, .t 23]⟩,
  ⟨some 25, none, .ldA 4 (.t 2)⟩,
  ⟨some 26, none, .fa 2 (.t 2)⟩,
  ⟨some 27, none, .ld (.t 26)⟩,
  ⟨some 28, none, .callP 151 [.t 25, .t 27]⟩,
  ⟨some 29, none, .app false 24 4 (.t 24) (.t 28)⟩,
  ⟨some 4, none, .mv (.t 29)⟩]) (.ret))), [.t 4]⟩
def s_impl_planOf : SFn := ⟨12, .seq (.rg [⟨some 2, none, .box (.t 0)⟩,
  ⟨some 4, none, .mv (.c .snil)⟩]) (.seq (.seq (.rg [⟨some 5, none, .mv (.t 1)⟩,
  ⟨some 6, none, .bin .lss (.t 5) (.c (.int .i64 0))⟩]) (.cond (.t 6) (.seq (.rg [⟨some 7, none, .ldA 4 (.t 2)⟩,
  ⟨some 8, none, .callP 82 [.t 7]⟩,
  ⟨some 4, none, .mv (.t 8)⟩]) (.ret)) (.skip))) (.seq (.rg [⟨some 9, none, .ldA 4 (.t 2)⟩,
  ⟨some 10, none, .mv (.t 1)⟩,
  ⟨some 11, none, .callP 83 [.t 9, .t 10]⟩,
  ⟨some 4, none, .mv (.t 11)⟩]) (.ret))), [.t 4]⟩
def s_impl_ValOk : SFn := ⟨56, .seq (.rg [⟨some 1, none, .box (.t 0)⟩,
  ⟨some 2, none, .mv (.c (.bool false))⟩]) (.seq (.seq (.rg [⟨some 3, none, .fa 0 (.t 1)⟩,
  ⟨some 4, none, .ld (.t 3)⟩]) (.blk 0 (.seq (.rg [⟨some 6, none, .bin .eql (.t 4) (.c (.int .i64 0))⟩,
  ⟨some 5, none, .mv (.t 6)⟩]) (.cond (.t 5) (.seq (.rg [⟨some 7, none, .fa 1 (.t 1)⟩,
  ⟨some 8, none, .ld (.t 7)⟩,
  ⟨some 9, none, .bin .eql (.t 8) (.c (.int .i64 0))⟩,
  ⟨some 10, none, .mv (.t 9)⟩,
  ⟨some 11, some (10, true), .fa 2 (.t 1)⟩,
  ⟨some 12, some (10, true), .ld (.t 11)⟩,
  ⟨some 13, some (10, true), .bin .eql (.t 12) (.c (.str []))⟩,
  ⟨some 14, none, .pick (.t 10) (.t 13) (.c (.bool false))⟩,
  ⟨some 2, none, .mv (.t 14)⟩]) (.ret)) (.seq (.rg [⟨some 16, none, .bin .eql (.t 4) (.c (.int .i64 1))⟩,
  ⟨some 15, none, .mv (.t 16)⟩]) (.cond (.t 15) (.seq (.rg [⟨some 17, none, .fa 1 (.t 1)⟩,
  ⟨some 18, none, .ld (.t 17)⟩,
  ⟨some 19, none, .callP 78 [.t 18, .c (.int .i64 (-2147483648)), .c (.int .i64 2147483647)]⟩,
  ⟨some 20, none, .mv (.t 19)⟩,
  ⟨some 21, some (20, true), .fa 2 (.t 1)⟩,
  ⟨some 22, some (20, true), .ld (.t 21)⟩,
  ⟨some 23, some (20, true), .bin .eql (.t 22) (.c (.str []))⟩,
  ⟨some 24, none, .pick (.t 20) (.t 23) (.c (.bool false))⟩,
  ⟨some 2, none, .mv (.t 24)⟩]) (.ret)) (.seq (.rg [⟨some 26, none, .bin .eql (.t 4) (.c (.int .i64 2))⟩,
  ⟨some 25, none, .mv (.t 26)⟩]) (.cond (.t 25) (.seq (.rg [⟨some 27, none, .fa 1 (.t 1)⟩,
  ⟨some 28, none, .ld (.t 27)⟩,
  ⟨some 29, none, .callP 78 [.t 28, .c (.int .i64 (-1000000000000000)), .c (.int .i64 1000000000000000)]⟩,
  ⟨some 30, none, .mv (.t 29)⟩,
  ⟨some 31, some (30, true), .fa 2 (.t 1)⟩,
  ⟨some 32, some (30, true), .ld (.t 31)⟩,
  ⟨some 33, some (30, true), .bin .eql (.t 32) (.c (.str []))⟩,
  ⟨some 34, none, .pick (.t 30) (.t 33) (.c (.bool false))⟩,
  ⟨some 2, none, .mv (.t 34)⟩]) (.ret)) (.seq (.rg [⟨some 36, none, .bin .eql (.t 4) (.c (.int .i64 3))⟩,
  ⟨some 35, none, .mv (.t 36)⟩]) (.cond (.t 35) (.seq (.rg [⟨some 37, none, .fa 1 (.t 1)⟩,
  ⟨some 38, none, .ld (.t 37)⟩,
  ⟨some 39, none, .bin .eql (.t 38) (.c (.int .i64 0))⟩,
  ⟨some 40, none, .mv (.t 39)⟩,
  ⟨some 41, some (40, true), .fa 2 (.t 1)⟩,
  ⟨some 42, some (40, true), .ld (.t 41)⟩,
  ⟨some 43, some (40, true), .lenS (.t 42)⟩,
  ⟨some 44, some (40, true), .bin .leq (.t 43) (.c (.int .i64 30))⟩,
  ⟨some 45, none, .pick (.t 40) (.t 44) (.c (.bool false))⟩,
  ⟨some 2, none, .mv (.t 45)⟩]) (.ret)) (.seq (.rg [⟨some 47, none, .bin .eql (.t 4) (.c (.int .i64 4))⟩,
  ⟨some 46, none, .mv (.t 47)⟩]) (.cond (.t 46) (.seq (.rg [⟨some 48, none, .fa 1 (.t 1)⟩,
  ⟨some 49, none, .ld (.t 48)⟩,
  ⟨some 50, none, .callP 78 [.t 49, .c (.int .i64 0), .c (.int .i64 1)]⟩,
  ⟨some 51, none, .mv (.t 50)⟩,
  ⟨some 52, some (51, true), .fa 2 (.t 1)⟩,
  ⟨some 53, some (51, true), .ld (.t 52)⟩,
  ⟨some 54, some (51, true), .bin .eql (.t 53) (.c (.str []))⟩,
  ⟨some 55, none, .pick (.t 51) (.t 54) (.c (.bool false))⟩,
  ⟨some 2, none, .mv (.t 55)⟩]) (.ret)) (.skip))))))))))))) (.seq (.rg [⟨some 2, none, .mv (.c (.bool false))⟩]) (.ret))), [.t 2]⟩
def s_impl_Fits : SFn := ⟨28, .seq (.rg [⟨some 2, none, .box (.t 0)⟩,
  ⟨some 3, none, .box (.t 1)⟩,
  ⟨some 4, none, .mv (.c (.bool false))⟩]) (.seq (.rg [⟨some 5, none, .ldA 3 (.t 3)⟩,
  ⟨some 6, none, .callP 210 [.t 5]⟩,
  ⟨some 7, none, .mv (.t 6)⟩,
  ⟨some 8, some (7, true), .fa 0 (.t 3)⟩,
  ⟨some 9, some (7, true), .ld (.t 8)⟩,
  ⟨some 10, some (7, true), .fa 1 (.t 2)⟩,
  ⟨some 11, some (7, true), .ld (.t 10)⟩,
  ⟨some 12, some (7, true), .bin .eql (.t 9) (.t 11)⟩,
  ⟨some 13, some (7, true), .mv (.t 12)⟩,
  ⟨some 14, some (13, true), .fa 0 (.t 3)⟩,
  ⟨some 15, some (13, true), .ld (.t 14)⟩,
  ⟨some 16, some (13, true), .bin .neq (.t 15) (.c (.int .i64 0))⟩,
  ⟨some 17, some (7, true), .pick (.t 13) (.t 16) (.c (.bool false))⟩,
  ⟨some 18, some (7, true), .mv (.t 17)⟩,
  ⟨some 19, some (18, false), .fa 0 (.t 3)⟩,
  ⟨some 20, some (18, false), .ld (.t 19)⟩,
  ⟨some 21, some (18, false), .bin .eql (.t 20) (.c (.int .i64 0))⟩,
  ⟨some 22, some (18, false), .mv (.t 21)⟩,
  ⟨some 23, some (22, true), .fa 2 (.t 2)⟩,
  ⟨some 24, some (22, true), .ld (.t 23)⟩,
  ⟨some 25, some (18, false), .pick (.t 22) (.t 24) (.c (.bool false))⟩,
  ⟨some 26, some (7, true), .pick (.t 18) (.c (.bool true)) (.t 25)⟩,
  ⟨some 27, none, .pick (.t 7) (.t 26) (.c (.bool false))⟩,
  ⟨some 4, none, .mv (.t 27)⟩]) (.ret)), [.t 4]⟩
def s_impl_FitsAll_L0 : SCode := .seq (.rg [⟨some 15, none, .bin .lss (.t 14) (.t 13)⟩]) (.seq (.cond (.t 15) (.skip) (.exit 0)) (.seq (.blk 1 (.seq (.rg [⟨some 16, none, .mv (.t 14)⟩,
  ⟨some 17, none, .ia 3 (.t 12) (.t 14)⟩,
  ⟨some 18, none, .ldA 3 (.t 17)⟩,
  ⟨some 6, none, .alloc [.int .i64 0, .int .i64 0, .str []]⟩,
  ⟨some 5, none, .mv (.t 16)⟩,
  ⟨none, none, .st 3 (.t 6) (.t 18)⟩]) (.seq (.rg [⟨some 19, none, .mv (.t 0)⟩,
  ⟨some 20, none, .mv (.t 5)⟩,
  ⟨some 21, none, .ia 4 (.t 19) (.t 20)⟩,
  ⟨some 22, none, .ldA 4 (.t 21)⟩,
  ⟨some 23, none, .ldA 3 (.t 6)⟩,
  ⟨some 24, none, .callP 146 [.t 22, .t 23]⟩,
  ⟨some 25, none, .un .not (.t 24)⟩]) (.cond (.t 25) (.seq (.rg [⟨some 4, none, .mv (.c (.bool false))⟩]) (.ret)) (.skip))))) (.rg [⟨some 26, none, .bin .add (.t 14) (.c (.int .i64 1))⟩,
  ⟨some 14, none, .mv (.t 26)⟩])))
def s_impl_FitsAll : SFn := ⟨27, .seq (.rg [⟨some 4, none, .mv (.c (.bool false))⟩]) (.seq (.seq (.rg [⟨some 7, none, .mv (.t 1)⟩,
  ⟨some 8, none, .lenL (.t 7)⟩,
  ⟨some 9, none, .mv (.t 0)⟩,
  ⟨some 10, none, .lenL (.t 9)⟩,
  ⟨some 11, none, .bin .gtr (.t 8) (.t 10)⟩]) (.cond (.t 11) (.seq (.rg [⟨some 4, none, .mv (.c (.bool false))⟩]) (.ret)) (.skip))) (.seq (.seq (.rg [⟨some 12, none, .mv (.t 1)⟩,
  ⟨some 13, none, .lenL (.t 12)⟩,
  ⟨some 14, none, .mv (.c (.int .i64 0))⟩]) (.blk 0 (.loop s_impl_FitsAll_L0))) (.seq (.rg [⟨some 4, none, .mv (.c (.bool true))⟩]) (.ret)))), [.t 4]⟩
def s_impl_ScanOk : SFn := ⟨37, .seq (.rg [⟨some 3, none, .box (.t 1)⟩,
  ⟨some 4, none, .mv (.c (.bool false))⟩]) (.seq (.seq (.rg [⟨some 6, none, .mv (.t 0)⟩,
  ⟨some 7, none, .fa 0 (.t 3)⟩,
  ⟨some 8, none, .ld (.t 7)⟩,
  ⟨some 9, none, .fa 1 (.t 3)⟩,
  ⟨some 10, none, .ld (.t 9)⟩,
  ⟨some 11, none, .callP 77 [.t 6, .t 8, .t 10]⟩,
  ⟨some 12, none, .un .not (.t 11)⟩,
  ⟨some 13, none, .mv (.t 12)⟩,
  ⟨some 14, some (13, false), .fa 7 (.t 3)⟩,
  ⟨some 15, some (13, false), .ld (.t 14)⟩,
  ⟨some 16, some (13, false), .callP 78 [.t 15, .c (.int .i64 0), .c (.int .i64 100)]⟩,
  ⟨some 17, some (13, false), .un .not (.t 16)⟩,
  ⟨some 18, none, .pick (.t 13) (.c (.bool true)) (.t 17)⟩]) (.cond (.t 18) (.seq (.rg [⟨some 4, none, .mv (.c (.bool false))⟩]) (.ret)) (.skip))) (.seq (.rg [⟨some 19, none, .mv (.t 0)⟩,
  ⟨some 20, none, .fa 0 (.t 3)⟩,
  ⟨some 21, none, .ld (.t 20)⟩,
  ⟨some 22, none, .ia 4 (.t 19) (.t 21)⟩,
  ⟨some 23, none, .ldA 4 (.t 22)⟩,
  ⟨some 24, none, .fa 1 (.t 3)⟩,
  ⟨some 25, none, .ld (.t 24)⟩,
  ⟨some 26, none, .callP 38 [.t 23, .t 25]⟩,
  ⟨some 5, none, .mv (.t 26)⟩]) (.seq (.rg [⟨some 27, none, .mv (.t 5)⟩,
  ⟨some 28, none, .fa 2 (.t 3)⟩,
  ⟨some 29, none, .ld (.t 28)⟩,
  ⟨some 30, none, .callP 79 [.t 27, .t 29]⟩,
  ⟨some 31, none, .mv (.t 30)⟩,
  ⟨some 32, some (31, true), .mv (.t 5)⟩,
  ⟨some 33, some (31, true), .fa 3 (.t 3)⟩,
  ⟨some 34, some (31, true), .ld (.t 33)⟩,
  ⟨some 35, some (31, true), .callP 79 [.t 32, .t 34]⟩,
  ⟨some 36, none, .pick (.t 31) (.t 35) (.c (.bool false))⟩,
  ⟨some 4, none, .mv (.t 36)⟩]) (.ret)))), [.t 4]⟩
def s_impl_RowPlan_L0 : SCode := .seq (.rg [⟨some 13, none, .bin .lss (.t 12) (.t 11)⟩]) (.seq (.cond (.t 13) (.skip) (.exit 0)) (.seq (.blk 1 (.seq (.rg [⟨some 14, none, .mv (.t 12)⟩,
  ⟨some 15, none, .ia 3 (.t 10) (.t 12)⟩,
  ⟨some 16, none, .ldA 3 (.t 15)⟩,
  ⟨some 5, none, .alloc [.str [], .int .i64 0, .bool false]⟩,
  ⟨some 4, none, .mv (.t 14)⟩,
  ⟨none, none, .st 3 (.t 5) (.t 16)⟩]) (.rg [⟨some 17, none, .mv (.t 3)⟩,
  ⟨some 18, none, .mv (.t 4)⟩,
  ⟨some 19, none, .fa 1 (.t 5)⟩,
  ⟨some 20, none, .ld (.t 19)⟩,
  ⟨some 21, none, .fa 2 (.t 5)⟩,
  ⟨some 22, none, .ld (.t 21)⟩,
  ⟨some 23, none, .build [.int .i64 0, .int .i64 0, .bool false, .bool false] [(0, (1, .t 18)), (1, (1, .t 20)), (2, (1, .t 22))]⟩,
  ⟨some 24, none, .bslice false [.int .i64 0, .int .i64 0, .bool false, .bool false] 1 [(0, .t 23)]⟩,
  ⟨some 25, none, .app false 24 4 (.t 17) (.t 24)⟩,
  ⟨some 3, none, .mv (.t 25)⟩]))) (.rg [⟨some 26, none, .bin .add (.t 12) (.c (.int .i64 1))⟩,
  ⟨some 12, none, .mv (.t 26)⟩])))
def s_impl_RowPlan : SFn := ⟨28, .seq (.rg [⟨some 1, none, .box (.t 0)⟩,
  ⟨some 2, none, .mv (.c .snil)⟩]) (.seq (.seq (.rg [⟨some 6, none, .ldA 4 (.t 1)⟩,
  ⟨some 7, none, .callP 81 [.t 6]⟩,
  ⟨some 8, none, .bin .neq (.t 7) (.c (.int .i64 0))⟩]) (.cond (.t 8) (.seq (.rg [⟨some 2, none, .mv (.c .snil)⟩]) (.ret)) (.skip))) (.seq (.rg [⟨some 3, none, .mv (.c .snil)⟩]) (.seq (.seq (.rg [⟨some 9, none, .fa 1 (.t 1)⟩,
  ⟨some 10, none, .ld (.t 9)⟩,
  ⟨some 11, none, .lenL (.t 10)⟩,
  ⟨some 12, none, .mv (.c (.int .i64 0))⟩]) (.blk 0 (.loop s_impl_RowPlan_L0))) (.seq (.rg [⟨some 27, none, .mv (.t 3)⟩,
  ⟨some 2, none, .mv (.t 27)⟩]) (.ret))))), [.t 2]⟩
def s_impl_PartOk : SFn := ⟨11, .seq (.rg [⟨some 1, none, .box (.t 0)⟩,
  ⟨some 2, none, .mv (.c (.bool false))⟩]) (.seq (.rg [⟨some 3, none, .fa 0 (.t 1)⟩,
  ⟨some 4, none, .ld (.t 3)⟩,
  ⟨some 5, none, .callP 78 [.t 4, .c (.int .i64 0), .c (.int .i64 9)]⟩,
  ⟨some 6, none, .mv (.t 5)⟩,
  ⟨some 7, some (6, true), .fa 1 (.t 1)⟩,
  ⟨some 8, some (6, true), .ld (.t 7)⟩,
  ⟨some 9, some (6, true), .callP 78 [.t 8, .c (.int .i64 1), .c (.int .i64 4)]⟩,
  ⟨some 10, none, .pick (.t 6) (.t 9) (.c (.bool false))⟩,
  ⟨some 2, none, .mv (.t 10)⟩]) (.ret)), [.t 2]⟩
def s_impl_PlanOk_L0 : SCode := .seq (.rg [⟨some 8, none, .bin .lss (.t 7) (.t 6)⟩]) (.seq (.cond (.t 8) (.skip) (.exit 0)) (.seq (.blk 1 (.seq (.rg [⟨some 9, none, .mv (.t 7)⟩,
  ⟨some 10, none, .ia 4 (.t 5) (.t 7)⟩,
  ⟨some 11, none, .ldA 4 (.t 10)⟩,
  ⟨some 4, none, .alloc [.int .i64 0, .int .i64 0, .bool false, .bool false]⟩,
  ⟨some 3, none, .mv (.t 9)⟩,
  ⟨none, none, .st 4 (.t 4) (.t 11)⟩]) (.seq (.rg [⟨some 12, none, .mv (.t 3)⟩,
  ⟨some 13, none, .bin .geq (.t 12) (.c (.int .i64 6))⟩,
  ⟨some 14, none, .mv (.t 13)⟩,
  ⟨some 15, some (14, false), .ldA 4 (.t 4)⟩,
  ⟨some 16, some (14, false), .callP 147 [.t 15]⟩,
  ⟨some 17, some (14, false), .un .not (.t 16)⟩,
  ⟨some 18, none, .pick (.t 14) (.c (.bool true)) (.t 17)⟩]) (.cond (.t 18) (.seq (.rg [⟨some 2, none, .mv (.c (.bool false))⟩]) (.ret)) (.skip))))) (.rg [⟨some 19, none, .bin .add (.t 7) (.c (.int .i64 1))⟩,
  ⟨some 7, none, .mv (.t 19)⟩])))
def s_impl_PlanOk : SFn := ⟨20, .seq (.rg [⟨some 2, none, .mv (.c (.bool false))⟩]) (.seq (.seq (.rg [⟨some 5, none, .mv (.t 0)⟩,
  ⟨some 6, none, .lenL (.t 5)⟩,
  ⟨some 7, none, .mv (.c (.int .i64 0))⟩]) (.blk 0 (.loop s_impl_PlanOk_L0))) (.seq (.rg [⟨some 2, none, .mv (.c (.bool true))⟩]) (.ret))), [.t 2]⟩
def s_impl_RowOk : SFn := ⟨19, .seq (.rg [⟨some 4, none, .mv (.c (.bool false))⟩]) (.seq (.rg [⟨some 5, none, .mv (.t 0)⟩,
  ⟨some 6, none, .callP 80 [.t 5]⟩,
  ⟨some 7, none, .mv (.t 6)⟩,
  ⟨some 8, some (7, true), .mv (.t 1)⟩,
  ⟨some 9, some (7, true), .lenL (.t 8)⟩,
  ⟨some 10, some (7, true), .mv (.t 0)⟩,
  ⟨some 11, some (7, true), .lenL (.t 10)⟩,
  ⟨some 12, some (7, true), .bin .eql (.t 9) (.t 11)⟩,
  ⟨some 13, none, .pick (.t 7) (.t 12) (.c (.bool false))⟩,
  ⟨some 14, none, .mv (.t 13)⟩,
  ⟨some 15, some (14, true), .mv (.t 0)⟩,
  ⟨some 16, some (14, true), .mv (.t 1)⟩,
  ⟨some 17, some (14, true), .callP 79 [.t 15, .t 16]⟩,
  ⟨some 18, none, .pick (.t 14) (.t 17) (.c (.bool false))⟩,
  ⟨some 4, none, .mv (.t 18)⟩]) (.ret)), [.t 4]⟩
def s_impl_Pick_L0 : SCode := .seq (.rg [⟨some 12, none, .bin .lss (.t 11) (.t 10)⟩]) (.seq (.cond (.t 12) (.skip) (.exit 0)) (.seq (.blk 1 (.seq (.rg [⟨some 13, none, .ia 4 (.t 9) (.t 11)⟩,
  ⟨some 14, none, .ldA 4 (.t 13)⟩,
  ⟨some 7, none, .alloc [.int .i64 0, .int .i64 0, .bool false, .bool false]⟩,
  ⟨none, none, .st 4 (.t 7) (.t 14)⟩]) (.seq (.rg [⟨some 8, none, .alloc [.int .i64 0, .int .i64 0, .str []]⟩]) (.seq (.seq (.rg [⟨some 15, none, .fa 0 (.t 7)⟩,
  ⟨some 16, none, .ld (.t 15)⟩,
  ⟨some 17, none, .mv (.t 1)⟩,
  ⟨some 18, none, .lenL (.t 17)⟩,
  ⟨some 19, none, .bin .sub (.t 18) (.c (.int .i64 1))⟩,
  ⟨some 20, none, .callP 78 [.t 16, .c (.int .i64 0), .t 19]⟩]) (.cond (.t 20) (.rg [⟨some 21, none, .mv (.t 1)⟩,
  ⟨some 22, none, .fa 0 (.t 7)⟩,
  ⟨some 23, none, .ld (.t 22)⟩,
  ⟨some 24, none, .ia 3 (.t 21) (.t 23)⟩,
  ⟨some 25, none, .ldA 3 (.t 24)⟩,
  ⟨none, none, .st 3 (.t 8) (.t 25)⟩]) (.skip))) (.rg [⟨some 26, none, .mv (.t 5)⟩,
  ⟨some 27, none, .ldA 3 (.t 8)⟩,
  ⟨some 28, none, .bslice false [.int .i64 0, .int .i64 0, .str []] 1 [(0, .t 27)]⟩,
  ⟨some 29, none, .app false 32 3 (.t 26) (.t 28)⟩,
  ⟨some 5, none, .mv (.t 29)⟩]))))) (.rg [⟨some 30, none, .bin .add (.t 11) (.c (.int .i64 1))⟩,
  ⟨some 11, none, .mv (.t 30)⟩])))
def s_impl_Pick : SFn := ⟨32, .seq (.rg [⟨some 4, none, .mv (.c .snil)⟩]) (.seq (.rg [⟨some 5, none, .mv (.c .snil)⟩]) (.seq (.seq (.rg [⟨some 9, none, .mv (.t 0)⟩,
  ⟨some 10, none, .lenL (.t 9)⟩,
  ⟨some 11, none, .mv (.c (.int .i64 0))⟩]) (.blk 0 (.loop s_impl_Pick_L0))) (.seq (.rg [⟨some 31, none, .mv (.t 5)⟩,
  ⟨some 4, none, .mv (.t 31)⟩]) (.ret)))), [.t 4]⟩
def s_impl_LessVal : SFn := ⟨32, .seq (.rg [⟨some 2, none, .box (.t 0)⟩,
  ⟨some 3, none, .box (.t 1)⟩,
  ⟨some 4, none, .mv (.c (.bool false))⟩]) (.seq (.blk 0 (.seq (.rg [⟨some 6, none, .fa 0 (.t 2)⟩,
  ⟨some 7, none, .ld (.t 6)⟩,
  ⟨some 8, none, .fa 0 (.t 3)⟩,
  ⟨some 9, none, .ld (.t 8)⟩,
  ⟨some 10, none, .bin .neq (.t 7) (.t 9)⟩,
  ⟨some 5, none, .mv (.t 10)⟩]) (.cond (.t 5) (.seq (.rg [⟨some 11, none, .fa 0 (.t 2)⟩,
  ⟨some 12, none, .ld (.t 11)⟩,
  ⟨some 13, none, .fa 0 (.t 3)⟩,
  ⟨some 14, none, .ld (.t 13)⟩,
  ⟨some 15, none, .bin .lss (.t 12) (.t 14)⟩,
  ⟨some 4, none, .mv (.t 15)⟩]) (.ret)) (.seq (.rg [⟨some 17, none, .fa 1 (.t 2)⟩,
  ⟨some 18, none, .ld (.t 17)⟩,
  ⟨some 19, none, .fa 1 (.t 3)⟩,
  ⟨some 20, none, .ld (.t 19)⟩,
  ⟨some 21, none, .bin .neq (.t 18) (.t 20)⟩,
  ⟨some 16, none, .mv (.t 21)⟩]) (.cond (.t 16) (.seq (.rg [⟨some 22, none, .fa 1 (.t 2)⟩,
  ⟨some 23, none, .ld (.t 22)⟩,
  ⟨some 24, none, .fa 1 (.t 3)⟩,
  ⟨some 25, none, .ld (.t 24)⟩,
  ⟨some 26, none, .bin .lss (.t 23) (.t 25)⟩,
  ⟨some 4, none, .mv (.t 26)⟩]) (.ret)) (.skip)))))) (.seq (.rg [⟨some 27, none, .fa 2 (.t 2)⟩,
  ⟨some 28, none, .ld (.t 27)⟩,
  ⟨some 29, none, .fa 2 (.t 3)⟩,
  ⟨some 30, none, .ld (.t 29)⟩,
  ⟨some 31, none, .bin .lss (.t 28) (.t 30)⟩,
  ⟨some 4, none, .mv (.t 31)⟩]) (.ret))), [.t 4]⟩
def s_impl_LessPart : SFn := ⟨15, .seq (.rg [⟨some 3, none, .box (.t 0)⟩,
  ⟨some 4, none, .box (.t 1)⟩,
  ⟨some 5, none, .box (.t 2)⟩,
  ⟨some 6, none, .mv (.c (.bool false))⟩]) (.seq (.seq (.rg [⟨some 7, none, .fa 3 (.t 3)⟩,
  ⟨some 8, none, .ld (.t 7)⟩]) (.cond (.t 8) (.seq (.rg [⟨some 9, none, .ldA 3 (.t 5)⟩,
  ⟨some 10, none, .ldA 3 (.t 4)⟩,
  ⟨some 11, none, .callP 152 [.t 9, .t 10]⟩,
  ⟨some 6, none, .mv (.t 11)⟩]) (.ret)) (.skip))) (.seq (.rg [⟨some 12, none, .ldA 3 (.t 4)⟩,
  ⟨some 13, none, .ldA 3 (.t 5)⟩,
  ⟨some 14, none, .callP 152 [.t 12, .t 13]⟩,
  ⟨some 6, none, .mv (.t 14)⟩]) (.ret))), [.t 6]⟩
def s_impl_LessKey_L0 : SCode := .seq (.seq (.rg [⟨some 8, none, .mv (.t 7)⟩,
  ⟨some 9, none, .mv (.t 1)⟩,
  ⟨some 10, none, .lenL (.t 9)⟩,
  ⟨some 11, none, .bin .lss (.t 8) (.t 10)⟩,
  ⟨some 12, none, .mv (.t 11)⟩,
  ⟨some 13, some (12, true), .mv (.t 7)⟩,
  ⟨some 14, some (12, true), .mv (.t 2)⟩,
  ⟨some 15, some (12, true), .lenL (.t 14)⟩,
  ⟨some 16, some (12, true), .bin .lss (.t 13) (.t 15)⟩,
  ⟨some 17, none, .pick (.t 12) (.t 16) (.c (.bool false))⟩]) (.cond (.t 17) (.skip) (.exit 0))) (.seq (.blk 1 (.seq (.rg [⟨some 20, none, .mv (.t 1)⟩,
  ⟨some 21, none, .mv (.t 7)⟩,
  ⟨some 22, none, .ia 3 (.t 20) (.t 21)⟩,
  ⟨some 23, none, .ldA 3 (.t 22)⟩,
  ⟨some 24, none, .mv (.t 2)⟩,
  ⟨some 25, none, .mv (.t 7)⟩,
  ⟨some 26, none, .ia 3 (.t 24) (.t 25)⟩,
  ⟨some 27, none, .ldA 3 (.t 26)⟩,
  ⟨some 28, none, .binF .neq [.int .i64, .int .i64, .str] (.t 23) (.t 27)⟩]) (.cond (.t 28) (.seq (.rg [⟨some 29, none, .mv (.t 7)⟩,
  ⟨some 30, none, .mv (.t 0)⟩,
  ⟨some 31, none, .lenL (.t 30)⟩,
  ⟨some 32, none, .bin .lss (.t 29) (.t 31)⟩,
  ⟨some 33, none, .mv (.t 32)⟩,
  ⟨some 34, some (33, true), .mv (.t 0)⟩,
  ⟨some 35, some (33, true), .mv (.t 7)⟩,
  ⟨some 36, some (33, true), .ia 4 (.t 34) (.t 35)⟩,
  ⟨some 37, some (33, true), .ldA 4 (.t 36)⟩,
  ⟨some 38, some (33, true), .mv (.t 1)⟩,
  ⟨some 39, some (33, true), .mv (.t 7)⟩,
  ⟨some 40, some (33, true), .ia 3 (.t 38) (.t 39)⟩,
  ⟨some 41, some (33, true), .ldA 3 (.t 40)⟩,
  ⟨some 42, some (33, true), .mv (.t 2)⟩,
  ⟨some 43, some (33, true), .mv (.t 7)⟩,
  ⟨some 44, some (33, true), .ia 3 (.t 42) (.t 43)⟩,
  ⟨some 45, some (33, true), .ldA 3 (.t 44)⟩,
  ⟨some 46, some (33, true), .callP 84 [.t 37, .t 41, .t 45]⟩,
  ⟨some 47, none, .pick (.t 33) (.t 46) (.c (.bool false))⟩,
  ⟨some 6, none, .mv (.t 47)⟩]) (.ret)) (.skip)))) (.rg [⟨some 18, none, .mv (.t 7)⟩,
  ⟨some 19, none, .bin .add (.t 18) (.c (.int .i64 1))⟩,
  ⟨some 7, none, .mv (.t 19)⟩]))
def s_impl_LessKey : SFn := ⟨53, .seq (.rg [⟨some 6, none, .mv (.c (.bool false))⟩]) (.seq (.seq (.rg [⟨some 7, none, .mv (.c (.int .i64 0))⟩]) (.blk 0 (.loop s_impl_LessKey_L0))) (.seq (.rg [⟨some 48, none, .mv (.t 1)⟩,
  ⟨some 49, none, .lenL (.t 48)⟩,
  ⟨some 50, none, .mv (.t 2)⟩,
  ⟨some 51, none, .lenL (.t 50)⟩,
  ⟨some 52, none, .bin .lss (.t 49) (.t 51)⟩,
  ⟨some 6, none, .mv (.t 52)⟩]) (.ret))), [.t 6]⟩
def s_impl_SameRow_L0 : SCode := .seq (.rg [⟨some 14, none, .bin .lss (.t 13) (.t 12)⟩]) (.seq (.cond (.t 14) (.skip) (.exit 0)) (.seq (.blk 1 (.seq (.rg [⟨some 15, none, .mv (.t 13)⟩,
  ⟨some 5, none, .mv (.t 15)⟩]) (.seq (.rg [⟨some 16, none, .mv (.t 0)⟩,
  ⟨some 17, none, .mv (.t 5)⟩,
  ⟨some 18, none, .ia 3 (.t 16) (.t 17)⟩,
  ⟨some 19, none, .ldA 3 (.t 18)⟩,
  ⟨some 20, none, .mv (.t 1)⟩,
  ⟨some 21, none, .mv (.t 5)⟩,
  ⟨some 22, none, .ia 3 (.t 20) (.t 21)⟩,
  ⟨some 23, none, .ldA 3 (.t 22)⟩,
  ⟨some 24, none, .binF .neq [.int .i64, .int .i64, .str] (.t 19) (.t 23)⟩]) (.cond (.t 24) (.seq (.rg [⟨some 4, none, .mv (.c (.bool false))⟩]) (.ret)) (.skip))))) (.rg [⟨some 25, none, .bin .add (.t 13) (.c (.int .i64 1))⟩,
  ⟨some 13, none, .mv (.t 25)⟩])))
def s_impl_SameRow : SFn := ⟨26, .seq (.rg [⟨some 4, none, .mv (.c (.bool false))⟩]) (.seq (.seq (.rg [⟨some 6, none, .mv (.t 0)⟩,
  ⟨some 7, none, .lenL (.t 6)⟩,
  ⟨some 8, none, .mv (.t 1)⟩,
  ⟨some 9, none, .lenL (.t 8)⟩,
  ⟨some 10, none, .bin .neq (.t 7) (.t 9)⟩]) (.cond (.t 10) (.seq (.rg [⟨some 4, none, .mv (.c (.bool false))⟩]) (.ret)) (.skip))) (.seq (.seq (.rg [⟨some 11, none, .mv (.t 0)⟩,
  ⟨some 12, none, .lenL (.t 11)⟩,
  ⟨some 13, none, .mv (.c (.int .i64 0))⟩]) (.blk 0 (.loop s_impl_SameRow_L0))) (.seq (.rg [⟨some 4, none, .mv (.c (.bool true))⟩]) (.ret)))), [.t 4]⟩
def s_impl_InScan : SFn := ⟨92, .seq (.rg [⟨some 4, none, .box (.t 1)⟩,
  ⟨some 6, none, .mv (.c (.bool false))⟩]) (.seq (.seq (.rg [⟨some 11, none, .mv (.t 0)⟩,
  ⟨some 12, none, .ldA 8 (.t 4)⟩,
  ⟨some 13, none, .callP 35 [.t 11, .t 12]⟩,
  ⟨some 14, none, .un .not (.t 13)⟩,
  ⟨some 15, none, .mv (.t 14)⟩,
  ⟨some 16, some (15, false), .mv (.t 0)⟩,
  ⟨some 17, some (15, false), .fa 0 (.t 4)⟩,
  ⟨some 18, some (15, false), .ld (.t 17)⟩,
  ⟨some 19, some (15, false), .ia 4 (.t 16) (.t 18)⟩,
  ⟨some 20, some (15, false), .ldA 4 (.t 19)⟩,
  ⟨some 21, some (15, false), .callP 37 [.t 20]⟩,
  ⟨some 22, some (15, false), .mv (.t 2)⟩,
  ⟨some 23, some (15, false), .callP 36 [.t 21, .t 22]⟩,
  ⟨some 24, some (15, false), .un .not (.t 23)⟩,
  ⟨some 25, none, .pick (.t 15) (.c (.bool true)) (.t 24)⟩]) (.cond (.t 25) (.seq (.rg [⟨some 6, none, .mv (.c (.bool false))⟩]) (.ret)) (.skip))) (.seq (.rg [⟨some 26, none, .mv (.t 0)⟩,
  ⟨some 27, none, .fa 0 (.t 4)⟩,
  ⟨some 28, none, .ld (.t 27)⟩,
  ⟨some 29, none, .ia 4 (.t 26) (.t 28)⟩,
  ⟨some 30, none, .ldA 4 (.t 29)⟩,
  ⟨some 31, none, .fa 1 (.t 4)⟩,
  ⟨some 32, none, .ld (.t 31)⟩,
  ⟨some 33, none, .callP 38 [.t 30, .t 32]⟩,
  ⟨some 7, none, .mv (.t 33)⟩]) (.seq (.rg [⟨some 34, none, .mv (.t 7)⟩,
  ⟨some 35, none, .mv (.t 2)⟩,
  ⟨some 36, none, .callP 39 [.t 34, .t 35]⟩,
  ⟨some 8, none, .mv (.t 36)⟩]) (.seq (.rg [⟨some 37, none, .mv (.t 8)⟩,
  ⟨some 38, none, .fa 2 (.t 4)⟩,
  ⟨some 39, none, .ld (.t 38)⟩,
  ⟨some 40, none, .lenL (.t 39)⟩,
  ⟨some 41, none, .sliL 3 (.t 37) none (some (.t 40))⟩,
  ⟨some 42, none, .mv (.t 8)⟩,
  ⟨some 43, none, .fa 3 (.t 4)⟩,
  ⟨some 44, none, .ld (.t 43)⟩,
  ⟨some 45, none, .lenL (.t 44)⟩,
  ⟨some 46, none, .sliL 3 (.t 42) none (some (.t 45))⟩,
  ⟨some 9, none, .mv (.t 41)⟩,
  ⟨some 10, none, .mv (.t 46)⟩]) (.seq (.seq (.rg [⟨some 47, none, .fa 2 (.t 4)⟩,
  ⟨some 48, none, .ld (.t 47)⟩,
  ⟨some 49, none, .lenL (.t 48)⟩,
  ⟨some 50, none, .bin .gtr (.t 49) (.c (.int .i64 0))⟩,
  ⟨some 51, none, .mv (.t 50)⟩,
  ⟨some 52, some (51, true), .mv (.t 7)⟩,
  ⟨some 53, some (51, true), .fa 2 (.t 4)⟩,
  ⟨some 54, some (51, true), .ld (.t 53)⟩,
  ⟨some 55, some (51, true), .mv (.t 9)⟩,
  ⟨some 56, some (51, true), .callP 40 [.t 52, .t 54, .t 55]⟩,
  ⟨some 57, some (51, true), .un .not (.t 56)⟩,
  ⟨some 58, none, .pick (.t 51) (.t 57) (.c (.bool false))⟩,
  ⟨some 59, none, .mv (.t 58)⟩,
  ⟨some 60, some (59, true), .fa 4 (.t 4)⟩,
  ⟨some 61, some (59, true), .ld (.t 60)⟩,
  ⟨some 62, some (59, true), .mv (.t 61)⟩,
  ⟨some 63, some (62, false), .fa 2 (.t 4)⟩,
  ⟨some 64, some (62, false), .ld (.t 63)⟩,
  ⟨some 65, some (62, false), .mv (.t 9)⟩,
  ⟨some 66, some (62, false), .callP 41 [.t 64, .t 65]⟩,
  ⟨some 67, some (62, false), .un .not (.t 66)⟩,
  ⟨some 68, some (59, true), .pick (.t 62) (.c (.bool true)) (.t 67)⟩,
  ⟨some 69, none, .pick (.t 59) (.t 68) (.c (.bool false))⟩]) (.cond (.t 69) (.seq (.rg [⟨some 6, none, .mv (.c (.bool false))⟩]) (.ret)) (.skip))) (.seq (.rg [⟨some 70, none, .fa 3 (.t 4)⟩,
  ⟨some 71, none, .ld (.t 70)⟩,
  ⟨some 72, none, .lenL (.t 71)⟩,
  ⟨some 73, none, .bin .eql (.t 72) (.c (.int .i64 0))⟩,
  ⟨some 74, none, .mv (.t 73)⟩,
  ⟨some 75, some (74, false), .mv (.t 7)⟩,
  ⟨some 76, some (74, false), .mv (.t 10)⟩,
  ⟨some 77, some (74, false), .fa 3 (.t 4)⟩,
  ⟨some 78, some (74, false), .ld (.t 77)⟩,
  ⟨some 79, some (74, false), .callP 40 [.t 75, .t 76, .t 78]⟩,
  ⟨some 80, none, .pick (.t 74) (.c (.bool true)) (.t 79)⟩,
  ⟨some 81, none, .mv (.t 80)⟩,
  ⟨some 82, some (81, false), .fa 5 (.t 4)⟩,
  ⟨some 83, some (81, false), .ld (.t 82)⟩,
  ⟨some 84, some (81, false), .un .not (.t 83)⟩,
  ⟨some 85, some (81, false), .mv (.t 84)⟩,
  ⟨some 86, some (85, true), .mv (.t 10)⟩,
  ⟨some 87, some (85, true), .fa 3 (.t 4)⟩,
  ⟨some 88, some (85, true), .ld (.t 87)⟩,
  ⟨some 89, some (85, true), .callP 41 [.t 86, .t 88]⟩,
  ⟨some 90, some (81, false), .pick (.t 85) (.t 89) (.c (.bool false))⟩,
  ⟨some 91, none, .pick (.t 81) (.c (.bool true)) (.t 90)⟩,
  ⟨some 6, none, .mv (.t 91)⟩]) (.ret))))))), [.t 6]⟩
def s_laws_eqCol : SFn := ⟨20, .seq (.rg [⟨some 2, none, .box (.t 0)⟩,
  ⟨some 3, none, .box (.t 1)⟩,
  ⟨some 4, none, .mv (.c (.bool false))⟩]) (.seq (.seq (.rg [⟨some 5, none, .fa 0 (.t 2)⟩,
  ⟨some 6, none, .ld (.t 5)⟩,
  ⟨some 7, none, .fa 0 (.t 3)⟩,
  ⟨some 8, none, .ld (.t 7)⟩,
  ⟨some 9, none, .bin .neq (.t 6) (.t 8)⟩]) (.cond (.t 9) (.seq (.rg [⟨some 4, none, .mv (.c (.bool false))⟩]) (.ret)) (.skip))) (.seq (.seq (.rg [⟨some 10, none, .fa 1 (.t 2)⟩,
  ⟨some 11, none, .ld (.t 10)⟩,
  ⟨some 12, none, .fa 1 (.t 3)⟩,
  ⟨some 13, none, .ld (.t 12)⟩,
  ⟨some 14, none, .bin .neq (.t 11) (.t 13)⟩]) (.cond (.t 14) (.seq (.rg [⟨some 4, none, .mv (.c (.bool false))⟩]) (.ret)) (.skip))) (.seq (.seq (.rg [⟨some 15, none, .fa 2 (.t 2)⟩,
  ⟨some 16, none, .ld (.t 15)⟩,
  ⟨some 17, none, .fa 2 (.t 3)⟩,
  ⟨some 18, none, .ld (.t 17)⟩,
  ⟨some 19, none, .binB .neq (.t 16) (.t 18)⟩]) (.cond (.t 19) (.seq (.rg [⟨some 4, none, .mv (.c (.bool false))⟩]) (.ret)) (.skip))) (.seq (.rg [⟨some 4, none, .mv (.c (.bool true))⟩]) (.ret))))), [.t 4]⟩
def s_laws_eqBy : SFn := ⟨15, .seq (.rg [⟨some 2, none, .box (.t 0)⟩,
  ⟨some 3, none, .box (.t 1)⟩,
  ⟨some 4, none, .mv (.c (.bool false))⟩]) (.seq (.seq (.rg [⟨some 5, none, .fa 0 (.t 2)⟩,
  ⟨some 6, none, .ld (.t 5)⟩,
  ⟨some 7, none, .fa 0 (.t 3)⟩,
  ⟨some 8, none, .ld (.t 7)⟩,
  ⟨some 9, none, .bin .neq (.t 6) (.t 8)⟩]) (.cond (.t 9) (.seq (.rg [⟨some 4, none, .mv (.c (.bool false))⟩]) (.ret)) (.skip))) (.seq (.seq (.rg [⟨some 10, none, .fa 1 (.t 2)⟩,
  ⟨some 11, none, .ld (.t 10)⟩,
  ⟨some 12, none, .fa 1 (.t 3)⟩,
  ⟨some 13, none, .ld (.t 12)⟩,
  ⟨some 14, none, .binB .neq (.t 11) (.t 13)⟩]) (.cond (.t 14) (.seq (.rg [⟨some 4, none, .mv (.c (.bool false))⟩]) (.ret)) (.skip))) (.seq (.rg [⟨some 4, none, .mv (.c (.bool true))⟩]) (.ret)))), [.t 4]⟩
def s_laws_eqIndex : SFn := ⟨21, .seq (.rg [⟨some 2, none, .box (.t 0)⟩,
  ⟨some 3, none, .box (.t 1)⟩,
  ⟨some 4, none, .mv (.c (.bool false))⟩]) (.seq (.seq (.rg [⟨some 5, none, .fa 0 (.t 2)⟩,
  ⟨some 6, none, .ld (.t 5)⟩,
  ⟨some 7, none, .fa 0 (.t 3)⟩,
  ⟨some 8, none, .ld (.t 7)⟩,
  ⟨some 9, none, .bin .neq (.t 6) (.t 8)⟩]) (.cond (.t 9) (.seq (.rg [⟨some 4, none, .mv (.c (.bool false))⟩]) (.ret)) (.skip))) (.seq (.seq (.rg [⟨some 10, none, .fa 1 (.t 2)⟩,
  ⟨some 11, none, .ld (.t 10)⟩,
  ⟨some 12, none, .fa 1 (.t 3)⟩,
  ⟨some 13, none, .ld (.t 12)⟩,
  ⟨some 14, none, .binB .neq (.t 11) (.t 13)⟩]) (.cond (.t 14) (.seq (.rg [⟨some 4, none, .mv (.c (.bool false))⟩]) (.ret)) (.skip))) (.seq (.seq (.rg [⟨some 15, none, .fa 2 (.t 2)⟩,
  ⟨some 16, none, .ld (.t 15)⟩,
  ⟨some 17, none, .fa 2 (.t 3)⟩,
  ⟨some 18, none, .ld (.t 17)⟩,
  ⟨some 19, none, .callP 86 [.t 16, .t 18]⟩,
  ⟨some 20, none, .un .not (.t 19)⟩]) (.cond (.t 20) (.seq (.rg [⟨some 4, none, .mv (.c (.bool false))⟩]) (.ret)) (.skip))) (.seq (.rg [⟨some 4, none, .mv (.c (.bool true))⟩]) (.ret))))), [.t 4]⟩
def s_laws_eqDef : SFn := ⟨28, .seq (.rg [⟨some 2, none, .box (.t 0)⟩,
  ⟨some 3, none, .box (.t 1)⟩,
  ⟨some 4, none, .mv (.c (.bool false))⟩]) (.seq (.seq (.rg [⟨some 5, none, .fa 0 (.t 2)⟩,
  ⟨some 6, none, .ld (.t 5)⟩,
  ⟨some 7, none, .fa 0 (.t 3)⟩,
  ⟨some 8, none, .ld (.t 7)⟩,
  ⟨some 9, none, .bin .neq (.t 6) (.t 8)⟩]) (.cond (.t 9) (.seq (.rg [⟨some 4, none, .mv (.c (.bool false))⟩]) (.ret)) (.skip))) (.seq (.seq (.rg [⟨some 10, none, .fa 1 (.t 2)⟩,
  ⟨some 11, none, .ld (.t 10)⟩,
  ⟨some 12, none, .fa 1 (.t 3)⟩,
  ⟨some 13, none, .ld (.t 12)⟩,
  ⟨some 14, none, .callP 85 [.t 11, .t 13]⟩,
  ⟨some 15, none, .un .not (.t 14)⟩]) (.cond (.t 15) (.seq (.rg [⟨some 4, none, .mv (.c (.bool false))⟩]) (.ret)) (.skip))) (.seq (.seq (.rg [⟨some 16, none, .fa 2 (.t 2)⟩,
  ⟨some 17, none, .ld (.t 16)⟩,
  ⟨some 18, none, .fa 2 (.t 3)⟩,
  ⟨some 19, none, .ld (.t 18)⟩,
  ⟨some 20, none, .callP 86 [.t 17, .t 19]⟩,
  ⟨some 21, none, .un .not (.t 20)⟩]) (.cond (.t 21) (.seq (.rg [⟨some 4, none, .mv (.c (.bool false))⟩]) (.ret)) (.skip))) (.seq (.seq (.rg [⟨some 22, none, .fa 3 (.t 2)⟩,
  ⟨some 23, none, .ld (.t 22)⟩,
  ⟨some 24, none, .fa 3 (.t 3)⟩,
  ⟨some 25, none, .ld (.t 24)⟩,
  ⟨some 26, none, .callP 87 [.t 23, .t 25]⟩,
  ⟨some 27, none, .un .not (.t 26)⟩]) (.cond (.t 27) (.seq (.rg [⟨some 4, none, .mv (.c (.bool false))⟩]) (.ret)) (.skip))) (.seq (.rg [⟨some 4, none, .mv (.c (.bool true))⟩]) (.ret)))))), [.t 4]⟩
def s_laws_eqVal : SFn := ⟨20, .seq (.rg [⟨some 2, none, .box (.t 0)⟩,
  ⟨some 3, none, .box (.t 1)⟩,
  ⟨some 4, none, .mv (.c (.bool false))⟩]) (.seq (.seq (.rg [⟨some 5, none, .fa 0 (.t 2)⟩,
  ⟨some 6, none, .ld (.t 5)⟩,
  ⟨some 7, none, .fa 0 (.t 3)⟩,
  ⟨some 8, none, .ld (.t 7)⟩,
  ⟨some 9, none, .bin .neq (.t 6) (.t 8)⟩]) (.cond (.t 9) (.seq (.rg [⟨some 4, none, .mv (.c (.bool false))⟩]) (.ret)) (.skip))) (.seq (.seq (.rg [⟨some 10, none, .fa 1 (.t 2)⟩,
  ⟨some 11, none, .ld (.t 10)⟩,
  ⟨some 12, none, .fa 1 (.t 3)⟩,
  ⟨some 13, none, .ld (.t 12)⟩,
  ⟨some 14, none, .bin .neq (.t 11) (.t 13)⟩]) (.cond (.t 14) (.seq (.rg [⟨some 4, none, .mv (.c (.bool false))⟩]) (.ret)) (.skip))) (.seq (.seq (.rg [⟨some 15, none, .fa 2 (.t 2)⟩,
  ⟨some 16, none, .ld (.t 15)⟩,
  ⟨some 17, none, .fa 2 (.t 3)⟩,
  ⟨some 18, none, .ld (.t 17)⟩,
  ⟨some 19, none, .bin .neq (.t 16) (.t 18)⟩]) (.cond (.t 19) (.seq (.rg [⟨some 4, none, .mv (.c (.bool false))⟩]) (.ret)) (.skip))) (.seq (.rg [⟨some 4, none, .mv (.c (.bool true))⟩]) (.ret))))), [.t 4]⟩
def s_laws_eqScan : SFn := ⟨47, .seq (.rg [⟨some 2, none, .box (.t 0)⟩,
  ⟨some 3, none, .box (.t 1)⟩,
  ⟨some 4, none, .mv (.c (.bool false))⟩]) (.seq (.seq (.rg [⟨some 5, none, .fa 0 (.t 2)⟩,
  ⟨some 6, none, .ld (.t 5)⟩,
  ⟨some 7, none, .fa 0 (.t 3)⟩,
  ⟨some 8, none, .ld (.t 7)⟩,
  ⟨some 9, none, .bin .neq (.t 6) (.t 8)⟩]) (.cond (.t 9) (.seq (.rg [⟨some 4, none, .mv (.c (.bool false))⟩]) (.ret)) (.skip))) (.seq (.seq (.rg [⟨some 10, none, .fa 1 (.t 2)⟩,
  ⟨some 11, none, .ld (.t 10)⟩,
  ⟨some 12, none, .fa 1 (.t 3)⟩,
  ⟨some 13, none, .ld (.t 12)⟩,
  ⟨some 14, none, .bin .neq (.t 11) (.t 13)⟩]) (.cond (.t 14) (.seq (.rg [⟨some 4, none, .mv (.c (.bool false))⟩]) (.ret)) (.skip))) (.seq (.seq (.rg [⟨some 15, none, .fa 2 (.t 2)⟩,
  ⟨some 16, none, .ld (.t 15)⟩,
  ⟨some 17, none, .fa 2 (.t 3)⟩,
  ⟨some 18, none, .ld (.t 17)⟩,
  ⟨some 19, none, .callP 17 [.t 16, .t 18]⟩,
  ⟨some 20, none, .un .not (.t 19)⟩]) (.cond (.t 20) (.seq (.rg [⟨some 4, none, .mv (.c (.bool false))⟩]) (.ret)) (.skip))) (.seq (.seq (.rg [⟨some 21, none, .fa 3 (.t 2)⟩,
  ⟨some 22, none, .ld (.t 21)⟩,
  ⟨some 23, none, .fa 3 (.t 3)⟩,
  ⟨some 24, none, .ld (.t 23)⟩,
  ⟨some 25, none, .callP 17 [.t 22, .t 24]⟩,
  ⟨some 26, none, .un .not (.t 25)⟩]) (.cond (.t 26) (.seq (.rg [⟨some 4, none, .mv (.c (.bool false))⟩]) (.ret)) (.skip))) (.seq (.seq (.rg [⟨some 27, none, .fa 4 (.t 2)⟩,
  ⟨some 28, none, .ld (.t 27)⟩,
  ⟨some 29, none, .fa 4 (.t 3)⟩,
  ⟨some 30, none, .ld (.t 29)⟩,
  ⟨some 31, none, .binB .neq (.t 28) (.t 30)⟩]) (.cond (.t 31) (.seq (.rg [⟨some 4, none, .mv (.c (.bool false))⟩]) (.ret)) (.skip))) (.seq (.seq (.rg [⟨some 32, none, .fa 5 (.t 2)⟩,
  ⟨some 33, none, .ld (.t 32)⟩,
  ⟨some 34, none, .fa 5 (.t 3)⟩,
  ⟨some 35, none, .ld (.t 34)⟩,
  ⟨some 36, none, .binB .neq (.t 33) (.t 35)⟩]) (.cond (.t 36) (.seq (.rg [⟨some 4, none, .mv (.c (.bool false))⟩]) (.ret)) (.skip))) (.seq (.seq (.rg [⟨some 37, none, .fa 6 (.t 2)⟩,
  ⟨some 38, none, .ld (.t 37)⟩,
  ⟨some 39, none, .fa 6 (.t 3)⟩,
  ⟨some 40, none, .ld (.t 39)⟩,
  ⟨some 41, none, .binB .neq (.t 38) (.t 40)⟩]) (.cond (.t 41) (.seq (.rg [⟨some 4, none, .mv (.c (.bool false))⟩]) (.ret)) (.skip))) (.seq (.seq (.rg [⟨some 42, none, .fa 7 (.t 2)⟩,
  ⟨some 43, none, .ld (.t 42)⟩,
  ⟨some 44, none, .fa 7 (.t 3)⟩,
  ⟨some 45, none, .ld (.t 44)⟩,
  ⟨some 46, none, .bin .neq (.t 43) (.t 45)⟩]) (.cond (.t 46) (.seq (.rg [⟨some 4, none, .mv (.c (.bool false))⟩]) (.ret)) (.skip))) (.seq (.rg [⟨some 4, none, .mv (.c (.bool true))⟩]) (.ret)))))))))), [.t 4]⟩
def s_laws_FnExactInScan : SFn := ⟨63, .seq (.rg [⟨some 4, none, .box (.t 1)⟩,
  ⟨some 6, none, .mv (.c (.bool false))⟩]) (.seq (.rg [⟨some 7, none, .mv (.c (.int .i64 1048576))⟩]) (.seq (.rg [⟨some 13, none, .mv (.t 0)⟩,
  ⟨some 14, none, .mv (.t 7)⟩,
  ⟨some 15, none, .callP 7 [.t 13, .t 14]⟩,
  ⟨some 7, none, .mv (.t 15)⟩]) (.seq (.seq (.rg [⟨some 16, none, .mv (.t 7)⟩,
  ⟨some 17, none, .bin .lss (.t 16) (.c (.int .i64 0))⟩]) (.cond (.t 17) (.seq (.rg [⟨some 6, none, .mv (.c (.bool true))⟩]) (.ret)) (.skip))) (.seq (.rg [⟨some 18, none, .ldA 8 (.t 4)⟩,
  ⟨some 19, none, .mv (.t 7)⟩,
  ⟨some 20, none, .callP 8 [.t 18, .t 19]⟩,
  ⟨some 7, none, .mv (.t 20)⟩]) (.seq (.seq (.rg [⟨some 21, none, .mv (.t 7)⟩,
  ⟨some 22, none, .bin .lss (.t 21) (.c (.int .i64 0))⟩]) (.cond (.t 22) (.seq (.rg [⟨some 6, none, .mv (.c (.bool true))⟩]) (.ret)) (.skip))) (.seq (.rg [⟨some 23, none, .mv (.t 2)⟩,
  ⟨some 24, none, .mv (.t 7)⟩,
  ⟨some 25, none, .callP 9 [.t 23, .t 24]⟩,
  ⟨some 7, none, .mv (.t 25)⟩]) (.seq (.seq (.rg [⟨some 26, none, .mv (.t 7)⟩,
  ⟨some 27, none, .bin .lss (.t 26) (.c (.int .i64 0))⟩]) (.cond (.t 27) (.seq (.rg [⟨some 6, none, .mv (.c (.bool true))⟩]) (.ret)) (.skip))) (.seq (.rg [⟨some 28, none, .mv (.t 0)⟩,
  ⟨some 29, none, .callP 11 [.t 28]⟩,
  ⟨some 30, none, .ldA 8 (.t 4)⟩,
  ⟨some 31, none, .callP 12 [.t 30]⟩,
  ⟨some 32, none, .mv (.t 2)⟩,
  ⟨some 33, none, .callP 13 [.t 32]⟩,
  ⟨some 34, none, .callP 10 [.t 29, .t 31, .t 33]⟩,
  ⟨some 8, none, .mv (.t 34)⟩]) (.seq (.rg [⟨some 35, none, .mv (.t 0)⟩,
  ⟨some 36, none, .callP 11 [.t 35]⟩,
  ⟨some 9, none, .mv (.t 36)⟩]) (.seq (.rg [⟨some 37, none, .ldA 8 (.t 4)⟩,
  ⟨some 38, none, .callP 12 [.t 37]⟩,
  ⟨some 10, none, .alloc [.int .i64 0, .int .i64 0, .snil, .snil, .bool false, .bool false, .bool false, .int .i64 0]⟩,
  ⟨none, none, .st 8 (.t 10) (.t 38)⟩]) (.seq (.rg [⟨some 39, none, .mv (.t 2)⟩,
  ⟨some 40, none, .callP 13 [.t 39]⟩,
  ⟨some 11, none, .mv (.t 40)⟩]) (.seq (.rg [⟨some 41, none, .mv (.t 9)⟩,
  ⟨some 42, none, .ldA 8 (.t 10)⟩,
  ⟨some 43, none, .mv (.t 11)⟩,
  ⟨some 44, none, .callP 14 [.t 41, .t 42, .t 43]⟩,
  ⟨some 12, none, .mv (.t 44)⟩]) (.seq (.seq (.rg [⟨some 45, none, .mv (.t 12)⟩,
  ⟨some 46, none, .mv (.t 8)⟩,
  ⟨some 47, none, .binB .neq (.t 45) (.t 46)⟩]) (.cond (.t 47) (.seq (.rg [⟨some 6, none, .mv (.c (.bool false))⟩]) (.ret)) (.skip))) (.seq (.seq (.rg [⟨some 48, none, .mv (.t 9)⟩,
  ⟨some 49, none, .mv (.t 0)⟩,
  ⟨some 50, none, .callP 11 [.t 49]⟩,
  ⟨some 51, none, .callP 15 [.t 48, .t 50]⟩,
  ⟨some 52, none, .un .not (.t 51)⟩]) (.cond (.t 52) (.seq (.rg [⟨some 6, none, .mv (.c (.bool false))⟩]) (.ret)) (.skip))) (.seq (.seq (.rg [⟨some 53, none, .ldA 8 (.t 10)⟩,
  ⟨some 54, none, .ldA 8 (.t 4)⟩,
  ⟨some 55, none, .callP 12 [.t 54]⟩,
  ⟨some 56, none, .callP 16 [.t 53, .t 55]⟩,
  ⟨some 57, none, .un .not (.t 56)⟩]) (.cond (.t 57) (.seq (.rg [⟨some 6, none, .mv (.c (.bool false))⟩]) (.ret)) (.skip))) (.seq (.seq (.rg [⟨some 58, none, .mv (.t 11)⟩,
  ⟨some 59, none, .mv (.t 2)⟩,
  ⟨some 60, none, .callP 13 [.t 59]⟩,
  ⟨some 61, none, .callP 17 [.t 58, .t 60]⟩,
  ⟨some 62, none, .un .not (.t 61)⟩]) (.cond (.t 62) (.seq (.rg [⟨some 6, none, .mv (.c (.bool false))⟩]) (.ret)) (.skip))) (.seq (.rg [⟨some 6, none, .mv (.c (.bool true))⟩]) (.ret)))))))))))))))))), [.t 6]⟩
def isC : List FuncId := [131, 61, 62, 132, 63, 27, 7, 28, 9, 8, 143, 74, 144, 75, 145, 76, 33, 11, 34, 13, 12, 65, 294, 295, 250, 251, 206, 137, 138, 207, 139, 208, 140, 69, 45, 64, 70, 204, 133, 134, 66, 205, 135, 67, 29, 31, 136, 68, 30, 71, 72, 141, 209, 142, 73, 32, 10, 78, 150, 252, 297, 298, 253, 211, 148, 149, 81, 50, 77, 151, 82, 83, 38, 210, 146, 79, 35, 37, 147, 80, 36, 39, 152, 84, 40, 41, 14, 153, 85, 154, 86, 155, 87, 42, 15, 43, 17, 16]
def rw (f : FuncId) : List Tmp := if f = 74 then [7] else if f = 75 then [7] else if f = 76 then [7] else if f = 11 then [7] else if f = 13 then [7] else []
def fr (f : FuncId) : Bool := f == 204 || f == 31 || f == 71 || f == 151 || f == 37 || f == 39
noncomputable def EE (cs : List (FuncId × (List AV → Option AV))) : Env := mkE Tryz.prog isC rw fr cs
theorem st_laws_szCol_ : stF (EE []) 131 = some (s_laws_szCol) := by kernel_rfl
theorem st_laws_szCol (cs) : stF (EE cs) 131 = some (s_laws_szCol) := (stF_mk cs [] 131).trans st_laws_szCol_
theorem st_laws_szColS_ : stF (EE []) 61 = some (szSF 131 3 false) := by kernel_rfl
theorem st_laws_szColS (cs) : stF (EE cs) 61 = some (szSF 131 3 false) := (stF_mk cs [] 61).trans st_laws_szColS_
theorem st_laws_szByS_ : stF (EE []) 62 = some (szLenF) := by kernel_rfl
theorem st_laws_szByS (cs) : stF (EE cs) 62 = some (szLenF) := (stF_mk cs [] 62).trans st_laws_szByS_
theorem st_laws_szIndex_ : stF (EE []) 132 = some (s_laws_szIndex) := by kernel_rfl
theorem st_laws_szIndex (cs) : stF (EE cs) 132 = some (s_laws_szIndex) := (stF_mk cs [] 132).trans st_laws_szIndex_
theorem st_laws_szIndexS_ : stF (EE []) 63 = some (szSF 132 3 false) := by kernel_rfl
theorem st_laws_szIndexS (cs) : stF (EE cs) 63 = some (szSF 132 3 false) := (stF_mk cs [] 63).trans st_laws_szIndexS_
theorem st_laws_szDef_ : stF (EE []) 27 = some (s_laws_szDef) := by kernel_rfl
theorem st_laws_szDef (cs) : stF (EE cs) 27 = some (s_laws_szDef) := (stF_mk cs [] 27).trans st_laws_szDef_
theorem st_laws_szDefS_ : stF (EE []) 7 = some (szSF 27 4 false) := by kernel_rfl
theorem st_laws_szDefS (cs) : stF (EE cs) 7 = some (szSF 27 4 false) := (stF_mk cs [] 7).trans st_laws_szDefS_
theorem st_laws_szVal_ : stF (EE []) 28 = some (s_laws_szVal) := by kernel_rfl
theorem st_laws_szVal (cs) : stF (EE cs) 28 = some (s_laws_szVal) := (stF_mk cs [] 28).trans st_laws_szVal_
theorem st_laws_szValS_ : stF (EE []) 9 = some (szSF 28 3 false) := by kernel_rfl
theorem st_laws_szValS (cs) : stF (EE cs) 9 = some (szSF 28 3 false) := (stF_mk cs [] 9).trans st_laws_szValS_
theorem st_laws_szScan_ : stF (EE []) 8 = some (s_laws_szScan) := by kernel_rfl
theorem st_laws_szScan (cs) : stF (EE cs) 8 = some (s_laws_szScan) := (stF_mk cs [] 8).trans st_laws_szScan_
theorem st_laws_toCol_ : stF (EE []) 143 = some (s_laws_toCol) := by kernel_rfl
theorem st_laws_toCol (cs) : stF (EE cs) 143 = some (s_laws_toCol) := (stF_mk cs [] 143).trans st_laws_toCol_
theorem st_laws_toColS_ : stF (EE []) 74 = some (toSF 143 3 false 32 [.str [], .int .i64 0, .bool false]) := by kernel_rfl
theorem st_laws_toColS (cs) : stF (EE cs) 74 = some (toSF 143 3 false 32 [.str [], .int .i64 0, .bool false]) := (stF_mk cs [] 74).trans st_laws_toColS_
theorem st_laws_toBy_ : stF (EE []) 144 = some (s_laws_toBy) := by kernel_rfl
theorem st_laws_toBy (cs) : stF (EE cs) 144 = some (s_laws_toBy) := (stF_mk cs [] 144).trans st_laws_toBy_
theorem st_laws_toByS_ : stF (EE []) 75 = some (toSF 144 2 false 16 [.int .i64 0, .bool false]) := by kernel_rfl
theorem st_laws_toByS (cs) : stF (EE cs) 75 = some (toSF 144 2 false 16 [.int .i64 0, .bool false]) := (stF_mk cs [] 75).trans st_laws_toByS_
theorem st_laws_toIndex_ : stF (EE []) 145 = some (s_laws_toIndex) := by kernel_rfl
theorem st_laws_toIndex (cs) : stF (EE cs) 145 = some (s_laws_toIndex) := (stF_mk cs [] 145).trans st_laws_toIndex_
theorem st_laws_toIndexS_ : stF (EE []) 76 = some (toSF 145 3 false 48 [.str [], .bool false, .snil]) := by kernel_rfl
theorem st_laws_toIndexS (cs) : stF (EE cs) 76 = some (toSF 145 3 false 48 [.str [], .bool false, .snil]) := (stF_mk cs [] 76).trans st_laws_toIndexS_
theorem st_laws_toDef_ : stF (EE []) 33 = some (s_laws_toDef) := by kernel_rfl
theorem st_laws_toDef (cs) : stF (EE cs) 33 = some (s_laws_toDef) := (stF_mk cs [] 33).trans st_laws_toDef_
theorem st_laws_toDefS_ : stF (EE []) 11 = some (toSF 33 4 false 88 [.str [], .snil, .snil, .snil]) := by kernel_rfl
theorem st_laws_toDefS (cs) : stF (EE cs) 11 = some (toSF 33 4 false 88 [.str [], .snil, .snil, .snil]) := (stF_mk cs [] 11).trans st_laws_toDefS_
theorem st_laws_toVal_ : stF (EE []) 34 = some (s_laws_toVal) := by kernel_rfl
theorem st_laws_toVal (cs) : stF (EE cs) 34 = some (s_laws_toVal) := (stF_mk cs [] 34).trans st_laws_toVal_
theorem st_laws_toValS_ : stF (EE []) 13 = some (toSF 34 3 false 32 [.int .i64 0, .int .i64 0, .str []]) := by kernel_rfl
theorem st_laws_toValS (cs) : stF (EE cs) 13 = some (toSF 34 3 false 32 [.int .i64 0, .int .i64 0, .str []]) := (stF_mk cs [] 13).trans st_laws_toValS_
theorem st_laws_toScan_ : stF (EE []) 12 = some (s_laws_toScan) := by kernel_rfl
theorem st_laws_toScan (cs) : stF (EE cs) 12 = some (s_laws_toScan) := (stF_mk cs [] 12).trans st_laws_toScan_
theorem st_spec_l1In_ : stF (EE []) 65 = some (s_spec_l1In) := by kernel_rfl
theorem st_spec_l1In (cs) : stF (EE cs) 65 = some (s_spec_l1In) := (stF_mk cs [] 65).trans st_spec_l1In_
theorem st_spec_l8Small_ : stF (EE []) 294 = some (s_spec_l8Small) := by kernel_rfl
theorem st_spec_l8Small (cs) : stF (EE cs) 294 = some (s_spec_l8Small) := (stF_mk cs [] 294).trans st_spec_l8Small_
theorem st_spec_l2Digit_ : stF (EE []) 295 = some (s_spec_l2Digit) := by kernel_rfl
theorem st_spec_l2Digit (cs) : stF (EE cs) 295 = some (s_spec_l2Digit) := (stF_mk cs [] 295).trans st_spec_l2Digit_
theorem st_spec_l8Name_ : stF (EE []) 250 = some (s_spec_l8Name) := by kernel_rfl
theorem st_spec_l8Name (cs) : stF (EE cs) 250 = some (s_spec_l8Name) := (stF_mk cs [] 250).trans st_spec_l8Name_
theorem st_spec_l9Has_ : stF (EE []) 251 = some (s_spec_l9Has) := by kernel_rfl
theorem st_spec_l9Has (cs) : stF (EE cs) 251 = some (s_spec_l9Has) := (stF_mk cs [] 251).trans st_spec_l9Has_
theorem st_spec_l9Word_ : stF (EE []) 206 = some (s_spec_l9Word) := by kernel_rfl
theorem st_spec_l9Word (cs) : stF (EE cs) 206 = some (s_spec_l9Word) := (stF_mk cs [] 206).trans st_spec_l9Word_
theorem st_spec_l9Names_ : stF (EE []) 137 = some (s_spec_l9Names) := by kernel_rfl
theorem st_spec_l9Names (cs) : stF (EE cs) 137 = some (s_spec_l9Names) := (stF_mk cs [] 137).trans st_spec_l9Names_
theorem st_spec_l9Types_ : stF (EE []) 138 = some (s_spec_l9Types) := by kernel_rfl
theorem st_spec_l9Types (cs) : stF (EE cs) 138 = some (s_spec_l9Types) := (stF_mk cs [] 138).trans st_spec_l9Types_
theorem st_spec_l9Col_ : stF (EE []) 207 = some (s_spec_l9Col) := by kernel_rfl
theorem st_spec_l9Col (cs) : stF (EE cs) 207 = some (s_spec_l9Col) := (stF_mk cs [] 207).trans st_spec_l9Col_
theorem st_spec_l9Once_ : stF (EE []) 139 = some (s_spec_l9Once) := by kernel_rfl
theorem st_spec_l9Once (cs) : stF (EE cs) 139 = some (s_spec_l9Once) := (stF_mk cs [] 139).trans st_spec_l9Once_
theorem st_spec_l9Parts_ : stF (EE []) 208 = some (s_spec_l9Parts) := by kernel_rfl
theorem st_spec_l9Parts (cs) : stF (EE cs) 208 = some (s_spec_l9Parts) := (stF_mk cs [] 208).trans st_spec_l9Parts_
theorem st_spec_l9AllParts_ : stF (EE []) 140 = some (s_spec_l9AllParts) := by kernel_rfl
theorem st_spec_l9AllParts (cs) : stF (EE cs) 140 = some (s_spec_l9AllParts) := (stF_mk cs [] 140).trans st_spec_l9AllParts_
theorem st_spec_CheckDef_ : stF (EE []) 69 = some (s_spec_CheckDef) := by kernel_rfl
theorem st_spec_CheckDef (cs) : stF (EE cs) 69 = some (s_spec_CheckDef) := (stF_mk cs [] 69).trans st_spec_CheckDef_
theorem st_spec_FirstBad_ : stF (EE []) 45 = some (s_spec_FirstBad) := by kernel_rfl
theorem st_spec_FirstBad (cs) : stF (EE cs) 45 = some (s_spec_FirstBad) := (stF_mk cs [] 45).trans st_spec_FirstBad_
theorem st_spec_l11There_ : stF (EE []) 64 = some (s_spec_l11There) := by kernel_rfl
theorem st_spec_l11There (cs) : stF (EE cs) 64 = some (s_spec_l11There) := (stF_mk cs [] 64).trans st_spec_l11There_
theorem st_spec_l11Part_ : stF (EE []) 70 = some (s_spec_l11Part) := by kernel_rfl
theorem st_spec_l11Part (cs) : stF (EE cs) 70 = some (s_spec_l11Part) := (stF_mk cs [] 70).trans st_spec_l11Part_
theorem st_spec_l11Parts_ : stF (EE []) 204 = some (s_spec_l11Parts) := by kernel_rfl
theorem st_spec_l11Parts (cs) : stF (EE cs) 204 = some (s_spec_l11Parts) := (stF_mk cs [] 204).trans st_spec_l11Parts_
theorem st_spec_PrimaryPlan_ : stF (EE []) 133 = some (s_spec_PrimaryPlan) := by kernel_rfl
theorem st_spec_PrimaryPlan (cs) : stF (EE cs) 133 = some (s_spec_PrimaryPlan) := (stF_mk cs [] 133).trans st_spec_PrimaryPlan_
theorem st_spec_IndexPlan_ : stF (EE []) 134 = some (s_spec_IndexPlan) := by kernel_rfl
theorem st_spec_IndexPlan (cs) : stF (EE cs) 134 = some (s_spec_IndexPlan) := (stF_mk cs [] 134).trans st_spec_IndexPlan_
theorem st_spec_l11Plan_ : stF (EE []) 66 = some (s_spec_l11Plan) := by kernel_rfl
theorem st_spec_l11Plan (cs) : stF (EE cs) 66 = some (s_spec_l11Plan) := (stF_mk cs [] 66).trans st_spec_l11Plan_
theorem st_spec_ValOk_ : stF (EE []) 205 = some (s_spec_ValOk) := by kernel_rfl
theorem st_spec_ValOk (cs) : stF (EE cs) 205 = some (s_spec_ValOk) := (stF_mk cs [] 205).trans st_spec_ValOk_
theorem st_spec_Fits_ : stF (EE []) 135 = some (s_spec_Fits) := by kernel_rfl
theorem st_spec_Fits (cs) : stF (EE cs) 135 = some (s_spec_Fits) := (stF_mk cs [] 135).trans st_spec_Fits_
theorem st_spec_FitsAll_ : stF (EE []) 67 = some (s_spec_FitsAll) := by kernel_rfl
theorem st_spec_FitsAll (cs) : stF (EE cs) 67 = some (s_spec_FitsAll) := (stF_mk cs [] 67).trans st_spec_FitsAll_
theorem st_spec_ScanOk_ : stF (EE []) 29 = some (s_spec_ScanOk) := by kernel_rfl
theorem st_spec_ScanOk (cs) : stF (EE cs) 29 = some (s_spec_ScanOk) := (stF_mk cs [] 29).trans st_spec_ScanOk_
theorem st_spec_RowPlan_ : stF (EE []) 31 = some (s_spec_RowPlan) := by kernel_rfl
theorem st_spec_RowPlan (cs) : stF (EE cs) 31 = some (s_spec_RowPlan) := (stF_mk cs [] 31).trans st_spec_RowPlan_
theorem st_spec_PartOk_ : stF (EE []) 136 = some (s_spec_PartOk) := by kernel_rfl
theorem st_spec_PartOk (cs) : stF (EE cs) 136 = some (s_spec_PartOk) := (stF_mk cs [] 136).trans st_spec_PartOk_
theorem st_spec_PlanOk_ : stF (EE []) 68 = some (s_spec_PlanOk) := by kernel_rfl
theorem st_spec_PlanOk (cs) : stF (EE cs) 68 = some (s_spec_PlanOk) := (stF_mk cs [] 68).trans st_spec_PlanOk_
theorem st_spec_RowOk_ : stF (EE []) 30 = some (s_spec_RowOk) := by kernel_rfl
theorem st_spec_RowOk (cs) : stF (EE cs) 30 = some (s_spec_RowOk) := (stF_mk cs [] 30).trans st_spec_RowOk_
theorem st_spec_Pick_ : stF (EE []) 71 = some (s_spec_Pick) := by kernel_rfl
theorem st_spec_Pick (cs) : stF (EE cs) 71 = some (s_spec_Pick) := (stF_mk cs [] 71).trans st_spec_Pick_
theorem st_spec_SameRow_ : stF (EE []) 72 = some (s_spec_SameRow) := by kernel_rfl
theorem st_spec_SameRow (cs) : stF (EE cs) 72 = some (s_spec_SameRow) := (stF_mk cs [] 72).trans st_spec_SameRow_
theorem st_spec_SameVal_ : stF (EE []) 141 = some (s_spec_SameVal) := by kernel_rfl
theorem st_spec_SameVal (cs) : stF (EE cs) 141 = some (s_spec_SameVal) := (stF_mk cs [] 141).trans st_spec_SameVal_
theorem st_spec_LessVal_ : stF (EE []) 209 = some (s_spec_LessVal) := by kernel_rfl
theorem st_spec_LessVal (cs) : stF (EE cs) 209 = some (s_spec_LessVal) := (stF_mk cs [] 209).trans st_spec_LessVal_
theorem st_spec_LessPart_ : stF (EE []) 142 = some (s_spec_LessPart) := by kernel_rfl
theorem st_spec_LessPart (cs) : stF (EE cs) 142 = some (s_spec_LessPart) := (stF_mk cs [] 142).trans st_spec_LessPart_
theorem st_spec_LessKey_ : stF (EE []) 73 = some (s_spec_LessKey) := by kernel_rfl
theorem st_spec_LessKey (cs) : stF (EE cs) 73 = some (s_spec_LessKey) := (stF_mk cs [] 73).trans st_spec_LessKey_
theorem st_spec_l24In_ : stF (EE []) 32 = some (s_spec_l24In) := by kernel_rfl
theorem st_spec_l24In (cs) : stF (EE cs) 32 = some (s_spec_l24In) := (stF_mk cs [] 32).trans st_spec_l24In_
theorem st_spec_InScan_ : stF (EE []) 10 = some (s_spec_InScan) := by kernel_rfl
theorem st_spec_InScan (cs) : stF (EE cs) 10 = some (s_spec_InScan) := (stF_mk cs [] 10).trans st_spec_InScan_
theorem st_impl_in_ : stF (EE []) 78 = some (s_impl_in) := by kernel_rfl
theorem st_impl_in (cs) : stF (EE cs) 78 = some (s_impl_in) := (stF_mk cs [] 78).trans st_impl_in_
theorem st_impl_partsOk_ : stF (EE []) 150 = some (s_impl_partsOk) := by kernel_rfl
theorem st_impl_partsOk (cs) : stF (EE cs) 150 = some (s_impl_partsOk) := (stF_mk cs [] 150).trans st_impl_partsOk_
theorem st_impl_isLetter_ : stF (EE []) 297 = some (s_impl_isLetter) := by kernel_rfl
theorem st_impl_isLetter (cs) : stF (EE cs) 297 = some (s_impl_isLetter) := (stF_mk cs [] 297).trans st_impl_isLetter_
theorem st_impl_isDigit_ : stF (EE []) 298 = some (s_impl_isDigit) := by kernel_rfl
theorem st_impl_isDigit (cs) : stF (EE cs) 298 = some (s_impl_isDigit) := (stF_mk cs [] 298).trans st_impl_isDigit_
theorem st_impl_nameOk_ : stF (EE []) 253 = some (s_impl_nameOk) := by kernel_rfl
theorem st_impl_nameOk (cs) : stF (EE cs) 253 = some (s_impl_nameOk) := (stF_mk cs [] 253).trans st_impl_nameOk_
theorem st_impl_isFree_ : stF (EE []) 211 = some (s_impl_isFree) := by kernel_rfl
theorem st_impl_isFree (cs) : stF (EE cs) 211 = some (s_impl_isFree) := (stF_mk cs [] 211).trans st_impl_isFree_
theorem st_impl_namesOk_ : stF (EE []) 148 = some (s_impl_namesOk) := by kernel_rfl
theorem st_impl_namesOk (cs) : stF (EE cs) 148 = some (s_impl_namesOk) := (stF_mk cs [] 148).trans st_impl_namesOk_
theorem st_impl_twice_ : stF (EE []) 149 = some (s_impl_twice) := by kernel_rfl
theorem st_impl_twice (cs) : stF (EE cs) 149 = some (s_impl_twice) := (stF_mk cs [] 149).trans st_impl_twice_
theorem st_impl_CheckDef_ : stF (EE []) 81 = some (s_impl_CheckDef) := by kernel_rfl
theorem st_impl_CheckDef (cs) : stF (EE cs) 81 = some (s_impl_CheckDef) := (stF_mk cs [] 81).trans st_impl_CheckDef_
theorem st_impl_FirstBad_ : stF (EE []) 50 = some (s_impl_FirstBad) := by kernel_rfl
theorem st_impl_FirstBad (cs) : stF (EE cs) 50 = some (s_impl_FirstBad) := (stF_mk cs [] 50).trans st_impl_FirstBad_
theorem st_impl_hasIndex_ : stF (EE []) 77 = some (s_impl_hasIndex) := by kernel_rfl
theorem st_impl_hasIndex (cs) : stF (EE cs) 77 = some (s_impl_hasIndex) := (stF_mk cs [] 77).trans st_impl_hasIndex_
theorem st_impl_partsOf_ : stF (EE []) 151 = some (s_impl_partsOf) := by kernel_rfl
theorem st_impl_partsOf (cs) : stF (EE cs) 151 = some (s_impl_partsOf) := (stF_mk cs [] 151).trans st_impl_partsOf_
theorem st_impl_PrimaryPlan_ : stF (EE []) 82 = some (s_impl_PrimaryPlan) := by kernel_rfl
theorem st_impl_PrimaryPlan (cs) : stF (EE cs) 82 = some (s_impl_PrimaryPlan) := (stF_mk cs [] 82).trans st_impl_PrimaryPlan_
theorem st_impl_IndexPlan_ : stF (EE []) 83 = some (s_impl_IndexPlan) := by kernel_rfl
theorem st_impl_IndexPlan (cs) : stF (EE cs) 83 = some (s_impl_IndexPlan) := (stF_mk cs [] 83).trans st_impl_IndexPlan_
theorem st_impl_planOf_ : stF (EE []) 38 = some (s_impl_planOf) := by kernel_rfl
theorem st_impl_planOf (cs) : stF (EE cs) 38 = some (s_impl_planOf) := (stF_mk cs [] 38).trans st_impl_planOf_
theorem st_impl_ValOk_ : stF (EE []) 210 = some (s_impl_ValOk) := by kernel_rfl
theorem st_impl_ValOk (cs) : stF (EE cs) 210 = some (s_impl_ValOk) := (stF_mk cs [] 210).trans st_impl_ValOk_
theorem st_impl_Fits_ : stF (EE []) 146 = some (s_impl_Fits) := by kernel_rfl
theorem st_impl_Fits (cs) : stF (EE cs) 146 = some (s_impl_Fits) := (stF_mk cs [] 146).trans st_impl_Fits_
theorem st_impl_FitsAll_ : stF (EE []) 79 = some (s_impl_FitsAll) := by kernel_rfl
theorem st_impl_FitsAll (cs) : stF (EE cs) 79 = some (s_impl_FitsAll) := (stF_mk cs [] 79).trans st_impl_FitsAll_
theorem st_impl_ScanOk_ : stF (EE []) 35 = some (s_impl_ScanOk) := by kernel_rfl
theorem st_impl_ScanOk (cs) : stF (EE cs) 35 = some (s_impl_ScanOk) := (stF_mk cs [] 35).trans st_impl_ScanOk_
theorem st_impl_RowPlan_ : stF (EE []) 37 = some (s_impl_RowPlan) := by kernel_rfl
theorem st_impl_RowPlan (cs) : stF (EE cs) 37 = some (s_impl_RowPlan) := (stF_mk cs [] 37).trans st_impl_RowPlan_
theorem st_impl_PartOk_ : stF (EE []) 147 = some (s_impl_PartOk) := by kernel_rfl
theorem st_impl_PartOk (cs) : stF (EE cs) 147 = some (s_impl_PartOk) := (stF_mk cs [] 147).trans st_impl_PartOk_
theorem st_impl_PlanOk_ : stF (EE []) 80 = some (s_impl_PlanOk) := by kernel_rfl
theorem st_impl_PlanOk (cs) : stF (EE cs) 80 = some (s_impl_PlanOk) := (stF_mk cs [] 80).trans st_impl_PlanOk_
theorem st_impl_RowOk_ : stF (EE []) 36 = some (s_impl_RowOk) := by kernel_rfl
theorem st_impl_RowOk (cs) : stF (EE cs) 36 = some (s_impl_RowOk) := (stF_mk cs [] 36).trans st_impl_RowOk_
theorem st_impl_Pick_ : stF (EE []) 39 = some (s_impl_Pick) := by kernel_rfl
theorem st_impl_Pick (cs) : stF (EE cs) 39 = some (s_impl_Pick) := (stF_mk cs [] 39).trans st_impl_Pick_
theorem st_impl_LessVal_ : stF (EE []) 152 = some (s_impl_LessVal) := by kernel_rfl
theorem st_impl_LessVal (cs) : stF (EE cs) 152 = some (s_impl_LessVal) := (stF_mk cs [] 152).trans st_impl_LessVal_
theorem st_impl_LessPart_ : stF (EE []) 84 = some (s_impl_LessPart) := by kernel_rfl
theorem st_impl_LessPart (cs) : stF (EE cs) 84 = some (s_impl_LessPart) := (stF_mk cs [] 84).trans st_impl_LessPart_
theorem st_impl_LessKey_ : stF (EE []) 40 = some (s_impl_LessKey) := by kernel_rfl
theorem st_impl_LessKey (cs) : stF (EE cs) 40 = some (s_impl_LessKey) := (stF_mk cs [] 40).trans st_impl_LessKey_
theorem st_impl_SameRow_ : stF (EE []) 41 = some (s_impl_SameRow) := by kernel_rfl
theorem st_impl_SameRow (cs) : stF (EE cs) 41 = some (s_impl_SameRow) := (stF_mk cs [] 41).trans st_impl_SameRow_
theorem st_impl_InScan_ : stF (EE []) 14 = some (s_impl_InScan) := by kernel_rfl
theorem st_impl_InScan (cs) : stF (EE cs) 14 = some (s_impl_InScan) := (stF_mk cs [] 14).trans st_impl_InScan_
theorem st_laws_eqCol_ : stF (EE []) 153 = some (s_laws_eqCol) := by kernel_rfl
theorem st_laws_eqCol (cs) : stF (EE cs) 153 = some (s_laws_eqCol) := (stF_mk cs [] 153).trans st_laws_eqCol_
theorem st_laws_eqColS_ : stF (EE []) 85 = some (eqSF 153 3 false) := by kernel_rfl
theorem st_laws_eqColS (cs) : stF (EE cs) 85 = some (eqSF 153 3 false) := (stF_mk cs [] 85).trans st_laws_eqColS_
theorem st_laws_eqBy_ : stF (EE []) 154 = some (s_laws_eqBy) := by kernel_rfl
theorem st_laws_eqBy (cs) : stF (EE cs) 154 = some (s_laws_eqBy) := (stF_mk cs [] 154).trans st_laws_eqBy_
theorem st_laws_eqByS_ : stF (EE []) 86 = some (eqSF 154 2 false) := by kernel_rfl
theorem st_laws_eqByS (cs) : stF (EE cs) 86 = some (eqSF 154 2 false) := (stF_mk cs [] 86).trans st_laws_eqByS_
theorem st_laws_eqIndex_ : stF (EE []) 155 = some (s_laws_eqIndex) := by kernel_rfl
theorem st_laws_eqIndex (cs) : stF (EE cs) 155 = some (s_laws_eqIndex) := (stF_mk cs [] 155).trans st_laws_eqIndex_
theorem st_laws_eqIndexS_ : stF (EE []) 87 = some (eqSF 155 3 false) := by kernel_rfl
theorem st_laws_eqIndexS (cs) : stF (EE cs) 87 = some (eqSF 155 3 false) := (stF_mk cs [] 87).trans st_laws_eqIndexS_
theorem st_laws_eqDef_ : stF (EE []) 42 = some (s_laws_eqDef) := by kernel_rfl
theorem st_laws_eqDef (cs) : stF (EE cs) 42 = some (s_laws_eqDef) := (stF_mk cs [] 42).trans st_laws_eqDef_
theorem st_laws_eqDefS_ : stF (EE []) 15 = some (eqSF 42 4 false) := by kernel_rfl
theorem st_laws_eqDefS (cs) : stF (EE cs) 15 = some (eqSF 42 4 false) := (stF_mk cs [] 15).trans st_laws_eqDefS_
theorem st_laws_eqVal_ : stF (EE []) 43 = some (s_laws_eqVal) := by kernel_rfl
theorem st_laws_eqVal (cs) : stF (EE cs) 43 = some (s_laws_eqVal) := (stF_mk cs [] 43).trans st_laws_eqVal_
theorem st_laws_eqValS_ : stF (EE []) 17 = some (eqSF 43 3 false) := by kernel_rfl
theorem st_laws_eqValS (cs) : stF (EE cs) 17 = some (eqSF 43 3 false) := (stF_mk cs [] 17).trans st_laws_eqValS_
theorem st_laws_eqScan_ : stF (EE []) 16 = some (s_laws_eqScan) := by kernel_rfl
theorem st_laws_eqScan (cs) : stF (EE cs) 16 = some (s_laws_eqScan) := (stF_mk cs [] 16).trans st_laws_eqScan_
theorem st_laws_FnExactInScan_ : stF (EE []) 3 = some (s_laws_FnExactInScan) := by kernel_rfl
theorem st_laws_FnExactInScan (cs) : stF (EE cs) 3 = some (s_laws_FnExactInScan) := (stF_mk cs [] 3).trans st_laws_FnExactInScan_
theorem entered : entB Tryz.prog isC = true := by kernel_rfl
end Go.Proofs.YtienjjjhjeigmaaGreatDoor.Is
/- The types of FnExactInScan's arguments, as trees. -/
namespace Go.Proofs.YtienjjjhjeigmaaGreatDoor.Is
open Go Go.RowKit Go.Ev
set_option linter.unusedSimpArgs false
set_option linter.unusedVariables false
set_option maxHeartbeats 1600000
structure TCol where
  fName : List UInt8
  fType : Int
  fNull : Bool
def TCol.row (v : TCol) : List AV := [.str v.fName, .int .i64 v.fType, .bool v.fNull]
theorem TCol.inj (a b : TCol) (h : a.row = b.row) : a = b := by
  obtain ⟨aName, aType, aNull⟩ := a
  obtain ⟨bName, bType, bNull⟩ := b
  simp only [TCol.row, List.cons.injEq, AV.int.injEq, AV.str.injEq, AV.bool.injEq, AV.imm.injEq, true_and, and_true] at h
  obtain ⟨h0, h1, h2⟩ := h
  subst h0
  subst h1
  subst h2
  rfl
def tCol : TD TCol where
  row := TCol.row
  enc v := .agg v.row
  sz := 3
  one := false
  cost v := v.fName.length
  fits v := v.fName.length ≤ 9223372036854775807
  ok v := intT.ok v.fType
  len _ := rfl
  pos := by decide
  inj := TCol.inj
  enc1 h := by cases h
  encA _ _ := rfl
  frz v c hc := by
    simp only [TCol.row, List.mem_cons, List.not_mem_nil, or_false] at hc
    rcases hc with rfl | rfl | rfl <;> exact ⟨rfl, rfl⟩
  fit v h := by omega
theorem tCol_enc (v : TCol) : tCol.enc v = .agg v.row := rfl
theorem tCol_row : tCol.row = TCol.row := rfl
attribute [go_sem] tCol_enc tCol_row
structure TBy where
  fCol : Int
  fDesc : Bool
def TBy.row (v : TBy) : List AV := [.int .i64 v.fCol, .bool v.fDesc]
theorem TBy.inj (a b : TBy) (h : a.row = b.row) : a = b := by
  obtain ⟨aCol, aDesc⟩ := a
  obtain ⟨bCol, bDesc⟩ := b
  simp only [TBy.row, List.cons.injEq, AV.int.injEq, AV.str.injEq, AV.bool.injEq, AV.imm.injEq, true_and, and_true] at h
  obtain ⟨h0, h1⟩ := h
  subst h0
  subst h1
  rfl
def tBy : TD TBy where
  row := TBy.row
  enc v := .agg v.row
  sz := 2
  one := false
  cost _ := 0
  fits _ := True
  ok v := intT.ok v.fCol
  len _ := rfl
  pos := by decide
  inj := TBy.inj
  enc1 h := by cases h
  encA _ _ := rfl
  frz v c hc := by
    simp only [TBy.row, List.mem_cons, List.not_mem_nil, or_false] at hc
    rcases hc with rfl | rfl <;> exact ⟨rfl, rfl⟩
  fit _ _ := trivial
theorem tBy_enc (v : TBy) : tBy.enc v = .agg v.row := rfl
theorem tBy_row : tBy.row = TBy.row := rfl
attribute [go_sem] tBy_enc tBy_row
structure TIndex where
  fName : List UInt8
  fUnique : Bool
  fParts : List (TBy)
def TIndex.row (v : TIndex) : List AV := [.str v.fName, .bool v.fUnique, .imm (v.fParts.map TBy.row)]
theorem TIndex.inj (a b : TIndex) (h : a.row = b.row) : a = b := by
  obtain ⟨aName, aUnique, aParts⟩ := a
  obtain ⟨bName, bUnique, bParts⟩ := b
  simp only [TIndex.row, List.cons.injEq, AV.int.injEq, AV.str.injEq, AV.bool.injEq, AV.imm.injEq, true_and, and_true] at h
  obtain ⟨h0, h1, h2⟩ := h
  have h2 := TD.map_inj tBy h2
  subst h0
  subst h1
  subst h2
  rfl
def tIndex : TD TIndex where
  row := TIndex.row
  enc v := .agg v.row
  sz := 3
  one := false
  cost v := v.fName.length + (sliceT tBy).cost v.fParts
  fits v := v.fName.length ≤ 9223372036854775807 ∧ (sliceT tBy).fits v.fParts
  ok v := (sliceT tBy).ok v.fParts
  len _ := rfl
  pos := by decide
  inj := TIndex.inj
  enc1 h := by cases h
  encA _ _ := rfl
  frz v c hc := by
    simp only [TIndex.row, List.mem_cons, List.not_mem_nil, or_false] at hc
    rcases hc with rfl | rfl | rfl <;> exact ⟨rfl, rfl⟩
  fit v h := ⟨by omega, (sliceT tBy).fit _ (by omega)⟩
theorem tIndex_enc (v : TIndex) : tIndex.enc v = .agg v.row := rfl
theorem tIndex_row : tIndex.row = TIndex.row := rfl
attribute [go_sem] tIndex_enc tIndex_row
structure TDef where
  fName : List UInt8
  fCols : List (TCol)
  fPrimary : List (TBy)
  fIndexes : List (TIndex)
def TDef.row (v : TDef) : List AV := [.str v.fName, .imm (v.fCols.map TCol.row), .imm (v.fPrimary.map TBy.row), .imm (v.fIndexes.map TIndex.row)]
theorem TDef.inj (a b : TDef) (h : a.row = b.row) : a = b := by
  obtain ⟨aName, aCols, aPrimary, aIndexes⟩ := a
  obtain ⟨bName, bCols, bPrimary, bIndexes⟩ := b
  simp only [TDef.row, List.cons.injEq, AV.int.injEq, AV.str.injEq, AV.bool.injEq, AV.imm.injEq, true_and, and_true] at h
  obtain ⟨h0, h1, h2, h3⟩ := h
  have h1 := TD.map_inj tCol h1
  have h2 := TD.map_inj tBy h2
  have h3 := TD.map_inj tIndex h3
  subst h0
  subst h1
  subst h2
  subst h3
  rfl
def tDef : TD TDef where
  row := TDef.row
  enc v := .agg v.row
  sz := 4
  one := false
  cost v := v.fName.length + (sliceT tCol).cost v.fCols + (sliceT tBy).cost v.fPrimary + (sliceT tIndex).cost v.fIndexes
  fits v := v.fName.length ≤ 9223372036854775807 ∧ (sliceT tCol).fits v.fCols ∧ (sliceT tBy).fits v.fPrimary ∧ (sliceT tIndex).fits v.fIndexes
  ok v := (sliceT tCol).ok v.fCols ∧ (sliceT tBy).ok v.fPrimary ∧ (sliceT tIndex).ok v.fIndexes
  len _ := rfl
  pos := by decide
  inj := TDef.inj
  enc1 h := by cases h
  encA _ _ := rfl
  frz v c hc := by
    simp only [TDef.row, List.mem_cons, List.not_mem_nil, or_false] at hc
    rcases hc with rfl | rfl | rfl | rfl <;> exact ⟨rfl, rfl⟩
  fit v h := ⟨by omega, (sliceT tCol).fit _ (by omega), (sliceT tBy).fit _ (by omega), (sliceT tIndex).fit _ (by omega)⟩
theorem tDef_enc (v : TDef) : tDef.enc v = .agg v.row := rfl
theorem tDef_row : tDef.row = TDef.row := rfl
attribute [go_sem] tDef_enc tDef_row
structure TVal where
  fK : Int
  fN : Int
  fS : List UInt8
def TVal.row (v : TVal) : List AV := [.int .i64 v.fK, .int .i64 v.fN, .str v.fS]
theorem TVal.inj (a b : TVal) (h : a.row = b.row) : a = b := by
  obtain ⟨aK, aN, aS⟩ := a
  obtain ⟨bK, bN, bS⟩ := b
  simp only [TVal.row, List.cons.injEq, AV.int.injEq, AV.str.injEq, AV.bool.injEq, AV.imm.injEq, true_and, and_true] at h
  obtain ⟨h0, h1, h2⟩ := h
  subst h0
  subst h1
  subst h2
  rfl
def tVal : TD TVal where
  row := TVal.row
  enc v := .agg v.row
  sz := 3
  one := false
  cost v := v.fS.length
  fits v := v.fS.length ≤ 9223372036854775807
  ok v := intT.ok v.fK ∧ intT.ok v.fN
  len _ := rfl
  pos := by decide
  inj := TVal.inj
  enc1 h := by cases h
  encA _ _ := rfl
  frz v c hc := by
    simp only [TVal.row, List.mem_cons, List.not_mem_nil, or_false] at hc
    rcases hc with rfl | rfl | rfl <;> exact ⟨rfl, rfl⟩
  fit v h := by omega
theorem tVal_enc (v : TVal) : tVal.enc v = .agg v.row := rfl
theorem tVal_row : tVal.row = TVal.row := rfl
attribute [go_sem] tVal_enc tVal_row
structure TScan where
  fT : Int
  fI : Int
  fLo : List (TVal)
  fHi : List (TVal)
  fLoEx : Bool
  fHiEx : Bool
  fRev : Bool
  fLimit : Int
def TScan.row (v : TScan) : List AV := [.int .i64 v.fT, .int .i64 v.fI, .imm (v.fLo.map TVal.row), .imm (v.fHi.map TVal.row), .bool v.fLoEx, .bool v.fHiEx, .bool v.fRev, .int .i64 v.fLimit]
theorem TScan.inj (a b : TScan) (h : a.row = b.row) : a = b := by
  obtain ⟨aT, aI, aLo, aHi, aLoEx, aHiEx, aRev, aLimit⟩ := a
  obtain ⟨bT, bI, bLo, bHi, bLoEx, bHiEx, bRev, bLimit⟩ := b
  simp only [TScan.row, List.cons.injEq, AV.int.injEq, AV.str.injEq, AV.bool.injEq, AV.imm.injEq, true_and, and_true] at h
  obtain ⟨h0, h1, h2, h3, h4, h5, h6, h7⟩ := h
  have h2 := TD.map_inj tVal h2
  have h3 := TD.map_inj tVal h3
  subst h0
  subst h1
  subst h2
  subst h3
  subst h4
  subst h5
  subst h6
  subst h7
  rfl
def tScan : TD TScan where
  row := TScan.row
  enc v := .agg v.row
  sz := 8
  one := false
  cost v := (sliceT tVal).cost v.fLo + (sliceT tVal).cost v.fHi
  fits v := (sliceT tVal).fits v.fLo ∧ (sliceT tVal).fits v.fHi
  ok v := intT.ok v.fT ∧ intT.ok v.fI ∧ (sliceT tVal).ok v.fLo ∧ (sliceT tVal).ok v.fHi ∧ intT.ok v.fLimit
  len _ := rfl
  pos := by decide
  inj := TScan.inj
  enc1 h := by cases h
  encA _ _ := rfl
  frz v c hc := by
    simp only [TScan.row, List.mem_cons, List.not_mem_nil, or_false] at hc
    rcases hc with rfl | rfl | rfl | rfl | rfl | rfl | rfl | rfl <;> exact ⟨rfl, rfl⟩
  fit v h := ⟨(sliceT tVal).fit _ (by omega), (sliceT tVal).fit _ (by omega)⟩
theorem tScan_enc (v : TScan) : tScan.enc v = .agg v.row := rfl
theorem tScan_row : tScan.row = TScan.row := rfl
attribute [go_sem] tScan_enc tScan_row
structure TPart where
  fCol : Int
  fType : Int
  fNull : Bool
  fDesc : Bool
def TPart.row (v : TPart) : List AV := [.int .i64 v.fCol, .int .i64 v.fType, .bool v.fNull, .bool v.fDesc]
theorem TPart.inj (a b : TPart) (h : a.row = b.row) : a = b := by
  obtain ⟨aCol, aType, aNull, aDesc⟩ := a
  obtain ⟨bCol, bType, bNull, bDesc⟩ := b
  simp only [TPart.row, List.cons.injEq, AV.int.injEq, AV.str.injEq, AV.bool.injEq, AV.imm.injEq, true_and, and_true] at h
  obtain ⟨h0, h1, h2, h3⟩ := h
  subst h0
  subst h1
  subst h2
  subst h3
  rfl
def tPart : TD TPart where
  row := TPart.row
  enc v := .agg v.row
  sz := 4
  one := false
  cost _ := 0
  fits _ := True
  ok v := intT.ok v.fCol ∧ intT.ok v.fType
  len _ := rfl
  pos := by decide
  inj := TPart.inj
  enc1 h := by cases h
  encA _ _ := rfl
  frz v c hc := by
    simp only [TPart.row, List.mem_cons, List.not_mem_nil, or_false] at hc
    rcases hc with rfl | rfl | rfl | rfl <;> exact ⟨rfl, rfl⟩
  fit _ _ := trivial
theorem tPart_enc (v : TPart) : tPart.enc v = .agg v.row := rfl
theorem tPart_row : tPart.row = TPart.row := rfl
attribute [go_sem] tPart_enc tPart_row
end Go.Proofs.YtienjjjhjeigmaaGreatDoor.Is
/- What the functions that FnExactInScan calls answer: part 1. -/
namespace Go.Proofs.YtienjjjhjeigmaaGreatDoor.Is
open Go Go.RowKit Go.Ev
set_option linter.unusedSimpArgs false
set_option linter.unusedVariables false
set_option maxHeartbeats 1600000
theorem ok_laws_szCol {WI : World → Prop} (hs : Stable WI) (cs) (hT : TOK (EE cs) WI)  : PureOK Tryz.prog WI 131 (szC tCol) := by
  refine pure2 (E := EE cs) hT hs (by rw [st_laws_szCol]; rfl) fun v left ⟨hfits, hlo, hhi⟩ => out_K (n := 0) (st_laws_szCol cs) ?_
  have q0 : v.fName.length ≤ 9223372036854775807 := hfits
  have hcost : tCol.cost v = v.fName.length := rfl
  have w0 : IntKind.wrap .i64 (left - (v.fName.length : Int)) = left - (v.fName.length : Int) := wrapId (by omega) (by omega)
  by_cases n0 : left - (v.fName.length : Int) < 0
  · skip
    have hz : szR (tCol.cost v) left = -1 := by unfold szR; rw [if_pos (by omega)]
    rw [hz]
    simp only [go_sem, kSt_ptr, Nat.reduceBEq, Nat.reduceAdd, Nat.reduceEqDiff, Nat.reduceLeDiff, Nat.reduceSub, reduceIte, Int.reduceBEq, Int.reduceEq, Int.reduceLT, Int.reduceLE, Int.reduceGT, Int.reduceGE, Int.reduceNe, Int.reduceBNe, s_laws_szCol, TCol.row, w0, n0]
  have hz : szR (tCol.cost v) left = left - (v.fName.length : Int) := by unfold szR; rw [if_neg (by omega)]; omega
  rw [hz]
  simp only [go_sem, kSt_ptr, Nat.reduceBEq, Nat.reduceAdd, Nat.reduceEqDiff, Nat.reduceLeDiff, Nat.reduceSub, reduceIte, Int.reduceBEq, Int.reduceEq, Int.reduceLT, Int.reduceLE, Int.reduceGT, Int.reduceGE, Int.reduceNe, Int.reduceBNe, s_laws_szCol, TCol.row, w0, n0]
theorem ok_laws_szColS {WI : World → Prop} (hs : Stable WI) (cs) (hT : TOK (EE cs) WI) (h0 : (EE cs).T 131 = some (szC tCol)) : PureOK Tryz.prog WI 61 (szC (sliceT tCol)) := szS_ok (E := EE cs) (T := tCol) hT hs h0 (st_laws_szColS cs)
theorem ok_laws_szByS {WI : World → Prop} (hs : Stable WI) (cs) (hT : TOK (EE cs) WI)  : PureOK Tryz.prog WI 62 (szC (sliceT tBy)) := szLen_ok (E := EE cs) hT hs (fun _ => rfl) (st_laws_szByS cs)
theorem ok_laws_szIndex {WI : World → Prop} (hs : Stable WI) (cs) (hT : TOK (EE cs) WI) (h0 : (EE cs).T 62 = some (szC (sliceT tBy))) : PureOK Tryz.prog WI 132 (szC tIndex) := by
  refine pure2 (E := EE cs) hT hs (by rw [st_laws_szIndex]; rfl) fun v left ⟨hfits, hlo, hhi⟩ => out_K (n := 0) (st_laws_szIndex cs) ?_
  obtain ⟨q0, q1⟩ := hfits
  have hcost : tIndex.cost v = v.fName.length + (sliceT tBy).cost v.fParts := rfl
  have w0 : IntKind.wrap .i64 (left - (v.fName.length : Int)) = left - (v.fName.length : Int) := wrapId (by omega) (by omega)
  by_cases n0 : left - (v.fName.length : Int) < 0
  · skip
    have hz : szR (tIndex.cost v) left = -1 := by unfold szR; rw [if_pos (by omega)]
    rw [hz]
    simp only [go_sem, kSt_ptr, Nat.reduceBEq, Nat.reduceAdd, Nat.reduceEqDiff, Nat.reduceLeDiff, Nat.reduceSub, reduceIte, Int.reduceBEq, Int.reduceEq, Int.reduceLT, Int.reduceLE, Int.reduceGT, Int.reduceGE, Int.reduceNe, Int.reduceBNe, s_laws_szIndex, TIndex.row, h0, w0, n0]
  have c1 : szC (sliceT tBy) [.imm (v.fParts.map TBy.row), .int .i64 (left - (v.fName.length : Int))] = some (.int .i64 (szR ((sliceT tBy).cost v.fParts) (left - (v.fName.length : Int)))) := szC_eq (sliceT tBy) ⟨q1, by omega, by omega⟩
  by_cases n1 : szR ((sliceT tBy).cost v.fParts) (left - (v.fName.length : Int)) < 0
  · skip
    obtain ⟨e1, e1'⟩ := szR_neg n1 (by omega)
    have hz : szR (tIndex.cost v) left = -1 := by unfold szR; rw [if_pos (by omega)]
    rw [hz]
    simp only [go_sem, kSt_ptr, Nat.reduceBEq, Nat.reduceAdd, Nat.reduceEqDiff, Nat.reduceLeDiff, Nat.reduceSub, reduceIte, Int.reduceBEq, Int.reduceEq, Int.reduceLT, Int.reduceLE, Int.reduceGT, Int.reduceGE, Int.reduceNe, Int.reduceBNe, s_laws_szIndex, TIndex.row, h0, w0, n0, c1, e1]
  obtain ⟨e1, n1'⟩ := szR_pos n1
  have hz : szR (tIndex.cost v) left = left - (v.fName.length : Int) - ((sliceT tBy).cost v.fParts : Int) := by unfold szR; rw [if_neg (by omega)]; omega
  rw [hz]
  simp only [go_sem, kSt_ptr, Nat.reduceBEq, Nat.reduceAdd, Nat.reduceEqDiff, Nat.reduceLeDiff, Nat.reduceSub, reduceIte, Int.reduceBEq, Int.reduceEq, Int.reduceLT, Int.reduceLE, Int.reduceGT, Int.reduceGE, Int.reduceNe, Int.reduceBNe, s_laws_szIndex, TIndex.row, h0, w0, n0, c1, e1, n1']
theorem ok_laws_szIndexS {WI : World → Prop} (hs : Stable WI) (cs) (hT : TOK (EE cs) WI) (h0 : (EE cs).T 132 = some (szC tIndex)) : PureOK Tryz.prog WI 63 (szC (sliceT tIndex)) := szS_ok (E := EE cs) (T := tIndex) hT hs h0 (st_laws_szIndexS cs)
theorem ok_laws_szDef {WI : World → Prop} (hs : Stable WI) (cs) (hT : TOK (EE cs) WI) (h0 : (EE cs).T 61 = some (szC (sliceT tCol))) (h1 : (EE cs).T 62 = some (szC (sliceT tBy))) (h2 : (EE cs).T 63 = some (szC (sliceT tIndex))) : PureOK Tryz.prog WI 27 (szC tDef) := by
  refine pure2 (E := EE cs) hT hs (by rw [st_laws_szDef]; rfl) fun v left ⟨hfits, hlo, hhi⟩ => out_K (n := 0) (st_laws_szDef cs) ?_
  obtain ⟨q0, q1, q2, q3⟩ := hfits
  have hcost : tDef.cost v = v.fName.length + (sliceT tCol).cost v.fCols + (sliceT tBy).cost v.fPrimary + (sliceT tIndex).cost v.fIndexes := rfl
  have w0 : IntKind.wrap .i64 (left - (v.fName.length : Int)) = left - (v.fName.length : Int) := wrapId (by omega) (by omega)
  by_cases n0 : left - (v.fName.length : Int) < 0
  · skip
    have hz : szR (tDef.cost v) left = -1 := by unfold szR; rw [if_pos (by omega)]
    rw [hz]
    simp only [go_sem, kSt_ptr, Nat.reduceBEq, Nat.reduceAdd, Nat.reduceEqDiff, Nat.reduceLeDiff, Nat.reduceSub, reduceIte, Int.reduceBEq, Int.reduceEq, Int.reduceLT, Int.reduceLE, Int.reduceGT, Int.reduceGE, Int.reduceNe, Int.reduceBNe, s_laws_szDef, TDef.row, h0, h1, h2, w0, n0]
  have c1 : szC (sliceT tCol) [.imm (v.fCols.map TCol.row), .int .i64 (left - (v.fName.length : Int))] = some (.int .i64 (szR ((sliceT tCol).cost v.fCols) (left - (v.fName.length : Int)))) := szC_eq (sliceT tCol) ⟨q1, by omega, by omega⟩
  by_cases n1 : szR ((sliceT tCol).cost v.fCols) (left - (v.fName.length : Int)) < 0
  · skip
    obtain ⟨e1, e1'⟩ := szR_neg n1 (by omega)
    have hz : szR (tDef.cost v) left = -1 := by unfold szR; rw [if_pos (by omega)]
    rw [hz]
    simp only [go_sem, kSt_ptr, Nat.reduceBEq, Nat.reduceAdd, Nat.reduceEqDiff, Nat.reduceLeDiff, Nat.reduceSub, reduceIte, Int.reduceBEq, Int.reduceEq, Int.reduceLT, Int.reduceLE, Int.reduceGT, Int.reduceGE, Int.reduceNe, Int.reduceBNe, s_laws_szDef, TDef.row, h0, h1, h2, w0, n0, c1, e1]
  obtain ⟨e1, n1'⟩ := szR_pos n1
  have c2 : szC (sliceT tBy) [.imm (v.fPrimary.map TBy.row), .int .i64 (left - (v.fName.length : Int) - ((sliceT tCol).cost v.fCols : Int))] = some (.int .i64 (szR ((sliceT tBy).cost v.fPrimary) (left - (v.fName.length : Int) - ((sliceT tCol).cost v.fCols : Int)))) := szC_eq (sliceT tBy) ⟨q2, by omega, by omega⟩
  by_cases n2 : szR ((sliceT tBy).cost v.fPrimary) (left - (v.fName.length : Int) - ((sliceT tCol).cost v.fCols : Int)) < 0
  · skip
    obtain ⟨e2, e2'⟩ := szR_neg n2 (by omega)
    have hz : szR (tDef.cost v) left = -1 := by unfold szR; rw [if_pos (by omega)]
    rw [hz]
    simp only [go_sem, kSt_ptr, Nat.reduceBEq, Nat.reduceAdd, Nat.reduceEqDiff, Nat.reduceLeDiff, Nat.reduceSub, reduceIte, Int.reduceBEq, Int.reduceEq, Int.reduceLT, Int.reduceLE, Int.reduceGT, Int.reduceGE, Int.reduceNe, Int.reduceBNe, s_laws_szDef, TDef.row, h0, h1, h2, w0, n0, c1, e1, n1', c2, e2]
  obtain ⟨e2, n2'⟩ := szR_pos n2
  have c3 : szC (sliceT tIndex) [.imm (v.fIndexes.map TIndex.row), .int .i64 (left - (v.fName.length : Int) - ((sliceT tCol).cost v.fCols : Int) - ((sliceT tBy).cost v.fPrimary : Int))] = some (.int .i64 (szR ((sliceT tIndex).cost v.fIndexes) (left - (v.fName.length : Int) - ((sliceT tCol).cost v.fCols : Int) - ((sliceT tBy).cost v.fPrimary : Int)))) := szC_eq (sliceT tIndex) ⟨q3, by omega, by omega⟩
  by_cases n3 : szR ((sliceT tIndex).cost v.fIndexes) (left - (v.fName.length : Int) - ((sliceT tCol).cost v.fCols : Int) - ((sliceT tBy).cost v.fPrimary : Int)) < 0
  · skip
    obtain ⟨e3, e3'⟩ := szR_neg n3 (by omega)
    have hz : szR (tDef.cost v) left = -1 := by unfold szR; rw [if_pos (by omega)]
    rw [hz]
    simp only [go_sem, kSt_ptr, Nat.reduceBEq, Nat.reduceAdd, Nat.reduceEqDiff, Nat.reduceLeDiff, Nat.reduceSub, reduceIte, Int.reduceBEq, Int.reduceEq, Int.reduceLT, Int.reduceLE, Int.reduceGT, Int.reduceGE, Int.reduceNe, Int.reduceBNe, s_laws_szDef, TDef.row, h0, h1, h2, w0, n0, c1, e1, n1', c2, e2, n2', c3, e3]
  obtain ⟨e3, n3'⟩ := szR_pos n3
  have hz : szR (tDef.cost v) left = left - (v.fName.length : Int) - ((sliceT tCol).cost v.fCols : Int) - ((sliceT tBy).cost v.fPrimary : Int) - ((sliceT tIndex).cost v.fIndexes : Int) := by unfold szR; rw [if_neg (by omega)]; omega
  rw [hz]
  simp only [go_sem, kSt_ptr, Nat.reduceBEq, Nat.reduceAdd, Nat.reduceEqDiff, Nat.reduceLeDiff, Nat.reduceSub, reduceIte, Int.reduceBEq, Int.reduceEq, Int.reduceLT, Int.reduceLE, Int.reduceGT, Int.reduceGE, Int.reduceNe, Int.reduceBNe, s_laws_szDef, TDef.row, h0, h1, h2, w0, n0, c1, e1, n1', c2, e2, n2', c3, e3, n3']
theorem ok_laws_szDefS {WI : World → Prop} (hs : Stable WI) (cs) (hT : TOK (EE cs) WI) (h0 : (EE cs).T 27 = some (szC tDef)) : PureOK Tryz.prog WI 7 (szC (sliceT tDef)) := szS_ok (E := EE cs) (T := tDef) hT hs h0 (st_laws_szDefS cs)
theorem ok_laws_szVal {WI : World → Prop} (hs : Stable WI) (cs) (hT : TOK (EE cs) WI)  : PureOK Tryz.prog WI 28 (szC tVal) := by
  refine pure2 (E := EE cs) hT hs (by rw [st_laws_szVal]; rfl) fun v left ⟨hfits, hlo, hhi⟩ => out_K (n := 0) (st_laws_szVal cs) ?_
  have q0 : v.fS.length ≤ 9223372036854775807 := hfits
  have hcost : tVal.cost v = v.fS.length := rfl
  have w0 : IntKind.wrap .i64 (left - (v.fS.length : Int)) = left - (v.fS.length : Int) := wrapId (by omega) (by omega)
  by_cases n0 : left - (v.fS.length : Int) < 0
  · skip
    have hz : szR (tVal.cost v) left = -1 := by unfold szR; rw [if_pos (by omega)]
    rw [hz]
    simp only [go_sem, kSt_ptr, Nat.reduceBEq, Nat.reduceAdd, Nat.reduceEqDiff, Nat.reduceLeDiff, Nat.reduceSub, reduceIte, Int.reduceBEq, Int.reduceEq, Int.reduceLT, Int.reduceLE, Int.reduceGT, Int.reduceGE, Int.reduceNe, Int.reduceBNe, s_laws_szVal, TVal.row, w0, n0]
  have hz : szR (tVal.cost v) left = left - (v.fS.length : Int) := by unfold szR; rw [if_neg (by omega)]; omega
  rw [hz]
  simp only [go_sem, kSt_ptr, Nat.reduceBEq, Nat.reduceAdd, Nat.reduceEqDiff, Nat.reduceLeDiff, Nat.reduceSub, reduceIte, Int.reduceBEq, Int.reduceEq, Int.reduceLT, Int.reduceLE, Int.reduceGT, Int.reduceGE, Int.reduceNe, Int.reduceBNe, s_laws_szVal, TVal.row, w0, n0]
theorem ok_laws_szValS {WI : World → Prop} (hs : Stable WI) (cs) (hT : TOK (EE cs) WI) (h0 : (EE cs).T 28 = some (szC tVal)) : PureOK Tryz.prog WI 9 (szC (sliceT tVal)) := szS_ok (E := EE cs) (T := tVal) hT hs h0 (st_laws_szValS cs)
theorem ok_laws_szScan {WI : World → Prop} (hs : Stable WI) (cs) (hT : TOK (EE cs) WI) (h0 : (EE cs).T 9 = some (szC (sliceT tVal))) : PureOK Tryz.prog WI 8 (szC tScan) := by
  refine pure2 (E := EE cs) hT hs (by rw [st_laws_szScan]; rfl) fun v left ⟨hfits, hlo, hhi⟩ => out_K (n := 0) (st_laws_szScan cs) ?_
  obtain ⟨q0, q1⟩ := hfits
  have hcost : tScan.cost v = (sliceT tVal).cost v.fLo + (sliceT tVal).cost v.fHi := rfl
  have c0 : szC (sliceT tVal) [.imm (v.fLo.map TVal.row), .int .i64 (left)] = some (.int .i64 (szR ((sliceT tVal).cost v.fLo) (left))) := szC_eq (sliceT tVal) ⟨q0, by omega, by omega⟩
  by_cases n0 : szR ((sliceT tVal).cost v.fLo) (left) < 0
  · skip
    obtain ⟨e0, e0'⟩ := szR_neg n0 (by omega)
    have hz : szR (tScan.cost v) left = -1 := by unfold szR; rw [if_pos (by omega)]
    rw [hz]
    simp only [go_sem, kSt_ptr, Nat.reduceBEq, Nat.reduceAdd, Nat.reduceEqDiff, Nat.reduceLeDiff, Nat.reduceSub, reduceIte, Int.reduceBEq, Int.reduceEq, Int.reduceLT, Int.reduceLE, Int.reduceGT, Int.reduceGE, Int.reduceNe, Int.reduceBNe, s_laws_szScan, TScan.row, h0, c0, e0]
  obtain ⟨e0, n0'⟩ := szR_pos n0
  have c1 : szC (sliceT tVal) [.imm (v.fHi.map TVal.row), .int .i64 (left - ((sliceT tVal).cost v.fLo : Int))] = some (.int .i64 (szR ((sliceT tVal).cost v.fHi) (left - ((sliceT tVal).cost v.fLo : Int)))) := szC_eq (sliceT tVal) ⟨q1, by omega, by omega⟩
  by_cases n1 : szR ((sliceT tVal).cost v.fHi) (left - ((sliceT tVal).cost v.fLo : Int)) < 0
  · skip
    obtain ⟨e1, e1'⟩ := szR_neg n1 (by omega)
    have hz : szR (tScan.cost v) left = -1 := by unfold szR; rw [if_pos (by omega)]
    rw [hz]
    simp only [go_sem, kSt_ptr, Nat.reduceBEq, Nat.reduceAdd, Nat.reduceEqDiff, Nat.reduceLeDiff, Nat.reduceSub, reduceIte, Int.reduceBEq, Int.reduceEq, Int.reduceLT, Int.reduceLE, Int.reduceGT, Int.reduceGE, Int.reduceNe, Int.reduceBNe, s_laws_szScan, TScan.row, h0, c0, e0, n0', c1, e1]
  obtain ⟨e1, n1'⟩ := szR_pos n1
  have hz : szR (tScan.cost v) left = left - ((sliceT tVal).cost v.fLo : Int) - ((sliceT tVal).cost v.fHi : Int) := by unfold szR; rw [if_neg (by omega)]; omega
  rw [hz]
  simp only [go_sem, kSt_ptr, Nat.reduceBEq, Nat.reduceAdd, Nat.reduceEqDiff, Nat.reduceLeDiff, Nat.reduceSub, reduceIte, Int.reduceBEq, Int.reduceEq, Int.reduceLT, Int.reduceLE, Int.reduceGT, Int.reduceGE, Int.reduceNe, Int.reduceBNe, s_laws_szScan, TScan.row, h0, c0, e0, n0', c1, e1, n1']
theorem ok_laws_toCol {WI : World → Prop} (hs : Stable WI) (cs) (hT : TOK (EE cs) WI)  : PureOK Tryz.prog WI 143 (toC tCol) := by
  refine pure1 (E := EE cs) hT hs (by rw [st_laws_toCol]; rfl) fun v hc => out_K (n := 0) (st_laws_toCol cs) ?_
  have hcost : tCol.cost v = v.fName.length := rfl
  simp only [go_sem, kSt_ptr, Nat.reduceBEq, Nat.reduceAdd, Nat.reduceEqDiff, Nat.reduceLeDiff, Nat.reduceSub, reduceIte, Int.reduceBEq, Int.reduceEq, Int.reduceLT, Int.reduceLE, Int.reduceGT, Int.reduceGE, Int.reduceNe, Int.reduceBNe, s_laws_toCol, TCol.row, id_eq]
theorem ok_laws_toColS {WI : World → Prop} (hs : Stable WI) (cs) (hT : TOK (EE cs) WI) (h0 : (EE cs).T 143 = some (toC tCol)) : PureOK Tryz.prog WI 74 (toC (sliceT tCol)) := toS_ok (E := EE cs) (T := tCol) (bt := 32) (z := [.str [], .int .i64 0, .bool false]) hT hs h0 rfl (by decide) (st_laws_toColS cs)
theorem ok_laws_toBy {WI : World → Prop} (hs : Stable WI) (cs) (hT : TOK (EE cs) WI)  : PureOK Tryz.prog WI 144 (toC tBy) := by
  refine pure1 (E := EE cs) hT hs (by rw [st_laws_toBy]; rfl) fun v hc => out_K (n := 0) (st_laws_toBy cs) ?_
  have hcost : tBy.cost v = 0 := rfl
  simp only [go_sem, kSt_ptr, Nat.reduceBEq, Nat.reduceAdd, Nat.reduceEqDiff, Nat.reduceLeDiff, Nat.reduceSub, reduceIte, Int.reduceBEq, Int.reduceEq, Int.reduceLT, Int.reduceLE, Int.reduceGT, Int.reduceGE, Int.reduceNe, Int.reduceBNe, s_laws_toBy, TBy.row, id_eq]
theorem ok_laws_toByS {WI : World → Prop} (hs : Stable WI) (cs) (hT : TOK (EE cs) WI) (h0 : (EE cs).T 144 = some (toC tBy)) : PureOK Tryz.prog WI 75 (toC (sliceT tBy)) := toS_ok (E := EE cs) (T := tBy) (bt := 16) (z := [.int .i64 0, .bool false]) hT hs h0 rfl (by decide) (st_laws_toByS cs)
theorem ok_laws_toIndex {WI : World → Prop} (hs : Stable WI) (cs) (hT : TOK (EE cs) WI) (h0 : (EE cs).T 75 = some (toC (sliceT tBy))) : PureOK Tryz.prog WI 145 (toC tIndex) := by
  refine pure1 (E := EE cs) hT hs (by rw [st_laws_toIndex]; rfl) fun v hc => out_K (n := 0) (st_laws_toIndex cs) ?_
  have hcost : tIndex.cost v = v.fName.length + (sliceT tBy).cost v.fParts := rfl
  have c2 : toC (sliceT tBy) [.imm (v.fParts.map TBy.row)] = some (.imm (v.fParts.map TBy.row)) := toC_eq (sliceT tBy) (by omega)
  simp only [go_sem, kSt_ptr, Nat.reduceBEq, Nat.reduceAdd, Nat.reduceEqDiff, Nat.reduceLeDiff, Nat.reduceSub, reduceIte, Int.reduceBEq, Int.reduceEq, Int.reduceLT, Int.reduceLE, Int.reduceGT, Int.reduceGE, Int.reduceNe, Int.reduceBNe, s_laws_toIndex, TIndex.row, h0, c2, id_eq]
theorem ok_laws_toIndexS {WI : World → Prop} (hs : Stable WI) (cs) (hT : TOK (EE cs) WI) (h0 : (EE cs).T 145 = some (toC tIndex)) : PureOK Tryz.prog WI 76 (toC (sliceT tIndex)) := toS_ok (E := EE cs) (T := tIndex) (bt := 48) (z := [.str [], .bool false, .snil]) hT hs h0 rfl (by decide) (st_laws_toIndexS cs)
theorem ok_laws_toDef {WI : World → Prop} (hs : Stable WI) (cs) (hT : TOK (EE cs) WI) (h0 : (EE cs).T 74 = some (toC (sliceT tCol))) (h1 : (EE cs).T 75 = some (toC (sliceT tBy))) (h2 : (EE cs).T 76 = some (toC (sliceT tIndex))) : PureOK Tryz.prog WI 33 (toC tDef) := by
  refine pure1 (E := EE cs) hT hs (by rw [st_laws_toDef]; rfl) fun v hc => out_K (n := 0) (st_laws_toDef cs) ?_
  have hcost : tDef.cost v = v.fName.length + (sliceT tCol).cost v.fCols + (sliceT tBy).cost v.fPrimary + (sliceT tIndex).cost v.fIndexes := rfl
  have c1 : toC (sliceT tCol) [.imm (v.fCols.map TCol.row)] = some (.imm (v.fCols.map TCol.row)) := toC_eq (sliceT tCol) (by omega)
  have c2 : toC (sliceT tBy) [.imm (v.fPrimary.map TBy.row)] = some (.imm (v.fPrimary.map TBy.row)) := toC_eq (sliceT tBy) (by omega)
  have c3 : toC (sliceT tIndex) [.imm (v.fIndexes.map TIndex.row)] = some (.imm (v.fIndexes.map TIndex.row)) := toC_eq (sliceT tIndex) (by omega)
  simp only [go_sem, kSt_ptr, Nat.reduceBEq, Nat.reduceAdd, Nat.reduceEqDiff, Nat.reduceLeDiff, Nat.reduceSub, reduceIte, Int.reduceBEq, Int.reduceEq, Int.reduceLT, Int.reduceLE, Int.reduceGT, Int.reduceGE, Int.reduceNe, Int.reduceBNe, s_laws_toDef, TDef.row, h0, h1, h2, c1, c2, c3, id_eq]
theorem ok_laws_toDefS {WI : World → Prop} (hs : Stable WI) (cs) (hT : TOK (EE cs) WI) (h0 : (EE cs).T 33 = some (toC tDef)) : PureOK Tryz.prog WI 11 (toC (sliceT tDef)) := toS_ok (E := EE cs) (T := tDef) (bt := 88) (z := [.str [], .snil, .snil, .snil]) hT hs h0 rfl (by decide) (st_laws_toDefS cs)
theorem ok_laws_toVal {WI : World → Prop} (hs : Stable WI) (cs) (hT : TOK (EE cs) WI)  : PureOK Tryz.prog WI 34 (toC tVal) := by
  refine pure1 (E := EE cs) hT hs (by rw [st_laws_toVal]; rfl) fun v hc => out_K (n := 0) (st_laws_toVal cs) ?_
  have hcost : tVal.cost v = v.fS.length := rfl
  simp only [go_sem, kSt_ptr, Nat.reduceBEq, Nat.reduceAdd, Nat.reduceEqDiff, Nat.reduceLeDiff, Nat.reduceSub, reduceIte, Int.reduceBEq, Int.reduceEq, Int.reduceLT, Int.reduceLE, Int.reduceGT, Int.reduceGE, Int.reduceNe, Int.reduceBNe, s_laws_toVal, TVal.row, id_eq]
theorem ok_laws_toValS {WI : World → Prop} (hs : Stable WI) (cs) (hT : TOK (EE cs) WI) (h0 : (EE cs).T 34 = some (toC tVal)) : PureOK Tryz.prog WI 13 (toC (sliceT tVal)) := toS_ok (E := EE cs) (T := tVal) (bt := 32) (z := [.int .i64 0, .int .i64 0, .str []]) hT hs h0 rfl (by decide) (st_laws_toValS cs)
theorem ok_laws_toScan {WI : World → Prop} (hs : Stable WI) (cs) (hT : TOK (EE cs) WI) (h0 : (EE cs).T 13 = some (toC (sliceT tVal))) : PureOK Tryz.prog WI 12 (toC tScan) := by
  refine pure1 (E := EE cs) hT hs (by rw [st_laws_toScan]; rfl) fun v hc => out_K (n := 0) (st_laws_toScan cs) ?_
  have hcost : tScan.cost v = (sliceT tVal).cost v.fLo + (sliceT tVal).cost v.fHi := rfl
  have c2 : toC (sliceT tVal) [.imm (v.fLo.map TVal.row)] = some (.imm (v.fLo.map TVal.row)) := toC_eq (sliceT tVal) (by omega)
  have c3 : toC (sliceT tVal) [.imm (v.fHi.map TVal.row)] = some (.imm (v.fHi.map TVal.row)) := toC_eq (sliceT tVal) (by omega)
  simp only [go_sem, kSt_ptr, Nat.reduceBEq, Nat.reduceAdd, Nat.reduceEqDiff, Nat.reduceLeDiff, Nat.reduceSub, reduceIte, Int.reduceBEq, Int.reduceEq, Int.reduceLT, Int.reduceLE, Int.reduceGT, Int.reduceGE, Int.reduceNe, Int.reduceBNe, s_laws_toScan, TScan.row, h0, c2, c3, id_eq]
end Go.Proofs.YtienjjjhjeigmaaGreatDoor.Is
/- What the functions that FnExactInScan calls answer: part 2. -/
namespace Go.Proofs.YtienjjjhjeigmaaGreatDoor.Is
open Go Go.RowKit Go.Ev
set_option linter.unusedSimpArgs false
set_option linter.unusedVariables false
set_option maxHeartbeats 1600000
def inR (x a b : Int) : Bool := decide (a ≤ x) && decide (x ≤ b)
theorem ev_spec_l1In (cs) (x a b : Int) : ∃ k n, out (EE cs) k n 65 [.int .i64 x, .int .i64 a, .int .i64 b] = some (.bool (inR x a b)) := by
  refine out_K (n := 0) (st_spec_l1In cs) ?_
  by_cases h1 : a ≤ x
  · simp only [go_sem, kSt_ptr, Nat.reduceBEq, Nat.reduceAdd, Nat.reduceEqDiff, Nat.reduceLeDiff, Nat.reduceSub, reduceIte, Int.reduceBEq, Int.reduceEq, Int.reduceLT, Int.reduceLE, Int.reduceGT, Int.reduceGE, Int.reduceNe, Int.reduceBNe, s_spec_l1In, h1, inR]
  · simp only [go_sem, kSt_ptr, Nat.reduceBEq, Nat.reduceAdd, Nat.reduceEqDiff, Nat.reduceLeDiff, Nat.reduceSub, reduceIte, Int.reduceBEq, Int.reduceEq, Int.reduceLT, Int.reduceLE, Int.reduceGT, Int.reduceGE, Int.reduceNe, Int.reduceBNe, s_spec_l1In, h1, inR]
noncomputable def C_spec_l1In := ct (fun a : Int × Int × Int => [.int .i64 a.1, .int .i64 a.2.1, .int .i64 a.2.2]) (fun _ => True) .bool fun a => inR a.1 a.2.1 a.2.2
theorem C_spec_l1In_eq (x a b : Int) : C_spec_l1In [.int .i64 x, .int .i64 a, .int .i64 b] = some (.bool (inR x a b)) := by
  unfold C_spec_l1In
  exact ct_eq (a := (x, a, b)) (fun a b h => by
    simp only [List.cons.injEq, AV.int.injEq, and_true, true_and] at h
    exact Prod.ext h.1 (Prod.ext h.2.1 h.2.2)) trivial
theorem ok_spec_l1In {WI} (hs : Stable WI) (cs) (hT : TOK (EE cs) WI) : PureOK Tryz.prog WI 65 C_spec_l1In :=
  pure_out hT hs (by rw [st_spec_l1In]; rfl) fun a _ => ev_spec_l1In cs a.1 a.2.1 a.2.2
theorem u8i (b : UInt8) : IntKind.wrap .i64 (b.toNat : Int) = b.toNat := by
  have := b.toNat_lt
  exact wrapId (by omega) (by omega)
def smallB (b : UInt8) : Bool := inR b.toNat 97 122
def digitB (b : UInt8) : Bool := inR b.toNat 48 57
def nameB (pre : List UInt8) (b : UInt8) : Bool := smallB b || (!((pre.length : Int) == 0) && digitB b)
def isName (s : List UInt8) : Bool := allP nameB [] s && inR s.length 1 8
def words : List (List UInt8) := [[116, 97, 98, 108, 101], [112, 114, 105, 109, 97, 114, 121], [117, 110, 105, 113, 117, 101], [105, 110, 100, 101, 120], [110, 117, 108, 108], [100, 101, 115, 99], [105, 110, 116], [110, 117, 109], [116, 101, 120, 116], [98, 111, 111, 108]]
def hasS (l : List (List UInt8)) (s : List UInt8) : Bool := !(l.all fun w => !(w == s))
def freeW (s : List UInt8) : Bool := isName s && !(hasS words s)
def defNames (v : TDef) : Bool := (v.fCols.all fun c => freeW c.fName) && ((v.fIndexes.all fun x => freeW x.fName) && freeW v.fName)
def defTypes (v : TDef) : Bool := (v.fCols.all fun c => inR c.fType 1 4) && inR v.fCols.length 1 6
def colF (name : List UInt8) (pre : List TCol) (c : TCol) : Option Int := if c.fName = name then some (pre.length : Int) else none
def colAt (l : List TCol) (name : List UInt8) : Int := (earlyL (colF name) [] l).getD (-1)
def onceC (pre : List TCol) (c : TCol) : Bool := pre.all fun x => !(x.fName == c.fName)
def onceX (pre : List TIndex) (c : TIndex) : Bool := pre.all fun x => !(x.fName == c.fName)
def defOnce (v : TDef) : Bool := allP onceC [] v.fCols && allP onceX [] v.fIndexes
def partP (n : Int) (pre : List TBy) (p : TBy) : Bool := inR p.fCol 0 n && (pre.all fun q => !(q.fCol == p.fCol))
def partsOK (v : TDef) (l : List TBy) : Bool := allP (partP ((v.fCols.length : Int) - 1)) [] l && inR l.length 1 2
def defParts (v : TDef) : Bool := (v.fIndexes.all fun x => partsOK v x.fParts) && partsOK v v.fPrimary
def colNull (v : TDef) (i : Int) : Bool := match v.fCols[i.toNat]? with
  | some c => c.fNull
  | none => false
def primNull (v : TDef) : Bool := v.fPrimary.all fun p => !(colNull v p.fCol)
def checkDef (v : TDef) : Int :=
  if defNames v = false then 1 else if defTypes v = false then 2 else if defOnce v = false then 3 else if (2 : Int) < v.fIndexes.length then 6 else if defParts v = false then 5 else if primNull v = false then 4 else 0

theorem early_col (name : List UInt8) : ∀ (l pre : List TCol), (∀ x ∈ pre, x.fName ≠ name) → ∀ k, earlyL (colF name) pre l = some k → ∃ p c r, pre ++ l = p ++ c :: r ∧ k = p.length ∧ c.fName = name ∧ ∀ x ∈ p, x.fName ≠ name
  | [], pre, hp, k, h => by cases h
  | c :: r, pre, hp, k, h => by
    simp only [earlyL, colF] at h
    by_cases hc : c.fName = name
    · rw [if_pos hc] at h
      simp only [Option.some.injEq] at h
      exact ⟨pre, c, r, rfl, h.symm, hc, hp⟩
    · rw [if_neg hc] at h
      obtain ⟨p, c', r', h1, h2⟩ := early_col name r (pre ++ [c]) (fun x hx => by
        rcases List.mem_append.1 hx with hx | hx
        · exact hp x hx
        · simp only [List.mem_singleton] at hx; subst hx; exact hc) k h
      exact ⟨p, c', r', by rw [← h1]; simp, h2⟩
theorem early_skip (name : List UInt8) : ∀ (p pre l : List TCol), (∀ x ∈ p, x.fName ≠ name) → earlyL (colF name) pre (p ++ l) = earlyL (colF name) (pre ++ p) l
  | [], pre, l, _ => by simp
  | c :: p, pre, l, h => by
    have hc := h c List.mem_cons_self
    simp only [List.cons_append, earlyL, colF, if_neg hc]
    rw [early_skip name p (pre ++ [c]) l fun x hx => h x (List.mem_cons_of_mem _ hx)]
    simp
theorem colAt_once {l pre rest : List TCol} {c : TCol} (hl : l = pre ++ c :: rest) : (colAt l c.fName == (pre.length : Int)) = onceC pre c := by
  by_cases h : ∀ x ∈ pre, x.fName ≠ c.fName
  · have h1 : colAt l c.fName = pre.length := by
      unfold colAt
      rw [hl, early_skip _ pre [] _ h]
      simp [earlyL, colF]
    have h2 : onceC pre c = true := by
      unfold onceC
      rw [List.all_eq_true]
      intro x hx
      simp [h x hx]
    rw [h1, h2, beq_self_eq_true]
  · have h2 : onceC pre c = false := by
      cases h3 : onceC pre c with
      | false => rfl
      | true =>
        unfold onceC at h3
        rw [List.all_eq_true] at h3
        exact absurd (fun x hx => by simpa using h3 x hx) h
    rw [h2]
    have h4 : colAt l c.fName ≠ pre.length := by
      intro e
      unfold colAt at e
      cases he : earlyL (colF c.fName) [] l with
      | none => rw [he] at e; simp only [Option.getD_none] at e; omega
      | some k =>
        rw [he] at e
        simp only [Option.getD_some] at e
        obtain ⟨p, c', r, h5, h6, h7, h8⟩ := early_col c.fName l [] (fun x hx => by cases hx) k he
        have hlen : p.length = pre.length := by omega
        rw [List.nil_append, hl] at h5
        have := List.append_inj_left h5.symm hlen
        subst this
        exact h h8
    simpa using h4
theorem allP_congr {α : Type} {p q : List α → α → Bool} : ∀ (l pre : List α), (∀ pre' v rest, pre ++ l = pre' ++ v :: rest → p pre' v = q pre' v) → allP p pre l = allP q pre l
  | [], _, _ => rfl
  | v :: l, pre, h => by
    simp only [allP]
    rw [h pre v l rfl, allP_congr l (pre ++ [v]) fun pre' w rest he => h pre' w rest (by rw [← he]; simp)]
theorem defLens {v : TDef} (h : tDef.cost v ≤ 1048576) : v.fName.length ≤ 1048576 ∧ v.fCols.length ≤ 1048576 ∧ v.fPrimary.length ≤ 1048576 ∧ v.fIndexes.length ≤ 1048576 ∧ (∀ c ∈ v.fCols, c.fName.length ≤ 1048576) ∧ ∀ x ∈ v.fIndexes, x.fName.length ≤ 1048576 ∧ x.fParts.length ≤ 1048576 := by
  have h0 : v.fName.length + (v.fCols.length + costL tCol v.fCols) + (v.fPrimary.length + costL tBy v.fPrimary) + (v.fIndexes.length + costL tIndex v.fIndexes) ≤ 1048576 := h
  refine ⟨by omega, by omega, by omega, by omega, fun c hc => ?_, fun x hx => ?_⟩
  · have h1 := costL_mem tCol hc
    have h2 : tCol.cost c = c.fName.length := rfl
    omega
  · have h1 := costL_mem tIndex hx
    have h2 : tIndex.cost x = x.fName.length + (x.fParts.length + costL tBy x.fParts) := rfl
    constructor <;> omega
theorem defCols_len {v : TDef} (h : tDef.cost v ≤ 1048576) : IntKind.wrap .i64 ((v.fCols.length : Int) - 1) = (v.fCols.length : Int) - 1 := by
  have := (defLens h).2.1
  exact wrapId (by omega) (by omega)
theorem partsOK_spec (v : TDef) (l : List TBy) : (allP (fun pre p => inR p.fCol 0 ((v.fCols.length : Int) - 1) && !(decide (0 < (pre.length : Int)) && ((l.head?.map (·.fCol)) == some p.fCol))) [] l && inR l.length 1 2) = partsOK v l := by
  unfold partsOK
  by_cases h2 : l.length ≤ 2
  · congr 1
    refine allP_congr l [] fun pre p rest he => ?_
    rw [List.nil_append] at he
    unfold partP
    congr 1
    have hpl : pre.length ≤ 1 := by rw [he] at h2; simp at h2; omega
    match pre, hpl, he with
    | [], _, _ => simp
    | [q], _, he =>
      subst he
      simp
    | _ :: _ :: _, h, _ => simp at h
  · have : inR l.length 1 2 = false := by
      unfold inR
      simp
      omega
    rw [this, Bool.and_false, Bool.and_false]
theorem parts_col {v : TDef} {l : List TBy} (h : partsOK v l = true) : ∀ p ∈ l, 0 ≤ p.fCol ∧ p.fCol.toNat < v.fCols.length := by
  unfold partsOK at h
  simp only [Bool.and_eq_true] at h
  have go : ∀ (l pre : List TBy), allP (partP ((v.fCols.length : Int) - 1)) pre l = true → ∀ p ∈ l, 0 ≤ p.fCol ∧ p.fCol.toNat < v.fCols.length := by
    intro l
    induction l with
    | nil => intro pre _ p hp; cases hp
    | cons x l ih =>
      intro pre hx p hp
      simp only [allP, Bool.and_eq_true] at hx
      rcases List.mem_cons.1 hp with rfl | hp
      · have := hx.1
        unfold partP at this
        simp only [Bool.and_eq_true] at this
        have h1 := this.1
        unfold inR at h1
        simp at h1
        omega
      · exact ih _ hx.2 p hp
  exact go l [] h.1
theorem def_good {v : TDef} (h : checkDef v = 0) : defNames v = true ∧ defTypes v = true ∧ defOnce v = true ∧ v.fIndexes.length ≤ 2 ∧ defParts v = true ∧ primNull v = true := by
  unfold checkDef at h
  cases h1 : defNames v <;> simp [h1] at h
  cases h2 : defTypes v <;> simp [h2] at h
  cases h3 : defOnce v <;> simp [h3] at h
  by_cases h4 : (2 : Int) < v.fIndexes.length
  · simp [h4] at h
  cases h5 : defParts v <;> simp [h4, h5] at h
  cases h6 : primNull v <;> simp [h6] at h
  exact ⟨rfl, rfl, rfl, by omega, rfl, rfl⟩
noncomputable def C_spec_l8Small := c1 u8T (fun (b : UInt8) => True) (.bool) fun (b : UInt8) => smallB b
theorem C_spec_l8Small_eq (b : UInt8) (h : True) : C_spec_l8Small [.int .u8 (b).toNat] = some (.bool ((smallB b))) := c1_eq u8T h
theorem ok_spec_l8Small {WI : World → Prop} (hs : Stable WI) (cs) (hT : TOK (EE cs) WI) (h : (EE cs).T 65 = some C_spec_l1In) : PureOK Tryz.prog WI 294 C_spec_l8Small := by
  refine pure1 (E := EE cs) hT hs (by rw [st_spec_l8Small]; rfl) fun b hp => out_wp (n := 0) (st_spec_l8Small cs) ?_
  simp only [go_sem, kSt_ptr, Nat.reduceBEq, Nat.reduceAdd, Nat.reduceEqDiff, Nat.reduceLeDiff, Nat.reduceSub, reduceIte, Int.reduceBEq, Int.reduceEq, Int.reduceLT, Int.reduceLE, Int.reduceGT, Int.reduceGE, Int.reduceNe, Int.reduceBNe, s_spec_l8Small, u8i, h, C_spec_l1In_eq, smallB]
noncomputable def C_spec_l2Digit := c1 u8T (fun (b : UInt8) => True) (.bool) fun (b : UInt8) => digitB b
theorem C_spec_l2Digit_eq (b : UInt8) (h : True) : C_spec_l2Digit [.int .u8 (b).toNat] = some (.bool ((digitB b))) := c1_eq u8T h
theorem ok_spec_l2Digit {WI : World → Prop} (hs : Stable WI) (cs) (hT : TOK (EE cs) WI) (h : (EE cs).T 65 = some C_spec_l1In) : PureOK Tryz.prog WI 295 C_spec_l2Digit := by
  refine pure1 (E := EE cs) hT hs (by rw [st_spec_l2Digit]; rfl) fun b hp => out_wp (n := 0) (st_spec_l2Digit cs) ?_
  simp only [go_sem, kSt_ptr, Nat.reduceBEq, Nat.reduceAdd, Nat.reduceEqDiff, Nat.reduceLeDiff, Nat.reduceSub, reduceIte, Int.reduceBEq, Int.reduceEq, Int.reduceLT, Int.reduceLE, Int.reduceGT, Int.reduceGE, Int.reduceNe, Int.reduceBNe, s_spec_l2Digit, u8i, h, C_spec_l1In_eq, digitB]
noncomputable def C_spec_l8Name := c1 strT (fun (s : List UInt8) => s.length ≤ 1048576) (.bool) fun (s : List UInt8) => isName s
theorem C_spec_l8Name_eq (s : List UInt8) (h : s.length ≤ 1048576) : C_spec_l8Name [.str s] = some (.bool ((isName s))) := c1_eq strT h
theorem ok_spec_l8Name {WI : World → Prop} (hs : Stable WI) (cs) (hT : TOK (EE cs) WI) (h1 : (EE cs).T 294 = some C_spec_l8Small) (h2 : (EE cs).T 295 = some C_spec_l2Digit) (h3 : (EE cs).T 65 = some C_spec_l1In) : PureOK Tryz.prog WI 250 C_spec_l8Name := by
  refine pure1 (E := EE cs) hT hs (by rw [st_spec_l8Name]; rfl) fun s hp => out_wp (n := 0) (st_spec_l8Name cs) ?_
  simp only [go_sem, kSt_ptr, Nat.reduceBEq, Nat.reduceAdd, Nat.reduceEqDiff, Nat.reduceLeDiff, Nat.reduceSub, reduceIte, Int.reduceBEq, Int.reduceEq, Int.reduceLT, Int.reduceLE, Int.reduceGT, Int.reduceGE, Int.reduceNe, Int.reduceBNe, s_spec_l8Name]
  refine (wl_all (l := s) (fun pre b => nameB pre b) (fun pre e h => e 0 = .str s ∧ e 3 = .int .i64 pre.length) (.exit 0) (fun e h => e 0 = .str s) (fun e h => e 2 = .bool false) (by omega) ?_ ?_ ?_ (by simp) s [] _ _ rfl ?_).mono ?_
  · rintro pre b rest e h a hp ⟨q0, ix⟩
    cases c1 : smallB b <;> cases c2 : ((pre.length : Int) == 0) <;> cases c3 : digitB b <;> simp [nameB, c1, c2, c3] at hp
    all_goals simp only [go_sem, kSt_ptr, Nat.reduceBEq, Nat.reduceAdd, Nat.reduceEqDiff, Nat.reduceLeDiff, Nat.reduceSub, reduceIte, Int.reduceBEq, Int.reduceEq, Int.reduceLT, Int.reduceLE, Int.reduceGT, Int.reduceGE, Int.reduceNe, Int.reduceBNe, s_spec_l8Name_L0, q0, ix, a.dl, kIx_at a.hl, hp, a.hw, h1, h2, C_spec_l8Small_eq b trivial, C_spec_l2Digit_eq b trivial, c1, c2, c3]
  · rintro pre b rest e h a hp ⟨q0, ix⟩
    cases c1 : smallB b <;> cases c2 : ((pre.length : Int) == 0) <;> cases c3 : digitB b <;> simp [nameB, c1, c2, c3] at hp
    all_goals simp only [go_sem, kSt_ptr, Nat.reduceBEq, Nat.reduceAdd, Nat.reduceEqDiff, Nat.reduceLeDiff, Nat.reduceSub, reduceIte, Int.reduceBEq, Int.reduceEq, Int.reduceLT, Int.reduceLE, Int.reduceGT, Int.reduceGE, Int.reduceNe, Int.reduceBNe, s_spec_l8Name_L0, q0, ix, a.dl, kIx_at a.hl, hp, a.hw, h1, h2, C_spec_l8Small_eq b trivial, C_spec_l2Digit_eq b trivial, c1, c2, c3]
  · rintro e h ⟨q0, ix⟩
    simp only [go_sem, kSt_ptr, Nat.reduceBEq, Nat.reduceAdd, Nat.reduceEqDiff, Nat.reduceLeDiff, Nat.reduceSub, reduceIte, Int.reduceBEq, Int.reduceEq, Int.reduceLT, Int.reduceLE, Int.reduceGT, Int.reduceGE, Int.reduceNe, Int.reduceBNe, s_spec_l8Name_L0, q0, ix]
  · simp only [go_sem, kSt_ptr, Nat.reduceBEq, Nat.reduceAdd, Nat.reduceEqDiff, Nat.reduceLeDiff, Nat.reduceSub, reduceIte, Int.reduceBEq, Int.reduceEq, Int.reduceLT, Int.reduceLE, Int.reduceGT, Int.reduceGE, Int.reduceNe, Int.reduceBNe, and_self]
  · rintro x e h (⟨hp, rfl, j0⟩ | ⟨hp, rfl, j⟩)
    · simp only [go_sem, kSt_ptr, Nat.reduceBEq, Nat.reduceAdd, Nat.reduceEqDiff, Nat.reduceLeDiff, Nat.reduceSub, reduceIte, Int.reduceBEq, Int.reduceEq, Int.reduceLT, Int.reduceLE, Int.reduceGT, Int.reduceGE, Int.reduceNe, Int.reduceBNe, j0, h3, C_spec_l1In_eq, isName, hp]
    · simp only [go_sem, kSt_ptr, Nat.reduceBEq, Nat.reduceAdd, Nat.reduceEqDiff, Nat.reduceLeDiff, Nat.reduceSub, reduceIte, Int.reduceBEq, Int.reduceEq, Int.reduceLT, Int.reduceLE, Int.reduceGT, Int.reduceGE, Int.reduceNe, Int.reduceBNe, s_spec_l8Name, j, isName, hp]
noncomputable def C_spec_l9Has := c2 (sliceT strT) strT (fun (l : List (List UInt8)) (s : List UInt8) => l.length ≤ 1048576) (.bool) fun (l : List (List UInt8)) (s : List UInt8) => hasS l s
theorem C_spec_l9Has_eq (l : List (List UInt8)) (s : List UInt8) (h : l.length ≤ 1048576) : C_spec_l9Has [.imm (l.map strT.row), .str s] = some (.bool ((hasS l s))) := c2_eq (sliceT strT) strT h
theorem ok_spec_l9Has {WI : World → Prop} (hs : Stable WI) (cs) (hT : TOK (EE cs) WI) : PureOK Tryz.prog WI 251 C_spec_l9Has := by
  refine pure2 (E := EE cs) hT hs (by rw [st_spec_l9Has]; rfl) fun l s hp => out_wp (n := 0) (st_spec_l9Has cs) ?_
  simp only [go_sem, kSt_ptr, Nat.reduceBEq, Nat.reduceAdd, Nat.reduceEqDiff, Nat.reduceLeDiff, Nat.reduceSub, reduceIte, Int.reduceBEq, Int.reduceEq, Int.reduceLT, Int.reduceLE, Int.reduceGT, Int.reduceGE, Int.reduceNe, Int.reduceBNe, s_spec_l9Has]
  refine (wl_all (l := l) (fun pre w => !(w == s)) (fun pre e h => e 0 = .imm (l.map strT.row) ∧ e 1 = .str s ∧ e 5 = .int .i64 pre.length) (.exit 0) (fun e h => e 0 = .imm (l.map strT.row) ∧ e 1 = .str s) (fun e h => e 4 = .bool true) (by omega) ?_ ?_ ?_ (by simp) l [] _ _ rfl ?_).mono ?_
  · rintro pre w rest e h a hp ⟨q0, q1, ix⟩
    have hq : (w == s) = false := by simpa using hp
    all_goals simp only [go_sem, kSt_ptr, Nat.reduceBEq, Nat.reduceAdd, Nat.reduceEqDiff, Nat.reduceLeDiff, Nat.reduceSub, reduceIte, Int.reduceBEq, Int.reduceEq, Int.reduceLT, Int.reduceLE, Int.reduceGT, Int.reduceGE, Int.reduceNe, Int.reduceBNe, s_spec_l9Has_L0, q0, q1, ix, a.dl, a.ia (row := strT.row) (sz := 1) rfl, hp, a.hw, hq]
  · rintro pre w rest e h a hp ⟨q0, q1, ix⟩
    have hq : (w == s) = true := by simpa using hp
    all_goals simp only [go_sem, kSt_ptr, Nat.reduceBEq, Nat.reduceAdd, Nat.reduceEqDiff, Nat.reduceLeDiff, Nat.reduceSub, reduceIte, Int.reduceBEq, Int.reduceEq, Int.reduceLT, Int.reduceLE, Int.reduceGT, Int.reduceGE, Int.reduceNe, Int.reduceBNe, s_spec_l9Has_L0, q0, q1, ix, a.dl, a.ia (row := strT.row) (sz := 1) rfl, hp, a.hw, hq]
  · rintro e h ⟨q0, q1, ix⟩
    simp only [go_sem, kSt_ptr, Nat.reduceBEq, Nat.reduceAdd, Nat.reduceEqDiff, Nat.reduceLeDiff, Nat.reduceSub, reduceIte, Int.reduceBEq, Int.reduceEq, Int.reduceLT, Int.reduceLE, Int.reduceGT, Int.reduceGE, Int.reduceNe, Int.reduceBNe, s_spec_l9Has_L0, q0, q1, ix]
  · simp only [go_sem, kSt_ptr, Nat.reduceBEq, Nat.reduceAdd, Nat.reduceEqDiff, Nat.reduceLeDiff, Nat.reduceSub, reduceIte, Int.reduceBEq, Int.reduceEq, Int.reduceLT, Int.reduceLE, Int.reduceGT, Int.reduceGE, Int.reduceNe, Int.reduceBNe, and_self]
  · rintro x e h (⟨hp, rfl, j0⟩ | ⟨hp, rfl, j⟩)
    · rw [allP_all] at hp
      simp only [go_sem, kSt_ptr, Nat.reduceBEq, Nat.reduceAdd, Nat.reduceEqDiff, Nat.reduceLeDiff, Nat.reduceSub, reduceIte, Int.reduceBEq, Int.reduceEq, Int.reduceLT, Int.reduceLE, Int.reduceGT, Int.reduceGE, Int.reduceNe, Int.reduceBNe, hasS, hp]
    · rw [allP_all] at hp
      simp only [go_sem, kSt_ptr, Nat.reduceBEq, Nat.reduceAdd, Nat.reduceEqDiff, Nat.reduceLeDiff, Nat.reduceSub, reduceIte, Int.reduceBEq, Int.reduceEq, Int.reduceLT, Int.reduceLE, Int.reduceGT, Int.reduceGE, Int.reduceNe, Int.reduceBNe, s_spec_l9Has, j, hasS, hp]
noncomputable def C_spec_l9Word := c1 strT (fun (s : List UInt8) => s.length ≤ 1048576) (.bool) fun (s : List UInt8) => freeW s
theorem C_spec_l9Word_eq (s : List UInt8) (h : s.length ≤ 1048576) : C_spec_l9Word [.str s] = some (.bool ((freeW s))) := c1_eq strT h
theorem ok_spec_l9Word {WI : World → Prop} (hs : Stable WI) (cs) (hT : TOK (EE cs) WI) (h1 : (EE cs).T 250 = some C_spec_l8Name) (h2 : (EE cs).T 251 = some C_spec_l9Has) : PureOK Tryz.prog WI 206 C_spec_l9Word := by
  refine pure1 (E := EE cs) hT hs (by rw [st_spec_l9Word]; rfl) fun s hp => out_wp (n := 0) (st_spec_l9Word cs) ?_
  have c1 := C_spec_l8Name_eq s hp
  have c2 : C_spec_l9Has [.imm [[.str [116, 97, 98, 108, 101]], [.str [112, 114, 105, 109, 97, 114, 121]], [.str [117, 110, 105, 113, 117, 101]], [.str [105, 110, 100, 101, 120]], [.str [110, 117, 108, 108]], [.str [100, 101, 115, 99]], [.str [105, 110, 116]], [.str [110, 117, 109]], [.str [116, 101, 120, 116]], [.str [98, 111, 111, 108]]], .str s] = some (.bool (hasS words s)) := C_spec_l9Has_eq words s (by decide)
  have f1 : ∀ a b c d e f g h i j : List UInt8, fillR (List.replicate 10 [.str []]) 1 [(0, .str a), (1, .str b), (2, .str c), (3, .str d), (4, .str e), (5, .str f), (6, .str g), (7, .str h), (8, .str i), (9, .str j)] = some [[.str a], [.str b], [.str c], [.str d], [.str e], [.str f], [.str g], [.str h], [.str i], [.str j]] := fun _ _ _ _ _ _ _ _ _ _ => rfl
  have f2 : ∀ a b c d e f g h i j : List UInt8, frzRows [[.str a], [.str b], [.str c], [.str d], [.str e], [.str f], [.str g], [.str h], [.str i], [.str j]] = some [[.str a], [.str b], [.str c], [.str d], [.str e], [.str f], [.str g], [.str h], [.str i], [.str j]] := fun _ _ _ _ _ _ _ _ _ _ => rfl
  cases hn : isName s
  · simp only [go_sem, kSt_ptr, Nat.reduceBEq, Nat.reduceAdd, Nat.reduceEqDiff, Nat.reduceLeDiff, Nat.reduceSub, reduceIte, Int.reduceBEq, Int.reduceEq, Int.reduceLT, Int.reduceLE, Int.reduceGT, Int.reduceGE, Int.reduceNe, Int.reduceBNe, s_spec_l9Word, h1, h2, c1, hn, freeW]
  · simp only [go_sem, kSt_ptr, Nat.reduceBEq, Nat.reduceAdd, Nat.reduceEqDiff, Nat.reduceLeDiff, Nat.reduceSub, reduceIte, Int.reduceBEq, Int.reduceEq, Int.reduceLT, Int.reduceLE, Int.reduceGT, Int.reduceGE, Int.reduceNe, Int.reduceBNe, s_spec_l9Word, h1, h2, c1, c2, hn, f1, f2, freeW]
end Go.Proofs.YtienjjjhjeigmaaGreatDoor.Is
/- What the functions that FnExactInScan calls answer: part 3. -/
namespace Go.Proofs.YtienjjjhjeigmaaGreatDoor.Is
open Go Go.RowKit Go.Ev
set_option linter.unusedSimpArgs false
set_option linter.unusedVariables false
set_option maxHeartbeats 1600000
noncomputable def C_spec_l9Names := c1 tDef (fun (v : TDef) => tDef.cost v ≤ 1048576) (.bool) fun (v : TDef) => defNames v
theorem C_spec_l9Names_eq (v : TDef) (h : tDef.cost v ≤ 1048576) : C_spec_l9Names [.agg [.str v.fName, .imm (v.fCols.map TCol.row), .imm (v.fPrimary.map TBy.row), .imm (v.fIndexes.map TIndex.row)]] = some (.bool ((defNames v))) := c1_eq tDef h
theorem ok_spec_l9Names {WI : World → Prop} (hs : Stable WI) (cs) (hT : TOK (EE cs) WI) (h1 : (EE cs).T 206 = some C_spec_l9Word) : PureOK Tryz.prog WI 137 C_spec_l9Names := by
  refine pure1 (E := EE cs) hT hs (by rw [st_spec_l9Names]; rfl) fun v hp => out_wp (n := 0) (st_spec_l9Names cs) ?_
  obtain ⟨n1, n2, n3, n4, n5, n6⟩ := defLens hp
  simp only [go_sem, kSt_ptr, Nat.reduceBEq, Nat.reduceAdd, Nat.reduceEqDiff, Nat.reduceLeDiff, Nat.reduceSub, reduceIte, Int.reduceBEq, Int.reduceEq, Int.reduceLT, Int.reduceLE, Int.reduceGT, Int.reduceGE, Int.reduceNe, Int.reduceBNe, s_spec_l9Names, TDef.row]
  refine (wl_all (l := v.fCols) (fun pre c => freeW c.fName) (fun pre e h => e 1 = .ptr 0 0 ∧ h.hp 0 = some v.row ∧ e 3 = .int .i64 pre.length) (.exit 0) (fun e h => e 1 = .ptr 0 0 ∧ h.hp 0 = some v.row) (fun e h => e 2 = .bool false) (by omega) ?_ ?_ ?_ (by simp) v.fCols [] _ _ rfl ?_).mono ?_
  · rintro pre c rest e h a hp ⟨q0, q1, ix⟩
    simp only [go_sem, kSt_ptr, Nat.reduceBEq, Nat.reduceAdd, Nat.reduceEqDiff, Nat.reduceLeDiff, Nat.reduceSub, reduceIte, Int.reduceBEq, Int.reduceEq, Int.reduceLT, Int.reduceLE, Int.reduceGT, Int.reduceGE, Int.reduceNe, Int.reduceBNe, s_spec_l9Names_L0, q0, q1, ix, a.dl, a.ia (row := TCol.row) (sz := 3) rfl, hp, a.hw, TDef.row, TCol.row, h1, C_spec_l9Word_eq c.fName (n5 c a.mem)]
  · rintro pre c rest e h a hp ⟨q0, q1, ix⟩
    simp only [go_sem, kSt_ptr, Nat.reduceBEq, Nat.reduceAdd, Nat.reduceEqDiff, Nat.reduceLeDiff, Nat.reduceSub, reduceIte, Int.reduceBEq, Int.reduceEq, Int.reduceLT, Int.reduceLE, Int.reduceGT, Int.reduceGE, Int.reduceNe, Int.reduceBNe, s_spec_l9Names_L0, q0, q1, ix, a.dl, a.ia (row := TCol.row) (sz := 3) rfl, hp, a.hw, TDef.row, TCol.row, h1, C_spec_l9Word_eq c.fName (n5 c a.mem)]
  · rintro e h ⟨q0, q1, ix⟩
    simp only [go_sem, kSt_ptr, Nat.reduceBEq, Nat.reduceAdd, Nat.reduceEqDiff, Nat.reduceLeDiff, Nat.reduceSub, reduceIte, Int.reduceBEq, Int.reduceEq, Int.reduceLT, Int.reduceLE, Int.reduceGT, Int.reduceGE, Int.reduceNe, Int.reduceBNe, s_spec_l9Names_L0, q0, q1, ix, TDef.row]
  · simp only [go_sem, kSt_ptr, Nat.reduceBEq, Nat.reduceAdd, Nat.reduceEqDiff, Nat.reduceLeDiff, Nat.reduceSub, reduceIte, Int.reduceBEq, Int.reduceEq, Int.reduceLT, Int.reduceLE, Int.reduceGT, Int.reduceGE, Int.reduceNe, Int.reduceBNe, TDef.row]
  · rintro x e h (⟨hp, rfl, j0, j1⟩ | ⟨hp, rfl, j⟩)
    · rw [allP_all] at hp
      simp only [go_sem, kSt_ptr, Nat.reduceBEq, Nat.reduceAdd, Nat.reduceEqDiff, Nat.reduceLeDiff, Nat.reduceSub, reduceIte, Int.reduceBEq, Int.reduceEq, Int.reduceLT, Int.reduceLE, Int.reduceGT, Int.reduceGE, Int.reduceNe, Int.reduceBNe, j0, j1, TDef.row]
      refine (wl_all (l := v.fIndexes) (fun pre c => freeW c.fName) (fun pre e h => e 1 = .ptr 0 0 ∧ h.hp 0 = some v.row ∧ e 4 = .int .i64 pre.length) (.exit 2) (fun e h => e 1 = .ptr 0 0 ∧ h.hp 0 = some v.row) (fun e h => e 2 = .bool false) (by omega) ?_ ?_ ?_ (by simp) v.fIndexes [] _ _ rfl ?_).mono ?_
      · rintro pre c rest e h a hp ⟨q0, q1, ix⟩
        simp only [go_sem, kSt_ptr, Nat.reduceBEq, Nat.reduceAdd, Nat.reduceEqDiff, Nat.reduceLeDiff, Nat.reduceSub, reduceIte, Int.reduceBEq, Int.reduceEq, Int.reduceLT, Int.reduceLE, Int.reduceGT, Int.reduceGE, Int.reduceNe, Int.reduceBNe, s_spec_l9Names_L1, q0, q1, ix, a.dl, a.ia (row := TIndex.row) (sz := 3) rfl, hp, a.hw, TDef.row, TIndex.row, h1, C_spec_l9Word_eq c.fName (n6 c a.mem).1]
      · rintro pre c rest e h a hp ⟨q0, q1, ix⟩
        simp only [go_sem, kSt_ptr, Nat.reduceBEq, Nat.reduceAdd, Nat.reduceEqDiff, Nat.reduceLeDiff, Nat.reduceSub, reduceIte, Int.reduceBEq, Int.reduceEq, Int.reduceLT, Int.reduceLE, Int.reduceGT, Int.reduceGE, Int.reduceNe, Int.reduceBNe, s_spec_l9Names_L1, q0, q1, ix, a.dl, a.ia (row := TIndex.row) (sz := 3) rfl, hp, a.hw, TDef.row, TIndex.row, h1, C_spec_l9Word_eq c.fName (n6 c a.mem).1]
      · rintro e h ⟨q0, q1, ix⟩
        simp only [go_sem, kSt_ptr, Nat.reduceBEq, Nat.reduceAdd, Nat.reduceEqDiff, Nat.reduceLeDiff, Nat.reduceSub, reduceIte, Int.reduceBEq, Int.reduceEq, Int.reduceLT, Int.reduceLE, Int.reduceGT, Int.reduceGE, Int.reduceNe, Int.reduceBNe, s_spec_l9Names_L1, q0, q1, ix, TDef.row]
      · simp only [go_sem, kSt_ptr, Nat.reduceBEq, Nat.reduceAdd, Nat.reduceEqDiff, Nat.reduceLeDiff, Nat.reduceSub, reduceIte, Int.reduceBEq, Int.reduceEq, Int.reduceLT, Int.reduceLE, Int.reduceGT, Int.reduceGE, Int.reduceNe, Int.reduceBNe, j0, j1, TDef.row]
      · rintro x e h (⟨hp2, rfl, j0, j1⟩ | ⟨hp2, rfl, j⟩)
        · rw [allP_all] at hp2
          simp only [go_sem, kSt_ptr, Nat.reduceBEq, Nat.reduceAdd, Nat.reduceEqDiff, Nat.reduceLeDiff, Nat.reduceSub, reduceIte, Int.reduceBEq, Int.reduceEq, Int.reduceLT, Int.reduceLE, Int.reduceGT, Int.reduceGE, Int.reduceNe, Int.reduceBNe, j0, j1, TDef.row, h1, C_spec_l9Word_eq v.fName n1, defNames, hp, hp2]
        · rw [allP_all] at hp2
          simp only [go_sem, kSt_ptr, Nat.reduceBEq, Nat.reduceAdd, Nat.reduceEqDiff, Nat.reduceLeDiff, Nat.reduceSub, reduceIte, Int.reduceBEq, Int.reduceEq, Int.reduceLT, Int.reduceLE, Int.reduceGT, Int.reduceGE, Int.reduceNe, Int.reduceBNe, s_spec_l9Names, j, defNames, hp, hp2]
    · rw [allP_all] at hp
      simp only [go_sem, kSt_ptr, Nat.reduceBEq, Nat.reduceAdd, Nat.reduceEqDiff, Nat.reduceLeDiff, Nat.reduceSub, reduceIte, Int.reduceBEq, Int.reduceEq, Int.reduceLT, Int.reduceLE, Int.reduceGT, Int.reduceGE, Int.reduceNe, Int.reduceBNe, s_spec_l9Names, j, defNames, hp]
noncomputable def C_spec_l9Types := c1 tDef (fun (v : TDef) => tDef.cost v ≤ 1048576) (.bool) fun (v : TDef) => defTypes v
theorem C_spec_l9Types_eq (v : TDef) (h : tDef.cost v ≤ 1048576) : C_spec_l9Types [.agg [.str v.fName, .imm (v.fCols.map TCol.row), .imm (v.fPrimary.map TBy.row), .imm (v.fIndexes.map TIndex.row)]] = some (.bool ((defTypes v))) := c1_eq tDef h
theorem ok_spec_l9Types {WI : World → Prop} (hs : Stable WI) (cs) (hT : TOK (EE cs) WI) (h1 : (EE cs).T 65 = some C_spec_l1In) : PureOK Tryz.prog WI 138 C_spec_l9Types := by
  refine pure1 (E := EE cs) hT hs (by rw [st_spec_l9Types]; rfl) fun v hp => out_wp (n := 0) (st_spec_l9Types cs) ?_
  obtain ⟨n1, n2, n3, n4, n5, n6⟩ := defLens hp
  simp only [go_sem, kSt_ptr, Nat.reduceBEq, Nat.reduceAdd, Nat.reduceEqDiff, Nat.reduceLeDiff, Nat.reduceSub, reduceIte, Int.reduceBEq, Int.reduceEq, Int.reduceLT, Int.reduceLE, Int.reduceGT, Int.reduceGE, Int.reduceNe, Int.reduceBNe, s_spec_l9Types, TDef.row]
  refine (wl_all (l := v.fCols) (fun pre c => inR c.fType 1 4) (fun pre e h => e 1 = .ptr 0 0 ∧ h.hp 0 = some v.row ∧ e 3 = .int .i64 pre.length) (.exit 0) (fun e h => e 1 = .ptr 0 0 ∧ h.hp 0 = some v.row) (fun e h => e 2 = .bool false) (by omega) ?_ ?_ ?_ (by simp) v.fCols [] _ _ rfl ?_).mono ?_
  · rintro pre c rest e h a hp ⟨q0, q1, ix⟩
    simp only [go_sem, kSt_ptr, Nat.reduceBEq, Nat.reduceAdd, Nat.reduceEqDiff, Nat.reduceLeDiff, Nat.reduceSub, reduceIte, Int.reduceBEq, Int.reduceEq, Int.reduceLT, Int.reduceLE, Int.reduceGT, Int.reduceGE, Int.reduceNe, Int.reduceBNe, s_spec_l9Types_L0, q0, q1, ix, a.dl, a.ia (row := TCol.row) (sz := 3) rfl, hp, a.hw, TDef.row, TCol.row, h1, C_spec_l1In_eq]
  · rintro pre c rest e h a hp ⟨q0, q1, ix⟩
    simp only [go_sem, kSt_ptr, Nat.reduceBEq, Nat.reduceAdd, Nat.reduceEqDiff, Nat.reduceLeDiff, Nat.reduceSub, reduceIte, Int.reduceBEq, Int.reduceEq, Int.reduceLT, Int.reduceLE, Int.reduceGT, Int.reduceGE, Int.reduceNe, Int.reduceBNe, s_spec_l9Types_L0, q0, q1, ix, a.dl, a.ia (row := TCol.row) (sz := 3) rfl, hp, a.hw, TDef.row, TCol.row, h1, C_spec_l1In_eq]
  · rintro e h ⟨q0, q1, ix⟩
    simp only [go_sem, kSt_ptr, Nat.reduceBEq, Nat.reduceAdd, Nat.reduceEqDiff, Nat.reduceLeDiff, Nat.reduceSub, reduceIte, Int.reduceBEq, Int.reduceEq, Int.reduceLT, Int.reduceLE, Int.reduceGT, Int.reduceGE, Int.reduceNe, Int.reduceBNe, s_spec_l9Types_L0, q0, q1, ix, TDef.row]
  · simp only [go_sem, kSt_ptr, Nat.reduceBEq, Nat.reduceAdd, Nat.reduceEqDiff, Nat.reduceLeDiff, Nat.reduceSub, reduceIte, Int.reduceBEq, Int.reduceEq, Int.reduceLT, Int.reduceLE, Int.reduceGT, Int.reduceGE, Int.reduceNe, Int.reduceBNe, TDef.row]
  · rintro x e h (⟨hp, rfl, j0, j1⟩ | ⟨hp, rfl, j⟩)
    · rw [allP_all] at hp
      simp only [go_sem, kSt_ptr, Nat.reduceBEq, Nat.reduceAdd, Nat.reduceEqDiff, Nat.reduceLeDiff, Nat.reduceSub, reduceIte, Int.reduceBEq, Int.reduceEq, Int.reduceLT, Int.reduceLE, Int.reduceGT, Int.reduceGE, Int.reduceNe, Int.reduceBNe, j0, j1, TDef.row, h1, C_spec_l1In_eq, defTypes, hp]
    · rw [allP_all] at hp
      simp only [go_sem, kSt_ptr, Nat.reduceBEq, Nat.reduceAdd, Nat.reduceEqDiff, Nat.reduceLeDiff, Nat.reduceSub, reduceIte, Int.reduceBEq, Int.reduceEq, Int.reduceLT, Int.reduceLE, Int.reduceGT, Int.reduceGE, Int.reduceNe, Int.reduceBNe, s_spec_l9Types, j, defTypes, hp]
noncomputable def C_spec_l9Col := c2 tDef strT (fun (v : TDef) (name : List UInt8) => tDef.cost v ≤ 1048576) ((.int .i64)) fun (v : TDef) (name : List UInt8) => colAt v.fCols name
theorem C_spec_l9Col_eq (v : TDef) (name : List UInt8) (h : tDef.cost v ≤ 1048576) : C_spec_l9Col [.agg [.str v.fName, .imm (v.fCols.map TCol.row), .imm (v.fPrimary.map TBy.row), .imm (v.fIndexes.map TIndex.row)], .str name] = some (.int .i64 ((colAt v.fCols name))) := c2_eq tDef strT h
theorem ok_spec_l9Col {WI : World → Prop} (hs : Stable WI) (cs) (hT : TOK (EE cs) WI) : PureOK Tryz.prog WI 207 C_spec_l9Col := by
  refine pure2 (E := EE cs) hT hs (by rw [st_spec_l9Col]; rfl) fun v name hp => out_wp (n := 0) (st_spec_l9Col cs) ?_
  obtain ⟨n1, n2, n3, n4, n5, n6⟩ := defLens hp
  simp only [go_sem, kSt_ptr, Nat.reduceBEq, Nat.reduceAdd, Nat.reduceEqDiff, Nat.reduceLeDiff, Nat.reduceSub, reduceIte, Int.reduceBEq, Int.reduceEq, Int.reduceLT, Int.reduceLE, Int.reduceGT, Int.reduceGE, Int.reduceNe, Int.reduceBNe, s_spec_l9Col, TDef.row]
  refine (wl_early (l := v.fCols) (fun pre c => colF name pre c) (fun pre e h => e 2 = .ptr 0 0 ∧ h.hp 0 = some v.row ∧ e 1 = .str name ∧ e 5 = .int .i64 pre.length) (.exit 0) (fun e h => e 2 = .ptr 0 0 ∧ h.hp 0 = some v.row ∧ e 1 = .str name) (fun b e h => e 4 = .int .i64 b) (by omega) ?_ ?_ ?_ (by simp) v.fCols [] _ _ rfl ?_).mono ?_
  · rintro pre c rest e h a hp ⟨q0, q1, q2, ix⟩
    have hq : (c.fName == name) = false := by unfold colF at hp; split at hp; cases hp; simpa using ‹¬ c.fName = name›
    simp only [go_sem, kSt_ptr, Nat.reduceBEq, Nat.reduceAdd, Nat.reduceEqDiff, Nat.reduceLeDiff, Nat.reduceSub, reduceIte, Int.reduceBEq, Int.reduceEq, Int.reduceLT, Int.reduceLE, Int.reduceGT, Int.reduceGE, Int.reduceNe, Int.reduceBNe, s_spec_l9Col_L0, q0, q1, q2, ix, a.dl, a.ia (row := TCol.row) (sz := 3) rfl, hp, a.hw, TDef.row, TCol.row, hq]
  · rintro pre c rest b e h a hp ⟨q0, q1, q2, ix⟩
    have hq : (c.fName == name) = true := by unfold colF at hp; split at hp; simpa using ‹c.fName = name›; cases hp
    have hb : b = (pre.length : Int) := by unfold colF at hp; split at hp; simpa using hp.symm; cases hp
    subst hb
    simp only [go_sem, kSt_ptr, Nat.reduceBEq, Nat.reduceAdd, Nat.reduceEqDiff, Nat.reduceLeDiff, Nat.reduceSub, reduceIte, Int.reduceBEq, Int.reduceEq, Int.reduceLT, Int.reduceLE, Int.reduceGT, Int.reduceGE, Int.reduceNe, Int.reduceBNe, s_spec_l9Col_L0, q0, q1, q2, ix, a.dl, a.ia (row := TCol.row) (sz := 3) rfl, hp, a.hw, TDef.row, TCol.row, hq]
  · rintro e h ⟨q0, q1, q2, ix⟩
    simp only [go_sem, kSt_ptr, Nat.reduceBEq, Nat.reduceAdd, Nat.reduceEqDiff, Nat.reduceLeDiff, Nat.reduceSub, reduceIte, Int.reduceBEq, Int.reduceEq, Int.reduceLT, Int.reduceLE, Int.reduceGT, Int.reduceGE, Int.reduceNe, Int.reduceBNe, s_spec_l9Col_L0, q0, q1, q2, ix, TDef.row]
  · simp only [go_sem, kSt_ptr, Nat.reduceBEq, Nat.reduceAdd, Nat.reduceEqDiff, Nat.reduceLeDiff, Nat.reduceSub, reduceIte, Int.reduceBEq, Int.reduceEq, Int.reduceLT, Int.reduceLE, Int.reduceGT, Int.reduceGE, Int.reduceNe, Int.reduceBNe, TDef.row]
  · intro x e h hx
    cases he : earlyL (colF name) [] v.fCols with
    | none =>
      rw [he] at hx
      obtain ⟨rfl, j0, j1, j2⟩ := hx
      simp only [go_sem, kSt_ptr, Nat.reduceBEq, Nat.reduceAdd, Nat.reduceEqDiff, Nat.reduceLeDiff, Nat.reduceSub, reduceIte, Int.reduceBEq, Int.reduceEq, Int.reduceLT, Int.reduceLE, Int.reduceGT, Int.reduceGE, Int.reduceNe, Int.reduceBNe, colAt, he, Option.getD_none]
    | some k =>
      rw [he] at hx
      obtain ⟨rfl, j⟩ := hx
      simp only [go_sem, kSt_ptr, Nat.reduceBEq, Nat.reduceAdd, Nat.reduceEqDiff, Nat.reduceLeDiff, Nat.reduceSub, reduceIte, Int.reduceBEq, Int.reduceEq, Int.reduceLT, Int.reduceLE, Int.reduceGT, Int.reduceGE, Int.reduceNe, Int.reduceBNe, s_spec_l9Col, j, colAt, he]
noncomputable def C_spec_l9Once := c1 tDef (fun (v : TDef) => tDef.cost v ≤ 1048576) (.bool) fun (v : TDef) => defOnce v
theorem C_spec_l9Once_eq (v : TDef) (h : tDef.cost v ≤ 1048576) : C_spec_l9Once [.agg [.str v.fName, .imm (v.fCols.map TCol.row), .imm (v.fPrimary.map TBy.row), .imm (v.fIndexes.map TIndex.row)]] = some (.bool ((defOnce v))) := c1_eq tDef h
theorem ok_spec_l9Once {WI : World → Prop} (hs : Stable WI) (cs) (hT : TOK (EE cs) WI) (h1 : (EE cs).T 207 = some C_spec_l9Col) : PureOK Tryz.prog WI 139 C_spec_l9Once := by
  refine pure1 (E := EE cs) hT hs (by rw [st_spec_l9Once]; rfl) fun v hp => out_wp (n := 0) (st_spec_l9Once cs) ?_
  obtain ⟨n1, n2, n3, n4, n5, n6⟩ := defLens hp
  simp only [go_sem, kSt_ptr, Nat.reduceBEq, Nat.reduceAdd, Nat.reduceEqDiff, Nat.reduceLeDiff, Nat.reduceSub, reduceIte, Int.reduceBEq, Int.reduceEq, Int.reduceLT, Int.reduceLE, Int.reduceGT, Int.reduceGE, Int.reduceNe, Int.reduceBNe, s_spec_l9Once, TDef.row]
  have hfz : frzCells v.row = some v.row := rfl
  have inner : ∀ pre c rest, At v.fIndexes pre c rest → ∀ e h, e 1 = .ptr 0 0 → h.hp 0 = some v.row → e 4 = .int .i64 pre.length → e 5 = .int .i64 0 → WL (EE cs) s_spec_l9Once_L1 e h fun x e' h' => (onceX pre c = true ∧ x = .exit 4 ∧ e' 1 = .ptr 0 0 ∧ h'.hp 0 = some v.row ∧ e' 4 = .int .i64 pre.length) ∨ (onceX pre c = false ∧ x = .ret ∧ e' 2 = .bool false) := by
    intro pre0 c rest0 a0 e h k0 k1 k2 k3
    refine (wl_all (l := pre0) (fun pre y => !(y.fName == c.fName)) (fun pre e h => e 1 = .ptr 0 0 ∧ h.hp 0 = some v.row ∧ e 4 = .int .i64 pre0.length ∧ e 5 = .int .i64 pre.length) (.exit 4) (fun e h => e 1 = .ptr 0 0 ∧ h.hp 0 = some v.row ∧ e 4 = .int .i64 pre0.length) (fun e h => e 2 = .bool false) (by have := a0.lt; omega) ?_ ?_ ?_ (by simp) pre0 [] _ _ rfl ?_).mono ?_
    · rintro pre y rest e h a hp ⟨q0, q1, q2, ix⟩
      have hl2 : v.fIndexes = pre ++ y :: (rest ++ c :: rest0) := by rw [a0.hl, a.hl]; simp
      have hq : (y.fName == c.fName) = false := by simpa using hp
      simp only [go_sem, kSt_ptr, Nat.reduceBEq, Nat.reduceAdd, Nat.reduceEqDiff, Nat.reduceLeDiff, Nat.reduceSub, reduceIte, Int.reduceBEq, Int.reduceEq, Int.reduceLT, Int.reduceLE, Int.reduceGT, Int.reduceGE, Int.reduceNe, Int.reduceBNe, s_spec_l9Once_L1, q0, q1, q2, ix, a.dl, lt_self, hp, a.hw, TDef.row, TIndex.row, kIa_map (row := TIndex.row) (sz := 3) hl2 rfl, a0.ia (row := TIndex.row) (sz := 3) rfl, hq]
    · rintro pre y rest e h a hp ⟨q0, q1, q2, ix⟩
      have hl2 : v.fIndexes = pre ++ y :: (rest ++ c :: rest0) := by rw [a0.hl, a.hl]; simp
      have hq : (y.fName == c.fName) = true := by simpa using hp
      simp only [go_sem, kSt_ptr, Nat.reduceBEq, Nat.reduceAdd, Nat.reduceEqDiff, Nat.reduceLeDiff, Nat.reduceSub, reduceIte, Int.reduceBEq, Int.reduceEq, Int.reduceLT, Int.reduceLE, Int.reduceGT, Int.reduceGE, Int.reduceNe, Int.reduceBNe, s_spec_l9Once_L1, q0, q1, q2, ix, a.dl, lt_self, hp, a.hw, TDef.row, TIndex.row, kIa_map (row := TIndex.row) (sz := 3) hl2 rfl, a0.ia (row := TIndex.row) (sz := 3) rfl, hq]
    · rintro e h ⟨q0, q1, q2, ix⟩
      simp only [go_sem, kSt_ptr, Nat.reduceBEq, Nat.reduceAdd, Nat.reduceEqDiff, Nat.reduceLeDiff, Nat.reduceSub, reduceIte, Int.reduceBEq, Int.reduceEq, Int.reduceLT, Int.reduceLE, Int.reduceGT, Int.reduceGE, Int.reduceNe, Int.reduceBNe, s_spec_l9Once_L1, q0, q1, q2, ix, TDef.row]
    · simp only [go_sem, kSt_ptr, Nat.reduceBEq, Nat.reduceAdd, Nat.reduceEqDiff, Nat.reduceLeDiff, Nat.reduceSub, reduceIte, Int.reduceBEq, Int.reduceEq, Int.reduceLT, Int.reduceLE, Int.reduceGT, Int.reduceGE, Int.reduceNe, Int.reduceBNe, k0, k1, k2, k3, TDef.row]
    · rintro x e' h' (⟨hp, rfl, j0, j1, j2⟩ | ⟨hp, rfl, j⟩)
      · rw [allP_all] at hp
        exact .inl ⟨hp, rfl, j0, j1, j2⟩
      · rw [allP_all] at hp
        exact .inr ⟨hp, rfl, j⟩
  refine (wl_all (l := v.fCols) (fun pre c => onceC pre c) (fun pre e h => e 1 = .ptr 0 0 ∧ h.hp 0 = some v.row ∧ e 3 = .int .i64 pre.length) (.exit 0) (fun e h => e 1 = .ptr 0 0 ∧ h.hp 0 = some v.row) (fun e h => e 2 = .bool false) (by omega) ?_ ?_ ?_ (by simp) v.fCols [] _ _ rfl ?_).mono ?_
  · rintro pre c rest e h a hp ⟨q0, q1, ix⟩
    have hc : C_spec_l9Col [.agg [.str v.fName, .imm (v.fCols.map TCol.row), .imm (v.fPrimary.map TBy.row), .imm (v.fIndexes.map TIndex.row)], .str c.fName] = some (.int .i64 (colAt v.fCols c.fName)) := C_spec_l9Col_eq v c.fName ‹_›
    have hq := colAt_once a.hl
    simp only [go_sem, kSt_ptr, Nat.reduceBEq, Nat.reduceAdd, Nat.reduceEqDiff, Nat.reduceLeDiff, Nat.reduceSub, reduceIte, Int.reduceBEq, Int.reduceEq, Int.reduceLT, Int.reduceLE, Int.reduceGT, Int.reduceGE, Int.reduceNe, Int.reduceBNe, s_spec_l9Once_L0, q0, q1, ix, a.dl, a.ia (row := TCol.row) (sz := 3) rfl, hp, a.hw, TDef.row, TCol.row, h1, hc, hq, bne]
  · rintro pre c rest e h a hp ⟨q0, q1, ix⟩
    have hc : C_spec_l9Col [.agg [.str v.fName, .imm (v.fCols.map TCol.row), .imm (v.fPrimary.map TBy.row), .imm (v.fIndexes.map TIndex.row)], .str c.fName] = some (.int .i64 (colAt v.fCols c.fName)) := C_spec_l9Col_eq v c.fName ‹_›
    have hq := colAt_once a.hl
    simp only [go_sem, kSt_ptr, Nat.reduceBEq, Nat.reduceAdd, Nat.reduceEqDiff, Nat.reduceLeDiff, Nat.reduceSub, reduceIte, Int.reduceBEq, Int.reduceEq, Int.reduceLT, Int.reduceLE, Int.reduceGT, Int.reduceGE, Int.reduceNe, Int.reduceBNe, s_spec_l9Once_L0, q0, q1, ix, a.dl, a.ia (row := TCol.row) (sz := 3) rfl, hp, a.hw, TDef.row, TCol.row, h1, hc, hq, bne]
  · rintro e h ⟨q0, q1, ix⟩
    simp only [go_sem, kSt_ptr, Nat.reduceBEq, Nat.reduceAdd, Nat.reduceEqDiff, Nat.reduceLeDiff, Nat.reduceSub, reduceIte, Int.reduceBEq, Int.reduceEq, Int.reduceLT, Int.reduceLE, Int.reduceGT, Int.reduceGE, Int.reduceNe, Int.reduceBNe, s_spec_l9Once_L0, q0, q1, ix, TDef.row]
  · simp only [go_sem, kSt_ptr, Nat.reduceBEq, Nat.reduceAdd, Nat.reduceEqDiff, Nat.reduceLeDiff, Nat.reduceSub, reduceIte, Int.reduceBEq, Int.reduceEq, Int.reduceLT, Int.reduceLE, Int.reduceGT, Int.reduceGE, Int.reduceNe, Int.reduceBNe, TDef.row]
  · rintro x e h (⟨hp1, rfl, j0, j1⟩ | ⟨hp1, rfl, j⟩)
    · simp only [go_sem, kSt_ptr, Nat.reduceBEq, Nat.reduceAdd, Nat.reduceEqDiff, Nat.reduceLeDiff, Nat.reduceSub, reduceIte, Int.reduceBEq, Int.reduceEq, Int.reduceLT, Int.reduceLE, Int.reduceGT, Int.reduceGE, Int.reduceNe, Int.reduceBNe, j0, j1, TDef.row]
      refine (wl_all (l := v.fIndexes) (fun pre c => onceX pre c) (fun pre e h => e 1 = .ptr 0 0 ∧ h.hp 0 = some v.row ∧ e 4 = .int .i64 pre.length) (.exit 2) (fun e h => e 1 = .ptr 0 0 ∧ h.hp 0 = some v.row) (fun e h => e 2 = .bool false) (by omega) ?_ ?_ ?_ (by simp) v.fIndexes [] _ _ rfl ?_).mono ?_
      · rintro pre c rest e h a hp ⟨q0, q1, ix⟩
        simp only [go_sem, kSt_ptr, Nat.reduceBEq, Nat.reduceAdd, Nat.reduceEqDiff, Nat.reduceLeDiff, Nat.reduceSub, reduceIte, Int.reduceBEq, Int.reduceEq, Int.reduceLT, Int.reduceLE, Int.reduceGT, Int.reduceGE, Int.reduceNe, Int.reduceBNe, s_spec_l9Once_L2, q0, q1, ix, a.dl, a.ia (row := TIndex.row) (sz := 3) rfl, hp, a.hw, TDef.row, TIndex.row]
        refine (inner pre c rest a _ _ (by simp only [go_sem, kSt_ptr, Nat.reduceBEq, Nat.reduceAdd, Nat.reduceEqDiff, Nat.reduceLeDiff, Nat.reduceSub, reduceIte, Int.reduceBEq, Int.reduceEq, Int.reduceLT, Int.reduceLE, Int.reduceGT, Int.reduceGE, Int.reduceNe, Int.reduceBNe, q0]) (by simp only [go_sem, kSt_ptr, Nat.reduceBEq, Nat.reduceAdd, Nat.reduceEqDiff, Nat.reduceLeDiff, Nat.reduceSub, reduceIte, Int.reduceBEq, Int.reduceEq, Int.reduceLT, Int.reduceLE, Int.reduceGT, Int.reduceGE, Int.reduceNe, Int.reduceBNe, q1]) (by simp only [go_sem, kSt_ptr, Nat.reduceBEq, Nat.reduceAdd, Nat.reduceEqDiff, Nat.reduceLeDiff, Nat.reduceSub, reduceIte, Int.reduceBEq, Int.reduceEq, Int.reduceLT, Int.reduceLE, Int.reduceGT, Int.reduceGE, Int.reduceNe, Int.reduceBNe, ix]) (by simp only [go_sem, kSt_ptr, Nat.reduceBEq, Nat.reduceAdd, Nat.reduceEqDiff, Nat.reduceLeDiff, Nat.reduceSub, reduceIte, Int.reduceBEq, Int.reduceEq, Int.reduceLT, Int.reduceLE, Int.reduceGT, Int.reduceGE, Int.reduceNe, Int.reduceBNe])).mono ?_
        rintro x e' h' (⟨hq, rfl, k0, k1, k2⟩ | ⟨hq, rfl, k⟩)
        · simp only [go_sem, kSt_ptr, Nat.reduceBEq, Nat.reduceAdd, Nat.reduceEqDiff, Nat.reduceLeDiff, Nat.reduceSub, reduceIte, Int.reduceBEq, Int.reduceEq, Int.reduceLT, Int.reduceLE, Int.reduceGT, Int.reduceGE, Int.reduceNe, Int.reduceBNe, k0, k1, k2, TDef.row, a.hw]
        · rw [hp] at hq; cases hq
      · rintro pre c rest e h a hp ⟨q0, q1, ix⟩
        simp only [go_sem, kSt_ptr, Nat.reduceBEq, Nat.reduceAdd, Nat.reduceEqDiff, Nat.reduceLeDiff, Nat.reduceSub, reduceIte, Int.reduceBEq, Int.reduceEq, Int.reduceLT, Int.reduceLE, Int.reduceGT, Int.reduceGE, Int.reduceNe, Int.reduceBNe, s_spec_l9Once_L2, q0, q1, ix, a.dl, a.ia (row := TIndex.row) (sz := 3) rfl, hp, a.hw, TDef.row, TIndex.row]
        refine (inner pre c rest a _ _ (by simp only [go_sem, kSt_ptr, Nat.reduceBEq, Nat.reduceAdd, Nat.reduceEqDiff, Nat.reduceLeDiff, Nat.reduceSub, reduceIte, Int.reduceBEq, Int.reduceEq, Int.reduceLT, Int.reduceLE, Int.reduceGT, Int.reduceGE, Int.reduceNe, Int.reduceBNe, q0]) (by simp only [go_sem, kSt_ptr, Nat.reduceBEq, Nat.reduceAdd, Nat.reduceEqDiff, Nat.reduceLeDiff, Nat.reduceSub, reduceIte, Int.reduceBEq, Int.reduceEq, Int.reduceLT, Int.reduceLE, Int.reduceGT, Int.reduceGE, Int.reduceNe, Int.reduceBNe, q1]) (by simp only [go_sem, kSt_ptr, Nat.reduceBEq, Nat.reduceAdd, Nat.reduceEqDiff, Nat.reduceLeDiff, Nat.reduceSub, reduceIte, Int.reduceBEq, Int.reduceEq, Int.reduceLT, Int.reduceLE, Int.reduceGT, Int.reduceGE, Int.reduceNe, Int.reduceBNe, ix]) (by simp only [go_sem, kSt_ptr, Nat.reduceBEq, Nat.reduceAdd, Nat.reduceEqDiff, Nat.reduceLeDiff, Nat.reduceSub, reduceIte, Int.reduceBEq, Int.reduceEq, Int.reduceLT, Int.reduceLE, Int.reduceGT, Int.reduceGE, Int.reduceNe, Int.reduceBNe])).mono ?_
        rintro x e' h' (⟨hq, rfl, k0, k1, k2⟩ | ⟨hq, rfl, k⟩)
        · rw [hp] at hq; cases hq
        · simp only [go_sem, kSt_ptr, Nat.reduceBEq, Nat.reduceAdd, Nat.reduceEqDiff, Nat.reduceLeDiff, Nat.reduceSub, reduceIte, Int.reduceBEq, Int.reduceEq, Int.reduceLT, Int.reduceLE, Int.reduceGT, Int.reduceGE, Int.reduceNe, Int.reduceBNe, k]
      · rintro e h ⟨q0, q1, ix⟩
        simp only [go_sem, kSt_ptr, Nat.reduceBEq, Nat.reduceAdd, Nat.reduceEqDiff, Nat.reduceLeDiff, Nat.reduceSub, reduceIte, Int.reduceBEq, Int.reduceEq, Int.reduceLT, Int.reduceLE, Int.reduceGT, Int.reduceGE, Int.reduceNe, Int.reduceBNe, s_spec_l9Once_L2, q0, q1, ix, TDef.row]
      · simp only [go_sem, kSt_ptr, Nat.reduceBEq, Nat.reduceAdd, Nat.reduceEqDiff, Nat.reduceLeDiff, Nat.reduceSub, reduceIte, Int.reduceBEq, Int.reduceEq, Int.reduceLT, Int.reduceLE, Int.reduceGT, Int.reduceGE, Int.reduceNe, Int.reduceBNe, j0, j1, TDef.row]
      · rintro x e h (⟨hp2, rfl, j0, j1⟩ | ⟨hp2, rfl, j⟩)
        · simp only [go_sem, kSt_ptr, Nat.reduceBEq, Nat.reduceAdd, Nat.reduceEqDiff, Nat.reduceLeDiff, Nat.reduceSub, reduceIte, Int.reduceBEq, Int.reduceEq, Int.reduceLT, Int.reduceLE, Int.reduceGT, Int.reduceGE, Int.reduceNe, Int.reduceBNe, defOnce, hp1, hp2]
        · simp only [go_sem, kSt_ptr, Nat.reduceBEq, Nat.reduceAdd, Nat.reduceEqDiff, Nat.reduceLeDiff, Nat.reduceSub, reduceIte, Int.reduceBEq, Int.reduceEq, Int.reduceLT, Int.reduceLE, Int.reduceGT, Int.reduceGE, Int.reduceNe, Int.reduceBNe, s_spec_l9Once, j, defOnce, hp1, hp2]
    · simp only [go_sem, kSt_ptr, Nat.reduceBEq, Nat.reduceAdd, Nat.reduceEqDiff, Nat.reduceLeDiff, Nat.reduceSub, reduceIte, Int.reduceBEq, Int.reduceEq, Int.reduceLT, Int.reduceLE, Int.reduceGT, Int.reduceGE, Int.reduceNe, Int.reduceBNe, s_spec_l9Once, j, defOnce, hp1]
noncomputable def C_spec_l9Parts := c2 tDef (sliceT tBy) (fun (v : TDef) (l : List (TBy)) => tDef.cost v ≤ 1048576 ∧ l.length ≤ 1048576) (.bool) fun (v : TDef) (l : List (TBy)) => partsOK v l
theorem C_spec_l9Parts_eq (v : TDef) (l : List (TBy)) (h : tDef.cost v ≤ 1048576 ∧ l.length ≤ 1048576) : C_spec_l9Parts [.agg [.str v.fName, .imm (v.fCols.map TCol.row), .imm (v.fPrimary.map TBy.row), .imm (v.fIndexes.map TIndex.row)], .imm (l.map TBy.row)] = some (.bool ((partsOK v l))) := c2_eq tDef (sliceT tBy) h
theorem ok_spec_l9Parts {WI : World → Prop} (hs : Stable WI) (cs) (hT : TOK (EE cs) WI) (h1 : (EE cs).T 65 = some C_spec_l1In) : PureOK Tryz.prog WI 208 C_spec_l9Parts := by
  refine pure2 (E := EE cs) hT hs (by rw [st_spec_l9Parts]; rfl) fun v l hp => out_wp (n := 0) (st_spec_l9Parts cs) ?_
  obtain ⟨n1, n2, n3, n4, n5, n6⟩ := defLens hp.1
  have hw2 := defCols_len hp.1
  have hl := hp.2
  rw [← partsOK_spec]
  simp only [go_sem, kSt_ptr, Nat.reduceBEq, Nat.reduceAdd, Nat.reduceEqDiff, Nat.reduceLeDiff, Nat.reduceSub, reduceIte, Int.reduceBEq, Int.reduceEq, Int.reduceLT, Int.reduceLE, Int.reduceGT, Int.reduceGE, Int.reduceNe, Int.reduceBNe, s_spec_l9Parts, TDef.row]
  refine (wl_all (l := l) (fun pre p => inR p.fCol 0 ((v.fCols.length : Int) - 1) && !(decide (0 < (pre.length : Int)) && ((l.head?.map (·.fCol)) == some p.fCol))) (fun pre e h => e 2 = .ptr 0 0 ∧ h.hp 0 = some v.row ∧ e 1 = .imm (l.map TBy.row) ∧ e 5 = .int .i64 pre.length) (.exit 0) (fun e h => e 2 = .ptr 0 0 ∧ h.hp 0 = some v.row ∧ e 1 = .imm (l.map TBy.row)) (fun e h => e 4 = .bool false) (by omega) ?_ ?_ ?_ (by simp) l [] _ _ rfl ?_).mono ?_
  · rintro pre p rest e h a hp ⟨q0, q1, q2, ix⟩
    obtain ⟨q, r, hqr⟩ : ∃ q r, l = q :: r := by cases hll : l with | nil => rw [hll] at a; exact absurd a.mem (by simp) | cons q r => exact ⟨q, r, rfl⟩
    have hh : l.head? = some q := by rw [hqr]; rfl
    cases c1 : inR p.fCol 0 ((v.fCols.length : Int) - 1) <;> cases c2 : decide (0 < (pre.length : Int)) <;> cases c3 : (q.fCol == p.fCol) <;> simp only [hh, Option.map_some, Option.some_beq_some, c1, c2, c3, Bool.true_and, Bool.false_and, Bool.and_true, Bool.and_false, Bool.not_true, Bool.not_false, Bool.false_eq_true, Bool.true_eq_false] at hp
    all_goals simp only [go_sem, kSt_ptr, Nat.reduceBEq, Nat.reduceAdd, Nat.reduceEqDiff, Nat.reduceLeDiff, Nat.reduceSub, reduceIte, Int.reduceBEq, Int.reduceEq, Int.reduceLT, Int.reduceLE, Int.reduceGT, Int.reduceGE, Int.reduceNe, Int.reduceBNe, s_spec_l9Parts_L0, q0, q1, q2, ix, a.dl, a.ia (row := TBy.row) (sz := 2) rfl, hp, a.hw, TDef.row, TBy.row, h1, C_spec_l1In_eq, hw2, kIa_head (row := TBy.row) (sz := 2) hqr rfl, c1, c2, c3]
  · rintro pre p rest e h a hp ⟨q0, q1, q2, ix⟩
    obtain ⟨q, r, hqr⟩ : ∃ q r, l = q :: r := by cases hll : l with | nil => rw [hll] at a; exact absurd a.mem (by simp) | cons q r => exact ⟨q, r, rfl⟩
    have hh : l.head? = some q := by rw [hqr]; rfl
    cases c1 : inR p.fCol 0 ((v.fCols.length : Int) - 1) <;> cases c2 : decide (0 < (pre.length : Int)) <;> cases c3 : (q.fCol == p.fCol) <;> simp only [hh, Option.map_some, Option.some_beq_some, c1, c2, c3, Bool.true_and, Bool.false_and, Bool.and_true, Bool.and_false, Bool.not_true, Bool.not_false, Bool.false_eq_true, Bool.true_eq_false] at hp
    all_goals simp only [go_sem, kSt_ptr, Nat.reduceBEq, Nat.reduceAdd, Nat.reduceEqDiff, Nat.reduceLeDiff, Nat.reduceSub, reduceIte, Int.reduceBEq, Int.reduceEq, Int.reduceLT, Int.reduceLE, Int.reduceGT, Int.reduceGE, Int.reduceNe, Int.reduceBNe, s_spec_l9Parts_L0, q0, q1, q2, ix, a.dl, a.ia (row := TBy.row) (sz := 2) rfl, hp, a.hw, TDef.row, TBy.row, h1, C_spec_l1In_eq, hw2, kIa_head (row := TBy.row) (sz := 2) hqr rfl, c1, c2, c3]
  · rintro e h ⟨q0, q1, q2, ix⟩
    simp only [go_sem, kSt_ptr, Nat.reduceBEq, Nat.reduceAdd, Nat.reduceEqDiff, Nat.reduceLeDiff, Nat.reduceSub, reduceIte, Int.reduceBEq, Int.reduceEq, Int.reduceLT, Int.reduceLE, Int.reduceGT, Int.reduceGE, Int.reduceNe, Int.reduceBNe, s_spec_l9Parts_L0, q0, q1, q2, ix, TDef.row]
  · simp only [go_sem, kSt_ptr, Nat.reduceBEq, Nat.reduceAdd, Nat.reduceEqDiff, Nat.reduceLeDiff, Nat.reduceSub, reduceIte, Int.reduceBEq, Int.reduceEq, Int.reduceLT, Int.reduceLE, Int.reduceGT, Int.reduceGE, Int.reduceNe, Int.reduceBNe, TDef.row]
  · rintro x e h (⟨hp, rfl, j0, j1, j2⟩ | ⟨hp, rfl, j⟩)
    · simp only [go_sem, kSt_ptr, Nat.reduceBEq, Nat.reduceAdd, Nat.reduceEqDiff, Nat.reduceLeDiff, Nat.reduceSub, reduceIte, Int.reduceBEq, Int.reduceEq, Int.reduceLT, Int.reduceLE, Int.reduceGT, Int.reduceGE, Int.reduceNe, Int.reduceBNe, j0, j1, j2, TDef.row, h1, C_spec_l1In_eq, hp]
    · simp only [go_sem, kSt_ptr, Nat.reduceBEq, Nat.reduceAdd, Nat.reduceEqDiff, Nat.reduceLeDiff, Nat.reduceSub, reduceIte, Int.reduceBEq, Int.reduceEq, Int.reduceLT, Int.reduceLE, Int.reduceGT, Int.reduceGE, Int.reduceNe, Int.reduceBNe, s_spec_l9Parts, j, hp]
end Go.Proofs.YtienjjjhjeigmaaGreatDoor.Is
/- What the functions that FnExactInScan calls answer: part 4. -/
namespace Go.Proofs.YtienjjjhjeigmaaGreatDoor.Is
open Go Go.RowKit Go.Ev
set_option linter.unusedSimpArgs false
set_option linter.unusedVariables false
set_option maxHeartbeats 1600000
noncomputable def C_spec_l9AllParts := c1 tDef (fun (v : TDef) => tDef.cost v ≤ 1048576) (.bool) fun (v : TDef) => defParts v
theorem C_spec_l9AllParts_eq (v : TDef) (h : tDef.cost v ≤ 1048576) : C_spec_l9AllParts [.agg [.str v.fName, .imm (v.fCols.map TCol.row), .imm (v.fPrimary.map TBy.row), .imm (v.fIndexes.map TIndex.row)]] = some (.bool ((defParts v))) := c1_eq tDef h
theorem ok_spec_l9AllParts {WI : World → Prop} (hs : Stable WI) (cs) (hT : TOK (EE cs) WI) (h1 : (EE cs).T 208 = some C_spec_l9Parts) : PureOK Tryz.prog WI 140 C_spec_l9AllParts := by
  refine pure1 (E := EE cs) hT hs (by rw [st_spec_l9AllParts]; rfl) fun v hp => out_wp (n := 0) (st_spec_l9AllParts cs) ?_
  obtain ⟨n1, n2, n3, n4, n5, n6⟩ := defLens hp
  have hv := hp
  have hce : ∀ l : List TBy, l.length ≤ 1048576 → C_spec_l9Parts [.agg [.str v.fName, .imm (v.fCols.map TCol.row), .imm (v.fPrimary.map TBy.row), .imm (v.fIndexes.map TIndex.row)], .imm (l.map TBy.row)] = some (.bool (partsOK v l)) := fun l hl => C_spec_l9Parts_eq v l ⟨hv, hl⟩
  simp only [go_sem, kSt_ptr, Nat.reduceBEq, Nat.reduceAdd, Nat.reduceEqDiff, Nat.reduceLeDiff, Nat.reduceSub, reduceIte, Int.reduceBEq, Int.reduceEq, Int.reduceLT, Int.reduceLE, Int.reduceGT, Int.reduceGE, Int.reduceNe, Int.reduceBNe, s_spec_l9AllParts, TDef.row]
  refine (wl_all (l := v.fIndexes) (fun pre y => partsOK v y.fParts) (fun pre e h => e 1 = .ptr 0 0 ∧ h.hp 0 = some v.row ∧ e 3 = .int .i64 pre.length) (.exit 0) (fun e h => e 1 = .ptr 0 0 ∧ h.hp 0 = some v.row) (fun e h => e 2 = .bool false) (by omega) ?_ ?_ ?_ (by simp) v.fIndexes [] _ _ rfl ?_).mono ?_
  · rintro pre y rest e h a hp ⟨q0, q1, ix⟩
    simp only [go_sem, kSt_ptr, Nat.reduceBEq, Nat.reduceAdd, Nat.reduceEqDiff, Nat.reduceLeDiff, Nat.reduceSub, reduceIte, Int.reduceBEq, Int.reduceEq, Int.reduceLT, Int.reduceLE, Int.reduceGT, Int.reduceGE, Int.reduceNe, Int.reduceBNe, s_spec_l9AllParts_L0, q0, q1, ix, a.dl, a.ia (row := TIndex.row) (sz := 3) rfl, hp, a.hw, TDef.row, TIndex.row, h1, hce y.fParts (n6 y a.mem).2]
  · rintro pre y rest e h a hp ⟨q0, q1, ix⟩
    simp only [go_sem, kSt_ptr, Nat.reduceBEq, Nat.reduceAdd, Nat.reduceEqDiff, Nat.reduceLeDiff, Nat.reduceSub, reduceIte, Int.reduceBEq, Int.reduceEq, Int.reduceLT, Int.reduceLE, Int.reduceGT, Int.reduceGE, Int.reduceNe, Int.reduceBNe, s_spec_l9AllParts_L0, q0, q1, ix, a.dl, a.ia (row := TIndex.row) (sz := 3) rfl, hp, a.hw, TDef.row, TIndex.row, h1, hce y.fParts (n6 y a.mem).2]
  · rintro e h ⟨q0, q1, ix⟩
    simp only [go_sem, kSt_ptr, Nat.reduceBEq, Nat.reduceAdd, Nat.reduceEqDiff, Nat.reduceLeDiff, Nat.reduceSub, reduceIte, Int.reduceBEq, Int.reduceEq, Int.reduceLT, Int.reduceLE, Int.reduceGT, Int.reduceGE, Int.reduceNe, Int.reduceBNe, s_spec_l9AllParts_L0, q0, q1, ix, TDef.row]
  · simp only [go_sem, kSt_ptr, Nat.reduceBEq, Nat.reduceAdd, Nat.reduceEqDiff, Nat.reduceLeDiff, Nat.reduceSub, reduceIte, Int.reduceBEq, Int.reduceEq, Int.reduceLT, Int.reduceLE, Int.reduceGT, Int.reduceGE, Int.reduceNe, Int.reduceBNe, TDef.row]
  · rintro x e h (⟨hp, rfl, j0, j1⟩ | ⟨hp, rfl, j⟩)
    · rw [allP_all] at hp
      simp only [go_sem, kSt_ptr, Nat.reduceBEq, Nat.reduceAdd, Nat.reduceEqDiff, Nat.reduceLeDiff, Nat.reduceSub, reduceIte, Int.reduceBEq, Int.reduceEq, Int.reduceLT, Int.reduceLE, Int.reduceGT, Int.reduceGE, Int.reduceNe, Int.reduceBNe, j0, j1, TDef.row, h1, hce v.fPrimary n3, defParts, hp]
    · rw [allP_all] at hp
      simp only [go_sem, kSt_ptr, Nat.reduceBEq, Nat.reduceAdd, Nat.reduceEqDiff, Nat.reduceLeDiff, Nat.reduceSub, reduceIte, Int.reduceBEq, Int.reduceEq, Int.reduceLT, Int.reduceLE, Int.reduceGT, Int.reduceGE, Int.reduceNe, Int.reduceBNe, s_spec_l9AllParts, j, defParts, hp]
noncomputable def C_spec_CheckDef := c1 tDef (fun (v : TDef) => tDef.cost v ≤ 1048576) ((.int .i64)) fun (v : TDef) => checkDef v
theorem C_spec_CheckDef_eq (v : TDef) (h : tDef.cost v ≤ 1048576) : C_spec_CheckDef [.agg [.str v.fName, .imm (v.fCols.map TCol.row), .imm (v.fPrimary.map TBy.row), .imm (v.fIndexes.map TIndex.row)]] = some (.int .i64 ((checkDef v))) := c1_eq tDef h
theorem ok_spec_CheckDef {WI : World → Prop} (hs : Stable WI) (cs) (hT : TOK (EE cs) WI) (h1 : (EE cs).T 137 = some C_spec_l9Names) (h2 : (EE cs).T 138 = some C_spec_l9Types) (h3 : (EE cs).T 139 = some C_spec_l9Once) (h4 : (EE cs).T 140 = some C_spec_l9AllParts) : PureOK Tryz.prog WI 69 C_spec_CheckDef := by
  refine pure1 (E := EE cs) hT hs (by rw [st_spec_CheckDef]; rfl) fun v hp => out_wp (n := 0) (st_spec_CheckDef cs) ?_
  obtain ⟨n1, n2, n3, n4, n5, n6⟩ := defLens hp
  have c1 : C_spec_l9Names [.agg [.str v.fName, .imm (v.fCols.map TCol.row), .imm (v.fPrimary.map TBy.row), .imm (v.fIndexes.map TIndex.row)]] = some (.bool (defNames v)) := C_spec_l9Names_eq v hp
  have c2 : C_spec_l9Types [.agg [.str v.fName, .imm (v.fCols.map TCol.row), .imm (v.fPrimary.map TBy.row), .imm (v.fIndexes.map TIndex.row)]] = some (.bool (defTypes v)) := C_spec_l9Types_eq v hp
  have c3 : C_spec_l9Once [.agg [.str v.fName, .imm (v.fCols.map TCol.row), .imm (v.fPrimary.map TBy.row), .imm (v.fIndexes.map TIndex.row)]] = some (.bool (defOnce v)) := C_spec_l9Once_eq v hp
  have c4 : C_spec_l9AllParts [.agg [.str v.fName, .imm (v.fCols.map TCol.row), .imm (v.fPrimary.map TBy.row), .imm (v.fIndexes.map TIndex.row)]] = some (.bool (defParts v)) := C_spec_l9AllParts_eq v hp
  cases d1 : defNames v
  · simp only [go_sem, kSt_ptr, Nat.reduceBEq, Nat.reduceAdd, Nat.reduceEqDiff, Nat.reduceLeDiff, Nat.reduceSub, reduceIte, Int.reduceBEq, Int.reduceEq, Int.reduceLT, Int.reduceLE, Int.reduceGT, Int.reduceGE, Int.reduceNe, Int.reduceBNe, s_spec_CheckDef, TDef.row, h1, c1, d1, checkDef]
  cases d2 : defTypes v
  · simp only [go_sem, kSt_ptr, Nat.reduceBEq, Nat.reduceAdd, Nat.reduceEqDiff, Nat.reduceLeDiff, Nat.reduceSub, reduceIte, Int.reduceBEq, Int.reduceEq, Int.reduceLT, Int.reduceLE, Int.reduceGT, Int.reduceGE, Int.reduceNe, Int.reduceBNe, s_spec_CheckDef, TDef.row, h1, c1, d1, h2, c2, d2, checkDef, Bool.true_eq_false]
  cases d3 : defOnce v
  · simp only [go_sem, kSt_ptr, Nat.reduceBEq, Nat.reduceAdd, Nat.reduceEqDiff, Nat.reduceLeDiff, Nat.reduceSub, reduceIte, Int.reduceBEq, Int.reduceEq, Int.reduceLT, Int.reduceLE, Int.reduceGT, Int.reduceGE, Int.reduceNe, Int.reduceBNe, s_spec_CheckDef, TDef.row, h1, c1, d1, h2, c2, d2, h3, c3, d3, checkDef, Bool.true_eq_false]
  by_cases d4 : (2 : Int) < v.fIndexes.length
  · simp only [go_sem, kSt_ptr, Nat.reduceBEq, Nat.reduceAdd, Nat.reduceEqDiff, Nat.reduceLeDiff, Nat.reduceSub, reduceIte, Int.reduceBEq, Int.reduceEq, Int.reduceLT, Int.reduceLE, Int.reduceGT, Int.reduceGE, Int.reduceNe, Int.reduceBNe, s_spec_CheckDef, TDef.row, h1, c1, d1, h2, c2, d2, h3, c3, d3, d4, checkDef, Bool.true_eq_false]
  cases d5 : defParts v
  · simp only [go_sem, kSt_ptr, Nat.reduceBEq, Nat.reduceAdd, Nat.reduceEqDiff, Nat.reduceLeDiff, Nat.reduceSub, reduceIte, Int.reduceBEq, Int.reduceEq, Int.reduceLT, Int.reduceLE, Int.reduceGT, Int.reduceGE, Int.reduceNe, Int.reduceBNe, s_spec_CheckDef, TDef.row, h1, c1, d1, h2, c2, d2, h3, c3, d3, d4, h4, c4, d5, checkDef, Bool.true_eq_false]
  simp only [go_sem, kSt_ptr, Nat.reduceBEq, Nat.reduceAdd, Nat.reduceEqDiff, Nat.reduceLeDiff, Nat.reduceSub, reduceIte, Int.reduceBEq, Int.reduceEq, Int.reduceLT, Int.reduceLE, Int.reduceGT, Int.reduceGE, Int.reduceNe, Int.reduceBNe, s_spec_CheckDef, TDef.row, h1, c1, d1, h2, c2, d2, h3, c3, d3, d4, h4, c4, d5]
  refine (wl_all (l := v.fPrimary) (fun pre p => !(colNull v p.fCol)) (fun pre e h => e 1 = .ptr 0 0 ∧ h.hp 0 = some v.row ∧ e 3 = .int .i64 pre.length) (.exit 1) (fun e h => e 1 = .ptr 0 0 ∧ h.hp 0 = some v.row) (fun e h => e 2 = .int .i64 4) (by omega) ?_ ?_ ?_ (by simp) v.fPrimary [] _ _ rfl ?_).mono ?_
  · rintro pre p rest e h a hp ⟨q0, q1, ix⟩
    obtain ⟨z1, z2⟩ := parts_col (v := v) (l := v.fPrimary) (by unfold defParts at d5; simp only [Bool.and_eq_true] at d5; exact d5.2) p a.mem
    obtain ⟨c, hc⟩ : ∃ c, v.fCols[p.fCol.toNat]? = some c := ⟨_, List.getElem?_eq_getElem z2⟩
    have hq : c.fNull = false := by simpa [colNull, hc] using hp
    simp only [go_sem, kSt_ptr, Nat.reduceBEq, Nat.reduceAdd, Nat.reduceEqDiff, Nat.reduceLeDiff, Nat.reduceSub, reduceIte, Int.reduceBEq, Int.reduceEq, Int.reduceLT, Int.reduceLE, Int.reduceGT, Int.reduceGE, Int.reduceNe, Int.reduceBNe, s_spec_CheckDef_L0, q0, q1, ix, a.dl, a.ia (row := TBy.row) (sz := 2) rfl, hp, a.hw, TDef.row, TBy.row, TCol.row, kIa_nth (row := TCol.row) (sz := 3) z1 hc rfl, hq]
  · rintro pre p rest e h a hp ⟨q0, q1, ix⟩
    obtain ⟨z1, z2⟩ := parts_col (v := v) (l := v.fPrimary) (by unfold defParts at d5; simp only [Bool.and_eq_true] at d5; exact d5.2) p a.mem
    obtain ⟨c, hc⟩ : ∃ c, v.fCols[p.fCol.toNat]? = some c := ⟨_, List.getElem?_eq_getElem z2⟩
    have hq : c.fNull = true := by simpa [colNull, hc] using hp
    simp only [go_sem, kSt_ptr, Nat.reduceBEq, Nat.reduceAdd, Nat.reduceEqDiff, Nat.reduceLeDiff, Nat.reduceSub, reduceIte, Int.reduceBEq, Int.reduceEq, Int.reduceLT, Int.reduceLE, Int.reduceGT, Int.reduceGE, Int.reduceNe, Int.reduceBNe, s_spec_CheckDef_L0, q0, q1, ix, a.dl, a.ia (row := TBy.row) (sz := 2) rfl, hp, a.hw, TDef.row, TBy.row, TCol.row, kIa_nth (row := TCol.row) (sz := 3) z1 hc rfl, hq]
  · rintro e h ⟨q0, q1, ix⟩
    simp only [go_sem, kSt_ptr, Nat.reduceBEq, Nat.reduceAdd, Nat.reduceEqDiff, Nat.reduceLeDiff, Nat.reduceSub, reduceIte, Int.reduceBEq, Int.reduceEq, Int.reduceLT, Int.reduceLE, Int.reduceGT, Int.reduceGE, Int.reduceNe, Int.reduceBNe, s_spec_CheckDef_L0, q0, q1, ix, TDef.row]
  · simp only [go_sem, kSt_ptr, Nat.reduceBEq, Nat.reduceAdd, Nat.reduceEqDiff, Nat.reduceLeDiff, Nat.reduceSub, reduceIte, Int.reduceBEq, Int.reduceEq, Int.reduceLT, Int.reduceLE, Int.reduceGT, Int.reduceGE, Int.reduceNe, Int.reduceBNe, TDef.row]
  · rintro x e h (⟨hp, rfl, j0, j1⟩ | ⟨hp, rfl, j⟩)
    · rw [allP_all] at hp
      simp only [go_sem, kSt_ptr, Nat.reduceBEq, Nat.reduceAdd, Nat.reduceEqDiff, Nat.reduceLeDiff, Nat.reduceSub, reduceIte, Int.reduceBEq, Int.reduceEq, Int.reduceLT, Int.reduceLE, Int.reduceGT, Int.reduceGE, Int.reduceNe, Int.reduceBNe, checkDef, primNull, d1, d2, d3, d4, d5, hp, Bool.true_eq_false]
    · rw [allP_all] at hp
      simp only [go_sem, kSt_ptr, Nat.reduceBEq, Nat.reduceAdd, Nat.reduceEqDiff, Nat.reduceLeDiff, Nat.reduceSub, reduceIte, Int.reduceBEq, Int.reduceEq, Int.reduceLT, Int.reduceLE, Int.reduceGT, Int.reduceGE, Int.reduceNe, Int.reduceBNe, s_spec_CheckDef, j, checkDef, primNull, d1, d2, d3, d4, d5, hp, Bool.true_eq_false]
def firstF (pre : List TDef) (d : TDef) : Option Int := if checkDef d ≠ 0 ∨ (2 : Int) < pre.length ∨ (pre.all fun y => !(y.fName == d.fName)) = false then some (pre.length : Int) else none
def firstBad (s : List TDef) : Int := (earlyL firstF [] s).getD (-1)
theorem firstF_none {pre : List TDef} {d : TDef} (h : firstF pre d = none) : checkDef d = 0 ∧ ¬ (2 : Int) < pre.length ∧ (pre.all fun y => !(y.fName == d.fName)) = true := by
  unfold firstF at h
  split at h
  · cases h
  · rename_i hn
    refine ⟨?_, fun e => hn (.inr (.inl e)), ?_⟩
    · by_cases hc : checkDef d = 0
      · exact hc
      · exact absurd (.inl hc) hn
    · cases hq : pre.all fun y => !(y.fName == d.fName) with
      | true => rfl
      | false => exact absurd (.inr (.inr hq)) hn
theorem firstF_some {pre : List TDef} {d : TDef} {b : Int} (h : firstF pre d = some b) : b = pre.length ∧ ((checkDef d != 0) = false → ¬ (2 : Int) < pre.length → (pre.all fun y => !(y.fName == d.fName)) = false) := by
  unfold firstF at h
  split at h
  · rename_i hc
    simp only [Option.some.injEq] at h
    refine ⟨h.symm, fun h1 h2 => ?_⟩
    have h1' : checkDef d = 0 := by simpa using h1
    rcases hc with hc | hc | hc
    · exact absurd h1' hc
    · exact absurd hc h2
    · exact hc
  · cases h
theorem defsLens {s : List TDef} (h : (sliceT tDef).cost s ≤ 1048576) : s.length ≤ 1048576 ∧ ∀ d ∈ s, tDef.cost d ≤ 1048576 := by
  have h0 : s.length + costL tDef s ≤ 1048576 := h
  exact ⟨by omega, fun d hd => by have := costL_mem tDef hd; omega⟩
theorem early_good : ∀ (l pre : List TDef), earlyL firstF pre l = none → ∀ d ∈ l, checkDef d = 0
  | [], _, _, d, hd => by cases hd
  | x :: l, pre, h, d, hd => by
    simp only [earlyL] at h
    cases hf : firstF pre x with
    | some b => rw [hf] at h; cases h
    | none =>
      rw [hf] at h
      rcases List.mem_cons.1 hd with rfl | hd
      · exact (firstF_none hf).1
      · exact early_good l _ h d hd
theorem early_nonneg : ∀ (l pre : List TDef) (b : Int), earlyL firstF pre l = some b → 0 ≤ b
  | [], _, b, h => by cases h
  | x :: l, pre, b, h => by
    simp only [earlyL] at h
    cases hf : firstF pre x with
    | some c => rw [hf] at h; simp only [Option.some.injEq] at h; subst h; have := (firstF_some hf).1; omega
    | none => rw [hf] at h; exact early_nonneg l _ b h
theorem firstBad_good {s : List TDef} (h : firstBad s = -1) : ∀ d ∈ s, checkDef d = 0 := by
  unfold firstBad at h
  cases he : earlyL firstF [] s with
  | none => exact early_good s [] he
  | some b =>
    rw [he] at h
    simp only [Option.getD_some] at h
    have := early_nonneg s [] b he
    omega
noncomputable def C_spec_FirstBad := c1 (sliceT tDef) (fun (s : List (TDef)) => (sliceT tDef).cost s ≤ 1048576) ((.int .i64)) fun (s : List (TDef)) => firstBad s
theorem C_spec_FirstBad_eq (s : List (TDef)) (h : (sliceT tDef).cost s ≤ 1048576) : C_spec_FirstBad [.imm (s.map TDef.row)] = some (.int .i64 ((firstBad s))) := c1_eq (sliceT tDef) h
theorem ok_spec_FirstBad {WI : World → Prop} (hs : Stable WI) (cs) (hT : TOK (EE cs) WI) (h1 : (EE cs).T 69 = some C_spec_CheckDef) : PureOK Tryz.prog WI 45 C_spec_FirstBad := by
  refine pure1 (E := EE cs) hT hs (by rw [st_spec_FirstBad]; rfl) fun s hp => out_wp (n := 0) (st_spec_FirstBad cs) ?_
  obtain ⟨n1, n2⟩ := defsLens hp
  have inner : ∀ pre c rest, At s pre c rest → ∀ e h, e 0 = .imm (s.map TDef.row) → e 3 = .int .i64 pre.length → e 4 = .int .i64 0 → WL (EE cs) s_spec_FirstBad_L0 e h fun x e' h' => (pre.all (fun y => !(y.fName == c.fName)) = true ∧ x = .exit 2 ∧ e' 0 = .imm (s.map TDef.row) ∧ e' 3 = .int .i64 pre.length) ∨ (pre.all (fun y => !(y.fName == c.fName)) = false ∧ x = .ret ∧ e' 2 = .int .i64 pre.length) := by
    intro pre0 c rest0 a0 e h k0 k3 k4
    refine (wl_all (l := pre0) (fun pre y => !(y.fName == c.fName)) (fun pre e h => e 0 = .imm (s.map TDef.row) ∧ e 3 = .int .i64 pre0.length ∧ e 4 = .int .i64 pre.length) (.exit 2) (fun e h => e 0 = .imm (s.map TDef.row) ∧ e 3 = .int .i64 pre0.length) (fun e h => e 2 = .int .i64 pre0.length) (by have := a0.lt; omega) ?_ ?_ ?_ (by simp) pre0 [] _ _ rfl ?_).mono ?_
    · rintro pre y rest e h a hp ⟨q0, q1, ix⟩
      have hl2 : s = pre ++ y :: (rest ++ c :: rest0) := by rw [a0.hl, a.hl]; simp
      have hq : (y.fName == c.fName) = false := by simpa using hp
      simp only [go_sem, kSt_ptr, Nat.reduceBEq, Nat.reduceAdd, Nat.reduceEqDiff, Nat.reduceLeDiff, Nat.reduceSub, reduceIte, Int.reduceBEq, Int.reduceEq, Int.reduceLT, Int.reduceLE, Int.reduceGT, Int.reduceGE, Int.reduceNe, Int.reduceBNe, s_spec_FirstBad_L0, q0, q1, ix, a.dl, lt_self, hp, a.hw, TDef.row, kIa_map (row := TDef.row) (sz := 4) hl2 rfl, a0.ia (row := TDef.row) (sz := 4) rfl, hq]
    · rintro pre y rest e h a hp ⟨q0, q1, ix⟩
      have hl2 : s = pre ++ y :: (rest ++ c :: rest0) := by rw [a0.hl, a.hl]; simp
      have hq : (y.fName == c.fName) = true := by simpa using hp
      simp only [go_sem, kSt_ptr, Nat.reduceBEq, Nat.reduceAdd, Nat.reduceEqDiff, Nat.reduceLeDiff, Nat.reduceSub, reduceIte, Int.reduceBEq, Int.reduceEq, Int.reduceLT, Int.reduceLE, Int.reduceGT, Int.reduceGE, Int.reduceNe, Int.reduceBNe, s_spec_FirstBad_L0, q0, q1, ix, a.dl, lt_self, hp, a.hw, TDef.row, kIa_map (row := TDef.row) (sz := 4) hl2 rfl, a0.ia (row := TDef.row) (sz := 4) rfl, hq]
    · rintro e h ⟨q0, q1, ix⟩
      simp only [go_sem, kSt_ptr, Nat.reduceBEq, Nat.reduceAdd, Nat.reduceEqDiff, Nat.reduceLeDiff, Nat.reduceSub, reduceIte, Int.reduceBEq, Int.reduceEq, Int.reduceLT, Int.reduceLE, Int.reduceGT, Int.reduceGE, Int.reduceNe, Int.reduceBNe, s_spec_FirstBad_L0, q0, q1, ix]
    · simp only [go_sem, kSt_ptr, Nat.reduceBEq, Nat.reduceAdd, Nat.reduceEqDiff, Nat.reduceLeDiff, Nat.reduceSub, reduceIte, Int.reduceBEq, Int.reduceEq, Int.reduceLT, Int.reduceLE, Int.reduceGT, Int.reduceGE, Int.reduceNe, Int.reduceBNe, k0, k3, k4]
    · rintro x e' h' (⟨hp, rfl, j0, j1⟩ | ⟨hp, rfl, j⟩)
      · rw [allP_all] at hp
        exact .inl ⟨hp, rfl, j0, j1⟩
      · rw [allP_all] at hp
        exact .inr ⟨hp, rfl, j⟩
  simp only [go_sem, kSt_ptr, Nat.reduceBEq, Nat.reduceAdd, Nat.reduceEqDiff, Nat.reduceLeDiff, Nat.reduceSub, reduceIte, Int.reduceBEq, Int.reduceEq, Int.reduceLT, Int.reduceLE, Int.reduceGT, Int.reduceGE, Int.reduceNe, Int.reduceBNe, s_spec_FirstBad]
  refine (wl_early (l := s) (fun pre d => firstF pre d) (fun pre e h => e 0 = .imm (s.map TDef.row) ∧ e 3 = .int .i64 pre.length) (.exit 0) (fun e h => e 0 = .imm (s.map TDef.row)) (fun b e h => e 2 = .int .i64 b) (by omega) ?_ ?_ ?_ (by simp) s [] _ _ rfl ?_).mono ?_
  · rintro pre d rest e h a hp ⟨q0, ix⟩
    have hc : C_spec_CheckDef [.agg [.str d.fName, .imm (d.fCols.map TCol.row), .imm (d.fPrimary.map TBy.row), .imm (d.fIndexes.map TIndex.row)]] = some (.int .i64 (checkDef d)) := C_spec_CheckDef_eq d (n2 d a.mem)
    obtain ⟨f1, f2, f3⟩ := firstF_none hp
    have f2' : decide ((2 : Int) < (pre.length : Int)) = false := decide_eq_false f2
    have f1' : (checkDef d != 0) = false := by simp [f1]
    all_goals simp only [go_sem, kSt_ptr, Nat.reduceBEq, Nat.reduceAdd, Nat.reduceEqDiff, Nat.reduceLeDiff, Nat.reduceSub, reduceIte, Int.reduceBEq, Int.reduceEq, Int.reduceLT, Int.reduceLE, Int.reduceGT, Int.reduceGE, Int.reduceNe, Int.reduceBNe, s_spec_FirstBad_L1, q0, ix, a.dl, a.ia (row := TDef.row) (sz := 4) rfl, hp, a.hw, TDef.row, h1, hc, f1', f2']
    refine (inner pre d rest a _ _ (by simp only [go_sem, kSt_ptr, Nat.reduceBEq, Nat.reduceAdd, Nat.reduceEqDiff, Nat.reduceLeDiff, Nat.reduceSub, reduceIte, Int.reduceBEq, Int.reduceEq, Int.reduceLT, Int.reduceLE, Int.reduceGT, Int.reduceGE, Int.reduceNe, Int.reduceBNe, q0]) (by simp only [go_sem, kSt_ptr, Nat.reduceBEq, Nat.reduceAdd, Nat.reduceEqDiff, Nat.reduceLeDiff, Nat.reduceSub, reduceIte, Int.reduceBEq, Int.reduceEq, Int.reduceLT, Int.reduceLE, Int.reduceGT, Int.reduceGE, Int.reduceNe, Int.reduceBNe, ix]) (by simp only [go_sem, kSt_ptr, Nat.reduceBEq, Nat.reduceAdd, Nat.reduceEqDiff, Nat.reduceLeDiff, Nat.reduceSub, reduceIte, Int.reduceBEq, Int.reduceEq, Int.reduceLT, Int.reduceLE, Int.reduceGT, Int.reduceGE, Int.reduceNe, Int.reduceBNe])).mono ?_
    rintro x e' h' (⟨hq, rfl, k0, k1⟩ | ⟨hq, rfl, k⟩)
    · simp only [go_sem, kSt_ptr, Nat.reduceBEq, Nat.reduceAdd, Nat.reduceEqDiff, Nat.reduceLeDiff, Nat.reduceSub, reduceIte, Int.reduceBEq, Int.reduceEq, Int.reduceLT, Int.reduceLE, Int.reduceGT, Int.reduceGE, Int.reduceNe, Int.reduceBNe, k0, k1, a.hw]
    · rw [f3] at hq; cases hq
  · rintro pre d rest b e h a hp ⟨q0, ix⟩
    have hc : C_spec_CheckDef [.agg [.str d.fName, .imm (d.fCols.map TCol.row), .imm (d.fPrimary.map TBy.row), .imm (d.fIndexes.map TIndex.row)]] = some (.int .i64 (checkDef d)) := C_spec_CheckDef_eq d (n2 d a.mem)
    obtain ⟨rfl, hcase⟩ := firstF_some hp
    cases f1 : (checkDef d != 0) <;> cases f2 : decide ((2 : Int) < (pre.length : Int))
    all_goals simp only [go_sem, kSt_ptr, Nat.reduceBEq, Nat.reduceAdd, Nat.reduceEqDiff, Nat.reduceLeDiff, Nat.reduceSub, reduceIte, Int.reduceBEq, Int.reduceEq, Int.reduceLT, Int.reduceLE, Int.reduceGT, Int.reduceGE, Int.reduceNe, Int.reduceBNe, s_spec_FirstBad_L1, q0, ix, a.dl, a.ia (row := TDef.row) (sz := 4) rfl, hp, a.hw, TDef.row, h1, hc, f1, f2]
    refine (inner pre d rest a _ _ (by simp only [go_sem, kSt_ptr, Nat.reduceBEq, Nat.reduceAdd, Nat.reduceEqDiff, Nat.reduceLeDiff, Nat.reduceSub, reduceIte, Int.reduceBEq, Int.reduceEq, Int.reduceLT, Int.reduceLE, Int.reduceGT, Int.reduceGE, Int.reduceNe, Int.reduceBNe, q0]) (by simp only [go_sem, kSt_ptr, Nat.reduceBEq, Nat.reduceAdd, Nat.reduceEqDiff, Nat.reduceLeDiff, Nat.reduceSub, reduceIte, Int.reduceBEq, Int.reduceEq, Int.reduceLT, Int.reduceLE, Int.reduceGT, Int.reduceGE, Int.reduceNe, Int.reduceBNe, ix]) (by simp only [go_sem, kSt_ptr, Nat.reduceBEq, Nat.reduceAdd, Nat.reduceEqDiff, Nat.reduceLeDiff, Nat.reduceSub, reduceIte, Int.reduceBEq, Int.reduceEq, Int.reduceLT, Int.reduceLE, Int.reduceGT, Int.reduceGE, Int.reduceNe, Int.reduceBNe])).mono ?_
    have hc3 := hcase f1 (of_decide_eq_false f2)
    rintro x e' h' (⟨hq, rfl, k0, k1⟩ | ⟨hq, rfl, k⟩)
    · rw [hc3] at hq; cases hq
    · simp only [go_sem, kSt_ptr, Nat.reduceBEq, Nat.reduceAdd, Nat.reduceEqDiff, Nat.reduceLeDiff, Nat.reduceSub, reduceIte, Int.reduceBEq, Int.reduceEq, Int.reduceLT, Int.reduceLE, Int.reduceGT, Int.reduceGE, Int.reduceNe, Int.reduceBNe, k]
  · rintro e h ⟨q0, ix⟩
    simp only [go_sem, kSt_ptr, Nat.reduceBEq, Nat.reduceAdd, Nat.reduceEqDiff, Nat.reduceLeDiff, Nat.reduceSub, reduceIte, Int.reduceBEq, Int.reduceEq, Int.reduceLT, Int.reduceLE, Int.reduceGT, Int.reduceGE, Int.reduceNe, Int.reduceBNe, s_spec_FirstBad_L1, q0, ix]
  · simp only [go_sem, kSt_ptr, Nat.reduceBEq, Nat.reduceAdd, Nat.reduceEqDiff, Nat.reduceLeDiff, Nat.reduceSub, reduceIte, Int.reduceBEq, Int.reduceEq, Int.reduceLT, Int.reduceLE, Int.reduceGT, Int.reduceGE, Int.reduceNe, Int.reduceBNe, and_self]
  · intro x e h hx
    cases he : earlyL firstF [] s with
    | none =>
      rw [he] at hx
      obtain ⟨rfl, j0⟩ := hx
      simp only [go_sem, kSt_ptr, Nat.reduceBEq, Nat.reduceAdd, Nat.reduceEqDiff, Nat.reduceLeDiff, Nat.reduceSub, reduceIte, Int.reduceBEq, Int.reduceEq, Int.reduceLT, Int.reduceLE, Int.reduceGT, Int.reduceGE, Int.reduceNe, Int.reduceBNe, firstBad, he, Option.getD_none]
    | some k =>
      rw [he] at hx
      obtain ⟨rfl, j⟩ := hx
      simp only [go_sem, kSt_ptr, Nat.reduceBEq, Nat.reduceAdd, Nat.reduceEqDiff, Nat.reduceLeDiff, Nat.reduceSub, reduceIte, Int.reduceBEq, Int.reduceEq, Int.reduceLT, Int.reduceLE, Int.reduceGT, Int.reduceGE, Int.reduceNe, Int.reduceBNe, s_spec_FirstBad, j, firstBad, he]
def there (s : List TDef) (t i : Int) : Bool := firstBad s == -1 && (inR t 0 ((s.length : Int) - 1) && match s[t.toNat]? with | some d => inR i (-1) ((d.fIndexes.length : Int) - 1) | none => false)
theorem inR_lt {t n : Int} (h : inR t 0 (n - 1) = true) : 0 ≤ t ∧ t < n := by
  unfold inR at h
  simp at h
  omega
theorem inR_nat {t : Int} {n : Nat} (h : inR t 0 ((n : Int) - 1) = true) : 0 ≤ t ∧ t.toNat < n := by
  have := inR_lt h
  omega
theorem there_get {s : List TDef} {t i : Int} (h : there s t i = true) : ∃ d, s[t.toNat]? = some d ∧ 0 ≤ t ∧ d ∈ s ∧ checkDef d = 0 ∧ -1 ≤ i ∧ i < d.fIndexes.length := by
  unfold there at h
  simp only [Bool.and_eq_true, beq_iff_eq] at h
  obtain ⟨h1, h2, h3⟩ := h
  obtain ⟨z1, z2⟩ := inR_nat h2
  have hd : s[t.toNat]? = some s[t.toNat] := List.getElem?_eq_getElem z2
  rw [hd] at h3
  have hm := List.mem_of_getElem? hd
  refine ⟨_, hd, z1, hm, firstBad_good h1 _ hm, ?_⟩
  unfold inR at h3
  simp at h3
  omega
end Go.Proofs.YtienjjjhjeigmaaGreatDoor.Is
/- What the functions that FnExactInScan calls answer: part 5. -/
namespace Go.Proofs.YtienjjjhjeigmaaGreatDoor.Is
open Go Go.RowKit Go.Ev
set_option linter.unusedSimpArgs false
set_option linter.unusedVariables false
set_option maxHeartbeats 1600000
noncomputable def C_spec_l11There := c3 (sliceT tDef) intT intT (fun (s : List (TDef)) (t : Int) (i : Int) => (sliceT tDef).cost s ≤ 1048576) (.bool) fun (s : List (TDef)) (t : Int) (i : Int) => there s t i
theorem C_spec_l11There_eq (s : List (TDef)) (t : Int) (i : Int) (h : (sliceT tDef).cost s ≤ 1048576) : C_spec_l11There [.imm (s.map TDef.row), .int .i64 t, .int .i64 i] = some (.bool ((there s t i))) := c3_eq (sliceT tDef) intT intT h
theorem ok_spec_l11There {WI : World → Prop} (hs : Stable WI) (cs) (hT : TOK (EE cs) WI) (h1 : (EE cs).T 45 = some C_spec_FirstBad) (h2 : (EE cs).T 65 = some C_spec_l1In) : PureOK Tryz.prog WI 64 C_spec_l11There := by
  refine pure3 (E := EE cs) hT hs (by rw [st_spec_l11There]; rfl) fun s t i hp => out_wp (n := 0) (st_spec_l11There cs) ?_
  obtain ⟨n1, n2⟩ := defsLens hp
  have c1 := C_spec_FirstBad_eq s hp
  have hw : IntKind.wrap .i64 ((s.length : Int) - 1) = (s.length : Int) - 1 := wrapId (by omega) (by omega)
  cases d1 : (firstBad s == -1)
  · simp only [go_sem, kSt_ptr, Nat.reduceBEq, Nat.reduceAdd, Nat.reduceEqDiff, Nat.reduceLeDiff, Nat.reduceSub, reduceIte, Int.reduceBEq, Int.reduceEq, Int.reduceLT, Int.reduceLE, Int.reduceGT, Int.reduceGE, Int.reduceNe, Int.reduceBNe, s_spec_l11There, h1, c1, d1, there]
  cases d2 : inR t 0 ((s.length : Int) - 1)
  · simp only [go_sem, kSt_ptr, Nat.reduceBEq, Nat.reduceAdd, Nat.reduceEqDiff, Nat.reduceLeDiff, Nat.reduceSub, reduceIte, Int.reduceBEq, Int.reduceEq, Int.reduceLT, Int.reduceLE, Int.reduceGT, Int.reduceGE, Int.reduceNe, Int.reduceBNe, s_spec_l11There, h1, c1, d1, h2, C_spec_l1In_eq, hw, d2, there]
  obtain ⟨z1, z2⟩ := inR_nat d2
  obtain ⟨d, hd⟩ : ∃ d, s[t.toNat]? = some d := ⟨_, List.getElem?_eq_getElem z2⟩
  have n3 := (defLens (n2 d (List.mem_of_getElem? hd))).2.2.2.1
  have hw2 : IntKind.wrap .i64 ((d.fIndexes.length : Int) - 1) = (d.fIndexes.length : Int) - 1 := wrapId (by omega) (by omega)
  simp only [go_sem, kSt_ptr, Nat.reduceBEq, Nat.reduceAdd, Nat.reduceEqDiff, Nat.reduceLeDiff, Nat.reduceSub, reduceIte, Int.reduceBEq, Int.reduceEq, Int.reduceLT, Int.reduceLE, Int.reduceGT, Int.reduceGE, Int.reduceNe, Int.reduceBNe, s_spec_l11There, h1, c1, d1, h2, C_spec_l1In_eq, hw, d2, kIa_nth (row := TDef.row) (sz := 4) z1 hd rfl, TDef.row, hw2, there, hd]
def partOf (v : TDef) (k : Int) (desc : Bool) : TPart := match v.fCols[k.toNat]? with
  | some c => ⟨k, c.fType, c.fNull, desc⟩
  | none => ⟨0, 0, false, false⟩
def partsOf (v : TDef) (l : List TBy) : List TPart := l.map fun p => partOf v p.fCol p.fDesc
def primPlan (v : TDef) : List TPart := if checkDef v = 0 then partsOf v v.fPrimary else []
def idxPlan (v : TDef) (i : Int) : List TPart := if checkDef v = 0 then (if inR i 0 ((v.fIndexes.length : Int) - 1) then (match v.fIndexes[i.toNat]? with | some x => partsOf v x.fParts ++ partsOf v v.fPrimary | none => []) else []) else []
def planOf (v : TDef) (i : Int) : List TPart := if i = -1 then primPlan v else idxPlan v i
theorem parts_len {v : TDef} {l : List TBy} (h : partsOK v l = true) : l.length ≤ 2 := by
  unfold partsOK inR at h
  simp at h
  omega
theorem check_parts {v : TDef} (h : checkDef v = 0) : partsOK v v.fPrimary = true ∧ ∀ x ∈ v.fIndexes, partsOK v x.fParts = true := by
  have h5 := (def_good h).2.2.2.2.1
  unfold defParts at h5
  simp only [Bool.and_eq_true, List.all_eq_true] at h5
  exact ⟨h5.2, h5.1⟩
theorem partsOf_len (v : TDef) (l : List TBy) : (partsOf v l).length = l.length := by simp [partsOf]
theorem primPlan_len (v : TDef) : (primPlan v).length ≤ 2 := by
  unfold primPlan
  split
  · rename_i h
    rw [partsOf_len]
    exact parts_len (check_parts h).1
  · simp
theorem idxPlan_len (v : TDef) (i : Int) : (idxPlan v i).length ≤ 4 := by
  unfold idxPlan
  split
  · rename_i h
    split
    · split
      · rename_i x hx
        rw [List.length_append, partsOf_len, partsOf_len]
        have h1 := parts_len (check_parts h).1
        have h2 := parts_len ((check_parts h).2 x (List.mem_of_getElem? hx))
        omega
      · simp
    · simp
  · simp
theorem planOf_len (v : TDef) (i : Int) : (planOf v i).length ≤ 4 := by
  unfold planOf
  split
  · have := primPlan_len v; omega
  · exact idxPlan_len v i
theorem cols_get {v : TDef} {l : List TBy} (h : partsOK v l = true) {p : TBy} (hp : p ∈ l) : 0 ≤ p.fCol ∧ ∃ c, v.fCols[p.fCol.toNat]? = some c := by
  obtain ⟨z1, z2⟩ := parts_col h p hp
  exact ⟨z1, _, List.getElem?_eq_getElem z2⟩
theorem partFill (a b : Int) (c d : Bool) : sFill [.int .i64 0, .int .i64 0, .bool false, .bool false] [(0, 1, .int .i64 a), (1, 1, .int .i64 b), (2, 1, .bool c), (3, 1, .bool d)] = some [.int .i64 a, .int .i64 b, .bool c, .bool d] := rfl
theorem partFillR (v : TPart) : fillR (List.replicate 1 [.int .i64 0, .int .i64 0, .bool false, .bool false]) 4 [(0, .agg v.row)] = some [v.row] := rfl
theorem partFrz (v : TPart) : frzRows [v.row] = some [v.row] := rfl
theorem parts_app {v : TDef} {pre : List TBy} {p : TBy} {id id' : Nat} {H : Hp} (hH : H.ap id = some (pre.length, 4)) (hl : pre.length ≤ 1048576) : sApp false 24 4 (.app id ((partsOf v pre).map TPart.row)) (.app id' [(partOf v p.fCol p.fDesc).row]) H = some (.app id ((partsOf v (pre ++ [p])).map TPart.row), H.setApp id (pre.length + 1) 4) := by
  have := sApp_app (bt := 24) (sz := 4) (id := id) (id' := id') (rows := (partsOf v pre).map TPart.row) (row := (partOf v p.fCol p.fDesc).row) (row' := (partOf v p.fCol p.fDesc).row) (h := H) (by rw [List.length_map, partsOf_len]; exact hH) rfl rfl (by rw [List.length_map, partsOf_len]; unfold room; omega)
  rw [List.length_map, partsOf_len] at this
  rw [this]
  simp [partsOf]
theorem plan_app {v : TDef} {a b : List TBy} {id id' : Nat} {H : Hp} (ha : partsOK v a = true) (hb : partsOK v b = true) (hH : H.ap id = some ((partsOf v a).length, 4)) : sApp false 24 4 (.app id ((partsOf v a).map TPart.row)) (.app id' ((partsOf v b).map TPart.row)) H = some (.app id ((partsOf v a ++ partsOf v b).map TPart.row), H.setApp id ((partsOf v a).length + (partsOf v b).length) 4) := by
  have l1 := parts_len ha
  have l2 := parts_len hb
  exact kApp_rows tPart (partsOf v a) (partsOf v b) rfl hH (by rw [partsOf_len, partsOf_len]; unfold room; omega)
noncomputable def C_spec_l11Part := c3 tDef intT boolT (fun (v : TDef) (k : Int) (desc : Bool) => 0 ≤ k ∧ k.toNat < v.fCols.length) (fun x => .agg (x).row) fun (v : TDef) (k : Int) (desc : Bool) => partOf v k desc
theorem C_spec_l11Part_eq (v : TDef) (k : Int) (desc : Bool) (h : 0 ≤ k ∧ k.toNat < v.fCols.length) : C_spec_l11Part [.agg [.str v.fName, .imm (v.fCols.map TCol.row), .imm (v.fPrimary.map TBy.row), .imm (v.fIndexes.map TIndex.row)], .int .i64 k, .bool desc] = some (.agg (((partOf v k desc))).row) := c3_eq tDef intT boolT h
theorem ok_spec_l11Part {WI : World → Prop} (hs : Stable WI) (cs) (hT : TOK (EE cs) WI) : PureOK Tryz.prog WI 70 C_spec_l11Part := by
  refine pure3 (E := EE cs) hT hs (by rw [st_spec_l11Part]; rfl) fun v k desc hp => out_wp (n := 0) (st_spec_l11Part cs) ?_
  obtain ⟨z1, z2⟩ := hp
  obtain ⟨c, hc⟩ : ∃ c, v.fCols[k.toNat]? = some c := ⟨_, List.getElem?_eq_getElem z2⟩
  simp only [go_sem, kSt_ptr, Nat.reduceBEq, Nat.reduceAdd, Nat.reduceEqDiff, Nat.reduceLeDiff, Nat.reduceSub, reduceIte, Int.reduceBEq, Int.reduceEq, Int.reduceLT, Int.reduceLE, Int.reduceGT, Int.reduceGE, Int.reduceNe, Int.reduceBNe, s_spec_l11Part, TDef.row, kIa_nth (row := TCol.row) (sz := 3) z1 hc rfl, TCol.row, partFill, partOf, hc, TPart.row]
noncomputable def C_spec_l11Parts := c2 tDef (sliceT tBy) (fun (v : TDef) (l : List (TBy)) => partsOK v l = true) (fun x => .app 4 (x.map TPart.row)) fun (v : TDef) (l : List (TBy)) => partsOf v l
theorem C_spec_l11Parts_eq (v : TDef) (l : List (TBy)) (h : partsOK v l = true) : C_spec_l11Parts [.agg [.str v.fName, .imm (v.fCols.map TCol.row), .imm (v.fPrimary.map TBy.row), .imm (v.fIndexes.map TIndex.row)], .imm (l.map TBy.row)] = some (.app 4 ((partsOf v l).map TPart.row)) := c2_eq tDef (sliceT tBy) h
theorem ok_spec_l11Parts {WI : World → Prop} (hs : Stable WI) (cs) (hT : TOK (EE cs) WI) (h1 : (EE cs).T 70 = some C_spec_l11Part) : FreshOK Tryz.prog WI 204 C_spec_l11Parts := by
  refine pure2F (E := EE cs) hT hs (by rw [st_spec_l11Parts]; rfl) fun v l hp => outF_wp (sz := 0) (st_spec_l11Parts cs) ?_
  have hl := hp
  have hl2 := parts_len hl
  simp only [go_sem, kSt_ptr, Nat.reduceBEq, Nat.reduceAdd, Nat.reduceEqDiff, Nat.reduceLeDiff, Nat.reduceSub, reduceIte, Int.reduceBEq, Int.reduceEq, Int.reduceLT, Int.reduceLE, Int.reduceGT, Int.reduceGE, Int.reduceNe, Int.reduceBNe, s_spec_l11Parts, TDef.row, fillR, List.replicate, frzRows]
  refine (wl_for (l := l) (fun pre e h => e 2 = .ptr 0 0 ∧ h.hp 0 = some v.row ∧ e 1 = .imm (l.map TBy.row) ∧ (∃ id, e 5 = .app id ((partsOf v pre).map TPart.row) ∧ h.ap id = some (pre.length, 4) ∧ id < h.nx) ∧ e 6 = .int .i64 pre.length) (.exit 0) (fun e h => ∃ id, e 5 = .app id ((partsOf v l).map TPart.row) ∧ h.ap id = some (l.length, 4)) (by omega) ?_ ?_ (by simp) l [] _ _ rfl ?_).mono ?_
  · rintro pre p rest e h a ⟨q0, q1, q2, q3, ix⟩
    obtain ⟨id, q3, q4, q5⟩ := q3
    obtain ⟨z1, c, hc⟩ := cols_get hl a.mem
    have hpt : C_spec_l11Part [.agg [.str v.fName, .imm (v.fCols.map TCol.row), .imm (v.fPrimary.map TBy.row), .imm (v.fIndexes.map TIndex.row)], .int .i64 p.fCol, .bool p.fDesc] = some (.agg (partOf v p.fCol p.fDesc).row) := C_spec_l11Part_eq v p.fCol p.fDesc ⟨z1, (List.getElem?_eq_some_iff.1 hc).1⟩
    have ap : ∀ id' (H : Hp), H.ap id = some (pre.length, 4) → sApp false 24 4 (.app id ((partsOf v pre).map TPart.row)) (.app id' [(partOf v p.fCol p.fDesc).row]) H = some (.app id ((partsOf v (pre ++ [p])).map TPart.row), H.setApp id (pre.length + 1) 4) := fun id' H hH => parts_app hH (by have := a.lt; omega)
    have hne : ¬ id = h.nx := by omega
    simp only [go_sem, kSt_ptr, Nat.reduceBEq, Nat.reduceAdd, Nat.reduceEqDiff, Nat.reduceLeDiff, Nat.reduceSub, reduceIte, Int.reduceBEq, Int.reduceEq, Int.reduceLT, Int.reduceLE, Int.reduceGT, Int.reduceGE, Int.reduceNe, Int.reduceBNe, s_spec_l11Parts_L0, q0, q1, q2, q3, ix, a.dl, a.ia (row := TBy.row) (sz := 2) rfl, a.hw, TDef.row, TBy.row, h1, hpt, partFillR, partFrz, ap, q4, hne]
    exact ⟨id, rfl, by simp, by first | omega | (simp; omega)⟩
  · rintro e h ⟨q0, q1, q2, q3, ix⟩
    simp only [go_sem, kSt_ptr, Nat.reduceBEq, Nat.reduceAdd, Nat.reduceEqDiff, Nat.reduceLeDiff, Nat.reduceSub, reduceIte, Int.reduceBEq, Int.reduceEq, Int.reduceLT, Int.reduceLE, Int.reduceGT, Int.reduceGE, Int.reduceNe, Int.reduceBNe, s_spec_l11Parts_L0, q0, q1, q2, q3, ix, TDef.row]
    exact ⟨_, q3.choose_spec.1, q3.choose_spec.2.1⟩
  · exact ⟨rfl, rfl, rfl, ⟨1, rfl, rfl, Nat.lt_succ_self 1⟩, rfl⟩
  · rintro x e h ⟨rfl, id, j, j1⟩
    simp only [go_sem, kSt_ptr, Nat.reduceBEq, Nat.reduceAdd, Nat.reduceEqDiff, Nat.reduceLeDiff, Nat.reduceSub, reduceIte, Int.reduceBEq, Int.reduceEq, Int.reduceLT, Int.reduceLE, Int.reduceGT, Int.reduceGE, Int.reduceNe, Int.reduceBNe, j]
    exact frR_app (by rw [List.length_map, partsOf_len]; exact j1)
noncomputable def C_spec_PrimaryPlan := c1 tDef (fun (v : TDef) => tDef.cost v ≤ 1048576) (fun x => .imm (x.map TPart.row)) fun (v : TDef) => primPlan v
theorem C_spec_PrimaryPlan_eq (v : TDef) (h : tDef.cost v ≤ 1048576) : C_spec_PrimaryPlan [.agg [.str v.fName, .imm (v.fCols.map TCol.row), .imm (v.fPrimary.map TBy.row), .imm (v.fIndexes.map TIndex.row)]] = some (.imm (((primPlan v)).map TPart.row)) := c1_eq tDef h
theorem ok_spec_PrimaryPlan {WI : World → Prop} (hs : Stable WI) (cs) (hT : TOK (EE cs) WI) (h1 : (EE cs).T 69 = some C_spec_CheckDef) (h2 : (EE cs).T 204 = some C_spec_l11Parts) : PureOK Tryz.prog WI 133 C_spec_PrimaryPlan := by
  refine pure1 (E := EE cs) hT hs (by rw [st_spec_PrimaryPlan]; rfl) fun v hp => out_wp (n := 0) (st_spec_PrimaryPlan cs) ?_
  have fr_h2 : (EE cs).fr 204 = true := rfl
  have c1 : C_spec_CheckDef [.agg [.str v.fName, .imm (v.fCols.map TCol.row), .imm (v.fPrimary.map TBy.row), .imm (v.fIndexes.map TIndex.row)]] = some (.int .i64 (checkDef v)) := C_spec_CheckDef_eq v hp
  by_cases d : checkDef v = 0
  · have c2 : C_spec_l11Parts [.agg [.str v.fName, .imm (v.fCols.map TCol.row), .imm (v.fPrimary.map TBy.row), .imm (v.fIndexes.map TIndex.row)], .imm (v.fPrimary.map TBy.row)] = some (.app 4 ((partsOf v v.fPrimary).map TPart.row)) := C_spec_l11Parts_eq v v.fPrimary (check_parts d).1
    simp only [go_sem, kSt_ptr, Nat.reduceBEq, Nat.reduceAdd, Nat.reduceEqDiff, Nat.reduceLeDiff, Nat.reduceSub, reduceIte, Int.reduceBEq, Int.reduceEq, Int.reduceLT, Int.reduceLE, Int.reduceGT, Int.reduceGE, Int.reduceNe, Int.reduceBNe, s_spec_PrimaryPlan, TDef.row, h1, c1, h2, c2, fr_h2, primPlan, d]
  · simp only [go_sem, kSt_ptr, Nat.reduceBEq, Nat.reduceAdd, Nat.reduceEqDiff, Nat.reduceLeDiff, Nat.reduceSub, reduceIte, Int.reduceBEq, Int.reduceEq, Int.reduceLT, Int.reduceLE, Int.reduceGT, Int.reduceGE, Int.reduceNe, Int.reduceBNe, s_spec_PrimaryPlan, TDef.row, h1, c1, bneT d, primPlan, d, fillR, List.replicate, frzRows]
noncomputable def C_spec_IndexPlan := c2 tDef intT (fun (v : TDef) (i : Int) => tDef.cost v ≤ 1048576) (fun x => .imm (x.map TPart.row)) fun (v : TDef) (i : Int) => idxPlan v i
theorem C_spec_IndexPlan_eq (v : TDef) (i : Int) (h : tDef.cost v ≤ 1048576) : C_spec_IndexPlan [.agg [.str v.fName, .imm (v.fCols.map TCol.row), .imm (v.fPrimary.map TBy.row), .imm (v.fIndexes.map TIndex.row)], .int .i64 i] = some (.imm (((idxPlan v i)).map TPart.row)) := c2_eq tDef intT h
theorem ok_spec_IndexPlan {WI : World → Prop} (hs : Stable WI) (cs) (hT : TOK (EE cs) WI) (h1 : (EE cs).T 69 = some C_spec_CheckDef) (h3 : (EE cs).T 65 = some C_spec_l1In) (h2 : (EE cs).T 204 = some C_spec_l11Parts) : PureOK Tryz.prog WI 134 C_spec_IndexPlan := by
  refine pure2 (E := EE cs) hT hs (by rw [st_spec_IndexPlan]; rfl) fun v i hp => out_wp (n := 0) (st_spec_IndexPlan cs) ?_
  have fr_h2 : (EE cs).fr 204 = true := rfl
  have c1 : C_spec_CheckDef [.agg [.str v.fName, .imm (v.fCols.map TCol.row), .imm (v.fPrimary.map TBy.row), .imm (v.fIndexes.map TIndex.row)]] = some (.int .i64 (checkDef v)) := C_spec_CheckDef_eq v hp
  have n3 := (defLens hp).2.2.2.1
  have hw : IntKind.wrap .i64 ((v.fIndexes.length : Int) - 1) = (v.fIndexes.length : Int) - 1 := wrapId (by omega) (by omega)
  by_cases d : checkDef v = 0
  · cases d2 : inR i 0 ((v.fIndexes.length : Int) - 1)
    · simp only [go_sem, kSt_ptr, Nat.reduceBEq, Nat.reduceAdd, Nat.reduceEqDiff, Nat.reduceLeDiff, Nat.reduceSub, reduceIte, Int.reduceBEq, Int.reduceEq, Int.reduceLT, Int.reduceLE, Int.reduceGT, Int.reduceGE, Int.reduceNe, Int.reduceBNe, s_spec_IndexPlan, TDef.row, h1, c1, h3, C_spec_l1In_eq, hw, d2, idxPlan, d, fillR, List.replicate, frzRows]
    · obtain ⟨z1, z2⟩ := inR_nat d2
      obtain ⟨x, hx⟩ : ∃ x, v.fIndexes[i.toNat]? = some x := ⟨_, List.getElem?_eq_getElem z2⟩
      have hxp := (check_parts d).2 x (List.mem_of_getElem? hx)
      have c2 : ∀ l, partsOK v l = true → C_spec_l11Parts [.agg [.str v.fName, .imm (v.fCols.map TCol.row), .imm (v.fPrimary.map TBy.row), .imm (v.fIndexes.map TIndex.row)], .imm (l.map TBy.row)] = some (.app 4 ((partsOf v l).map TPart.row)) := fun l hl => C_spec_l11Parts_eq v l hl
      have ap := fun id id' H hH => plan_app (id := id) (id' := id') (H := H) hxp (check_parts d).1 hH
      simp only [go_sem, kSt_ptr, Nat.reduceBEq, Nat.reduceAdd, Nat.reduceEqDiff, Nat.reduceLeDiff, Nat.reduceSub, reduceIte, Int.reduceBEq, Int.reduceEq, Int.reduceLT, Int.reduceLE, Int.reduceGT, Int.reduceGE, Int.reduceNe, Int.reduceBNe, s_spec_IndexPlan, TDef.row, h1, c1, h3, C_spec_l1In_eq, hw, d2, kIa_nth (row := TIndex.row) (sz := 3) z1 hx rfl, TIndex.row, h2, c2 x.fParts hxp, c2 v.fPrimary (check_parts d).1, fr_h2, ap, idxPlan, d, hx]
  · simp only [go_sem, kSt_ptr, Nat.reduceBEq, Nat.reduceAdd, Nat.reduceEqDiff, Nat.reduceLeDiff, Nat.reduceSub, reduceIte, Int.reduceBEq, Int.reduceEq, Int.reduceLT, Int.reduceLE, Int.reduceGT, Int.reduceGE, Int.reduceNe, Int.reduceBNe, s_spec_IndexPlan, TDef.row, h1, c1, bneT d, idxPlan, d, fillR, List.replicate, frzRows]
noncomputable def C_spec_l11Plan := c2 tDef intT (fun (v : TDef) (i : Int) => tDef.cost v ≤ 1048576) (fun x => .imm (x.map TPart.row)) fun (v : TDef) (i : Int) => planOf v i
theorem C_spec_l11Plan_eq (v : TDef) (i : Int) (h : tDef.cost v ≤ 1048576) : C_spec_l11Plan [.agg [.str v.fName, .imm (v.fCols.map TCol.row), .imm (v.fPrimary.map TBy.row), .imm (v.fIndexes.map TIndex.row)], .int .i64 i] = some (.imm (((planOf v i)).map TPart.row)) := c2_eq tDef intT h
theorem ok_spec_l11Plan {WI : World → Prop} (hs : Stable WI) (cs) (hT : TOK (EE cs) WI) (h1 : (EE cs).T 133 = some C_spec_PrimaryPlan) (h2 : (EE cs).T 134 = some C_spec_IndexPlan) : PureOK Tryz.prog WI 66 C_spec_l11Plan := by
  refine pure2 (E := EE cs) hT hs (by rw [st_spec_l11Plan]; rfl) fun v i hp => out_wp (n := 0) (st_spec_l11Plan cs) ?_
  have c1 : C_spec_PrimaryPlan [.agg [.str v.fName, .imm (v.fCols.map TCol.row), .imm (v.fPrimary.map TBy.row), .imm (v.fIndexes.map TIndex.row)]] = some (.imm ((primPlan v).map TPart.row)) := C_spec_PrimaryPlan_eq v hp
  have c2 : C_spec_IndexPlan [.agg [.str v.fName, .imm (v.fCols.map TCol.row), .imm (v.fPrimary.map TBy.row), .imm (v.fIndexes.map TIndex.row)], .int .i64 i] = some (.imm ((idxPlan v i).map TPart.row)) := C_spec_IndexPlan_eq v i hp
  by_cases d : i = -1
  · subst d
    simp only [go_sem, kSt_ptr, Nat.reduceBEq, Nat.reduceAdd, Nat.reduceEqDiff, Nat.reduceLeDiff, Nat.reduceSub, reduceIte, Int.reduceBEq, Int.reduceEq, Int.reduceLT, Int.reduceLE, Int.reduceGT, Int.reduceGE, Int.reduceNe, Int.reduceBNe, s_spec_l11Plan, TDef.row, h1, c1, planOf]
  · simp only [go_sem, kSt_ptr, Nat.reduceBEq, Nat.reduceAdd, Nat.reduceEqDiff, Nat.reduceLeDiff, Nat.reduceSub, reduceIte, Int.reduceBEq, Int.reduceEq, Int.reduceLT, Int.reduceLE, Int.reduceGT, Int.reduceGE, Int.reduceNe, Int.reduceBNe, s_spec_l11Plan, TDef.row, beqF d, h2, c2, planOf, d]
end Go.Proofs.YtienjjjhjeigmaaGreatDoor.Is
