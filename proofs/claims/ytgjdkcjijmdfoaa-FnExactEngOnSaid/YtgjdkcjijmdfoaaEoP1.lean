/- What the functions that FnExactEngOn calls answer, for every argument within the law's bounds: part 1. -/
import Derived.Test.YtgjdkcjijmdfoaaEoEvC
import Derived.Test.YtgjdkcjijmdfoaaProg
import Derived.Lib.AtoiAllCases
import Derived.Lib.ItoaLen
import Derived.Lib.ItoaMem
import Derived.Lib.ItoaNum
set_option linter.unusedVariables false
set_option linter.unusedSimpArgs false
set_option linter.unnecessarySimpa false
/- The resolved code of what FnExactEngOn calls. -/
namespace Go.Proofs.Ytgjdkcjijmdfoaa.Eo
open Go Go.RowKit Go.Ev
set_option linter.unusedSimpArgs false
set_option linter.unusedVariables false
set_option maxHeartbeats 1600000
def s_laws_szCol : SFn := ⟨13, .seq (.rg [⟨some 2, none, .box (.t 0)⟩,
  ⟨some 4, none, .mv (.c (.int .i64 0))⟩]) (.seq (.rg [⟨some 5, none, .mv (.t 1)⟩,
  ⟨some 6, none, .fa 0 (.t 2)⟩,
  ⟨some 7, none, .ld (.t 6)⟩,
  ⟨some 8, none, .lenS (.t 7)⟩,
  ⟨some 9, none, .bin .sub (.t 5) (.t 8)⟩,
  ⟨some 1, none, .mv (.t 9)⟩]) (.seq (.seq (.rg [⟨some 10, none, .mv (.t 1)⟩,
  ⟨some 11, none, .bin .lss (.t 10) (.c (.int .i64 0))⟩]) (.cond (.t 11) (.seq (.rg [⟨some 4, none, .mv (.c (.int .i64 (-1)))⟩]) (.ret)) (.skip))) (.seq (.rg [⟨some 12, none, .mv (.t 1)⟩,
  ⟨some 4, none, .mv (.t 12)⟩]) (.ret)))), [.t 4]⟩
def s_laws_szIndex : SFn := ⟨19, .seq (.rg [⟨some 2, none, .box (.t 0)⟩,
  ⟨some 4, none, .mv (.c (.int .i64 0))⟩]) (.seq (.rg [⟨some 5, none, .mv (.t 1)⟩,
  ⟨some 6, none, .fa 0 (.t 2)⟩,
  ⟨some 7, none, .ld (.t 6)⟩,
  ⟨some 8, none, .lenS (.t 7)⟩,
  ⟨some 9, none, .bin .sub (.t 5) (.t 8)⟩,
  ⟨some 1, none, .mv (.t 9)⟩]) (.seq (.seq (.rg [⟨some 10, none, .mv (.t 1)⟩,
  ⟨some 11, none, .bin .lss (.t 10) (.c (.int .i64 0))⟩]) (.cond (.t 11) (.seq (.rg [⟨some 4, none, .mv (.c (.int .i64 (-1)))⟩]) (.ret)) (.skip))) (.seq (.rg [⟨some 12, none, .fa 2 (.t 2)⟩,
  ⟨some 13, none, .ld (.t 12)⟩,
  ⟨some 14, none, .mv (.t 1)⟩,
  ⟨some 15, none, .callP 55 [.t 13, .t 14]⟩,
  ⟨some 1, none, .mv (.t 15)⟩]) (.seq (.seq (.rg [⟨some 16, none, .mv (.t 1)⟩,
  ⟨some 17, none, .bin .lss (.t 16) (.c (.int .i64 0))⟩]) (.cond (.t 17) (.seq (.rg [⟨some 4, none, .mv (.c (.int .i64 (-1)))⟩]) (.ret)) (.skip))) (.seq (.rg [⟨some 18, none, .mv (.t 1)⟩,
  ⟨some 4, none, .mv (.t 18)⟩]) (.ret)))))), [.t 4]⟩
def s_laws_szDef : SFn := ⟨31, .seq (.rg [⟨some 2, none, .box (.t 0)⟩,
  ⟨some 4, none, .mv (.c (.int .i64 0))⟩]) (.seq (.rg [⟨some 5, none, .mv (.t 1)⟩,
  ⟨some 6, none, .fa 0 (.t 2)⟩,
  ⟨some 7, none, .ld (.t 6)⟩,
  ⟨some 8, none, .lenS (.t 7)⟩,
  ⟨some 9, none, .bin .sub (.t 5) (.t 8)⟩,
  ⟨some 1, none, .mv (.t 9)⟩]) (.seq (.seq (.rg [⟨some 10, none, .mv (.t 1)⟩,
  ⟨some 11, none, .bin .lss (.t 10) (.c (.int .i64 0))⟩]) (.cond (.t 11) (.seq (.rg [⟨some 4, none, .mv (.c (.int .i64 (-1)))⟩]) (.ret)) (.skip))) (.seq (.rg [⟨some 12, none, .fa 1 (.t 2)⟩,
  ⟨some 13, none, .ld (.t 12)⟩,
  ⟨some 14, none, .mv (.t 1)⟩,
  ⟨some 15, none, .callP 54 [.t 13, .t 14]⟩,
  ⟨some 1, none, .mv (.t 15)⟩]) (.seq (.seq (.rg [⟨some 16, none, .mv (.t 1)⟩,
  ⟨some 17, none, .bin .lss (.t 16) (.c (.int .i64 0))⟩]) (.cond (.t 17) (.seq (.rg [⟨some 4, none, .mv (.c (.int .i64 (-1)))⟩]) (.ret)) (.skip))) (.seq (.rg [⟨some 18, none, .fa 2 (.t 2)⟩,
  ⟨some 19, none, .ld (.t 18)⟩,
  ⟨some 20, none, .mv (.t 1)⟩,
  ⟨some 21, none, .callP 55 [.t 19, .t 20]⟩,
  ⟨some 1, none, .mv (.t 21)⟩]) (.seq (.seq (.rg [⟨some 22, none, .mv (.t 1)⟩,
  ⟨some 23, none, .bin .lss (.t 22) (.c (.int .i64 0))⟩]) (.cond (.t 23) (.seq (.rg [⟨some 4, none, .mv (.c (.int .i64 (-1)))⟩]) (.ret)) (.skip))) (.seq (.rg [⟨some 24, none, .fa 3 (.t 2)⟩,
  ⟨some 25, none, .ld (.t 24)⟩,
  ⟨some 26, none, .mv (.t 1)⟩,
  ⟨some 27, none, .callP 56 [.t 25, .t 26]⟩,
  ⟨some 1, none, .mv (.t 27)⟩]) (.seq (.seq (.rg [⟨some 28, none, .mv (.t 1)⟩,
  ⟨some 29, none, .bin .lss (.t 28) (.c (.int .i64 0))⟩]) (.cond (.t 29) (.seq (.rg [⟨some 4, none, .mv (.c (.int .i64 (-1)))⟩]) (.ret)) (.skip))) (.seq (.rg [⟨some 30, none, .mv (.t 1)⟩,
  ⟨some 4, none, .mv (.t 30)⟩]) (.ret)))))))))), [.t 4]⟩
def s_laws_szWrite : SFn := ⟨12, .seq (.rg [⟨some 2, none, .box (.t 0)⟩,
  ⟨some 4, none, .mv (.c (.int .i64 0))⟩]) (.seq (.rg [⟨some 5, none, .fa 1 (.t 2)⟩,
  ⟨some 6, none, .ld (.t 5)⟩,
  ⟨some 7, none, .mv (.t 1)⟩,
  ⟨some 8, none, .callP 57 [.t 6, .t 7]⟩,
  ⟨some 1, none, .mv (.t 8)⟩]) (.seq (.seq (.rg [⟨some 9, none, .mv (.t 1)⟩,
  ⟨some 10, none, .bin .lss (.t 9) (.c (.int .i64 0))⟩]) (.cond (.t 10) (.seq (.rg [⟨some 4, none, .mv (.c (.int .i64 (-1)))⟩]) (.ret)) (.skip))) (.seq (.rg [⟨some 11, none, .mv (.t 1)⟩,
  ⟨some 4, none, .mv (.t 11)⟩]) (.ret)))), [.t 4]⟩
def s_laws_szDisk : SFn := ⟨24, .seq (.rg [⟨some 2, none, .box (.t 0)⟩,
  ⟨some 4, none, .mv (.c (.int .i64 0))⟩]) (.seq (.rg [⟨some 5, none, .fa 0 (.t 2)⟩,
  ⟨some 6, none, .ld (.t 5)⟩,
  ⟨some 7, none, .mv (.t 1)⟩,
  ⟨some 8, none, .callP 25 [.t 6, .t 7]⟩,
  ⟨some 1, none, .mv (.t 8)⟩]) (.seq (.seq (.rg [⟨some 9, none, .mv (.t 1)⟩,
  ⟨some 10, none, .bin .lss (.t 9) (.c (.int .i64 0))⟩]) (.cond (.t 10) (.seq (.rg [⟨some 4, none, .mv (.c (.int .i64 (-1)))⟩]) (.ret)) (.skip))) (.seq (.rg [⟨some 11, none, .fa 1 (.t 2)⟩,
  ⟨some 12, none, .ld (.t 11)⟩,
  ⟨some 13, none, .mv (.t 1)⟩,
  ⟨some 14, none, .callP 26 [.t 12, .t 13]⟩,
  ⟨some 1, none, .mv (.t 14)⟩]) (.seq (.seq (.rg [⟨some 15, none, .mv (.t 1)⟩,
  ⟨some 16, none, .bin .lss (.t 15) (.c (.int .i64 0))⟩]) (.cond (.t 16) (.seq (.rg [⟨some 4, none, .mv (.c (.int .i64 (-1)))⟩]) (.ret)) (.skip))) (.seq (.rg [⟨some 17, none, .fa 3 (.t 2)⟩,
  ⟨some 18, none, .ld (.t 17)⟩,
  ⟨some 19, none, .mv (.t 1)⟩,
  ⟨some 20, none, .callP 27 [.t 18, .t 19]⟩,
  ⟨some 1, none, .mv (.t 20)⟩]) (.seq (.seq (.rg [⟨some 21, none, .mv (.t 1)⟩,
  ⟨some 22, none, .bin .lss (.t 21) (.c (.int .i64 0))⟩]) (.cond (.t 22) (.seq (.rg [⟨some 4, none, .mv (.c (.int .i64 (-1)))⟩]) (.ret)) (.skip))) (.seq (.rg [⟨some 23, none, .mv (.t 1)⟩,
  ⟨some 4, none, .mv (.t 23)⟩]) (.ret)))))))), [.t 4]⟩
def s_laws_szEng : SFn := ⟨18, .seq (.rg [⟨some 2, none, .box (.t 0)⟩,
  ⟨some 4, none, .mv (.c (.int .i64 0))⟩]) (.seq (.rg [⟨some 5, none, .fa 0 (.t 2)⟩,
  ⟨some 6, none, .ld (.t 5)⟩,
  ⟨some 7, none, .mv (.t 1)⟩,
  ⟨some 8, none, .callP 11 [.t 6, .t 7]⟩,
  ⟨some 1, none, .mv (.t 8)⟩]) (.seq (.seq (.rg [⟨some 9, none, .mv (.t 1)⟩,
  ⟨some 10, none, .bin .lss (.t 9) (.c (.int .i64 0))⟩]) (.cond (.t 10) (.seq (.rg [⟨some 4, none, .mv (.c (.int .i64 (-1)))⟩]) (.ret)) (.skip))) (.seq (.rg [⟨some 11, none, .fa 1 (.t 2)⟩,
  ⟨some 12, none, .ldA 5 (.t 11)⟩,
  ⟨some 13, none, .mv (.t 1)⟩,
  ⟨some 14, none, .callP 12 [.t 12, .t 13]⟩,
  ⟨some 1, none, .mv (.t 14)⟩]) (.seq (.seq (.rg [⟨some 15, none, .mv (.t 1)⟩,
  ⟨some 16, none, .bin .lss (.t 15) (.c (.int .i64 0))⟩]) (.cond (.t 16) (.seq (.rg [⟨some 4, none, .mv (.c (.int .i64 (-1)))⟩]) (.ret)) (.skip))) (.seq (.rg [⟨some 17, none, .mv (.t 1)⟩,
  ⟨some 4, none, .mv (.t 17)⟩]) (.ret)))))), [.t 4]⟩
def s_laws_toCol : SFn := ⟨14, .seq (.rg [⟨some 1, none, .box (.t 0)⟩,
  ⟨some 2, none, .alloc [.str [], .int .i64 0, .bool false]⟩]) (.seq (.rg [⟨some 3, none, .alloc [.str [], .int .i64 0, .bool false]⟩]) (.seq (.rg [⟨some 4, none, .fa 0 (.t 1)⟩,
  ⟨some 5, none, .ld (.t 4)⟩,
  ⟨some 6, none, .fa 0 (.t 3)⟩,
  ⟨none, none, .st 1 (.t 6) (.t 5)⟩]) (.seq (.rg [⟨some 7, none, .fa 1 (.t 1)⟩,
  ⟨some 8, none, .ld (.t 7)⟩,
  ⟨some 9, none, .fa 1 (.t 3)⟩,
  ⟨none, none, .st 1 (.t 9) (.t 8)⟩]) (.seq (.rg [⟨some 10, none, .fa 2 (.t 1)⟩,
  ⟨some 11, none, .ld (.t 10)⟩,
  ⟨some 12, none, .fa 2 (.t 3)⟩,
  ⟨none, none, .st 1 (.t 12) (.t 11)⟩]) (.seq (.rg [⟨some 13, none, .ldA 3 (.t 3)⟩,
  ⟨none, none, .st 3 (.t 2) (.t 13)⟩]) (.ret)))))), [.ldA 2 3]⟩
def s_laws_toBy : SFn := ⟨11, .seq (.rg [⟨some 1, none, .box (.t 0)⟩,
  ⟨some 2, none, .alloc [.int .i64 0, .bool false]⟩]) (.seq (.rg [⟨some 3, none, .alloc [.int .i64 0, .bool false]⟩]) (.seq (.rg [⟨some 4, none, .fa 0 (.t 1)⟩,
  ⟨some 5, none, .ld (.t 4)⟩,
  ⟨some 6, none, .fa 0 (.t 3)⟩,
  ⟨none, none, .st 1 (.t 6) (.t 5)⟩]) (.seq (.rg [⟨some 7, none, .fa 1 (.t 1)⟩,
  ⟨some 8, none, .ld (.t 7)⟩,
  ⟨some 9, none, .fa 1 (.t 3)⟩,
  ⟨none, none, .st 1 (.t 9) (.t 8)⟩]) (.seq (.rg [⟨some 10, none, .ldA 2 (.t 3)⟩,
  ⟨none, none, .st 2 (.t 2) (.t 10)⟩]) (.ret))))), [.ldA 2 2]⟩
def s_laws_toIndex : SFn := ⟨15, .seq (.rg [⟨some 1, none, .box (.t 0)⟩,
  ⟨some 2, none, .alloc [.str [], .bool false, .snil]⟩]) (.seq (.rg [⟨some 3, none, .alloc [.str [], .bool false, .snil]⟩]) (.seq (.rg [⟨some 4, none, .fa 0 (.t 1)⟩,
  ⟨some 5, none, .ld (.t 4)⟩,
  ⟨some 6, none, .fa 0 (.t 3)⟩,
  ⟨none, none, .st 1 (.t 6) (.t 5)⟩]) (.seq (.rg [⟨some 7, none, .fa 1 (.t 1)⟩,
  ⟨some 8, none, .ld (.t 7)⟩,
  ⟨some 9, none, .fa 1 (.t 3)⟩,
  ⟨none, none, .st 1 (.t 9) (.t 8)⟩]) (.seq (.rg [⟨some 10, none, .fa 2 (.t 1)⟩,
  ⟨some 11, none, .ld (.t 10)⟩,
  ⟨some 12, none, .callD 60 true [.t 11]⟩,
  ⟨some 13, none, .fa 2 (.t 3)⟩,
  ⟨none, none, .st 1 (.t 13) (.t 12)⟩]) (.seq (.rg [⟨some 14, none, .ldA 3 (.t 3)⟩,
  ⟨none, none, .st 3 (.t 2) (.t 14)⟩]) (.ret)))))), [.ldA 2 3]⟩
def s_laws_toDef : SFn := ⟨20, .seq (.rg [⟨some 1, none, .box (.t 0)⟩,
  ⟨some 2, none, .alloc [.str [], .snil, .snil, .snil]⟩]) (.seq (.rg [⟨some 3, none, .alloc [.str [], .snil, .snil, .snil]⟩]) (.seq (.rg [⟨some 4, none, .fa 0 (.t 1)⟩,
  ⟨some 5, none, .ld (.t 4)⟩,
  ⟨some 6, none, .fa 0 (.t 3)⟩,
  ⟨none, none, .st 1 (.t 6) (.t 5)⟩]) (.seq (.rg [⟨some 7, none, .fa 1 (.t 1)⟩,
  ⟨some 8, none, .ld (.t 7)⟩,
  ⟨some 9, none, .callD 59 true [.t 8]⟩,
  ⟨some 10, none, .fa 1 (.t 3)⟩,
  ⟨none, none, .st 1 (.t 10) (.t 9)⟩]) (.seq (.rg [⟨some 11, none, .fa 2 (.t 1)⟩,
  ⟨some 12, none, .ld (.t 11)⟩,
  ⟨some 13, none, .callD 60 true [.t 12]⟩,
  ⟨some 14, none, .fa 2 (.t 3)⟩,
  ⟨none, none, .st 1 (.t 14) (.t 13)⟩]) (.seq (.rg [⟨some 15, none, .fa 3 (.t 1)⟩,
  ⟨some 16, none, .ld (.t 15)⟩,
  ⟨some 17, none, .callD 61 true [.t 16]⟩,
  ⟨some 18, none, .fa 3 (.t 3)⟩,
  ⟨none, none, .st 1 (.t 18) (.t 17)⟩]) (.seq (.rg [⟨some 19, none, .ldA 4 (.t 3)⟩,
  ⟨none, none, .st 4 (.t 2) (.t 19)⟩]) (.ret))))))), [.ldA 2 4]⟩
def s_laws_toWrite : SFn := ⟨12, .seq (.rg [⟨some 1, none, .box (.t 0)⟩,
  ⟨some 2, none, .alloc [.int .i64 0, .snil]⟩]) (.seq (.rg [⟨some 3, none, .alloc [.int .i64 0, .snil]⟩]) (.seq (.rg [⟨some 4, none, .fa 0 (.t 1)⟩,
  ⟨some 5, none, .ld (.t 4)⟩,
  ⟨some 6, none, .fa 0 (.t 3)⟩,
  ⟨none, none, .st 1 (.t 6) (.t 5)⟩]) (.seq (.rg [⟨some 7, none, .fa 1 (.t 1)⟩,
  ⟨some 8, none, .ld (.t 7)⟩,
  ⟨some 9, none, .callD 62 true [.t 8]⟩,
  ⟨some 10, none, .fa 1 (.t 3)⟩,
  ⟨none, none, .st 1 (.t 10) (.t 9)⟩]) (.seq (.rg [⟨some 11, none, .ldA 2 (.t 3)⟩,
  ⟨none, none, .st 2 (.t 2) (.t 11)⟩]) (.ret))))), [.ldA 2 2]⟩
def s_laws_toFault : SFn := ⟨14, .seq (.rg [⟨some 1, none, .box (.t 0)⟩,
  ⟨some 2, none, .alloc [.int .i64 0, .int .i64 0, .int .i64 0]⟩]) (.seq (.rg [⟨some 3, none, .alloc [.int .i64 0, .int .i64 0, .int .i64 0]⟩]) (.seq (.rg [⟨some 4, none, .fa 0 (.t 1)⟩,
  ⟨some 5, none, .ld (.t 4)⟩,
  ⟨some 6, none, .fa 0 (.t 3)⟩,
  ⟨none, none, .st 1 (.t 6) (.t 5)⟩]) (.seq (.rg [⟨some 7, none, .fa 1 (.t 1)⟩,
  ⟨some 8, none, .ld (.t 7)⟩,
  ⟨some 9, none, .fa 1 (.t 3)⟩,
  ⟨none, none, .st 1 (.t 9) (.t 8)⟩]) (.seq (.rg [⟨some 10, none, .fa 2 (.t 1)⟩,
  ⟨some 11, none, .ld (.t 10)⟩,
  ⟨some 12, none, .fa 2 (.t 3)⟩,
  ⟨none, none, .st 1 (.t 12) (.t 11)⟩]) (.seq (.rg [⟨some 13, none, .ldA 3 (.t 3)⟩,
  ⟨none, none, .st 3 (.t 2) (.t 13)⟩]) (.ret)))))), [.ldA 2 3]⟩
def s_laws_toDisk : SFn := ⟨23, .seq (.rg [⟨some 1, none, .box (.t 0)⟩,
  ⟨some 2, none, .alloc [.snil, .snil, .int .i64 0, .snil, .bool false]⟩]) (.seq (.rg [⟨some 3, none, .alloc [.snil, .snil, .int .i64 0, .snil, .bool false]⟩]) (.seq (.rg [⟨some 4, none, .fa 0 (.t 1)⟩,
  ⟨some 5, none, .ld (.t 4)⟩,
  ⟨some 6, none, .callD 31 true [.t 5]⟩,
  ⟨some 7, none, .fa 0 (.t 3)⟩,
  ⟨none, none, .st 1 (.t 7) (.t 6)⟩]) (.seq (.rg [⟨some 8, none, .fa 1 (.t 1)⟩,
  ⟨some 9, none, .ld (.t 8)⟩,
  ⟨some 10, none, .callD 32 true [.t 9]⟩,
  ⟨some 11, none, .fa 1 (.t 3)⟩,
  ⟨none, none, .st 1 (.t 11) (.t 10)⟩]) (.seq (.rg [⟨some 12, none, .fa 2 (.t 1)⟩,
  ⟨some 13, none, .ld (.t 12)⟩,
  ⟨some 14, none, .fa 2 (.t 3)⟩,
  ⟨none, none, .st 1 (.t 14) (.t 13)⟩]) (.seq (.rg [⟨some 15, none, .fa 3 (.t 1)⟩,
  ⟨some 16, none, .ld (.t 15)⟩,
  ⟨some 17, none, .callD 33 true [.t 16]⟩,
  ⟨some 18, none, .fa 3 (.t 3)⟩,
  ⟨none, none, .st 1 (.t 18) (.t 17)⟩]) (.seq (.rg [⟨some 19, none, .fa 4 (.t 1)⟩,
  ⟨some 20, none, .ld (.t 19)⟩,
  ⟨some 21, none, .fa 4 (.t 3)⟩,
  ⟨none, none, .st 1 (.t 21) (.t 20)⟩]) (.seq (.rg [⟨some 22, none, .ldA 5 (.t 3)⟩,
  ⟨none, none, .st 5 (.t 2) (.t 22)⟩]) (.ret)))))))), [.ldA 2 5]⟩
def s_laws_toEng : SFn := ⟨13, .seq (.rg [⟨some 1, none, .box (.t 0)⟩,
  ⟨some 2, none, .alloc [.snil, .snil, .snil, .int .i64 0, .snil, .bool false]⟩]) (.seq (.rg [⟨some 3, none, .alloc [.snil, .snil, .snil, .int .i64 0, .snil, .bool false]⟩]) (.seq (.rg [⟨some 4, none, .fa 0 (.t 1)⟩,
  ⟨some 5, none, .ld (.t 4)⟩,
  ⟨some 6, none, .callD 14 true [.t 5]⟩,
  ⟨some 7, none, .fa 0 (.t 3)⟩,
  ⟨none, none, .st 1 (.t 7) (.t 6)⟩]) (.seq (.rg [⟨some 8, none, .fa 1 (.t 1)⟩,
  ⟨some 9, none, .ldA 5 (.t 8)⟩,
  ⟨some 10, none, .callD 15 true [.t 9]⟩,
  ⟨some 11, none, .fa 1 (.t 3)⟩,
  ⟨none, none, .st 5 (.t 11) (.t 10)⟩]) (.seq (.rg [⟨some 12, none, .ldA 6 (.t 3)⟩,
  ⟨none, none, .st 6 (.t 2) (.t 12)⟩]) (.ret))))), [.ldA 2 6]⟩
def s_spec_l9Copy_L0 : SCode := .seq (.seq (.rg [⟨some 17, none, .mv (.t 4)⟩,
  ⟨some 18, none, .fa 3 (.t 1)⟩,
  ⟨some 19, none, .ld (.t 18)⟩,
  ⟨some 20, none, .lenL (.t 19)⟩,
  ⟨some 21, none, .bin .lss (.t 17) (.t 20)⟩]) (.cond (.t 21) (.skip) (.exit 0))) (.seq (.blk 1 (.seq (.rg [⟨some 24, none, .fa 3 (.t 1)⟩,
  ⟨some 25, none, .ld (.t 24)⟩,
  ⟨some 26, none, .mv (.t 4)⟩,
  ⟨some 27, none, .ia 3 (.t 25) (.t 26)⟩,
  ⟨some 28, none, .ldA 3 (.t 27)⟩,
  ⟨some 5, none, .alloc [.str [], .bool false, .snil]⟩,
  ⟨none, none, .st 3 (.t 5) (.t 28)⟩]) (.seq (.rg [⟨some 29, none, .emp⟩,
  ⟨some 30, none, .fa 2 (.t 5)⟩,
  ⟨some 31, none, .ld (.t 30)⟩,
  ⟨some 32, none, .appI 16 2 (.t 29) (.t 31)⟩,
  ⟨some 33, none, .fa 2 (.t 5)⟩,
  ⟨none, none, .st 1 (.t 33) (.t 32)⟩]) (.rg [⟨some 34, none, .fa 3 (.t 3)⟩,
  ⟨some 35, none, .ld (.t 34)⟩,
  ⟨some 36, none, .ldA 3 (.t 5)⟩,
  ⟨some 37, none, .bslice false [.str [], .bool false, .snil] 1 [(0, .t 36)]⟩,
  ⟨some 38, none, .app false 48 3 (.t 35) (.t 37)⟩,
  ⟨some 39, none, .fa 3 (.t 3)⟩,
  ⟨none, none, .st 1 (.t 39) (.t 38)⟩])))) (.rg [⟨some 22, none, .mv (.t 4)⟩,
  ⟨some 23, none, .bin .add (.t 22) (.c (.int .i64 1))⟩,
  ⟨some 4, none, .mv (.t 23)⟩]))
def s_spec_l9Copy : SFn := ⟨41, .seq (.rg [⟨some 1, none, .box (.t 0)⟩,
  ⟨some 2, none, .alloc [.str [], .snil, .snil, .snil]⟩]) (.seq (.rg [⟨some 6, none, .fa 0 (.t 1)⟩,
  ⟨some 7, none, .ld (.t 6)⟩,
  ⟨some 8, none, .emp⟩,
  ⟨some 9, none, .fa 1 (.t 1)⟩,
  ⟨some 10, none, .ld (.t 9)⟩,
  ⟨some 11, none, .appI 32 3 (.t 8) (.t 10)⟩,
  ⟨some 12, none, .emp⟩,
  ⟨some 13, none, .fa 2 (.t 1)⟩,
  ⟨some 14, none, .ld (.t 13)⟩,
  ⟨some 15, none, .appI 16 2 (.t 12) (.t 14)⟩,
  ⟨some 16, none, .build [.str [], .snil, .snil, .snil] [(0, (1, .t 7)), (1, (1, .t 11)), (2, (1, .t 15))]⟩,
  ⟨some 3, none, .alloc [.str [], .snil, .snil, .snil]⟩,
  ⟨none, none, .st 4 (.t 3) (.t 16)⟩]) (.seq (.seq (.rg [⟨some 4, none, .mv (.c (.int .i64 0))⟩]) (.blk 0 (.loop s_spec_l9Copy_L0))) (.seq (.rg [⟨some 40, none, .ldA 4 (.t 3)⟩,
  ⟨none, none, .st 4 (.t 2) (.t 40)⟩]) (.ret)))), [.ldA 2 4]⟩
def s_spec_l12Copy_L0 : SCode := .seq (.seq (.rg [⟨some 15, none, .mv (.t 4)⟩,
  ⟨some 16, none, .fa 0 (.t 1)⟩,
  ⟨some 17, none, .ld (.t 16)⟩,
  ⟨some 18, none, .lenL (.t 17)⟩,
  ⟨some 19, none, .bin .lss (.t 15) (.t 18)⟩]) (.cond (.t 19) (.skip) (.exit 0))) (.seq (.blk 1 (.rg [⟨some 22, none, .fa 0 (.t 3)⟩,
  ⟨some 23, none, .ld (.t 22)⟩,
  ⟨some 24, none, .emp⟩,
  ⟨some 25, none, .fa 0 (.t 1)⟩,
  ⟨some 26, none, .ld (.t 25)⟩,
  ⟨some 27, none, .mv (.t 4)⟩,
  ⟨some 28, none, .ia 1 (.t 26) (.t 27)⟩,
  ⟨some 29, none, .ld (.t 28)⟩,
  ⟨some 30, none, .appI 1 1 (.t 24) (.t 29)⟩,
  ⟨some 31, none, .bslice false [.snil] 1 [(0, .t 30)]⟩,
  ⟨some 32, none, .app false 24 1 (.t 23) (.t 31)⟩,
  ⟨some 33, none, .fa 0 (.t 3)⟩,
  ⟨none, none, .st 1 (.t 33) (.t 32)⟩])) (.rg [⟨some 20, none, .mv (.t 4)⟩,
  ⟨some 21, none, .bin .add (.t 20) (.c (.int .i64 1))⟩,
  ⟨some 4, none, .mv (.t 21)⟩]))
def s_spec_l12Copy_L1 : SCode := .seq (.seq (.rg [⟨some 34, none, .mv (.t 5)⟩,
  ⟨some 35, none, .fa 1 (.t 1)⟩,
  ⟨some 36, none, .ld (.t 35)⟩,
  ⟨some 37, none, .lenL (.t 36)⟩,
  ⟨some 38, none, .bin .lss (.t 34) (.t 37)⟩]) (.cond (.t 38) (.skip) (.exit 2))) (.seq (.blk 3 (.rg [⟨some 41, none, .fa 1 (.t 3)⟩,
  ⟨some 42, none, .ld (.t 41)⟩,
  ⟨some 43, none, .fa 1 (.t 1)⟩,
  ⟨some 44, none, .ld (.t 43)⟩,
  ⟨some 45, none, .mv (.t 5)⟩,
  ⟨some 46, none, .ia 2 (.t 44) (.t 45)⟩,
  ⟨some 47, none, .fa 0 (.t 46)⟩,
  ⟨some 48, none, .ld (.t 47)⟩,
  ⟨some 49, none, .emp⟩,
  ⟨some 50, none, .fa 1 (.t 1)⟩,
  ⟨some 51, none, .ld (.t 50)⟩,
  ⟨some 52, none, .mv (.t 5)⟩,
  ⟨some 53, none, .ia 2 (.t 51) (.t 52)⟩,
  ⟨some 54, none, .fa 1 (.t 53)⟩,
  ⟨some 55, none, .ld (.t 54)⟩,
  ⟨some 56, none, .appI 1 1 (.t 49) (.t 55)⟩,
  ⟨some 57, none, .build [.int .i64 0, .snil] [(0, (1, .t 48)), (1, (1, .t 56))]⟩,
  ⟨some 58, none, .bslice false [.int .i64 0, .snil] 1 [(0, .t 57)]⟩,
  ⟨some 59, none, .app false 32 2 (.t 42) (.t 58)⟩,
  ⟨some 60, none, .fa 1 (.t 3)⟩,
  ⟨none, none, .st 1 (.t 60) (.t 59)⟩])) (.rg [⟨some 39, none, .mv (.t 5)⟩,
  ⟨some 40, none, .bin .add (.t 39) (.c (.int .i64 1))⟩,
  ⟨some 5, none, .mv (.t 40)⟩]))
def s_spec_l12Copy : SFn := ⟨62, .seq (.rg [⟨some 1, none, .box (.t 0)⟩,
  ⟨some 2, none, .alloc [.snil, .snil, .int .i64 0, .snil, .bool false]⟩]) (.seq (.rg [⟨some 6, none, .fa 2 (.t 1)⟩,
  ⟨some 7, none, .ld (.t 6)⟩,
  ⟨some 8, none, .emp⟩,
  ⟨some 9, none, .fa 3 (.t 1)⟩,
  ⟨some 10, none, .ld (.t 9)⟩,
  ⟨some 11, none, .appI 24 3 (.t 8) (.t 10)⟩,
  ⟨some 12, none, .fa 4 (.t 1)⟩,
  ⟨some 13, none, .ld (.t 12)⟩,
  ⟨some 14, none, .build [.snil, .snil, .int .i64 0, .snil, .bool false] [(2, (1, .t 7)), (3, (1, .t 11)), (4, (1, .t 13))]⟩,
  ⟨some 3, none, .alloc [.snil, .snil, .int .i64 0, .snil, .bool false]⟩,
  ⟨none, none, .st 5 (.t 3) (.t 14)⟩]) (.seq (.seq (.rg [⟨some 4, none, .mv (.c (.int .i64 0))⟩]) (.blk 0 (.loop s_spec_l12Copy_L0))) (.seq (.seq (.rg [⟨some 5, none, .mv (.c (.int .i64 0))⟩]) (.blk 2 (.loop s_spec_l12Copy_L1))) (.seq (.rg [⟨some 61, none, .ldA 5 (.t 3)⟩,
  ⟨none, none, .st 5 (.t 2) (.t 61)⟩]) (.ret))))), [.ldA 2 5]⟩
def s_spec_l25Copy_L0 : SCode := .seq (.seq (.rg [⟨some 9, none, .mv (.t 4)⟩,
  ⟨some 10, none, .fa 0 (.t 1)⟩,
  ⟨some 11, none, .ld (.t 10)⟩,
  ⟨some 12, none, .lenL (.t 11)⟩,
  ⟨some 13, none, .bin .lss (.t 9) (.t 12)⟩]) (.cond (.t 13) (.skip) (.exit 0))) (.seq (.blk 1 (.rg [⟨some 16, none, .fa 0 (.t 3)⟩,
  ⟨some 17, none, .ld (.t 16)⟩,
  ⟨some 18, none, .fa 0 (.t 1)⟩,
  ⟨some 19, none, .ld (.t 18)⟩,
  ⟨some 20, none, .mv (.t 4)⟩,
  ⟨some 21, none, .ia 4 (.t 19) (.t 20)⟩,
  ⟨some 22, none, .ldA 4 (.t 21)⟩,
  ⟨some 23, none, .callP 29 [.t 22]⟩,
  ⟨some 24, none, .bslice false [.str [], .snil, .snil, .snil] 1 [(0, .t 23)]⟩,
  ⟨some 25, none, .app false 88 4 (.t 17) (.t 24)⟩,
  ⟨some 26, none, .fa 0 (.t 3)⟩,
  ⟨none, none, .st 1 (.t 26) (.t 25)⟩])) (.rg [⟨some 14, none, .mv (.t 4)⟩,
  ⟨some 15, none, .bin .add (.t 14) (.c (.int .i64 1))⟩,
  ⟨some 4, none, .mv (.t 15)⟩]))
def s_spec_l25Copy : SFn := ⟨28, .seq (.rg [⟨some 1, none, .box (.t 0)⟩,
  ⟨some 2, none, .alloc [.snil, .snil, .snil, .int .i64 0, .snil, .bool false]⟩]) (.seq (.rg [⟨some 5, none, .fa 1 (.t 1)⟩,
  ⟨some 6, none, .ldA 5 (.t 5)⟩,
  ⟨some 7, none, .callP 28 [.t 6]⟩,
  ⟨some 8, none, .build [.snil, .snil, .snil, .int .i64 0, .snil, .bool false] [(1, (5, .t 7))]⟩,
  ⟨some 3, none, .alloc [.snil, .snil, .snil, .int .i64 0, .snil, .bool false]⟩,
  ⟨none, none, .st 6 (.t 3) (.t 8)⟩]) (.seq (.seq (.rg [⟨some 4, none, .mv (.c (.int .i64 0))⟩]) (.blk 0 (.loop s_spec_l25Copy_L0))) (.seq (.rg [⟨some 27, none, .ldA 6 (.t 3)⟩,
  ⟨none, none, .st 6 (.t 2) (.t 27)⟩]) (.ret)))), [.ldA 2 6]⟩
def s_spec_EngOn : SFn := ⟨9, .seq (.rg [⟨some 1, none, .box (.t 0)⟩,
  ⟨some 2, none, .alloc [.snil, .snil, .snil, .int .i64 0, .snil, .bool false]⟩]) (.seq (.rg [⟨some 4, none, .ldA 6 (.t 1)⟩,
  ⟨some 5, none, .callP 13 [.t 4]⟩,
  ⟨some 3, none, .alloc [.snil, .snil, .snil, .int .i64 0, .snil, .bool false]⟩,
  ⟨none, none, .st 6 (.t 3) (.t 5)⟩]) (.seq (.rg [⟨some 6, none, .fa 1 (.t 3)⟩,
  ⟨some 7, none, .fa 4 (.t 6)⟩,
  ⟨none, none, .st 1 (.t 7) (.c (.bool false))⟩]) (.seq (.rg [⟨some 8, none, .ldA 6 (.t 3)⟩,
  ⟨none, none, .st 6 (.t 2) (.t 8)⟩]) (.ret)))), [.ldA 2 6]⟩
def s_impl_copyDefs_L0 : SCode := .seq (.rg [⟨some 27, none, .bin .lss (.t 26) (.t 25)⟩]) (.seq (.cond (.t 27) (.skip) (.exit 2)) (.seq (.blk 3 (.seq (.rg [⟨some 28, none, .ia 3 (.t 24) (.t 26)⟩,
  ⟨some 29, none, .ldA 3 (.t 28)⟩,
  ⟨some 8, none, .alloc [.str [], .bool false, .snil]⟩,
  ⟨none, none, .st 3 (.t 8) (.t 29)⟩]) (.seq (.rg [⟨some 30, none, .fa 2 (.t 8)⟩,
  ⟨some 31, none, .ld (.t 30)⟩,
  ⟨some 32, none, .app true 16 2 (.c .snil) (.t 31)⟩,
  ⟨some 33, none, .fa 2 (.t 8)⟩,
  ⟨none, none, .st 1 (.t 33) (.t 32)⟩]) (.rg [⟨some 34, none, .mv (.t 6)⟩,
  ⟨some 35, none, .ldA 3 (.t 8)⟩,
  ⟨some 36, none, .bslice true [.str [], .bool false, .snil] 1 [(0, .t 35)]⟩,
  ⟨some 37, none, .app true 48 3 (.t 34) (.t 36)⟩,
  ⟨some 6, none, .mv (.t 37)⟩])))) (.rg [⟨some 38, none, .bin .add (.t 26) (.c (.int .i64 1))⟩,
  ⟨some 26, none, .mv (.t 38)⟩])))
def s_impl_copyDefs_L1 : SCode := .seq (.rg [⟨some 12, none, .bin .lss (.t 11) (.t 10)⟩]) (.seq (.cond (.t 12) (.skip) (.exit 0)) (.seq (.blk 1 (.seq (.rg [⟨some 13, none, .ia 4 (.t 9) (.t 11)⟩,
  ⟨some 14, none, .ldA 4 (.t 13)⟩,
  ⟨some 5, none, .alloc [.str [], .snil, .snil, .snil]⟩,
  ⟨none, none, .st 4 (.t 5) (.t 14)⟩]) (.seq (.rg [⟨some 15, none, .fa 1 (.t 5)⟩,
  ⟨some 16, none, .ld (.t 15)⟩,
  ⟨some 17, none, .app true 32 3 (.c .snil) (.t 16)⟩,
  ⟨some 18, none, .fa 1 (.t 5)⟩,
  ⟨none, none, .st 1 (.t 18) (.t 17)⟩]) (.seq (.rg [⟨some 19, none, .fa 2 (.t 5)⟩,
  ⟨some 20, none, .ld (.t 19)⟩,
  ⟨some 21, none, .app true 16 2 (.c .snil) (.t 20)⟩,
  ⟨some 22, none, .fa 2 (.t 5)⟩,
  ⟨none, none, .st 1 (.t 22) (.t 21)⟩]) (.seq (.rg [⟨some 6, none, .mv (.c .snil)⟩]) (.seq (.seq (.rg [⟨some 23, none, .fa 3 (.t 5)⟩,
  ⟨some 24, none, .ld (.t 23)⟩,
  ⟨some 25, none, .lenL (.t 24)⟩,
  ⟨some 26, none, .mv (.c (.int .i64 0))⟩]) (.blk 2 (.loop s_impl_copyDefs_L0))) (.seq (.rg [⟨some 39, none, .mv (.t 6)⟩,
  ⟨some 40, none, .fa 3 (.t 5)⟩,
  ⟨none, none, .st 1 (.t 40) (.t 39)⟩]) (.rg [⟨some 41, none, .mv (.t 3)⟩,
  ⟨some 42, none, .ldA 4 (.t 5)⟩,
  ⟨some 43, none, .bslice true [.str [], .snil, .snil, .snil] 1 [(0, .t 42)]⟩,
  ⟨some 44, none, .app true 88 4 (.t 41) (.t 43)⟩,
  ⟨some 3, none, .mv (.t 44)⟩])))))))) (.rg [⟨some 45, none, .bin .add (.t 11) (.c (.int .i64 1))⟩,
  ⟨some 11, none, .mv (.t 45)⟩])))
def s_impl_copyDefs : SFn := ⟨47, .seq (.rg [⟨some 2, none, .mv (.c .snil)⟩]) (.seq (.rg [⟨some 3, none, .mv (.c .snil)⟩]) (.seq (.seq (.rg [⟨some 9, none, .mv (.t 0)⟩,
  ⟨some 10, none, .lenL (.t 9)⟩,
  ⟨some 11, none, .mv (.c (.int .i64 0))⟩]) (.blk 0 (.loop s_impl_copyDefs_L1))) (.seq (.rg [⟨some 46, none, .mv (.t 3)⟩,
  ⟨some 2, none, .mv (.t 46)⟩]) (.ret)))), [.t 2]⟩
def s_impl_copyBytes : SFn := ⟨5, .seq (.rg [⟨some 2, none, .mv (.c .snil)⟩]) (.seq (.rg [⟨some 3, none, .mv (.t 0)⟩,
  ⟨some 4, none, .app true 1 1 (.c .snil) (.t 3)⟩,
  ⟨some 2, none, .mv (.t 4)⟩]) (.ret)), [.t 2]⟩
def s_impl_copyDisk_L0 : SCode := .seq (.rg [⟨some 13, none, .bin .lss (.t 12) (.t 11)⟩]) (.seq (.cond (.t 13) (.skip) (.exit 0)) (.seq (.blk 1 (.seq (.rg [⟨some 14, none, .ia 1 (.t 10) (.t 12)⟩,
  ⟨some 15, none, .ld (.t 14)⟩,
  ⟨some 5, none, .mv (.t 15)⟩]) (.rg [⟨some 16, none, .mv (.t 3)⟩,
  ⟨some 17, none, .mv (.t 5)⟩,
  ⟨some 18, none, .callD 65 true [.t 17]⟩,
  ⟨some 19, none, .bslice true [.snil] 1 [(0, .t 18)]⟩,
  ⟨some 20, none, .app true 24 1 (.t 16) (.t 19)⟩,
  ⟨some 3, none, .mv (.t 20)⟩]))) (.rg [⟨some 21, none, .bin .add (.t 12) (.c (.int .i64 1))⟩,
  ⟨some 12, none, .mv (.t 21)⟩])))
def s_impl_copyDisk_L1 : SCode := .seq (.rg [⟨some 26, none, .bin .lss (.t 25) (.t 24)⟩]) (.seq (.cond (.t 26) (.skip) (.exit 2)) (.seq (.blk 3 (.seq (.rg [⟨some 27, none, .ia 2 (.t 23) (.t 25)⟩,
  ⟨some 28, none, .ldA 2 (.t 27)⟩,
  ⟨some 8, none, .alloc [.int .i64 0, .snil]⟩,
  ⟨none, none, .st 2 (.t 8) (.t 28)⟩]) (.rg [⟨some 29, none, .mv (.t 6)⟩,
  ⟨some 30, none, .fa 0 (.t 8)⟩,
  ⟨some 31, none, .ld (.t 30)⟩,
  ⟨some 32, none, .fa 1 (.t 8)⟩,
  ⟨some 33, none, .ld (.t 32)⟩,
  ⟨some 34, none, .callD 65 true [.t 33]⟩,
  ⟨some 35, none, .build [.int .i64 0, .snil] [(0, (1, .t 31)), (1, (1, .t 34))]⟩,
  ⟨some 36, none, .bslice true [.int .i64 0, .snil] 1 [(0, .t 35)]⟩,
  ⟨some 37, none, .app true 32 2 (.t 29) (.t 36)⟩,
  ⟨some 6, none, .mv (.t 37)⟩]))) (.rg [⟨some 38, none, .bin .add (.t 25) (.c (.int .i64 1))⟩,
  ⟨some 25, none, .mv (.t 38)⟩])))
def s_impl_copyDisk : SFn := ⟨48, .seq (.rg [⟨some 1, none, .box (.t 0)⟩,
  ⟨some 2, none, .alloc [.snil, .snil, .int .i64 0, .snil, .bool false]⟩]) (.seq (.rg [⟨some 3, none, .mv (.c .snil)⟩]) (.seq (.seq (.rg [⟨some 9, none, .fa 0 (.t 1)⟩,
  ⟨some 10, none, .ld (.t 9)⟩,
  ⟨some 11, none, .lenL (.t 10)⟩,
  ⟨some 12, none, .mv (.c (.int .i64 0))⟩]) (.blk 0 (.loop s_impl_copyDisk_L0))) (.seq (.rg [⟨some 6, none, .mv (.c .snil)⟩]) (.seq (.seq (.rg [⟨some 22, none, .fa 1 (.t 1)⟩,
  ⟨some 23, none, .ld (.t 22)⟩,
  ⟨some 24, none, .lenL (.t 23)⟩,
  ⟨some 25, none, .mv (.c (.int .i64 0))⟩]) (.blk 2 (.loop s_impl_copyDisk_L1))) (.seq (.rg [⟨some 39, none, .mv (.t 3)⟩,
  ⟨some 40, none, .mv (.t 6)⟩,
  ⟨some 41, none, .fa 0 (.t 1)⟩,
  ⟨none, none, .st 1 (.t 41) (.t 39)⟩,
  ⟨some 42, none, .fa 1 (.t 1)⟩,
  ⟨none, none, .st 1 (.t 42) (.t 40)⟩]) (.seq (.rg [⟨some 43, none, .fa 3 (.t 1)⟩,
  ⟨some 44, none, .ld (.t 43)⟩,
  ⟨some 45, none, .app true 24 3 (.c .snil) (.t 44)⟩,
  ⟨some 46, none, .fa 3 (.t 1)⟩,
  ⟨none, none, .st 1 (.t 46) (.t 45)⟩]) (.seq (.rg [⟨some 47, none, .ldA 5 (.t 1)⟩,
  ⟨none, none, .st 5 (.t 2) (.t 47)⟩]) (.ret)))))))), [.ldA 2 5]⟩
def s_impl_copyEng : SFn := ⟨10, .seq (.rg [⟨some 1, none, .box (.t 0)⟩,
  ⟨some 2, none, .alloc [.snil, .snil, .snil, .int .i64 0, .snil, .bool false]⟩]) (.seq (.rg [⟨some 3, none, .fa 0 (.t 1)⟩,
  ⟨some 4, none, .ld (.t 3)⟩,
  ⟨some 5, none, .callD 34 true [.t 4]⟩,
  ⟨some 6, none, .fa 1 (.t 1)⟩,
  ⟨some 7, none, .ldA 5 (.t 6)⟩,
  ⟨some 8, none, .callD 35 true [.t 7]⟩,
  ⟨some 9, none, .build [.snil, .snil, .snil, .int .i64 0, .snil, .bool false] [(0, (1, .t 5)), (1, (5, .t 8))]⟩,
  ⟨none, none, .st 6 (.t 2) (.t 9)⟩]) (.ret)), [.ldA 2 6]⟩
def s_impl_TurnOn : SFn := ⟨8, .seq (.rg [⟨some 1, none, .box (.t 0)⟩,
  ⟨some 2, none, .alloc [.snil, .snil, .int .i64 0, .snil, .bool false]⟩]) (.seq (.rg [⟨some 4, none, .ldA 5 (.t 1)⟩,
  ⟨some 5, none, .callD 35 true [.t 4]⟩,
  ⟨some 3, none, .alloc [.snil, .snil, .int .i64 0, .snil, .bool false]⟩,
  ⟨none, none, .st 5 (.t 3) (.t 5)⟩]) (.seq (.rg [⟨some 6, none, .fa 4 (.t 3)⟩,
  ⟨none, none, .st 1 (.t 6) (.c (.bool false))⟩]) (.seq (.rg [⟨some 7, none, .ldA 5 (.t 3)⟩,
  ⟨none, none, .st 5 (.t 2) (.t 7)⟩]) (.ret)))), [.ldA 2 5]⟩
def s_impl_Reopen : SFn := ⟨5, .seq (.rg [⟨some 1, none, .box (.t 0)⟩,
  ⟨some 2, none, .alloc [.snil, .snil, .int .i64 0, .snil, .bool false]⟩]) (.seq (.rg [⟨some 3, none, .ldA 5 (.t 1)⟩,
  ⟨some 4, none, .callD 36 true [.t 3]⟩,
  ⟨none, none, .st 5 (.t 2) (.t 4)⟩]) (.ret)), [.ldA 2 5]⟩
def s_impl_EngOn : SFn := ⟨11, .seq (.rg [⟨some 1, none, .box (.t 0)⟩,
  ⟨some 2, none, .alloc [.snil, .snil, .snil, .int .i64 0, .snil, .bool false]⟩]) (.seq (.rg [⟨some 4, none, .ldA 6 (.t 1)⟩,
  ⟨some 5, none, .callD 16 true [.t 4]⟩,
  ⟨some 3, none, .alloc [.snil, .snil, .snil, .int .i64 0, .snil, .bool false]⟩,
  ⟨none, none, .st 6 (.t 3) (.t 5)⟩]) (.seq (.rg [⟨some 6, none, .fa 1 (.t 1)⟩,
  ⟨some 7, none, .ldA 5 (.t 6)⟩,
  ⟨some 8, none, .callD 17 true [.t 7]⟩,
  ⟨some 9, none, .fa 1 (.t 3)⟩,
  ⟨none, none, .st 5 (.t 9) (.t 8)⟩]) (.seq (.rg [⟨some 10, none, .ldA 6 (.t 3)⟩,
  ⟨none, none, .st 6 (.t 2) (.t 10)⟩]) (.ret)))), [.ldA 2 6]⟩
def s_laws_eqCol : SFn := ⟨20, .seq (.rg [⟨some 2, none, .box (.t 0)⟩,
  ⟨some 3, none, .box (.t 1)⟩,
  ⟨some 4, none, .mv (.c (.bool false))⟩]) (.seq (.seq (.rg [⟨some 5, none, .fa 0 (.t 2)⟩,
  ⟨some 6, none, .ld (.t 5)⟩,
  ⟨some 7, none, .fa 0 (.t 3)⟩,
  ⟨some 8, none, .ld (.t 7)⟩,
  ⟨some 9, none, .bin .neq (.t 6) (.t 8)⟩]) (.cond (.t 9) (.seq (.rg [⟨some 4, none, .mv (.c (.bool false))⟩]) (.ret)) (.skip))) (.seq (.seq (.rg [⟨some 10, none, .fa 1 (.t 2)⟩,
  ⟨some 11, none, .ld (.t 10)⟩,
  ⟨some 12, none, .fa 1 (.t 3)⟩,
  ⟨some 13, none, .ld (.t 12)⟩,
  ⟨some 14, none, .bin .neq (.t 11) (.t 13)⟩]) (.cond (.t 14) (.seq (.rg [⟨some 4, none, .mv (.c (.bool false))⟩]) (.ret)) (.skip))) (.seq (.seq (.rg [⟨some 15, none, .fa 2 (.t 2)⟩,
  ⟨some 16, none, .ld (.t 15)⟩,
  ⟨some 17, none, .fa 2 (.t 3)⟩,
  ⟨some 18, none, .ld (.t 17)⟩,
  ⟨some 19, none, .binB .neq (.t 16) (.t 18)⟩]) (.cond (.t 19) (.seq (.rg [⟨some 4, none, .mv (.c (.bool false))⟩]) (.ret)) (.skip))) (.seq (.rg [⟨some 4, none, .mv (.c (.bool true))⟩]) (.ret))))), [.t 4]⟩
def s_laws_eqBy : SFn := ⟨15, .seq (.rg [⟨some 2, none, .box (.t 0)⟩,
  ⟨some 3, none, .box (.t 1)⟩,
  ⟨some 4, none, .mv (.c (.bool false))⟩]) (.seq (.seq (.rg [⟨some 5, none, .fa 0 (.t 2)⟩,
  ⟨some 6, none, .ld (.t 5)⟩,
  ⟨some 7, none, .fa 0 (.t 3)⟩,
  ⟨some 8, none, .ld (.t 7)⟩,
  ⟨some 9, none, .bin .neq (.t 6) (.t 8)⟩]) (.cond (.t 9) (.seq (.rg [⟨some 4, none, .mv (.c (.bool false))⟩]) (.ret)) (.skip))) (.seq (.seq (.rg [⟨some 10, none, .fa 1 (.t 2)⟩,
  ⟨some 11, none, .ld (.t 10)⟩,
  ⟨some 12, none, .fa 1 (.t 3)⟩,
  ⟨some 13, none, .ld (.t 12)⟩,
  ⟨some 14, none, .binB .neq (.t 11) (.t 13)⟩]) (.cond (.t 14) (.seq (.rg [⟨some 4, none, .mv (.c (.bool false))⟩]) (.ret)) (.skip))) (.seq (.rg [⟨some 4, none, .mv (.c (.bool true))⟩]) (.ret)))), [.t 4]⟩
def s_laws_eqIndex : SFn := ⟨21, .seq (.rg [⟨some 2, none, .box (.t 0)⟩,
  ⟨some 3, none, .box (.t 1)⟩,
  ⟨some 4, none, .mv (.c (.bool false))⟩]) (.seq (.seq (.rg [⟨some 5, none, .fa 0 (.t 2)⟩,
  ⟨some 6, none, .ld (.t 5)⟩,
  ⟨some 7, none, .fa 0 (.t 3)⟩,
  ⟨some 8, none, .ld (.t 7)⟩,
  ⟨some 9, none, .bin .neq (.t 6) (.t 8)⟩]) (.cond (.t 9) (.seq (.rg [⟨some 4, none, .mv (.c (.bool false))⟩]) (.ret)) (.skip))) (.seq (.seq (.rg [⟨some 10, none, .fa 1 (.t 2)⟩,
  ⟨some 11, none, .ld (.t 10)⟩,
  ⟨some 12, none, .fa 1 (.t 3)⟩,
  ⟨some 13, none, .ld (.t 12)⟩,
  ⟨some 14, none, .binB .neq (.t 11) (.t 13)⟩]) (.cond (.t 14) (.seq (.rg [⟨some 4, none, .mv (.c (.bool false))⟩]) (.ret)) (.skip))) (.seq (.seq (.rg [⟨some 15, none, .fa 2 (.t 2)⟩,
  ⟨some 16, none, .ld (.t 15)⟩,
  ⟨some 17, none, .fa 2 (.t 3)⟩,
  ⟨some 18, none, .ld (.t 17)⟩,
  ⟨some 19, none, .callP 67 [.t 16, .t 18]⟩,
  ⟨some 20, none, .un .not (.t 19)⟩]) (.cond (.t 20) (.seq (.rg [⟨some 4, none, .mv (.c (.bool false))⟩]) (.ret)) (.skip))) (.seq (.rg [⟨some 4, none, .mv (.c (.bool true))⟩]) (.ret))))), [.t 4]⟩
def s_laws_eqDef : SFn := ⟨28, .seq (.rg [⟨some 2, none, .box (.t 0)⟩,
  ⟨some 3, none, .box (.t 1)⟩,
  ⟨some 4, none, .mv (.c (.bool false))⟩]) (.seq (.seq (.rg [⟨some 5, none, .fa 0 (.t 2)⟩,
  ⟨some 6, none, .ld (.t 5)⟩,
  ⟨some 7, none, .fa 0 (.t 3)⟩,
  ⟨some 8, none, .ld (.t 7)⟩,
  ⟨some 9, none, .bin .neq (.t 6) (.t 8)⟩]) (.cond (.t 9) (.seq (.rg [⟨some 4, none, .mv (.c (.bool false))⟩]) (.ret)) (.skip))) (.seq (.seq (.rg [⟨some 10, none, .fa 1 (.t 2)⟩,
  ⟨some 11, none, .ld (.t 10)⟩,
  ⟨some 12, none, .fa 1 (.t 3)⟩,
  ⟨some 13, none, .ld (.t 12)⟩,
  ⟨some 14, none, .callP 66 [.t 11, .t 13]⟩,
  ⟨some 15, none, .un .not (.t 14)⟩]) (.cond (.t 15) (.seq (.rg [⟨some 4, none, .mv (.c (.bool false))⟩]) (.ret)) (.skip))) (.seq (.seq (.rg [⟨some 16, none, .fa 2 (.t 2)⟩,
  ⟨some 17, none, .ld (.t 16)⟩,
  ⟨some 18, none, .fa 2 (.t 3)⟩,
  ⟨some 19, none, .ld (.t 18)⟩,
  ⟨some 20, none, .callP 67 [.t 17, .t 19]⟩,
  ⟨some 21, none, .un .not (.t 20)⟩]) (.cond (.t 21) (.seq (.rg [⟨some 4, none, .mv (.c (.bool false))⟩]) (.ret)) (.skip))) (.seq (.seq (.rg [⟨some 22, none, .fa 3 (.t 2)⟩,
  ⟨some 23, none, .ld (.t 22)⟩,
  ⟨some 24, none, .fa 3 (.t 3)⟩,
  ⟨some 25, none, .ld (.t 24)⟩,
  ⟨some 26, none, .callP 68 [.t 23, .t 25]⟩,
  ⟨some 27, none, .un .not (.t 26)⟩]) (.cond (.t 27) (.seq (.rg [⟨some 4, none, .mv (.c (.bool false))⟩]) (.ret)) (.skip))) (.seq (.rg [⟨some 4, none, .mv (.c (.bool true))⟩]) (.ret)))))), [.t 4]⟩
def s_laws_eqWrite : SFn := ⟨16, .seq (.rg [⟨some 2, none, .box (.t 0)⟩,
  ⟨some 3, none, .box (.t 1)⟩,
  ⟨some 4, none, .mv (.c (.bool false))⟩]) (.seq (.seq (.rg [⟨some 5, none, .fa 0 (.t 2)⟩,
  ⟨some 6, none, .ld (.t 5)⟩,
  ⟨some 7, none, .fa 0 (.t 3)⟩,
  ⟨some 8, none, .ld (.t 7)⟩,
  ⟨some 9, none, .bin .neq (.t 6) (.t 8)⟩]) (.cond (.t 9) (.seq (.rg [⟨some 4, none, .mv (.c (.bool false))⟩]) (.ret)) (.skip))) (.seq (.seq (.rg [⟨some 10, none, .fa 1 (.t 2)⟩,
  ⟨some 11, none, .ld (.t 10)⟩,
  ⟨some 12, none, .fa 1 (.t 3)⟩,
  ⟨some 13, none, .ld (.t 12)⟩,
  ⟨some 14, none, .callP 69 [.t 11, .t 13]⟩,
  ⟨some 15, none, .un .not (.t 14)⟩]) (.cond (.t 15) (.seq (.rg [⟨some 4, none, .mv (.c (.bool false))⟩]) (.ret)) (.skip))) (.seq (.rg [⟨some 4, none, .mv (.c (.bool true))⟩]) (.ret)))), [.t 4]⟩
def s_laws_eqFault : SFn := ⟨20, .seq (.rg [⟨some 2, none, .box (.t 0)⟩,
  ⟨some 3, none, .box (.t 1)⟩,
  ⟨some 4, none, .mv (.c (.bool false))⟩]) (.seq (.seq (.rg [⟨some 5, none, .fa 0 (.t 2)⟩,
  ⟨some 6, none, .ld (.t 5)⟩,
  ⟨some 7, none, .fa 0 (.t 3)⟩,
  ⟨some 8, none, .ld (.t 7)⟩,
  ⟨some 9, none, .bin .neq (.t 6) (.t 8)⟩]) (.cond (.t 9) (.seq (.rg [⟨some 4, none, .mv (.c (.bool false))⟩]) (.ret)) (.skip))) (.seq (.seq (.rg [⟨some 10, none, .fa 1 (.t 2)⟩,
  ⟨some 11, none, .ld (.t 10)⟩,
  ⟨some 12, none, .fa 1 (.t 3)⟩,
  ⟨some 13, none, .ld (.t 12)⟩,
  ⟨some 14, none, .bin .neq (.t 11) (.t 13)⟩]) (.cond (.t 14) (.seq (.rg [⟨some 4, none, .mv (.c (.bool false))⟩]) (.ret)) (.skip))) (.seq (.seq (.rg [⟨some 15, none, .fa 2 (.t 2)⟩,
  ⟨some 16, none, .ld (.t 15)⟩,
  ⟨some 17, none, .fa 2 (.t 3)⟩,
  ⟨some 18, none, .ld (.t 17)⟩,
  ⟨some 19, none, .bin .neq (.t 16) (.t 18)⟩]) (.cond (.t 19) (.seq (.rg [⟨some 4, none, .mv (.c (.bool false))⟩]) (.ret)) (.skip))) (.seq (.rg [⟨some 4, none, .mv (.c (.bool true))⟩]) (.ret))))), [.t 4]⟩
def s_laws_eqDisk : SFn := ⟨33, .seq (.rg [⟨some 2, none, .box (.t 0)⟩,
  ⟨some 3, none, .box (.t 1)⟩,
  ⟨some 4, none, .mv (.c (.bool false))⟩]) (.seq (.seq (.rg [⟨some 5, none, .fa 0 (.t 2)⟩,
  ⟨some 6, none, .ld (.t 5)⟩,
  ⟨some 7, none, .fa 0 (.t 3)⟩,
  ⟨some 8, none, .ld (.t 7)⟩,
  ⟨some 9, none, .callP 38 [.t 6, .t 8]⟩,
  ⟨some 10, none, .un .not (.t 9)⟩]) (.cond (.t 10) (.seq (.rg [⟨some 4, none, .mv (.c (.bool false))⟩]) (.ret)) (.skip))) (.seq (.seq (.rg [⟨some 11, none, .fa 1 (.t 2)⟩,
  ⟨some 12, none, .ld (.t 11)⟩,
  ⟨some 13, none, .fa 1 (.t 3)⟩,
  ⟨some 14, none, .ld (.t 13)⟩,
  ⟨some 15, none, .callP 39 [.t 12, .t 14]⟩,
  ⟨some 16, none, .un .not (.t 15)⟩]) (.cond (.t 16) (.seq (.rg [⟨some 4, none, .mv (.c (.bool false))⟩]) (.ret)) (.skip))) (.seq (.seq (.rg [⟨some 17, none, .fa 2 (.t 2)⟩,
  ⟨some 18, none, .ld (.t 17)⟩,
  ⟨some 19, none, .fa 2 (.t 3)⟩,
  ⟨some 20, none, .ld (.t 19)⟩,
  ⟨some 21, none, .bin .neq (.t 18) (.t 20)⟩]) (.cond (.t 21) (.seq (.rg [⟨some 4, none, .mv (.c (.bool false))⟩]) (.ret)) (.skip))) (.seq (.seq (.rg [⟨some 22, none, .fa 3 (.t 2)⟩,
  ⟨some 23, none, .ld (.t 22)⟩,
  ⟨some 24, none, .fa 3 (.t 3)⟩,
  ⟨some 25, none, .ld (.t 24)⟩,
  ⟨some 26, none, .callP 40 [.t 23, .t 25]⟩,
  ⟨some 27, none, .un .not (.t 26)⟩]) (.cond (.t 27) (.seq (.rg [⟨some 4, none, .mv (.c (.bool false))⟩]) (.ret)) (.skip))) (.seq (.seq (.rg [⟨some 28, none, .fa 4 (.t 2)⟩,
  ⟨some 29, none, .ld (.t 28)⟩,
  ⟨some 30, none, .fa 4 (.t 3)⟩,
  ⟨some 31, none, .ld (.t 30)⟩,
  ⟨some 32, none, .binB .neq (.t 29) (.t 31)⟩]) (.cond (.t 32) (.seq (.rg [⟨some 4, none, .mv (.c (.bool false))⟩]) (.ret)) (.skip))) (.seq (.rg [⟨some 4, none, .mv (.c (.bool true))⟩]) (.ret))))))), [.t 4]⟩
def s_laws_eqEng : SFn := ⟨17, .seq (.rg [⟨some 2, none, .box (.t 0)⟩,
  ⟨some 3, none, .box (.t 1)⟩,
  ⟨some 4, none, .mv (.c (.bool false))⟩]) (.seq (.seq (.rg [⟨some 5, none, .fa 0 (.t 2)⟩,
  ⟨some 6, none, .ld (.t 5)⟩,
  ⟨some 7, none, .fa 0 (.t 3)⟩,
  ⟨some 8, none, .ld (.t 7)⟩,
  ⟨some 9, none, .callP 18 [.t 6, .t 8]⟩,
  ⟨some 10, none, .un .not (.t 9)⟩]) (.cond (.t 10) (.seq (.rg [⟨some 4, none, .mv (.c (.bool false))⟩]) (.ret)) (.skip))) (.seq (.seq (.rg [⟨some 11, none, .fa 1 (.t 2)⟩,
  ⟨some 12, none, .ldA 5 (.t 11)⟩,
  ⟨some 13, none, .fa 1 (.t 3)⟩,
  ⟨some 14, none, .ldA 5 (.t 13)⟩,
  ⟨some 15, none, .callP 19 [.t 12, .t 14]⟩,
  ⟨some 16, none, .un .not (.t 15)⟩]) (.cond (.t 16) (.seq (.rg [⟨some 4, none, .mv (.c (.bool false))⟩]) (.ret)) (.skip))) (.seq (.rg [⟨some 4, none, .mv (.c (.bool true))⟩]) (.ret)))), [.t 4]⟩
def s_laws_markText_L0 : SCode := .seq (.seq (.rg [⟨some 6, none, .mv (.t 0)⟩,
  ⟨some 7, none, .bin .gtr (.t 6) (.c (.int .i64 0))⟩]) (.cond (.t 7) (.skip) (.exit 0))) (.blk 1 (.seq (.rg [⟨some 8, none, .mv (.t 0)⟩,
  ⟨some 9, none, .bin .rem (.t 8) (.c (.int .i64 10))⟩,
  ⟨some 10, none, .bin .add (.c (.int .i64 48)) (.t 9)⟩,
  ⟨some 11, none, .cvI .u8 (.t 10)⟩,
  ⟨some 12, none, .bslice false [.int .u8 0] 1 [(0, .t 11)]⟩,
  ⟨some 13, none, .cvS (.t 12)⟩,
  ⟨some 14, none, .mv (.t 3)⟩,
  ⟨some 15, none, .bin .add (.t 13) (.t 14)⟩,
  ⟨some 3, none, .mv (.t 15)⟩]) (.rg [⟨some 16, none, .mv (.t 0)⟩,
  ⟨some 17, none, .bin .quo (.t 16) (.c (.int .i64 10))⟩,
  ⟨some 0, none, .mv (.t 17)⟩])))
def s_laws_markText : SFn := ⟨20, .seq (.rg [⟨some 2, none, .mv (.c (.str []))⟩]) (.seq (.seq (.rg [⟨some 4, none, .mv (.t 0)⟩,
  ⟨some 5, none, .bin .leq (.t 4) (.c (.int .i64 0))⟩]) (.cond (.t 5) (.seq (.rg [⟨some 2, none, .mv (.c (.str [109, 48]))⟩]) (.ret)) (.skip))) (.seq (.rg [⟨some 3, none, .mv (.c (.str []))⟩]) (.seq (.blk 0 (.loop s_laws_markText_L0)) (.seq (.rg [⟨some 18, none, .mv (.t 3)⟩,
  ⟨some 19, none, .bin .add (.c (.str [109])) (.t 18)⟩,
  ⟨some 2, none, .mv (.t 19)⟩]) (.ret))))), [.t 2]⟩
def s_laws_markDisk : SFn := ⟨18, .seq (.rg [⟨some 2, none, .box (.t 0)⟩,
  ⟨some 4, none, .mv (.c (.int .i64 0))⟩]) (.seq (.rg [⟨some 5, none, .fa 0 (.t 2)⟩,
  ⟨some 6, none, .ld (.t 5)⟩,
  ⟨some 7, none, .mv (.t 1)⟩,
  ⟨some 8, none, .callW 45 [.t 6, .t 7]⟩,
  ⟨some 1, none, .mv (.t 8)⟩]) (.seq (.rg [⟨some 9, none, .fa 1 (.t 2)⟩,
  ⟨some 10, none, .ld (.t 9)⟩,
  ⟨some 11, none, .mv (.t 1)⟩,
  ⟨some 12, none, .callW 46 [.t 10, .t 11]⟩,
  ⟨some 1, none, .mv (.t 12)⟩]) (.seq (.rg [⟨some 13, none, .fa 3 (.t 2)⟩,
  ⟨some 14, none, .ld (.t 13)⟩,
  ⟨some 15, none, .mv (.t 1)⟩,
  ⟨some 16, none, .callW 47 [.t 14, .t 15]⟩,
  ⟨some 1, none, .mv (.t 16)⟩]) (.seq (.rg [⟨some 17, none, .mv (.t 1)⟩,
  ⟨some 4, none, .mv (.t 17)⟩]) (.ret))))), [.t 4]⟩
def s_laws_markEng : SFn := ⟨14, .seq (.rg [⟨some 2, none, .box (.t 0)⟩,
  ⟨some 4, none, .mv (.c (.int .i64 0))⟩]) (.seq (.rg [⟨some 5, none, .fa 0 (.t 2)⟩,
  ⟨some 6, none, .ld (.t 5)⟩,
  ⟨some 7, none, .mv (.t 1)⟩,
  ⟨some 8, none, .callW 20 [.t 6, .t 7]⟩,
  ⟨some 1, none, .mv (.t 8)⟩]) (.seq (.rg [⟨some 9, none, .fa 1 (.t 2)⟩,
  ⟨some 10, none, .ldA 5 (.t 9)⟩,
  ⟨some 11, none, .mv (.t 1)⟩,
  ⟨some 12, none, .callW 21 [.t 10, .t 11]⟩,
  ⟨some 1, none, .mv (.t 12)⟩]) (.seq (.rg [⟨some 13, none, .mv (.t 1)⟩,
  ⟨some 4, none, .mv (.t 13)⟩]) (.ret)))), [.t 4]⟩
def s_laws_heldDisk : SFn := ⟨24, .seq (.rg [⟨some 2, none, .box (.t 0)⟩,
  ⟨some 4, none, .mv (.c (.int .i64 0))⟩]) (.seq (.rg [⟨some 5, none, .fa 0 (.t 2)⟩,
  ⟨some 6, none, .ld (.t 5)⟩,
  ⟨some 7, none, .mv (.t 1)⟩,
  ⟨some 8, none, .callP 51 [.t 6, .t 7]⟩,
  ⟨some 1, none, .mv (.t 8)⟩]) (.seq (.seq (.rg [⟨some 9, none, .mv (.t 1)⟩,
  ⟨some 10, none, .bin .lss (.t 9) (.c (.int .i64 0))⟩]) (.cond (.t 10) (.seq (.rg [⟨some 4, none, .mv (.c (.int .i64 (-1)))⟩]) (.ret)) (.skip))) (.seq (.rg [⟨some 11, none, .fa 1 (.t 2)⟩,
  ⟨some 12, none, .ld (.t 11)⟩,
  ⟨some 13, none, .mv (.t 1)⟩,
  ⟨some 14, none, .callP 52 [.t 12, .t 13]⟩,
  ⟨some 1, none, .mv (.t 14)⟩]) (.seq (.seq (.rg [⟨some 15, none, .mv (.t 1)⟩,
  ⟨some 16, none, .bin .lss (.t 15) (.c (.int .i64 0))⟩]) (.cond (.t 16) (.seq (.rg [⟨some 4, none, .mv (.c (.int .i64 (-1)))⟩]) (.ret)) (.skip))) (.seq (.rg [⟨some 17, none, .fa 3 (.t 2)⟩,
  ⟨some 18, none, .ld (.t 17)⟩,
  ⟨some 19, none, .mv (.t 1)⟩,
  ⟨some 20, none, .callP 53 [.t 18, .t 19]⟩,
  ⟨some 1, none, .mv (.t 20)⟩]) (.seq (.seq (.rg [⟨some 21, none, .mv (.t 1)⟩,
  ⟨some 22, none, .bin .lss (.t 21) (.c (.int .i64 0))⟩]) (.cond (.t 22) (.seq (.rg [⟨some 4, none, .mv (.c (.int .i64 (-1)))⟩]) (.ret)) (.skip))) (.seq (.rg [⟨some 23, none, .mv (.t 1)⟩,
  ⟨some 4, none, .mv (.t 23)⟩]) (.ret)))))))), [.t 4]⟩
def s_laws_heldEng : SFn := ⟨18, .seq (.rg [⟨some 2, none, .box (.t 0)⟩,
  ⟨some 4, none, .mv (.c (.int .i64 0))⟩]) (.seq (.rg [⟨some 5, none, .fa 0 (.t 2)⟩,
  ⟨some 6, none, .ld (.t 5)⟩,
  ⟨some 7, none, .mv (.t 1)⟩,
  ⟨some 8, none, .callP 22 [.t 6, .t 7]⟩,
  ⟨some 1, none, .mv (.t 8)⟩]) (.seq (.seq (.rg [⟨some 9, none, .mv (.t 1)⟩,
  ⟨some 10, none, .bin .lss (.t 9) (.c (.int .i64 0))⟩]) (.cond (.t 10) (.seq (.rg [⟨some 4, none, .mv (.c (.int .i64 (-1)))⟩]) (.ret)) (.skip))) (.seq (.rg [⟨some 11, none, .fa 1 (.t 2)⟩,
  ⟨some 12, none, .ldA 5 (.t 11)⟩,
  ⟨some 13, none, .mv (.t 1)⟩,
  ⟨some 14, none, .callP 23 [.t 12, .t 13]⟩,
  ⟨some 1, none, .mv (.t 14)⟩]) (.seq (.seq (.rg [⟨some 15, none, .mv (.t 1)⟩,
  ⟨some 16, none, .bin .lss (.t 15) (.c (.int .i64 0))⟩]) (.cond (.t 16) (.seq (.rg [⟨some 4, none, .mv (.c (.int .i64 (-1)))⟩]) (.ret)) (.skip))) (.seq (.rg [⟨some 17, none, .mv (.t 1)⟩,
  ⟨some 4, none, .mv (.t 17)⟩]) (.ret)))))), [.t 4]⟩
def s_laws_FnExactEngOn : SFn := ⟨69, .seq (.rg [⟨some 1, none, .box (.t 0)⟩,
  ⟨some 2, none, .mv (.c (.bool false))⟩]) (.seq (.rg [⟨some 3, none, .mv (.c (.int .i64 1048576))⟩]) (.seq (.rg [⟨some 11, none, .ldA 6 (.t 1)⟩,
  ⟨some 12, none, .mv (.t 3)⟩,
  ⟨some 13, none, .callP 4 [.t 11, .t 12]⟩,
  ⟨some 3, none, .mv (.t 13)⟩]) (.seq (.seq (.rg [⟨some 14, none, .mv (.t 3)⟩,
  ⟨some 15, none, .bin .lss (.t 14) (.c (.int .i64 0))⟩]) (.cond (.t 15) (.seq (.rg [⟨some 2, none, .mv (.c (.bool true))⟩]) (.ret)) (.skip))) (.seq (.rg [⟨some 16, none, .ldA 6 (.t 1)⟩,
  ⟨some 17, none, .callD 6 false [.t 16]⟩,
  ⟨some 18, none, .callP 5 [.t 17]⟩,
  ⟨some 4, none, .alloc [.snil, .snil, .snil, .int .i64 0, .snil, .bool false]⟩,
  ⟨none, none, .st 6 (.t 4) (.t 18)⟩]) (.seq (.rg [⟨some 19, none, .ldA 6 (.t 1)⟩,
  ⟨some 20, none, .callD 6 true [.t 19]⟩,
  ⟨some 5, none, .alloc [.snil, .snil, .snil, .int .i64 0, .snil, .bool false]⟩,
  ⟨none, none, .st 6 (.t 5) (.t 20)⟩]) (.seq (.rg [⟨some 21, none, .ldA 6 (.t 5)⟩,
  ⟨some 22, none, .callD 7 true [.t 21]⟩,
  ⟨some 6, none, .alloc [.snil, .snil, .snil, .int .i64 0, .snil, .bool false]⟩,
  ⟨none, none, .st 6 (.t 6) (.t 22)⟩]) (.seq (.seq (.rg [⟨some 23, none, .ldA 6 (.t 6)⟩,
  ⟨some 24, none, .ldA 6 (.t 4)⟩,
  ⟨some 25, none, .callD 8 false [.t 23, .t 24]⟩,
  ⟨some 26, none, .un .not (.t 25)⟩]) (.cond (.t 26) (.seq (.rg [⟨some 2, none, .mv (.c (.bool false))⟩]) (.ret)) (.skip))) (.seq (.seq (.rg [⟨some 27, none, .ldA 6 (.t 5)⟩,
  ⟨some 28, none, .ldA 6 (.t 1)⟩,
  ⟨some 29, none, .callD 6 false [.t 28]⟩,
  ⟨some 30, none, .callD 8 false [.t 27, .t 29]⟩,
  ⟨some 31, none, .un .not (.t 30)⟩]) (.cond (.t 31) (.seq (.rg [⟨some 2, none, .mv (.c (.bool false))⟩]) (.ret)) (.skip))) (.seq (.rg [⟨some 7, none, .mv (.c (.int .i64 1))⟩]) (.seq (.rg [⟨some 32, none, .ldA 6 (.t 5)⟩,
  ⟨some 33, none, .mv (.t 7)⟩,
  ⟨some 34, none, .callW 9 [.t 32, .t 33]⟩,
  ⟨some 7, none, .mv (.t 34)⟩]) (.seq (.seq (.rg [⟨some 35, none, .mv (.t 7)⟩,
  ⟨some 36, none, .bin .lss (.t 35) (.c (.int .i64 0))⟩,
  ⟨some 37, none, .mv (.t 36)⟩,
  ⟨some 38, some (37, false), .ldA 6 (.t 6)⟩,
  ⟨some 39, some (37, false), .ldA 6 (.t 4)⟩,
  ⟨some 40, some (37, false), .callD 8 false [.t 38, .t 39]⟩,
  ⟨some 41, some (37, false), .un .not (.t 40)⟩,
  ⟨some 42, none, .pick (.t 37) (.c (.bool true)) (.t 41)⟩]) (.cond (.t 42) (.seq (.rg [⟨some 2, none, .mv (.c (.bool false))⟩]) (.ret)) (.skip))) (.seq (.rg [⟨some 8, none, .mv (.c (.int .i64 1))⟩]) (.seq (.rg [⟨some 43, none, .ldA 6 (.t 6)⟩,
  ⟨some 44, none, .mv (.t 8)⟩,
  ⟨some 45, none, .callW 9 [.t 43, .t 44]⟩,
  ⟨some 8, none, .mv (.t 45)⟩]) (.seq (.rg [⟨some 9, none, .mv (.c (.int .i64 1))⟩]) (.seq (.rg [⟨some 46, none, .ldA 6 (.t 6)⟩,
  ⟨some 47, none, .mv (.t 9)⟩,
  ⟨some 48, none, .callD 10 false [.t 46, .t 47]⟩,
  ⟨some 9, none, .mv (.t 48)⟩]) (.seq (.seq (.rg [⟨some 49, none, .mv (.t 9)⟩,
  ⟨some 50, none, .bin .lss (.t 49) (.c (.int .i64 0))⟩]) (.cond (.t 50) (.seq (.rg [⟨some 2, none, .mv (.c (.bool false))⟩]) (.ret)) (.skip))) (.seq (.seq (.rg [⟨some 51, none, .mv (.t 9)⟩,
  ⟨some 52, none, .mv (.t 8)⟩,
  ⟨some 53, none, .bin .neq (.t 51) (.t 52)⟩]) (.cond (.t 53) (.seq (.rg [⟨some 2, none, .mv (.c (.bool false))⟩]) (.ret)) (.skip))) (.seq (.rg [⟨some 54, none, .ldA 6 (.t 1)⟩,
  ⟨some 55, none, .callD 6 false [.t 54]⟩,
  ⟨some 56, none, .callD 7 false [.t 55]⟩,
  ⟨some 10, none, .alloc [.snil, .snil, .snil, .int .i64 0, .snil, .bool false]⟩,
  ⟨none, none, .st 6 (.t 10) (.t 56)⟩]) (.seq (.seq (.rg [⟨some 57, none, .ldA 6 (.t 10)⟩,
  ⟨some 58, none, .ldA 6 (.t 4)⟩,
  ⟨some 59, none, .callD 8 false [.t 57, .t 58]⟩,
  ⟨some 60, none, .un .not (.t 59)⟩]) (.cond (.t 60) (.seq (.rg [⟨some 2, none, .mv (.c (.bool false))⟩]) (.ret)) (.skip))) (.seq (.rg [⟨some 9, none, .mv (.c (.int .i64 1))⟩]) (.seq (.rg [⟨some 61, none, .ldA 6 (.t 6)⟩,
  ⟨some 62, none, .mv (.t 9)⟩,
  ⟨some 63, none, .callD 10 false [.t 61, .t 62]⟩,
  ⟨some 9, none, .mv (.t 63)⟩]) (.seq (.seq (.rg [⟨some 64, none, .mv (.t 9)⟩,
  ⟨some 65, none, .bin .lss (.t 64) (.c (.int .i64 0))⟩]) (.cond (.t 65) (.seq (.rg [⟨some 2, none, .mv (.c (.bool false))⟩]) (.ret)) (.skip))) (.seq (.seq (.rg [⟨some 66, none, .mv (.t 9)⟩,
  ⟨some 67, none, .mv (.t 8)⟩,
  ⟨some 68, none, .bin .neq (.t 66) (.t 67)⟩]) (.cond (.t 68) (.seq (.rg [⟨some 2, none, .mv (.c (.bool false))⟩]) (.ret)) (.skip))) (.seq (.rg [⟨some 2, none, .mv (.c (.bool true))⟩]) (.ret))))))))))))))))))))))))), [.t 2]⟩
def b_laws_markColS : SCode := .seq (.rg [⟨some 12, none, .mv (.t 0)⟩,
  ⟨some 13, none, .mv (.t 5)⟩,
  ⟨some 14, none, .mv (.t 1)⟩,
  ⟨some 15, none, .callP 41 [.t 14]⟩,
  ⟨some 16, none, .ia 3 (.t 12) (.t 13)⟩,
  ⟨some 17, none, .fa 0 (.t 16)⟩,
  ⟨none, none, .st 1 (.t 17) (.t 15)⟩]) (.seq (.rg [⟨some 18, none, .mv (.t 1)⟩,
  ⟨some 19, none, .bin .add (.t 18) (.c (.int .i64 1))⟩,
  ⟨some 1, none, .mv (.t 19)⟩]) (.seq (.rg [⟨some 20, none, .mv (.t 0)⟩,
  ⟨some 21, none, .mv (.t 5)⟩,
  ⟨some 22, none, .mv (.t 1)⟩,
  ⟨some 23, none, .ia 3 (.t 20) (.t 21)⟩,
  ⟨some 24, none, .fa 1 (.t 23)⟩,
  ⟨none, none, .st 1 (.t 24) (.t 22)⟩]) (.seq (.rg [⟨some 25, none, .mv (.t 1)⟩,
  ⟨some 26, none, .bin .add (.t 25) (.c (.int .i64 1))⟩,
  ⟨some 1, none, .mv (.t 26)⟩]) (.seq (.rg [⟨some 27, none, .mv (.t 0)⟩,
  ⟨some 28, none, .mv (.t 5)⟩,
  ⟨some 29, none, .mv (.t 1)⟩,
  ⟨some 30, none, .bin .rem (.t 29) (.c (.int .i64 3))⟩,
  ⟨some 31, none, .bin .eql (.t 30) (.c (.int .i64 0))⟩,
  ⟨some 32, none, .ia 3 (.t 27) (.t 28)⟩,
  ⟨some 33, none, .fa 2 (.t 32)⟩,
  ⟨none, none, .st 1 (.t 33) (.t 31)⟩]) (.rg [⟨some 34, none, .mv (.t 1)⟩,
  ⟨some 35, none, .bin .add (.t 34) (.c (.int .i64 1))⟩,
  ⟨some 1, none, .mv (.t 35)⟩])))))
def b_laws_markByS : SCode := .seq (.rg [⟨some 12, none, .mv (.t 0)⟩,
  ⟨some 13, none, .mv (.t 5)⟩,
  ⟨some 14, none, .mv (.t 1)⟩,
  ⟨some 15, none, .ia 2 (.t 12) (.t 13)⟩,
  ⟨some 16, none, .fa 0 (.t 15)⟩,
  ⟨none, none, .st 1 (.t 16) (.t 14)⟩]) (.seq (.rg [⟨some 17, none, .mv (.t 1)⟩,
  ⟨some 18, none, .bin .add (.t 17) (.c (.int .i64 1))⟩,
  ⟨some 1, none, .mv (.t 18)⟩]) (.seq (.rg [⟨some 19, none, .mv (.t 0)⟩,
  ⟨some 20, none, .mv (.t 5)⟩,
  ⟨some 21, none, .mv (.t 1)⟩,
  ⟨some 22, none, .bin .rem (.t 21) (.c (.int .i64 3))⟩,
  ⟨some 23, none, .bin .eql (.t 22) (.c (.int .i64 0))⟩,
  ⟨some 24, none, .ia 2 (.t 19) (.t 20)⟩,
  ⟨some 25, none, .fa 1 (.t 24)⟩,
  ⟨none, none, .st 1 (.t 25) (.t 23)⟩]) (.rg [⟨some 26, none, .mv (.t 1)⟩,
  ⟨some 27, none, .bin .add (.t 26) (.c (.int .i64 1))⟩,
  ⟨some 1, none, .mv (.t 27)⟩])))
def b_laws_markIndexS : SCode := .seq (.rg [⟨some 12, none, .mv (.t 0)⟩,
  ⟨some 13, none, .mv (.t 5)⟩,
  ⟨some 14, none, .mv (.t 1)⟩,
  ⟨some 15, none, .callP 41 [.t 14]⟩,
  ⟨some 16, none, .ia 3 (.t 12) (.t 13)⟩,
  ⟨some 17, none, .fa 0 (.t 16)⟩,
  ⟨none, none, .st 1 (.t 17) (.t 15)⟩]) (.seq (.rg [⟨some 18, none, .mv (.t 1)⟩,
  ⟨some 19, none, .bin .add (.t 18) (.c (.int .i64 1))⟩,
  ⟨some 1, none, .mv (.t 19)⟩]) (.seq (.rg [⟨some 20, none, .mv (.t 0)⟩,
  ⟨some 21, none, .mv (.t 5)⟩,
  ⟨some 22, none, .mv (.t 1)⟩,
  ⟨some 23, none, .bin .rem (.t 22) (.c (.int .i64 3))⟩,
  ⟨some 24, none, .bin .eql (.t 23) (.c (.int .i64 0))⟩,
  ⟨some 25, none, .ia 3 (.t 20) (.t 21)⟩,
  ⟨some 26, none, .fa 1 (.t 25)⟩,
  ⟨none, none, .st 1 (.t 26) (.t 24)⟩]) (.seq (.rg [⟨some 27, none, .mv (.t 1)⟩,
  ⟨some 28, none, .bin .add (.t 27) (.c (.int .i64 1))⟩,
  ⟨some 1, none, .mv (.t 28)⟩]) (.rg [⟨some 29, none, .mv (.t 0)⟩,
  ⟨some 30, none, .mv (.t 5)⟩,
  ⟨some 31, none, .ia 3 (.t 29) (.t 30)⟩,
  ⟨some 32, none, .fa 2 (.t 31)⟩,
  ⟨some 33, none, .ld (.t 32)⟩,
  ⟨some 34, none, .mv (.t 1)⟩,
  ⟨some 35, none, .callW 43 [.t 33, .t 34]⟩,
  ⟨some 1, none, .mv (.t 35)⟩]))))
def b_laws_markDefS : SCode := .seq (.rg [⟨some 12, none, .mv (.t 0)⟩,
  ⟨some 13, none, .mv (.t 5)⟩,
  ⟨some 14, none, .mv (.t 1)⟩,
  ⟨some 15, none, .callP 41 [.t 14]⟩,
  ⟨some 16, none, .ia 4 (.t 12) (.t 13)⟩,
  ⟨some 17, none, .fa 0 (.t 16)⟩,
  ⟨none, none, .st 1 (.t 17) (.t 15)⟩]) (.seq (.rg [⟨some 18, none, .mv (.t 1)⟩,
  ⟨some 19, none, .bin .add (.t 18) (.c (.int .i64 1))⟩,
  ⟨some 1, none, .mv (.t 19)⟩]) (.seq (.rg [⟨some 20, none, .mv (.t 0)⟩,
  ⟨some 21, none, .mv (.t 5)⟩,
  ⟨some 22, none, .ia 4 (.t 20) (.t 21)⟩,
  ⟨some 23, none, .fa 1 (.t 22)⟩,
  ⟨some 24, none, .ld (.t 23)⟩,
  ⟨some 25, none, .mv (.t 1)⟩,
  ⟨some 26, none, .callW 42 [.t 24, .t 25]⟩,
  ⟨some 1, none, .mv (.t 26)⟩]) (.seq (.rg [⟨some 27, none, .mv (.t 0)⟩,
  ⟨some 28, none, .mv (.t 5)⟩,
  ⟨some 29, none, .ia 4 (.t 27) (.t 28)⟩,
  ⟨some 30, none, .fa 2 (.t 29)⟩,
  ⟨some 31, none, .ld (.t 30)⟩,
  ⟨some 32, none, .mv (.t 1)⟩,
  ⟨some 33, none, .callW 43 [.t 31, .t 32]⟩,
  ⟨some 1, none, .mv (.t 33)⟩]) (.rg [⟨some 34, none, .mv (.t 0)⟩,
  ⟨some 35, none, .mv (.t 5)⟩,
  ⟨some 36, none, .ia 4 (.t 34) (.t 35)⟩,
  ⟨some 37, none, .fa 3 (.t 36)⟩,
  ⟨some 38, none, .ld (.t 37)⟩,
  ⟨some 39, none, .mv (.t 1)⟩,
  ⟨some 40, none, .callW 44 [.t 38, .t 39]⟩,
  ⟨some 1, none, .mv (.t 40)⟩]))))
def b_laws_markByteS : SCode := .seq (.rg [⟨some 12, none, .mv (.t 0)⟩,
  ⟨some 13, none, .mv (.t 5)⟩,
  ⟨some 14, none, .mv (.t 1)⟩,
  ⟨some 15, none, .cvI .u8 (.t 14)⟩,
  ⟨some 16, none, .ia 1 (.t 12) (.t 13)⟩,
  ⟨none, none, .st 1 (.t 16) (.t 15)⟩]) (.rg [⟨some 17, none, .mv (.t 1)⟩,
  ⟨some 18, none, .bin .add (.t 17) (.c (.int .i64 1))⟩,
  ⟨some 1, none, .mv (.t 18)⟩])
def b_laws_markByteSS : SCode := .rg [⟨some 12, none, .mv (.t 0)⟩,
  ⟨some 13, none, .mv (.t 5)⟩,
  ⟨some 14, none, .ia 1 (.t 12) (.t 13)⟩,
  ⟨some 15, none, .ld (.t 14)⟩,
  ⟨some 16, none, .mv (.t 1)⟩,
  ⟨some 17, none, .callW 72 [.t 15, .t 16]⟩,
  ⟨some 1, none, .mv (.t 17)⟩]
def b_laws_markWriteS : SCode := .seq (.rg [⟨some 12, none, .mv (.t 0)⟩,
  ⟨some 13, none, .mv (.t 5)⟩,
  ⟨some 14, none, .mv (.t 1)⟩,
  ⟨some 15, none, .ia 2 (.t 12) (.t 13)⟩,
  ⟨some 16, none, .fa 0 (.t 15)⟩,
  ⟨none, none, .st 1 (.t 16) (.t 14)⟩]) (.seq (.rg [⟨some 17, none, .mv (.t 1)⟩,
  ⟨some 18, none, .bin .add (.t 17) (.c (.int .i64 1))⟩,
  ⟨some 1, none, .mv (.t 18)⟩]) (.rg [⟨some 19, none, .mv (.t 0)⟩,
  ⟨some 20, none, .mv (.t 5)⟩,
  ⟨some 21, none, .ia 2 (.t 19) (.t 20)⟩,
  ⟨some 22, none, .fa 1 (.t 21)⟩,
  ⟨some 23, none, .ld (.t 22)⟩,
  ⟨some 24, none, .mv (.t 1)⟩,
  ⟨some 25, none, .callW 72 [.t 23, .t 24]⟩,
  ⟨some 1, none, .mv (.t 25)⟩]))
def b_laws_markFaultS : SCode := .seq (.rg [⟨some 12, none, .mv (.t 0)⟩,
  ⟨some 13, none, .mv (.t 5)⟩,
  ⟨some 14, none, .mv (.t 1)⟩,
  ⟨some 15, none, .ia 3 (.t 12) (.t 13)⟩,
  ⟨some 16, none, .fa 0 (.t 15)⟩,
  ⟨none, none, .st 1 (.t 16) (.t 14)⟩]) (.seq (.rg [⟨some 17, none, .mv (.t 1)⟩,
  ⟨some 18, none, .bin .add (.t 17) (.c (.int .i64 1))⟩,
  ⟨some 1, none, .mv (.t 18)⟩]) (.seq (.rg [⟨some 19, none, .mv (.t 0)⟩,
  ⟨some 20, none, .mv (.t 5)⟩,
  ⟨some 21, none, .mv (.t 1)⟩,
  ⟨some 22, none, .ia 3 (.t 19) (.t 20)⟩,
  ⟨some 23, none, .fa 1 (.t 22)⟩,
  ⟨none, none, .st 1 (.t 23) (.t 21)⟩]) (.seq (.rg [⟨some 24, none, .mv (.t 1)⟩,
  ⟨some 25, none, .bin .add (.t 24) (.c (.int .i64 1))⟩,
  ⟨some 1, none, .mv (.t 25)⟩]) (.seq (.rg [⟨some 26, none, .mv (.t 0)⟩,
  ⟨some 27, none, .mv (.t 5)⟩,
  ⟨some 28, none, .mv (.t 1)⟩,
  ⟨some 29, none, .ia 3 (.t 26) (.t 27)⟩,
  ⟨some 30, none, .fa 2 (.t 29)⟩,
  ⟨none, none, .st 1 (.t 30) (.t 28)⟩]) (.rg [⟨some 31, none, .mv (.t 1)⟩,
  ⟨some 32, none, .bin .add (.t 31) (.c (.int .i64 1))⟩,
  ⟨some 1, none, .mv (.t 32)⟩])))))
def b_laws_heldColS : SCode := .seq (.seq (.rg [⟨some 12, none, .mv (.t 0)⟩,
  ⟨some 13, none, .mv (.t 5)⟩,
  ⟨some 14, none, .ia 3 (.t 12) (.t 13)⟩,
  ⟨some 15, none, .fa 0 (.t 14)⟩,
  ⟨some 16, none, .ld (.t 15)⟩,
  ⟨some 17, none, .mv (.t 1)⟩,
  ⟨some 18, none, .callP 41 [.t 17]⟩,
  ⟨some 19, none, .bin .neq (.t 16) (.t 18)⟩]) (.cond (.t 19) (.seq (.rg [⟨some 4, none, .mv (.c (.int .i64 (-1)))⟩]) (.ret)) (.skip))) (.seq (.rg [⟨some 20, none, .mv (.t 1)⟩,
  ⟨some 21, none, .bin .add (.t 20) (.c (.int .i64 1))⟩,
  ⟨some 1, none, .mv (.t 21)⟩]) (.seq (.seq (.rg [⟨some 22, none, .mv (.t 0)⟩,
  ⟨some 23, none, .mv (.t 5)⟩,
  ⟨some 24, none, .ia 3 (.t 22) (.t 23)⟩,
  ⟨some 25, none, .fa 1 (.t 24)⟩,
  ⟨some 26, none, .ld (.t 25)⟩,
  ⟨some 27, none, .mv (.t 1)⟩,
  ⟨some 28, none, .bin .neq (.t 26) (.t 27)⟩]) (.cond (.t 28) (.seq (.rg [⟨some 4, none, .mv (.c (.int .i64 (-1)))⟩]) (.ret)) (.skip))) (.seq (.rg [⟨some 29, none, .mv (.t 1)⟩,
  ⟨some 30, none, .bin .add (.t 29) (.c (.int .i64 1))⟩,
  ⟨some 1, none, .mv (.t 30)⟩]) (.seq (.seq (.rg [⟨some 31, none, .mv (.t 0)⟩,
  ⟨some 32, none, .mv (.t 5)⟩,
  ⟨some 33, none, .ia 3 (.t 31) (.t 32)⟩,
  ⟨some 34, none, .fa 2 (.t 33)⟩,
  ⟨some 35, none, .ld (.t 34)⟩,
  ⟨some 36, none, .mv (.t 1)⟩,
  ⟨some 37, none, .bin .rem (.t 36) (.c (.int .i64 3))⟩,
  ⟨some 38, none, .bin .eql (.t 37) (.c (.int .i64 0))⟩,
  ⟨some 39, none, .binB .neq (.t 35) (.t 38)⟩]) (.cond (.t 39) (.seq (.rg [⟨some 4, none, .mv (.c (.int .i64 (-1)))⟩]) (.ret)) (.skip))) (.rg [⟨some 40, none, .mv (.t 1)⟩,
  ⟨some 41, none, .bin .add (.t 40) (.c (.int .i64 1))⟩,
  ⟨some 1, none, .mv (.t 41)⟩])))))
def b_laws_heldByS : SCode := .seq (.seq (.rg [⟨some 12, none, .mv (.t 0)⟩,
  ⟨some 13, none, .mv (.t 5)⟩,
  ⟨some 14, none, .ia 2 (.t 12) (.t 13)⟩,
  ⟨some 15, none, .fa 0 (.t 14)⟩,
  ⟨some 16, none, .ld (.t 15)⟩,
  ⟨some 17, none, .mv (.t 1)⟩,
  ⟨some 18, none, .bin .neq (.t 16) (.t 17)⟩]) (.cond (.t 18) (.seq (.rg [⟨some 4, none, .mv (.c (.int .i64 (-1)))⟩]) (.ret)) (.skip))) (.seq (.rg [⟨some 19, none, .mv (.t 1)⟩,
  ⟨some 20, none, .bin .add (.t 19) (.c (.int .i64 1))⟩,
  ⟨some 1, none, .mv (.t 20)⟩]) (.seq (.seq (.rg [⟨some 21, none, .mv (.t 0)⟩,
  ⟨some 22, none, .mv (.t 5)⟩,
  ⟨some 23, none, .ia 2 (.t 21) (.t 22)⟩,
  ⟨some 24, none, .fa 1 (.t 23)⟩,
  ⟨some 25, none, .ld (.t 24)⟩,
  ⟨some 26, none, .mv (.t 1)⟩,
  ⟨some 27, none, .bin .rem (.t 26) (.c (.int .i64 3))⟩,
  ⟨some 28, none, .bin .eql (.t 27) (.c (.int .i64 0))⟩,
  ⟨some 29, none, .binB .neq (.t 25) (.t 28)⟩]) (.cond (.t 29) (.seq (.rg [⟨some 4, none, .mv (.c (.int .i64 (-1)))⟩]) (.ret)) (.skip))) (.rg [⟨some 30, none, .mv (.t 1)⟩,
  ⟨some 31, none, .bin .add (.t 30) (.c (.int .i64 1))⟩,
  ⟨some 1, none, .mv (.t 31)⟩])))
def b_laws_heldIndexS : SCode := .seq (.seq (.rg [⟨some 12, none, .mv (.t 0)⟩,
  ⟨some 13, none, .mv (.t 5)⟩,
  ⟨some 14, none, .ia 3 (.t 12) (.t 13)⟩,
  ⟨some 15, none, .fa 0 (.t 14)⟩,
  ⟨some 16, none, .ld (.t 15)⟩,
  ⟨some 17, none, .mv (.t 1)⟩,
  ⟨some 18, none, .callP 41 [.t 17]⟩,
  ⟨some 19, none, .bin .neq (.t 16) (.t 18)⟩]) (.cond (.t 19) (.seq (.rg [⟨some 4, none, .mv (.c (.int .i64 (-1)))⟩]) (.ret)) (.skip))) (.seq (.rg [⟨some 20, none, .mv (.t 1)⟩,
  ⟨some 21, none, .bin .add (.t 20) (.c (.int .i64 1))⟩,
  ⟨some 1, none, .mv (.t 21)⟩]) (.seq (.seq (.rg [⟨some 22, none, .mv (.t 0)⟩,
  ⟨some 23, none, .mv (.t 5)⟩,
  ⟨some 24, none, .ia 3 (.t 22) (.t 23)⟩,
  ⟨some 25, none, .fa 1 (.t 24)⟩,
  ⟨some 26, none, .ld (.t 25)⟩,
  ⟨some 27, none, .mv (.t 1)⟩,
  ⟨some 28, none, .bin .rem (.t 27) (.c (.int .i64 3))⟩,
  ⟨some 29, none, .bin .eql (.t 28) (.c (.int .i64 0))⟩,
  ⟨some 30, none, .binB .neq (.t 26) (.t 29)⟩]) (.cond (.t 30) (.seq (.rg [⟨some 4, none, .mv (.c (.int .i64 (-1)))⟩]) (.ret)) (.skip))) (.seq (.rg [⟨some 31, none, .mv (.t 1)⟩,
  ⟨some 32, none, .bin .add (.t 31) (.c (.int .i64 1))⟩,
  ⟨some 1, none, .mv (.t 32)⟩]) (.seq (.rg [⟨some 33, none, .mv (.t 0)⟩,
  ⟨some 34, none, .mv (.t 5)⟩,
  ⟨some 35, none, .ia 3 (.t 33) (.t 34)⟩,
  ⟨some 36, none, .fa 2 (.t 35)⟩,
  ⟨some 37, none, .ld (.t 36)⟩,
  ⟨some 38, none, .mv (.t 1)⟩,
  ⟨some 39, none, .callP 49 [.t 37, .t 38]⟩,
  ⟨some 1, none, .mv (.t 39)⟩]) (.seq (.rg [⟨some 40, none, .mv (.t 1)⟩,
  ⟨some 41, none, .bin .lss (.t 40) (.c (.int .i64 0))⟩]) (.cond (.t 41) (.seq (.rg [⟨some 4, none, .mv (.c (.int .i64 (-1)))⟩]) (.ret)) (.skip)))))))
def b_laws_heldDefS : SCode := .seq (.seq (.rg [⟨some 12, none, .mv (.t 0)⟩,
  ⟨some 13, none, .mv (.t 5)⟩,
  ⟨some 14, none, .ia 4 (.t 12) (.t 13)⟩,
  ⟨some 15, none, .fa 0 (.t 14)⟩,
  ⟨some 16, none, .ld (.t 15)⟩,
  ⟨some 17, none, .mv (.t 1)⟩,
  ⟨some 18, none, .callP 41 [.t 17]⟩,
  ⟨some 19, none, .bin .neq (.t 16) (.t 18)⟩]) (.cond (.t 19) (.seq (.rg [⟨some 4, none, .mv (.c (.int .i64 (-1)))⟩]) (.ret)) (.skip))) (.seq (.rg [⟨some 20, none, .mv (.t 1)⟩,
  ⟨some 21, none, .bin .add (.t 20) (.c (.int .i64 1))⟩,
  ⟨some 1, none, .mv (.t 21)⟩]) (.seq (.rg [⟨some 22, none, .mv (.t 0)⟩,
  ⟨some 23, none, .mv (.t 5)⟩,
  ⟨some 24, none, .ia 4 (.t 22) (.t 23)⟩,
  ⟨some 25, none, .fa 1 (.t 24)⟩,
  ⟨some 26, none, .ld (.t 25)⟩,
  ⟨some 27, none, .mv (.t 1)⟩,
  ⟨some 28, none, .callP 48 [.t 26, .t 27]⟩,
  ⟨some 1, none, .mv (.t 28)⟩]) (.seq (.seq (.rg [⟨some 29, none, .mv (.t 1)⟩,
  ⟨some 30, none, .bin .lss (.t 29) (.c (.int .i64 0))⟩]) (.cond (.t 30) (.seq (.rg [⟨some 4, none, .mv (.c (.int .i64 (-1)))⟩]) (.ret)) (.skip))) (.seq (.rg [⟨some 31, none, .mv (.t 0)⟩,
  ⟨some 32, none, .mv (.t 5)⟩,
  ⟨some 33, none, .ia 4 (.t 31) (.t 32)⟩,
  ⟨some 34, none, .fa 2 (.t 33)⟩,
  ⟨some 35, none, .ld (.t 34)⟩,
  ⟨some 36, none, .mv (.t 1)⟩,
  ⟨some 37, none, .callP 49 [.t 35, .t 36]⟩,
  ⟨some 1, none, .mv (.t 37)⟩]) (.seq (.seq (.rg [⟨some 38, none, .mv (.t 1)⟩,
  ⟨some 39, none, .bin .lss (.t 38) (.c (.int .i64 0))⟩]) (.cond (.t 39) (.seq (.rg [⟨some 4, none, .mv (.c (.int .i64 (-1)))⟩]) (.ret)) (.skip))) (.seq (.rg [⟨some 40, none, .mv (.t 0)⟩,
  ⟨some 41, none, .mv (.t 5)⟩,
  ⟨some 42, none, .ia 4 (.t 40) (.t 41)⟩,
  ⟨some 43, none, .fa 3 (.t 42)⟩,
  ⟨some 44, none, .ld (.t 43)⟩,
  ⟨some 45, none, .mv (.t 1)⟩,
  ⟨some 46, none, .callP 50 [.t 44, .t 45]⟩,
  ⟨some 1, none, .mv (.t 46)⟩]) (.seq (.rg [⟨some 47, none, .mv (.t 1)⟩,
  ⟨some 48, none, .bin .lss (.t 47) (.c (.int .i64 0))⟩]) (.cond (.t 48) (.seq (.rg [⟨some 4, none, .mv (.c (.int .i64 (-1)))⟩]) (.ret)) (.skip)))))))))
def b_laws_heldByteS : SCode := .seq (.seq (.rg [⟨some 12, none, .mv (.t 0)⟩,
  ⟨some 13, none, .mv (.t 5)⟩,
  ⟨some 14, none, .ia 1 (.t 12) (.t 13)⟩,
  ⟨some 15, none, .ld (.t 14)⟩,
  ⟨some 16, none, .mv (.t 1)⟩,
  ⟨some 17, none, .cvI .u8 (.t 16)⟩,
  ⟨some 18, none, .bin .neq (.t 15) (.t 17)⟩]) (.cond (.t 18) (.seq (.rg [⟨some 4, none, .mv (.c (.int .i64 (-1)))⟩]) (.ret)) (.skip))) (.rg [⟨some 19, none, .mv (.t 1)⟩,
  ⟨some 20, none, .bin .add (.t 19) (.c (.int .i64 1))⟩,
  ⟨some 1, none, .mv (.t 20)⟩])
def b_laws_heldByteSS : SCode := .seq (.rg [⟨some 12, none, .mv (.t 0)⟩,
  ⟨some 13, none, .mv (.t 5)⟩,
  ⟨some 14, none, .ia 1 (.t 12) (.t 13)⟩,
  ⟨some 15, none, .ld (.t 14)⟩,
  ⟨some 16, none, .mv (.t 1)⟩,
  ⟨some 17, none, .callP 73 [.t 15, .t 16]⟩,
  ⟨some 1, none, .mv (.t 17)⟩]) (.seq (.rg [⟨some 18, none, .mv (.t 1)⟩,
  ⟨some 19, none, .bin .lss (.t 18) (.c (.int .i64 0))⟩]) (.cond (.t 19) (.seq (.rg [⟨some 4, none, .mv (.c (.int .i64 (-1)))⟩]) (.ret)) (.skip)))
def b_laws_heldWriteS : SCode := .seq (.seq (.rg [⟨some 12, none, .mv (.t 0)⟩,
  ⟨some 13, none, .mv (.t 5)⟩,
  ⟨some 14, none, .ia 2 (.t 12) (.t 13)⟩,
  ⟨some 15, none, .fa 0 (.t 14)⟩,
  ⟨some 16, none, .ld (.t 15)⟩,
  ⟨some 17, none, .mv (.t 1)⟩,
  ⟨some 18, none, .bin .neq (.t 16) (.t 17)⟩]) (.cond (.t 18) (.seq (.rg [⟨some 4, none, .mv (.c (.int .i64 (-1)))⟩]) (.ret)) (.skip))) (.seq (.rg [⟨some 19, none, .mv (.t 1)⟩,
  ⟨some 20, none, .bin .add (.t 19) (.c (.int .i64 1))⟩,
  ⟨some 1, none, .mv (.t 20)⟩]) (.seq (.rg [⟨some 21, none, .mv (.t 0)⟩,
  ⟨some 22, none, .mv (.t 5)⟩,
  ⟨some 23, none, .ia 2 (.t 21) (.t 22)⟩,
  ⟨some 24, none, .fa 1 (.t 23)⟩,
  ⟨some 25, none, .ld (.t 24)⟩,
  ⟨some 26, none, .mv (.t 1)⟩,
  ⟨some 27, none, .callP 73 [.t 25, .t 26]⟩,
  ⟨some 1, none, .mv (.t 27)⟩]) (.seq (.rg [⟨some 28, none, .mv (.t 1)⟩,
  ⟨some 29, none, .bin .lss (.t 28) (.c (.int .i64 0))⟩]) (.cond (.t 29) (.seq (.rg [⟨some 4, none, .mv (.c (.int .i64 (-1)))⟩]) (.ret)) (.skip)))))
def b_laws_heldFaultS : SCode := .seq (.seq (.rg [⟨some 12, none, .mv (.t 0)⟩,
  ⟨some 13, none, .mv (.t 5)⟩,
  ⟨some 14, none, .ia 3 (.t 12) (.t 13)⟩,
  ⟨some 15, none, .fa 0 (.t 14)⟩,
  ⟨some 16, none, .ld (.t 15)⟩,
  ⟨some 17, none, .mv (.t 1)⟩,
  ⟨some 18, none, .bin .neq (.t 16) (.t 17)⟩]) (.cond (.t 18) (.seq (.rg [⟨some 4, none, .mv (.c (.int .i64 (-1)))⟩]) (.ret)) (.skip))) (.seq (.rg [⟨some 19, none, .mv (.t 1)⟩,
  ⟨some 20, none, .bin .add (.t 19) (.c (.int .i64 1))⟩,
  ⟨some 1, none, .mv (.t 20)⟩]) (.seq (.seq (.rg [⟨some 21, none, .mv (.t 0)⟩,
  ⟨some 22, none, .mv (.t 5)⟩,
  ⟨some 23, none, .ia 3 (.t 21) (.t 22)⟩,
  ⟨some 24, none, .fa 1 (.t 23)⟩,
  ⟨some 25, none, .ld (.t 24)⟩,
  ⟨some 26, none, .mv (.t 1)⟩,
  ⟨some 27, none, .bin .neq (.t 25) (.t 26)⟩]) (.cond (.t 27) (.seq (.rg [⟨some 4, none, .mv (.c (.int .i64 (-1)))⟩]) (.ret)) (.skip))) (.seq (.rg [⟨some 28, none, .mv (.t 1)⟩,
  ⟨some 29, none, .bin .add (.t 28) (.c (.int .i64 1))⟩,
  ⟨some 1, none, .mv (.t 29)⟩]) (.seq (.seq (.rg [⟨some 30, none, .mv (.t 0)⟩,
  ⟨some 31, none, .mv (.t 5)⟩,
  ⟨some 32, none, .ia 3 (.t 30) (.t 31)⟩,
  ⟨some 33, none, .fa 2 (.t 32)⟩,
  ⟨some 34, none, .ld (.t 33)⟩,
  ⟨some 35, none, .mv (.t 1)⟩,
  ⟨some 36, none, .bin .neq (.t 34) (.t 35)⟩]) (.cond (.t 36) (.seq (.rg [⟨some 4, none, .mv (.c (.int .i64 (-1)))⟩]) (.ret)) (.skip))) (.rg [⟨some 37, none, .mv (.t 1)⟩,
  ⟨some 38, none, .bin .add (.t 37) (.c (.int .i64 1))⟩,
  ⟨some 1, none, .mv (.t 38)⟩])))))
def isC : List FuncId := [74, 54, 55, 75, 56, 24, 11, 57, 25, 58, 26, 27, 12, 4, 76, 59, 77, 60, 78, 61, 30, 14, 62, 31, 63, 32, 64, 33, 15, 6, 29, 28, 13, 5, 34, 65, 35, 16, 36, 17, 7, 79, 66, 80, 67, 81, 68, 37, 18, 69, 38, 70, 39, 71, 40, 19, 8, 41, 48, 49, 50, 22, 73, 51, 52, 53, 23, 10]
def rw (f : FuncId) : List Tmp := if f = 59 then List.range 64 else if f = 60 then List.range 64 else if f = 78 then List.range 64 else if f = 61 then List.range 64 else if f = 30 then List.range 64 else if f = 14 then List.range 64 else if f = 62 then List.range 64 else if f = 31 then List.range 64 else if f = 63 then List.range 64 else if f = 32 then List.range 64 else if f = 33 then List.range 64 else if f = 15 then List.range 64 else if f = 6 then List.range 64 else if f = 29 then [1008, 1011, 1012, 1015, 1029, 1032] else if f = 28 then [1008, 1011, 1024, 1030, 1049, 1056] else if f = 34 then List.range 64 else if f = 65 then List.range 64 else if f = 35 then List.range 64 else if f = 16 then List.range 64 else if f = 36 then List.range 64 else if f = 17 then List.range 64 else if f = 7 then List.range 64 else if f = 3 then [20, 22] else []
def fr (f : FuncId) : Bool := false
def dp (f : FuncId) : Nat := if f = 7 then 1 else if f = 17 then 1 else if f = 36 then 1 else if f = 65 then 1 else if f = 34 then 1 else if f = 35 then 1 else if f = 16 then 1 else if f = 60 then 1 else if f = 62 then 1 else if f = 31 then 1 else if f = 59 then 1 else if f = 30 then 1 else if f = 14 then 1 else if f = 15 then 1 else if f = 6 then 1 else if f = 33 then 1 else if f = 78 then 1 else if f = 61 then 1 else if f = 63 then 1 else if f = 32 then 1 else if f = 8 then 2 else if f = 10 then 2 else 0
noncomputable def EE (cs : List (FuncId × (List AV → Option AV))) : Env := mkE Try.prog isC rw fr dp cs
theorem st_laws_szCol_ : stF (EE []) 74 = some (s_laws_szCol) := by kernel_rfl
theorem st_laws_szCol (cs) : stF (EE cs) 74 = some (s_laws_szCol) := (stF_mk cs [] 74).trans st_laws_szCol_
theorem st_laws_szColS_ : stF (EE []) 54 = some (szSF 74 3 false) := by kernel_rfl
theorem st_laws_szColS (cs) : stF (EE cs) 54 = some (szSF 74 3 false) := (stF_mk cs [] 54).trans st_laws_szColS_
theorem st_laws_szByS_ : stF (EE []) 55 = some (szLenF) := by kernel_rfl
theorem st_laws_szByS (cs) : stF (EE cs) 55 = some (szLenF) := (stF_mk cs [] 55).trans st_laws_szByS_
theorem st_laws_szIndex_ : stF (EE []) 75 = some (s_laws_szIndex) := by kernel_rfl
theorem st_laws_szIndex (cs) : stF (EE cs) 75 = some (s_laws_szIndex) := (stF_mk cs [] 75).trans st_laws_szIndex_
theorem st_laws_szIndexS_ : stF (EE []) 56 = some (szSF 75 3 false) := by kernel_rfl
theorem st_laws_szIndexS (cs) : stF (EE cs) 56 = some (szSF 75 3 false) := (stF_mk cs [] 56).trans st_laws_szIndexS_
theorem st_laws_szDef_ : stF (EE []) 24 = some (s_laws_szDef) := by kernel_rfl
theorem st_laws_szDef (cs) : stF (EE cs) 24 = some (s_laws_szDef) := (stF_mk cs [] 24).trans st_laws_szDef_
theorem st_laws_szDefS_ : stF (EE []) 11 = some (szSF 24 4 false) := by kernel_rfl
theorem st_laws_szDefS (cs) : stF (EE cs) 11 = some (szSF 24 4 false) := (stF_mk cs [] 11).trans st_laws_szDefS_
theorem st_laws_szByteS_ : stF (EE []) 57 = some (szLenF) := by kernel_rfl
theorem st_laws_szByteS (cs) : stF (EE cs) 57 = some (szLenF) := (stF_mk cs [] 57).trans st_laws_szByteS_
theorem st_laws_szByteSS_ : stF (EE []) 25 = some (szSF 57 1 true) := by kernel_rfl
theorem st_laws_szByteSS (cs) : stF (EE cs) 25 = some (szSF 57 1 true) := (stF_mk cs [] 25).trans st_laws_szByteSS_
theorem st_laws_szWrite_ : stF (EE []) 58 = some (s_laws_szWrite) := by kernel_rfl
theorem st_laws_szWrite (cs) : stF (EE cs) 58 = some (s_laws_szWrite) := (stF_mk cs [] 58).trans st_laws_szWrite_
theorem st_laws_szWriteS_ : stF (EE []) 26 = some (szSF 58 2 false) := by kernel_rfl
theorem st_laws_szWriteS (cs) : stF (EE cs) 26 = some (szSF 58 2 false) := (stF_mk cs [] 26).trans st_laws_szWriteS_
theorem st_laws_szFaultS_ : stF (EE []) 27 = some (szLenF) := by kernel_rfl
theorem st_laws_szFaultS (cs) : stF (EE cs) 27 = some (szLenF) := (stF_mk cs [] 27).trans st_laws_szFaultS_
theorem st_laws_szDisk_ : stF (EE []) 12 = some (s_laws_szDisk) := by kernel_rfl
theorem st_laws_szDisk (cs) : stF (EE cs) 12 = some (s_laws_szDisk) := (stF_mk cs [] 12).trans st_laws_szDisk_
theorem st_laws_szEng_ : stF (EE []) 4 = some (s_laws_szEng) := by kernel_rfl
theorem st_laws_szEng (cs) : stF (EE cs) 4 = some (s_laws_szEng) := (stF_mk cs [] 4).trans st_laws_szEng_
theorem st_laws_toCol_ : stF (EE []) 76 = some (s_laws_toCol) := by kernel_rfl
theorem st_laws_toCol (cs) : stF (EE cs) 76 = some (s_laws_toCol) := (stF_mk cs [] 76).trans st_laws_toCol_
theorem st_laws_toColS_ : stF (EE []) 59 = some (toSF 76 3 false 32 [.str [], .int .i64 0, .bool false]) := by kernel_rfl
theorem st_laws_toColS (cs) : stF (EE cs) 59 = some (toSF 76 3 false 32 [.str [], .int .i64 0, .bool false]) := (stF_mk cs [] 59).trans st_laws_toColS_
theorem st_laws_toBy_ : stF (EE []) 77 = some (s_laws_toBy) := by kernel_rfl
theorem st_laws_toBy (cs) : stF (EE cs) 77 = some (s_laws_toBy) := (stF_mk cs [] 77).trans st_laws_toBy_
theorem st_laws_toByS_ : stF (EE []) 60 = some (toSF 77 2 false 16 [.int .i64 0, .bool false]) := by kernel_rfl
theorem st_laws_toByS (cs) : stF (EE cs) 60 = some (toSF 77 2 false 16 [.int .i64 0, .bool false]) := (stF_mk cs [] 60).trans st_laws_toByS_
theorem st_laws_toIndex_ : stF (EE []) 78 = some (s_laws_toIndex) := by kernel_rfl
theorem st_laws_toIndex (cs) : stF (EE cs) 78 = some (s_laws_toIndex) := (stF_mk cs [] 78).trans st_laws_toIndex_
theorem st_laws_toIndexS_ : stF (EE []) 61 = some (toSFO 78 3 false 48 [.str [], .bool false, .snil]) := by kernel_rfl
theorem st_laws_toIndexS (cs) : stF (EE cs) 61 = some (toSFO 78 3 false 48 [.str [], .bool false, .snil]) := (stF_mk cs [] 61).trans st_laws_toIndexS_
theorem st_laws_toDef_ : stF (EE []) 30 = some (s_laws_toDef) := by kernel_rfl
theorem st_laws_toDef (cs) : stF (EE cs) 30 = some (s_laws_toDef) := (stF_mk cs [] 30).trans st_laws_toDef_
theorem st_laws_toDefS_ : stF (EE []) 14 = some (toSFO 30 4 false 88 [.str [], .snil, .snil, .snil]) := by kernel_rfl
theorem st_laws_toDefS (cs) : stF (EE cs) 14 = some (toSFO 30 4 false 88 [.str [], .snil, .snil, .snil]) := (stF_mk cs [] 14).trans st_laws_toDefS_
theorem st_laws_toByteS_ : stF (EE []) 62 = some (cpSF 1 [.int .u8 0]) := by kernel_rfl
theorem st_laws_toByteS (cs) : stF (EE cs) 62 = some (cpSF 1 [.int .u8 0]) := (stF_mk cs [] 62).trans st_laws_toByteS_
theorem st_laws_toByteSS_ : stF (EE []) 31 = some (toSFO 62 1 true 24 [.snil]) := by kernel_rfl
theorem st_laws_toByteSS (cs) : stF (EE cs) 31 = some (toSFO 62 1 true 24 [.snil]) := (stF_mk cs [] 31).trans st_laws_toByteSS_
theorem st_laws_toWrite_ : stF (EE []) 63 = some (s_laws_toWrite) := by kernel_rfl
theorem st_laws_toWrite (cs) : stF (EE cs) 63 = some (s_laws_toWrite) := (stF_mk cs [] 63).trans st_laws_toWrite_
theorem st_laws_toWriteS_ : stF (EE []) 32 = some (toSFO 63 2 false 32 [.int .i64 0, .snil]) := by kernel_rfl
theorem st_laws_toWriteS (cs) : stF (EE cs) 32 = some (toSFO 63 2 false 32 [.int .i64 0, .snil]) := (stF_mk cs [] 32).trans st_laws_toWriteS_
theorem st_laws_toFault_ : stF (EE []) 64 = some (s_laws_toFault) := by kernel_rfl
theorem st_laws_toFault (cs) : stF (EE cs) 64 = some (s_laws_toFault) := (stF_mk cs [] 64).trans st_laws_toFault_
theorem st_laws_toFaultS_ : stF (EE []) 33 = some (toSF 64 3 false 24 [.int .i64 0, .int .i64 0, .int .i64 0]) := by kernel_rfl
theorem st_laws_toFaultS (cs) : stF (EE cs) 33 = some (toSF 64 3 false 24 [.int .i64 0, .int .i64 0, .int .i64 0]) := (stF_mk cs [] 33).trans st_laws_toFaultS_
theorem st_laws_toDisk_ : stF (EE []) 15 = some (s_laws_toDisk) := by kernel_rfl
theorem st_laws_toDisk (cs) : stF (EE cs) 15 = some (s_laws_toDisk) := (stF_mk cs [] 15).trans st_laws_toDisk_
theorem st_laws_toEng_ : stF (EE []) 6 = some (s_laws_toEng) := by kernel_rfl
theorem st_laws_toEng (cs) : stF (EE cs) 6 = some (s_laws_toEng) := (stF_mk cs [] 6).trans st_laws_toEng_
theorem st_spec_l9Copy_ : stF (EE []) 29 = some (s_spec_l9Copy) := by kernel_rfl
theorem st_spec_l9Copy (cs) : stF (EE cs) 29 = some (s_spec_l9Copy) := (stF_mk cs [] 29).trans st_spec_l9Copy_
theorem st_spec_l12Copy_ : stF (EE []) 28 = some (s_spec_l12Copy) := by kernel_rfl
theorem st_spec_l12Copy (cs) : stF (EE cs) 28 = some (s_spec_l12Copy) := (stF_mk cs [] 28).trans st_spec_l12Copy_
theorem st_spec_l25Copy_ : stF (EE []) 13 = some (s_spec_l25Copy) := by kernel_rfl
theorem st_spec_l25Copy (cs) : stF (EE cs) 13 = some (s_spec_l25Copy) := (stF_mk cs [] 13).trans st_spec_l25Copy_
theorem st_spec_EngOn_ : stF (EE []) 5 = some (s_spec_EngOn) := by kernel_rfl
theorem st_spec_EngOn (cs) : stF (EE cs) 5 = some (s_spec_EngOn) := (stF_mk cs [] 5).trans st_spec_EngOn_
theorem st_impl_copyDefs_ : stF (EE []) 34 = some (s_impl_copyDefs) := by kernel_rfl
theorem st_impl_copyDefs (cs) : stF (EE cs) 34 = some (s_impl_copyDefs) := (stF_mk cs [] 34).trans st_impl_copyDefs_
theorem st_impl_copyBytes_ : stF (EE []) 65 = some (s_impl_copyBytes) := by kernel_rfl
theorem st_impl_copyBytes (cs) : stF (EE cs) 65 = some (s_impl_copyBytes) := (stF_mk cs [] 65).trans st_impl_copyBytes_
theorem st_impl_copyDisk_ : stF (EE []) 35 = some (s_impl_copyDisk) := by kernel_rfl
theorem st_impl_copyDisk (cs) : stF (EE cs) 35 = some (s_impl_copyDisk) := (stF_mk cs [] 35).trans st_impl_copyDisk_
theorem st_impl_copyEng_ : stF (EE []) 16 = some (s_impl_copyEng) := by kernel_rfl
theorem st_impl_copyEng (cs) : stF (EE cs) 16 = some (s_impl_copyEng) := (stF_mk cs [] 16).trans st_impl_copyEng_
theorem st_impl_TurnOn_ : stF (EE []) 36 = some (s_impl_TurnOn) := by kernel_rfl
theorem st_impl_TurnOn (cs) : stF (EE cs) 36 = some (s_impl_TurnOn) := (stF_mk cs [] 36).trans st_impl_TurnOn_
theorem st_impl_Reopen_ : stF (EE []) 17 = some (s_impl_Reopen) := by kernel_rfl
theorem st_impl_Reopen (cs) : stF (EE cs) 17 = some (s_impl_Reopen) := (stF_mk cs [] 17).trans st_impl_Reopen_
theorem st_impl_EngOn_ : stF (EE []) 7 = some (s_impl_EngOn) := by kernel_rfl
theorem st_impl_EngOn (cs) : stF (EE cs) 7 = some (s_impl_EngOn) := (stF_mk cs [] 7).trans st_impl_EngOn_
theorem st_laws_eqCol_ : stF (EE []) 79 = some (s_laws_eqCol) := by kernel_rfl
theorem st_laws_eqCol (cs) : stF (EE cs) 79 = some (s_laws_eqCol) := (stF_mk cs [] 79).trans st_laws_eqCol_
theorem st_laws_eqColS_ : stF (EE []) 66 = some (eqSF 79 3 false) := by kernel_rfl
theorem st_laws_eqColS (cs) : stF (EE cs) 66 = some (eqSF 79 3 false) := (stF_mk cs [] 66).trans st_laws_eqColS_
theorem st_laws_eqBy_ : stF (EE []) 80 = some (s_laws_eqBy) := by kernel_rfl
theorem st_laws_eqBy (cs) : stF (EE cs) 80 = some (s_laws_eqBy) := (stF_mk cs [] 80).trans st_laws_eqBy_
theorem st_laws_eqByS_ : stF (EE []) 67 = some (eqSF 80 2 false) := by kernel_rfl
theorem st_laws_eqByS (cs) : stF (EE cs) 67 = some (eqSF 80 2 false) := (stF_mk cs [] 67).trans st_laws_eqByS_
theorem st_laws_eqIndex_ : stF (EE []) 81 = some (s_laws_eqIndex) := by kernel_rfl
theorem st_laws_eqIndex (cs) : stF (EE cs) 81 = some (s_laws_eqIndex) := (stF_mk cs [] 81).trans st_laws_eqIndex_
theorem st_laws_eqIndexS_ : stF (EE []) 68 = some (eqSF 81 3 false) := by kernel_rfl
theorem st_laws_eqIndexS (cs) : stF (EE cs) 68 = some (eqSF 81 3 false) := (stF_mk cs [] 68).trans st_laws_eqIndexS_
theorem st_laws_eqDef_ : stF (EE []) 37 = some (s_laws_eqDef) := by kernel_rfl
theorem st_laws_eqDef (cs) : stF (EE cs) 37 = some (s_laws_eqDef) := (stF_mk cs [] 37).trans st_laws_eqDef_
theorem st_laws_eqDefS_ : stF (EE []) 18 = some (eqSF 37 4 false) := by kernel_rfl
theorem st_laws_eqDefS (cs) : stF (EE cs) 18 = some (eqSF 37 4 false) := (stF_mk cs [] 18).trans st_laws_eqDefS_
theorem st_laws_eqByteS_ : stF (EE []) 69 = some (ecSF) := by kernel_rfl
theorem st_laws_eqByteS (cs) : stF (EE cs) 69 = some (ecSF) := (stF_mk cs [] 69).trans st_laws_eqByteS_
theorem st_laws_eqByteSS_ : stF (EE []) 38 = some (eqSF 69 1 true) := by kernel_rfl
theorem st_laws_eqByteSS (cs) : stF (EE cs) 38 = some (eqSF 69 1 true) := (stF_mk cs [] 38).trans st_laws_eqByteSS_
theorem st_laws_eqWrite_ : stF (EE []) 70 = some (s_laws_eqWrite) := by kernel_rfl
theorem st_laws_eqWrite (cs) : stF (EE cs) 70 = some (s_laws_eqWrite) := (stF_mk cs [] 70).trans st_laws_eqWrite_
theorem st_laws_eqWriteS_ : stF (EE []) 39 = some (eqSF 70 2 false) := by kernel_rfl
theorem st_laws_eqWriteS (cs) : stF (EE cs) 39 = some (eqSF 70 2 false) := (stF_mk cs [] 39).trans st_laws_eqWriteS_
theorem st_laws_eqFault_ : stF (EE []) 71 = some (s_laws_eqFault) := by kernel_rfl
theorem st_laws_eqFault (cs) : stF (EE cs) 71 = some (s_laws_eqFault) := (stF_mk cs [] 71).trans st_laws_eqFault_
theorem st_laws_eqFaultS_ : stF (EE []) 40 = some (eqSF 71 3 false) := by kernel_rfl
theorem st_laws_eqFaultS (cs) : stF (EE cs) 40 = some (eqSF 71 3 false) := (stF_mk cs [] 40).trans st_laws_eqFaultS_
theorem st_laws_eqDisk_ : stF (EE []) 19 = some (s_laws_eqDisk) := by kernel_rfl
theorem st_laws_eqDisk (cs) : stF (EE cs) 19 = some (s_laws_eqDisk) := (stF_mk cs [] 19).trans st_laws_eqDisk_
theorem st_laws_eqEng_ : stF (EE []) 8 = some (s_laws_eqEng) := by kernel_rfl
theorem st_laws_eqEng (cs) : stF (EE cs) 8 = some (s_laws_eqEng) := (stF_mk cs [] 8).trans st_laws_eqEng_
theorem st_laws_markText_ : stF (EE []) 41 = some (s_laws_markText) := by kernel_rfl
theorem st_laws_markText (cs) : stF (EE cs) 41 = some (s_laws_markText) := (stF_mk cs [] 41).trans st_laws_markText_
theorem st_laws_markColS_ : stF (EE []) 42 = some (mkF 37 36 b_laws_markColS) := by kernel_rfl
theorem st_laws_markColS (cs) : stF (EE cs) 42 = some (mkF 37 36 b_laws_markColS) := (stF_mk cs [] 42).trans st_laws_markColS_
theorem st_laws_markByS_ : stF (EE []) 43 = some (mkF 29 28 b_laws_markByS) := by kernel_rfl
theorem st_laws_markByS (cs) : stF (EE cs) 43 = some (mkF 29 28 b_laws_markByS) := (stF_mk cs [] 43).trans st_laws_markByS_
theorem st_laws_markIndexS_ : stF (EE []) 44 = some (mkF 37 36 b_laws_markIndexS) := by kernel_rfl
theorem st_laws_markIndexS (cs) : stF (EE cs) 44 = some (mkF 37 36 b_laws_markIndexS) := (stF_mk cs [] 44).trans st_laws_markIndexS_
theorem st_laws_markDefS_ : stF (EE []) 20 = some (mkF 42 41 b_laws_markDefS) := by kernel_rfl
theorem st_laws_markDefS (cs) : stF (EE cs) 20 = some (mkF 42 41 b_laws_markDefS) := (stF_mk cs [] 20).trans st_laws_markDefS_
theorem st_laws_markByteS_ : stF (EE []) 72 = some (mkF 20 19 b_laws_markByteS) := by kernel_rfl
theorem st_laws_markByteS (cs) : stF (EE cs) 72 = some (mkF 20 19 b_laws_markByteS) := (stF_mk cs [] 72).trans st_laws_markByteS_
theorem st_laws_markByteSS_ : stF (EE []) 45 = some (mkF 19 18 b_laws_markByteSS) := by kernel_rfl
theorem st_laws_markByteSS (cs) : stF (EE cs) 45 = some (mkF 19 18 b_laws_markByteSS) := (stF_mk cs [] 45).trans st_laws_markByteSS_
theorem st_laws_markWriteS_ : stF (EE []) 46 = some (mkF 27 26 b_laws_markWriteS) := by kernel_rfl
theorem st_laws_markWriteS (cs) : stF (EE cs) 46 = some (mkF 27 26 b_laws_markWriteS) := (stF_mk cs [] 46).trans st_laws_markWriteS_
theorem st_laws_markFaultS_ : stF (EE []) 47 = some (mkF 34 33 b_laws_markFaultS) := by kernel_rfl
theorem st_laws_markFaultS (cs) : stF (EE cs) 47 = some (mkF 34 33 b_laws_markFaultS) := (stF_mk cs [] 47).trans st_laws_markFaultS_
theorem st_laws_markDisk_ : stF (EE []) 21 = some (s_laws_markDisk) := by kernel_rfl
theorem st_laws_markDisk (cs) : stF (EE cs) 21 = some (s_laws_markDisk) := (stF_mk cs [] 21).trans st_laws_markDisk_
theorem st_laws_markEng_ : stF (EE []) 9 = some (s_laws_markEng) := by kernel_rfl
theorem st_laws_markEng (cs) : stF (EE cs) 9 = some (s_laws_markEng) := (stF_mk cs [] 9).trans st_laws_markEng_
theorem st_laws_heldColS_ : stF (EE []) 48 = some (mkF 43 42 b_laws_heldColS) := by kernel_rfl
theorem st_laws_heldColS (cs) : stF (EE cs) 48 = some (mkF 43 42 b_laws_heldColS) := (stF_mk cs [] 48).trans st_laws_heldColS_
theorem st_laws_heldByS_ : stF (EE []) 49 = some (mkF 33 32 b_laws_heldByS) := by kernel_rfl
theorem st_laws_heldByS (cs) : stF (EE cs) 49 = some (mkF 33 32 b_laws_heldByS) := (stF_mk cs [] 49).trans st_laws_heldByS_
theorem st_laws_heldIndexS_ : stF (EE []) 50 = some (mkF 43 42 b_laws_heldIndexS) := by kernel_rfl
theorem st_laws_heldIndexS (cs) : stF (EE cs) 50 = some (mkF 43 42 b_laws_heldIndexS) := (stF_mk cs [] 50).trans st_laws_heldIndexS_
theorem st_laws_heldDefS_ : stF (EE []) 22 = some (mkF 50 49 b_laws_heldDefS) := by kernel_rfl
theorem st_laws_heldDefS (cs) : stF (EE cs) 22 = some (mkF 50 49 b_laws_heldDefS) := (stF_mk cs [] 22).trans st_laws_heldDefS_
theorem st_laws_heldByteS_ : stF (EE []) 73 = some (mkF 22 21 b_laws_heldByteS) := by kernel_rfl
theorem st_laws_heldByteS (cs) : stF (EE cs) 73 = some (mkF 22 21 b_laws_heldByteS) := (stF_mk cs [] 73).trans st_laws_heldByteS_
theorem st_laws_heldByteSS_ : stF (EE []) 51 = some (mkF 21 20 b_laws_heldByteSS) := by kernel_rfl
theorem st_laws_heldByteSS (cs) : stF (EE cs) 51 = some (mkF 21 20 b_laws_heldByteSS) := (stF_mk cs [] 51).trans st_laws_heldByteSS_
theorem st_laws_heldWriteS_ : stF (EE []) 52 = some (mkF 31 30 b_laws_heldWriteS) := by kernel_rfl
theorem st_laws_heldWriteS (cs) : stF (EE cs) 52 = some (mkF 31 30 b_laws_heldWriteS) := (stF_mk cs [] 52).trans st_laws_heldWriteS_
theorem st_laws_heldFaultS_ : stF (EE []) 53 = some (mkF 40 39 b_laws_heldFaultS) := by kernel_rfl
theorem st_laws_heldFaultS (cs) : stF (EE cs) 53 = some (mkF 40 39 b_laws_heldFaultS) := (stF_mk cs [] 53).trans st_laws_heldFaultS_
theorem st_laws_heldDisk_ : stF (EE []) 23 = some (s_laws_heldDisk) := by kernel_rfl
theorem st_laws_heldDisk (cs) : stF (EE cs) 23 = some (s_laws_heldDisk) := (stF_mk cs [] 23).trans st_laws_heldDisk_
theorem st_laws_heldEng_ : stF (EE []) 10 = some (s_laws_heldEng) := by kernel_rfl
theorem st_laws_heldEng (cs) : stF (EE cs) 10 = some (s_laws_heldEng) := (stF_mk cs [] 10).trans st_laws_heldEng_
theorem st_laws_FnExactEngOn_ : stF (EE []) 3 = some (s_laws_FnExactEngOn) := by kernel_rfl
theorem st_laws_FnExactEngOn (cs) : stF (EE cs) 3 = some (s_laws_FnExactEngOn) := (stF_mk cs [] 3).trans st_laws_FnExactEngOn_
theorem entered : entB Try.prog isC = true := by kernel_rfl
end Go.Proofs.Ytgjdkcjijmdfoaa.Eo
/- The types of FnExactEngOn's arguments, as trees. -/
namespace Go.Proofs.Ytgjdkcjijmdfoaa.Eo
open Go Go.RowKit Go.Ev
set_option linter.unusedSimpArgs false
set_option linter.unusedVariables false
set_option maxHeartbeats 1600000
structure TCol where
  fName : List UInt8
  fType : Int
  fNull : Bool
def TCol.row (v : TCol) : List AV := [.str v.fName, .int .i64 v.fType, .bool v.fNull]
theorem TCol.inj (a b : TCol) (h : a.row = b.row) : a = b := by
  obtain ⟨aName, aType, aNull⟩ := a
  obtain ⟨bName, bType, bNull⟩ := b
  simp only [TCol.row, List.cons.injEq, AV.int.injEq, AV.str.injEq, AV.bool.injEq, AV.imm.injEq, true_and, and_true] at h
  obtain ⟨h0, h1, h2⟩ := h
  subst h0
  subst h1
  subst h2
  rfl
def tCol : TD TCol where
  row := TCol.row
  enc v := .agg v.row
  sz := 3
  one := false
  cost v := v.fName.length
  fits v := v.fName.length ≤ 9223372036854775807
  ok v := intT.ok v.fType
  len _ := rfl
  pos := by decide
  inj := TCol.inj
  enc1 h := by cases h
  encA _ _ := rfl
  frz v c hc := by
    simp only [TCol.row, List.mem_cons, List.not_mem_nil, or_false] at hc
    rcases hc with rfl | rfl | rfl <;> exact ⟨rfl, rfl⟩
  fit v h := by omega
  dep := 0
  okd v c hc := by
    simp only [TCol.row, List.mem_cons, List.not_mem_nil, or_false] at hc
    rcases hc with rfl | rfl | rfl
    · exact okV.mono (n := 0) rfl (Nat.zero_le _)
    · exact okV.mono (n := 0) rfl (Nat.zero_le _)
    · exact okV.mono (n := 0) rfl (Nat.zero_le _)
theorem tCol_enc (v : TCol) : tCol.enc v = .agg v.row := rfl
theorem tCol_row : tCol.row = TCol.row := rfl
attribute [go_sem] tCol_enc tCol_row
structure TBy where
  fCol : Int
  fDesc : Bool
def TBy.row (v : TBy) : List AV := [.int .i64 v.fCol, .bool v.fDesc]
theorem TBy.inj (a b : TBy) (h : a.row = b.row) : a = b := by
  obtain ⟨aCol, aDesc⟩ := a
  obtain ⟨bCol, bDesc⟩ := b
  simp only [TBy.row, List.cons.injEq, AV.int.injEq, AV.str.injEq, AV.bool.injEq, AV.imm.injEq, true_and, and_true] at h
  obtain ⟨h0, h1⟩ := h
  subst h0
  subst h1
  rfl
def tBy : TD TBy where
  row := TBy.row
  enc v := .agg v.row
  sz := 2
  one := false
  cost _ := 0
  fits _ := True
  ok v := intT.ok v.fCol
  len _ := rfl
  pos := by decide
  inj := TBy.inj
  enc1 h := by cases h
  encA _ _ := rfl
  frz v c hc := by
    simp only [TBy.row, List.mem_cons, List.not_mem_nil, or_false] at hc
    rcases hc with rfl | rfl <;> exact ⟨rfl, rfl⟩
  fit _ _ := trivial
  dep := 0
  okd v c hc := by
    simp only [TBy.row, List.mem_cons, List.not_mem_nil, or_false] at hc
    rcases hc with rfl | rfl
    · exact okV.mono (n := 0) rfl (Nat.zero_le _)
    · exact okV.mono (n := 0) rfl (Nat.zero_le _)
theorem tBy_enc (v : TBy) : tBy.enc v = .agg v.row := rfl
theorem tBy_row : tBy.row = TBy.row := rfl
attribute [go_sem] tBy_enc tBy_row
structure TIndex where
  fName : List UInt8
  fUnique : Bool
  fParts : List (TBy)
def TIndex.row (v : TIndex) : List AV := [.str v.fName, .bool v.fUnique, .imm (v.fParts.map TBy.row)]
theorem TIndex.inj (a b : TIndex) (h : a.row = b.row) : a = b := by
  obtain ⟨aName, aUnique, aParts⟩ := a
  obtain ⟨bName, bUnique, bParts⟩ := b
  simp only [TIndex.row, List.cons.injEq, AV.int.injEq, AV.str.injEq, AV.bool.injEq, AV.imm.injEq, true_and, and_true] at h
  obtain ⟨h0, h1, h2⟩ := h
  have h2 := TD.map_inj tBy h2
  subst h0
  subst h1
  subst h2
  rfl
def tIndex : TD TIndex where
  row := TIndex.row
  enc v := .agg v.row
  sz := 3
  one := false
  cost v := v.fName.length + (sliceT tBy).cost v.fParts
  fits v := v.fName.length ≤ 9223372036854775807 ∧ (sliceT tBy).fits v.fParts
  ok v := (sliceT tBy).ok v.fParts
  len _ := rfl
  pos := by decide
  inj := TIndex.inj
  enc1 h := by cases h
  encA _ _ := rfl
  frz v c hc := by
    simp only [TIndex.row, List.mem_cons, List.not_mem_nil, or_false] at hc
    rcases hc with rfl | rfl | rfl <;> exact ⟨rfl, rfl⟩
  fit v h := ⟨by omega, (sliceT tBy).fit _ (by omega)⟩
  dep := 1
  okd v c hc := by
    simp only [TIndex.row, List.mem_cons, List.not_mem_nil, or_false] at hc
    rcases hc with rfl | rfl | rfl
    · exact okV.mono (n := 0) rfl (Nat.zero_le _)
    · exact okV.mono (n := 0) rfl (Nat.zero_le _)
    · exact (((sliceT tBy)).okd v.fParts _ (by exact List.mem_singleton.2 rfl)).mono (by decide)
theorem tIndex_enc (v : TIndex) : tIndex.enc v = .agg v.row := rfl
theorem tIndex_row : tIndex.row = TIndex.row := rfl
attribute [go_sem] tIndex_enc tIndex_row
structure TDef where
  fName : List UInt8
  fCols : List (TCol)
  fPrimary : List (TBy)
  fIndexes : List (TIndex)
def TDef.row (v : TDef) : List AV := [.str v.fName, .imm (v.fCols.map TCol.row), .imm (v.fPrimary.map TBy.row), .imm (v.fIndexes.map TIndex.row)]
theorem TDef.inj (a b : TDef) (h : a.row = b.row) : a = b := by
  obtain ⟨aName, aCols, aPrimary, aIndexes⟩ := a
  obtain ⟨bName, bCols, bPrimary, bIndexes⟩ := b
  simp only [TDef.row, List.cons.injEq, AV.int.injEq, AV.str.injEq, AV.bool.injEq, AV.imm.injEq, true_and, and_true] at h
  obtain ⟨h0, h1, h2, h3⟩ := h
  have h1 := TD.map_inj tCol h1
  have h2 := TD.map_inj tBy h2
  have h3 := TD.map_inj tIndex h3
  subst h0
  subst h1
  subst h2
  subst h3
  rfl
def tDef : TD TDef where
  row := TDef.row
  enc v := .agg v.row
  sz := 4
  one := false
  cost v := v.fName.length + (sliceT tCol).cost v.fCols + (sliceT tBy).cost v.fPrimary + (sliceT tIndex).cost v.fIndexes
  fits v := v.fName.length ≤ 9223372036854775807 ∧ (sliceT tCol).fits v.fCols ∧ (sliceT tBy).fits v.fPrimary ∧ (sliceT tIndex).fits v.fIndexes
  ok v := (sliceT tCol).ok v.fCols ∧ (sliceT tBy).ok v.fPrimary ∧ (sliceT tIndex).ok v.fIndexes
  len _ := rfl
  pos := by decide
  inj := TDef.inj
  enc1 h := by cases h
  encA _ _ := rfl
  frz v c hc := by
    simp only [TDef.row, List.mem_cons, List.not_mem_nil, or_false] at hc
    rcases hc with rfl | rfl | rfl | rfl <;> exact ⟨rfl, rfl⟩
  fit v h := ⟨by omega, (sliceT tCol).fit _ (by omega), (sliceT tBy).fit _ (by omega), (sliceT tIndex).fit _ (by omega)⟩
  dep := 2
  okd v c hc := by
    simp only [TDef.row, List.mem_cons, List.not_mem_nil, or_false] at hc
    rcases hc with rfl | rfl | rfl | rfl
    · exact okV.mono (n := 0) rfl (Nat.zero_le _)
    · exact (((sliceT tCol)).okd v.fCols _ (by exact List.mem_singleton.2 rfl)).mono (by decide)
    · exact (((sliceT tBy)).okd v.fPrimary _ (by exact List.mem_singleton.2 rfl)).mono (by decide)
    · exact (((sliceT tIndex)).okd v.fIndexes _ (by exact List.mem_singleton.2 rfl)).mono (by decide)
theorem tDef_enc (v : TDef) : tDef.enc v = .agg v.row := rfl
theorem tDef_row : tDef.row = TDef.row := rfl
attribute [go_sem] tDef_enc tDef_row
structure TWrite where
  fN : Int
  fB : List (UInt8)
def TWrite.row (v : TWrite) : List AV := [.int .i64 v.fN, .imm (v.fB.map u8T.row)]
theorem TWrite.inj (a b : TWrite) (h : a.row = b.row) : a = b := by
  obtain ⟨aN, aB⟩ := a
  obtain ⟨bN, bB⟩ := b
  simp only [TWrite.row, List.cons.injEq, AV.int.injEq, AV.str.injEq, AV.bool.injEq, AV.imm.injEq, true_and, and_true] at h
  obtain ⟨h0, h1⟩ := h
  have h1 := TD.map_inj u8T h1
  subst h0
  subst h1
  rfl
def tWrite : TD TWrite where
  row := TWrite.row
  enc v := .agg v.row
  sz := 2
  one := false
  cost v := (sliceT u8T).cost v.fB
  fits v := (sliceT u8T).fits v.fB
  ok v := intT.ok v.fN ∧ (sliceT u8T).ok v.fB
  len _ := rfl
  pos := by decide
  inj := TWrite.inj
  enc1 h := by cases h
  encA _ _ := rfl
  frz v c hc := by
    simp only [TWrite.row, List.mem_cons, List.not_mem_nil, or_false] at hc
    rcases hc with rfl | rfl <;> exact ⟨rfl, rfl⟩
  fit v h := (sliceT u8T).fit _ (by omega)
  dep := 1
  okd v c hc := by
    simp only [TWrite.row, List.mem_cons, List.not_mem_nil, or_false] at hc
    rcases hc with rfl | rfl
    · exact okV.mono (n := 0) rfl (Nat.zero_le _)
    · exact (((sliceT u8T)).okd v.fB _ (by exact List.mem_singleton.2 rfl)).mono (by decide)
theorem tWrite_enc (v : TWrite) : tWrite.enc v = .agg v.row := rfl
theorem tWrite_row : tWrite.row = TWrite.row := rfl
attribute [go_sem] tWrite_enc tWrite_row
structure TFault where
  fAt : Int
  fKeep : Int
  fCut : Int
def TFault.row (v : TFault) : List AV := [.int .i64 v.fAt, .int .i64 v.fKeep, .int .i64 v.fCut]
theorem TFault.inj (a b : TFault) (h : a.row = b.row) : a = b := by
  obtain ⟨aAt, aKeep, aCut⟩ := a
  obtain ⟨bAt, bKeep, bCut⟩ := b
  simp only [TFault.row, List.cons.injEq, AV.int.injEq, AV.str.injEq, AV.bool.injEq, AV.imm.injEq, true_and, and_true] at h
  obtain ⟨h0, h1, h2⟩ := h
  subst h0
  subst h1
  subst h2
  rfl
def tFault : TD TFault where
  row := TFault.row
  enc v := .agg v.row
  sz := 3
  one := false
  cost _ := 0
  fits _ := True
  ok v := intT.ok v.fAt ∧ intT.ok v.fKeep ∧ intT.ok v.fCut
  len _ := rfl
  pos := by decide
  inj := TFault.inj
  enc1 h := by cases h
  encA _ _ := rfl
  frz v c hc := by
    simp only [TFault.row, List.mem_cons, List.not_mem_nil, or_false] at hc
    rcases hc with rfl | rfl | rfl <;> exact ⟨rfl, rfl⟩
  fit _ _ := trivial
  dep := 0
  okd v c hc := by
    simp only [TFault.row, List.mem_cons, List.not_mem_nil, or_false] at hc
    rcases hc with rfl | rfl | rfl
    · exact okV.mono (n := 0) rfl (Nat.zero_le _)
    · exact okV.mono (n := 0) rfl (Nat.zero_le _)
    · exact okV.mono (n := 0) rfl (Nat.zero_le _)
theorem tFault_enc (v : TFault) : tFault.enc v = .agg v.row := rfl
theorem tFault_row : tFault.row = TFault.row := rfl
attribute [go_sem] tFault_enc tFault_row
structure TDisk where
  fSecs : List (List (UInt8))
  fCache : List (TWrite)
  fOps : Int
  fFaults : List (TFault)
  fDown : Bool
def TDisk.row (v : TDisk) : List AV := [.imm (v.fSecs.map (sliceT u8T).row), .imm (v.fCache.map TWrite.row), .int .i64 v.fOps, .imm (v.fFaults.map TFault.row), .bool v.fDown]
theorem TDisk.inj (a b : TDisk) (h : a.row = b.row) : a = b := by
  obtain ⟨aSecs, aCache, aOps, aFaults, aDown⟩ := a
  obtain ⟨bSecs, bCache, bOps, bFaults, bDown⟩ := b
  simp only [TDisk.row, List.cons.injEq, AV.int.injEq, AV.str.injEq, AV.bool.injEq, AV.imm.injEq, true_and, and_true] at h
  obtain ⟨h0, h1, h2, h3, h4⟩ := h
  have h0 := TD.map_inj (sliceT u8T) h0
  have h1 := TD.map_inj tWrite h1
  have h3 := TD.map_inj tFault h3
  subst h0
  subst h1
  subst h2
  subst h3
  subst h4
  rfl
def tDisk : TD TDisk where
  row := TDisk.row
  enc v := .agg v.row
  sz := 5
  one := false
  cost v := (sliceT (sliceT u8T)).cost v.fSecs + (sliceT tWrite).cost v.fCache + (sliceT tFault).cost v.fFaults
  fits v := (sliceT (sliceT u8T)).fits v.fSecs ∧ (sliceT tWrite).fits v.fCache ∧ (sliceT tFault).fits v.fFaults
  ok v := (sliceT (sliceT u8T)).ok v.fSecs ∧ (sliceT tWrite).ok v.fCache ∧ intT.ok v.fOps ∧ (sliceT tFault).ok v.fFaults
  len _ := rfl
  pos := by decide
  inj := TDisk.inj
  enc1 h := by cases h
  encA _ _ := rfl
  frz v c hc := by
    simp only [TDisk.row, List.mem_cons, List.not_mem_nil, or_false] at hc
    rcases hc with rfl | rfl | rfl | rfl | rfl <;> exact ⟨rfl, rfl⟩
  fit v h := ⟨(sliceT (sliceT u8T)).fit _ (by omega), (sliceT tWrite).fit _ (by omega), (sliceT tFault).fit _ (by omega)⟩
  dep := 2
  okd v c hc := by
    simp only [TDisk.row, List.mem_cons, List.not_mem_nil, or_false] at hc
    rcases hc with rfl | rfl | rfl | rfl | rfl
    · exact (((sliceT (sliceT u8T))).okd v.fSecs _ (by exact List.mem_singleton.2 rfl)).mono (by decide)
    · exact (((sliceT tWrite)).okd v.fCache _ (by exact List.mem_singleton.2 rfl)).mono (by decide)
    · exact okV.mono (n := 0) rfl (Nat.zero_le _)
    · exact (((sliceT tFault)).okd v.fFaults _ (by exact List.mem_singleton.2 rfl)).mono (by decide)
    · exact okV.mono (n := 0) rfl (Nat.zero_le _)
theorem tDisk_enc (v : TDisk) : tDisk.enc v = .agg v.row := rfl
theorem tDisk_row : tDisk.row = TDisk.row := rfl
attribute [go_sem] tDisk_enc tDisk_row
structure TEng where
  fS : List (TDef)
  fD : TDisk
def TEng.row (v : TEng) : List AV := [.imm (v.fS.map TDef.row), .imm (v.fD.fSecs.map (sliceT u8T).row), .imm (v.fD.fCache.map TWrite.row), .int .i64 v.fD.fOps, .imm (v.fD.fFaults.map TFault.row), .bool v.fD.fDown]
theorem TEng.inj (a b : TEng) (h : a.row = b.row) : a = b := by
  obtain ⟨aS, ⟨aDSecs, aDCache, aDOps, aDFaults, aDDown⟩⟩ := a
  obtain ⟨bS, ⟨bDSecs, bDCache, bDOps, bDFaults, bDDown⟩⟩ := b
  simp only [TEng.row, List.cons.injEq, AV.int.injEq, AV.str.injEq, AV.bool.injEq, AV.imm.injEq, true_and, and_true] at h
  obtain ⟨h0, h1, h2, h3, h4, h5⟩ := h
  have h0 := TD.map_inj tDef h0
  have h1 := TD.map_inj (sliceT u8T) h1
  have h2 := TD.map_inj tWrite h2
  have h4 := TD.map_inj tFault h4
  subst h0
  subst h1
  subst h2
  subst h3
  subst h4
  subst h5
  rfl
def tEng : TD TEng where
  row := TEng.row
  enc v := .agg v.row
  sz := 6
  one := false
  cost v := (sliceT tDef).cost v.fS + tDisk.cost v.fD
  fits v := (sliceT tDef).fits v.fS ∧ tDisk.fits v.fD
  ok v := (sliceT tDef).ok v.fS ∧ tDisk.ok v.fD
  len _ := rfl
  pos := by decide
  inj := TEng.inj
  enc1 h := by cases h
  encA _ _ := rfl
  frz v c hc := by
    simp only [TEng.row, List.mem_cons, List.not_mem_nil, or_false] at hc
    rcases hc with rfl | rfl | rfl | rfl | rfl | rfl <;> exact ⟨rfl, rfl⟩
  fit v h := ⟨(sliceT tDef).fit _ (by omega), tDisk.fit _ (by omega)⟩
  dep := 3
  okd v c hc := by
    simp only [TEng.row, List.mem_cons, List.not_mem_nil, or_false] at hc
    rcases hc with rfl | rfl | rfl | rfl | rfl | rfl
    · exact (((sliceT tDef)).okd v.fS _ (by exact List.mem_singleton.2 rfl)).mono (by decide)
    · exact (((sliceT (sliceT u8T))).okd v.fD.fSecs _ (by exact List.mem_singleton.2 rfl)).mono (by decide)
    · exact (((sliceT tWrite)).okd v.fD.fCache _ (by exact List.mem_singleton.2 rfl)).mono (by decide)
    · exact okV.mono (n := 0) rfl (Nat.zero_le _)
    · exact (((sliceT tFault)).okd v.fD.fFaults _ (by exact List.mem_singleton.2 rfl)).mono (by decide)
    · exact okV.mono (n := 0) rfl (Nat.zero_le _)
theorem tEng_enc (v : TEng) : tEng.enc v = .agg v.row := rfl
theorem tEng_row : tEng.row = TEng.row := rfl
attribute [go_sem] tEng_enc tEng_row
structure TVal where
  fK : Int
  fN : Int
  fS : List UInt8
def TVal.row (v : TVal) : List AV := [.int .i64 v.fK, .int .i64 v.fN, .str v.fS]
theorem TVal.inj (a b : TVal) (h : a.row = b.row) : a = b := by
  obtain ⟨aK, aN, aS⟩ := a
  obtain ⟨bK, bN, bS⟩ := b
  simp only [TVal.row, List.cons.injEq, AV.int.injEq, AV.str.injEq, AV.bool.injEq, AV.imm.injEq, true_and, and_true] at h
  obtain ⟨h0, h1, h2⟩ := h
  subst h0
  subst h1
  subst h2
  rfl
def tVal : TD TVal where
  row := TVal.row
  enc v := .agg v.row
  sz := 3
  one := false
  cost v := v.fS.length
  fits v := v.fS.length ≤ 9223372036854775807
  ok v := intT.ok v.fK ∧ intT.ok v.fN
  len _ := rfl
  pos := by decide
  inj := TVal.inj
  enc1 h := by cases h
  encA _ _ := rfl
  frz v c hc := by
    simp only [TVal.row, List.mem_cons, List.not_mem_nil, or_false] at hc
    rcases hc with rfl | rfl | rfl <;> exact ⟨rfl, rfl⟩
  fit v h := by omega
  dep := 0
  okd v c hc := by
    simp only [TVal.row, List.mem_cons, List.not_mem_nil, or_false] at hc
    rcases hc with rfl | rfl | rfl
    · exact okV.mono (n := 0) rfl (Nat.zero_le _)
    · exact okV.mono (n := 0) rfl (Nat.zero_le _)
    · exact okV.mono (n := 0) rfl (Nat.zero_le _)
theorem tVal_enc (v : TVal) : tVal.enc v = .agg v.row := rfl
theorem tVal_row : tVal.row = TVal.row := rfl
attribute [go_sem] tVal_enc tVal_row
end Go.Proofs.Ytgjdkcjijmdfoaa.Eo
/- What the functions that FnExactEngOn calls answer: part 1. -/
namespace Go.Proofs.Ytgjdkcjijmdfoaa.Eo
open Go Go.RowKit Go.Ev
set_option linter.unusedSimpArgs false
set_option linter.unusedVariables false
set_option maxHeartbeats 1600000
theorem ok_laws_szCol {WI : World → Prop} (hs : Stable WI) (cs) (hT : TOK (EE cs) WI)  : PureOK Try.prog WI 74 (szC tCol) := by
  refine pure2 (E := EE cs) hT hs (by rw [st_laws_szCol]; rfl) fun v left ⟨hfits, hlo, hhi⟩ => out_K (n := 0) (st_laws_szCol cs) ?_
  have q0 : v.fName.length ≤ 9223372036854775807 := hfits
  have hcost : tCol.cost v = v.fName.length := rfl
  have w0 : IntKind.wrap .i64 (left - (v.fName.length : Int)) = left - (v.fName.length : Int) := wrapId (by omega) (by omega)
  by_cases n0 : left - (v.fName.length : Int) < 0
  · skip
    have hz : szR (tCol.cost v) left = -1 := by unfold szR; rw [if_pos (by omega)]
    rw [hz]
    simp only [go_sem, kSt_ptr, Nat.reduceBEq, Nat.reduceAdd, Nat.reduceEqDiff, Nat.reduceLeDiff, Nat.reduceSub, reduceIte, Int.reduceBEq, Int.reduceEq, Int.reduceLT, Int.reduceLE, Int.reduceGT, Int.reduceGE, Int.reduceNe, Int.reduceBNe, s_laws_szCol, TCol.row, w0, n0]
  have hz : szR (tCol.cost v) left = left - (v.fName.length : Int) := by unfold szR; rw [if_neg (by omega)]; omega
  rw [hz]
  simp only [go_sem, kSt_ptr, Nat.reduceBEq, Nat.reduceAdd, Nat.reduceEqDiff, Nat.reduceLeDiff, Nat.reduceSub, reduceIte, Int.reduceBEq, Int.reduceEq, Int.reduceLT, Int.reduceLE, Int.reduceGT, Int.reduceGE, Int.reduceNe, Int.reduceBNe, s_laws_szCol, TCol.row, w0, n0]
theorem ok_laws_szColS {WI : World → Prop} (hs : Stable WI) (cs) (hT : TOK (EE cs) WI) (h0 : (EE cs).T 74 = some (szC tCol)) : PureOK Try.prog WI 54 (szC (sliceT tCol)) := szS_ok (E := EE cs) (T := tCol) hT hs h0 (st_laws_szColS cs)
theorem ok_laws_szByS {WI : World → Prop} (hs : Stable WI) (cs) (hT : TOK (EE cs) WI)  : PureOK Try.prog WI 55 (szC (sliceT tBy)) := szLen_ok (E := EE cs) hT hs (fun _ => rfl) (st_laws_szByS cs)
theorem ok_laws_szIndex {WI : World → Prop} (hs : Stable WI) (cs) (hT : TOK (EE cs) WI) (h0 : (EE cs).T 55 = some (szC (sliceT tBy))) : PureOK Try.prog WI 75 (szC tIndex) := by
  refine pure2 (E := EE cs) hT hs (by rw [st_laws_szIndex]; rfl) fun v left ⟨hfits, hlo, hhi⟩ => out_K (n := 0) (st_laws_szIndex cs) ?_
  obtain ⟨q0, q1⟩ := hfits
  have hcost : tIndex.cost v = v.fName.length + (sliceT tBy).cost v.fParts := rfl
  have w0 : IntKind.wrap .i64 (left - (v.fName.length : Int)) = left - (v.fName.length : Int) := wrapId (by omega) (by omega)
  by_cases n0 : left - (v.fName.length : Int) < 0
  · skip
    have hz : szR (tIndex.cost v) left = -1 := by unfold szR; rw [if_pos (by omega)]
    rw [hz]
    simp only [go_sem, kSt_ptr, Nat.reduceBEq, Nat.reduceAdd, Nat.reduceEqDiff, Nat.reduceLeDiff, Nat.reduceSub, reduceIte, Int.reduceBEq, Int.reduceEq, Int.reduceLT, Int.reduceLE, Int.reduceGT, Int.reduceGE, Int.reduceNe, Int.reduceBNe, s_laws_szIndex, TIndex.row, h0, w0, n0]
  have c1 : szC (sliceT tBy) [.imm (v.fParts.map TBy.row), .int .i64 (left - (v.fName.length : Int))] = some (.int .i64 (szR ((sliceT tBy).cost v.fParts) (left - (v.fName.length : Int)))) := szC_eq (sliceT tBy) ⟨q1, by omega, by omega⟩
  by_cases n1 : szR ((sliceT tBy).cost v.fParts) (left - (v.fName.length : Int)) < 0
  · skip
    obtain ⟨e1, e1'⟩ := szR_neg n1 (by omega)
    have hz : szR (tIndex.cost v) left = -1 := by unfold szR; rw [if_pos (by omega)]
    rw [hz]
    simp only [go_sem, kSt_ptr, Nat.reduceBEq, Nat.reduceAdd, Nat.reduceEqDiff, Nat.reduceLeDiff, Nat.reduceSub, reduceIte, Int.reduceBEq, Int.reduceEq, Int.reduceLT, Int.reduceLE, Int.reduceGT, Int.reduceGE, Int.reduceNe, Int.reduceBNe, s_laws_szIndex, TIndex.row, h0, w0, n0, c1, e1]
  obtain ⟨e1, n1'⟩ := szR_pos n1
  have hz : szR (tIndex.cost v) left = left - (v.fName.length : Int) - ((sliceT tBy).cost v.fParts : Int) := by unfold szR; rw [if_neg (by omega)]; omega
  rw [hz]
  simp only [go_sem, kSt_ptr, Nat.reduceBEq, Nat.reduceAdd, Nat.reduceEqDiff, Nat.reduceLeDiff, Nat.reduceSub, reduceIte, Int.reduceBEq, Int.reduceEq, Int.reduceLT, Int.reduceLE, Int.reduceGT, Int.reduceGE, Int.reduceNe, Int.reduceBNe, s_laws_szIndex, TIndex.row, h0, w0, n0, c1, e1, n1']
theorem ok_laws_szIndexS {WI : World → Prop} (hs : Stable WI) (cs) (hT : TOK (EE cs) WI) (h0 : (EE cs).T 75 = some (szC tIndex)) : PureOK Try.prog WI 56 (szC (sliceT tIndex)) := szS_ok (E := EE cs) (T := tIndex) hT hs h0 (st_laws_szIndexS cs)
theorem ok_laws_szDef {WI : World → Prop} (hs : Stable WI) (cs) (hT : TOK (EE cs) WI) (h0 : (EE cs).T 54 = some (szC (sliceT tCol))) (h1 : (EE cs).T 55 = some (szC (sliceT tBy))) (h2 : (EE cs).T 56 = some (szC (sliceT tIndex))) : PureOK Try.prog WI 24 (szC tDef) := by
  refine pure2 (E := EE cs) hT hs (by rw [st_laws_szDef]; rfl) fun v left ⟨hfits, hlo, hhi⟩ => out_K (n := 0) (st_laws_szDef cs) ?_
  obtain ⟨q0, q1, q2, q3⟩ := hfits
  have hcost : tDef.cost v = v.fName.length + (sliceT tCol).cost v.fCols + (sliceT tBy).cost v.fPrimary + (sliceT tIndex).cost v.fIndexes := rfl
  have w0 : IntKind.wrap .i64 (left - (v.fName.length : Int)) = left - (v.fName.length : Int) := wrapId (by omega) (by omega)
  by_cases n0 : left - (v.fName.length : Int) < 0
  · skip
    have hz : szR (tDef.cost v) left = -1 := by unfold szR; rw [if_pos (by omega)]
    rw [hz]
    simp only [go_sem, kSt_ptr, Nat.reduceBEq, Nat.reduceAdd, Nat.reduceEqDiff, Nat.reduceLeDiff, Nat.reduceSub, reduceIte, Int.reduceBEq, Int.reduceEq, Int.reduceLT, Int.reduceLE, Int.reduceGT, Int.reduceGE, Int.reduceNe, Int.reduceBNe, s_laws_szDef, TDef.row, h0, h1, h2, w0, n0]
  have c1 : szC (sliceT tCol) [.imm (v.fCols.map TCol.row), .int .i64 (left - (v.fName.length : Int))] = some (.int .i64 (szR ((sliceT tCol).cost v.fCols) (left - (v.fName.length : Int)))) := szC_eq (sliceT tCol) ⟨q1, by omega, by omega⟩
  by_cases n1 : szR ((sliceT tCol).cost v.fCols) (left - (v.fName.length : Int)) < 0
  · skip
    obtain ⟨e1, e1'⟩ := szR_neg n1 (by omega)
    have hz : szR (tDef.cost v) left = -1 := by unfold szR; rw [if_pos (by omega)]
    rw [hz]
    simp only [go_sem, kSt_ptr, Nat.reduceBEq, Nat.reduceAdd, Nat.reduceEqDiff, Nat.reduceLeDiff, Nat.reduceSub, reduceIte, Int.reduceBEq, Int.reduceEq, Int.reduceLT, Int.reduceLE, Int.reduceGT, Int.reduceGE, Int.reduceNe, Int.reduceBNe, s_laws_szDef, TDef.row, h0, h1, h2, w0, n0, c1, e1]
  obtain ⟨e1, n1'⟩ := szR_pos n1
  have c2 : szC (sliceT tBy) [.imm (v.fPrimary.map TBy.row), .int .i64 (left - (v.fName.length : Int) - ((sliceT tCol).cost v.fCols : Int))] = some (.int .i64 (szR ((sliceT tBy).cost v.fPrimary) (left - (v.fName.length : Int) - ((sliceT tCol).cost v.fCols : Int)))) := szC_eq (sliceT tBy) ⟨q2, by omega, by omega⟩
  by_cases n2 : szR ((sliceT tBy).cost v.fPrimary) (left - (v.fName.length : Int) - ((sliceT tCol).cost v.fCols : Int)) < 0
  · skip
    obtain ⟨e2, e2'⟩ := szR_neg n2 (by omega)
    have hz : szR (tDef.cost v) left = -1 := by unfold szR; rw [if_pos (by omega)]
    rw [hz]
    simp only [go_sem, kSt_ptr, Nat.reduceBEq, Nat.reduceAdd, Nat.reduceEqDiff, Nat.reduceLeDiff, Nat.reduceSub, reduceIte, Int.reduceBEq, Int.reduceEq, Int.reduceLT, Int.reduceLE, Int.reduceGT, Int.reduceGE, Int.reduceNe, Int.reduceBNe, s_laws_szDef, TDef.row, h0, h1, h2, w0, n0, c1, e1, n1', c2, e2]
  obtain ⟨e2, n2'⟩ := szR_pos n2
  have c3 : szC (sliceT tIndex) [.imm (v.fIndexes.map TIndex.row), .int .i64 (left - (v.fName.length : Int) - ((sliceT tCol).cost v.fCols : Int) - ((sliceT tBy).cost v.fPrimary : Int))] = some (.int .i64 (szR ((sliceT tIndex).cost v.fIndexes) (left - (v.fName.length : Int) - ((sliceT tCol).cost v.fCols : Int) - ((sliceT tBy).cost v.fPrimary : Int)))) := szC_eq (sliceT tIndex) ⟨q3, by omega, by omega⟩
  by_cases n3 : szR ((sliceT tIndex).cost v.fIndexes) (left - (v.fName.length : Int) - ((sliceT tCol).cost v.fCols : Int) - ((sliceT tBy).cost v.fPrimary : Int)) < 0
  · skip
    obtain ⟨e3, e3'⟩ := szR_neg n3 (by omega)
    have hz : szR (tDef.cost v) left = -1 := by unfold szR; rw [if_pos (by omega)]
    rw [hz]
    simp only [go_sem, kSt_ptr, Nat.reduceBEq, Nat.reduceAdd, Nat.reduceEqDiff, Nat.reduceLeDiff, Nat.reduceSub, reduceIte, Int.reduceBEq, Int.reduceEq, Int.reduceLT, Int.reduceLE, Int.reduceGT, Int.reduceGE, Int.reduceNe, Int.reduceBNe, s_laws_szDef, TDef.row, h0, h1, h2, w0, n0, c1, e1, n1', c2, e2, n2', c3, e3]
  obtain ⟨e3, n3'⟩ := szR_pos n3
  have hz : szR (tDef.cost v) left = left - (v.fName.length : Int) - ((sliceT tCol).cost v.fCols : Int) - ((sliceT tBy).cost v.fPrimary : Int) - ((sliceT tIndex).cost v.fIndexes : Int) := by unfold szR; rw [if_neg (by omega)]; omega
  rw [hz]
  simp only [go_sem, kSt_ptr, Nat.reduceBEq, Nat.reduceAdd, Nat.reduceEqDiff, Nat.reduceLeDiff, Nat.reduceSub, reduceIte, Int.reduceBEq, Int.reduceEq, Int.reduceLT, Int.reduceLE, Int.reduceGT, Int.reduceGE, Int.reduceNe, Int.reduceBNe, s_laws_szDef, TDef.row, h0, h1, h2, w0, n0, c1, e1, n1', c2, e2, n2', c3, e3, n3']
theorem ok_laws_szDefS {WI : World → Prop} (hs : Stable WI) (cs) (hT : TOK (EE cs) WI) (h0 : (EE cs).T 24 = some (szC tDef)) : PureOK Try.prog WI 11 (szC (sliceT tDef)) := szS_ok (E := EE cs) (T := tDef) hT hs h0 (st_laws_szDefS cs)
theorem ok_laws_szByteS {WI : World → Prop} (hs : Stable WI) (cs) (hT : TOK (EE cs) WI)  : PureOK Try.prog WI 57 (szC (sliceT u8T)) := szLen_ok (E := EE cs) hT hs (fun _ => rfl) (st_laws_szByteS cs)
theorem ok_laws_szByteSS {WI : World → Prop} (hs : Stable WI) (cs) (hT : TOK (EE cs) WI) (h0 : (EE cs).T 57 = some (szC (sliceT u8T))) : PureOK Try.prog WI 25 (szC (sliceT (sliceT u8T))) := szS_ok (E := EE cs) (T := (sliceT u8T)) hT hs h0 (st_laws_szByteSS cs)
theorem ok_laws_szWrite {WI : World → Prop} (hs : Stable WI) (cs) (hT : TOK (EE cs) WI) (h0 : (EE cs).T 57 = some (szC (sliceT u8T))) : PureOK Try.prog WI 58 (szC tWrite) := by
  refine pure2 (E := EE cs) hT hs (by rw [st_laws_szWrite]; rfl) fun v left ⟨hfits, hlo, hhi⟩ => out_K (n := 0) (st_laws_szWrite cs) ?_
  have q0 : (sliceT u8T).fits v.fB := hfits
  have hcost : tWrite.cost v = (sliceT u8T).cost v.fB := rfl
  have c0 : szC (sliceT u8T) [.imm (v.fB.map u8T.row), .int .i64 (left)] = some (.int .i64 (szR ((sliceT u8T).cost v.fB) (left))) := szC_eq (sliceT u8T) ⟨q0, by omega, by omega⟩
  by_cases n0 : szR ((sliceT u8T).cost v.fB) (left) < 0
  · skip
    obtain ⟨e0, e0'⟩ := szR_neg n0 (by omega)
    have hz : szR (tWrite.cost v) left = -1 := by unfold szR; rw [if_pos (by omega)]
    rw [hz]
    simp only [go_sem, kSt_ptr, Nat.reduceBEq, Nat.reduceAdd, Nat.reduceEqDiff, Nat.reduceLeDiff, Nat.reduceSub, reduceIte, Int.reduceBEq, Int.reduceEq, Int.reduceLT, Int.reduceLE, Int.reduceGT, Int.reduceGE, Int.reduceNe, Int.reduceBNe, s_laws_szWrite, TWrite.row, h0, c0, e0]
  obtain ⟨e0, n0'⟩ := szR_pos n0
  have hz : szR (tWrite.cost v) left = left - ((sliceT u8T).cost v.fB : Int) := by unfold szR; rw [if_neg (by omega)]; omega
  rw [hz]
  simp only [go_sem, kSt_ptr, Nat.reduceBEq, Nat.reduceAdd, Nat.reduceEqDiff, Nat.reduceLeDiff, Nat.reduceSub, reduceIte, Int.reduceBEq, Int.reduceEq, Int.reduceLT, Int.reduceLE, Int.reduceGT, Int.reduceGE, Int.reduceNe, Int.reduceBNe, s_laws_szWrite, TWrite.row, h0, c0, e0, n0']
theorem ok_laws_szWriteS {WI : World → Prop} (hs : Stable WI) (cs) (hT : TOK (EE cs) WI) (h0 : (EE cs).T 58 = some (szC tWrite)) : PureOK Try.prog WI 26 (szC (sliceT tWrite)) := szS_ok (E := EE cs) (T := tWrite) hT hs h0 (st_laws_szWriteS cs)
theorem ok_laws_szFaultS {WI : World → Prop} (hs : Stable WI) (cs) (hT : TOK (EE cs) WI)  : PureOK Try.prog WI 27 (szC (sliceT tFault)) := szLen_ok (E := EE cs) hT hs (fun _ => rfl) (st_laws_szFaultS cs)
theorem ok_laws_szDisk {WI : World → Prop} (hs : Stable WI) (cs) (hT : TOK (EE cs) WI) (h0 : (EE cs).T 25 = some (szC (sliceT (sliceT u8T)))) (h1 : (EE cs).T 26 = some (szC (sliceT tWrite))) (h2 : (EE cs).T 27 = some (szC (sliceT tFault))) : PureOK Try.prog WI 12 (szC tDisk) := by
  refine pure2 (E := EE cs) hT hs (by rw [st_laws_szDisk]; rfl) fun v left ⟨hfits, hlo, hhi⟩ => out_K (n := 0) (st_laws_szDisk cs) ?_
  obtain ⟨q0, q1, q2⟩ := hfits
  have hcost : tDisk.cost v = (sliceT (sliceT u8T)).cost v.fSecs + (sliceT tWrite).cost v.fCache + (sliceT tFault).cost v.fFaults := rfl
  have c0 : szC (sliceT (sliceT u8T)) [.imm (v.fSecs.map (sliceT u8T).row), .int .i64 (left)] = some (.int .i64 (szR ((sliceT (sliceT u8T)).cost v.fSecs) (left))) := szC_eq (sliceT (sliceT u8T)) ⟨q0, by omega, by omega⟩
  by_cases n0 : szR ((sliceT (sliceT u8T)).cost v.fSecs) (left) < 0
  · skip
    obtain ⟨e0, e0'⟩ := szR_neg n0 (by omega)
    have hz : szR (tDisk.cost v) left = -1 := by unfold szR; rw [if_pos (by omega)]
    rw [hz]
    simp only [go_sem, kSt_ptr, Nat.reduceBEq, Nat.reduceAdd, Nat.reduceEqDiff, Nat.reduceLeDiff, Nat.reduceSub, reduceIte, Int.reduceBEq, Int.reduceEq, Int.reduceLT, Int.reduceLE, Int.reduceGT, Int.reduceGE, Int.reduceNe, Int.reduceBNe, s_laws_szDisk, TDisk.row, h0, h1, h2, c0, e0]
  obtain ⟨e0, n0'⟩ := szR_pos n0
  have c1 : szC (sliceT tWrite) [.imm (v.fCache.map TWrite.row), .int .i64 (left - ((sliceT (sliceT u8T)).cost v.fSecs : Int))] = some (.int .i64 (szR ((sliceT tWrite).cost v.fCache) (left - ((sliceT (sliceT u8T)).cost v.fSecs : Int)))) := szC_eq (sliceT tWrite) ⟨q1, by omega, by omega⟩
  by_cases n1 : szR ((sliceT tWrite).cost v.fCache) (left - ((sliceT (sliceT u8T)).cost v.fSecs : Int)) < 0
  · skip
    obtain ⟨e1, e1'⟩ := szR_neg n1 (by omega)
    have hz : szR (tDisk.cost v) left = -1 := by unfold szR; rw [if_pos (by omega)]
    rw [hz]
    simp only [go_sem, kSt_ptr, Nat.reduceBEq, Nat.reduceAdd, Nat.reduceEqDiff, Nat.reduceLeDiff, Nat.reduceSub, reduceIte, Int.reduceBEq, Int.reduceEq, Int.reduceLT, Int.reduceLE, Int.reduceGT, Int.reduceGE, Int.reduceNe, Int.reduceBNe, s_laws_szDisk, TDisk.row, h0, h1, h2, c0, e0, n0', c1, e1]
  obtain ⟨e1, n1'⟩ := szR_pos n1
  have c2 : szC (sliceT tFault) [.imm (v.fFaults.map TFault.row), .int .i64 (left - ((sliceT (sliceT u8T)).cost v.fSecs : Int) - ((sliceT tWrite).cost v.fCache : Int))] = some (.int .i64 (szR ((sliceT tFault).cost v.fFaults) (left - ((sliceT (sliceT u8T)).cost v.fSecs : Int) - ((sliceT tWrite).cost v.fCache : Int)))) := szC_eq (sliceT tFault) ⟨q2, by omega, by omega⟩
  by_cases n2 : szR ((sliceT tFault).cost v.fFaults) (left - ((sliceT (sliceT u8T)).cost v.fSecs : Int) - ((sliceT tWrite).cost v.fCache : Int)) < 0
  · skip
    obtain ⟨e2, e2'⟩ := szR_neg n2 (by omega)
    have hz : szR (tDisk.cost v) left = -1 := by unfold szR; rw [if_pos (by omega)]
    rw [hz]
    simp only [go_sem, kSt_ptr, Nat.reduceBEq, Nat.reduceAdd, Nat.reduceEqDiff, Nat.reduceLeDiff, Nat.reduceSub, reduceIte, Int.reduceBEq, Int.reduceEq, Int.reduceLT, Int.reduceLE, Int.reduceGT, Int.reduceGE, Int.reduceNe, Int.reduceBNe, s_laws_szDisk, TDisk.row, h0, h1, h2, c0, e0, n0', c1, e1, n1', c2, e2]
  obtain ⟨e2, n2'⟩ := szR_pos n2
  have hz : szR (tDisk.cost v) left = left - ((sliceT (sliceT u8T)).cost v.fSecs : Int) - ((sliceT tWrite).cost v.fCache : Int) - ((sliceT tFault).cost v.fFaults : Int) := by unfold szR; rw [if_neg (by omega)]; omega
  rw [hz]
  simp only [go_sem, kSt_ptr, Nat.reduceBEq, Nat.reduceAdd, Nat.reduceEqDiff, Nat.reduceLeDiff, Nat.reduceSub, reduceIte, Int.reduceBEq, Int.reduceEq, Int.reduceLT, Int.reduceLE, Int.reduceGT, Int.reduceGE, Int.reduceNe, Int.reduceBNe, s_laws_szDisk, TDisk.row, h0, h1, h2, c0, e0, n0', c1, e1, n1', c2, e2, n2']
theorem ok_laws_szEng {WI : World → Prop} (hs : Stable WI) (cs) (hT : TOK (EE cs) WI) (h0 : (EE cs).T 11 = some (szC (sliceT tDef))) (h1 : (EE cs).T 12 = some (szC tDisk)) : PureOK Try.prog WI 4 (szC tEng) := by
  refine pure2 (E := EE cs) hT hs (by rw [st_laws_szEng]; rfl) fun v left ⟨hfits, hlo, hhi⟩ => out_K (n := 0) (st_laws_szEng cs) ?_
  obtain ⟨q0, q1⟩ := hfits
  have hcost : tEng.cost v = (sliceT tDef).cost v.fS + tDisk.cost v.fD := rfl
  have c0 : szC (sliceT tDef) [.imm (v.fS.map TDef.row), .int .i64 (left)] = some (.int .i64 (szR ((sliceT tDef).cost v.fS) (left))) := szC_eq (sliceT tDef) ⟨q0, by omega, by omega⟩
  by_cases n0 : szR ((sliceT tDef).cost v.fS) (left) < 0
  · skip
    obtain ⟨e0, e0'⟩ := szR_neg n0 (by omega)
    have hz : szR (tEng.cost v) left = -1 := by unfold szR; rw [if_pos (by omega)]
    rw [hz]
    simp only [go_sem, kSt_ptr, Nat.reduceBEq, Nat.reduceAdd, Nat.reduceEqDiff, Nat.reduceLeDiff, Nat.reduceSub, reduceIte, Int.reduceBEq, Int.reduceEq, Int.reduceLT, Int.reduceLE, Int.reduceGT, Int.reduceGE, Int.reduceNe, Int.reduceBNe, s_laws_szEng, TEng.row, h0, h1, c0, e0]
  obtain ⟨e0, n0'⟩ := szR_pos n0
  have c1 : szC tDisk [.agg [.imm (v.fD.fSecs.map (sliceT u8T).row), .imm (v.fD.fCache.map TWrite.row), .int .i64 v.fD.fOps, .imm (v.fD.fFaults.map TFault.row), .bool v.fD.fDown], .int .i64 (left - ((sliceT tDef).cost v.fS : Int))] = some (.int .i64 (szR (tDisk.cost v.fD) (left - ((sliceT tDef).cost v.fS : Int)))) := szC_eq tDisk ⟨q1, by omega, by omega⟩
  by_cases n1 : szR (tDisk.cost v.fD) (left - ((sliceT tDef).cost v.fS : Int)) < 0
  · skip
    obtain ⟨e1, e1'⟩ := szR_neg n1 (by omega)
    have hz : szR (tEng.cost v) left = -1 := by unfold szR; rw [if_pos (by omega)]
    rw [hz]
    simp only [go_sem, kSt_ptr, Nat.reduceBEq, Nat.reduceAdd, Nat.reduceEqDiff, Nat.reduceLeDiff, Nat.reduceSub, reduceIte, Int.reduceBEq, Int.reduceEq, Int.reduceLT, Int.reduceLE, Int.reduceGT, Int.reduceGE, Int.reduceNe, Int.reduceBNe, s_laws_szEng, TEng.row, h0, h1, c0, e0, n0', c1, e1]
  obtain ⟨e1, n1'⟩ := szR_pos n1
  have hz : szR (tEng.cost v) left = left - ((sliceT tDef).cost v.fS : Int) - (tDisk.cost v.fD : Int) := by unfold szR; rw [if_neg (by omega)]; omega
  rw [hz]
  simp only [go_sem, kSt_ptr, Nat.reduceBEq, Nat.reduceAdd, Nat.reduceEqDiff, Nat.reduceLeDiff, Nat.reduceSub, reduceIte, Int.reduceBEq, Int.reduceEq, Int.reduceLT, Int.reduceLE, Int.reduceGT, Int.reduceGE, Int.reduceNe, Int.reduceBNe, s_laws_szEng, TEng.row, h0, h1, c0, e0, n0', c1, e1, n1']
theorem ok_laws_toCol {WI : World → Prop} (hs : Stable WI) (cs) (hT : TOK (EE cs) WI)  : PureOK Try.prog WI 76 (toC tCol) := by
  refine pure1 (E := EE cs) hT hs (by rw [st_laws_toCol]; rfl) fun v hc => out_K (n := 0) (st_laws_toCol cs) ?_
  have hcost : tCol.cost v = v.fName.length := rfl
  simp only [go_sem, kSt_ptr, Nat.reduceBEq, Nat.reduceAdd, Nat.reduceEqDiff, Nat.reduceLeDiff, Nat.reduceSub, reduceIte, Int.reduceBEq, Int.reduceEq, Int.reduceLT, Int.reduceLE, Int.reduceGT, Int.reduceGE, Int.reduceNe, Int.reduceBNe, s_laws_toCol, TCol.row, id_eq]
theorem ok_laws_toColS {WI : World → Prop} (hs : Stable WI) (cs) (hT : TOK (EE cs) WI) (h0 : (EE cs).T 76 = some (toC tCol)) : OwnOK Try.prog WI 59 (toC (sliceT tCol)) := toSQ_ok (E := EE cs) (T := tCol) (bt := 32) (z := [.str [], .int .i64 0, .bool false]) hT hs h0 rfl rfl (by decide) (st_laws_toColS cs)
theorem ok_laws_toBy {WI : World → Prop} (hs : Stable WI) (cs) (hT : TOK (EE cs) WI)  : PureOK Try.prog WI 77 (toC tBy) := by
  refine pure1 (E := EE cs) hT hs (by rw [st_laws_toBy]; rfl) fun v hc => out_K (n := 0) (st_laws_toBy cs) ?_
  have hcost : tBy.cost v = 0 := rfl
  simp only [go_sem, kSt_ptr, Nat.reduceBEq, Nat.reduceAdd, Nat.reduceEqDiff, Nat.reduceLeDiff, Nat.reduceSub, reduceIte, Int.reduceBEq, Int.reduceEq, Int.reduceLT, Int.reduceLE, Int.reduceGT, Int.reduceGE, Int.reduceNe, Int.reduceBNe, s_laws_toBy, TBy.row, id_eq]
end Go.Proofs.Ytgjdkcjijmdfoaa.Eo
/- What the functions that FnExactEngOn calls answer: part 2. -/
namespace Go.Proofs.Ytgjdkcjijmdfoaa.Eo
open Go Go.RowKit Go.Ev
set_option linter.unusedSimpArgs false
set_option linter.unusedVariables false
set_option maxHeartbeats 1600000
theorem ok_laws_toByS {WI : World → Prop} (hs : Stable WI) (cs) (hT : TOK (EE cs) WI) (h0 : (EE cs).T 77 = some (toC tBy)) : OwnOK Try.prog WI 60 (toC (sliceT tBy)) := toSQ_ok (E := EE cs) (T := tBy) (bt := 16) (z := [.int .i64 0, .bool false]) hT hs h0 rfl rfl (by decide) (st_laws_toByS cs)
theorem ok_laws_toIndex {WI : World → Prop} (hs : Stable WI) (cs) (hT : TOK (EE cs) WI) (h0 : (EE cs).T 60 = some (toC (sliceT tBy))) : OwnOK Try.prog WI 78 (toC tIndex) := by
  refine own1 (E := EE cs) hT hs (by rw [st_laws_toIndex]; rfl) fun v hc => outO_wp (st_laws_toIndex cs) ?_
  have hcost : tIndex.cost v = v.fName.length + (sliceT tBy).cost v.fParts := rfl
  have c_Parts : toC (sliceT tBy) [.imm (v.fParts.map TBy.row)] = some (.imm (v.fParts.map TBy.row)) := toC_eq (sliceT tBy) (by omega)
  simp only [go_sem, kSt_ptr, Nat.reduceBEq, Nat.reduceAdd, Nat.reduceEqDiff, Nat.reduceLeDiff, Nat.reduceSub, reduceIte, Int.reduceBEq, Int.reduceEq, Int.reduceLT, Int.reduceLE, Int.reduceGT, Int.reduceGE, Int.reduceNe, Int.reduceBNe, s_laws_toIndex, TIndex.row, tIndex_enc, h0, id_eq]
  refine hP_own (n := 1) (mapO1 ((sliceT tBy).frzT 8 _ v.fParts)) c_Parts ((sliceT tBy).okT v.fParts (by decide)) (by decide) ?_
  intro x_Parts g_Parts o_Parts p_Parts a_Parts n_Parts
  have m_Parts : 3 ≤ g_Parts.nx := n_Parts
  have b0_Parts : g_Parts.hp 0 = some [.str v.fName, .bool v.fUnique, .imm (v.fParts.map TBy.row)] := (p_Parts 0 (by simp [Hp.new, Hp.empty, Hp.set])).trans (by simp [Hp.new, Hp.empty, Hp.set])
  have b1_Parts : g_Parts.hp 1 = some [.str [], .bool false, .snil] := (p_Parts 1 (by simp [Hp.new, Hp.empty, Hp.set])).trans (by simp [Hp.new, Hp.empty, Hp.set])
  have b2_Parts : g_Parts.hp 2 = some [.str v.fName, .bool v.fUnique, .snil] := (p_Parts 2 (by simp [Hp.new, Hp.empty, Hp.set])).trans (by simp [Hp.new, Hp.empty, Hp.set])
  obtain ⟨A_Parts, e_Parts, z_Parts⟩ := OwI.slice o_Parts n_Parts
  replace A_Parts := (A_Parts.up (m := 8) (by decide)).wide (lo' := 3) (hi' := g_Parts.nx) (by first | exact Nat.le_refl _ | simp [Hp.new, Hp.empty, Hp.set]) (Nat.le_refl _) (Nat.le_refl _)
  simp only [go_sem, kSt_ptr, Nat.reduceBEq, Nat.reduceAdd, Nat.reduceEqDiff, Nat.reduceLeDiff, Nat.reduceSub, reduceIte, Int.reduceBEq, Int.reduceEq, Int.reduceLT, Int.reduceLE, Int.reduceGT, Int.reduceGE, Int.reduceNe, Int.reduceBNe, s_laws_toIndex, TIndex.row, tIndex_enc, h0, id_eq, e_Parts, z_Parts, b0_Parts, b1_Parts, b2_Parts]
  have B : OwA 8 3 g_Parts.nx g_Parts [.str v.fName, .bool v.fUnique, x_Parts] (TIndex.row v) := (OwA.leaf (OwA.leaf (OwA.cat A_Parts (OwA.nil 8 g_Parts.nx (Nat.le_refl _)) (by omega)) rfl) rfl)
  refine OwA.owE (n := 8) (lo := 3) (hi := g_Parts.nx) (B.mono ?_ fun q hq hq2 => ?_) (by decide)
  · simp [Hp.set]
  · simp [Hp.set, show q ≠ 2 by omega, show q ≠ 1 by omega]
theorem ok_laws_toIndexS {WI : World → Prop} (hs : Stable WI) (cs) (hT : TOK (EE cs) WI) (h0 : (EE cs).T 78 = some (toC tIndex)) : OwnOK Try.prog WI 61 (toC (sliceT tIndex)) := toSO_ok (E := EE cs) (T := tIndex) (bt := 48) (z := [.str [], .bool false, .snil]) hT hs h0 rfl (by decide) (by decide) (st_laws_toIndexS cs)
theorem ok_laws_toDef {WI : World → Prop} (hs : Stable WI) (cs) (hT : TOK (EE cs) WI) (h0 : (EE cs).T 59 = some (toC (sliceT tCol))) (h1 : (EE cs).T 60 = some (toC (sliceT tBy))) (h2 : (EE cs).T 61 = some (toC (sliceT tIndex))) : OwnOK Try.prog WI 30 (toC tDef) := by
  refine own1 (E := EE cs) hT hs (by rw [st_laws_toDef]; rfl) fun v hc => outO_wp (st_laws_toDef cs) ?_
  have hcost : tDef.cost v = v.fName.length + (sliceT tCol).cost v.fCols + (sliceT tBy).cost v.fPrimary + (sliceT tIndex).cost v.fIndexes := rfl
  have c_Cols : toC (sliceT tCol) [.imm (v.fCols.map TCol.row)] = some (.imm (v.fCols.map TCol.row)) := toC_eq (sliceT tCol) (by omega)
  have c_Primary : toC (sliceT tBy) [.imm (v.fPrimary.map TBy.row)] = some (.imm (v.fPrimary.map TBy.row)) := toC_eq (sliceT tBy) (by omega)
  have c_Indexes : toC (sliceT tIndex) [.imm (v.fIndexes.map TIndex.row)] = some (.imm (v.fIndexes.map TIndex.row)) := toC_eq (sliceT tIndex) (by omega)
  simp only [go_sem, kSt_ptr, Nat.reduceBEq, Nat.reduceAdd, Nat.reduceEqDiff, Nat.reduceLeDiff, Nat.reduceSub, reduceIte, Int.reduceBEq, Int.reduceEq, Int.reduceLT, Int.reduceLE, Int.reduceGT, Int.reduceGE, Int.reduceNe, Int.reduceBNe, s_laws_toDef, TDef.row, tDef_enc, h0, h1, h2, id_eq]
  refine hP_own (n := 1) (mapO1 ((sliceT tCol).frzT 8 _ v.fCols)) c_Cols ((sliceT tCol).okT v.fCols (by decide)) (by decide) ?_
  intro x_Cols g_Cols o_Cols p_Cols a_Cols n_Cols
  have m_Cols : 3 ≤ g_Cols.nx := n_Cols
  have b0_Cols : g_Cols.hp 0 = some [.str v.fName, .imm (v.fCols.map TCol.row), .imm (v.fPrimary.map TBy.row), .imm (v.fIndexes.map TIndex.row)] := (p_Cols 0 (by simp [Hp.new, Hp.empty, Hp.set])).trans (by simp [Hp.new, Hp.empty, Hp.set])
  have b1_Cols : g_Cols.hp 1 = some [.str [], .snil, .snil, .snil] := (p_Cols 1 (by simp [Hp.new, Hp.empty, Hp.set])).trans (by simp [Hp.new, Hp.empty, Hp.set])
  have b2_Cols : g_Cols.hp 2 = some [.str v.fName, .snil, .snil, .snil] := (p_Cols 2 (by simp [Hp.new, Hp.empty, Hp.set])).trans (by simp [Hp.new, Hp.empty, Hp.set])
  obtain ⟨A_Cols, e_Cols, z_Cols⟩ := OwI.slice o_Cols n_Cols
  replace A_Cols := (A_Cols.up (m := 8) (by decide)).wide (lo' := 3) (hi' := g_Cols.nx) (by first | exact Nat.le_refl _ | simp [Hp.new, Hp.empty, Hp.set]) (Nat.le_refl _) (Nat.le_refl _)
  simp only [go_sem, kSt_ptr, Nat.reduceBEq, Nat.reduceAdd, Nat.reduceEqDiff, Nat.reduceLeDiff, Nat.reduceSub, reduceIte, Int.reduceBEq, Int.reduceEq, Int.reduceLT, Int.reduceLE, Int.reduceGT, Int.reduceGE, Int.reduceNe, Int.reduceBNe, s_laws_toDef, TDef.row, tDef_enc, h0, h1, h2, id_eq, e_Cols, z_Cols, b0_Cols, b1_Cols, b2_Cols]
  refine hP_own (n := 1) (mapO1 ((sliceT tBy).frzT 8 _ v.fPrimary)) c_Primary ((sliceT tBy).okT v.fPrimary (by decide)) (by decide) ?_
  intro x_Primary g_Primary o_Primary p_Primary a_Primary n_Primary
  have l_Primary : g_Cols.nx ≤ g_Primary.nx := n_Primary
  have m_Primary : 3 ≤ g_Primary.nx := Nat.le_trans m_Cols l_Primary
  have b0_Primary : g_Primary.hp 0 = some [.str v.fName, .imm (v.fCols.map TCol.row), .imm (v.fPrimary.map TBy.row), .imm (v.fIndexes.map TIndex.row)] := (p_Primary 0 (show 0 < g_Cols.nx by omega)).trans (by simp [Hp.set, b0_Cols])
  have b1_Primary : g_Primary.hp 1 = some [.str [], .snil, .snil, .snil] := (p_Primary 1 (show 1 < g_Cols.nx by omega)).trans (by simp [Hp.set, b1_Cols])
  have b2_Primary : g_Primary.hp 2 = some [.str v.fName, x_Cols, .snil, .snil] := (p_Primary 2 (show 2 < g_Cols.nx by omega)).trans (by simp [Hp.set])
  replace A_Cols := A_Cols.mono (h' := g_Primary) l_Primary fun q hq hq2 => (p_Primary q (show q < g_Cols.nx by omega)).trans (by simp [Hp.set, show q ≠ 2 by omega])
  obtain ⟨A_Primary, e_Primary, z_Primary⟩ := OwI.slice o_Primary n_Primary
  replace A_Primary := (A_Primary.up (m := 8) (by decide)).wide (lo' := g_Cols.nx) (hi' := g_Primary.nx) (by first | exact Nat.le_refl _ | simp [Hp.new, Hp.empty, Hp.set]) (Nat.le_refl _) (Nat.le_refl _)
  simp only [go_sem, kSt_ptr, Nat.reduceBEq, Nat.reduceAdd, Nat.reduceEqDiff, Nat.reduceLeDiff, Nat.reduceSub, reduceIte, Int.reduceBEq, Int.reduceEq, Int.reduceLT, Int.reduceLE, Int.reduceGT, Int.reduceGE, Int.reduceNe, Int.reduceBNe, s_laws_toDef, TDef.row, tDef_enc, h0, h1, h2, id_eq, e_Cols, z_Cols, e_Primary, z_Primary, b0_Primary, b1_Primary, b2_Primary]
  refine hP_own (n := 2) (mapO1 ((sliceT tIndex).frzT 8 _ v.fIndexes)) c_Indexes ((sliceT tIndex).okT v.fIndexes (by decide)) (by decide) ?_
  intro x_Indexes g_Indexes o_Indexes p_Indexes a_Indexes n_Indexes
  have l_Indexes : g_Primary.nx ≤ g_Indexes.nx := n_Indexes
  have m_Indexes : 3 ≤ g_Indexes.nx := Nat.le_trans m_Primary l_Indexes
  have b0_Indexes : g_Indexes.hp 0 = some [.str v.fName, .imm (v.fCols.map TCol.row), .imm (v.fPrimary.map TBy.row), .imm (v.fIndexes.map TIndex.row)] := (p_Indexes 0 (show 0 < g_Primary.nx by omega)).trans (by simp [Hp.set, b0_Primary])
  have b1_Indexes : g_Indexes.hp 1 = some [.str [], .snil, .snil, .snil] := (p_Indexes 1 (show 1 < g_Primary.nx by omega)).trans (by simp [Hp.set, b1_Primary])
  have b2_Indexes : g_Indexes.hp 2 = some [.str v.fName, x_Cols, x_Primary, .snil] := (p_Indexes 2 (show 2 < g_Primary.nx by omega)).trans (by simp [Hp.set])
  replace A_Cols := A_Cols.mono (h' := g_Indexes) l_Indexes fun q hq hq2 => (p_Indexes q (show q < g_Primary.nx by omega)).trans (by simp [Hp.set, show q ≠ 2 by omega])
  replace A_Primary := A_Primary.mono (h' := g_Indexes) l_Indexes fun q hq hq2 => (p_Indexes q (show q < g_Primary.nx by omega)).trans (by simp [Hp.set, show q ≠ 2 by omega])
  obtain ⟨A_Indexes, e_Indexes, z_Indexes⟩ := OwI.slice o_Indexes n_Indexes
  replace A_Indexes := (A_Indexes.up (m := 8) (by decide)).wide (lo' := g_Primary.nx) (hi' := g_Indexes.nx) (by first | exact Nat.le_refl _ | simp [Hp.new, Hp.empty, Hp.set]) (Nat.le_refl _) (Nat.le_refl _)
  simp only [go_sem, kSt_ptr, Nat.reduceBEq, Nat.reduceAdd, Nat.reduceEqDiff, Nat.reduceLeDiff, Nat.reduceSub, reduceIte, Int.reduceBEq, Int.reduceEq, Int.reduceLT, Int.reduceLE, Int.reduceGT, Int.reduceGE, Int.reduceNe, Int.reduceBNe, s_laws_toDef, TDef.row, tDef_enc, h0, h1, h2, id_eq, e_Cols, z_Cols, e_Primary, z_Primary, e_Indexes, z_Indexes, b0_Indexes, b1_Indexes, b2_Indexes]
  have B : OwA 8 3 g_Indexes.nx g_Indexes [.str v.fName, x_Cols, x_Primary, x_Indexes] (TDef.row v) := (OwA.leaf (OwA.cat A_Cols (OwA.cat A_Primary (OwA.cat A_Indexes (OwA.nil 8 g_Indexes.nx (Nat.le_refl _)) (by omega)) (by omega)) (by omega)) rfl)
  refine OwA.owE (n := 8) (lo := 3) (hi := g_Indexes.nx) (B.mono ?_ fun q hq hq2 => ?_) (by decide)
  · simp [Hp.set]
  · simp [Hp.set, show q ≠ 2 by omega, show q ≠ 1 by omega]
theorem ok_laws_toDefS {WI : World → Prop} (hs : Stable WI) (cs) (hT : TOK (EE cs) WI) (h0 : (EE cs).T 30 = some (toC tDef)) : OwnOK Try.prog WI 14 (toC (sliceT tDef)) := toSO_ok (E := EE cs) (T := tDef) (bt := 88) (z := [.str [], .snil, .snil, .snil]) hT hs h0 rfl (by decide) (by decide) (st_laws_toDefS cs)
theorem ok_laws_toByteS {WI : World → Prop} (hs : Stable WI) (cs) (hT : TOK (EE cs) WI)  : OwnOK Try.prog WI 62 (toC (sliceT u8T)) := cpSO_ok (E := EE cs) (T := u8T) (bt := 1) (z := [.int .u8 0]) hT hs rfl rfl rfl (by decide) (st_laws_toByteS cs)
theorem ok_laws_toByteSS {WI : World → Prop} (hs : Stable WI) (cs) (hT : TOK (EE cs) WI) (h0 : (EE cs).T 62 = some (toC (sliceT u8T))) : OwnOK Try.prog WI 31 (toC (sliceT (sliceT u8T))) := toSO_ok (E := EE cs) (T := (sliceT u8T)) (bt := 24) (z := [.snil]) hT hs h0 rfl (by decide) (by decide) (st_laws_toByteSS cs)
theorem ok_laws_toWrite {WI : World → Prop} (hs : Stable WI) (cs) (hT : TOK (EE cs) WI) (h0 : (EE cs).T 62 = some (toC (sliceT u8T))) : OwnOK Try.prog WI 63 (toC tWrite) := by
  refine own1 (E := EE cs) hT hs (by rw [st_laws_toWrite]; rfl) fun v hc => outO_wp (st_laws_toWrite cs) ?_
  have hcost : tWrite.cost v = (sliceT u8T).cost v.fB := rfl
  have c_B : toC (sliceT u8T) [.imm (v.fB.map u8T.row)] = some (.imm (v.fB.map u8T.row)) := toC_eq (sliceT u8T) (by omega)
  simp only [go_sem, kSt_ptr, Nat.reduceBEq, Nat.reduceAdd, Nat.reduceEqDiff, Nat.reduceLeDiff, Nat.reduceSub, reduceIte, Int.reduceBEq, Int.reduceEq, Int.reduceLT, Int.reduceLE, Int.reduceGT, Int.reduceGE, Int.reduceNe, Int.reduceBNe, s_laws_toWrite, TWrite.row, tWrite_enc, h0, id_eq]
  refine hP_own (n := 1) (mapO1 ((sliceT u8T).frzT 8 _ v.fB)) c_B ((sliceT u8T).okT v.fB (by decide)) (by decide) ?_
  intro x_B g_B o_B p_B a_B n_B
  have m_B : 3 ≤ g_B.nx := n_B
  have b0_B : g_B.hp 0 = some [.int .i64 v.fN, .imm (v.fB.map u8T.row)] := (p_B 0 (by simp [Hp.new, Hp.empty, Hp.set])).trans (by simp [Hp.new, Hp.empty, Hp.set])
  have b1_B : g_B.hp 1 = some [.int .i64 0, .snil] := (p_B 1 (by simp [Hp.new, Hp.empty, Hp.set])).trans (by simp [Hp.new, Hp.empty, Hp.set])
  have b2_B : g_B.hp 2 = some [.int .i64 v.fN, .snil] := (p_B 2 (by simp [Hp.new, Hp.empty, Hp.set])).trans (by simp [Hp.new, Hp.empty, Hp.set])
  obtain ⟨A_B, e_B, z_B⟩ := OwI.slice o_B n_B
  replace A_B := (A_B.up (m := 8) (by decide)).wide (lo' := 3) (hi' := g_B.nx) (by first | exact Nat.le_refl _ | simp [Hp.new, Hp.empty, Hp.set]) (Nat.le_refl _) (Nat.le_refl _)
  simp only [go_sem, kSt_ptr, Nat.reduceBEq, Nat.reduceAdd, Nat.reduceEqDiff, Nat.reduceLeDiff, Nat.reduceSub, reduceIte, Int.reduceBEq, Int.reduceEq, Int.reduceLT, Int.reduceLE, Int.reduceGT, Int.reduceGE, Int.reduceNe, Int.reduceBNe, s_laws_toWrite, TWrite.row, tWrite_enc, h0, id_eq, e_B, z_B, b0_B, b1_B, b2_B]
  have B : OwA 8 3 g_B.nx g_B [.int .i64 v.fN, x_B] (TWrite.row v) := (OwA.leaf (OwA.cat A_B (OwA.nil 8 g_B.nx (Nat.le_refl _)) (by omega)) rfl)
  refine OwA.owE (n := 8) (lo := 3) (hi := g_B.nx) (B.mono ?_ fun q hq hq2 => ?_) (by decide)
  · simp [Hp.set]
  · simp [Hp.set, show q ≠ 2 by omega, show q ≠ 1 by omega]
theorem ok_laws_toWriteS {WI : World → Prop} (hs : Stable WI) (cs) (hT : TOK (EE cs) WI) (h0 : (EE cs).T 63 = some (toC tWrite)) : OwnOK Try.prog WI 32 (toC (sliceT tWrite)) := toSO_ok (E := EE cs) (T := tWrite) (bt := 32) (z := [.int .i64 0, .snil]) hT hs h0 rfl (by decide) (by decide) (st_laws_toWriteS cs)
theorem ok_laws_toFault {WI : World → Prop} (hs : Stable WI) (cs) (hT : TOK (EE cs) WI)  : PureOK Try.prog WI 64 (toC tFault) := by
  refine pure1 (E := EE cs) hT hs (by rw [st_laws_toFault]; rfl) fun v hc => out_K (n := 0) (st_laws_toFault cs) ?_
  have hcost : tFault.cost v = 0 := rfl
  simp only [go_sem, kSt_ptr, Nat.reduceBEq, Nat.reduceAdd, Nat.reduceEqDiff, Nat.reduceLeDiff, Nat.reduceSub, reduceIte, Int.reduceBEq, Int.reduceEq, Int.reduceLT, Int.reduceLE, Int.reduceGT, Int.reduceGE, Int.reduceNe, Int.reduceBNe, s_laws_toFault, TFault.row, id_eq]
theorem ok_laws_toFaultS {WI : World → Prop} (hs : Stable WI) (cs) (hT : TOK (EE cs) WI) (h0 : (EE cs).T 64 = some (toC tFault)) : OwnOK Try.prog WI 33 (toC (sliceT tFault)) := toSQ_ok (E := EE cs) (T := tFault) (bt := 24) (z := [.int .i64 0, .int .i64 0, .int .i64 0]) hT hs h0 rfl rfl (by decide) (st_laws_toFaultS cs)
theorem ok_laws_toDisk {WI : World → Prop} (hs : Stable WI) (cs) (hT : TOK (EE cs) WI) (h0 : (EE cs).T 31 = some (toC (sliceT (sliceT u8T)))) (h1 : (EE cs).T 32 = some (toC (sliceT tWrite))) (h2 : (EE cs).T 33 = some (toC (sliceT tFault))) : OwnOK Try.prog WI 15 (toC tDisk) := by
  refine own1 (E := EE cs) hT hs (by rw [st_laws_toDisk]; rfl) fun v hc => outO_wp (st_laws_toDisk cs) ?_
  have hcost : tDisk.cost v = (sliceT (sliceT u8T)).cost v.fSecs + (sliceT tWrite).cost v.fCache + (sliceT tFault).cost v.fFaults := rfl
  have c_Secs : toC (sliceT (sliceT u8T)) [.imm (v.fSecs.map (sliceT u8T).row)] = some (.imm (v.fSecs.map (sliceT u8T).row)) := toC_eq (sliceT (sliceT u8T)) (by omega)
  have c_Cache : toC (sliceT tWrite) [.imm (v.fCache.map TWrite.row)] = some (.imm (v.fCache.map TWrite.row)) := toC_eq (sliceT tWrite) (by omega)
  have c_Faults : toC (sliceT tFault) [.imm (v.fFaults.map TFault.row)] = some (.imm (v.fFaults.map TFault.row)) := toC_eq (sliceT tFault) (by omega)
  simp only [go_sem, kSt_ptr, Nat.reduceBEq, Nat.reduceAdd, Nat.reduceEqDiff, Nat.reduceLeDiff, Nat.reduceSub, reduceIte, Int.reduceBEq, Int.reduceEq, Int.reduceLT, Int.reduceLE, Int.reduceGT, Int.reduceGE, Int.reduceNe, Int.reduceBNe, s_laws_toDisk, TDisk.row, tDisk_enc, h0, h1, h2, id_eq]
  refine hP_own (n := 2) (mapO1 ((sliceT (sliceT u8T)).frzT 8 _ v.fSecs)) c_Secs ((sliceT (sliceT u8T)).okT v.fSecs (by decide)) (by decide) ?_
  intro x_Secs g_Secs o_Secs p_Secs a_Secs n_Secs
  have m_Secs : 3 ≤ g_Secs.nx := n_Secs
  have b0_Secs : g_Secs.hp 0 = some [.imm (v.fSecs.map (sliceT u8T).row), .imm (v.fCache.map TWrite.row), .int .i64 v.fOps, .imm (v.fFaults.map TFault.row), .bool v.fDown] := (p_Secs 0 (by simp [Hp.new, Hp.empty, Hp.set])).trans (by simp [Hp.new, Hp.empty, Hp.set])
  have b1_Secs : g_Secs.hp 1 = some [.snil, .snil, .int .i64 0, .snil, .bool false] := (p_Secs 1 (by simp [Hp.new, Hp.empty, Hp.set])).trans (by simp [Hp.new, Hp.empty, Hp.set])
  have b2_Secs : g_Secs.hp 2 = some [.snil, .snil, .int .i64 0, .snil, .bool false] := (p_Secs 2 (by simp [Hp.new, Hp.empty, Hp.set])).trans (by simp [Hp.new, Hp.empty, Hp.set])
  obtain ⟨A_Secs, e_Secs, z_Secs⟩ := OwI.slice o_Secs n_Secs
  replace A_Secs := (A_Secs.up (m := 8) (by decide)).wide (lo' := 3) (hi' := g_Secs.nx) (by first | exact Nat.le_refl _ | simp [Hp.new, Hp.empty, Hp.set]) (Nat.le_refl _) (Nat.le_refl _)
  simp only [go_sem, kSt_ptr, Nat.reduceBEq, Nat.reduceAdd, Nat.reduceEqDiff, Nat.reduceLeDiff, Nat.reduceSub, reduceIte, Int.reduceBEq, Int.reduceEq, Int.reduceLT, Int.reduceLE, Int.reduceGT, Int.reduceGE, Int.reduceNe, Int.reduceBNe, s_laws_toDisk, TDisk.row, tDisk_enc, h0, h1, h2, id_eq, e_Secs, z_Secs, b0_Secs, b1_Secs, b2_Secs]
  refine hP_own (n := 2) (mapO1 ((sliceT tWrite).frzT 8 _ v.fCache)) c_Cache ((sliceT tWrite).okT v.fCache (by decide)) (by decide) ?_
  intro x_Cache g_Cache o_Cache p_Cache a_Cache n_Cache
  have l_Cache : g_Secs.nx ≤ g_Cache.nx := n_Cache
  have m_Cache : 3 ≤ g_Cache.nx := Nat.le_trans m_Secs l_Cache
  have b0_Cache : g_Cache.hp 0 = some [.imm (v.fSecs.map (sliceT u8T).row), .imm (v.fCache.map TWrite.row), .int .i64 v.fOps, .imm (v.fFaults.map TFault.row), .bool v.fDown] := (p_Cache 0 (show 0 < g_Secs.nx by omega)).trans (by simp [Hp.set, b0_Secs])
  have b1_Cache : g_Cache.hp 1 = some [.snil, .snil, .int .i64 0, .snil, .bool false] := (p_Cache 1 (show 1 < g_Secs.nx by omega)).trans (by simp [Hp.set, b1_Secs])
  have b2_Cache : g_Cache.hp 2 = some [x_Secs, .snil, .int .i64 0, .snil, .bool false] := (p_Cache 2 (show 2 < g_Secs.nx by omega)).trans (by simp [Hp.set])
  replace A_Secs := A_Secs.mono (h' := g_Cache) l_Cache fun q hq hq2 => (p_Cache q (show q < g_Secs.nx by omega)).trans (by simp [Hp.set, show q ≠ 2 by omega])
  obtain ⟨A_Cache, e_Cache, z_Cache⟩ := OwI.slice o_Cache n_Cache
  replace A_Cache := (A_Cache.up (m := 8) (by decide)).wide (lo' := g_Secs.nx) (hi' := g_Cache.nx) (by first | exact Nat.le_refl _ | simp [Hp.new, Hp.empty, Hp.set]) (Nat.le_refl _) (Nat.le_refl _)
  simp only [go_sem, kSt_ptr, Nat.reduceBEq, Nat.reduceAdd, Nat.reduceEqDiff, Nat.reduceLeDiff, Nat.reduceSub, reduceIte, Int.reduceBEq, Int.reduceEq, Int.reduceLT, Int.reduceLE, Int.reduceGT, Int.reduceGE, Int.reduceNe, Int.reduceBNe, s_laws_toDisk, TDisk.row, tDisk_enc, h0, h1, h2, id_eq, e_Secs, z_Secs, e_Cache, z_Cache, b0_Cache, b1_Cache, b2_Cache]
  refine hP_own (n := 1) (mapO1 ((sliceT tFault).frzT 8 _ v.fFaults)) c_Faults ((sliceT tFault).okT v.fFaults (by decide)) (by decide) ?_
  intro x_Faults g_Faults o_Faults p_Faults a_Faults n_Faults
  have l_Faults : g_Cache.nx ≤ g_Faults.nx := n_Faults
  have m_Faults : 3 ≤ g_Faults.nx := Nat.le_trans m_Cache l_Faults
  have b0_Faults : g_Faults.hp 0 = some [.imm (v.fSecs.map (sliceT u8T).row), .imm (v.fCache.map TWrite.row), .int .i64 v.fOps, .imm (v.fFaults.map TFault.row), .bool v.fDown] := (p_Faults 0 (show 0 < g_Cache.nx by omega)).trans (by simp [Hp.set, b0_Cache])
  have b1_Faults : g_Faults.hp 1 = some [.snil, .snil, .int .i64 0, .snil, .bool false] := (p_Faults 1 (show 1 < g_Cache.nx by omega)).trans (by simp [Hp.set, b1_Cache])
  have b2_Faults : g_Faults.hp 2 = some [x_Secs, x_Cache, .int .i64 v.fOps, .snil, .bool false] := (p_Faults 2 (show 2 < g_Cache.nx by omega)).trans (by simp [Hp.set])
  replace A_Secs := A_Secs.mono (h' := g_Faults) l_Faults fun q hq hq2 => (p_Faults q (show q < g_Cache.nx by omega)).trans (by simp [Hp.set, show q ≠ 2 by omega])
  replace A_Cache := A_Cache.mono (h' := g_Faults) l_Faults fun q hq hq2 => (p_Faults q (show q < g_Cache.nx by omega)).trans (by simp [Hp.set, show q ≠ 2 by omega])
  obtain ⟨A_Faults, e_Faults, z_Faults⟩ := OwI.slice o_Faults n_Faults
  replace A_Faults := (A_Faults.up (m := 8) (by decide)).wide (lo' := g_Cache.nx) (hi' := g_Faults.nx) (by first | exact Nat.le_refl _ | simp [Hp.new, Hp.empty, Hp.set]) (Nat.le_refl _) (Nat.le_refl _)
  simp only [go_sem, kSt_ptr, Nat.reduceBEq, Nat.reduceAdd, Nat.reduceEqDiff, Nat.reduceLeDiff, Nat.reduceSub, reduceIte, Int.reduceBEq, Int.reduceEq, Int.reduceLT, Int.reduceLE, Int.reduceGT, Int.reduceGE, Int.reduceNe, Int.reduceBNe, s_laws_toDisk, TDisk.row, tDisk_enc, h0, h1, h2, id_eq, e_Secs, z_Secs, e_Cache, z_Cache, e_Faults, z_Faults, b0_Faults, b1_Faults, b2_Faults]
  have B : OwA 8 3 g_Faults.nx g_Faults [x_Secs, x_Cache, .int .i64 v.fOps, x_Faults, .bool v.fDown] (TDisk.row v) := (OwA.cat A_Secs (OwA.cat A_Cache (OwA.leaf (OwA.cat A_Faults (OwA.leaf (OwA.nil 8 g_Faults.nx (Nat.le_refl _)) rfl) (by omega)) rfl) (by omega)) (by omega))
  refine OwA.owE (n := 8) (lo := 3) (hi := g_Faults.nx) (B.mono ?_ fun q hq hq2 => ?_) (by decide)
  · simp [Hp.set]
  · simp [Hp.set, show q ≠ 2 by omega, show q ≠ 1 by omega]
end Go.Proofs.Ytgjdkcjijmdfoaa.Eo
/- What the functions that FnExactEngOn calls answer: part 3. -/
namespace Go.Proofs.Ytgjdkcjijmdfoaa.Eo
open Go Go.RowKit Go.Ev
set_option linter.unusedSimpArgs false
set_option linter.unusedVariables false
set_option maxHeartbeats 1600000
theorem ok_laws_toEng {WI : World → Prop} (hs : Stable WI) (cs) (hT : TOK (EE cs) WI) (h0 : (EE cs).T 14 = some (toC (sliceT tDef))) (h1 : (EE cs).T 15 = some (toC tDisk)) : OwnOK Try.prog WI 6 (toC tEng) := by
  refine own1 (E := EE cs) hT hs (by rw [st_laws_toEng]; rfl) fun v hc => outO_wp (st_laws_toEng cs) ?_
  have hcost : tEng.cost v = (sliceT tDef).cost v.fS + tDisk.cost v.fD := rfl
  have c_S : toC (sliceT tDef) [.imm (v.fS.map TDef.row)] = some (.imm (v.fS.map TDef.row)) := toC_eq (sliceT tDef) (by omega)
  have c_D : toC tDisk [.agg [.imm (v.fD.fSecs.map (sliceT u8T).row), .imm (v.fD.fCache.map TWrite.row), .int .i64 v.fD.fOps, .imm (v.fD.fFaults.map TFault.row), .bool v.fD.fDown]] = some (.agg [.imm (v.fD.fSecs.map (sliceT u8T).row), .imm (v.fD.fCache.map TWrite.row), .int .i64 v.fD.fOps, .imm (v.fD.fFaults.map TFault.row), .bool v.fD.fDown]) := toC_eq tDisk (by omega)
  simp only [go_sem, kSt_ptr, Nat.reduceBEq, Nat.reduceAdd, Nat.reduceEqDiff, Nat.reduceLeDiff, Nat.reduceSub, reduceIte, Int.reduceBEq, Int.reduceEq, Int.reduceLT, Int.reduceLE, Int.reduceGT, Int.reduceGE, Int.reduceNe, Int.reduceBNe, s_laws_toEng, TEng.row, tEng_enc, h0, h1, TDisk.row, id_eq]
  refine hP_own (n := 3) (mapO1 ((sliceT tDef).frzT 8 _ v.fS)) c_S ((sliceT tDef).okT v.fS (by decide)) (by decide) ?_
  intro x_S g_S o_S p_S a_S n_S
  have m_S : 3 ≤ g_S.nx := n_S
  have b0_S : g_S.hp 0 = some [.imm (v.fS.map TDef.row), .imm (v.fD.fSecs.map (sliceT u8T).row), .imm (v.fD.fCache.map TWrite.row), .int .i64 v.fD.fOps, .imm (v.fD.fFaults.map TFault.row), .bool v.fD.fDown] := (p_S 0 (by simp [Hp.new, Hp.empty, Hp.set])).trans (by simp [Hp.new, Hp.empty, Hp.set])
  have b1_S : g_S.hp 1 = some [.snil, .snil, .snil, .int .i64 0, .snil, .bool false] := (p_S 1 (by simp [Hp.new, Hp.empty, Hp.set])).trans (by simp [Hp.new, Hp.empty, Hp.set])
  have b2_S : g_S.hp 2 = some [.snil, .snil, .snil, .int .i64 0, .snil, .bool false] := (p_S 2 (by simp [Hp.new, Hp.empty, Hp.set])).trans (by simp [Hp.new, Hp.empty, Hp.set])
  obtain ⟨A_S, e_S, z_S⟩ := OwI.slice o_S n_S
  replace A_S := (A_S.up (m := 8) (by decide)).wide (lo' := 3) (hi' := g_S.nx) (by first | exact Nat.le_refl _ | simp [Hp.new, Hp.empty, Hp.set]) (Nat.le_refl _) (Nat.le_refl _)
  simp only [go_sem, kSt_ptr, Nat.reduceBEq, Nat.reduceAdd, Nat.reduceEqDiff, Nat.reduceLeDiff, Nat.reduceSub, reduceIte, Int.reduceBEq, Int.reduceEq, Int.reduceLT, Int.reduceLE, Int.reduceGT, Int.reduceGE, Int.reduceNe, Int.reduceBNe, s_laws_toEng, TEng.row, tEng_enc, h0, h1, TDisk.row, id_eq, e_S, z_S, b0_S, b1_S, b2_S]
  refine hP_own (n := 2) (mapO1 (tDisk.frzT 8 _ v.fD)) c_D (tDisk.okT v.fD (by decide)) (by decide) ?_
  intro x_D g_D o_D p_D a_D n_D
  have l_D : g_S.nx ≤ g_D.nx := n_D
  have m_D : 3 ≤ g_D.nx := Nat.le_trans m_S l_D
  have b0_D : g_D.hp 0 = some [.imm (v.fS.map TDef.row), .imm (v.fD.fSecs.map (sliceT u8T).row), .imm (v.fD.fCache.map TWrite.row), .int .i64 v.fD.fOps, .imm (v.fD.fFaults.map TFault.row), .bool v.fD.fDown] := (p_D 0 (show 0 < g_S.nx by omega)).trans (by simp [Hp.set, b0_S])
  have b1_D : g_D.hp 1 = some [.snil, .snil, .snil, .int .i64 0, .snil, .bool false] := (p_D 1 (show 1 < g_S.nx by omega)).trans (by simp [Hp.set, b1_S])
  have b2_D : g_D.hp 2 = some [x_S, .snil, .snil, .int .i64 0, .snil, .bool false] := (p_D 2 (show 2 < g_S.nx by omega)).trans (by simp [Hp.set])
  replace A_S := A_S.mono (h' := g_D) l_D fun q hq hq2 => (p_D q (show q < g_S.nx by omega)).trans (by simp [Hp.set, show q ≠ 2 by omega])
  obtain ⟨ds, rfl, e_D, A_D⟩ := OwI.agg (row := (v.fD).row) o_D n_D
  obtain ⟨d_D0, d_D1, d_D2, d_D3, d_D4, rfl⟩ := len5 e_D
  have z_D := A_D.cells
  simp only [List.any_cons, List.any_nil, Bool.or_false, Bool.or_eq_false_iff] at z_D
  replace A_D := (A_D.up (m := 8) (by decide)).wide (lo' := g_S.nx) (hi' := g_D.nx) (by first | exact Nat.le_refl _ | simp [Hp.new, Hp.empty, Hp.set]) (Nat.le_refl _) (Nat.le_refl _)
  simp only [go_sem, kSt_ptr, Nat.reduceBEq, Nat.reduceAdd, Nat.reduceEqDiff, Nat.reduceLeDiff, Nat.reduceSub, reduceIte, Int.reduceBEq, Int.reduceEq, Int.reduceLT, Int.reduceLE, Int.reduceGT, Int.reduceGE, Int.reduceNe, Int.reduceBNe, s_laws_toEng, TEng.row, tEng_enc, h0, h1, TDisk.row, id_eq, e_S, z_S, z_D, b0_D, b1_D, b2_D]
  have B : OwA 8 3 g_D.nx g_D [x_S, d_D0, d_D1, d_D2, d_D3, d_D4] (TEng.row v) := (OwA.cat A_S (OwA.cat A_D (OwA.nil 8 g_D.nx (Nat.le_refl _)) (by omega)) (by omega))
  refine OwA.owE (n := 8) (lo := 3) (hi := g_D.nx) (B.mono ?_ fun q hq hq2 => ?_) (by decide)
  · simp [Hp.set]
  · simp [Hp.set, show q ≠ 2 by omega, show q ≠ 1 by omega]
noncomputable def C_spec_l9Copy := c1 tDef (fun (d : TDef) => tDef.cost d ≤ 1048576) (fun x => .agg (x).row) fun (d : TDef) => d
theorem C_spec_l9Copy_eq (d : TDef) (h : tDef.cost d ≤ 1048576) : C_spec_l9Copy [.agg [.str d.fName, .imm (d.fCols.map TCol.row), .imm (d.fPrimary.map TBy.row), .imm (d.fIndexes.map TIndex.row)]] = some (.agg (((d))).row) := c1_eq tDef h
theorem ok_spec_l9Copy {WI : World → Prop} (hs : Stable WI) (cs) (hT : TOK (EE cs) WI) : PureOK Try.prog WI 29 C_spec_l9Copy := by
  refine pure1 (E := EE cs) hT hs (by rw [st_spec_l9Copy]; rfl) fun d hp => out_wp (n := 0) (st_spec_l9Copy cs) ?_
  have hp' : tDef.cost d ≤ 1048576 := hp
  have hcost : tDef.cost d = d.fName.length + (sliceT tCol).cost d.fCols + (sliceT tBy).cost d.fPrimary + (sliceT tIndex).cost d.fIndexes := rfl
  have hc1 : (sliceT tCol).cost d.fCols = d.fCols.length + costL tCol d.fCols := rfl
  have hc2 : (sliceT tBy).cost d.fPrimary = d.fPrimary.length + costL tBy d.fPrimary := rfl
  have hc3 : (sliceT tIndex).cost d.fIndexes = d.fIndexes.length + costL tIndex d.fIndexes := rfl
  simp only [go_sem, kSt_ptr, Nat.reduceBEq, Nat.reduceAdd, Nat.reduceEqDiff, Nat.reduceLeDiff, Nat.reduceSub, reduceIte, Int.reduceBEq, Int.reduceEq, Int.reduceLT, Int.reduceLE, Int.reduceGT, Int.reduceGE, Int.reduceNe, Int.reduceBNe, s_spec_l9Copy, TDef.row, tDef_enc]
  refine hP_appE (T := tCol) d.fCols rfl (rowsIn_imm _ _ _) (by unfold room; omega) ?_
  intro c1 s1
  have z1 := s1.2
  simp only [go_sem, kSt_ptr, Nat.reduceBEq, Nat.reduceAdd, Nat.reduceEqDiff, Nat.reduceLeDiff, Nat.reduceSub, reduceIte, Int.reduceBEq, Int.reduceEq, Int.reduceLT, Int.reduceLE, Int.reduceGT, Int.reduceGE, Int.reduceNe, Int.reduceBNe, z1]
  refine hP_appE (T := tBy) d.fPrimary rfl (rowsIn_imm _ _ _) (by unfold room; omega) ?_
  intro c2 s2
  have z2 := s2.2
  have b1 : sFill [.str [], .snil, .snil, .snil] [(0, 1, .str d.fName), (1, 1, c1), (2, 1, c2)] = some [.str d.fName, c1, c2, .snil] := by simp [sFill, fillAt, z1, z2, cell1 z1, cell1 z2, cl_str, nc_str]
  simp only [go_sem, kSt_ptr, Nat.reduceBEq, Nat.reduceAdd, Nat.reduceEqDiff, Nat.reduceLeDiff, Nat.reduceSub, reduceIte, Int.reduceBEq, Int.reduceEq, Int.reduceLT, Int.reduceLE, Int.reduceGT, Int.reduceGE, Int.reduceNe, Int.reduceBNe, z1, z2, b1, cell1 z1, cell1 z2]
  refine (wl_for (l := d.fIndexes) (fun pre e h => e 1 = .ptr 0 0 ∧ e 2 = .ptr 1 0 ∧ e 3 = .ptr 2 0 ∧ h.hp 0 = some [.str d.fName, .imm (d.fCols.map TCol.row), .imm (d.fPrimary.map TBy.row), .imm (d.fIndexes.map TIndex.row)] ∧ h.hp 1 = some [.str [], .snil, .snil, .snil] ∧ 3 ≤ h.nx ∧ (∃ x, h.hp 2 = some [.str d.fName, c1, c2, x] ∧ grows tIndex pre x h) ∧ e 4 = .int .i64 pre.length) (.exit 0) (fun e h => e 1 = .ptr 0 0 ∧ e 2 = .ptr 1 0 ∧ e 3 = .ptr 2 0 ∧ h.hp 0 = some [.str d.fName, .imm (d.fCols.map TCol.row), .imm (d.fPrimary.map TBy.row), .imm (d.fIndexes.map TIndex.row)] ∧ h.hp 1 = some [.str [], .snil, .snil, .snil] ∧ 3 ≤ h.nx ∧ (∃ x, h.hp 2 = some [.str d.fName, c1, c2, x] ∧ grows tIndex (d.fIndexes) x h)) (by omega) ?_ ?_ (by simp) d.fIndexes [] _ _ rfl ?_).mono ?_
  · rintro pre v rest e h a ⟨q0, q1, q2, q3, q4, q5, q6, ix⟩
    obtain ⟨x0, hx0, gx0⟩ := id q6
    have n0 : ¬ 0 = h.nx := by omega
    have n1 : ¬ 1 = h.nx := by omega
    have n2 : ¬ 2 = h.nx := by omega
    have hvc := costL_mem tIndex a.mem
    have hvc2 : tIndex.cost v = v.fName.length + (sliceT tBy).cost v.fParts := rfl
    have hvc3 : (sliceT tBy).cost v.fParts = v.fParts.length + costL tBy v.fParts := rfl
    simp only [go_sem, kSt_ptr, Nat.reduceBEq, Nat.reduceAdd, Nat.reduceEqDiff, Nat.reduceLeDiff, Nat.reduceSub, reduceIte, Int.reduceBEq, Int.reduceEq, Int.reduceLT, Int.reduceLE, Int.reduceGT, Int.reduceGE, Int.reduceNe, Int.reduceBNe, s_spec_l9Copy_L0, q0, q1, q2, q3, q4, q5, q6, ix, a.dl, a.ia (row := TIndex.row) (sz := 3) rfl, a.hw, TIndex.row, n0, n1, n2]
    refine hP_appE (T := tBy) v.fParts rfl (rowsIn_imm _ _ _) (by unfold room; omega) ?_
    intro c s
    replace s : SE (v.fParts.map TBy.row) c := s
    have zc := s.2
    have f1 : fillR (List.replicate 1 [.str [], .bool false, .snil]) 3 [(0, .agg [.str v.fName, .bool v.fUnique, c])] = some [[.str v.fName, .bool v.fUnique, c]] := by simp [fillR, isAggV, AV.cells]
    have f2 : frzRows [[.str v.fName, .bool v.fUnique, c]] = some [TIndex.row v] := by simp [frzRows, frzCells, s.1, TIndex.row, fc_str, fc_bool]
    simp only [go_sem, kSt_ptr, Nat.reduceBEq, Nat.reduceAdd, Nat.reduceEqDiff, Nat.reduceLeDiff, Nat.reduceSub, reduceIte, Int.reduceBEq, Int.reduceEq, Int.reduceLT, Int.reduceLE, Int.reduceGT, Int.reduceGE, Int.reduceNe, Int.reduceBNe, q0, q1, q2, q3, q4, hx0, n0, n1, n2, zc, cell1 zc, f1, f2]
    refine hP_grow [v] rfl (gx0.mono (by simp only []; omega) fun r hr => by have n3 : ¬ r = h.nx + 1 := (by omega); simp [n3]) rfl (by have := a.lt; simp only [List.length_cons, List.length_nil]; unfold room; omega) ?_
    intro v' h' g1 g2 g3 g4
    have e0 : h'.hp 0 = h.hp 0 := by rw [g2]; simp [n0]
    have e1 : h'.hp 1 = h.hp 1 := by rw [g2]; simp [n1]
    have e2 : h'.hp 2 = h.hp 2 := by rw [g2]; simp [n2]
    have g5 : 3 ≤ h'.nx := by have : h.nx + 1 + 1 ≤ h'.nx := g3; omega
    have zv := g1.cell.2
    simp only [go_sem, kSt_ptr, Nat.reduceBEq, Nat.reduceAdd, Nat.reduceEqDiff, Nat.reduceLeDiff, Nat.reduceSub, reduceIte, Int.reduceBEq, Int.reduceEq, Int.reduceLT, Int.reduceLE, Int.reduceGT, Int.reduceGE, Int.reduceNe, Int.reduceBNe, q0, q1, q2, e0, e1, e2, q3, q4, hx0, zv, cell1 zv, ix, a.hw, g5]
    exact ⟨v', rfl, g1.mono (Nat.le_refl _) fun _ _ => rfl⟩
  · rintro e h ⟨q0, q1, q2, q3, q4, q5, q6, ix⟩
    obtain ⟨x0, hx0, gx0⟩ := id q6
    simp only [go_sem, kSt_ptr, Nat.reduceBEq, Nat.reduceAdd, Nat.reduceEqDiff, Nat.reduceLeDiff, Nat.reduceSub, reduceIte, Int.reduceBEq, Int.reduceEq, Int.reduceLT, Int.reduceLE, Int.reduceGT, Int.reduceGE, Int.reduceNe, Int.reduceBNe, s_spec_l9Copy_L0, q0, q1, q2, q3, q4, q5, q6, ix]
  · exact ⟨rfl, rfl, rfl, rfl, rfl, Nat.le_refl _, ⟨.snil, rfl, grows_nil _ _⟩, rfl⟩
  · rintro x e h ⟨rfl, j0, j1, j2, j3, j4, j5, x0, hx0, gx0⟩
    have zx := gx0.cell.2
    simp only [go_sem, kSt_ptr, Nat.reduceBEq, Nat.reduceAdd, Nat.reduceEqDiff, Nat.reduceLeDiff, Nat.reduceSub, reduceIte, Int.reduceBEq, Int.reduceEq, Int.reduceLT, Int.reduceLE, Int.reduceGT, Int.reduceGE, Int.reduceNe, Int.reduceBNe, j0, j1, j2, j3, j4, hx0, z1, z2, zx, cell1 z1, cell1 z2, cell1 zx, s1.fz, s2.fz, gx0.cell.fz]
noncomputable def C_spec_l12Copy := c1 tDisk (fun (d : TDisk) => tDisk.cost d ≤ 1048576) (fun x => .agg (x).row) fun (d : TDisk) => d
theorem C_spec_l12Copy_eq (d : TDisk) (h : tDisk.cost d ≤ 1048576) : C_spec_l12Copy [.agg [.imm (d.fSecs.map (sliceT u8T).row), .imm (d.fCache.map TWrite.row), .int .i64 d.fOps, .imm (d.fFaults.map TFault.row), .bool d.fDown]] = some (.agg (((d))).row) := c1_eq tDisk h
theorem ok_spec_l12Copy {WI : World → Prop} (hs : Stable WI) (cs) (hT : TOK (EE cs) WI) : PureOK Try.prog WI 28 C_spec_l12Copy := by
  refine pure1 (E := EE cs) hT hs (by rw [st_spec_l12Copy]; rfl) fun d hp => out_wp (n := 0) (st_spec_l12Copy cs) ?_
  have hp' : tDisk.cost d ≤ 1048576 := hp
  have hcost : tDisk.cost d = (sliceT (sliceT u8T)).cost d.fSecs + (sliceT tWrite).cost d.fCache + (sliceT tFault).cost d.fFaults := rfl
  have hc1 : (sliceT (sliceT u8T)).cost d.fSecs = d.fSecs.length + costL (sliceT u8T) d.fSecs := rfl
  have hc2 : (sliceT tWrite).cost d.fCache = d.fCache.length + costL tWrite d.fCache := rfl
  have hc3 : (sliceT tFault).cost d.fFaults = d.fFaults.length + costL tFault d.fFaults := rfl
  simp only [go_sem, kSt_ptr, Nat.reduceBEq, Nat.reduceAdd, Nat.reduceEqDiff, Nat.reduceLeDiff, Nat.reduceSub, reduceIte, Int.reduceBEq, Int.reduceEq, Int.reduceLT, Int.reduceLE, Int.reduceGT, Int.reduceGE, Int.reduceNe, Int.reduceBNe, s_spec_l12Copy, TDisk.row, tDisk_enc]
  refine hP_appE (T := tFault) d.fFaults rfl (rowsIn_imm _ _ _) (by unfold room; omega) ?_
  intro c1 s1
  have z1 := s1.2
  have b1 : sFill [.snil, .snil, .int .i64 0, .snil, .bool false] [(2, 1, .int .i64 d.fOps), (3, 1, c1), (4, 1, .bool d.fDown)] = some [.snil, .snil, .int .i64 d.fOps, c1, .bool d.fDown] := by simp [sFill, fillAt, z1, cell1 z1, cl_int, nc_int, cl_bool, nc_bool]
  simp only [go_sem, kSt_ptr, Nat.reduceBEq, Nat.reduceAdd, Nat.reduceEqDiff, Nat.reduceLeDiff, Nat.reduceSub, reduceIte, Int.reduceBEq, Int.reduceEq, Int.reduceLT, Int.reduceLE, Int.reduceGT, Int.reduceGE, Int.reduceNe, Int.reduceBNe, z1, b1, cell1 z1]
  refine (wl_for (l := d.fSecs) (fun pre e h => e 1 = .ptr 0 0 ∧ e 2 = .ptr 1 0 ∧ e 3 = .ptr 2 0 ∧ h.hp 0 = some [.imm (d.fSecs.map (sliceT u8T).row), .imm (d.fCache.map TWrite.row), .int .i64 d.fOps, .imm (d.fFaults.map TFault.row), .bool d.fDown] ∧ h.hp 1 = some [.snil, .snil, .int .i64 0, .snil, .bool false] ∧ 3 ≤ h.nx ∧ (∃ x, h.hp 2 = some [x, .snil, .int .i64 d.fOps, c1, .bool d.fDown] ∧ grows (sliceT u8T) pre x h) ∧ e 4 = .int .i64 pre.length) (.exit 0) (fun e h => e 1 = .ptr 0 0 ∧ e 2 = .ptr 1 0 ∧ e 3 = .ptr 2 0 ∧ h.hp 0 = some [.imm (d.fSecs.map (sliceT u8T).row), .imm (d.fCache.map TWrite.row), .int .i64 d.fOps, .imm (d.fFaults.map TFault.row), .bool d.fDown] ∧ h.hp 1 = some [.snil, .snil, .int .i64 0, .snil, .bool false] ∧ 3 ≤ h.nx ∧ (∃ x, h.hp 2 = some [x, .snil, .int .i64 d.fOps, c1, .bool d.fDown] ∧ grows (sliceT u8T) (d.fSecs) x h)) (by omega) ?_ ?_ (by simp) d.fSecs [] _ _ rfl ?_).mono ?_
  · rintro pre v rest e h a ⟨q0, q1, q2, q3, q4, q5, q6, ix⟩
    obtain ⟨x0, hx0, gx0⟩ := id q6
    have n0 : ¬ 0 = h.nx := by omega
    have n1 : ¬ 1 = h.nx := by omega
    have n2 : ¬ 2 = h.nx := by omega
    have hvc := costL_mem (sliceT u8T) a.mem
    have hvc2 : (sliceT u8T).cost v = v.length + costL u8T v := rfl
    simp only [go_sem, kSt_ptr, Nat.reduceBEq, Nat.reduceAdd, Nat.reduceEqDiff, Nat.reduceLeDiff, Nat.reduceSub, reduceIte, Int.reduceBEq, Int.reduceEq, Int.reduceLT, Int.reduceLE, Int.reduceGT, Int.reduceGE, Int.reduceNe, Int.reduceBNe, s_spec_l12Copy_L0, q0, q1, q2, q3, q4, q5, q6, ix, a.dl, a.ia (row := (sliceT u8T).row) (sz := 1) rfl, a.hw, sliceT_row, n0, n1, n2, hx0]
    refine hP_appE (T := u8T) v rfl (rowsIn_imm _ _ _) (by unfold room; omega) ?_
    intro c s
    have zc := s.2
    have f1 : fillR (List.replicate 1 [.snil]) 1 [(0, c)] = some [[c]] := by simp [fillR, zc, cell1 zc]
    have f2 : frzRows [[c]] = some [(sliceT u8T).row v] := by simp [frzRows, frzCells, s.1, sliceT_row]
    simp only [go_sem, kSt_ptr, Nat.reduceBEq, Nat.reduceAdd, Nat.reduceEqDiff, Nat.reduceLeDiff, Nat.reduceSub, reduceIte, Int.reduceBEq, Int.reduceEq, Int.reduceLT, Int.reduceLE, Int.reduceGT, Int.reduceGE, Int.reduceNe, Int.reduceBNe, q0, q1, q2, q3, q4, hx0, n0, n1, n2, zc, cell1 zc, f1, f2]
    refine hP_grow [v] rfl (gx0.mono (by simp only []; omega) fun r hr => by have n3 : ¬ r = h.nx := (by omega); simp [n3]) rfl (by have := a.lt; simp only [List.length_cons, List.length_nil]; unfold room; omega) ?_
    intro v' h' g1 g2 g3 g4
    have e0 : h'.hp 0 = h.hp 0 := by rw [g2]
    have e1 : h'.hp 1 = h.hp 1 := by rw [g2]
    have e2 : h'.hp 2 = h.hp 2 := by rw [g2]
    have g5 : 3 ≤ h'.nx := by have : h.nx + 1 ≤ h'.nx := g3; omega
    have zv := g1.cell.2
    simp only [go_sem, kSt_ptr, Nat.reduceBEq, Nat.reduceAdd, Nat.reduceEqDiff, Nat.reduceLeDiff, Nat.reduceSub, reduceIte, Int.reduceBEq, Int.reduceEq, Int.reduceLT, Int.reduceLE, Int.reduceGT, Int.reduceGE, Int.reduceNe, Int.reduceBNe, q0, q1, q2, e0, e1, e2, q3, q4, hx0, zv, cell1 zv, ix, a.hw, g5]
    exact ⟨v', rfl, g1.mono (Nat.le_refl _) fun _ _ => rfl⟩
  · rintro e h ⟨q0, q1, q2, q3, q4, q5, q6, ix⟩
    obtain ⟨x0, hx0, gx0⟩ := id q6
    simp only [go_sem, kSt_ptr, Nat.reduceBEq, Nat.reduceAdd, Nat.reduceEqDiff, Nat.reduceLeDiff, Nat.reduceSub, reduceIte, Int.reduceBEq, Int.reduceEq, Int.reduceLT, Int.reduceLE, Int.reduceGT, Int.reduceGE, Int.reduceNe, Int.reduceBNe, s_spec_l12Copy_L0, q0, q1, q2, q3, q4, q5, q6, ix]
  · exact ⟨rfl, rfl, rfl, rfl, rfl, Nat.le_refl _, ⟨.snil, rfl, grows_nil _ _⟩, rfl⟩
  · rintro x e h ⟨rfl, j0, j1, j2, j3, j4, j5, y0, hy0, gy0⟩
    have zy := gy0.cell.2
    simp only [go_sem, kSt_ptr, Nat.reduceBEq, Nat.reduceAdd, Nat.reduceEqDiff, Nat.reduceLeDiff, Nat.reduceSub, reduceIte, Int.reduceBEq, Int.reduceEq, Int.reduceLT, Int.reduceLE, Int.reduceGT, Int.reduceGE, Int.reduceNe, Int.reduceBNe]
    refine (wl_for (l := d.fCache) (fun pre e h => e 1 = .ptr 0 0 ∧ e 2 = .ptr 1 0 ∧ e 3 = .ptr 2 0 ∧ h.hp 0 = some [.imm (d.fSecs.map (sliceT u8T).row), .imm (d.fCache.map TWrite.row), .int .i64 d.fOps, .imm (d.fFaults.map TFault.row), .bool d.fDown] ∧ h.hp 1 = some [.snil, .snil, .int .i64 0, .snil, .bool false] ∧ 3 ≤ h.nx ∧ (∃ x, h.hp 2 = some [y0, x, .int .i64 d.fOps, c1, .bool d.fDown] ∧ grows tWrite pre x h) ∧ e 5 = .int .i64 pre.length) (.exit 2) (fun e h => e 1 = .ptr 0 0 ∧ e 2 = .ptr 1 0 ∧ e 3 = .ptr 2 0 ∧ h.hp 0 = some [.imm (d.fSecs.map (sliceT u8T).row), .imm (d.fCache.map TWrite.row), .int .i64 d.fOps, .imm (d.fFaults.map TFault.row), .bool d.fDown] ∧ h.hp 1 = some [.snil, .snil, .int .i64 0, .snil, .bool false] ∧ 3 ≤ h.nx ∧ (∃ x, h.hp 2 = some [y0, x, .int .i64 d.fOps, c1, .bool d.fDown] ∧ grows tWrite (d.fCache) x h)) (by omega) ?_ ?_ (by simp) d.fCache [] _ _ rfl ?_).mono ?_
    · rintro pre v rest e h a ⟨q0, q1, q2, q3, q4, q5, q6, ix⟩
      obtain ⟨x0, hx0, gx0⟩ := id q6
      have n0 : ¬ 0 = h.nx := by omega
      have n1 : ¬ 1 = h.nx := by omega
      have n2 : ¬ 2 = h.nx := by omega
      have hvc := costL_mem tWrite a.mem
      have hvc2 : tWrite.cost v = (sliceT u8T).cost v.fB := rfl
      have hvc3 : (sliceT u8T).cost v.fB = v.fB.length + costL u8T v.fB := rfl
      simp only [go_sem, kSt_ptr, Nat.reduceBEq, Nat.reduceAdd, Nat.reduceEqDiff, Nat.reduceLeDiff, Nat.reduceSub, reduceIte, Int.reduceBEq, Int.reduceEq, Int.reduceLT, Int.reduceLE, Int.reduceGT, Int.reduceGE, Int.reduceNe, Int.reduceBNe, s_spec_l12Copy_L1, q0, q1, q2, q3, q4, q5, q6, ix, a.dl, a.ia (row := TWrite.row) (sz := 2) rfl, a.hw, TWrite.row, n0, n1, n2, hx0]
      refine hP_appE (T := u8T) v.fB rfl (rowsIn_imm _ _ _) (by unfold room; omega) ?_
      intro c s
      have zc := s.2
      have b2 : sFill [.int .i64 0, .snil] [(0, 1, .int .i64 v.fN), (1, 1, c)] = some [.int .i64 v.fN, c] := by simp [sFill, fillAt, zc, cell1 zc, cl_int, nc_int]
      have f1 : fillR (List.replicate 1 [.int .i64 0, .snil]) 2 [(0, .agg [.int .i64 v.fN, c])] = some [[.int .i64 v.fN, c]] := by simp [fillR, isAggV, AV.cells]
      have f2 : frzRows [[.int .i64 v.fN, c]] = some [TWrite.row v] := by simp [frzRows, frzCells, s.1, TWrite.row, fc_int]
      simp only [go_sem, kSt_ptr, Nat.reduceBEq, Nat.reduceAdd, Nat.reduceEqDiff, Nat.reduceLeDiff, Nat.reduceSub, reduceIte, Int.reduceBEq, Int.reduceEq, Int.reduceLT, Int.reduceLE, Int.reduceGT, Int.reduceGE, Int.reduceNe, Int.reduceBNe, q0, q1, q2, q3, q4, hx0, n0, n1, n2, zc, cell1 zc, b2, f1, f2]
      refine hP_grow [v] rfl (gx0.mono (by simp only []; omega) fun r hr => by have n3 : ¬ r = h.nx := (by omega); simp [n3]) rfl (by have := a.lt; simp only [List.length_cons, List.length_nil]; unfold room; omega) ?_
      intro v' h' g1 g2 g3 g4
      have e0 : h'.hp 0 = h.hp 0 := by rw [g2]
      have e1 : h'.hp 1 = h.hp 1 := by rw [g2]
      have e2 : h'.hp 2 = h.hp 2 := by rw [g2]
      have g5 : 3 ≤ h'.nx := by have : h.nx + 1 ≤ h'.nx := g3; omega
      have zv := g1.cell.2
      simp only [go_sem, kSt_ptr, Nat.reduceBEq, Nat.reduceAdd, Nat.reduceEqDiff, Nat.reduceLeDiff, Nat.reduceSub, reduceIte, Int.reduceBEq, Int.reduceEq, Int.reduceLT, Int.reduceLE, Int.reduceGT, Int.reduceGE, Int.reduceNe, Int.reduceBNe, q0, q1, q2, e0, e1, e2, q3, q4, hx0, zv, cell1 zv, ix, a.hw, g5]
      exact ⟨v', rfl, g1.mono (Nat.le_refl _) fun _ _ => rfl⟩
    · rintro e h ⟨q0, q1, q2, q3, q4, q5, q6, ix⟩
      obtain ⟨x0, hx0, gx0⟩ := id q6
      simp only [go_sem, kSt_ptr, Nat.reduceBEq, Nat.reduceAdd, Nat.reduceEqDiff, Nat.reduceLeDiff, Nat.reduceSub, reduceIte, Int.reduceBEq, Int.reduceEq, Int.reduceLT, Int.reduceLE, Int.reduceGT, Int.reduceGE, Int.reduceNe, Int.reduceBNe, s_spec_l12Copy_L1, q0, q1, q2, q3, q4, q5, q6, ix]
    · exact ⟨j0, j1, j2, j3, j4, j5, ⟨.snil, hy0, grows_nil _ _⟩, rfl⟩
    · rintro x e h ⟨rfl, j0, j1, j2, j3, j4, j5, x0, hx0, gx0⟩
      have zx := gx0.cell.2
      simp only [go_sem, kSt_ptr, Nat.reduceBEq, Nat.reduceAdd, Nat.reduceEqDiff, Nat.reduceLeDiff, Nat.reduceSub, reduceIte, Int.reduceBEq, Int.reduceEq, Int.reduceLT, Int.reduceLE, Int.reduceGT, Int.reduceGE, Int.reduceNe, Int.reduceBNe, j0, j1, j2, j3, j4, hx0, z1, zy, zx, cell1 z1, cell1 zy, cell1 zx, s1.fz, gy0.cell.fz, gx0.cell.fz]
end Go.Proofs.Ytgjdkcjijmdfoaa.Eo
/- What the functions that FnExactEngOn calls answer: part 4. -/
namespace Go.Proofs.Ytgjdkcjijmdfoaa.Eo
open Go Go.RowKit Go.Ev
set_option linter.unusedSimpArgs false
set_option linter.unusedVariables false
set_option maxHeartbeats 1600000
noncomputable def C_spec_l25Copy := c1 tEng (fun (x : TEng) => tEng.cost x ≤ 1048576) (fun x => .agg (x).row) fun (x : TEng) => x
theorem C_spec_l25Copy_eq (x : TEng) (h : tEng.cost x ≤ 1048576) : C_spec_l25Copy [.agg [.imm (x.fS.map TDef.row), .imm (x.fD.fSecs.map (sliceT u8T).row), .imm (x.fD.fCache.map TWrite.row), .int .i64 x.fD.fOps, .imm (x.fD.fFaults.map TFault.row), .bool x.fD.fDown]] = some (.agg (((x))).row) := c1_eq tEng h
theorem ok_spec_l25Copy {WI : World → Prop} (hs : Stable WI) (cs) (hT : TOK (EE cs) WI) (h1 : (EE cs).T 29 = some C_spec_l9Copy) (h2 : (EE cs).T 28 = some C_spec_l12Copy) : PureOK Try.prog WI 13 C_spec_l25Copy := by
  refine pure1 (E := EE cs) hT hs (by rw [st_spec_l25Copy]; rfl) fun x hp => out_wp (n := 0) (st_spec_l25Copy cs) ?_
  have hp' : tEng.cost x ≤ 1048576 := hp
  have hcost : tEng.cost x = (sliceT tDef).cost x.fS + tDisk.cost x.fD := rfl
  have hc1 : (sliceT tDef).cost x.fS = x.fS.length + costL tDef x.fS := rfl
  have a2 := C_spec_l12Copy_eq x.fD (by omega)
  have b1 : sFill [.snil, .snil, .snil, .int .i64 0, .snil, .bool false] [(1, 5, .agg x.fD.row)] = some (.snil :: x.fD.row) := rfl
  simp only [go_sem, kSt_ptr, Nat.reduceBEq, Nat.reduceAdd, Nat.reduceEqDiff, Nat.reduceLeDiff, Nat.reduceSub, reduceIte, Int.reduceBEq, Int.reduceEq, Int.reduceLT, Int.reduceLE, Int.reduceGT, Int.reduceGE, Int.reduceNe, Int.reduceBNe, s_spec_l25Copy, TEng.row, tEng_enc, h2, a2, b1]
  simp only [go_sem, kSt_ptr, Nat.reduceBEq, Nat.reduceAdd, Nat.reduceEqDiff, Nat.reduceLeDiff, Nat.reduceSub, reduceIte, Int.reduceBEq, Int.reduceEq, Int.reduceLT, Int.reduceLE, Int.reduceGT, Int.reduceGE, Int.reduceNe, Int.reduceBNe, TDisk.row]
  refine (wl_for (l := x.fS) (fun pre e h => e 1 = .ptr 0 0 ∧ e 2 = .ptr 1 0 ∧ e 3 = .ptr 2 0 ∧ h.hp 0 = some (.imm (x.fS.map TDef.row) :: [.imm (x.fD.fSecs.map (sliceT u8T).row), .imm (x.fD.fCache.map TWrite.row), .int .i64 x.fD.fOps, .imm (x.fD.fFaults.map TFault.row), .bool x.fD.fDown]) ∧ h.hp 1 = some [.snil, .snil, .snil, .int .i64 0, .snil, .bool false] ∧ 3 ≤ h.nx ∧ (∃ y, h.hp 2 = some (y :: [.imm (x.fD.fSecs.map (sliceT u8T).row), .imm (x.fD.fCache.map TWrite.row), .int .i64 x.fD.fOps, .imm (x.fD.fFaults.map TFault.row), .bool x.fD.fDown]) ∧ grows tDef pre y h) ∧ e 4 = .int .i64 pre.length) (.exit 0) (fun e h => e 1 = .ptr 0 0 ∧ e 2 = .ptr 1 0 ∧ e 3 = .ptr 2 0 ∧ h.hp 0 = some (.imm (x.fS.map TDef.row) :: [.imm (x.fD.fSecs.map (sliceT u8T).row), .imm (x.fD.fCache.map TWrite.row), .int .i64 x.fD.fOps, .imm (x.fD.fFaults.map TFault.row), .bool x.fD.fDown]) ∧ h.hp 1 = some [.snil, .snil, .snil, .int .i64 0, .snil, .bool false] ∧ 3 ≤ h.nx ∧ (∃ y, h.hp 2 = some (y :: [.imm (x.fD.fSecs.map (sliceT u8T).row), .imm (x.fD.fCache.map TWrite.row), .int .i64 x.fD.fOps, .imm (x.fD.fFaults.map TFault.row), .bool x.fD.fDown]) ∧ grows tDef (x.fS) y h)) (by omega) ?_ ?_ (by simp) x.fS [] _ _ rfl ?_).mono ?_
  · rintro pre v rest e h a ⟨q0, q1, q2, q3, q4, q5, q6, ix⟩
    obtain ⟨x0, hx0, gx0⟩ := id q6
    have n0 : ¬ 0 = h.nx := by omega
    have n1 : ¬ 1 = h.nx := by omega
    have n2 : ¬ 2 = h.nx := by omega
    have hvc := costL_mem tDef a.mem
    have a1 := C_spec_l9Copy_eq v (by omega)
    have f1 : fillR (List.replicate 1 [.str [], .snil, .snil, .snil]) 4 [(0, .agg v.row)] = some [v.row] := rfl
    have f2 : frzRows [v.row] = some [v.row] := rfl
    simp only [TDef.row] at a1 f1 f2
    simp only [go_sem, kSt_ptr, Nat.reduceBEq, Nat.reduceAdd, Nat.reduceEqDiff, Nat.reduceLeDiff, Nat.reduceSub, reduceIte, Int.reduceBEq, Int.reduceEq, Int.reduceLT, Int.reduceLE, Int.reduceGT, Int.reduceGE, Int.reduceNe, Int.reduceBNe, s_spec_l25Copy_L0, q0, q1, q2, q3, q4, q5, q6, ix, a.dl, a.ia (row := TDef.row) (sz := 4) rfl, a.hw, TDef.row, n0, n1, n2, hx0, h1, a1, f1, f2]
    refine hP_grow [v] rfl (gx0.mono (by simp only []; omega) fun r hr => by have n3 : ¬ r = h.nx := (by omega); simp [n3]) rfl (by have := a.lt; simp only [List.length_cons, List.length_nil]; unfold room; omega) ?_
    intro v' h' g1 g2 g3 g4
    have e0 : h'.hp 0 = h.hp 0 := by rw [g2]
    have e1 : h'.hp 1 = h.hp 1 := by rw [g2]
    have e2 : h'.hp 2 = h.hp 2 := by rw [g2]
    have g5 : 3 ≤ h'.nx := by have : h.nx + 1 ≤ h'.nx := g3; omega
    have zv := g1.cell.2
    simp only [go_sem, kSt_ptr, Nat.reduceBEq, Nat.reduceAdd, Nat.reduceEqDiff, Nat.reduceLeDiff, Nat.reduceSub, reduceIte, Int.reduceBEq, Int.reduceEq, Int.reduceLT, Int.reduceLE, Int.reduceGT, Int.reduceGE, Int.reduceNe, Int.reduceBNe, q0, q1, q2, e0, e1, e2, q3, q4, hx0, zv, cell1 zv, ix, a.hw, g5]
    exact ⟨v', rfl, g1.mono (Nat.le_refl _) fun _ _ => rfl⟩
  · rintro e h ⟨q0, q1, q2, q3, q4, q5, q6, ix⟩
    obtain ⟨x0, hx0, gx0⟩ := id q6
    simp only [go_sem, kSt_ptr, Nat.reduceBEq, Nat.reduceAdd, Nat.reduceEqDiff, Nat.reduceLeDiff, Nat.reduceSub, reduceIte, Int.reduceBEq, Int.reduceEq, Int.reduceLT, Int.reduceLE, Int.reduceGT, Int.reduceGE, Int.reduceNe, Int.reduceBNe, s_spec_l25Copy_L0, q0, q1, q2, q3, q4, q5, q6, ix]
  · exact ⟨rfl, rfl, rfl, rfl, rfl, Nat.le_refl _, ⟨.snil, rfl, grows_nil _ _⟩, rfl⟩
  · rintro _ e h ⟨rfl, j0, j1, j2, j3, j4, j5, x0, hx0, gx0⟩
    have zx := gx0.cell.2
    simp only [go_sem, kSt_ptr, Nat.reduceBEq, Nat.reduceAdd, Nat.reduceEqDiff, Nat.reduceLeDiff, Nat.reduceSub, reduceIte, Int.reduceBEq, Int.reduceEq, Int.reduceLT, Int.reduceLE, Int.reduceGT, Int.reduceGE, Int.reduceNe, Int.reduceBNe, j0, j1, j2, j3, j4, hx0, zx, cell1 zx, gx0.cell.fz]
def diskOn (d : TDisk) : TDisk := ⟨d.fSecs, d.fCache, d.fOps, d.fFaults, false⟩
def engOn (e : TEng) : TEng := ⟨e.fS, diskOn e.fD⟩
noncomputable def C_spec_EngOn := c1 tEng (fun (e0 : TEng) => tEng.cost e0 ≤ 1048576) (fun x => .agg (x).row) fun (e0 : TEng) => (engOn e0)
theorem C_spec_EngOn_eq (e0 : TEng) (h : tEng.cost e0 ≤ 1048576) : C_spec_EngOn [.agg [.imm (e0.fS.map TDef.row), .imm (e0.fD.fSecs.map (sliceT u8T).row), .imm (e0.fD.fCache.map TWrite.row), .int .i64 e0.fD.fOps, .imm (e0.fD.fFaults.map TFault.row), .bool e0.fD.fDown]] = some (.agg ((((engOn e0)))).row) := c1_eq tEng h
theorem ok_spec_EngOn {WI : World → Prop} (hs : Stable WI) (cs) (hT : TOK (EE cs) WI) (h1 : (EE cs).T 13 = some C_spec_l25Copy) : PureOK Try.prog WI 5 C_spec_EngOn := by
  refine pure1 (E := EE cs) hT hs (by rw [st_spec_EngOn]; rfl) fun e0 hp => out_wp (n := 0) (st_spec_EngOn cs) ?_
  have a1 := C_spec_l25Copy_eq e0 hp
  simp only [go_sem, kSt_ptr, Nat.reduceBEq, Nat.reduceAdd, Nat.reduceEqDiff, Nat.reduceLeDiff, Nat.reduceSub, reduceIte, Int.reduceBEq, Int.reduceEq, Int.reduceLT, Int.reduceLE, Int.reduceGT, Int.reduceGE, Int.reduceNe, Int.reduceBNe, s_spec_EngOn, TEng.row, tEng_enc, h1, a1, engOn, diskOn]
noncomputable def C_impl_copyDefs := c1 (sliceT tDef) (fun (l : List (TDef)) => (sliceT tDef).cost l ≤ 1048576) (fun x => .imm (x.map TDef.row)) fun (l : List (TDef)) => l
theorem C_impl_copyDefs_eq (l : List (TDef)) (h : (sliceT tDef).cost l ≤ 1048576) : C_impl_copyDefs [.imm (l.map TDef.row)] = some (.imm (((l)).map TDef.row)) := c1_eq (sliceT tDef) h
theorem loop_copyDefs (cs) (l : List TIndex) (hl : (sliceT tIndex).cost l ≤ 1048576) (hs : Hp) (e0 : Ps) (h24 : e0 24 = .imm (l.map TIndex.row)) (h25 : e0 25 = .int .i64 l.length) (h26 : e0 26 = .int .i64 0) (h6 : e0 6 = .snil) :
    WL (EE cs) s_impl_copyDefs_L0 e0 hs fun y e1 h1 => y = .exit 2 ∧ (e1 3 = e0 3 ∧ e1 5 = e0 5 ∧ e1 9 = e0 9 ∧ e1 10 = e0 10 ∧ e1 11 = e0 11) ∧ hs.nx ≤ h1.nx ∧ (∀ q, q < hs.nx → h1.hp q = hs.hp q) ∧ OwS 1 tIndex hs.nx h1.nx l (e1 6) h1 := by
  have hc : (sliceT tIndex).cost l = l.length + costL tIndex l := rfl
  refine (wl_for (l := l) (fun pre e h => e 3 = e0 3 ∧ e 5 = e0 5 ∧ e 9 = e0 9 ∧ e 10 = e0 10 ∧ e 11 = e0 11 ∧ e 24 = .imm (l.map TIndex.row) ∧ hs.nx ≤ h.nx ∧ (∀ q, q < hs.nx → h.hp q = hs.hp q) ∧ OwS 1 tIndex hs.nx h.nx pre (e 6) h ∧ e 26 = .int .i64 pre.length ∧ e 25 = .int .i64 (l).length) (.exit 2) (fun e h => e 3 = e0 3 ∧ e 5 = e0 5 ∧ e 9 = e0 9 ∧ e 10 = e0 10 ∧ e 11 = e0 11 ∧ e 24 = .imm (l.map TIndex.row) ∧ hs.nx ≤ h.nx ∧ (∀ q, q < hs.nx → h.hp q = hs.hp q) ∧ OwS 1 tIndex hs.nx h.nx (l) (e 6) h) (by omega) ?_ ?_ (by simp) l [] _ _ rfl ?_).mono ?_
  · rintro pre v rest e h a ⟨q0, q1, q2, q3, q4, q5, q6, q7, q8, ix, nx⟩
    have hvc := costL_mem tIndex a.mem
    have hvc2 : tIndex.cost v = v.fName.length + (sliceT tBy).cost v.fParts := rfl
    have hvc3 : (sliceT tBy).cost v.fParts = v.fParts.length + costL tBy v.fParts := rfl
    simp only [go_sem, kSt_ptr, Nat.reduceBEq, Nat.reduceAdd, Nat.reduceEqDiff, Nat.reduceLeDiff, Nat.reduceSub, reduceIte, Int.reduceBEq, Int.reduceEq, Int.reduceLT, Int.reduceLE, Int.reduceGT, Int.reduceGE, Int.reduceNe, Int.reduceBNe, s_impl_copyDefs_L0, q0, q1, q2, q3, q4, q5, q6, q7, q8, ix, nx, a.dl, a.ia (row := TIndex.row) (sz := 3) rfl, a.hw, TIndex.row]
    refine hP_growL v.fParts rfl rfl (OwS.nil 0 tBy (lo := h.nx + 1) (hi := h.nx + 1) (Nat.le_refl _) (by simp)) (rowsIn_imm _ _ _) (by simp only [List.length_nil]; unfold room; omega) ?_
    intro x h1 g1 g2 g3 g4
    rw [List.nil_append] at g1
    obtain ⟨A1, c1, z1⟩ := g1.owA
    have k3' : h.nx + 1 ≤ h1.nx := g2
    have k4 : ∀ q, q < h.nx → h1.hp q = h.hp q := fun q hq => (g3 q (by omega) (by simp only []; omega)).trans (by have g : ¬ q = h.nx := (by omega); simp [g])
    have eb : h1.hp h.nx = some [.str v.fName, .bool v.fUnique, .imm (v.fParts.map TBy.row)] := (g3 h.nx (by omega) (by simp)).trans (by simp)
    have f1 : fillR (List.replicate 1 [.str [], .bool false, .snil]) 3 [(0, .agg [.str v.fName, .bool v.fUnique, x])] = some [[.str v.fName, .bool v.fUnique, x]] := by simp [fillR, ag_agg, cl_agg]
    simp only [go_sem, kSt_ptr, Nat.reduceBEq, Nat.reduceAdd, Nat.reduceEqDiff, Nat.reduceLeDiff, Nat.reduceSub, reduceIte, Int.reduceBEq, Int.reduceEq, Int.reduceLT, Int.reduceLE, Int.reduceGT, Int.reduceGE, Int.reduceNe, Int.reduceBNe, eb, c1, z1, f1]
    refine hP_growA (lo' := h.nx) (hi' := h1.nx) v rfl (q8.mono (by simp only []; omega) fun q _ hq => by have g : ¬ q = h1.nx := (by omega); have g' : ¬ q = h.nx := (by omega); simp only [g, g', if_false]; exact k4 q hq) (rowsIn_sl1 (cs := [.str v.fName, .bool v.fUnique, x]) (by simp) rfl) ((((A1.leaf (c := .bool v.fUnique) rfl).leaf (c := .str v.fName) rfl).mono (by simp only []; omega) fun q h1' hq => by have g : ¬ q = h1.nx := (by omega); have g' : ¬ q = h.nx := (by omega); simp only [g, g', if_false]).wide (lo' := h.nx) (Nat.le_succ _) (Nat.le_refl _) (by simp only []; omega)) (Nat.le_refl _) (by have := a.lt; unfold room; omega) ?_
    intro v' h' m1 m2 m3 m4
    have m5 : h1.nx + 1 ≤ h'.nx := m2
    have e9 : ∀ q, q < hs.nx → h'.hp q = hs.hp q := fun q hq => (m3 q (by omega) (by simp only []; omega)).trans (by have g : ¬ q = h1.nx := (by omega); have g' : ¬ q = h.nx := (by omega); simp only [g, g', if_false]; rw [k4 q (by omega), q7 q hq])
    simp only [go_sem, kSt_ptr, Nat.reduceBEq, Nat.reduceAdd, Nat.reduceEqDiff, Nat.reduceLeDiff, Nat.reduceSub, reduceIte, Int.reduceBEq, Int.reduceEq, Int.reduceLT, Int.reduceLE, Int.reduceGT, Int.reduceGE, Int.reduceNe, Int.reduceBNe, q0, q1, q2, q3, q4, q5, ix, nx, a.hw]
    exact ⟨by omega, e9, m1⟩
  · rintro e h ⟨q0, q1, q2, q3, q4, q5, q6, q7, q8, ix, nx⟩
    simp only [go_sem, kSt_ptr, Nat.reduceBEq, Nat.reduceAdd, Nat.reduceEqDiff, Nat.reduceLeDiff, Nat.reduceSub, reduceIte, Int.reduceBEq, Int.reduceEq, Int.reduceLT, Int.reduceLE, Int.reduceGT, Int.reduceGE, Int.reduceNe, Int.reduceBNe, s_impl_copyDefs_L0, q0, q1, q2, q3, q4, q5, q6, q7, q8, ix, nx]
    exact q7
  · exact ⟨rfl, rfl, rfl, rfl, rfl, h24, Nat.le_refl _, fun _ _ => rfl, by rw [h6]; exact OwS.nil _ _ (Nat.le_refl _) (Nat.le_refl _), h26, h25⟩
  · rintro x e h ⟨rfl, j0, j1, j2, j3, j4, j5, j6, j7, j8⟩
    exact ⟨rfl, ⟨j0, j1, j2, j3, j4⟩, j6, j7, j8⟩
theorem ok_impl_copyDefs {WI : World → Prop} (hs : Stable WI) (cs) (hT : TOK (EE cs) WI) : OwnOK Try.prog WI 34 C_impl_copyDefs := by
  refine own1 (E := EE cs) hT hs (by rw [st_impl_copyDefs]; rfl) fun l hp => outO_wp (st_impl_copyDefs cs) ?_
  have hp' : (sliceT tDef).cost l ≤ 1048576 := hp
  have hc1 : (sliceT tDef).cost l = l.length + costL tDef l := rfl
  simp only [go_sem, kSt_ptr, Nat.reduceBEq, Nat.reduceAdd, Nat.reduceEqDiff, Nat.reduceLeDiff, Nat.reduceSub, reduceIte, Int.reduceBEq, Int.reduceEq, Int.reduceLT, Int.reduceLE, Int.reduceGT, Int.reduceGE, Int.reduceNe, Int.reduceBNe, s_impl_copyDefs]
  refine (wl_for (l := l) (fun pre e h => e 9 = .imm (l.map TDef.row) ∧ OwS 2 tDef 0 h.nx pre (e 3) h ∧ e 11 = .int .i64 pre.length ∧ e 10 = .int .i64 (l).length) (.exit 0) (fun e h => e 9 = .imm (l.map TDef.row) ∧ OwS 2 tDef 0 h.nx (l) (e 3) h) (by omega) ?_ ?_ (by simp) l [] _ _ rfl ?_).mono ?_
  · rintro pre v rest e h a ⟨q0, q1, ix, nx⟩
    have hvc := costL_mem tDef a.mem
    have hvc2 : tDef.cost v = v.fName.length + (sliceT tCol).cost v.fCols + (sliceT tBy).cost v.fPrimary + (sliceT tIndex).cost v.fIndexes := rfl
    have hvc3 : (sliceT tCol).cost v.fCols = v.fCols.length + costL tCol v.fCols := rfl
    have hvc4 : (sliceT tBy).cost v.fPrimary = v.fPrimary.length + costL tBy v.fPrimary := rfl
    simp only [go_sem, kSt_ptr, Nat.reduceBEq, Nat.reduceAdd, Nat.reduceEqDiff, Nat.reduceLeDiff, Nat.reduceSub, reduceIte, Int.reduceBEq, Int.reduceEq, Int.reduceLT, Int.reduceLE, Int.reduceGT, Int.reduceGE, Int.reduceNe, Int.reduceBNe, s_impl_copyDefs_L1, q0, q1, ix, nx, a.dl, a.ia (row := TDef.row) (sz := 4) rfl, a.hw, TDef.row]
    refine hP_growL v.fCols rfl rfl (OwS.nil 0 tCol (lo := h.nx + 1) (hi := h.nx + 1) (Nat.le_refl _) (by simp)) (rowsIn_imm _ _ _) (by simp only [List.length_nil]; unfold room; omega) ?_
    intro x1 h1 g1 g2 g3 g4
    rw [List.nil_append] at g1
    obtain ⟨A1, c1, z1⟩ := g1.owA
    have k1 : h.nx + 1 ≤ h1.nx := g2
    have p1 : ∀ q, q < h.nx → h1.hp q = h.hp q := fun q hq => (g3 q (by omega) (by simp only []; omega)).trans (by have g : ¬ q = h.nx := (by omega); simp [g])
    have b1 : h1.hp h.nx = some [.str v.fName, .imm (v.fCols.map TCol.row), .imm (v.fPrimary.map TBy.row), .imm (v.fIndexes.map TIndex.row)] := (g3 h.nx (by omega) (by simp)).trans (by simp)
    simp only [go_sem, kSt_ptr, Nat.reduceBEq, Nat.reduceAdd, Nat.reduceEqDiff, Nat.reduceLeDiff, Nat.reduceSub, reduceIte, Int.reduceBEq, Int.reduceEq, Int.reduceLT, Int.reduceLE, Int.reduceGT, Int.reduceGE, Int.reduceNe, Int.reduceBNe, b1, c1, z1]
    refine hP_growL v.fPrimary rfl rfl (OwS.nil 0 tBy (lo := h1.nx) (hi := h1.nx) (Nat.le_refl _) (by simp)) (rowsIn_imm _ _ _) (by simp only [List.length_nil]; unfold room; omega) ?_
    intro x2 h2 g1' g2' g3' g4'
    rw [List.nil_append] at g1'
    obtain ⟨A2, c2, z2⟩ := g1'.owA
    have k2 : h1.nx ≤ h2.nx := g2'
    have p2 : ∀ q, q < h1.nx → q ≠ h.nx → h2.hp q = h1.hp q := fun q hq hn => (g3' q (by omega) (by simp only []; omega)).trans (by simp [hn])
    have b2 : h2.hp h.nx = some [.str v.fName, x1, .imm (v.fPrimary.map TBy.row), .imm (v.fIndexes.map TIndex.row)] := (g3' h.nx (by omega) (by simp only []; omega)).trans (by simp)
    simp only [go_sem, kSt_ptr, Nat.reduceBEq, Nat.reduceAdd, Nat.reduceEqDiff, Nat.reduceLeDiff, Nat.reduceSub, reduceIte, Int.reduceBEq, Int.reduceEq, Int.reduceLT, Int.reduceLE, Int.reduceGT, Int.reduceGE, Int.reduceNe, Int.reduceBNe, b2, c2, z2, c1, z1]
    refine (loop_copyDefs cs v.fIndexes (by omega) _ _ (by simp only [go_sem, kSt_ptr, Nat.reduceBEq, Nat.reduceAdd, Nat.reduceEqDiff, Nat.reduceLeDiff, Nat.reduceSub, reduceIte, Int.reduceBEq, Int.reduceEq, Int.reduceLT, Int.reduceLE, Int.reduceGT, Int.reduceGE, Int.reduceNe, Int.reduceBNe]) (by simp only [go_sem, kSt_ptr, Nat.reduceBEq, Nat.reduceAdd, Nat.reduceEqDiff, Nat.reduceLeDiff, Nat.reduceSub, reduceIte, Int.reduceBEq, Int.reduceEq, Int.reduceLT, Int.reduceLE, Int.reduceGT, Int.reduceGE, Int.reduceNe, Int.reduceBNe]) (by simp only [go_sem, kSt_ptr, Nat.reduceBEq, Nat.reduceAdd, Nat.reduceEqDiff, Nat.reduceLeDiff, Nat.reduceSub, reduceIte, Int.reduceBEq, Int.reduceEq, Int.reduceLT, Int.reduceLE, Int.reduceGT, Int.reduceGE, Int.reduceNe, Int.reduceBNe]) (by simp only [go_sem, kSt_ptr, Nat.reduceBEq, Nat.reduceAdd, Nat.reduceEqDiff, Nat.reduceLeDiff, Nat.reduceSub, reduceIte, Int.reduceBEq, Int.reduceEq, Int.reduceLT, Int.reduceLE, Int.reduceGT, Int.reduceGE, Int.reduceNe, Int.reduceBNe])).mono ?_
    rintro _ e3 h3 ⟨rfl, ⟨r3, r5, r9, r10, r11⟩, k3, p3, o3⟩
    simp only [go_sem, kSt_ptr, Nat.reduceBEq, Nat.reduceAdd, Nat.reduceEqDiff, Nat.reduceLeDiff, Nat.reduceSub, reduceIte, Int.reduceBEq, Int.reduceEq, Int.reduceLT, Int.reduceLE, Int.reduceGT, Int.reduceGE, Int.reduceNe, Int.reduceBNe, q0, ix, nx] at r3 r5 r9 r10 r11 k3 p3
    obtain ⟨A3, c3, z3⟩ := o3.owA
    have b3 : h3.hp h.nx = some [.str v.fName, x1, x2, .imm (v.fIndexes.map TIndex.row)] := (p3 h.nx (by omega)).trans (by simp)
    have f1 : fillR (List.replicate 1 [.str [], .snil, .snil, .snil]) 4 [(0, .agg [.str v.fName, x1, x2, e3 6])] = some [[.str v.fName, x1, x2, e3 6]] := by simp [fillR, ag_agg, cl_agg]
    simp only [go_sem, kSt_ptr, Nat.reduceBEq, Nat.reduceAdd, Nat.reduceEqDiff, Nat.reduceLeDiff, Nat.reduceSub, reduceIte, Int.reduceBEq, Int.reduceEq, Int.reduceLT, Int.reduceLE, Int.reduceGT, Int.reduceGE, Int.reduceNe, Int.reduceBNe, r3, r5, r9, r10, r11, b3, c1, z1, c2, z2, c3, z3, f1]
    replace A3 := A3.wide (lo' := h2.nx) (Nat.le_refl _) (Nat.le_refl _) (Nat.le_refl _)
    replace A2 := (A2.up (m := 2) (by decide)).mono (h' := h3) k3 fun q h1' h2' => (p3 q h2').trans (by have g : ¬ q = h.nx := (by omega); simp only [g, if_false])
    replace A1 := (A1.up (m := 2) (by decide)).mono (h' := h3) (by omega) fun q h1' h2' => (p3 q (by omega)).trans (by have g : ¬ q = h.nx := (by omega); simp only [g, if_false]; exact p2 q h2' g)
    have B : OwA 2 (h.nx + 1) h3.nx h3 [.str v.fName, x1, x2, e3 6] v.row := OwA.leaf (A1.cat (A2.cat A3 (Nat.le_refl _)) (Nat.le_refl _)) rfl
    refine hP_growA (lo' := h.nx) (hi' := h3.nx) v rfl (q1.mono (by simp only []; omega) fun q _ hq => by have g : ¬ q = h3.nx := (by omega); have g' : ¬ q = h.nx := (by omega); simp only [g, g', if_false]; rw [p3 q (by omega)]; simp only [g', if_false]; rw [p2 q (by omega) g', p1 q hq]) (rowsIn_sl1 (cs := [.str v.fName, x1, x2, e3 6]) (by simp) rfl) ((B.mono (by simp only []; omega) fun q h1' hq => by have g : ¬ q = h3.nx := (by omega); have g' : ¬ q = h.nx := (by omega); simp only [g, g', if_false]).wide (lo' := h.nx) (Nat.le_succ _) (Nat.le_refl _) (by simp only []; omega)) (Nat.le_refl _) (by have := a.lt; unfold room; omega) ?_
    intro v' h' m1 m2 m3 m4
    simp only [go_sem, kSt_ptr, Nat.reduceBEq, Nat.reduceAdd, Nat.reduceEqDiff, Nat.reduceLeDiff, Nat.reduceSub, reduceIte, Int.reduceBEq, Int.reduceEq, Int.reduceLT, Int.reduceLE, Int.reduceGT, Int.reduceGE, Int.reduceNe, Int.reduceBNe, a.hw, r9, r10, r11]
    exact m1
  · rintro e h ⟨q0, q1, ix, nx⟩
    simp only [go_sem, kSt_ptr, Nat.reduceBEq, Nat.reduceAdd, Nat.reduceEqDiff, Nat.reduceLeDiff, Nat.reduceSub, reduceIte, Int.reduceBEq, Int.reduceEq, Int.reduceLT, Int.reduceLE, Int.reduceGT, Int.reduceGE, Int.reduceNe, Int.reduceBNe, s_impl_copyDefs_L1, q0, q1, ix, nx]
  · exact ⟨rfl, OwS.nil _ _ (Nat.le_refl _) (Nat.zero_le _), rfl, rfl⟩
  · rintro x e h ⟨rfl, j0, j1⟩
    simp only [go_sem, kSt_ptr, Nat.reduceBEq, Nat.reduceAdd, Nat.reduceEqDiff, Nat.reduceLeDiff, Nat.reduceSub, reduceIte, Int.reduceBEq, Int.reduceEq, Int.reduceLT, Int.reduceLE, Int.reduceGT, Int.reduceGE, Int.reduceNe, Int.reduceBNe]
    exact j1.owI.owE (by decide)
noncomputable def C_impl_copyBytes := c1 (sliceT u8T) (fun (b : List (UInt8)) => b.length ≤ 1048576) (fun x => .imm (x.map u8T.row)) fun (b : List (UInt8)) => b
theorem C_impl_copyBytes_eq (b : List (UInt8)) (h : b.length ≤ 1048576) : C_impl_copyBytes [.imm (b.map u8T.row)] = some (.imm (((b)).map u8T.row)) := c1_eq (sliceT u8T) h
theorem ok_impl_copyBytes {WI : World → Prop} (hs : Stable WI) (cs) (hT : TOK (EE cs) WI) : OwnOK Try.prog WI 65 C_impl_copyBytes := by
  refine own1 (E := EE cs) hT hs (by rw [st_impl_copyBytes]; rfl) fun b hp => outO_wp (st_impl_copyBytes cs) ?_
  have hl : b.length ≤ 1048576 := hp
  simp only [go_sem, kSt_ptr, Nat.reduceBEq, Nat.reduceAdd, Nat.reduceEqDiff, Nat.reduceLeDiff, Nat.reduceSub, reduceIte, Int.reduceBEq, Int.reduceEq, Int.reduceLT, Int.reduceLE, Int.reduceGT, Int.reduceGE, Int.reduceNe, Int.reduceBNe, s_impl_copyBytes]
  refine hP_growL b rfl rfl (OwS.nil 0 u8T (lo := 0) (hi := 0) (Nat.le_refl _) (Nat.zero_le _)) (rowsIn_imm _ _ _) (by simp only [List.length_nil]; unfold room; omega) ?_
  intro x h o _ _ _
  simp only [go_sem, kSt_ptr, Nat.reduceBEq, Nat.reduceAdd, Nat.reduceEqDiff, Nat.reduceLeDiff, Nat.reduceSub, reduceIte, Int.reduceBEq, Int.reduceEq, Int.reduceLT, Int.reduceLE, Int.reduceGT, Int.reduceGE, Int.reduceNe, Int.reduceBNe]
  exact o.owI.owE (by decide)
end Go.Proofs.Ytgjdkcjijmdfoaa.Eo
/- What the functions that FnExactEngOn calls answer: part 5. -/
namespace Go.Proofs.Ytgjdkcjijmdfoaa.Eo
open Go Go.RowKit Go.Ev
set_option linter.unusedSimpArgs false
set_option linter.unusedVariables false
set_option maxHeartbeats 1600000
noncomputable def C_impl_copyDisk := c1 tDisk (fun (d : TDisk) => tDisk.cost d ≤ 1048576) (fun x => .agg (x).row) fun (d : TDisk) => d
theorem C_impl_copyDisk_eq (d : TDisk) (h : tDisk.cost d ≤ 1048576) : C_impl_copyDisk [.agg [.imm (d.fSecs.map (sliceT u8T).row), .imm (d.fCache.map TWrite.row), .int .i64 d.fOps, .imm (d.fFaults.map TFault.row), .bool d.fDown]] = some (.agg (((d))).row) := c1_eq tDisk h
theorem ok_impl_copyDisk {WI : World → Prop} (hs : Stable WI) (cs) (hT : TOK (EE cs) WI) (h1 : (EE cs).T 65 = some C_impl_copyBytes) : OwnOK Try.prog WI 35 C_impl_copyDisk := by
  refine own1 (E := EE cs) hT hs (by rw [st_impl_copyDisk]; rfl) fun d hp => outO_wp (st_impl_copyDisk cs) ?_
  have hp' : tDisk.cost d ≤ 1048576 := hp
  have hcost : tDisk.cost d = (sliceT (sliceT u8T)).cost d.fSecs + (sliceT tWrite).cost d.fCache + (sliceT tFault).cost d.fFaults := rfl
  have hc1 : (sliceT (sliceT u8T)).cost d.fSecs = d.fSecs.length + costL (sliceT u8T) d.fSecs := rfl
  have hc2 : (sliceT tWrite).cost d.fCache = d.fCache.length + costL tWrite d.fCache := rfl
  have hc3 : (sliceT tFault).cost d.fFaults = d.fFaults.length + costL tFault d.fFaults := rfl
  simp only [go_sem, kSt_ptr, Nat.reduceBEq, Nat.reduceAdd, Nat.reduceEqDiff, Nat.reduceLeDiff, Nat.reduceSub, reduceIte, Int.reduceBEq, Int.reduceEq, Int.reduceLT, Int.reduceLE, Int.reduceGT, Int.reduceGE, Int.reduceNe, Int.reduceBNe, s_impl_copyDisk, TDisk.row, tDisk_enc]
  refine (wl_for (l := d.fSecs) (fun pre e h => e 1 = .ptr 0 0 ∧ e 2 = .ptr 1 0 ∧ e 10 = .imm (d.fSecs.map (sliceT u8T).row) ∧ h.hp 0 = some [.imm (d.fSecs.map (sliceT u8T).row), .imm (d.fCache.map TWrite.row), .int .i64 d.fOps, .imm (d.fFaults.map TFault.row), .bool d.fDown] ∧ h.hp 1 = some [.snil, .snil, .int .i64 0, .snil, .bool false] ∧ 2 ≤ h.nx ∧ OwS 1 (sliceT u8T) 2 h.nx pre (e 3) h ∧ e 12 = .int .i64 pre.length ∧ e 11 = .int .i64 (d.fSecs).length) (.exit 0) (fun e h => e 1 = .ptr 0 0 ∧ e 2 = .ptr 1 0 ∧ e 10 = .imm (d.fSecs.map (sliceT u8T).row) ∧ h.hp 0 = some [.imm (d.fSecs.map (sliceT u8T).row), .imm (d.fCache.map TWrite.row), .int .i64 d.fOps, .imm (d.fFaults.map TFault.row), .bool d.fDown] ∧ h.hp 1 = some [.snil, .snil, .int .i64 0, .snil, .bool false] ∧ 2 ≤ h.nx ∧ OwS 1 (sliceT u8T) 2 h.nx (d.fSecs) (e 3) h) (by omega) ?_ ?_ (by simp) d.fSecs [] _ _ rfl ?_).mono ?_
  · rintro pre v rest e h a ⟨q0, q1, q2, q3, q4, q5, q6, ix, nx⟩
    have hvc := costL_mem (sliceT u8T) a.mem
    have hvc2 : (sliceT u8T).cost v = v.length + costL u8T v := rfl
    have a1 := C_impl_copyBytes_eq v (by omega)
    simp only [go_sem, kSt_ptr, Nat.reduceBEq, Nat.reduceAdd, Nat.reduceEqDiff, Nat.reduceLeDiff, Nat.reduceSub, reduceIte, Int.reduceBEq, Int.reduceEq, Int.reduceLT, Int.reduceLE, Int.reduceGT, Int.reduceGE, Int.reduceNe, Int.reduceBNe, s_impl_copyDisk_L0, q0, q1, q2, q3, q4, q5, q6, ix, nx, a.dl, a.ia (row := (sliceT u8T).row) (sz := 1) rfl, a.hw, sliceT_row, h1]
    refine hP_own (n := 1) (mapO1 ((sliceT u8T).frzT 8 _ v)) a1 ((sliceT u8T).okT v (by decide)) (by decide) ?_
    intro x h1 o1 k1 k2 k3
    obtain ⟨A1, c1, z1⟩ := OwI.slice o1 k3
    have f1 : fillR (List.replicate 1 [.snil]) 1 [(0, x)] = some [[x]] := by simp [fillR, z1, c1]
    simp only [go_sem, kSt_ptr, Nat.reduceBEq, Nat.reduceAdd, Nat.reduceEqDiff, Nat.reduceLeDiff, Nat.reduceSub, reduceIte, Int.reduceBEq, Int.reduceEq, Int.reduceLT, Int.reduceLE, Int.reduceGT, Int.reduceGE, Int.reduceNe, Int.reduceBNe, f1]
    refine hP_growA (lo' := h.nx) (hi' := h1.nx) v rfl (q6.mono (by simp only []; omega) fun q _ hq => by have g : ¬ q = h1.nx := (by omega); simp only [g, if_false]; exact k1 q hq) (rowsIn_sl1 (cs := [x]) (by simp) rfl) (A1.mono (by simp only []; omega) fun q _ hq => by have g : ¬ q = h1.nx := (by omega); simp only [g, if_false]) (Nat.le_refl _) (by have := a.lt; unfold room; omega) ?_
    intro v' h' g1 g2 g3 g4
    have g5 : h1.nx + 1 ≤ h'.nx := g2
    have e0 : h'.hp 0 = h.hp 0 := (g3 0 (by omega) (by simp only []; omega)).trans (by have g : ¬ 0 = h1.nx := (by omega); simp only [g, if_false]; exact k1 0 (by omega))
    have e1 : h'.hp 1 = h.hp 1 := (g3 1 (by omega) (by simp only []; omega)).trans (by have g : ¬ 1 = h1.nx := (by omega); simp only [g, if_false]; exact k1 1 (by omega))
    simp only [go_sem, kSt_ptr, Nat.reduceBEq, Nat.reduceAdd, Nat.reduceEqDiff, Nat.reduceLeDiff, Nat.reduceSub, reduceIte, Int.reduceBEq, Int.reduceEq, Int.reduceLT, Int.reduceLE, Int.reduceGT, Int.reduceGE, Int.reduceNe, Int.reduceBNe, q0, q1, q2, e0, e1, q3, q4, ix, nx, a.hw]
    exact ⟨by omega, g1⟩
  · rintro e h ⟨q0, q1, q2, q3, q4, q5, q6, ix, nx⟩
    simp only [go_sem, kSt_ptr, Nat.reduceBEq, Nat.reduceAdd, Nat.reduceEqDiff, Nat.reduceLeDiff, Nat.reduceSub, reduceIte, Int.reduceBEq, Int.reduceEq, Int.reduceLT, Int.reduceLE, Int.reduceGT, Int.reduceGE, Int.reduceNe, Int.reduceBNe, s_impl_copyDisk_L0, q0, q1, q2, q3, q4, q5, q6, ix, nx]
  · exact ⟨rfl, rfl, rfl, rfl, rfl, Nat.le_refl _, OwS.nil _ _ (Nat.le_refl _) (Nat.le_refl _), rfl, rfl⟩
  · rintro x e h ⟨rfl, j0, j1, j2, j3, j4, j5, os⟩
    obtain ⟨H, hH⟩ : ∃ H, H = h.nx := ⟨_, rfl⟩
    rw [← hH] at os
    simp only [go_sem, kSt_ptr, Nat.reduceBEq, Nat.reduceAdd, Nat.reduceEqDiff, Nat.reduceLeDiff, Nat.reduceSub, reduceIte, Int.reduceBEq, Int.reduceEq, Int.reduceLT, Int.reduceLE, Int.reduceGT, Int.reduceGE, Int.reduceNe, Int.reduceBNe, j1, j2, j0, j3, j4]
    refine (wl_for (l := d.fCache) (fun pre e h => e 1 = .ptr 0 0 ∧ e 2 = .ptr 1 0 ∧ e 23 = .imm (d.fCache.map TWrite.row) ∧ h.hp 0 = some [.imm (d.fSecs.map (sliceT u8T).row), .imm (d.fCache.map TWrite.row), .int .i64 d.fOps, .imm (d.fFaults.map TFault.row), .bool d.fDown] ∧ h.hp 1 = some [.snil, .snil, .int .i64 0, .snil, .bool false] ∧ H ≤ h.nx ∧ OwS 1 (sliceT u8T) 2 H d.fSecs (e 3) h ∧ OwS 1 tWrite H h.nx pre (e 6) h ∧ e 25 = .int .i64 pre.length ∧ e 24 = .int .i64 (d.fCache).length) (.exit 2) (fun e h => e 1 = .ptr 0 0 ∧ e 2 = .ptr 1 0 ∧ e 23 = .imm (d.fCache.map TWrite.row) ∧ h.hp 0 = some [.imm (d.fSecs.map (sliceT u8T).row), .imm (d.fCache.map TWrite.row), .int .i64 d.fOps, .imm (d.fFaults.map TFault.row), .bool d.fDown] ∧ h.hp 1 = some [.snil, .snil, .int .i64 0, .snil, .bool false] ∧ H ≤ h.nx ∧ OwS 1 (sliceT u8T) 2 H d.fSecs (e 3) h ∧ OwS 1 tWrite H h.nx (d.fCache) (e 6) h) (by omega) ?_ ?_ (by simp) d.fCache [] _ _ rfl ?_).mono ?_
    · rintro pre v rest e h a ⟨q0, q1, q2, q3, q4, q5, q6, q7, ix, nx⟩
      have hvc := costL_mem tWrite a.mem
      have hvc2 : tWrite.cost v = (sliceT u8T).cost v.fB := rfl
      have hvc3 : (sliceT u8T).cost v.fB = v.fB.length + costL u8T v.fB := rfl
      have a1 := C_impl_copyBytes_eq v.fB (by omega)
      simp only [go_sem, kSt_ptr, Nat.reduceBEq, Nat.reduceAdd, Nat.reduceEqDiff, Nat.reduceLeDiff, Nat.reduceSub, reduceIte, Int.reduceBEq, Int.reduceEq, Int.reduceLT, Int.reduceLE, Int.reduceGT, Int.reduceGE, Int.reduceNe, Int.reduceBNe, s_impl_copyDisk_L1, q0, q1, q2, q3, q4, q5, q6, q7, ix, nx, a.dl, a.ia (row := TWrite.row) (sz := 2) rfl, a.hw, TWrite.row, h1]
      refine hP_own (n := 1) (mapO1 ((sliceT u8T).frzT 8 _ v.fB)) a1 ((sliceT u8T).okT v.fB (by decide)) (by decide) ?_
      intro x h1 o1 k1 k2 k3
      obtain ⟨A1, c1, z1⟩ := OwI.slice o1 k3
      have k3' : h.nx + 1 ≤ h1.nx := k3
      have k4 : ∀ q, q < h.nx → h1.hp q = h.hp q := fun q hq => (k1 q (Nat.lt_succ_of_lt hq)).trans (by have g : ¬ q = h.nx := (by omega); simp only [g, if_false])
      have b2 : sFill [.int .i64 0, .snil] [(0, 1, .int .i64 v.fN), (1, 1, x)] = some [.int .i64 v.fN, x] := by simp [sFill, fillAt, z1, c1, cl_int, nc_int]
      have f1 : fillR (List.replicate 1 [.int .i64 0, .snil]) 2 [(0, .agg [.int .i64 v.fN, x])] = some [[.int .i64 v.fN, x]] := by simp [fillR, ag_agg, cl_agg]
      simp only [go_sem, kSt_ptr, Nat.reduceBEq, Nat.reduceAdd, Nat.reduceEqDiff, Nat.reduceLeDiff, Nat.reduceSub, reduceIte, Int.reduceBEq, Int.reduceEq, Int.reduceLT, Int.reduceLE, Int.reduceGT, Int.reduceGE, Int.reduceNe, Int.reduceBNe, b2, f1]
      refine hP_growA (lo' := h.nx) (hi' := h1.nx) v rfl (q7.mono (by simp only []; omega) fun q _ hq => by have g : ¬ q = h1.nx := (by omega); simp only [g, if_false]; exact k4 q hq) (rowsIn_sl1 (cs := [.int .i64 v.fN, x]) (by simp) rfl) (((A1.leaf (c := .int .i64 v.fN) rfl).wide (lo' := h.nx) (Nat.le_succ _) (Nat.le_refl _) (Nat.le_refl _)).mono (by simp only []; omega) fun q _ hq => by have g : ¬ q = h1.nx := (by omega); simp only [g, if_false]) (Nat.le_refl _) (by have := a.lt; unfold room; omega) ?_
      intro v' h' g1 g2 g3 g4
      have g5 : h1.nx + 1 ≤ h'.nx := g2
      have e9 : ∀ q, q < H → h'.hp q = h.hp q := fun q hq => (g3 q (by omega) (by simp only []; omega)).trans (by have g : ¬ q = h1.nx := (by omega); simp only [g, if_false]; exact k4 q (by omega))
      have e0 := e9 0 (by omega)
      have e1 := e9 1 (by omega)
      simp only [go_sem, kSt_ptr, Nat.reduceBEq, Nat.reduceAdd, Nat.reduceEqDiff, Nat.reduceLeDiff, Nat.reduceSub, reduceIte, Int.reduceBEq, Int.reduceEq, Int.reduceLT, Int.reduceLE, Int.reduceGT, Int.reduceGE, Int.reduceNe, Int.reduceBNe, q0, q1, q2, e0, e1, q3, q4, ix, nx, a.hw]
      exact ⟨by omega, q6.mono (by omega) fun q _ hq => e9 q hq, g1⟩
    · rintro e h ⟨q0, q1, q2, q3, q4, q5, q6, q7, ix, nx⟩
      simp only [go_sem, kSt_ptr, Nat.reduceBEq, Nat.reduceAdd, Nat.reduceEqDiff, Nat.reduceLeDiff, Nat.reduceSub, reduceIte, Int.reduceBEq, Int.reduceEq, Int.reduceLT, Int.reduceLE, Int.reduceGT, Int.reduceGE, Int.reduceNe, Int.reduceBNe, s_impl_copyDisk_L1, q0, q1, q2, q3, q4, q5, q6, q7, ix, nx]
    · exact ⟨j0, j1, rfl, j3, j4, by omega, os, OwS.nil _ _ (by omega) (Nat.le_refl _), rfl, rfl⟩
    · rintro x e h ⟨rfl, j0, j1, j2, j3, j4, jH, os1, os2⟩
      obtain ⟨As, cs1, zs⟩ := os1.owA
      obtain ⟨Ac, cc1, zc⟩ := os2.owA
      simp only [go_sem, kSt_ptr, Nat.reduceBEq, Nat.reduceAdd, Nat.reduceEqDiff, Nat.reduceLeDiff, Nat.reduceSub, reduceIte, Int.reduceBEq, Int.reduceEq, Int.reduceLT, Int.reduceLE, Int.reduceGT, Int.reduceGE, Int.reduceNe, Int.reduceBNe, j0, j1, j2, j3, j4, cs1, zs, cc1, zc]
      refine hP_growL d.fFaults rfl rfl (OwS.nil 0 tFault (lo := h.nx) (hi := h.nx) (Nat.le_refl _) (Nat.le_refl _)) (rowsIn_imm _ _ _) (by simp only [List.length_nil]; unfold room; omega) ?_
      intro v' h' g1 g2 g3 g4
      rw [List.nil_append] at g1
      obtain ⟨Af, cf, zf⟩ := g1.owA
      have g5 : h.nx ≤ h'.nx := g2
      have e9 : ∀ q, 2 ≤ q → q < h.nx → h'.hp q = h.hp q := fun q hq hq2 => (g3 q (.inl hq2) hq2).trans (by have g : ¬ q = 0 := (by omega); simp [g])
      have e0 : h'.hp 0 = some [e 3, e 6, .int .i64 d.fOps, .imm (d.fFaults.map TFault.row), .bool d.fDown] := (g3 0 (by omega) (by simp only []; omega)).trans (by simp)
      have e1 : h'.hp 1 = some [.snil, .snil, .int .i64 0, .snil, .bool false] := (g3 1 (by omega) (by simp only []; omega)).trans (by simp [j4])
      simp only [go_sem, kSt_ptr, Nat.reduceBEq, Nat.reduceAdd, Nat.reduceEqDiff, Nat.reduceLeDiff, Nat.reduceSub, reduceIte, Int.reduceBEq, Int.reduceEq, Int.reduceLT, Int.reduceLE, Int.reduceGT, Int.reduceGE, Int.reduceNe, Int.reduceBNe, j0, j1, e0, e1, cs1, zs, cc1, zc, cf, zf]
      replace As := (As.up (m := 8) (by decide)).mono (h' := h') g5 fun q h1 h2 => e9 q h1 (by omega)
      replace Ac := (Ac.up (m := 8) (by decide)).mono (h' := h') g5 fun q h1 h2 => e9 q (by omega) (by omega)
      replace Af := Af.up (m := 8) (by decide)
      have B : OwA 8 2 h'.nx h' [e 3, e 6, .int .i64 d.fOps, v', .bool d.fDown] d.row := As.cat (Ac.cat (OwA.leaf (Af.cat (OwA.leaf (OwA.nil 8 h'.nx (Nat.le_refl _)) rfl) (Nat.le_refl _)) rfl) (Nat.le_refl _)) (Nat.le_refl _)
      refine OwA.owE (n := 8) (lo := 2) (hi := h'.nx) (B.mono ?_ fun q hq hq2 => ?_) (by decide)
      · simp
      · simp [show q ≠ 0 by omega, show q ≠ 1 by omega]
noncomputable def C_impl_copyEng := c1 tEng (fun (v : TEng) => tEng.cost v ≤ 1048576) (fun x => .agg (x).row) fun (v : TEng) => v
theorem C_impl_copyEng_eq (v : TEng) (h : tEng.cost v ≤ 1048576) : C_impl_copyEng [.agg [.imm (v.fS.map TDef.row), .imm (v.fD.fSecs.map (sliceT u8T).row), .imm (v.fD.fCache.map TWrite.row), .int .i64 v.fD.fOps, .imm (v.fD.fFaults.map TFault.row), .bool v.fD.fDown]] = some (.agg (((v))).row) := c1_eq tEng h
theorem ok_impl_copyEng {WI : World → Prop} (hs : Stable WI) (cs) (hT : TOK (EE cs) WI) (h1 : (EE cs).T 34 = some C_impl_copyDefs) (h2 : (EE cs).T 35 = some C_impl_copyDisk) : OwnOK Try.prog WI 16 C_impl_copyEng := by
  refine own1 (E := EE cs) hT hs (by rw [st_impl_copyEng]; rfl) fun v hp => outO_wp (st_impl_copyEng cs) ?_
  have hp' : tEng.cost v ≤ 1048576 := hp
  have hcost : tEng.cost v = (sliceT tDef).cost v.fS + tDisk.cost v.fD := rfl
  have a1 := C_impl_copyDefs_eq v.fS (by omega)
  have a2 := C_impl_copyDisk_eq v.fD (by omega)
  simp only [go_sem, kSt_ptr, Nat.reduceBEq, Nat.reduceAdd, Nat.reduceEqDiff, Nat.reduceLeDiff, Nat.reduceSub, reduceIte, Int.reduceBEq, Int.reduceEq, Int.reduceLT, Int.reduceLE, Int.reduceGT, Int.reduceGE, Int.reduceNe, Int.reduceBNe, s_impl_copyEng, TEng.row, tEng_enc, h1, h2]
  refine hP_own (n := 3) (mapO1 ((sliceT tDef).frzT 8 _ v.fS)) a1 ((sliceT tDef).okT v.fS (by decide)) (by decide) ?_
  intro x1 g1 o1 p1 q1 n1
  have m1 : 2 ≤ g1.nx := n1
  have b0 : g1.hp 0 = some [.imm (v.fS.map TDef.row), .imm (v.fD.fSecs.map (sliceT u8T).row), .imm (v.fD.fCache.map TWrite.row), .int .i64 v.fD.fOps, .imm (v.fD.fFaults.map TFault.row), .bool v.fD.fDown] := (p1 0 (by simp)).trans (by simp)
  have b1 : g1.hp 1 = some [.snil, .snil, .snil, .int .i64 0, .snil, .bool false] := (p1 1 (by simp)).trans (by simp)
  obtain ⟨A1, c1, z1⟩ := OwI.slice o1 n1
  simp only [go_sem, kSt_ptr, Nat.reduceBEq, Nat.reduceAdd, Nat.reduceEqDiff, Nat.reduceLeDiff, Nat.reduceSub, reduceIte, Int.reduceBEq, Int.reduceEq, Int.reduceLT, Int.reduceLE, Int.reduceGT, Int.reduceGE, Int.reduceNe, Int.reduceBNe, b0, b1, h2]
  refine hP_own (n := 2) (mapO1 (tDisk.frzT 8 _ v.fD)) a2 (tDisk.okT v.fD (by decide)) (by decide) ?_
  intro x2 g2 o2 p2 q2 n2
  have b1' : g2.hp 1 = some [.snil, .snil, .snil, .int .i64 0, .snil, .bool false] := (p2 1 (by omega)).trans b1
  obtain ⟨ds, rfl, e2, A2⟩ := OwI.agg (row := v.fD.row) o2 n2
  obtain ⟨d0, d1, d2, d3, d4, rfl⟩ := len5 e2
  have z2 := A2.cells
  simp only [List.any_cons, List.any_nil, Bool.or_false, Bool.or_eq_false_iff] at z2
  have f1 : sFill [.snil, .snil, .snil, .int .i64 0, .snil, .bool false] [(0, 1, x1), (1, 5, .agg [d0, d1, d2, d3, d4])] = some [x1, d0, d1, d2, d3, d4] := by simp [sFill, fillAt, z1, c1, cl_agg, ag_agg]
  simp only [go_sem, kSt_ptr, Nat.reduceBEq, Nat.reduceAdd, Nat.reduceEqDiff, Nat.reduceLeDiff, Nat.reduceSub, reduceIte, Int.reduceBEq, Int.reduceEq, Int.reduceLT, Int.reduceLE, Int.reduceGT, Int.reduceGE, Int.reduceNe, Int.reduceBNe, f1, b1', z1, c1, z2]
  replace A1 := ((A1.up (m := 8) (by decide)).wide (lo' := 2) (hi' := g1.nx) (by simp) (Nat.le_refl _) (Nat.le_refl _)).mono (h' := g2) n2 fun q _ hq => p2 q hq
  have B : OwA 8 2 g2.nx g2 [x1, d0, d1, d2, d3, d4] v.row := A1.cat (A2.up (m := 8) (by decide)) (Nat.le_refl _)
  exact OwA.owE (n := 8) (B.mono (by simp) fun q hq hq2 => by simp [show q ≠ 1 by omega]) (by decide)
noncomputable def C_impl_TurnOn := c1 tDisk (fun (d : TDisk) => tDisk.cost d ≤ 1048576) (fun x => .agg (x).row) fun (d : TDisk) => (diskOn d)
theorem C_impl_TurnOn_eq (d : TDisk) (h : tDisk.cost d ≤ 1048576) : C_impl_TurnOn [.agg [.imm (d.fSecs.map (sliceT u8T).row), .imm (d.fCache.map TWrite.row), .int .i64 d.fOps, .imm (d.fFaults.map TFault.row), .bool d.fDown]] = some (.agg ((((diskOn d)))).row) := c1_eq tDisk h
theorem ok_impl_TurnOn {WI : World → Prop} (hs : Stable WI) (cs) (hT : TOK (EE cs) WI) (h1 : (EE cs).T 35 = some C_impl_copyDisk) : OwnOK Try.prog WI 36 C_impl_TurnOn := by
  refine own1 (E := EE cs) hT hs (by rw [st_impl_TurnOn]; rfl) fun d hp => outO_wp (st_impl_TurnOn cs) ?_
  have a1 := C_impl_copyDisk_eq d hp
  simp only [go_sem, kSt_ptr, Nat.reduceBEq, Nat.reduceAdd, Nat.reduceEqDiff, Nat.reduceLeDiff, Nat.reduceSub, reduceIte, Int.reduceBEq, Int.reduceEq, Int.reduceLT, Int.reduceLE, Int.reduceGT, Int.reduceGE, Int.reduceNe, Int.reduceBNe, s_impl_TurnOn, TDisk.row, tDisk_enc, h1]
  refine hP_own (n := 2) (mapO1 (tDisk.frzT 8 _ d)) a1 (tDisk.okT d (by decide)) (by decide) ?_
  intro x1 g1 o1 p1 q1 n1
  have m1 : 2 ≤ g1.nx := n1
  have b1 : g1.hp 1 = some [.snil, .snil, .int .i64 0, .snil, .bool false] := (p1 1 (by simp)).trans (by simp)
  obtain ⟨ds, rfl, e1, A1⟩ := OwI.agg (row := d.row) o1 n1
  obtain ⟨d0, d1, d2, d3, d4, rfl⟩ := len5 e1
  have z1 := A1.cells
  simp only [List.any_cons, List.any_nil, Bool.or_false, Bool.or_eq_false_iff] at z1
  have g : ¬ 1 = g1.nx := by omega
  simp only [go_sem, kSt_ptr, Nat.reduceBEq, Nat.reduceAdd, Nat.reduceEqDiff, Nat.reduceLeDiff, Nat.reduceSub, reduceIte, Int.reduceBEq, Int.reduceEq, Int.reduceLT, Int.reduceLE, Int.reduceGT, Int.reduceGE, Int.reduceNe, Int.reduceBNe, b1, z1, g]
  replace A1 := (A1.up (m := 8) (by decide)).wide (lo' := 2) (hi' := g1.nx) (by simp) (Nat.le_refl _) (Nat.le_refl _)
  have A2 := OwA.pre (cs := [d0, d1, d2, d3]) (cs' := [d4]) (ts := [.imm (d.fSecs.map (sliceT u8T).row), .imm (d.fCache.map TWrite.row), .int .i64 d.fOps, .imm (d.fFaults.map TFault.row)]) (ts' := [.bool d.fDown]) A1 rfl
  have B : OwA 8 2 g1.nx g1 [d0, d1, d2, d3, .bool false] (diskOn d).row := A2.cat (OwA.leaf (OwA.nil 8 g1.nx (Nat.le_refl _)) rfl) (Nat.le_refl _)
  exact OwA.owE (n := 8) (B.mono (by simp) fun q hq hq2 => by simp [show q ≠ 1 by omega, show q ≠ g1.nx by omega]) (by decide)
noncomputable def C_impl_Reopen := c1 tDisk (fun (d : TDisk) => tDisk.cost d ≤ 1048576) (fun x => .agg (x).row) fun (d : TDisk) => (diskOn d)
theorem C_impl_Reopen_eq (d : TDisk) (h : tDisk.cost d ≤ 1048576) : C_impl_Reopen [.agg [.imm (d.fSecs.map (sliceT u8T).row), .imm (d.fCache.map TWrite.row), .int .i64 d.fOps, .imm (d.fFaults.map TFault.row), .bool d.fDown]] = some (.agg ((((diskOn d)))).row) := c1_eq tDisk h
theorem ok_impl_Reopen {WI : World → Prop} (hs : Stable WI) (cs) (hT : TOK (EE cs) WI) (h1 : (EE cs).T 36 = some C_impl_TurnOn) : OwnOK Try.prog WI 17 C_impl_Reopen := by
  refine own1 (E := EE cs) hT hs (by rw [st_impl_Reopen]; rfl) fun d hp => outO_wp (st_impl_Reopen cs) ?_
  have a1 := C_impl_TurnOn_eq d hp
  simp only [go_sem, kSt_ptr, Nat.reduceBEq, Nat.reduceAdd, Nat.reduceEqDiff, Nat.reduceLeDiff, Nat.reduceSub, reduceIte, Int.reduceBEq, Int.reduceEq, Int.reduceLT, Int.reduceLE, Int.reduceGT, Int.reduceGE, Int.reduceNe, Int.reduceBNe, s_impl_Reopen, TDisk.row, tDisk_enc, h1]
  refine hP_own (n := 2) (mapO1 (tDisk.frzT 8 _ d)) a1 (tDisk.okT (diskOn d) (by decide)) (by decide) ?_
  intro x1 g1 o1 p1 q1 n1
  have m1 : 2 ≤ g1.nx := n1
  have b1 : g1.hp 1 = some [.snil, .snil, .int .i64 0, .snil, .bool false] := (p1 1 (by simp)).trans (by simp)
  obtain ⟨ds, rfl, e1, A1⟩ := OwI.agg (row := (diskOn d).row) o1 n1
  obtain ⟨d0, d1, d2, d3, d4, rfl⟩ := len5 e1
  have z1 := A1.cells
  simp only [List.any_cons, List.any_nil, Bool.or_false, Bool.or_eq_false_iff] at z1
  simp only [go_sem, kSt_ptr, Nat.reduceBEq, Nat.reduceAdd, Nat.reduceEqDiff, Nat.reduceLeDiff, Nat.reduceSub, reduceIte, Int.reduceBEq, Int.reduceEq, Int.reduceLT, Int.reduceLE, Int.reduceGT, Int.reduceGE, Int.reduceNe, Int.reduceBNe, b1, z1]
  replace A1 := (A1.up (m := 8) (by decide)).wide (lo' := 2) (hi' := g1.nx) (by simp) (Nat.le_refl _) (Nat.le_refl _)
  exact OwA.owE (n := 8) (A1.mono (by simp) fun q hq hq2 => by simp [show q ≠ 1 by omega]) (by decide)
end Go.Proofs.Ytgjdkcjijmdfoaa.Eo
/- What the functions that FnExactEngOn calls answer: part 6. -/
namespace Go.Proofs.Ytgjdkcjijmdfoaa.Eo
open Go Go.RowKit Go.Ev
set_option linter.unusedSimpArgs false
set_option linter.unusedVariables false
set_option maxHeartbeats 1600000
noncomputable def C_impl_EngOn := c1 tEng (fun (v : TEng) => tEng.cost v ≤ 1048576) (fun x => .agg (x).row) fun (v : TEng) => (engOn v)
theorem C_impl_EngOn_eq (v : TEng) (h : tEng.cost v ≤ 1048576) : C_impl_EngOn [.agg [.imm (v.fS.map TDef.row), .imm (v.fD.fSecs.map (sliceT u8T).row), .imm (v.fD.fCache.map TWrite.row), .int .i64 v.fD.fOps, .imm (v.fD.fFaults.map TFault.row), .bool v.fD.fDown]] = some (.agg ((((engOn v)))).row) := c1_eq tEng h
theorem ok_impl_EngOn {WI : World → Prop} (hs : Stable WI) (cs) (hT : TOK (EE cs) WI) (h1 : (EE cs).T 16 = some C_impl_copyEng) (h2 : (EE cs).T 17 = some C_impl_Reopen) : OwnOK Try.prog WI 7 C_impl_EngOn := by
  refine own1 (E := EE cs) hT hs (by rw [st_impl_EngOn]; rfl) fun v hp => outO_wp (st_impl_EngOn cs) ?_
  have hp' : tEng.cost v ≤ 1048576 := hp
  have hcost : tEng.cost v = (sliceT tDef).cost v.fS + tDisk.cost v.fD := rfl
  have a1 := C_impl_copyEng_eq v hp
  have a2 := C_impl_Reopen_eq v.fD (by omega)
  simp only [go_sem, kSt_ptr, Nat.reduceBEq, Nat.reduceAdd, Nat.reduceEqDiff, Nat.reduceLeDiff, Nat.reduceSub, reduceIte, Int.reduceBEq, Int.reduceEq, Int.reduceLT, Int.reduceLE, Int.reduceGT, Int.reduceGE, Int.reduceNe, Int.reduceBNe, s_impl_EngOn, TEng.row, tEng_enc, h1, h2]
  refine hP_own (n := 3) (mapO1 (tEng.frzT 8 _ v)) a1 (tEng.okT v (by decide)) (by decide) ?_
  intro x1 g1 o1 p1 q1 n1
  have m1 : 2 ≤ g1.nx := n1
  have b0 : g1.hp 0 = some [.imm (v.fS.map TDef.row), .imm (v.fD.fSecs.map (sliceT u8T).row), .imm (v.fD.fCache.map TWrite.row), .int .i64 v.fD.fOps, .imm (v.fD.fFaults.map TFault.row), .bool v.fD.fDown] := (p1 0 (by simp)).trans (by simp)
  have b1 : g1.hp 1 = some [.snil, .snil, .snil, .int .i64 0, .snil, .bool false] := (p1 1 (by simp)).trans (by simp)
  obtain ⟨ds, rfl, e1, A1⟩ := OwI.agg (row := v.row) o1 n1
  obtain ⟨c0, d0, d1, d2, d3, d4, rfl⟩ := len6 e1
  have z1 := A1.cells
  simp only [List.any_cons, List.any_nil, Bool.or_false, Bool.or_eq_false_iff] at z1
  have g : ¬ 1 = g1.nx := by omega
  have g' : ¬ 0 = g1.nx := by omega
  simp only [go_sem, kSt_ptr, Nat.reduceBEq, Nat.reduceAdd, Nat.reduceEqDiff, Nat.reduceLeDiff, Nat.reduceSub, reduceIte, Int.reduceBEq, Int.reduceEq, Int.reduceLT, Int.reduceLE, Int.reduceGT, Int.reduceGE, Int.reduceNe, Int.reduceBNe, b0, b1, z1, g, g', h2]
  refine hP_own (n := 2) (mapO1 (tDisk.frzT 8 _ v.fD)) a2 (tDisk.okT (diskOn v.fD) (by decide)) (by decide) ?_
  intro x2 g2 o2 p2 q2 n2
  have n2' : g1.nx + 1 ≤ g2.nx := n2
  have b1' : g2.hp 1 = some [.snil, .snil, .snil, .int .i64 0, .snil, .bool false] := (p2 1 (by simp only []; omega)).trans (by simp [g, b1])
  have b2 : g2.hp g1.nx = some [c0, d0, d1, d2, d3, d4] := (p2 g1.nx (by simp)).trans (by simp)
  obtain ⟨ds, rfl, e2, A2⟩ := OwI.agg (row := (diskOn v.fD).row) o2 n2
  obtain ⟨r0, r1, r2, r3, r4, rfl⟩ := len5 e2
  have z2 := A2.cells
  simp only [List.any_cons, List.any_nil, Bool.or_false, Bool.or_eq_false_iff] at z2
  simp only [go_sem, kSt_ptr, Nat.reduceBEq, Nat.reduceAdd, Nat.reduceEqDiff, Nat.reduceLeDiff, Nat.reduceSub, reduceIte, Int.reduceBEq, Int.reduceEq, Int.reduceLT, Int.reduceLE, Int.reduceGT, Int.reduceGE, Int.reduceNe, Int.reduceBNe, b1', b2, z1, z2, g]
  replace A1 := (A1.up (m := 8) (by decide)).wide (lo' := 2) (hi' := g1.nx) (by simp) (Nat.le_refl _) (Nat.le_refl _)
  have A3 := (OwA.pre (cs := [c0]) (cs' := [d0, d1, d2, d3, d4]) (ts := [.imm (v.fS.map TDef.row)]) (ts' := [.imm (v.fD.fSecs.map (sliceT u8T).row), .imm (v.fD.fCache.map TWrite.row), .int .i64 v.fD.fOps, .imm (v.fD.fFaults.map TFault.row), .bool v.fD.fDown]) A1 rfl).mono (h' := g2) (by omega) fun q _ hq => (p2 q (by simp only []; omega)).trans (by simp [show q ≠ g1.nx by omega])
  have A4 := A2.up (m := 8) (by decide)
  refine OwA.owE (n := 8) (lo := 2) (hi := g2.nx) (cs := [c0] ++ [r0, r1, r2, r3, r4]) (ts := [.imm (v.fS.map TDef.row)] ++ (diskOn v.fD).row) ((A3.mono ?_ fun q hq hq2 => ?_).cat (A4.mono ?_ fun q hq hq2 => ?_) (by simp)) (by decide)
  · simp
  · simp [show q ≠ 1 by omega, show q ≠ g1.nx by omega]
  · simp
  · have hq' : g1.nx + 1 ≤ q := hq
    simp [show q ≠ 1 by omega, show q ≠ g1.nx by omega]
theorem ok_laws_eqCol {WI : World → Prop} (hs : Stable WI) (cs) (hT : TOK (EE cs) WI)  : PureOK Try.prog WI 79 (eqC tCol) := by
  refine pureEq (E := EE cs) hT hs (by rw [st_laws_eqCol]; rfl) fun v hc => out_K (n := 0) (st_laws_eqCol cs) ?_
  have hcost : tCol.cost v = v.fName.length := rfl
  simp only [go_sem, kSt_ptr, Nat.reduceBEq, Nat.reduceAdd, Nat.reduceEqDiff, Nat.reduceLeDiff, Nat.reduceSub, reduceIte, Int.reduceBEq, Int.reduceEq, Int.reduceLT, Int.reduceLE, Int.reduceGT, Int.reduceGE, Int.reduceNe, Int.reduceBNe, s_laws_eqCol, TCol.row]
theorem ok_laws_eqColS {WI : World → Prop} (hs : Stable WI) (cs) (hT : TOK (EE cs) WI) (h0 : (EE cs).T 79 = some (eqC tCol)) : PureOK Try.prog WI 66 (eqC (sliceT tCol)) := eqS_ok (E := EE cs) (T := tCol) hT hs h0 (st_laws_eqColS cs)
theorem ok_laws_eqBy {WI : World → Prop} (hs : Stable WI) (cs) (hT : TOK (EE cs) WI)  : PureOK Try.prog WI 80 (eqC tBy) := by
  refine pureEq (E := EE cs) hT hs (by rw [st_laws_eqBy]; rfl) fun v hc => out_K (n := 0) (st_laws_eqBy cs) ?_
  have hcost : tBy.cost v = 0 := rfl
  simp only [go_sem, kSt_ptr, Nat.reduceBEq, Nat.reduceAdd, Nat.reduceEqDiff, Nat.reduceLeDiff, Nat.reduceSub, reduceIte, Int.reduceBEq, Int.reduceEq, Int.reduceLT, Int.reduceLE, Int.reduceGT, Int.reduceGE, Int.reduceNe, Int.reduceBNe, s_laws_eqBy, TBy.row]
theorem ok_laws_eqByS {WI : World → Prop} (hs : Stable WI) (cs) (hT : TOK (EE cs) WI) (h0 : (EE cs).T 80 = some (eqC tBy)) : PureOK Try.prog WI 67 (eqC (sliceT tBy)) := eqS_ok (E := EE cs) (T := tBy) hT hs h0 (st_laws_eqByS cs)
theorem ok_laws_eqIndex {WI : World → Prop} (hs : Stable WI) (cs) (hT : TOK (EE cs) WI) (h0 : (EE cs).T 67 = some (eqC (sliceT tBy))) : PureOK Try.prog WI 81 (eqC tIndex) := by
  refine pureEq (E := EE cs) hT hs (by rw [st_laws_eqIndex]; rfl) fun v hc => out_K (n := 0) (st_laws_eqIndex cs) ?_
  have hcost : tIndex.cost v = v.fName.length + (sliceT tBy).cost v.fParts := rfl
  have c2 : eqC (sliceT tBy) [.imm (v.fParts.map TBy.row), .imm (v.fParts.map TBy.row)] = some (.bool true) := eqC_eq (sliceT tBy) (by omega)
  simp only [go_sem, kSt_ptr, Nat.reduceBEq, Nat.reduceAdd, Nat.reduceEqDiff, Nat.reduceLeDiff, Nat.reduceSub, reduceIte, Int.reduceBEq, Int.reduceEq, Int.reduceLT, Int.reduceLE, Int.reduceGT, Int.reduceGE, Int.reduceNe, Int.reduceBNe, s_laws_eqIndex, TIndex.row, h0, c2]
theorem ok_laws_eqIndexS {WI : World → Prop} (hs : Stable WI) (cs) (hT : TOK (EE cs) WI) (h0 : (EE cs).T 81 = some (eqC tIndex)) : PureOK Try.prog WI 68 (eqC (sliceT tIndex)) := eqS_ok (E := EE cs) (T := tIndex) hT hs h0 (st_laws_eqIndexS cs)
theorem ok_laws_eqDef {WI : World → Prop} (hs : Stable WI) (cs) (hT : TOK (EE cs) WI) (h0 : (EE cs).T 66 = some (eqC (sliceT tCol))) (h1 : (EE cs).T 67 = some (eqC (sliceT tBy))) (h2 : (EE cs).T 68 = some (eqC (sliceT tIndex))) : PureOK Try.prog WI 37 (eqC tDef) := by
  refine pureEq (E := EE cs) hT hs (by rw [st_laws_eqDef]; rfl) fun v hc => out_K (n := 0) (st_laws_eqDef cs) ?_
  have hcost : tDef.cost v = v.fName.length + (sliceT tCol).cost v.fCols + (sliceT tBy).cost v.fPrimary + (sliceT tIndex).cost v.fIndexes := rfl
  have c1 : eqC (sliceT tCol) [.imm (v.fCols.map TCol.row), .imm (v.fCols.map TCol.row)] = some (.bool true) := eqC_eq (sliceT tCol) (by omega)
  have c2 : eqC (sliceT tBy) [.imm (v.fPrimary.map TBy.row), .imm (v.fPrimary.map TBy.row)] = some (.bool true) := eqC_eq (sliceT tBy) (by omega)
  have c3 : eqC (sliceT tIndex) [.imm (v.fIndexes.map TIndex.row), .imm (v.fIndexes.map TIndex.row)] = some (.bool true) := eqC_eq (sliceT tIndex) (by omega)
  simp only [go_sem, kSt_ptr, Nat.reduceBEq, Nat.reduceAdd, Nat.reduceEqDiff, Nat.reduceLeDiff, Nat.reduceSub, reduceIte, Int.reduceBEq, Int.reduceEq, Int.reduceLT, Int.reduceLE, Int.reduceGT, Int.reduceGE, Int.reduceNe, Int.reduceBNe, s_laws_eqDef, TDef.row, h0, h1, h2, c1, c2, c3]
theorem ok_laws_eqDefS {WI : World → Prop} (hs : Stable WI) (cs) (hT : TOK (EE cs) WI) (h0 : (EE cs).T 37 = some (eqC tDef)) : PureOK Try.prog WI 18 (eqC (sliceT tDef)) := eqS_ok (E := EE cs) (T := tDef) hT hs h0 (st_laws_eqDefS cs)
theorem ok_laws_eqByteS {WI : World → Prop} (hs : Stable WI) (cs) (hT : TOK (EE cs) WI)  : PureOK Try.prog WI 69 (eqC (sliceT u8T)) := ecS_ok (E := EE cs) (T := u8T) hT hs rfl neq_u8 (st_laws_eqByteS cs)
theorem ok_laws_eqByteSS {WI : World → Prop} (hs : Stable WI) (cs) (hT : TOK (EE cs) WI) (h0 : (EE cs).T 69 = some (eqC (sliceT u8T))) : PureOK Try.prog WI 38 (eqC (sliceT (sliceT u8T))) := eqS_ok (E := EE cs) (T := (sliceT u8T)) hT hs h0 (st_laws_eqByteSS cs)
theorem ok_laws_eqWrite {WI : World → Prop} (hs : Stable WI) (cs) (hT : TOK (EE cs) WI) (h0 : (EE cs).T 69 = some (eqC (sliceT u8T))) : PureOK Try.prog WI 70 (eqC tWrite) := by
  refine pureEq (E := EE cs) hT hs (by rw [st_laws_eqWrite]; rfl) fun v hc => out_K (n := 0) (st_laws_eqWrite cs) ?_
  have hcost : tWrite.cost v = (sliceT u8T).cost v.fB := rfl
  have c1 : eqC (sliceT u8T) [.imm (v.fB.map u8T.row), .imm (v.fB.map u8T.row)] = some (.bool true) := eqC_eq (sliceT u8T) (by omega)
  simp only [go_sem, kSt_ptr, Nat.reduceBEq, Nat.reduceAdd, Nat.reduceEqDiff, Nat.reduceLeDiff, Nat.reduceSub, reduceIte, Int.reduceBEq, Int.reduceEq, Int.reduceLT, Int.reduceLE, Int.reduceGT, Int.reduceGE, Int.reduceNe, Int.reduceBNe, s_laws_eqWrite, TWrite.row, h0, c1]
theorem ok_laws_eqWriteS {WI : World → Prop} (hs : Stable WI) (cs) (hT : TOK (EE cs) WI) (h0 : (EE cs).T 70 = some (eqC tWrite)) : PureOK Try.prog WI 39 (eqC (sliceT tWrite)) := eqS_ok (E := EE cs) (T := tWrite) hT hs h0 (st_laws_eqWriteS cs)
theorem ok_laws_eqFault {WI : World → Prop} (hs : Stable WI) (cs) (hT : TOK (EE cs) WI)  : PureOK Try.prog WI 71 (eqC tFault) := by
  refine pureEq (E := EE cs) hT hs (by rw [st_laws_eqFault]; rfl) fun v hc => out_K (n := 0) (st_laws_eqFault cs) ?_
  have hcost : tFault.cost v = 0 := rfl
  simp only [go_sem, kSt_ptr, Nat.reduceBEq, Nat.reduceAdd, Nat.reduceEqDiff, Nat.reduceLeDiff, Nat.reduceSub, reduceIte, Int.reduceBEq, Int.reduceEq, Int.reduceLT, Int.reduceLE, Int.reduceGT, Int.reduceGE, Int.reduceNe, Int.reduceBNe, s_laws_eqFault, TFault.row]
theorem ok_laws_eqFaultS {WI : World → Prop} (hs : Stable WI) (cs) (hT : TOK (EE cs) WI) (h0 : (EE cs).T 71 = some (eqC tFault)) : PureOK Try.prog WI 40 (eqC (sliceT tFault)) := eqS_ok (E := EE cs) (T := tFault) hT hs h0 (st_laws_eqFaultS cs)
theorem ok_laws_eqDisk {WI : World → Prop} (hs : Stable WI) (cs) (hT : TOK (EE cs) WI) (h0 : (EE cs).T 38 = some (eqC (sliceT (sliceT u8T)))) (h1 : (EE cs).T 39 = some (eqC (sliceT tWrite))) (h2 : (EE cs).T 40 = some (eqC (sliceT tFault))) : PureOK Try.prog WI 19 (eqC tDisk) := by
  refine pureEq (E := EE cs) hT hs (by rw [st_laws_eqDisk]; rfl) fun v hc => out_K (n := 0) (st_laws_eqDisk cs) ?_
  have hcost : tDisk.cost v = (sliceT (sliceT u8T)).cost v.fSecs + (sliceT tWrite).cost v.fCache + (sliceT tFault).cost v.fFaults := rfl
  have c0 : eqC (sliceT (sliceT u8T)) [.imm (v.fSecs.map (sliceT u8T).row), .imm (v.fSecs.map (sliceT u8T).row)] = some (.bool true) := eqC_eq (sliceT (sliceT u8T)) (by omega)
  have c1 : eqC (sliceT tWrite) [.imm (v.fCache.map TWrite.row), .imm (v.fCache.map TWrite.row)] = some (.bool true) := eqC_eq (sliceT tWrite) (by omega)
  have c3 : eqC (sliceT tFault) [.imm (v.fFaults.map TFault.row), .imm (v.fFaults.map TFault.row)] = some (.bool true) := eqC_eq (sliceT tFault) (by omega)
  simp only [go_sem, kSt_ptr, Nat.reduceBEq, Nat.reduceAdd, Nat.reduceEqDiff, Nat.reduceLeDiff, Nat.reduceSub, reduceIte, Int.reduceBEq, Int.reduceEq, Int.reduceLT, Int.reduceLE, Int.reduceGT, Int.reduceGE, Int.reduceNe, Int.reduceBNe, s_laws_eqDisk, TDisk.row, h0, h1, h2, c0, c1, c3]
theorem ok_laws_eqEng {WI : World → Prop} (hs : Stable WI) (cs) (hT : TOK (EE cs) WI) (h0 : (EE cs).T 18 = some (eqC (sliceT tDef))) (h1 : (EE cs).T 19 = some (eqC tDisk)) : PureOK Try.prog WI 8 (eqC tEng) := by
  refine pureEq (E := EE cs) hT hs (by rw [st_laws_eqEng]; rfl) fun v hc => out_K (n := 0) (st_laws_eqEng cs) ?_
  have hcost : tEng.cost v = (sliceT tDef).cost v.fS + tDisk.cost v.fD := rfl
  have c0 : eqC (sliceT tDef) [.imm (v.fS.map TDef.row), .imm (v.fS.map TDef.row)] = some (.bool true) := eqC_eq (sliceT tDef) (by omega)
  have c1 : eqC tDisk [.agg [.imm (v.fD.fSecs.map (sliceT u8T).row), .imm (v.fD.fCache.map TWrite.row), .int .i64 v.fD.fOps, .imm (v.fD.fFaults.map TFault.row), .bool v.fD.fDown], .agg [.imm (v.fD.fSecs.map (sliceT u8T).row), .imm (v.fD.fCache.map TWrite.row), .int .i64 v.fD.fOps, .imm (v.fD.fFaults.map TFault.row), .bool v.fD.fDown]] = some (.bool true) := eqC_eq tDisk (by omega)
  simp only [go_sem, kSt_ptr, Nat.reduceBEq, Nat.reduceAdd, Nat.reduceEqDiff, Nat.reduceLeDiff, Nat.reduceSub, reduceIte, Int.reduceBEq, Int.reduceEq, Int.reduceLT, Int.reduceLE, Int.reduceGT, Int.reduceGE, Int.reduceNe, Int.reduceBNe, s_laws_eqEng, TEng.row, h0, h1, c0, c1, TDisk.row]
def inR (x a b : Int) : Bool := decide (a ≤ x) && decide (x ≤ b)
def valOk (v : TVal) : Bool :=
  if v.fK = 0 then v.fN == 0 && v.fS == [] else if v.fK = 1 then inR v.fN (-2147483648) 2147483647 && v.fS == [] else if v.fK = 2 then inR v.fN (-1000000000000000) 1000000000000000 && v.fS == []
  else if v.fK = 3 then decide ((v.fS.length : Int) ≤ 30) && v.fN == 0 else if v.fK = 4 then inR v.fN 0 1 && v.fS == [] else false
theorem valOk_rng {v : TVal} (h : valOk v = true) (hk : v.fK = 1 ∨ v.fK = 2) : -1000000000000000 ≤ v.fN ∧ v.fN ≤ 1000000000000000 := by
  rcases hk with hk | hk <;> simp [valOk, hk, inR] at h <;> omega
theorem valOk_len {v : TVal} (h : valOk v = true) (hk : v.fK = 3) : v.fS.length ≤ 30 := by
  simp [valOk, hk] at h
  omega
theorem valOk_str {v : TVal} (h : valOk v = true) (hk : v.fK ≠ 3) : v.fS = [] := by
  by_cases h0 : v.fK = 0
  · simp [valOk, h0] at h; exact h.2
  by_cases h1 : v.fK = 1
  · simp [valOk, h1] at h; exact h.2
  by_cases h2 : v.fK = 2
  · simp [valOk, h2] at h; exact h.2
  by_cases h4 : v.fK = 4
  · simp [valOk, h4] at h; exact h.2
  · simp [valOk, h0, h1, h2, hk, h4] at h
theorem u8Id (b : UInt8) : IntKind.wrap .i64 (b.toNat : Int) = b.toNat := by
  have := b.toNat_lt
  exact wrapId (by omega) (by omega)
def plainB (b : UInt8) : Bool := inR b.toNat 32 126 && !((b.toNat : Int) == 39)
def valText (v : TVal) : List UInt8 :=
  if valOk v = false ∨ v.fS.all plainB = false then [] else
  if v.fK = 1 then 105 :: Lib.itoa v.fN else if v.fK = 2 then 110 :: Lib.itoa v.fN else if v.fK = 3 then 39 :: (v.fS ++ [39]) else if v.fK = 4 then (if v.fN = 1 then [121, 101, 115] else [110, 111]) else [110, 117, 108, 108]
theorem valText_len (v : TVal) : (valText v).length ≤ 40 := by
  unfold valText
  split
  · simp
  · rename_i h
    have hv : valOk v = true := by
      cases hv : valOk v
      · exact absurd (Or.inl hv) h
      · rfl
    split
    · rename_i h1
      have hr := valOk_rng hv (.inl h1)
      have := Lib.itoa_length_le v.fN (by omega) (by omega)
      simp; omega
    split
    · rename_i h2
      have hr := valOk_rng hv (.inr h2)
      have := Lib.itoa_length_le v.fN (by omega) (by omega)
      simp; omega
    split
    · rename_i h3
      have := valOk_len hv h3
      simp; omega
    split
    · split <;> simp
    · simp
def digN (b : UInt8) : Bool := decide (48 ≤ b.toNat) && decide (b.toNat ≤ 57)
def dstep (n : Nat) (b : UInt8) : Nat := n * 10 + (b.toNat - 48)
def numD (n : Nat) (l : List UInt8) : Nat := l.foldl dstep n
theorem numD_nil (n : Nat) : numD n [] = n := rfl
theorem numD_cons (n : Nat) (b : UInt8) (r : List UInt8) : numD n (b :: r) = numD (dstep n b) r := by unfold numD; rw [List.foldl_cons]
theorem numD_snoc (b : UInt8) (l : List UInt8) (n : Nat) : numD n (l ++ [b]) = numD n l * 10 + (b.toNat - 48) := by
  unfold numD
  rw [List.foldl_append, List.foldl_cons, List.foldl_nil, dstep]
theorem numD_ge (l : List UInt8) : ∀ n : Nat, n ≤ numD n l := by
  induction l with
  | nil => intro n; rw [numD_nil]; exact Nat.le_refl _
  | cons b l ih =>
    intro n
    rw [numD_cons]
    refine Nat.le_trans ?_ (ih (dstep n b))
    unfold dstep
    omega
theorem numD_lt (l : List UInt8) : ∀ (n : Nat), l.all digN = true → numD n l < (n + 1) * 10 ^ l.length := by
  induction l with
  | nil => intro n _; rw [numD_nil, List.length_nil, Nat.pow_zero, Nat.mul_one]; exact Nat.lt_succ_self n
  | cons b l ih =>
    intro n h
    rw [List.all_cons, Bool.and_eq_true] at h
    have hb : 48 ≤ b.toNat ∧ b.toNat ≤ 57 := by simpa [digN] using h.1
    have h1 := ih (dstep n b) h.2
    have hs : dstep n b + 1 ≤ (n + 1) * 10 := by unfold dstep; omega
    have h2 : (dstep n b + 1) * 10 ^ l.length ≤ ((n + 1) * 10) * 10 ^ l.length := Nat.mul_le_mul_right _ hs
    have h3 : (n + 1) * 10 ^ (b :: l).length = ((n + 1) * 10) * 10 ^ l.length := by
      rw [List.length_cons, Nat.pow_succ, Nat.mul_comm (10 ^ l.length) 10, Nat.mul_assoc]
    rw [h3, numD_cons]
    exact Nat.lt_of_lt_of_le h1 h2
theorem dig48 (d : Nat) (h : d < 10) : (UInt8.ofNat (48 + d)).toNat = 48 + d := by
  rw [UInt8.toNat_ofNat']
  omega
theorem dec_spec : ∀ (u : Nat), numD 0 (Lib.decDigits u) = u ∧ (Lib.decDigits u).all digN = true ∧ Lib.decDigits u ≠ [] ∧ (1 ≤ u → (Lib.decDigits u).head? ≠ some 48) := by
  intro u
  induction u using Nat.strongRecOn with
  | _ u ih =>
    by_cases h : u < 10
    · rw [Lib.decDigits_one h]
      have hd := dig48 u h
      refine ⟨by rw [numD_cons, numD_nil, dstep, hd]; omega, by simp only [List.all_cons, List.all_nil, digN, hd, Bool.and_true, Bool.and_eq_true, decide_eq_true_eq]; omega, by simp, fun h1 e => ?_⟩
      simp only [List.head?_cons, Option.some.injEq] at e
      have := congrArg UInt8.toNat e
      rw [hd] at this
      have h48 : (48 : UInt8).toNat = 48 := rfl
      omega
    · have he : Lib.decDigits u = Lib.decDigits (u / 10) ++ [UInt8.ofNat (48 + u % 10)] := by rw [Lib.decDigits, dif_neg h]
      obtain ⟨i1, i2, i3, i4⟩ := ih (u / 10) (by omega)
      have hd := dig48 (u % 10) (by omega)
      rw [he]
      refine ⟨by rw [numD_snoc, i1, hd]; omega, by rw [List.all_append, i2]; simp only [List.all_cons, List.all_nil, digN, hd, Bool.and_true, Bool.true_and, Bool.and_eq_true, decide_eq_true_eq]; omega, by simp, fun _ => ?_⟩
      obtain ⟨c, r, hc⟩ := List.exists_cons_of_ne_nil i3
      rw [hc] at i4 ⊢
      exact i4 (by omega)
theorem dec_of : ∀ (l : List UInt8), l.all digN = true → l ≠ [] → (l.head? ≠ some 48 ∨ l.length = 1) → Lib.decDigits (numD 0 l) = l := by
  have gen : ∀ (k : Nat) (l : List UInt8), l.length = k → l.all digN = true → l ≠ [] → (l.head? ≠ some 48 ∨ l.length = 1) → Lib.decDigits (numD 0 l) = l := by
    intro k
    induction k with
    | zero => intro l hl _ hn; exact absurd (List.eq_nil_of_length_eq_zero hl) hn
    | succ k ih =>
      intro l hl ha hn hh
      obtain ⟨p, b, rfl⟩ : ∃ p b, l = p ++ [b] := ⟨l.dropLast, l.getLast hn, (List.dropLast_concat_getLast hn).symm⟩
      rw [List.all_append, Bool.and_eq_true] at ha
      have hb : 48 ≤ b.toNat ∧ b.toNat ≤ 57 := by simpa [digN] using ha.2
      have hbe : UInt8.ofNat (48 + (b.toNat - 48)) = b := by rw [show 48 + (b.toNat - 48) = b.toNat by omega]; simp
      rw [numD_snoc]
      cases p with
      | nil =>
        rw [numD_nil, List.nil_append, Nat.zero_mul, Nat.zero_add, Lib.decDigits_one (by omega), hbe]
      | cons c r =>
        have hc : c ≠ 48 := by
          rcases hh with hh | hh
          · simpa using hh
          · simp at hh
        have hcd : 48 ≤ c.toNat ∧ c.toNat ≤ 57 := by
          have := ha.1
          simp only [List.all_cons, Bool.and_eq_true, digN, decide_eq_true_eq] at this
          exact this.1
        have hc1 : 49 ≤ c.toNat := by
          rcases Nat.lt_or_ge 48 c.toNat with h | h
          · exact h
          · exact absurd (UInt8.toNat_inj.1 (show c.toNat = (48 : UInt8).toNat by have h48 : (48 : UInt8).toNat = 48 := rfl; omega)) hc
        have hi := ih (c :: r) (by simpa using hl) ha.1 (by simp) (.inl (by simpa using hc))
        have hge : 1 ≤ numD 0 (c :: r) := by rw [numD_cons]; exact Nat.le_trans (by unfold dstep; omega) (numD_ge r _)
        rw [Lib.decDigits, dif_neg (by omega), show (numD 0 (c :: r) * 10 + (b.toNat - 48)) / 10 = numD 0 (c :: r) by omega, show (numD 0 (c :: r) * 10 + (b.toNat - 48)) % 10 = b.toNat - 48 by omega, hi, hbe]
  exact fun l => gen l.length l rfl
theorem dlen : ∀ (k u : Nat), u < 10 ^ k → 1 ≤ k → Lib.nDigits u ≤ k
  | 0, _, _, h => by omega
  | k + 1, u, hk, _ => by
    by_cases h10 : u < 10
    · rw [Lib.nDigits_small h10]; omega
    · rw [Lib.nDigits_big h10]
      have hq : u / 10 < 10 ^ k := by rw [Nat.pow_succ] at hk; omega
      have hk1 : 1 ≤ k := by
        cases k with
        | zero => simp at hq; omega
        | succ k => omega
      have := dlen k (u / 10) hq hk1
      omega
theorem dec_len16 {u : Nat} (h : u < 10 ^ 16) : (Lib.decDigits u).length ≤ 16 := by
  rw [Lib.decDigits_length]
  exact dlen 16 u h (by omega)
theorem parseU (l : List UInt8) : ∀ (acc : Nat), l.all digN = true → numD acc l < 1000000000000000000 → Lib.parseUint10 acc l = .ok (numD acc l) := by
  induction l with
  | nil => intro acc _ _; rfl
  | cons b l ih =>
    intro acc ha hn
    rw [List.all_cons, Bool.and_eq_true] at ha
    have hb : 48 ≤ b.toNat ∧ b.toNat ≤ 57 := by simpa [digN] using ha.1
    have hge := numD_ge l (dstep acc b)
    rw [numD_cons] at hn ⊢
    have hd : acc * 10 + (b.toNat - 48) = dstep acc b := rfl
    have hlo : acc * 10 ≤ dstep acc b := by unfold dstep; omega
    rw [Lib.parseUint10, if_pos hb, if_neg (by omega), hd, if_neg (by omega)]
    exact ih _ ha.2 hn
theorem atoi_itoa (n : Int) (h : -1000000000000000 ≤ n ∧ n ≤ 1000000000000000) : Lib.atoiAll (Lib.itoa n) = .ok n := by
  have mag : ∀ u : Nat, u ≤ 1000000000000000 → Lib.parseMag (Lib.decDigits u) = .ok u := fun u hu => by
    obtain ⟨i1, i2, i3, _⟩ := dec_spec u
    unfold Lib.parseMag
    rw [if_neg i3, parseU _ 0 i2 (by rw [i1]; omega), i1]
  by_cases hn : n < 0
  · obtain ⟨u, rfl⟩ : ∃ u : Nat, n = -(u : Int) := ⟨n.natAbs, by omega⟩
    rw [Lib.itoa_neg u (by omega), Lib.atoiAll_minus, mag u (by omega)]
    simp only [Lib.signed]
    rw [if_neg (by omega)]
  · obtain ⟨u, rfl⟩ : ∃ u : Nat, n = (u : Int) := ⟨n.toNat, by omega⟩
    rw [Lib.itoa_nonneg]
    obtain ⟨i1, i2, i3, _⟩ := dec_spec u
    have hm := mag u (by omega)
    obtain ⟨c, r, hc⟩ := List.exists_cons_of_ne_nil i3
    rw [hc] at hm i2 ⊢
    simp only [List.all_cons, Bool.and_eq_true, digN, decide_eq_true_eq] at i2
    rw [Lib.atoiAll_plain c r (by omega) (by omega), hm]
    simp only [Lib.signless]
    rw [if_neg (by omega)]
/-- A numeral, as the reference reads it. -/
def parse2 (s : List UInt8) : Int × Bool :=
  let minus := s.head? == some 45
  let t := if minus then s.tail else s
  if inR t.length 1 16 = false ∨ (t.head? = some 48 ∧ ((1 : Int) < t.length ∨ minus = true)) ∨ t.all digN = false then (0, false) else (if minus then -(numD 0 t : Int) else numD 0 t, true)
theorem parse2_of {s t : List UInt8} {m : Bool} (hm : (s.head? == some 45) = m) (ht : t = if m then s.tail else s) :
    parse2 s = if inR t.length 1 16 = false ∨ (t.head? = some 48 ∧ ((1 : Int) < t.length ∨ m = true)) ∨ t.all digN = false then (0, false) else (if m then -(numD 0 t : Int) else numD 0 t, true) := by
  subst hm; subst ht; rfl
theorem parse2_itoa {s : List UInt8} (h : (parse2 s).2 = true) : Lib.itoa (parse2 s).1 = s := by
  cases hm : (s.head? == some 45)
  · have hpo := parse2_of hm (t := s) rfl
    by_cases hc : inR s.length 1 16 = false ∨ (s.head? = some 48 ∧ ((1 : Int) < s.length ∨ false = true)) ∨ s.all digN = false
    · rw [hpo, if_pos hc] at h; cases h
    rw [hpo, if_neg hc]
    simp only [not_or, not_and, inR, Bool.not_eq_false, Bool.and_eq_true, decide_eq_true_eq] at hc
    obtain ⟨h1, h2, h3⟩ := hc
    show Lib.itoa (numD 0 s : Int) = s
    rw [Lib.itoa_nonneg]
    refine dec_of s h3 (fun e => by subst e; simp at h1) ?_
    by_cases h48 : s.head? = some 48
    · have := h2 h48
      exact .inr (by omega)
    · exact .inl h48
  · obtain ⟨r, rfl⟩ : ∃ r, s = 45 :: r := by
      cases s with
      | nil => simp at hm
      | cons c r => simp at hm; exact ⟨r, by rw [hm]⟩
    have hpo := parse2_of hm (t := r) rfl
    by_cases hc : inR r.length 1 16 = false ∨ (r.head? = some 48 ∧ ((1 : Int) < r.length ∨ true = true)) ∨ r.all digN = false
    · rw [hpo, if_pos hc] at h; cases h
    rw [hpo, if_neg hc]
    simp only [not_or, not_and, inR, Bool.not_eq_false, Bool.and_eq_true, decide_eq_true_eq] at hc
    obtain ⟨h1, h2, h3⟩ := hc
    show Lib.itoa (-(numD 0 r : Int)) = 45 :: r
    have h48 : r.head? ≠ some 48 := fun e => (h2 e).2 trivial
    have hr : r ≠ [] := fun e => by subst e; simp at h1
    have hd := dec_of r h3 hr (.inl h48)
    have hpos : 1 ≤ numD 0 r := by
      obtain ⟨c, q, rfl⟩ := List.exists_cons_of_ne_nil hr
      simp only [List.head?_cons, ne_eq, Option.some.injEq] at h48
      simp only [List.all_cons, Bool.and_eq_true] at h3
      have hcd : 48 ≤ c.toNat ∧ c.toNat ≤ 57 := by simpa [digN] using h3.1
      have : 49 ≤ c.toNat := by
        rcases Nat.lt_or_ge 48 c.toNat with h | h
        · exact h
        · exact absurd (UInt8.toNat_inj.1 (show c.toNat = (48 : UInt8).toNat by have h48 : (48 : UInt8).toNat = 48 := rfl; omega)) h48
      rw [numD_cons]
      exact Nat.le_trans (by unfold dstep; omega) (numD_ge q _)
    rw [Lib.itoa_neg _ hpos, hd]
theorem itoa_parse2 (n : Int) (h : -1000000000000000 ≤ n ∧ n ≤ 1000000000000000) : parse2 (Lib.itoa n) = (n, true) := by
  by_cases hn : n < 0
  · obtain ⟨u, rfl⟩ : ∃ u : Nat, n = -(u : Int) := ⟨n.natAbs, by omega⟩
    rw [Lib.itoa_neg u (by omega)]
    obtain ⟨i1, i2, i3, i4⟩ := dec_spec u
    have hl := dec_len16 (u := u) (by omega)
    have hp := List.length_pos_iff.2 i3
    unfold parse2
    simp only [List.head?_cons, List.tail_cons, beq_self_eq_true, if_true]
    rw [if_neg, i1]
    simp only [not_or, not_and, inR, Bool.not_eq_false, Bool.and_eq_true, decide_eq_true_eq]
    exact ⟨by omega, fun e => absurd e (i4 (by omega)), i2⟩
  · obtain ⟨u, rfl⟩ : ∃ u : Nat, n = (u : Int) := ⟨n.toNat, by omega⟩
    rw [Lib.itoa_nonneg]
    obtain ⟨i1, i2, i3, i4⟩ := dec_spec u
    have hl := dec_len16 (u := u) (by omega)
    have hp := List.length_pos_iff.2 i3
    have hm : ((Lib.decDigits u).head? == some 45) = false := by
      obtain ⟨c, r, hc⟩ := List.exists_cons_of_ne_nil i3
      rw [hc] at i2 ⊢
      simp only [List.all_cons, Bool.and_eq_true, digN, decide_eq_true_eq] at i2
      simp only [List.head?_cons, beq_eq_false_iff_ne, ne_eq, Option.some.injEq]
      rintro rfl
      have h45 : (45 : UInt8).toNat = 45 := rfl
      omega
    unfold parse2
    simp only [hm, Bool.false_eq_true, if_false]
    rw [if_neg, i1]
    simp only [not_or, not_and, inR, Bool.not_eq_false, Bool.and_eq_true, decide_eq_true_eq]
    refine ⟨by omega, fun e => ⟨?_, by simp⟩, i2⟩
    by_cases h0 : 1 ≤ u
    · exact absurd e (i4 h0)
    · have : u = 0 := by omega
      subst this
      rw [Lib.decDigits_one (by omega)]
      simp
end Go.Proofs.Ytgjdkcjijmdfoaa.Eo
/- What the functions that FnExactEngOn calls answer: part 7. -/
namespace Go.Proofs.Ytgjdkcjijmdfoaa.Eo
open Go Go.RowKit Go.Ev
set_option linter.unusedSimpArgs false
set_option linter.unusedVariables false
set_option maxHeartbeats 1600000
theorem u8dig (d : Nat) (h : d < 10) : rowsBytes [[.int .u8 (IntKind.wrap .u8 (IntKind.wrap .i64 (48 + (d : Int))))]] = some [UInt8.ofNat (48 + d)] := by
  have h1 : IntKind.wrap .i64 (48 + (d : Int)) = 48 + (d : Int) := wrapId (by omega) (by omega)
  have h2 : IntKind.wrap .u8 (48 + (d : Int)) = 48 + (d : Int) := by
    simp [IntKind.wrap, IntKind.bits, IntKind.signed]
    omega
  rw [h1, h2]
  simp only [rowsBytes, rowByte, Option.bind_some, Option.map_some]
  congr 2
def mtext (k : Int) : List UInt8 := if k ≤ 0 then [109, 48] else 109 :: Lib.decDigits k.toNat
def mbool (k : Int) : Bool := k.tmod 3 == 0
def mbyte (k : Int) : UInt8 := UInt8.ofNat k.toNat
def mkE_int (_v k : Int) : Int := k
def cnE_int (_v : Int) : Nat := 1
def mkE_byte (_v : UInt8) (k : Int) : UInt8 := mbyte k
def cnE_byte (_v : UInt8) : Nat := 1
def mkE_string (_v : List UInt8) (k : Int) : List UInt8 := mtext k
def cnE_string (_v : List UInt8) : Nat := 1
theorem u8mark (k : Int) (h : 0 ≤ k) : IntKind.wrap .u8 k = ((mbyte k).toNat : Int) := by
  unfold mbyte
  rw [UInt8.toNat_ofNat']
  simp [IntKind.wrap, IntKind.bits, IntKind.signed]
  omega
theorem krem3 (k : Int) (h : Hp) : kBin .rem (.int .i64 k) (.int .i64 3) h = some (.int .i64 (k.tmod 3), h) := kBin_rem _ _ _ (by decide)
theorem mb3 (k : Int) : (k.tmod 3 == 0) = mbool k := rfl
def MkI {α : Type} (mk : α → Int → α) (cnt : α → Nat) : Prop := ∀ v k, mk (mk v k) k = mk v k ∧ cnt (mk v k) = cnt v
theorem mkL_idem {α : Type} {mk : α → Int → α} {cnt : α → Nat} (h : MkI mk cnt) : MkI (mkL mk cnt) (cntL cnt) := by
  intro l
  induction l with
  | nil => intro k; exact ⟨rfl, rfl⟩
  | cons v l ih =>
    intro k
    obtain ⟨h1, h2⟩ := h v k
    obtain ⟨i1, i2⟩ := ih (k + cnt v)
    exact ⟨by simp only [mkL, h1, h2, i1], by simp only [mkL, cntL, h2, i2]⟩
def MkF {α : Type} (T : TD α) (mk : α → Int → α) (cnt : α → Nat) : Prop := ∀ v k, T.fits v → 0 ≤ k → k + ((cnt v : Nat) : Int) ≤ 4611686018427387904 → T.fits (mk v k)
theorem mkL_fits {α : Type} {T : TD α} {mk : α → Int → α} {cnt : α → Nat} (h : MkF T mk cnt) : MkF (sliceT T) (mkL mk cnt) (cntL cnt) := by
  intro l k hf hk hk2
  refine ⟨by rw [mkL_len]; exact hf.1, ?_⟩
  have hf2 := hf.2
  clear hf
  induction l generalizing k with
  | nil => intro v hv; cases hv
  | cons v l ih =>
    simp only [cntL] at hk2
    intro u hu
    rcases List.mem_cons.1 hu with rfl | hu
    · exact h v k (hf2 v List.mem_cons_self) hk (by omega)
    · exact ih (k + cnt v) (by omega) (by omega) (fun w hw => hf2 w (List.mem_cons_of_mem _ hw)) u hu
theorem mtext_len (k : Int) (h0 : 0 ≤ k) (h1 : k ≤ 4611686018427387904) : (mtext k).length ≤ 9223372036854775807 := by
  unfold mtext
  split
  · decide
  · obtain ⟨u, rfl⟩ : ∃ u : Nat, k = (u : Int) := ⟨k.toNat, by omega⟩
    have := Lib.itoa_length_le (u : Int) (by omega) (by omega)
    rw [Lib.itoa_nonneg] at this
    rw [Int.toNat_natCast, List.length_cons]
    omega
theorem mi_int : MkI mkE_int cnE_int := fun _ _ => ⟨rfl, rfl⟩
theorem mi_byte : MkI mkE_byte cnE_byte := fun _ _ => ⟨rfl, rfl⟩
theorem mi_string : MkI mkE_string cnE_string := fun _ _ => ⟨rfl, rfl⟩
theorem mf_int : MkF intT mkE_int cnE_int := fun _ _ _ _ _ => trivial
theorem mf_byte : MkF u8T mkE_byte cnE_byte := fun _ _ _ _ _ => trivial
theorem mf_string : MkF strT mkE_string cnE_string := fun v k _ h0 h1 => mtext_len k h0 (by simp only [cnE_string] at h1; omega)
noncomputable def C_laws_markText := c1 intT (fun (k : Int) => 0 ≤ k ∧ k ≤ 4611686018427387904) (.str) fun (k : Int) => mtext k
theorem C_laws_markText_eq (k : Int) (h : 0 ≤ k ∧ k ≤ 4611686018427387904) : C_laws_markText [.int .i64 k] = some (.str ((mtext k))) := c1_eq intT h
theorem L_laws_markText (cs) (K : Nat) (hK : K ≤ 4611686018427387904) : ∀ (fuel u : Nat) (out : List UInt8) (e : Ps) (h : Hp), u ≤ fuel → u ≤ K → (0 < u → out.length + (Lib.decDigits u).length ≤ 30) → (0 < u → Lib.decDigits u ++ out = Lib.decDigits K) → (u = 0 → out = Lib.decDigits K) → e 0 = .int .i64 (u : Int) → e 3 = .str out →
    WL (EE cs) s_laws_markText_L0 e h fun x e' h' => x = .exit 0 ∧ e' 3 = .str (Lib.decDigits K)
  | fuel, 0, out, e, h, hf, huK, hl, h1, h2, h0, h3 => by
    refine .step (.sim ?_)
    have he := h2 rfl
    subst he
    simp only [go_sem, kSt_ptr, Nat.reduceBEq, Nat.reduceAdd, Nat.reduceEqDiff, Nat.reduceLeDiff, Nat.reduceSub, reduceIte, Int.reduceBEq, Int.reduceEq, Int.reduceLT, Int.reduceLE, Int.reduceGT, Int.reduceGE, Int.reduceNe, Int.reduceBNe, s_laws_markText_L0, h0, h3, Int.lt_irrefl]
  | 0, u + 1, out, e, h, hf, huK, hl, h1, h2, h0, h3 => by omega
  | fuel + 1, u + 1, out, e, h, hf, huK, hl, h1, h2, h0, h3 => by
    have hpos : (0 : Int) < ((u + 1 : Nat) : Int) := by omega
    have hd := u8dig ((u + 1) % 10) (Nat.mod_lt _ (by omega))
    have eq : IntKind.wrap .i64 (((u + 1 : Nat) : Int).tdiv 10) = (((u + 1) / 10 : Nat) : Int) := by
      rw [show ((u + 1 : Nat) : Int).tdiv 10 = (((u + 1) / 10 : Nat) : Int) from rfl]
      exact wrapId (by omega) (by omega)
    have er : ((u + 1 : Nat) : Int).tmod 10 = (((u + 1) % 10 : Nat) : Int) := rfl
    have kq : ∀ h, kBin .quo (.int .i64 ((u + 1 : Nat) : Int)) (.int .i64 10) h = some (.int .i64 (((u + 1) / 10 : Nat) : Int), h) := fun h => by rw [kBin_quo _ _ _ (by decide), eq]
    have kr : ∀ h, kBin .rem (.int .i64 ((u + 1 : Nat) : Int)) (.int .i64 10) h = some (.int .i64 (((u + 1) % 10 : Nat) : Int), h) := fun h => by rw [kBin_rem _ _ _ (by decide), er]
    have hl := hl (by omega)
    have hdl : 1 ≤ (Lib.decDigits (u + 1)).length := List.length_pos_iff.2 (dec_spec _).2.2.1
    have hc : ∀ h, kBin .add (.str [UInt8.ofNat (48 + (u + 1) % 10)]) (.str out) h = some (.str (UInt8.ofNat (48 + (u + 1) % 10) :: out), h) := fun h => kCat (by simp; omega)
    refine .step (.mono (.sim (Q := fun x e1 h1 => x = .norm ∧ e1 0 = .int .i64 (((u + 1) / 10 : Nat) : Int) ∧ e1 3 = .str (UInt8.ofNat (48 + (u + 1) % 10) :: out)) ?_) ?_)
    · simp only [go_sem, kSt_ptr, Nat.reduceBEq, Nat.reduceAdd, Nat.reduceEqDiff, Nat.reduceLeDiff, Nat.reduceSub, reduceIte, Int.reduceBEq, Int.reduceEq, Int.reduceLT, Int.reduceLE, Int.reduceGT, Int.reduceGE, Int.reduceNe, Int.reduceBNe, s_laws_markText_L0, h0, h3, hpos, kq, kr, hc, hd, fillR, List.replicate, frzRows, notStr, rowsIn, isAggV, List.set, Nat.reduceLT, Nat.lt_irrefl, Bool.not_false, Bool.true_or, Option.some.injEq, List.set_cons_zero]
    · rintro _ e1 h1' ⟨rfl, k0, k3⟩
      have hsplit : ∀ hq : 0 < (u + 1) / 10, Lib.decDigits (u + 1) = Lib.decDigits ((u + 1) / 10) ++ [UInt8.ofNat (48 + (u + 1) % 10)] := fun hq => by rw [Lib.decDigits, dif_neg (by omega)]
      refine L_laws_markText cs K hK fuel ((u + 1) / 10) _ e1 h1' (by omega) (by omega) ?_ (fun hq => ?_) (fun hq => ?_) k0 k3
      · intro hq
        have := congrArg List.length (hsplit hq)
        rw [List.length_append] at this
        simp at this ⊢
        omega
      · rw [← h1 (by omega), hsplit hq, List.append_assoc]
        rfl
      · rw [← h1 (by omega), Lib.decDigits_one (show u + 1 < 10 by omega), Nat.mod_eq_of_lt (by omega)]
        rfl
theorem ok_laws_markText {WI : World → Prop} (hs : Stable WI) (cs) (hT : TOK (EE cs) WI) : PureOK Try.prog WI 41 C_laws_markText := by
  refine pure1 (E := EE cs) hT hs (by rw [st_laws_markText]; rfl) fun k hp => out_wp (n := 0) (st_laws_markText cs) ?_
  obtain ⟨h0, h1⟩ := hp
  by_cases hz : k ≤ 0
  · have : k = 0 := by omega
    subst this
    simp only [go_sem, kSt_ptr, Nat.reduceBEq, Nat.reduceAdd, Nat.reduceEqDiff, Nat.reduceLeDiff, Nat.reduceSub, reduceIte, Int.reduceBEq, Int.reduceEq, Int.reduceLT, Int.reduceLE, Int.reduceGT, Int.reduceGE, Int.reduceNe, Int.reduceBNe, s_laws_markText, mtext]
  obtain ⟨u, rfl⟩ : ∃ u : Nat, k = (u : Int) := ⟨k.toNat, by omega⟩
  have hlen : (Lib.decDigits u).length ≤ 21 := by
    have := Lib.itoa_length_le (u : Int) (by omega) (by omega)
    rwa [Lib.itoa_nonneg] at this
  simp only [go_sem, kSt_ptr, Nat.reduceBEq, Nat.reduceAdd, Nat.reduceEqDiff, Nat.reduceLeDiff, Nat.reduceSub, reduceIte, Int.reduceBEq, Int.reduceEq, Int.reduceLT, Int.reduceLE, Int.reduceGT, Int.reduceGE, Int.reduceNe, Int.reduceBNe, s_laws_markText, hz]
  refine (L_laws_markText cs u (by omega) u u [] _ _ (Nat.le_refl _) (Nat.le_refl _) (fun _ => by simp; omega) (fun _ => by simp) (fun e => by omega) (by simp only [go_sem, kSt_ptr, Nat.reduceBEq, Nat.reduceAdd, Nat.reduceEqDiff, Nat.reduceLeDiff, Nat.reduceSub, reduceIte, Int.reduceBEq, Int.reduceEq, Int.reduceLT, Int.reduceLE, Int.reduceGT, Int.reduceGE, Int.reduceNe, Int.reduceBNe]) (by simp only [go_sem, kSt_ptr, Nat.reduceBEq, Nat.reduceAdd, Nat.reduceEqDiff, Nat.reduceLeDiff, Nat.reduceSub, reduceIte, Int.reduceBEq, Int.reduceEq, Int.reduceLT, Int.reduceLE, Int.reduceGT, Int.reduceGE, Int.reduceNe, Int.reduceBNe])).mono ?_
  rintro x e' h' ⟨rfl, j3⟩
  have hc : ∀ h, kBin .add (.str [109]) (.str (Lib.decDigits u)) h = some (.str (109 :: Lib.decDigits u), h) := fun h => kCat (by simp; omega)
  simp only [go_sem, kSt_ptr, Nat.reduceBEq, Nat.reduceAdd, Nat.reduceEqDiff, Nat.reduceLeDiff, Nat.reduceSub, reduceIte, Int.reduceBEq, Int.reduceEq, Int.reduceLT, Int.reduceLE, Int.reduceGT, Int.reduceGE, Int.reduceNe, Int.reduceBNe, j3, hc, mtext, hz, Int.toNat_natCast]
theorem cntL_le {α : Type} {T : TD α} {cnt : α → Nat} (h : ∀ v, cnt v ≤ 10 * (1 + T.cost v)) : ∀ l : List α, cntL cnt l ≤ 10 * (sliceT T).cost l := by
  intro l
  induction l with
  | nil => exact Nat.zero_le _
  | cons v l ih =>
    have h1 := h v
    have h2 : (sliceT T).cost l = l.length + costL T l := rfl
    have h3 : (sliceT T).cost (v :: l) = (l.length + 1) + (T.cost v + costL T l) := rfl
    simp only [cntL]
    omega
theorem cb_byte (v : UInt8) : cnE_byte v ≤ 10 * (1 + u8T.cost v) := by unfold cnE_byte; omega
theorem cb_int (v : Int) : cnE_int v ≤ 10 * (1 + intT.cost v) := by unfold cnE_int; omega
theorem cb_string (v : List UInt8) : cnE_string v ≤ 10 * (1 + strT.cost v) := by unfold cnE_string; omega
def mkE_Col (v : TCol) (k : Int) : TCol := ⟨mtext (k), k + 1, mbool (k + 1 + 1)⟩
def cnE_Col (v : TCol) : Nat := 3
theorem mi_Col : MkI mkE_Col cnE_Col := fun v k => by
  constructor
  · simp only [mkE_Col]
  · simp only [mkE_Col, cnE_Col]
theorem mf_Col : MkF tCol mkE_Col cnE_Col := fun v k hf h0 h1 => by
  unfold cnE_Col at h1
  exact mtext_len (k) (by omega) (by omega)
theorem cb_Col (v : TCol) : cnE_Col v ≤ 10 * (1 + tCol.cost v) := by
  have hcost : tCol.cost v = v.fName.length := rfl
  unfold cnE_Col
  omega
theorem mb_laws_markColS (cs) (h_laws_markText : (EE cs).T 41 = some C_laws_markText) : MkB (EE cs) b_laws_markColS tCol mkE_Col cnE_Col := by
  intro m e h r len i k A c B v R e0 e5 e1 hr hA hi hc hd hnd hrR hlt hrn hf hk hk2
  obtain ⟨c0, c1, c2, rfl⟩ := len3 hc
  replace e0 : e 0 = .sl r 0 len 3 := e0
  replace hA : A.length = i * 3 := hA
  replace hr : h.hp r = some (A ++ c0 :: c1 :: c2 :: B) := hr
  replace hd : dfzL (dfz m h) [c0, c1, c2] = some ([.str v.fName, .int .i64 v.fType, .bool v.fNull], R) := hd
  obtain ⟨R0, S0, d0, hd0, rfl⟩ := dfzL_cons_inv hd
  obtain ⟨rfl, rfl⟩ := dfz_str d0
  obtain ⟨R1, S1, d1, hd1, rfl⟩ := dfzL_cons_inv hd0
  obtain ⟨rfl, rfl⟩ := dfz_int d1
  obtain ⟨R2, S2, d2, hd2, rfl⟩ := dfzL_cons_inv hd1
  obtain ⟨rfl, rfl⟩ := dfz_bool d2
  obtain ⟨_, rfl⟩ := dfzL_nil_inv hd2
  simp only [List.nil_append, List.append_nil] at hnd hrR hlt ⊢
  unfold cnE_Col at hk2
  have hcn : k + ((cnE_Col v : Nat) : Int) = k + 1 + 1 + 1 := by unfold cnE_Col; omega
  have w0 : IntKind.wrap .i64 (k + 1) = k + 1 := wrapId (by omega) (by omega)
  have x0 := C_laws_markText_eq (k) (by omega)
  have w1 : IntKind.wrap .i64 (k + 1 + 1) = k + 1 + 1 := wrapId (by omega) (by omega)
  have w2 : IntKind.wrap .i64 (k + 1 + 1 + 1) = k + 1 + 1 + 1 := wrapId (by omega) (by omega)
  have ia := fun h => kIa_mid (r := r) (h := h) hA hi
  have dl : decide ((i : Int) < (len : Int)) = true := decide_eq_true (by omega)
  simp only [go_sem, kSt_ptr, Nat.reduceBEq, Nat.reduceAdd, Nat.reduceEqDiff, Nat.reduceLeDiff, Nat.reduceSub, reduceIte, Int.reduceBEq, Int.reduceEq, Int.reduceLT, Int.reduceLE, Int.reduceGT, Int.reduceGE, Int.reduceNe, Int.reduceBNe, b_laws_markColS, w0, x0, w1, w2, mb3, krem3, h_laws_markText, e0, e5, e1, ia, hr]
  refine ⟨rfl, by rw [hcn], [.str (mtext (k)), .int .i64 (k + 1), .bool (mbool (k + 1 + 1))], rfl, rfl, ?_, fun q hq hqr _ => by simp [hqr]⟩
  exact dfzL_leafs fun c hc => by
    simp only [List.mem_cons, List.not_mem_nil, or_false] at hc
    rcases hc with rfl | rfl | rfl <;> rfl
theorem mk_laws_markColS (cs) (h_laws_markText : (EE cs).T 41 = some C_laws_markText) : MkS (EE cs) 42 (sliceT tCol) (mkL mkE_Col cnE_Col) (cntL cnE_Col) := mkS_ok (st_laws_markColS cs) (by decide) (mb_laws_markColS cs h_laws_markText)
def mkE_By (v : TBy) (k : Int) : TBy := ⟨k, mbool (k + 1)⟩
def cnE_By (v : TBy) : Nat := 2
theorem mi_By : MkI mkE_By cnE_By := fun v k => by
  constructor
  · simp only [mkE_By]
  · simp only [mkE_By, cnE_By]
theorem mf_By : MkF tBy mkE_By cnE_By := fun v k hf h0 h1 => by
  exact trivial
theorem cb_By (v : TBy) : cnE_By v ≤ 10 * (1 + tBy.cost v) := by
  have hcost : tBy.cost v = 0 := rfl
  unfold cnE_By
  omega
theorem mb_laws_markByS (cs)  : MkB (EE cs) b_laws_markByS tBy mkE_By cnE_By := by
  intro m e h r len i k A c B v R e0 e5 e1 hr hA hi hc hd hnd hrR hlt hrn hf hk hk2
  obtain ⟨c0, c1, rfl⟩ := len2 hc
  replace e0 : e 0 = .sl r 0 len 2 := e0
  replace hA : A.length = i * 2 := hA
  replace hr : h.hp r = some (A ++ c0 :: c1 :: B) := hr
  replace hd : dfzL (dfz m h) [c0, c1] = some ([.int .i64 v.fCol, .bool v.fDesc], R) := hd
  obtain ⟨R0, S0, d0, hd0, rfl⟩ := dfzL_cons_inv hd
  obtain ⟨rfl, rfl⟩ := dfz_int d0
  obtain ⟨R1, S1, d1, hd1, rfl⟩ := dfzL_cons_inv hd0
  obtain ⟨rfl, rfl⟩ := dfz_bool d1
  obtain ⟨_, rfl⟩ := dfzL_nil_inv hd1
  simp only [List.nil_append, List.append_nil] at hnd hrR hlt ⊢
  unfold cnE_By at hk2
  have hcn : k + ((cnE_By v : Nat) : Int) = k + 1 + 1 := by unfold cnE_By; omega
  have w0 : IntKind.wrap .i64 (k + 1) = k + 1 := wrapId (by omega) (by omega)
  have w1 : IntKind.wrap .i64 (k + 1 + 1) = k + 1 + 1 := wrapId (by omega) (by omega)
  have ia := fun h => kIa_mid (r := r) (h := h) hA hi
  have dl : decide ((i : Int) < (len : Int)) = true := decide_eq_true (by omega)
  simp only [go_sem, kSt_ptr, Nat.reduceBEq, Nat.reduceAdd, Nat.reduceEqDiff, Nat.reduceLeDiff, Nat.reduceSub, reduceIte, Int.reduceBEq, Int.reduceEq, Int.reduceLT, Int.reduceLE, Int.reduceGT, Int.reduceGE, Int.reduceNe, Int.reduceBNe, b_laws_markByS, w0, w1, mb3, krem3, e0, e5, e1, ia, hr]
  refine ⟨rfl, by rw [hcn], [.int .i64 (k), .bool (mbool (k + 1))], rfl, rfl, ?_, fun q hq hqr _ => by simp [hqr]⟩
  exact dfzL_leafs fun c hc => by
    simp only [List.mem_cons, List.not_mem_nil, or_false] at hc
    rcases hc with rfl | rfl <;> rfl
theorem mk_laws_markByS (cs)  : MkS (EE cs) 43 (sliceT tBy) (mkL mkE_By cnE_By) (cntL cnE_By) := mkS_ok (st_laws_markByS cs) (by decide) (mb_laws_markByS cs)
def mkE_Index (v : TIndex) (k : Int) : TIndex := ⟨mtext (k), mbool (k + 1), (mkL mkE_By cnE_By) v.fParts (k + 1 + 1)⟩
def cnE_Index (v : TIndex) : Nat := 2 + (cntL cnE_By) v.fParts
theorem mi_Index : MkI mkE_Index cnE_Index := fun v k => by
  constructor
  · simp only [mkE_Index, ((mkL_idem mi_By) _ _).1, ((mkL_idem mi_By) _ _).2]
  · simp only [mkE_Index, cnE_Index, ((mkL_idem mi_By) _ _).1, ((mkL_idem mi_By) _ _).2]
theorem mf_Index : MkF tIndex mkE_Index cnE_Index := fun v k hf h0 h1 => by
  unfold cnE_Index at h1
  exact ⟨mtext_len (k) (by omega) (by omega), (mkL_fits mf_By) v.fParts (k + 1 + 1) (by exact hf.2) (by omega) (by omega)⟩
theorem cb_Index (v : TIndex) : cnE_Index v ≤ 10 * (1 + tIndex.cost v) := by
  have hcost : tIndex.cost v = v.fName.length + (sliceT tBy).cost v.fParts := rfl
  have q_Parts := cntL_le (T := tBy) cb_By v.fParts
  unfold cnE_Index
  omega
theorem mb_laws_markIndexS (cs) (h_laws_markText : (EE cs).T 41 = some C_laws_markText) (m_laws_markByS : MkS (EE cs) 43 (sliceT tBy) (mkL mkE_By cnE_By) (cntL cnE_By)) : MkB (EE cs) b_laws_markIndexS tIndex mkE_Index cnE_Index := by
  intro m e h r len i k A c B v R e0 e5 e1 hr hA hi hc hd hnd hrR hlt hrn hf hk hk2
  obtain ⟨c0, c1, c2, rfl⟩ := len3 hc
  replace e0 : e 0 = .sl r 0 len 3 := e0
  replace hA : A.length = i * 3 := hA
  replace hr : h.hp r = some (A ++ c0 :: c1 :: c2 :: B) := hr
  replace hd : dfzL (dfz m h) [c0, c1, c2] = some ([.str v.fName, .bool v.fUnique, .imm (v.fParts.map TBy.row)], R) := hd
  obtain ⟨R0, S0, d0, hd0, rfl⟩ := dfzL_cons_inv hd
  obtain ⟨rfl, rfl⟩ := dfz_str d0
  obtain ⟨R1, S1, d1, hd1, rfl⟩ := dfzL_cons_inv hd0
  obtain ⟨rfl, rfl⟩ := dfz_bool d1
  obtain ⟨R2, S2, d2, hd2, rfl⟩ := dfzL_cons_inv hd1
  obtain ⟨_, rfl⟩ := dfzL_nil_inv hd2
  simp only [List.nil_append, List.append_nil] at hnd hrR hlt ⊢
  unfold cnE_Index at hk2
  have hcn : k + ((cnE_Index v : Nat) : Int) = k + 1 + 1 + (((cntL cnE_By) v.fParts : Nat) : Int) := by unfold cnE_Index; omega
  have w0 : IntKind.wrap .i64 (k + 1) = k + 1 := wrapId (by omega) (by omega)
  have x0 := C_laws_markText_eq (k) (by omega)
  have w1 : IntKind.wrap .i64 (k + 1 + 1) = k + 1 + 1 := wrapId (by omega) (by omega)
  have ia := fun h => kIa_mid (r := r) (h := h) hA hi
  have dl : decide ((i : Int) < (len : Int)) = true := decide_eq_true (by omega)
  have hin : (∀ q ∈ R2, q < h.nx ∧ q ≠ r) := by
    exact fun q hq => ⟨hlt q hq, fun e => hrR (e ▸ hq)⟩
  have hin2 := hin
  have nd2 := hnd
  simp only [go_sem, kSt_ptr, Nat.reduceBEq, Nat.reduceAdd, Nat.reduceEqDiff, Nat.reduceLeDiff, Nat.reduceSub, reduceIte, Int.reduceBEq, Int.reduceEq, Int.reduceLT, Int.reduceLE, Int.reduceGT, Int.reduceGE, Int.reduceNe, Int.reduceBNe, b_laws_markIndexS, w0, x0, w1, mb3, krem3, h_laws_markText, e0, e5, e1, ia, hr]
  refine hP_markC (m := m) m_laws_markByS (by exact hf.2) (by omega) (by omega) (R := R2) ?_ nd2 ?_ ?_
  · exact dfz_frame (S := R2) (fun q hq => by simp [(hin2 q hq).2]) m d2 fun _ hq => hq
  · exact fun q hq => (hin2 q hq).1
  intro h2 z2 p2 n2
  have b2 : h2.hp r = some (A ++ .str (mtext (k)) :: .bool (mbool (k + 1)) :: c2 :: B) := (p2 r hrn fun hx => (hin2 r hx).2 rfl).trans (if_pos rfl)
  simp only [go_sem, kSt_ptr, Nat.reduceBEq, Nat.reduceAdd, Nat.reduceEqDiff, Nat.reduceLeDiff, Nat.reduceSub, reduceIte, Int.reduceBEq, Int.reduceEq, Int.reduceLT, Int.reduceLE, Int.reduceGT, Int.reduceGE, Int.reduceNe, Int.reduceBNe, b_laws_markIndexS, w0, x0, w1, mb3, krem3, h_laws_markText, e0, e5, e1, ia, b2]
  first
    | refine ⟨rfl, by rw [hcn], [.str (mtext (k)), .bool (mbool (k + 1)), c2], rfl, rfl, ?_, fun q hq hqr hqR => ?_, n2⟩
    | refine ⟨[.str (mtext (k)), .bool (mbool (k + 1)), c2], rfl, rfl, ?_, fun q hq hqr hqR => ?_, n2⟩
    | refine ⟨rfl, [.str (mtext (k)), .bool (mbool (k + 1)), c2], rfl, rfl, ?_, fun q hq hqr hqR => ?_, n2⟩
  · have hz : dfzL (dfz m h2) [.str (mtext (k)), .bool (mbool (k + 1)), c2] = _ := (dfzL_cons (dfz_str' _) (dfzL_cons (dfz_bool' _) (dfzL_cons z2 rfl)))
    simp only [List.nil_append, List.append_nil] at hz
    exact hz
  · skip
    exact (p2 q hq hqR).trans (by simp [hqr])
theorem mk_laws_markIndexS (cs) (h_laws_markText : (EE cs).T 41 = some C_laws_markText) (m_laws_markByS : MkS (EE cs) 43 (sliceT tBy) (mkL mkE_By cnE_By) (cntL cnE_By)) : MkS (EE cs) 44 (sliceT tIndex) (mkL mkE_Index cnE_Index) (cntL cnE_Index) := mkS_ok (st_laws_markIndexS cs) (by decide) (mb_laws_markIndexS cs h_laws_markText m_laws_markByS)
end Go.Proofs.Ytgjdkcjijmdfoaa.Eo
/- What the functions that FnExactEngOn calls answer: part 8. -/
namespace Go.Proofs.Ytgjdkcjijmdfoaa.Eo
open Go Go.RowKit Go.Ev
set_option linter.unusedSimpArgs false
set_option linter.unusedVariables false
set_option maxHeartbeats 1600000
def mkE_Def (v : TDef) (k : Int) : TDef := ⟨mtext (k), (mkL mkE_Col cnE_Col) v.fCols (k + 1), (mkL mkE_By cnE_By) v.fPrimary (k + 1 + (((cntL cnE_Col) v.fCols : Nat) : Int)), (mkL mkE_Index cnE_Index) v.fIndexes (k + 1 + (((cntL cnE_Col) v.fCols : Nat) : Int) + (((cntL cnE_By) v.fPrimary : Nat) : Int))⟩
def cnE_Def (v : TDef) : Nat := 1 + (cntL cnE_Col) v.fCols + (cntL cnE_By) v.fPrimary + (cntL cnE_Index) v.fIndexes
theorem mi_Def : MkI mkE_Def cnE_Def := fun v k => by
  constructor
  · simp only [mkE_Def, ((mkL_idem mi_Col) _ _).1, ((mkL_idem mi_Col) _ _).2, ((mkL_idem mi_By) _ _).1, ((mkL_idem mi_By) _ _).2, ((mkL_idem mi_Index) _ _).1, ((mkL_idem mi_Index) _ _).2]
  · simp only [mkE_Def, cnE_Def, ((mkL_idem mi_Col) _ _).1, ((mkL_idem mi_Col) _ _).2, ((mkL_idem mi_By) _ _).1, ((mkL_idem mi_By) _ _).2, ((mkL_idem mi_Index) _ _).1, ((mkL_idem mi_Index) _ _).2]
theorem mf_Def : MkF tDef mkE_Def cnE_Def := fun v k hf h0 h1 => by
  unfold cnE_Def at h1
  exact ⟨mtext_len (k) (by omega) (by omega), (mkL_fits mf_Col) v.fCols (k + 1) (by exact hf.2.1) (by omega) (by omega), (mkL_fits mf_By) v.fPrimary (k + 1 + (((cntL cnE_Col) v.fCols : Nat) : Int)) (by exact hf.2.2.1) (by omega) (by omega), (mkL_fits mf_Index) v.fIndexes (k + 1 + (((cntL cnE_Col) v.fCols : Nat) : Int) + (((cntL cnE_By) v.fPrimary : Nat) : Int)) (by exact hf.2.2.2) (by omega) (by omega)⟩
theorem cb_Def (v : TDef) : cnE_Def v ≤ 10 * (1 + tDef.cost v) := by
  have hcost : tDef.cost v = v.fName.length + (sliceT tCol).cost v.fCols + (sliceT tBy).cost v.fPrimary + (sliceT tIndex).cost v.fIndexes := rfl
  have q_Cols := cntL_le (T := tCol) cb_Col v.fCols
  have q_Primary := cntL_le (T := tBy) cb_By v.fPrimary
  have q_Indexes := cntL_le (T := tIndex) cb_Index v.fIndexes
  unfold cnE_Def
  omega
theorem mb_laws_markDefS (cs) (h_laws_markText : (EE cs).T 41 = some C_laws_markText) (m_laws_markColS : MkS (EE cs) 42 (sliceT tCol) (mkL mkE_Col cnE_Col) (cntL cnE_Col)) (m_laws_markByS : MkS (EE cs) 43 (sliceT tBy) (mkL mkE_By cnE_By) (cntL cnE_By)) (m_laws_markIndexS : MkS (EE cs) 44 (sliceT tIndex) (mkL mkE_Index cnE_Index) (cntL cnE_Index)) : MkB (EE cs) b_laws_markDefS tDef mkE_Def cnE_Def := by
  intro m e h r len i k A c B v R e0 e5 e1 hr hA hi hc hd hnd hrR hlt hrn hf hk hk2
  obtain ⟨c0, c1, c2, c3, rfl⟩ := len4 hc
  replace e0 : e 0 = .sl r 0 len 4 := e0
  replace hA : A.length = i * 4 := hA
  replace hr : h.hp r = some (A ++ c0 :: c1 :: c2 :: c3 :: B) := hr
  replace hd : dfzL (dfz m h) [c0, c1, c2, c3] = some ([.str v.fName, .imm (v.fCols.map TCol.row), .imm (v.fPrimary.map TBy.row), .imm (v.fIndexes.map TIndex.row)], R) := hd
  obtain ⟨R0, S0, d0, hd0, rfl⟩ := dfzL_cons_inv hd
  obtain ⟨rfl, rfl⟩ := dfz_str d0
  obtain ⟨R1, S1, d1, hd1, rfl⟩ := dfzL_cons_inv hd0
  obtain ⟨R2, S2, d2, hd2, rfl⟩ := dfzL_cons_inv hd1
  obtain ⟨R3, S3, d3, hd3, rfl⟩ := dfzL_cons_inv hd2
  obtain ⟨_, rfl⟩ := dfzL_nil_inv hd3
  simp only [List.nil_append, List.append_nil] at hnd hrR hlt ⊢
  unfold cnE_Def at hk2
  have hcn : k + ((cnE_Def v : Nat) : Int) = k + 1 + (((cntL cnE_Col) v.fCols : Nat) : Int) + (((cntL cnE_By) v.fPrimary : Nat) : Int) + (((cntL cnE_Index) v.fIndexes : Nat) : Int) := by unfold cnE_Def; omega
  have w0 : IntKind.wrap .i64 (k + 1) = k + 1 := wrapId (by omega) (by omega)
  have x0 := C_laws_markText_eq (k) (by omega)
  have ia := fun h => kIa_mid (r := r) (h := h) hA hi
  have dl : decide ((i : Int) < (len : Int)) = true := decide_eq_true (by omega)
  have hin : (∀ q ∈ R1, q < h.nx ∧ q ≠ r) ∧ (∀ q ∈ R2, q < h.nx ∧ q ≠ r) ∧ (∀ q ∈ R3, q < h.nx ∧ q ≠ r) := by
    exact ⟨fun q hq => ⟨hlt q (List.mem_append.2 (.inl hq)), fun e => hrR (e ▸ (List.mem_append.2 (.inl hq)))⟩, fun q hq => ⟨hlt q (List.mem_append.2 (.inr (List.mem_append.2 (.inl hq)))), fun e => hrR (e ▸ (List.mem_append.2 (.inr (List.mem_append.2 (.inl hq)))))⟩, fun q hq => ⟨hlt q (List.mem_append.2 (.inr (List.mem_append.2 (.inr hq)))), fun e => hrR (e ▸ (List.mem_append.2 (.inr (List.mem_append.2 (.inr hq)))))⟩⟩
  obtain ⟨hin1, hin2, hin3⟩ := hin
  obtain ⟨nd1, ndr0, dj1⟩ := List.nodup_append.1 hnd
  obtain ⟨nd2, ndr1, dj2⟩ := List.nodup_append.1 ndr0
  have nd3 := ndr1
  simp only [go_sem, kSt_ptr, Nat.reduceBEq, Nat.reduceAdd, Nat.reduceEqDiff, Nat.reduceLeDiff, Nat.reduceSub, reduceIte, Int.reduceBEq, Int.reduceEq, Int.reduceLT, Int.reduceLE, Int.reduceGT, Int.reduceGE, Int.reduceNe, Int.reduceBNe, b_laws_markDefS, w0, x0, h_laws_markText, e0, e5, e1, ia, hr]
  refine hP_markC (m := m) m_laws_markColS (by exact hf.2.1) (by omega) (by omega) (R := R1) ?_ nd1 ?_ ?_
  · exact dfz_frame (S := R1) (fun q hq => by simp [(hin1 q hq).2]) m d1 fun _ hq => hq
  · exact fun q hq => (hin1 q hq).1
  intro h1 z1 p1 n1
  have b1 : h1.hp r = some (A ++ .str (mtext (k)) :: c1 :: c2 :: c3 :: B) := (p1 r hrn fun hx => (hin1 r hx).2 rfl).trans (if_pos rfl)
  simp only [go_sem, kSt_ptr, Nat.reduceBEq, Nat.reduceAdd, Nat.reduceEqDiff, Nat.reduceLeDiff, Nat.reduceSub, reduceIte, Int.reduceBEq, Int.reduceEq, Int.reduceLT, Int.reduceLE, Int.reduceGT, Int.reduceGE, Int.reduceNe, Int.reduceBNe, b_laws_markDefS, w0, x0, h_laws_markText, e0, e5, e1, ia, b1]
  refine hP_markC (m := m) m_laws_markByS (by exact hf.2.2.1) (by omega) (by omega) (R := R2) ?_ nd2 ?_ ?_
  · refine dfz_frame (S := R2) (fun q hq => ?_) m d2 fun _ hq => hq
    exact (p1 q (hin2 q hq).1 (fun hx => dj1 q hx q (List.mem_append.2 (.inl hq)) rfl)).trans (by simp [(hin2 q hq).2])
  · exact fun q hq => Nat.lt_of_lt_of_le (hin2 q hq).1 n1
  intro h2 z2 p2 n2
  have b2 : h2.hp r = some (A ++ .str (mtext (k)) :: c1 :: c2 :: c3 :: B) := (p2 r (Nat.lt_of_lt_of_le hrn n1) fun hx => (hin2 r hx).2 rfl).trans b1
  simp only [go_sem, kSt_ptr, Nat.reduceBEq, Nat.reduceAdd, Nat.reduceEqDiff, Nat.reduceLeDiff, Nat.reduceSub, reduceIte, Int.reduceBEq, Int.reduceEq, Int.reduceLT, Int.reduceLE, Int.reduceGT, Int.reduceGE, Int.reduceNe, Int.reduceBNe, b_laws_markDefS, w0, x0, h_laws_markText, e0, e5, e1, ia, b2]
  refine hP_markC (m := m) m_laws_markIndexS (by exact hf.2.2.2) (by omega) (by omega) (R := R3) ?_ nd3 ?_ ?_
  · refine dfz_frame (S := R3) (fun q hq => ?_) m d3 fun _ hq => hq
    exact ((p2 q (Nat.lt_of_lt_of_le (hin3 q hq).1 n1) (fun hx => dj2 q hx q hq rfl)).trans (p1 q (hin3 q hq).1 (fun hx => dj1 q hx q (List.mem_append.2 (.inr hq)) rfl))).trans (by simp [(hin3 q hq).2])
  · exact fun q hq => Nat.lt_of_lt_of_le (hin3 q hq).1 (Nat.le_trans n1 n2)
  intro h3 z3 p3 n3
  have b3 : h3.hp r = some (A ++ .str (mtext (k)) :: c1 :: c2 :: c3 :: B) := (p3 r (Nat.lt_of_lt_of_le hrn (Nat.le_trans n1 n2)) fun hx => (hin3 r hx).2 rfl).trans b2
  simp only [go_sem, kSt_ptr, Nat.reduceBEq, Nat.reduceAdd, Nat.reduceEqDiff, Nat.reduceLeDiff, Nat.reduceSub, reduceIte, Int.reduceBEq, Int.reduceEq, Int.reduceLT, Int.reduceLE, Int.reduceGT, Int.reduceGE, Int.reduceNe, Int.reduceBNe, b_laws_markDefS, w0, x0, h_laws_markText, e0, e5, e1, ia, b3]
  first
    | refine ⟨rfl, by rw [hcn], [.str (mtext (k)), c1, c2, c3], rfl, rfl, ?_, fun q hq hqr hqR => ?_, (Nat.le_trans (Nat.le_trans n1 n2) n3)⟩
    | refine ⟨[.str (mtext (k)), c1, c2, c3], rfl, rfl, ?_, fun q hq hqr hqR => ?_, (Nat.le_trans (Nat.le_trans n1 n2) n3)⟩
    | refine ⟨rfl, [.str (mtext (k)), c1, c2, c3], rfl, rfl, ?_, fun q hq hqr hqR => ?_, (Nat.le_trans (Nat.le_trans n1 n2) n3)⟩
  · have hz : dfzL (dfz m h3) [.str (mtext (k)), c1, c2, c3] = _ := (dfzL_cons (dfz_str' _) (dfzL_cons (dfz_frame (S := R1) (fun q hq => (p3 q (Nat.lt_of_lt_of_le (hin1 q hq).1 (Nat.le_trans n1 n2)) (fun hx => dj1 q hq q (List.mem_append.2 (.inr hx)) rfl)).trans (p2 q (Nat.lt_of_lt_of_le (hin1 q hq).1 n1) (fun hx => dj1 q hq q (List.mem_append.2 (.inl hx)) rfl))) m z1 fun _ hq => hq) (dfzL_cons (dfz_frame (S := R2) (fun q hq => p3 q (Nat.lt_of_lt_of_le (hin2 q hq).1 (Nat.le_trans n1 n2)) (fun hx => dj2 q hq q hx rfl)) m z2 fun _ hq => hq) (dfzL_cons z3 rfl))))
    simp only [List.nil_append, List.append_nil] at hz
    exact hz
  · simp only [List.mem_append, not_or] at hqR
    exact (((p3 q (Nat.lt_of_lt_of_le hq (Nat.le_trans n1 n2)) hqR.2.2).trans (p2 q (Nat.lt_of_lt_of_le hq n1) hqR.2.1)).trans (p1 q hq hqR.1)).trans (by simp [hqr])
theorem mk_laws_markDefS (cs) (h_laws_markText : (EE cs).T 41 = some C_laws_markText) (m_laws_markColS : MkS (EE cs) 42 (sliceT tCol) (mkL mkE_Col cnE_Col) (cntL cnE_Col)) (m_laws_markByS : MkS (EE cs) 43 (sliceT tBy) (mkL mkE_By cnE_By) (cntL cnE_By)) (m_laws_markIndexS : MkS (EE cs) 44 (sliceT tIndex) (mkL mkE_Index cnE_Index) (cntL cnE_Index)) : MkS (EE cs) 20 (sliceT tDef) (mkL mkE_Def cnE_Def) (cntL cnE_Def) := mkS_ok (st_laws_markDefS cs) (by decide) (mb_laws_markDefS cs h_laws_markText m_laws_markColS m_laws_markByS m_laws_markIndexS)
theorem mb_laws_markByteS (cs)  : MkB (EE cs) b_laws_markByteS u8T mkE_byte cnE_byte := by
  intro m e h r len i k A c B v R e0 e5 e1 hr hA hi hc hd hnd hrR hlt hrn hf hk hk2
  obtain ⟨c0, rfl⟩ := len1 hc
  replace e0 : e 0 = .sl r 0 len 1 := e0
  replace hA : A.length = i * 1 := hA
  replace hr : h.hp r = some (A ++ c0 :: B) := hr
  replace hd : dfzL (dfz m h) [c0] = some ([.int .u8 (v).toNat], R) := hd
  obtain ⟨R0, S0, d0, hd0, rfl⟩ := dfzL_cons_inv hd
  obtain ⟨rfl, rfl⟩ := dfz_int d0
  obtain ⟨_, rfl⟩ := dfzL_nil_inv hd0
  simp only [List.nil_append, List.append_nil] at hnd hrR hlt ⊢
  unfold cnE_byte at hk2
  have hcn : k + ((cnE_byte v : Nat) : Int) = k + 1 := by unfold cnE_byte; omega
  have w0 : IntKind.wrap .i64 (k + 1) = k + 1 := wrapId (by omega) (by omega)
  have x0 := u8mark (k) (by omega)
  have ia := fun h => kIa_mid (r := r) (h := h) hA hi
  have dl : decide ((i : Int) < (len : Int)) = true := decide_eq_true (by omega)
  simp only [go_sem, kSt_ptr, Nat.reduceBEq, Nat.reduceAdd, Nat.reduceEqDiff, Nat.reduceLeDiff, Nat.reduceSub, reduceIte, Int.reduceBEq, Int.reduceEq, Int.reduceLT, Int.reduceLE, Int.reduceGT, Int.reduceGE, Int.reduceNe, Int.reduceBNe, b_laws_markByteS, w0, x0, e0, e5, e1, ia, hr]
  refine ⟨rfl, by rw [hcn], [.int .u8 ((mbyte (k)).toNat : Int)], rfl, rfl, ?_, fun q hq hqr _ => by simp [hqr]⟩
  exact dfzL_leafs fun c hc => by
    simp only [List.mem_cons, List.not_mem_nil, or_false] at hc
    subst hc
    rfl
theorem mk_laws_markByteS (cs)  : MkS (EE cs) 72 (sliceT u8T) (mkL mkE_byte cnE_byte) (cntL cnE_byte) := mkS_ok (st_laws_markByteS cs) (by decide) (mb_laws_markByteS cs)
theorem mb_laws_markByteSS (cs) (m_laws_markByteS : MkS (EE cs) 72 (sliceT u8T) (mkL mkE_byte cnE_byte) (cntL cnE_byte)) : MkB (EE cs) b_laws_markByteSS (sliceT u8T) (mkL mkE_byte cnE_byte) (cntL cnE_byte) := by
  intro m e h r len i k A c B v R e0 e5 e1 hr hA hi hc hd hnd hrR hlt hrn hf hk hk2
  obtain ⟨c0, rfl⟩ := len1 hc
  replace e0 : e 0 = .sl r 0 len 1 := e0
  replace hA : A.length = i * 1 := hA
  replace hr : h.hp r = some (A ++ c0 :: B) := hr
  replace hd : dfzL (dfz m h) [c0] = some ([.imm (v.map u8T.row)], R) := hd
  obtain ⟨R0, S0, d0, hd0, rfl⟩ := dfzL_cons_inv hd
  obtain ⟨_, rfl⟩ := dfzL_nil_inv hd0
  simp only [List.nil_append, List.append_nil] at hnd hrR hlt ⊢
  have hcn : k + (((cntL cnE_byte) v : Nat) : Int) = k + (((cntL cnE_byte) v : Nat) : Int) := rfl
  have ia := fun h => kIa_mid (r := r) (h := h) hA hi
  have dl : decide ((i : Int) < (len : Int)) = true := decide_eq_true (by omega)
  have hin : (∀ q ∈ R0, q < h.nx ∧ q ≠ r) := by
    exact fun q hq => ⟨hlt q hq, fun e => hrR (e ▸ hq)⟩
  have hin0 := hin
  have nd0 := hnd
  simp only [go_sem, kSt_ptr, Nat.reduceBEq, Nat.reduceAdd, Nat.reduceEqDiff, Nat.reduceLeDiff, Nat.reduceSub, reduceIte, Int.reduceBEq, Int.reduceEq, Int.reduceLT, Int.reduceLE, Int.reduceGT, Int.reduceGE, Int.reduceNe, Int.reduceBNe, b_laws_markByteSS, e0, e5, e1, ia, hr]
  refine hP_markC (m := m) m_laws_markByteS (by exact hf) (by omega) (by omega) (R := R0) ?_ nd0 ?_ ?_
  · exact dfz_frame (S := R0) (fun q hq => rfl) m d0 fun _ hq => hq
  · exact fun q hq => (hin0 q hq).1
  intro h0 z0 p0 n0
  have b0 : h0.hp r = some (A ++ c0 :: B) := (p0 r hrn fun hx => (hin0 r hx).2 rfl).trans (hr)
  simp only [go_sem, kSt_ptr, Nat.reduceBEq, Nat.reduceAdd, Nat.reduceEqDiff, Nat.reduceLeDiff, Nat.reduceSub, reduceIte, Int.reduceBEq, Int.reduceEq, Int.reduceLT, Int.reduceLE, Int.reduceGT, Int.reduceGE, Int.reduceNe, Int.reduceBNe, b_laws_markByteSS, e0, e5, e1, ia, b0]
  first
    | refine ⟨rfl, by rw [hcn], [c0], rfl, rfl, ?_, fun q hq hqr hqR => ?_, n0⟩
    | refine ⟨[c0], rfl, rfl, ?_, fun q hq hqr hqR => ?_, n0⟩
    | refine ⟨rfl, [c0], rfl, rfl, ?_, fun q hq hqr hqR => ?_, n0⟩
  · have hz : dfzL (dfz m h0) [c0] = _ := (dfzL_cons z0 rfl)
    simp only [List.nil_append, List.append_nil] at hz
    exact hz
  · skip
    exact (p0 q hq hqR).trans (rfl)
theorem mk_laws_markByteSS (cs) (m_laws_markByteS : MkS (EE cs) 72 (sliceT u8T) (mkL mkE_byte cnE_byte) (cntL cnE_byte)) : MkS (EE cs) 45 (sliceT (sliceT u8T)) (mkL (mkL mkE_byte cnE_byte) (cntL cnE_byte)) (cntL (cntL cnE_byte)) := mkS_ok (st_laws_markByteSS cs) (by decide) (mb_laws_markByteSS cs m_laws_markByteS)
def mkE_Write (v : TWrite) (k : Int) : TWrite := ⟨k, (mkL mkE_byte cnE_byte) v.fB (k + 1)⟩
def cnE_Write (v : TWrite) : Nat := 1 + (cntL cnE_byte) v.fB
theorem mi_Write : MkI mkE_Write cnE_Write := fun v k => by
  constructor
  · simp only [mkE_Write, ((mkL_idem mi_byte) _ _).1, ((mkL_idem mi_byte) _ _).2]
  · simp only [mkE_Write, cnE_Write, ((mkL_idem mi_byte) _ _).1, ((mkL_idem mi_byte) _ _).2]
theorem mf_Write : MkF tWrite mkE_Write cnE_Write := fun v k hf h0 h1 => by
  unfold cnE_Write at h1
  exact (mkL_fits mf_byte) v.fB (k + 1) (by exact hf) (by omega) (by omega)
theorem cb_Write (v : TWrite) : cnE_Write v ≤ 10 * (1 + tWrite.cost v) := by
  have hcost : tWrite.cost v = (sliceT u8T).cost v.fB := rfl
  have q_B := cntL_le (T := u8T) cb_byte v.fB
  unfold cnE_Write
  omega
theorem mb_laws_markWriteS (cs) (m_laws_markByteS : MkS (EE cs) 72 (sliceT u8T) (mkL mkE_byte cnE_byte) (cntL cnE_byte)) : MkB (EE cs) b_laws_markWriteS tWrite mkE_Write cnE_Write := by
  intro m e h r len i k A c B v R e0 e5 e1 hr hA hi hc hd hnd hrR hlt hrn hf hk hk2
  obtain ⟨c0, c1, rfl⟩ := len2 hc
  replace e0 : e 0 = .sl r 0 len 2 := e0
  replace hA : A.length = i * 2 := hA
  replace hr : h.hp r = some (A ++ c0 :: c1 :: B) := hr
  replace hd : dfzL (dfz m h) [c0, c1] = some ([.int .i64 v.fN, .imm (v.fB.map u8T.row)], R) := hd
  obtain ⟨R0, S0, d0, hd0, rfl⟩ := dfzL_cons_inv hd
  obtain ⟨rfl, rfl⟩ := dfz_int d0
  obtain ⟨R1, S1, d1, hd1, rfl⟩ := dfzL_cons_inv hd0
  obtain ⟨_, rfl⟩ := dfzL_nil_inv hd1
  simp only [List.nil_append, List.append_nil] at hnd hrR hlt ⊢
  unfold cnE_Write at hk2
  have hcn : k + ((cnE_Write v : Nat) : Int) = k + 1 + (((cntL cnE_byte) v.fB : Nat) : Int) := by unfold cnE_Write; omega
  have w0 : IntKind.wrap .i64 (k + 1) = k + 1 := wrapId (by omega) (by omega)
  have ia := fun h => kIa_mid (r := r) (h := h) hA hi
  have dl : decide ((i : Int) < (len : Int)) = true := decide_eq_true (by omega)
  have hin : (∀ q ∈ R1, q < h.nx ∧ q ≠ r) := by
    exact fun q hq => ⟨hlt q hq, fun e => hrR (e ▸ hq)⟩
  have hin1 := hin
  have nd1 := hnd
  simp only [go_sem, kSt_ptr, Nat.reduceBEq, Nat.reduceAdd, Nat.reduceEqDiff, Nat.reduceLeDiff, Nat.reduceSub, reduceIte, Int.reduceBEq, Int.reduceEq, Int.reduceLT, Int.reduceLE, Int.reduceGT, Int.reduceGE, Int.reduceNe, Int.reduceBNe, b_laws_markWriteS, w0, e0, e5, e1, ia, hr]
  refine hP_markC (m := m) m_laws_markByteS (by exact hf) (by omega) (by omega) (R := R1) ?_ nd1 ?_ ?_
  · exact dfz_frame (S := R1) (fun q hq => by simp [(hin1 q hq).2]) m d1 fun _ hq => hq
  · exact fun q hq => (hin1 q hq).1
  intro h1 z1 p1 n1
  have b1 : h1.hp r = some (A ++ .int .i64 (k) :: c1 :: B) := (p1 r hrn fun hx => (hin1 r hx).2 rfl).trans (if_pos rfl)
  simp only [go_sem, kSt_ptr, Nat.reduceBEq, Nat.reduceAdd, Nat.reduceEqDiff, Nat.reduceLeDiff, Nat.reduceSub, reduceIte, Int.reduceBEq, Int.reduceEq, Int.reduceLT, Int.reduceLE, Int.reduceGT, Int.reduceGE, Int.reduceNe, Int.reduceBNe, b_laws_markWriteS, w0, e0, e5, e1, ia, b1]
  first
    | refine ⟨rfl, by rw [hcn], [.int .i64 (k), c1], rfl, rfl, ?_, fun q hq hqr hqR => ?_, n1⟩
    | refine ⟨[.int .i64 (k), c1], rfl, rfl, ?_, fun q hq hqr hqR => ?_, n1⟩
    | refine ⟨rfl, [.int .i64 (k), c1], rfl, rfl, ?_, fun q hq hqr hqR => ?_, n1⟩
  · have hz : dfzL (dfz m h1) [.int .i64 (k), c1] = _ := (dfzL_cons (dfz_int' _ _) (dfzL_cons z1 rfl))
    simp only [List.nil_append, List.append_nil] at hz
    exact hz
  · skip
    exact (p1 q hq hqR).trans (by simp [hqr])
theorem mk_laws_markWriteS (cs) (m_laws_markByteS : MkS (EE cs) 72 (sliceT u8T) (mkL mkE_byte cnE_byte) (cntL cnE_byte)) : MkS (EE cs) 46 (sliceT tWrite) (mkL mkE_Write cnE_Write) (cntL cnE_Write) := mkS_ok (st_laws_markWriteS cs) (by decide) (mb_laws_markWriteS cs m_laws_markByteS)
end Go.Proofs.Ytgjdkcjijmdfoaa.Eo
