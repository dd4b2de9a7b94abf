/- What the functions that FnExactNoLeak calls answer, for every argument within the law's bounds: part 1. -/
import Derived.Test.YtmfkjlnhanomfaaGreatNlEvC
import Derived.Test.YtmfkjlnhanomfaaGreatProg
import Derived.Lib.Bytealg
set_option linter.unusedVariables false
set_option linter.unusedSimpArgs false
set_option linter.unnecessarySimpa false
/- The resolved code of what FnExactNoLeak calls. -/
namespace Go.Proofs.YtmfkjlnhanomfaaGreat.Nl
open Go Go.RowKit Go.Ev
set_option linter.unusedSimpArgs false
set_option linter.unusedVariables false
set_option maxHeartbeats 1600000
def s_laws_szCol : SFn := ⟨13, .seq (.rg [⟨some 2, none, .box (.t 0)⟩,
  ⟨some 4, none, .mv (.c (.int .i64 0))⟩]) (.seq (.rg [⟨some 5, none, .mv (.t 1)⟩,
  ⟨some 6, none, .fa 0 (.t 2)⟩,
  ⟨some 7, none, .ld (.t 6)⟩,
  ⟨some 8, none, .lenS (.t 7)⟩,
  ⟨some 9, none, .bin .sub (.t 5) (.t 8)⟩,
  ⟨some 1, none, .mv (.t 9)⟩]) (.seq (.seq (.rg [⟨some 10, none, .mv (.t 1)⟩,
  ⟨some 11, none, .bin .lss (.t 10) (.c (.int .i64 0))⟩]) (.cond (.t 11) (.seq (.rg [⟨some 4, none, .mv (.c (.int .i64 (-1)))⟩]) (.ret)) (.skip))) (.seq (.rg [⟨some 12, none, .mv (.t 1)⟩,
  ⟨some 4, none, .mv (.t 12)⟩]) (.ret)))), [.t 4]⟩
def s_laws_szIndex : SFn := ⟨19, .seq (.rg [⟨some 2, none, .box (.t 0)⟩,
  ⟨some 4, none, .mv (.c (.int .i64 0))⟩]) (.seq (.rg [⟨some 5, none, .mv (.t 1)⟩,
  ⟨some 6, none, .fa 0 (.t 2)⟩,
  ⟨some 7, none, .ld (.t 6)⟩,
  ⟨some 8, none, .lenS (.t 7)⟩,
  ⟨some 9, none, .bin .sub (.t 5) (.t 8)⟩,
  ⟨some 1, none, .mv (.t 9)⟩]) (.seq (.seq (.rg [⟨some 10, none, .mv (.t 1)⟩,
  ⟨some 11, none, .bin .lss (.t 10) (.c (.int .i64 0))⟩]) (.cond (.t 11) (.seq (.rg [⟨some 4, none, .mv (.c (.int .i64 (-1)))⟩]) (.ret)) (.skip))) (.seq (.rg [⟨some 12, none, .fa 2 (.t 2)⟩,
  ⟨some 13, none, .ld (.t 12)⟩,
  ⟨some 14, none, .mv (.t 1)⟩,
  ⟨some 15, none, .callP 60 [.t 13, .t 14]⟩,
  ⟨some 1, none, .mv (.t 15)⟩]) (.seq (.seq (.rg [⟨some 16, none, .mv (.t 1)⟩,
  ⟨some 17, none, .bin .lss (.t 16) (.c (.int .i64 0))⟩]) (.cond (.t 17) (.seq (.rg [⟨some 4, none, .mv (.c (.int .i64 (-1)))⟩]) (.ret)) (.skip))) (.seq (.rg [⟨some 18, none, .mv (.t 1)⟩,
  ⟨some 4, none, .mv (.t 18)⟩]) (.ret)))))), [.t 4]⟩
def s_laws_szDef : SFn := ⟨31, .seq (.rg [⟨some 2, none, .box (.t 0)⟩,
  ⟨some 4, none, .mv (.c (.int .i64 0))⟩]) (.seq (.rg [⟨some 5, none, .mv (.t 1)⟩,
  ⟨some 6, none, .fa 0 (.t 2)⟩,
  ⟨some 7, none, .ld (.t 6)⟩,
  ⟨some 8, none, .lenS (.t 7)⟩,
  ⟨some 9, none, .bin .sub (.t 5) (.t 8)⟩,
  ⟨some 1, none, .mv (.t 9)⟩]) (.seq (.seq (.rg [⟨some 10, none, .mv (.t 1)⟩,
  ⟨some 11, none, .bin .lss (.t 10) (.c (.int .i64 0))⟩]) (.cond (.t 11) (.seq (.rg [⟨some 4, none, .mv (.c (.int .i64 (-1)))⟩]) (.ret)) (.skip))) (.seq (.rg [⟨some 12, none, .fa 1 (.t 2)⟩,
  ⟨some 13, none, .ld (.t 12)⟩,
  ⟨some 14, none, .mv (.t 1)⟩,
  ⟨some 15, none, .callP 59 [.t 13, .t 14]⟩,
  ⟨some 1, none, .mv (.t 15)⟩]) (.seq (.seq (.rg [⟨some 16, none, .mv (.t 1)⟩,
  ⟨some 17, none, .bin .lss (.t 16) (.c (.int .i64 0))⟩]) (.cond (.t 17) (.seq (.rg [⟨some 4, none, .mv (.c (.int .i64 (-1)))⟩]) (.ret)) (.skip))) (.seq (.rg [⟨some 18, none, .fa 2 (.t 2)⟩,
  ⟨some 19, none, .ld (.t 18)⟩,
  ⟨some 20, none, .mv (.t 1)⟩,
  ⟨some 21, none, .callP 60 [.t 19, .t 20]⟩,
  ⟨some 1, none, .mv (.t 21)⟩]) (.seq (.seq (.rg [⟨some 22, none, .mv (.t 1)⟩,
  ⟨some 23, none, .bin .lss (.t 22) (.c (.int .i64 0))⟩]) (.cond (.t 23) (.seq (.rg [⟨some 4, none, .mv (.c (.int .i64 (-1)))⟩]) (.ret)) (.skip))) (.seq (.rg [⟨some 24, none, .fa 3 (.t 2)⟩,
  ⟨some 25, none, .ld (.t 24)⟩,
  ⟨some 26, none, .mv (.t 1)⟩,
  ⟨some 27, none, .callP 61 [.t 25, .t 26]⟩,
  ⟨some 1, none, .mv (.t 27)⟩]) (.seq (.seq (.rg [⟨some 28, none, .mv (.t 1)⟩,
  ⟨some 29, none, .bin .lss (.t 28) (.c (.int .i64 0))⟩]) (.cond (.t 29) (.seq (.rg [⟨some 4, none, .mv (.c (.int .i64 (-1)))⟩]) (.ret)) (.skip))) (.seq (.rg [⟨some 30, none, .mv (.t 1)⟩,
  ⟨some 4, none, .mv (.t 30)⟩]) (.ret)))))))))), [.t 4]⟩
def s_laws_szWrite : SFn := ⟨12, .seq (.rg [⟨some 2, none, .box (.t 0)⟩,
  ⟨some 4, none, .mv (.c (.int .i64 0))⟩]) (.seq (.rg [⟨some 5, none, .fa 1 (.t 2)⟩,
  ⟨some 6, none, .ld (.t 5)⟩,
  ⟨some 7, none, .mv (.t 1)⟩,
  ⟨some 8, none, .callP 62 [.t 6, .t 7]⟩,
  ⟨some 1, none, .mv (.t 8)⟩]) (.seq (.seq (.rg [⟨some 9, none, .mv (.t 1)⟩,
  ⟨some 10, none, .bin .lss (.t 9) (.c (.int .i64 0))⟩]) (.cond (.t 10) (.seq (.rg [⟨some 4, none, .mv (.c (.int .i64 (-1)))⟩]) (.ret)) (.skip))) (.seq (.rg [⟨some 11, none, .mv (.t 1)⟩,
  ⟨some 4, none, .mv (.t 11)⟩]) (.ret)))), [.t 4]⟩
def s_laws_szDisk : SFn := ⟨24, .seq (.rg [⟨some 2, none, .box (.t 0)⟩,
  ⟨some 4, none, .mv (.c (.int .i64 0))⟩]) (.seq (.rg [⟨some 5, none, .fa 0 (.t 2)⟩,
  ⟨some 6, none, .ld (.t 5)⟩,
  ⟨some 7, none, .mv (.t 1)⟩,
  ⟨some 8, none, .callP 33 [.t 6, .t 7]⟩,
  ⟨some 1, none, .mv (.t 8)⟩]) (.seq (.seq (.rg [⟨some 9, none, .mv (.t 1)⟩,
  ⟨some 10, none, .bin .lss (.t 9) (.c (.int .i64 0))⟩]) (.cond (.t 10) (.seq (.rg [⟨some 4, none, .mv (.c (.int .i64 (-1)))⟩]) (.ret)) (.skip))) (.seq (.rg [⟨some 11, none, .fa 1 (.t 2)⟩,
  ⟨some 12, none, .ld (.t 11)⟩,
  ⟨some 13, none, .mv (.t 1)⟩,
  ⟨some 14, none, .callP 34 [.t 12, .t 13]⟩,
  ⟨some 1, none, .mv (.t 14)⟩]) (.seq (.seq (.rg [⟨some 15, none, .mv (.t 1)⟩,
  ⟨some 16, none, .bin .lss (.t 15) (.c (.int .i64 0))⟩]) (.cond (.t 16) (.seq (.rg [⟨some 4, none, .mv (.c (.int .i64 (-1)))⟩]) (.ret)) (.skip))) (.seq (.rg [⟨some 17, none, .fa 3 (.t 2)⟩,
  ⟨some 18, none, .ld (.t 17)⟩,
  ⟨some 19, none, .mv (.t 1)⟩,
  ⟨some 20, none, .callP 35 [.t 18, .t 19]⟩,
  ⟨some 1, none, .mv (.t 20)⟩]) (.seq (.seq (.rg [⟨some 21, none, .mv (.t 1)⟩,
  ⟨some 22, none, .bin .lss (.t 21) (.c (.int .i64 0))⟩]) (.cond (.t 22) (.seq (.rg [⟨some 4, none, .mv (.c (.int .i64 (-1)))⟩]) (.ret)) (.skip))) (.seq (.rg [⟨some 23, none, .mv (.t 1)⟩,
  ⟨some 4, none, .mv (.t 23)⟩]) (.ret)))))))), [.t 4]⟩
def s_laws_szEng : SFn := ⟨18, .seq (.rg [⟨some 2, none, .box (.t 0)⟩,
  ⟨some 4, none, .mv (.c (.int .i64 0))⟩]) (.seq (.rg [⟨some 5, none, .fa 0 (.t 2)⟩,
  ⟨some 6, none, .ld (.t 5)⟩,
  ⟨some 7, none, .mv (.t 1)⟩,
  ⟨some 8, none, .callP 12 [.t 6, .t 7]⟩,
  ⟨some 1, none, .mv (.t 8)⟩]) (.seq (.seq (.rg [⟨some 9, none, .mv (.t 1)⟩,
  ⟨some 10, none, .bin .lss (.t 9) (.c (.int .i64 0))⟩]) (.cond (.t 10) (.seq (.rg [⟨some 4, none, .mv (.c (.int .i64 (-1)))⟩]) (.ret)) (.skip))) (.seq (.rg [⟨some 11, none, .fa 1 (.t 2)⟩,
  ⟨some 12, none, .ldA 5 (.t 11)⟩,
  ⟨some 13, none, .mv (.t 1)⟩,
  ⟨some 14, none, .callP 13 [.t 12, .t 13]⟩,
  ⟨some 1, none, .mv (.t 14)⟩]) (.seq (.seq (.rg [⟨some 15, none, .mv (.t 1)⟩,
  ⟨some 16, none, .bin .lss (.t 15) (.c (.int .i64 0))⟩]) (.cond (.t 16) (.seq (.rg [⟨some 4, none, .mv (.c (.int .i64 (-1)))⟩]) (.ret)) (.skip))) (.seq (.rg [⟨some 17, none, .mv (.t 1)⟩,
  ⟨some 4, none, .mv (.t 17)⟩]) (.ret)))))), [.t 4]⟩
def s_laws_toCol : SFn := ⟨14, .seq (.rg [⟨some 1, none, .box (.t 0)⟩,
  ⟨some 2, none, .alloc [.str [], .int .i64 0, .bool false]⟩]) (.seq (.rg [⟨some 3, none, .alloc [.str [], .int .i64 0, .bool false]⟩]) (.seq (.rg [⟨some 4, none, .fa 0 (.t 1)⟩,
  ⟨some 5, none, .ld (.t 4)⟩,
  ⟨some 6, none, .fa 0 (.t 3)⟩,
  ⟨none, none, .st 1 (.t 6) (.t 5)⟩]) (.seq (.rg [⟨some 7, none, .fa 1 (.t 1)⟩,
  ⟨some 8, none, .ld (.t 7)⟩,
  ⟨some 9, none, .fa 1 (.t 3)⟩,
  ⟨none, none, .st 1 (.t 9) (.t 8)⟩]) (.seq (.rg [⟨some 10, none, .fa 2 (.t 1)⟩,
  ⟨some 11, none, .ld (.t 10)⟩,
  ⟨some 12, none, .fa 2 (.t 3)⟩,
  ⟨none, none, .st 1 (.t 12) (.t 11)⟩]) (.seq (.rg [⟨some 13, none, .ldA 3 (.t 3)⟩,
  ⟨none, none, .st 3 (.t 2) (.t 13)⟩]) (.ret)))))), [.ldA 2 3]⟩
def s_laws_toBy : SFn := ⟨11, .seq (.rg [⟨some 1, none, .box (.t 0)⟩,
  ⟨some 2, none, .alloc [.int .i64 0, .bool false]⟩]) (.seq (.rg [⟨some 3, none, .alloc [.int .i64 0, .bool false]⟩]) (.seq (.rg [⟨some 4, none, .fa 0 (.t 1)⟩,
  ⟨some 5, none, .ld (.t 4)⟩,
  ⟨some 6, none, .fa 0 (.t 3)⟩,
  ⟨none, none, .st 1 (.t 6) (.t 5)⟩]) (.seq (.rg [⟨some 7, none, .fa 1 (.t 1)⟩,
  ⟨some 8, none, .ld (.t 7)⟩,
  ⟨some 9, none, .fa 1 (.t 3)⟩,
  ⟨none, none, .st 1 (.t 9) (.t 8)⟩]) (.seq (.rg [⟨some 10, none, .ldA 2 (.t 3)⟩,
  ⟨none, none, .st 2 (.t 2) (.t 10)⟩]) (.ret))))), [.ldA 2 2]⟩
def s_laws_toIndex : SFn := ⟨15, .seq (.rg [⟨some 1, none, .box (.t 0)⟩,
  ⟨some 2, none, .alloc [.str [], .bool false, .snil]⟩]) (.seq (.rg [⟨some 3, none, .alloc [.str [], .bool false, .snil]⟩]) (.seq (.rg [⟨some 4, none, .fa 0 (.t 1)⟩,
  ⟨some 5, none, .ld (.t 4)⟩,
  ⟨some 6, none, .fa 0 (.t 3)⟩,
  ⟨none, none, .st 1 (.t 6) (.t 5)⟩]) (.seq (.rg [⟨some 7, none, .fa 1 (.t 1)⟩,
  ⟨some 8, none, .ld (.t 7)⟩,
  ⟨some 9, none, .fa 1 (.t 3)⟩,
  ⟨none, none, .st 1 (.t 9) (.t 8)⟩]) (.seq (.rg [⟨some 10, none, .fa 2 (.t 1)⟩,
  ⟨some 11, none, .ld (.t 10)⟩,
  ⟨some 12, none, .callP 72 [.t 11]⟩,
  ⟨some 13, none, .fa 2 (.t 3)⟩,
  ⟨none, none, .st 1 (.t 13) (.t 12)⟩]) (.seq (.rg [⟨some 14, none, .ldA 3 (.t 3)⟩,
  ⟨none, none, .st 3 (.t 2) (.t 14)⟩]) (.ret)))))), [.ldA 2 3]⟩
def s_laws_toDef : SFn := ⟨20, .seq (.rg [⟨some 1, none, .box (.t 0)⟩,
  ⟨some 2, none, .alloc [.str [], .snil, .snil, .snil]⟩]) (.seq (.rg [⟨some 3, none, .alloc [.str [], .snil, .snil, .snil]⟩]) (.seq (.rg [⟨some 4, none, .fa 0 (.t 1)⟩,
  ⟨some 5, none, .ld (.t 4)⟩,
  ⟨some 6, none, .fa 0 (.t 3)⟩,
  ⟨none, none, .st 1 (.t 6) (.t 5)⟩]) (.seq (.rg [⟨some 7, none, .fa 1 (.t 1)⟩,
  ⟨some 8, none, .ld (.t 7)⟩,
  ⟨some 9, none, .callP 71 [.t 8]⟩,
  ⟨some 10, none, .fa 1 (.t 3)⟩,
  ⟨none, none, .st 1 (.t 10) (.t 9)⟩]) (.seq (.rg [⟨some 11, none, .fa 2 (.t 1)⟩,
  ⟨some 12, none, .ld (.t 11)⟩,
  ⟨some 13, none, .callP 72 [.t 12]⟩,
  ⟨some 14, none, .fa 2 (.t 3)⟩,
  ⟨none, none, .st 1 (.t 14) (.t 13)⟩]) (.seq (.rg [⟨some 15, none, .fa 3 (.t 1)⟩,
  ⟨some 16, none, .ld (.t 15)⟩,
  ⟨some 17, none, .callP 73 [.t 16]⟩,
  ⟨some 18, none, .fa 3 (.t 3)⟩,
  ⟨none, none, .st 1 (.t 18) (.t 17)⟩]) (.seq (.rg [⟨some 19, none, .ldA 4 (.t 3)⟩,
  ⟨none, none, .st 4 (.t 2) (.t 19)⟩]) (.ret))))))), [.ldA 2 4]⟩
def s_laws_toWrite : SFn := ⟨12, .seq (.rg [⟨some 1, none, .box (.t 0)⟩,
  ⟨some 2, none, .alloc [.int .i64 0, .snil]⟩]) (.seq (.rg [⟨some 3, none, .alloc [.int .i64 0, .snil]⟩]) (.seq (.rg [⟨some 4, none, .fa 0 (.t 1)⟩,
  ⟨some 5, none, .ld (.t 4)⟩,
  ⟨some 6, none, .fa 0 (.t 3)⟩,
  ⟨none, none, .st 1 (.t 6) (.t 5)⟩]) (.seq (.rg [⟨some 7, none, .fa 1 (.t 1)⟩,
  ⟨some 8, none, .ld (.t 7)⟩,
  ⟨some 9, none, .callP 74 [.t 8]⟩,
  ⟨some 10, none, .fa 1 (.t 3)⟩,
  ⟨none, none, .st 1 (.t 10) (.t 9)⟩]) (.seq (.rg [⟨some 11, none, .ldA 2 (.t 3)⟩,
  ⟨none, none, .st 2 (.t 2) (.t 11)⟩]) (.ret))))), [.ldA 2 2]⟩
def s_laws_toFault : SFn := ⟨14, .seq (.rg [⟨some 1, none, .box (.t 0)⟩,
  ⟨some 2, none, .alloc [.int .i64 0, .int .i64 0, .int .i64 0]⟩]) (.seq (.rg [⟨some 3, none, .alloc [.int .i64 0, .int .i64 0, .int .i64 0]⟩]) (.seq (.rg [⟨some 4, none, .fa 0 (.t 1)⟩,
  ⟨some 5, none, .ld (.t 4)⟩,
  ⟨some 6, none, .fa 0 (.t 3)⟩,
  ⟨none, none, .st 1 (.t 6) (.t 5)⟩]) (.seq (.rg [⟨some 7, none, .fa 1 (.t 1)⟩,
  ⟨some 8, none, .ld (.t 7)⟩,
  ⟨some 9, none, .fa 1 (.t 3)⟩,
  ⟨none, none, .st 1 (.t 9) (.t 8)⟩]) (.seq (.rg [⟨some 10, none, .fa 2 (.t 1)⟩,
  ⟨some 11, none, .ld (.t 10)⟩,
  ⟨some 12, none, .fa 2 (.t 3)⟩,
  ⟨none, none, .st 1 (.t 12) (.t 11)⟩]) (.seq (.rg [⟨some 13, none, .ldA 3 (.t 3)⟩,
  ⟨none, none, .st 3 (.t 2) (.t 13)⟩]) (.ret)))))), [.ldA 2 3]⟩
def s_laws_toDisk : SFn := ⟨23, .seq (.rg [⟨some 1, none, .box (.t 0)⟩,
  ⟨some 2, none, .alloc [.snil, .snil, .int .i64 0, .snil, .bool false]⟩]) (.seq (.rg [⟨some 3, none, .alloc [.snil, .snil, .int .i64 0, .snil, .bool false]⟩]) (.seq (.rg [⟨some 4, none, .fa 0 (.t 1)⟩,
  ⟨some 5, none, .ld (.t 4)⟩,
  ⟨some 6, none, .callP 43 [.t 5]⟩,
  ⟨some 7, none, .fa 0 (.t 3)⟩,
  ⟨none, none, .st 1 (.t 7) (.t 6)⟩]) (.seq (.rg [⟨some 8, none, .fa 1 (.t 1)⟩,
  ⟨some 9, none, .ld (.t 8)⟩,
  ⟨some 10, none, .callP 44 [.t 9]⟩,
  ⟨some 11, none, .fa 1 (.t 3)⟩,
  ⟨none, none, .st 1 (.t 11) (.t 10)⟩]) (.seq (.rg [⟨some 12, none, .fa 2 (.t 1)⟩,
  ⟨some 13, none, .ld (.t 12)⟩,
  ⟨some 14, none, .fa 2 (.t 3)⟩,
  ⟨none, none, .st 1 (.t 14) (.t 13)⟩]) (.seq (.rg [⟨some 15, none, .fa 3 (.t 1)⟩,
  ⟨some 16, none, .ld (.t 15)⟩,
  ⟨some 17, none, .callP 45 [.t 16]⟩,
  ⟨some 18, none, .fa 3 (.t 3)⟩,
  ⟨none, none, .st 1 (.t 18) (.t 17)⟩]) (.seq (.rg [⟨some 19, none, .fa 4 (.t 1)⟩,
  ⟨some 20, none, .ld (.t 19)⟩,
  ⟨some 21, none, .fa 4 (.t 3)⟩,
  ⟨none, none, .st 1 (.t 21) (.t 20)⟩]) (.seq (.rg [⟨some 22, none, .ldA 5 (.t 3)⟩,
  ⟨none, none, .st 5 (.t 2) (.t 22)⟩]) (.ret)))))))), [.ldA 2 5]⟩
def s_laws_toEng : SFn := ⟨13, .seq (.rg [⟨some 1, none, .box (.t 0)⟩,
  ⟨some 2, none, .alloc [.snil, .snil, .snil, .int .i64 0, .snil, .bool false]⟩]) (.seq (.rg [⟨some 3, none, .alloc [.snil, .snil, .snil, .int .i64 0, .snil, .bool false]⟩]) (.seq (.rg [⟨some 4, none, .fa 0 (.t 1)⟩,
  ⟨some 5, none, .ld (.t 4)⟩,
  ⟨some 6, none, .callP 19 [.t 5]⟩,
  ⟨some 7, none, .fa 0 (.t 3)⟩,
  ⟨none, none, .st 1 (.t 7) (.t 6)⟩]) (.seq (.rg [⟨some 8, none, .fa 1 (.t 1)⟩,
  ⟨some 9, none, .ldA 5 (.t 8)⟩,
  ⟨some 10, none, .callP 20 [.t 9]⟩,
  ⟨some 11, none, .fa 1 (.t 3)⟩,
  ⟨none, none, .st 5 (.t 11) (.t 10)⟩]) (.seq (.rg [⟨some 12, none, .ldA 6 (.t 3)⟩,
  ⟨none, none, .st 6 (.t 2) (.t 12)⟩]) (.ret))))), [.ldA 2 6]⟩
def s_spec_l16Has_L0 : SCode := .seq (.seq (.rg [⟨some 6, none, .mv (.t 5)⟩,
  ⟨some 7, none, .mv (.t 0)⟩,
  ⟨some 8, none, .lenL (.t 7)⟩,
  ⟨some 9, none, .bin .lss (.t 6) (.t 8)⟩]) (.cond (.t 9) (.skip) (.exit 0))) (.seq (.blk 1 (.seq (.rg [⟨some 12, none, .mv (.t 0)⟩,
  ⟨some 13, none, .mv (.t 5)⟩,
  ⟨some 14, none, .ia 1 (.t 12) (.t 13)⟩,
  ⟨some 15, none, .ld (.t 14)⟩,
  ⟨some 16, none, .mv (.t 1)⟩,
  ⟨some 17, none, .bin .eql (.t 15) (.t 16)⟩]) (.cond (.t 17) (.seq (.rg [⟨some 4, none, .mv (.c (.bool true))⟩]) (.ret)) (.skip)))) (.rg [⟨some 10, none, .mv (.t 5)⟩,
  ⟨some 11, none, .bin .add (.t 10) (.c (.int .i64 1))⟩,
  ⟨some 5, none, .mv (.t 11)⟩]))
def s_spec_l16Has : SFn := ⟨18, .seq (.rg [⟨some 4, none, .mv (.c (.bool false))⟩]) (.seq (.seq (.rg [⟨some 5, none, .mv (.c (.int .i64 0))⟩]) (.blk 0 (.loop s_spec_l16Has_L0))) (.seq (.rg [⟨some 4, none, .mv (.c (.bool false))⟩]) (.ret))), [.t 4]⟩
def s_spec_l1In : SFn := ⟨15, .seq (.rg [⟨some 6, none, .mv (.c (.bool false))⟩]) (.seq (.rg [⟨some 7, none, .mv (.t 0)⟩,
  ⟨some 8, none, .mv (.t 1)⟩,
  ⟨some 9, none, .bin .geq (.t 7) (.t 8)⟩,
  ⟨some 10, none, .mv (.t 9)⟩,
  ⟨some 11, some (10, true), .mv (.t 0)⟩,
  ⟨some 12, some (10, true), .mv (.t 2)⟩,
  ⟨some 13, some (10, true), .bin .leq (.t 11) (.t 12)⟩,
  ⟨some 14, none, .pick (.t 10) (.t 13) (.c (.bool false))⟩,
  ⟨some 6, none, .mv (.t 14)⟩]) (.ret)), [.t 6]⟩
def s_spec_ReadSec_L0 : SCode := .seq (.seq (.rg [⟨some 19, none, .mv (.t 6)⟩,
  ⟨some 20, none, .bin .geq (.t 19) (.c (.int .i64 0))⟩]) (.cond (.t 20) (.skip) (.exit 0))) (.seq (.blk 1 (.seq (.rg [⟨some 23, none, .fa 1 (.t 2)⟩,
  ⟨some 24, none, .ld (.t 23)⟩,
  ⟨some 25, none, .mv (.t 6)⟩,
  ⟨some 26, none, .ia 2 (.t 24) (.t 25)⟩,
  ⟨some 27, none, .fa 0 (.t 26)⟩,
  ⟨some 28, none, .ld (.t 27)⟩,
  ⟨some 29, none, .mv (.t 1)⟩,
  ⟨some 30, none, .bin .eql (.t 28) (.t 29)⟩]) (.cond (.t 30) (.seq (.rg [⟨some 31, none, .bslice false [.int .u8 0] 0 []⟩,
  ⟨some 32, none, .fa 1 (.t 2)⟩,
  ⟨some 33, none, .ld (.t 32)⟩,
  ⟨some 34, none, .mv (.t 6)⟩,
  ⟨some 35, none, .ia 2 (.t 33) (.t 34)⟩,
  ⟨some 36, none, .fa 1 (.t 35)⟩,
  ⟨some 37, none, .ld (.t 36)⟩,
  ⟨some 38, none, .app false 1 1 (.t 31) (.t 37)⟩,
  ⟨some 4, none, .mv (.t 38)⟩,
  ⟨some 5, none, .mv (.c (.bool true))⟩]) (.ret)) (.skip)))) (.rg [⟨some 21, none, .mv (.t 6)⟩,
  ⟨some 22, none, .bin .sub (.t 21) (.c (.int .i64 1))⟩,
  ⟨some 6, none, .mv (.t 22)⟩]))
def s_spec_ReadSec : SFn := ⟨46, .seq (.rg [⟨some 2, none, .box (.t 0)⟩,
  ⟨some 4, none, .mv (.c .snil)⟩,
  ⟨some 5, none, .mv (.c (.bool false))⟩]) (.seq (.seq (.rg [⟨some 7, none, .mv (.t 1)⟩,
  ⟨some 8, none, .fa 0 (.t 2)⟩,
  ⟨some 9, none, .ld (.t 8)⟩,
  ⟨some 10, none, .lenL (.t 9)⟩,
  ⟨some 11, none, .bin .sub (.t 10) (.c (.int .i64 1))⟩,
  ⟨some 12, none, .callP 98 [.t 7, .c (.int .i64 0), .t 11]⟩,
  ⟨some 13, none, .un .not (.t 12)⟩]) (.cond (.t 13) (.seq (.rg [⟨some 14, none, .bslice false [.int .u8 0] 0 []⟩,
  ⟨some 4, none, .mv (.t 14)⟩,
  ⟨some 5, none, .mv (.c (.bool false))⟩]) (.ret)) (.skip))) (.seq (.seq (.rg [⟨some 15, none, .fa 1 (.t 2)⟩,
  ⟨some 16, none, .ld (.t 15)⟩,
  ⟨some 17, none, .lenL (.t 16)⟩,
  ⟨some 18, none, .bin .sub (.t 17) (.c (.int .i64 1))⟩,
  ⟨some 6, none, .mv (.t 18)⟩]) (.blk 0 (.loop s_spec_ReadSec_L0))) (.seq (.rg [⟨some 39, none, .bslice false [.int .u8 0] 0 []⟩,
  ⟨some 40, none, .fa 0 (.t 2)⟩,
  ⟨some 41, none, .ld (.t 40)⟩,
  ⟨some 42, none, .mv (.t 1)⟩,
  ⟨some 43, none, .ia 1 (.t 41) (.t 42)⟩,
  ⟨some 44, none, .ld (.t 43)⟩,
  ⟨some 45, none, .app false 1 1 (.t 39) (.t 44)⟩,
  ⟨some 4, none, .mv (.t 45)⟩,
  ⟨some 5, none, .mv (.c (.bool true))⟩]) (.ret)))), [.t 4, .t 5]⟩
def s_spec_Crc_L0 : SCode := .seq (.seq (.rg [⟨some 20, none, .mv (.t 5)⟩,
  ⟨some 21, none, .bin .lss (.t 20) (.c (.int .i64 8))⟩]) (.cond (.t 21) (.skip) (.exit 2))) (.seq (.blk 3 (.seq (.rg [⟨some 24, none, .mv (.t 3)⟩,
  ⟨some 25, none, .bin .and (.t 24) (.c (.int .i64 1))⟩,
  ⟨some 6, none, .mv (.t 25)⟩]) (.seq (.rg [⟨some 26, none, .mv (.t 3)⟩,
  ⟨some 27, none, .bin .shr (.t 26) (.c (.int .u64 1))⟩,
  ⟨some 3, none, .mv (.t 27)⟩]) (.seq (.rg [⟨some 28, none, .mv (.t 6)⟩,
  ⟨some 29, none, .bin .eql (.t 28) (.c (.int .i64 1))⟩]) (.cond (.t 29) (.rg [⟨some 30, none, .mv (.t 3)⟩,
  ⟨some 31, none, .bin .xor (.t 30) (.c (.int .i64 2197175160))⟩,
  ⟨some 3, none, .mv (.t 31)⟩]) (.skip)))))) (.rg [⟨some 22, none, .mv (.t 5)⟩,
  ⟨some 23, none, .bin .add (.t 22) (.c (.int .i64 1))⟩,
  ⟨some 5, none, .mv (.t 23)⟩]))
def s_spec_Crc_L1 : SCode := .seq (.seq (.rg [⟨some 7, none, .mv (.t 4)⟩,
  ⟨some 8, none, .mv (.t 0)⟩,
  ⟨some 9, none, .lenL (.t 8)⟩,
  ⟨some 10, none, .bin .lss (.t 7) (.t 9)⟩]) (.cond (.t 10) (.skip) (.exit 0))) (.seq (.blk 1 (.seq (.rg [⟨some 13, none, .mv (.t 3)⟩,
  ⟨some 14, none, .mv (.t 0)⟩,
  ⟨some 15, none, .mv (.t 4)⟩,
  ⟨some 16, none, .ia 1 (.t 14) (.t 15)⟩,
  ⟨some 17, none, .ld (.t 16)⟩,
  ⟨some 18, none, .cvI .i64 (.t 17)⟩,
  ⟨some 19, none, .bin .xor (.t 13) (.t 18)⟩,
  ⟨some 3, none, .mv (.t 19)⟩]) (.seq (.rg [⟨some 5, none, .mv (.c (.int .i64 0))⟩]) (.blk 2 (.loop s_spec_Crc_L0))))) (.rg [⟨some 11, none, .mv (.t 4)⟩,
  ⟨some 12, none, .bin .add (.t 11) (.c (.int .i64 1))⟩,
  ⟨some 4, none, .mv (.t 12)⟩]))
def s_spec_Crc : SFn := ⟨34, .seq (.rg [⟨some 2, none, .mv (.c (.int .i64 0))⟩]) (.seq (.rg [⟨some 3, none, .mv (.c (.int .i64 4294967295))⟩]) (.seq (.seq (.rg [⟨some 4, none, .mv (.c (.int .i64 0))⟩]) (.blk 0 (.loop s_spec_Crc_L1))) (.seq (.rg [⟨some 32, none, .mv (.t 3)⟩,
  ⟨some 33, none, .bin .xor (.t 32) (.c (.int .i64 4294967295))⟩,
  ⟨some 2, none, .mv (.t 33)⟩]) (.ret)))), [.t 2]⟩
def s_spec_GetSum_L0 : SCode := .seq (.seq (.rg [⟨some 14, none, .mv (.t 6)⟩,
  ⟨some 15, none, .mv (.t 0)⟩,
  ⟨some 16, none, .lenL (.t 15)⟩,
  ⟨some 17, none, .bin .lss (.t 14) (.t 16)⟩]) (.cond (.t 17) (.skip) (.exit 0))) (.seq (.blk 1 (.rg [⟨some 20, none, .mv (.t 5)⟩,
  ⟨some 21, none, .bin .shl (.t 20) (.c (.int .u64 8))⟩,
  ⟨some 22, none, .mv (.t 0)⟩,
  ⟨some 23, none, .mv (.t 6)⟩,
  ⟨some 24, none, .ia 1 (.t 22) (.t 23)⟩,
  ⟨some 25, none, .ld (.t 24)⟩,
  ⟨some 26, none, .cvI .i64 (.t 25)⟩,
  ⟨some 27, none, .bin .or (.t 21) (.t 26)⟩,
  ⟨some 5, none, .mv (.t 27)⟩])) (.rg [⟨some 18, none, .mv (.t 6)⟩,
  ⟨some 19, none, .bin .add (.t 18) (.c (.int .i64 1))⟩,
  ⟨some 6, none, .mv (.t 19)⟩]))
def s_spec_GetSum : SFn := ⟨40, .seq (.rg [⟨some 2, none, .mv (.c .snil)⟩,
  ⟨some 3, none, .mv (.c (.bool false))⟩]) (.seq (.rg [⟨some 7, none, .mv (.t 0)⟩,
  ⟨some 8, none, .lenL (.t 7)⟩,
  ⟨some 9, none, .bin .sub (.t 8) (.c (.int .i64 4))⟩,
  ⟨some 4, none, .mv (.t 9)⟩]) (.seq (.seq (.rg [⟨some 10, none, .mv (.t 4)⟩,
  ⟨some 11, none, .bin .lss (.t 10) (.c (.int .i64 0))⟩]) (.cond (.t 11) (.seq (.rg [⟨some 12, none, .bslice false [.int .u8 0] 0 []⟩,
  ⟨some 2, none, .mv (.t 12)⟩,
  ⟨some 3, none, .mv (.c (.bool false))⟩]) (.ret)) (.skip))) (.seq (.rg [⟨some 5, none, .mv (.c (.int .i64 0))⟩]) (.seq (.seq (.rg [⟨some 13, none, .mv (.t 4)⟩,
  ⟨some 6, none, .mv (.t 13)⟩]) (.blk 0 (.loop s_spec_GetSum_L0))) (.seq (.seq (.rg [⟨some 28, none, .mv (.t 5)⟩,
  ⟨some 29, none, .mv (.t 0)⟩,
  ⟨some 30, none, .mv (.t 4)⟩,
  ⟨some 31, none, .sliL 1 (.t 29) none (some (.t 30))⟩,
  ⟨some 32, none, .callP 136 [.t 31]⟩,
  ⟨some 33, none, .bin .neq (.t 28) (.t 32)⟩]) (.cond (.t 33) (.seq (.rg [⟨some 34, none, .bslice false [.int .u8 0] 0 []⟩,
  ⟨some 2, none, .mv (.t 34)⟩,
  ⟨some 3, none, .mv (.c (.bool false))⟩]) (.ret)) (.skip))) (.seq (.rg [⟨some 35, none, .bslice false [.int .u8 0] 0 []⟩,
  ⟨some 36, none, .mv (.t 0)⟩,
  ⟨some 37, none, .mv (.t 4)⟩,
  ⟨some 38, none, .sliL 1 (.t 36) none (some (.t 37))⟩,
  ⟨some 39, none, .app false 1 1 (.t 35) (.t 38)⟩,
  ⟨some 2, none, .mv (.t 39)⟩,
  ⟨some 3, none, .mv (.c (.bool true))⟩]) (.ret))))))), [.t 2, .t 3]⟩
def s_spec_GetU_L0 : SCode := .seq (.seq (.rg [⟨some 10, none, .mv (.t 8)⟩,
  ⟨some 11, none, .bin .lss (.t 10) (.c (.int .i64 3))⟩,
  ⟨some 12, none, .mv (.t 11)⟩,
  ⟨some 13, some (12, true), .mv (.t 1)⟩,
  ⟨some 14, some (12, true), .bin .geq (.t 13) (.c (.int .i64 0))⟩,
  ⟨some 15, none, .pick (.t 12) (.t 14) (.c (.bool false))⟩,
  ⟨some 16, none, .mv (.t 15)⟩,
  ⟨some 17, some (16, true), .mv (.t 1)⟩,
  ⟨some 18, some (16, true), .mv (.t 0)⟩,
  ⟨some 19, some (16, true), .lenL (.t 18)⟩,
  ⟨some 20, some (16, true), .bin .lss (.t 17) (.t 19)⟩,
  ⟨some 21, none, .pick (.t 16) (.t 20) (.c (.bool false))⟩,
  ⟨some 22, none, .mv (.t 21)⟩,
  ⟨some 23, some (22, true), .mv (.t 1)⟩,
  ⟨some 24, some (22, true), .mv (.t 8)⟩,
  ⟨some 25, some (22, true), .bin .add (.t 23) (.t 24)⟩,
  ⟨some 26, some (22, true), .mv (.t 0)⟩,
  ⟨some 27, some (22, true), .lenL (.t 26)⟩,
  ⟨some 28, some (22, true), .bin .lss (.t 25) (.t 27)⟩,
  ⟨some 29, none, .pick (.t 22) (.t 28) (.c (.bool false))⟩]) (.cond (.t 29) (.skip) (.exit 0))) (.seq (.blk 1 (.seq (.rg [⟨some 32, none, .mv (.t 0)⟩,
  ⟨some 33, none, .mv (.t 1)⟩,
  ⟨some 34, none, .mv (.t 8)⟩,
  ⟨some 35, none, .bin .add (.t 33) (.t 34)⟩,
  ⟨some 36, none, .ia 1 (.t 32) (.t 35)⟩,
  ⟨some 37, none, .ld (.t 36)⟩,
  ⟨some 38, none, .cvI .i64 (.t 37)⟩,
  ⟨some 9, none, .mv (.t 38)⟩]) (.seq (.rg [⟨some 39, none, .mv (.t 7)⟩,
  ⟨some 40, none, .mv (.t 9)⟩,
  ⟨some 41, none, .bin .and (.t 40) (.c (.int .i64 127))⟩,
  ⟨some 42, none, .mv (.t 8)⟩,
  ⟨some 43, none, .bin .mul (.c (.int .i64 7)) (.t 42)⟩,
  ⟨some 44, none, .cvI .u64 (.t 43)⟩,
  ⟨some 45, none, .bin .shl (.t 41) (.t 44)⟩,
  ⟨some 46, none, .bin .or (.t 39) (.t 45)⟩,
  ⟨some 7, none, .mv (.t 46)⟩]) (.seq (.seq (.rg [⟨some 47, none, .mv (.t 9)⟩,
  ⟨some 48, none, .bin .gtr (.t 47) (.c (.int .i64 127))⟩]) (.cond (.t 48) (.exit 1) (.skip))) (.seq (.seq (.rg [⟨some 49, none, .mv (.t 8)⟩,
  ⟨some 50, none, .bin .gtr (.t 49) (.c (.int .i64 0))⟩,
  ⟨some 51, none, .mv (.t 50)⟩,
  ⟨some 52, some (51, true), .mv (.t 9)⟩,
  ⟨some 53, some (51, true), .bin .eql (.t 52) (.c (.int .i64 0))⟩,
  ⟨some 54, none, .pick (.t 51) (.t 53) (.c (.bool false))⟩,
  ⟨some 55, none, .mv (.t 54)⟩,
  ⟨some 56, some (55, false), .mv (.t 7)⟩,
  ⟨some 57, some (55, false), .bin .gtr (.t 56) (.c (.int .i64 1000000))⟩,
  ⟨some 58, none, .pick (.t 55) (.c (.bool true)) (.t 57)⟩]) (.cond (.t 58) (.seq (.rg [⟨some 4, none, .mv (.c (.int .i64 0))⟩,
  ⟨some 5, none, .mv (.c (.int .i64 0))⟩,
  ⟨some 6, none, .mv (.c (.bool false))⟩]) (.ret)) (.skip))) (.seq (.rg [⟨some 59, none, .mv (.t 7)⟩,
  ⟨some 60, none, .mv (.t 1)⟩,
  ⟨some 61, none, .mv (.t 8)⟩,
  ⟨some 62, none, .bin .add (.t 60) (.t 61)⟩,
  ⟨some 63, none, .bin .add (.t 62) (.c (.int .i64 1))⟩,
  ⟨some 4, none, .mv (.t 59)⟩,
  ⟨some 5, none, .mv (.t 63)⟩,
  ⟨some 6, none, .mv (.c (.bool true))⟩]) (.ret))))))) (.rg [⟨some 30, none, .mv (.t 8)⟩,
  ⟨some 31, none, .bin .add (.t 30) (.c (.int .i64 1))⟩,
  ⟨some 8, none, .mv (.t 31)⟩]))
def s_spec_GetU : SFn := ⟨64, .seq (.rg [⟨some 4, none, .mv (.c (.int .i64 0))⟩,
  ⟨some 5, none, .mv (.c (.int .i64 0))⟩,
  ⟨some 6, none, .mv (.c (.bool false))⟩]) (.seq (.rg [⟨some 7, none, .mv (.c (.int .i64 0))⟩]) (.seq (.seq (.rg [⟨some 8, none, .mv (.c (.int .i64 0))⟩]) (.blk 0 (.loop s_spec_GetU_L0))) (.seq (.rg [⟨some 4, none, .mv (.c (.int .i64 0))⟩,
  ⟨some 5, none, .mv (.c (.int .i64 0))⟩,
  ⟨some 6, none, .mv (.c (.bool false))⟩]) (.ret)))), [.t 4, .t 5, .t 6]⟩
def s_spec_GetText : SFn := ⟨37, .seq (.rg [⟨some 4, none, .mv (.c (.str []))⟩,
  ⟨some 5, none, .mv (.c (.int .i64 0))⟩,
  ⟨some 6, none, .mv (.c (.bool false))⟩]) (.seq (.rg [⟨some 11, none, .mv (.t 0)⟩,
  ⟨some 12, none, .mv (.t 1)⟩,
  ⟨some 13, none, .callP 100 [.t 11, .t 12]⟩,
  ⟨some 10, none, .mv (.t 13)⟩,
  ⟨some 14, none, .ext (.t 10) 0⟩,
  ⟨some 15, none, .ext (.t 10) 1⟩,
  ⟨some 16, none, .ext (.t 10) 2⟩,
  ⟨some 7, none, .mv (.t 14)⟩,
  ⟨some 8, none, .mv (.t 15)⟩,
  ⟨some 9, none, .mv (.t 16)⟩]) (.seq (.seq (.rg [⟨some 17, none, .mv (.t 9)⟩,
  ⟨some 18, none, .un .not (.t 17)⟩,
  ⟨some 19, none, .mv (.t 18)⟩,
  ⟨some 20, some (19, false), .mv (.t 7)⟩,
  ⟨some 21, some (19, false), .mv (.t 0)⟩,
  ⟨some 22, some (19, false), .lenL (.t 21)⟩,
  ⟨some 23, some (19, false), .mv (.t 8)⟩,
  ⟨some 24, some (19, false), .bin .sub (.t 22) (.t 23)⟩,
  ⟨some 25, some (19, false), .bin .gtr (.t 20) (.t 24)⟩,
  ⟨some 26, none, .pick (.t 19) (.c (.bool true)) (.t 25)⟩]) (.cond (.t 26) (.seq (.rg [⟨some 4, none, .mv (.c (.str []))⟩,
  ⟨some 5, none, .mv (.c (.int .i64 0))⟩,
  ⟨some 6, none, .mv (.c (.bool false))⟩]) (.ret)) (.skip))) (.seq (.rg [⟨some 27, none, .mv (.t 0)⟩,
  ⟨some 28, none, .mv (.t 8)⟩,
  ⟨some 29, none, .mv (.t 8)⟩,
  ⟨some 30, none, .mv (.t 7)⟩,
  ⟨some 31, none, .bin .add (.t 29) (.t 30)⟩,
  ⟨some 32, none, .sliL 1 (.t 27) (some (.t 28)) (some (.t 31))⟩,
  ⟨some 33, none, .cvS (.t 32)⟩,
  ⟨some 34, none, .mv (.t 8)⟩,
  ⟨some 35, none, .mv (.t 7)⟩,
  ⟨some 36, none, .bin .add (.t 34) (.t 35)⟩,
  ⟨some 4, none, .mv (.t 33)⟩,
  ⟨some 5, none, .mv (.t 36)⟩,
  ⟨some 6, none, .mv (.c (.bool true))⟩]) (.ret)))), [.t 4, .t 5, .t 6]⟩
def s_spec_GetPage : SFn := ⟨61, .seq (.rg [⟨some 2, none, .mv (.c (.int .i64 0))⟩,
  ⟨some 3, none, .mv (.c .snil)⟩,
  ⟨some 4, none, .mv (.c (.bool false))⟩]) (.seq (.rg [⟨some 14, none, .mv (.t 0)⟩,
  ⟨some 15, none, .callP 118 [.t 14]⟩,
  ⟨some 13, none, .mv (.t 15)⟩,
  ⟨some 16, none, .ext (.t 13) 0⟩,
  ⟨some 17, none, .ext (.t 13) 1⟩,
  ⟨some 5, none, .mv (.t 16)⟩,
  ⟨some 6, none, .mv (.t 17)⟩]) (.seq (.rg [⟨some 19, none, .mv (.t 5)⟩,
  ⟨some 20, none, .callP 100 [.t 19, .c (.int .i64 0)]⟩,
  ⟨some 18, none, .mv (.t 20)⟩,
  ⟨some 21, none, .ext (.t 18) 0⟩,
  ⟨some 22, none, .ext (.t 18) 1⟩,
  ⟨some 23, none, .ext (.t 18) 2⟩,
  ⟨some 7, none, .mv (.t 21)⟩,
  ⟨some 8, none, .mv (.t 22)⟩,
  ⟨some 9, none, .mv (.t 23)⟩]) (.seq (.rg [⟨some 25, none, .mv (.t 5)⟩,
  ⟨some 26, none, .mv (.t 8)⟩,
  ⟨some 27, none, .callP 119 [.t 25, .t 26]⟩,
  ⟨some 24, none, .mv (.t 27)⟩,
  ⟨some 28, none, .ext (.t 24) 0⟩,
  ⟨some 29, none, .ext (.t 24) 1⟩,
  ⟨some 30, none, .ext (.t 24) 2⟩,
  ⟨some 10, none, .mv (.t 28)⟩,
  ⟨some 11, none, .mv (.t 29)⟩,
  ⟨some 12, none, .mv (.t 30)⟩]) (.seq (.seq (.rg [⟨some 31, none, .mv (.t 6)⟩,
  ⟨some 32, none, .un .not (.t 31)⟩,
  ⟨some 33, none, .mv (.t 32)⟩,
  ⟨some 34, some (33, false), .mv (.t 9)⟩,
  ⟨some 35, some (33, false), .un .not (.t 34)⟩,
  ⟨some 36, none, .pick (.t 33) (.c (.bool true)) (.t 35)⟩,
  ⟨some 37, none, .mv (.t 36)⟩,
  ⟨some 38, some (37, false), .mv (.t 12)⟩,
  ⟨some 39, some (37, false), .un .not (.t 38)⟩,
  ⟨some 40, none, .pick (.t 37) (.c (.bool true)) (.t 39)⟩,
  ⟨some 41, none, .mv (.t 40)⟩,
  ⟨some 42, some (41, false), .mv (.t 11)⟩,
  ⟨some 43, some (41, false), .mv (.t 5)⟩,
  ⟨some 44, some (41, false), .lenL (.t 43)⟩,
  ⟨some 45, some (41, false), .bin .neq (.t 42) (.t 44)⟩,
  ⟨some 46, none, .pick (.t 41) (.c (.bool true)) (.t 45)⟩,
  ⟨some 47, none, .mv (.t 46)⟩,
  ⟨some 48, some (47, false), .mv (.t 7)⟩,
  ⟨some 49, some (47, false), .callP 98 [.t 48, .c (.int .i64 1), .c (.int .i64 2)]⟩,
  ⟨some 50, some (47, false), .un .not (.t 49)⟩,
  ⟨some 51, none, .pick (.t 47) (.c (.bool true)) (.t 50)⟩,
  ⟨some 52, none, .mv (.t 51)⟩,
  ⟨some 53, some (52, false), .mv (.t 10)⟩,
  ⟨some 54, some (52, false), .lenS (.t 53)⟩,
  ⟨some 55, some (52, false), .bin .gtr (.t 54) (.c (.int .i64 240))⟩,
  ⟨some 56, none, .pick (.t 52) (.c (.bool true)) (.t 55)⟩]) (.cond (.t 56) (.seq (.rg [⟨some 57, none, .bslice false [.int .u8 0] 0 []⟩,
  ⟨some 2, none, .mv (.c (.int .i64 0))⟩,
  ⟨some 3, none, .mv (.t 57)⟩,
  ⟨some 4, none, .mv (.c (.bool false))⟩]) (.ret)) (.skip))) (.seq (.rg [⟨some 58, none, .mv (.t 7)⟩,
  ⟨some 59, none, .mv (.t 10)⟩,
  ⟨some 60, none, .cvB (.t 59)⟩,
  ⟨some 2, none, .mv (.t 58)⟩,
  ⟨some 3, none, .mv (.t 60)⟩,
  ⟨some 4, none, .mv (.c (.bool true))⟩]) (.ret)))))), [.t 2, .t 3, .t 4]⟩
def s_spec_MetaOk : SFn := ⟨16, .seq (.rg [⟨some 1, none, .box (.t 0)⟩,
  ⟨some 2, none, .mv (.c (.bool false))⟩]) (.seq (.rg [⟨some 3, none, .fa 0 (.t 1)⟩,
  ⟨some 4, none, .ld (.t 3)⟩,
  ⟨some 5, none, .callP 98 [.t 4, .c (.int .i64 0), .c (.int .i64 1000000)]⟩,
  ⟨some 6, none, .mv (.t 5)⟩,
  ⟨some 7, some (6, true), .fa 1 (.t 1)⟩,
  ⟨some 8, some (6, true), .ld (.t 7)⟩,
  ⟨some 9, some (6, true), .bin .eql (.t 8) (.c (.int .i64 0))⟩,
  ⟨some 10, some (6, true), .mv (.t 9)⟩,
  ⟨some 11, some (10, false), .fa 1 (.t 1)⟩,
  ⟨some 12, some (10, false), .ld (.t 11)⟩,
  ⟨some 13, some (10, false), .callP 98 [.t 12, .c (.int .i64 2), .c (.int .i64 47)]⟩,
  ⟨some 14, some (6, true), .pick (.t 10) (.c (.bool true)) (.t 13)⟩,
  ⟨some 15, none, .pick (.t 6) (.t 14) (.c (.bool false))⟩,
  ⟨some 2, none, .mv (.t 15)⟩]) (.ret)), [.t 2]⟩
def s_spec_GetMeta : SFn := ⟨63, .seq (.rg [⟨some 2, none, .alloc [.int .i64 0, .int .i64 0]⟩,
  ⟨some 3, none, .mv (.c (.bool false))⟩]) (.seq (.rg [⟨some 15, none, .mv (.t 0)⟩,
  ⟨some 16, none, .callP 99 [.t 15]⟩,
  ⟨some 14, none, .mv (.t 16)⟩,
  ⟨some 17, none, .ext (.t 14) 0⟩,
  ⟨some 18, none, .ext (.t 14) 1⟩,
  ⟨some 19, none, .ext (.t 14) 2⟩,
  ⟨some 4, none, .mv (.t 17)⟩,
  ⟨some 5, none, .mv (.t 18)⟩,
  ⟨some 6, none, .mv (.t 19)⟩]) (.seq (.rg [⟨some 21, none, .mv (.t 5)⟩,
  ⟨some 22, none, .callP 100 [.t 21, .c (.int .i64 0)]⟩,
  ⟨some 20, none, .mv (.t 22)⟩,
  ⟨some 23, none, .ext (.t 20) 0⟩,
  ⟨some 24, none, .ext (.t 20) 1⟩,
  ⟨some 25, none, .ext (.t 20) 2⟩,
  ⟨some 7, none, .mv (.t 23)⟩,
  ⟨some 8, none, .mv (.t 24)⟩,
  ⟨some 9, none, .mv (.t 25)⟩]) (.seq (.rg [⟨some 27, none, .mv (.t 5)⟩,
  ⟨some 28, none, .mv (.t 8)⟩,
  ⟨some 29, none, .callP 100 [.t 27, .t 28]⟩,
  ⟨some 26, none, .mv (.t 29)⟩,
  ⟨some 30, none, .ext (.t 26) 0⟩,
  ⟨some 31, none, .ext (.t 26) 1⟩,
  ⟨some 32, none, .ext (.t 26) 2⟩,
  ⟨some 10, none, .mv (.t 30)⟩,
  ⟨some 11, none, .mv (.t 31)⟩,
  ⟨some 12, none, .mv (.t 32)⟩]) (.seq (.rg [⟨some 33, none, .mv (.t 7)⟩,
  ⟨some 34, none, .mv (.t 10)⟩,
  ⟨some 35, none, .build [.int .i64 0, .int .i64 0] [(0, (1, .t 33)), (1, (1, .t 34))]⟩,
  ⟨some 13, none, .alloc [.int .i64 0, .int .i64 0]⟩,
  ⟨none, none, .st 2 (.t 13) (.t 35)⟩]) (.seq (.seq (.rg [⟨some 36, none, .mv (.t 6)⟩,
  ⟨some 37, none, .un .not (.t 36)⟩,
  ⟨some 38, none, .mv (.t 37)⟩,
  ⟨some 39, some (38, false), .mv (.t 4)⟩,
  ⟨some 40, some (38, false), .bin .neq (.t 39) (.c (.int .i64 2))⟩,
  ⟨some 41, none, .pick (.t 38) (.c (.bool true)) (.t 40)⟩,
  ⟨some 42, none, .mv (.t 41)⟩,
  ⟨some 43, some (42, false), .mv (.t 9)⟩,
  ⟨some 44, some (42, false), .un .not (.t 43)⟩,
  ⟨some 45, none, .pick (.t 42) (.c (.bool true)) (.t 44)⟩,
  ⟨some 46, none, .mv (.t 45)⟩,
  ⟨some 47, some (46, false), .mv (.t 12)⟩,
  ⟨some 48, some (46, false), .un .not (.t 47)⟩,
  ⟨some 49, none, .pick (.t 46) (.c (.bool true)) (.t 48)⟩,
  ⟨some 50, none, .mv (.t 49)⟩,
  ⟨some 51, some (50, false), .mv (.t 11)⟩,
  ⟨some 52, some (50, false), .mv (.t 5)⟩,
  ⟨some 53, some (50, false), .lenL (.t 52)⟩,
  ⟨some 54, some (50, false), .bin .neq (.t 51) (.t 53)⟩,
  ⟨some 55, none, .pick (.t 50) (.c (.bool true)) (.t 54)⟩,
  ⟨some 56, none, .mv (.t 55)⟩,
  ⟨some 57, some (56, false), .ldA 2 (.t 13)⟩,
  ⟨some 58, some (56, false), .callP 101 [.t 57]⟩,
  ⟨some 59, some (56, false), .un .not (.t 58)⟩,
  ⟨some 60, none, .pick (.t 56) (.c (.bool true)) (.t 59)⟩]) (.cond (.t 60) (.seq (.rg [⟨some 61, none, .build [.int .i64 0, .int .i64 0] []⟩,
  ⟨none, none, .st 2 (.t 2) (.t 61)⟩,
  ⟨some 3, none, .mv (.c (.bool false))⟩]) (.ret)) (.skip))) (.seq (.rg [⟨some 62, none, .ldA 2 (.t 13)⟩,
  ⟨none, none, .st 2 (.t 2) (.t 62)⟩,
  ⟨some 3, none, .mv (.c (.bool true))⟩]) (.ret))))))), [.ldA 2 2, .t 3]⟩
def s_spec_BestMeta_L0 : SCode := .seq (.seq (.rg [⟨some 12, none, .mv (.t 6)⟩,
  ⟨some 13, none, .bin .lss (.t 12) (.c (.int .i64 2))⟩]) (.cond (.t 13) (.skip) (.exit 0))) (.seq (.blk 1 (.seq (.rg [⟨some 17, none, .ldA 5 (.t 1)⟩,
  ⟨some 18, none, .mv (.t 6)⟩,
  ⟨some 19, none, .callP 64 [.t 17, .t 18]⟩,
  ⟨some 16, none, .mv (.t 19)⟩,
  ⟨some 20, none, .ext (.t 16) 0⟩,
  ⟨some 21, none, .ext (.t 16) 1⟩,
  ⟨some 7, none, .mv (.t 20)⟩,
  ⟨some 8, none, .mv (.t 21)⟩]) (.seq (.rg [⟨some 23, none, .mv (.t 7)⟩,
  ⟨some 24, none, .callP 65 [.t 23]⟩,
  ⟨some 22, none, .mv (.t 24)⟩,
  ⟨some 25, none, .ext (.t 22) 0⟩,
  ⟨some 26, none, .ext (.t 22) 1⟩,
  ⟨some 9, none, .alloc [.int .i64 0, .int .i64 0]⟩,
  ⟨none, none, .st 2 (.t 9) (.t 25)⟩,
  ⟨some 10, none, .mv (.t 26)⟩]) (.seq (.rg [⟨some 27, none, .mv (.t 8)⟩,
  ⟨some 28, none, .mv (.t 27)⟩,
  ⟨some 29, some (28, true), .mv (.t 10)⟩,
  ⟨some 30, none, .pick (.t 28) (.t 29) (.c (.bool false))⟩,
  ⟨some 31, none, .mv (.t 30)⟩,
  ⟨some 32, some (31, true), .fa 0 (.t 9)⟩,
  ⟨some 33, some (31, true), .ld (.t 32)⟩,
  ⟨some 34, some (31, true), .bin .rem (.t 33) (.c (.int .i64 2))⟩,
  ⟨some 35, some (31, true), .mv (.t 6)⟩,
  ⟨some 36, some (31, true), .bin .eql (.t 34) (.t 35)⟩,
  ⟨some 37, none, .pick (.t 31) (.t 36) (.c (.bool false))⟩,
  ⟨some 38, none, .mv (.t 37)⟩,
  ⟨some 39, some (38, true), .mv (.t 5)⟩,
  ⟨some 40, some (38, true), .un .not (.t 39)⟩,
  ⟨some 41, some (38, true), .mv (.t 40)⟩,
  ⟨some 42, some (41, false), .fa 0 (.t 9)⟩,
  ⟨some 43, some (41, false), .ld (.t 42)⟩,
  ⟨some 44, some (41, false), .fa 0 (.t 4)⟩,
  ⟨some 45, some (41, false), .ld (.t 44)⟩,
  ⟨some 46, some (41, false), .bin .gtr (.t 43) (.t 45)⟩,
  ⟨some 47, some (38, true), .pick (.t 41) (.c (.bool true)) (.t 46)⟩,
  ⟨some 48, none, .pick (.t 38) (.t 47) (.c (.bool false))⟩]) (.cond (.t 48) (.seq (.rg [⟨some 49, none, .ldA 2 (.t 9)⟩,
  ⟨none, none, .st 2 (.t 4) (.t 49)⟩]) (.rg [⟨some 5, none, .mv (.c (.bool true))⟩])) (.skip)))))) (.rg [⟨some 14, none, .mv (.t 6)⟩,
  ⟨some 15, none, .bin .add (.t 14) (.c (.int .i64 1))⟩,
  ⟨some 6, none, .mv (.t 15)⟩]))
def s_spec_BestMeta : SFn := ⟨52, .seq (.rg [⟨some 1, none, .box (.t 0)⟩,
  ⟨some 2, none, .alloc [.int .i64 0, .int .i64 0]⟩,
  ⟨some 3, none, .mv (.c (.bool false))⟩]) (.seq (.rg [⟨some 11, none, .build [.int .i64 0, .int .i64 0] []⟩,
  ⟨some 4, none, .alloc [.int .i64 0, .int .i64 0]⟩,
  ⟨none, none, .st 2 (.t 4) (.t 11)⟩]) (.seq (.rg [⟨some 5, none, .mv (.c (.bool false))⟩]) (.seq (.seq (.rg [⟨some 6, none, .mv (.c (.int .i64 0))⟩]) (.blk 0 (.loop s_spec_BestMeta_L0))) (.seq (.rg [⟨some 50, none, .ldA 2 (.t 4)⟩,
  ⟨some 51, none, .mv (.t 5)⟩,
  ⟨none, none, .st 2 (.t 2) (.t 50)⟩,
  ⟨some 3, none, .mv (.t 51)⟩]) (.ret))))), [.ldA 2 2, .t 3]⟩
def s_spec_l12Copy_L0 : SCode := .seq (.seq (.rg [⟨some 15, none, .mv (.t 4)⟩,
  ⟨some 16, none, .fa 0 (.t 1)⟩,
  ⟨some 17, none, .ld (.t 16)⟩,
  ⟨some 18, none, .lenL (.t 17)⟩,
  ⟨some 19, none, .bin .lss (.t 15) (.t 18)⟩]) (.cond (.t 19) (.skip) (.exit 0))) (.seq (.blk 1 (.rg [⟨some 22, none, .fa 0 (.t 3)⟩,
  ⟨some 23, none, .ld (.t 22)⟩,
  ⟨some 24, none, .emp⟩,
  ⟨some 25, none, .fa 0 (.t 1)⟩,
  ⟨some 26, none, .ld (.t 25)⟩,
  ⟨some 27, none, .mv (.t 4)⟩,
  ⟨some 28, none, .ia 1 (.t 26) (.t 27)⟩,
  ⟨some 29, none, .ld (.t 28)⟩,
  ⟨some 30, none, .appI 1 1 (.t 24) (.t 29)⟩,
  ⟨some 31, none, .bslice false [.snil] 1 [(0, .t 30)]⟩,
  ⟨some 32, none, .app false 24 1 (.t 23) (.t 31)⟩,
  ⟨some 33, none, .fa 0 (.t 3)⟩,
  ⟨none, none, .st 1 (.t 33) (.t 32)⟩])) (.rg [⟨some 20, none, .mv (.t 4)⟩,
  ⟨some 21, none, .bin .add (.t 20) (.c (.int .i64 1))⟩,
  ⟨some 4, none, .mv (.t 21)⟩]))
def s_spec_l12Copy_L1 : SCode := .seq (.seq (.rg [⟨some 34, none, .mv (.t 5)⟩,
  ⟨some 35, none, .fa 1 (.t 1)⟩,
  ⟨some 36, none, .ld (.t 35)⟩,
  ⟨some 37, none, .lenL (.t 36)⟩,
  ⟨some 38, none, .bin .lss (.t 34) (.t 37)⟩]) (.cond (.t 38) (.skip) (.exit 2))) (.seq (.blk 3 (.rg [⟨some 41, none, .fa 1 (.t 3)⟩,
  ⟨some 42, none, .ld (.t 41)⟩,
  ⟨some 43, none, .fa 1 (.t 1)⟩,
  ⟨some 44, none, .ld (.t 43)⟩,
  ⟨some 45, none, .mv (.t 5)⟩,
  ⟨some 46, none, .ia 2 (.t 44) (.t 45)⟩,
  ⟨some 47, none, .fa 0 (.t 46)⟩,
  ⟨some 48, none, .ld (.t 47)⟩,
  ⟨some 49, none, .emp⟩,
  ⟨some 50, none, .fa 1 (.t 1)⟩,
  ⟨some 51, none, .ld (.t 50)⟩,
  ⟨some 52, none, .mv (.t 5)⟩,
  ⟨some 53, none, .ia 2 (.t 51) (.t 52)⟩,
  ⟨some 54, none, .fa 1 (.t 53)⟩,
  ⟨some 55, none, .ld (.t 54)⟩,
  ⟨some 56, none, .appI 1 1 (.t 49) (.t 55)⟩,
  ⟨some 57, none, .build [.int .i64 0, .snil] [(0, (1, .t 48)), (1, (1, .t 56))]⟩,
  ⟨some 58, none, .bslice false [.int .i64 0, .snil] 1 [(0, .t 57)]⟩,
  ⟨some 59, none, .app false 32 2 (.t 42) (.t 58)⟩,
  ⟨some 60, none, .fa 1 (.t 3)⟩,
  ⟨none, none, .st 1 (.t 60) (.t 59)⟩])) (.rg [⟨some 39, none, .mv (.t 5)⟩,
  ⟨some 40, none, .bin .add (.t 39) (.c (.int .i64 1))⟩,
  ⟨some 5, none, .mv (.t 40)⟩]))
def s_spec_l12Copy : SFn := ⟨62, .seq (.rg [⟨some 1, none, .box (.t 0)⟩,
  ⟨some 2, none, .alloc [.snil, .snil, .int .i64 0, .snil, .bool false]⟩]) (.seq (.rg [⟨some 6, none, .fa 2 (.t 1)⟩,
  ⟨some 7, none, .ld (.t 6)⟩,
  ⟨some 8, none, .emp⟩,
  ⟨some 9, none, .fa 3 (.t 1)⟩,
  ⟨some 10, none, .ld (.t 9)⟩,
  ⟨some 11, none, .appI 24 3 (.t 8) (.t 10)⟩,
  ⟨some 12, none, .fa 4 (.t 1)⟩,
  ⟨some 13, none, .ld (.t 12)⟩,
  ⟨some 14, none, .build [.snil, .snil, .int .i64 0, .snil, .bool false] [(2, (1, .t 7)), (3, (1, .t 11)), (4, (1, .t 13))]⟩,
  ⟨some 3, none, .alloc [.snil, .snil, .int .i64 0, .snil, .bool false]⟩,
  ⟨none, none, .st 5 (.t 3) (.t 14)⟩]) (.seq (.seq (.rg [⟨some 4, none, .mv (.c (.int .i64 0))⟩]) (.blk 0 (.loop s_spec_l12Copy_L0))) (.seq (.seq (.rg [⟨some 5, none, .mv (.c (.int .i64 0))⟩]) (.blk 2 (.loop s_spec_l12Copy_L1))) (.seq (.rg [⟨some 61, none, .ldA 5 (.t 3)⟩,
  ⟨none, none, .st 5 (.t 2) (.t 61)⟩]) (.ret))))), [.ldA 2 5]⟩
def s_spec_TxNew : SFn := ⟨19, .seq (.rg [⟨some 1, none, .box (.t 0)⟩,
  ⟨some 2, none, .alloc [.snil, .snil, .int .i64 0, .snil, .bool false, .int .i64 0, .int .i64 0, .int .i64 0, .snil]⟩]) (.seq (.rg [⟨some 6, none, .ldA 5 (.t 1)⟩,
  ⟨some 7, none, .callP 36 [.t 6]⟩,
  ⟨some 5, none, .mv (.t 7)⟩,
  ⟨some 8, none, .ext (.t 5) 0⟩,
  ⟨some 9, none, .ext (.t 5) 1⟩,
  ⟨some 3, none, .alloc [.int .i64 0, .int .i64 0]⟩,
  ⟨none, none, .st 2 (.t 3) (.t 8)⟩,
  ⟨some 4, none, .mv (.t 9)⟩]) (.seq (.seq (.rg [⟨some 10, none, .mv (.t 4)⟩,
  ⟨some 11, none, .un .not (.t 10)⟩]) (.cond (.t 11) (.seq (.rg [⟨some 12, none, .build [.snil, .snil, .int .i64 0, .snil, .bool false, .int .i64 0, .int .i64 0, .int .i64 0, .snil] []⟩,
  ⟨none, none, .st 9 (.t 2) (.t 12)⟩]) (.ret)) (.skip))) (.seq (.rg [⟨some 13, none, .ldA 5 (.t 1)⟩,
  ⟨some 14, none, .callP 37 [.t 13]⟩,
  ⟨some 15, none, .ldA 2 (.t 3)⟩,
  ⟨some 16, none, .fa 1 (.t 3)⟩,
  ⟨some 17, none, .ld (.t 16)⟩,
  ⟨some 18, none, .build [.snil, .snil, .int .i64 0, .snil, .bool false, .int .i64 0, .int .i64 0, .int .i64 0, .snil] [(0, (5, .t 14)), (5, (2, .t 15)), (7, (1, .t 17))]⟩,
  ⟨none, none, .st 9 (.t 2) (.t 18)⟩]) (.ret)))), [.ldA 2 9]⟩
def s_spec_l14Copy : SFn := ⟨18, .seq (.rg [⟨some 1, none, .box (.t 0)⟩,
  ⟨some 2, none, .alloc [.bool false, .snil, .snil, .snil]⟩]) (.seq (.rg [⟨some 3, none, .fa 0 (.t 1)⟩,
  ⟨some 4, none, .ld (.t 3)⟩,
  ⟨some 5, none, .emp⟩,
  ⟨some 6, none, .fa 1 (.t 1)⟩,
  ⟨some 7, none, .ld (.t 6)⟩,
  ⟨some 8, none, .appI 16 1 (.t 5) (.t 7)⟩,
  ⟨some 9, none, .emp⟩,
  ⟨some 10, none, .fa 2 (.t 1)⟩,
  ⟨some 11, none, .ld (.t 10)⟩,
  ⟨some 12, none, .appI 16 1 (.t 9) (.t 11)⟩,
  ⟨some 13, none, .emp⟩,
  ⟨some 14, none, .fa 3 (.t 1)⟩,
  ⟨some 15, none, .ld (.t 14)⟩,
  ⟨some 16, none, .appI 8 1 (.t 13) (.t 15)⟩,
  ⟨some 17, none, .build [.bool false, .snil, .snil, .snil] [(0, (1, .t 4)), (1, (1, .t 8)), (2, (1, .t 12)), (3, (1, .t 16))]⟩,
  ⟨none, none, .st 4 (.t 2) (.t 17)⟩]) (.ret)), [.ldA 2 4]⟩
def s_spec_PageAt : SFn := ⟨38, .seq (.rg [⟨some 3, none, .box (.t 0)⟩,
  ⟨some 6, none, .mv (.c .snil)⟩,
  ⟨some 7, none, .mv (.c (.bool false))⟩]) (.seq (.rg [⟨some 14, none, .ldA 5 (.t 3)⟩,
  ⟨some 15, none, .mv (.t 1)⟩,
  ⟨some 16, none, .callP 64 [.t 14, .t 15]⟩,
  ⟨some 13, none, .mv (.t 16)⟩,
  ⟨some 17, none, .ext (.t 13) 0⟩,
  ⟨some 18, none, .ext (.t 13) 1⟩,
  ⟨some 8, none, .mv (.t 17)⟩,
  ⟨some 9, none, .mv (.t 18)⟩]) (.seq (.rg [⟨some 20, none, .mv (.t 8)⟩,
  ⟨some 21, none, .callP 99 [.t 20]⟩,
  ⟨some 19, none, .mv (.t 21)⟩,
  ⟨some 22, none, .ext (.t 19) 0⟩,
  ⟨some 23, none, .ext (.t 19) 1⟩,
  ⟨some 24, none, .ext (.t 19) 2⟩,
  ⟨some 10, none, .mv (.t 22)⟩,
  ⟨some 11, none, .mv (.t 23)⟩,
  ⟨some 12, none, .mv (.t 24)⟩]) (.seq (.seq (.rg [⟨some 25, none, .mv (.t 9)⟩,
  ⟨some 26, none, .un .not (.t 25)⟩,
  ⟨some 27, none, .mv (.t 26)⟩,
  ⟨some 28, some (27, false), .mv (.t 12)⟩,
  ⟨some 29, some (27, false), .un .not (.t 28)⟩,
  ⟨some 30, none, .pick (.t 27) (.c (.bool true)) (.t 29)⟩,
  ⟨some 31, none, .mv (.t 30)⟩,
  ⟨some 32, some (31, false), .mv (.t 10)⟩,
  ⟨some 33, some (31, false), .mv (.t 2)⟩,
  ⟨some 34, some (31, false), .bin .neq (.t 32) (.t 33)⟩,
  ⟨some 35, none, .pick (.t 31) (.c (.bool true)) (.t 34)⟩]) (.cond (.t 35) (.seq (.rg [⟨some 36, none, .bslice false [.int .u8 0] 0 []⟩,
  ⟨some 6, none, .mv (.t 36)⟩,
  ⟨some 7, none, .mv (.c (.bool false))⟩]) (.ret)) (.skip))) (.seq (.rg [⟨some 37, none, .mv (.t 11)⟩,
  ⟨some 6, none, .mv (.t 37)⟩,
  ⟨some 7, none, .mv (.c (.bool true))⟩]) (.ret))))), [.t 6, .t 7]⟩
def s_spec_l14Text : SFn := ⟨35, .seq (.rg [⟨some 2, none, .mv (.c (.str []))⟩]) (.seq (.rg [⟨some 7, none, .mv (.t 0)⟩,
  ⟨some 8, none, .nilc (.t 7)⟩,
  ⟨some 9, none, .fa 0 (.t 8)⟩,
  ⟨some 10, none, .ld (.t 9)⟩,
  ⟨some 11, none, .mv (.t 0)⟩,
  ⟨some 12, none, .nilc (.t 11)⟩,
  ⟨some 13, none, .fa 1 (.t 12)⟩,
  ⟨some 14, none, .ld (.t 13)⟩,
  ⟨some 15, none, .callP 119 [.t 10, .t 14]⟩,
  ⟨some 6, none, .mv (.t 15)⟩,
  ⟨some 16, none, .ext (.t 6) 0⟩,
  ⟨some 17, none, .ext (.t 6) 1⟩,
  ⟨some 18, none, .ext (.t 6) 2⟩,
  ⟨some 3, none, .mv (.t 16)⟩,
  ⟨some 4, none, .mv (.t 17)⟩,
  ⟨some 5, none, .mv (.t 18)⟩]) (.seq (.seq (.rg [⟨some 19, none, .mv (.t 0)⟩,
  ⟨some 20, none, .nilc (.t 19)⟩,
  ⟨some 21, none, .fa 2 (.t 20)⟩,
  ⟨some 22, none, .ld (.t 21)⟩,
  ⟨some 23, none, .mv (.t 22)⟩,
  ⟨some 24, some (23, false), .mv (.t 5)⟩,
  ⟨some 25, some (23, false), .un .not (.t 24)⟩,
  ⟨some 26, none, .pick (.t 23) (.c (.bool true)) (.t 25)⟩]) (.cond (.t 26) (.seq (.rg [⟨some 27, none, .mv (.t 0)⟩,
  ⟨some 28, none, .nilc (.t 27)⟩,
  ⟨some 29, none, .fa 2 (.t 28)⟩,
  ⟨none, none, .st 1 (.t 29) (.c (.bool true))⟩]) (.seq (.rg [⟨some 2, none, .mv (.c (.str []))⟩]) (.ret))) (.skip))) (.seq (.rg [⟨some 30, none, .mv (.t 0)⟩,
  ⟨some 31, none, .mv (.t 4)⟩,
  ⟨some 32, none, .nilc (.t 30)⟩,
  ⟨some 33, none, .fa 1 (.t 32)⟩,
  ⟨none, none, .st 1 (.t 33) (.t 31)⟩]) (.seq (.rg [⟨some 34, none, .mv (.t 3)⟩,
  ⟨some 2, none, .mv (.t 34)⟩]) (.ret))))), [.t 2]⟩
def s_spec_l14Num : SFn := ⟨35, .seq (.rg [⟨some 2, none, .mv (.c (.int .i64 0))⟩]) (.seq (.rg [⟨some 7, none, .mv (.t 0)⟩,
  ⟨some 8, none, .nilc (.t 7)⟩,
  ⟨some 9, none, .fa 0 (.t 8)⟩,
  ⟨some 10, none, .ld (.t 9)⟩,
  ⟨some 11, none, .mv (.t 0)⟩,
  ⟨some 12, none, .nilc (.t 11)⟩,
  ⟨some 13, none, .fa 1 (.t 12)⟩,
  ⟨some 14, none, .ld (.t 13)⟩,
  ⟨some 15, none, .callP 100 [.t 10, .t 14]⟩,
  ⟨some 6, none, .mv (.t 15)⟩,
  ⟨some 16, none, .ext (.t 6) 0⟩,
  ⟨some 17, none, .ext (.t 6) 1⟩,
  ⟨some 18, none, .ext (.t 6) 2⟩,
  ⟨some 3, none, .mv (.t 16)⟩,
  ⟨some 4, none, .mv (.t 17)⟩,
  ⟨some 5, none, .mv (.t 18)⟩]) (.seq (.seq (.rg [⟨some 19, none, .mv (.t 0)⟩,
  ⟨some 20, none, .nilc (.t 19)⟩,
  ⟨some 21, none, .fa 2 (.t 20)⟩,
  ⟨some 22, none, .ld (.t 21)⟩,
  ⟨some 23, none, .mv (.t 22)⟩,
  ⟨some 24, some (23, false), .mv (.t 5)⟩,
  ⟨some 25, some (23, false), .un .not (.t 24)⟩,
  ⟨some 26, none, .pick (.t 23) (.c (.bool true)) (.t 25)⟩]) (.cond (.t 26) (.seq (.rg [⟨some 27, none, .mv (.t 0)⟩,
  ⟨some 28, none, .nilc (.t 27)⟩,
  ⟨some 29, none, .fa 2 (.t 28)⟩,
  ⟨none, none, .st 1 (.t 29) (.c (.bool true))⟩]) (.seq (.rg [⟨some 2, none, .mv (.c (.int .i64 0))⟩]) (.ret))) (.skip))) (.seq (.rg [⟨some 30, none, .mv (.t 0)⟩,
  ⟨some 31, none, .mv (.t 4)⟩,
  ⟨some 32, none, .nilc (.t 30)⟩,
  ⟨some 33, none, .fa 1 (.t 32)⟩,
  ⟨none, none, .st 1 (.t 33) (.t 31)⟩]) (.seq (.rg [⟨some 34, none, .mv (.t 3)⟩,
  ⟨some 2, none, .mv (.t 34)⟩]) (.ret))))), [.t 2]⟩
def s_spec_l14Rising_L0 : SCode := .seq (.seq (.rg [⟨some 4, none, .mv (.t 3)⟩,
  ⟨some 5, none, .mv (.t 0)⟩,
  ⟨some 6, none, .lenL (.t 5)⟩,
  ⟨some 7, none, .bin .lss (.t 4) (.t 6)⟩]) (.cond (.t 7) (.skip) (.exit 0))) (.seq (.blk 1 (.seq (.rg [⟨some 10, none, .mv (.t 0)⟩,
  ⟨some 11, none, .mv (.t 3)⟩,
  ⟨some 12, none, .ia 1 (.t 10) (.t 11)⟩,
  ⟨some 13, none, .ld (.t 12)⟩,
  ⟨some 14, none, .lenS (.t 13)⟩,
  ⟨some 15, none, .bin .gtr (.t 14) (.c (.int .i64 48))⟩,
  ⟨some 16, none, .mv (.t 15)⟩,
  ⟨some 17, some (16, false), .mv (.t 3)⟩,
  ⟨some 18, some (16, false), .bin .gtr (.t 17) (.c (.int .i64 0))⟩,
  ⟨some 19, some (16, false), .mv (.t 18)⟩,
  ⟨some 20, some (19, true), .mv (.t 0)⟩,
  ⟨some 21, some (19, true), .mv (.t 3)⟩,
  ⟨some 22, some (19, true), .bin .sub (.t 21) (.c (.int .i64 1))⟩,
  ⟨some 23, some (19, true), .ia 1 (.t 20) (.t 22)⟩,
  ⟨some 24, some (19, true), .ld (.t 23)⟩,
  ⟨some 25, some (19, true), .mv (.t 0)⟩,
  ⟨some 26, some (19, true), .mv (.t 3)⟩,
  ⟨some 27, some (19, true), .ia 1 (.t 25) (.t 26)⟩,
  ⟨some 28, some (19, true), .ld (.t 27)⟩,
  ⟨some 29, some (19, true), .bin .geq (.t 24) (.t 28)⟩,
  ⟨some 30, some (16, false), .pick (.t 19) (.t 29) (.c (.bool false))⟩,
  ⟨some 31, none, .pick (.t 16) (.c (.bool true)) (.t 30)⟩]) (.cond (.t 31) (.seq (.rg [⟨some 2, none, .mv (.c (.bool false))⟩]) (.ret)) (.skip)))) (.rg [⟨some 8, none, .mv (.t 3)⟩,
  ⟨some 9, none, .bin .add (.t 8) (.c (.int .i64 1))⟩,
  ⟨some 3, none, .mv (.t 9)⟩]))
def s_spec_l14Rising : SFn := ⟨32, .seq (.rg [⟨some 2, none, .mv (.c (.bool false))⟩]) (.seq (.seq (.rg [⟨some 3, none, .mv (.c (.int .i64 0))⟩]) (.blk 0 (.loop s_spec_l14Rising_L0))) (.seq (.rg [⟨some 2, none, .mv (.c (.bool true))⟩]) (.ret))), [.t 2]⟩
def s_spec_PutU_L0 : SCode := .seq (.seq (.rg [⟨some 13, none, .mv (.t 1)⟩,
  ⟨some 14, none, .bin .gtr (.t 13) (.c (.int .i64 127))⟩]) (.cond (.t 14) (.skip) (.exit 0))) (.blk 1 (.seq (.rg [⟨some 15, none, .mv (.t 5)⟩,
  ⟨some 16, none, .mv (.t 1)⟩,
  ⟨some 17, none, .bin .and (.t 16) (.c (.int .i64 127))⟩,
  ⟨some 18, none, .bin .or (.t 17) (.c (.int .i64 128))⟩,
  ⟨some 19, none, .cvI .u8 (.t 18)⟩,
  ⟨some 20, none, .bslice false [.int .u8 0] 1 [(0, .t 19)]⟩,
  ⟨some 21, none, .app false 1 1 (.t 15) (.t 20)⟩,
  ⟨some 5, none, .mv (.t 21)⟩]) (.rg [⟨some 22, none, .mv (.t 1)⟩,
  ⟨some 23, none, .bin .shr (.t 22) (.c (.int .u64 7))⟩,
  ⟨some 1, none, .mv (.t 23)⟩])))
def s_spec_PutU : SFn := ⟨29, .seq (.rg [⟨some 4, none, .mv (.c .snil)⟩]) (.seq (.rg [⟨some 6, none, .bslice false [.int .u8 0] 0 []⟩,
  ⟨some 7, none, .mv (.t 0)⟩,
  ⟨some 8, none, .app false 1 1 (.t 6) (.t 7)⟩,
  ⟨some 5, none, .mv (.t 8)⟩]) (.seq (.seq (.rg [⟨some 9, none, .mv (.t 1)⟩,
  ⟨some 10, none, .bin .gtr (.t 9) (.c (.int .i64 1000000))⟩]) (.cond (.t 10) (.rg [⟨some 1, none, .mv (.c (.int .i64 1000000))⟩]) (.skip))) (.seq (.seq (.rg [⟨some 11, none, .mv (.t 1)⟩,
  ⟨some 12, none, .bin .lss (.t 11) (.c (.int .i64 0))⟩]) (.cond (.t 12) (.rg [⟨some 1, none, .mv (.c (.int .i64 0))⟩]) (.skip))) (.seq (.blk 0 (.loop s_spec_PutU_L0)) (.seq (.rg [⟨some 24, none, .mv (.t 5)⟩,
  ⟨some 25, none, .mv (.t 1)⟩,
  ⟨some 26, none, .cvI .u8 (.t 25)⟩,
  ⟨some 27, none, .bslice false [.int .u8 0] 1 [(0, .t 26)]⟩,
  ⟨some 28, none, .app false 1 1 (.t 24) (.t 27)⟩,
  ⟨some 4, none, .mv (.t 28)⟩]) (.ret)))))), [.t 4]⟩
def s_spec_PutText : SFn := ⟨11, .seq (.rg [⟨some 4, none, .mv (.c .snil)⟩]) (.seq (.rg [⟨some 5, none, .mv (.t 0)⟩,
  ⟨some 6, none, .mv (.t 1)⟩,
  ⟨some 7, none, .lenS (.t 6)⟩,
  ⟨some 8, none, .callP 69 [.t 5, .t 7]⟩,
  ⟨some 9, none, .mv (.t 1)⟩,
  ⟨some 10, none, .app false 1 1 (.t 8) (.t 9)⟩,
  ⟨some 4, none, .mv (.t 10)⟩]) (.ret)), [.t 4]⟩
def s_spec_l14Put_L0 : SCode := .seq (.seq (.rg [⟨some 17, none, .mv (.t 5)⟩,
  ⟨some 18, none, .fa 1 (.t 1)⟩,
  ⟨some 19, none, .ld (.t 18)⟩,
  ⟨some 20, none, .lenL (.t 19)⟩,
  ⟨some 21, none, .bin .lss (.t 17) (.t 20)⟩]) (.cond (.t 21) (.skip) (.exit 0))) (.seq (.blk 1 (.rg [⟨some 24, none, .mv (.t 4)⟩,
  ⟨some 25, none, .fa 1 (.t 1)⟩,
  ⟨some 26, none, .ld (.t 25)⟩,
  ⟨some 27, none, .mv (.t 5)⟩,
  ⟨some 28, none, .ia 1 (.t 26) (.t 27)⟩,
  ⟨some 29, none, .ld (.t 28)⟩,
  ⟨some 30, none, .callP 70 [.t 24, .t 29]⟩,
  ⟨some 4, none, .mv (.t 30)⟩])) (.rg [⟨some 22, none, .mv (.t 5)⟩,
  ⟨some 23, none, .bin .add (.t 22) (.c (.int .i64 1))⟩,
  ⟨some 5, none, .mv (.t 23)⟩]))
def s_spec_l14Put_L1 : SCode := .seq (.seq (.rg [⟨some 31, none, .mv (.t 6)⟩,
  ⟨some 32, none, .fa 2 (.t 1)⟩,
  ⟨some 33, none, .ld (.t 32)⟩,
  ⟨some 34, none, .lenL (.t 33)⟩,
  ⟨some 35, none, .bin .lss (.t 31) (.t 34)⟩,
  ⟨some 36, none, .mv (.t 35)⟩,
  ⟨some 37, some (36, true), .fa 0 (.t 1)⟩,
  ⟨some 38, some (36, true), .ld (.t 37)⟩,
  ⟨some 39, none, .pick (.t 36) (.t 38) (.c (.bool false))⟩]) (.cond (.t 39) (.skip) (.exit 2))) (.seq (.blk 3 (.rg [⟨some 42, none, .mv (.t 4)⟩,
  ⟨some 43, none, .fa 2 (.t 1)⟩,
  ⟨some 44, none, .ld (.t 43)⟩,
  ⟨some 45, none, .mv (.t 6)⟩,
  ⟨some 46, none, .ia 1 (.t 44) (.t 45)⟩,
  ⟨some 47, none, .ld (.t 46)⟩,
  ⟨some 48, none, .callP 70 [.t 42, .t 47]⟩,
  ⟨some 4, none, .mv (.t 48)⟩])) (.rg [⟨some 40, none, .mv (.t 6)⟩,
  ⟨some 41, none, .bin .add (.t 40) (.c (.int .i64 1))⟩,
  ⟨some 6, none, .mv (.t 41)⟩]))
def s_spec_l14Put_L2 : SCode := .seq (.seq (.rg [⟨some 49, none, .mv (.t 7)⟩,
  ⟨some 50, none, .fa 3 (.t 1)⟩,
  ⟨some 51, none, .ld (.t 50)⟩,
  ⟨some 52, none, .lenL (.t 51)⟩,
  ⟨some 53, none, .bin .lss (.t 49) (.t 52)⟩,
  ⟨some 54, none, .mv (.t 53)⟩,
  ⟨some 55, some (54, true), .fa 0 (.t 1)⟩,
  ⟨some 56, some (54, true), .ld (.t 55)⟩,
  ⟨some 57, some (54, true), .un .not (.t 56)⟩,
  ⟨some 58, none, .pick (.t 54) (.t 57) (.c (.bool false))⟩]) (.cond (.t 58) (.skip) (.exit 4))) (.seq (.blk 5 (.rg [⟨some 61, none, .mv (.t 4)⟩,
  ⟨some 62, none, .fa 3 (.t 1)⟩,
  ⟨some 63, none, .ld (.t 62)⟩,
  ⟨some 64, none, .mv (.t 7)⟩,
  ⟨some 65, none, .ia 1 (.t 63) (.t 64)⟩,
  ⟨some 66, none, .ld (.t 65)⟩,
  ⟨some 67, none, .callP 69 [.t 61, .t 66]⟩,
  ⟨some 4, none, .mv (.t 67)⟩])) (.rg [⟨some 59, none, .mv (.t 7)⟩,
  ⟨some 60, none, .bin .add (.t 59) (.c (.int .i64 1))⟩,
  ⟨some 7, none, .mv (.t 60)⟩]))
def s_spec_l14Put : SFn := ⟨69, .seq (.rg [⟨some 1, none, .box (.t 0)⟩,
  ⟨some 2, none, .mv (.c .snil)⟩]) (.seq (.rg [⟨some 3, none, .mv (.c (.int .i64 0))⟩]) (.seq (.seq (.rg [⟨some 8, none, .fa 0 (.t 1)⟩,
  ⟨some 9, none, .ld (.t 8)⟩]) (.cond (.t 9) (.rg [⟨some 3, none, .mv (.c (.int .i64 1))⟩]) (.skip))) (.seq (.rg [⟨some 10, none, .bslice false [.int .u8 0] 0 []⟩,
  ⟨some 11, none, .mv (.t 3)⟩,
  ⟨some 12, none, .callP 69 [.t 10, .t 11]⟩,
  ⟨some 13, none, .fa 1 (.t 1)⟩,
  ⟨some 14, none, .ld (.t 13)⟩,
  ⟨some 15, none, .lenL (.t 14)⟩,
  ⟨some 16, none, .callP 69 [.t 12, .t 15]⟩,
  ⟨some 4, none, .mv (.t 16)⟩]) (.seq (.seq (.rg [⟨some 5, none, .mv (.c (.int .i64 0))⟩]) (.blk 0 (.loop s_spec_l14Put_L0))) (.seq (.seq (.rg [⟨some 6, none, .mv (.c (.int .i64 0))⟩]) (.blk 2 (.loop s_spec_l14Put_L1))) (.seq (.seq (.rg [⟨some 7, none, .mv (.c (.int .i64 0))⟩]) (.blk 4 (.loop s_spec_l14Put_L2))) (.seq (.rg [⟨some 68, none, .mv (.t 4)⟩,
  ⟨some 2, none, .mv (.t 68)⟩]) (.ret)))))))), [.t 2]⟩
def s_spec_SizeOf : SFn := ⟨6, .seq (.rg [⟨some 1, none, .box (.t 0)⟩,
  ⟨some 2, none, .mv (.c (.int .i64 0))⟩]) (.seq (.rg [⟨some 3, none, .ldA 4 (.t 1)⟩,
  ⟨some 4, none, .callP 41 [.t 3]⟩,
  ⟨some 5, none, .lenL (.t 4)⟩,
  ⟨some 2, none, .mv (.t 5)⟩]) (.ret)), [.t 2]⟩
def s_spec_NodeOk_L0 : SCode := .seq (.seq (.rg [⟨some 16, none, .mv (.t 3)⟩,
  ⟨some 17, none, .fa 2 (.t 1)⟩,
  ⟨some 18, none, .ld (.t 17)⟩,
  ⟨some 19, none, .lenL (.t 18)⟩,
  ⟨some 20, none, .bin .lss (.t 16) (.t 19)⟩]) (.cond (.t 20) (.skip) (.exit 0))) (.seq (.blk 1 (.seq (.rg [⟨some 23, none, .fa 2 (.t 1)⟩,
  ⟨some 24, none, .ld (.t 23)⟩,
  ⟨some 25, none, .mv (.t 3)⟩,
  ⟨some 26, none, .ia 1 (.t 24) (.t 25)⟩,
  ⟨some 27, none, .ld (.t 26)⟩,
  ⟨some 28, none, .lenS (.t 27)⟩,
  ⟨some 29, none, .bin .gtr (.t 28) (.c (.int .i64 60))⟩]) (.cond (.t 29) (.seq (.rg [⟨some 2, none, .mv (.c (.bool false))⟩]) (.ret)) (.skip)))) (.rg [⟨some 21, none, .mv (.t 3)⟩,
  ⟨some 22, none, .bin .add (.t 21) (.c (.int .i64 1))⟩,
  ⟨some 3, none, .mv (.t 22)⟩]))
def s_spec_NodeOk_L1 : SCode := .seq (.seq (.rg [⟨some 49, none, .mv (.t 4)⟩,
  ⟨some 50, none, .fa 3 (.t 1)⟩,
  ⟨some 51, none, .ld (.t 50)⟩,
  ⟨some 52, none, .lenL (.t 51)⟩,
  ⟨some 53, none, .bin .lss (.t 49) (.t 52)⟩]) (.cond (.t 53) (.skip) (.exit 2))) (.seq (.blk 3 (.seq (.rg [⟨some 56, none, .fa 3 (.t 1)⟩,
  ⟨some 57, none, .ld (.t 56)⟩,
  ⟨some 58, none, .mv (.t 4)⟩,
  ⟨some 59, none, .ia 1 (.t 57) (.t 58)⟩,
  ⟨some 60, none, .ld (.t 59)⟩,
  ⟨some 61, none, .callP 98 [.t 60, .c (.int .i64 2), .c (.int .i64 47)]⟩,
  ⟨some 62, none, .un .not (.t 61)⟩]) (.cond (.t 62) (.seq (.rg [⟨some 2, none, .mv (.c (.bool false))⟩]) (.ret)) (.skip)))) (.rg [⟨some 54, none, .mv (.t 4)⟩,
  ⟨some 55, none, .bin .add (.t 54) (.c (.int .i64 1))⟩,
  ⟨some 4, none, .mv (.t 55)⟩]))
def s_spec_NodeOk : SFn := ⟨83, .seq (.rg [⟨some 1, none, .box (.t 0)⟩,
  ⟨some 2, none, .mv (.c (.bool false))⟩]) (.seq (.seq (.rg [⟨some 5, none, .fa 1 (.t 1)⟩,
  ⟨some 6, none, .ld (.t 5)⟩,
  ⟨some 7, none, .callP 120 [.t 6]⟩,
  ⟨some 8, none, .un .not (.t 7)⟩,
  ⟨some 9, none, .mv (.t 8)⟩,
  ⟨some 10, some (9, false), .ldA 4 (.t 1)⟩,
  ⟨some 11, some (9, false), .callP 17 [.t 10]⟩,
  ⟨some 12, some (9, false), .bin .gtr (.t 11) (.c (.int .i64 240))⟩,
  ⟨some 13, none, .pick (.t 9) (.c (.bool true)) (.t 12)⟩]) (.cond (.t 13) (.seq (.rg [⟨some 2, none, .mv (.c (.bool false))⟩]) (.ret)) (.skip))) (.seq (.seq (.rg [⟨some 14, none, .fa 0 (.t 1)⟩,
  ⟨some 15, none, .ld (.t 14)⟩]) (.cond (.t 15) (.seq (.seq (.rg [⟨some 3, none, .mv (.c (.int .i64 0))⟩]) (.blk 0 (.loop s_spec_NodeOk_L0))) (.seq (.rg [⟨some 30, none, .fa 1 (.t 1)⟩,
  ⟨some 31, none, .ld (.t 30)⟩,
  ⟨some 32, none, .lenL (.t 31)⟩,
  ⟨some 33, none, .bin .geq (.t 32) (.c (.int .i64 1))⟩,
  ⟨some 34, none, .mv (.t 33)⟩,
  ⟨some 35, some (34, true), .fa 2 (.t 1)⟩,
  ⟨some 36, some (34, true), .ld (.t 35)⟩,
  ⟨some 37, some (34, true), .lenL (.t 36)⟩,
  ⟨some 38, some (34, true), .fa 1 (.t 1)⟩,
  ⟨some 39, some (34, true), .ld (.t 38)⟩,
  ⟨some 40, some (34, true), .lenL (.t 39)⟩,
  ⟨some 41, some (34, true), .bin .eql (.t 37) (.t 40)⟩,
  ⟨some 42, none, .pick (.t 34) (.t 41) (.c (.bool false))⟩,
  ⟨some 43, none, .mv (.t 42)⟩,
  ⟨some 44, some (43, true), .fa 3 (.t 1)⟩,
  ⟨some 45, some (43, true), .ld (.t 44)⟩,
  ⟨some 46, some (43, true), .lenL (.t 45)⟩,
  ⟨some 47, some (43, true), .bin .eql (.t 46) (.c (.int .i64 0))⟩,
  ⟨some 48, none, .pick (.t 43) (.t 47) (.c (.bool false))⟩,
  ⟨some 2, none, .mv (.t 48)⟩]) (.ret))) (.skip))) (.seq (.seq (.rg [⟨some 4, none, .mv (.c (.int .i64 0))⟩]) (.blk 2 (.loop s_spec_NodeOk_L1))) (.seq (.rg [⟨some 63, none, .fa 3 (.t 1)⟩,
  ⟨some 64, none, .ld (.t 63)⟩,
  ⟨some 65, none, .lenL (.t 64)⟩,
  ⟨some 66, none, .bin .geq (.t 65) (.c (.int .i64 1))⟩,
  ⟨some 67, none, .mv (.t 66)⟩,
  ⟨some 68, some (67, true), .fa 1 (.t 1)⟩,
  ⟨some 69, some (67, true), .ld (.t 68)⟩,
  ⟨some 70, some (67, true), .lenL (.t 69)⟩,
  ⟨some 71, some (67, true), .fa 3 (.t 1)⟩,
  ⟨some 72, some (67, true), .ld (.t 71)⟩,
  ⟨some 73, some (67, true), .lenL (.t 72)⟩,
  ⟨some 74, some (67, true), .bin .sub (.t 73) (.c (.int .i64 1))⟩,
  ⟨some 75, some (67, true), .bin .eql (.t 70) (.t 74)⟩,
  ⟨some 76, none, .pick (.t 67) (.t 75) (.c (.bool false))⟩,
  ⟨some 77, none, .mv (.t 76)⟩,
  ⟨some 78, some (77, true), .fa 2 (.t 1)⟩,
  ⟨some 79, some (77, true), .ld (.t 78)⟩,
  ⟨some 80, some (77, true), .lenL (.t 79)⟩,
  ⟨some 81, some (77, true), .bin .eql (.t 80) (.c (.int .i64 0))⟩,
  ⟨some 82, none, .pick (.t 77) (.t 81) (.c (.bool false))⟩,
  ⟨some 2, none, .mv (.t 82)⟩]) (.ret))))), [.t 2]⟩
def s_spec_GetNode_L0 : SCode := .seq (.seq (.rg [⟨some 41, none, .mv (.t 8)⟩,
  ⟨some 42, none, .mv (.t 6)⟩,
  ⟨some 43, none, .bin .lss (.t 41) (.t 42)⟩,
  ⟨some 44, none, .mv (.t 43)⟩,
  ⟨some 45, some (44, true), .mv (.t 4)⟩,
  ⟨some 46, some (44, true), .nilc (.t 45)⟩,
  ⟨some 47, some (44, true), .fa 2 (.t 46)⟩,
  ⟨some 48, some (44, true), .ld (.t 47)⟩,
  ⟨some 49, some (44, true), .un .not (.t 48)⟩,
  ⟨some 50, none, .pick (.t 44) (.t 49) (.c (.bool false))⟩]) (.cond (.t 50) (.skip) (.exit 0))) (.seq (.blk 1 (.seq (.rg [⟨some 53, none, .mv (.t 4)⟩,
  ⟨some 54, none, .callW 103 [.t 53]⟩,
  ⟨some 9, none, .mv (.t 54)⟩]) (.rg [⟨some 55, none, .fa 1 (.t 7)⟩,
  ⟨some 56, none, .ld (.t 55)⟩,
  ⟨some 57, none, .mv (.t 9)⟩,
  ⟨some 58, none, .bslice false [.str []] 1 [(0, .t 57)]⟩,
  ⟨some 59, none, .app false 16 1 (.t 56) (.t 58)⟩,
  ⟨some 60, none, .fa 1 (.t 7)⟩,
  ⟨none, none, .st 1 (.t 60) (.t 59)⟩]))) (.rg [⟨some 51, none, .mv (.t 8)⟩,
  ⟨some 52, none, .bin .add (.t 51) (.c (.int .i64 1))⟩,
  ⟨some 8, none, .mv (.t 52)⟩]))
def s_spec_GetNode_L1 : SCode := .seq (.seq (.rg [⟨some 61, none, .mv (.t 10)⟩,
  ⟨some 62, none, .mv (.t 6)⟩,
  ⟨some 63, none, .bin .lss (.t 61) (.t 62)⟩,
  ⟨some 64, none, .mv (.t 63)⟩,
  ⟨some 65, some (64, true), .mv (.t 4)⟩,
  ⟨some 66, some (64, true), .nilc (.t 65)⟩,
  ⟨some 67, some (64, true), .fa 2 (.t 66)⟩,
  ⟨some 68, some (64, true), .ld (.t 67)⟩,
  ⟨some 69, some (64, true), .un .not (.t 68)⟩,
  ⟨some 70, none, .pick (.t 64) (.t 69) (.c (.bool false))⟩,
  ⟨some 71, none, .mv (.t 70)⟩,
  ⟨some 72, some (71, true), .fa 0 (.t 7)⟩,
  ⟨some 73, some (71, true), .ld (.t 72)⟩,
  ⟨some 74, none, .pick (.t 71) (.t 73) (.c (.bool false))⟩]) (.cond (.t 74) (.skip) (.exit 2))) (.seq (.blk 3 (.seq (.rg [⟨some 77, none, .mv (.t 4)⟩,
  ⟨some 78, none, .callW 103 [.t 77]⟩,
  ⟨some 11, none, .mv (.t 78)⟩]) (.rg [⟨some 79, none, .fa 2 (.t 7)⟩,
  ⟨some 80, none, .ld (.t 79)⟩,
  ⟨some 81, none, .mv (.t 11)⟩,
  ⟨some 82, none, .bslice false [.str []] 1 [(0, .t 81)]⟩,
  ⟨some 83, none, .app false 16 1 (.t 80) (.t 82)⟩,
  ⟨some 84, none, .fa 2 (.t 7)⟩,
  ⟨none, none, .st 1 (.t 84) (.t 83)⟩]))) (.rg [⟨some 75, none, .mv (.t 10)⟩,
  ⟨some 76, none, .bin .add (.t 75) (.c (.int .i64 1))⟩,
  ⟨some 10, none, .mv (.t 76)⟩]))
def s_spec_GetNode_L2 : SCode := .seq (.seq (.rg [⟨some 85, none, .mv (.t 12)⟩,
  ⟨some 86, none, .mv (.t 6)⟩,
  ⟨some 87, none, .bin .leq (.t 85) (.t 86)⟩,
  ⟨some 88, none, .mv (.t 87)⟩,
  ⟨some 89, some (88, true), .mv (.t 4)⟩,
  ⟨some 90, some (88, true), .nilc (.t 89)⟩,
  ⟨some 91, some (88, true), .fa 2 (.t 90)⟩,
  ⟨some 92, some (88, true), .ld (.t 91)⟩,
  ⟨some 93, some (88, true), .un .not (.t 92)⟩,
  ⟨some 94, none, .pick (.t 88) (.t 93) (.c (.bool false))⟩,
  ⟨some 95, none, .mv (.t 94)⟩,
  ⟨some 96, some (95, true), .fa 0 (.t 7)⟩,
  ⟨some 97, some (95, true), .ld (.t 96)⟩,
  ⟨some 98, some (95, true), .un .not (.t 97)⟩,
  ⟨some 99, none, .pick (.t 95) (.t 98) (.c (.bool false))⟩]) (.cond (.t 99) (.skip) (.exit 4))) (.seq (.blk 5 (.seq (.rg [⟨some 102, none, .mv (.t 4)⟩,
  ⟨some 103, none, .callW 102 [.t 102]⟩,
  ⟨some 13, none, .mv (.t 103)⟩]) (.rg [⟨some 104, none, .fa 3 (.t 7)⟩,
  ⟨some 105, none, .ld (.t 104)⟩,
  ⟨some 106, none, .mv (.t 13)⟩,
  ⟨some 107, none, .bslice false [.int .i64 0] 1 [(0, .t 106)]⟩,
  ⟨some 108, none, .app false 8 1 (.t 105) (.t 107)⟩,
  ⟨some 109, none, .fa 3 (.t 7)⟩,
  ⟨none, none, .st 1 (.t 109) (.t 108)⟩]))) (.rg [⟨some 100, none, .mv (.t 12)⟩,
  ⟨some 101, none, .bin .add (.t 100) (.c (.int .i64 1))⟩,
  ⟨some 12, none, .mv (.t 101)⟩]))
def s_spec_GetNode : SFn := ⟨130, .seq (.rg [⟨some 2, none, .alloc [.bool false, .snil, .snil, .snil]⟩,
  ⟨some 3, none, .mv (.c (.bool false))⟩]) (.seq (.rg [⟨some 14, none, .mv (.t 0)⟩,
  ⟨some 15, none, .build [.snil, .int .i64 0, .bool false] [(0, (1, .t 14))]⟩,
  ⟨some 16, none, .box (.t 15)⟩,
  ⟨some 4, none, .mv (.t 16)⟩]) (.seq (.rg [⟨some 17, none, .mv (.t 4)⟩,
  ⟨some 18, none, .callW 102 [.t 17]⟩,
  ⟨some 5, none, .mv (.t 18)⟩]) (.seq (.rg [⟨some 19, none, .mv (.t 4)⟩,
  ⟨some 20, none, .callW 102 [.t 19]⟩,
  ⟨some 6, none, .mv (.t 20)⟩]) (.seq (.rg [⟨some 21, none, .mv (.t 4)⟩,
  ⟨some 22, none, .mv (.t 4)⟩,
  ⟨some 23, none, .nilc (.t 22)⟩,
  ⟨some 24, none, .fa 2 (.t 23)⟩,
  ⟨some 25, none, .ld (.t 24)⟩,
  ⟨some 26, none, .mv (.t 25)⟩,
  ⟨some 27, some (26, false), .mv (.t 5)⟩,
  ⟨some 28, some (26, false), .bin .gtr (.t 27) (.c (.int .i64 1))⟩,
  ⟨some 29, none, .pick (.t 26) (.c (.bool true)) (.t 28)⟩,
  ⟨some 30, none, .mv (.t 29)⟩,
  ⟨some 31, some (30, false), .mv (.t 6)⟩,
  ⟨some 32, some (30, false), .mv (.t 0)⟩,
  ⟨some 33, some (30, false), .lenL (.t 32)⟩,
  ⟨some 34, some (30, false), .bin .gtr (.t 31) (.t 33)⟩,
  ⟨some 35, none, .pick (.t 30) (.c (.bool true)) (.t 34)⟩,
  ⟨some 36, none, .nilc (.t 21)⟩,
  ⟨some 37, none, .fa 2 (.t 36)⟩,
  ⟨none, none, .st 1 (.t 37) (.t 35)⟩]) (.seq (.rg [⟨some 38, none, .mv (.t 5)⟩,
  ⟨some 39, none, .bin .eql (.t 38) (.c (.int .i64 1))⟩,
  ⟨some 40, none, .build [.bool false, .snil, .snil, .snil] [(0, (1, .t 39))]⟩,
  ⟨some 7, none, .alloc [.bool false, .snil, .snil, .snil]⟩,
  ⟨none, none, .st 4 (.t 7) (.t 40)⟩]) (.seq (.seq (.rg [⟨some 8, none, .mv (.c (.int .i64 0))⟩]) (.blk 0 (.loop s_spec_GetNode_L0))) (.seq (.seq (.rg [⟨some 10, none, .mv (.c (.int .i64 0))⟩]) (.blk 2 (.loop s_spec_GetNode_L1))) (.seq (.seq (.rg [⟨some 12, none, .mv (.c (.int .i64 0))⟩]) (.blk 4 (.loop s_spec_GetNode_L2))) (.seq (.seq (.rg [⟨some 110, none, .mv (.t 4)⟩,
  ⟨some 111, none, .nilc (.t 110)⟩,
  ⟨some 112, none, .fa 2 (.t 111)⟩,
  ⟨some 113, none, .ld (.t 112)⟩,
  ⟨some 114, none, .mv (.t 113)⟩,
  ⟨some 115, some (114, false), .mv (.t 4)⟩,
  ⟨some 116, some (114, false), .nilc (.t 115)⟩,
  ⟨some 117, some (114, false), .fa 1 (.t 116)⟩,
  ⟨some 118, some (114, false), .ld (.t 117)⟩,
  ⟨some 119, some (114, false), .mv (.t 0)⟩,
  ⟨some 120, some (114, false), .lenL (.t 119)⟩,
  ⟨some 121, some (114, false), .bin .neq (.t 118) (.t 120)⟩,
  ⟨some 122, none, .pick (.t 114) (.c (.bool true)) (.t 121)⟩,
  ⟨some 123, none, .mv (.t 122)⟩,
  ⟨some 124, some (123, false), .ldA 4 (.t 7)⟩,
  ⟨some 125, some (123, false), .callP 104 [.t 124]⟩,
  ⟨some 126, some (123, false), .un .not (.t 125)⟩,
  ⟨some 127, none, .pick (.t 123) (.c (.bool true)) (.t 126)⟩]) (.cond (.t 127) (.seq (.rg [⟨some 128, none, .build [.bool false, .snil, .snil, .snil] []⟩,
  ⟨none, none, .st 4 (.t 2) (.t 128)⟩,
  ⟨some 3, none, .mv (.c (.bool false))⟩]) (.ret)) (.skip))) (.seq (.rg [⟨some 129, none, .ldA 4 (.t 7)⟩,
  ⟨none, none, .st 4 (.t 2) (.t 129)⟩,
  ⟨some 3, none, .mv (.c (.bool true))⟩]) (.ret))))))))))), [.ldA 2 4, .t 3]⟩
def s_spec_l16Disk : SFn := ⟨29, .seq (.rg [⟨some 2, none, .box (.t 0)⟩,
  ⟨some 4, none, .alloc [.bool false, .snil, .snil, .snil]⟩,
  ⟨some 5, none, .mv (.c (.bool false))⟩]) (.seq (.rg [⟨some 11, none, .ldA 5 (.t 2)⟩,
  ⟨some 12, none, .mv (.t 1)⟩,
  ⟨some 13, none, .callP 67 [.t 11, .t 12, .c (.int .i64 1)]⟩,
  ⟨some 10, none, .mv (.t 13)⟩,
  ⟨some 14, none, .ext (.t 10) 0⟩,
  ⟨some 15, none, .ext (.t 10) 1⟩,
  ⟨some 6, none, .mv (.t 14)⟩,
  ⟨some 7, none, .mv (.t 15)⟩]) (.seq (.rg [⟨some 17, none, .mv (.t 6)⟩,
  ⟨some 18, none, .callP 68 [.t 17]⟩,
  ⟨some 16, none, .mv (.t 18)⟩,
  ⟨some 19, none, .ext (.t 16) 0⟩,
  ⟨some 20, none, .ext (.t 16) 1⟩,
  ⟨some 8, none, .alloc [.bool false, .snil, .snil, .snil]⟩,
  ⟨none, none, .st 4 (.t 8) (.t 19)⟩,
  ⟨some 9, none, .mv (.t 20)⟩]) (.seq (.seq (.rg [⟨some 21, none, .mv (.t 7)⟩,
  ⟨some 22, none, .un .not (.t 21)⟩,
  ⟨some 23, none, .mv (.t 22)⟩,
  ⟨some 24, some (23, false), .mv (.t 9)⟩,
  ⟨some 25, some (23, false), .un .not (.t 24)⟩,
  ⟨some 26, none, .pick (.t 23) (.c (.bool true)) (.t 25)⟩]) (.cond (.t 26) (.seq (.rg [⟨some 27, none, .build [.bool false, .snil, .snil, .snil] []⟩,
  ⟨none, none, .st 4 (.t 4) (.t 27)⟩,
  ⟨some 5, none, .mv (.c (.bool false))⟩]) (.ret)) (.skip))) (.seq (.rg [⟨some 28, none, .ldA 4 (.t 8)⟩,
  ⟨none, none, .st 4 (.t 4) (.t 28)⟩,
  ⟨some 5, none, .mv (.c (.bool true))⟩]) (.ret))))), [.ldA 4 4, .t 5]⟩
def s_spec_NodeAt_L0 : SCode := .seq (.seq (.rg [⟨some 7, none, .mv (.t 6)⟩,
  ⟨some 8, none, .fa 8 (.t 2)⟩,
  ⟨some 9, none, .ld (.t 8)⟩,
  ⟨some 10, none, .lenL (.t 9)⟩,
  ⟨some 11, none, .bin .lss (.t 7) (.t 10)⟩]) (.cond (.t 11) (.skip) (.exit 0))) (.seq (.blk 1 (.seq (.rg [⟨some 14, none, .fa 8 (.t 2)⟩,
  ⟨some 15, none, .ld (.t 14)⟩,
  ⟨some 16, none, .mv (.t 6)⟩,
  ⟨some 17, none, .ia 5 (.t 15) (.t 16)⟩,
  ⟨some 18, none, .fa 0 (.t 17)⟩,
  ⟨some 19, none, .ld (.t 18)⟩,
  ⟨some 20, none, .mv (.t 1)⟩,
  ⟨some 21, none, .bin .eql (.t 19) (.t 20)⟩]) (.cond (.t 21) (.seq (.rg [⟨some 22, none, .fa 8 (.t 2)⟩,
  ⟨some 23, none, .ld (.t 22)⟩,
  ⟨some 24, none, .mv (.t 6)⟩,
  ⟨some 25, none, .ia 5 (.t 23) (.t 24)⟩,
  ⟨some 26, none, .fa 1 (.t 25)⟩,
  ⟨some 27, none, .ldA 4 (.t 26)⟩,
  ⟨some 28, none, .callP 39 [.t 27]⟩,
  ⟨none, none, .st 4 (.t 4) (.t 28)⟩,
  ⟨some 5, none, .mv (.c (.bool true))⟩]) (.ret)) (.skip)))) (.rg [⟨some 12, none, .mv (.t 6)⟩,
  ⟨some 13, none, .bin .add (.t 12) (.c (.int .i64 1))⟩,
  ⟨some 6, none, .mv (.t 13)⟩]))
def s_spec_NodeAt : SFn := ⟨35, .seq (.rg [⟨some 2, none, .box (.t 0)⟩,
  ⟨some 4, none, .alloc [.bool false, .snil, .snil, .snil]⟩,
  ⟨some 5, none, .mv (.c (.bool false))⟩]) (.seq (.seq (.rg [⟨some 6, none, .mv (.c (.int .i64 0))⟩]) (.blk 0 (.loop s_spec_NodeAt_L0))) (.seq (.rg [⟨some 29, none, .fa 0 (.t 2)⟩,
  ⟨some 30, none, .ldA 5 (.t 29)⟩,
  ⟨some 31, none, .mv (.t 1)⟩,
  ⟨some 32, none, .callP 40 [.t 30, .t 31]⟩,
  ⟨some 33, none, .ext (.t 32) 0⟩,
  ⟨some 34, none, .ext (.t 32) 1⟩,
  ⟨none, none, .st 4 (.t 4) (.t 33)⟩,
  ⟨some 5, none, .mv (.t 34)⟩]) (.ret))), [.ldA 4 4, .t 5]⟩
def s_spec_l16Put_L0 : SCode := .seq (.seq (.rg [⟨some 20, none, .mv (.t 6)⟩,
  ⟨some 21, none, .bin .gtr (.t 20) (.c (.int .i64 0))⟩,
  ⟨some 22, none, .mv (.t 21)⟩,
  ⟨some 23, some (22, true), .mv (.t 5)⟩,
  ⟨some 24, some (22, true), .mv (.t 6)⟩,
  ⟨some 25, some (22, true), .bin .sub (.t 24) (.c (.int .i64 1))⟩,
  ⟨some 26, some (22, true), .ia 1 (.t 23) (.t 25)⟩,
  ⟨some 27, some (22, true), .ld (.t 26)⟩,
  ⟨some 28, some (22, true), .mv (.t 1)⟩,
  ⟨some 29, some (22, true), .bin .gtr (.t 27) (.t 28)⟩,
  ⟨some 30, none, .pick (.t 22) (.t 29) (.c (.bool false))⟩]) (.cond (.t 30) (.skip) (.exit 0))) (.blk 1 (.seq (.rg [⟨some 31, none, .mv (.t 5)⟩,
  ⟨some 32, none, .mv (.t 6)⟩,
  ⟨some 33, none, .mv (.t 5)⟩,
  ⟨some 34, none, .mv (.t 6)⟩,
  ⟨some 35, none, .bin .sub (.t 34) (.c (.int .i64 1))⟩,
  ⟨some 36, none, .ia 1 (.t 33) (.t 35)⟩,
  ⟨some 37, none, .ld (.t 36)⟩,
  ⟨some 38, none, .ia 1 (.t 31) (.t 32)⟩,
  ⟨none, none, .st 1 (.t 38) (.t 37)⟩]) (.rg [⟨some 39, none, .mv (.t 6)⟩,
  ⟨some 40, none, .bin .sub (.t 39) (.c (.int .i64 1))⟩,
  ⟨some 6, none, .mv (.t 40)⟩])))
def s_spec_l16Put : SFn := ⟨46, .seq (.rg [⟨some 4, none, .mv (.c .snil)⟩]) (.seq (.seq (.rg [⟨some 7, none, .mv (.t 0)⟩,
  ⟨some 8, none, .mv (.t 1)⟩,
  ⟨some 9, none, .callP 29 [.t 7, .t 8]⟩]) (.cond (.t 9) (.seq (.rg [⟨some 10, none, .mv (.t 0)⟩,
  ⟨some 4, none, .mv (.t 10)⟩]) (.ret)) (.skip))) (.seq (.rg [⟨some 11, none, .bslice true [.int .i64 0] 0 []⟩,
  ⟨some 12, none, .mv (.t 0)⟩,
  ⟨some 13, none, .app true 8 1 (.t 11) (.t 12)⟩,
  ⟨some 14, none, .mv (.t 1)⟩,
  ⟨some 15, none, .bslice true [.int .i64 0] 1 [(0, .t 14)]⟩,
  ⟨some 16, none, .app true 8 1 (.t 13) (.t 15)⟩,
  ⟨some 5, none, .mv (.t 16)⟩]) (.seq (.rg [⟨some 17, none, .mv (.t 5)⟩,
  ⟨some 18, none, .lenL (.t 17)⟩,
  ⟨some 19, none, .bin .sub (.t 18) (.c (.int .i64 1))⟩,
  ⟨some 6, none, .mv (.t 19)⟩]) (.seq (.blk 0 (.loop s_spec_l16Put_L0)) (.seq (.rg [⟨some 41, none, .mv (.t 5)⟩,
  ⟨some 42, none, .mv (.t 6)⟩,
  ⟨some 43, none, .mv (.t 1)⟩,
  ⟨some 44, none, .ia 1 (.t 41) (.t 42)⟩,
  ⟨none, none, .st 1 (.t 44) (.t 43)⟩]) (.seq (.rg [⟨some 45, none, .mv (.t 5)⟩,
  ⟨some 4, none, .mv (.t 45)⟩]) (.ret))))))), [.t 4]⟩
def s_spec_l16Walk_L0 : SCode := .seq (.seq (.rg [⟨some 30, none, .mv (.t 9)⟩,
  ⟨some 31, none, .fa 3 (.t 7)⟩,
  ⟨some 32, none, .ld (.t 31)⟩,
  ⟨some 33, none, .lenL (.t 32)⟩,
  ⟨some 34, none, .bin .lss (.t 30) (.t 33)⟩]) (.cond (.t 34) (.skip) (.exit 0))) (.seq (.blk 1 (.rg [⟨some 37, none, .ldA 9 (.t 3)⟩,
  ⟨some 38, none, .fa 3 (.t 7)⟩,
  ⟨some 39, none, .ld (.t 38)⟩,
  ⟨some 40, none, .mv (.t 9)⟩,
  ⟨some 41, none, .ia 1 (.t 39) (.t 40)⟩,
  ⟨some 42, none, .ld (.t 41)⟩,
  ⟨some 43, none, .mv (.t 2)⟩,
  ⟨some 44, none, .callP 38 [.t 37, .t 42, .t 43]⟩,
  ⟨some 2, none, .mv (.t 44)⟩])) (.rg [⟨some 35, none, .mv (.t 9)⟩,
  ⟨some 36, none, .bin .add (.t 35) (.c (.int .i64 1))⟩,
  ⟨some 9, none, .mv (.t 36)⟩]))
def s_spec_l16Walk : SFn := ⟨46, .seq (.rg [⟨some 3, none, .box (.t 0)⟩,
  ⟨some 6, none, .mv (.c .snil)⟩]) (.seq (.seq (.rg [⟨some 10, none, .mv (.t 1)⟩,
  ⟨some 11, none, .bin .eql (.t 10) (.c (.int .i64 0))⟩,
  ⟨some 12, none, .mv (.t 11)⟩,
  ⟨some 13, some (12, false), .mv (.t 2)⟩,
  ⟨some 14, some (12, false), .mv (.t 1)⟩,
  ⟨some 15, some (12, false), .callP 29 [.t 13, .t 14]⟩,
  ⟨some 16, none, .pick (.t 12) (.c (.bool true)) (.t 15)⟩]) (.cond (.t 16) (.seq (.rg [⟨some 17, none, .mv (.t 2)⟩,
  ⟨some 6, none, .mv (.t 17)⟩]) (.ret)) (.skip))) (.seq (.rg [⟨some 19, none, .ldA 9 (.t 3)⟩,
  ⟨some 20, none, .mv (.t 1)⟩,
  ⟨some 21, none, .callP 16 [.t 19, .t 20]⟩,
  ⟨some 18, none, .mv (.t 21)⟩,
  ⟨some 22, none, .ext (.t 18) 0⟩,
  ⟨some 23, none, .ext (.t 18) 1⟩,
  ⟨some 7, none, .alloc [.bool false, .snil, .snil, .snil]⟩,
  ⟨none, none, .st 4 (.t 7) (.t 22)⟩,
  ⟨some 8, none, .mv (.t 23)⟩]) (.seq (.seq (.rg [⟨some 24, none, .mv (.t 8)⟩,
  ⟨some 25, none, .un .not (.t 24)⟩]) (.cond (.t 25) (.seq (.rg [⟨some 26, none, .mv (.t 2)⟩,
  ⟨some 6, none, .mv (.t 26)⟩]) (.ret)) (.skip))) (.seq (.rg [⟨some 27, none, .mv (.t 2)⟩,
  ⟨some 28, none, .mv (.t 1)⟩,
  ⟨some 29, none, .callP 66 [.t 27, .t 28]⟩,
  ⟨some 2, none, .mv (.t 29)⟩]) (.seq (.seq (.rg [⟨some 9, none, .mv (.c (.int .i64 0))⟩]) (.blk 0 (.loop s_spec_l16Walk_L0))) (.seq (.rg [⟨some 45, none, .mv (.t 2)⟩,
  ⟨some 6, none, .mv (.t 45)⟩]) (.ret))))))), [.t 6]⟩
def s_spec_PagesOf : SFn := ⟨9, .seq (.rg [⟨some 2, none, .box (.t 0)⟩,
  ⟨some 4, none, .mv (.c .snil)⟩]) (.seq (.rg [⟨some 5, none, .ldA 9 (.t 2)⟩,
  ⟨some 6, none, .mv (.t 1)⟩,
  ⟨some 7, none, .bslice false [.int .i64 0] 0 []⟩,
  ⟨some 8, none, .callP 38 [.t 5, .t 6, .t 7]⟩,
  ⟨some 4, none, .mv (.t 8)⟩]) (.ret)), [.t 4]⟩
def s_spec_FreeOf_L0 : SCode := .seq (.seq (.rg [⟨some 27, none, .mv (.t 7)⟩,
  ⟨some 28, none, .fa 8 (.t 1)⟩,
  ⟨some 29, none, .ld (.t 28)⟩,
  ⟨some 30, none, .lenL (.t 29)⟩,
  ⟨some 31, none, .bin .lss (.t 27) (.t 30)⟩]) (.cond (.t 31) (.skip) (.exit 2))) (.seq (.blk 3 (.rg [⟨some 34, none, .mv (.t 6)⟩,
  ⟨some 35, none, .mv (.t 34)⟩,
  ⟨some 36, some (35, false), .fa 8 (.t 1)⟩,
  ⟨some 37, some (35, false), .ld (.t 36)⟩,
  ⟨some 38, some (35, false), .mv (.t 7)⟩,
  ⟨some 39, some (35, false), .ia 5 (.t 37) (.t 38)⟩,
  ⟨some 40, some (35, false), .fa 0 (.t 39)⟩,
  ⟨some 41, some (35, false), .ld (.t 40)⟩,
  ⟨some 42, some (35, false), .mv (.t 5)⟩,
  ⟨some 43, some (35, false), .bin .eql (.t 41) (.t 42)⟩,
  ⟨some 44, none, .pick (.t 35) (.c (.bool true)) (.t 43)⟩,
  ⟨some 6, none, .mv (.t 44)⟩])) (.rg [⟨some 32, none, .mv (.t 7)⟩,
  ⟨some 33, none, .bin .add (.t 32) (.c (.int .i64 1))⟩,
  ⟨some 7, none, .mv (.t 33)⟩]))
def s_spec_FreeOf_L1 : SCode := .seq (.seq (.rg [⟨some 16, none, .mv (.t 5)⟩,
  ⟨some 17, none, .fa 0 (.t 1)⟩,
  ⟨some 18, none, .fa 0 (.t 17)⟩,
  ⟨some 19, none, .ld (.t 18)⟩,
  ⟨some 20, none, .lenL (.t 19)⟩,
  ⟨some 21, none, .bin .lss (.t 16) (.t 20)⟩]) (.cond (.t 21) (.skip) (.exit 0))) (.seq (.blk 1 (.seq (.rg [⟨some 24, none, .mv (.t 3)⟩,
  ⟨some 25, none, .mv (.t 5)⟩,
  ⟨some 26, none, .callP 29 [.t 24, .t 25]⟩,
  ⟨some 6, none, .mv (.t 26)⟩]) (.seq (.seq (.rg [⟨some 7, none, .mv (.c (.int .i64 0))⟩]) (.blk 2 (.loop s_spec_FreeOf_L0))) (.seq (.rg [⟨some 45, none, .mv (.t 6)⟩,
  ⟨some 46, none, .un .not (.t 45)⟩]) (.cond (.t 46) (.rg [⟨some 47, none, .mv (.t 4)⟩,
  ⟨some 48, none, .mv (.t 5)⟩,
  ⟨some 49, none, .bslice false [.int .i64 0] 1 [(0, .t 48)]⟩,
  ⟨some 50, none, .app false 8 1 (.t 47) (.t 49)⟩,
  ⟨some 4, none, .mv (.t 50)⟩]) (.skip)))))) (.rg [⟨some 22, none, .mv (.t 5)⟩,
  ⟨some 23, none, .bin .add (.t 22) (.c (.int .i64 1))⟩,
  ⟨some 5, none, .mv (.t 23)⟩]))
def s_spec_FreeOf : SFn := ⟨52, .seq (.rg [⟨some 1, none, .box (.t 0)⟩,
  ⟨some 2, none, .mv (.c .snil)⟩]) (.seq (.rg [⟨some 8, none, .fa 0 (.t 1)⟩,
  ⟨some 9, none, .ldA 5 (.t 8)⟩,
  ⟨some 10, none, .build [.snil, .snil, .int .i64 0, .snil, .bool false, .int .i64 0, .int .i64 0, .int .i64 0, .snil] [(0, (5, .t 9))]⟩,
  ⟨some 11, none, .fa 5 (.t 1)⟩,
  ⟨some 12, none, .fa 1 (.t 11)⟩,
  ⟨some 13, none, .ld (.t 12)⟩,
  ⟨some 14, none, .callP 15 [.t 10, .t 13]⟩,
  ⟨some 3, none, .mv (.t 14)⟩]) (.seq (.rg [⟨some 15, none, .bslice false [.int .i64 0] 0 []⟩,
  ⟨some 4, none, .mv (.t 15)⟩]) (.seq (.seq (.rg [⟨some 5, none, .mv (.c (.int .i64 2))⟩]) (.blk 0 (.loop s_spec_FreeOf_L1))) (.seq (.rg [⟨some 51, none, .mv (.t 4)⟩,
  ⟨some 2, none, .mv (.t 51)⟩]) (.ret))))), [.t 2]⟩
def s_spec_NoLeak_L0 : SCode := .seq (.seq (.rg [⟨some 16, none, .mv (.t 6)⟩,
  ⟨some 17, none, .fa 1 (.t 1)⟩,
  ⟨some 18, none, .fa 0 (.t 17)⟩,
  ⟨some 19, none, .ld (.t 18)⟩,
  ⟨some 20, none, .lenL (.t 19)⟩,
  ⟨some 21, none, .bin .lss (.t 16) (.t 20)⟩]) (.cond (.t 21) (.skip) (.exit 0))) (.seq (.blk 1 (.seq (.rg [⟨some 24, none, .mv (.t 4)⟩,
  ⟨some 25, none, .mv (.t 6)⟩,
  ⟨some 26, none, .callP 29 [.t 24, .t 25]⟩,
  ⟨some 27, none, .mv (.t 5)⟩,
  ⟨some 28, none, .mv (.t 6)⟩,
  ⟨some 29, none, .callP 29 [.t 27, .t 28]⟩,
  ⟨some 30, none, .binB .eql (.t 26) (.t 29)⟩]) (.cond (.t 30) (.seq (.rg [⟨some 2, none, .mv (.c (.bool false))⟩]) (.ret)) (.skip)))) (.rg [⟨some 22, none, .mv (.t 6)⟩,
  ⟨some 23, none, .bin .add (.t 22) (.c (.int .i64 1))⟩,
  ⟨some 6, none, .mv (.t 23)⟩]))
def s_spec_NoLeak : SFn := ⟨31, .seq (.rg [⟨some 1, none, .box (.t 0)⟩,
  ⟨some 2, none, .mv (.c (.bool false))⟩]) (.seq (.rg [⟨some 7, none, .fa 1 (.t 1)⟩,
  ⟨some 8, none, .ldA 5 (.t 7)⟩,
  ⟨some 9, none, .callP 14 [.t 8]⟩,
  ⟨some 3, none, .alloc [.snil, .snil, .int .i64 0, .snil, .bool false, .int .i64 0, .int .i64 0, .int .i64 0, .snil]⟩,
  ⟨none, none, .st 9 (.t 3) (.t 9)⟩]) (.seq (.rg [⟨some 10, none, .ldA 9 (.t 3)⟩,
  ⟨some 11, none, .fa 7 (.t 3)⟩,
  ⟨some 12, none, .ld (.t 11)⟩,
  ⟨some 13, none, .callP 15 [.t 10, .t 12]⟩,
  ⟨some 4, none, .mv (.t 13)⟩]) (.seq (.rg [⟨some 14, none, .ldA 9 (.t 3)⟩,
  ⟨some 15, none, .callP 28 [.t 14]⟩,
  ⟨some 5, none, .mv (.t 15)⟩]) (.seq (.seq (.rg [⟨some 6, none, .mv (.c (.int .i64 2))⟩]) (.blk 0 (.loop s_spec_NoLeak_L0))) (.seq (.rg [⟨some 2, none, .mv (.c (.bool true))⟩]) (.ret)))))), [.t 2]⟩
def s_impl_hasInt_L0 : SCode := .seq (.rg [⟨some 10, none, .bin .lss (.t 9) (.t 8)⟩]) (.seq (.cond (.t 10) (.skip) (.exit 0)) (.seq (.blk 1 (.seq (.rg [⟨some 11, none, .ia 1 (.t 7) (.t 9)⟩,
  ⟨some 12, none, .ld (.t 11)⟩,
  ⟨some 6, none, .mv (.t 12)⟩]) (.seq (.rg [⟨some 13, none, .mv (.t 6)⟩,
  ⟨some 14, none, .mv (.t 1)⟩,
  ⟨some 15, none, .bin .eql (.t 13) (.t 14)⟩]) (.cond (.t 15) (.seq (.rg [⟨some 4, none, .mv (.c (.bool true))⟩]) (.ret)) (.skip))))) (.rg [⟨some 16, none, .bin .add (.t 9) (.c (.int .i64 1))⟩,
  ⟨some 9, none, .mv (.t 16)⟩])))
def s_impl_hasInt : SFn := ⟨17, .seq (.rg [⟨some 4, none, .mv (.c (.bool false))⟩]) (.seq (.seq (.rg [⟨some 7, none, .mv (.t 0)⟩,
  ⟨some 8, none, .lenL (.t 7)⟩,
  ⟨some 9, none, .mv (.c (.int .i64 0))⟩]) (.blk 0 (.loop s_impl_hasInt_L0))) (.seq (.rg [⟨some 4, none, .mv (.c (.bool false))⟩]) (.ret))), [.t 4]⟩
def s_impl_copyBytes : SFn := ⟨5, .seq (.rg [⟨some 2, none, .mv (.c .snil)⟩]) (.seq (.rg [⟨some 3, none, .mv (.t 0)⟩,
  ⟨some 4, none, .app true 1 1 (.c .snil) (.t 3)⟩,
  ⟨some 2, none, .mv (.t 4)⟩]) (.ret)), [.t 2]⟩
def s_impl_in : SFn := ⟨15, .seq (.rg [⟨some 6, none, .mv (.c (.bool false))⟩]) (.seq (.rg [⟨some 7, none, .mv (.t 0)⟩,
  ⟨some 8, none, .mv (.t 1)⟩,
  ⟨some 9, none, .bin .geq (.t 7) (.t 8)⟩,
  ⟨some 10, none, .mv (.t 9)⟩,
  ⟨some 11, some (10, true), .mv (.t 0)⟩,
  ⟨some 12, some (10, true), .mv (.t 2)⟩,
  ⟨some 13, some (10, true), .bin .leq (.t 11) (.t 12)⟩,
  ⟨some 14, none, .pick (.t 10) (.t 13) (.c (.bool false))⟩,
  ⟨some 6, none, .mv (.t 14)⟩]) (.ret)), [.t 6]⟩
def s_impl_ReadSec_L0 : SCode := .seq (.seq (.rg [⟨some 18, none, .mv (.t 6)⟩,
  ⟨some 19, none, .bin .geq (.t 18) (.c (.int .i64 0))⟩]) (.cond (.t 19) (.skip) (.exit 0))) (.seq (.blk 1 (.seq (.rg [⟨some 22, none, .fa 1 (.t 2)⟩,
  ⟨some 23, none, .ld (.t 22)⟩,
  ⟨some 24, none, .mv (.t 6)⟩,
  ⟨some 25, none, .ia 2 (.t 23) (.t 24)⟩,
  ⟨some 26, none, .fa 0 (.t 25)⟩,
  ⟨some 27, none, .ld (.t 26)⟩,
  ⟨some 28, none, .mv (.t 1)⟩,
  ⟨some 29, none, .bin .eql (.t 27) (.t 28)⟩]) (.cond (.t 29) (.seq (.rg [⟨some 30, none, .fa 1 (.t 2)⟩,
  ⟨some 31, none, .ld (.t 30)⟩,
  ⟨some 32, none, .mv (.t 6)⟩,
  ⟨some 33, none, .ia 2 (.t 31) (.t 32)⟩,
  ⟨some 34, none, .fa 1 (.t 33)⟩,
  ⟨some 35, none, .ld (.t 34)⟩,
  ⟨some 36, none, .callU 79 [.t 35]⟩,
  ⟨some 4, none, .mv (.t 36)⟩,
  ⟨some 5, none, .mv (.c (.bool true))⟩]) (.ret)) (.skip)))) (.rg [⟨some 20, none, .mv (.t 6)⟩,
  ⟨some 21, none, .bin .sub (.t 20) (.c (.int .i64 1))⟩,
  ⟨some 6, none, .mv (.t 21)⟩]))
def s_impl_ReadSec : SFn := ⟨43, .seq (.rg [⟨some 2, none, .box (.t 0)⟩,
  ⟨some 4, none, .mv (.c .snil)⟩,
  ⟨some 5, none, .mv (.c (.bool false))⟩]) (.seq (.seq (.rg [⟨some 7, none, .mv (.t 1)⟩,
  ⟨some 8, none, .fa 0 (.t 2)⟩,
  ⟨some 9, none, .ld (.t 8)⟩,
  ⟨some 10, none, .lenL (.t 9)⟩,
  ⟨some 11, none, .bin .sub (.t 10) (.c (.int .i64 1))⟩,
  ⟨some 12, none, .callP 85 [.t 7, .c (.int .i64 0), .t 11]⟩,
  ⟨some 13, none, .un .not (.t 12)⟩]) (.cond (.t 13) (.seq (.rg [⟨some 4, none, .mv (.c .snil)⟩,
  ⟨some 5, none, .mv (.c (.bool false))⟩]) (.ret)) (.skip))) (.seq (.seq (.rg [⟨some 14, none, .fa 1 (.t 2)⟩,
  ⟨some 15, none, .ld (.t 14)⟩,
  ⟨some 16, none, .lenL (.t 15)⟩,
  ⟨some 17, none, .bin .sub (.t 16) (.c (.int .i64 1))⟩,
  ⟨some 6, none, .mv (.t 17)⟩]) (.blk 0 (.loop s_impl_ReadSec_L0))) (.seq (.rg [⟨some 37, none, .fa 0 (.t 2)⟩,
  ⟨some 38, none, .ld (.t 37)⟩,
  ⟨some 39, none, .mv (.t 1)⟩,
  ⟨some 40, none, .ia 1 (.t 38) (.t 39)⟩,
  ⟨some 41, none, .ld (.t 40)⟩,
  ⟨some 42, none, .callU 79 [.t 41]⟩,
  ⟨some 4, none, .mv (.t 42)⟩,
  ⟨some 5, none, .mv (.c (.bool true))⟩]) (.ret)))), [.t 4, .t 5]⟩
def s_impl_Crc_L0 : SCode := .seq (.rg [⟨some 18, none, .bin .lss (.t 17) (.c (.int .i64 8))⟩]) (.seq (.cond (.t 18) (.skip) (.exit 2)) (.seq (.blk 3 (.seq (.rg [⟨some 19, none, .mv (.t 3)⟩,
  ⟨some 20, none, .bin .and (.t 19) (.c (.int .u32 1))⟩,
  ⟨some 6, none, .mv (.t 20)⟩]) (.seq (.rg [⟨some 21, none, .mv (.t 3)⟩,
  ⟨some 22, none, .bin .shr (.t 21) (.c (.int .u64 1))⟩,
  ⟨some 3, none, .mv (.t 22)⟩]) (.seq (.rg [⟨some 23, none, .mv (.t 6)⟩,
  ⟨some 24, none, .bin .eql (.t 23) (.c (.int .u32 1))⟩]) (.cond (.t 24) (.rg [⟨some 25, none, .mv (.t 3)⟩,
  ⟨some 26, none, .bin .xor (.t 25) (.c (.int .u32 2197175160))⟩,
  ⟨some 3, none, .mv (.t 26)⟩]) (.skip)))))) (.rg [⟨some 27, none, .bin .add (.t 17) (.c (.int .i64 1))⟩,
  ⟨some 17, none, .mv (.t 27)⟩])))
def s_impl_Crc_L1 : SCode := .seq (.rg [⟨some 10, none, .bin .lss (.t 9) (.t 8)⟩]) (.seq (.cond (.t 10) (.skip) (.exit 0)) (.seq (.blk 1 (.seq (.rg [⟨some 11, none, .ia 1 (.t 7) (.t 9)⟩,
  ⟨some 12, none, .ld (.t 11)⟩,
  ⟨some 5, none, .mv (.t 12)⟩]) (.seq (.rg [⟨some 13, none, .mv (.t 3)⟩,
  ⟨some 14, none, .mv (.t 5)⟩,
  ⟨some 15, none, .cvI .u32 (.t 14)⟩,
  ⟨some 16, none, .bin .xor (.t 13) (.t 15)⟩,
  ⟨some 3, none, .mv (.t 16)⟩]) (.seq (.rg [⟨some 17, none, .mv (.c (.int .i64 0))⟩]) (.blk 2 (.loop s_impl_Crc_L0)))))) (.rg [⟨some 28, none, .bin .add (.t 9) (.c (.int .i64 1))⟩,
  ⟨some 9, none, .mv (.t 28)⟩])))
def s_impl_Crc : SFn := ⟨32, .seq (.rg [⟨some 2, none, .mv (.c (.int .i64 0))⟩]) (.seq (.rg [⟨some 3, none, .mv (.c (.int .u32 4294967295))⟩]) (.seq (.seq (.rg [⟨some 7, none, .mv (.t 0)⟩,
  ⟨some 8, none, .lenL (.t 7)⟩,
  ⟨some 9, none, .mv (.c (.int .i64 0))⟩]) (.blk 0 (.loop s_impl_Crc_L1))) (.seq (.rg [⟨some 29, none, .mv (.t 3)⟩,
  ⟨some 30, none, .un .xor (.t 29)⟩,
  ⟨some 31, none, .cvI .i64 (.t 30)⟩,
  ⟨some 2, none, .mv (.t 31)⟩]) (.ret)))), [.t 2]⟩
def s_impl_addSum : SFn := ⟨20, .seq (.rg [⟨some 2, none, .mv (.c .snil)⟩]) (.seq (.rg [⟨some 4, none, .mv (.t 0)⟩,
  ⟨some 5, none, .callD 143 false [.t 4]⟩,
  ⟨some 3, none, .mv (.t 5)⟩]) (.seq (.rg [⟨some 6, none, .mv (.t 0)⟩,
  ⟨some 7, none, .mv (.t 3)⟩,
  ⟨some 8, none, .bin .shr (.t 7) (.c (.int .u64 24))⟩,
  ⟨some 9, none, .cvI .u8 (.t 8)⟩,
  ⟨some 10, none, .mv (.t 3)⟩,
  ⟨some 11, none, .bin .shr (.t 10) (.c (.int .u64 16))⟩,
  ⟨some 12, none, .cvI .u8 (.t 11)⟩,
  ⟨some 13, none, .mv (.t 3)⟩,
  ⟨some 14, none, .bin .shr (.t 13) (.c (.int .u64 8))⟩,
  ⟨some 15, none, .cvI .u8 (.t 14)⟩,
  ⟨some 16, none, .mv (.t 3)⟩,
  ⟨some 17, none, .cvI .u8 (.t 16)⟩,
  ⟨some 18, none, .bslice true [.int .u8 0] 4 [(0, .t 9), (1, .t 12), (2, .t 15), (3, .t 17)]⟩,
  ⟨some 19, none, .app true 1 1 (.t 6) (.t 18)⟩,
  ⟨some 2, none, .mv (.t 19)⟩]) (.ret))), [.t 2]⟩
def s_impl_PutSum : SFn := ⟨6, .seq (.rg [⟨some 2, none, .mv (.c .snil)⟩]) (.seq (.rg [⟨some 3, none, .mv (.t 0)⟩,
  ⟨some 4, none, .callU 79 [.t 3]⟩,
  ⟨some 5, none, .callK 134 [.t 4]⟩,
  ⟨some 2, none, .mv (.t 5)⟩]) (.ret)), [.t 2]⟩
def s_impl_GetSum : SFn := ⟨21, .seq (.rg [⟨some 2, none, .mv (.c .snil)⟩,
  ⟨some 3, none, .mv (.c (.bool false))⟩]) (.seq (.seq (.rg [⟨some 5, none, .mv (.t 0)⟩,
  ⟨some 6, none, .lenL (.t 5)⟩,
  ⟨some 7, none, .bin .lss (.t 6) (.c (.int .i64 4))⟩]) (.cond (.t 7) (.seq (.rg [⟨some 2, none, .mv (.c .snil)⟩,
  ⟨some 3, none, .mv (.c (.bool false))⟩]) (.ret)) (.skip))) (.seq (.rg [⟨some 8, none, .mv (.t 0)⟩,
  ⟨some 9, none, .mv (.t 0)⟩,
  ⟨some 10, none, .lenL (.t 9)⟩,
  ⟨some 11, none, .bin .sub (.t 10) (.c (.int .i64 4))⟩,
  ⟨some 12, none, .sliL 1 (.t 8) none (some (.t 11))⟩,
  ⟨some 13, none, .callU 79 [.t 12]⟩,
  ⟨some 4, none, .mv (.t 13)⟩]) (.seq (.seq (.rg [⟨some 14, none, .mv (.t 4)⟩,
  ⟨some 15, none, .callD 133 false [.t 14]⟩,
  ⟨some 16, none, .cvS (.t 15)⟩,
  ⟨some 17, none, .mv (.t 0)⟩,
  ⟨some 18, none, .cvS (.t 17)⟩,
  ⟨some 19, none, .bin .neq (.t 16) (.t 18)⟩]) (.cond (.t 19) (.seq (.rg [⟨some 2, none, .mv (.c .snil)⟩,
  ⟨some 3, none, .mv (.c (.bool false))⟩]) (.ret)) (.skip))) (.seq (.rg [⟨some 20, none, .mv (.t 4)⟩,
  ⟨some 2, none, .mv (.t 20)⟩,
  ⟨some 3, none, .mv (.c (.bool true))⟩]) (.ret))))), [.t 2, .t 3]⟩
def s_impl_GetU_L0 : SCode := .seq (.seq (.rg [⟨some 10, none, .mv (.t 8)⟩,
  ⟨some 11, none, .bin .lss (.t 10) (.c (.int .i64 3))⟩,
  ⟨some 12, none, .mv (.t 11)⟩,
  ⟨some 13, some (12, true), .mv (.t 1)⟩,
  ⟨some 14, some (12, true), .bin .geq (.t 13) (.c (.int .i64 0))⟩,
  ⟨some 15, none, .pick (.t 12) (.t 14) (.c (.bool false))⟩,
  ⟨some 16, none, .mv (.t 15)⟩,
  ⟨some 17, some (16, true), .mv (.t 1)⟩,
  ⟨some 18, some (16, true), .mv (.t 0)⟩,
  ⟨some 19, some (16, true), .lenL (.t 18)⟩,
  ⟨some 20, some (16, true), .mv (.t 8)⟩,
  ⟨some 21, some (16, true), .bin .sub (.t 19) (.t 20)⟩,
  ⟨some 22, some (16, true), .bin .lss (.t 17) (.t 21)⟩,
  ⟨some 23, none, .pick (.t 16) (.t 22) (.c (.bool false))⟩]) (.cond (.t 23) (.skip) (.exit 0))) (.seq (.blk 1 (.seq (.rg [⟨some 26, none, .mv (.t 0)⟩,
  ⟨some 27, none, .mv (.t 1)⟩,
  ⟨some 28, none, .mv (.t 8)⟩,
  ⟨some 29, none, .bin .add (.t 27) (.t 28)⟩,
  ⟨some 30, none, .ia 1 (.t 26) (.t 29)⟩,
  ⟨some 31, none, .ld (.t 30)⟩,
  ⟨some 32, none, .cvI .i64 (.t 31)⟩,
  ⟨some 9, none, .mv (.t 32)⟩]) (.seq (.rg [⟨some 33, none, .mv (.t 7)⟩,
  ⟨some 34, none, .mv (.t 9)⟩,
  ⟨some 35, none, .bin .rem (.t 34) (.c (.int .i64 128))⟩,
  ⟨some 36, none, .mv (.t 8)⟩,
  ⟨some 37, none, .bin .mul (.c (.int .i64 7)) (.t 36)⟩,
  ⟨some 38, none, .bin .shl (.t 35) (.t 37)⟩,
  ⟨some 39, none, .bin .add (.t 33) (.t 38)⟩,
  ⟨some 7, none, .mv (.t 39)⟩]) (.seq (.seq (.rg [⟨some 40, none, .mv (.t 9)⟩,
  ⟨some 41, none, .bin .geq (.t 40) (.c (.int .i64 128))⟩]) (.cond (.t 41) (.exit 1) (.skip))) (.seq (.seq (.rg [⟨some 42, none, .mv (.t 9)⟩,
  ⟨some 43, none, .bin .eql (.t 42) (.c (.int .i64 0))⟩,
  ⟨some 44, none, .mv (.t 43)⟩,
  ⟨some 45, some (44, true), .mv (.t 8)⟩,
  ⟨some 46, some (44, true), .bin .gtr (.t 45) (.c (.int .i64 0))⟩,
  ⟨some 47, none, .pick (.t 44) (.t 46) (.c (.bool false))⟩,
  ⟨some 48, none, .mv (.t 47)⟩,
  ⟨some 49, some (48, false), .mv (.t 7)⟩,
  ⟨some 50, some (48, false), .bin .gtr (.t 49) (.c (.int .i64 1000000))⟩,
  ⟨some 51, none, .pick (.t 48) (.c (.bool true)) (.t 50)⟩]) (.cond (.t 51) (.seq (.rg [⟨some 4, none, .mv (.c (.int .i64 0))⟩,
  ⟨some 5, none, .mv (.c (.int .i64 0))⟩,
  ⟨some 6, none, .mv (.c (.bool false))⟩]) (.ret)) (.skip))) (.seq (.rg [⟨some 52, none, .mv (.t 7)⟩,
  ⟨some 53, none, .mv (.t 1)⟩,
  ⟨some 54, none, .mv (.t 8)⟩,
  ⟨some 55, none, .bin .add (.t 53) (.t 54)⟩,
  ⟨some 56, none, .bin .add (.t 55) (.c (.int .i64 1))⟩,
  ⟨some 4, none, .mv (.t 52)⟩,
  ⟨some 5, none, .mv (.t 56)⟩,
  ⟨some 6, none, .mv (.c (.bool true))⟩]) (.ret))))))) (.rg [⟨some 24, none, .mv (.t 8)⟩,
  ⟨some 25, none, .bin .add (.t 24) (.c (.int .i64 1))⟩,
  ⟨some 8, none, .mv (.t 25)⟩]))
def s_impl_GetU : SFn := ⟨57, .seq (.rg [⟨some 4, none, .mv (.c (.int .i64 0))⟩,
  ⟨some 5, none, .mv (.c (.int .i64 0))⟩,
  ⟨some 6, none, .mv (.c (.bool false))⟩]) (.seq (.rg [⟨some 7, none, .mv (.c (.int .i64 0))⟩]) (.seq (.seq (.rg [⟨some 8, none, .mv (.c (.int .i64 0))⟩]) (.blk 0 (.loop s_impl_GetU_L0))) (.seq (.rg [⟨some 4, none, .mv (.c (.int .i64 0))⟩,
  ⟨some 5, none, .mv (.c (.int .i64 0))⟩,
  ⟨some 6, none, .mv (.c (.bool false))⟩]) (.ret)))), [.t 4, .t 5, .t 6]⟩
def s_impl_GetText : SFn := ⟨37, .seq (.rg [⟨some 4, none, .mv (.c (.str []))⟩,
  ⟨some 5, none, .mv (.c (.int .i64 0))⟩,
  ⟨some 6, none, .mv (.c (.bool false))⟩]) (.seq (.rg [⟨some 11, none, .mv (.t 0)⟩,
  ⟨some 12, none, .mv (.t 1)⟩,
  ⟨some 13, none, .callP 84 [.t 11, .t 12]⟩,
  ⟨some 10, none, .mv (.t 13)⟩,
  ⟨some 14, none, .ext (.t 10) 0⟩,
  ⟨some 15, none, .ext (.t 10) 1⟩,
  ⟨some 16, none, .ext (.t 10) 2⟩,
  ⟨some 7, none, .mv (.t 14)⟩,
  ⟨some 8, none, .mv (.t 15)⟩,
  ⟨some 9, none, .mv (.t 16)⟩]) (.seq (.seq (.rg [⟨some 17, none, .mv (.t 9)⟩,
  ⟨some 18, none, .un .not (.t 17)⟩,
  ⟨some 19, none, .mv (.t 18)⟩,
  ⟨some 20, some (19, false), .mv (.t 7)⟩,
  ⟨some 21, some (19, false), .mv (.t 0)⟩,
  ⟨some 22, some (19, false), .lenL (.t 21)⟩,
  ⟨some 23, some (19, false), .mv (.t 8)⟩,
  ⟨some 24, some (19, false), .bin .sub (.t 22) (.t 23)⟩,
  ⟨some 25, some (19, false), .bin .gtr (.t 20) (.t 24)⟩,
  ⟨some 26, none, .pick (.t 19) (.c (.bool true)) (.t 25)⟩]) (.cond (.t 26) (.seq (.rg [⟨some 4, none, .mv (.c (.str []))⟩,
  ⟨some 5, none, .mv (.c (.int .i64 0))⟩,
  ⟨some 6, none, .mv (.c (.bool false))⟩]) (.ret)) (.skip))) (.seq (.rg [⟨some 27, none, .mv (.t 0)⟩,
  ⟨some 28, none, .mv (.t 8)⟩,
  ⟨some 29, none, .mv (.t 8)⟩,
  ⟨some 30, none, .mv (.t 7)⟩,
  ⟨some 31, none, .bin .add (.t 29) (.t 30)⟩,
  ⟨some 32, none, .sliL 1 (.t 27) (some (.t 28)) (some (.t 31))⟩,
  ⟨some 33, none, .cvS (.t 32)⟩,
  ⟨some 34, none, .mv (.t 8)⟩,
  ⟨some 35, none, .mv (.t 7)⟩,
  ⟨some 36, none, .bin .add (.t 34) (.t 35)⟩,
  ⟨some 4, none, .mv (.t 33)⟩,
  ⟨some 5, none, .mv (.t 36)⟩,
  ⟨some 6, none, .mv (.c (.bool true))⟩]) (.ret)))), [.t 4, .t 5, .t 6]⟩
def s_impl_clamp : SFn := ⟨12, .seq (.rg [⟨some 6, none, .mv (.c (.int .i64 0))⟩]) (.seq (.rg [⟨some 7, none, .mv (.t 1)⟩,
  ⟨some 8, none, .mv (.t 0)⟩,
  ⟨some 9, none, .mv (.t 2)⟩,
  ⟨some 10, none, .min [.t 8, .t 9]⟩,
  ⟨some 11, none, .max [.t 7, .t 10]⟩,
  ⟨some 6, none, .mv (.t 11)⟩]) (.ret)), [.t 6]⟩
def s_impl_addU_L0 : SCode := .seq (.seq (.rg [⟨some 7, none, .mv (.t 1)⟩,
  ⟨some 8, none, .bin .gtr (.t 7) (.c (.int .i64 127))⟩]) (.cond (.t 8) (.skip) (.exit 0))) (.blk 1 (.seq (.rg [⟨some 9, none, .mv (.t 0)⟩,
  ⟨some 10, none, .mv (.t 1)⟩,
  ⟨some 11, none, .bin .rem (.t 10) (.c (.int .i64 128))⟩,
  ⟨some 12, none, .bin .add (.t 11) (.c (.int .i64 128))⟩,
  ⟨some 13, none, .cvI .u8 (.t 12)⟩,
  ⟨some 14, none, .bslice true [.int .u8 0] 1 [(0, .t 13)]⟩,
  ⟨some 15, none, .app true 1 1 (.t 9) (.t 14)⟩,
  ⟨some 0, none, .mv (.t 15)⟩]) (.rg [⟨some 16, none, .mv (.t 1)⟩,
  ⟨some 17, none, .bin .quo (.t 16) (.c (.int .i64 128))⟩,
  ⟨some 1, none, .mv (.t 17)⟩])))
def s_impl_addU : SFn := ⟨23, .seq (.rg [⟨some 4, none, .mv (.c .snil)⟩]) (.seq (.rg [⟨some 5, none, .mv (.t 1)⟩,
  ⟨some 6, none, .callP 114 [.t 5, .c (.int .i64 0), .c (.int .i64 1000000)]⟩,
  ⟨some 1, none, .mv (.t 6)⟩]) (.seq (.blk 0 (.loop s_impl_addU_L0)) (.seq (.rg [⟨some 18, none, .mv (.t 0)⟩,
  ⟨some 19, none, .mv (.t 1)⟩,
  ⟨some 20, none, .cvI .u8 (.t 19)⟩,
  ⟨some 21, none, .bslice true [.int .u8 0] 1 [(0, .t 20)]⟩,
  ⟨some 22, none, .app true 1 1 (.t 18) (.t 21)⟩,
  ⟨some 4, none, .mv (.t 22)⟩]) (.ret)))), [.t 4]⟩
def s_impl_addText : SFn := ⟨11, .seq (.rg [⟨some 4, none, .mv (.c .snil)⟩]) (.seq (.rg [⟨some 5, none, .mv (.t 0)⟩,
  ⟨some 6, none, .mv (.t 1)⟩,
  ⟨some 7, none, .lenS (.t 6)⟩,
  ⟨some 8, none, .callK 88 [.t 5, .t 7]⟩,
  ⟨some 9, none, .mv (.t 1)⟩,
  ⟨some 10, none, .app true 1 1 (.t 8) (.t 9)⟩,
  ⟨some 4, none, .mv (.t 10)⟩]) (.ret)), [.t 4]⟩
def s_impl_PutPage : SFn := ⟨19, .seq (.rg [⟨some 4, none, .mv (.c .snil)⟩]) (.seq (.seq (.rg [⟨some 5, none, .mv (.t 0)⟩,
  ⟨some 6, none, .callP 85 [.t 5, .c (.int .i64 1), .c (.int .i64 2)]⟩,
  ⟨some 7, none, .un .not (.t 6)⟩,
  ⟨some 8, none, .mv (.t 7)⟩,
  ⟨some 9, some (8, false), .mv (.t 1)⟩,
  ⟨some 10, some (8, false), .lenL (.t 9)⟩,
  ⟨some 11, some (8, false), .bin .gtr (.t 10) (.c (.int .i64 240))⟩,
  ⟨some 12, none, .pick (.t 8) (.c (.bool true)) (.t 11)⟩]) (.cond (.t 12) (.seq (.rg [⟨some 4, none, .mv (.c .snil)⟩]) (.ret)) (.skip))) (.seq (.rg [⟨some 13, none, .mv (.t 0)⟩,
  ⟨some 14, none, .callK 88 [.c .snil, .t 13]⟩,
  ⟨some 15, none, .mv (.t 1)⟩,
  ⟨some 16, none, .cvP (.t 15)⟩,
  ⟨some 17, none, .callK 89 [.t 14, .t 16]⟩,
  ⟨some 18, none, .callK 134 [.t 17]⟩,
  ⟨some 4, none, .mv (.t 18)⟩]) (.ret))), [.t 4]⟩
def s_impl_GetPage : SFn := ⟨58, .seq (.rg [⟨some 2, none, .mv (.c (.int .i64 0))⟩,
  ⟨some 3, none, .mv (.c .snil)⟩,
  ⟨some 4, none, .mv (.c (.bool false))⟩]) (.seq (.rg [⟨some 14, none, .mv (.t 0)⟩,
  ⟨some 15, none, .callP 111 [.t 14]⟩,
  ⟨some 13, none, .mv (.t 15)⟩,
  ⟨some 16, none, .ext (.t 13) 0⟩,
  ⟨some 17, none, .ext (.t 13) 1⟩,
  ⟨some 5, none, .mv (.t 16)⟩,
  ⟨some 6, none, .mv (.t 17)⟩]) (.seq (.rg [⟨some 19, none, .mv (.t 5)⟩,
  ⟨some 20, none, .callP 84 [.t 19, .c (.int .i64 0)]⟩,
  ⟨some 18, none, .mv (.t 20)⟩,
  ⟨some 21, none, .ext (.t 18) 0⟩,
  ⟨some 22, none, .ext (.t 18) 1⟩,
  ⟨some 23, none, .ext (.t 18) 2⟩,
  ⟨some 7, none, .mv (.t 21)⟩,
  ⟨some 8, none, .mv (.t 22)⟩,
  ⟨some 9, none, .mv (.t 23)⟩]) (.seq (.rg [⟨some 25, none, .mv (.t 5)⟩,
  ⟨some 26, none, .mv (.t 8)⟩,
  ⟨some 27, none, .callP 86 [.t 25, .t 26]⟩,
  ⟨some 24, none, .mv (.t 27)⟩,
  ⟨some 28, none, .ext (.t 24) 0⟩,
  ⟨some 29, none, .ext (.t 24) 1⟩,
  ⟨some 30, none, .ext (.t 24) 2⟩,
  ⟨some 10, none, .mv (.t 28)⟩,
  ⟨some 11, none, .mv (.t 29)⟩,
  ⟨some 12, none, .mv (.t 30)⟩]) (.seq (.seq (.rg [⟨some 31, none, .mv (.t 6)⟩,
  ⟨some 32, none, .un .not (.t 31)⟩,
  ⟨some 33, none, .mv (.t 32)⟩,
  ⟨some 34, some (33, false), .mv (.t 9)⟩,
  ⟨some 35, some (33, false), .un .not (.t 34)⟩,
  ⟨some 36, none, .pick (.t 33) (.c (.bool true)) (.t 35)⟩,
  ⟨some 37, none, .mv (.t 36)⟩,
  ⟨some 38, some (37, false), .mv (.t 12)⟩,
  ⟨some 39, some (37, false), .un .not (.t 38)⟩,
  ⟨some 40, none, .pick (.t 37) (.c (.bool true)) (.t 39)⟩,
  ⟨some 41, none, .mv (.t 40)⟩,
  ⟨some 42, some (41, false), .mv (.t 7)⟩,
  ⟨some 43, some (41, false), .bin .lss (.t 42) (.c (.int .i64 1))⟩,
  ⟨some 44, none, .pick (.t 41) (.c (.bool true)) (.t 43)⟩,
  ⟨some 45, none, .mv (.t 44)⟩,
  ⟨some 46, some (45, false), .mv (.t 7)⟩,
  ⟨some 47, some (45, false), .mv (.t 10)⟩,
  ⟨some 48, some (45, false), .cvB (.t 47)⟩,
  ⟨some 49, some (45, false), .callD 112 false [.t 46, .t 48]⟩,
  ⟨some 50, some (45, false), .cvS (.t 49)⟩,
  ⟨some 51, some (45, false), .mv (.t 0)⟩,
  ⟨some 52, some (45, false), .cvS (.t 51)⟩,
  ⟨some 53, some (45, false), .bin .neq (.t 50) (.t 52)⟩,
  ⟨some 54, none, .pick (.t 45) (.c (.bool true)) (.t 53)⟩]) (.cond (.t 54) (.seq (.rg [⟨some 2, none, .mv (.c (.int .i64 0))⟩,
  ⟨some 3, none, .mv (.c .snil)⟩,
  ⟨some 4, none, .mv (.c (.bool false))⟩]) (.ret)) (.skip))) (.seq (.rg [⟨some 55, none, .mv (.t 7)⟩,
  ⟨some 56, none, .mv (.t 10)⟩,
  ⟨some 57, none, .cvB (.t 56)⟩,
  ⟨some 2, none, .mv (.t 55)⟩,
  ⟨some 3, none, .mv (.t 57)⟩,
  ⟨some 4, none, .mv (.c (.bool true))⟩]) (.ret)))))), [.t 2, .t 3, .t 4]⟩
def s_impl_isSector : SFn := ⟨5, .seq (.rg [⟨some 2, none, .mv (.c (.bool false))⟩]) (.seq (.rg [⟨some 3, none, .mv (.t 0)⟩,
  ⟨some 4, none, .callP 85 [.t 3, .c (.int .i64 2), .c (.int .i64 47)]⟩,
  ⟨some 2, none, .mv (.t 4)⟩]) (.ret)), [.t 2]⟩
def s_impl_MetaOk : SFn := ⟨16, .seq (.rg [⟨some 1, none, .box (.t 0)⟩,
  ⟨some 2, none, .mv (.c (.bool false))⟩]) (.seq (.rg [⟨some 3, none, .fa 0 (.t 1)⟩,
  ⟨some 4, none, .ld (.t 3)⟩,
  ⟨some 5, none, .callP 85 [.t 4, .c (.int .i64 0), .c (.int .i64 1000000)]⟩,
  ⟨some 6, none, .mv (.t 5)⟩,
  ⟨some 7, some (6, true), .fa 1 (.t 1)⟩,
  ⟨some 8, some (6, true), .ld (.t 7)⟩,
  ⟨some 9, some (6, true), .bin .eql (.t 8) (.c (.int .i64 0))⟩,
  ⟨some 10, some (6, true), .mv (.t 9)⟩,
  ⟨some 11, some (10, false), .fa 1 (.t 1)⟩,
  ⟨some 12, some (10, false), .ld (.t 11)⟩,
  ⟨some 13, some (10, false), .callP 135 [.t 12]⟩,
  ⟨some 14, some (6, true), .pick (.t 10) (.c (.bool true)) (.t 13)⟩,
  ⟨some 15, none, .pick (.t 6) (.t 14) (.c (.bool false))⟩,
  ⟨some 2, none, .mv (.t 15)⟩]) (.ret)), [.t 2]⟩
def s_impl_PutMeta : SFn := ⟨13, .seq (.rg [⟨some 1, none, .box (.t 0)⟩,
  ⟨some 2, none, .mv (.c .snil)⟩]) (.seq (.seq (.rg [⟨some 3, none, .ldA 2 (.t 1)⟩,
  ⟨some 4, none, .callP 121 [.t 3]⟩,
  ⟨some 5, none, .un .not (.t 4)⟩]) (.cond (.t 5) (.seq (.rg [⟨some 2, none, .mv (.c .snil)⟩]) (.ret)) (.skip))) (.seq (.rg [⟨some 6, none, .fa 0 (.t 1)⟩,
  ⟨some 7, none, .ld (.t 6)⟩,
  ⟨some 8, none, .callK 88 [.c .snil, .t 7]⟩,
  ⟨some 9, none, .fa 1 (.t 1)⟩,
  ⟨some 10, none, .ld (.t 9)⟩,
  ⟨some 11, none, .callK 88 [.t 8, .t 10]⟩,
  ⟨some 12, none, .callD 112 true [.c (.int .i64 2), .t 11]⟩,
  ⟨some 2, none, .mv (.t 12)⟩]) (.ret))), [.t 2]⟩
def s_impl_GetMeta : SFn := ⟨56, .seq (.rg [⟨some 2, none, .alloc [.int .i64 0, .int .i64 0]⟩,
  ⟨some 3, none, .mv (.c (.bool false))⟩]) (.seq (.rg [⟨some 15, none, .mv (.t 0)⟩,
  ⟨some 16, none, .callP 83 [.t 15]⟩,
  ⟨some 14, none, .mv (.t 16)⟩,
  ⟨some 17, none, .ext (.t 14) 0⟩,
  ⟨some 18, none, .ext (.t 14) 1⟩,
  ⟨some 19, none, .ext (.t 14) 2⟩,
  ⟨some 4, none, .mv (.t 17)⟩,
  ⟨some 5, none, .mv (.t 18)⟩,
  ⟨some 6, none, .mv (.t 19)⟩]) (.seq (.rg [⟨some 21, none, .mv (.t 5)⟩,
  ⟨some 22, none, .callP 84 [.t 21, .c (.int .i64 0)]⟩,
  ⟨some 20, none, .mv (.t 22)⟩,
  ⟨some 23, none, .ext (.t 20) 0⟩,
  ⟨some 24, none, .ext (.t 20) 1⟩,
  ⟨some 25, none, .ext (.t 20) 2⟩,
  ⟨some 7, none, .mv (.t 23)⟩,
  ⟨some 8, none, .mv (.t 24)⟩,
  ⟨some 9, none, .mv (.t 25)⟩]) (.seq (.rg [⟨some 27, none, .mv (.t 5)⟩,
  ⟨some 28, none, .mv (.t 8)⟩,
  ⟨some 29, none, .callP 84 [.t 27, .t 28]⟩,
  ⟨some 26, none, .mv (.t 29)⟩,
  ⟨some 30, none, .ext (.t 26) 0⟩,
  ⟨some 31, none, .ext (.t 26) 1⟩,
  ⟨some 32, none, .ext (.t 26) 2⟩,
  ⟨some 10, none, .mv (.t 30)⟩,
  ⟨some 11, none, .mv (.t 31)⟩,
  ⟨some 12, none, .mv (.t 32)⟩]) (.seq (.rg [⟨some 33, none, .mv (.t 7)⟩,
  ⟨some 34, none, .mv (.t 10)⟩,
  ⟨some 35, none, .build [.int .i64 0, .int .i64 0] [(0, (1, .t 33)), (1, (1, .t 34))]⟩,
  ⟨some 13, none, .alloc [.int .i64 0, .int .i64 0]⟩,
  ⟨none, none, .st 2 (.t 13) (.t 35)⟩]) (.seq (.seq (.rg [⟨some 36, none, .mv (.t 6)⟩,
  ⟨some 37, none, .un .not (.t 36)⟩,
  ⟨some 38, none, .mv (.t 37)⟩,
  ⟨some 39, some (38, false), .mv (.t 9)⟩,
  ⟨some 40, some (38, false), .un .not (.t 39)⟩,
  ⟨some 41, none, .pick (.t 38) (.c (.bool true)) (.t 40)⟩,
  ⟨some 42, none, .mv (.t 41)⟩,
  ⟨some 43, some (42, false), .mv (.t 12)⟩,
  ⟨some 44, some (42, false), .un .not (.t 43)⟩,
  ⟨some 45, none, .pick (.t 42) (.c (.bool true)) (.t 44)⟩,
  ⟨some 46, none, .mv (.t 45)⟩,
  ⟨some 47, some (46, false), .ldA 2 (.t 13)⟩,
  ⟨some 48, some (46, false), .callD 108 false [.t 47]⟩,
  ⟨some 49, some (46, false), .cvS (.t 48)⟩,
  ⟨some 50, some (46, false), .mv (.t 0)⟩,
  ⟨some 51, some (46, false), .cvS (.t 50)⟩,
  ⟨some 52, some (46, false), .bin .neq (.t 49) (.t 51)⟩,
  ⟨some 53, none, .pick (.t 46) (.c (.bool true)) (.t 52)⟩]) (.cond (.t 53) (.seq (.rg [⟨some 54, none, .build [.int .i64 0, .int .i64 0] []⟩,
  ⟨none, none, .st 2 (.t 2) (.t 54)⟩,
  ⟨some 3, none, .mv (.c (.bool false))⟩]) (.ret)) (.skip))) (.seq (.rg [⟨some 55, none, .ldA 2 (.t 13)⟩,
  ⟨none, none, .st 2 (.t 2) (.t 55)⟩,
  ⟨some 3, none, .mv (.c (.bool true))⟩]) (.ret))))))), [.ldA 2 2, .t 3]⟩
def s_impl_BestMeta_L0 : SCode := .seq (.rg [⟨some 12, none, .bin .lss (.t 11) (.c (.int .i64 2))⟩]) (.seq (.cond (.t 12) (.skip) (.exit 0)) (.seq (.blk 1 (.seq (.rg [⟨some 13, none, .mv (.t 11)⟩,
  ⟨some 6, none, .mv (.t 13)⟩]) (.seq (.rg [⟨some 15, none, .ldA 5 (.t 1)⟩,
  ⟨some 16, none, .mv (.t 6)⟩,
  ⟨some 17, none, .callP 77 [.t 15, .t 16]⟩,
  ⟨some 14, none, .mv (.t 17)⟩,
  ⟨some 18, none, .ext (.t 14) 0⟩,
  ⟨some 19, none, .ext (.t 14) 1⟩,
  ⟨some 7, none, .mv (.t 18)⟩,
  ⟨some 8, none, .mv (.t 19)⟩]) (.seq (.rg [⟨some 21, none, .mv (.t 7)⟩,
  ⟨some 22, none, .callP 78 [.t 21]⟩,
  ⟨some 20, none, .mv (.t 22)⟩,
  ⟨some 23, none, .ext (.t 20) 0⟩,
  ⟨some 24, none, .ext (.t 20) 1⟩,
  ⟨some 9, none, .alloc [.int .i64 0, .int .i64 0]⟩,
  ⟨none, none, .st 2 (.t 9) (.t 23)⟩,
  ⟨some 10, none, .mv (.t 24)⟩]) (.seq (.rg [⟨some 25, none, .mv (.t 10)⟩,
  ⟨some 26, none, .mv (.t 25)⟩,
  ⟨some 27, some (26, true), .fa 0 (.t 9)⟩,
  ⟨some 28, some (26, true), .ld (.t 27)⟩,
  ⟨some 29, some (26, true), .bin .rem (.t 28) (.c (.int .i64 2))⟩,
  ⟨some 30, some (26, true), .mv (.t 6)⟩,
  ⟨some 31, some (26, true), .bin .eql (.t 29) (.t 30)⟩,
  ⟨some 32, none, .pick (.t 26) (.t 31) (.c (.bool false))⟩,
  ⟨some 33, none, .mv (.t 32)⟩,
  ⟨some 34, some (33, true), .mv (.t 5)⟩,
  ⟨some 35, some (33, true), .un .not (.t 34)⟩,
  ⟨some 36, some (33, true), .mv (.t 35)⟩,
  ⟨some 37, some (36, false), .fa 0 (.t 9)⟩,
  ⟨some 38, some (36, false), .ld (.t 37)⟩,
  ⟨some 39, some (36, false), .fa 0 (.t 4)⟩,
  ⟨some 40, some (36, false), .ld (.t 39)⟩,
  ⟨some 41, some (36, false), .bin .gtr (.t 38) (.t 40)⟩,
  ⟨some 42, some (33, true), .pick (.t 36) (.c (.bool true)) (.t 41)⟩,
  ⟨some 43, none, .pick (.t 33) (.t 42) (.c (.bool false))⟩]) (.cond (.t 43) (.rg [⟨some 44, none, .ldA 2 (.t 9)⟩,
  ⟨none, none, .st 2 (.t 4) (.t 44)⟩,
  ⟨some 5, none, .mv (.c (.bool true))⟩]) (.skip))))))) (.rg [⟨some 45, none, .bin .add (.t 11) (.c (.int .i64 1))⟩,
  ⟨some 11, none, .mv (.t 45)⟩])))
def s_impl_BestMeta : SFn := ⟨48, .seq (.rg [⟨some 1, none, .box (.t 0)⟩,
  ⟨some 2, none, .alloc [.int .i64 0, .int .i64 0]⟩,
  ⟨some 3, none, .mv (.c (.bool false))⟩]) (.seq (.rg [⟨some 4, none, .alloc [.int .i64 0, .int .i64 0]⟩]) (.seq (.rg [⟨some 5, none, .mv (.c (.bool false))⟩]) (.seq (.seq (.rg [⟨some 11, none, .mv (.c (.int .i64 0))⟩]) (.blk 0 (.loop s_impl_BestMeta_L0))) (.seq (.rg [⟨some 46, none, .ldA 2 (.t 4)⟩,
  ⟨some 47, none, .mv (.t 5)⟩,
  ⟨none, none, .st 2 (.t 2) (.t 46)⟩,
  ⟨some 3, none, .mv (.t 47)⟩]) (.ret))))), [.ldA 2 2, .t 3]⟩
def s_impl_copyDisk_L0 : SCode := .seq (.rg [⟨some 13, none, .bin .lss (.t 12) (.t 11)⟩]) (.seq (.cond (.t 13) (.skip) (.exit 0)) (.seq (.blk 1 (.seq (.rg [⟨some 14, none, .ia 1 (.t 10) (.t 12)⟩,
  ⟨some 15, none, .ld (.t 14)⟩,
  ⟨some 5, none, .mv (.t 15)⟩]) (.rg [⟨some 16, none, .mv (.t 3)⟩,
  ⟨some 17, none, .mv (.t 5)⟩,
  ⟨some 18, none, .callU 79 [.t 17]⟩,
  ⟨some 19, none, .bslice true [.snil] 1 [(0, .t 18)]⟩,
  ⟨some 20, none, .app true 24 1 (.t 16) (.t 19)⟩,
  ⟨some 3, none, .mv (.t 20)⟩]))) (.rg [⟨some 21, none, .bin .add (.t 12) (.c (.int .i64 1))⟩,
  ⟨some 12, none, .mv (.t 21)⟩])))
def s_impl_copyDisk_L1 : SCode := .seq (.rg [⟨some 26, none, .bin .lss (.t 25) (.t 24)⟩]) (.seq (.cond (.t 26) (.skip) (.exit 2)) (.seq (.blk 3 (.seq (.rg [⟨some 27, none, .ia 2 (.t 23) (.t 25)⟩,
  ⟨some 28, none, .ldA 2 (.t 27)⟩,
  ⟨some 8, none, .alloc [.int .i64 0, .snil]⟩,
  ⟨none, none, .st 2 (.t 8) (.t 28)⟩]) (.rg [⟨some 29, none, .mv (.t 6)⟩,
  ⟨some 30, none, .fa 0 (.t 8)⟩,
  ⟨some 31, none, .ld (.t 30)⟩,
  ⟨some 32, none, .fa 1 (.t 8)⟩,
  ⟨some 33, none, .ld (.t 32)⟩,
  ⟨some 34, none, .callU 79 [.t 33]⟩,
  ⟨some 35, none, .build [.int .i64 0, .snil] [(0, (1, .t 31)), (1, (1, .t 34))]⟩,
  ⟨some 36, none, .bslice true [.int .i64 0, .snil] 1 [(0, .t 35)]⟩,
  ⟨some 37, none, .app true 32 2 (.t 29) (.t 36)⟩,
  ⟨some 6, none, .mv (.t 37)⟩]))) (.rg [⟨some 38, none, .bin .add (.t 25) (.c (.int .i64 1))⟩,
  ⟨some 25, none, .mv (.t 38)⟩])))
def s_impl_copyDisk : SFn := ⟨48, .seq (.rg [⟨some 1, none, .box (.t 0)⟩,
  ⟨some 2, none, .alloc [.snil, .snil, .int .i64 0, .snil, .bool false]⟩]) (.seq (.rg [⟨some 3, none, .mv (.c .snil)⟩]) (.seq (.seq (.rg [⟨some 9, none, .fa 0 (.t 1)⟩,
  ⟨some 10, none, .ld (.t 9)⟩,
  ⟨some 11, none, .lenL (.t 10)⟩,
  ⟨some 12, none, .mv (.c (.int .i64 0))⟩]) (.blk 0 (.loop s_impl_copyDisk_L0))) (.seq (.rg [⟨some 6, none, .mv (.c .snil)⟩]) (.seq (.seq (.rg [⟨some 22, none, .fa 1 (.t 1)⟩,
  ⟨some 23, none, .ld (.t 22)⟩,
  ⟨some 24, none, .lenL (.t 23)⟩,
  ⟨some 25, none, .mv (.c (.int .i64 0))⟩]) (.blk 2 (.loop s_impl_copyDisk_L1))) (.seq (.rg [⟨some 39, none, .mv (.t 3)⟩,
  ⟨some 40, none, .mv (.t 6)⟩,
  ⟨some 41, none, .fa 0 (.t 1)⟩,
  ⟨none, none, .st 1 (.t 41) (.t 39)⟩,
  ⟨some 42, none, .fa 1 (.t 1)⟩,
  ⟨none, none, .st 1 (.t 42) (.t 40)⟩]) (.seq (.rg [⟨some 43, none, .fa 3 (.t 1)⟩,
  ⟨some 44, none, .ld (.t 43)⟩,
  ⟨some 45, none, .app true 24 3 (.c .snil) (.t 44)⟩,
  ⟨some 46, none, .fa 3 (.t 1)⟩,
  ⟨none, none, .st 1 (.t 46) (.t 45)⟩]) (.seq (.rg [⟨some 47, none, .ldA 5 (.t 1)⟩,
  ⟨none, none, .st 5 (.t 2) (.t 47)⟩]) (.ret)))))))), [.ldA 2 5]⟩
def s_impl_TxNew : SFn := ⟨19, .seq (.rg [⟨some 1, none, .box (.t 0)⟩,
  ⟨some 2, none, .alloc [.snil, .snil, .int .i64 0, .snil, .bool false, .int .i64 0, .int .i64 0, .int .i64 0, .snil]⟩]) (.seq (.rg [⟨some 6, none, .ldA 5 (.t 1)⟩,
  ⟨some 7, none, .callP 46 [.t 6]⟩,
  ⟨some 5, none, .mv (.t 7)⟩,
  ⟨some 8, none, .ext (.t 5) 0⟩,
  ⟨some 9, none, .ext (.t 5) 1⟩,
  ⟨some 3, none, .alloc [.int .i64 0, .int .i64 0]⟩,
  ⟨none, none, .st 2 (.t 3) (.t 8)⟩,
  ⟨some 4, none, .mv (.t 9)⟩]) (.seq (.seq (.rg [⟨some 10, none, .mv (.t 4)⟩,
  ⟨some 11, none, .un .not (.t 10)⟩]) (.cond (.t 11) (.seq (.rg [⟨some 12, none, .build [.snil, .snil, .int .i64 0, .snil, .bool false, .int .i64 0, .int .i64 0, .int .i64 0, .snil] []⟩,
  ⟨none, none, .st 9 (.t 2) (.t 12)⟩]) (.ret)) (.skip))) (.seq (.rg [⟨some 13, none, .ldA 5 (.t 1)⟩,
  ⟨some 14, none, .callD 47 false [.t 13]⟩,
  ⟨some 15, none, .ldA 2 (.t 3)⟩,
  ⟨some 16, none, .fa 1 (.t 3)⟩,
  ⟨some 17, none, .ld (.t 16)⟩,
  ⟨some 18, none, .build [.snil, .snil, .int .i64 0, .snil, .bool false, .int .i64 0, .int .i64 0, .int .i64 0, .snil] [(0, (5, .t 14)), (5, (2, .t 15)), (7, (1, .t 17))]⟩,
  ⟨none, none, .st 9 (.t 2) (.t 18)⟩]) (.ret)))), [.ldA 2 9]⟩
def s_impl_newAt_L0 : SCode := .seq (.rg [⟨some 11, none, .bin .lss (.t 10) (.t 9)⟩]) (.seq (.cond (.t 11) (.skip) (.exit 0)) (.seq (.blk 1 (.seq (.rg [⟨some 12, none, .mv (.t 10)⟩,
  ⟨some 13, none, .ia 5 (.t 8) (.t 10)⟩,
  ⟨some 14, none, .ldA 5 (.t 13)⟩,
  ⟨some 6, none, .alloc [.int .i64 0, .bool false, .snil, .snil, .snil]⟩,
  ⟨some 5, none, .mv (.t 12)⟩,
  ⟨none, none, .st 5 (.t 6) (.t 14)⟩]) (.seq (.rg [⟨some 15, none, .fa 0 (.t 6)⟩,
  ⟨some 16, none, .ld (.t 15)⟩,
  ⟨some 17, none, .mv (.t 1)⟩,
  ⟨some 18, none, .bin .eql (.t 16) (.t 17)⟩]) (.cond (.t 18) (.seq (.rg [⟨some 19, none, .mv (.t 5)⟩,
  ⟨some 4, none, .mv (.t 19)⟩]) (.ret)) (.skip))))) (.rg [⟨some 20, none, .bin .add (.t 10) (.c (.int .i64 1))⟩,
  ⟨some 10, none, .mv (.t 20)⟩])))
def s_impl_newAt : SFn := ⟨21, .seq (.rg [⟨some 2, none, .box (.t 0)⟩,
  ⟨some 4, none, .mv (.c (.int .i64 0))⟩]) (.seq (.seq (.rg [⟨some 7, none, .fa 8 (.t 2)⟩,
  ⟨some 8, none, .ld (.t 7)⟩,
  ⟨some 9, none, .lenL (.t 8)⟩,
  ⟨some 10, none, .mv (.c (.int .i64 0))⟩]) (.blk 0 (.loop s_impl_newAt_L0))) (.seq (.rg [⟨some 4, none, .mv (.c (.int .i64 (-1)))⟩]) (.ret))), [.t 4]⟩
def s_impl_copyTexts : SFn := ⟨5, .seq (.rg [⟨some 2, none, .mv (.c .snil)⟩]) (.seq (.rg [⟨some 3, none, .mv (.t 0)⟩,
  ⟨some 4, none, .app true 16 1 (.c .snil) (.t 3)⟩,
  ⟨some 2, none, .mv (.t 4)⟩]) (.ret)), [.t 2]⟩
def s_impl_copyInts : SFn := ⟨5, .seq (.rg [⟨some 2, none, .mv (.c .snil)⟩]) (.seq (.rg [⟨some 3, none, .mv (.t 0)⟩,
  ⟨some 4, none, .app true 8 1 (.c .snil) (.t 3)⟩,
  ⟨some 2, none, .mv (.t 4)⟩]) (.ret)), [.t 2]⟩
def s_impl_copyNode : SFn := ⟨15, .seq (.rg [⟨some 1, none, .box (.t 0)⟩,
  ⟨some 2, none, .alloc [.bool false, .snil, .snil, .snil]⟩]) (.seq (.rg [⟨some 3, none, .fa 0 (.t 1)⟩,
  ⟨some 4, none, .ld (.t 3)⟩,
  ⟨some 5, none, .fa 1 (.t 1)⟩,
  ⟨some 6, none, .ld (.t 5)⟩,
  ⟨some 7, none, .callU 81 [.t 6]⟩,
  ⟨some 8, none, .fa 2 (.t 1)⟩,
  ⟨some 9, none, .ld (.t 8)⟩,
  ⟨some 10, none, .callU 81 [.t 9]⟩,
  ⟨some 11, none, .fa 3 (.t 1)⟩,
  ⟨some 12, none, .ld (.t 11)⟩,
  ⟨some 13, none, .callU 82 [.t 12]⟩,
  ⟨some 14, none, .build [.bool false, .snil, .snil, .snil] [(0, (1, .t 4)), (1, (1, .t 7)), (2, (1, .t 10)), (3, (1, .t 13))]⟩,
  ⟨none, none, .st 4 (.t 2) (.t 14)⟩]) (.ret)), [.ldA 2 4]⟩
def s_impl_PageAt : SFn := ⟨37, .seq (.rg [⟨some 3, none, .box (.t 0)⟩,
  ⟨some 6, none, .mv (.c .snil)⟩,
  ⟨some 7, none, .mv (.c (.bool false))⟩]) (.seq (.rg [⟨some 14, none, .ldA 5 (.t 3)⟩,
  ⟨some 15, none, .mv (.t 1)⟩,
  ⟨some 16, none, .callP 77 [.t 14, .t 15]⟩,
  ⟨some 13, none, .mv (.t 16)⟩,
  ⟨some 17, none, .ext (.t 13) 0⟩,
  ⟨some 18, none, .ext (.t 13) 1⟩,
  ⟨some 8, none, .mv (.t 17)⟩,
  ⟨some 9, none, .mv (.t 18)⟩]) (.seq (.rg [⟨some 20, none, .mv (.t 8)⟩,
  ⟨some 21, none, .callP 83 [.t 20]⟩,
  ⟨some 19, none, .mv (.t 21)⟩,
  ⟨some 22, none, .ext (.t 19) 0⟩,
  ⟨some 23, none, .ext (.t 19) 1⟩,
  ⟨some 24, none, .ext (.t 19) 2⟩,
  ⟨some 10, none, .mv (.t 22)⟩,
  ⟨some 11, none, .mv (.t 23)⟩,
  ⟨some 12, none, .mv (.t 24)⟩]) (.seq (.seq (.rg [⟨some 25, none, .mv (.t 9)⟩,
  ⟨some 26, none, .un .not (.t 25)⟩,
  ⟨some 27, none, .mv (.t 26)⟩,
  ⟨some 28, some (27, false), .mv (.t 12)⟩,
  ⟨some 29, some (27, false), .un .not (.t 28)⟩,
  ⟨some 30, none, .pick (.t 27) (.c (.bool true)) (.t 29)⟩,
  ⟨some 31, none, .mv (.t 30)⟩,
  ⟨some 32, some (31, false), .mv (.t 10)⟩,
  ⟨some 33, some (31, false), .mv (.t 2)⟩,
  ⟨some 34, some (31, false), .bin .neq (.t 32) (.t 33)⟩,
  ⟨some 35, none, .pick (.t 31) (.c (.bool true)) (.t 34)⟩]) (.cond (.t 35) (.seq (.rg [⟨some 6, none, .mv (.c .snil)⟩,
  ⟨some 7, none, .mv (.c (.bool false))⟩]) (.ret)) (.skip))) (.seq (.rg [⟨some 36, none, .mv (.t 11)⟩,
  ⟨some 6, none, .mv (.t 36)⟩,
  ⟨some 7, none, .mv (.c (.bool true))⟩]) (.ret))))), [.t 6, .t 7]⟩
def s_impl_bodyOf_L0 : SCode := .seq (.rg [⟨some 27, none, .bin .lss (.t 26) (.t 25)⟩]) (.seq (.cond (.t 27) (.skip) (.exit 0)) (.seq (.blk 1 (.seq (.rg [⟨some 28, none, .ia 1 (.t 24) (.t 26)⟩,
  ⟨some 29, none, .ld (.t 28)⟩,
  ⟨some 5, none, .mv (.t 29)⟩]) (.rg [⟨some 30, none, .mv (.t 3)⟩,
  ⟨some 31, none, .mv (.t 5)⟩,
  ⟨some 32, none, .callK 89 [.t 30, .t 31]⟩,
  ⟨some 3, none, .mv (.t 32)⟩]))) (.rg [⟨some 33, none, .bin .add (.t 26) (.c (.int .i64 1))⟩,
  ⟨some 26, none, .mv (.t 33)⟩])))
def s_impl_bodyOf_L1 : SCode := .seq (.rg [⟨some 40, none, .bin .lss (.t 39) (.t 38)⟩]) (.seq (.cond (.t 40) (.skip) (.exit 2)) (.seq (.blk 3 (.seq (.rg [⟨some 41, none, .ia 1 (.t 37) (.t 39)⟩,
  ⟨some 42, none, .ld (.t 41)⟩,
  ⟨some 7, none, .mv (.t 42)⟩]) (.rg [⟨some 43, none, .mv (.t 3)⟩,
  ⟨some 44, none, .mv (.t 7)⟩,
  ⟨some 45, none, .callK 89 [.t 43, .t 44]⟩,
  ⟨some 3, none, .mv (.t 45)⟩]))) (.rg [⟨some 46, none, .bin .add (.t 39) (.c (.int .i64 1))⟩,
  ⟨some 39, none, .mv (.t 46)⟩])))
def s_impl_bodyOf_L2 : SCode := .seq (.rg [⟨some 52, none, .bin .lss (.t 51) (.t 50)⟩]) (.seq (.cond (.t 52) (.skip) (.exit 4)) (.seq (.blk 5 (.seq (.rg [⟨some 53, none, .ia 1 (.t 49) (.t 51)⟩,
  ⟨some 54, none, .ld (.t 53)⟩,
  ⟨some 9, none, .mv (.t 54)⟩]) (.rg [⟨some 55, none, .mv (.t 3)⟩,
  ⟨some 56, none, .mv (.t 9)⟩,
  ⟨some 57, none, .callK 88 [.t 55, .t 56]⟩,
  ⟨some 3, none, .mv (.t 57)⟩]))) (.rg [⟨some 58, none, .bin .add (.t 51) (.c (.int .i64 1))⟩,
  ⟨some 51, none, .mv (.t 58)⟩])))
def s_impl_bodyOf : SFn := ⟨60, .seq (.rg [⟨some 1, none, .box (.t 0)⟩,
  ⟨some 2, none, .mv (.c .snil)⟩]) (.seq (.rg [⟨some 3, none, .mv (.c .snil)⟩]) (.seq (.seq (.rg [⟨some 10, none, .fa 0 (.t 1)⟩,
  ⟨some 11, none, .ld (.t 10)⟩]) (.cond (.t 11) (.rg [⟨some 12, none, .mv (.t 3)⟩,
  ⟨some 13, none, .bslice true [.int .u8 0] 1 [(0, .c (.int .u8 1))]⟩,
  ⟨some 14, none, .app true 1 1 (.t 12) (.t 13)⟩,
  ⟨some 3, none, .mv (.t 14)⟩]) (.rg [⟨some 15, none, .mv (.t 3)⟩,
  ⟨some 16, none, .bslice true [.int .u8 0] 1 [(0, .c (.int .u8 0))]⟩,
  ⟨some 17, none, .app true 1 1 (.t 15) (.t 16)⟩,
  ⟨some 3, none, .mv (.t 17)⟩]))) (.seq (.rg [⟨some 18, none, .mv (.t 3)⟩,
  ⟨some 19, none, .fa 1 (.t 1)⟩,
  ⟨some 20, none, .ld (.t 19)⟩,
  ⟨some 21, none, .lenL (.t 20)⟩,
  ⟨some 22, none, .callK 88 [.t 18, .t 21]⟩,
  ⟨some 3, none, .mv (.t 22)⟩]) (.seq (.seq (.rg [⟨some 23, none, .fa 1 (.t 1)⟩,
  ⟨some 24, none, .ld (.t 23)⟩,
  ⟨some 25, none, .lenL (.t 24)⟩,
  ⟨some 26, none, .mv (.c (.int .i64 0))⟩]) (.blk 0 (.loop s_impl_bodyOf_L0))) (.seq (.seq (.rg [⟨some 34, none, .fa 0 (.t 1)⟩,
  ⟨some 35, none, .ld (.t 34)⟩]) (.cond (.t 35) (.seq (.seq (.rg [⟨some 36, none, .fa 2 (.t 1)⟩,
  ⟨some 37, none, .ld (.t 36)⟩,
  ⟨some 38, none, .lenL (.t 37)⟩,
  ⟨some 39, none, .mv (.c (.int .i64 0))⟩]) (.blk 2 (.loop s_impl_bodyOf_L1))) (.seq (.rg [⟨some 47, none, .mv (.t 3)⟩,
  ⟨some 2, none, .mv (.t 47)⟩]) (.ret))) (.skip))) (.seq (.seq (.rg [⟨some 48, none, .fa 3 (.t 1)⟩,
  ⟨some 49, none, .ld (.t 48)⟩,
  ⟨some 50, none, .lenL (.t 49)⟩,
  ⟨some 51, none, .mv (.c (.int .i64 0))⟩]) (.blk 4 (.loop s_impl_bodyOf_L2))) (.seq (.rg [⟨some 59, none, .mv (.t 3)⟩,
  ⟨some 2, none, .mv (.t 59)⟩]) (.ret)))))))), [.t 2]⟩
def s_impl_SizeOf : SFn := ⟨6, .seq (.rg [⟨some 1, none, .box (.t 0)⟩,
  ⟨some 2, none, .mv (.c (.int .i64 0))⟩]) (.seq (.rg [⟨some 3, none, .ldA 4 (.t 1)⟩,
  ⟨some 4, none, .callD 53 false [.t 3]⟩,
  ⟨some 5, none, .lenL (.t 4)⟩,
  ⟨some 2, none, .mv (.t 5)⟩]) (.ret)), [.t 2]⟩
def s_impl_NodeOk_L0 : SCode := .seq (.rg [⟨some 13, none, .bin .lss (.t 12) (.t 11)⟩]) (.seq (.cond (.t 13) (.skip) (.exit 0)) (.seq (.blk 1 (.seq (.rg [⟨some 14, none, .mv (.t 12)⟩,
  ⟨some 15, none, .ia 1 (.t 10) (.t 12)⟩,
  ⟨some 16, none, .ld (.t 15)⟩,
  ⟨some 3, none, .mv (.t 14)⟩,
  ⟨some 4, none, .mv (.t 16)⟩]) (.seq (.rg [⟨some 17, none, .mv (.t 4)⟩,
  ⟨some 18, none, .lenS (.t 17)⟩,
  ⟨some 19, none, .bin .gtr (.t 18) (.c (.int .i64 48))⟩,
  ⟨some 20, none, .mv (.t 19)⟩,
  ⟨some 21, some (20, false), .mv (.t 3)⟩,
  ⟨some 22, some (20, false), .bin .gtr (.t 21) (.c (.int .i64 0))⟩,
  ⟨some 23, some (20, false), .mv (.t 22)⟩,
  ⟨some 24, some (23, true), .fa 1 (.t 1)⟩,
  ⟨some 25, some (23, true), .ld (.t 24)⟩,
  ⟨some 26, some (23, true), .mv (.t 3)⟩,
  ⟨some 27, some (23, true), .bin .sub (.t 26) (.c (.int .i64 1))⟩,
  ⟨some 28, some (23, true), .ia 1 (.t 25) (.t 27)⟩,
  ⟨some 29, some (23, true), .ld (.t 28)⟩,
  ⟨some 30, some (23, true), .mv (.t 4)⟩,
  ⟨some 31, some (23, true), .bin .geq (.t 29) (.t 30)⟩,
  ⟨some 32, some (20, false), .pick (.t 23) (.t 31) (.c (.bool false))⟩,
  ⟨some 33, none, .pick (.t 20) (.c (.bool true)) (.t 32)⟩]) (.cond (.t 33) (.seq (.rg [⟨some 2, none, .mv (.c (.bool false))⟩]) (.ret)) (.skip))))) (.rg [⟨some 34, none, .bin .add (.t 12) (.c (.int .i64 1))⟩,
  ⟨some 12, none, .mv (.t 34)⟩])))
def s_impl_NodeOk_L1 : SCode := .seq (.rg [⟨some 41, none, .bin .lss (.t 40) (.t 39)⟩]) (.seq (.cond (.t 41) (.skip) (.exit 2)) (.seq (.blk 3 (.seq (.rg [⟨some 42, none, .ia 1 (.t 38) (.t 40)⟩,
  ⟨some 43, none, .ld (.t 42)⟩,
  ⟨some 6, none, .mv (.t 43)⟩]) (.seq (.rg [⟨some 44, none, .mv (.t 6)⟩,
  ⟨some 45, none, .lenS (.t 44)⟩,
  ⟨some 46, none, .bin .gtr (.t 45) (.c (.int .i64 60))⟩]) (.cond (.t 46) (.seq (.rg [⟨some 2, none, .mv (.c (.bool false))⟩]) (.ret)) (.skip))))) (.rg [⟨some 47, none, .bin .add (.t 40) (.c (.int .i64 1))⟩,
  ⟨some 40, none, .mv (.t 47)⟩])))
def s_impl_NodeOk_L2 : SCode := .seq (.rg [⟨some 76, none, .bin .lss (.t 75) (.t 74)⟩]) (.seq (.cond (.t 76) (.skip) (.exit 4)) (.seq (.blk 5 (.seq (.rg [⟨some 77, none, .ia 1 (.t 73) (.t 75)⟩,
  ⟨some 78, none, .ld (.t 77)⟩,
  ⟨some 8, none, .mv (.t 78)⟩]) (.seq (.rg [⟨some 79, none, .mv (.t 8)⟩,
  ⟨some 80, none, .callP 135 [.t 79]⟩,
  ⟨some 81, none, .un .not (.t 80)⟩]) (.cond (.t 81) (.seq (.rg [⟨some 2, none, .mv (.c (.bool false))⟩]) (.ret)) (.skip))))) (.rg [⟨some 82, none, .bin .add (.t 75) (.c (.int .i64 1))⟩,
  ⟨some 75, none, .mv (.t 82)⟩])))
def s_impl_NodeOk : SFn := ⟨108, .seq (.rg [⟨some 1, none, .box (.t 0)⟩,
  ⟨some 2, none, .mv (.c (.bool false))⟩]) (.seq (.seq (.rg [⟨some 9, none, .fa 1 (.t 1)⟩,
  ⟨some 10, none, .ld (.t 9)⟩,
  ⟨some 11, none, .lenL (.t 10)⟩,
  ⟨some 12, none, .mv (.c (.int .i64 0))⟩]) (.blk 0 (.loop s_impl_NodeOk_L0))) (.seq (.seq (.rg [⟨some 35, none, .fa 0 (.t 1)⟩,
  ⟨some 36, none, .ld (.t 35)⟩]) (.cond (.t 36) (.seq (.seq (.rg [⟨some 37, none, .fa 2 (.t 1)⟩,
  ⟨some 38, none, .ld (.t 37)⟩,
  ⟨some 39, none, .lenL (.t 38)⟩,
  ⟨some 40, none, .mv (.c (.int .i64 0))⟩]) (.blk 2 (.loop s_impl_NodeOk_L1))) (.seq (.rg [⟨some 48, none, .fa 1 (.t 1)⟩,
  ⟨some 49, none, .ld (.t 48)⟩,
  ⟨some 50, none, .lenL (.t 49)⟩,
  ⟨some 51, none, .bin .gtr (.t 50) (.c (.int .i64 0))⟩,
  ⟨some 52, none, .mv (.t 51)⟩,
  ⟨some 53, some (52, true), .fa 2 (.t 1)⟩,
  ⟨some 54, some (52, true), .ld (.t 53)⟩,
  ⟨some 55, some (52, true), .lenL (.t 54)⟩,
  ⟨some 56, some (52, true), .fa 1 (.t 1)⟩,
  ⟨some 57, some (52, true), .ld (.t 56)⟩,
  ⟨some 58, some (52, true), .lenL (.t 57)⟩,
  ⟨some 59, some (52, true), .bin .eql (.t 55) (.t 58)⟩,
  ⟨some 60, none, .pick (.t 52) (.t 59) (.c (.bool false))⟩,
  ⟨some 61, none, .mv (.t 60)⟩,
  ⟨some 62, some (61, true), .fa 3 (.t 1)⟩,
  ⟨some 63, some (61, true), .ld (.t 62)⟩,
  ⟨some 64, some (61, true), .lenL (.t 63)⟩,
  ⟨some 65, some (61, true), .bin .eql (.t 64) (.c (.int .i64 0))⟩,
  ⟨some 66, none, .pick (.t 61) (.t 65) (.c (.bool false))⟩,
  ⟨some 67, none, .mv (.t 66)⟩,
  ⟨some 68, some (67, true), .ldA 4 (.t 1)⟩,
  ⟨some 69, some (67, true), .callP 25 [.t 68]⟩,
  ⟨some 70, some (67, true), .bin .leq (.t 69) (.c (.int .i64 240))⟩,
  ⟨some 71, none, .pick (.t 67) (.t 70) (.c (.bool false))⟩,
  ⟨some 2, none, .mv (.t 71)⟩]) (.ret))) (.skip))) (.seq (.seq (.rg [⟨some 72, none, .fa 3 (.t 1)⟩,
  ⟨some 73, none, .ld (.t 72)⟩,
  ⟨some 74, none, .lenL (.t 73)⟩,
  ⟨some 75, none, .mv (.c (.int .i64 0))⟩]) (.blk 4 (.loop s_impl_NodeOk_L2))) (.seq (.rg [⟨some 83, none, .fa 3 (.t 1)⟩,
  ⟨some 84, none, .ld (.t 83)⟩,
  ⟨some 85, none, .lenL (.t 84)⟩,
  ⟨some 86, none, .bin .gtr (.t 85) (.c (.int .i64 0))⟩,
  ⟨some 87, none, .mv (.t 86)⟩,
  ⟨some 88, some (87, true), .fa 1 (.t 1)⟩,
  ⟨some 89, some (87, true), .ld (.t 88)⟩,
  ⟨some 90, some (87, true), .lenL (.t 89)⟩,
  ⟨some 91, some (87, true), .fa 3 (.t 1)⟩,
  ⟨some 92, some (87, true), .ld (.t 91)⟩,
  ⟨some 93, some (87, true), .lenL (.t 92)⟩,
  ⟨some 94, some (87, true), .bin .sub (.t 93) (.c (.int .i64 1))⟩,
  ⟨some 95, some (87, true), .bin .eql (.t 90) (.t 94)⟩,
  ⟨some 96, none, .pick (.t 87) (.t 95) (.c (.bool false))⟩,
  ⟨some 97, none, .mv (.t 96)⟩,
  ⟨some 98, some (97, true), .fa 2 (.t 1)⟩,
  ⟨some 99, some (97, true), .ld (.t 98)⟩,
  ⟨some 100, some (97, true), .lenL (.t 99)⟩,
  ⟨some 101, some (97, true), .bin .eql (.t 100) (.c (.int .i64 0))⟩,
  ⟨some 102, none, .pick (.t 97) (.t 101) (.c (.bool false))⟩,
  ⟨some 103, none, .mv (.t 102)⟩,
  ⟨some 104, some (103, true), .ldA 4 (.t 1)⟩,
  ⟨some 105, some (103, true), .callP 25 [.t 104]⟩,
  ⟨some 106, some (103, true), .bin .leq (.t 105) (.c (.int .i64 240))⟩,
  ⟨some 107, none, .pick (.t 103) (.t 106) (.c (.bool false))⟩,
  ⟨some 2, none, .mv (.t 107)⟩]) (.ret))))), [.t 2]⟩
def s_impl_PutNode : SFn := ⟨8, .seq (.rg [⟨some 1, none, .box (.t 0)⟩,
  ⟨some 2, none, .mv (.c .snil)⟩]) (.seq (.seq (.rg [⟨some 3, none, .ldA 4 (.t 1)⟩,
  ⟨some 4, none, .callP 113 [.t 3]⟩,
  ⟨some 5, none, .un .not (.t 4)⟩]) (.cond (.t 5) (.seq (.rg [⟨some 2, none, .mv (.c .snil)⟩]) (.ret)) (.skip))) (.seq (.rg [⟨some 6, none, .ldA 4 (.t 1)⟩,
  ⟨some 7, none, .callD 53 false [.t 6]⟩,
  ⟨some 2, none, .mv (.t 7)⟩]) (.ret))), [.t 2]⟩
def s_impl_GetNode_L0 : SCode := .seq (.seq (.rg [⟨some 49, none, .mv (.t 6)⟩,
  ⟨some 50, none, .mv (.t 49)⟩,
  ⟨some 51, some (50, true), .mv (.t 10)⟩,
  ⟨some 52, some (50, true), .mv (.t 7)⟩,
  ⟨some 53, some (50, true), .bin .lss (.t 51) (.t 52)⟩,
  ⟨some 54, none, .pick (.t 50) (.t 53) (.c (.bool false))⟩]) (.cond (.t 54) (.skip) (.exit 0))) (.seq (.blk 1 (.seq (.rg [⟨some 11, none, .mv (.c (.str []))⟩]) (.seq (.rg [⟨some 58, none, .mv (.t 0)⟩,
  ⟨some 59, none, .mv (.t 5)⟩,
  ⟨some 60, none, .callP 86 [.t 58, .t 59]⟩,
  ⟨some 57, none, .mv (.t 60)⟩,
  ⟨some 61, none, .ext (.t 57) 0⟩,
  ⟨some 62, none, .ext (.t 57) 1⟩,
  ⟨some 63, none, .ext (.t 57) 2⟩,
  ⟨some 11, none, .mv (.t 61)⟩,
  ⟨some 5, none, .mv (.t 62)⟩,
  ⟨some 6, none, .mv (.t 63)⟩]) (.rg [⟨some 64, none, .fa 1 (.t 9)⟩,
  ⟨some 65, none, .ld (.t 64)⟩,
  ⟨some 66, none, .mv (.t 11)⟩,
  ⟨some 67, none, .bslice false [.str []] 1 [(0, .t 66)]⟩,
  ⟨some 68, none, .app false 16 1 (.t 65) (.t 67)⟩,
  ⟨some 69, none, .fa 1 (.t 9)⟩,
  ⟨none, none, .st 1 (.t 69) (.t 68)⟩])))) (.rg [⟨some 55, none, .mv (.t 10)⟩,
  ⟨some 56, none, .bin .add (.t 55) (.c (.int .i64 1))⟩,
  ⟨some 10, none, .mv (.t 56)⟩]))
def s_impl_GetNode_L1 : SCode := .seq (.seq (.rg [⟨some 70, none, .mv (.t 6)⟩,
  ⟨some 71, none, .mv (.t 70)⟩,
  ⟨some 72, some (71, true), .fa 0 (.t 9)⟩,
  ⟨some 73, some (71, true), .ld (.t 72)⟩,
  ⟨some 74, none, .pick (.t 71) (.t 73) (.c (.bool false))⟩,
  ⟨some 75, none, .mv (.t 74)⟩,
  ⟨some 76, some (75, true), .mv (.t 12)⟩,
  ⟨some 77, some (75, true), .mv (.t 7)⟩,
  ⟨some 78, some (75, true), .bin .lss (.t 76) (.t 77)⟩,
  ⟨some 79, none, .pick (.t 75) (.t 78) (.c (.bool false))⟩]) (.cond (.t 79) (.skip) (.exit 2))) (.seq (.blk 3 (.seq (.rg [⟨some 13, none, .mv (.c (.str []))⟩]) (.seq (.rg [⟨some 83, none, .mv (.t 0)⟩,
  ⟨some 84, none, .mv (.t 5)⟩,
  ⟨some 85, none, .callP 86 [.t 83, .t 84]⟩,
  ⟨some 82, none, .mv (.t 85)⟩,
  ⟨some 86, none, .ext (.t 82) 0⟩,
  ⟨some 87, none, .ext (.t 82) 1⟩,
  ⟨some 88, none, .ext (.t 82) 2⟩,
  ⟨some 13, none, .mv (.t 86)⟩,
  ⟨some 5, none, .mv (.t 87)⟩,
  ⟨some 6, none, .mv (.t 88)⟩]) (.rg [⟨some 89, none, .fa 2 (.t 9)⟩,
  ⟨some 90, none, .ld (.t 89)⟩,
  ⟨some 91, none, .mv (.t 13)⟩,
  ⟨some 92, none, .bslice false [.str []] 1 [(0, .t 91)]⟩,
  ⟨some 93, none, .app false 16 1 (.t 90) (.t 92)⟩,
  ⟨some 94, none, .fa 2 (.t 9)⟩,
  ⟨none, none, .st 1 (.t 94) (.t 93)⟩])))) (.rg [⟨some 80, none, .mv (.t 12)⟩,
  ⟨some 81, none, .bin .add (.t 80) (.c (.int .i64 1))⟩,
  ⟨some 12, none, .mv (.t 81)⟩]))
def s_impl_GetNode_L2 : SCode := .seq (.seq (.rg [⟨some 95, none, .mv (.t 6)⟩,
  ⟨some 96, none, .mv (.t 95)⟩,
  ⟨some 97, some (96, true), .fa 0 (.t 9)⟩,
  ⟨some 98, some (96, true), .ld (.t 97)⟩,
  ⟨some 99, some (96, true), .un .not (.t 98)⟩,
  ⟨some 100, none, .pick (.t 96) (.t 99) (.c (.bool false))⟩,
  ⟨some 101, none, .mv (.t 100)⟩,
  ⟨some 102, some (101, true), .mv (.t 14)⟩,
  ⟨some 103, some (101, true), .mv (.t 7)⟩,
  ⟨some 104, some (101, true), .bin .leq (.t 102) (.t 103)⟩,
  ⟨some 105, none, .pick (.t 101) (.t 104) (.c (.bool false))⟩]) (.cond (.t 105) (.skip) (.exit 4))) (.seq (.blk 5 (.seq (.rg [⟨some 15, none, .mv (.c (.int .i64 0))⟩]) (.seq (.rg [⟨some 109, none, .mv (.t 0)⟩,
  ⟨some 110, none, .mv (.t 5)⟩,
  ⟨some 111, none, .callP 84 [.t 109, .t 110]⟩,
  ⟨some 108, none, .mv (.t 111)⟩,
  ⟨some 112, none, .ext (.t 108) 0⟩,
  ⟨some 113, none, .ext (.t 108) 1⟩,
  ⟨some 114, none, .ext (.t 108) 2⟩,
  ⟨some 15, none, .mv (.t 112)⟩,
  ⟨some 5, none, .mv (.t 113)⟩,
  ⟨some 6, none, .mv (.t 114)⟩]) (.rg [⟨some 115, none, .fa 3 (.t 9)⟩,
  ⟨some 116, none, .ld (.t 115)⟩,
  ⟨some 117, none, .mv (.t 15)⟩,
  ⟨some 118, none, .bslice false [.int .i64 0] 1 [(0, .t 117)]⟩,
  ⟨some 119, none, .app false 8 1 (.t 116) (.t 118)⟩,
  ⟨some 120, none, .fa 3 (.t 9)⟩,
  ⟨none, none, .st 1 (.t 120) (.t 119)⟩])))) (.rg [⟨some 106, none, .mv (.t 14)⟩,
  ⟨some 107, none, .bin .add (.t 106) (.c (.int .i64 1))⟩,
  ⟨some 14, none, .mv (.t 107)⟩]))
def s_impl_GetNode : SFn := ⟨139, .seq (.rg [⟨some 2, none, .alloc [.bool false, .snil, .snil, .snil]⟩,
  ⟨some 3, none, .mv (.c (.bool false))⟩]) (.seq (.seq (.rg [⟨some 17, none, .mv (.t 0)⟩,
  ⟨some 18, none, .lenL (.t 17)⟩,
  ⟨some 19, none, .bin .gtr (.t 18) (.c (.int .i64 240))⟩]) (.cond (.t 19) (.seq (.rg [⟨some 20, none, .build [.bool false, .snil, .snil, .snil] []⟩,
  ⟨none, none, .st 4 (.t 2) (.t 20)⟩,
  ⟨some 3, none, .mv (.c (.bool false))⟩]) (.ret)) (.skip))) (.seq (.rg [⟨some 22, none, .mv (.t 0)⟩,
  ⟨some 23, none, .callP 84 [.t 22, .c (.int .i64 0)]⟩,
  ⟨some 21, none, .mv (.t 23)⟩,
  ⟨some 24, none, .ext (.t 21) 0⟩,
  ⟨some 25, none, .ext (.t 21) 1⟩,
  ⟨some 26, none, .ext (.t 21) 2⟩,
  ⟨some 4, none, .mv (.t 24)⟩,
  ⟨some 5, none, .mv (.t 25)⟩,
  ⟨some 6, none, .mv (.t 26)⟩]) (.seq (.rg [⟨some 28, none, .mv (.t 0)⟩,
  ⟨some 29, none, .mv (.t 5)⟩,
  ⟨some 30, none, .callP 84 [.t 28, .t 29]⟩,
  ⟨some 27, none, .mv (.t 30)⟩,
  ⟨some 31, none, .ext (.t 27) 0⟩,
  ⟨some 32, none, .ext (.t 27) 1⟩,
  ⟨some 33, none, .ext (.t 27) 2⟩,
  ⟨some 7, none, .mv (.t 31)⟩,
  ⟨some 5, none, .mv (.t 32)⟩,
  ⟨some 8, none, .mv (.t 33)⟩]) (.seq (.rg [⟨some 34, none, .mv (.t 6)⟩,
  ⟨some 35, none, .mv (.t 34)⟩,
  ⟨some 36, some (35, true), .mv (.t 8)⟩,
  ⟨some 37, none, .pick (.t 35) (.t 36) (.c (.bool false))⟩,
  ⟨some 38, none, .mv (.t 37)⟩,
  ⟨some 39, some (38, true), .mv (.t 4)⟩,
  ⟨some 40, some (38, true), .callP 85 [.t 39, .c (.int .i64 0), .c (.int .i64 1)]⟩,
  ⟨some 41, none, .pick (.t 38) (.t 40) (.c (.bool false))⟩,
  ⟨some 42, none, .mv (.t 41)⟩,
  ⟨some 43, some (42, true), .mv (.t 7)⟩,
  ⟨some 44, some (42, true), .bin .leq (.t 43) (.c (.int .i64 240))⟩,
  ⟨some 45, none, .pick (.t 42) (.t 44) (.c (.bool false))⟩,
  ⟨some 6, none, .mv (.t 45)⟩]) (.seq (.rg [⟨some 46, none, .mv (.t 4)⟩,
  ⟨some 47, none, .bin .eql (.t 46) (.c (.int .i64 1))⟩,
  ⟨some 48, none, .build [.bool false, .snil, .snil, .snil] [(0, (1, .t 47))]⟩,
  ⟨some 9, none, .alloc [.bool false, .snil, .snil, .snil]⟩,
  ⟨none, none, .st 4 (.t 9) (.t 48)⟩]) (.seq (.seq (.rg [⟨some 10, none, .mv (.c (.int .i64 0))⟩]) (.blk 0 (.loop s_impl_GetNode_L0))) (.seq (.seq (.rg [⟨some 12, none, .mv (.c (.int .i64 0))⟩]) (.blk 2 (.loop s_impl_GetNode_L1))) (.seq (.seq (.rg [⟨some 14, none, .mv (.c (.int .i64 0))⟩]) (.blk 4 (.loop s_impl_GetNode_L2))) (.seq (.seq (.rg [⟨some 121, none, .ldA 4 (.t 9)⟩,
  ⟨some 122, none, .callP 87 [.t 121]⟩,
  ⟨some 16, none, .mv (.t 122)⟩]) (.seq (.rg [⟨some 123, none, .mv (.t 6)⟩,
  ⟨some 124, none, .un .not (.t 123)⟩,
  ⟨some 125, none, .mv (.t 124)⟩,
  ⟨some 126, some (125, false), .mv (.t 16)⟩,
  ⟨some 127, some (125, false), .lenL (.t 126)⟩,
  ⟨some 128, some (125, false), .bin .eql (.t 127) (.c (.int .i64 0))⟩,
  ⟨some 129, none, .pick (.t 125) (.c (.bool true)) (.t 128)⟩,
  ⟨some 130, none, .mv (.t 129)⟩,
  ⟨some 131, some (130, false), .mv (.t 16)⟩,
  ⟨some 132, some (130, false), .cvS (.t 131)⟩,
  ⟨some 133, some (130, false), .mv (.t 0)⟩,
  ⟨some 134, some (130, false), .cvS (.t 133)⟩,
  ⟨some 135, some (130, false), .bin .neq (.t 132) (.t 134)⟩,
  ⟨some 136, none, .pick (.t 130) (.c (.bool true)) (.t 135)⟩]) (.cond (.t 136) (.seq (.rg [⟨some 137, none, .build [.bool false, .snil, .snil, .snil] []⟩,
  ⟨none, none, .st 4 (.t 2) (.t 137)⟩,
  ⟨some 3, none, .mv (.c (.bool false))⟩]) (.ret)) (.skip)))) (.seq (.rg [⟨some 138, none, .ldA 4 (.t 9)⟩,
  ⟨none, none, .st 4 (.t 2) (.t 138)⟩,
  ⟨some 3, none, .mv (.c (.bool true))⟩]) (.ret))))))))))), [.ldA 2 4, .t 3]⟩
def s_impl_NodeAt : SFn := ⟨35, .seq (.rg [⟨some 2, none, .box (.t 0)⟩,
  ⟨some 4, none, .alloc [.bool false, .snil, .snil, .snil]⟩,
  ⟨some 5, none, .mv (.c (.bool false))⟩]) (.seq (.seq (.rg [⟨some 9, none, .ldA 9 (.t 2)⟩,
  ⟨some 10, none, .mv (.t 1)⟩,
  ⟨some 11, none, .callP 49 [.t 9, .t 10]⟩,
  ⟨some 6, none, .mv (.t 11)⟩]) (.seq (.rg [⟨some 12, none, .mv (.t 6)⟩,
  ⟨some 13, none, .bin .geq (.t 12) (.c (.int .i64 0))⟩]) (.cond (.t 13) (.seq (.rg [⟨some 14, none, .fa 8 (.t 2)⟩,
  ⟨some 15, none, .ld (.t 14)⟩,
  ⟨some 16, none, .mv (.t 6)⟩,
  ⟨some 17, none, .ia 5 (.t 15) (.t 16)⟩,
  ⟨some 18, none, .fa 1 (.t 17)⟩,
  ⟨some 19, none, .ldA 4 (.t 18)⟩,
  ⟨some 20, none, .callD 50 false [.t 19]⟩,
  ⟨none, none, .st 4 (.t 4) (.t 20)⟩,
  ⟨some 5, none, .mv (.c (.bool true))⟩]) (.ret)) (.skip)))) (.seq (.rg [⟨some 22, none, .fa 0 (.t 2)⟩,
  ⟨some 23, none, .ldA 5 (.t 22)⟩,
  ⟨some 24, none, .mv (.t 1)⟩,
  ⟨some 25, none, .callP 51 [.t 23, .t 24, .c (.int .i64 1)]⟩,
  ⟨some 21, none, .mv (.t 25)⟩,
  ⟨some 26, none, .ext (.t 21) 0⟩,
  ⟨some 27, none, .ext (.t 21) 1⟩,
  ⟨some 7, none, .mv (.t 26)⟩,
  ⟨some 8, none, .mv (.t 27)⟩]) (.seq (.seq (.rg [⟨some 28, none, .mv (.t 8)⟩,
  ⟨some 29, none, .un .not (.t 28)⟩]) (.cond (.t 29) (.seq (.rg [⟨some 30, none, .build [.bool false, .snil, .snil, .snil] []⟩,
  ⟨none, none, .st 4 (.t 4) (.t 30)⟩,
  ⟨some 5, none, .mv (.c (.bool false))⟩]) (.ret)) (.skip))) (.seq (.rg [⟨some 31, none, .mv (.t 7)⟩,
  ⟨some 32, none, .callP 52 [.t 31]⟩,
  ⟨some 33, none, .ext (.t 32) 0⟩,
  ⟨some 34, none, .ext (.t 32) 1⟩,
  ⟨none, none, .st 4 (.t 4) (.t 33)⟩,
  ⟨some 5, none, .mv (.t 34)⟩]) (.ret))))), [.ldA 4 4, .t 5]⟩
def s_impl_PagesOf_L0 : SCode := .seq (.rg [⟨some 48, none, .bin .lss (.t 47) (.t 46)⟩]) (.seq (.cond (.t 48) (.skip) (.exit 2)) (.seq (.blk 3 (.seq (.rg [⟨some 49, none, .ia 1 (.t 45) (.t 47)⟩,
  ⟨some 50, none, .ld (.t 49)⟩,
  ⟨some 12, none, .mv (.t 50)⟩]) (.seq (.rg [⟨some 52, none, .ldA 9 (.t 2)⟩,
  ⟨some 53, none, .mv (.t 12)⟩,
  ⟨some 54, none, .callP 23 [.t 52, .t 53]⟩,
  ⟨some 51, none, .mv (.t 54)⟩,
  ⟨some 55, none, .ext (.t 51) 0⟩,
  ⟨some 56, none, .ext (.t 51) 1⟩,
  ⟨some 13, none, .alloc [.bool false, .snil, .snil, .snil]⟩,
  ⟨none, none, .st 4 (.t 13) (.t 55)⟩,
  ⟨some 14, none, .mv (.t 56)⟩]) (.seq (.rg [⟨some 57, none, .mv (.t 14)⟩,
  ⟨some 58, none, .mv (.t 57)⟩,
  ⟨some 59, some (58, true), .mv (.t 7)⟩,
  ⟨some 60, some (58, true), .mv (.t 12)⟩,
  ⟨some 61, some (58, true), .callD 31 false [.t 59, .t 60]⟩,
  ⟨some 62, some (58, true), .un .not (.t 61)⟩,
  ⟨some 63, none, .pick (.t 58) (.t 62) (.c (.bool false))⟩]) (.cond (.t 63) (.rg [⟨some 64, none, .mv (.t 7)⟩,
  ⟨some 65, none, .mv (.t 12)⟩,
  ⟨some 66, none, .bslice false [.int .i64 0] 1 [(0, .t 65)]⟩,
  ⟨some 67, none, .app true 8 1 (.t 64) (.t 66)⟩,
  ⟨some 7, none, .mv (.t 67)⟩]) (.skip)))))) (.rg [⟨some 68, none, .bin .add (.t 47) (.c (.int .i64 1))⟩,
  ⟨some 47, none, .mv (.t 68)⟩])))
def s_impl_PagesOf_L1 : SCode := .seq (.seq (.rg [⟨some 29, none, .mv (.t 8)⟩,
  ⟨some 30, none, .mv (.t 7)⟩,
  ⟨some 31, none, .lenL (.t 30)⟩,
  ⟨some 32, none, .bin .lss (.t 29) (.t 31)⟩]) (.cond (.t 32) (.skip) (.exit 0))) (.seq (.blk 1 (.seq (.rg [⟨some 36, none, .ldA 9 (.t 2)⟩,
  ⟨some 37, none, .mv (.t 7)⟩,
  ⟨some 38, none, .mv (.t 8)⟩,
  ⟨some 39, none, .ia 1 (.t 37) (.t 38)⟩,
  ⟨some 40, none, .ld (.t 39)⟩,
  ⟨some 41, none, .callP 23 [.t 36, .t 40]⟩,
  ⟨some 35, none, .mv (.t 41)⟩,
  ⟨some 42, none, .ext (.t 35) 0⟩,
  ⟨some 43, none, .ext (.t 35) 1⟩,
  ⟨some 9, none, .alloc [.bool false, .snil, .snil, .snil]⟩,
  ⟨none, none, .st 4 (.t 9) (.t 42)⟩,
  ⟨some 10, none, .mv (.t 43)⟩]) (.seq (.rg [⟨some 44, none, .fa 3 (.t 9)⟩,
  ⟨some 45, none, .ld (.t 44)⟩,
  ⟨some 46, none, .lenL (.t 45)⟩,
  ⟨some 47, none, .mv (.c (.int .i64 0))⟩]) (.blk 2 (.loop s_impl_PagesOf_L0))))) (.rg [⟨some 33, none, .mv (.t 8)⟩,
  ⟨some 34, none, .bin .add (.t 33) (.c (.int .i64 1))⟩,
  ⟨some 8, none, .mv (.t 34)⟩]))
def s_impl_PagesOf : SFn := ⟨72, .seq (.rg [⟨some 2, none, .box (.t 0)⟩,
  ⟨some 4, none, .mv (.c .snil)⟩]) (.seq (.seq (.rg [⟨some 16, none, .ldA 9 (.t 2)⟩,
  ⟨some 17, none, .mv (.t 1)⟩,
  ⟨some 18, none, .callP 23 [.t 16, .t 17]⟩,
  ⟨some 15, none, .mv (.t 18)⟩,
  ⟨some 19, none, .ext (.t 15) 0⟩,
  ⟨some 20, none, .ext (.t 15) 1⟩,
  ⟨some 5, none, .alloc [.bool false, .snil, .snil, .snil]⟩,
  ⟨none, none, .st 4 (.t 5) (.t 19)⟩,
  ⟨some 6, none, .mv (.t 20)⟩]) (.seq (.rg [⟨some 21, none, .mv (.t 1)⟩,
  ⟨some 22, none, .bin .eql (.t 21) (.c (.int .i64 0))⟩,
  ⟨some 23, none, .mv (.t 22)⟩,
  ⟨some 24, some (23, false), .mv (.t 6)⟩,
  ⟨some 25, some (23, false), .un .not (.t 24)⟩,
  ⟨some 26, none, .pick (.t 23) (.c (.bool true)) (.t 25)⟩]) (.cond (.t 26) (.seq (.rg [⟨some 4, none, .mv (.c .snil)⟩]) (.ret)) (.skip)))) (.seq (.rg [⟨some 27, none, .mv (.t 1)⟩,
  ⟨some 28, none, .bslice true [.int .i64 0] 1 [(0, .t 27)]⟩,
  ⟨some 7, none, .mv (.t 28)⟩]) (.seq (.seq (.rg [⟨some 8, none, .mv (.c (.int .i64 0))⟩]) (.blk 0 (.loop s_impl_PagesOf_L1))) (.seq (.rg [⟨some 69, none, .mv (.t 7)⟩,
  ⟨some 70, none, .callS 48 [.t 69]⟩]) (.seq (.rg [⟨some 71, none, .mv (.t 7)⟩,
  ⟨some 4, none, .mv (.t 71)⟩]) (.ret)))))), [.t 4]⟩
def s_impl_onDisk : SFn := ⟨5, .seq (.rg [⟨some 1, none, .box (.t 0)⟩,
  ⟨some 2, none, .alloc [.snil, .snil, .int .i64 0, .snil, .bool false, .int .i64 0, .int .i64 0, .int .i64 0, .snil]⟩]) (.seq (.rg [⟨some 3, none, .fa 8 (.t 1)⟩,
  ⟨none, none, .st 1 (.t 3) (.c .snil)⟩]) (.seq (.rg [⟨some 4, none, .ldA 9 (.t 1)⟩,
  ⟨none, none, .st 9 (.t 2) (.t 4)⟩]) (.ret))), [.ldA 2 9]⟩
def s_impl_FreeOf_L0 : SCode := .seq (.seq (.rg [⟨some 12, none, .mv (.t 5)⟩,
  ⟨some 13, none, .fa 0 (.t 1)⟩,
  ⟨some 14, none, .fa 0 (.t 13)⟩,
  ⟨some 15, none, .ld (.t 14)⟩,
  ⟨some 16, none, .lenL (.t 15)⟩,
  ⟨some 17, none, .bin .lss (.t 12) (.t 16)⟩]) (.cond (.t 17) (.skip) (.exit 0))) (.seq (.blk 1 (.seq (.rg [⟨some 20, none, .mv (.t 3)⟩,
  ⟨some 21, none, .mv (.t 5)⟩,
  ⟨some 22, none, .callD 31 false [.t 20, .t 21]⟩,
  ⟨some 23, none, .un .not (.t 22)⟩,
  ⟨some 24, none, .mv (.t 23)⟩,
  ⟨some 25, some (24, true), .ldA 9 (.t 1)⟩,
  ⟨some 26, some (24, true), .mv (.t 5)⟩,
  ⟨some 27, some (24, true), .callP 49 [.t 25, .t 26]⟩,
  ⟨some 28, some (24, true), .bin .lss (.t 27) (.c (.int .i64 0))⟩,
  ⟨some 29, none, .pick (.t 24) (.t 28) (.c (.bool false))⟩]) (.cond (.t 29) (.rg [⟨some 30, none, .mv (.t 4)⟩,
  ⟨some 31, none, .mv (.t 5)⟩,
  ⟨some 32, none, .bslice false [.int .i64 0] 1 [(0, .t 31)]⟩,
  ⟨some 33, none, .app false 8 1 (.t 30) (.t 32)⟩,
  ⟨some 4, none, .mv (.t 33)⟩]) (.skip)))) (.rg [⟨some 18, none, .mv (.t 5)⟩,
  ⟨some 19, none, .bin .add (.t 18) (.c (.int .i64 1))⟩,
  ⟨some 5, none, .mv (.t 19)⟩]))
def s_impl_FreeOf : SFn := ⟨35, .seq (.rg [⟨some 1, none, .box (.t 0)⟩,
  ⟨some 2, none, .mv (.c .snil)⟩]) (.seq (.rg [⟨some 6, none, .ldA 9 (.t 1)⟩,
  ⟨some 7, none, .callP 58 [.t 6]⟩,
  ⟨some 8, none, .fa 5 (.t 1)⟩,
  ⟨some 9, none, .fa 1 (.t 8)⟩,
  ⟨some 10, none, .ld (.t 9)⟩,
  ⟨some 11, none, .callP 22 [.t 7, .t 10]⟩,
  ⟨some 3, none, .mv (.t 11)⟩]) (.seq (.rg [⟨some 4, none, .mv (.c .snil)⟩]) (.seq (.seq (.rg [⟨some 5, none, .mv (.c (.int .i64 2))⟩]) (.blk 0 (.loop s_impl_FreeOf_L0))) (.seq (.rg [⟨some 34, none, .mv (.t 4)⟩,
  ⟨some 2, none, .mv (.t 34)⟩]) (.ret))))), [.t 2]⟩
def s_impl_NoLeak_L0 : SCode := .seq (.seq (.rg [⟨some 16, none, .mv (.t 6)⟩,
  ⟨some 17, none, .fa 1 (.t 1)⟩,
  ⟨some 18, none, .fa 0 (.t 17)⟩,
  ⟨some 19, none, .ld (.t 18)⟩,
  ⟨some 20, none, .lenL (.t 19)⟩,
  ⟨some 21, none, .bin .lss (.t 16) (.t 20)⟩]) (.cond (.t 21) (.skip) (.exit 0))) (.seq (.blk 1 (.seq (.rg [⟨some 24, none, .mv (.t 4)⟩,
  ⟨some 25, none, .mv (.t 6)⟩,
  ⟨some 26, none, .callD 31 false [.t 24, .t 25]⟩,
  ⟨some 27, none, .mv (.t 5)⟩,
  ⟨some 28, none, .mv (.t 6)⟩,
  ⟨some 29, none, .callD 31 false [.t 27, .t 28]⟩,
  ⟨some 30, none, .binB .eql (.t 26) (.t 29)⟩]) (.cond (.t 30) (.seq (.rg [⟨some 2, none, .mv (.c (.bool false))⟩]) (.ret)) (.skip)))) (.rg [⟨some 22, none, .mv (.t 6)⟩,
  ⟨some 23, none, .bin .add (.t 22) (.c (.int .i64 1))⟩,
  ⟨some 6, none, .mv (.t 23)⟩]))
def s_impl_NoLeak : SFn := ⟨31, .seq (.rg [⟨some 1, none, .box (.t 0)⟩,
  ⟨some 2, none, .mv (.c (.bool false))⟩]) (.seq (.rg [⟨some 7, none, .fa 1 (.t 1)⟩,
  ⟨some 8, none, .ldA 5 (.t 7)⟩,
  ⟨some 9, none, .callP 21 [.t 8]⟩,
  ⟨some 3, none, .alloc [.snil, .snil, .int .i64 0, .snil, .bool false, .int .i64 0, .int .i64 0, .int .i64 0, .snil]⟩,
  ⟨none, none, .st 9 (.t 3) (.t 9)⟩]) (.seq (.rg [⟨some 10, none, .ldA 9 (.t 3)⟩,
  ⟨some 11, none, .fa 7 (.t 3)⟩,
  ⟨some 12, none, .ld (.t 11)⟩,
  ⟨some 13, none, .callP 22 [.t 10, .t 12]⟩,
  ⟨some 14, none, .ldA 9 (.t 3)⟩,
  ⟨some 15, none, .callP 30 [.t 14]⟩,
  ⟨some 4, none, .mv (.t 13)⟩,
  ⟨some 5, none, .mv (.t 15)⟩]) (.seq (.seq (.rg [⟨some 6, none, .mv (.c (.int .i64 2))⟩]) (.blk 0 (.loop s_impl_NoLeak_L0))) (.seq (.rg [⟨some 2, none, .mv (.c (.bool true))⟩]) (.ret))))), [.t 2]⟩
def s_laws_eqCol : SFn := ⟨20, .seq (.rg [⟨some 2, none, .box (.t 0)⟩,
  ⟨some 3, none, .box (.t 1)⟩,
  ⟨some 4, none, .mv (.c (.bool false))⟩]) (.seq (.seq (.rg [⟨some 5, none, .fa 0 (.t 2)⟩,
  ⟨some 6, none, .ld (.t 5)⟩,
  ⟨some 7, none, .fa 0 (.t 3)⟩,
  ⟨some 8, none, .ld (.t 7)⟩,
  ⟨some 9, none, .bin .neq (.t 6) (.t 8)⟩]) (.cond (.t 9) (.seq (.rg [⟨some 4, none, .mv (.c (.bool false))⟩]) (.ret)) (.skip))) (.seq (.seq (.rg [⟨some 10, none, .fa 1 (.t 2)⟩,
  ⟨some 11, none, .ld (.t 10)⟩,
  ⟨some 12, none, .fa 1 (.t 3)⟩,
  ⟨some 13, none, .ld (.t 12)⟩,
  ⟨some 14, none, .bin .neq (.t 11) (.t 13)⟩]) (.cond (.t 14) (.seq (.rg [⟨some 4, none, .mv (.c (.bool false))⟩]) (.ret)) (.skip))) (.seq (.seq (.rg [⟨some 15, none, .fa 2 (.t 2)⟩,
  ⟨some 16, none, .ld (.t 15)⟩,
  ⟨some 17, none, .fa 2 (.t 3)⟩,
  ⟨some 18, none, .ld (.t 17)⟩,
  ⟨some 19, none, .binB .neq (.t 16) (.t 18)⟩]) (.cond (.t 19) (.seq (.rg [⟨some 4, none, .mv (.c (.bool false))⟩]) (.ret)) (.skip))) (.seq (.rg [⟨some 4, none, .mv (.c (.bool true))⟩]) (.ret))))), [.t 4]⟩
def s_laws_eqBy : SFn := ⟨15, .seq (.rg [⟨some 2, none, .box (.t 0)⟩,
  ⟨some 3, none, .box (.t 1)⟩,
  ⟨some 4, none, .mv (.c (.bool false))⟩]) (.seq (.seq (.rg [⟨some 5, none, .fa 0 (.t 2)⟩,
  ⟨some 6, none, .ld (.t 5)⟩,
  ⟨some 7, none, .fa 0 (.t 3)⟩,
  ⟨some 8, none, .ld (.t 7)⟩,
  ⟨some 9, none, .bin .neq (.t 6) (.t 8)⟩]) (.cond (.t 9) (.seq (.rg [⟨some 4, none, .mv (.c (.bool false))⟩]) (.ret)) (.skip))) (.seq (.seq (.rg [⟨some 10, none, .fa 1 (.t 2)⟩,
  ⟨some 11, none, .ld (.t 10)⟩,
  ⟨some 12, none, .fa 1 (.t 3)⟩,
  ⟨some 13, none, .ld (.t 12)⟩,
  ⟨some 14, none, .binB .neq (.t 11) (.t 13)⟩]) (.cond (.t 14) (.seq (.rg [⟨some 4, none, .mv (.c (.bool false))⟩]) (.ret)) (.skip))) (.seq (.rg [⟨some 4, none, .mv (.c (.bool true))⟩]) (.ret)))), [.t 4]⟩
def s_laws_eqIndex : SFn := ⟨21, .seq (.rg [⟨some 2, none, .box (.t 0)⟩,
  ⟨some 3, none, .box (.t 1)⟩,
  ⟨some 4, none, .mv (.c (.bool false))⟩]) (.seq (.seq (.rg [⟨some 5, none, .fa 0 (.t 2)⟩,
  ⟨some 6, none, .ld (.t 5)⟩,
  ⟨some 7, none, .fa 0 (.t 3)⟩,
  ⟨some 8, none, .ld (.t 7)⟩,
  ⟨some 9, none, .bin .neq (.t 6) (.t 8)⟩]) (.cond (.t 9) (.seq (.rg [⟨some 4, none, .mv (.c (.bool false))⟩]) (.ret)) (.skip))) (.seq (.seq (.rg [⟨some 10, none, .fa 1 (.t 2)⟩,
  ⟨some 11, none, .ld (.t 10)⟩,
  ⟨some 12, none, .fa 1 (.t 3)⟩,
  ⟨some 13, none, .ld (.t 12)⟩,
  ⟨some 14, none, .binB .neq (.t 11) (.t 13)⟩]) (.cond (.t 14) (.seq (.rg [⟨some 4, none, .mv (.c (.bool false))⟩]) (.ret)) (.skip))) (.seq (.seq (.rg [⟨some 15, none, .fa 2 (.t 2)⟩,
  ⟨some 16, none, .ld (.t 15)⟩,
  ⟨some 17, none, .fa 2 (.t 3)⟩,
  ⟨some 18, none, .ld (.t 17)⟩,
  ⟨some 19, none, .callP 91 [.t 16, .t 18]⟩,
  ⟨some 20, none, .un .not (.t 19)⟩]) (.cond (.t 20) (.seq (.rg [⟨some 4, none, .mv (.c (.bool false))⟩]) (.ret)) (.skip))) (.seq (.rg [⟨some 4, none, .mv (.c (.bool true))⟩]) (.ret))))), [.t 4]⟩
def s_laws_eqDef : SFn := ⟨28, .seq (.rg [⟨some 2, none, .box (.t 0)⟩,
  ⟨some 3, none, .box (.t 1)⟩,
  ⟨some 4, none, .mv (.c (.bool false))⟩]) (.seq (.seq (.rg [⟨some 5, none, .fa 0 (.t 2)⟩,
  ⟨some 6, none, .ld (.t 5)⟩,
  ⟨some 7, none, .fa 0 (.t 3)⟩,
  ⟨some 8, none, .ld (.t 7)⟩,
  ⟨some 9, none, .bin .neq (.t 6) (.t 8)⟩]) (.cond (.t 9) (.seq (.rg [⟨some 4, none, .mv (.c (.bool false))⟩]) (.ret)) (.skip))) (.seq (.seq (.rg [⟨some 10, none, .fa 1 (.t 2)⟩,
  ⟨some 11, none, .ld (.t 10)⟩,
  ⟨some 12, none, .fa 1 (.t 3)⟩,
  ⟨some 13, none, .ld (.t 12)⟩,
  ⟨some 14, none, .callP 90 [.t 11, .t 13]⟩,
  ⟨some 15, none, .un .not (.t 14)⟩]) (.cond (.t 15) (.seq (.rg [⟨some 4, none, .mv (.c (.bool false))⟩]) (.ret)) (.skip))) (.seq (.seq (.rg [⟨some 16, none, .fa 2 (.t 2)⟩,
  ⟨some 17, none, .ld (.t 16)⟩,
  ⟨some 18, none, .fa 2 (.t 3)⟩,
  ⟨some 19, none, .ld (.t 18)⟩,
  ⟨some 20, none, .callP 91 [.t 17, .t 19]⟩,
  ⟨some 21, none, .un .not (.t 20)⟩]) (.cond (.t 21) (.seq (.rg [⟨some 4, none, .mv (.c (.bool false))⟩]) (.ret)) (.skip))) (.seq (.seq (.rg [⟨some 22, none, .fa 3 (.t 2)⟩,
  ⟨some 23, none, .ld (.t 22)⟩,
  ⟨some 24, none, .fa 3 (.t 3)⟩,
  ⟨some 25, none, .ld (.t 24)⟩,
  ⟨some 26, none, .callP 92 [.t 23, .t 25]⟩,
  ⟨some 27, none, .un .not (.t 26)⟩]) (.cond (.t 27) (.seq (.rg [⟨some 4, none, .mv (.c (.bool false))⟩]) (.ret)) (.skip))) (.seq (.rg [⟨some 4, none, .mv (.c (.bool true))⟩]) (.ret)))))), [.t 4]⟩
def s_laws_eqWrite : SFn := ⟨16, .seq (.rg [⟨some 2, none, .box (.t 0)⟩,
  ⟨some 3, none, .box (.t 1)⟩,
  ⟨some 4, none, .mv (.c (.bool false))⟩]) (.seq (.seq (.rg [⟨some 5, none, .fa 0 (.t 2)⟩,
  ⟨some 6, none, .ld (.t 5)⟩,
  ⟨some 7, none, .fa 0 (.t 3)⟩,
  ⟨some 8, none, .ld (.t 7)⟩,
  ⟨some 9, none, .bin .neq (.t 6) (.t 8)⟩]) (.cond (.t 9) (.seq (.rg [⟨some 4, none, .mv (.c (.bool false))⟩]) (.ret)) (.skip))) (.seq (.seq (.rg [⟨some 10, none, .fa 1 (.t 2)⟩,
  ⟨some 11, none, .ld (.t 10)⟩,
  ⟨some 12, none, .fa 1 (.t 3)⟩,
  ⟨some 13, none, .ld (.t 12)⟩,
  ⟨some 14, none, .callP 93 [.t 11, .t 13]⟩,
  ⟨some 15, none, .un .not (.t 14)⟩]) (.cond (.t 15) (.seq (.rg [⟨some 4, none, .mv (.c (.bool false))⟩]) (.ret)) (.skip))) (.seq (.rg [⟨some 4, none, .mv (.c (.bool true))⟩]) (.ret)))), [.t 4]⟩
def s_laws_eqFault : SFn := ⟨20, .seq (.rg [⟨some 2, none, .box (.t 0)⟩,
  ⟨some 3, none, .box (.t 1)⟩,
  ⟨some 4, none, .mv (.c (.bool false))⟩]) (.seq (.seq (.rg [⟨some 5, none, .fa 0 (.t 2)⟩,
  ⟨some 6, none, .ld (.t 5)⟩,
  ⟨some 7, none, .fa 0 (.t 3)⟩,
  ⟨some 8, none, .ld (.t 7)⟩,
  ⟨some 9, none, .bin .neq (.t 6) (.t 8)⟩]) (.cond (.t 9) (.seq (.rg [⟨some 4, none, .mv (.c (.bool false))⟩]) (.ret)) (.skip))) (.seq (.seq (.rg [⟨some 10, none, .fa 1 (.t 2)⟩,
  ⟨some 11, none, .ld (.t 10)⟩,
  ⟨some 12, none, .fa 1 (.t 3)⟩,
  ⟨some 13, none, .ld (.t 12)⟩,
  ⟨some 14, none, .bin .neq (.t 11) (.t 13)⟩]) (.cond (.t 14) (.seq (.rg [⟨some 4, none, .mv (.c (.bool false))⟩]) (.ret)) (.skip))) (.seq (.seq (.rg [⟨some 15, none, .fa 2 (.t 2)⟩,
  ⟨some 16, none, .ld (.t 15)⟩,
  ⟨some 17, none, .fa 2 (.t 3)⟩,
  ⟨some 18, none, .ld (.t 17)⟩,
  ⟨some 19, none, .bin .neq (.t 16) (.t 18)⟩]) (.cond (.t 19) (.seq (.rg [⟨some 4, none, .mv (.c (.bool false))⟩]) (.ret)) (.skip))) (.seq (.rg [⟨some 4, none, .mv (.c (.bool true))⟩]) (.ret))))), [.t 4]⟩
def s_laws_eqDisk : SFn := ⟨33, .seq (.rg [⟨some 2, none, .box (.t 0)⟩,
  ⟨some 3, none, .box (.t 1)⟩,
  ⟨some 4, none, .mv (.c (.bool false))⟩]) (.seq (.seq (.rg [⟨some 5, none, .fa 0 (.t 2)⟩,
  ⟨some 6, none, .ld (.t 5)⟩,
  ⟨some 7, none, .fa 0 (.t 3)⟩,
  ⟨some 8, none, .ld (.t 7)⟩,
  ⟨some 9, none, .callP 55 [.t 6, .t 8]⟩,
  ⟨some 10, none, .un .not (.t 9)⟩]) (.cond (.t 10) (.seq (.rg [⟨some 4, none, .mv (.c (.bool false))⟩]) (.ret)) (.skip))) (.seq (.seq (.rg [⟨some 11, none, .fa 1 (.t 2)⟩,
  ⟨some 12, none, .ld (.t 11)⟩,
  ⟨some 13, none, .fa 1 (.t 3)⟩,
  ⟨some 14, none, .ld (.t 13)⟩,
  ⟨some 15, none, .callP 56 [.t 12, .t 14]⟩,
  ⟨some 16, none, .un .not (.t 15)⟩]) (.cond (.t 16) (.seq (.rg [⟨some 4, none, .mv (.c (.bool false))⟩]) (.ret)) (.skip))) (.seq (.seq (.rg [⟨some 17, none, .fa 2 (.t 2)⟩,
  ⟨some 18, none, .ld (.t 17)⟩,
  ⟨some 19, none, .fa 2 (.t 3)⟩,
  ⟨some 20, none, .ld (.t 19)⟩,
  ⟨some 21, none, .bin .neq (.t 18) (.t 20)⟩]) (.cond (.t 21) (.seq (.rg [⟨some 4, none, .mv (.c (.bool false))⟩]) (.ret)) (.skip))) (.seq (.seq (.rg [⟨some 22, none, .fa 3 (.t 2)⟩,
  ⟨some 23, none, .ld (.t 22)⟩,
  ⟨some 24, none, .fa 3 (.t 3)⟩,
  ⟨some 25, none, .ld (.t 24)⟩,
  ⟨some 26, none, .callP 57 [.t 23, .t 25]⟩,
  ⟨some 27, none, .un .not (.t 26)⟩]) (.cond (.t 27) (.seq (.rg [⟨some 4, none, .mv (.c (.bool false))⟩]) (.ret)) (.skip))) (.seq (.seq (.rg [⟨some 28, none, .fa 4 (.t 2)⟩,
  ⟨some 29, none, .ld (.t 28)⟩,
  ⟨some 30, none, .fa 4 (.t 3)⟩,
  ⟨some 31, none, .ld (.t 30)⟩,
  ⟨some 32, none, .binB .neq (.t 29) (.t 31)⟩]) (.cond (.t 32) (.seq (.rg [⟨some 4, none, .mv (.c (.bool false))⟩]) (.ret)) (.skip))) (.seq (.rg [⟨some 4, none, .mv (.c (.bool true))⟩]) (.ret))))))), [.t 4]⟩
def s_laws_eqEng : SFn := ⟨17, .seq (.rg [⟨some 2, none, .box (.t 0)⟩,
  ⟨some 3, none, .box (.t 1)⟩,
  ⟨some 4, none, .mv (.c (.bool false))⟩]) (.seq (.seq (.rg [⟨some 5, none, .fa 0 (.t 2)⟩,
  ⟨some 6, none, .ld (.t 5)⟩,
  ⟨some 7, none, .fa 0 (.t 3)⟩,
  ⟨some 8, none, .ld (.t 7)⟩,
  ⟨some 9, none, .callP 26 [.t 6, .t 8]⟩,
  ⟨some 10, none, .un .not (.t 9)⟩]) (.cond (.t 10) (.seq (.rg [⟨some 4, none, .mv (.c (.bool false))⟩]) (.ret)) (.skip))) (.seq (.seq (.rg [⟨some 11, none, .fa 1 (.t 2)⟩,
  ⟨some 12, none, .ldA 5 (.t 11)⟩,
  ⟨some 13, none, .fa 1 (.t 3)⟩,
  ⟨some 14, none, .ldA 5 (.t 13)⟩,
  ⟨some 15, none, .callP 27 [.t 12, .t 14]⟩,
  ⟨some 16, none, .un .not (.t 15)⟩]) (.cond (.t 16) (.seq (.rg [⟨some 4, none, .mv (.c (.bool false))⟩]) (.ret)) (.skip))) (.seq (.rg [⟨some 4, none, .mv (.c (.bool true))⟩]) (.ret)))), [.t 4]⟩
def s_laws_FnExactNoLeak : SFn := ⟨27, .seq (.rg [⟨some 1, none, .box (.t 0)⟩,
  ⟨some 2, none, .mv (.c (.bool false))⟩]) (.seq (.rg [⟨some 3, none, .mv (.c (.int .i64 1048576))⟩]) (.seq (.rg [⟨some 7, none, .ldA 6 (.t 1)⟩,
  ⟨some 8, none, .mv (.t 3)⟩,
  ⟨some 9, none, .callP 5 [.t 7, .t 8]⟩,
  ⟨some 3, none, .mv (.t 9)⟩]) (.seq (.seq (.rg [⟨some 10, none, .mv (.t 3)⟩,
  ⟨some 11, none, .bin .lss (.t 10) (.c (.int .i64 0))⟩]) (.cond (.t 11) (.seq (.rg [⟨some 2, none, .mv (.c (.bool true))⟩]) (.ret)) (.skip))) (.seq (.rg [⟨some 12, none, .ldA 6 (.t 1)⟩,
  ⟨some 13, none, .callP 7 [.t 12]⟩,
  ⟨some 14, none, .callP 10 [.t 13]⟩,
  ⟨some 4, none, .mv (.t 14)⟩]) (.seq (.rg [⟨some 15, none, .ldA 6 (.t 1)⟩,
  ⟨some 16, none, .callP 7 [.t 15]⟩,
  ⟨some 5, none, .alloc [.snil, .snil, .snil, .int .i64 0, .snil, .bool false]⟩,
  ⟨none, none, .st 6 (.t 5) (.t 16)⟩]) (.seq (.rg [⟨some 17, none, .ldA 6 (.t 5)⟩,
  ⟨some 18, none, .callP 11 [.t 17]⟩,
  ⟨some 6, none, .mv (.t 18)⟩]) (.seq (.seq (.rg [⟨some 19, none, .mv (.t 6)⟩,
  ⟨some 20, none, .mv (.t 4)⟩,
  ⟨some 21, none, .binB .neq (.t 19) (.t 20)⟩]) (.cond (.t 21) (.seq (.rg [⟨some 2, none, .mv (.c (.bool false))⟩]) (.ret)) (.skip))) (.seq (.seq (.rg [⟨some 22, none, .ldA 6 (.t 5)⟩,
  ⟨some 23, none, .ldA 6 (.t 1)⟩,
  ⟨some 24, none, .callP 7 [.t 23]⟩,
  ⟨some 25, none, .callP 9 [.t 22, .t 24]⟩,
  ⟨some 26, none, .un .not (.t 25)⟩]) (.cond (.t 26) (.seq (.rg [⟨some 2, none, .mv (.c (.bool false))⟩]) (.ret)) (.skip))) (.seq (.rg [⟨some 2, none, .mv (.c (.bool true))⟩]) (.ret)))))))))), [.t 2]⟩
def isC : List FuncId := [96, 59, 60, 97, 61, 32, 12, 62, 33, 63, 34, 35, 13, 5, 105, 71, 106, 72, 107, 73, 42, 19, 74, 43, 75, 44, 76, 45, 20, 7, 29, 98, 64, 136, 118, 100, 119, 99, 101, 65, 36, 37, 14, 39, 67, 120, 69, 70, 41, 17, 104, 68, 40, 16, 66, 38, 15, 28, 10, 31, 85, 77, 143, 133, 111, 84, 86, 114, 112, 83, 135, 121, 108, 78, 46, 47, 21, 49, 50, 51, 53, 25, 113, 87, 52, 23, 48, 22, 58, 30, 11, 115, 90, 116, 91, 117, 92, 54, 26, 93, 55, 94, 56, 95, 57, 27, 9]
def rw (f : FuncId) : List Tmp := if f = 71 then [7] else if f = 72 then [7] else if f = 73 then [7] else if f = 19 then [7] else if f = 74 then [7] else if f = 43 then [7] else if f = 44 then [7] else if f = 45 then [7] else if f = 37 then [1008, 1011, 1024, 1030, 1049, 1056] else if f = 39 then [1000, 1001, 1002, 1003, 1004, 1005, 1006, 1007, 1008, 1009, 1010, 1011, 1012, 1013, 1014, 1015, 1016, 1017, 1018, 1019, 1020, 1021, 1022, 1023, 1024, 1025, 1026, 1027, 1028, 1029, 1030, 1031, 1032, 1033, 1034, 1035, 1036, 1037, 1038, 1039, 1040, 1041, 1042, 1043, 1044, 1045, 1046, 1047, 1048, 1049, 1050, 1051, 1052, 1053, 1054, 1055, 1056, 1057, 1058, 1059, 1060, 1061, 1062, 1063] else if f = 66 then List.range 64 else if f = 79 then List.range 64 else if f = 134 then List.range 64 else if f = 133 then List.range 64 else if f = 88 then List.range 64 else if f = 89 then List.range 64 else if f = 112 then List.range 64 ++ [2000, 2001, 2002, 2003, 2004, 2005, 2006, 2007, 2008, 2009, 2010, 2011, 2012, 2013, 2014, 2015, 2016, 2017, 2018, 2019, 2020, 2021, 2022, 2023, 2024, 2025, 2026, 2027, 2028, 2029, 2030, 2031, 2032, 2033, 2034, 2035, 2036, 2037, 2038, 2039, 2040, 2041, 2042, 2043, 2044, 2045, 2046, 2047, 2048, 2049, 2050, 2051, 2052, 2053, 2054, 2055, 2056, 2057, 2058, 2059, 2060, 2061, 2062, 2063] else if f = 108 then List.range 64 else if f = 47 then List.range 64 else if f = 81 then List.range 64 else if f = 82 then List.range 64 else if f = 50 then List.range 64 else if f = 53 then List.range 64 else if f = 22 then [28, 67] else []
def fr (f : FuncId) : Bool := f == 69 || f == 70
def dp (f : FuncId) : Nat := if f = 108 then 1 else if f = 112 then 1 else if f = 133 then 1 else if f = 53 then 1 else if f = 47 then 1 else if f = 50 then 1 else if f = 143 then 2 else if f = 31 then 2 else if f = 48 then 3 else if f = 134 then 7 else if f = 88 then 7 else if f = 89 then 7 else if f = 79 then 8 else if f = 81 then 8 else if f = 82 then 8 else 0
noncomputable def EE (cs : List (FuncId × (List AV → Option AV))) : Env := mkE Tryz.prog isC rw fr dp cs
theorem st_laws_szCol_ : stF (EE []) 96 = some (s_laws_szCol) := by kernel_rfl
theorem st_laws_szCol (cs) : stF (EE cs) 96 = some (s_laws_szCol) := (stF_mk cs [] 96).trans st_laws_szCol_
theorem st_laws_szColS_ : stF (EE []) 59 = some (szSF 96 3 false) := by kernel_rfl
theorem st_laws_szColS (cs) : stF (EE cs) 59 = some (szSF 96 3 false) := (stF_mk cs [] 59).trans st_laws_szColS_
theorem st_laws_szByS_ : stF (EE []) 60 = some (szLenF) := by kernel_rfl
theorem st_laws_szByS (cs) : stF (EE cs) 60 = some (szLenF) := (stF_mk cs [] 60).trans st_laws_szByS_
theorem st_laws_szIndex_ : stF (EE []) 97 = some (s_laws_szIndex) := by kernel_rfl
theorem st_laws_szIndex (cs) : stF (EE cs) 97 = some (s_laws_szIndex) := (stF_mk cs [] 97).trans st_laws_szIndex_
theorem st_laws_szIndexS_ : stF (EE []) 61 = some (szSF 97 3 false) := by kernel_rfl
theorem st_laws_szIndexS (cs) : stF (EE cs) 61 = some (szSF 97 3 false) := (stF_mk cs [] 61).trans st_laws_szIndexS_
theorem st_laws_szDef_ : stF (EE []) 32 = some (s_laws_szDef) := by kernel_rfl
theorem st_laws_szDef (cs) : stF (EE cs) 32 = some (s_laws_szDef) := (stF_mk cs [] 32).trans st_laws_szDef_
theorem st_laws_szDefS_ : stF (EE []) 12 = some (szSF 32 4 false) := by kernel_rfl
theorem st_laws_szDefS (cs) : stF (EE cs) 12 = some (szSF 32 4 false) := (stF_mk cs [] 12).trans st_laws_szDefS_
theorem st_laws_szByteS_ : stF (EE []) 62 = some (szLenF) := by kernel_rfl
theorem st_laws_szByteS (cs) : stF (EE cs) 62 = some (szLenF) := (stF_mk cs [] 62).trans st_laws_szByteS_
theorem st_laws_szByteSS_ : stF (EE []) 33 = some (szSF 62 1 true) := by kernel_rfl
theorem st_laws_szByteSS (cs) : stF (EE cs) 33 = some (szSF 62 1 true) := (stF_mk cs [] 33).trans st_laws_szByteSS_
theorem st_laws_szWrite_ : stF (EE []) 63 = some (s_laws_szWrite) := by kernel_rfl
theorem st_laws_szWrite (cs) : stF (EE cs) 63 = some (s_laws_szWrite) := (stF_mk cs [] 63).trans st_laws_szWrite_
theorem st_laws_szWriteS_ : stF (EE []) 34 = some (szSF 63 2 false) := by kernel_rfl
theorem st_laws_szWriteS (cs) : stF (EE cs) 34 = some (szSF 63 2 false) := (stF_mk cs [] 34).trans st_laws_szWriteS_
theorem st_laws_szFaultS_ : stF (EE []) 35 = some (szLenF) := by kernel_rfl
theorem st_laws_szFaultS (cs) : stF (EE cs) 35 = some (szLenF) := (stF_mk cs [] 35).trans st_laws_szFaultS_
theorem st_laws_szDisk_ : stF (EE []) 13 = some (s_laws_szDisk) := by kernel_rfl
theorem st_laws_szDisk (cs) : stF (EE cs) 13 = some (s_laws_szDisk) := (stF_mk cs [] 13).trans st_laws_szDisk_
theorem st_laws_szEng_ : stF (EE []) 5 = some (s_laws_szEng) := by kernel_rfl
theorem st_laws_szEng (cs) : stF (EE cs) 5 = some (s_laws_szEng) := (stF_mk cs [] 5).trans st_laws_szEng_
theorem st_laws_toCol_ : stF (EE []) 105 = some (s_laws_toCol) := by kernel_rfl
theorem st_laws_toCol (cs) : stF (EE cs) 105 = some (s_laws_toCol) := (stF_mk cs [] 105).trans st_laws_toCol_
theorem st_laws_toColS_ : stF (EE []) 71 = some (toSF 105 3 false 32 [.str [], .int .i64 0, .bool false]) := by kernel_rfl
theorem st_laws_toColS (cs) : stF (EE cs) 71 = some (toSF 105 3 false 32 [.str [], .int .i64 0, .bool false]) := (stF_mk cs [] 71).trans st_laws_toColS_
theorem st_laws_toBy_ : stF (EE []) 106 = some (s_laws_toBy) := by kernel_rfl
theorem st_laws_toBy (cs) : stF (EE cs) 106 = some (s_laws_toBy) := (stF_mk cs [] 106).trans st_laws_toBy_
theorem st_laws_toByS_ : stF (EE []) 72 = some (toSF 106 2 false 16 [.int .i64 0, .bool false]) := by kernel_rfl
theorem st_laws_toByS (cs) : stF (EE cs) 72 = some (toSF 106 2 false 16 [.int .i64 0, .bool false]) := (stF_mk cs [] 72).trans st_laws_toByS_
theorem st_laws_toIndex_ : stF (EE []) 107 = some (s_laws_toIndex) := by kernel_rfl
theorem st_laws_toIndex (cs) : stF (EE cs) 107 = some (s_laws_toIndex) := (stF_mk cs [] 107).trans st_laws_toIndex_
theorem st_laws_toIndexS_ : stF (EE []) 73 = some (toSF 107 3 false 48 [.str [], .bool false, .snil]) := by kernel_rfl
theorem st_laws_toIndexS (cs) : stF (EE cs) 73 = some (toSF 107 3 false 48 [.str [], .bool false, .snil]) := (stF_mk cs [] 73).trans st_laws_toIndexS_
theorem st_laws_toDef_ : stF (EE []) 42 = some (s_laws_toDef) := by kernel_rfl
theorem st_laws_toDef (cs) : stF (EE cs) 42 = some (s_laws_toDef) := (stF_mk cs [] 42).trans st_laws_toDef_
theorem st_laws_toDefS_ : stF (EE []) 19 = some (toSF 42 4 false 88 [.str [], .snil, .snil, .snil]) := by kernel_rfl
theorem st_laws_toDefS (cs) : stF (EE cs) 19 = some (toSF 42 4 false 88 [.str [], .snil, .snil, .snil]) := (stF_mk cs [] 19).trans st_laws_toDefS_
theorem st_laws_toByteS_ : stF (EE []) 74 = some (cpSF 1 [.int .u8 0]) := by kernel_rfl
theorem st_laws_toByteS (cs) : stF (EE cs) 74 = some (cpSF 1 [.int .u8 0]) := (stF_mk cs [] 74).trans st_laws_toByteS_
theorem st_laws_toByteSS_ : stF (EE []) 43 = some (toSF 74 1 true 24 [.snil]) := by kernel_rfl
theorem st_laws_toByteSS (cs) : stF (EE cs) 43 = some (toSF 74 1 true 24 [.snil]) := (stF_mk cs [] 43).trans st_laws_toByteSS_
theorem st_laws_toWrite_ : stF (EE []) 75 = some (s_laws_toWrite) := by kernel_rfl
theorem st_laws_toWrite (cs) : stF (EE cs) 75 = some (s_laws_toWrite) := (stF_mk cs [] 75).trans st_laws_toWrite_
theorem st_laws_toWriteS_ : stF (EE []) 44 = some (toSF 75 2 false 32 [.int .i64 0, .snil]) := by kernel_rfl
theorem st_laws_toWriteS (cs) : stF (EE cs) 44 = some (toSF 75 2 false 32 [.int .i64 0, .snil]) := (stF_mk cs [] 44).trans st_laws_toWriteS_
theorem st_laws_toFault_ : stF (EE []) 76 = some (s_laws_toFault) := by kernel_rfl
theorem st_laws_toFault (cs) : stF (EE cs) 76 = some (s_laws_toFault) := (stF_mk cs [] 76).trans st_laws_toFault_
theorem st_laws_toFaultS_ : stF (EE []) 45 = some (toSF 76 3 false 24 [.int .i64 0, .int .i64 0, .int .i64 0]) := by kernel_rfl
theorem st_laws_toFaultS (cs) : stF (EE cs) 45 = some (toSF 76 3 false 24 [.int .i64 0, .int .i64 0, .int .i64 0]) := (stF_mk cs [] 45).trans st_laws_toFaultS_
theorem st_laws_toDisk_ : stF (EE []) 20 = some (s_laws_toDisk) := by kernel_rfl
theorem st_laws_toDisk (cs) : stF (EE cs) 20 = some (s_laws_toDisk) := (stF_mk cs [] 20).trans st_laws_toDisk_
theorem st_laws_toEng_ : stF (EE []) 7 = some (s_laws_toEng) := by kernel_rfl
theorem st_laws_toEng (cs) : stF (EE cs) 7 = some (s_laws_toEng) := (stF_mk cs [] 7).trans st_laws_toEng_
theorem st_spec_l16Has_ : stF (EE []) 29 = some (s_spec_l16Has) := by kernel_rfl
theorem st_spec_l16Has (cs) : stF (EE cs) 29 = some (s_spec_l16Has) := (stF_mk cs [] 29).trans st_spec_l16Has_
theorem st_spec_l1In_ : stF (EE []) 98 = some (s_spec_l1In) := by kernel_rfl
theorem st_spec_l1In (cs) : stF (EE cs) 98 = some (s_spec_l1In) := (stF_mk cs [] 98).trans st_spec_l1In_
theorem st_spec_ReadSec_ : stF (EE []) 64 = some (s_spec_ReadSec) := by kernel_rfl
theorem st_spec_ReadSec (cs) : stF (EE cs) 64 = some (s_spec_ReadSec) := (stF_mk cs [] 64).trans st_spec_ReadSec_
theorem st_spec_Crc_ : stF (EE []) 136 = some (s_spec_Crc) := by kernel_rfl
theorem st_spec_Crc (cs) : stF (EE cs) 136 = some (s_spec_Crc) := (stF_mk cs [] 136).trans st_spec_Crc_
theorem st_spec_GetSum_ : stF (EE []) 118 = some (s_spec_GetSum) := by kernel_rfl
theorem st_spec_GetSum (cs) : stF (EE cs) 118 = some (s_spec_GetSum) := (stF_mk cs [] 118).trans st_spec_GetSum_
theorem st_spec_GetU_ : stF (EE []) 100 = some (s_spec_GetU) := by kernel_rfl
theorem st_spec_GetU (cs) : stF (EE cs) 100 = some (s_spec_GetU) := (stF_mk cs [] 100).trans st_spec_GetU_
theorem st_spec_GetText_ : stF (EE []) 119 = some (s_spec_GetText) := by kernel_rfl
theorem st_spec_GetText (cs) : stF (EE cs) 119 = some (s_spec_GetText) := (stF_mk cs [] 119).trans st_spec_GetText_
theorem st_spec_GetPage_ : stF (EE []) 99 = some (s_spec_GetPage) := by kernel_rfl
theorem st_spec_GetPage (cs) : stF (EE cs) 99 = some (s_spec_GetPage) := (stF_mk cs [] 99).trans st_spec_GetPage_
theorem st_spec_MetaOk_ : stF (EE []) 101 = some (s_spec_MetaOk) := by kernel_rfl
theorem st_spec_MetaOk (cs) : stF (EE cs) 101 = some (s_spec_MetaOk) := (stF_mk cs [] 101).trans st_spec_MetaOk_
theorem st_spec_GetMeta_ : stF (EE []) 65 = some (s_spec_GetMeta) := by kernel_rfl
theorem st_spec_GetMeta (cs) : stF (EE cs) 65 = some (s_spec_GetMeta) := (stF_mk cs [] 65).trans st_spec_GetMeta_
theorem st_spec_BestMeta_ : stF (EE []) 36 = some (s_spec_BestMeta) := by kernel_rfl
theorem st_spec_BestMeta (cs) : stF (EE cs) 36 = some (s_spec_BestMeta) := (stF_mk cs [] 36).trans st_spec_BestMeta_
theorem st_spec_l12Copy_ : stF (EE []) 37 = some (s_spec_l12Copy) := by kernel_rfl
theorem st_spec_l12Copy (cs) : stF (EE cs) 37 = some (s_spec_l12Copy) := (stF_mk cs [] 37).trans st_spec_l12Copy_
theorem st_spec_TxNew_ : stF (EE []) 14 = some (s_spec_TxNew) := by kernel_rfl
theorem st_spec_TxNew (cs) : stF (EE cs) 14 = some (s_spec_TxNew) := (stF_mk cs [] 14).trans st_spec_TxNew_
theorem st_spec_l14Copy_ : stF (EE []) 39 = some (s_spec_l14Copy) := by kernel_rfl
theorem st_spec_l14Copy (cs) : stF (EE cs) 39 = some (s_spec_l14Copy) := (stF_mk cs [] 39).trans st_spec_l14Copy_
theorem st_spec_PageAt_ : stF (EE []) 67 = some (s_spec_PageAt) := by kernel_rfl
theorem st_spec_PageAt (cs) : stF (EE cs) 67 = some (s_spec_PageAt) := (stF_mk cs [] 67).trans st_spec_PageAt_
theorem st_spec_l14Text_ : stF (EE []) 103 = some (s_spec_l14Text) := by kernel_rfl
theorem st_spec_l14Text (cs) : stF (EE cs) 103 = some (s_spec_l14Text) := (stF_mk cs [] 103).trans st_spec_l14Text_
theorem st_spec_l14Num_ : stF (EE []) 102 = some (s_spec_l14Num) := by kernel_rfl
theorem st_spec_l14Num (cs) : stF (EE cs) 102 = some (s_spec_l14Num) := (stF_mk cs [] 102).trans st_spec_l14Num_
theorem st_spec_l14Rising_ : stF (EE []) 120 = some (s_spec_l14Rising) := by kernel_rfl
theorem st_spec_l14Rising (cs) : stF (EE cs) 120 = some (s_spec_l14Rising) := (stF_mk cs [] 120).trans st_spec_l14Rising_
theorem st_spec_PutU_ : stF (EE []) 69 = some (s_spec_PutU) := by kernel_rfl
theorem st_spec_PutU (cs) : stF (EE cs) 69 = some (s_spec_PutU) := (stF_mk cs [] 69).trans st_spec_PutU_
theorem st_spec_PutText_ : stF (EE []) 70 = some (s_spec_PutText) := by kernel_rfl
theorem st_spec_PutText (cs) : stF (EE cs) 70 = some (s_spec_PutText) := (stF_mk cs [] 70).trans st_spec_PutText_
theorem st_spec_l14Put_ : stF (EE []) 41 = some (s_spec_l14Put) := by kernel_rfl
theorem st_spec_l14Put (cs) : stF (EE cs) 41 = some (s_spec_l14Put) := (stF_mk cs [] 41).trans st_spec_l14Put_
theorem st_spec_SizeOf_ : stF (EE []) 17 = some (s_spec_SizeOf) := by kernel_rfl
theorem st_spec_SizeOf (cs) : stF (EE cs) 17 = some (s_spec_SizeOf) := (stF_mk cs [] 17).trans st_spec_SizeOf_
theorem st_spec_NodeOk_ : stF (EE []) 104 = some (s_spec_NodeOk) := by kernel_rfl
theorem st_spec_NodeOk (cs) : stF (EE cs) 104 = some (s_spec_NodeOk) := (stF_mk cs [] 104).trans st_spec_NodeOk_
theorem st_spec_GetNode_ : stF (EE []) 68 = some (s_spec_GetNode) := by kernel_rfl
theorem st_spec_GetNode (cs) : stF (EE cs) 68 = some (s_spec_GetNode) := (stF_mk cs [] 68).trans st_spec_GetNode_
theorem st_spec_l16Disk_ : stF (EE []) 40 = some (s_spec_l16Disk) := by kernel_rfl
theorem st_spec_l16Disk (cs) : stF (EE cs) 40 = some (s_spec_l16Disk) := (stF_mk cs [] 40).trans st_spec_l16Disk_
theorem st_spec_NodeAt_ : stF (EE []) 16 = some (s_spec_NodeAt) := by kernel_rfl
theorem st_spec_NodeAt (cs) : stF (EE cs) 16 = some (s_spec_NodeAt) := (stF_mk cs [] 16).trans st_spec_NodeAt_
theorem st_spec_l16Put_ : stF (EE []) 66 = some (s_spec_l16Put) := by kernel_rfl
theorem st_spec_l16Put (cs) : stF (EE cs) 66 = some (s_spec_l16Put) := (stF_mk cs [] 66).trans st_spec_l16Put_
theorem st_spec_l16Walk_ : stF (EE []) 38 = some (s_spec_l16Walk) := by kernel_rfl
theorem st_spec_l16Walk (cs) : stF (EE cs) 38 = some (s_spec_l16Walk) := (stF_mk cs [] 38).trans st_spec_l16Walk_
theorem st_spec_PagesOf_ : stF (EE []) 15 = some (s_spec_PagesOf) := by kernel_rfl
theorem st_spec_PagesOf (cs) : stF (EE cs) 15 = some (s_spec_PagesOf) := (stF_mk cs [] 15).trans st_spec_PagesOf_
theorem st_spec_FreeOf_ : stF (EE []) 28 = some (s_spec_FreeOf) := by kernel_rfl
theorem st_spec_FreeOf (cs) : stF (EE cs) 28 = some (s_spec_FreeOf) := (stF_mk cs [] 28).trans st_spec_FreeOf_
theorem st_spec_NoLeak_ : stF (EE []) 10 = some (s_spec_NoLeak) := by kernel_rfl
theorem st_spec_NoLeak (cs) : stF (EE cs) 10 = some (s_spec_NoLeak) := (stF_mk cs [] 10).trans st_spec_NoLeak_
theorem st_impl_hasInt_ : stF (EE []) 31 = some (s_impl_hasInt) := by kernel_rfl
theorem st_impl_hasInt (cs) : stF (EE cs) 31 = some (s_impl_hasInt) := (stF_mk cs [] 31).trans st_impl_hasInt_
theorem st_impl_copyBytes_ : stF (EE []) 79 = some (s_impl_copyBytes) := by kernel_rfl
theorem st_impl_copyBytes (cs) : stF (EE cs) 79 = some (s_impl_copyBytes) := (stF_mk cs [] 79).trans st_impl_copyBytes_
theorem st_impl_in_ : stF (EE []) 85 = some (s_impl_in) := by kernel_rfl
theorem st_impl_in (cs) : stF (EE cs) 85 = some (s_impl_in) := (stF_mk cs [] 85).trans st_impl_in_
theorem st_impl_ReadSec_ : stF (EE []) 77 = some (s_impl_ReadSec) := by kernel_rfl
theorem st_impl_ReadSec (cs) : stF (EE cs) 77 = some (s_impl_ReadSec) := (stF_mk cs [] 77).trans st_impl_ReadSec_
theorem st_impl_Crc_ : stF (EE []) 143 = some (s_impl_Crc) := by kernel_rfl
theorem st_impl_Crc (cs) : stF (EE cs) 143 = some (s_impl_Crc) := (stF_mk cs [] 143).trans st_impl_Crc_
theorem st_impl_addSum_ : stF (EE []) 134 = some (s_impl_addSum) := by kernel_rfl
theorem st_impl_addSum (cs) : stF (EE cs) 134 = some (s_impl_addSum) := (stF_mk cs [] 134).trans st_impl_addSum_
theorem st_impl_PutSum_ : stF (EE []) 133 = some (s_impl_PutSum) := by kernel_rfl
theorem st_impl_PutSum (cs) : stF (EE cs) 133 = some (s_impl_PutSum) := (stF_mk cs [] 133).trans st_impl_PutSum_
theorem st_impl_GetSum_ : stF (EE []) 111 = some (s_impl_GetSum) := by kernel_rfl
theorem st_impl_GetSum (cs) : stF (EE cs) 111 = some (s_impl_GetSum) := (stF_mk cs [] 111).trans st_impl_GetSum_
theorem st_impl_GetU_ : stF (EE []) 84 = some (s_impl_GetU) := by kernel_rfl
theorem st_impl_GetU (cs) : stF (EE cs) 84 = some (s_impl_GetU) := (stF_mk cs [] 84).trans st_impl_GetU_
theorem st_impl_GetText_ : stF (EE []) 86 = some (s_impl_GetText) := by kernel_rfl
theorem st_impl_GetText (cs) : stF (EE cs) 86 = some (s_impl_GetText) := (stF_mk cs [] 86).trans st_impl_GetText_
theorem st_impl_clamp_ : stF (EE []) 114 = some (s_impl_clamp) := by kernel_rfl
theorem st_impl_clamp (cs) : stF (EE cs) 114 = some (s_impl_clamp) := (stF_mk cs [] 114).trans st_impl_clamp_
theorem st_impl_addU_ : stF (EE []) 88 = some (s_impl_addU) := by kernel_rfl
theorem st_impl_addU (cs) : stF (EE cs) 88 = some (s_impl_addU) := (stF_mk cs [] 88).trans st_impl_addU_
theorem st_impl_addText_ : stF (EE []) 89 = some (s_impl_addText) := by kernel_rfl
theorem st_impl_addText (cs) : stF (EE cs) 89 = some (s_impl_addText) := (stF_mk cs [] 89).trans st_impl_addText_
theorem st_impl_PutPage_ : stF (EE []) 112 = some (s_impl_PutPage) := by kernel_rfl
theorem st_impl_PutPage (cs) : stF (EE cs) 112 = some (s_impl_PutPage) := (stF_mk cs [] 112).trans st_impl_PutPage_
theorem st_impl_GetPage_ : stF (EE []) 83 = some (s_impl_GetPage) := by kernel_rfl
theorem st_impl_GetPage (cs) : stF (EE cs) 83 = some (s_impl_GetPage) := (stF_mk cs [] 83).trans st_impl_GetPage_
theorem st_impl_isSector_ : stF (EE []) 135 = some (s_impl_isSector) := by kernel_rfl
theorem st_impl_isSector (cs) : stF (EE cs) 135 = some (s_impl_isSector) := (stF_mk cs [] 135).trans st_impl_isSector_
theorem st_impl_MetaOk_ : stF (EE []) 121 = some (s_impl_MetaOk) := by kernel_rfl
theorem st_impl_MetaOk (cs) : stF (EE cs) 121 = some (s_impl_MetaOk) := (stF_mk cs [] 121).trans st_impl_MetaOk_
theorem st_impl_PutMeta_ : stF (EE []) 108 = some (s_impl_PutMeta) := by kernel_rfl
theorem st_impl_PutMeta (cs) : stF (EE cs) 108 = some (s_impl_PutMeta) := (stF_mk cs [] 108).trans st_impl_PutMeta_
theorem st_impl_GetMeta_ : stF (EE []) 78 = some (s_impl_GetMeta) := by kernel_rfl
theorem st_impl_GetMeta (cs) : stF (EE cs) 78 = some (s_impl_GetMeta) := (stF_mk cs [] 78).trans st_impl_GetMeta_
theorem st_impl_BestMeta_ : stF (EE []) 46 = some (s_impl_BestMeta) := by kernel_rfl
theorem st_impl_BestMeta (cs) : stF (EE cs) 46 = some (s_impl_BestMeta) := (stF_mk cs [] 46).trans st_impl_BestMeta_
theorem st_impl_copyDisk_ : stF (EE []) 47 = some (s_impl_copyDisk) := by kernel_rfl
theorem st_impl_copyDisk (cs) : stF (EE cs) 47 = some (s_impl_copyDisk) := (stF_mk cs [] 47).trans st_impl_copyDisk_
theorem st_impl_TxNew_ : stF (EE []) 21 = some (s_impl_TxNew) := by kernel_rfl
theorem st_impl_TxNew (cs) : stF (EE cs) 21 = some (s_impl_TxNew) := (stF_mk cs [] 21).trans st_impl_TxNew_
theorem st_impl_newAt_ : stF (EE []) 49 = some (s_impl_newAt) := by kernel_rfl
theorem st_impl_newAt (cs) : stF (EE cs) 49 = some (s_impl_newAt) := (stF_mk cs [] 49).trans st_impl_newAt_
theorem st_impl_copyTexts_ : stF (EE []) 81 = some (s_impl_copyTexts) := by kernel_rfl
theorem st_impl_copyTexts (cs) : stF (EE cs) 81 = some (s_impl_copyTexts) := (stF_mk cs [] 81).trans st_impl_copyTexts_
theorem st_impl_copyInts_ : stF (EE []) 82 = some (s_impl_copyInts) := by kernel_rfl
theorem st_impl_copyInts (cs) : stF (EE cs) 82 = some (s_impl_copyInts) := (stF_mk cs [] 82).trans st_impl_copyInts_
theorem st_impl_copyNode_ : stF (EE []) 50 = some (s_impl_copyNode) := by kernel_rfl
theorem st_impl_copyNode (cs) : stF (EE cs) 50 = some (s_impl_copyNode) := (stF_mk cs [] 50).trans st_impl_copyNode_
theorem st_impl_PageAt_ : stF (EE []) 51 = some (s_impl_PageAt) := by kernel_rfl
theorem st_impl_PageAt (cs) : stF (EE cs) 51 = some (s_impl_PageAt) := (stF_mk cs [] 51).trans st_impl_PageAt_
theorem st_impl_bodyOf_ : stF (EE []) 53 = some (s_impl_bodyOf) := by kernel_rfl
theorem st_impl_bodyOf (cs) : stF (EE cs) 53 = some (s_impl_bodyOf) := (stF_mk cs [] 53).trans st_impl_bodyOf_
theorem st_impl_SizeOf_ : stF (EE []) 25 = some (s_impl_SizeOf) := by kernel_rfl
theorem st_impl_SizeOf (cs) : stF (EE cs) 25 = some (s_impl_SizeOf) := (stF_mk cs [] 25).trans st_impl_SizeOf_
theorem st_impl_NodeOk_ : stF (EE []) 113 = some (s_impl_NodeOk) := by kernel_rfl
theorem st_impl_NodeOk (cs) : stF (EE cs) 113 = some (s_impl_NodeOk) := (stF_mk cs [] 113).trans st_impl_NodeOk_
theorem st_impl_PutNode_ : stF (EE []) 87 = some (s_impl_PutNode) := by kernel_rfl
theorem st_impl_PutNode (cs) : stF (EE cs) 87 = some (s_impl_PutNode) := (stF_mk cs [] 87).trans st_impl_PutNode_
theorem st_impl_GetNode_ : stF (EE []) 52 = some (s_impl_GetNode) := by kernel_rfl
theorem st_impl_GetNode (cs) : stF (EE cs) 52 = some (s_impl_GetNode) := (stF_mk cs [] 52).trans st_impl_GetNode_
theorem st_impl_NodeAt_ : stF (EE []) 23 = some (s_impl_NodeAt) := by kernel_rfl
theorem st_impl_NodeAt (cs) : stF (EE cs) 23 = some (s_impl_NodeAt) := (stF_mk cs [] 23).trans st_impl_NodeAt_
theorem st_impl_PagesOf_ : stF (EE []) 22 = some (s_impl_PagesOf) := by kernel_rfl
theorem st_impl_PagesOf (cs) : stF (EE cs) 22 = some (s_impl_PagesOf) := (stF_mk cs [] 22).trans st_impl_PagesOf_
theorem st_impl_onDisk_ : stF (EE []) 58 = some (s_impl_onDisk) := by kernel_rfl
theorem st_impl_onDisk (cs) : stF (EE cs) 58 = some (s_impl_onDisk) := (stF_mk cs [] 58).trans st_impl_onDisk_
theorem st_impl_FreeOf_ : stF (EE []) 30 = some (s_impl_FreeOf) := by kernel_rfl
theorem st_impl_FreeOf (cs) : stF (EE cs) 30 = some (s_impl_FreeOf) := (stF_mk cs [] 30).trans st_impl_FreeOf_
theorem st_impl_NoLeak_ : stF (EE []) 11 = some (s_impl_NoLeak) := by kernel_rfl
theorem st_impl_NoLeak (cs) : stF (EE cs) 11 = some (s_impl_NoLeak) := (stF_mk cs [] 11).trans st_impl_NoLeak_
theorem st_laws_eqCol_ : stF (EE []) 115 = some (s_laws_eqCol) := by kernel_rfl
theorem st_laws_eqCol (cs) : stF (EE cs) 115 = some (s_laws_eqCol) := (stF_mk cs [] 115).trans st_laws_eqCol_
theorem st_laws_eqColS_ : stF (EE []) 90 = some (eqSF 115 3 false) := by kernel_rfl
theorem st_laws_eqColS (cs) : stF (EE cs) 90 = some (eqSF 115 3 false) := (stF_mk cs [] 90).trans st_laws_eqColS_
theorem st_laws_eqBy_ : stF (EE []) 116 = some (s_laws_eqBy) := by kernel_rfl
theorem st_laws_eqBy (cs) : stF (EE cs) 116 = some (s_laws_eqBy) := (stF_mk cs [] 116).trans st_laws_eqBy_
theorem st_laws_eqByS_ : stF (EE []) 91 = some (eqSF 116 2 false) := by kernel_rfl
theorem st_laws_eqByS (cs) : stF (EE cs) 91 = some (eqSF 116 2 false) := (stF_mk cs [] 91).trans st_laws_eqByS_
theorem st_laws_eqIndex_ : stF (EE []) 117 = some (s_laws_eqIndex) := by kernel_rfl
theorem st_laws_eqIndex (cs) : stF (EE cs) 117 = some (s_laws_eqIndex) := (stF_mk cs [] 117).trans st_laws_eqIndex_
theorem st_laws_eqIndexS_ : stF (EE []) 92 = some (eqSF 117 3 false) := by kernel_rfl
theorem st_laws_eqIndexS (cs) : stF (EE cs) 92 = some (eqSF 117 3 false) := (stF_mk cs [] 92).trans st_laws_eqIndexS_
theorem st_laws_eqDef_ : stF (EE []) 54 = some (s_laws_eqDef) := by kernel_rfl
theorem st_laws_eqDef (cs) : stF (EE cs) 54 = some (s_laws_eqDef) := (stF_mk cs [] 54).trans st_laws_eqDef_
theorem st_laws_eqDefS_ : stF (EE []) 26 = some (eqSF 54 4 false) := by kernel_rfl
theorem st_laws_eqDefS (cs) : stF (EE cs) 26 = some (eqSF 54 4 false) := (stF_mk cs [] 26).trans st_laws_eqDefS_
theorem st_laws_eqByteS_ : stF (EE []) 93 = some (ecSF) := by kernel_rfl
theorem st_laws_eqByteS (cs) : stF (EE cs) 93 = some (ecSF) := (stF_mk cs [] 93).trans st_laws_eqByteS_
theorem st_laws_eqByteSS_ : stF (EE []) 55 = some (eqSF 93 1 true) := by kernel_rfl
theorem st_laws_eqByteSS (cs) : stF (EE cs) 55 = some (eqSF 93 1 true) := (stF_mk cs [] 55).trans st_laws_eqByteSS_
theorem st_laws_eqWrite_ : stF (EE []) 94 = some (s_laws_eqWrite) := by kernel_rfl
theorem st_laws_eqWrite (cs) : stF (EE cs) 94 = some (s_laws_eqWrite) := (stF_mk cs [] 94).trans st_laws_eqWrite_
theorem st_laws_eqWriteS_ : stF (EE []) 56 = some (eqSF 94 2 false) := by kernel_rfl
theorem st_laws_eqWriteS (cs) : stF (EE cs) 56 = some (eqSF 94 2 false) := (stF_mk cs [] 56).trans st_laws_eqWriteS_
theorem st_laws_eqFault_ : stF (EE []) 95 = some (s_laws_eqFault) := by kernel_rfl
theorem st_laws_eqFault (cs) : stF (EE cs) 95 = some (s_laws_eqFault) := (stF_mk cs [] 95).trans st_laws_eqFault_
theorem st_laws_eqFaultS_ : stF (EE []) 57 = some (eqSF 95 3 false) := by kernel_rfl
theorem st_laws_eqFaultS (cs) : stF (EE cs) 57 = some (eqSF 95 3 false) := (stF_mk cs [] 57).trans st_laws_eqFaultS_
theorem st_laws_eqDisk_ : stF (EE []) 27 = some (s_laws_eqDisk) := by kernel_rfl
theorem st_laws_eqDisk (cs) : stF (EE cs) 27 = some (s_laws_eqDisk) := (stF_mk cs [] 27).trans st_laws_eqDisk_
theorem st_laws_eqEng_ : stF (EE []) 9 = some (s_laws_eqEng) := by kernel_rfl
theorem st_laws_eqEng (cs) : stF (EE cs) 9 = some (s_laws_eqEng) := (stF_mk cs [] 9).trans st_laws_eqEng_
theorem st_laws_FnExactNoLeak_ : stF (EE []) 4 = some (s_laws_FnExactNoLeak) := by kernel_rfl
theorem st_laws_FnExactNoLeak (cs) : stF (EE cs) 4 = some (s_laws_FnExactNoLeak) := (stF_mk cs [] 4).trans st_laws_FnExactNoLeak_
theorem entered : entB Tryz.prog isC = true := by kernel_rfl
end Go.Proofs.YtmfkjlnhanomfaaGreat.Nl
/- The types of FnExactNoLeak's arguments, as trees. -/
namespace Go.Proofs.YtmfkjlnhanomfaaGreat.Nl
open Go Go.RowKit Go.Ev
set_option linter.unusedSimpArgs false
set_option linter.unusedVariables false
set_option maxHeartbeats 1600000
structure TCol where
  fName : List UInt8
  fType : Int
  fNull : Bool
def TCol.row (v : TCol) : List AV := [.str v.fName, .int .i64 v.fType, .bool v.fNull]
theorem TCol.inj (a b : TCol) (h : a.row = b.row) : a = b := by
  obtain ⟨aName, aType, aNull⟩ := a
  obtain ⟨bName, bType, bNull⟩ := b
  simp only [TCol.row, List.cons.injEq, AV.int.injEq, AV.str.injEq, AV.bool.injEq, true_and, and_true] at h
  obtain ⟨h0, h1, h2⟩ := h
  subst h0
  subst h1
  subst h2
  rfl
def tCol : TD TCol where
  row := TCol.row
  enc v := .agg v.row
  sz := 3
  one := false
  cost v := v.fName.length
  fits v := v.fName.length ≤ 9223372036854775807
  ok v := intT.ok v.fType
  len _ := rfl
  pos := by decide
  inj := TCol.inj
  enc1 h := by cases h
  encA _ _ := rfl
  frz v c hc := by
    simp only [TCol.row, List.mem_cons, List.not_mem_nil, or_false] at hc
    rcases hc with rfl | rfl | rfl <;> exact ⟨rfl, rfl⟩
  fit v h := by omega
  dep := 0
  okd v c hc := by
    simp only [TCol.row, List.mem_cons, List.not_mem_nil, or_false] at hc
    rcases hc with rfl | rfl | rfl
    · exact okV.mono (n := 0) rfl (Nat.zero_le _)
    · exact okV.mono (n := 0) rfl (Nat.zero_le _)
    · exact okV.mono (n := 0) rfl (Nat.zero_le _)
theorem tCol_enc (v : TCol) : tCol.enc v = .agg v.row := rfl
theorem tCol_row : tCol.row = TCol.row := rfl
attribute [go_sem] tCol_enc tCol_row
structure TBy where
  fCol : Int
  fDesc : Bool
def TBy.row (v : TBy) : List AV := [.int .i64 v.fCol, .bool v.fDesc]
theorem TBy.inj (a b : TBy) (h : a.row = b.row) : a = b := by
  obtain ⟨aCol, aDesc⟩ := a
  obtain ⟨bCol, bDesc⟩ := b
  simp only [TBy.row, List.cons.injEq, AV.int.injEq, AV.bool.injEq, true_and, and_true] at h
  obtain ⟨h0, h1⟩ := h
  subst h0
  subst h1
  rfl
def tBy : TD TBy where
  row := TBy.row
  enc v := .agg v.row
  sz := 2
  one := false
  cost _ := 0
  fits _ := True
  ok v := intT.ok v.fCol
  len _ := rfl
  pos := by decide
  inj := TBy.inj
  enc1 h := by cases h
  encA _ _ := rfl
  frz v c hc := by
    simp only [TBy.row, List.mem_cons, List.not_mem_nil, or_false] at hc
    rcases hc with rfl | rfl <;> exact ⟨rfl, rfl⟩
  fit _ _ := trivial
  dep := 0
  okd v c hc := by
    simp only [TBy.row, List.mem_cons, List.not_mem_nil, or_false] at hc
    rcases hc with rfl | rfl
    · exact okV.mono (n := 0) rfl (Nat.zero_le _)
    · exact okV.mono (n := 0) rfl (Nat.zero_le _)
theorem tBy_enc (v : TBy) : tBy.enc v = .agg v.row := rfl
theorem tBy_row : tBy.row = TBy.row := rfl
attribute [go_sem] tBy_enc tBy_row
structure TIndex where
  fName : List UInt8
  fUnique : Bool
  fParts : List (TBy)
def TIndex.row (v : TIndex) : List AV := [.str v.fName, .bool v.fUnique, .imm (v.fParts.map TBy.row)]
theorem TIndex.inj (a b : TIndex) (h : a.row = b.row) : a = b := by
  obtain ⟨aName, aUnique, aParts⟩ := a
  obtain ⟨bName, bUnique, bParts⟩ := b
  simp only [TIndex.row, List.cons.injEq, AV.str.injEq, AV.bool.injEq, AV.imm.injEq, and_true] at h
  obtain ⟨h0, h1, h2⟩ := h
  have h2 := TD.map_inj tBy h2
  subst h0
  subst h1
  subst h2
  rfl
def tIndex : TD TIndex where
  row := TIndex.row
  enc v := .agg v.row
  sz := 3
  one := false
  cost v := v.fName.length + (sliceT tBy).cost v.fParts
  fits v := v.fName.length ≤ 9223372036854775807 ∧ (sliceT tBy).fits v.fParts
  ok v := (sliceT tBy).ok v.fParts
  len _ := rfl
  pos := by decide
  inj := TIndex.inj
  enc1 h := by cases h
  encA _ _ := rfl
  frz v c hc := by
    simp only [TIndex.row, List.mem_cons, List.not_mem_nil, or_false] at hc
    rcases hc with rfl | rfl | rfl <;> exact ⟨rfl, rfl⟩
  fit v h := ⟨by omega, (sliceT tBy).fit _ (by omega)⟩
  dep := 1
  okd v c hc := by
    simp only [TIndex.row, List.mem_cons, List.not_mem_nil, or_false] at hc
    rcases hc with rfl | rfl | rfl
    · exact okV.mono (n := 0) rfl (Nat.zero_le _)
    · exact okV.mono (n := 0) rfl (Nat.zero_le _)
    · exact (((sliceT tBy)).okd v.fParts _ (by exact List.mem_singleton.2 rfl)).mono (by decide)
theorem tIndex_enc (v : TIndex) : tIndex.enc v = .agg v.row := rfl
theorem tIndex_row : tIndex.row = TIndex.row := rfl
attribute [go_sem] tIndex_enc tIndex_row
structure TDef where
  fName : List UInt8
  fCols : List (TCol)
  fPrimary : List (TBy)
  fIndexes : List (TIndex)
def TDef.row (v : TDef) : List AV := [.str v.fName, .imm (v.fCols.map TCol.row), .imm (v.fPrimary.map TBy.row), .imm (v.fIndexes.map TIndex.row)]
theorem TDef.inj (a b : TDef) (h : a.row = b.row) : a = b := by
  obtain ⟨aName, aCols, aPrimary, aIndexes⟩ := a
  obtain ⟨bName, bCols, bPrimary, bIndexes⟩ := b
  simp only [TDef.row, List.cons.injEq, AV.str.injEq, AV.imm.injEq, and_true] at h
  obtain ⟨h0, h1, h2, h3⟩ := h
  have h1 := TD.map_inj tCol h1
  have h2 := TD.map_inj tBy h2
  have h3 := TD.map_inj tIndex h3
  subst h0
  subst h1
  subst h2
  subst h3
  rfl
def tDef : TD TDef where
  row := TDef.row
  enc v := .agg v.row
  sz := 4
  one := false
  cost v := v.fName.length + (sliceT tCol).cost v.fCols + (sliceT tBy).cost v.fPrimary + (sliceT tIndex).cost v.fIndexes
  fits v := v.fName.length ≤ 9223372036854775807 ∧ (sliceT tCol).fits v.fCols ∧ (sliceT tBy).fits v.fPrimary ∧ (sliceT tIndex).fits v.fIndexes
  ok v := (sliceT tCol).ok v.fCols ∧ (sliceT tBy).ok v.fPrimary ∧ (sliceT tIndex).ok v.fIndexes
  len _ := rfl
  pos := by decide
  inj := TDef.inj
  enc1 h := by cases h
  encA _ _ := rfl
  frz v c hc := by
    simp only [TDef.row, List.mem_cons, List.not_mem_nil, or_false] at hc
    rcases hc with rfl | rfl | rfl | rfl <;> exact ⟨rfl, rfl⟩
  fit v h := ⟨by omega, (sliceT tCol).fit _ (by omega), (sliceT tBy).fit _ (by omega), (sliceT tIndex).fit _ (by omega)⟩
  dep := 2
  okd v c hc := by
    simp only [TDef.row, List.mem_cons, List.not_mem_nil, or_false] at hc
    rcases hc with rfl | rfl | rfl | rfl
    · exact okV.mono (n := 0) rfl (Nat.zero_le _)
    · exact (((sliceT tCol)).okd v.fCols _ (by exact List.mem_singleton.2 rfl)).mono (by decide)
    · exact (((sliceT tBy)).okd v.fPrimary _ (by exact List.mem_singleton.2 rfl)).mono (by decide)
    · exact (((sliceT tIndex)).okd v.fIndexes _ (by exact List.mem_singleton.2 rfl)).mono (by decide)
theorem tDef_enc (v : TDef) : tDef.enc v = .agg v.row := rfl
theorem tDef_row : tDef.row = TDef.row := rfl
attribute [go_sem] tDef_enc tDef_row
structure TWrite where
  fN : Int
  fB : List (UInt8)
def TWrite.row (v : TWrite) : List AV := [.int .i64 v.fN, .imm (v.fB.map u8T.row)]
theorem TWrite.inj (a b : TWrite) (h : a.row = b.row) : a = b := by
  obtain ⟨aN, aB⟩ := a
  obtain ⟨bN, bB⟩ := b
  simp only [TWrite.row, List.cons.injEq, AV.int.injEq, AV.imm.injEq, true_and, and_true] at h
  obtain ⟨h0, h1⟩ := h
  have h1 := TD.map_inj u8T h1
  subst h0
  subst h1
  rfl
def tWrite : TD TWrite where
  row := TWrite.row
  enc v := .agg v.row
  sz := 2
  one := false
  cost v := (sliceT u8T).cost v.fB
  fits v := (sliceT u8T).fits v.fB
  ok v := intT.ok v.fN ∧ (sliceT u8T).ok v.fB
  len _ := rfl
  pos := by decide
  inj := TWrite.inj
  enc1 h := by cases h
  encA _ _ := rfl
  frz v c hc := by
    simp only [TWrite.row, List.mem_cons, List.not_mem_nil, or_false] at hc
    rcases hc with rfl | rfl <;> exact ⟨rfl, rfl⟩
  fit v h := (sliceT u8T).fit _ (by omega)
  dep := 1
  okd v c hc := by
    simp only [TWrite.row, List.mem_cons, List.not_mem_nil, or_false] at hc
    rcases hc with rfl | rfl
    · exact okV.mono (n := 0) rfl (Nat.zero_le _)
    · exact (((sliceT u8T)).okd v.fB _ (by exact List.mem_singleton.2 rfl)).mono (by decide)
theorem tWrite_enc (v : TWrite) : tWrite.enc v = .agg v.row := rfl
theorem tWrite_row : tWrite.row = TWrite.row := rfl
attribute [go_sem] tWrite_enc tWrite_row
structure TFault where
  fAt : Int
  fKeep : Int
  fCut : Int
def TFault.row (v : TFault) : List AV := [.int .i64 v.fAt, .int .i64 v.fKeep, .int .i64 v.fCut]
theorem TFault.inj (a b : TFault) (h : a.row = b.row) : a = b := by
  obtain ⟨aAt, aKeep, aCut⟩ := a
  obtain ⟨bAt, bKeep, bCut⟩ := b
  simp only [TFault.row, List.cons.injEq, AV.int.injEq, true_and, and_true] at h
  obtain ⟨h0, h1, h2⟩ := h
  subst h0
  subst h1
  subst h2
  rfl
def tFault : TD TFault where
  row := TFault.row
  enc v := .agg v.row
  sz := 3
  one := false
  cost _ := 0
  fits _ := True
  ok v := intT.ok v.fAt ∧ intT.ok v.fKeep ∧ intT.ok v.fCut
  len _ := rfl
  pos := by decide
  inj := TFault.inj
  enc1 h := by cases h
  encA _ _ := rfl
  frz v c hc := by
    simp only [TFault.row, List.mem_cons, List.not_mem_nil, or_false] at hc
    rcases hc with rfl | rfl | rfl <;> exact ⟨rfl, rfl⟩
  fit _ _ := trivial
  dep := 0
  okd v c hc := by
    simp only [TFault.row, List.mem_cons, List.not_mem_nil, or_false] at hc
    rcases hc with rfl | rfl | rfl
    · exact okV.mono (n := 0) rfl (Nat.zero_le _)
    · exact okV.mono (n := 0) rfl (Nat.zero_le _)
    · exact okV.mono (n := 0) rfl (Nat.zero_le _)
theorem tFault_enc (v : TFault) : tFault.enc v = .agg v.row := rfl
theorem tFault_row : tFault.row = TFault.row := rfl
attribute [go_sem] tFault_enc tFault_row
structure TDisk where
  fSecs : List (List (UInt8))
  fCache : List (TWrite)
  fOps : Int
  fFaults : List (TFault)
  fDown : Bool
def TDisk.row (v : TDisk) : List AV := [.imm (v.fSecs.map (sliceT u8T).row), .imm (v.fCache.map TWrite.row), .int .i64 v.fOps, .imm (v.fFaults.map TFault.row), .bool v.fDown]
theorem TDisk.inj (a b : TDisk) (h : a.row = b.row) : a = b := by
  obtain ⟨aSecs, aCache, aOps, aFaults, aDown⟩ := a
  obtain ⟨bSecs, bCache, bOps, bFaults, bDown⟩ := b
  simp only [TDisk.row, List.cons.injEq, AV.int.injEq, AV.bool.injEq, AV.imm.injEq, true_and, and_true] at h
  obtain ⟨h0, h1, h2, h3, h4⟩ := h
  have h0 := TD.map_inj (sliceT u8T) h0
  have h1 := TD.map_inj tWrite h1
  have h3 := TD.map_inj tFault h3
  subst h0
  subst h1
  subst h2
  subst h3
  subst h4
  rfl
def tDisk : TD TDisk where
  row := TDisk.row
  enc v := .agg v.row
  sz := 5
  one := false
  cost v := (sliceT (sliceT u8T)).cost v.fSecs + (sliceT tWrite).cost v.fCache + (sliceT tFault).cost v.fFaults
  fits v := (sliceT (sliceT u8T)).fits v.fSecs ∧ (sliceT tWrite).fits v.fCache ∧ (sliceT tFault).fits v.fFaults
  ok v := (sliceT (sliceT u8T)).ok v.fSecs ∧ (sliceT tWrite).ok v.fCache ∧ intT.ok v.fOps ∧ (sliceT tFault).ok v.fFaults
  len _ := rfl
  pos := by decide
  inj := TDisk.inj
  enc1 h := by cases h
  encA _ _ := rfl
  frz v c hc := by
    simp only [TDisk.row, List.mem_cons, List.not_mem_nil, or_false] at hc
    rcases hc with rfl | rfl | rfl | rfl | rfl <;> exact ⟨rfl, rfl⟩
  fit v h := ⟨(sliceT (sliceT u8T)).fit _ (by omega), (sliceT tWrite).fit _ (by omega), (sliceT tFault).fit _ (by omega)⟩
  dep := 2
  okd v c hc := by
    simp only [TDisk.row, List.mem_cons, List.not_mem_nil, or_false] at hc
    rcases hc with rfl | rfl | rfl | rfl | rfl
    · exact (((sliceT (sliceT u8T))).okd v.fSecs _ (by exact List.mem_singleton.2 rfl)).mono (by decide)
    · exact (((sliceT tWrite)).okd v.fCache _ (by exact List.mem_singleton.2 rfl)).mono (by decide)
    · exact okV.mono (n := 0) rfl (Nat.zero_le _)
    · exact (((sliceT tFault)).okd v.fFaults _ (by exact List.mem_singleton.2 rfl)).mono (by decide)
    · exact okV.mono (n := 0) rfl (Nat.zero_le _)
theorem tDisk_enc (v : TDisk) : tDisk.enc v = .agg v.row := rfl
theorem tDisk_row : tDisk.row = TDisk.row := rfl
attribute [go_sem] tDisk_enc tDisk_row
structure TEng where
  fS : List (TDef)
  fD : TDisk
def TEng.row (v : TEng) : List AV := [.imm (v.fS.map TDef.row), .imm (v.fD.fSecs.map (sliceT u8T).row), .imm (v.fD.fCache.map TWrite.row), .int .i64 v.fD.fOps, .imm (v.fD.fFaults.map TFault.row), .bool v.fD.fDown]
theorem TEng.inj (a b : TEng) (h : a.row = b.row) : a = b := by
  obtain ⟨aS, ⟨aDSecs, aDCache, aDOps, aDFaults, aDDown⟩⟩ := a
  obtain ⟨bS, ⟨bDSecs, bDCache, bDOps, bDFaults, bDDown⟩⟩ := b
  simp only [TEng.row, List.cons.injEq, AV.int.injEq, AV.bool.injEq, AV.imm.injEq, true_and, and_true] at h
  obtain ⟨h0, h1, h2, h3, h4, h5⟩ := h
  have h0 := TD.map_inj tDef h0
  have h1 := TD.map_inj (sliceT u8T) h1
  have h2 := TD.map_inj tWrite h2
  have h4 := TD.map_inj tFault h4
  subst h0
  subst h1
  subst h2
  subst h3
  subst h4
  subst h5
  rfl
def tEng : TD TEng where
  row := TEng.row
  enc v := .agg v.row
  sz := 6
  one := false
  cost v := (sliceT tDef).cost v.fS + tDisk.cost v.fD
  fits v := (sliceT tDef).fits v.fS ∧ tDisk.fits v.fD
  ok v := (sliceT tDef).ok v.fS ∧ tDisk.ok v.fD
  len _ := rfl
  pos := by decide
  inj := TEng.inj
  enc1 h := by cases h
  encA _ _ := rfl
  frz v c hc := by
    simp only [TEng.row, List.mem_cons, List.not_mem_nil, or_false] at hc
    rcases hc with rfl | rfl | rfl | rfl | rfl | rfl <;> exact ⟨rfl, rfl⟩
  fit v h := ⟨(sliceT tDef).fit _ (by omega), tDisk.fit _ (by omega)⟩
  dep := 3
  okd v c hc := by
    simp only [TEng.row, List.mem_cons, List.not_mem_nil, or_false] at hc
    rcases hc with rfl | rfl | rfl | rfl | rfl | rfl
    · exact (((sliceT tDef)).okd v.fS _ (by exact List.mem_singleton.2 rfl)).mono (by decide)
    · exact (((sliceT (sliceT u8T))).okd v.fD.fSecs _ (by exact List.mem_singleton.2 rfl)).mono (by decide)
    · exact (((sliceT tWrite)).okd v.fD.fCache _ (by exact List.mem_singleton.2 rfl)).mono (by decide)
    · exact okV.mono (n := 0) rfl (Nat.zero_le _)
    · exact (((sliceT tFault)).okd v.fD.fFaults _ (by exact List.mem_singleton.2 rfl)).mono (by decide)
    · exact okV.mono (n := 0) rfl (Nat.zero_le _)
theorem tEng_enc (v : TEng) : tEng.enc v = .agg v.row := rfl
theorem tEng_row : tEng.row = TEng.row := rfl
attribute [go_sem] tEng_enc tEng_row
structure TMeta where
  fGen : Int
  fRoot : Int
def TMeta.row (v : TMeta) : List AV := [.int .i64 v.fGen, .int .i64 v.fRoot]
theorem TMeta.inj (a b : TMeta) (h : a.row = b.row) : a = b := by
  obtain ⟨aGen, aRoot⟩ := a
  obtain ⟨bGen, bRoot⟩ := b
  simp only [TMeta.row, List.cons.injEq, AV.int.injEq, true_and, and_true] at h
  obtain ⟨h0, h1⟩ := h
  subst h0
  subst h1
  rfl
def tMeta : TD TMeta where
  row := TMeta.row
  enc v := .agg v.row
  sz := 2
  one := false
  cost _ := 0
  fits _ := True
  ok v := intT.ok v.fGen ∧ intT.ok v.fRoot
  len _ := rfl
  pos := by decide
  inj := TMeta.inj
  enc1 h := by cases h
  encA _ _ := rfl
  frz v c hc := by
    simp only [TMeta.row, List.mem_cons, List.not_mem_nil, or_false] at hc
    rcases hc with rfl | rfl <;> exact ⟨rfl, rfl⟩
  fit _ _ := trivial
  dep := 0
  okd v c hc := by
    simp only [TMeta.row, List.mem_cons, List.not_mem_nil, or_false] at hc
    rcases hc with rfl | rfl
    · exact okV.mono (n := 0) rfl (Nat.zero_le _)
    · exact okV.mono (n := 0) rfl (Nat.zero_le _)
theorem tMeta_enc (v : TMeta) : tMeta.enc v = .agg v.row := rfl
theorem tMeta_row : tMeta.row = TMeta.row := rfl
attribute [go_sem] tMeta_enc tMeta_row
structure TNode where
  fLeaf : Bool
  fKeys : List (List UInt8)
  fVals : List (List UInt8)
  fKids : List (Int)
def TNode.row (v : TNode) : List AV := [.bool v.fLeaf, .imm (v.fKeys.map strT.row), .imm (v.fVals.map strT.row), .imm (v.fKids.map intT.row)]
theorem TNode.inj (a b : TNode) (h : a.row = b.row) : a = b := by
  obtain ⟨aLeaf, aKeys, aVals, aKids⟩ := a
  obtain ⟨bLeaf, bKeys, bVals, bKids⟩ := b
  simp only [TNode.row, List.cons.injEq, AV.bool.injEq, AV.imm.injEq, and_true] at h
  obtain ⟨h0, h1, h2, h3⟩ := h
  have h1 := TD.map_inj strT h1
  have h2 := TD.map_inj strT h2
  have h3 := TD.map_inj intT h3
  subst h0
  subst h1
  subst h2
  subst h3
  rfl
def tNode : TD TNode where
  row := TNode.row
  enc v := .agg v.row
  sz := 4
  one := false
  cost v := (sliceT strT).cost v.fKeys + (sliceT strT).cost v.fVals + (sliceT intT).cost v.fKids
  fits v := (sliceT strT).fits v.fKeys ∧ (sliceT strT).fits v.fVals ∧ (sliceT intT).fits v.fKids
  ok v := (sliceT strT).ok v.fKeys ∧ (sliceT strT).ok v.fVals ∧ (sliceT intT).ok v.fKids
  len _ := rfl
  pos := by decide
  inj := TNode.inj
  enc1 h := by cases h
  encA _ _ := rfl
  frz v c hc := by
    simp only [TNode.row, List.mem_cons, List.not_mem_nil, or_false] at hc
    rcases hc with rfl | rfl | rfl | rfl <;> exact ⟨rfl, rfl⟩
  fit v h := ⟨(sliceT strT).fit _ (by omega), (sliceT strT).fit _ (by omega), (sliceT intT).fit _ (by omega)⟩
  dep := 1
  okd v c hc := by
    simp only [TNode.row, List.mem_cons, List.not_mem_nil, or_false] at hc
    rcases hc with rfl | rfl | rfl | rfl
    · exact okV.mono (n := 0) rfl (Nat.zero_le _)
    · exact (((sliceT strT)).okd v.fKeys _ (by exact List.mem_singleton.2 rfl)).mono (by decide)
    · exact (((sliceT strT)).okd v.fVals _ (by exact List.mem_singleton.2 rfl)).mono (by decide)
    · exact (((sliceT intT)).okd v.fKids _ (by exact List.mem_singleton.2 rfl)).mono (by decide)
theorem tNode_enc (v : TNode) : tNode.enc v = .agg v.row := rfl
theorem tNode_row : tNode.row = TNode.row := rfl
attribute [go_sem] tNode_enc tNode_row
structure TFresh where
  fN : Int
  fX : TNode
def TFresh.row (v : TFresh) : List AV := [.int .i64 v.fN, .bool v.fX.fLeaf, .imm (v.fX.fKeys.map strT.row), .imm (v.fX.fVals.map strT.row), .imm (v.fX.fKids.map intT.row)]
theorem TFresh.inj (a b : TFresh) (h : a.row = b.row) : a = b := by
  obtain ⟨aN, ⟨aXLeaf, aXKeys, aXVals, aXKids⟩⟩ := a
  obtain ⟨bN, ⟨bXLeaf, bXKeys, bXVals, bXKids⟩⟩ := b
  simp only [TFresh.row, List.cons.injEq, AV.int.injEq, AV.bool.injEq, AV.imm.injEq, true_and, and_true] at h
  obtain ⟨h0, h1, h2, h3, h4⟩ := h
  have h2 := TD.map_inj strT h2
  have h3 := TD.map_inj strT h3
  have h4 := TD.map_inj intT h4
  subst h0
  subst h1
  subst h2
  subst h3
  subst h4
  rfl
def tFresh : TD TFresh where
  row := TFresh.row
  enc v := .agg v.row
  sz := 5
  one := false
  cost v := tNode.cost v.fX
  fits v := tNode.fits v.fX
  ok v := intT.ok v.fN ∧ tNode.ok v.fX
  len _ := rfl
  pos := by decide
  inj := TFresh.inj
  enc1 h := by cases h
  encA _ _ := rfl
  frz v c hc := by
    simp only [TFresh.row, List.mem_cons, List.not_mem_nil, or_false] at hc
    rcases hc with rfl | rfl | rfl | rfl | rfl <;> exact ⟨rfl, rfl⟩
  fit v h := tNode.fit _ (by omega)
  dep := 1
  okd v c hc := by
    simp only [TFresh.row, List.mem_cons, List.not_mem_nil, or_false] at hc
    rcases hc with rfl | rfl | rfl | rfl | rfl
    · exact okV.mono (n := 0) rfl (Nat.zero_le _)
    · exact okV.mono (n := 0) rfl (Nat.zero_le _)
    · exact (((sliceT strT)).okd v.fX.fKeys _ (by exact List.mem_singleton.2 rfl)).mono (by decide)
    · exact (((sliceT strT)).okd v.fX.fVals _ (by exact List.mem_singleton.2 rfl)).mono (by decide)
    · exact (((sliceT intT)).okd v.fX.fKids _ (by exact List.mem_singleton.2 rfl)).mono (by decide)
theorem tFresh_enc (v : TFresh) : tFresh.enc v = .agg v.row := rfl
theorem tFresh_row : tFresh.row = TFresh.row := rfl
attribute [go_sem] tFresh_enc tFresh_row
structure TTxn where
  fD : TDisk
  fM : TMeta
  fRoot : Int
  fNew : List (TFresh)
def TTxn.row (v : TTxn) : List AV := [.imm (v.fD.fSecs.map (sliceT u8T).row), .imm (v.fD.fCache.map TWrite.row), .int .i64 v.fD.fOps, .imm (v.fD.fFaults.map TFault.row), .bool v.fD.fDown, .int .i64 v.fM.fGen, .int .i64 v.fM.fRoot, .int .i64 v.fRoot, .imm (v.fNew.map TFresh.row)]
theorem TTxn.inj (a b : TTxn) (h : a.row = b.row) : a = b := by
  obtain ⟨⟨aDSecs, aDCache, aDOps, aDFaults, aDDown⟩, ⟨aMGen, aMRoot⟩, aRoot, aNew⟩ := a
  obtain ⟨⟨bDSecs, bDCache, bDOps, bDFaults, bDDown⟩, ⟨bMGen, bMRoot⟩, bRoot, bNew⟩ := b
  simp only [TTxn.row, List.cons.injEq, AV.int.injEq, AV.bool.injEq, AV.imm.injEq, true_and, and_true] at h
  obtain ⟨h0, h1, h2, h3, h4, h5, h6, h7, h8⟩ := h
  have h0 := TD.map_inj (sliceT u8T) h0
  have h1 := TD.map_inj tWrite h1
  have h3 := TD.map_inj tFault h3
  have h8 := TD.map_inj tFresh h8
  subst h0
  subst h1
  subst h2
  subst h3
  subst h4
  subst h5
  subst h6
  subst h7
  subst h8
  rfl
def tTxn : TD TTxn where
  row := TTxn.row
  enc v := .agg v.row
  sz := 9
  one := false
  cost v := tDisk.cost v.fD + (sliceT tFresh).cost v.fNew
  fits v := tDisk.fits v.fD ∧ (sliceT tFresh).fits v.fNew
  ok v := tDisk.ok v.fD ∧ tMeta.ok v.fM ∧ intT.ok v.fRoot ∧ (sliceT tFresh).ok v.fNew
  len _ := rfl
  pos := by decide
  inj := TTxn.inj
  enc1 h := by cases h
  encA _ _ := rfl
  frz v c hc := by
    simp only [TTxn.row, List.mem_cons, List.not_mem_nil, or_false] at hc
    rcases hc with rfl | rfl | rfl | rfl | rfl | rfl | rfl | rfl | rfl <;> exact ⟨rfl, rfl⟩
  fit v h := ⟨tDisk.fit _ (by omega), (sliceT tFresh).fit _ (by omega)⟩
  dep := 2
  okd v c hc := by
    simp only [TTxn.row, List.mem_cons, List.not_mem_nil, or_false] at hc
    rcases hc with rfl | rfl | rfl | rfl | rfl | rfl | rfl | rfl | rfl
    · exact (((sliceT (sliceT u8T))).okd v.fD.fSecs _ (by exact List.mem_singleton.2 rfl)).mono (by decide)
    · exact (((sliceT tWrite)).okd v.fD.fCache _ (by exact List.mem_singleton.2 rfl)).mono (by decide)
    · exact okV.mono (n := 0) rfl (Nat.zero_le _)
    · exact (((sliceT tFault)).okd v.fD.fFaults _ (by exact List.mem_singleton.2 rfl)).mono (by decide)
    · exact okV.mono (n := 0) rfl (Nat.zero_le _)
    · exact okV.mono (n := 0) rfl (Nat.zero_le _)
    · exact okV.mono (n := 0) rfl (Nat.zero_le _)
    · exact okV.mono (n := 0) rfl (Nat.zero_le _)
    · exact (((sliceT tFresh)).okd v.fNew _ (by exact List.mem_singleton.2 rfl)).mono (by decide)
theorem tTxn_enc (v : TTxn) : tTxn.enc v = .agg v.row := rfl
theorem tTxn_row : tTxn.row = TTxn.row := rfl
attribute [go_sem] tTxn_enc tTxn_row
end Go.Proofs.YtmfkjlnhanomfaaGreat.Nl
/- What the functions that FnExactNoLeak calls answer: part 1. -/
namespace Go.Proofs.YtmfkjlnhanomfaaGreat.Nl
open Go Go.RowKit Go.Ev
set_option linter.unusedSimpArgs false
set_option linter.unusedVariables false
set_option maxHeartbeats 1600000
theorem ok_laws_szCol {WI : World → Prop} (hs : Stable WI) (cs) (hT : TOK (EE cs) WI)  : PureOK Tryz.prog WI 96 (szC tCol) := by
  refine pure2 (E := EE cs) hT hs (by rw [st_laws_szCol]; rfl) fun v left ⟨hfits, hlo, hhi⟩ => out_K (n := 0) (st_laws_szCol cs) ?_
  have q0 : v.fName.length ≤ 9223372036854775807 := hfits
  have hcost : tCol.cost v = v.fName.length := rfl
  have w0 : IntKind.wrap .i64 (left - (v.fName.length : Int)) = left - (v.fName.length : Int) := wrapId (by omega) (by omega)
  by_cases n0 : left - (v.fName.length : Int) < 0
  · skip
    have hz : szR (tCol.cost v) left = -1 := by unfold szR; rw [if_pos (by omega)]
    rw [hz]
    simp only [go_sem, Nat.reduceBEq, s_laws_szCol, TCol.row, w0, n0]
  have hz : szR (tCol.cost v) left = left - (v.fName.length : Int) := by unfold szR; rw [if_neg (by omega)]; omega
  rw [hz]
  simp only [go_sem, Nat.reduceBEq, s_laws_szCol, TCol.row, w0, n0]
theorem ok_laws_szColS {WI : World → Prop} (hs : Stable WI) (cs) (hT : TOK (EE cs) WI) (h0 : (EE cs).T 96 = some (szC tCol)) : PureOK Tryz.prog WI 59 (szC (sliceT tCol)) := szS_ok (E := EE cs) (T := tCol) hT hs h0 (st_laws_szColS cs)
theorem ok_laws_szByS {WI : World → Prop} (hs : Stable WI) (cs) (hT : TOK (EE cs) WI)  : PureOK Tryz.prog WI 60 (szC (sliceT tBy)) := szLen_ok (E := EE cs) hT hs (fun _ => rfl) (st_laws_szByS cs)
theorem ok_laws_szIndex {WI : World → Prop} (hs : Stable WI) (cs) (hT : TOK (EE cs) WI) (h0 : (EE cs).T 60 = some (szC (sliceT tBy))) : PureOK Tryz.prog WI 97 (szC tIndex) := by
  refine pure2 (E := EE cs) hT hs (by rw [st_laws_szIndex]; rfl) fun v left ⟨hfits, hlo, hhi⟩ => out_K (n := 0) (st_laws_szIndex cs) ?_
  obtain ⟨q0, q1⟩ := hfits
  have hcost : tIndex.cost v = v.fName.length + (sliceT tBy).cost v.fParts := rfl
  have w0 : IntKind.wrap .i64 (left - (v.fName.length : Int)) = left - (v.fName.length : Int) := wrapId (by omega) (by omega)
  by_cases n0 : left - (v.fName.length : Int) < 0
  · skip
    have hz : szR (tIndex.cost v) left = -1 := by unfold szR; rw [if_pos (by omega)]
    rw [hz]
    simp only [go_sem, Nat.reduceBEq, s_laws_szIndex, TIndex.row, w0, n0]
  have c1 : szC (sliceT tBy) [.imm (v.fParts.map TBy.row), .int .i64 (left - (v.fName.length : Int))] = some (.int .i64 (szR ((sliceT tBy).cost v.fParts) (left - (v.fName.length : Int)))) := szC_eq (sliceT tBy) ⟨q1, by omega, by omega⟩
  by_cases n1 : szR ((sliceT tBy).cost v.fParts) (left - (v.fName.length : Int)) < 0
  · skip
    obtain ⟨e1, e1'⟩ := szR_neg n1 (by omega)
    have hz : szR (tIndex.cost v) left = -1 := by unfold szR; rw [if_pos (by omega)]
    rw [hz]
    simp only [go_sem, Nat.reduceBEq, Nat.reduceAdd, Nat.reduceLeDiff, Int.reduceLT, s_laws_szIndex, TIndex.row, h0, w0, n0, c1, e1]
  obtain ⟨e1, n1'⟩ := szR_pos n1
  have hz : szR (tIndex.cost v) left = left - (v.fName.length : Int) - ((sliceT tBy).cost v.fParts : Int) := by unfold szR; rw [if_neg (by omega)]; omega
  rw [hz]
  simp only [go_sem, Nat.reduceBEq, Nat.reduceAdd, Nat.reduceLeDiff, s_laws_szIndex, TIndex.row, h0, w0, n0, c1, e1, n1']
theorem ok_laws_szIndexS {WI : World → Prop} (hs : Stable WI) (cs) (hT : TOK (EE cs) WI) (h0 : (EE cs).T 97 = some (szC tIndex)) : PureOK Tryz.prog WI 61 (szC (sliceT tIndex)) := szS_ok (E := EE cs) (T := tIndex) hT hs h0 (st_laws_szIndexS cs)
theorem ok_laws_szDef {WI : World → Prop} (hs : Stable WI) (cs) (hT : TOK (EE cs) WI) (h0 : (EE cs).T 59 = some (szC (sliceT tCol))) (h1 : (EE cs).T 60 = some (szC (sliceT tBy))) (h2 : (EE cs).T 61 = some (szC (sliceT tIndex))) : PureOK Tryz.prog WI 32 (szC tDef) := by
  refine pure2 (E := EE cs) hT hs (by rw [st_laws_szDef]; rfl) fun v left ⟨hfits, hlo, hhi⟩ => out_K (n := 0) (st_laws_szDef cs) ?_
  obtain ⟨q0, q1, q2, q3⟩ := hfits
  have hcost : tDef.cost v = v.fName.length + (sliceT tCol).cost v.fCols + (sliceT tBy).cost v.fPrimary + (sliceT tIndex).cost v.fIndexes := rfl
  have w0 : IntKind.wrap .i64 (left - (v.fName.length : Int)) = left - (v.fName.length : Int) := wrapId (by omega) (by omega)
  by_cases n0 : left - (v.fName.length : Int) < 0
  · skip
    have hz : szR (tDef.cost v) left = -1 := by unfold szR; rw [if_pos (by omega)]
    rw [hz]
    simp only [go_sem, Nat.reduceBEq, s_laws_szDef, TDef.row, w0, n0]
  have c1 : szC (sliceT tCol) [.imm (v.fCols.map TCol.row), .int .i64 (left - (v.fName.length : Int))] = some (.int .i64 (szR ((sliceT tCol).cost v.fCols) (left - (v.fName.length : Int)))) := szC_eq (sliceT tCol) ⟨q1, by omega, by omega⟩
  by_cases n1 : szR ((sliceT tCol).cost v.fCols) (left - (v.fName.length : Int)) < 0
  · skip
    obtain ⟨e1, e1'⟩ := szR_neg n1 (by omega)
    have hz : szR (tDef.cost v) left = -1 := by unfold szR; rw [if_pos (by omega)]
    rw [hz]
    simp only [go_sem, Nat.reduceBEq, Nat.reduceAdd, Nat.reduceLeDiff, Int.reduceLT, s_laws_szDef, TDef.row, h0, w0, n0, c1, e1]
  obtain ⟨e1, n1'⟩ := szR_pos n1
  have c2 : szC (sliceT tBy) [.imm (v.fPrimary.map TBy.row), .int .i64 (left - (v.fName.length : Int) - ((sliceT tCol).cost v.fCols : Int))] = some (.int .i64 (szR ((sliceT tBy).cost v.fPrimary) (left - (v.fName.length : Int) - ((sliceT tCol).cost v.fCols : Int)))) := szC_eq (sliceT tBy) ⟨q2, by omega, by omega⟩
  by_cases n2 : szR ((sliceT tBy).cost v.fPrimary) (left - (v.fName.length : Int) - ((sliceT tCol).cost v.fCols : Int)) < 0
  · skip
    obtain ⟨e2, e2'⟩ := szR_neg n2 (by omega)
    have hz : szR (tDef.cost v) left = -1 := by unfold szR; rw [if_pos (by omega)]
    rw [hz]
    simp only [go_sem, Nat.reduceBEq, Nat.reduceAdd, Nat.reduceLeDiff, Int.reduceLT, s_laws_szDef, TDef.row, h0, h1, w0, n0, c1, e1, n1', c2, e2]
  obtain ⟨e2, n2'⟩ := szR_pos n2
  have c3 : szC (sliceT tIndex) [.imm (v.fIndexes.map TIndex.row), .int .i64 (left - (v.fName.length : Int) - ((sliceT tCol).cost v.fCols : Int) - ((sliceT tBy).cost v.fPrimary : Int))] = some (.int .i64 (szR ((sliceT tIndex).cost v.fIndexes) (left - (v.fName.length : Int) - ((sliceT tCol).cost v.fCols : Int) - ((sliceT tBy).cost v.fPrimary : Int)))) := szC_eq (sliceT tIndex) ⟨q3, by omega, by omega⟩
  by_cases n3 : szR ((sliceT tIndex).cost v.fIndexes) (left - (v.fName.length : Int) - ((sliceT tCol).cost v.fCols : Int) - ((sliceT tBy).cost v.fPrimary : Int)) < 0
  · skip
    obtain ⟨e3, e3'⟩ := szR_neg n3 (by omega)
    have hz : szR (tDef.cost v) left = -1 := by unfold szR; rw [if_pos (by omega)]
    rw [hz]
    simp only [go_sem, Nat.reduceBEq, Nat.reduceAdd, Nat.reduceLeDiff, Int.reduceLT, s_laws_szDef, TDef.row, h0, h1, h2, w0, n0, c1, e1, n1', c2, e2, n2', c3, e3]
  obtain ⟨e3, n3'⟩ := szR_pos n3
  have hz : szR (tDef.cost v) left = left - (v.fName.length : Int) - ((sliceT tCol).cost v.fCols : Int) - ((sliceT tBy).cost v.fPrimary : Int) - ((sliceT tIndex).cost v.fIndexes : Int) := by unfold szR; rw [if_neg (by omega)]; omega
  rw [hz]
  simp only [go_sem, Nat.reduceBEq, Nat.reduceAdd, Nat.reduceLeDiff, s_laws_szDef, TDef.row, h0, h1, h2, w0, n0, c1, e1, n1', c2, e2, n2', c3, e3, n3']
theorem ok_laws_szDefS {WI : World → Prop} (hs : Stable WI) (cs) (hT : TOK (EE cs) WI) (h0 : (EE cs).T 32 = some (szC tDef)) : PureOK Tryz.prog WI 12 (szC (sliceT tDef)) := szS_ok (E := EE cs) (T := tDef) hT hs h0 (st_laws_szDefS cs)
theorem ok_laws_szByteS {WI : World → Prop} (hs : Stable WI) (cs) (hT : TOK (EE cs) WI)  : PureOK Tryz.prog WI 62 (szC (sliceT u8T)) := szLen_ok (E := EE cs) hT hs (fun _ => rfl) (st_laws_szByteS cs)
theorem ok_laws_szByteSS {WI : World → Prop} (hs : Stable WI) (cs) (hT : TOK (EE cs) WI) (h0 : (EE cs).T 62 = some (szC (sliceT u8T))) : PureOK Tryz.prog WI 33 (szC (sliceT (sliceT u8T))) := szS_ok (E := EE cs) (T := (sliceT u8T)) hT hs h0 (st_laws_szByteSS cs)
theorem ok_laws_szWrite {WI : World → Prop} (hs : Stable WI) (cs) (hT : TOK (EE cs) WI) (h0 : (EE cs).T 62 = some (szC (sliceT u8T))) : PureOK Tryz.prog WI 63 (szC tWrite) := by
  refine pure2 (E := EE cs) hT hs (by rw [st_laws_szWrite]; rfl) fun v left ⟨hfits, hlo, hhi⟩ => out_K (n := 0) (st_laws_szWrite cs) ?_
  have q0 : (sliceT u8T).fits v.fB := hfits
  have hcost : tWrite.cost v = (sliceT u8T).cost v.fB := rfl
  have c0 : szC (sliceT u8T) [.imm (v.fB.map u8T.row), .int .i64 (left)] = some (.int .i64 (szR ((sliceT u8T).cost v.fB) (left))) := szC_eq (sliceT u8T) ⟨q0, by omega, by omega⟩
  by_cases n0 : szR ((sliceT u8T).cost v.fB) (left) < 0
  · skip
    obtain ⟨e0, e0'⟩ := szR_neg n0 (by omega)
    have hz : szR (tWrite.cost v) left = -1 := by unfold szR; rw [if_pos (by omega)]
    rw [hz]
    simp only [go_sem, Nat.reduceBEq, Nat.reduceAdd, Nat.reduceLeDiff, Int.reduceLT, s_laws_szWrite, TWrite.row, h0, c0, e0]
  obtain ⟨e0, n0'⟩ := szR_pos n0
  have hz : szR (tWrite.cost v) left = left - ((sliceT u8T).cost v.fB : Int) := by unfold szR; rw [if_neg (by omega)]; omega
  rw [hz]
  simp only [go_sem, Nat.reduceBEq, Nat.reduceAdd, Nat.reduceLeDiff, s_laws_szWrite, TWrite.row, h0, c0, e0, n0']
theorem ok_laws_szWriteS {WI : World → Prop} (hs : Stable WI) (cs) (hT : TOK (EE cs) WI) (h0 : (EE cs).T 63 = some (szC tWrite)) : PureOK Tryz.prog WI 34 (szC (sliceT tWrite)) := szS_ok (E := EE cs) (T := tWrite) hT hs h0 (st_laws_szWriteS cs)
theorem ok_laws_szFaultS {WI : World → Prop} (hs : Stable WI) (cs) (hT : TOK (EE cs) WI)  : PureOK Tryz.prog WI 35 (szC (sliceT tFault)) := szLen_ok (E := EE cs) hT hs (fun _ => rfl) (st_laws_szFaultS cs)
theorem ok_laws_szDisk {WI : World → Prop} (hs : Stable WI) (cs) (hT : TOK (EE cs) WI) (h0 : (EE cs).T 33 = some (szC (sliceT (sliceT u8T)))) (h1 : (EE cs).T 34 = some (szC (sliceT tWrite))) (h2 : (EE cs).T 35 = some (szC (sliceT tFault))) : PureOK Tryz.prog WI 13 (szC tDisk) := by
  refine pure2 (E := EE cs) hT hs (by rw [st_laws_szDisk]; rfl) fun v left ⟨hfits, hlo, hhi⟩ => out_K (n := 0) (st_laws_szDisk cs) ?_
  obtain ⟨q0, q1, q2⟩ := hfits
  have hcost : tDisk.cost v = (sliceT (sliceT u8T)).cost v.fSecs + (sliceT tWrite).cost v.fCache + (sliceT tFault).cost v.fFaults := rfl
  have c0 : szC (sliceT (sliceT u8T)) [.imm (v.fSecs.map (sliceT u8T).row), .int .i64 (left)] = some (.int .i64 (szR ((sliceT (sliceT u8T)).cost v.fSecs) (left))) := szC_eq (sliceT (sliceT u8T)) ⟨q0, by omega, by omega⟩
  by_cases n0 : szR ((sliceT (sliceT u8T)).cost v.fSecs) (left) < 0
  · skip
    obtain ⟨e0, e0'⟩ := szR_neg n0 (by omega)
    have hz : szR (tDisk.cost v) left = -1 := by unfold szR; rw [if_pos (by omega)]
    rw [hz]
    simp only [go_sem, Nat.reduceBEq, Int.reduceLT, s_laws_szDisk, TDisk.row, h0, c0, e0]
  obtain ⟨e0, n0'⟩ := szR_pos n0
  have c1 : szC (sliceT tWrite) [.imm (v.fCache.map TWrite.row), .int .i64 (left - ((sliceT (sliceT u8T)).cost v.fSecs : Int))] = some (.int .i64 (szR ((sliceT tWrite).cost v.fCache) (left - ((sliceT (sliceT u8T)).cost v.fSecs : Int)))) := szC_eq (sliceT tWrite) ⟨q1, by omega, by omega⟩
  by_cases n1 : szR ((sliceT tWrite).cost v.fCache) (left - ((sliceT (sliceT u8T)).cost v.fSecs : Int)) < 0
  · skip
    obtain ⟨e1, e1'⟩ := szR_neg n1 (by omega)
    have hz : szR (tDisk.cost v) left = -1 := by unfold szR; rw [if_pos (by omega)]
    rw [hz]
    simp only [go_sem, Nat.reduceBEq, Nat.reduceAdd, Nat.reduceLeDiff, Int.reduceLT, s_laws_szDisk, TDisk.row, h0, h1, c0, e0, n0', c1, e1]
  obtain ⟨e1, n1'⟩ := szR_pos n1
  have c2 : szC (sliceT tFault) [.imm (v.fFaults.map TFault.row), .int .i64 (left - ((sliceT (sliceT u8T)).cost v.fSecs : Int) - ((sliceT tWrite).cost v.fCache : Int))] = some (.int .i64 (szR ((sliceT tFault).cost v.fFaults) (left - ((sliceT (sliceT u8T)).cost v.fSecs : Int) - ((sliceT tWrite).cost v.fCache : Int)))) := szC_eq (sliceT tFault) ⟨q2, by omega, by omega⟩
  by_cases n2 : szR ((sliceT tFault).cost v.fFaults) (left - ((sliceT (sliceT u8T)).cost v.fSecs : Int) - ((sliceT tWrite).cost v.fCache : Int)) < 0
  · skip
    obtain ⟨e2, e2'⟩ := szR_neg n2 (by omega)
    have hz : szR (tDisk.cost v) left = -1 := by unfold szR; rw [if_pos (by omega)]
    rw [hz]
    simp only [go_sem, Nat.reduceBEq, Nat.reduceAdd, Nat.reduceLeDiff, Int.reduceLT, s_laws_szDisk, TDisk.row, h0, h1, h2, c0, e0, n0', c1, e1, n1', c2, e2]
  obtain ⟨e2, n2'⟩ := szR_pos n2
  have hz : szR (tDisk.cost v) left = left - ((sliceT (sliceT u8T)).cost v.fSecs : Int) - ((sliceT tWrite).cost v.fCache : Int) - ((sliceT tFault).cost v.fFaults : Int) := by unfold szR; rw [if_neg (by omega)]; omega
  rw [hz]
  simp only [go_sem, Nat.reduceBEq, Nat.reduceAdd, Nat.reduceLeDiff, s_laws_szDisk, TDisk.row, h0, h1, h2, c0, e0, n0', c1, e1, n1', c2, e2, n2']
theorem ok_laws_szEng {WI : World → Prop} (hs : Stable WI) (cs) (hT : TOK (EE cs) WI) (h0 : (EE cs).T 12 = some (szC (sliceT tDef))) (h1 : (EE cs).T 13 = some (szC tDisk)) : PureOK Tryz.prog WI 5 (szC tEng) := by
  refine pure2 (E := EE cs) hT hs (by rw [st_laws_szEng]; rfl) fun v left ⟨hfits, hlo, hhi⟩ => out_K (n := 0) (st_laws_szEng cs) ?_
  obtain ⟨q0, q1⟩ := hfits
  have hcost : tEng.cost v = (sliceT tDef).cost v.fS + tDisk.cost v.fD := rfl
  have c0 : szC (sliceT tDef) [.imm (v.fS.map TDef.row), .int .i64 (left)] = some (.int .i64 (szR ((sliceT tDef).cost v.fS) (left))) := szC_eq (sliceT tDef) ⟨q0, by omega, by omega⟩
  by_cases n0 : szR ((sliceT tDef).cost v.fS) (left) < 0
  · skip
    obtain ⟨e0, e0'⟩ := szR_neg n0 (by omega)
    have hz : szR (tEng.cost v) left = -1 := by unfold szR; rw [if_pos (by omega)]
    rw [hz]
    simp only [go_sem, Nat.reduceBEq, Int.reduceLT, s_laws_szEng, TEng.row, h0, c0, e0]
  obtain ⟨e0, n0'⟩ := szR_pos n0
  have c1 : szC tDisk [.agg [.imm (v.fD.fSecs.map (sliceT u8T).row), .imm (v.fD.fCache.map TWrite.row), .int .i64 v.fD.fOps, .imm (v.fD.fFaults.map TFault.row), .bool v.fD.fDown], .int .i64 (left - ((sliceT tDef).cost v.fS : Int))] = some (.int .i64 (szR (tDisk.cost v.fD) (left - ((sliceT tDef).cost v.fS : Int)))) := szC_eq tDisk ⟨q1, by omega, by omega⟩
  by_cases n1 : szR (tDisk.cost v.fD) (left - ((sliceT tDef).cost v.fS : Int)) < 0
  · skip
    obtain ⟨e1, e1'⟩ := szR_neg n1 (by omega)
    have hz : szR (tEng.cost v) left = -1 := by unfold szR; rw [if_pos (by omega)]
    rw [hz]
    simp only [go_sem, Nat.reduceBEq, Nat.reduceAdd, Nat.reduceLeDiff, Int.reduceLT, s_laws_szEng, TEng.row, h0, h1, c0, e0, n0', c1, e1]
  obtain ⟨e1, n1'⟩ := szR_pos n1
  have hz : szR (tEng.cost v) left = left - ((sliceT tDef).cost v.fS : Int) - (tDisk.cost v.fD : Int) := by unfold szR; rw [if_neg (by omega)]; omega
  rw [hz]
  simp only [go_sem, Nat.reduceBEq, Nat.reduceAdd, Nat.reduceLeDiff, s_laws_szEng, TEng.row, h0, h1, c0, e0, n0', c1, e1, n1']
theorem ok_laws_toCol {WI : World → Prop} (hs : Stable WI) (cs) (hT : TOK (EE cs) WI)  : PureOK Tryz.prog WI 105 (toC tCol) := by
  refine pure1 (E := EE cs) hT hs (by rw [st_laws_toCol]; rfl) fun v hc => out_K (n := 0) (st_laws_toCol cs) ?_
  have hcost : tCol.cost v = v.fName.length := rfl
  simp only [go_sem, kSt_ptr, Nat.reduceBEq, Nat.reduceAdd, Nat.reduceEqDiff, Nat.reduceLeDiff, s_laws_toCol, TCol.row, id_eq]
theorem ok_laws_toColS {WI : World → Prop} (hs : Stable WI) (cs) (hT : TOK (EE cs) WI) (h0 : (EE cs).T 105 = some (toC tCol)) : PureOK Tryz.prog WI 71 (toC (sliceT tCol)) := toS_ok (E := EE cs) (T := tCol) (bt := 32) (z := [.str [], .int .i64 0, .bool false]) hT hs h0 rfl (by decide) (st_laws_toColS cs)
theorem ok_laws_toBy {WI : World → Prop} (hs : Stable WI) (cs) (hT : TOK (EE cs) WI)  : PureOK Tryz.prog WI 106 (toC tBy) := by
  refine pure1 (E := EE cs) hT hs (by rw [st_laws_toBy]; rfl) fun v hc => out_K (n := 0) (st_laws_toBy cs) ?_
  have hcost : tBy.cost v = 0 := rfl
  simp only [go_sem, kSt_ptr, Nat.reduceBEq, Nat.reduceAdd, Nat.reduceEqDiff, Nat.reduceLeDiff, s_laws_toBy, TBy.row, id_eq]
end Go.Proofs.YtmfkjlnhanomfaaGreat.Nl
/- What the functions that FnExactNoLeak calls answer: part 2. -/
namespace Go.Proofs.YtmfkjlnhanomfaaGreat.Nl
open Go Go.RowKit Go.Ev
set_option linter.unusedSimpArgs false
set_option linter.unusedVariables false
set_option maxHeartbeats 1600000
theorem ok_laws_toByS {WI : World → Prop} (hs : Stable WI) (cs) (hT : TOK (EE cs) WI) (h0 : (EE cs).T 106 = some (toC tBy)) : PureOK Tryz.prog WI 72 (toC (sliceT tBy)) := toS_ok (E := EE cs) (T := tBy) (bt := 16) (z := [.int .i64 0, .bool false]) hT hs h0 rfl (by decide) (st_laws_toByS cs)
theorem ok_laws_toIndex {WI : World → Prop} (hs : Stable WI) (cs) (hT : TOK (EE cs) WI) (h0 : (EE cs).T 72 = some (toC (sliceT tBy))) : PureOK Tryz.prog WI 107 (toC tIndex) := by
  refine pure1 (E := EE cs) hT hs (by rw [st_laws_toIndex]; rfl) fun v hc => out_K (n := 0) (st_laws_toIndex cs) ?_
  have hcost : tIndex.cost v = v.fName.length + (sliceT tBy).cost v.fParts := rfl
  have c2 : toC (sliceT tBy) [.imm (v.fParts.map TBy.row)] = some (.imm (v.fParts.map TBy.row)) := toC_eq (sliceT tBy) (by omega)
  simp only [go_sem, kSt_ptr, Nat.reduceBEq, Nat.reduceAdd, Nat.reduceEqDiff, Nat.reduceLeDiff, s_laws_toIndex, TIndex.row, h0, c2, id_eq]
theorem ok_laws_toIndexS {WI : World → Prop} (hs : Stable WI) (cs) (hT : TOK (EE cs) WI) (h0 : (EE cs).T 107 = some (toC tIndex)) : PureOK Tryz.prog WI 73 (toC (sliceT tIndex)) := toS_ok (E := EE cs) (T := tIndex) (bt := 48) (z := [.str [], .bool false, .snil]) hT hs h0 rfl (by decide) (st_laws_toIndexS cs)
theorem ok_laws_toDef {WI : World → Prop} (hs : Stable WI) (cs) (hT : TOK (EE cs) WI) (h0 : (EE cs).T 71 = some (toC (sliceT tCol))) (h1 : (EE cs).T 72 = some (toC (sliceT tBy))) (h2 : (EE cs).T 73 = some (toC (sliceT tIndex))) : PureOK Tryz.prog WI 42 (toC tDef) := by
  refine pure1 (E := EE cs) hT hs (by rw [st_laws_toDef]; rfl) fun v hc => out_K (n := 0) (st_laws_toDef cs) ?_
  have hcost : tDef.cost v = v.fName.length + (sliceT tCol).cost v.fCols + (sliceT tBy).cost v.fPrimary + (sliceT tIndex).cost v.fIndexes := rfl
  have c1 : toC (sliceT tCol) [.imm (v.fCols.map TCol.row)] = some (.imm (v.fCols.map TCol.row)) := toC_eq (sliceT tCol) (by omega)
  have c2 : toC (sliceT tBy) [.imm (v.fPrimary.map TBy.row)] = some (.imm (v.fPrimary.map TBy.row)) := toC_eq (sliceT tBy) (by omega)
  have c3 : toC (sliceT tIndex) [.imm (v.fIndexes.map TIndex.row)] = some (.imm (v.fIndexes.map TIndex.row)) := toC_eq (sliceT tIndex) (by omega)
  simp only [go_sem, kSt_ptr, Nat.reduceBEq, Nat.reduceAdd, Nat.reduceEqDiff, Nat.reduceLeDiff, s_laws_toDef, TDef.row, h0, h1, h2, c1, c2, c3, id_eq]
theorem ok_laws_toDefS {WI : World → Prop} (hs : Stable WI) (cs) (hT : TOK (EE cs) WI) (h0 : (EE cs).T 42 = some (toC tDef)) : PureOK Tryz.prog WI 19 (toC (sliceT tDef)) := toS_ok (E := EE cs) (T := tDef) (bt := 88) (z := [.str [], .snil, .snil, .snil]) hT hs h0 rfl (by decide) (st_laws_toDefS cs)
theorem ok_laws_toByteS {WI : World → Prop} (hs : Stable WI) (cs) (hT : TOK (EE cs) WI)  : PureOK Tryz.prog WI 74 (toC (sliceT u8T)) := cpS_ok (E := EE cs) (T := u8T) (bt := 1) (z := [.int .u8 0]) hT hs rfl rfl (by decide) (st_laws_toByteS cs)
theorem ok_laws_toByteSS {WI : World → Prop} (hs : Stable WI) (cs) (hT : TOK (EE cs) WI) (h0 : (EE cs).T 74 = some (toC (sliceT u8T))) : PureOK Tryz.prog WI 43 (toC (sliceT (sliceT u8T))) := toS_ok (E := EE cs) (T := (sliceT u8T)) (bt := 24) (z := [.snil]) hT hs h0 rfl (by decide) (st_laws_toByteSS cs)
theorem ok_laws_toWrite {WI : World → Prop} (hs : Stable WI) (cs) (hT : TOK (EE cs) WI) (h0 : (EE cs).T 74 = some (toC (sliceT u8T))) : PureOK Tryz.prog WI 75 (toC tWrite) := by
  refine pure1 (E := EE cs) hT hs (by rw [st_laws_toWrite]; rfl) fun v hc => out_K (n := 0) (st_laws_toWrite cs) ?_
  have hcost : tWrite.cost v = (sliceT u8T).cost v.fB := rfl
  have c1 : toC (sliceT u8T) [.imm (v.fB.map u8T.row)] = some (.imm (v.fB.map u8T.row)) := toC_eq (sliceT u8T) (by omega)
  simp only [go_sem, kSt_ptr, Nat.reduceBEq, Nat.reduceAdd, Nat.reduceEqDiff, Nat.reduceLeDiff, s_laws_toWrite, TWrite.row, h0, c1, id_eq]
theorem ok_laws_toWriteS {WI : World → Prop} (hs : Stable WI) (cs) (hT : TOK (EE cs) WI) (h0 : (EE cs).T 75 = some (toC tWrite)) : PureOK Tryz.prog WI 44 (toC (sliceT tWrite)) := toS_ok (E := EE cs) (T := tWrite) (bt := 32) (z := [.int .i64 0, .snil]) hT hs h0 rfl (by decide) (st_laws_toWriteS cs)
theorem ok_laws_toFault {WI : World → Prop} (hs : Stable WI) (cs) (hT : TOK (EE cs) WI)  : PureOK Tryz.prog WI 76 (toC tFault) := by
  refine pure1 (E := EE cs) hT hs (by rw [st_laws_toFault]; rfl) fun v hc => out_K (n := 0) (st_laws_toFault cs) ?_
  have hcost : tFault.cost v = 0 := rfl
  simp only [go_sem, kSt_ptr, Nat.reduceBEq, Nat.reduceAdd, Nat.reduceEqDiff, Nat.reduceLeDiff, s_laws_toFault, TFault.row, id_eq]
theorem ok_laws_toFaultS {WI : World → Prop} (hs : Stable WI) (cs) (hT : TOK (EE cs) WI) (h0 : (EE cs).T 76 = some (toC tFault)) : PureOK Tryz.prog WI 45 (toC (sliceT tFault)) := toS_ok (E := EE cs) (T := tFault) (bt := 24) (z := [.int .i64 0, .int .i64 0, .int .i64 0]) hT hs h0 rfl (by decide) (st_laws_toFaultS cs)
theorem ok_laws_toDisk {WI : World → Prop} (hs : Stable WI) (cs) (hT : TOK (EE cs) WI) (h0 : (EE cs).T 43 = some (toC (sliceT (sliceT u8T)))) (h1 : (EE cs).T 44 = some (toC (sliceT tWrite))) (h2 : (EE cs).T 45 = some (toC (sliceT tFault))) : PureOK Tryz.prog WI 20 (toC tDisk) := by
  refine pure1 (E := EE cs) hT hs (by rw [st_laws_toDisk]; rfl) fun v hc => out_K (n := 0) (st_laws_toDisk cs) ?_
  have hcost : tDisk.cost v = (sliceT (sliceT u8T)).cost v.fSecs + (sliceT tWrite).cost v.fCache + (sliceT tFault).cost v.fFaults := rfl
  have c0 : toC (sliceT (sliceT u8T)) [.imm (v.fSecs.map (sliceT u8T).row)] = some (.imm (v.fSecs.map (sliceT u8T).row)) := toC_eq (sliceT (sliceT u8T)) (by omega)
  have c1 : toC (sliceT tWrite) [.imm (v.fCache.map TWrite.row)] = some (.imm (v.fCache.map TWrite.row)) := toC_eq (sliceT tWrite) (by omega)
  have c3 : toC (sliceT tFault) [.imm (v.fFaults.map TFault.row)] = some (.imm (v.fFaults.map TFault.row)) := toC_eq (sliceT tFault) (by omega)
  simp only [go_sem, kSt_ptr, Nat.reduceBEq, Nat.reduceAdd, Nat.reduceEqDiff, Nat.reduceLeDiff, s_laws_toDisk, TDisk.row, h0, h1, h2, c0, c1, c3, id_eq]
theorem ok_laws_toEng {WI : World → Prop} (hs : Stable WI) (cs) (hT : TOK (EE cs) WI) (h0 : (EE cs).T 19 = some (toC (sliceT tDef))) (h1 : (EE cs).T 20 = some (toC tDisk)) : PureOK Tryz.prog WI 7 (toC tEng) := by
  refine pure1 (E := EE cs) hT hs (by rw [st_laws_toEng]; rfl) fun v hc => out_K (n := 0) (st_laws_toEng cs) ?_
  have hcost : tEng.cost v = (sliceT tDef).cost v.fS + tDisk.cost v.fD := rfl
  have c0 : toC (sliceT tDef) [.imm (v.fS.map TDef.row)] = some (.imm (v.fS.map TDef.row)) := toC_eq (sliceT tDef) (by omega)
  have c1 : toC tDisk [.agg [.imm (v.fD.fSecs.map (sliceT u8T).row), .imm (v.fD.fCache.map TWrite.row), .int .i64 v.fD.fOps, .imm (v.fD.fFaults.map TFault.row), .bool v.fD.fDown]] = some (.agg [.imm (v.fD.fSecs.map (sliceT u8T).row), .imm (v.fD.fCache.map TWrite.row), .int .i64 v.fD.fOps, .imm (v.fD.fFaults.map TFault.row), .bool v.fD.fDown]) := toC_eq tDisk (by omega)
  simp only [go_sem, kSt_ptr, Nat.reduceBEq, Nat.reduceAdd, Nat.reduceEqDiff, Nat.reduceLeDiff, s_laws_toEng, TEng.row, h0, h1, c0, c1, id_eq]
def blank : List UInt8 → Bool
  | [] => false
  | b :: r => if (b.toNat : Int) = 32 then true else blank r
theorem idx_cons (b : UInt8) (l : List UInt8) (c : UInt8) : (0 ≤ Lib.indexByte (b :: l) c) ↔ (b = c ∨ 0 ≤ Lib.indexByte l c) := by
  have h3 := Lib.indexByte_ge l c
  rw [Lib.indexByte]
  by_cases hb : b = c
  · subst hb
    simp
  · have h1 : (b == c) = false := by simpa using hb
    rw [h1]
    by_cases h4 : Lib.indexByte l c = -1
    · simp [h4, hb]
    · have h5 : (Lib.indexByte l c == -1) = false := by simpa using h4
      simp only [h5, Bool.false_eq_true, if_false, hb, false_or]
      omega
theorem blank_cons (b : UInt8) (l : List UInt8) : blank (b :: l) = true ↔ (b = 32 ∨ blank l = true) := by
  rw [blank]
  by_cases hb : b = 32
  · subst hb
    simp
  · have h2 : ¬ (b.toNat : Int) = 32 := fun e => hb (UInt8.toNat_inj.1 (by show b.toNat = 32; omega))
    rw [if_neg h2]
    simp [hb]
theorem has32_iff : ∀ s : List UInt8, 0 ≤ Lib.indexByte s 32 ↔ blank s = true
  | [] => by simp [Lib.indexByte, blank]
  | b :: l => by rw [idx_cons, blank_cons, has32_iff l]
theorem has32 (s : List UInt8) : decide (0 ≤ Lib.indexByte s 32) = blank s := by
  have := has32_iff s
  cases hb : blank s
  · exact decide_eq_false fun h => by rw [this.1 h] at hb; cases hb
  · exact decide_eq_true (this.2 hb)
def hasI (l : List Int) (n : Int) : Bool := !(l.all fun x => !(x == n))
theorem hasI_iff (l : List Int) (n : Int) : hasI l n = true ↔ n ∈ l := by
  unfold hasI
  rw [Bool.not_eq_true', ← Bool.not_eq_true, List.all_eq_true]
  constructor
  · intro h
    by_cases hm : n ∈ l
    · exact hm
    · exact absurd (fun x hx => by have : x ≠ n := fun e => hm (e ▸ hx); simpa using this) h
  · intro h hc
    have := hc n h
    simp at this
/-- In at its place, from the end on. -/
def insB (n : Int) : List Int → List Int → List Int
  | [], s => n :: s
  | a :: r, s => if n < a then insB n r (a :: s) else (a :: r).reverse ++ n :: s
def putI (l : List Int) (n : Int) : List Int := if hasI l n = true then l else insB n l.reverse []
noncomputable def C_spec_l16Has := c2 (sliceT intT) intT (fun (l : List (Int)) (n : Int) => l.length ≤ 1048576) (.bool) fun (l : List (Int)) (n : Int) => hasI l n
theorem C_spec_l16Has_eq (l : List (Int)) (n : Int) (h : l.length ≤ 1048576) : C_spec_l16Has [.imm (l.map intT.row), .int .i64 n] = some (.bool ((hasI l n))) := c2_eq (sliceT intT) intT h
theorem ok_spec_l16Has {WI : World → Prop} (hs : Stable WI) (cs) (hT : TOK (EE cs) WI) : PureOK Tryz.prog WI 29 C_spec_l16Has := by
  refine pure2 (E := EE cs) hT hs (by rw [st_spec_l16Has]; rfl) fun l n hp => out_wp (n := 0) (st_spec_l16Has cs) ?_
  have hlen : l.length ≤ 1048576 := hp
  simp only [go_sem, s_spec_l16Has]
  refine (wl_all (l := l) (fun pre v => !(v == n)) (fun pre e h => e 1 = .int .i64 n ∧ e 0 = .imm (l.map intT.row) ∧ e 5 = .int .i64 pre.length) (.exit 0) (fun e h => e 1 = .int .i64 n ∧ e 0 = .imm (l.map intT.row)) (fun e h => e 4 = .bool true) (by omega) ?_ ?_ ?_ (by simp) l [] _ _ rfl ?_).mono ?_
  · rintro pre v rest e h a hp ⟨q0, q1, ix⟩
    have hq : (v == n) = false := by simpa using hp
    simp only [go_sem, Nat.reduceBEq, s_spec_l16Has_L0, q0, q1, ix, a.dl, a.ia (row := intT.row) (sz := 1) rfl, a.hw, intT_row, hq]
  · rintro pre v rest e h a hp ⟨q0, q1, ix⟩
    have hq : (v == n) = true := by simpa using hp
    simp only [go_sem, Nat.reduceBEq, s_spec_l16Has_L0, q0, q1, ix, a.dl, a.ia (row := intT.row) (sz := 1) rfl, a.hw, intT_row, hq]
  · rintro e h ⟨q0, q1, ix⟩
    simp only [go_sem, Nat.reduceBEq, s_spec_l16Has_L0, q0, q1, ix]
  · simp only [go_sem, Nat.reduceBEq]
  · rintro x e h (⟨hpp, rfl, _⟩ | ⟨hpp, rfl, j⟩)
    · rw [allP_all] at hpp
      simp only [go_sem, hasI, hpp]
    · rw [allP_all] at hpp
      simp only [go_sem, j, hasI, hpp]
def inR (x a b : Int) : Bool := decide (a ≤ x) && decide (x ≤ b)
theorem inR_lt {t n : Int} (h : inR t 0 (n - 1) = true) : 0 ≤ t ∧ t < n := by
  unfold inR at h
  simp at h
  omega
theorem inR_nat {t : Int} {n : Nat} (h : inR t 0 ((n : Int) - 1) = true) : 0 ≤ t ∧ t.toNat < n := by
  have := inR_lt h
  omega
theorem ev_spec_l1In (cs) (x a b : Int) : ∃ k n, out (EE cs) k n 98 [.int .i64 x, .int .i64 a, .int .i64 b] = some (.bool (inR x a b)) := by
  refine out_K (n := 0) (st_spec_l1In cs) ?_
  by_cases h1 : a ≤ x
  · simp only [go_sem, Nat.reduceBEq, s_spec_l1In, h1, inR]
  · simp only [go_sem, Nat.reduceBEq, s_spec_l1In, h1, inR]
noncomputable def C_spec_l1In := ct (fun a : Int × Int × Int => [.int .i64 a.1, .int .i64 a.2.1, .int .i64 a.2.2]) (fun _ => True) .bool fun a => inR a.1 a.2.1 a.2.2
theorem C_spec_l1In_eq (x a b : Int) : C_spec_l1In [.int .i64 x, .int .i64 a, .int .i64 b] = some (.bool (inR x a b)) := by
  unfold C_spec_l1In
  exact ct_eq (a := (x, a, b)) (fun a b h => by
    simp only [List.cons.injEq, AV.int.injEq, and_true, true_and] at h
    exact Prod.ext h.1 (Prod.ext h.2.1 h.2.2)) trivial
theorem ok_spec_l1In {WI} (hs : Stable WI) (cs) (hT : TOK (EE cs) WI) : PureOK Tryz.prog WI 98 C_spec_l1In :=
  pure_out hT hs (by rw [st_spec_l1In]; rfl) fun a _ => ev_spec_l1In cs a.1 a.2.1 a.2.2
def putPage (k : Int) (body : List UInt8) : List UInt8 := if inR k 1 2 = true ∧ body.length ≤ 240 then withSum (uenc (clampN k) ++ utext body) else []
def pageOf (x : List UInt8) (u : Int × Int × Bool) (s : List UInt8 × Int × Bool) : Int × List UInt8 × Bool := if u.2.2 = true ∧ s.2.2 = true ∧ s.2.1 = x.length ∧ inR u.1 1 2 = true ∧ s.1.length ≤ 240 then (u.1, s.1, true) else (0, [], false)
def getPage (b : List UInt8) : Int × List UInt8 × Bool := if (getSum b).2 = true then pageOf (getSum b).1 (getU (getSum b).1 0) (getText (getSum b).1 (getU (getSum b).1 0).2.1) else (0, [], false)
def lastK (l : List TWrite) (n : Int) : Nat → Option (List UInt8)
  | 0 => none
  | k + 1 => match l[k]? with
    | some w => if w.fN = n then some w.fB else lastK l n k
    | none => lastK l n k
def readSec (d : TDisk) (n : Int) : List UInt8 × Bool := if inR n 0 ((d.fSecs.length : Int) - 1) then ((lastK d.fCache n d.fCache.length).getD (d.fSecs[n.toNat]?.getD []), true) else ([], false)
def pageAt (d : TDisk) (n k : Int) : List UInt8 × Bool := if (readSec d n).2 = true ∧ (getPage (readSec d n).1).2.2 = true ∧ (getPage (readSec d n).1).1 = k then ((getPage (readSec d n).1).2.1, true) else ([], false)
theorem getSum_inv {b x : List UInt8} (h : getSum b = (x, true)) : withSum x = b ∧ x.length + 4 = b.length := by
  unfold getSum at h
  split at h
  · cases h
  · rename_i h4
    split at h
    · rename_i h5
      simp only [Prod.mk.injEq, and_true] at h
      subst h
      exact ⟨h5, by rw [List.length_take]; omega⟩
    · cases h
theorem withSum_len (b : List UInt8) : (withSum b).length = b.length + 4 := by unfold withSum; rw [List.length_append]; rfl
theorem withSum_inj {a b : List UInt8} (h : withSum a = withSum b) : a = b := by
  have hl := congrArg List.length h
  rw [withSum_len, withSum_len] at hl
  exact (List.append_inj h (by omega)).1
theorem getU_inv {b : List UInt8} {i n j : Int} (h : getU b i = (n, j, true)) : ∃ (m : Nat) (r : List UInt8), 0 ≤ i ∧ n = m ∧ m ≤ 1000000 ∧ b.drop i.toNat = uenc m ++ r ∧ j = (b.length : Int) - r.length ∧ r.length < b.length ∧ b.drop j.toNat = r := by
  unfold getU at h
  split at h
  · cases h
  · rename_i h0
    split at h
    · cases h
    · rename_i m r hr
      simp only [Prod.mk.injEq, and_true] at h
      obtain ⟨rfl, rfl⟩ := h
      obtain ⟨h1, h2⟩ := uget_inv hr
      have hl := (uread_len _ _ _ _ hr).1
      have hd : (b.drop i.toNat).length ≤ b.length := by rw [List.length_drop]; omega
      refine ⟨m, r, by omega, rfl, h2, h1, rfl, by omega, ?_⟩
      have e : b = b.take i.toNat ++ (uenc m ++ r) := by rw [← h1, List.take_append_drop]
      have hle : b.length = (b.take i.toNat ++ uenc m).length + r.length := by rw [← List.length_append, List.append_assoc, ← e]
      rw [show ((b.length : Int) - r.length).toNat = (b.take i.toNat ++ uenc m).length by omega]
      generalize b.take i.toNat = p at e hle ⊢
      rw [e, ← List.append_assoc]
      exact List.drop_left' rfl
theorem getU_enc {b p r : List UInt8} {m : Nat} (hm : m ≤ 1000000) (h : b = p ++ (uenc m ++ r)) : getU b p.length = ((m : Int), (b.length : Int) - r.length, true) := by
  have hd : b.drop ((p.length : Int)).toNat = uenc m ++ r := by rw [h]; exact List.drop_left' (by simp)
  exact getU_some (by omega) (by rw [hd]; exact uget_enc m hm r)
theorem clampN_of {n : Nat} (h : n ≤ 1000000) : clampN n = n := by unfold clampN; split; omega; split <;> omega
theorem page_iff {b x s : List UInt8} {k j nx : Int} (h1 : getSum b = (x, true)) (h2 : getU x 0 = (k, j, true)) (h3 : getText x j = (s, nx, true)) : (¬ k < 1 ∧ putPage k s = b) ↔ (nx = x.length ∧ inR k 1 2 = true ∧ s.length ≤ 240) := by
  obtain ⟨w1, w2⟩ := getSum_inv h1
  obtain ⟨m, r, _, rfl, hm, hx, rfl, hr, hj⟩ := getU_inv h2
  simp only [Int.toNat_zero, List.drop_zero] at hx
  obtain ⟨n2, j2, ok2, hu2, hs2⟩ : ∃ n2 j2 ok2, getU x ((x.length : Int) - r.length) = (n2, j2, ok2) ∧ ok2 = true ∧ ¬ (x.length : Int) - j2 < n2 ∧ s = (x.drop j2.toNat).take n2.toNat ∧ nx = j2 + n2 := by
    unfold getText at h3
    rcases hq : getU x ((x.length : Int) - r.length) with ⟨n2, j2, ok2⟩
    rw [hq] at h3
    simp only at h3
    split at h3
    · cases h3
    · rename_i hc
      simp only [Prod.mk.injEq, and_true] at h3
      cases ok2 with
      | false => exact absurd (Or.inl rfl) hc
      | true => exact ⟨n2, j2, true, rfl, rfl, fun h => hc (.inr h), h3.1.symm, h3.2.symm⟩
  obtain ⟨rfl, hs2, rfl, rfl⟩ := hs2
  obtain ⟨m2, r2, _, rfl, hm2, hx2, rfl, hr2, hj2⟩ := getU_inv hu2
  rw [hj] at hx2
  rw [hj2]
  have hm2r : m2 ≤ r2.length := by omega
  have hsl : (r2.take ((m2 : Int)).toNat).length = m2 := by rw [List.length_take]; omega
  constructor
  · rintro ⟨hk, hp⟩
    unfold putPage at hp
    split at hp
    · rename_i hc
      rw [← w1] at hp
      have := withSum_inj hp
      rw [clampN_of hm] at this
      rw [hx, hx2] at this
      have h5 := List.append_cancel_left this
      unfold utext at h5
      rw [hsl, clampN_of hm2] at h5
      have h6 := List.append_cancel_left h5
      have h7 := congrArg List.length h6
      rw [hsl] at h7
      exact ⟨by omega, hc.1, hc.2⟩
    · rw [← w1] at hp
      have := congrArg List.length hp
      rw [withSum_len] at this
      simp at this
  · rintro ⟨hn, hk, hl⟩
    have hr2 : r2.length = m2 := by omega
    have ht : r2.take ((m2 : Int)).toNat = r2 := List.take_of_length_le (by omega)
    rw [ht] at hl ⊢
    refine ⟨by unfold inR at hk; simp at hk; omega, ?_⟩
    unfold putPage utext
    rw [if_pos ⟨hk, hl⟩, clampN_of hm, hr2, clampN_of hm2, ← hx2, ← hx]
    exact w1
theorem getSum_len {b x : List UInt8} {ok : Bool} (hl : b.length ≤ 1048576) (h : getSum b = (x, ok)) : x.length ≤ 1048576 := by
  unfold getSum at h
  split at h
  · injection h with h; subst h; simp
  · split at h
    · injection h with h; subst h; rw [List.length_take]; omega
    · injection h with h; subst h; simp
theorem getText_len {b s : List UInt8} {i j : Int} {ok : Bool} (hl : b.length ≤ 1048576) (h : getText b i = (s, j, ok)) : s.length ≤ 1048576 := by
  unfold getText at h
  rcases getU b i with ⟨n, q, o⟩
  simp only at h
  split at h
  · injection h with h; subst h; simp
  · injection h with h; subst h; rw [List.length_take, List.length_drop]; omega
theorem OwS.owE0 {α : Type} (T : TD α) {h : Hp} : OwE h .snil (.imm (([] : List α).map T.row)) := (OwS.nil 0 T (lo := 0) (hi := 0) (Nat.le_refl _) (Nat.zero_le _)).owI.owE (by decide)
theorem asR_imm (r : List (List AV)) : asRows (.imm r) = some r := rfl
end Go.Proofs.YtmfkjlnhanomfaaGreat.Nl
/- What the functions that FnExactNoLeak calls answer: part 3. -/
namespace Go.Proofs.YtmfkjlnhanomfaaGreat.Nl
open Go Go.RowKit Go.Ev
set_option linter.unusedSimpArgs false
set_option linter.unusedVariables false
set_option maxHeartbeats 1600000
theorem diskCost (d : TDisk) (h : tDisk.cost d ≤ 1048576) : d.fSecs.length ≤ 1048576 ∧ d.fCache.length ≤ 1048576 ∧ d.fFaults.length ≤ 1048576 ∧ (∀ b ∈ d.fSecs, b.length ≤ 1048576) ∧ ∀ w ∈ d.fCache, w.fB.length ≤ 1048576 := by
  have hc : tDisk.cost d = (sliceT (sliceT u8T)).cost d.fSecs + (sliceT tWrite).cost d.fCache + (sliceT tFault).cost d.fFaults := rfl
  have h1 : (sliceT (sliceT u8T)).cost d.fSecs = d.fSecs.length + costL (sliceT u8T) d.fSecs := rfl
  have h2 : (sliceT tWrite).cost d.fCache = d.fCache.length + costL tWrite d.fCache := rfl
  have h3 : (sliceT tFault).cost d.fFaults = d.fFaults.length + costL tFault d.fFaults := rfl
  refine ⟨by omega, by omega, by omega, fun b hb => ?_, fun w hw => ?_⟩
  · have := costL_mem (sliceT u8T) hb
    have e : (sliceT u8T).cost b = b.length + costL u8T b := rfl
    omega
  · have := costL_mem tWrite hw
    have e : tWrite.cost w = (sliceT u8T).cost w.fB := rfl
    have e2 : (sliceT u8T).cost w.fB = w.fB.length + costL u8T w.fB := rfl
    omega
theorem lastK_len {l : List TWrite} {n : Int} (hl : ∀ w ∈ l, w.fB.length ≤ 1048576) : ∀ (k : Nat) {b : List UInt8}, lastK l n k = some b → b.length ≤ 1048576
  | 0, b, h => by cases h
  | k + 1, b, h => by
    unfold lastK at h
    split at h
    · rename_i w hw
      split at h
      · injection h with h
        subst h
        exact hl w (List.mem_of_getElem? hw)
      · exact lastK_len hl k h
    · exact lastK_len hl k h
theorem readSec_len {d : TDisk} (h : tDisk.cost d ≤ 1048576) (n : Int) : (readSec d n).1.length ≤ 1048576 := by
  obtain ⟨_, _, _, h4, h5⟩ := diskCost d h
  unfold readSec
  split
  · cases hk : lastK d.fCache n d.fCache.length with
    | some b => simp only [Option.getD_some]; exact lastK_len h5 _ hk
    | none =>
      simp only [Option.getD_none]
      cases hs : d.fSecs[n.toNat]? with
      | some b => exact h4 b (List.mem_of_getElem? hs)
      | none => simp
  · simp
theorem L_spec_ReadSec (cs) {Q : QS} (d : TDisk) (n : Int) (hcl : d.fCache.length ≤ 1048576) (hwb : ∀ w ∈ d.fCache, w.fB.length ≤ 1048576) (r0 : Option (List UInt8)) (hn : r0 = none → ∀ e' h', e' 1 = .int .i64 n → e' 2 = .ptr 0 0 → h'.hp 0 = some d.row → Q (.exit 0) e' h') (hs : ∀ b e' h', r0 = some b → frzT 8 h' (e' 4) = some (.imm (b.map u8T.row)) → e' 5 = .bool true → Q .ret e' h') : ∀ (k : Nat), k ≤ d.fCache.length → lastK d.fCache n k = r0 → ∀ (e : Ps) (h : Hp), e 1 = .int .i64 n → e 2 = .ptr 0 0 → h.hp 0 = some d.row → e 6 = .int .i64 ((k : Int) - 1) → WL (EE cs) s_spec_ReadSec_L0 e h Q
  | 0, _, hr, e, h, q1, q2, hh, q6 => by
    have hge : ¬ (0 : Int) ≤ ((0 : Nat) : Int) - 1 := by decide
    refine .step (wp_sound _ _ _ _ ?_)
    simp only [go_sem, Nat.reduceBEq, s_spec_ReadSec_L0, q6]
    exact hn hr.symm _ _ (by simp only [go_sem, Nat.reduceBEq, q1]) (by simp only [go_sem, Nat.reduceBEq, q2]) hh
  | k + 1, hk, hr, e, h, q1, q2, hh, q6 => by
    have hge : (0 : Int) ≤ ((k + 1 : Nat) : Int) - 1 := by omega
    have hki : ((k + 1 : Nat) : Int) - 1 = (k : Int) := by omega
    rw [hki] at q6 hge
    obtain ⟨w, hw0⟩ : ∃ w, d.fCache[k]? = some w := ⟨_, List.getElem?_eq_getElem (by omega)⟩
    have ia := fun h => kIa_nth (h := h) (row := TWrite.row) (sz := 2) (l := d.fCache) (v := w) (i := (k : Int)) (by omega) (by simpa using hw0) rfl
    have hwl := hwb w (List.mem_of_getElem? hw0)
    rw [show d.row = [.imm (d.fSecs.map (sliceT u8T).row), .imm (d.fCache.map TWrite.row), .int .i64 d.fOps, .imm (d.fFaults.map TFault.row), .bool d.fDown] from rfl] at hh
    rw [lastK, hw0] at hr
    simp only at hr
    refine .step (wp_sound _ _ _ _ ?_)
    by_cases hn' : w.fN = n
    · rw [if_pos hn'] at hr
      have hw : (w.fN == n) = true := by rw [hn']; simp
      subst hr
      simp only [go_sem, Nat.reduceBEq, Nat.reduceAdd, Nat.reduceLeDiff, s_spec_ReadSec_L0, q1, q2, q6, hh, hge, ia, TWrite.row, hw, rep0, fill0, frz0]
      refine hP_grow w.fB rfl (grows_new u8T _) (rowsIn_imm _ _ _) (by simp only [List.length_nil]; unfold room; omega) ?_
      intro v' h' g1 g2 g3 g4
      rw [List.nil_append] at g1
      simp only [go_sem, Nat.reduceBEq]
      exact hs _ _ _ rfl (by simp only [go_sem, Nat.reduceBEq]; exact frzT_grows g1) (by simp only [go_sem, Nat.reduceBEq])
    · rw [if_neg hn'] at hr
      have hw : (w.fN == n) = false := by simpa using hn'
      have hw1 : IntKind.wrap .i64 ((k : Int) - 1) = (k : Int) - 1 := wrapId (by omega) (by omega)
      simp only [go_sem, Nat.reduceBEq, Nat.reduceAdd, Nat.reduceLeDiff, s_spec_ReadSec_L0, q1, q2, q6, hh, hge, ia, TWrite.row, hw, hw1]
      exact L_spec_ReadSec cs d n hcl hwb r0 hn hs k (by omega) hr _ _ (by simp only [go_sem, Nat.reduceBEq, q1]) (by simp only [go_sem, Nat.reduceBEq, q2]) hh (by simp only [go_sem, Nat.reduceBEq])
noncomputable def C_spec_ReadSec := c2 tDisk intT (fun (d : TDisk) (n : Int) => tDisk.cost d ≤ 1048576) (fun x => .tup [.imm (x.1.map u8T.row), .bool x.2]) fun (d : TDisk) (n : Int) => readSec d n
theorem C_spec_ReadSec_eq (d : TDisk) (n : Int) (h : tDisk.cost d ≤ 1048576) : C_spec_ReadSec [.agg [.imm (d.fSecs.map (sliceT u8T).row), .imm (d.fCache.map TWrite.row), .int .i64 d.fOps, .imm (d.fFaults.map TFault.row), .bool d.fDown], .int .i64 n] = some (.tup [.imm (((readSec d n).1).map u8T.row), .bool ((readSec d n).2)]) := c2_eq tDisk intT h
theorem ok_spec_ReadSec {WI : World → Prop} (hs : Stable WI) (cs) (hT : TOK (EE cs) WI) (h1 : (EE cs).T 98 = some C_spec_l1In) : PureOK Tryz.prog WI 64 C_spec_ReadSec := by
  refine pure2 (E := EE cs) hT hs (by rw [st_spec_ReadSec]; rfl) fun d n hp => out_wp (n := 8) (st_spec_ReadSec cs) ?_
  obtain ⟨n1, n2, n3, n4, n5⟩ := diskCost d hp
  have hw0 : IntKind.wrap .i64 ((d.fSecs.length : Int) - 1) = (d.fSecs.length : Int) - 1 := wrapId (by omega) (by omega)
  have hw2 : IntKind.wrap .i64 ((d.fCache.length : Int) - 1) = (d.fCache.length : Int) - 1 := wrapId (by omega) (by omega)
  have c1 := C_spec_l1In_eq n 0 ((d.fSecs.length : Int) - 1)
  unfold readSec
  cases hr : inR n 0 ((d.fSecs.length : Int) - 1) with
  | false => simp only [go_sem, Nat.reduceBEq, Nat.reduceAdd, Nat.reduceLeDiff, s_spec_ReadSec, TDisk.row, tDisk_enc, h1, c1, hr, hw0, rep0, fill0, frz0]
  | true =>
  obtain ⟨z1, z2⟩ := inR_nat hr
  obtain ⟨s, hs⟩ : ∃ s, d.fSecs[n.toNat]? = some s := ⟨_, List.getElem?_eq_getElem z2⟩
  have hsl := n4 s (List.mem_of_getElem? hs)
  have iaS := fun h => kIa_nth (h := h) (row := (sliceT u8T).row) (sz := 1) z1 hs rfl
  simp only [go_sem, Nat.reduceBEq, Nat.reduceAdd, Nat.reduceLeDiff, s_spec_ReadSec, TDisk.row, tDisk_enc, h1, c1, hr, hw0, hw2]
  refine L_spec_ReadSec cs d n n2 n5 (lastK d.fCache n d.fCache.length) ?_ ?_ d.fCache.length (Nat.le_refl _) rfl _ _ (by simp only [go_sem, Nat.reduceBEq]) (by simp only [go_sem, Nat.reduceBEq]) (by simp [TDisk.row]) (by simp only [go_sem, Nat.reduceBEq])
  · intro hk e' h' j1 j2 jh
    rw [show d.row = [.imm (d.fSecs.map (sliceT u8T).row), .imm (d.fCache.map TWrite.row), .int .i64 d.fOps, .imm (d.fFaults.map TFault.row), .bool d.fDown] from rfl] at jh
    have hq : (lastK d.fCache n d.fCache.length).getD (d.fSecs[n.toNat]?.getD []) = s := by rw [hk, hs]; rfl
    rw [hq]
    simp only [go_sem, Nat.reduceBEq, j1, j2, jh, iaS, rep0, fill0, frz0]
    refine hP_grow s rfl (grows_new u8T _) (rowsIn_imm _ _ _) (by simp only [List.length_nil]; unfold room; omega) ?_
    intro v' h' g1 g2 g3 g4
    rw [List.nil_append] at g1
    have hf := frzT_grows (n := 8) g1
    simp only [go_sem, Nat.reduceBEq, hf]
  · intro b e' h' hk hf h5
    have hq : (lastK d.fCache n d.fCache.length).getD (d.fSecs[n.toNat]?.getD []) = b := by rw [hk]; rfl
    rw [hq]
    simp only [go_sem, hf, h5]
noncomputable def C_spec_Crc := c1 (sliceT u8T) (fun (b : List (UInt8)) => b.length ≤ 1048576) ((.int .i64)) fun (b : List (UInt8)) => (crc b : Int)
theorem C_spec_Crc_eq (b : List (UInt8)) (h : b.length ≤ 1048576) : C_spec_Crc [.imm (b.map u8T.row)] = some (.int .i64 (((crc b : Int)))) := c1_eq (sliceT u8T) h
theorem ok_spec_Crc {WI : World → Prop} (hs : Stable WI) (cs) (hT : TOK (EE cs) WI) : PureOK Tryz.prog WI 136 C_spec_Crc := by
  refine pure1 (E := EE cs) hT hs (by rw [st_spec_Crc]; rfl) fun b hp => out_wp (n := 0) (st_spec_Crc cs) ?_
  have hl : b.length ≤ 1048576 := hp
  have bits : ∀ (x0 : Nat) (i : Int) (e : Ps) (h : Hp), x0 < 4294967296 → e 0 = .imm (b.map u8T.row) → e 4 = .int .i64 i → e 3 = .int .i64 (x0 : Int) → e 5 = .int .i64 0 → WL (EE cs) s_spec_Crc_L0 e h fun x e1 _ => x = .exit 2 ∧ e1 0 = .imm (b.map u8T.row) ∧ e1 4 = .int .i64 i ∧ e1 3 = .int .i64 ((crcBits 8 x0 : Nat) : Int) := by
    intro x0 i e h hx0 h0 h4 h3 h5
    refine wl_count 8 (fun k e _ => e 0 = .imm (b.map u8T.row) ∧ e 4 = .int .i64 i ∧ e 3 = .int .i64 ((crcBits k x0 : Nat) : Int) ∧ e 5 = .int .i64 ((k : Nat) : Int)) (.exit 2) (fun e _ => e 0 = .imm (b.map u8T.row) ∧ e 4 = .int .i64 i ∧ e 3 = .int .i64 ((crcBits 8 x0 : Nat) : Int)) ?_ ?_ (by simp) 8 0 e h rfl ⟨h0, h4, h3, h5⟩
    · rintro k e h hk ⟨q0, q1, q2, q3⟩
      have hk8 : (k : Int) < 8 := by omega
      have hlt : crcBits k x0 < 4294967296 := crcBits_lt k hx0
      have hs := crcBits_succ k x0
      have k1 := kShr1 (k := .i64) (by decide) (crcBits k x0)
      have hd : crcBits k x0 / 2 < 4294967296 := by omega
      by_cases hb : crcBits k x0 % 2 = 1
      · rw [crcBit1 hb] at hs
        have k2 := kXorC hd
        simp only [go_sem, Nat.reduceBEq, s_spec_Crc_L0, q0, q1, q2, q3, hk8, kAnd1 hlt, k1, kBeq1 hb, k2, w1N (Nat.le_trans (Nat.le_of_lt hk) (by decide)), hs]
      · rw [crcBit0 hb] at hs
        simp only [go_sem, Nat.reduceBEq, s_spec_Crc_L0, q0, q1, q2, q3, hk8, kAnd1 hlt, k1, kBeq0 hb, w1N (Nat.le_trans (Nat.le_of_lt hk) (by decide)), hs]
    · rintro e h ⟨q0, q1, q2, q3⟩
      simp only [go_sem, Nat.reduceBEq, s_spec_Crc_L0, q0, q1, q2, q3, d8]
  simp only [go_sem, s_spec_Crc]
  refine (wl_for (l := b) (fun pre e h => e 0 = .imm (b.map u8T.row) ∧ e 3 = .int .i64 ((crcAll 4294967295 pre : Nat) : Int) ∧ e 4 = .int .i64 pre.length) (.exit 0) (fun e h => e 0 = .imm (b.map u8T.row) ∧ e 3 = .int .i64 ((crcAll 4294967295 (b) : Nat) : Int)) (by omega) ?_ ?_ (by simp) b [] _ _ rfl ?_).mono ?_
  · rintro pre c rest e h a ⟨q0, q1, ix⟩
    have hc : crcAll 4294967295 pre < 4294967296 := crcAll_lt pre (by decide)
    have k2 := fun h => kXorN hc (u8lt c) h
    simp only [go_sem, Nat.reduceBEq, s_spec_Crc_L1, q0, q1, ix, a.dl, a.ia (row := u8T.row) (sz := 1) rfl, u8T_row, u8i64, k2]
    refine (bits (crcAll 4294967295 pre ^^^ c.toNat) (pre.length : Int) _ _ (Nat.xor_lt_two_pow (n := 32) hc (u8lt c)) (by simp only [go_sem, Nat.reduceBEq, q0]) (by simp only [go_sem, Nat.reduceBEq, ix]) (by simp only [go_sem, Nat.reduceBEq]) (by simp only [go_sem, Nat.reduceBEq])).mono ?_
    rintro x e1 h1 ⟨rfl, r0, r4, r3⟩
    simp only [go_sem, Nat.reduceBEq, r0, r4, r3, a.hw, crcAll_snoc]
  · rintro e h ⟨q0, q1, ix⟩
    simp only [go_sem, Nat.reduceBEq, s_spec_Crc_L1, q0, q1, ix]
  · exact ⟨rfl, rfl, rfl⟩
  · rintro x e h ⟨rfl, j0, j1⟩
    have k2 := kXorF (crcAll_lt b (x := 4294967295) (by decide))
    simp only [go_sem, Nat.reduceBEq, j1, k2, crc]
noncomputable def C_spec_GetSum := c1 (sliceT u8T) (fun (b : List (UInt8)) => b.length ≤ 1048576) (fun x => .tup [.imm (x.1.map u8T.row), .bool x.2]) fun (b : List (UInt8)) => getSum b
theorem C_spec_GetSum_eq (b : List (UInt8)) (h : b.length ≤ 1048576) : C_spec_GetSum [.imm (b.map u8T.row)] = some (.tup [.imm (((getSum b).1).map u8T.row), .bool ((getSum b).2)]) := c1_eq (sliceT u8T) h
theorem ok_spec_GetSum {WI : World → Prop} (hs : Stable WI) (cs) (hT : TOK (EE cs) WI) (h1 : (EE cs).T 136 = some C_spec_Crc) : PureOK Tryz.prog WI 118 C_spec_GetSum := by
  refine pure1 (E := EE cs) hT hs (by rw [st_spec_GetSum]; rfl) fun b hp => out_wp (n := 0) (st_spec_GetSum cs) ?_
  have hl : b.length ≤ 1048576 := hp
  have hw : IntKind.wrap .i64 ((b.length : Int) - 4) = (b.length : Int) - 4 := wrapId (by omega) (by omega)
  by_cases hs : b.length < 4
  · have hn : (b.length : Int) - 4 < 0 := by omega
    rw [getSum_short hs]
    simp only [go_sem, Nat.reduceBEq, s_spec_GetSum, hw, hn, rep0, fill0, frz0]
  have hn : ¬ (b.length : Int) - 4 < 0 := by omega
  have hq : (b.drop (b.length - 4)).length = 4 := by rw [List.length_drop]; omega
  have hbe : b = b.take (b.length - 4) ++ b.drop (b.length - 4) := (List.take_append_drop _ _).symm
  simp only [go_sem, Nat.reduceBEq, s_spec_GetSum, hw, hn]
  refine (wl_for (l := b.drop (b.length - 4)) (fun pre e h => e 0 = .imm (b.map u8T.row) ∧ e 4 = .int .i64 ((b.length : Int) - 4) ∧ e 5 = .int .i64 ((be 0 pre : Nat) : Int) ∧ e 6 = .int .i64 ((b.length : Int) - 4 + pre.length)) (.exit 0) (fun e h => e 0 = .imm (b.map u8T.row) ∧ e 4 = .int .i64 ((b.length : Int) - 4) ∧ e 5 = .int .i64 ((be 0 (b.drop (b.length - 4)) : Nat) : Int)) (by omega) ?_ ?_ (by simp) (b.drop (b.length - 4)) [] _ _ rfl ?_).mono ?_
  · rintro pre x rest e h a ⟨q0, q1, q2, q3⟩
    have hlt := a.lt
    have hpl : pre.length ≤ 3 := by omega
    have hpos : (b.length : Int) - 4 + pre.length < b.length := by omega
    have hb : be 0 pre < 16777216 := by
      have := be_lt pre 0
      have h2 : 256 ^ pre.length ≤ 256 ^ 3 := Nat.pow_le_pow_right (by decide) hpl
      omega
    have hia := fun h => kIa_map (h := h) (row := u8T.row) (sz := 1) (l := b) (pre := b.take (b.length - 4) ++ pre) (v := x) (rest := rest) (by rw [List.append_assoc, ← a.hl, List.take_append_drop]) rfl
    have hpe : ((b.take (b.length - 4) ++ pre).length : Int) = (b.length : Int) - 4 + pre.length := by rw [List.length_append, List.length_take]; omega
    rw [hpe] at hia
    have hw2 : IntKind.wrap .i64 ((b.length : Int) - 4 + pre.length + 1) = (b.length : Int) - 4 + ((pre.length : Int) + 1) := by rw [wrapId (by omega) (by omega)]; omega
    simp only [go_sem, Nat.reduceBEq, s_spec_GetSum_L0, q0, q1, q2, q3, hpos, hia, u8T_row, u8i64, kShl8 hb, kOr8 hb, hw2, be_snoc]
  · rintro e h ⟨q0, q1, q2, q3⟩
    have hpos : ¬ (b.length : Int) - 4 + ((b.drop (b.length - 4)).length : Int) < b.length := by omega
    simp only [go_sem, Nat.reduceBEq, s_spec_GetSum_L0, q0, q1, q2, q3, hpos]
  · refine ⟨rfl, rfl, rfl, ?_⟩
    simp only [go_sem, Nat.reduceBEq]
    simp
  · rintro x e h ⟨rfl, q0, q1, q2⟩
    have hsl := kSl_to (row := u8T.row) (l := b) (sz := 1) (b := (b.length : Int) - 4) (by omega) (by omega) (fun _ => rfl)
    rw [show ((b.length : Int) - 4).toNat = b.length - 4 by omega] at hsl
    have hc := C_spec_Crc_eq (b.take (b.length - 4)) (by rw [List.length_take]; omega)
    by_cases he : be 0 (b.drop (b.length - 4)) = crc (b.take (b.length - 4))
    · rw [getSum_ok hs ((getSum_iff hs).2 he)]
      have hneq : (((be 0 (b.drop (b.length - 4)) : Nat) : Int) != ((crc (b.take (b.length - 4)) : Nat) : Int)) = false := by rw [he]; simp
      simp only [go_sem, Nat.reduceBEq, q0, q1, q2, hsl, h1, hc, hneq, rep0, fill0, frz0]
      refine hP_grow (b.take (b.length - 4)) rfl (grows_new u8T _) (rowsIn_imm _ _ _) (by rw [List.length_take]; simp only [List.length_nil]; unfold room; omega) ?_
      intro v' h' g1 g2 g3 g4
      rw [List.nil_append] at g1
      have hf := fun n => frzT_grows (n := n) g1
      simp only [go_sem, Nat.reduceBEq, hf]
    · rw [getSum_no hs (fun h => he ((getSum_iff hs).1 h))]
      have hneq : (((be 0 (b.drop (b.length - 4)) : Nat) : Int) != ((crc (b.take (b.length - 4)) : Nat) : Int)) = true := by simp; omega
      simp only [go_sem, Nat.reduceBEq, q0, q1, q2, hsl, h1, hc, hneq, rep0, fill0, frz0]
end Go.Proofs.YtmfkjlnhanomfaaGreat.Nl
/- What the functions that FnExactNoLeak calls answer: part 4. -/
namespace Go.Proofs.YtmfkjlnhanomfaaGreat.Nl
open Go Go.RowKit Go.Ev
set_option linter.unusedSimpArgs false
set_option linter.unusedVariables false
set_option maxHeartbeats 1600000
theorem L_spec_GetU (cs) (b : List UInt8) (hb : b.length ≤ 1048576) (i : Int) (h0 : 0 ≤ i) (h : Hp) {Q : QS} (r0 : Option (Nat × List UInt8)) (hn0 : r0 = none → (∀ e', Q (.exit 0) e' h) ∧ ∀ e', e' 4 = .int .i64 0 → e' 5 = .int .i64 0 → e' 6 = .bool false → Q .ret e' h)
    (hs0 : ∀ n' r, r0 = some (n', r) → ∀ e', e' 4 = .int .i64 (n' : Int) → e' 5 = .int .i64 ((b.length : Int) - r.length) → e' 6 = .bool true → Q .ret e' h) : ∀ (m k n : Nat) (p bs : List UInt8) (e : Ps), m + k = 3 → n < 128 ^ k → b = p ++ bs → i + k = p.length → e 0 = .imm (b.map u8T.row) → e 1 = .int .i64 i → e 7 = .int .i64 (n : Int) → e 8 = .int .i64 (k : Int) → uread m k n bs = r0 → WL (EE cs) s_spec_GetU_L0 e h Q := by
  intro m
  induction m with
  | zero =>
    intro k n p bs e hk hn hl hi e0 e1 e7 e8 hr
    have hk3 : ¬ (k : Int) < 3 := by omega
    refine .step (wp_sound _ _ _ _ ?_)
    simp only [go_sem, Nat.reduceBEq, s_spec_GetU_L0, e8, hk3]
    exact (hn0 hr.symm).1 _
  | succ m ih =>
    intro k n p bs e hk hn hl hi e0 e1 e7 e8 hr
    have hk3 : (k : Int) < 3 := by omega
    have hk2 : k ≤ 2 := by omega
    have hge : (0 : Int) ≤ i := h0
    have hbl : (b.length : Int) = p.length + bs.length := by rw [hl, List.length_append]; omega
    have hw3 : IntKind.wrap .i64 ((b.length : Int) - k) = (b.length : Int) - k := wrapId (by omega) (by omega)
    have hw1 : IntKind.wrap .i64 (i + (k : Int)) = (p.length : Int) := by rw [wrapId (by omega) (by omega)]; omega
    cases bs with
    | nil =>
      simp only [List.length_nil] at hbl
      refine .step (wp_sound _ _ _ _ ?_)
      by_cases hk0 : k = 0
      · subst hk0
        have hnl : ¬ i < (b.length : Int) := by omega
        simp only [go_sem, Nat.reduceBEq, Int.reduceLT, s_spec_GetU_L0, e0, e1, e8, hge, hnl]
        exact (hn0 (by rw [← hr]; rfl)).1 _
      · have hlt : i < (b.length : Int) := by omega
        have hnl : ¬ (p.length : Int) < (b.length : Int) := by omega
        simp only [go_sem, Nat.reduceBEq, s_spec_GetU_L0, e0, e1, e8, hk3, hge, hlt, hw1, hnl]
        exact (hn0 (by rw [← hr]; rfl)).1 _
    | cons x r =>
      have hx := UInt8.toNat_lt x
      have hx128 : x.toNat % 128 < 128 := Nat.mod_lt _ (by decide)
      simp only [List.length_cons] at hbl
      have hlt : i < (b.length : Int) := by omega
      have hl1 : (p.length : Int) < (b.length : Int) := by omega
      have hl3 : i < (b.length : Int) - (k : Int) := by omega
      have hia := fun h => kIa_map (h := h) (row := u8T.row) (sz := 1) hl rfl
      have hlim := uread_lt hk2 hx128 hn
      have hw4 : IntKind.wrap .i64 ((n : Int) + ((x.toNat % 128 * 128 ^ k : Nat) : Int)) = ((n + x.toNat % 128 * 128 ^ k : Nat) : Int) := by rw [wrapId (by omega) (by omega)]; omega
      have hw2 := w1N (k := k) (by omega)
      have hw5 : IntKind.wrap .i64 ((p.length : Int) + 1) = (b.length : Int) - r.length := by rw [wrapId (by omega) (by omega)]; omega
      rw [uread] at hr
      by_cases hb8 : 128 ≤ x.toNat
      · rw [if_pos hb8] at hr
        have hb : (127 : Int) < (x.toNat : Int) := by omega
        refine .step (wp_sound _ _ _ _ ?_)
        simp only [go_sem, Nat.reduceBEq, s_spec_GetU_L0, e0, e1, e7, e8, hk3, hge, hlt, hw1, hl1, hia, u8T_row, u8i64, kAnd127, w7 hk2, u7 hk2, kShl7 hx128 hk2, kOr7 hx128 hk2 hn, hw2, hb]
        exact ih (k + 1) _ (p ++ [x]) r _ (by omega) (pow_lt hx128 hn) (by rw [hl]; simp) (by simp; omega) (by simp only [go_sem, Nat.reduceBEq, e0]) (by simp only [go_sem, Nat.reduceBEq, e1]) (by simp only [go_sem, Nat.reduceBEq]) (by simp only [go_sem, Nat.reduceBEq]) hr
      · rw [if_neg hb8] at hr
        have hb : ¬ (127 : Int) < (x.toNat : Int) := by omega
        by_cases hz : 0 < k ∧ x.toNat = 0
        · rw [if_pos (.inl hz)] at hr
          have hz1 : (0 : Int) < (k : Int) := by omega
          have hz2 : ((x.toNat : Int) == 0) = true := by rw [hz.2]; rfl
          refine .step (wp_sound _ _ _ _ ?_)
          simp only [go_sem, Nat.reduceBEq, s_spec_GetU_L0, e0, e1, e7, e8, hk3, hge, hlt, hw1, hl1, hia, u8T_row, u8i64, kAnd127, w7 hk2, u7 hk2, kShl7 hx128 hk2, kOr7 hx128 hk2 hn, hw2, hb, hz1, hz2]
          exact (hn0 hr.symm).2 _ (by simp only [go_sem, Nat.reduceBEq]) (by simp only [go_sem, Nat.reduceBEq]) (by simp only [go_sem, Nat.reduceBEq])
        · have hz' : (decide ((0 : Int) < (k : Int)) && ((x.toNat : Int) == 0)) = false := by
            cases h1 : decide ((0 : Int) < (k : Int)) <;> cases h2 : ((x.toNat : Int) == 0) <;> simp at h1 h2 ⊢
            exact hz ⟨by omega, by omega⟩
          by_cases hbig : 1000000 < n + x.toNat % 128 * 128 ^ k
          · rw [if_pos (.inr hbig)] at hr
            have hg : (1000000 : Int) < ((n + x.toNat % 128 * 128 ^ k : Nat) : Int) := by omega
            refine .step (wp_sound _ _ _ _ ?_)
            by_cases hk0 : (0 : Int) < (k : Int)
            · have hx0 : ((x.toNat : Int) == 0) = false := by rw [decide_eq_true hk0, Bool.true_and] at hz'; exact hz'
              simp only [go_sem, Nat.reduceBEq, s_spec_GetU_L0, e0, e1, e7, e8, hk3, hge, hlt, hw1, hl1, hia, u8T_row, u8i64, kAnd127, w7 hk2, u7 hk2, kShl7 hx128 hk2, kOr7 hx128 hk2 hn, hw2, hb, hk0, hx0, hg]
              exact (hn0 hr.symm).2 _ (by simp only [go_sem, Nat.reduceBEq]) (by simp only [go_sem, Nat.reduceBEq]) (by simp only [go_sem, Nat.reduceBEq])
            · cases hx0 : ((x.toNat : Int) == 0)
              · simp only [go_sem, Nat.reduceBEq, s_spec_GetU_L0, e0, e1, e7, e8, hk3, hge, hlt, hw1, hl1, hia, u8T_row, u8i64, kAnd127, w7 hk2, u7 hk2, kShl7 hx128 hk2, kOr7 hx128 hk2 hn, hw2, hb, hk0, hg]
                exact (hn0 hr.symm).2 _ (by simp only [go_sem, Nat.reduceBEq]) (by simp only [go_sem, Nat.reduceBEq]) (by simp only [go_sem, Nat.reduceBEq])
              · simp only [go_sem, Nat.reduceBEq, s_spec_GetU_L0, e0, e1, e7, e8, hk3, hge, hlt, hw1, hl1, hia, u8T_row, u8i64, kAnd127, w7 hk2, u7 hk2, kShl7 hx128 hk2, kOr7 hx128 hk2 hn, hw2, hb, hk0, hg]
                exact (hn0 hr.symm).2 _ (by simp only [go_sem, Nat.reduceBEq]) (by simp only [go_sem, Nat.reduceBEq]) (by simp only [go_sem, Nat.reduceBEq])
          · rw [if_neg (by rintro (h | h); exact hz h; exact hbig h)] at hr
            have hg : ¬ (1000000 : Int) < ((n + x.toNat % 128 * 128 ^ k : Nat) : Int) := by omega
            refine .step (wp_sound _ _ _ _ ?_)
            by_cases hk0 : (0 : Int) < (k : Int)
            · have hx0 : ((x.toNat : Int) == 0) = false := by rw [decide_eq_true hk0, Bool.true_and] at hz'; exact hz'
              simp only [go_sem, Nat.reduceBEq, s_spec_GetU_L0, e0, e1, e7, e8, hk3, hge, hlt, hw1, hl1, hia, u8T_row, u8i64, kAnd127, w7 hk2, u7 hk2, kShl7 hx128 hk2, kOr7 hx128 hk2 hn, hw2, hb, hk0, hx0, hg, hw5]
              exact hs0 _ _ hr.symm _ (by simp only [go_sem, Nat.reduceBEq]) (by simp only [go_sem, Nat.reduceBEq]) (by simp only [go_sem, Nat.reduceBEq])
            · cases hx0 : ((x.toNat : Int) == 0)
              · simp only [go_sem, Nat.reduceBEq, s_spec_GetU_L0, e0, e1, e7, e8, hk3, hge, hlt, hw1, hl1, hia, u8T_row, u8i64, kAnd127, w7 hk2, u7 hk2, kShl7 hx128 hk2, kOr7 hx128 hk2 hn, hw2, hb, hk0, hg, hw5]
                exact hs0 _ _ hr.symm _ (by simp only [go_sem, Nat.reduceBEq]) (by simp only [go_sem, Nat.reduceBEq]) (by simp only [go_sem, Nat.reduceBEq])
              · simp only [go_sem, Nat.reduceBEq, s_spec_GetU_L0, e0, e1, e7, e8, hk3, hge, hlt, hw1, hl1, hia, u8T_row, u8i64, kAnd127, w7 hk2, u7 hk2, kShl7 hx128 hk2, kOr7 hx128 hk2 hn, hw2, hb, hk0, hg, hw5]
                exact hs0 _ _ hr.symm _ (by simp only [go_sem, Nat.reduceBEq]) (by simp only [go_sem, Nat.reduceBEq]) (by simp only [go_sem, Nat.reduceBEq])
noncomputable def C_spec_GetU := c2 (sliceT u8T) intT (fun (b : List (UInt8)) (i : Int) => b.length ≤ 1048576) (fun x => .tup [.int .i64 x.1, .int .i64 x.2.1, .bool x.2.2]) fun (b : List (UInt8)) (i : Int) => getU b i
theorem C_spec_GetU_eq (b : List (UInt8)) (i : Int) (h : b.length ≤ 1048576) : C_spec_GetU [.imm (b.map u8T.row), .int .i64 i] = some (.tup [.int .i64 ((getU b i).1), .int .i64 ((getU b i).2.1), .bool ((getU b i).2.2)]) := c2_eq (sliceT u8T) intT h
theorem ok_spec_GetU {WI : World → Prop} (hs : Stable WI) (cs) (hT : TOK (EE cs) WI) : PureOK Tryz.prog WI 100 C_spec_GetU := by
  refine pure2 (E := EE cs) hT hs (by rw [st_spec_GetU]; rfl) fun b i hp => out_wp (n := 0) (st_spec_GetU cs) ?_
  have hl : b.length ≤ 1048576 := hp
  by_cases h0 : i < 0
  · rw [getU_neg h0]
    simp only [go_sem, s_spec_GetU]
    refine .step (wp_sound _ _ _ _ ?_)
    have hge : ¬ (0 : Int) ≤ i := by omega
    have d3 : decide ((0 : Int) < 3) = true := rfl
    simp only [go_sem, Nat.reduceBEq, Int.reduceLT, s_spec_GetU_L0, hge]
  · simp only [go_sem, s_spec_GetU]
    by_cases hi : i ≤ b.length
    · refine L_spec_GetU cs b hl i (by omega) _ (uget (b.drop i.toNat)) (fun hr => ?_) (fun n r hr => ?_) 3 0 0 (b.take i.toNat) (b.drop i.toNat) _ rfl (by decide) (by rw [List.take_append_drop]) (by rw [List.length_take]; omega) (by simp only [go_sem, Nat.reduceBEq]) (by simp only [go_sem, Nat.reduceBEq]) (by simp only [go_sem, Nat.reduceBEq]) (by simp only [go_sem, Nat.reduceBEq]) rfl
      · rw [getU_none hr]
        exact ⟨fun e' => by simp only [go_sem, Nat.reduceBEq], fun e' q4 q5 q6 => by simp only [go_sem, q4, q5, q6]⟩
      · rw [getU_some h0 hr]
        intro e' q4 q5 q6
        simp only [go_sem, q4, q5, q6]
    · have hd : b.drop i.toNat = [] := List.drop_eq_nil_of_le (by omega)
      rw [getU_none (by rw [hd]; rfl)]
      refine .step (wp_sound _ _ _ _ ?_)
      have hge : (0 : Int) ≤ i := by omega
      have hnl : ¬ i < (b.length : Int) := by omega
      have d3 : decide ((0 : Int) < 3) = true := rfl
      have w0 : IntKind.wrap .i64 ((b.length : Int) - 0) = (b.length : Int) := by rw [wrapId (by omega) (by omega)]; omega
      simp only [go_sem, Nat.reduceBEq, Int.reduceLT, s_spec_GetU_L0, hge, hnl]
noncomputable def C_spec_GetText := c2 (sliceT u8T) intT (fun (b : List (UInt8)) (i : Int) => b.length ≤ 1048576) (fun x => .tup [.str x.1, .int .i64 x.2.1, .bool x.2.2]) fun (b : List (UInt8)) (i : Int) => getText b i
theorem C_spec_GetText_eq (b : List (UInt8)) (i : Int) (h : b.length ≤ 1048576) : C_spec_GetText [.imm (b.map u8T.row), .int .i64 i] = some (.tup [.str ((getText b i).1), .int .i64 ((getText b i).2.1), .bool ((getText b i).2.2)]) := c2_eq (sliceT u8T) intT h
theorem ok_spec_GetText {WI : World → Prop} (hs : Stable WI) (cs) (hT : TOK (EE cs) WI) (h1 : (EE cs).T 100 = some C_spec_GetU) : PureOK Tryz.prog WI 119 C_spec_GetText := by
  refine pure2 (E := EE cs) hT hs (by rw [st_spec_GetText]; rfl) fun b i hp => out_wp (n := 0) (st_spec_GetText cs) ?_
  have hl : b.length ≤ 1048576 := hp
  have c1 := C_spec_GetU_eq b i hl
  have hr := getU_rng b i
  rcases hu : getU b i with ⟨n, j, ok⟩
  rw [hu] at c1 hr
  cases ok with
  | false =>
    rw [getText_no hu]
    simp only [go_sem, Nat.reduceBEq, s_spec_GetText, h1, c1]
  | true =>
    obtain ⟨r0, r1, r2, r3⟩ := hr rfl
    simp only at r0 r1 r2 r3
    have hw : IntKind.wrap .i64 ((b.length : Int) - j) = (b.length : Int) - j := wrapId (by omega) (by omega)
    by_cases hb : (b.length : Int) - j < n
    · rw [getText_big hu hb]
      simp only [go_sem, Nat.reduceBEq, s_spec_GetText, h1, c1, hw, hb]
    · rw [getText_ok hu hb]
      have hw2 : IntKind.wrap .i64 (j + n) = j + n := wrapId (by omega) (by omega)
      have hsl := kSl_mid (row := u8T.row) (l := b) (sz := 1) (a := j) (b := j + n) (by omega) (by omega) (by omega) (fun _ => rfl)
      have he : (b.take (j + n).toNat).drop j.toNat = (b.drop j.toNat).take n.toNat := by rw [List.drop_take]; congr 1; omega
      rw [he] at hsl
      simp only [go_sem, Nat.reduceBEq, s_spec_GetText, h1, c1, hw, hb, hw2, hsl, nsI, rowsIn_imm, rowsBytes_u8]
noncomputable def C_spec_GetPage := c1 (sliceT u8T) (fun (b : List (UInt8)) => b.length ≤ 1048576) (fun x => .tup [.int .i64 x.1, .imm (x.2.1.map u8T.row), .bool x.2.2]) fun (b : List (UInt8)) => getPage b
theorem C_spec_GetPage_eq (b : List (UInt8)) (h : b.length ≤ 1048576) : C_spec_GetPage [.imm (b.map u8T.row)] = some (.tup [.int .i64 ((getPage b).1), .imm (((getPage b).2.1).map u8T.row), .bool ((getPage b).2.2)]) := c1_eq (sliceT u8T) h
theorem ok_spec_GetPage {WI : World → Prop} (hs : Stable WI) (cs) (hT : TOK (EE cs) WI) (h1 : (EE cs).T 118 = some C_spec_GetSum) (h2 : (EE cs).T 100 = some C_spec_GetU) (h3 : (EE cs).T 119 = some C_spec_GetText) (h4 : (EE cs).T 98 = some C_spec_l1In) : PureOK Tryz.prog WI 99 C_spec_GetPage := by
  refine pure1 (E := EE cs) hT hs (by rw [st_spec_GetPage]; rfl) fun b hp => out_wp (n := 0) (st_spec_GetPage cs) ?_
  have hl : b.length ≤ 1048576 := hp
  have c1 := C_spec_GetSum_eq b hl
  unfold getPage
  rcases hs : getSum b with ⟨x, ok⟩
  rw [hs] at c1
  simp only
  have hx : x.length ≤ 1048576 := getSum_len hl hs
  have c2 := C_spec_GetU_eq x 0 hx
  rcases hu : getU x 0 with ⟨k, j, is⟩
  rw [hu] at c2
  have c3 := C_spec_GetText_eq x j hx
  rcases ht : getText x j with ⟨s, nx, good⟩
  rw [ht] at c3
  have c4 := C_spec_l1In_eq k 1 2
  unfold pageOf
  simp only
  cases ok with
  | false => simp only [go_sem, Nat.reduceBEq, s_spec_GetPage, h1, c1, h2, c2, h3, c3, rep0, fill0, frz0]
  | true =>
  cases is with
  | false => simp only [go_sem, Nat.reduceBEq, s_spec_GetPage, h1, c1, h2, c2, h3, c3, rep0, fill0, frz0, false_and]
  | true =>
  cases good with
  | false => simp only [go_sem, Nat.reduceBEq, s_spec_GetPage, h1, c1, h2, c2, h3, c3, rep0, fill0, frz0, false_and, and_false]
  | true =>
  by_cases hn : nx = x.length
  · have e1 : (nx != (x.length : Int)) = false := by simp [hn]
    cases hk : inR k 1 2 with
    | false => simp only [go_sem, Nat.reduceBEq, s_spec_GetPage, h1, c1, h2, c2, h3, c3, h4, c4, hk, e1, rep0, fill0, frz0, false_and, and_false]
    | true =>
    by_cases hb : s.length ≤ 240
    · have hb1 : ¬ (240 : Int) < (s.length : Int) := by omega
      simp only [go_sem, Nat.reduceBEq, s_spec_GetPage, h1, c1, h2, c2, h3, c3, h4, c4, hk, hb1, hb, hn, mapB]
    · have hb1 : (240 : Int) < (s.length : Int) := by omega
      simp only [go_sem, Nat.reduceBEq, s_spec_GetPage, h1, c1, h2, c2, h3, c3, h4, c4, hk, e1, hb1, hb, rep0, fill0, frz0, and_false]
  · have e1 : (nx != (x.length : Int)) = true := by simpa using hn
    simp only [go_sem, Nat.reduceBEq, s_spec_GetPage, h1, c1, h2, c2, h3, c3, e1, hn, rep0, fill0, frz0, false_and, and_false]
def metaOk (m : TMeta) : Bool := inR m.fGen 0 1000000 && (m.fRoot == 0 || inR m.fRoot 2 47)
def metaBody (m : TMeta) : List UInt8 := uenc (clampN m.fGen) ++ uenc (clampN m.fRoot)
def putMeta (m : TMeta) : List UInt8 := if metaOk m = true then putPage 2 (metaBody m) else []
def metaOf (p : Int × List UInt8 × Bool) (u v : Int × Int × Bool) : TMeta × Bool := if p.2.2 = true ∧ p.1 = 2 ∧ u.2.2 = true ∧ v.2.2 = true ∧ v.2.1 = p.2.1.length ∧ metaOk ⟨u.1, v.1⟩ = true then (⟨u.1, v.1⟩, true) else (⟨0, 0⟩, false)
def getMeta (b : List UInt8) : TMeta × Bool := metaOf (getPage b) (getU (getPage b).2.1 0) (getU (getPage b).2.1 (getU (getPage b).2.1 0).2.1)
theorem page_ok {b s : List UInt8} {k : Int} (h : getPage b = (k, s, true)) : putPage k s = b ∧ inR k 1 2 = true ∧ s.length ≤ 240 := by
  unfold getPage at h
  split at h
  · rename_i h1
    unfold pageOf at h
    split at h
    · rename_i hc
      obtain ⟨c1, c2, c3, c4, c5⟩ := hc
      simp only [Prod.mk.injEq, and_true] at h
      obtain ⟨h2, h3⟩ := h
      rcases hs : getSum b with ⟨x, ok⟩
      rw [hs] at h1 c1 c2 c3 c4 c5 h2 h3
      simp only at h1 c1 c2 c3 c4 c5 h2 h3
      subst h1
      rcases hu : getU x 0 with ⟨k', j, is⟩
      rw [hu] at c1 c2 c3 c4 c5 h2 h3
      simp only at c1 c2 c3 c4 c5 h2 h3
      subst c1
      rcases ht : getText x j with ⟨s', nx, good⟩
      rw [ht] at c2 c3 c5 h3
      simp only at c2 c3 c5 h3
      subst c2; subst h2; subst h3
      exact ⟨((page_iff hs hu ht).2 ⟨c3, c4, c5⟩).2, c4, c5⟩
    · cases h
  · cases h
theorem clampN_i {k : Int} (h0 : 0 ≤ k) (h1 : k ≤ 1000000) : ((clampN k : Nat) : Int) = k := by unfold clampN; split; omega; split <;> omega
theorem putPage_inj {k k' : Int} {s s' : List UInt8} (h1 : inR k 1 2 = true) (h2 : s.length ≤ 240) (h3 : putPage k' s' = putPage k s) : k' = k ∧ s' = s := by
  unfold putPage at h3
  rw [if_pos (⟨h1, h2⟩ : inR k 1 2 = true ∧ s.length ≤ 240)] at h3
  split at h3
  · rename_i hc
    have h4 := withSum_inj h3
    have e1 := uget_enc (clampN k') (clampN_le _) (utext s')
    rw [h4, uget_enc (clampN k) (clampN_le _)] at e1
    simp only [Option.some.injEq, Prod.mk.injEq] at e1
    obtain ⟨e2, e3⟩ := e1
    have e4 := uget_enc (clampN s'.length) (clampN_le _) s'
    unfold utext at e3
    rw [← e3, uget_enc (clampN s.length) (clampN_le _)] at e4
    simp only [Option.some.injEq, Prod.mk.injEq] at e4
    unfold inR at h1 hc
    simp at h1 hc
    have a1 := clampN_i (k := k) (by omega) (by omega)
    have a2 := clampN_i (k := k') (by omega) (by omega)
    exact ⟨by omega, e4.2.symm⟩
  · have := congrArg List.length h3
    rw [withSum_len] at this
    simp at this
theorem meta_iff {b body : List UInt8} {k g j r nx : Int} (h1 : getPage b = (k, body, true)) (h2 : getU body 0 = (g, j, true)) (h3 : getU body j = (r, nx, true)) : putMeta ⟨g, r⟩ = b ↔ (k = 2 ∧ nx = body.length ∧ metaOk ⟨g, r⟩ = true) := by
  obtain ⟨p1, p2, p3⟩ := page_ok h1
  obtain ⟨m, x, _, rfl, hm, hx, rfl, hr, hj⟩ := getU_inv h2
  obtain ⟨m2, x2, _, rfl, hm2, hx2, rfl, hr2, hj2⟩ := getU_inv h3
  simp only [Int.toNat_zero, List.drop_zero] at hx
  rw [hj] at hx2
  have hmb : metaBody ⟨(m : Int), (m2 : Int)⟩ = uenc m ++ uenc m2 := by unfold metaBody; simp only; rw [clampN_of hm, clampN_of hm2]
  unfold putMeta
  constructor
  · intro h
    split at h
    · rename_i hk
      rw [← p1] at h
      obtain ⟨e1, e2⟩ := putPage_inj p2 p3 h
      rw [hmb, hx, hx2] at e2
      have e3 := List.append_cancel_left e2
      have e4 : uenc m2 ++ [] = uenc m2 ++ x2 := by rw [List.append_nil]; exact e3
      have e5 := List.append_cancel_left e4
      subst e5
      exact ⟨e1.symm, by simp, hk⟩
    · rw [← p1] at h
      unfold putPage at h
      rw [if_pos ⟨p2, p3⟩] at h
      have := congrArg List.length h
      rw [withSum_len] at this
      simp at this
  · rintro ⟨rfl, hn, hk⟩
    have hx0 : x2 = [] := List.eq_nil_of_length_eq_zero (by omega)
    subst hx0
    rw [if_pos hk, hmb, ← p1, hx, hx2, List.append_nil]
theorem getPage_len {b s : List UInt8} {k : Int} {ok : Bool} (h : getPage b = (k, s, ok)) : s.length ≤ 240 := by
  cases ok with
  | true => exact (page_ok h).2.2
  | false =>
    unfold getPage at h
    split at h
    · unfold pageOf at h
      split at h
      · cases h
      · injection h with _ h; injection h with h _; subst h; simp
    · injection h with _ h; injection h with h _; subst h; simp
def metaStep (d : TDisk) (acc : TMeta × Bool) (i : Int) : TMeta × Bool := if (getMeta (readSec d i).1).2 = true ∧ (getMeta (readSec d i).1).1.fGen.tmod 2 = i ∧ (acc.2 = false ∨ acc.1.fGen < (getMeta (readSec d i).1).1.fGen) then ((getMeta (readSec d i).1).1, true) else acc
def accK (d : TDisk) : Nat → TMeta × Bool
  | 0 => (⟨0, 0⟩, false)
  | k + 1 => metaStep d (accK d k) (k : Int)
def bestMeta (d : TDisk) : TMeta × Bool := accK d 2
def noTxn : TTxn := ⟨⟨[], [], 0, [], false⟩, ⟨0, 0⟩, 0, []⟩
def txNew (d : TDisk) : TTxn := if (bestMeta d).2 = true then ⟨d, (bestMeta d).1, (bestMeta d).1.fRoot, []⟩ else noTxn
theorem sec_ok {d : TDisk} {i : Int} (h : (getMeta (readSec d i).1).2 = true) : (readSec d i).2 = true := by
  unfold readSec at h ⊢
  split
  · rfl
  · rename_i hc
    rw [if_neg hc] at h
    have : (getMeta []).2 = false := by decide
    rw [this] at h
    cases h
theorem metaOk_rng {m : TMeta} (h : metaOk m = true) : 0 ≤ m.fGen ∧ m.fGen ≤ 1000000 ∧ (m.fRoot = 0 ∨ 2 ≤ m.fRoot ∧ m.fRoot ≤ 47) := by
  unfold metaOk inR at h
  simp at h
  omega
theorem mFill0 : sFill [.int .i64 0, .int .i64 0] [] = some [.int .i64 0, .int .i64 0] := rfl
theorem mFill (a b : Int) : sFill [.int .i64 0, .int .i64 0] [(0, 1, .int .i64 a), (1, 1, .int .i64 b)] = some [.int .i64 a, .int .i64 b] := rfl
theorem accK_succ (d : TDisk) (k : Nat) : accK d (k + 1) = metaStep d (accK d k) (k : Int) := rfl
theorem metaStep_yes {d : TDisk} {acc : TMeta × Bool} {i : Int} {b : List UInt8} {ok : Bool} {m : TMeta} (hr : readSec d i = (b, ok)) (hm : getMeta b = (m, true)) (h1 : m.fGen.tmod 2 = i) (h2 : acc.2 = false ∨ acc.1.fGen < m.fGen) : metaStep d acc i = (m, true) := by
  unfold metaStep
  rw [hr]
  simp only [hm]
  rw [if_pos ⟨trivial, h1, h2⟩]
theorem metaStep_no {d : TDisk} {acc : TMeta × Bool} {i : Int} {b : List UInt8} {ok is : Bool} {m : TMeta} (hr : readSec d i = (b, ok)) (hm : getMeta b = (m, is)) (h : ¬ (is = true ∧ m.fGen.tmod 2 = i ∧ (acc.2 = false ∨ acc.1.fGen < m.fGen))) : metaStep d acc i = acc := by
  unfold metaStep
  rw [hr]
  simp only [hm]
  rw [if_neg h]
theorem row_eta (m : TMeta) : [AV.int .i64 m.fGen, .int .i64 m.fRoot] = m.row := rfl
theorem mRem (a : Int) (h : Hp) : kBin .rem (.int .i64 a) (.int .i64 2) h = some (.int .i64 (a.tmod 2), h) := kBin_rem _ _ _ (by decide)
theorem txFill0 : sFill [.snil, .snil, .int .i64 0, .snil, .bool false, .int .i64 0, .int .i64 0, .int .i64 0, .snil] [] = some [.snil, .snil, .int .i64 0, .snil, .bool false, .int .i64 0, .int .i64 0, .int .i64 0, .snil] := rfl
theorem txFill (a b d : List (List AV)) (c : Int) (e : Bool) (f g i : Int) : sFill [.snil, .snil, .int .i64 0, .snil, .bool false, .int .i64 0, .int .i64 0, .int .i64 0, .snil] [(0, 5, .agg [.imm a, .imm b, .int .i64 c, .imm d, .bool e]), (5, 2, .agg [.int .i64 f, .int .i64 g]), (7, 1, .int .i64 i)] = some [.imm a, .imm b, .int .i64 c, .imm d, .bool e, .int .i64 f, .int .i64 g, .int .i64 i, .snil] := rfl
end Go.Proofs.YtmfkjlnhanomfaaGreat.Nl
