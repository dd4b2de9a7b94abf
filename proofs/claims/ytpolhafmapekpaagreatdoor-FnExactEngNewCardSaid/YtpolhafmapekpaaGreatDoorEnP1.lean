/- What the functions that FnExactEngNew calls answer, for every argument within the law's bounds: part 1. -/
import Derived.Test.YtpolhafmapekpaaGreatDoorEnEvE
import Derived.Test.YtpolhafmapekpaaGreatDoorProg
import Derived.Lib.AtoiAllCases
import Derived.Lib.ItoaLen
import Derived.Lib.ItoaMem
import Derived.Lib.ItoaNum
import Derived.Lib.Split
set_option linter.unusedVariables false
set_option linter.unusedSimpArgs false
set_option linter.unnecessarySimpa false
namespace Go.Proofs.YtpolhafmapekpaaGreatDoor.En
open Go Go.RowKit Go.Ev
set_option maxHeartbeats 1600000
def s_laws_toFault : SFn:= ⟨14,.seq (.rg [⟨some 1,none,.box (.t 0)⟩,⟨some 2,none,.alloc [.int .i64 0,.int .i64 0,.int .i64 0]⟩]) (.seq (.rg [⟨some 3,none,.alloc [.int .i64 0,.int .i64 0,.int .i64 0]⟩]) (.seq (.rg [⟨some 4,none,.fa 0 (.t 1)⟩,⟨some 5,none,.ld (.t 4)⟩,⟨some 6,none,.fa 0 (.t 3)⟩,⟨none,none,.st 1 (.t 6) (.t 5)⟩]) (.seq (.rg [⟨some 7,none,.fa 1 (.t 1)⟩,⟨some 8,none,.ld (.t 7)⟩,⟨some 9,none,.fa 1 (.t 3)⟩,⟨none,none,.st 1 (.t 9) (.t 8)⟩]) (.seq (.rg [⟨some 10,none,.fa 2 (.t 1)⟩,⟨some 11,none,.ld (.t 10)⟩,⟨some 12,none,.fa 2 (.t 3)⟩,⟨none,none,.st 1 (.t 12) (.t 11)⟩]) (.seq (.rg [⟨some 13,none,.ldA 3 (.t 3)⟩,⟨none,none,.st 3 (.t 2) (.t 13)⟩]) (.ret)))))),[.ldA 2 3]⟩
def s_spec_l10Is : SFn:= ⟨43,.seq (.rg [⟨some 4,none,.mv (.c (.bool false))⟩]) (.seq (.seq (.rg [⟨some 5,none,.mv (.t 0)⟩,⟨some 6,none,.nilc (.t 5)⟩,⟨some 7,none,.fa 2 (.t 6)⟩,⟨some 8,none,.ld (.t 7)⟩,⟨some 9,none,.mv (.t 8)⟩,⟨some 10,some (9,false),.mv (.t 0)⟩,⟨some 11,some (9,false),.nilc (.t 10)⟩,⟨some 12,some (9,false),.fa 1 (.t 11)⟩,⟨some 13,some (9,false),.ld (.t 12)⟩,⟨some 14,some (9,false),.mv (.t 0)⟩,⟨some 15,some (9,false),.nilc (.t 14)⟩,⟨some 16,some (9,false),.fa 0 (.t 15)⟩,⟨some 17,some (9,false),.ld (.t 16)⟩,⟨some 18,some (9,false),.lenL (.t 17)⟩,⟨some 19,some (9,false),.bin .geq (.t 13) (.t 18)⟩,⟨some 20,none,.pick (.t 9) (.c (.bool true)) (.t 19)⟩,⟨some 21,none,.mv (.t 20)⟩,⟨some 22,some (21,false),.mv (.t 0)⟩,⟨some 23,some (21,false),.nilc (.t 22)⟩,⟨some 24,some (21,false),.fa 0 (.t 23)⟩,⟨some 25,some (21,false),.ld (.t 24)⟩,⟨some 26,some (21,false),.mv (.t 0)⟩,⟨some 27,some (21,false),.nilc (.t 26)⟩,⟨some 28,some (21,false),.fa 1 (.t 27)⟩,⟨some 29,some (21,false),.ld (.t 28)⟩,⟨some 30,some (21,false),.ia 2 (.t 25) (.t 29)⟩,⟨some 31,some (21,false),.fa 1 (.t 30)⟩,⟨some 32,some (21,false),.ld (.t 31)⟩,⟨some 33,some (21,false),.mv (.t 1)⟩,⟨some 34,some (21,false),.bin .neq (.t 32) (.t 33)⟩,⟨some 35,none,.pick (.t 21) (.c (.bool true)) (.t 34)⟩]) (.cond (.t 35) (.seq (.rg [⟨some 4,none,.mv (.c (.bool false))⟩]) (.ret)) (.skip))) (.seq (.rg [⟨some 36,none,.mv (.t 0)⟩,⟨some 37,none,.nilc (.t 36)⟩,⟨some 38,none,.fa 1 (.t 37)⟩,⟨some 39,none,.ld (.t 38)⟩,⟨some 40,none,.bin .add (.t 39) (.c (.int .i64 1))⟩,⟨some 41,none,.nilc (.t 36)⟩,⟨some 42,none,.fa 1 (.t 41)⟩,⟨none,none,.st 1 (.t 42) (.t 40)⟩]) (.seq (.rg [⟨some 4,none,.mv (.c (.bool true))⟩]) (.ret)))),[.t 4]⟩
def s_spec_l9Type : SFn:= ⟨9,.seq (.rg [⟨some 2,none,.mv (.c (.str []))⟩]) (.seq (.rg [⟨some 4,none,.bslice false [.str []] 5 [(0,.c (.str [])),(1,.c (.str [105,110,116])),(2,.c (.str [110,117,109])),(3,.c (.str [116,101,120,116])),(4,.c (.str [98,111,111,108]))]⟩,⟨some 3,none,.mv (.t 4)⟩]) (.seq (.rg [⟨some 5,none,.mv (.t 3)⟩,⟨some 6,none,.mv (.t 0)⟩,⟨some 7,none,.ia 1 (.t 5) (.t 6)⟩,⟨some 8,none,.ld (.t 7)⟩,⟨some 2,none,.mv (.t 8)⟩]) (.ret))),[.t 2]⟩
def s_spec_l10Name : SFn:= ⟨55,.seq (.rg [⟨some 2,none,.mv (.c (.str []))⟩]) (.seq (.seq (.rg [⟨some 3,none,.mv (.t 0)⟩,⟨some 4,none,.nilc (.t 3)⟩,⟨some 5,none,.fa 2 (.t 4)⟩,⟨some 6,none,.ld (.t 5)⟩,⟨some 7,none,.mv (.t 6)⟩,⟨some 8,some (7,false),.mv (.t 0)⟩,⟨some 9,some (7,false),.nilc (.t 8)⟩,⟨some 10,some (7,false),.fa 1 (.t 9)⟩,⟨some 11,some (7,false),.ld (.t 10)⟩,⟨some 12,some (7,false),.mv (.t 0)⟩,⟨some 13,some (7,false),.nilc (.t 12)⟩,⟨some 14,some (7,false),.fa 0 (.t 13)⟩,⟨some 15,some (7,false),.ld (.t 14)⟩,⟨some 16,some (7,false),.lenL (.t 15)⟩,⟨some 17,some (7,false),.bin .geq (.t 11) (.t 16)⟩,⟨some 18,none,.pick (.t 7) (.c (.bool true)) (.t 17)⟩,⟨some 19,none,.mv (.t 18)⟩,⟨some 20,some (19,false),.mv (.t 0)⟩,⟨some 21,some (19,false),.nilc (.t 20)⟩,⟨some 22,some (19,false),.fa 0 (.t 21)⟩,⟨some 23,some (19,false),.ld (.t 22)⟩,⟨some 24,some (19,false),.mv (.t 0)⟩,⟨some 25,some (19,false),.nilc (.t 24)⟩,⟨some 26,some (19,false),.fa 1 (.t 25)⟩,⟨some 27,some (19,false),.ld (.t 26)⟩,⟨some 28,some (19,false),.ia 2 (.t 23) (.t 27)⟩,⟨some 29,some (19,false),.fa 0 (.t 28)⟩,⟨some 30,some (19,false),.ld (.t 29)⟩,⟨some 31,some (19,false),.bin .neq (.t 30) (.c (.int .i64 1))⟩,⟨some 32,none,.pick (.t 19) (.c (.bool true)) (.t 31)⟩]) (.cond (.t 32) (.seq (.rg [⟨some 33,none,.mv (.t 0)⟩,⟨some 34,none,.nilc (.t 33)⟩,⟨some 35,none,.fa 2 (.t 34)⟩,⟨none,none,.st 1 (.t 35) (.c (.bool true))⟩]) (.seq (.rg [⟨some 2,none,.mv (.c (.str []))⟩]) (.ret))) (.skip))) (.seq (.rg [⟨some 36,none,.mv (.t 0)⟩,⟨some 37,none,.nilc (.t 36)⟩,⟨some 38,none,.fa 1 (.t 37)⟩,⟨some 39,none,.ld (.t 38)⟩,⟨some 40,none,.bin .add (.t 39) (.c (.int .i64 1))⟩,⟨some 41,none,.nilc (.t 36)⟩,⟨some 42,none,.fa 1 (.t 41)⟩,⟨none,none,.st 1 (.t 42) (.t 40)⟩]) (.seq (.rg [⟨some 43,none,.mv (.t 0)⟩,⟨some 44,none,.nilc (.t 43)⟩,⟨some 45,none,.fa 0 (.t 44)⟩,⟨some 46,none,.ld (.t 45)⟩,⟨some 47,none,.mv (.t 0)⟩,⟨some 48,none,.nilc (.t 47)⟩,⟨some 49,none,.fa 1 (.t 48)⟩,⟨some 50,none,.ld (.t 49)⟩,⟨some 51,none,.bin .sub (.t 50) (.c (.int .i64 1))⟩,⟨some 52,none,.ia 2 (.t 46) (.t 51)⟩,⟨some 53,none,.fa 1 (.t 52)⟩,⟨some 54,none,.ld (.t 53)⟩,⟨some 2,none,.mv (.t 54)⟩]) (.ret)))),[.t 2]⟩
def s_spec_l10Must : SFn:= ⟨11,.seq (.rg [⟨some 4,none,.mv (.t 0)⟩,⟨some 5,none,.mv (.t 1)⟩,⟨some 6,none,.callW 105 [.t 4,.t 5]⟩,⟨some 7,none,.un .not (.t 6)⟩]) (.cond (.t 7) (.rg [⟨some 8,none,.mv (.t 0)⟩,⟨some 9,none,.nilc (.t 8)⟩,⟨some 10,none,.fa 2 (.t 9)⟩,⟨none,none,.st 1 (.t 10) (.c (.bool true))⟩]) (.skip)),[]⟩
def s_spec_l10Col_L0 : SCode:= .seq (.seq (.rg [⟨some 9,none,.mv (.t 4)⟩,⟨some 10,none,.bin .leq (.t 9) (.c (.int .i64 4))⟩]) (.cond (.t 10) (.skip) (.exit 0))) (.seq (.blk 1 (.seq (.rg [⟨some 13,none,.mv (.t 0)⟩,⟨some 14,none,.mv (.t 4)⟩,⟨some 15,none,.callP 155 [.t 14]⟩,⟨some 16,none,.callW 105 [.t 13,.t 15]⟩]) (.cond (.t 16) (.seq (.rg [⟨some 17,none,.mv (.t 4)⟩,⟨some 18,none,.fa 1 (.t 3)⟩,⟨none,none,.st 1 (.t 18) (.t 17)⟩]) (.exit 0)) (.skip)))) (.rg [⟨some 11,none,.mv (.t 4)⟩,⟨some 12,none,.bin .add (.t 11) (.c (.int .i64 1))⟩,⟨some 4,none,.mv (.t 12)⟩]))
def s_spec_l10Col : SFn:= ⟨25,.seq (.rg [⟨some 2,none,.alloc [.str [],.int .i64 0,.bool false]⟩]) (.seq (.rg [⟨some 5,none,.build [.str [],.int .i64 0,.bool false] []⟩,⟨some 3,none,.alloc [.str [],.int .i64 0,.bool false]⟩,⟨none,none,.st 3 (.t 3) (.t 5)⟩]) (.seq (.rg [⟨some 6,none,.mv (.t 0)⟩,⟨some 7,none,.callC 104 [.t 6]⟩,⟨some 8,none,.fa 0 (.t 3)⟩,⟨none,none,.st 1 (.t 8) (.t 7)⟩]) (.seq (.seq (.rg [⟨some 4,none,.mv (.c (.int .i64 1))⟩]) (.blk 0 (.loop s_spec_l10Col_L0))) (.seq (.rg [⟨some 19,none,.mv (.t 0)⟩,⟨some 20,none,.callW 105 [.t 19,.c (.str [110,117,108,108])]⟩,⟨some 21,none,.fa 2 (.t 3)⟩,⟨none,none,.st 1 (.t 21) (.t 20)⟩]) (.seq (.rg [⟨some 22,none,.mv (.t 0)⟩,⟨some 23,none,.callW 103 [.t 22,.c (.str [59])]⟩]) (.seq (.rg [⟨some 24,none,.ldA 3 (.t 3)⟩,⟨none,none,.st 3 (.t 2) (.t 24)⟩]) (.ret))))))),[.ldA 2 3]⟩
def s_spec_l9Col_L0 : SCode:= .seq (.seq (.rg [⟨some 6,none,.mv (.t 5)⟩,⟨some 7,none,.fa 1 (.t 2)⟩,⟨some 8,none,.ld (.t 7)⟩,⟨some 9,none,.lenL (.t 8)⟩,⟨some 10,none,.bin .lss (.t 6) (.t 9)⟩]) (.cond (.t 10) (.skip) (.exit 0))) (.seq (.blk 1 (.seq (.rg [⟨some 13,none,.fa 1 (.t 2)⟩,⟨some 14,none,.ld (.t 13)⟩,⟨some 15,none,.mv (.t 5)⟩,⟨some 16,none,.ia 3 (.t 14) (.t 15)⟩,⟨some 17,none,.fa 0 (.t 16)⟩,⟨some 18,none,.ld (.t 17)⟩,⟨some 19,none,.mv (.t 1)⟩,⟨some 20,none,.bin .eql (.t 18) (.t 19)⟩]) (.cond (.t 20) (.seq (.rg [⟨some 21,none,.mv (.t 5)⟩,⟨some 4,none,.mv (.t 21)⟩]) (.ret)) (.skip)))) (.rg [⟨some 11,none,.mv (.t 5)⟩,⟨some 12,none,.bin .add (.t 11) (.c (.int .i64 1))⟩,⟨some 5,none,.mv (.t 12)⟩]))
def s_spec_l9Col : SFn:= ⟨22,.seq (.rg [⟨some 2,none,.box (.t 0)⟩,⟨some 4,none,.mv (.c (.int .i64 0))⟩]) (.seq (.seq (.rg [⟨some 5,none,.mv (.c (.int .i64 0))⟩]) (.blk 0 (.loop s_spec_l9Col_L0))) (.seq (.rg [⟨some 4,none,.mv (.c (.int .i64 (-1)))⟩]) (.ret))),[.t 4]⟩
def s_spec_l10Parts_L0 : SCode:= .seq (.seq (.rg [⟨some 10,none,.mv (.t 6)⟩,⟨some 11,none,.mv (.t 10)⟩,⟨some 12,some (11,true),.mv (.t 0)⟩,⟨some 13,some (11,true),.nilc (.t 12)⟩,⟨some 14,some (11,true),.fa 2 (.t 13)⟩,⟨some 15,some (11,true),.ld (.t 14)⟩,⟨some 16,some (11,true),.un .not (.t 15)⟩,⟨some 17,none,.pick (.t 11) (.t 16) (.c (.bool false))⟩]) (.cond (.t 17) (.skip) (.exit 0))) (.blk 1 (.seq (.rg [⟨some 18,none,.ldAG 4 (.t 3)⟩,⟨some 19,none,.mv (.t 0)⟩,⟨some 20,none,.callC 104 [.t 19]⟩,⟨some 21,none,.callP 156 [.t 18,.t 20]⟩,⟨some 7,none,.mv (.t 21)⟩]) (.seq (.rg [⟨some 22,none,.mv (.t 0)⟩,⟨some 23,none,.callW 105 [.t 22,.c (.str [100,101,115,99])]⟩,⟨some 8,none,.mv (.t 23)⟩]) (.seq (.rg [⟨some 24,none,.mv (.t 5)⟩,⟨some 25,none,.mv (.t 7)⟩,⟨some 26,none,.mv (.t 8)⟩,⟨some 27,none,.build [.int .i64 0,.bool false] [(0,(1,.t 25)),(1,(1,.t 26))]⟩,⟨some 28,none,.bslice false [.int .i64 0,.bool false] 1 [(0,.t 27)]⟩,⟨some 29,none,.app false 16 2 (.t 24) (.t 28)⟩,⟨some 5,none,.mv (.t 29)⟩]) (.rg [⟨some 30,none,.mv (.t 0)⟩,⟨some 31,none,.callW 105 [.t 30,.c (.str [44])]⟩,⟨some 6,none,.mv (.t 31)⟩])))))
def s_spec_l10Parts : SFn:= ⟨35,.seq (.rg [⟨some 3,none,.box (.t 1)⟩,⟨some 4,none,.mv (.c .snil)⟩]) (.seq (.rg [⟨some 9,none,.bslice false [.int .i64 0,.bool false] 0 []⟩,⟨some 5,none,.mv (.t 9)⟩]) (.seq (.seq (.rg [⟨some 6,none,.mv (.c (.bool true))⟩]) (.blk 0 (.loop s_spec_l10Parts_L0))) (.seq (.rg [⟨some 32,none,.mv (.t 0)⟩,⟨some 33,none,.callW 103 [.t 32,.c (.str [59])]⟩]) (.seq (.rg [⟨some 34,none,.mv (.t 5)⟩,⟨some 4,none,.mv (.t 34)⟩]) (.ret))))),[.t 4]⟩
def s_spec_l10Index : SFn:= ⟨18,.seq (.rg [⟨some 4,none,.box (.t 1)⟩,⟨some 6,none,.alloc [.str [],.bool false,.snil]⟩]) (.seq (.rg [⟨some 8,none,.mv (.t 2)⟩,⟨some 9,none,.build [.str [],.bool false,.snil] [(1,(1,.t 8))]⟩,⟨some 7,none,.alloc [.str [],.bool false,.snil]⟩,⟨none,none,.st 3 (.t 7) (.t 9)⟩]) (.seq (.rg [⟨some 10,none,.mv (.t 0)⟩,⟨some 11,none,.callC 104 [.t 10]⟩,⟨some 12,none,.fa 0 (.t 7)⟩,⟨none,none,.st 1 (.t 12) (.t 11)⟩]) (.seq (.rg [⟨some 13,none,.mv (.t 0)⟩,⟨some 14,none,.ldA 4 (.t 4)⟩,⟨some 15,none,.callW 107 [.t 13,.t 14]⟩,⟨some 16,none,.fa 2 (.t 7)⟩,⟨none,none,.st 1 (.t 16) (.t 15)⟩]) (.seq (.rg [⟨some 17,none,.ldA 3 (.t 7)⟩,⟨none,none,.st 3 (.t 6) (.t 17)⟩]) (.ret))))),[.ldA 6 3]⟩
def s_spec_l10Def_L0 : SCode:= .seq (.seq (.rg [⟨some 15,none,.mv (.t 0)⟩,⟨some 16,none,.nilc (.t 15)⟩,⟨some 17,none,.fa 2 (.t 16)⟩,⟨some 18,none,.ld (.t 17)⟩,⟨some 19,none,.un .not (.t 18)⟩,⟨some 20,none,.mv (.t 19)⟩,⟨some 21,some (20,true),.mv (.t 0)⟩,⟨some 22,some (20,true),.callW 105 [.t 21,.c (.str [112,114,105,109,97,114,121])]⟩,⟨some 23,some (20,true),.un .not (.t 22)⟩,⟨some 24,none,.pick (.t 20) (.t 23) (.c (.bool false))⟩]) (.cond (.t 24) (.skip) (.exit 0))) (.blk 1 (.seq (.rg [⟨some 25,none,.mv (.t 0)⟩,⟨some 26,none,.callW 106 [.t 25]⟩,⟨some 4,none,.alloc [.str [],.int .i64 0,.bool false]⟩,⟨none,none,.st 3 (.t 4) (.t 26)⟩]) (.rg [⟨some 27,none,.fa 1 (.t 3)⟩,⟨some 28,none,.ld (.t 27)⟩,⟨some 29,none,.ldA 3 (.t 4)⟩,⟨some 30,none,.bslice false [.str [],.int .i64 0,.bool false] 1 [(0,.t 29)]⟩,⟨some 31,none,.app false 32 3 (.t 28) (.t 30)⟩,⟨some 32,none,.fa 1 (.t 3)⟩,⟨none,none,.st 1 (.t 32) (.t 31)⟩])))
def s_spec_l10Def_L1 : SCode:= .seq (.seq (.rg [⟨some 37,none,.mv (.t 0)⟩,⟨some 38,none,.nilc (.t 37)⟩,⟨some 39,none,.fa 2 (.t 38)⟩,⟨some 40,none,.ld (.t 39)⟩,⟨some 41,none,.un .not (.t 40)⟩,⟨some 42,none,.mv (.t 41)⟩,⟨some 43,some (42,true),.mv (.t 0)⟩,⟨some 44,some (42,true),.callW 105 [.t 43,.c (.str [125])]⟩,⟨some 45,some (42,true),.un .not (.t 44)⟩,⟨some 46,none,.pick (.t 42) (.t 45) (.c (.bool false))⟩]) (.cond (.t 46) (.skip) (.exit 2))) (.blk 3 (.seq (.rg [⟨some 47,none,.mv (.t 0)⟩,⟨some 48,none,.callW 105 [.t 47,.c (.str [117,110,105,113,117,101])]⟩,⟨some 5,none,.mv (.t 48)⟩]) (.seq (.seq (.rg [⟨some 49,none,.mv (.t 5)⟩,⟨some 50,none,.un .not (.t 49)⟩]) (.cond (.t 50) (.rg [⟨some 51,none,.mv (.t 0)⟩,⟨some 52,none,.callW 103 [.t 51,.c (.str [105,110,100,101,120])]⟩]) (.skip))) (.seq (.rg [⟨some 53,none,.mv (.t 0)⟩,⟨some 54,none,.ldA 4 (.t 3)⟩,⟨some 55,none,.mv (.t 5)⟩,⟨some 56,none,.callW 108 [.t 53,.t 54,.t 55]⟩,⟨some 6,none,.alloc [.str [],.bool false,.snil]⟩,⟨none,none,.st 3 (.t 6) (.t 56)⟩]) (.rg [⟨some 57,none,.fa 3 (.t 3)⟩,⟨some 58,none,.ld (.t 57)⟩,⟨some 59,none,.ldA 3 (.t 6)⟩,⟨some 60,none,.bslice false [.str [],.bool false,.snil] 1 [(0,.t 59)]⟩,⟨some 61,none,.app false 48 3 (.t 58) (.t 60)⟩,⟨some 62,none,.fa 3 (.t 3)⟩,⟨none,none,.st 1 (.t 62) (.t 61)⟩])))))
def s_spec_l10Def : SFn:= ⟨64,.seq (.rg [⟨some 2,none,.alloc [.str [],.snil,.snil,.snil]⟩]) (.seq (.rg [⟨some 7,none,.build [.str [],.snil,.snil,.snil] []⟩,⟨some 3,none,.alloc [.str [],.snil,.snil,.snil]⟩,⟨none,none,.st 4 (.t 3) (.t 7)⟩]) (.seq (.rg [⟨some 8,none,.mv (.t 0)⟩,⟨some 9,none,.callW 103 [.t 8,.c (.str [116,97,98,108,101])]⟩]) (.seq (.rg [⟨some 10,none,.mv (.t 0)⟩,⟨some 11,none,.callC 104 [.t 10]⟩,⟨some 12,none,.fa 0 (.t 3)⟩,⟨none,none,.st 1 (.t 12) (.t 11)⟩]) (.seq (.rg [⟨some 13,none,.mv (.t 0)⟩,⟨some 14,none,.callW 103 [.t 13,.c (.str [123])]⟩]) (.seq (.blk 0 (.loop s_spec_l10Def_L0)) (.seq (.rg [⟨some 33,none,.mv (.t 0)⟩,⟨some 34,none,.ldA 4 (.t 3)⟩,⟨some 35,none,.callW 107 [.t 33,.t 34]⟩,⟨some 36,none,.fa 2 (.t 3)⟩,⟨none,none,.st 1 (.t 36) (.t 35)⟩]) (.seq (.blk 2 (.loop s_spec_l10Def_L1)) (.seq (.rg [⟨some 63,none,.ldA 4 (.t 3)⟩,⟨none,none,.st 4 (.t 2) (.t 63)⟩]) (.ret))))))))),[.ldA 2 4]⟩
def s_spec_l1In : SFn:= ⟨15,.seq (.rg [⟨some 6,none,.mv (.c (.bool false))⟩]) (.seq (.rg [⟨some 7,none,.mv (.t 0)⟩,⟨some 8,none,.mv (.t 1)⟩,⟨some 9,none,.bin .geq (.t 7) (.t 8)⟩,⟨some 10,none,.mv (.t 9)⟩,⟨some 11,some (10,true),.mv (.t 0)⟩,⟨some 12,some (10,true),.mv (.t 2)⟩,⟨some 13,some (10,true),.bin .leq (.t 11) (.t 12)⟩,⟨some 14,none,.pick (.t 10) (.t 13) (.c (.bool false))⟩,⟨some 6,none,.mv (.t 14)⟩]) (.ret)),[.t 6]⟩
def s_spec_l8Small : SFn:= ⟨6,.seq (.rg [⟨some 2,none,.mv (.c (.bool false))⟩]) (.seq (.rg [⟨some 3,none,.mv (.t 0)⟩,⟨some 4,none,.cvI .i64 (.t 3)⟩,⟨some 5,none,.callP 62 [.t 4,.c (.int .i64 97),.c (.int .i64 122)]⟩,⟨some 2,none,.mv (.t 5)⟩]) (.ret)),[.t 2]⟩
def s_spec_l2Digit : SFn:= ⟨6,.seq (.rg [⟨some 2,none,.mv (.c (.bool false))⟩]) (.seq (.rg [⟨some 3,none,.mv (.t 0)⟩,⟨some 4,none,.cvI .i64 (.t 3)⟩,⟨some 5,none,.callP 62 [.t 4,.c (.int .i64 48),.c (.int .i64 57)]⟩,⟨some 2,none,.mv (.t 5)⟩]) (.ret)),[.t 2]⟩
def s_spec_l8Name_L0 : SCode:= .seq (.seq (.rg [⟨some 4,none,.mv (.t 3)⟩,⟨some 5,none,.mv (.t 0)⟩,⟨some 6,none,.lenS (.t 5)⟩,⟨some 7,none,.bin .lss (.t 4) (.t 6)⟩]) (.cond (.t 7) (.skip) (.exit 0))) (.seq (.blk 1 (.seq (.rg [⟨some 10,none,.mv (.t 0)⟩,⟨some 11,none,.mv (.t 3)⟩,⟨some 12,none,.ix (.t 10) (.t 11)⟩,⟨some 13,none,.callP 100 [.t 12]⟩,⟨some 14,none,.un .not (.t 13)⟩,⟨some 15,none,.mv (.t 14)⟩,⟨some 16,some (15,true),.mv (.t 3)⟩,⟨some 17,some (15,true),.bin .eql (.t 16) (.c (.int .i64 0))⟩,⟨some 18,some (15,true),.mv (.t 17)⟩,⟨some 19,some (18,false),.mv (.t 0)⟩,⟨some 20,some (18,false),.mv (.t 3)⟩,⟨some 21,some (18,false),.ix (.t 19) (.t 20)⟩,⟨some 22,some (18,false),.callP 101 [.t 21]⟩,⟨some 23,some (18,false),.un .not (.t 22)⟩,⟨some 24,some (15,true),.pick (.t 18) (.c (.bool true)) (.t 23)⟩,⟨some 25,none,.pick (.t 15) (.t 24) (.c (.bool false))⟩]) (.cond (.t 25) (.seq (.rg [⟨some 2,none,.mv (.c (.bool false))⟩]) (.ret)) (.skip)))) (.rg [⟨some 8,none,.mv (.t 3)⟩,⟨some 9,none,.bin .add (.t 8) (.c (.int .i64 1))⟩,⟨some 3,none,.mv (.t 9)⟩]))
def s_spec_l8Name : SFn:= ⟨29,.seq (.rg [⟨some 2,none,.mv (.c (.bool false))⟩]) (.seq (.seq (.rg [⟨some 3,none,.mv (.c (.int .i64 0))⟩]) (.blk 0 (.loop s_spec_l8Name_L0))) (.seq (.rg [⟨some 26,none,.mv (.t 0)⟩,⟨some 27,none,.lenS (.t 26)⟩,⟨some 28,none,.callP 62 [.t 27,.c (.int .i64 1),.c (.int .i64 8)]⟩,⟨some 2,none,.mv (.t 28)⟩]) (.ret))),[.t 2]⟩
def s_spec_l8Mark : SFn:= ⟨17,.seq (.rg [⟨some 2,none,.mv (.c (.bool false))⟩]) (.seq (.rg [⟨some 3,none,.mv (.t 0)⟩,⟨some 4,none,.bin .eql (.t 3) (.c (.str [123]))⟩,⟨some 5,none,.mv (.t 4)⟩,⟨some 6,some (5,false),.mv (.t 0)⟩,⟨some 7,some (5,false),.bin .eql (.t 6) (.c (.str [125]))⟩,⟨some 8,none,.pick (.t 5) (.c (.bool true)) (.t 7)⟩,⟨some 9,none,.mv (.t 8)⟩,⟨some 10,some (9,false),.mv (.t 0)⟩,⟨some 11,some (9,false),.bin .eql (.t 10) (.c (.str [44]))⟩,⟨some 12,none,.pick (.t 9) (.c (.bool true)) (.t 11)⟩,⟨some 13,none,.mv (.t 12)⟩,⟨some 14,some (13,false),.mv (.t 0)⟩,⟨some 15,some (13,false),.bin .eql (.t 14) (.c (.str [59]))⟩,⟨some 16,none,.pick (.t 13) (.c (.bool true)) (.t 15)⟩,⟨some 2,none,.mv (.t 16)⟩]) (.ret)),[.t 2]⟩
def s_spec_TokenOk : SFn:= ⟨15,.seq (.rg [⟨some 1,none,.box (.t 0)⟩,⟨some 2,none,.mv (.c (.bool false))⟩]) (.seq (.seq (.rg [⟨some 3,none,.fa 0 (.t 1)⟩,⟨some 4,none,.ld (.t 3)⟩]) (.blk 0 (.seq (.rg [⟨some 6,none,.bin .eql (.t 4) (.c (.int .i64 1))⟩,⟨some 5,none,.mv (.t 6)⟩]) (.cond (.t 5) (.seq (.rg [⟨some 7,none,.fa 1 (.t 1)⟩,⟨some 8,none,.ld (.t 7)⟩,⟨some 9,none,.callP 153 [.t 8]⟩,⟨some 2,none,.mv (.t 9)⟩]) (.ret)) (.seq (.rg [⟨some 11,none,.bin .eql (.t 4) (.c (.int .i64 2))⟩,⟨some 10,none,.mv (.t 11)⟩]) (.cond (.t 10) (.seq (.rg [⟨some 12,none,.fa 1 (.t 1)⟩,⟨some 13,none,.ld (.t 12)⟩,⟨some 14,none,.callP 154 [.t 13]⟩,⟨some 2,none,.mv (.t 14)⟩]) (.ret)) (.skip))))))) (.seq (.rg [⟨some 2,none,.mv (.c (.bool false))⟩]) (.ret))),[.t 2]⟩
def s_spec_Lex_L0 : SCode:= .seq (.seq (.rg [⟨some 39,none,.mv (.t 7)⟩,⟨some 40,none,.mv (.t 0)⟩,⟨some 41,none,.lenS (.t 40)⟩,⟨some 42,none,.bin .lss (.t 39) (.t 41)⟩,⟨some 43,none,.mv (.t 42)⟩,⟨some 44,some (43,true),.mv (.t 0)⟩,⟨some 45,some (43,true),.mv (.t 7)⟩,⟨some 46,some (43,true),.ix (.t 44) (.t 45)⟩,⟨some 47,some (43,true),.callP 100 [.t 46]⟩,⟨some 48,some (43,true),.mv (.t 47)⟩,⟨some 49,some (48,false),.mv (.t 0)⟩,⟨some 50,some (48,false),.mv (.t 7)⟩,⟨some 51,some (48,false),.ix (.t 49) (.t 50)⟩,⟨some 52,some (48,false),.callP 101 [.t 51]⟩,⟨some 53,some (43,true),.pick (.t 48) (.c (.bool true)) (.t 52)⟩,⟨some 54,none,.pick (.t 43) (.t 53) (.c (.bool false))⟩]) (.cond (.t 54) (.skip) (.exit 2))) (.blk 3 (.rg [⟨some 55,none,.mv (.t 7)⟩,⟨some 56,none,.bin .add (.t 55) (.c (.int .i64 1))⟩,⟨some 7,none,.mv (.t 56)⟩]))
def s_spec_Lex_L1 : SCode:= .seq (.seq (.rg [⟨some 10,none,.mv (.t 5)⟩,⟨some 11,none,.mv (.t 0)⟩,⟨some 12,none,.lenS (.t 11)⟩,⟨some 13,none,.bin .lss (.t 10) (.t 12)⟩]) (.cond (.t 13) (.skip) (.exit 0))) (.blk 1 (.seq (.rg [⟨some 14,none,.mv (.t 0)⟩,⟨some 15,none,.mv (.t 5)⟩,⟨some 16,none,.ix (.t 14) (.t 15)⟩,⟨some 6,none,.mv (.t 16)⟩]) (.seq (.seq (.rg [⟨some 17,none,.mv (.t 6)⟩,⟨some 18,none,.bin .eql (.t 17) (.c (.int .u8 32))⟩,⟨some 19,none,.mv (.t 18)⟩,⟨some 20,some (19,false),.mv (.t 6)⟩,⟨some 21,some (19,false),.bin .eql (.t 20) (.c (.int .u8 9))⟩,⟨some 22,none,.pick (.t 19) (.c (.bool true)) (.t 21)⟩,⟨some 23,none,.mv (.t 22)⟩,⟨some 24,some (23,false),.mv (.t 6)⟩,⟨some 25,some (23,false),.bin .eql (.t 24) (.c (.int .u8 10))⟩,⟨some 26,none,.pick (.t 23) (.c (.bool true)) (.t 25)⟩,⟨some 27,none,.mv (.t 26)⟩,⟨some 28,some (27,false),.mv (.t 6)⟩,⟨some 29,some (27,false),.bin .eql (.t 28) (.c (.int .u8 13))⟩,⟨some 30,none,.pick (.t 27) (.c (.bool true)) (.t 29)⟩]) (.cond (.t 30) (.seq (.rg [⟨some 31,none,.mv (.t 5)⟩,⟨some 32,none,.bin .add (.t 31) (.c (.int .i64 1))⟩,⟨some 5,none,.mv (.t 32)⟩]) (.exit 1)) (.skip))) (.seq (.rg [⟨some 33,none,.mv (.t 5)⟩,⟨some 34,none,.bin .add (.t 33) (.c (.int .i64 1))⟩,⟨some 7,none,.mv (.t 34)⟩]) (.seq (.rg [⟨some 35,none,.build [.int .i64 0,.str []] [(0,(1,.c (.int .i64 2)))]⟩,⟨some 8,none,.alloc [.int .i64 0,.str []]⟩,⟨none,none,.st 2 (.t 8) (.t 35)⟩]) (.seq (.seq (.rg [⟨some 36,none,.mv (.t 6)⟩,⟨some 37,none,.callP 100 [.t 36]⟩]) (.cond (.t 37) (.seq (.rg [⟨some 38,none,.fa 0 (.t 8)⟩,⟨none,none,.st 1 (.t 38) (.c (.int .i64 1))⟩]) (.blk 2 (.loop s_spec_Lex_L0))) (.skip))) (.seq (.rg [⟨some 57,none,.mv (.t 0)⟩,⟨some 58,none,.mv (.t 5)⟩,⟨some 59,none,.mv (.t 7)⟩,⟨some 60,none,.sliS (.t 57) (some (.t 58)) (some (.t 59))⟩,⟨some 61,none,.fa 1 (.t 8)⟩,⟨none,none,.st 1 (.t 61) (.t 60)⟩]) (.seq (.seq (.rg [⟨some 62,none,.ldA 2 (.t 8)⟩,⟨some 63,none,.callP 102 [.t 62]⟩,⟨some 64,none,.un .not (.t 63)⟩,⟨some 65,none,.mv (.t 64)⟩,⟨some 66,some (65,false),.mv (.t 4)⟩,⟨some 67,some (65,false),.lenL (.t 66)⟩,⟨some 68,some (65,false),.bin .eql (.t 67) (.c (.int .i64 500))⟩,⟨some 69,none,.pick (.t 65) (.c (.bool true)) (.t 68)⟩]) (.cond (.t 69) (.seq (.rg [⟨some 70,none,.bslice false [.int .i64 0,.str []] 0 []⟩,⟨some 71,none,.mv (.t 5)⟩,⟨some 2,none,.mv (.t 70)⟩,⟨some 3,none,.mv (.t 71)⟩]) (.ret)) (.skip))) (.seq (.rg [⟨some 72,none,.mv (.t 4)⟩,⟨some 73,none,.ldA 2 (.t 8)⟩,⟨some 74,none,.bslice false [.int .i64 0,.str []] 1 [(0,.t 73)]⟩,⟨some 75,none,.app false 24 2 (.t 72) (.t 74)⟩,⟨some 4,none,.mv (.t 75)⟩]) (.rg [⟨some 76,none,.mv (.t 7)⟩,⟨some 5,none,.mv (.t 76)⟩]))))))))))
def s_spec_Lex : SFn:= ⟨78,.seq (.rg [⟨some 2,none,.mv (.c .snil)⟩,⟨some 3,none,.mv (.c (.int .i64 0))⟩]) (.seq (.rg [⟨some 9,none,.bslice false [.int .i64 0,.str []] 0 []⟩,⟨some 4,none,.mv (.t 9)⟩]) (.seq (.rg [⟨some 5,none,.mv (.c (.int .i64 0))⟩]) (.seq (.blk 0 (.loop s_spec_Lex_L1)) (.seq (.rg [⟨some 77,none,.mv (.t 4)⟩,⟨some 2,none,.mv (.t 77)⟩,⟨some 3,none,.mv (.c (.int .i64 (-1)))⟩]) (.ret))))),[.t 2,.t 3]⟩
def s_spec_l9Has_L0 : SCode:= .seq (.seq (.rg [⟨some 6,none,.mv (.t 5)⟩,⟨some 7,none,.mv (.t 0)⟩,⟨some 8,none,.lenL (.t 7)⟩,⟨some 9,none,.bin .lss (.t 6) (.t 8)⟩]) (.cond (.t 9) (.skip) (.exit 0))) (.seq (.blk 1 (.seq (.rg [⟨some 12,none,.mv (.t 0)⟩,⟨some 13,none,.mv (.t 5)⟩,⟨some 14,none,.ia 1 (.t 12) (.t 13)⟩,⟨some 15,none,.ld (.t 14)⟩,⟨some 16,none,.mv (.t 1)⟩,⟨some 17,none,.bin .eql (.t 15) (.t 16)⟩]) (.cond (.t 17) (.seq (.rg [⟨some 4,none,.mv (.c (.bool true))⟩]) (.ret)) (.skip)))) (.rg [⟨some 10,none,.mv (.t 5)⟩,⟨some 11,none,.bin .add (.t 10) (.c (.int .i64 1))⟩,⟨some 5,none,.mv (.t 11)⟩]))
def s_spec_l9Has : SFn:= ⟨18,.seq (.rg [⟨some 4,none,.mv (.c (.bool false))⟩]) (.seq (.seq (.rg [⟨some 5,none,.mv (.c (.int .i64 0))⟩]) (.blk 0 (.loop s_spec_l9Has_L0))) (.seq (.rg [⟨some 4,none,.mv (.c (.bool false))⟩]) (.ret))),[.t 4]⟩
def s_spec_l9Word : SFn:= ⟨11,.seq (.rg [⟨some 2,none,.mv (.c (.bool false))⟩]) (.seq (.rg [⟨some 3,none,.mv (.t 0)⟩,⟨some 4,none,.callP 153 [.t 3]⟩,⟨some 5,none,.mv (.t 4)⟩,⟨some 6,some (5,true),.bslice false [.str []] 10 [(0,.c (.str [116,97,98,108,101])),(1,.c (.str [112,114,105,109,97,114,121])),(2,.c (.str [117,110,105,113,117,101])),(3,.c (.str [105,110,100,101,120])),(4,.c (.str [110,117,108,108])),(5,.c (.str [100,101,115,99])),(6,.c (.str [105,110,116])),(7,.c (.str [110,117,109])),(8,.c (.str [116,101,120,116])),(9,.c (.str [98,111,111,108]))]⟩,⟨some 7,some (5,true),.mv (.t 0)⟩,⟨some 8,some (5,true),.callP 218 [.t 6,.t 7]⟩,⟨some 9,some (5,true),.un .not (.t 8)⟩,⟨some 10,none,.pick (.t 5) (.t 9) (.c (.bool false))⟩,⟨some 2,none,.mv (.t 10)⟩]) (.ret)),[.t 2]⟩
def s_spec_l9Names_L0 : SCode:= .seq (.seq (.rg [⟨some 5,none,.mv (.t 3)⟩,⟨some 6,none,.fa 1 (.t 1)⟩,⟨some 7,none,.ld (.t 6)⟩,⟨some 8,none,.lenL (.t 7)⟩,⟨some 9,none,.bin .lss (.t 5) (.t 8)⟩]) (.cond (.t 9) (.skip) (.exit 0))) (.seq (.blk 1 (.seq (.rg [⟨some 12,none,.fa 1 (.t 1)⟩,⟨some 13,none,.ld (.t 12)⟩,⟨some 14,none,.mv (.t 3)⟩,⟨some 15,none,.ia 3 (.t 13) (.t 14)⟩,⟨some 16,none,.fa 0 (.t 15)⟩,⟨some 17,none,.ld (.t 16)⟩,⟨some 18,none,.callP 193 [.t 17]⟩,⟨some 19,none,.un .not (.t 18)⟩]) (.cond (.t 19) (.seq (.rg [⟨some 2,none,.mv (.c (.bool false))⟩]) (.ret)) (.skip)))) (.rg [⟨some 10,none,.mv (.t 3)⟩,⟨some 11,none,.bin .add (.t 10) (.c (.int .i64 1))⟩,⟨some 3,none,.mv (.t 11)⟩]))
def s_spec_l9Names_L1 : SCode:= .seq (.seq (.rg [⟨some 20,none,.mv (.t 4)⟩,⟨some 21,none,.fa 3 (.t 1)⟩,⟨some 22,none,.ld (.t 21)⟩,⟨some 23,none,.lenL (.t 22)⟩,⟨some 24,none,.bin .lss (.t 20) (.t 23)⟩]) (.cond (.t 24) (.skip) (.exit 2))) (.seq (.blk 3 (.seq (.rg [⟨some 27,none,.fa 3 (.t 1)⟩,⟨some 28,none,.ld (.t 27)⟩,⟨some 29,none,.mv (.t 4)⟩,⟨some 30,none,.ia 3 (.t 28) (.t 29)⟩,⟨some 31,none,.fa 0 (.t 30)⟩,⟨some 32,none,.ld (.t 31)⟩,⟨some 33,none,.callP 193 [.t 32]⟩,⟨some 34,none,.un .not (.t 33)⟩]) (.cond (.t 34) (.seq (.rg [⟨some 2,none,.mv (.c (.bool false))⟩]) (.ret)) (.skip)))) (.rg [⟨some 25,none,.mv (.t 4)⟩,⟨some 26,none,.bin .add (.t 25) (.c (.int .i64 1))⟩,⟨some 4,none,.mv (.t 26)⟩]))
def s_spec_l9Names : SFn:= ⟨38,.seq (.rg [⟨some 1,none,.box (.t 0)⟩,⟨some 2,none,.mv (.c (.bool false))⟩]) (.seq (.seq (.rg [⟨some 3,none,.mv (.c (.int .i64 0))⟩]) (.blk 0 (.loop s_spec_l9Names_L0))) (.seq (.seq (.rg [⟨some 4,none,.mv (.c (.int .i64 0))⟩]) (.blk 2 (.loop s_spec_l9Names_L1))) (.seq (.rg [⟨some 35,none,.fa 0 (.t 1)⟩,⟨some 36,none,.ld (.t 35)⟩,⟨some 37,none,.callP 193 [.t 36]⟩,⟨some 2,none,.mv (.t 37)⟩]) (.ret)))),[.t 2]⟩
def s_spec_l9Types_L0 : SCode:= .seq (.seq (.rg [⟨some 4,none,.mv (.t 3)⟩,⟨some 5,none,.fa 1 (.t 1)⟩,⟨some 6,none,.ld (.t 5)⟩,⟨some 7,none,.lenL (.t 6)⟩,⟨some 8,none,.bin .lss (.t 4) (.t 7)⟩]) (.cond (.t 8) (.skip) (.exit 0))) (.seq (.blk 1 (.seq (.rg [⟨some 11,none,.fa 1 (.t 1)⟩,⟨some 12,none,.ld (.t 11)⟩,⟨some 13,none,.mv (.t 3)⟩,⟨some 14,none,.ia 3 (.t 12) (.t 13)⟩,⟨some 15,none,.fa 1 (.t 14)⟩,⟨some 16,none,.ld (.t 15)⟩,⟨some 17,none,.callP 62 [.t 16,.c (.int .i64 1),.c (.int .i64 4)]⟩,⟨some 18,none,.un .not (.t 17)⟩]) (.cond (.t 18) (.seq (.rg [⟨some 2,none,.mv (.c (.bool false))⟩]) (.ret)) (.skip)))) (.rg [⟨some 9,none,.mv (.t 3)⟩,⟨some 10,none,.bin .add (.t 9) (.c (.int .i64 1))⟩,⟨some 3,none,.mv (.t 10)⟩]))
def s_spec_l9Types : SFn:= ⟨23,.seq (.rg [⟨some 1,none,.box (.t 0)⟩,⟨some 2,none,.mv (.c (.bool false))⟩]) (.seq (.seq (.rg [⟨some 3,none,.mv (.c (.int .i64 0))⟩]) (.blk 0 (.loop s_spec_l9Types_L0))) (.seq (.rg [⟨some 19,none,.fa 1 (.t 1)⟩,⟨some 20,none,.ld (.t 19)⟩,⟨some 21,none,.lenL (.t 20)⟩,⟨some 22,none,.callP 62 [.t 21,.c (.int .i64 1),.c (.int .i64 6)]⟩,⟨some 2,none,.mv (.t 22)⟩]) (.ret))),[.t 2]⟩
def s_spec_l9Once_L0 : SCode:= .seq (.seq (.rg [⟨some 6,none,.mv (.t 3)⟩,⟨some 7,none,.fa 1 (.t 1)⟩,⟨some 8,none,.ld (.t 7)⟩,⟨some 9,none,.lenL (.t 8)⟩,⟨some 10,none,.bin .lss (.t 6) (.t 9)⟩]) (.cond (.t 10) (.skip) (.exit 0))) (.seq (.blk 1 (.seq (.rg [⟨some 13,none,.ldA 4 (.t 1)⟩,⟨some 14,none,.fa 1 (.t 1)⟩,⟨some 15,none,.ld (.t 14)⟩,⟨some 16,none,.mv (.t 3)⟩,⟨some 17,none,.ia 3 (.t 15) (.t 16)⟩,⟨some 18,none,.fa 0 (.t 17)⟩,⟨some 19,none,.ld (.t 18)⟩,⟨some 20,none,.callP 156 [.t 13,.t 19]⟩,⟨some 21,none,.mv (.t 3)⟩,⟨some 22,none,.bin .neq (.t 20) (.t 21)⟩]) (.cond (.t 22) (.seq (.rg [⟨some 2,none,.mv (.c (.bool false))⟩]) (.ret)) (.skip)))) (.rg [⟨some 11,none,.mv (.t 3)⟩,⟨some 12,none,.bin .add (.t 11) (.c (.int .i64 1))⟩,⟨some 3,none,.mv (.t 12)⟩]))
def s_spec_l9Once_L1 : SCode:= .seq (.seq (.rg [⟨some 30,none,.mv (.t 5)⟩,⟨some 31,none,.mv (.t 4)⟩,⟨some 32,none,.bin .lss (.t 30) (.t 31)⟩]) (.cond (.t 32) (.skip) (.exit 4))) (.seq (.blk 5 (.seq (.rg [⟨some 35,none,.fa 3 (.t 1)⟩,⟨some 36,none,.ld (.t 35)⟩,⟨some 37,none,.mv (.t 5)⟩,⟨some 38,none,.ia 3 (.t 36) (.t 37)⟩,⟨some 39,none,.fa 0 (.t 38)⟩,⟨some 40,none,.ld (.t 39)⟩,⟨some 41,none,.fa 3 (.t 1)⟩,⟨some 42,none,.ld (.t 41)⟩,⟨some 43,none,.mv (.t 4)⟩,⟨some 44,none,.ia 3 (.t 42) (.t 43)⟩,⟨some 45,none,.fa 0 (.t 44)⟩,⟨some 46,none,.ld (.t 45)⟩,⟨some 47,none,.bin .eql (.t 40) (.t 46)⟩]) (.cond (.t 47) (.seq (.rg [⟨some 2,none,.mv (.c (.bool false))⟩]) (.ret)) (.skip)))) (.rg [⟨some 33,none,.mv (.t 5)⟩,⟨some 34,none,.bin .add (.t 33) (.c (.int .i64 1))⟩,⟨some 5,none,.mv (.t 34)⟩]))
def s_spec_l9Once_L2 : SCode:= .seq (.seq (.rg [⟨some 23,none,.mv (.t 4)⟩,⟨some 24,none,.fa 3 (.t 1)⟩,⟨some 25,none,.ld (.t 24)⟩,⟨some 26,none,.lenL (.t 25)⟩,⟨some 27,none,.bin .lss (.t 23) (.t 26)⟩]) (.cond (.t 27) (.skip) (.exit 2))) (.seq (.blk 3 (.seq (.rg [⟨some 5,none,.mv (.c (.int .i64 0))⟩]) (.blk 4 (.loop s_spec_l9Once_L1)))) (.rg [⟨some 28,none,.mv (.t 4)⟩,⟨some 29,none,.bin .add (.t 28) (.c (.int .i64 1))⟩,⟨some 4,none,.mv (.t 29)⟩]))
def s_spec_l9Once : SFn:= ⟨48,.seq (.rg [⟨some 1,none,.box (.t 0)⟩,⟨some 2,none,.mv (.c (.bool false))⟩]) (.seq (.seq (.rg [⟨some 3,none,.mv (.c (.int .i64 0))⟩]) (.blk 0 (.loop s_spec_l9Once_L0))) (.seq (.seq (.rg [⟨some 4,none,.mv (.c (.int .i64 0))⟩]) (.blk 2 (.loop s_spec_l9Once_L2))) (.seq (.rg [⟨some 2,none,.mv (.c (.bool true))⟩]) (.ret)))),[.t 2]⟩
def s_spec_l9Parts_L0 : SCode:= .seq (.seq (.rg [⟨some 6,none,.mv (.t 5)⟩,⟨some 7,none,.mv (.t 1)⟩,⟨some 8,none,.lenL (.t 7)⟩,⟨some 9,none,.bin .lss (.t 6) (.t 8)⟩]) (.cond (.t 9) (.skip) (.exit 0))) (.seq (.blk 1 (.seq (.rg [⟨some 12,none,.mv (.t 1)⟩,⟨some 13,none,.mv (.t 5)⟩,⟨some 14,none,.ia 2 (.t 12) (.t 13)⟩,⟨some 15,none,.fa 0 (.t 14)⟩,⟨some 16,none,.ld (.t 15)⟩,⟨some 17,none,.fa 1 (.t 2)⟩,⟨some 18,none,.ld (.t 17)⟩,⟨some 19,none,.lenL (.t 18)⟩,⟨some 20,none,.bin .sub (.t 19) (.c (.int .i64 1))⟩,⟨some 21,none,.callP 62 [.t 16,.c (.int .i64 0),.t 20]⟩,⟨some 22,none,.un .not (.t 21)⟩,⟨some 23,none,.mv (.t 22)⟩,⟨some 24,some (23,false),.mv (.t 5)⟩,⟨some 25,some (23,false),.bin .gtr (.t 24) (.c (.int .i64 0))⟩,⟨some 26,some (23,false),.mv (.t 25)⟩,⟨some 27,some (26,true),.mv (.t 1)⟩,⟨some 28,some (26,true),.ia 2 (.t 27) (.c (.int .i64 0))⟩,⟨some 29,some (26,true),.fa 0 (.t 28)⟩,⟨some 30,some (26,true),.ld (.t 29)⟩,⟨some 31,some (26,true),.mv (.t 1)⟩,⟨some 32,some (26,true),.mv (.t 5)⟩,⟨some 33,some (26,true),.ia 2 (.t 31) (.t 32)⟩,⟨some 34,some (26,true),.fa 0 (.t 33)⟩,⟨some 35,some (26,true),.ld (.t 34)⟩,⟨some 36,some (26,true),.bin .eql (.t 30) (.t 35)⟩,⟨some 37,some (23,false),.pick (.t 26) (.t 36) (.c (.bool false))⟩,⟨some 38,none,.pick (.t 23) (.c (.bool true)) (.t 37)⟩]) (.cond (.t 38) (.seq (.rg [⟨some 4,none,.mv (.c (.bool false))⟩]) (.ret)) (.skip)))) (.rg [⟨some 10,none,.mv (.t 5)⟩,⟨some 11,none,.bin .add (.t 10) (.c (.int .i64 1))⟩,⟨some 5,none,.mv (.t 11)⟩]))
def s_spec_l9Parts : SFn:= ⟨42,.seq (.rg [⟨some 2,none,.box (.t 0)⟩,⟨some 4,none,.mv (.c (.bool false))⟩]) (.seq (.seq (.rg [⟨some 5,none,.mv (.c (.int .i64 0))⟩]) (.blk 0 (.loop s_spec_l9Parts_L0))) (.seq (.rg [⟨some 39,none,.mv (.t 1)⟩,⟨some 40,none,.lenL (.t 39)⟩,⟨some 41,none,.callP 62 [.t 40,.c (.int .i64 1),.c (.int .i64 2)]⟩,⟨some 4,none,.mv (.t 41)⟩]) (.ret))),[.t 4]⟩
def s_spec_l9AllParts_L0 : SCode:= .seq (.seq (.rg [⟨some 4,none,.mv (.t 3)⟩,⟨some 5,none,.fa 3 (.t 1)⟩,⟨some 6,none,.ld (.t 5)⟩,⟨some 7,none,.lenL (.t 6)⟩,⟨some 8,none,.bin .lss (.t 4) (.t 7)⟩]) (.cond (.t 8) (.skip) (.exit 0))) (.seq (.blk 1 (.seq (.rg [⟨some 11,none,.ldA 4 (.t 1)⟩,⟨some 12,none,.fa 3 (.t 1)⟩,⟨some 13,none,.ld (.t 12)⟩,⟨some 14,none,.mv (.t 3)⟩,⟨some 15,none,.ia 3 (.t 13) (.t 14)⟩,⟨some 16,none,.fa 2 (.t 15)⟩,⟨some 17,none,.ld (.t 16)⟩,⟨some 18,none,.callP 194 [.t 11,.t 17]⟩,⟨some 19,none,.un .not (.t 18)⟩]) (.cond (.t 19) (.seq (.rg [⟨some 2,none,.mv (.c (.bool false))⟩]) (.ret)) (.skip)))) (.rg [⟨some 9,none,.mv (.t 3)⟩,⟨some 10,none,.bin .add (.t 9) (.c (.int .i64 1))⟩,⟨some 3,none,.mv (.t 10)⟩]))
def s_spec_l9AllParts : SFn:= ⟨24,.seq (.rg [⟨some 1,none,.box (.t 0)⟩,⟨some 2,none,.mv (.c (.bool false))⟩]) (.seq (.seq (.rg [⟨some 3,none,.mv (.c (.int .i64 0))⟩]) (.blk 0 (.loop s_spec_l9AllParts_L0))) (.seq (.rg [⟨some 20,none,.ldA 4 (.t 1)⟩,⟨some 21,none,.fa 2 (.t 1)⟩,⟨some 22,none,.ld (.t 21)⟩,⟨some 23,none,.callP 194 [.t 20,.t 22]⟩,⟨some 2,none,.mv (.t 23)⟩]) (.ret))),[.t 2]⟩
def s_spec_CheckDef_L0 : SCode:= .seq (.seq (.rg [⟨some 25,none,.mv (.t 3)⟩,⟨some 26,none,.fa 2 (.t 1)⟩,⟨some 27,none,.ld (.t 26)⟩,⟨some 28,none,.lenL (.t 27)⟩,⟨some 29,none,.bin .lss (.t 25) (.t 28)⟩]) (.cond (.t 29) (.skip) (.exit 1))) (.seq (.blk 2 (.seq (.rg [⟨some 32,none,.fa 1 (.t 1)⟩,⟨some 33,none,.ld (.t 32)⟩,⟨some 34,none,.fa 2 (.t 1)⟩,⟨some 35,none,.ld (.t 34)⟩,⟨some 36,none,.mv (.t 3)⟩,⟨some 37,none,.ia 2 (.t 35) (.t 36)⟩,⟨some 38,none,.fa 0 (.t 37)⟩,⟨some 39,none,.ld (.t 38)⟩,⟨some 40,none,.ia 3 (.t 33) (.t 39)⟩,⟨some 41,none,.fa 2 (.t 40)⟩,⟨some 42,none,.ld (.t 41)⟩]) (.cond (.t 42) (.seq (.rg [⟨some 2,none,.mv (.c (.int .i64 4))⟩]) (.ret)) (.skip)))) (.rg [⟨some 30,none,.mv (.t 3)⟩,⟨some 31,none,.bin .add (.t 30) (.c (.int .i64 1))⟩,⟨some 3,none,.mv (.t 31)⟩]))
def s_spec_CheckDef : SFn:= ⟨43,.seq (.rg [⟨some 1,none,.box (.t 0)⟩,⟨some 2,none,.mv (.c (.int .i64 0))⟩]) (.seq (.blk 0 (.seq (.rg [⟨some 5,none,.ldA 4 (.t 1)⟩,⟨some 6,none,.callP 157 [.t 5]⟩,⟨some 7,none,.un .not (.t 6)⟩,⟨some 4,none,.mv (.t 7)⟩]) (.cond (.t 4) (.seq (.rg [⟨some 2,none,.mv (.c (.int .i64 1))⟩]) (.ret)) (.seq (.rg [⟨some 9,none,.ldA 4 (.t 1)⟩,⟨some 10,none,.callP 158 [.t 9]⟩,⟨some 11,none,.un .not (.t 10)⟩,⟨some 8,none,.mv (.t 11)⟩]) (.cond (.t 8) (.seq (.rg [⟨some 2,none,.mv (.c (.int .i64 2))⟩]) (.ret)) (.seq (.rg [⟨some 13,none,.ldA 4 (.t 1)⟩,⟨some 14,none,.callP 159 [.t 13]⟩,⟨some 15,none,.un .not (.t 14)⟩,⟨some 12,none,.mv (.t 15)⟩]) (.cond (.t 12) (.seq (.rg [⟨some 2,none,.mv (.c (.int .i64 3))⟩]) (.ret)) (.seq (.rg [⟨some 17,none,.fa 3 (.t 1)⟩,⟨some 18,none,.ld (.t 17)⟩,⟨some 19,none,.lenL (.t 18)⟩,⟨some 20,none,.bin .gtr (.t 19) (.c (.int .i64 2))⟩,⟨some 16,none,.mv (.t 20)⟩]) (.cond (.t 16) (.seq (.rg [⟨some 2,none,.mv (.c (.int .i64 6))⟩]) (.ret)) (.seq (.rg [⟨some 22,none,.ldA 4 (.t 1)⟩,⟨some 23,none,.callP 160 [.t 22]⟩,⟨some 24,none,.un .not (.t 23)⟩,⟨some 21,none,.mv (.t 24)⟩]) (.cond (.t 21) (.seq (.rg [⟨some 2,none,.mv (.c (.int .i64 5))⟩]) (.ret)) (.skip)))))))))))) (.seq (.seq (.rg [⟨some 3,none,.mv (.c (.int .i64 0))⟩]) (.blk 1 (.loop s_spec_CheckDef_L0))) (.seq (.rg [⟨some 2,none,.mv (.c (.int .i64 0))⟩]) (.ret)))),[.t 2]⟩
def s_spec_FirstBad_L0 : SCode:= .seq (.seq (.rg [⟨some 22,none,.mv (.t 4)⟩,⟨some 23,none,.mv (.t 3)⟩,⟨some 24,none,.bin .lss (.t 22) (.t 23)⟩]) (.cond (.t 24) (.skip) (.exit 2))) (.seq (.blk 3 (.seq (.rg [⟨some 27,none,.mv (.t 0)⟩,⟨some 28,none,.mv (.t 4)⟩,⟨some 29,none,.ia 4 (.t 27) (.t 28)⟩,⟨some 30,none,.fa 0 (.t 29)⟩,⟨some 31,none,.ld (.t 30)⟩,⟨some 32,none,.mv (.t 0)⟩,⟨some 33,none,.mv (.t 3)⟩,⟨some 34,none,.ia 4 (.t 32) (.t 33)⟩,⟨some 35,none,.fa 0 (.t 34)⟩,⟨some 36,none,.ld (.t 35)⟩,⟨some 37,none,.bin .eql (.t 31) (.t 36)⟩]) (.cond (.t 37) (.seq (.rg [⟨some 38,none,.mv (.t 3)⟩,⟨some 2,none,.mv (.t 38)⟩]) (.ret)) (.skip)))) (.rg [⟨some 25,none,.mv (.t 4)⟩,⟨some 26,none,.bin .add (.t 25) (.c (.int .i64 1))⟩,⟨some 4,none,.mv (.t 26)⟩]))
def s_spec_FirstBad_L1 : SCode:= .seq (.seq (.rg [⟨some 5,none,.mv (.t 3)⟩,⟨some 6,none,.mv (.t 0)⟩,⟨some 7,none,.lenL (.t 6)⟩,⟨some 8,none,.bin .lss (.t 5) (.t 7)⟩]) (.cond (.t 8) (.skip) (.exit 0))) (.seq (.blk 1 (.seq (.seq (.rg [⟨some 11,none,.mv (.t 0)⟩,⟨some 12,none,.mv (.t 3)⟩,⟨some 13,none,.ia 4 (.t 11) (.t 12)⟩,⟨some 14,none,.ldA 4 (.t 13)⟩,⟨some 15,none,.callP 109 [.t 14]⟩,⟨some 16,none,.bin .neq (.t 15) (.c (.int .i64 0))⟩,⟨some 17,none,.mv (.t 16)⟩,⟨some 18,some (17,false),.mv (.t 3)⟩,⟨some 19,some (17,false),.bin .gtr (.t 18) (.c (.int .i64 2))⟩,⟨some 20,none,.pick (.t 17) (.c (.bool true)) (.t 19)⟩]) (.cond (.t 20) (.seq (.rg [⟨some 21,none,.mv (.t 3)⟩,⟨some 2,none,.mv (.t 21)⟩]) (.ret)) (.skip))) (.seq (.rg [⟨some 4,none,.mv (.c (.int .i64 0))⟩]) (.blk 2 (.loop s_spec_FirstBad_L0))))) (.rg [⟨some 9,none,.mv (.t 3)⟩,⟨some 10,none,.bin .add (.t 9) (.c (.int .i64 1))⟩,⟨some 3,none,.mv (.t 10)⟩]))
def s_spec_FirstBad : SFn:= ⟨39,.seq (.rg [⟨some 2,none,.mv (.c (.int .i64 0))⟩]) (.seq (.seq (.rg [⟨some 3,none,.mv (.c (.int .i64 0))⟩]) (.blk 0 (.loop s_spec_FirstBad_L1))) (.seq (.rg [⟨some 2,none,.mv (.c (.int .i64 (-1)))⟩]) (.ret))),[.t 2]⟩
def s_spec_ParseDefs_L0 : SCode:= .seq (.seq (.rg [⟨some 20,none,.mv (.t 6)⟩,⟨some 21,none,.nilc (.t 20)⟩,⟨some 22,none,.fa 2 (.t 21)⟩,⟨some 23,none,.ld (.t 22)⟩,⟨some 24,none,.un .not (.t 23)⟩,⟨some 25,none,.mv (.t 24)⟩,⟨some 26,some (25,true),.mv (.t 6)⟩,⟨some 27,some (25,true),.nilc (.t 26)⟩,⟨some 28,some (25,true),.fa 1 (.t 27)⟩,⟨some 29,some (25,true),.ld (.t 28)⟩,⟨some 30,some (25,true),.mv (.t 6)⟩,⟨some 31,some (25,true),.nilc (.t 30)⟩,⟨some 32,some (25,true),.fa 0 (.t 31)⟩,⟨some 33,some (25,true),.ld (.t 32)⟩,⟨some 34,some (25,true),.lenL (.t 33)⟩,⟨some 35,some (25,true),.bin .lss (.t 29) (.t 34)⟩,⟨some 36,none,.pick (.t 25) (.t 35) (.c (.bool false))⟩]) (.cond (.t 36) (.skip) (.exit 0))) (.blk 1 (.seq (.rg [⟨some 37,none,.mv (.t 6)⟩,⟨some 38,none,.callW 58 [.t 37]⟩,⟨some 8,none,.alloc [.str [],.snil,.snil,.snil]⟩,⟨none,none,.st 4 (.t 8) (.t 38)⟩]) (.rg [⟨some 39,none,.mv (.t 7)⟩,⟨some 40,none,.ldA 4 (.t 8)⟩,⟨some 41,none,.bslice false [.str [],.snil,.snil,.snil] 1 [(0,.t 40)]⟩,⟨some 42,none,.app false 88 4 (.t 39) (.t 41)⟩,⟨some 7,none,.mv (.t 42)⟩])))
def s_spec_ParseDefs : SFn:= ⟨54,.seq (.rg [⟨some 2,none,.mv (.c .snil)⟩,⟨some 3,none,.mv (.c (.bool false))⟩]) (.seq (.rg [⟨some 10,none,.mv (.t 0)⟩,⟨some 11,none,.callP 57 [.t 10]⟩,⟨some 9,none,.mv (.t 11)⟩,⟨some 12,none,.ext (.t 9) 0⟩,⟨some 13,none,.ext (.t 9) 1⟩,⟨some 4,none,.mv (.t 12)⟩,⟨some 5,none,.mv (.t 13)⟩]) (.seq (.rg [⟨some 14,none,.mv (.t 4)⟩,⟨some 15,none,.mv (.t 5)⟩,⟨some 16,none,.bin .neq (.t 15) (.c (.int .i64 (-1)))⟩,⟨some 17,none,.build [.snil,.int .i64 0,.bool false] [(0,(1,.t 14)),(2,(1,.t 16))]⟩,⟨some 18,none,.box (.t 17)⟩,⟨some 6,none,.mv (.t 18)⟩]) (.seq (.rg [⟨some 19,none,.bslice false [.str [],.snil,.snil,.snil] 0 []⟩,⟨some 7,none,.mv (.t 19)⟩]) (.seq (.blk 0 (.loop s_spec_ParseDefs_L0)) (.seq (.seq (.rg [⟨some 43,none,.mv (.t 6)⟩,⟨some 44,none,.nilc (.t 43)⟩,⟨some 45,none,.fa 2 (.t 44)⟩,⟨some 46,none,.ld (.t 45)⟩,⟨some 47,none,.mv (.t 46)⟩,⟨some 48,some (47,false),.mv (.t 7)⟩,⟨some 49,some (47,false),.callP 59 [.t 48]⟩,⟨some 50,some (47,false),.bin .neq (.t 49) (.c (.int .i64 (-1)))⟩,⟨some 51,none,.pick (.t 47) (.c (.bool true)) (.t 50)⟩]) (.cond (.t 51) (.seq (.rg [⟨some 52,none,.bslice false [.str [],.snil,.snil,.snil] 0 []⟩,⟨some 2,none,.mv (.t 52)⟩,⟨some 3,none,.mv (.c (.bool false))⟩]) (.ret)) (.skip))) (.seq (.rg [⟨some 53,none,.mv (.t 7)⟩,⟨some 2,none,.mv (.t 53)⟩,⟨some 3,none,.mv (.c (.bool true))⟩]) (.ret))))))),[.t 2,.t 3]⟩
def s_spec_l12Faults_L0 : SCode:= .seq (.seq (.rg [⟨some 4,none,.mv (.t 3)⟩,⟨some 5,none,.mv (.t 0)⟩,⟨some 6,none,.lenL (.t 5)⟩,⟨some 7,none,.bin .lss (.t 4) (.t 6)⟩]) (.cond (.t 7) (.skip) (.exit 0))) (.seq (.blk 1 (.seq (.rg [⟨some 10,none,.mv (.t 0)⟩,⟨some 11,none,.mv (.t 3)⟩,⟨some 12,none,.ia 3 (.t 10) (.t 11)⟩,⟨some 13,none,.fa 0 (.t 12)⟩,⟨some 14,none,.ld (.t 13)⟩,⟨some 15,none,.callP 62 [.t 14,.c (.int .i64 0),.c (.int .i64 100000)]⟩,⟨some 16,none,.un .not (.t 15)⟩,⟨some 17,none,.mv (.t 16)⟩,⟨some 18,some (17,false),.mv (.t 0)⟩,⟨some 19,some (17,false),.mv (.t 3)⟩,⟨some 20,some (17,false),.ia 3 (.t 18) (.t 19)⟩,⟨some 21,some (17,false),.fa 1 (.t 20)⟩,⟨some 22,some (17,false),.ld (.t 21)⟩,⟨some 23,some (17,false),.callP 62 [.t 22,.c (.int .i64 0),.c (.int .i64 1048575)]⟩,⟨some 24,some (17,false),.un .not (.t 23)⟩,⟨some 25,none,.pick (.t 17) (.c (.bool true)) (.t 24)⟩,⟨some 26,none,.mv (.t 25)⟩,⟨some 27,some (26,false),.mv (.t 0)⟩,⟨some 28,some (26,false),.mv (.t 3)⟩,⟨some 29,some (26,false),.ia 3 (.t 27) (.t 28)⟩,⟨some 30,some (26,false),.fa 2 (.t 29)⟩,⟨some 31,some (26,false),.ld (.t 30)⟩,⟨some 32,some (26,false),.callP 62 [.t 31,.c (.int .i64 0),.c (.int .i64 256)]⟩,⟨some 33,some (26,false),.un .not (.t 32)⟩,⟨some 34,none,.pick (.t 26) (.c (.bool true)) (.t 33)⟩,⟨some 35,none,.mv (.t 34)⟩,⟨some 36,some (35,false),.mv (.t 3)⟩,⟨some 37,some (35,false),.bin .gtr (.t 36) (.c (.int .i64 0))⟩,⟨some 38,some (35,false),.mv (.t 37)⟩,⟨some 39,some (38,true),.mv (.t 0)⟩,⟨some 40,some (38,true),.mv (.t 3)⟩,⟨some 41,some (38,true),.bin .sub (.t 40) (.c (.int .i64 1))⟩,⟨some 42,some (38,true),.ia 3 (.t 39) (.t 41)⟩,⟨some 43,some (38,true),.fa 0 (.t 42)⟩,⟨some 44,some (38,true),.ld (.t 43)⟩,⟨some 45,some (38,true),.mv (.t 0)⟩,⟨some 46,some (38,true),.mv (.t 3)⟩,⟨some 47,some (38,true),.ia 3 (.t 45) (.t 46)⟩,⟨some 48,some (38,true),.fa 0 (.t 47)⟩,⟨some 49,some (38,true),.ld (.t 48)⟩,⟨some 50,some (38,true),.bin .geq (.t 44) (.t 49)⟩,⟨some 51,some (35,false),.pick (.t 38) (.t 50) (.c (.bool false))⟩,⟨some 52,none,.pick (.t 35) (.c (.bool true)) (.t 51)⟩]) (.cond (.t 52) (.seq (.rg [⟨some 2,none,.mv (.c (.bool false))⟩]) (.ret)) (.skip)))) (.rg [⟨some 8,none,.mv (.t 3)⟩,⟨some 9,none,.bin .add (.t 8) (.c (.int .i64 1))⟩,⟨some 3,none,.mv (.t 9)⟩]))
def s_spec_l12Faults : SFn:= ⟨56,.seq (.rg [⟨some 2,none,.mv (.c (.bool false))⟩]) (.seq (.seq (.rg [⟨some 3,none,.mv (.c (.int .i64 0))⟩]) (.blk 0 (.loop s_spec_l12Faults_L0))) (.seq (.rg [⟨some 53,none,.mv (.t 0)⟩,⟨some 54,none,.lenL (.t 53)⟩,⟨some 55,none,.bin .leq (.t 54) (.c (.int .i64 20))⟩,⟨some 2,none,.mv (.t 55)⟩]) (.ret))),[.t 2]⟩
def s_spec_DiskNew_L0 : SCode:= .seq (.seq (.rg [⟨some 20,none,.mv (.t 6)⟩,⟨some 21,none,.mv (.t 0)⟩,⟨some 22,none,.bin .lss (.t 20) (.t 21)⟩]) (.cond (.t 22) (.skip) (.exit 0))) (.seq (.blk 1 (.rg [⟨some 25,none,.fa 0 (.t 5)⟩,⟨some 26,none,.ld (.t 25)⟩,⟨some 27,none,.bslice true [.int .u8 0] 0 []⟩,⟨some 28,none,.bslice true [.snil] 1 [(0,.t 27)]⟩,⟨some 29,none,.app true 24 1 (.t 26) (.t 28)⟩,⟨some 30,none,.fa 0 (.t 5)⟩,⟨none,none,.st 1 (.t 30) (.t 29)⟩])) (.rg [⟨some 23,none,.mv (.t 6)⟩,⟨some 24,none,.bin .add (.t 23) (.c (.int .i64 1))⟩,⟨some 6,none,.mv (.t 24)⟩]))
def s_spec_DiskNew : SFn:= ⟨32,.seq (.rg [⟨some 4,none,.alloc [.snil,.snil,.int .i64 0,.snil,.bool false]⟩]) (.seq (.seq (.rg [⟨some 7,none,.mv (.t 0)⟩,⟨some 8,none,.callP 62 [.t 7,.c (.int .i64 4),.c (.int .i64 48)]⟩,⟨some 9,none,.un .not (.t 8)⟩,⟨some 10,none,.mv (.t 9)⟩,⟨some 11,some (10,false),.mv (.t 1)⟩,⟨some 12,some (10,false),.callP 63 [.t 11]⟩,⟨some 13,some (10,false),.un .not (.t 12)⟩,⟨some 14,none,.pick (.t 10) (.c (.bool true)) (.t 13)⟩]) (.cond (.t 14) (.seq (.rg [⟨some 15,none,.build [.snil,.snil,.int .i64 0,.snil,.bool false] []⟩,⟨none,none,.st 5 (.t 4) (.t 15)⟩]) (.ret)) (.skip))) (.seq (.rg [⟨some 16,none,.bslice true [.int .i64 0,.int .i64 0,.int .i64 0] 0 []⟩,⟨some 17,none,.mv (.t 1)⟩,⟨some 18,none,.app true 24 3 (.t 16) (.t 17)⟩,⟨some 19,none,.build [.snil,.snil,.int .i64 0,.snil,.bool false] [(3,(1,.t 18))]⟩,⟨some 5,none,.alloc [.snil,.snil,.int .i64 0,.snil,.bool false]⟩,⟨none,none,.st 5 (.t 5) (.t 19)⟩]) (.seq (.seq (.rg [⟨some 6,none,.mv (.c (.int .i64 0))⟩]) (.blk 0 (.loop s_spec_DiskNew_L0))) (.seq (.rg [⟨some 31,none,.ldA 5 (.t 5)⟩,⟨none,none,.st 5 (.t 4) (.t 31)⟩]) (.ret))))),[.ldA 4 5]⟩
def s_spec_MetaOk : SFn:= ⟨16,.seq (.rg [⟨some 1,none,.box (.t 0)⟩,⟨some 2,none,.mv (.c (.bool false))⟩]) (.seq (.rg [⟨some 3,none,.fa 0 (.t 1)⟩,⟨some 4,none,.ld (.t 3)⟩,⟨some 5,none,.callP 62 [.t 4,.c (.int .i64 0),.c (.int .i64 1000000)]⟩,⟨some 6,none,.mv (.t 5)⟩,⟨some 7,some (6,true),.fa 1 (.t 1)⟩,⟨some 8,some (6,true),.ld (.t 7)⟩,⟨some 9,some (6,true),.bin .eql (.t 8) (.c (.int .i64 0))⟩,⟨some 10,some (6,true),.mv (.t 9)⟩,⟨some 11,some (10,false),.fa 1 (.t 1)⟩,⟨some 12,some (10,false),.ld (.t 11)⟩,⟨some 13,some (10,false),.callP 62 [.t 12,.c (.int .i64 2),.c (.int .i64 47)]⟩,⟨some 14,some (6,true),.pick (.t 10) (.c (.bool true)) (.t 13)⟩,⟨some 15,none,.pick (.t 6) (.t 14) (.c (.bool false))⟩,⟨some 2,none,.mv (.t 15)⟩]) (.ret)),[.t 2]⟩
def s_spec_PutU_L0 : SCode:= .seq (.seq (.rg [⟨some 13,none,.mv (.t 1)⟩,⟨some 14,none,.bin .gtr (.t 13) (.c (.int .i64 127))⟩]) (.cond (.t 14) (.skip) (.exit 0))) (.blk 1 (.seq (.rg [⟨some 15,none,.mv (.t 5)⟩,⟨some 16,none,.mv (.t 1)⟩,⟨some 17,none,.bin .and (.t 16) (.c (.int .i64 127))⟩,⟨some 18,none,.bin .or (.t 17) (.c (.int .i64 128))⟩,⟨some 19,none,.cvI .u8 (.t 18)⟩,⟨some 20,none,.bslice false [.int .u8 0] 1 [(0,.t 19)]⟩,⟨some 21,none,.app false 1 1 (.t 15) (.t 20)⟩,⟨some 5,none,.mv (.t 21)⟩]) (.rg [⟨some 22,none,.mv (.t 1)⟩,⟨some 23,none,.bin .shr (.t 22) (.c (.int .u64 7))⟩,⟨some 1,none,.mv (.t 23)⟩])))
def s_spec_PutU : SFn:= ⟨29,.seq (.rg [⟨some 4,none,.mv (.c .snil)⟩]) (.seq (.rg [⟨some 6,none,.bslice false [.int .u8 0] 0 []⟩,⟨some 7,none,.mv (.t 0)⟩,⟨some 8,none,.app false 1 1 (.t 6) (.t 7)⟩,⟨some 5,none,.mv (.t 8)⟩]) (.seq (.seq (.rg [⟨some 9,none,.mv (.t 1)⟩,⟨some 10,none,.bin .gtr (.t 9) (.c (.int .i64 1000000))⟩]) (.cond (.t 10) (.rg [⟨some 1,none,.mv (.c (.int .i64 1000000))⟩]) (.skip))) (.seq (.seq (.rg [⟨some 11,none,.mv (.t 1)⟩,⟨some 12,none,.bin .lss (.t 11) (.c (.int .i64 0))⟩]) (.cond (.t 12) (.rg [⟨some 1,none,.mv (.c (.int .i64 0))⟩]) (.skip))) (.seq (.blk 0 (.loop s_spec_PutU_L0)) (.seq (.rg [⟨some 24,none,.mv (.t 5)⟩,⟨some 25,none,.mv (.t 1)⟩,⟨some 26,none,.cvI .u8 (.t 25)⟩,⟨some 27,none,.bslice false [.int .u8 0] 1 [(0,.t 26)]⟩,⟨some 28,none,.app false 1 1 (.t 24) (.t 27)⟩,⟨some 4,none,.mv (.t 28)⟩]) (.ret)))))),[.t 4]⟩
def s_spec_PutText : SFn:= ⟨11,.seq (.rg [⟨some 4,none,.mv (.c .snil)⟩]) (.seq (.rg [⟨some 5,none,.mv (.t 0)⟩,⟨some 6,none,.mv (.t 1)⟩,⟨some 7,none,.lenS (.t 6)⟩,⟨some 8,none,.callP 112 [.t 5,.t 7]⟩,⟨some 9,none,.mv (.t 1)⟩,⟨some 10,none,.app false 1 1 (.t 8) (.t 9)⟩,⟨some 4,none,.mv (.t 10)⟩]) (.ret)),[.t 4]⟩
def s_spec_Crc_L0 : SCode:= .seq (.seq (.rg [⟨some 20,none,.mv (.t 5)⟩,⟨some 21,none,.bin .lss (.t 20) (.c (.int .i64 8))⟩]) (.cond (.t 21) (.skip) (.exit 2))) (.seq (.blk 3 (.seq (.rg [⟨some 24,none,.mv (.t 3)⟩,⟨some 25,none,.bin .and (.t 24) (.c (.int .i64 1))⟩,⟨some 6,none,.mv (.t 25)⟩]) (.seq (.rg [⟨some 26,none,.mv (.t 3)⟩,⟨some 27,none,.bin .shr (.t 26) (.c (.int .u64 1))⟩,⟨some 3,none,.mv (.t 27)⟩]) (.seq (.rg [⟨some 28,none,.mv (.t 6)⟩,⟨some 29,none,.bin .eql (.t 28) (.c (.int .i64 1))⟩]) (.cond (.t 29) (.rg [⟨some 30,none,.mv (.t 3)⟩,⟨some 31,none,.bin .xor (.t 30) (.c (.int .i64 2197175160))⟩,⟨some 3,none,.mv (.t 31)⟩]) (.skip)))))) (.rg [⟨some 22,none,.mv (.t 5)⟩,⟨some 23,none,.bin .add (.t 22) (.c (.int .i64 1))⟩,⟨some 5,none,.mv (.t 23)⟩]))
def s_spec_Crc_L1 : SCode:= .seq (.seq (.rg [⟨some 7,none,.mv (.t 4)⟩,⟨some 8,none,.mv (.t 0)⟩,⟨some 9,none,.lenL (.t 8)⟩,⟨some 10,none,.bin .lss (.t 7) (.t 9)⟩]) (.cond (.t 10) (.skip) (.exit 0))) (.seq (.blk 1 (.seq (.rg [⟨some 13,none,.mv (.t 3)⟩,⟨some 14,none,.mv (.t 0)⟩,⟨some 15,none,.mv (.t 4)⟩,⟨some 16,none,.ia 1 (.t 14) (.t 15)⟩,⟨some 17,none,.ld (.t 16)⟩,⟨some 18,none,.cvI .i64 (.t 17)⟩,⟨some 19,none,.bin .xor (.t 13) (.t 18)⟩,⟨some 3,none,.mv (.t 19)⟩]) (.seq (.rg [⟨some 5,none,.mv (.c (.int .i64 0))⟩]) (.blk 2 (.loop s_spec_Crc_L0))))) (.rg [⟨some 11,none,.mv (.t 4)⟩,⟨some 12,none,.bin .add (.t 11) (.c (.int .i64 1))⟩,⟨some 4,none,.mv (.t 12)⟩]))
def s_spec_Crc : SFn:= ⟨34,.seq (.rg [⟨some 2,none,.mv (.c (.int .i64 0))⟩]) (.seq (.rg [⟨some 3,none,.mv (.c (.int .i64 4294967295))⟩]) (.seq (.seq (.rg [⟨some 4,none,.mv (.c (.int .i64 0))⟩]) (.blk 0 (.loop s_spec_Crc_L1))) (.seq (.rg [⟨some 32,none,.mv (.t 3)⟩,⟨some 33,none,.bin .xor (.t 32) (.c (.int .i64 4294967295))⟩,⟨some 2,none,.mv (.t 33)⟩]) (.ret)))),[.t 2]⟩
def s_spec_PutSum : SFn:= ⟨22,.seq (.rg [⟨some 2,none,.mv (.c .snil)⟩]) (.seq (.rg [⟨some 4,none,.mv (.t 0)⟩,⟨some 5,none,.callP 195 [.t 4]⟩,⟨some 3,none,.mv (.t 5)⟩]) (.seq (.rg [⟨some 6,none,.bslice false [.int .u8 0] 0 []⟩,⟨some 7,none,.mv (.t 0)⟩,⟨some 8,none,.app false 1 1 (.t 6) (.t 7)⟩,⟨some 9,none,.mv (.t 3)⟩,⟨some 10,none,.bin .shr (.t 9) (.c (.int .u64 24))⟩,⟨some 11,none,.cvI .u8 (.t 10)⟩,⟨some 12,none,.mv (.t 3)⟩,⟨some 13,none,.bin .shr (.t 12) (.c (.int .u64 16))⟩,⟨some 14,none,.cvI .u8 (.t 13)⟩,⟨some 15,none,.mv (.t 3)⟩,⟨some 16,none,.bin .shr (.t 15) (.c (.int .u64 8))⟩,⟨some 17,none,.cvI .u8 (.t 16)⟩,⟨some 18,none,.mv (.t 3)⟩,⟨some 19,none,.cvI .u8 (.t 18)⟩,⟨some 20,none,.bslice false [.int .u8 0] 4 [(0,.t 11),(1,.t 14),(2,.t 17),(3,.t 19)]⟩,⟨some 21,none,.app false 1 1 (.t 8) (.t 20)⟩,⟨some 2,none,.mv (.t 21)⟩]) (.ret))),[.t 2]⟩
def s_spec_PutPage : SFn:= ⟨21,.seq (.rg [⟨some 4,none,.mv (.c .snil)⟩]) (.seq (.seq (.rg [⟨some 5,none,.mv (.t 0)⟩,⟨some 6,none,.callP 62 [.t 5,.c (.int .i64 1),.c (.int .i64 2)]⟩,⟨some 7,none,.un .not (.t 6)⟩,⟨some 8,none,.mv (.t 7)⟩,⟨some 9,some (8,false),.mv (.t 1)⟩,⟨some 10,some (8,false),.lenL (.t 9)⟩,⟨some 11,some (8,false),.bin .gtr (.t 10) (.c (.int .i64 240))⟩,⟨some 12,none,.pick (.t 8) (.c (.bool true)) (.t 11)⟩]) (.cond (.t 12) (.seq (.rg [⟨some 13,none,.bslice false [.int .u8 0] 0 []⟩,⟨some 4,none,.mv (.t 13)⟩]) (.ret)) (.skip))) (.seq (.rg [⟨some 14,none,.bslice false [.int .u8 0] 0 []⟩,⟨some 15,none,.mv (.t 0)⟩,⟨some 16,none,.callP 112 [.t 14,.t 15]⟩,⟨some 17,none,.mv (.t 1)⟩,⟨some 18,none,.cvS (.t 17)⟩,⟨some 19,none,.callP 162 [.t 16,.t 18]⟩,⟨some 20,none,.callP 161 [.t 19]⟩,⟨some 4,none,.mv (.t 20)⟩]) (.ret))),[.t 4]⟩
def s_spec_PutMeta : SFn:= ⟨15,.seq (.rg [⟨some 1,none,.box (.t 0)⟩,⟨some 2,none,.mv (.c .snil)⟩]) (.seq (.seq (.rg [⟨some 3,none,.ldA 2 (.t 1)⟩,⟨some 4,none,.callP 110 [.t 3]⟩,⟨some 5,none,.un .not (.t 4)⟩]) (.cond (.t 5) (.seq (.rg [⟨some 6,none,.bslice false [.int .u8 0] 0 []⟩,⟨some 2,none,.mv (.t 6)⟩]) (.ret)) (.skip))) (.seq (.rg [⟨some 7,none,.bslice false [.int .u8 0] 0 []⟩,⟨some 8,none,.fa 0 (.t 1)⟩,⟨some 9,none,.ld (.t 8)⟩,⟨some 10,none,.callP 112 [.t 7,.t 9]⟩,⟨some 11,none,.fa 1 (.t 1)⟩,⟨some 12,none,.ld (.t 11)⟩,⟨some 13,none,.callP 112 [.t 10,.t 12]⟩,⟨some 14,none,.callP 111 [.c (.int .i64 2),.t 13]⟩,⟨some 2,none,.mv (.t 14)⟩]) (.ret))),[.t 2]⟩
def s_spec_Format : SFn:= ⟨19,.seq (.rg [⟨some 4,none,.alloc [.snil,.snil,.int .i64 0,.snil,.bool false]⟩]) (.seq (.rg [⟨some 6,none,.mv (.t 0)⟩,⟨some 7,none,.mv (.t 1)⟩,⟨some 8,none,.callD 60 true [.t 6,.t 7]⟩,⟨some 5,none,.alloc [.snil,.snil,.int .i64 0,.snil,.bool false]⟩,⟨none,none,.st 5 (.t 5) (.t 8)⟩]) (.seq (.seq (.rg [⟨some 9,none,.fa 0 (.t 5)⟩,⟨some 10,none,.ld (.t 9)⟩,⟨some 11,none,.lenL (.t 10)⟩,⟨some 12,none,.bin .gtr (.t 11) (.c (.int .i64 0))⟩]) (.cond (.t 12) (.rg [⟨some 13,none,.fa 0 (.t 5)⟩,⟨some 14,none,.ld (.t 13)⟩,⟨some 15,none,.build [.int .i64 0,.int .i64 0] []⟩,⟨some 16,none,.callP 61 [.t 15]⟩,⟨some 17,none,.ia 1 (.t 14) (.c (.int .i64 0))⟩,⟨none,none,.st 1 (.t 17) (.t 16)⟩]) (.skip))) (.seq (.rg [⟨some 18,none,.ldA 5 (.t 5)⟩,⟨none,none,.st 5 (.t 4) (.t 18)⟩]) (.ret)))),[.ldA 4 5]⟩
def s_spec_DiskOk_L0 : SCode:= .seq (.seq (.rg [⟨some 5,none,.mv (.t 3)⟩,⟨some 6,none,.fa 0 (.t 1)⟩,⟨some 7,none,.ld (.t 6)⟩,⟨some 8,none,.lenL (.t 7)⟩,⟨some 9,none,.bin .lss (.t 5) (.t 8)⟩]) (.cond (.t 9) (.skip) (.exit 0))) (.seq (.blk 1 (.seq (.rg [⟨some 12,none,.fa 0 (.t 1)⟩,⟨some 13,none,.ld (.t 12)⟩,⟨some 14,none,.mv (.t 3)⟩,⟨some 15,none,.ia 1 (.t 13) (.t 14)⟩,⟨some 16,none,.ld (.t 15)⟩,⟨some 17,none,.lenL (.t 16)⟩,⟨some 18,none,.bin .gtr (.t 17) (.c (.int .i64 256))⟩]) (.cond (.t 18) (.seq (.rg [⟨some 2,none,.mv (.c (.bool false))⟩]) (.ret)) (.skip)))) (.rg [⟨some 10,none,.mv (.t 3)⟩,⟨some 11,none,.bin .add (.t 10) (.c (.int .i64 1))⟩,⟨some 3,none,.mv (.t 11)⟩]))
def s_spec_DiskOk_L1 : SCode:= .seq (.seq (.rg [⟨some 19,none,.mv (.t 4)⟩,⟨some 20,none,.fa 1 (.t 1)⟩,⟨some 21,none,.ld (.t 20)⟩,⟨some 22,none,.lenL (.t 21)⟩,⟨some 23,none,.bin .lss (.t 19) (.t 22)⟩]) (.cond (.t 23) (.skip) (.exit 2))) (.seq (.blk 3 (.seq (.rg [⟨some 26,none,.fa 1 (.t 1)⟩,⟨some 27,none,.ld (.t 26)⟩,⟨some 28,none,.mv (.t 4)⟩,⟨some 29,none,.ia 2 (.t 27) (.t 28)⟩,⟨some 30,none,.fa 0 (.t 29)⟩,⟨some 31,none,.ld (.t 30)⟩,⟨some 32,none,.fa 0 (.t 1)⟩,⟨some 33,none,.ld (.t 32)⟩,⟨some 34,none,.lenL (.t 33)⟩,⟨some 35,none,.bin .sub (.t 34) (.c (.int .i64 1))⟩,⟨some 36,none,.callP 62 [.t 31,.c (.int .i64 0),.t 35]⟩,⟨some 37,none,.un .not (.t 36)⟩,⟨some 38,none,.mv (.t 37)⟩,⟨some 39,some (38,false),.fa 1 (.t 1)⟩,⟨some 40,some (38,false),.ld (.t 39)⟩,⟨some 41,some (38,false),.mv (.t 4)⟩,⟨some 42,some (38,false),.ia 2 (.t 40) (.t 41)⟩,⟨some 43,some (38,false),.fa 1 (.t 42)⟩,⟨some 44,some (38,false),.ld (.t 43)⟩,⟨some 45,some (38,false),.lenL (.t 44)⟩,⟨some 46,some (38,false),.bin .gtr (.t 45) (.c (.int .i64 256))⟩,⟨some 47,none,.pick (.t 38) (.c (.bool true)) (.t 46)⟩]) (.cond (.t 47) (.seq (.rg [⟨some 2,none,.mv (.c (.bool false))⟩]) (.ret)) (.skip)))) (.rg [⟨some 24,none,.mv (.t 4)⟩,⟨some 25,none,.bin .add (.t 24) (.c (.int .i64 1))⟩,⟨some 4,none,.mv (.t 25)⟩]))
def s_spec_DiskOk : SFn:= ⟨79,.seq (.rg [⟨some 1,none,.box (.t 0)⟩,⟨some 2,none,.mv (.c (.bool false))⟩]) (.seq (.seq (.rg [⟨some 3,none,.mv (.c (.int .i64 0))⟩]) (.blk 0 (.loop s_spec_DiskOk_L0))) (.seq (.seq (.rg [⟨some 4,none,.mv (.c (.int .i64 0))⟩]) (.blk 2 (.loop s_spec_DiskOk_L1))) (.seq (.rg [⟨some 48,none,.fa 0 (.t 1)⟩,⟨some 49,none,.ld (.t 48)⟩,⟨some 50,none,.lenL (.t 49)⟩,⟨some 51,none,.callP 62 [.t 50,.c (.int .i64 4),.c (.int .i64 48)]⟩,⟨some 52,none,.mv (.t 51)⟩,⟨some 53,some (52,true),.fa 1 (.t 1)⟩,⟨some 54,some (52,true),.ld (.t 53)⟩,⟨some 55,some (52,true),.lenL (.t 54)⟩,⟨some 56,some (52,true),.bin .leq (.t 55) (.c (.int .i64 60))⟩,⟨some 57,none,.pick (.t 52) (.t 56) (.c (.bool false))⟩,⟨some 58,none,.mv (.t 57)⟩,⟨some 59,some (58,true),.fa 2 (.t 1)⟩,⟨some 60,some (58,true),.ld (.t 59)⟩,⟨some 61,some (58,true),.callP 62 [.t 60,.c (.int .i64 0),.c (.int .i64 100000)]⟩,⟨some 62,none,.pick (.t 58) (.t 61) (.c (.bool false))⟩,⟨some 63,none,.mv (.t 62)⟩,⟨some 64,some (63,true),.fa 3 (.t 1)⟩,⟨some 65,some (63,true),.ld (.t 64)⟩,⟨some 66,some (63,true),.callP 63 [.t 65]⟩,⟨some 67,none,.pick (.t 63) (.t 66) (.c (.bool false))⟩,⟨some 68,none,.mv (.t 67)⟩,⟨some 69,some (68,true),.fa 4 (.t 1)⟩,⟨some 70,some (68,true),.ld (.t 69)⟩,⟨some 71,some (68,true),.un .not (.t 70)⟩,⟨some 72,some (68,true),.mv (.t 71)⟩,⟨some 73,some (72,false),.fa 1 (.t 1)⟩,⟨some 74,some (72,false),.ld (.t 73)⟩,⟨some 75,some (72,false),.lenL (.t 74)⟩,⟨some 76,some (72,false),.bin .eql (.t 75) (.c (.int .i64 0))⟩,⟨some 77,some (68,true),.pick (.t 72) (.c (.bool true)) (.t 76)⟩,⟨some 78,none,.pick (.t 68) (.t 77) (.c (.bool false))⟩,⟨some 2,none,.mv (.t 78)⟩]) (.ret)))),[.t 2]⟩
def s_spec_EngNew : SFn:= ⟨35,.seq (.rg [⟨some 6,none,.alloc [.snil,.snil,.snil,.int .i64 0,.snil,.bool false]⟩,⟨some 7,none,.mv (.c (.bool false))⟩]) (.seq (.rg [⟨some 12,none,.mv (.t 0)⟩,⟨some 13,none,.callP 27 [.t 12]⟩,⟨some 11,none,.mv (.t 13)⟩,⟨some 14,none,.ext (.t 11) 0⟩,⟨some 15,none,.ext (.t 11) 1⟩,⟨some 8,none,.mv (.t 14)⟩,⟨some 9,none,.mv (.t 15)⟩]) (.seq (.rg [⟨some 16,none,.mv (.t 1)⟩,⟨some 17,none,.mv (.t 2)⟩,⟨some 18,none,.callP 28 [.t 16,.t 17]⟩,⟨some 10,none,.alloc [.snil,.snil,.int .i64 0,.snil,.bool false]⟩,⟨none,none,.st 5 (.t 10) (.t 18)⟩]) (.seq (.seq (.rg [⟨some 19,none,.mv (.t 9)⟩,⟨some 20,none,.un .not (.t 19)⟩,⟨some 21,none,.mv (.t 20)⟩,⟨some 22,some (21,false),.mv (.t 8)⟩,⟨some 23,some (21,false),.lenL (.t 22)⟩,⟨some 24,some (21,false),.bin .eql (.t 23) (.c (.int .i64 0))⟩,⟨some 25,none,.pick (.t 21) (.c (.bool true)) (.t 24)⟩,⟨some 26,none,.mv (.t 25)⟩,⟨some 27,some (26,false),.ldA 5 (.t 10)⟩,⟨some 28,some (26,false),.callP 29 [.t 27]⟩,⟨some 29,some (26,false),.un .not (.t 28)⟩,⟨some 30,none,.pick (.t 26) (.c (.bool true)) (.t 29)⟩]) (.cond (.t 30) (.seq (.rg [⟨some 31,none,.build [.snil,.snil,.snil,.int .i64 0,.snil,.bool false] []⟩,⟨none,none,.st 6 (.t 6) (.t 31)⟩,⟨some 7,none,.mv (.c (.bool false))⟩]) (.ret)) (.skip))) (.seq (.rg [⟨some 32,none,.mv (.t 8)⟩,⟨some 33,none,.ldA 5 (.t 10)⟩,⟨some 34,none,.build [.snil,.snil,.snil,.int .i64 0,.snil,.bool false] [(0,(1,.t 32)),(1,(5,.t 33))]⟩,⟨none,none,.st 6 (.t 6) (.t 34)⟩,⟨some 7,none,.mv (.c (.bool true))⟩]) (.ret))))),[.ldA 6 6,.t 7]⟩
def s_impl_tokens_maybe : SFn:= ⟨43,.seq (.rg [⟨some 4,none,.mv (.c (.bool false))⟩]) (.seq (.seq (.rg [⟨some 5,none,.mv (.t 0)⟩,⟨some 6,none,.nilc (.t 5)⟩,⟨some 7,none,.fa 2 (.t 6)⟩,⟨some 8,none,.ld (.t 7)⟩,⟨some 9,none,.mv (.t 8)⟩,⟨some 10,some (9,false),.mv (.t 0)⟩,⟨some 11,some (9,false),.nilc (.t 10)⟩,⟨some 12,some (9,false),.fa 1 (.t 11)⟩,⟨some 13,some (9,false),.ld (.t 12)⟩,⟨some 14,some (9,false),.mv (.t 0)⟩,⟨some 15,some (9,false),.nilc (.t 14)⟩,⟨some 16,some (9,false),.fa 0 (.t 15)⟩,⟨some 17,some (9,false),.ld (.t 16)⟩,⟨some 18,some (9,false),.lenL (.t 17)⟩,⟨some 19,some (9,false),.bin .geq (.t 13) (.t 18)⟩,⟨some 20,none,.pick (.t 9) (.c (.bool true)) (.t 19)⟩,⟨some 21,none,.mv (.t 20)⟩,⟨some 22,some (21,false),.mv (.t 0)⟩,⟨some 23,some (21,false),.nilc (.t 22)⟩,⟨some 24,some (21,false),.fa 0 (.t 23)⟩,⟨some 25,some (21,false),.ld (.t 24)⟩,⟨some 26,some (21,false),.mv (.t 0)⟩,⟨some 27,some (21,false),.nilc (.t 26)⟩,⟨some 28,some (21,false),.fa 1 (.t 27)⟩,⟨some 29,some (21,false),.ld (.t 28)⟩,⟨some 30,some (21,false),.ia 2 (.t 25) (.t 29)⟩,⟨some 31,some (21,false),.fa 1 (.t 30)⟩,⟨some 32,some (21,false),.ld (.t 31)⟩,⟨some 33,some (21,false),.mv (.t 1)⟩,⟨some 34,some (21,false),.bin .neq (.t 32) (.t 33)⟩,⟨some 35,none,.pick (.t 21) (.c (.bool true)) (.t 34)⟩]) (.cond (.t 35) (.seq (.rg [⟨some 4,none,.mv (.c (.bool false))⟩]) (.ret)) (.skip))) (.seq (.rg [⟨some 36,none,.mv (.t 0)⟩,⟨some 37,none,.nilc (.t 36)⟩,⟨some 38,none,.fa 1 (.t 37)⟩,⟨some 39,none,.ld (.t 38)⟩,⟨some 40,none,.bin .add (.t 39) (.c (.int .i64 1))⟩,⟨some 41,none,.nilc (.t 36)⟩,⟨some 42,none,.fa 1 (.t 41)⟩,⟨none,none,.st 1 (.t 42) (.t 40)⟩]) (.seq (.rg [⟨some 4,none,.mv (.c (.bool true))⟩]) (.ret)))),[.t 4]⟩
def s_impl_tokens_name : SFn:= ⟨55,.seq (.rg [⟨some 2,none,.mv (.c (.str []))⟩]) (.seq (.seq (.rg [⟨some 3,none,.mv (.t 0)⟩,⟨some 4,none,.nilc (.t 3)⟩,⟨some 5,none,.fa 2 (.t 4)⟩,⟨some 6,none,.ld (.t 5)⟩,⟨some 7,none,.mv (.t 6)⟩,⟨some 8,some (7,false),.mv (.t 0)⟩,⟨some 9,some (7,false),.nilc (.t 8)⟩,⟨some 10,some (7,false),.fa 1 (.t 9)⟩,⟨some 11,some (7,false),.ld (.t 10)⟩,⟨some 12,some (7,false),.mv (.t 0)⟩,⟨some 13,some (7,false),.nilc (.t 12)⟩,⟨some 14,some (7,false),.fa 0 (.t 13)⟩,⟨some 15,some (7,false),.ld (.t 14)⟩,⟨some 16,some (7,false),.lenL (.t 15)⟩,⟨some 17,some (7,false),.bin .geq (.t 11) (.t 16)⟩,⟨some 18,none,.pick (.t 7) (.c (.bool true)) (.t 17)⟩,⟨some 19,none,.mv (.t 18)⟩,⟨some 20,some (19,false),.mv (.t 0)⟩,⟨some 21,some (19,false),.nilc (.t 20)⟩,⟨some 22,some (19,false),.fa 0 (.t 21)⟩,⟨some 23,some (19,false),.ld (.t 22)⟩,⟨some 24,some (19,false),.mv (.t 0)⟩,⟨some 25,some (19,false),.nilc (.t 24)⟩,⟨some 26,some (19,false),.fa 1 (.t 25)⟩,⟨some 27,some (19,false),.ld (.t 26)⟩,⟨some 28,some (19,false),.ia 2 (.t 23) (.t 27)⟩,⟨some 29,some (19,false),.fa 0 (.t 28)⟩,⟨some 30,some (19,false),.ld (.t 29)⟩,⟨some 31,some (19,false),.bin .neq (.t 30) (.c (.int .i64 1))⟩,⟨some 32,none,.pick (.t 19) (.c (.bool true)) (.t 31)⟩]) (.cond (.t 32) (.seq (.rg [⟨some 33,none,.mv (.t 0)⟩,⟨some 34,none,.nilc (.t 33)⟩,⟨some 35,none,.fa 2 (.t 34)⟩,⟨none,none,.st 1 (.t 35) (.c (.bool true))⟩]) (.seq (.rg [⟨some 2,none,.mv (.c (.str []))⟩]) (.ret))) (.skip))) (.seq (.rg [⟨some 36,none,.mv (.t 0)⟩,⟨some 37,none,.nilc (.t 36)⟩,⟨some 38,none,.fa 1 (.t 37)⟩,⟨some 39,none,.ld (.t 38)⟩,⟨some 40,none,.bin .add (.t 39) (.c (.int .i64 1))⟩,⟨some 41,none,.nilc (.t 36)⟩,⟨some 42,none,.fa 1 (.t 41)⟩,⟨none,none,.st 1 (.t 42) (.t 40)⟩]) (.seq (.rg [⟨some 43,none,.mv (.t 0)⟩,⟨some 44,none,.nilc (.t 43)⟩,⟨some 45,none,.fa 0 (.t 44)⟩,⟨some 46,none,.ld (.t 45)⟩,⟨some 47,none,.mv (.t 0)⟩,⟨some 48,none,.nilc (.t 47)⟩,⟨some 49,none,.fa 1 (.t 48)⟩,⟨some 50,none,.ld (.t 49)⟩,⟨some 51,none,.bin .sub (.t 50) (.c (.int .i64 1))⟩,⟨some 52,none,.ia 2 (.t 46) (.t 51)⟩,⟨some 53,none,.fa 1 (.t 52)⟩,⟨some 54,none,.ld (.t 53)⟩,⟨some 2,none,.mv (.t 54)⟩]) (.ret)))),[.t 2]⟩
def s_impl_tokens_typed : SFn:= ⟨16,.seq (.rg [⟨some 2,none,.mv (.c (.int .i64 0))⟩]) (.seq (.seq (.rg [⟨some 3,none,.mv (.t 0)⟩,⟨some 4,none,.callW 117 [.t 3]⟩]) (.blk 0 (.seq (.rg [⟨some 6,none,.bin .eql (.t 4) (.c (.str [105,110,116]))⟩,⟨some 5,none,.mv (.t 6)⟩]) (.cond (.t 5) (.seq (.rg [⟨some 2,none,.mv (.c (.int .i64 1))⟩]) (.ret)) (.seq (.rg [⟨some 8,none,.bin .eql (.t 4) (.c (.str [110,117,109]))⟩,⟨some 7,none,.mv (.t 8)⟩]) (.cond (.t 7) (.seq (.rg [⟨some 2,none,.mv (.c (.int .i64 2))⟩]) (.ret)) (.seq (.rg [⟨some 10,none,.bin .eql (.t 4) (.c (.str [116,101,120,116]))⟩,⟨some 9,none,.mv (.t 10)⟩]) (.cond (.t 9) (.seq (.rg [⟨some 2,none,.mv (.c (.int .i64 3))⟩]) (.ret)) (.seq (.rg [⟨some 12,none,.bin .eql (.t 4) (.c (.str [98,111,111,108]))⟩,⟨some 11,none,.mv (.t 12)⟩]) (.cond (.t 11) (.seq (.rg [⟨some 2,none,.mv (.c (.int .i64 4))⟩]) (.ret)) (.skip))))))))))) (.seq (.rg [⟨some 13,none,.mv (.t 0)⟩,⟨some 14,none,.nilc (.t 13)⟩,⟨some 15,none,.fa 2 (.t 14)⟩,⟨none,none,.st 1 (.t 15) (.c (.bool true))⟩]) (.seq (.rg [⟨some 2,none,.mv (.c (.int .i64 0))⟩]) (.ret)))),[.t 2]⟩
def s_impl_tokens_want : SFn:= ⟨11,.seq (.rg [⟨some 4,none,.mv (.t 0)⟩,⟨some 5,none,.mv (.t 1)⟩,⟨some 6,none,.callW 118 [.t 4,.t 5]⟩,⟨some 7,none,.un .not (.t 6)⟩]) (.cond (.t 7) (.rg [⟨some 8,none,.mv (.t 0)⟩,⟨some 9,none,.nilc (.t 8)⟩,⟨some 10,none,.fa 2 (.t 9)⟩,⟨none,none,.st 1 (.t 10) (.c (.bool true))⟩]) (.skip)),[]⟩
def s_impl_tokens_parts_L0 : SCode:= .seq (.rg [⟨some 22,none,.bin .lss (.t 21) (.t 20)⟩]) (.seq (.cond (.t 22) (.skip) (.exit 2)) (.seq (.blk 3 (.seq (.rg [⟨some 23,none,.mv (.t 21)⟩,⟨some 24,none,.ia 3 (.t 19) (.t 21)⟩,⟨some 25,none,.ldA 3 (.t 24)⟩,⟨some 9,none,.alloc [.str [],.int .i64 0,.bool false]⟩,⟨some 8,none,.mv (.t 23)⟩,⟨none,none,.st 3 (.t 9) (.t 25)⟩]) (.seq (.rg [⟨some 26,none,.fa 0 (.t 9)⟩,⟨some 27,none,.ld (.t 26)⟩,⟨some 28,none,.mv (.t 6)⟩,⟨some 29,none,.bin .eql (.t 27) (.t 28)⟩]) (.cond (.t 29) (.rg [⟨some 30,none,.mv (.t 8)⟩,⟨some 7,none,.mv (.t 30)⟩]) (.skip))))) (.rg [⟨some 31,none,.bin .add (.t 21) (.c (.int .i64 1))⟩,⟨some 21,none,.mv (.t 31)⟩])))
def s_impl_tokens_parts_L1 : SCode:= .seq (.seq (.rg [⟨some 11,none,.mv (.t 0)⟩,⟨some 12,none,.nilc (.t 11)⟩,⟨some 13,none,.fa 2 (.t 12)⟩,⟨some 14,none,.ld (.t 13)⟩,⟨some 15,none,.un .not (.t 14)⟩]) (.cond (.t 15) (.skip) (.exit 0))) (.blk 1 (.seq (.rg [⟨some 16,none,.mv (.t 0)⟩,⟨some 17,none,.callW 117 [.t 16]⟩,⟨some 6,none,.mv (.t 17)⟩]) (.seq (.rg [⟨some 7,none,.mv (.c (.int .i64 (-1)))⟩]) (.seq (.seq (.rg [⟨some 18,none,.fa 1 (.t 3)⟩,⟨some 19,none,.ld (.t 18)⟩,⟨some 20,none,.lenL (.t 19)⟩,⟨some 21,none,.mv (.c (.int .i64 0))⟩]) (.blk 2 (.loop s_impl_tokens_parts_L0))) (.seq (.rg [⟨some 32,none,.mv (.t 7)⟩,⟨some 33,none,.build [.int .i64 0,.bool false] [(0,(1,.t 32))]⟩,⟨some 10,none,.alloc [.int .i64 0,.bool false]⟩,⟨none,none,.st 2 (.t 10) (.t 33)⟩]) (.seq (.rg [⟨some 34,none,.mv (.t 0)⟩,⟨some 35,none,.callW 118 [.t 34,.c (.str [100,101,115,99])]⟩,⟨some 36,none,.fa 1 (.t 10)⟩,⟨none,none,.st 1 (.t 36) (.t 35)⟩]) (.seq (.rg [⟨some 37,none,.mv (.t 5)⟩,⟨some 38,none,.ldA 2 (.t 10)⟩,⟨some 39,none,.bslice true [.int .i64 0,.bool false] 1 [(0,.t 38)]⟩,⟨some 40,none,.app true 16 2 (.t 37) (.t 39)⟩,⟨some 5,none,.mv (.t 40)⟩]) (.seq (.seq (.rg [⟨some 41,none,.mv (.t 0)⟩,⟨some 42,none,.callW 118 [.t 41,.c (.str [59])]⟩]) (.cond (.t 42) (.exit 0) (.skip))) (.rg [⟨some 43,none,.mv (.t 0)⟩,⟨some 44,none,.callW 116 [.t 43,.c (.str [44])]⟩])))))))))
def s_impl_tokens_parts : SFn:= ⟨46,.seq (.rg [⟨some 3,none,.box (.t 1)⟩,⟨some 4,none,.mv (.c .snil)⟩]) (.seq (.rg [⟨some 5,none,.mv (.c .snil)⟩]) (.seq (.blk 0 (.loop s_impl_tokens_parts_L1)) (.seq (.rg [⟨some 45,none,.mv (.t 5)⟩,⟨some 4,none,.mv (.t 45)⟩]) (.ret)))),[.t 4]⟩
def s_impl_tokens_def_L0 : SCode:= .seq (.seq (.rg [⟨some 13,none,.mv (.t 0)⟩,⟨some 14,none,.nilc (.t 13)⟩,⟨some 15,none,.fa 2 (.t 14)⟩,⟨some 16,none,.ld (.t 15)⟩,⟨some 17,none,.un .not (.t 16)⟩,⟨some 18,none,.mv (.t 17)⟩,⟨some 19,some (18,true),.mv (.t 0)⟩,⟨some 20,some (18,true),.callW 118 [.t 19,.c (.str [112,114,105,109,97,114,121])]⟩,⟨some 21,some (18,true),.un .not (.t 20)⟩,⟨some 22,none,.pick (.t 18) (.t 21) (.c (.bool false))⟩]) (.cond (.t 22) (.skip) (.exit 0))) (.blk 1 (.seq (.rg [⟨some 23,none,.mv (.t 0)⟩,⟨some 24,none,.callW 117 [.t 23]⟩,⟨some 25,none,.build [.str [],.int .i64 0,.bool false] [(0,(1,.t 24))]⟩,⟨some 4,none,.alloc [.str [],.int .i64 0,.bool false]⟩,⟨none,none,.st 3 (.t 4) (.t 25)⟩]) (.seq (.rg [⟨some 26,none,.mv (.t 0)⟩,⟨some 27,none,.callW 119 [.t 26]⟩,⟨some 28,none,.fa 1 (.t 4)⟩,⟨none,none,.st 1 (.t 28) (.t 27)⟩]) (.seq (.rg [⟨some 29,none,.mv (.t 0)⟩,⟨some 30,none,.callW 118 [.t 29,.c (.str [110,117,108,108])]⟩,⟨some 31,none,.fa 2 (.t 4)⟩,⟨none,none,.st 1 (.t 31) (.t 30)⟩]) (.seq (.rg [⟨some 32,none,.mv (.t 0)⟩,⟨some 33,none,.callW 116 [.t 32,.c (.str [59])]⟩]) (.rg [⟨some 34,none,.fa 1 (.t 3)⟩,⟨some 35,none,.ld (.t 34)⟩,⟨some 36,none,.ldA 3 (.t 4)⟩,⟨some 37,none,.bslice true [.str [],.int .i64 0,.bool false] 1 [(0,.t 36)]⟩,⟨some 38,none,.app true 32 3 (.t 35) (.t 37)⟩,⟨some 39,none,.fa 1 (.t 3)⟩,⟨none,none,.st 1 (.t 39) (.t 38)⟩]))))))
def s_impl_tokens_def_L1 : SCode:= .seq (.seq (.rg [⟨some 44,none,.mv (.t 0)⟩,⟨some 45,none,.nilc (.t 44)⟩,⟨some 46,none,.fa 2 (.t 45)⟩,⟨some 47,none,.ld (.t 46)⟩,⟨some 48,none,.un .not (.t 47)⟩,⟨some 49,none,.mv (.t 48)⟩,⟨some 50,some (49,true),.mv (.t 0)⟩,⟨some 51,some (49,true),.callW 118 [.t 50,.c (.str [125])]⟩,⟨some 52,some (49,true),.un .not (.t 51)⟩,⟨some 53,none,.pick (.t 49) (.t 52) (.c (.bool false))⟩]) (.cond (.t 53) (.skip) (.exit 2))) (.blk 3 (.seq (.rg [⟨some 54,none,.mv (.t 0)⟩,⟨some 55,none,.callW 118 [.t 54,.c (.str [117,110,105,113,117,101])]⟩,⟨some 56,none,.build [.str [],.bool false,.snil] [(1,(1,.t 55))]⟩,⟨some 5,none,.alloc [.str [],.bool false,.snil]⟩,⟨none,none,.st 3 (.t 5) (.t 56)⟩]) (.seq (.seq (.rg [⟨some 57,none,.fa 1 (.t 5)⟩,⟨some 58,none,.ld (.t 57)⟩,⟨some 59,none,.un .not (.t 58)⟩]) (.cond (.t 59) (.rg [⟨some 60,none,.mv (.t 0)⟩,⟨some 61,none,.callW 116 [.t 60,.c (.str [105,110,100,101,120])]⟩]) (.skip))) (.seq (.rg [⟨some 62,none,.mv (.t 0)⟩,⟨some 63,none,.callW 117 [.t 62]⟩,⟨some 64,none,.fa 0 (.t 5)⟩,⟨none,none,.st 1 (.t 64) (.t 63)⟩]) (.seq (.rg [⟨some 65,none,.mv (.t 0)⟩,⟨some 66,none,.ldA 4 (.t 3)⟩,⟨some 67,none,.callW 120 [.t 65,.t 66]⟩,⟨some 68,none,.fa 2 (.t 5)⟩,⟨none,none,.st 1 (.t 68) (.t 67)⟩]) (.rg [⟨some 69,none,.fa 3 (.t 3)⟩,⟨some 70,none,.ld (.t 69)⟩,⟨some 71,none,.ldA 3 (.t 5)⟩,⟨some 72,none,.bslice true [.str [],.bool false,.snil] 1 [(0,.t 71)]⟩,⟨some 73,none,.app true 48 3 (.t 70) (.t 72)⟩,⟨some 74,none,.fa 3 (.t 3)⟩,⟨none,none,.st 1 (.t 74) (.t 73)⟩]))))))
def s_impl_tokens_def : SFn:= ⟨76,.seq (.rg [⟨some 2,none,.alloc [.str [],.snil,.snil,.snil]⟩]) (.seq (.rg [⟨some 6,none,.mv (.t 0)⟩,⟨some 7,none,.callW 116 [.t 6,.c (.str [116,97,98,108,101])]⟩]) (.seq (.rg [⟨some 8,none,.mv (.t 0)⟩,⟨some 9,none,.callW 117 [.t 8]⟩,⟨some 10,none,.build [.str [],.snil,.snil,.snil] [(0,(1,.t 9))]⟩,⟨some 3,none,.alloc [.str [],.snil,.snil,.snil]⟩,⟨none,none,.st 4 (.t 3) (.t 10)⟩]) (.seq (.rg [⟨some 11,none,.mv (.t 0)⟩,⟨some 12,none,.callW 116 [.t 11,.c (.str [123])]⟩]) (.seq (.blk 0 (.loop s_impl_tokens_def_L0)) (.seq (.rg [⟨some 40,none,.mv (.t 0)⟩,⟨some 41,none,.ldA 4 (.t 3)⟩,⟨some 42,none,.callW 120 [.t 40,.t 41]⟩,⟨some 43,none,.fa 2 (.t 3)⟩,⟨none,none,.st 1 (.t 43) (.t 42)⟩]) (.seq (.blk 2 (.loop s_impl_tokens_def_L1)) (.seq (.rg [⟨some 75,none,.ldA 4 (.t 3)⟩,⟨none,none,.st 4 (.t 2) (.t 75)⟩]) (.ret)))))))),[.ldA 2 4]⟩
def s_impl_isLetter : SFn:= ⟨9,.seq (.rg [⟨some 2,none,.mv (.c (.bool false))⟩]) (.seq (.rg [⟨some 3,none,.mv (.t 0)⟩,⟨some 4,none,.bin .geq (.t 3) (.c (.int .u8 97))⟩,⟨some 5,none,.mv (.t 4)⟩,⟨some 6,some (5,true),.mv (.t 0)⟩,⟨some 7,some (5,true),.bin .leq (.t 6) (.c (.int .u8 122))⟩,⟨some 8,none,.pick (.t 5) (.t 7) (.c (.bool false))⟩,⟨some 2,none,.mv (.t 8)⟩]) (.ret)),[.t 2]⟩
def s_impl_isDigit : SFn:= ⟨9,.seq (.rg [⟨some 2,none,.mv (.c (.bool false))⟩]) (.seq (.rg [⟨some 3,none,.mv (.t 0)⟩,⟨some 4,none,.bin .geq (.t 3) (.c (.int .u8 48))⟩,⟨some 5,none,.mv (.t 4)⟩,⟨some 6,some (5,true),.mv (.t 0)⟩,⟨some 7,some (5,true),.bin .leq (.t 6) (.c (.int .u8 57))⟩,⟨some 8,none,.pick (.t 5) (.t 7) (.c (.bool false))⟩,⟨some 2,none,.mv (.t 8)⟩]) (.ret)),[.t 2]⟩
def s_impl_in : SFn:= ⟨15,.seq (.rg [⟨some 6,none,.mv (.c (.bool false))⟩]) (.seq (.rg [⟨some 7,none,.mv (.t 0)⟩,⟨some 8,none,.mv (.t 1)⟩,⟨some 9,none,.bin .geq (.t 7) (.t 8)⟩,⟨some 10,none,.mv (.t 9)⟩,⟨some 11,some (10,true),.mv (.t 0)⟩,⟨some 12,some (10,true),.mv (.t 2)⟩,⟨some 13,some (10,true),.bin .leq (.t 11) (.t 12)⟩,⟨some 14,none,.pick (.t 10) (.t 13) (.c (.bool false))⟩,⟨some 6,none,.mv (.t 14)⟩]) (.ret)),[.t 6]⟩
def s_impl_nameOk_L0 : SCode:= .seq (.seq (.rg [⟨some 4,none,.mv (.t 3)⟩,⟨some 5,none,.mv (.t 0)⟩,⟨some 6,none,.lenS (.t 5)⟩,⟨some 7,none,.bin .lss (.t 4) (.t 6)⟩]) (.cond (.t 7) (.skip) (.exit 0))) (.seq (.blk 1 (.seq (.rg [⟨some 10,none,.mv (.t 0)⟩,⟨some 11,none,.mv (.t 3)⟩,⟨some 12,none,.ix (.t 10) (.t 11)⟩,⟨some 13,none,.callP 113 [.t 12]⟩,⟨some 14,none,.un .not (.t 13)⟩,⟨some 15,none,.mv (.t 14)⟩,⟨some 16,some (15,true),.mv (.t 3)⟩,⟨some 17,some (15,true),.bin .eql (.t 16) (.c (.int .i64 0))⟩,⟨some 18,some (15,true),.mv (.t 17)⟩,⟨some 19,some (18,false),.mv (.t 0)⟩,⟨some 20,some (18,false),.mv (.t 3)⟩,⟨some 21,some (18,false),.ix (.t 19) (.t 20)⟩,⟨some 22,some (18,false),.callP 114 [.t 21]⟩,⟨some 23,some (18,false),.un .not (.t 22)⟩,⟨some 24,some (15,true),.pick (.t 18) (.c (.bool true)) (.t 23)⟩,⟨some 25,none,.pick (.t 15) (.t 24) (.c (.bool false))⟩]) (.cond (.t 25) (.seq (.rg [⟨some 2,none,.mv (.c (.bool false))⟩]) (.ret)) (.skip)))) (.rg [⟨some 8,none,.mv (.t 3)⟩,⟨some 9,none,.bin .add (.t 8) (.c (.int .i64 1))⟩,⟨some 3,none,.mv (.t 9)⟩]))
def s_impl_nameOk : SFn:= ⟨29,.seq (.rg [⟨some 2,none,.mv (.c (.bool false))⟩]) (.seq (.seq (.rg [⟨some 3,none,.mv (.c (.int .i64 0))⟩]) (.blk 0 (.loop s_impl_nameOk_L0))) (.seq (.rg [⟨some 26,none,.mv (.t 0)⟩,⟨some 27,none,.lenS (.t 26)⟩,⟨some 28,none,.callP 69 [.t 27,.c (.int .i64 1),.c (.int .i64 8)]⟩,⟨some 2,none,.mv (.t 28)⟩]) (.ret))),[.t 2]⟩
def s_impl_isMark : SFn:= ⟨17,.seq (.rg [⟨some 2,none,.mv (.c (.bool false))⟩]) (.seq (.rg [⟨some 3,none,.mv (.t 0)⟩,⟨some 4,none,.bin .eql (.t 3) (.c (.int .u8 123))⟩,⟨some 5,none,.mv (.t 4)⟩,⟨some 6,some (5,false),.mv (.t 0)⟩,⟨some 7,some (5,false),.bin .eql (.t 6) (.c (.int .u8 125))⟩,⟨some 8,none,.pick (.t 5) (.c (.bool true)) (.t 7)⟩,⟨some 9,none,.mv (.t 8)⟩,⟨some 10,some (9,false),.mv (.t 0)⟩,⟨some 11,some (9,false),.bin .eql (.t 10) (.c (.int .u8 44))⟩,⟨some 12,none,.pick (.t 9) (.c (.bool true)) (.t 11)⟩,⟨some 13,none,.mv (.t 12)⟩,⟨some 14,some (13,false),.mv (.t 0)⟩,⟨some 15,some (13,false),.bin .eql (.t 14) (.c (.int .u8 59))⟩,⟨some 16,none,.pick (.t 13) (.c (.bool true)) (.t 15)⟩,⟨some 2,none,.mv (.t 16)⟩]) (.ret)),[.t 2]⟩
def s_impl_TokenOk : SFn:= ⟨22,.seq (.rg [⟨some 1,none,.box (.t 0)⟩,⟨some 2,none,.mv (.c (.bool false))⟩]) (.seq (.seq (.rg [⟨some 3,none,.fa 0 (.t 1)⟩,⟨some 4,none,.ld (.t 3)⟩]) (.blk 0 (.seq (.rg [⟨some 6,none,.bin .eql (.t 4) (.c (.int .i64 1))⟩,⟨some 5,none,.mv (.t 6)⟩]) (.cond (.t 5) (.seq (.rg [⟨some 7,none,.fa 1 (.t 1)⟩,⟨some 8,none,.ld (.t 7)⟩,⟨some 9,none,.callP 163 [.t 8]⟩,⟨some 2,none,.mv (.t 9)⟩]) (.ret)) (.seq (.rg [⟨some 11,none,.bin .eql (.t 4) (.c (.int .i64 2))⟩,⟨some 10,none,.mv (.t 11)⟩]) (.cond (.t 10) (.seq (.rg [⟨some 12,none,.fa 1 (.t 1)⟩,⟨some 13,none,.ld (.t 12)⟩,⟨some 14,none,.lenS (.t 13)⟩,⟨some 15,none,.bin .eql (.t 14) (.c (.int .i64 1))⟩,⟨some 16,none,.mv (.t 15)⟩,⟨some 17,some (16,true),.fa 1 (.t 1)⟩,⟨some 18,some (16,true),.ld (.t 17)⟩,⟨some 19,some (16,true),.ix (.t 18) (.c (.int .i64 0))⟩,⟨some 20,some (16,true),.callP 164 [.t 19]⟩,⟨some 21,none,.pick (.t 16) (.t 20) (.c (.bool false))⟩,⟨some 2,none,.mv (.t 21)⟩]) (.ret)) (.skip))))))) (.seq (.rg [⟨some 2,none,.mv (.c (.bool false))⟩]) (.ret))),[.t 2]⟩
def s_impl_Lex_L0 : SCode:= .seq (.seq (.rg [⟨some 41,none,.mv (.t 7)⟩,⟨some 42,none,.mv (.t 0)⟩,⟨some 43,none,.lenS (.t 42)⟩,⟨some 44,none,.bin .lss (.t 41) (.t 43)⟩,⟨some 45,none,.mv (.t 44)⟩,⟨some 46,some (45,true),.mv (.t 0)⟩,⟨some 47,some (45,true),.mv (.t 7)⟩,⟨some 48,some (45,true),.ix (.t 46) (.t 47)⟩,⟨some 49,some (45,true),.callP 113 [.t 48]⟩,⟨some 50,some (45,true),.mv (.t 49)⟩,⟨some 51,some (50,false),.mv (.t 0)⟩,⟨some 52,some (50,false),.mv (.t 7)⟩,⟨some 53,some (50,false),.ix (.t 51) (.t 52)⟩,⟨some 54,some (50,false),.callP 114 [.t 53]⟩,⟨some 55,some (45,true),.pick (.t 50) (.c (.bool true)) (.t 54)⟩,⟨some 56,none,.pick (.t 45) (.t 55) (.c (.bool false))⟩]) (.cond (.t 56) (.skip) (.exit 2))) (.blk 3 (.rg [⟨some 57,none,.mv (.t 7)⟩,⟨some 58,none,.bin .add (.t 57) (.c (.int .i64 1))⟩,⟨some 7,none,.mv (.t 58)⟩]))
def s_impl_Lex_L1 : SCode:= .seq (.seq (.rg [⟨some 9,none,.mv (.t 5)⟩,⟨some 10,none,.mv (.t 0)⟩,⟨some 11,none,.lenS (.t 10)⟩,⟨some 12,none,.bin .lss (.t 9) (.t 11)⟩]) (.cond (.t 12) (.skip) (.exit 0))) (.blk 1 (.seq (.rg [⟨some 13,none,.mv (.t 0)⟩,⟨some 14,none,.mv (.t 5)⟩,⟨some 15,none,.ix (.t 13) (.t 14)⟩,⟨some 6,none,.mv (.t 15)⟩]) (.seq (.seq (.rg [⟨some 16,none,.mv (.t 6)⟩,⟨some 17,none,.bin .eql (.t 16) (.c (.int .u8 32))⟩,⟨some 18,none,.mv (.t 17)⟩,⟨some 19,some (18,false),.mv (.t 6)⟩,⟨some 20,some (18,false),.bin .eql (.t 19) (.c (.int .u8 9))⟩,⟨some 21,none,.pick (.t 18) (.c (.bool true)) (.t 20)⟩,⟨some 22,none,.mv (.t 21)⟩,⟨some 23,some (22,false),.mv (.t 6)⟩,⟨some 24,some (22,false),.bin .eql (.t 23) (.c (.int .u8 10))⟩,⟨some 25,none,.pick (.t 22) (.c (.bool true)) (.t 24)⟩,⟨some 26,none,.mv (.t 25)⟩,⟨some 27,some (26,false),.mv (.t 6)⟩,⟨some 28,some (26,false),.bin .eql (.t 27) (.c (.int .u8 13))⟩,⟨some 29,none,.pick (.t 26) (.c (.bool true)) (.t 28)⟩]) (.cond (.t 29) (.seq (.rg [⟨some 30,none,.mv (.t 5)⟩,⟨some 31,none,.bin .add (.t 30) (.c (.int .i64 1))⟩,⟨some 5,none,.mv (.t 31)⟩]) (.exit 1)) (.skip))) (.seq (.rg [⟨some 32,none,.mv (.t 5)⟩,⟨some 33,none,.bin .add (.t 32) (.c (.int .i64 1))⟩,⟨some 7,none,.mv (.t 33)⟩]) (.seq (.rg [⟨some 34,none,.mv (.t 0)⟩,⟨some 35,none,.mv (.t 5)⟩,⟨some 36,none,.mv (.t 7)⟩,⟨some 37,none,.sliS (.t 34) (some (.t 35)) (some (.t 36))⟩,⟨some 38,none,.build [.int .i64 0,.str []] [(0,(1,.c (.int .i64 2))),(1,(1,.t 37))]⟩,⟨some 8,none,.alloc [.int .i64 0,.str []]⟩,⟨none,none,.st 2 (.t 8) (.t 38)⟩]) (.seq (.seq (.rg [⟨some 39,none,.mv (.t 6)⟩,⟨some 40,none,.callP 113 [.t 39]⟩]) (.cond (.t 40) (.seq (.blk 2 (.loop s_impl_Lex_L0)) (.rg [⟨some 59,none,.mv (.t 0)⟩,⟨some 60,none,.mv (.t 5)⟩,⟨some 61,none,.mv (.t 7)⟩,⟨some 62,none,.sliS (.t 59) (some (.t 60)) (some (.t 61))⟩,⟨some 63,none,.build [.int .i64 0,.str []] [(0,(1,.c (.int .i64 1))),(1,(1,.t 62))]⟩,⟨none,none,.st 2 (.t 8) (.t 63)⟩])) (.skip))) (.seq (.seq (.rg [⟨some 64,none,.ldA 2 (.t 8)⟩,⟨some 65,none,.callP 115 [.t 64]⟩,⟨some 66,none,.un .not (.t 65)⟩,⟨some 67,none,.mv (.t 66)⟩,⟨some 68,some (67,false),.mv (.t 4)⟩,⟨some 69,some (67,false),.lenL (.t 68)⟩,⟨some 70,some (67,false),.bin .geq (.t 69) (.c (.int .i64 500))⟩,⟨some 71,none,.pick (.t 67) (.c (.bool true)) (.t 70)⟩]) (.cond (.t 71) (.seq (.rg [⟨some 72,none,.mv (.t 5)⟩,⟨some 2,none,.mv (.c .snil)⟩,⟨some 3,none,.mv (.t 72)⟩]) (.ret)) (.skip))) (.seq (.rg [⟨some 73,none,.mv (.t 4)⟩,⟨some 74,none,.ldA 2 (.t 8)⟩,⟨some 75,none,.bslice false [.int .i64 0,.str []] 1 [(0,.t 74)]⟩,⟨some 76,none,.app false 24 2 (.t 73) (.t 75)⟩,⟨some 4,none,.mv (.t 76)⟩]) (.rg [⟨some 77,none,.mv (.t 7)⟩,⟨some 5,none,.mv (.t 77)⟩])))))))))
def s_impl_Lex : SFn:= ⟨79,.seq (.rg [⟨some 2,none,.mv (.c .snil)⟩,⟨some 3,none,.mv (.c (.int .i64 0))⟩]) (.seq (.rg [⟨some 4,none,.mv (.c .snil)⟩]) (.seq (.seq (.rg [⟨some 5,none,.mv (.c (.int .i64 0))⟩]) (.blk 0 (.loop s_impl_Lex_L1))) (.seq (.rg [⟨some 78,none,.mv (.t 4)⟩,⟨some 2,none,.mv (.t 78)⟩,⟨some 3,none,.mv (.c (.int .i64 (-1)))⟩]) (.ret)))),[.t 2,.t 3]⟩
def s_impl_partsOk_L0 : SCode:= .seq (.rg [⟨some 29,none,.bin .lss (.t 28) (.t 27)⟩]) (.seq (.cond (.t 29) (.skip) (.exit 2)) (.seq (.blk 3 (.seq (.rg [⟨some 30,none,.ia 2 (.t 26) (.t 28)⟩,⟨some 31,none,.ldA 2 (.t 30)⟩,⟨some 8,none,.alloc [.int .i64 0,.bool false]⟩,⟨none,none,.st 2 (.t 8) (.t 31)⟩]) (.seq (.rg [⟨some 32,none,.fa 0 (.t 8)⟩,⟨some 33,none,.ld (.t 32)⟩,⟨some 34,none,.fa 0 (.t 6)⟩,⟨some 35,none,.ld (.t 34)⟩,⟨some 36,none,.bin .eql (.t 33) (.t 35)⟩]) (.cond (.t 36) (.seq (.rg [⟨some 4,none,.mv (.c (.bool false))⟩]) (.ret)) (.skip))))) (.rg [⟨some 37,none,.bin .add (.t 28) (.c (.int .i64 1))⟩,⟨some 28,none,.mv (.t 37)⟩])))
def s_impl_partsOk_L1 : SCode:= .seq (.rg [⟨some 12,none,.bin .lss (.t 11) (.t 10)⟩]) (.seq (.cond (.t 12) (.skip) (.exit 0)) (.seq (.blk 1 (.seq (.rg [⟨some 13,none,.mv (.t 11)⟩,⟨some 14,none,.ia 2 (.t 9) (.t 11)⟩,⟨some 15,none,.ldA 2 (.t 14)⟩,⟨some 6,none,.alloc [.int .i64 0,.bool false]⟩,⟨some 5,none,.mv (.t 13)⟩,⟨none,none,.st 2 (.t 6) (.t 15)⟩]) (.seq (.seq (.rg [⟨some 16,none,.fa 0 (.t 6)⟩,⟨some 17,none,.ld (.t 16)⟩,⟨some 18,none,.fa 1 (.t 2)⟩,⟨some 19,none,.ld (.t 18)⟩,⟨some 20,none,.lenL (.t 19)⟩,⟨some 21,none,.bin .sub (.t 20) (.c (.int .i64 1))⟩,⟨some 22,none,.callP 69 [.t 17,.c (.int .i64 0),.t 21]⟩,⟨some 23,none,.un .not (.t 22)⟩]) (.cond (.t 23) (.seq (.rg [⟨some 4,none,.mv (.c (.bool false))⟩]) (.ret)) (.skip))) (.seq (.rg [⟨some 24,none,.mv (.t 1)⟩,⟨some 25,none,.mv (.t 5)⟩,⟨some 26,none,.sliL 2 (.t 24) none (some (.t 25))⟩,⟨some 27,none,.lenL (.t 26)⟩,⟨some 28,none,.mv (.c (.int .i64 0))⟩]) (.blk 2 (.loop s_impl_partsOk_L0)))))) (.rg [⟨some 38,none,.bin .add (.t 11) (.c (.int .i64 1))⟩,⟨some 11,none,.mv (.t 38)⟩])))
def s_impl_partsOk : SFn:= ⟨42,.seq (.rg [⟨some 2,none,.box (.t 0)⟩,⟨some 4,none,.mv (.c (.bool false))⟩]) (.seq (.seq (.rg [⟨some 9,none,.mv (.t 1)⟩,⟨some 10,none,.lenL (.t 9)⟩,⟨some 11,none,.mv (.c (.int .i64 0))⟩]) (.blk 0 (.loop s_impl_partsOk_L1))) (.seq (.rg [⟨some 39,none,.mv (.t 1)⟩,⟨some 40,none,.lenL (.t 39)⟩,⟨some 41,none,.callP 69 [.t 40,.c (.int .i64 1),.c (.int .i64 2)]⟩,⟨some 4,none,.mv (.t 41)⟩]) (.ret))),[.t 4]⟩
def s_impl_isFree_L0 : SCode:= .seq (.rg [⟨some 8,none,.bin .lss (.t 7) (.t 6)⟩]) (.seq (.cond (.t 8) (.skip) (.exit 0)) (.seq (.blk 1 (.seq (.rg [⟨some 9,none,.ia 1 (.t 5) (.t 7)⟩,⟨some 10,none,.ld (.t 9)⟩,⟨some 4,none,.mv (.t 10)⟩]) (.seq (.rg [⟨some 11,none,.mv (.t 4)⟩,⟨some 12,none,.mv (.t 0)⟩,⟨some 13,none,.bin .eql (.t 11) (.t 12)⟩]) (.cond (.t 13) (.seq (.rg [⟨some 2,none,.mv (.c (.bool false))⟩]) (.ret)) (.skip))))) (.rg [⟨some 14,none,.bin .add (.t 7) (.c (.int .i64 1))⟩,⟨some 7,none,.mv (.t 14)⟩])))
def s_impl_isFree : SFn:= ⟨17,.seq (.rg [⟨some 2,none,.mv (.c (.bool false))⟩]) (.seq (.seq (.rg [⟨some 5,none,.callP 219 [.c (.str [116,97,98,108,101,32,112,114,105,109,97,114,121,32,117,110,105,113,117,101,32,105,110,100,101,120,32,110,117,108,108,32,100,101,115,99,32,105,110,116,32,110,117,109,32,116,101,120,116,32,98,111,111,108]),.c (.str [32])]⟩,⟨some 6,none,.lenL (.t 5)⟩,⟨some 7,none,.mv (.c (.int .i64 0))⟩]) (.blk 0 (.loop s_impl_isFree_L0))) (.seq (.rg [⟨some 15,none,.mv (.t 0)⟩,⟨some 16,none,.callP 163 [.t 15]⟩,⟨some 2,none,.mv (.t 16)⟩]) (.ret))),[.t 2]⟩
def s_impl_namesOk_L0 : SCode:= .seq (.rg [⟨some 11,none,.bin .lss (.t 10) (.t 9)⟩]) (.seq (.cond (.t 11) (.skip) (.exit 0)) (.seq (.blk 1 (.seq (.rg [⟨some 12,none,.ia 3 (.t 8) (.t 10)⟩,⟨some 13,none,.ldA 3 (.t 12)⟩,⟨some 4,none,.alloc [.str [],.int .i64 0,.bool false]⟩,⟨none,none,.st 3 (.t 4) (.t 13)⟩]) (.seq (.rg [⟨some 14,none,.fa 0 (.t 4)⟩,⟨some 15,none,.ld (.t 14)⟩,⟨some 16,none,.callP 196 [.t 15]⟩,⟨some 17,none,.un .not (.t 16)⟩]) (.cond (.t 17) (.seq (.rg [⟨some 2,none,.mv (.c (.bool false))⟩]) (.ret)) (.skip))))) (.rg [⟨some 18,none,.bin .add (.t 10) (.c (.int .i64 1))⟩,⟨some 10,none,.mv (.t 18)⟩])))
def s_impl_namesOk_L1 : SCode:= .seq (.rg [⟨some 23,none,.bin .lss (.t 22) (.t 21)⟩]) (.seq (.cond (.t 23) (.skip) (.exit 2)) (.seq (.blk 3 (.seq (.rg [⟨some 24,none,.ia 3 (.t 20) (.t 22)⟩,⟨some 25,none,.ldA 3 (.t 24)⟩,⟨some 6,none,.alloc [.str [],.bool false,.snil]⟩,⟨none,none,.st 3 (.t 6) (.t 25)⟩]) (.seq (.rg [⟨some 26,none,.fa 0 (.t 6)⟩,⟨some 27,none,.ld (.t 26)⟩,⟨some 28,none,.callP 196 [.t 27]⟩,⟨some 29,none,.un .not (.t 28)⟩]) (.cond (.t 29) (.seq (.rg [⟨some 2,none,.mv (.c (.bool false))⟩]) (.ret)) (.skip))))) (.rg [⟨some 30,none,.bin .add (.t 22) (.c (.int .i64 1))⟩,⟨some 22,none,.mv (.t 30)⟩])))
def s_impl_namesOk : SFn:= ⟨34,.seq (.rg [⟨some 1,none,.box (.t 0)⟩,⟨some 2,none,.mv (.c (.bool false))⟩]) (.seq (.seq (.rg [⟨some 7,none,.fa 1 (.t 1)⟩,⟨some 8,none,.ld (.t 7)⟩,⟨some 9,none,.lenL (.t 8)⟩,⟨some 10,none,.mv (.c (.int .i64 0))⟩]) (.blk 0 (.loop s_impl_namesOk_L0))) (.seq (.seq (.rg [⟨some 19,none,.fa 3 (.t 1)⟩,⟨some 20,none,.ld (.t 19)⟩,⟨some 21,none,.lenL (.t 20)⟩,⟨some 22,none,.mv (.c (.int .i64 0))⟩]) (.blk 2 (.loop s_impl_namesOk_L1))) (.seq (.rg [⟨some 31,none,.fa 0 (.t 1)⟩,⟨some 32,none,.ld (.t 31)⟩,⟨some 33,none,.callP 196 [.t 32]⟩,⟨some 2,none,.mv (.t 33)⟩]) (.ret)))),[.t 2]⟩
def s_impl_twice_L0 : SCode:= .seq (.rg [⟨some 25,none,.bin .lss (.t 24) (.t 23)⟩]) (.seq (.cond (.t 25) (.skip) (.exit 2)) (.seq (.blk 3 (.seq (.rg [⟨some 26,none,.ia 3 (.t 22) (.t 24)⟩,⟨some 27,none,.ldA 3 (.t 26)⟩,⟨some 6,none,.alloc [.str [],.int .i64 0,.bool false]⟩,⟨none,none,.st 3 (.t 6) (.t 27)⟩]) (.seq (.rg [⟨some 28,none,.fa 0 (.t 6)⟩,⟨some 29,none,.ld (.t 28)⟩,⟨some 30,none,.fa 0 (.t 4)⟩,⟨some 31,none,.ld (.t 30)⟩,⟨some 32,none,.bin .eql (.t 29) (.t 31)⟩]) (.cond (.t 32) (.seq (.rg [⟨some 2,none,.mv (.c (.bool true))⟩]) (.ret)) (.skip))))) (.rg [⟨some 33,none,.bin .add (.t 24) (.c (.int .i64 1))⟩,⟨some 24,none,.mv (.t 33)⟩])))
def s_impl_twice_L1 : SCode:= .seq (.rg [⟨some 15,none,.bin .lss (.t 14) (.t 13)⟩]) (.seq (.cond (.t 15) (.skip) (.exit 0)) (.seq (.blk 1 (.seq (.rg [⟨some 16,none,.mv (.t 14)⟩,⟨some 17,none,.ia 3 (.t 12) (.t 14)⟩,⟨some 18,none,.ldA 3 (.t 17)⟩,⟨some 4,none,.alloc [.str [],.int .i64 0,.bool false]⟩,⟨some 3,none,.mv (.t 16)⟩,⟨none,none,.st 3 (.t 4) (.t 18)⟩]) (.seq (.rg [⟨some 19,none,.fa 1 (.t 1)⟩,⟨some 20,none,.ld (.t 19)⟩,⟨some 21,none,.mv (.t 3)⟩,⟨some 22,none,.sliL 3 (.t 20) none (some (.t 21))⟩,⟨some 23,none,.lenL (.t 22)⟩,⟨some 24,none,.mv (.c (.int .i64 0))⟩]) (.blk 2 (.loop s_impl_twice_L0))))) (.rg [⟨some 34,none,.bin .add (.t 14) (.c (.int .i64 1))⟩,⟨some 14,none,.mv (.t 34)⟩])))
def s_impl_twice_L2 : SCode:= .seq (.rg [⟨some 49,none,.bin .lss (.t 48) (.t 47)⟩]) (.seq (.cond (.t 49) (.skip) (.exit 6)) (.seq (.blk 7 (.seq (.rg [⟨some 50,none,.ia 3 (.t 46) (.t 48)⟩,⟨some 51,none,.ldA 3 (.t 50)⟩,⟨some 10,none,.alloc [.str [],.bool false,.snil]⟩,⟨none,none,.st 3 (.t 10) (.t 51)⟩]) (.seq (.rg [⟨some 52,none,.fa 0 (.t 10)⟩,⟨some 53,none,.ld (.t 52)⟩,⟨some 54,none,.fa 0 (.t 8)⟩,⟨some 55,none,.ld (.t 54)⟩,⟨some 56,none,.bin .eql (.t 53) (.t 55)⟩]) (.cond (.t 56) (.seq (.rg [⟨some 2,none,.mv (.c (.bool true))⟩]) (.ret)) (.skip))))) (.rg [⟨some 57,none,.bin .add (.t 48) (.c (.int .i64 1))⟩,⟨some 48,none,.mv (.t 57)⟩])))
def s_impl_twice_L3 : SCode:= .seq (.rg [⟨some 39,none,.bin .lss (.t 38) (.t 37)⟩]) (.seq (.cond (.t 39) (.skip) (.exit 4)) (.seq (.blk 5 (.seq (.rg [⟨some 40,none,.mv (.t 38)⟩,⟨some 41,none,.ia 3 (.t 36) (.t 38)⟩,⟨some 42,none,.ldA 3 (.t 41)⟩,⟨some 8,none,.alloc [.str [],.bool false,.snil]⟩,⟨some 7,none,.mv (.t 40)⟩,⟨none,none,.st 3 (.t 8) (.t 42)⟩]) (.seq (.rg [⟨some 43,none,.fa 3 (.t 1)⟩,⟨some 44,none,.ld (.t 43)⟩,⟨some 45,none,.mv (.t 7)⟩,⟨some 46,none,.sliL 3 (.t 44) none (some (.t 45))⟩,⟨some 47,none,.lenL (.t 46)⟩,⟨some 48,none,.mv (.c (.int .i64 0))⟩]) (.blk 6 (.loop s_impl_twice_L2))))) (.rg [⟨some 58,none,.bin .add (.t 38) (.c (.int .i64 1))⟩,⟨some 38,none,.mv (.t 58)⟩])))
def s_impl_twice : SFn:= ⟨59,.seq (.rg [⟨some 1,none,.box (.t 0)⟩,⟨some 2,none,.mv (.c (.bool false))⟩]) (.seq (.seq (.rg [⟨some 11,none,.fa 1 (.t 1)⟩,⟨some 12,none,.ld (.t 11)⟩,⟨some 13,none,.lenL (.t 12)⟩,⟨some 14,none,.mv (.c (.int .i64 0))⟩]) (.blk 0 (.loop s_impl_twice_L1))) (.seq (.seq (.rg [⟨some 35,none,.fa 3 (.t 1)⟩,⟨some 36,none,.ld (.t 35)⟩,⟨some 37,none,.lenL (.t 36)⟩,⟨some 38,none,.mv (.c (.int .i64 0))⟩]) (.blk 4 (.loop s_impl_twice_L3))) (.seq (.rg [⟨some 2,none,.mv (.c (.bool false))⟩]) (.ret)))),[.t 2]⟩
def s_impl_CheckDef_L0 : SCode:= .seq (.rg [⟨some 21,none,.bin .lss (.t 20) (.t 19)⟩]) (.seq (.cond (.t 21) (.skip) (.exit 0)) (.seq (.blk 1 (.seq (.rg [⟨some 22,none,.ia 3 (.t 18) (.t 20)⟩,⟨some 23,none,.ldA 3 (.t 22)⟩,⟨some 4,none,.alloc [.str [],.int .i64 0,.bool false]⟩,⟨none,none,.st 3 (.t 4) (.t 23)⟩]) (.seq (.rg [⟨some 24,none,.fa 1 (.t 4)⟩,⟨some 25,none,.ld (.t 24)⟩,⟨some 26,none,.callP 69 [.t 25,.c (.int .i64 1),.c (.int .i64 4)]⟩,⟨some 27,none,.un .not (.t 26)⟩]) (.cond (.t 27) (.seq (.rg [⟨some 2,none,.mv (.c (.int .i64 2))⟩]) (.ret)) (.skip))))) (.rg [⟨some 28,none,.bin .add (.t 20) (.c (.int .i64 1))⟩,⟨some 20,none,.mv (.t 28)⟩])))
def s_impl_CheckDef_L1 : SCode:= .seq (.rg [⟨some 39,none,.bin .lss (.t 38) (.t 37)⟩]) (.seq (.cond (.t 39) (.skip) (.exit 2)) (.seq (.blk 3 (.seq (.rg [⟨some 40,none,.ia 3 (.t 36) (.t 38)⟩,⟨some 41,none,.ldA 3 (.t 40)⟩,⟨some 6,none,.alloc [.str [],.bool false,.snil]⟩,⟨none,none,.st 3 (.t 6) (.t 41)⟩]) (.seq (.rg [⟨some 42,none,.ldA 4 (.t 1)⟩,⟨some 43,none,.fa 2 (.t 6)⟩,⟨some 44,none,.ld (.t 43)⟩,⟨some 45,none,.callP 167 [.t 42,.t 44]⟩,⟨some 46,none,.un .not (.t 45)⟩]) (.cond (.t 46) (.seq (.rg [⟨some 2,none,.mv (.c (.int .i64 5))⟩]) (.ret)) (.skip))))) (.rg [⟨some 47,none,.bin .add (.t 38) (.c (.int .i64 1))⟩,⟨some 38,none,.mv (.t 47)⟩])))
def s_impl_CheckDef_L2 : SCode:= .seq (.rg [⟨some 57,none,.bin .lss (.t 56) (.t 55)⟩]) (.seq (.cond (.t 57) (.skip) (.exit 4)) (.seq (.blk 5 (.seq (.rg [⟨some 58,none,.ia 2 (.t 54) (.t 56)⟩,⟨some 59,none,.ldA 2 (.t 58)⟩,⟨some 8,none,.alloc [.int .i64 0,.bool false]⟩,⟨none,none,.st 2 (.t 8) (.t 59)⟩]) (.seq (.rg [⟨some 60,none,.fa 1 (.t 1)⟩,⟨some 61,none,.ld (.t 60)⟩,⟨some 62,none,.fa 0 (.t 8)⟩,⟨some 63,none,.ld (.t 62)⟩,⟨some 64,none,.ia 3 (.t 61) (.t 63)⟩,⟨some 65,none,.fa 2 (.t 64)⟩,⟨some 66,none,.ld (.t 65)⟩]) (.cond (.t 66) (.seq (.rg [⟨some 2,none,.mv (.c (.int .i64 4))⟩]) (.ret)) (.skip))))) (.rg [⟨some 67,none,.bin .add (.t 56) (.c (.int .i64 1))⟩,⟨some 56,none,.mv (.t 67)⟩])))
def s_impl_CheckDef : SFn:= ⟨68,.seq (.rg [⟨some 1,none,.box (.t 0)⟩,⟨some 2,none,.mv (.c (.int .i64 0))⟩]) (.seq (.seq (.rg [⟨some 9,none,.ldA 4 (.t 1)⟩,⟨some 10,none,.callP 165 [.t 9]⟩,⟨some 11,none,.un .not (.t 10)⟩]) (.cond (.t 11) (.seq (.rg [⟨some 2,none,.mv (.c (.int .i64 1))⟩]) (.ret)) (.skip))) (.seq (.seq (.rg [⟨some 12,none,.fa 1 (.t 1)⟩,⟨some 13,none,.ld (.t 12)⟩,⟨some 14,none,.lenL (.t 13)⟩,⟨some 15,none,.callP 69 [.t 14,.c (.int .i64 1),.c (.int .i64 6)]⟩,⟨some 16,none,.un .not (.t 15)⟩]) (.cond (.t 16) (.seq (.rg [⟨some 2,none,.mv (.c (.int .i64 2))⟩]) (.ret)) (.skip))) (.seq (.seq (.rg [⟨some 17,none,.fa 1 (.t 1)⟩,⟨some 18,none,.ld (.t 17)⟩,⟨some 19,none,.lenL (.t 18)⟩,⟨some 20,none,.mv (.c (.int .i64 0))⟩]) (.blk 0 (.loop s_impl_CheckDef_L0))) (.seq (.seq (.rg [⟨some 29,none,.ldA 4 (.t 1)⟩,⟨some 30,none,.callP 166 [.t 29]⟩]) (.cond (.t 30) (.seq (.rg [⟨some 2,none,.mv (.c (.int .i64 3))⟩]) (.ret)) (.skip))) (.seq (.seq (.rg [⟨some 31,none,.fa 3 (.t 1)⟩,⟨some 32,none,.ld (.t 31)⟩,⟨some 33,none,.lenL (.t 32)⟩,⟨some 34,none,.bin .gtr (.t 33) (.c (.int .i64 2))⟩]) (.cond (.t 34) (.seq (.rg [⟨some 2,none,.mv (.c (.int .i64 6))⟩]) (.ret)) (.skip))) (.seq (.seq (.rg [⟨some 35,none,.fa 3 (.t 1)⟩,⟨some 36,none,.ld (.t 35)⟩,⟨some 37,none,.lenL (.t 36)⟩,⟨some 38,none,.mv (.c (.int .i64 0))⟩]) (.blk 2 (.loop s_impl_CheckDef_L1))) (.seq (.seq (.rg [⟨some 48,none,.ldA 4 (.t 1)⟩,⟨some 49,none,.fa 2 (.t 1)⟩,⟨some 50,none,.ld (.t 49)⟩,⟨some 51,none,.callP 167 [.t 48,.t 50]⟩,⟨some 52,none,.un .not (.t 51)⟩]) (.cond (.t 52) (.seq (.rg [⟨some 2,none,.mv (.c (.int .i64 5))⟩]) (.ret)) (.skip))) (.seq (.seq (.rg [⟨some 53,none,.fa 2 (.t 1)⟩,⟨some 54,none,.ld (.t 53)⟩,⟨some 55,none,.lenL (.t 54)⟩,⟨some 56,none,.mv (.c (.int .i64 0))⟩]) (.blk 4 (.loop s_impl_CheckDef_L2))) (.seq (.rg [⟨some 2,none,.mv (.c (.int .i64 0))⟩]) (.ret)))))))))),[.t 2]⟩
def s_impl_FirstBad_L0 : SCode:= .seq (.rg [⟨some 27,none,.bin .lss (.t 26) (.t 25)⟩]) (.seq (.cond (.t 27) (.skip) (.exit 2)) (.seq (.blk 3 (.seq (.rg [⟨some 28,none,.ia 4 (.t 24) (.t 26)⟩,⟨some 29,none,.ldA 4 (.t 28)⟩,⟨some 6,none,.alloc [.str [],.snil,.snil,.snil]⟩,⟨none,none,.st 4 (.t 6) (.t 29)⟩]) (.seq (.rg [⟨some 30,none,.fa 0 (.t 6)⟩,⟨some 31,none,.ld (.t 30)⟩,⟨some 32,none,.fa 0 (.t 4)⟩,⟨some 33,none,.ld (.t 32)⟩,⟨some 34,none,.bin .eql (.t 31) (.t 33)⟩]) (.cond (.t 34) (.seq (.rg [⟨some 35,none,.mv (.t 3)⟩,⟨some 2,none,.mv (.t 35)⟩]) (.ret)) (.skip))))) (.rg [⟨some 36,none,.bin .add (.t 26) (.c (.int .i64 1))⟩,⟨some 26,none,.mv (.t 36)⟩])))
def s_impl_FirstBad_L1 : SCode:= .seq (.rg [⟨some 10,none,.bin .lss (.t 9) (.t 8)⟩]) (.seq (.cond (.t 10) (.skip) (.exit 0)) (.seq (.blk 1 (.seq (.rg [⟨some 11,none,.mv (.t 9)⟩,⟨some 12,none,.ia 4 (.t 7) (.t 9)⟩,⟨some 13,none,.ldA 4 (.t 12)⟩,⟨some 4,none,.alloc [.str [],.snil,.snil,.snil]⟩,⟨some 3,none,.mv (.t 11)⟩,⟨none,none,.st 4 (.t 4) (.t 13)⟩]) (.seq (.seq (.rg [⟨some 14,none,.mv (.t 3)⟩,⟨some 15,none,.bin .geq (.t 14) (.c (.int .i64 3))⟩,⟨some 16,none,.mv (.t 15)⟩,⟨some 17,some (16,false),.ldA 4 (.t 4)⟩,⟨some 18,some (16,false),.callP 121 [.t 17]⟩,⟨some 19,some (16,false),.bin .neq (.t 18) (.c (.int .i64 0))⟩,⟨some 20,none,.pick (.t 16) (.c (.bool true)) (.t 19)⟩]) (.cond (.t 20) (.seq (.rg [⟨some 21,none,.mv (.t 3)⟩,⟨some 2,none,.mv (.t 21)⟩]) (.ret)) (.skip))) (.seq (.rg [⟨some 22,none,.mv (.t 0)⟩,⟨some 23,none,.mv (.t 3)⟩,⟨some 24,none,.sliL 4 (.t 22) none (some (.t 23))⟩,⟨some 25,none,.lenL (.t 24)⟩,⟨some 26,none,.mv (.c (.int .i64 0))⟩]) (.blk 2 (.loop s_impl_FirstBad_L0)))))) (.rg [⟨some 37,none,.bin .add (.t 9) (.c (.int .i64 1))⟩,⟨some 9,none,.mv (.t 37)⟩])))
def s_impl_FirstBad : SFn:= ⟨38,.seq (.rg [⟨some 2,none,.mv (.c (.int .i64 0))⟩]) (.seq (.seq (.rg [⟨some 7,none,.mv (.t 0)⟩,⟨some 8,none,.lenL (.t 7)⟩,⟨some 9,none,.mv (.c (.int .i64 0))⟩]) (.blk 0 (.loop s_impl_FirstBad_L1))) (.seq (.rg [⟨some 2,none,.mv (.c (.int .i64 (-1)))⟩]) (.ret))),[.t 2]⟩
def s_impl_ParseDefs_L0 : SCode:= .seq (.seq (.rg [⟨some 19,none,.mv (.t 6)⟩,⟨some 20,none,.nilc (.t 19)⟩,⟨some 21,none,.fa 2 (.t 20)⟩,⟨some 22,none,.ld (.t 21)⟩,⟨some 23,none,.un .not (.t 22)⟩,⟨some 24,none,.mv (.t 23)⟩,⟨some 25,some (24,true),.mv (.t 6)⟩,⟨some 26,some (24,true),.nilc (.t 25)⟩,⟨some 27,some (24,true),.fa 1 (.t 26)⟩,⟨some 28,some (24,true),.ld (.t 27)⟩,⟨some 29,some (24,true),.mv (.t 4)⟩,⟨some 30,some (24,true),.lenL (.t 29)⟩,⟨some 31,some (24,true),.bin .lss (.t 28) (.t 30)⟩,⟨some 32,none,.pick (.t 24) (.t 31) (.c (.bool false))⟩]) (.cond (.t 32) (.skip) (.exit 0))) (.blk 1 (.seq (.rg [⟨some 33,none,.mv (.t 6)⟩,⟨some 34,none,.callW 65 [.t 33]⟩,⟨some 8,none,.alloc [.str [],.snil,.snil,.snil]⟩,⟨none,none,.st 4 (.t 8) (.t 34)⟩]) (.rg [⟨some 35,none,.mv (.t 7)⟩,⟨some 36,none,.ldA 4 (.t 8)⟩,⟨some 37,none,.bslice true [.str [],.snil,.snil,.snil] 1 [(0,.t 36)]⟩,⟨some 38,none,.app true 88 4 (.t 35) (.t 37)⟩,⟨some 7,none,.mv (.t 38)⟩])))
def s_impl_ParseDefs : SFn:= ⟨49,.seq (.rg [⟨some 2,none,.mv (.c .snil)⟩,⟨some 3,none,.mv (.c (.bool false))⟩]) (.seq (.rg [⟨some 10,none,.mv (.t 0)⟩,⟨some 11,none,.callP 64 [.t 10]⟩,⟨some 9,none,.mv (.t 11)⟩,⟨some 12,none,.ext (.t 9) 0⟩,⟨some 13,none,.ext (.t 9) 1⟩,⟨some 4,none,.mv (.t 12)⟩,⟨some 5,none,.mv (.t 13)⟩]) (.seq (.seq (.rg [⟨some 14,none,.mv (.t 5)⟩,⟨some 15,none,.bin .neq (.t 14) (.c (.int .i64 (-1)))⟩]) (.cond (.t 15) (.seq (.rg [⟨some 2,none,.mv (.c .snil)⟩,⟨some 3,none,.mv (.c (.bool false))⟩]) (.ret)) (.skip))) (.seq (.rg [⟨some 16,none,.mv (.t 4)⟩,⟨some 17,none,.build [.snil,.int .i64 0,.bool false] [(0,(1,.t 16))]⟩,⟨some 18,none,.box (.t 17)⟩,⟨some 6,none,.mv (.t 18)⟩]) (.seq (.rg [⟨some 7,none,.mv (.c .snil)⟩]) (.seq (.blk 0 (.loop s_impl_ParseDefs_L0)) (.seq (.seq (.rg [⟨some 39,none,.mv (.t 6)⟩,⟨some 40,none,.nilc (.t 39)⟩,⟨some 41,none,.fa 2 (.t 40)⟩,⟨some 42,none,.ld (.t 41)⟩,⟨some 43,none,.mv (.t 42)⟩,⟨some 44,some (43,false),.mv (.t 7)⟩,⟨some 45,some (43,false),.callD 66 false [.t 44]⟩,⟨some 46,some (43,false),.bin .neq (.t 45) (.c (.int .i64 (-1)))⟩,⟨some 47,none,.pick (.t 43) (.c (.bool true)) (.t 46)⟩]) (.cond (.t 47) (.seq (.rg [⟨some 2,none,.mv (.c .snil)⟩,⟨some 3,none,.mv (.c (.bool false))⟩]) (.ret)) (.skip))) (.seq (.rg [⟨some 48,none,.mv (.t 7)⟩,⟨some 2,none,.mv (.t 48)⟩,⟨some 3,none,.mv (.c (.bool true))⟩]) (.ret)))))))),[.t 2,.t 3]⟩
def s_impl_DiskOk_L0 : SCode:= .seq (.rg [⟨some 46,none,.bin .lss (.t 45) (.t 44)⟩]) (.seq (.cond (.t 46) (.skip) (.exit 0)) (.seq (.blk 1 (.seq (.rg [⟨some 47,none,.ia 1 (.t 43) (.t 45)⟩,⟨some 48,none,.ld (.t 47)⟩,⟨some 4,none,.mv (.t 48)⟩]) (.seq (.rg [⟨some 49,none,.mv (.t 4)⟩,⟨some 50,none,.lenL (.t 49)⟩,⟨some 51,none,.bin .gtr (.t 50) (.c (.int .i64 256))⟩]) (.cond (.t 51) (.seq (.rg [⟨some 2,none,.mv (.c (.bool false))⟩]) (.ret)) (.skip))))) (.rg [⟨some 52,none,.bin .add (.t 45) (.c (.int .i64 1))⟩,⟨some 45,none,.mv (.t 52)⟩])))
def s_impl_DiskOk_L1 : SCode:= .seq (.rg [⟨some 57,none,.bin .lss (.t 56) (.t 55)⟩]) (.seq (.cond (.t 57) (.skip) (.exit 2)) (.seq (.blk 3 (.seq (.rg [⟨some 58,none,.ia 2 (.t 54) (.t 56)⟩,⟨some 59,none,.ldA 2 (.t 58)⟩,⟨some 6,none,.alloc [.int .i64 0,.snil]⟩,⟨none,none,.st 2 (.t 6) (.t 59)⟩]) (.seq (.rg [⟨some 60,none,.fa 0 (.t 6)⟩,⟨some 61,none,.ld (.t 60)⟩,⟨some 62,none,.fa 0 (.t 1)⟩,⟨some 63,none,.ld (.t 62)⟩,⟨some 64,none,.lenL (.t 63)⟩,⟨some 65,none,.bin .sub (.t 64) (.c (.int .i64 1))⟩,⟨some 66,none,.callP 69 [.t 61,.c (.int .i64 0),.t 65]⟩,⟨some 67,none,.un .not (.t 66)⟩,⟨some 68,none,.mv (.t 67)⟩,⟨some 69,some (68,false),.fa 1 (.t 6)⟩,⟨some 70,some (68,false),.ld (.t 69)⟩,⟨some 71,some (68,false),.lenL (.t 70)⟩,⟨some 72,some (68,false),.bin .gtr (.t 71) (.c (.int .i64 256))⟩,⟨some 73,none,.pick (.t 68) (.c (.bool true)) (.t 72)⟩]) (.cond (.t 73) (.seq (.rg [⟨some 2,none,.mv (.c (.bool false))⟩]) (.ret)) (.skip))))) (.rg [⟨some 74,none,.bin .add (.t 56) (.c (.int .i64 1))⟩,⟨some 56,none,.mv (.t 74)⟩])))
def s_impl_DiskOk_L2 : SCode:= .seq (.rg [⟨some 79,none,.bin .lss (.t 78) (.t 77)⟩]) (.seq (.cond (.t 79) (.skip) (.exit 4)) (.seq (.blk 5 (.seq (.rg [⟨some 80,none,.mv (.t 78)⟩,⟨some 81,none,.ia 3 (.t 76) (.t 78)⟩,⟨some 82,none,.ldA 3 (.t 81)⟩,⟨some 8,none,.alloc [.int .i64 0,.int .i64 0,.int .i64 0]⟩,⟨some 7,none,.mv (.t 80)⟩,⟨none,none,.st 3 (.t 8) (.t 82)⟩]) (.seq (.rg [⟨some 83,none,.fa 0 (.t 8)⟩,⟨some 84,none,.ld (.t 83)⟩,⟨some 85,none,.callP 69 [.t 84,.c (.int .i64 0),.c (.int .i64 100000)]⟩,⟨some 86,none,.un .not (.t 85)⟩,⟨some 87,none,.mv (.t 86)⟩,⟨some 88,some (87,false),.fa 1 (.t 8)⟩,⟨some 89,some (87,false),.ld (.t 88)⟩,⟨some 90,some (87,false),.callP 69 [.t 89,.c (.int .i64 0),.c (.int .i64 1048575)]⟩,⟨some 91,some (87,false),.un .not (.t 90)⟩,⟨some 92,none,.pick (.t 87) (.c (.bool true)) (.t 91)⟩,⟨some 93,none,.mv (.t 92)⟩,⟨some 94,some (93,false),.fa 2 (.t 8)⟩,⟨some 95,some (93,false),.ld (.t 94)⟩,⟨some 96,some (93,false),.callP 69 [.t 95,.c (.int .i64 0),.c (.int .i64 256)]⟩,⟨some 97,some (93,false),.un .not (.t 96)⟩,⟨some 98,none,.pick (.t 93) (.c (.bool true)) (.t 97)⟩,⟨some 99,none,.mv (.t 98)⟩,⟨some 100,some (99,false),.mv (.t 7)⟩,⟨some 101,some (99,false),.bin .gtr (.t 100) (.c (.int .i64 0))⟩,⟨some 102,some (99,false),.mv (.t 101)⟩,⟨some 103,some (102,true),.fa 3 (.t 1)⟩,⟨some 104,some (102,true),.ld (.t 103)⟩,⟨some 105,some (102,true),.mv (.t 7)⟩,⟨some 106,some (102,true),.bin .sub (.t 105) (.c (.int .i64 1))⟩,⟨some 107,some (102,true),.ia 3 (.t 104) (.t 106)⟩,⟨some 108,some (102,true),.fa 0 (.t 107)⟩,⟨some 109,some (102,true),.ld (.t 108)⟩,⟨some 110,some (102,true),.fa 0 (.t 8)⟩,⟨some 111,some (102,true),.ld (.t 110)⟩,⟨some 112,some (102,true),.bin .geq (.t 109) (.t 111)⟩,⟨some 113,some (99,false),.pick (.t 102) (.t 112) (.c (.bool false))⟩,⟨some 114,none,.pick (.t 99) (.c (.bool true)) (.t 113)⟩]) (.cond (.t 114) (.seq (.rg [⟨some 2,none,.mv (.c (.bool false))⟩]) (.ret)) (.skip))))) (.rg [⟨some 115,none,.bin .add (.t 78) (.c (.int .i64 1))⟩,⟨some 78,none,.mv (.t 115)⟩])))
def s_impl_DiskOk : SFn:= ⟨116,.seq (.rg [⟨some 1,none,.box (.t 0)⟩,⟨some 2,none,.mv (.c (.bool false))⟩]) (.seq (.seq (.rg [⟨some 9,none,.fa 0 (.t 1)⟩,⟨some 10,none,.ld (.t 9)⟩,⟨some 11,none,.lenL (.t 10)⟩,⟨some 12,none,.callP 69 [.t 11,.c (.int .i64 4),.c (.int .i64 48)]⟩,⟨some 13,none,.un .not (.t 12)⟩,⟨some 14,none,.mv (.t 13)⟩,⟨some 15,some (14,false),.fa 1 (.t 1)⟩,⟨some 16,some (14,false),.ld (.t 15)⟩,⟨some 17,some (14,false),.lenL (.t 16)⟩,⟨some 18,some (14,false),.bin .gtr (.t 17) (.c (.int .i64 60))⟩,⟨some 19,none,.pick (.t 14) (.c (.bool true)) (.t 18)⟩,⟨some 20,none,.mv (.t 19)⟩,⟨some 21,some (20,false),.fa 2 (.t 1)⟩,⟨some 22,some (20,false),.ld (.t 21)⟩,⟨some 23,some (20,false),.callP 69 [.t 22,.c (.int .i64 0),.c (.int .i64 100000)]⟩,⟨some 24,some (20,false),.un .not (.t 23)⟩,⟨some 25,none,.pick (.t 20) (.c (.bool true)) (.t 24)⟩,⟨some 26,none,.mv (.t 25)⟩,⟨some 27,some (26,false),.fa 3 (.t 1)⟩,⟨some 28,some (26,false),.ld (.t 27)⟩,⟨some 29,some (26,false),.lenL (.t 28)⟩,⟨some 30,some (26,false),.bin .gtr (.t 29) (.c (.int .i64 20))⟩,⟨some 31,none,.pick (.t 26) (.c (.bool true)) (.t 30)⟩,⟨some 32,none,.mv (.t 31)⟩,⟨some 33,some (32,false),.fa 4 (.t 1)⟩,⟨some 34,some (32,false),.ld (.t 33)⟩,⟨some 35,some (32,false),.mv (.t 34)⟩,⟨some 36,some (35,true),.fa 1 (.t 1)⟩,⟨some 37,some (35,true),.ld (.t 36)⟩,⟨some 38,some (35,true),.lenL (.t 37)⟩,⟨some 39,some (35,true),.bin .gtr (.t 38) (.c (.int .i64 0))⟩,⟨some 40,some (32,false),.pick (.t 35) (.t 39) (.c (.bool false))⟩,⟨some 41,none,.pick (.t 32) (.c (.bool true)) (.t 40)⟩]) (.cond (.t 41) (.seq (.rg [⟨some 2,none,.mv (.c (.bool false))⟩]) (.ret)) (.skip))) (.seq (.seq (.rg [⟨some 42,none,.fa 0 (.t 1)⟩,⟨some 43,none,.ld (.t 42)⟩,⟨some 44,none,.lenL (.t 43)⟩,⟨some 45,none,.mv (.c (.int .i64 0))⟩]) (.blk 0 (.loop s_impl_DiskOk_L0))) (.seq (.seq (.rg [⟨some 53,none,.fa 1 (.t 1)⟩,⟨some 54,none,.ld (.t 53)⟩,⟨some 55,none,.lenL (.t 54)⟩,⟨some 56,none,.mv (.c (.int .i64 0))⟩]) (.blk 2 (.loop s_impl_DiskOk_L1))) (.seq (.seq (.rg [⟨some 75,none,.fa 3 (.t 1)⟩,⟨some 76,none,.ld (.t 75)⟩,⟨some 77,none,.lenL (.t 76)⟩,⟨some 78,none,.mv (.c (.int .i64 0))⟩]) (.blk 4 (.loop s_impl_DiskOk_L2))) (.seq (.rg [⟨some 2,none,.mv (.c (.bool true))⟩]) (.ret)))))),[.t 2]⟩
def s_impl_DiskNew : SFn:= ⟨20,.seq (.rg [⟨some 4,none,.alloc [.snil,.snil,.int .i64 0,.snil,.bool false]⟩]) (.seq (.seq (.rg [⟨some 6,none,.mv (.t 0)⟩,⟨some 7,none,.callP 69 [.t 6,.c (.int .i64 4),.c (.int .i64 48)]⟩,⟨some 8,none,.un .not (.t 7)⟩]) (.cond (.t 8) (.seq (.rg [⟨some 9,none,.build [.snil,.snil,.int .i64 0,.snil,.bool false] []⟩,⟨none,none,.st 5 (.t 4) (.t 9)⟩]) (.ret)) (.skip))) (.seq (.rg [⟨some 10,none,.mv (.t 0)⟩,⟨some 11,none,.mkS true 24 [.snil] (.t 10) (.t 10)⟩,⟨some 12,none,.mv (.t 1)⟩,⟨some 13,none,.app true 24 3 (.c .snil) (.t 12)⟩,⟨some 14,none,.build [.snil,.snil,.int .i64 0,.snil,.bool false] [(0,(1,.t 11)),(3,(1,.t 13))]⟩,⟨some 5,none,.alloc [.snil,.snil,.int .i64 0,.snil,.bool false]⟩,⟨none,none,.st 5 (.t 5) (.t 14)⟩]) (.seq (.seq (.rg [⟨some 15,none,.ldA 5 (.t 5)⟩,⟨some 16,none,.callD 33 false [.t 15]⟩,⟨some 17,none,.un .not (.t 16)⟩]) (.cond (.t 17) (.seq (.rg [⟨some 18,none,.build [.snil,.snil,.int .i64 0,.snil,.bool false] []⟩,⟨none,none,.st 5 (.t 4) (.t 18)⟩]) (.ret)) (.skip))) (.seq (.rg [⟨some 19,none,.ldA 5 (.t 5)⟩,⟨none,none,.st 5 (.t 4) (.t 19)⟩]) (.ret))))),[.ldA 4 5]⟩
def s_impl_isSector : SFn:= ⟨5,.seq (.rg [⟨some 2,none,.mv (.c (.bool false))⟩]) (.seq (.rg [⟨some 3,none,.mv (.t 0)⟩,⟨some 4,none,.callP 69 [.t 3,.c (.int .i64 2),.c (.int .i64 47)]⟩,⟨some 2,none,.mv (.t 4)⟩]) (.ret)),[.t 2]⟩
def s_impl_MetaOk : SFn:= ⟨16,.seq (.rg [⟨some 1,none,.box (.t 0)⟩,⟨some 2,none,.mv (.c (.bool false))⟩]) (.seq (.rg [⟨some 3,none,.fa 0 (.t 1)⟩,⟨some 4,none,.ld (.t 3)⟩,⟨some 5,none,.callP 69 [.t 4,.c (.int .i64 0),.c (.int .i64 1000000)]⟩,⟨some 6,none,.mv (.t 5)⟩,⟨some 7,some (6,true),.fa 1 (.t 1)⟩,⟨some 8,some (6,true),.ld (.t 7)⟩,⟨some 9,some (6,true),.bin .eql (.t 8) (.c (.int .i64 0))⟩,⟨some 10,some (6,true),.mv (.t 9)⟩,⟨some 11,some (10,false),.fa 1 (.t 1)⟩,⟨some 12,some (10,false),.ld (.t 11)⟩,⟨some 13,some (10,false),.callP 168 [.t 12]⟩,⟨some 14,some (6,true),.pick (.t 10) (.c (.bool true)) (.t 13)⟩,⟨some 15,none,.pick (.t 6) (.t 14) (.c (.bool false))⟩,⟨some 2,none,.mv (.t 15)⟩]) (.ret)),[.t 2]⟩
def s_impl_clamp : SFn:= ⟨12,.seq (.rg [⟨some 6,none,.mv (.c (.int .i64 0))⟩]) (.seq (.rg [⟨some 7,none,.mv (.t 1)⟩,⟨some 8,none,.mv (.t 0)⟩,⟨some 9,none,.mv (.t 2)⟩,⟨some 10,none,.min [.t 8,.t 9]⟩,⟨some 11,none,.max [.t 7,.t 10]⟩,⟨some 6,none,.mv (.t 11)⟩]) (.ret)),[.t 6]⟩
def s_impl_addU_L0 : SCode:= .seq (.seq (.rg [⟨some 7,none,.mv (.t 1)⟩,⟨some 8,none,.bin .gtr (.t 7) (.c (.int .i64 127))⟩]) (.cond (.t 8) (.skip) (.exit 0))) (.blk 1 (.seq (.rg [⟨some 9,none,.mv (.t 0)⟩,⟨some 10,none,.mv (.t 1)⟩,⟨some 11,none,.bin .rem (.t 10) (.c (.int .i64 128))⟩,⟨some 12,none,.bin .add (.t 11) (.c (.int .i64 128))⟩,⟨some 13,none,.cvI .u8 (.t 12)⟩,⟨some 14,none,.bslice true [.int .u8 0] 1 [(0,.t 13)]⟩,⟨some 15,none,.app true 1 1 (.t 9) (.t 14)⟩,⟨some 0,none,.mv (.t 15)⟩]) (.rg [⟨some 16,none,.mv (.t 1)⟩,⟨some 17,none,.bin .quo (.t 16) (.c (.int .i64 128))⟩,⟨some 1,none,.mv (.t 17)⟩])))
def s_impl_addU : SFn:= ⟨23,.seq (.rg [⟨some 4,none,.mv (.c .snil)⟩]) (.seq (.rg [⟨some 5,none,.mv (.t 1)⟩,⟨some 6,none,.callP 171 [.t 5,.c (.int .i64 0),.c (.int .i64 1000000)]⟩,⟨some 1,none,.mv (.t 6)⟩]) (.seq (.blk 0 (.loop s_impl_addU_L0)) (.seq (.rg [⟨some 18,none,.mv (.t 0)⟩,⟨some 19,none,.mv (.t 1)⟩,⟨some 20,none,.cvI .u8 (.t 19)⟩,⟨some 21,none,.bslice true [.int .u8 0] 1 [(0,.t 20)]⟩,⟨some 22,none,.app true 1 1 (.t 18) (.t 21)⟩,⟨some 4,none,.mv (.t 22)⟩]) (.ret)))),[.t 4]⟩
def s_impl_addText : SFn:= ⟨11,.seq (.rg [⟨some 4,none,.mv (.c .snil)⟩]) (.seq (.rg [⟨some 5,none,.mv (.t 0)⟩,⟨some 6,none,.mv (.t 1)⟩,⟨some 7,none,.lenS (.t 6)⟩,⟨some 8,none,.callK 124 [.t 5,.t 7]⟩,⟨some 9,none,.mv (.t 1)⟩,⟨some 10,none,.app true 1 1 (.t 8) (.t 9)⟩,⟨some 4,none,.mv (.t 10)⟩]) (.ret)),[.t 4]⟩
def s_impl_Crc_L0 : SCode:= .seq (.rg [⟨some 18,none,.bin .lss (.t 17) (.c (.int .i64 8))⟩]) (.seq (.cond (.t 18) (.skip) (.exit 2)) (.seq (.blk 3 (.seq (.rg [⟨some 19,none,.mv (.t 3)⟩,⟨some 20,none,.bin .and (.t 19) (.c (.int .u32 1))⟩,⟨some 6,none,.mv (.t 20)⟩]) (.seq (.rg [⟨some 21,none,.mv (.t 3)⟩,⟨some 22,none,.bin .shr (.t 21) (.c (.int .u64 1))⟩,⟨some 3,none,.mv (.t 22)⟩]) (.seq (.rg [⟨some 23,none,.mv (.t 6)⟩,⟨some 24,none,.bin .eql (.t 23) (.c (.int .u32 1))⟩]) (.cond (.t 24) (.rg [⟨some 25,none,.mv (.t 3)⟩,⟨some 26,none,.bin .xor (.t 25) (.c (.int .u32 2197175160))⟩,⟨some 3,none,.mv (.t 26)⟩]) (.skip)))))) (.rg [⟨some 27,none,.bin .add (.t 17) (.c (.int .i64 1))⟩,⟨some 17,none,.mv (.t 27)⟩])))
def s_impl_Crc_L1 : SCode:= .seq (.rg [⟨some 10,none,.bin .lss (.t 9) (.t 8)⟩]) (.seq (.cond (.t 10) (.skip) (.exit 0)) (.seq (.blk 1 (.seq (.rg [⟨some 11,none,.ia 1 (.t 7) (.t 9)⟩,⟨some 12,none,.ld (.t 11)⟩,⟨some 5,none,.mv (.t 12)⟩]) (.seq (.rg [⟨some 13,none,.mv (.t 3)⟩,⟨some 14,none,.mv (.t 5)⟩,⟨some 15,none,.cvI .u32 (.t 14)⟩,⟨some 16,none,.bin .xor (.t 13) (.t 15)⟩,⟨some 3,none,.mv (.t 16)⟩]) (.seq (.rg [⟨some 17,none,.mv (.c (.int .i64 0))⟩]) (.blk 2 (.loop s_impl_Crc_L0)))))) (.rg [⟨some 28,none,.bin .add (.t 9) (.c (.int .i64 1))⟩,⟨some 9,none,.mv (.t 28)⟩])))
def s_impl_Crc : SFn:= ⟨32,.seq (.rg [⟨some 2,none,.mv (.c (.int .i64 0))⟩]) (.seq (.rg [⟨some 3,none,.mv (.c (.int .u32 4294967295))⟩]) (.seq (.seq (.rg [⟨some 7,none,.mv (.t 0)⟩,⟨some 8,none,.lenL (.t 7)⟩,⟨some 9,none,.mv (.c (.int .i64 0))⟩]) (.blk 0 (.loop s_impl_Crc_L1))) (.seq (.rg [⟨some 29,none,.mv (.t 3)⟩,⟨some 30,none,.un .xor (.t 29)⟩,⟨some 31,none,.cvI .i64 (.t 30)⟩,⟨some 2,none,.mv (.t 31)⟩]) (.ret)))),[.t 2]⟩
def s_impl_addSum : SFn:= ⟨20,.seq (.rg [⟨some 2,none,.mv (.c .snil)⟩]) (.seq (.rg [⟨some 4,none,.mv (.t 0)⟩,⟨some 5,none,.callD 197 false [.t 4]⟩,⟨some 3,none,.mv (.t 5)⟩]) (.seq (.rg [⟨some 6,none,.mv (.t 0)⟩,⟨some 7,none,.mv (.t 3)⟩,⟨some 8,none,.bin .shr (.t 7) (.c (.int .u64 24))⟩,⟨some 9,none,.cvI .u8 (.t 8)⟩,⟨some 10,none,.mv (.t 3)⟩,⟨some 11,none,.bin .shr (.t 10) (.c (.int .u64 16))⟩,⟨some 12,none,.cvI .u8 (.t 11)⟩,⟨some 13,none,.mv (.t 3)⟩,⟨some 14,none,.bin .shr (.t 13) (.c (.int .u64 8))⟩,⟨some 15,none,.cvI .u8 (.t 14)⟩,⟨some 16,none,.mv (.t 3)⟩,⟨some 17,none,.cvI .u8 (.t 16)⟩,⟨some 18,none,.bslice true [.int .u8 0] 4 [(0,.t 9),(1,.t 12),(2,.t 15),(3,.t 17)]⟩,⟨some 19,none,.app true 1 1 (.t 6) (.t 18)⟩,⟨some 2,none,.mv (.t 19)⟩]) (.ret))),[.t 2]⟩
def s_impl_PutPage : SFn:= ⟨19,.seq (.rg [⟨some 4,none,.mv (.c .snil)⟩]) (.seq (.seq (.rg [⟨some 5,none,.mv (.t 0)⟩,⟨some 6,none,.callP 69 [.t 5,.c (.int .i64 1),.c (.int .i64 2)]⟩,⟨some 7,none,.un .not (.t 6)⟩,⟨some 8,none,.mv (.t 7)⟩,⟨some 9,some (8,false),.mv (.t 1)⟩,⟨some 10,some (8,false),.lenL (.t 9)⟩,⟨some 11,some (8,false),.bin .gtr (.t 10) (.c (.int .i64 240))⟩,⟨some 12,none,.pick (.t 8) (.c (.bool true)) (.t 11)⟩]) (.cond (.t 12) (.seq (.rg [⟨some 4,none,.mv (.c .snil)⟩]) (.ret)) (.skip))) (.seq (.rg [⟨some 13,none,.mv (.t 0)⟩,⟨some 14,none,.callK 124 [.c .snil,.t 13]⟩,⟨some 15,none,.mv (.t 1)⟩,⟨some 16,none,.cvP (.t 15)⟩,⟨some 17,none,.callK 170 [.t 14,.t 16]⟩,⟨some 18,none,.callK 169 [.t 17]⟩,⟨some 4,none,.mv (.t 18)⟩]) (.ret))),[.t 4]⟩
def s_impl_PutMeta : SFn:= ⟨13,.seq (.rg [⟨some 1,none,.box (.t 0)⟩,⟨some 2,none,.mv (.c .snil)⟩]) (.seq (.seq (.rg [⟨some 3,none,.ldA 2 (.t 1)⟩,⟨some 4,none,.callP 122 [.t 3]⟩,⟨some 5,none,.un .not (.t 4)⟩]) (.cond (.t 5) (.seq (.rg [⟨some 2,none,.mv (.c .snil)⟩]) (.ret)) (.skip))) (.seq (.rg [⟨some 6,none,.fa 0 (.t 1)⟩,⟨some 7,none,.ld (.t 6)⟩,⟨some 8,none,.callK 124 [.c .snil,.t 7]⟩,⟨some 9,none,.fa 1 (.t 1)⟩,⟨some 10,none,.ld (.t 9)⟩,⟨some 11,none,.callK 124 [.t 8,.t 10]⟩,⟨some 12,none,.callD 123 true [.c (.int .i64 2),.t 11]⟩,⟨some 2,none,.mv (.t 12)⟩]) (.ret))),[.t 2]⟩
def s_impl_Format : SFn:= ⟨19,.seq (.rg [⟨some 4,none,.alloc [.snil,.snil,.int .i64 0,.snil,.bool false]⟩]) (.seq (.rg [⟨some 6,none,.mv (.t 0)⟩,⟨some 7,none,.mv (.t 1)⟩,⟨some 8,none,.callD 67 true [.t 6,.t 7]⟩,⟨some 5,none,.alloc [.snil,.snil,.int .i64 0,.snil,.bool false]⟩,⟨none,none,.st 5 (.t 5) (.t 8)⟩]) (.seq (.seq (.rg [⟨some 9,none,.fa 0 (.t 5)⟩,⟨some 10,none,.ld (.t 9)⟩,⟨some 11,none,.lenL (.t 10)⟩,⟨some 12,none,.bin .gtr (.t 11) (.c (.int .i64 0))⟩]) (.cond (.t 12) (.rg [⟨some 13,none,.fa 0 (.t 5)⟩,⟨some 14,none,.ld (.t 13)⟩,⟨some 15,none,.build [.int .i64 0,.int .i64 0] []⟩,⟨some 16,none,.callD 68 true [.t 15]⟩,⟨some 17,none,.ia 1 (.t 14) (.c (.int .i64 0))⟩,⟨none,none,.st 1 (.t 17) (.t 16)⟩]) (.skip))) (.seq (.rg [⟨some 18,none,.ldA 5 (.t 5)⟩,⟨none,none,.st 5 (.t 4) (.t 18)⟩]) (.ret)))),[.ldA 4 5]⟩
def s_impl_EngNew : SFn:= ⟨35,.seq (.rg [⟨some 6,none,.alloc [.snil,.snil,.snil,.int .i64 0,.snil,.bool false]⟩,⟨some 7,none,.mv (.c (.bool false))⟩]) (.seq (.rg [⟨some 12,none,.mv (.t 0)⟩,⟨some 13,none,.callD 31 true [.t 12]⟩,⟨some 11,none,.mv (.t 13)⟩,⟨some 14,none,.ext (.t 11) 0⟩,⟨some 15,none,.ext (.t 11) 1⟩,⟨some 8,none,.mv (.t 14)⟩,⟨some 9,none,.mv (.t 15)⟩]) (.seq (.rg [⟨some 16,none,.mv (.t 1)⟩,⟨some 17,none,.mv (.t 2)⟩,⟨some 18,none,.callD 32 true [.t 16,.t 17]⟩,⟨some 10,none,.alloc [.snil,.snil,.int .i64 0,.snil,.bool false]⟩,⟨none,none,.st 5 (.t 10) (.t 18)⟩]) (.seq (.seq (.rg [⟨some 19,none,.mv (.t 9)⟩,⟨some 20,none,.un .not (.t 19)⟩,⟨some 21,none,.mv (.t 20)⟩,⟨some 22,some (21,false),.mv (.t 8)⟩,⟨some 23,some (21,false),.lenL (.t 22)⟩,⟨some 24,some (21,false),.bin .eql (.t 23) (.c (.int .i64 0))⟩,⟨some 25,none,.pick (.t 21) (.c (.bool true)) (.t 24)⟩,⟨some 26,none,.mv (.t 25)⟩,⟨some 27,some (26,false),.ldA 5 (.t 10)⟩,⟨some 28,some (26,false),.callD 33 false [.t 27]⟩,⟨some 29,some (26,false),.un .not (.t 28)⟩,⟨some 30,none,.pick (.t 26) (.c (.bool true)) (.t 29)⟩]) (.cond (.t 30) (.seq (.rg [⟨some 31,none,.build [.snil,.snil,.snil,.int .i64 0,.snil,.bool false] []⟩,⟨none,none,.st 6 (.t 6) (.t 31)⟩,⟨some 7,none,.mv (.c (.bool false))⟩]) (.ret)) (.skip))) (.seq (.rg [⟨some 32,none,.mv (.t 8)⟩,⟨some 33,none,.ldA 5 (.t 10)⟩,⟨some 34,none,.build [.snil,.snil,.snil,.int .i64 0,.snil,.bool false] [(0,(1,.t 32)),(1,(5,.t 33))]⟩,⟨none,none,.st 6 (.t 6) (.t 34)⟩,⟨some 7,none,.mv (.c (.bool true))⟩]) (.ret))))),[.ldA 6 6,.t 7]⟩
def s_laws_eqCol : SFn:= ⟨20,.seq (.rg [⟨some 2,none,.box (.t 0)⟩,⟨some 3,none,.box (.t 1)⟩,⟨some 4,none,.mv (.c (.bool false))⟩]) (.seq (.seq (.rg [⟨some 5,none,.fa 0 (.t 2)⟩,⟨some 6,none,.ld (.t 5)⟩,⟨some 7,none,.fa 0 (.t 3)⟩,⟨some 8,none,.ld (.t 7)⟩,⟨some 9,none,.bin .neq (.t 6) (.t 8)⟩]) (.cond (.t 9) (.seq (.rg [⟨some 4,none,.mv (.c (.bool false))⟩]) (.ret)) (.skip))) (.seq (.seq (.rg [⟨some 10,none,.fa 1 (.t 2)⟩,⟨some 11,none,.ld (.t 10)⟩,⟨some 12,none,.fa 1 (.t 3)⟩,⟨some 13,none,.ld (.t 12)⟩,⟨some 14,none,.bin .neq (.t 11) (.t 13)⟩]) (.cond (.t 14) (.seq (.rg [⟨some 4,none,.mv (.c (.bool false))⟩]) (.ret)) (.skip))) (.seq (.seq (.rg [⟨some 15,none,.fa 2 (.t 2)⟩,⟨some 16,none,.ld (.t 15)⟩,⟨some 17,none,.fa 2 (.t 3)⟩,⟨some 18,none,.ld (.t 17)⟩,⟨some 19,none,.binB .neq (.t 16) (.t 18)⟩]) (.cond (.t 19) (.seq (.rg [⟨some 4,none,.mv (.c (.bool false))⟩]) (.ret)) (.skip))) (.seq (.rg [⟨some 4,none,.mv (.c (.bool true))⟩]) (.ret))))),[.t 4]⟩
def s_laws_eqBy : SFn:= ⟨15,.seq (.rg [⟨some 2,none,.box (.t 0)⟩,⟨some 3,none,.box (.t 1)⟩,⟨some 4,none,.mv (.c (.bool false))⟩]) (.seq (.seq (.rg [⟨some 5,none,.fa 0 (.t 2)⟩,⟨some 6,none,.ld (.t 5)⟩,⟨some 7,none,.fa 0 (.t 3)⟩,⟨some 8,none,.ld (.t 7)⟩,⟨some 9,none,.bin .neq (.t 6) (.t 8)⟩]) (.cond (.t 9) (.seq (.rg [⟨some 4,none,.mv (.c (.bool false))⟩]) (.ret)) (.skip))) (.seq (.seq (.rg [⟨some 10,none,.fa 1 (.t 2)⟩,⟨some 11,none,.ld (.t 10)⟩,⟨some 12,none,.fa 1 (.t 3)⟩,⟨some 13,none,.ld (.t 12)⟩,⟨some 14,none,.binB .neq (.t 11) (.t 13)⟩]) (.cond (.t 14) (.seq (.rg [⟨some 4,none,.mv (.c (.bool false))⟩]) (.ret)) (.skip))) (.seq (.rg [⟨some 4,none,.mv (.c (.bool true))⟩]) (.ret)))),[.t 4]⟩
def s_laws_eqIndex : SFn:= ⟨21,.seq (.rg [⟨some 2,none,.box (.t 0)⟩,⟨some 3,none,.box (.t 1)⟩,⟨some 4,none,.mv (.c (.bool false))⟩]) (.seq (.seq (.rg [⟨some 5,none,.fa 0 (.t 2)⟩,⟨some 6,none,.ld (.t 5)⟩,⟨some 7,none,.fa 0 (.t 3)⟩,⟨some 8,none,.ld (.t 7)⟩,⟨some 9,none,.bin .neq (.t 6) (.t 8)⟩]) (.cond (.t 9) (.seq (.rg [⟨some 4,none,.mv (.c (.bool false))⟩]) (.ret)) (.skip))) (.seq (.seq (.rg [⟨some 10,none,.fa 1 (.t 2)⟩,⟨some 11,none,.ld (.t 10)⟩,⟨some 12,none,.fa 1 (.t 3)⟩,⟨some 13,none,.ld (.t 12)⟩,⟨some 14,none,.binB .neq (.t 11) (.t 13)⟩]) (.cond (.t 14) (.seq (.rg [⟨some 4,none,.mv (.c (.bool false))⟩]) (.ret)) (.skip))) (.seq (.seq (.rg [⟨some 15,none,.fa 2 (.t 2)⟩,⟨some 16,none,.ld (.t 15)⟩,⟨some 17,none,.fa 2 (.t 3)⟩,⟨some 18,none,.ld (.t 17)⟩,⟨some 19,none,.callP 94 [.t 16,.t 18]⟩,⟨some 20,none,.un .not (.t 19)⟩]) (.cond (.t 20) (.seq (.rg [⟨some 4,none,.mv (.c (.bool false))⟩]) (.ret)) (.skip))) (.seq (.rg [⟨some 4,none,.mv (.c (.bool true))⟩]) (.ret))))),[.t 4]⟩
def s_laws_eqDef : SFn:= ⟨28,.seq (.rg [⟨some 2,none,.box (.t 0)⟩,⟨some 3,none,.box (.t 1)⟩,⟨some 4,none,.mv (.c (.bool false))⟩]) (.seq (.seq (.rg [⟨some 5,none,.fa 0 (.t 2)⟩,⟨some 6,none,.ld (.t 5)⟩,⟨some 7,none,.fa 0 (.t 3)⟩,⟨some 8,none,.ld (.t 7)⟩,⟨some 9,none,.bin .neq (.t 6) (.t 8)⟩]) (.cond (.t 9) (.seq (.rg [⟨some 4,none,.mv (.c (.bool false))⟩]) (.ret)) (.skip))) (.seq (.seq (.rg [⟨some 10,none,.fa 1 (.t 2)⟩,⟨some 11,none,.ld (.t 10)⟩,⟨some 12,none,.fa 1 (.t 3)⟩,⟨some 13,none,.ld (.t 12)⟩,⟨some 14,none,.callP 93 [.t 11,.t 13]⟩,⟨some 15,none,.un .not (.t 14)⟩]) (.cond (.t 15) (.seq (.rg [⟨some 4,none,.mv (.c (.bool false))⟩]) (.ret)) (.skip))) (.seq (.seq (.rg [⟨some 16,none,.fa 2 (.t 2)⟩,⟨some 17,none,.ld (.t 16)⟩,⟨some 18,none,.fa 2 (.t 3)⟩,⟨some 19,none,.ld (.t 18)⟩,⟨some 20,none,.callP 94 [.t 17,.t 19]⟩,⟨some 21,none,.un .not (.t 20)⟩]) (.cond (.t 21) (.seq (.rg [⟨some 4,none,.mv (.c (.bool false))⟩]) (.ret)) (.skip))) (.seq (.seq (.rg [⟨some 22,none,.fa 3 (.t 2)⟩,⟨some 23,none,.ld (.t 22)⟩,⟨some 24,none,.fa 3 (.t 3)⟩,⟨some 25,none,.ld (.t 24)⟩,⟨some 26,none,.callP 95 [.t 23,.t 25]⟩,⟨some 27,none,.un .not (.t 26)⟩]) (.cond (.t 27) (.seq (.rg [⟨some 4,none,.mv (.c (.bool false))⟩]) (.ret)) (.skip))) (.seq (.rg [⟨some 4,none,.mv (.c (.bool true))⟩]) (.ret)))))),[.t 4]⟩
def s_laws_eqWrite : SFn:= ⟨16,.seq (.rg [⟨some 2,none,.box (.t 0)⟩,⟨some 3,none,.box (.t 1)⟩,⟨some 4,none,.mv (.c (.bool false))⟩]) (.seq (.seq (.rg [⟨some 5,none,.fa 0 (.t 2)⟩,⟨some 6,none,.ld (.t 5)⟩,⟨some 7,none,.fa 0 (.t 3)⟩,⟨some 8,none,.ld (.t 7)⟩,⟨some 9,none,.bin .neq (.t 6) (.t 8)⟩]) (.cond (.t 9) (.seq (.rg [⟨some 4,none,.mv (.c (.bool false))⟩]) (.ret)) (.skip))) (.seq (.seq (.rg [⟨some 10,none,.fa 1 (.t 2)⟩,⟨some 11,none,.ld (.t 10)⟩,⟨some 12,none,.fa 1 (.t 3)⟩,⟨some 13,none,.ld (.t 12)⟩,⟨some 14,none,.callP 125 [.t 11,.t 13]⟩,⟨some 15,none,.un .not (.t 14)⟩]) (.cond (.t 15) (.seq (.rg [⟨some 4,none,.mv (.c (.bool false))⟩]) (.ret)) (.skip))) (.seq (.rg [⟨some 4,none,.mv (.c (.bool true))⟩]) (.ret)))),[.t 4]⟩
def s_laws_eqFault : SFn:= ⟨20,.seq (.rg [⟨some 2,none,.box (.t 0)⟩,⟨some 3,none,.box (.t 1)⟩,⟨some 4,none,.mv (.c (.bool false))⟩]) (.seq (.seq (.rg [⟨some 5,none,.fa 0 (.t 2)⟩,⟨some 6,none,.ld (.t 5)⟩,⟨some 7,none,.fa 0 (.t 3)⟩,⟨some 8,none,.ld (.t 7)⟩,⟨some 9,none,.bin .neq (.t 6) (.t 8)⟩]) (.cond (.t 9) (.seq (.rg [⟨some 4,none,.mv (.c (.bool false))⟩]) (.ret)) (.skip))) (.seq (.seq (.rg [⟨some 10,none,.fa 1 (.t 2)⟩,⟨some 11,none,.ld (.t 10)⟩,⟨some 12,none,.fa 1 (.t 3)⟩,⟨some 13,none,.ld (.t 12)⟩,⟨some 14,none,.bin .neq (.t 11) (.t 13)⟩]) (.cond (.t 14) (.seq (.rg [⟨some 4,none,.mv (.c (.bool false))⟩]) (.ret)) (.skip))) (.seq (.seq (.rg [⟨some 15,none,.fa 2 (.t 2)⟩,⟨some 16,none,.ld (.t 15)⟩,⟨some 17,none,.fa 2 (.t 3)⟩,⟨some 18,none,.ld (.t 17)⟩,⟨some 19,none,.bin .neq (.t 16) (.t 18)⟩]) (.cond (.t 19) (.seq (.rg [⟨some 4,none,.mv (.c (.bool false))⟩]) (.ret)) (.skip))) (.seq (.rg [⟨some 4,none,.mv (.c (.bool true))⟩]) (.ret))))),[.t 4]⟩
def s_laws_eqDisk : SFn:= ⟨33,.seq (.rg [⟨some 2,none,.box (.t 0)⟩,⟨some 3,none,.box (.t 1)⟩,⟨some 4,none,.mv (.c (.bool false))⟩]) (.seq (.seq (.rg [⟨some 5,none,.fa 0 (.t 2)⟩,⟨some 6,none,.ld (.t 5)⟩,⟨some 7,none,.fa 0 (.t 3)⟩,⟨some 8,none,.ld (.t 7)⟩,⟨some 9,none,.callP 70 [.t 6,.t 8]⟩,⟨some 10,none,.un .not (.t 9)⟩]) (.cond (.t 10) (.seq (.rg [⟨some 4,none,.mv (.c (.bool false))⟩]) (.ret)) (.skip))) (.seq (.seq (.rg [⟨some 11,none,.fa 1 (.t 2)⟩,⟨some 12,none,.ld (.t 11)⟩,⟨some 13,none,.fa 1 (.t 3)⟩,⟨some 14,none,.ld (.t 13)⟩,⟨some 15,none,.callP 71 [.t 12,.t 14]⟩,⟨some 16,none,.un .not (.t 15)⟩]) (.cond (.t 16) (.seq (.rg [⟨some 4,none,.mv (.c (.bool false))⟩]) (.ret)) (.skip))) (.seq (.seq (.rg [⟨some 17,none,.fa 2 (.t 2)⟩,⟨some 18,none,.ld (.t 17)⟩,⟨some 19,none,.fa 2 (.t 3)⟩,⟨some 20,none,.ld (.t 19)⟩,⟨some 21,none,.bin .neq (.t 18) (.t 20)⟩]) (.cond (.t 21) (.seq (.rg [⟨some 4,none,.mv (.c (.bool false))⟩]) (.ret)) (.skip))) (.seq (.seq (.rg [⟨some 22,none,.fa 3 (.t 2)⟩,⟨some 23,none,.ld (.t 22)⟩,⟨some 24,none,.fa 3 (.t 3)⟩,⟨some 25,none,.ld (.t 24)⟩,⟨some 26,none,.callD 10 false [.t 23,.t 25]⟩,⟨some 27,none,.un .not (.t 26)⟩]) (.cond (.t 27) (.seq (.rg [⟨some 4,none,.mv (.c (.bool false))⟩]) (.ret)) (.skip))) (.seq (.seq (.rg [⟨some 28,none,.fa 4 (.t 2)⟩,⟨some 29,none,.ld (.t 28)⟩,⟨some 30,none,.fa 4 (.t 3)⟩,⟨some 31,none,.ld (.t 30)⟩,⟨some 32,none,.binB .neq (.t 29) (.t 31)⟩]) (.cond (.t 32) (.seq (.rg [⟨some 4,none,.mv (.c (.bool false))⟩]) (.ret)) (.skip))) (.seq (.rg [⟨some 4,none,.mv (.c (.bool true))⟩]) (.ret))))))),[.t 4]⟩
def s_laws_eqEng : SFn:= ⟨17,.seq (.rg [⟨some 2,none,.box (.t 0)⟩,⟨some 3,none,.box (.t 1)⟩,⟨some 4,none,.mv (.c (.bool false))⟩]) (.seq (.seq (.rg [⟨some 5,none,.fa 0 (.t 2)⟩,⟨some 6,none,.ld (.t 5)⟩,⟨some 7,none,.fa 0 (.t 3)⟩,⟨some 8,none,.ld (.t 7)⟩,⟨some 9,none,.callP 21 [.t 6,.t 8]⟩,⟨some 10,none,.un .not (.t 9)⟩]) (.cond (.t 10) (.seq (.rg [⟨some 4,none,.mv (.c (.bool false))⟩]) (.ret)) (.skip))) (.seq (.seq (.rg [⟨some 11,none,.fa 1 (.t 2)⟩,⟨some 12,none,.ldA 5 (.t 11)⟩,⟨some 13,none,.fa 1 (.t 3)⟩,⟨some 14,none,.ldA 5 (.t 13)⟩,⟨some 15,none,.callP 34 [.t 12,.t 14]⟩,⟨some 16,none,.un .not (.t 15)⟩]) (.cond (.t 16) (.seq (.rg [⟨some 4,none,.mv (.c (.bool false))⟩]) (.ret)) (.skip))) (.seq (.rg [⟨some 4,none,.mv (.c (.bool true))⟩]) (.ret)))),[.t 4]⟩
def s_laws_markText_L0 : SCode:= .seq (.seq (.rg [⟨some 6,none,.mv (.t 0)⟩,⟨some 7,none,.bin .gtr (.t 6) (.c (.int .i64 0))⟩]) (.cond (.t 7) (.skip) (.exit 0))) (.blk 1 (.seq (.rg [⟨some 8,none,.mv (.t 0)⟩,⟨some 9,none,.bin .rem (.t 8) (.c (.int .i64 10))⟩,⟨some 10,none,.bin .add (.c (.int .i64 48)) (.t 9)⟩,⟨some 11,none,.cvI .u8 (.t 10)⟩,⟨some 12,none,.bslice false [.int .u8 0] 1 [(0,.t 11)]⟩,⟨some 13,none,.cvS (.t 12)⟩,⟨some 14,none,.mv (.t 3)⟩,⟨some 15,none,.bin .add (.t 13) (.t 14)⟩,⟨some 3,none,.mv (.t 15)⟩]) (.rg [⟨some 16,none,.mv (.t 0)⟩,⟨some 17,none,.bin .quo (.t 16) (.c (.int .i64 10))⟩,⟨some 0,none,.mv (.t 17)⟩])))
def s_laws_markText : SFn:= ⟨20,.seq (.rg [⟨some 2,none,.mv (.c (.str []))⟩]) (.seq (.seq (.rg [⟨some 4,none,.mv (.t 0)⟩,⟨some 5,none,.bin .leq (.t 4) (.c (.int .i64 0))⟩]) (.cond (.t 5) (.seq (.rg [⟨some 2,none,.mv (.c (.str [109,48]))⟩]) (.ret)) (.skip))) (.seq (.rg [⟨some 3,none,.mv (.c (.str []))⟩]) (.seq (.blk 0 (.loop s_laws_markText_L0)) (.seq (.rg [⟨some 18,none,.mv (.t 3)⟩,⟨some 19,none,.bin .add (.c (.str [109])) (.t 18)⟩,⟨some 2,none,.mv (.t 19)⟩]) (.ret))))),[.t 2]⟩
def s_laws_markDisk : SFn:= ⟨18,.seq (.rg [⟨some 2,none,.box (.t 0)⟩,⟨some 4,none,.mv (.c (.int .i64 0))⟩]) (.seq (.rg [⟨some 5,none,.fa 0 (.t 2)⟩,⟨some 6,none,.ld (.t 5)⟩,⟨some 7,none,.mv (.t 1)⟩,⟨some 8,none,.callW 72 [.t 6,.t 7]⟩,⟨some 1,none,.mv (.t 8)⟩]) (.seq (.rg [⟨some 9,none,.fa 1 (.t 2)⟩,⟨some 10,none,.ld (.t 9)⟩,⟨some 11,none,.mv (.t 1)⟩,⟨some 12,none,.callW 73 [.t 10,.t 11]⟩,⟨some 1,none,.mv (.t 12)⟩]) (.seq (.rg [⟨some 13,none,.fa 3 (.t 2)⟩,⟨some 14,none,.ld (.t 13)⟩,⟨some 15,none,.mv (.t 1)⟩,⟨some 16,none,.callW 11 [.t 14,.t 15]⟩,⟨some 1,none,.mv (.t 16)⟩]) (.seq (.rg [⟨some 17,none,.mv (.t 1)⟩,⟨some 4,none,.mv (.t 17)⟩]) (.ret))))),[.t 4]⟩
def s_laws_markEng : SFn:= ⟨14,.seq (.rg [⟨some 2,none,.box (.t 0)⟩,⟨some 4,none,.mv (.c (.int .i64 0))⟩]) (.seq (.rg [⟨some 5,none,.fa 0 (.t 2)⟩,⟨some 6,none,.ld (.t 5)⟩,⟨some 7,none,.mv (.t 1)⟩,⟨some 8,none,.callW 23 [.t 6,.t 7]⟩,⟨some 1,none,.mv (.t 8)⟩]) (.seq (.rg [⟨some 9,none,.fa 1 (.t 2)⟩,⟨some 10,none,.ldA 5 (.t 9)⟩,⟨some 11,none,.mv (.t 1)⟩,⟨some 12,none,.callW 36 [.t 10,.t 11]⟩,⟨some 1,none,.mv (.t 12)⟩]) (.seq (.rg [⟨some 13,none,.mv (.t 1)⟩,⟨some 4,none,.mv (.t 13)⟩]) (.ret)))),[.t 4]⟩
def s_laws_heldDisk : SFn:= ⟨24,.seq (.rg [⟨some 2,none,.box (.t 0)⟩,⟨some 4,none,.mv (.c (.int .i64 0))⟩]) (.seq (.rg [⟨some 5,none,.fa 0 (.t 2)⟩,⟨some 6,none,.ld (.t 5)⟩,⟨some 7,none,.mv (.t 1)⟩,⟨some 8,none,.callP 77 [.t 6,.t 7]⟩,⟨some 1,none,.mv (.t 8)⟩]) (.seq (.seq (.rg [⟨some 9,none,.mv (.t 1)⟩,⟨some 10,none,.bin .lss (.t 9) (.c (.int .i64 0))⟩]) (.cond (.t 10) (.seq (.rg [⟨some 4,none,.mv (.c (.int .i64 (-1)))⟩]) (.ret)) (.skip))) (.seq (.rg [⟨some 11,none,.fa 1 (.t 2)⟩,⟨some 12,none,.ld (.t 11)⟩,⟨some 13,none,.mv (.t 1)⟩,⟨some 14,none,.callP 78 [.t 12,.t 13]⟩,⟨some 1,none,.mv (.t 14)⟩]) (.seq (.seq (.rg [⟨some 15,none,.mv (.t 1)⟩,⟨some 16,none,.bin .lss (.t 15) (.c (.int .i64 0))⟩]) (.cond (.t 16) (.seq (.rg [⟨some 4,none,.mv (.c (.int .i64 (-1)))⟩]) (.ret)) (.skip))) (.seq (.rg [⟨some 17,none,.fa 3 (.t 2)⟩,⟨some 18,none,.ld (.t 17)⟩,⟨some 19,none,.mv (.t 1)⟩,⟨some 20,none,.callP 79 [.t 18,.t 19]⟩,⟨some 1,none,.mv (.t 20)⟩]) (.seq (.seq (.rg [⟨some 21,none,.mv (.t 1)⟩,⟨some 22,none,.bin .lss (.t 21) (.c (.int .i64 0))⟩]) (.cond (.t 22) (.seq (.rg [⟨some 4,none,.mv (.c (.int .i64 (-1)))⟩]) (.ret)) (.skip))) (.seq (.rg [⟨some 23,none,.mv (.t 1)⟩,⟨some 4,none,.mv (.t 23)⟩]) (.ret)))))))),[.t 4]⟩
def s_laws_heldEng : SFn:= ⟨18,.seq (.rg [⟨some 2,none,.box (.t 0)⟩,⟨some 4,none,.mv (.c (.int .i64 0))⟩]) (.seq (.rg [⟨some 5,none,.fa 0 (.t 2)⟩,⟨some 6,none,.ld (.t 5)⟩,⟨some 7,none,.mv (.t 1)⟩,⟨some 8,none,.callP 37 [.t 6,.t 7]⟩,⟨some 1,none,.mv (.t 8)⟩]) (.seq (.seq (.rg [⟨some 9,none,.mv (.t 1)⟩,⟨some 10,none,.bin .lss (.t 9) (.c (.int .i64 0))⟩]) (.cond (.t 10) (.seq (.rg [⟨some 4,none,.mv (.c (.int .i64 (-1)))⟩]) (.ret)) (.skip))) (.seq (.rg [⟨some 11,none,.fa 1 (.t 2)⟩,⟨some 12,none,.ldA 5 (.t 11)⟩,⟨some 13,none,.mv (.t 1)⟩,⟨some 14,none,.callP 38 [.t 12,.t 13]⟩,⟨some 1,none,.mv (.t 14)⟩]) (.seq (.seq (.rg [⟨some 15,none,.mv (.t 1)⟩,⟨some 16,none,.bin .lss (.t 15) (.c (.int .i64 0))⟩]) (.cond (.t 16) (.seq (.rg [⟨some 4,none,.mv (.c (.int .i64 (-1)))⟩]) (.ret)) (.skip))) (.seq (.rg [⟨some 17,none,.mv (.t 1)⟩,⟨some 4,none,.mv (.t 17)⟩]) (.ret)))))),[.t 4]⟩
def s_laws_FnExactEngNew : SFn:= ⟨109,.seq (.rg [⟨some 6,none,.mv (.c (.bool false))⟩]) (.seq (.seq (.rg [⟨some 18,none,.mv (.t 0)⟩,⟨some 19,none,.lenS (.t 18)⟩,⟨some 20,none,.bin .gtr (.t 19) (.c (.int .i64 1048576))⟩]) (.cond (.t 20) (.seq (.rg [⟨some 6,none,.mv (.c (.bool true))⟩]) (.ret)) (.skip))) (.seq (.rg [⟨some 7,none,.mv (.c (.int .i64 1048576))⟩]) (.seq (.rg [⟨some 21,none,.mv (.t 2)⟩,⟨some 22,none,.mv (.t 7)⟩,⟨some 23,none,.callP 5 [.t 21,.t 22]⟩,⟨some 7,none,.mv (.t 23)⟩]) (.seq (.seq (.rg [⟨some 24,none,.mv (.t 7)⟩,⟨some 25,none,.bin .lss (.t 24) (.c (.int .i64 0))⟩]) (.cond (.t 25) (.seq (.rg [⟨some 6,none,.mv (.c (.bool true))⟩]) (.ret)) (.skip))) (.seq (.rg [⟨some 27,none,.mv (.t 0)⟩,⟨some 28,none,.mv (.t 1)⟩,⟨some 29,none,.mv (.t 2)⟩,⟨some 30,none,.callD 7 false [.t 29]⟩,⟨some 31,none,.callP 6 [.t 27,.t 28,.t 30]⟩,⟨some 26,none,.mv (.t 31)⟩,⟨some 32,none,.ext (.t 26) 0⟩,⟨some 33,none,.ext (.t 26) 1⟩,⟨some 8,none,.alloc [.snil,.snil,.snil,.int .i64 0,.snil,.bool false]⟩,⟨none,none,.st 6 (.t 8) (.t 32)⟩,⟨some 9,none,.mv (.t 33)⟩]) (.seq (.rg [⟨some 34,none,.mv (.t 2)⟩,⟨some 35,none,.callD 7 true [.t 34]⟩,⟨some 10,none,.mv (.t 35)⟩]) (.seq (.rg [⟨some 37,none,.mv (.t 0)⟩,⟨some 38,none,.mv (.t 1)⟩,⟨some 39,none,.mv (.t 10)⟩,⟨some 40,none,.callD 8 true [.t 37,.t 38,.t 39]⟩,⟨some 36,none,.mv (.t 40)⟩,⟨some 41,none,.ext (.t 36) 0⟩,⟨some 42,none,.ext (.t 36) 1⟩,⟨some 11,none,.alloc [.snil,.snil,.snil,.int .i64 0,.snil,.bool false]⟩,⟨none,none,.st 6 (.t 11) (.t 41)⟩,⟨some 12,none,.mv (.t 42)⟩]) (.seq (.seq (.rg [⟨some 43,none,.ldA 6 (.t 11)⟩,⟨some 44,none,.ldA 6 (.t 8)⟩,⟨some 45,none,.callD 9 false [.t 43,.t 44]⟩,⟨some 46,none,.un .not (.t 45)⟩,⟨some 47,none,.mv (.t 46)⟩,⟨some 48,some (47,false),.mv (.t 12)⟩,⟨some 49,some (47,false),.mv (.t 9)⟩,⟨some 50,some (47,false),.binB .neq (.t 48) (.t 49)⟩,⟨some 51,none,.pick (.t 47) (.c (.bool true)) (.t 50)⟩]) (.cond (.t 51) (.seq (.rg [⟨some 6,none,.mv (.c (.bool false))⟩]) (.ret)) (.skip))) (.seq (.seq (.rg [⟨some 52,none,.mv (.t 10)⟩,⟨some 53,none,.mv (.t 2)⟩,⟨some 54,none,.callD 7 false [.t 53]⟩,⟨some 55,none,.callD 10 false [.t 52,.t 54]⟩,⟨some 56,none,.un .not (.t 55)⟩]) (.cond (.t 56) (.seq (.rg [⟨some 6,none,.mv (.c (.bool false))⟩]) (.ret)) (.skip))) (.seq (.rg [⟨some 13,none,.mv (.c (.int .i64 1))⟩]) (.seq (.rg [⟨some 57,none,.mv (.t 10)⟩,⟨some 58,none,.mv (.t 13)⟩,⟨some 59,none,.callW 11 [.t 57,.t 58]⟩,⟨some 13,none,.mv (.t 59)⟩]) (.seq (.seq (.rg [⟨some 60,none,.mv (.t 13)⟩,⟨some 61,none,.bin .lss (.t 60) (.c (.int .i64 0))⟩,⟨some 62,none,.mv (.t 61)⟩,⟨some 63,some (62,false),.ldA 6 (.t 11)⟩,⟨some 64,some (62,false),.ldA 6 (.t 8)⟩,⟨some 65,some (62,false),.callD 9 false [.t 63,.t 64]⟩,⟨some 66,some (62,false),.un .not (.t 65)⟩,⟨some 67,none,.pick (.t 62) (.c (.bool true)) (.t 66)⟩,⟨some 68,none,.mv (.t 67)⟩,⟨some 69,some (68,false),.mv (.t 12)⟩,⟨some 70,some (68,false),.mv (.t 9)⟩,⟨some 71,some (68,false),.binB .neq (.t 69) (.t 70)⟩,⟨some 72,none,.pick (.t 68) (.c (.bool true)) (.t 71)⟩]) (.cond (.t 72) (.seq (.rg [⟨some 6,none,.mv (.c (.bool false))⟩]) (.ret)) (.skip))) (.seq (.rg [⟨some 14,none,.mv (.c (.int .i64 1))⟩]) (.seq (.rg [⟨some 73,none,.ldA 6 (.t 11)⟩,⟨some 74,none,.mv (.t 14)⟩,⟨some 75,none,.callW 12 [.t 73,.t 74]⟩,⟨some 14,none,.mv (.t 75)⟩]) (.seq (.rg [⟨some 15,none,.mv (.c (.int .i64 1))⟩]) (.seq (.rg [⟨some 76,none,.ldA 6 (.t 11)⟩,⟨some 77,none,.mv (.t 15)⟩,⟨some 78,none,.callD 13 false [.t 76,.t 77]⟩,⟨some 15,none,.mv (.t 78)⟩]) (.seq (.seq (.rg [⟨some 79,none,.mv (.t 15)⟩,⟨some 80,none,.bin .lss (.t 79) (.c (.int .i64 0))⟩]) (.cond (.t 80) (.seq (.rg [⟨some 6,none,.mv (.c (.bool false))⟩]) (.ret)) (.skip))) (.seq (.seq (.rg [⟨some 81,none,.mv (.t 15)⟩,⟨some 82,none,.mv (.t 14)⟩,⟨some 83,none,.bin .neq (.t 81) (.t 82)⟩]) (.cond (.t 83) (.seq (.rg [⟨some 6,none,.mv (.c (.bool false))⟩]) (.ret)) (.skip))) (.seq (.rg [⟨some 85,none,.mv (.t 0)⟩,⟨some 86,none,.mv (.t 1)⟩,⟨some 87,none,.mv (.t 2)⟩,⟨some 88,none,.callD 7 false [.t 87]⟩,⟨some 89,none,.callD 8 false [.t 85,.t 86,.t 88]⟩,⟨some 84,none,.mv (.t 89)⟩,⟨some 90,none,.ext (.t 84) 0⟩,⟨some 91,none,.ext (.t 84) 1⟩,⟨some 16,none,.alloc [.snil,.snil,.snil,.int .i64 0,.snil,.bool false]⟩,⟨none,none,.st 6 (.t 16) (.t 90)⟩,⟨some 17,none,.mv (.t 91)⟩]) (.seq (.seq (.rg [⟨some 92,none,.ldA 6 (.t 16)⟩,⟨some 93,none,.ldA 6 (.t 8)⟩,⟨some 94,none,.callD 9 false [.t 92,.t 93]⟩,⟨some 95,none,.un .not (.t 94)⟩,⟨some 96,none,.mv (.t 95)⟩,⟨some 97,some (96,false),.mv (.t 17)⟩,⟨some 98,some (96,false),.mv (.t 9)⟩,⟨some 99,some (96,false),.binB .neq (.t 97) (.t 98)⟩,⟨some 100,none,.pick (.t 96) (.c (.bool true)) (.t 99)⟩]) (.cond (.t 100) (.seq (.rg [⟨some 6,none,.mv (.c (.bool false))⟩]) (.ret)) (.skip))) (.seq (.rg [⟨some 15,none,.mv (.c (.int .i64 1))⟩]) (.seq (.rg [⟨some 101,none,.ldA 6 (.t 11)⟩,⟨some 102,none,.mv (.t 15)⟩,⟨some 103,none,.callD 13 false [.t 101,.t 102]⟩,⟨some 15,none,.mv (.t 103)⟩]) (.seq (.seq (.rg [⟨some 104,none,.mv (.t 15)⟩,⟨some 105,none,.bin .lss (.t 104) (.c (.int .i64 0))⟩]) (.cond (.t 105) (.seq (.rg [⟨some 6,none,.mv (.c (.bool false))⟩]) (.ret)) (.skip))) (.seq (.seq (.rg [⟨some 106,none,.mv (.t 15)⟩,⟨some 107,none,.mv (.t 14)⟩,⟨some 108,none,.bin .neq (.t 106) (.t 107)⟩]) (.cond (.t 108) (.seq (.rg [⟨some 6,none,.mv (.c (.bool false))⟩]) (.ret)) (.skip))) (.seq (.rg [⟨some 6,none,.mv (.c (.bool true))⟩]) (.ret)))))))))))))))))))))))))),[.t 6]⟩
def b_laws_markFaultS : SCode:= .seq (.rg [⟨some 12,none,.mv (.t 0)⟩,⟨some 13,none,.mv (.t 5)⟩,⟨some 14,none,.mv (.t 1)⟩,⟨some 15,none,.ia 3 (.t 12) (.t 13)⟩,⟨some 16,none,.fa 0 (.t 15)⟩,⟨none,none,.st 1 (.t 16) (.t 14)⟩]) (.seq (.rg [⟨some 17,none,.mv (.t 1)⟩,⟨some 18,none,.bin .add (.t 17) (.c (.int .i64 1))⟩,⟨some 1,none,.mv (.t 18)⟩]) (.seq (.rg [⟨some 19,none,.mv (.t 0)⟩,⟨some 20,none,.mv (.t 5)⟩,⟨some 21,none,.mv (.t 1)⟩,⟨some 22,none,.ia 3 (.t 19) (.t 20)⟩,⟨some 23,none,.fa 1 (.t 22)⟩,⟨none,none,.st 1 (.t 23) (.t 21)⟩]) (.seq (.rg [⟨some 24,none,.mv (.t 1)⟩,⟨some 25,none,.bin .add (.t 24) (.c (.int .i64 1))⟩,⟨some 1,none,.mv (.t 25)⟩]) (.seq (.rg [⟨some 26,none,.mv (.t 0)⟩,⟨some 27,none,.mv (.t 5)⟩,⟨some 28,none,.mv (.t 1)⟩,⟨some 29,none,.ia 3 (.t 26) (.t 27)⟩,⟨some 30,none,.fa 2 (.t 29)⟩,⟨none,none,.st 1 (.t 30) (.t 28)⟩]) (.rg [⟨some 31,none,.mv (.t 1)⟩,⟨some 32,none,.bin .add (.t 31) (.c (.int .i64 1))⟩,⟨some 1,none,.mv (.t 32)⟩])))))
def b_laws_markColS : SCode:= .seq (.rg [⟨some 12,none,.mv (.t 0)⟩,⟨some 13,none,.mv (.t 5)⟩,⟨some 14,none,.mv (.t 1)⟩,⟨some 15,none,.callP 50 [.t 14]⟩,⟨some 16,none,.ia 3 (.t 12) (.t 13)⟩,⟨some 17,none,.fa 0 (.t 16)⟩,⟨none,none,.st 1 (.t 17) (.t 15)⟩]) (.seq (.rg [⟨some 18,none,.mv (.t 1)⟩,⟨some 19,none,.bin .add (.t 18) (.c (.int .i64 1))⟩,⟨some 1,none,.mv (.t 19)⟩]) (.seq (.rg [⟨some 20,none,.mv (.t 0)⟩,⟨some 21,none,.mv (.t 5)⟩,⟨some 22,none,.mv (.t 1)⟩,⟨some 23,none,.ia 3 (.t 20) (.t 21)⟩,⟨some 24,none,.fa 1 (.t 23)⟩,⟨none,none,.st 1 (.t 24) (.t 22)⟩]) (.seq (.rg [⟨some 25,none,.mv (.t 1)⟩,⟨some 26,none,.bin .add (.t 25) (.c (.int .i64 1))⟩,⟨some 1,none,.mv (.t 26)⟩]) (.seq (.rg [⟨some 27,none,.mv (.t 0)⟩,⟨some 28,none,.mv (.t 5)⟩,⟨some 29,none,.mv (.t 1)⟩,⟨some 30,none,.bin .rem (.t 29) (.c (.int .i64 3))⟩,⟨some 31,none,.bin .eql (.t 30) (.c (.int .i64 0))⟩,⟨some 32,none,.ia 3 (.t 27) (.t 28)⟩,⟨some 33,none,.fa 2 (.t 32)⟩,⟨none,none,.st 1 (.t 33) (.t 31)⟩]) (.rg [⟨some 34,none,.mv (.t 1)⟩,⟨some 35,none,.bin .add (.t 34) (.c (.int .i64 1))⟩,⟨some 1,none,.mv (.t 35)⟩])))))
def b_laws_markByS : SCode:= .seq (.rg [⟨some 12,none,.mv (.t 0)⟩,⟨some 13,none,.mv (.t 5)⟩,⟨some 14,none,.mv (.t 1)⟩,⟨some 15,none,.ia 2 (.t 12) (.t 13)⟩,⟨some 16,none,.fa 0 (.t 15)⟩,⟨none,none,.st 1 (.t 16) (.t 14)⟩]) (.seq (.rg [⟨some 17,none,.mv (.t 1)⟩,⟨some 18,none,.bin .add (.t 17) (.c (.int .i64 1))⟩,⟨some 1,none,.mv (.t 18)⟩]) (.seq (.rg [⟨some 19,none,.mv (.t 0)⟩,⟨some 20,none,.mv (.t 5)⟩,⟨some 21,none,.mv (.t 1)⟩,⟨some 22,none,.bin .rem (.t 21) (.c (.int .i64 3))⟩,⟨some 23,none,.bin .eql (.t 22) (.c (.int .i64 0))⟩,⟨some 24,none,.ia 2 (.t 19) (.t 20)⟩,⟨some 25,none,.fa 1 (.t 24)⟩,⟨none,none,.st 1 (.t 25) (.t 23)⟩]) (.rg [⟨some 26,none,.mv (.t 1)⟩,⟨some 27,none,.bin .add (.t 26) (.c (.int .i64 1))⟩,⟨some 1,none,.mv (.t 27)⟩])))
def b_laws_markIndexS : SCode:= .seq (.rg [⟨some 12,none,.mv (.t 0)⟩,⟨some 13,none,.mv (.t 5)⟩,⟨some 14,none,.mv (.t 1)⟩,⟨some 15,none,.callP 50 [.t 14]⟩,⟨some 16,none,.ia 3 (.t 12) (.t 13)⟩,⟨some 17,none,.fa 0 (.t 16)⟩,⟨none,none,.st 1 (.t 17) (.t 15)⟩]) (.seq (.rg [⟨some 18,none,.mv (.t 1)⟩,⟨some 19,none,.bin .add (.t 18) (.c (.int .i64 1))⟩,⟨some 1,none,.mv (.t 19)⟩]) (.seq (.rg [⟨some 20,none,.mv (.t 0)⟩,⟨some 21,none,.mv (.t 5)⟩,⟨some 22,none,.mv (.t 1)⟩,⟨some 23,none,.bin .rem (.t 22) (.c (.int .i64 3))⟩,⟨some 24,none,.bin .eql (.t 23) (.c (.int .i64 0))⟩,⟨some 25,none,.ia 3 (.t 20) (.t 21)⟩,⟨some 26,none,.fa 1 (.t 25)⟩,⟨none,none,.st 1 (.t 26) (.t 24)⟩]) (.seq (.rg [⟨some 27,none,.mv (.t 1)⟩,⟨some 28,none,.bin .add (.t 27) (.c (.int .i64 1))⟩,⟨some 1,none,.mv (.t 28)⟩]) (.rg [⟨some 29,none,.mv (.t 0)⟩,⟨some 30,none,.mv (.t 5)⟩,⟨some 31,none,.ia 3 (.t 29) (.t 30)⟩,⟨some 32,none,.fa 2 (.t 31)⟩,⟨some 33,none,.ld (.t 32)⟩,⟨some 34,none,.mv (.t 1)⟩,⟨some 35,none,.callW 52 [.t 33,.t 34]⟩,⟨some 1,none,.mv (.t 35)⟩]))))
def b_laws_markDefS : SCode:= .seq (.rg [⟨some 12,none,.mv (.t 0)⟩,⟨some 13,none,.mv (.t 5)⟩,⟨some 14,none,.mv (.t 1)⟩,⟨some 15,none,.callP 50 [.t 14]⟩,⟨some 16,none,.ia 4 (.t 12) (.t 13)⟩,⟨some 17,none,.fa 0 (.t 16)⟩,⟨none,none,.st 1 (.t 17) (.t 15)⟩]) (.seq (.rg [⟨some 18,none,.mv (.t 1)⟩,⟨some 19,none,.bin .add (.t 18) (.c (.int .i64 1))⟩,⟨some 1,none,.mv (.t 19)⟩]) (.seq (.rg [⟨some 20,none,.mv (.t 0)⟩,⟨some 21,none,.mv (.t 5)⟩,⟨some 22,none,.ia 4 (.t 20) (.t 21)⟩,⟨some 23,none,.fa 1 (.t 22)⟩,⟨some 24,none,.ld (.t 23)⟩,⟨some 25,none,.mv (.t 1)⟩,⟨some 26,none,.callW 51 [.t 24,.t 25]⟩,⟨some 1,none,.mv (.t 26)⟩]) (.seq (.rg [⟨some 27,none,.mv (.t 0)⟩,⟨some 28,none,.mv (.t 5)⟩,⟨some 29,none,.ia 4 (.t 27) (.t 28)⟩,⟨some 30,none,.fa 2 (.t 29)⟩,⟨some 31,none,.ld (.t 30)⟩,⟨some 32,none,.mv (.t 1)⟩,⟨some 33,none,.callW 52 [.t 31,.t 32]⟩,⟨some 1,none,.mv (.t 33)⟩]) (.rg [⟨some 34,none,.mv (.t 0)⟩,⟨some 35,none,.mv (.t 5)⟩,⟨some 36,none,.ia 4 (.t 34) (.t 35)⟩,⟨some 37,none,.fa 3 (.t 36)⟩,⟨some 38,none,.ld (.t 37)⟩,⟨some 39,none,.mv (.t 1)⟩,⟨some 40,none,.callW 53 [.t 38,.t 39]⟩,⟨some 1,none,.mv (.t 40)⟩]))))
def b_laws_markByteS : SCode:= .seq (.rg [⟨some 12,none,.mv (.t 0)⟩,⟨some 13,none,.mv (.t 5)⟩,⟨some 14,none,.mv (.t 1)⟩,⟨some 15,none,.cvI .u8 (.t 14)⟩,⟨some 16,none,.ia 1 (.t 12) (.t 13)⟩,⟨none,none,.st 1 (.t 16) (.t 15)⟩]) (.rg [⟨some 17,none,.mv (.t 1)⟩,⟨some 18,none,.bin .add (.t 17) (.c (.int .i64 1))⟩,⟨some 1,none,.mv (.t 18)⟩])
def b_laws_markByteSS : SCode:= .rg [⟨some 12,none,.mv (.t 0)⟩,⟨some 13,none,.mv (.t 5)⟩,⟨some 14,none,.ia 1 (.t 12) (.t 13)⟩,⟨some 15,none,.ld (.t 14)⟩,⟨some 16,none,.mv (.t 1)⟩,⟨some 17,none,.callW 127 [.t 15,.t 16]⟩,⟨some 1,none,.mv (.t 17)⟩]
def b_laws_markWriteS : SCode:= .seq (.rg [⟨some 12,none,.mv (.t 0)⟩,⟨some 13,none,.mv (.t 5)⟩,⟨some 14,none,.mv (.t 1)⟩,⟨some 15,none,.ia 2 (.t 12) (.t 13)⟩,⟨some 16,none,.fa 0 (.t 15)⟩,⟨none,none,.st 1 (.t 16) (.t 14)⟩]) (.seq (.rg [⟨some 17,none,.mv (.t 1)⟩,⟨some 18,none,.bin .add (.t 17) (.c (.int .i64 1))⟩,⟨some 1,none,.mv (.t 18)⟩]) (.rg [⟨some 19,none,.mv (.t 0)⟩,⟨some 20,none,.mv (.t 5)⟩,⟨some 21,none,.ia 2 (.t 19) (.t 20)⟩,⟨some 22,none,.fa 1 (.t 21)⟩,⟨some 23,none,.ld (.t 22)⟩,⟨some 24,none,.mv (.t 1)⟩,⟨some 25,none,.callW 127 [.t 23,.t 24]⟩,⟨some 1,none,.mv (.t 25)⟩]))
def b_laws_heldColS : SCode:= .seq (.seq (.rg [⟨some 12,none,.mv (.t 0)⟩,⟨some 13,none,.mv (.t 5)⟩,⟨some 14,none,.ia 3 (.t 12) (.t 13)⟩,⟨some 15,none,.fa 0 (.t 14)⟩,⟨some 16,none,.ld (.t 15)⟩,⟨some 17,none,.mv (.t 1)⟩,⟨some 18,none,.callP 50 [.t 17]⟩,⟨some 19,none,.bin .neq (.t 16) (.t 18)⟩]) (.cond (.t 19) (.seq (.rg [⟨some 4,none,.mv (.c (.int .i64 (-1)))⟩]) (.ret)) (.skip))) (.seq (.rg [⟨some 20,none,.mv (.t 1)⟩,⟨some 21,none,.bin .add (.t 20) (.c (.int .i64 1))⟩,⟨some 1,none,.mv (.t 21)⟩]) (.seq (.seq (.rg [⟨some 22,none,.mv (.t 0)⟩,⟨some 23,none,.mv (.t 5)⟩,⟨some 24,none,.ia 3 (.t 22) (.t 23)⟩,⟨some 25,none,.fa 1 (.t 24)⟩,⟨some 26,none,.ld (.t 25)⟩,⟨some 27,none,.mv (.t 1)⟩,⟨some 28,none,.bin .neq (.t 26) (.t 27)⟩]) (.cond (.t 28) (.seq (.rg [⟨some 4,none,.mv (.c (.int .i64 (-1)))⟩]) (.ret)) (.skip))) (.seq (.rg [⟨some 29,none,.mv (.t 1)⟩,⟨some 30,none,.bin .add (.t 29) (.c (.int .i64 1))⟩,⟨some 1,none,.mv (.t 30)⟩]) (.seq (.seq (.rg [⟨some 31,none,.mv (.t 0)⟩,⟨some 32,none,.mv (.t 5)⟩,⟨some 33,none,.ia 3 (.t 31) (.t 32)⟩,⟨some 34,none,.fa 2 (.t 33)⟩,⟨some 35,none,.ld (.t 34)⟩,⟨some 36,none,.mv (.t 1)⟩,⟨some 37,none,.bin .rem (.t 36) (.c (.int .i64 3))⟩,⟨some 38,none,.bin .eql (.t 37) (.c (.int .i64 0))⟩,⟨some 39,none,.binB .neq (.t 35) (.t 38)⟩]) (.cond (.t 39) (.seq (.rg [⟨some 4,none,.mv (.c (.int .i64 (-1)))⟩]) (.ret)) (.skip))) (.rg [⟨some 40,none,.mv (.t 1)⟩,⟨some 41,none,.bin .add (.t 40) (.c (.int .i64 1))⟩,⟨some 1,none,.mv (.t 41)⟩])))))
def b_laws_heldByS : SCode:= .seq (.seq (.rg [⟨some 12,none,.mv (.t 0)⟩,⟨some 13,none,.mv (.t 5)⟩,⟨some 14,none,.ia 2 (.t 12) (.t 13)⟩,⟨some 15,none,.fa 0 (.t 14)⟩,⟨some 16,none,.ld (.t 15)⟩,⟨some 17,none,.mv (.t 1)⟩,⟨some 18,none,.bin .neq (.t 16) (.t 17)⟩]) (.cond (.t 18) (.seq (.rg [⟨some 4,none,.mv (.c (.int .i64 (-1)))⟩]) (.ret)) (.skip))) (.seq (.rg [⟨some 19,none,.mv (.t 1)⟩,⟨some 20,none,.bin .add (.t 19) (.c (.int .i64 1))⟩,⟨some 1,none,.mv (.t 20)⟩]) (.seq (.seq (.rg [⟨some 21,none,.mv (.t 0)⟩,⟨some 22,none,.mv (.t 5)⟩,⟨some 23,none,.ia 2 (.t 21) (.t 22)⟩,⟨some 24,none,.fa 1 (.t 23)⟩,⟨some 25,none,.ld (.t 24)⟩,⟨some 26,none,.mv (.t 1)⟩,⟨some 27,none,.bin .rem (.t 26) (.c (.int .i64 3))⟩,⟨some 28,none,.bin .eql (.t 27) (.c (.int .i64 0))⟩,⟨some 29,none,.binB .neq (.t 25) (.t 28)⟩]) (.cond (.t 29) (.seq (.rg [⟨some 4,none,.mv (.c (.int .i64 (-1)))⟩]) (.ret)) (.skip))) (.rg [⟨some 30,none,.mv (.t 1)⟩,⟨some 31,none,.bin .add (.t 30) (.c (.int .i64 1))⟩,⟨some 1,none,.mv (.t 31)⟩])))
def b_laws_heldIndexS : SCode:= .seq (.seq (.rg [⟨some 12,none,.mv (.t 0)⟩,⟨some 13,none,.mv (.t 5)⟩,⟨some 14,none,.ia 3 (.t 12) (.t 13)⟩,⟨some 15,none,.fa 0 (.t 14)⟩,⟨some 16,none,.ld (.t 15)⟩,⟨some 17,none,.mv (.t 1)⟩,⟨some 18,none,.callP 50 [.t 17]⟩,⟨some 19,none,.bin .neq (.t 16) (.t 18)⟩]) (.cond (.t 19) (.seq (.rg [⟨some 4,none,.mv (.c (.int .i64 (-1)))⟩]) (.ret)) (.skip))) (.seq (.rg [⟨some 20,none,.mv (.t 1)⟩,⟨some 21,none,.bin .add (.t 20) (.c (.int .i64 1))⟩,⟨some 1,none,.mv (.t 21)⟩]) (.seq (.seq (.rg [⟨some 22,none,.mv (.t 0)⟩,⟨some 23,none,.mv (.t 5)⟩,⟨some 24,none,.ia 3 (.t 22) (.t 23)⟩,⟨some 25,none,.fa 1 (.t 24)⟩,⟨some 26,none,.ld (.t 25)⟩,⟨some 27,none,.mv (.t 1)⟩,⟨some 28,none,.bin .rem (.t 27) (.c (.int .i64 3))⟩,⟨some 29,none,.bin .eql (.t 28) (.c (.int .i64 0))⟩,⟨some 30,none,.binB .neq (.t 26) (.t 29)⟩]) (.cond (.t 30) (.seq (.rg [⟨some 4,none,.mv (.c (.int .i64 (-1)))⟩]) (.ret)) (.skip))) (.seq (.rg [⟨some 31,none,.mv (.t 1)⟩,⟨some 32,none,.bin .add (.t 31) (.c (.int .i64 1))⟩,⟨some 1,none,.mv (.t 32)⟩]) (.seq (.rg [⟨some 33,none,.mv (.t 0)⟩,⟨some 34,none,.mv (.t 5)⟩,⟨some 35,none,.ia 3 (.t 33) (.t 34)⟩,⟨some 36,none,.fa 2 (.t 35)⟩,⟨some 37,none,.ld (.t 36)⟩,⟨some 38,none,.mv (.t 1)⟩,⟨some 39,none,.callP 75 [.t 37,.t 38]⟩,⟨some 1,none,.mv (.t 39)⟩]) (.seq (.rg [⟨some 40,none,.mv (.t 1)⟩,⟨some 41,none,.bin .lss (.t 40) (.c (.int .i64 0))⟩]) (.cond (.t 41) (.seq (.rg [⟨some 4,none,.mv (.c (.int .i64 (-1)))⟩]) (.ret)) (.skip)))))))
def b_laws_heldDefS : SCode:= .seq (.seq (.rg [⟨some 12,none,.mv (.t 0)⟩,⟨some 13,none,.mv (.t 5)⟩,⟨some 14,none,.ia 4 (.t 12) (.t 13)⟩,⟨some 15,none,.fa 0 (.t 14)⟩,⟨some 16,none,.ld (.t 15)⟩,⟨some 17,none,.mv (.t 1)⟩,⟨some 18,none,.callP 50 [.t 17]⟩,⟨some 19,none,.bin .neq (.t 16) (.t 18)⟩]) (.cond (.t 19) (.seq (.rg [⟨some 4,none,.mv (.c (.int .i64 (-1)))⟩]) (.ret)) (.skip))) (.seq (.rg [⟨some 20,none,.mv (.t 1)⟩,⟨some 21,none,.bin .add (.t 20) (.c (.int .i64 1))⟩,⟨some 1,none,.mv (.t 21)⟩]) (.seq (.rg [⟨some 22,none,.mv (.t 0)⟩,⟨some 23,none,.mv (.t 5)⟩,⟨some 24,none,.ia 4 (.t 22) (.t 23)⟩,⟨some 25,none,.fa 1 (.t 24)⟩,⟨some 26,none,.ld (.t 25)⟩,⟨some 27,none,.mv (.t 1)⟩,⟨some 28,none,.callP 74 [.t 26,.t 27]⟩,⟨some 1,none,.mv (.t 28)⟩]) (.seq (.seq (.rg [⟨some 29,none,.mv (.t 1)⟩,⟨some 30,none,.bin .lss (.t 29) (.c (.int .i64 0))⟩]) (.cond (.t 30) (.seq (.rg [⟨some 4,none,.mv (.c (.int .i64 (-1)))⟩]) (.ret)) (.skip))) (.seq (.rg [⟨some 31,none,.mv (.t 0)⟩,⟨some 32,none,.mv (.t 5)⟩,⟨some 33,none,.ia 4 (.t 31) (.t 32)⟩,⟨some 34,none,.fa 2 (.t 33)⟩,⟨some 35,none,.ld (.t 34)⟩,⟨some 36,none,.mv (.t 1)⟩,⟨some 37,none,.callP 75 [.t 35,.t 36]⟩,⟨some 1,none,.mv (.t 37)⟩]) (.seq (.seq (.rg [⟨some 38,none,.mv (.t 1)⟩,⟨some 39,none,.bin .lss (.t 38) (.c (.int .i64 0))⟩]) (.cond (.t 39) (.seq (.rg [⟨some 4,none,.mv (.c (.int .i64 (-1)))⟩]) (.ret)) (.skip))) (.seq (.rg [⟨some 40,none,.mv (.t 0)⟩,⟨some 41,none,.mv (.t 5)⟩,⟨some 42,none,.ia 4 (.t 40) (.t 41)⟩,⟨some 43,none,.fa 3 (.t 42)⟩,⟨some 44,none,.ld (.t 43)⟩,⟨some 45,none,.mv (.t 1)⟩,⟨some 46,none,.callP 76 [.t 44,.t 45]⟩,⟨some 1,none,.mv (.t 46)⟩]) (.seq (.rg [⟨some 47,none,.mv (.t 1)⟩,⟨some 48,none,.bin .lss (.t 47) (.c (.int .i64 0))⟩]) (.cond (.t 48) (.seq (.rg [⟨some 4,none,.mv (.c (.int .i64 (-1)))⟩]) (.ret)) (.skip)))))))))
def b_laws_heldByteS : SCode:= .seq (.seq (.rg [⟨some 12,none,.mv (.t 0)⟩,⟨some 13,none,.mv (.t 5)⟩,⟨some 14,none,.ia 1 (.t 12) (.t 13)⟩,⟨some 15,none,.ld (.t 14)⟩,⟨some 16,none,.mv (.t 1)⟩,⟨some 17,none,.cvI .u8 (.t 16)⟩,⟨some 18,none,.bin .neq (.t 15) (.t 17)⟩]) (.cond (.t 18) (.seq (.rg [⟨some 4,none,.mv (.c (.int .i64 (-1)))⟩]) (.ret)) (.skip))) (.rg [⟨some 19,none,.mv (.t 1)⟩,⟨some 20,none,.bin .add (.t 19) (.c (.int .i64 1))⟩,⟨some 1,none,.mv (.t 20)⟩])
def b_laws_heldByteSS : SCode:= .seq (.rg [⟨some 12,none,.mv (.t 0)⟩,⟨some 13,none,.mv (.t 5)⟩,⟨some 14,none,.ia 1 (.t 12) (.t 13)⟩,⟨some 15,none,.ld (.t 14)⟩,⟨some 16,none,.mv (.t 1)⟩,⟨some 17,none,.callP 128 [.t 15,.t 16]⟩,⟨some 1,none,.mv (.t 17)⟩]) (.seq (.rg [⟨some 18,none,.mv (.t 1)⟩,⟨some 19,none,.bin .lss (.t 18) (.c (.int .i64 0))⟩]) (.cond (.t 19) (.seq (.rg [⟨some 4,none,.mv (.c (.int .i64 (-1)))⟩]) (.ret)) (.skip)))
def b_laws_heldWriteS : SCode:= .seq (.seq (.rg [⟨some 12,none,.mv (.t 0)⟩,⟨some 13,none,.mv (.t 5)⟩,⟨some 14,none,.ia 2 (.t 12) (.t 13)⟩,⟨some 15,none,.fa 0 (.t 14)⟩,⟨some 16,none,.ld (.t 15)⟩,⟨some 17,none,.mv (.t 1)⟩,⟨some 18,none,.bin .neq (.t 16) (.t 17)⟩]) (.cond (.t 18) (.seq (.rg [⟨some 4,none,.mv (.c (.int .i64 (-1)))⟩]) (.ret)) (.skip))) (.seq (.rg [⟨some 19,none,.mv (.t 1)⟩,⟨some 20,none,.bin .add (.t 19) (.c (.int .i64 1))⟩,⟨some 1,none,.mv (.t 20)⟩]) (.seq (.rg [⟨some 21,none,.mv (.t 0)⟩,⟨some 22,none,.mv (.t 5)⟩,⟨some 23,none,.ia 2 (.t 21) (.t 22)⟩,⟨some 24,none,.fa 1 (.t 23)⟩,⟨some 25,none,.ld (.t 24)⟩,⟨some 26,none,.mv (.t 1)⟩,⟨some 27,none,.callP 128 [.t 25,.t 26]⟩,⟨some 1,none,.mv (.t 27)⟩]) (.seq (.rg [⟨some 28,none,.mv (.t 1)⟩,⟨some 29,none,.bin .lss (.t 28) (.c (.int .i64 0))⟩]) (.cond (.t 29) (.seq (.rg [⟨some 4,none,.mv (.c (.int .i64 (-1)))⟩]) (.ret)) (.skip)))))
def b_laws_heldFaultS : SCode:= .seq (.seq (.rg [⟨some 12,none,.mv (.t 0)⟩,⟨some 13,none,.mv (.t 5)⟩,⟨some 14,none,.ia 3 (.t 12) (.t 13)⟩,⟨some 15,none,.fa 0 (.t 14)⟩,⟨some 16,none,.ld (.t 15)⟩,⟨some 17,none,.mv (.t 1)⟩,⟨some 18,none,.bin .neq (.t 16) (.t 17)⟩]) (.cond (.t 18) (.seq (.rg [⟨some 4,none,.mv (.c (.int .i64 (-1)))⟩]) (.ret)) (.skip))) (.seq (.rg [⟨some 19,none,.mv (.t 1)⟩,⟨some 20,none,.bin .add (.t 19) (.c (.int .i64 1))⟩,⟨some 1,none,.mv (.t 20)⟩]) (.seq (.seq (.rg [⟨some 21,none,.mv (.t 0)⟩,⟨some 22,none,.mv (.t 5)⟩,⟨some 23,none,.ia 3 (.t 21) (.t 22)⟩,⟨some 24,none,.fa 1 (.t 23)⟩,⟨some 25,none,.ld (.t 24)⟩,⟨some 26,none,.mv (.t 1)⟩,⟨some 27,none,.bin .neq (.t 25) (.t 26)⟩]) (.cond (.t 27) (.seq (.rg [⟨some 4,none,.mv (.c (.int .i64 (-1)))⟩]) (.ret)) (.skip))) (.seq (.rg [⟨some 28,none,.mv (.t 1)⟩,⟨some 29,none,.bin .add (.t 28) (.c (.int .i64 1))⟩,⟨some 1,none,.mv (.t 29)⟩]) (.seq (.seq (.rg [⟨some 30,none,.mv (.t 0)⟩,⟨some 31,none,.mv (.t 5)⟩,⟨some 32,none,.ia 3 (.t 30) (.t 31)⟩,⟨some 33,none,.fa 2 (.t 32)⟩,⟨some 34,none,.ld (.t 33)⟩,⟨some 35,none,.mv (.t 1)⟩,⟨some 36,none,.bin .neq (.t 34) (.t 35)⟩]) (.cond (.t 36) (.seq (.rg [⟨some 4,none,.mv (.c (.int .i64 (-1)))⟩]) (.ret)) (.skip))) (.rg [⟨some 37,none,.mv (.t 1)⟩,⟨some 38,none,.bin .add (.t 37) (.c (.int .i64 1))⟩,⟨some 1,none,.mv (.t 38)⟩])))))
def isC : List FuncId:= [5,30,7,155,156,62,100,101,153,154,102,57,218,193,157,158,159,194,160,109,59,27,63,60,110,112,162,195,161,111,61,28,29,6,113,114,69,163,164,115,64,167,219,196,165,166,121,66,31,33,67,168,122,171,197,123,68,32,8,148,93,149,94,150,95,48,21,125,70,126,71,35,10,34,9,50,74,75,76,37,128,77,78,79,38,13]
def rw (f : FuncId) : List Tmp:= if f = 7 then List.range 64 else if f = 107 then [3018] else if f = 60 then List.range 64 else if f = 28 then List.range 64 else if f = 120 then List.range 64 else if f = 65 then List.range 64 ++ [64,65,66,67,68,69,70,71,72,73,74,75] else if f = 31 then List.range 64 else if f = 67 then List.range 64 else if f = 124 then List.range 64 else if f = 170 then List.range 64 else if f = 169 then List.range 64 else if f = 123 then List.range 64 ++ [2000,2001,2002,2003,2004,2005,2006,2007,2008,2009,2010,2011,2012,2013,2014,2015,2016,2017,2018,2019,2020,2021,2022,2023,2024,2025,2026,2027,2028,2029,2030,2031,2032,2033,2034,2035,2036,2037,2038,2039,2040,2041,2042,2043,2044,2045,2046,2047,2048,2049,2050,2051,2052,2053,2054,2055,2056,2057,2058,2059,2060,2061,2062,2063] else if f = 68 then List.range 64 else if f = 32 then List.range 64 else if f = 8 then List.range 64 else if f = 3 then [35,40] else []
def fr (f : FuncId) : Bool:= f == 112 || f == 162
def dp (f : FuncId) : Nat:= if f = 67 then 1 else if f = 8 then 1 else if f = 32 then 1 else if f = 31 then 1 else if f = 68 then 1 else if f = 123 then 1 else if f = 87 then 1 else if f = 86 then 1 else if f = 43 then 1 else if f = 17 then 1 else if f = 44 then 1 else if f = 18 then 1 else if f = 7 then 1 else if f = 142 then 1 else if f = 88 then 1 else if f = 143 then 1 else if f = 89 then 1 else if f = 182 then 1 else if f = 60 then 1 else if f = 206 then 1 else if f = 197 then 2 else if f = 33 then 2 else if f = 66 then 2 else if f = 9 then 2 else if f = 10 then 2 else if f = 13 then 2 else if f = 124 then 7 else if f = 170 then 7 else if f = 169 then 7 else if f = 104 then 9 else 0
noncomputable def EE (cs : List (FuncId × (List AV → Option AV))) : Env:= mkE Tryz.prog isC rw fr dp cs
theorem st_laws_szFaultS_ : stF (EE []) 5 = some (szLenF):= by kernel_rfl
theorem st_laws_szFaultS (cs) : stF (EE cs) 5 = some (szLenF):= (stF_mk cs [] 5).trans st_laws_szFaultS_
theorem st_laws_toFault_ : stF (EE []) 30 = some (s_laws_toFault):= by kernel_rfl
theorem st_laws_toFault (cs) : stF (EE cs) 30 = some (s_laws_toFault):= (stF_mk cs [] 30).trans st_laws_toFault_
theorem st_laws_toFaultS_ : stF (EE []) 7 = some (toSF 30 3 false 24 [.int .i64 0,.int .i64 0,.int .i64 0]):= by kernel_rfl
theorem st_laws_toFaultS (cs) : stF (EE cs) 7 = some (toSF 30 3 false 24 [.int .i64 0,.int .i64 0,.int .i64 0]):= (stF_mk cs [] 7).trans st_laws_toFaultS_
theorem st_spec_l10Is_ : stF (EE []) 105 = some (s_spec_l10Is):= by kernel_rfl
theorem st_spec_l10Is (cs) : stF (EE cs) 105 = some (s_spec_l10Is):= (stF_mk cs [] 105).trans st_spec_l10Is_
theorem st_spec_l9Type_ : stF (EE []) 155 = some (s_spec_l9Type):= by kernel_rfl
theorem st_spec_l9Type (cs) : stF (EE cs) 155 = some (s_spec_l9Type):= (stF_mk cs [] 155).trans st_spec_l9Type_
theorem st_spec_l10Name_ : stF (EE []) 104 = some (s_spec_l10Name):= by kernel_rfl
theorem st_spec_l10Name (cs) : stF (EE cs) 104 = some (s_spec_l10Name):= (stF_mk cs [] 104).trans st_spec_l10Name_
theorem st_spec_l10Must_ : stF (EE []) 103 = some (s_spec_l10Must):= by kernel_rfl
theorem st_spec_l10Must (cs) : stF (EE cs) 103 = some (s_spec_l10Must):= (stF_mk cs [] 103).trans st_spec_l10Must_
theorem st_spec_l10Col_ : stF (EE []) 106 = some (s_spec_l10Col):= by kernel_rfl
theorem st_spec_l10Col (cs) : stF (EE cs) 106 = some (s_spec_l10Col):= (stF_mk cs [] 106).trans st_spec_l10Col_
theorem st_spec_l9Col_ : stF (EE []) 156 = some (s_spec_l9Col):= by kernel_rfl
theorem st_spec_l9Col (cs) : stF (EE cs) 156 = some (s_spec_l9Col):= (stF_mk cs [] 156).trans st_spec_l9Col_
theorem st_spec_l10Parts_ : stF (EE []) 107 = some (s_spec_l10Parts):= by kernel_rfl
theorem st_spec_l10Parts (cs) : stF (EE cs) 107 = some (s_spec_l10Parts):= (stF_mk cs [] 107).trans st_spec_l10Parts_
theorem st_spec_l10Index_ : stF (EE []) 108 = some (s_spec_l10Index):= by kernel_rfl
theorem st_spec_l10Index (cs) : stF (EE cs) 108 = some (s_spec_l10Index):= (stF_mk cs [] 108).trans st_spec_l10Index_
theorem st_spec_l10Def_ : stF (EE []) 58 = some (s_spec_l10Def):= by kernel_rfl
theorem st_spec_l10Def (cs) : stF (EE cs) 58 = some (s_spec_l10Def):= (stF_mk cs [] 58).trans st_spec_l10Def_
theorem st_spec_l1In_ : stF (EE []) 62 = some (s_spec_l1In):= by kernel_rfl
theorem st_spec_l1In (cs) : stF (EE cs) 62 = some (s_spec_l1In):= (stF_mk cs [] 62).trans st_spec_l1In_
theorem st_spec_l8Small_ : stF (EE []) 100 = some (s_spec_l8Small):= by kernel_rfl
theorem st_spec_l8Small (cs) : stF (EE cs) 100 = some (s_spec_l8Small):= (stF_mk cs [] 100).trans st_spec_l8Small_
theorem st_spec_l2Digit_ : stF (EE []) 101 = some (s_spec_l2Digit):= by kernel_rfl
theorem st_spec_l2Digit (cs) : stF (EE cs) 101 = some (s_spec_l2Digit):= (stF_mk cs [] 101).trans st_spec_l2Digit_
theorem st_spec_l8Name_ : stF (EE []) 153 = some (s_spec_l8Name):= by kernel_rfl
theorem st_spec_l8Name (cs) : stF (EE cs) 153 = some (s_spec_l8Name):= (stF_mk cs [] 153).trans st_spec_l8Name_
theorem st_spec_l8Mark_ : stF (EE []) 154 = some (s_spec_l8Mark):= by kernel_rfl
theorem st_spec_l8Mark (cs) : stF (EE cs) 154 = some (s_spec_l8Mark):= (stF_mk cs [] 154).trans st_spec_l8Mark_
theorem st_spec_TokenOk_ : stF (EE []) 102 = some (s_spec_TokenOk):= by kernel_rfl
theorem st_spec_TokenOk (cs) : stF (EE cs) 102 = some (s_spec_TokenOk):= (stF_mk cs [] 102).trans st_spec_TokenOk_
theorem st_spec_Lex_ : stF (EE []) 57 = some (s_spec_Lex):= by kernel_rfl
theorem st_spec_Lex (cs) : stF (EE cs) 57 = some (s_spec_Lex):= (stF_mk cs [] 57).trans st_spec_Lex_
theorem st_spec_l9Has_ : stF (EE []) 218 = some (s_spec_l9Has):= by kernel_rfl
theorem st_spec_l9Has (cs) : stF (EE cs) 218 = some (s_spec_l9Has):= (stF_mk cs [] 218).trans st_spec_l9Has_
theorem st_spec_l9Word_ : stF (EE []) 193 = some (s_spec_l9Word):= by kernel_rfl
theorem st_spec_l9Word (cs) : stF (EE cs) 193 = some (s_spec_l9Word):= (stF_mk cs [] 193).trans st_spec_l9Word_
theorem st_spec_l9Names_ : stF (EE []) 157 = some (s_spec_l9Names):= by kernel_rfl
theorem st_spec_l9Names (cs) : stF (EE cs) 157 = some (s_spec_l9Names):= (stF_mk cs [] 157).trans st_spec_l9Names_
theorem st_spec_l9Types_ : stF (EE []) 158 = some (s_spec_l9Types):= by kernel_rfl
theorem st_spec_l9Types (cs) : stF (EE cs) 158 = some (s_spec_l9Types):= (stF_mk cs [] 158).trans st_spec_l9Types_
theorem st_spec_l9Once_ : stF (EE []) 159 = some (s_spec_l9Once):= by kernel_rfl
theorem st_spec_l9Once (cs) : stF (EE cs) 159 = some (s_spec_l9Once):= (stF_mk cs [] 159).trans st_spec_l9Once_
theorem st_spec_l9Parts_ : stF (EE []) 194 = some (s_spec_l9Parts):= by kernel_rfl
theorem st_spec_l9Parts (cs) : stF (EE cs) 194 = some (s_spec_l9Parts):= (stF_mk cs [] 194).trans st_spec_l9Parts_
theorem st_spec_l9AllParts_ : stF (EE []) 160 = some (s_spec_l9AllParts):= by kernel_rfl
theorem st_spec_l9AllParts (cs) : stF (EE cs) 160 = some (s_spec_l9AllParts):= (stF_mk cs [] 160).trans st_spec_l9AllParts_
theorem st_spec_CheckDef_ : stF (EE []) 109 = some (s_spec_CheckDef):= by kernel_rfl
theorem st_spec_CheckDef (cs) : stF (EE cs) 109 = some (s_spec_CheckDef):= (stF_mk cs [] 109).trans st_spec_CheckDef_
theorem st_spec_FirstBad_ : stF (EE []) 59 = some (s_spec_FirstBad):= by kernel_rfl
theorem st_spec_FirstBad (cs) : stF (EE cs) 59 = some (s_spec_FirstBad):= (stF_mk cs [] 59).trans st_spec_FirstBad_
theorem st_spec_ParseDefs_ : stF (EE []) 27 = some (s_spec_ParseDefs):= by kernel_rfl
theorem st_spec_ParseDefs (cs) : stF (EE cs) 27 = some (s_spec_ParseDefs):= (stF_mk cs [] 27).trans st_spec_ParseDefs_
theorem st_spec_l12Faults_ : stF (EE []) 63 = some (s_spec_l12Faults):= by kernel_rfl
theorem st_spec_l12Faults (cs) : stF (EE cs) 63 = some (s_spec_l12Faults):= (stF_mk cs [] 63).trans st_spec_l12Faults_
theorem st_spec_DiskNew_ : stF (EE []) 60 = some (s_spec_DiskNew):= by kernel_rfl
theorem st_spec_DiskNew (cs) : stF (EE cs) 60 = some (s_spec_DiskNew):= (stF_mk cs [] 60).trans st_spec_DiskNew_
theorem st_spec_MetaOk_ : stF (EE []) 110 = some (s_spec_MetaOk):= by kernel_rfl
theorem st_spec_MetaOk (cs) : stF (EE cs) 110 = some (s_spec_MetaOk):= (stF_mk cs [] 110).trans st_spec_MetaOk_
theorem st_spec_PutU_ : stF (EE []) 112 = some (s_spec_PutU):= by kernel_rfl
theorem st_spec_PutU (cs) : stF (EE cs) 112 = some (s_spec_PutU):= (stF_mk cs [] 112).trans st_spec_PutU_
theorem st_spec_PutText_ : stF (EE []) 162 = some (s_spec_PutText):= by kernel_rfl
theorem st_spec_PutText (cs) : stF (EE cs) 162 = some (s_spec_PutText):= (stF_mk cs [] 162).trans st_spec_PutText_
theorem st_spec_Crc_ : stF (EE []) 195 = some (s_spec_Crc):= by kernel_rfl
theorem st_spec_Crc (cs) : stF (EE cs) 195 = some (s_spec_Crc):= (stF_mk cs [] 195).trans st_spec_Crc_
theorem st_spec_PutSum_ : stF (EE []) 161 = some (s_spec_PutSum):= by kernel_rfl
theorem st_spec_PutSum (cs) : stF (EE cs) 161 = some (s_spec_PutSum):= (stF_mk cs [] 161).trans st_spec_PutSum_
theorem st_spec_PutPage_ : stF (EE []) 111 = some (s_spec_PutPage):= by kernel_rfl
theorem st_spec_PutPage (cs) : stF (EE cs) 111 = some (s_spec_PutPage):= (stF_mk cs [] 111).trans st_spec_PutPage_
theorem st_spec_PutMeta_ : stF (EE []) 61 = some (s_spec_PutMeta):= by kernel_rfl
theorem st_spec_PutMeta (cs) : stF (EE cs) 61 = some (s_spec_PutMeta):= (stF_mk cs [] 61).trans st_spec_PutMeta_
theorem st_spec_Format_ : stF (EE []) 28 = some (s_spec_Format):= by kernel_rfl
theorem st_spec_Format (cs) : stF (EE cs) 28 = some (s_spec_Format):= (stF_mk cs [] 28).trans st_spec_Format_
theorem st_spec_DiskOk_ : stF (EE []) 29 = some (s_spec_DiskOk):= by kernel_rfl
theorem st_spec_DiskOk (cs) : stF (EE cs) 29 = some (s_spec_DiskOk):= (stF_mk cs [] 29).trans st_spec_DiskOk_
theorem st_spec_EngNew_ : stF (EE []) 6 = some (s_spec_EngNew):= by kernel_rfl
theorem st_spec_EngNew (cs) : stF (EE cs) 6 = some (s_spec_EngNew):= (stF_mk cs [] 6).trans st_spec_EngNew_
theorem st_impl_tokens_maybe_ : stF (EE []) 118 = some (s_impl_tokens_maybe):= by kernel_rfl
theorem st_impl_tokens_maybe (cs) : stF (EE cs) 118 = some (s_impl_tokens_maybe):= (stF_mk cs [] 118).trans st_impl_tokens_maybe_
theorem st_impl_tokens_name_ : stF (EE []) 117 = some (s_impl_tokens_name):= by kernel_rfl
theorem st_impl_tokens_name (cs) : stF (EE cs) 117 = some (s_impl_tokens_name):= (stF_mk cs [] 117).trans st_impl_tokens_name_
theorem st_impl_tokens_typed_ : stF (EE []) 119 = some (s_impl_tokens_typed):= by kernel_rfl
theorem st_impl_tokens_typed (cs) : stF (EE cs) 119 = some (s_impl_tokens_typed):= (stF_mk cs [] 119).trans st_impl_tokens_typed_
theorem st_impl_tokens_want_ : stF (EE []) 116 = some (s_impl_tokens_want):= by kernel_rfl
theorem st_impl_tokens_want (cs) : stF (EE cs) 116 = some (s_impl_tokens_want):= (stF_mk cs [] 116).trans st_impl_tokens_want_
theorem st_impl_tokens_parts_ : stF (EE []) 120 = some (s_impl_tokens_parts):= by kernel_rfl
theorem st_impl_tokens_parts (cs) : stF (EE cs) 120 = some (s_impl_tokens_parts):= (stF_mk cs [] 120).trans st_impl_tokens_parts_
theorem st_impl_tokens_def_ : stF (EE []) 65 = some (s_impl_tokens_def):= by kernel_rfl
theorem st_impl_tokens_def (cs) : stF (EE cs) 65 = some (s_impl_tokens_def):= (stF_mk cs [] 65).trans st_impl_tokens_def_
theorem st_impl_isLetter_ : stF (EE []) 113 = some (s_impl_isLetter):= by kernel_rfl
theorem st_impl_isLetter (cs) : stF (EE cs) 113 = some (s_impl_isLetter):= (stF_mk cs [] 113).trans st_impl_isLetter_
theorem st_impl_isDigit_ : stF (EE []) 114 = some (s_impl_isDigit):= by kernel_rfl
theorem st_impl_isDigit (cs) : stF (EE cs) 114 = some (s_impl_isDigit):= (stF_mk cs [] 114).trans st_impl_isDigit_
theorem st_impl_in_ : stF (EE []) 69 = some (s_impl_in):= by kernel_rfl
theorem st_impl_in (cs) : stF (EE cs) 69 = some (s_impl_in):= (stF_mk cs [] 69).trans st_impl_in_
theorem st_impl_nameOk_ : stF (EE []) 163 = some (s_impl_nameOk):= by kernel_rfl
theorem st_impl_nameOk (cs) : stF (EE cs) 163 = some (s_impl_nameOk):= (stF_mk cs [] 163).trans st_impl_nameOk_
theorem st_impl_isMark_ : stF (EE []) 164 = some (s_impl_isMark):= by kernel_rfl
theorem st_impl_isMark (cs) : stF (EE cs) 164 = some (s_impl_isMark):= (stF_mk cs [] 164).trans st_impl_isMark_
theorem st_impl_TokenOk_ : stF (EE []) 115 = some (s_impl_TokenOk):= by kernel_rfl
theorem st_impl_TokenOk (cs) : stF (EE cs) 115 = some (s_impl_TokenOk):= (stF_mk cs [] 115).trans st_impl_TokenOk_
theorem st_impl_Lex_ : stF (EE []) 64 = some (s_impl_Lex):= by kernel_rfl
theorem st_impl_Lex (cs) : stF (EE cs) 64 = some (s_impl_Lex):= (stF_mk cs [] 64).trans st_impl_Lex_
theorem st_impl_partsOk_ : stF (EE []) 167 = some (s_impl_partsOk):= by kernel_rfl
theorem st_impl_partsOk (cs) : stF (EE cs) 167 = some (s_impl_partsOk):= (stF_mk cs [] 167).trans st_impl_partsOk_
theorem st_impl_isFree_ : stF (EE []) 196 = some (s_impl_isFree):= by kernel_rfl
theorem st_impl_isFree (cs) : stF (EE cs) 196 = some (s_impl_isFree):= (stF_mk cs [] 196).trans st_impl_isFree_
theorem st_impl_namesOk_ : stF (EE []) 165 = some (s_impl_namesOk):= by kernel_rfl
theorem st_impl_namesOk (cs) : stF (EE cs) 165 = some (s_impl_namesOk):= (stF_mk cs [] 165).trans st_impl_namesOk_
theorem st_impl_twice_ : stF (EE []) 166 = some (s_impl_twice):= by kernel_rfl
theorem st_impl_twice (cs) : stF (EE cs) 166 = some (s_impl_twice):= (stF_mk cs [] 166).trans st_impl_twice_
theorem st_impl_CheckDef_ : stF (EE []) 121 = some (s_impl_CheckDef):= by kernel_rfl
theorem st_impl_CheckDef (cs) : stF (EE cs) 121 = some (s_impl_CheckDef):= (stF_mk cs [] 121).trans st_impl_CheckDef_
theorem st_impl_FirstBad_ : stF (EE []) 66 = some (s_impl_FirstBad):= by kernel_rfl
theorem st_impl_FirstBad (cs) : stF (EE cs) 66 = some (s_impl_FirstBad):= (stF_mk cs [] 66).trans st_impl_FirstBad_
theorem st_impl_ParseDefs_ : stF (EE []) 31 = some (s_impl_ParseDefs):= by kernel_rfl
theorem st_impl_ParseDefs (cs) : stF (EE cs) 31 = some (s_impl_ParseDefs):= (stF_mk cs [] 31).trans st_impl_ParseDefs_
theorem st_impl_DiskOk_ : stF (EE []) 33 = some (s_impl_DiskOk):= by kernel_rfl
theorem st_impl_DiskOk (cs) : stF (EE cs) 33 = some (s_impl_DiskOk):= (stF_mk cs [] 33).trans st_impl_DiskOk_
theorem st_impl_DiskNew_ : stF (EE []) 67 = some (s_impl_DiskNew):= by kernel_rfl
theorem st_impl_DiskNew (cs) : stF (EE cs) 67 = some (s_impl_DiskNew):= (stF_mk cs [] 67).trans st_impl_DiskNew_
theorem st_impl_isSector_ : stF (EE []) 168 = some (s_impl_isSector):= by kernel_rfl
theorem st_impl_isSector (cs) : stF (EE cs) 168 = some (s_impl_isSector):= (stF_mk cs [] 168).trans st_impl_isSector_
theorem st_impl_MetaOk_ : stF (EE []) 122 = some (s_impl_MetaOk):= by kernel_rfl
theorem st_impl_MetaOk (cs) : stF (EE cs) 122 = some (s_impl_MetaOk):= (stF_mk cs [] 122).trans st_impl_MetaOk_
theorem st_impl_clamp_ : stF (EE []) 171 = some (s_impl_clamp):= by kernel_rfl
theorem st_impl_clamp (cs) : stF (EE cs) 171 = some (s_impl_clamp):= (stF_mk cs [] 171).trans st_impl_clamp_
theorem st_impl_addU_ : stF (EE []) 124 = some (s_impl_addU):= by kernel_rfl
theorem st_impl_addU (cs) : stF (EE cs) 124 = some (s_impl_addU):= (stF_mk cs [] 124).trans st_impl_addU_
theorem st_impl_addText_ : stF (EE []) 170 = some (s_impl_addText):= by kernel_rfl
theorem st_impl_addText (cs) : stF (EE cs) 170 = some (s_impl_addText):= (stF_mk cs [] 170).trans st_impl_addText_
theorem st_impl_Crc_ : stF (EE []) 197 = some (s_impl_Crc):= by kernel_rfl
theorem st_impl_Crc (cs) : stF (EE cs) 197 = some (s_impl_Crc):= (stF_mk cs [] 197).trans st_impl_Crc_
theorem st_impl_addSum_ : stF (EE []) 169 = some (s_impl_addSum):= by kernel_rfl
theorem st_impl_addSum (cs) : stF (EE cs) 169 = some (s_impl_addSum):= (stF_mk cs [] 169).trans st_impl_addSum_
theorem st_impl_PutPage_ : stF (EE []) 123 = some (s_impl_PutPage):= by kernel_rfl
theorem st_impl_PutPage (cs) : stF (EE cs) 123 = some (s_impl_PutPage):= (stF_mk cs [] 123).trans st_impl_PutPage_
theorem st_impl_PutMeta_ : stF (EE []) 68 = some (s_impl_PutMeta):= by kernel_rfl
theorem st_impl_PutMeta (cs) : stF (EE cs) 68 = some (s_impl_PutMeta):= (stF_mk cs [] 68).trans st_impl_PutMeta_
theorem st_impl_Format_ : stF (EE []) 32 = some (s_impl_Format):= by kernel_rfl
theorem st_impl_Format (cs) : stF (EE cs) 32 = some (s_impl_Format):= (stF_mk cs [] 32).trans st_impl_Format_
theorem st_impl_EngNew_ : stF (EE []) 8 = some (s_impl_EngNew):= by kernel_rfl
theorem st_impl_EngNew (cs) : stF (EE cs) 8 = some (s_impl_EngNew):= (stF_mk cs [] 8).trans st_impl_EngNew_
theorem st_laws_eqCol_ : stF (EE []) 148 = some (s_laws_eqCol):= by kernel_rfl
theorem st_laws_eqCol (cs) : stF (EE cs) 148 = some (s_laws_eqCol):= (stF_mk cs [] 148).trans st_laws_eqCol_
theorem st_laws_eqColS_ : stF (EE []) 93 = some (eqSF 148 3 false):= by kernel_rfl
theorem st_laws_eqColS (cs) : stF (EE cs) 93 = some (eqSF 148 3 false):= (stF_mk cs [] 93).trans st_laws_eqColS_
theorem st_laws_eqBy_ : stF (EE []) 149 = some (s_laws_eqBy):= by kernel_rfl
theorem st_laws_eqBy (cs) : stF (EE cs) 149 = some (s_laws_eqBy):= (stF_mk cs [] 149).trans st_laws_eqBy_
theorem st_laws_eqByS_ : stF (EE []) 94 = some (eqSF 149 2 false):= by kernel_rfl
theorem st_laws_eqByS (cs) : stF (EE cs) 94 = some (eqSF 149 2 false):= (stF_mk cs [] 94).trans st_laws_eqByS_
theorem st_laws_eqIndex_ : stF (EE []) 150 = some (s_laws_eqIndex):= by kernel_rfl
theorem st_laws_eqIndex (cs) : stF (EE cs) 150 = some (s_laws_eqIndex):= (stF_mk cs [] 150).trans st_laws_eqIndex_
theorem st_laws_eqIndexS_ : stF (EE []) 95 = some (eqSF 150 3 false):= by kernel_rfl
theorem st_laws_eqIndexS (cs) : stF (EE cs) 95 = some (eqSF 150 3 false):= (stF_mk cs [] 95).trans st_laws_eqIndexS_
theorem st_laws_eqDef_ : stF (EE []) 48 = some (s_laws_eqDef):= by kernel_rfl
theorem st_laws_eqDef (cs) : stF (EE cs) 48 = some (s_laws_eqDef):= (stF_mk cs [] 48).trans st_laws_eqDef_
theorem st_laws_eqDefS_ : stF (EE []) 21 = some (eqSF 48 4 false):= by kernel_rfl
theorem st_laws_eqDefS (cs) : stF (EE cs) 21 = some (eqSF 48 4 false):= (stF_mk cs [] 21).trans st_laws_eqDefS_
theorem st_laws_eqByteS_ : stF (EE []) 125 = some (ecSF):= by kernel_rfl
theorem st_laws_eqByteS (cs) : stF (EE cs) 125 = some (ecSF):= (stF_mk cs [] 125).trans st_laws_eqByteS_
theorem st_laws_eqByteSS_ : stF (EE []) 70 = some (eqSF 125 1 true):= by kernel_rfl
theorem st_laws_eqByteSS (cs) : stF (EE cs) 70 = some (eqSF 125 1 true):= (stF_mk cs [] 70).trans st_laws_eqByteSS_
theorem st_laws_eqWrite_ : stF (EE []) 126 = some (s_laws_eqWrite):= by kernel_rfl
theorem st_laws_eqWrite (cs) : stF (EE cs) 126 = some (s_laws_eqWrite):= (stF_mk cs [] 126).trans st_laws_eqWrite_
theorem st_laws_eqWriteS_ : stF (EE []) 71 = some (eqSF 126 2 false):= by kernel_rfl
theorem st_laws_eqWriteS (cs) : stF (EE cs) 71 = some (eqSF 126 2 false):= (stF_mk cs [] 71).trans st_laws_eqWriteS_
theorem st_laws_eqFault_ : stF (EE []) 35 = some (s_laws_eqFault):= by kernel_rfl
theorem st_laws_eqFault (cs) : stF (EE cs) 35 = some (s_laws_eqFault):= (stF_mk cs [] 35).trans st_laws_eqFault_
theorem st_laws_eqFaultS_ : stF (EE []) 10 = some (eqSF 35 3 false):= by kernel_rfl
theorem st_laws_eqFaultS (cs) : stF (EE cs) 10 = some (eqSF 35 3 false):= (stF_mk cs [] 10).trans st_laws_eqFaultS_
theorem st_laws_eqDisk_ : stF (EE []) 34 = some (s_laws_eqDisk):= by kernel_rfl
theorem st_laws_eqDisk (cs) : stF (EE cs) 34 = some (s_laws_eqDisk):= (stF_mk cs [] 34).trans st_laws_eqDisk_
theorem st_laws_eqEng_ : stF (EE []) 9 = some (s_laws_eqEng):= by kernel_rfl
theorem st_laws_eqEng (cs) : stF (EE cs) 9 = some (s_laws_eqEng):= (stF_mk cs [] 9).trans st_laws_eqEng_
theorem st_laws_markFaultS_ : stF (EE []) 11 = some (mkF 34 33 b_laws_markFaultS):= by kernel_rfl
theorem st_laws_markFaultS (cs) : stF (EE cs) 11 = some (mkF 34 33 b_laws_markFaultS):= (stF_mk cs [] 11).trans st_laws_markFaultS_
theorem st_laws_markText_ : stF (EE []) 50 = some (s_laws_markText):= by kernel_rfl
theorem st_laws_markText (cs) : stF (EE cs) 50 = some (s_laws_markText):= (stF_mk cs [] 50).trans st_laws_markText_
theorem st_laws_markColS_ : stF (EE []) 51 = some (mkF 37 36 b_laws_markColS):= by kernel_rfl
theorem st_laws_markColS (cs) : stF (EE cs) 51 = some (mkF 37 36 b_laws_markColS):= (stF_mk cs [] 51).trans st_laws_markColS_
theorem st_laws_markByS_ : stF (EE []) 52 = some (mkF 29 28 b_laws_markByS):= by kernel_rfl
theorem st_laws_markByS (cs) : stF (EE cs) 52 = some (mkF 29 28 b_laws_markByS):= (stF_mk cs [] 52).trans st_laws_markByS_
theorem st_laws_markIndexS_ : stF (EE []) 53 = some (mkF 37 36 b_laws_markIndexS):= by kernel_rfl
theorem st_laws_markIndexS (cs) : stF (EE cs) 53 = some (mkF 37 36 b_laws_markIndexS):= (stF_mk cs [] 53).trans st_laws_markIndexS_
theorem st_laws_markDefS_ : stF (EE []) 23 = some (mkF 42 41 b_laws_markDefS):= by kernel_rfl
theorem st_laws_markDefS (cs) : stF (EE cs) 23 = some (mkF 42 41 b_laws_markDefS):= (stF_mk cs [] 23).trans st_laws_markDefS_
theorem st_laws_markByteS_ : stF (EE []) 127 = some (mkF 20 19 b_laws_markByteS):= by kernel_rfl
theorem st_laws_markByteS (cs) : stF (EE cs) 127 = some (mkF 20 19 b_laws_markByteS):= (stF_mk cs [] 127).trans st_laws_markByteS_
theorem st_laws_markByteSS_ : stF (EE []) 72 = some (mkF 19 18 b_laws_markByteSS):= by kernel_rfl
theorem st_laws_markByteSS (cs) : stF (EE cs) 72 = some (mkF 19 18 b_laws_markByteSS):= (stF_mk cs [] 72).trans st_laws_markByteSS_
theorem st_laws_markWriteS_ : stF (EE []) 73 = some (mkF 27 26 b_laws_markWriteS):= by kernel_rfl
theorem st_laws_markWriteS (cs) : stF (EE cs) 73 = some (mkF 27 26 b_laws_markWriteS):= (stF_mk cs [] 73).trans st_laws_markWriteS_
theorem st_laws_markDisk_ : stF (EE []) 36 = some (s_laws_markDisk):= by kernel_rfl
theorem st_laws_markDisk (cs) : stF (EE cs) 36 = some (s_laws_markDisk):= (stF_mk cs [] 36).trans st_laws_markDisk_
theorem st_laws_markEng_ : stF (EE []) 12 = some (s_laws_markEng):= by kernel_rfl
theorem st_laws_markEng (cs) : stF (EE cs) 12 = some (s_laws_markEng):= (stF_mk cs [] 12).trans st_laws_markEng_
theorem st_laws_heldColS_ : stF (EE []) 74 = some (mkF 43 42 b_laws_heldColS):= by kernel_rfl
theorem st_laws_heldColS (cs) : stF (EE cs) 74 = some (mkF 43 42 b_laws_heldColS):= (stF_mk cs [] 74).trans st_laws_heldColS_
theorem st_laws_heldByS_ : stF (EE []) 75 = some (mkF 33 32 b_laws_heldByS):= by kernel_rfl
theorem st_laws_heldByS (cs) : stF (EE cs) 75 = some (mkF 33 32 b_laws_heldByS):= (stF_mk cs [] 75).trans st_laws_heldByS_
theorem st_laws_heldIndexS_ : stF (EE []) 76 = some (mkF 43 42 b_laws_heldIndexS):= by kernel_rfl
theorem st_laws_heldIndexS (cs) : stF (EE cs) 76 = some (mkF 43 42 b_laws_heldIndexS):= (stF_mk cs [] 76).trans st_laws_heldIndexS_
theorem st_laws_heldDefS_ : stF (EE []) 37 = some (mkF 50 49 b_laws_heldDefS):= by kernel_rfl
theorem st_laws_heldDefS (cs) : stF (EE cs) 37 = some (mkF 50 49 b_laws_heldDefS):= (stF_mk cs [] 37).trans st_laws_heldDefS_
theorem st_laws_heldByteS_ : stF (EE []) 128 = some (mkF 22 21 b_laws_heldByteS):= by kernel_rfl
theorem st_laws_heldByteS (cs) : stF (EE cs) 128 = some (mkF 22 21 b_laws_heldByteS):= (stF_mk cs [] 128).trans st_laws_heldByteS_
theorem st_laws_heldByteSS_ : stF (EE []) 77 = some (mkF 21 20 b_laws_heldByteSS):= by kernel_rfl
theorem st_laws_heldByteSS (cs) : stF (EE cs) 77 = some (mkF 21 20 b_laws_heldByteSS):= (stF_mk cs [] 77).trans st_laws_heldByteSS_
theorem st_laws_heldWriteS_ : stF (EE []) 78 = some (mkF 31 30 b_laws_heldWriteS):= by kernel_rfl
theorem st_laws_heldWriteS (cs) : stF (EE cs) 78 = some (mkF 31 30 b_laws_heldWriteS):= (stF_mk cs [] 78).trans st_laws_heldWriteS_
theorem st_laws_heldFaultS_ : stF (EE []) 79 = some (mkF 40 39 b_laws_heldFaultS):= by kernel_rfl
theorem st_laws_heldFaultS (cs) : stF (EE cs) 79 = some (mkF 40 39 b_laws_heldFaultS):= (stF_mk cs [] 79).trans st_laws_heldFaultS_
theorem st_laws_heldDisk_ : stF (EE []) 38 = some (s_laws_heldDisk):= by kernel_rfl
theorem st_laws_heldDisk (cs) : stF (EE cs) 38 = some (s_laws_heldDisk):= (stF_mk cs [] 38).trans st_laws_heldDisk_
theorem st_laws_heldEng_ : stF (EE []) 13 = some (s_laws_heldEng):= by kernel_rfl
theorem st_laws_heldEng (cs) : stF (EE cs) 13 = some (s_laws_heldEng):= (stF_mk cs [] 13).trans st_laws_heldEng_
theorem st_laws_FnExactEngNew_ : stF (EE []) 3 = some (s_laws_FnExactEngNew):= by kernel_rfl
theorem st_laws_FnExactEngNew (cs) : stF (EE cs) 3 = some (s_laws_FnExactEngNew):= (stF_mk cs [] 3).trans st_laws_FnExactEngNew_
theorem entered : entB Tryz.prog isC = true:= by kernel_rfl
end Go.Proofs.YtpolhafmapekpaaGreatDoor.En
namespace Go.Proofs.YtpolhafmapekpaaGreatDoor.En
open Go Go.RowKit Go.Ev
set_option maxHeartbeats 1600000
structure TFault where
  fAt : Int
  fKeep : Int
  fCut : Int
def TFault.row (v : TFault) : List AV:= [.int .i64 v.fAt,.int .i64 v.fKeep,.int .i64 v.fCut]
theorem TFault.inj (a b : TFault) (h : a.row = b.row) : a = b:= by
  obtain ⟨aAt,aKeep,aCut⟩:= a
  obtain ⟨bAt,bKeep,bCut⟩:= b
  simp only [TFault.row,List.cons.injEq,AV.int.injEq,true_and,and_true] at h
  obtain ⟨h0,h1,h2⟩:= h
  subst h0
  subst h1
  subst h2
  rfl
def tFault : TD TFault where
  row:= TFault.row
  enc v:= .agg v.row
  sz:= 3
  one:= false
  cost _:= 0
  fits _:= True
  ok v:= intT.ok v.fAt ∧ intT.ok v.fKeep ∧ intT.ok v.fCut
  len _:= rfl
  pos:= by decide
  inj:= TFault.inj
  enc1 h:= by cases h
  encA _ _:= rfl
  frz v c hc:= by
    simp only [TFault.row,List.mem_cons,List.not_mem_nil,or_false] at hc
    rcases hc with rfl | rfl | rfl <;> exact ⟨rfl,rfl⟩
  fit _ _:= trivial
  dep:= 0
  okd v c hc:= by
    simp only [TFault.row,List.mem_cons,List.not_mem_nil,or_false] at hc
    rcases hc with rfl | rfl | rfl
    · exact okV.mono (n:= 0) rfl (Nat.zero_le _)
    · exact okV.mono (n:= 0) rfl (Nat.zero_le _)
    · exact okV.mono (n:= 0) rfl (Nat.zero_le _)
theorem tFault_enc (v : TFault) : tFault.enc v = .agg v.row:= rfl
theorem tFault_row : tFault.row = TFault.row:= rfl
attribute [go_sem] tFault_enc tFault_row
structure TCol where
  fName : List UInt8
  fType : Int
  fNull : Bool
def TCol.row (v : TCol) : List AV:= [.str v.fName,.int .i64 v.fType,.bool v.fNull]
theorem TCol.inj (a b : TCol) (h : a.row = b.row) : a = b:= by
  obtain ⟨aName,aType,aNull⟩:= a
  obtain ⟨bName,bType,bNull⟩:= b
  simp only [TCol.row,List.cons.injEq,AV.int.injEq,AV.str.injEq,AV.bool.injEq,true_and,and_true] at h
  obtain ⟨h0,h1,h2⟩:= h
  subst h0
  subst h1
  subst h2
  rfl
def tCol : TD TCol where
  row:= TCol.row
  enc v:= .agg v.row
  sz:= 3
  one:= false
  cost v:= v.fName.length
  fits v:= v.fName.length ≤ 9223372036854775807
  ok v:= intT.ok v.fType
  len _:= rfl
  pos:= by decide
  inj:= TCol.inj
  enc1 h:= by cases h
  encA _ _:= rfl
  frz v c hc:= by
    simp only [TCol.row,List.mem_cons,List.not_mem_nil,or_false] at hc
    rcases hc with rfl | rfl | rfl <;> exact ⟨rfl,rfl⟩
  fit v h:= by omega
  dep:= 0
  okd v c hc:= by
    simp only [TCol.row,List.mem_cons,List.not_mem_nil,or_false] at hc
    rcases hc with rfl | rfl | rfl
    · exact okV.mono (n:= 0) rfl (Nat.zero_le _)
    · exact okV.mono (n:= 0) rfl (Nat.zero_le _)
    · exact okV.mono (n:= 0) rfl (Nat.zero_le _)
theorem tCol_enc (v : TCol) : tCol.enc v = .agg v.row:= rfl
theorem tCol_row : tCol.row = TCol.row:= rfl
attribute [go_sem] tCol_enc tCol_row
structure TBy where
  fCol : Int
  fDesc : Bool
def TBy.row (v : TBy) : List AV:= [.int .i64 v.fCol,.bool v.fDesc]
theorem TBy.inj (a b : TBy) (h : a.row = b.row) : a = b:= by
  obtain ⟨aCol,aDesc⟩:= a
  obtain ⟨bCol,bDesc⟩:= b
  simp only [TBy.row,List.cons.injEq,AV.int.injEq,AV.bool.injEq,true_and,and_true] at h
  obtain ⟨h0,h1⟩:= h
  subst h0
  subst h1
  rfl
def tBy : TD TBy where
  row:= TBy.row
  enc v:= .agg v.row
  sz:= 2
  one:= false
  cost _:= 0
  fits _:= True
  ok v:= intT.ok v.fCol
  len _:= rfl
  pos:= by decide
  inj:= TBy.inj
  enc1 h:= by cases h
  encA _ _:= rfl
  frz v c hc:= by
    simp only [TBy.row,List.mem_cons,List.not_mem_nil,or_false] at hc
    rcases hc with rfl | rfl <;> exact ⟨rfl,rfl⟩
  fit _ _:= trivial
  dep:= 0
  okd v c hc:= by
    simp only [TBy.row,List.mem_cons,List.not_mem_nil,or_false] at hc
    rcases hc with rfl | rfl
    · exact okV.mono (n:= 0) rfl (Nat.zero_le _)
    · exact okV.mono (n:= 0) rfl (Nat.zero_le _)
theorem tBy_enc (v : TBy) : tBy.enc v = .agg v.row:= rfl
theorem tBy_row : tBy.row = TBy.row:= rfl
attribute [go_sem] tBy_enc tBy_row
structure TIndex where
  fName : List UInt8
  fUnique : Bool
  fParts : List (TBy)
def TIndex.row (v : TIndex) : List AV:= [.str v.fName,.bool v.fUnique,.imm (v.fParts.map TBy.row)]
theorem TIndex.inj (a b : TIndex) (h : a.row = b.row) : a = b:= by
  obtain ⟨aName,aUnique,aParts⟩:= a
  obtain ⟨bName,bUnique,bParts⟩:= b
  simp only [TIndex.row,List.cons.injEq,AV.str.injEq,AV.bool.injEq,AV.imm.injEq,and_true] at h
  obtain ⟨h0,h1,h2⟩:= h
  have h2:= TD.map_inj tBy h2
  subst h0
  subst h1
  subst h2
  rfl
def tIndex : TD TIndex where
  row:= TIndex.row
  enc v:= .agg v.row
  sz:= 3
  one:= false
  cost v:= v.fName.length + (sliceT tBy).cost v.fParts
  fits v:= v.fName.length ≤ 9223372036854775807 ∧ (sliceT tBy).fits v.fParts
  ok v:= (sliceT tBy).ok v.fParts
  len _:= rfl
  pos:= by decide
  inj:= TIndex.inj
  enc1 h:= by cases h
  encA _ _:= rfl
  frz v c hc:= by
    simp only [TIndex.row,List.mem_cons,List.not_mem_nil,or_false] at hc
    rcases hc with rfl | rfl | rfl <;> exact ⟨rfl,rfl⟩
  fit v h:= ⟨by omega,(sliceT tBy).fit _ (by omega)⟩
  dep:= 1
  okd v c hc:= by
    simp only [TIndex.row,List.mem_cons,List.not_mem_nil,or_false] at hc
    rcases hc with rfl | rfl | rfl
    · exact okV.mono (n:= 0) rfl (Nat.zero_le _)
    · exact okV.mono (n:= 0) rfl (Nat.zero_le _)
    · exact (((sliceT tBy)).okd v.fParts _ (by exact List.mem_singleton.2 rfl)).mono (by decide)
theorem tIndex_enc (v : TIndex) : tIndex.enc v = .agg v.row:= rfl
theorem tIndex_row : tIndex.row = TIndex.row:= rfl
attribute [go_sem] tIndex_enc tIndex_row
structure TDef where
  fName : List UInt8
  fCols : List (TCol)
  fPrimary : List (TBy)
  fIndexes : List (TIndex)
def TDef.row (v : TDef) : List AV:= [.str v.fName,.imm (v.fCols.map TCol.row),.imm (v.fPrimary.map TBy.row),.imm (v.fIndexes.map TIndex.row)]
theorem TDef.inj (a b : TDef) (h : a.row = b.row) : a = b:= by
  obtain ⟨aName,aCols,aPrimary,aIndexes⟩:= a
  obtain ⟨bName,bCols,bPrimary,bIndexes⟩:= b
  simp only [TDef.row,List.cons.injEq,AV.str.injEq,AV.imm.injEq,and_true] at h
  obtain ⟨h0,h1,h2,h3⟩:= h
  have h1:= TD.map_inj tCol h1
  have h2:= TD.map_inj tBy h2
  have h3:= TD.map_inj tIndex h3
  subst h0
  subst h1
  subst h2
  subst h3
  rfl
def tDef : TD TDef where
  row:= TDef.row
  enc v:= .agg v.row
  sz:= 4
  one:= false
  cost v:= v.fName.length + (sliceT tCol).cost v.fCols + (sliceT tBy).cost v.fPrimary + (sliceT tIndex).cost v.fIndexes
  fits v:= v.fName.length ≤ 9223372036854775807 ∧ (sliceT tCol).fits v.fCols ∧ (sliceT tBy).fits v.fPrimary ∧ (sliceT tIndex).fits v.fIndexes
  ok v:= (sliceT tCol).ok v.fCols ∧ (sliceT tBy).ok v.fPrimary ∧ (sliceT tIndex).ok v.fIndexes
  len _:= rfl
  pos:= by decide
  inj:= TDef.inj
  enc1 h:= by cases h
  encA _ _:= rfl
  frz v c hc:= by
    simp only [TDef.row,List.mem_cons,List.not_mem_nil,or_false] at hc
    rcases hc with rfl | rfl | rfl | rfl <;> exact ⟨rfl,rfl⟩
  fit v h:= ⟨by omega,(sliceT tCol).fit _ (by omega),(sliceT tBy).fit _ (by omega),(sliceT tIndex).fit _ (by omega)⟩
  dep:= 2
  okd v c hc:= by
    simp only [TDef.row,List.mem_cons,List.not_mem_nil,or_false] at hc
    rcases hc with rfl | rfl | rfl | rfl
    · exact okV.mono (n:= 0) rfl (Nat.zero_le _)
    · exact (((sliceT tCol)).okd v.fCols _ (by exact List.mem_singleton.2 rfl)).mono (by decide)
    · exact (((sliceT tBy)).okd v.fPrimary _ (by exact List.mem_singleton.2 rfl)).mono (by decide)
    · exact (((sliceT tIndex)).okd v.fIndexes _ (by exact List.mem_singleton.2 rfl)).mono (by decide)
theorem tDef_enc (v : TDef) : tDef.enc v = .agg v.row:= rfl
theorem tDef_row : tDef.row = TDef.row:= rfl
attribute [go_sem] tDef_enc tDef_row
structure TToken where
  fK : Int
  fS : List UInt8
def TToken.row (v : TToken) : List AV:= [.int .i64 v.fK,.str v.fS]
theorem TToken.inj (a b : TToken) (h : a.row = b.row) : a = b:= by
  obtain ⟨aK,aS⟩:= a
  obtain ⟨bK,bS⟩:= b
  simp only [TToken.row,List.cons.injEq,AV.int.injEq,AV.str.injEq,true_and,and_true] at h
  obtain ⟨h0,h1⟩:= h
  subst h0
  subst h1
  rfl
def tToken : TD TToken where
  row:= TToken.row
  enc v:= .agg v.row
  sz:= 2
  one:= false
  cost v:= v.fS.length
  fits v:= v.fS.length ≤ 9223372036854775807
  ok v:= intT.ok v.fK
  len _:= rfl
  pos:= by decide
  inj:= TToken.inj
  enc1 h:= by cases h
  encA _ _:= rfl
  frz v c hc:= by
    simp only [TToken.row,List.mem_cons,List.not_mem_nil,or_false] at hc
    rcases hc with rfl | rfl <;> exact ⟨rfl,rfl⟩
  fit v h:= by omega
  dep:= 0
  okd v c hc:= by
    simp only [TToken.row,List.mem_cons,List.not_mem_nil,or_false] at hc
    rcases hc with rfl | rfl
    · exact okV.mono (n:= 0) rfl (Nat.zero_le _)
    · exact okV.mono (n:= 0) rfl (Nat.zero_le _)
theorem tToken_enc (v : TToken) : tToken.enc v = .agg v.row:= rfl
theorem tToken_row : tToken.row = TToken.row:= rfl
attribute [go_sem] tToken_enc tToken_row
structure TWrite where
  fN : Int
  fB : List (UInt8)
def TWrite.row (v : TWrite) : List AV:= [.int .i64 v.fN,.imm (v.fB.map u8T.row)]
theorem TWrite.inj (a b : TWrite) (h : a.row = b.row) : a = b:= by
  obtain ⟨aN,aB⟩:= a
  obtain ⟨bN,bB⟩:= b
  simp only [TWrite.row,List.cons.injEq,AV.int.injEq,AV.imm.injEq,true_and,and_true] at h
  obtain ⟨h0,h1⟩:= h
  have h1:= TD.map_inj u8T h1
  subst h0
  subst h1
  rfl
def tWrite : TD TWrite where
  row:= TWrite.row
  enc v:= .agg v.row
  sz:= 2
  one:= false
  cost v:= (sliceT u8T).cost v.fB
  fits v:= (sliceT u8T).fits v.fB
  ok v:= intT.ok v.fN ∧ (sliceT u8T).ok v.fB
  len _:= rfl
  pos:= by decide
  inj:= TWrite.inj
  enc1 h:= by cases h
  encA _ _:= rfl
  frz v c hc:= by
    simp only [TWrite.row,List.mem_cons,List.not_mem_nil,or_false] at hc
    rcases hc with rfl | rfl <;> exact ⟨rfl,rfl⟩
  fit v h:= (sliceT u8T).fit _ (by omega)
  dep:= 1
  okd v c hc:= by
    simp only [TWrite.row,List.mem_cons,List.not_mem_nil,or_false] at hc
    rcases hc with rfl | rfl
    · exact okV.mono (n:= 0) rfl (Nat.zero_le _)
    · exact (((sliceT u8T)).okd v.fB _ (by exact List.mem_singleton.2 rfl)).mono (by decide)
theorem tWrite_enc (v : TWrite) : tWrite.enc v = .agg v.row:= rfl
theorem tWrite_row : tWrite.row = TWrite.row:= rfl
attribute [go_sem] tWrite_enc tWrite_row
structure TDisk where
  fSecs : List (List (UInt8))
  fCache : List (TWrite)
  fOps : Int
  fFaults : List (TFault)
  fDown : Bool
def TDisk.row (v : TDisk) : List AV:= [.imm (v.fSecs.map (sliceT u8T).row),.imm (v.fCache.map TWrite.row),.int .i64 v.fOps,.imm (v.fFaults.map TFault.row),.bool v.fDown]
theorem TDisk.inj (a b : TDisk) (h : a.row = b.row) : a = b:= by
  obtain ⟨aSecs,aCache,aOps,aFaults,aDown⟩:= a
  obtain ⟨bSecs,bCache,bOps,bFaults,bDown⟩:= b
  simp only [TDisk.row,List.cons.injEq,AV.int.injEq,AV.bool.injEq,AV.imm.injEq,true_and,and_true] at h
  obtain ⟨h0,h1,h2,h3,h4⟩:= h
  have h0:= TD.map_inj (sliceT u8T) h0
  have h1:= TD.map_inj tWrite h1
  have h3:= TD.map_inj tFault h3
  subst h0
  subst h1
  subst h2
  subst h3
  subst h4
  rfl
def tDisk : TD TDisk where
  row:= TDisk.row
  enc v:= .agg v.row
  sz:= 5
  one:= false
  cost v:= (sliceT (sliceT u8T)).cost v.fSecs + (sliceT tWrite).cost v.fCache + (sliceT tFault).cost v.fFaults
  fits v:= (sliceT (sliceT u8T)).fits v.fSecs ∧ (sliceT tWrite).fits v.fCache ∧ (sliceT tFault).fits v.fFaults
  ok v:= (sliceT (sliceT u8T)).ok v.fSecs ∧ (sliceT tWrite).ok v.fCache ∧ intT.ok v.fOps ∧ (sliceT tFault).ok v.fFaults
  len _:= rfl
  pos:= by decide
  inj:= TDisk.inj
  enc1 h:= by cases h
  encA _ _:= rfl
  frz v c hc:= by
    simp only [TDisk.row,List.mem_cons,List.not_mem_nil,or_false] at hc
    rcases hc with rfl | rfl | rfl | rfl | rfl <;> exact ⟨rfl,rfl⟩
  fit v h:= ⟨(sliceT (sliceT u8T)).fit _ (by omega),(sliceT tWrite).fit _ (by omega),(sliceT tFault).fit _ (by omega)⟩
  dep:= 2
  okd v c hc:= by
    simp only [TDisk.row,List.mem_cons,List.not_mem_nil,or_false] at hc
    rcases hc with rfl | rfl | rfl | rfl | rfl
    · exact (((sliceT (sliceT u8T))).okd v.fSecs _ (by exact List.mem_singleton.2 rfl)).mono (by decide)
    · exact (((sliceT tWrite)).okd v.fCache _ (by exact List.mem_singleton.2 rfl)).mono (by decide)
    · exact okV.mono (n:= 0) rfl (Nat.zero_le _)
    · exact (((sliceT tFault)).okd v.fFaults _ (by exact List.mem_singleton.2 rfl)).mono (by decide)
    · exact okV.mono (n:= 0) rfl (Nat.zero_le _)
theorem tDisk_enc (v : TDisk) : tDisk.enc v = .agg v.row:= rfl
theorem tDisk_row : tDisk.row = TDisk.row:= rfl
attribute [go_sem] tDisk_enc tDisk_row
structure TMeta where
  fGen : Int
  fRoot : Int
def TMeta.row (v : TMeta) : List AV:= [.int .i64 v.fGen,.int .i64 v.fRoot]
theorem TMeta.inj (a b : TMeta) (h : a.row = b.row) : a = b:= by
  obtain ⟨aGen,aRoot⟩:= a
  obtain ⟨bGen,bRoot⟩:= b
  simp only [TMeta.row,List.cons.injEq,AV.int.injEq,true_and,and_true] at h
  obtain ⟨h0,h1⟩:= h
  subst h0
  subst h1
  rfl
def tMeta : TD TMeta where
  row:= TMeta.row
  enc v:= .agg v.row
  sz:= 2
  one:= false
  cost _:= 0
  fits _:= True
  ok v:= intT.ok v.fGen ∧ intT.ok v.fRoot
  len _:= rfl
  pos:= by decide
  inj:= TMeta.inj
  enc1 h:= by cases h
  encA _ _:= rfl
  frz v c hc:= by
    simp only [TMeta.row,List.mem_cons,List.not_mem_nil,or_false] at hc
    rcases hc with rfl | rfl <;> exact ⟨rfl,rfl⟩
  fit _ _:= trivial
  dep:= 0
  okd v c hc:= by
    simp only [TMeta.row,List.mem_cons,List.not_mem_nil,or_false] at hc
    rcases hc with rfl | rfl
    · exact okV.mono (n:= 0) rfl (Nat.zero_le _)
    · exact okV.mono (n:= 0) rfl (Nat.zero_le _)
theorem tMeta_enc (v : TMeta) : tMeta.enc v = .agg v.row:= rfl
theorem tMeta_row : tMeta.row = TMeta.row:= rfl
attribute [go_sem] tMeta_enc tMeta_row
structure TNode where
  fLeaf : Bool
  fKeys : List (List UInt8)
  fVals : List (List UInt8)
  fKids : List (Int)
def TNode.row (v : TNode) : List AV:= [.bool v.fLeaf,.imm (v.fKeys.map strT.row),.imm (v.fVals.map strT.row),.imm (v.fKids.map intT.row)]
theorem TNode.inj (a b : TNode) (h : a.row = b.row) : a = b:= by
  obtain ⟨aLeaf,aKeys,aVals,aKids⟩:= a
  obtain ⟨bLeaf,bKeys,bVals,bKids⟩:= b
  simp only [TNode.row,List.cons.injEq,AV.bool.injEq,AV.imm.injEq,and_true] at h
  obtain ⟨h0,h1,h2,h3⟩:= h
  have h1:= TD.map_inj strT h1
  have h2:= TD.map_inj strT h2
  have h3:= TD.map_inj intT h3
  subst h0
  subst h1
  subst h2
  subst h3
  rfl
def tNode : TD TNode where
  row:= TNode.row
  enc v:= .agg v.row
  sz:= 4
  one:= false
  cost v:= (sliceT strT).cost v.fKeys + (sliceT strT).cost v.fVals + (sliceT intT).cost v.fKids
  fits v:= (sliceT strT).fits v.fKeys ∧ (sliceT strT).fits v.fVals ∧ (sliceT intT).fits v.fKids
  ok v:= (sliceT strT).ok v.fKeys ∧ (sliceT strT).ok v.fVals ∧ (sliceT intT).ok v.fKids
  len _:= rfl
  pos:= by decide
  inj:= TNode.inj
  enc1 h:= by cases h
  encA _ _:= rfl
  frz v c hc:= by
    simp only [TNode.row,List.mem_cons,List.not_mem_nil,or_false] at hc
    rcases hc with rfl | rfl | rfl | rfl <;> exact ⟨rfl,rfl⟩
  fit v h:= ⟨(sliceT strT).fit _ (by omega),(sliceT strT).fit _ (by omega),(sliceT intT).fit _ (by omega)⟩
  dep:= 1
  okd v c hc:= by
    simp only [TNode.row,List.mem_cons,List.not_mem_nil,or_false] at hc
    rcases hc with rfl | rfl | rfl | rfl
    · exact okV.mono (n:= 0) rfl (Nat.zero_le _)
    · exact (((sliceT strT)).okd v.fKeys _ (by exact List.mem_singleton.2 rfl)).mono (by decide)
    · exact (((sliceT strT)).okd v.fVals _ (by exact List.mem_singleton.2 rfl)).mono (by decide)
    · exact (((sliceT intT)).okd v.fKids _ (by exact List.mem_singleton.2 rfl)).mono (by decide)
theorem tNode_enc (v : TNode) : tNode.enc v = .agg v.row:= rfl
theorem tNode_row : tNode.row = TNode.row:= rfl
attribute [go_sem] tNode_enc tNode_row
structure TFresh where
  fN : Int
  fX : TNode
def TFresh.row (v : TFresh) : List AV:= [.int .i64 v.fN,.bool v.fX.fLeaf,.imm (v.fX.fKeys.map strT.row),.imm (v.fX.fVals.map strT.row),.imm (v.fX.fKids.map intT.row)]
theorem TFresh.inj (a b : TFresh) (h : a.row = b.row) : a = b:= by
  obtain ⟨aN,⟨aXLeaf,aXKeys,aXVals,aXKids⟩⟩:= a
  obtain ⟨bN,⟨bXLeaf,bXKeys,bXVals,bXKids⟩⟩:= b
  simp only [TFresh.row,List.cons.injEq,AV.int.injEq,AV.bool.injEq,AV.imm.injEq,true_and,and_true] at h
  obtain ⟨h0,h1,h2,h3,h4⟩:= h
  have h2:= TD.map_inj strT h2
  have h3:= TD.map_inj strT h3
  have h4:= TD.map_inj intT h4
  subst h0
  subst h1
  subst h2
  subst h3
  subst h4
  rfl
def tFresh : TD TFresh where
  row:= TFresh.row
  enc v:= .agg v.row
  sz:= 5
  one:= false
  cost v:= tNode.cost v.fX
  fits v:= tNode.fits v.fX
  ok v:= intT.ok v.fN ∧ tNode.ok v.fX
  len _:= rfl
  pos:= by decide
  inj:= TFresh.inj
  enc1 h:= by cases h
  encA _ _:= rfl
  frz v c hc:= by
    simp only [TFresh.row,List.mem_cons,List.not_mem_nil,or_false] at hc
    rcases hc with rfl | rfl | rfl | rfl | rfl <;> exact ⟨rfl,rfl⟩
  fit v h:= tNode.fit _ (by omega)
  dep:= 1
  okd v c hc:= by
    simp only [TFresh.row,List.mem_cons,List.not_mem_nil,or_false] at hc
    rcases hc with rfl | rfl | rfl | rfl | rfl
    · exact okV.mono (n:= 0) rfl (Nat.zero_le _)
    · exact okV.mono (n:= 0) rfl (Nat.zero_le _)
    · exact (((sliceT strT)).okd v.fX.fKeys _ (by exact List.mem_singleton.2 rfl)).mono (by decide)
    · exact (((sliceT strT)).okd v.fX.fVals _ (by exact List.mem_singleton.2 rfl)).mono (by decide)
    · exact (((sliceT intT)).okd v.fX.fKids _ (by exact List.mem_singleton.2 rfl)).mono (by decide)
theorem tFresh_enc (v : TFresh) : tFresh.enc v = .agg v.row:= rfl
theorem tFresh_row : tFresh.row = TFresh.row:= rfl
attribute [go_sem] tFresh_enc tFresh_row
structure TTxn where
  fD : TDisk
  fM : TMeta
  fRoot : Int
  fNew : List (TFresh)
def TTxn.row (v : TTxn) : List AV:= [.imm (v.fD.fSecs.map (sliceT u8T).row),.imm (v.fD.fCache.map TWrite.row),.int .i64 v.fD.fOps,.imm (v.fD.fFaults.map TFault.row),.bool v.fD.fDown,.int .i64 v.fM.fGen,.int .i64 v.fM.fRoot,.int .i64 v.fRoot,.imm (v.fNew.map TFresh.row)]
theorem TTxn.inj (a b : TTxn) (h : a.row = b.row) : a = b:= by
  obtain ⟨⟨aDSecs,aDCache,aDOps,aDFaults,aDDown⟩,⟨aMGen,aMRoot⟩,aRoot,aNew⟩:= a
  obtain ⟨⟨bDSecs,bDCache,bDOps,bDFaults,bDDown⟩,⟨bMGen,bMRoot⟩,bRoot,bNew⟩:= b
  simp only [TTxn.row,List.cons.injEq,AV.int.injEq,AV.bool.injEq,AV.imm.injEq,true_and,and_true] at h
  obtain ⟨h0,h1,h2,h3,h4,h5,h6,h7,h8⟩:= h
  have h0:= TD.map_inj (sliceT u8T) h0
  have h1:= TD.map_inj tWrite h1
  have h3:= TD.map_inj tFault h3
  have h8:= TD.map_inj tFresh h8
  subst h0
  subst h1
  subst h2
  subst h3
  subst h4
  subst h5
  subst h6
  subst h7
  subst h8
  rfl
def tTxn : TD TTxn where
  row:= TTxn.row
  enc v:= .agg v.row
  sz:= 9
  one:= false
  cost v:= tDisk.cost v.fD + (sliceT tFresh).cost v.fNew
  fits v:= tDisk.fits v.fD ∧ (sliceT tFresh).fits v.fNew
  ok v:= tDisk.ok v.fD ∧ tMeta.ok v.fM ∧ intT.ok v.fRoot ∧ (sliceT tFresh).ok v.fNew
  len _:= rfl
  pos:= by decide
  inj:= TTxn.inj
  enc1 h:= by cases h
  encA _ _:= rfl
  frz v c hc:= by
    simp only [TTxn.row,List.mem_cons,List.not_mem_nil,or_false] at hc
    rcases hc with rfl | rfl | rfl | rfl | rfl | rfl | rfl | rfl | rfl <;> exact ⟨rfl,rfl⟩
  fit v h:= ⟨tDisk.fit _ (by omega),(sliceT tFresh).fit _ (by omega)⟩
  dep:= 2
  okd v c hc:= by
    simp only [TTxn.row,List.mem_cons,List.not_mem_nil,or_false] at hc
    rcases hc with rfl | rfl | rfl | rfl | rfl | rfl | rfl | rfl | rfl
    · exact (((sliceT (sliceT u8T))).okd v.fD.fSecs _ (by exact List.mem_singleton.2 rfl)).mono (by decide)
    · exact (((sliceT tWrite)).okd v.fD.fCache _ (by exact List.mem_singleton.2 rfl)).mono (by decide)
    · exact okV.mono (n:= 0) rfl (Nat.zero_le _)
    · exact (((sliceT tFault)).okd v.fD.fFaults _ (by exact List.mem_singleton.2 rfl)).mono (by decide)
    · exact okV.mono (n:= 0) rfl (Nat.zero_le _)
    · exact okV.mono (n:= 0) rfl (Nat.zero_le _)
    · exact okV.mono (n:= 0) rfl (Nat.zero_le _)
    · exact okV.mono (n:= 0) rfl (Nat.zero_le _)
    · exact (((sliceT tFresh)).okd v.fNew _ (by exact List.mem_singleton.2 rfl)).mono (by decide)
theorem tTxn_enc (v : TTxn) : tTxn.enc v = .agg v.row:= rfl
theorem tTxn_row : tTxn.row = TTxn.row:= rfl
attribute [go_sem] tTxn_enc tTxn_row
structure TEng where
  fS : List (TDef)
  fD : TDisk
def TEng.row (v : TEng) : List AV:= [.imm (v.fS.map TDef.row),.imm (v.fD.fSecs.map (sliceT u8T).row),.imm (v.fD.fCache.map TWrite.row),.int .i64 v.fD.fOps,.imm (v.fD.fFaults.map TFault.row),.bool v.fD.fDown]
theorem TEng.inj (a b : TEng) (h : a.row = b.row) : a = b:= by
  obtain ⟨aS,⟨aDSecs,aDCache,aDOps,aDFaults,aDDown⟩⟩:= a
  obtain ⟨bS,⟨bDSecs,bDCache,bDOps,bDFaults,bDDown⟩⟩:= b
  simp only [TEng.row,List.cons.injEq,AV.int.injEq,AV.bool.injEq,AV.imm.injEq,true_and,and_true] at h
  obtain ⟨h0,h1,h2,h3,h4,h5⟩:= h
  have h0:= TD.map_inj tDef h0
  have h1:= TD.map_inj (sliceT u8T) h1
  have h2:= TD.map_inj tWrite h2
  have h4:= TD.map_inj tFault h4
  subst h0
  subst h1
  subst h2
  subst h3
  subst h4
  subst h5
  rfl
def tEng : TD TEng where
  row:= TEng.row
  enc v:= .agg v.row
  sz:= 6
  one:= false
  cost v:= (sliceT tDef).cost v.fS + tDisk.cost v.fD
  fits v:= (sliceT tDef).fits v.fS ∧ tDisk.fits v.fD
  ok v:= (sliceT tDef).ok v.fS ∧ tDisk.ok v.fD
  len _:= rfl
  pos:= by decide
  inj:= TEng.inj
  enc1 h:= by cases h
  encA _ _:= rfl
  frz v c hc:= by
    simp only [TEng.row,List.mem_cons,List.not_mem_nil,or_false] at hc
    rcases hc with rfl | rfl | rfl | rfl | rfl | rfl <;> exact ⟨rfl,rfl⟩
  fit v h:= ⟨(sliceT tDef).fit _ (by omega),tDisk.fit _ (by omega)⟩
  dep:= 3
  okd v c hc:= by
    simp only [TEng.row,List.mem_cons,List.not_mem_nil,or_false] at hc
    rcases hc with rfl | rfl | rfl | rfl | rfl | rfl
    · exact (((sliceT tDef)).okd v.fS _ (by exact List.mem_singleton.2 rfl)).mono (by decide)
    · exact (((sliceT (sliceT u8T))).okd v.fD.fSecs _ (by exact List.mem_singleton.2 rfl)).mono (by decide)
    · exact (((sliceT tWrite)).okd v.fD.fCache _ (by exact List.mem_singleton.2 rfl)).mono (by decide)
    · exact okV.mono (n:= 0) rfl (Nat.zero_le _)
    · exact (((sliceT tFault)).okd v.fD.fFaults _ (by exact List.mem_singleton.2 rfl)).mono (by decide)
    · exact okV.mono (n:= 0) rfl (Nat.zero_le _)
theorem tEng_enc (v : TEng) : tEng.enc v = .agg v.row:= rfl
theorem tEng_row : tEng.row = TEng.row:= rfl
attribute [go_sem] tEng_enc tEng_row
structure TVal where
  fK : Int
  fN : Int
  fS : List UInt8
def TVal.row (v : TVal) : List AV:= [.int .i64 v.fK,.int .i64 v.fN,.str v.fS]
theorem TVal.inj (a b : TVal) (h : a.row = b.row) : a = b:= by
  obtain ⟨aK,aN,aS⟩:= a
  obtain ⟨bK,bN,bS⟩:= b
  simp only [TVal.row,List.cons.injEq,AV.int.injEq,AV.str.injEq,true_and,and_true] at h
  obtain ⟨h0,h1,h2⟩:= h
  subst h0
  subst h1
  subst h2
  rfl
def tVal : TD TVal where
  row:= TVal.row
  enc v:= .agg v.row
  sz:= 3
  one:= false
  cost v:= v.fS.length
  fits v:= v.fS.length ≤ 9223372036854775807
  ok v:= intT.ok v.fK ∧ intT.ok v.fN
  len _:= rfl
  pos:= by decide
  inj:= TVal.inj
  enc1 h:= by cases h
  encA _ _:= rfl
  frz v c hc:= by
    simp only [TVal.row,List.mem_cons,List.not_mem_nil,or_false] at hc
    rcases hc with rfl | rfl | rfl <;> exact ⟨rfl,rfl⟩
  fit v h:= by omega
  dep:= 0
  okd v c hc:= by
    simp only [TVal.row,List.mem_cons,List.not_mem_nil,or_false] at hc
    rcases hc with rfl | rfl | rfl
    · exact okV.mono (n:= 0) rfl (Nat.zero_le _)
    · exact okV.mono (n:= 0) rfl (Nat.zero_le _)
    · exact okV.mono (n:= 0) rfl (Nat.zero_le _)
theorem tVal_enc (v : TVal) : tVal.enc v = .agg v.row:= rfl
theorem tVal_row : tVal.row = TVal.row:= rfl
attribute [go_sem] tVal_enc tVal_row
end Go.Proofs.YtpolhafmapekpaaGreatDoor.En
namespace Go.Proofs.YtpolhafmapekpaaGreatDoor.En
open Go Go.RowKit Go.Ev
set_option maxHeartbeats 1600000
theorem ok_laws_szFaultS {WI : World → Prop} (hs : Stable WI) (cs) (hT : TOK (EE cs) WI)  : PureOK Tryz.prog WI 5 (szC (sliceT tFault)):= szLen_ok (E:= EE cs) hT hs (fun _ => rfl) (st_laws_szFaultS cs)
theorem ok_laws_toFault {WI : World → Prop} (hs : Stable WI) (cs) (hT : TOK (EE cs) WI)  : PureOK Tryz.prog WI 30 (toC tFault):= by
  refine pure1 (E:= EE cs) hT hs (by rw [st_laws_toFault];rfl) fun v hc => out_K (n:= 0) (st_laws_toFault cs) ?_
  have hcost : tFault.cost v = 0:= rfl
  simp only [go_sem,kSt_ptr,Nat.reduceBEq,Nat.reduceAdd,Nat.reduceEqDiff,Nat.reduceLeDiff,s_laws_toFault,TFault.row,id_eq]
theorem ok_laws_toFaultS {WI : World → Prop} (hs : Stable WI) (cs) (hT : TOK (EE cs) WI) (h0 : (EE cs).T 30 = some (toC tFault)) : OwnOK Tryz.prog WI 7 (toC (sliceT tFault)):= toSQ_ok (E:= EE cs) (T:= tFault) (bt:= 24) (z:= [.int .i64 0,.int .i64 0,.int .i64 0]) hT hs h0 rfl rfl (by decide) (st_laws_toFaultS cs)
def inR (x a b : Int) : Bool:= decide (a ≤ x) && decide (x ≤ b)
theorem u8i (b : UInt8) : IntKind.wrap .i64 (b.toNat : Int) = b.toNat:= by
  have:= b.toNat_lt
  exact wrapId (by omega) (by omega)
def smallB (b : UInt8) : Bool:= inR b.toNat 97 122
def digitB (b : UInt8) : Bool:= inR b.toNat 48 57
def nameB (pre : List UInt8) (b : UInt8) : Bool:= smallB b || (!((pre.length : Int) == 0) && digitB b)
def isName (s : List UInt8) : Bool:= allP nameB [] s && inR s.length 1 8
def words : List (List UInt8):= [[116,97,98,108,101],[112,114,105,109,97,114,121],[117,110,105,113,117,101],[105,110,100,101,120],[110,117,108,108],[100,101,115,99],[105,110,116],[110,117,109],[116,101,120,116],[98,111,111,108]]
def hasS (l : List (List UInt8)) (s : List UInt8) : Bool:= !(l.all fun w => !(w == s))
def freeW (s : List UInt8) : Bool:= isName s && !(hasS words s)
def defNames (v : TDef) : Bool:= (v.fCols.all fun c => freeW c.fName) && ((v.fIndexes.all fun x => freeW x.fName) && freeW v.fName)
def defTypes (v : TDef) : Bool:= (v.fCols.all fun c => inR c.fType 1 4) && inR v.fCols.length 1 6
def colF (name : List UInt8) (pre : List TCol) (c : TCol) : Option Int:= if c.fName = name then some (pre.length : Int) else none
def colAt (l : List TCol) (name : List UInt8) : Int:= (earlyL (colF name) [] l).getD (-1)
def onceC (pre : List TCol) (c : TCol) : Bool:= pre.all fun x => !(x.fName == c.fName)
def onceX (pre : List TIndex) (c : TIndex) : Bool:= pre.all fun x => !(x.fName == c.fName)
def defOnce (v : TDef) : Bool:= allP onceC [] v.fCols && allP onceX [] v.fIndexes
def partP (n : Int) (pre : List TBy) (p : TBy) : Bool:= inR p.fCol 0 n && (pre.all fun q => !(q.fCol == p.fCol))
def partsOK (v : TDef) (l : List TBy) : Bool:= allP (partP ((v.fCols.length : Int) - 1)) [] l && inR l.length 1 2
def defParts (v : TDef) : Bool:= (v.fIndexes.all fun x => partsOK v x.fParts) && partsOK v v.fPrimary
def colNull (v : TDef) (i : Int) : Bool:= match v.fCols[i.toNat]? with
  | some c => c.fNull
  | none => false
def primNull (v : TDef) : Bool:= v.fPrimary.all fun p => !(colNull v p.fCol)
def checkDef (v : TDef) : Int:=
  if defNames v = false then 1 else if defTypes v = false then 2 else if defOnce v = false then 3 else if (2 : Int) < v.fIndexes.length then 6 else if defParts v = false then 5 else if primNull v = false then 4 else 0
theorem early_col (name : List UInt8) : ∀ (l pre : List TCol),(∀ x ∈ pre,x.fName ≠ name) → ∀ k,earlyL (colF name) pre l = some k → ∃ p c r,pre ++ l = p ++ c :: r ∧ k = p.length ∧ c.fName = name ∧ ∀ x ∈ p,x.fName ≠ name
  | [],pre,hp,k,h => by cases h
  | c :: r,pre,hp,k,h => by
    simp only [earlyL,colF] at h
    by_cases hc : c.fName = name
    · rw [if_pos hc] at h
      simp only [Option.some.injEq] at h
      exact ⟨pre,c,r,rfl,h.symm,hc,hp⟩
    · rw [if_neg hc] at h
      obtain ⟨p,c',r',h1,h2⟩:= early_col name r (pre ++ [c]) (fun x hx => by
        rcases List.mem_append.1 hx with hx | hx
        · exact hp x hx
        · simp only [List.mem_singleton] at hx;subst hx;exact hc) k h
      exact ⟨p,c',r',by rw [← h1];simp,h2⟩
theorem early_skip (name : List UInt8) : ∀ (p pre l : List TCol),(∀ x ∈ p,x.fName ≠ name) → earlyL (colF name) pre (p ++ l) = earlyL (colF name) (pre ++ p) l
  | [],pre,l,_ => by simp
  | c :: p,pre,l,h => by
    have hc:= h c List.mem_cons_self
    simp only [List.cons_append,earlyL,colF,if_neg hc]
    rw [early_skip name p (pre ++ [c]) l fun x hx => h x (List.mem_cons_of_mem _ hx)]
    simp
theorem colAt_once {l pre rest : List TCol} {c : TCol} (hl : l = pre ++ c :: rest) : (colAt l c.fName == (pre.length : Int)) = onceC pre c:= by
  by_cases h : ∀ x ∈ pre,x.fName ≠ c.fName
  · have h1 : colAt l c.fName = pre.length:= by
      unfold colAt
      rw [hl,early_skip _ pre [] _ h]
      simp [earlyL,colF]
    have h2 : onceC pre c = true:= by
      unfold onceC
      rw [List.all_eq_true]
      intro x hx
      simp [h x hx]
    rw [h1,h2,beq_self_eq_true]
  · have h2 : onceC pre c = false:= by
      cases h3 : onceC pre c with
      | false => rfl
      | true =>
        unfold onceC at h3
        rw [List.all_eq_true] at h3
        exact absurd (fun x hx => by simpa using h3 x hx) h
    rw [h2]
    have h4 : colAt l c.fName ≠ pre.length:= by
      intro e
      unfold colAt at e
      cases he : earlyL (colF c.fName) [] l with
      | none => rw [he] at e;simp only [Option.getD_none] at e;omega
      | some k =>
        rw [he] at e
        simp only [Option.getD_some] at e
        obtain ⟨p,c',r,h5,h6,h7,h8⟩:= early_col c.fName l [] (fun x hx => by cases hx) k he
        have hlen : p.length = pre.length:= by omega
        rw [List.nil_append,hl] at h5
        have:= List.append_inj_left h5.symm hlen
        subst this
        exact h h8
    simpa using h4
theorem allP_congr {α : Type} {p q : List α → α → Bool} : ∀ (l pre : List α),(∀ pre' v rest,pre ++ l = pre' ++ v :: rest → p pre' v = q pre' v) → allP p pre l = allP q pre l
  | [],_,_ => rfl
  | v :: l,pre,h => by
    simp only [allP]
    rw [h pre v l rfl,allP_congr l (pre ++ [v]) fun pre' w rest he => h pre' w rest (by rw [← he];simp)]
theorem defLens {v : TDef} (h : tDef.cost v ≤ 1048576) : v.fName.length ≤ 1048576 ∧ v.fCols.length ≤ 1048576 ∧ v.fPrimary.length ≤ 1048576 ∧ v.fIndexes.length ≤ 1048576 ∧ (∀ c ∈ v.fCols,c.fName.length ≤ 1048576) ∧ ∀ x ∈ v.fIndexes,x.fName.length ≤ 1048576 ∧ x.fParts.length ≤ 1048576:= by
  have h0 : v.fName.length + (v.fCols.length + costL tCol v.fCols) + (v.fPrimary.length + costL tBy v.fPrimary) + (v.fIndexes.length + costL tIndex v.fIndexes) ≤ 1048576:= h
  refine ⟨by omega,by omega,by omega,by omega,fun c hc => ?_,fun x hx => ?_⟩
  · have h1:= costL_mem tCol hc
    have h2 : tCol.cost c = c.fName.length:= rfl
    omega
  · have h1:= costL_mem tIndex hx
    have h2 : tIndex.cost x = x.fName.length + (x.fParts.length + costL tBy x.fParts):= rfl
    constructor <;> omega
theorem defCols_len {v : TDef} (h : tDef.cost v ≤ 1048576) : IntKind.wrap .i64 ((v.fCols.length : Int) - 1) = (v.fCols.length : Int) - 1:= by
  have:= (defLens h).2.1
  exact wrapId (by omega) (by omega)
theorem partsOK_spec (v : TDef) (l : List TBy) : (allP (fun pre p => inR p.fCol 0 ((v.fCols.length : Int) - 1) && !(decide (0 < (pre.length : Int)) && ((l.head?.map (·.fCol)) == some p.fCol))) [] l && inR l.length 1 2) = partsOK v l:= by
  unfold partsOK
  by_cases h2 : l.length ≤ 2
  · congr 1
    refine allP_congr l [] fun pre p rest he => ?_
    rw [List.nil_append] at he
    unfold partP
    congr 1
    have hpl : pre.length ≤ 1:= by rw [he] at h2;simp at h2;omega
    match pre,hpl,he with
    | [],_,_ => simp
    | [q],_,he =>
      subst he
      simp
    | _ :: _ :: _,h,_ => simp at h
  · have : inR l.length 1 2 = false:= by
      unfold inR
      simp
      omega
    rw [this,Bool.and_false,Bool.and_false]
theorem parts_col {v : TDef} {l : List TBy} (h : partsOK v l = true) : ∀ p ∈ l,0 ≤ p.fCol ∧ p.fCol.toNat < v.fCols.length:= by
  unfold partsOK at h
  simp only [Bool.and_eq_true] at h
  have go : ∀ (l pre : List TBy),allP (partP ((v.fCols.length : Int) - 1)) pre l = true → ∀ p ∈ l,0 ≤ p.fCol ∧ p.fCol.toNat < v.fCols.length:= by
    intro l
    induction l with
    | nil => intro pre _ p hp;cases hp
    | cons x l ih =>
      intro pre hx p hp
      simp only [allP,Bool.and_eq_true] at hx
      rcases List.mem_cons.1 hp with rfl | hp
      · have:= hx.1
        unfold partP at this
        simp only [Bool.and_eq_true] at this
        have h1:= this.1
        unfold inR at h1
        simp at h1
        omega
      · exact ih _ hx.2 p hp
  exact go l [] h.1
theorem def_good {v : TDef} (h : checkDef v = 0) : defNames v = true ∧ defTypes v = true ∧ defOnce v = true ∧ v.fIndexes.length ≤ 2 ∧ defParts v = true ∧ primNull v = true:= by
  unfold checkDef at h
  cases h1 : defNames v <;> simp [h1] at h
  cases h2 : defTypes v <;> simp [h2] at h
  cases h3 : defOnce v <;> simp [h3] at h
  by_cases h4 : (2 : Int) < v.fIndexes.length
  · simp [h4] at h
  cases h5 : defParts v <;> simp [h4,h5] at h
  cases h6 : primNull v <;> simp [h6] at h
  exact ⟨rfl,rfl,rfl,by omega,rfl,rfl⟩
def firstF (pre : List TDef) (d : TDef) : Option Int:= if checkDef d ≠ 0 ∨ (2 : Int) < pre.length ∨ (pre.all fun y => !(y.fName == d.fName)) = false then some (pre.length : Int) else none
def firstBad (s : List TDef) : Int:= (earlyL firstF [] s).getD (-1)
theorem firstF_none {pre : List TDef} {d : TDef} (h : firstF pre d = none) : checkDef d = 0 ∧ ¬ (2 : Int) < pre.length ∧ (pre.all fun y => !(y.fName == d.fName)) = true:= by
  unfold firstF at h
  split at h
  · cases h
  · rename_i hn
    refine ⟨?_,fun e => hn (.inr (.inl e)),?_⟩
    · by_cases hc : checkDef d = 0
      · exact hc
      · exact absurd (.inl hc) hn
    · cases hq : pre.all fun y => !(y.fName == d.fName) with
      | true => rfl
      | false => exact absurd (.inr (.inr hq)) hn
theorem firstF_some {pre : List TDef} {d : TDef} {b : Int} (h : firstF pre d = some b) : b = pre.length ∧ ((checkDef d != 0) = false → ¬ (2 : Int) < pre.length → (pre.all fun y => !(y.fName == d.fName)) = false):= by
  unfold firstF at h
  split at h
  · rename_i hc
    simp only [Option.some.injEq] at h
    refine ⟨h.symm,fun h1 h2 => ?_⟩
    have h1' : checkDef d = 0:= by simpa using h1
    rcases hc with hc | hc | hc
    · exact absurd h1' hc
    · exact absurd hc h2
    · exact hc
  · cases h
theorem defsLens {s : List TDef} (h : (sliceT tDef).cost s ≤ 1048576) : s.length ≤ 1048576 ∧ ∀ d ∈ s,tDef.cost d ≤ 1048576:= by
  have h0 : s.length + costL tDef s ≤ 1048576:= h
  exact ⟨by omega,fun d hd => by have:= costL_mem tDef hd;omega⟩
theorem early_good : ∀ (l pre : List TDef),earlyL firstF pre l = none → ∀ d ∈ l,checkDef d = 0
  | [],_,_,d,hd => by cases hd
  | x :: l,pre,h,d,hd => by
    simp only [earlyL] at h
    cases hf : firstF pre x with
    | some b => rw [hf] at h;cases h
    | none =>
      rw [hf] at h
      rcases List.mem_cons.1 hd with rfl | hd
      · exact (firstF_none hf).1
      · exact early_good l _ h d hd
theorem early_nonneg : ∀ (l pre : List TDef) (b : Int),earlyL firstF pre l = some b → 0 ≤ b
  | [],_,b,h => by cases h
  | x :: l,pre,b,h => by
    simp only [earlyL] at h
    cases hf : firstF pre x with
    | some c => rw [hf] at h;simp only [Option.some.injEq] at h;subst h;have:= (firstF_some hf).1;omega
    | none => rw [hf] at h;exact early_nonneg l _ b h
theorem firstBad_good {s : List TDef} (h : firstBad s = -1) : ∀ d ∈ s,checkDef d = 0:= by
  unfold firstBad at h
  cases he : earlyL firstF [] s with
  | none => exact early_good s [] he
  | some b =>
    rw [he] at h
    simp only [Option.getD_some] at h
    have:= early_nonneg s [] b he
    omega
def wsB (c : UInt8) : Bool:= c == 32 || c == 9 || c == 10 || c == 13
def alB (c : UInt8) : Bool:= smallB c || digitB c
def tokOk (t : TToken) : Bool:= if t.fK = 1 then isName t.fS else if t.fK = 2 then (t.fS == [123] || (t.fS == [125] || (t.fS == [44] || t.fS == [59]))) else false
def lexT (c : UInt8) (r : List UInt8) : TToken:= if smallB c then ⟨1,c :: r.takeWhile alB⟩ else ⟨2,[c]⟩
def lexR (c : UInt8) (r : List UInt8) : List UInt8:= if smallB c then r.dropWhile alB else r
def lexF : Nat → List TToken → Int → List UInt8 → List TToken × Int
  | _,out,_,[] => (out,-1)
  | 0,out,_,_ => (out,-1)
  | m + 1,out,i,c :: r => if wsB c then lexF m out (i + 1) r else
      if tokOk (lexT c r) && decide (out.length < 500) then lexF m (out ++ [lexT c r]) (i + ((lexT c r).fS.length : Int)) (lexR c r) else ([],i)
def lexP (s : List UInt8) : List TToken × Int:= lexF s.length [] 0 s
theorem lexF_ok : ∀ (m : Nat) (out : List TToken) (i : Int) (r : List UInt8),(∀ t ∈ out,tokOk t = true) → out.length ≤ 500 → (∀ t ∈ (lexF m out i r).1,tokOk t = true) ∧ (lexF m out i r).1.length ≤ 500
  | 0,out,i,[],h,hl => by simp only [lexF];exact ⟨h,hl⟩
  | 0,out,i,_ :: _,h,hl => by simp only [lexF];exact ⟨h,hl⟩
  | m + 1,out,i,[],h,hl => by simp only [lexF];exact ⟨h,hl⟩
  | m + 1,out,i,c :: r,h,hl => by
    simp only [lexF]
    split
    · exact lexF_ok m out _ r h hl
    · split
      · rename_i hc
        simp only [Bool.and_eq_true,decide_eq_true_eq] at hc
        refine lexF_ok m _ _ _ (fun t ht => ?_) (by simp only [List.length_append,List.length_cons,List.length_nil];omega)
        rcases List.mem_append.1 ht with ht | ht
        · exact h t ht
        · simp only [List.mem_singleton] at ht
          subst ht
          exact hc.1
      · exact ⟨fun t ht => (by cases ht),by simp⟩
theorem lexP_ok (s : List UInt8) : (∀ t ∈ (lexP s).1,tokOk t = true) ∧ (lexP s).1.length ≤ 500:= lexF_ok _ _ _ _ (fun t ht => by cases ht) (by simp)
structure St where
  at_ : Nat
  bad : Bool
def wTable : List UInt8:= [116,97,98,108,101]
def wPrimary : List UInt8:= [112,114,105,109,97,114,121]
def wUnique : List UInt8:= [117,110,105,113,117,101]
def wIndex : List UInt8:= [105,110,100,101,120]
def wNull : List UInt8:= [110,117,108,108]
def wDesc : List UInt8:= [100,101,115,99]
def wInt : List UInt8:= [105,110,116]
def wNum : List UInt8:= [110,117,109]
def wText : List UInt8:= [116,101,120,116]
def wBool : List UInt8:= [98,111,111,108]
def St.adv (s : St) : St:= ⟨s.at_ + 1,s.bad⟩
def St.fall (s : St) : St:= ⟨s.at_,true⟩
section
variable (l : List TToken)
def tokAt (s : St) : Option TToken:= if s.bad then none else l[s.at_]?
def isT (s : St) (w : List UInt8) : Bool:= match tokAt l s with
  | some t => t.fS == w
  | none => false
def isS (s : St) (w : List UInt8) : St:= if isT l s w then s.adv else s
def mustT (s : St) (w : List UInt8) : St:= if isT l s w then s.adv else s.fall
def nmV (s : St) : List UInt8:= match tokAt l s with
  | some t => if t.fK = 1 then t.fS else []
  | none => []
def nmS (s : St) : St:= match tokAt l s with
  | some t => if t.fK = 1 then s.adv else s.fall
  | none => s.fall
def tyV (s : St) : Int:= if isT l s wInt then 1 else if isT l s wNum then 2 else if isT l s wText then 3 else if isT l s wBool then 4 else 0
def tyS (s : St) : St:= if isT l s wInt then s.adv else if isT l s wNum then s.adv else if isT l s wText then s.adv else if isT l s wBool then s.adv else s
def tyN (w : List UInt8) : Int:= if w = wInt then 1 else if w = wNum then 2 else if w = wText then 3 else if w = wBool then 4 else 0
def tyI (s : St) : Int:= tyN (nmV l s)
def tyIS (s : St) : St:= if tyI l s = 0 then (nmS l s).fall else nmS l s
def colTail (n : List UInt8) (t : Int) (s : St) : TCol × St:= (⟨n,t,isT l s wNull⟩,mustT l (isS l s wNull) [59])
def colS (s : St) : TCol × St:= colTail l (nmV l s) (tyV l (nmS l s)) (tyS l (nmS l s))
def colI (s : St) : TCol × St:= colTail l (nmV l s) (tyI l (nmS l s)) (tyIS l (nmS l s))
def partsF (c : List UInt8 → Int) : Nat → List TBy → St → List TBy × St
  | 0,acc,s => (acc,s)
  | m + 1,acc,s => if s.bad then (acc,s) else
      let s2:= isS l (nmS l s) wDesc
      let acc':= acc ++ [⟨c (nmV l s),isT l (nmS l s) wDesc⟩]
      if isT l s2 [59] then (acc',s2.adv) else if isT l s2 [44] then partsF c m acc' s2.adv else (acc',s2.fall)
def ixF (c : List UInt8 → Int) (k : Nat) : Nat → List TIndex → St → List TIndex × St
  | 0,acc,s => (acc,s)
  | m + 1,acc,s => if s.bad then (acc,s) else if isT l s [125] then (acc,s.adv) else
      let u:= isT l s wUnique
      let s2:= if u then s.adv else mustT l s wIndex
      let p:= partsF l c k [] (nmS l s2)
      ixF c k m (acc ++ [⟨nmV l s2,u,p.1⟩]) p.2
def colsF (col : St → TCol × St) : Nat → List TCol → St → List TCol × St
  | 0,acc,s => (acc,s)
  | m + 1,acc,s => if s.bad then (acc,s) else if isT l s wPrimary then (acc,s.adv) else colsF col m (acc ++ [(col s).1]) (col s).2
def defF (col : St → TCol × St) (c : List TCol → List UInt8 → Int) (k : Nat) (s : St) : TDef × St:=
  let s2:= nmS l (mustT l s wTable)
  let n:= nmV l (mustT l s wTable)
  let cs:= colsF l col k [] (mustT l s2 [123])
  let p:= partsF l (c cs.1) k [] cs.2
  let x:= ixF l (c cs.1) k k [] p.2
  (⟨n,cs.1,p.1,x.1⟩,x.2)
def defsF (col : St → TCol × St) (c : List TCol → List UInt8 → Int) (k : Nat) : Nat → List TDef → St → List TDef × St
  | 0,acc,s => (acc,s)
  | m + 1,acc,s => if s.bad then (acc,s) else if s.at_ < l.length then defsF col c k m (acc ++ [(defF l col c k s).1]) (defF l col c k s).2 else (acc,s)
end
def lastF (n : List UInt8) : Nat → Int → List TCol → Int
  | _,cur,[] => cur
  | k,cur,c :: r => lastF n (k + 1) (if c.fName = n then (k : Int) else cur) r
def colLast (l : List TCol) (n : List UInt8) : Int:= lastF n 0 (-1) l
def parsedS (l : List TToken) : List TDef × St:= defsF l (colS l) colAt (l.length + 2) (l.length + 2) [] ⟨0,false⟩
def parsedI (l : List TToken) : List TDef × St:= defsF l (colI l) colLast (l.length + 2) (l.length + 2) [] ⟨0,false⟩
def parseOut (p : List TDef × St) : List TDef × Bool:= if p.2.bad = true ∨ firstBad p.1 ≠ -1 then ([],false) else (p.1,true)
def parseDefs (s : List UInt8) : List TDef × Bool:= if (lexP s).2 ≠ -1 then ([],false) else parseOut (parsedS (lexP s).1)
section
variable {l : List TToken}
theorem isT_bad {s : St} (h : s.bad = true) (w : List UInt8) : isT l s w = false:= by simp [isT,tokAt,h]
theorem mustT_bad {s : St} (h : s.bad = true) (w : List UInt8) : mustT l s w = s.fall:= by simp [mustT,isT_bad h]
theorem isS_bad {s : St} (h : s.bad = true) (w : List UInt8) : isS l s w = s:= by simp [isS,isT_bad h]
theorem fall_of {s : St} (h : s.bad = true) : s.fall = s:= by cases s;simp only [St.fall];simp only at h;rw [h]
theorem nmS_bad {s : St} (h : s.bad = true) : nmS l s = s:= by simp only [nmS,tokAt,h,if_true];exact fall_of h
theorem mustB {s : St} (h : s.bad = true) (w : List UInt8) : (mustT l s w).bad = true:= by rw [mustT_bad h];rfl
theorem isB {s : St} (h : s.bad = true) (w : List UInt8) : (isS l s w).bad = true:= by rw [isS_bad h];exact h
theorem tailB {s : St} (h : s.bad = true) (n : List UInt8) (t : Int) : (colTail l n t s).2.bad = true:= mustB (isB h _) _
theorem partsB (c : List UInt8 → Int) : ∀ (m : Nat) (acc : List TBy) (s : St),s.bad = true → partsF l c m acc s = (acc,s)
  | 0,_,_,_ => rfl
  | m + 1,acc,s,h => by simp only [partsF,h,if_true]
theorem ixB (c : List UInt8 → Int) (k : Nat) : ∀ (m : Nat) (acc : List TIndex) (s : St),s.bad = true → ixF l c k m acc s = (acc,s)
  | 0,_,_,_ => rfl
  | m + 1,acc,s,h => by simp only [ixF,h,if_true]
theorem colsB (col : St → TCol × St) : ∀ (m : Nat) (acc : List TCol) (s : St),s.bad = true → colsF l col m acc s = (acc,s)
  | 0,_,_,_ => rfl
  | m + 1,acc,s,h => by simp only [colsF,h,if_true]
theorem defsB (col : St → TCol × St) (c : List TCol → List UInt8 → Int) (k : Nat) : ∀ (m : Nat) (acc : List TDef) (s : St),s.bad = true → defsF l col c k m acc s = (acc,s)
  | 0,_,_,_ => rfl
  | m + 1,acc,s,h => by simp only [defsF,h,if_true]
theorem tok_name {t : TToken} (h : tokOk t = true) (hk : ¬ t.fK = 1) : t.fS ≠ wInt ∧ t.fS ≠ wNum ∧ t.fS ≠ wText ∧ t.fS ≠ wBool:= by
  unfold tokOk at h
  rw [if_neg hk] at h
  split at h
  · simp only [Bool.or_eq_true,beq_iff_eq] at h
    rcases h with h | h | h | h <;> rw [h] <;> decide
  · cases h
theorem colI_colS (hl : ∀ t ∈ l,tokOk t = true) (s : St) : colI l s = colS l s ∨ ((colI l s).2.bad = true ∧ (colS l s).1.fType = 0):= by
  unfold colI colS
  generalize nmS l s = s1
  generalize nmV l s = n
  by_cases h0 : tyI l s1 = 0
  · right
    have hI : tyIS l s1 = (nmS l s1).fall:= by unfold tyIS;rw [if_pos h0]
    refine ⟨by rw [hI];exact tailB rfl _ _,?_⟩
    show tyV l s1 = 0
    unfold tyV isT
    cases ht : tokAt l s1 with
    | none => simp
    | some t =>
      have hm : t ∈ l:= by
        unfold tokAt at ht
        split at ht
        · cases ht
        · exact List.mem_of_getElem? ht
      by_cases hk : t.fK = 1
      · have hn : nmV l s1 = t.fS:= by simp [nmV,ht,hk]
        unfold tyI at h0
        rw [hn] at h0
        unfold tyN at h0
        by_cases a1 : t.fS = wInt
        · rw [if_pos a1] at h0;cases h0
        rw [if_neg a1] at h0
        by_cases a2 : t.fS = wNum
        · rw [if_pos a2] at h0;cases h0
        rw [if_neg a2] at h0
        by_cases a3 : t.fS = wText
        · rw [if_pos a3] at h0;cases h0
        rw [if_neg a3] at h0
        by_cases a4 : t.fS = wBool
        · rw [if_pos a4] at h0;cases h0
        simp [a1,a2,a3,a4]
      · obtain ⟨a1,a2,a3,a4⟩:= tok_name (hl t hm) hk
        simp [a1,a2,a3,a4]
  · left
    have key : tyI l s1 = tyV l s1 ∧ tyIS l s1 = tyS l s1:= by
      cases ht : tokAt l s1 with
      | none =>
        have hn : nmV l s1 = []:= by simp [nmV,ht]
        unfold tyI at h0
        rw [hn] at h0
        exact absurd (by decide) h0
      | some t =>
        by_cases hk : t.fK = 1
        · have hn : nmV l s1 = t.fS:= by simp [nmV,ht,hk]
          have hs : nmS l s1 = s1.adv:= by simp [nmS,ht,hk]
          have e : tyI l s1 = tyN t.fS:= by unfold tyI;rw [hn]
          have e2 : tyIS l s1 = s1.adv:= by unfold tyIS;rw [if_neg h0,hs]
          have e3 : ∀ w,isT l s1 w = (t.fS == w):= fun w => by simp [isT,ht]
          rw [e] at h0
          rw [e,e2]
          unfold tyV tyS
          rw [e3,e3,e3,e3]
          unfold tyN at h0 ⊢
          by_cases a1 : t.fS = wInt
          · simp [a1]
          by_cases a2 : t.fS = wNum
          · rw [if_neg a1,if_pos a2,a2];exact ⟨rfl,rfl⟩
          by_cases a3 : t.fS = wText
          · simp [a3]
          by_cases a4 : t.fS = wBool
          · simp [a4]
          rw [if_neg a1,if_neg a2,if_neg a3,if_neg a4] at h0
          exact absurd rfl h0
        · have hn : nmV l s1 = []:= by simp [nmV,ht,hk]
          unfold tyI at h0
          rw [hn] at h0
          exact absurd (by decide) h0
    rw [key.1,key.2]
theorem colsF_mem (col : St → TCol × St) : ∀ (m : Nat) (acc : List TCol) (s : St),∀ c ∈ acc,c ∈ (colsF l col m acc s).1
  | 0,_,_,_,h => h
  | m + 1,acc,s,c,h => by
    simp only [colsF]
    split
    · exact h
    · split
      · exact h
      · exact colsF_mem col m _ _ c (List.mem_append.2 (.inl h))
theorem colsF_two (hl : ∀ t ∈ l,tokOk t = true) : ∀ (m : Nat) (acc : List TCol) (s : St),colsF l (colI l) m acc s = colsF l (colS l) m acc s ∨ ((colsF l (colI l) m acc s).2.bad = true ∧ ∃ c ∈ (colsF l (colS l) m acc s).1,c.fType = 0)
  | 0,_,_ => .inl rfl
  | m + 1,acc,s => by
    simp only [colsF]
    split
    · exact .inl rfl
    · split
      · exact .inl rfl
      · rcases colI_colS hl s with h | ⟨h1,h2⟩
        · rw [h]
          exact colsF_two hl m _ _
        · right
          rw [colsB _ _ _ _ h1]
          exact ⟨h1,(colS l s).1,colsF_mem _ m _ _ _ (List.mem_append.2 (.inr List.mem_cons_self)),h2⟩
theorem type0_bad {d : TDef} {c : TCol} (hc : c ∈ d.fCols) (h : c.fType = 0) : checkDef d ≠ 0:= by
  intro h0
  have h1:= (def_good h0).2.1
  unfold defTypes at h1
  simp only [Bool.and_eq_true,List.all_eq_true] at h1
  have h2:= h1.1 c hc
  rw [h] at h2
  exact absurd h2 (by decide)
theorem defF_two (hl : ∀ t ∈ l,tokOk t = true) (c : List TCol → List UInt8 → Int) (k : Nat) (s : St) : defF l (colI l) c k s = defF l (colS l) c k s ∨ ((defF l (colI l) c k s).2.bad = true ∧ checkDef (defF l (colS l) c k s).1 ≠ 0):= by
  simp only [defF]
  rcases colsF_two hl k [] (mustT l (nmS l (mustT l s wTable)) [123]) with h | ⟨h1,x,h2,h3⟩
  · left;rw [h]
  · right
    rw [partsB _ _ _ _ h1]
    simp only
    rw [ixB _ _ _ _ _ h1]
    exact ⟨h1,type0_bad (c:= x) h2 h3⟩
theorem defsF_mem (col : St → TCol × St) (c : List TCol → List UInt8 → Int) (k : Nat) : ∀ (m : Nat) (acc : List TDef) (s : St),∀ d ∈ acc,d ∈ (defsF l col c k m acc s).1
  | 0,_,_,_,h => h
  | m + 1,acc,s,d,h => by
    simp only [defsF]
    split
    · exact h
    · split
      · exact defsF_mem col c k m _ _ d (List.mem_append.2 (.inl h))
      · exact h
theorem defsF_two (hl : ∀ t ∈ l,tokOk t = true) (c : List TCol → List UInt8 → Int) (k : Nat) : ∀ (m : Nat) (acc : List TDef) (s : St),defsF l (colI l) c k m acc s = defsF l (colS l) c k m acc s ∨ ((defsF l (colI l) c k m acc s).2.bad = true ∧ ∃ d ∈ (defsF l (colS l) c k m acc s).1,checkDef d ≠ 0)
  | 0,_,_ => .inl rfl
  | m + 1,acc,s => by
    simp only [defsF]
    split
    · exact .inl rfl
    · split
      · rcases defF_two hl c k s with h | ⟨h1,h2⟩
        · rw [h]
          exact defsF_two hl c k m _ _
        · right
          rw [defsB _ _ _ _ _ _ h1]
          exact ⟨h1,_,defsF_mem _ _ _ m _ _ _ (List.mem_append.2 (.inr List.mem_cons_self)),h2⟩
      · exact .inl rfl
theorem partsF_st (c c' : List UInt8 → Int) : ∀ (m : Nat) (acc acc' : List TBy) (s : St),(partsF l c m acc s).2 = (partsF l c' m acc' s).2
  | 0,_,_,_ => rfl
  | m + 1,acc,acc',s => by
    simp only [partsF]
    split
    · rfl
    · split
      · rfl
      · split
        · exact partsF_st c c' m _ _ _
        · rfl
theorem ixF_st (c c' : List UInt8 → Int) (k : Nat) : ∀ (m : Nat) (acc acc' : List TIndex) (s : St),(ixF l c k m acc s).2 = (ixF l c' k m acc' s).2
  | 0,_,_,_ => rfl
  | m + 1,acc,acc',s => by
    simp only [ixF]
    split
    · rfl
    · split
      · rfl
      · rw [partsF_st c c' k [] []]
        exact ixF_st c c' k m _ _ _
theorem lastF_none (n : List UInt8) : ∀ (r : List TCol) (k : Nat) (cur : Int),(∀ c ∈ r,c.fName ≠ n) → lastF n k cur r = cur
  | [],_,_,_ => rfl
  | c :: r,k,cur,h => by
    simp only [lastF]
    rw [if_neg (h c List.mem_cons_self)]
    exact lastF_none n r _ _ fun x hx => h x (List.mem_cons_of_mem _ hx)
theorem once_later : ∀ (r pre : List TCol),allP onceC pre r = true → ∀ c ∈ r,∀ x ∈ pre,x.fName ≠ c.fName
  | v :: r,pre,h,c,hc,x,hx => by
    simp only [allP,Bool.and_eq_true] at h
    rcases List.mem_cons.1 hc with rfl | hc
    · have h1:= h.1
      unfold onceC at h1
      rw [List.all_eq_true] at h1
      simpa using h1 x hx
    · exact once_later r _ h.2 c hc x (List.mem_append.2 (.inl hx))
theorem lastF_once (n : List UInt8) : ∀ (r pre : List TCol),allP onceC pre r = true → lastF n pre.length (-1) r = (earlyL (colF n) pre r).getD (-1)
  | [],_,_ => rfl
  | c :: r,pre,h => by
    have h0:= h
    simp only [allP,Bool.and_eq_true] at h
    simp only [lastF,earlyL,colF]
    by_cases hc : c.fName = n
    · rw [if_pos hc,if_pos hc]
      simp only [Option.getD_some]
      exact lastF_none n r _ _ fun x hx e => once_later r _ h.2 x hx c (List.mem_append.2 (.inr List.mem_cons_self)) (by rw [hc,e])
    · rw [if_neg hc,if_neg hc]
      simp only
      have:= lastF_once n r (pre ++ [c]) h.2
      rw [List.length_append] at this
      exact this
theorem colLast_once {cs : List TCol} (h : allP onceC [] cs = true) : colLast cs = colAt cs:= by
  funext n
  exact lastF_once n cs [] h
def bothBad (d e : TDef) : Prop:= d = e ∨ (checkDef d ≠ 0 ∧ checkDef e ≠ 0)
inductive AllB : List TDef → List TDef → Prop
  | nil : AllB [] []
  | cons {d e : TDef} {a b : List TDef} : bothBad d e → AllB a b → AllB (d :: a) (e :: b)
theorem AllB.append {a b c d : List TDef} (h : AllB a b) (k : AllB c d) : AllB (a ++ c) (b ++ d):= by
  induction h with
  | nil => exact k
  | cons h _ ih => exact .cons h ih
theorem once_bad {d : TDef} (h : allP onceC [] d.fCols = false) : checkDef d ≠ 0:= by
  intro h0
  have h1:= (def_good h0).2.2.1
  unfold defOnce at h1
  rw [h] at h1
  cases h1
theorem defF_last (col : St → TCol × St) (k : Nat) (s : St) : (defF l col colLast k s).2 = (defF l col colAt k s).2 ∧ bothBad (defF l col colLast k s).1 (defF l col colAt k s).1:= by
  simp only [defF]
  generalize colsF l col k [] (mustT l (nmS l (mustT l s wTable)) [123]) = cs
  refine ⟨?_,?_⟩
  · rw [partsF_st (colLast cs.1) (colAt cs.1) k [] []]
    exact ixF_st _ _ k k [] [] _
  · cases ho : allP onceC [] cs.1 with
    | true => left;rw [colLast_once ho]
    | false => right;exact ⟨once_bad ho,once_bad ho⟩
theorem defsF_last (col : St → TCol × St) (k : Nat) : ∀ (m : Nat) (acc acc' : List TDef) (s : St),AllB acc acc' → (defsF l col colLast k m acc s).2 = (defsF l col colAt k m acc' s).2 ∧ AllB (defsF l col colLast k m acc s).1 (defsF l col colAt k m acc' s).1
  | 0,_,_,_,h => ⟨rfl,h⟩
  | m + 1,acc,acc',s,h => by
    simp only [defsF]
    split
    · exact ⟨rfl,h⟩
    · split
      · obtain ⟨h1,h2⟩:= defF_last (l:= l) col k s
        rw [h1]
        exact defsF_last col k m _ _ _ (h.append (.cons h2 .nil))
      · exact ⟨rfl,h⟩
end
theorem both_eq : ∀ {a b : List TDef},AllB a b → (∀ d ∈ a,checkDef d = 0) → a = b
  | _,_,.nil,_ => rfl
  | _,_,.cons h t,hz => by
    rcases h with h | h
    · rw [h,both_eq t fun d hd => hz d (List.mem_cons_of_mem _ hd)]
    · exact absurd (hz _ List.mem_cons_self) h.1
theorem both_symm {a b : List TDef} (h : AllB a b) : AllB b a:= by
  induction h with
  | nil => exact .nil
  | cons h _ ih => exact .cons (h.elim (fun e => .inl e.symm) fun e => .inr ⟨e.2,e.1⟩) ih
theorem parse_last (l : List TToken) (col : St → TCol × St) (k m : Nat) (s : St) : parseOut (defsF l col colLast k m [] s) = parseOut (defsF l col colAt k m [] s):= by
  obtain ⟨h1,h2⟩:= defsF_last (l:= l) col k m [] [] s .nil
  generalize defsF l col colLast k m [] s = a at *
  generalize defsF l col colAt k m [] s = b at *
  obtain ⟨a1,a2⟩:= a
  obtain ⟨b1,b2⟩:= b
  simp only at h1 h2
  subst h1
  unfold parseOut
  simp only
  by_cases ha : firstBad a1 = -1
  · rw [both_eq h2 (firstBad_good ha)]
  · by_cases hb : firstBad b1 = -1
    · rw [both_eq (both_symm h2) (firstBad_good hb)]
    · rw [if_pos (.inr ha),if_pos (.inr hb)]
theorem parse_two {l : List TToken} (hl : ∀ t ∈ l,tokOk t = true) : parseOut (parsedI l) = parseOut (parsedS l):= by
  unfold parsedI parsedS
  rw [parse_last]
  rcases defsF_two hl colAt (l.length + 2) (l.length + 2) [] ⟨0,false⟩ with h | ⟨h1,d,h2,h3⟩
  · rw [h]
  · unfold parseOut
    rw [if_pos (.inl h1),if_pos (.inr fun e => h3 (firstBad_good e d h2))]
section
variable {l : List TToken}
theorem tok_lt {s : St} {t : TToken} (h : tokAt l s = some t) : s.at_ < l.length ∧ s.bad = false ∧ t ∈ l:= by
  unfold tokAt at h
  cases hb : s.bad with
  | true => rw [hb] at h;cases h
  | false =>
    rw [hb] at h
    simp only [Bool.false_eq_true,if_false] at h
    have:= List.mem_of_getElem? h
    rw [List.getElem?_eq_some_iff] at h
    exact ⟨h.1,rfl,this⟩
theorem isT_lt {s : St} {w : List UInt8} (h : isT l s w = true) : s.at_ < l.length ∧ s.bad = false:= by
  unfold isT at h
  cases ht : tokAt l s with
  | none => rw [ht] at h;cases h
  | some t => exact ⟨(tok_lt ht).1,(tok_lt ht).2.1⟩
structure Stp (l : List TToken) (s s' : St) : Prop where
  le : s.at_ ≤ s'.at_
  inn : s.at_ ≤ l.length → s'.at_ ≤ l.length
  bad : s.bad = true → s'.bad = true
theorem Stp.refl (s : St) : Stp l s s:= ⟨Nat.le_refl _,fun h => h,fun h => h⟩
theorem Stp.trans {a b c : St} (h : Stp l a b) (k : Stp l b c) : Stp l a c:= ⟨Nat.le_trans h.le k.le,fun x => k.inn (h.inn x),fun x => k.bad (h.bad x)⟩
theorem Stp.good {a b : St} (h : Stp l a b) (hb : b.bad = false) : a.bad = false:= by cases ha : a.bad with
  | false => rfl
  | true => rw [h.bad ha] at hb;cases hb
theorem stp_adv {s : St} (h : s.at_ < l.length) : Stp l s s.adv:= ⟨Nat.le_succ _,fun _ => h,fun h => h⟩
theorem stp_fall (s : St) : Stp l s s.fall:= ⟨Nat.le_refl _,fun h => h,fun _ => rfl⟩
theorem stp_is (s : St) (w : List UInt8) : Stp l s (isS l s w):= by
  unfold isS
  split
  · rename_i h;exact stp_adv (isT_lt h).1
  · exact .refl s
theorem stp_must (s : St) (w : List UInt8) : Stp l s (mustT l s w):= by
  unfold mustT
  split
  · rename_i h;exact stp_adv (isT_lt h).1
  · exact stp_fall s
theorem must_good {s : St} {w : List UInt8} (h : (mustT l s w).bad = false) : (mustT l s w).at_ = s.at_ + 1 ∧ s.bad = false:= by
  unfold mustT at h ⊢
  split
  · rename_i h1;rw [if_pos h1] at h;exact ⟨rfl,h⟩
  · rename_i h1;rw [if_neg h1] at h;cases h
theorem stp_nm (s : St) : Stp l s (nmS l s):= by
  unfold nmS
  split
  · rename_i t h
    split
    · exact stp_adv (tok_lt h).1
    · exact stp_fall s
  · exact stp_fall s
theorem nm_good {s : St} (h : (nmS l s).bad = false) : (nmS l s).at_ = s.at_ + 1:= by
  unfold nmS at h ⊢
  split
  · rename_i t ht
    rw [ht] at h
    simp only at h
    split
    · rfl
    · rename_i hk;rw [if_neg hk] at h;cases h
  · rename_i ht;rw [ht] at h;cases h
theorem name_len {w : List UInt8} (h : isName w = true) : w.length ≤ 8:= by
  unfold isName at h
  simp only [Bool.and_eq_true] at h
  have:= h.2
  unfold inR at this
  simp at this
  omega
theorem nm_len (hl : ∀ t ∈ l,tokOk t = true) (s : St) : (nmV l s).length ≤ 8:= by
  unfold nmV
  split
  · rename_i t ht
    split
    · rename_i hk
      have:= hl t (tok_lt ht).2.2
      unfold tokOk at this
      rw [if_pos hk] at this
      exact name_len this
    · exact Nat.zero_le _
  · exact Nat.zero_le _
theorem stp_ty (s : St) : Stp l s (tyS l s):= by
  unfold tyS
  split
  · rename_i h;exact stp_adv (isT_lt h).1
  · split
    · rename_i h;exact stp_adv (isT_lt h).1
    · split
      · rename_i h;exact stp_adv (isT_lt h).1
      · split
        · rename_i h;exact stp_adv (isT_lt h).1
        · exact .refl s
theorem stp_tyI (s : St) : Stp l s (tyIS l s):= by
  unfold tyIS
  split
  · exact (stp_nm s).trans (stp_fall _)
  · exact stp_nm s
theorem stp_tail (n : List UInt8) (t : Int) (s : St) : Stp l s (colTail l n t s).2:= (stp_is s _).trans (stp_must _ _)
structure ColR (l : List TToken) (col : St → TCol × St) : Prop where
  stp : ∀ s,Stp l s (col s).2
  go : ∀ s,(col s).2.bad = false → s.at_ + 1 ≤ (col s).2.at_
  len : ∀ s,(col s).1.fName.length ≤ 8
theorem colR_S (hl : ∀ t ∈ l,tokOk t = true) : ColR l (colS l):=
  ⟨fun s => ((stp_nm s).trans (stp_ty _)).trans (stp_tail _ _ _),fun s h => by
    have h1:= ((stp_ty (l:= l) (nmS l s)).trans (stp_tail (l:= l) (nmV l s) (tyV l (nmS l s)) _)).good h
    have h2:= nm_good h1
    have h3:= ((stp_ty (l:= l) (nmS l s)).trans (stp_tail (l:= l) (nmV l s) (tyV l (nmS l s)) _)).le
    unfold colS
    omega,fun s => nm_len hl s⟩
theorem colR_I (hl : ∀ t ∈ l,tokOk t = true) : ColR l (colI l):=
  ⟨fun s => ((stp_nm s).trans (stp_tyI _)).trans (stp_tail _ _ _),fun s h => by
    have h1:= ((stp_tyI (l:= l) (nmS l s)).trans (stp_tail (l:= l) (nmV l s) (tyI l (nmS l s)) _)).good h
    have h2:= nm_good h1
    have h3:= ((stp_tyI (l:= l) (nmS l s)).trans (stp_tail (l:= l) (nmV l s) (tyI l (nmS l s)) _)).le
    unfold colI
    omega,fun s => nm_len hl s⟩
theorem costL_snoc {α : Type} (T : TD α) : ∀ (a : List α) (x : α),costL T (a ++ [x]) = costL T a + (1 + T.cost x - 1)
  | [],x => by simp [costL]
  | y :: a,x => by simp only [List.cons_append,costL];rw [costL_snoc T a x];omega
theorem stp_parts (c : List UInt8 → Int) : ∀ (m : Nat) (acc : List TBy) (s : St),Stp l s (partsF l c m acc s).2 ∧ (partsF l c m acc s).1.length ≤ acc.length + m ∧ ((partsF l c m acc s).2.bad = false → (partsF l c m acc s).1.length + s.at_ ≤ acc.length + (partsF l c m acc s).2.at_)
  | 0,acc,s => ⟨.refl s,Nat.le_refl _,fun _ => Nat.le_refl _⟩
  | m + 1,acc,s => by
    simp only [partsF]
    have h1:= (stp_nm (l:= l) s).trans (stp_is _ wDesc)
    split
    · exact ⟨.refl s,by simp only [];omega,fun _ => Nat.le_refl _⟩
    · split
      · rename_i h
        have hb:= (isT_lt h).2
        have hn:= nm_good ((stp_is _ wDesc).good hb)
        have hle:= (stp_is (l:= l) (nmS l s) wDesc).le
        refine ⟨h1.trans (stp_adv (isT_lt h).1),by simp only [List.length_append,List.length_cons,List.length_nil];omega,fun _ => ?_⟩
        simp only [List.length_append,List.length_cons,List.length_nil,St.adv]
        omega
      · split
        · rename_i h
          have hb:= (isT_lt h).2
          have hn:= nm_good ((stp_is _ wDesc).good hb)
          have hle:= (stp_is (l:= l) (nmS l s) wDesc).le
          obtain ⟨k1,k2,k3⟩:= stp_parts c m (acc ++ [⟨c (nmV l s),isT l (nmS l s) wDesc⟩]) (isS l (nmS l s) wDesc).adv
          refine ⟨(h1.trans (stp_adv (isT_lt h).1)).trans k1,by simp at k2 ⊢;omega,fun hg => ?_⟩
          have:= k3 hg
          simp only [List.length_append,List.length_cons,List.length_nil,St.adv] at this ⊢
          omega
        · exact ⟨h1.trans (stp_fall _),by simp only [List.length_append,List.length_cons,List.length_nil];omega,fun h => by cases h⟩
theorem costBy (a : List TBy) : costL tBy a = 0:= by
  induction a with
  | nil => rfl
  | cons x a ih => simp only [costL,ih];rfl
theorem stp_cols {col : St → TCol × St} (hc : ColR l col) : ∀ (m : Nat) (acc : List TCol) (s : St),Stp l s (colsF l col m acc s).2 ∧ (colsF l col m acc s).1.length ≤ acc.length + m ∧ ((colsF l col m acc s).2.bad = false → (colsF l col m acc s).1.length + costL tCol (colsF l col m acc s).1 + 9 * s.at_ ≤ acc.length + costL tCol acc + 9 * (colsF l col m acc s).2.at_)
  | 0,acc,s => ⟨.refl s,Nat.le_refl _,fun _ => Nat.le_refl _⟩
  | m + 1,acc,s => by
    simp only [colsF]
    split
    · exact ⟨.refl s,by simp only [];omega,fun _ => Nat.le_refl _⟩
    · split
      · rename_i h
        exact ⟨stp_adv (isT_lt h).1,by simp only [];omega,fun _ => by simp only [St.adv];omega⟩
      · obtain ⟨k1,k2,k3⟩:= stp_cols hc m (acc ++ [(col s).1]) (col s).2
        refine ⟨(hc.stp s).trans k1,by simp at k2 ⊢;omega,fun hg => ?_⟩
        have a1:= k3 hg
        have a2:= hc.go s (k1.good hg)
        have a3 : tCol.cost (col s).1 ≤ 8:= hc.len s
        rw [costL_snoc] at a1
        simp only [List.length_append,List.length_cons,List.length_nil] at a1
        omega
theorem stp_ix (hl : ∀ t ∈ l,tokOk t = true) (c : List UInt8 → Int) (k : Nat) : ∀ (m : Nat) (acc : List TIndex) (s : St),Stp l s (ixF l c k m acc s).2 ∧ (ixF l c k m acc s).1.length ≤ acc.length + m ∧ ((ixF l c k m acc s).2.bad = false → (ixF l c k m acc s).1.length + costL tIndex (ixF l c k m acc s).1 + 9 * s.at_ ≤ acc.length + costL tIndex acc + 9 * (ixF l c k m acc s).2.at_)
  | 0,acc,s => ⟨.refl s,Nat.le_refl _,fun _ => Nat.le_refl _⟩
  | m + 1,acc,s => by
    simp only [ixF]
    split
    · exact ⟨.refl s,by simp only [];omega,fun _ => Nat.le_refl _⟩
    · split
      · rename_i h
        exact ⟨stp_adv (isT_lt h).1,by simp only [];omega,fun _ => by simp only [St.adv];omega⟩
      · have hu : Stp l s (if isT l s wUnique = true then s.adv else mustT l s wIndex):= by
          split
          · rename_i h;exact stp_adv (isT_lt h).1
          · exact stp_must s _
        generalize (if isT l s wUnique = true then s.adv else mustT l s wIndex) = s2 at *
        obtain ⟨p1,p2,p3⟩:= stp_parts (l:= l) c k [] (nmS l s2)
        obtain ⟨k1,k2,k3⟩:= stp_ix hl c k m (acc ++ [⟨nmV l s2,isT l s wUnique,(partsF l c k [] (nmS l s2)).1⟩]) (partsF l c k [] (nmS l s2)).2
        refine ⟨((hu.trans (stp_nm s2)).trans p1).trans k1,by simp at k2 ⊢;omega,fun hg => ?_⟩
        have a1:= k3 hg
        have g1:= k1.good hg
        have a2:= p3 g1
        have a4:= nm_good (p1.good g1)
        have a5:= hu.le
        have a3 : tIndex.cost ⟨nmV l s2,isT l s wUnique,(partsF l c k [] (nmS l s2)).1⟩ ≤ 8 + (partsF l c k [] (nmS l s2)).1.length:= by
          have e1 : tIndex.cost ⟨nmV l s2,isT l s wUnique,(partsF l c k [] (nmS l s2)).1⟩ = (nmV l s2).length + ((partsF l c k [] (nmS l s2)).1.length + costL tBy (partsF l c k [] (nmS l s2)).1):= rfl
          have e2:= nm_len hl s2
          rw [costBy] at e1
          omega
        rw [costL_snoc] at a1
        simp only [List.length_append,List.length_cons,List.length_nil] at a1 a2
        omega
theorem stp_def (hl : ∀ t ∈ l,tokOk t = true) {col : St → TCol × St} (hc : ColR l col) (c : List TCol → List UInt8 → Int) (k : Nat) (s : St) : Stp l s (defF l col c k s).2 ∧ ((defF l col c k s).2.bad = false → s.at_ + 1 ≤ (defF l col c k s).2.at_ ∧ tDef.cost (defF l col c k s).1 + 9 * s.at_ ≤ 9 * (defF l col c k s).2.at_):= by
  simp only [defF]
  have h1:= stp_must (l:= l) s wTable
  have h2:= stp_nm (l:= l) (mustT l s wTable)
  have h3:= stp_must (l:= l) (nmS l (mustT l s wTable)) [123]
  obtain ⟨c1,_,c3⟩:= stp_cols hc k [] (mustT l (nmS l (mustT l s wTable)) [123])
  generalize colsF l col k [] (mustT l (nmS l (mustT l s wTable)) [123]) = cs at *
  obtain ⟨p1,_,p3⟩:= stp_parts (l:= l) (c cs.1) k [] cs.2
  generalize partsF l (c cs.1) k [] cs.2 = ps at *
  obtain ⟨x1,_,x3⟩:= stp_ix hl (c cs.1) k k [] ps.2
  generalize ixF l (c cs.1) k k [] ps.2 = xs at *
  refine ⟨(((h1.trans h2).trans h3).trans c1).trans (p1.trans x1),fun hg => ?_⟩
  have g1:= x1.good hg
  have g2:= p1.good g1
  have g3:= c1.good g2
  have g4:= h3.good g3
  have g5:= h2.good g4
  have b1:= x3 hg
  have b2:= p3 g1
  have b3:= c3 g2
  have b4:= (must_good g3).1
  have b5:= nm_good g4
  have b6:= (must_good g5).1
  have e1 : tDef.cost ⟨nmV l (mustT l s wTable),cs.1,ps.1,xs.1⟩ = (nmV l (mustT l s wTable)).length + (cs.1.length + costL tCol cs.1) + (ps.1.length + costL tBy ps.1) + (xs.1.length + costL tIndex xs.1):= rfl
  have e2:= nm_len hl (mustT l s wTable)
  rw [costBy] at e1
  simp only [List.length_nil,costL] at b1 b2 b3
  omega
theorem stp_defs (hl : ∀ t ∈ l,tokOk t = true) {col : St → TCol × St} (hc : ColR l col) (c : List TCol → List UInt8 → Int) (k : Nat) : ∀ (m : Nat) (acc : List TDef) (s : St),Stp l s (defsF l col c k m acc s).2 ∧ (defsF l col c k m acc s).1.length ≤ acc.length + m ∧ ((defsF l col c k m acc s).2.bad = false → (defsF l col c k m acc s).1.length + costL tDef (defsF l col c k m acc s).1 + 10 * s.at_ ≤ acc.length + costL tDef acc + 10 * (defsF l col c k m acc s).2.at_)
  | 0,acc,s => ⟨.refl s,Nat.le_refl _,fun _ => Nat.le_refl _⟩
  | m + 1,acc,s => by
    simp only [defsF]
    split
    · exact ⟨.refl s,by simp only [];omega,fun _ => Nat.le_refl _⟩
    · split
      · obtain ⟨d1,d2⟩:= stp_def hl hc c k s
        obtain ⟨k1,k2,k3⟩:= stp_defs hl hc c k m (acc ++ [(defF l col c k s).1]) (defF l col c k s).2
        refine ⟨d1.trans k1,by simp at k2 ⊢;omega,fun hg => ?_⟩
        have a1:= k3 hg
        obtain ⟨a2,a3⟩:= d2 (k1.good hg)
        rw [costL_snoc] at a1
        simp only [List.length_append,List.length_cons,List.length_nil] at a1
        omega
      · exact ⟨.refl s,by simp only [];omega,fun _ => Nat.le_refl _⟩
theorem parsed_cost (hl : ∀ t ∈ l,tokOk t = true) (h5 : l.length ≤ 500) {col : St → TCol × St} (hc : ColR l col) (c : List TCol → List UInt8 → Int) (k m : Nat) (h : (defsF l col c k m [] ⟨0,false⟩).2.bad = false) : (sliceT tDef).cost (defsF l col c k m [] ⟨0,false⟩).1 ≤ 5000:= by
  obtain ⟨k1,_,k3⟩:= stp_defs hl hc c k m [] ⟨0,false⟩
  have a1:= k3 h
  have a2:= k1.inn (Nat.zero_le _)
  have e : (sliceT tDef).cost (defsF l col c k m [] ⟨0,false⟩).1 = (defsF l col c k m [] ⟨0,false⟩).1.length + costL tDef (defsF l col c k m [] ⟨0,false⟩).1:= rfl
  simp only [List.length_nil,costL] at a1
  omega
end
def rdC (l : List TToken) (s : St) : List AV:= [.imm (l.map TToken.row),.int .i64 (s.at_ : Int),.bool s.bad]
structure RdK (l : List TToken) (r : Nat) (s : St) (h h' : Hp) : Prop where
  at_ : h'.hp r = some (rdC l s)
  hp : ∀ q,q ≠ r → h'.hp q = h.hp q
  ap : h'.ap = h.ap
  nx : h'.nx = h.nx
theorem RdK.cu {l : List TToken} {r : Nat} {s s' : St} {h h' : Hp} (hr : h.hp r = some (rdC l s)) (k : RdK l r s' h h') : h.Cu h':=
  ⟨by rw [k.nx];exact Nat.le_refl _,fun q hq => ⟨fun hn => k.hp q fun e => (by rw [e,hr] at hn;cases hn),fun ht => by
    by_cases e : q = r
    · rw [e,k.at_];rfl
    · rw [k.hp q e];exact ht⟩⟩
structure RdG (l : List TToken) (r : Nat) (s : St) (h h' : Hp) : Prop where
  at_ : h'.hp r = some (rdC l s)
  hp : ∀ q,q < h.nx → q ≠ r → h'.hp q = h.hp q
  ap : ∀ q,q < h.nx → h'.ap q = h.ap q
  nx : h.nx ≤ h'.nx
structure RdO (l : List TToken) (r : Nat) (s : St) (h h' : Hp) : Prop where
  at_ : h'.hp r = some (rdC l s)
  hp : ∀ q,q < h.nx → q ≠ r → h'.hp q = h.hp q
  ap : h'.ap = h.ap
  nx : h.nx ≤ h'.nx
theorem ia_tok {l : List TToken} {i : Nat} (h : i < l.length) (hp : Hp) : kIa 2 (.imm (l.map TToken.row)) (.int .i64 (i : Int)) hp = some (.cptr (TToken.row l[i]),hp):= kIa_nth (by omega) (by rw [Int.toNat_natCast];exact List.getElem?_eq_getElem h) rfl
theorem isT_some {l : List TToken} {i : Nat} (h : i < l.length) (w : List UInt8) : isT l ⟨i,false⟩ w = (l[i].fS == w):= by simp [isT,tokAt,List.getElem?_eq_getElem h]
theorem isT_none {l : List TToken} {i : Nat} (h : ¬ i < l.length) (w : List UInt8) : isT l ⟨i,false⟩ w = false:= by simp [isT,tokAt,List.getElem?_eq_none (Nat.le_of_not_lt h)]
theorem nm_some {l : List TToken} {i : Nat} (h : i < l.length) : nmV l ⟨i,false⟩ = (if l[i].fK = 1 then l[i].fS else []) ∧ nmS l ⟨i,false⟩ = (if l[i].fK = 1 then ⟨i + 1,false⟩ else ⟨i,true⟩):= by simp [nmV,nmS,tokAt,List.getElem?_eq_getElem h,St.adv,St.fall]
theorem nm_none {l : List TToken} {i : Nat} (h : ¬ i < l.length) : nmV l ⟨i,false⟩ = [] ∧ nmS l ⟨i,false⟩ = ⟨i,true⟩:= by simp [nmV,nmS,tokAt,List.getElem?_eq_none (Nat.le_of_not_lt h),St.fall]
theorem nmV_bad {l : List TToken} {s : St} (h : s.bad = true) : nmV l s = []:= by simp [nmV,tokAt,h]
theorem isS_false {l : List TToken} {s : St} {w : List UInt8} (h : isT l s w = false) : isS l s w = s:= by simp [isS,h]
theorem isS_true {l : List TToken} {s : St} {w : List UInt8} (h : isT l s w = true) : isS l s w = s.adv:= by simp [isS,h]
theorem mustT_false {l : List TToken} {s : St} {w : List UInt8} (h : isT l s w = false) : mustT l s w = s.fall:= by simp [mustT,h]
theorem mustT_true {l : List TToken} {s : St} {w : List UInt8} (h : isT l s w = true) : mustT l s w = s.adv:= by simp [mustT,h]
def typeW (t : Int) : List UInt8:= if t = 1 then wInt else if t = 2 then wNum else if t = 3 then wText else if t = 4 then wBool else []
def tyL (l : List TToken) (s : St) : Nat → Nat → Int × St
  | 0,_ => (0,s)
  | m + 1,t => if isT l s (typeW t) then ((t : Int),s.adv) else tyL l s m (t + 1)
theorem tyL_eq (l : List TToken) (s : St) : tyL l s 4 1 = (tyV l s,tyS l s):= by
  unfold tyV tyS
  simp only [tyL]
  have e1 : typeW ((1 : Nat) : Int) = wInt:= rfl
  have e2 : typeW ((1 + 1 : Nat) : Int) = wNum:= rfl
  have e3 : typeW ((1 + 1 + 1 : Nat) : Int) = wText:= rfl
  have e4 : typeW ((1 + 1 + 1 + 1 : Nat) : Int) = wBool:= rfl
  rw [e1,e2,e3,e4]
  cases isT l s wInt <;> cases isT l s wNum <;> cases isT l s wText <;> cases isT l s wBool <;> rfl
end Go.Proofs.YtpolhafmapekpaaGreatDoor.En
namespace Go.Proofs.YtpolhafmapekpaaGreatDoor.En
open Go Go.RowKit Go.Ev
set_option maxHeartbeats 1600000
theorem rk_spec_l10Is (cs) {l : List TToken} (hl : l.length ≤ 1000) (r : Nat) (s : St) (w : List UInt8) (h : Hp) (hr : h.hp r = some (rdC l s)) :
    ∃ h',RunF (EE cs) 105 [.ptr r 0,.str w] h (.bool (isT l s w),h') ∧ RdK l r (isS l s w) h h':= by
  have : ∃ rr,RunF (EE cs) 105 [.ptr r 0,.str w] h rr ∧ rr.1 = .bool (isT l s w) ∧ RdK l r (isS l s w) h rr.2:= by
    refine run_wp (st_spec_l10Is cs) ?_
    obtain ⟨i,bad⟩:= s
    have hr0:= hr
    unfold rdC at hr
    simp only at hr
    cases bad with
    | true =>
      rw [isT_bad rfl,isS_bad rfl]
      simp only [go_sem,kSt_ptr,Nat.reduceBEq,Nat.reduceAdd,Nat.reduceLeDiff,s_spec_l10Is,hr]
      exact ⟨fun _ e => (by cases e),_,rfl,rfl,hr0,fun _ _ => rfl,rfl,rfl⟩
    | false =>
      by_cases hlt : i < l.length
      · have hd : decide ((l.length : Int) ≤ (i : Int)) = false:= decide_eq_false (by omega)
        have ha:= fun h => ia_tok hlt h
        have hw : IntKind.wrap .i64 ((i : Int) + 1) = ((i + 1 : Nat) : Int):= by rw [wrapId (by omega) (by omega)];omega
        cases hq : l[i].fS == w with
        | true =>
          have e1:= (isT_some hlt w).trans hq
          rw [e1,isS_true e1]
          simp only [go_sem,kSt_ptr,Nat.reduceBEq,Nat.reduceAdd,Nat.reduceLeDiff,s_spec_l10Is,hr,hd,ha,TToken.row,hq,hw]
          exact ⟨fun _ e => (by cases e),_,rfl,rfl,by simp [rdC,St.adv],fun q hq => by simp [hq],rfl,rfl⟩
        | false =>
          have e1:= (isT_some hlt w).trans hq
          rw [e1,isS_false e1]
          simp only [go_sem,kSt_ptr,Nat.reduceBEq,Nat.reduceAdd,Nat.reduceLeDiff,s_spec_l10Is,hr,hd,ha,TToken.row,hq,hw]
          exact ⟨fun _ e => (by cases e),_,rfl,rfl,hr0,fun _ _ => rfl,rfl,rfl⟩
      · have hd : decide ((l.length : Int) ≤ (i : Int)) = true:= decide_eq_true (by omega)
        have e1:= isT_none hlt w
        rw [e1,isS_false e1]
        simp only [go_sem,kSt_ptr,Nat.reduceBEq,Nat.reduceAdd,Nat.reduceLeDiff,s_spec_l10Is,hr,hd]
        exact ⟨fun _ e => (by cases e),_,rfl,rfl,hr0,fun _ _ => rfl,rfl,rfl⟩
  obtain ⟨⟨v,h'⟩,k1,k2,k3⟩:= this
  simp only at k2 k3
  subst k2
  exact ⟨h',k1,k3⟩
theorem hP_spec_l10Is (cs) {l : List TToken} (hl : l.length ≤ 1000) {r : Nat} {s : St} {w : List UInt8} {h : Hp} {d : Option Nat} {os : List SOper} {e : Ps} {Q : QS} (hr : h.hp r = some (rdC l s))
    (hw : ∀ h',RdK l r (isS l s w) h h' → hP (kThen (some (upd? e d (.bool (isT l s w)),h')) (EE cs) (lim (EE cs)) os) Q) : hP (kThen (kOper d (some true) (lim (EE cs) 105 [.ptr r 0,.str w] h) e h) (EE cs) (lim (EE cs)) os) Q:= by
  obtain ⟨h',k1,k2⟩:= rk_spec_l10Is cs hl r s w h hr
  exact hP_call k1 (hw h' k2)
noncomputable def C_spec_l9Type:= c1 intT (fun (t : Int) => 0 ≤ t ∧ t ≤ 4) (.str) fun (t : Int) => typeW t
theorem C_spec_l9Type_eq (t : Int) (h : 0 ≤ t ∧ t ≤ 4) : C_spec_l9Type [.int .i64 t] = some (.str ((typeW t))):= c1_eq intT h
theorem ok_spec_l9Type {WI : World → Prop} (hs : Stable WI) (cs) (hT : TOK (EE cs) WI) : PureOK Tryz.prog WI 155 C_spec_l9Type:= by
  refine pure1 (E:= EE cs) hT hs (by rw [st_spec_l9Type];rfl) fun t hp => out_wp (n:= 0) (st_spec_l9Type cs) ?_
  have f1 : fillR (List.replicate 5 [AV.str []]) 1 [(0,.str []),(1,.str [105,110,116]),(2,.str [110,117,109]),(3,.str [116,101,120,116]),(4,.str [98,111,111,108])] = some [[.str []],[.str [105,110,116]],[.str [110,117,109]],[.str [116,101,120,116]],[.str [98,111,111,108]]]:= rfl
  have f2 : frzRows [[AV.str []],[.str [105,110,116]],[.str [110,117,109]],[.str [116,101,120,116]],[.str [98,111,111,108]]] = some [[.str []],[.str [105,110,116]],[.str [110,117,109]],[.str [116,101,120,116]],[.str [98,111,111,108]]]:= rfl
  have ht : t = 0 ∨ t = 1 ∨ t = 2 ∨ t = 3 ∨ t = 4:= by omega
  rcases ht with rfl | rfl | rfl | rfl | rfl
  · have k : ∀ id h,kIa 1 (.app id [[AV.str []],[.str [105,110,116]],[.str [110,117,109]],[.str [116,101,120,116]],[.str [98,111,111,108]]]) (.int .i64 0) h = some (.cptr [.str []],h):= fun _ _ => rfl
    simp only [go_sem,Nat.reduceBEq,s_spec_l9Type,f1,f2,k]
    rfl
  · have k : ∀ id h,kIa 1 (.app id [[AV.str []],[.str [105,110,116]],[.str [110,117,109]],[.str [116,101,120,116]],[.str [98,111,111,108]]]) (.int .i64 1) h = some (.cptr [.str [105,110,116]],h):= fun _ _ => rfl
    simp only [go_sem,Nat.reduceBEq,s_spec_l9Type,f1,f2,k]
    rfl
  · have k : ∀ id h,kIa 1 (.app id [[AV.str []],[.str [105,110,116]],[.str [110,117,109]],[.str [116,101,120,116]],[.str [98,111,111,108]]]) (.int .i64 2) h = some (.cptr [.str [110,117,109]],h):= fun _ _ => rfl
    simp only [go_sem,Nat.reduceBEq,s_spec_l9Type,f1,f2,k]
    rfl
  · have k : ∀ id h,kIa 1 (.app id [[AV.str []],[.str [105,110,116]],[.str [110,117,109]],[.str [116,101,120,116]],[.str [98,111,111,108]]]) (.int .i64 3) h = some (.cptr [.str [116,101,120,116]],h):= fun _ _ => rfl
    simp only [go_sem,Nat.reduceBEq,s_spec_l9Type,f1,f2,k]
    rfl
  · have k : ∀ id h,kIa 1 (.app id [[AV.str []],[.str [105,110,116]],[.str [110,117,109]],[.str [116,101,120,116]],[.str [98,111,111,108]]]) (.int .i64 4) h = some (.cptr [.str [98,111,111,108]],h):= fun _ _ => rfl
    simp only [go_sem,Nat.reduceBEq,s_spec_l9Type,f1,f2,k]
    rfl
theorem rk_spec_l10Name (cs) {l : List TToken} (hl : l.length ≤ 1000) (r : Nat) (s : St) (h : Hp) (hr : h.hp r = some (rdC l s)) :
    ∃ h',RunF (EE cs) 104 [.ptr r 0] h (.str (nmV l s),h') ∧ RdK l r (nmS l s) h h':= by
  have : ∃ rr,RunF (EE cs) 104 [.ptr r 0] h rr ∧ rr.1 = .str (nmV l s) ∧ RdK l r (nmS l s) h rr.2:= by
    refine run_wp (st_spec_l10Name cs) ?_
    obtain ⟨i,bad⟩:= s
    unfold rdC at hr
    simp only at hr
    cases bad with
    | true =>
      rw [nmV_bad rfl,nmS_bad rfl]
      simp only [go_sem,kSt_ptr,Nat.reduceBEq,Nat.reduceAdd,Nat.reduceLeDiff,s_spec_l10Name,hr]
      exact ⟨fun _ e => (by cases e),_,rfl,rfl,by simp [rdC],fun q hq => by simp [hq],rfl,rfl⟩
    | false =>
      by_cases hlt : i < l.length
      · have hd : decide ((l.length : Int) ≤ (i : Int)) = false:= decide_eq_false (by omega)
        have ha:= fun h => ia_tok hlt h
        have hw : IntKind.wrap .i64 ((i : Int) + 1) = ((i + 1 : Nat) : Int):= by rw [wrapId (by omega) (by omega)];omega
        have hw2 : IntKind.wrap .i64 (((i + 1 : Nat) : Int) - 1) = (i : Int):= by rw [wrapId (by omega) (by omega)];omega
        obtain ⟨e1,e2⟩:= nm_some hlt
        rw [e1,e2]
        by_cases hk : l[i].fK = 1
        · have hq : (l[i].fK != 1) = false:= by simp [hk]
          rw [if_pos hk,if_pos hk]
          simp only [go_sem,kSt_ptr,Nat.reduceBEq,Nat.reduceAdd,Nat.reduceLeDiff,s_spec_l10Name,hr,hd,ha,TToken.row,hq,hw,hw2]
          exact ⟨fun _ e => (by cases e),_,rfl,rfl,by simp [rdC],fun q hq => by simp [hq],rfl,rfl⟩
        · have hq : (l[i].fK != 1) = true:= by simp [hk]
          rw [if_neg hk,if_neg hk]
          simp only [go_sem,kSt_ptr,Nat.reduceBEq,Nat.reduceAdd,Nat.reduceLeDiff,s_spec_l10Name,hr,hd,ha,TToken.row,hq,hw,hw2]
          exact ⟨fun _ e => (by cases e),_,rfl,rfl,by simp [rdC],fun q hq => by simp [hq],rfl,rfl⟩
      · have hd : decide ((l.length : Int) ≤ (i : Int)) = true:= decide_eq_true (by omega)
        obtain ⟨e1,e2⟩:= nm_none hlt
        rw [e1,e2]
        simp only [go_sem,kSt_ptr,Nat.reduceBEq,Nat.reduceAdd,Nat.reduceLeDiff,s_spec_l10Name,hr,hd]
        exact ⟨fun _ e => (by cases e),_,rfl,rfl,by simp [rdC],fun q hq => by simp [hq],rfl,rfl⟩
  obtain ⟨⟨v,h'⟩,k1,k2,k3⟩:= this
  simp only at k2 k3
  subst k2
  exact ⟨h',k1,k3⟩
theorem hP_spec_l10Name (cs) {l : List TToken} (hl : l.length ≤ 1000) {r : Nat} {s : St} {h : Hp} {d : Option Nat} {os : List SOper} {e : Ps} {Q : QS} (hr : h.hp r = some (rdC l s))
    (hw : ∀ h',RdK l r (nmS l s) h h' → hP (kThen (some (upd? e d (.str (nmV l s)),h')) (EE cs) (lim (EE cs)) os) Q) : hP (kThen (kOper d (some true) (cuO h (lim (EE cs) 104 [.ptr r 0] h)) e h) (EE cs) (lim (EE cs)) os) Q:= by
  obtain ⟨h',k1,k2⟩:= rk_spec_l10Name cs hl r s h hr
  exact hP_callC k1 (k2.cu hr) (hw h' k2)
theorem rk_spec_l10Must (cs) {l : List TToken} (hl : l.length ≤ 1000) (r : Nat) (s : St) (w : List UInt8) (h : Hp) (hr : h.hp r = some (rdC l s)) :
    ∃ h',RunF (EE cs) 103 [.ptr r 0,.str w] h (.tup [],h') ∧ RdK l r (mustT l s w) h h':= by
  have : ∃ rr,RunF (EE cs) 103 [.ptr r 0,.str w] h rr ∧ rr.1 = .tup [] ∧ RdK l r (mustT l s w) h rr.2:= by
    refine run_wp (st_spec_l10Must cs) ?_
    simp only [go_sem,Nat.reduceBEq,s_spec_l10Must]
    refine hP_spec_l10Is cs hl hr ?_
    intro h1 k1
    cases hq : isT l s w with
    | true =>
      rw [isS_true hq] at k1
      rw [mustT_true hq]
      simp only [go_sem,kSt_ptr,Nat.reduceBEq,Nat.reduceAdd]
      exact ⟨fun _ e => (by cases e),_,rfl,rfl,k1⟩
    | false =>
      rw [isS_false hq] at k1
      rw [mustT_false hq]
      have hb:= k1.at_
      unfold rdC at hb
      simp only [go_sem,kSt_ptr,Nat.reduceBEq,Nat.reduceAdd,hb]
      exact ⟨fun _ e => (by cases e),_,rfl,rfl,by simp [rdC,St.fall],fun q hq => by simp [hq,k1.hp q hq],k1.ap,k1.nx⟩
  obtain ⟨⟨v,h'⟩,k1,k2,k3⟩:= this
  simp only at k2 k3
  subst k2
  exact ⟨h',k1,k3⟩
theorem hP_spec_l10Must (cs) {l : List TToken} (hl : l.length ≤ 1000) {r : Nat} {s : St} {w : List UInt8} {h : Hp} {d : Option Nat} {os : List SOper} {e : Ps} {Q : QS} (hr : h.hp r = some (rdC l s))
    (hw : ∀ h',RdK l r (mustT l s w) h h' → hP (kThen (some (upd? e d (.tup []),h')) (EE cs) (lim (EE cs)) os) Q) : hP (kThen (kOper d (some true) (lim (EE cs) 103 [.ptr r 0,.str w] h) e h) (EE cs) (lim (EE cs)) os) Q:= by
  obtain ⟨h',k1,k2⟩:= rk_spec_l10Must cs hl r s w h hr
  exact hP_call k1 (hw h' k2)
theorem LK0_spec_l10Col (cs) (h9 : (EE cs).T 155 = some C_spec_l9Type) {l : List TToken} (hl : l.length ≤ 1000) {r b : Nat} (hbr : b ≠ r) {n : List UInt8} {Q : QS} : ∀ (m t : Nat),t + m = 5 → 1 ≤ t → ∀ (s : St) (e : Ps) (h : Hp),e 0 = .ptr r 0 → e 3 = .ptr b 0 → e 4 = .int .i64 (t : Int) → h.hp r = some (rdC l s) → h.hp b = some [.str n,.int .i64 0,.bool false] →
    (∀ e' h',e' 0 = .ptr r 0 → e' 2 = e 2 → e' 3 = .ptr b 0 → h'.hp r = some (rdC l (tyL l s m t).2) → h'.hp b = some [.str n,.int .i64 (tyL l s m t).1,.bool false] → (∀ q,q ≠ r → q ≠ b → h'.hp q = h.hp q) → h'.ap = h.ap → h'.nx = h.nx → Q (.exit 0) e' h') → WL (EE cs) s_spec_l10Col_L0 e h Q:= by
  intro m
  induction m with
  | zero =>
    intro t ht h1 s e h e0 e3 e4 hr hb hq
    have hc : ¬ (t : Int) ≤ 4:= by omega
    refine .step (wp_sound _ _ _ _ ?_)
    simp only [go_sem,Nat.reduceBEq,s_spec_l10Col_L0,e0,e4,hc]
    exact hq _ _ (by simp only [go_sem,Nat.reduceBEq,e0]) (by simp only [go_sem,Nat.reduceBEq]) (by simp only [go_sem,Nat.reduceBEq,e3]) hr hb (fun _ _ _ => rfl) rfl rfl
  | succ m ih =>
    intro t ht h1 s e h e0 e3 e4 hr hb hq
    have hc : (t : Int) ≤ 4:= by omega
    have c9:= C_spec_l9Type_eq t ⟨by omega,hc⟩
    have hw : IntKind.wrap .i64 ((t : Int) + 1) = ((t + 1 : Nat) : Int):= by rw [wrapId (by omega) (by omega)];omega
    refine .step (wp_sound _ _ _ _ ?_)
    simp only [go_sem,Nat.reduceBEq,s_spec_l10Col_L0,e0,e4,hc,h9,c9]
    refine hP_spec_l10Is cs hl hr ?_
    intro h2 k2
    have hb2 : h2.hp b = _:= (k2.hp b hbr).trans hb
    cases hq2 : isT l s (typeW t) with
    | true =>
      have e1 : tyL l s (m + 1) t = ((t : Int),s.adv):= by simp only [tyL,hq2,if_true]
      rw [e1] at hq
      rw [isS_true hq2] at k2
      simp only [go_sem,kSt_ptr,Nat.reduceBEq,Nat.reduceAdd,Nat.reduceLeDiff,e3,e4,hb2]
      refine hq _ _ (by simp only [go_sem,Nat.reduceBEq,e0]) (by simp only [go_sem,Nat.reduceBEq]) (by simp only [go_sem,Nat.reduceBEq,e3]) ?_ ?_ ?_ k2.ap k2.nx
      · show (if r = b then _ else _) = _
        rw [if_neg (Ne.symm hbr)]
        exact k2.at_
      · show (if b = b then _ else _) = _
        rw [if_pos rfl]
      · intro q q1 q2
        show (if q = b then _ else _) = _
        rw [if_neg q2]
        exact k2.hp q q1
    | false =>
      have e1 : tyL l s (m + 1) t = tyL l s m (t + 1):= by simp only [tyL,hq2,Bool.false_eq_true,if_false]
      rw [e1] at hq
      rw [isS_false hq2] at k2
      simp only [go_sem,kSt_ptr,Nat.reduceBEq,Nat.reduceAdd,e3,e4,hw]
      refine ih (t + 1) (by omega) (by omega) s _ _ (by simp only [go_sem,Nat.reduceBEq,e0]) (by simp only [go_sem,Nat.reduceBEq,e3]) (by simp only [go_sem,Nat.reduceBEq]) k2.at_ hb2 ?_
      intro e' h' a0 a2 a3 a4 a5 a6 a7 a8
      exact hq e' h' a0 (a2.trans (by simp only [go_sem,Nat.reduceBEq])) a3 a4 a5 (fun q q1 q2 => (a6 q q1 q2).trans (k2.hp q q1)) (a7.trans k2.ap) (a8.trans k2.nx)
theorem rk_spec_l10Col (cs) (h9 : (EE cs).T 155 = some C_spec_l9Type) {l : List TToken} (hl : l.length ≤ 1000) (r : Nat) (s : St) (h : Hp) (hr : h.hp r = some (rdC l s)) (hrn : r < h.nx) :
    ∃ h',RunF (EE cs) 106 [.ptr r 0] h (.agg (colS l s).1.row,h') ∧ RdG l r (colS l s).2 h h':= by
  have : ∃ rr,RunF (EE cs) 106 [.ptr r 0] h rr ∧ rr.1 = .agg (colS l s).1.row ∧ RdG l r (colS l s).2 h rr.2:= by
    refine run_wp (st_spec_l10Col cs) ?_
    have n1 : ¬ r = h.nx:= by omega
    have n2 : ¬ r = h.nx + 1:= by omega
    have fs : sFill [.str [],.int .i64 0,.bool false] [] = some [AV.str [],.int .i64 0,.bool false]:= rfl
    simp only [go_sem,kSt_ptr,Nat.reduceBEq,Nat.reduceAdd,s_spec_l10Col,fs]
    refine hP_spec_l10Name cs hl (s:= s) (by simp only [go_sem,n1,n2];exact hr) ?_
    intro h1 k1
    have b2 : h1.hp h.nx = some [.str [],.int .i64 0,.bool false]:= (k1.hp _ (by omega)).trans (by simp only [go_sem])
    have b3 : h1.hp (h.nx + 1) = some [.str [],.int .i64 0,.bool false]:= (k1.hp _ (by omega)).trans (by simp only [go_sem])
    have x1 : h1.nx = h.nx + 2:= k1.nx
    simp only [go_sem,kSt_ptr,Nat.reduceBEq,Nat.reduceAdd,Nat.reduceLeDiff,b3]
    refine LK0_spec_l10Col cs h9 hl (r:= r) (b:= h.nx + 1) (by omega) (n:= nmV l s) 4 1 rfl (Nat.le_refl _) (nmS l s) _ _ (by simp only [go_sem,Nat.reduceBEq]) (by simp only [go_sem,Nat.reduceBEq]) (by simp only [go_sem,Nat.reduceBEq];rfl) (by simp only [go_sem,n2];exact k1.at_) (by simp only [go_sem]) ?_
    intro e2 h2 a0 a2 a3 a4 a5 a6 a7 a8
    rw [tyL_eq] at a4 a5
    simp only [go_sem,Nat.reduceBEq] at a2
    simp only at a4 a5
    have b2' : h2.hp h.nx = some [.str [],.int .i64 0,.bool false]:= (a6 _ (by omega) (by omega)).trans (by simp [b2])
    simp only [go_sem,a0]
    refine hP_spec_l10Is cs hl a4 ?_
    intro h3 k3
    have b2 : h3.hp h.nx = _:= (k3.hp _ (by omega)).trans b2'
    have b3 : h3.hp (h.nx + 1) = _:= (k3.hp _ (by omega)).trans a5
    simp only [go_sem,kSt_ptr,Nat.reduceBEq,Nat.reduceAdd,a0,a3,b3]
    refine hP_spec_l10Must cs hl (s:= isS l (tyS l (nmS l s)) wNull) (by simp only [go_sem,n2];exact k3.at_) ?_
    intro h4 k4
    have b2'' : h4.hp h.nx = some [.str [],.int .i64 0,.bool false]:= (k4.hp _ (by omega)).trans (by simp [b2])
    have b3' : h4.hp (h.nx + 1) = some [.str (nmV l s),.int .i64 (tyV l (nmS l s)),.bool (isT l (tyS l (nmS l s)) wNull)]:= (k4.hp _ (by omega)).trans (by simp [wNull])
    simp only [go_sem,kSt_ptr,Nat.reduceBEq,Nat.reduceAdd,a2,a3,b2'',b3']
    refine ⟨fun _ e => (by cases e),_,rfl,rfl,?_,?_,?_,?_⟩
    · show (if r = h.nx then _ else _) = _
      rw [if_neg n1]
      exact k4.at_
    · intro q q1 q2
      have m1 : ¬ q = h.nx:= by omega
      have m2 : ¬ q = h.nx + 1:= by omega
      simp [m1,m2,k4.hp q q2,k3.hp q q2,a6 q q2 m2,k1.hp q q2]
    · intro q q1
      show h4.ap q = h.ap q
      rw [k4.ap]
      show h3.ap q = _
      rw [k3.ap,a7]
      show h1.ap q = _
      rw [k1.ap]
    · show h.nx ≤ h4.nx
      have e1:= k4.nx
      have e2:= k3.nx
      have e3 : h2.nx = h1.nx:= a8
      have e4 : h4.nx = h3.nx:= e1
      omega
  obtain ⟨⟨v,h'⟩,k1,k2,k3⟩:= this
  simp only at k2 k3
  subst k2
  exact ⟨h',k1,k3⟩
theorem hP_spec_l10Col (cs) (h9 : (EE cs).T 155 = some C_spec_l9Type) {l : List TToken} (hl : l.length ≤ 1000) {r : Nat} {s : St} {h : Hp} {d : Option Nat} {os : List SOper} {e : Ps} {Q : QS} (hr : h.hp r = some (rdC l s)) (hrn : r < h.nx)
    (hw : ∀ h',RdG l r (colS l s).2 h h' → hP (kThen (some (upd? e d (.agg (colS l s).1.row),h')) (EE cs) (lim (EE cs)) os) Q) : hP (kThen (kOper d (some true) (lim (EE cs) 106 [.ptr r 0] h) e h) (EE cs) (lim (EE cs)) os) Q:= by
  obtain ⟨h',k1,k2⟩:= rk_spec_l10Col cs h9 hl r s h hr hrn
  exact hP_call k1 (hw h' k2)
end Go.Proofs.YtpolhafmapekpaaGreatDoor.En
