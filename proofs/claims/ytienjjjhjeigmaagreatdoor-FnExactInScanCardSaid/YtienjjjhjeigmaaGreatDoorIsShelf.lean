/-
  DERIVED: THE SHELF's CONTRACTS AT THIS DUMP, IN PLAIN WORDS (tools/lay-plain.mjs out of 'TryzIsShelf.lean', which tools/lay-shelf.mjs wrote): THE SAME DECLARATIONS UNDER THE SAME NAMES: 'import', 'namespace', 'open', 'def', 'theorem' AND NOTHING ELSE: no command of the shelf's: FOR A HAND-IN. Each laying: the table of numbers ('.._ren') and one theorem, a field a fact of the dump's own or the kernel's comparison; each contract: ONE APPLICATION.
-/
import Derived.Shelf.LaysM
import Derived.Shelf.LaysM
import Derived.Shelf.LaysC
import Derived.Shelf.Strings.Split
import Derived.Shelf.Strings.SplitShaped
import Derived.Test.YtienjjjhjeigmaaGreatDoorProg
import Derived.Test.YtienjjjhjeigmaaGreatDoorProg
namespace Go.Proofs
open Go.Shelf
def Tryz.lays146_ren : Go.Shelf.Ren := ⟨fun | 146 => 252 | 221 => 296 | 268 => 320 | 138 => 321 | 143 => 322 | 195 => 331 | 197 => 332 | 218 => 333 | 219 => 334 | 260 => 338 | 217 => 339 | 225 => 340 | 224 => 341 | 267 => 342 | 266 => 343 | 314 => 344 | n => n, fun | 9 => 9 | 31 => 142 | 3 => 3 | 4 => 4 | 0 => 0 | 105 => 331 | 21 => 21 | 5 => 5 | 46 => 264 | 119 => 336 | 139 => 339 | 138 => 338 | 146 => 340 | 51 => 287 | n => n, fun | 1 => 0 | 3 => 1 | 4 => 2 | n => n⟩
theorem Tryz.lays146 : Go.Proofs.Lays.n146 Tryz.prog Tryz.lays146_ren := {
  mixed := by kernel_rfl
  f138 := Tryz.func321.trans (congrArg some (by kernel_rfl))
  f143 := Tryz.func322.trans (congrArg some (by kernel_rfl))
  f146 := Tryz.func252.trans (congrArg some (by kernel_rfl))
  f195 := Tryz.func331.trans (congrArg some (by kernel_rfl))
  f197 := Tryz.func332.trans (congrArg some (by kernel_rfl))
  f217 := Tryz.func339.trans (congrArg some (by kernel_rfl))
  f218 := Tryz.func333.trans (congrArg some (by kernel_rfl))
  f219 := Tryz.func334.trans (congrArg some (by kernel_rfl))
  f221 := Tryz.func296.trans (congrArg some (by kernel_rfl))
  f224 := Tryz.func341.trans (congrArg some (by kernel_rfl))
  f225 := Tryz.func340.trans (congrArg some (by kernel_rfl))
  f260 := Tryz.func338.trans (congrArg some (by kernel_rfl))
  f266 := Tryz.func343.trans (congrArg some (by kernel_rfl))
  f267 := Tryz.func342.trans (congrArg some (by kernel_rfl))
  f268 := Tryz.func320.trans (congrArg some (by kernel_rfl))
  f314 := Tryz.func344.trans (congrArg some (by kernel_rfl))
  t0 := Tryz.underlying0
  a0 := Tryz.isAgg0
  z0 := Tryz.sizeOf0
  v0 := Tryz.zeroValue0
  t3 := Tryz.underlying3
  a3 := Tryz.isAgg3
  z3 := Tryz.sizeOf3
  v3 := Tryz.zeroValue3
  t4 := Tryz.underlying4
  a4 := Tryz.isAgg4
  z4 := Tryz.sizeOf4
  v4 := Tryz.zeroValue4
  t5 := Tryz.underlying5
  a5 := Tryz.isAgg5
  z5 := Tryz.sizeOf5
  v5 := Tryz.zeroValue5
  t9 := Tryz.underlying9
  a9 := Tryz.isAgg9
  z9 := Tryz.sizeOf9
  v9 := Tryz.zeroValue9
  t21 := Tryz.underlying21
  a21 := Tryz.isAgg21
  z21 := Tryz.sizeOf21
  v21 := Tryz.zeroValue21
  t31 := Tryz.underlying142
  a31 := Tryz.isAgg142
  z31 := Tryz.sizeOf142
  v31 := Tryz.zeroValue142
  t46 := Tryz.underlying264
  a46 := Tryz.isAgg264
  z46 := Tryz.sizeOf264
  v46 := Tryz.zeroValue264
  t51 := Tryz.underlying287
  a51 := Tryz.isAgg287
  z51 := Tryz.sizeOf287
  v51 := Tryz.zeroValue287
  t105 := Tryz.underlying331
  a105 := Tryz.isAgg331
  z105 := Tryz.sizeOf331
  v105 := Tryz.zeroValue331
  t119 := Tryz.underlying336
  a119 := Tryz.isAgg336
  z119 := Tryz.sizeOf336
  t138 := Tryz.underlying338
  a138 := Tryz.isAgg338
  z138 := Tryz.sizeOf338
  v138 := Tryz.zeroValue338
  t139 := Tryz.underlying339
  a139 := Tryz.isAgg339
  z139 := Tryz.sizeOf339
  v139 := Tryz.zeroValue339
  t146 := Tryz.underlying340
  a146 := Tryz.isAgg340
  z146 := Tryz.sizeOf340
  v146 := Tryz.zeroValue340
  g1 := by kernel_rfl
  g3 := by kernel_rfl
  g4 := by kernel_rfl }
open Go.RowKit Go.Lib in
/-- strings.Split. (LAID: no walk: one application.) -/
theorem Tryz.strings_Split (s sep : ByteArray) (m : Int) (w : World) (hs : s.size < 4294967281) (hm : w.cell? ⟨0, 0, none⟩ = some (.int .i64 m)) (h1 : 1 ≤ sep.size) :
    Calls Tryz.prog 252 #[.string s, .string sep] w fun e w' =>
      e = .returned (.slice (some ⟨w.heap.size, 0, none⟩) (Lib.countB s sep + 1) (Lib.countB s sep + 1)) ∧ w' = w.alloc (.cells ((Lib.splitB sep 0 (Lib.countB s sep) s).map Value.string).toArray 9) := Any.strings_Split Tryz.lays146 (by kernel_rfl) s sep m w hs hm h1
def Tryz.laysM146_ren : Go.Shelf.Ren := ⟨fun | 146 => 252 | 221 => 296 | 268 => 320 | 138 => 321 | 143 => 322 | 195 => 331 | 197 => 332 | 218 => 333 | 219 => 334 | 260 => 338 | 217 => 339 | 225 => 340 | 224 => 341 | 267 => 342 | 266 => 343 | 314 => 344 | n => n, fun | 9 => 9 | 31 => 142 | 3 => 3 | 4 => 4 | 0 => 0 | 105 => 331 | 21 => 21 | 5 => 5 | 46 => 264 | 119 => 336 | 139 => 339 | 138 => 338 | 146 => 340 | 51 => 287 | n => n, fun | 1 => 0 | 3 => 1 | 4 => 2 | n => n⟩
theorem Tryz.laysM146 : Go.Proofs.LaysM.n146 Tryz.prog Tryz.laysM146_ren := {
  mixed := by kernel_rfl
  f138 := Tryz.func321.trans (congrArg some (by kernel_rfl))
  f143 := Tryz.func322.trans (congrArg some (by kernel_rfl))
  f146 := Tryz.func252.trans (congrArg some (by kernel_rfl))
  f195 := Tryz.func331.trans (congrArg some (by kernel_rfl))
  f197 := Tryz.func332.trans (congrArg some (by kernel_rfl))
  f217 := Tryz.func339.trans (congrArg some (by kernel_rfl))
  f218 := Tryz.func333.trans (congrArg some (by kernel_rfl))
  f219 := Tryz.func334.trans (congrArg some (by kernel_rfl))
  f221 := Tryz.func296.trans (congrArg some (by kernel_rfl))
  f224 := Tryz.func341.trans (congrArg some (by kernel_rfl))
  f225 := Tryz.func340.trans (congrArg some (by kernel_rfl))
  f260 := Tryz.func338.trans (congrArg some (by kernel_rfl))
  f266 := Tryz.func343.trans (congrArg some (by kernel_rfl))
  f267 := Tryz.func342.trans (congrArg some (by kernel_rfl))
  f268 := Tryz.func320.trans (congrArg some (by kernel_rfl))
  f314 := Tryz.func344.trans (congrArg some (by kernel_rfl))
  t0 := Tryz.underlying0
  a0 := Tryz.isAgg0
  z0 := Tryz.sizeOf0
  v0 := Tryz.zeroValue0
  t3 := Tryz.underlying3
  a3 := Tryz.isAgg3
  z3 := Tryz.sizeOf3
  v3 := Tryz.zeroValue3
  t4 := Tryz.underlying4
  a4 := Tryz.isAgg4
  z4 := Tryz.sizeOf4
  v4 := Tryz.zeroValue4
  t5 := Tryz.underlying5
  a5 := Tryz.isAgg5
  z5 := Tryz.sizeOf5
  v5 := Tryz.zeroValue5
  t9 := Tryz.underlying9
  a9 := Tryz.isAgg9
  z9 := Tryz.sizeOf9
  v9 := Tryz.zeroValue9
  t21 := Tryz.underlying21
  a21 := Tryz.isAgg21
  z21 := Tryz.sizeOf21
  v21 := Tryz.zeroValue21
  t31 := Tryz.underlying142
  a31 := Tryz.isAgg142
  z31 := Tryz.sizeOf142
  v31 := Tryz.zeroValue142
  t46 := Tryz.underlying264
  a46 := Tryz.isAgg264
  z46 := Tryz.sizeOf264
  v46 := Tryz.zeroValue264
  t51 := Tryz.underlying287
  a51 := Tryz.isAgg287
  z51 := Tryz.sizeOf287
  v51 := Tryz.zeroValue287
  t105 := Tryz.underlying331
  a105 := Tryz.isAgg331
  z105 := Tryz.sizeOf331
  v105 := Tryz.zeroValue331
  t119 := Tryz.underlying336
  a119 := Tryz.isAgg336
  z119 := Tryz.sizeOf336
  t138 := Tryz.underlying338
  a138 := Tryz.isAgg338
  z138 := Tryz.sizeOf338
  v138 := Tryz.zeroValue338
  t139 := Tryz.underlying339
  a139 := Tryz.isAgg339
  z139 := Tryz.sizeOf339
  v139 := Tryz.zeroValue339
  t146 := Tryz.underlying340
  a146 := Tryz.isAgg340
  z146 := Tryz.sizeOf340
  v146 := Tryz.zeroValue340
  g1 := by kernel_rfl
  g3 := by kernel_rfl
  g4 := by kernel_rfl
  i0 := by kernel_rfl
  i3 := by kernel_rfl
  i4 := by kernel_rfl
  i5 := by kernel_rfl
  i9 := by kernel_rfl
  i21 := by kernel_rfl
  i31 := by kernel_rfl
  i46 := by kernel_rfl
  i51 := by kernel_rfl
  i105 := by kernel_rfl
  i138 := by kernel_rfl
  i139 := by kernel_rfl
  i146 := by kernel_rfl
  m1 := by kernel_rfl
  s1_3 := fun w h => Go.Proofs.cell_of_shapedOpen_int (zero := #[.int .i64 0]) (t := 3) h (of_decide_eq_true (by kernel_rfl)) (by kernel_rfl) rfl (by kernel_rfl) (by kernel_rfl) Tryz.underlying3
  m3 := by kernel_rfl
  m4 := by kernel_rfl }
end Go.Proofs
