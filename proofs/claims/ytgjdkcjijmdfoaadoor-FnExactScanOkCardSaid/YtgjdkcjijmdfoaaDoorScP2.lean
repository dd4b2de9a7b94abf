/- What the functions that FnExactScanOk calls answer, for every argument within the law's bounds: part 2. -/
import Derived.Test.YtgjdkcjijmdfoaaDoorScP1
import Derived.Lib.Split
/- What the functions that FnExactScanOk calls answer: part 7. -/
namespace Go.Proofs.YtgjdkcjijmdfoaaDoor.Sc
open Go Go.RowKit Go.Ev
set_option linter.unusedSimpArgs false
set_option linter.unusedVariables false
def wordsText : List UInt8 := [116, 97, 98, 108, 101, 32, 112, 114, 105, 109, 97, 114, 121, 32, 117, 110, 105, 113, 117, 101, 32, 105, 110, 100, 101, 120, 32, 110, 117, 108, 108, 32, 100, 101, 115, 99, 32, 105, 110, 116, 32, 110, 117, 109, 32, 116, 101, 120, 116, 32, 98, 111, 111, 108]
theorem words_split : Lib.split wordsText [32] = words := by decide +kernel
noncomputable def C_strings_Split := c2 strT strT (fun s sep => s.length < 4294967281 ∧ 1 ≤ sep.length) (fun l => .imm (l.map strT.row)) fun s sep => Lib.split s sep
theorem C_strings_Split_eq (s sep : List UInt8) (h : s.length < 4294967281 ∧ 1 ≤ sep.length) : C_strings_Split [.str s, .str sep] = some (.imm ((Lib.split s sep).map strT.row)) := c2_eq strT strT h
noncomputable def C_impl_isLetter := c1 u8T (fun (b : UInt8) => True) (.bool) fun (b : UInt8) => smallB b
theorem C_impl_isLetter_eq (b : UInt8) (h : True) : C_impl_isLetter [.int .u8 (b).toNat] = some (.bool ((smallB b))) := c1_eq u8T h
theorem ok_impl_isLetter {WI : World → Prop} (hs : Stable WI) (cs) (hT : TOK (EE cs) WI) : PureOK Tryd.prog WI 156 C_impl_isLetter := by
  refine pure1 (E := EE cs) hT hs (by rw [st_impl_isLetter]; rfl) fun b hp => out_wp (n := 0) (st_impl_isLetter cs) ?_
  by_cases d : (97 : Int) ≤ b.toNat
  · simp only [go_sem, kSt_ptr, Nat.reduceBEq, Nat.reduceAdd, Nat.reduceEqDiff, Nat.reduceLeDiff, Nat.reduceSub, reduceIte, Int.reduceBEq, Int.reduceEq, Int.reduceLT, Int.reduceLE, Int.reduceGT, Int.reduceGE, Int.reduceNe, Int.reduceBNe, s_impl_isLetter, d, smallB, inR]
  · simp only [go_sem, kSt_ptr, Nat.reduceBEq, Nat.reduceAdd, Nat.reduceEqDiff, Nat.reduceLeDiff, Nat.reduceSub, reduceIte, Int.reduceBEq, Int.reduceEq, Int.reduceLT, Int.reduceLE, Int.reduceGT, Int.reduceGE, Int.reduceNe, Int.reduceBNe, s_impl_isLetter, d, smallB, inR]
noncomputable def C_impl_isDigit := c1 u8T (fun (b : UInt8) => True) (.bool) fun (b : UInt8) => digitB b
theorem C_impl_isDigit_eq (b : UInt8) (h : True) : C_impl_isDigit [.int .u8 (b).toNat] = some (.bool ((digitB b))) := c1_eq u8T h
theorem ok_impl_isDigit {WI : World → Prop} (hs : Stable WI) (cs) (hT : TOK (EE cs) WI) : PureOK Tryd.prog WI 157 C_impl_isDigit := by
  refine pure1 (E := EE cs) hT hs (by rw [st_impl_isDigit]; rfl) fun b hp => out_wp (n := 0) (st_impl_isDigit cs) ?_
  by_cases d : (48 : Int) ≤ b.toNat
  · simp only [go_sem, kSt_ptr, Nat.reduceBEq, Nat.reduceAdd, Nat.reduceEqDiff, Nat.reduceLeDiff, Nat.reduceSub, reduceIte, Int.reduceBEq, Int.reduceEq, Int.reduceLT, Int.reduceLE, Int.reduceGT, Int.reduceGE, Int.reduceNe, Int.reduceBNe, s_impl_isDigit, d, digitB, inR]
  · simp only [go_sem, kSt_ptr, Nat.reduceBEq, Nat.reduceAdd, Nat.reduceEqDiff, Nat.reduceLeDiff, Nat.reduceSub, reduceIte, Int.reduceBEq, Int.reduceEq, Int.reduceLT, Int.reduceLE, Int.reduceGT, Int.reduceGE, Int.reduceNe, Int.reduceBNe, s_impl_isDigit, d, digitB, inR]
noncomputable def C_impl_nameOk := c1 strT (fun (s : List UInt8) => s.length ≤ 1048576) (.bool) fun (s : List UInt8) => isName s
theorem C_impl_nameOk_eq (s : List UInt8) (h : s.length ≤ 1048576) : C_impl_nameOk [.str s] = some (.bool ((isName s))) := c1_eq strT h
theorem ok_impl_nameOk {WI : World → Prop} (hs : Stable WI) (cs) (hT : TOK (EE cs) WI) (h1 : (EE cs).T 156 = some C_impl_isLetter) (h2 : (EE cs).T 157 = some C_impl_isDigit) (h3 : (EE cs).T 44 = some C_impl_in) : PureOK Tryd.prog WI 150 C_impl_nameOk := by
  refine pure1 (E := EE cs) hT hs (by rw [st_impl_nameOk]; rfl) fun s hp => out_wp (n := 0) (st_impl_nameOk cs) ?_
  simp only [go_sem, kSt_ptr, Nat.reduceBEq, Nat.reduceAdd, Nat.reduceEqDiff, Nat.reduceLeDiff, Nat.reduceSub, reduceIte, Int.reduceBEq, Int.reduceEq, Int.reduceLT, Int.reduceLE, Int.reduceGT, Int.reduceGE, Int.reduceNe, Int.reduceBNe, s_impl_nameOk]
  refine (wl_all (l := s) (fun pre b => nameB pre b) (fun pre e h => e 0 = .str s ∧ e 3 = .int .i64 pre.length) (.exit 0) (fun e h => e 0 = .str s) (fun e h => e 2 = .bool false) (by omega) ?_ ?_ ?_ (by simp) s [] _ _ rfl ?_).mono ?_
  · rintro pre b rest e h a hp ⟨q0, ix⟩
    cases c1 : smallB b <;> cases c2 : ((pre.length : Int) == 0) <;> cases c3 : digitB b <;> simp [nameB, c1, c2, c3] at hp
    all_goals simp only [go_sem, kSt_ptr, Nat.reduceBEq, Nat.reduceAdd, Nat.reduceEqDiff, Nat.reduceLeDiff, Nat.reduceSub, reduceIte, Int.reduceBEq, Int.reduceEq, Int.reduceLT, Int.reduceLE, Int.reduceGT, Int.reduceGE, Int.reduceNe, Int.reduceBNe, s_impl_nameOk_L0, q0, ix, a.dl, kIx_at a.hl, hp, a.hw, h1, h2, C_impl_isLetter_eq b trivial, C_impl_isDigit_eq b trivial, c1, c2, c3]
  · rintro pre b rest e h a hp ⟨q0, ix⟩
    cases c1 : smallB b <;> cases c2 : ((pre.length : Int) == 0) <;> cases c3 : digitB b <;> simp [nameB, c1, c2, c3] at hp
    all_goals simp only [go_sem, kSt_ptr, Nat.reduceBEq, Nat.reduceAdd, Nat.reduceEqDiff, Nat.reduceLeDiff, Nat.reduceSub, reduceIte, Int.reduceBEq, Int.reduceEq, Int.reduceLT, Int.reduceLE, Int.reduceGT, Int.reduceGE, Int.reduceNe, Int.reduceBNe, s_impl_nameOk_L0, q0, ix, a.dl, kIx_at a.hl, hp, a.hw, h1, h2, C_impl_isLetter_eq b trivial, C_impl_isDigit_eq b trivial, c1, c2, c3]
  · rintro e h ⟨q0, ix⟩
    simp only [go_sem, kSt_ptr, Nat.reduceBEq, Nat.reduceAdd, Nat.reduceEqDiff, Nat.reduceLeDiff, Nat.reduceSub, reduceIte, Int.reduceBEq, Int.reduceEq, Int.reduceLT, Int.reduceLE, Int.reduceGT, Int.reduceGE, Int.reduceNe, Int.reduceBNe, s_impl_nameOk_L0, q0, ix]
  · simp only [go_sem, kSt_ptr, Nat.reduceBEq, Nat.reduceAdd, Nat.reduceEqDiff, Nat.reduceLeDiff, Nat.reduceSub, reduceIte, Int.reduceBEq, Int.reduceEq, Int.reduceLT, Int.reduceLE, Int.reduceGT, Int.reduceGE, Int.reduceNe, Int.reduceBNe, and_self]
  · rintro x e h (⟨hp, rfl, j0⟩ | ⟨hp, rfl, j⟩)
    · simp only [go_sem, kSt_ptr, Nat.reduceBEq, Nat.reduceAdd, Nat.reduceEqDiff, Nat.reduceLeDiff, Nat.reduceSub, reduceIte, Int.reduceBEq, Int.reduceEq, Int.reduceLT, Int.reduceLE, Int.reduceGT, Int.reduceGE, Int.reduceNe, Int.reduceBNe, j0, h3, C_impl_in_eq, isName, hp]
    · simp only [go_sem, kSt_ptr, Nat.reduceBEq, Nat.reduceAdd, Nat.reduceEqDiff, Nat.reduceLeDiff, Nat.reduceSub, reduceIte, Int.reduceBEq, Int.reduceEq, Int.reduceLT, Int.reduceLE, Int.reduceGT, Int.reduceGE, Int.reduceNe, Int.reduceBNe, s_impl_nameOk, j, isName, hp]
noncomputable def C_impl_isFree := c1 strT (fun (s : List UInt8) => s.length ≤ 1048576) (.bool) fun (s : List UInt8) => freeW s
theorem C_impl_isFree_eq (s : List UInt8) (h : s.length ≤ 1048576) : C_impl_isFree [.str s] = some (.bool ((freeW s))) := c1_eq strT h
theorem ok_impl_isFree {WI : World → Prop} (hs : Stable WI) (cs) (hT : TOK (EE cs) WI) (h1 : (EE cs).T 50 = some C_strings_Split) (h2 : (EE cs).T 150 = some C_impl_nameOk) : PureOK Tryd.prog WI 138 C_impl_isFree := by
  refine pure1 (E := EE cs) hT hs (by rw [st_impl_isFree]; rfl) fun s hp => out_wp (n := 0) (st_impl_isFree cs) ?_
  have c1 : C_strings_Split [.str [116, 97, 98, 108, 101, 32, 112, 114, 105, 109, 97, 114, 121, 32, 117, 110, 105, 113, 117, 101, 32, 105, 110, 100, 101, 120, 32, 110, 117, 108, 108, 32, 100, 101, 115, 99, 32, 105, 110, 116, 32, 110, 117, 109, 32, 116, 101, 120, 116, 32, 98, 111, 111, 108], .str [32]] = some (.imm (words.map strT.row)) := by
    rw [← words_split]
    exact C_strings_Split_eq wordsText [32] (by decide)
  have c2 := C_impl_nameOk_eq s hp
  simp only [go_sem, kSt_ptr, Nat.reduceBEq, Nat.reduceAdd, Nat.reduceEqDiff, Nat.reduceLeDiff, Nat.reduceSub, reduceIte, Int.reduceBEq, Int.reduceEq, Int.reduceLT, Int.reduceLE, Int.reduceGT, Int.reduceGE, Int.reduceNe, Int.reduceBNe, s_impl_isFree, h1, c1]
  refine (wl_all (l := words) (fun pre w => !(w == s)) (fun pre e h => e 0 = .str s ∧ e 5 = .imm (words.map strT.row) ∧ e 7 = .int .i64 pre.length ∧ e 6 = .int .i64 (words).length) (.exit 0) (fun e h => e 0 = .str s ∧ e 5 = .imm (words.map strT.row)) (fun e h => e 2 = .bool false) (by decide) ?_ ?_ ?_ (by simp) words [] _ _ rfl ?_).mono ?_
  · rintro pre w rest e h a hp ⟨q0, q1, ix, nx⟩
    have hq : (w == s) = false := by simpa using hp
    simp only [go_sem, kSt_ptr, Nat.reduceBEq, Nat.reduceAdd, Nat.reduceEqDiff, Nat.reduceLeDiff, Nat.reduceSub, reduceIte, Int.reduceBEq, Int.reduceEq, Int.reduceLT, Int.reduceLE, Int.reduceGT, Int.reduceGE, Int.reduceNe, Int.reduceBNe, s_impl_isFree_L0, q0, q1, ix, nx, a.dl, a.ia (row := strT.row) (sz := 1) rfl, hp, a.hw, hq]
  · rintro pre w rest e h a hp ⟨q0, q1, ix, nx⟩
    have hq : (w == s) = true := by simpa using hp
    simp only [go_sem, kSt_ptr, Nat.reduceBEq, Nat.reduceAdd, Nat.reduceEqDiff, Nat.reduceLeDiff, Nat.reduceSub, reduceIte, Int.reduceBEq, Int.reduceEq, Int.reduceLT, Int.reduceLE, Int.reduceGT, Int.reduceGE, Int.reduceNe, Int.reduceBNe, s_impl_isFree_L0, q0, q1, ix, nx, a.dl, a.ia (row := strT.row) (sz := 1) rfl, hp, a.hw, hq]
  · rintro e h ⟨q0, q1, ix, nx⟩
    simp only [go_sem, kSt_ptr, Nat.reduceBEq, Nat.reduceAdd, Nat.reduceEqDiff, Nat.reduceLeDiff, Nat.reduceSub, reduceIte, Int.reduceBEq, Int.reduceEq, Int.reduceLT, Int.reduceLE, Int.reduceGT, Int.reduceGE, Int.reduceNe, Int.reduceBNe, s_impl_isFree_L0, q0, q1, ix, nx]
  · simp only [go_sem, kSt_ptr, Nat.reduceBEq, Nat.reduceAdd, Nat.reduceEqDiff, Nat.reduceLeDiff, Nat.reduceSub, reduceIte, Int.reduceBEq, Int.reduceEq, Int.reduceLT, Int.reduceLE, Int.reduceGT, Int.reduceGE, Int.reduceNe, Int.reduceBNe, and_self]
  · rintro x e h (⟨hp, rfl, j0, j1⟩ | ⟨hp, rfl, j⟩)
    · rw [allP_all] at hp
      simp only [go_sem, kSt_ptr, Nat.reduceBEq, Nat.reduceAdd, Nat.reduceEqDiff, Nat.reduceLeDiff, Nat.reduceSub, reduceIte, Int.reduceBEq, Int.reduceEq, Int.reduceLT, Int.reduceLE, Int.reduceGT, Int.reduceGE, Int.reduceNe, Int.reduceBNe, j0, h2, c2, freeW, hasS, hp]
    · rw [allP_all] at hp
      simp only [go_sem, kSt_ptr, Nat.reduceBEq, Nat.reduceAdd, Nat.reduceEqDiff, Nat.reduceLeDiff, Nat.reduceSub, reduceIte, Int.reduceBEq, Int.reduceEq, Int.reduceLT, Int.reduceLE, Int.reduceGT, Int.reduceGE, Int.reduceNe, Int.reduceBNe, s_impl_isFree, j, freeW, hasS, hp]
noncomputable def C_impl_namesOk := c1 tDef (fun (v : TDef) => tDef.cost v ≤ 1048576) (.bool) fun (v : TDef) => defNames v
theorem C_impl_namesOk_eq (v : TDef) (h : tDef.cost v ≤ 1048576) : C_impl_namesOk [.agg [.str v.fName, .imm (v.fCols.map TCol.row), .imm (v.fPrimary.map TBy.row), .imm (v.fIndexes.map TIndex.row)]] = some (.bool ((defNames v))) := c1_eq tDef h
theorem ok_impl_namesOk {WI : World → Prop} (hs : Stable WI) (cs) (hT : TOK (EE cs) WI) (h1 : (EE cs).T 138 = some C_impl_isFree) : PureOK Tryd.prog WI 117 C_impl_namesOk := by
  refine pure1 (E := EE cs) hT hs (by rw [st_impl_namesOk]; rfl) fun v hp => out_wp (n := 0) (st_impl_namesOk cs) ?_
  obtain ⟨n1, n2, n3, n4, n5, n6⟩ := defLens hp
  simp only [go_sem, kSt_ptr, Nat.reduceBEq, Nat.reduceAdd, Nat.reduceEqDiff, Nat.reduceLeDiff, Nat.reduceSub, reduceIte, Int.reduceBEq, Int.reduceEq, Int.reduceLT, Int.reduceLE, Int.reduceGT, Int.reduceGE, Int.reduceNe, Int.reduceBNe, s_impl_namesOk, TDef.row]
  refine (wl_all (l := v.fCols) (fun pre c => freeW c.fName) (fun pre e h => e 1 = .ptr 0 0 ∧ h.hp 0 = some v.row ∧ e 8 = .imm (v.fCols.map TCol.row) ∧ 0 < h.nx ∧ e 10 = .int .i64 pre.length ∧ e 9 = .int .i64 (v.fCols).length) (.exit 0) (fun e h => e 1 = .ptr 0 0 ∧ h.hp 0 = some v.row ∧ e 8 = .imm (v.fCols.map TCol.row) ∧ 0 < h.nx) (fun e h => e 2 = .bool false) (by omega) ?_ ?_ ?_ (by simp) v.fCols [] _ _ rfl ?_).mono ?_
  · rintro pre c rest e h a hp ⟨q0, q1, q2, q3, ix, nx⟩
    have hne : ¬ 0 = h.nx := by omega
    simp only [go_sem, kSt_ptr, Nat.reduceBEq, Nat.reduceAdd, Nat.reduceEqDiff, Nat.reduceLeDiff, Nat.reduceSub, reduceIte, Int.reduceBEq, Int.reduceEq, Int.reduceLT, Int.reduceLE, Int.reduceGT, Int.reduceGE, Int.reduceNe, Int.reduceBNe, s_impl_namesOk_L0, q0, q1, q2, q3, ix, nx, a.dl, a.ia (row := TCol.row) (sz := 3) rfl, hp, a.hw, TDef.row, TCol.row, h1, C_impl_isFree_eq c.fName (n5 c a.mem), hne]
  · rintro pre c rest e h a hp ⟨q0, q1, q2, q3, ix, nx⟩
    have hne : ¬ 0 = h.nx := by omega
    simp only [go_sem, kSt_ptr, Nat.reduceBEq, Nat.reduceAdd, Nat.reduceEqDiff, Nat.reduceLeDiff, Nat.reduceSub, reduceIte, Int.reduceBEq, Int.reduceEq, Int.reduceLT, Int.reduceLE, Int.reduceGT, Int.reduceGE, Int.reduceNe, Int.reduceBNe, s_impl_namesOk_L0, q0, q1, q2, q3, ix, nx, a.dl, a.ia (row := TCol.row) (sz := 3) rfl, hp, a.hw, TDef.row, TCol.row, h1, C_impl_isFree_eq c.fName (n5 c a.mem), hne]
  · rintro e h ⟨q0, q1, q2, q3, ix, nx⟩
    simp only [go_sem, kSt_ptr, Nat.reduceBEq, Nat.reduceAdd, Nat.reduceEqDiff, Nat.reduceLeDiff, Nat.reduceSub, reduceIte, Int.reduceBEq, Int.reduceEq, Int.reduceLT, Int.reduceLE, Int.reduceGT, Int.reduceGE, Int.reduceNe, Int.reduceBNe, s_impl_namesOk_L0, q0, q1, q2, q3, ix, nx, TDef.row]
  · simp only [go_sem, kSt_ptr, Nat.reduceBEq, Nat.reduceAdd, Nat.reduceEqDiff, Nat.reduceLeDiff, Nat.reduceSub, reduceIte, Int.reduceBEq, Int.reduceEq, Int.reduceLT, Int.reduceLE, Int.reduceGT, Int.reduceGE, Int.reduceNe, Int.reduceBNe, TDef.row]
  · rintro x e h (⟨hp, rfl, j0, j1, j2, j3⟩ | ⟨hp, rfl, j⟩)
    · rw [allP_all] at hp
      simp only [go_sem, kSt_ptr, Nat.reduceBEq, Nat.reduceAdd, Nat.reduceEqDiff, Nat.reduceLeDiff, Nat.reduceSub, reduceIte, Int.reduceBEq, Int.reduceEq, Int.reduceLT, Int.reduceLE, Int.reduceGT, Int.reduceGE, Int.reduceNe, Int.reduceBNe, j0, j1, TDef.row]
      refine (wl_all (l := v.fIndexes) (fun pre c => freeW c.fName) (fun pre e h => e 1 = .ptr 0 0 ∧ h.hp 0 = some v.row ∧ e 20 = .imm (v.fIndexes.map TIndex.row) ∧ 0 < h.nx ∧ e 22 = .int .i64 pre.length ∧ e 21 = .int .i64 (v.fIndexes).length) (.exit 2) (fun e h => e 1 = .ptr 0 0 ∧ h.hp 0 = some v.row ∧ e 20 = .imm (v.fIndexes.map TIndex.row) ∧ 0 < h.nx) (fun e h => e 2 = .bool false) (by omega) ?_ ?_ ?_ (by simp) v.fIndexes [] _ _ rfl ?_).mono ?_
      · rintro pre c rest e h a hp ⟨q0, q1, q2, q3, ix, nx⟩
        have hne : ¬ 0 = h.nx := by omega
        simp only [go_sem, kSt_ptr, Nat.reduceBEq, Nat.reduceAdd, Nat.reduceEqDiff, Nat.reduceLeDiff, Nat.reduceSub, reduceIte, Int.reduceBEq, Int.reduceEq, Int.reduceLT, Int.reduceLE, Int.reduceGT, Int.reduceGE, Int.reduceNe, Int.reduceBNe, s_impl_namesOk_L1, q0, q1, q2, q3, ix, nx, a.dl, a.ia (row := TIndex.row) (sz := 3) rfl, hp, a.hw, TDef.row, TIndex.row, h1, C_impl_isFree_eq c.fName (n6 c a.mem).1, hne]
      · rintro pre c rest e h a hp ⟨q0, q1, q2, q3, ix, nx⟩
        have hne : ¬ 0 = h.nx := by omega
        simp only [go_sem, kSt_ptr, Nat.reduceBEq, Nat.reduceAdd, Nat.reduceEqDiff, Nat.reduceLeDiff, Nat.reduceSub, reduceIte, Int.reduceBEq, Int.reduceEq, Int.reduceLT, Int.reduceLE, Int.reduceGT, Int.reduceGE, Int.reduceNe, Int.reduceBNe, s_impl_namesOk_L1, q0, q1, q2, q3, ix, nx, a.dl, a.ia (row := TIndex.row) (sz := 3) rfl, hp, a.hw, TDef.row, TIndex.row, h1, C_impl_isFree_eq c.fName (n6 c a.mem).1, hne]
      · rintro e h ⟨q0, q1, q2, q3, ix, nx⟩
        simp only [go_sem, kSt_ptr, Nat.reduceBEq, Nat.reduceAdd, Nat.reduceEqDiff, Nat.reduceLeDiff, Nat.reduceSub, reduceIte, Int.reduceBEq, Int.reduceEq, Int.reduceLT, Int.reduceLE, Int.reduceGT, Int.reduceGE, Int.reduceNe, Int.reduceBNe, s_impl_namesOk_L1, q0, q1, q2, q3, ix, nx, TDef.row]
      · simp only [go_sem, kSt_ptr, Nat.reduceBEq, Nat.reduceAdd, Nat.reduceEqDiff, Nat.reduceLeDiff, Nat.reduceSub, reduceIte, Int.reduceBEq, Int.reduceEq, Int.reduceLT, Int.reduceLE, Int.reduceGT, Int.reduceGE, Int.reduceNe, Int.reduceBNe, j0, j1, j3, TDef.row]
      · rintro x e h (⟨hp2, rfl, j0, j1, j2, j3⟩ | ⟨hp2, rfl, j⟩)
        · rw [allP_all] at hp2
          simp only [go_sem, kSt_ptr, Nat.reduceBEq, Nat.reduceAdd, Nat.reduceEqDiff, Nat.reduceLeDiff, Nat.reduceSub, reduceIte, Int.reduceBEq, Int.reduceEq, Int.reduceLT, Int.reduceLE, Int.reduceGT, Int.reduceGE, Int.reduceNe, Int.reduceBNe, j0, j1, TDef.row, h1, C_impl_isFree_eq v.fName n1, defNames, hp, hp2]
        · rw [allP_all] at hp2
          simp only [go_sem, kSt_ptr, Nat.reduceBEq, Nat.reduceAdd, Nat.reduceEqDiff, Nat.reduceLeDiff, Nat.reduceSub, reduceIte, Int.reduceBEq, Int.reduceEq, Int.reduceLT, Int.reduceLE, Int.reduceGT, Int.reduceGE, Int.reduceNe, Int.reduceBNe, s_impl_namesOk, j, defNames, hp, hp2]
    · rw [allP_all] at hp
      simp only [go_sem, kSt_ptr, Nat.reduceBEq, Nat.reduceAdd, Nat.reduceEqDiff, Nat.reduceLeDiff, Nat.reduceSub, reduceIte, Int.reduceBEq, Int.reduceEq, Int.reduceLT, Int.reduceLE, Int.reduceGT, Int.reduceGE, Int.reduceNe, Int.reduceBNe, s_impl_namesOk, j, defNames, hp]
noncomputable def C_impl_twice := c1 tDef (fun (v : TDef) => tDef.cost v ≤ 1048576) (.bool) fun (v : TDef) => !defOnce v
theorem C_impl_twice_eq (v : TDef) (h : tDef.cost v ≤ 1048576) : C_impl_twice [.agg [.str v.fName, .imm (v.fCols.map TCol.row), .imm (v.fPrimary.map TBy.row), .imm (v.fIndexes.map TIndex.row)]] = some (.bool ((!defOnce v))) := c1_eq tDef h
theorem ok_impl_twice {WI : World → Prop} (hs : Stable WI) (cs) (hT : TOK (EE cs) WI) : PureOK Tryd.prog WI 118 C_impl_twice := by
  refine pure1 (E := EE cs) hT hs (by rw [st_impl_twice]; rfl) fun v hp => out_wp (n := 0) (st_impl_twice cs) ?_
  obtain ⟨n1, n2, n3, n4, n5, n6⟩ := defLens hp
  have in1 : ∀ pre c rest, At v.fCols pre c rest → ∀ e h b, e 1 = .ptr 0 0 → h.hp 0 = some v.row → e 12 = .imm (v.fCols.map TCol.row) → e 13 = .int .i64 v.fCols.length → e 14 = .int .i64 pre.length → e 4 = .ptr b 0 → h.hp b = some c.row → b < h.nx → 0 < h.nx → e 22 = .imm (pre.map TCol.row) → e 23 = .int .i64 pre.length → e 24 = .int .i64 0 → WL (EE cs) s_impl_twice_L0 e h fun x e' h' => (onceC pre c = true ∧ x = .exit 2 ∧ e' 1 = .ptr 0 0 ∧ h'.hp 0 = some v.row ∧ e' 12 = .imm (v.fCols.map TCol.row) ∧ e' 13 = .int .i64 v.fCols.length ∧ e' 14 = .int .i64 pre.length ∧ 0 < h'.nx) ∨ (onceC pre c = false ∧ x = .ret ∧ e' 2 = .bool true) := by
    intro pre0 c rest0 a0 e h b k0 k1 k2 k3 k4 k5 k6 k7 k8 k9 k10 k11
    have hlt0 := a0.lt
    refine (wl_all (l := pre0) (fun pre y => !(y.fName == c.fName)) (fun pre e h => e 1 = .ptr 0 0 ∧ h.hp 0 = some v.row ∧ e 12 = .imm (v.fCols.map TCol.row) ∧ e 13 = .int .i64 v.fCols.length ∧ e 14 = .int .i64 pre0.length ∧ e 4 = .ptr b 0 ∧ h.hp b = some c.row ∧ b < h.nx ∧ 0 < h.nx ∧ e 22 = .imm (pre0.map TCol.row) ∧ e 24 = .int .i64 pre.length ∧ e 23 = .int .i64 (pre0).length) (.exit 2) (fun e h => e 1 = .ptr 0 0 ∧ h.hp 0 = some v.row ∧ e 12 = .imm (v.fCols.map TCol.row) ∧ e 13 = .int .i64 v.fCols.length ∧ e 14 = .int .i64 pre0.length ∧ 0 < h.nx) (fun e h => e 2 = .bool true) (by omega) ?_ ?_ ?_ (by simp) pre0 [] _ _ rfl ?_).mono ?_
    · rintro pre y rest e h a hp ⟨q0, q1, q2, q3, q4, q5, q6, q7, q8, q9, ix, nx⟩
      have hne : ¬ 0 = h.nx := by omega
      have hne2 : ¬ b = h.nx := by omega
      have hq : (y.fName == c.fName) = false := by simpa using hp
      have hb1 : b < h.nx + 1 := by omega
      simp only [go_sem, kSt_ptr, Nat.reduceBEq, Nat.reduceAdd, Nat.reduceEqDiff, Nat.reduceLeDiff, Nat.reduceSub, reduceIte, Int.reduceBEq, Int.reduceEq, Int.reduceLT, Int.reduceLE, Int.reduceGT, Int.reduceGE, Int.reduceNe, Int.reduceBNe, s_impl_twice_L0, q0, q1, q2, q3, q4, q5, q6, q7, q8, q9, ix, nx, a.dl, a.ia (row := TCol.row) (sz := 3) rfl, hp, a.hw, TCol.row, hq, hne, hne2, hb1]
    · rintro pre y rest e h a hp ⟨q0, q1, q2, q3, q4, q5, q6, q7, q8, q9, ix, nx⟩
      have hne : ¬ 0 = h.nx := by omega
      have hne2 : ¬ b = h.nx := by omega
      have hq : (y.fName == c.fName) = true := by simpa using hp
      simp only [go_sem, kSt_ptr, Nat.reduceBEq, Nat.reduceAdd, Nat.reduceEqDiff, Nat.reduceLeDiff, Nat.reduceSub, reduceIte, Int.reduceBEq, Int.reduceEq, Int.reduceLT, Int.reduceLE, Int.reduceGT, Int.reduceGE, Int.reduceNe, Int.reduceBNe, s_impl_twice_L0, q0, q1, q2, q3, q4, q5, q6, q7, q8, q9, ix, nx, a.dl, a.ia (row := TCol.row) (sz := 3) rfl, hp, a.hw, TCol.row, hq, hne, hne2]
    · rintro e h ⟨q0, q1, q2, q3, q4, q5, q6, q7, q8, q9, ix, nx⟩
      simp only [go_sem, kSt_ptr, Nat.reduceBEq, Nat.reduceAdd, Nat.reduceEqDiff, Nat.reduceLeDiff, Nat.reduceSub, reduceIte, Int.reduceBEq, Int.reduceEq, Int.reduceLT, Int.reduceLE, Int.reduceGT, Int.reduceGE, Int.reduceNe, Int.reduceBNe, s_impl_twice_L0, q0, q1, q2, q3, q4, q5, q6, q7, q8, q9, ix, nx]
    · simp only [go_sem, kSt_ptr, Nat.reduceBEq, Nat.reduceAdd, Nat.reduceEqDiff, Nat.reduceLeDiff, Nat.reduceSub, reduceIte, Int.reduceBEq, Int.reduceEq, Int.reduceLT, Int.reduceLE, Int.reduceGT, Int.reduceGE, Int.reduceNe, Int.reduceBNe, k0, k1, k2, k3, k4, k5, k6, k7, k8, k9, k10, k11]
    · rintro x e' h' (⟨hp, rfl, j⟩ | ⟨hp, rfl, j⟩)
      · rw [allP_all] at hp
        exact .inl ⟨hp, rfl, j⟩
      · rw [allP_all] at hp
        exact .inr ⟨hp, rfl, j⟩
  have in2 : ∀ pre c rest, At v.fIndexes pre c rest → ∀ e h b, e 1 = .ptr 0 0 → h.hp 0 = some v.row → e 36 = .imm (v.fIndexes.map TIndex.row) → e 37 = .int .i64 v.fIndexes.length → e 38 = .int .i64 pre.length → e 8 = .ptr b 0 → h.hp b = some c.row → b < h.nx → 0 < h.nx → e 46 = .imm (pre.map TIndex.row) → e 47 = .int .i64 pre.length → e 48 = .int .i64 0 → WL (EE cs) s_impl_twice_L2 e h fun x e' h' => (onceX pre c = true ∧ x = .exit 6 ∧ e' 1 = .ptr 0 0 ∧ h'.hp 0 = some v.row ∧ e' 36 = .imm (v.fIndexes.map TIndex.row) ∧ e' 37 = .int .i64 v.fIndexes.length ∧ e' 38 = .int .i64 pre.length ∧ 0 < h'.nx) ∨ (onceX pre c = false ∧ x = .ret ∧ e' 2 = .bool true) := by
    intro pre0 c rest0 a0 e h b k0 k1 k2 k3 k4 k5 k6 k7 k8 k9 k10 k11
    have hlt0 := a0.lt
    refine (wl_all (l := pre0) (fun pre y => !(y.fName == c.fName)) (fun pre e h => e 1 = .ptr 0 0 ∧ h.hp 0 = some v.row ∧ e 36 = .imm (v.fIndexes.map TIndex.row) ∧ e 37 = .int .i64 v.fIndexes.length ∧ e 38 = .int .i64 pre0.length ∧ e 8 = .ptr b 0 ∧ h.hp b = some c.row ∧ b < h.nx ∧ 0 < h.nx ∧ e 46 = .imm (pre0.map TIndex.row) ∧ e 48 = .int .i64 pre.length ∧ e 47 = .int .i64 (pre0).length) (.exit 6) (fun e h => e 1 = .ptr 0 0 ∧ h.hp 0 = some v.row ∧ e 36 = .imm (v.fIndexes.map TIndex.row) ∧ e 37 = .int .i64 v.fIndexes.length ∧ e 38 = .int .i64 pre0.length ∧ 0 < h.nx) (fun e h => e 2 = .bool true) (by omega) ?_ ?_ ?_ (by simp) pre0 [] _ _ rfl ?_).mono ?_
    · rintro pre y rest e h a hp ⟨q0, q1, q2, q3, q4, q5, q6, q7, q8, q9, ix, nx⟩
      have hne : ¬ 0 = h.nx := by omega
      have hne2 : ¬ b = h.nx := by omega
      have hq : (y.fName == c.fName) = false := by simpa using hp
      have hb1 : b < h.nx + 1 := by omega
      simp only [go_sem, kSt_ptr, Nat.reduceBEq, Nat.reduceAdd, Nat.reduceEqDiff, Nat.reduceLeDiff, Nat.reduceSub, reduceIte, Int.reduceBEq, Int.reduceEq, Int.reduceLT, Int.reduceLE, Int.reduceGT, Int.reduceGE, Int.reduceNe, Int.reduceBNe, s_impl_twice_L2, q0, q1, q2, q3, q4, q5, q6, q7, q8, q9, ix, nx, a.dl, a.ia (row := TIndex.row) (sz := 3) rfl, hp, a.hw, TIndex.row, hq, hne, hne2, hb1]
    · rintro pre y rest e h a hp ⟨q0, q1, q2, q3, q4, q5, q6, q7, q8, q9, ix, nx⟩
      have hne : ¬ 0 = h.nx := by omega
      have hne2 : ¬ b = h.nx := by omega
      have hq : (y.fName == c.fName) = true := by simpa using hp
      simp only [go_sem, kSt_ptr, Nat.reduceBEq, Nat.reduceAdd, Nat.reduceEqDiff, Nat.reduceLeDiff, Nat.reduceSub, reduceIte, Int.reduceBEq, Int.reduceEq, Int.reduceLT, Int.reduceLE, Int.reduceGT, Int.reduceGE, Int.reduceNe, Int.reduceBNe, s_impl_twice_L2, q0, q1, q2, q3, q4, q5, q6, q7, q8, q9, ix, nx, a.dl, a.ia (row := TIndex.row) (sz := 3) rfl, hp, a.hw, TIndex.row, hq, hne, hne2]
    · rintro e h ⟨q0, q1, q2, q3, q4, q5, q6, q7, q8, q9, ix, nx⟩
      simp only [go_sem, kSt_ptr, Nat.reduceBEq, Nat.reduceAdd, Nat.reduceEqDiff, Nat.reduceLeDiff, Nat.reduceSub, reduceIte, Int.reduceBEq, Int.reduceEq, Int.reduceLT, Int.reduceLE, Int.reduceGT, Int.reduceGE, Int.reduceNe, Int.reduceBNe, s_impl_twice_L2, q0, q1, q2, q3, q4, q5, q6, q7, q8, q9, ix, nx]
    · simp only [go_sem, kSt_ptr, Nat.reduceBEq, Nat.reduceAdd, Nat.reduceEqDiff, Nat.reduceLeDiff, Nat.reduceSub, reduceIte, Int.reduceBEq, Int.reduceEq, Int.reduceLT, Int.reduceLE, Int.reduceGT, Int.reduceGE, Int.reduceNe, Int.reduceBNe, k0, k1, k2, k3, k4, k5, k6, k7, k8, k9, k10, k11]
    · rintro x e' h' (⟨hp, rfl, j⟩ | ⟨hp, rfl, j⟩)
      · rw [allP_all] at hp
        exact .inl ⟨hp, rfl, j⟩
      · rw [allP_all] at hp
        exact .inr ⟨hp, rfl, j⟩
  simp only [go_sem, kSt_ptr, Nat.reduceBEq, Nat.reduceAdd, Nat.reduceEqDiff, Nat.reduceLeDiff, Nat.reduceSub, reduceIte, Int.reduceBEq, Int.reduceEq, Int.reduceLT, Int.reduceLE, Int.reduceGT, Int.reduceGE, Int.reduceNe, Int.reduceBNe, s_impl_twice, TDef.row]
  refine (wl_all (l := v.fCols) (fun pre c => onceC pre c) (fun pre e h => e 1 = .ptr 0 0 ∧ h.hp 0 = some v.row ∧ e 12 = .imm (v.fCols.map TCol.row) ∧ 0 < h.nx ∧ e 14 = .int .i64 pre.length ∧ e 13 = .int .i64 (v.fCols).length) (.exit 0) (fun e h => e 1 = .ptr 0 0 ∧ h.hp 0 = some v.row ∧ e 12 = .imm (v.fCols.map TCol.row) ∧ 0 < h.nx) (fun e h => e 2 = .bool true) (by omega) ?_ ?_ ?_ (by simp) v.fCols [] _ _ rfl ?_).mono ?_
  · rintro pre c rest e h a hp ⟨q0, q1, q2, q3, ix, nx⟩
    have hne : ¬ 0 = h.nx := by omega
    simp only [go_sem, kSt_ptr, Nat.reduceBEq, Nat.reduceAdd, Nat.reduceEqDiff, Nat.reduceLeDiff, Nat.reduceSub, reduceIte, Int.reduceBEq, Int.reduceEq, Int.reduceLT, Int.reduceLE, Int.reduceGT, Int.reduceGE, Int.reduceNe, Int.reduceBNe, s_impl_twice_L1, q0, q1, q2, q3, ix, nx, a.dl, a.ia (row := TCol.row) (sz := 3) rfl, hp, a.hw, TDef.row, TCol.row, hne, kSl_pre (row := TCol.row) (sz := 3) a.hl (fun _ => rfl) (by decide)]
    refine (in1 pre c rest a _ _ h.nx (by simp only [go_sem, kSt_ptr, Nat.reduceBEq, Nat.reduceAdd, Nat.reduceEqDiff, Nat.reduceLeDiff, Nat.reduceSub, reduceIte, Int.reduceBEq, Int.reduceEq, Int.reduceLT, Int.reduceLE, Int.reduceGT, Int.reduceGE, Int.reduceNe, Int.reduceBNe, q0]) (by simp only [go_sem, kSt_ptr, Nat.reduceBEq, Nat.reduceAdd, Nat.reduceEqDiff, Nat.reduceLeDiff, Nat.reduceSub, reduceIte, Int.reduceBEq, Int.reduceEq, Int.reduceLT, Int.reduceLE, Int.reduceGT, Int.reduceGE, Int.reduceNe, Int.reduceBNe, hne, q1]) (by simp only [go_sem, kSt_ptr, Nat.reduceBEq, Nat.reduceAdd, Nat.reduceEqDiff, Nat.reduceLeDiff, Nat.reduceSub, reduceIte, Int.reduceBEq, Int.reduceEq, Int.reduceLT, Int.reduceLE, Int.reduceGT, Int.reduceGE, Int.reduceNe, Int.reduceBNe, q2]) (by simp only [go_sem, kSt_ptr, Nat.reduceBEq, Nat.reduceAdd, Nat.reduceEqDiff, Nat.reduceLeDiff, Nat.reduceSub, reduceIte, Int.reduceBEq, Int.reduceEq, Int.reduceLT, Int.reduceLE, Int.reduceGT, Int.reduceGE, Int.reduceNe, Int.reduceBNe, nx]) (by simp only [go_sem, kSt_ptr, Nat.reduceBEq, Nat.reduceAdd, Nat.reduceEqDiff, Nat.reduceLeDiff, Nat.reduceSub, reduceIte, Int.reduceBEq, Int.reduceEq, Int.reduceLT, Int.reduceLE, Int.reduceGT, Int.reduceGE, Int.reduceNe, Int.reduceBNe, ix]) (by simp only [go_sem, kSt_ptr, Nat.reduceBEq, Nat.reduceAdd, Nat.reduceEqDiff, Nat.reduceLeDiff, Nat.reduceSub, reduceIte, Int.reduceBEq, Int.reduceEq, Int.reduceLT, Int.reduceLE, Int.reduceGT, Int.reduceGE, Int.reduceNe, Int.reduceBNe]) (by simp only [go_sem, kSt_ptr, Nat.reduceBEq, Nat.reduceAdd, Nat.reduceEqDiff, Nat.reduceLeDiff, Nat.reduceSub, reduceIte, Int.reduceBEq, Int.reduceEq, Int.reduceLT, Int.reduceLE, Int.reduceGT, Int.reduceGE, Int.reduceNe, Int.reduceBNe, TCol.row]) (by simp only [go_sem, kSt_ptr, Nat.reduceBEq, Nat.reduceAdd, Nat.reduceEqDiff, Nat.reduceLeDiff, Nat.reduceSub, reduceIte, Int.reduceBEq, Int.reduceEq, Int.reduceLT, Int.reduceLE, Int.reduceGT, Int.reduceGE, Int.reduceNe, Int.reduceBNe, Nat.lt_succ_self]) (by simp only [go_sem, kSt_ptr, Nat.reduceBEq, Nat.reduceAdd, Nat.reduceEqDiff, Nat.reduceLeDiff, Nat.reduceSub, reduceIte, Int.reduceBEq, Int.reduceEq, Int.reduceLT, Int.reduceLE, Int.reduceGT, Int.reduceGE, Int.reduceNe, Int.reduceBNe]) (by simp only [go_sem, kSt_ptr, Nat.reduceBEq, Nat.reduceAdd, Nat.reduceEqDiff, Nat.reduceLeDiff, Nat.reduceSub, reduceIte, Int.reduceBEq, Int.reduceEq, Int.reduceLT, Int.reduceLE, Int.reduceGT, Int.reduceGE, Int.reduceNe, Int.reduceBNe]) (by simp only [go_sem, kSt_ptr, Nat.reduceBEq, Nat.reduceAdd, Nat.reduceEqDiff, Nat.reduceLeDiff, Nat.reduceSub, reduceIte, Int.reduceBEq, Int.reduceEq, Int.reduceLT, Int.reduceLE, Int.reduceGT, Int.reduceGE, Int.reduceNe, Int.reduceBNe]) (by simp only [go_sem, kSt_ptr, Nat.reduceBEq, Nat.reduceAdd, Nat.reduceEqDiff, Nat.reduceLeDiff, Nat.reduceSub, reduceIte, Int.reduceBEq, Int.reduceEq, Int.reduceLT, Int.reduceLE, Int.reduceGT, Int.reduceGE, Int.reduceNe, Int.reduceBNe])).mono ?_
    rintro x e' h' (⟨hq, rfl, k0, k1, k2, k3, k4, k5⟩ | ⟨hq, rfl, k⟩)
    · simp only [go_sem, kSt_ptr, Nat.reduceBEq, Nat.reduceAdd, Nat.reduceEqDiff, Nat.reduceLeDiff, Nat.reduceSub, reduceIte, Int.reduceBEq, Int.reduceEq, Int.reduceLT, Int.reduceLE, Int.reduceGT, Int.reduceGE, Int.reduceNe, Int.reduceBNe, k0, k1, k2, k3, k4, k5, TDef.row, a.hw]
    · rw [hp] at hq; cases hq
  · rintro pre c rest e h a hp ⟨q0, q1, q2, q3, ix, nx⟩
    have hne : ¬ 0 = h.nx := by omega
    simp only [go_sem, kSt_ptr, Nat.reduceBEq, Nat.reduceAdd, Nat.reduceEqDiff, Nat.reduceLeDiff, Nat.reduceSub, reduceIte, Int.reduceBEq, Int.reduceEq, Int.reduceLT, Int.reduceLE, Int.reduceGT, Int.reduceGE, Int.reduceNe, Int.reduceBNe, s_impl_twice_L1, q0, q1, q2, q3, ix, nx, a.dl, a.ia (row := TCol.row) (sz := 3) rfl, hp, a.hw, TDef.row, TCol.row, hne, kSl_pre (row := TCol.row) (sz := 3) a.hl (fun _ => rfl) (by decide)]
    refine (in1 pre c rest a _ _ h.nx (by simp only [go_sem, kSt_ptr, Nat.reduceBEq, Nat.reduceAdd, Nat.reduceEqDiff, Nat.reduceLeDiff, Nat.reduceSub, reduceIte, Int.reduceBEq, Int.reduceEq, Int.reduceLT, Int.reduceLE, Int.reduceGT, Int.reduceGE, Int.reduceNe, Int.reduceBNe, q0]) (by simp only [go_sem, kSt_ptr, Nat.reduceBEq, Nat.reduceAdd, Nat.reduceEqDiff, Nat.reduceLeDiff, Nat.reduceSub, reduceIte, Int.reduceBEq, Int.reduceEq, Int.reduceLT, Int.reduceLE, Int.reduceGT, Int.reduceGE, Int.reduceNe, Int.reduceBNe, hne, q1]) (by simp only [go_sem, kSt_ptr, Nat.reduceBEq, Nat.reduceAdd, Nat.reduceEqDiff, Nat.reduceLeDiff, Nat.reduceSub, reduceIte, Int.reduceBEq, Int.reduceEq, Int.reduceLT, Int.reduceLE, Int.reduceGT, Int.reduceGE, Int.reduceNe, Int.reduceBNe, q2]) (by simp only [go_sem, kSt_ptr, Nat.reduceBEq, Nat.reduceAdd, Nat.reduceEqDiff, Nat.reduceLeDiff, Nat.reduceSub, reduceIte, Int.reduceBEq, Int.reduceEq, Int.reduceLT, Int.reduceLE, Int.reduceGT, Int.reduceGE, Int.reduceNe, Int.reduceBNe, nx]) (by simp only [go_sem, kSt_ptr, Nat.reduceBEq, Nat.reduceAdd, Nat.reduceEqDiff, Nat.reduceLeDiff, Nat.reduceSub, reduceIte, Int.reduceBEq, Int.reduceEq, Int.reduceLT, Int.reduceLE, Int.reduceGT, Int.reduceGE, Int.reduceNe, Int.reduceBNe, ix]) (by simp only [go_sem, kSt_ptr, Nat.reduceBEq, Nat.reduceAdd, Nat.reduceEqDiff, Nat.reduceLeDiff, Nat.reduceSub, reduceIte, Int.reduceBEq, Int.reduceEq, Int.reduceLT, Int.reduceLE, Int.reduceGT, Int.reduceGE, Int.reduceNe, Int.reduceBNe]) (by simp only [go_sem, kSt_ptr, Nat.reduceBEq, Nat.reduceAdd, Nat.reduceEqDiff, Nat.reduceLeDiff, Nat.reduceSub, reduceIte, Int.reduceBEq, Int.reduceEq, Int.reduceLT, Int.reduceLE, Int.reduceGT, Int.reduceGE, Int.reduceNe, Int.reduceBNe, TCol.row]) (by simp only [go_sem, kSt_ptr, Nat.reduceBEq, Nat.reduceAdd, Nat.reduceEqDiff, Nat.reduceLeDiff, Nat.reduceSub, reduceIte, Int.reduceBEq, Int.reduceEq, Int.reduceLT, Int.reduceLE, Int.reduceGT, Int.reduceGE, Int.reduceNe, Int.reduceBNe, Nat.lt_succ_self]) (by simp only [go_sem, kSt_ptr, Nat.reduceBEq, Nat.reduceAdd, Nat.reduceEqDiff, Nat.reduceLeDiff, Nat.reduceSub, reduceIte, Int.reduceBEq, Int.reduceEq, Int.reduceLT, Int.reduceLE, Int.reduceGT, Int.reduceGE, Int.reduceNe, Int.reduceBNe]) (by simp only [go_sem, kSt_ptr, Nat.reduceBEq, Nat.reduceAdd, Nat.reduceEqDiff, Nat.reduceLeDiff, Nat.reduceSub, reduceIte, Int.reduceBEq, Int.reduceEq, Int.reduceLT, Int.reduceLE, Int.reduceGT, Int.reduceGE, Int.reduceNe, Int.reduceBNe]) (by simp only [go_sem, kSt_ptr, Nat.reduceBEq, Nat.reduceAdd, Nat.reduceEqDiff, Nat.reduceLeDiff, Nat.reduceSub, reduceIte, Int.reduceBEq, Int.reduceEq, Int.reduceLT, Int.reduceLE, Int.reduceGT, Int.reduceGE, Int.reduceNe, Int.reduceBNe]) (by simp only [go_sem, kSt_ptr, Nat.reduceBEq, Nat.reduceAdd, Nat.reduceEqDiff, Nat.reduceLeDiff, Nat.reduceSub, reduceIte, Int.reduceBEq, Int.reduceEq, Int.reduceLT, Int.reduceLE, Int.reduceGT, Int.reduceGE, Int.reduceNe, Int.reduceBNe])).mono ?_
    rintro x e' h' (⟨hq, rfl, k0, k1, k2, k3, k4, k5⟩ | ⟨hq, rfl, k⟩)
    · rw [hp] at hq; cases hq
    · simp only [go_sem, kSt_ptr, Nat.reduceBEq, Nat.reduceAdd, Nat.reduceEqDiff, Nat.reduceLeDiff, Nat.reduceSub, reduceIte, Int.reduceBEq, Int.reduceEq, Int.reduceLT, Int.reduceLE, Int.reduceGT, Int.reduceGE, Int.reduceNe, Int.reduceBNe, k]
  · rintro e h ⟨q0, q1, q2, q3, ix, nx⟩
    simp only [go_sem, kSt_ptr, Nat.reduceBEq, Nat.reduceAdd, Nat.reduceEqDiff, Nat.reduceLeDiff, Nat.reduceSub, reduceIte, Int.reduceBEq, Int.reduceEq, Int.reduceLT, Int.reduceLE, Int.reduceGT, Int.reduceGE, Int.reduceNe, Int.reduceBNe, s_impl_twice_L1, q0, q1, q2, q3, ix, nx, TDef.row]
  · simp only [go_sem, kSt_ptr, Nat.reduceBEq, Nat.reduceAdd, Nat.reduceEqDiff, Nat.reduceLeDiff, Nat.reduceSub, reduceIte, Int.reduceBEq, Int.reduceEq, Int.reduceLT, Int.reduceLE, Int.reduceGT, Int.reduceGE, Int.reduceNe, Int.reduceBNe, TDef.row]
  · rintro x e h (⟨hp1, rfl, j0, j1, j2, j3⟩ | ⟨hp1, rfl, j⟩)
    · simp only [go_sem, kSt_ptr, Nat.reduceBEq, Nat.reduceAdd, Nat.reduceEqDiff, Nat.reduceLeDiff, Nat.reduceSub, reduceIte, Int.reduceBEq, Int.reduceEq, Int.reduceLT, Int.reduceLE, Int.reduceGT, Int.reduceGE, Int.reduceNe, Int.reduceBNe, j0, j1, TDef.row]
      refine (wl_all (l := v.fIndexes) (fun pre c => onceX pre c) (fun pre e h => e 1 = .ptr 0 0 ∧ h.hp 0 = some v.row ∧ e 36 = .imm (v.fIndexes.map TIndex.row) ∧ 0 < h.nx ∧ e 38 = .int .i64 pre.length ∧ e 37 = .int .i64 (v.fIndexes).length) (.exit 4) (fun e h => e 1 = .ptr 0 0 ∧ h.hp 0 = some v.row ∧ e 36 = .imm (v.fIndexes.map TIndex.row) ∧ 0 < h.nx) (fun e h => e 2 = .bool true) (by omega) ?_ ?_ ?_ (by simp) v.fIndexes [] _ _ rfl ?_).mono ?_
      · rintro pre c rest e h a hp ⟨q0, q1, q2, q3, ix, nx⟩
        have hne : ¬ 0 = h.nx := by omega
        simp only [go_sem, kSt_ptr, Nat.reduceBEq, Nat.reduceAdd, Nat.reduceEqDiff, Nat.reduceLeDiff, Nat.reduceSub, reduceIte, Int.reduceBEq, Int.reduceEq, Int.reduceLT, Int.reduceLE, Int.reduceGT, Int.reduceGE, Int.reduceNe, Int.reduceBNe, s_impl_twice_L3, q0, q1, q2, q3, ix, nx, a.dl, a.ia (row := TIndex.row) (sz := 3) rfl, hp, a.hw, TDef.row, TIndex.row, hne, kSl_pre (row := TIndex.row) (sz := 3) a.hl (fun _ => rfl) (by decide)]
        refine (in2 pre c rest a _ _ h.nx (by simp only [go_sem, kSt_ptr, Nat.reduceBEq, Nat.reduceAdd, Nat.reduceEqDiff, Nat.reduceLeDiff, Nat.reduceSub, reduceIte, Int.reduceBEq, Int.reduceEq, Int.reduceLT, Int.reduceLE, Int.reduceGT, Int.reduceGE, Int.reduceNe, Int.reduceBNe, q0]) (by simp only [go_sem, kSt_ptr, Nat.reduceBEq, Nat.reduceAdd, Nat.reduceEqDiff, Nat.reduceLeDiff, Nat.reduceSub, reduceIte, Int.reduceBEq, Int.reduceEq, Int.reduceLT, Int.reduceLE, Int.reduceGT, Int.reduceGE, Int.reduceNe, Int.reduceBNe, hne, q1]) (by simp only [go_sem, kSt_ptr, Nat.reduceBEq, Nat.reduceAdd, Nat.reduceEqDiff, Nat.reduceLeDiff, Nat.reduceSub, reduceIte, Int.reduceBEq, Int.reduceEq, Int.reduceLT, Int.reduceLE, Int.reduceGT, Int.reduceGE, Int.reduceNe, Int.reduceBNe, q2]) (by simp only [go_sem, kSt_ptr, Nat.reduceBEq, Nat.reduceAdd, Nat.reduceEqDiff, Nat.reduceLeDiff, Nat.reduceSub, reduceIte, Int.reduceBEq, Int.reduceEq, Int.reduceLT, Int.reduceLE, Int.reduceGT, Int.reduceGE, Int.reduceNe, Int.reduceBNe, nx]) (by simp only [go_sem, kSt_ptr, Nat.reduceBEq, Nat.reduceAdd, Nat.reduceEqDiff, Nat.reduceLeDiff, Nat.reduceSub, reduceIte, Int.reduceBEq, Int.reduceEq, Int.reduceLT, Int.reduceLE, Int.reduceGT, Int.reduceGE, Int.reduceNe, Int.reduceBNe, ix]) (by simp only [go_sem, kSt_ptr, Nat.reduceBEq, Nat.reduceAdd, Nat.reduceEqDiff, Nat.reduceLeDiff, Nat.reduceSub, reduceIte, Int.reduceBEq, Int.reduceEq, Int.reduceLT, Int.reduceLE, Int.reduceGT, Int.reduceGE, Int.reduceNe, Int.reduceBNe]) (by simp only [go_sem, kSt_ptr, Nat.reduceBEq, Nat.reduceAdd, Nat.reduceEqDiff, Nat.reduceLeDiff, Nat.reduceSub, reduceIte, Int.reduceBEq, Int.reduceEq, Int.reduceLT, Int.reduceLE, Int.reduceGT, Int.reduceGE, Int.reduceNe, Int.reduceBNe, TIndex.row]) (by simp only [go_sem, kSt_ptr, Nat.reduceBEq, Nat.reduceAdd, Nat.reduceEqDiff, Nat.reduceLeDiff, Nat.reduceSub, reduceIte, Int.reduceBEq, Int.reduceEq, Int.reduceLT, Int.reduceLE, Int.reduceGT, Int.reduceGE, Int.reduceNe, Int.reduceBNe, Nat.lt_succ_self]) (by simp only [go_sem, kSt_ptr, Nat.reduceBEq, Nat.reduceAdd, Nat.reduceEqDiff, Nat.reduceLeDiff, Nat.reduceSub, reduceIte, Int.reduceBEq, Int.reduceEq, Int.reduceLT, Int.reduceLE, Int.reduceGT, Int.reduceGE, Int.reduceNe, Int.reduceBNe]) (by simp only [go_sem, kSt_ptr, Nat.reduceBEq, Nat.reduceAdd, Nat.reduceEqDiff, Nat.reduceLeDiff, Nat.reduceSub, reduceIte, Int.reduceBEq, Int.reduceEq, Int.reduceLT, Int.reduceLE, Int.reduceGT, Int.reduceGE, Int.reduceNe, Int.reduceBNe]) (by simp only [go_sem, kSt_ptr, Nat.reduceBEq, Nat.reduceAdd, Nat.reduceEqDiff, Nat.reduceLeDiff, Nat.reduceSub, reduceIte, Int.reduceBEq, Int.reduceEq, Int.reduceLT, Int.reduceLE, Int.reduceGT, Int.reduceGE, Int.reduceNe, Int.reduceBNe]) (by simp only [go_sem, kSt_ptr, Nat.reduceBEq, Nat.reduceAdd, Nat.reduceEqDiff, Nat.reduceLeDiff, Nat.reduceSub, reduceIte, Int.reduceBEq, Int.reduceEq, Int.reduceLT, Int.reduceLE, Int.reduceGT, Int.reduceGE, Int.reduceNe, Int.reduceBNe])).mono ?_
        rintro x e' h' (⟨hq, rfl, k0, k1, k2, k3, k4, k5⟩ | ⟨hq, rfl, k⟩)
        · simp only [go_sem, kSt_ptr, Nat.reduceBEq, Nat.reduceAdd, Nat.reduceEqDiff, Nat.reduceLeDiff, Nat.reduceSub, reduceIte, Int.reduceBEq, Int.reduceEq, Int.reduceLT, Int.reduceLE, Int.reduceGT, Int.reduceGE, Int.reduceNe, Int.reduceBNe, k0, k1, k2, k3, k4, k5, TDef.row, a.hw]
        · rw [hp] at hq; cases hq
      · rintro pre c rest e h a hp ⟨q0, q1, q2, q3, ix, nx⟩
        have hne : ¬ 0 = h.nx := by omega
        simp only [go_sem, kSt_ptr, Nat.reduceBEq, Nat.reduceAdd, Nat.reduceEqDiff, Nat.reduceLeDiff, Nat.reduceSub, reduceIte, Int.reduceBEq, Int.reduceEq, Int.reduceLT, Int.reduceLE, Int.reduceGT, Int.reduceGE, Int.reduceNe, Int.reduceBNe, s_impl_twice_L3, q0, q1, q2, q3, ix, nx, a.dl, a.ia (row := TIndex.row) (sz := 3) rfl, hp, a.hw, TDef.row, TIndex.row, hne, kSl_pre (row := TIndex.row) (sz := 3) a.hl (fun _ => rfl) (by decide)]
        refine (in2 pre c rest a _ _ h.nx (by simp only [go_sem, kSt_ptr, Nat.reduceBEq, Nat.reduceAdd, Nat.reduceEqDiff, Nat.reduceLeDiff, Nat.reduceSub, reduceIte, Int.reduceBEq, Int.reduceEq, Int.reduceLT, Int.reduceLE, Int.reduceGT, Int.reduceGE, Int.reduceNe, Int.reduceBNe, q0]) (by simp only [go_sem, kSt_ptr, Nat.reduceBEq, Nat.reduceAdd, Nat.reduceEqDiff, Nat.reduceLeDiff, Nat.reduceSub, reduceIte, Int.reduceBEq, Int.reduceEq, Int.reduceLT, Int.reduceLE, Int.reduceGT, Int.reduceGE, Int.reduceNe, Int.reduceBNe, hne, q1]) (by simp only [go_sem, kSt_ptr, Nat.reduceBEq, Nat.reduceAdd, Nat.reduceEqDiff, Nat.reduceLeDiff, Nat.reduceSub, reduceIte, Int.reduceBEq, Int.reduceEq, Int.reduceLT, Int.reduceLE, Int.reduceGT, Int.reduceGE, Int.reduceNe, Int.reduceBNe, q2]) (by simp only [go_sem, kSt_ptr, Nat.reduceBEq, Nat.reduceAdd, Nat.reduceEqDiff, Nat.reduceLeDiff, Nat.reduceSub, reduceIte, Int.reduceBEq, Int.reduceEq, Int.reduceLT, Int.reduceLE, Int.reduceGT, Int.reduceGE, Int.reduceNe, Int.reduceBNe, nx]) (by simp only [go_sem, kSt_ptr, Nat.reduceBEq, Nat.reduceAdd, Nat.reduceEqDiff, Nat.reduceLeDiff, Nat.reduceSub, reduceIte, Int.reduceBEq, Int.reduceEq, Int.reduceLT, Int.reduceLE, Int.reduceGT, Int.reduceGE, Int.reduceNe, Int.reduceBNe, ix]) (by simp only [go_sem, kSt_ptr, Nat.reduceBEq, Nat.reduceAdd, Nat.reduceEqDiff, Nat.reduceLeDiff, Nat.reduceSub, reduceIte, Int.reduceBEq, Int.reduceEq, Int.reduceLT, Int.reduceLE, Int.reduceGT, Int.reduceGE, Int.reduceNe, Int.reduceBNe]) (by simp only [go_sem, kSt_ptr, Nat.reduceBEq, Nat.reduceAdd, Nat.reduceEqDiff, Nat.reduceLeDiff, Nat.reduceSub, reduceIte, Int.reduceBEq, Int.reduceEq, Int.reduceLT, Int.reduceLE, Int.reduceGT, Int.reduceGE, Int.reduceNe, Int.reduceBNe, TIndex.row]) (by simp only [go_sem, kSt_ptr, Nat.reduceBEq, Nat.reduceAdd, Nat.reduceEqDiff, Nat.reduceLeDiff, Nat.reduceSub, reduceIte, Int.reduceBEq, Int.reduceEq, Int.reduceLT, Int.reduceLE, Int.reduceGT, Int.reduceGE, Int.reduceNe, Int.reduceBNe, Nat.lt_succ_self]) (by simp only [go_sem, kSt_ptr, Nat.reduceBEq, Nat.reduceAdd, Nat.reduceEqDiff, Nat.reduceLeDiff, Nat.reduceSub, reduceIte, Int.reduceBEq, Int.reduceEq, Int.reduceLT, Int.reduceLE, Int.reduceGT, Int.reduceGE, Int.reduceNe, Int.reduceBNe]) (by simp only [go_sem, kSt_ptr, Nat.reduceBEq, Nat.reduceAdd, Nat.reduceEqDiff, Nat.reduceLeDiff, Nat.reduceSub, reduceIte, Int.reduceBEq, Int.reduceEq, Int.reduceLT, Int.reduceLE, Int.reduceGT, Int.reduceGE, Int.reduceNe, Int.reduceBNe]) (by simp only [go_sem, kSt_ptr, Nat.reduceBEq, Nat.reduceAdd, Nat.reduceEqDiff, Nat.reduceLeDiff, Nat.reduceSub, reduceIte, Int.reduceBEq, Int.reduceEq, Int.reduceLT, Int.reduceLE, Int.reduceGT, Int.reduceGE, Int.reduceNe, Int.reduceBNe]) (by simp only [go_sem, kSt_ptr, Nat.reduceBEq, Nat.reduceAdd, Nat.reduceEqDiff, Nat.reduceLeDiff, Nat.reduceSub, reduceIte, Int.reduceBEq, Int.reduceEq, Int.reduceLT, Int.reduceLE, Int.reduceGT, Int.reduceGE, Int.reduceNe, Int.reduceBNe])).mono ?_
        rintro x e' h' (⟨hq, rfl, k0, k1, k2, k3, k4, k5⟩ | ⟨hq, rfl, k⟩)
        · rw [hp] at hq; cases hq
        · simp only [go_sem, kSt_ptr, Nat.reduceBEq, Nat.reduceAdd, Nat.reduceEqDiff, Nat.reduceLeDiff, Nat.reduceSub, reduceIte, Int.reduceBEq, Int.reduceEq, Int.reduceLT, Int.reduceLE, Int.reduceGT, Int.reduceGE, Int.reduceNe, Int.reduceBNe, k]
      · rintro e h ⟨q0, q1, q2, q3, ix, nx⟩
        simp only [go_sem, kSt_ptr, Nat.reduceBEq, Nat.reduceAdd, Nat.reduceEqDiff, Nat.reduceLeDiff, Nat.reduceSub, reduceIte, Int.reduceBEq, Int.reduceEq, Int.reduceLT, Int.reduceLE, Int.reduceGT, Int.reduceGE, Int.reduceNe, Int.reduceBNe, s_impl_twice_L3, q0, q1, q2, q3, ix, nx, TDef.row]
      · simp only [go_sem, kSt_ptr, Nat.reduceBEq, Nat.reduceAdd, Nat.reduceEqDiff, Nat.reduceLeDiff, Nat.reduceSub, reduceIte, Int.reduceBEq, Int.reduceEq, Int.reduceLT, Int.reduceLE, Int.reduceGT, Int.reduceGE, Int.reduceNe, Int.reduceBNe, j0, j1, j3, TDef.row]
      · rintro x e h (⟨hp2, rfl, j0, j1, j2, j3⟩ | ⟨hp2, rfl, j⟩)
        · simp only [go_sem, kSt_ptr, Nat.reduceBEq, Nat.reduceAdd, Nat.reduceEqDiff, Nat.reduceLeDiff, Nat.reduceSub, reduceIte, Int.reduceBEq, Int.reduceEq, Int.reduceLT, Int.reduceLE, Int.reduceGT, Int.reduceGE, Int.reduceNe, Int.reduceBNe, defOnce, hp1, hp2]
        · simp only [go_sem, kSt_ptr, Nat.reduceBEq, Nat.reduceAdd, Nat.reduceEqDiff, Nat.reduceLeDiff, Nat.reduceSub, reduceIte, Int.reduceBEq, Int.reduceEq, Int.reduceLT, Int.reduceLE, Int.reduceGT, Int.reduceGE, Int.reduceNe, Int.reduceBNe, s_impl_twice, j, defOnce, hp1, hp2]
    · simp only [go_sem, kSt_ptr, Nat.reduceBEq, Nat.reduceAdd, Nat.reduceEqDiff, Nat.reduceLeDiff, Nat.reduceSub, reduceIte, Int.reduceBEq, Int.reduceEq, Int.reduceLT, Int.reduceLE, Int.reduceGT, Int.reduceGE, Int.reduceNe, Int.reduceBNe, s_impl_twice, j, defOnce, hp1]
end Go.Proofs.YtgjdkcjijmdfoaaDoor.Sc
/- What the functions that FnExactScanOk calls answer: part 8. -/
namespace Go.Proofs.YtgjdkcjijmdfoaaDoor.Sc
open Go Go.RowKit Go.Ev
set_option linter.unusedSimpArgs false
set_option linter.unusedVariables false
noncomputable def C_impl_CheckDef := c1 tDef (fun (v : TDef) => tDef.cost v ≤ 1048576) ((.int .i64)) fun (v : TDef) => checkDef v
theorem C_impl_CheckDef_eq (v : TDef) (h : tDef.cost v ≤ 1048576) : C_impl_CheckDef [.agg [.str v.fName, .imm (v.fCols.map TCol.row), .imm (v.fPrimary.map TBy.row), .imm (v.fIndexes.map TIndex.row)]] = some (.int .i64 ((checkDef v))) := c1_eq tDef h
theorem ok_impl_CheckDef {WI : World → Prop} (hs : Stable WI) (cs) (hT : TOK (EE cs) WI) (h1 : (EE cs).T 117 = some C_impl_namesOk) (h2 : (EE cs).T 44 = some C_impl_in) (h3 : (EE cs).T 118 = some C_impl_twice) (h4 : (EE cs).T 119 = some C_impl_partsOk) : PureOK Tryd.prog WI 94 C_impl_CheckDef := by
  refine pure1 (E := EE cs) hT hs (by rw [st_impl_CheckDef]; rfl) fun v hp => out_wp (n := 0) (st_impl_CheckDef cs) ?_
  obtain ⟨n1, n2, n3, n4, n5, n6⟩ := defLens hp
  have hv := hp
  have c1 : C_impl_namesOk [.agg [.str v.fName, .imm (v.fCols.map TCol.row), .imm (v.fPrimary.map TBy.row), .imm (v.fIndexes.map TIndex.row)]] = some (.bool (defNames v)) := C_impl_namesOk_eq v hp
  have c3 : C_impl_twice [.agg [.str v.fName, .imm (v.fCols.map TCol.row), .imm (v.fPrimary.map TBy.row), .imm (v.fIndexes.map TIndex.row)]] = some (.bool (!defOnce v)) := C_impl_twice_eq v hp
  have c4 : ∀ l : List TBy, l.length ≤ 1048576 → C_impl_partsOk [.agg [.str v.fName, .imm (v.fCols.map TCol.row), .imm (v.fPrimary.map TBy.row), .imm (v.fIndexes.map TIndex.row)], .imm (l.map TBy.row)] = some (.bool (partsOK v l)) := fun l hl => C_impl_partsOk_eq v l ⟨hv, hl⟩
  cases d1 : defNames v
  · simp only [go_sem, kSt_ptr, Nat.reduceBEq, Nat.reduceAdd, Nat.reduceEqDiff, Nat.reduceLeDiff, Nat.reduceSub, reduceIte, Int.reduceBEq, Int.reduceEq, Int.reduceLT, Int.reduceLE, Int.reduceGT, Int.reduceGE, Int.reduceNe, Int.reduceBNe, s_impl_CheckDef, TDef.row, h1, c1, d1, checkDef]
  cases d2 : inR v.fCols.length 1 6
  · have e2 : defTypes v = false := by unfold defTypes; rw [d2, Bool.and_false]
    simp only [go_sem, kSt_ptr, Nat.reduceBEq, Nat.reduceAdd, Nat.reduceEqDiff, Nat.reduceLeDiff, Nat.reduceSub, reduceIte, Int.reduceBEq, Int.reduceEq, Int.reduceLT, Int.reduceLE, Int.reduceGT, Int.reduceGE, Int.reduceNe, Int.reduceBNe, s_impl_CheckDef, TDef.row, h1, c1, d1, h2, C_impl_in_eq, d2, checkDef, e2, Bool.true_eq_false]
  simp only [go_sem, kSt_ptr, Nat.reduceBEq, Nat.reduceAdd, Nat.reduceEqDiff, Nat.reduceLeDiff, Nat.reduceSub, reduceIte, Int.reduceBEq, Int.reduceEq, Int.reduceLT, Int.reduceLE, Int.reduceGT, Int.reduceGE, Int.reduceNe, Int.reduceBNe, s_impl_CheckDef, TDef.row, h1, c1, d1, h2, C_impl_in_eq, d2]
  refine (wl_all (l := v.fCols) (fun pre c => inR c.fType 1 4) (fun pre e h => e 1 = .ptr 0 0 ∧ h.hp 0 = some v.row ∧ e 18 = .imm (v.fCols.map TCol.row) ∧ 0 < h.nx ∧ e 20 = .int .i64 pre.length ∧ e 19 = .int .i64 (v.fCols).length) (.exit 0) (fun e h => e 1 = .ptr 0 0 ∧ h.hp 0 = some v.row ∧ e 18 = .imm (v.fCols.map TCol.row) ∧ 0 < h.nx) (fun e h => e 2 = .int .i64 2) (by omega) ?_ ?_ ?_ (by simp) v.fCols [] _ _ rfl ?_).mono ?_
  · rintro pre c rest e h a hp ⟨q0, q1, q2, q3, ix, nx⟩
    have hne : ¬ 0 = h.nx := by omega
    simp only [go_sem, kSt_ptr, Nat.reduceBEq, Nat.reduceAdd, Nat.reduceEqDiff, Nat.reduceLeDiff, Nat.reduceSub, reduceIte, Int.reduceBEq, Int.reduceEq, Int.reduceLT, Int.reduceLE, Int.reduceGT, Int.reduceGE, Int.reduceNe, Int.reduceBNe, s_impl_CheckDef_L0, q0, q1, q2, q3, ix, nx, a.dl, a.ia (row := TCol.row) (sz := 3) rfl, hp, a.hw, TDef.row, TCol.row, h2, C_impl_in_eq, hne]
  · rintro pre c rest e h a hp ⟨q0, q1, q2, q3, ix, nx⟩
    have hne : ¬ 0 = h.nx := by omega
    simp only [go_sem, kSt_ptr, Nat.reduceBEq, Nat.reduceAdd, Nat.reduceEqDiff, Nat.reduceLeDiff, Nat.reduceSub, reduceIte, Int.reduceBEq, Int.reduceEq, Int.reduceLT, Int.reduceLE, Int.reduceGT, Int.reduceGE, Int.reduceNe, Int.reduceBNe, s_impl_CheckDef_L0, q0, q1, q2, q3, ix, nx, a.dl, a.ia (row := TCol.row) (sz := 3) rfl, hp, a.hw, TDef.row, TCol.row, h2, C_impl_in_eq, hne]
  · rintro e h ⟨q0, q1, q2, q3, ix, nx⟩
    simp only [go_sem, kSt_ptr, Nat.reduceBEq, Nat.reduceAdd, Nat.reduceEqDiff, Nat.reduceLeDiff, Nat.reduceSub, reduceIte, Int.reduceBEq, Int.reduceEq, Int.reduceLT, Int.reduceLE, Int.reduceGT, Int.reduceGE, Int.reduceNe, Int.reduceBNe, s_impl_CheckDef_L0, q0, q1, q2, q3, ix, nx, TDef.row]
  · simp only [go_sem, kSt_ptr, Nat.reduceBEq, Nat.reduceAdd, Nat.reduceEqDiff, Nat.reduceLeDiff, Nat.reduceSub, reduceIte, Int.reduceBEq, Int.reduceEq, Int.reduceLT, Int.reduceLE, Int.reduceGT, Int.reduceGE, Int.reduceNe, Int.reduceBNe, TDef.row]
  · rintro x e h (⟨hp1, rfl, j0, j1, j2, j3⟩ | ⟨hp1, rfl, j⟩)
    · rw [allP_all] at hp1
      have e2 : defTypes v = true := by unfold defTypes; rw [d2, hp1]; rfl
      cases d3 : defOnce v
      · simp only [go_sem, kSt_ptr, Nat.reduceBEq, Nat.reduceAdd, Nat.reduceEqDiff, Nat.reduceLeDiff, Nat.reduceSub, reduceIte, Int.reduceBEq, Int.reduceEq, Int.reduceLT, Int.reduceLE, Int.reduceGT, Int.reduceGE, Int.reduceNe, Int.reduceBNe, s_impl_CheckDef, j0, j1, TDef.row, h3, c3, d3, checkDef, d1, e2, Bool.true_eq_false]
      by_cases d4 : (2 : Int) < v.fIndexes.length
      · simp only [go_sem, kSt_ptr, Nat.reduceBEq, Nat.reduceAdd, Nat.reduceEqDiff, Nat.reduceLeDiff, Nat.reduceSub, reduceIte, Int.reduceBEq, Int.reduceEq, Int.reduceLT, Int.reduceLE, Int.reduceGT, Int.reduceGE, Int.reduceNe, Int.reduceBNe, s_impl_CheckDef, j0, j1, TDef.row, h3, c3, d3, d4, checkDef, d1, e2, Bool.true_eq_false]
      simp only [go_sem, kSt_ptr, Nat.reduceBEq, Nat.reduceAdd, Nat.reduceEqDiff, Nat.reduceLeDiff, Nat.reduceSub, reduceIte, Int.reduceBEq, Int.reduceEq, Int.reduceLT, Int.reduceLE, Int.reduceGT, Int.reduceGE, Int.reduceNe, Int.reduceBNe, j0, j1, TDef.row, h3, c3, d3, d4]
      refine (wl_all (l := v.fIndexes) (fun pre y => partsOK v y.fParts) (fun pre e h => e 1 = .ptr 0 0 ∧ h.hp 0 = some v.row ∧ e 36 = .imm (v.fIndexes.map TIndex.row) ∧ 0 < h.nx ∧ e 38 = .int .i64 pre.length ∧ e 37 = .int .i64 (v.fIndexes).length) (.exit 2) (fun e h => e 1 = .ptr 0 0 ∧ h.hp 0 = some v.row ∧ e 36 = .imm (v.fIndexes.map TIndex.row) ∧ 0 < h.nx) (fun e h => e 2 = .int .i64 5) (by omega) ?_ ?_ ?_ (by simp) v.fIndexes [] _ _ rfl ?_).mono ?_
      · rintro pre y rest e h a hp ⟨q0, q1, q2, q3, ix, nx⟩
        have hne : ¬ 0 = h.nx := by omega
        simp only [go_sem, kSt_ptr, Nat.reduceBEq, Nat.reduceAdd, Nat.reduceEqDiff, Nat.reduceLeDiff, Nat.reduceSub, reduceIte, Int.reduceBEq, Int.reduceEq, Int.reduceLT, Int.reduceLE, Int.reduceGT, Int.reduceGE, Int.reduceNe, Int.reduceBNe, s_impl_CheckDef_L1, q0, q1, q2, q3, ix, nx, a.dl, a.ia (row := TIndex.row) (sz := 3) rfl, hp, a.hw, TDef.row, TIndex.row, h4, c4 y.fParts (n6 y a.mem).2, hne]
      · rintro pre y rest e h a hp ⟨q0, q1, q2, q3, ix, nx⟩
        have hne : ¬ 0 = h.nx := by omega
        simp only [go_sem, kSt_ptr, Nat.reduceBEq, Nat.reduceAdd, Nat.reduceEqDiff, Nat.reduceLeDiff, Nat.reduceSub, reduceIte, Int.reduceBEq, Int.reduceEq, Int.reduceLT, Int.reduceLE, Int.reduceGT, Int.reduceGE, Int.reduceNe, Int.reduceBNe, s_impl_CheckDef_L1, q0, q1, q2, q3, ix, nx, a.dl, a.ia (row := TIndex.row) (sz := 3) rfl, hp, a.hw, TDef.row, TIndex.row, h4, c4 y.fParts (n6 y a.mem).2, hne]
      · rintro e h ⟨q0, q1, q2, q3, ix, nx⟩
        simp only [go_sem, kSt_ptr, Nat.reduceBEq, Nat.reduceAdd, Nat.reduceEqDiff, Nat.reduceLeDiff, Nat.reduceSub, reduceIte, Int.reduceBEq, Int.reduceEq, Int.reduceLT, Int.reduceLE, Int.reduceGT, Int.reduceGE, Int.reduceNe, Int.reduceBNe, s_impl_CheckDef_L1, q0, q1, q2, q3, ix, nx, TDef.row]
      · simp only [go_sem, kSt_ptr, Nat.reduceBEq, Nat.reduceAdd, Nat.reduceEqDiff, Nat.reduceLeDiff, Nat.reduceSub, reduceIte, Int.reduceBEq, Int.reduceEq, Int.reduceLT, Int.reduceLE, Int.reduceGT, Int.reduceGE, Int.reduceNe, Int.reduceBNe, j0, j1, j3, TDef.row]
      · rintro x e h (⟨hp2, rfl, j0, j1, j2, j3⟩ | ⟨hp2, rfl, j⟩)
        · rw [allP_all] at hp2
          cases d5 : partsOK v v.fPrimary
          · have e5 : defParts v = false := by unfold defParts; rw [d5, Bool.and_false]
            simp only [go_sem, kSt_ptr, Nat.reduceBEq, Nat.reduceAdd, Nat.reduceEqDiff, Nat.reduceLeDiff, Nat.reduceSub, reduceIte, Int.reduceBEq, Int.reduceEq, Int.reduceLT, Int.reduceLE, Int.reduceGT, Int.reduceGE, Int.reduceNe, Int.reduceBNe, s_impl_CheckDef, j0, j1, TDef.row, h4, c4 v.fPrimary n3, d5, checkDef, d1, e2, d3, d4, e5, Bool.true_eq_false]
          have e5 : defParts v = true := by unfold defParts; rw [d5, hp2]; rfl
          simp only [go_sem, kSt_ptr, Nat.reduceBEq, Nat.reduceAdd, Nat.reduceEqDiff, Nat.reduceLeDiff, Nat.reduceSub, reduceIte, Int.reduceBEq, Int.reduceEq, Int.reduceLT, Int.reduceLE, Int.reduceGT, Int.reduceGE, Int.reduceNe, Int.reduceBNe, j0, j1, TDef.row, h4, c4 v.fPrimary n3, d5]
          refine (wl_all (l := v.fPrimary) (fun pre p => !(colNull v p.fCol)) (fun pre e h => e 1 = .ptr 0 0 ∧ h.hp 0 = some v.row ∧ e 54 = .imm (v.fPrimary.map TBy.row) ∧ 0 < h.nx ∧ e 56 = .int .i64 pre.length ∧ e 55 = .int .i64 (v.fPrimary).length) (.exit 4) (fun e h => e 1 = .ptr 0 0 ∧ h.hp 0 = some v.row ∧ e 54 = .imm (v.fPrimary.map TBy.row) ∧ 0 < h.nx) (fun e h => e 2 = .int .i64 4) (by omega) ?_ ?_ ?_ (by simp) v.fPrimary [] _ _ rfl ?_).mono ?_
          · rintro pre p rest e h a hp ⟨q0, q1, q2, q3, ix, nx⟩
            have hne : ¬ 0 = h.nx := by omega
            obtain ⟨z1, z2⟩ := parts_col d5 p a.mem
            obtain ⟨c, hc⟩ : ∃ c, v.fCols[p.fCol.toNat]? = some c := ⟨_, List.getElem?_eq_getElem z2⟩
            have hq : c.fNull = false := by simpa [colNull, hc] using hp
            simp only [go_sem, kSt_ptr, Nat.reduceBEq, Nat.reduceAdd, Nat.reduceEqDiff, Nat.reduceLeDiff, Nat.reduceSub, reduceIte, Int.reduceBEq, Int.reduceEq, Int.reduceLT, Int.reduceLE, Int.reduceGT, Int.reduceGE, Int.reduceNe, Int.reduceBNe, s_impl_CheckDef_L2, q0, q1, q2, q3, ix, nx, a.dl, a.ia (row := TBy.row) (sz := 2) rfl, hp, a.hw, TDef.row, TBy.row, TCol.row, kIa_nth (row := TCol.row) (sz := 3) z1 hc rfl, hq, hne]
          · rintro pre p rest e h a hp ⟨q0, q1, q2, q3, ix, nx⟩
            have hne : ¬ 0 = h.nx := by omega
            obtain ⟨z1, z2⟩ := parts_col d5 p a.mem
            obtain ⟨c, hc⟩ : ∃ c, v.fCols[p.fCol.toNat]? = some c := ⟨_, List.getElem?_eq_getElem z2⟩
            have hq : c.fNull = true := by simpa [colNull, hc] using hp
            simp only [go_sem, kSt_ptr, Nat.reduceBEq, Nat.reduceAdd, Nat.reduceEqDiff, Nat.reduceLeDiff, Nat.reduceSub, reduceIte, Int.reduceBEq, Int.reduceEq, Int.reduceLT, Int.reduceLE, Int.reduceGT, Int.reduceGE, Int.reduceNe, Int.reduceBNe, s_impl_CheckDef_L2, q0, q1, q2, q3, ix, nx, a.dl, a.ia (row := TBy.row) (sz := 2) rfl, hp, a.hw, TDef.row, TBy.row, TCol.row, kIa_nth (row := TCol.row) (sz := 3) z1 hc rfl, hq, hne]
          · rintro e h ⟨q0, q1, q2, q3, ix, nx⟩
            simp only [go_sem, kSt_ptr, Nat.reduceBEq, Nat.reduceAdd, Nat.reduceEqDiff, Nat.reduceLeDiff, Nat.reduceSub, reduceIte, Int.reduceBEq, Int.reduceEq, Int.reduceLT, Int.reduceLE, Int.reduceGT, Int.reduceGE, Int.reduceNe, Int.reduceBNe, s_impl_CheckDef_L2, q0, q1, q2, q3, ix, nx, TDef.row]
          · simp only [go_sem, kSt_ptr, Nat.reduceBEq, Nat.reduceAdd, Nat.reduceEqDiff, Nat.reduceLeDiff, Nat.reduceSub, reduceIte, Int.reduceBEq, Int.reduceEq, Int.reduceLT, Int.reduceLE, Int.reduceGT, Int.reduceGE, Int.reduceNe, Int.reduceBNe, j0, j1, j3, TDef.row]
          · rintro x e h (⟨hp3, rfl, j0, j1, j2, j3⟩ | ⟨hp3, rfl, j⟩)
            · rw [allP_all] at hp3
              simp only [go_sem, kSt_ptr, Nat.reduceBEq, Nat.reduceAdd, Nat.reduceEqDiff, Nat.reduceLeDiff, Nat.reduceSub, reduceIte, Int.reduceBEq, Int.reduceEq, Int.reduceLT, Int.reduceLE, Int.reduceGT, Int.reduceGE, Int.reduceNe, Int.reduceBNe, checkDef, primNull, d1, e2, d3, d4, e5, hp3, Bool.true_eq_false]
            · rw [allP_all] at hp3
              simp only [go_sem, kSt_ptr, Nat.reduceBEq, Nat.reduceAdd, Nat.reduceEqDiff, Nat.reduceLeDiff, Nat.reduceSub, reduceIte, Int.reduceBEq, Int.reduceEq, Int.reduceLT, Int.reduceLE, Int.reduceGT, Int.reduceGE, Int.reduceNe, Int.reduceBNe, s_impl_CheckDef, j, checkDef, primNull, d1, e2, d3, d4, e5, hp3, Bool.true_eq_false]
        · rw [allP_all] at hp2
          have e5 : defParts v = false := by unfold defParts; rw [hp2, Bool.false_and]
          simp only [go_sem, kSt_ptr, Nat.reduceBEq, Nat.reduceAdd, Nat.reduceEqDiff, Nat.reduceLeDiff, Nat.reduceSub, reduceIte, Int.reduceBEq, Int.reduceEq, Int.reduceLT, Int.reduceLE, Int.reduceGT, Int.reduceGE, Int.reduceNe, Int.reduceBNe, s_impl_CheckDef, j, checkDef, d1, e2, d3, d4, e5, Bool.true_eq_false]
    · rw [allP_all] at hp1
      have e2 : defTypes v = false := by unfold defTypes; rw [hp1, Bool.false_and]
      simp only [go_sem, kSt_ptr, Nat.reduceBEq, Nat.reduceAdd, Nat.reduceEqDiff, Nat.reduceLeDiff, Nat.reduceSub, reduceIte, Int.reduceBEq, Int.reduceEq, Int.reduceLT, Int.reduceLE, Int.reduceGT, Int.reduceGE, Int.reduceNe, Int.reduceBNe, s_impl_CheckDef, j, checkDef, d1, e2, Bool.true_eq_false]
noncomputable def C_impl_FirstBad := c1 (sliceT tDef) (fun (s : List (TDef)) => (sliceT tDef).cost s ≤ 1048576) ((.int .i64)) fun (s : List (TDef)) => firstBad s
theorem C_impl_FirstBad_eq (s : List (TDef)) (h : (sliceT tDef).cost s ≤ 1048576) : C_impl_FirstBad [.imm (s.map TDef.row)] = some (.int .i64 ((firstBad s))) := c1_eq (sliceT tDef) h
theorem ok_impl_FirstBad {WI : World → Prop} (hs : Stable WI) (cs) (hT : TOK (EE cs) WI) (h1 : (EE cs).T 94 = some C_impl_CheckDef) : PureOK Tryd.prog WI 72 C_impl_FirstBad := by
  refine pure1 (E := EE cs) hT hs (by rw [st_impl_FirstBad]; rfl) fun s hp => out_wp (n := 0) (st_impl_FirstBad cs) ?_
  obtain ⟨n1, n2⟩ := defsLens hp
  have inner : ∀ pre c rest, At s pre c rest → ∀ e h b, e 0 = .imm (s.map TDef.row) → e 7 = .imm (s.map TDef.row) → e 8 = .int .i64 s.length → e 9 = .int .i64 pre.length → e 3 = .int .i64 pre.length → e 4 = .ptr b 0 → h.hp b = some c.row → b < h.nx → e 24 = .imm (pre.map TDef.row) → e 25 = .int .i64 pre.length → e 26 = .int .i64 0 → WL (EE cs) s_impl_FirstBad_L0 e h fun x e' h' => (pre.all (fun y => !(y.fName == c.fName)) = true ∧ x = .exit 2 ∧ e' 0 = .imm (s.map TDef.row) ∧ e' 7 = .imm (s.map TDef.row) ∧ e' 8 = .int .i64 s.length ∧ e' 9 = .int .i64 pre.length) ∨ (pre.all (fun y => !(y.fName == c.fName)) = false ∧ x = .ret ∧ e' 2 = .int .i64 pre.length) := by
    intro pre0 c rest0 a0 e h b k0 k1 k2 k3 k4 k5 k6 k7 k8 k9 k10
    have hlt0 := a0.lt
    refine (wl_all (l := pre0) (fun pre y => !(y.fName == c.fName)) (fun pre e h => e 0 = .imm (s.map TDef.row) ∧ e 7 = .imm (s.map TDef.row) ∧ e 8 = .int .i64 s.length ∧ e 9 = .int .i64 pre0.length ∧ e 3 = .int .i64 pre0.length ∧ e 4 = .ptr b 0 ∧ h.hp b = some c.row ∧ b < h.nx ∧ e 24 = .imm (pre0.map TDef.row) ∧ e 26 = .int .i64 pre.length ∧ e 25 = .int .i64 (pre0).length) (.exit 2) (fun e h => e 0 = .imm (s.map TDef.row) ∧ e 7 = .imm (s.map TDef.row) ∧ e 8 = .int .i64 s.length ∧ e 9 = .int .i64 pre0.length) (fun e h => e 2 = .int .i64 pre0.length) (by omega) ?_ ?_ ?_ (by simp) pre0 [] _ _ rfl ?_).mono ?_
    · rintro pre y rest e h a hp ⟨q0, q1, q2, q3, q4, q5, q6, q7, q8, ix, nx⟩
      have hne2 : ¬ b = h.nx := by omega
      have hq : (y.fName == c.fName) = false := by simpa using hp
      have hb1 : b < h.nx + 1 := by omega
      simp only [go_sem, kSt_ptr, Nat.reduceBEq, Nat.reduceAdd, Nat.reduceEqDiff, Nat.reduceLeDiff, Nat.reduceSub, reduceIte, Int.reduceBEq, Int.reduceEq, Int.reduceLT, Int.reduceLE, Int.reduceGT, Int.reduceGE, Int.reduceNe, Int.reduceBNe, s_impl_FirstBad_L0, q0, q1, q2, q3, q4, q5, q6, q7, q8, ix, nx, a.dl, a.ia (row := TDef.row) (sz := 4) rfl, hp, a.hw, TDef.row, hq, hne2, hb1]
    · rintro pre y rest e h a hp ⟨q0, q1, q2, q3, q4, q5, q6, q7, q8, ix, nx⟩
      have hne2 : ¬ b = h.nx := by omega
      have hq : (y.fName == c.fName) = true := by simpa using hp
      simp only [go_sem, kSt_ptr, Nat.reduceBEq, Nat.reduceAdd, Nat.reduceEqDiff, Nat.reduceLeDiff, Nat.reduceSub, reduceIte, Int.reduceBEq, Int.reduceEq, Int.reduceLT, Int.reduceLE, Int.reduceGT, Int.reduceGE, Int.reduceNe, Int.reduceBNe, s_impl_FirstBad_L0, q0, q1, q2, q3, q4, q5, q6, q7, q8, ix, nx, a.dl, a.ia (row := TDef.row) (sz := 4) rfl, hp, a.hw, TDef.row, hq, hne2]
    · rintro e h ⟨q0, q1, q2, q3, q4, q5, q6, q7, q8, ix, nx⟩
      simp only [go_sem, kSt_ptr, Nat.reduceBEq, Nat.reduceAdd, Nat.reduceEqDiff, Nat.reduceLeDiff, Nat.reduceSub, reduceIte, Int.reduceBEq, Int.reduceEq, Int.reduceLT, Int.reduceLE, Int.reduceGT, Int.reduceGE, Int.reduceNe, Int.reduceBNe, s_impl_FirstBad_L0, q0, q1, q2, q3, q4, q5, q6, q7, q8, ix, nx]
    · simp only [go_sem, kSt_ptr, Nat.reduceBEq, Nat.reduceAdd, Nat.reduceEqDiff, Nat.reduceLeDiff, Nat.reduceSub, reduceIte, Int.reduceBEq, Int.reduceEq, Int.reduceLT, Int.reduceLE, Int.reduceGT, Int.reduceGE, Int.reduceNe, Int.reduceBNe, k0, k1, k2, k3, k4, k5, k6, k7, k8, k9, k10]
    · rintro x e' h' (⟨hp, rfl, j⟩ | ⟨hp, rfl, j⟩)
      · rw [allP_all] at hp
        exact .inl ⟨hp, rfl, j⟩
      · rw [allP_all] at hp
        exact .inr ⟨hp, rfl, j⟩
  simp only [go_sem, kSt_ptr, Nat.reduceBEq, Nat.reduceAdd, Nat.reduceEqDiff, Nat.reduceLeDiff, Nat.reduceSub, reduceIte, Int.reduceBEq, Int.reduceEq, Int.reduceLT, Int.reduceLE, Int.reduceGT, Int.reduceGE, Int.reduceNe, Int.reduceBNe, s_impl_FirstBad]
  refine (wl_early (l := s) (fun pre d => firstF pre d) (fun pre e h => e 0 = .imm (s.map TDef.row) ∧ e 7 = .imm (s.map TDef.row) ∧ e 9 = .int .i64 pre.length ∧ e 8 = .int .i64 (s).length) (.exit 0) (fun e h => e 0 = .imm (s.map TDef.row) ∧ e 7 = .imm (s.map TDef.row)) (fun b e h => e 2 = .int .i64 b) (by omega) ?_ ?_ ?_ (by simp) s [] _ _ rfl ?_).mono ?_
  · rintro pre d rest e h a hp ⟨q0, q1, ix, nx⟩
    have hc : C_impl_CheckDef [.agg [.str d.fName, .imm (d.fCols.map TCol.row), .imm (d.fPrimary.map TBy.row), .imm (d.fIndexes.map TIndex.row)]] = some (.int .i64 (checkDef d)) := C_impl_CheckDef_eq d (n2 d a.mem)
    obtain ⟨f1, f2, f3⟩ := firstF_none hp
    have f2' : decide ((3 : Int) ≤ (pre.length : Int)) = false := decide_eq_false (by omega)
    have f1' : (checkDef d != 0) = false := by simp [f1]
    all_goals simp only [go_sem, kSt_ptr, Nat.reduceBEq, Nat.reduceAdd, Nat.reduceEqDiff, Nat.reduceLeDiff, Nat.reduceSub, reduceIte, Int.reduceBEq, Int.reduceEq, Int.reduceLT, Int.reduceLE, Int.reduceGT, Int.reduceGE, Int.reduceNe, Int.reduceBNe, s_impl_FirstBad_L1, q0, q1, ix, nx, a.dl, a.ia (row := TDef.row) (sz := 4) rfl, hp, a.hw, TDef.row, h1, hc, kSl_pre (row := TDef.row) (sz := 4) a.hl (fun _ => rfl) (by decide), f1', f2']
    refine (inner pre d rest a _ _ h.nx (by simp only [go_sem, kSt_ptr, Nat.reduceBEq, Nat.reduceAdd, Nat.reduceEqDiff, Nat.reduceLeDiff, Nat.reduceSub, reduceIte, Int.reduceBEq, Int.reduceEq, Int.reduceLT, Int.reduceLE, Int.reduceGT, Int.reduceGE, Int.reduceNe, Int.reduceBNe, q0]) (by simp only [go_sem, kSt_ptr, Nat.reduceBEq, Nat.reduceAdd, Nat.reduceEqDiff, Nat.reduceLeDiff, Nat.reduceSub, reduceIte, Int.reduceBEq, Int.reduceEq, Int.reduceLT, Int.reduceLE, Int.reduceGT, Int.reduceGE, Int.reduceNe, Int.reduceBNe, q1]) (by simp only [go_sem, kSt_ptr, Nat.reduceBEq, Nat.reduceAdd, Nat.reduceEqDiff, Nat.reduceLeDiff, Nat.reduceSub, reduceIte, Int.reduceBEq, Int.reduceEq, Int.reduceLT, Int.reduceLE, Int.reduceGT, Int.reduceGE, Int.reduceNe, Int.reduceBNe, nx]) (by simp only [go_sem, kSt_ptr, Nat.reduceBEq, Nat.reduceAdd, Nat.reduceEqDiff, Nat.reduceLeDiff, Nat.reduceSub, reduceIte, Int.reduceBEq, Int.reduceEq, Int.reduceLT, Int.reduceLE, Int.reduceGT, Int.reduceGE, Int.reduceNe, Int.reduceBNe, ix]) (by simp only [go_sem, kSt_ptr, Nat.reduceBEq, Nat.reduceAdd, Nat.reduceEqDiff, Nat.reduceLeDiff, Nat.reduceSub, reduceIte, Int.reduceBEq, Int.reduceEq, Int.reduceLT, Int.reduceLE, Int.reduceGT, Int.reduceGE, Int.reduceNe, Int.reduceBNe]) (by simp only [go_sem, kSt_ptr, Nat.reduceBEq, Nat.reduceAdd, Nat.reduceEqDiff, Nat.reduceLeDiff, Nat.reduceSub, reduceIte, Int.reduceBEq, Int.reduceEq, Int.reduceLT, Int.reduceLE, Int.reduceGT, Int.reduceGE, Int.reduceNe, Int.reduceBNe]) (by simp only [go_sem, kSt_ptr, Nat.reduceBEq, Nat.reduceAdd, Nat.reduceEqDiff, Nat.reduceLeDiff, Nat.reduceSub, reduceIte, Int.reduceBEq, Int.reduceEq, Int.reduceLT, Int.reduceLE, Int.reduceGT, Int.reduceGE, Int.reduceNe, Int.reduceBNe, TDef.row]) (by simp only [go_sem, kSt_ptr, Nat.reduceBEq, Nat.reduceAdd, Nat.reduceEqDiff, Nat.reduceLeDiff, Nat.reduceSub, reduceIte, Int.reduceBEq, Int.reduceEq, Int.reduceLT, Int.reduceLE, Int.reduceGT, Int.reduceGE, Int.reduceNe, Int.reduceBNe, Nat.lt_succ_self]) (by simp only [go_sem, kSt_ptr, Nat.reduceBEq, Nat.reduceAdd, Nat.reduceEqDiff, Nat.reduceLeDiff, Nat.reduceSub, reduceIte, Int.reduceBEq, Int.reduceEq, Int.reduceLT, Int.reduceLE, Int.reduceGT, Int.reduceGE, Int.reduceNe, Int.reduceBNe]) (by simp only [go_sem, kSt_ptr, Nat.reduceBEq, Nat.reduceAdd, Nat.reduceEqDiff, Nat.reduceLeDiff, Nat.reduceSub, reduceIte, Int.reduceBEq, Int.reduceEq, Int.reduceLT, Int.reduceLE, Int.reduceGT, Int.reduceGE, Int.reduceNe, Int.reduceBNe]) (by simp only [go_sem, kSt_ptr, Nat.reduceBEq, Nat.reduceAdd, Nat.reduceEqDiff, Nat.reduceLeDiff, Nat.reduceSub, reduceIte, Int.reduceBEq, Int.reduceEq, Int.reduceLT, Int.reduceLE, Int.reduceGT, Int.reduceGE, Int.reduceNe, Int.reduceBNe])).mono ?_
    rintro x e' h' (⟨hq, rfl, k0, k1, k2, k3⟩ | ⟨hq, rfl, k⟩)
    · simp only [go_sem, kSt_ptr, Nat.reduceBEq, Nat.reduceAdd, Nat.reduceEqDiff, Nat.reduceLeDiff, Nat.reduceSub, reduceIte, Int.reduceBEq, Int.reduceEq, Int.reduceLT, Int.reduceLE, Int.reduceGT, Int.reduceGE, Int.reduceNe, Int.reduceBNe, k0, k1, k2, k3, a.hw]
    · rw [f3] at hq; cases hq
  · rintro pre d rest b e h a hp ⟨q0, q1, ix, nx⟩
    have hc : C_impl_CheckDef [.agg [.str d.fName, .imm (d.fCols.map TCol.row), .imm (d.fPrimary.map TBy.row), .imm (d.fIndexes.map TIndex.row)]] = some (.int .i64 (checkDef d)) := C_impl_CheckDef_eq d (n2 d a.mem)
    obtain ⟨rfl, hcase⟩ := firstF_some hp
    cases f1 : (checkDef d != 0) <;> cases f2 : decide ((3 : Int) ≤ (pre.length : Int))
    all_goals simp only [go_sem, kSt_ptr, Nat.reduceBEq, Nat.reduceAdd, Nat.reduceEqDiff, Nat.reduceLeDiff, Nat.reduceSub, reduceIte, Int.reduceBEq, Int.reduceEq, Int.reduceLT, Int.reduceLE, Int.reduceGT, Int.reduceGE, Int.reduceNe, Int.reduceBNe, s_impl_FirstBad_L1, q0, q1, ix, nx, a.dl, a.ia (row := TDef.row) (sz := 4) rfl, hp, a.hw, TDef.row, h1, hc, kSl_pre (row := TDef.row) (sz := 4) a.hl (fun _ => rfl) (by decide), f1, f2]
    refine (inner pre d rest a _ _ h.nx (by simp only [go_sem, kSt_ptr, Nat.reduceBEq, Nat.reduceAdd, Nat.reduceEqDiff, Nat.reduceLeDiff, Nat.reduceSub, reduceIte, Int.reduceBEq, Int.reduceEq, Int.reduceLT, Int.reduceLE, Int.reduceGT, Int.reduceGE, Int.reduceNe, Int.reduceBNe, q0]) (by simp only [go_sem, kSt_ptr, Nat.reduceBEq, Nat.reduceAdd, Nat.reduceEqDiff, Nat.reduceLeDiff, Nat.reduceSub, reduceIte, Int.reduceBEq, Int.reduceEq, Int.reduceLT, Int.reduceLE, Int.reduceGT, Int.reduceGE, Int.reduceNe, Int.reduceBNe, q1]) (by simp only [go_sem, kSt_ptr, Nat.reduceBEq, Nat.reduceAdd, Nat.reduceEqDiff, Nat.reduceLeDiff, Nat.reduceSub, reduceIte, Int.reduceBEq, Int.reduceEq, Int.reduceLT, Int.reduceLE, Int.reduceGT, Int.reduceGE, Int.reduceNe, Int.reduceBNe, nx]) (by simp only [go_sem, kSt_ptr, Nat.reduceBEq, Nat.reduceAdd, Nat.reduceEqDiff, Nat.reduceLeDiff, Nat.reduceSub, reduceIte, Int.reduceBEq, Int.reduceEq, Int.reduceLT, Int.reduceLE, Int.reduceGT, Int.reduceGE, Int.reduceNe, Int.reduceBNe, ix]) (by simp only [go_sem, kSt_ptr, Nat.reduceBEq, Nat.reduceAdd, Nat.reduceEqDiff, Nat.reduceLeDiff, Nat.reduceSub, reduceIte, Int.reduceBEq, Int.reduceEq, Int.reduceLT, Int.reduceLE, Int.reduceGT, Int.reduceGE, Int.reduceNe, Int.reduceBNe]) (by simp only [go_sem, kSt_ptr, Nat.reduceBEq, Nat.reduceAdd, Nat.reduceEqDiff, Nat.reduceLeDiff, Nat.reduceSub, reduceIte, Int.reduceBEq, Int.reduceEq, Int.reduceLT, Int.reduceLE, Int.reduceGT, Int.reduceGE, Int.reduceNe, Int.reduceBNe]) (by simp only [go_sem, kSt_ptr, Nat.reduceBEq, Nat.reduceAdd, Nat.reduceEqDiff, Nat.reduceLeDiff, Nat.reduceSub, reduceIte, Int.reduceBEq, Int.reduceEq, Int.reduceLT, Int.reduceLE, Int.reduceGT, Int.reduceGE, Int.reduceNe, Int.reduceBNe, TDef.row]) (by simp only [go_sem, kSt_ptr, Nat.reduceBEq, Nat.reduceAdd, Nat.reduceEqDiff, Nat.reduceLeDiff, Nat.reduceSub, reduceIte, Int.reduceBEq, Int.reduceEq, Int.reduceLT, Int.reduceLE, Int.reduceGT, Int.reduceGE, Int.reduceNe, Int.reduceBNe, Nat.lt_succ_self]) (by simp only [go_sem, kSt_ptr, Nat.reduceBEq, Nat.reduceAdd, Nat.reduceEqDiff, Nat.reduceLeDiff, Nat.reduceSub, reduceIte, Int.reduceBEq, Int.reduceEq, Int.reduceLT, Int.reduceLE, Int.reduceGT, Int.reduceGE, Int.reduceNe, Int.reduceBNe]) (by simp only [go_sem, kSt_ptr, Nat.reduceBEq, Nat.reduceAdd, Nat.reduceEqDiff, Nat.reduceLeDiff, Nat.reduceSub, reduceIte, Int.reduceBEq, Int.reduceEq, Int.reduceLT, Int.reduceLE, Int.reduceGT, Int.reduceGE, Int.reduceNe, Int.reduceBNe]) (by simp only [go_sem, kSt_ptr, Nat.reduceBEq, Nat.reduceAdd, Nat.reduceEqDiff, Nat.reduceLeDiff, Nat.reduceSub, reduceIte, Int.reduceBEq, Int.reduceEq, Int.reduceLT, Int.reduceLE, Int.reduceGT, Int.reduceGE, Int.reduceNe, Int.reduceBNe])).mono ?_
    have hc3 := hcase f1 (by have := of_decide_eq_false f2; omega)
    rintro x e' h' (⟨hq, rfl, k0, k1⟩ | ⟨hq, rfl, k⟩)
    · rw [hc3] at hq; cases hq
    · simp only [go_sem, kSt_ptr, Nat.reduceBEq, Nat.reduceAdd, Nat.reduceEqDiff, Nat.reduceLeDiff, Nat.reduceSub, reduceIte, Int.reduceBEq, Int.reduceEq, Int.reduceLT, Int.reduceLE, Int.reduceGT, Int.reduceGE, Int.reduceNe, Int.reduceBNe, k]
  · rintro e h ⟨q0, q1, ix, nx⟩
    simp only [go_sem, kSt_ptr, Nat.reduceBEq, Nat.reduceAdd, Nat.reduceEqDiff, Nat.reduceLeDiff, Nat.reduceSub, reduceIte, Int.reduceBEq, Int.reduceEq, Int.reduceLT, Int.reduceLE, Int.reduceGT, Int.reduceGE, Int.reduceNe, Int.reduceBNe, s_impl_FirstBad_L1, q0, q1, ix, nx]
  · simp only [go_sem, kSt_ptr, Nat.reduceBEq, Nat.reduceAdd, Nat.reduceEqDiff, Nat.reduceLeDiff, Nat.reduceSub, reduceIte, Int.reduceBEq, Int.reduceEq, Int.reduceLT, Int.reduceLE, Int.reduceGT, Int.reduceGE, Int.reduceNe, Int.reduceBNe, and_self]
  · intro x e h hx
    cases he : earlyL firstF [] s with
    | none =>
      rw [he] at hx
      obtain ⟨rfl, j0⟩ := hx
      simp only [go_sem, kSt_ptr, Nat.reduceBEq, Nat.reduceAdd, Nat.reduceEqDiff, Nat.reduceLeDiff, Nat.reduceSub, reduceIte, Int.reduceBEq, Int.reduceEq, Int.reduceLT, Int.reduceLE, Int.reduceGT, Int.reduceGE, Int.reduceNe, Int.reduceBNe, firstBad, he, Option.getD_none]
    | some k =>
      rw [he] at hx
      obtain ⟨rfl, j⟩ := hx
      simp only [go_sem, kSt_ptr, Nat.reduceBEq, Nat.reduceAdd, Nat.reduceEqDiff, Nat.reduceLeDiff, Nat.reduceSub, reduceIte, Int.reduceBEq, Int.reduceEq, Int.reduceLT, Int.reduceLE, Int.reduceGT, Int.reduceGE, Int.reduceNe, Int.reduceBNe, s_impl_FirstBad, j, firstBad, he]
noncomputable def C_impl_hasIndex := c3 (sliceT tDef) intT intT (fun (s : List (TDef)) (t : Int) (i : Int) => (sliceT tDef).cost s ≤ 1048576) (.bool) fun (s : List (TDef)) (t : Int) (i : Int) => there s t i
theorem C_impl_hasIndex_eq (s : List (TDef)) (t : Int) (i : Int) (h : (sliceT tDef).cost s ≤ 1048576) : C_impl_hasIndex [.imm (s.map TDef.row), .int .i64 t, .int .i64 i] = some (.bool ((there s t i))) := c3_eq (sliceT tDef) intT intT h
theorem ok_impl_hasIndex {WI : World → Prop} (hs : Stable WI) (cs) (hT : TOK (EE cs) WI) (h1 : (EE cs).T 72 = some C_impl_FirstBad) (h2 : (EE cs).T 44 = some C_impl_in) : PureOK Tryd.prog WI 43 C_impl_hasIndex := by
  refine pure3 (E := EE cs) hT hs (by rw [st_impl_hasIndex]; rfl) fun s t i hp => out_wp (n := 0) (st_impl_hasIndex cs) ?_
  obtain ⟨n1, n2⟩ := defsLens hp
  have c1 := C_impl_FirstBad_eq s hp
  have hw : IntKind.wrap .i64 ((s.length : Int) - 1) = (s.length : Int) - 1 := wrapId (by omega) (by omega)
  cases d1 : (firstBad s == -1)
  · simp only [go_sem, kSt_ptr, Nat.reduceBEq, Nat.reduceAdd, Nat.reduceEqDiff, Nat.reduceLeDiff, Nat.reduceSub, reduceIte, Int.reduceBEq, Int.reduceEq, Int.reduceLT, Int.reduceLE, Int.reduceGT, Int.reduceGE, Int.reduceNe, Int.reduceBNe, s_impl_hasIndex, h1, c1, d1, there]
  cases d2 : inR t 0 ((s.length : Int) - 1)
  · simp only [go_sem, kSt_ptr, Nat.reduceBEq, Nat.reduceAdd, Nat.reduceEqDiff, Nat.reduceLeDiff, Nat.reduceSub, reduceIte, Int.reduceBEq, Int.reduceEq, Int.reduceLT, Int.reduceLE, Int.reduceGT, Int.reduceGE, Int.reduceNe, Int.reduceBNe, s_impl_hasIndex, h1, c1, d1, h2, C_impl_in_eq, hw, d2, there]
  obtain ⟨z1, z2⟩ := inR_nat d2
  obtain ⟨d, hd⟩ : ∃ d, s[t.toNat]? = some d := ⟨_, List.getElem?_eq_getElem z2⟩
  have n3 := (defLens (n2 d (List.mem_of_getElem? hd))).2.2.2.1
  have hw2 : IntKind.wrap .i64 ((d.fIndexes.length : Int) - 1) = (d.fIndexes.length : Int) - 1 := wrapId (by omega) (by omega)
  simp only [go_sem, kSt_ptr, Nat.reduceBEq, Nat.reduceAdd, Nat.reduceEqDiff, Nat.reduceLeDiff, Nat.reduceSub, reduceIte, Int.reduceBEq, Int.reduceEq, Int.reduceLT, Int.reduceLE, Int.reduceGT, Int.reduceGE, Int.reduceNe, Int.reduceBNe, s_impl_hasIndex, h1, c1, d1, h2, C_impl_in_eq, hw, d2, kIa_nth (row := TDef.row) (sz := 4) z1 hd rfl, TDef.row, hw2, there, hd]
end Go.Proofs.YtgjdkcjijmdfoaaDoor.Sc
/- What the functions that FnExactScanOk calls answer: part 9. -/
namespace Go.Proofs.YtgjdkcjijmdfoaaDoor.Sc
open Go Go.RowKit Go.Ev
set_option linter.unusedSimpArgs false
set_option linter.unusedVariables false
noncomputable def C_impl_partsOf := c2 tDef (sliceT tBy) (fun (v : TDef) (l : List (TBy)) => partsOK v l = true) (fun x => .app 4 (x.map TPart.row)) fun (v : TDef) (l : List (TBy)) => partsOf v l
theorem C_impl_partsOf_eq (v : TDef) (l : List (TBy)) (h : partsOK v l = true) : C_impl_partsOf [.agg [.str v.fName, .imm (v.fCols.map TCol.row), .imm (v.fPrimary.map TBy.row), .imm (v.fIndexes.map TIndex.row)], .imm (l.map TBy.row)] = some (.app 4 ((partsOf v l).map TPart.row)) := c2_eq tDef (sliceT tBy) h
theorem ok_impl_partsOf {WI : World → Prop} (hs : Stable WI) (cs) (hT : TOK (EE cs) WI) : FreshOK Tryd.prog WI 95 C_impl_partsOf := by
  refine pure2F (E := EE cs) hT hs (by rw [st_impl_partsOf]; rfl) fun v l hp => outF_wp (sz := 4) (st_impl_partsOf cs) ?_
  have hl := hp
  have hl2 := parts_len hl
  simp only [go_sem, kSt_ptr, Nat.reduceBEq, Nat.reduceAdd, Nat.reduceEqDiff, Nat.reduceLeDiff, Nat.reduceSub, reduceIte, Int.reduceBEq, Int.reduceEq, Int.reduceLT, Int.reduceLE, Int.reduceGT, Int.reduceGE, Int.reduceNe, Int.reduceBNe, s_impl_partsOf, TDef.row]
  refine (wl_for (l := l) (fun pre e h => e 2 = .ptr 0 0 ∧ h.hp 0 = some v.row ∧ 0 < h.nx ∧ e 9 = .imm (l.map TBy.row) ∧ grows tPart (partsOf v pre) (e 5) h ∧ e 11 = .int .i64 pre.length ∧ e 10 = .int .i64 (l).length) (.exit 0) (fun e h => grows tPart (partsOf v l) (e 5) h) (by omega) ?_ ?_ (by simp) l [] _ _ rfl ?_).mono ?_
  · rintro pre p rest e h a ⟨q0, q1, q2, q3, q4, ix, nx⟩
    obtain ⟨z1, c, hc⟩ := cols_get hl a.mem
    have hpo : partOf v p.fCol p.fDesc = ⟨p.fCol, c.fType, c.fNull, p.fDesc⟩ := by unfold partOf; rw [hc]
    have hsn : partsOf v (pre ++ [p]) = partsOf v pre ++ [(⟨p.fCol, c.fType, c.fNull, p.fDesc⟩ : TPart)] := by simp [partsOf, hpo]
    have hne : ¬ 0 = h.nx := by omega
    have hne3 : ¬ 0 = h.nx + 1 := by omega
    have f1 : fillR (List.replicate 1 [.int .i64 0, .int .i64 0, .bool false, .bool false]) 4 [(0, .agg [.int .i64 p.fCol, .int .i64 c.fType, .bool c.fNull, .bool p.fDesc])] = some [[.int .i64 p.fCol, .int .i64 c.fType, .bool c.fNull, .bool p.fDesc]] := rfl
    have f2 : frzRows [[.int .i64 p.fCol, .int .i64 c.fType, .bool c.fNull, .bool p.fDesc]] = some [[.int .i64 p.fCol, .int .i64 c.fType, .bool c.fNull, .bool p.fDesc]] := rfl
    simp only [go_sem, kSt_ptr, Nat.reduceBEq, Nat.reduceAdd, Nat.reduceEqDiff, Nat.reduceLeDiff, Nat.reduceSub, reduceIte, Int.reduceBEq, Int.reduceEq, Int.reduceLT, Int.reduceLE, Int.reduceGT, Int.reduceGE, Int.reduceNe, Int.reduceBNe, s_impl_partsOf_L0, q0, q1, q2, q3, q4, ix, nx, a.dl, a.ia (row := TBy.row) (sz := 2) rfl, a.hw, TDef.row, TBy.row, TCol.row, kIa_nth (row := TCol.row) (sz := 3) z1 hc rfl, hne, hne3, partFill, f1, f2]
    refine hP_grow [(⟨p.fCol, c.fType, c.fNull, p.fDesc⟩ : TPart)] rfl (q4.mono (by simp; omega) (fun r hr => by simp; omega)) rfl (by rw [partsOf_len]; have := a.lt; simp only [List.length_cons, List.length_nil]; unfold room; omega) ?_
    intro v' h' g1 g2 g3 _
    have g3' : 0 < h'.nx := by simp at g3; omega
    simp only [go_sem, kSt_ptr, Nat.reduceBEq, Nat.reduceAdd, Nat.reduceEqDiff, Nat.reduceLeDiff, Nat.reduceSub, reduceIte, Int.reduceBEq, Int.reduceEq, Int.reduceLT, Int.reduceLE, Int.reduceGT, Int.reduceGE, Int.reduceNe, Int.reduceBNe, q0, q3, ix, nx, g2, hne, hne3, q1, g3', TDef.row, a.hw, hsn, g1]
  · rintro e h ⟨q0, q1, q2, q3, q4, ix, nx⟩
    simp only [go_sem, kSt_ptr, Nat.reduceBEq, Nat.reduceAdd, Nat.reduceEqDiff, Nat.reduceLeDiff, Nat.reduceSub, reduceIte, Int.reduceBEq, Int.reduceEq, Int.reduceLT, Int.reduceLE, Int.reduceGT, Int.reduceGE, Int.reduceNe, Int.reduceBNe, s_impl_partsOf_L0, q0, q1, q2, q3, q4, ix, nx, TDef.row]
  · exact ⟨rfl, rfl, Nat.succ_pos _, rfl, .inl ⟨rfl, rfl⟩, rfl, rfl⟩
  · rintro x e h ⟨rfl, j⟩
    simp only [go_sem, kSt_ptr, Nat.reduceBEq, Nat.reduceAdd, Nat.reduceEqDiff, Nat.reduceLeDiff, Nat.reduceSub, reduceIte, Int.reduceBEq, Int.reduceEq, Int.reduceLT, Int.reduceLE, Int.reduceGT, Int.reduceGE, Int.reduceNe, Int.reduceBNe]
    exact frR_grows j rfl
noncomputable def C_impl_PrimaryPlan := c1 tDef (fun (v : TDef) => tDef.cost v ≤ 1048576) (fun x => .imm (x.map TPart.row)) fun (v : TDef) => primPlan v
theorem C_impl_PrimaryPlan_eq (v : TDef) (h : tDef.cost v ≤ 1048576) : C_impl_PrimaryPlan [.agg [.str v.fName, .imm (v.fCols.map TCol.row), .imm (v.fPrimary.map TBy.row), .imm (v.fIndexes.map TIndex.row)]] = some (.imm (((primPlan v)).map TPart.row)) := c1_eq tDef h
theorem ok_impl_PrimaryPlan {WI : World → Prop} (hs : Stable WI) (cs) (hT : TOK (EE cs) WI) (h1 : (EE cs).T 94 = some C_impl_CheckDef) (h2 : (EE cs).T 95 = some C_impl_partsOf) : PureOK Tryd.prog WI 73 C_impl_PrimaryPlan := by
  refine pure1 (E := EE cs) hT hs (by rw [st_impl_PrimaryPlan]; rfl) fun v hp => out_wp (n := 0) (st_impl_PrimaryPlan cs) ?_
  have fr_h2 : (EE cs).fr 95 = true := rfl
  have c1 : C_impl_CheckDef [.agg [.str v.fName, .imm (v.fCols.map TCol.row), .imm (v.fPrimary.map TBy.row), .imm (v.fIndexes.map TIndex.row)]] = some (.int .i64 (checkDef v)) := C_impl_CheckDef_eq v hp
  by_cases d : checkDef v = 0
  · have c2 : C_impl_partsOf [.agg [.str v.fName, .imm (v.fCols.map TCol.row), .imm (v.fPrimary.map TBy.row), .imm (v.fIndexes.map TIndex.row)], .imm (v.fPrimary.map TBy.row)] = some (.app 4 ((partsOf v v.fPrimary).map TPart.row)) := C_impl_partsOf_eq v v.fPrimary (check_parts d).1
    simp only [go_sem, kSt_ptr, Nat.reduceBEq, Nat.reduceAdd, Nat.reduceEqDiff, Nat.reduceLeDiff, Nat.reduceSub, reduceIte, Int.reduceBEq, Int.reduceEq, Int.reduceLT, Int.reduceLE, Int.reduceGT, Int.reduceGE, Int.reduceNe, Int.reduceBNe, s_impl_PrimaryPlan, TDef.row, h1, c1, h2, c2, fr_h2, primPlan, d]
  · simp only [go_sem, kSt_ptr, Nat.reduceBEq, Nat.reduceAdd, Nat.reduceEqDiff, Nat.reduceLeDiff, Nat.reduceSub, reduceIte, Int.reduceBEq, Int.reduceEq, Int.reduceLT, Int.reduceLE, Int.reduceGT, Int.reduceGE, Int.reduceNe, Int.reduceBNe, s_impl_PrimaryPlan, TDef.row, h1, c1, bneT d, primPlan, d, fillR, List.replicate, frzRows]
noncomputable def C_impl_IndexPlan := c2 tDef intT (fun (v : TDef) (i : Int) => tDef.cost v ≤ 1048576) (fun x => .imm (x.map TPart.row)) fun (v : TDef) (i : Int) => idxPlan v i
theorem C_impl_IndexPlan_eq (v : TDef) (i : Int) (h : tDef.cost v ≤ 1048576) : C_impl_IndexPlan [.agg [.str v.fName, .imm (v.fCols.map TCol.row), .imm (v.fPrimary.map TBy.row), .imm (v.fIndexes.map TIndex.row)], .int .i64 i] = some (.imm (((idxPlan v i)).map TPart.row)) := c2_eq tDef intT h
theorem ok_impl_IndexPlan {WI : World → Prop} (hs : Stable WI) (cs) (hT : TOK (EE cs) WI) (h1 : (EE cs).T 94 = some C_impl_CheckDef) (h3 : (EE cs).T 44 = some C_impl_in) (h2 : (EE cs).T 95 = some C_impl_partsOf) : PureOK Tryd.prog WI 74 C_impl_IndexPlan := by
  refine pure2 (E := EE cs) hT hs (by rw [st_impl_IndexPlan]; rfl) fun v i hp => out_wp (n := 0) (st_impl_IndexPlan cs) ?_
  have fr_h2 : (EE cs).fr 95 = true := rfl
  have c1 : C_impl_CheckDef [.agg [.str v.fName, .imm (v.fCols.map TCol.row), .imm (v.fPrimary.map TBy.row), .imm (v.fIndexes.map TIndex.row)]] = some (.int .i64 (checkDef v)) := C_impl_CheckDef_eq v hp
  have n3 := (defLens hp).2.2.2.1
  have hw : IntKind.wrap .i64 ((v.fIndexes.length : Int) - 1) = (v.fIndexes.length : Int) - 1 := wrapId (by omega) (by omega)
  by_cases d : checkDef v = 0
  · cases d2 : inR i 0 ((v.fIndexes.length : Int) - 1)
    · simp only [go_sem, kSt_ptr, Nat.reduceBEq, Nat.reduceAdd, Nat.reduceEqDiff, Nat.reduceLeDiff, Nat.reduceSub, reduceIte, Int.reduceBEq, Int.reduceEq, Int.reduceLT, Int.reduceLE, Int.reduceGT, Int.reduceGE, Int.reduceNe, Int.reduceBNe, s_impl_IndexPlan, TDef.row, h1, c1, h3, C_impl_in_eq, hw, d2, idxPlan, d, fillR, List.replicate, frzRows]
    · obtain ⟨z1, z2⟩ := inR_nat d2
      obtain ⟨x, hx⟩ : ∃ x, v.fIndexes[i.toNat]? = some x := ⟨_, List.getElem?_eq_getElem z2⟩
      have hxp := (check_parts d).2 x (List.mem_of_getElem? hx)
      have c2 : ∀ l, partsOK v l = true → C_impl_partsOf [.agg [.str v.fName, .imm (v.fCols.map TCol.row), .imm (v.fPrimary.map TBy.row), .imm (v.fIndexes.map TIndex.row)], .imm (l.map TBy.row)] = some (.app 4 ((partsOf v l).map TPart.row)) := fun l hl => C_impl_partsOf_eq v l hl
      have ap := fun id id' H hH => plan_app (id := id) (id' := id') (H := H) hxp (check_parts d).1 hH
      simp only [go_sem, kSt_ptr, Nat.reduceBEq, Nat.reduceAdd, Nat.reduceEqDiff, Nat.reduceLeDiff, Nat.reduceSub, reduceIte, Int.reduceBEq, Int.reduceEq, Int.reduceLT, Int.reduceLE, Int.reduceGT, Int.reduceGE, Int.reduceNe, Int.reduceBNe, s_impl_IndexPlan, TDef.row, h1, c1, h3, C_impl_in_eq, hw, d2, kIa_nth (row := TIndex.row) (sz := 3) z1 hx rfl, TIndex.row, h2, c2 x.fParts hxp, c2 v.fPrimary (check_parts d).1, fr_h2, ap, idxPlan, d, hx]
  · simp only [go_sem, kSt_ptr, Nat.reduceBEq, Nat.reduceAdd, Nat.reduceEqDiff, Nat.reduceLeDiff, Nat.reduceSub, reduceIte, Int.reduceBEq, Int.reduceEq, Int.reduceLT, Int.reduceLE, Int.reduceGT, Int.reduceGE, Int.reduceNe, Int.reduceBNe, s_impl_IndexPlan, TDef.row, h1, c1, bneT d, idxPlan, d, fillR, List.replicate, frzRows]
noncomputable def C_impl_planOf := c2 tDef intT (fun (v : TDef) (i : Int) => tDef.cost v ≤ 1048576 ∧ -1 ≤ i) (fun x => .imm (x.map TPart.row)) fun (v : TDef) (i : Int) => planOf v i
theorem C_impl_planOf_eq (v : TDef) (i : Int) (h : tDef.cost v ≤ 1048576 ∧ -1 ≤ i) : C_impl_planOf [.agg [.str v.fName, .imm (v.fCols.map TCol.row), .imm (v.fPrimary.map TBy.row), .imm (v.fIndexes.map TIndex.row)], .int .i64 i] = some (.imm (((planOf v i)).map TPart.row)) := c2_eq tDef intT h
theorem ok_impl_planOf {WI : World → Prop} (hs : Stable WI) (cs) (hT : TOK (EE cs) WI) (h1 : (EE cs).T 73 = some C_impl_PrimaryPlan) (h2 : (EE cs).T 74 = some C_impl_IndexPlan) : PureOK Tryd.prog WI 45 C_impl_planOf := by
  refine pure2 (E := EE cs) hT hs (by rw [st_impl_planOf]; rfl) fun v i hp => out_wp (n := 0) (st_impl_planOf cs) ?_
  obtain ⟨hp, hi⟩ := hp
  have c1 : C_impl_PrimaryPlan [.agg [.str v.fName, .imm (v.fCols.map TCol.row), .imm (v.fPrimary.map TBy.row), .imm (v.fIndexes.map TIndex.row)]] = some (.imm ((primPlan v).map TPart.row)) := C_impl_PrimaryPlan_eq v hp
  have c2 : C_impl_IndexPlan [.agg [.str v.fName, .imm (v.fCols.map TCol.row), .imm (v.fPrimary.map TBy.row), .imm (v.fIndexes.map TIndex.row)], .int .i64 i] = some (.imm ((idxPlan v i).map TPart.row)) := C_impl_IndexPlan_eq v i hp
  by_cases d : i = -1
  · subst d
    simp only [go_sem, kSt_ptr, Nat.reduceBEq, Nat.reduceAdd, Nat.reduceEqDiff, Nat.reduceLeDiff, Nat.reduceSub, reduceIte, Int.reduceBEq, Int.reduceEq, Int.reduceLT, Int.reduceLE, Int.reduceGT, Int.reduceGE, Int.reduceNe, Int.reduceBNe, s_impl_planOf, TDef.row, h1, c1, planOf]
  · have d2 : ¬ i < 0 := by omega
    simp only [go_sem, kSt_ptr, Nat.reduceBEq, Nat.reduceAdd, Nat.reduceEqDiff, Nat.reduceLeDiff, Nat.reduceSub, reduceIte, Int.reduceBEq, Int.reduceEq, Int.reduceLT, Int.reduceLE, Int.reduceGT, Int.reduceGE, Int.reduceNe, Int.reduceBNe, s_impl_planOf, TDef.row, d2, h2, c2, planOf, d]
theorem ev_impl_ValOk (cs) (hT : (EE cs).T 44 = some C_impl_in) (v : TVal) : ∃ k n, out (EE cs) k n 56 [.agg v.row] = some (.bool (valOk v)) := by
  refine out_K (n := 0) (st_impl_ValOk cs) ?_
  by_cases h0 : v.fK = 0
  · by_cases hn : v.fN = 0
    · simp only [go_sem, kSt_ptr, Nat.reduceBEq, Nat.reduceAdd, Nat.reduceEqDiff, Nat.reduceLeDiff, Nat.reduceSub, reduceIte, Int.reduceBEq, Int.reduceEq, Int.reduceLT, Int.reduceLE, Int.reduceGT, Int.reduceGE, Int.reduceNe, Int.reduceBNe, s_impl_ValOk, TVal.row, h0, hn, valOk]
    · simp only [go_sem, kSt_ptr, Nat.reduceBEq, Nat.reduceAdd, Nat.reduceEqDiff, Nat.reduceLeDiff, Nat.reduceSub, reduceIte, Int.reduceBEq, Int.reduceEq, Int.reduceLT, Int.reduceLE, Int.reduceGT, Int.reduceGE, Int.reduceNe, Int.reduceBNe, s_impl_ValOk, TVal.row, h0, hn, beqF hn, valOk]
  by_cases h1 : v.fK = 1
  · cases hn : inR v.fN (-2147483648) 2147483647
    · simp only [go_sem, kSt_ptr, Nat.reduceBEq, Nat.reduceAdd, Nat.reduceEqDiff, Nat.reduceLeDiff, Nat.reduceSub, reduceIte, Int.reduceBEq, Int.reduceEq, Int.reduceLT, Int.reduceLE, Int.reduceGT, Int.reduceGE, Int.reduceNe, Int.reduceBNe, s_impl_ValOk, TVal.row, h1, hn, valOk, hT, C_impl_in_eq]
    · simp only [go_sem, kSt_ptr, Nat.reduceBEq, Nat.reduceAdd, Nat.reduceEqDiff, Nat.reduceLeDiff, Nat.reduceSub, reduceIte, Int.reduceBEq, Int.reduceEq, Int.reduceLT, Int.reduceLE, Int.reduceGT, Int.reduceGE, Int.reduceNe, Int.reduceBNe, s_impl_ValOk, TVal.row, h1, hn, valOk, hT, C_impl_in_eq]
  by_cases h2 : v.fK = 2
  · cases hn : inR v.fN (-1000000000000000) 1000000000000000
    · simp only [go_sem, kSt_ptr, Nat.reduceBEq, Nat.reduceAdd, Nat.reduceEqDiff, Nat.reduceLeDiff, Nat.reduceSub, reduceIte, Int.reduceBEq, Int.reduceEq, Int.reduceLT, Int.reduceLE, Int.reduceGT, Int.reduceGE, Int.reduceNe, Int.reduceBNe, s_impl_ValOk, TVal.row, h2, hn, valOk, hT, C_impl_in_eq]
    · simp only [go_sem, kSt_ptr, Nat.reduceBEq, Nat.reduceAdd, Nat.reduceEqDiff, Nat.reduceLeDiff, Nat.reduceSub, reduceIte, Int.reduceBEq, Int.reduceEq, Int.reduceLT, Int.reduceLE, Int.reduceGT, Int.reduceGE, Int.reduceNe, Int.reduceBNe, s_impl_ValOk, TVal.row, h2, hn, valOk, hT, C_impl_in_eq]
  by_cases h3 : v.fK = 3
  · by_cases hn : v.fN = 0
    · simp only [go_sem, kSt_ptr, Nat.reduceBEq, Nat.reduceAdd, Nat.reduceEqDiff, Nat.reduceLeDiff, Nat.reduceSub, reduceIte, Int.reduceBEq, Int.reduceEq, Int.reduceLT, Int.reduceLE, Int.reduceGT, Int.reduceGE, Int.reduceNe, Int.reduceBNe, s_impl_ValOk, TVal.row, h3, hn, valOk, hT, C_impl_in_eq]
    · simp only [go_sem, kSt_ptr, Nat.reduceBEq, Nat.reduceAdd, Nat.reduceEqDiff, Nat.reduceLeDiff, Nat.reduceSub, reduceIte, Int.reduceBEq, Int.reduceEq, Int.reduceLT, Int.reduceLE, Int.reduceGT, Int.reduceGE, Int.reduceNe, Int.reduceBNe, s_impl_ValOk, TVal.row, h3, hn, beqF hn, valOk, hT, C_impl_in_eq]
  by_cases h4 : v.fK = 4
  · cases hn : inR v.fN 0 1
    · simp only [go_sem, kSt_ptr, Nat.reduceBEq, Nat.reduceAdd, Nat.reduceEqDiff, Nat.reduceLeDiff, Nat.reduceSub, reduceIte, Int.reduceBEq, Int.reduceEq, Int.reduceLT, Int.reduceLE, Int.reduceGT, Int.reduceGE, Int.reduceNe, Int.reduceBNe, s_impl_ValOk, TVal.row, h4, hn, valOk, hT, C_impl_in_eq]
    · simp only [go_sem, kSt_ptr, Nat.reduceBEq, Nat.reduceAdd, Nat.reduceEqDiff, Nat.reduceLeDiff, Nat.reduceSub, reduceIte, Int.reduceBEq, Int.reduceEq, Int.reduceLT, Int.reduceLE, Int.reduceGT, Int.reduceGE, Int.reduceNe, Int.reduceBNe, s_impl_ValOk, TVal.row, h4, hn, valOk, hT, C_impl_in_eq]
  simp only [go_sem, kSt_ptr, Nat.reduceBEq, Nat.reduceAdd, Nat.reduceEqDiff, Nat.reduceLeDiff, Nat.reduceSub, reduceIte, Int.reduceBEq, Int.reduceEq, Int.reduceLT, Int.reduceLE, Int.reduceGT, Int.reduceGE, Int.reduceNe, Int.reduceBNe, s_impl_ValOk, TVal.row, h0, h1, h2, h3, h4, beqF h0, beqF h1, beqF h2, beqF h3, beqF h4, valOk, hT, C_impl_in_eq]
noncomputable def C_impl_ValOk := ct (fun a : TVal => [.agg a.row]) (fun _ => True) .bool valOk
theorem C_impl_ValOk_eq (k n : Int) (s : List UInt8) : C_impl_ValOk [.agg [.int .i64 k, .int .i64 n, .str s]] = some (.bool (valOk ⟨k, n, s⟩)) := by
  unfold C_impl_ValOk
  exact ct_eq (a := (⟨k, n, s⟩ : TVal)) (fun a b h => by
    simp only [List.cons.injEq, AV.agg.injEq, and_true] at h
    exact TVal.inj _ _ h) trivial
theorem ok_impl_ValOk {WI} (hs : Stable WI) (cs) (hT : TOK (EE cs) WI) (h : (EE cs).T 44 = some C_impl_in) : PureOK Tryd.prog WI 56 C_impl_ValOk := pure_out hT hs (by rw [st_impl_ValOk]; rfl) fun a _ => ev_impl_ValOk cs h a
noncomputable def C_impl_Fits := c2 tPart tVal (fun (p : TPart) (v : TVal) => True) (.bool) fun (p : TPart) (v : TVal) => fitsV p v
theorem C_impl_Fits_eq (p : TPart) (v : TVal) (h : True) : C_impl_Fits [.agg [.int .i64 p.fCol, .int .i64 p.fType, .bool p.fNull, .bool p.fDesc], .agg [.int .i64 v.fK, .int .i64 v.fN, .str v.fS]] = some (.bool ((fitsV p v))) := c2_eq tPart tVal h
theorem ok_impl_Fits {WI : World → Prop} (hs : Stable WI) (cs) (hT : TOK (EE cs) WI) (h1 : (EE cs).T 56 = some C_impl_ValOk) : PureOK Tryd.prog WI 75 C_impl_Fits := by
  refine pure2 (E := EE cs) hT hs (by rw [st_impl_Fits]; rfl) fun p v hp => out_wp (n := 0) (st_impl_Fits cs) ?_
  have c1 : C_impl_ValOk [.agg [.int .i64 v.fK, .int .i64 v.fN, .str v.fS]] = some (.bool (valOk v)) := C_impl_ValOk_eq v.fK v.fN v.fS
  cases d1 : valOk v
  · simp only [go_sem, kSt_ptr, Nat.reduceBEq, Nat.reduceAdd, Nat.reduceEqDiff, Nat.reduceLeDiff, Nat.reduceSub, reduceIte, Int.reduceBEq, Int.reduceEq, Int.reduceLT, Int.reduceLE, Int.reduceGT, Int.reduceGE, Int.reduceNe, Int.reduceBNe, s_impl_Fits, TPart.row, TVal.row, h1, c1, d1, fitsV]
  cases d2 : (v.fK == p.fType) <;> cases d3 : (v.fK == 0) <;> cases d4 : p.fNull <;> simp only [go_sem, kSt_ptr, Nat.reduceBEq, Nat.reduceAdd, Nat.reduceEqDiff, Nat.reduceLeDiff, Nat.reduceSub, reduceIte, Int.reduceBEq, Int.reduceEq, Int.reduceLT, Int.reduceLE, Int.reduceGT, Int.reduceGE, Int.reduceNe, Int.reduceBNe, s_impl_Fits, TPart.row, TVal.row, h1, c1, d1, d2, d3, d4, bne, fitsV, Bool.true_or, Bool.or_true]
noncomputable def C_impl_FitsAll := c2 (sliceT tPart) (sliceT tVal) (fun (l : List (TPart)) (vs : List (TVal)) => l.length ≤ 1048576 ∧ vs.length ≤ 1048576) (.bool) fun (l : List (TPart)) (vs : List (TVal)) => fitsAll l vs
theorem C_impl_FitsAll_eq (l : List (TPart)) (vs : List (TVal)) (h : l.length ≤ 1048576 ∧ vs.length ≤ 1048576) : C_impl_FitsAll [.imm (l.map TPart.row), .imm (vs.map TVal.row)] = some (.bool ((fitsAll l vs))) := c2_eq (sliceT tPart) (sliceT tVal) h
theorem ok_impl_FitsAll {WI : World → Prop} (hs : Stable WI) (cs) (hT : TOK (EE cs) WI) (h1 : (EE cs).T 75 = some C_impl_Fits) : PureOK Tryd.prog WI 46 C_impl_FitsAll := by
  refine pure2 (E := EE cs) hT hs (by rw [st_impl_FitsAll]; rfl) fun l vs hp => out_wp (n := 0) (st_impl_FitsAll cs) ?_
  obtain ⟨n1, n2⟩ := hp
  by_cases hlen : (l.length : Int) < (vs.length : Int)
  · have hd : decide (vs.length ≤ l.length) = false := decide_eq_false (by omega)
    simp only [go_sem, kSt_ptr, Nat.reduceBEq, Nat.reduceAdd, Nat.reduceEqDiff, Nat.reduceLeDiff, Nat.reduceSub, reduceIte, Int.reduceBEq, Int.reduceEq, Int.reduceLT, Int.reduceLE, Int.reduceGT, Int.reduceGE, Int.reduceNe, Int.reduceBNe, s_impl_FitsAll, hlen, fitsAll, hd]
  have hd : decide (vs.length ≤ l.length) = true := decide_eq_true (by omega)
  simp only [go_sem, kSt_ptr, Nat.reduceBEq, Nat.reduceAdd, Nat.reduceEqDiff, Nat.reduceLeDiff, Nat.reduceSub, reduceIte, Int.reduceBEq, Int.reduceEq, Int.reduceLT, Int.reduceLE, Int.reduceGT, Int.reduceGE, Int.reduceNe, Int.reduceBNe, s_impl_FitsAll, hlen]
  refine (wl_all (l := vs) (fun pre v => fitAt l pre v) (fun pre e h => e 0 = .imm (l.map TPart.row) ∧ e 12 = .imm (vs.map TVal.row) ∧ e 14 = .int .i64 pre.length ∧ e 13 = .int .i64 (vs).length) (.exit 0) (fun e h => e 0 = .imm (l.map TPart.row) ∧ e 12 = .imm (vs.map TVal.row)) (fun e h => e 4 = .bool false) (by omega) ?_ ?_ ?_ (by simp) vs [] _ _ rfl ?_).mono ?_
  · rintro pre v rest e h a hp ⟨q0, q1, ix, nx⟩
    obtain ⟨p, hpp⟩ : ∃ p, l[pre.length]? = some p := ⟨_, List.getElem?_eq_getElem (by have := a.lt; omega)⟩
    have hpp' : l[((pre.length : Int)).toNat]? = some p := by simpa using hpp
    have hc : C_impl_Fits [.agg [.int .i64 p.fCol, .int .i64 p.fType, .bool p.fNull, .bool p.fDesc], .agg [.int .i64 v.fK, .int .i64 v.fN, .str v.fS]] = some (.bool (fitsV p v)) := C_impl_Fits_eq p v trivial
    rw [fitAt_some hpp] at hp
    simp only [go_sem, kSt_ptr, Nat.reduceBEq, Nat.reduceAdd, Nat.reduceEqDiff, Nat.reduceLeDiff, Nat.reduceSub, reduceIte, Int.reduceBEq, Int.reduceEq, Int.reduceLT, Int.reduceLE, Int.reduceGT, Int.reduceGE, Int.reduceNe, Int.reduceBNe, s_impl_FitsAll_L0, q0, q1, ix, nx, a.dl, a.ia (row := TVal.row) (sz := 3) rfl, hp, a.hw, kIa_nth (row := TPart.row) (sz := 4) (by omega) hpp' rfl, TPart.row, TVal.row, h1, hc]
  · rintro pre v rest e h a hp ⟨q0, q1, ix, nx⟩
    obtain ⟨p, hpp⟩ : ∃ p, l[pre.length]? = some p := ⟨_, List.getElem?_eq_getElem (by have := a.lt; omega)⟩
    have hpp' : l[((pre.length : Int)).toNat]? = some p := by simpa using hpp
    have hc : C_impl_Fits [.agg [.int .i64 p.fCol, .int .i64 p.fType, .bool p.fNull, .bool p.fDesc], .agg [.int .i64 v.fK, .int .i64 v.fN, .str v.fS]] = some (.bool (fitsV p v)) := C_impl_Fits_eq p v trivial
    rw [fitAt_some hpp] at hp
    simp only [go_sem, kSt_ptr, Nat.reduceBEq, Nat.reduceAdd, Nat.reduceEqDiff, Nat.reduceLeDiff, Nat.reduceSub, reduceIte, Int.reduceBEq, Int.reduceEq, Int.reduceLT, Int.reduceLE, Int.reduceGT, Int.reduceGE, Int.reduceNe, Int.reduceBNe, s_impl_FitsAll_L0, q0, q1, ix, nx, a.dl, a.ia (row := TVal.row) (sz := 3) rfl, hp, a.hw, kIa_nth (row := TPart.row) (sz := 4) (by omega) hpp' rfl, TPart.row, TVal.row, h1, hc]
  · rintro e h ⟨q0, q1, ix, nx⟩
    simp only [go_sem, kSt_ptr, Nat.reduceBEq, Nat.reduceAdd, Nat.reduceEqDiff, Nat.reduceLeDiff, Nat.reduceSub, reduceIte, Int.reduceBEq, Int.reduceEq, Int.reduceLT, Int.reduceLE, Int.reduceGT, Int.reduceGE, Int.reduceNe, Int.reduceBNe, s_impl_FitsAll_L0, q0, q1, ix, nx]
  · simp only [go_sem, kSt_ptr, Nat.reduceBEq, Nat.reduceAdd, Nat.reduceEqDiff, Nat.reduceLeDiff, Nat.reduceSub, reduceIte, Int.reduceBEq, Int.reduceEq, Int.reduceLT, Int.reduceLE, Int.reduceGT, Int.reduceGE, Int.reduceNe, Int.reduceBNe, and_self]
  · rintro x e h (⟨hp, rfl, j0, j1⟩ | ⟨hp, rfl, j⟩)
    · simp only [go_sem, kSt_ptr, Nat.reduceBEq, Nat.reduceAdd, Nat.reduceEqDiff, Nat.reduceLeDiff, Nat.reduceSub, reduceIte, Int.reduceBEq, Int.reduceEq, Int.reduceLT, Int.reduceLE, Int.reduceGT, Int.reduceGE, Int.reduceNe, Int.reduceBNe, fitsAll, hd, hp]
    · simp only [go_sem, kSt_ptr, Nat.reduceBEq, Nat.reduceAdd, Nat.reduceEqDiff, Nat.reduceLeDiff, Nat.reduceSub, reduceIte, Int.reduceBEq, Int.reduceEq, Int.reduceLT, Int.reduceLE, Int.reduceGT, Int.reduceGE, Int.reduceNe, Int.reduceBNe, s_impl_FitsAll, j, fitsAll, hd, hp]
end Go.Proofs.YtgjdkcjijmdfoaaDoor.Sc
/- What the functions that FnExactScanOk calls answer: part 10. -/
namespace Go.Proofs.YtgjdkcjijmdfoaaDoor.Sc
open Go Go.RowKit Go.Ev
set_option linter.unusedSimpArgs false
set_option linter.unusedVariables false
noncomputable def C_impl_ScanOk := c2 (sliceT tDef) tScan (fun (s : List (TDef)) (c : TScan) => (sliceT tDef).good s ∧ tScan.good c) (.bool) fun (s : List (TDef)) (c : TScan) => scanOk s c
theorem C_impl_ScanOk_eq (s : List (TDef)) (c : TScan) (h : (sliceT tDef).good s ∧ tScan.good c) : C_impl_ScanOk [.imm (s.map TDef.row), .agg [.int .i64 c.fT, .int .i64 c.fI, .imm (c.fLo.map TVal.row), .imm (c.fHi.map TVal.row), .bool c.fLoEx, .bool c.fHiEx, .bool c.fRev, .int .i64 c.fLimit]] = some (.bool ((scanOk s c))) := c2_eq (sliceT tDef) tScan h
theorem ok_impl_ScanOk {WI : World → Prop} (hs : Stable WI) (cs) (hT : TOK (EE cs) WI) (h1 : (EE cs).T 43 = some C_impl_hasIndex) (h2 : (EE cs).T 44 = some C_impl_in) (h3 : (EE cs).T 45 = some C_impl_planOf) (h4 : (EE cs).T 46 = some C_impl_FitsAll) : PureOK Tryd.prog WI 22 C_impl_ScanOk := by
  refine pure2 (E := EE cs) hT hs (by rw [st_impl_ScanOk]; rfl) fun s c hp => out_wp (n := 0) (st_impl_ScanOk cs) ?_
  obtain ⟨⟨hs, _⟩, hc, _⟩ := hp
  obtain ⟨n1, n2⟩ := defsLens hs
  obtain ⟨m1, m2⟩ := scanLens hc
  have c1 : C_impl_hasIndex [.imm (s.map TDef.row), .int .i64 c.fT, .int .i64 c.fI] = some (.bool (there s c.fT c.fI)) := C_impl_hasIndex_eq s c.fT c.fI hs
  cases d1 : there s c.fT c.fI
  · simp only [go_sem, kSt_ptr, Nat.reduceBEq, Nat.reduceAdd, Nat.reduceEqDiff, Nat.reduceLeDiff, Nat.reduceSub, reduceIte, Int.reduceBEq, Int.reduceEq, Int.reduceLT, Int.reduceLE, Int.reduceGT, Int.reduceGE, Int.reduceNe, Int.reduceBNe, s_impl_ScanOk, TScan.row, h1, c1, d1, scanOk]
  cases d2 : inR c.fLimit 0 100
  · simp only [go_sem, kSt_ptr, Nat.reduceBEq, Nat.reduceAdd, Nat.reduceEqDiff, Nat.reduceLeDiff, Nat.reduceSub, reduceIte, Int.reduceBEq, Int.reduceEq, Int.reduceLT, Int.reduceLE, Int.reduceGT, Int.reduceGE, Int.reduceNe, Int.reduceBNe, s_impl_ScanOk, TScan.row, h1, c1, d1, h2, C_impl_in_eq, d2, scanOk]
  obtain ⟨d, hd, z1, hm, _, hi1, _⟩ := there_get d1
  have c3 : C_impl_planOf [.agg [.str d.fName, .imm (d.fCols.map TCol.row), .imm (d.fPrimary.map TBy.row), .imm (d.fIndexes.map TIndex.row)], .int .i64 c.fI] = some (.imm ((planOf d c.fI).map TPart.row)) := C_impl_planOf_eq d c.fI ⟨n2 d hm, hi1⟩
  have hl := planOf_len d c.fI
  have c4 : ∀ vs : List TVal, vs.length ≤ 1048576 → C_impl_FitsAll [.imm ((planOf d c.fI).map TPart.row), .imm (vs.map TVal.row)] = some (.bool (fitsAll (planOf d c.fI) vs)) := fun vs hv => C_impl_FitsAll_eq _ vs ⟨by omega, hv⟩
  cases d3 : fitsAll (planOf d c.fI) c.fLo
  · simp only [go_sem, kSt_ptr, Nat.reduceBEq, Nat.reduceAdd, Nat.reduceEqDiff, Nat.reduceLeDiff, Nat.reduceSub, reduceIte, Int.reduceBEq, Int.reduceEq, Int.reduceLT, Int.reduceLE, Int.reduceGT, Int.reduceGE, Int.reduceNe, Int.reduceBNe, s_impl_ScanOk, TScan.row, h1, c1, d1, h2, C_impl_in_eq, d2, kIa_nth (row := TDef.row) (sz := 4) z1 hd rfl, TDef.row, h3, c3, h4, c4 c.fLo m1, d3, scanOk, hd]
  · simp only [go_sem, kSt_ptr, Nat.reduceBEq, Nat.reduceAdd, Nat.reduceEqDiff, Nat.reduceLeDiff, Nat.reduceSub, reduceIte, Int.reduceBEq, Int.reduceEq, Int.reduceLT, Int.reduceLE, Int.reduceGT, Int.reduceGE, Int.reduceNe, Int.reduceBNe, s_impl_ScanOk, TScan.row, h1, c1, d1, h2, C_impl_in_eq, d2, kIa_nth (row := TDef.row) (sz := 4) z1 hd rfl, TDef.row, h3, c3, h4, c4 c.fLo m1, c4 c.fHi m2, d3, scanOk, hd]
theorem ok_laws_eqCol {WI : World → Prop} (hs : Stable WI) (cs) (hT : TOK (EE cs) WI)  : PureOK Tryd.prog WI 96 (eqC tCol) := by
  refine pureEq (E := EE cs) hT hs (by rw [st_laws_eqCol]; rfl) fun v hc => out_K (n := 0) (st_laws_eqCol cs) ?_
  have hcost : tCol.cost v = v.fName.length := rfl
  simp only [go_sem, kSt_ptr, Nat.reduceBEq, Nat.reduceAdd, Nat.reduceEqDiff, Nat.reduceLeDiff, Nat.reduceSub, reduceIte, Int.reduceBEq, Int.reduceEq, Int.reduceLT, Int.reduceLE, Int.reduceGT, Int.reduceGE, Int.reduceNe, Int.reduceBNe, s_laws_eqCol, TCol.row]
theorem ok_laws_eqColS {WI : World → Prop} (hs : Stable WI) (cs) (hT : TOK (EE cs) WI) (h0 : (EE cs).T 96 = some (eqC tCol)) : PureOK Tryd.prog WI 76 (eqC (sliceT tCol)) := eqS_ok (E := EE cs) (T := tCol) hT hs h0 (st_laws_eqColS cs)
theorem ok_laws_eqBy {WI : World → Prop} (hs : Stable WI) (cs) (hT : TOK (EE cs) WI)  : PureOK Tryd.prog WI 97 (eqC tBy) := by
  refine pureEq (E := EE cs) hT hs (by rw [st_laws_eqBy]; rfl) fun v hc => out_K (n := 0) (st_laws_eqBy cs) ?_
  have hcost : tBy.cost v = 0 := rfl
  simp only [go_sem, kSt_ptr, Nat.reduceBEq, Nat.reduceAdd, Nat.reduceEqDiff, Nat.reduceLeDiff, Nat.reduceSub, reduceIte, Int.reduceBEq, Int.reduceEq, Int.reduceLT, Int.reduceLE, Int.reduceGT, Int.reduceGE, Int.reduceNe, Int.reduceBNe, s_laws_eqBy, TBy.row]
theorem ok_laws_eqByS {WI : World → Prop} (hs : Stable WI) (cs) (hT : TOK (EE cs) WI) (h0 : (EE cs).T 97 = some (eqC tBy)) : PureOK Tryd.prog WI 77 (eqC (sliceT tBy)) := eqS_ok (E := EE cs) (T := tBy) hT hs h0 (st_laws_eqByS cs)
theorem ok_laws_eqIndex {WI : World → Prop} (hs : Stable WI) (cs) (hT : TOK (EE cs) WI) (h0 : (EE cs).T 77 = some (eqC (sliceT tBy))) : PureOK Tryd.prog WI 98 (eqC tIndex) := by
  refine pureEq (E := EE cs) hT hs (by rw [st_laws_eqIndex]; rfl) fun v hc => out_K (n := 0) (st_laws_eqIndex cs) ?_
  have hcost : tIndex.cost v = v.fName.length + (sliceT tBy).cost v.fParts := rfl
  have c2 : eqC (sliceT tBy) [.imm (v.fParts.map TBy.row), .imm (v.fParts.map TBy.row)] = some (.bool true) := eqC_eq (sliceT tBy) (by omega)
  simp only [go_sem, kSt_ptr, Nat.reduceBEq, Nat.reduceAdd, Nat.reduceEqDiff, Nat.reduceLeDiff, Nat.reduceSub, reduceIte, Int.reduceBEq, Int.reduceEq, Int.reduceLT, Int.reduceLE, Int.reduceGT, Int.reduceGE, Int.reduceNe, Int.reduceBNe, s_laws_eqIndex, TIndex.row, h0, c2]
theorem ok_laws_eqIndexS {WI : World → Prop} (hs : Stable WI) (cs) (hT : TOK (EE cs) WI) (h0 : (EE cs).T 98 = some (eqC tIndex)) : PureOK Tryd.prog WI 78 (eqC (sliceT tIndex)) := eqS_ok (E := EE cs) (T := tIndex) hT hs h0 (st_laws_eqIndexS cs)
theorem ok_laws_eqDef {WI : World → Prop} (hs : Stable WI) (cs) (hT : TOK (EE cs) WI) (h0 : (EE cs).T 76 = some (eqC (sliceT tCol))) (h1 : (EE cs).T 77 = some (eqC (sliceT tBy))) (h2 : (EE cs).T 78 = some (eqC (sliceT tIndex))) : PureOK Tryd.prog WI 47 (eqC tDef) := by
  refine pureEq (E := EE cs) hT hs (by rw [st_laws_eqDef]; rfl) fun v hc => out_K (n := 0) (st_laws_eqDef cs) ?_
  have hcost : tDef.cost v = v.fName.length + (sliceT tCol).cost v.fCols + (sliceT tBy).cost v.fPrimary + (sliceT tIndex).cost v.fIndexes := rfl
  have c1 : eqC (sliceT tCol) [.imm (v.fCols.map TCol.row), .imm (v.fCols.map TCol.row)] = some (.bool true) := eqC_eq (sliceT tCol) (by omega)
  have c2 : eqC (sliceT tBy) [.imm (v.fPrimary.map TBy.row), .imm (v.fPrimary.map TBy.row)] = some (.bool true) := eqC_eq (sliceT tBy) (by omega)
  have c3 : eqC (sliceT tIndex) [.imm (v.fIndexes.map TIndex.row), .imm (v.fIndexes.map TIndex.row)] = some (.bool true) := eqC_eq (sliceT tIndex) (by omega)
  simp only [go_sem, kSt_ptr, Nat.reduceBEq, Nat.reduceAdd, Nat.reduceEqDiff, Nat.reduceLeDiff, Nat.reduceSub, reduceIte, Int.reduceBEq, Int.reduceEq, Int.reduceLT, Int.reduceLE, Int.reduceGT, Int.reduceGE, Int.reduceNe, Int.reduceBNe, s_laws_eqDef, TDef.row, h0, h1, h2, c1, c2, c3]
theorem ok_laws_eqDefS {WI : World → Prop} (hs : Stable WI) (cs) (hT : TOK (EE cs) WI) (h0 : (EE cs).T 47 = some (eqC tDef)) : PureOK Tryd.prog WI 23 (eqC (sliceT tDef)) := eqS_ok (E := EE cs) (T := tDef) hT hs h0 (st_laws_eqDefS cs)
theorem ok_laws_eqVal {WI : World → Prop} (hs : Stable WI) (cs) (hT : TOK (EE cs) WI)  : PureOK Tryd.prog WI 36 (eqC tVal) := by
  refine pureEq (E := EE cs) hT hs (by rw [st_laws_eqVal]; rfl) fun v hc => out_K (n := 0) (st_laws_eqVal cs) ?_
  have hcost : tVal.cost v = v.fS.length := rfl
  simp only [go_sem, kSt_ptr, Nat.reduceBEq, Nat.reduceAdd, Nat.reduceEqDiff, Nat.reduceLeDiff, Nat.reduceSub, reduceIte, Int.reduceBEq, Int.reduceEq, Int.reduceLT, Int.reduceLE, Int.reduceGT, Int.reduceGE, Int.reduceNe, Int.reduceBNe, s_laws_eqVal, TVal.row]
theorem ok_laws_eqValS {WI : World → Prop} (hs : Stable WI) (cs) (hT : TOK (EE cs) WI) (h0 : (EE cs).T 36 = some (eqC tVal)) : PureOK Tryd.prog WI 11 (eqC (sliceT tVal)) := eqS_ok (E := EE cs) (T := tVal) hT hs h0 (st_laws_eqValS cs)
theorem ok_laws_eqScan {WI : World → Prop} (hs : Stable WI) (cs) (hT : TOK (EE cs) WI) (h0 : (EE cs).T 11 = some (eqC (sliceT tVal))) : PureOK Tryd.prog WI 24 (eqC tScan) := by
  refine pureEq (E := EE cs) hT hs (by rw [st_laws_eqScan]; rfl) fun v hc => out_K (n := 0) (st_laws_eqScan cs) ?_
  have hcost : tScan.cost v = (sliceT tVal).cost v.fLo + (sliceT tVal).cost v.fHi := rfl
  have c2 : eqC (sliceT tVal) [.imm (v.fLo.map TVal.row), .imm (v.fLo.map TVal.row)] = some (.bool true) := eqC_eq (sliceT tVal) (by omega)
  have c3 : eqC (sliceT tVal) [.imm (v.fHi.map TVal.row), .imm (v.fHi.map TVal.row)] = some (.bool true) := eqC_eq (sliceT tVal) (by omega)
  simp only [go_sem, kSt_ptr, Nat.reduceBEq, Nat.reduceAdd, Nat.reduceEqDiff, Nat.reduceLeDiff, Nat.reduceSub, reduceIte, Int.reduceBEq, Int.reduceEq, Int.reduceLT, Int.reduceLE, Int.reduceGT, Int.reduceGE, Int.reduceNe, Int.reduceBNe, s_laws_eqScan, TScan.row, h0, c2, c3]
end Go.Proofs.YtgjdkcjijmdfoaaDoor.Sc
/- The law FnExactScanOk, by what its functions answer. -/
namespace Go.Proofs.YtgjdkcjijmdfoaaDoor.Sc
open Go Go.RowKit Go.Ev
set_option linter.unusedSimpArgs false
set_option linter.unusedVariables false
set_option maxRecDepth 100000
theorem ev_law (cs) (h0 : (EE cs).T 17 = some (szC (sliceT tDef))) (h1 : (EE cs).T 18 = some (szC tScan)) (h2 : (EE cs).T 20 = some (toC (sliceT tDef))) (h3 : (EE cs).T 21 = some (toC tScan)) (h4 : (EE cs).T 19 = some C_spec_ScanOk) (h5 : (EE cs).T 22 = some C_impl_ScanOk) (h6 : (EE cs).T 23 = some (eqC (sliceT tDef))) (h7 : (EE cs).T 24 = some (eqC tScan)) (v0 : List (TDef)) (v1 : TScan) (f0 : (sliceT tDef).fits v0) (o0 : (sliceT tDef).ok v0) (f1 : tScan.fits v1) (o1 : tScan.ok v1) : ∃ k n, out (EE cs) k n 5 [(sliceT tDef).enc v0, tScan.enc v1] = some (.bool true) := by
  refine out_K (n := 0) (st_laws_FnExactScanOk cs) ?_
  have c0 : szC (sliceT tDef) [.imm (v0.map TDef.row), .int .i64 (1048576)] = some (.int .i64 (szR ((sliceT tDef).cost v0) (1048576))) := szC_eq (sliceT tDef) ⟨f0, by omega, by omega⟩
  by_cases n0 : szR ((sliceT tDef).cost v0) (1048576) < 0
  · obtain ⟨e0, e0'⟩ := szR_neg n0 (by omega)
    simp only [go_sem, kSt_ptr, Nat.reduceBEq, Nat.reduceAdd, Nat.reduceEqDiff, Nat.reduceLeDiff, Nat.reduceSub, reduceIte, Int.reduceBEq, Int.reduceEq, Int.reduceLT, Int.reduceLE, Int.reduceGT, Int.reduceGE, Int.reduceNe, Int.reduceBNe, s_laws_FnExactScanOk, TScan.row, h0, h1, h2, h3, h4, h5, h6, h7, c0, e0]
  obtain ⟨e0, n0'⟩ := szR_pos n0
  have c1 : szC tScan [.agg [.int .i64 v1.fT, .int .i64 v1.fI, .imm (v1.fLo.map TVal.row), .imm (v1.fHi.map TVal.row), .bool v1.fLoEx, .bool v1.fHiEx, .bool v1.fRev, .int .i64 v1.fLimit], .int .i64 (1048576 - ((sliceT tDef).cost v0 : Int))] = some (.int .i64 (szR (tScan.cost v1) (1048576 - ((sliceT tDef).cost v0 : Int)))) := szC_eq tScan ⟨f1, by omega, by omega⟩
  by_cases n1 : szR (tScan.cost v1) (1048576 - ((sliceT tDef).cost v0 : Int)) < 0
  · obtain ⟨e1, e1'⟩ := szR_neg n1 (by omega)
    simp only [go_sem, kSt_ptr, Nat.reduceBEq, Nat.reduceAdd, Nat.reduceEqDiff, Nat.reduceLeDiff, Nat.reduceSub, reduceIte, Int.reduceBEq, Int.reduceEq, Int.reduceLT, Int.reduceLE, Int.reduceGT, Int.reduceGE, Int.reduceNe, Int.reduceBNe, s_laws_FnExactScanOk, TScan.row, h0, h1, h2, h3, h4, h5, h6, h7, c0, e0, n0', c1, e1]
  obtain ⟨e1, n1'⟩ := szR_pos n1
  have g0 : (sliceT tDef).good v0 := ⟨by omega, o0⟩
  have t0 : toC (sliceT tDef) [.imm (v0.map TDef.row)] = some (.imm (v0.map TDef.row)) := toC_eq (sliceT tDef) g0.1
  have u0 : eqC (sliceT tDef) [.imm (v0.map TDef.row), .imm (v0.map TDef.row)] = some (.bool true) := eqC_eq (sliceT tDef) g0.1
  have g1 : tScan.good v1 := ⟨by omega, o1⟩
  have t1 : toC tScan [.agg [.int .i64 v1.fT, .int .i64 v1.fI, .imm (v1.fLo.map TVal.row), .imm (v1.fHi.map TVal.row), .bool v1.fLoEx, .bool v1.fHiEx, .bool v1.fRev, .int .i64 v1.fLimit]] = some (.agg [.int .i64 v1.fT, .int .i64 v1.fI, .imm (v1.fLo.map TVal.row), .imm (v1.fHi.map TVal.row), .bool v1.fLoEx, .bool v1.fHiEx, .bool v1.fRev, .int .i64 v1.fLimit]) := toC_eq tScan g1.1
  have u1 : eqC tScan [.agg [.int .i64 v1.fT, .int .i64 v1.fI, .imm (v1.fLo.map TVal.row), .imm (v1.fHi.map TVal.row), .bool v1.fLoEx, .bool v1.fHiEx, .bool v1.fRev, .int .i64 v1.fLimit], .agg [.int .i64 v1.fT, .int .i64 v1.fI, .imm (v1.fLo.map TVal.row), .imm (v1.fHi.map TVal.row), .bool v1.fLoEx, .bool v1.fHiEx, .bool v1.fRev, .int .i64 v1.fLimit]] = some (.bool true) := eqC_eq tScan g1.1
  have a0 := C_spec_ScanOk_eq v0 v1 ⟨g0, g1⟩
  have a1 := C_impl_ScanOk_eq v0 v1 ⟨g0, g1⟩
  simp only [go_sem, kSt_ptr, Nat.reduceBEq, Nat.reduceAdd, Nat.reduceEqDiff, Nat.reduceLeDiff, Nat.reduceSub, reduceIte, Int.reduceBEq, Int.reduceEq, Int.reduceLT, Int.reduceLE, Int.reduceGT, Int.reduceGE, Int.reduceNe, Int.reduceBNe, s_laws_FnExactScanOk, TScan.row, h0, h1, h2, h3, h4, h5, h6, h7, c0, e0, n0', c1, e1, n1', t0, u0, t1, u1, a0, a1]
noncomputable def C_law := c2 (sliceT tDef) tScan (fun v0 v1 => ((sliceT tDef).fits v0 ∧ (sliceT tDef).ok v0) ∧ (tScan.fits v1 ∧ tScan.ok v1)) .bool fun _ _ => true
theorem ok_law {WI : World → Prop} (hs : Stable WI) (cs) (hT : TOK (EE cs) WI) (h0 : (EE cs).T 17 = some (szC (sliceT tDef))) (h1 : (EE cs).T 18 = some (szC tScan)) (h2 : (EE cs).T 20 = some (toC (sliceT tDef))) (h3 : (EE cs).T 21 = some (toC tScan)) (h4 : (EE cs).T 19 = some C_spec_ScanOk) (h5 : (EE cs).T 22 = some C_impl_ScanOk) (h6 : (EE cs).T 23 = some (eqC (sliceT tDef))) (h7 : (EE cs).T 24 = some (eqC tScan)) : PureOK Tryd.prog WI 5 C_law :=
  pure2 (E := EE cs) hT hs (by rw [st_laws_FnExactScanOk]; rfl) fun v0 v1 ⟨⟨f0, o0⟩, ⟨f1, o1⟩⟩ => ev_law cs h0 h1 h2 h3 h4 h5 h6 h7 v0 v1 f0 o0 f1 o1
section
variable {WI : World → Prop} (hs : Stable WI)
include hs
theorem law_ok (p_strings_Split : PureOK Tryd.prog WI 50 C_strings_Split) : PureOK Tryd.prog WI 5 C_law := by
  have t0 : TOK (EE []) WI := tok_nil (entB_spec entered)
  have t1 := tok_cons rfl (ok_laws_szCol hs _ t0) t0
  have t2 := tok_cons rfl (ok_laws_szColS hs _ t1 rfl) t1
  have t3 := tok_cons rfl (ok_laws_szByS hs _ t2) t2
  have t4 := tok_cons rfl (ok_laws_szIndex hs _ t3 rfl) t3
  have t5 := tok_cons rfl (ok_laws_szIndexS hs _ t4 rfl) t4
  have t6 := tok_cons rfl (ok_laws_szDef hs _ t5 rfl rfl rfl) t5
  have t7 := tok_cons rfl (ok_laws_szDefS hs _ t6 rfl) t6
  have t8 := tok_cons rfl (ok_laws_szVal hs _ t7) t7
  have t9 := tok_cons rfl (ok_laws_szValS hs _ t8 rfl) t8
  have t10 := tok_cons rfl (ok_laws_szScan hs _ t9 rfl) t9
  have t11 := tok_cons rfl (ok_laws_toCol hs _ t10) t10
  have t12 := tok_cons rfl (ok_laws_toColS hs _ t11 rfl) t11
  have t13 := tok_cons rfl (ok_laws_toBy hs _ t12) t12
  have t14 := tok_cons rfl (ok_laws_toByS hs _ t13 rfl) t13
  have t15 := tok_cons rfl (ok_laws_toIndex hs _ t14 rfl) t14
  have t16 := tok_cons rfl (ok_laws_toIndexS hs _ t15 rfl) t15
  have t17 := tok_cons rfl (ok_laws_toDef hs _ t16 rfl rfl rfl) t16
  have t18 := tok_cons rfl (ok_laws_toDefS hs _ t17 rfl) t17
  have t19 := tok_cons rfl (ok_laws_toVal hs _ t18) t18
  have t20 := tok_cons rfl (ok_laws_toValS hs _ t19 rfl) t19
  have t21 := tok_cons rfl (ok_laws_toScan hs _ t20 rfl) t20
  have t22 := tok_cons rfl (ok_spec_l1In hs _ t21) t21
  have t23 := tok_cons rfl (ok_spec_l8Small hs _ t22 rfl) t22
  have t24 := tok_cons rfl (ok_spec_l2Digit hs _ t23 rfl) t23
  have t25 := tok_cons rfl (ok_spec_l8Name hs _ t24 rfl rfl rfl) t24
  have t26 := tok_cons rfl (ok_spec_l9Has hs _ t25) t25
  have t27 := tok_cons rfl (ok_spec_l9Word hs _ t26 rfl rfl) t26
  have t28 := tok_cons rfl (ok_spec_l9Names hs _ t27 rfl) t27
  have t29 := tok_cons rfl (ok_spec_l9Types hs _ t28 rfl) t28
  have t30 := tok_cons rfl (ok_spec_l9Col hs _ t29) t29
  have t31 := tok_cons rfl (ok_spec_l9Once hs _ t30 rfl) t30
  have t32 := tok_cons rfl (ok_spec_l9Parts hs _ t31 rfl) t31
  have t33 := tok_cons rfl (ok_spec_l9AllParts hs _ t32 rfl) t32
  have t34 := tok_cons rfl (ok_spec_CheckDef hs _ t33 rfl rfl rfl rfl) t33
  have t35 := tok_cons rfl (ok_spec_FirstBad hs _ t34 rfl) t34
  have t36 := tok_cons rfl (ok_spec_l11There hs _ t35 rfl rfl) t35
  have t37 := tok_cons rfl (ok_spec_l11Part hs _ t36) t36
  have t38 := tok_consF rfl (ok_spec_l11Parts hs _ t37 rfl) t37
  have t39 := tok_cons rfl (ok_spec_PrimaryPlan hs _ t38 rfl rfl) t38
  have t40 := tok_cons rfl (ok_spec_IndexPlan hs _ t39 rfl rfl rfl) t39
  have t41 := tok_cons rfl (ok_spec_l11Plan hs _ t40 rfl rfl) t40
  have t42 := tok_cons rfl (ok_spec_ValOk hs _ t41 rfl) t41
  have t43 := tok_cons rfl (ok_spec_Fits hs _ t42 rfl) t42
  have t44 := tok_cons rfl (ok_spec_FitsAll hs _ t43 rfl) t43
  have t45 := tok_cons rfl (ok_spec_ScanOk hs _ t44 rfl rfl rfl rfl) t44
  have t46 := tok_cons rfl (ok_impl_in hs _ t45) t45
  have t47 := tok_cons rfl (ok_impl_partsOk hs _ t46 rfl) t46
  have t48 := tok_cons rfl p_strings_Split t47
  have t49 := tok_cons rfl (ok_impl_isLetter hs _ t48) t48
  have t50 := tok_cons rfl (ok_impl_isDigit hs _ t49) t49
  have t51 := tok_cons rfl (ok_impl_nameOk hs _ t50 rfl rfl rfl) t50
  have t52 := tok_cons rfl (ok_impl_isFree hs _ t51 rfl rfl) t51
  have t53 := tok_cons rfl (ok_impl_namesOk hs _ t52 rfl) t52
  have t54 := tok_cons rfl (ok_impl_twice hs _ t53) t53
  have t55 := tok_cons rfl (ok_impl_CheckDef hs _ t54 rfl rfl rfl rfl) t54
  have t56 := tok_cons rfl (ok_impl_FirstBad hs _ t55 rfl) t55
  have t57 := tok_cons rfl (ok_impl_hasIndex hs _ t56 rfl rfl) t56
  have t58 := tok_consF rfl (ok_impl_partsOf hs _ t57) t57
  have t59 := tok_cons rfl (ok_impl_PrimaryPlan hs _ t58 rfl rfl) t58
  have t60 := tok_cons rfl (ok_impl_IndexPlan hs _ t59 rfl rfl rfl) t59
  have t61 := tok_cons rfl (ok_impl_planOf hs _ t60 rfl rfl) t60
  have t62 := tok_cons rfl (ok_impl_ValOk hs _ t61 rfl) t61
  have t63 := tok_cons rfl (ok_impl_Fits hs _ t62 rfl) t62
  have t64 := tok_cons rfl (ok_impl_FitsAll hs _ t63 rfl) t63
  have t65 := tok_cons rfl (ok_impl_ScanOk hs _ t64 rfl rfl rfl rfl) t64
  have t66 := tok_cons rfl (ok_laws_eqCol hs _ t65) t65
  have t67 := tok_cons rfl (ok_laws_eqColS hs _ t66 rfl) t66
  have t68 := tok_cons rfl (ok_laws_eqBy hs _ t67) t67
  have t69 := tok_cons rfl (ok_laws_eqByS hs _ t68 rfl) t68
  have t70 := tok_cons rfl (ok_laws_eqIndex hs _ t69 rfl) t69
  have t71 := tok_cons rfl (ok_laws_eqIndexS hs _ t70 rfl) t70
  have t72 := tok_cons rfl (ok_laws_eqDef hs _ t71 rfl rfl rfl) t71
  have t73 := tok_cons rfl (ok_laws_eqDefS hs _ t72 rfl) t72
  have t74 := tok_cons rfl (ok_laws_eqVal hs _ t73) t73
  have t75 := tok_cons rfl (ok_laws_eqValS hs _ t74 rfl) t74
  have t76 := tok_cons rfl (ok_laws_eqScan hs _ t75 rfl) t75
  exact ok_law hs _ t76 rfl rfl rfl rfl rfl rfl rfl rfl
end
theorem shp_Col {n : Nat} {r : List AV} (h : shp Tryd.prog (n + 2) 117 r) : ∃ v : TCol, r = v.row ∧ tCol.fits v ∧ tCol.ok v := by
  obtain ⟨_, _, rfl, z0, _, _, rfl, z1, _, _, rfl, z2, rfl⟩ := shp_struct Tryd.underlying117 h
  obtain ⟨x0, rfl, y0⟩ := shp_str Tryd.underlying9 z0
  obtain ⟨x1, rfl, y1⟩ := shp_int Tryd.underlying3 z1
  obtain ⟨x2, rfl⟩ := shp_bool Tryd.underlying4 z2
  exact ⟨⟨x0, x1, x2⟩, rfl, y0, wf_i64 y1⟩
theorem shp_SCol {n : Nat} {r : List AV} (h : shp Tryd.prog (n + 3) 65 r) : ∃ l : List (TCol), r = (sliceT tCol).row l ∧ (sliceT tCol).fits l ∧ (sliceT tCol).ok l := by
  obtain ⟨rows, rfl, hl, hr⟩ := shp_slice Tryd.underlying65 h
  obtain ⟨l, h1, h2, h3⟩ := rows_of (enc := tCol.row) (p := fun v => tCol.fits v ∧ tCol.ok v) fun r hr' => shp_Col (n := n) (hr r hr')
  subst h1
  exact ⟨l, rfl, ⟨by simpa using hl, fun v hv => (h3 v hv).1⟩, fun v hv => (h3 v hv).2⟩
theorem shp_By {n : Nat} {r : List AV} (h : shp Tryd.prog (n + 2) 130 r) : ∃ v : TBy, r = v.row ∧ tBy.fits v ∧ tBy.ok v := by
  obtain ⟨_, _, rfl, z0, _, _, rfl, z1, rfl⟩ := shp_struct Tryd.underlying130 h
  obtain ⟨x0, rfl, y0⟩ := shp_int Tryd.underlying3 z0
  obtain ⟨x1, rfl⟩ := shp_bool Tryd.underlying4 z1
  exact ⟨⟨x0, x1⟩, rfl, trivial, wf_i64 y0⟩
theorem shp_SBy {n : Nat} {r : List AV} (h : shp Tryd.prog (n + 3) 66 r) : ∃ l : List (TBy), r = (sliceT tBy).row l ∧ (sliceT tBy).fits l ∧ (sliceT tBy).ok l := by
  obtain ⟨rows, rfl, hl, hr⟩ := shp_slice Tryd.underlying66 h
  obtain ⟨l, h1, h2, h3⟩ := rows_of (enc := tBy.row) (p := fun v => tBy.fits v ∧ tBy.ok v) fun r hr' => shp_By (n := n) (hr r hr')
  subst h1
  exact ⟨l, rfl, ⟨by simpa using hl, fun v hv => (h3 v hv).1⟩, fun v hv => (h3 v hv).2⟩
theorem shp_Index {n : Nat} {r : List AV} (h : shp Tryd.prog (n + 4) 120 r) : ∃ v : TIndex, r = v.row ∧ tIndex.fits v ∧ tIndex.ok v := by
  obtain ⟨_, _, rfl, z0, _, _, rfl, z1, _, _, rfl, z2, rfl⟩ := shp_struct Tryd.underlying120 h
  obtain ⟨x0, rfl, y0⟩ := shp_str Tryd.underlying9 z0
  obtain ⟨x1, rfl⟩ := shp_bool Tryd.underlying4 z1
  obtain ⟨x2, rfl, y2, y2'⟩ := shp_SBy (n := n + 0) z2
  exact ⟨⟨x0, x1, x2⟩, rfl, ⟨y0, y2⟩, y2'⟩
theorem shp_SIndex {n : Nat} {r : List AV} (h : shp Tryd.prog (n + 5) 67 r) : ∃ l : List (TIndex), r = (sliceT tIndex).row l ∧ (sliceT tIndex).fits l ∧ (sliceT tIndex).ok l := by
  obtain ⟨rows, rfl, hl, hr⟩ := shp_slice Tryd.underlying67 h
  obtain ⟨l, h1, h2, h3⟩ := rows_of (enc := tIndex.row) (p := fun v => tIndex.fits v ∧ tIndex.ok v) fun r hr' => shp_Index (n := n) (hr r hr')
  subst h1
  exact ⟨l, rfl, ⟨by simpa using hl, fun v hv => (h3 v hv).1⟩, fun v hv => (h3 v hv).2⟩
theorem shp_Def {n : Nat} {r : List AV} (h : shp Tryd.prog (n + 6) 69 r) : ∃ v : TDef, r = v.row ∧ tDef.fits v ∧ tDef.ok v := by
  obtain ⟨_, _, rfl, z0, _, _, rfl, z1, _, _, rfl, z2, _, _, rfl, z3, rfl⟩ := shp_struct Tryd.underlying69 h
  obtain ⟨x0, rfl, y0⟩ := shp_str Tryd.underlying9 z0
  obtain ⟨x1, rfl, y1, y1'⟩ := shp_SCol (n := n + 2) z1
  obtain ⟨x2, rfl, y2, y2'⟩ := shp_SBy (n := n + 2) z2
  obtain ⟨x3, rfl, y3, y3'⟩ := shp_SIndex (n := n + 0) z3
  exact ⟨⟨x0, x1, x2, x3⟩, rfl, ⟨y0, y1, y2, y3⟩, ⟨y1', y2', y3'⟩⟩
theorem shp_SDef {n : Nat} {r : List AV} (h : shp Tryd.prog (n + 7) 36 r) : ∃ l : List (TDef), r = (sliceT tDef).row l ∧ (sliceT tDef).fits l ∧ (sliceT tDef).ok l := by
  obtain ⟨rows, rfl, hl, hr⟩ := shp_slice Tryd.underlying36 h
  obtain ⟨l, h1, h2, h3⟩ := rows_of (enc := tDef.row) (p := fun v => tDef.fits v ∧ tDef.ok v) fun r hr' => shp_Def (n := n) (hr r hr')
  subst h1
  exact ⟨l, rfl, ⟨by simpa using hl, fun v hv => (h3 v hv).1⟩, fun v hv => (h3 v hv).2⟩
theorem shp_Val {n : Nat} {r : List AV} (h : shp Tryd.prog (n + 2) 56 r) : ∃ v : TVal, r = v.row ∧ tVal.fits v ∧ tVal.ok v := by
  obtain ⟨_, _, rfl, z0, _, _, rfl, z1, _, _, rfl, z2, rfl⟩ := shp_struct Tryd.underlying56 h
  obtain ⟨x0, rfl, y0⟩ := shp_int Tryd.underlying3 z0
  obtain ⟨x1, rfl, y1⟩ := shp_int Tryd.underlying3 z1
  obtain ⟨x2, rfl, y2⟩ := shp_str Tryd.underlying9 z2
  exact ⟨⟨x0, x1, x2⟩, rfl, y2, ⟨wf_i64 y0, wf_i64 y1⟩⟩
theorem shp_SVal {n : Nat} {r : List AV} (h : shp Tryd.prog (n + 3) 22 r) : ∃ l : List (TVal), r = (sliceT tVal).row l ∧ (sliceT tVal).fits l ∧ (sliceT tVal).ok l := by
  obtain ⟨rows, rfl, hl, hr⟩ := shp_slice Tryd.underlying22 h
  obtain ⟨l, h1, h2, h3⟩ := rows_of (enc := tVal.row) (p := fun v => tVal.fits v ∧ tVal.ok v) fun r hr' => shp_Val (n := n) (hr r hr')
  subst h1
  exact ⟨l, rfl, ⟨by simpa using hl, fun v hv => (h3 v hv).1⟩, fun v hv => (h3 v hv).2⟩
theorem shp_Scan {n : Nat} {r : List AV} (h : shp Tryd.prog (n + 4) 38 r) : ∃ v : TScan, r = v.row ∧ tScan.fits v ∧ tScan.ok v := by
  obtain ⟨_, _, rfl, z0, _, _, rfl, z1, _, _, rfl, z2, _, _, rfl, z3, _, _, rfl, z4, _, _, rfl, z5, _, _, rfl, z6, _, _, rfl, z7, rfl⟩ := shp_struct Tryd.underlying38 h
  obtain ⟨x0, rfl, y0⟩ := shp_int Tryd.underlying3 z0
  obtain ⟨x1, rfl, y1⟩ := shp_int Tryd.underlying3 z1
  obtain ⟨x2, rfl, y2, y2'⟩ := shp_SVal (n := n + 0) z2
  obtain ⟨x3, rfl, y3, y3'⟩ := shp_SVal (n := n + 0) z3
  obtain ⟨x4, rfl⟩ := shp_bool Tryd.underlying4 z4
  obtain ⟨x5, rfl⟩ := shp_bool Tryd.underlying4 z5
  obtain ⟨x6, rfl⟩ := shp_bool Tryd.underlying4 z6
  obtain ⟨x7, rfl, y7⟩ := shp_int Tryd.underlying3 z7
  exact ⟨⟨x0, x1, x2, x3, x4, x5, x6, x7⟩, rfl, ⟨y2, y3⟩, ⟨wf_i64 y0, wf_i64 y1, y2', y3', wf_i64 y7⟩⟩
theorem hlaw (xs : List AV) (h : shpAs Tryd.prog 8 Tryd.f5.params.toList xs) : C_law xs = some (.bool true) := by
  rw [Tryd.params5] at h
  obtain ⟨y0, r0, rfl, z0, y1, r1, rfl, z1, zend⟩ := h
  have hr : r1 = [] := zend
  subst hr
  obtain ⟨v0, e0, f0, o0⟩ := shp_SDef (n := 1) (shpA_one (fun fs e => by rw [Tryd.underlying36] at e; cases e) z0)
  obtain rfl : y0 = (sliceT tDef).enc v0 := List.head_eq_of_cons_eq e0
  obtain ⟨w1, rfl, z1'⟩ := shpA_agg Tryd.underlying38 z1
  obtain ⟨v1, rfl, f1, o1⟩ := shp_Scan (n := 4) z1'
  exact c2_eq (sliceT tDef) tScan ⟨⟨f0, o0⟩, ⟨f1, o1⟩⟩
end Go.Proofs.YtgjdkcjijmdfoaaDoor.Sc
