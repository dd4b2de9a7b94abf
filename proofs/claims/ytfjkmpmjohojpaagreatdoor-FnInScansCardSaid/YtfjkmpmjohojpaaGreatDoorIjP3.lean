/- What the functions that FnInScans calls answer, for every argument within the law's bounds: part 3. -/
import Derived.Test.YtfjkmpmjohojpaaGreatDoorIjP2
import Derived.Lib.AtoiAllCases
import Derived.Lib.ItoaLen
import Derived.Lib.ItoaMem
import Derived.Lib.ItoaNum
import Derived.Lib.Split
set_option linter.unusedVariables false
set_option linter.unusedSimpArgs false
set_option linter.unnecessarySimpa false
namespace Go.Proofs.YtfjkmpmjohojpaaGreatDoor.Ij
open Go Go.RowKit Go.Ev
set_option linter.unusedSimpArgs false
set_option linter.unusedVariables false
set_option maxHeartbeats 1600000
noncomputable def C_impl_planOf := c2 tDef intT (fun (v : TDef) (i : Int) => tDef.cost v ≤ 1048576 ∧ -1 ≤ i) (fun x => .imm (x.map TPart.row)) fun (v : TDef) (i : Int) => planOf v i
theorem C_impl_planOf_eq (v : TDef) (i : Int) (h : tDef.cost v ≤ 1048576 ∧ -1 ≤ i) : C_impl_planOf [.agg [.str v.fName, .imm (v.fCols.map TCol.row), .imm (v.fPrimary.map TBy.row), .imm (v.fIndexes.map TIndex.row)], .int .i64 i] = some (.imm (((planOf v i)).map TPart.row)) := c2_eq tDef intT h
theorem ok_impl_planOf {WI : World → Prop} (hs : Stable WI) (cs) (hT : TOK (EE cs) WI) (h1 : (EE cs).T 44 = some C_impl_PrimaryPlan) (h2 : (EE cs).T 45 = some C_impl_IndexPlan) : PureOK Tryz.prog WI 20 C_impl_planOf := by
  refine pure2 (E := EE cs) hT hs (by rw [st_impl_planOf]; rfl) fun v i hp => out_wp (n := 0) (st_impl_planOf cs) ?_
  obtain ⟨hp, hi⟩ := hp
  have c1 : C_impl_PrimaryPlan [.agg [.str v.fName, .imm (v.fCols.map TCol.row), .imm (v.fPrimary.map TBy.row), .imm (v.fIndexes.map TIndex.row)]] = some (.imm ((primPlan v).map TPart.row)) := C_impl_PrimaryPlan_eq v hp
  have c2 : C_impl_IndexPlan [.agg [.str v.fName, .imm (v.fCols.map TCol.row), .imm (v.fPrimary.map TBy.row), .imm (v.fIndexes.map TIndex.row)], .int .i64 i] = some (.imm ((idxPlan v i).map TPart.row)) := C_impl_IndexPlan_eq v i hp
  by_cases d : i = -1
  · subst d
    simp only [go_sem, Nat.reduceBEq, Nat.reduceAdd, Int.reduceLT, s_impl_planOf, TDef.row, h1, c1, planOf]
  · have d2 : ¬ i < 0 := by omega
    simp only [go_sem, Nat.reduceBEq, Nat.reduceAdd, s_impl_planOf, TDef.row, d2, h2, c2, planOf, d]
theorem ev_impl_ValOk (cs) (hT : (EE cs).T 28 = some C_impl_in) (v : TVal) : ∃ k n, out (EE cs) k n 77 [.agg v.row] = some (.bool (valOk v)) := by
  refine out_K (n := 0) (st_impl_ValOk cs) ?_
  by_cases h0 : v.fK = 0
  · by_cases hn : v.fN = 0
    · simp only [go_sem, Nat.reduceBEq, Nat.reduceAdd, Nat.reduceLeDiff, Int.reduceEq, s_impl_ValOk, TVal.row, h0, hn, valOk]
    · simp only [go_sem, Nat.reduceBEq, Nat.reduceAdd, Nat.reduceLeDiff, Int.reduceEq, s_impl_ValOk, TVal.row, h0, beqF hn, valOk]
  by_cases h1 : v.fK = 1
  · cases hn : inR v.fN (-2147483648) 2147483647
    · simp only [go_sem, Nat.reduceBEq, Nat.reduceAdd, Nat.reduceLeDiff, Int.reduceBEq, Int.reduceEq, s_impl_ValOk, TVal.row, h1, hn, valOk, hT, C_impl_in_eq]
    · simp only [go_sem, Nat.reduceBEq, Nat.reduceAdd, Nat.reduceLeDiff, Int.reduceBEq, Int.reduceEq, s_impl_ValOk, TVal.row, h1, hn, valOk, hT, C_impl_in_eq]
  by_cases h2 : v.fK = 2
  · cases hn : inR v.fN (-1000000000000000) 1000000000000000
    · simp only [go_sem, Nat.reduceBEq, Nat.reduceAdd, Nat.reduceLeDiff, Int.reduceBEq, Int.reduceEq, s_impl_ValOk, TVal.row, h2, hn, valOk, hT, C_impl_in_eq]
    · simp only [go_sem, Nat.reduceBEq, Nat.reduceAdd, Nat.reduceLeDiff, Int.reduceBEq, Int.reduceEq, s_impl_ValOk, TVal.row, h2, hn, valOk, hT, C_impl_in_eq]
  by_cases h3 : v.fK = 3
  · by_cases hn : v.fN = 0
    · simp only [go_sem, Nat.reduceBEq, Nat.reduceAdd, Nat.reduceLeDiff, Int.reduceBEq, Int.reduceEq, s_impl_ValOk, TVal.row, h3, hn, valOk]
    · simp only [go_sem, Nat.reduceBEq, Nat.reduceAdd, Nat.reduceLeDiff, Int.reduceBEq, Int.reduceEq, s_impl_ValOk, TVal.row, h3, beqF hn, valOk]
  by_cases h4 : v.fK = 4
  · cases hn : inR v.fN 0 1
    · simp only [go_sem, Nat.reduceBEq, Nat.reduceAdd, Nat.reduceLeDiff, Int.reduceBEq, Int.reduceEq, s_impl_ValOk, TVal.row, h4, hn, valOk, hT, C_impl_in_eq]
    · simp only [go_sem, Nat.reduceBEq, Nat.reduceAdd, Nat.reduceLeDiff, Int.reduceBEq, Int.reduceEq, s_impl_ValOk, TVal.row, h4, hn, valOk, hT, C_impl_in_eq]
  simp only [go_sem, Nat.reduceBEq, s_impl_ValOk, TVal.row, h0, h1, h2, h3, h4, beqF h0, beqF h1, beqF h2, beqF h3, beqF h4, valOk]
noncomputable def C_impl_ValOk := ct (fun a : TVal => [.agg a.row]) (fun _ => True) .bool valOk
theorem C_impl_ValOk_eq (k n : Int) (s : List UInt8) : C_impl_ValOk [.agg [.int .i64 k, .int .i64 n, .str s]] = some (.bool (valOk ⟨k, n, s⟩)) := by
  unfold C_impl_ValOk
  exact ct_eq (a := (⟨k, n, s⟩ : TVal)) (fun a b h => by
    simp only [List.cons.injEq, AV.agg.injEq, and_true] at h
    exact TVal.inj _ _ h) trivial
theorem ok_impl_ValOk {WI} (hs : Stable WI) (cs) (hT : TOK (EE cs) WI) (h : (EE cs).T 28 = some C_impl_in) : PureOK Tryz.prog WI 77 C_impl_ValOk := pure_out hT hs (by rw [st_impl_ValOk]; rfl) fun a _ => ev_impl_ValOk cs h a
noncomputable def C_impl_Fits := c2 tPart tVal (fun (p : TPart) (v : TVal) => True) (.bool) fun (p : TPart) (v : TVal) => fitsV p v
theorem C_impl_Fits_eq (p : TPart) (v : TVal) (h : True) : C_impl_Fits [.agg [.int .i64 p.fCol, .int .i64 p.fType, .bool p.fNull, .bool p.fDesc], .agg [.int .i64 v.fK, .int .i64 v.fN, .str v.fS]] = some (.bool ((fitsV p v))) := c2_eq tPart tVal h
theorem ok_impl_Fits {WI : World → Prop} (hs : Stable WI) (cs) (hT : TOK (EE cs) WI) (h1 : (EE cs).T 77 = some C_impl_ValOk) : PureOK Tryz.prog WI 54 C_impl_Fits := by
  refine pure2 (E := EE cs) hT hs (by rw [st_impl_Fits]; rfl) fun p v hp => out_wp (n := 0) (st_impl_Fits cs) ?_
  have c1 : C_impl_ValOk [.agg [.int .i64 v.fK, .int .i64 v.fN, .str v.fS]] = some (.bool (valOk v)) := C_impl_ValOk_eq v.fK v.fN v.fS
  cases d1 : valOk v
  · simp only [go_sem, Nat.reduceBEq, Nat.reduceAdd, s_impl_Fits, TPart.row, TVal.row, h1, c1, d1, fitsV]
  cases d2 : (v.fK == p.fType) <;> cases d3 : (v.fK == 0) <;> cases d4 : p.fNull <;> simp only [go_sem, Nat.reduceBEq, Nat.reduceAdd, Nat.reduceLeDiff, s_impl_Fits, TPart.row, TVal.row, h1, c1, d1, d2, d3, d4, bne, fitsV, Bool.true_or, Bool.or_true]
noncomputable def C_impl_FitsAll := c2 (sliceT tPart) (sliceT tVal) (fun (l : List (TPart)) (vs : List (TVal)) => l.length ≤ 1048576 ∧ vs.length ≤ 1048576) (.bool) fun (l : List (TPart)) (vs : List (TVal)) => fitsAll l vs
theorem C_impl_FitsAll_eq (l : List (TPart)) (vs : List (TVal)) (h : l.length ≤ 1048576 ∧ vs.length ≤ 1048576) : C_impl_FitsAll [.imm (l.map TPart.row), .imm (vs.map TVal.row)] = some (.bool ((fitsAll l vs))) := c2_eq (sliceT tPart) (sliceT tVal) h
theorem ok_impl_FitsAll {WI : World → Prop} (hs : Stable WI) (cs) (hT : TOK (EE cs) WI) (h1 : (EE cs).T 54 = some C_impl_Fits) : PureOK Tryz.prog WI 29 C_impl_FitsAll := by
  refine pure2 (E := EE cs) hT hs (by rw [st_impl_FitsAll]; rfl) fun l vs hp => out_wp (n := 0) (st_impl_FitsAll cs) ?_
  obtain ⟨n1, n2⟩ := hp
  by_cases hlen : (l.length : Int) < (vs.length : Int)
  · have hd : decide (vs.length ≤ l.length) = false := decide_eq_false (by omega)
    simp only [go_sem, Nat.reduceBEq, s_impl_FitsAll, hlen, fitsAll, hd]
  have hd : decide (vs.length ≤ l.length) = true := decide_eq_true (by omega)
  simp only [go_sem, Nat.reduceBEq, s_impl_FitsAll, hlen]
  refine (wl_all (l := vs) (fun pre v => fitAt l pre v) (fun pre e h => e 0 = .imm (l.map TPart.row) ∧ e 12 = .imm (vs.map TVal.row) ∧ e 14 = .int .i64 pre.length ∧ e 13 = .int .i64 (vs).length) (.exit 0) (fun e h => e 0 = .imm (l.map TPart.row) ∧ e 12 = .imm (vs.map TVal.row)) (fun e h => e 4 = .bool false) (by omega) ?_ ?_ ?_ (by simp) vs [] _ _ rfl ?_).mono ?_
  · rintro pre v rest e h a hp ⟨q0, q1, ix, nx⟩
    obtain ⟨p, hpp⟩ : ∃ p, l[pre.length]? = some p := ⟨_, List.getElem?_eq_getElem (by have := a.lt; omega)⟩
    have hpp' : l[((pre.length : Int)).toNat]? = some p := by simpa using hpp
    have hc : C_impl_Fits [.agg [.int .i64 p.fCol, .int .i64 p.fType, .bool p.fNull, .bool p.fDesc], .agg [.int .i64 v.fK, .int .i64 v.fN, .str v.fS]] = some (.bool (fitsV p v)) := C_impl_Fits_eq p v trivial
    rw [fitAt_some hpp] at hp
    simp only [go_sem, kSt_ptr, Nat.reduceBEq, Nat.reduceAdd, s_impl_FitsAll_L0, q0, q1, ix, nx, a.dl, a.ia (row := TVal.row) (sz := 3) rfl, hp, a.hw, kIa_nth (row := TPart.row) (sz := 4) (by omega) hpp' rfl, TPart.row, TVal.row, h1, hc]
  · rintro pre v rest e h a hp ⟨q0, q1, ix, nx⟩
    obtain ⟨p, hpp⟩ : ∃ p, l[pre.length]? = some p := ⟨_, List.getElem?_eq_getElem (by have := a.lt; omega)⟩
    have hpp' : l[((pre.length : Int)).toNat]? = some p := by simpa using hpp
    have hc : C_impl_Fits [.agg [.int .i64 p.fCol, .int .i64 p.fType, .bool p.fNull, .bool p.fDesc], .agg [.int .i64 v.fK, .int .i64 v.fN, .str v.fS]] = some (.bool (fitsV p v)) := C_impl_Fits_eq p v trivial
    rw [fitAt_some hpp] at hp
    simp only [go_sem, kSt_ptr, Nat.reduceBEq, Nat.reduceAdd, s_impl_FitsAll_L0, q0, q1, ix, nx, a.dl, a.ia (row := TVal.row) (sz := 3) rfl, hp, a.hw, kIa_nth (row := TPart.row) (sz := 4) (by omega) hpp' rfl, TPart.row, TVal.row, h1, hc]
  · rintro e h ⟨q0, q1, ix, nx⟩
    simp only [go_sem, Nat.reduceBEq, s_impl_FitsAll_L0, q0, q1, ix, nx]
  · simp only [go_sem, Nat.reduceBEq, and_self]
  · rintro x e h (⟨hp, rfl, j0, j1⟩ | ⟨hp, rfl, j⟩)
    · simp only [go_sem, fitsAll, hd, hp]
    · simp only [go_sem, j, fitsAll, hd, hp]
def scanOk (s : List TDef) (c : TScan) : Bool := there s c.fT c.fI && (inR c.fLimit 0 100 && match s[c.fT.toNat]? with | some d => fitsAll (planOf d c.fI) c.fLo && fitsAll (planOf d c.fI) c.fHi | none => false)
theorem scanLens {c : TScan} (h : tScan.cost c ≤ 1048576) : c.fLo.length ≤ 1048576 ∧ c.fHi.length ≤ 1048576 := by
  have h0 : (c.fLo.length + costL tVal c.fLo) + (c.fHi.length + costL tVal c.fHi) ≤ 1048576 := h
  constructor <;> omega
noncomputable def C_impl_ScanOk := c2 (sliceT tDef) tScan (fun (s : List (TDef)) (c : TScan) => (sliceT tDef).good s ∧ tScan.good c) (.bool) fun (s : List (TDef)) (c : TScan) => scanOk s c
theorem C_impl_ScanOk_eq (s : List (TDef)) (c : TScan) (h : (sliceT tDef).good s ∧ tScan.good c) : C_impl_ScanOk [.imm (s.map TDef.row), .agg [.int .i64 c.fT, .int .i64 c.fI, .imm (c.fLo.map TVal.row), .imm (c.fHi.map TVal.row), .bool c.fLoEx, .bool c.fHiEx, .bool c.fRev, .int .i64 c.fLimit]] = some (.bool ((scanOk s c))) := c2_eq (sliceT tDef) tScan h
theorem ok_impl_ScanOk {WI : World → Prop} (hs : Stable WI) (cs) (hT : TOK (EE cs) WI) (h1 : (EE cs).T 27 = some C_impl_hasIndex) (h2 : (EE cs).T 28 = some C_impl_in) (h3 : (EE cs).T 20 = some C_impl_planOf) (h4 : (EE cs).T 29 = some C_impl_FitsAll) : PureOK Tryz.prog WI 9 C_impl_ScanOk := by
  refine pure2 (E := EE cs) hT hs (by rw [st_impl_ScanOk]; rfl) fun s c hp => out_wp (n := 0) (st_impl_ScanOk cs) ?_
  obtain ⟨⟨hs, _⟩, hc, _⟩ := hp
  obtain ⟨n1, n2⟩ := defsLens hs
  obtain ⟨m1, m2⟩ := scanLens hc
  have c1 : C_impl_hasIndex [.imm (s.map TDef.row), .int .i64 c.fT, .int .i64 c.fI] = some (.bool (there s c.fT c.fI)) := C_impl_hasIndex_eq s c.fT c.fI hs
  cases d1 : there s c.fT c.fI
  · simp only [go_sem, Nat.reduceBEq, Nat.reduceAdd, Nat.reduceLeDiff, s_impl_ScanOk, TScan.row, h1, c1, d1, scanOk]
  cases d2 : inR c.fLimit 0 100
  · simp only [go_sem, Nat.reduceBEq, Nat.reduceAdd, Nat.reduceLeDiff, s_impl_ScanOk, TScan.row, h1, c1, d1, h2, C_impl_in_eq, d2, scanOk]
  obtain ⟨d, hd, z1, hm, _, hi1, _⟩ := there_get d1
  have c3 : C_impl_planOf [.agg [.str d.fName, .imm (d.fCols.map TCol.row), .imm (d.fPrimary.map TBy.row), .imm (d.fIndexes.map TIndex.row)], .int .i64 c.fI] = some (.imm ((planOf d c.fI).map TPart.row)) := C_impl_planOf_eq d c.fI ⟨n2 d hm, hi1⟩
  have hl := planOf_len d c.fI
  have c4 : ∀ vs : List TVal, vs.length ≤ 1048576 → C_impl_FitsAll [.imm ((planOf d c.fI).map TPart.row), .imm (vs.map TVal.row)] = some (.bool (fitsAll (planOf d c.fI) vs)) := fun vs hv => C_impl_FitsAll_eq _ vs ⟨by omega, hv⟩
  cases d3 : fitsAll (planOf d c.fI) c.fLo
  · simp only [go_sem, Nat.reduceBEq, Nat.reduceAdd, Nat.reduceLeDiff, s_impl_ScanOk, TScan.row, h1, c1, d1, h2, C_impl_in_eq, d2, kIa_nth (row := TDef.row) (sz := 4) z1 hd rfl, TDef.row, h3, c3, h4, c4 c.fLo m1, d3, scanOk, hd]
  · simp only [go_sem, Nat.reduceBEq, Nat.reduceAdd, Nat.reduceLeDiff, s_impl_ScanOk, TScan.row, h1, c1, d1, h2, C_impl_in_eq, d2, kIa_nth (row := TDef.row) (sz := 4) z1 hd rfl, TDef.row, h3, c3, h4, c4 c.fLo m1, c4 c.fHi m2, d3, scanOk, hd]
noncomputable def C_impl_RowPlan := c1 tDef (fun (v : TDef) => tDef.cost v ≤ 1048576) (fun x => .app 4 (x.map TPart.row)) fun (v : TDef) => rowPlan v
theorem C_impl_RowPlan_eq (v : TDef) (h : tDef.cost v ≤ 1048576) : C_impl_RowPlan [.agg [.str v.fName, .imm (v.fCols.map TCol.row), .imm (v.fPrimary.map TBy.row), .imm (v.fIndexes.map TIndex.row)]] = some (.app 4 ((rowPlan v).map TPart.row)) := c1_eq tDef h
theorem ok_impl_RowPlan {WI : World → Prop} (hs : Stable WI) (cs) (hT : TOK (EE cs) WI) (h1 : (EE cs).T 43 = some C_impl_CheckDef) : FreshOK Tryz.prog WI 19 C_impl_RowPlan := by
  refine pure1F (E := EE cs) hT hs (by rw [st_impl_RowPlan]; rfl) fun v hp => outF_wp (sz := 4) (st_impl_RowPlan cs) ?_
  obtain ⟨n1, n2, n3, n4, n5, n6⟩ := defLens hp
  have c1 : C_impl_CheckDef [.agg [.str v.fName, .imm (v.fCols.map TCol.row), .imm (v.fPrimary.map TBy.row), .imm (v.fIndexes.map TIndex.row)]] = some (.int .i64 (checkDef v)) := C_impl_CheckDef_eq v hp
  by_cases d : checkDef v = 0
  · have hrp : rowPlan v = mapP rowP [] v.fCols := by unfold rowPlan; rw [if_pos d]
    rw [hrp]
    simp only [go_sem, Nat.reduceBEq, Nat.reduceAdd, Nat.reduceLeDiff, s_impl_RowPlan, TDef.row, h1, c1, d]
    refine (wl_for (l := v.fCols) (fun pre e h => e 10 = .imm (v.fCols.map TCol.row) ∧ grows tPart (mapP rowP [] pre) (e 3) h ∧ e 12 = .int .i64 pre.length ∧ e 11 = .int .i64 (v.fCols).length) (.exit 0) (fun e h => grows tPart (mapP rowP [] v.fCols) (e 3) h) (by omega) ?_ ?_ (by simp) v.fCols [] _ _ rfl ?_).mono ?_
    · rintro pre p rest e h a ⟨q0, q1, ix, nx⟩
      have hlen : (mapP rowP [] pre).length ≤ 1048576 := by rw [mapP_len]; have := a.lt; omega
      have hsn := mapP_nil rowP pre p
      have f1 : fillR (List.replicate 1 [.int .i64 0, .int .i64 0, .bool false, .bool false]) 4 [(0, .agg [.int .i64 pre.length, .int .i64 p.fType, .bool p.fNull, .bool false])] = some [[.int .i64 pre.length, .int .i64 p.fType, .bool p.fNull, .bool false]] := rfl
      have f2 : frzRows [[.int .i64 pre.length, .int .i64 p.fType, .bool p.fNull, .bool false]] = some [[.int .i64 pre.length, .int .i64 p.fType, .bool p.fNull, .bool false]] := rfl
      have f3 : sFill [.int .i64 0, .int .i64 0, .bool false, .bool false] [(0, 1, .int .i64 pre.length), (1, 1, .int .i64 p.fType), (2, 1, .bool p.fNull)] = some [.int .i64 pre.length, .int .i64 p.fType, .bool p.fNull, .bool false] := rfl
      simp only [go_sem, kSt_ptr, Nat.reduceBEq, Nat.reduceAdd, Nat.reduceLeDiff, s_impl_RowPlan_L0, q0, ix, nx, a.dl, a.ia (row := TCol.row) (sz := 3) rfl, TCol.row, f1, f2, f3]
      refine hP_grow [rowP pre p] rfl (q1.mono (by simp <;> omega) (fun r hr => by simp <;> omega)) rfl (by simp only [List.length_cons, List.length_nil]; unfold room; omega) ?_
      intro v' h' g1 g2 g3 _
      simp only [go_sem, Nat.reduceBEq, q0, ix, nx, a.hw, hsn, g1]
    · rintro e h ⟨q0, q1, ix, nx⟩
      simp only [go_sem, Nat.reduceBEq, s_impl_RowPlan_L0, q0, q1, ix, nx]
    · exact ⟨rfl, grows_nil tPart _, rfl, rfl⟩
    · rintro x e h ⟨rfl, j⟩
      simp only [go_sem, Nat.reduceBEq]
      exact frR_grows j rfl
  · have hrp : rowPlan v = [] := by unfold rowPlan; rw [if_neg d]
    rw [hrp]
    simp only [go_sem, Nat.reduceBEq, Nat.reduceAdd, Nat.reduceLeDiff, s_impl_RowPlan, TDef.row, h1, c1, bneT d]
noncomputable def C_impl_PartOk := c1 tPart (fun (p : TPart) => True) (.bool) fun (p : TPart) => partOk p
theorem C_impl_PartOk_eq (p : TPart) (h : True) : C_impl_PartOk [.agg [.int .i64 p.fCol, .int .i64 p.fType, .bool p.fNull, .bool p.fDesc]] = some (.bool ((partOk p))) := c1_eq tPart h
theorem ok_impl_PartOk {WI : World → Prop} (hs : Stable WI) (cs) (hT : TOK (EE cs) WI) (h1 : (EE cs).T 28 = some C_impl_in) : PureOK Tryz.prog WI 64 C_impl_PartOk := by
  refine pure1 (E := EE cs) hT hs (by rw [st_impl_PartOk]; rfl) fun p hp => out_wp (n := 0) (st_impl_PartOk cs) ?_
  cases d : inR p.fCol 0 9
  · simp only [go_sem, Nat.reduceBEq, s_impl_PartOk, TPart.row, h1, C_impl_in_eq, d, partOk]
  · simp only [go_sem, Nat.reduceBEq, Nat.reduceAdd, Nat.reduceLeDiff, s_impl_PartOk, TPart.row, h1, C_impl_in_eq, d, partOk]
theorem planOk_impl : ∀ (l pre : List TPart), pre.length ≤ 6 → allP (fun pre p => decide ((pre.length : Int) < 6) && partOk p) pre l = (l.all partOk && decide (((pre ++ l).length : Int) ≤ 6))
  | [], pre, h => by simp [allP]; omega
  | p :: l, pre, h => by
    simp only [allP]
    by_cases h6 : pre.length < 6
    · have hd : decide ((pre.length : Int) < 6) = true := decide_eq_true (by omega)
      rw [hd, Bool.true_and, planOk_impl l (pre ++ [p]) (by simp; omega), List.all_cons, Bool.and_assoc, List.append_assoc]
      rfl
    · have hd : decide ((pre.length : Int) < 6) = false := decide_eq_false (by omega)
      have hd2 : decide (((pre ++ p :: l).length : Int) ≤ 6) = false := decide_eq_false (by simp; omega)
      rw [hd, hd2, Bool.false_and, Bool.false_and, Bool.and_false]
noncomputable def C_impl_PlanOk := c1 (sliceT tPart) (fun (l : List (TPart)) => l.length ≤ 1048576) (.bool) fun (l : List (TPart)) => planOk l
theorem C_impl_PlanOk_eq (l : List (TPart)) (h : l.length ≤ 1048576) : C_impl_PlanOk [.imm (l.map TPart.row)] = some (.bool ((planOk l))) := c1_eq (sliceT tPart) h
theorem ok_impl_PlanOk {WI : World → Prop} (hs : Stable WI) (cs) (hT : TOK (EE cs) WI) (h1 : (EE cs).T 64 = some C_impl_PartOk) : PureOK Tryz.prog WI 42 C_impl_PlanOk := by
  refine pure1 (E := EE cs) hT hs (by rw [st_impl_PlanOk]; rfl) fun l hp => out_wp (n := 0) (st_impl_PlanOk cs) ?_
  simp only [go_sem, Nat.reduceBEq, s_impl_PlanOk]
  refine (wl_all (l := l) (fun pre p => decide ((pre.length : Int) < 6) && partOk p) (fun pre e h => e 5 = .imm (l.map TPart.row) ∧ e 7 = .int .i64 pre.length ∧ e 6 = .int .i64 (l).length) (.exit 0) (fun e h => e 5 = .imm (l.map TPart.row)) (fun e h => e 2 = .bool false) (by omega) ?_ ?_ ?_ (by simp) l [] _ _ rfl ?_).mono ?_
  · rintro pre p rest e h a hp ⟨q0, ix, nx⟩
    have hc : C_impl_PartOk [.agg [.int .i64 p.fCol, .int .i64 p.fType, .bool p.fNull, .bool p.fDesc]] = some (.bool (partOk p)) := C_impl_PartOk_eq p trivial
    simp only [Bool.and_eq_true, decide_eq_true_eq] at hp
    have d1 : decide ((6 : Int) ≤ (pre.length : Int)) = false := decide_eq_false (by omega)
    have d2 := hp.2
    all_goals simp only [go_sem, kSt_ptr, Nat.reduceBEq, Nat.reduceAdd, s_impl_PlanOk_L0, q0, ix, nx, a.dl, a.ia (row := TPart.row) (sz := 4) rfl, hp, a.hw, TPart.row, h1, hc, d1]
  · rintro pre p rest e h a hp ⟨q0, ix, nx⟩
    have hc : C_impl_PartOk [.agg [.int .i64 p.fCol, .int .i64 p.fType, .bool p.fNull, .bool p.fDesc]] = some (.bool (partOk p)) := C_impl_PartOk_eq p trivial
    cases d1 : decide ((6 : Int) ≤ (pre.length : Int)) <;> cases d2 : partOk p
    all_goals first | (have := of_decide_eq_false d1; have h6 : decide ((pre.length : Int) < 6) = true := decide_eq_true (by omega); rw [h6, d2] at hp; cases hp; done) | skip
    all_goals simp only [go_sem, kSt_ptr, Nat.reduceBEq, Nat.reduceAdd, s_impl_PlanOk_L0, q0, ix, nx, a.dl, a.ia (row := TPart.row) (sz := 4) rfl, a.hw, TPart.row, h1, hc, d1, d2]
  · rintro e h ⟨q0, ix, nx⟩
    simp only [go_sem, Nat.reduceBEq, s_impl_PlanOk_L0, q0, ix, nx]
  · simp only [go_sem, Nat.reduceBEq, and_self]
  · rintro x e h (⟨hp, rfl, j0⟩ | ⟨hp, rfl, j⟩)
    · have hq := planOk_impl l [] (by decide)
      rw [List.nil_append] at hq
      have hz : planOk l = true := by unfold planOk; rw [← hq]; exact hp
      simp only [go_sem, hz]
    · have hq := planOk_impl l [] (by decide)
      rw [List.nil_append] at hq
      have hz : planOk l = false := by unfold planOk; rw [← hq]; exact hp
      simp only [go_sem, j, hz]
end Go.Proofs.YtfjkmpmjohojpaaGreatDoor.Ij
namespace Go.Proofs.YtfjkmpmjohojpaaGreatDoor.Ij
open Go Go.RowKit Go.Ev
set_option linter.unusedSimpArgs false
set_option linter.unusedVariables false
set_option maxHeartbeats 1600000
noncomputable def C_impl_RowOk := c2 (sliceT tPart) (sliceT tVal) (fun (l : List (TPart)) (r : List (TVal)) => l.length ≤ 1048576 ∧ r.length ≤ 1048576) (.bool) fun (l : List (TPart)) (r : List (TVal)) => rowOk l r
theorem C_impl_RowOk_eq (l : List (TPart)) (r : List (TVal)) (h : l.length ≤ 1048576 ∧ r.length ≤ 1048576) : C_impl_RowOk [.imm (l.map TPart.row), .imm (r.map TVal.row)] = some (.bool ((rowOk l r))) := c2_eq (sliceT tPart) (sliceT tVal) h
theorem ok_impl_RowOk {WI : World → Prop} (hs : Stable WI) (cs) (hT : TOK (EE cs) WI) (h1 : (EE cs).T 42 = some C_impl_PlanOk) (h2 : (EE cs).T 29 = some C_impl_FitsAll) : PureOK Tryz.prog WI 18 C_impl_RowOk := by
  refine pure2 (E := EE cs) hT hs (by rw [st_impl_RowOk]; rfl) fun l r hp => out_wp (n := 0) (st_impl_RowOk cs) ?_
  have c1 := C_impl_PlanOk_eq l hp.1
  have c2 := C_impl_FitsAll_eq l r hp
  cases d1 : planOk l
  · simp only [go_sem, Nat.reduceBEq, s_impl_RowOk, h1, c1, d1, rowOk]
  cases d2 : ((r.length : Int) == (l.length : Int))
  · simp only [go_sem, Nat.reduceBEq, s_impl_RowOk, h1, c1, d1, d2, rowOk]
  · simp only [go_sem, Nat.reduceBEq, s_impl_RowOk, h1, c1, d1, d2, h2, c2, rowOk]
noncomputable def C_impl_Pick := c2 (sliceT tPart) (sliceT tVal) (fun (l : List (TPart)) (row : List (TVal)) => l.length ≤ 1048576 ∧ row.length ≤ 1048576) (fun x => .app 3 (x.map TVal.row)) fun (l : List (TPart)) (row : List (TVal)) => pick l row
theorem C_impl_Pick_eq (l : List (TPart)) (row : List (TVal)) (h : l.length ≤ 1048576 ∧ row.length ≤ 1048576) : C_impl_Pick [.imm (l.map TPart.row), .imm (row.map TVal.row)] = some (.app 3 ((pick l row).map TVal.row)) := c2_eq (sliceT tPart) (sliceT tVal) h
theorem ok_impl_Pick {WI : World → Prop} (hs : Stable WI) (cs) (hT : TOK (EE cs) WI) (h1 : (EE cs).T 28 = some C_impl_in) : FreshOK Tryz.prog WI 21 C_impl_Pick := by
  refine pure2F (E := EE cs) hT hs (by rw [st_impl_Pick]; rfl) fun l row hp => outF_wp (sz := 3) (st_impl_Pick cs) ?_
  obtain ⟨n1, n2⟩ := hp
  have hw1 : IntKind.wrap .i64 ((row.length : Int) - 1) = (row.length : Int) - 1 := wrapId (by omega) (by omega)
  simp only [go_sem, Nat.reduceBEq, s_impl_Pick]
  refine (wl_for (l := l) (fun pre e h => e 9 = .imm (l.map TPart.row) ∧ e 1 = .imm (row.map TVal.row) ∧ grows tVal (pick pre row) (e 5) h ∧ e 11 = .int .i64 pre.length ∧ e 10 = .int .i64 (l).length) (.exit 0) (fun e h => grows tVal (pick l row) (e 5) h) (by omega) ?_ ?_ (by simp) l [] _ _ rfl ?_).mono ?_
  · rintro pre p rest e h a ⟨q0, q1, q2, ix, nx⟩
    have hlen : (pick pre row).length ≤ 1048576 := by rw [pick_len]; have := a.lt; omega
    have hne : ¬ h.nx = h.nx + 1 := by omega
    cases hin : inR p.fCol 0 ((row.length : Int) - 1)
    · have hsn : pick (pre ++ [p]) row = pick pre row ++ [⟨0, 0, []⟩] := by rw [pick_snoc, pickV_out hin]
      simp only [go_sem, kSt_ptr, Nat.reduceBEq, Nat.reduceAdd, s_impl_Pick_L0, q0, q1, ix, nx, a.dl, a.ia (row := TPart.row) (sz := 4) rfl, TPart.row, hne, h1, C_impl_in_eq, hw1, hin, valFillR, valFrzR]
      refine hP_grow [(⟨0, 0, []⟩ : TVal)] rfl (q2.mono (by simp <;> omega) (fun r hr => by simp <;> omega)) rfl (by simp only [List.length_cons, List.length_nil]; unfold room; omega) ?_
      intro v' h' g1 g2 g3 _
      simp only [go_sem, Nat.reduceBEq, q0, q1, ix, nx, a.hw, hsn, g1]
    obtain ⟨z1, z2⟩ := inR_nat hin
    obtain ⟨w, hw⟩ : ∃ w, row[p.fCol.toNat]? = some w := ⟨_, List.getElem?_eq_getElem z2⟩
    have hsn : pick (pre ++ [p]) row = pick pre row ++ [w] := by rw [pick_snoc, pickV_in hin hw]
    simp only [go_sem, kSt_ptr, Nat.reduceBEq, Nat.reduceAdd, s_impl_Pick_L0, q0, q1, ix, nx, a.dl, a.ia (row := TPart.row) (sz := 4) rfl, TPart.row, TVal.row, hne, h1, C_impl_in_eq, hw1, hin, kIa_nth (row := TVal.row) (sz := 3) z1 hw rfl, valFillR, valFrzR]
    refine hP_grow [w] rfl (q2.mono (by simp <;> omega) (fun r hr => by simp <;> omega)) rfl (by simp only [List.length_cons, List.length_nil]; unfold room; omega) ?_
    intro v' h' g1 g2 g3 _
    simp only [go_sem, Nat.reduceBEq, q0, q1, ix, nx, a.hw, hsn, g1]
  · rintro e h ⟨q0, q1, q2, ix, nx⟩
    simp only [go_sem, Nat.reduceBEq, s_impl_Pick_L0, q0, q2, ix, nx]
  · exact ⟨rfl, rfl, grows_nil tVal _, rfl, rfl⟩
  · rintro x e h ⟨rfl, j⟩
    simp only [go_sem, Nat.reduceBEq]
    exact frR_grows j rfl
noncomputable def C_impl_LessVal := c2 tVal tVal (fun (a : TVal) (b : TVal) => True) (.bool) fun (a : TVal) (b : TVal) => lessV a b
theorem C_impl_LessVal_eq (a : TVal) (b : TVal) (h : True) : C_impl_LessVal [.agg [.int .i64 a.fK, .int .i64 a.fN, .str a.fS], .agg [.int .i64 b.fK, .int .i64 b.fN, .str b.fS]] = some (.bool ((lessV a b))) := c2_eq tVal tVal h
theorem ok_impl_LessVal {WI : World → Prop} (hs : Stable WI) (cs) (hT : TOK (EE cs) WI) : PureOK Tryz.prog WI 69 C_impl_LessVal := by
  refine pure2 (E := EE cs) hT hs (by rw [st_impl_LessVal]; rfl) fun a b hp => out_wp (n := 0) (st_impl_LessVal cs) ?_
  cases d1 : (a.fK == b.fK)
  · simp only [go_sem, Nat.reduceBEq, Nat.reduceAdd, Nat.reduceLeDiff, s_impl_LessVal, TVal.row, bne, d1, lessV]
  cases d2 : (a.fN == b.fN)
  · simp only [go_sem, Nat.reduceBEq, Nat.reduceAdd, Nat.reduceLeDiff, s_impl_LessVal, TVal.row, bne, d1, d2, lessV]
  · simp only [go_sem, Nat.reduceBEq, Nat.reduceAdd, Nat.reduceLeDiff, s_impl_LessVal, TVal.row, bne, d1, d2, lessV]
noncomputable def C_impl_LessPart := c3 tPart tVal tVal (fun (p : TPart) (a : TVal) (b : TVal) => True) (.bool) fun (p : TPart) (a : TVal) (b : TVal) => lessP p a b
theorem C_impl_LessPart_eq (p : TPart) (a : TVal) (b : TVal) (h : True) : C_impl_LessPart [.agg [.int .i64 p.fCol, .int .i64 p.fType, .bool p.fNull, .bool p.fDesc], .agg [.int .i64 a.fK, .int .i64 a.fN, .str a.fS], .agg [.int .i64 b.fK, .int .i64 b.fN, .str b.fS]] = some (.bool ((lessP p a b))) := c3_eq tPart tVal tVal h
theorem ok_impl_LessPart {WI : World → Prop} (hs : Stable WI) (cs) (hT : TOK (EE cs) WI) (h1 : (EE cs).T 69 = some C_impl_LessVal) : PureOK Tryz.prog WI 46 C_impl_LessPart := by
  refine pure3 (E := EE cs) hT hs (by rw [st_impl_LessPart]; rfl) fun p a b hp => out_wp (n := 0) (st_impl_LessPart cs) ?_
  have c1 : ∀ a b : TVal, C_impl_LessVal [.agg [.int .i64 a.fK, .int .i64 a.fN, .str a.fS], .agg [.int .i64 b.fK, .int .i64 b.fN, .str b.fS]] = some (.bool (lessV a b)) := fun a b => C_impl_LessVal_eq a b trivial
  cases d : p.fDesc
  · simp only [go_sem, Nat.reduceBEq, Nat.reduceAdd, Nat.reduceEqDiff, Nat.reduceLeDiff, s_impl_LessPart, TVal.row, TPart.row, d, h1, c1, lessP]
  · simp only [go_sem, Nat.reduceBEq, Nat.reduceAdd, Nat.reduceEqDiff, Nat.reduceLeDiff, s_impl_LessPart, TVal.row, TPart.row, d, h1, c1, lessP]
theorem L_impl_LessKey (cs) (h1 : (EE cs).T 46 = some C_impl_LessPart) (l : List TPart) (s t : List TVal) (n0 : l.length ≤ 1048576) (n1 : s.length ≤ 1048576) (n2 : t.length ≤ 1048576) : ∀ (rs ps rt pt : List TVal) (e : Ps) (h : Hp), s = ps ++ rs → t = pt ++ rt → ps.length = pt.length → e 0 = .imm (l.map TPart.row) → e 1 = .imm (s.map TVal.row) → e 2 = .imm (t.map TVal.row) → e 7 = .int .i64 ps.length →
    WL (EE cs) s_impl_LessKey_L0 e h fun x e' _ => (x = .exit 0 ∧ e' 1 = .imm (s.map TVal.row) ∧ e' 2 = .imm (t.map TVal.row) ∧ lessK l ps.length rs rt = decide ((s.length : Int) < (t.length : Int))) ∨ (x = .ret ∧ e' 6 = .bool (lessK l ps.length rs rt))
  | [], ps, [], pt, e, h, hs, ht, hp, k0, k1, k2, k7 => by
    have d1 : decide ((ps.length : Int) < (s.length : Int)) = false := decide_eq_false (by rw [hs]; simp)
    have d3 : decide ((s.length : Int) < (t.length : Int)) = false := decide_eq_false (by rw [hs, ht]; simp; omega)
    refine .step (wp_sound _ _ _ _ ?_)
    simp only [go_sem, Nat.reduceBEq, s_impl_LessKey_L0, k1, k2, k7, d1, d3, lessK, reduceCtorEq, false_and, true_or]
  | [], ps, w :: rt, pt, e, h, hs, ht, hp, k0, k1, k2, k7 => by
    have d1 : decide ((ps.length : Int) < (s.length : Int)) = false := decide_eq_false (by rw [hs]; simp)
    have d3 : decide ((s.length : Int) < (t.length : Int)) = true := decide_eq_true (by rw [hs, ht]; simp; omega)
    refine .step (wp_sound _ _ _ _ ?_)
    simp only [go_sem, Nat.reduceBEq, s_impl_LessKey_L0, k1, k2, k7, d1, d3, lessK, reduceCtorEq, false_and, true_or]
  | v :: rs, ps, [], pt, e, h, hs, ht, hp, k0, k1, k2, k7 => by
    have d1 : decide ((ps.length : Int) < (s.length : Int)) = true := decide_eq_true (by rw [hs]; simp; omega)
    have d2 : decide ((ps.length : Int) < (t.length : Int)) = false := decide_eq_false (by rw [ht]; simp; omega)
    have d3 : decide ((s.length : Int) < (t.length : Int)) = false := decide_eq_false (by rw [hs, ht]; simp; omega)
    refine .step (wp_sound _ _ _ _ ?_)
    simp only [go_sem, Nat.reduceBEq, s_impl_LessKey_L0, k1, k2, k7, d1, d2, d3, lessK, reduceCtorEq, false_and, true_or]
  | v :: rs, ps, w :: rt, pt, e, h, hs, ht, hp, k0, k1, k2, k7 => by
    have a1 := at_of (by omega) hs
    have a2 := at_of (by omega) ht
    have d1 := a1.dl
    have d2 : decide ((ps.length : Int) < (t.length : Int)) = true := by rw [hp]; exact a2.dl
    have i1 := fun h => a1.ia (row := TVal.row) (sz := 3) rfl h
    have i2 : ∀ h, kIa 3 (.imm (t.map TVal.row)) (.int .i64 ps.length) h = some (.cptr w.row, h) := fun h => by rw [hp]; exact a2.ia (row := TVal.row) (sz := 3) rfl h
    cases hv : sameV v w
    · have hl : lessK l ps.length (v :: rs) (w :: rt) = lessAt l ps.length v w := by simp only [lessK, hv, Bool.false_eq_true, if_false]
      rw [hl]
      cases hg : l[ps.length]? with
      | none =>
        have d3 : decide ((ps.length : Int) < (l.length : Int)) = false := decide_eq_false (by have := List.getElem?_eq_none_iff.1 hg; omega)
        refine .step (wp_sound _ _ _ _ ?_)
        simp only [go_sem, Nat.reduceBEq, Nat.reduceAdd, s_impl_LessKey_L0, k0, k1, k2, k7, d1, d2, i1, i2, TVal.row, cmpNeq, hv, d3, lessAt, hg, reduceCtorEq, false_and, false_or]
      | some p =>
        have hlt := (List.getElem?_eq_some_iff.1 hg).1
        have d3 : decide ((ps.length : Int) < (l.length : Int)) = true := decide_eq_true (by omega)
        have hg' : l[((ps.length : Int)).toNat]? = some p := by simpa using hg
        have hc : C_impl_LessPart [.agg [.int .i64 p.fCol, .int .i64 p.fType, .bool p.fNull, .bool p.fDesc], .agg [.int .i64 v.fK, .int .i64 v.fN, .str v.fS], .agg [.int .i64 w.fK, .int .i64 w.fN, .str w.fS]] = some (.bool (lessP p v w)) := C_impl_LessPart_eq p v w trivial
        refine .step (wp_sound _ _ _ _ ?_)
        simp only [go_sem, Nat.reduceBEq, Nat.reduceAdd, s_impl_LessKey_L0, k0, k1, k2, k7, d1, d2, i1, i2, TVal.row, TPart.row, cmpNeq, hv, d3, kIa_nth (row := TPart.row) (sz := 4) (by omega) hg' rfl, h1, hc, lessAt, hg, reduceCtorEq, false_and, false_or]
    · have hl : lessK l ps.length (v :: rs) (w :: rt) = lessK l (ps ++ [v]).length rs rt := by simp only [lessK, hv, if_true, List.length_append, List.length_cons, List.length_nil]
      rw [hl]
      refine .step (.mono (wp_sound _ _ _ (fun x e1 _ => x = .norm ∧ e1 0 = .imm (l.map TPart.row) ∧ e1 1 = .imm (s.map TVal.row) ∧ e1 2 = .imm (t.map TVal.row) ∧ e1 7 = .int .i64 (ps ++ [v]).length) ?_) ?_)
      · simp only [go_sem, Nat.reduceBEq, Nat.reduceAdd, s_impl_LessKey_L0, k0, k1, k2, k7, d1, d2, i1, i2, TVal.row, cmpNeq, hv, a1.hw]
      · rintro _ e1 h1' ⟨rfl, q0, q1, q2, q7⟩
        exact L_impl_LessKey cs h1 l s t n0 n1 n2 rs (ps ++ [v]) rt (pt ++ [w]) e1 h1' (by rw [hs]; simp) (by rw [ht]; simp) (by simp [hp]) q0 q1 q2 q7
noncomputable def C_impl_LessKey := c3 (sliceT tPart) (sliceT tVal) (sliceT tVal) (fun (l : List (TPart)) (s : List (TVal)) (t : List (TVal)) => l.length ≤ 1048576 ∧ s.length ≤ 1048576 ∧ t.length ≤ 1048576) (.bool) fun (l : List (TPart)) (s : List (TVal)) (t : List (TVal)) => lessK l 0 s t
theorem C_impl_LessKey_eq (l : List (TPart)) (s : List (TVal)) (t : List (TVal)) (h : l.length ≤ 1048576 ∧ s.length ≤ 1048576 ∧ t.length ≤ 1048576) : C_impl_LessKey [.imm (l.map TPart.row), .imm (s.map TVal.row), .imm (t.map TVal.row)] = some (.bool ((lessK l 0 s t))) := c3_eq (sliceT tPart) (sliceT tVal) (sliceT tVal) h
theorem ok_impl_LessKey {WI : World → Prop} (hs : Stable WI) (cs) (hT : TOK (EE cs) WI) (h1 : (EE cs).T 46 = some C_impl_LessPart) : PureOK Tryz.prog WI 22 C_impl_LessKey := by
  refine pure3 (E := EE cs) hT hs (by rw [st_impl_LessKey]; rfl) fun l s t hp => out_wp (n := 0) (st_impl_LessKey cs) ?_
  obtain ⟨n0, n1, n2⟩ := hp
  simp only [go_sem, s_impl_LessKey]
  refine (L_impl_LessKey cs h1 l s t n0 n1 n2 s [] t [] _ _ rfl rfl rfl (by simp only [go_sem, Nat.reduceBEq]) (by simp only [go_sem, Nat.reduceBEq]) (by simp only [go_sem, Nat.reduceBEq]) (by simp only [go_sem, Nat.reduceBEq])).mono ?_
  rintro x e' h' (⟨rfl, j1, j2, j3⟩ | ⟨rfl, j⟩)
  · simp only [List.length_nil] at j3
    simp only [go_sem, Nat.reduceBEq, j1, j2, j3]
  · simp only [List.length_nil] at j
    simp only [go_sem, j]
def sameAt (b : List TVal) (pre : List TVal) (v : TVal) : Bool := match b[pre.length]? with | some w => sameV v w | none => false
theorem sameAt_some {b pre : List TVal} {v w : TVal} (h : b[pre.length]? = some w) : sameAt b pre v = sameV v w := by unfold sameAt; rw [h]
theorem sameR_all : ∀ (a pa b pb : List TVal), a.length = b.length → pa.length = pb.length → sameR a b = allP (sameAt (pb ++ b)) pa a
  | [], pa, [], pb, _, _ => rfl
  | x :: a, pa, y :: b, pb, h, hp => by
    have hg : (pb ++ y :: b)[pa.length]? = some y := by rw [hp, List.getElem?_append_right (Nat.le_refl _)]; simp
    simp only [sameR, allP, sameAt_some hg]
    rw [sameR_all a (pa ++ [x]) b (pb ++ [y]) (by simpa using h) (by simp [hp])]
    simp only [List.append_assoc, List.cons_append, List.nil_append]
  | [], _, _ :: _, _, h, _ => by simp at h
  | _ :: _, _, [], _, h, _ => by simp at h
theorem sameR_len : ∀ {a b : List TVal}, a.length ≠ b.length → sameR a b = false
  | [], [], h => absurd rfl h
  | [], _ :: _, _ => rfl
  | _ :: _, [], _ => rfl
  | a :: x, b :: y, h => by simp only [sameR, sameR_len (a := x) (b := y) (by simpa using h), Bool.and_false]
noncomputable def C_impl_SameRow := c2 (sliceT tVal) (sliceT tVal) (fun (u : List (TVal)) (t : List (TVal)) => u.length ≤ 1048576 ∧ t.length ≤ 1048576) (.bool) fun (u : List (TVal)) (t : List (TVal)) => sameR u t
theorem C_impl_SameRow_eq (u : List (TVal)) (t : List (TVal)) (h : u.length ≤ 1048576 ∧ t.length ≤ 1048576) : C_impl_SameRow [.imm (u.map TVal.row), .imm (t.map TVal.row)] = some (.bool ((sameR u t))) := c2_eq (sliceT tVal) (sliceT tVal) h
theorem ok_impl_SameRow {WI : World → Prop} (hs : Stable WI) (cs) (hT : TOK (EE cs) WI) : PureOK Tryz.prog WI 23 C_impl_SameRow := by
  refine pure2 (E := EE cs) hT hs (by rw [st_impl_SameRow]; rfl) fun u t hp => out_wp (n := 0) (st_impl_SameRow cs) ?_
  obtain ⟨n1, n2⟩ := hp
  by_cases hlen : (u.length : Int) = (t.length : Int)
  · have hq := sameR_all u [] t [] (by omega) rfl
    rw [List.nil_append] at hq
    simp only [go_sem, Nat.reduceBEq, s_impl_SameRow, hlen]
    refine (wl_all (l := u) (fun pre v => sameAt t pre v) (fun pre e h => e 0 = .imm (u.map TVal.row) ∧ e 1 = .imm (t.map TVal.row) ∧ e 13 = .int .i64 pre.length ∧ e 12 = .int .i64 (u).length) (.exit 0) (fun e h => e 0 = .imm (u.map TVal.row) ∧ e 1 = .imm (t.map TVal.row)) (fun e h => e 4 = .bool false) (by omega) ?_ ?_ ?_ (by simp) u [] _ _ rfl ?_).mono ?_
    · rintro pre v rest e h a hp ⟨q0, q1, ix, nx⟩
      obtain ⟨w, hw⟩ : ∃ w, t[pre.length]? = some w := ⟨_, List.getElem?_eq_getElem (by have := a.lt; omega)⟩
      have hw' : t[((pre.length : Int)).toNat]? = some w := by simpa using hw
      rw [sameAt_some hw] at hp
      simp only [go_sem, Nat.reduceBEq, Nat.reduceAdd, s_impl_SameRow_L0, q0, q1, ix, nx, a.dl, a.ia (row := TVal.row) (sz := 3) rfl, hp, a.hw, TVal.row, kIa_nth (row := TVal.row) (sz := 3) (by omega) hw' rfl, cmpNeq]
    · rintro pre v rest e h a hp ⟨q0, q1, ix, nx⟩
      obtain ⟨w, hw⟩ : ∃ w, t[pre.length]? = some w := ⟨_, List.getElem?_eq_getElem (by have := a.lt; omega)⟩
      have hw' : t[((pre.length : Int)).toNat]? = some w := by simpa using hw
      rw [sameAt_some hw] at hp
      simp only [go_sem, Nat.reduceBEq, Nat.reduceAdd, s_impl_SameRow_L0, q0, q1, ix, nx, a.dl, a.ia (row := TVal.row) (sz := 3) rfl, hp, a.hw, TVal.row, kIa_nth (row := TVal.row) (sz := 3) (by omega) hw' rfl, cmpNeq]
    · rintro e h ⟨q0, q1, ix, nx⟩
      simp only [go_sem, Nat.reduceBEq, s_impl_SameRow_L0, q0, q1, ix, nx]
    · simp only [go_sem, Nat.reduceBEq, hlen]
    · rintro x e h (⟨hp, rfl, j⟩ | ⟨hp, rfl, j⟩)
      · simp only [go_sem, hq, hp]
      · simp only [go_sem, j, hq, hp]
  · have hq : sameR u t = false := sameR_len (by omega)
    simp only [go_sem, Nat.reduceBEq, s_impl_SameRow, bneT hlen, hq]
end Go.Proofs.YtfjkmpmjohojpaaGreatDoor.Ij
namespace Go.Proofs.YtfjkmpmjohojpaaGreatDoor.Ij
open Go Go.RowKit Go.Ev
set_option linter.unusedSimpArgs false
set_option linter.unusedVariables false
set_option maxHeartbeats 1600000
def inS (plan : List TPart) (k : List TVal) (c : TScan) : Bool :=
  !((sameR (k.take c.fLo.length) c.fLo && (c.fLoEx && decide ((0 : Int) < c.fLo.length))) || (sameR (k.take c.fHi.length) c.fHi && (c.fHiEx && decide ((0 : Int) < c.fHi.length)))) &&
    (!lessK plan 0 (k.take c.fLo.length) c.fLo && !lessK plan 0 c.fHi (k.take c.fHi.length))
def inI (plan : List TPart) (k : List TVal) (c : TScan) : Bool :=
  !(decide ((0 : Int) < c.fLo.length) && (!lessK plan 0 c.fLo (k.take c.fLo.length) && (c.fLoEx || !sameR c.fLo (k.take c.fLo.length)))) &&
    ((((c.fHi.length : Int) == 0) || lessK plan 0 (k.take c.fHi.length) c.fHi) || (!c.fHiEx && sameR (k.take c.fHi.length) c.fHi))
theorem inI_eq {plan : List TPart} {k : List TVal} {c : TScan} (hk : k.length = plan.length) (h1 : c.fLo.length ≤ plan.length) (h2 : c.fHi.length ≤ plan.length) : inI plan k c = inS plan k c := by
  unfold inI inS
  have e1 : (k.take c.fLo.length).length = c.fLo.length := by rw [List.length_take]; omega
  have e2 : (k.take c.fHi.length).length = c.fHi.length := by rw [List.length_take]; omega
  have t1 := trich plan (k.take c.fLo.length) c.fLo 0 e1 (by omega)
  have t2 := trich plan (k.take c.fHi.length) c.fHi 0 e2 (by omega)
  rw [sameR_comm c.fLo]
  have hlo : (!(decide ((0 : Int) < c.fLo.length) && (!lessK plan 0 c.fLo (k.take c.fLo.length) && (c.fLoEx || !sameR (k.take c.fLo.length) c.fLo)))) = (!(sameR (k.take c.fLo.length) c.fLo && (c.fLoEx && decide ((0 : Int) < c.fLo.length))) && !lessK plan 0 (k.take c.fLo.length) c.fLo) := by
    rcases t1 with ⟨s1, s2, s3⟩ | ⟨s1, s2⟩
    · rw [s1, s2, s3]; cases c.fLoEx <;> cases decide ((0 : Int) < c.fLo.length) <;> rfl
    · have hp := sameR_nil s1 e1
      have hd : decide ((0 : Int) < c.fLo.length) = true := decide_eq_true (by omega)
      rw [s1, s2, hd]; cases lessK plan 0 c.fLo (k.take c.fLo.length) <;> cases c.fLoEx <;> rfl
  have hhi : ((((c.fHi.length : Int) == 0) || lessK plan 0 (k.take c.fHi.length) c.fHi) || (!c.fHiEx && sameR (k.take c.fHi.length) c.fHi)) = (!(sameR (k.take c.fHi.length) c.fHi && (c.fHiEx && decide ((0 : Int) < c.fHi.length))) && !lessK plan 0 c.fHi (k.take c.fHi.length)) := by
    rcases t2 with ⟨s1, s2, s3⟩ | ⟨s1, s2⟩
    · rw [s1, s2, s3]
      by_cases h0 : c.fHi.length = 0
      · have a1 : ((c.fHi.length : Int) == 0) = true := by simp [h0]
        have a2 : decide ((0 : Int) < c.fHi.length) = false := decide_eq_false (by omega)
        rw [a1, a2]; cases c.fHiEx <;> rfl
      · have a1 : ((c.fHi.length : Int) == 0) = false := by simp; intro e; exact h0 (by rw [e]; rfl)
        have a2 : decide ((0 : Int) < c.fHi.length) = true := decide_eq_true (by omega)
        rw [a1, a2]; cases c.fHiEx <;> rfl
    · have hp := sameR_nil s1 e2
      have a1 : ((c.fHi.length : Int) == 0) = false := by simp; intro e; rw [e] at hp; simp at hp
      rw [s1, a1, s2]; cases lessK plan 0 c.fHi (k.take c.fHi.length) <;> cases c.fHiEx <;> rfl
  rw [hlo, hhi]
  cases sameR (k.take c.fLo.length) c.fLo <;> cases sameR (k.take c.fHi.length) c.fHi <;> cases c.fLoEx <;> cases c.fHiEx <;> cases decide ((0 : Int) < c.fLo.length) <;> cases decide ((0 : Int) < c.fHi.length) <;> cases lessK plan 0 (k.take c.fLo.length) c.fLo <;> rfl
def inScanD (s : List TDef) (c : TScan) (row : List TVal) : Bool := match s[c.fT.toNat]? with
  | some d => inS (planOf d c.fI) (pick (planOf d c.fI) row) c
  | none => false
def rowOkAt (s : List TDef) (t : Int) (row : List TVal) : Bool := match s[t.toNat]? with
  | some d => rowOk (rowPlan d) row
  | none => false
def inScan (s : List TDef) (c : TScan) (row : List TVal) : Bool := scanOk s c && (rowOkAt s c.fT row && inScanD s c row)
theorem inScanD_some {s : List TDef} {c : TScan} {row : List TVal} {d : TDef} (h : s[c.fT.toNat]? = some d) : inScanD s c row = inS (planOf d c.fI) (pick (planOf d c.fI) row) c := by unfold inScanD; rw [h]
theorem rowOkAt_some {s : List TDef} {t : Int} {row : List TVal} {d : TDef} (h : s[t.toNat]? = some d) : rowOkAt s t row = rowOk (rowPlan d) row := by unfold rowOkAt; rw [h]
theorem scanOk_get {s : List TDef} {c : TScan} (h : scanOk s c = true) : ∃ d, s[c.fT.toNat]? = some d ∧ 0 ≤ c.fT ∧ d ∈ s ∧ -1 ≤ c.fI ∧ c.fLo.length ≤ (planOf d c.fI).length ∧ c.fHi.length ≤ (planOf d c.fI).length := by
  unfold scanOk at h
  simp only [Bool.and_eq_true] at h
  obtain ⟨h1, _, h3⟩ := h
  obtain ⟨d, hd, z1, hm, _, hi, _⟩ := there_get h1
  rw [hd] at h3
  simp only [Bool.and_eq_true] at h3
  have f : ∀ {l : List TPart} {vs : List TVal}, fitsAll l vs = true → vs.length ≤ l.length := fun {l vs} hf => by
    unfold fitsAll at hf
    simp only [Bool.and_eq_true, decide_eq_true_eq] at hf
    exact hf.1
  exact ⟨d, hd, z1, hm, hi, f h3.1, f h3.2⟩
theorem rowLen {l : List TVal} (h : (sliceT tVal).cost l ≤ 1048576) : l.length ≤ 1048576 := by
  have h0 : l.length + costL tVal l ≤ 1048576 := h
  omega
theorem and3 (a b c : Bool) : a = false ∨ (a = true ∧ b = false) ∨ (a = true ∧ b = true ∧ c = false) ∨ (a = true ∧ b = true ∧ c = true) := by
  cases a <;> cases b <;> cases c <;> simp
theorem kSl_takeA {α : Type} {row : α → List AV} {l : List α} {sz n id : Nat} (hn : n ≤ l.length) (hr : ∀ v, (row v).length = sz) (hne : sz ≠ 0) : sIdxL sz (.app id (l.map row)) none (some (.int .i64 n)) = some (.imm ((l.take n).map row)) := kSl_take hn hr hne
theorem inScan_of {s : List TDef} {c : TScan} {row : List TVal} {d : TDef} (h1 : scanOk s c = true) (hd : s[c.fT.toNat]? = some d) : inScan s c row = (rowOk (rowPlan d) row && inS (planOf d c.fI) (pick (planOf d c.fI) row) c) := by
  unfold inScan; rw [h1, rowOkAt_some hd, inScanD_some hd, Bool.true_and]
noncomputable def C_impl_InScan := c3 (sliceT tDef) tScan (sliceT tVal) (fun (s : List (TDef)) (c : TScan) (row : List (TVal)) => (sliceT tDef).good s ∧ tScan.good c ∧ (sliceT tVal).good row) (.bool) fun (s : List (TDef)) (c : TScan) (row : List (TVal)) => inScan s c row
theorem C_impl_InScan_eq (s : List (TDef)) (c : TScan) (row : List (TVal)) (h : (sliceT tDef).good s ∧ tScan.good c ∧ (sliceT tVal).good row) : C_impl_InScan [.imm (s.map TDef.row), .agg [.int .i64 c.fT, .int .i64 c.fI, .imm (c.fLo.map TVal.row), .imm (c.fHi.map TVal.row), .bool c.fLoEx, .bool c.fHiEx, .bool c.fRev, .int .i64 c.fLimit], .imm (row.map TVal.row)] = some (.bool ((inScan s c row))) := c3_eq (sliceT tDef) tScan (sliceT tVal) h
theorem ok_impl_InScan {WI : World → Prop} (hs : Stable WI) (cs) (hT : TOK (EE cs) WI) (h1 : (EE cs).T 9 = some C_impl_ScanOk) (h2 : (EE cs).T 19 = some C_impl_RowPlan) (h3 : (EE cs).T 18 = some C_impl_RowOk) (h4 : (EE cs).T 20 = some C_impl_planOf) (h5 : (EE cs).T 21 = some C_impl_Pick) (h6 : (EE cs).T 22 = some C_impl_LessKey) (h7 : (EE cs).T 23 = some C_impl_SameRow) : PureOK Tryz.prog WI 6 C_impl_InScan := by
  refine pure3 (E := EE cs) hT hs (by rw [st_impl_InScan]; rfl) fun s c row hp => out_wp (n := 0) (st_impl_InScan cs) ?_
  have fr_h2 : (EE cs).fr 19 = true := rfl
  have fr_h5 : (EE cs).fr 21 = true := rfl
  obtain ⟨hs0, hc0, hr, _⟩ := hp
  have hs := hs0.1
  have hc := hc0.1
  obtain ⟨n1, n2⟩ := defsLens hs
  obtain ⟨m1, m2⟩ := scanLens hc
  have hrl := rowLen hr
  have c1 : C_impl_ScanOk [.imm (s.map TDef.row), .agg [.int .i64 c.fT, .int .i64 c.fI, .imm (c.fLo.map TVal.row), .imm (c.fHi.map TVal.row), .bool c.fLoEx, .bool c.fHiEx, .bool c.fRev, .int .i64 c.fLimit]] = some (.bool (scanOk s c)) := C_impl_ScanOk_eq s c ⟨hs0, hc0⟩
  cases d1 : scanOk s c
  · simp only [go_sem, Nat.reduceBEq, Nat.reduceAdd, s_impl_InScan, TScan.row, h1, c1, d1, inScan, Bool.false_and]
  obtain ⟨d, hd, z1, hm, hi, w1, w2⟩ := scanOk_get d1
  have c2 : C_impl_RowPlan [.agg [.str d.fName, .imm (d.fCols.map TCol.row), .imm (d.fPrimary.map TBy.row), .imm (d.fIndexes.map TIndex.row)]] = some (.app 4 ((rowPlan d).map TPart.row)) := C_impl_RowPlan_eq d (n2 d hm)
  have c3 : C_impl_RowOk [.imm ((rowPlan d).map TPart.row), .imm (row.map TVal.row)] = some (.bool (rowOk (rowPlan d) row)) := C_impl_RowOk_eq _ _ ⟨rowPlan_len (n2 d hm), hrl⟩
  rw [inScan_of d1 hd]
  cases d2 : rowOk (rowPlan d) row
  · simp only [go_sem, Nat.reduceBEq, Nat.reduceAdd, Nat.reduceLeDiff, s_impl_InScan, TScan.row, h1, c1, d1, kIa_nth (row := TDef.row) (sz := 4) z1 hd rfl, TDef.row, h2, fr_h2, c2, h3, c3, d2, Bool.false_and]
  have hpl := planOf_len d c.fI
  have c4 : C_impl_planOf [.agg [.str d.fName, .imm (d.fCols.map TCol.row), .imm (d.fPrimary.map TBy.row), .imm (d.fIndexes.map TIndex.row)], .int .i64 c.fI] = some (.imm ((planOf d c.fI).map TPart.row)) := C_impl_planOf_eq d c.fI ⟨n2 d hm, hi⟩
  rw [Bool.true_and, ← inI_eq (pick_len _ _) w1 w2]
  generalize planOf d c.fI = plan at *
  have c5 : C_impl_Pick [.imm (plan.map TPart.row), .imm (row.map TVal.row)] = some (.app 3 ((pick plan row).map TVal.row)) := C_impl_Pick_eq plan row ⟨by omega, hrl⟩
  have hkl := pick_len plan row
  unfold inI
  generalize pick plan row = k at *
  have s1 : ∀ id, sIdxL 3 (.app id (k.map TVal.row)) none (some (.int .i64 c.fLo.length)) = some (.imm ((k.take c.fLo.length).map TVal.row)) := fun id => kSl_takeA (by omega) (fun _ => rfl) (by decide)
  have s2 : ∀ id, sIdxL 3 (.app id (k.map TVal.row)) none (some (.int .i64 c.fHi.length)) = some (.imm ((k.take c.fHi.length).map TVal.row)) := fun id => kSl_takeA (by omega) (fun _ => rfl) (by decide)
  have l1 : (k.take c.fLo.length).length ≤ 1048576 := by rw [List.length_take]; omega
  have l2 : (k.take c.fHi.length).length ≤ 1048576 := by rw [List.length_take]; omega
  generalize k.take c.fLo.length = a at *
  generalize k.take c.fHi.length = b at *
  have c6 : C_impl_LessKey [.imm (plan.map TPart.row), .imm (c.fLo.map TVal.row), .imm (a.map TVal.row)] = some (.bool (lessK plan 0 c.fLo a)) := C_impl_LessKey_eq plan c.fLo a ⟨by omega, m1, l1⟩
  have c7 : C_impl_LessKey [.imm (plan.map TPart.row), .imm (b.map TVal.row), .imm (c.fHi.map TVal.row)] = some (.bool (lessK plan 0 b c.fHi)) := C_impl_LessKey_eq plan b c.fHi ⟨by omega, l2, m2⟩
  have c8 : C_impl_SameRow [.imm (c.fLo.map TVal.row), .imm (a.map TVal.row)] = some (.bool (sameR c.fLo a)) := C_impl_SameRow_eq c.fLo a ⟨m1, l1⟩
  have c9 : C_impl_SameRow [.imm (b.map TVal.row), .imm (c.fHi.map TVal.row)] = some (.bool (sameR b c.fHi)) := C_impl_SameRow_eq b c.fHi ⟨l2, m2⟩
  have x0 : (decide ((0 : Int) < c.fLo.length) = false) ∨ (decide ((0 : Int) < c.fLo.length) = true ∧ lessK plan 0 c.fLo a = true) ∨ (decide ((0 : Int) < c.fLo.length) = true ∧ lessK plan 0 c.fLo a = false ∧ c.fLoEx = true) ∨ (decide ((0 : Int) < c.fLo.length) = true ∧ lessK plan 0 c.fLo a = false ∧ c.fLoEx = false ∧ sameR c.fLo a = false) ∨ (decide ((0 : Int) < c.fLo.length) = true ∧ lessK plan 0 c.fLo a = false ∧ c.fLoEx = false ∧ sameR c.fLo a = true) := by
    cases decide ((0 : Int) < c.fLo.length) <;> cases lessK plan 0 c.fLo a <;> cases c.fLoEx <;> cases sameR c.fLo a <;> simp
  have y0 : (((c.fHi.length : Int) == 0) = true) ∨ (((c.fHi.length : Int) == 0) = false ∧ lessK plan 0 b c.fHi = true) ∨ (((c.fHi.length : Int) == 0) = false ∧ lessK plan 0 b c.fHi = false ∧ c.fHiEx = true) ∨ (((c.fHi.length : Int) == 0) = false ∧ lessK plan 0 b c.fHi = false ∧ c.fHiEx = false) := by
    cases ((c.fHi.length : Int) == 0) <;> cases lessK plan 0 b c.fHi <;> cases c.fHiEx <;> simp
  rcases x0 with x | x | x | x | x
  all_goals rcases y0 with y | y | y | y
  all_goals try simp only [x] at c1
  all_goals try simp only [y] at c1
  all_goals simp only [go_sem, Nat.reduceBEq, Nat.reduceAdd, Nat.reduceLeDiff, s_impl_InScan, TScan.row, h1, c1, d1, kIa_nth (row := TDef.row) (sz := 4) z1 hd rfl, TDef.row, h2, fr_h2, c2, h3, c3, d2, h4, c4, h5, fr_h5, c5, s1, s2, h6, c6, h7, c7, c8, c9, x, y, Bool.true_and, Bool.false_and, Bool.and_false, Bool.true_or, Bool.or_true, Bool.or_false, Bool.false_or, Bool.not_true, Bool.not_false, Bool.false_and]
/-- Drawn tables and a scan, only looked at. -/
def OkP (v : AV) : Prop := ∃ (s : List TDef) (c : TScan), v = .tup [.imm (s.map TDef.row), .agg c.row] ∧ s.length ≤ 4 ∧ (∀ d ∈ s, okDef d) ∧ okScan 6 c
theorem run_spec_DrawScanOk (cs) (hT81 : (EE cs).T 81 = some C_spec_l2Num) (hT50 : (EE cs).T 50 = some C_spec_Pick) (hT31 : (EE cs).T 31 = some C_spec_l11Plan) (hT35 : (EE cs).T 35 = some C_spec_FirstBad) (code : List UInt8) (h : Hp) (hcode : code.length ≤ 1048576) : ∃ v h', RunF (EE cs) 7 [.imm (code.map u8T.row)] h (v, h') ∧ OkP v ∧ (∀ q, q < h.nx → h'.hp q = h.hp q) ∧ h.nx ≤ h'.nx := by
  have : ∃ rr, RunF (EE cs) 7 [.imm (code.map u8T.row)] h rr ∧ OkP rr.1 ∧ (∀ q, q < h.nx → rr.2.hp q = h.hp q) ∧ h.nx ≤ rr.2.nx := by
    refine run_wp (st_spec_DrawScanOk cs) ?_
    simp only [go_sem, Nat.reduceBEq, s_spec_DrawScanOk]
    obtain ⟨r, h1, k1, k2, k3, k4, k5, _⟩ := run_spec_l1New cs code _ hcode
    refine hP_call k1 ?_
    simp only [go_sem, Nat.reduceBEq]
    refine hP_drawZ (dr_spec_l22Defs cs hT81) (fun v h' hp => defs_frz hp) hcode k2 ?_
    rintro _ h2 ⟨s, rfl, hs1, hs2, ho, hd0⟩ c2
    simp only [go_sem, Nat.reduceBEq]
    refine hP_drawZ (dr_spec_l24Any cs hT50 hT31 hT35 s ⟨hs1, hs2⟩ ho) (R := ScanR) (fun v h' hp => hp.frz) hcode c2.cur ?_
    rintro _ h3 ⟨c, rfl, hoc⟩ c3
    have hcr : c.row = [.int .i64 c.fT, .int .i64 c.fI, .imm (c.fLo.map TVal.row), .imm (c.fHi.map TVal.row), .bool c.fLoEx, .bool c.fHiEx, .bool c.fRev, .int .i64 c.fLimit] := rfl
    have m0 : ¬ h.nx = r := by have : h.nx + 1 ≤ r := k3; omega
    have k4' : h.nx + 1 ≤ h1.nx := k4
    have c23 := c2.trans c3
    have p3 : h3.hp h.nx = some [.int .i64 0, .int .i64 0, .snil, .snil, .bool false, .bool false, .bool false, .int .i64 0] := (c23.hp h.nx (by omega) m0).trans ((k5 h.nx (by show h.nx < h.nx + 1; omega)).trans (by simp))
    simp only [go_sem, kSt_ptr, Nat.reduceBEq, Nat.reduceAdd, hcr, p3]
    have hn := c23.nx
    refine ⟨fun _ e => (by cases e), _, rfl, ⟨s, c, rfl, hs2, ho, hoc⟩, fun q hq => ?_, by show h.nx ≤ h3.nx; omega⟩
    have g : ¬ q = h.nx := by omega
    simp only [g, if_false]
    have k3' : h.nx + 1 ≤ r := k3
    exact (c23.hp q (by omega) (by omega)).trans ((k5 q (by show q < h.nx + 1; omega)).trans (by simp [g]))
  obtain ⟨⟨v, h'⟩, h1, h2⟩ := this
  exact ⟨v, h', h1, h2⟩
noncomputable def C_spec_l11There := c3 (sliceT tDef) intT intT (fun (s : List (TDef)) (t : Int) (i : Int) => (sliceT tDef).cost s ≤ 1048576) (.bool) fun (s : List (TDef)) (t : Int) (i : Int) => there s t i
theorem C_spec_l11There_eq (s : List (TDef)) (t : Int) (i : Int) (h : (sliceT tDef).cost s ≤ 1048576) : C_spec_l11There [.imm (s.map TDef.row), .int .i64 t, .int .i64 i] = some (.bool ((there s t i))) := c3_eq (sliceT tDef) intT intT h
theorem ok_spec_l11There {WI : World → Prop} (hs : Stable WI) (cs) (hT : TOK (EE cs) WI) (h1 : (EE cs).T 35 = some C_spec_FirstBad) (h2 : (EE cs).T 14 = some C_spec_l1In) : PureOK Tryz.prog WI 30 C_spec_l11There := by
  refine pure3 (E := EE cs) hT hs (by rw [st_spec_l11There]; rfl) fun s t i hp => out_wp (n := 0) (st_spec_l11There cs) ?_
  obtain ⟨n1, n2⟩ := defsLens hp
  have c1 := C_spec_FirstBad_eq s hp
  have hw : IntKind.wrap .i64 ((s.length : Int) - 1) = (s.length : Int) - 1 := wrapId (by omega) (by omega)
  cases d1 : (firstBad s == -1)
  · simp only [go_sem, Nat.reduceBEq, s_spec_l11There, h1, c1, d1, there]
  cases d2 : inR t 0 ((s.length : Int) - 1)
  · simp only [go_sem, Nat.reduceBEq, s_spec_l11There, h1, c1, d1, h2, C_spec_l1In_eq, hw, d2, there]
  obtain ⟨z1, z2⟩ := inR_nat d2
  obtain ⟨d, hd⟩ : ∃ d, s[t.toNat]? = some d := ⟨_, List.getElem?_eq_getElem z2⟩
  have n3 := (defLens (n2 d (List.mem_of_getElem? hd))).2.2.2.1
  have hw2 : IntKind.wrap .i64 ((d.fIndexes.length : Int) - 1) = (d.fIndexes.length : Int) - 1 := wrapId (by omega) (by omega)
  simp only [go_sem, Nat.reduceBEq, s_spec_l11There, h1, c1, d1, h2, C_spec_l1In_eq, hw, d2, kIa_nth (row := TDef.row) (sz := 4) z1 hd rfl, TDef.row, hw2, there, hd]
end Go.Proofs.YtfjkmpmjohojpaaGreatDoor.Ij
namespace Go.Proofs.YtfjkmpmjohojpaaGreatDoor.Ij
open Go Go.RowKit Go.Ev
set_option linter.unusedSimpArgs false
set_option linter.unusedVariables false
set_option maxHeartbeats 1600000
theorem ev_spec_ValOk (cs) (hT : (EE cs).T 14 = some C_spec_l1In) (v : TVal) : ∃ k n, out (EE cs) k n 79 [.agg v.row] = some (.bool (valOk v)) := by
  refine out_K (n := 0) (st_spec_ValOk cs) ?_
  by_cases h0 : v.fK = 0
  · by_cases hn : v.fN = 0
    · simp only [go_sem, Nat.reduceBEq, Nat.reduceAdd, Nat.reduceLeDiff, Int.reduceEq, s_spec_ValOk, TVal.row, h0, hn, valOk]
    · simp only [go_sem, Nat.reduceBEq, Nat.reduceAdd, Nat.reduceLeDiff, Int.reduceEq, s_spec_ValOk, TVal.row, h0, beqF hn, valOk]
  by_cases h1 : v.fK = 1
  · cases hn : inR v.fN (-2147483648) 2147483647
    · simp only [go_sem, Nat.reduceBEq, Nat.reduceAdd, Nat.reduceLeDiff, Int.reduceBEq, Int.reduceEq, s_spec_ValOk, TVal.row, h1, hn, valOk, hT, C_spec_l1In_eq]
    · simp only [go_sem, Nat.reduceBEq, Nat.reduceAdd, Nat.reduceLeDiff, Int.reduceBEq, Int.reduceEq, s_spec_ValOk, TVal.row, h1, hn, valOk, hT, C_spec_l1In_eq]
  by_cases h2 : v.fK = 2
  · cases hn : inR v.fN (-1000000000000000) 1000000000000000
    · simp only [go_sem, Nat.reduceBEq, Nat.reduceAdd, Nat.reduceLeDiff, Int.reduceBEq, Int.reduceEq, s_spec_ValOk, TVal.row, h2, hn, valOk, hT, C_spec_l1In_eq]
    · simp only [go_sem, Nat.reduceBEq, Nat.reduceAdd, Nat.reduceLeDiff, Int.reduceBEq, Int.reduceEq, s_spec_ValOk, TVal.row, h2, hn, valOk, hT, C_spec_l1In_eq]
  by_cases h3 : v.fK = 3
  · by_cases hn : (v.fS.length : Int) ≤ 30
    · simp only [go_sem, Nat.reduceBEq, Nat.reduceAdd, Nat.reduceLeDiff, Int.reduceBEq, Int.reduceEq, s_spec_ValOk, TVal.row, h3, hn, valOk]
    · simp only [go_sem, Nat.reduceBEq, Nat.reduceAdd, Nat.reduceLeDiff, Int.reduceBEq, Int.reduceEq, s_spec_ValOk, TVal.row, h3, hn, valOk]
  by_cases h4 : v.fK = 4
  · cases hn : inR v.fN 0 1
    · simp only [go_sem, Nat.reduceBEq, Nat.reduceAdd, Nat.reduceLeDiff, Int.reduceBEq, Int.reduceEq, s_spec_ValOk, TVal.row, h4, hn, valOk, hT, C_spec_l1In_eq]
    · simp only [go_sem, Nat.reduceBEq, Nat.reduceAdd, Nat.reduceLeDiff, Int.reduceBEq, Int.reduceEq, s_spec_ValOk, TVal.row, h4, hn, valOk, hT, C_spec_l1In_eq]
  simp only [go_sem, Nat.reduceBEq, s_spec_ValOk, TVal.row, h0, h1, h2, h3, h4, beqF h0, beqF h1, beqF h2, beqF h3, beqF h4, valOk]
noncomputable def C_spec_ValOk := ct (fun a : TVal => [.agg a.row]) (fun _ => True) .bool valOk
theorem C_spec_ValOk_eq (k n : Int) (s : List UInt8) : C_spec_ValOk [.agg [.int .i64 k, .int .i64 n, .str s]] = some (.bool (valOk ⟨k, n, s⟩)) := by
  unfold C_spec_ValOk
  exact ct_eq (a := (⟨k, n, s⟩ : TVal)) (fun a b h => by
    simp only [List.cons.injEq, AV.agg.injEq, and_true] at h
    exact TVal.inj _ _ h) trivial
theorem ok_spec_ValOk {WI} (hs : Stable WI) (cs) (hT : TOK (EE cs) WI) (h : (EE cs).T 14 = some C_spec_l1In) : PureOK Tryz.prog WI 79 C_spec_ValOk := pure_out hT hs (by rw [st_spec_ValOk]; rfl) fun a _ => ev_spec_ValOk cs h a
noncomputable def C_spec_Fits := c2 tPart tVal (fun (p : TPart) (v : TVal) => True) (.bool) fun (p : TPart) (v : TVal) => fitsV p v
theorem C_spec_Fits_eq (p : TPart) (v : TVal) (h : True) : C_spec_Fits [.agg [.int .i64 p.fCol, .int .i64 p.fType, .bool p.fNull, .bool p.fDesc], .agg [.int .i64 v.fK, .int .i64 v.fN, .str v.fS]] = some (.bool ((fitsV p v))) := c2_eq tPart tVal h
theorem ok_spec_Fits {WI : World → Prop} (hs : Stable WI) (cs) (hT : TOK (EE cs) WI) (h1 : (EE cs).T 79 = some C_spec_ValOk) : PureOK Tryz.prog WI 57 C_spec_Fits := by
  refine pure2 (E := EE cs) hT hs (by rw [st_spec_Fits]; rfl) fun p v hp => out_wp (n := 0) (st_spec_Fits cs) ?_
  have c1 : C_spec_ValOk [.agg [.int .i64 v.fK, .int .i64 v.fN, .str v.fS]] = some (.bool (valOk v)) := C_spec_ValOk_eq v.fK v.fN v.fS
  cases d1 : valOk v
  · simp only [go_sem, Nat.reduceBEq, Nat.reduceAdd, s_spec_Fits, TPart.row, TVal.row, h1, c1, d1, fitsV]
  cases d2 : (v.fK == p.fType) <;> cases d3 : (v.fK == 0) <;> cases d4 : p.fNull <;> simp only [go_sem, Nat.reduceBEq, Nat.reduceAdd, Nat.reduceLeDiff, s_spec_Fits, TPart.row, TVal.row, h1, c1, d1, d2, d3, d4, bne, fitsV, Bool.true_or, Bool.or_true]
noncomputable def C_spec_FitsAll := c2 (sliceT tPart) (sliceT tVal) (fun (l : List (TPart)) (vs : List (TVal)) => l.length ≤ 1048576 ∧ vs.length ≤ 1048576) (.bool) fun (l : List (TPart)) (vs : List (TVal)) => fitsAll l vs
theorem C_spec_FitsAll_eq (l : List (TPart)) (vs : List (TVal)) (h : l.length ≤ 1048576 ∧ vs.length ≤ 1048576) : C_spec_FitsAll [.imm (l.map TPart.row), .imm (vs.map TVal.row)] = some (.bool ((fitsAll l vs))) := c2_eq (sliceT tPart) (sliceT tVal) h
theorem ok_spec_FitsAll {WI : World → Prop} (hs : Stable WI) (cs) (hT : TOK (EE cs) WI) (h1 : (EE cs).T 57 = some C_spec_Fits) : PureOK Tryz.prog WI 32 C_spec_FitsAll := by
  refine pure2 (E := EE cs) hT hs (by rw [st_spec_FitsAll]; rfl) fun l vs hp => out_wp (n := 0) (st_spec_FitsAll cs) ?_
  obtain ⟨n1, n2⟩ := hp
  by_cases hlen : (l.length : Int) < (vs.length : Int)
  · have hd : decide (vs.length ≤ l.length) = false := decide_eq_false (by omega)
    simp only [go_sem, Nat.reduceBEq, s_spec_FitsAll, hlen, fitsAll, hd]
  have hd : decide (vs.length ≤ l.length) = true := decide_eq_true (by omega)
  simp only [go_sem, Nat.reduceBEq, s_spec_FitsAll, hlen]
  refine (wl_all (l := vs) (fun pre v => fitAt l pre v) (fun pre e h => e 0 = .imm (l.map TPart.row) ∧ e 1 = .imm (vs.map TVal.row) ∧ e 5 = .int .i64 pre.length) (.exit 0) (fun e h => e 0 = .imm (l.map TPart.row) ∧ e 1 = .imm (vs.map TVal.row)) (fun e h => e 4 = .bool false) (by omega) ?_ ?_ ?_ (by simp) vs [] _ _ rfl ?_).mono ?_
  · rintro pre v rest e h a hp ⟨q0, q1, ix⟩
    obtain ⟨p, hpp⟩ : ∃ p, l[pre.length]? = some p := ⟨_, List.getElem?_eq_getElem (by have := a.lt; omega)⟩
    have hpp' : l[((pre.length : Int)).toNat]? = some p := by simpa using hpp
    have hc : C_spec_Fits [.agg [.int .i64 p.fCol, .int .i64 p.fType, .bool p.fNull, .bool p.fDesc], .agg [.int .i64 v.fK, .int .i64 v.fN, .str v.fS]] = some (.bool (fitsV p v)) := C_spec_Fits_eq p v trivial
    rw [fitAt_some hpp] at hp
    simp only [go_sem, Nat.reduceBEq, Nat.reduceAdd, s_spec_FitsAll_L0, q0, q1, ix, a.dl, a.ia (row := TVal.row) (sz := 3) rfl, hp, a.hw, kIa_nth (row := TPart.row) (sz := 4) (by omega) hpp' rfl, TPart.row, TVal.row, h1, hc]
  · rintro pre v rest e h a hp ⟨q0, q1, ix⟩
    obtain ⟨p, hpp⟩ : ∃ p, l[pre.length]? = some p := ⟨_, List.getElem?_eq_getElem (by have := a.lt; omega)⟩
    have hpp' : l[((pre.length : Int)).toNat]? = some p := by simpa using hpp
    have hc : C_spec_Fits [.agg [.int .i64 p.fCol, .int .i64 p.fType, .bool p.fNull, .bool p.fDesc], .agg [.int .i64 v.fK, .int .i64 v.fN, .str v.fS]] = some (.bool (fitsV p v)) := C_spec_Fits_eq p v trivial
    rw [fitAt_some hpp] at hp
    simp only [go_sem, Nat.reduceBEq, Nat.reduceAdd, s_spec_FitsAll_L0, q0, q1, ix, a.dl, a.ia (row := TVal.row) (sz := 3) rfl, hp, a.hw, kIa_nth (row := TPart.row) (sz := 4) (by omega) hpp' rfl, TPart.row, TVal.row, h1, hc]
  · rintro e h ⟨q0, q1, ix⟩
    simp only [go_sem, Nat.reduceBEq, s_spec_FitsAll_L0, q0, q1, ix]
  · simp only [go_sem, Nat.reduceBEq, and_self]
  · rintro x e h (⟨hp, rfl, j0, j1⟩ | ⟨hp, rfl, j⟩)
    · simp only [go_sem, fitsAll, hd, hp]
    · simp only [go_sem, j, fitsAll, hd, hp]
noncomputable def C_spec_ScanOk := c2 (sliceT tDef) tScan (fun (s : List (TDef)) (c : TScan) => (sliceT tDef).good s ∧ tScan.good c) (.bool) fun (s : List (TDef)) (c : TScan) => scanOk s c
theorem C_spec_ScanOk_eq (s : List (TDef)) (c : TScan) (h : (sliceT tDef).good s ∧ tScan.good c) : C_spec_ScanOk [.imm (s.map TDef.row), .agg [.int .i64 c.fT, .int .i64 c.fI, .imm (c.fLo.map TVal.row), .imm (c.fHi.map TVal.row), .bool c.fLoEx, .bool c.fHiEx, .bool c.fRev, .int .i64 c.fLimit]] = some (.bool ((scanOk s c))) := c2_eq (sliceT tDef) tScan h
theorem ok_spec_ScanOk {WI : World → Prop} (hs : Stable WI) (cs) (hT : TOK (EE cs) WI) (h1 : (EE cs).T 30 = some C_spec_l11There) (h2 : (EE cs).T 14 = some C_spec_l1In) (h3 : (EE cs).T 31 = some C_spec_l11Plan) (h4 : (EE cs).T 32 = some C_spec_FitsAll) : PureOK Tryz.prog WI 10 C_spec_ScanOk := by
  refine pure2 (E := EE cs) hT hs (by rw [st_spec_ScanOk]; rfl) fun s c hp => out_wp (n := 0) (st_spec_ScanOk cs) ?_
  obtain ⟨⟨hs, _⟩, hc, _⟩ := hp
  obtain ⟨n1, n2⟩ := defsLens hs
  obtain ⟨m1, m2⟩ := scanLens hc
  have c1 : C_spec_l11There [.imm (s.map TDef.row), .int .i64 c.fT, .int .i64 c.fI] = some (.bool (there s c.fT c.fI)) := C_spec_l11There_eq s c.fT c.fI hs
  cases d1 : there s c.fT c.fI
  · simp only [go_sem, Nat.reduceBEq, Nat.reduceAdd, Nat.reduceLeDiff, s_spec_ScanOk, TScan.row, h1, c1, d1, scanOk]
  cases d2 : inR c.fLimit 0 100
  · simp only [go_sem, Nat.reduceBEq, Nat.reduceAdd, Nat.reduceLeDiff, s_spec_ScanOk, TScan.row, h1, c1, d1, h2, C_spec_l1In_eq, d2, scanOk]
  obtain ⟨d, hd, z1, hm, _, _, _⟩ := there_get d1
  have c3 : C_spec_l11Plan [.agg [.str d.fName, .imm (d.fCols.map TCol.row), .imm (d.fPrimary.map TBy.row), .imm (d.fIndexes.map TIndex.row)], .int .i64 c.fI] = some (.imm ((planOf d c.fI).map TPart.row)) := C_spec_l11Plan_eq d c.fI (n2 d hm)
  have hl := planOf_len d c.fI
  have c4 : ∀ vs : List TVal, vs.length ≤ 1048576 → C_spec_FitsAll [.imm ((planOf d c.fI).map TPart.row), .imm (vs.map TVal.row)] = some (.bool (fitsAll (planOf d c.fI) vs)) := fun vs hv => C_spec_FitsAll_eq _ vs ⟨by omega, hv⟩
  cases d3 : fitsAll (planOf d c.fI) c.fLo
  · simp only [go_sem, Nat.reduceBEq, Nat.reduceAdd, Nat.reduceLeDiff, s_spec_ScanOk, TScan.row, h1, c1, d1, h2, C_spec_l1In_eq, d2, kIa_nth (row := TDef.row) (sz := 4) z1 hd rfl, TDef.row, h3, c3, h4, c4 c.fLo m1, d3, scanOk, hd]
  · simp only [go_sem, Nat.reduceBEq, Nat.reduceAdd, Nat.reduceLeDiff, s_spec_ScanOk, TScan.row, h1, c1, d1, h2, C_spec_l1In_eq, d2, kIa_nth (row := TDef.row) (sz := 4) z1 hd rfl, TDef.row, h3, c3, h4, c4 c.fLo m1, c4 c.fHi m2, d3, scanOk, hd]
noncomputable def C_spec_RowPlan := c1 tDef (fun (v : TDef) => tDef.cost v ≤ 1048576) (fun x => .app 4 (x.map TPart.row)) fun (v : TDef) => rowPlan v
theorem C_spec_RowPlan_eq (v : TDef) (h : tDef.cost v ≤ 1048576) : C_spec_RowPlan [.agg [.str v.fName, .imm (v.fCols.map TCol.row), .imm (v.fPrimary.map TBy.row), .imm (v.fIndexes.map TIndex.row)]] = some (.app 4 ((rowPlan v).map TPart.row)) := c1_eq tDef h
theorem ok_spec_RowPlan {WI : World → Prop} (hs : Stable WI) (cs) (hT : TOK (EE cs) WI) (h1 : (EE cs).T 48 = some C_spec_CheckDef) (h2 : (EE cs).T 49 = some C_spec_l11Part) : FreshOK Tryz.prog WI 25 C_spec_RowPlan := by
  refine pure1F (E := EE cs) hT hs (by rw [st_spec_RowPlan]; rfl) fun v hp => outF_wp (sz := 4) (st_spec_RowPlan cs) ?_
  obtain ⟨n1, n2, n3, n4, n5, n6⟩ := defLens hp
  have hf0 : frzRows [] = some [] := rfl
  have c1 : C_spec_CheckDef [.agg [.str v.fName, .imm (v.fCols.map TCol.row), .imm (v.fPrimary.map TBy.row), .imm (v.fIndexes.map TIndex.row)]] = some (.int .i64 (checkDef v)) := C_spec_CheckDef_eq v hp
  simp only [go_sem, Nat.reduceBEq, Nat.reduceAdd, s_spec_RowPlan, TDef.row, fillR, List.replicate, hf0]
  by_cases d : checkDef v = 0
  · have hrp : rowPlan v = mapP rowP [] v.fCols := by unfold rowPlan; rw [if_pos d]
    rw [hrp]
    refine (wl_for (l := v.fCols) (fun pre e h => e 1 = .ptr 0 0 ∧ h.hp 0 = some v.row ∧ 0 < h.nx ∧ grows tPart (mapP rowP [] pre) (e 3) h ∧ e 4 = .int .i64 pre.length) (.exit 0) (fun e h => grows tPart (mapP rowP [] v.fCols) (e 3) h) (by omega) ?_ ?_ (by simp) v.fCols [] _ _ rfl ?_).mono ?_
    · rintro pre p rest e h a ⟨q0, q1, q2, q3, ix⟩
      have hlen : (mapP rowP [] pre).length ≤ 1048576 := by rw [mapP_len]; have := a.lt; omega
      have hlt := a.lt
      have hpt : C_spec_l11Part [.agg [.str v.fName, .imm (v.fCols.map TCol.row), .imm (v.fPrimary.map TBy.row), .imm (v.fIndexes.map TIndex.row)], .int .i64 pre.length, .bool false] = some (.agg (partOf v pre.length false).row) := C_spec_l11Part_eq v pre.length false ⟨by omega, by simpa using hlt⟩
      have hpo : partOf v pre.length false = rowP pre p := by unfold partOf; rw [a.hl]; simp [rowP]
      have hsn := mapP_nil rowP pre p
      rw [hpo] at hpt
      simp only [go_sem, Nat.reduceBEq, Nat.reduceAdd, Nat.reduceLeDiff, s_spec_RowPlan_L0, q0, q1, q2, ix, a.dl, TDef.row, h1, c1, d, h2, hpt, partFillR, partFrz]
      refine hP_grow [rowP pre p] rfl (q3.mono (by simp <;> omega) (fun r hr => by simp <;> omega)) rfl (by simp only [List.length_cons, List.length_nil]; unfold room; omega) ?_
      intro v' h' g1 g2 g3 _
      have g3' : 0 < h'.nx := by simp at g3; omega
      simp only [go_sem, Nat.reduceBEq, q0, q1, ix, g2, g3', TDef.row, a.hw, hsn, g1]
    · rintro e h ⟨q0, q1, q2, q3, ix⟩
      simp only [go_sem, Nat.reduceBEq, Nat.reduceAdd, Nat.reduceLeDiff, s_spec_RowPlan_L0, q0, q1, q3, ix, TDef.row]
    · exact ⟨rfl, rfl, Nat.succ_pos _, .inr ⟨1, rfl, rfl, Nat.lt_succ_self 1⟩, rfl⟩
    · rintro x e h ⟨rfl, j⟩
      simp only [go_sem, Nat.reduceBEq]
      exact frR_grows j rfl
  · have hrp : rowPlan v = [] := by unfold rowPlan; rw [if_neg d]
    rw [hrp]
    refine .step (wp_sound _ _ _ _ ?_)
    cases hd : decide ((0 : Int) < v.fCols.length)
    · simp only [go_sem, Nat.reduceBEq, Nat.reduceAdd, Nat.reduceLeDiff, s_spec_RowPlan_L0, hd]
      exact frR_grows (T := tPart) (l := []) (.inr ⟨1, rfl, rfl, Nat.lt_succ_self 1⟩) rfl
    · simp only [go_sem, Nat.reduceBEq, Nat.reduceAdd, Nat.reduceLeDiff, s_spec_RowPlan_L0, hd, h1, c1, beqF d]
      exact frR_grows (T := tPart) (l := []) (.inr ⟨1, rfl, rfl, Nat.lt_succ_self 1⟩) rfl
noncomputable def C_spec_PartOk := c1 tPart (fun (p : TPart) => True) (.bool) fun (p : TPart) => partOk p
theorem C_spec_PartOk_eq (p : TPart) (h : True) : C_spec_PartOk [.agg [.int .i64 p.fCol, .int .i64 p.fType, .bool p.fNull, .bool p.fDesc]] = some (.bool ((partOk p))) := c1_eq tPart h
theorem ok_spec_PartOk {WI : World → Prop} (hs : Stable WI) (cs) (hT : TOK (EE cs) WI) (h1 : (EE cs).T 14 = some C_spec_l1In) : PureOK Tryz.prog WI 70 C_spec_PartOk := by
  refine pure1 (E := EE cs) hT hs (by rw [st_spec_PartOk]; rfl) fun p hp => out_wp (n := 0) (st_spec_PartOk cs) ?_
  cases d : inR p.fCol 0 9
  · simp only [go_sem, Nat.reduceBEq, s_spec_PartOk, TPart.row, h1, C_spec_l1In_eq, d, partOk]
  · simp only [go_sem, Nat.reduceBEq, Nat.reduceAdd, Nat.reduceLeDiff, s_spec_PartOk, TPart.row, h1, C_spec_l1In_eq, d, partOk]
noncomputable def C_spec_PlanOk := c1 (sliceT tPart) (fun (l : List (TPart)) => l.length ≤ 1048576) (.bool) fun (l : List (TPart)) => planOk l
theorem C_spec_PlanOk_eq (l : List (TPart)) (h : l.length ≤ 1048576) : C_spec_PlanOk [.imm (l.map TPart.row)] = some (.bool ((planOk l))) := c1_eq (sliceT tPart) h
theorem ok_spec_PlanOk {WI : World → Prop} (hs : Stable WI) (cs) (hT : TOK (EE cs) WI) (h1 : (EE cs).T 70 = some C_spec_PartOk) : PureOK Tryz.prog WI 47 C_spec_PlanOk := by
  refine pure1 (E := EE cs) hT hs (by rw [st_spec_PlanOk]; rfl) fun l hp => out_wp (n := 0) (st_spec_PlanOk cs) ?_
  simp only [go_sem, s_spec_PlanOk]
  refine (wl_all (l := l) (fun pre p => partOk p) (fun pre e h => e 0 = .imm (l.map TPart.row) ∧ e 3 = .int .i64 pre.length) (.exit 0) (fun e h => e 0 = .imm (l.map TPart.row)) (fun e h => e 2 = .bool false) (by omega) ?_ ?_ ?_ (by simp) l [] _ _ rfl ?_).mono ?_
  · rintro pre p rest e h a hp ⟨q0, ix⟩
    have hc : C_spec_PartOk [.agg [.int .i64 p.fCol, .int .i64 p.fType, .bool p.fNull, .bool p.fDesc]] = some (.bool (partOk p)) := C_spec_PartOk_eq p trivial
    simp only [go_sem, Nat.reduceBEq, Nat.reduceAdd, s_spec_PlanOk_L0, q0, ix, a.dl, a.ia (row := TPart.row) (sz := 4) rfl, hp, a.hw, TPart.row, h1, hc]
  · rintro pre p rest e h a hp ⟨q0, ix⟩
    have hc : C_spec_PartOk [.agg [.int .i64 p.fCol, .int .i64 p.fType, .bool p.fNull, .bool p.fDesc]] = some (.bool (partOk p)) := C_spec_PartOk_eq p trivial
    simp only [go_sem, Nat.reduceBEq, Nat.reduceAdd, s_spec_PlanOk_L0, q0, ix, a.dl, a.ia (row := TPart.row) (sz := 4) rfl, hp, a.hw, TPart.row, h1, hc]
  · rintro e h ⟨q0, ix⟩
    simp only [go_sem, Nat.reduceBEq, s_spec_PlanOk_L0, q0, ix]
  · simp only [go_sem, Nat.reduceBEq, and_self]
  · rintro x e h (⟨hp, rfl, j0⟩ | ⟨hp, rfl, j⟩)
    · rw [allP_all] at hp
      simp only [go_sem, Nat.reduceBEq, j0, planOk, hp]
    · rw [allP_all] at hp
      simp only [go_sem, j, planOk, hp]
noncomputable def C_spec_RowOk := c2 (sliceT tPart) (sliceT tVal) (fun (l : List (TPart)) (r : List (TVal)) => l.length ≤ 1048576 ∧ r.length ≤ 1048576) (.bool) fun (l : List (TPart)) (r : List (TVal)) => rowOk l r
theorem C_spec_RowOk_eq (l : List (TPart)) (r : List (TVal)) (h : l.length ≤ 1048576 ∧ r.length ≤ 1048576) : C_spec_RowOk [.imm (l.map TPart.row), .imm (r.map TVal.row)] = some (.bool ((rowOk l r))) := c2_eq (sliceT tPart) (sliceT tVal) h
theorem ok_spec_RowOk {WI : World → Prop} (hs : Stable WI) (cs) (hT : TOK (EE cs) WI) (h1 : (EE cs).T 47 = some C_spec_PlanOk) (h2 : (EE cs).T 32 = some C_spec_FitsAll) : PureOK Tryz.prog WI 24 C_spec_RowOk := by
  refine pure2 (E := EE cs) hT hs (by rw [st_spec_RowOk]; rfl) fun l r hp => out_wp (n := 0) (st_spec_RowOk cs) ?_
  have c1 := C_spec_PlanOk_eq l hp.1
  have c2 := C_spec_FitsAll_eq l r hp
  cases d1 : planOk l
  · simp only [go_sem, Nat.reduceBEq, s_spec_RowOk, h1, c1, d1, rowOk]
  cases d2 : ((r.length : Int) == (l.length : Int))
  · simp only [go_sem, Nat.reduceBEq, s_spec_RowOk, h1, c1, d1, d2, rowOk]
  · simp only [go_sem, Nat.reduceBEq, s_spec_RowOk, h1, c1, d1, d2, h2, c2, rowOk]
end Go.Proofs.YtfjkmpmjohojpaaGreatDoor.Ij
namespace Go.Proofs.YtfjkmpmjohojpaaGreatDoor.Ij
open Go Go.RowKit Go.Ev
set_option linter.unusedSimpArgs false
set_option linter.unusedVariables false
set_option maxHeartbeats 1600000
noncomputable def C_spec_SameRow := c2 (sliceT tVal) (sliceT tVal) (fun (u : List (TVal)) (t : List (TVal)) => u.length ≤ 1048576 ∧ t.length ≤ 1048576) (.bool) fun (u : List (TVal)) (t : List (TVal)) => sameR u t
theorem C_spec_SameRow_eq (u : List (TVal)) (t : List (TVal)) (h : u.length ≤ 1048576 ∧ t.length ≤ 1048576) : C_spec_SameRow [.imm (u.map TVal.row), .imm (t.map TVal.row)] = some (.bool ((sameR u t))) := c2_eq (sliceT tVal) (sliceT tVal) h
theorem ok_spec_SameRow {WI : World → Prop} (hs : Stable WI) (cs) (hT : TOK (EE cs) WI) : PureOK Tryz.prog WI 51 C_spec_SameRow := by
  refine pure2 (E := EE cs) hT hs (by rw [st_spec_SameRow]; rfl) fun u t hp => out_wp (n := 0) (st_spec_SameRow cs) ?_
  obtain ⟨n1, n2⟩ := hp
  by_cases hlen : (u.length : Int) = (t.length : Int)
  · have hq := sameR_all u [] t [] (by omega) rfl
    rw [List.nil_append] at hq
    simp only [go_sem, Nat.reduceBEq, s_spec_SameRow, hlen]
    refine (wl_all (l := u) (fun pre v => sameAt t pre v) (fun pre e h => e 0 = .imm (u.map TVal.row) ∧ e 1 = .imm (t.map TVal.row) ∧ e 5 = .int .i64 pre.length) (.exit 0) (fun e h => e 0 = .imm (u.map TVal.row) ∧ e 1 = .imm (t.map TVal.row)) (fun e h => e 4 = .bool false) (by omega) ?_ ?_ ?_ (by simp) u [] _ _ rfl ?_).mono ?_
    · rintro pre v rest e h a hp ⟨q0, q1, ix⟩
      obtain ⟨w, hw⟩ : ∃ w, t[pre.length]? = some w := ⟨_, List.getElem?_eq_getElem (by have := a.lt; omega)⟩
      have hw' : t[((pre.length : Int)).toNat]? = some w := by simpa using hw
      rw [sameAt_some hw] at hp
      simp only [go_sem, Nat.reduceBEq, Nat.reduceAdd, s_spec_SameRow_L0, q0, q1, ix, a.dl, a.ia (row := TVal.row) (sz := 3) rfl, hp, a.hw, TVal.row, kIa_nth (row := TVal.row) (sz := 3) (by omega) hw' rfl, cmpNeq]
    · rintro pre v rest e h a hp ⟨q0, q1, ix⟩
      obtain ⟨w, hw⟩ : ∃ w, t[pre.length]? = some w := ⟨_, List.getElem?_eq_getElem (by have := a.lt; omega)⟩
      have hw' : t[((pre.length : Int)).toNat]? = some w := by simpa using hw
      rw [sameAt_some hw] at hp
      simp only [go_sem, Nat.reduceBEq, Nat.reduceAdd, s_spec_SameRow_L0, q0, q1, ix, a.dl, a.ia (row := TVal.row) (sz := 3) rfl, hp, a.hw, TVal.row, kIa_nth (row := TVal.row) (sz := 3) (by omega) hw' rfl, cmpNeq]
    · rintro e h ⟨q0, q1, ix⟩
      simp only [go_sem, Nat.reduceBEq, s_spec_SameRow_L0, q0, q1, ix]
    · simp only [go_sem, Nat.reduceBEq, and_self]
    · rintro x e h (⟨hp, rfl, j⟩ | ⟨hp, rfl, j⟩)
      · simp only [go_sem, hq, hp]
      · simp only [go_sem, j, hq, hp]
  · have hq : sameR u t = false := sameR_len (by omega)
    simp only [go_sem, Nat.reduceBEq, s_spec_SameRow, bneT hlen, hq]
noncomputable def C_spec_SameVal := c2 tVal tVal (fun (a : TVal) (b : TVal) => True) (.bool) fun (a : TVal) (b : TVal) => sameV a b
theorem C_spec_SameVal_eq (a : TVal) (b : TVal) (h : True) : C_spec_SameVal [.agg [.int .i64 a.fK, .int .i64 a.fN, .str a.fS], .agg [.int .i64 b.fK, .int .i64 b.fN, .str b.fS]] = some (.bool ((sameV a b))) := c2_eq tVal tVal h
theorem ok_spec_SameVal {WI : World → Prop} (hs : Stable WI) (cs) (hT : TOK (EE cs) WI) : PureOK Tryz.prog WI 75 C_spec_SameVal := by
  refine pure2 (E := EE cs) hT hs (by rw [st_spec_SameVal]; rfl) fun a b hp => out_wp (n := 0) (st_spec_SameVal cs) ?_
  simp only [go_sem, Nat.reduceBEq, Nat.reduceAdd, s_spec_SameVal, TVal.row, cmpEql]
noncomputable def C_spec_LessVal := c2 tVal tVal (fun (a : TVal) (b : TVal) => True) (.bool) fun (a : TVal) (b : TVal) => lessV a b
theorem C_spec_LessVal_eq (a : TVal) (b : TVal) (h : True) : C_spec_LessVal [.agg [.int .i64 a.fK, .int .i64 a.fN, .str a.fS], .agg [.int .i64 b.fK, .int .i64 b.fN, .str b.fS]] = some (.bool ((lessV a b))) := c2_eq tVal tVal h
theorem ok_spec_LessVal {WI : World → Prop} (hs : Stable WI) (cs) (hT : TOK (EE cs) WI) : PureOK Tryz.prog WI 87 C_spec_LessVal := by
  refine pure2 (E := EE cs) hT hs (by rw [st_spec_LessVal]; rfl) fun a b hp => out_wp (n := 0) (st_spec_LessVal cs) ?_
  cases d1 : (a.fK == b.fK)
  · simp only [go_sem, Nat.reduceBEq, Nat.reduceAdd, Nat.reduceLeDiff, s_spec_LessVal, TVal.row, bne, d1, lessV]
  cases d2 : (a.fN == b.fN)
  · simp only [go_sem, Nat.reduceBEq, Nat.reduceAdd, Nat.reduceLeDiff, s_spec_LessVal, TVal.row, bne, d1, d2, lessV]
  · simp only [go_sem, Nat.reduceBEq, Nat.reduceAdd, Nat.reduceLeDiff, s_spec_LessVal, TVal.row, bne, d1, d2, lessV]
noncomputable def C_spec_LessPart := c3 tPart tVal tVal (fun (p : TPart) (a : TVal) (b : TVal) => True) (.bool) fun (p : TPart) (a : TVal) (b : TVal) => lessP p a b
theorem C_spec_LessPart_eq (p : TPart) (a : TVal) (b : TVal) (h : True) : C_spec_LessPart [.agg [.int .i64 p.fCol, .int .i64 p.fType, .bool p.fNull, .bool p.fDesc], .agg [.int .i64 a.fK, .int .i64 a.fN, .str a.fS], .agg [.int .i64 b.fK, .int .i64 b.fN, .str b.fS]] = some (.bool ((lessP p a b))) := c3_eq tPart tVal tVal h
theorem ok_spec_LessPart {WI : World → Prop} (hs : Stable WI) (cs) (hT : TOK (EE cs) WI) (h1 : (EE cs).T 87 = some C_spec_LessVal) : PureOK Tryz.prog WI 76 C_spec_LessPart := by
  refine pure3 (E := EE cs) hT hs (by rw [st_spec_LessPart]; rfl) fun p a b hp => out_wp (n := 0) (st_spec_LessPart cs) ?_
  have c1 : ∀ a b : TVal, C_spec_LessVal [.agg [.int .i64 a.fK, .int .i64 a.fN, .str a.fS], .agg [.int .i64 b.fK, .int .i64 b.fN, .str b.fS]] = some (.bool (lessV a b)) := fun a b => C_spec_LessVal_eq a b trivial
  cases d : p.fDesc
  · simp only [go_sem, Nat.reduceBEq, Nat.reduceAdd, Nat.reduceEqDiff, Nat.reduceLeDiff, s_spec_LessPart, TVal.row, TPart.row, d, h1, c1, lessP]
  · simp only [go_sem, Nat.reduceBEq, Nat.reduceAdd, Nat.reduceEqDiff, Nat.reduceLeDiff, s_spec_LessPart, TVal.row, TPart.row, d, h1, c1, lessP]
theorem L_spec_LessKey (cs) (h1 : (EE cs).T 76 = some C_spec_LessPart) (h2 : (EE cs).T 75 = some C_spec_SameVal) (l : List TPart) (s t : List TVal) (n0 : l.length ≤ 1048576) (n1 : s.length ≤ 1048576) (n2 : t.length ≤ 1048576) : ∀ (rs ps rt pt : List TVal) (e : Ps) (h : Hp), s = ps ++ rs → t = pt ++ rt → ps.length = pt.length → e 0 = .imm (l.map TPart.row) → e 1 = .imm (s.map TVal.row) → e 2 = .imm (t.map TVal.row) → e 7 = .int .i64 ps.length →
    WL (EE cs) s_spec_LessKey_L0 e h fun x e' _ => (x = .exit 0 ∧ e' 1 = .imm (s.map TVal.row) ∧ e' 2 = .imm (t.map TVal.row) ∧ lessK l ps.length rs rt = decide ((s.length : Int) < (t.length : Int))) ∨ (x = .ret ∧ e' 6 = .bool (lessK l ps.length rs rt))
  | [], ps, [], pt, e, h, hs, ht, hp, k0, k1, k2, k7 => by
    have d1 : decide ((ps.length : Int) < (s.length : Int)) = false := decide_eq_false (by rw [hs]; simp)
    have d3 : decide ((s.length : Int) < (t.length : Int)) = false := decide_eq_false (by rw [hs, ht]; simp; omega)
    refine .step (wp_sound _ _ _ _ ?_)
    simp only [go_sem, Nat.reduceBEq, s_spec_LessKey_L0, k1, k2, k7, d1, d3, lessK, reduceCtorEq, false_and, true_or]
  | [], ps, w :: rt, pt, e, h, hs, ht, hp, k0, k1, k2, k7 => by
    have d1 : decide ((ps.length : Int) < (s.length : Int)) = false := decide_eq_false (by rw [hs]; simp)
    have d3 : decide ((s.length : Int) < (t.length : Int)) = true := decide_eq_true (by rw [hs, ht]; simp; omega)
    refine .step (wp_sound _ _ _ _ ?_)
    simp only [go_sem, Nat.reduceBEq, s_spec_LessKey_L0, k1, k2, k7, d1, d3, lessK, reduceCtorEq, false_and, true_or]
  | v :: rs, ps, [], pt, e, h, hs, ht, hp, k0, k1, k2, k7 => by
    have d1 : decide ((ps.length : Int) < (s.length : Int)) = true := decide_eq_true (by rw [hs]; simp; omega)
    have d2 : decide ((ps.length : Int) < (t.length : Int)) = false := decide_eq_false (by rw [ht]; simp; omega)
    have d3 : decide ((s.length : Int) < (t.length : Int)) = false := decide_eq_false (by rw [hs, ht]; simp; omega)
    refine .step (wp_sound _ _ _ _ ?_)
    simp only [go_sem, Nat.reduceBEq, s_spec_LessKey_L0, k1, k2, k7, d1, d2, d3, lessK, reduceCtorEq, false_and, true_or]
  | v :: rs, ps, w :: rt, pt, e, h, hs, ht, hp, k0, k1, k2, k7 => by
    have a1 := at_of (by omega) hs
    have a2 := at_of (by omega) ht
    have d1 := a1.dl
    have d2 : decide ((ps.length : Int) < (t.length : Int)) = true := by rw [hp]; exact a2.dl
    have i1 := fun h => a1.ia (row := TVal.row) (sz := 3) rfl h
    have i2 : ∀ h, kIa 3 (.imm (t.map TVal.row)) (.int .i64 ps.length) h = some (.cptr w.row, h) := fun h => by rw [hp]; exact a2.ia (row := TVal.row) (sz := 3) rfl h
    have hsv : C_spec_SameVal [.agg [.int .i64 v.fK, .int .i64 v.fN, .str v.fS], .agg [.int .i64 w.fK, .int .i64 w.fN, .str w.fS]] = some (.bool (sameV v w)) := C_spec_SameVal_eq v w trivial
    cases hv : sameV v w
    · have hl : lessK l ps.length (v :: rs) (w :: rt) = lessAt l ps.length v w := by simp only [lessK, hv, Bool.false_eq_true, if_false]
      rw [hl]
      cases hg : l[ps.length]? with
      | none =>
        have d3 : decide ((ps.length : Int) < (l.length : Int)) = false := decide_eq_false (by have := List.getElem?_eq_none_iff.1 hg; omega)
        refine .step (wp_sound _ _ _ _ ?_)
        simp only [go_sem, Nat.reduceBEq, Nat.reduceAdd, s_spec_LessKey_L0, k0, k1, k2, k7, d1, d2, i1, i2, TVal.row, h2, hsv, hv, d3, lessAt, hg, reduceCtorEq, false_and, false_or]
      | some p =>
        have hlt := (List.getElem?_eq_some_iff.1 hg).1
        have d3 : decide ((ps.length : Int) < (l.length : Int)) = true := decide_eq_true (by omega)
        have hg' : l[((ps.length : Int)).toNat]? = some p := by simpa using hg
        have hc : C_spec_LessPart [.agg [.int .i64 p.fCol, .int .i64 p.fType, .bool p.fNull, .bool p.fDesc], .agg [.int .i64 v.fK, .int .i64 v.fN, .str v.fS], .agg [.int .i64 w.fK, .int .i64 w.fN, .str w.fS]] = some (.bool (lessP p v w)) := C_spec_LessPart_eq p v w trivial
        refine .step (wp_sound _ _ _ _ ?_)
        simp only [go_sem, Nat.reduceBEq, Nat.reduceAdd, s_spec_LessKey_L0, k0, k1, k2, k7, d1, d2, i1, i2, TVal.row, TPart.row, h2, hsv, hv, d3, kIa_nth (row := TPart.row) (sz := 4) (by omega) hg' rfl, h1, hc, lessAt, hg, reduceCtorEq, false_and, false_or]
    · have hl : lessK l ps.length (v :: rs) (w :: rt) = lessK l (ps ++ [v]).length rs rt := by simp only [lessK, hv, if_true, List.length_append, List.length_cons, List.length_nil]
      rw [hl]
      refine .step (.mono (wp_sound _ _ _ (fun x e1 _ => x = .norm ∧ e1 0 = .imm (l.map TPart.row) ∧ e1 1 = .imm (s.map TVal.row) ∧ e1 2 = .imm (t.map TVal.row) ∧ e1 7 = .int .i64 (ps ++ [v]).length) ?_) ?_)
      · simp only [go_sem, Nat.reduceBEq, Nat.reduceAdd, s_spec_LessKey_L0, k0, k1, k2, k7, d1, d2, i1, i2, TVal.row, h2, hsv, hv, a1.hw]
      · rintro _ e1 h1' ⟨rfl, q0, q1, q2, q7⟩
        exact L_spec_LessKey cs h1 h2 l s t n0 n1 n2 rs (ps ++ [v]) rt (pt ++ [w]) e1 h1' (by rw [hs]; simp) (by rw [ht]; simp) (by simp [hp]) q0 q1 q2 q7
noncomputable def C_spec_LessKey := c3 (sliceT tPart) (sliceT tVal) (sliceT tVal) (fun (l : List (TPart)) (s : List (TVal)) (t : List (TVal)) => l.length ≤ 1048576 ∧ s.length ≤ 1048576 ∧ t.length ≤ 1048576) (.bool) fun (l : List (TPart)) (s : List (TVal)) (t : List (TVal)) => lessK l 0 s t
theorem C_spec_LessKey_eq (l : List (TPart)) (s : List (TVal)) (t : List (TVal)) (h : l.length ≤ 1048576 ∧ s.length ≤ 1048576 ∧ t.length ≤ 1048576) : C_spec_LessKey [.imm (l.map TPart.row), .imm (s.map TVal.row), .imm (t.map TVal.row)] = some (.bool ((lessK l 0 s t))) := c3_eq (sliceT tPart) (sliceT tVal) (sliceT tVal) h
theorem ok_spec_LessKey {WI : World → Prop} (hs : Stable WI) (cs) (hT : TOK (EE cs) WI) (h1 : (EE cs).T 76 = some C_spec_LessPart) (h2 : (EE cs).T 75 = some C_spec_SameVal) : PureOK Tryz.prog WI 52 C_spec_LessKey := by
  refine pure3 (E := EE cs) hT hs (by rw [st_spec_LessKey]; rfl) fun l s t hp => out_wp (n := 0) (st_spec_LessKey cs) ?_
  obtain ⟨n0, n1, n2⟩ := hp
  simp only [go_sem, s_spec_LessKey]
  refine (L_spec_LessKey cs h1 h2 l s t n0 n1 n2 s [] t [] _ _ rfl rfl rfl (by simp only [go_sem, Nat.reduceBEq]) (by simp only [go_sem, Nat.reduceBEq]) (by simp only [go_sem, Nat.reduceBEq]) (by simp only [go_sem, Nat.reduceBEq])).mono ?_
  rintro x e' h' (⟨rfl, j1, j2, j3⟩ | ⟨rfl, j⟩)
  · simp only [List.length_nil] at j3
    simp only [go_sem, Nat.reduceBEq, j1, j2, j3]
  · simp only [List.length_nil] at j
    simp only [go_sem, j]
noncomputable def C_spec_l24In := c3 (sliceT tDef) tScan (sliceT tVal) (fun (s : List (TDef)) (c : TScan) (row : List (TVal)) => ((sliceT tDef).good s ∧ tScan.good c ∧ (sliceT tVal).good row) ∧ scanOk s c = true) (.bool) fun (s : List (TDef)) (c : TScan) (row : List (TVal)) => inScanD s c row
theorem C_spec_l24In_eq (s : List (TDef)) (c : TScan) (row : List (TVal)) (h : ((sliceT tDef).good s ∧ tScan.good c ∧ (sliceT tVal).good row) ∧ scanOk s c = true) : C_spec_l24In [.imm (s.map TDef.row), .agg [.int .i64 c.fT, .int .i64 c.fI, .imm (c.fLo.map TVal.row), .imm (c.fHi.map TVal.row), .bool c.fLoEx, .bool c.fHiEx, .bool c.fRev, .int .i64 c.fLimit], .imm (row.map TVal.row)] = some (.bool ((inScanD s c row))) := c3_eq (sliceT tDef) tScan (sliceT tVal) h
theorem ok_spec_l24In {WI : World → Prop} (hs : Stable WI) (cs) (hT : TOK (EE cs) WI) (h1 : (EE cs).T 31 = some C_spec_l11Plan) (h2 : (EE cs).T 50 = some C_spec_Pick) (h3 : (EE cs).T 51 = some C_spec_SameRow) (h4 : (EE cs).T 52 = some C_spec_LessKey) : PureOK Tryz.prog WI 26 C_spec_l24In := by
  refine pure3 (E := EE cs) hT hs (by rw [st_spec_l24In]; rfl) fun s c row hp => out_wp (n := 0) (st_spec_l24In cs) ?_
  obtain ⟨⟨⟨hs, _⟩, ⟨hc, _⟩, hr, _⟩, hok⟩ := hp
  obtain ⟨n1, n2⟩ := defsLens hs
  obtain ⟨m1, m2⟩ := scanLens hc
  obtain ⟨d, hd, z1, hm, hi, w1, w2⟩ := scanOk_get hok
  have hrl := rowLen hr
  have hpl := planOf_len d c.fI
  rw [inScanD_some hd]
  have c1 : C_spec_l11Plan [.agg [.str d.fName, .imm (d.fCols.map TCol.row), .imm (d.fPrimary.map TBy.row), .imm (d.fIndexes.map TIndex.row)], .int .i64 c.fI] = some (.imm ((planOf d c.fI).map TPart.row)) := C_spec_l11Plan_eq d c.fI (n2 d hm)
  generalize planOf d c.fI = plan at *
  have c2 : C_spec_Pick [.imm (plan.map TPart.row), .imm (row.map TVal.row)] = some (.imm ((pick plan row).map TVal.row)) := C_spec_Pick_eq plan row ⟨by omega, hrl⟩
  have hkl := pick_len plan row
  unfold inS
  generalize pick plan row = k at *
  have s1 : sIdxL 3 (.imm (k.map TVal.row)) none (some (.int .i64 c.fLo.length)) = some (.imm ((k.take c.fLo.length).map TVal.row)) := kSl_take (by omega) (fun _ => rfl) (by decide)
  have s2 : sIdxL 3 (.imm (k.map TVal.row)) none (some (.int .i64 c.fHi.length)) = some (.imm ((k.take c.fHi.length).map TVal.row)) := kSl_take (by omega) (fun _ => rfl) (by decide)
  have l1 : (k.take c.fLo.length).length ≤ 1048576 := by rw [List.length_take]; omega
  have l2 : (k.take c.fHi.length).length ≤ 1048576 := by rw [List.length_take]; omega
  generalize k.take c.fLo.length = a at *
  generalize k.take c.fHi.length = b at *
  have c3 : C_spec_SameRow [.imm (a.map TVal.row), .imm (c.fLo.map TVal.row)] = some (.bool (sameR a c.fLo)) := C_spec_SameRow_eq a c.fLo ⟨l1, m1⟩
  have c4 : C_spec_SameRow [.imm (b.map TVal.row), .imm (c.fHi.map TVal.row)] = some (.bool (sameR b c.fHi)) := C_spec_SameRow_eq b c.fHi ⟨l2, m2⟩
  have c5 : C_spec_LessKey [.imm (plan.map TPart.row), .imm (a.map TVal.row), .imm (c.fLo.map TVal.row)] = some (.bool (lessK plan 0 a c.fLo)) := C_spec_LessKey_eq plan a c.fLo ⟨by omega, l1, m1⟩
  have c6 : C_spec_LessKey [.imm (plan.map TPart.row), .imm (c.fHi.map TVal.row), .imm (b.map TVal.row)] = some (.bool (lessK plan 0 c.fHi b)) := C_spec_LessKey_eq plan c.fHi b ⟨by omega, m2, l2⟩
  rcases and3 (sameR a c.fLo) c.fLoEx (decide ((0 : Int) < c.fLo.length)) with x | x | x | x
  rotate_left 3
  · simp only [go_sem, Nat.reduceBEq, Nat.reduceAdd, Nat.reduceLeDiff, s_spec_l24In, TScan.row, kIa_nth (row := TDef.row) (sz := 4) z1 hd rfl, TDef.row, h1, c1, h2, deepC_false, c2, s1, s2, h3, c3, x, Bool.true_and, Bool.true_or, Bool.not_true, Bool.false_and]
  all_goals rcases and3 (sameR b c.fHi) c.fHiEx (decide ((0 : Int) < c.fHi.length)) with y | y | y | y
  all_goals cases z : lessK plan 0 a c.fLo
  all_goals simp only [go_sem, Nat.reduceBEq, Nat.reduceAdd, Nat.reduceLeDiff, s_spec_l24In, TScan.row, kIa_nth (row := TDef.row) (sz := 4) z1 hd rfl, TDef.row, h1, c1, h2, deepC_false, c2, s1, s2, h3, c3, c4, x, y, z, h4, c5, c6, Bool.true_and, Bool.false_and, Bool.and_false, Bool.or_true, Bool.or_false, Bool.not_true, Bool.not_false, Bool.false_and]
end Go.Proofs.YtfjkmpmjohojpaaGreatDoor.Ij
namespace Go.Proofs.YtfjkmpmjohojpaaGreatDoor.Ij
open Go Go.RowKit Go.Ev
set_option linter.unusedSimpArgs false
set_option linter.unusedVariables false
set_option maxHeartbeats 1600000
noncomputable def C_spec_InScan := c3 (sliceT tDef) tScan (sliceT tVal) (fun (s : List (TDef)) (c : TScan) (row : List (TVal)) => (sliceT tDef).good s ∧ tScan.good c ∧ (sliceT tVal).good row) (.bool) fun (s : List (TDef)) (c : TScan) (row : List (TVal)) => inScan s c row
theorem C_spec_InScan_eq (s : List (TDef)) (c : TScan) (row : List (TVal)) (h : (sliceT tDef).good s ∧ tScan.good c ∧ (sliceT tVal).good row) : C_spec_InScan [.imm (s.map TDef.row), .agg [.int .i64 c.fT, .int .i64 c.fI, .imm (c.fLo.map TVal.row), .imm (c.fHi.map TVal.row), .bool c.fLoEx, .bool c.fHiEx, .bool c.fRev, .int .i64 c.fLimit], .imm (row.map TVal.row)] = some (.bool ((inScan s c row))) := c3_eq (sliceT tDef) tScan (sliceT tVal) h
theorem ok_spec_InScan {WI : World → Prop} (hs : Stable WI) (cs) (hT : TOK (EE cs) WI) (h1 : (EE cs).T 10 = some C_spec_ScanOk) (h2 : (EE cs).T 25 = some C_spec_RowPlan) (h3 : (EE cs).T 24 = some C_spec_RowOk) (h4 : (EE cs).T 26 = some C_spec_l24In) : PureOK Tryz.prog WI 8 C_spec_InScan := by
  refine pure3 (E := EE cs) hT hs (by rw [st_spec_InScan]; rfl) fun s c row hp => out_wp (n := 0) (st_spec_InScan cs) ?_
  have fr_h2 : (EE cs).fr 25 = true := rfl
  have hp0 := hp
  obtain ⟨hs0, hc0, hr, _⟩ := hp
  have hs := hs0.1
  have hc := hc0.1
  obtain ⟨n1, n2⟩ := defsLens hs
  have hrl := rowLen hr
  have c1 : C_spec_ScanOk [.imm (s.map TDef.row), .agg [.int .i64 c.fT, .int .i64 c.fI, .imm (c.fLo.map TVal.row), .imm (c.fHi.map TVal.row), .bool c.fLoEx, .bool c.fHiEx, .bool c.fRev, .int .i64 c.fLimit]] = some (.bool (scanOk s c)) := C_spec_ScanOk_eq s c ⟨hs0, hc0⟩
  cases d1 : scanOk s c
  · simp only [go_sem, Nat.reduceBEq, Nat.reduceAdd, s_spec_InScan, TScan.row, h1, c1, d1, inScan, Bool.false_and]
  obtain ⟨d, hd, z1, hm, hi, w1, w2⟩ := scanOk_get d1
  have c2 : C_spec_RowPlan [.agg [.str d.fName, .imm (d.fCols.map TCol.row), .imm (d.fPrimary.map TBy.row), .imm (d.fIndexes.map TIndex.row)]] = some (.app 4 ((rowPlan d).map TPart.row)) := C_spec_RowPlan_eq d (n2 d hm)
  have c3 : C_spec_RowOk [.imm ((rowPlan d).map TPart.row), .imm (row.map TVal.row)] = some (.bool (rowOk (rowPlan d) row)) := C_spec_RowOk_eq _ _ ⟨rowPlan_len (n2 d hm), hrl⟩
  have c4 : C_spec_l24In [.imm (s.map TDef.row), .agg [.int .i64 c.fT, .int .i64 c.fI, .imm (c.fLo.map TVal.row), .imm (c.fHi.map TVal.row), .bool c.fLoEx, .bool c.fHiEx, .bool c.fRev, .int .i64 c.fLimit], .imm (row.map TVal.row)] = some (.bool (inScanD s c row)) := C_spec_l24In_eq s c row ⟨hp0, d1⟩
  have hres : inScan s c row = (rowOk (rowPlan d) row && inScanD s c row) := by unfold inScan; rw [d1, rowOkAt_some hd, Bool.true_and]
  rw [hres]
  cases d2 : rowOk (rowPlan d) row
  · simp only [go_sem, Nat.reduceBEq, Nat.reduceAdd, s_spec_InScan, TScan.row, h1, c1, d1, kIa_nth (row := TDef.row) (sz := 4) z1 hd rfl, TDef.row, h2, fr_h2, c2, h3, c3, d2, Bool.false_and]
  · simp only [go_sem, Nat.reduceBEq, Nat.reduceAdd, s_spec_InScan, TScan.row, h1, c1, d1, kIa_nth (row := TDef.row) (sz := 4) z1 hd rfl, TDef.row, h2, fr_h2, c2, h3, c3, d2, h4, c4, Bool.true_and]
theorem goodVals {l : List TVal} (h1 : l.length ≤ 9) (h2 : ∀ t ∈ l, okVal t) : (sliceT tVal).good l := by
  have := cost_sum (T := tVal) (k := 40) (l := l) fun v hv => (h2 v hv).1
  refine ⟨?_, fun t ht => ?_⟩
  · show l.length + costL tVal l ≤ 1048576
    omega
  · obtain ⟨_, k1, k2, k3, k4⟩ := h2 t ht
    exact ⟨⟨k1, k2⟩, ⟨k3, k4⟩⟩
theorem goodScan {c : TScan} (h : okScan 6 c) : tScan.good c := by
  have a1 := goodVals (l := c.fLo) (by have := h.lo.1; omega) h.lo.2
  have a2 := goodVals (l := c.fHi) (by have := h.hi.1; omega) h.hi.2
  have c1 := cost_sum (T := tVal) (k := 40) (l := c.fLo) fun v hv => (h.lo.2 v hv).1
  have c2 := cost_sum (T := tVal) (k := 40) (l := c.fHi) fun v hv => (h.hi.2 v hv).1
  have := h.lo.1
  have := h.hi.1
  have := h.t
  have := h.i
  have := h.lim
  refine ⟨?_, ⟨by omega, by omega⟩, ⟨by omega, by omega⟩, a1.2, a2.2, by omega, by omega⟩
  show (c.fLo.length + costL tVal c.fLo) + (c.fHi.length + costL tVal c.fHi) ≤ 1048576
  omega
theorem lessK_nil (plan : List TPart) : lessK plan 0 [] [] = false := by
  cases plan <;> rfl
theorem scanOk_open {s : List TDef} {c : TScan} (h : scanOk s c = true) : scanOk s { c with fLo := [], fHi := [] } = true := by
  unfold scanOk at h ⊢
  simp only [Bool.and_eq_true] at h ⊢
  obtain ⟨h1, h2, h3⟩ := h
  refine ⟨h1, h2, ?_⟩
  cases hd : s[c.fT.toNat]? with
  | none => rw [hd] at h3; exact h3
  | some d =>
    have e : ∀ l, fitsAll l [] = true := fun l => by
      unfold fitsAll
      simp [allP]
    simp only [e]
    rfl
theorem inS_open {plan : List TPart} {k : List TVal} {c : TScan} : inS plan k { c with fLo := [], fHi := [] } = true := by
  unfold inS
  simp [lessK_nil]
theorem inScan_open {s : List TDef} {c : TScan} {row : List TVal} (h : inScan s c row = true) : inScan s { c with fLo := [], fHi := [] } row = true := by
  have h0 := h
  unfold inScan at h
  simp only [Bool.and_eq_true] at h
  obtain ⟨h1, h2, _⟩ := h
  obtain ⟨d, hd, _⟩ := scanOk_get h1
  rw [inScan_of (d := d) (scanOk_open h1) hd, inS_open, Bool.and_true]
  rw [rowOkAt_some hd] at h2
  exact h2
end Go.Proofs.YtfjkmpmjohojpaaGreatDoor.Ij
namespace Go.Proofs.YtfjkmpmjohojpaaGreatDoor.Ij
open Go Go.RowKit Go.Ev
set_option linter.unusedSimpArgs false
set_option linter.unusedVariables false
set_option maxHeartbeats 1600000
set_option maxRecDepth 100000
theorem ev_law (cs) (h_laws_big : (EE cs).T 4 = some C_laws_big) (h_impl_InScan : (EE cs).T 6 = some C_impl_InScan) (h_spec_InScan : (EE cs).T 8 = some C_spec_InScan) (h_impl_ScanOk : (EE cs).T 9 = some C_impl_ScanOk) (h_spec_ScanOk : (EE cs).T 10 = some C_spec_ScanOk) (h_spec_l2Num : (EE cs).T 81 = some C_spec_l2Num) (h_spec_Pick : (EE cs).T 50 = some C_spec_Pick) (h_spec_l11Plan : (EE cs).T 31 = some C_spec_l11Plan) (h_spec_FirstBad : (EE cs).T 35 = some C_spec_FirstBad) (h_spec_l1In : (EE cs).T 14 = some C_spec_l1In) (v0 : List (UInt8)) (f0 : (sliceT u8T).fits v0) (o0 : (sliceT u8T).ok v0) : ∃ k n, out (EE cs) k n 3 [(sliceT u8T).enc v0] = some (.bool true) := by
  refine out_wp (n := 0) (st_laws_FnInScans cs) ?_
  by_cases hl : (1048576 : Int) < (v0.length : Int)
  · have hb : C_laws_big [.imm (v0.map u8T.row)] = some (.bool true) := by rw [C_laws_big_eq v0 trivial, decide_eq_true hl]
    simp only [go_sem, Nat.reduceBEq, s_laws_FnInScans, h_laws_big, hb]
  have hb : C_laws_big [.imm (v0.map u8T.row)] = some (.bool false) := by rw [C_laws_big_eq v0 trivial, decide_eq_false hl]
  have hcode : v0.length ≤ 1048576 := by omega
  simp only [go_sem, Nat.reduceBEq, s_laws_FnInScans, h_laws_big, hb]
  refine hP_run (fun h => run_spec_DrawInScan cs h_spec_l2Num h_spec_Pick h_spec_l11Plan h_spec_FirstBad h_spec_l1In v0 h hcode) ?_
  rintro _ h1 ⟨s, c, row, rfl, hs4, ho, hoc, hr9, hro⟩
  have gd := goodDefs hs4 ho
  have gc := goodScan hoc
  have gr := goodVals hr9 hro
  have hoc0 : okScan 6 { c with fLo := [], fHi := [] } := ⟨hoc.t, hoc.i, ⟨Nat.zero_le _, fun v hv => by cases hv⟩, ⟨Nat.zero_le _, fun v hv => by cases hv⟩, hoc.lim⟩
  have gc0 := goodScan hoc0
  have hcr : c.row = [.int .i64 c.fT, .int .i64 c.fI, .imm (c.fLo.map TVal.row), .imm (c.fHi.map TVal.row), .bool c.fLoEx, .bool c.fHiEx, .bool c.fRev, .int .i64 c.fLimit] := rfl
  have a1 : C_impl_InScan [.imm (s.map TDef.row), .agg [.int .i64 c.fT, .int .i64 c.fI, .imm (c.fLo.map TVal.row), .imm (c.fHi.map TVal.row), .bool c.fLoEx, .bool c.fHiEx, .bool c.fRev, .int .i64 c.fLimit], .imm (row.map TVal.row)] = some (.bool (inScan s c row)) := C_impl_InScan_eq s c row ⟨gd, gc, gr⟩
  have a2 : C_spec_InScan [.imm (s.map TDef.row), .agg [.int .i64 c.fT, .int .i64 c.fI, .imm (c.fLo.map TVal.row), .imm (c.fHi.map TVal.row), .bool c.fLoEx, .bool c.fHiEx, .bool c.fRev, .int .i64 c.fLimit], .imm (row.map TVal.row)] = some (.bool (inScan s c row)) := C_spec_InScan_eq s c row ⟨gd, gc, gr⟩
  have a3 : C_impl_ScanOk [.imm (s.map TDef.row), .agg [.int .i64 c.fT, .int .i64 c.fI, .imm (c.fLo.map TVal.row), .imm (c.fHi.map TVal.row), .bool c.fLoEx, .bool c.fHiEx, .bool c.fRev, .int .i64 c.fLimit]] = some (.bool (scanOk s c)) := C_impl_ScanOk_eq s c ⟨gd, gc⟩
  have a4 : C_spec_ScanOk [.imm (s.map TDef.row), .agg [.int .i64 c.fT, .int .i64 c.fI, .imm (c.fLo.map TVal.row), .imm (c.fHi.map TVal.row), .bool c.fLoEx, .bool c.fHiEx, .bool c.fRev, .int .i64 c.fLimit]] = some (.bool (scanOk s c)) := C_spec_ScanOk_eq s c ⟨gd, gc⟩
  have a5 : C_impl_InScan [.imm (s.map TDef.row), .agg [.int .i64 c.fT, .int .i64 c.fI, .imm [], .imm [], .bool c.fLoEx, .bool c.fHiEx, .bool c.fRev, .int .i64 c.fLimit], .imm (row.map TVal.row)] = some (.bool (inScan s { c with fLo := [], fHi := [] } row)) := C_impl_InScan_eq s { c with fLo := [], fHi := [] } row ⟨gd, gc0, gr⟩
  have a6 : C_spec_InScan [.imm (s.map TDef.row), .agg [.int .i64 c.fT, .int .i64 c.fI, .imm [], .imm [], .bool c.fLoEx, .bool c.fHiEx, .bool c.fRev, .int .i64 c.fLimit], .imm (row.map TVal.row)] = some (.bool (inScan s { c with fLo := [], fHi := [] } row)) := C_spec_InScan_eq s { c with fLo := [], fHi := [] } row ⟨gd, gc0, gr⟩
  have hop : inScan s c row = true → inScan s { c with fLo := [], fHi := [] } row = true := inScan_open
  generalize inScan s { c with fLo := [], fHi := [] } row = y at *
  generalize inScan s c row = x at *
  generalize scanOk s c = z at *
  simp only [go_sem, kSt_ptr, Nat.reduceBEq, Nat.reduceAdd, hcr, h_impl_InScan, a1]
  obtain ⟨v2, h2, k1, ⟨s2, c2, rfl, hs42, ho2, hoc2⟩, k3, k4⟩ := run_spec_DrawScanOk cs h_spec_l2Num h_spec_Pick h_spec_l11Plan h_spec_FirstBad v0 _ hcode
  refine hP_call k1 ?_
  have hcr2 : c2.row = [.int .i64 c2.fT, .int .i64 c2.fI, .imm (c2.fLo.map TVal.row), .imm (c2.fHi.map TVal.row), .bool c2.fLoEx, .bool c2.fHiEx, .bool c2.fRev, .int .i64 c2.fLimit] := rfl
  have b3 : C_impl_ScanOk [.imm (s2.map TDef.row), .agg [.int .i64 c2.fT, .int .i64 c2.fI, .imm (c2.fLo.map TVal.row), .imm (c2.fHi.map TVal.row), .bool c2.fLoEx, .bool c2.fHiEx, .bool c2.fRev, .int .i64 c2.fLimit]] = some (.bool (scanOk s2 c2)) := C_impl_ScanOk_eq s2 c2 ⟨goodDefs hs42 ho2, goodScan hoc2⟩
  have b4 : C_spec_ScanOk [.imm (s2.map TDef.row), .agg [.int .i64 c2.fT, .int .i64 c2.fI, .imm (c2.fLo.map TVal.row), .imm (c2.fHi.map TVal.row), .bool c2.fLoEx, .bool c2.fHiEx, .bool c2.fRev, .int .i64 c2.fLimit]] = some (.bool (scanOk s2 c2)) := C_spec_ScanOk_eq s2 c2 ⟨goodDefs hs42 ho2, goodScan hoc2⟩
  generalize scanOk s2 c2 = w at *
  have p4 : h2.hp h1.nx = some [.int .i64 c.fT, .int .i64 c.fI, .imm (c.fLo.map TVal.row), .imm (c.fHi.map TVal.row), .bool c.fLoEx, .bool c.fHiEx, .bool c.fRev, .int .i64 c.fLimit] := (k3 h1.nx (by show h1.nx < h1.nx + 1; omega)).trans (by simp)
  have m1 : ¬ h1.nx = h2.nx := by have : h1.nx + 1 ≤ h2.nx := k4; omega
  have m2 : ¬ h2.nx = h1.nx := fun e => m1 e.symm
  have hbb : ∀ b : Bool, (b == b) = true := fun b => by simp
  have hne : ∀ b : Bool, (b != b) = false := fun b => by simp
  have f1 : fillR (List.replicate 0 [.int .i64 0, .int .i64 0, .str []]) 3 [] = some [] := rfl
  have f2 : frzRows [] = some [] := rfl
  cases x with
  | false => simp only [go_sem, kSt_ptr, Nat.reduceBEq, Nat.reduceAdd, Nat.reduceLeDiff, hcr2, f1, f2, p4, m1, h_spec_InScan, a2, h_impl_ScanOk, h_spec_ScanOk, a3, a4, b3, b4, h_impl_InScan, a5, a6, hbb, Bool.not_true, Bool.not_false]
  | true =>
    have hy := hop rfl
    subst hy
    simp only [go_sem, kSt_ptr, Nat.reduceBEq, Nat.reduceAdd, Nat.reduceLeDiff, hcr2, f1, f2, p4, m1, h_spec_InScan, a2, h_impl_ScanOk, h_spec_ScanOk, a3, a4, b3, b4, h_impl_InScan, a5, a6, hbb, Bool.not_true, Bool.not_false]
noncomputable def C_law := c1 (sliceT u8T) (fun v0 => ((sliceT u8T).fits v0 ∧ (sliceT u8T).ok v0)) .bool fun _ => true
theorem ok_law {WI : World → Prop} (hs : Stable WI) (cs) (hT : TOK (EE cs) WI) (h_laws_big : (EE cs).T 4 = some C_laws_big) (h_impl_InScan : (EE cs).T 6 = some C_impl_InScan) (h_spec_InScan : (EE cs).T 8 = some C_spec_InScan) (h_impl_ScanOk : (EE cs).T 9 = some C_impl_ScanOk) (h_spec_ScanOk : (EE cs).T 10 = some C_spec_ScanOk) (h_spec_l2Num : (EE cs).T 81 = some C_spec_l2Num) (h_spec_Pick : (EE cs).T 50 = some C_spec_Pick) (h_spec_l11Plan : (EE cs).T 31 = some C_spec_l11Plan) (h_spec_FirstBad : (EE cs).T 35 = some C_spec_FirstBad) (h_spec_l1In : (EE cs).T 14 = some C_spec_l1In) : PureOK Tryz.prog WI 3 C_law :=
  pure1 (E := EE cs) hT hs (by rw [st_laws_FnInScans]; rfl) fun v0 ⟨f0, o0⟩ => ev_law cs  h_laws_big h_impl_InScan h_spec_InScan h_impl_ScanOk h_spec_ScanOk h_spec_l2Num h_spec_Pick h_spec_l11Plan h_spec_FirstBad h_spec_l1In v0 f0 o0
section
variable {WI : World → Prop} (hs : Stable WI)
include hs
theorem law_ok (p_strings_Split : PureOK Tryz.prog WI 88 C_strings_Split) : PureOK Tryz.prog WI 3 C_law := by
  have t0 : TOK (EE []) WI := tok_nil (entB_spec entered)
  have t1 := tok_cons rfl rfl (ok_laws_big hs _ t0) t0
  have t2 := tok_cons rfl rfl (ok_spec_l2Num hs _ t1) t1
  have t3 := tok_cons rfl rfl (ok_spec_l1In hs _ t2) t2
  have t4 := tok_cons rfl rfl (ok_spec_l8Small hs _ t3 rfl) t3
  have t5 := tok_cons rfl rfl (ok_spec_l2Digit hs _ t4 rfl) t4
  have t6 := tok_cons rfl rfl (ok_spec_l8Name hs _ t5 rfl rfl rfl) t5
  have t7 := tok_cons rfl rfl (ok_spec_l9Has hs _ t6) t6
  have t8 := tok_cons rfl rfl (ok_spec_l9Word hs _ t7 rfl rfl) t7
  have t9 := tok_cons rfl rfl (ok_spec_l9Names hs _ t8 rfl) t8
  have t10 := tok_cons rfl rfl (ok_spec_l9Types hs _ t9 rfl) t9
  have t11 := tok_cons rfl rfl (ok_spec_l9Col hs _ t10) t10
  have t12 := tok_cons rfl rfl (ok_spec_l9Once hs _ t11 rfl) t11
  have t13 := tok_cons rfl rfl (ok_spec_l9Parts hs _ t12 rfl) t12
  have t14 := tok_cons rfl rfl (ok_spec_l9AllParts hs _ t13 rfl) t13
  have t15 := tok_cons rfl rfl (ok_spec_CheckDef hs _ t14 rfl rfl rfl rfl) t14
  have t16 := tok_cons rfl rfl (ok_spec_FirstBad hs _ t15 rfl) t15
  have t17 := tok_cons rfl rfl (ok_spec_l11Part hs _ t16) t16
  have t18 := tok_consF rfl rfl (ok_spec_l11Parts hs _ t17 rfl) t17
  have t19 := tok_cons rfl rfl (ok_spec_PrimaryPlan hs _ t18 rfl rfl) t18
  have t20 := tok_cons rfl rfl (ok_spec_IndexPlan hs _ t19 rfl rfl rfl) t19
  have t21 := tok_cons rfl rfl (ok_spec_l11Plan hs _ t20 rfl rfl) t20
  have t22 := tok_consO rfl (ok_spec_Pick hs _ t21 rfl) t21
  have t23 := tok_cons rfl rfl (ok_impl_in hs _ t22) t22
  have t24 := tok_cons rfl rfl (ok_impl_partsOk hs _ t23 rfl) t23
  have t25 := tok_cons rfl rfl p_strings_Split t24
  have t26 := tok_cons rfl rfl (ok_impl_isLetter hs _ t25) t25
  have t27 := tok_cons rfl rfl (ok_impl_isDigit hs _ t26) t26
  have t28 := tok_cons rfl rfl (ok_impl_nameOk hs _ t27 rfl rfl rfl) t27
  have t29 := tok_cons rfl rfl (ok_impl_isFree hs _ t28 rfl rfl) t28
  have t30 := tok_cons rfl rfl (ok_impl_namesOk hs _ t29 rfl) t29
  have t31 := tok_cons rfl rfl (ok_impl_twice hs _ t30) t30
  have t32 := tok_cons rfl rfl (ok_impl_CheckDef hs _ t31 rfl rfl rfl rfl) t31
  have t33 := tok_cons rfl rfl (ok_impl_FirstBad hs _ t32 rfl) t32
  have t34 := tok_cons rfl rfl (ok_impl_hasIndex hs _ t33 rfl rfl) t33
  have t35 := tok_consF rfl rfl (ok_impl_partsOf hs _ t34) t34
  have t36 := tok_cons rfl rfl (ok_impl_PrimaryPlan hs _ t35 rfl rfl) t35
  have t37 := tok_cons rfl rfl (ok_impl_IndexPlan hs _ t36 rfl rfl rfl) t36
  have t38 := tok_cons rfl rfl (ok_impl_planOf hs _ t37 rfl rfl) t37
  have t39 := tok_cons rfl rfl (ok_impl_ValOk hs _ t38 rfl) t38
  have t40 := tok_cons rfl rfl (ok_impl_Fits hs _ t39 rfl) t39
  have t41 := tok_cons rfl rfl (ok_impl_FitsAll hs _ t40 rfl) t40
  have t42 := tok_cons rfl rfl (ok_impl_ScanOk hs _ t41 rfl rfl rfl rfl) t41
  have t43 := tok_consF rfl rfl (ok_impl_RowPlan hs _ t42 rfl) t42
  have t44 := tok_cons rfl rfl (ok_impl_PartOk hs _ t43 rfl) t43
  have t45 := tok_cons rfl rfl (ok_impl_PlanOk hs _ t44 rfl) t44
  have t46 := tok_cons rfl rfl (ok_impl_RowOk hs _ t45 rfl rfl) t45
  have t47 := tok_consF rfl rfl (ok_impl_Pick hs _ t46 rfl) t46
  have t48 := tok_cons rfl rfl (ok_impl_LessVal hs _ t47) t47
  have t49 := tok_cons rfl rfl (ok_impl_LessPart hs _ t48 rfl) t48
  have t50 := tok_cons rfl rfl (ok_impl_LessKey hs _ t49 rfl) t49
  have t51 := tok_cons rfl rfl (ok_impl_SameRow hs _ t50) t50
  have t52 := tok_cons rfl rfl (ok_impl_InScan hs _ t51 rfl rfl rfl rfl rfl rfl rfl) t51
  have t53 := tok_cons rfl rfl (ok_spec_l11There hs _ t52 rfl rfl) t52
  have t54 := tok_cons rfl rfl (ok_spec_ValOk hs _ t53 rfl) t53
  have t55 := tok_cons rfl rfl (ok_spec_Fits hs _ t54 rfl) t54
  have t56 := tok_cons rfl rfl (ok_spec_FitsAll hs _ t55 rfl) t55
  have t57 := tok_cons rfl rfl (ok_spec_ScanOk hs _ t56 rfl rfl rfl rfl) t56
  have t58 := tok_consF rfl rfl (ok_spec_RowPlan hs _ t57 rfl rfl) t57
  have t59 := tok_cons rfl rfl (ok_spec_PartOk hs _ t58 rfl) t58
  have t60 := tok_cons rfl rfl (ok_spec_PlanOk hs _ t59 rfl) t59
  have t61 := tok_cons rfl rfl (ok_spec_RowOk hs _ t60 rfl rfl) t60
  have t62 := tok_cons rfl rfl (ok_spec_SameRow hs _ t61) t61
  have t63 := tok_cons rfl rfl (ok_spec_SameVal hs _ t62) t62
  have t64 := tok_cons rfl rfl (ok_spec_LessVal hs _ t63) t63
  have t65 := tok_cons rfl rfl (ok_spec_LessPart hs _ t64 rfl) t64
  have t66 := tok_cons rfl rfl (ok_spec_LessKey hs _ t65 rfl rfl) t65
  have t67 := tok_cons rfl rfl (ok_spec_l24In hs _ t66 rfl rfl rfl rfl) t66
  have t68 := tok_cons rfl rfl (ok_spec_InScan hs _ t67 rfl rfl rfl rfl) t67
  exact ok_law hs _ t68 rfl rfl rfl rfl rfl rfl rfl rfl rfl rfl
end
theorem u8_of {x : Int} (h : (Lit.int .u8 x).wf = true) : ∃ v : UInt8, [AV.int .u8 x] = u8T.row v ∧ u8T.fits v ∧ u8T.ok v := by
  have hx : 0 ≤ x ∧ x < 256 := by
    have h1 : IntKind.u8.min ≤ x ∧ x ≤ IntKind.u8.max := by simpa [Lit.wf] using h
    have h2 : IntKind.u8.min = 0 := rfl
    have h3 : IntKind.u8.max = 255 := rfl
    omega
  refine ⟨UInt8.ofNat x.toNat, ?_, trivial, trivial⟩
  show [AV.int .u8 x] = [AV.int .u8 ((UInt8.ofNat x.toNat).toNat : Int)]
  rw [UInt8.toNat_ofNat']
  congr 2
  omega
theorem shp_Sbyte {n : Nat} {r : List AV} (h : shp Tryz.prog (n + 2) 22 r) : ∃ l : List (UInt8), r = (sliceT u8T).row l ∧ (sliceT u8T).fits l ∧ (sliceT u8T).ok l := by
  obtain ⟨rows, rfl, hl, hr⟩ := shp_slice Tryz.underlying22 h
  obtain ⟨l, h1, h2, h3⟩ := rows_of (enc := u8T.row) (p := fun v => u8T.fits v ∧ u8T.ok v) fun r hr' => (by obtain ⟨x, rfl, y⟩ := shp_int Tryz.underlying5 (hr r hr'); exact u8_of y)
  subst h1
  exact ⟨l, rfl, ⟨by simpa using hl, fun v hv => (h3 v hv).1⟩, fun v hv => (h3 v hv).2⟩
theorem hlaw (xs : List AV) (h : shpAs Tryz.prog 8 Tryz.f3.params.toList xs) : C_law xs = some (.bool true) := by
  rw [Tryz.params3] at h
  obtain ⟨y0, r0, rfl, z0, zend⟩ := h
  have hr : r0 = [] := zend
  subst hr
  obtain ⟨v0, e0, f0, o0⟩ := shp_Sbyte (n := 6) (shpA_one (fun fs e => by rw [Tryz.underlying22] at e; cases e) z0)
  obtain rfl : y0 = (sliceT u8T).enc v0 := List.head_eq_of_cons_eq e0
  exact c1_eq (sliceT u8T) ⟨f0, o0⟩
end Go.Proofs.YtfjkmpmjohojpaaGreatDoor.Ij
