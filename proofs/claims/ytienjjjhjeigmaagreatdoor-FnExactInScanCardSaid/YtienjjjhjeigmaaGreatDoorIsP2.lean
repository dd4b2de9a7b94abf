/- What the functions that FnExactInScan calls answer, for every argument within the law's bounds: part 2. -/
import Derived.Test.YtienjjjhjeigmaaGreatDoorIsP1
import Derived.Lib.Split
/- What the functions that FnExactInScan calls answer: part 6. -/
namespace Go.Proofs.YtienjjjhjeigmaaGreatDoor.Is
open Go Go.RowKit Go.Ev
set_option linter.unusedSimpArgs false
set_option linter.unusedVariables false
set_option maxHeartbeats 1600000
def valOk (v : TVal) : Bool :=
  if v.fK = 0 then v.fN == 0 && v.fS == [] else if v.fK = 1 then inR v.fN (-2147483648) 2147483647 && v.fS == [] else if v.fK = 2 then inR v.fN (-1000000000000000) 1000000000000000 && v.fS == []
  else if v.fK = 3 then decide ((v.fS.length : Int) ≤ 30) && v.fN == 0 else if v.fK = 4 then inR v.fN 0 1 && v.fS == [] else false
theorem valOk_rng {v : TVal} (h : valOk v = true) (hk : v.fK = 1 ∨ v.fK = 2) : -1000000000000000 ≤ v.fN ∧ v.fN ≤ 1000000000000000 := by
  rcases hk with hk | hk <;> simp [valOk, hk, inR] at h <;> omega
theorem valOk_len {v : TVal} (h : valOk v = true) (hk : v.fK = 3) : v.fS.length ≤ 30 := by
  simp [valOk, hk] at h
  omega
theorem valOk_str {v : TVal} (h : valOk v = true) (hk : v.fK ≠ 3) : v.fS = [] := by
  by_cases h0 : v.fK = 0
  · simp [valOk, h0] at h; exact h.2
  by_cases h1 : v.fK = 1
  · simp [valOk, h1] at h; exact h.2
  by_cases h2 : v.fK = 2
  · simp [valOk, h2] at h; exact h.2
  by_cases h4 : v.fK = 4
  · simp [valOk, h4] at h; exact h.2
  · simp [valOk, h0, h1, h2, hk, h4] at h
theorem ev_spec_ValOk (cs) (hT : (EE cs).T 65 = some C_spec_l1In) (v : TVal) : ∃ k n, out (EE cs) k n 205 [.agg v.row] = some (.bool (valOk v)) := by
  refine out_K (n := 0) (st_spec_ValOk cs) ?_
  by_cases h0 : v.fK = 0
  · by_cases hn : v.fN = 0
    · simp only [go_sem, kSt_ptr, Nat.reduceBEq, Nat.reduceAdd, Nat.reduceEqDiff, Nat.reduceLeDiff, Nat.reduceSub, reduceIte, Int.reduceBEq, Int.reduceEq, Int.reduceLT, Int.reduceLE, Int.reduceGT, Int.reduceGE, Int.reduceNe, Int.reduceBNe, s_spec_ValOk, TVal.row, h0, hn, valOk]
    · simp only [go_sem, kSt_ptr, Nat.reduceBEq, Nat.reduceAdd, Nat.reduceEqDiff, Nat.reduceLeDiff, Nat.reduceSub, reduceIte, Int.reduceBEq, Int.reduceEq, Int.reduceLT, Int.reduceLE, Int.reduceGT, Int.reduceGE, Int.reduceNe, Int.reduceBNe, s_spec_ValOk, TVal.row, h0, hn, beqF hn, valOk]
  by_cases h1 : v.fK = 1
  · cases hn : inR v.fN (-2147483648) 2147483647
    · simp only [go_sem, kSt_ptr, Nat.reduceBEq, Nat.reduceAdd, Nat.reduceEqDiff, Nat.reduceLeDiff, Nat.reduceSub, reduceIte, Int.reduceBEq, Int.reduceEq, Int.reduceLT, Int.reduceLE, Int.reduceGT, Int.reduceGE, Int.reduceNe, Int.reduceBNe, s_spec_ValOk, TVal.row, h1, hn, valOk, hT, C_spec_l1In_eq]
    · simp only [go_sem, kSt_ptr, Nat.reduceBEq, Nat.reduceAdd, Nat.reduceEqDiff, Nat.reduceLeDiff, Nat.reduceSub, reduceIte, Int.reduceBEq, Int.reduceEq, Int.reduceLT, Int.reduceLE, Int.reduceGT, Int.reduceGE, Int.reduceNe, Int.reduceBNe, s_spec_ValOk, TVal.row, h1, hn, valOk, hT, C_spec_l1In_eq]
  by_cases h2 : v.fK = 2
  · cases hn : inR v.fN (-1000000000000000) 1000000000000000
    · simp only [go_sem, kSt_ptr, Nat.reduceBEq, Nat.reduceAdd, Nat.reduceEqDiff, Nat.reduceLeDiff, Nat.reduceSub, reduceIte, Int.reduceBEq, Int.reduceEq, Int.reduceLT, Int.reduceLE, Int.reduceGT, Int.reduceGE, Int.reduceNe, Int.reduceBNe, s_spec_ValOk, TVal.row, h2, hn, valOk, hT, C_spec_l1In_eq]
    · simp only [go_sem, kSt_ptr, Nat.reduceBEq, Nat.reduceAdd, Nat.reduceEqDiff, Nat.reduceLeDiff, Nat.reduceSub, reduceIte, Int.reduceBEq, Int.reduceEq, Int.reduceLT, Int.reduceLE, Int.reduceGT, Int.reduceGE, Int.reduceNe, Int.reduceBNe, s_spec_ValOk, TVal.row, h2, hn, valOk, hT, C_spec_l1In_eq]
  by_cases h3 : v.fK = 3
  · by_cases hn : (v.fS.length : Int) ≤ 30
    · simp only [go_sem, kSt_ptr, Nat.reduceBEq, Nat.reduceAdd, Nat.reduceEqDiff, Nat.reduceLeDiff, Nat.reduceSub, reduceIte, Int.reduceBEq, Int.reduceEq, Int.reduceLT, Int.reduceLE, Int.reduceGT, Int.reduceGE, Int.reduceNe, Int.reduceBNe, s_spec_ValOk, TVal.row, h3, hn, valOk, hT, C_spec_l1In_eq]
    · simp only [go_sem, kSt_ptr, Nat.reduceBEq, Nat.reduceAdd, Nat.reduceEqDiff, Nat.reduceLeDiff, Nat.reduceSub, reduceIte, Int.reduceBEq, Int.reduceEq, Int.reduceLT, Int.reduceLE, Int.reduceGT, Int.reduceGE, Int.reduceNe, Int.reduceBNe, s_spec_ValOk, TVal.row, h3, hn, valOk, hT, C_spec_l1In_eq]
  by_cases h4 : v.fK = 4
  · cases hn : inR v.fN 0 1
    · simp only [go_sem, kSt_ptr, Nat.reduceBEq, Nat.reduceAdd, Nat.reduceEqDiff, Nat.reduceLeDiff, Nat.reduceSub, reduceIte, Int.reduceBEq, Int.reduceEq, Int.reduceLT, Int.reduceLE, Int.reduceGT, Int.reduceGE, Int.reduceNe, Int.reduceBNe, s_spec_ValOk, TVal.row, h4, hn, valOk, hT, C_spec_l1In_eq]
    · simp only [go_sem, kSt_ptr, Nat.reduceBEq, Nat.reduceAdd, Nat.reduceEqDiff, Nat.reduceLeDiff, Nat.reduceSub, reduceIte, Int.reduceBEq, Int.reduceEq, Int.reduceLT, Int.reduceLE, Int.reduceGT, Int.reduceGE, Int.reduceNe, Int.reduceBNe, s_spec_ValOk, TVal.row, h4, hn, valOk, hT, C_spec_l1In_eq]
  simp only [go_sem, kSt_ptr, Nat.reduceBEq, Nat.reduceAdd, Nat.reduceEqDiff, Nat.reduceLeDiff, Nat.reduceSub, reduceIte, Int.reduceBEq, Int.reduceEq, Int.reduceLT, Int.reduceLE, Int.reduceGT, Int.reduceGE, Int.reduceNe, Int.reduceBNe, s_spec_ValOk, TVal.row, h0, h1, h2, h3, h4, beqF h0, beqF h1, beqF h2, beqF h3, beqF h4, valOk, hT, C_spec_l1In_eq]
noncomputable def C_spec_ValOk := ct (fun a : TVal => [.agg a.row]) (fun _ => True) .bool valOk
theorem C_spec_ValOk_eq (k n : Int) (s : List UInt8) : C_spec_ValOk [.agg [.int .i64 k, .int .i64 n, .str s]] = some (.bool (valOk ⟨k, n, s⟩)) := by
  unfold C_spec_ValOk
  exact ct_eq (a := (⟨k, n, s⟩ : TVal)) (fun a b h => by
    simp only [List.cons.injEq, AV.agg.injEq, and_true] at h
    exact TVal.inj _ _ h) trivial
theorem ok_spec_ValOk {WI} (hs : Stable WI) (cs) (hT : TOK (EE cs) WI) (h : (EE cs).T 65 = some C_spec_l1In) : PureOK Tryz.prog WI 205 C_spec_ValOk := pure_out hT hs (by rw [st_spec_ValOk]; rfl) fun a _ => ev_spec_ValOk cs h a
def fitsV (p : TPart) (v : TVal) : Bool := valOk v && ((v.fK == p.fType && v.fK != 0) || (v.fK == 0 && p.fNull))
def fitAt (l : List TPart) (pre : List TVal) (v : TVal) : Bool := match l[pre.length]? with | some p => fitsV p v | none => false
theorem fitAt_some {l : List TPart} {pre : List TVal} {v : TVal} {p : TPart} (h : l[pre.length]? = some p) : fitAt l pre v = fitsV p v := by unfold fitAt; rw [h]
def fitsAll (l : List TPart) (vs : List TVal) : Bool := decide (vs.length ≤ l.length) && allP (fitAt l) [] vs
noncomputable def C_spec_Fits := c2 tPart tVal (fun (p : TPart) (v : TVal) => True) (.bool) fun (p : TPart) (v : TVal) => fitsV p v
theorem C_spec_Fits_eq (p : TPart) (v : TVal) (h : True) : C_spec_Fits [.agg [.int .i64 p.fCol, .int .i64 p.fType, .bool p.fNull, .bool p.fDesc], .agg [.int .i64 v.fK, .int .i64 v.fN, .str v.fS]] = some (.bool ((fitsV p v))) := c2_eq tPart tVal h
theorem ok_spec_Fits {WI : World → Prop} (hs : Stable WI) (cs) (hT : TOK (EE cs) WI) (h1 : (EE cs).T 205 = some C_spec_ValOk) : PureOK Tryz.prog WI 135 C_spec_Fits := by
  refine pure2 (E := EE cs) hT hs (by rw [st_spec_Fits]; rfl) fun p v hp => out_wp (n := 0) (st_spec_Fits cs) ?_
  have c1 : C_spec_ValOk [.agg [.int .i64 v.fK, .int .i64 v.fN, .str v.fS]] = some (.bool (valOk v)) := C_spec_ValOk_eq v.fK v.fN v.fS
  cases d1 : valOk v
  · simp only [go_sem, kSt_ptr, Nat.reduceBEq, Nat.reduceAdd, Nat.reduceEqDiff, Nat.reduceLeDiff, Nat.reduceSub, reduceIte, Int.reduceBEq, Int.reduceEq, Int.reduceLT, Int.reduceLE, Int.reduceGT, Int.reduceGE, Int.reduceNe, Int.reduceBNe, s_spec_Fits, TPart.row, TVal.row, h1, c1, d1, fitsV]
  cases d2 : (v.fK == p.fType) <;> cases d3 : (v.fK == 0) <;> cases d4 : p.fNull <;> simp only [go_sem, kSt_ptr, Nat.reduceBEq, Nat.reduceAdd, Nat.reduceEqDiff, Nat.reduceLeDiff, Nat.reduceSub, reduceIte, Int.reduceBEq, Int.reduceEq, Int.reduceLT, Int.reduceLE, Int.reduceGT, Int.reduceGE, Int.reduceNe, Int.reduceBNe, s_spec_Fits, TPart.row, TVal.row, h1, c1, d1, d2, d3, d4, bne, fitsV, Bool.true_or, Bool.or_true]
noncomputable def C_spec_FitsAll := c2 (sliceT tPart) (sliceT tVal) (fun (l : List (TPart)) (vs : List (TVal)) => l.length ≤ 1048576 ∧ vs.length ≤ 1048576) (.bool) fun (l : List (TPart)) (vs : List (TVal)) => fitsAll l vs
theorem C_spec_FitsAll_eq (l : List (TPart)) (vs : List (TVal)) (h : l.length ≤ 1048576 ∧ vs.length ≤ 1048576) : C_spec_FitsAll [.imm (l.map TPart.row), .imm (vs.map TVal.row)] = some (.bool ((fitsAll l vs))) := c2_eq (sliceT tPart) (sliceT tVal) h
theorem ok_spec_FitsAll {WI : World → Prop} (hs : Stable WI) (cs) (hT : TOK (EE cs) WI) (h1 : (EE cs).T 135 = some C_spec_Fits) : PureOK Tryz.prog WI 67 C_spec_FitsAll := by
  refine pure2 (E := EE cs) hT hs (by rw [st_spec_FitsAll]; rfl) fun l vs hp => out_wp (n := 0) (st_spec_FitsAll cs) ?_
  obtain ⟨n1, n2⟩ := hp
  by_cases hlen : (l.length : Int) < (vs.length : Int)
  · have hd : decide (vs.length ≤ l.length) = false := decide_eq_false (by omega)
    simp only [go_sem, kSt_ptr, Nat.reduceBEq, Nat.reduceAdd, Nat.reduceEqDiff, Nat.reduceLeDiff, Nat.reduceSub, reduceIte, Int.reduceBEq, Int.reduceEq, Int.reduceLT, Int.reduceLE, Int.reduceGT, Int.reduceGE, Int.reduceNe, Int.reduceBNe, s_spec_FitsAll, hlen, fitsAll, hd]
  have hd : decide (vs.length ≤ l.length) = true := decide_eq_true (by omega)
  simp only [go_sem, kSt_ptr, Nat.reduceBEq, Nat.reduceAdd, Nat.reduceEqDiff, Nat.reduceLeDiff, Nat.reduceSub, reduceIte, Int.reduceBEq, Int.reduceEq, Int.reduceLT, Int.reduceLE, Int.reduceGT, Int.reduceGE, Int.reduceNe, Int.reduceBNe, s_spec_FitsAll, hlen]
  refine (wl_all (l := vs) (fun pre v => fitAt l pre v) (fun pre e h => e 0 = .imm (l.map TPart.row) ∧ e 1 = .imm (vs.map TVal.row) ∧ e 5 = .int .i64 pre.length) (.exit 0) (fun e h => e 0 = .imm (l.map TPart.row) ∧ e 1 = .imm (vs.map TVal.row)) (fun e h => e 4 = .bool false) (by omega) ?_ ?_ ?_ (by simp) vs [] _ _ rfl ?_).mono ?_
  · rintro pre v rest e h a hp ⟨q0, q1, ix⟩
    obtain ⟨p, hpp⟩ : ∃ p, l[pre.length]? = some p := ⟨_, List.getElem?_eq_getElem (by have := a.lt; omega)⟩
    have hpp' : l[((pre.length : Int)).toNat]? = some p := by simpa using hpp
    have hc : C_spec_Fits [.agg [.int .i64 p.fCol, .int .i64 p.fType, .bool p.fNull, .bool p.fDesc], .agg [.int .i64 v.fK, .int .i64 v.fN, .str v.fS]] = some (.bool (fitsV p v)) := C_spec_Fits_eq p v trivial
    rw [fitAt_some hpp] at hp
    simp only [go_sem, kSt_ptr, Nat.reduceBEq, Nat.reduceAdd, Nat.reduceEqDiff, Nat.reduceLeDiff, Nat.reduceSub, reduceIte, Int.reduceBEq, Int.reduceEq, Int.reduceLT, Int.reduceLE, Int.reduceGT, Int.reduceGE, Int.reduceNe, Int.reduceBNe, s_spec_FitsAll_L0, q0, q1, ix, a.dl, a.ia (row := TVal.row) (sz := 3) rfl, hp, a.hw, kIa_nth (row := TPart.row) (sz := 4) (by omega) hpp' rfl, TPart.row, TVal.row, h1, hc]
  · rintro pre v rest e h a hp ⟨q0, q1, ix⟩
    obtain ⟨p, hpp⟩ : ∃ p, l[pre.length]? = some p := ⟨_, List.getElem?_eq_getElem (by have := a.lt; omega)⟩
    have hpp' : l[((pre.length : Int)).toNat]? = some p := by simpa using hpp
    have hc : C_spec_Fits [.agg [.int .i64 p.fCol, .int .i64 p.fType, .bool p.fNull, .bool p.fDesc], .agg [.int .i64 v.fK, .int .i64 v.fN, .str v.fS]] = some (.bool (fitsV p v)) := C_spec_Fits_eq p v trivial
    rw [fitAt_some hpp] at hp
    simp only [go_sem, kSt_ptr, Nat.reduceBEq, Nat.reduceAdd, Nat.reduceEqDiff, Nat.reduceLeDiff, Nat.reduceSub, reduceIte, Int.reduceBEq, Int.reduceEq, Int.reduceLT, Int.reduceLE, Int.reduceGT, Int.reduceGE, Int.reduceNe, Int.reduceBNe, s_spec_FitsAll_L0, q0, q1, ix, a.dl, a.ia (row := TVal.row) (sz := 3) rfl, hp, a.hw, kIa_nth (row := TPart.row) (sz := 4) (by omega) hpp' rfl, TPart.row, TVal.row, h1, hc]
  · rintro e h ⟨q0, q1, ix⟩
    simp only [go_sem, kSt_ptr, Nat.reduceBEq, Nat.reduceAdd, Nat.reduceEqDiff, Nat.reduceLeDiff, Nat.reduceSub, reduceIte, Int.reduceBEq, Int.reduceEq, Int.reduceLT, Int.reduceLE, Int.reduceGT, Int.reduceGE, Int.reduceNe, Int.reduceBNe, s_spec_FitsAll_L0, q0, q1, ix]
  · simp only [go_sem, kSt_ptr, Nat.reduceBEq, Nat.reduceAdd, Nat.reduceEqDiff, Nat.reduceLeDiff, Nat.reduceSub, reduceIte, Int.reduceBEq, Int.reduceEq, Int.reduceLT, Int.reduceLE, Int.reduceGT, Int.reduceGE, Int.reduceNe, Int.reduceBNe, and_self]
  · rintro x e h (⟨hp, rfl, j0, j1⟩ | ⟨hp, rfl, j⟩)
    · simp only [go_sem, kSt_ptr, Nat.reduceBEq, Nat.reduceAdd, Nat.reduceEqDiff, Nat.reduceLeDiff, Nat.reduceSub, reduceIte, Int.reduceBEq, Int.reduceEq, Int.reduceLT, Int.reduceLE, Int.reduceGT, Int.reduceGE, Int.reduceNe, Int.reduceBNe, fitsAll, hd, hp]
    · simp only [go_sem, kSt_ptr, Nat.reduceBEq, Nat.reduceAdd, Nat.reduceEqDiff, Nat.reduceLeDiff, Nat.reduceSub, reduceIte, Int.reduceBEq, Int.reduceEq, Int.reduceLT, Int.reduceLE, Int.reduceGT, Int.reduceGE, Int.reduceNe, Int.reduceBNe, s_spec_FitsAll, j, fitsAll, hd, hp]
def scanOk (s : List TDef) (c : TScan) : Bool := there s c.fT c.fI && (inR c.fLimit 0 100 && match s[c.fT.toNat]? with | some d => fitsAll (planOf d c.fI) c.fLo && fitsAll (planOf d c.fI) c.fHi | none => false)
theorem scanLens {c : TScan} (h : tScan.cost c ≤ 1048576) : c.fLo.length ≤ 1048576 ∧ c.fHi.length ≤ 1048576 := by
  have h0 : (c.fLo.length + costL tVal c.fLo) + (c.fHi.length + costL tVal c.fHi) ≤ 1048576 := h
  constructor <;> omega
noncomputable def C_spec_ScanOk := c2 (sliceT tDef) tScan (fun (s : List (TDef)) (c : TScan) => (sliceT tDef).good s ∧ tScan.good c) (.bool) fun (s : List (TDef)) (c : TScan) => scanOk s c
theorem C_spec_ScanOk_eq (s : List (TDef)) (c : TScan) (h : (sliceT tDef).good s ∧ tScan.good c) : C_spec_ScanOk [.imm (s.map TDef.row), .agg [.int .i64 c.fT, .int .i64 c.fI, .imm (c.fLo.map TVal.row), .imm (c.fHi.map TVal.row), .bool c.fLoEx, .bool c.fHiEx, .bool c.fRev, .int .i64 c.fLimit]] = some (.bool ((scanOk s c))) := c2_eq (sliceT tDef) tScan h
theorem ok_spec_ScanOk {WI : World → Prop} (hs : Stable WI) (cs) (hT : TOK (EE cs) WI) (h1 : (EE cs).T 64 = some C_spec_l11There) (h2 : (EE cs).T 65 = some C_spec_l1In) (h3 : (EE cs).T 66 = some C_spec_l11Plan) (h4 : (EE cs).T 67 = some C_spec_FitsAll) : PureOK Tryz.prog WI 29 C_spec_ScanOk := by
  refine pure2 (E := EE cs) hT hs (by rw [st_spec_ScanOk]; rfl) fun s c hp => out_wp (n := 0) (st_spec_ScanOk cs) ?_
  obtain ⟨⟨hs, _⟩, hc, _⟩ := hp
  obtain ⟨n1, n2⟩ := defsLens hs
  obtain ⟨m1, m2⟩ := scanLens hc
  have c1 : C_spec_l11There [.imm (s.map TDef.row), .int .i64 c.fT, .int .i64 c.fI] = some (.bool (there s c.fT c.fI)) := C_spec_l11There_eq s c.fT c.fI hs
  cases d1 : there s c.fT c.fI
  · simp only [go_sem, kSt_ptr, Nat.reduceBEq, Nat.reduceAdd, Nat.reduceEqDiff, Nat.reduceLeDiff, Nat.reduceSub, reduceIte, Int.reduceBEq, Int.reduceEq, Int.reduceLT, Int.reduceLE, Int.reduceGT, Int.reduceGE, Int.reduceNe, Int.reduceBNe, s_spec_ScanOk, TScan.row, h1, c1, d1, scanOk]
  cases d2 : inR c.fLimit 0 100
  · simp only [go_sem, kSt_ptr, Nat.reduceBEq, Nat.reduceAdd, Nat.reduceEqDiff, Nat.reduceLeDiff, Nat.reduceSub, reduceIte, Int.reduceBEq, Int.reduceEq, Int.reduceLT, Int.reduceLE, Int.reduceGT, Int.reduceGE, Int.reduceNe, Int.reduceBNe, s_spec_ScanOk, TScan.row, h1, c1, d1, h2, C_spec_l1In_eq, d2, scanOk]
  obtain ⟨d, hd, z1, hm, _, _, _⟩ := there_get d1
  have c3 : C_spec_l11Plan [.agg [.str d.fName, .imm (d.fCols.map TCol.row), .imm (d.fPrimary.map TBy.row), .imm (d.fIndexes.map TIndex.row)], .int .i64 c.fI] = some (.imm ((planOf d c.fI).map TPart.row)) := C_spec_l11Plan_eq d c.fI (n2 d hm)
  have hl := planOf_len d c.fI
  have c4 : ∀ vs : List TVal, vs.length ≤ 1048576 → C_spec_FitsAll [.imm ((planOf d c.fI).map TPart.row), .imm (vs.map TVal.row)] = some (.bool (fitsAll (planOf d c.fI) vs)) := fun vs hv => C_spec_FitsAll_eq _ vs ⟨by omega, hv⟩
  cases d3 : fitsAll (planOf d c.fI) c.fLo
  · simp only [go_sem, kSt_ptr, Nat.reduceBEq, Nat.reduceAdd, Nat.reduceEqDiff, Nat.reduceLeDiff, Nat.reduceSub, reduceIte, Int.reduceBEq, Int.reduceEq, Int.reduceLT, Int.reduceLE, Int.reduceGT, Int.reduceGE, Int.reduceNe, Int.reduceBNe, s_spec_ScanOk, TScan.row, h1, c1, d1, h2, C_spec_l1In_eq, d2, kIa_nth (row := TDef.row) (sz := 4) z1 hd rfl, TDef.row, h3, c3, h4, c4 c.fLo m1, d3, scanOk, hd]
  · simp only [go_sem, kSt_ptr, Nat.reduceBEq, Nat.reduceAdd, Nat.reduceEqDiff, Nat.reduceLeDiff, Nat.reduceSub, reduceIte, Int.reduceBEq, Int.reduceEq, Int.reduceLT, Int.reduceLE, Int.reduceGT, Int.reduceGE, Int.reduceNe, Int.reduceBNe, s_spec_ScanOk, TScan.row, h1, c1, d1, h2, C_spec_l1In_eq, d2, kIa_nth (row := TDef.row) (sz := 4) z1 hd rfl, TDef.row, h3, c3, h4, c4 c.fLo m1, c4 c.fHi m2, d3, scanOk, hd]
def sameV (a b : TVal) : Bool := a.fK == b.fK && (a.fN == b.fN && a.fS == b.fS)
theorem sameV_eq {a b : TVal} : sameV a b = true ↔ a = b := by
  cases a; cases b
  simp [sameV]
def lessV (a b : TVal) : Bool := if (a.fK == b.fK) = true then (if (a.fN == b.fN) = true then Op.bytesLess a.fS b.fS else decide (a.fN < b.fN)) else decide (a.fK < b.fK)
def lessP (p : TPart) (a b : TVal) : Bool := if p.fDesc = true then lessV b a else lessV a b
def lessAt (l : List TPart) (n : Nat) (a b : TVal) : Bool := match l[n]? with
  | some p => lessP p a b
  | none => false
def lessK (l : List TPart) : Nat → List TVal → List TVal → Bool
  | n, a :: x, b :: y => if sameV a b = true then lessK l (n + 1) x y else lessAt l n a b
  | _, [], _ :: _ => true
  | _, _, [] => false
def sameR (a b : List TVal) : Bool := match a, b with
  | [], [] => true
  | x :: a, y :: b => sameV x y && sameR a b
  | _, _ => false
theorem cmpVal (op : Bool) (a b : TVal) (h : Hp) : sBinF .eql [.int .i64, .int .i64, .str] (.agg [.int .i64 a.fK, .int .i64 a.fN, .str a.fS]) (.agg [.int .i64 b.fK, .int .i64 b.fN, .str b.fS]) = some (.bool (sameV a b)) := by
  cases h1 : (a.fK == b.fK) <;> cases h2 : (a.fN == b.fN) <;> cases h3 : (a.fS == b.fS) <;> simp [sBinF, eqCells, eqK, sameV, h1, h2, h3]
theorem cmpNeq (a b : TVal) : sBinF .neq [.int .i64, .int .i64, .str] (.agg [.int .i64 a.fK, .int .i64 a.fN, .str a.fS]) (.agg [.int .i64 b.fK, .int .i64 b.fN, .str b.fS]) = some (.bool (!sameV a b)) := by
  cases h1 : (a.fK == b.fK) <;> cases h2 : (a.fN == b.fN) <;> cases h3 : (a.fS == b.fS) <;> simp [sBinF, eqCells, eqK, sameV, h1, h2, h3]
theorem cmpEql (a b : TVal) : sBinF .eql [.int .i64, .int .i64, .str] (.agg [.int .i64 a.fK, .int .i64 a.fN, .str a.fS]) (.agg [.int .i64 b.fK, .int .i64 b.fN, .str b.fS]) = some (.bool (sameV a b)) := cmpVal true a b Hp.empty
def partOk (p : TPart) : Bool := inR p.fCol 0 9 && inR p.fType 1 4
def planOk (l : List TPart) : Bool := (l.all partOk) && decide ((l.length : Int) ≤ 6)
def rowOk (l : List TPart) (r : List TVal) : Bool := planOk l && (((r.length : Int) == (l.length : Int)) && fitsAll l r)
def pickV (row : List TVal) (p : TPart) : TVal := if inR p.fCol 0 ((row.length : Int) - 1) = true then (match row[p.fCol.toNat]? with | some v => v | none => ⟨0, 0, []⟩) else ⟨0, 0, []⟩
def pick (l : List TPart) (row : List TVal) : List TVal := l.map (pickV row)
theorem pick_snoc (l : List TPart) (p : TPart) (row : List TVal) : pick (l ++ [p]) row = pick l row ++ [pickV row p] := by simp [pick]
theorem pick_len (l : List TPart) (row : List TVal) : (pick l row).length = l.length := by simp [pick]
theorem pickV_in {row : List TVal} {p : TPart} {v : TVal} (h : inR p.fCol 0 ((row.length : Int) - 1) = true) (hv : row[p.fCol.toNat]? = some v) : pickV row p = v := by unfold pickV; rw [if_pos h, hv]
theorem pickV_out {row : List TVal} {p : TPart} (h : inR p.fCol 0 ((row.length : Int) - 1) = false) : pickV row p = ⟨0, 0, []⟩ := by unfold pickV; rw [if_neg (by rw [h]; decide)]
theorem valFill0 : sFill [.int .i64 0, .int .i64 0, .str []] [] = some [.int .i64 0, .int .i64 0, .str []] := rfl
theorem valFillR (k n : Int) (s : List UInt8) : fillR (List.replicate 1 [.int .i64 0, .int .i64 0, .str []]) 3 [(0, .agg [.int .i64 k, .int .i64 n, .str s])] = some [[.int .i64 k, .int .i64 n, .str s]] := rfl
theorem valFrzR (k n : Int) (s : List UInt8) : frzRows [[.int .i64 k, .int .i64 n, .str s]] = some [[.int .i64 k, .int .i64 n, .str s]] := rfl
def rowP (pre : List TCol) (c : TCol) : TPart := ⟨pre.length, c.fType, c.fNull, false⟩
def rowPlan (v : TDef) : List TPart := if checkDef v = 0 then mapP rowP [] v.fCols else []
theorem rowPlan_len {v : TDef} (h : tDef.cost v ≤ 1048576) : (rowPlan v).length ≤ 1048576 := by
  unfold rowPlan
  split
  · rw [mapP_len]; exact (defLens h).2.1
  · simp
theorem kSl_take {α : Type} {row : α → List AV} {l : List α} {sz n : Nat} (hn : n ≤ l.length) (hr : ∀ v, (row v).length = sz) (hne : sz ≠ 0) : sIdxL sz (.imm (l.map row)) none (some (.int .i64 n)) = some (.imm ((l.take n).map row)) := by
  have h1 : (l.take n).length = n := by rw [List.length_take]; omega
  have := kSl_pre (row := row) (l := l) (pre := l.take n) (rest := l.drop n) (by rw [List.take_append_drop]) hr hne
  rwa [h1] at this

theorem ltTot {α : Type} (r : α → α → Prop) [DecidableRel r] {a b : α} (h : r a b ↔ ¬ r b a) : decide (r a b) = !decide (r b a) := by
  by_cases hb : r b a
  · rw [decide_eq_true hb, decide_eq_false (fun ha => h.1 ha hb)]; rfl
  · rw [decide_eq_false hb, decide_eq_true (h.2 hb)]; rfl
theorem bless_total : ∀ (s t : List UInt8), s ≠ t → Op.bytesLess s t = !Op.bytesLess t s
  | [], [], h => absurd rfl h
  | [], b :: t, _ => by simp [Op.bytesLess]
  | a :: s, [], _ => by simp [Op.bytesLess]
  | a :: s, b :: t, h => by
    by_cases hab : a = b
    · subst hab
      have hst : s ≠ t := fun e => h (by rw [e])
      have ih := bless_total s t hst
      simp [Op.bytesLess, ih]
    · have h2 : ¬ b = a := fun e => hab e.symm
      have h3 : a.toNat ≠ b.toNat := fun e => hab (UInt8.toNat_inj.1 e)
      have e1 : Op.bytesLess (a :: s) (b :: t) = decide (a < b) := by simp [Op.bytesLess, hab]
      have e2 : Op.bytesLess (b :: t) (a :: s) = decide (b < a) := by simp [Op.bytesLess, h2]
      rw [e1, e2]
      exact ltTot (fun x y => x < y) (by rw [UInt8.lt_iff_toNat_lt, UInt8.lt_iff_toNat_lt]; omega)
theorem lessV_total {a b : TVal} (h : sameV a b = false) : lessV a b = !lessV b a := by
  unfold lessV
  by_cases h1 : a.fK = b.fK
  · by_cases h2 : a.fN = b.fN
    · have h3 : a.fS ≠ b.fS := fun e => by
        have : sameV a b = true := by simp [sameV, h1, h2, e]
        rw [this] at h; cases h
      simp [h1, h2, bless_total _ _ h3]
    · have h2' : ¬ b.fN = a.fN := fun e => h2 e.symm
      have e1 : (if (a.fK == b.fK) = true then (if (a.fN == b.fN) = true then Op.bytesLess a.fS b.fS else decide (a.fN < b.fN)) else decide (a.fK < b.fK)) = decide (a.fN < b.fN) := by simp [h1, h2]
      have e2 : (if (b.fK == a.fK) = true then (if (b.fN == a.fN) = true then Op.bytesLess b.fS a.fS else decide (b.fN < a.fN)) else decide (b.fK < a.fK)) = decide (b.fN < a.fN) := by simp [h1, h2']
      rw [e1, e2]
      exact ltTot (fun x y : Int => x < y) (by omega)
  · have h1' : ¬ b.fK = a.fK := fun e => h1 e.symm
    have e1 : (if (a.fK == b.fK) = true then (if (a.fN == b.fN) = true then Op.bytesLess a.fS b.fS else decide (a.fN < b.fN)) else decide (a.fK < b.fK)) = decide (a.fK < b.fK) := by simp [h1]
    have e2 : (if (b.fK == a.fK) = true then (if (b.fN == a.fN) = true then Op.bytesLess b.fS a.fS else decide (b.fN < a.fN)) else decide (b.fK < a.fK)) = decide (b.fK < a.fK) := by simp [h1']
    rw [e1, e2]
    exact ltTot (fun x y : Int => x < y) (by omega)
theorem sameV_comm (a b : TVal) : sameV a b = sameV b a := by
  cases h : sameV b a
  · cases h2 : sameV a b
    · rfl
    · have := sameV_eq.1 h2; subst this; rw [h2] at h; exact h
  · have := sameV_eq.1 h; subst this; exact h
theorem sameR_comm : ∀ (a b : List TVal), sameR a b = sameR b a
  | [], [] => rfl
  | [], _ :: _ => rfl
  | _ :: _, [] => rfl
  | x :: a, y :: b => by simp only [sameR, sameV_comm x y, sameR_comm a b]
theorem trich (l : List TPart) : ∀ (a b : List TVal) (n : Nat), a.length = b.length → n + a.length ≤ l.length →
    (sameR a b = true ∧ lessK l n a b = false ∧ lessK l n b a = false) ∨ (sameR a b = false ∧ lessK l n a b = !lessK l n b a)
  | [], [], n, _, _ => .inl ⟨rfl, rfl, rfl⟩
  | [], _ :: _, _, h, _ => by simp at h
  | _ :: _, [], _, h, _ => by simp at h
  | x :: a, y :: b, n, h, hl => by
    simp only [List.length_cons] at h hl
    simp only [sameR, lessK, sameV_comm y x]
    cases hv : sameV x y
    · refine .inr ⟨rfl, ?_⟩
      obtain ⟨p, hp⟩ : ∃ p, l[n]? = some p := ⟨_, List.getElem?_eq_getElem (by omega)⟩
      have hv2 : sameV y x = false := by rw [sameV_comm]; exact hv
      simp only [Bool.false_eq_true, if_false, lessAt, hp, lessP]
      split
      · exact lessV_total hv2
      · exact lessV_total hv
    · simp only [Bool.true_and, if_true]
      exact trich l a b (n + 1) (by omega) (by omega)
theorem sameR_nil {a b : List TVal} (h : sameR a b = false) (hl : a.length = b.length) : 0 < b.length := by
  cases b with
  | nil => cases a with
    | nil => cases h
    | cons x a => simp at hl
  | cons y b => simp
end Go.Proofs.YtienjjjhjeigmaaGreatDoor.Is
/- What the functions that FnExactInScan calls answer: part 7. -/
namespace Go.Proofs.YtienjjjhjeigmaaGreatDoor.Is
open Go Go.RowKit Go.Ev
set_option linter.unusedSimpArgs false
set_option linter.unusedVariables false
set_option maxHeartbeats 1600000
noncomputable def C_spec_RowPlan := c1 tDef (fun (v : TDef) => tDef.cost v ≤ 1048576) (fun x => .app 4 (x.map TPart.row)) fun (v : TDef) => rowPlan v
theorem C_spec_RowPlan_eq (v : TDef) (h : tDef.cost v ≤ 1048576) : C_spec_RowPlan [.agg [.str v.fName, .imm (v.fCols.map TCol.row), .imm (v.fPrimary.map TBy.row), .imm (v.fIndexes.map TIndex.row)]] = some (.app 4 ((rowPlan v).map TPart.row)) := c1_eq tDef h
theorem ok_spec_RowPlan {WI : World → Prop} (hs : Stable WI) (cs) (hT : TOK (EE cs) WI) (h1 : (EE cs).T 69 = some C_spec_CheckDef) (h2 : (EE cs).T 70 = some C_spec_l11Part) : FreshOK Tryz.prog WI 31 C_spec_RowPlan := by
  refine pure1F (E := EE cs) hT hs (by rw [st_spec_RowPlan]; rfl) fun v hp => outF_wp (sz := 4) (st_spec_RowPlan cs) ?_
  obtain ⟨n1, n2, n3, n4, n5, n6⟩ := defLens hp
  have hf0 : frzRows [] = some [] := rfl
  have c1 : C_spec_CheckDef [.agg [.str v.fName, .imm (v.fCols.map TCol.row), .imm (v.fPrimary.map TBy.row), .imm (v.fIndexes.map TIndex.row)]] = some (.int .i64 (checkDef v)) := C_spec_CheckDef_eq v hp
  simp only [go_sem, kSt_ptr, Nat.reduceBEq, Nat.reduceAdd, Nat.reduceEqDiff, Nat.reduceLeDiff, Nat.reduceSub, reduceIte, Int.reduceBEq, Int.reduceEq, Int.reduceLT, Int.reduceLE, Int.reduceGT, Int.reduceGE, Int.reduceNe, Int.reduceBNe, s_spec_RowPlan, TDef.row, fillR, List.replicate, hf0]
  by_cases d : checkDef v = 0
  · have hrp : rowPlan v = mapP rowP [] v.fCols := by unfold rowPlan; rw [if_pos d]
    rw [hrp]
    refine (wl_for (l := v.fCols) (fun pre e h => e 1 = .ptr 0 0 ∧ h.hp 0 = some v.row ∧ 0 < h.nx ∧ grows tPart (mapP rowP [] pre) (e 3) h ∧ e 4 = .int .i64 pre.length) (.exit 0) (fun e h => grows tPart (mapP rowP [] v.fCols) (e 3) h) (by omega) ?_ ?_ (by simp) v.fCols [] _ _ rfl ?_).mono ?_
    · rintro pre p rest e h a ⟨q0, q1, q2, q3, ix⟩
      have hlen : (mapP rowP [] pre).length ≤ 1048576 := by rw [mapP_len]; have := a.lt; omega
      have hlt := a.lt
      have hpt : C_spec_l11Part [.agg [.str v.fName, .imm (v.fCols.map TCol.row), .imm (v.fPrimary.map TBy.row), .imm (v.fIndexes.map TIndex.row)], .int .i64 pre.length, .bool false] = some (.agg (partOf v pre.length false).row) := C_spec_l11Part_eq v pre.length false ⟨by omega, by simpa using hlt⟩
      have hpo : partOf v pre.length false = rowP pre p := by unfold partOf; rw [a.hl]; simp [rowP]
      have hsn := mapP_nil rowP pre p
      rw [hpo] at hpt
      simp only [go_sem, kSt_ptr, Nat.reduceBEq, Nat.reduceAdd, Nat.reduceEqDiff, Nat.reduceLeDiff, Nat.reduceSub, reduceIte, Int.reduceBEq, Int.reduceEq, Int.reduceLT, Int.reduceLE, Int.reduceGT, Int.reduceGE, Int.reduceNe, Int.reduceBNe, s_spec_RowPlan_L0, q0, q1, q2, q3, ix, a.dl, a.ia (row := TCol.row) (sz := 3) rfl, a.hw, TDef.row, h1, c1, d, h2, hpt, partFillR, partFrz]
      refine hP_grow [rowP pre p] rfl (q3.mono (by simp <;> omega) (fun r hr => by simp <;> omega)) rfl (by simp only [List.length_cons, List.length_nil]; unfold room; omega) ?_
      intro v' h' g1 g2 g3 _
      have g3' : 0 < h'.nx := by simp at g3; omega
      simp only [go_sem, kSt_ptr, Nat.reduceBEq, Nat.reduceAdd, Nat.reduceEqDiff, Nat.reduceLeDiff, Nat.reduceSub, reduceIte, Int.reduceBEq, Int.reduceEq, Int.reduceLT, Int.reduceLE, Int.reduceGT, Int.reduceGE, Int.reduceNe, Int.reduceBNe, q0, q1, ix, g2, g3', TDef.row, a.hw, hsn, g1]
    · rintro e h ⟨q0, q1, q2, q3, ix⟩
      simp only [go_sem, kSt_ptr, Nat.reduceBEq, Nat.reduceAdd, Nat.reduceEqDiff, Nat.reduceLeDiff, Nat.reduceSub, reduceIte, Int.reduceBEq, Int.reduceEq, Int.reduceLT, Int.reduceLE, Int.reduceGT, Int.reduceGE, Int.reduceNe, Int.reduceBNe, s_spec_RowPlan_L0, q0, q1, q2, q3, ix, TDef.row, h1, c1, d]
    · exact ⟨rfl, rfl, Nat.succ_pos _, .inr ⟨1, rfl, rfl, Nat.lt_succ_self 1⟩, rfl⟩
    · rintro x e h ⟨rfl, j⟩
      simp only [go_sem, kSt_ptr, Nat.reduceBEq, Nat.reduceAdd, Nat.reduceEqDiff, Nat.reduceLeDiff, Nat.reduceSub, reduceIte, Int.reduceBEq, Int.reduceEq, Int.reduceLT, Int.reduceLE, Int.reduceGT, Int.reduceGE, Int.reduceNe, Int.reduceBNe]
      exact frR_grows j rfl
  · have hrp : rowPlan v = [] := by unfold rowPlan; rw [if_neg d]
    rw [hrp]
    refine .step (wp_sound _ _ _ _ ?_)
    cases hd : decide ((0 : Int) < v.fCols.length)
    · simp only [go_sem, kSt_ptr, Nat.reduceBEq, Nat.reduceAdd, Nat.reduceEqDiff, Nat.reduceLeDiff, Nat.reduceSub, reduceIte, Int.reduceBEq, Int.reduceEq, Int.reduceLT, Int.reduceLE, Int.reduceGT, Int.reduceGE, Int.reduceNe, Int.reduceBNe, s_spec_RowPlan_L0, TDef.row, hd]
      exact frR_grows (T := tPart) (l := []) (.inr ⟨1, rfl, rfl, Nat.lt_succ_self 1⟩) rfl
    · simp only [go_sem, kSt_ptr, Nat.reduceBEq, Nat.reduceAdd, Nat.reduceEqDiff, Nat.reduceLeDiff, Nat.reduceSub, reduceIte, Int.reduceBEq, Int.reduceEq, Int.reduceLT, Int.reduceLE, Int.reduceGT, Int.reduceGE, Int.reduceNe, Int.reduceBNe, s_spec_RowPlan_L0, TDef.row, hd, h1, c1, beqF d]
      exact frR_grows (T := tPart) (l := []) (.inr ⟨1, rfl, rfl, Nat.lt_succ_self 1⟩) rfl
noncomputable def C_spec_PartOk := c1 tPart (fun (p : TPart) => True) (.bool) fun (p : TPart) => partOk p
theorem C_spec_PartOk_eq (p : TPart) (h : True) : C_spec_PartOk [.agg [.int .i64 p.fCol, .int .i64 p.fType, .bool p.fNull, .bool p.fDesc]] = some (.bool ((partOk p))) := c1_eq tPart h
theorem ok_spec_PartOk {WI : World → Prop} (hs : Stable WI) (cs) (hT : TOK (EE cs) WI) (h1 : (EE cs).T 65 = some C_spec_l1In) : PureOK Tryz.prog WI 136 C_spec_PartOk := by
  refine pure1 (E := EE cs) hT hs (by rw [st_spec_PartOk]; rfl) fun p hp => out_wp (n := 0) (st_spec_PartOk cs) ?_
  cases d : inR p.fCol 0 9
  · simp only [go_sem, kSt_ptr, Nat.reduceBEq, Nat.reduceAdd, Nat.reduceEqDiff, Nat.reduceLeDiff, Nat.reduceSub, reduceIte, Int.reduceBEq, Int.reduceEq, Int.reduceLT, Int.reduceLE, Int.reduceGT, Int.reduceGE, Int.reduceNe, Int.reduceBNe, s_spec_PartOk, TPart.row, h1, C_spec_l1In_eq, d, partOk]
  · simp only [go_sem, kSt_ptr, Nat.reduceBEq, Nat.reduceAdd, Nat.reduceEqDiff, Nat.reduceLeDiff, Nat.reduceSub, reduceIte, Int.reduceBEq, Int.reduceEq, Int.reduceLT, Int.reduceLE, Int.reduceGT, Int.reduceGE, Int.reduceNe, Int.reduceBNe, s_spec_PartOk, TPart.row, h1, C_spec_l1In_eq, d, partOk]
noncomputable def C_spec_PlanOk := c1 (sliceT tPart) (fun (l : List (TPart)) => l.length ≤ 1048576) (.bool) fun (l : List (TPart)) => planOk l
theorem C_spec_PlanOk_eq (l : List (TPart)) (h : l.length ≤ 1048576) : C_spec_PlanOk [.imm (l.map TPart.row)] = some (.bool ((planOk l))) := c1_eq (sliceT tPart) h
theorem ok_spec_PlanOk {WI : World → Prop} (hs : Stable WI) (cs) (hT : TOK (EE cs) WI) (h1 : (EE cs).T 136 = some C_spec_PartOk) : PureOK Tryz.prog WI 68 C_spec_PlanOk := by
  refine pure1 (E := EE cs) hT hs (by rw [st_spec_PlanOk]; rfl) fun l hp => out_wp (n := 0) (st_spec_PlanOk cs) ?_
  simp only [go_sem, kSt_ptr, Nat.reduceBEq, Nat.reduceAdd, Nat.reduceEqDiff, Nat.reduceLeDiff, Nat.reduceSub, reduceIte, Int.reduceBEq, Int.reduceEq, Int.reduceLT, Int.reduceLE, Int.reduceGT, Int.reduceGE, Int.reduceNe, Int.reduceBNe, s_spec_PlanOk]
  refine (wl_all (l := l) (fun pre p => partOk p) (fun pre e h => e 0 = .imm (l.map TPart.row) ∧ e 3 = .int .i64 pre.length) (.exit 0) (fun e h => e 0 = .imm (l.map TPart.row)) (fun e h => e 2 = .bool false) (by omega) ?_ ?_ ?_ (by simp) l [] _ _ rfl ?_).mono ?_
  · rintro pre p rest e h a hp ⟨q0, ix⟩
    have hc : C_spec_PartOk [.agg [.int .i64 p.fCol, .int .i64 p.fType, .bool p.fNull, .bool p.fDesc]] = some (.bool (partOk p)) := C_spec_PartOk_eq p trivial
    simp only [go_sem, kSt_ptr, Nat.reduceBEq, Nat.reduceAdd, Nat.reduceEqDiff, Nat.reduceLeDiff, Nat.reduceSub, reduceIte, Int.reduceBEq, Int.reduceEq, Int.reduceLT, Int.reduceLE, Int.reduceGT, Int.reduceGE, Int.reduceNe, Int.reduceBNe, s_spec_PlanOk_L0, q0, ix, a.dl, a.ia (row := TPart.row) (sz := 4) rfl, hp, a.hw, TPart.row, h1, hc]
  · rintro pre p rest e h a hp ⟨q0, ix⟩
    have hc : C_spec_PartOk [.agg [.int .i64 p.fCol, .int .i64 p.fType, .bool p.fNull, .bool p.fDesc]] = some (.bool (partOk p)) := C_spec_PartOk_eq p trivial
    simp only [go_sem, kSt_ptr, Nat.reduceBEq, Nat.reduceAdd, Nat.reduceEqDiff, Nat.reduceLeDiff, Nat.reduceSub, reduceIte, Int.reduceBEq, Int.reduceEq, Int.reduceLT, Int.reduceLE, Int.reduceGT, Int.reduceGE, Int.reduceNe, Int.reduceBNe, s_spec_PlanOk_L0, q0, ix, a.dl, a.ia (row := TPart.row) (sz := 4) rfl, hp, a.hw, TPart.row, h1, hc]
  · rintro e h ⟨q0, ix⟩
    simp only [go_sem, kSt_ptr, Nat.reduceBEq, Nat.reduceAdd, Nat.reduceEqDiff, Nat.reduceLeDiff, Nat.reduceSub, reduceIte, Int.reduceBEq, Int.reduceEq, Int.reduceLT, Int.reduceLE, Int.reduceGT, Int.reduceGE, Int.reduceNe, Int.reduceBNe, s_spec_PlanOk_L0, q0, ix]
  · simp only [go_sem, kSt_ptr, Nat.reduceBEq, Nat.reduceAdd, Nat.reduceEqDiff, Nat.reduceLeDiff, Nat.reduceSub, reduceIte, Int.reduceBEq, Int.reduceEq, Int.reduceLT, Int.reduceLE, Int.reduceGT, Int.reduceGE, Int.reduceNe, Int.reduceBNe, and_self]
  · rintro x e h (⟨hp, rfl, j0⟩ | ⟨hp, rfl, j⟩)
    · rw [allP_all] at hp
      simp only [go_sem, kSt_ptr, Nat.reduceBEq, Nat.reduceAdd, Nat.reduceEqDiff, Nat.reduceLeDiff, Nat.reduceSub, reduceIte, Int.reduceBEq, Int.reduceEq, Int.reduceLT, Int.reduceLE, Int.reduceGT, Int.reduceGE, Int.reduceNe, Int.reduceBNe, j0, planOk, hp]
    · rw [allP_all] at hp
      simp only [go_sem, kSt_ptr, Nat.reduceBEq, Nat.reduceAdd, Nat.reduceEqDiff, Nat.reduceLeDiff, Nat.reduceSub, reduceIte, Int.reduceBEq, Int.reduceEq, Int.reduceLT, Int.reduceLE, Int.reduceGT, Int.reduceGE, Int.reduceNe, Int.reduceBNe, s_spec_PlanOk, j, planOk, hp]
noncomputable def C_spec_RowOk := c2 (sliceT tPart) (sliceT tVal) (fun (l : List (TPart)) (r : List (TVal)) => l.length ≤ 1048576 ∧ r.length ≤ 1048576) (.bool) fun (l : List (TPart)) (r : List (TVal)) => rowOk l r
theorem C_spec_RowOk_eq (l : List (TPart)) (r : List (TVal)) (h : l.length ≤ 1048576 ∧ r.length ≤ 1048576) : C_spec_RowOk [.imm (l.map TPart.row), .imm (r.map TVal.row)] = some (.bool ((rowOk l r))) := c2_eq (sliceT tPart) (sliceT tVal) h
theorem ok_spec_RowOk {WI : World → Prop} (hs : Stable WI) (cs) (hT : TOK (EE cs) WI) (h1 : (EE cs).T 68 = some C_spec_PlanOk) (h2 : (EE cs).T 67 = some C_spec_FitsAll) : PureOK Tryz.prog WI 30 C_spec_RowOk := by
  refine pure2 (E := EE cs) hT hs (by rw [st_spec_RowOk]; rfl) fun l r hp => out_wp (n := 0) (st_spec_RowOk cs) ?_
  have c1 := C_spec_PlanOk_eq l hp.1
  have c2 := C_spec_FitsAll_eq l r hp
  cases d1 : planOk l
  · simp only [go_sem, kSt_ptr, Nat.reduceBEq, Nat.reduceAdd, Nat.reduceEqDiff, Nat.reduceLeDiff, Nat.reduceSub, reduceIte, Int.reduceBEq, Int.reduceEq, Int.reduceLT, Int.reduceLE, Int.reduceGT, Int.reduceGE, Int.reduceNe, Int.reduceBNe, s_spec_RowOk, h1, c1, d1, rowOk]
  cases d2 : ((r.length : Int) == (l.length : Int))
  · simp only [go_sem, kSt_ptr, Nat.reduceBEq, Nat.reduceAdd, Nat.reduceEqDiff, Nat.reduceLeDiff, Nat.reduceSub, reduceIte, Int.reduceBEq, Int.reduceEq, Int.reduceLT, Int.reduceLE, Int.reduceGT, Int.reduceGE, Int.reduceNe, Int.reduceBNe, s_spec_RowOk, h1, c1, d1, d2, rowOk]
  · simp only [go_sem, kSt_ptr, Nat.reduceBEq, Nat.reduceAdd, Nat.reduceEqDiff, Nat.reduceLeDiff, Nat.reduceSub, reduceIte, Int.reduceBEq, Int.reduceEq, Int.reduceLT, Int.reduceLE, Int.reduceGT, Int.reduceGE, Int.reduceNe, Int.reduceBNe, s_spec_RowOk, h1, c1, d1, d2, h2, c2, rowOk]
noncomputable def C_spec_Pick := c2 (sliceT tPart) (sliceT tVal) (fun (l : List (TPart)) (row : List (TVal)) => l.length ≤ 1048576 ∧ row.length ≤ 1048576) (fun x => .app 3 (x.map TVal.row)) fun (l : List (TPart)) (row : List (TVal)) => pick l row
theorem C_spec_Pick_eq (l : List (TPart)) (row : List (TVal)) (h : l.length ≤ 1048576 ∧ row.length ≤ 1048576) : C_spec_Pick [.imm (l.map TPart.row), .imm (row.map TVal.row)] = some (.app 3 ((pick l row).map TVal.row)) := c2_eq (sliceT tPart) (sliceT tVal) h
theorem ok_spec_Pick {WI : World → Prop} (hs : Stable WI) (cs) (hT : TOK (EE cs) WI) (h1 : (EE cs).T 65 = some C_spec_l1In) : FreshOK Tryz.prog WI 71 C_spec_Pick := by
  refine pure2F (E := EE cs) hT hs (by rw [st_spec_Pick]; rfl) fun l row hp => outF_wp (sz := 3) (st_spec_Pick cs) ?_
  obtain ⟨n1, n2⟩ := hp
  have hw1 : IntKind.wrap .i64 ((row.length : Int) - 1) = (row.length : Int) - 1 := wrapId (by omega) (by omega)
  have hf0 : frzRows [] = some [] := rfl
  simp only [go_sem, kSt_ptr, Nat.reduceBEq, Nat.reduceAdd, Nat.reduceEqDiff, Nat.reduceLeDiff, Nat.reduceSub, reduceIte, Int.reduceBEq, Int.reduceEq, Int.reduceLT, Int.reduceLE, Int.reduceGT, Int.reduceGE, Int.reduceNe, Int.reduceBNe, s_spec_Pick, fillR, List.replicate, hf0]
  refine (wl_for (l := l) (fun pre e h => e 0 = .imm (l.map TPart.row) ∧ e 1 = .imm (row.map TVal.row) ∧ grows tVal (pick pre row) (e 5) h ∧ e 6 = .int .i64 pre.length) (.exit 0) (fun e h => grows tVal (pick l row) (e 5) h) (by omega) ?_ ?_ (by simp) l [] _ _ rfl ?_).mono ?_
  · rintro pre p rest e h a ⟨q0, q1, q2, ix⟩
    have hlen : (pick pre row).length ≤ 1048576 := by rw [pick_len]; have := a.lt; omega
    cases hin : inR p.fCol 0 ((row.length : Int) - 1)
    · have hsn : pick (pre ++ [p]) row = pick pre row ++ [⟨0, 0, []⟩] := by rw [pick_snoc, pickV_out hin]
      simp only [go_sem, kSt_ptr, Nat.reduceBEq, Nat.reduceAdd, Nat.reduceEqDiff, Nat.reduceLeDiff, Nat.reduceSub, reduceIte, Int.reduceBEq, Int.reduceEq, Int.reduceLT, Int.reduceLE, Int.reduceGT, Int.reduceGE, Int.reduceNe, Int.reduceBNe, s_spec_Pick_L0, q0, q1, ix, a.dl, a.ia (row := TPart.row) (sz := 4) rfl, a.hw, TPart.row, h1, C_spec_l1In_eq, hw1, hin, valFill0, valFillR, valFrzR]
      refine hP_grow [(⟨0, 0, []⟩ : TVal)] rfl (q2.mono (by simp <;> omega) (fun r hr => by simp <;> omega)) rfl (by simp only [List.length_cons, List.length_nil]; unfold room; omega) ?_
      intro v' h' g1 g2 g3 _
      simp only [go_sem, kSt_ptr, Nat.reduceBEq, Nat.reduceAdd, Nat.reduceEqDiff, Nat.reduceLeDiff, Nat.reduceSub, reduceIte, Int.reduceBEq, Int.reduceEq, Int.reduceLT, Int.reduceLE, Int.reduceGT, Int.reduceGE, Int.reduceNe, Int.reduceBNe, q0, q1, ix, a.hw, hsn, g1]
    obtain ⟨z1, z2⟩ := inR_nat hin
    obtain ⟨w, hw⟩ : ∃ w, row[p.fCol.toNat]? = some w := ⟨_, List.getElem?_eq_getElem z2⟩
    have hsn : pick (pre ++ [p]) row = pick pre row ++ [w] := by rw [pick_snoc, pickV_in hin hw]
    simp only [go_sem, kSt_ptr, Nat.reduceBEq, Nat.reduceAdd, Nat.reduceEqDiff, Nat.reduceLeDiff, Nat.reduceSub, reduceIte, Int.reduceBEq, Int.reduceEq, Int.reduceLT, Int.reduceLE, Int.reduceGT, Int.reduceGE, Int.reduceNe, Int.reduceBNe, s_spec_Pick_L0, q0, q1, q2, ix, a.dl, a.ia (row := TPart.row) (sz := 4) rfl, a.hw, TPart.row, TVal.row, h1, C_spec_l1In_eq, hw1, hin, kIa_nth (row := TVal.row) (sz := 3) z1 hw rfl, valFill0, valFillR, valFrzR]
    refine hP_grow [w] rfl (q2.mono (by simp <;> omega) (fun r hr => by simp <;> omega)) rfl (by simp only [List.length_cons, List.length_nil]; unfold room; omega) ?_
    intro v' h' g1 g2 g3 _
    simp only [go_sem, kSt_ptr, Nat.reduceBEq, Nat.reduceAdd, Nat.reduceEqDiff, Nat.reduceLeDiff, Nat.reduceSub, reduceIte, Int.reduceBEq, Int.reduceEq, Int.reduceLT, Int.reduceLE, Int.reduceGT, Int.reduceGE, Int.reduceNe, Int.reduceBNe, q0, q1, ix, a.hw, hsn, g1]
  · rintro e h ⟨q0, q1, q2, ix⟩
    simp only [go_sem, kSt_ptr, Nat.reduceBEq, Nat.reduceAdd, Nat.reduceEqDiff, Nat.reduceLeDiff, Nat.reduceSub, reduceIte, Int.reduceBEq, Int.reduceEq, Int.reduceLT, Int.reduceLE, Int.reduceGT, Int.reduceGE, Int.reduceNe, Int.reduceBNe, s_spec_Pick_L0, q0, q1, q2, ix]
  · exact ⟨rfl, rfl, .inr ⟨0, rfl, rfl, Nat.lt_succ_self 0⟩, rfl⟩
  · rintro x e h ⟨rfl, j⟩
    simp only [go_sem, kSt_ptr, Nat.reduceBEq, Nat.reduceAdd, Nat.reduceEqDiff, Nat.reduceLeDiff, Nat.reduceSub, reduceIte, Int.reduceBEq, Int.reduceEq, Int.reduceLT, Int.reduceLE, Int.reduceGT, Int.reduceGE, Int.reduceNe, Int.reduceBNe]
    exact frR_grows j rfl
def sameAt (b : List TVal) (pre : List TVal) (v : TVal) : Bool := match b[pre.length]? with | some w => sameV v w | none => false
theorem sameAt_some {b pre : List TVal} {v w : TVal} (h : b[pre.length]? = some w) : sameAt b pre v = sameV v w := by unfold sameAt; rw [h]
theorem sameR_all : ∀ (a pa b pb : List TVal), a.length = b.length → pa.length = pb.length → sameR a b = allP (sameAt (pb ++ b)) pa a
  | [], pa, [], pb, _, _ => rfl
  | x :: a, pa, y :: b, pb, h, hp => by
    have hg : (pb ++ y :: b)[pa.length]? = some y := by rw [hp, List.getElem?_append_right (Nat.le_refl _)]; simp
    simp only [sameR, allP, sameAt_some hg]
    rw [sameR_all a (pa ++ [x]) b (pb ++ [y]) (by simpa using h) (by simp [hp])]
    simp only [List.append_assoc, List.cons_append, List.nil_append]
  | [], _, _ :: _, _, h, _ => by simp at h
  | _ :: _, _, [], _, h, _ => by simp at h
theorem sameR_len : ∀ {a b : List TVal}, a.length ≠ b.length → sameR a b = false
  | [], [], h => absurd rfl h
  | [], _ :: _, _ => rfl
  | _ :: _, [], _ => rfl
  | a :: x, b :: y, h => by simp only [sameR, sameR_len (a := x) (b := y) (by simpa using h), Bool.and_false]
noncomputable def C_spec_SameRow := c2 (sliceT tVal) (sliceT tVal) (fun (u : List (TVal)) (t : List (TVal)) => u.length ≤ 1048576 ∧ t.length ≤ 1048576) (.bool) fun (u : List (TVal)) (t : List (TVal)) => sameR u t
theorem C_spec_SameRow_eq (u : List (TVal)) (t : List (TVal)) (h : u.length ≤ 1048576 ∧ t.length ≤ 1048576) : C_spec_SameRow [.imm (u.map TVal.row), .imm (t.map TVal.row)] = some (.bool ((sameR u t))) := c2_eq (sliceT tVal) (sliceT tVal) h
theorem ok_spec_SameRow {WI : World → Prop} (hs : Stable WI) (cs) (hT : TOK (EE cs) WI) : PureOK Tryz.prog WI 72 C_spec_SameRow := by
  refine pure2 (E := EE cs) hT hs (by rw [st_spec_SameRow]; rfl) fun u t hp => out_wp (n := 0) (st_spec_SameRow cs) ?_
  obtain ⟨n1, n2⟩ := hp
  by_cases hlen : (u.length : Int) = (t.length : Int)
  · have hq := sameR_all u [] t [] (by omega) rfl
    rw [List.nil_append] at hq
    simp only [go_sem, kSt_ptr, Nat.reduceBEq, Nat.reduceAdd, Nat.reduceEqDiff, Nat.reduceLeDiff, Nat.reduceSub, reduceIte, Int.reduceBEq, Int.reduceEq, Int.reduceLT, Int.reduceLE, Int.reduceGT, Int.reduceGE, Int.reduceNe, Int.reduceBNe, s_spec_SameRow, hlen]
    refine (wl_all (l := u) (fun pre v => sameAt t pre v) (fun pre e h => e 0 = .imm (u.map TVal.row) ∧ e 1 = .imm (t.map TVal.row) ∧ e 5 = .int .i64 pre.length) (.exit 0) (fun e h => e 0 = .imm (u.map TVal.row) ∧ e 1 = .imm (t.map TVal.row)) (fun e h => e 4 = .bool false) (by omega) ?_ ?_ ?_ (by simp) u [] _ _ rfl ?_).mono ?_
    · rintro pre v rest e h a hp ⟨q0, q1, ix⟩
      obtain ⟨w, hw⟩ : ∃ w, t[pre.length]? = some w := ⟨_, List.getElem?_eq_getElem (by have := a.lt; omega)⟩
      have hw' : t[((pre.length : Int)).toNat]? = some w := by simpa using hw
      rw [sameAt_some hw] at hp
      simp only [go_sem, kSt_ptr, Nat.reduceBEq, Nat.reduceAdd, Nat.reduceEqDiff, Nat.reduceLeDiff, Nat.reduceSub, reduceIte, Int.reduceBEq, Int.reduceEq, Int.reduceLT, Int.reduceLE, Int.reduceGT, Int.reduceGE, Int.reduceNe, Int.reduceBNe, s_spec_SameRow_L0, q0, q1, ix, a.dl, a.ia (row := TVal.row) (sz := 3) rfl, hp, a.hw, TVal.row, kIa_nth (row := TVal.row) (sz := 3) (by omega) hw' rfl, cmpNeq]
    · rintro pre v rest e h a hp ⟨q0, q1, ix⟩
      obtain ⟨w, hw⟩ : ∃ w, t[pre.length]? = some w := ⟨_, List.getElem?_eq_getElem (by have := a.lt; omega)⟩
      have hw' : t[((pre.length : Int)).toNat]? = some w := by simpa using hw
      rw [sameAt_some hw] at hp
      simp only [go_sem, kSt_ptr, Nat.reduceBEq, Nat.reduceAdd, Nat.reduceEqDiff, Nat.reduceLeDiff, Nat.reduceSub, reduceIte, Int.reduceBEq, Int.reduceEq, Int.reduceLT, Int.reduceLE, Int.reduceGT, Int.reduceGE, Int.reduceNe, Int.reduceBNe, s_spec_SameRow_L0, q0, q1, ix, a.dl, a.ia (row := TVal.row) (sz := 3) rfl, hp, a.hw, TVal.row, kIa_nth (row := TVal.row) (sz := 3) (by omega) hw' rfl, cmpNeq]
    · rintro e h ⟨q0, q1, ix⟩
      simp only [go_sem, kSt_ptr, Nat.reduceBEq, Nat.reduceAdd, Nat.reduceEqDiff, Nat.reduceLeDiff, Nat.reduceSub, reduceIte, Int.reduceBEq, Int.reduceEq, Int.reduceLT, Int.reduceLE, Int.reduceGT, Int.reduceGE, Int.reduceNe, Int.reduceBNe, s_spec_SameRow_L0, q0, q1, ix]
    · simp only [go_sem, kSt_ptr, Nat.reduceBEq, Nat.reduceAdd, Nat.reduceEqDiff, Nat.reduceLeDiff, Nat.reduceSub, reduceIte, Int.reduceBEq, Int.reduceEq, Int.reduceLT, Int.reduceLE, Int.reduceGT, Int.reduceGE, Int.reduceNe, Int.reduceBNe, and_self]
    · rintro x e h (⟨hp, rfl, j⟩ | ⟨hp, rfl, j⟩)
      · simp only [go_sem, kSt_ptr, Nat.reduceBEq, Nat.reduceAdd, Nat.reduceEqDiff, Nat.reduceLeDiff, Nat.reduceSub, reduceIte, Int.reduceBEq, Int.reduceEq, Int.reduceLT, Int.reduceLE, Int.reduceGT, Int.reduceGE, Int.reduceNe, Int.reduceBNe, hq, hp]
      · simp only [go_sem, kSt_ptr, Nat.reduceBEq, Nat.reduceAdd, Nat.reduceEqDiff, Nat.reduceLeDiff, Nat.reduceSub, reduceIte, Int.reduceBEq, Int.reduceEq, Int.reduceLT, Int.reduceLE, Int.reduceGT, Int.reduceGE, Int.reduceNe, Int.reduceBNe, s_spec_SameRow, j, hq, hp]
  · have hq : sameR u t = false := sameR_len (by omega)
    simp only [go_sem, kSt_ptr, Nat.reduceBEq, Nat.reduceAdd, Nat.reduceEqDiff, Nat.reduceLeDiff, Nat.reduceSub, reduceIte, Int.reduceBEq, Int.reduceEq, Int.reduceLT, Int.reduceLE, Int.reduceGT, Int.reduceGE, Int.reduceNe, Int.reduceBNe, s_spec_SameRow, bneT hlen, hq]
noncomputable def C_spec_SameVal := c2 tVal tVal (fun (a : TVal) (b : TVal) => True) (.bool) fun (a : TVal) (b : TVal) => sameV a b
theorem C_spec_SameVal_eq (a : TVal) (b : TVal) (h : True) : C_spec_SameVal [.agg [.int .i64 a.fK, .int .i64 a.fN, .str a.fS], .agg [.int .i64 b.fK, .int .i64 b.fN, .str b.fS]] = some (.bool ((sameV a b))) := c2_eq tVal tVal h
theorem ok_spec_SameVal {WI : World → Prop} (hs : Stable WI) (cs) (hT : TOK (EE cs) WI) : PureOK Tryz.prog WI 141 C_spec_SameVal := by
  refine pure2 (E := EE cs) hT hs (by rw [st_spec_SameVal]; rfl) fun a b hp => out_wp (n := 0) (st_spec_SameVal cs) ?_
  simp only [go_sem, kSt_ptr, Nat.reduceBEq, Nat.reduceAdd, Nat.reduceEqDiff, Nat.reduceLeDiff, Nat.reduceSub, reduceIte, Int.reduceBEq, Int.reduceEq, Int.reduceLT, Int.reduceLE, Int.reduceGT, Int.reduceGE, Int.reduceNe, Int.reduceBNe, s_spec_SameVal, TVal.row, cmpEql]
noncomputable def C_spec_LessVal := c2 tVal tVal (fun (a : TVal) (b : TVal) => True) (.bool) fun (a : TVal) (b : TVal) => lessV a b
theorem C_spec_LessVal_eq (a : TVal) (b : TVal) (h : True) : C_spec_LessVal [.agg [.int .i64 a.fK, .int .i64 a.fN, .str a.fS], .agg [.int .i64 b.fK, .int .i64 b.fN, .str b.fS]] = some (.bool ((lessV a b))) := c2_eq tVal tVal h
theorem ok_spec_LessVal {WI : World → Prop} (hs : Stable WI) (cs) (hT : TOK (EE cs) WI) : PureOK Tryz.prog WI 209 C_spec_LessVal := by
  refine pure2 (E := EE cs) hT hs (by rw [st_spec_LessVal]; rfl) fun a b hp => out_wp (n := 0) (st_spec_LessVal cs) ?_
  cases d1 : (a.fK == b.fK)
  · simp only [go_sem, kSt_ptr, Nat.reduceBEq, Nat.reduceAdd, Nat.reduceEqDiff, Nat.reduceLeDiff, Nat.reduceSub, reduceIte, Int.reduceBEq, Int.reduceEq, Int.reduceLT, Int.reduceLE, Int.reduceGT, Int.reduceGE, Int.reduceNe, Int.reduceBNe, s_spec_LessVal, TVal.row, bne, d1, lessV]
  cases d2 : (a.fN == b.fN)
  · simp only [go_sem, kSt_ptr, Nat.reduceBEq, Nat.reduceAdd, Nat.reduceEqDiff, Nat.reduceLeDiff, Nat.reduceSub, reduceIte, Int.reduceBEq, Int.reduceEq, Int.reduceLT, Int.reduceLE, Int.reduceGT, Int.reduceGE, Int.reduceNe, Int.reduceBNe, s_spec_LessVal, TVal.row, bne, d1, d2, lessV]
  · simp only [go_sem, kSt_ptr, Nat.reduceBEq, Nat.reduceAdd, Nat.reduceEqDiff, Nat.reduceLeDiff, Nat.reduceSub, reduceIte, Int.reduceBEq, Int.reduceEq, Int.reduceLT, Int.reduceLE, Int.reduceGT, Int.reduceGE, Int.reduceNe, Int.reduceBNe, s_spec_LessVal, TVal.row, bne, d1, d2, lessV]
end Go.Proofs.YtienjjjhjeigmaaGreatDoor.Is
/- What the functions that FnExactInScan calls answer: part 8. -/
namespace Go.Proofs.YtienjjjhjeigmaaGreatDoor.Is
open Go Go.RowKit Go.Ev
set_option linter.unusedSimpArgs false
set_option linter.unusedVariables false
set_option maxHeartbeats 1600000
noncomputable def C_spec_LessPart := c3 tPart tVal tVal (fun (p : TPart) (a : TVal) (b : TVal) => True) (.bool) fun (p : TPart) (a : TVal) (b : TVal) => lessP p a b
theorem C_spec_LessPart_eq (p : TPart) (a : TVal) (b : TVal) (h : True) : C_spec_LessPart [.agg [.int .i64 p.fCol, .int .i64 p.fType, .bool p.fNull, .bool p.fDesc], .agg [.int .i64 a.fK, .int .i64 a.fN, .str a.fS], .agg [.int .i64 b.fK, .int .i64 b.fN, .str b.fS]] = some (.bool ((lessP p a b))) := c3_eq tPart tVal tVal h
theorem ok_spec_LessPart {WI : World → Prop} (hs : Stable WI) (cs) (hT : TOK (EE cs) WI) (h1 : (EE cs).T 209 = some C_spec_LessVal) : PureOK Tryz.prog WI 142 C_spec_LessPart := by
  refine pure3 (E := EE cs) hT hs (by rw [st_spec_LessPart]; rfl) fun p a b hp => out_wp (n := 0) (st_spec_LessPart cs) ?_
  have c1 : ∀ a b : TVal, C_spec_LessVal [.agg [.int .i64 a.fK, .int .i64 a.fN, .str a.fS], .agg [.int .i64 b.fK, .int .i64 b.fN, .str b.fS]] = some (.bool (lessV a b)) := fun a b => C_spec_LessVal_eq a b trivial
  cases d : p.fDesc
  · simp only [go_sem, kSt_ptr, Nat.reduceBEq, Nat.reduceAdd, Nat.reduceEqDiff, Nat.reduceLeDiff, Nat.reduceSub, reduceIte, Int.reduceBEq, Int.reduceEq, Int.reduceLT, Int.reduceLE, Int.reduceGT, Int.reduceGE, Int.reduceNe, Int.reduceBNe, s_spec_LessPart, TVal.row, TPart.row, d, h1, c1, lessP]
  · simp only [go_sem, kSt_ptr, Nat.reduceBEq, Nat.reduceAdd, Nat.reduceEqDiff, Nat.reduceLeDiff, Nat.reduceSub, reduceIte, Int.reduceBEq, Int.reduceEq, Int.reduceLT, Int.reduceLE, Int.reduceGT, Int.reduceGE, Int.reduceNe, Int.reduceBNe, s_spec_LessPart, TVal.row, TPart.row, d, h1, c1, lessP]
theorem L_spec_LessKey (cs) (h1 : (EE cs).T 142 = some C_spec_LessPart) (h2 : (EE cs).T 141 = some C_spec_SameVal) (l : List TPart) (s t : List TVal) (n0 : l.length ≤ 1048576) (n1 : s.length ≤ 1048576) (n2 : t.length ≤ 1048576) : ∀ (rs ps rt pt : List TVal) (e : Ps) (h : Hp), s = ps ++ rs → t = pt ++ rt → ps.length = pt.length → e 0 = .imm (l.map TPart.row) → e 1 = .imm (s.map TVal.row) → e 2 = .imm (t.map TVal.row) → e 7 = .int .i64 ps.length →
    WL (EE cs) s_spec_LessKey_L0 e h fun x e' _ => (x = .exit 0 ∧ e' 1 = .imm (s.map TVal.row) ∧ e' 2 = .imm (t.map TVal.row) ∧ lessK l ps.length rs rt = decide ((s.length : Int) < (t.length : Int))) ∨ (x = .ret ∧ e' 6 = .bool (lessK l ps.length rs rt))
  | [], ps, [], pt, e, h, hs, ht, hp, k0, k1, k2, k7 => by
    have d1 : decide ((ps.length : Int) < (s.length : Int)) = false := decide_eq_false (by rw [hs]; simp)
    have d3 : decide ((s.length : Int) < (t.length : Int)) = false := decide_eq_false (by rw [hs, ht]; simp; omega)
    refine .step (wp_sound _ _ _ _ ?_)
    simp only [go_sem, kSt_ptr, Nat.reduceBEq, Nat.reduceAdd, Nat.reduceEqDiff, Nat.reduceLeDiff, Nat.reduceSub, reduceIte, Int.reduceBEq, Int.reduceEq, Int.reduceLT, Int.reduceLE, Int.reduceGT, Int.reduceGE, Int.reduceNe, Int.reduceBNe, s_spec_LessKey_L0, k0, k1, k2, k7, d1, d3, lessK, reduceCtorEq, false_and, true_or]
  | [], ps, w :: rt, pt, e, h, hs, ht, hp, k0, k1, k2, k7 => by
    have d1 : decide ((ps.length : Int) < (s.length : Int)) = false := decide_eq_false (by rw [hs]; simp)
    have d3 : decide ((s.length : Int) < (t.length : Int)) = true := decide_eq_true (by rw [hs, ht]; simp; omega)
    refine .step (wp_sound _ _ _ _ ?_)
    simp only [go_sem, kSt_ptr, Nat.reduceBEq, Nat.reduceAdd, Nat.reduceEqDiff, Nat.reduceLeDiff, Nat.reduceSub, reduceIte, Int.reduceBEq, Int.reduceEq, Int.reduceLT, Int.reduceLE, Int.reduceGT, Int.reduceGE, Int.reduceNe, Int.reduceBNe, s_spec_LessKey_L0, k0, k1, k2, k7, d1, d3, lessK, reduceCtorEq, false_and, true_or]
  | v :: rs, ps, [], pt, e, h, hs, ht, hp, k0, k1, k2, k7 => by
    have d1 : decide ((ps.length : Int) < (s.length : Int)) = true := decide_eq_true (by rw [hs]; simp; omega)
    have d2 : decide ((ps.length : Int) < (t.length : Int)) = false := decide_eq_false (by rw [ht]; simp; omega)
    have d3 : decide ((s.length : Int) < (t.length : Int)) = false := decide_eq_false (by rw [hs, ht]; simp; omega)
    refine .step (wp_sound _ _ _ _ ?_)
    simp only [go_sem, kSt_ptr, Nat.reduceBEq, Nat.reduceAdd, Nat.reduceEqDiff, Nat.reduceLeDiff, Nat.reduceSub, reduceIte, Int.reduceBEq, Int.reduceEq, Int.reduceLT, Int.reduceLE, Int.reduceGT, Int.reduceGE, Int.reduceNe, Int.reduceBNe, s_spec_LessKey_L0, k0, k1, k2, k7, d1, d2, d3, lessK, reduceCtorEq, false_and, true_or]
  | v :: rs, ps, w :: rt, pt, e, h, hs, ht, hp, k0, k1, k2, k7 => by
    have a1 := at_of (by omega) hs
    have a2 := at_of (by omega) ht
    have d1 := a1.dl
    have d2 : decide ((ps.length : Int) < (t.length : Int)) = true := by rw [hp]; exact a2.dl
    have i1 := fun h => a1.ia (row := TVal.row) (sz := 3) rfl h
    have i2 : ∀ h, kIa 3 (.imm (t.map TVal.row)) (.int .i64 ps.length) h = some (.cptr w.row, h) := fun h => by rw [hp]; exact a2.ia (row := TVal.row) (sz := 3) rfl h
    have hsv : C_spec_SameVal [.agg [.int .i64 v.fK, .int .i64 v.fN, .str v.fS], .agg [.int .i64 w.fK, .int .i64 w.fN, .str w.fS]] = some (.bool (sameV v w)) := C_spec_SameVal_eq v w trivial
    cases hv : sameV v w
    · have hl : lessK l ps.length (v :: rs) (w :: rt) = lessAt l ps.length v w := by simp only [lessK, hv, Bool.false_eq_true, if_false]
      rw [hl]
      cases hg : l[ps.length]? with
      | none =>
        have d3 : decide ((ps.length : Int) < (l.length : Int)) = false := decide_eq_false (by have := List.getElem?_eq_none_iff.1 hg; omega)
        refine .step (wp_sound _ _ _ _ ?_)
        simp only [go_sem, kSt_ptr, Nat.reduceBEq, Nat.reduceAdd, Nat.reduceEqDiff, Nat.reduceLeDiff, Nat.reduceSub, reduceIte, Int.reduceBEq, Int.reduceEq, Int.reduceLT, Int.reduceLE, Int.reduceGT, Int.reduceGE, Int.reduceNe, Int.reduceBNe, s_spec_LessKey_L0, k0, k1, k2, k7, d1, d2, i1, i2, TVal.row, h2, hsv, hv, d3, lessAt, hg, reduceCtorEq, false_and, false_or]
      | some p =>
        have hlt := (List.getElem?_eq_some_iff.1 hg).1
        have d3 : decide ((ps.length : Int) < (l.length : Int)) = true := decide_eq_true (by omega)
        have hg' : l[((ps.length : Int)).toNat]? = some p := by simpa using hg
        have hc : C_spec_LessPart [.agg [.int .i64 p.fCol, .int .i64 p.fType, .bool p.fNull, .bool p.fDesc], .agg [.int .i64 v.fK, .int .i64 v.fN, .str v.fS], .agg [.int .i64 w.fK, .int .i64 w.fN, .str w.fS]] = some (.bool (lessP p v w)) := C_spec_LessPart_eq p v w trivial
        refine .step (wp_sound _ _ _ _ ?_)
        simp only [go_sem, kSt_ptr, Nat.reduceBEq, Nat.reduceAdd, Nat.reduceEqDiff, Nat.reduceLeDiff, Nat.reduceSub, reduceIte, Int.reduceBEq, Int.reduceEq, Int.reduceLT, Int.reduceLE, Int.reduceGT, Int.reduceGE, Int.reduceNe, Int.reduceBNe, s_spec_LessKey_L0, k0, k1, k2, k7, d1, d2, i1, i2, TVal.row, TPart.row, h2, hsv, hv, d3, kIa_nth (row := TPart.row) (sz := 4) (by omega) hg' rfl, h1, hc, lessAt, hg, reduceCtorEq, false_and, false_or]
    · have hl : lessK l ps.length (v :: rs) (w :: rt) = lessK l (ps ++ [v]).length rs rt := by simp only [lessK, hv, if_true, List.length_append, List.length_cons, List.length_nil]
      rw [hl]
      refine .step (.mono (wp_sound _ _ _ (fun x e1 _ => x = .norm ∧ e1 0 = .imm (l.map TPart.row) ∧ e1 1 = .imm (s.map TVal.row) ∧ e1 2 = .imm (t.map TVal.row) ∧ e1 7 = .int .i64 (ps ++ [v]).length) ?_) ?_)
      · simp only [go_sem, kSt_ptr, Nat.reduceBEq, Nat.reduceAdd, Nat.reduceEqDiff, Nat.reduceLeDiff, Nat.reduceSub, reduceIte, Int.reduceBEq, Int.reduceEq, Int.reduceLT, Int.reduceLE, Int.reduceGT, Int.reduceGE, Int.reduceNe, Int.reduceBNe, s_spec_LessKey_L0, k0, k1, k2, k7, d1, d2, i1, i2, TVal.row, h2, hsv, hv, a1.hw]
      · rintro _ e1 h1' ⟨rfl, q0, q1, q2, q7⟩
        exact L_spec_LessKey cs h1 h2 l s t n0 n1 n2 rs (ps ++ [v]) rt (pt ++ [w]) e1 h1' (by rw [hs]; simp) (by rw [ht]; simp) (by simp [hp]) q0 q1 q2 q7
noncomputable def C_spec_LessKey := c3 (sliceT tPart) (sliceT tVal) (sliceT tVal) (fun (l : List (TPart)) (s : List (TVal)) (t : List (TVal)) => l.length ≤ 1048576 ∧ s.length ≤ 1048576 ∧ t.length ≤ 1048576) (.bool) fun (l : List (TPart)) (s : List (TVal)) (t : List (TVal)) => lessK l 0 s t
theorem C_spec_LessKey_eq (l : List (TPart)) (s : List (TVal)) (t : List (TVal)) (h : l.length ≤ 1048576 ∧ s.length ≤ 1048576 ∧ t.length ≤ 1048576) : C_spec_LessKey [.imm (l.map TPart.row), .imm (s.map TVal.row), .imm (t.map TVal.row)] = some (.bool ((lessK l 0 s t))) := c3_eq (sliceT tPart) (sliceT tVal) (sliceT tVal) h
theorem ok_spec_LessKey {WI : World → Prop} (hs : Stable WI) (cs) (hT : TOK (EE cs) WI) (h1 : (EE cs).T 142 = some C_spec_LessPart) (h2 : (EE cs).T 141 = some C_spec_SameVal) : PureOK Tryz.prog WI 73 C_spec_LessKey := by
  refine pure3 (E := EE cs) hT hs (by rw [st_spec_LessKey]; rfl) fun l s t hp => out_wp (n := 0) (st_spec_LessKey cs) ?_
  obtain ⟨n0, n1, n2⟩ := hp
  simp only [go_sem, kSt_ptr, Nat.reduceBEq, Nat.reduceAdd, Nat.reduceEqDiff, Nat.reduceLeDiff, Nat.reduceSub, reduceIte, Int.reduceBEq, Int.reduceEq, Int.reduceLT, Int.reduceLE, Int.reduceGT, Int.reduceGE, Int.reduceNe, Int.reduceBNe, s_spec_LessKey]
  refine (L_spec_LessKey cs h1 h2 l s t n0 n1 n2 s [] t [] _ _ rfl rfl rfl (by simp only [go_sem, kSt_ptr, Nat.reduceBEq, Nat.reduceAdd, Nat.reduceEqDiff, Nat.reduceLeDiff, Nat.reduceSub, reduceIte, Int.reduceBEq, Int.reduceEq, Int.reduceLT, Int.reduceLE, Int.reduceGT, Int.reduceGE, Int.reduceNe, Int.reduceBNe]) (by simp only [go_sem, kSt_ptr, Nat.reduceBEq, Nat.reduceAdd, Nat.reduceEqDiff, Nat.reduceLeDiff, Nat.reduceSub, reduceIte, Int.reduceBEq, Int.reduceEq, Int.reduceLT, Int.reduceLE, Int.reduceGT, Int.reduceGE, Int.reduceNe, Int.reduceBNe]) (by simp only [go_sem, kSt_ptr, Nat.reduceBEq, Nat.reduceAdd, Nat.reduceEqDiff, Nat.reduceLeDiff, Nat.reduceSub, reduceIte, Int.reduceBEq, Int.reduceEq, Int.reduceLT, Int.reduceLE, Int.reduceGT, Int.reduceGE, Int.reduceNe, Int.reduceBNe]) (by simp only [go_sem, kSt_ptr, Nat.reduceBEq, Nat.reduceAdd, Nat.reduceEqDiff, Nat.reduceLeDiff, Nat.reduceSub, reduceIte, Int.reduceBEq, Int.reduceEq, Int.reduceLT, Int.reduceLE, Int.reduceGT, Int.reduceGE, Int.reduceNe, Int.reduceBNe])).mono ?_
  rintro x e' h' (⟨rfl, j1, j2, j3⟩ | ⟨rfl, j⟩)
  · simp only [List.length_nil] at j3
    simp only [go_sem, kSt_ptr, Nat.reduceBEq, Nat.reduceAdd, Nat.reduceEqDiff, Nat.reduceLeDiff, Nat.reduceSub, reduceIte, Int.reduceBEq, Int.reduceEq, Int.reduceLT, Int.reduceLE, Int.reduceGT, Int.reduceGE, Int.reduceNe, Int.reduceBNe, j1, j2, j3]
  · simp only [List.length_nil] at j
    simp only [go_sem, kSt_ptr, Nat.reduceBEq, Nat.reduceAdd, Nat.reduceEqDiff, Nat.reduceLeDiff, Nat.reduceSub, reduceIte, Int.reduceBEq, Int.reduceEq, Int.reduceLT, Int.reduceLE, Int.reduceGT, Int.reduceGE, Int.reduceNe, Int.reduceBNe, s_spec_LessKey, j]
def inS (plan : List TPart) (k : List TVal) (c : TScan) : Bool :=
  !((sameR (k.take c.fLo.length) c.fLo && (c.fLoEx && decide ((0 : Int) < c.fLo.length))) || (sameR (k.take c.fHi.length) c.fHi && (c.fHiEx && decide ((0 : Int) < c.fHi.length)))) &&
    (!lessK plan 0 (k.take c.fLo.length) c.fLo && !lessK plan 0 c.fHi (k.take c.fHi.length))
def inI (plan : List TPart) (k : List TVal) (c : TScan) : Bool :=
  !(decide ((0 : Int) < c.fLo.length) && (!lessK plan 0 c.fLo (k.take c.fLo.length) && (c.fLoEx || !sameR c.fLo (k.take c.fLo.length)))) &&
    ((((c.fHi.length : Int) == 0) || lessK plan 0 (k.take c.fHi.length) c.fHi) || (!c.fHiEx && sameR (k.take c.fHi.length) c.fHi))
theorem inI_eq {plan : List TPart} {k : List TVal} {c : TScan} (hk : k.length = plan.length) (h1 : c.fLo.length ≤ plan.length) (h2 : c.fHi.length ≤ plan.length) : inI plan k c = inS plan k c := by
  unfold inI inS
  have e1 : (k.take c.fLo.length).length = c.fLo.length := by rw [List.length_take]; omega
  have e2 : (k.take c.fHi.length).length = c.fHi.length := by rw [List.length_take]; omega
  have t1 := trich plan (k.take c.fLo.length) c.fLo 0 e1 (by omega)
  have t2 := trich plan (k.take c.fHi.length) c.fHi 0 e2 (by omega)
  rw [sameR_comm c.fLo]
  have hlo : (!(decide ((0 : Int) < c.fLo.length) && (!lessK plan 0 c.fLo (k.take c.fLo.length) && (c.fLoEx || !sameR (k.take c.fLo.length) c.fLo)))) = (!(sameR (k.take c.fLo.length) c.fLo && (c.fLoEx && decide ((0 : Int) < c.fLo.length))) && !lessK plan 0 (k.take c.fLo.length) c.fLo) := by
    rcases t1 with ⟨s1, s2, s3⟩ | ⟨s1, s2⟩
    · rw [s1, s2, s3]; cases c.fLoEx <;> cases decide ((0 : Int) < c.fLo.length) <;> rfl
    · have hp := sameR_nil s1 e1
      have hd : decide ((0 : Int) < c.fLo.length) = true := decide_eq_true (by omega)
      rw [s1, s2, hd]; cases lessK plan 0 c.fLo (k.take c.fLo.length) <;> cases c.fLoEx <;> rfl
  have hhi : ((((c.fHi.length : Int) == 0) || lessK plan 0 (k.take c.fHi.length) c.fHi) || (!c.fHiEx && sameR (k.take c.fHi.length) c.fHi)) = (!(sameR (k.take c.fHi.length) c.fHi && (c.fHiEx && decide ((0 : Int) < c.fHi.length))) && !lessK plan 0 c.fHi (k.take c.fHi.length)) := by
    rcases t2 with ⟨s1, s2, s3⟩ | ⟨s1, s2⟩
    · rw [s1, s2, s3]
      by_cases h0 : c.fHi.length = 0
      · have a1 : ((c.fHi.length : Int) == 0) = true := by simp [h0]
        have a2 : decide ((0 : Int) < c.fHi.length) = false := decide_eq_false (by omega)
        rw [a1, a2]; cases c.fHiEx <;> rfl
      · have a1 : ((c.fHi.length : Int) == 0) = false := by simp; intro e; exact h0 (by rw [e]; rfl)
        have a2 : decide ((0 : Int) < c.fHi.length) = true := decide_eq_true (by omega)
        rw [a1, a2]; cases c.fHiEx <;> rfl
    · have hp := sameR_nil s1 e2
      have a1 : ((c.fHi.length : Int) == 0) = false := by simp; intro e; rw [e] at hp; simp at hp
      rw [s1, a1, s2]; cases lessK plan 0 c.fHi (k.take c.fHi.length) <;> cases c.fHiEx <;> rfl
  rw [hlo, hhi]
  cases sameR (k.take c.fLo.length) c.fLo <;> cases sameR (k.take c.fHi.length) c.fHi <;> cases c.fLoEx <;> cases c.fHiEx <;> cases decide ((0 : Int) < c.fLo.length) <;> cases decide ((0 : Int) < c.fHi.length) <;> cases lessK plan 0 (k.take c.fLo.length) c.fLo <;> rfl
def inScanD (s : List TDef) (c : TScan) (row : List TVal) : Bool := match s[c.fT.toNat]? with
  | some d => inS (planOf d c.fI) (pick (planOf d c.fI) row) c
  | none => false
def rowOkAt (s : List TDef) (t : Int) (row : List TVal) : Bool := match s[t.toNat]? with
  | some d => rowOk (rowPlan d) row
  | none => false
def inScan (s : List TDef) (c : TScan) (row : List TVal) : Bool := scanOk s c && (rowOkAt s c.fT row && inScanD s c row)
theorem inScanD_some {s : List TDef} {c : TScan} {row : List TVal} {d : TDef} (h : s[c.fT.toNat]? = some d) : inScanD s c row = inS (planOf d c.fI) (pick (planOf d c.fI) row) c := by unfold inScanD; rw [h]
theorem rowOkAt_some {s : List TDef} {t : Int} {row : List TVal} {d : TDef} (h : s[t.toNat]? = some d) : rowOkAt s t row = rowOk (rowPlan d) row := by unfold rowOkAt; rw [h]
theorem scanOk_get {s : List TDef} {c : TScan} (h : scanOk s c = true) : ∃ d, s[c.fT.toNat]? = some d ∧ 0 ≤ c.fT ∧ d ∈ s ∧ -1 ≤ c.fI ∧ c.fLo.length ≤ (planOf d c.fI).length ∧ c.fHi.length ≤ (planOf d c.fI).length := by
  unfold scanOk at h
  simp only [Bool.and_eq_true] at h
  obtain ⟨h1, _, h3⟩ := h
  obtain ⟨d, hd, z1, hm, _, hi, _⟩ := there_get h1
  rw [hd] at h3
  simp only [Bool.and_eq_true] at h3
  have f : ∀ {l : List TPart} {vs : List TVal}, fitsAll l vs = true → vs.length ≤ l.length := fun {l vs} hf => by
    unfold fitsAll at hf
    simp only [Bool.and_eq_true, decide_eq_true_eq] at hf
    exact hf.1
  exact ⟨d, hd, z1, hm, hi, f h3.1, f h3.2⟩
theorem rowLen {l : List TVal} (h : (sliceT tVal).cost l ≤ 1048576) : l.length ≤ 1048576 := by
  have h0 : l.length + costL tVal l ≤ 1048576 := h
  omega
theorem and3 (a b c : Bool) : a = false ∨ (a = true ∧ b = false) ∨ (a = true ∧ b = true ∧ c = false) ∨ (a = true ∧ b = true ∧ c = true) := by
  cases a <;> cases b <;> cases c <;> simp
theorem kSl_takeA {α : Type} {row : α → List AV} {l : List α} {sz n id : Nat} (hn : n ≤ l.length) (hr : ∀ v, (row v).length = sz) (hne : sz ≠ 0) : sIdxL sz (.app id (l.map row)) none (some (.int .i64 n)) = some (.imm ((l.take n).map row)) := kSl_take hn hr hne
theorem inScan_of {s : List TDef} {c : TScan} {row : List TVal} {d : TDef} (h1 : scanOk s c = true) (hd : s[c.fT.toNat]? = some d) : inScan s c row = (rowOk (rowPlan d) row && inS (planOf d c.fI) (pick (planOf d c.fI) row) c) := by
  unfold inScan; rw [h1, rowOkAt_some hd, inScanD_some hd, Bool.true_and]
noncomputable def C_spec_l24In := c3 (sliceT tDef) tScan (sliceT tVal) (fun (s : List (TDef)) (c : TScan) (row : List (TVal)) => ((sliceT tDef).good s ∧ tScan.good c ∧ (sliceT tVal).good row) ∧ scanOk s c = true) (.bool) fun (s : List (TDef)) (c : TScan) (row : List (TVal)) => inScanD s c row
theorem C_spec_l24In_eq (s : List (TDef)) (c : TScan) (row : List (TVal)) (h : ((sliceT tDef).good s ∧ tScan.good c ∧ (sliceT tVal).good row) ∧ scanOk s c = true) : C_spec_l24In [.imm (s.map TDef.row), .agg [.int .i64 c.fT, .int .i64 c.fI, .imm (c.fLo.map TVal.row), .imm (c.fHi.map TVal.row), .bool c.fLoEx, .bool c.fHiEx, .bool c.fRev, .int .i64 c.fLimit], .imm (row.map TVal.row)] = some (.bool ((inScanD s c row))) := c3_eq (sliceT tDef) tScan (sliceT tVal) h
theorem ok_spec_l24In {WI : World → Prop} (hs : Stable WI) (cs) (hT : TOK (EE cs) WI) (h1 : (EE cs).T 66 = some C_spec_l11Plan) (h2 : (EE cs).T 71 = some C_spec_Pick) (h3 : (EE cs).T 72 = some C_spec_SameRow) (h4 : (EE cs).T 73 = some C_spec_LessKey) : PureOK Tryz.prog WI 32 C_spec_l24In := by
  refine pure3 (E := EE cs) hT hs (by rw [st_spec_l24In]; rfl) fun s c row hp => out_wp (n := 0) (st_spec_l24In cs) ?_
  have fr_h2 : (EE cs).fr 71 = true := rfl
  obtain ⟨⟨⟨hs, _⟩, ⟨hc, _⟩, hr, _⟩, hok⟩ := hp
  obtain ⟨n1, n2⟩ := defsLens hs
  obtain ⟨m1, m2⟩ := scanLens hc
  obtain ⟨d, hd, z1, hm, hi, w1, w2⟩ := scanOk_get hok
  have hrl := rowLen hr
  have hpl := planOf_len d c.fI
  rw [inScanD_some hd]
  have c1 : C_spec_l11Plan [.agg [.str d.fName, .imm (d.fCols.map TCol.row), .imm (d.fPrimary.map TBy.row), .imm (d.fIndexes.map TIndex.row)], .int .i64 c.fI] = some (.imm ((planOf d c.fI).map TPart.row)) := C_spec_l11Plan_eq d c.fI (n2 d hm)
  generalize planOf d c.fI = plan at *
  have c2 : C_spec_Pick [.imm (plan.map TPart.row), .imm (row.map TVal.row)] = some (.app 3 ((pick plan row).map TVal.row)) := C_spec_Pick_eq plan row ⟨by omega, hrl⟩
  have hkl := pick_len plan row
  unfold inS
  generalize pick plan row = k at *
  have s1 : ∀ id, sIdxL 3 (.app id (k.map TVal.row)) none (some (.int .i64 c.fLo.length)) = some (.imm ((k.take c.fLo.length).map TVal.row)) := fun id => kSl_takeA (by omega) (fun _ => rfl) (by decide)
  have s2 : ∀ id, sIdxL 3 (.app id (k.map TVal.row)) none (some (.int .i64 c.fHi.length)) = some (.imm ((k.take c.fHi.length).map TVal.row)) := fun id => kSl_takeA (by omega) (fun _ => rfl) (by decide)
  have l1 : (k.take c.fLo.length).length ≤ 1048576 := by rw [List.length_take]; omega
  have l2 : (k.take c.fHi.length).length ≤ 1048576 := by rw [List.length_take]; omega
  generalize k.take c.fLo.length = a at *
  generalize k.take c.fHi.length = b at *
  have c3 : C_spec_SameRow [.imm (a.map TVal.row), .imm (c.fLo.map TVal.row)] = some (.bool (sameR a c.fLo)) := C_spec_SameRow_eq a c.fLo ⟨l1, m1⟩
  have c4 : C_spec_SameRow [.imm (b.map TVal.row), .imm (c.fHi.map TVal.row)] = some (.bool (sameR b c.fHi)) := C_spec_SameRow_eq b c.fHi ⟨l2, m2⟩
  have c5 : C_spec_LessKey [.imm (plan.map TPart.row), .imm (a.map TVal.row), .imm (c.fLo.map TVal.row)] = some (.bool (lessK plan 0 a c.fLo)) := C_spec_LessKey_eq plan a c.fLo ⟨by omega, l1, m1⟩
  have c6 : C_spec_LessKey [.imm (plan.map TPart.row), .imm (c.fHi.map TVal.row), .imm (b.map TVal.row)] = some (.bool (lessK plan 0 c.fHi b)) := C_spec_LessKey_eq plan c.fHi b ⟨by omega, m2, l2⟩
  rcases and3 (sameR a c.fLo) c.fLoEx (decide ((0 : Int) < c.fLo.length)) with x | x | x | x
  rotate_left 3
  · simp only [go_sem, kSt_ptr, Nat.reduceBEq, Nat.reduceAdd, Nat.reduceEqDiff, Nat.reduceLeDiff, Nat.reduceSub, reduceIte, Int.reduceBEq, Int.reduceEq, Int.reduceLT, Int.reduceLE, Int.reduceGT, Int.reduceGE, Int.reduceNe, Int.reduceBNe, s_spec_l24In, TScan.row, kIa_nth (row := TDef.row) (sz := 4) z1 hd rfl, TDef.row, h1, c1, h2, fr_h2, c2, s1, s2, h3, c3, x, Bool.true_and, Bool.true_or, Bool.not_true, Bool.false_and]
  all_goals rcases and3 (sameR b c.fHi) c.fHiEx (decide ((0 : Int) < c.fHi.length)) with y | y | y | y
  all_goals cases z : lessK plan 0 a c.fLo
  all_goals simp only [go_sem, kSt_ptr, Nat.reduceBEq, Nat.reduceAdd, Nat.reduceEqDiff, Nat.reduceLeDiff, Nat.reduceSub, reduceIte, Int.reduceBEq, Int.reduceEq, Int.reduceLT, Int.reduceLE, Int.reduceGT, Int.reduceGE, Int.reduceNe, Int.reduceBNe, s_spec_l24In, TScan.row, kIa_nth (row := TDef.row) (sz := 4) z1 hd rfl, TDef.row, h1, c1, h2, fr_h2, c2, s1, s2, h3, c3, c4, x, y, z, h4, c5, c6, Bool.true_and, Bool.false_and, Bool.and_false, Bool.true_or, Bool.or_true, Bool.or_false, Bool.false_or, Bool.not_true, Bool.not_false, Bool.false_and]
end Go.Proofs.YtienjjjhjeigmaaGreatDoor.Is
/- What the functions that FnExactInScan calls answer: part 9. -/
namespace Go.Proofs.YtienjjjhjeigmaaGreatDoor.Is
open Go Go.RowKit Go.Ev
set_option linter.unusedSimpArgs false
set_option linter.unusedVariables false
set_option maxHeartbeats 1600000
noncomputable def C_spec_InScan := c3 (sliceT tDef) tScan (sliceT tVal) (fun (s : List (TDef)) (c : TScan) (row : List (TVal)) => (sliceT tDef).good s ∧ tScan.good c ∧ (sliceT tVal).good row) (.bool) fun (s : List (TDef)) (c : TScan) (row : List (TVal)) => inScan s c row
theorem C_spec_InScan_eq (s : List (TDef)) (c : TScan) (row : List (TVal)) (h : (sliceT tDef).good s ∧ tScan.good c ∧ (sliceT tVal).good row) : C_spec_InScan [.imm (s.map TDef.row), .agg [.int .i64 c.fT, .int .i64 c.fI, .imm (c.fLo.map TVal.row), .imm (c.fHi.map TVal.row), .bool c.fLoEx, .bool c.fHiEx, .bool c.fRev, .int .i64 c.fLimit], .imm (row.map TVal.row)] = some (.bool ((inScan s c row))) := c3_eq (sliceT tDef) tScan (sliceT tVal) h
theorem ok_spec_InScan {WI : World → Prop} (hs : Stable WI) (cs) (hT : TOK (EE cs) WI) (h1 : (EE cs).T 29 = some C_spec_ScanOk) (h2 : (EE cs).T 31 = some C_spec_RowPlan) (h3 : (EE cs).T 30 = some C_spec_RowOk) (h4 : (EE cs).T 32 = some C_spec_l24In) : PureOK Tryz.prog WI 10 C_spec_InScan := by
  refine pure3 (E := EE cs) hT hs (by rw [st_spec_InScan]; rfl) fun s c row hp => out_wp (n := 0) (st_spec_InScan cs) ?_
  have fr_h2 : (EE cs).fr 31 = true := rfl
  have hp0 := hp
  obtain ⟨hs0, hc0, hr, _⟩ := hp
  have hs := hs0.1
  have hc := hc0.1
  obtain ⟨n1, n2⟩ := defsLens hs
  have hrl := rowLen hr
  have c1 : C_spec_ScanOk [.imm (s.map TDef.row), .agg [.int .i64 c.fT, .int .i64 c.fI, .imm (c.fLo.map TVal.row), .imm (c.fHi.map TVal.row), .bool c.fLoEx, .bool c.fHiEx, .bool c.fRev, .int .i64 c.fLimit]] = some (.bool (scanOk s c)) := C_spec_ScanOk_eq s c ⟨hs0, hc0⟩
  cases d1 : scanOk s c
  · simp only [go_sem, kSt_ptr, Nat.reduceBEq, Nat.reduceAdd, Nat.reduceEqDiff, Nat.reduceLeDiff, Nat.reduceSub, reduceIte, Int.reduceBEq, Int.reduceEq, Int.reduceLT, Int.reduceLE, Int.reduceGT, Int.reduceGE, Int.reduceNe, Int.reduceBNe, s_spec_InScan, TScan.row, h1, c1, d1, inScan, Bool.false_and]
  obtain ⟨d, hd, z1, hm, hi, w1, w2⟩ := scanOk_get d1
  have c2 : C_spec_RowPlan [.agg [.str d.fName, .imm (d.fCols.map TCol.row), .imm (d.fPrimary.map TBy.row), .imm (d.fIndexes.map TIndex.row)]] = some (.app 4 ((rowPlan d).map TPart.row)) := C_spec_RowPlan_eq d (n2 d hm)
  have c3 : C_spec_RowOk [.imm ((rowPlan d).map TPart.row), .imm (row.map TVal.row)] = some (.bool (rowOk (rowPlan d) row)) := C_spec_RowOk_eq _ _ ⟨rowPlan_len (n2 d hm), hrl⟩
  have c4 : C_spec_l24In [.imm (s.map TDef.row), .agg [.int .i64 c.fT, .int .i64 c.fI, .imm (c.fLo.map TVal.row), .imm (c.fHi.map TVal.row), .bool c.fLoEx, .bool c.fHiEx, .bool c.fRev, .int .i64 c.fLimit], .imm (row.map TVal.row)] = some (.bool (inScanD s c row)) := C_spec_l24In_eq s c row ⟨hp0, d1⟩
  have hres : inScan s c row = (rowOk (rowPlan d) row && inScanD s c row) := by unfold inScan; rw [d1, rowOkAt_some hd, Bool.true_and]
  rw [hres]
  cases d2 : rowOk (rowPlan d) row
  · simp only [go_sem, kSt_ptr, Nat.reduceBEq, Nat.reduceAdd, Nat.reduceEqDiff, Nat.reduceLeDiff, Nat.reduceSub, reduceIte, Int.reduceBEq, Int.reduceEq, Int.reduceLT, Int.reduceLE, Int.reduceGT, Int.reduceGE, Int.reduceNe, Int.reduceBNe, s_spec_InScan, TScan.row, h1, c1, d1, kIa_nth (row := TDef.row) (sz := 4) z1 hd rfl, TDef.row, h2, fr_h2, c2, h3, c3, d2, Bool.false_and]
  · simp only [go_sem, kSt_ptr, Nat.reduceBEq, Nat.reduceAdd, Nat.reduceEqDiff, Nat.reduceLeDiff, Nat.reduceSub, reduceIte, Int.reduceBEq, Int.reduceEq, Int.reduceLT, Int.reduceLE, Int.reduceGT, Int.reduceGE, Int.reduceNe, Int.reduceBNe, s_spec_InScan, TScan.row, h1, c1, d1, kIa_nth (row := TDef.row) (sz := 4) z1 hd rfl, TDef.row, h2, fr_h2, c2, h3, c3, d2, h4, c4, Bool.true_and]
theorem ev_impl_in (cs) (x a b : Int) : ∃ k n, out (EE cs) k n 78 [.int .i64 x, .int .i64 a, .int .i64 b] = some (.bool (inR x a b)) := by
  refine out_K (n := 0) (st_impl_in cs) ?_
  by_cases h1 : a ≤ x
  · simp only [go_sem, kSt_ptr, Nat.reduceBEq, Nat.reduceAdd, Nat.reduceEqDiff, Nat.reduceLeDiff, Nat.reduceSub, reduceIte, Int.reduceBEq, Int.reduceEq, Int.reduceLT, Int.reduceLE, Int.reduceGT, Int.reduceGE, Int.reduceNe, Int.reduceBNe, s_impl_in, h1, inR]
  · simp only [go_sem, kSt_ptr, Nat.reduceBEq, Nat.reduceAdd, Nat.reduceEqDiff, Nat.reduceLeDiff, Nat.reduceSub, reduceIte, Int.reduceBEq, Int.reduceEq, Int.reduceLT, Int.reduceLE, Int.reduceGT, Int.reduceGE, Int.reduceNe, Int.reduceBNe, s_impl_in, h1, inR]
noncomputable def C_impl_in := ct (fun a : Int × Int × Int => [.int .i64 a.1, .int .i64 a.2.1, .int .i64 a.2.2]) (fun _ => True) .bool fun a => inR a.1 a.2.1 a.2.2
theorem C_impl_in_eq (x a b : Int) : C_impl_in [.int .i64 x, .int .i64 a, .int .i64 b] = some (.bool (inR x a b)) := by
  unfold C_impl_in
  exact ct_eq (a := (x, a, b)) (fun a b h => by
    simp only [List.cons.injEq, AV.int.injEq, and_true, true_and] at h
    exact Prod.ext h.1 (Prod.ext h.2.1 h.2.2)) trivial
theorem ok_impl_in {WI} (hs : Stable WI) (cs) (hT : TOK (EE cs) WI) : PureOK Tryz.prog WI 78 C_impl_in :=
  pure_out hT hs (by rw [st_impl_in]; rfl) fun a _ => ev_impl_in cs a.1 a.2.1 a.2.2
noncomputable def C_impl_partsOk := c2 tDef (sliceT tBy) (fun (v : TDef) (l : List (TBy)) => tDef.cost v ≤ 1048576 ∧ l.length ≤ 1048576) (.bool) fun (v : TDef) (l : List (TBy)) => partsOK v l
theorem C_impl_partsOk_eq (v : TDef) (l : List (TBy)) (h : tDef.cost v ≤ 1048576 ∧ l.length ≤ 1048576) : C_impl_partsOk [.agg [.str v.fName, .imm (v.fCols.map TCol.row), .imm (v.fPrimary.map TBy.row), .imm (v.fIndexes.map TIndex.row)], .imm (l.map TBy.row)] = some (.bool ((partsOK v l))) := c2_eq tDef (sliceT tBy) h
theorem ok_impl_partsOk {WI : World → Prop} (hs : Stable WI) (cs) (hT : TOK (EE cs) WI) (h1 : (EE cs).T 78 = some C_impl_in) : PureOK Tryz.prog WI 150 C_impl_partsOk := by
  refine pure2 (E := EE cs) hT hs (by rw [st_impl_partsOk]; rfl) fun v l hp => out_wp (n := 0) (st_impl_partsOk cs) ?_
  obtain ⟨n1, n2, n3, n4, n5, n6⟩ := defLens hp.1
  have hw2 := defCols_len hp.1
  have hl := hp.2
  have inner : ∀ pre c rest, At l pre c rest → ∀ e h b, e 2 = .ptr 0 0 → h.hp 0 = some v.row → e 1 = .imm (l.map TBy.row) → e 9 = .imm (l.map TBy.row) → e 10 = .int .i64 l.length → e 11 = .int .i64 pre.length → e 6 = .ptr b 0 → h.hp b = some c.row → b < h.nx → 0 < h.nx → e 26 = .imm (pre.map TBy.row) → e 27 = .int .i64 pre.length → e 28 = .int .i64 0 → WL (EE cs) s_impl_partsOk_L0 e h fun x e' h' => ((pre.all fun q => !(q.fCol == c.fCol)) = true ∧ x = .exit 2 ∧ e' 2 = .ptr 0 0 ∧ h'.hp 0 = some v.row ∧ e' 1 = .imm (l.map TBy.row) ∧ e' 9 = .imm (l.map TBy.row) ∧ e' 10 = .int .i64 l.length ∧ e' 11 = .int .i64 pre.length ∧ 0 < h'.nx) ∨ ((pre.all fun q => !(q.fCol == c.fCol)) = false ∧ x = .ret ∧ e' 4 = .bool false) := by
    intro pre0 c rest0 a0 e h b k0 k1 k1' k2 k3 k4 k5 k6 k7 k8 k9 k10 k11
    have hlt0 := a0.lt
    refine (wl_all (l := pre0) (fun pre y => !(y.fCol == c.fCol)) (fun pre e h => e 2 = .ptr 0 0 ∧ h.hp 0 = some v.row ∧ e 1 = .imm (l.map TBy.row) ∧ e 9 = .imm (l.map TBy.row) ∧ e 10 = .int .i64 l.length ∧ e 11 = .int .i64 pre0.length ∧ e 6 = .ptr b 0 ∧ h.hp b = some c.row ∧ b < h.nx ∧ 0 < h.nx ∧ e 26 = .imm (pre0.map TBy.row) ∧ e 28 = .int .i64 pre.length ∧ e 27 = .int .i64 (pre0).length) (.exit 2) (fun e h => e 2 = .ptr 0 0 ∧ h.hp 0 = some v.row ∧ e 1 = .imm (l.map TBy.row) ∧ e 9 = .imm (l.map TBy.row) ∧ e 10 = .int .i64 l.length ∧ e 11 = .int .i64 pre0.length ∧ 0 < h.nx) (fun e h => e 4 = .bool false) (by omega) ?_ ?_ ?_ (by simp) pre0 [] _ _ rfl ?_).mono ?_
    · rintro pre y rest e h a hp ⟨q0, q1, q2, q3, q4, q5, q6, q7, q8, q9, q10, ix, nx⟩
      have hne : ¬ 0 = h.nx := by omega
      have hne2 : ¬ b = h.nx := by omega
      have hq : (y.fCol == c.fCol) = false := by simpa using hp
      have hb1 : b < h.nx + 1 := by omega
      simp only [go_sem, kSt_ptr, Nat.reduceBEq, Nat.reduceAdd, Nat.reduceEqDiff, Nat.reduceLeDiff, Nat.reduceSub, reduceIte, Int.reduceBEq, Int.reduceEq, Int.reduceLT, Int.reduceLE, Int.reduceGT, Int.reduceGE, Int.reduceNe, Int.reduceBNe, s_impl_partsOk_L0, q0, q1, q2, q3, q4, q5, q6, q7, q8, q9, q10, ix, nx, a.dl, a.ia (row := TBy.row) (sz := 2) rfl, hp, a.hw, TBy.row, hq, hne, hne2, hb1]
    · rintro pre y rest e h a hp ⟨q0, q1, q2, q3, q4, q5, q6, q7, q8, q9, q10, ix, nx⟩
      have hne : ¬ 0 = h.nx := by omega
      have hne2 : ¬ b = h.nx := by omega
      have hq : (y.fCol == c.fCol) = true := by simpa using hp
      simp only [go_sem, kSt_ptr, Nat.reduceBEq, Nat.reduceAdd, Nat.reduceEqDiff, Nat.reduceLeDiff, Nat.reduceSub, reduceIte, Int.reduceBEq, Int.reduceEq, Int.reduceLT, Int.reduceLE, Int.reduceGT, Int.reduceGE, Int.reduceNe, Int.reduceBNe, s_impl_partsOk_L0, q0, q1, q2, q3, q4, q5, q6, q7, q8, q9, q10, ix, nx, a.dl, a.ia (row := TBy.row) (sz := 2) rfl, hp, a.hw, TBy.row, hq, hne, hne2]
    · rintro e h ⟨q0, q1, q2, q3, q4, q5, q6, q7, q8, q9, q10, ix, nx⟩
      simp only [go_sem, kSt_ptr, Nat.reduceBEq, Nat.reduceAdd, Nat.reduceEqDiff, Nat.reduceLeDiff, Nat.reduceSub, reduceIte, Int.reduceBEq, Int.reduceEq, Int.reduceLT, Int.reduceLE, Int.reduceGT, Int.reduceGE, Int.reduceNe, Int.reduceBNe, s_impl_partsOk_L0, q0, q1, q2, q3, q4, q5, q6, q7, q8, q9, q10, ix, nx]
    · simp only [go_sem, kSt_ptr, Nat.reduceBEq, Nat.reduceAdd, Nat.reduceEqDiff, Nat.reduceLeDiff, Nat.reduceSub, reduceIte, Int.reduceBEq, Int.reduceEq, Int.reduceLT, Int.reduceLE, Int.reduceGT, Int.reduceGE, Int.reduceNe, Int.reduceBNe, k0, k1, k1', k2, k3, k4, k5, k6, k7, k8, k9, k10, k11]
    · rintro x e' h' (⟨hp, rfl, j⟩ | ⟨hp, rfl, j⟩)
      · rw [allP_all] at hp
        exact .inl ⟨hp, rfl, j⟩
      · rw [allP_all] at hp
        exact .inr ⟨hp, rfl, j⟩
  simp only [go_sem, kSt_ptr, Nat.reduceBEq, Nat.reduceAdd, Nat.reduceEqDiff, Nat.reduceLeDiff, Nat.reduceSub, reduceIte, Int.reduceBEq, Int.reduceEq, Int.reduceLT, Int.reduceLE, Int.reduceGT, Int.reduceGE, Int.reduceNe, Int.reduceBNe, s_impl_partsOk, TDef.row]
  refine (wl_all (l := l) (fun pre p => partP ((v.fCols.length : Int) - 1) pre p) (fun pre e h => e 2 = .ptr 0 0 ∧ h.hp 0 = some v.row ∧ e 1 = .imm (l.map TBy.row) ∧ e 9 = .imm (l.map TBy.row) ∧ 0 < h.nx ∧ e 11 = .int .i64 pre.length ∧ e 10 = .int .i64 (l).length) (.exit 0) (fun e h => e 2 = .ptr 0 0 ∧ h.hp 0 = some v.row ∧ e 1 = .imm (l.map TBy.row) ∧ e 9 = .imm (l.map TBy.row) ∧ 0 < h.nx) (fun e h => e 4 = .bool false) (by omega) ?_ ?_ ?_ (by simp) l [] _ _ rfl ?_).mono ?_
  · rintro pre p rest e h a hp ⟨q0, q1, q2, q3, q4, ix, nx⟩
    have hne : ¬ 0 = h.nx := by omega
    have hq1 : inR p.fCol 0 ((v.fCols.length : Int) - 1) = true := by unfold partP at hp; simp only [Bool.and_eq_true] at hp; exact hp.1
    have hq2 : (pre.all fun q => !(q.fCol == p.fCol)) = true := by unfold partP at hp; simp only [Bool.and_eq_true] at hp; exact hp.2
    all_goals simp only [go_sem, kSt_ptr, Nat.reduceBEq, Nat.reduceAdd, Nat.reduceEqDiff, Nat.reduceLeDiff, Nat.reduceSub, reduceIte, Int.reduceBEq, Int.reduceEq, Int.reduceLT, Int.reduceLE, Int.reduceGT, Int.reduceGE, Int.reduceNe, Int.reduceBNe, s_impl_partsOk_L1, q0, q1, q2, q3, q4, ix, nx, a.dl, a.ia (row := TBy.row) (sz := 2) rfl, hp, a.hw, TDef.row, TBy.row, hne, h1, C_impl_in_eq, hw2, hq1, kSl_pre (row := TBy.row) (sz := 2) a.hl (fun _ => rfl) (by decide)]
    refine (inner pre p rest a _ _ h.nx (by simp only [go_sem, kSt_ptr, Nat.reduceBEq, Nat.reduceAdd, Nat.reduceEqDiff, Nat.reduceLeDiff, Nat.reduceSub, reduceIte, Int.reduceBEq, Int.reduceEq, Int.reduceLT, Int.reduceLE, Int.reduceGT, Int.reduceGE, Int.reduceNe, Int.reduceBNe, q0]) (by simp only [go_sem, kSt_ptr, Nat.reduceBEq, Nat.reduceAdd, Nat.reduceEqDiff, Nat.reduceLeDiff, Nat.reduceSub, reduceIte, Int.reduceBEq, Int.reduceEq, Int.reduceLT, Int.reduceLE, Int.reduceGT, Int.reduceGE, Int.reduceNe, Int.reduceBNe, hne, q1]) (by simp only [go_sem, kSt_ptr, Nat.reduceBEq, Nat.reduceAdd, Nat.reduceEqDiff, Nat.reduceLeDiff, Nat.reduceSub, reduceIte, Int.reduceBEq, Int.reduceEq, Int.reduceLT, Int.reduceLE, Int.reduceGT, Int.reduceGE, Int.reduceNe, Int.reduceBNe, q2]) (by simp only [go_sem, kSt_ptr, Nat.reduceBEq, Nat.reduceAdd, Nat.reduceEqDiff, Nat.reduceLeDiff, Nat.reduceSub, reduceIte, Int.reduceBEq, Int.reduceEq, Int.reduceLT, Int.reduceLE, Int.reduceGT, Int.reduceGE, Int.reduceNe, Int.reduceBNe, q3]) (by simp only [go_sem, kSt_ptr, Nat.reduceBEq, Nat.reduceAdd, Nat.reduceEqDiff, Nat.reduceLeDiff, Nat.reduceSub, reduceIte, Int.reduceBEq, Int.reduceEq, Int.reduceLT, Int.reduceLE, Int.reduceGT, Int.reduceGE, Int.reduceNe, Int.reduceBNe, nx]) (by simp only [go_sem, kSt_ptr, Nat.reduceBEq, Nat.reduceAdd, Nat.reduceEqDiff, Nat.reduceLeDiff, Nat.reduceSub, reduceIte, Int.reduceBEq, Int.reduceEq, Int.reduceLT, Int.reduceLE, Int.reduceGT, Int.reduceGE, Int.reduceNe, Int.reduceBNe, ix]) (by simp only [go_sem, kSt_ptr, Nat.reduceBEq, Nat.reduceAdd, Nat.reduceEqDiff, Nat.reduceLeDiff, Nat.reduceSub, reduceIte, Int.reduceBEq, Int.reduceEq, Int.reduceLT, Int.reduceLE, Int.reduceGT, Int.reduceGE, Int.reduceNe, Int.reduceBNe]) (by simp only [go_sem, kSt_ptr, Nat.reduceBEq, Nat.reduceAdd, Nat.reduceEqDiff, Nat.reduceLeDiff, Nat.reduceSub, reduceIte, Int.reduceBEq, Int.reduceEq, Int.reduceLT, Int.reduceLE, Int.reduceGT, Int.reduceGE, Int.reduceNe, Int.reduceBNe, TBy.row]) (by simp only [go_sem, kSt_ptr, Nat.reduceBEq, Nat.reduceAdd, Nat.reduceEqDiff, Nat.reduceLeDiff, Nat.reduceSub, reduceIte, Int.reduceBEq, Int.reduceEq, Int.reduceLT, Int.reduceLE, Int.reduceGT, Int.reduceGE, Int.reduceNe, Int.reduceBNe, Nat.lt_succ_self]) (by simp only [go_sem, kSt_ptr, Nat.reduceBEq, Nat.reduceAdd, Nat.reduceEqDiff, Nat.reduceLeDiff, Nat.reduceSub, reduceIte, Int.reduceBEq, Int.reduceEq, Int.reduceLT, Int.reduceLE, Int.reduceGT, Int.reduceGE, Int.reduceNe, Int.reduceBNe]) (by simp only [go_sem, kSt_ptr, Nat.reduceBEq, Nat.reduceAdd, Nat.reduceEqDiff, Nat.reduceLeDiff, Nat.reduceSub, reduceIte, Int.reduceBEq, Int.reduceEq, Int.reduceLT, Int.reduceLE, Int.reduceGT, Int.reduceGE, Int.reduceNe, Int.reduceBNe]) (by simp only [go_sem, kSt_ptr, Nat.reduceBEq, Nat.reduceAdd, Nat.reduceEqDiff, Nat.reduceLeDiff, Nat.reduceSub, reduceIte, Int.reduceBEq, Int.reduceEq, Int.reduceLT, Int.reduceLE, Int.reduceGT, Int.reduceGE, Int.reduceNe, Int.reduceBNe]) (by simp only [go_sem, kSt_ptr, Nat.reduceBEq, Nat.reduceAdd, Nat.reduceEqDiff, Nat.reduceLeDiff, Nat.reduceSub, reduceIte, Int.reduceBEq, Int.reduceEq, Int.reduceLT, Int.reduceLE, Int.reduceGT, Int.reduceGE, Int.reduceNe, Int.reduceBNe])).mono ?_
    rintro x e' h' (⟨hq, rfl, k0, k1, k2, k3, k4, k5, k6⟩ | ⟨hq, rfl, k⟩)
    · simp only [go_sem, kSt_ptr, Nat.reduceBEq, Nat.reduceAdd, Nat.reduceEqDiff, Nat.reduceLeDiff, Nat.reduceSub, reduceIte, Int.reduceBEq, Int.reduceEq, Int.reduceLT, Int.reduceLE, Int.reduceGT, Int.reduceGE, Int.reduceNe, Int.reduceBNe, k0, k1, k2, k3, k4, k5, k6, TDef.row, a.hw]
    · rw [hq2] at hq; cases hq
  · rintro pre p rest e h a hp ⟨q0, q1, q2, q3, q4, ix, nx⟩
    have hne : ¬ 0 = h.nx := by omega
    cases hq1 : inR p.fCol 0 ((v.fCols.length : Int) - 1)
    all_goals simp only [go_sem, kSt_ptr, Nat.reduceBEq, Nat.reduceAdd, Nat.reduceEqDiff, Nat.reduceLeDiff, Nat.reduceSub, reduceIte, Int.reduceBEq, Int.reduceEq, Int.reduceLT, Int.reduceLE, Int.reduceGT, Int.reduceGE, Int.reduceNe, Int.reduceBNe, s_impl_partsOk_L1, q0, q1, q2, q3, q4, ix, nx, a.dl, a.ia (row := TBy.row) (sz := 2) rfl, hp, a.hw, TDef.row, TBy.row, hne, h1, C_impl_in_eq, hw2, hq1, kSl_pre (row := TBy.row) (sz := 2) a.hl (fun _ => rfl) (by decide)]
    have hq2 : (pre.all fun q => !(q.fCol == p.fCol)) = false := by unfold partP at hp; rw [hq1, Bool.true_and] at hp; exact hp
    refine (inner pre p rest a _ _ h.nx (by simp only [go_sem, kSt_ptr, Nat.reduceBEq, Nat.reduceAdd, Nat.reduceEqDiff, Nat.reduceLeDiff, Nat.reduceSub, reduceIte, Int.reduceBEq, Int.reduceEq, Int.reduceLT, Int.reduceLE, Int.reduceGT, Int.reduceGE, Int.reduceNe, Int.reduceBNe, q0]) (by simp only [go_sem, kSt_ptr, Nat.reduceBEq, Nat.reduceAdd, Nat.reduceEqDiff, Nat.reduceLeDiff, Nat.reduceSub, reduceIte, Int.reduceBEq, Int.reduceEq, Int.reduceLT, Int.reduceLE, Int.reduceGT, Int.reduceGE, Int.reduceNe, Int.reduceBNe, hne, q1]) (by simp only [go_sem, kSt_ptr, Nat.reduceBEq, Nat.reduceAdd, Nat.reduceEqDiff, Nat.reduceLeDiff, Nat.reduceSub, reduceIte, Int.reduceBEq, Int.reduceEq, Int.reduceLT, Int.reduceLE, Int.reduceGT, Int.reduceGE, Int.reduceNe, Int.reduceBNe, q2]) (by simp only [go_sem, kSt_ptr, Nat.reduceBEq, Nat.reduceAdd, Nat.reduceEqDiff, Nat.reduceLeDiff, Nat.reduceSub, reduceIte, Int.reduceBEq, Int.reduceEq, Int.reduceLT, Int.reduceLE, Int.reduceGT, Int.reduceGE, Int.reduceNe, Int.reduceBNe, q3]) (by simp only [go_sem, kSt_ptr, Nat.reduceBEq, Nat.reduceAdd, Nat.reduceEqDiff, Nat.reduceLeDiff, Nat.reduceSub, reduceIte, Int.reduceBEq, Int.reduceEq, Int.reduceLT, Int.reduceLE, Int.reduceGT, Int.reduceGE, Int.reduceNe, Int.reduceBNe, nx]) (by simp only [go_sem, kSt_ptr, Nat.reduceBEq, Nat.reduceAdd, Nat.reduceEqDiff, Nat.reduceLeDiff, Nat.reduceSub, reduceIte, Int.reduceBEq, Int.reduceEq, Int.reduceLT, Int.reduceLE, Int.reduceGT, Int.reduceGE, Int.reduceNe, Int.reduceBNe, ix]) (by simp only [go_sem, kSt_ptr, Nat.reduceBEq, Nat.reduceAdd, Nat.reduceEqDiff, Nat.reduceLeDiff, Nat.reduceSub, reduceIte, Int.reduceBEq, Int.reduceEq, Int.reduceLT, Int.reduceLE, Int.reduceGT, Int.reduceGE, Int.reduceNe, Int.reduceBNe]) (by simp only [go_sem, kSt_ptr, Nat.reduceBEq, Nat.reduceAdd, Nat.reduceEqDiff, Nat.reduceLeDiff, Nat.reduceSub, reduceIte, Int.reduceBEq, Int.reduceEq, Int.reduceLT, Int.reduceLE, Int.reduceGT, Int.reduceGE, Int.reduceNe, Int.reduceBNe, TBy.row]) (by simp only [go_sem, kSt_ptr, Nat.reduceBEq, Nat.reduceAdd, Nat.reduceEqDiff, Nat.reduceLeDiff, Nat.reduceSub, reduceIte, Int.reduceBEq, Int.reduceEq, Int.reduceLT, Int.reduceLE, Int.reduceGT, Int.reduceGE, Int.reduceNe, Int.reduceBNe, Nat.lt_succ_self]) (by simp only [go_sem, kSt_ptr, Nat.reduceBEq, Nat.reduceAdd, Nat.reduceEqDiff, Nat.reduceLeDiff, Nat.reduceSub, reduceIte, Int.reduceBEq, Int.reduceEq, Int.reduceLT, Int.reduceLE, Int.reduceGT, Int.reduceGE, Int.reduceNe, Int.reduceBNe]) (by simp only [go_sem, kSt_ptr, Nat.reduceBEq, Nat.reduceAdd, Nat.reduceEqDiff, Nat.reduceLeDiff, Nat.reduceSub, reduceIte, Int.reduceBEq, Int.reduceEq, Int.reduceLT, Int.reduceLE, Int.reduceGT, Int.reduceGE, Int.reduceNe, Int.reduceBNe]) (by simp only [go_sem, kSt_ptr, Nat.reduceBEq, Nat.reduceAdd, Nat.reduceEqDiff, Nat.reduceLeDiff, Nat.reduceSub, reduceIte, Int.reduceBEq, Int.reduceEq, Int.reduceLT, Int.reduceLE, Int.reduceGT, Int.reduceGE, Int.reduceNe, Int.reduceBNe]) (by simp only [go_sem, kSt_ptr, Nat.reduceBEq, Nat.reduceAdd, Nat.reduceEqDiff, Nat.reduceLeDiff, Nat.reduceSub, reduceIte, Int.reduceBEq, Int.reduceEq, Int.reduceLT, Int.reduceLE, Int.reduceGT, Int.reduceGE, Int.reduceNe, Int.reduceBNe])).mono ?_
    rintro x e' h' (⟨hq, rfl, k0, k1, k2, k3, k4, k5, k6⟩ | ⟨hq, rfl, k⟩)
    · rw [hq2] at hq; cases hq
    · simp only [go_sem, kSt_ptr, Nat.reduceBEq, Nat.reduceAdd, Nat.reduceEqDiff, Nat.reduceLeDiff, Nat.reduceSub, reduceIte, Int.reduceBEq, Int.reduceEq, Int.reduceLT, Int.reduceLE, Int.reduceGT, Int.reduceGE, Int.reduceNe, Int.reduceBNe, k]
  · rintro e h ⟨q0, q1, q2, q3, q4, ix, nx⟩
    simp only [go_sem, kSt_ptr, Nat.reduceBEq, Nat.reduceAdd, Nat.reduceEqDiff, Nat.reduceLeDiff, Nat.reduceSub, reduceIte, Int.reduceBEq, Int.reduceEq, Int.reduceLT, Int.reduceLE, Int.reduceGT, Int.reduceGE, Int.reduceNe, Int.reduceBNe, s_impl_partsOk_L1, q0, q1, q2, q3, q4, ix, nx, TDef.row]
  · simp only [go_sem, kSt_ptr, Nat.reduceBEq, Nat.reduceAdd, Nat.reduceEqDiff, Nat.reduceLeDiff, Nat.reduceSub, reduceIte, Int.reduceBEq, Int.reduceEq, Int.reduceLT, Int.reduceLE, Int.reduceGT, Int.reduceGE, Int.reduceNe, Int.reduceBNe, TDef.row]
  · rintro x e h (⟨hp, rfl, j0, j1, j2, j3, j4⟩ | ⟨hp, rfl, j⟩)
    · simp only [go_sem, kSt_ptr, Nat.reduceBEq, Nat.reduceAdd, Nat.reduceEqDiff, Nat.reduceLeDiff, Nat.reduceSub, reduceIte, Int.reduceBEq, Int.reduceEq, Int.reduceLT, Int.reduceLE, Int.reduceGT, Int.reduceGE, Int.reduceNe, Int.reduceBNe, j0, j1, j2, TDef.row, h1, C_impl_in_eq, partsOK, hp]
    · simp only [go_sem, kSt_ptr, Nat.reduceBEq, Nat.reduceAdd, Nat.reduceEqDiff, Nat.reduceLeDiff, Nat.reduceSub, reduceIte, Int.reduceBEq, Int.reduceEq, Int.reduceLT, Int.reduceLE, Int.reduceGT, Int.reduceGE, Int.reduceNe, Int.reduceBNe, s_impl_partsOk, j, partsOK, hp]
def wordsText : List UInt8 := [116, 97, 98, 108, 101, 32, 112, 114, 105, 109, 97, 114, 121, 32, 117, 110, 105, 113, 117, 101, 32, 105, 110, 100, 101, 120, 32, 110, 117, 108, 108, 32, 100, 101, 115, 99, 32, 105, 110, 116, 32, 110, 117, 109, 32, 116, 101, 120, 116, 32, 98, 111, 111, 108]
theorem words_split : Lib.split wordsText [32] = words := by decide +kernel
noncomputable def C_strings_Split := c2 strT strT (fun s sep => s.length < 4294967281 ∧ 1 ≤ sep.length) (fun l => .imm (l.map strT.row)) fun s sep => Lib.split s sep
theorem C_strings_Split_eq (s sep : List UInt8) (h : s.length < 4294967281 ∧ 1 ≤ sep.length) : C_strings_Split [.str s, .str sep] = some (.imm ((Lib.split s sep).map strT.row)) := c2_eq strT strT h
noncomputable def C_impl_isLetter := c1 u8T (fun (b : UInt8) => True) (.bool) fun (b : UInt8) => smallB b
theorem C_impl_isLetter_eq (b : UInt8) (h : True) : C_impl_isLetter [.int .u8 (b).toNat] = some (.bool ((smallB b))) := c1_eq u8T h
theorem ok_impl_isLetter {WI : World → Prop} (hs : Stable WI) (cs) (hT : TOK (EE cs) WI) : PureOK Tryz.prog WI 297 C_impl_isLetter := by
  refine pure1 (E := EE cs) hT hs (by rw [st_impl_isLetter]; rfl) fun b hp => out_wp (n := 0) (st_impl_isLetter cs) ?_
  by_cases d : (97 : Int) ≤ b.toNat
  · simp only [go_sem, kSt_ptr, Nat.reduceBEq, Nat.reduceAdd, Nat.reduceEqDiff, Nat.reduceLeDiff, Nat.reduceSub, reduceIte, Int.reduceBEq, Int.reduceEq, Int.reduceLT, Int.reduceLE, Int.reduceGT, Int.reduceGE, Int.reduceNe, Int.reduceBNe, s_impl_isLetter, d, smallB, inR]
  · simp only [go_sem, kSt_ptr, Nat.reduceBEq, Nat.reduceAdd, Nat.reduceEqDiff, Nat.reduceLeDiff, Nat.reduceSub, reduceIte, Int.reduceBEq, Int.reduceEq, Int.reduceLT, Int.reduceLE, Int.reduceGT, Int.reduceGE, Int.reduceNe, Int.reduceBNe, s_impl_isLetter, d, smallB, inR]
noncomputable def C_impl_isDigit := c1 u8T (fun (b : UInt8) => True) (.bool) fun (b : UInt8) => digitB b
theorem C_impl_isDigit_eq (b : UInt8) (h : True) : C_impl_isDigit [.int .u8 (b).toNat] = some (.bool ((digitB b))) := c1_eq u8T h
theorem ok_impl_isDigit {WI : World → Prop} (hs : Stable WI) (cs) (hT : TOK (EE cs) WI) : PureOK Tryz.prog WI 298 C_impl_isDigit := by
  refine pure1 (E := EE cs) hT hs (by rw [st_impl_isDigit]; rfl) fun b hp => out_wp (n := 0) (st_impl_isDigit cs) ?_
  by_cases d : (48 : Int) ≤ b.toNat
  · simp only [go_sem, kSt_ptr, Nat.reduceBEq, Nat.reduceAdd, Nat.reduceEqDiff, Nat.reduceLeDiff, Nat.reduceSub, reduceIte, Int.reduceBEq, Int.reduceEq, Int.reduceLT, Int.reduceLE, Int.reduceGT, Int.reduceGE, Int.reduceNe, Int.reduceBNe, s_impl_isDigit, d, digitB, inR]
  · simp only [go_sem, kSt_ptr, Nat.reduceBEq, Nat.reduceAdd, Nat.reduceEqDiff, Nat.reduceLeDiff, Nat.reduceSub, reduceIte, Int.reduceBEq, Int.reduceEq, Int.reduceLT, Int.reduceLE, Int.reduceGT, Int.reduceGE, Int.reduceNe, Int.reduceBNe, s_impl_isDigit, d, digitB, inR]
noncomputable def C_impl_nameOk := c1 strT (fun (s : List UInt8) => s.length ≤ 1048576) (.bool) fun (s : List UInt8) => isName s
theorem C_impl_nameOk_eq (s : List UInt8) (h : s.length ≤ 1048576) : C_impl_nameOk [.str s] = some (.bool ((isName s))) := c1_eq strT h
theorem ok_impl_nameOk {WI : World → Prop} (hs : Stable WI) (cs) (hT : TOK (EE cs) WI) (h1 : (EE cs).T 297 = some C_impl_isLetter) (h2 : (EE cs).T 298 = some C_impl_isDigit) (h3 : (EE cs).T 78 = some C_impl_in) : PureOK Tryz.prog WI 253 C_impl_nameOk := by
  refine pure1 (E := EE cs) hT hs (by rw [st_impl_nameOk]; rfl) fun s hp => out_wp (n := 0) (st_impl_nameOk cs) ?_
  simp only [go_sem, kSt_ptr, Nat.reduceBEq, Nat.reduceAdd, Nat.reduceEqDiff, Nat.reduceLeDiff, Nat.reduceSub, reduceIte, Int.reduceBEq, Int.reduceEq, Int.reduceLT, Int.reduceLE, Int.reduceGT, Int.reduceGE, Int.reduceNe, Int.reduceBNe, s_impl_nameOk]
  refine (wl_all (l := s) (fun pre b => nameB pre b) (fun pre e h => e 0 = .str s ∧ e 3 = .int .i64 pre.length) (.exit 0) (fun e h => e 0 = .str s) (fun e h => e 2 = .bool false) (by omega) ?_ ?_ ?_ (by simp) s [] _ _ rfl ?_).mono ?_
  · rintro pre b rest e h a hp ⟨q0, ix⟩
    cases c1 : smallB b <;> cases c2 : ((pre.length : Int) == 0) <;> cases c3 : digitB b <;> simp [nameB, c1, c2, c3] at hp
    all_goals simp only [go_sem, kSt_ptr, Nat.reduceBEq, Nat.reduceAdd, Nat.reduceEqDiff, Nat.reduceLeDiff, Nat.reduceSub, reduceIte, Int.reduceBEq, Int.reduceEq, Int.reduceLT, Int.reduceLE, Int.reduceGT, Int.reduceGE, Int.reduceNe, Int.reduceBNe, s_impl_nameOk_L0, q0, ix, a.dl, kIx_at a.hl, hp, a.hw, h1, h2, C_impl_isLetter_eq b trivial, C_impl_isDigit_eq b trivial, c1, c2, c3]
  · rintro pre b rest e h a hp ⟨q0, ix⟩
    cases c1 : smallB b <;> cases c2 : ((pre.length : Int) == 0) <;> cases c3 : digitB b <;> simp [nameB, c1, c2, c3] at hp
    all_goals simp only [go_sem, kSt_ptr, Nat.reduceBEq, Nat.reduceAdd, Nat.reduceEqDiff, Nat.reduceLeDiff, Nat.reduceSub, reduceIte, Int.reduceBEq, Int.reduceEq, Int.reduceLT, Int.reduceLE, Int.reduceGT, Int.reduceGE, Int.reduceNe, Int.reduceBNe, s_impl_nameOk_L0, q0, ix, a.dl, kIx_at a.hl, hp, a.hw, h1, h2, C_impl_isLetter_eq b trivial, C_impl_isDigit_eq b trivial, c1, c2, c3]
  · rintro e h ⟨q0, ix⟩
    simp only [go_sem, kSt_ptr, Nat.reduceBEq, Nat.reduceAdd, Nat.reduceEqDiff, Nat.reduceLeDiff, Nat.reduceSub, reduceIte, Int.reduceBEq, Int.reduceEq, Int.reduceLT, Int.reduceLE, Int.reduceGT, Int.reduceGE, Int.reduceNe, Int.reduceBNe, s_impl_nameOk_L0, q0, ix]
  · simp only [go_sem, kSt_ptr, Nat.reduceBEq, Nat.reduceAdd, Nat.reduceEqDiff, Nat.reduceLeDiff, Nat.reduceSub, reduceIte, Int.reduceBEq, Int.reduceEq, Int.reduceLT, Int.reduceLE, Int.reduceGT, Int.reduceGE, Int.reduceNe, Int.reduceBNe, and_self]
  · rintro x e h (⟨hp, rfl, j0⟩ | ⟨hp, rfl, j⟩)
    · simp only [go_sem, kSt_ptr, Nat.reduceBEq, Nat.reduceAdd, Nat.reduceEqDiff, Nat.reduceLeDiff, Nat.reduceSub, reduceIte, Int.reduceBEq, Int.reduceEq, Int.reduceLT, Int.reduceLE, Int.reduceGT, Int.reduceGE, Int.reduceNe, Int.reduceBNe, j0, h3, C_impl_in_eq, isName, hp]
    · simp only [go_sem, kSt_ptr, Nat.reduceBEq, Nat.reduceAdd, Nat.reduceEqDiff, Nat.reduceLeDiff, Nat.reduceSub, reduceIte, Int.reduceBEq, Int.reduceEq, Int.reduceLT, Int.reduceLE, Int.reduceGT, Int.reduceGE, Int.reduceNe, Int.reduceBNe, s_impl_nameOk, j, isName, hp]
noncomputable def C_impl_isFree := c1 strT (fun (s : List UInt8) => s.length ≤ 1048576) (.bool) fun (s : List UInt8) => freeW s
theorem C_impl_isFree_eq (s : List UInt8) (h : s.length ≤ 1048576) : C_impl_isFree [.str s] = some (.bool ((freeW s))) := c1_eq strT h
theorem ok_impl_isFree {WI : World → Prop} (hs : Stable WI) (cs) (hT : TOK (EE cs) WI) (h1 : (EE cs).T 252 = some C_strings_Split) (h2 : (EE cs).T 253 = some C_impl_nameOk) : PureOK Tryz.prog WI 211 C_impl_isFree := by
  refine pure1 (E := EE cs) hT hs (by rw [st_impl_isFree]; rfl) fun s hp => out_wp (n := 0) (st_impl_isFree cs) ?_
  have c1 : C_strings_Split [.str [116, 97, 98, 108, 101, 32, 112, 114, 105, 109, 97, 114, 121, 32, 117, 110, 105, 113, 117, 101, 32, 105, 110, 100, 101, 120, 32, 110, 117, 108, 108, 32, 100, 101, 115, 99, 32, 105, 110, 116, 32, 110, 117, 109, 32, 116, 101, 120, 116, 32, 98, 111, 111, 108], .str [32]] = some (.imm (words.map strT.row)) := by
    rw [← words_split]
    exact C_strings_Split_eq wordsText [32] (by decide)
  have c2 := C_impl_nameOk_eq s hp
  simp only [go_sem, kSt_ptr, Nat.reduceBEq, Nat.reduceAdd, Nat.reduceEqDiff, Nat.reduceLeDiff, Nat.reduceSub, reduceIte, Int.reduceBEq, Int.reduceEq, Int.reduceLT, Int.reduceLE, Int.reduceGT, Int.reduceGE, Int.reduceNe, Int.reduceBNe, s_impl_isFree, h1, c1]
  refine (wl_all (l := words) (fun pre w => !(w == s)) (fun pre e h => e 0 = .str s ∧ e 5 = .imm (words.map strT.row) ∧ e 7 = .int .i64 pre.length ∧ e 6 = .int .i64 (words).length) (.exit 0) (fun e h => e 0 = .str s ∧ e 5 = .imm (words.map strT.row)) (fun e h => e 2 = .bool false) (by decide) ?_ ?_ ?_ (by simp) words [] _ _ rfl ?_).mono ?_
  · rintro pre w rest e h a hp ⟨q0, q1, ix, nx⟩
    have hq : (w == s) = false := by simpa using hp
    simp only [go_sem, kSt_ptr, Nat.reduceBEq, Nat.reduceAdd, Nat.reduceEqDiff, Nat.reduceLeDiff, Nat.reduceSub, reduceIte, Int.reduceBEq, Int.reduceEq, Int.reduceLT, Int.reduceLE, Int.reduceGT, Int.reduceGE, Int.reduceNe, Int.reduceBNe, s_impl_isFree_L0, q0, q1, ix, nx, a.dl, a.ia (row := strT.row) (sz := 1) rfl, hp, a.hw, hq]
  · rintro pre w rest e h a hp ⟨q0, q1, ix, nx⟩
    have hq : (w == s) = true := by simpa using hp
    simp only [go_sem, kSt_ptr, Nat.reduceBEq, Nat.reduceAdd, Nat.reduceEqDiff, Nat.reduceLeDiff, Nat.reduceSub, reduceIte, Int.reduceBEq, Int.reduceEq, Int.reduceLT, Int.reduceLE, Int.reduceGT, Int.reduceGE, Int.reduceNe, Int.reduceBNe, s_impl_isFree_L0, q0, q1, ix, nx, a.dl, a.ia (row := strT.row) (sz := 1) rfl, hp, a.hw, hq]
  · rintro e h ⟨q0, q1, ix, nx⟩
    simp only [go_sem, kSt_ptr, Nat.reduceBEq, Nat.reduceAdd, Nat.reduceEqDiff, Nat.reduceLeDiff, Nat.reduceSub, reduceIte, Int.reduceBEq, Int.reduceEq, Int.reduceLT, Int.reduceLE, Int.reduceGT, Int.reduceGE, Int.reduceNe, Int.reduceBNe, s_impl_isFree_L0, q0, q1, ix, nx]
  · simp only [go_sem, kSt_ptr, Nat.reduceBEq, Nat.reduceAdd, Nat.reduceEqDiff, Nat.reduceLeDiff, Nat.reduceSub, reduceIte, Int.reduceBEq, Int.reduceEq, Int.reduceLT, Int.reduceLE, Int.reduceGT, Int.reduceGE, Int.reduceNe, Int.reduceBNe, and_self]
  · rintro x e h (⟨hp, rfl, j0, j1⟩ | ⟨hp, rfl, j⟩)
    · rw [allP_all] at hp
      simp only [go_sem, kSt_ptr, Nat.reduceBEq, Nat.reduceAdd, Nat.reduceEqDiff, Nat.reduceLeDiff, Nat.reduceSub, reduceIte, Int.reduceBEq, Int.reduceEq, Int.reduceLT, Int.reduceLE, Int.reduceGT, Int.reduceGE, Int.reduceNe, Int.reduceBNe, j0, h2, c2, freeW, hasS, hp]
    · rw [allP_all] at hp
      simp only [go_sem, kSt_ptr, Nat.reduceBEq, Nat.reduceAdd, Nat.reduceEqDiff, Nat.reduceLeDiff, Nat.reduceSub, reduceIte, Int.reduceBEq, Int.reduceEq, Int.reduceLT, Int.reduceLE, Int.reduceGT, Int.reduceGE, Int.reduceNe, Int.reduceBNe, s_impl_isFree, j, freeW, hasS, hp]
end Go.Proofs.YtienjjjhjeigmaaGreatDoor.Is
/- What the functions that FnExactInScan calls answer: part 10. -/
namespace Go.Proofs.YtienjjjhjeigmaaGreatDoor.Is
open Go Go.RowKit Go.Ev
set_option linter.unusedSimpArgs false
set_option linter.unusedVariables false
set_option maxHeartbeats 1600000
noncomputable def C_impl_namesOk := c1 tDef (fun (v : TDef) => tDef.cost v ≤ 1048576) (.bool) fun (v : TDef) => defNames v
theorem C_impl_namesOk_eq (v : TDef) (h : tDef.cost v ≤ 1048576) : C_impl_namesOk [.agg [.str v.fName, .imm (v.fCols.map TCol.row), .imm (v.fPrimary.map TBy.row), .imm (v.fIndexes.map TIndex.row)]] = some (.bool ((defNames v))) := c1_eq tDef h
theorem ok_impl_namesOk {WI : World → Prop} (hs : Stable WI) (cs) (hT : TOK (EE cs) WI) (h1 : (EE cs).T 211 = some C_impl_isFree) : PureOK Tryz.prog WI 148 C_impl_namesOk := by
  refine pure1 (E := EE cs) hT hs (by rw [st_impl_namesOk]; rfl) fun v hp => out_wp (n := 0) (st_impl_namesOk cs) ?_
  obtain ⟨n1, n2, n3, n4, n5, n6⟩ := defLens hp
  simp only [go_sem, kSt_ptr, Nat.reduceBEq, Nat.reduceAdd, Nat.reduceEqDiff, Nat.reduceLeDiff, Nat.reduceSub, reduceIte, Int.reduceBEq, Int.reduceEq, Int.reduceLT, Int.reduceLE, Int.reduceGT, Int.reduceGE, Int.reduceNe, Int.reduceBNe, s_impl_namesOk, TDef.row]
  refine (wl_all (l := v.fCols) (fun pre c => freeW c.fName) (fun pre e h => e 1 = .ptr 0 0 ∧ h.hp 0 = some v.row ∧ e 8 = .imm (v.fCols.map TCol.row) ∧ 0 < h.nx ∧ e 10 = .int .i64 pre.length ∧ e 9 = .int .i64 (v.fCols).length) (.exit 0) (fun e h => e 1 = .ptr 0 0 ∧ h.hp 0 = some v.row ∧ e 8 = .imm (v.fCols.map TCol.row) ∧ 0 < h.nx) (fun e h => e 2 = .bool false) (by omega) ?_ ?_ ?_ (by simp) v.fCols [] _ _ rfl ?_).mono ?_
  · rintro pre c rest e h a hp ⟨q0, q1, q2, q3, ix, nx⟩
    have hne : ¬ 0 = h.nx := by omega
    simp only [go_sem, kSt_ptr, Nat.reduceBEq, Nat.reduceAdd, Nat.reduceEqDiff, Nat.reduceLeDiff, Nat.reduceSub, reduceIte, Int.reduceBEq, Int.reduceEq, Int.reduceLT, Int.reduceLE, Int.reduceGT, Int.reduceGE, Int.reduceNe, Int.reduceBNe, s_impl_namesOk_L0, q0, q1, q2, q3, ix, nx, a.dl, a.ia (row := TCol.row) (sz := 3) rfl, hp, a.hw, TDef.row, TCol.row, h1, C_impl_isFree_eq c.fName (n5 c a.mem), hne]
  · rintro pre c rest e h a hp ⟨q0, q1, q2, q3, ix, nx⟩
    have hne : ¬ 0 = h.nx := by omega
    simp only [go_sem, kSt_ptr, Nat.reduceBEq, Nat.reduceAdd, Nat.reduceEqDiff, Nat.reduceLeDiff, Nat.reduceSub, reduceIte, Int.reduceBEq, Int.reduceEq, Int.reduceLT, Int.reduceLE, Int.reduceGT, Int.reduceGE, Int.reduceNe, Int.reduceBNe, s_impl_namesOk_L0, q0, q1, q2, q3, ix, nx, a.dl, a.ia (row := TCol.row) (sz := 3) rfl, hp, a.hw, TDef.row, TCol.row, h1, C_impl_isFree_eq c.fName (n5 c a.mem), hne]
  · rintro e h ⟨q0, q1, q2, q3, ix, nx⟩
    simp only [go_sem, kSt_ptr, Nat.reduceBEq, Nat.reduceAdd, Nat.reduceEqDiff, Nat.reduceLeDiff, Nat.reduceSub, reduceIte, Int.reduceBEq, Int.reduceEq, Int.reduceLT, Int.reduceLE, Int.reduceGT, Int.reduceGE, Int.reduceNe, Int.reduceBNe, s_impl_namesOk_L0, q0, q1, q2, q3, ix, nx, TDef.row]
  · simp only [go_sem, kSt_ptr, Nat.reduceBEq, Nat.reduceAdd, Nat.reduceEqDiff, Nat.reduceLeDiff, Nat.reduceSub, reduceIte, Int.reduceBEq, Int.reduceEq, Int.reduceLT, Int.reduceLE, Int.reduceGT, Int.reduceGE, Int.reduceNe, Int.reduceBNe, TDef.row]
  · rintro x e h (⟨hp, rfl, j0, j1, j2, j3⟩ | ⟨hp, rfl, j⟩)
    · rw [allP_all] at hp
      simp only [go_sem, kSt_ptr, Nat.reduceBEq, Nat.reduceAdd, Nat.reduceEqDiff, Nat.reduceLeDiff, Nat.reduceSub, reduceIte, Int.reduceBEq, Int.reduceEq, Int.reduceLT, Int.reduceLE, Int.reduceGT, Int.reduceGE, Int.reduceNe, Int.reduceBNe, j0, j1, TDef.row]
      refine (wl_all (l := v.fIndexes) (fun pre c => freeW c.fName) (fun pre e h => e 1 = .ptr 0 0 ∧ h.hp 0 = some v.row ∧ e 20 = .imm (v.fIndexes.map TIndex.row) ∧ 0 < h.nx ∧ e 22 = .int .i64 pre.length ∧ e 21 = .int .i64 (v.fIndexes).length) (.exit 2) (fun e h => e 1 = .ptr 0 0 ∧ h.hp 0 = some v.row ∧ e 20 = .imm (v.fIndexes.map TIndex.row) ∧ 0 < h.nx) (fun e h => e 2 = .bool false) (by omega) ?_ ?_ ?_ (by simp) v.fIndexes [] _ _ rfl ?_).mono ?_
      · rintro pre c rest e h a hp ⟨q0, q1, q2, q3, ix, nx⟩
        have hne : ¬ 0 = h.nx := by omega
        simp only [go_sem, kSt_ptr, Nat.reduceBEq, Nat.reduceAdd, Nat.reduceEqDiff, Nat.reduceLeDiff, Nat.reduceSub, reduceIte, Int.reduceBEq, Int.reduceEq, Int.reduceLT, Int.reduceLE, Int.reduceGT, Int.reduceGE, Int.reduceNe, Int.reduceBNe, s_impl_namesOk_L1, q0, q1, q2, q3, ix, nx, a.dl, a.ia (row := TIndex.row) (sz := 3) rfl, hp, a.hw, TDef.row, TIndex.row, h1, C_impl_isFree_eq c.fName (n6 c a.mem).1, hne]
      · rintro pre c rest e h a hp ⟨q0, q1, q2, q3, ix, nx⟩
        have hne : ¬ 0 = h.nx := by omega
        simp only [go_sem, kSt_ptr, Nat.reduceBEq, Nat.reduceAdd, Nat.reduceEqDiff, Nat.reduceLeDiff, Nat.reduceSub, reduceIte, Int.reduceBEq, Int.reduceEq, Int.reduceLT, Int.reduceLE, Int.reduceGT, Int.reduceGE, Int.reduceNe, Int.reduceBNe, s_impl_namesOk_L1, q0, q1, q2, q3, ix, nx, a.dl, a.ia (row := TIndex.row) (sz := 3) rfl, hp, a.hw, TDef.row, TIndex.row, h1, C_impl_isFree_eq c.fName (n6 c a.mem).1, hne]
      · rintro e h ⟨q0, q1, q2, q3, ix, nx⟩
        simp only [go_sem, kSt_ptr, Nat.reduceBEq, Nat.reduceAdd, Nat.reduceEqDiff, Nat.reduceLeDiff, Nat.reduceSub, reduceIte, Int.reduceBEq, Int.reduceEq, Int.reduceLT, Int.reduceLE, Int.reduceGT, Int.reduceGE, Int.reduceNe, Int.reduceBNe, s_impl_namesOk_L1, q0, q1, q2, q3, ix, nx, TDef.row]
      · simp only [go_sem, kSt_ptr, Nat.reduceBEq, Nat.reduceAdd, Nat.reduceEqDiff, Nat.reduceLeDiff, Nat.reduceSub, reduceIte, Int.reduceBEq, Int.reduceEq, Int.reduceLT, Int.reduceLE, Int.reduceGT, Int.reduceGE, Int.reduceNe, Int.reduceBNe, j0, j1, j3, TDef.row]
      · rintro x e h (⟨hp2, rfl, j0, j1, j2, j3⟩ | ⟨hp2, rfl, j⟩)
        · rw [allP_all] at hp2
          simp only [go_sem, kSt_ptr, Nat.reduceBEq, Nat.reduceAdd, Nat.reduceEqDiff, Nat.reduceLeDiff, Nat.reduceSub, reduceIte, Int.reduceBEq, Int.reduceEq, Int.reduceLT, Int.reduceLE, Int.reduceGT, Int.reduceGE, Int.reduceNe, Int.reduceBNe, j0, j1, TDef.row, h1, C_impl_isFree_eq v.fName n1, defNames, hp, hp2]
        · rw [allP_all] at hp2
          simp only [go_sem, kSt_ptr, Nat.reduceBEq, Nat.reduceAdd, Nat.reduceEqDiff, Nat.reduceLeDiff, Nat.reduceSub, reduceIte, Int.reduceBEq, Int.reduceEq, Int.reduceLT, Int.reduceLE, Int.reduceGT, Int.reduceGE, Int.reduceNe, Int.reduceBNe, s_impl_namesOk, j, defNames, hp, hp2]
    · rw [allP_all] at hp
      simp only [go_sem, kSt_ptr, Nat.reduceBEq, Nat.reduceAdd, Nat.reduceEqDiff, Nat.reduceLeDiff, Nat.reduceSub, reduceIte, Int.reduceBEq, Int.reduceEq, Int.reduceLT, Int.reduceLE, Int.reduceGT, Int.reduceGE, Int.reduceNe, Int.reduceBNe, s_impl_namesOk, j, defNames, hp]
noncomputable def C_impl_twice := c1 tDef (fun (v : TDef) => tDef.cost v ≤ 1048576) (.bool) fun (v : TDef) => !defOnce v
theorem C_impl_twice_eq (v : TDef) (h : tDef.cost v ≤ 1048576) : C_impl_twice [.agg [.str v.fName, .imm (v.fCols.map TCol.row), .imm (v.fPrimary.map TBy.row), .imm (v.fIndexes.map TIndex.row)]] = some (.bool ((!defOnce v))) := c1_eq tDef h
theorem ok_impl_twice {WI : World → Prop} (hs : Stable WI) (cs) (hT : TOK (EE cs) WI) : PureOK Tryz.prog WI 149 C_impl_twice := by
  refine pure1 (E := EE cs) hT hs (by rw [st_impl_twice]; rfl) fun v hp => out_wp (n := 0) (st_impl_twice cs) ?_
  obtain ⟨n1, n2, n3, n4, n5, n6⟩ := defLens hp
  have in1 : ∀ pre c rest, At v.fCols pre c rest → ∀ e h b, e 1 = .ptr 0 0 → h.hp 0 = some v.row → e 12 = .imm (v.fCols.map TCol.row) → e 13 = .int .i64 v.fCols.length → e 14 = .int .i64 pre.length → e 4 = .ptr b 0 → h.hp b = some c.row → b < h.nx → 0 < h.nx → e 22 = .imm (pre.map TCol.row) → e 23 = .int .i64 pre.length → e 24 = .int .i64 0 → WL (EE cs) s_impl_twice_L0 e h fun x e' h' => (onceC pre c = true ∧ x = .exit 2 ∧ e' 1 = .ptr 0 0 ∧ h'.hp 0 = some v.row ∧ e' 12 = .imm (v.fCols.map TCol.row) ∧ e' 13 = .int .i64 v.fCols.length ∧ e' 14 = .int .i64 pre.length ∧ 0 < h'.nx) ∨ (onceC pre c = false ∧ x = .ret ∧ e' 2 = .bool true) := by
    intro pre0 c rest0 a0 e h b k0 k1 k2 k3 k4 k5 k6 k7 k8 k9 k10 k11
    have hlt0 := a0.lt
    refine (wl_all (l := pre0) (fun pre y => !(y.fName == c.fName)) (fun pre e h => e 1 = .ptr 0 0 ∧ h.hp 0 = some v.row ∧ e 12 = .imm (v.fCols.map TCol.row) ∧ e 13 = .int .i64 v.fCols.length ∧ e 14 = .int .i64 pre0.length ∧ e 4 = .ptr b 0 ∧ h.hp b = some c.row ∧ b < h.nx ∧ 0 < h.nx ∧ e 22 = .imm (pre0.map TCol.row) ∧ e 24 = .int .i64 pre.length ∧ e 23 = .int .i64 (pre0).length) (.exit 2) (fun e h => e 1 = .ptr 0 0 ∧ h.hp 0 = some v.row ∧ e 12 = .imm (v.fCols.map TCol.row) ∧ e 13 = .int .i64 v.fCols.length ∧ e 14 = .int .i64 pre0.length ∧ 0 < h.nx) (fun e h => e 2 = .bool true) (by omega) ?_ ?_ ?_ (by simp) pre0 [] _ _ rfl ?_).mono ?_
    · rintro pre y rest e h a hp ⟨q0, q1, q2, q3, q4, q5, q6, q7, q8, q9, ix, nx⟩
      have hne : ¬ 0 = h.nx := by omega
      have hne2 : ¬ b = h.nx := by omega
      have hq : (y.fName == c.fName) = false := by simpa using hp
      have hb1 : b < h.nx + 1 := by omega
      simp only [go_sem, kSt_ptr, Nat.reduceBEq, Nat.reduceAdd, Nat.reduceEqDiff, Nat.reduceLeDiff, Nat.reduceSub, reduceIte, Int.reduceBEq, Int.reduceEq, Int.reduceLT, Int.reduceLE, Int.reduceGT, Int.reduceGE, Int.reduceNe, Int.reduceBNe, s_impl_twice_L0, q0, q1, q2, q3, q4, q5, q6, q7, q8, q9, ix, nx, a.dl, a.ia (row := TCol.row) (sz := 3) rfl, hp, a.hw, TCol.row, hq, hne, hne2, hb1]
    · rintro pre y rest e h a hp ⟨q0, q1, q2, q3, q4, q5, q6, q7, q8, q9, ix, nx⟩
      have hne : ¬ 0 = h.nx := by omega
      have hne2 : ¬ b = h.nx := by omega
      have hq : (y.fName == c.fName) = true := by simpa using hp
      simp only [go_sem, kSt_ptr, Nat.reduceBEq, Nat.reduceAdd, Nat.reduceEqDiff, Nat.reduceLeDiff, Nat.reduceSub, reduceIte, Int.reduceBEq, Int.reduceEq, Int.reduceLT, Int.reduceLE, Int.reduceGT, Int.reduceGE, Int.reduceNe, Int.reduceBNe, s_impl_twice_L0, q0, q1, q2, q3, q4, q5, q6, q7, q8, q9, ix, nx, a.dl, a.ia (row := TCol.row) (sz := 3) rfl, hp, a.hw, TCol.row, hq, hne, hne2]
    · rintro e h ⟨q0, q1, q2, q3, q4, q5, q6, q7, q8, q9, ix, nx⟩
      simp only [go_sem, kSt_ptr, Nat.reduceBEq, Nat.reduceAdd, Nat.reduceEqDiff, Nat.reduceLeDiff, Nat.reduceSub, reduceIte, Int.reduceBEq, Int.reduceEq, Int.reduceLT, Int.reduceLE, Int.reduceGT, Int.reduceGE, Int.reduceNe, Int.reduceBNe, s_impl_twice_L0, q0, q1, q2, q3, q4, q5, q6, q7, q8, q9, ix, nx]
    · simp only [go_sem, kSt_ptr, Nat.reduceBEq, Nat.reduceAdd, Nat.reduceEqDiff, Nat.reduceLeDiff, Nat.reduceSub, reduceIte, Int.reduceBEq, Int.reduceEq, Int.reduceLT, Int.reduceLE, Int.reduceGT, Int.reduceGE, Int.reduceNe, Int.reduceBNe, k0, k1, k2, k3, k4, k5, k6, k7, k8, k9, k10, k11]
    · rintro x e' h' (⟨hp, rfl, j⟩ | ⟨hp, rfl, j⟩)
      · rw [allP_all] at hp
        exact .inl ⟨hp, rfl, j⟩
      · rw [allP_all] at hp
        exact .inr ⟨hp, rfl, j⟩
  have in2 : ∀ pre c rest, At v.fIndexes pre c rest → ∀ e h b, e 1 = .ptr 0 0 → h.hp 0 = some v.row → e 36 = .imm (v.fIndexes.map TIndex.row) → e 37 = .int .i64 v.fIndexes.length → e 38 = .int .i64 pre.length → e 8 = .ptr b 0 → h.hp b = some c.row → b < h.nx → 0 < h.nx → e 46 = .imm (pre.map TIndex.row) → e 47 = .int .i64 pre.length → e 48 = .int .i64 0 → WL (EE cs) s_impl_twice_L2 e h fun x e' h' => (onceX pre c = true ∧ x = .exit 6 ∧ e' 1 = .ptr 0 0 ∧ h'.hp 0 = some v.row ∧ e' 36 = .imm (v.fIndexes.map TIndex.row) ∧ e' 37 = .int .i64 v.fIndexes.length ∧ e' 38 = .int .i64 pre.length ∧ 0 < h'.nx) ∨ (onceX pre c = false ∧ x = .ret ∧ e' 2 = .bool true) := by
    intro pre0 c rest0 a0 e h b k0 k1 k2 k3 k4 k5 k6 k7 k8 k9 k10 k11
    have hlt0 := a0.lt
    refine (wl_all (l := pre0) (fun pre y => !(y.fName == c.fName)) (fun pre e h => e 1 = .ptr 0 0 ∧ h.hp 0 = some v.row ∧ e 36 = .imm (v.fIndexes.map TIndex.row) ∧ e 37 = .int .i64 v.fIndexes.length ∧ e 38 = .int .i64 pre0.length ∧ e 8 = .ptr b 0 ∧ h.hp b = some c.row ∧ b < h.nx ∧ 0 < h.nx ∧ e 46 = .imm (pre0.map TIndex.row) ∧ e 48 = .int .i64 pre.length ∧ e 47 = .int .i64 (pre0).length) (.exit 6) (fun e h => e 1 = .ptr 0 0 ∧ h.hp 0 = some v.row ∧ e 36 = .imm (v.fIndexes.map TIndex.row) ∧ e 37 = .int .i64 v.fIndexes.length ∧ e 38 = .int .i64 pre0.length ∧ 0 < h.nx) (fun e h => e 2 = .bool true) (by omega) ?_ ?_ ?_ (by simp) pre0 [] _ _ rfl ?_).mono ?_
    · rintro pre y rest e h a hp ⟨q0, q1, q2, q3, q4, q5, q6, q7, q8, q9, ix, nx⟩
      have hne : ¬ 0 = h.nx := by omega
      have hne2 : ¬ b = h.nx := by omega
      have hq : (y.fName == c.fName) = false := by simpa using hp
      have hb1 : b < h.nx + 1 := by omega
      simp only [go_sem, kSt_ptr, Nat.reduceBEq, Nat.reduceAdd, Nat.reduceEqDiff, Nat.reduceLeDiff, Nat.reduceSub, reduceIte, Int.reduceBEq, Int.reduceEq, Int.reduceLT, Int.reduceLE, Int.reduceGT, Int.reduceGE, Int.reduceNe, Int.reduceBNe, s_impl_twice_L2, q0, q1, q2, q3, q4, q5, q6, q7, q8, q9, ix, nx, a.dl, a.ia (row := TIndex.row) (sz := 3) rfl, hp, a.hw, TIndex.row, hq, hne, hne2, hb1]
    · rintro pre y rest e h a hp ⟨q0, q1, q2, q3, q4, q5, q6, q7, q8, q9, ix, nx⟩
      have hne : ¬ 0 = h.nx := by omega
      have hne2 : ¬ b = h.nx := by omega
      have hq : (y.fName == c.fName) = true := by simpa using hp
      simp only [go_sem, kSt_ptr, Nat.reduceBEq, Nat.reduceAdd, Nat.reduceEqDiff, Nat.reduceLeDiff, Nat.reduceSub, reduceIte, Int.reduceBEq, Int.reduceEq, Int.reduceLT, Int.reduceLE, Int.reduceGT, Int.reduceGE, Int.reduceNe, Int.reduceBNe, s_impl_twice_L2, q0, q1, q2, q3, q4, q5, q6, q7, q8, q9, ix, nx, a.dl, a.ia (row := TIndex.row) (sz := 3) rfl, hp, a.hw, TIndex.row, hq, hne, hne2]
    · rintro e h ⟨q0, q1, q2, q3, q4, q5, q6, q7, q8, q9, ix, nx⟩
      simp only [go_sem, kSt_ptr, Nat.reduceBEq, Nat.reduceAdd, Nat.reduceEqDiff, Nat.reduceLeDiff, Nat.reduceSub, reduceIte, Int.reduceBEq, Int.reduceEq, Int.reduceLT, Int.reduceLE, Int.reduceGT, Int.reduceGE, Int.reduceNe, Int.reduceBNe, s_impl_twice_L2, q0, q1, q2, q3, q4, q5, q6, q7, q8, q9, ix, nx]
    · simp only [go_sem, kSt_ptr, Nat.reduceBEq, Nat.reduceAdd, Nat.reduceEqDiff, Nat.reduceLeDiff, Nat.reduceSub, reduceIte, Int.reduceBEq, Int.reduceEq, Int.reduceLT, Int.reduceLE, Int.reduceGT, Int.reduceGE, Int.reduceNe, Int.reduceBNe, k0, k1, k2, k3, k4, k5, k6, k7, k8, k9, k10, k11]
    · rintro x e' h' (⟨hp, rfl, j⟩ | ⟨hp, rfl, j⟩)
      · rw [allP_all] at hp
        exact .inl ⟨hp, rfl, j⟩
      · rw [allP_all] at hp
        exact .inr ⟨hp, rfl, j⟩
  simp only [go_sem, kSt_ptr, Nat.reduceBEq, Nat.reduceAdd, Nat.reduceEqDiff, Nat.reduceLeDiff, Nat.reduceSub, reduceIte, Int.reduceBEq, Int.reduceEq, Int.reduceLT, Int.reduceLE, Int.reduceGT, Int.reduceGE, Int.reduceNe, Int.reduceBNe, s_impl_twice, TDef.row]
  refine (wl_all (l := v.fCols) (fun pre c => onceC pre c) (fun pre e h => e 1 = .ptr 0 0 ∧ h.hp 0 = some v.row ∧ e 12 = .imm (v.fCols.map TCol.row) ∧ 0 < h.nx ∧ e 14 = .int .i64 pre.length ∧ e 13 = .int .i64 (v.fCols).length) (.exit 0) (fun e h => e 1 = .ptr 0 0 ∧ h.hp 0 = some v.row ∧ e 12 = .imm (v.fCols.map TCol.row) ∧ 0 < h.nx) (fun e h => e 2 = .bool true) (by omega) ?_ ?_ ?_ (by simp) v.fCols [] _ _ rfl ?_).mono ?_
  · rintro pre c rest e h a hp ⟨q0, q1, q2, q3, ix, nx⟩
    have hne : ¬ 0 = h.nx := by omega
    simp only [go_sem, kSt_ptr, Nat.reduceBEq, Nat.reduceAdd, Nat.reduceEqDiff, Nat.reduceLeDiff, Nat.reduceSub, reduceIte, Int.reduceBEq, Int.reduceEq, Int.reduceLT, Int.reduceLE, Int.reduceGT, Int.reduceGE, Int.reduceNe, Int.reduceBNe, s_impl_twice_L1, q0, q1, q2, q3, ix, nx, a.dl, a.ia (row := TCol.row) (sz := 3) rfl, hp, a.hw, TDef.row, TCol.row, hne, kSl_pre (row := TCol.row) (sz := 3) a.hl (fun _ => rfl) (by decide)]
    refine (in1 pre c rest a _ _ h.nx (by simp only [go_sem, kSt_ptr, Nat.reduceBEq, Nat.reduceAdd, Nat.reduceEqDiff, Nat.reduceLeDiff, Nat.reduceSub, reduceIte, Int.reduceBEq, Int.reduceEq, Int.reduceLT, Int.reduceLE, Int.reduceGT, Int.reduceGE, Int.reduceNe, Int.reduceBNe, q0]) (by simp only [go_sem, kSt_ptr, Nat.reduceBEq, Nat.reduceAdd, Nat.reduceEqDiff, Nat.reduceLeDiff, Nat.reduceSub, reduceIte, Int.reduceBEq, Int.reduceEq, Int.reduceLT, Int.reduceLE, Int.reduceGT, Int.reduceGE, Int.reduceNe, Int.reduceBNe, hne, q1]) (by simp only [go_sem, kSt_ptr, Nat.reduceBEq, Nat.reduceAdd, Nat.reduceEqDiff, Nat.reduceLeDiff, Nat.reduceSub, reduceIte, Int.reduceBEq, Int.reduceEq, Int.reduceLT, Int.reduceLE, Int.reduceGT, Int.reduceGE, Int.reduceNe, Int.reduceBNe, q2]) (by simp only [go_sem, kSt_ptr, Nat.reduceBEq, Nat.reduceAdd, Nat.reduceEqDiff, Nat.reduceLeDiff, Nat.reduceSub, reduceIte, Int.reduceBEq, Int.reduceEq, Int.reduceLT, Int.reduceLE, Int.reduceGT, Int.reduceGE, Int.reduceNe, Int.reduceBNe, nx]) (by simp only [go_sem, kSt_ptr, Nat.reduceBEq, Nat.reduceAdd, Nat.reduceEqDiff, Nat.reduceLeDiff, Nat.reduceSub, reduceIte, Int.reduceBEq, Int.reduceEq, Int.reduceLT, Int.reduceLE, Int.reduceGT, Int.reduceGE, Int.reduceNe, Int.reduceBNe, ix]) (by simp only [go_sem, kSt_ptr, Nat.reduceBEq, Nat.reduceAdd, Nat.reduceEqDiff, Nat.reduceLeDiff, Nat.reduceSub, reduceIte, Int.reduceBEq, Int.reduceEq, Int.reduceLT, Int.reduceLE, Int.reduceGT, Int.reduceGE, Int.reduceNe, Int.reduceBNe]) (by simp only [go_sem, kSt_ptr, Nat.reduceBEq, Nat.reduceAdd, Nat.reduceEqDiff, Nat.reduceLeDiff, Nat.reduceSub, reduceIte, Int.reduceBEq, Int.reduceEq, Int.reduceLT, Int.reduceLE, Int.reduceGT, Int.reduceGE, Int.reduceNe, Int.reduceBNe, TCol.row]) (by simp only [go_sem, kSt_ptr, Nat.reduceBEq, Nat.reduceAdd, Nat.reduceEqDiff, Nat.reduceLeDiff, Nat.reduceSub, reduceIte, Int.reduceBEq, Int.reduceEq, Int.reduceLT, Int.reduceLE, Int.reduceGT, Int.reduceGE, Int.reduceNe, Int.reduceBNe, Nat.lt_succ_self]) (by simp only [go_sem, kSt_ptr, Nat.reduceBEq, Nat.reduceAdd, Nat.reduceEqDiff, Nat.reduceLeDiff, Nat.reduceSub, reduceIte, Int.reduceBEq, Int.reduceEq, Int.reduceLT, Int.reduceLE, Int.reduceGT, Int.reduceGE, Int.reduceNe, Int.reduceBNe]) (by simp only [go_sem, kSt_ptr, Nat.reduceBEq, Nat.reduceAdd, Nat.reduceEqDiff, Nat.reduceLeDiff, Nat.reduceSub, reduceIte, Int.reduceBEq, Int.reduceEq, Int.reduceLT, Int.reduceLE, Int.reduceGT, Int.reduceGE, Int.reduceNe, Int.reduceBNe]) (by simp only [go_sem, kSt_ptr, Nat.reduceBEq, Nat.reduceAdd, Nat.reduceEqDiff, Nat.reduceLeDiff, Nat.reduceSub, reduceIte, Int.reduceBEq, Int.reduceEq, Int.reduceLT, Int.reduceLE, Int.reduceGT, Int.reduceGE, Int.reduceNe, Int.reduceBNe]) (by simp only [go_sem, kSt_ptr, Nat.reduceBEq, Nat.reduceAdd, Nat.reduceEqDiff, Nat.reduceLeDiff, Nat.reduceSub, reduceIte, Int.reduceBEq, Int.reduceEq, Int.reduceLT, Int.reduceLE, Int.reduceGT, Int.reduceGE, Int.reduceNe, Int.reduceBNe])).mono ?_
    rintro x e' h' (⟨hq, rfl, k0, k1, k2, k3, k4, k5⟩ | ⟨hq, rfl, k⟩)
    · simp only [go_sem, kSt_ptr, Nat.reduceBEq, Nat.reduceAdd, Nat.reduceEqDiff, Nat.reduceLeDiff, Nat.reduceSub, reduceIte, Int.reduceBEq, Int.reduceEq, Int.reduceLT, Int.reduceLE, Int.reduceGT, Int.reduceGE, Int.reduceNe, Int.reduceBNe, k0, k1, k2, k3, k4, k5, TDef.row, a.hw]
    · rw [hp] at hq; cases hq
  · rintro pre c rest e h a hp ⟨q0, q1, q2, q3, ix, nx⟩
    have hne : ¬ 0 = h.nx := by omega
    simp only [go_sem, kSt_ptr, Nat.reduceBEq, Nat.reduceAdd, Nat.reduceEqDiff, Nat.reduceLeDiff, Nat.reduceSub, reduceIte, Int.reduceBEq, Int.reduceEq, Int.reduceLT, Int.reduceLE, Int.reduceGT, Int.reduceGE, Int.reduceNe, Int.reduceBNe, s_impl_twice_L1, q0, q1, q2, q3, ix, nx, a.dl, a.ia (row := TCol.row) (sz := 3) rfl, hp, a.hw, TDef.row, TCol.row, hne, kSl_pre (row := TCol.row) (sz := 3) a.hl (fun _ => rfl) (by decide)]
    refine (in1 pre c rest a _ _ h.nx (by simp only [go_sem, kSt_ptr, Nat.reduceBEq, Nat.reduceAdd, Nat.reduceEqDiff, Nat.reduceLeDiff, Nat.reduceSub, reduceIte, Int.reduceBEq, Int.reduceEq, Int.reduceLT, Int.reduceLE, Int.reduceGT, Int.reduceGE, Int.reduceNe, Int.reduceBNe, q0]) (by simp only [go_sem, kSt_ptr, Nat.reduceBEq, Nat.reduceAdd, Nat.reduceEqDiff, Nat.reduceLeDiff, Nat.reduceSub, reduceIte, Int.reduceBEq, Int.reduceEq, Int.reduceLT, Int.reduceLE, Int.reduceGT, Int.reduceGE, Int.reduceNe, Int.reduceBNe, hne, q1]) (by simp only [go_sem, kSt_ptr, Nat.reduceBEq, Nat.reduceAdd, Nat.reduceEqDiff, Nat.reduceLeDiff, Nat.reduceSub, reduceIte, Int.reduceBEq, Int.reduceEq, Int.reduceLT, Int.reduceLE, Int.reduceGT, Int.reduceGE, Int.reduceNe, Int.reduceBNe, q2]) (by simp only [go_sem, kSt_ptr, Nat.reduceBEq, Nat.reduceAdd, Nat.reduceEqDiff, Nat.reduceLeDiff, Nat.reduceSub, reduceIte, Int.reduceBEq, Int.reduceEq, Int.reduceLT, Int.reduceLE, Int.reduceGT, Int.reduceGE, Int.reduceNe, Int.reduceBNe, nx]) (by simp only [go_sem, kSt_ptr, Nat.reduceBEq, Nat.reduceAdd, Nat.reduceEqDiff, Nat.reduceLeDiff, Nat.reduceSub, reduceIte, Int.reduceBEq, Int.reduceEq, Int.reduceLT, Int.reduceLE, Int.reduceGT, Int.reduceGE, Int.reduceNe, Int.reduceBNe, ix]) (by simp only [go_sem, kSt_ptr, Nat.reduceBEq, Nat.reduceAdd, Nat.reduceEqDiff, Nat.reduceLeDiff, Nat.reduceSub, reduceIte, Int.reduceBEq, Int.reduceEq, Int.reduceLT, Int.reduceLE, Int.reduceGT, Int.reduceGE, Int.reduceNe, Int.reduceBNe]) (by simp only [go_sem, kSt_ptr, Nat.reduceBEq, Nat.reduceAdd, Nat.reduceEqDiff, Nat.reduceLeDiff, Nat.reduceSub, reduceIte, Int.reduceBEq, Int.reduceEq, Int.reduceLT, Int.reduceLE, Int.reduceGT, Int.reduceGE, Int.reduceNe, Int.reduceBNe, TCol.row]) (by simp only [go_sem, kSt_ptr, Nat.reduceBEq, Nat.reduceAdd, Nat.reduceEqDiff, Nat.reduceLeDiff, Nat.reduceSub, reduceIte, Int.reduceBEq, Int.reduceEq, Int.reduceLT, Int.reduceLE, Int.reduceGT, Int.reduceGE, Int.reduceNe, Int.reduceBNe, Nat.lt_succ_self]) (by simp only [go_sem, kSt_ptr, Nat.reduceBEq, Nat.reduceAdd, Nat.reduceEqDiff, Nat.reduceLeDiff, Nat.reduceSub, reduceIte, Int.reduceBEq, Int.reduceEq, Int.reduceLT, Int.reduceLE, Int.reduceGT, Int.reduceGE, Int.reduceNe, Int.reduceBNe]) (by simp only [go_sem, kSt_ptr, Nat.reduceBEq, Nat.reduceAdd, Nat.reduceEqDiff, Nat.reduceLeDiff, Nat.reduceSub, reduceIte, Int.reduceBEq, Int.reduceEq, Int.reduceLT, Int.reduceLE, Int.reduceGT, Int.reduceGE, Int.reduceNe, Int.reduceBNe]) (by simp only [go_sem, kSt_ptr, Nat.reduceBEq, Nat.reduceAdd, Nat.reduceEqDiff, Nat.reduceLeDiff, Nat.reduceSub, reduceIte, Int.reduceBEq, Int.reduceEq, Int.reduceLT, Int.reduceLE, Int.reduceGT, Int.reduceGE, Int.reduceNe, Int.reduceBNe]) (by simp only [go_sem, kSt_ptr, Nat.reduceBEq, Nat.reduceAdd, Nat.reduceEqDiff, Nat.reduceLeDiff, Nat.reduceSub, reduceIte, Int.reduceBEq, Int.reduceEq, Int.reduceLT, Int.reduceLE, Int.reduceGT, Int.reduceGE, Int.reduceNe, Int.reduceBNe])).mono ?_
    rintro x e' h' (⟨hq, rfl, k0, k1, k2, k3, k4, k5⟩ | ⟨hq, rfl, k⟩)
    · rw [hp] at hq; cases hq
    · simp only [go_sem, kSt_ptr, Nat.reduceBEq, Nat.reduceAdd, Nat.reduceEqDiff, Nat.reduceLeDiff, Nat.reduceSub, reduceIte, Int.reduceBEq, Int.reduceEq, Int.reduceLT, Int.reduceLE, Int.reduceGT, Int.reduceGE, Int.reduceNe, Int.reduceBNe, k]
  · rintro e h ⟨q0, q1, q2, q3, ix, nx⟩
    simp only [go_sem, kSt_ptr, Nat.reduceBEq, Nat.reduceAdd, Nat.reduceEqDiff, Nat.reduceLeDiff, Nat.reduceSub, reduceIte, Int.reduceBEq, Int.reduceEq, Int.reduceLT, Int.reduceLE, Int.reduceGT, Int.reduceGE, Int.reduceNe, Int.reduceBNe, s_impl_twice_L1, q0, q1, q2, q3, ix, nx, TDef.row]
  · simp only [go_sem, kSt_ptr, Nat.reduceBEq, Nat.reduceAdd, Nat.reduceEqDiff, Nat.reduceLeDiff, Nat.reduceSub, reduceIte, Int.reduceBEq, Int.reduceEq, Int.reduceLT, Int.reduceLE, Int.reduceGT, Int.reduceGE, Int.reduceNe, Int.reduceBNe, TDef.row]
  · rintro x e h (⟨hp1, rfl, j0, j1, j2, j3⟩ | ⟨hp1, rfl, j⟩)
    · simp only [go_sem, kSt_ptr, Nat.reduceBEq, Nat.reduceAdd, Nat.reduceEqDiff, Nat.reduceLeDiff, Nat.reduceSub, reduceIte, Int.reduceBEq, Int.reduceEq, Int.reduceLT, Int.reduceLE, Int.reduceGT, Int.reduceGE, Int.reduceNe, Int.reduceBNe, j0, j1, TDef.row]
      refine (wl_all (l := v.fIndexes) (fun pre c => onceX pre c) (fun pre e h => e 1 = .ptr 0 0 ∧ h.hp 0 = some v.row ∧ e 36 = .imm (v.fIndexes.map TIndex.row) ∧ 0 < h.nx ∧ e 38 = .int .i64 pre.length ∧ e 37 = .int .i64 (v.fIndexes).length) (.exit 4) (fun e h => e 1 = .ptr 0 0 ∧ h.hp 0 = some v.row ∧ e 36 = .imm (v.fIndexes.map TIndex.row) ∧ 0 < h.nx) (fun e h => e 2 = .bool true) (by omega) ?_ ?_ ?_ (by simp) v.fIndexes [] _ _ rfl ?_).mono ?_
      · rintro pre c rest e h a hp ⟨q0, q1, q2, q3, ix, nx⟩
        have hne : ¬ 0 = h.nx := by omega
        simp only [go_sem, kSt_ptr, Nat.reduceBEq, Nat.reduceAdd, Nat.reduceEqDiff, Nat.reduceLeDiff, Nat.reduceSub, reduceIte, Int.reduceBEq, Int.reduceEq, Int.reduceLT, Int.reduceLE, Int.reduceGT, Int.reduceGE, Int.reduceNe, Int.reduceBNe, s_impl_twice_L3, q0, q1, q2, q3, ix, nx, a.dl, a.ia (row := TIndex.row) (sz := 3) rfl, hp, a.hw, TDef.row, TIndex.row, hne, kSl_pre (row := TIndex.row) (sz := 3) a.hl (fun _ => rfl) (by decide)]
        refine (in2 pre c rest a _ _ h.nx (by simp only [go_sem, kSt_ptr, Nat.reduceBEq, Nat.reduceAdd, Nat.reduceEqDiff, Nat.reduceLeDiff, Nat.reduceSub, reduceIte, Int.reduceBEq, Int.reduceEq, Int.reduceLT, Int.reduceLE, Int.reduceGT, Int.reduceGE, Int.reduceNe, Int.reduceBNe, q0]) (by simp only [go_sem, kSt_ptr, Nat.reduceBEq, Nat.reduceAdd, Nat.reduceEqDiff, Nat.reduceLeDiff, Nat.reduceSub, reduceIte, Int.reduceBEq, Int.reduceEq, Int.reduceLT, Int.reduceLE, Int.reduceGT, Int.reduceGE, Int.reduceNe, Int.reduceBNe, hne, q1]) (by simp only [go_sem, kSt_ptr, Nat.reduceBEq, Nat.reduceAdd, Nat.reduceEqDiff, Nat.reduceLeDiff, Nat.reduceSub, reduceIte, Int.reduceBEq, Int.reduceEq, Int.reduceLT, Int.reduceLE, Int.reduceGT, Int.reduceGE, Int.reduceNe, Int.reduceBNe, q2]) (by simp only [go_sem, kSt_ptr, Nat.reduceBEq, Nat.reduceAdd, Nat.reduceEqDiff, Nat.reduceLeDiff, Nat.reduceSub, reduceIte, Int.reduceBEq, Int.reduceEq, Int.reduceLT, Int.reduceLE, Int.reduceGT, Int.reduceGE, Int.reduceNe, Int.reduceBNe, nx]) (by simp only [go_sem, kSt_ptr, Nat.reduceBEq, Nat.reduceAdd, Nat.reduceEqDiff, Nat.reduceLeDiff, Nat.reduceSub, reduceIte, Int.reduceBEq, Int.reduceEq, Int.reduceLT, Int.reduceLE, Int.reduceGT, Int.reduceGE, Int.reduceNe, Int.reduceBNe, ix]) (by simp only [go_sem, kSt_ptr, Nat.reduceBEq, Nat.reduceAdd, Nat.reduceEqDiff, Nat.reduceLeDiff, Nat.reduceSub, reduceIte, Int.reduceBEq, Int.reduceEq, Int.reduceLT, Int.reduceLE, Int.reduceGT, Int.reduceGE, Int.reduceNe, Int.reduceBNe]) (by simp only [go_sem, kSt_ptr, Nat.reduceBEq, Nat.reduceAdd, Nat.reduceEqDiff, Nat.reduceLeDiff, Nat.reduceSub, reduceIte, Int.reduceBEq, Int.reduceEq, Int.reduceLT, Int.reduceLE, Int.reduceGT, Int.reduceGE, Int.reduceNe, Int.reduceBNe, TIndex.row]) (by simp only [go_sem, kSt_ptr, Nat.reduceBEq, Nat.reduceAdd, Nat.reduceEqDiff, Nat.reduceLeDiff, Nat.reduceSub, reduceIte, Int.reduceBEq, Int.reduceEq, Int.reduceLT, Int.reduceLE, Int.reduceGT, Int.reduceGE, Int.reduceNe, Int.reduceBNe, Nat.lt_succ_self]) (by simp only [go_sem, kSt_ptr, Nat.reduceBEq, Nat.reduceAdd, Nat.reduceEqDiff, Nat.reduceLeDiff, Nat.reduceSub, reduceIte, Int.reduceBEq, Int.reduceEq, Int.reduceLT, Int.reduceLE, Int.reduceGT, Int.reduceGE, Int.reduceNe, Int.reduceBNe]) (by simp only [go_sem, kSt_ptr, Nat.reduceBEq, Nat.reduceAdd, Nat.reduceEqDiff, Nat.reduceLeDiff, Nat.reduceSub, reduceIte, Int.reduceBEq, Int.reduceEq, Int.reduceLT, Int.reduceLE, Int.reduceGT, Int.reduceGE, Int.reduceNe, Int.reduceBNe]) (by simp only [go_sem, kSt_ptr, Nat.reduceBEq, Nat.reduceAdd, Nat.reduceEqDiff, Nat.reduceLeDiff, Nat.reduceSub, reduceIte, Int.reduceBEq, Int.reduceEq, Int.reduceLT, Int.reduceLE, Int.reduceGT, Int.reduceGE, Int.reduceNe, Int.reduceBNe]) (by simp only [go_sem, kSt_ptr, Nat.reduceBEq, Nat.reduceAdd, Nat.reduceEqDiff, Nat.reduceLeDiff, Nat.reduceSub, reduceIte, Int.reduceBEq, Int.reduceEq, Int.reduceLT, Int.reduceLE, Int.reduceGT, Int.reduceGE, Int.reduceNe, Int.reduceBNe])).mono ?_
        rintro x e' h' (⟨hq, rfl, k0, k1, k2, k3, k4, k5⟩ | ⟨hq, rfl, k⟩)
        · simp only [go_sem, kSt_ptr, Nat.reduceBEq, Nat.reduceAdd, Nat.reduceEqDiff, Nat.reduceLeDiff, Nat.reduceSub, reduceIte, Int.reduceBEq, Int.reduceEq, Int.reduceLT, Int.reduceLE, Int.reduceGT, Int.reduceGE, Int.reduceNe, Int.reduceBNe, k0, k1, k2, k3, k4, k5, TDef.row, a.hw]
        · rw [hp] at hq; cases hq
      · rintro pre c rest e h a hp ⟨q0, q1, q2, q3, ix, nx⟩
        have hne : ¬ 0 = h.nx := by omega
        simp only [go_sem, kSt_ptr, Nat.reduceBEq, Nat.reduceAdd, Nat.reduceEqDiff, Nat.reduceLeDiff, Nat.reduceSub, reduceIte, Int.reduceBEq, Int.reduceEq, Int.reduceLT, Int.reduceLE, Int.reduceGT, Int.reduceGE, Int.reduceNe, Int.reduceBNe, s_impl_twice_L3, q0, q1, q2, q3, ix, nx, a.dl, a.ia (row := TIndex.row) (sz := 3) rfl, hp, a.hw, TDef.row, TIndex.row, hne, kSl_pre (row := TIndex.row) (sz := 3) a.hl (fun _ => rfl) (by decide)]
        refine (in2 pre c rest a _ _ h.nx (by simp only [go_sem, kSt_ptr, Nat.reduceBEq, Nat.reduceAdd, Nat.reduceEqDiff, Nat.reduceLeDiff, Nat.reduceSub, reduceIte, Int.reduceBEq, Int.reduceEq, Int.reduceLT, Int.reduceLE, Int.reduceGT, Int.reduceGE, Int.reduceNe, Int.reduceBNe, q0]) (by simp only [go_sem, kSt_ptr, Nat.reduceBEq, Nat.reduceAdd, Nat.reduceEqDiff, Nat.reduceLeDiff, Nat.reduceSub, reduceIte, Int.reduceBEq, Int.reduceEq, Int.reduceLT, Int.reduceLE, Int.reduceGT, Int.reduceGE, Int.reduceNe, Int.reduceBNe, hne, q1]) (by simp only [go_sem, kSt_ptr, Nat.reduceBEq, Nat.reduceAdd, Nat.reduceEqDiff, Nat.reduceLeDiff, Nat.reduceSub, reduceIte, Int.reduceBEq, Int.reduceEq, Int.reduceLT, Int.reduceLE, Int.reduceGT, Int.reduceGE, Int.reduceNe, Int.reduceBNe, q2]) (by simp only [go_sem, kSt_ptr, Nat.reduceBEq, Nat.reduceAdd, Nat.reduceEqDiff, Nat.reduceLeDiff, Nat.reduceSub, reduceIte, Int.reduceBEq, Int.reduceEq, Int.reduceLT, Int.reduceLE, Int.reduceGT, Int.reduceGE, Int.reduceNe, Int.reduceBNe, nx]) (by simp only [go_sem, kSt_ptr, Nat.reduceBEq, Nat.reduceAdd, Nat.reduceEqDiff, Nat.reduceLeDiff, Nat.reduceSub, reduceIte, Int.reduceBEq, Int.reduceEq, Int.reduceLT, Int.reduceLE, Int.reduceGT, Int.reduceGE, Int.reduceNe, Int.reduceBNe, ix]) (by simp only [go_sem, kSt_ptr, Nat.reduceBEq, Nat.reduceAdd, Nat.reduceEqDiff, Nat.reduceLeDiff, Nat.reduceSub, reduceIte, Int.reduceBEq, Int.reduceEq, Int.reduceLT, Int.reduceLE, Int.reduceGT, Int.reduceGE, Int.reduceNe, Int.reduceBNe]) (by simp only [go_sem, kSt_ptr, Nat.reduceBEq, Nat.reduceAdd, Nat.reduceEqDiff, Nat.reduceLeDiff, Nat.reduceSub, reduceIte, Int.reduceBEq, Int.reduceEq, Int.reduceLT, Int.reduceLE, Int.reduceGT, Int.reduceGE, Int.reduceNe, Int.reduceBNe, TIndex.row]) (by simp only [go_sem, kSt_ptr, Nat.reduceBEq, Nat.reduceAdd, Nat.reduceEqDiff, Nat.reduceLeDiff, Nat.reduceSub, reduceIte, Int.reduceBEq, Int.reduceEq, Int.reduceLT, Int.reduceLE, Int.reduceGT, Int.reduceGE, Int.reduceNe, Int.reduceBNe, Nat.lt_succ_self]) (by simp only [go_sem, kSt_ptr, Nat.reduceBEq, Nat.reduceAdd, Nat.reduceEqDiff, Nat.reduceLeDiff, Nat.reduceSub, reduceIte, Int.reduceBEq, Int.reduceEq, Int.reduceLT, Int.reduceLE, Int.reduceGT, Int.reduceGE, Int.reduceNe, Int.reduceBNe]) (by simp only [go_sem, kSt_ptr, Nat.reduceBEq, Nat.reduceAdd, Nat.reduceEqDiff, Nat.reduceLeDiff, Nat.reduceSub, reduceIte, Int.reduceBEq, Int.reduceEq, Int.reduceLT, Int.reduceLE, Int.reduceGT, Int.reduceGE, Int.reduceNe, Int.reduceBNe]) (by simp only [go_sem, kSt_ptr, Nat.reduceBEq, Nat.reduceAdd, Nat.reduceEqDiff, Nat.reduceLeDiff, Nat.reduceSub, reduceIte, Int.reduceBEq, Int.reduceEq, Int.reduceLT, Int.reduceLE, Int.reduceGT, Int.reduceGE, Int.reduceNe, Int.reduceBNe]) (by simp only [go_sem, kSt_ptr, Nat.reduceBEq, Nat.reduceAdd, Nat.reduceEqDiff, Nat.reduceLeDiff, Nat.reduceSub, reduceIte, Int.reduceBEq, Int.reduceEq, Int.reduceLT, Int.reduceLE, Int.reduceGT, Int.reduceGE, Int.reduceNe, Int.reduceBNe])).mono ?_
        rintro x e' h' (⟨hq, rfl, k0, k1, k2, k3, k4, k5⟩ | ⟨hq, rfl, k⟩)
        · rw [hp] at hq; cases hq
        · simp only [go_sem, kSt_ptr, Nat.reduceBEq, Nat.reduceAdd, Nat.reduceEqDiff, Nat.reduceLeDiff, Nat.reduceSub, reduceIte, Int.reduceBEq, Int.reduceEq, Int.reduceLT, Int.reduceLE, Int.reduceGT, Int.reduceGE, Int.reduceNe, Int.reduceBNe, k]
      · rintro e h ⟨q0, q1, q2, q3, ix, nx⟩
        simp only [go_sem, kSt_ptr, Nat.reduceBEq, Nat.reduceAdd, Nat.reduceEqDiff, Nat.reduceLeDiff, Nat.reduceSub, reduceIte, Int.reduceBEq, Int.reduceEq, Int.reduceLT, Int.reduceLE, Int.reduceGT, Int.reduceGE, Int.reduceNe, Int.reduceBNe, s_impl_twice_L3, q0, q1, q2, q3, ix, nx, TDef.row]
      · simp only [go_sem, kSt_ptr, Nat.reduceBEq, Nat.reduceAdd, Nat.reduceEqDiff, Nat.reduceLeDiff, Nat.reduceSub, reduceIte, Int.reduceBEq, Int.reduceEq, Int.reduceLT, Int.reduceLE, Int.reduceGT, Int.reduceGE, Int.reduceNe, Int.reduceBNe, j0, j1, j3, TDef.row]
      · rintro x e h (⟨hp2, rfl, j0, j1, j2, j3⟩ | ⟨hp2, rfl, j⟩)
        · simp only [go_sem, kSt_ptr, Nat.reduceBEq, Nat.reduceAdd, Nat.reduceEqDiff, Nat.reduceLeDiff, Nat.reduceSub, reduceIte, Int.reduceBEq, Int.reduceEq, Int.reduceLT, Int.reduceLE, Int.reduceGT, Int.reduceGE, Int.reduceNe, Int.reduceBNe, defOnce, hp1, hp2]
        · simp only [go_sem, kSt_ptr, Nat.reduceBEq, Nat.reduceAdd, Nat.reduceEqDiff, Nat.reduceLeDiff, Nat.reduceSub, reduceIte, Int.reduceBEq, Int.reduceEq, Int.reduceLT, Int.reduceLE, Int.reduceGT, Int.reduceGE, Int.reduceNe, Int.reduceBNe, s_impl_twice, j, defOnce, hp1, hp2]
    · simp only [go_sem, kSt_ptr, Nat.reduceBEq, Nat.reduceAdd, Nat.reduceEqDiff, Nat.reduceLeDiff, Nat.reduceSub, reduceIte, Int.reduceBEq, Int.reduceEq, Int.reduceLT, Int.reduceLE, Int.reduceGT, Int.reduceGE, Int.reduceNe, Int.reduceBNe, s_impl_twice, j, defOnce, hp1]
noncomputable def C_impl_CheckDef := c1 tDef (fun (v : TDef) => tDef.cost v ≤ 1048576) ((.int .i64)) fun (v : TDef) => checkDef v
theorem C_impl_CheckDef_eq (v : TDef) (h : tDef.cost v ≤ 1048576) : C_impl_CheckDef [.agg [.str v.fName, .imm (v.fCols.map TCol.row), .imm (v.fPrimary.map TBy.row), .imm (v.fIndexes.map TIndex.row)]] = some (.int .i64 ((checkDef v))) := c1_eq tDef h
theorem ok_impl_CheckDef {WI : World → Prop} (hs : Stable WI) (cs) (hT : TOK (EE cs) WI) (h1 : (EE cs).T 148 = some C_impl_namesOk) (h2 : (EE cs).T 78 = some C_impl_in) (h3 : (EE cs).T 149 = some C_impl_twice) (h4 : (EE cs).T 150 = some C_impl_partsOk) : PureOK Tryz.prog WI 81 C_impl_CheckDef := by
  refine pure1 (E := EE cs) hT hs (by rw [st_impl_CheckDef]; rfl) fun v hp => out_wp (n := 0) (st_impl_CheckDef cs) ?_
  obtain ⟨n1, n2, n3, n4, n5, n6⟩ := defLens hp
  have hv := hp
  have c1 : C_impl_namesOk [.agg [.str v.fName, .imm (v.fCols.map TCol.row), .imm (v.fPrimary.map TBy.row), .imm (v.fIndexes.map TIndex.row)]] = some (.bool (defNames v)) := C_impl_namesOk_eq v hp
  have c3 : C_impl_twice [.agg [.str v.fName, .imm (v.fCols.map TCol.row), .imm (v.fPrimary.map TBy.row), .imm (v.fIndexes.map TIndex.row)]] = some (.bool (!defOnce v)) := C_impl_twice_eq v hp
  have c4 : ∀ l : List TBy, l.length ≤ 1048576 → C_impl_partsOk [.agg [.str v.fName, .imm (v.fCols.map TCol.row), .imm (v.fPrimary.map TBy.row), .imm (v.fIndexes.map TIndex.row)], .imm (l.map TBy.row)] = some (.bool (partsOK v l)) := fun l hl => C_impl_partsOk_eq v l ⟨hv, hl⟩
  cases d1 : defNames v
  · simp only [go_sem, kSt_ptr, Nat.reduceBEq, Nat.reduceAdd, Nat.reduceEqDiff, Nat.reduceLeDiff, Nat.reduceSub, reduceIte, Int.reduceBEq, Int.reduceEq, Int.reduceLT, Int.reduceLE, Int.reduceGT, Int.reduceGE, Int.reduceNe, Int.reduceBNe, s_impl_CheckDef, TDef.row, h1, c1, d1, checkDef]
  cases d2 : inR v.fCols.length 1 6
  · have e2 : defTypes v = false := by unfold defTypes; rw [d2, Bool.and_false]
    simp only [go_sem, kSt_ptr, Nat.reduceBEq, Nat.reduceAdd, Nat.reduceEqDiff, Nat.reduceLeDiff, Nat.reduceSub, reduceIte, Int.reduceBEq, Int.reduceEq, Int.reduceLT, Int.reduceLE, Int.reduceGT, Int.reduceGE, Int.reduceNe, Int.reduceBNe, s_impl_CheckDef, TDef.row, h1, c1, d1, h2, C_impl_in_eq, d2, checkDef, e2, Bool.true_eq_false]
  simp only [go_sem, kSt_ptr, Nat.reduceBEq, Nat.reduceAdd, Nat.reduceEqDiff, Nat.reduceLeDiff, Nat.reduceSub, reduceIte, Int.reduceBEq, Int.reduceEq, Int.reduceLT, Int.reduceLE, Int.reduceGT, Int.reduceGE, Int.reduceNe, Int.reduceBNe, s_impl_CheckDef, TDef.row, h1, c1, d1, h2, C_impl_in_eq, d2]
  refine (wl_all (l := v.fCols) (fun pre c => inR c.fType 1 4) (fun pre e h => e 1 = .ptr 0 0 ∧ h.hp 0 = some v.row ∧ e 18 = .imm (v.fCols.map TCol.row) ∧ 0 < h.nx ∧ e 20 = .int .i64 pre.length ∧ e 19 = .int .i64 (v.fCols).length) (.exit 0) (fun e h => e 1 = .ptr 0 0 ∧ h.hp 0 = some v.row ∧ e 18 = .imm (v.fCols.map TCol.row) ∧ 0 < h.nx) (fun e h => e 2 = .int .i64 2) (by omega) ?_ ?_ ?_ (by simp) v.fCols [] _ _ rfl ?_).mono ?_
  · rintro pre c rest e h a hp ⟨q0, q1, q2, q3, ix, nx⟩
    have hne : ¬ 0 = h.nx := by omega
    simp only [go_sem, kSt_ptr, Nat.reduceBEq, Nat.reduceAdd, Nat.reduceEqDiff, Nat.reduceLeDiff, Nat.reduceSub, reduceIte, Int.reduceBEq, Int.reduceEq, Int.reduceLT, Int.reduceLE, Int.reduceGT, Int.reduceGE, Int.reduceNe, Int.reduceBNe, s_impl_CheckDef_L0, q0, q1, q2, q3, ix, nx, a.dl, a.ia (row := TCol.row) (sz := 3) rfl, hp, a.hw, TDef.row, TCol.row, h2, C_impl_in_eq, hne]
  · rintro pre c rest e h a hp ⟨q0, q1, q2, q3, ix, nx⟩
    have hne : ¬ 0 = h.nx := by omega
    simp only [go_sem, kSt_ptr, Nat.reduceBEq, Nat.reduceAdd, Nat.reduceEqDiff, Nat.reduceLeDiff, Nat.reduceSub, reduceIte, Int.reduceBEq, Int.reduceEq, Int.reduceLT, Int.reduceLE, Int.reduceGT, Int.reduceGE, Int.reduceNe, Int.reduceBNe, s_impl_CheckDef_L0, q0, q1, q2, q3, ix, nx, a.dl, a.ia (row := TCol.row) (sz := 3) rfl, hp, a.hw, TDef.row, TCol.row, h2, C_impl_in_eq, hne]
  · rintro e h ⟨q0, q1, q2, q3, ix, nx⟩
    simp only [go_sem, kSt_ptr, Nat.reduceBEq, Nat.reduceAdd, Nat.reduceEqDiff, Nat.reduceLeDiff, Nat.reduceSub, reduceIte, Int.reduceBEq, Int.reduceEq, Int.reduceLT, Int.reduceLE, Int.reduceGT, Int.reduceGE, Int.reduceNe, Int.reduceBNe, s_impl_CheckDef_L0, q0, q1, q2, q3, ix, nx, TDef.row]
  · simp only [go_sem, kSt_ptr, Nat.reduceBEq, Nat.reduceAdd, Nat.reduceEqDiff, Nat.reduceLeDiff, Nat.reduceSub, reduceIte, Int.reduceBEq, Int.reduceEq, Int.reduceLT, Int.reduceLE, Int.reduceGT, Int.reduceGE, Int.reduceNe, Int.reduceBNe, TDef.row]
  · rintro x e h (⟨hp1, rfl, j0, j1, j2, j3⟩ | ⟨hp1, rfl, j⟩)
    · rw [allP_all] at hp1
      have e2 : defTypes v = true := by unfold defTypes; rw [d2, hp1]; rfl
      cases d3 : defOnce v
      · simp only [go_sem, kSt_ptr, Nat.reduceBEq, Nat.reduceAdd, Nat.reduceEqDiff, Nat.reduceLeDiff, Nat.reduceSub, reduceIte, Int.reduceBEq, Int.reduceEq, Int.reduceLT, Int.reduceLE, Int.reduceGT, Int.reduceGE, Int.reduceNe, Int.reduceBNe, s_impl_CheckDef, j0, j1, TDef.row, h3, c3, d3, checkDef, d1, e2, Bool.true_eq_false]
      by_cases d4 : (2 : Int) < v.fIndexes.length
      · simp only [go_sem, kSt_ptr, Nat.reduceBEq, Nat.reduceAdd, Nat.reduceEqDiff, Nat.reduceLeDiff, Nat.reduceSub, reduceIte, Int.reduceBEq, Int.reduceEq, Int.reduceLT, Int.reduceLE, Int.reduceGT, Int.reduceGE, Int.reduceNe, Int.reduceBNe, s_impl_CheckDef, j0, j1, TDef.row, h3, c3, d3, d4, checkDef, d1, e2, Bool.true_eq_false]
      simp only [go_sem, kSt_ptr, Nat.reduceBEq, Nat.reduceAdd, Nat.reduceEqDiff, Nat.reduceLeDiff, Nat.reduceSub, reduceIte, Int.reduceBEq, Int.reduceEq, Int.reduceLT, Int.reduceLE, Int.reduceGT, Int.reduceGE, Int.reduceNe, Int.reduceBNe, j0, j1, TDef.row, h3, c3, d3, d4]
      refine (wl_all (l := v.fIndexes) (fun pre y => partsOK v y.fParts) (fun pre e h => e 1 = .ptr 0 0 ∧ h.hp 0 = some v.row ∧ e 36 = .imm (v.fIndexes.map TIndex.row) ∧ 0 < h.nx ∧ e 38 = .int .i64 pre.length ∧ e 37 = .int .i64 (v.fIndexes).length) (.exit 2) (fun e h => e 1 = .ptr 0 0 ∧ h.hp 0 = some v.row ∧ e 36 = .imm (v.fIndexes.map TIndex.row) ∧ 0 < h.nx) (fun e h => e 2 = .int .i64 5) (by omega) ?_ ?_ ?_ (by simp) v.fIndexes [] _ _ rfl ?_).mono ?_
      · rintro pre y rest e h a hp ⟨q0, q1, q2, q3, ix, nx⟩
        have hne : ¬ 0 = h.nx := by omega
        simp only [go_sem, kSt_ptr, Nat.reduceBEq, Nat.reduceAdd, Nat.reduceEqDiff, Nat.reduceLeDiff, Nat.reduceSub, reduceIte, Int.reduceBEq, Int.reduceEq, Int.reduceLT, Int.reduceLE, Int.reduceGT, Int.reduceGE, Int.reduceNe, Int.reduceBNe, s_impl_CheckDef_L1, q0, q1, q2, q3, ix, nx, a.dl, a.ia (row := TIndex.row) (sz := 3) rfl, hp, a.hw, TDef.row, TIndex.row, h4, c4 y.fParts (n6 y a.mem).2, hne]
      · rintro pre y rest e h a hp ⟨q0, q1, q2, q3, ix, nx⟩
        have hne : ¬ 0 = h.nx := by omega
        simp only [go_sem, kSt_ptr, Nat.reduceBEq, Nat.reduceAdd, Nat.reduceEqDiff, Nat.reduceLeDiff, Nat.reduceSub, reduceIte, Int.reduceBEq, Int.reduceEq, Int.reduceLT, Int.reduceLE, Int.reduceGT, Int.reduceGE, Int.reduceNe, Int.reduceBNe, s_impl_CheckDef_L1, q0, q1, q2, q3, ix, nx, a.dl, a.ia (row := TIndex.row) (sz := 3) rfl, hp, a.hw, TDef.row, TIndex.row, h4, c4 y.fParts (n6 y a.mem).2, hne]
      · rintro e h ⟨q0, q1, q2, q3, ix, nx⟩
        simp only [go_sem, kSt_ptr, Nat.reduceBEq, Nat.reduceAdd, Nat.reduceEqDiff, Nat.reduceLeDiff, Nat.reduceSub, reduceIte, Int.reduceBEq, Int.reduceEq, Int.reduceLT, Int.reduceLE, Int.reduceGT, Int.reduceGE, Int.reduceNe, Int.reduceBNe, s_impl_CheckDef_L1, q0, q1, q2, q3, ix, nx, TDef.row]
      · simp only [go_sem, kSt_ptr, Nat.reduceBEq, Nat.reduceAdd, Nat.reduceEqDiff, Nat.reduceLeDiff, Nat.reduceSub, reduceIte, Int.reduceBEq, Int.reduceEq, Int.reduceLT, Int.reduceLE, Int.reduceGT, Int.reduceGE, Int.reduceNe, Int.reduceBNe, j0, j1, j3, TDef.row]
      · rintro x e h (⟨hp2, rfl, j0, j1, j2, j3⟩ | ⟨hp2, rfl, j⟩)
        · rw [allP_all] at hp2
          cases d5 : partsOK v v.fPrimary
          · have e5 : defParts v = false := by unfold defParts; rw [d5, Bool.and_false]
            simp only [go_sem, kSt_ptr, Nat.reduceBEq, Nat.reduceAdd, Nat.reduceEqDiff, Nat.reduceLeDiff, Nat.reduceSub, reduceIte, Int.reduceBEq, Int.reduceEq, Int.reduceLT, Int.reduceLE, Int.reduceGT, Int.reduceGE, Int.reduceNe, Int.reduceBNe, s_impl_CheckDef, j0, j1, TDef.row, h4, c4 v.fPrimary n3, d5, checkDef, d1, e2, d3, d4, e5, Bool.true_eq_false]
          have e5 : defParts v = true := by unfold defParts; rw [d5, hp2]; rfl
          simp only [go_sem, kSt_ptr, Nat.reduceBEq, Nat.reduceAdd, Nat.reduceEqDiff, Nat.reduceLeDiff, Nat.reduceSub, reduceIte, Int.reduceBEq, Int.reduceEq, Int.reduceLT, Int.reduceLE, Int.reduceGT, Int.reduceGE, Int.reduceNe, Int.reduceBNe, j0, j1, TDef.row, h4, c4 v.fPrimary n3, d5]
          refine (wl_all (l := v.fPrimary) (fun pre p => !(colNull v p.fCol)) (fun pre e h => e 1 = .ptr 0 0 ∧ h.hp 0 = some v.row ∧ e 54 = .imm (v.fPrimary.map TBy.row) ∧ 0 < h.nx ∧ e 56 = .int .i64 pre.length ∧ e 55 = .int .i64 (v.fPrimary).length) (.exit 4) (fun e h => e 1 = .ptr 0 0 ∧ h.hp 0 = some v.row ∧ e 54 = .imm (v.fPrimary.map TBy.row) ∧ 0 < h.nx) (fun e h => e 2 = .int .i64 4) (by omega) ?_ ?_ ?_ (by simp) v.fPrimary [] _ _ rfl ?_).mono ?_
          · rintro pre p rest e h a hp ⟨q0, q1, q2, q3, ix, nx⟩
            have hne : ¬ 0 = h.nx := by omega
            obtain ⟨z1, z2⟩ := parts_col d5 p a.mem
            obtain ⟨c, hc⟩ : ∃ c, v.fCols[p.fCol.toNat]? = some c := ⟨_, List.getElem?_eq_getElem z2⟩
            have hq : c.fNull = false := by simpa [colNull, hc] using hp
            simp only [go_sem, kSt_ptr, Nat.reduceBEq, Nat.reduceAdd, Nat.reduceEqDiff, Nat.reduceLeDiff, Nat.reduceSub, reduceIte, Int.reduceBEq, Int.reduceEq, Int.reduceLT, Int.reduceLE, Int.reduceGT, Int.reduceGE, Int.reduceNe, Int.reduceBNe, s_impl_CheckDef_L2, q0, q1, q2, q3, ix, nx, a.dl, a.ia (row := TBy.row) (sz := 2) rfl, hp, a.hw, TDef.row, TBy.row, TCol.row, kIa_nth (row := TCol.row) (sz := 3) z1 hc rfl, hq, hne]
          · rintro pre p rest e h a hp ⟨q0, q1, q2, q3, ix, nx⟩
            have hne : ¬ 0 = h.nx := by omega
            obtain ⟨z1, z2⟩ := parts_col d5 p a.mem
            obtain ⟨c, hc⟩ : ∃ c, v.fCols[p.fCol.toNat]? = some c := ⟨_, List.getElem?_eq_getElem z2⟩
            have hq : c.fNull = true := by simpa [colNull, hc] using hp
            simp only [go_sem, kSt_ptr, Nat.reduceBEq, Nat.reduceAdd, Nat.reduceEqDiff, Nat.reduceLeDiff, Nat.reduceSub, reduceIte, Int.reduceBEq, Int.reduceEq, Int.reduceLT, Int.reduceLE, Int.reduceGT, Int.reduceGE, Int.reduceNe, Int.reduceBNe, s_impl_CheckDef_L2, q0, q1, q2, q3, ix, nx, a.dl, a.ia (row := TBy.row) (sz := 2) rfl, hp, a.hw, TDef.row, TBy.row, TCol.row, kIa_nth (row := TCol.row) (sz := 3) z1 hc rfl, hq, hne]
          · rintro e h ⟨q0, q1, q2, q3, ix, nx⟩
            simp only [go_sem, kSt_ptr, Nat.reduceBEq, Nat.reduceAdd, Nat.reduceEqDiff, Nat.reduceLeDiff, Nat.reduceSub, reduceIte, Int.reduceBEq, Int.reduceEq, Int.reduceLT, Int.reduceLE, Int.reduceGT, Int.reduceGE, Int.reduceNe, Int.reduceBNe, s_impl_CheckDef_L2, q0, q1, q2, q3, ix, nx, TDef.row]
          · simp only [go_sem, kSt_ptr, Nat.reduceBEq, Nat.reduceAdd, Nat.reduceEqDiff, Nat.reduceLeDiff, Nat.reduceSub, reduceIte, Int.reduceBEq, Int.reduceEq, Int.reduceLT, Int.reduceLE, Int.reduceGT, Int.reduceGE, Int.reduceNe, Int.reduceBNe, j0, j1, j3, TDef.row]
          · rintro x e h (⟨hp3, rfl, j0, j1, j2, j3⟩ | ⟨hp3, rfl, j⟩)
            · rw [allP_all] at hp3
              simp only [go_sem, kSt_ptr, Nat.reduceBEq, Nat.reduceAdd, Nat.reduceEqDiff, Nat.reduceLeDiff, Nat.reduceSub, reduceIte, Int.reduceBEq, Int.reduceEq, Int.reduceLT, Int.reduceLE, Int.reduceGT, Int.reduceGE, Int.reduceNe, Int.reduceBNe, checkDef, primNull, d1, e2, d3, d4, e5, hp3, Bool.true_eq_false]
            · rw [allP_all] at hp3
              simp only [go_sem, kSt_ptr, Nat.reduceBEq, Nat.reduceAdd, Nat.reduceEqDiff, Nat.reduceLeDiff, Nat.reduceSub, reduceIte, Int.reduceBEq, Int.reduceEq, Int.reduceLT, Int.reduceLE, Int.reduceGT, Int.reduceGE, Int.reduceNe, Int.reduceBNe, s_impl_CheckDef, j, checkDef, primNull, d1, e2, d3, d4, e5, hp3, Bool.true_eq_false]
        · rw [allP_all] at hp2
          have e5 : defParts v = false := by unfold defParts; rw [hp2, Bool.false_and]
          simp only [go_sem, kSt_ptr, Nat.reduceBEq, Nat.reduceAdd, Nat.reduceEqDiff, Nat.reduceLeDiff, Nat.reduceSub, reduceIte, Int.reduceBEq, Int.reduceEq, Int.reduceLT, Int.reduceLE, Int.reduceGT, Int.reduceGE, Int.reduceNe, Int.reduceBNe, s_impl_CheckDef, j, checkDef, d1, e2, d3, d4, e5, Bool.true_eq_false]
    · rw [allP_all] at hp1
      have e2 : defTypes v = false := by unfold defTypes; rw [hp1, Bool.false_and]
      simp only [go_sem, kSt_ptr, Nat.reduceBEq, Nat.reduceAdd, Nat.reduceEqDiff, Nat.reduceLeDiff, Nat.reduceSub, reduceIte, Int.reduceBEq, Int.reduceEq, Int.reduceLT, Int.reduceLE, Int.reduceGT, Int.reduceGE, Int.reduceNe, Int.reduceBNe, s_impl_CheckDef, j, checkDef, d1, e2, Bool.true_eq_false]
end Go.Proofs.YtienjjjhjeigmaaGreatDoor.Is
/- What the functions that FnExactInScan calls answer: part 11. -/
namespace Go.Proofs.YtienjjjhjeigmaaGreatDoor.Is
open Go Go.RowKit Go.Ev
set_option linter.unusedSimpArgs false
set_option linter.unusedVariables false
set_option maxHeartbeats 1600000
noncomputable def C_impl_FirstBad := c1 (sliceT tDef) (fun (s : List (TDef)) => (sliceT tDef).cost s ≤ 1048576) ((.int .i64)) fun (s : List (TDef)) => firstBad s
theorem C_impl_FirstBad_eq (s : List (TDef)) (h : (sliceT tDef).cost s ≤ 1048576) : C_impl_FirstBad [.imm (s.map TDef.row)] = some (.int .i64 ((firstBad s))) := c1_eq (sliceT tDef) h
theorem ok_impl_FirstBad {WI : World → Prop} (hs : Stable WI) (cs) (hT : TOK (EE cs) WI) (h1 : (EE cs).T 81 = some C_impl_CheckDef) : PureOK Tryz.prog WI 50 C_impl_FirstBad := by
  refine pure1 (E := EE cs) hT hs (by rw [st_impl_FirstBad]; rfl) fun s hp => out_wp (n := 0) (st_impl_FirstBad cs) ?_
  obtain ⟨n1, n2⟩ := defsLens hp
  have inner : ∀ pre c rest, At s pre c rest → ∀ e h b, e 0 = .imm (s.map TDef.row) → e 7 = .imm (s.map TDef.row) → e 8 = .int .i64 s.length → e 9 = .int .i64 pre.length → e 3 = .int .i64 pre.length → e 4 = .ptr b 0 → h.hp b = some c.row → b < h.nx → e 24 = .imm (pre.map TDef.row) → e 25 = .int .i64 pre.length → e 26 = .int .i64 0 → WL (EE cs) s_impl_FirstBad_L0 e h fun x e' h' => (pre.all (fun y => !(y.fName == c.fName)) = true ∧ x = .exit 2 ∧ e' 0 = .imm (s.map TDef.row) ∧ e' 7 = .imm (s.map TDef.row) ∧ e' 8 = .int .i64 s.length ∧ e' 9 = .int .i64 pre.length) ∨ (pre.all (fun y => !(y.fName == c.fName)) = false ∧ x = .ret ∧ e' 2 = .int .i64 pre.length) := by
    intro pre0 c rest0 a0 e h b k0 k1 k2 k3 k4 k5 k6 k7 k8 k9 k10
    have hlt0 := a0.lt
    refine (wl_all (l := pre0) (fun pre y => !(y.fName == c.fName)) (fun pre e h => e 0 = .imm (s.map TDef.row) ∧ e 7 = .imm (s.map TDef.row) ∧ e 8 = .int .i64 s.length ∧ e 9 = .int .i64 pre0.length ∧ e 3 = .int .i64 pre0.length ∧ e 4 = .ptr b 0 ∧ h.hp b = some c.row ∧ b < h.nx ∧ e 24 = .imm (pre0.map TDef.row) ∧ e 26 = .int .i64 pre.length ∧ e 25 = .int .i64 (pre0).length) (.exit 2) (fun e h => e 0 = .imm (s.map TDef.row) ∧ e 7 = .imm (s.map TDef.row) ∧ e 8 = .int .i64 s.length ∧ e 9 = .int .i64 pre0.length) (fun e h => e 2 = .int .i64 pre0.length) (by omega) ?_ ?_ ?_ (by simp) pre0 [] _ _ rfl ?_).mono ?_
    · rintro pre y rest e h a hp ⟨q0, q1, q2, q3, q4, q5, q6, q7, q8, ix, nx⟩
      have hne2 : ¬ b = h.nx := by omega
      have hq : (y.fName == c.fName) = false := by simpa using hp
      have hb1 : b < h.nx + 1 := by omega
      simp only [go_sem, kSt_ptr, Nat.reduceBEq, Nat.reduceAdd, Nat.reduceEqDiff, Nat.reduceLeDiff, Nat.reduceSub, reduceIte, Int.reduceBEq, Int.reduceEq, Int.reduceLT, Int.reduceLE, Int.reduceGT, Int.reduceGE, Int.reduceNe, Int.reduceBNe, s_impl_FirstBad_L0, q0, q1, q2, q3, q4, q5, q6, q7, q8, ix, nx, a.dl, a.ia (row := TDef.row) (sz := 4) rfl, hp, a.hw, TDef.row, hq, hne2, hb1]
    · rintro pre y rest e h a hp ⟨q0, q1, q2, q3, q4, q5, q6, q7, q8, ix, nx⟩
      have hne2 : ¬ b = h.nx := by omega
      have hq : (y.fName == c.fName) = true := by simpa using hp
      simp only [go_sem, kSt_ptr, Nat.reduceBEq, Nat.reduceAdd, Nat.reduceEqDiff, Nat.reduceLeDiff, Nat.reduceSub, reduceIte, Int.reduceBEq, Int.reduceEq, Int.reduceLT, Int.reduceLE, Int.reduceGT, Int.reduceGE, Int.reduceNe, Int.reduceBNe, s_impl_FirstBad_L0, q0, q1, q2, q3, q4, q5, q6, q7, q8, ix, nx, a.dl, a.ia (row := TDef.row) (sz := 4) rfl, hp, a.hw, TDef.row, hq, hne2]
    · rintro e h ⟨q0, q1, q2, q3, q4, q5, q6, q7, q8, ix, nx⟩
      simp only [go_sem, kSt_ptr, Nat.reduceBEq, Nat.reduceAdd, Nat.reduceEqDiff, Nat.reduceLeDiff, Nat.reduceSub, reduceIte, Int.reduceBEq, Int.reduceEq, Int.reduceLT, Int.reduceLE, Int.reduceGT, Int.reduceGE, Int.reduceNe, Int.reduceBNe, s_impl_FirstBad_L0, q0, q1, q2, q3, q4, q5, q6, q7, q8, ix, nx]
    · simp only [go_sem, kSt_ptr, Nat.reduceBEq, Nat.reduceAdd, Nat.reduceEqDiff, Nat.reduceLeDiff, Nat.reduceSub, reduceIte, Int.reduceBEq, Int.reduceEq, Int.reduceLT, Int.reduceLE, Int.reduceGT, Int.reduceGE, Int.reduceNe, Int.reduceBNe, k0, k1, k2, k3, k4, k5, k6, k7, k8, k9, k10]
    · rintro x e' h' (⟨hp, rfl, j⟩ | ⟨hp, rfl, j⟩)
      · rw [allP_all] at hp
        exact .inl ⟨hp, rfl, j⟩
      · rw [allP_all] at hp
        exact .inr ⟨hp, rfl, j⟩
  simp only [go_sem, kSt_ptr, Nat.reduceBEq, Nat.reduceAdd, Nat.reduceEqDiff, Nat.reduceLeDiff, Nat.reduceSub, reduceIte, Int.reduceBEq, Int.reduceEq, Int.reduceLT, Int.reduceLE, Int.reduceGT, Int.reduceGE, Int.reduceNe, Int.reduceBNe, s_impl_FirstBad]
  refine (wl_early (l := s) (fun pre d => firstF pre d) (fun pre e h => e 0 = .imm (s.map TDef.row) ∧ e 7 = .imm (s.map TDef.row) ∧ e 9 = .int .i64 pre.length ∧ e 8 = .int .i64 (s).length) (.exit 0) (fun e h => e 0 = .imm (s.map TDef.row) ∧ e 7 = .imm (s.map TDef.row)) (fun b e h => e 2 = .int .i64 b) (by omega) ?_ ?_ ?_ (by simp) s [] _ _ rfl ?_).mono ?_
  · rintro pre d rest e h a hp ⟨q0, q1, ix, nx⟩
    have hc : C_impl_CheckDef [.agg [.str d.fName, .imm (d.fCols.map TCol.row), .imm (d.fPrimary.map TBy.row), .imm (d.fIndexes.map TIndex.row)]] = some (.int .i64 (checkDef d)) := C_impl_CheckDef_eq d (n2 d a.mem)
    obtain ⟨f1, f2, f3⟩ := firstF_none hp
    have f2' : decide ((3 : Int) ≤ (pre.length : Int)) = false := decide_eq_false (by omega)
    have f1' : (checkDef d != 0) = false := by simp [f1]
    all_goals simp only [go_sem, kSt_ptr, Nat.reduceBEq, Nat.reduceAdd, Nat.reduceEqDiff, Nat.reduceLeDiff, Nat.reduceSub, reduceIte, Int.reduceBEq, Int.reduceEq, Int.reduceLT, Int.reduceLE, Int.reduceGT, Int.reduceGE, Int.reduceNe, Int.reduceBNe, s_impl_FirstBad_L1, q0, q1, ix, nx, a.dl, a.ia (row := TDef.row) (sz := 4) rfl, hp, a.hw, TDef.row, h1, hc, kSl_pre (row := TDef.row) (sz := 4) a.hl (fun _ => rfl) (by decide), f1', f2']
    refine (inner pre d rest a _ _ h.nx (by simp only [go_sem, kSt_ptr, Nat.reduceBEq, Nat.reduceAdd, Nat.reduceEqDiff, Nat.reduceLeDiff, Nat.reduceSub, reduceIte, Int.reduceBEq, Int.reduceEq, Int.reduceLT, Int.reduceLE, Int.reduceGT, Int.reduceGE, Int.reduceNe, Int.reduceBNe, q0]) (by simp only [go_sem, kSt_ptr, Nat.reduceBEq, Nat.reduceAdd, Nat.reduceEqDiff, Nat.reduceLeDiff, Nat.reduceSub, reduceIte, Int.reduceBEq, Int.reduceEq, Int.reduceLT, Int.reduceLE, Int.reduceGT, Int.reduceGE, Int.reduceNe, Int.reduceBNe, q1]) (by simp only [go_sem, kSt_ptr, Nat.reduceBEq, Nat.reduceAdd, Nat.reduceEqDiff, Nat.reduceLeDiff, Nat.reduceSub, reduceIte, Int.reduceBEq, Int.reduceEq, Int.reduceLT, Int.reduceLE, Int.reduceGT, Int.reduceGE, Int.reduceNe, Int.reduceBNe, nx]) (by simp only [go_sem, kSt_ptr, Nat.reduceBEq, Nat.reduceAdd, Nat.reduceEqDiff, Nat.reduceLeDiff, Nat.reduceSub, reduceIte, Int.reduceBEq, Int.reduceEq, Int.reduceLT, Int.reduceLE, Int.reduceGT, Int.reduceGE, Int.reduceNe, Int.reduceBNe, ix]) (by simp only [go_sem, kSt_ptr, Nat.reduceBEq, Nat.reduceAdd, Nat.reduceEqDiff, Nat.reduceLeDiff, Nat.reduceSub, reduceIte, Int.reduceBEq, Int.reduceEq, Int.reduceLT, Int.reduceLE, Int.reduceGT, Int.reduceGE, Int.reduceNe, Int.reduceBNe]) (by simp only [go_sem, kSt_ptr, Nat.reduceBEq, Nat.reduceAdd, Nat.reduceEqDiff, Nat.reduceLeDiff, Nat.reduceSub, reduceIte, Int.reduceBEq, Int.reduceEq, Int.reduceLT, Int.reduceLE, Int.reduceGT, Int.reduceGE, Int.reduceNe, Int.reduceBNe]) (by simp only [go_sem, kSt_ptr, Nat.reduceBEq, Nat.reduceAdd, Nat.reduceEqDiff, Nat.reduceLeDiff, Nat.reduceSub, reduceIte, Int.reduceBEq, Int.reduceEq, Int.reduceLT, Int.reduceLE, Int.reduceGT, Int.reduceGE, Int.reduceNe, Int.reduceBNe, TDef.row]) (by simp only [go_sem, kSt_ptr, Nat.reduceBEq, Nat.reduceAdd, Nat.reduceEqDiff, Nat.reduceLeDiff, Nat.reduceSub, reduceIte, Int.reduceBEq, Int.reduceEq, Int.reduceLT, Int.reduceLE, Int.reduceGT, Int.reduceGE, Int.reduceNe, Int.reduceBNe, Nat.lt_succ_self]) (by simp only [go_sem, kSt_ptr, Nat.reduceBEq, Nat.reduceAdd, Nat.reduceEqDiff, Nat.reduceLeDiff, Nat.reduceSub, reduceIte, Int.reduceBEq, Int.reduceEq, Int.reduceLT, Int.reduceLE, Int.reduceGT, Int.reduceGE, Int.reduceNe, Int.reduceBNe]) (by simp only [go_sem, kSt_ptr, Nat.reduceBEq, Nat.reduceAdd, Nat.reduceEqDiff, Nat.reduceLeDiff, Nat.reduceSub, reduceIte, Int.reduceBEq, Int.reduceEq, Int.reduceLT, Int.reduceLE, Int.reduceGT, Int.reduceGE, Int.reduceNe, Int.reduceBNe]) (by simp only [go_sem, kSt_ptr, Nat.reduceBEq, Nat.reduceAdd, Nat.reduceEqDiff, Nat.reduceLeDiff, Nat.reduceSub, reduceIte, Int.reduceBEq, Int.reduceEq, Int.reduceLT, Int.reduceLE, Int.reduceGT, Int.reduceGE, Int.reduceNe, Int.reduceBNe])).mono ?_
    rintro x e' h' (⟨hq, rfl, k0, k1, k2, k3⟩ | ⟨hq, rfl, k⟩)
    · simp only [go_sem, kSt_ptr, Nat.reduceBEq, Nat.reduceAdd, Nat.reduceEqDiff, Nat.reduceLeDiff, Nat.reduceSub, reduceIte, Int.reduceBEq, Int.reduceEq, Int.reduceLT, Int.reduceLE, Int.reduceGT, Int.reduceGE, Int.reduceNe, Int.reduceBNe, k0, k1, k2, k3, a.hw]
    · rw [f3] at hq; cases hq
  · rintro pre d rest b e h a hp ⟨q0, q1, ix, nx⟩
    have hc : C_impl_CheckDef [.agg [.str d.fName, .imm (d.fCols.map TCol.row), .imm (d.fPrimary.map TBy.row), .imm (d.fIndexes.map TIndex.row)]] = some (.int .i64 (checkDef d)) := C_impl_CheckDef_eq d (n2 d a.mem)
    obtain ⟨rfl, hcase⟩ := firstF_some hp
    cases f1 : (checkDef d != 0) <;> cases f2 : decide ((3 : Int) ≤ (pre.length : Int))
    all_goals simp only [go_sem, kSt_ptr, Nat.reduceBEq, Nat.reduceAdd, Nat.reduceEqDiff, Nat.reduceLeDiff, Nat.reduceSub, reduceIte, Int.reduceBEq, Int.reduceEq, Int.reduceLT, Int.reduceLE, Int.reduceGT, Int.reduceGE, Int.reduceNe, Int.reduceBNe, s_impl_FirstBad_L1, q0, q1, ix, nx, a.dl, a.ia (row := TDef.row) (sz := 4) rfl, hp, a.hw, TDef.row, h1, hc, kSl_pre (row := TDef.row) (sz := 4) a.hl (fun _ => rfl) (by decide), f1, f2]
    refine (inner pre d rest a _ _ h.nx (by simp only [go_sem, kSt_ptr, Nat.reduceBEq, Nat.reduceAdd, Nat.reduceEqDiff, Nat.reduceLeDiff, Nat.reduceSub, reduceIte, Int.reduceBEq, Int.reduceEq, Int.reduceLT, Int.reduceLE, Int.reduceGT, Int.reduceGE, Int.reduceNe, Int.reduceBNe, q0]) (by simp only [go_sem, kSt_ptr, Nat.reduceBEq, Nat.reduceAdd, Nat.reduceEqDiff, Nat.reduceLeDiff, Nat.reduceSub, reduceIte, Int.reduceBEq, Int.reduceEq, Int.reduceLT, Int.reduceLE, Int.reduceGT, Int.reduceGE, Int.reduceNe, Int.reduceBNe, q1]) (by simp only [go_sem, kSt_ptr, Nat.reduceBEq, Nat.reduceAdd, Nat.reduceEqDiff, Nat.reduceLeDiff, Nat.reduceSub, reduceIte, Int.reduceBEq, Int.reduceEq, Int.reduceLT, Int.reduceLE, Int.reduceGT, Int.reduceGE, Int.reduceNe, Int.reduceBNe, nx]) (by simp only [go_sem, kSt_ptr, Nat.reduceBEq, Nat.reduceAdd, Nat.reduceEqDiff, Nat.reduceLeDiff, Nat.reduceSub, reduceIte, Int.reduceBEq, Int.reduceEq, Int.reduceLT, Int.reduceLE, Int.reduceGT, Int.reduceGE, Int.reduceNe, Int.reduceBNe, ix]) (by simp only [go_sem, kSt_ptr, Nat.reduceBEq, Nat.reduceAdd, Nat.reduceEqDiff, Nat.reduceLeDiff, Nat.reduceSub, reduceIte, Int.reduceBEq, Int.reduceEq, Int.reduceLT, Int.reduceLE, Int.reduceGT, Int.reduceGE, Int.reduceNe, Int.reduceBNe]) (by simp only [go_sem, kSt_ptr, Nat.reduceBEq, Nat.reduceAdd, Nat.reduceEqDiff, Nat.reduceLeDiff, Nat.reduceSub, reduceIte, Int.reduceBEq, Int.reduceEq, Int.reduceLT, Int.reduceLE, Int.reduceGT, Int.reduceGE, Int.reduceNe, Int.reduceBNe]) (by simp only [go_sem, kSt_ptr, Nat.reduceBEq, Nat.reduceAdd, Nat.reduceEqDiff, Nat.reduceLeDiff, Nat.reduceSub, reduceIte, Int.reduceBEq, Int.reduceEq, Int.reduceLT, Int.reduceLE, Int.reduceGT, Int.reduceGE, Int.reduceNe, Int.reduceBNe, TDef.row]) (by simp only [go_sem, kSt_ptr, Nat.reduceBEq, Nat.reduceAdd, Nat.reduceEqDiff, Nat.reduceLeDiff, Nat.reduceSub, reduceIte, Int.reduceBEq, Int.reduceEq, Int.reduceLT, Int.reduceLE, Int.reduceGT, Int.reduceGE, Int.reduceNe, Int.reduceBNe, Nat.lt_succ_self]) (by simp only [go_sem, kSt_ptr, Nat.reduceBEq, Nat.reduceAdd, Nat.reduceEqDiff, Nat.reduceLeDiff, Nat.reduceSub, reduceIte, Int.reduceBEq, Int.reduceEq, Int.reduceLT, Int.reduceLE, Int.reduceGT, Int.reduceGE, Int.reduceNe, Int.reduceBNe]) (by simp only [go_sem, kSt_ptr, Nat.reduceBEq, Nat.reduceAdd, Nat.reduceEqDiff, Nat.reduceLeDiff, Nat.reduceSub, reduceIte, Int.reduceBEq, Int.reduceEq, Int.reduceLT, Int.reduceLE, Int.reduceGT, Int.reduceGE, Int.reduceNe, Int.reduceBNe]) (by simp only [go_sem, kSt_ptr, Nat.reduceBEq, Nat.reduceAdd, Nat.reduceEqDiff, Nat.reduceLeDiff, Nat.reduceSub, reduceIte, Int.reduceBEq, Int.reduceEq, Int.reduceLT, Int.reduceLE, Int.reduceGT, Int.reduceGE, Int.reduceNe, Int.reduceBNe])).mono ?_
    have hc3 := hcase f1 (by have := of_decide_eq_false f2; omega)
    rintro x e' h' (⟨hq, rfl, k0, k1⟩ | ⟨hq, rfl, k⟩)
    · rw [hc3] at hq; cases hq
    · simp only [go_sem, kSt_ptr, Nat.reduceBEq, Nat.reduceAdd, Nat.reduceEqDiff, Nat.reduceLeDiff, Nat.reduceSub, reduceIte, Int.reduceBEq, Int.reduceEq, Int.reduceLT, Int.reduceLE, Int.reduceGT, Int.reduceGE, Int.reduceNe, Int.reduceBNe, k]
  · rintro e h ⟨q0, q1, ix, nx⟩
    simp only [go_sem, kSt_ptr, Nat.reduceBEq, Nat.reduceAdd, Nat.reduceEqDiff, Nat.reduceLeDiff, Nat.reduceSub, reduceIte, Int.reduceBEq, Int.reduceEq, Int.reduceLT, Int.reduceLE, Int.reduceGT, Int.reduceGE, Int.reduceNe, Int.reduceBNe, s_impl_FirstBad_L1, q0, q1, ix, nx]
  · simp only [go_sem, kSt_ptr, Nat.reduceBEq, Nat.reduceAdd, Nat.reduceEqDiff, Nat.reduceLeDiff, Nat.reduceSub, reduceIte, Int.reduceBEq, Int.reduceEq, Int.reduceLT, Int.reduceLE, Int.reduceGT, Int.reduceGE, Int.reduceNe, Int.reduceBNe, and_self]
  · intro x e h hx
    cases he : earlyL firstF [] s with
    | none =>
      rw [he] at hx
      obtain ⟨rfl, j0⟩ := hx
      simp only [go_sem, kSt_ptr, Nat.reduceBEq, Nat.reduceAdd, Nat.reduceEqDiff, Nat.reduceLeDiff, Nat.reduceSub, reduceIte, Int.reduceBEq, Int.reduceEq, Int.reduceLT, Int.reduceLE, Int.reduceGT, Int.reduceGE, Int.reduceNe, Int.reduceBNe, firstBad, he, Option.getD_none]
    | some k =>
      rw [he] at hx
      obtain ⟨rfl, j⟩ := hx
      simp only [go_sem, kSt_ptr, Nat.reduceBEq, Nat.reduceAdd, Nat.reduceEqDiff, Nat.reduceLeDiff, Nat.reduceSub, reduceIte, Int.reduceBEq, Int.reduceEq, Int.reduceLT, Int.reduceLE, Int.reduceGT, Int.reduceGE, Int.reduceNe, Int.reduceBNe, s_impl_FirstBad, j, firstBad, he]
noncomputable def C_impl_hasIndex := c3 (sliceT tDef) intT intT (fun (s : List (TDef)) (t : Int) (i : Int) => (sliceT tDef).cost s ≤ 1048576) (.bool) fun (s : List (TDef)) (t : Int) (i : Int) => there s t i
theorem C_impl_hasIndex_eq (s : List (TDef)) (t : Int) (i : Int) (h : (sliceT tDef).cost s ≤ 1048576) : C_impl_hasIndex [.imm (s.map TDef.row), .int .i64 t, .int .i64 i] = some (.bool ((there s t i))) := c3_eq (sliceT tDef) intT intT h
theorem ok_impl_hasIndex {WI : World → Prop} (hs : Stable WI) (cs) (hT : TOK (EE cs) WI) (h1 : (EE cs).T 50 = some C_impl_FirstBad) (h2 : (EE cs).T 78 = some C_impl_in) : PureOK Tryz.prog WI 77 C_impl_hasIndex := by
  refine pure3 (E := EE cs) hT hs (by rw [st_impl_hasIndex]; rfl) fun s t i hp => out_wp (n := 0) (st_impl_hasIndex cs) ?_
  obtain ⟨n1, n2⟩ := defsLens hp
  have c1 := C_impl_FirstBad_eq s hp
  have hw : IntKind.wrap .i64 ((s.length : Int) - 1) = (s.length : Int) - 1 := wrapId (by omega) (by omega)
  cases d1 : (firstBad s == -1)
  · simp only [go_sem, kSt_ptr, Nat.reduceBEq, Nat.reduceAdd, Nat.reduceEqDiff, Nat.reduceLeDiff, Nat.reduceSub, reduceIte, Int.reduceBEq, Int.reduceEq, Int.reduceLT, Int.reduceLE, Int.reduceGT, Int.reduceGE, Int.reduceNe, Int.reduceBNe, s_impl_hasIndex, h1, c1, d1, there]
  cases d2 : inR t 0 ((s.length : Int) - 1)
  · simp only [go_sem, kSt_ptr, Nat.reduceBEq, Nat.reduceAdd, Nat.reduceEqDiff, Nat.reduceLeDiff, Nat.reduceSub, reduceIte, Int.reduceBEq, Int.reduceEq, Int.reduceLT, Int.reduceLE, Int.reduceGT, Int.reduceGE, Int.reduceNe, Int.reduceBNe, s_impl_hasIndex, h1, c1, d1, h2, C_impl_in_eq, hw, d2, there]
  obtain ⟨z1, z2⟩ := inR_nat d2
  obtain ⟨d, hd⟩ : ∃ d, s[t.toNat]? = some d := ⟨_, List.getElem?_eq_getElem z2⟩
  have n3 := (defLens (n2 d (List.mem_of_getElem? hd))).2.2.2.1
  have hw2 : IntKind.wrap .i64 ((d.fIndexes.length : Int) - 1) = (d.fIndexes.length : Int) - 1 := wrapId (by omega) (by omega)
  simp only [go_sem, kSt_ptr, Nat.reduceBEq, Nat.reduceAdd, Nat.reduceEqDiff, Nat.reduceLeDiff, Nat.reduceSub, reduceIte, Int.reduceBEq, Int.reduceEq, Int.reduceLT, Int.reduceLE, Int.reduceGT, Int.reduceGE, Int.reduceNe, Int.reduceBNe, s_impl_hasIndex, h1, c1, d1, h2, C_impl_in_eq, hw, d2, kIa_nth (row := TDef.row) (sz := 4) z1 hd rfl, TDef.row, hw2, there, hd]
noncomputable def C_impl_partsOf := c2 tDef (sliceT tBy) (fun (v : TDef) (l : List (TBy)) => partsOK v l = true) (fun x => .app 4 (x.map TPart.row)) fun (v : TDef) (l : List (TBy)) => partsOf v l
theorem C_impl_partsOf_eq (v : TDef) (l : List (TBy)) (h : partsOK v l = true) : C_impl_partsOf [.agg [.str v.fName, .imm (v.fCols.map TCol.row), .imm (v.fPrimary.map TBy.row), .imm (v.fIndexes.map TIndex.row)], .imm (l.map TBy.row)] = some (.app 4 ((partsOf v l).map TPart.row)) := c2_eq tDef (sliceT tBy) h
theorem ok_impl_partsOf {WI : World → Prop} (hs : Stable WI) (cs) (hT : TOK (EE cs) WI) : FreshOK Tryz.prog WI 151 C_impl_partsOf := by
  refine pure2F (E := EE cs) hT hs (by rw [st_impl_partsOf]; rfl) fun v l hp => outF_wp (sz := 4) (st_impl_partsOf cs) ?_
  have hl := hp
  have hl2 := parts_len hl
  simp only [go_sem, kSt_ptr, Nat.reduceBEq, Nat.reduceAdd, Nat.reduceEqDiff, Nat.reduceLeDiff, Nat.reduceSub, reduceIte, Int.reduceBEq, Int.reduceEq, Int.reduceLT, Int.reduceLE, Int.reduceGT, Int.reduceGE, Int.reduceNe, Int.reduceBNe, s_impl_partsOf, TDef.row]
  refine (wl_for (l := l) (fun pre e h => e 2 = .ptr 0 0 ∧ h.hp 0 = some v.row ∧ 0 < h.nx ∧ e 9 = .imm (l.map TBy.row) ∧ grows tPart (partsOf v pre) (e 5) h ∧ e 11 = .int .i64 pre.length ∧ e 10 = .int .i64 (l).length) (.exit 0) (fun e h => grows tPart (partsOf v l) (e 5) h) (by omega) ?_ ?_ (by simp) l [] _ _ rfl ?_).mono ?_
  · rintro pre p rest e h a ⟨q0, q1, q2, q3, q4, ix, nx⟩
    obtain ⟨z1, c, hc⟩ := cols_get hl a.mem
    have hpo : partOf v p.fCol p.fDesc = ⟨p.fCol, c.fType, c.fNull, p.fDesc⟩ := by unfold partOf; rw [hc]
    have hsn : partsOf v (pre ++ [p]) = partsOf v pre ++ [(⟨p.fCol, c.fType, c.fNull, p.fDesc⟩ : TPart)] := by simp [partsOf, hpo]
    have hne : ¬ 0 = h.nx := by omega
    have hne3 : ¬ 0 = h.nx + 1 := by omega
    have f1 : fillR (List.replicate 1 [.int .i64 0, .int .i64 0, .bool false, .bool false]) 4 [(0, .agg [.int .i64 p.fCol, .int .i64 c.fType, .bool c.fNull, .bool p.fDesc])] = some [[.int .i64 p.fCol, .int .i64 c.fType, .bool c.fNull, .bool p.fDesc]] := rfl
    have f2 : frzRows [[.int .i64 p.fCol, .int .i64 c.fType, .bool c.fNull, .bool p.fDesc]] = some [[.int .i64 p.fCol, .int .i64 c.fType, .bool c.fNull, .bool p.fDesc]] := rfl
    simp only [go_sem, kSt_ptr, Nat.reduceBEq, Nat.reduceAdd, Nat.reduceEqDiff, Nat.reduceLeDiff, Nat.reduceSub, reduceIte, Int.reduceBEq, Int.reduceEq, Int.reduceLT, Int.reduceLE, Int.reduceGT, Int.reduceGE, Int.reduceNe, Int.reduceBNe, s_impl_partsOf_L0, q0, q1, q2, q3, q4, ix, nx, a.dl, a.ia (row := TBy.row) (sz := 2) rfl, a.hw, TDef.row, TBy.row, TCol.row, kIa_nth (row := TCol.row) (sz := 3) z1 hc rfl, hne, hne3, partFill, f1, f2]
    refine hP_grow [(⟨p.fCol, c.fType, c.fNull, p.fDesc⟩ : TPart)] rfl (q4.mono (by simp; omega) (fun r hr => by simp; omega)) rfl (by rw [partsOf_len]; have := a.lt; simp only [List.length_cons, List.length_nil]; unfold room; omega) ?_
    intro v' h' g1 g2 g3 _
    have g3' : 0 < h'.nx := by simp at g3; omega
    simp only [go_sem, kSt_ptr, Nat.reduceBEq, Nat.reduceAdd, Nat.reduceEqDiff, Nat.reduceLeDiff, Nat.reduceSub, reduceIte, Int.reduceBEq, Int.reduceEq, Int.reduceLT, Int.reduceLE, Int.reduceGT, Int.reduceGE, Int.reduceNe, Int.reduceBNe, q0, q3, ix, nx, g2, hne, hne3, q1, g3', TDef.row, a.hw, hsn, g1]
  · rintro e h ⟨q0, q1, q2, q3, q4, ix, nx⟩
    simp only [go_sem, kSt_ptr, Nat.reduceBEq, Nat.reduceAdd, Nat.reduceEqDiff, Nat.reduceLeDiff, Nat.reduceSub, reduceIte, Int.reduceBEq, Int.reduceEq, Int.reduceLT, Int.reduceLE, Int.reduceGT, Int.reduceGE, Int.reduceNe, Int.reduceBNe, s_impl_partsOf_L0, q0, q1, q2, q3, q4, ix, nx, TDef.row]
  · exact ⟨rfl, rfl, Nat.succ_pos _, rfl, .inl ⟨rfl, rfl⟩, rfl, rfl⟩
  · rintro x e h ⟨rfl, j⟩
    simp only [go_sem, kSt_ptr, Nat.reduceBEq, Nat.reduceAdd, Nat.reduceEqDiff, Nat.reduceLeDiff, Nat.reduceSub, reduceIte, Int.reduceBEq, Int.reduceEq, Int.reduceLT, Int.reduceLE, Int.reduceGT, Int.reduceGE, Int.reduceNe, Int.reduceBNe]
    exact frR_grows j rfl
noncomputable def C_impl_PrimaryPlan := c1 tDef (fun (v : TDef) => tDef.cost v ≤ 1048576) (fun x => .imm (x.map TPart.row)) fun (v : TDef) => primPlan v
theorem C_impl_PrimaryPlan_eq (v : TDef) (h : tDef.cost v ≤ 1048576) : C_impl_PrimaryPlan [.agg [.str v.fName, .imm (v.fCols.map TCol.row), .imm (v.fPrimary.map TBy.row), .imm (v.fIndexes.map TIndex.row)]] = some (.imm (((primPlan v)).map TPart.row)) := c1_eq tDef h
theorem ok_impl_PrimaryPlan {WI : World → Prop} (hs : Stable WI) (cs) (hT : TOK (EE cs) WI) (h1 : (EE cs).T 81 = some C_impl_CheckDef) (h2 : (EE cs).T 151 = some C_impl_partsOf) : PureOK Tryz.prog WI 82 C_impl_PrimaryPlan := by
  refine pure1 (E := EE cs) hT hs (by rw [st_impl_PrimaryPlan]; rfl) fun v hp => out_wp (n := 0) (st_impl_PrimaryPlan cs) ?_
  have fr_h2 : (EE cs).fr 151 = true := rfl
  have c1 : C_impl_CheckDef [.agg [.str v.fName, .imm (v.fCols.map TCol.row), .imm (v.fPrimary.map TBy.row), .imm (v.fIndexes.map TIndex.row)]] = some (.int .i64 (checkDef v)) := C_impl_CheckDef_eq v hp
  by_cases d : checkDef v = 0
  · have c2 : C_impl_partsOf [.agg [.str v.fName, .imm (v.fCols.map TCol.row), .imm (v.fPrimary.map TBy.row), .imm (v.fIndexes.map TIndex.row)], .imm (v.fPrimary.map TBy.row)] = some (.app 4 ((partsOf v v.fPrimary).map TPart.row)) := C_impl_partsOf_eq v v.fPrimary (check_parts d).1
    simp only [go_sem, kSt_ptr, Nat.reduceBEq, Nat.reduceAdd, Nat.reduceEqDiff, Nat.reduceLeDiff, Nat.reduceSub, reduceIte, Int.reduceBEq, Int.reduceEq, Int.reduceLT, Int.reduceLE, Int.reduceGT, Int.reduceGE, Int.reduceNe, Int.reduceBNe, s_impl_PrimaryPlan, TDef.row, h1, c1, h2, c2, fr_h2, primPlan, d]
  · simp only [go_sem, kSt_ptr, Nat.reduceBEq, Nat.reduceAdd, Nat.reduceEqDiff, Nat.reduceLeDiff, Nat.reduceSub, reduceIte, Int.reduceBEq, Int.reduceEq, Int.reduceLT, Int.reduceLE, Int.reduceGT, Int.reduceGE, Int.reduceNe, Int.reduceBNe, s_impl_PrimaryPlan, TDef.row, h1, c1, bneT d, primPlan, d, fillR, List.replicate, frzRows]
noncomputable def C_impl_IndexPlan := c2 tDef intT (fun (v : TDef) (i : Int) => tDef.cost v ≤ 1048576) (fun x => .imm (x.map TPart.row)) fun (v : TDef) (i : Int) => idxPlan v i
theorem C_impl_IndexPlan_eq (v : TDef) (i : Int) (h : tDef.cost v ≤ 1048576) : C_impl_IndexPlan [.agg [.str v.fName, .imm (v.fCols.map TCol.row), .imm (v.fPrimary.map TBy.row), .imm (v.fIndexes.map TIndex.row)], .int .i64 i] = some (.imm (((idxPlan v i)).map TPart.row)) := c2_eq tDef intT h
theorem ok_impl_IndexPlan {WI : World → Prop} (hs : Stable WI) (cs) (hT : TOK (EE cs) WI) (h1 : (EE cs).T 81 = some C_impl_CheckDef) (h3 : (EE cs).T 78 = some C_impl_in) (h2 : (EE cs).T 151 = some C_impl_partsOf) : PureOK Tryz.prog WI 83 C_impl_IndexPlan := by
  refine pure2 (E := EE cs) hT hs (by rw [st_impl_IndexPlan]; rfl) fun v i hp => out_wp (n := 0) (st_impl_IndexPlan cs) ?_
  have fr_h2 : (EE cs).fr 151 = true := rfl
  have c1 : C_impl_CheckDef [.agg [.str v.fName, .imm (v.fCols.map TCol.row), .imm (v.fPrimary.map TBy.row), .imm (v.fIndexes.map TIndex.row)]] = some (.int .i64 (checkDef v)) := C_impl_CheckDef_eq v hp
  have n3 := (defLens hp).2.2.2.1
  have hw : IntKind.wrap .i64 ((v.fIndexes.length : Int) - 1) = (v.fIndexes.length : Int) - 1 := wrapId (by omega) (by omega)
  by_cases d : checkDef v = 0
  · cases d2 : inR i 0 ((v.fIndexes.length : Int) - 1)
    · simp only [go_sem, kSt_ptr, Nat.reduceBEq, Nat.reduceAdd, Nat.reduceEqDiff, Nat.reduceLeDiff, Nat.reduceSub, reduceIte, Int.reduceBEq, Int.reduceEq, Int.reduceLT, Int.reduceLE, Int.reduceGT, Int.reduceGE, Int.reduceNe, Int.reduceBNe, s_impl_IndexPlan, TDef.row, h1, c1, h3, C_impl_in_eq, hw, d2, idxPlan, d, fillR, List.replicate, frzRows]
    · obtain ⟨z1, z2⟩ := inR_nat d2
      obtain ⟨x, hx⟩ : ∃ x, v.fIndexes[i.toNat]? = some x := ⟨_, List.getElem?_eq_getElem z2⟩
      have hxp := (check_parts d).2 x (List.mem_of_getElem? hx)
      have c2 : ∀ l, partsOK v l = true → C_impl_partsOf [.agg [.str v.fName, .imm (v.fCols.map TCol.row), .imm (v.fPrimary.map TBy.row), .imm (v.fIndexes.map TIndex.row)], .imm (l.map TBy.row)] = some (.app 4 ((partsOf v l).map TPart.row)) := fun l hl => C_impl_partsOf_eq v l hl
      have ap := fun id id' H hH => plan_app (id := id) (id' := id') (H := H) hxp (check_parts d).1 hH
      simp only [go_sem, kSt_ptr, Nat.reduceBEq, Nat.reduceAdd, Nat.reduceEqDiff, Nat.reduceLeDiff, Nat.reduceSub, reduceIte, Int.reduceBEq, Int.reduceEq, Int.reduceLT, Int.reduceLE, Int.reduceGT, Int.reduceGE, Int.reduceNe, Int.reduceBNe, s_impl_IndexPlan, TDef.row, h1, c1, h3, C_impl_in_eq, hw, d2, kIa_nth (row := TIndex.row) (sz := 3) z1 hx rfl, TIndex.row, h2, c2 x.fParts hxp, c2 v.fPrimary (check_parts d).1, fr_h2, ap, idxPlan, d, hx]
  · simp only [go_sem, kSt_ptr, Nat.reduceBEq, Nat.reduceAdd, Nat.reduceEqDiff, Nat.reduceLeDiff, Nat.reduceSub, reduceIte, Int.reduceBEq, Int.reduceEq, Int.reduceLT, Int.reduceLE, Int.reduceGT, Int.reduceGE, Int.reduceNe, Int.reduceBNe, s_impl_IndexPlan, TDef.row, h1, c1, bneT d, idxPlan, d, fillR, List.replicate, frzRows]
end Go.Proofs.YtienjjjhjeigmaaGreatDoor.Is
/- What the functions that FnExactInScan calls answer: part 12. -/
namespace Go.Proofs.YtienjjjhjeigmaaGreatDoor.Is
open Go Go.RowKit Go.Ev
set_option linter.unusedSimpArgs false
set_option linter.unusedVariables false
set_option maxHeartbeats 1600000
noncomputable def C_impl_planOf := c2 tDef intT (fun (v : TDef) (i : Int) => tDef.cost v ≤ 1048576 ∧ -1 ≤ i) (fun x => .imm (x.map TPart.row)) fun (v : TDef) (i : Int) => planOf v i
theorem C_impl_planOf_eq (v : TDef) (i : Int) (h : tDef.cost v ≤ 1048576 ∧ -1 ≤ i) : C_impl_planOf [.agg [.str v.fName, .imm (v.fCols.map TCol.row), .imm (v.fPrimary.map TBy.row), .imm (v.fIndexes.map TIndex.row)], .int .i64 i] = some (.imm (((planOf v i)).map TPart.row)) := c2_eq tDef intT h
theorem ok_impl_planOf {WI : World → Prop} (hs : Stable WI) (cs) (hT : TOK (EE cs) WI) (h1 : (EE cs).T 82 = some C_impl_PrimaryPlan) (h2 : (EE cs).T 83 = some C_impl_IndexPlan) : PureOK Tryz.prog WI 38 C_impl_planOf := by
  refine pure2 (E := EE cs) hT hs (by rw [st_impl_planOf]; rfl) fun v i hp => out_wp (n := 0) (st_impl_planOf cs) ?_
  obtain ⟨hp, hi⟩ := hp
  have c1 : C_impl_PrimaryPlan [.agg [.str v.fName, .imm (v.fCols.map TCol.row), .imm (v.fPrimary.map TBy.row), .imm (v.fIndexes.map TIndex.row)]] = some (.imm ((primPlan v).map TPart.row)) := C_impl_PrimaryPlan_eq v hp
  have c2 : C_impl_IndexPlan [.agg [.str v.fName, .imm (v.fCols.map TCol.row), .imm (v.fPrimary.map TBy.row), .imm (v.fIndexes.map TIndex.row)], .int .i64 i] = some (.imm ((idxPlan v i).map TPart.row)) := C_impl_IndexPlan_eq v i hp
  by_cases d : i = -1
  · subst d
    simp only [go_sem, kSt_ptr, Nat.reduceBEq, Nat.reduceAdd, Nat.reduceEqDiff, Nat.reduceLeDiff, Nat.reduceSub, reduceIte, Int.reduceBEq, Int.reduceEq, Int.reduceLT, Int.reduceLE, Int.reduceGT, Int.reduceGE, Int.reduceNe, Int.reduceBNe, s_impl_planOf, TDef.row, h1, c1, planOf]
  · have d2 : ¬ i < 0 := by omega
    simp only [go_sem, kSt_ptr, Nat.reduceBEq, Nat.reduceAdd, Nat.reduceEqDiff, Nat.reduceLeDiff, Nat.reduceSub, reduceIte, Int.reduceBEq, Int.reduceEq, Int.reduceLT, Int.reduceLE, Int.reduceGT, Int.reduceGE, Int.reduceNe, Int.reduceBNe, s_impl_planOf, TDef.row, d2, h2, c2, planOf, d]
theorem ev_impl_ValOk (cs) (hT : (EE cs).T 78 = some C_impl_in) (v : TVal) : ∃ k n, out (EE cs) k n 210 [.agg v.row] = some (.bool (valOk v)) := by
  refine out_K (n := 0) (st_impl_ValOk cs) ?_
  by_cases h0 : v.fK = 0
  · by_cases hn : v.fN = 0
    · simp only [go_sem, kSt_ptr, Nat.reduceBEq, Nat.reduceAdd, Nat.reduceEqDiff, Nat.reduceLeDiff, Nat.reduceSub, reduceIte, Int.reduceBEq, Int.reduceEq, Int.reduceLT, Int.reduceLE, Int.reduceGT, Int.reduceGE, Int.reduceNe, Int.reduceBNe, s_impl_ValOk, TVal.row, h0, hn, valOk]
    · simp only [go_sem, kSt_ptr, Nat.reduceBEq, Nat.reduceAdd, Nat.reduceEqDiff, Nat.reduceLeDiff, Nat.reduceSub, reduceIte, Int.reduceBEq, Int.reduceEq, Int.reduceLT, Int.reduceLE, Int.reduceGT, Int.reduceGE, Int.reduceNe, Int.reduceBNe, s_impl_ValOk, TVal.row, h0, hn, beqF hn, valOk]
  by_cases h1 : v.fK = 1
  · cases hn : inR v.fN (-2147483648) 2147483647
    · simp only [go_sem, kSt_ptr, Nat.reduceBEq, Nat.reduceAdd, Nat.reduceEqDiff, Nat.reduceLeDiff, Nat.reduceSub, reduceIte, Int.reduceBEq, Int.reduceEq, Int.reduceLT, Int.reduceLE, Int.reduceGT, Int.reduceGE, Int.reduceNe, Int.reduceBNe, s_impl_ValOk, TVal.row, h1, hn, valOk, hT, C_impl_in_eq]
    · simp only [go_sem, kSt_ptr, Nat.reduceBEq, Nat.reduceAdd, Nat.reduceEqDiff, Nat.reduceLeDiff, Nat.reduceSub, reduceIte, Int.reduceBEq, Int.reduceEq, Int.reduceLT, Int.reduceLE, Int.reduceGT, Int.reduceGE, Int.reduceNe, Int.reduceBNe, s_impl_ValOk, TVal.row, h1, hn, valOk, hT, C_impl_in_eq]
  by_cases h2 : v.fK = 2
  · cases hn : inR v.fN (-1000000000000000) 1000000000000000
    · simp only [go_sem, kSt_ptr, Nat.reduceBEq, Nat.reduceAdd, Nat.reduceEqDiff, Nat.reduceLeDiff, Nat.reduceSub, reduceIte, Int.reduceBEq, Int.reduceEq, Int.reduceLT, Int.reduceLE, Int.reduceGT, Int.reduceGE, Int.reduceNe, Int.reduceBNe, s_impl_ValOk, TVal.row, h2, hn, valOk, hT, C_impl_in_eq]
    · simp only [go_sem, kSt_ptr, Nat.reduceBEq, Nat.reduceAdd, Nat.reduceEqDiff, Nat.reduceLeDiff, Nat.reduceSub, reduceIte, Int.reduceBEq, Int.reduceEq, Int.reduceLT, Int.reduceLE, Int.reduceGT, Int.reduceGE, Int.reduceNe, Int.reduceBNe, s_impl_ValOk, TVal.row, h2, hn, valOk, hT, C_impl_in_eq]
  by_cases h3 : v.fK = 3
  · by_cases hn : v.fN = 0
    · simp only [go_sem, kSt_ptr, Nat.reduceBEq, Nat.reduceAdd, Nat.reduceEqDiff, Nat.reduceLeDiff, Nat.reduceSub, reduceIte, Int.reduceBEq, Int.reduceEq, Int.reduceLT, Int.reduceLE, Int.reduceGT, Int.reduceGE, Int.reduceNe, Int.reduceBNe, s_impl_ValOk, TVal.row, h3, hn, valOk, hT, C_impl_in_eq]
    · simp only [go_sem, kSt_ptr, Nat.reduceBEq, Nat.reduceAdd, Nat.reduceEqDiff, Nat.reduceLeDiff, Nat.reduceSub, reduceIte, Int.reduceBEq, Int.reduceEq, Int.reduceLT, Int.reduceLE, Int.reduceGT, Int.reduceGE, Int.reduceNe, Int.reduceBNe, s_impl_ValOk, TVal.row, h3, hn, beqF hn, valOk, hT, C_impl_in_eq]
  by_cases h4 : v.fK = 4
  · cases hn : inR v.fN 0 1
    · simp only [go_sem, kSt_ptr, Nat.reduceBEq, Nat.reduceAdd, Nat.reduceEqDiff, Nat.reduceLeDiff, Nat.reduceSub, reduceIte, Int.reduceBEq, Int.reduceEq, Int.reduceLT, Int.reduceLE, Int.reduceGT, Int.reduceGE, Int.reduceNe, Int.reduceBNe, s_impl_ValOk, TVal.row, h4, hn, valOk, hT, C_impl_in_eq]
    · simp only [go_sem, kSt_ptr, Nat.reduceBEq, Nat.reduceAdd, Nat.reduceEqDiff, Nat.reduceLeDiff, Nat.reduceSub, reduceIte, Int.reduceBEq, Int.reduceEq, Int.reduceLT, Int.reduceLE, Int.reduceGT, Int.reduceGE, Int.reduceNe, Int.reduceBNe, s_impl_ValOk, TVal.row, h4, hn, valOk, hT, C_impl_in_eq]
  simp only [go_sem, kSt_ptr, Nat.reduceBEq, Nat.reduceAdd, Nat.reduceEqDiff, Nat.reduceLeDiff, Nat.reduceSub, reduceIte, Int.reduceBEq, Int.reduceEq, Int.reduceLT, Int.reduceLE, Int.reduceGT, Int.reduceGE, Int.reduceNe, Int.reduceBNe, s_impl_ValOk, TVal.row, h0, h1, h2, h3, h4, beqF h0, beqF h1, beqF h2, beqF h3, beqF h4, valOk, hT, C_impl_in_eq]
noncomputable def C_impl_ValOk := ct (fun a : TVal => [.agg a.row]) (fun _ => True) .bool valOk
theorem C_impl_ValOk_eq (k n : Int) (s : List UInt8) : C_impl_ValOk [.agg [.int .i64 k, .int .i64 n, .str s]] = some (.bool (valOk ⟨k, n, s⟩)) := by
  unfold C_impl_ValOk
  exact ct_eq (a := (⟨k, n, s⟩ : TVal)) (fun a b h => by
    simp only [List.cons.injEq, AV.agg.injEq, and_true] at h
    exact TVal.inj _ _ h) trivial
theorem ok_impl_ValOk {WI} (hs : Stable WI) (cs) (hT : TOK (EE cs) WI) (h : (EE cs).T 78 = some C_impl_in) : PureOK Tryz.prog WI 210 C_impl_ValOk := pure_out hT hs (by rw [st_impl_ValOk]; rfl) fun a _ => ev_impl_ValOk cs h a
noncomputable def C_impl_Fits := c2 tPart tVal (fun (p : TPart) (v : TVal) => True) (.bool) fun (p : TPart) (v : TVal) => fitsV p v
theorem C_impl_Fits_eq (p : TPart) (v : TVal) (h : True) : C_impl_Fits [.agg [.int .i64 p.fCol, .int .i64 p.fType, .bool p.fNull, .bool p.fDesc], .agg [.int .i64 v.fK, .int .i64 v.fN, .str v.fS]] = some (.bool ((fitsV p v))) := c2_eq tPart tVal h
theorem ok_impl_Fits {WI : World → Prop} (hs : Stable WI) (cs) (hT : TOK (EE cs) WI) (h1 : (EE cs).T 210 = some C_impl_ValOk) : PureOK Tryz.prog WI 146 C_impl_Fits := by
  refine pure2 (E := EE cs) hT hs (by rw [st_impl_Fits]; rfl) fun p v hp => out_wp (n := 0) (st_impl_Fits cs) ?_
  have c1 : C_impl_ValOk [.agg [.int .i64 v.fK, .int .i64 v.fN, .str v.fS]] = some (.bool (valOk v)) := C_impl_ValOk_eq v.fK v.fN v.fS
  cases d1 : valOk v
  · simp only [go_sem, kSt_ptr, Nat.reduceBEq, Nat.reduceAdd, Nat.reduceEqDiff, Nat.reduceLeDiff, Nat.reduceSub, reduceIte, Int.reduceBEq, Int.reduceEq, Int.reduceLT, Int.reduceLE, Int.reduceGT, Int.reduceGE, Int.reduceNe, Int.reduceBNe, s_impl_Fits, TPart.row, TVal.row, h1, c1, d1, fitsV]
  cases d2 : (v.fK == p.fType) <;> cases d3 : (v.fK == 0) <;> cases d4 : p.fNull <;> simp only [go_sem, kSt_ptr, Nat.reduceBEq, Nat.reduceAdd, Nat.reduceEqDiff, Nat.reduceLeDiff, Nat.reduceSub, reduceIte, Int.reduceBEq, Int.reduceEq, Int.reduceLT, Int.reduceLE, Int.reduceGT, Int.reduceGE, Int.reduceNe, Int.reduceBNe, s_impl_Fits, TPart.row, TVal.row, h1, c1, d1, d2, d3, d4, bne, fitsV, Bool.true_or, Bool.or_true]
noncomputable def C_impl_FitsAll := c2 (sliceT tPart) (sliceT tVal) (fun (l : List (TPart)) (vs : List (TVal)) => l.length ≤ 1048576 ∧ vs.length ≤ 1048576) (.bool) fun (l : List (TPart)) (vs : List (TVal)) => fitsAll l vs
theorem C_impl_FitsAll_eq (l : List (TPart)) (vs : List (TVal)) (h : l.length ≤ 1048576 ∧ vs.length ≤ 1048576) : C_impl_FitsAll [.imm (l.map TPart.row), .imm (vs.map TVal.row)] = some (.bool ((fitsAll l vs))) := c2_eq (sliceT tPart) (sliceT tVal) h
theorem ok_impl_FitsAll {WI : World → Prop} (hs : Stable WI) (cs) (hT : TOK (EE cs) WI) (h1 : (EE cs).T 146 = some C_impl_Fits) : PureOK Tryz.prog WI 79 C_impl_FitsAll := by
  refine pure2 (E := EE cs) hT hs (by rw [st_impl_FitsAll]; rfl) fun l vs hp => out_wp (n := 0) (st_impl_FitsAll cs) ?_
  obtain ⟨n1, n2⟩ := hp
  by_cases hlen : (l.length : Int) < (vs.length : Int)
  · have hd : decide (vs.length ≤ l.length) = false := decide_eq_false (by omega)
    simp only [go_sem, kSt_ptr, Nat.reduceBEq, Nat.reduceAdd, Nat.reduceEqDiff, Nat.reduceLeDiff, Nat.reduceSub, reduceIte, Int.reduceBEq, Int.reduceEq, Int.reduceLT, Int.reduceLE, Int.reduceGT, Int.reduceGE, Int.reduceNe, Int.reduceBNe, s_impl_FitsAll, hlen, fitsAll, hd]
  have hd : decide (vs.length ≤ l.length) = true := decide_eq_true (by omega)
  simp only [go_sem, kSt_ptr, Nat.reduceBEq, Nat.reduceAdd, Nat.reduceEqDiff, Nat.reduceLeDiff, Nat.reduceSub, reduceIte, Int.reduceBEq, Int.reduceEq, Int.reduceLT, Int.reduceLE, Int.reduceGT, Int.reduceGE, Int.reduceNe, Int.reduceBNe, s_impl_FitsAll, hlen]
  refine (wl_all (l := vs) (fun pre v => fitAt l pre v) (fun pre e h => e 0 = .imm (l.map TPart.row) ∧ e 12 = .imm (vs.map TVal.row) ∧ e 14 = .int .i64 pre.length ∧ e 13 = .int .i64 (vs).length) (.exit 0) (fun e h => e 0 = .imm (l.map TPart.row) ∧ e 12 = .imm (vs.map TVal.row)) (fun e h => e 4 = .bool false) (by omega) ?_ ?_ ?_ (by simp) vs [] _ _ rfl ?_).mono ?_
  · rintro pre v rest e h a hp ⟨q0, q1, ix, nx⟩
    obtain ⟨p, hpp⟩ : ∃ p, l[pre.length]? = some p := ⟨_, List.getElem?_eq_getElem (by have := a.lt; omega)⟩
    have hpp' : l[((pre.length : Int)).toNat]? = some p := by simpa using hpp
    have hc : C_impl_Fits [.agg [.int .i64 p.fCol, .int .i64 p.fType, .bool p.fNull, .bool p.fDesc], .agg [.int .i64 v.fK, .int .i64 v.fN, .str v.fS]] = some (.bool (fitsV p v)) := C_impl_Fits_eq p v trivial
    rw [fitAt_some hpp] at hp
    simp only [go_sem, kSt_ptr, Nat.reduceBEq, Nat.reduceAdd, Nat.reduceEqDiff, Nat.reduceLeDiff, Nat.reduceSub, reduceIte, Int.reduceBEq, Int.reduceEq, Int.reduceLT, Int.reduceLE, Int.reduceGT, Int.reduceGE, Int.reduceNe, Int.reduceBNe, s_impl_FitsAll_L0, q0, q1, ix, nx, a.dl, a.ia (row := TVal.row) (sz := 3) rfl, hp, a.hw, kIa_nth (row := TPart.row) (sz := 4) (by omega) hpp' rfl, TPart.row, TVal.row, h1, hc]
  · rintro pre v rest e h a hp ⟨q0, q1, ix, nx⟩
    obtain ⟨p, hpp⟩ : ∃ p, l[pre.length]? = some p := ⟨_, List.getElem?_eq_getElem (by have := a.lt; omega)⟩
    have hpp' : l[((pre.length : Int)).toNat]? = some p := by simpa using hpp
    have hc : C_impl_Fits [.agg [.int .i64 p.fCol, .int .i64 p.fType, .bool p.fNull, .bool p.fDesc], .agg [.int .i64 v.fK, .int .i64 v.fN, .str v.fS]] = some (.bool (fitsV p v)) := C_impl_Fits_eq p v trivial
    rw [fitAt_some hpp] at hp
    simp only [go_sem, kSt_ptr, Nat.reduceBEq, Nat.reduceAdd, Nat.reduceEqDiff, Nat.reduceLeDiff, Nat.reduceSub, reduceIte, Int.reduceBEq, Int.reduceEq, Int.reduceLT, Int.reduceLE, Int.reduceGT, Int.reduceGE, Int.reduceNe, Int.reduceBNe, s_impl_FitsAll_L0, q0, q1, ix, nx, a.dl, a.ia (row := TVal.row) (sz := 3) rfl, hp, a.hw, kIa_nth (row := TPart.row) (sz := 4) (by omega) hpp' rfl, TPart.row, TVal.row, h1, hc]
  · rintro e h ⟨q0, q1, ix, nx⟩
    simp only [go_sem, kSt_ptr, Nat.reduceBEq, Nat.reduceAdd, Nat.reduceEqDiff, Nat.reduceLeDiff, Nat.reduceSub, reduceIte, Int.reduceBEq, Int.reduceEq, Int.reduceLT, Int.reduceLE, Int.reduceGT, Int.reduceGE, Int.reduceNe, Int.reduceBNe, s_impl_FitsAll_L0, q0, q1, ix, nx]
  · simp only [go_sem, kSt_ptr, Nat.reduceBEq, Nat.reduceAdd, Nat.reduceEqDiff, Nat.reduceLeDiff, Nat.reduceSub, reduceIte, Int.reduceBEq, Int.reduceEq, Int.reduceLT, Int.reduceLE, Int.reduceGT, Int.reduceGE, Int.reduceNe, Int.reduceBNe, and_self]
  · rintro x e h (⟨hp, rfl, j0, j1⟩ | ⟨hp, rfl, j⟩)
    · simp only [go_sem, kSt_ptr, Nat.reduceBEq, Nat.reduceAdd, Nat.reduceEqDiff, Nat.reduceLeDiff, Nat.reduceSub, reduceIte, Int.reduceBEq, Int.reduceEq, Int.reduceLT, Int.reduceLE, Int.reduceGT, Int.reduceGE, Int.reduceNe, Int.reduceBNe, fitsAll, hd, hp]
    · simp only [go_sem, kSt_ptr, Nat.reduceBEq, Nat.reduceAdd, Nat.reduceEqDiff, Nat.reduceLeDiff, Nat.reduceSub, reduceIte, Int.reduceBEq, Int.reduceEq, Int.reduceLT, Int.reduceLE, Int.reduceGT, Int.reduceGE, Int.reduceNe, Int.reduceBNe, s_impl_FitsAll, j, fitsAll, hd, hp]
noncomputable def C_impl_ScanOk := c2 (sliceT tDef) tScan (fun (s : List (TDef)) (c : TScan) => (sliceT tDef).good s ∧ tScan.good c) (.bool) fun (s : List (TDef)) (c : TScan) => scanOk s c
theorem C_impl_ScanOk_eq (s : List (TDef)) (c : TScan) (h : (sliceT tDef).good s ∧ tScan.good c) : C_impl_ScanOk [.imm (s.map TDef.row), .agg [.int .i64 c.fT, .int .i64 c.fI, .imm (c.fLo.map TVal.row), .imm (c.fHi.map TVal.row), .bool c.fLoEx, .bool c.fHiEx, .bool c.fRev, .int .i64 c.fLimit]] = some (.bool ((scanOk s c))) := c2_eq (sliceT tDef) tScan h
theorem ok_impl_ScanOk {WI : World → Prop} (hs : Stable WI) (cs) (hT : TOK (EE cs) WI) (h1 : (EE cs).T 77 = some C_impl_hasIndex) (h2 : (EE cs).T 78 = some C_impl_in) (h3 : (EE cs).T 38 = some C_impl_planOf) (h4 : (EE cs).T 79 = some C_impl_FitsAll) : PureOK Tryz.prog WI 35 C_impl_ScanOk := by
  refine pure2 (E := EE cs) hT hs (by rw [st_impl_ScanOk]; rfl) fun s c hp => out_wp (n := 0) (st_impl_ScanOk cs) ?_
  obtain ⟨⟨hs, _⟩, hc, _⟩ := hp
  obtain ⟨n1, n2⟩ := defsLens hs
  obtain ⟨m1, m2⟩ := scanLens hc
  have c1 : C_impl_hasIndex [.imm (s.map TDef.row), .int .i64 c.fT, .int .i64 c.fI] = some (.bool (there s c.fT c.fI)) := C_impl_hasIndex_eq s c.fT c.fI hs
  cases d1 : there s c.fT c.fI
  · simp only [go_sem, kSt_ptr, Nat.reduceBEq, Nat.reduceAdd, Nat.reduceEqDiff, Nat.reduceLeDiff, Nat.reduceSub, reduceIte, Int.reduceBEq, Int.reduceEq, Int.reduceLT, Int.reduceLE, Int.reduceGT, Int.reduceGE, Int.reduceNe, Int.reduceBNe, s_impl_ScanOk, TScan.row, h1, c1, d1, scanOk]
  cases d2 : inR c.fLimit 0 100
  · simp only [go_sem, kSt_ptr, Nat.reduceBEq, Nat.reduceAdd, Nat.reduceEqDiff, Nat.reduceLeDiff, Nat.reduceSub, reduceIte, Int.reduceBEq, Int.reduceEq, Int.reduceLT, Int.reduceLE, Int.reduceGT, Int.reduceGE, Int.reduceNe, Int.reduceBNe, s_impl_ScanOk, TScan.row, h1, c1, d1, h2, C_impl_in_eq, d2, scanOk]
  obtain ⟨d, hd, z1, hm, _, hi1, _⟩ := there_get d1
  have c3 : C_impl_planOf [.agg [.str d.fName, .imm (d.fCols.map TCol.row), .imm (d.fPrimary.map TBy.row), .imm (d.fIndexes.map TIndex.row)], .int .i64 c.fI] = some (.imm ((planOf d c.fI).map TPart.row)) := C_impl_planOf_eq d c.fI ⟨n2 d hm, hi1⟩
  have hl := planOf_len d c.fI
  have c4 : ∀ vs : List TVal, vs.length ≤ 1048576 → C_impl_FitsAll [.imm ((planOf d c.fI).map TPart.row), .imm (vs.map TVal.row)] = some (.bool (fitsAll (planOf d c.fI) vs)) := fun vs hv => C_impl_FitsAll_eq _ vs ⟨by omega, hv⟩
  cases d3 : fitsAll (planOf d c.fI) c.fLo
  · simp only [go_sem, kSt_ptr, Nat.reduceBEq, Nat.reduceAdd, Nat.reduceEqDiff, Nat.reduceLeDiff, Nat.reduceSub, reduceIte, Int.reduceBEq, Int.reduceEq, Int.reduceLT, Int.reduceLE, Int.reduceGT, Int.reduceGE, Int.reduceNe, Int.reduceBNe, s_impl_ScanOk, TScan.row, h1, c1, d1, h2, C_impl_in_eq, d2, kIa_nth (row := TDef.row) (sz := 4) z1 hd rfl, TDef.row, h3, c3, h4, c4 c.fLo m1, d3, scanOk, hd]
  · simp only [go_sem, kSt_ptr, Nat.reduceBEq, Nat.reduceAdd, Nat.reduceEqDiff, Nat.reduceLeDiff, Nat.reduceSub, reduceIte, Int.reduceBEq, Int.reduceEq, Int.reduceLT, Int.reduceLE, Int.reduceGT, Int.reduceGE, Int.reduceNe, Int.reduceBNe, s_impl_ScanOk, TScan.row, h1, c1, d1, h2, C_impl_in_eq, d2, kIa_nth (row := TDef.row) (sz := 4) z1 hd rfl, TDef.row, h3, c3, h4, c4 c.fLo m1, c4 c.fHi m2, d3, scanOk, hd]
noncomputable def C_impl_RowPlan := c1 tDef (fun (v : TDef) => tDef.cost v ≤ 1048576) (fun x => .app 4 (x.map TPart.row)) fun (v : TDef) => rowPlan v
theorem C_impl_RowPlan_eq (v : TDef) (h : tDef.cost v ≤ 1048576) : C_impl_RowPlan [.agg [.str v.fName, .imm (v.fCols.map TCol.row), .imm (v.fPrimary.map TBy.row), .imm (v.fIndexes.map TIndex.row)]] = some (.app 4 ((rowPlan v).map TPart.row)) := c1_eq tDef h
theorem ok_impl_RowPlan {WI : World → Prop} (hs : Stable WI) (cs) (hT : TOK (EE cs) WI) (h1 : (EE cs).T 81 = some C_impl_CheckDef) : FreshOK Tryz.prog WI 37 C_impl_RowPlan := by
  refine pure1F (E := EE cs) hT hs (by rw [st_impl_RowPlan]; rfl) fun v hp => outF_wp (sz := 4) (st_impl_RowPlan cs) ?_
  obtain ⟨n1, n2, n3, n4, n5, n6⟩ := defLens hp
  have c1 : C_impl_CheckDef [.agg [.str v.fName, .imm (v.fCols.map TCol.row), .imm (v.fPrimary.map TBy.row), .imm (v.fIndexes.map TIndex.row)]] = some (.int .i64 (checkDef v)) := C_impl_CheckDef_eq v hp
  by_cases d : checkDef v = 0
  · have hrp : rowPlan v = mapP rowP [] v.fCols := by unfold rowPlan; rw [if_pos d]
    rw [hrp]
    simp only [go_sem, kSt_ptr, Nat.reduceBEq, Nat.reduceAdd, Nat.reduceEqDiff, Nat.reduceLeDiff, Nat.reduceSub, reduceIte, Int.reduceBEq, Int.reduceEq, Int.reduceLT, Int.reduceLE, Int.reduceGT, Int.reduceGE, Int.reduceNe, Int.reduceBNe, s_impl_RowPlan, TDef.row, h1, c1, d]
    refine (wl_for (l := v.fCols) (fun pre e h => e 10 = .imm (v.fCols.map TCol.row) ∧ grows tPart (mapP rowP [] pre) (e 3) h ∧ e 12 = .int .i64 pre.length ∧ e 11 = .int .i64 (v.fCols).length) (.exit 0) (fun e h => grows tPart (mapP rowP [] v.fCols) (e 3) h) (by omega) ?_ ?_ (by simp) v.fCols [] _ _ rfl ?_).mono ?_
    · rintro pre p rest e h a ⟨q0, q1, ix, nx⟩
      have hlen : (mapP rowP [] pre).length ≤ 1048576 := by rw [mapP_len]; have := a.lt; omega
      have hsn := mapP_nil rowP pre p
      have f1 : fillR (List.replicate 1 [.int .i64 0, .int .i64 0, .bool false, .bool false]) 4 [(0, .agg [.int .i64 pre.length, .int .i64 p.fType, .bool p.fNull, .bool false])] = some [[.int .i64 pre.length, .int .i64 p.fType, .bool p.fNull, .bool false]] := rfl
      have f2 : frzRows [[.int .i64 pre.length, .int .i64 p.fType, .bool p.fNull, .bool false]] = some [[.int .i64 pre.length, .int .i64 p.fType, .bool p.fNull, .bool false]] := rfl
      have f3 : sFill [.int .i64 0, .int .i64 0, .bool false, .bool false] [(0, 1, .int .i64 pre.length), (1, 1, .int .i64 p.fType), (2, 1, .bool p.fNull)] = some [.int .i64 pre.length, .int .i64 p.fType, .bool p.fNull, .bool false] := rfl
      simp only [go_sem, kSt_ptr, Nat.reduceBEq, Nat.reduceAdd, Nat.reduceEqDiff, Nat.reduceLeDiff, Nat.reduceSub, reduceIte, Int.reduceBEq, Int.reduceEq, Int.reduceLT, Int.reduceLE, Int.reduceGT, Int.reduceGE, Int.reduceNe, Int.reduceBNe, s_impl_RowPlan_L0, q0, q1, ix, nx, a.dl, a.ia (row := TCol.row) (sz := 3) rfl, a.hw, TCol.row, f1, f2, f3]
      refine hP_grow [rowP pre p] rfl (q1.mono (by simp <;> omega) (fun r hr => by simp <;> omega)) rfl (by simp only [List.length_cons, List.length_nil]; unfold room; omega) ?_
      intro v' h' g1 g2 g3 _
      simp only [go_sem, kSt_ptr, Nat.reduceBEq, Nat.reduceAdd, Nat.reduceEqDiff, Nat.reduceLeDiff, Nat.reduceSub, reduceIte, Int.reduceBEq, Int.reduceEq, Int.reduceLT, Int.reduceLE, Int.reduceGT, Int.reduceGE, Int.reduceNe, Int.reduceBNe, q0, ix, nx, g2, a.hw, hsn, g1]
    · rintro e h ⟨q0, q1, ix, nx⟩
      simp only [go_sem, kSt_ptr, Nat.reduceBEq, Nat.reduceAdd, Nat.reduceEqDiff, Nat.reduceLeDiff, Nat.reduceSub, reduceIte, Int.reduceBEq, Int.reduceEq, Int.reduceLT, Int.reduceLE, Int.reduceGT, Int.reduceGE, Int.reduceNe, Int.reduceBNe, s_impl_RowPlan_L0, q0, q1, ix, nx]
    · exact ⟨rfl, grows_nil tPart _, rfl, rfl⟩
    · rintro x e h ⟨rfl, j⟩
      simp only [go_sem, kSt_ptr, Nat.reduceBEq, Nat.reduceAdd, Nat.reduceEqDiff, Nat.reduceLeDiff, Nat.reduceSub, reduceIte, Int.reduceBEq, Int.reduceEq, Int.reduceLT, Int.reduceLE, Int.reduceGT, Int.reduceGE, Int.reduceNe, Int.reduceBNe]
      exact frR_grows j rfl
  · have hrp : rowPlan v = [] := by unfold rowPlan; rw [if_neg d]
    rw [hrp]
    simp only [go_sem, kSt_ptr, Nat.reduceBEq, Nat.reduceAdd, Nat.reduceEqDiff, Nat.reduceLeDiff, Nat.reduceSub, reduceIte, Int.reduceBEq, Int.reduceEq, Int.reduceLT, Int.reduceLE, Int.reduceGT, Int.reduceGE, Int.reduceNe, Int.reduceBNe, s_impl_RowPlan, TDef.row, h1, c1, bneT d]
noncomputable def C_impl_PartOk := c1 tPart (fun (p : TPart) => True) (.bool) fun (p : TPart) => partOk p
theorem C_impl_PartOk_eq (p : TPart) (h : True) : C_impl_PartOk [.agg [.int .i64 p.fCol, .int .i64 p.fType, .bool p.fNull, .bool p.fDesc]] = some (.bool ((partOk p))) := c1_eq tPart h
theorem ok_impl_PartOk {WI : World → Prop} (hs : Stable WI) (cs) (hT : TOK (EE cs) WI) (h1 : (EE cs).T 78 = some C_impl_in) : PureOK Tryz.prog WI 147 C_impl_PartOk := by
  refine pure1 (E := EE cs) hT hs (by rw [st_impl_PartOk]; rfl) fun p hp => out_wp (n := 0) (st_impl_PartOk cs) ?_
  cases d : inR p.fCol 0 9
  · simp only [go_sem, kSt_ptr, Nat.reduceBEq, Nat.reduceAdd, Nat.reduceEqDiff, Nat.reduceLeDiff, Nat.reduceSub, reduceIte, Int.reduceBEq, Int.reduceEq, Int.reduceLT, Int.reduceLE, Int.reduceGT, Int.reduceGE, Int.reduceNe, Int.reduceBNe, s_impl_PartOk, TPart.row, h1, C_impl_in_eq, d, partOk]
  · simp only [go_sem, kSt_ptr, Nat.reduceBEq, Nat.reduceAdd, Nat.reduceEqDiff, Nat.reduceLeDiff, Nat.reduceSub, reduceIte, Int.reduceBEq, Int.reduceEq, Int.reduceLT, Int.reduceLE, Int.reduceGT, Int.reduceGE, Int.reduceNe, Int.reduceBNe, s_impl_PartOk, TPart.row, h1, C_impl_in_eq, d, partOk]
theorem planOk_impl : ∀ (l pre : List TPart), pre.length ≤ 6 → allP (fun pre p => decide ((pre.length : Int) < 6) && partOk p) pre l = (l.all partOk && decide (((pre ++ l).length : Int) ≤ 6))
  | [], pre, h => by simp [allP]; omega
  | p :: l, pre, h => by
    simp only [allP]
    by_cases h6 : pre.length < 6
    · have hd : decide ((pre.length : Int) < 6) = true := decide_eq_true (by omega)
      rw [hd, Bool.true_and, planOk_impl l (pre ++ [p]) (by simp; omega), List.all_cons, Bool.and_assoc, List.append_assoc]
      rfl
    · have hd : decide ((pre.length : Int) < 6) = false := decide_eq_false (by omega)
      have hd2 : decide (((pre ++ p :: l).length : Int) ≤ 6) = false := decide_eq_false (by simp; omega)
      rw [hd, hd2, Bool.false_and, Bool.false_and, Bool.and_false]
noncomputable def C_impl_PlanOk := c1 (sliceT tPart) (fun (l : List (TPart)) => l.length ≤ 1048576) (.bool) fun (l : List (TPart)) => planOk l
theorem C_impl_PlanOk_eq (l : List (TPart)) (h : l.length ≤ 1048576) : C_impl_PlanOk [.imm (l.map TPart.row)] = some (.bool ((planOk l))) := c1_eq (sliceT tPart) h
theorem ok_impl_PlanOk {WI : World → Prop} (hs : Stable WI) (cs) (hT : TOK (EE cs) WI) (h1 : (EE cs).T 147 = some C_impl_PartOk) : PureOK Tryz.prog WI 80 C_impl_PlanOk := by
  refine pure1 (E := EE cs) hT hs (by rw [st_impl_PlanOk]; rfl) fun l hp => out_wp (n := 0) (st_impl_PlanOk cs) ?_
  simp only [go_sem, kSt_ptr, Nat.reduceBEq, Nat.reduceAdd, Nat.reduceEqDiff, Nat.reduceLeDiff, Nat.reduceSub, reduceIte, Int.reduceBEq, Int.reduceEq, Int.reduceLT, Int.reduceLE, Int.reduceGT, Int.reduceGE, Int.reduceNe, Int.reduceBNe, s_impl_PlanOk]
  refine (wl_all (l := l) (fun pre p => decide ((pre.length : Int) < 6) && partOk p) (fun pre e h => e 5 = .imm (l.map TPart.row) ∧ e 7 = .int .i64 pre.length ∧ e 6 = .int .i64 (l).length) (.exit 0) (fun e h => e 5 = .imm (l.map TPart.row)) (fun e h => e 2 = .bool false) (by omega) ?_ ?_ ?_ (by simp) l [] _ _ rfl ?_).mono ?_
  · rintro pre p rest e h a hp ⟨q0, ix, nx⟩
    have hc : C_impl_PartOk [.agg [.int .i64 p.fCol, .int .i64 p.fType, .bool p.fNull, .bool p.fDesc]] = some (.bool (partOk p)) := C_impl_PartOk_eq p trivial
    simp only [Bool.and_eq_true, decide_eq_true_eq] at hp
    have d1 : decide ((6 : Int) ≤ (pre.length : Int)) = false := decide_eq_false (by omega)
    have d2 := hp.2
    all_goals simp only [go_sem, kSt_ptr, Nat.reduceBEq, Nat.reduceAdd, Nat.reduceEqDiff, Nat.reduceLeDiff, Nat.reduceSub, reduceIte, Int.reduceBEq, Int.reduceEq, Int.reduceLT, Int.reduceLE, Int.reduceGT, Int.reduceGE, Int.reduceNe, Int.reduceBNe, s_impl_PlanOk_L0, q0, ix, nx, a.dl, a.ia (row := TPart.row) (sz := 4) rfl, hp, a.hw, TPart.row, h1, hc, d1, d2]
  · rintro pre p rest e h a hp ⟨q0, ix, nx⟩
    have hc : C_impl_PartOk [.agg [.int .i64 p.fCol, .int .i64 p.fType, .bool p.fNull, .bool p.fDesc]] = some (.bool (partOk p)) := C_impl_PartOk_eq p trivial
    cases d1 : decide ((6 : Int) ≤ (pre.length : Int)) <;> cases d2 : partOk p
    all_goals first | (have := of_decide_eq_false d1; have h6 : decide ((pre.length : Int) < 6) = true := decide_eq_true (by omega); rw [h6, d2] at hp; cases hp; done) | skip
    all_goals simp only [go_sem, kSt_ptr, Nat.reduceBEq, Nat.reduceAdd, Nat.reduceEqDiff, Nat.reduceLeDiff, Nat.reduceSub, reduceIte, Int.reduceBEq, Int.reduceEq, Int.reduceLT, Int.reduceLE, Int.reduceGT, Int.reduceGE, Int.reduceNe, Int.reduceBNe, s_impl_PlanOk_L0, q0, ix, nx, a.dl, a.ia (row := TPart.row) (sz := 4) rfl, hp, a.hw, TPart.row, h1, hc, d1, d2]
  · rintro e h ⟨q0, ix, nx⟩
    simp only [go_sem, kSt_ptr, Nat.reduceBEq, Nat.reduceAdd, Nat.reduceEqDiff, Nat.reduceLeDiff, Nat.reduceSub, reduceIte, Int.reduceBEq, Int.reduceEq, Int.reduceLT, Int.reduceLE, Int.reduceGT, Int.reduceGE, Int.reduceNe, Int.reduceBNe, s_impl_PlanOk_L0, q0, ix, nx]
  · simp only [go_sem, kSt_ptr, Nat.reduceBEq, Nat.reduceAdd, Nat.reduceEqDiff, Nat.reduceLeDiff, Nat.reduceSub, reduceIte, Int.reduceBEq, Int.reduceEq, Int.reduceLT, Int.reduceLE, Int.reduceGT, Int.reduceGE, Int.reduceNe, Int.reduceBNe, and_self]
  · rintro x e h (⟨hp, rfl, j0⟩ | ⟨hp, rfl, j⟩)
    · have hq := planOk_impl l [] (by decide)
      rw [List.nil_append] at hq
      have hz : planOk l = true := by unfold planOk; rw [← hq]; exact hp
      simp only [go_sem, kSt_ptr, Nat.reduceBEq, Nat.reduceAdd, Nat.reduceEqDiff, Nat.reduceLeDiff, Nat.reduceSub, reduceIte, Int.reduceBEq, Int.reduceEq, Int.reduceLT, Int.reduceLE, Int.reduceGT, Int.reduceGE, Int.reduceNe, Int.reduceBNe, hz]
    · have hq := planOk_impl l [] (by decide)
      rw [List.nil_append] at hq
      have hz : planOk l = false := by unfold planOk; rw [← hq]; exact hp
      simp only [go_sem, kSt_ptr, Nat.reduceBEq, Nat.reduceAdd, Nat.reduceEqDiff, Nat.reduceLeDiff, Nat.reduceSub, reduceIte, Int.reduceBEq, Int.reduceEq, Int.reduceLT, Int.reduceLE, Int.reduceGT, Int.reduceGE, Int.reduceNe, Int.reduceBNe, s_impl_PlanOk, j, hz]
end Go.Proofs.YtienjjjhjeigmaaGreatDoor.Is
/- What the functions that FnExactInScan calls answer: part 13. -/
namespace Go.Proofs.YtienjjjhjeigmaaGreatDoor.Is
open Go Go.RowKit Go.Ev
set_option linter.unusedSimpArgs false
set_option linter.unusedVariables false
set_option maxHeartbeats 1600000
noncomputable def C_impl_RowOk := c2 (sliceT tPart) (sliceT tVal) (fun (l : List (TPart)) (r : List (TVal)) => l.length ≤ 1048576 ∧ r.length ≤ 1048576) (.bool) fun (l : List (TPart)) (r : List (TVal)) => rowOk l r
theorem C_impl_RowOk_eq (l : List (TPart)) (r : List (TVal)) (h : l.length ≤ 1048576 ∧ r.length ≤ 1048576) : C_impl_RowOk [.imm (l.map TPart.row), .imm (r.map TVal.row)] = some (.bool ((rowOk l r))) := c2_eq (sliceT tPart) (sliceT tVal) h
theorem ok_impl_RowOk {WI : World → Prop} (hs : Stable WI) (cs) (hT : TOK (EE cs) WI) (h1 : (EE cs).T 80 = some C_impl_PlanOk) (h2 : (EE cs).T 79 = some C_impl_FitsAll) : PureOK Tryz.prog WI 36 C_impl_RowOk := by
  refine pure2 (E := EE cs) hT hs (by rw [st_impl_RowOk]; rfl) fun l r hp => out_wp (n := 0) (st_impl_RowOk cs) ?_
  have c1 := C_impl_PlanOk_eq l hp.1
  have c2 := C_impl_FitsAll_eq l r hp
  cases d1 : planOk l
  · simp only [go_sem, kSt_ptr, Nat.reduceBEq, Nat.reduceAdd, Nat.reduceEqDiff, Nat.reduceLeDiff, Nat.reduceSub, reduceIte, Int.reduceBEq, Int.reduceEq, Int.reduceLT, Int.reduceLE, Int.reduceGT, Int.reduceGE, Int.reduceNe, Int.reduceBNe, s_impl_RowOk, h1, c1, d1, rowOk]
  cases d2 : ((r.length : Int) == (l.length : Int))
  · simp only [go_sem, kSt_ptr, Nat.reduceBEq, Nat.reduceAdd, Nat.reduceEqDiff, Nat.reduceLeDiff, Nat.reduceSub, reduceIte, Int.reduceBEq, Int.reduceEq, Int.reduceLT, Int.reduceLE, Int.reduceGT, Int.reduceGE, Int.reduceNe, Int.reduceBNe, s_impl_RowOk, h1, c1, d1, d2, rowOk]
  · simp only [go_sem, kSt_ptr, Nat.reduceBEq, Nat.reduceAdd, Nat.reduceEqDiff, Nat.reduceLeDiff, Nat.reduceSub, reduceIte, Int.reduceBEq, Int.reduceEq, Int.reduceLT, Int.reduceLE, Int.reduceGT, Int.reduceGE, Int.reduceNe, Int.reduceBNe, s_impl_RowOk, h1, c1, d1, d2, h2, c2, rowOk]
noncomputable def C_impl_Pick := c2 (sliceT tPart) (sliceT tVal) (fun (l : List (TPart)) (row : List (TVal)) => l.length ≤ 1048576 ∧ row.length ≤ 1048576) (fun x => .app 3 (x.map TVal.row)) fun (l : List (TPart)) (row : List (TVal)) => pick l row
theorem C_impl_Pick_eq (l : List (TPart)) (row : List (TVal)) (h : l.length ≤ 1048576 ∧ row.length ≤ 1048576) : C_impl_Pick [.imm (l.map TPart.row), .imm (row.map TVal.row)] = some (.app 3 ((pick l row).map TVal.row)) := c2_eq (sliceT tPart) (sliceT tVal) h
theorem ok_impl_Pick {WI : World → Prop} (hs : Stable WI) (cs) (hT : TOK (EE cs) WI) (h1 : (EE cs).T 78 = some C_impl_in) : FreshOK Tryz.prog WI 39 C_impl_Pick := by
  refine pure2F (E := EE cs) hT hs (by rw [st_impl_Pick]; rfl) fun l row hp => outF_wp (sz := 3) (st_impl_Pick cs) ?_
  obtain ⟨n1, n2⟩ := hp
  have hw1 : IntKind.wrap .i64 ((row.length : Int) - 1) = (row.length : Int) - 1 := wrapId (by omega) (by omega)
  simp only [go_sem, kSt_ptr, Nat.reduceBEq, Nat.reduceAdd, Nat.reduceEqDiff, Nat.reduceLeDiff, Nat.reduceSub, reduceIte, Int.reduceBEq, Int.reduceEq, Int.reduceLT, Int.reduceLE, Int.reduceGT, Int.reduceGE, Int.reduceNe, Int.reduceBNe, s_impl_Pick]
  refine (wl_for (l := l) (fun pre e h => e 9 = .imm (l.map TPart.row) ∧ e 1 = .imm (row.map TVal.row) ∧ grows tVal (pick pre row) (e 5) h ∧ e 11 = .int .i64 pre.length ∧ e 10 = .int .i64 (l).length) (.exit 0) (fun e h => grows tVal (pick l row) (e 5) h) (by omega) ?_ ?_ (by simp) l [] _ _ rfl ?_).mono ?_
  · rintro pre p rest e h a ⟨q0, q1, q2, ix, nx⟩
    have hlen : (pick pre row).length ≤ 1048576 := by rw [pick_len]; have := a.lt; omega
    have hne : ¬ h.nx = h.nx + 1 := by omega
    cases hin : inR p.fCol 0 ((row.length : Int) - 1)
    · have hsn : pick (pre ++ [p]) row = pick pre row ++ [⟨0, 0, []⟩] := by rw [pick_snoc, pickV_out hin]
      simp only [go_sem, kSt_ptr, Nat.reduceBEq, Nat.reduceAdd, Nat.reduceEqDiff, Nat.reduceLeDiff, Nat.reduceSub, reduceIte, Int.reduceBEq, Int.reduceEq, Int.reduceLT, Int.reduceLE, Int.reduceGT, Int.reduceGE, Int.reduceNe, Int.reduceBNe, s_impl_Pick_L0, q0, q1, ix, nx, a.dl, a.ia (row := TPart.row) (sz := 4) rfl, a.hw, TPart.row, hne, h1, C_impl_in_eq, hw1, hin, valFill0, valFillR, valFrzR]
      refine hP_grow [(⟨0, 0, []⟩ : TVal)] rfl (q2.mono (by simp <;> omega) (fun r hr => by simp <;> omega)) rfl (by simp only [List.length_cons, List.length_nil]; unfold room; omega) ?_
      intro v' h' g1 g2 g3 _
      simp only [go_sem, kSt_ptr, Nat.reduceBEq, Nat.reduceAdd, Nat.reduceEqDiff, Nat.reduceLeDiff, Nat.reduceSub, reduceIte, Int.reduceBEq, Int.reduceEq, Int.reduceLT, Int.reduceLE, Int.reduceGT, Int.reduceGE, Int.reduceNe, Int.reduceBNe, q0, q1, ix, nx, a.hw, hsn, g1]
    obtain ⟨z1, z2⟩ := inR_nat hin
    obtain ⟨w, hw⟩ : ∃ w, row[p.fCol.toNat]? = some w := ⟨_, List.getElem?_eq_getElem z2⟩
    have hsn : pick (pre ++ [p]) row = pick pre row ++ [w] := by rw [pick_snoc, pickV_in hin hw]
    simp only [go_sem, kSt_ptr, Nat.reduceBEq, Nat.reduceAdd, Nat.reduceEqDiff, Nat.reduceLeDiff, Nat.reduceSub, reduceIte, Int.reduceBEq, Int.reduceEq, Int.reduceLT, Int.reduceLE, Int.reduceGT, Int.reduceGE, Int.reduceNe, Int.reduceBNe, s_impl_Pick_L0, q0, q1, q2, ix, nx, a.dl, a.ia (row := TPart.row) (sz := 4) rfl, a.hw, TPart.row, TVal.row, hne, h1, C_impl_in_eq, hw1, hin, kIa_nth (row := TVal.row) (sz := 3) z1 hw rfl, valFill0, valFillR, valFrzR]
    refine hP_grow [w] rfl (q2.mono (by simp <;> omega) (fun r hr => by simp <;> omega)) rfl (by simp only [List.length_cons, List.length_nil]; unfold room; omega) ?_
    intro v' h' g1 g2 g3 _
    simp only [go_sem, kSt_ptr, Nat.reduceBEq, Nat.reduceAdd, Nat.reduceEqDiff, Nat.reduceLeDiff, Nat.reduceSub, reduceIte, Int.reduceBEq, Int.reduceEq, Int.reduceLT, Int.reduceLE, Int.reduceGT, Int.reduceGE, Int.reduceNe, Int.reduceBNe, q0, q1, ix, nx, a.hw, hsn, g1]
  · rintro e h ⟨q0, q1, q2, ix, nx⟩
    simp only [go_sem, kSt_ptr, Nat.reduceBEq, Nat.reduceAdd, Nat.reduceEqDiff, Nat.reduceLeDiff, Nat.reduceSub, reduceIte, Int.reduceBEq, Int.reduceEq, Int.reduceLT, Int.reduceLE, Int.reduceGT, Int.reduceGE, Int.reduceNe, Int.reduceBNe, s_impl_Pick_L0, q0, q1, q2, ix, nx]
  · exact ⟨rfl, rfl, grows_nil tVal _, rfl, rfl⟩
  · rintro x e h ⟨rfl, j⟩
    simp only [go_sem, kSt_ptr, Nat.reduceBEq, Nat.reduceAdd, Nat.reduceEqDiff, Nat.reduceLeDiff, Nat.reduceSub, reduceIte, Int.reduceBEq, Int.reduceEq, Int.reduceLT, Int.reduceLE, Int.reduceGT, Int.reduceGE, Int.reduceNe, Int.reduceBNe]
    exact frR_grows j rfl
noncomputable def C_impl_LessVal := c2 tVal tVal (fun (a : TVal) (b : TVal) => True) (.bool) fun (a : TVal) (b : TVal) => lessV a b
theorem C_impl_LessVal_eq (a : TVal) (b : TVal) (h : True) : C_impl_LessVal [.agg [.int .i64 a.fK, .int .i64 a.fN, .str a.fS], .agg [.int .i64 b.fK, .int .i64 b.fN, .str b.fS]] = some (.bool ((lessV a b))) := c2_eq tVal tVal h
theorem ok_impl_LessVal {WI : World → Prop} (hs : Stable WI) (cs) (hT : TOK (EE cs) WI) : PureOK Tryz.prog WI 152 C_impl_LessVal := by
  refine pure2 (E := EE cs) hT hs (by rw [st_impl_LessVal]; rfl) fun a b hp => out_wp (n := 0) (st_impl_LessVal cs) ?_
  cases d1 : (a.fK == b.fK)
  · simp only [go_sem, kSt_ptr, Nat.reduceBEq, Nat.reduceAdd, Nat.reduceEqDiff, Nat.reduceLeDiff, Nat.reduceSub, reduceIte, Int.reduceBEq, Int.reduceEq, Int.reduceLT, Int.reduceLE, Int.reduceGT, Int.reduceGE, Int.reduceNe, Int.reduceBNe, s_impl_LessVal, TVal.row, bne, d1, lessV]
  cases d2 : (a.fN == b.fN)
  · simp only [go_sem, kSt_ptr, Nat.reduceBEq, Nat.reduceAdd, Nat.reduceEqDiff, Nat.reduceLeDiff, Nat.reduceSub, reduceIte, Int.reduceBEq, Int.reduceEq, Int.reduceLT, Int.reduceLE, Int.reduceGT, Int.reduceGE, Int.reduceNe, Int.reduceBNe, s_impl_LessVal, TVal.row, bne, d1, d2, lessV]
  · simp only [go_sem, kSt_ptr, Nat.reduceBEq, Nat.reduceAdd, Nat.reduceEqDiff, Nat.reduceLeDiff, Nat.reduceSub, reduceIte, Int.reduceBEq, Int.reduceEq, Int.reduceLT, Int.reduceLE, Int.reduceGT, Int.reduceGE, Int.reduceNe, Int.reduceBNe, s_impl_LessVal, TVal.row, bne, d1, d2, lessV]
noncomputable def C_impl_LessPart := c3 tPart tVal tVal (fun (p : TPart) (a : TVal) (b : TVal) => True) (.bool) fun (p : TPart) (a : TVal) (b : TVal) => lessP p a b
theorem C_impl_LessPart_eq (p : TPart) (a : TVal) (b : TVal) (h : True) : C_impl_LessPart [.agg [.int .i64 p.fCol, .int .i64 p.fType, .bool p.fNull, .bool p.fDesc], .agg [.int .i64 a.fK, .int .i64 a.fN, .str a.fS], .agg [.int .i64 b.fK, .int .i64 b.fN, .str b.fS]] = some (.bool ((lessP p a b))) := c3_eq tPart tVal tVal h
theorem ok_impl_LessPart {WI : World → Prop} (hs : Stable WI) (cs) (hT : TOK (EE cs) WI) (h1 : (EE cs).T 152 = some C_impl_LessVal) : PureOK Tryz.prog WI 84 C_impl_LessPart := by
  refine pure3 (E := EE cs) hT hs (by rw [st_impl_LessPart]; rfl) fun p a b hp => out_wp (n := 0) (st_impl_LessPart cs) ?_
  have c1 : ∀ a b : TVal, C_impl_LessVal [.agg [.int .i64 a.fK, .int .i64 a.fN, .str a.fS], .agg [.int .i64 b.fK, .int .i64 b.fN, .str b.fS]] = some (.bool (lessV a b)) := fun a b => C_impl_LessVal_eq a b trivial
  cases d : p.fDesc
  · simp only [go_sem, kSt_ptr, Nat.reduceBEq, Nat.reduceAdd, Nat.reduceEqDiff, Nat.reduceLeDiff, Nat.reduceSub, reduceIte, Int.reduceBEq, Int.reduceEq, Int.reduceLT, Int.reduceLE, Int.reduceGT, Int.reduceGE, Int.reduceNe, Int.reduceBNe, s_impl_LessPart, TVal.row, TPart.row, d, h1, c1, lessP]
  · simp only [go_sem, kSt_ptr, Nat.reduceBEq, Nat.reduceAdd, Nat.reduceEqDiff, Nat.reduceLeDiff, Nat.reduceSub, reduceIte, Int.reduceBEq, Int.reduceEq, Int.reduceLT, Int.reduceLE, Int.reduceGT, Int.reduceGE, Int.reduceNe, Int.reduceBNe, s_impl_LessPart, TVal.row, TPart.row, d, h1, c1, lessP]
theorem L_impl_LessKey (cs) (h1 : (EE cs).T 84 = some C_impl_LessPart) (l : List TPart) (s t : List TVal) (n0 : l.length ≤ 1048576) (n1 : s.length ≤ 1048576) (n2 : t.length ≤ 1048576) : ∀ (rs ps rt pt : List TVal) (e : Ps) (h : Hp), s = ps ++ rs → t = pt ++ rt → ps.length = pt.length → e 0 = .imm (l.map TPart.row) → e 1 = .imm (s.map TVal.row) → e 2 = .imm (t.map TVal.row) → e 7 = .int .i64 ps.length →
    WL (EE cs) s_impl_LessKey_L0 e h fun x e' _ => (x = .exit 0 ∧ e' 1 = .imm (s.map TVal.row) ∧ e' 2 = .imm (t.map TVal.row) ∧ lessK l ps.length rs rt = decide ((s.length : Int) < (t.length : Int))) ∨ (x = .ret ∧ e' 6 = .bool (lessK l ps.length rs rt))
  | [], ps, [], pt, e, h, hs, ht, hp, k0, k1, k2, k7 => by
    have d1 : decide ((ps.length : Int) < (s.length : Int)) = false := decide_eq_false (by rw [hs]; simp)
    have d3 : decide ((s.length : Int) < (t.length : Int)) = false := decide_eq_false (by rw [hs, ht]; simp; omega)
    refine .step (wp_sound _ _ _ _ ?_)
    simp only [go_sem, kSt_ptr, Nat.reduceBEq, Nat.reduceAdd, Nat.reduceEqDiff, Nat.reduceLeDiff, Nat.reduceSub, reduceIte, Int.reduceBEq, Int.reduceEq, Int.reduceLT, Int.reduceLE, Int.reduceGT, Int.reduceGE, Int.reduceNe, Int.reduceBNe, s_impl_LessKey_L0, k0, k1, k2, k7, d1, d3, lessK, reduceCtorEq, false_and, true_or]
  | [], ps, w :: rt, pt, e, h, hs, ht, hp, k0, k1, k2, k7 => by
    have d1 : decide ((ps.length : Int) < (s.length : Int)) = false := decide_eq_false (by rw [hs]; simp)
    have d3 : decide ((s.length : Int) < (t.length : Int)) = true := decide_eq_true (by rw [hs, ht]; simp; omega)
    refine .step (wp_sound _ _ _ _ ?_)
    simp only [go_sem, kSt_ptr, Nat.reduceBEq, Nat.reduceAdd, Nat.reduceEqDiff, Nat.reduceLeDiff, Nat.reduceSub, reduceIte, Int.reduceBEq, Int.reduceEq, Int.reduceLT, Int.reduceLE, Int.reduceGT, Int.reduceGE, Int.reduceNe, Int.reduceBNe, s_impl_LessKey_L0, k0, k1, k2, k7, d1, d3, lessK, reduceCtorEq, false_and, true_or]
  | v :: rs, ps, [], pt, e, h, hs, ht, hp, k0, k1, k2, k7 => by
    have d1 : decide ((ps.length : Int) < (s.length : Int)) = true := decide_eq_true (by rw [hs]; simp; omega)
    have d2 : decide ((ps.length : Int) < (t.length : Int)) = false := decide_eq_false (by rw [ht]; simp; omega)
    have d3 : decide ((s.length : Int) < (t.length : Int)) = false := decide_eq_false (by rw [hs, ht]; simp; omega)
    refine .step (wp_sound _ _ _ _ ?_)
    simp only [go_sem, kSt_ptr, Nat.reduceBEq, Nat.reduceAdd, Nat.reduceEqDiff, Nat.reduceLeDiff, Nat.reduceSub, reduceIte, Int.reduceBEq, Int.reduceEq, Int.reduceLT, Int.reduceLE, Int.reduceGT, Int.reduceGE, Int.reduceNe, Int.reduceBNe, s_impl_LessKey_L0, k0, k1, k2, k7, d1, d2, d3, lessK, reduceCtorEq, false_and, true_or]
  | v :: rs, ps, w :: rt, pt, e, h, hs, ht, hp, k0, k1, k2, k7 => by
    have a1 := at_of (by omega) hs
    have a2 := at_of (by omega) ht
    have d1 := a1.dl
    have d2 : decide ((ps.length : Int) < (t.length : Int)) = true := by rw [hp]; exact a2.dl
    have i1 := fun h => a1.ia (row := TVal.row) (sz := 3) rfl h
    have i2 : ∀ h, kIa 3 (.imm (t.map TVal.row)) (.int .i64 ps.length) h = some (.cptr w.row, h) := fun h => by rw [hp]; exact a2.ia (row := TVal.row) (sz := 3) rfl h
    cases hv : sameV v w
    · have hl : lessK l ps.length (v :: rs) (w :: rt) = lessAt l ps.length v w := by simp only [lessK, hv, Bool.false_eq_true, if_false]
      rw [hl]
      cases hg : l[ps.length]? with
      | none =>
        have d3 : decide ((ps.length : Int) < (l.length : Int)) = false := decide_eq_false (by have := List.getElem?_eq_none_iff.1 hg; omega)
        refine .step (wp_sound _ _ _ _ ?_)
        simp only [go_sem, kSt_ptr, Nat.reduceBEq, Nat.reduceAdd, Nat.reduceEqDiff, Nat.reduceLeDiff, Nat.reduceSub, reduceIte, Int.reduceBEq, Int.reduceEq, Int.reduceLT, Int.reduceLE, Int.reduceGT, Int.reduceGE, Int.reduceNe, Int.reduceBNe, s_impl_LessKey_L0, k0, k1, k2, k7, d1, d2, i1, i2, TVal.row, cmpNeq, hv, d3, lessAt, hg, reduceCtorEq, false_and, false_or]
      | some p =>
        have hlt := (List.getElem?_eq_some_iff.1 hg).1
        have d3 : decide ((ps.length : Int) < (l.length : Int)) = true := decide_eq_true (by omega)
        have hg' : l[((ps.length : Int)).toNat]? = some p := by simpa using hg
        have hc : C_impl_LessPart [.agg [.int .i64 p.fCol, .int .i64 p.fType, .bool p.fNull, .bool p.fDesc], .agg [.int .i64 v.fK, .int .i64 v.fN, .str v.fS], .agg [.int .i64 w.fK, .int .i64 w.fN, .str w.fS]] = some (.bool (lessP p v w)) := C_impl_LessPart_eq p v w trivial
        refine .step (wp_sound _ _ _ _ ?_)
        simp only [go_sem, kSt_ptr, Nat.reduceBEq, Nat.reduceAdd, Nat.reduceEqDiff, Nat.reduceLeDiff, Nat.reduceSub, reduceIte, Int.reduceBEq, Int.reduceEq, Int.reduceLT, Int.reduceLE, Int.reduceGT, Int.reduceGE, Int.reduceNe, Int.reduceBNe, s_impl_LessKey_L0, k0, k1, k2, k7, d1, d2, i1, i2, TVal.row, TPart.row, cmpNeq, hv, d3, kIa_nth (row := TPart.row) (sz := 4) (by omega) hg' rfl, h1, hc, lessAt, hg, reduceCtorEq, false_and, false_or]
    · have hl : lessK l ps.length (v :: rs) (w :: rt) = lessK l (ps ++ [v]).length rs rt := by simp only [lessK, hv, if_true, List.length_append, List.length_cons, List.length_nil]
      rw [hl]
      refine .step (.mono (wp_sound _ _ _ (fun x e1 _ => x = .norm ∧ e1 0 = .imm (l.map TPart.row) ∧ e1 1 = .imm (s.map TVal.row) ∧ e1 2 = .imm (t.map TVal.row) ∧ e1 7 = .int .i64 (ps ++ [v]).length) ?_) ?_)
      · simp only [go_sem, kSt_ptr, Nat.reduceBEq, Nat.reduceAdd, Nat.reduceEqDiff, Nat.reduceLeDiff, Nat.reduceSub, reduceIte, Int.reduceBEq, Int.reduceEq, Int.reduceLT, Int.reduceLE, Int.reduceGT, Int.reduceGE, Int.reduceNe, Int.reduceBNe, s_impl_LessKey_L0, k0, k1, k2, k7, d1, d2, i1, i2, TVal.row, cmpNeq, hv, a1.hw]
      · rintro _ e1 h1' ⟨rfl, q0, q1, q2, q7⟩
        exact L_impl_LessKey cs h1 l s t n0 n1 n2 rs (ps ++ [v]) rt (pt ++ [w]) e1 h1' (by rw [hs]; simp) (by rw [ht]; simp) (by simp [hp]) q0 q1 q2 q7
noncomputable def C_impl_LessKey := c3 (sliceT tPart) (sliceT tVal) (sliceT tVal) (fun (l : List (TPart)) (s : List (TVal)) (t : List (TVal)) => l.length ≤ 1048576 ∧ s.length ≤ 1048576 ∧ t.length ≤ 1048576) (.bool) fun (l : List (TPart)) (s : List (TVal)) (t : List (TVal)) => lessK l 0 s t
theorem C_impl_LessKey_eq (l : List (TPart)) (s : List (TVal)) (t : List (TVal)) (h : l.length ≤ 1048576 ∧ s.length ≤ 1048576 ∧ t.length ≤ 1048576) : C_impl_LessKey [.imm (l.map TPart.row), .imm (s.map TVal.row), .imm (t.map TVal.row)] = some (.bool ((lessK l 0 s t))) := c3_eq (sliceT tPart) (sliceT tVal) (sliceT tVal) h
theorem ok_impl_LessKey {WI : World → Prop} (hs : Stable WI) (cs) (hT : TOK (EE cs) WI) (h1 : (EE cs).T 84 = some C_impl_LessPart) : PureOK Tryz.prog WI 40 C_impl_LessKey := by
  refine pure3 (E := EE cs) hT hs (by rw [st_impl_LessKey]; rfl) fun l s t hp => out_wp (n := 0) (st_impl_LessKey cs) ?_
  obtain ⟨n0, n1, n2⟩ := hp
  simp only [go_sem, kSt_ptr, Nat.reduceBEq, Nat.reduceAdd, Nat.reduceEqDiff, Nat.reduceLeDiff, Nat.reduceSub, reduceIte, Int.reduceBEq, Int.reduceEq, Int.reduceLT, Int.reduceLE, Int.reduceGT, Int.reduceGE, Int.reduceNe, Int.reduceBNe, s_impl_LessKey]
  refine (L_impl_LessKey cs h1 l s t n0 n1 n2 s [] t [] _ _ rfl rfl rfl (by simp only [go_sem, kSt_ptr, Nat.reduceBEq, Nat.reduceAdd, Nat.reduceEqDiff, Nat.reduceLeDiff, Nat.reduceSub, reduceIte, Int.reduceBEq, Int.reduceEq, Int.reduceLT, Int.reduceLE, Int.reduceGT, Int.reduceGE, Int.reduceNe, Int.reduceBNe]) (by simp only [go_sem, kSt_ptr, Nat.reduceBEq, Nat.reduceAdd, Nat.reduceEqDiff, Nat.reduceLeDiff, Nat.reduceSub, reduceIte, Int.reduceBEq, Int.reduceEq, Int.reduceLT, Int.reduceLE, Int.reduceGT, Int.reduceGE, Int.reduceNe, Int.reduceBNe]) (by simp only [go_sem, kSt_ptr, Nat.reduceBEq, Nat.reduceAdd, Nat.reduceEqDiff, Nat.reduceLeDiff, Nat.reduceSub, reduceIte, Int.reduceBEq, Int.reduceEq, Int.reduceLT, Int.reduceLE, Int.reduceGT, Int.reduceGE, Int.reduceNe, Int.reduceBNe]) (by simp only [go_sem, kSt_ptr, Nat.reduceBEq, Nat.reduceAdd, Nat.reduceEqDiff, Nat.reduceLeDiff, Nat.reduceSub, reduceIte, Int.reduceBEq, Int.reduceEq, Int.reduceLT, Int.reduceLE, Int.reduceGT, Int.reduceGE, Int.reduceNe, Int.reduceBNe])).mono ?_
  rintro x e' h' (⟨rfl, j1, j2, j3⟩ | ⟨rfl, j⟩)
  · simp only [List.length_nil] at j3
    simp only [go_sem, kSt_ptr, Nat.reduceBEq, Nat.reduceAdd, Nat.reduceEqDiff, Nat.reduceLeDiff, Nat.reduceSub, reduceIte, Int.reduceBEq, Int.reduceEq, Int.reduceLT, Int.reduceLE, Int.reduceGT, Int.reduceGE, Int.reduceNe, Int.reduceBNe, j1, j2, j3]
  · simp only [List.length_nil] at j
    simp only [go_sem, kSt_ptr, Nat.reduceBEq, Nat.reduceAdd, Nat.reduceEqDiff, Nat.reduceLeDiff, Nat.reduceSub, reduceIte, Int.reduceBEq, Int.reduceEq, Int.reduceLT, Int.reduceLE, Int.reduceGT, Int.reduceGE, Int.reduceNe, Int.reduceBNe, s_impl_LessKey, j]
noncomputable def C_impl_SameRow := c2 (sliceT tVal) (sliceT tVal) (fun (u : List (TVal)) (t : List (TVal)) => u.length ≤ 1048576 ∧ t.length ≤ 1048576) (.bool) fun (u : List (TVal)) (t : List (TVal)) => sameR u t
theorem C_impl_SameRow_eq (u : List (TVal)) (t : List (TVal)) (h : u.length ≤ 1048576 ∧ t.length ≤ 1048576) : C_impl_SameRow [.imm (u.map TVal.row), .imm (t.map TVal.row)] = some (.bool ((sameR u t))) := c2_eq (sliceT tVal) (sliceT tVal) h
theorem ok_impl_SameRow {WI : World → Prop} (hs : Stable WI) (cs) (hT : TOK (EE cs) WI) : PureOK Tryz.prog WI 41 C_impl_SameRow := by
  refine pure2 (E := EE cs) hT hs (by rw [st_impl_SameRow]; rfl) fun u t hp => out_wp (n := 0) (st_impl_SameRow cs) ?_
  obtain ⟨n1, n2⟩ := hp
  by_cases hlen : (u.length : Int) = (t.length : Int)
  · have hq := sameR_all u [] t [] (by omega) rfl
    rw [List.nil_append] at hq
    simp only [go_sem, kSt_ptr, Nat.reduceBEq, Nat.reduceAdd, Nat.reduceEqDiff, Nat.reduceLeDiff, Nat.reduceSub, reduceIte, Int.reduceBEq, Int.reduceEq, Int.reduceLT, Int.reduceLE, Int.reduceGT, Int.reduceGE, Int.reduceNe, Int.reduceBNe, s_impl_SameRow, hlen]
    refine (wl_all (l := u) (fun pre v => sameAt t pre v) (fun pre e h => e 0 = .imm (u.map TVal.row) ∧ e 1 = .imm (t.map TVal.row) ∧ e 13 = .int .i64 pre.length ∧ e 12 = .int .i64 (u).length) (.exit 0) (fun e h => e 0 = .imm (u.map TVal.row) ∧ e 1 = .imm (t.map TVal.row)) (fun e h => e 4 = .bool false) (by omega) ?_ ?_ ?_ (by simp) u [] _ _ rfl ?_).mono ?_
    · rintro pre v rest e h a hp ⟨q0, q1, ix, nx⟩
      obtain ⟨w, hw⟩ : ∃ w, t[pre.length]? = some w := ⟨_, List.getElem?_eq_getElem (by have := a.lt; omega)⟩
      have hw' : t[((pre.length : Int)).toNat]? = some w := by simpa using hw
      rw [sameAt_some hw] at hp
      simp only [go_sem, kSt_ptr, Nat.reduceBEq, Nat.reduceAdd, Nat.reduceEqDiff, Nat.reduceLeDiff, Nat.reduceSub, reduceIte, Int.reduceBEq, Int.reduceEq, Int.reduceLT, Int.reduceLE, Int.reduceGT, Int.reduceGE, Int.reduceNe, Int.reduceBNe, s_impl_SameRow_L0, q0, q1, ix, nx, a.dl, a.ia (row := TVal.row) (sz := 3) rfl, hp, a.hw, TVal.row, kIa_nth (row := TVal.row) (sz := 3) (by omega) hw' rfl, cmpNeq]
    · rintro pre v rest e h a hp ⟨q0, q1, ix, nx⟩
      obtain ⟨w, hw⟩ : ∃ w, t[pre.length]? = some w := ⟨_, List.getElem?_eq_getElem (by have := a.lt; omega)⟩
      have hw' : t[((pre.length : Int)).toNat]? = some w := by simpa using hw
      rw [sameAt_some hw] at hp
      simp only [go_sem, kSt_ptr, Nat.reduceBEq, Nat.reduceAdd, Nat.reduceEqDiff, Nat.reduceLeDiff, Nat.reduceSub, reduceIte, Int.reduceBEq, Int.reduceEq, Int.reduceLT, Int.reduceLE, Int.reduceGT, Int.reduceGE, Int.reduceNe, Int.reduceBNe, s_impl_SameRow_L0, q0, q1, ix, nx, a.dl, a.ia (row := TVal.row) (sz := 3) rfl, hp, a.hw, TVal.row, kIa_nth (row := TVal.row) (sz := 3) (by omega) hw' rfl, cmpNeq]
    · rintro e h ⟨q0, q1, ix, nx⟩
      simp only [go_sem, kSt_ptr, Nat.reduceBEq, Nat.reduceAdd, Nat.reduceEqDiff, Nat.reduceLeDiff, Nat.reduceSub, reduceIte, Int.reduceBEq, Int.reduceEq, Int.reduceLT, Int.reduceLE, Int.reduceGT, Int.reduceGE, Int.reduceNe, Int.reduceBNe, s_impl_SameRow_L0, q0, q1, ix, nx]
    · simp only [go_sem, kSt_ptr, Nat.reduceBEq, Nat.reduceAdd, Nat.reduceEqDiff, Nat.reduceLeDiff, Nat.reduceSub, reduceIte, Int.reduceBEq, Int.reduceEq, Int.reduceLT, Int.reduceLE, Int.reduceGT, Int.reduceGE, Int.reduceNe, Int.reduceBNe, hlen]
    · rintro x e h (⟨hp, rfl, j⟩ | ⟨hp, rfl, j⟩)
      · simp only [go_sem, kSt_ptr, Nat.reduceBEq, Nat.reduceAdd, Nat.reduceEqDiff, Nat.reduceLeDiff, Nat.reduceSub, reduceIte, Int.reduceBEq, Int.reduceEq, Int.reduceLT, Int.reduceLE, Int.reduceGT, Int.reduceGE, Int.reduceNe, Int.reduceBNe, hq, hp]
      · simp only [go_sem, kSt_ptr, Nat.reduceBEq, Nat.reduceAdd, Nat.reduceEqDiff, Nat.reduceLeDiff, Nat.reduceSub, reduceIte, Int.reduceBEq, Int.reduceEq, Int.reduceLT, Int.reduceLE, Int.reduceGT, Int.reduceGE, Int.reduceNe, Int.reduceBNe, s_impl_SameRow, j, hq, hp]
  · have hq : sameR u t = false := sameR_len (by omega)
    simp only [go_sem, kSt_ptr, Nat.reduceBEq, Nat.reduceAdd, Nat.reduceEqDiff, Nat.reduceLeDiff, Nat.reduceSub, reduceIte, Int.reduceBEq, Int.reduceEq, Int.reduceLT, Int.reduceLE, Int.reduceGT, Int.reduceGE, Int.reduceNe, Int.reduceBNe, s_impl_SameRow, bneT hlen, hq]
end Go.Proofs.YtienjjjhjeigmaaGreatDoor.Is
/- What the functions that FnExactInScan calls answer: part 14. -/
namespace Go.Proofs.YtienjjjhjeigmaaGreatDoor.Is
open Go Go.RowKit Go.Ev
set_option linter.unusedSimpArgs false
set_option linter.unusedVariables false
set_option maxHeartbeats 1600000
noncomputable def C_impl_InScan := c3 (sliceT tDef) tScan (sliceT tVal) (fun (s : List (TDef)) (c : TScan) (row : List (TVal)) => (sliceT tDef).good s ∧ tScan.good c ∧ (sliceT tVal).good row) (.bool) fun (s : List (TDef)) (c : TScan) (row : List (TVal)) => inScan s c row
theorem C_impl_InScan_eq (s : List (TDef)) (c : TScan) (row : List (TVal)) (h : (sliceT tDef).good s ∧ tScan.good c ∧ (sliceT tVal).good row) : C_impl_InScan [.imm (s.map TDef.row), .agg [.int .i64 c.fT, .int .i64 c.fI, .imm (c.fLo.map TVal.row), .imm (c.fHi.map TVal.row), .bool c.fLoEx, .bool c.fHiEx, .bool c.fRev, .int .i64 c.fLimit], .imm (row.map TVal.row)] = some (.bool ((inScan s c row))) := c3_eq (sliceT tDef) tScan (sliceT tVal) h
theorem ok_impl_InScan {WI : World → Prop} (hs : Stable WI) (cs) (hT : TOK (EE cs) WI) (h1 : (EE cs).T 35 = some C_impl_ScanOk) (h2 : (EE cs).T 37 = some C_impl_RowPlan) (h3 : (EE cs).T 36 = some C_impl_RowOk) (h4 : (EE cs).T 38 = some C_impl_planOf) (h5 : (EE cs).T 39 = some C_impl_Pick) (h6 : (EE cs).T 40 = some C_impl_LessKey) (h7 : (EE cs).T 41 = some C_impl_SameRow) : PureOK Tryz.prog WI 14 C_impl_InScan := by
  refine pure3 (E := EE cs) hT hs (by rw [st_impl_InScan]; rfl) fun s c row hp => out_wp (n := 0) (st_impl_InScan cs) ?_
  have fr_h2 : (EE cs).fr 37 = true := rfl
  have fr_h5 : (EE cs).fr 39 = true := rfl
  obtain ⟨hs0, hc0, hr, _⟩ := hp
  have hs := hs0.1
  have hc := hc0.1
  obtain ⟨n1, n2⟩ := defsLens hs
  obtain ⟨m1, m2⟩ := scanLens hc
  have hrl := rowLen hr
  have c1 : C_impl_ScanOk [.imm (s.map TDef.row), .agg [.int .i64 c.fT, .int .i64 c.fI, .imm (c.fLo.map TVal.row), .imm (c.fHi.map TVal.row), .bool c.fLoEx, .bool c.fHiEx, .bool c.fRev, .int .i64 c.fLimit]] = some (.bool (scanOk s c)) := C_impl_ScanOk_eq s c ⟨hs0, hc0⟩
  cases d1 : scanOk s c
  · simp only [go_sem, kSt_ptr, Nat.reduceBEq, Nat.reduceAdd, Nat.reduceEqDiff, Nat.reduceLeDiff, Nat.reduceSub, reduceIte, Int.reduceBEq, Int.reduceEq, Int.reduceLT, Int.reduceLE, Int.reduceGT, Int.reduceGE, Int.reduceNe, Int.reduceBNe, s_impl_InScan, TScan.row, h1, c1, d1, inScan, Bool.false_and]
  obtain ⟨d, hd, z1, hm, hi, w1, w2⟩ := scanOk_get d1
  have c2 : C_impl_RowPlan [.agg [.str d.fName, .imm (d.fCols.map TCol.row), .imm (d.fPrimary.map TBy.row), .imm (d.fIndexes.map TIndex.row)]] = some (.app 4 ((rowPlan d).map TPart.row)) := C_impl_RowPlan_eq d (n2 d hm)
  have c3 : C_impl_RowOk [.imm ((rowPlan d).map TPart.row), .imm (row.map TVal.row)] = some (.bool (rowOk (rowPlan d) row)) := C_impl_RowOk_eq _ _ ⟨rowPlan_len (n2 d hm), hrl⟩
  rw [inScan_of d1 hd]
  cases d2 : rowOk (rowPlan d) row
  · simp only [go_sem, kSt_ptr, Nat.reduceBEq, Nat.reduceAdd, Nat.reduceEqDiff, Nat.reduceLeDiff, Nat.reduceSub, reduceIte, Int.reduceBEq, Int.reduceEq, Int.reduceLT, Int.reduceLE, Int.reduceGT, Int.reduceGE, Int.reduceNe, Int.reduceBNe, s_impl_InScan, TScan.row, h1, c1, d1, kIa_nth (row := TDef.row) (sz := 4) z1 hd rfl, TDef.row, h2, fr_h2, c2, h3, c3, d2, Bool.false_and]
  have hpl := planOf_len d c.fI
  have c4 : C_impl_planOf [.agg [.str d.fName, .imm (d.fCols.map TCol.row), .imm (d.fPrimary.map TBy.row), .imm (d.fIndexes.map TIndex.row)], .int .i64 c.fI] = some (.imm ((planOf d c.fI).map TPart.row)) := C_impl_planOf_eq d c.fI ⟨n2 d hm, hi⟩
  rw [Bool.true_and, ← inI_eq (pick_len _ _) w1 w2]
  generalize planOf d c.fI = plan at *
  have c5 : C_impl_Pick [.imm (plan.map TPart.row), .imm (row.map TVal.row)] = some (.app 3 ((pick plan row).map TVal.row)) := C_impl_Pick_eq plan row ⟨by omega, hrl⟩
  have hkl := pick_len plan row
  unfold inI
  generalize pick plan row = k at *
  have s1 : ∀ id, sIdxL 3 (.app id (k.map TVal.row)) none (some (.int .i64 c.fLo.length)) = some (.imm ((k.take c.fLo.length).map TVal.row)) := fun id => kSl_takeA (by omega) (fun _ => rfl) (by decide)
  have s2 : ∀ id, sIdxL 3 (.app id (k.map TVal.row)) none (some (.int .i64 c.fHi.length)) = some (.imm ((k.take c.fHi.length).map TVal.row)) := fun id => kSl_takeA (by omega) (fun _ => rfl) (by decide)
  have l1 : (k.take c.fLo.length).length ≤ 1048576 := by rw [List.length_take]; omega
  have l2 : (k.take c.fHi.length).length ≤ 1048576 := by rw [List.length_take]; omega
  generalize k.take c.fLo.length = a at *
  generalize k.take c.fHi.length = b at *
  have c6 : C_impl_LessKey [.imm (plan.map TPart.row), .imm (c.fLo.map TVal.row), .imm (a.map TVal.row)] = some (.bool (lessK plan 0 c.fLo a)) := C_impl_LessKey_eq plan c.fLo a ⟨by omega, m1, l1⟩
  have c7 : C_impl_LessKey [.imm (plan.map TPart.row), .imm (b.map TVal.row), .imm (c.fHi.map TVal.row)] = some (.bool (lessK plan 0 b c.fHi)) := C_impl_LessKey_eq plan b c.fHi ⟨by omega, l2, m2⟩
  have c8 : C_impl_SameRow [.imm (c.fLo.map TVal.row), .imm (a.map TVal.row)] = some (.bool (sameR c.fLo a)) := C_impl_SameRow_eq c.fLo a ⟨m1, l1⟩
  have c9 : C_impl_SameRow [.imm (b.map TVal.row), .imm (c.fHi.map TVal.row)] = some (.bool (sameR b c.fHi)) := C_impl_SameRow_eq b c.fHi ⟨l2, m2⟩
  have x0 : (decide ((0 : Int) < c.fLo.length) = false) ∨ (decide ((0 : Int) < c.fLo.length) = true ∧ lessK plan 0 c.fLo a = true) ∨ (decide ((0 : Int) < c.fLo.length) = true ∧ lessK plan 0 c.fLo a = false ∧ c.fLoEx = true) ∨ (decide ((0 : Int) < c.fLo.length) = true ∧ lessK plan 0 c.fLo a = false ∧ c.fLoEx = false ∧ sameR c.fLo a = false) ∨ (decide ((0 : Int) < c.fLo.length) = true ∧ lessK plan 0 c.fLo a = false ∧ c.fLoEx = false ∧ sameR c.fLo a = true) := by
    cases decide ((0 : Int) < c.fLo.length) <;> cases lessK plan 0 c.fLo a <;> cases c.fLoEx <;> cases sameR c.fLo a <;> simp
  have y0 : (((c.fHi.length : Int) == 0) = true) ∨ (((c.fHi.length : Int) == 0) = false ∧ lessK plan 0 b c.fHi = true) ∨ (((c.fHi.length : Int) == 0) = false ∧ lessK plan 0 b c.fHi = false ∧ c.fHiEx = true) ∨ (((c.fHi.length : Int) == 0) = false ∧ lessK plan 0 b c.fHi = false ∧ c.fHiEx = false) := by
    cases ((c.fHi.length : Int) == 0) <;> cases lessK plan 0 b c.fHi <;> cases c.fHiEx <;> simp
  rcases x0 with x | x | x | x | x
  all_goals rcases y0 with y | y | y | y
  all_goals try simp only [x] at c1
  all_goals try simp only [y] at c1
  all_goals simp only [go_sem, kSt_ptr, Nat.reduceBEq, Nat.reduceAdd, Nat.reduceEqDiff, Nat.reduceLeDiff, Nat.reduceSub, reduceIte, Int.reduceBEq, Int.reduceEq, Int.reduceLT, Int.reduceLE, Int.reduceGT, Int.reduceGE, Int.reduceNe, Int.reduceBNe, s_impl_InScan, TScan.row, h1, c1, d1, kIa_nth (row := TDef.row) (sz := 4) z1 hd rfl, TDef.row, h2, fr_h2, c2, h3, c3, d2, h4, c4, h5, fr_h5, c5, s1, s2, h6, c6, h7, c7, c8, c9, x, y, Bool.true_and, Bool.false_and, Bool.and_false, Bool.true_or, Bool.or_true, Bool.or_false, Bool.false_or, Bool.not_true, Bool.not_false, Bool.false_and]
theorem ok_laws_eqCol {WI : World → Prop} (hs : Stable WI) (cs) (hT : TOK (EE cs) WI)  : PureOK Tryz.prog WI 153 (eqC tCol) := by
  refine pureEq (E := EE cs) hT hs (by rw [st_laws_eqCol]; rfl) fun v hc => out_K (n := 0) (st_laws_eqCol cs) ?_
  have hcost : tCol.cost v = v.fName.length := rfl
  simp only [go_sem, kSt_ptr, Nat.reduceBEq, Nat.reduceAdd, Nat.reduceEqDiff, Nat.reduceLeDiff, Nat.reduceSub, reduceIte, Int.reduceBEq, Int.reduceEq, Int.reduceLT, Int.reduceLE, Int.reduceGT, Int.reduceGE, Int.reduceNe, Int.reduceBNe, s_laws_eqCol, TCol.row]
theorem ok_laws_eqColS {WI : World → Prop} (hs : Stable WI) (cs) (hT : TOK (EE cs) WI) (h0 : (EE cs).T 153 = some (eqC tCol)) : PureOK Tryz.prog WI 85 (eqC (sliceT tCol)) := eqS_ok (E := EE cs) (T := tCol) hT hs h0 (st_laws_eqColS cs)
theorem ok_laws_eqBy {WI : World → Prop} (hs : Stable WI) (cs) (hT : TOK (EE cs) WI)  : PureOK Tryz.prog WI 154 (eqC tBy) := by
  refine pureEq (E := EE cs) hT hs (by rw [st_laws_eqBy]; rfl) fun v hc => out_K (n := 0) (st_laws_eqBy cs) ?_
  have hcost : tBy.cost v = 0 := rfl
  simp only [go_sem, kSt_ptr, Nat.reduceBEq, Nat.reduceAdd, Nat.reduceEqDiff, Nat.reduceLeDiff, Nat.reduceSub, reduceIte, Int.reduceBEq, Int.reduceEq, Int.reduceLT, Int.reduceLE, Int.reduceGT, Int.reduceGE, Int.reduceNe, Int.reduceBNe, s_laws_eqBy, TBy.row]
theorem ok_laws_eqByS {WI : World → Prop} (hs : Stable WI) (cs) (hT : TOK (EE cs) WI) (h0 : (EE cs).T 154 = some (eqC tBy)) : PureOK Tryz.prog WI 86 (eqC (sliceT tBy)) := eqS_ok (E := EE cs) (T := tBy) hT hs h0 (st_laws_eqByS cs)
theorem ok_laws_eqIndex {WI : World → Prop} (hs : Stable WI) (cs) (hT : TOK (EE cs) WI) (h0 : (EE cs).T 86 = some (eqC (sliceT tBy))) : PureOK Tryz.prog WI 155 (eqC tIndex) := by
  refine pureEq (E := EE cs) hT hs (by rw [st_laws_eqIndex]; rfl) fun v hc => out_K (n := 0) (st_laws_eqIndex cs) ?_
  have hcost : tIndex.cost v = v.fName.length + (sliceT tBy).cost v.fParts := rfl
  have c2 : eqC (sliceT tBy) [.imm (v.fParts.map TBy.row), .imm (v.fParts.map TBy.row)] = some (.bool true) := eqC_eq (sliceT tBy) (by omega)
  simp only [go_sem, kSt_ptr, Nat.reduceBEq, Nat.reduceAdd, Nat.reduceEqDiff, Nat.reduceLeDiff, Nat.reduceSub, reduceIte, Int.reduceBEq, Int.reduceEq, Int.reduceLT, Int.reduceLE, Int.reduceGT, Int.reduceGE, Int.reduceNe, Int.reduceBNe, s_laws_eqIndex, TIndex.row, h0, c2]
theorem ok_laws_eqIndexS {WI : World → Prop} (hs : Stable WI) (cs) (hT : TOK (EE cs) WI) (h0 : (EE cs).T 155 = some (eqC tIndex)) : PureOK Tryz.prog WI 87 (eqC (sliceT tIndex)) := eqS_ok (E := EE cs) (T := tIndex) hT hs h0 (st_laws_eqIndexS cs)
theorem ok_laws_eqDef {WI : World → Prop} (hs : Stable WI) (cs) (hT : TOK (EE cs) WI) (h0 : (EE cs).T 85 = some (eqC (sliceT tCol))) (h1 : (EE cs).T 86 = some (eqC (sliceT tBy))) (h2 : (EE cs).T 87 = some (eqC (sliceT tIndex))) : PureOK Tryz.prog WI 42 (eqC tDef) := by
  refine pureEq (E := EE cs) hT hs (by rw [st_laws_eqDef]; rfl) fun v hc => out_K (n := 0) (st_laws_eqDef cs) ?_
  have hcost : tDef.cost v = v.fName.length + (sliceT tCol).cost v.fCols + (sliceT tBy).cost v.fPrimary + (sliceT tIndex).cost v.fIndexes := rfl
  have c1 : eqC (sliceT tCol) [.imm (v.fCols.map TCol.row), .imm (v.fCols.map TCol.row)] = some (.bool true) := eqC_eq (sliceT tCol) (by omega)
  have c2 : eqC (sliceT tBy) [.imm (v.fPrimary.map TBy.row), .imm (v.fPrimary.map TBy.row)] = some (.bool true) := eqC_eq (sliceT tBy) (by omega)
  have c3 : eqC (sliceT tIndex) [.imm (v.fIndexes.map TIndex.row), .imm (v.fIndexes.map TIndex.row)] = some (.bool true) := eqC_eq (sliceT tIndex) (by omega)
  simp only [go_sem, kSt_ptr, Nat.reduceBEq, Nat.reduceAdd, Nat.reduceEqDiff, Nat.reduceLeDiff, Nat.reduceSub, reduceIte, Int.reduceBEq, Int.reduceEq, Int.reduceLT, Int.reduceLE, Int.reduceGT, Int.reduceGE, Int.reduceNe, Int.reduceBNe, s_laws_eqDef, TDef.row, h0, h1, h2, c1, c2, c3]
theorem ok_laws_eqDefS {WI : World → Prop} (hs : Stable WI) (cs) (hT : TOK (EE cs) WI) (h0 : (EE cs).T 42 = some (eqC tDef)) : PureOK Tryz.prog WI 15 (eqC (sliceT tDef)) := eqS_ok (E := EE cs) (T := tDef) hT hs h0 (st_laws_eqDefS cs)
theorem ok_laws_eqVal {WI : World → Prop} (hs : Stable WI) (cs) (hT : TOK (EE cs) WI)  : PureOK Tryz.prog WI 43 (eqC tVal) := by
  refine pureEq (E := EE cs) hT hs (by rw [st_laws_eqVal]; rfl) fun v hc => out_K (n := 0) (st_laws_eqVal cs) ?_
  have hcost : tVal.cost v = v.fS.length := rfl
  simp only [go_sem, kSt_ptr, Nat.reduceBEq, Nat.reduceAdd, Nat.reduceEqDiff, Nat.reduceLeDiff, Nat.reduceSub, reduceIte, Int.reduceBEq, Int.reduceEq, Int.reduceLT, Int.reduceLE, Int.reduceGT, Int.reduceGE, Int.reduceNe, Int.reduceBNe, s_laws_eqVal, TVal.row]
theorem ok_laws_eqValS {WI : World → Prop} (hs : Stable WI) (cs) (hT : TOK (EE cs) WI) (h0 : (EE cs).T 43 = some (eqC tVal)) : PureOK Tryz.prog WI 17 (eqC (sliceT tVal)) := eqS_ok (E := EE cs) (T := tVal) hT hs h0 (st_laws_eqValS cs)
theorem ok_laws_eqScan {WI : World → Prop} (hs : Stable WI) (cs) (hT : TOK (EE cs) WI) (h0 : (EE cs).T 17 = some (eqC (sliceT tVal))) : PureOK Tryz.prog WI 16 (eqC tScan) := by
  refine pureEq (E := EE cs) hT hs (by rw [st_laws_eqScan]; rfl) fun v hc => out_K (n := 0) (st_laws_eqScan cs) ?_
  have hcost : tScan.cost v = (sliceT tVal).cost v.fLo + (sliceT tVal).cost v.fHi := rfl
  have c2 : eqC (sliceT tVal) [.imm (v.fLo.map TVal.row), .imm (v.fLo.map TVal.row)] = some (.bool true) := eqC_eq (sliceT tVal) (by omega)
  have c3 : eqC (sliceT tVal) [.imm (v.fHi.map TVal.row), .imm (v.fHi.map TVal.row)] = some (.bool true) := eqC_eq (sliceT tVal) (by omega)
  simp only [go_sem, kSt_ptr, Nat.reduceBEq, Nat.reduceAdd, Nat.reduceEqDiff, Nat.reduceLeDiff, Nat.reduceSub, reduceIte, Int.reduceBEq, Int.reduceEq, Int.reduceLT, Int.reduceLE, Int.reduceGT, Int.reduceGE, Int.reduceNe, Int.reduceBNe, s_laws_eqScan, TScan.row, h0, c2, c3]
end Go.Proofs.YtienjjjhjeigmaaGreatDoor.Is
/- The law FnExactInScan, by what its functions answer. -/
namespace Go.Proofs.YtienjjjhjeigmaaGreatDoor.Is
open Go Go.RowKit Go.Ev
set_option linter.unusedSimpArgs false
set_option linter.unusedVariables false
set_option maxHeartbeats 1600000
set_option maxRecDepth 100000
theorem ev_law (cs) (h0 : (EE cs).T 7 = some (szC (sliceT tDef))) (h1 : (EE cs).T 8 = some (szC tScan)) (h2 : (EE cs).T 9 = some (szC (sliceT tVal))) (h3 : (EE cs).T 11 = some (toC (sliceT tDef))) (h4 : (EE cs).T 12 = some (toC tScan)) (h5 : (EE cs).T 13 = some (toC (sliceT tVal))) (h6 : (EE cs).T 10 = some C_spec_InScan) (h7 : (EE cs).T 14 = some C_impl_InScan) (h8 : (EE cs).T 15 = some (eqC (sliceT tDef))) (h9 : (EE cs).T 16 = some (eqC tScan)) (h10 : (EE cs).T 17 = some (eqC (sliceT tVal))) (v0 : List (TDef)) (v1 : TScan) (v2 : List (TVal)) (f0 : (sliceT tDef).fits v0) (o0 : (sliceT tDef).ok v0) (f1 : tScan.fits v1) (o1 : tScan.ok v1) (f2 : (sliceT tVal).fits v2) (o2 : (sliceT tVal).ok v2) : ∃ k n, out (EE cs) k n 3 [(sliceT tDef).enc v0, tScan.enc v1, (sliceT tVal).enc v2] = some (.bool true) := by
  refine out_K (n := 0) (st_laws_FnExactInScan cs) ?_
  have c0 : szC (sliceT tDef) [.imm (v0.map TDef.row), .int .i64 (1048576)] = some (.int .i64 (szR ((sliceT tDef).cost v0) (1048576))) := szC_eq (sliceT tDef) ⟨f0, by omega, by omega⟩
  by_cases n0 : szR ((sliceT tDef).cost v0) (1048576) < 0
  · obtain ⟨e0, e0'⟩ := szR_neg n0 (by omega)
    simp only [go_sem, kSt_ptr, Nat.reduceBEq, Nat.reduceAdd, Nat.reduceEqDiff, Nat.reduceLeDiff, Nat.reduceSub, reduceIte, Int.reduceBEq, Int.reduceEq, Int.reduceLT, Int.reduceLE, Int.reduceGT, Int.reduceGE, Int.reduceNe, Int.reduceBNe, s_laws_FnExactInScan, TScan.row, h0, h1, h2, h3, h4, h5, h6, h7, h8, h9, h10, c0, e0]
  obtain ⟨e0, n0'⟩ := szR_pos n0
  have c1 : szC tScan [.agg [.int .i64 v1.fT, .int .i64 v1.fI, .imm (v1.fLo.map TVal.row), .imm (v1.fHi.map TVal.row), .bool v1.fLoEx, .bool v1.fHiEx, .bool v1.fRev, .int .i64 v1.fLimit], .int .i64 (1048576 - ((sliceT tDef).cost v0 : Int))] = some (.int .i64 (szR (tScan.cost v1) (1048576 - ((sliceT tDef).cost v0 : Int)))) := szC_eq tScan ⟨f1, by omega, by omega⟩
  by_cases n1 : szR (tScan.cost v1) (1048576 - ((sliceT tDef).cost v0 : Int)) < 0
  · obtain ⟨e1, e1'⟩ := szR_neg n1 (by omega)
    simp only [go_sem, kSt_ptr, Nat.reduceBEq, Nat.reduceAdd, Nat.reduceEqDiff, Nat.reduceLeDiff, Nat.reduceSub, reduceIte, Int.reduceBEq, Int.reduceEq, Int.reduceLT, Int.reduceLE, Int.reduceGT, Int.reduceGE, Int.reduceNe, Int.reduceBNe, s_laws_FnExactInScan, TScan.row, h0, h1, h2, h3, h4, h5, h6, h7, h8, h9, h10, c0, e0, n0', c1, e1]
  obtain ⟨e1, n1'⟩ := szR_pos n1
  have c2 : szC (sliceT tVal) [.imm (v2.map TVal.row), .int .i64 (1048576 - ((sliceT tDef).cost v0 : Int) - (tScan.cost v1 : Int))] = some (.int .i64 (szR ((sliceT tVal).cost v2) (1048576 - ((sliceT tDef).cost v0 : Int) - (tScan.cost v1 : Int)))) := szC_eq (sliceT tVal) ⟨f2, by omega, by omega⟩
  by_cases n2 : szR ((sliceT tVal).cost v2) (1048576 - ((sliceT tDef).cost v0 : Int) - (tScan.cost v1 : Int)) < 0
  · obtain ⟨e2, e2'⟩ := szR_neg n2 (by omega)
    simp only [go_sem, kSt_ptr, Nat.reduceBEq, Nat.reduceAdd, Nat.reduceEqDiff, Nat.reduceLeDiff, Nat.reduceSub, reduceIte, Int.reduceBEq, Int.reduceEq, Int.reduceLT, Int.reduceLE, Int.reduceGT, Int.reduceGE, Int.reduceNe, Int.reduceBNe, s_laws_FnExactInScan, TScan.row, h0, h1, h2, h3, h4, h5, h6, h7, h8, h9, h10, c0, e0, n0', c1, e1, n1', c2, e2]
  obtain ⟨e2, n2'⟩ := szR_pos n2
  have g0 : (sliceT tDef).good v0 := ⟨by omega, o0⟩
  have t0 : toC (sliceT tDef) [.imm (v0.map TDef.row)] = some (.imm (v0.map TDef.row)) := toC_eq (sliceT tDef) g0.1
  have u0 : eqC (sliceT tDef) [.imm (v0.map TDef.row), .imm (v0.map TDef.row)] = some (.bool true) := eqC_eq (sliceT tDef) g0.1
  have g1 : tScan.good v1 := ⟨by omega, o1⟩
  have t1 : toC tScan [.agg [.int .i64 v1.fT, .int .i64 v1.fI, .imm (v1.fLo.map TVal.row), .imm (v1.fHi.map TVal.row), .bool v1.fLoEx, .bool v1.fHiEx, .bool v1.fRev, .int .i64 v1.fLimit]] = some (.agg [.int .i64 v1.fT, .int .i64 v1.fI, .imm (v1.fLo.map TVal.row), .imm (v1.fHi.map TVal.row), .bool v1.fLoEx, .bool v1.fHiEx, .bool v1.fRev, .int .i64 v1.fLimit]) := toC_eq tScan g1.1
  have u1 : eqC tScan [.agg [.int .i64 v1.fT, .int .i64 v1.fI, .imm (v1.fLo.map TVal.row), .imm (v1.fHi.map TVal.row), .bool v1.fLoEx, .bool v1.fHiEx, .bool v1.fRev, .int .i64 v1.fLimit], .agg [.int .i64 v1.fT, .int .i64 v1.fI, .imm (v1.fLo.map TVal.row), .imm (v1.fHi.map TVal.row), .bool v1.fLoEx, .bool v1.fHiEx, .bool v1.fRev, .int .i64 v1.fLimit]] = some (.bool true) := eqC_eq tScan g1.1
  have g2 : (sliceT tVal).good v2 := ⟨by omega, o2⟩
  have t2 : toC (sliceT tVal) [.imm (v2.map TVal.row)] = some (.imm (v2.map TVal.row)) := toC_eq (sliceT tVal) g2.1
  have u2 : eqC (sliceT tVal) [.imm (v2.map TVal.row), .imm (v2.map TVal.row)] = some (.bool true) := eqC_eq (sliceT tVal) g2.1
  have a0 := C_spec_InScan_eq v0 v1 v2 ⟨g0, g1, g2⟩
  have a1 := C_impl_InScan_eq v0 v1 v2 ⟨g0, g1, g2⟩
  simp only [go_sem, kSt_ptr, Nat.reduceBEq, Nat.reduceAdd, Nat.reduceEqDiff, Nat.reduceLeDiff, Nat.reduceSub, reduceIte, Int.reduceBEq, Int.reduceEq, Int.reduceLT, Int.reduceLE, Int.reduceGT, Int.reduceGE, Int.reduceNe, Int.reduceBNe, s_laws_FnExactInScan, TScan.row, h0, h1, h2, h3, h4, h5, h6, h7, h8, h9, h10, c0, e0, n0', c1, e1, n1', c2, e2, n2', t0, u0, t1, u1, t2, u2, a0, a1]
noncomputable def C_law := c3 (sliceT tDef) tScan (sliceT tVal) (fun v0 v1 v2 => ((sliceT tDef).fits v0 ∧ (sliceT tDef).ok v0) ∧ (tScan.fits v1 ∧ tScan.ok v1) ∧ ((sliceT tVal).fits v2 ∧ (sliceT tVal).ok v2)) .bool fun _ _ _ => true
theorem ok_law {WI : World → Prop} (hs : Stable WI) (cs) (hT : TOK (EE cs) WI) (h0 : (EE cs).T 7 = some (szC (sliceT tDef))) (h1 : (EE cs).T 8 = some (szC tScan)) (h2 : (EE cs).T 9 = some (szC (sliceT tVal))) (h3 : (EE cs).T 11 = some (toC (sliceT tDef))) (h4 : (EE cs).T 12 = some (toC tScan)) (h5 : (EE cs).T 13 = some (toC (sliceT tVal))) (h6 : (EE cs).T 10 = some C_spec_InScan) (h7 : (EE cs).T 14 = some C_impl_InScan) (h8 : (EE cs).T 15 = some (eqC (sliceT tDef))) (h9 : (EE cs).T 16 = some (eqC tScan)) (h10 : (EE cs).T 17 = some (eqC (sliceT tVal))) : PureOK Tryz.prog WI 3 C_law :=
  pure3 (E := EE cs) hT hs (by rw [st_laws_FnExactInScan]; rfl) fun v0 v1 v2 ⟨⟨f0, o0⟩, ⟨f1, o1⟩, ⟨f2, o2⟩⟩ => ev_law cs h0 h1 h2 h3 h4 h5 h6 h7 h8 h9 h10 v0 v1 v2 f0 o0 f1 o1 f2 o2
section
variable {WI : World → Prop} (hs : Stable WI)
include hs
theorem law_ok (p_strings_Split : PureOK Tryz.prog WI 252 C_strings_Split) : PureOK Tryz.prog WI 3 C_law := by
  have t0 : TOK (EE []) WI := tok_nil (entB_spec entered)
  have t1 := tok_cons rfl (ok_laws_szCol hs _ t0) t0
  have t2 := tok_cons rfl (ok_laws_szColS hs _ t1 rfl) t1
  have t3 := tok_cons rfl (ok_laws_szByS hs _ t2) t2
  have t4 := tok_cons rfl (ok_laws_szIndex hs _ t3 rfl) t3
  have t5 := tok_cons rfl (ok_laws_szIndexS hs _ t4 rfl) t4
  have t6 := tok_cons rfl (ok_laws_szDef hs _ t5 rfl rfl rfl) t5
  have t7 := tok_cons rfl (ok_laws_szDefS hs _ t6 rfl) t6
  have t8 := tok_cons rfl (ok_laws_szVal hs _ t7) t7
  have t9 := tok_cons rfl (ok_laws_szValS hs _ t8 rfl) t8
  have t10 := tok_cons rfl (ok_laws_szScan hs _ t9 rfl) t9
  have t11 := tok_cons rfl (ok_laws_toCol hs _ t10) t10
  have t12 := tok_cons rfl (ok_laws_toColS hs _ t11 rfl) t11
  have t13 := tok_cons rfl (ok_laws_toBy hs _ t12) t12
  have t14 := tok_cons rfl (ok_laws_toByS hs _ t13 rfl) t13
  have t15 := tok_cons rfl (ok_laws_toIndex hs _ t14 rfl) t14
  have t16 := tok_cons rfl (ok_laws_toIndexS hs _ t15 rfl) t15
  have t17 := tok_cons rfl (ok_laws_toDef hs _ t16 rfl rfl rfl) t16
  have t18 := tok_cons rfl (ok_laws_toDefS hs _ t17 rfl) t17
  have t19 := tok_cons rfl (ok_laws_toVal hs _ t18) t18
  have t20 := tok_cons rfl (ok_laws_toValS hs _ t19 rfl) t19
  have t21 := tok_cons rfl (ok_laws_toScan hs _ t20 rfl) t20
  have t22 := tok_cons rfl (ok_spec_l1In hs _ t21) t21
  have t23 := tok_cons rfl (ok_spec_l8Small hs _ t22 rfl) t22
  have t24 := tok_cons rfl (ok_spec_l2Digit hs _ t23 rfl) t23
  have t25 := tok_cons rfl (ok_spec_l8Name hs _ t24 rfl rfl rfl) t24
  have t26 := tok_cons rfl (ok_spec_l9Has hs _ t25) t25
  have t27 := tok_cons rfl (ok_spec_l9Word hs _ t26 rfl rfl) t26
  have t28 := tok_cons rfl (ok_spec_l9Names hs _ t27 rfl) t27
  have t29 := tok_cons rfl (ok_spec_l9Types hs _ t28 rfl) t28
  have t30 := tok_cons rfl (ok_spec_l9Col hs _ t29) t29
  have t31 := tok_cons rfl (ok_spec_l9Once hs _ t30 rfl) t30
  have t32 := tok_cons rfl (ok_spec_l9Parts hs _ t31 rfl) t31
  have t33 := tok_cons rfl (ok_spec_l9AllParts hs _ t32 rfl) t32
  have t34 := tok_cons rfl (ok_spec_CheckDef hs _ t33 rfl rfl rfl rfl) t33
  have t35 := tok_cons rfl (ok_spec_FirstBad hs _ t34 rfl) t34
  have t36 := tok_cons rfl (ok_spec_l11There hs _ t35 rfl rfl) t35
  have t37 := tok_cons rfl (ok_spec_l11Part hs _ t36) t36
  have t38 := tok_consF rfl (ok_spec_l11Parts hs _ t37 rfl) t37
  have t39 := tok_cons rfl (ok_spec_PrimaryPlan hs _ t38 rfl rfl) t38
  have t40 := tok_cons rfl (ok_spec_IndexPlan hs _ t39 rfl rfl rfl) t39
  have t41 := tok_cons rfl (ok_spec_l11Plan hs _ t40 rfl rfl) t40
  have t42 := tok_cons rfl (ok_spec_ValOk hs _ t41 rfl) t41
  have t43 := tok_cons rfl (ok_spec_Fits hs _ t42 rfl) t42
  have t44 := tok_cons rfl (ok_spec_FitsAll hs _ t43 rfl) t43
  have t45 := tok_cons rfl (ok_spec_ScanOk hs _ t44 rfl rfl rfl rfl) t44
  have t46 := tok_consF rfl (ok_spec_RowPlan hs _ t45 rfl rfl) t45
  have t47 := tok_cons rfl (ok_spec_PartOk hs _ t46 rfl) t46
  have t48 := tok_cons rfl (ok_spec_PlanOk hs _ t47 rfl) t47
  have t49 := tok_cons rfl (ok_spec_RowOk hs _ t48 rfl rfl) t48
  have t50 := tok_consF rfl (ok_spec_Pick hs _ t49 rfl) t49
  have t51 := tok_cons rfl (ok_spec_SameRow hs _ t50) t50
  have t52 := tok_cons rfl (ok_spec_SameVal hs _ t51) t51
  have t53 := tok_cons rfl (ok_spec_LessVal hs _ t52) t52
  have t54 := tok_cons rfl (ok_spec_LessPart hs _ t53 rfl) t53
  have t55 := tok_cons rfl (ok_spec_LessKey hs _ t54 rfl rfl) t54
  have t56 := tok_cons rfl (ok_spec_l24In hs _ t55 rfl rfl rfl rfl) t55
  have t57 := tok_cons rfl (ok_spec_InScan hs _ t56 rfl rfl rfl rfl) t56
  have t58 := tok_cons rfl (ok_impl_in hs _ t57) t57
  have t59 := tok_cons rfl (ok_impl_partsOk hs _ t58 rfl) t58
  have t60 := tok_cons rfl p_strings_Split t59
  have t61 := tok_cons rfl (ok_impl_isLetter hs _ t60) t60
  have t62 := tok_cons rfl (ok_impl_isDigit hs _ t61) t61
  have t63 := tok_cons rfl (ok_impl_nameOk hs _ t62 rfl rfl rfl) t62
  have t64 := tok_cons rfl (ok_impl_isFree hs _ t63 rfl rfl) t63
  have t65 := tok_cons rfl (ok_impl_namesOk hs _ t64 rfl) t64
  have t66 := tok_cons rfl (ok_impl_twice hs _ t65) t65
  have t67 := tok_cons rfl (ok_impl_CheckDef hs _ t66 rfl rfl rfl rfl) t66
  have t68 := tok_cons rfl (ok_impl_FirstBad hs _ t67 rfl) t67
  have t69 := tok_cons rfl (ok_impl_hasIndex hs _ t68 rfl rfl) t68
  have t70 := tok_consF rfl (ok_impl_partsOf hs _ t69) t69
  have t71 := tok_cons rfl (ok_impl_PrimaryPlan hs _ t70 rfl rfl) t70
  have t72 := tok_cons rfl (ok_impl_IndexPlan hs _ t71 rfl rfl rfl) t71
  have t73 := tok_cons rfl (ok_impl_planOf hs _ t72 rfl rfl) t72
  have t74 := tok_cons rfl (ok_impl_ValOk hs _ t73 rfl) t73
  have t75 := tok_cons rfl (ok_impl_Fits hs _ t74 rfl) t74
  have t76 := tok_cons rfl (ok_impl_FitsAll hs _ t75 rfl) t75
  have t77 := tok_cons rfl (ok_impl_ScanOk hs _ t76 rfl rfl rfl rfl) t76
  have t78 := tok_consF rfl (ok_impl_RowPlan hs _ t77 rfl) t77
  have t79 := tok_cons rfl (ok_impl_PartOk hs _ t78 rfl) t78
  have t80 := tok_cons rfl (ok_impl_PlanOk hs _ t79 rfl) t79
  have t81 := tok_cons rfl (ok_impl_RowOk hs _ t80 rfl rfl) t80
  have t82 := tok_consF rfl (ok_impl_Pick hs _ t81 rfl) t81
  have t83 := tok_cons rfl (ok_impl_LessVal hs _ t82) t82
  have t84 := tok_cons rfl (ok_impl_LessPart hs _ t83 rfl) t83
  have t85 := tok_cons rfl (ok_impl_LessKey hs _ t84 rfl) t84
  have t86 := tok_cons rfl (ok_impl_SameRow hs _ t85) t85
  have t87 := tok_cons rfl (ok_impl_InScan hs _ t86 rfl rfl rfl rfl rfl rfl rfl) t86
  have t88 := tok_cons rfl (ok_laws_eqCol hs _ t87) t87
  have t89 := tok_cons rfl (ok_laws_eqColS hs _ t88 rfl) t88
  have t90 := tok_cons rfl (ok_laws_eqBy hs _ t89) t89
  have t91 := tok_cons rfl (ok_laws_eqByS hs _ t90 rfl) t90
  have t92 := tok_cons rfl (ok_laws_eqIndex hs _ t91 rfl) t91
  have t93 := tok_cons rfl (ok_laws_eqIndexS hs _ t92 rfl) t92
  have t94 := tok_cons rfl (ok_laws_eqDef hs _ t93 rfl rfl rfl) t93
  have t95 := tok_cons rfl (ok_laws_eqDefS hs _ t94 rfl) t94
  have t96 := tok_cons rfl (ok_laws_eqVal hs _ t95) t95
  have t97 := tok_cons rfl (ok_laws_eqValS hs _ t96 rfl) t96
  have t98 := tok_cons rfl (ok_laws_eqScan hs _ t97 rfl) t97
  exact ok_law hs _ t98 rfl rfl rfl rfl rfl rfl rfl rfl rfl rfl rfl
end
theorem shp_Col {n : Nat} {r : List AV} (h : shp Tryz.prog (n + 2) 176 r) : ∃ v : TCol, r = v.row ∧ tCol.fits v ∧ tCol.ok v := by
  obtain ⟨_, _, rfl, z0, _, _, rfl, z1, _, _, rfl, z2, rfl⟩ := shp_struct Tryz.underlying176 h
  obtain ⟨x0, rfl, y0⟩ := shp_str Tryz.underlying9 z0
  obtain ⟨x1, rfl, y1⟩ := shp_int Tryz.underlying3 z1
  obtain ⟨x2, rfl⟩ := shp_bool Tryz.underlying4 z2
  exact ⟨⟨x0, x1, x2⟩, rfl, y0, wf_i64 y1⟩
theorem shp_SCol {n : Nat} {r : List AV} (h : shp Tryz.prog (n + 3) 61 r) : ∃ l : List (TCol), r = (sliceT tCol).row l ∧ (sliceT tCol).fits l ∧ (sliceT tCol).ok l := by
  obtain ⟨rows, rfl, hl, hr⟩ := shp_slice Tryz.underlying61 h
  obtain ⟨l, h1, h2, h3⟩ := rows_of (enc := tCol.row) (p := fun v => tCol.fits v ∧ tCol.ok v) fun r hr' => shp_Col (n := n) (hr r hr')
  subst h1
  exact ⟨l, rfl, ⟨by simpa using hl, fun v hv => (h3 v hv).1⟩, fun v hv => (h3 v hv).2⟩
theorem shp_By {n : Nat} {r : List AV} (h : shp Tryz.prog (n + 2) 187 r) : ∃ v : TBy, r = v.row ∧ tBy.fits v ∧ tBy.ok v := by
  obtain ⟨_, _, rfl, z0, _, _, rfl, z1, rfl⟩ := shp_struct Tryz.underlying187 h
  obtain ⟨x0, rfl, y0⟩ := shp_int Tryz.underlying3 z0
  obtain ⟨x1, rfl⟩ := shp_bool Tryz.underlying4 z1
  exact ⟨⟨x0, x1⟩, rfl, trivial, wf_i64 y0⟩
theorem shp_SBy {n : Nat} {r : List AV} (h : shp Tryz.prog (n + 3) 62 r) : ∃ l : List (TBy), r = (sliceT tBy).row l ∧ (sliceT tBy).fits l ∧ (sliceT tBy).ok l := by
  obtain ⟨rows, rfl, hl, hr⟩ := shp_slice Tryz.underlying62 h
  obtain ⟨l, h1, h2, h3⟩ := rows_of (enc := tBy.row) (p := fun v => tBy.fits v ∧ tBy.ok v) fun r hr' => shp_By (n := n) (hr r hr')
  subst h1
  exact ⟨l, rfl, ⟨by simpa using hl, fun v hv => (h3 v hv).1⟩, fun v hv => (h3 v hv).2⟩
theorem shp_Index {n : Nat} {r : List AV} (h : shp Tryz.prog (n + 4) 179 r) : ∃ v : TIndex, r = v.row ∧ tIndex.fits v ∧ tIndex.ok v := by
  obtain ⟨_, _, rfl, z0, _, _, rfl, z1, _, _, rfl, z2, rfl⟩ := shp_struct Tryz.underlying179 h
  obtain ⟨x0, rfl, y0⟩ := shp_str Tryz.underlying9 z0
  obtain ⟨x1, rfl⟩ := shp_bool Tryz.underlying4 z1
  obtain ⟨x2, rfl, y2, y2'⟩ := shp_SBy (n := n + 0) z2
  exact ⟨⟨x0, x1, x2⟩, rfl, ⟨y0, y2⟩, y2'⟩
theorem shp_SIndex {n : Nat} {r : List AV} (h : shp Tryz.prog (n + 5) 63 r) : ∃ l : List (TIndex), r = (sliceT tIndex).row l ∧ (sliceT tIndex).fits l ∧ (sliceT tIndex).ok l := by
  obtain ⟨rows, rfl, hl, hr⟩ := shp_slice Tryz.underlying63 h
  obtain ⟨l, h1, h2, h3⟩ := rows_of (enc := tIndex.row) (p := fun v => tIndex.fits v ∧ tIndex.ok v) fun r hr' => shp_Index (n := n) (hr r hr')
  subst h1
  exact ⟨l, rfl, ⟨by simpa using hl, fun v hv => (h3 v hv).1⟩, fun v hv => (h3 v hv).2⟩
theorem shp_Def {n : Nat} {r : List AV} (h : shp Tryz.prog (n + 6) 65 r) : ∃ v : TDef, r = v.row ∧ tDef.fits v ∧ tDef.ok v := by
  obtain ⟨_, _, rfl, z0, _, _, rfl, z1, _, _, rfl, z2, _, _, rfl, z3, rfl⟩ := shp_struct Tryz.underlying65 h
  obtain ⟨x0, rfl, y0⟩ := shp_str Tryz.underlying9 z0
  obtain ⟨x1, rfl, y1, y1'⟩ := shp_SCol (n := n + 2) z1
  obtain ⟨x2, rfl, y2, y2'⟩ := shp_SBy (n := n + 2) z2
  obtain ⟨x3, rfl, y3, y3'⟩ := shp_SIndex (n := n + 0) z3
  exact ⟨⟨x0, x1, x2, x3⟩, rfl, ⟨y0, y1, y2, y3⟩, ⟨y1', y2', y3'⟩⟩
theorem shp_SDef {n : Nat} {r : List AV} (h : shp Tryz.prog (n + 7) 22 r) : ∃ l : List (TDef), r = (sliceT tDef).row l ∧ (sliceT tDef).fits l ∧ (sliceT tDef).ok l := by
  obtain ⟨rows, rfl, hl, hr⟩ := shp_slice Tryz.underlying22 h
  obtain ⟨l, h1, h2, h3⟩ := rows_of (enc := tDef.row) (p := fun v => tDef.fits v ∧ tDef.ok v) fun r hr' => shp_Def (n := n) (hr r hr')
  subst h1
  exact ⟨l, rfl, ⟨by simpa using hl, fun v hv => (h3 v hv).1⟩, fun v hv => (h3 v hv).2⟩
theorem shp_Val {n : Nat} {r : List AV} (h : shp Tryz.prog (n + 2) 68 r) : ∃ v : TVal, r = v.row ∧ tVal.fits v ∧ tVal.ok v := by
  obtain ⟨_, _, rfl, z0, _, _, rfl, z1, _, _, rfl, z2, rfl⟩ := shp_struct Tryz.underlying68 h
  obtain ⟨x0, rfl, y0⟩ := shp_int Tryz.underlying3 z0
  obtain ⟨x1, rfl, y1⟩ := shp_int Tryz.underlying3 z1
  obtain ⟨x2, rfl, y2⟩ := shp_str Tryz.underlying9 z2
  exact ⟨⟨x0, x1, x2⟩, rfl, y2, ⟨wf_i64 y0, wf_i64 y1⟩⟩
theorem shp_SVal {n : Nat} {r : List AV} (h : shp Tryz.prog (n + 3) 23 r) : ∃ l : List (TVal), r = (sliceT tVal).row l ∧ (sliceT tVal).fits l ∧ (sliceT tVal).ok l := by
  obtain ⟨rows, rfl, hl, hr⟩ := shp_slice Tryz.underlying23 h
  obtain ⟨l, h1, h2, h3⟩ := rows_of (enc := tVal.row) (p := fun v => tVal.fits v ∧ tVal.ok v) fun r hr' => shp_Val (n := n) (hr r hr')
  subst h1
  exact ⟨l, rfl, ⟨by simpa using hl, fun v hv => (h3 v hv).1⟩, fun v hv => (h3 v hv).2⟩
theorem shp_Scan {n : Nat} {r : List AV} (h : shp Tryz.prog (n + 4) 25 r) : ∃ v : TScan, r = v.row ∧ tScan.fits v ∧ tScan.ok v := by
  obtain ⟨_, _, rfl, z0, _, _, rfl, z1, _, _, rfl, z2, _, _, rfl, z3, _, _, rfl, z4, _, _, rfl, z5, _, _, rfl, z6, _, _, rfl, z7, rfl⟩ := shp_struct Tryz.underlying25 h
  obtain ⟨x0, rfl, y0⟩ := shp_int Tryz.underlying3 z0
  obtain ⟨x1, rfl, y1⟩ := shp_int Tryz.underlying3 z1
  obtain ⟨x2, rfl, y2, y2'⟩ := shp_SVal (n := n + 0) z2
  obtain ⟨x3, rfl, y3, y3'⟩ := shp_SVal (n := n + 0) z3
  obtain ⟨x4, rfl⟩ := shp_bool Tryz.underlying4 z4
  obtain ⟨x5, rfl⟩ := shp_bool Tryz.underlying4 z5
  obtain ⟨x6, rfl⟩ := shp_bool Tryz.underlying4 z6
  obtain ⟨x7, rfl, y7⟩ := shp_int Tryz.underlying3 z7
  exact ⟨⟨x0, x1, x2, x3, x4, x5, x6, x7⟩, rfl, ⟨y2, y3⟩, ⟨wf_i64 y0, wf_i64 y1, y2', y3', wf_i64 y7⟩⟩
theorem hlaw (xs : List AV) (h : shpAs Tryz.prog 8 Tryz.f3.params.toList xs) : C_law xs = some (.bool true) := by
  rw [Tryz.params3] at h
  obtain ⟨y0, r0, rfl, z0, y1, r1, rfl, z1, y2, r2, rfl, z2, zend⟩ := h
  have hr : r2 = [] := zend
  subst hr
  obtain ⟨v0, e0, f0, o0⟩ := shp_SDef (n := 1) (shpA_one (fun fs e => by rw [Tryz.underlying22] at e; cases e) z0)
  obtain rfl : y0 = (sliceT tDef).enc v0 := List.head_eq_of_cons_eq e0
  obtain ⟨w1, rfl, z1'⟩ := shpA_agg Tryz.underlying25 z1
  obtain ⟨v1, rfl, f1, o1⟩ := shp_Scan (n := 4) z1'
  obtain ⟨v2, e2, f2, o2⟩ := shp_SVal (n := 5) (shpA_one (fun fs e => by rw [Tryz.underlying23] at e; cases e) z2)
  obtain rfl : y2 = (sliceT tVal).enc v2 := List.head_eq_of_cons_eq e2
  exact c3_eq (sliceT tDef) tScan (sliceT tVal) ⟨⟨f0, o0⟩, ⟨f1, o1⟩, ⟨f2, o2⟩⟩
end Go.Proofs.YtienjjjhjeigmaaGreatDoor.Is
