/- What the functions that FnExactLevel calls answer, for every argument within the law's bounds: part 3. -/
import Derived.Test.YtmfkjlnhanomfaaGreatLvP2
import Derived.Lib.Bytealg
set_option linter.unusedVariables false
set_option linter.unusedSimpArgs false
set_option linter.unnecessarySimpa false
/- What the functions that FnExactLevel calls answer: part 18. -/
namespace Go.Proofs.YtmfkjlnhanomfaaGreat.Lv
open Go Go.RowKit Go.Ev
set_option linter.unusedSimpArgs false
set_option linter.unusedVariables false
set_option maxHeartbeats 1600000
noncomputable def C_impl_NodeAt := c2 tTxn intT (fun (t : TTxn) (n : Int) => tTxn.cost t ≤ 1048576) (fun x => .tup [.agg (x.1).row, .bool x.2]) fun (t : TTxn) (n : Int) => nodeAt t n
theorem C_impl_NodeAt_eq (t : TTxn) (n : Int) (h : tTxn.cost t ≤ 1048576) : C_impl_NodeAt [.agg [.imm (t.fD.fSecs.map (sliceT u8T).row), .imm (t.fD.fCache.map TWrite.row), .int .i64 t.fD.fOps, .imm (t.fD.fFaults.map TFault.row), .bool t.fD.fDown, .int .i64 t.fM.fGen, .int .i64 t.fM.fRoot, .int .i64 t.fRoot, .imm (t.fNew.map TFresh.row)], .int .i64 n] = some (.tup [.agg (((nodeAt t n).1)).row, .bool ((nodeAt t n).2)]) := c2_eq tTxn intT h
theorem ok_impl_NodeAt {WI : World → Prop} (hs : Stable WI) (cs) (hT : TOK (EE cs) WI) (h1 : (EE cs).T 49 = some C_impl_newAt) (h2 : (EE cs).T 50 = some C_impl_copyNode) (h3 : (EE cs).T 51 = some C_impl_PageAt) (h4 : (EE cs).T 52 = some C_impl_GetNode) : PureOK Tryz.prog WI 23 C_impl_NodeAt := by
  refine pure2 (E := EE cs) hT hs (by rw [st_impl_NodeAt]; rfl) fun t n hp => out_wp (n := 0) (st_impl_NodeAt cs) ?_
  obtain ⟨z1, z2, z3⟩ := txCost hp
  have c1 := C_impl_newAt_eq t n hp
  have c3 := C_impl_PageAt_eq t.fD n 1 z1
  have hl := pageAt_len t.fD n 1
  have f3 : sFill [.bool false, .snil, .snil, .snil] [] = some [.bool false, .snil, .snil, .snil] := rfl
  unfold nodeAt
  rcases find_both n t.fNew [] with ⟨g1, g2⟩ | ⟨p, f, r, g0, g1, g2⟩
  · rw [g2] at c1
    rw [g1]
    simp only [Option.getD_none] at c1
    unfold nodeDisk
    rcases hpa : pageAt t.fD n 1 with ⟨b, ok⟩
    rw [hpa] at c3 hl
    simp only at hl ⊢
    cases ok with
    | false => simp only [go_sem, kSt_ptr, Nat.reduceBEq, Nat.reduceAdd, Nat.reduceLeDiff, Int.reduceLE, s_impl_NodeAt, TTxn.row, tTxn_enc, h1, c1, h3, c3, f3, noNode, TNode.row, Bool.false_eq_true]
    | true =>
      have c4 := C_impl_GetNode_eq b hl
      simp only [go_sem, kSt_ptr, Nat.reduceBEq, Nat.reduceAdd, Nat.reduceLeDiff, Int.reduceLE, s_impl_NodeAt, TTxn.row, tTxn_enc, h1, c1, h3, c3, h4, c4, f3, TNode.row]
  · rw [g2] at c1
    rw [g1]
    simp only [Option.getD_some, List.length_nil, Int.ofNat_zero, Int.zero_add] at c1
    have c2 := C_impl_copyNode_eq f.fX (z3 f (by rw [g0]; simp))
    have hia := fun h => kIa_map (h := h) (row := TFresh.row) (sz := 5) (l := t.fNew) (pre := p) (v := f) (rest := r) g0 rfl
    have hp0 : (0 : Int) ≤ (p.length : Int) := by omega
    simp only [go_sem, kSt_ptr, Nat.reduceBEq, Nat.reduceAdd, Nat.reduceLeDiff, s_impl_NodeAt, TTxn.row, tTxn_enc, h1, c1, hia, TFresh.row, h2, deepC_false, c2, hp0, TNode.row]
noncomputable def C_impl_isEmpty := c1 tNode (fun (x : TNode) => tNode.cost x ≤ 1048576) (.bool) fun (x : TNode) => nodeEmpty x
theorem C_impl_isEmpty_eq (x : TNode) (h : tNode.cost x ≤ 1048576) : C_impl_isEmpty [.agg [.bool x.fLeaf, .imm (x.fKeys.map strT.row), .imm (x.fVals.map strT.row), .imm (x.fKids.map intT.row)]] = some (.bool ((nodeEmpty x))) := c1_eq tNode h
theorem ok_impl_isEmpty {WI : World → Prop} (hs : Stable WI) (cs) (hT : TOK (EE cs) WI) : PureOK Tryz.prog WI 24 C_impl_isEmpty := by
  refine pure1 (E := EE cs) hT hs (by rw [st_impl_isEmpty]; rfl) fun x hp => out_wp (n := 0) (st_impl_isEmpty cs) ?_
  have nb := nodeB hp
  have e1 : (((x.fKeys.length : Nat) : Int) == 0) = decide (x.fKeys.length = 0) := beqN _ 0
  have e2 : (((x.fKids.length : Nat) : Int) == 0) = decide (x.fKids.length = 0) := beqN _ 0
  cases hx : x.fLeaf <;> cases d1 : decide (x.fKeys.length = 0) <;> cases d2 : decide (x.fKids.length = 0) <;> simp only [go_sem, Nat.reduceBEq, Nat.reduceAdd, Nat.reduceLeDiff, s_impl_isEmpty, TNode.row, tNode_enc, hx, e1, d1, e2, d2, nodeEmpty, Bool.false_eq_true]
noncomputable def C_impl_MetaOk := c1 tMeta (fun (m : TMeta) => True) (.bool) fun (m : TMeta) => metaOk m
theorem C_impl_MetaOk_eq (m : TMeta) (h : True) : C_impl_MetaOk [.agg [.int .i64 m.fGen, .int .i64 m.fRoot]] = some (.bool ((metaOk m))) := c1_eq tMeta h
theorem ok_impl_MetaOk {WI : World → Prop} (hs : Stable WI) (cs) (hT : TOK (EE cs) WI) (h1 : (EE cs).T 85 = some C_impl_in) (h2 : (EE cs).T 135 = some C_impl_isSector) : PureOK Tryz.prog WI 121 C_impl_MetaOk := by
  refine pure1 (E := EE cs) hT hs (by rw [st_impl_MetaOk]; rfl) fun m hp => out_wp (n := 0) (st_impl_MetaOk cs) ?_
  have c1 := C_impl_in_eq m.fGen 0 1000000
  have c2 := C_impl_isSector_eq m.fRoot trivial
  unfold metaOk
  cases e1 : inR m.fGen 0 1000000 with
  | false => simp only [go_sem, Nat.reduceBEq, s_impl_MetaOk, TMeta.row, tMeta_enc, h1, c1, e1]
  | true =>
    cases e2 : (m.fRoot == 0) <;> simp only [go_sem, Nat.reduceBEq, Nat.reduceAdd, Nat.reduceLeDiff, s_impl_MetaOk, TMeta.row, tMeta_enc, h1, c1, e1, e2, h2, c2, Bool.true_or, Bool.false_or]
noncomputable def C_impl_PutMeta := c1 tMeta (fun (m : TMeta) => True) (fun x => .imm (x.map u8T.row)) fun (m : TMeta) => putMeta m
theorem C_impl_PutMeta_eq (m : TMeta) (h : True) : C_impl_PutMeta [.agg [.int .i64 m.fGen, .int .i64 m.fRoot]] = some (.imm (((putMeta m)).map u8T.row)) := c1_eq tMeta h
theorem ok_impl_PutMeta {WI : World → Prop} (hs : Stable WI) (cs) (hT : TOK (EE cs) WI) (h1 : (EE cs).T 121 = some C_impl_MetaOk) (h2 : (EE cs).T 114 = some C_impl_clamp) (h4 : (EE cs).T 112 = some C_impl_PutPage) : OwnOK Tryz.prog WI 108 C_impl_PutMeta := by
  refine own1 (E := EE cs) hT hs (by rw [st_impl_PutMeta]; rfl) fun m hp => outO_wp (st_impl_PutMeta cs) ?_
  have c1 := C_impl_MetaOk_eq m trivial
  have u1 := (uenc_len (clampN m.fGen) (clampN_le _)).1
  have u2 := (uenc_len (clampN m.fRoot) (clampN_le _)).1
  unfold putMeta
  cases hk : metaOk m with
  | false =>
    rw [hk] at c1
    simp only [go_sem, Nat.reduceBEq, Nat.reduceAdd, s_impl_PutMeta, TMeta.row, tMeta_enc, h1, c1, Bool.false_eq_true]
    exact OwS.owE0 u8T
  | true =>
  rw [hk] at c1
  have hb : (metaBody m).length ≤ 6 := by unfold metaBody; rw [List.length_append]; omega
  have c4 := C_impl_PutPage_eq 2 (metaBody m) (by omega)
  rw [if_pos rfl]
  simp only [go_sem, Nat.reduceBEq, Nat.reduceAdd, s_impl_PutMeta, TMeta.row, tMeta_enc, h1, c1]
  refine hP_appO (ap_impl_addU cs h2 m.fGen) (OwS.nil 0 u8T (lo := 1) (hi := 1) (Nat.le_refl _) (by simp)) (by simp only [List.length_nil]; omega) ?_
  intro v1 g1 o1 n1 f1 a1
  rw [List.nil_append] at o1
  have b1 : g1.hp 0 = some [.int .i64 m.fGen, .int .i64 m.fRoot] := (f1 0 (by decide)).trans (by simp)
  simp only [go_sem, Nat.reduceBEq, Nat.reduceAdd, Nat.reduceLeDiff, b1]
  refine hP_appO (ap_impl_addU cs h2 m.fRoot) o1 (by omega) ?_
  intro v2 g2 o2 n2 f2 a2
  simp only [go_sem, Nat.reduceBEq, h4]
  refine hP_own (n := 1) (mapO2 (intT.frzT 8 g2 2) (o2.owI.frz (by decide))) c4 ((sliceT u8T).okT (putPage 2 (metaBody m)) (by decide)) (by decide) ?_
  intro x3 g3 o3 p3 q3 n3
  simp only [go_sem, Nat.reduceBEq]
  exact o3.owE (by decide)
noncomputable def C_impl_GetMeta := c1 (sliceT u8T) (fun (b : List (UInt8)) => b.length ≤ 1048576) (fun x => .tup [.agg (x.1).row, .bool x.2]) fun (b : List (UInt8)) => getMeta b
theorem C_impl_GetMeta_eq (b : List (UInt8)) (h : b.length ≤ 1048576) : C_impl_GetMeta [.imm (b.map u8T.row)] = some (.tup [.agg (((getMeta b).1)).row, .bool ((getMeta b).2)]) := c1_eq (sliceT u8T) h
theorem ok_impl_GetMeta {WI : World → Prop} (hs : Stable WI) (cs) (hT : TOK (EE cs) WI) (h1 : (EE cs).T 83 = some C_impl_GetPage) (h2 : (EE cs).T 84 = some C_impl_GetU) (h4 : (EE cs).T 108 = some C_impl_PutMeta) : PureOK Tryz.prog WI 78 C_impl_GetMeta := by
  refine pure1 (E := EE cs) hT hs (by rw [st_impl_GetMeta]; rfl) fun b hp => out_wp (n := 0) (st_impl_GetMeta cs) ?_
  have c1 := C_impl_GetPage_eq b hp
  unfold getMeta
  rcases hg : getPage b with ⟨k, body, ok⟩
  rw [hg] at c1
  have hl := getPage_len hg
  simp only
  have c2 := C_impl_GetU_eq body 0 (by omega)
  rcases hu : getU body 0 with ⟨g, j, is⟩
  rw [hu] at c2
  simp only
  have c3 := C_impl_GetU_eq body j (by omega)
  rcases hv : getU body j with ⟨r, nx, good⟩
  rw [hv] at c3
  unfold metaOf
  simp only
  have c4 := C_impl_PutMeta_eq ⟨g, r⟩ trivial
  cases ok with
  | false => simp only [go_sem, kSt_ptr, Nat.reduceBEq, Nat.reduceAdd, s_impl_GetMeta, h1, c1, h2, c2, c3, mFill, mFill0, TMeta.row, false_and]
  | true =>
  cases is with
  | false => simp only [go_sem, kSt_ptr, Nat.reduceBEq, Nat.reduceAdd, s_impl_GetMeta, h1, c1, h2, c2, c3, mFill, mFill0, TMeta.row, false_and, and_false]
  | true =>
  cases good with
  | false => simp only [go_sem, kSt_ptr, Nat.reduceBEq, Nat.reduceAdd, s_impl_GetMeta, h1, c1, h2, c2, c3, mFill, mFill0, TMeta.row, false_and, and_false]
  | true =>
  have hi := meta_iff hg hu hv
  by_cases hpp : putMeta ⟨g, r⟩ = b
  · obtain ⟨y1, y2, y3⟩ := hi.1 hpp
    have e2 : (putMeta ⟨g, r⟩ == b) = true := by simp [hpp]
    rw [if_pos ⟨rfl, y1, rfl, rfl, y2, y3⟩]
    simp only [go_sem, kSt_ptr, Nat.reduceBEq, Nat.reduceAdd, s_impl_GetMeta, h1, c1, h2, c2, c3, h4, deepC_false, c4, mFill, mFill0, TMeta.row, nsI, rowsIn_imm, rowsBytes_u8, e2]
  · have e2 : (putMeta ⟨g, r⟩ == b) = false := by simpa using hpp
    rw [if_neg (fun h => hpp (hi.2 ⟨h.2.1, h.2.2.2.2.1, h.2.2.2.2.2⟩))]
    simp only [go_sem, kSt_ptr, Nat.reduceBEq, Nat.reduceAdd, s_impl_GetMeta, h1, c1, h2, c2, c3, h4, deepC_false, c4, mFill, mFill0, TMeta.row, nsI, rowsIn_imm, rowsBytes_u8, e2]
noncomputable def C_impl_BestMeta := c1 tDisk (fun (d : TDisk) => tDisk.cost d ≤ 1048576) (fun x => .tup [.agg (x.1).row, .bool x.2]) fun (d : TDisk) => bestMeta d
theorem C_impl_BestMeta_eq (d : TDisk) (h : tDisk.cost d ≤ 1048576) : C_impl_BestMeta [.agg [.imm (d.fSecs.map (sliceT u8T).row), .imm (d.fCache.map TWrite.row), .int .i64 d.fOps, .imm (d.fFaults.map TFault.row), .bool d.fDown]] = some (.tup [.agg (((bestMeta d).1)).row, .bool ((bestMeta d).2)]) := c1_eq tDisk h
theorem ok_impl_BestMeta {WI : World → Prop} (hs : Stable WI) (cs) (hT : TOK (EE cs) WI) (h1 : (EE cs).T 77 = some C_impl_ReadSec) (h2 : (EE cs).T 78 = some C_impl_GetMeta) : PureOK Tryz.prog WI 46 C_impl_BestMeta := by
  refine pure1 (E := EE cs) hT hs (by rw [st_impl_BestMeta]; rfl) fun d hp => out_wp (n := 0) (st_impl_BestMeta cs) ?_
  have hp' : tDisk.cost d ≤ 1048576 := hp
  simp only [go_sem, Nat.reduceAdd, s_impl_BestMeta, TDisk.row, tDisk_enc]
  refine (wl_count 2 (fun k e h => e 1 = .ptr 0 0 ∧ h.hp 0 = some [.imm (d.fSecs.map (sliceT u8T).row), .imm (d.fCache.map TWrite.row), .int .i64 d.fOps, .imm (d.fFaults.map TFault.row), .bool d.fDown] ∧ e 4 = .ptr 2 0 ∧ h.hp 2 = some [.int .i64 (accK d k).1.fGen, .int .i64 (accK d k).1.fRoot] ∧ e 5 = .bool (accK d k).2 ∧ e 2 = .ptr 1 0 ∧ h.hp 1 = some [.int .i64 0, .int .i64 0] ∧ 3 ≤ h.nx ∧ e 11 = .int .i64 ((k : Nat) : Int)) (.exit 0) (fun e h => e 2 = .ptr 1 0 ∧ h.hp 1 = some [.int .i64 0, .int .i64 0] ∧ e 4 = .ptr 2 0 ∧ h.hp 2 = some [.int .i64 (accK d 2).1.fGen, .int .i64 (accK d 2).1.fRoot] ∧ e 5 = .bool (accK d 2).2) ?_ ?_ (by simp) 2 0 _ _ rfl ?_).mono ?_
  · rintro k e h hk ⟨q1, qd, q4, qp, q5, q2, qr, qn, q6⟩
    have hk2 : ((k : Nat) : Int) < 2 := by omega
    have c1 := C_impl_ReadSec_eq d (k : Int) hp'
    have hl := readSec_len hp' (k : Int)
    have ho := sec_ok (d := d) (i := (k : Int))
    have hs := accK_succ d k
    rcases hr : readSec d (k : Int) with ⟨b, ok⟩
    rw [hr] at c1 hl ho
    simp only at hl ho
    have c2 := C_impl_GetMeta_eq b hl
    rcases hm : getMeta b with ⟨m, is⟩
    rw [hm] at c2 ho
    simp only at ho
    have n0 : ¬ 0 = h.nx := by omega
    have n1 : ¬ 1 = h.nx := by omega
    have n2 : ¬ 2 = h.nx := by omega
    have n3 : 3 ≤ h.nx + 1 := by omega
    have w1 := w1N (k := k) (by omega)
    cases is with
    | false =>
      rw [metaStep_no hr hm (by simp)] at hs
      cases ok <;> simp only [go_sem, kSt_ptr, Nat.reduceBEq, Nat.reduceAdd, s_impl_BestMeta_L0, q1, q2, q4, q5, q6, hk2, qd, qp, qr, h1, c1, h2, c2, TMeta.row, n0, n1, n2, n3, w1, hs]
    | true =>
      have hok := ho rfl
      subst hok
      by_cases hg : m.fGen.tmod 2 = (k : Int)
      · have e1 : (m.fGen.tmod 2 == (k : Int)) = true := by rw [hg]; simp
        cases hf : (accK d k).2 with
        | false =>
          rw [metaStep_yes hr hm hg (.inl hf)] at hs
          simp only [go_sem, kSt_ptr, Nat.reduceBEq, Nat.reduceAdd, s_impl_BestMeta_L0, q1, q2, q4, q5, q6, hk2, qd, qp, qr, h1, c1, h2, c2, TMeta.row, n0, n1, n2, n3, w1, hs, hf, mRem, e1]
        | true =>
          by_cases hc : (accK d k).1.fGen < m.fGen
          · rw [metaStep_yes hr hm hg (.inr hc)] at hs
            simp only [go_sem, kSt_ptr, Nat.reduceBEq, Nat.reduceAdd, s_impl_BestMeta_L0, q1, q2, q4, q5, q6, hk2, qd, qp, qr, h1, c1, h2, c2, TMeta.row, n0, n1, n2, n3, w1, hs, hf, mRem, e1, hc]
          · rw [metaStep_no hr hm (fun h => by rcases h.2.2 with h | h; rw [hf] at h; cases h; exact hc h)] at hs
            simp only [go_sem, kSt_ptr, Nat.reduceBEq, Nat.reduceAdd, s_impl_BestMeta_L0, q1, q2, q4, q5, q6, hk2, qd, qp, qr, h1, c1, h2, c2, TMeta.row, n0, n1, n2, n3, w1, hs, hf, mRem, e1, hc]
      · have e1 : (m.fGen.tmod 2 == (k : Int)) = false := by simpa using hg
        rw [metaStep_no hr hm (fun h => hg h.2.1)] at hs
        simp only [go_sem, kSt_ptr, Nat.reduceBEq, Nat.reduceAdd, s_impl_BestMeta_L0, q1, q2, q4, q5, q6, hk2, qd, qp, qr, h1, c1, h2, c2, TMeta.row, n0, n1, n2, n3, w1, hs, mRem, e1]
  · rintro e h ⟨q1, qd, q4, qp, q5, q2, qr, qn, q6⟩
    simp only [go_sem, Nat.reduceBEq, s_impl_BestMeta_L0, q6, q2, q4, q5, qp, qr, d2]
  · exact ⟨rfl, rfl, rfl, rfl, rfl, rfl, rfl, Nat.le_refl _, rfl⟩
  · rintro x e h ⟨rfl, q2, qr, q4, qp, q5⟩
    simp only [go_sem, kSt_ptr, Nat.reduceBEq, Nat.reduceAdd, q2, qr, q4, qp, q5, bestMeta, TMeta.row]
noncomputable def C_impl_copyDisk := c1 tDisk (fun (d : TDisk) => tDisk.cost d ≤ 1048576) (fun x => .agg (x).row) fun (d : TDisk) => d
theorem C_impl_copyDisk_eq (d : TDisk) (h : tDisk.cost d ≤ 1048576) : C_impl_copyDisk [.agg [.imm (d.fSecs.map (sliceT u8T).row), .imm (d.fCache.map TWrite.row), .int .i64 d.fOps, .imm (d.fFaults.map TFault.row), .bool d.fDown]] = some (.agg (((d))).row) := c1_eq tDisk h
theorem ok_impl_copyDisk {WI : World → Prop} (hs : Stable WI) (cs) (hT : TOK (EE cs) WI) : OwnOK Tryz.prog WI 47 C_impl_copyDisk := by
  refine own1 (E := EE cs) hT hs (by rw [st_impl_copyDisk]; rfl) fun d hp => outO_wp (st_impl_copyDisk cs) ?_
  have hp' : tDisk.cost d ≤ 1048576 := hp
  have hcost : tDisk.cost d = (sliceT (sliceT u8T)).cost d.fSecs + (sliceT tWrite).cost d.fCache + (sliceT tFault).cost d.fFaults := rfl
  have hc1 : (sliceT (sliceT u8T)).cost d.fSecs = d.fSecs.length + costL (sliceT u8T) d.fSecs := rfl
  have hc2 : (sliceT tWrite).cost d.fCache = d.fCache.length + costL tWrite d.fCache := rfl
  have hc3 : (sliceT tFault).cost d.fFaults = d.fFaults.length + costL tFault d.fFaults := rfl
  simp only [go_sem, Nat.reduceBEq, Nat.reduceAdd, s_impl_copyDisk, TDisk.row, tDisk_enc]
  refine (wl_for (l := d.fSecs) (fun pre e h => e 1 = .ptr 0 0 ∧ e 2 = .ptr 1 0 ∧ e 10 = .imm (d.fSecs.map (sliceT u8T).row) ∧ h.hp 0 = some [.imm (d.fSecs.map (sliceT u8T).row), .imm (d.fCache.map TWrite.row), .int .i64 d.fOps, .imm (d.fFaults.map TFault.row), .bool d.fDown] ∧ h.hp 1 = some [.snil, .snil, .int .i64 0, .snil, .bool false] ∧ 2 ≤ h.nx ∧ OwS 1 (sliceT u8T) 2 h.nx pre (e 3) h ∧ e 12 = .int .i64 pre.length ∧ e 11 = .int .i64 (d.fSecs).length) (.exit 0) (fun e h => e 1 = .ptr 0 0 ∧ e 2 = .ptr 1 0 ∧ e 10 = .imm (d.fSecs.map (sliceT u8T).row) ∧ h.hp 0 = some [.imm (d.fSecs.map (sliceT u8T).row), .imm (d.fCache.map TWrite.row), .int .i64 d.fOps, .imm (d.fFaults.map TFault.row), .bool d.fDown] ∧ h.hp 1 = some [.snil, .snil, .int .i64 0, .snil, .bool false] ∧ 2 ≤ h.nx ∧ OwS 1 (sliceT u8T) 2 h.nx (d.fSecs) (e 3) h) (by omega) ?_ ?_ (by simp) d.fSecs [] _ _ rfl ?_).mono ?_
  · rintro pre v rest e h a ⟨q0, q1, q2, q3, q4, q5, q6, ix, nx⟩
    have hvc := costL_mem (sliceT u8T) a.mem
    have hvc2 : (sliceT u8T).cost v = v.length + costL u8T v := rfl
    simp only [go_sem, Nat.reduceBEq, s_impl_copyDisk_L0, q0, q1, q2, q3, q4, q5, ix, nx, a.dl, a.ia (row := (sliceT u8T).row) (sz := 1) rfl, sliceT_row]
    refine hP_cpO v (cp_impl_copyBytes cs) (by omega) rfl ?_
    intro x h1 os1 k3 k1 k2
    obtain ⟨A1, c1, z1⟩ := OwI.slice os1.owI k3
    have f1 : fillR (List.replicate 1 [.snil]) 1 [(0, x)] = some [[x]] := by simp [fillR, z1, c1]
    simp only [go_sem, Nat.reduceBEq, f1]
    refine hP_growA (lo' := h.nx) (hi' := h1.nx) v rfl (q6.mono (by simp only []; omega) fun q _ hq => by have g : ¬ q = h1.nx := (by omega); simp only [g, if_false]; exact k1 q hq) (rowsIn_sl1 (cs := [x]) (by simp) rfl) (A1.mono (by simp only []; omega) fun q _ hq => by have g : ¬ q = h1.nx := (by omega); simp only [g, if_false]) (Nat.le_refl _) (by have := a.lt; unfold room; omega) ?_
    intro v' h' g1 g2 g3 g4
    have g5 : h1.nx + 1 ≤ h'.nx := g2
    have e0 : h'.hp 0 = h.hp 0 := (g3 0 (by omega) (by simp only []; omega)).trans (by have g : ¬ 0 = h1.nx := (by omega); simp only [g, if_false]; exact k1 0 (by omega))
    have e1 : h'.hp 1 = h.hp 1 := (g3 1 (by omega) (by simp only []; omega)).trans (by have g : ¬ 1 = h1.nx := (by omega); simp only [g, if_false]; exact k1 1 (by omega))
    simp only [go_sem, Nat.reduceBEq, q0, q1, q2, e0, e1, q3, q4, ix, nx, a.hw]
    exact ⟨by omega, g1⟩
  · rintro e h ⟨q0, q1, q2, q3, q4, q5, q6, ix, nx⟩
    simp only [go_sem, Nat.reduceBEq, s_impl_copyDisk_L0, q0, q1, q2, q3, q4, q5, q6, ix, nx]
  · exact ⟨rfl, rfl, rfl, rfl, rfl, Nat.le_refl _, OwS.nil _ _ (Nat.le_refl _) (Nat.le_refl _), rfl, rfl⟩
  · rintro x e h ⟨rfl, j0, j1, j2, j3, j4, j5, os⟩
    obtain ⟨H, hH⟩ : ∃ H, H = h.nx := ⟨_, rfl⟩
    rw [← hH] at os
    simp only [go_sem, Nat.reduceBEq, Nat.reduceAdd, Nat.reduceLeDiff, j0, j3]
    refine (wl_for (l := d.fCache) (fun pre e h => e 1 = .ptr 0 0 ∧ e 2 = .ptr 1 0 ∧ e 23 = .imm (d.fCache.map TWrite.row) ∧ h.hp 0 = some [.imm (d.fSecs.map (sliceT u8T).row), .imm (d.fCache.map TWrite.row), .int .i64 d.fOps, .imm (d.fFaults.map TFault.row), .bool d.fDown] ∧ h.hp 1 = some [.snil, .snil, .int .i64 0, .snil, .bool false] ∧ H ≤ h.nx ∧ OwS 1 (sliceT u8T) 2 H d.fSecs (e 3) h ∧ OwS 1 tWrite H h.nx pre (e 6) h ∧ e 25 = .int .i64 pre.length ∧ e 24 = .int .i64 (d.fCache).length) (.exit 2) (fun e h => e 1 = .ptr 0 0 ∧ e 2 = .ptr 1 0 ∧ e 23 = .imm (d.fCache.map TWrite.row) ∧ h.hp 0 = some [.imm (d.fSecs.map (sliceT u8T).row), .imm (d.fCache.map TWrite.row), .int .i64 d.fOps, .imm (d.fFaults.map TFault.row), .bool d.fDown] ∧ h.hp 1 = some [.snil, .snil, .int .i64 0, .snil, .bool false] ∧ H ≤ h.nx ∧ OwS 1 (sliceT u8T) 2 H d.fSecs (e 3) h ∧ OwS 1 tWrite H h.nx (d.fCache) (e 6) h) (by omega) ?_ ?_ (by simp) d.fCache [] _ _ rfl ?_).mono ?_
    · rintro pre v rest e h a ⟨q0, q1, q2, q3, q4, q5, q6, q7, ix, nx⟩
      have hvc := costL_mem tWrite a.mem
      have hvc2 : tWrite.cost v = (sliceT u8T).cost v.fB := rfl
      have hvc3 : (sliceT u8T).cost v.fB = v.fB.length + costL u8T v.fB := rfl
      simp only [go_sem, kSt_ptr, Nat.reduceBEq, Nat.reduceAdd, Nat.reduceLeDiff, s_impl_copyDisk_L1, q0, q1, q2, q3, q4, q5, q6, ix, nx, a.dl, a.ia (row := TWrite.row) (sz := 2) rfl, TWrite.row]
      refine hP_cpO v.fB (cp_impl_copyBytes cs) (by omega) rfl ?_
      intro x h1 os1 k3 k1 k2
      obtain ⟨A1, c1, z1⟩ := OwI.slice os1.owI k3
      have k3' : h.nx + 1 ≤ h1.nx := k3
      have k4 : ∀ q, q < h.nx → h1.hp q = h.hp q := fun q hq => (k1 q (Nat.lt_succ_of_lt hq)).trans (by have g : ¬ q = h.nx := (by omega); simp only [g, if_false])
      have b2 : sFill [.int .i64 0, .snil] [(0, 1, .int .i64 v.fN), (1, 1, x)] = some [.int .i64 v.fN, x] := by simp [sFill, fillAt, z1, c1, cl_int, nc_int]
      have f1 : fillR (List.replicate 1 [.int .i64 0, .snil]) 2 [(0, .agg [.int .i64 v.fN, x])] = some [[.int .i64 v.fN, x]] := by simp [fillR, ag_agg, cl_agg]
      simp only [go_sem, Nat.reduceBEq, Nat.reduceAdd, b2, f1]
      refine hP_growA (lo' := h.nx) (hi' := h1.nx) v rfl (q7.mono (by simp only []; omega) fun q _ hq => by have g : ¬ q = h1.nx := (by omega); simp only [g, if_false]; exact k4 q hq) (rowsIn_sl1 (cs := [.int .i64 v.fN, x]) (by simp) rfl) (((A1.leaf (c := .int .i64 v.fN) rfl).wide (lo' := h.nx) (Nat.le_succ _) (Nat.le_refl _) (Nat.le_refl _)).mono (by simp only []; omega) fun q _ hq => by have g : ¬ q = h1.nx := (by omega); simp only [g, if_false]) (Nat.le_refl _) (by have := a.lt; unfold room; omega) ?_
      intro v' h' g1 g2 g3 g4
      have g5 : h1.nx + 1 ≤ h'.nx := g2
      have e9 : ∀ q, q < H → h'.hp q = h.hp q := fun q hq => (g3 q (by omega) (by simp only []; omega)).trans (by have g : ¬ q = h1.nx := (by omega); simp only [g, if_false]; exact k4 q (by omega))
      have e0 := e9 0 (by omega)
      have e1 := e9 1 (by omega)
      simp only [go_sem, Nat.reduceBEq, q0, q1, q2, e0, e1, q3, q4, ix, nx, a.hw]
      exact ⟨by omega, q6.mono (by omega) fun q _ hq => e9 q hq, g1⟩
    · rintro e h ⟨q0, q1, q2, q3, q4, q5, q6, q7, ix, nx⟩
      simp only [go_sem, Nat.reduceBEq, s_impl_copyDisk_L1, q0, q1, q2, q3, q4, q5, q6, q7, ix, nx]
    · exact ⟨j0, j1, rfl, j3, j4, by omega, os, OwS.nil _ _ (by omega) (Nat.le_refl _), rfl, rfl⟩
    · rintro x e h ⟨rfl, j0, j1, j2, j3, j4, jH, os1, os2⟩
      obtain ⟨As, cs1, zs⟩ := os1.owA
      obtain ⟨Ac, cc1, zc⟩ := os2.owA
      simp only [go_sem, kSt_ptr, Nat.reduceBEq, Nat.reduceAdd, Nat.reduceLeDiff, j0, j3, cs1, zs, cc1, zc]
      refine hP_growL d.fFaults rfl rfl (OwS.nil 0 tFault (lo := h.nx) (hi := h.nx) (Nat.le_refl _) (Nat.le_refl _)) (rowsIn_imm _ _ _) (by simp only [List.length_nil]; unfold room; omega) ?_
      intro v' h' g1 g2 g3 g4
      rw [List.nil_append] at g1
      obtain ⟨Af, cf, zf⟩ := g1.owA
      have g5 : h.nx ≤ h'.nx := g2
      have e9 : ∀ q, 2 ≤ q → q < h.nx → h'.hp q = h.hp q := fun q hq hq2 => (g3 q (.inl hq2) hq2).trans (by have g : ¬ q = 0 := (by omega); simp [g])
      have e0 : h'.hp 0 = some [e 3, e 6, .int .i64 d.fOps, .imm (d.fFaults.map TFault.row), .bool d.fDown] := (g3 0 (by omega) (by simp only []; omega)).trans (by simp)
      have e1 : h'.hp 1 = some [.snil, .snil, .int .i64 0, .snil, .bool false] := (g3 1 (by omega) (by simp only []; omega)).trans (by simp [j4])
      simp only [go_sem, kSt_ptr, Nat.reduceBEq, Nat.reduceAdd, Nat.reduceLeDiff, j0, j1, e0, e1, zs, zc, cf, zf]
      replace As := (As.up (m := 8) (by decide)).mono (h' := h') g5 fun q h1 h2 => e9 q h1 (by omega)
      replace Ac := (Ac.up (m := 8) (by decide)).mono (h' := h') g5 fun q h1 h2 => e9 q (by omega) (by omega)
      replace Af := Af.up (m := 8) (by decide)
      have B : OwA 8 2 h'.nx h' [e 3, e 6, .int .i64 d.fOps, v', .bool d.fDown] d.row := As.cat (Ac.cat (OwA.leaf (Af.cat (OwA.leaf (OwA.nil 8 h'.nx (Nat.le_refl _)) rfl) (Nat.le_refl _)) rfl) (Nat.le_refl _)) (Nat.le_refl _)
      refine OwA.owE (n := 8) (lo := 2) (hi := h'.nx) (B.mono ?_ fun q hq hq2 => ?_) (by decide)
      · simp
      · simp [show q ≠ 0 by omega, show q ≠ 1 by omega]
end Go.Proofs.YtmfkjlnhanomfaaGreat.Lv
/- What the functions that FnExactLevel calls answer: part 19. -/
namespace Go.Proofs.YtmfkjlnhanomfaaGreat.Lv
open Go Go.RowKit Go.Ev
set_option linter.unusedSimpArgs false
set_option linter.unusedVariables false
set_option maxHeartbeats 1600000
noncomputable def C_impl_TxNew := c1 tDisk (fun (d : TDisk) => tDisk.cost d ≤ 1048576) (fun x => .agg (x).row) fun (d : TDisk) => txNew d
theorem C_impl_TxNew_eq (d : TDisk) (h : tDisk.cost d ≤ 1048576) : C_impl_TxNew [.agg [.imm (d.fSecs.map (sliceT u8T).row), .imm (d.fCache.map TWrite.row), .int .i64 d.fOps, .imm (d.fFaults.map TFault.row), .bool d.fDown]] = some (.agg (((txNew d))).row) := c1_eq tDisk h
theorem ok_impl_TxNew {WI : World → Prop} (hs : Stable WI) (cs) (hT : TOK (EE cs) WI) (h1 : (EE cs).T 46 = some C_impl_BestMeta) (h2 : (EE cs).T 47 = some C_impl_copyDisk) : PureOK Tryz.prog WI 21 C_impl_TxNew := by
  refine pure1 (E := EE cs) hT hs (by rw [st_impl_TxNew]; rfl) fun d hp => out_wp (n := 0) (st_impl_TxNew cs) ?_
  have c1 := C_impl_BestMeta_eq d hp
  have c2 := C_impl_copyDisk_eq d hp
  unfold txNew
  rcases hb : bestMeta d with ⟨m, ok⟩
  rw [hb] at c1
  cases ok with
  | false => simp only [go_sem, kSt_ptr, Nat.reduceBEq, Nat.reduceAdd, Nat.reduceEqDiff, s_impl_TxNew, TDisk.row, tDisk_enc, TMeta.row, h1, c1, txFill0, noTxn, TTxn.row, Bool.false_eq_true]
  | true => simp only [go_sem, kSt_ptr, Nat.reduceBEq, Nat.reduceAdd, Nat.reduceEqDiff, Nat.reduceLeDiff, s_impl_TxNew, TDisk.row, tDisk_enc, TMeta.row, h1, c1, h2, deepC_false, c2, txFill, TTxn.row]
noncomputable def C_impl_hasInt := c2 (sliceT intT) intT (fun (l : List (Int)) (n : Int) => l.length ≤ 1048576) (.bool) fun (l : List (Int)) (n : Int) => hasI l n
theorem C_impl_hasInt_eq (l : List (Int)) (n : Int) (h : l.length ≤ 1048576) : C_impl_hasInt [.imm (l.map intT.row), .int .i64 n] = some (.bool ((hasI l n))) := c2_eq (sliceT intT) intT h
theorem okP_impl_hasInt {WI : World → Prop} (hs : Stable WI) (cs) (hT : TOK (EE cs) WI) : PureOK Tryz.prog WI 31 C_impl_hasInt := by
  refine pure2 (E := EE cs) hT hs (by rw [st_impl_hasInt]; rfl) fun l n hp => out_wp (n := 0) (st_impl_hasInt cs) ?_
  have hlen : l.length ≤ 1048576 := hp
  simp only [go_sem, Nat.reduceBEq, s_impl_hasInt]
  refine (wl_all (l := l) (fun pre v => !(v == n)) (fun pre e h => e 1 = .int .i64 n ∧ e 7 = .imm (l.map intT.row) ∧ e 9 = .int .i64 pre.length ∧ e 8 = .int .i64 (l).length) (.exit 0) (fun e h => e 1 = .int .i64 n ∧ e 7 = .imm (l.map intT.row)) (fun e h => e 4 = .bool true) (by omega) ?_ ?_ ?_ (by simp) l [] _ _ rfl ?_).mono ?_
  · rintro pre v rest e h a hp ⟨q0, q1, ix, nx⟩
    have hq : (v == n) = false := by simpa using hp
    simp only [go_sem, Nat.reduceBEq, s_impl_hasInt_L0, q0, q1, ix, nx, a.dl, a.ia (row := intT.row) (sz := 1) rfl, a.hw, intT_row, hq]
  · rintro pre v rest e h a hp ⟨q0, q1, ix, nx⟩
    have hq : (v == n) = true := by simpa using hp
    simp only [go_sem, Nat.reduceBEq, s_impl_hasInt_L0, q0, q1, ix, nx, a.dl, a.ia (row := intT.row) (sz := 1) rfl, a.hw, intT_row, hq]
  · rintro e h ⟨q0, q1, ix, nx⟩
    simp only [go_sem, Nat.reduceBEq, s_impl_hasInt_L0, q0, q1, ix, nx]
  · simp only [go_sem, Nat.reduceBEq]
  · rintro x e h (⟨hpp, rfl, _⟩ | ⟨hpp, rfl, j⟩)
    · rw [allP_all] at hpp
      simp only [go_sem, hasI, hpp]
    · rw [allP_all] at hpp
      simp only [go_sem, j, hasI, hpp]
theorem ok_impl_hasInt {WI : World → Prop} (hs : Stable WI) (cs) (hT : TOK (EE cs) WI) : ReadOK Tryz.prog WI 31 C_impl_hasInt := ⟨okP_impl_hasInt hs cs hT, fun ts t h => by unfold C_impl_hasInt c2 at h; obtain ⟨a, _, _, rfl⟩ := ct_inv h; rfl⟩
def C_sort_Ints : List AV → Option AV := fun _ => some (.tup [])
theorem C_sort_Ints_eq : C_sort_Ints [] = some (.tup []) := rfl
section
variable (f : Int → Option (List Int))
/-- Those of a node's kids that are there and not yet in. -/
def addK (out : List Int) (k : Int) : List Int := if (f k).isSome = true ∧ hasI out k = false then out ++ [k] else out
def addAll (out ks : List Int) : List Int := ks.foldl (addK f) out
structure BfsI (r : Int) (out : List Int) (i : Nat) : Prop where
  nd : out.Nodup
  root : r ∈ out
  led : ∀ x ∈ out, Led f r x
  done : ∀ j, j < i → ∀ x, out[j]? = some x → ∀ ks, f x = some ks → ∀ k ∈ ks, ∀ ks', f k = some ks' → k ∈ out
theorem addK_sub (out : List Int) (k : Int) : ∃ q, addK f out k = out ++ q := by
  unfold addK
  split
  · exact ⟨[k], rfl⟩
  · exact ⟨[], by simp⟩
theorem addAll_sub : ∀ (ks out : List Int), ∃ q, addAll f out ks = out ++ q := by
  intro ks
  induction ks with
  | nil => intro out; exact ⟨[], by simp [addAll]⟩
  | cons k ks ih =>
    intro out
    obtain ⟨q1, h1⟩ := addK_sub f out k
    obtain ⟨q2, h2⟩ := ih (addK f out k)
    refine ⟨q1 ++ q2, ?_⟩
    have : addAll f out (k :: ks) = addAll f (addK f out k) ks := rfl
    rw [this, h2, h1, List.append_assoc]
theorem addK_in {out : List Int} {k : Int} (h : (f k).isSome = true) : k ∈ addK f out k := by
  unfold addK
  split
  · simp
  · rename_i hc
    cases hb : hasI out k with
    | false => exact absurd ⟨h, hb⟩ hc
    | true => exact (hasI_iff out k).1 hb
theorem addK_nd {out : List Int} (k : Int) (h : out.Nodup) : (addK f out k).Nodup := by
  unfold addK
  split
  · rename_i hc
    rw [List.nodup_append]
    refine ⟨h, by simp, fun a ha b hb e => ?_⟩
    simp only [List.mem_singleton] at hb
    subst hb; subst e
    rw [(hasI_iff out a).2 ha] at hc
    cases hc.2
  · exact h
theorem addK_mem {out : List Int} {k x : Int} (h : x ∈ addK f out k) : x ∈ out ∨ (x = k ∧ (f k).isSome = true) := by
  unfold addK at h
  split at h
  · rename_i hc
    rcases List.mem_append.1 h with h | h
    · exact .inl h
    · simp only [List.mem_singleton] at h; exact .inr ⟨h, hc.1⟩
  · exact .inl h
theorem addAll_nd : ∀ (ks out : List Int), out.Nodup → (addAll f out ks).Nodup := by
  intro ks
  induction ks with
  | nil => intro out h; exact h
  | cons k ks ih => intro out h; exact ih _ (addK_nd f k h)
theorem addAll_mem : ∀ (ks out : List Int) (x : Int), x ∈ addAll f out ks → x ∈ out ∨ (x ∈ ks ∧ (f x).isSome = true) := by
  intro ks
  induction ks with
  | nil => intro out x h; exact .inl h
  | cons k ks ih =>
    intro out x h
    rcases ih (addK f out k) x h with h | ⟨h, h2⟩
    · rcases addK_mem f h with h | ⟨rfl, h2⟩
      · exact .inl h
      · exact .inr ⟨List.mem_cons_self, h2⟩
    · exact .inr ⟨List.mem_cons_of_mem _ h, h2⟩
theorem addAll_in : ∀ (ks out : List Int) (k : Int), k ∈ ks → (f k).isSome = true → k ∈ addAll f out ks := by
  intro ks
  induction ks with
  | nil => intro out k h; cases h
  | cons a ks ih =>
    intro out k h hf
    rcases List.mem_cons.1 h with rfl | h
    · obtain ⟨q, hq⟩ := addAll_sub f ks (addK f out k)
      have : addAll f out (k :: ks) = addAll f (addK f out k) ks := rfl
      rw [this, hq]
      exact List.mem_append_left _ (addK_in f hf)
    · exact ih _ k h hf
theorem bfs_step {r n : Int} {out : List Int} {i : Nat} {ks : List Int} (b : BfsI f r out i) (hn : out[i]? = some n) (hf : f n = some ks) : BfsI f r (addAll f out ks) (i + 1) := by
  obtain ⟨q, hq⟩ := addAll_sub f ks out
  have hlt : i < out.length := by
    by_cases h : i < out.length
    · exact h
    · rw [List.getElem?_eq_none (by omega)] at hn; cases hn
  have hno : n ∈ out := List.mem_of_getElem? hn
  refine ⟨addAll_nd f ks out b.nd, by rw [hq]; exact List.mem_append_left _ b.root, fun x hx => ?_, fun j hj x hx kx hfx k hk ks' hfk => ?_⟩
  · rcases addAll_mem f ks out x hx with h | ⟨h, h2⟩
    · exact b.led x h
    · obtain ⟨ks', h3⟩ := Option.isSome_iff_exists.1 h2
      exact .kid (b.led n hno) hf h h3
  · have hxo : out[j]? = some x := by
      rw [hq, List.getElem?_append_left (by omega)] at hx
      exact hx
    by_cases hji : j = i
    · subst hji
      rw [hn] at hxo
      injection hxo with hxo
      subst hxo
      rw [hf] at hfx
      injection hfx with hfx
      subst hfx
      exact addAll_in f _ out k hk (by rw [hfk]; rfl)
    · rw [hq]
      exact List.mem_append_left _ (b.done j (by omega) x hxo kx hfx k hk ks' hfk)
theorem bfs_end (hkids : ∀ n ks, f n = some ks → ∀ k ∈ ks, k ∈ secs) {r : Int} (hr : r ∈ secs) {out : List Int} (b : BfsI f r out out.length) (x : Int) : x ∈ out ↔ x ∈ pagesF f r := by
  rw [pagesF_iff f hkids (.inr hr)]
  constructor
  · exact b.led x
  · intro h
    induction h with
    | root _ _ => exact b.root
    | kid hl hf hk hf' ih =>
      obtain ⟨j, hj⟩ := List.getElem?_of_mem ih
      have hjl : j < out.length := by
        by_cases h : j < out.length
        · exact h
        · rw [List.getElem?_eq_none (by omega)] at hj; cases hj
      exact b.done j hjl _ hj _ hf _ hk _ hf'
theorem bfs_sort (hkids : ∀ n ks, f n = some ks → ∀ k ∈ ks, k ∈ secs) {r : Int} (hr : r ∈ secs) {out : List Int} (b : BfsI f r out out.length) : sortI out = pagesF f r := by
  have hp : (sortI out).Perm out := List.mergeSort_perm _ _
  have hs : (sortI out).Pairwise fun x y => decide (x ≤ y) = true := List.pairwise_mergeSort (fun a b c h1 h2 => by simp at h1 h2 ⊢; omega) (fun a b => by simp; omega) out
  have hnd : (sortI out).Nodup := hp.nodup_iff.2 b.nd
  refine sorted_ext ?_ (walk_sorted f 46 r [] List.Pairwise.nil) fun x => ?_
  · unfold Sorted
    have := hs.and hnd
    refine this.imp ?_
    rintro x y ⟨h1, h2⟩
    simp at h1
    omega
  · rw [hp.mem_iff]
    exact bfs_end f hkids hr b x
theorem nd_len : ∀ (l : List Int), l.Nodup → (∀ x ∈ l, x ∈ secs) → l.length + (missing l).length ≤ 46 := by
  intro l
  induction l with
  | nil => intro _ _; unfold missing; have := List.length_filter_le (fun k => !hasI [] k) secs; rw [secs_len] at this; simp only [List.length_nil]; omega
  | cons a l ih =>
    intro h hs
    obtain ⟨h1, h2⟩ := List.nodup_cons.1 h
    have := ih h2 fun x hx => hs x (List.mem_cons_of_mem _ hx)
    have := missing_lt (l := l) (l' := a :: l) (fun x hx => List.mem_cons_of_mem _ hx) (hs a List.mem_cons_self) h1 List.mem_cons_self
    rw [List.length_cons]
    omega
theorem led_secs (hkids : ∀ n ks, f n = some ks → ∀ k ∈ ks, k ∈ secs) {r x : Int} (hr : r ∈ secs) (h : Led f r x) : x ∈ secs := by
  induction h with
  | root _ _ => exact hr
  | kid _ hf hk _ _ => exact hkids _ _ hf _ hk
theorem bfs_len (hkids : ∀ n ks, f n = some ks → ∀ k ∈ ks, k ∈ secs) {r : Int} (hr : r ∈ secs) {out : List Int} {i : Nat} (b : BfsI f r out i) : out.length ≤ 46 := by
  have := nd_len out b.nd fun x hx => led_secs f hkids hr (b.led x hx)
  omega
theorem addAll_len : ∀ (ks out : List Int), (addAll f out ks).length ≤ out.length + ks.length := by
  intro ks
  induction ks with
  | nil => intro out; exact Nat.le_refl _
  | cons k ks ih =>
    intro out
    have h1 := ih (addK f out k)
    have h2 : (addK f out k).length ≤ out.length + 1 := by unfold addK; split <;> simp
    have : addAll f out (k :: ks) = addAll f (addK f out k) ks := rfl
    rw [this, List.length_cons]
    omega
theorem addAll_snoc (out ks : List Int) (k : Int) : addAll f out (ks ++ [k]) = addK f (addAll f out ks) k := by unfold addAll; rw [List.foldl_append]; rfl
theorem bfs_start {r : Int} {ks : List Int} (h0 : r ≠ 0) (h : f r = some ks) : BfsI f r [r] 0 :=
  ⟨by simp, by simp, fun x hx => by simp at hx; subst hx; exact .root h0 h, fun j hj => absurd hj (by omega)⟩
theorem pagesF_none {r : Int} (h : r = 0 ∨ f r = none) : pagesF f r = [] := by
  unfold pagesF
  rw [walkF]
  split
  · rfl
  · rename_i hc
    rcases h with h | h
    · exact absurd (.inl h) hc
    · rw [h]
end
noncomputable def C_impl_PagesOf := c2 tTxn intT (fun (t : TTxn) (r : Int) => tTxn.cost t ≤ 1048576 ∧ t.fNew = [] ∧ (r = 0 ∨ r ∈ secs)) (fun x => .imm (x.map intT.row)) fun (t : TTxn) (r : Int) => pagesOf t r
theorem C_impl_PagesOf_eq (t : TTxn) (r : Int) (h : tTxn.cost t ≤ 1048576 ∧ t.fNew = [] ∧ (r = 0 ∨ r ∈ secs)) : C_impl_PagesOf [.agg [.imm (t.fD.fSecs.map (sliceT u8T).row), .imm (t.fD.fCache.map TWrite.row), .int .i64 t.fD.fOps, .imm (t.fD.fFaults.map TFault.row), .bool t.fD.fDown, .int .i64 t.fM.fGen, .int .i64 t.fM.fRoot, .int .i64 t.fRoot, .imm (t.fNew.map TFresh.row)], .int .i64 r] = some (.imm (((pagesOf t r)).map intT.row)) := c2_eq tTxn intT h
theorem LK0_impl_PagesOf (cs) (h1 : (EE cs).T 23 = some C_impl_NodeAt) (h2 : (EE cs).T 31 = some C_impl_hasInt) {t : TTxn} (ht : tTxn.cost t ≤ 1048576) {kids out : List Int} (hk : kids.length ≤ 1000) (ho : out.length ≤ 46) (i : Nat) {e : Ps} {h : Hp} (e2 : e 2 = .ptr 0 0) (e45 : e 45 = .imm (kids.map intT.row)) (e46 : e 46 = .int .i64 kids.length) (e47 : e 47 = .int .i64 0) (e8 : e 8 = .int .i64 i) (hh : h.hp 0 = some t.row) (go : ints 1 out (e 7) h) :
    WL (EE cs) s_impl_PagesOf_L0 e h fun y e' h' => y = .exit 2 ∧ (e' 2 = .ptr 0 0 ∧ e' 8 = .int .i64 i ∧ h'.hp 0 = some t.row ∧ ints 1 (addAll (fOf t) out kids) (e' 7) h') := by
  refine (wl_for (l := kids) (fun pre e h => e 2 = .ptr 0 0 ∧ e 45 = .imm (kids.map intT.row) ∧ e 46 = .int .i64 kids.length ∧ e 47 = .int .i64 pre.length ∧ e 8 = .int .i64 i ∧ h.hp 0 = some t.row ∧ ints 1 (addAll (fOf t) out pre) (e 7) h) (.exit 2) (fun e' h' => e' 2 = .ptr 0 0 ∧ e' 8 = .int .i64 i ∧ h'.hp 0 = some t.row ∧ ints 1 (addAll (fOf t) out kids) (e' 7) h') (by omega) ?_ ?_ (by simp) kids [] e h rfl ⟨e2, e45, e46, e47, e8, hh, go⟩)
  · rintro pre v rest e h a ⟨q2, q45, q46, q47, q8, qh, r, q7, qr, hr1, hrn⟩
    have c1 := C_impl_NodeAt_eq t v ht
    have hal := addAll_len (fOf t) pre out
    have hpl := a.lt
    have sn := addAll_snoc (fOf t) out pre v
    have n1 : ¬ r = 0 := by omega
    have n2 : ¬ r = h.nx := by omega
    have n3 : 1 ≤ h.nx := by omega
    have n4 : ¬ 0 = h.nx := by omega
    have n5 : ¬ 0 = r := by omega
    rcases hy : nodeAt t v with ⟨y, ok⟩
    rw [hy] at c1
    have hf : fOf t v = if ok = true then some y.fKids else none := by unfold fOf; rw [hy]
    generalize addAll (fOf t) out pre = o1 at *
    cases ok with
    | false =>
      have e1 : addK (fOf t) o1 v = o1 := by unfold addK; rw [hf]; simp
      rw [sn, e1]
      simp only [go_sem, kSt_ptr, Nat.reduceBEq, Nat.reduceAdd, s_impl_PagesOf_L0, q2, q45, q46, q47, q8, qh, q7, a.dl, a.ia (row := intT.row) (sz := 1) rfl, intT_row, TTxn.row, TNode.row, h1, c1, a.hw, n4]
      exact ⟨r, rfl, by simp only [go_sem, n2, qr], hr1, by simp only [go_sem]; omega⟩
    | true =>
      have c2 := C_impl_hasInt_eq o1 v (by omega)
      simp only [go_sem, kSt_ptr, Nat.reduceBEq, Nat.reduceAdd, s_impl_PagesOf_L0, q2, q45, q46, q47, q8, qh, q7, a.dl, a.ia (row := intT.row) (sz := 1) rfl, intT_row, TTxn.row, TNode.row, h1, c1, h2]
      refine hP_read (mapO2 (frzInts (by simp only [go_sem, n2, qr]) (by simp only [go_sem]; omega)) (frzT_int _ _)) c2 ?_
      have f1 : fillR (List.replicate 1 [AV.int IntKind.i64 0]) 1 [(0, .int .i64 v)] = some [[.int .i64 v]] := rfl
      have f2 : frzRows [[AV.int IntKind.i64 v]] = some [[.int .i64 v]] := rfl
      cases hb : hasI o1 v with
      | true =>
        have e1 : addK (fOf t) o1 v = o1 := by unfold addK; rw [hb]; simp
        rw [sn, e1]
        simp only [go_sem, Nat.reduceBEq, q2, q45, q46, q47, q8, qh, q7, a.hw, TTxn.row, n4]
        exact ⟨r, rfl, by simp only [go_sem, n2, qr], hr1, by simp only [go_sem]; omega⟩
      | false =>
        have e1 : addK (fOf t) o1 v = o1 ++ [v] := by unfold addK; rw [hb, hf]; simp
        rw [sn, e1]
        have sa : ∀ (h' : Hp) (id : Nat), h'.hp r = some (o1.map fun k => AV.int .i64 k) → sApp true 8 1 (.sl r 0 o1.length 1) (.app id [[.int .i64 v]]) h' = some (.sl h'.nx 0 (o1.length + 1) 1, (h'.kill r).new ((o1 ++ [v]).map fun k => AV.int .i64 k)) := fun h' id hh => by
          have := sApp_ints (bt := 8) (r := r) (len := o1.length) (x := .app id [[.int .i64 v]]) [v] hh (by simp) rfl (by simp only [List.length_cons, List.length_nil]; unfold room; omega)
          rw [this, List.map_append]
          rfl
        simp only [go_sem, Nat.reduceBEq, q2, q45, q46, q47, q8, qh, q7, f1, f2]
        rw [sa _ _ (by simp only [go_sem, n2, qr])]
        simp only [go_sem, Nat.reduceBEq, Nat.reduceEqDiff, q2, q45, q46, q47, q8, qh, q7, a.hw, TTxn.row, n4, n5, Hp.kill]
        exact ⟨h.nx + 1 + 1, by simp, by simp, by omega, Nat.lt_succ_self _⟩
  · rintro e h ⟨q2, q45, q46, q47, q8, qh, go⟩
    simp only [go_sem, Nat.reduceBEq, s_impl_PagesOf_L0, q2, q45, q46, q47, q8]
    exact ⟨qh, go⟩
theorem led_some {f : Int → Option (List Int)} {r x : Int} (h : Led f r x) : ∃ ks, f x = some ks := by
  cases h with
  | root _ h => exact ⟨_, h⟩
  | kid _ _ _ h => exact ⟨_, h⟩
theorem LK1_impl_PagesOf (cs) (h1 : (EE cs).T 23 = some C_impl_NodeAt) (h2 : (EE cs).T 31 = some C_impl_hasInt) {t : TTxn} (ht : tTxn.cost t ≤ 1048576) (hn : t.fNew = []) {r : Int} (hr : r ∈ secs) {Q : QS}
    (hq : ∀ out e' h', BfsI (fOf t) r out out.length → ints 1 out (e' 7) h' → Q (.exit 0) e' h') :
    ∀ (m i : Nat) (out : List Int) (e : Ps) (h : Hp), 46 ≤ i + m → BfsI (fOf t) r out i → i ≤ out.length → e 2 = .ptr 0 0 → e 8 = .int .i64 i → h.hp 0 = some t.row → ints 1 out (e 7) h → WL (EE cs) s_impl_PagesOf_L1 e h Q := by
  have hkids := fOf_kids hn
  intro m
  induction m with
  | zero =>
    intro i out e h hm b hi e2 e8 hh go
    have hl := bfs_len (fOf t) hkids hr b
    have hio : i = out.length := by omega
    subst hio
    have hc : ¬ (out.length : Int) < out.length := by omega
    obtain ⟨q, q7, qr, hr1, hrn⟩ := go
    refine .step (wp_sound _ _ _ _ ?_)
    simp only [go_sem, Nat.reduceBEq, s_impl_PagesOf_L1, e2, e8, q7, hc]
    exact hq _ _ _ b ⟨q, by simp only [go_sem, Nat.reduceBEq, q7], qr, hr1, hrn⟩
  | succ m ih =>
    intro i out e h hm b hi e2 e8 hh go
    have hl := bfs_len (fOf t) hkids hr b
    by_cases hlt : i < out.length
    · have hc : (i : Int) < out.length := by omega
      obtain ⟨q, q7, qr, hr1, hrn⟩ := go
      have hx := List.getElem?_eq_getElem hlt
      obtain ⟨ks, hks⟩ := led_some (b.led _ (List.getElem_mem hlt))
      have c1 := C_impl_NodeAt_eq t out[i] ht
      have bs := bfs_step (fOf t) b hx hks
      rcases hy : nodeAt t out[i] with ⟨y, ok⟩
      have hf : fOf t out[i] = if ok = true then some y.fKids else none := by unfold fOf; rw [hy]
      have hkl := nodeAt_len hn hy
      rw [hy] at c1
      cases ok with
      | false => rw [hf] at hks; cases hks
      | true =>
        rw [hf] at hks
        simp only [if_true, Option.some.injEq] at hks
        subst hks
        have hk240 : y.fKids.length ≤ 1000 := by
          have e := nodeAt_kids hn hy
          have hd : nodeAt t out[i] = nodeDisk t.fD out[i] := by unfold nodeAt; rw [hn]; rfl
          have h3 := nodeDisk_ok (d := t.fD) (n := out[i]) (by rw [← hd, hy])
          rw [← hd, hy] at h3
          have h4 : y.fKids.length ≤ 240 := body_kids h3
          omega
        have n2 : ¬ q = h.nx := by omega
        have n4 : ¬ 0 = h.nx := by omega
        have hw : IntKind.wrap .i64 ((i : Int) + 1) = ((i + 1 : Nat) : Int) := by rw [wrapId (by omega) (by omega)]; omega
        have hd : (if i ≤ out.length then some ((out.map fun k => AV.int .i64 k).drop i) else none) = some (AV.int .i64 out[i] :: (out.drop (i + 1)).map fun k => AV.int .i64 k) := by rw [if_pos hi, ← List.map_drop, List.drop_eq_getElem_cons hlt, List.map_cons]
        refine .step (wp_sound _ _ _ _ ?_)
        simp only [go_sem, kSt_ptr, Nat.reduceBEq, Nat.reduceAdd, Nat.reduceLeDiff, s_impl_PagesOf_L1, e2, e8, q7, hc, hh, kIa_int hlt, qr, hd, TTxn.row, TNode.row, h1, c1]
        refine WL.mono (LK0_impl_PagesOf cs h1 h2 (t := t) (kids := y.fKids) (out := out) ht hk240 hl i (by simp only [go_sem, Nat.reduceBEq, e2]) (by simp only [go_sem, Nat.reduceBEq]) (by simp only [go_sem, Nat.reduceBEq]) (by simp only [go_sem, Nat.reduceBEq]) (by simp only [go_sem, Nat.reduceBEq, e8]) (by simp only [go_sem, hh, n4, TTxn.row]) ⟨q, by simp only [go_sem, Nat.reduceBEq, q7], by simp only [go_sem, n2, qr], hr1, by simp only [go_sem]; omega⟩) ?_
        rintro y' e' h' ⟨rfl, j2, j8, jh, jg⟩
        simp only [go_sem, Nat.reduceBEq, j8, hw]
        obtain ⟨qq, hqq⟩ := addAll_sub (fOf t) y.fKids out
        exact ih (i + 1) _ _ _ (by omega) bs (by rw [hqq, List.length_append]; omega) (by simp only [go_sem, Nat.reduceBEq, j2]) (by simp only [go_sem, Nat.reduceBEq]) jh (by simp only [go_sem, Nat.reduceBEq, jg])
    · have hio : i = out.length := by omega
      subst hio
      have hc : ¬ (out.length : Int) < out.length := by omega
      obtain ⟨q, q7, qr, hr1, hrn⟩ := go
      refine .step (wp_sound _ _ _ _ ?_)
      simp only [go_sem, Nat.reduceBEq, s_impl_PagesOf_L1, e2, e8, q7, hc]
      exact hq _ _ _ b ⟨q, by simp only [go_sem, Nat.reduceBEq, q7], qr, hr1, hrn⟩
theorem ok_impl_PagesOf {WI : World → Prop} (hs : Stable WI) (cs) (hT : TOK (EE cs) WI) (h1 : (EE cs).T 23 = some C_impl_NodeAt) (h2 : (EE cs).T 31 = some C_impl_hasInt) (h3 : (EE cs).T 48 = some C_sort_Ints) : PureOK Tryz.prog WI 22 C_impl_PagesOf := by
  refine pure2 (E := EE cs) hT hs (by rw [st_impl_PagesOf]; rfl) fun t r hp => out_wp (n := 1) (st_impl_PagesOf cs) ?_
  obtain ⟨p1, p2, p3⟩ := hp
  have c1 := C_impl_NodeAt_eq t r p1
  rcases hy : nodeAt t r with ⟨y, ok⟩
  have hf : fOf t r = if ok = true then some y.fKids else none := by unfold fOf; rw [hy]
  rw [hy] at c1
  by_cases h0 : r = 0
  · have e0 : (r == 0) = true := by simp [h0]
    have e1 : pagesOf t r = [] := pagesF_none (fOf t) (.inl h0)
    rw [e1]
    simp only [go_sem, kSt_ptr, Nat.reduceBEq, Nat.reduceAdd, s_impl_PagesOf, TTxn.row, tTxn_enc, TNode.row, h1, c1, e0]
  have e0 : (r == 0) = false := by simp [h0]
  cases ok with
  | false =>
    have e1 : pagesOf t r = [] := pagesF_none (fOf t) (.inr (by rw [hf]; rfl))
    rw [e1]
    simp only [go_sem, kSt_ptr, Nat.reduceBEq, Nat.reduceAdd, s_impl_PagesOf, TTxn.row, tTxn_enc, TNode.row, h1, c1, e0]
  | true =>
    simp only [if_true] at hf
    have hrs : r ∈ secs := p3.resolve_left h0
    have f1 : fillR (List.replicate 1 [AV.int IntKind.i64 0]) 1 [(0, .int .i64 r)] = some [[.int .i64 r]] := rfl
    simp only [go_sem, kSt_ptr, Nat.reduceBEq, Nat.reduceAdd, s_impl_PagesOf, TTxn.row, tTxn_enc, TNode.row, h1, c1, e0, f1]
    refine LK1_impl_PagesOf cs h1 h2 p1 p2 hrs (fun out e' h' b go => ?_) 46 0 [r] _ _ (by omega) (bfs_start (fOf t) h0 hf) (by simp) (by simp only [go_sem, Nat.reduceBEq]) (by simp only [go_sem, Nat.reduceBEq]) (by simp only [go_sem, TTxn.row]) ⟨2, by simp only [go_sem, Nat.reduceBEq], by simp only [go_sem, Nat.reduceEqDiff]; rfl, by omega, by show 2 < 3; omega⟩
    obtain ⟨q, q7, qr, hr1, hrn⟩ := go
    have hl := bfs_len (fOf t) (fOf_kids p2) hrs b
    have sc := sortC_ints (F := C_sort_Ints) (t := .tup []) rfl qr (by omega)
    have e1 : sortI out = pagesOf t r := bfs_sort (fOf t) (fOf_kids p2) hrs b
    have hl2 : (pagesOf t r).length = out.length := by rw [← e1, sortI_len]
    have hz := TD.frzRows (T := intT) (r := q) (h := h'.set q ((pagesOf t r).map fun k => AV.int .i64 k)) (pagesOf t r) (by rw [flatI]; simp [Hp.set])
    rw [hl2] at hz
    rw [e1] at sc
    simp only [go_sem, Nat.reduceBEq, q7, h3, sc]
    exact hz
end Go.Proofs.YtmfkjlnhanomfaaGreat.Lv
/- What the functions that FnExactLevel calls answer: part 20. -/
namespace Go.Proofs.YtmfkjlnhanomfaaGreat.Lv
open Go Go.RowKit Go.Ev
set_option linter.unusedSimpArgs false
set_option linter.unusedVariables false
set_option maxHeartbeats 1600000
noncomputable def C_impl_Level := c1 tEng (fun (x : TEng) => tEng.good x) (.bool) fun (x : TEng) => level x.fD
theorem C_impl_Level_eq (x : TEng) (h : tEng.good x) : C_impl_Level [.agg [.imm (x.fS.map TDef.row), .imm (x.fD.fSecs.map (sliceT u8T).row), .imm (x.fD.fCache.map TWrite.row), .int .i64 x.fD.fOps, .imm (x.fD.fFaults.map TFault.row), .bool x.fD.fDown]] = some (.bool ((level x.fD))) := c1_eq tEng h
theorem ok_impl_Level {WI : World → Prop} (hs : Stable WI) (cs) (hT : TOK (EE cs) WI) (h1 : (EE cs).T 21 = some C_impl_TxNew) (h2 : (EE cs).T 22 = some C_impl_PagesOf) (h3 : (EE cs).T 23 = some C_impl_NodeAt) (h4 : (EE cs).T 25 = some C_impl_SizeOf) (h5 : (EE cs).T 24 = some C_impl_isEmpty) : PureOK Tryz.prog WI 8 C_impl_Level := by
  refine pure1 (E := EE cs) hT hs (by rw [st_impl_Level]; rfl) fun x hp => out_wp (n := 0) (st_impl_Level cs) ?_
  have hd : tDisk.cost x.fD ≤ 1048576 := by
    have h0 := hp.1
    have e0 : tEng.cost x = (sliceT tDef).cost x.fS + tDisk.cost x.fD := rfl
    omega
  have c1 := C_impl_TxNew_eq x.fD hd
  have ht := txNew_cost hd
  have hr := txNew_root x.fD
  have hr2 : (txNew x.fD).fRoot = 0 ∨ (txNew x.fD).fRoot ∈ secs := by rw [txNew_same]; exact hr
  have hnew := txNew_new x.fD
  have c2 := C_impl_PagesOf_eq (txNew x.fD) (txNew x.fD).fRoot ⟨ht, hnew, hr2⟩
  have l2 := walkF_len (txNew x.fD) hnew (txNew x.fD).fRoot hr2
  have hlev : level x.fD = (pagesOf (txNew x.fD) (txNew x.fD).fRoot).all fun n => levelP (txNew x.fD) n := rfl
  rw [hlev]
  have hled : ∀ n, n ∈ pagesOf (txNew x.fD) (txNew x.fD).fRoot → (nodeAt (txNew x.fD) n).2 = true ∧ nodeOk (nodeAt (txNew x.fD) n).1 = true := fun n => led_node hnew hr2
  generalize txNew x.fD = t at *
  simp only [go_sem, kSt_ptr, Nat.reduceBEq, Nat.reduceAdd, Nat.reduceLeDiff, s_impl_Level, TEng.row, tEng_enc, TTxn.row, h1, c1, h2, c2]
  refine (wl_all (l := pagesOf t t.fRoot) (fun _ v => levelP t v) (fun pre e h => e 3 = .ptr 1 0 ∧ e 14 = .imm ((pagesOf t t.fRoot).map intT.row) ∧ e 15 = .int .i64 (pagesOf t t.fRoot).length ∧ e 16 = .int .i64 pre.length ∧ 2 ≤ h.nx ∧ h.hp 1 = some t.row) (.exit 0) (fun e h => True) (fun e h => e 2 = .bool false) (by omega) ?_ ?_ ?_ (by simp) (pagesOf t t.fRoot) [] _ _ rfl ?_).mono ?_
  · rintro pre v rest e h a hp ⟨q3, q4, q5, q6, hnx, qh⟩
    obtain ⟨o1, o2⟩ := hled v a.mem
    have c3 := C_impl_NodeAt_eq t v ht
    have co := nodeOk_cost o2
    have c4 := C_impl_SizeOf_eq (nodeAt t v).1 (by omega)
    have c5 := C_impl_isEmpty_eq (nodeAt t v).1 (by omega)
    unfold levelP at hp
    rcases hy : nodeAt t v with ⟨y, ok⟩
    rw [hy] at c3 c4 c5 hp o1 o2
    simp only at o1 o2 hp
    subst o1
    have hs0 : (nodeBody y).length ≤ 240 := nodeOk_size o2
    have hs1 : decide ((nodeBody y).length ≤ 240) = true := decide_eq_true hs0
    rw [hs1, Bool.and_true] at hp
    have hs : decide (((nodeBody y).length : Int) > 240) = false := decide_eq_false (by omega)
    have n1 : ¬ 1 = h.nx := by omega
    have n9 : 2 ≤ h.nx + 1 := by omega
    have hv2 : (v != t.fRoot) = !(v == t.fRoot) := rfl
    simp only [TTxn.row, TNode.row] at qh c3 c4 c5
    cases hv : v == t.fRoot <;> cases hem : nodeEmpty y <;> rw [hv, hem] at hp <;> rw [hem] at c5 <;> first | (cases hp; done) | (simp only [go_sem, kSt_ptr, Nat.reduceBEq, Nat.reduceAdd, Nat.reduceLeDiff, s_impl_Level_L0, q3, q4, q5, q6, qh, a.dl, a.ia (row := intT.row) (sz := 1) rfl, intT_row, TTxn.row, h3, c3, h4, c4, h5, c5, hs, hv, hv2, a.hw, n1, n9, Bool.not_true, Bool.not_false]; done)
  · rintro pre v rest e h a hp ⟨q3, q4, q5, q6, hnx, qh⟩
    obtain ⟨o1, o2⟩ := hled v a.mem
    have c3 := C_impl_NodeAt_eq t v ht
    have co := nodeOk_cost o2
    have c4 := C_impl_SizeOf_eq (nodeAt t v).1 (by omega)
    have c5 := C_impl_isEmpty_eq (nodeAt t v).1 (by omega)
    unfold levelP at hp
    rcases hy : nodeAt t v with ⟨y, ok⟩
    rw [hy] at c3 c4 c5 hp o1 o2
    simp only at o1 o2 hp
    subst o1
    have hs0 : (nodeBody y).length ≤ 240 := nodeOk_size o2
    have hs1 : decide ((nodeBody y).length ≤ 240) = true := decide_eq_true hs0
    rw [hs1, Bool.and_true] at hp
    have hs : decide (((nodeBody y).length : Int) > 240) = false := decide_eq_false (by omega)
    have n1 : ¬ 1 = h.nx := by omega
    have n9 : 2 ≤ h.nx + 1 := by omega
    have hv2 : (v != t.fRoot) = !(v == t.fRoot) := rfl
    simp only [TTxn.row, TNode.row] at qh c3 c4 c5
    cases hv : v == t.fRoot <;> cases hem : nodeEmpty y <;> rw [hv, hem] at hp <;> rw [hem] at c5 <;> first | (cases hp; done) | (simp only [go_sem, kSt_ptr, Nat.reduceBEq, Nat.reduceAdd, Nat.reduceLeDiff, s_impl_Level_L0, q3, q4, q5, q6, qh, a.dl, a.ia (row := intT.row) (sz := 1) rfl, intT_row, h3, c3, h5, c5, hv, hv2, a.hw, n1, Bool.not_false]; done)
  · rintro e h ⟨q3, q4, q5, q6, hnx, qh⟩
    simp only [go_sem, Nat.reduceBEq, s_impl_Level_L0, q4, q5, q6]
  · simp only [go_sem, Nat.reduceBEq]
    first | done | rfl | simp
  · rintro y e h (⟨hpp, rfl, _⟩ | ⟨hpp, rfl, j⟩)
    · rw [allP_all] at hpp
      simp only [go_sem, hpp]
    · rw [allP_all] at hpp
      simp only [go_sem, j, hpp]
theorem ok_laws_eqCol {WI : World → Prop} (hs : Stable WI) (cs) (hT : TOK (EE cs) WI)  : PureOK Tryz.prog WI 115 (eqC tCol) := by
  refine pureEq (E := EE cs) hT hs (by rw [st_laws_eqCol]; rfl) fun v hc => out_K (n := 0) (st_laws_eqCol cs) ?_
  have hcost : tCol.cost v = v.fName.length := rfl
  simp only [go_sem, Nat.reduceBEq, Nat.reduceAdd, Nat.reduceLeDiff, s_laws_eqCol, TCol.row]
theorem ok_laws_eqColS {WI : World → Prop} (hs : Stable WI) (cs) (hT : TOK (EE cs) WI) (h0 : (EE cs).T 115 = some (eqC tCol)) : PureOK Tryz.prog WI 90 (eqC (sliceT tCol)) := eqS_ok (E := EE cs) (T := tCol) hT hs h0 (st_laws_eqColS cs)
theorem ok_laws_eqBy {WI : World → Prop} (hs : Stable WI) (cs) (hT : TOK (EE cs) WI)  : PureOK Tryz.prog WI 116 (eqC tBy) := by
  refine pureEq (E := EE cs) hT hs (by rw [st_laws_eqBy]; rfl) fun v hc => out_K (n := 0) (st_laws_eqBy cs) ?_
  have hcost : tBy.cost v = 0 := rfl
  simp only [go_sem, Nat.reduceBEq, Nat.reduceAdd, Nat.reduceLeDiff, s_laws_eqBy, TBy.row]
theorem ok_laws_eqByS {WI : World → Prop} (hs : Stable WI) (cs) (hT : TOK (EE cs) WI) (h0 : (EE cs).T 116 = some (eqC tBy)) : PureOK Tryz.prog WI 91 (eqC (sliceT tBy)) := eqS_ok (E := EE cs) (T := tBy) hT hs h0 (st_laws_eqByS cs)
theorem ok_laws_eqIndex {WI : World → Prop} (hs : Stable WI) (cs) (hT : TOK (EE cs) WI) (h0 : (EE cs).T 91 = some (eqC (sliceT tBy))) : PureOK Tryz.prog WI 117 (eqC tIndex) := by
  refine pureEq (E := EE cs) hT hs (by rw [st_laws_eqIndex]; rfl) fun v hc => out_K (n := 0) (st_laws_eqIndex cs) ?_
  have hcost : tIndex.cost v = v.fName.length + (sliceT tBy).cost v.fParts := rfl
  have c2 : eqC (sliceT tBy) [.imm (v.fParts.map TBy.row), .imm (v.fParts.map TBy.row)] = some (.bool true) := eqC_eq (sliceT tBy) (by omega)
  simp only [go_sem, Nat.reduceBEq, Nat.reduceAdd, Nat.reduceLeDiff, s_laws_eqIndex, TIndex.row, h0, c2]
theorem ok_laws_eqIndexS {WI : World → Prop} (hs : Stable WI) (cs) (hT : TOK (EE cs) WI) (h0 : (EE cs).T 117 = some (eqC tIndex)) : PureOK Tryz.prog WI 92 (eqC (sliceT tIndex)) := eqS_ok (E := EE cs) (T := tIndex) hT hs h0 (st_laws_eqIndexS cs)
theorem ok_laws_eqDef {WI : World → Prop} (hs : Stable WI) (cs) (hT : TOK (EE cs) WI) (h0 : (EE cs).T 90 = some (eqC (sliceT tCol))) (h1 : (EE cs).T 91 = some (eqC (sliceT tBy))) (h2 : (EE cs).T 92 = some (eqC (sliceT tIndex))) : PureOK Tryz.prog WI 54 (eqC tDef) := by
  refine pureEq (E := EE cs) hT hs (by rw [st_laws_eqDef]; rfl) fun v hc => out_K (n := 0) (st_laws_eqDef cs) ?_
  have hcost : tDef.cost v = v.fName.length + (sliceT tCol).cost v.fCols + (sliceT tBy).cost v.fPrimary + (sliceT tIndex).cost v.fIndexes := rfl
  have c1 : eqC (sliceT tCol) [.imm (v.fCols.map TCol.row), .imm (v.fCols.map TCol.row)] = some (.bool true) := eqC_eq (sliceT tCol) (by omega)
  have c2 : eqC (sliceT tBy) [.imm (v.fPrimary.map TBy.row), .imm (v.fPrimary.map TBy.row)] = some (.bool true) := eqC_eq (sliceT tBy) (by omega)
  have c3 : eqC (sliceT tIndex) [.imm (v.fIndexes.map TIndex.row), .imm (v.fIndexes.map TIndex.row)] = some (.bool true) := eqC_eq (sliceT tIndex) (by omega)
  simp only [go_sem, Nat.reduceBEq, Nat.reduceAdd, Nat.reduceLeDiff, s_laws_eqDef, TDef.row, h0, h1, h2, c1, c2, c3]
theorem ok_laws_eqDefS {WI : World → Prop} (hs : Stable WI) (cs) (hT : TOK (EE cs) WI) (h0 : (EE cs).T 54 = some (eqC tDef)) : PureOK Tryz.prog WI 26 (eqC (sliceT tDef)) := eqS_ok (E := EE cs) (T := tDef) hT hs h0 (st_laws_eqDefS cs)
theorem ok_laws_eqByteS {WI : World → Prop} (hs : Stable WI) (cs) (hT : TOK (EE cs) WI)  : PureOK Tryz.prog WI 93 (eqC (sliceT u8T)) := ecS_ok (E := EE cs) (T := u8T) hT hs rfl neq_u8 (st_laws_eqByteS cs)
theorem ok_laws_eqByteSS {WI : World → Prop} (hs : Stable WI) (cs) (hT : TOK (EE cs) WI) (h0 : (EE cs).T 93 = some (eqC (sliceT u8T))) : PureOK Tryz.prog WI 55 (eqC (sliceT (sliceT u8T))) := eqS_ok (E := EE cs) (T := (sliceT u8T)) hT hs h0 (st_laws_eqByteSS cs)
theorem ok_laws_eqWrite {WI : World → Prop} (hs : Stable WI) (cs) (hT : TOK (EE cs) WI) (h0 : (EE cs).T 93 = some (eqC (sliceT u8T))) : PureOK Tryz.prog WI 94 (eqC tWrite) := by
  refine pureEq (E := EE cs) hT hs (by rw [st_laws_eqWrite]; rfl) fun v hc => out_K (n := 0) (st_laws_eqWrite cs) ?_
  have hcost : tWrite.cost v = (sliceT u8T).cost v.fB := rfl
  have c1 : eqC (sliceT u8T) [.imm (v.fB.map u8T.row), .imm (v.fB.map u8T.row)] = some (.bool true) := eqC_eq (sliceT u8T) (by omega)
  simp only [go_sem, Nat.reduceBEq, Nat.reduceAdd, Nat.reduceLeDiff, s_laws_eqWrite, TWrite.row, h0, c1]
theorem ok_laws_eqWriteS {WI : World → Prop} (hs : Stable WI) (cs) (hT : TOK (EE cs) WI) (h0 : (EE cs).T 94 = some (eqC tWrite)) : PureOK Tryz.prog WI 56 (eqC (sliceT tWrite)) := eqS_ok (E := EE cs) (T := tWrite) hT hs h0 (st_laws_eqWriteS cs)
theorem ok_laws_eqFault {WI : World → Prop} (hs : Stable WI) (cs) (hT : TOK (EE cs) WI)  : PureOK Tryz.prog WI 95 (eqC tFault) := by
  refine pureEq (E := EE cs) hT hs (by rw [st_laws_eqFault]; rfl) fun v hc => out_K (n := 0) (st_laws_eqFault cs) ?_
  have hcost : tFault.cost v = 0 := rfl
  simp only [go_sem, Nat.reduceBEq, Nat.reduceAdd, Nat.reduceLeDiff, s_laws_eqFault, TFault.row]
theorem ok_laws_eqFaultS {WI : World → Prop} (hs : Stable WI) (cs) (hT : TOK (EE cs) WI) (h0 : (EE cs).T 95 = some (eqC tFault)) : PureOK Tryz.prog WI 57 (eqC (sliceT tFault)) := eqS_ok (E := EE cs) (T := tFault) hT hs h0 (st_laws_eqFaultS cs)
theorem ok_laws_eqDisk {WI : World → Prop} (hs : Stable WI) (cs) (hT : TOK (EE cs) WI) (h0 : (EE cs).T 55 = some (eqC (sliceT (sliceT u8T)))) (h1 : (EE cs).T 56 = some (eqC (sliceT tWrite))) (h2 : (EE cs).T 57 = some (eqC (sliceT tFault))) : PureOK Tryz.prog WI 27 (eqC tDisk) := by
  refine pureEq (E := EE cs) hT hs (by rw [st_laws_eqDisk]; rfl) fun v hc => out_K (n := 0) (st_laws_eqDisk cs) ?_
  have hcost : tDisk.cost v = (sliceT (sliceT u8T)).cost v.fSecs + (sliceT tWrite).cost v.fCache + (sliceT tFault).cost v.fFaults := rfl
  have c0 : eqC (sliceT (sliceT u8T)) [.imm (v.fSecs.map (sliceT u8T).row), .imm (v.fSecs.map (sliceT u8T).row)] = some (.bool true) := eqC_eq (sliceT (sliceT u8T)) (by omega)
  have c1 : eqC (sliceT tWrite) [.imm (v.fCache.map TWrite.row), .imm (v.fCache.map TWrite.row)] = some (.bool true) := eqC_eq (sliceT tWrite) (by omega)
  have c3 : eqC (sliceT tFault) [.imm (v.fFaults.map TFault.row), .imm (v.fFaults.map TFault.row)] = some (.bool true) := eqC_eq (sliceT tFault) (by omega)
  simp only [go_sem, Nat.reduceBEq, Nat.reduceAdd, Nat.reduceLeDiff, s_laws_eqDisk, TDisk.row, h0, h1, h2, c0, c1, c3]
theorem ok_laws_eqEng {WI : World → Prop} (hs : Stable WI) (cs) (hT : TOK (EE cs) WI) (h0 : (EE cs).T 26 = some (eqC (sliceT tDef))) (h1 : (EE cs).T 27 = some (eqC tDisk)) : PureOK Tryz.prog WI 9 (eqC tEng) := by
  refine pureEq (E := EE cs) hT hs (by rw [st_laws_eqEng]; rfl) fun v hc => out_K (n := 0) (st_laws_eqEng cs) ?_
  have hcost : tEng.cost v = (sliceT tDef).cost v.fS + tDisk.cost v.fD := rfl
  have c0 : eqC (sliceT tDef) [.imm (v.fS.map TDef.row), .imm (v.fS.map TDef.row)] = some (.bool true) := eqC_eq (sliceT tDef) (by omega)
  have c1 : eqC tDisk [.agg [.imm (v.fD.fSecs.map (sliceT u8T).row), .imm (v.fD.fCache.map TWrite.row), .int .i64 v.fD.fOps, .imm (v.fD.fFaults.map TFault.row), .bool v.fD.fDown], .agg [.imm (v.fD.fSecs.map (sliceT u8T).row), .imm (v.fD.fCache.map TWrite.row), .int .i64 v.fD.fOps, .imm (v.fD.fFaults.map TFault.row), .bool v.fD.fDown]] = some (.bool true) := eqC_eq tDisk (by omega)
  simp only [go_sem, Nat.reduceBEq, Nat.reduceAdd, Nat.reduceLeDiff, s_laws_eqEng, TEng.row, h0, h1, c0, c1]
end Go.Proofs.YtmfkjlnhanomfaaGreat.Lv
/- The law FnExactLevel, by what its functions answer. -/
namespace Go.Proofs.YtmfkjlnhanomfaaGreat.Lv
open Go Go.RowKit Go.Ev
set_option linter.unusedSimpArgs false
set_option linter.unusedVariables false
set_option maxHeartbeats 1600000
set_option maxRecDepth 100000
theorem ev_law (cs) (h0 : (EE cs).T 5 = some (szC tEng)) (h1 : (EE cs).T 7 = some (toC tEng)) (h2 : (EE cs).T 6 = some C_spec_Level) (h3 : (EE cs).T 8 = some C_impl_Level) (h4 : (EE cs).T 9 = some (eqC tEng)) (v0 : TEng) (f0 : tEng.fits v0) (o0 : tEng.ok v0) : ∃ k n, out (EE cs) k n 3 [tEng.enc v0] = some (.bool true) := by
  refine out_K (n := 0) (st_laws_FnExactLevel cs) ?_
  have c0 : szC tEng [.agg [.imm (v0.fS.map TDef.row), .imm (v0.fD.fSecs.map (sliceT u8T).row), .imm (v0.fD.fCache.map TWrite.row), .int .i64 v0.fD.fOps, .imm (v0.fD.fFaults.map TFault.row), .bool v0.fD.fDown], .int .i64 (1048576)] = some (.int .i64 (szR (tEng.cost v0) (1048576))) := szC_eq tEng ⟨f0, by omega, by omega⟩
  by_cases n0 : szR (tEng.cost v0) (1048576) < 0
  · obtain ⟨e0, e0'⟩ := szR_neg n0 (by omega)
    simp only [go_sem, Nat.reduceBEq, Nat.reduceAdd, Int.reduceLT, s_laws_FnExactLevel, TEng.row, h0, c0, e0]
  obtain ⟨e0, n0'⟩ := szR_pos n0
  have g0 : tEng.good v0 := ⟨by omega, o0⟩
  have t0 : toC tEng [.agg [.imm (v0.fS.map TDef.row), .imm (v0.fD.fSecs.map (sliceT u8T).row), .imm (v0.fD.fCache.map TWrite.row), .int .i64 v0.fD.fOps, .imm (v0.fD.fFaults.map TFault.row), .bool v0.fD.fDown]] = some (.agg [.imm (v0.fS.map TDef.row), .imm (v0.fD.fSecs.map (sliceT u8T).row), .imm (v0.fD.fCache.map TWrite.row), .int .i64 v0.fD.fOps, .imm (v0.fD.fFaults.map TFault.row), .bool v0.fD.fDown]) := toC_eq tEng g0.1
  have u0 : eqC tEng [.agg [.imm (v0.fS.map TDef.row), .imm (v0.fD.fSecs.map (sliceT u8T).row), .imm (v0.fD.fCache.map TWrite.row), .int .i64 v0.fD.fOps, .imm (v0.fD.fFaults.map TFault.row), .bool v0.fD.fDown], .agg [.imm (v0.fS.map TDef.row), .imm (v0.fD.fSecs.map (sliceT u8T).row), .imm (v0.fD.fCache.map TWrite.row), .int .i64 v0.fD.fOps, .imm (v0.fD.fFaults.map TFault.row), .bool v0.fD.fDown]] = some (.bool true) := eqC_eq tEng g0.1
  have a0 := C_spec_Level_eq v0 g0
  have a1 := C_impl_Level_eq v0 g0
  simp only [go_sem, kSt_ptr, Nat.reduceBEq, Nat.reduceAdd, s_laws_FnExactLevel, TEng.row, h0, h1, h2, h3, h4, c0, e0, n0', t0, u0, a0, a1]
noncomputable def C_law := c1 tEng (fun v0 => (tEng.fits v0 ∧ tEng.ok v0)) .bool fun _ => true
theorem ok_law {WI : World → Prop} (hs : Stable WI) (cs) (hT : TOK (EE cs) WI) (h0 : (EE cs).T 5 = some (szC tEng)) (h1 : (EE cs).T 7 = some (toC tEng)) (h2 : (EE cs).T 6 = some C_spec_Level) (h3 : (EE cs).T 8 = some C_impl_Level) (h4 : (EE cs).T 9 = some (eqC tEng)) : PureOK Tryz.prog WI 3 C_law :=
  pure1 (E := EE cs) hT hs (by rw [st_laws_FnExactLevel]; rfl) fun v0 ⟨f0, o0⟩ => ev_law cs  h0 h1 h2 h3 h4 v0 f0 o0
section
variable {WI : World → Prop} (hs : Stable WI)
include hs
theorem law_ok (p_sort_Ints : SortOK Tryz.prog WI 48 C_sort_Ints) : PureOK Tryz.prog WI 3 C_law := by
  have t0 : TOK (EE []) WI := tok_nil (entB_spec entered)
  have t1 := tok_cons rfl rfl (ok_laws_szCol hs _ t0) t0
  have t2 := tok_cons rfl rfl (ok_laws_szColS hs _ t1 rfl) t1
  have t3 := tok_cons rfl rfl (ok_laws_szByS hs _ t2) t2
  have t4 := tok_cons rfl rfl (ok_laws_szIndex hs _ t3 rfl) t3
  have t5 := tok_cons rfl rfl (ok_laws_szIndexS hs _ t4 rfl) t4
  have t6 := tok_cons rfl rfl (ok_laws_szDef hs _ t5 rfl rfl rfl) t5
  have t7 := tok_cons rfl rfl (ok_laws_szDefS hs _ t6 rfl) t6
  have t8 := tok_cons rfl rfl (ok_laws_szByteS hs _ t7) t7
  have t9 := tok_cons rfl rfl (ok_laws_szByteSS hs _ t8 rfl) t8
  have t10 := tok_cons rfl rfl (ok_laws_szWrite hs _ t9 rfl) t9
  have t11 := tok_cons rfl rfl (ok_laws_szWriteS hs _ t10 rfl) t10
  have t12 := tok_cons rfl rfl (ok_laws_szFaultS hs _ t11) t11
  have t13 := tok_cons rfl rfl (ok_laws_szDisk hs _ t12 rfl rfl rfl) t12
  have t14 := tok_cons rfl rfl (ok_laws_szEng hs _ t13 rfl rfl) t13
  have t15 := tok_cons rfl rfl (ok_laws_toCol hs _ t14) t14
  have t16 := tok_cons rfl rfl (ok_laws_toColS hs _ t15 rfl) t15
  have t17 := tok_cons rfl rfl (ok_laws_toBy hs _ t16) t16
  have t18 := tok_cons rfl rfl (ok_laws_toByS hs _ t17 rfl) t17
  have t19 := tok_cons rfl rfl (ok_laws_toIndex hs _ t18 rfl) t18
  have t20 := tok_cons rfl rfl (ok_laws_toIndexS hs _ t19 rfl) t19
  have t21 := tok_cons rfl rfl (ok_laws_toDef hs _ t20 rfl rfl rfl) t20
  have t22 := tok_cons rfl rfl (ok_laws_toDefS hs _ t21 rfl) t21
  have t23 := tok_cons rfl rfl (ok_laws_toByteS hs _ t22) t22
  have t24 := tok_cons rfl rfl (ok_laws_toByteSS hs _ t23 rfl) t23
  have t25 := tok_cons rfl rfl (ok_laws_toWrite hs _ t24 rfl) t24
  have t26 := tok_cons rfl rfl (ok_laws_toWriteS hs _ t25 rfl) t25
  have t27 := tok_cons rfl rfl (ok_laws_toFault hs _ t26) t26
  have t28 := tok_cons rfl rfl (ok_laws_toFaultS hs _ t27 rfl) t27
  have t29 := tok_cons rfl rfl (ok_laws_toDisk hs _ t28 rfl rfl rfl) t28
  have t30 := tok_cons rfl rfl (ok_laws_toEng hs _ t29 rfl rfl) t29
  have t31 := tok_cons rfl rfl (ok_spec_l14Copy hs _ t30) t30
  have t32 := tok_cons rfl rfl (ok_spec_l1In hs _ t31) t31
  have t33 := tok_cons rfl rfl (ok_spec_ReadSec hs _ t32 rfl) t32
  have t34 := tok_cons rfl rfl (ok_spec_Crc hs _ t33) t33
  have t35 := tok_cons rfl rfl (ok_spec_GetSum hs _ t34 rfl) t34
  have t36 := tok_cons rfl rfl (ok_spec_GetU hs _ t35) t35
  have t37 := tok_cons rfl rfl (ok_spec_GetText hs _ t36 rfl) t36
  have t38 := tok_cons rfl rfl (ok_spec_GetPage hs _ t37 rfl rfl rfl rfl) t37
  have t39 := tok_cons rfl rfl (ok_spec_PageAt hs _ t38 rfl rfl) t38
  have t40 := tok_cons rfl rfl (ok_spec_l14Rising hs _ t39) t39
  have t41 := tok_consF rfl rfl (ok_spec_PutU hs _ t40) t40
  have t42 := tok_consF rfl rfl (ok_spec_PutText hs _ t41 rfl) t41
  have t43 := tok_cons rfl rfl (ok_spec_l14Put hs _ t42 rfl rfl) t42
  have t44 := tok_cons rfl rfl (ok_spec_SizeOf hs _ t43 rfl) t43
  have t45 := tok_cons rfl rfl (ok_spec_NodeOk hs _ t44 rfl rfl rfl) t44
  have t46 := tok_cons rfl rfl (ok_spec_GetNode hs _ t45 rfl rfl rfl) t45
  have t47 := tok_cons rfl rfl (ok_spec_l16Disk hs _ t46 rfl rfl) t46
  have t48 := tok_cons rfl rfl (ok_spec_NodeAt hs _ t47 rfl rfl) t47
  have t49 := tok_cons rfl rfl (ok_spec_l19Empty hs _ t48) t48
  have t50 := tok_cons rfl rfl (ok_spec_MetaOk hs _ t49 rfl) t49
  have t51 := tok_cons rfl rfl (ok_spec_GetMeta hs _ t50 rfl rfl rfl) t50
  have t52 := tok_cons rfl rfl (ok_spec_BestMeta hs _ t51 rfl rfl) t51
  have t53 := tok_cons rfl rfl (ok_spec_l12Copy hs _ t52) t52
  have t54 := tok_cons rfl rfl (ok_spec_TxNew hs _ t53 rfl rfl) t53
  have t55 := tok_cons rfl rfl (ok_spec_l16Has hs _ t54) t54
  have t56 := tok_cons rfl rfl (ok_spec_l16Put hs _ t55 rfl) t55
  have t57 := tok_cons rfl rfl (ok_spec_l16Walk hs _ t56 rfl rfl rfl) t56
  have t58 := tok_cons rfl rfl (ok_spec_PagesOf hs _ t57 rfl) t57
  have t59 := tok_cons rfl rfl (ok_spec_Level hs _ t58 rfl rfl rfl rfl rfl) t58
  have t60 := tok_cons rfl rfl (ok_impl_newAt hs _ t59) t59
  have t61 := tok_consO rfl (ok_impl_copyNode hs _ t60) t60
  have t62 := tok_cons rfl rfl (ok_impl_in hs _ t61) t61
  have t63 := tok_cons rfl rfl (ok_impl_ReadSec hs _ t62 rfl) t62
  have t64 := tok_consR rfl (ok_impl_Crc hs _ t63) t63
  have t65 := tok_consO rfl (ok_impl_PutSum hs _ t64 rfl) t64
  have t66 := tok_cons rfl rfl (ok_impl_GetSum hs _ t65 rfl) t65
  have t67 := tok_cons rfl rfl (ok_impl_GetU hs _ t66) t66
  have t68 := tok_cons rfl rfl (ok_impl_GetText hs _ t67 rfl) t67
  have t69 := tok_cons rfl rfl (ok_impl_clamp hs _ t68) t68
  have t70 := tok_consO rfl (ok_impl_PutPage hs _ t69 rfl rfl rfl) t69
  have t71 := tok_cons rfl rfl (ok_impl_GetPage hs _ t70 rfl rfl rfl rfl) t70
  have t72 := tok_cons rfl rfl (ok_impl_PageAt hs _ t71 rfl rfl) t71
  have t73 := tok_cons rfl rfl (ok_impl_isSector hs _ t72 rfl) t72
  have t74 := tok_consO rfl (ok_impl_bodyOf hs _ t73 rfl) t73
  have t75 := tok_cons rfl rfl (ok_impl_SizeOf hs _ t74 rfl) t74
  have t76 := tok_cons rfl rfl (ok_impl_NodeOk hs _ t75 rfl rfl) t75
  have t77 := tok_cons rfl rfl (ok_impl_PutNode hs _ t76 rfl rfl) t76
  have t78 := tok_cons rfl rfl (ok_impl_GetNode hs _ t77 rfl rfl rfl rfl) t77
  have t79 := tok_cons rfl rfl (ok_impl_NodeAt hs _ t78 rfl rfl rfl rfl) t78
  have t80 := tok_cons rfl rfl (ok_impl_isEmpty hs _ t79) t79
  have t81 := tok_cons rfl rfl (ok_impl_MetaOk hs _ t80 rfl rfl) t80
  have t82 := tok_consO rfl (ok_impl_PutMeta hs _ t81 rfl rfl rfl) t81
  have t83 := tok_cons rfl rfl (ok_impl_GetMeta hs _ t82 rfl rfl rfl) t82
  have t84 := tok_cons rfl rfl (ok_impl_BestMeta hs _ t83 rfl rfl) t83
  have t85 := tok_consO rfl (ok_impl_copyDisk hs _ t84) t84
  have t86 := tok_cons rfl rfl (ok_impl_TxNew hs _ t85 rfl rfl) t85
  have t87 := tok_consR rfl (ok_impl_hasInt hs _ t86) t86
  have t88 := tok_consS rfl p_sort_Ints t87
  have t89 := tok_cons rfl rfl (ok_impl_PagesOf hs _ t88 rfl rfl rfl) t88
  have t90 := tok_cons rfl rfl (ok_impl_Level hs _ t89 rfl rfl rfl rfl rfl) t89
  have t91 := tok_cons rfl rfl (ok_laws_eqCol hs _ t90) t90
  have t92 := tok_cons rfl rfl (ok_laws_eqColS hs _ t91 rfl) t91
  have t93 := tok_cons rfl rfl (ok_laws_eqBy hs _ t92) t92
  have t94 := tok_cons rfl rfl (ok_laws_eqByS hs _ t93 rfl) t93
  have t95 := tok_cons rfl rfl (ok_laws_eqIndex hs _ t94 rfl) t94
  have t96 := tok_cons rfl rfl (ok_laws_eqIndexS hs _ t95 rfl) t95
  have t97 := tok_cons rfl rfl (ok_laws_eqDef hs _ t96 rfl rfl rfl) t96
  have t98 := tok_cons rfl rfl (ok_laws_eqDefS hs _ t97 rfl) t97
  have t99 := tok_cons rfl rfl (ok_laws_eqByteS hs _ t98) t98
  have t100 := tok_cons rfl rfl (ok_laws_eqByteSS hs _ t99 rfl) t99
  have t101 := tok_cons rfl rfl (ok_laws_eqWrite hs _ t100 rfl) t100
  have t102 := tok_cons rfl rfl (ok_laws_eqWriteS hs _ t101 rfl) t101
  have t103 := tok_cons rfl rfl (ok_laws_eqFault hs _ t102) t102
  have t104 := tok_cons rfl rfl (ok_laws_eqFaultS hs _ t103 rfl) t103
  have t105 := tok_cons rfl rfl (ok_laws_eqDisk hs _ t104 rfl rfl rfl) t104
  have t106 := tok_cons rfl rfl (ok_laws_eqEng hs _ t105 rfl rfl) t105
  exact ok_law hs _ t106 rfl rfl rfl rfl rfl
end
theorem shp_Col {n : Nat} {r : List AV} (h : shp Tryz.prog (n + 2) 142 r) : ∃ v : TCol, r = v.row ∧ tCol.fits v ∧ tCol.ok v := by
  obtain ⟨_, _, rfl, z0, _, _, rfl, z1, _, _, rfl, z2, rfl⟩ := shp_struct Tryz.underlying142 h
  obtain ⟨x0, rfl, y0⟩ := shp_str Tryz.underlying9 z0
  obtain ⟨x1, rfl, y1⟩ := shp_int Tryz.underlying3 z1
  obtain ⟨x2, rfl⟩ := shp_bool Tryz.underlying4 z2
  exact ⟨⟨x0, x1, x2⟩, rfl, y0, wf_i64 y1⟩
theorem shp_SCol {n : Nat} {r : List AV} (h : shp Tryz.prog (n + 3) 66 r) : ∃ l : List (TCol), r = (sliceT tCol).row l ∧ (sliceT tCol).fits l ∧ (sliceT tCol).ok l := by
  obtain ⟨rows, rfl, hl, hr⟩ := shp_slice Tryz.underlying66 h
  obtain ⟨l, h1, h2, h3⟩ := rows_of (enc := tCol.row) (p := fun v => tCol.fits v ∧ tCol.ok v) fun r hr' => shp_Col (n := n) (hr r hr')
  subst h1
  exact ⟨l, rfl, ⟨by simpa using hl, fun v hv => (h3 v hv).1⟩, fun v hv => (h3 v hv).2⟩
theorem shp_By {n : Nat} {r : List AV} (h : shp Tryz.prog (n + 2) 158 r) : ∃ v : TBy, r = v.row ∧ tBy.fits v ∧ tBy.ok v := by
  obtain ⟨_, _, rfl, z0, _, _, rfl, z1, rfl⟩ := shp_struct Tryz.underlying158 h
  obtain ⟨x0, rfl, y0⟩ := shp_int Tryz.underlying3 z0
  obtain ⟨x1, rfl⟩ := shp_bool Tryz.underlying4 z1
  exact ⟨⟨x0, x1⟩, rfl, trivial, wf_i64 y0⟩
theorem shp_SBy {n : Nat} {r : List AV} (h : shp Tryz.prog (n + 3) 67 r) : ∃ l : List (TBy), r = (sliceT tBy).row l ∧ (sliceT tBy).fits l ∧ (sliceT tBy).ok l := by
  obtain ⟨rows, rfl, hl, hr⟩ := shp_slice Tryz.underlying67 h
  obtain ⟨l, h1, h2, h3⟩ := rows_of (enc := tBy.row) (p := fun v => tBy.fits v ∧ tBy.ok v) fun r hr' => shp_By (n := n) (hr r hr')
  subst h1
  exact ⟨l, rfl, ⟨by simpa using hl, fun v hv => (h3 v hv).1⟩, fun v hv => (h3 v hv).2⟩
theorem shp_Index {n : Nat} {r : List AV} (h : shp Tryz.prog (n + 4) 145 r) : ∃ v : TIndex, r = v.row ∧ tIndex.fits v ∧ tIndex.ok v := by
  obtain ⟨_, _, rfl, z0, _, _, rfl, z1, _, _, rfl, z2, rfl⟩ := shp_struct Tryz.underlying145 h
  obtain ⟨x0, rfl, y0⟩ := shp_str Tryz.underlying9 z0
  obtain ⟨x1, rfl⟩ := shp_bool Tryz.underlying4 z1
  obtain ⟨x2, rfl, y2, y2'⟩ := shp_SBy (n := n + 0) z2
  exact ⟨⟨x0, x1, x2⟩, rfl, ⟨y0, y2⟩, y2'⟩
theorem shp_SIndex {n : Nat} {r : List AV} (h : shp Tryz.prog (n + 5) 68 r) : ∃ l : List (TIndex), r = (sliceT tIndex).row l ∧ (sliceT tIndex).fits l ∧ (sliceT tIndex).ok l := by
  obtain ⟨rows, rfl, hl, hr⟩ := shp_slice Tryz.underlying68 h
  obtain ⟨l, h1, h2, h3⟩ := rows_of (enc := tIndex.row) (p := fun v => tIndex.fits v ∧ tIndex.ok v) fun r hr' => shp_Index (n := n) (hr r hr')
  subst h1
  exact ⟨l, rfl, ⟨by simpa using hl, fun v hv => (h3 v hv).1⟩, fun v hv => (h3 v hv).2⟩
theorem shp_Def {n : Nat} {r : List AV} (h : shp Tryz.prog (n + 6) 70 r) : ∃ v : TDef, r = v.row ∧ tDef.fits v ∧ tDef.ok v := by
  obtain ⟨_, _, rfl, z0, _, _, rfl, z1, _, _, rfl, z2, _, _, rfl, z3, rfl⟩ := shp_struct Tryz.underlying70 h
  obtain ⟨x0, rfl, y0⟩ := shp_str Tryz.underlying9 z0
  obtain ⟨x1, rfl, y1, y1'⟩ := shp_SCol (n := n + 2) z1
  obtain ⟨x2, rfl, y2, y2'⟩ := shp_SBy (n := n + 2) z2
  obtain ⟨x3, rfl, y3, y3'⟩ := shp_SIndex (n := n + 0) z3
  exact ⟨⟨x0, x1, x2, x3⟩, rfl, ⟨y0, y1, y2, y3⟩, ⟨y1', y2', y3'⟩⟩
theorem shp_SDef {n : Nat} {r : List AV} (h : shp Tryz.prog (n + 7) 22 r) : ∃ l : List (TDef), r = (sliceT tDef).row l ∧ (sliceT tDef).fits l ∧ (sliceT tDef).ok l := by
  obtain ⟨rows, rfl, hl, hr⟩ := shp_slice Tryz.underlying22 h
  obtain ⟨l, h1, h2, h3⟩ := rows_of (enc := tDef.row) (p := fun v => tDef.fits v ∧ tDef.ok v) fun r hr' => shp_Def (n := n) (hr r hr')
  subst h1
  exact ⟨l, rfl, ⟨by simpa using hl, fun v hv => (h3 v hv).1⟩, fun v hv => (h3 v hv).2⟩
theorem u8_of {x : Int} (h : (Lit.int .u8 x).wf = true) : ∃ v : UInt8, [AV.int .u8 x] = u8T.row v ∧ u8T.fits v ∧ u8T.ok v := by
  have hx : 0 ≤ x ∧ x < 256 := by
    have h1 : IntKind.u8.min ≤ x ∧ x ≤ IntKind.u8.max := by simpa [Lit.wf] using h
    have h2 : IntKind.u8.min = 0 := rfl
    have h3 : IntKind.u8.max = 255 := rfl
    omega
  refine ⟨UInt8.ofNat x.toNat, ?_, trivial, trivial⟩
  show [AV.int .u8 x] = [AV.int .u8 ((UInt8.ofNat x.toNat).toNat : Int)]
  rw [UInt8.toNat_ofNat']
  congr 2
  omega
theorem shp_Sbyte {n : Nat} {r : List AV} (h : shp Tryz.prog (n + 2) 82 r) : ∃ l : List (UInt8), r = (sliceT u8T).row l ∧ (sliceT u8T).fits l ∧ (sliceT u8T).ok l := by
  obtain ⟨rows, rfl, hl, hr⟩ := shp_slice Tryz.underlying82 h
  obtain ⟨l, h1, h2, h3⟩ := rows_of (enc := u8T.row) (p := fun v => u8T.fits v ∧ u8T.ok v) fun r hr' => (by obtain ⟨x, rfl, y⟩ := shp_int Tryz.underlying5 (hr r hr'); exact u8_of y)
  subst h1
  exact ⟨l, rfl, ⟨by simpa using hl, fun v hv => (h3 v hv).1⟩, fun v hv => (h3 v hv).2⟩
theorem shp_SSbyte {n : Nat} {r : List AV} (h : shp Tryz.prog (n + 3) 23 r) : ∃ l : List (List (UInt8)), r = (sliceT (sliceT u8T)).row l ∧ (sliceT (sliceT u8T)).fits l ∧ (sliceT (sliceT u8T)).ok l := by
  obtain ⟨rows, rfl, hl, hr⟩ := shp_slice Tryz.underlying23 h
  obtain ⟨l, h1, h2, h3⟩ := rows_of (enc := (sliceT u8T).row) (p := fun v => (sliceT u8T).fits v ∧ (sliceT u8T).ok v) fun r hr' => shp_Sbyte (n := n) (hr r hr')
  subst h1
  exact ⟨l, rfl, ⟨by simpa using hl, fun v hv => (h3 v hv).1⟩, fun v hv => (h3 v hv).2⟩
theorem shp_Write {n : Nat} {r : List AV} (h : shp Tryz.prog (n + 3) 109 r) : ∃ v : TWrite, r = v.row ∧ tWrite.fits v ∧ tWrite.ok v := by
  obtain ⟨_, _, rfl, z0, _, _, rfl, z1, rfl⟩ := shp_struct Tryz.underlying109 h
  obtain ⟨x0, rfl, y0⟩ := shp_int Tryz.underlying3 z0
  obtain ⟨x1, rfl, y1, y1'⟩ := shp_Sbyte (n := n + 0) z1
  exact ⟨⟨x0, x1⟩, rfl, y1, ⟨wf_i64 y0, y1'⟩⟩
theorem shp_SWrite {n : Nat} {r : List AV} (h : shp Tryz.prog (n + 4) 24 r) : ∃ l : List (TWrite), r = (sliceT tWrite).row l ∧ (sliceT tWrite).fits l ∧ (sliceT tWrite).ok l := by
  obtain ⟨rows, rfl, hl, hr⟩ := shp_slice Tryz.underlying24 h
  obtain ⟨l, h1, h2, h3⟩ := rows_of (enc := tWrite.row) (p := fun v => tWrite.fits v ∧ tWrite.ok v) fun r hr' => shp_Write (n := n) (hr r hr')
  subst h1
  exact ⟨l, rfl, ⟨by simpa using hl, fun v hv => (h3 v hv).1⟩, fun v hv => (h3 v hv).2⟩
theorem shp_Fault {n : Nat} {r : List AV} (h : shp Tryz.prog (n + 2) 124 r) : ∃ v : TFault, r = v.row ∧ tFault.fits v ∧ tFault.ok v := by
  obtain ⟨_, _, rfl, z0, _, _, rfl, z1, _, _, rfl, z2, rfl⟩ := shp_struct Tryz.underlying124 h
  obtain ⟨x0, rfl, y0⟩ := shp_int Tryz.underlying3 z0
  obtain ⟨x1, rfl, y1⟩ := shp_int Tryz.underlying3 z1
  obtain ⟨x2, rfl, y2⟩ := shp_int Tryz.underlying3 z2
  exact ⟨⟨x0, x1, x2⟩, rfl, trivial, ⟨wf_i64 y0, wf_i64 y1, wf_i64 y2⟩⟩
theorem shp_SFault {n : Nat} {r : List AV} (h : shp Tryz.prog (n + 3) 25 r) : ∃ l : List (TFault), r = (sliceT tFault).row l ∧ (sliceT tFault).fits l ∧ (sliceT tFault).ok l := by
  obtain ⟨rows, rfl, hl, hr⟩ := shp_slice Tryz.underlying25 h
  obtain ⟨l, h1, h2, h3⟩ := rows_of (enc := tFault.row) (p := fun v => tFault.fits v ∧ tFault.ok v) fun r hr' => shp_Fault (n := n) (hr r hr')
  subst h1
  exact ⟨l, rfl, ⟨by simpa using hl, fun v hv => (h3 v hv).1⟩, fun v hv => (h3 v hv).2⟩
theorem shp_Disk {n : Nat} {r : List AV} (h : shp Tryz.prog (n + 5) 27 r) : ∃ v : TDisk, r = v.row ∧ tDisk.fits v ∧ tDisk.ok v := by
  obtain ⟨_, _, rfl, z0, _, _, rfl, z1, _, _, rfl, z2, _, _, rfl, z3, _, _, rfl, z4, rfl⟩ := shp_struct Tryz.underlying27 h
  obtain ⟨x0, rfl, y0, y0'⟩ := shp_SSbyte (n := n + 1) z0
  obtain ⟨x1, rfl, y1, y1'⟩ := shp_SWrite (n := n + 0) z1
  obtain ⟨x2, rfl, y2⟩ := shp_int Tryz.underlying3 z2
  obtain ⟨x3, rfl, y3, y3'⟩ := shp_SFault (n := n + 1) z3
  obtain ⟨x4, rfl⟩ := shp_bool Tryz.underlying4 z4
  exact ⟨⟨x0, x1, x2, x3, x4⟩, rfl, ⟨y0, y1, y3⟩, ⟨y0', y1', wf_i64 y2, y3'⟩⟩
theorem shp_Eng {n : Nat} {r : List AV} (h : shp Tryz.prog (n + 8) 29 r) : ∃ v : TEng, r = v.row ∧ tEng.fits v ∧ tEng.ok v := by
  obtain ⟨_, _, rfl, z0, _, _, rfl, z1, rfl⟩ := shp_struct Tryz.underlying29 h
  obtain ⟨x0, rfl, y0, y0'⟩ := shp_SDef (n := n + 0) z0
  obtain ⟨x1, rfl, y1, y1'⟩ := shp_Disk (n := n + 2) z1
  exact ⟨⟨x0, x1⟩, rfl, ⟨y0, y1⟩, ⟨y0', y1'⟩⟩
theorem hlaw (xs : List AV) (h : shpAs Tryz.prog 8 Tryz.f3.params.toList xs) : C_law xs = some (.bool true) := by
  rw [Tryz.params3] at h
  obtain ⟨y0, r0, rfl, z0, zend⟩ := h
  have hr : r0 = [] := zend
  subst hr
  obtain ⟨w0, rfl, z0'⟩ := shpA_agg Tryz.underlying29 z0
  obtain ⟨v0, rfl, f0, o0⟩ := shp_Eng (n := 0) z0'
  exact c1_eq tEng ⟨f0, o0⟩
end Go.Proofs.YtmfkjlnhanomfaaGreat.Lv
