/- What the functions that FnExactNoLeak calls answer, for every argument within the law's bounds: part 2. -/
import Derived.Test.YtmfkjlnhanomfaaGreatNlP1
import Derived.Lib.Bytealg
set_option linter.unusedVariables false
set_option linter.unusedSimpArgs false
set_option linter.unnecessarySimpa false
/- What the functions that FnExactNoLeak calls answer: part 5. -/
namespace Go.Proofs.YtmfkjlnhanomfaaGreat.Nl
open Go Go.RowKit Go.Ev
set_option linter.unusedSimpArgs false
set_option linter.unusedVariables false
set_option maxHeartbeats 1600000
noncomputable def C_spec_MetaOk := c1 tMeta (fun (m : TMeta) => True) (.bool) fun (m : TMeta) => metaOk m
theorem C_spec_MetaOk_eq (m : TMeta) (h : True) : C_spec_MetaOk [.agg [.int .i64 m.fGen, .int .i64 m.fRoot]] = some (.bool ((metaOk m))) := c1_eq tMeta h
theorem ok_spec_MetaOk {WI : World → Prop} (hs : Stable WI) (cs) (hT : TOK (EE cs) WI) (h1 : (EE cs).T 98 = some C_spec_l1In) : PureOK Tryz.prog WI 101 C_spec_MetaOk := by
  refine pure1 (E := EE cs) hT hs (by rw [st_spec_MetaOk]; rfl) fun m hp => out_wp (n := 0) (st_spec_MetaOk cs) ?_
  have c1 := C_spec_l1In_eq m.fGen 0 1000000
  have c2 := C_spec_l1In_eq m.fRoot 2 47
  unfold metaOk
  cases e1 : inR m.fGen 0 1000000 with
  | false => simp only [go_sem, Nat.reduceBEq, s_spec_MetaOk, TMeta.row, tMeta_enc, h1, c1, e1]
  | true =>
    cases e2 : (m.fRoot == 0) <;> simp only [go_sem, Nat.reduceBEq, Nat.reduceAdd, Nat.reduceLeDiff, s_spec_MetaOk, TMeta.row, tMeta_enc, h1, c1, e1, e2, c2, Bool.true_or, Bool.false_or]
noncomputable def C_spec_GetMeta := c1 (sliceT u8T) (fun (b : List (UInt8)) => b.length ≤ 1048576) (fun x => .tup [.agg (x.1).row, .bool x.2]) fun (b : List (UInt8)) => getMeta b
theorem C_spec_GetMeta_eq (b : List (UInt8)) (h : b.length ≤ 1048576) : C_spec_GetMeta [.imm (b.map u8T.row)] = some (.tup [.agg (((getMeta b).1)).row, .bool ((getMeta b).2)]) := c1_eq (sliceT u8T) h
theorem ok_spec_GetMeta {WI : World → Prop} (hs : Stable WI) (cs) (hT : TOK (EE cs) WI) (h1 : (EE cs).T 99 = some C_spec_GetPage) (h2 : (EE cs).T 100 = some C_spec_GetU) (h4 : (EE cs).T 101 = some C_spec_MetaOk) : PureOK Tryz.prog WI 65 C_spec_GetMeta := by
  refine pure1 (E := EE cs) hT hs (by rw [st_spec_GetMeta]; rfl) fun b hp => out_wp (n := 0) (st_spec_GetMeta cs) ?_
  have c1 := C_spec_GetPage_eq b hp
  unfold getMeta
  rcases hg : getPage b with ⟨k, body, ok⟩
  rw [hg] at c1
  have hl := getPage_len hg
  simp only
  have c2 := C_spec_GetU_eq body 0 (by omega)
  rcases hu : getU body 0 with ⟨g, j, is⟩
  rw [hu] at c2
  simp only
  have c3 := C_spec_GetU_eq body j (by omega)
  rcases hv : getU body j with ⟨r, nx, good⟩
  rw [hv] at c3
  unfold metaOf
  simp only
  have c4 := C_spec_MetaOk_eq ⟨g, r⟩ trivial
  cases ok with
  | false => simp only [go_sem, kSt_ptr, Nat.reduceBEq, Nat.reduceAdd, s_spec_GetMeta, h1, c1, h2, c2, c3, mFill, mFill0, TMeta.row, false_and]
  | true =>
  by_cases hk : k = 2
  · have e1 : (k != 2) = false := by simp [hk]
    cases is with
    | false => simp only [go_sem, kSt_ptr, Nat.reduceBEq, Nat.reduceAdd, s_spec_GetMeta, h1, c1, h2, c2, c3, e1, mFill, mFill0, TMeta.row, false_and, and_false]
    | true =>
    cases good with
    | false => simp only [go_sem, kSt_ptr, Nat.reduceBEq, Nat.reduceAdd, s_spec_GetMeta, h1, c1, h2, c2, c3, e1, mFill, mFill0, TMeta.row, false_and, and_false]
    | true =>
    by_cases hn : nx = body.length
    · have e2 : (nx != (body.length : Int)) = false := by simp [hn]
      cases hm : metaOk ⟨g, r⟩ <;> rw [hm] at c4 <;> simp only [go_sem, kSt_ptr, Nat.reduceBEq, Nat.reduceAdd, s_spec_GetMeta, h1, c1, h2, c2, c3, h4, c4, hk, hn, mFill, mFill0, TMeta.row, and_false]
    · have e2 : (nx != (body.length : Int)) = true := by simpa using hn
      simp only [go_sem, kSt_ptr, Nat.reduceBEq, Nat.reduceAdd, s_spec_GetMeta, h1, c1, h2, c2, c3, e1, e2, hn, mFill, mFill0, TMeta.row, false_and, and_false]
  · have e1 : (k != 2) = true := by simpa using hk
    simp only [go_sem, kSt_ptr, Nat.reduceBEq, Nat.reduceAdd, s_spec_GetMeta, h1, c1, h2, c2, c3, e1, hk, mFill, mFill0, TMeta.row, false_and, and_false]
noncomputable def C_spec_BestMeta := c1 tDisk (fun (d : TDisk) => tDisk.cost d ≤ 1048576) (fun x => .tup [.agg (x.1).row, .bool x.2]) fun (d : TDisk) => bestMeta d
theorem C_spec_BestMeta_eq (d : TDisk) (h : tDisk.cost d ≤ 1048576) : C_spec_BestMeta [.agg [.imm (d.fSecs.map (sliceT u8T).row), .imm (d.fCache.map TWrite.row), .int .i64 d.fOps, .imm (d.fFaults.map TFault.row), .bool d.fDown]] = some (.tup [.agg (((bestMeta d).1)).row, .bool ((bestMeta d).2)]) := c1_eq tDisk h
theorem ok_spec_BestMeta {WI : World → Prop} (hs : Stable WI) (cs) (hT : TOK (EE cs) WI) (h1 : (EE cs).T 64 = some C_spec_ReadSec) (h2 : (EE cs).T 65 = some C_spec_GetMeta) : PureOK Tryz.prog WI 36 C_spec_BestMeta := by
  refine pure1 (E := EE cs) hT hs (by rw [st_spec_BestMeta]; rfl) fun d hp => out_wp (n := 0) (st_spec_BestMeta cs) ?_
  have hp' : tDisk.cost d ≤ 1048576 := hp
  simp only [go_sem, kSt_ptr, Nat.reduceBEq, Nat.reduceAdd, Nat.reduceEqDiff, s_spec_BestMeta, TDisk.row, tDisk_enc, mFill0]
  refine (wl_count 2 (fun k e h => e 1 = .ptr 0 0 ∧ h.hp 0 = some [.imm (d.fSecs.map (sliceT u8T).row), .imm (d.fCache.map TWrite.row), .int .i64 d.fOps, .imm (d.fFaults.map TFault.row), .bool d.fDown] ∧ e 4 = .ptr 2 0 ∧ h.hp 2 = some [.int .i64 (accK d k).1.fGen, .int .i64 (accK d k).1.fRoot] ∧ e 5 = .bool (accK d k).2 ∧ e 2 = .ptr 1 0 ∧ h.hp 1 = some [.int .i64 0, .int .i64 0] ∧ 3 ≤ h.nx ∧ e 6 = .int .i64 ((k : Nat) : Int)) (.exit 0) (fun e h => e 2 = .ptr 1 0 ∧ h.hp 1 = some [.int .i64 0, .int .i64 0] ∧ e 4 = .ptr 2 0 ∧ h.hp 2 = some [.int .i64 (accK d 2).1.fGen, .int .i64 (accK d 2).1.fRoot] ∧ e 5 = .bool (accK d 2).2) ?_ ?_ (by simp) 2 0 _ _ rfl ?_).mono ?_
  · rintro k e h hk ⟨q1, qd, q4, qp, q5, q2, qr, qn, q6⟩
    have hk2 : ((k : Nat) : Int) < 2 := by omega
    have c1 := C_spec_ReadSec_eq d (k : Int) hp'
    have hl := readSec_len hp' (k : Int)
    have ho := sec_ok (d := d) (i := (k : Int))
    have hs := accK_succ d k
    rcases hr : readSec d (k : Int) with ⟨b, ok⟩
    rw [hr] at c1 hl ho
    simp only at hl ho
    have c2 := C_spec_GetMeta_eq b hl
    rcases hm : getMeta b with ⟨m, is⟩
    rw [hm] at c2 ho
    simp only at ho
    have n0 : ¬ 0 = h.nx := by omega
    have n1 : ¬ 1 = h.nx := by omega
    have n2 : ¬ 2 = h.nx := by omega
    have n3 : 3 ≤ h.nx + 1 := by omega
    have w1 := w1N (k := k) (by omega)
    cases is with
    | false =>
      rw [metaStep_no hr hm (by simp)] at hs
      cases ok <;> simp only [go_sem, kSt_ptr, Nat.reduceBEq, Nat.reduceAdd, s_spec_BestMeta_L0, q1, q2, q4, q5, q6, hk2, qd, qp, qr, h1, c1, h2, c2, TMeta.row, n0, n1, n2, n3, w1, hs]
    | true =>
      have hok := ho rfl
      subst hok
      by_cases hg : m.fGen.tmod 2 = (k : Int)
      · have e1 : (m.fGen.tmod 2 == (k : Int)) = true := by rw [hg]; simp
        cases hf : (accK d k).2 with
        | false =>
          rw [metaStep_yes hr hm hg (.inl hf)] at hs
          simp only [go_sem, kSt_ptr, Nat.reduceBEq, Nat.reduceAdd, s_spec_BestMeta_L0, q1, q2, q4, q5, q6, hk2, qd, qp, qr, h1, c1, h2, c2, TMeta.row, n0, n1, n2, n3, w1, hs, hf, mRem, e1]
        | true =>
          by_cases hc : (accK d k).1.fGen < m.fGen
          · rw [metaStep_yes hr hm hg (.inr hc)] at hs
            simp only [go_sem, kSt_ptr, Nat.reduceBEq, Nat.reduceAdd, s_spec_BestMeta_L0, q1, q2, q4, q5, q6, hk2, qd, qp, qr, h1, c1, h2, c2, TMeta.row, n0, n1, n2, n3, w1, hs, hf, mRem, e1, hc]
          · rw [metaStep_no hr hm (fun h => by rcases h.2.2 with h | h; rw [hf] at h; cases h; exact hc h)] at hs
            simp only [go_sem, kSt_ptr, Nat.reduceBEq, Nat.reduceAdd, s_spec_BestMeta_L0, q1, q2, q4, q5, q6, hk2, qd, qp, qr, h1, c1, h2, c2, TMeta.row, n0, n1, n2, n3, w1, hs, hf, mRem, e1, hc]
      · have e1 : (m.fGen.tmod 2 == (k : Int)) = false := by simpa using hg
        rw [metaStep_no hr hm (fun h => hg h.2.1)] at hs
        simp only [go_sem, kSt_ptr, Nat.reduceBEq, Nat.reduceAdd, s_spec_BestMeta_L0, q1, q2, q4, q5, q6, hk2, qd, qp, qr, h1, c1, h2, c2, TMeta.row, n0, n1, n2, n3, w1, hs, mRem, e1]
  · rintro e h ⟨q1, qd, q4, qp, q5, q2, qr, qn, q6⟩
    simp only [go_sem, Nat.reduceBEq, s_spec_BestMeta_L0, q6, q2, q4, q5, qp, qr, d2]
  · exact ⟨rfl, rfl, rfl, rfl, rfl, rfl, rfl, Nat.le_refl _, rfl⟩
  · rintro x e h ⟨rfl, q2, qr, q4, qp, q5⟩
    simp only [go_sem, kSt_ptr, Nat.reduceBEq, Nat.reduceAdd, q2, qr, q4, qp, q5, bestMeta, TMeta.row]
noncomputable def C_spec_l12Copy := c1 tDisk (fun (d : TDisk) => tDisk.cost d ≤ 1048576) (fun x => .agg (x).row) fun (d : TDisk) => d
theorem C_spec_l12Copy_eq (d : TDisk) (h : tDisk.cost d ≤ 1048576) : C_spec_l12Copy [.agg [.imm (d.fSecs.map (sliceT u8T).row), .imm (d.fCache.map TWrite.row), .int .i64 d.fOps, .imm (d.fFaults.map TFault.row), .bool d.fDown]] = some (.agg (((d))).row) := c1_eq tDisk h
theorem ok_spec_l12Copy {WI : World → Prop} (hs : Stable WI) (cs) (hT : TOK (EE cs) WI) : PureOK Tryz.prog WI 37 C_spec_l12Copy := by
  refine pure1 (E := EE cs) hT hs (by rw [st_spec_l12Copy]; rfl) fun d hp => out_wp (n := 0) (st_spec_l12Copy cs) ?_
  have hp' : tDisk.cost d ≤ 1048576 := hp
  have hcost : tDisk.cost d = (sliceT (sliceT u8T)).cost d.fSecs + (sliceT tWrite).cost d.fCache + (sliceT tFault).cost d.fFaults := rfl
  have hc1 : (sliceT (sliceT u8T)).cost d.fSecs = d.fSecs.length + costL (sliceT u8T) d.fSecs := rfl
  have hc2 : (sliceT tWrite).cost d.fCache = d.fCache.length + costL tWrite d.fCache := rfl
  have hc3 : (sliceT tFault).cost d.fFaults = d.fFaults.length + costL tFault d.fFaults := rfl
  simp only [go_sem, Nat.reduceBEq, Nat.reduceAdd, Nat.reduceLeDiff, s_spec_l12Copy, TDisk.row, tDisk_enc]
  refine hP_appE (T := tFault) d.fFaults rfl (rowsIn_imm _ _ _) (by unfold room; omega) ?_
  intro c1 s1
  have z1 := s1.2
  have b1 : sFill [.snil, .snil, .int .i64 0, .snil, .bool false] [(2, 1, .int .i64 d.fOps), (3, 1, c1), (4, 1, .bool d.fDown)] = some [.snil, .snil, .int .i64 d.fOps, c1, .bool d.fDown] := by simp [sFill, fillAt, z1, cell1 z1, cl_int, nc_int, cl_bool, nc_bool]
  simp only [go_sem, kSt_ptr, Nat.reduceBEq, Nat.reduceAdd, Nat.reduceEqDiff, Nat.reduceLeDiff, z1, b1]
  refine (wl_for (l := d.fSecs) (fun pre e h => e 1 = .ptr 0 0 ∧ e 2 = .ptr 1 0 ∧ e 3 = .ptr 2 0 ∧ h.hp 0 = some [.imm (d.fSecs.map (sliceT u8T).row), .imm (d.fCache.map TWrite.row), .int .i64 d.fOps, .imm (d.fFaults.map TFault.row), .bool d.fDown] ∧ h.hp 1 = some [.snil, .snil, .int .i64 0, .snil, .bool false] ∧ 3 ≤ h.nx ∧ (∃ x, h.hp 2 = some [x, .snil, .int .i64 d.fOps, c1, .bool d.fDown] ∧ grows (sliceT u8T) pre x h) ∧ e 4 = .int .i64 pre.length) (.exit 0) (fun e h => e 1 = .ptr 0 0 ∧ e 2 = .ptr 1 0 ∧ e 3 = .ptr 2 0 ∧ h.hp 0 = some [.imm (d.fSecs.map (sliceT u8T).row), .imm (d.fCache.map TWrite.row), .int .i64 d.fOps, .imm (d.fFaults.map TFault.row), .bool d.fDown] ∧ h.hp 1 = some [.snil, .snil, .int .i64 0, .snil, .bool false] ∧ 3 ≤ h.nx ∧ (∃ x, h.hp 2 = some [x, .snil, .int .i64 d.fOps, c1, .bool d.fDown] ∧ grows (sliceT u8T) (d.fSecs) x h)) (by omega) ?_ ?_ (by simp) d.fSecs [] _ _ rfl ?_).mono ?_
  · rintro pre v rest e h a ⟨q0, q1, q2, q3, q4, q5, q6, ix⟩
    obtain ⟨x0, hx0, gx0⟩ := id q6
    have n0 : ¬ 0 = h.nx := by omega
    have n1 : ¬ 1 = h.nx := by omega
    have n2 : ¬ 2 = h.nx := by omega
    have hvc := costL_mem (sliceT u8T) a.mem
    have hvc2 : (sliceT u8T).cost v = v.length + costL u8T v := rfl
    simp only [go_sem, Nat.reduceBEq, s_spec_l12Copy_L0, q0, q1, q2, q3, q4, q5, ix, a.dl, a.ia (row := (sliceT u8T).row) (sz := 1) rfl, sliceT_row, hx0]
    refine hP_appE (T := u8T) v rfl (rowsIn_imm _ _ _) (by unfold room; omega) ?_
    intro c s
    have zc := s.2
    have f1 : fillR (List.replicate 1 [.snil]) 1 [(0, c)] = some [[c]] := by simp [fillR, zc, cell1 zc]
    have f2 : frzRows [[c]] = some [(sliceT u8T).row v] := by simp [frzRows, frzCells, s.1, sliceT_row]
    simp only [go_sem, Nat.reduceBEq, f1, f2]
    refine hP_grow [v] rfl (gx0.mono (by simp only []; omega) fun r hr => by have n3 : ¬ r = h.nx := (by omega); simp [n3]) rfl (by have := a.lt; simp only [List.length_cons, List.length_nil]; unfold room; omega) ?_
    intro v' h' g1 g2 g3 g4
    have e0 : h'.hp 0 = h.hp 0 := by rw [g2]
    have e1 : h'.hp 1 = h.hp 1 := by rw [g2]
    have e2 : h'.hp 2 = h.hp 2 := by rw [g2]
    have g5 : 3 ≤ h'.nx := by have : h.nx + 1 ≤ h'.nx := g3; omega
    have zv := g1.cell.2
    simp only [go_sem, kSt_ptr, Nat.reduceBEq, Nat.reduceAdd, Nat.reduceLeDiff, q0, q1, q2, e0, e1, e2, q3, q4, hx0, zv, cell1 zv, ix, a.hw, g5]
    exact ⟨v', rfl, g1.mono (Nat.le_refl _) fun _ _ => rfl⟩
  · rintro e h ⟨q0, q1, q2, q3, q4, q5, q6, ix⟩
    obtain ⟨x0, hx0, gx0⟩ := id q6
    simp only [go_sem, Nat.reduceBEq, s_spec_l12Copy_L0, q0, q1, q2, q3, q4, q5, q6, ix]
  · exact ⟨rfl, rfl, rfl, rfl, rfl, Nat.le_refl _, ⟨.snil, rfl, grows_nil _ _⟩, rfl⟩
  · rintro x e h ⟨rfl, j0, j1, j2, j3, j4, j5, y0, hy0, gy0⟩
    have zy := gy0.cell.2
    simp only [go_sem]
    refine (wl_for (l := d.fCache) (fun pre e h => e 1 = .ptr 0 0 ∧ e 2 = .ptr 1 0 ∧ e 3 = .ptr 2 0 ∧ h.hp 0 = some [.imm (d.fSecs.map (sliceT u8T).row), .imm (d.fCache.map TWrite.row), .int .i64 d.fOps, .imm (d.fFaults.map TFault.row), .bool d.fDown] ∧ h.hp 1 = some [.snil, .snil, .int .i64 0, .snil, .bool false] ∧ 3 ≤ h.nx ∧ (∃ x, h.hp 2 = some [y0, x, .int .i64 d.fOps, c1, .bool d.fDown] ∧ grows tWrite pre x h) ∧ e 5 = .int .i64 pre.length) (.exit 2) (fun e h => e 1 = .ptr 0 0 ∧ e 2 = .ptr 1 0 ∧ e 3 = .ptr 2 0 ∧ h.hp 0 = some [.imm (d.fSecs.map (sliceT u8T).row), .imm (d.fCache.map TWrite.row), .int .i64 d.fOps, .imm (d.fFaults.map TFault.row), .bool d.fDown] ∧ h.hp 1 = some [.snil, .snil, .int .i64 0, .snil, .bool false] ∧ 3 ≤ h.nx ∧ (∃ x, h.hp 2 = some [y0, x, .int .i64 d.fOps, c1, .bool d.fDown] ∧ grows tWrite (d.fCache) x h)) (by omega) ?_ ?_ (by simp) d.fCache [] _ _ rfl ?_).mono ?_
    · rintro pre v rest e h a ⟨q0, q1, q2, q3, q4, q5, q6, ix⟩
      obtain ⟨x0, hx0, gx0⟩ := id q6
      have n0 : ¬ 0 = h.nx := by omega
      have n1 : ¬ 1 = h.nx := by omega
      have n2 : ¬ 2 = h.nx := by omega
      have hvc := costL_mem tWrite a.mem
      have hvc2 : tWrite.cost v = (sliceT u8T).cost v.fB := rfl
      have hvc3 : (sliceT u8T).cost v.fB = v.fB.length + costL u8T v.fB := rfl
      simp only [go_sem, Nat.reduceBEq, Nat.reduceAdd, Nat.reduceLeDiff, s_spec_l12Copy_L1, q0, q1, q2, q3, q4, q5, ix, a.dl, a.ia (row := TWrite.row) (sz := 2) rfl, TWrite.row, hx0]
      refine hP_appE (T := u8T) v.fB rfl (rowsIn_imm _ _ _) (by unfold room; omega) ?_
      intro c s
      have zc := s.2
      have b2 : sFill [.int .i64 0, .snil] [(0, 1, .int .i64 v.fN), (1, 1, c)] = some [.int .i64 v.fN, c] := by simp [sFill, fillAt, zc, cell1 zc, cl_int, nc_int]
      have f1 : fillR (List.replicate 1 [.int .i64 0, .snil]) 2 [(0, .agg [.int .i64 v.fN, c])] = some [[.int .i64 v.fN, c]] := by simp [fillR, isAggV, AV.cells]
      have f2 : frzRows [[.int .i64 v.fN, c]] = some [TWrite.row v] := by simp [frzRows, frzCells, s.1, TWrite.row, fc_int]
      simp only [go_sem, Nat.reduceBEq, Nat.reduceAdd, b2, f1, f2]
      refine hP_grow [v] rfl (gx0.mono (by simp only []; omega) fun r hr => by have n3 : ¬ r = h.nx := (by omega); simp [n3]) rfl (by have := a.lt; simp only [List.length_cons, List.length_nil]; unfold room; omega) ?_
      intro v' h' g1 g2 g3 g4
      have e0 : h'.hp 0 = h.hp 0 := by rw [g2]
      have e1 : h'.hp 1 = h.hp 1 := by rw [g2]
      have e2 : h'.hp 2 = h.hp 2 := by rw [g2]
      have g5 : 3 ≤ h'.nx := by have : h.nx + 1 ≤ h'.nx := g3; omega
      have zv := g1.cell.2
      simp only [go_sem, kSt_ptr, Nat.reduceBEq, Nat.reduceAdd, Nat.reduceLeDiff, q0, q1, q2, e0, e1, e2, q3, q4, hx0, zv, cell1 zv, ix, a.hw, g5]
      exact ⟨v', rfl, g1.mono (Nat.le_refl _) fun _ _ => rfl⟩
    · rintro e h ⟨q0, q1, q2, q3, q4, q5, q6, ix⟩
      obtain ⟨x0, hx0, gx0⟩ := id q6
      simp only [go_sem, Nat.reduceBEq, Nat.reduceAdd, Nat.reduceLeDiff, s_spec_l12Copy_L1, q0, q1, q2, q3, q4, q5, q6, ix]
    · exact ⟨j0, j1, j2, j3, j4, j5, ⟨.snil, hy0, grows_nil _ _⟩, rfl⟩
    · rintro x e h ⟨rfl, j0, j1, j2, j3, j4, j5, x0, hx0, gx0⟩
      have zx := gx0.cell.2
      simp only [go_sem, kSt_ptr, Nat.reduceBEq, Nat.reduceAdd, j1, j2, j4, hx0, z1, zy, zx, s1.fz, gy0.cell.fz, gx0.cell.fz]
end Go.Proofs.YtmfkjlnhanomfaaGreat.Nl
/- What the functions that FnExactNoLeak calls answer: part 6. -/
namespace Go.Proofs.YtmfkjlnhanomfaaGreat.Nl
open Go Go.RowKit Go.Ev
set_option linter.unusedSimpArgs false
set_option linter.unusedVariables false
set_option maxHeartbeats 1600000
noncomputable def C_spec_TxNew := c1 tDisk (fun (d : TDisk) => tDisk.cost d ≤ 1048576) (fun x => .agg (x).row) fun (d : TDisk) => txNew d
theorem C_spec_TxNew_eq (d : TDisk) (h : tDisk.cost d ≤ 1048576) : C_spec_TxNew [.agg [.imm (d.fSecs.map (sliceT u8T).row), .imm (d.fCache.map TWrite.row), .int .i64 d.fOps, .imm (d.fFaults.map TFault.row), .bool d.fDown]] = some (.agg (((txNew d))).row) := c1_eq tDisk h
theorem ok_spec_TxNew {WI : World → Prop} (hs : Stable WI) (cs) (hT : TOK (EE cs) WI) (h1 : (EE cs).T 36 = some C_spec_BestMeta) (h2 : (EE cs).T 37 = some C_spec_l12Copy) : PureOK Tryz.prog WI 14 C_spec_TxNew := by
  refine pure1 (E := EE cs) hT hs (by rw [st_spec_TxNew]; rfl) fun d hp => out_wp (n := 0) (st_spec_TxNew cs) ?_
  have c1 := C_spec_BestMeta_eq d hp
  have c2 := C_spec_l12Copy_eq d hp
  unfold txNew
  rcases hb : bestMeta d with ⟨m, ok⟩
  rw [hb] at c1
  cases ok with
  | false => simp only [go_sem, kSt_ptr, Nat.reduceBEq, Nat.reduceAdd, Nat.reduceEqDiff, s_spec_TxNew, TDisk.row, tDisk_enc, TMeta.row, h1, c1, txFill0, noTxn, TTxn.row, Bool.false_eq_true]
  | true => simp only [go_sem, kSt_ptr, Nat.reduceBEq, Nat.reduceAdd, Nat.reduceEqDiff, Nat.reduceLeDiff, s_spec_TxNew, TDisk.row, tDisk_enc, TMeta.row, h1, c1, h2, c2, txFill, TTxn.row]
def texts (l : List (List UInt8)) : List UInt8 := (l.map utext).flatten
def nums (l : List Int) : List UInt8 := (l.map fun k => uenc (clampN k)).flatten
theorem texts_nil : texts [] = [] := rfl
theorem nums_nil : nums [] = [] := rfl
theorem texts_snoc (l : List (List UInt8)) (s : List UInt8) : texts (l ++ [s]) = texts l ++ utext s := by simp [texts]
theorem nums_snoc (l : List Int) (k : Int) : nums (l ++ [k]) = nums l ++ uenc (clampN k) := by simp [nums]
def leafN (b : Bool) : Int := if b then 1 else 0
def nodeHead (x : TNode) : List UInt8 := uenc (clampN (leafN x.fLeaf)) ++ uenc (clampN x.fKeys.length)
def nodeBody (x : TNode) : List UInt8 := nodeHead x ++ texts x.fKeys ++ (if x.fLeaf then texts x.fVals else nums x.fKids)
theorem texts_len (l : List (List UInt8)) : (texts l).length ≤ 3 * l.length + costL strT l := by
  induction l with
  | nil => simp [texts, costL]
  | cons s l ih =>
    have h1 := (uenc_len (clampN s.length) (clampN_le _)).1
    have h2 : texts (s :: l) = utext s ++ texts l := by simp [texts]
    have h3 : costL strT (s :: l) = s.length + costL strT l := rfl
    rw [h2, List.length_append, h3]
    unfold utext
    rw [List.length_append, List.length_cons]
    omega
theorem nums_len (l : List Int) : (nums l).length ≤ 3 * l.length := by
  induction l with
  | nil => simp [nums]
  | cons s l ih =>
    have h1 := (uenc_len (clampN s) (clampN_le _)).1
    have h2 : nums (s :: l) = uenc (clampN s) ++ nums l := by simp [nums]
    rw [h2, List.length_append, List.length_cons]
    omega
structure NodeB (x : TNode) : Prop where
  keys : x.fKeys.length ≤ 1048576
  vals : x.fVals.length ≤ 1048576
  kids : x.fKids.length ≤ 1048576
  key : ∀ s ∈ x.fKeys, s.length ≤ 1048576
  val : ∀ s ∈ x.fVals, s.length ≤ 1048576
  all : 3 * x.fKeys.length + costL strT x.fKeys + (3 * x.fVals.length + costL strT x.fVals) + 3 * x.fKids.length ≤ 3145728
theorem nodeB {x : TNode} (h : tNode.cost x ≤ 1048576) : NodeB x := by
  have hc : tNode.cost x = (sliceT strT).cost x.fKeys + (sliceT strT).cost x.fVals + (sliceT intT).cost x.fKids := rfl
  have h1 : (sliceT strT).cost x.fKeys = x.fKeys.length + costL strT x.fKeys := rfl
  have h2 : (sliceT strT).cost x.fVals = x.fVals.length + costL strT x.fVals := rfl
  have h3 : (sliceT intT).cost x.fKids = x.fKids.length + costL intT x.fKids := rfl
  refine ⟨by omega, by omega, by omega, fun s hs => ?_, fun s hs => ?_, by omega⟩
  · have := costL_mem strT hs
    have e : strT.cost s = s.length := rfl
    omega
  · have := costL_mem strT hs
    have e : strT.cost s = s.length := rfl
    omega
theorem nodeHead_len (x : TNode) : (nodeHead x).length ≤ 6 := by
  have h1 := (uenc_len (clampN (leafN x.fLeaf)) (clampN_le _)).1
  have h2 := (uenc_len (clampN x.fKeys.length) (clampN_le _)).1
  unfold nodeHead
  rw [List.length_append]
  omega
/-- Each, and ahead of the next. -/
def risB (pre : List (List UInt8)) (v : List UInt8) : Bool := decide (v.length ≤ 48) && (match pre.getLast? with | none => true | some p => Op.bytesLess p v)
def rising (l : List (List UInt8)) : Bool := allP risB [] l
def nodeFit (x : TNode) : Bool := if x.fLeaf then x.fVals.all (fun v => decide (v.length ≤ 60)) && (decide (1 ≤ x.fKeys.length) && decide (x.fVals.length = x.fKeys.length) && decide (x.fKids.length = 0)) else x.fKids.all (fun k => inR k 2 47) && (decide (1 ≤ x.fKids.length) && decide (x.fKeys.length + 1 = x.fKids.length) && decide (x.fVals.length = 0))
def nodeOk (x : TNode) : Bool := rising x.fKeys && decide ((nodeBody x).length ≤ 240) && nodeFit x
def putNode (x : TNode) : List UInt8 := if nodeOk x = true then nodeBody x else []
theorem kBin_sge (s t : List UInt8) (h : Hp) : kBin .geq (.str s) (.str t) h = some (.bool (!(Op.bytesLess s t)), h) := rfl
theorem kBin_sle (s t : List UInt8) (h : Hp) : kBin .leq (.str s) (.str t) h = some (.bool (Op.bytesLess s t || s == t), h) := rfl
theorem nodeBody_len {x : TNode} (b : NodeB x) : (nodeBody x).length ≤ 3145734 := by
  have h1 := nodeHead_len x
  have h2 := texts_len x.fKeys
  have h3 := texts_len x.fVals
  have h4 := nums_len x.fKids
  have h5 := b.all
  unfold nodeBody
  rw [List.length_append, List.length_append]
  split <;> omega
theorem texts_pre {pre rest : List (List UInt8)} : (texts pre).length ≤ (texts (pre ++ rest)).length := by
  unfold texts
  rw [List.map_append, List.flatten_append, List.length_append]
  omega
theorem nums_pre {pre rest : List Int} : (nums pre).length ≤ (nums (pre ++ rest)).length := by
  unfold nums
  rw [List.map_append, List.flatten_append, List.length_append]
  omega
theorem risB_nil (v : List UInt8) : risB [] v = decide (v.length ≤ 48) := by simp [risB]
theorem risB_snoc (q : List (List UInt8)) (p v : List UInt8) : risB (q ++ [p]) v = (decide (v.length ≤ 48) && Op.bytesLess p v) := by simp [risB]
theorem list_end {α : Type} (l : List α) : l = [] ∨ ∃ q p, l = q ++ [p] := by
  cases l with
  | nil => exact .inl rfl
  | cons a l => exact .inr ⟨(a :: l).dropLast, (a :: l).getLast (by simp), (List.dropLast_concat_getLast (by simp)).symm⟩
theorem beqN (a b : Nat) : (((a : Nat) : Int) == ((b : Nat) : Int)) = decide (a = b) := by
  rw [Bool.eq_iff_iff]; simp; omega
theorem beqP (a b : Nat) : (((a : Nat) : Int) == ((b : Int) - 1)) = decide (a + 1 = b) := by
  rw [Bool.eq_iff_iff]; simp; omega
noncomputable def C_spec_l14Copy := c1 tNode (fun (x : TNode) => tNode.cost x ≤ 1048576) (fun x => .agg (x).row) fun (x : TNode) => x
theorem C_spec_l14Copy_eq (x : TNode) (h : tNode.cost x ≤ 1048576) : C_spec_l14Copy [.agg [.bool x.fLeaf, .imm (x.fKeys.map strT.row), .imm (x.fVals.map strT.row), .imm (x.fKids.map intT.row)]] = some (.agg (((x))).row) := c1_eq tNode h
theorem ok_spec_l14Copy {WI : World → Prop} (hs : Stable WI) (cs) (hT : TOK (EE cs) WI) : PureOK Tryz.prog WI 39 C_spec_l14Copy := by
  refine pure1 (E := EE cs) hT hs (by rw [st_spec_l14Copy]; rfl) fun x hp => out_wp (n := 0) (st_spec_l14Copy cs) ?_
  have nb := nodeB hp
  have q1 := nb.keys
  have q2 := nb.vals
  have q3 := nb.kids
  simp only [go_sem, Nat.reduceBEq, Nat.reduceAdd, Nat.reduceLeDiff, s_spec_l14Copy, TNode.row, tNode_enc]
  refine hP_appE (T := strT) x.fKeys rfl (rowsIn_imm _ _ _) (by unfold room; omega) ?_
  intro c1 s1
  have z1 := s1.2
  simp only [go_sem, Nat.reduceBEq, Nat.reduceAdd, Nat.reduceLeDiff]
  refine hP_appE (T := strT) x.fVals rfl (rowsIn_imm _ _ _) (by unfold room; omega) ?_
  intro c2 s2
  have z2 := s2.2
  simp only [go_sem, Nat.reduceBEq, Nat.reduceAdd, Nat.reduceLeDiff]
  refine hP_appE (T := intT) x.fKids rfl (rowsIn_imm _ _ _) (by unfold room; omega) ?_
  intro c3 s3
  have z3 := s3.2
  have f1 : sFill [.bool false, .snil, .snil, .snil] [(0, 1, .bool x.fLeaf), (1, 1, c1), (2, 1, c2), (3, 1, c3)] = some [.bool x.fLeaf, c1, c2, c3] := by simp [sFill, fillAt, z1, cell1 z1, z2, cell1 z2, z3, cell1 z3, cl_bool, nc_bool]
  simp only [go_sem, kSt_ptr, Nat.reduceBEq, Nat.reduceAdd, f1, z1, z2, z3, s1.fz, s2.fz, s3.fz]
noncomputable def C_spec_PageAt := c3 tDisk intT intT (fun (d : TDisk) (n : Int) (k : Int) => tDisk.cost d ≤ 1048576) (fun x => .tup [.imm (x.1.map u8T.row), .bool x.2]) fun (d : TDisk) (n : Int) (k : Int) => pageAt d n k
theorem C_spec_PageAt_eq (d : TDisk) (n : Int) (k : Int) (h : tDisk.cost d ≤ 1048576) : C_spec_PageAt [.agg [.imm (d.fSecs.map (sliceT u8T).row), .imm (d.fCache.map TWrite.row), .int .i64 d.fOps, .imm (d.fFaults.map TFault.row), .bool d.fDown], .int .i64 n, .int .i64 k] = some (.tup [.imm (((pageAt d n k).1).map u8T.row), .bool ((pageAt d n k).2)]) := c3_eq tDisk intT intT h
theorem ok_spec_PageAt {WI : World → Prop} (hs : Stable WI) (cs) (hT : TOK (EE cs) WI) (h1 : (EE cs).T 64 = some C_spec_ReadSec) (h2 : (EE cs).T 99 = some C_spec_GetPage) : PureOK Tryz.prog WI 67 C_spec_PageAt := by
  refine pure3 (E := EE cs) hT hs (by rw [st_spec_PageAt]; rfl) fun d n k hp => out_wp (n := 0) (st_spec_PageAt cs) ?_
  have c1 := C_spec_ReadSec_eq d n hp
  have hl := readSec_len hp n
  unfold pageAt
  rcases hr : readSec d n with ⟨b, ok⟩
  rw [hr] at c1 hl
  simp only at hl ⊢
  have c2 := C_spec_GetPage_eq b hl
  rcases hg : getPage b with ⟨kind, body, is⟩
  rw [hg] at c2
  simp only
  cases ok with
  | false => simp only [go_sem, Nat.reduceBEq, Nat.reduceAdd, s_spec_PageAt, TDisk.row, tDisk_enc, h1, c1, h2, c2, rep0, fill0, frz0, false_and]
  | true =>
  cases is with
  | false => simp only [go_sem, Nat.reduceBEq, Nat.reduceAdd, s_spec_PageAt, TDisk.row, tDisk_enc, h1, c1, h2, c2, rep0, fill0, frz0, false_and]
  | true =>
  by_cases hk : kind = k
  · have e1 : (kind != k) = false := by simp [hk]
    simp only [go_sem, Nat.reduceBEq, Nat.reduceAdd, s_spec_PageAt, TDisk.row, tDisk_enc, h1, c1, h2, c2, hk]
  · have e1 : (kind != k) = true := by simpa using hk
    simp only [go_sem, Nat.reduceBEq, Nat.reduceAdd, s_spec_PageAt, TDisk.row, tDisk_enc, h1, c1, h2, c2, e1, hk, rep0, fill0, frz0, and_false]
def rU (b : List UInt8) (i : Int) (bad : Bool) : Int × Int × Bool := if bad = true ∨ (getU b i).2.2 = false then (0, i, true) else ((getU b i).1, (getU b i).2.1, false)
def rT (b : List UInt8) (i : Int) (bad : Bool) : List UInt8 × Int × Bool := if bad = true ∨ (getText b i).2.2 = false then ([], i, true) else ((getText b i).1, (getText b i).2.1, false)
structure RdS (b : List UInt8) (r : Nat) (i : Int) (bad : Bool) (h h' : Hp) : Prop where
  at_ : h'.hp r = some [.imm (b.map u8T.row), .int .i64 i, .bool bad]
  hp : ∀ q, q ≠ r → h'.hp q = h.hp q
  ap : h'.ap = h.ap
  nx : h'.nx = h.nx
theorem rU_ok {b : List UInt8} {i n j : Int} (h : getU b i = (n, j, true)) : rU b i false = (n, j, false) := by unfold rU; rw [h]; simp
theorem rU_no {b : List UInt8} {i n j : Int} (h : getU b i = (n, j, false)) (bad : Bool) : rU b i bad = (0, i, true) := by unfold rU; rw [h]; simp
theorem rU_bad (b : List UInt8) (i : Int) : rU b i true = (0, i, true) := by unfold rU; simp
theorem rT_ok {b s : List UInt8} {i j : Int} (h : getText b i = (s, j, true)) : rT b i false = (s, j, false) := by unfold rT; rw [h]; simp
theorem rT_no {b s : List UInt8} {i j : Int} (h : getText b i = (s, j, false)) (bad : Bool) : rT b i bad = ([], i, true) := by unfold rT; rw [h]; simp
theorem rT_bad (b : List UInt8) (i : Int) : rT b i true = ([], i, true) := by unfold rT; simp
theorem rU_rng (b : List UInt8) (i : Int) (bad : Bool) : 0 ≤ (rU b i bad).1 ∧ (rU b i bad).1 ≤ 1000000 := by
  have h := getU_rng b i
  unfold rU
  split
  · simp
  · rename_i hc
    have : (getU b i).2.2 = true := by cases hq : (getU b i).2.2 with | true => rfl | false => exact absurd (Or.inr hq) hc
    exact ⟨(h this).1, (h this).2.1⟩
theorem rU_inv {b : List UInt8} {i n j : Int} (h : rU b i false = (n, j, false)) : b.drop i.toNat = uenc (clampN n) ++ b.drop j.toNat ∧ i < j ∧ j ≤ b.length := by
  unfold rU at h
  rcases hu : getU b i with ⟨n0, j0, ok⟩
  rw [hu] at h
  cases ok with
  | false => simp at h
  | true =>
    simp at h
    obtain ⟨rfl, rfl⟩ := h
    obtain ⟨m, r, h0, rfl, hm, h1, rfl, h2, h3⟩ := getU_inv hu
    rw [h3, h1, clampN_of hm]
    refine ⟨rfl, ?_, by omega⟩
    have := congrArg List.length h1
    rw [List.length_drop, List.length_append] at this
    have := (uenc_len m hm).2
    omega
theorem rT_inv {b s : List UInt8} {i j : Int} (h : rT b i false = (s, j, false)) : b.drop i.toNat = utext s ++ b.drop j.toNat ∧ i < j ∧ j ≤ b.length := by
  unfold rT at h
  rcases hu : getText b i with ⟨s0, j0, ok⟩
  rw [hu] at h
  cases ok with
  | false => simp at h
  | true =>
    simp at h
    obtain ⟨rfl, rfl⟩ := h
    unfold getText at hu
    rcases hq : getU b i with ⟨n2, j2, ok2⟩
    rw [hq] at hu
    simp only at hu
    split at hu
    · cases hu
    · rename_i hc
      simp only [Prod.mk.injEq] at hu
      obtain ⟨rfl, rfl, _⟩ := hu
      cases ok2 with
      | false => exact absurd (Or.inl rfl) hc
      | true =>
        obtain ⟨m, r, h0, rfl, hm, h1, rfl, h2, h3⟩ := getU_inv hq
        have hmr : m ≤ r.length := by have : ¬ (b.length : Int) - ((b.length : Int) - r.length) < m := fun h => hc (.inr h); omega
        have hd : b.drop ((b.length : Int) - r.length + (m : Int)).toNat = r.drop m := by
          rw [show ((b.length : Int) - r.length + (m : Int)).toNat = ((b.length : Int) - r.length).toNat + m by omega, ← List.drop_drop, h3]
        have hl : (r.take m).length = m := by rw [List.length_take]; omega
        rw [h3, Int.toNat_natCast, hd, h1]
        unfold utext
        rw [hl, clampN_of hm, List.append_assoc, List.take_append_drop]
        refine ⟨rfl, ?_, by omega⟩
        have := congrArg List.length h1
        rw [List.length_drop, List.length_append] at this
        have := (uenc_len m hm).2
        omega
def gsT (b : List UInt8) : Nat → Int → Bool → List (List UInt8) × Int × Bool
  | 0, i, bad => ([], i, bad)
  | m + 1, i, true => ([], i, true)
  | m + 1, i, false => ((rT b i false).1 :: (gsT b m (rT b i false).2.1 (rT b i false).2.2).1, (gsT b m (rT b i false).2.1 (rT b i false).2.2).2)
theorem gsT_bad (b : List UInt8) (m : Nat) (i : Int) : gsT b m i true = ([], i, true) := by cases m <;> rfl
theorem gsT_inv (b : List UInt8) : ∀ (m : Nat) (i : Int) (l : List (List UInt8)) (j : Int), 0 ≤ i → i ≤ b.length → gsT b m i false = (l, j, false) → b.drop i.toNat = texts l ++ b.drop j.toNat ∧ i + m ≤ j ∧ j ≤ b.length ∧ l.length = m := by
  intro m
  induction m with
  | zero =>
    intro i l j h0 h1 h
    simp only [gsT, Prod.mk.injEq, and_true] at h
    obtain ⟨rfl, rfl⟩ := h
    exact ⟨rfl, by omega, h1, rfl⟩
  | succ m ih =>
    intro i l j h0 h1 h
    simp only [gsT] at h
    rcases hr : rT b i false with ⟨s, j1, bd⟩
    rw [hr] at h
    cases bd with
    | true =>
      simp only [gsT_bad, Prod.mk.injEq, Bool.true_eq_false, and_false] at h
    | false =>
      obtain ⟨a1, a2, a3⟩ := rT_inv hr
      simp only at h
      rcases hq : gsT b m j1 false with ⟨l2, j2, b2⟩
      rw [hq] at h
      simp only [Prod.mk.injEq] at h
      obtain ⟨rfl, rfl, rfl⟩ := h
      obtain ⟨c1, c2, c3, c4⟩ := ih j1 l2 j2 (by omega) a3 hq
      refine ⟨?_, by omega, c3, by simp [c4]⟩
      rw [a1, c1]
      simp [texts]
theorem gsT_len (b : List UInt8) : ∀ (m : Nat) (i : Int) (bad : Bool), (gsT b m i bad).1.length ≤ m := by
  intro m
  induction m with
  | zero => intro i bad; simp [gsT]
  | succ m ih =>
    intro i bad
    cases bad with
    | true => simp [gsT]
    | false => simp only [gsT, List.length_cons]; have := ih (rT b i false).2.1 (rT b i false).2.2; omega
def gsU (b : List UInt8) : Nat → Int → Bool → List Int × Int × Bool
  | 0, i, bad => ([], i, bad)
  | m + 1, i, true => ([], i, true)
  | m + 1, i, false => ((rU b i false).1 :: (gsU b m (rU b i false).2.1 (rU b i false).2.2).1, (gsU b m (rU b i false).2.1 (rU b i false).2.2).2)
theorem gsU_bad (b : List UInt8) (m : Nat) (i : Int) : gsU b m i true = ([], i, true) := by cases m <;> rfl
theorem gsU_inv (b : List UInt8) : ∀ (m : Nat) (i : Int) (l : List Int) (j : Int), 0 ≤ i → i ≤ b.length → gsU b m i false = (l, j, false) → b.drop i.toNat = nums l ++ b.drop j.toNat ∧ i + m ≤ j ∧ j ≤ b.length ∧ l.length = m := by
  intro m
  induction m with
  | zero =>
    intro i l j h0 h1 h
    simp only [gsU, Prod.mk.injEq, and_true] at h
    obtain ⟨rfl, rfl⟩ := h
    exact ⟨rfl, by omega, h1, rfl⟩
  | succ m ih =>
    intro i l j h0 h1 h
    simp only [gsU] at h
    rcases hr : rU b i false with ⟨s, j1, bd⟩
    rw [hr] at h
    cases bd with
    | true =>
      simp only [gsU_bad, Prod.mk.injEq, Bool.true_eq_false, and_false] at h
    | false =>
      obtain ⟨a1, a2, a3⟩ := rU_inv hr
      simp only at h
      rcases hq : gsU b m j1 false with ⟨l2, j2, b2⟩
      rw [hq] at h
      simp only [Prod.mk.injEq] at h
      obtain ⟨rfl, rfl, rfl⟩ := h
      obtain ⟨c1, c2, c3, c4⟩ := ih j1 l2 j2 (by omega) a3 hq
      refine ⟨?_, by omega, c3, by simp [c4]⟩
      rw [a1, c1]
      simp [nums]
theorem gsU_len (b : List UInt8) : ∀ (m : Nat) (i : Int) (bad : Bool), (gsU b m i bad).1.length ≤ m := by
  intro m
  induction m with
  | zero => intro i bad; simp [gsU]
  | succ m ih =>
    intro i bad
    cases bad with
    | true => simp [gsU]
    | false => simp only [gsU, List.length_cons]; have := ih (rU b i false).2.1 (rU b i false).2.2; omega
theorem rT_len {b : List UInt8} (hb : b.length ≤ 1048576) (i : Int) (bad : Bool) : (rT b i bad).1.length ≤ b.length := by
  unfold rT
  split
  · simp
  · unfold getText
    split
    rename_i n j ok hu
    split
    · simp
    · simp only [List.length_take, List.length_drop]; omega
theorem gsT_cost {b : List UInt8} (hb : b.length ≤ 1048576) : ∀ (m : Nat) (i : Int) (bad : Bool), costL strT (gsT b m i bad).1 ≤ m * b.length := by
  intro m
  induction m with
  | zero => intro i bad; simp [gsT, costL]
  | succ m ih =>
    intro i bad
    cases bad with
    | true => simp [gsT, costL]
    | false =>
      have h1 := ih (rT b i false).2.1 (rT b i false).2.2
      have h2 := rT_len hb i false
      have h3 : costL strT (gsT b (m + 1) i false).1 = (rT b i false).1.length + costL strT (gsT b m (rT b i false).2.1 (rT b i false).2.2).1 := rfl
      rw [h3, Nat.add_mul]
      omega
def nodeOf (b : List UInt8) (lf : Int) (n : Nat) (j : Int) (bad : Bool) : TNode × Int × Bool :=
  if lf = 1 then (⟨true, (gsT b n j bad).1, (gsT b n (gsT b n j bad).2.1 (gsT b n j bad).2.2).1, []⟩, (gsT b n (gsT b n j bad).2.1 (gsT b n j bad).2.2).2)
  else (⟨false, (gsT b n j bad).1, [], (gsU b (n + 1) (gsT b n j bad).2.1 (gsT b n j bad).2.2).1⟩, (gsU b (n + 1) (gsT b n j bad).2.1 (gsT b n j bad).2.2).2)
theorem nodeOf_cost {b : List UInt8} (hb : b.length ≤ 240) {lf : Int} {n : Nat} {j : Int} {bad : Bool} (hn : n ≤ 240 ∨ bad = true) : tNode.cost (nodeOf b lf n j bad).1 ≤ 1048576 := by
  have hbb : b.length ≤ 1048576 := by omega
  have key : ∀ (m : Nat) (i : Int) (bad : Bool), (m ≤ 241 ∨ bad = true) → (sliceT strT).cost (gsT b m i bad).1 ≤ 241 + 241 * 240 := by
    intro m i bad h
    have e : (sliceT strT).cost (gsT b m i bad).1 = (gsT b m i bad).1.length + costL strT (gsT b m i bad).1 := rfl
    rcases h with h | rfl
    · have h1 := gsT_len b m i bad
      have h2 := gsT_cost hbb m i bad
      have h3 : m * b.length ≤ 241 * 240 := Nat.mul_le_mul h hb
      omega
    · rw [gsT_bad] at e ⊢
      rw [e]; simp [costL]
  have keyU : ∀ (m : Nat) (i : Int) (bad : Bool), (m ≤ 241 ∨ bad = true) → (sliceT intT).cost (gsU b m i bad).1 ≤ 241 := by
    intro m i bad h
    have e : (sliceT intT).cost (gsU b m i bad).1 = (gsU b m i bad).1.length + costL intT (gsU b m i bad).1 := rfl
    have z : ∀ l : List Int, costL intT l = 0 := by
      intro l
      induction l with
      | nil => rfl
      | cons a l ih => have : costL intT (a :: l) = 0 + costL intT l := rfl; omega
    rcases h with h | rfl
    · have h1 := gsU_len b m i bad
      rw [e, z]; omega
    · rw [gsU_bad] at e ⊢
      rw [e]; simp [costL]
  have hn1 : n ≤ 241 ∨ bad = true := by rcases hn with h | h; exact .inl (by omega); exact .inr h
  have hk : (n ≤ 241 ∧ n + 1 ≤ 241) ∨ (gsT b n j bad).2.2 = true := by
    rcases hn with h | rfl
    · exact .inl (by omega)
    · rw [gsT_bad]; exact .inr rfl
  have c0 : ∀ x : TNode, tNode.cost x = (sliceT strT).cost x.fKeys + (sliceT strT).cost x.fVals + (sliceT intT).cost x.fKids := fun _ => rfl
  have k1 := key n j bad hn1
  have k2 := key n (gsT b n j bad).2.1 (gsT b n j bad).2.2 (hk.imp And.left id)
  have k3 := keyU (n + 1) (gsT b n j bad).2.1 (gsT b n j bad).2.2 (hk.imp And.right id)
  have n1 : (sliceT strT).cost ([] : List (List UInt8)) = 0 := rfl
  have n2 : (sliceT intT).cost ([] : List Int) = 0 := rfl
  unfold nodeOf
  split <;> rw [c0] <;> simp only [n1, n2] <;> omega
def headB (b : List UInt8) (lim : Int) : Int × Int × Int × Bool := ((rU b 0 false).1, (rU b (rU b 0 false).2.1 (rU b 0 false).2.2).1, (rU b (rU b 0 false).2.1 (rU b 0 false).2.2).2.1, (rU b (rU b 0 false).2.1 (rU b 0 false).2.2).2.2 || decide (1 < (rU b 0 false).1) || decide (lim < (rU b (rU b 0 false).2.1 (rU b 0 false).2.2).1))
def nodeRead (b : List UInt8) (lim : Int) : TNode × Int × Bool := nodeOf b (headB b lim).1 (headB b lim).2.1.toNat (headB b lim).2.2.1 (headB b lim).2.2.2
def noNode : TNode := ⟨false, [], [], []⟩
def nodeEnd (b : List UInt8) (q : TNode × Int × Bool) : TNode × Bool := if q.2.2 = false ∧ q.2.1 = b.length ∧ nodeOk q.1 = true then (q.1, true) else (noNode, false)
theorem nodeEnd_bad (b : List UInt8) (x : TNode) (i : Int) : nodeEnd b (x, i, true) = (noNode, false) := by simp [nodeEnd]
theorem nodeEnd_at {b : List UInt8} (x : TNode) {i : Int} (bad : Bool) (h : ¬ i = b.length) : nodeEnd b (x, i, bad) = (noNode, false) := by simp [nodeEnd, h]
theorem nodeEnd_no {b : List UInt8} {x : TNode} {i : Int} (bad : Bool) (h : nodeOk x = false) : nodeEnd b (x, i, bad) = (noNode, false) := by simp [nodeEnd, h]
theorem nodeEnd_ok {b : List UInt8} {x : TNode} {i : Int} (h : i = b.length) (h2 : nodeOk x = true) : nodeEnd b (x, i, false) = (x, true) := by simp [nodeEnd, h, h2]
def getNode (b : List UInt8) : TNode × Bool := nodeEnd b (nodeRead b b.length)
end Go.Proofs.YtmfkjlnhanomfaaGreat.Nl
/- What the functions that FnExactNoLeak calls answer: part 7. -/
namespace Go.Proofs.YtmfkjlnhanomfaaGreat.Nl
open Go Go.RowKit Go.Ev
set_option linter.unusedSimpArgs false
set_option linter.unusedVariables false
set_option maxHeartbeats 1600000
theorem rd_spec_l14Text (cs) (h1 : (EE cs).T 119 = some C_spec_GetText) (b : List UInt8) (hb : b.length ≤ 1048576) (r : Nat) (i : Int) (bad : Bool) (h : Hp) (hr : h.hp r = some [.imm (b.map u8T.row), .int .i64 i, .bool bad]) :
    ∃ h', RunF (EE cs) 103 [.ptr r 0] h (.str (rT b i bad).1, h') ∧ RdS b r (rT b i bad).2.1 (rT b i bad).2.2 h h' := by
  have c1 := C_spec_GetText_eq b i hb
  rcases hu : getText b i with ⟨n, j, ok⟩
  rw [hu] at c1
  have : ∃ rr, RunF (EE cs) 103 [.ptr r 0] h rr ∧ rr.1 = .str (rT b i bad).1 ∧ RdS b r (rT b i bad).2.1 (rT b i bad).2.2 h rr.2 := by
    refine run_wp (st_spec_l14Text cs) ?_
    cases bad with
    | true =>
      rw [rT_bad]
      cases ok <;> simp only [go_sem, kSt_ptr, Nat.reduceBEq, Nat.reduceAdd, Nat.reduceLeDiff, s_spec_l14Text, hr, h1, c1] <;> exact ⟨fun _ e => (by cases e), _, rfl, rfl, by simp, fun q hq => by simp [hq], rfl, rfl⟩
    | false =>
      cases ok with
      | false =>
        rw [rT_no hu]
        simp only [go_sem, kSt_ptr, Nat.reduceBEq, Nat.reduceAdd, Nat.reduceLeDiff, s_spec_l14Text, hr, h1, c1]
        exact ⟨fun _ e => (by cases e), _, rfl, rfl, by simp, fun q hq => by simp [hq], rfl, rfl⟩
      | true =>
        rw [rT_ok hu]
        simp only [go_sem, kSt_ptr, Nat.reduceBEq, Nat.reduceAdd, Nat.reduceLeDiff, s_spec_l14Text, hr, h1, c1]
        exact ⟨fun _ e => (by cases e), _, rfl, rfl, by simp, fun q hq => by simp [hq], rfl, rfl⟩
  obtain ⟨⟨v, h'⟩, k1, k2, k3⟩ := this
  simp only at k2 k3
  subst k2
  exact ⟨h', k1, k3⟩
theorem rd_spec_l14Num (cs) (h1 : (EE cs).T 100 = some C_spec_GetU) (b : List UInt8) (hb : b.length ≤ 1048576) (r : Nat) (i : Int) (bad : Bool) (h : Hp) (hr : h.hp r = some [.imm (b.map u8T.row), .int .i64 i, .bool bad]) :
    ∃ h', RunF (EE cs) 102 [.ptr r 0] h (.int .i64 (rU b i bad).1, h') ∧ RdS b r (rU b i bad).2.1 (rU b i bad).2.2 h h' := by
  have c1 := C_spec_GetU_eq b i hb
  rcases hu : getU b i with ⟨n, j, ok⟩
  rw [hu] at c1
  have : ∃ rr, RunF (EE cs) 102 [.ptr r 0] h rr ∧ rr.1 = .int .i64 (rU b i bad).1 ∧ RdS b r (rU b i bad).2.1 (rU b i bad).2.2 h rr.2 := by
    refine run_wp (st_spec_l14Num cs) ?_
    cases bad with
    | true =>
      rw [rU_bad]
      cases ok <;> simp only [go_sem, kSt_ptr, Nat.reduceBEq, Nat.reduceAdd, Nat.reduceLeDiff, s_spec_l14Num, hr, h1, c1] <;> exact ⟨fun _ e => (by cases e), _, rfl, rfl, by simp, fun q hq => by simp [hq], rfl, rfl⟩
    | false =>
      cases ok with
      | false =>
        rw [rU_no hu]
        simp only [go_sem, kSt_ptr, Nat.reduceBEq, Nat.reduceAdd, Nat.reduceLeDiff, s_spec_l14Num, hr, h1, c1]
        exact ⟨fun _ e => (by cases e), _, rfl, rfl, by simp, fun q hq => by simp [hq], rfl, rfl⟩
      | true =>
        rw [rU_ok hu]
        simp only [go_sem, kSt_ptr, Nat.reduceBEq, Nat.reduceAdd, Nat.reduceLeDiff, s_spec_l14Num, hr, h1, c1]
        exact ⟨fun _ e => (by cases e), _, rfl, rfl, by simp, fun q hq => by simp [hq], rfl, rfl⟩
  obtain ⟨⟨v, h'⟩, k1, k2, k3⟩ := this
  simp only at k2 k3
  subst k2
  exact ⟨h', k1, k3⟩
noncomputable def C_spec_l14Rising := c1 (sliceT strT) (fun (l : List (List UInt8)) => l.length ≤ 1048576) (.bool) fun (l : List (List UInt8)) => rising l
theorem C_spec_l14Rising_eq (l : List (List UInt8)) (h : l.length ≤ 1048576) : C_spec_l14Rising [.imm (l.map strT.row)] = some (.bool ((rising l))) := c1_eq (sliceT strT) h
theorem ok_spec_l14Rising {WI : World → Prop} (hs : Stable WI) (cs) (hT : TOK (EE cs) WI) : PureOK Tryz.prog WI 120 C_spec_l14Rising := by
  refine pure1 (E := EE cs) hT hs (by rw [st_spec_l14Rising]; rfl) fun l hp => out_wp (n := 0) (st_spec_l14Rising cs) ?_
  have hlen : l.length ≤ 1048576 := hp
  simp only [go_sem, s_spec_l14Rising]
  refine (wl_all (l := l) (fun pre v => risB pre v) (fun pre e h => e 0 = .imm (l.map strT.row) ∧ e 3 = .int .i64 pre.length) (.exit 0) (fun e h => True) (fun e h => e 2 = .bool false) (by omega) ?_ ?_ ?_ (by simp) l [] _ _ rfl ?_).mono ?_
  · rintro pre v rest e h a hp ⟨q0, ix⟩
    have hdl := a.dl
    have hia := fun h => a.ia (row := strT.row) (sz := 1) rfl h
    have hw := a.hw
    have hlt := a.lt
    rcases list_end pre with hz | ⟨q, p0, hz⟩
    · rw [hz, risB_nil] at hp
      have h0 : ¬ (0 : Int) < (pre.length : Int) := by rw [hz]; decide
      have h48 : ¬ (48 : Int) < (v.length : Int) := by have := of_decide_eq_true hp; omega
      simp only [go_sem, Nat.reduceBEq, s_spec_l14Rising_L0, hdl, hia, strT_row, hw, h0, h48, q0, ix]
    · rw [hz, risB_snoc] at hp
      have hpl : (pre.length : Int) - 1 = (q.length : Int) := by rw [hz]; simp
      have h0 : (0 : Int) < (pre.length : Int) := by omega
      have hw1 : IntKind.wrap .i64 ((pre.length : Int) - 1) = (q.length : Int) := by rw [wrapId (by omega) (by omega)]; exact hpl
      have hib := fun h => kIa_map (h := h) (row := strT.row) (sz := 1) (l := l) (pre := q) (v := p0) (rest := v :: rest) (by rw [a.hl, hz]; simp) rfl
      simp only [Bool.and_eq_true, decide_eq_true_eq] at hp
      have h48 : ¬ (48 : Int) < (v.length : Int) := by omega
      have hbl := hp.2
      simp only [go_sem, Nat.reduceBEq, s_spec_l14Rising_L0, hdl, hia, hib, strT_row, hw, hw1, h0, h48, hbl, kBin_sge, q0, ix]
  · rintro pre v rest e h a hp ⟨q0, ix⟩
    have hdl := a.dl
    have hia := fun h => a.ia (row := strT.row) (sz := 1) rfl h
    have hw := a.hw
    have hlt := a.lt
    rcases list_end pre with hz | ⟨q, p0, hz⟩
    · rw [hz, risB_nil] at hp
      have h0 : ¬ (0 : Int) < (pre.length : Int) := by rw [hz]; decide
      have h48 : (48 : Int) < (v.length : Int) := by have := of_decide_eq_false hp; omega
      simp only [go_sem, Nat.reduceBEq, s_spec_l14Rising_L0, hdl, hia, strT_row, hw, h48, q0, ix]
    · rw [hz, risB_snoc] at hp
      have hpl : (pre.length : Int) - 1 = (q.length : Int) := by rw [hz]; simp
      have h0 : (0 : Int) < (pre.length : Int) := by omega
      have hw1 : IntKind.wrap .i64 ((pre.length : Int) - 1) = (q.length : Int) := by rw [wrapId (by omega) (by omega)]; exact hpl
      have hib := fun h => kIa_map (h := h) (row := strT.row) (sz := 1) (l := l) (pre := q) (v := p0) (rest := v :: rest) (by rw [a.hl, hz]; simp) rfl
      by_cases h48 : (48 : Int) < (v.length : Int)
      · simp only [go_sem, Nat.reduceBEq, s_spec_l14Rising_L0, hdl, hia, strT_row, hw, h48, q0, ix]
      · have hbl : Op.bytesLess p0 v = false := by
          have h2 : decide (v.length ≤ 48) = true := decide_eq_true (by omega)
          rw [h2, Bool.true_and] at hp
          exact hp
        simp only [go_sem, Nat.reduceBEq, s_spec_l14Rising_L0, hdl, hia, hib, strT_row, hw, hw1, h0, h48, hbl, kBin_sge, q0, ix]
  · rintro e h ⟨q0, ix⟩
    simp only [go_sem, Nat.reduceBEq, s_spec_l14Rising_L0, q0, ix]
  · simp only [go_sem, Nat.reduceBEq]
  · rintro x e h (⟨hp, rfl, _⟩ | ⟨hp, rfl, j⟩)
    · simp only [go_sem, rising, hp]
    · simp only [go_sem, rising, hp, j]
noncomputable def C_spec_PutU := c2 (sliceT u8T) intT (fun (b : List (UInt8)) (n : Int) => b.length ≤ 4000000) (fun x => .app 1 (x.map u8T.row)) fun (b : List (UInt8)) (n : Int) => b ++ uenc (clampN n)
theorem C_spec_PutU_eq (b : List (UInt8)) (n : Int) (h : b.length ≤ 4000000) : C_spec_PutU [.imm (b.map u8T.row), .int .i64 n] = some (.app 1 ((b ++ uenc (clampN n)).map u8T.row)) := c2_eq (sliceT u8T) intT h
theorem L_spec_PutU (cs) {Q : QS} : ∀ (k m : Nat), m ≤ k → m ≤ 1000000 → ∀ (pre : List UInt8) (e : Ps) (h : Hp), e 1 = .int .i64 (m : Int) → grows u8T pre (e 5) h → pre.length + (uenc m).length ≤ 4194304 →
    (∀ e' h' (pre' : List UInt8) (m' : Nat), m' ≤ 127 → pre' ++ [UInt8.ofNat m'] = pre ++ uenc m → e' 1 = .int .i64 (m' : Int) → grows u8T pre' (e' 5) h' → Q (.exit 0) e' h') → WL (EE cs) s_spec_PutU_L0 e h Q := by
  intro k
  induction k with
  | zero =>
    intro m hm _ pre e h e1 o hb hq
    have : m = 0 := by omega
    subst this
    refine .step (wp_sound _ _ _ _ ?_)
    simp only [go_sem, Nat.reduceBEq, Int.reduceLT, s_spec_PutU_L0, e1]
    exact hq _ _ pre 0 (by omega) (by rw [uenc_small (by omega)]) (by simp only [go_sem, Nat.reduceBEq, e1]) o
  | succ k ih =>
    intro m hm hm2 pre e h e1 o hb hq
    by_cases h1 : m ≤ 127
    · refine .step (wp_sound _ _ _ _ ?_)
      have h2 : ¬ (127 : Int) < (m : Int) := by omega
      simp only [go_sem, Nat.reduceBEq, s_spec_PutU_L0, e1, h2]
      exact hq _ _ pre m h1 (by rw [uenc_small h1]) (by simp only [go_sem, Nat.reduceBEq, e1]) o
    · refine .step (wp_sound _ _ _ _ ?_)
      have h2 : (127 : Int) < (m : Int) := by omega
      have k1 := fun h => kAndN127 (a := m) (by omega) h
      have k2 := fun h => kOr128 (a := m % 128) (by omega) h
      have k3 := fun h => kShr7 m h
      have hu : (uenc m).length = (uenc (m / 128)).length + 1 := by rw [uenc_big h1]; rfl
      simp only [go_sem, Nat.reduceBEq, s_spec_PutU_L0, e1, h2, k1, k2, u8W, u8fill, u8frz]
      refine hP_grow [UInt8.ofNat (m % 128 + 128)] rfl (o.mono (by simp only []; omega) fun r hr => by have g : ¬ r = h.nx := (by omega); simp only [g, if_false]) rfl (by simp only [List.length_cons, List.length_nil]; unfold room; omega) ?_
      intro v' h' g1 g2 g3 g4
      simp only [go_sem, Nat.reduceBEq, e1, k3]
      refine ih (m / 128) (by omega) (by omega) _ _ h' (by simp only [go_sem, Nat.reduceBEq]) (by simp only [go_sem, Nat.reduceBEq]; exact g1) (by simp only [List.length_append, List.length_cons, List.length_nil]; omega) ?_
      intro e3 h3 pre' m' j1 j2 j3 j4
      exact hq _ _ pre' m' j1 (by rw [j2, uenc_big h1]; simp) j3 j4
theorem ok_spec_PutU {WI : World → Prop} (hs : Stable WI) (cs) (hT : TOK (EE cs) WI) : FreshOK Tryz.prog WI 69 C_spec_PutU := by
  refine pure2F (E := EE cs) hT hs (by rw [st_spec_PutU]; rfl) fun b n hp => outF_wp (sz := 1) (st_spec_PutU cs) ?_
  have hlen : b.length ≤ 4000000 := hp
  have hu := (uenc_len (clampN n) (clampN_le n)).1
  simp only [go_sem, Nat.reduceBEq, s_spec_PutU, rep0, fill0, frz0]
  refine hP_grow b rfl (grows_new u8T Hp.empty) (rowsIn_imm _ _ _) (by simp only [List.length_nil]; unfold room; omega) ?_
  intro v0 h0 g1 g2 g3 g4
  rw [List.nil_append] at g1
  by_cases c1 : (1000000 : Int) < n
  · have hcl : ((clampN n : Nat) : Int) = 1000000 := by unfold clampN; rw [if_pos c1]; rfl
    have c3 : ¬ (1000000 : Int) < 0 := by decide
    simp only [go_sem, Nat.reduceBEq, c1, c3]
    refine L_spec_PutU cs (clampN n) (clampN n) (Nat.le_refl _) (clampN_le n) b _ _ (by simp only [go_sem, Nat.reduceBEq]; rw [hcl]) (by simp only [go_sem, Nat.reduceBEq]; exact g1) (by omega) ?_
    intro e1 h1 pre' m' j1 j2 j3 j4
    have hl := congrArg List.length j2
    simp only [List.length_append, List.length_cons, List.length_nil] at hl
    simp only [go_sem, Nat.reduceBEq, j3, u8W, u8fill, u8frz]
    refine hP_grow [UInt8.ofNat m'] rfl (j4.mono (by simp only []; omega) fun r hr => by have g : ¬ r = h1.nx := (by omega); simp only [g, if_false]) rfl (by simp only [List.length_cons, List.length_nil]; unfold room; omega) ?_
    intro v2 h2 k1 k2 k3 k4
    rw [j2] at k1
    simp only [go_sem, Nat.reduceBEq]
    exact frR_grows k1 rfl
  by_cases c2 : n < 0
  · have hcl : ((clampN n : Nat) : Int) = 0 := by unfold clampN; rw [if_neg c1, if_pos c2]; rfl
    simp only [go_sem, Nat.reduceBEq, Int.reduceLT, c1, c2]
    refine L_spec_PutU cs (clampN n) (clampN n) (Nat.le_refl _) (clampN_le n) b _ _ (by simp only [go_sem, Nat.reduceBEq]; rw [hcl]) (by simp only [go_sem, Nat.reduceBEq]; exact g1) (by omega) ?_
    intro e1 h1 pre' m' j1 j2 j3 j4
    have hl := congrArg List.length j2
    simp only [List.length_append, List.length_cons, List.length_nil] at hl
    simp only [go_sem, Nat.reduceBEq, j3, u8W, u8fill, u8frz]
    refine hP_grow [UInt8.ofNat m'] rfl (j4.mono (by simp only []; omega) fun r hr => by have g : ¬ r = h1.nx := (by omega); simp only [g, if_false]) rfl (by simp only [List.length_cons, List.length_nil]; unfold room; omega) ?_
    intro v2 h2 k1 k2 k3 k4
    rw [j2] at k1
    simp only [go_sem, Nat.reduceBEq]
    exact frR_grows k1 rfl
  · have hcl : ((clampN n : Nat) : Int) = n := by unfold clampN; rw [if_neg c1, if_neg c2]; omega
    simp only [go_sem, Nat.reduceBEq, Int.reduceLT, c1, c2]
    refine L_spec_PutU cs (clampN n) (clampN n) (Nat.le_refl _) (clampN_le n) b _ _ (by simp only [go_sem, Nat.reduceBEq]; rw [hcl]) (by simp only [go_sem, Nat.reduceBEq]; exact g1) (by omega) ?_
    intro e1 h1 pre' m' j1 j2 j3 j4
    have hl := congrArg List.length j2
    simp only [List.length_append, List.length_cons, List.length_nil] at hl
    simp only [go_sem, Nat.reduceBEq, j3, u8W, u8fill, u8frz]
    refine hP_grow [UInt8.ofNat m'] rfl (j4.mono (by simp only []; omega) fun r hr => by have g : ¬ r = h1.nx := (by omega); simp only [g, if_false]) rfl (by simp only [List.length_cons, List.length_nil]; unfold room; omega) ?_
    intro v2 h2 k1 k2 k3 k4
    rw [j2] at k1
    simp only [go_sem, Nat.reduceBEq]
    exact frR_grows k1 rfl
noncomputable def C_spec_PutText := c2 (sliceT u8T) strT (fun (b : List (UInt8)) (s : List UInt8) => b.length ≤ 4000000 ∧ s.length ≤ 1048576) (fun x => .app 1 (x.map u8T.row)) fun (b : List (UInt8)) (s : List UInt8) => b ++ utext s
theorem C_spec_PutText_eq (b : List (UInt8)) (s : List UInt8) (h : b.length ≤ 4000000 ∧ s.length ≤ 1048576) : C_spec_PutText [.imm (b.map u8T.row), .str s] = some (.app 1 ((b ++ utext s).map u8T.row)) := c2_eq (sliceT u8T) strT h
theorem ok_spec_PutText {WI : World → Prop} (hs : Stable WI) (cs) (hT : TOK (EE cs) WI) (h1 : (EE cs).T 69 = some C_spec_PutU) : FreshOK Tryz.prog WI 70 C_spec_PutText := by
  refine pure2F (E := EE cs) hT hs (by rw [st_spec_PutText]; rfl) fun b s hp => outF_wp (sz := 1) (st_spec_PutText cs) ?_
  have fr_h1 : (EE cs).fr 69 = true := rfl
  have hu := (uenc_len (clampN s.length) (clampN_le _)).1
  have c1 := C_spec_PutU_eq b s.length hp.1
  simp only [go_sem, Nat.reduceBEq, s_spec_PutText, h1, c1, fr_h1]
  refine hP_grow s rfl (l := b ++ uenc (clampN s.length)) (T := u8T) (.inr ⟨_, rfl, by simp [u8T, oneT], by simp []⟩) (rowsIn_str _ _) (by rw [List.length_append]; unfold room; omega) ?_
  intro v' h' g1 g2 g3 g4
  rw [List.append_assoc] at g1
  simp only [go_sem, Nat.reduceBEq]
  exact frR_grows g1 rfl
noncomputable def C_spec_l14Put := c1 tNode (fun (x : TNode) => tNode.cost x ≤ 1048576) (fun x => .imm (x.map u8T.row)) fun (x : TNode) => nodeBody x
theorem C_spec_l14Put_eq (x : TNode) (h : tNode.cost x ≤ 1048576) : C_spec_l14Put [.agg [.bool x.fLeaf, .imm (x.fKeys.map strT.row), .imm (x.fVals.map strT.row), .imm (x.fKids.map intT.row)]] = some (.imm (((nodeBody x)).map u8T.row)) := c1_eq tNode h
theorem ok_spec_l14Put {WI : World → Prop} (hs : Stable WI) (cs) (hT : TOK (EE cs) WI) (h1 : (EE cs).T 69 = some C_spec_PutU) (h2 : (EE cs).T 70 = some C_spec_PutText) : PureOK Tryz.prog WI 41 C_spec_l14Put := by
  refine pure1 (E := EE cs) hT hs (by rw [st_spec_l14Put]; rfl) fun x hp => out_wp (n := 1) (st_spec_l14Put cs) ?_
  have fr_h1 : (EE cs).fr 69 = true := rfl
  have fr_h2 : (EE cs).fr 70 = true := rfl
  have nb := nodeB hp
  have hall := nb.all
  have hk1 := nb.keys
  have hk2 := nb.vals
  have hk3 := nb.kids
  have g1 := nodeHead_len x
  have g2 := texts_len x.fKeys
  have g3 := texts_len x.fVals
  have g4 := nums_len x.fKids
  have u1 := (uenc_len (clampN (leafN x.fLeaf)) (clampN_le _)).1
  have u2 := (uenc_len (clampN x.fKeys.length) (clampN_le _)).1
  have hh : uenc (clampN (leafN x.fLeaf)) ++ uenc (clampN x.fKeys.length) = nodeHead x := rfl
  cases hx : x.fLeaf with
  | true =>
    have hb : nodeBody x = nodeHead x ++ texts x.fKeys ++ texts x.fVals := by unfold nodeBody; rw [hx]; rfl
    have c1 := C_spec_PutU_eq [] (leafN x.fLeaf) (by simp)
    rw [List.nil_append] at c1
    simp only [List.map_nil] at c1
    have c2 := C_spec_PutU_eq (uenc (clampN (leafN x.fLeaf))) x.fKeys.length (by omega)
    rw [hh] at c2
    have hlf : leafN x.fLeaf = 1 := by rw [hx]; rfl
    rw [hlf] at c1 c2
    simp only [go_sem, Nat.reduceBEq, Nat.reduceAdd, Nat.reduceLeDiff, s_spec_l14Put, TNode.row, tNode_enc, hx, rep0, fill0, frz0, h1, fr_h1, c1, c2, Bool.false_eq_true]
    refine (wl_for (l := x.fKeys) (fun pre e h => e 1 = .ptr 0 0 ∧ h.hp 0 = some [.bool true, .imm (x.fKeys.map strT.row), .imm (x.fVals.map strT.row), .imm (x.fKids.map intT.row)] ∧ Ev.frz (e 4) = some (.imm ((nodeHead x ++ texts pre).map u8T.row)) ∧ e 5 = .int .i64 pre.length) (.exit 0) (fun e h => e 1 = .ptr 0 0 ∧ h.hp 0 = some [.bool true, .imm (x.fKeys.map strT.row), .imm (x.fVals.map strT.row), .imm (x.fKids.map intT.row)] ∧ Ev.frz (e 4) = some (.imm ((nodeHead x ++ texts (x.fKeys)).map u8T.row))) (by omega) ?_ ?_ (by simp) x.fKeys [] _ _ rfl ?_).mono ?_
    · rintro pre s rest e h a ⟨q0, q1, q2, ix⟩
      have hp1 := texts_pre (pre := pre) (rest := s :: rest)
      rw [← a.hl] at hp1
      have c3 := C_spec_PutText_eq (nodeHead x ++ texts pre) s ⟨by rw [List.length_append]; omega, nb.key s a.mem⟩
      rw [show nodeHead x ++ texts pre ++ utext s = nodeHead x ++ texts (pre ++ [s]) by rw [texts_snoc, List.append_assoc]] at c3
      simp only [go_sem, Nat.reduceBEq, Nat.reduceAdd, Nat.reduceLeDiff, s_spec_l14Put_L0, q0, q1, q2, ix, a.dl, a.ia (row := strT.row) (sz := 1) rfl, a.hw, strT_row, h2, c3, fr_h2]
    · rintro e h ⟨q0, q1, q2, ix⟩
      simp only [go_sem, Nat.reduceBEq, Nat.reduceAdd, Nat.reduceLeDiff, s_spec_l14Put_L0, q0, q1, q2, ix]
    · simp only [go_sem, Nat.reduceBEq, texts_nil, List.append_nil]
    · rintro _ e h ⟨rfl, k1, kh, k4⟩
      simp only [go_sem]
      refine (wl_for (l := x.fVals) (fun pre e h => e 1 = .ptr 0 0 ∧ h.hp 0 = some [.bool true, .imm (x.fKeys.map strT.row), .imm (x.fVals.map strT.row), .imm (x.fKids.map intT.row)] ∧ Ev.frz (e 4) = some (.imm ((nodeHead x ++ texts x.fKeys ++ texts pre).map u8T.row)) ∧ e 6 = .int .i64 pre.length) (.exit 2) (fun e h => e 1 = .ptr 0 0 ∧ h.hp 0 = some [.bool true, .imm (x.fKeys.map strT.row), .imm (x.fVals.map strT.row), .imm (x.fKids.map intT.row)] ∧ Ev.frz (e 4) = some (.imm ((nodeHead x ++ texts x.fKeys ++ texts (x.fVals)).map u8T.row))) (by omega) ?_ ?_ (by simp) x.fVals [] _ _ rfl ?_).mono ?_
      · rintro pre s rest e h a ⟨q0, q1, q2, ix⟩
        have hp1 := texts_pre (pre := pre) (rest := s :: rest)
        rw [← a.hl] at hp1
        have c3 := C_spec_PutText_eq (nodeHead x ++ texts x.fKeys ++ texts pre) s ⟨by rw [List.length_append, List.length_append]; omega, nb.val s a.mem⟩
        rw [show nodeHead x ++ texts x.fKeys ++ texts pre ++ utext s = nodeHead x ++ texts x.fKeys ++ texts (pre ++ [s]) by rw [texts_snoc, List.append_assoc]] at c3
        simp only [go_sem, Nat.reduceBEq, Nat.reduceAdd, Nat.reduceLeDiff, s_spec_l14Put_L1, q0, q1, q2, ix, a.dl, a.ia (row := strT.row) (sz := 1) rfl, a.hw, strT_row, h2, c3, fr_h2]
      · rintro e h ⟨q0, q1, q2, ix⟩
        simp only [go_sem, Nat.reduceBEq, Nat.reduceAdd, Nat.reduceLeDiff, s_spec_l14Put_L1, q0, q1, q2, ix]
      · simp only [go_sem, Nat.reduceBEq, k1, kh, k4, texts_nil, List.append_nil]
      · rintro _ e h ⟨rfl, k1, kh, k4⟩
        simp only [go_sem]
        refine .step (wp_sound _ _ _ _ ?_)
        by_cases hz : (0 : Int) < (x.fKids.length : Int)
        · simp only [go_sem, Nat.reduceBEq, Nat.reduceAdd, Nat.reduceLeDiff, s_spec_l14Put_L2, k1, kh, hz, hb, frzE_of k4]
        · simp only [go_sem, Nat.reduceBEq, Nat.reduceAdd, Nat.reduceLeDiff, s_spec_l14Put_L2, k1, kh, hz, hb, frzE_of k4]
  | false =>
    have hb : nodeBody x = nodeHead x ++ texts x.fKeys ++ nums x.fKids := by unfold nodeBody; rw [hx]; rfl
    have c1 := C_spec_PutU_eq [] (leafN x.fLeaf) (by simp)
    rw [List.nil_append] at c1
    simp only [List.map_nil] at c1
    have c2 := C_spec_PutU_eq (uenc (clampN (leafN x.fLeaf))) x.fKeys.length (by omega)
    rw [hh] at c2
    have hlf : leafN x.fLeaf = 0 := by rw [hx]; rfl
    rw [hlf] at c1 c2
    simp only [go_sem, Nat.reduceBEq, Nat.reduceAdd, Nat.reduceLeDiff, s_spec_l14Put, TNode.row, tNode_enc, hx, rep0, fill0, frz0, h1, fr_h1, c1, c2, Bool.false_eq_true]
    refine (wl_for (l := x.fKeys) (fun pre e h => e 1 = .ptr 0 0 ∧ h.hp 0 = some [.bool false, .imm (x.fKeys.map strT.row), .imm (x.fVals.map strT.row), .imm (x.fKids.map intT.row)] ∧ Ev.frz (e 4) = some (.imm ((nodeHead x ++ texts pre).map u8T.row)) ∧ e 5 = .int .i64 pre.length) (.exit 0) (fun e h => e 1 = .ptr 0 0 ∧ h.hp 0 = some [.bool false, .imm (x.fKeys.map strT.row), .imm (x.fVals.map strT.row), .imm (x.fKids.map intT.row)] ∧ Ev.frz (e 4) = some (.imm ((nodeHead x ++ texts (x.fKeys)).map u8T.row))) (by omega) ?_ ?_ (by simp) x.fKeys [] _ _ rfl ?_).mono ?_
    · rintro pre s rest e h a ⟨q0, q1, q2, ix⟩
      have hp1 := texts_pre (pre := pre) (rest := s :: rest)
      rw [← a.hl] at hp1
      have c3 := C_spec_PutText_eq (nodeHead x ++ texts pre) s ⟨by rw [List.length_append]; omega, nb.key s a.mem⟩
      rw [show nodeHead x ++ texts pre ++ utext s = nodeHead x ++ texts (pre ++ [s]) by rw [texts_snoc, List.append_assoc]] at c3
      simp only [go_sem, Nat.reduceBEq, Nat.reduceAdd, Nat.reduceLeDiff, s_spec_l14Put_L0, q0, q1, q2, ix, a.dl, a.ia (row := strT.row) (sz := 1) rfl, a.hw, strT_row, h2, c3, fr_h2]
    · rintro e h ⟨q0, q1, q2, ix⟩
      simp only [go_sem, Nat.reduceBEq, Nat.reduceAdd, Nat.reduceLeDiff, s_spec_l14Put_L0, q0, q1, q2, ix]
    · simp only [go_sem, Nat.reduceBEq, texts_nil, List.append_nil]
    · rintro _ e h ⟨rfl, k1, kh, k4⟩
      simp only [go_sem]
      refine .step (wp_sound _ _ _ _ ?_)
      by_cases hz : (0 : Int) < (x.fVals.length : Int)
      · simp only [go_sem, Nat.reduceBEq, Nat.reduceAdd, Nat.reduceLeDiff, s_spec_l14Put_L1, k1, kh, hz]
        refine (wl_for (l := x.fKids) (fun pre e h => e 1 = .ptr 0 0 ∧ h.hp 0 = some [.bool false, .imm (x.fKeys.map strT.row), .imm (x.fVals.map strT.row), .imm (x.fKids.map intT.row)] ∧ Ev.frz (e 4) = some (.imm ((nodeHead x ++ texts x.fKeys ++ nums pre).map u8T.row)) ∧ e 7 = .int .i64 pre.length) (.exit 4) (fun e h => e 1 = .ptr 0 0 ∧ h.hp 0 = some [.bool false, .imm (x.fKeys.map strT.row), .imm (x.fVals.map strT.row), .imm (x.fKids.map intT.row)] ∧ Ev.frz (e 4) = some (.imm ((nodeHead x ++ texts x.fKeys ++ nums (x.fKids)).map u8T.row))) (by omega) ?_ ?_ (by simp) x.fKids [] _ _ rfl ?_).mono ?_
        · rintro pre s rest e h a ⟨q0, q1, q2, ix⟩
          have hp1 := nums_pre (pre := pre) (rest := s :: rest)
          rw [← a.hl] at hp1
          have c3 := C_spec_PutU_eq (nodeHead x ++ texts x.fKeys ++ nums pre) s (by rw [List.length_append, List.length_append]; omega)
          rw [show nodeHead x ++ texts x.fKeys ++ nums pre ++ uenc (clampN s) = nodeHead x ++ texts x.fKeys ++ nums (pre ++ [s]) by rw [nums_snoc, List.append_assoc]] at c3
          simp only [go_sem, Nat.reduceBEq, Nat.reduceAdd, Nat.reduceLeDiff, s_spec_l14Put_L2, q0, q1, q2, ix, a.dl, a.ia (row := intT.row) (sz := 1) rfl, a.hw, intT_row, h1, c3, fr_h1]
        · rintro e h ⟨q0, q1, q2, ix⟩
          simp only [go_sem, Nat.reduceBEq, Nat.reduceAdd, Nat.reduceLeDiff, s_spec_l14Put_L2, q0, q1, q2, ix]
        · simp only [go_sem, Nat.reduceBEq, k1, kh, k4, nums_nil, List.append_nil]
        · rintro _ e h ⟨rfl, k1, kh, k4⟩
          simp only [go_sem, Nat.reduceBEq, hb, frzE_of k4]
      · simp only [go_sem, Nat.reduceBEq, Nat.reduceAdd, Nat.reduceLeDiff, s_spec_l14Put_L1, k1, kh, hz]
        refine (wl_for (l := x.fKids) (fun pre e h => e 1 = .ptr 0 0 ∧ h.hp 0 = some [.bool false, .imm (x.fKeys.map strT.row), .imm (x.fVals.map strT.row), .imm (x.fKids.map intT.row)] ∧ Ev.frz (e 4) = some (.imm ((nodeHead x ++ texts x.fKeys ++ nums pre).map u8T.row)) ∧ e 7 = .int .i64 pre.length) (.exit 4) (fun e h => e 1 = .ptr 0 0 ∧ h.hp 0 = some [.bool false, .imm (x.fKeys.map strT.row), .imm (x.fVals.map strT.row), .imm (x.fKids.map intT.row)] ∧ Ev.frz (e 4) = some (.imm ((nodeHead x ++ texts x.fKeys ++ nums (x.fKids)).map u8T.row))) (by omega) ?_ ?_ (by simp) x.fKids [] _ _ rfl ?_).mono ?_
        · rintro pre s rest e h a ⟨q0, q1, q2, ix⟩
          have hp1 := nums_pre (pre := pre) (rest := s :: rest)
          rw [← a.hl] at hp1
          have c3 := C_spec_PutU_eq (nodeHead x ++ texts x.fKeys ++ nums pre) s (by rw [List.length_append, List.length_append]; omega)
          rw [show nodeHead x ++ texts x.fKeys ++ nums pre ++ uenc (clampN s) = nodeHead x ++ texts x.fKeys ++ nums (pre ++ [s]) by rw [nums_snoc, List.append_assoc]] at c3
          simp only [go_sem, Nat.reduceBEq, Nat.reduceAdd, Nat.reduceLeDiff, s_spec_l14Put_L2, q0, q1, q2, ix, a.dl, a.ia (row := intT.row) (sz := 1) rfl, a.hw, intT_row, h1, c3, fr_h1]
        · rintro e h ⟨q0, q1, q2, ix⟩
          simp only [go_sem, Nat.reduceBEq, Nat.reduceAdd, Nat.reduceLeDiff, s_spec_l14Put_L2, q0, q1, q2, ix]
        · simp only [go_sem, Nat.reduceBEq, k1, kh, k4, nums_nil, List.append_nil]
        · rintro _ e h ⟨rfl, k1, kh, k4⟩
          simp only [go_sem, Nat.reduceBEq, hb, frzE_of k4]
end Go.Proofs.YtmfkjlnhanomfaaGreat.Nl
/- What the functions that FnExactNoLeak calls answer: part 8. -/
namespace Go.Proofs.YtmfkjlnhanomfaaGreat.Nl
open Go Go.RowKit Go.Ev
set_option linter.unusedSimpArgs false
set_option linter.unusedVariables false
set_option maxHeartbeats 1600000
noncomputable def C_spec_SizeOf := c1 tNode (fun (x : TNode) => tNode.cost x ≤ 1048576) ((.int .i64)) fun (x : TNode) => ((nodeBody x).length : Int)
theorem C_spec_SizeOf_eq (x : TNode) (h : tNode.cost x ≤ 1048576) : C_spec_SizeOf [.agg [.bool x.fLeaf, .imm (x.fKeys.map strT.row), .imm (x.fVals.map strT.row), .imm (x.fKids.map intT.row)]] = some (.int .i64 ((((nodeBody x).length : Int)))) := c1_eq tNode h
theorem ok_spec_SizeOf {WI : World → Prop} (hs : Stable WI) (cs) (hT : TOK (EE cs) WI) (h1 : (EE cs).T 41 = some C_spec_l14Put) : PureOK Tryz.prog WI 17 C_spec_SizeOf := by
  refine pure1 (E := EE cs) hT hs (by rw [st_spec_SizeOf]; rfl) fun x hp => out_wp (n := 0) (st_spec_SizeOf cs) ?_
  have c1 := C_spec_l14Put_eq x hp
  simp only [go_sem, Nat.reduceBEq, Nat.reduceAdd, s_spec_SizeOf, TNode.row, tNode_enc, h1, c1]
noncomputable def C_spec_NodeOk := c1 tNode (fun (x : TNode) => tNode.cost x ≤ 1048576) (.bool) fun (x : TNode) => nodeOk x
theorem C_spec_NodeOk_eq (x : TNode) (h : tNode.cost x ≤ 1048576) : C_spec_NodeOk [.agg [.bool x.fLeaf, .imm (x.fKeys.map strT.row), .imm (x.fVals.map strT.row), .imm (x.fKids.map intT.row)]] = some (.bool ((nodeOk x))) := c1_eq tNode h
theorem ok_spec_NodeOk {WI : World → Prop} (hs : Stable WI) (cs) (hT : TOK (EE cs) WI) (h1 : (EE cs).T 98 = some C_spec_l1In) (h2 : (EE cs).T 120 = some C_spec_l14Rising) (h3 : (EE cs).T 17 = some C_spec_SizeOf) : PureOK Tryz.prog WI 104 C_spec_NodeOk := by
  refine pure1 (E := EE cs) hT hs (by rw [st_spec_NodeOk]; rfl) fun x hp => out_wp (n := 0) (st_spec_NodeOk cs) ?_
  have nb := nodeB hp
  have hk1 := nb.keys
  have hk2 := nb.vals
  have hk3 := nb.kids
  have c2 := C_spec_l14Rising_eq x.fKeys hk1
  have c3 := C_spec_SizeOf_eq x hp
  have hok : nodeOk x = (rising x.fKeys && decide ((nodeBody x).length ≤ 240) && nodeFit x) := rfl
  cases hrs : rising x.fKeys with
  | false =>
    rw [hrs] at c2
    have hno : nodeOk x = false := by rw [hok, hrs]; rfl
    cases hx : x.fLeaf <;> simp only [go_sem, Nat.reduceBEq, Nat.reduceAdd, Nat.reduceLeDiff, s_spec_NodeOk, TNode.row, tNode_enc, hx, h2, c2, hno]
  | true =>
  rw [hrs] at c2
  by_cases hz : (240 : Int) < ((nodeBody x).length : Int)
  · have hno : nodeOk x = false := by rw [hok, decide_eq_false (show ¬ (nodeBody x).length ≤ 240 by omega), Bool.and_false]; rfl
    cases hx : x.fLeaf <;> rw [hx] at c3 <;> simp only [go_sem, Nat.reduceBEq, Nat.reduceAdd, Nat.reduceLeDiff, s_spec_NodeOk, TNode.row, tNode_enc, hx, h2, c2, h3, c3, hz, hno]
  have hsz : decide ((nodeBody x).length ≤ 240) = true := decide_eq_true (by omega)
  cases hx : x.fLeaf with
  | true =>
    rw [hx] at c3
    have hx0 := true_and True
    simp only [go_sem, Nat.reduceBEq, Nat.reduceAdd, Nat.reduceLeDiff, s_spec_NodeOk, TNode.row, tNode_enc, hx, h2, c2, h3, c3, hz]
    have hfit : nodeFit x = (x.fVals.all (fun v => decide (v.length ≤ 60)) && (decide (1 ≤ x.fKeys.length) && decide (x.fVals.length = x.fKeys.length) && decide (x.fKids.length = 0))) := by unfold nodeFit; rw [hx]; rfl
    refine (wl_all (l := x.fVals) (fun pre s => decide (s.length ≤ 60)) (fun pre e h => e 1 = .ptr 0 0 ∧ h.hp 0 = some [.bool true, .imm (x.fKeys.map strT.row), .imm (x.fVals.map strT.row), .imm (x.fKids.map intT.row)] ∧ e 3 = .int .i64 pre.length) (.exit 0) (fun e h => e 1 = .ptr 0 0 ∧ h.hp 0 = some [.bool true, .imm (x.fKeys.map strT.row), .imm (x.fVals.map strT.row), .imm (x.fKids.map intT.row)]) (fun e h => e 2 = .bool false) (by omega) ?_ ?_ ?_ (by simp) x.fVals [] _ _ rfl ?_).mono ?_
    · rintro pre s rest e h a hp ⟨q0, q1, ix⟩
      have hq : ¬ (60 : Int) < (s.length : Int) := by have := of_decide_eq_true hp; omega
      simp only [go_sem, Nat.reduceBEq, Nat.reduceAdd, Nat.reduceLeDiff, s_spec_NodeOk_L0, q0, q1, ix, a.dl, a.ia (row := strT.row) (sz := 1) rfl, a.hw, strT_row, hq]
    · rintro pre s rest e h a hp ⟨q0, q1, ix⟩
      have hq : (60 : Int) < (s.length : Int) := by have := of_decide_eq_false hp; omega
      simp only [go_sem, Nat.reduceBEq, Nat.reduceAdd, Nat.reduceLeDiff, s_spec_NodeOk_L0, q0, q1, ix, a.dl, a.ia (row := strT.row) (sz := 1) rfl, a.hw, strT_row, hq]
    · rintro e h ⟨q0, q1, ix⟩
      simp only [go_sem, Nat.reduceBEq, Nat.reduceAdd, Nat.reduceLeDiff, s_spec_NodeOk_L0, q0, q1, ix]
    · simp only [go_sem, Nat.reduceBEq, hx0]
    · rintro _ e h (⟨hpp, rfl, j1, jh⟩ | ⟨hpp, rfl, j⟩)
      · rw [allP_all] at hpp
        rw [hpp, Bool.true_and] at hfit
        have e1 : decide ((1 : Int) ≤ (x.fKeys.length : Int)) = decide (1 ≤ x.fKeys.length) := decide_eq_decide.2 (by omega)
        have e2 : (((x.fVals.length : Nat) : Int) == ((x.fKeys.length : Nat) : Int)) = decide (x.fVals.length = x.fKeys.length) := beqN _ _
        have e3 : (((x.fKids.length : Nat) : Int) == 0) = decide (x.fKids.length = 0) := beqN _ 0
        rw [hrs, hsz, Bool.true_and, Bool.true_and] at hok
        cases d1 : decide (1 ≤ x.fKeys.length) <;> cases d2 : decide (x.fVals.length = x.fKeys.length) <;> rw [d1, d2] at hfit <;> rw [hfit] at hok <;> simp only [go_sem, Nat.reduceBEq, Nat.reduceAdd, Nat.reduceLeDiff, j1, jh, e1, d1, e2, d2, e3, hok]
      · rw [allP_all] at hpp
        rw [hpp, Bool.false_and] at hfit
        simp only [go_sem, j, nodeOk, hfit, Bool.and_false]
  | false =>
    rw [hx] at c3
    have hx0 := true_and True
    simp only [go_sem, Nat.reduceBEq, Nat.reduceAdd, Nat.reduceLeDiff, s_spec_NodeOk, TNode.row, tNode_enc, hx, h2, c2, h3, c3, hz]
    have hfit : nodeFit x = (x.fKids.all (fun k => inR k 2 47) && (decide (1 ≤ x.fKids.length) && decide (x.fKeys.length + 1 = x.fKids.length) && decide (x.fVals.length = 0))) := by unfold nodeFit; rw [hx]; rfl
    refine (wl_all (l := x.fKids) (fun pre s => inR s 2 47) (fun pre e h => e 1 = .ptr 0 0 ∧ h.hp 0 = some [.bool false, .imm (x.fKeys.map strT.row), .imm (x.fVals.map strT.row), .imm (x.fKids.map intT.row)] ∧ e 4 = .int .i64 pre.length) (.exit 2) (fun e h => e 1 = .ptr 0 0 ∧ h.hp 0 = some [.bool false, .imm (x.fKeys.map strT.row), .imm (x.fVals.map strT.row), .imm (x.fKids.map intT.row)]) (fun e h => e 2 = .bool false) (by omega) ?_ ?_ ?_ (by simp) x.fKids [] _ _ rfl ?_).mono ?_
    · rintro pre s rest e h a hp ⟨q0, q1, ix⟩
      have hq := C_spec_l1In_eq s 2 47
      simp only [go_sem, Nat.reduceBEq, Nat.reduceAdd, Nat.reduceLeDiff, s_spec_NodeOk_L1, q0, q1, ix, a.dl, a.ia (row := intT.row) (sz := 1) rfl, a.hw, intT_row, h1, hp, hq]
    · rintro pre s rest e h a hp ⟨q0, q1, ix⟩
      have hq := C_spec_l1In_eq s 2 47
      simp only [go_sem, Nat.reduceBEq, Nat.reduceAdd, Nat.reduceLeDiff, s_spec_NodeOk_L1, q0, q1, ix, a.dl, a.ia (row := intT.row) (sz := 1) rfl, a.hw, intT_row, h1, hp, hq]
    · rintro e h ⟨q0, q1, ix⟩
      simp only [go_sem, Nat.reduceBEq, Nat.reduceAdd, Nat.reduceLeDiff, s_spec_NodeOk_L1, q0, q1, ix]
    · simp only [go_sem, Nat.reduceBEq, hx0]
    · rintro _ e h (⟨hpp, rfl, j1, jh⟩ | ⟨hpp, rfl, j⟩)
      · rw [allP_all] at hpp
        rw [hpp, Bool.true_and] at hfit
        have e1 : decide ((1 : Int) ≤ (x.fKids.length : Int)) = decide (1 ≤ x.fKids.length) := decide_eq_decide.2 (by omega)
        have hwk : IntKind.wrap .i64 ((x.fKids.length : Int) - 1) = (x.fKids.length : Int) - 1 := wrapId (by omega) (by omega)
        have e2 : (((x.fKeys.length : Nat) : Int) == ((x.fKids.length : Int) - 1)) = decide (x.fKeys.length + 1 = x.fKids.length) := beqP _ _
        have e3 : (((x.fVals.length : Nat) : Int) == 0) = decide (x.fVals.length = 0) := beqN _ 0
        rw [hrs, hsz, Bool.true_and, Bool.true_and] at hok
        cases d1 : decide (1 ≤ x.fKids.length) <;> cases d2 : decide (x.fKeys.length + 1 = x.fKids.length) <;> rw [d1, d2] at hfit <;> rw [hfit] at hok <;> simp only [go_sem, Nat.reduceBEq, Nat.reduceAdd, Nat.reduceLeDiff, j1, jh, e1, d1, hwk, e2, d2, e3, hok]
      · rw [allP_all] at hpp
        rw [hpp, Bool.false_and] at hfit
        simp only [go_sem, j, nodeOk, hfit, Bool.and_false]
theorem hP_rdU (cs) (h1 : (EE cs).T 100 = some C_spec_GetU) (b : List UInt8) (hb : b.length ≤ 1048576) {r : Nat} {i : Int} {bad : Bool} {h : Hp} {d : Option Nat} {os : List SOper} {e : Ps} {Q : QS} (hr : h.hp r = some [.imm (b.map u8T.row), .int .i64 i, .bool bad])
    (hw : ∀ h', RdS b r (rU b i bad).2.1 (rU b i bad).2.2 h h' → hP (kThen (some (upd? e d (.int .i64 (rU b i bad).1), h')) (EE cs) (lim (EE cs)) os) Q) : hP (kThen (kOper d (some true) (lim (EE cs) 102 [.ptr r 0] h) e h) (EE cs) (lim (EE cs)) os) Q := by
  obtain ⟨h', k1, k2⟩ := rd_spec_l14Num cs h1 b hb r i bad h hr
  exact hP_call k1 (hw h' k2)
theorem hP_rdT (cs) (h1 : (EE cs).T 119 = some C_spec_GetText) (b : List UInt8) (hb : b.length ≤ 1048576) {r : Nat} {i : Int} {bad : Bool} {h : Hp} {d : Option Nat} {os : List SOper} {e : Ps} {Q : QS} (hr : h.hp r = some [.imm (b.map u8T.row), .int .i64 i, .bool bad])
    (hw : ∀ h', RdS b r (rT b i bad).2.1 (rT b i bad).2.2 h h' → hP (kThen (some (upd? e d (.str (rT b i bad).1), h')) (EE cs) (lim (EE cs)) os) Q) : hP (kThen (kOper d (some true) (lim (EE cs) 103 [.ptr r 0] h) e h) (EE cs) (lim (EE cs)) os) Q := by
  obtain ⟨h', k1, k2⟩ := rd_spec_l14Text cs h1 b hb r i bad h hr
  exact hP_call k1 (hw h' k2)
theorem LK0_spec_GetNode (cs) (hT : (EE cs).T 119 = some C_spec_GetText) (b : List UInt8) (hb : b.length ≤ 240) (n : Nat) (hn : n ≤ 1000000) (lf : Bool) {Q : QS}
    : ∀ (m : Nat) (l : List (List UInt8)) (i : Int) (bad : Bool) (e : Ps) (h : Hp) (x : AV), l.length + m = n → e 0 = .imm (b.map u8T.row) → e 2 = .ptr 0 0 → e 3 = .bool false → e 4 = .ptr 1 0 → e 6 = .int .i64 n → e 7 = .ptr 2 0 → e 8 = .int .i64 l.length → 3 ≤ h.nx → h.hp 0 = some [.bool false, .snil, .snil, .snil] → h.hp 1 = some [.imm (b.map u8T.row), .int .i64 i, .bool bad] → h.hp 2 = some [.bool lf, x, .snil, .snil] → grows strT l x h →
      (∀ e' h' x', e' 0 = .imm (b.map u8T.row) → e' 2 = .ptr 0 0 → e' 3 = .bool false → e' 4 = .ptr 1 0 → e' 6 = .int .i64 n → e' 7 = .ptr 2 0 → 3 ≤ h'.nx → h'.hp 0 = some [.bool false, .snil, .snil, .snil] → h'.hp 1 = some [.imm (b.map u8T.row), .int .i64 (gsT b m i bad).2.1, .bool (gsT b m i bad).2.2] → h'.hp 2 = some [.bool lf, x', .snil, .snil] → SE ((l ++ (gsT b m i bad).1).map strT.row) x' → Q (.exit 0) e' h') → WL (EE cs) s_spec_GetNode_L0 e h Q := by
  intro m
  induction m with
  | zero =>
    intro l i bad e h x hm e0 e2 e3 e4 e6 e7 ec nx h0 h1 h2 gx hq
    have hc : ¬ (l.length : Int) < n := by omega
    refine .step (wp_sound _ _ _ _ ?_)
    simp only [go_sem, Nat.reduceBEq, s_spec_GetNode_L0, e4, e6, ec, hc]
    exact hq _ _ x (by simp only [go_sem, Nat.reduceBEq, e0]) (by simp only [go_sem, Nat.reduceBEq, e2]) (by simp only [go_sem, Nat.reduceBEq, e3]) (by simp only [go_sem, Nat.reduceBEq, e4]) (by simp only [go_sem, Nat.reduceBEq, e6]) (by simp only [go_sem, Nat.reduceBEq, e7]) nx h0 h1 h2 (by simp only [gsT, List.append_nil]; exact gx.cell)
  | succ m ih =>
    intro l i bad e h x hm e0 e2 e3 e4 e6 e7 ec nx h0 h1 h2 gx hq
    have hc : (l.length : Int) < n := by omega
    cases bad with
    | true =>
      refine .step (wp_sound _ _ _ _ ?_)
      simp only [go_sem, Nat.reduceBEq, Nat.reduceAdd, Nat.reduceLeDiff, s_spec_GetNode_L0, e4, e6, ec, h1, hc]
      exact hq _ _ x (by simp only [go_sem, Nat.reduceBEq, e0]) (by simp only [go_sem, Nat.reduceBEq, e2]) (by simp only [go_sem, Nat.reduceBEq, e3]) (by simp only [go_sem, Nat.reduceBEq, e4]) (by simp only [go_sem, Nat.reduceBEq, e6]) (by simp only [go_sem, Nat.reduceBEq, e7]) nx h0 (by rw [gsT_bad]; exact h1) h2 (by rw [gsT_bad]; simp only [List.append_nil]; exact gx.cell)
    | false =>
      refine .step (wp_sound _ _ _ _ ?_)
      simp only [go_sem, Nat.reduceBEq, Nat.reduceAdd, Nat.reduceLeDiff, s_spec_GetNode_L0, e4, e6, ec, h1, hc]
      refine hP_rdT cs hT b (by omega) h1 ?_
      intro h' k2
      have j0 : h'.hp 0 = _ := (k2.hp 0 (by decide)).trans h0
      have j2 : h'.hp 2 = _ := (k2.hp 2 (by decide)).trans h2
      have f1 : fillR (List.replicate 1 [.str []]) 1 [(0, .str (rT b i false).1)] = some [[.str (rT b i false).1]] := rfl
      have f2 : frzRows [[.str (rT b i false).1]] = some [[.str (rT b i false).1]] := rfl
      simp only [go_sem, Nat.reduceBEq, Nat.reduceAdd, Nat.reduceLeDiff, e7, j2, f1, f2]
      refine hP_grow [(rT b i false).1] rfl (gx.mono (by simp only [k2.nx]; omega) fun r hr => by have n3 : ¬ r = h'.nx := (by rw [k2.nx]; omega); simp [n3, k2.ap]) rfl (by simp only [List.length_cons, List.length_nil]; unfold room; omega) ?_
      intro v' h'' g1 g2 g3 g4
      have i0 : h''.hp 0 = _ := (congrFun g2 0).trans j0
      have i1 : h''.hp 1 = _ := (congrFun g2 1).trans k2.at_
      have i2 : h''.hp 2 = _ := (congrFun g2 2).trans j2
      have zv := g1.cell.2
      have hw : IntKind.wrap .i64 ((l.length : Int) + 1) = ((l ++ [(rT b i false).1]).length : Int) := by rw [wrapId (by omega) (by omega)]; simp
      have hnx : 3 ≤ h''.nx := by have := k2.nx; have : h'.nx + 1 ≤ h''.nx := g3; omega
      simp only [go_sem, kSt_ptr, Nat.reduceBEq, Nat.reduceAdd, Nat.reduceLeDiff, e7, ec, i2, zv, cell1 zv, hw]
      refine ih (l ++ [(rT b i false).1]) (rT b i false).2.1 (rT b i false).2.2 _ _ v' (by simp; omega) (by simp only [go_sem, Nat.reduceBEq, e0]) (by simp only [go_sem, Nat.reduceBEq, e2]) (by simp only [go_sem, Nat.reduceBEq, e3]) (by simp only [go_sem, Nat.reduceBEq, e4]) (by simp only [go_sem, Nat.reduceBEq, e6]) (by simp only [go_sem, Nat.reduceBEq, e7]) (by simp only [go_sem, Nat.reduceBEq]) (by simp only [go_sem, hnx]) (by simp only [go_sem, i0]) (by simp only [go_sem, i1]) (by simp only [go_sem]) (g1.mono (by simp) fun _ _ => rfl) ?_
      intro e' h3 x' a0 a2 a3 a4 a6 a7 b1 b2 b3 b4 b5
      exact hq e' h3 x' a0 a2 a3 a4 a6 a7 b1 b2 b3 b4 (by rw [List.append_assoc] at b5; exact b5)
theorem LK1_spec_GetNode (cs) (hT : (EE cs).T 119 = some C_spec_GetText) (b : List UInt8) (hb : b.length ≤ 240) (n : Nat) (hn : n ≤ 1000000) (lf : Bool) (hlf : lf = true) {K0 : AV} {Q : QS}
    : ∀ (m : Nat) (l : List (List UInt8)) (i : Int) (bad : Bool) (e : Ps) (h : Hp) (x : AV), l.length + m = n → e 0 = .imm (b.map u8T.row) → e 2 = .ptr 0 0 → e 3 = .bool false → e 4 = .ptr 1 0 → e 6 = .int .i64 n → e 7 = .ptr 2 0 → e 10 = .int .i64 l.length → 3 ≤ h.nx → h.hp 0 = some [.bool false, .snil, .snil, .snil] → h.hp 1 = some [.imm (b.map u8T.row), .int .i64 i, .bool bad] → h.hp 2 = some [.bool lf, K0, x, .snil] → grows strT l x h →
      (∀ e' h' x', e' 0 = .imm (b.map u8T.row) → e' 2 = .ptr 0 0 → e' 3 = .bool false → e' 4 = .ptr 1 0 → e' 6 = .int .i64 n → e' 7 = .ptr 2 0 → 3 ≤ h'.nx → h'.hp 0 = some [.bool false, .snil, .snil, .snil] → h'.hp 1 = some [.imm (b.map u8T.row), .int .i64 (gsT b m i bad).2.1, .bool (gsT b m i bad).2.2] → h'.hp 2 = some [.bool lf, K0, x', .snil] → SE ((l ++ (gsT b m i bad).1).map strT.row) x' → Q (.exit 2) e' h') → WL (EE cs) s_spec_GetNode_L1 e h Q := by
  intro m
  induction m with
  | zero =>
    intro l i bad e h x hm e0 e2 e3 e4 e6 e7 ec nx h0 h1 h2 gx hq
    have hc : ¬ (l.length : Int) < n := by omega
    refine .step (wp_sound _ _ _ _ ?_)
    simp only [go_sem, Nat.reduceBEq, s_spec_GetNode_L1, e4, e6, ec, hc]
    exact hq _ _ x (by simp only [go_sem, Nat.reduceBEq, e0]) (by simp only [go_sem, Nat.reduceBEq, e2]) (by simp only [go_sem, Nat.reduceBEq, e3]) (by simp only [go_sem, Nat.reduceBEq, e4]) (by simp only [go_sem, Nat.reduceBEq, e6]) (by simp only [go_sem, Nat.reduceBEq, e7]) nx h0 h1 h2 (by simp only [gsT, List.append_nil]; exact gx.cell)
  | succ m ih =>
    intro l i bad e h x hm e0 e2 e3 e4 e6 e7 ec nx h0 h1 h2 gx hq
    have hc : (l.length : Int) < n := by omega
    cases bad with
    | true =>
      refine .step (wp_sound _ _ _ _ ?_)
      simp only [go_sem, Nat.reduceBEq, Nat.reduceAdd, Nat.reduceLeDiff, s_spec_GetNode_L1, e4, e6, ec, h1, hc]
      exact hq _ _ x (by simp only [go_sem, Nat.reduceBEq, e0]) (by simp only [go_sem, Nat.reduceBEq, e2]) (by simp only [go_sem, Nat.reduceBEq, e3]) (by simp only [go_sem, Nat.reduceBEq, e4]) (by simp only [go_sem, Nat.reduceBEq, e6]) (by simp only [go_sem, Nat.reduceBEq, e7]) nx h0 (by rw [gsT_bad]; exact h1) h2 (by rw [gsT_bad]; simp only [List.append_nil]; exact gx.cell)
    | false =>
      refine .step (wp_sound _ _ _ _ ?_)
      simp only [go_sem, Nat.reduceBEq, Nat.reduceAdd, Nat.reduceLeDiff, s_spec_GetNode_L1, e4, e6, e7, ec, h1, h2, hc, hlf]
      refine hP_rdT cs hT b (by omega) h1 ?_
      intro h' k2
      have j0 : h'.hp 0 = _ := (k2.hp 0 (by decide)).trans h0
      have j2 : h'.hp 2 = _ := (k2.hp 2 (by decide)).trans h2
      have f1 : fillR (List.replicate 1 [.str []]) 1 [(0, .str (rT b i false).1)] = some [[.str (rT b i false).1]] := rfl
      have f2 : frzRows [[.str (rT b i false).1]] = some [[.str (rT b i false).1]] := rfl
      simp only [go_sem, Nat.reduceBEq, Nat.reduceAdd, Nat.reduceLeDiff, e7, j2, f1, f2]
      refine hP_grow [(rT b i false).1] rfl (gx.mono (by simp only [k2.nx]; omega) fun r hr => by have n3 : ¬ r = h'.nx := (by rw [k2.nx]; omega); simp [n3, k2.ap]) rfl (by simp only [List.length_cons, List.length_nil]; unfold room; omega) ?_
      intro v' h'' g1 g2 g3 g4
      have i0 : h''.hp 0 = _ := (congrFun g2 0).trans j0
      have i1 : h''.hp 1 = _ := (congrFun g2 1).trans k2.at_
      have i2 : h''.hp 2 = _ := (congrFun g2 2).trans j2
      have zv := g1.cell.2
      have hw : IntKind.wrap .i64 ((l.length : Int) + 1) = ((l ++ [(rT b i false).1]).length : Int) := by rw [wrapId (by omega) (by omega)]; simp
      have hnx : 3 ≤ h''.nx := by have := k2.nx; have : h'.nx + 1 ≤ h''.nx := g3; omega
      simp only [go_sem, kSt_ptr, Nat.reduceBEq, Nat.reduceAdd, Nat.reduceLeDiff, e7, ec, i2, zv, cell1 zv, hw]
      refine ih (l ++ [(rT b i false).1]) (rT b i false).2.1 (rT b i false).2.2 _ _ v' (by simp; omega) (by simp only [go_sem, Nat.reduceBEq, e0]) (by simp only [go_sem, Nat.reduceBEq, e2]) (by simp only [go_sem, Nat.reduceBEq, e3]) (by simp only [go_sem, Nat.reduceBEq, e4]) (by simp only [go_sem, Nat.reduceBEq, e6]) (by simp only [go_sem, Nat.reduceBEq, e7]) (by simp only [go_sem, Nat.reduceBEq]) (by simp only [go_sem, hnx]) (by simp only [go_sem, i0]) (by simp only [go_sem, i1]) (by simp only [go_sem]) (g1.mono (by simp) fun _ _ => rfl) ?_
      intro e' h3 x' a0 a2 a3 a4 a6 a7 b1 b2 b3 b4 b5
      exact hq e' h3 x' a0 a2 a3 a4 a6 a7 b1 b2 b3 b4 (by rw [List.append_assoc] at b5; exact b5)
theorem LK2_spec_GetNode (cs) (hT : (EE cs).T 100 = some C_spec_GetU) (b : List UInt8) (hb : b.length ≤ 240) (n : Nat) (hn : n ≤ 1000000) (lf : Bool) (hlf : lf = false) {K0 : AV} {Q : QS}
    : ∀ (m : Nat) (l : List Int) (i : Int) (bad : Bool) (e : Ps) (h : Hp) (x : AV), l.length + m = n + 1 → e 0 = .imm (b.map u8T.row) → e 2 = .ptr 0 0 → e 3 = .bool false → e 4 = .ptr 1 0 → e 6 = .int .i64 n → e 7 = .ptr 2 0 → e 12 = .int .i64 l.length → 3 ≤ h.nx → h.hp 0 = some [.bool false, .snil, .snil, .snil] → h.hp 1 = some [.imm (b.map u8T.row), .int .i64 i, .bool bad] → h.hp 2 = some [.bool lf, K0, .snil, x] → grows intT l x h →
      (∀ e' h' x', e' 0 = .imm (b.map u8T.row) → e' 2 = .ptr 0 0 → e' 3 = .bool false → e' 4 = .ptr 1 0 → e' 6 = .int .i64 n → e' 7 = .ptr 2 0 → 3 ≤ h'.nx → h'.hp 0 = some [.bool false, .snil, .snil, .snil] → h'.hp 1 = some [.imm (b.map u8T.row), .int .i64 (gsU b m i bad).2.1, .bool (gsU b m i bad).2.2] → h'.hp 2 = some [.bool lf, K0, .snil, x'] → SE ((l ++ (gsU b m i bad).1).map intT.row) x' → Q (.exit 4) e' h') → WL (EE cs) s_spec_GetNode_L2 e h Q := by
  intro m
  induction m with
  | zero =>
    intro l i bad e h x hm e0 e2 e3 e4 e6 e7 ec nx h0 h1 h2 gx hq
    have hc : ¬ (l.length : Int) ≤ n := by omega
    refine .step (wp_sound _ _ _ _ ?_)
    simp only [go_sem, Nat.reduceBEq, s_spec_GetNode_L2, e4, e6, ec, hc]
    exact hq _ _ x (by simp only [go_sem, Nat.reduceBEq, e0]) (by simp only [go_sem, Nat.reduceBEq, e2]) (by simp only [go_sem, Nat.reduceBEq, e3]) (by simp only [go_sem, Nat.reduceBEq, e4]) (by simp only [go_sem, Nat.reduceBEq, e6]) (by simp only [go_sem, Nat.reduceBEq, e7]) nx h0 h1 h2 (by simp only [gsU, List.append_nil]; exact gx.cell)
  | succ m ih =>
    intro l i bad e h x hm e0 e2 e3 e4 e6 e7 ec nx h0 h1 h2 gx hq
    have hc : (l.length : Int) ≤ n := by omega
    cases bad with
    | true =>
      refine .step (wp_sound _ _ _ _ ?_)
      simp only [go_sem, Nat.reduceBEq, Nat.reduceAdd, Nat.reduceLeDiff, s_spec_GetNode_L2, e4, e6, ec, h1, hc]
      exact hq _ _ x (by simp only [go_sem, Nat.reduceBEq, e0]) (by simp only [go_sem, Nat.reduceBEq, e2]) (by simp only [go_sem, Nat.reduceBEq, e3]) (by simp only [go_sem, Nat.reduceBEq, e4]) (by simp only [go_sem, Nat.reduceBEq, e6]) (by simp only [go_sem, Nat.reduceBEq, e7]) nx h0 (by rw [gsU_bad]; exact h1) h2 (by rw [gsU_bad]; simp only [List.append_nil]; exact gx.cell)
    | false =>
      refine .step (wp_sound _ _ _ _ ?_)
      simp only [go_sem, Nat.reduceBEq, Nat.reduceAdd, Nat.reduceLeDiff, s_spec_GetNode_L2, e4, e6, e7, ec, h1, h2, hc, hlf]
      refine hP_rdU cs hT b (by omega) h1 ?_
      intro h' k2
      have j0 : h'.hp 0 = _ := (k2.hp 0 (by decide)).trans h0
      have j2 : h'.hp 2 = _ := (k2.hp 2 (by decide)).trans h2
      have f1 : fillR (List.replicate 1 [.int .i64 0]) 1 [(0, .int .i64 (rU b i false).1)] = some [[.int .i64 (rU b i false).1]] := rfl
      have f2 : frzRows [[.int .i64 (rU b i false).1]] = some [[.int .i64 (rU b i false).1]] := rfl
      simp only [go_sem, Nat.reduceBEq, Nat.reduceAdd, Nat.reduceLeDiff, e7, j2, f1, f2]
      refine hP_grow [(rU b i false).1] rfl (gx.mono (by simp only [k2.nx]; omega) fun r hr => by have n3 : ¬ r = h'.nx := (by rw [k2.nx]; omega); simp [n3, k2.ap]) rfl (by simp only [List.length_cons, List.length_nil]; unfold room; omega) ?_
      intro v' h'' g1 g2 g3 g4
      have i0 : h''.hp 0 = _ := (congrFun g2 0).trans j0
      have i1 : h''.hp 1 = _ := (congrFun g2 1).trans k2.at_
      have i2 : h''.hp 2 = _ := (congrFun g2 2).trans j2
      have zv := g1.cell.2
      have hw : IntKind.wrap .i64 ((l.length : Int) + 1) = ((l ++ [(rU b i false).1]).length : Int) := by rw [wrapId (by omega) (by omega)]; simp
      have hnx : 3 ≤ h''.nx := by have := k2.nx; have : h'.nx + 1 ≤ h''.nx := g3; omega
      simp only [go_sem, kSt_ptr, Nat.reduceBEq, Nat.reduceAdd, e7, ec, i2, zv, cell1 zv, hw]
      refine ih (l ++ [(rU b i false).1]) (rU b i false).2.1 (rU b i false).2.2 _ _ v' (by simp; omega) (by simp only [go_sem, Nat.reduceBEq, e0]) (by simp only [go_sem, Nat.reduceBEq, e2]) (by simp only [go_sem, Nat.reduceBEq, e3]) (by simp only [go_sem, Nat.reduceBEq, e4]) (by simp only [go_sem, Nat.reduceBEq, e6]) (by simp only [go_sem, Nat.reduceBEq, e7]) (by simp only [go_sem, Nat.reduceBEq]) (by simp only [go_sem, hnx]) (by simp only [go_sem, i0]) (by simp only [go_sem, i1]) (by simp only [go_sem]) (g1.mono (by simp) fun _ _ => rfl) ?_
      intro e' h3 x' a0 a2 a3 a4 a6 a7 b1 b2 b3 b4 b5
      exact hq e' h3 x' a0 a2 a3 a4 a6 a7 b1 b2 b3 b4 (by rw [List.append_assoc] at b5; exact b5)
theorem LK1x_spec_GetNode (cs) {b : List UInt8} {n : Nat} {i : Int} {bad : Bool} {x y z : AV} {e : Ps} {h : Hp} {Q : QS} (e0 : e 0 = .imm (b.map u8T.row)) (e2 : e 2 = .ptr 0 0) (e3 : e 3 = .bool false) (e4 : e 4 = .ptr 1 0) (e6 : e 6 = .int .i64 n) (e7 : e 7 = .ptr 2 0) (ec : e 10 = .int .i64 0) (h1 : h.hp 1 = some [.imm (b.map u8T.row), .int .i64 i, .bool bad]) (h2 : h.hp 2 = some [.bool false, x, y, z])
      (hq : ∀ e', e' 0 = .imm (b.map u8T.row) → e' 2 = .ptr 0 0 → e' 3 = .bool false → e' 4 = .ptr 1 0 → e' 6 = .int .i64 n → e' 7 = .ptr 2 0 → Q (.exit 2) e' h) : WL (EE cs) s_spec_GetNode_L1 e h Q := by
  refine .step (wp_sound _ _ _ _ ?_)
  by_cases hc : (0 : Int) < (n : Int) <;> cases bad <;> simp only [go_sem, Nat.reduceBEq, Nat.reduceAdd, Nat.reduceLeDiff, s_spec_GetNode_L1, e4, e6, e7, ec, h1, h2, hc] <;> exact hq _ (by simp only [go_sem, Nat.reduceBEq, e0]) (by simp only [go_sem, Nat.reduceBEq, e2]) (by simp only [go_sem, Nat.reduceBEq, e3]) (by simp only [go_sem, Nat.reduceBEq, e4]) (by simp only [go_sem, Nat.reduceBEq, e6]) (by simp only [go_sem, Nat.reduceBEq, e7])
noncomputable def C_spec_GetNode := c1 (sliceT u8T) (fun (b : List (UInt8)) => b.length ≤ 240) (fun x => .tup [.agg (x.1).row, .bool x.2]) fun (b : List (UInt8)) => getNode b
theorem C_spec_GetNode_eq (b : List (UInt8)) (h : b.length ≤ 240) : C_spec_GetNode [.imm (b.map u8T.row)] = some (.tup [.agg (((getNode b).1)).row, .bool ((getNode b).2)]) := c1_eq (sliceT u8T) h
theorem ok_spec_GetNode {WI : World → Prop} (hs : Stable WI) (cs) (hT : TOK (EE cs) WI) (h1 : (EE cs).T 100 = some C_spec_GetU) (h2 : (EE cs).T 119 = some C_spec_GetText) (h3 : (EE cs).T 104 = some C_spec_NodeOk) : PureOK Tryz.prog WI 68 C_spec_GetNode := by
  refine pure1 (E := EE cs) hT hs (by rw [st_spec_GetNode]; rfl) fun b hp => out_wp (n := 0) (st_spec_GetNode cs) ?_
  have hb : b.length ≤ 240 := hp
  have f1 : sFill [AV.snil, AV.int IntKind.i64 0, AV.bool false] [(0, 1, AV.imm (List.map u8T.row b))] = some [AV.imm (List.map u8T.row b), AV.int IntKind.i64 0, AV.bool false] := rfl
  simp only [go_sem, Nat.reduceBEq, Nat.reduceAdd, s_spec_GetNode, f1]
  refine hP_rdU cs h1 b (by omega) (r := 1) (i := 0) (bad := false) rfl ?_
  intro ha a1
  have j0 : ha.hp 0 = some [.bool false, .snil, .snil, .snil] := a1.hp 0 (by decide)
  have jx : ha.nx = 2 := a1.nx
  simp only [go_sem, Nat.reduceBEq]
  refine hP_rdU cs h1 b (by omega) a1.at_ ?_
  intro hc a2
  have k0 : hc.hp 0 = some [.bool false, .snil, .snil, .snil] := (a2.hp 0 (by decide)).trans j0
  have k1 := a2.at_
  have kx : hc.nx = 2 := a2.nx.trans jx
  have hg : getNode b = nodeEnd b (nodeOf b (headB b b.length).1 (headB b b.length).2.1.toNat (headB b b.length).2.2.1 (headB b b.length).2.2.2) := rfl
  have g1 : (headB b b.length).1 = (rU b 0 false).1 := rfl
  have g2 : (headB b b.length).2.1 = (rU b (rU b 0 false).2.1 (rU b 0 false).2.2).1 := rfl
  have g3 : (headB b b.length).2.2.1 = (rU b (rU b 0 false).2.1 (rU b 0 false).2.2).2.1 := rfl
  have g4 : (headB b b.length).2.2.2 = ((rU b (rU b 0 false).2.1 (rU b 0 false).2.2).2.2 || decide (1 < (rU b 0 false).1) || decide ((b.length : Int) < (rU b (rU b 0 false).2.1 (rU b 0 false).2.2).1)) := rfl
  have rng := rU_rng b (rU b 0 false).2.1 (rU b 0 false).2.2
  rw [g1, g2, g3, g4] at hg
  generalize (rU b 0 false).1 = lf at *
  generalize rU b (rU b 0 false).2.1 (rU b 0 false).2.2 = w at *
  obtain ⟨n0, j, bd⟩ := w
  simp only at k1 hg rng
  obtain ⟨n, rfl⟩ : ∃ n : Nat, n0 = (n : Int) := ⟨n0.toNat, by omega⟩
  have hn : n ≤ 1000000 := by omega
  rw [Int.toNat_natCast] at hg
  have f2 : ∀ v, sFill [.bool false, .snil, .snil, .snil] [(0, 1, .bool v)] = some [.bool v, .snil, .snil, .snil] := fun _ => rfl
  obtain ⟨B, hB⟩ : ∃ B, B = (bd || decide (1 < lf) || decide ((b.length : Int) < (n : Int))) := ⟨_, rfl⟩
  rw [← hB] at hg
  rw [hg]
  have hnB : n ≤ 240 ∨ B = true := by
    by_cases hb3 : (b.length : Int) < (n : Int)
    · right; rw [hB]; simp [hb3]
    · left; omega
  have hcost := nodeOf_cost hb (lf := lf) (j := j) hnB
  have f3 : sFill [.bool false, .snil, .snil, .snil] [] = some [.bool false, .snil, .snil, .snil] := rfl
  have hn0 : (0 : Int) ≤ (n : Int) := by omega
  cases bd <;> by_cases hb2 : 1 < lf <;> by_cases hb3 : (b.length : Int) < (n : Int)
  all_goals
    simp only [go_sem, kSt_ptr, Nat.reduceBEq, Nat.reduceAdd, Nat.reduceLeDiff, k1, kx, hb2, hb3, f2]
    refine LK0_spec_GetNode cs h2 b hb n hn (lf == 1) n [] j B _ _ .snil (by simp) (by simp only [go_sem, Nat.reduceBEq]) (by simp only [go_sem, Nat.reduceBEq]) (by simp only [go_sem, Nat.reduceBEq]) (by simp only [go_sem, Nat.reduceBEq]) (by simp only [go_sem, Nat.reduceBEq]) (by simp only [go_sem, Nat.reduceBEq]) (by simp only [go_sem, Nat.reduceBEq]) (Nat.le_refl _) (by simp only [go_sem, k0]) (by simp only [hB, hb2, hb3, decide_true, decide_false]; rfl) (by simp only [go_sem]) (grows_nil _ _) ?_
    clear k0 k1 kx a1 a2 j0 jx hg g1 g2 g3 g4 f1 hB
    intro e' h' x' q0 q2 q3 q4 q6 q7 nx' z0 z1 z2 se
    have sz := se.2
    by_cases hl : lf = 1
    · have hno : nodeOf b lf n j B = _ := if_pos hl
      rw [hno] at hcost ⊢
      generalize gsT b n j B = k at *
      simp only [go_sem]
      refine LK1_spec_GetNode cs h2 b hb n hn _ (by rw [hl]; rfl) n [] _ _ _ _ .snil (by simp) (by simp only [go_sem, Nat.reduceBEq, q0]) (by simp only [go_sem, Nat.reduceBEq, q2]) (by simp only [go_sem, Nat.reduceBEq, q3]) (by simp only [go_sem, Nat.reduceBEq, q4]) (by simp only [go_sem, Nat.reduceBEq, q6]) (by simp only [go_sem, Nat.reduceBEq, q7]) (by simp only [go_sem]) nx' (by simp only [go_sem, z0]) z1 z2 (grows_nil _ _) ?_
      intro e1 hh x1 r0 r2 r3 r4 r6 r7 nx1 y0 y1 y2 se1
      have sz1 := se1.2
      generalize gsT b n k.2.1 k.2.2 = v at *
      obtain ⟨vl, i, bd2⟩ := v
      simp only [List.nil_append] at y1 se se1 hcost ⊢
      have hl2 : (lf == 1) = true := by rw [hl]; rfl
      have c3 := C_spec_NodeOk_eq _ hcost
      simp only [hl2] at y2
      simp only [go_sem]
      simp only [List.map_nil] at c3
      refine .step (wp_sound _ _ _ _ ?_)
      cases bd2 with
      | true =>
        rw [nodeEnd_bad]
        simp only [go_sem, kSt_ptr, Nat.reduceBEq, Nat.reduceAdd, Nat.reduceLeDiff, s_spec_GetNode_L2, r2, r3, r4, r6, r7, y0, y1, y2, hn0, f3, noNode, TNode.row]
      | false =>
        by_cases hi : i = (b.length : Int)
        · cases hok : nodeOk ⟨true, k.1, vl, []⟩ with
          | false =>
            rw [hok] at c3
            rw [nodeEnd_no _ hok]
            simp only [go_sem, kSt_ptr, Nat.reduceBEq, Nat.reduceAdd, Nat.reduceLeDiff, s_spec_GetNode_L2, r0, r2, r3, r4, r6, r7, y0, y1, y2, hn0, f3, noNode, TNode.row, hi, h3, c3, sz, sz1, se.1, se1.1, se.fz, se1.fz]
          | true =>
            rw [hok] at c3
            rw [nodeEnd_ok hi hok]
            simp only [go_sem, kSt_ptr, Nat.reduceBEq, Nat.reduceAdd, Nat.reduceLeDiff, s_spec_GetNode_L2, r0, r2, r3, r4, r6, r7, y0, y1, y2, hn0, f3, TNode.row, hi, h3, c3, sz, sz1, se.1, se1.1, se.fz, se1.fz]
        · have hi2 : (i == (b.length : Int)) = false := by simp [hi]
          have hi3 : (i != (b.length : Int)) = true := by simp [hi]
          rw [nodeEnd_at _ _ hi]
          simp only [go_sem, kSt_ptr, Nat.reduceBEq, Nat.reduceAdd, Nat.reduceLeDiff, s_spec_GetNode_L2, r0, r2, r3, r4, r6, r7, y0, y1, y2, hn0, f3, noNode, TNode.row, hi3]
    · have hno : nodeOf b lf n j B = _ := if_neg hl
      have hl2 : (lf == 1) = false := by simp [hl]
      rw [hno] at hcost ⊢
      generalize gsT b n j B = k at *
      simp only [hl2] at z2
      simp only [go_sem]
      refine LK1x_spec_GetNode cs (b := b) (n := n) ?_ ?_ ?_ ?_ ?_ ?_ ?_ z1 z2 ?_
      · simp only [go_sem, Nat.reduceBEq, q0]
      · simp only [go_sem, Nat.reduceBEq, q2]
      · simp only [go_sem, Nat.reduceBEq, q3]
      · simp only [go_sem, Nat.reduceBEq, q4]
      · simp only [go_sem, Nat.reduceBEq, q6]
      · simp only [go_sem, Nat.reduceBEq, q7]
      · simp only [go_sem]
      clear q0 q2 q3 q4 q6 q7
      intro e' q0 q2 q3 q4 q6 q7
      simp only [go_sem]
      refine LK2_spec_GetNode cs h1 b hb n hn _ rfl (n + 1) [] _ _ _ _ .snil (by simp) (by simp only [go_sem, Nat.reduceBEq, q0]) (by simp only [go_sem, Nat.reduceBEq, q2]) (by simp only [go_sem, Nat.reduceBEq, q3]) (by simp only [go_sem, Nat.reduceBEq, q4]) (by simp only [go_sem, Nat.reduceBEq, q6]) (by simp only [go_sem, Nat.reduceBEq, q7]) (by simp only [go_sem]) nx' (by simp only [go_sem, z0]) z1 z2 (grows_nil _ _) ?_
      intro e1 hh x1 r0 r2 r3 r4 r6 r7 nx1 y0 y1 y2 se1
      have sz1 := se1.2
      generalize gsU b (n + 1) k.2.1 k.2.2 = v at *
      obtain ⟨vl, i, bd2⟩ := v
      simp only [List.nil_append] at y1 se se1 hcost ⊢
      have c3 := C_spec_NodeOk_eq _ hcost
      simp only [List.map_nil] at c3
      cases bd2 with
      | true =>
        rw [nodeEnd_bad]
        simp only [go_sem, kSt_ptr, Nat.reduceBEq, Nat.reduceAdd, Nat.reduceLeDiff, r2, r3, r4, r7, y0, y1, y2, f3, noNode, TNode.row]
      | false =>
        by_cases hi : i = (b.length : Int)
        · cases hok : nodeOk ⟨false, k.1, [], vl⟩ with
          | false =>
            rw [hok] at c3
            rw [nodeEnd_no _ hok]
            simp only [go_sem, kSt_ptr, Nat.reduceBEq, Nat.reduceAdd, Nat.reduceLeDiff, r0, r2, r3, r4, r7, y0, y1, y2, f3, noNode, TNode.row, hi, h3, c3, sz, sz1, se.1, se1.1, se.fz, se1.fz]
          | true =>
            rw [hok] at c3
            rw [nodeEnd_ok hi hok]
            simp only [go_sem, kSt_ptr, Nat.reduceBEq, Nat.reduceAdd, Nat.reduceLeDiff, r0, r2, r3, r4, r7, y0, y1, y2, f3, TNode.row, hi, h3, c3, sz, sz1, se.1, se1.1, se.fz, se1.fz]
        · have hi2 : (i == (b.length : Int)) = false := by simp [hi]
          have hi3 : (i != (b.length : Int)) = true := by simp [hi]
          rw [nodeEnd_at _ _ hi]
          simp only [go_sem, kSt_ptr, Nat.reduceBEq, Nat.reduceAdd, Nat.reduceLeDiff, r0, r2, r3, r4, r7, y0, y1, y2, f3, noNode, TNode.row, hi3]
end Go.Proofs.YtmfkjlnhanomfaaGreat.Nl
/- What the functions that FnExactNoLeak calls answer: part 9. -/
namespace Go.Proofs.YtmfkjlnhanomfaaGreat.Nl
open Go Go.RowKit Go.Ev
set_option linter.unusedSimpArgs false
set_option linter.unusedVariables false
set_option maxHeartbeats 1600000
def nodeDisk (d : TDisk) (n : Int) : TNode × Bool := if (pageAt d n 1).2 = true then getNode (pageAt d n 1).1 else (noNode, false)
def newFind (n : Int) (_ : List TFresh) (f : TFresh) : Option TNode := if f.fN = n then some f.fX else none
def newFindI (n : Int) (pre : List TFresh) (f : TFresh) : Option Int := if f.fN = n then some (pre.length : Int) else none
def nodeAt (t : TTxn) (n : Int) : TNode × Bool := match earlyL (newFind n) [] t.fNew with
  | some x => (x, true)
  | none => nodeDisk t.fD n
theorem newFind_none {n : Int} {pre : List TFresh} {f : TFresh} (h : newFind n pre f = none) : (f.fN == n) = false := by
  unfold newFind at h
  split at h
  · cases h
  · rename_i hc; simpa using hc
theorem newFind_some {n : Int} {pre : List TFresh} {f : TFresh} {x : TNode} (h : newFind n pre f = some x) : (f.fN == n) = true ∧ x = f.fX := by
  unfold newFind at h
  split at h
  · rename_i hc; injection h with h; exact ⟨by simpa using hc, h.symm⟩
  · cases h
theorem newFindI_none {n : Int} {pre : List TFresh} {f : TFresh} (h : newFindI n pre f = none) : (f.fN == n) = false := by
  unfold newFindI at h
  split at h
  · cases h
  · rename_i hc; simpa using hc
theorem newFindI_some {n : Int} {pre : List TFresh} {f : TFresh} {x : Int} (h : newFindI n pre f = some x) : (f.fN == n) = true ∧ x = (pre.length : Int) := by
  unfold newFindI at h
  split at h
  · rename_i hc; injection h with h; exact ⟨by simpa using hc, h.symm⟩
  · cases h
theorem find_both (n : Int) : ∀ (l pre : List TFresh), (earlyL (newFind n) pre l = none ∧ earlyL (newFindI n) pre l = none) ∨ ∃ p f r, l = p ++ f :: r ∧ earlyL (newFind n) pre l = some f.fX ∧ earlyL (newFindI n) pre l = some ((pre.length : Int) + p.length) := by
  intro l
  induction l with
  | nil => intro pre; exact .inl ⟨rfl, rfl⟩
  | cons f l ih =>
    intro pre
    by_cases hc : f.fN = n
    · right
      refine ⟨[], f, l, rfl, ?_, ?_⟩
      · simp [earlyL, newFind, hc]
      · simp [earlyL, newFindI, hc]
    · rcases ih (pre ++ [f]) with ⟨h1, h2⟩ | ⟨p, g, r, h1, h2, h3⟩
      · left; simp [earlyL, newFind, newFindI, hc] at h1 h2 ⊢; exact ⟨h1, h2⟩
      · right
        refine ⟨f :: p, g, r, by rw [h1]; rfl, ?_, ?_⟩
        · simp only [earlyL, newFind, hc, if_false]; exact h2
        · simp only [earlyL, newFindI, hc, if_false]
          have : earlyL (newFindI n) (pre ++ [f]) l = some (((pre ++ [f]).length : Int) + p.length) := h3
          rw [this]
          simp; omega
theorem getNode_no {b : List UInt8} (h : (getNode b).2 = false) : getNode b = (noNode, false) := by
  unfold getNode nodeEnd at h ⊢
  split
  · rename_i hc; rw [if_pos hc] at h; cases h
  · rfl
theorem pageOf_len (x : List UInt8) (u : Int × Int × Bool) (s : List UInt8 × Int × Bool) : (pageOf x u s).2.1.length ≤ 240 := by
  unfold pageOf
  split
  · rename_i h; exact h.2.2.2.2
  · simp
theorem pageAt_len (d : TDisk) (n k : Int) : (pageAt d n k).1.length ≤ 240 := by
  unfold pageAt
  split
  · unfold getPage
    split
    · exact pageOf_len _ _ _
    · simp
  · simp
theorem txCost {t : TTxn} (h : tTxn.cost t ≤ 1048576) : tDisk.cost t.fD ≤ 1048576 ∧ t.fNew.length ≤ 1048576 ∧ ∀ f ∈ t.fNew, tNode.cost f.fX ≤ 1048576 := by
  have h0 : tTxn.cost t = tDisk.cost t.fD + (sliceT tFresh).cost t.fNew := rfl
  have h1 : (sliceT tFresh).cost t.fNew = t.fNew.length + costL tFresh t.fNew := rfl
  refine ⟨by omega, by omega, fun f hf => ?_⟩
  have h2 := costL_mem tFresh hf
  have h3 : tFresh.cost f = tNode.cost f.fX := rfl
  omega
noncomputable def C_spec_l16Disk := c2 tDisk intT (fun (d : TDisk) (n : Int) => tDisk.cost d ≤ 1048576) (fun x => .tup [.agg (x.1).row, .bool x.2]) fun (d : TDisk) (n : Int) => nodeDisk d n
theorem C_spec_l16Disk_eq (d : TDisk) (n : Int) (h : tDisk.cost d ≤ 1048576) : C_spec_l16Disk [.agg [.imm (d.fSecs.map (sliceT u8T).row), .imm (d.fCache.map TWrite.row), .int .i64 d.fOps, .imm (d.fFaults.map TFault.row), .bool d.fDown], .int .i64 n] = some (.tup [.agg (((nodeDisk d n).1)).row, .bool ((nodeDisk d n).2)]) := c2_eq tDisk intT h
theorem ok_spec_l16Disk {WI : World → Prop} (hs : Stable WI) (cs) (hT : TOK (EE cs) WI) (h1 : (EE cs).T 67 = some C_spec_PageAt) (h2 : (EE cs).T 68 = some C_spec_GetNode) : PureOK Tryz.prog WI 40 C_spec_l16Disk := by
  refine pure2 (E := EE cs) hT hs (by rw [st_spec_l16Disk]; rfl) fun d n hp => out_wp (n := 0) (st_spec_l16Disk cs) ?_
  have c1 := C_spec_PageAt_eq d n 1 hp
  have hl := pageAt_len d n 1
  have f3 : sFill [.bool false, .snil, .snil, .snil] [] = some [.bool false, .snil, .snil, .snil] := rfl
  unfold nodeDisk
  rcases hpa : pageAt d n 1 with ⟨b, ok⟩
  rw [hpa] at c1 hl
  simp only at hl ⊢
  have c2 := C_spec_GetNode_eq b hl
  have hno := getNode_no (b := b)
  rcases hg : getNode b with ⟨x, is⟩
  rw [hg] at c2 hno
  cases ok with
  | false => simp only [go_sem, kSt_ptr, Nat.reduceBEq, Nat.reduceAdd, Nat.reduceEqDiff, s_spec_l16Disk, TDisk.row, tDisk_enc, TNode.row, h1, c1, h2, c2, f3, noNode, Bool.false_eq_true]
  | true =>
    cases is with
    | true => simp only [go_sem, kSt_ptr, Nat.reduceBEq, Nat.reduceAdd, Nat.reduceEqDiff, s_spec_l16Disk, TDisk.row, tDisk_enc, TNode.row, h1, c1, h2, c2, f3]
    | false =>
      have hx := hno rfl
      simp only [Prod.mk.injEq, and_true] at hx
      subst hx
      simp only [go_sem, kSt_ptr, Nat.reduceBEq, Nat.reduceAdd, Nat.reduceEqDiff, s_spec_l16Disk, TDisk.row, tDisk_enc, TNode.row, h1, c1, h2, c2, f3, noNode]
noncomputable def C_spec_NodeAt := c2 tTxn intT (fun (t : TTxn) (n : Int) => tTxn.cost t ≤ 1048576) (fun x => .tup [.agg (x.1).row, .bool x.2]) fun (t : TTxn) (n : Int) => nodeAt t n
theorem C_spec_NodeAt_eq (t : TTxn) (n : Int) (h : tTxn.cost t ≤ 1048576) : C_spec_NodeAt [.agg [.imm (t.fD.fSecs.map (sliceT u8T).row), .imm (t.fD.fCache.map TWrite.row), .int .i64 t.fD.fOps, .imm (t.fD.fFaults.map TFault.row), .bool t.fD.fDown, .int .i64 t.fM.fGen, .int .i64 t.fM.fRoot, .int .i64 t.fRoot, .imm (t.fNew.map TFresh.row)], .int .i64 n] = some (.tup [.agg (((nodeAt t n).1)).row, .bool ((nodeAt t n).2)]) := c2_eq tTxn intT h
theorem ok_spec_NodeAt {WI : World → Prop} (hs : Stable WI) (cs) (hT : TOK (EE cs) WI) (h1 : (EE cs).T 39 = some C_spec_l14Copy) (h2 : (EE cs).T 40 = some C_spec_l16Disk) : PureOK Tryz.prog WI 16 C_spec_NodeAt := by
  refine pure2 (E := EE cs) hT hs (by rw [st_spec_NodeAt]; rfl) fun t n hp => out_wp (n := 0) (st_spec_NodeAt cs) ?_
  obtain ⟨z1, z2, z3⟩ := txCost hp
  have c2 := C_spec_l16Disk_eq t.fD n z1
  have hrow : (TTxn.row t) = (TTxn.row t) := rfl
  simp only [go_sem, Nat.reduceAdd, s_spec_NodeAt, TTxn.row, tTxn_enc]
  refine (wl_early (l := t.fNew) (fun pre v => newFind n pre v) (fun pre e h => e 1 = .int .i64 n ∧ e 2 = .ptr 0 0 ∧ e 4 = .ptr 1 0 ∧ h.hp 0 = some t.row ∧ h.hp 1 = some [.bool false, .snil, .snil, .snil] ∧ e 6 = .int .i64 pre.length) (.exit 0) (fun e h => e 1 = .int .i64 n ∧ e 2 = .ptr 0 0 ∧ e 4 = .ptr 1 0 ∧ h.hp 0 = some t.row ∧ h.hp 1 = some [.bool false, .snil, .snil, .snil]) (fun b e h => e 5 = .bool true ∧ e 4 = .ptr 1 0 ∧ h.hp 1 = some b.row) (by omega) ?_ ?_ ?_ (by simp) t.fNew [] _ _ rfl ?_).mono ?_
  · rintro pre v rest e h a hp ⟨q0, q1, q2, q3, q4, ix⟩
    have hq := newFind_none hp
    simp only [go_sem, Nat.reduceBEq, Nat.reduceAdd, Nat.reduceLeDiff, s_spec_NodeAt_L0, q0, q1, q2, q3, q4, ix, a.dl, a.ia (row := TFresh.row) (sz := 5) rfl, a.hw, TTxn.row, TFresh.row, TTxn.row, hq]
  · rintro pre v rest b e h a hp ⟨q0, q1, q2, q3, q4, ix⟩
    obtain ⟨hq, rfl⟩ := newFind_some hp
    have c1 := C_spec_l14Copy_eq v.fX (z3 v a.mem)
    simp only [go_sem, kSt_ptr, Nat.reduceBEq, Nat.reduceAdd, Nat.reduceLeDiff, s_spec_NodeAt_L0, q0, q1, q2, q3, q4, ix, a.dl, a.ia (row := TFresh.row) (sz := 5) rfl, a.hw, TTxn.row, TFresh.row, TTxn.row, hq, h1, c1, TNode.row]
  · rintro e h ⟨q0, q1, q2, q3, q4, ix⟩
    simp only [go_sem, Nat.reduceBEq, Nat.reduceAdd, Nat.reduceLeDiff, s_spec_NodeAt_L0, q0, q1, q2, q3, q4, ix, TTxn.row]
  · simp only [go_sem, Nat.reduceBEq, TTxn.row]
  · intro x e h hx
    unfold nodeAt
    cases he : earlyL (newFind n) [] t.fNew with
    | none =>
      rw [he] at hx
      obtain ⟨rfl, j0, j1, j2, j3, j4⟩ := hx
      simp only [go_sem, kSt_ptr, Nat.reduceBEq, Nat.reduceAdd, Nat.reduceLeDiff, j0, j1, j2, j3, j4, TTxn.row, h2, c2, TNode.row]
    | some k =>
      rw [he] at hx
      obtain ⟨rfl, j, j2, j3⟩ := hx
      simp only [go_sem, Nat.reduceAdd, j, j2, j3, TNode.row]
theorem flatI (l : List Int) : (l.map intT.row).flatten = l.map fun k => AV.int .i64 k := by
  induction l with
  | nil => rfl
  | cons a l ih => simp only [List.map_cons, List.flatten_cons, ih]; rfl
theorem kIa_int {r len : Nat} {j : Nat} (hj : j < len) (h : Hp) : kIa 1 (.sl r 0 len 1) (.int .i64 (j : Int)) h = some (.ptr r j, h) := by
  rw [kIa_sl (by omega) (by omega)]
  simp
theorem kSt_int {h : Hp} {r j : Nat} {l : List Int} {k : Int} (hh : h.hp r = some (l.map fun k => AV.int .i64 k)) (hj : j < l.length) : kSt 1 (.ptr r j) (.int .i64 k) h = some (.tup [], h.set r ((l.set j k).map fun k => AV.int .i64 k)) := by
  rw [kSt_ptr, hh]
  have e : splice (l.map fun k => AV.int .i64 k) j [.int .i64 k] = (l.set j k).map fun k => AV.int .i64 k := by
    unfold splice
    rw [List.map_set, List.set_eq_take_append_cons_drop, if_pos (by rw [List.length_map]; exact hj), List.append_assoc]
    rfl
  have e1 : (AV.int .i64 k).cells = [.int .i64 k] := rfl
  simp only [Option.bind_some, e1, List.length_cons, List.length_nil, List.length_map]
  rw [if_pos ⟨trivial, by omega, rfl⟩, e]
theorem ldI {l : List Int} {j : Nat} {a : Int} (h : l[j]? = some a) : (l.map fun k => AV.int .i64 k)[j]? = some (.int .i64 a) := by rw [List.getElem?_map, h]; rfl
theorem sApp_ints {bt r len : Nat} {h : Hp} {cs : List AV} {x : AV} (more : List Int) (hr : h.hp r = some cs) (hl : cs.length = len) (hx : rowsIn h 1 x = some (more.map intT.row)) (hb : (len + more.length) * bt ≤ room) : sApp true bt 1 (.sl r 0 len 1) x h = some (.sl h.nx 0 (len + more.length) 1, (h.kill r).new (cs ++ more.map fun k => AV.int .i64 k)) := by
  have hh : headLen 1 (more.map intT.row) = true := by cases more with | nil => rfl | cons a l => rfl
  simp only [sApp, hx, Option.bind_some, hh, if_true, and_self, hr, List.length_map, hl, Nat.mul_one, hb, flatI]
theorem owS_ints {h : Hp} {r len : Nat} {l : List Int} (hh : h.hp r = some (l.map fun k => AV.int .i64 k)) (hl : l.length = len) (hr : r < h.nx) : OwS 0 intT r (r + 1) l (.sl r 0 len 1) h := by
  subst hl
  refine ⟨Nat.le_succ _, hr, .inr ⟨r, _, [], rfl, hh, by rw [List.length_map]; exact (Nat.mul_one _).symm, ?_, by simp, fun q hq => by simp at hq; omega⟩⟩
  rw [← flatI]
  exact TD.leafs rfl l
theorem intsOf_map : ∀ l : List Int, intsOf (l.map fun k => AV.int .i64 k) = some l
  | [] => rfl
  | a :: l => by simp only [List.map_cons, intsOf, intsOf_map l, Option.map_some]
theorem sortI_len (l : List Int) : (sortI l).length = l.length := by unfold sortI; exact List.length_mergeSort l
theorem sortC_ints {F : List AV → Option AV} {t : AV} (hF : F [] = some t) {r : Nat} {h : Hp} {l : List Int} (hh : h.hp r = some (l.map fun k => AV.int .i64 k)) (hl : l.length ≤ 1048576) : sortC F [.sl r 0 l.length 1] h = some (.tup [], h.set r ((sortI l).map fun k => AV.int .i64 k)) := by
  have e1 : ((l.map fun k => AV.int .i64 k).drop 0).take l.length = l.map fun k => AV.int .i64 k := by
    rw [List.drop_zero, List.take_of_length_le (by rw [List.length_map]; exact Nat.le_refl _)]
  have e2 : splice (l.map fun k => AV.int .i64 k) 0 ((sortI l).map (.int .i64)) = (sortI l).map fun k => AV.int .i64 k := by
    unfold splice
    rw [List.take_zero, List.nil_append, List.drop_eq_nil_of_le (by rw [List.length_map, List.length_map, sortI_len]; omega), List.append_nil]
  have e3 : 0 + l.length ≤ (l.map fun k => AV.int .i64 k).length := by rw [List.length_map]; omega
  show (if 1 = 1 ∧ l.length ≤ 1048576 then (h.hp r).bind fun cs => if 0 + l.length ≤ cs.length then (intsOf ((cs.drop 0).take l.length)).bind fun zs => (F []).map fun _ => (AV.tup [], h.set r (splice cs 0 ((sortI zs).map (.int .i64)))) else none else none) = _
  rw [if_pos ⟨rfl, hl⟩, hh]
  simp only [Option.bind_some]
  rw [if_pos e3, e1, intsOf_map]
  simp only [Option.bind_some, hF, Option.map_some, e2]
/-- Whole numbers in a block of the call's own. -/
def ints (lo : Nat) (l : List Int) (v : AV) (h : Hp) : Prop := ∃ r, v = .sl r 0 l.length 1 ∧ h.hp r = some (l.map fun k => AV.int .i64 k) ∧ lo ≤ r ∧ r < h.nx
theorem frzInts {r : Nat} {h : Hp} {l : List Int} (hh : h.hp r = some (l.map fun k => AV.int .i64 k)) (hr : r < h.nx) : frzT 8 h (.sl r 0 l.length 1) = some (.imm (l.map intT.row)) := (owS_ints hh rfl hr).owI.frz (by decide)
theorem LK_spec_l16Put (cs) (n : Int) (r len : Nat) (hlen : len ≤ 1048577) {Q : QS} : ∀ (rp : List Int) (c : Int) (s : List Int) (e : Ps) (h : Hp), rp.length + 1 + s.length = len → e 1 = .int .i64 n → e 5 = .sl r 0 len 1 → e 6 = .int .i64 rp.length → h.hp r = some ((rp.reverse ++ c :: s).map fun k => AV.int .i64 k) → r < h.nx →
    (∀ e' h' (w1 w2 : List Int) (c' : Int), e' 1 = .int .i64 n → e' 5 = .sl r 0 len 1 → e' 6 = .int .i64 w1.length → h'.hp r = some ((w1 ++ c' :: w2).map fun k => AV.int .i64 k) → r < h'.nx → w1 ++ n :: w2 = insB n rp s → w1.length + 1 + w2.length = len → Q (.exit 0) e' h') → WL (EE cs) s_spec_l16Put_L0 e h Q := by
  intro rp
  induction rp with
  | nil =>
    intro c s e h hl e1 e5 e6 hh hr hq
    have h0 : ¬ (0 : Int) < (([] : List Int).length : Int) := by decide
    refine .step (wp_sound _ _ _ _ ?_)
    simp only [go_sem, Nat.reduceBEq, Int.reduceLT, s_spec_l16Put_L0, e5, e6]
    exact hq _ _ [] s c (by simp only [go_sem, Nat.reduceBEq, e1]) (by simp only [go_sem, Nat.reduceBEq, e5]) (by simp only [go_sem, Nat.reduceBEq, e6]) hh hr rfl (by simpa using hl)
  | cons a rp ih =>
    intro c s e h hl e1 e5 e6 hh hr hq
    have hla : ((a :: rp).length : Int) = (rp.length : Int) + 1 := by simp
    have h0 : (0 : Int) < (rp.length : Int) + 1 := by omega
    have hl2 : rp.length + 1 + 1 + s.length = len := by simpa using hl
    have hw : IntKind.wrap .i64 ((rp.length : Int) + 1 - 1) = (rp.length : Int) := by rw [wrapId (by omega) (by omega)]; omega
    have hia := kIa_int (r := r) (len := len) (j := rp.length) (by omega)
    have hib : ∀ h, kIa 1 (.sl r 0 len 1) (.int .i64 ((rp.length : Int) + 1)) h = some (.ptr r (rp.length + 1), h) := fun h => kIa_int (j := rp.length + 1) (by omega) h
    have hl' : (a :: rp).reverse ++ c :: s = rp.reverse ++ a :: c :: s := by simp
    rw [hl'] at hh
    have hle : rp.length ≤ (rp.reverse ++ a :: c :: s).length := by simp
    have hdr : List.drop rp.length (List.map (fun k => AV.int .i64 k) (rp.reverse ++ a :: c :: s)) = .int .i64 a :: ((c :: s).map fun k => AV.int .i64 k) := by
      rw [List.map_append, List.drop_left' (by simp)]
      rfl
    rw [hla] at e6
    refine .step (wp_sound _ _ _ _ ?_)
    by_cases hc : n < a
    · have hst := kSt_int (k := a) (j := rp.length + 1) hh (by simp)
      have he : (rp.reverse ++ a :: c :: s).set (rp.length + 1) a = rp.reverse ++ a :: (a :: s) := by
        rw [List.set_append_right (h := by simp)]
        simp
      rw [he] at hst
      simp only [go_sem, Nat.reduceBEq, s_spec_l16Put_L0, e1, e5, e6, h0, hw, hia, hib, hh, hle, hdr, hc, hst]
      exact ih a (a :: s) _ _ (by simp; omega) (by simp only [go_sem, Nat.reduceBEq, e1]) (by simp only [go_sem, Nat.reduceBEq, e5]) (by simp only [go_sem, Nat.reduceBEq]) (by simp only [go_sem]) hr (fun e' h' w1 w2 c' k1 k5 k6 kh kr kw kl => hq e' h' w1 w2 c' k1 k5 k6 kh kr (by rw [kw]; simp [insB, hc]) kl)
    · simp only [go_sem, kSt_ptr, Nat.reduceBEq, s_spec_l16Put_L0, e1, e5, e6, h0, hw, hia, hib, hh, hle, hdr, hc]
      exact hq _ _ (rp.reverse ++ [a]) s c (by simp only [go_sem, Nat.reduceBEq, e1]) (by simp only [go_sem, Nat.reduceBEq, e5]) (by simp only [go_sem, Nat.reduceBEq, e6]; simp) (by rw [hh]; simp) hr (by simp [insB, hc]) (by simp; omega)
noncomputable def C_spec_l16Put := c2 (sliceT intT) intT (fun (l : List (Int)) (n : Int) => l.length ≤ 1048576) (fun x => .imm (x.map intT.row)) fun (l : List (Int)) (n : Int) => putI l n
theorem C_spec_l16Put_eq (l : List (Int)) (n : Int) (h : l.length ≤ 1048576) : C_spec_l16Put [.imm (l.map intT.row), .int .i64 n] = some (.imm (((putI l n)).map intT.row)) := c2_eq (sliceT intT) intT h
theorem ok_spec_l16Put {WI : World → Prop} (hs : Stable WI) (cs) (hT : TOK (EE cs) WI) (h1 : (EE cs).T 29 = some C_spec_l16Has) : PureOK Tryz.prog WI 66 C_spec_l16Put := by
  refine pure2 (E := EE cs) hT hs (by rw [st_spec_l16Put]; rfl) fun l n hp => out_wp (n := 8) (st_spec_l16Put cs) ?_
  have hlen : l.length ≤ 1048576 := hp
  have c1 := C_spec_l16Has_eq l n hlen
  unfold putI
  cases hb : hasI l n with
  | true =>
    rw [hb] at c1
    simp only [go_sem, Nat.reduceBEq, s_spec_l16Put, h1, c1]
  | false =>
    rw [hb] at c1
    have f0 : fillR (List.replicate 0 [AV.int IntKind.i64 0]) 1 [] = some [] := rfl
    have f1 : fillR (List.replicate 1 [AV.int IntKind.i64 0]) 1 [(0, AV.int IntKind.i64 n)] = some [[.int .i64 n]] := rfl
    simp only [go_sem, Nat.reduceBEq, s_spec_l16Put, h1, c1, f0]
    rw [sApp_ints (bt := 8) (r := 0) (len := 0) (cs := []) l]
    rotate_left
    · rfl
    · rfl
    · rfl
    · unfold room; omega
    simp only [go_sem, Nat.reduceBEq, Nat.reduceAdd, f1]
    rw [sApp_ints (bt := 8) (r := 1) (len := l.length) (cs := l.map fun k => AV.int .i64 k) [n]]
    rotate_left
    · simp
    · simp
    · rfl
    · simp only [List.length_cons, List.length_nil]; unfold room; omega
    have hw : IntKind.wrap .i64 (((l.length + 1 : Nat) : Int) - 1) = ((l.reverse.length : Nat) : Int) := by rw [wrapId (by omega) (by omega)]; simp
    simp only [go_sem, Nat.reduceBEq, Nat.reduceAdd, hw]
    refine LK_spec_l16Put cs n 3 (l.length + 1) (by omega) l.reverse n [] _ _ (by simp) (by simp only [go_sem, Nat.reduceBEq]) (by simp only [go_sem, Nat.reduceBEq]) (by simp only [go_sem, Nat.reduceBEq]) (by simp) (by simp) ?_
    intro e' h' w1 w2 c' k1 k5 k6 kh kr kw kl
    have hia := kIa_int (r := 3) (len := l.length + 1) (j := w1.length) (by omega)
    have hst := kSt_int (k := n) (j := w1.length) kh (by simp)
    have he : (w1 ++ c' :: w2).set w1.length n = insB n l.reverse [] := by
      rw [← kw, List.set_append_right (h := by simp)]
      simp
    rw [he] at hst
    simp only [go_sem, Nat.reduceBEq, k1, k5, k6, hia, hst]
    rw [show ∀ (h : Hp) (r o n s : Nat), frzE 8 h (.sl r o n s) = frzT 8 h (.sl r o n s) from fun _ _ _ _ _ => rfl]
    refine (owS_ints (l := insB n l.reverse []) ?_ ?_ ?_).owI.frz (by decide)
    · simp
    · rw [← kw]; simp; omega
    · exact kr
end Go.Proofs.YtmfkjlnhanomfaaGreat.Nl
/- What the functions that FnExactNoLeak calls answer: part 10. -/
namespace Go.Proofs.YtmfkjlnhanomfaaGreat.Nl
open Go Go.RowKit Go.Ev
set_option linter.unusedSimpArgs false
set_option linter.unusedVariables false
set_option maxHeartbeats 1600000
section
variable (f : Int → Option (List Int))
/-- The walk down, with so many steps. -/
def walkF : Nat → Int → List Int → List Int
  | 0, _, l => l
  | m + 1, n, l => if n = 0 ∨ hasI l n = true then l else match f n with
    | none => l
    | some ks => ks.foldl (fun l k => walkF m k l) (putI l n)
def secs : List Int := (List.range 46).map fun k : Nat => (k : Int) + 2
def missing (l : List Int) : List Int := secs.filter fun k => !hasI l k
theorem mem_secs {n : Int} : n ∈ secs ↔ 2 ≤ n ∧ n ≤ 47 := by
  unfold secs
  rw [List.mem_map]
  constructor
  · rintro ⟨k, hk, rfl⟩
    rw [List.mem_range] at hk
    omega
  · rintro ⟨h1, h2⟩
    exact ⟨(n - 2).toNat, List.mem_range.2 (by omega), by omega⟩
theorem mem_insB (n x : Int) : ∀ (r s : List Int), x ∈ insB n r s ↔ x = n ∨ x ∈ r ∨ x ∈ s := by
  intro r
  induction r with
  | nil => intro s; simp [insB]
  | cons a r ih =>
    intro s
    rw [insB]
    split
    · rw [ih]
      simp only [List.mem_cons]
      constructor
      · rintro (h | h | h | h)
        · exact .inl h
        · exact .inr (.inl (.inr h))
        · exact .inr (.inl (.inl h))
        · exact .inr (.inr h)
      · rintro (h | (h | h) | h)
        · exact .inl h
        · exact .inr (.inr (.inl h))
        · exact .inr (.inl h)
        · exact .inr (.inr (.inr h))
    · simp only [List.mem_append, List.mem_reverse, List.mem_cons]
      constructor
      · rintro (h | h | h)
        · exact .inr (.inl h)
        · exact .inl h
        · exact .inr (.inr h)
      · rintro (h | h | h)
        · exact .inr (.inl h)
        · exact .inl h
        · exact .inr (.inr h)
theorem mem_putI {l : List Int} {n x : Int} : x ∈ putI l n ↔ x = n ∨ x ∈ l := by
  unfold putI
  split
  · rename_i h
    have := (hasI_iff l n).1 h
    constructor
    · exact fun h => .inr h
    · rintro (rfl | h)
      · exact this
      · exact h
  · rw [mem_insB]; simp
def Sorted (l : List Int) : Prop := l.Pairwise (· < ·)
theorem sorted_insB (n : Int) : ∀ (r s : List Int), Sorted (r.reverse ++ s) → n ∉ r → (∀ x ∈ s, n < x) → Sorted (insB n r s) := by
  intro r
  induction r with
  | nil =>
    intro s hs _ hb
    rw [insB]
    exact List.pairwise_cons.2 ⟨hb, by unfold Sorted at hs; simpa using hs⟩
  | cons a r ih =>
    intro s hs hn hb
    rw [insB]
    have hs' : Sorted (r.reverse ++ a :: s) := by simpa using hs
    split
    · rename_i h
      refine ih (a :: s) hs' (fun h => hn (List.mem_cons_of_mem _ h)) fun x hx => ?_
      rcases List.mem_cons.1 hx with rfl | hx
      · exact h
      · exact hb x hx
    · rename_i h
      have han : a < n := by
        have : a ≠ n := fun e => hn (by rw [e]; exact List.mem_cons_self)
        omega
      have h1 : Sorted ((a :: r).reverse ++ s) := hs
      unfold Sorted at h1 ⊢
      rw [List.pairwise_append] at h1 ⊢
      obtain ⟨p1, p2, p3⟩ := h1
      refine ⟨p1, List.pairwise_cons.2 ⟨hb, p2⟩, fun x hx y hy => ?_⟩
      have hxa : x ≤ a := by
        rw [List.reverse_cons, List.mem_append] at hx
        rcases hx with hx | hx
        · rw [List.reverse_cons, List.pairwise_append] at p1
          have := p1.2.2 x hx a (by simp)
          omega
        · simp at hx; omega
      rcases List.mem_cons.1 hy with rfl | hy
      · omega
      · exact p3 x hx y hy
theorem sorted_putI {l : List Int} {n : Int} (h : Sorted l) : Sorted (putI l n) := by
  unfold putI
  split
  · exact h
  · rename_i hn
    refine sorted_insB n l.reverse [] (by simpa using h) (fun hm => hn ((hasI_iff l n).2 (by simpa using hm))) (fun x hx => by cases hx)
theorem walk_sub : ∀ (m : Nat) (n : Int) (l : List Int), ∀ x ∈ l, x ∈ walkF f m n l := by
  intro m
  induction m with
  | zero => intro n l x hx; exact hx
  | succ m ih =>
    intro n l x hx
    rw [walkF]
    split
    · exact hx
    · split
      · exact hx
      · rename_i ks _
        have : ∀ (ks : List Int) (l : List Int), x ∈ l → x ∈ ks.foldl (fun l k => walkF f m k l) l := by
          intro ks
          induction ks with
          | nil => intro l h; exact h
          | cons k ks ih2 => intro l h; exact ih2 _ (ih k l x h)
        exact this ks _ (mem_putI.2 (.inr hx))
theorem walk_sorted : ∀ (m : Nat) (n : Int) (l : List Int), Sorted l → Sorted (walkF f m n l) := by
  intro m
  induction m with
  | zero => intro n l h; exact h
  | succ m ih =>
    intro n l h
    rw [walkF]
    split
    · exact h
    · split
      · exact h
      · rename_i ks _
        have : ∀ (ks : List Int) (l : List Int), Sorted l → Sorted (ks.foldl (fun l k => walkF f m k l) l) := by
          intro ks
          induction ks with
          | nil => intro l h; exact h
          | cons k ks ih2 => intro l h; exact ih2 _ (ih k l h)
        exact this ks _ (sorted_putI h)
theorem missing_filter {l l' : List Int} (h : ∀ x ∈ l, x ∈ l') : missing l' = (missing l).filter fun k => !hasI l' k := by
  unfold missing
  rw [List.filter_filter]
  congr 1
  funext k
  cases hb : hasI l k with
  | false => simp
  | true => rw [(hasI_iff l' k).2 (h k ((hasI_iff l k).1 hb))]; rfl
theorem missing_le {l l' : List Int} (h : ∀ x ∈ l, x ∈ l') : (missing l').length ≤ (missing l).length := by
  rw [missing_filter h]
  exact List.length_filter_le _ _
theorem missing_lt {l l' : List Int} {n : Int} (h : ∀ x ∈ l, x ∈ l') (hn : n ∈ secs) (h1 : n ∉ l) (h2 : n ∈ l') : (missing l').length < (missing l).length := by
  have e := missing_filter h
  rw [e]
  have hm : n ∈ missing l := List.mem_filter.2 ⟨hn, by
    cases hb : hasI l n with
    | false => rfl
    | true => exact absurd ((hasI_iff l n).1 hb) h1⟩
  have hle := List.length_filter_le (fun k => !hasI l' k) (missing l)
  have hne : ((missing l).filter fun k => !hasI l' k).length ≠ (missing l).length := by
    intro hc
    have := (List.length_filter_eq_length_iff.1 hc) n hm
    rw [(hasI_iff l' n).2 h2] at this
    cases this
  omega
/-- What is led to from where. -/
inductive Led (r : Int) : Int → Prop
  | root {ks : List Int} (h0 : r ≠ 0) (h : f r = some ks) : Led r r
  | kid {n k : Int} {ks ks' : List Int} (h : Led r n) (hf : f n = some ks) (hk : k ∈ ks) (hf' : f k = some ks') : Led r k
/-- What a walk leaves: what was there, and more that is all led to, and whose kids are there. -/
structure WalkS (n : Int) (l l' : List Int) : Prop where
  sub : ∀ x ∈ l, x ∈ l'
  self : n ≠ 0 → ∀ ks, f n = some ks → n ∈ l'
  led : ∀ x ∈ l', x ∈ l ∨ Led f n x
  kids : ∀ x ∈ l', x ∉ l → ∀ ks, f x = some ks → ∀ k ∈ ks, ∀ ks', f k = some ks' → k ∈ l'
theorem Led.trans {r n x : Int} {ks : List Int} (h : Led f r n) (hf : f n = some ks) {k : Int} (hk : k ∈ ks) (h2 : Led f k x) : Led f r x := by
  induction h2 with
  | root h0 h' => exact .kid h hf hk h'
  | kid _ hf2 hk2 hf3 ih => exact .kid ih hf2 hk2 hf3
theorem walk_ok (hkids : ∀ n ks, f n = some ks → ∀ k ∈ ks, k ∈ secs) : ∀ (m : Nat) (n : Int) (l : List Int), n ∈ secs → (missing l).length ≤ m → WalkS f n l (walkF f m n l) := by
  intro m
  induction m with
  | zero =>
    intro n l hn hm
    have hin : n ∈ l := by
      by_cases h : n ∈ l
      · exact h
      · have : n ∈ missing l := List.mem_filter.2 ⟨hn, by
          cases hb : hasI l n with
          | false => rfl
          | true => exact absurd ((hasI_iff l n).1 hb) h⟩
        have := List.length_pos_of_mem this
        omega
    exact ⟨fun x hx => hx, fun _ _ _ => hin, fun x hx => .inl hx, fun x hx hx' => absurd hx hx'⟩
  | succ m ih =>
    intro n l hn hm
    have hn0 : n ≠ 0 := by have := mem_secs.1 hn; omega
    rw [walkF]
    split
    · rename_i hc
      have hin : n ∈ l := by
        rcases hc with h | h
        · exact absurd h hn0
        · exact (hasI_iff l n).1 h
      exact ⟨fun x hx => hx, fun _ _ _ => hin, fun x hx => .inl hx, fun x hx hx' => absurd hx hx'⟩
    · rename_i hc
      have hnl : n ∉ l := fun h => hc (.inr ((hasI_iff l n).2 h))
      split
      · rename_i hf
        exact ⟨fun x hx => hx, fun _ ks h => (by rw [hf] at h; cases h), fun x hx => .inl hx, fun x hx hx' => absurd hx hx'⟩
      · rename_i ks hf
        have hput : (missing (putI l n)).length ≤ m := by
          have := missing_lt (l := l) (l' := putI l n) (fun x hx => mem_putI.2 (.inr hx)) hn hnl (mem_putI.2 (.inl rfl))
          omega
        have key : ∀ (q : List Int) (l1 : List Int), (∀ k ∈ q, k ∈ ks) → (missing l1).length ≤ m → (∀ x ∈ l1, x ∈ q.foldl (fun l k => walkF f m k l) l1) ∧ (∀ k ∈ q, ∀ ks', f k = some ks' → k ∈ q.foldl (fun l k => walkF f m k l) l1) ∧ (∀ x ∈ q.foldl (fun l k => walkF f m k l) l1, x ∈ l1 ∨ Led f n x) ∧ (∀ x ∈ q.foldl (fun l k => walkF f m k l) l1, x ∉ l1 → ∀ kx, f x = some kx → ∀ k ∈ kx, ∀ ks', f k = some ks' → k ∈ q.foldl (fun l k => walkF f m k l) l1) := by
          intro q
          induction q with
          | nil => intro l1 _ _; exact ⟨fun x h => h, fun k h => (by cases h), fun x h => .inl h, fun x h h' => absurd h h'⟩
          | cons k q ih2 =>
            intro l1 hq hm1
            have hks : k ∈ ks := hq k List.mem_cons_self
            have w := ih k l1 (hkids n ks hf k hks) hm1
            have hm2 : (missing (walkF f m k l1)).length ≤ m := Nat.le_trans (missing_le w.sub) hm1
            obtain ⟨a1, a2, a3, a4⟩ := ih2 (walkF f m k l1) (fun x hx => hq x (List.mem_cons_of_mem _ hx)) hm2
            have hk0 : k ≠ 0 := by have := mem_secs.1 (hkids n ks hf k hks); omega
            refine ⟨fun x hx => a1 x (w.sub x hx), fun x hx ks' hfx => ?_, fun x hx => ?_, fun x hx hx1 kx hfx k2 hk2 ks' hf2 => ?_⟩
            · rcases List.mem_cons.1 hx with rfl | hx
              · exact a1 _ (w.self hk0 ks' hfx)
              · exact a2 x hx ks' hfx
            · rcases a3 x hx with h | h
              · rcases w.led x h with h | h
                · exact .inl h
                · exact .inr (Led.trans f (.root hn0 hf) hf hks h)
              · exact .inr h
            · by_cases hw : x ∈ walkF f m k l1
              · exact a1 _ (w.kids x hw hx1 kx hfx k2 hk2 ks' hf2)
              · exact a4 x hx hw kx hfx k2 hk2 ks' hf2
        obtain ⟨a1, a2, a3, a4⟩ := key ks (putI l n) (fun k h => h) hput
        refine ⟨fun x hx => a1 x (mem_putI.2 (.inr hx)), fun _ _ _ => a1 n (mem_putI.2 (.inl rfl)), fun x hx => ?_, fun x hx hxl kx hfx k hk ks' hf2 => ?_⟩
        · rcases a3 x hx with h | h
          · rcases mem_putI.1 h with rfl | h
            · exact .inr (.root hn0 hf)
            · exact .inl h
          · exact .inr h
        · by_cases hxn : x = n
          · subst hxn
            rw [hf] at hfx
            injection hfx with hfx
            subst hfx
            exact a2 k hk ks' hf2
          · exact a4 x hx (fun h => by rcases mem_putI.1 h with h | h; exact hxn h; exact hxl h) kx hfx k hk ks' hf2
theorem insB_len (n : Int) : ∀ (r s : List Int), (insB n r s).length = r.length + s.length + 1 := by
  intro r
  induction r with
  | nil => intro s; simp [insB]
  | cons a r ih =>
    intro s
    rw [insB]
    split
    · rw [ih]; simp only [List.length_cons]; omega
    · simp; omega
theorem put_len {l : List Int} {n : Int} (hn : n ∈ secs) : (putI l n).length + (missing (putI l n)).length ≤ l.length + (missing l).length := by
  by_cases hm : hasI l n = true
  · have : putI l n = l := by unfold putI; rw [if_pos hm]
    rw [this]; exact Nat.le_refl _
  · have h1 := missing_lt (l := l) (l' := putI l n) (fun x hx => mem_putI.2 (.inr hx)) hn (fun h => hm ((hasI_iff l n).2 h)) (mem_putI.2 (.inl rfl))
    have h2 : (putI l n).length = l.length + 1 := by unfold putI; rw [if_neg hm, insB_len]; simp
    omega
theorem walk_len (hkids : ∀ n ks, f n = some ks → ∀ k ∈ ks, k ∈ secs) : ∀ (m : Nat) (n : Int) (l : List Int), n = 0 ∨ n ∈ secs → (walkF f m n l).length + (missing (walkF f m n l)).length ≤ l.length + (missing l).length := by
  intro m
  induction m with
  | zero => intro n l _; exact Nat.le_refl _
  | succ m ih =>
    intro n l hn
    rw [walkF]
    split
    · exact Nat.le_refl _
    · rename_i hc
      split
      · exact Nat.le_refl _
      · rename_i ks hf
        have : ∀ (q : List Int) (l : List Int), (∀ k ∈ q, k ∈ ks) → (q.foldl (fun l k => walkF f m k l) l).length + (missing (q.foldl (fun l k => walkF f m k l) l)).length ≤ l.length + (missing l).length := by
          intro q
          induction q with
          | nil => intro l _; exact Nat.le_refl _
          | cons k q ih2 =>
            intro l hq
            exact Nat.le_trans (ih2 _ fun x hx => hq x (List.mem_cons_of_mem _ hx)) (ih k l (.inr (hkids n ks hf k (hq k List.mem_cons_self))))
        refine Nat.le_trans (this ks _ fun k h => h) (put_len ?_)
        rcases hn with h | h
        · exact absurd (.inl h) hc
        · exact h
theorem fold_sub (m : Nat) {x : Int} : ∀ (q l : List Int), x ∈ l → x ∈ q.foldl (fun l k => walkF f m k l) l := by
  intro q
  induction q with
  | nil => intro l h; exact h
  | cons k q ih => intro l h; exact ih _ (walk_sub f m k l x h)
theorem fold_len (hkids : ∀ n ks, f n = some ks → ∀ k ∈ ks, k ∈ secs) (m : Nat) : ∀ (q l : List Int), (∀ k ∈ q, k ∈ secs) → (q.foldl (fun l k => walkF f m k l) l).length + (missing (q.foldl (fun l k => walkF f m k l) l)).length ≤ l.length + (missing l).length := by
  intro q
  induction q with
  | nil => intro l _; exact Nat.le_refl _
  | cons k q ih => intro l hq; exact Nat.le_trans (ih _ fun x hx => hq x (List.mem_cons_of_mem _ hx)) (walk_len f hkids m k l (.inr (hq k List.mem_cons_self)))
/-- Those that a root leads to, in order. -/
def pagesF (r : Int) : List Int := walkF f 46 r []
theorem secs_len : secs.length = 46 := by simp [secs]
theorem pagesF_iff (hkids : ∀ n ks, f n = some ks → ∀ k ∈ ks, k ∈ secs) {r : Int} (hr : r = 0 ∨ r ∈ secs) (x : Int) : x ∈ pagesF f r ↔ Led f r x := by
  unfold pagesF
  rcases hr with rfl | hr
  · have e : walkF f 46 0 [] = [] := by rw [walkF, if_pos (.inl rfl)]
    rw [e]
    constructor
    · intro h; cases h
    · intro h
      exfalso
      have : ∀ x, Led f 0 x → False := by
        intro x h
        induction h with
        | root h0 _ => exact h0 rfl
        | kid _ _ _ _ ih => exact ih
      exact this x h
  · have w := walk_ok f hkids 46 r [] hr (by unfold missing; exact Nat.le_trans (List.length_filter_le _ _) (by rw [secs_len]; exact Nat.le_refl _))
    constructor
    · intro h
      rcases w.led x h with h | h
      · cases h
      · exact h
    · intro h
      induction h with
      | root h0 h => exact w.self h0 _ h
      | kid _ hf hk hf' ih => exact w.kids _ ih (fun h => by cases h) _ hf _ hk _ hf'
theorem sorted_ext {l l' : List Int} (h1 : Sorted l) (h2 : Sorted l') (h : ∀ x, x ∈ l ↔ x ∈ l') : l = l' := by
  induction l generalizing l' with
  | nil =>
    cases l' with
    | nil => rfl
    | cons a r => exact absurd ((h a).2 List.mem_cons_self) (by simp)
  | cons a l ih =>
    cases l' with
    | nil => exact absurd ((h a).1 List.mem_cons_self) (by simp)
    | cons b r =>
      obtain ⟨p1, p2⟩ := List.pairwise_cons.1 h1
      obtain ⟨q1, q2⟩ := List.pairwise_cons.1 h2
      have hab : a = b := by
        rcases List.mem_cons.1 ((h a).1 List.mem_cons_self) with e | e
        · exact e
        · rcases List.mem_cons.1 ((h b).2 List.mem_cons_self) with e' | e'
          · exact e'.symm
          · have := p1 b e'; have := q1 a e; omega
      subst hab
      congr 1
      refine ih p2 q2 fun x => ?_
      constructor
      · intro hx
        rcases List.mem_cons.1 ((h x).1 (List.mem_cons_of_mem _ hx)) with e | e
        · subst e; exact absurd (p1 x hx) (by omega)
        · exact e
      · intro hx
        rcases List.mem_cons.1 ((h x).2 (List.mem_cons_of_mem _ hx)) with e | e
        · subst e; exact absurd (q1 x hx) (by omega)
        · exact e
end
end Go.Proofs.YtmfkjlnhanomfaaGreat.Nl
/- What the functions that FnExactNoLeak calls answer: part 11. -/
namespace Go.Proofs.YtmfkjlnhanomfaaGreat.Nl
open Go Go.RowKit Go.Ev
set_option linter.unusedSimpArgs false
set_option linter.unusedVariables false
set_option maxHeartbeats 1600000
def fOf (t : TTxn) (n : Int) : Option (List Int) := if (nodeAt t n).2 = true then some (nodeAt t n).1.fKids else none
theorem nodeDisk_ok {d : TDisk} {n : Int} (h : (nodeDisk d n).2 = true) : nodeOk (nodeDisk d n).1 = true := by
  unfold nodeDisk at h ⊢
  split at h
  · rename_i hc
    rw [if_pos hc]
    unfold getNode nodeEnd at h ⊢
    split at h
    · rename_i hd; rw [if_pos hd]; exact hd.2.2
    · cases h
  · cases h
theorem nodeOk_kids {x : TNode} (h : nodeOk x = true) : ∀ k ∈ x.fKids, k ∈ secs := by
  intro k hk
  unfold nodeOk at h
  rw [Bool.and_eq_true] at h
  have hf := h.2
  unfold nodeFit at hf
  split at hf
  · simp only [Bool.and_eq_true, decide_eq_true_eq] at hf
    have := hf.2.2
    rw [List.length_eq_zero_iff.1 this] at hk
    cases hk
  · simp only [Bool.and_eq_true] at hf
    have := List.all_eq_true.1 hf.1 k hk
    rw [mem_secs]
    unfold inR at this
    simp at this
    omega
theorem fOf_kids {t : TTxn} (ht : t.fNew = []) : ∀ n ks, fOf t n = some ks → ∀ k ∈ ks, k ∈ secs := by
  intro n ks h k hk
  have e : nodeAt t n = nodeDisk t.fD n := by unfold nodeAt; rw [ht]; rfl
  unfold fOf at h
  rw [e] at h
  split at h
  · rename_i hc
    injection h with h
    subst h
    exact nodeOk_kids (nodeDisk_ok hc) k hk
  · cases h
theorem nodeAt_kids {t : TTxn} (ht : t.fNew = []) {n : Int} {x : TNode} {ok : Bool} (h : nodeAt t n = (x, ok)) : ∀ k ∈ x.fKids, k ∈ secs := by
  cases ok with
  | true =>
    intro k hk
    exact fOf_kids ht n x.fKids (by unfold fOf; rw [h]; rfl) k hk
  | false =>
    have e : nodeAt t n = nodeDisk t.fD n := by unfold nodeAt; rw [ht]; rfl
    rw [e] at h
    unfold nodeDisk at h
    split at h
    · have h2 := getNode_no (b := (pageAt t.fD n 1).1) (by rw [h])
      rw [h2] at h
      injection h with h _
      intro k hk
      rw [← h] at hk
      cases hk
    · injection h with h _
      intro k hk
      rw [← h] at hk
      cases hk
theorem body_kids {x : TNode} (h : nodeOk x = true) : x.fKids.length ≤ 240 := by
  unfold nodeOk at h
  simp only [Bool.and_eq_true, decide_eq_true_eq] at h
  obtain ⟨⟨_, hb⟩, hf⟩ := h
  unfold nodeFit at hf
  split at hf
  · simp only [Bool.and_eq_true, decide_eq_true_eq] at hf
    omega
  · rename_i hl
    unfold nodeBody at hb
    rw [if_neg hl] at hb
    have hn : ∀ l : List Int, l.length ≤ (nums l).length := by
      intro l
      induction l with
      | nil => simp [nums]
      | cons k l ih =>
        have h2 : nums (k :: l) = uenc (clampN k) ++ nums l := by simp [nums]
        have := (uenc_len (clampN k) (clampN_le _)).2
        rw [h2, List.length_append, List.length_cons]
        omega
    have := hn x.fKids
    simp only [List.length_append] at hb
    omega
theorem nodeAt_len {t : TTxn} (ht : t.fNew = []) {n : Int} {x : TNode} {ok : Bool} (h : nodeAt t n = (x, ok)) : x.fKids.length ≤ 9223372036854775807 := by
  have e : nodeAt t n = nodeDisk t.fD n := by unfold nodeAt; rw [ht]; rfl
  rw [e] at h
  cases ok with
  | true =>
    have := nodeDisk_ok (d := t.fD) (n := n) (by rw [h])
    rw [h] at this
    have hk : x.fKids.length ≤ 240 := body_kids this
    omega
  | false =>
    unfold nodeDisk at h
    split at h
    · have h2 := getNode_no (b := (pageAt t.fD n 1).1) (by rw [h])
      rw [h2] at h
      injection h with h _
      rw [← h]; decide
    · injection h with h _
      rw [← h]; decide
structure WalkP (m : Nat) (t : TTxn) (n : Int) (l : List Int) : Prop where
  cost : tTxn.cost t ≤ 1048576
  new : t.fNew = []
  sec : n = 0 ∨ n ∈ secs
  miss : (missing l).length ≤ m
  len : l.length + (missing l).length ≤ 1000
def pagesOf (t : TTxn) (r : Int) : List Int := pagesF (fOf t) r
noncomputable def CL_spec_l16Walk (m : Nat) := c3 tTxn intT (sliceT intT) (fun t n l => WalkP m t n l) (fun x => .imm (x.map intT.row)) fun t n l => walkF (fOf t) m n l
theorem CL_spec_l16Walk_eq (m : Nat) {t : TTxn} {n : Int} {l : List Int} (h : WalkP m t n l) : CL_spec_l16Walk m [.agg t.row, .int .i64 n, .imm (l.map intT.row)] = some (.imm ((walkF (fOf t) m n l).map intT.row)) := c3_eq tTxn intT (sliceT intT) h
theorem evq_spec_l16Walk (cs) (h1 : (EE cs).T 29 = some C_spec_l16Has) {t : TTxn} {n : Int} {l : List Int} (hl : l.length ≤ 1000) (hq : n = 0 ∨ hasI l n = true) : ∃ k n', out (EE cs) k n' 38 [.agg t.row, .int .i64 n, .imm (l.map intT.row)] = some (.imm (l.map intT.row)) := by
  refine out_wp (n := 0) (st_spec_l16Walk cs) ?_
  have c1 := C_spec_l16Has_eq l n (by omega)
  by_cases h0 : n = 0
  · have e0 : (n == 0) = true := by simp [h0]
    simp only [go_sem, Nat.reduceBEq, Nat.reduceAdd, s_spec_l16Walk, TTxn.row, e0]
  · have e0 : (n == 0) = false := by simp [h0]
    rw [hq.resolve_left h0] at c1
    simp only [go_sem, Nat.reduceBEq, Nat.reduceAdd, s_spec_l16Walk, TTxn.row, e0, h1, c1]
theorem evr_spec_l16Walk (cs) (m : Nat) (hT : (EE cs).T 38 = some (CL_spec_l16Walk m)) (h1 : (EE cs).T 29 = some C_spec_l16Has) (h2 : (EE cs).T 16 = some C_spec_NodeAt) (h3 : (EE cs).T 66 = some C_spec_l16Put) {t : TTxn} {n : Int} {l : List Int} (w : WalkP (m + 1) t n l) : ∃ k n', out (EE cs) k n' 38 [.agg t.row, .int .i64 n, .imm (l.map intT.row)] = some (.imm ((walkF (fOf t) (m + 1) n l).map intT.row)) := by
  have hl : l.length ≤ 1000 := by have := w.len; omega
  by_cases hq : n = 0 ∨ hasI l n = true
  · rw [walkF, if_pos hq]
    exact evq_spec_l16Walk cs h1 hl hq
  refine out_wp (n := 0) (st_spec_l16Walk cs) ?_
  have c1 := C_spec_l16Has_eq l n (by omega)
  have c2 := C_spec_NodeAt_eq t n w.cost
  have c3 := C_spec_l16Put_eq l n (by omega)
  have hf : fOf t n = if (nodeAt t n).2 = true then some (nodeAt t n).1.fKids else none := rfl
  rw [walkF, if_neg hq, hf]
  have hns : n ∈ secs := by
    rcases w.sec with h | h
    · exact absurd (.inl h) hq
    · exact h
  have hnl : n ∉ l := fun h => hq (.inr ((hasI_iff l n).2 h))
  have e0 : (n == 0) = false := by
    have : n ≠ 0 := fun h => hq (.inl h)
    simp [this]
  have e1 : hasI l n = false := by
    cases hb : hasI l n with
    | false => rfl
    | true => exact absurd (.inr hb) hq
  rw [e1] at c1
  have hkids := fOf_kids w.new
  rcases hx : nodeAt t n with ⟨x, ok⟩
  have hxk := nodeAt_kids w.new hx
  have hxl : x.fKids.length ≤ 9223372036854775807 := nodeAt_len w.new hx
  rw [hx] at c2
  cases ok with
  | false => simp only [go_sem, kSt_ptr, Nat.reduceBEq, Nat.reduceAdd, s_spec_l16Walk, TTxn.row, e0, TNode.row, h1, c1, h2, c2, Bool.false_eq_true]
  | true =>
  have hm1 : (missing (putI l n)).length ≤ m := by
    have := missing_lt (l := l) (l' := putI l n) (fun x hx => mem_putI.2 (.inr hx)) hns hnl (mem_putI.2 (.inl rfl))
    have := w.miss
    omega
  have hl1 := put_len (l := l) hns
  simp only [if_true]
  simp only [go_sem, kSt_ptr, Nat.reduceBEq, Nat.reduceAdd, s_spec_l16Walk, TTxn.row, TNode.row, e0, h1, c1, h2, c2, h3, c3]
  refine (wl_for (l := x.fKids) (fun pre e h => e 2 = .imm ((pre.foldl (fun l k => walkF (fOf t) m k l) (putI l n)).map intT.row) ∧ e 3 = .ptr 0 0 ∧ e 7 = .ptr 1 0 ∧ h.hp 0 = some t.row ∧ h.hp 1 = some x.row ∧ e 9 = .int .i64 pre.length) (.exit 0) (fun e h => e 2 = .imm (((x.fKids).foldl (fun l k => walkF (fOf t) m k l) (putI l n)).map intT.row) ∧ e 3 = .ptr 0 0 ∧ e 7 = .ptr 1 0 ∧ h.hp 0 = some t.row ∧ h.hp 1 = some x.row) (by omega) ?_ ?_ (by simp) x.fKids [] _ _ rfl ?_).mono ?_
  · rintro pre v rest e h a ⟨q0, q1, q2, q3, q4, ix⟩
    have cw := CL_spec_l16Walk_eq m (t := t) (n := v) (l := pre.foldl (fun l k => walkF (fOf t) m k l) (putI l n)) ⟨w.cost, w.new, .inr (hxk v a.mem), Nat.le_trans (missing_le fun x hx => fold_sub (fOf t) m pre _ hx) hm1, Nat.le_trans (fold_len (fOf t) hkids m pre _ fun k hk => hxk k (by rw [a.hl]; simp [hk])) (by have := w.len; omega)⟩
    simp only [TTxn.row] at cw
    simp only [go_sem, Nat.reduceBEq, Nat.reduceAdd, Nat.reduceLeDiff, s_spec_l16Walk_L0, q0, q1, q2, q3, q4, ix, a.dl, a.ia (row := intT.row) (sz := 1) rfl, a.hw, TTxn.row, TNode.row, TTxn.row, TNode.row, intT_row, hT, cw, List.foldl_append, List.foldl_cons, List.foldl_nil]
  · rintro e h ⟨q0, q1, q2, q3, q4, ix⟩
    simp only [go_sem, Nat.reduceBEq, Nat.reduceAdd, Nat.reduceLeDiff, s_spec_l16Walk_L0, q0, q1, q2, q3, q4, ix, TTxn.row, TNode.row]
  · simp only [go_sem, Nat.reduceBEq, TTxn.row, TNode.row, List.foldl_nil]
  · rintro x' e h ⟨rfl, j0, _⟩
    simp only [go_sem, Nat.reduceBEq, j0]
theorem okL_spec_l16Walk {WI : World → Prop} (hs : Stable WI) : ∀ (m : Nat) (cs), TOK (EE cs) WI → (EE cs).T 29 = some C_spec_l16Has → (EE cs).T 16 = some C_spec_NodeAt → (EE cs).T 66 = some C_spec_l16Put → PureOK Tryz.prog WI 38 (CL_spec_l16Walk m)
  | 0, cs, hT, h1, h2, h3 => pure3 (E := EE cs) hT hs (by rw [st_spec_l16Walk]; rfl) fun t n l w => evq_spec_l16Walk cs h1 (by have := w.len; omega) (by
      rcases w.sec with h | h
      · exact .inl h
      · right
        cases hb : hasI l n with
        | true => rfl
        | false =>
          have : n ∈ missing l := List.mem_filter.2 ⟨h, by rw [hb]; rfl⟩
          have := List.length_pos_of_mem this
          have := w.miss
          omega)
  | m + 1, cs, hT, h1, h2, h3 => pure3 (E := EE ((38, CL_spec_l16Walk m) :: cs)) (tok_cons rfl rfl (okL_spec_l16Walk hs m cs hT h1 h2 h3) hT) hs (by rw [st_spec_l16Walk]; rfl) fun t n l w => evr_spec_l16Walk ((38, CL_spec_l16Walk m) :: cs) m rfl h1 h2 h3 w
noncomputable def C_spec_l16Walk := CL_spec_l16Walk 46
theorem C_spec_l16Walk_eq (t : TTxn) (n : Int) (l : List Int) (h : WalkP 46 t n l) : C_spec_l16Walk [.agg t.row, .int .i64 n, .imm (l.map intT.row)] = some (.imm ((walkF (fOf t) 46 n l).map intT.row)) := CL_spec_l16Walk_eq 46 h
theorem ok_spec_l16Walk {WI : World → Prop} (hs : Stable WI) (cs) (hT : TOK (EE cs) WI) (h1 : (EE cs).T 29 = some C_spec_l16Has) (h2 : (EE cs).T 16 = some C_spec_NodeAt) (h3 : (EE cs).T 66 = some C_spec_l16Put) : PureOK Tryz.prog WI 38 C_spec_l16Walk := okL_spec_l16Walk hs 46 cs hT h1 h2 h3
noncomputable def C_spec_PagesOf := c2 tTxn intT (fun (t : TTxn) (r : Int) => tTxn.cost t ≤ 1048576 ∧ t.fNew = [] ∧ (r = 0 ∨ r ∈ secs)) (fun x => .imm (x.map intT.row)) fun (t : TTxn) (r : Int) => pagesOf t r
theorem C_spec_PagesOf_eq (t : TTxn) (r : Int) (h : tTxn.cost t ≤ 1048576 ∧ t.fNew = [] ∧ (r = 0 ∨ r ∈ secs)) : C_spec_PagesOf [.agg [.imm (t.fD.fSecs.map (sliceT u8T).row), .imm (t.fD.fCache.map TWrite.row), .int .i64 t.fD.fOps, .imm (t.fD.fFaults.map TFault.row), .bool t.fD.fDown, .int .i64 t.fM.fGen, .int .i64 t.fM.fRoot, .int .i64 t.fRoot, .imm (t.fNew.map TFresh.row)], .int .i64 r] = some (.imm (((pagesOf t r)).map intT.row)) := c2_eq tTxn intT h
theorem ok_spec_PagesOf {WI : World → Prop} (hs : Stable WI) (cs) (hT : TOK (EE cs) WI) (h1 : (EE cs).T 38 = some C_spec_l16Walk) : PureOK Tryz.prog WI 15 C_spec_PagesOf := by
  refine pure2 (E := EE cs) hT hs (by rw [st_spec_PagesOf]; rfl) fun t r hp => out_wp (n := 0) (st_spec_PagesOf cs) ?_
  obtain ⟨p1, p2, p3⟩ := hp
  have hm : (missing []).length ≤ 46 := by unfold missing; exact Nat.le_trans (List.length_filter_le _ _) (by rw [secs_len]; exact Nat.le_refl _)
  have c1 := C_spec_l16Walk_eq t r [] ⟨p1, p2, p3, hm, by simp only [List.length_nil]; omega⟩
  have f0 : fillR (List.replicate 0 [AV.int IntKind.i64 0]) 1 [] = some [] := rfl
  have f1 : frzRows [] = some [] := rfl
  simp only [TTxn.row, List.map_nil] at c1
  simp only [go_sem, Nat.reduceBEq, Nat.reduceAdd, s_spec_PagesOf, TTxn.row, tTxn_enc, f0, f1, h1, c1, pagesOf, pagesF]
theorem grows_frz {α : Type} {T : TD α} {l : List α} {v : AV} {h : Hp} (hg : grows T l v h) : Ev.frz v = some (.imm (l.map T.row)) := by
  rcases hg with ⟨rfl, rfl⟩ | ⟨id, rfl, _, _⟩ <;> rfl
def takenB (t : TTxn) (n : Int) : Bool := hasI (pagesOf ⟨t.fD, ⟨0, 0⟩, 0, []⟩ t.fM.fRoot) n || t.fNew.any fun f => f.fN == n
def freeK (t : TTxn) (k : Nat) : List Int := ((List.range k).map fun k : Nat => (k : Int) + 2).filter fun n => !takenB t n
def freeOf (t : TTxn) : List Int := freeK t (t.fD.fSecs.length - 2)
theorem freeK_succ (t : TTxn) (k : Nat) : freeK t (k + 1) = freeK t k ++ if takenB t ((k : Int) + 2) = true then [] else [(k : Int) + 2] := by
  unfold freeK
  rw [List.range_succ, List.map_append, List.filter_append]
  congr 1
  cases h : takenB t ((k : Int) + 2) <;> simp [h]
theorem freeK_len (t : TTxn) (k : Nat) : (freeK t k).length ≤ k := by
  unfold freeK
  refine Nat.le_trans (List.length_filter_le _ _) ?_
  simp
theorem pagesOf_disk (d : TDisk) (m m' : TMeta) (r0 r1 r : Int) : pagesOf ⟨d, m, r0, []⟩ r = pagesOf ⟨d, m', r1, []⟩ r := rfl
theorem walkF_len (t : TTxn) (ht : t.fNew = []) (r : Int) (hr : r = 0 ∨ r ∈ secs) : (pagesOf t r).length ≤ 46 := by
  have h := walk_len (fOf t) (fOf_kids ht) 46 r [] hr
  have hm : (missing []).length ≤ 46 := by unfold missing; exact Nat.le_trans (List.length_filter_le _ _) (by rw [secs_len]; exact Nat.le_refl _)
  unfold pagesOf pagesF
  simp only [List.length_nil] at h
  omega
noncomputable def C_spec_FreeOf := c1 tTxn (fun (t : TTxn) => tTxn.cost t ≤ 1048576 ∧ (t.fM.fRoot = 0 ∨ t.fM.fRoot ∈ secs)) (fun x => .imm (x.map intT.row)) fun (t : TTxn) => freeOf t
theorem C_spec_FreeOf_eq (t : TTxn) (h : tTxn.cost t ≤ 1048576 ∧ (t.fM.fRoot = 0 ∨ t.fM.fRoot ∈ secs)) : C_spec_FreeOf [.agg [.imm (t.fD.fSecs.map (sliceT u8T).row), .imm (t.fD.fCache.map TWrite.row), .int .i64 t.fD.fOps, .imm (t.fD.fFaults.map TFault.row), .bool t.fD.fDown, .int .i64 t.fM.fGen, .int .i64 t.fM.fRoot, .int .i64 t.fRoot, .imm (t.fNew.map TFresh.row)]] = some (.imm (((freeOf t)).map intT.row)) := c1_eq tTxn h
theorem ok_spec_FreeOf {WI : World → Prop} (hs : Stable WI) (cs) (hT : TOK (EE cs) WI) (h1 : (EE cs).T 15 = some C_spec_PagesOf) (h2 : (EE cs).T 29 = some C_spec_l16Has) : PureOK Tryz.prog WI 28 C_spec_FreeOf := by
  refine pure1 (E := EE cs) hT hs (by rw [st_spec_FreeOf]; rfl) fun t hp => out_wp (n := 0) (st_spec_FreeOf cs) ?_
  obtain ⟨p1, p2⟩ := hp
  obtain ⟨z1, z2, z3⟩ := txCost p1
  have hsl : t.fD.fSecs.length ≤ 1048576 := by
    have a0 : tDisk.cost t.fD = (sliceT (sliceT u8T)).cost t.fD.fSecs + (sliceT tWrite).cost t.fD.fCache + (sliceT tFault).cost t.fD.fFaults := rfl
    have a1 : (sliceT (sliceT u8T)).cost t.fD.fSecs = t.fD.fSecs.length + costL (sliceT u8T) t.fD.fSecs := rfl
    omega
  have hco : tTxn.cost ⟨t.fD, ⟨0, 0⟩, 0, []⟩ ≤ 1048576 := by
    have h0 : tTxn.cost ⟨t.fD, ⟨0, 0⟩, 0, []⟩ = tDisk.cost t.fD + 0 := rfl
    omega
  have c1 := C_spec_PagesOf_eq ⟨t.fD, ⟨0, 0⟩, 0, []⟩ t.fM.fRoot ⟨hco, rfl, p2⟩
  have hpl := walkF_len ⟨t.fD, ⟨0, 0⟩, 0, []⟩ rfl t.fM.fRoot p2
  simp only [List.map_nil] at c1
  have b1 : sFill [.snil, .snil, .int .i64 0, .snil, .bool false, .int .i64 0, .int .i64 0, .int .i64 0, .snil] [(0, 5, .agg [.imm (t.fD.fSecs.map (sliceT u8T).row), .imm (t.fD.fCache.map TWrite.row), .int .i64 t.fD.fOps, .imm (t.fD.fFaults.map TFault.row), .bool t.fD.fDown])] = some [.imm (t.fD.fSecs.map (sliceT u8T).row), .imm (t.fD.fCache.map TWrite.row), .int .i64 t.fD.fOps, .imm (t.fD.fFaults.map TFault.row), .bool t.fD.fDown, .int .i64 0, .int .i64 0, .int .i64 0, .snil] := rfl
  have f0 : fillR (List.replicate 0 [AV.int IntKind.i64 0]) 1 [] = some [] := rfl
  have f00 : frzRows [] = some [] := rfl
  simp only [go_sem, Nat.reduceBEq, Nat.reduceAdd, Nat.reduceLeDiff, s_spec_FreeOf, TTxn.row, tTxn_enc, b1, h1, c1, f0, f00]
  refine (wl_count (t.fD.fSecs.length - 2) (fun k e h => e 1 = .ptr 0 0 ∧ e 3 = .imm ((pagesOf ⟨t.fD, ⟨0, 0⟩, 0, []⟩ t.fM.fRoot).map intT.row) ∧ e 5 = .int .i64 ((k : Int) + 2) ∧ h.hp 0 = some t.row ∧ grows intT (freeK t k) (e 4) h) (.exit 0) (fun e h => Ev.frz (e 4) = some (.imm ((freeOf t).map intT.row))) ?_ ?_ (by simp) (t.fD.fSecs.length - 2) 0 _ _ (by omega) ?_).mono ?_
  · rintro k e h hk ⟨q1, q3, q5, qh, gx⟩
    have hc : (k : Int) + 2 < (t.fD.fSecs.length : Int) := by omega
    have c2 := C_spec_l16Has_eq (pagesOf ⟨t.fD, ⟨0, 0⟩, 0, []⟩ t.fM.fRoot) ((k : Int) + 2) (by omega)
    obtain ⟨hb, hhb⟩ : ∃ hb, hb = hasI (pagesOf ⟨t.fD, ⟨0, 0⟩, 0, []⟩ t.fM.fRoot) ((k : Int) + 2) := ⟨_, rfl⟩
    rw [← hhb] at c2
    simp only [TTxn.row] at qh
    simp only [go_sem, Nat.reduceBEq, s_spec_FreeOf_L1, q1, q3, q5, qh, hc, h2, c2]
    refine (wl_for (l := t.fNew) (fun pre e h => e 1 = .ptr 0 0 ∧ e 3 = .imm ((pagesOf ⟨t.fD, ⟨0, 0⟩, 0, []⟩ t.fM.fRoot).map intT.row) ∧ e 5 = .int .i64 ((k : Int) + 2) ∧ e 6 = .bool (hb || pre.any fun f => f.fN == (k : Int) + 2) ∧ h.hp 0 = some t.row ∧ grows intT (freeK t k) (e 4) h ∧ e 7 = .int .i64 pre.length) (.exit 2) (fun e h => e 1 = .ptr 0 0 ∧ e 3 = .imm ((pagesOf ⟨t.fD, ⟨0, 0⟩, 0, []⟩ t.fM.fRoot).map intT.row) ∧ e 5 = .int .i64 ((k : Int) + 2) ∧ e 6 = .bool (hb || (t.fNew).any fun f => f.fN == (k : Int) + 2) ∧ h.hp 0 = some t.row ∧ grows intT (freeK t k) (e 4) h) (by omega) ?_ ?_ (by simp) t.fNew [] _ _ rfl ?_).mono ?_
    · rintro pre v rest e h a ⟨q0, q1, q2, q3, q4, q5, ix⟩
      have hany : (hb || (pre ++ [v]).any fun f => f.fN == (k : Int) + 2) = ((hb || pre.any fun f => f.fN == (k : Int) + 2) || (v.fN == (k : Int) + 2)) := by rw [List.any_append]; simp [Bool.or_assoc]
      cases hq : (hb || pre.any fun f => f.fN == (k : Int) + 2) <;> cases hv : (v.fN == (k : Int) + 2) <;> simp only [go_sem, Nat.reduceBEq, Nat.reduceAdd, Nat.reduceLeDiff, s_spec_FreeOf_L0, q0, q1, q2, q3, q4, ix, a.dl, a.ia (row := TFresh.row) (sz := 5) rfl, a.hw, TTxn.row, TFresh.row, TTxn.row, hany, hq, hv, q5]
    · rintro e h ⟨q0, q1, q2, q3, q4, q5, ix⟩
      simp only [go_sem, Nat.reduceBEq, Nat.reduceAdd, Nat.reduceLeDiff, s_spec_FreeOf_L0, q0, q1, q2, q3, q4, q5, ix, TTxn.row]
    · exact ⟨by simp only [go_sem, Nat.reduceBEq, q1], by simp only [go_sem, Nat.reduceBEq, q3], by simp only [go_sem, Nat.reduceBEq, q5], by simp only [go_sem, Nat.reduceBEq, List.any_nil], by simp only [go_sem, TTxn.row, qh], by simp only [go_sem, Nat.reduceBEq, gx], by simp only [go_sem, Nat.reduceBEq]⟩
    · rintro x' e' h' ⟨rfl, j1, j3, j5, j6, jh, jg⟩
      have htk : (hb || t.fNew.any fun f => f.fN == (k : Int) + 2) = takenB t ((k : Int) + 2) := by unfold takenB; rw [hhb]
      rw [htk] at j6
      simp only [TTxn.row] at jh
      have hw : IntKind.wrap .i64 ((k : Int) + 2 + 1) = ((k + 1 : Nat) : Int) + 2 := by rw [wrapId (by omega) (by omega)]; omega
      have hsu := freeK_succ t k
      have hfl := freeK_len t k
      cases htb : takenB t ((k : Int) + 2) with
      | true =>
        rw [htb] at j6 hsu
        simp only [if_true, List.append_nil] at hsu
        simp only [go_sem, Nat.reduceBEq, j1, j3, j5, j6, jh, hw]
        exact ⟨by simp only [TTxn.row], by rw [hsu]; exact jg⟩
      | false =>
        rw [htb] at j6 hsu
        simp only [Bool.false_eq_true, if_false] at hsu
        have f1 : fillR (List.replicate 1 [AV.int IntKind.i64 0]) 1 [(0, .int .i64 ((k : Int) + 2))] = some [[.int .i64 ((k : Int) + 2)]] := rfl
        have f2 : frzRows [[AV.int IntKind.i64 ((k : Int) + 2)]] = some [[.int .i64 ((k : Int) + 2)]] := rfl
        simp only [go_sem, Nat.reduceBEq, j1, j3, j5, j6, jh, f1, f2]
        refine hP_grow [(k : Int) + 2] rfl (jg.mono (by simp only []; omega) fun r hr => by have n3 : ¬ r = h'.nx := (by omega); simp [n3]) rfl (by simp only [List.length_cons, List.length_nil]; unfold room; omega) ?_
        intro v' h'' g1 g2 g3 g4
        have i0 : h''.hp 0 = _ := (congrFun g2 0).trans jh
        simp only [go_sem, Nat.reduceBEq, j1, j3, j5, i0, hw]
        exact ⟨by simp only [TTxn.row], by rw [hsu]; exact g1⟩
  · rintro e h ⟨q1, q3, q5, qh, gx⟩
    have hc : ¬ ((t.fD.fSecs.length - 2 : Nat) : Int) + 2 < (t.fD.fSecs.length : Int) := by omega
    simp only [TTxn.row] at qh
    simp only [go_sem, Nat.reduceBEq, s_spec_FreeOf_L1, q1, q3, q5, qh, hc]
    exact grows_frz gx
  · refine ⟨by simp only [go_sem, Nat.reduceBEq], by simp only [go_sem, Nat.reduceBEq], by simp only [go_sem, Nat.reduceBEq]; rfl, by simp only [go_sem, TTxn.row], .inr ⟨_, rfl, ?_, ?_⟩⟩
    · simp
      exact ⟨rfl, rfl⟩
    · simp
  · rintro x e h ⟨rfl, j⟩
    simp only [go_sem, Nat.reduceBEq]
    exact frzE_of j
end Go.Proofs.YtmfkjlnhanomfaaGreat.Nl
/- What the functions that FnExactNoLeak calls answer: part 12. -/
namespace Go.Proofs.YtmfkjlnhanomfaaGreat.Nl
open Go Go.RowKit Go.Ev
set_option linter.unusedSimpArgs false
set_option linter.unusedVariables false
set_option maxHeartbeats 1600000
theorem getMeta_ok {b : List UInt8} (h : (getMeta b).2 = true) : metaOk (getMeta b).1 = true := by
  unfold getMeta metaOf at h ⊢
  split at h
  · rename_i hc
    rw [if_pos hc]
    exact hc.2.2.2.2.2
  · cases h
theorem accK_ok (d : TDisk) : ∀ k, (accK d k).2 = true → metaOk (accK d k).1 = true := by
  intro k
  induction k with
  | zero => intro h; cases h
  | succ k ih =>
    rw [accK_succ]
    unfold metaStep
    split
    · rename_i hc
      intro _
      exact getMeta_ok hc.1
    · exact ih
theorem txNew_root (d : TDisk) : (txNew d).fM.fRoot = 0 ∨ (txNew d).fM.fRoot ∈ secs := by
  unfold txNew
  split
  · rename_i h
    have := accK_ok d 2 h
    rcases (metaOk_rng this).2.2 with h | h
    · exact .inl h
    · exact .inr (mem_secs.2 h)
  · exact .inl rfl
theorem txNew_new (d : TDisk) : (txNew d).fNew = [] := by unfold txNew; split <;> rfl
theorem txNew_same (d : TDisk) : (txNew d).fRoot = (txNew d).fM.fRoot := by unfold txNew; split <;> rfl
theorem txNew_cost {d : TDisk} (h : tDisk.cost d ≤ 1048576) : tTxn.cost (txNew d) ≤ 1048576 := by
  unfold txNew
  split
  · have e : tTxn.cost ⟨d, (bestMeta d).1, (bestMeta d).1.fRoot, []⟩ = tDisk.cost d + 0 := rfl
    omega
  · decide
theorem range_at {n : Nat} {pre rest : List Nat} {v : Nat} (h : List.range n = pre ++ v :: rest) : v = pre.length := by
  have h1 : (List.range n)[pre.length]? = some v := by rw [h]; simp
  rw [List.getElem?_eq_some_iff] at h1
  obtain ⟨h2, h3⟩ := h1
  simpa using h3.symm
def leakP (d : TDisk) (k : Nat) : Bool := !(hasI (pagesOf (txNew d) (txNew d).fRoot) ((k : Int) + 2) == hasI (freeOf (txNew d)) ((k : Int) + 2))
def noLeak (d : TDisk) : Bool := (List.range (d.fSecs.length - 2)).all fun k => leakP d k
noncomputable def C_spec_NoLeak := c1 tEng (fun (x : TEng) => tEng.good x) (.bool) fun (x : TEng) => noLeak x.fD
theorem C_spec_NoLeak_eq (x : TEng) (h : tEng.good x) : C_spec_NoLeak [.agg [.imm (x.fS.map TDef.row), .imm (x.fD.fSecs.map (sliceT u8T).row), .imm (x.fD.fCache.map TWrite.row), .int .i64 x.fD.fOps, .imm (x.fD.fFaults.map TFault.row), .bool x.fD.fDown]] = some (.bool ((noLeak x.fD))) := c1_eq tEng h
theorem ok_spec_NoLeak {WI : World → Prop} (hs : Stable WI) (cs) (hT : TOK (EE cs) WI) (h1 : (EE cs).T 14 = some C_spec_TxNew) (h2 : (EE cs).T 15 = some C_spec_PagesOf) (h3 : (EE cs).T 28 = some C_spec_FreeOf) (h4 : (EE cs).T 29 = some C_spec_l16Has) : PureOK Tryz.prog WI 10 C_spec_NoLeak := by
  refine pure1 (E := EE cs) hT hs (by rw [st_spec_NoLeak]; rfl) fun x hp => out_wp (n := 0) (st_spec_NoLeak cs) ?_
  have hd : tDisk.cost x.fD ≤ 1048576 := by
    have h0 := hp.1
    have e0 : tEng.cost x = (sliceT tDef).cost x.fS + tDisk.cost x.fD := rfl
    omega
  have hsl : x.fD.fSecs.length ≤ 1048576 := by
    have a0 : tDisk.cost x.fD = (sliceT (sliceT u8T)).cost x.fD.fSecs + (sliceT tWrite).cost x.fD.fCache + (sliceT tFault).cost x.fD.fFaults := rfl
    have a1 : (sliceT (sliceT u8T)).cost x.fD.fSecs = x.fD.fSecs.length + costL (sliceT u8T) x.fD.fSecs := rfl
    omega
  have c1 := C_spec_TxNew_eq x.fD hd
  have ht := txNew_cost hd
  have hr := txNew_root x.fD
  have hr2 : (txNew x.fD).fRoot = 0 ∨ (txNew x.fD).fRoot ∈ secs := by rw [txNew_same]; exact hr
  have c2 := C_spec_PagesOf_eq (txNew x.fD) (txNew x.fD).fRoot ⟨ht, txNew_new _, hr2⟩
  have c3 := C_spec_FreeOf_eq (txNew x.fD) ⟨ht, hr⟩
  have l2 := walkF_len (txNew x.fD) (txNew_new _) (txNew x.fD).fRoot hr2
  have l3 : (freeOf (txNew x.fD)).length ≤ 1048576 := by
    have e := freeK_len (txNew x.fD) ((txNew x.fD).fD.fSecs.length - 2)
    have e2 : (txNew x.fD).fD.fSecs.length ≤ 1048576 := by
      unfold txNew
      split
      · exact hsl
      · decide
    unfold freeOf
    omega
  have hP : ∀ k, leakP x.fD k = !(hasI (pagesOf (txNew x.fD) (txNew x.fD).fRoot) ((k : Int) + 2) == hasI (freeOf (txNew x.fD)) ((k : Int) + 2)) := fun _ => rfl
  generalize txNew x.fD = t at *
  have b1 : ((false : Bool) == true) = false := rfl
  have b2 : ((true : Bool) == false) = false := rfl
  simp only [go_sem, kSt_ptr, Nat.reduceBEq, Nat.reduceAdd, Nat.reduceLeDiff, s_spec_NoLeak, TEng.row, tEng_enc, TTxn.row, h1, c1, h2, c2, h3, c3]
  refine (wl_all (l := List.range (x.fD.fSecs.length - 2)) (fun _ v => leakP x.fD v) (fun pre e h => e 1 = .ptr 0 0 ∧ e 4 = .imm ((pagesOf t t.fRoot).map intT.row) ∧ e 5 = .imm ((freeOf t).map intT.row) ∧ e 6 = .int .i64 ((pre.length : Int) + 2) ∧ h.hp 0 = some x.row) (.exit 0) (fun e h => True) (fun e h => e 2 = .bool false) (by simp; omega) ?_ ?_ ?_ (by simp) (List.range (x.fD.fSecs.length - 2)) [] _ _ rfl ?_).mono ?_
  · rintro pre v rest e h a hp ⟨q1, q4, q5, q6, qh⟩
    have hv := range_at a.hl
    subst hv
    have hlt := a.lt
    simp only [List.length_range] at hlt
    have hc : (pre.length : Int) + 2 < (x.fD.fSecs.length : Int) := by omega
    have g1 := C_spec_l16Has_eq (pagesOf t t.fRoot) ((pre.length : Int) + 2) (by omega)
    have g2 := C_spec_l16Has_eq (freeOf t) ((pre.length : Int) + 2) l3
    have hw : IntKind.wrap .i64 ((pre.length : Int) + 2 + 1) = (pre.length : Int) + 1 + 2 := by rw [wrapId (by omega) (by omega)]; omega
    have hpl : ((pre ++ [pre.length]).length : Int) = (pre.length : Int) + 1 := by simp
    rw [hP] at hp
    simp only [TEng.row] at qh
    cases d1 : hasI (pagesOf t t.fRoot) ((pre.length : Int) + 2) <;> cases d2 : hasI (freeOf t) ((pre.length : Int) + 2) <;> rw [d1, d2] at hp <;> rw [d1] at g1 <;> rw [d2] at g2 <;> first | (cases hp; done) | (simp only [go_sem, Nat.reduceBEq, Nat.reduceAdd, Nat.reduceLeDiff, s_spec_NoLeak_L0, q1, q4, q5, q6, qh, hc, h4, g1, g2, b1, b2, hw, hpl, TEng.row])
  · rintro pre v rest e h a hp ⟨q1, q4, q5, q6, qh⟩
    have hv := range_at a.hl
    subst hv
    have hlt := a.lt
    simp only [List.length_range] at hlt
    have hc : (pre.length : Int) + 2 < (x.fD.fSecs.length : Int) := by omega
    have g1 := C_spec_l16Has_eq (pagesOf t t.fRoot) ((pre.length : Int) + 2) (by omega)
    have g2 := C_spec_l16Has_eq (freeOf t) ((pre.length : Int) + 2) l3
    rw [hP] at hp
    simp only [TEng.row] at qh
    cases d1 : hasI (pagesOf t t.fRoot) ((pre.length : Int) + 2) <;> cases d2 : hasI (freeOf t) ((pre.length : Int) + 2) <;> rw [d1, d2] at hp <;> rw [d1] at g1 <;> rw [d2] at g2 <;> first | (cases hp; done) | (simp only [go_sem, Nat.reduceBEq, Nat.reduceAdd, Nat.reduceLeDiff, s_spec_NoLeak_L0, q1, q4, q5, q6, qh, hc, h4, g1, g2])
  · rintro e h ⟨q1, q4, q5, q6, qh⟩
    have hc : ¬ (((List.range (x.fD.fSecs.length - 2)).length : Nat) : Int) + 2 < (x.fD.fSecs.length : Int) := by simp only [List.length_range]; omega
    simp only [TEng.row] at qh
    simp only [go_sem, Nat.reduceBEq, Nat.reduceAdd, Nat.reduceLeDiff, s_spec_NoLeak_L0, q1, q4, q6, qh, hc]
  · simp only [go_sem, Nat.reduceBEq, TEng.row]
    first | done | rfl | simp
  · rintro y e h (⟨hpp, rfl, _⟩ | ⟨hpp, rfl, j⟩)
    · rw [allP_all] at hpp
      simp only [go_sem, noLeak, hpp]
    · rw [allP_all] at hpp
      simp only [go_sem, j, noLeak, hpp]
noncomputable def C_impl_hasInt := c2 (sliceT intT) intT (fun (l : List (Int)) (n : Int) => l.length ≤ 1048576) (.bool) fun (l : List (Int)) (n : Int) => hasI l n
theorem C_impl_hasInt_eq (l : List (Int)) (n : Int) (h : l.length ≤ 1048576) : C_impl_hasInt [.imm (l.map intT.row), .int .i64 n] = some (.bool ((hasI l n))) := c2_eq (sliceT intT) intT h
theorem okP_impl_hasInt {WI : World → Prop} (hs : Stable WI) (cs) (hT : TOK (EE cs) WI) : PureOK Tryz.prog WI 31 C_impl_hasInt := by
  refine pure2 (E := EE cs) hT hs (by rw [st_impl_hasInt]; rfl) fun l n hp => out_wp (n := 0) (st_impl_hasInt cs) ?_
  have hlen : l.length ≤ 1048576 := hp
  simp only [go_sem, Nat.reduceBEq, s_impl_hasInt]
  refine (wl_all (l := l) (fun pre v => !(v == n)) (fun pre e h => e 1 = .int .i64 n ∧ e 7 = .imm (l.map intT.row) ∧ e 9 = .int .i64 pre.length ∧ e 8 = .int .i64 (l).length) (.exit 0) (fun e h => e 1 = .int .i64 n ∧ e 7 = .imm (l.map intT.row)) (fun e h => e 4 = .bool true) (by omega) ?_ ?_ ?_ (by simp) l [] _ _ rfl ?_).mono ?_
  · rintro pre v rest e h a hp ⟨q0, q1, ix, nx⟩
    have hq : (v == n) = false := by simpa using hp
    simp only [go_sem, Nat.reduceBEq, s_impl_hasInt_L0, q0, q1, ix, nx, a.dl, a.ia (row := intT.row) (sz := 1) rfl, a.hw, intT_row, hq]
  · rintro pre v rest e h a hp ⟨q0, q1, ix, nx⟩
    have hq : (v == n) = true := by simpa using hp
    simp only [go_sem, Nat.reduceBEq, s_impl_hasInt_L0, q0, q1, ix, nx, a.dl, a.ia (row := intT.row) (sz := 1) rfl, a.hw, intT_row, hq]
  · rintro e h ⟨q0, q1, ix, nx⟩
    simp only [go_sem, Nat.reduceBEq, s_impl_hasInt_L0, q0, q1, ix, nx]
  · simp only [go_sem, Nat.reduceBEq]
  · rintro x e h (⟨hpp, rfl, _⟩ | ⟨hpp, rfl, j⟩)
    · rw [allP_all] at hpp
      simp only [go_sem, hasI, hpp]
    · rw [allP_all] at hpp
      simp only [go_sem, j, hasI, hpp]
theorem ok_impl_hasInt {WI : World → Prop} (hs : Stable WI) (cs) (hT : TOK (EE cs) WI) : ReadOK Tryz.prog WI 31 C_impl_hasInt := ⟨okP_impl_hasInt hs cs hT, fun ts t h => by unfold C_impl_hasInt c2 at h; obtain ⟨a, _, _, rfl⟩ := ct_inv h; rfl⟩
theorem cp_impl_copyBytes (cs) : CpO (EE cs) u8T 79 := cpO_of (bt := 1) rfl (by decide) (st_impl_copyBytes cs)
theorem ev_impl_in (cs) (x a b : Int) : ∃ k n, out (EE cs) k n 85 [.int .i64 x, .int .i64 a, .int .i64 b] = some (.bool (inR x a b)) := by
  refine out_K (n := 0) (st_impl_in cs) ?_
  by_cases h1 : a ≤ x
  · simp only [go_sem, Nat.reduceBEq, s_impl_in, h1, inR]
  · simp only [go_sem, Nat.reduceBEq, s_impl_in, h1, inR]
noncomputable def C_impl_in := ct (fun a : Int × Int × Int => [.int .i64 a.1, .int .i64 a.2.1, .int .i64 a.2.2]) (fun _ => True) .bool fun a => inR a.1 a.2.1 a.2.2
theorem C_impl_in_eq (x a b : Int) : C_impl_in [.int .i64 x, .int .i64 a, .int .i64 b] = some (.bool (inR x a b)) := by
  unfold C_impl_in
  exact ct_eq (a := (x, a, b)) (fun a b h => by
    simp only [List.cons.injEq, AV.int.injEq, and_true, true_and] at h
    exact Prod.ext h.1 (Prod.ext h.2.1 h.2.2)) trivial
theorem ok_impl_in {WI} (hs : Stable WI) (cs) (hT : TOK (EE cs) WI) : PureOK Tryz.prog WI 85 C_impl_in :=
  pure_out hT hs (by rw [st_impl_in]; rfl) fun a _ => ev_impl_in cs a.1 a.2.1 a.2.2
theorem L_impl_ReadSec (cs) {Q : QS} (d : TDisk) (n : Int) (hcl : d.fCache.length ≤ 1048576) (hwb : ∀ w ∈ d.fCache, w.fB.length ≤ 1048576) (r0 : Option (List UInt8)) (hn : r0 = none → ∀ e' h', e' 1 = .int .i64 n → e' 2 = .ptr 0 0 → h'.hp 0 = some d.row → Q (.exit 0) e' h') (hs : ∀ b e' h', r0 = some b → frzT 8 h' (e' 4) = some (.imm (b.map u8T.row)) → e' 5 = .bool true → Q .ret e' h') : ∀ (k : Nat), k ≤ d.fCache.length → lastK d.fCache n k = r0 → ∀ (e : Ps) (h : Hp), e 1 = .int .i64 n → e 2 = .ptr 0 0 → h.hp 0 = some d.row → e 6 = .int .i64 ((k : Int) - 1) → WL (EE cs) s_impl_ReadSec_L0 e h Q
  | 0, _, hr, e, h, q1, q2, hh, q6 => by
    have hge : ¬ (0 : Int) ≤ ((0 : Nat) : Int) - 1 := by decide
    refine .step (wp_sound _ _ _ _ ?_)
    simp only [go_sem, Nat.reduceBEq, s_impl_ReadSec_L0, q6]
    exact hn hr.symm _ _ (by simp only [go_sem, Nat.reduceBEq, q1]) (by simp only [go_sem, Nat.reduceBEq, q2]) hh
  | k + 1, hk, hr, e, h, q1, q2, hh, q6 => by
    have hge : (0 : Int) ≤ ((k + 1 : Nat) : Int) - 1 := by omega
    have hki : ((k + 1 : Nat) : Int) - 1 = (k : Int) := by omega
    rw [hki] at q6 hge
    obtain ⟨w, hw0⟩ : ∃ w, d.fCache[k]? = some w := ⟨_, List.getElem?_eq_getElem (by omega)⟩
    have ia := fun h => kIa_nth (h := h) (row := TWrite.row) (sz := 2) (l := d.fCache) (v := w) (i := (k : Int)) (by omega) (by simpa using hw0) rfl
    have hwl := hwb w (List.mem_of_getElem? hw0)
    rw [show d.row = [.imm (d.fSecs.map (sliceT u8T).row), .imm (d.fCache.map TWrite.row), .int .i64 d.fOps, .imm (d.fFaults.map TFault.row), .bool d.fDown] from rfl] at hh
    rw [lastK, hw0] at hr
    simp only at hr
    refine .step (wp_sound _ _ _ _ ?_)
    by_cases hn' : w.fN = n
    · rw [if_pos hn'] at hr
      have hw : (w.fN == n) = true := by rw [hn']; simp
      subst hr
      simp only [go_sem, Nat.reduceBEq, Nat.reduceAdd, Nat.reduceLeDiff, s_impl_ReadSec_L0, q1, q2, q6, hh, hge, ia, TWrite.row, hw]
      refine hP_cpO w.fB (cp_impl_copyBytes cs) hwl rfl ?_
      intro v' h' o n1 f1 a1
      simp only [go_sem, Nat.reduceBEq]
      exact hs _ _ _ rfl (by simp only [go_sem, Nat.reduceBEq]; exact o.owI.frz (by decide)) (by simp only [go_sem, Nat.reduceBEq])
    · rw [if_neg hn'] at hr
      have hw : (w.fN == n) = false := by simpa using hn'
      have hw1 : IntKind.wrap .i64 ((k : Int) - 1) = (k : Int) - 1 := wrapId (by omega) (by omega)
      simp only [go_sem, Nat.reduceBEq, Nat.reduceAdd, Nat.reduceLeDiff, s_impl_ReadSec_L0, q1, q2, q6, hh, hge, ia, TWrite.row, hw, hw1]
      exact L_impl_ReadSec cs d n hcl hwb r0 hn hs k (by omega) hr _ _ (by simp only [go_sem, Nat.reduceBEq, q1]) (by simp only [go_sem, Nat.reduceBEq, q2]) hh (by simp only [go_sem, Nat.reduceBEq])
noncomputable def C_impl_ReadSec := c2 tDisk intT (fun (d : TDisk) (n : Int) => tDisk.cost d ≤ 1048576) (fun x => .tup [.imm (x.1.map u8T.row), .bool x.2]) fun (d : TDisk) (n : Int) => readSec d n
theorem C_impl_ReadSec_eq (d : TDisk) (n : Int) (h : tDisk.cost d ≤ 1048576) : C_impl_ReadSec [.agg [.imm (d.fSecs.map (sliceT u8T).row), .imm (d.fCache.map TWrite.row), .int .i64 d.fOps, .imm (d.fFaults.map TFault.row), .bool d.fDown], .int .i64 n] = some (.tup [.imm (((readSec d n).1).map u8T.row), .bool ((readSec d n).2)]) := c2_eq tDisk intT h
theorem ok_impl_ReadSec {WI : World → Prop} (hs : Stable WI) (cs) (hT : TOK (EE cs) WI) (h1 : (EE cs).T 85 = some C_impl_in) : PureOK Tryz.prog WI 77 C_impl_ReadSec := by
  refine pure2 (E := EE cs) hT hs (by rw [st_impl_ReadSec]; rfl) fun d n hp => out_wp (n := 8) (st_impl_ReadSec cs) ?_
  obtain ⟨n1, n2, n3, n4, n5⟩ := diskCost d hp
  have hw0 : IntKind.wrap .i64 ((d.fSecs.length : Int) - 1) = (d.fSecs.length : Int) - 1 := wrapId (by omega) (by omega)
  have hw2 : IntKind.wrap .i64 ((d.fCache.length : Int) - 1) = (d.fCache.length : Int) - 1 := wrapId (by omega) (by omega)
  have c1 := C_impl_in_eq n 0 ((d.fSecs.length : Int) - 1)
  unfold readSec
  cases hr : inR n 0 ((d.fSecs.length : Int) - 1) with
  | false => simp only [go_sem, Nat.reduceBEq, Nat.reduceAdd, Nat.reduceLeDiff, s_impl_ReadSec, TDisk.row, tDisk_enc, h1, c1, hr, hw0]
  | true =>
  obtain ⟨z1, z2⟩ := inR_nat hr
  obtain ⟨s, hs⟩ : ∃ s, d.fSecs[n.toNat]? = some s := ⟨_, List.getElem?_eq_getElem z2⟩
  have hsl := n4 s (List.mem_of_getElem? hs)
  have iaS := fun h => kIa_nth (h := h) (row := (sliceT u8T).row) (sz := 1) z1 hs rfl
  simp only [go_sem, Nat.reduceBEq, Nat.reduceAdd, Nat.reduceLeDiff, s_impl_ReadSec, TDisk.row, tDisk_enc, h1, c1, hr, hw0, hw2]
  refine L_impl_ReadSec cs d n n2 n5 (lastK d.fCache n d.fCache.length) ?_ ?_ d.fCache.length (Nat.le_refl _) rfl _ _ (by simp only [go_sem, Nat.reduceBEq]) (by simp only [go_sem, Nat.reduceBEq]) (by simp [TDisk.row]) (by simp only [go_sem, Nat.reduceBEq])
  · intro hk e' h' j1 j2 jh
    rw [show d.row = [.imm (d.fSecs.map (sliceT u8T).row), .imm (d.fCache.map TWrite.row), .int .i64 d.fOps, .imm (d.fFaults.map TFault.row), .bool d.fDown] from rfl] at jh
    have hq : (lastK d.fCache n d.fCache.length).getD (d.fSecs[n.toNat]?.getD []) = s := by rw [hk, hs]; rfl
    rw [hq]
    simp only [go_sem, Nat.reduceBEq, j1, j2, jh, iaS]
    refine hP_cpO s (cp_impl_copyBytes cs) hsl rfl ?_
    intro v' h' o n1 f1 a1
    have hf := o.owI.frz (by decide)
    simp only [go_sem, Nat.reduceBEq, hf]
  · intro b e' h' hk hf h5
    have hq : (lastK d.fCache n d.fCache.length).getD (d.fSecs[n.toNat]?.getD []) = b := by rw [hk]; rfl
    rw [hq]
    simp only [go_sem, hf, h5]
end Go.Proofs.YtmfkjlnhanomfaaGreat.Nl
/- What the functions that FnExactNoLeak calls answer: part 13. -/
namespace Go.Proofs.YtmfkjlnhanomfaaGreat.Nl
open Go Go.RowKit Go.Ev
set_option linter.unusedSimpArgs false
set_option linter.unusedVariables false
set_option maxHeartbeats 1600000
noncomputable def C_impl_Crc := c1 (sliceT u8T) (fun (b : List (UInt8)) => b.length ≤ 1048576) ((.int .i64)) fun (b : List (UInt8)) => (crc b : Int)
theorem C_impl_Crc_eq (b : List (UInt8)) (h : b.length ≤ 1048576) : C_impl_Crc [.imm (b.map u8T.row)] = some (.int .i64 (((crc b : Int)))) := c1_eq (sliceT u8T) h
theorem okP_impl_Crc {WI : World → Prop} (hs : Stable WI) (cs) (hT : TOK (EE cs) WI) : PureOK Tryz.prog WI 143 C_impl_Crc := by
  refine pure1 (E := EE cs) hT hs (by rw [st_impl_Crc]; rfl) fun b hp => out_wp (n := 0) (st_impl_Crc cs) ?_
  have hl : b.length ≤ 1048576 := hp
  have bits : ∀ (x0 : Nat) (i : Int) (e : Ps) (h : Hp), x0 < 4294967296 → e 7 = .imm (b.map u8T.row) → e 8 = .int .i64 b.length → e 9 = .int .i64 i → e 3 = .int .u32 (x0 : Int) → e 17 = .int .i64 0 → WL (EE cs) s_impl_Crc_L0 e h fun x e1 _ => x = .exit 2 ∧ e1 7 = .imm (b.map u8T.row) ∧ e1 8 = .int .i64 b.length ∧ e1 9 = .int .i64 i ∧ e1 3 = .int .u32 ((crcBits 8 x0 : Nat) : Int) := by
    intro x0 i e h hx0 h0 h8 h4 h3 h5
    refine wl_count 8 (fun k e _ => e 7 = .imm (b.map u8T.row) ∧ e 8 = .int .i64 b.length ∧ e 9 = .int .i64 i ∧ e 3 = .int .u32 ((crcBits k x0 : Nat) : Int) ∧ e 17 = .int .i64 ((k : Nat) : Int)) (.exit 2) (fun e _ => e 7 = .imm (b.map u8T.row) ∧ e 8 = .int .i64 b.length ∧ e 9 = .int .i64 i ∧ e 3 = .int .u32 ((crcBits 8 x0 : Nat) : Int)) ?_ ?_ (by simp) 8 0 e h rfl ⟨h0, h8, h4, h3, h5⟩
    · rintro k e h hk ⟨q0, q8, q1, q2, q3⟩
      have hk8 : (k : Int) < 8 := by omega
      have hlt : crcBits k x0 < 4294967296 := crcBits_lt k hx0
      have hs := crcBits_succ k x0
      have k1 := kShr1 (k := .u32) (by decide) (crcBits k x0)
      have hd : crcBits k x0 / 2 < 4294967296 := by omega
      by_cases hb : crcBits k x0 % 2 = 1
      · rw [crcBit1 hb] at hs
        have k2 := kXorCu hd
        simp only [go_sem, Nat.reduceBEq, s_impl_Crc_L0, q0, q8, q1, q2, q3, hk8, kAnd1u hlt, k1, kBeq1 hb, k2, w1N (Nat.le_trans (Nat.le_of_lt hk) (by decide)), hs]
      · rw [crcBit0 hb] at hs
        simp only [go_sem, Nat.reduceBEq, s_impl_Crc_L0, q0, q8, q1, q2, q3, hk8, kAnd1u hlt, k1, kBeq0 hb, w1N (Nat.le_trans (Nat.le_of_lt hk) (by decide)), hs]
    · rintro e h ⟨q0, q8, q1, q2, q3⟩
      simp only [go_sem, Nat.reduceBEq, s_impl_Crc_L0, q0, q8, q1, q2, q3, d8]
  simp only [go_sem, Nat.reduceBEq, s_impl_Crc]
  refine (wl_for (l := b) (fun pre e h => e 7 = .imm (b.map u8T.row) ∧ e 3 = .int .u32 ((crcAll 4294967295 pre : Nat) : Int) ∧ e 9 = .int .i64 pre.length ∧ e 8 = .int .i64 (b).length) (.exit 0) (fun e h => e 7 = .imm (b.map u8T.row) ∧ e 3 = .int .u32 ((crcAll 4294967295 (b) : Nat) : Int)) (by omega) ?_ ?_ (by simp) b [] _ _ rfl ?_).mono ?_
  · rintro pre c rest e h a ⟨q0, q1, ix, nx⟩
    have hc : crcAll 4294967295 pre < 4294967296 := crcAll_lt pre (by decide)
    have k2 := fun h => kXor32 hc (u8lt c) h
    simp only [go_sem, Nat.reduceBEq, s_impl_Crc_L1, q0, q1, ix, nx, a.dl, a.ia (row := u8T.row) (sz := 1) rfl, u8T_row, u8u32, k2]
    refine (bits (crcAll 4294967295 pre ^^^ c.toNat) (pre.length : Int) _ _ (Nat.xor_lt_two_pow (n := 32) hc (u8lt c)) (by simp only [go_sem, Nat.reduceBEq, q0]) (by simp only [go_sem, Nat.reduceBEq, nx]) (by simp only [go_sem, Nat.reduceBEq, ix]) (by simp only [go_sem, Nat.reduceBEq]) (by simp only [go_sem, Nat.reduceBEq])).mono ?_
    rintro x e1 h1 ⟨rfl, r0, r8, r4, r3⟩
    simp only [go_sem, Nat.reduceBEq, r0, r8, r4, r3, a.hw, crcAll_snoc]
  · rintro e h ⟨q0, q1, ix, nx⟩
    simp only [go_sem, Nat.reduceBEq, s_impl_Crc_L1, q0, q1, ix, nx]
  · exact ⟨rfl, rfl, rfl, rfl⟩
  · rintro x e h ⟨rfl, j0, j1⟩
    have k2 := fun h => kNotU (crcAll_lt b (x := 4294967295) (by decide)) h
    simp only [go_sem, Nat.reduceBEq, j1, k2, crc]
    have := i64N (crc_lt b)
    unfold crc at this
    simp only [go_sem, this]
theorem ok_impl_Crc {WI : World → Prop} (hs : Stable WI) (cs) (hT : TOK (EE cs) WI) : ReadOK Tryz.prog WI 143 C_impl_Crc := ⟨okP_impl_Crc hs cs hT, fun ts t h => by unfold C_impl_Crc c1 at h; obtain ⟨a, _, _, rfl⟩ := ct_inv h; rfl⟩
theorem u8fill4 (a b c d : Int) : fillR (List.replicate 4 [.int .u8 0]) 1 [(0, .int .u8 a), (1, .int .u8 b), (2, .int .u8 c), (3, .int .u8 d)] = some [[.int .u8 a], [.int .u8 b], [.int .u8 c], [.int .u8 d]] := rfl
theorem ap_impl_addSum (cs) (hc : (EE cs).T 143 = some C_impl_Crc) {l : List UInt8} {v : AV} {h : Hp} {lo hi : Nat} (o : OwS 0 u8T lo hi l v h) (hb : l.length ≤ 1048576) :
    ∃ v' h', RunF (EE cs) 134 [v] h (v', h') ∧ OwS 0 u8T lo h'.nx (withSum l) v' h' ∧ h.Down h' ∧ (∀ q, q < lo → h'.hp q = h.hp q) ∧ h'.ap = h.ap := by
  have c1 := C_impl_Crc_eq l hb
  obtain ⟨⟨v', h'⟩, h1, h2⟩ := run_wp (R := fun r => OwS 0 u8T lo r.2.nx (withSum l) r.1 r.2 ∧ h.Down r.2 ∧ (∀ q, q < lo → r.2.hp q = h.hp q) ∧ r.2.ap = h.ap) (args := [v]) (h := h) (st_impl_addSum cs) (by
    simp only [go_sem, Nat.reduceBEq, s_impl_addSum, hc]
    refine hP_read (mapO1 (o.owI.frz (by decide))) c1 ?_
    simp only [go_sem, Nat.reduceBEq, kShr24, kShr16, kShr8, u8W, u8fill4]
    refine hP_push (sum4 (crc l)) rfl o (by show _ + 4 ≤ _; omega) ?_
    intro v' h' g1 g2 g3 g4
    simp only [go_sem, Nat.reduceBEq]
    exact ⟨fun _ e => (by cases e), v', rfl, g1, g2, g3, g4⟩)
  exact ⟨v', h', h1, h2⟩
noncomputable def C_impl_PutSum := c1 (sliceT u8T) (fun (b : List (UInt8)) => b.length ≤ 1048576) (fun x => .imm (x.map u8T.row)) fun (b : List (UInt8)) => withSum b
theorem C_impl_PutSum_eq (b : List (UInt8)) (h : b.length ≤ 1048576) : C_impl_PutSum [.imm (b.map u8T.row)] = some (.imm (((withSum b)).map u8T.row)) := c1_eq (sliceT u8T) h
theorem ok_impl_PutSum {WI : World → Prop} (hs : Stable WI) (cs) (hT : TOK (EE cs) WI) (h1 : (EE cs).T 143 = some C_impl_Crc) : OwnOK Tryz.prog WI 133 C_impl_PutSum := by
  refine own1 (E := EE cs) hT hs (by rw [st_impl_PutSum]; rfl) fun b hp => outO_wp (st_impl_PutSum cs) ?_
  have hl : b.length ≤ 1048576 := hp
  simp only [go_sem, Nat.reduceBEq, s_impl_PutSum]
  refine hP_cpO b (cp_impl_copyBytes cs) hl rfl ?_
  intro v1 g1 o1 n1 f1 a1
  simp only [go_sem, Nat.reduceBEq]
  obtain ⟨v2, g2, r2, o2, n2, f2, a2⟩ := ap_impl_addSum cs h1 o1 hl
  refine hP_callK r2 n2 ?_
  simp only [go_sem, Nat.reduceBEq]
  exact o2.owI.owE (by decide)
noncomputable def C_impl_GetSum := c1 (sliceT u8T) (fun (b : List (UInt8)) => b.length ≤ 1048576) (fun x => .tup [.imm (x.1.map u8T.row), .bool x.2]) fun (b : List (UInt8)) => getSum b
theorem C_impl_GetSum_eq (b : List (UInt8)) (h : b.length ≤ 1048576) : C_impl_GetSum [.imm (b.map u8T.row)] = some (.tup [.imm (((getSum b).1).map u8T.row), .bool ((getSum b).2)]) := c1_eq (sliceT u8T) h
theorem ok_impl_GetSum {WI : World → Prop} (hs : Stable WI) (cs) (hT : TOK (EE cs) WI) (h1 : (EE cs).T 133 = some C_impl_PutSum) : PureOK Tryz.prog WI 111 C_impl_GetSum := by
  refine pure1 (E := EE cs) hT hs (by rw [st_impl_GetSum]; rfl) fun b hp => out_wp (n := 8) (st_impl_GetSum cs) ?_
  have hl : b.length ≤ 1048576 := hp
  by_cases hs : b.length < 4
  · have hn : (b.length : Int) < 4 := by omega
    rw [getSum_short hs]
    simp only [go_sem, Nat.reduceBEq, s_impl_GetSum, hn]
  have hn : ¬ (b.length : Int) < 4 := by omega
  have hw : IntKind.wrap .i64 ((b.length : Int) - 4) = (b.length : Int) - 4 := wrapId (by omega) (by omega)
  have hsl := kSl_to (row := u8T.row) (l := b) (sz := 1) (b := (b.length : Int) - 4) (by omega) (by omega) (fun _ => rfl)
  rw [show ((b.length : Int) - 4).toNat = b.length - 4 by omega] at hsl
  have ht : (b.take (b.length - 4)).length ≤ 1048576 := by rw [List.length_take]; omega
  have hc := C_impl_PutSum_eq (b.take (b.length - 4)) ht
  simp only [go_sem, Nat.reduceBEq, s_impl_GetSum, hn, hw, hsl]
  refine hP_cpO (b.take (b.length - 4)) (cp_impl_copyBytes cs) ht rfl ?_
  intro v1 g1 o1 n1 f1 a1
  simp only [go_sem, Nat.reduceBEq, h1]
  refine hP_read (mapO1 (o1.owI.frz (by decide))) hc ?_
  by_cases he : withSum (b.take (b.length - 4)) = b
  · rw [getSum_ok hs he]
    have hneq : (withSum (b.take (b.length - 4)) == b) = true := by rw [he]; simp
    have hf := o1.owI.frz (by decide)
    simp only [go_sem, Nat.reduceBEq, nsI, rowsIn_imm, rowsBytes_u8, hneq, hf]
  · rw [getSum_no hs he]
    have hneq : (withSum (b.take (b.length - 4)) == b) = false := by simpa using he
    simp only [go_sem, Nat.reduceBEq, nsI, rowsIn_imm, rowsBytes_u8, hneq]
theorem L_impl_GetU (cs) (b : List UInt8) (hb : b.length ≤ 1048576) (i : Int) (h0 : 0 ≤ i) (h : Hp) {Q : QS} (r0 : Option (Nat × List UInt8)) (hn0 : r0 = none → (∀ e', Q (.exit 0) e' h) ∧ ∀ e', e' 4 = .int .i64 0 → e' 5 = .int .i64 0 → e' 6 = .bool false → Q .ret e' h)
    (hs0 : ∀ n' r, r0 = some (n', r) → ∀ e', e' 4 = .int .i64 (n' : Int) → e' 5 = .int .i64 ((b.length : Int) - r.length) → e' 6 = .bool true → Q .ret e' h) : ∀ (m k n : Nat) (p bs : List UInt8) (e : Ps), m + k = 3 → n < 128 ^ k → b = p ++ bs → i + k = p.length → e 0 = .imm (b.map u8T.row) → e 1 = .int .i64 i → e 7 = .int .i64 (n : Int) → e 8 = .int .i64 (k : Int) → uread m k n bs = r0 → WL (EE cs) s_impl_GetU_L0 e h Q := by
  intro m
  induction m with
  | zero =>
    intro k n p bs e hk hn hl hi e0 e1 e7 e8 hr
    have hk3 : ¬ (k : Int) < 3 := by omega
    refine .step (wp_sound _ _ _ _ ?_)
    simp only [go_sem, Nat.reduceBEq, s_impl_GetU_L0, e8, hk3]
    exact (hn0 hr.symm).1 _
  | succ m ih =>
    intro k n p bs e hk hn hl hi e0 e1 e7 e8 hr
    have hk3 : (k : Int) < 3 := by omega
    have hk2 : k ≤ 2 := by omega
    have hge : (0 : Int) ≤ i := h0
    have hbl : (b.length : Int) = p.length + bs.length := by rw [hl, List.length_append]; omega
    have hw3 : IntKind.wrap .i64 ((b.length : Int) - k) = (b.length : Int) - k := wrapId (by omega) (by omega)
    have hw1 : IntKind.wrap .i64 (i + (k : Int)) = (p.length : Int) := by rw [wrapId (by omega) (by omega)]; omega
    cases bs with
    | nil =>
      simp only [List.length_nil] at hbl
      refine .step (wp_sound _ _ _ _ ?_)
      have hnl : ¬ i < (b.length : Int) - (k : Int) := by omega
      simp only [go_sem, Nat.reduceBEq, s_impl_GetU_L0, e0, e1, e8, hk3, hge, hw3, hnl]
      exact (hn0 (by rw [← hr]; rfl)).1 _
    | cons x r =>
      have hx := UInt8.toNat_lt x
      have hx128 : x.toNat % 128 < 128 := Nat.mod_lt _ (by decide)
      simp only [List.length_cons] at hbl
      have hlt : i < (b.length : Int) := by omega
      have hl1 : (p.length : Int) < (b.length : Int) := by omega
      have hl3 : i < (b.length : Int) - (k : Int) := by omega
      have hia := fun h => kIa_map (h := h) (row := u8T.row) (sz := 1) hl rfl
      have hlim := uread_lt hk2 hx128 hn
      have hw4 : IntKind.wrap .i64 ((n : Int) + ((x.toNat % 128 * 128 ^ k : Nat) : Int)) = ((n + x.toNat % 128 * 128 ^ k : Nat) : Int) := by rw [wrapId (by omega) (by omega)]; omega
      have hw2 := w1N (k := k) (by omega)
      have hw5 : IntKind.wrap .i64 ((p.length : Int) + 1) = (b.length : Int) - r.length := by rw [wrapId (by omega) (by omega)]; omega
      rw [uread] at hr
      by_cases hb8 : 128 ≤ x.toNat
      · rw [if_pos hb8] at hr
        have hb : (128 : Int) ≤ (x.toNat : Int) := by omega
        refine .step (wp_sound _ _ _ _ ?_)
        simp only [go_sem, Nat.reduceBEq, s_impl_GetU_L0, e0, e1, e7, e8, hk3, hge, hw3, hl3, hw1, hia, u8T_row, u8i64, kRem128, w7 hk2, kShl7 hx128 hk2, hw4, hw2, hb]
        exact ih (k + 1) _ (p ++ [x]) r _ (by omega) (pow_lt hx128 hn) (by rw [hl]; simp) (by simp; omega) (by simp only [go_sem, Nat.reduceBEq, e0]) (by simp only [go_sem, Nat.reduceBEq, e1]) (by simp only [go_sem, Nat.reduceBEq]) (by simp only [go_sem, Nat.reduceBEq]) hr
      · rw [if_neg hb8] at hr
        have hb : ¬ (128 : Int) ≤ (x.toNat : Int) := by omega
        by_cases hz : 0 < k ∧ x.toNat = 0
        · rw [if_pos (.inl hz)] at hr
          have hz1 : (0 : Int) < (k : Int) := by omega
          have hz2 : ((x.toNat : Int) == 0) = true := by rw [hz.2]; rfl
          refine .step (wp_sound _ _ _ _ ?_)
          simp only [go_sem, Nat.reduceBEq, s_impl_GetU_L0, e0, e1, e7, e8, hk3, hge, hw3, hl3, hw1, hia, u8T_row, u8i64, kRem128, w7 hk2, kShl7 hx128 hk2, hw4, hw2, hb, hz1, hz2]
          exact (hn0 hr.symm).2 _ (by simp only [go_sem, Nat.reduceBEq]) (by simp only [go_sem, Nat.reduceBEq]) (by simp only [go_sem, Nat.reduceBEq])
        · have hz' : (decide ((0 : Int) < (k : Int)) && ((x.toNat : Int) == 0)) = false := by
            cases h1 : decide ((0 : Int) < (k : Int)) <;> cases h2 : ((x.toNat : Int) == 0) <;> simp at h1 h2 ⊢
            exact hz ⟨by omega, by omega⟩
          by_cases hbig : 1000000 < n + x.toNat % 128 * 128 ^ k
          · rw [if_pos (.inr hbig)] at hr
            have hg : (1000000 : Int) < ((n + x.toNat % 128 * 128 ^ k : Nat) : Int) := by omega
            refine .step (wp_sound _ _ _ _ ?_)
            by_cases hk0 : (0 : Int) < (k : Int)
            · have hx0 : ((x.toNat : Int) == 0) = false := by rw [decide_eq_true hk0, Bool.true_and] at hz'; exact hz'
              simp only [go_sem, Nat.reduceBEq, s_impl_GetU_L0, e0, e1, e7, e8, hk3, hge, hw3, hl3, hw1, hia, u8T_row, u8i64, kRem128, w7 hk2, kShl7 hx128 hk2, hw4, hw2, hb, hx0, hg]
              exact (hn0 hr.symm).2 _ (by simp only [go_sem, Nat.reduceBEq]) (by simp only [go_sem, Nat.reduceBEq]) (by simp only [go_sem, Nat.reduceBEq])
            · cases hx0 : ((x.toNat : Int) == 0)
              · simp only [go_sem, Nat.reduceBEq, s_impl_GetU_L0, e0, e1, e7, e8, hk3, hge, hw3, hl3, hw1, hia, u8T_row, u8i64, kRem128, w7 hk2, kShl7 hx128 hk2, hw4, hw2, hb, hx0, hg]
                exact (hn0 hr.symm).2 _ (by simp only [go_sem, Nat.reduceBEq]) (by simp only [go_sem, Nat.reduceBEq]) (by simp only [go_sem, Nat.reduceBEq])
              · simp only [go_sem, Nat.reduceBEq, s_impl_GetU_L0, e0, e1, e7, e8, hk3, hge, hw3, hl3, hw1, hia, u8T_row, u8i64, kRem128, w7 hk2, kShl7 hx128 hk2, hw4, hw2, hb, hk0, hx0, hg]
                exact (hn0 hr.symm).2 _ (by simp only [go_sem, Nat.reduceBEq]) (by simp only [go_sem, Nat.reduceBEq]) (by simp only [go_sem, Nat.reduceBEq])
          · rw [if_neg (by rintro (h | h); exact hz h; exact hbig h)] at hr
            have hg : ¬ (1000000 : Int) < ((n + x.toNat % 128 * 128 ^ k : Nat) : Int) := by omega
            refine .step (wp_sound _ _ _ _ ?_)
            by_cases hk0 : (0 : Int) < (k : Int)
            · have hx0 : ((x.toNat : Int) == 0) = false := by rw [decide_eq_true hk0, Bool.true_and] at hz'; exact hz'
              simp only [go_sem, Nat.reduceBEq, s_impl_GetU_L0, e0, e1, e7, e8, hk3, hge, hw3, hl3, hw1, hia, u8T_row, u8i64, kRem128, w7 hk2, kShl7 hx128 hk2, hw4, hw2, hb, hx0, hg, hw5]
              exact hs0 _ _ hr.symm _ (by simp only [go_sem, Nat.reduceBEq]) (by simp only [go_sem, Nat.reduceBEq]) (by simp only [go_sem, Nat.reduceBEq])
            · cases hx0 : ((x.toNat : Int) == 0)
              · simp only [go_sem, Nat.reduceBEq, s_impl_GetU_L0, e0, e1, e7, e8, hk3, hge, hw3, hl3, hw1, hia, u8T_row, u8i64, kRem128, w7 hk2, kShl7 hx128 hk2, hw4, hw2, hb, hx0, hg, hw5]
                exact hs0 _ _ hr.symm _ (by simp only [go_sem, Nat.reduceBEq]) (by simp only [go_sem, Nat.reduceBEq]) (by simp only [go_sem, Nat.reduceBEq])
              · simp only [go_sem, Nat.reduceBEq, s_impl_GetU_L0, e0, e1, e7, e8, hk3, hge, hw3, hl3, hw1, hia, u8T_row, u8i64, kRem128, w7 hk2, kShl7 hx128 hk2, hw4, hw2, hb, hk0, hx0, hg, hw5]
                exact hs0 _ _ hr.symm _ (by simp only [go_sem, Nat.reduceBEq]) (by simp only [go_sem, Nat.reduceBEq]) (by simp only [go_sem, Nat.reduceBEq])
noncomputable def C_impl_GetU := c2 (sliceT u8T) intT (fun (b : List (UInt8)) (i : Int) => b.length ≤ 1048576) (fun x => .tup [.int .i64 x.1, .int .i64 x.2.1, .bool x.2.2]) fun (b : List (UInt8)) (i : Int) => getU b i
theorem C_impl_GetU_eq (b : List (UInt8)) (i : Int) (h : b.length ≤ 1048576) : C_impl_GetU [.imm (b.map u8T.row), .int .i64 i] = some (.tup [.int .i64 ((getU b i).1), .int .i64 ((getU b i).2.1), .bool ((getU b i).2.2)]) := c2_eq (sliceT u8T) intT h
theorem ok_impl_GetU {WI : World → Prop} (hs : Stable WI) (cs) (hT : TOK (EE cs) WI) : PureOK Tryz.prog WI 84 C_impl_GetU := by
  refine pure2 (E := EE cs) hT hs (by rw [st_impl_GetU]; rfl) fun b i hp => out_wp (n := 0) (st_impl_GetU cs) ?_
  have hl : b.length ≤ 1048576 := hp
  by_cases h0 : i < 0
  · rw [getU_neg h0]
    simp only [go_sem, s_impl_GetU]
    refine .step (wp_sound _ _ _ _ ?_)
    have hge : ¬ (0 : Int) ≤ i := by omega
    have d3 : decide ((0 : Int) < 3) = true := rfl
    simp only [go_sem, Nat.reduceBEq, Int.reduceLT, s_impl_GetU_L0, hge]
  · simp only [go_sem, s_impl_GetU]
    by_cases hi : i ≤ b.length
    · refine L_impl_GetU cs b hl i (by omega) _ (uget (b.drop i.toNat)) (fun hr => ?_) (fun n r hr => ?_) 3 0 0 (b.take i.toNat) (b.drop i.toNat) _ rfl (by decide) (by rw [List.take_append_drop]) (by rw [List.length_take]; omega) (by simp only [go_sem, Nat.reduceBEq]) (by simp only [go_sem, Nat.reduceBEq]) (by simp only [go_sem, Nat.reduceBEq]) (by simp only [go_sem, Nat.reduceBEq]) rfl
      · rw [getU_none hr]
        exact ⟨fun e' => by simp only [go_sem, Nat.reduceBEq], fun e' q4 q5 q6 => by simp only [go_sem, q4, q5, q6]⟩
      · rw [getU_some h0 hr]
        intro e' q4 q5 q6
        simp only [go_sem, q4, q5, q6]
    · have hd : b.drop i.toNat = [] := List.drop_eq_nil_of_le (by omega)
      rw [getU_none (by rw [hd]; rfl)]
      refine .step (wp_sound _ _ _ _ ?_)
      have hge : (0 : Int) ≤ i := by omega
      have hnl : ¬ i < (b.length : Int) := by omega
      have d3 : decide ((0 : Int) < 3) = true := rfl
      have w0 : IntKind.wrap .i64 ((b.length : Int) - 0) = (b.length : Int) := by rw [wrapId (by omega) (by omega)]; omega
      simp only [go_sem, Nat.reduceBEq, Int.reduceLT, s_impl_GetU_L0, hge, hnl, w0]
end Go.Proofs.YtmfkjlnhanomfaaGreat.Nl
/- What the functions that FnExactNoLeak calls answer: part 14. -/
namespace Go.Proofs.YtmfkjlnhanomfaaGreat.Nl
open Go Go.RowKit Go.Ev
set_option linter.unusedSimpArgs false
set_option linter.unusedVariables false
set_option maxHeartbeats 1600000
noncomputable def C_impl_GetText := c2 (sliceT u8T) intT (fun (b : List (UInt8)) (i : Int) => b.length ≤ 1048576) (fun x => .tup [.str x.1, .int .i64 x.2.1, .bool x.2.2]) fun (b : List (UInt8)) (i : Int) => getText b i
theorem C_impl_GetText_eq (b : List (UInt8)) (i : Int) (h : b.length ≤ 1048576) : C_impl_GetText [.imm (b.map u8T.row), .int .i64 i] = some (.tup [.str ((getText b i).1), .int .i64 ((getText b i).2.1), .bool ((getText b i).2.2)]) := c2_eq (sliceT u8T) intT h
theorem ok_impl_GetText {WI : World → Prop} (hs : Stable WI) (cs) (hT : TOK (EE cs) WI) (h1 : (EE cs).T 84 = some C_impl_GetU) : PureOK Tryz.prog WI 86 C_impl_GetText := by
  refine pure2 (E := EE cs) hT hs (by rw [st_impl_GetText]; rfl) fun b i hp => out_wp (n := 0) (st_impl_GetText cs) ?_
  have hl : b.length ≤ 1048576 := hp
  have c1 := C_impl_GetU_eq b i hl
  have hr := getU_rng b i
  rcases hu : getU b i with ⟨n, j, ok⟩
  rw [hu] at c1 hr
  cases ok with
  | false =>
    rw [getText_no hu]
    simp only [go_sem, Nat.reduceBEq, s_impl_GetText, h1, c1]
  | true =>
    obtain ⟨r0, r1, r2, r3⟩ := hr rfl
    simp only at r0 r1 r2 r3
    have hw : IntKind.wrap .i64 ((b.length : Int) - j) = (b.length : Int) - j := wrapId (by omega) (by omega)
    by_cases hb : (b.length : Int) - j < n
    · rw [getText_big hu hb]
      simp only [go_sem, Nat.reduceBEq, s_impl_GetText, h1, c1, hw, hb]
    · rw [getText_ok hu hb]
      have hw2 : IntKind.wrap .i64 (j + n) = j + n := wrapId (by omega) (by omega)
      have hsl := kSl_mid (row := u8T.row) (l := b) (sz := 1) (a := j) (b := j + n) (by omega) (by omega) (by omega) (fun _ => rfl)
      have he : (b.take (j + n).toNat).drop j.toNat = (b.drop j.toNat).take n.toNat := by rw [List.drop_take]; congr 1; omega
      rw [he] at hsl
      simp only [go_sem, Nat.reduceBEq, s_impl_GetText, h1, c1, hw, hb, hw2, hsl, nsI, rowsIn_imm, rowsBytes_u8]
noncomputable def C_impl_clamp := c3 intT intT intT (fun (n : Int) (lo : Int) (hi : Int) => True) ((.int .i64)) fun (n : Int) (lo : Int) (hi : Int) => clampI n lo hi
theorem C_impl_clamp_eq (n : Int) (lo : Int) (hi : Int) (h : True) : C_impl_clamp [.int .i64 n, .int .i64 lo, .int .i64 hi] = some (.int .i64 ((clampI n lo hi))) := c3_eq intT intT intT h
theorem ok_impl_clamp {WI : World → Prop} (hs : Stable WI) (cs) (hT : TOK (EE cs) WI) : PureOK Tryz.prog WI 114 C_impl_clamp := by
  refine pure3 (E := EE cs) hT hs (by rw [st_impl_clamp]; rfl) fun n lo hi hp => out_wp (n := 0) (st_impl_clamp cs) ?_
  simp only [go_sem, Nat.reduceBEq, s_impl_clamp, clampI]
theorem clampI_N (n : Int) : clampI n 0 1000000 = (clampN n : Int) := by
  unfold clampI clampN
  split <;> split <;> (try split) <;> omega
theorem L_impl_addU (cs) {Q : QS} : ∀ (k m : Nat), m ≤ k → m ≤ 1000000 → ∀ (pre : List UInt8) (e : Ps) (h : Hp) (lo hi : Nat), e 1 = .int .i64 (m : Int) → OwS 0 u8T lo hi pre (e 0) h → pre.length + (uenc m).length ≤ 4194304 →
    (∀ e' h' (pre' : List UInt8) (m' : Nat), m' ≤ 127 → pre' ++ [UInt8.ofNat m'] = pre ++ uenc m → e' 1 = .int .i64 (m' : Int) → OwS 0 u8T lo h'.nx pre' (e' 0) h' → h.Down h' → (∀ q, q < lo → h'.hp q = h.hp q) → h'.ap = h.ap → Q (.exit 0) e' h') → WL (EE cs) s_impl_addU_L0 e h Q := by
  intro k
  induction k with
  | zero =>
    intro m hm _ pre e h lo hi e1 o hb hq
    have : m = 0 := by omega
    subst this
    refine .step (wp_sound _ _ _ _ ?_)
    simp only [go_sem, Nat.reduceBEq, Int.reduceLT, s_impl_addU_L0, e1]
    exact hq _ _ pre 0 (by omega) (by rw [uenc_small (by omega)]) (by simp only [go_sem, Nat.reduceBEq, e1]) (o.wide (Nat.le_refl _) o.le (Nat.le_refl _)) (.refl _) (fun _ _ => rfl) rfl
  | succ k ih =>
    intro m hm hm2 pre e h lo hi e1 o hb hq
    by_cases h1 : m ≤ 127
    · refine .step (wp_sound _ _ _ _ ?_)
      have h2 : ¬ (127 : Int) < (m : Int) := by omega
      simp only [go_sem, Nat.reduceBEq, s_impl_addU_L0, e1, h2]
      exact hq _ _ pre m h1 (by rw [uenc_small h1]) (by simp only [go_sem, Nat.reduceBEq, e1]) (o.wide (Nat.le_refl _) o.le (Nat.le_refl _)) (.refl _) (fun _ _ => rfl) rfl
    · refine .step (wp_sound _ _ _ _ ?_)
      have h2 : (127 : Int) < (m : Int) := by omega
      have k1 : ∀ h, kBin .rem (.int .i64 (m : Int)) (.int .i64 128) h = some (.int .i64 ((m % 128 : Nat) : Int), h) := fun h => by rw [kBin_rem _ _ _ (by decide)]; rfl
      have k2 : ∀ h, kBin .quo (.int .i64 (m : Int)) (.int .i64 128) h = some (.int .i64 ((m / 128 : Nat) : Int), h) := fun h => by
        rw [kBin_quo _ _ _ (by decide), show (m : Int).tdiv 128 = ((m / 128 : Nat) : Int) from rfl, wrapId (by omega) (by omega)]
      have k3 : IntKind.wrap .i64 (((m % 128 : Nat) : Int) + 128) = ((m % 128 + 128 : Nat) : Int) := by rw [wrapId (by omega) (by omega)]; omega
      have hu : (uenc m).length = (uenc (m / 128)).length + 1 := by rw [uenc_big h1]; rfl
      simp only [go_sem, Nat.reduceBEq, s_impl_addU_L0, e1, h2, k1, k3, u8W, u8fill]
      refine hP_push [UInt8.ofNat (m % 128 + 128)] rfl o (by simp only [List.length_cons, List.length_nil]; omega) ?_
      intro v' h' g1 g2 g3 g4
      simp only [go_sem, Nat.reduceBEq, e1, k2]
      refine ih (m / 128) (by omega) (by omega) _ _ h' lo h'.nx (by simp only [go_sem, Nat.reduceBEq]) (by simp only [go_sem, Nat.reduceBEq]; exact g1) (by simp only [List.length_append, List.length_cons, List.length_nil]; omega) ?_
      intro e3 h3 pre' m' j1 j2 j3 j4 j5 j6 j7
      exact hq _ _ pre' m' j1 (by rw [j2, uenc_big h1]; simp) j3 j4 (g2.trans j5) (fun q hq => (j6 q hq).trans (g3 q hq)) (j7.trans g4)
theorem ap_impl_addU (cs) (hc : (EE cs).T 114 = some C_impl_clamp) (n : Int) : AppO (EE cs) 88 [.int .i64 n] (uenc (clampN n)) := appO_of (st_impl_addU cs) fun l v h lo hi o hb => by
  have c1 := C_impl_clamp_eq n 0 1000000 trivial
  rw [clampI_N] at c1
  simp only [go_sem, Nat.reduceBEq, s_impl_addU, hc, c1]
  refine L_impl_addU cs (clampN n) (clampN n) (Nat.le_refl _) (clampN_le n) l _ _ lo hi (by simp only [go_sem, Nat.reduceBEq]) (by simp only [go_sem, Nat.reduceBEq]; exact o) hb ?_
  intro e1 h1 pre' m' j1 j2 j3 j4 j5 j6 j7
  have hl := congrArg List.length j2
  simp only [List.length_append, List.length_cons, List.length_nil] at hl
  simp only [go_sem, Nat.reduceBEq, j3, u8W, u8fill]
  refine hP_push [UInt8.ofNat m'] rfl j4 (by simp only [List.length_cons, List.length_nil]; omega) ?_
  intro v' h' g1 g2 g3 g4
  rw [j2] at g1
  simp only [go_sem, Nat.reduceBEq]
  exact ⟨fun _ e => (by cases e), v', rfl, g1, j5.trans g2, fun q hq => (g3 q hq).trans (j6 q hq), g4.trans j7⟩
theorem ap_impl_addText (cs) (hc : (EE cs).T 114 = some C_impl_clamp) (s : List UInt8) (hs : s.length ≤ 1048576) : AppO (EE cs) 89 [.str s] (utext s) := appO_of (st_impl_addText cs) fun l v h lo hi o hb => by
  unfold utext at hb ⊢
  rw [List.length_append] at hb
  simp only [go_sem, Nat.reduceBEq, s_impl_addText]
  refine hP_appO (ap_impl_addU cs hc s.length) o (by omega) ?_
  intro v1 h1 o1 n1 f1 a1
  simp only [go_sem, Nat.reduceBEq]
  refine hP_pushX s o1 (rowsIn_str _ _) (by rw [List.length_append]; omega) ?_
  intro v2 h2 o2 n2 f2 a2
  rw [List.append_assoc] at o2
  simp only [go_sem, Nat.reduceBEq]
  exact ⟨fun _ e => (by cases e), v2, rfl, o2, n1.trans n2, fun q hq => (f2 q hq).trans (f1 q hq), a2.trans a1⟩
noncomputable def C_impl_PutPage := c2 intT (sliceT u8T) (fun (k : Int) (b : List (UInt8)) => b.length ≤ 1048576) (fun x => .imm (x.map u8T.row)) fun (k : Int) (b : List (UInt8)) => putPage k b
theorem C_impl_PutPage_eq (k : Int) (b : List (UInt8)) (h : b.length ≤ 1048576) : C_impl_PutPage [.int .i64 k, .imm (b.map u8T.row)] = some (.imm (((putPage k b)).map u8T.row)) := c2_eq intT (sliceT u8T) h
theorem ok_impl_PutPage {WI : World → Prop} (hs : Stable WI) (cs) (hT : TOK (EE cs) WI) (h1 : (EE cs).T 85 = some C_impl_in) (h2 : (EE cs).T 114 = some C_impl_clamp) (h3 : (EE cs).T 143 = some C_impl_Crc) : OwnOK Tryz.prog WI 112 C_impl_PutPage := by
  refine own2 (E := EE cs) hT hs (by rw [st_impl_PutPage]; rfl) fun k b hp => outO_wp (st_impl_PutPage cs) ?_
  have hl : b.length ≤ 1048576 := hp
  have c1 := C_impl_in_eq k 1 2
  unfold putPage
  cases hk : inR k 1 2 with
  | false =>
    simp only [go_sem, Nat.reduceBEq, s_impl_PutPage, h1, c1, hk]
    exact OwS.owE0 u8T
  | true =>
  by_cases hb : b.length ≤ 240
  · have hb1 : ¬ (240 : Int) < (b.length : Int) := by omega
    have hu1 := uenc_len (clampN k) (clampN_le _)
    have hu2 := uenc_len (clampN b.length) (clampN_le _)
    have hu3 : (utext b).length = (uenc (clampN b.length)).length + b.length := by unfold utext; rw [List.length_append]
    rw [if_pos ⟨rfl, hb⟩]
    simp only [go_sem, Nat.reduceBEq, s_impl_PutPage, h1, c1, hk, hb1]
    refine hP_appO (ap_impl_addU cs h2 k) (OwS.nil 0 u8T (lo := 0) (hi := 0) (Nat.le_refl _) (Nat.zero_le _)) (by simp only [List.length_nil]; omega) ?_
    intro v1 g1 o1 n1 f1 a1
    rw [List.nil_append] at o1
    simp only [go_sem, Nat.reduceBEq, nsI, asR_imm, rowsBytes_u8]
    refine hP_appO (ap_impl_addText cs h2 b hl) o1 (by omega) ?_
    intro v2 g2 o2 n2 f2 a2
    simp only [go_sem, Nat.reduceBEq]
    obtain ⟨v3, g3, r3, o3, n3, f3, a3⟩ := ap_impl_addSum cs h3 o2 (by rw [List.length_append]; omega)
    refine hP_callK r3 n3 ?_
    simp only [go_sem, Nat.reduceBEq]
    exact o3.owI.owE (by decide)
  · have hb1 : (240 : Int) < (b.length : Int) := by omega
    rw [if_neg (fun h => hb h.2)]
    simp only [go_sem, Nat.reduceBEq, s_impl_PutPage, h1, c1, hk, hb1]
    exact OwS.owE0 u8T
noncomputable def C_impl_GetPage := c1 (sliceT u8T) (fun (b : List (UInt8)) => b.length ≤ 1048576) (fun x => .tup [.int .i64 x.1, .imm (x.2.1.map u8T.row), .bool x.2.2]) fun (b : List (UInt8)) => getPage b
theorem C_impl_GetPage_eq (b : List (UInt8)) (h : b.length ≤ 1048576) : C_impl_GetPage [.imm (b.map u8T.row)] = some (.tup [.int .i64 ((getPage b).1), .imm (((getPage b).2.1).map u8T.row), .bool ((getPage b).2.2)]) := c1_eq (sliceT u8T) h
theorem ok_impl_GetPage {WI : World → Prop} (hs : Stable WI) (cs) (hT : TOK (EE cs) WI) (h1 : (EE cs).T 111 = some C_impl_GetSum) (h2 : (EE cs).T 84 = some C_impl_GetU) (h3 : (EE cs).T 86 = some C_impl_GetText) (h4 : (EE cs).T 112 = some C_impl_PutPage) : PureOK Tryz.prog WI 83 C_impl_GetPage := by
  refine pure1 (E := EE cs) hT hs (by rw [st_impl_GetPage]; rfl) fun b hp => out_wp (n := 0) (st_impl_GetPage cs) ?_
  have hl : b.length ≤ 1048576 := hp
  have c1 := C_impl_GetSum_eq b hl
  unfold getPage
  rcases hs : getSum b with ⟨x, ok⟩
  rw [hs] at c1
  simp only
  have hx : x.length ≤ 1048576 := getSum_len hl hs
  have c2 := C_impl_GetU_eq x 0 hx
  rcases hu : getU x 0 with ⟨k, j, is⟩
  rw [hu] at c2
  have c3 := C_impl_GetText_eq x j hx
  rcases ht : getText x j with ⟨s, nx, good⟩
  rw [ht] at c3
  unfold pageOf
  simp only
  cases ok with
  | false => simp only [go_sem, Nat.reduceBEq, s_impl_GetPage, h1, c1, h2, c2, h3, c3]
  | true =>
  cases is with
  | false => simp only [go_sem, Nat.reduceBEq, s_impl_GetPage, h1, c1, h2, c2, h3, c3, false_and]
  | true =>
  cases good with
  | false => simp only [go_sem, Nat.reduceBEq, s_impl_GetPage, h1, c1, h2, c2, h3, c3, false_and, and_false]
  | true =>
  have hsl : s.length ≤ 1048576 := getText_len hx ht
  rw [if_pos rfl]
  have c4 := C_impl_PutPage_eq k s hsl
  have hi := page_iff hs hu ht
  by_cases hk1 : k < 1
  · have hno : ¬ (nx = x.length ∧ inR k 1 2 = true ∧ s.length ≤ 240) := fun h => (hi.2 h).1 hk1
    rw [if_neg (fun h => hno h.2.2)]
    simp only [go_sem, Nat.reduceBEq, s_impl_GetPage, h1, c1, h2, c2, h3, c3, hk1]
  by_cases hpp : putPage k s = b
  · have hy := hi.1 ⟨hk1, hpp⟩
    have e1 : (putPage k s != b) = false := by simp [hpp]
    have e2 : (putPage k s == b) = true := by simp [hpp]
    rw [if_pos ⟨rfl, rfl, hy⟩]
    simp only [go_sem, Nat.reduceBEq, s_impl_GetPage, h1, c1, h2, c2, h3, c3, hk1, h4, deepC_false, c4, nsI, rowsIn_imm, rowsBytes_u8, e2, mapB]
  · have hno : ¬ (nx = x.length ∧ inR k 1 2 = true ∧ s.length ≤ 240) := fun h => hpp (hi.2 h).2
    have e2 : (putPage k s == b) = false := by simpa using hpp
    rw [if_neg (fun h => hno h.2.2)]
    simp only [go_sem, Nat.reduceBEq, s_impl_GetPage, h1, c1, h2, c2, h3, c3, hk1, h4, deepC_false, c4, nsI, rowsIn_imm, rowsBytes_u8, e2, mapB]
noncomputable def C_impl_isSector := c1 intT (fun (n : Int) => True) (.bool) fun (n : Int) => inR n 2 47
theorem C_impl_isSector_eq (n : Int) (h : True) : C_impl_isSector [.int .i64 n] = some (.bool ((inR n 2 47))) := c1_eq intT h
theorem ok_impl_isSector {WI : World → Prop} (hs : Stable WI) (cs) (hT : TOK (EE cs) WI) (h1 : (EE cs).T 85 = some C_impl_in) : PureOK Tryz.prog WI 135 C_impl_isSector := by
  refine pure1 (E := EE cs) hT hs (by rw [st_impl_isSector]; rfl) fun n hp => out_wp (n := 0) (st_impl_isSector cs) ?_
  have c1 := C_impl_in_eq n 2 47
  simp only [go_sem, Nat.reduceBEq, s_impl_isSector, h1, c1]
noncomputable def C_impl_MetaOk := c1 tMeta (fun (m : TMeta) => True) (.bool) fun (m : TMeta) => metaOk m
theorem C_impl_MetaOk_eq (m : TMeta) (h : True) : C_impl_MetaOk [.agg [.int .i64 m.fGen, .int .i64 m.fRoot]] = some (.bool ((metaOk m))) := c1_eq tMeta h
theorem ok_impl_MetaOk {WI : World → Prop} (hs : Stable WI) (cs) (hT : TOK (EE cs) WI) (h1 : (EE cs).T 85 = some C_impl_in) (h2 : (EE cs).T 135 = some C_impl_isSector) : PureOK Tryz.prog WI 121 C_impl_MetaOk := by
  refine pure1 (E := EE cs) hT hs (by rw [st_impl_MetaOk]; rfl) fun m hp => out_wp (n := 0) (st_impl_MetaOk cs) ?_
  have c1 := C_impl_in_eq m.fGen 0 1000000
  have c2 := C_impl_isSector_eq m.fRoot trivial
  unfold metaOk
  cases e1 : inR m.fGen 0 1000000 with
  | false => simp only [go_sem, Nat.reduceBEq, s_impl_MetaOk, TMeta.row, tMeta_enc, h1, c1, e1]
  | true =>
    cases e2 : (m.fRoot == 0) <;> simp only [go_sem, Nat.reduceBEq, Nat.reduceAdd, Nat.reduceLeDiff, s_impl_MetaOk, TMeta.row, tMeta_enc, h1, c1, e1, e2, h2, c2, Bool.true_or, Bool.false_or]
noncomputable def C_impl_PutMeta := c1 tMeta (fun (m : TMeta) => True) (fun x => .imm (x.map u8T.row)) fun (m : TMeta) => putMeta m
theorem C_impl_PutMeta_eq (m : TMeta) (h : True) : C_impl_PutMeta [.agg [.int .i64 m.fGen, .int .i64 m.fRoot]] = some (.imm (((putMeta m)).map u8T.row)) := c1_eq tMeta h
theorem ok_impl_PutMeta {WI : World → Prop} (hs : Stable WI) (cs) (hT : TOK (EE cs) WI) (h1 : (EE cs).T 121 = some C_impl_MetaOk) (h2 : (EE cs).T 114 = some C_impl_clamp) (h4 : (EE cs).T 112 = some C_impl_PutPage) : OwnOK Tryz.prog WI 108 C_impl_PutMeta := by
  refine own1 (E := EE cs) hT hs (by rw [st_impl_PutMeta]; rfl) fun m hp => outO_wp (st_impl_PutMeta cs) ?_
  have c1 := C_impl_MetaOk_eq m trivial
  have u1 := (uenc_len (clampN m.fGen) (clampN_le _)).1
  have u2 := (uenc_len (clampN m.fRoot) (clampN_le _)).1
  unfold putMeta
  cases hk : metaOk m with
  | false =>
    rw [hk] at c1
    simp only [go_sem, Nat.reduceBEq, Nat.reduceAdd, s_impl_PutMeta, TMeta.row, tMeta_enc, h1, c1, Bool.false_eq_true]
    exact OwS.owE0 u8T
  | true =>
  rw [hk] at c1
  have hb : (metaBody m).length ≤ 6 := by unfold metaBody; rw [List.length_append]; omega
  have c4 := C_impl_PutPage_eq 2 (metaBody m) (by omega)
  rw [if_pos rfl]
  simp only [go_sem, Nat.reduceBEq, Nat.reduceAdd, s_impl_PutMeta, TMeta.row, tMeta_enc, h1, c1]
  refine hP_appO (ap_impl_addU cs h2 m.fGen) (OwS.nil 0 u8T (lo := 1) (hi := 1) (Nat.le_refl _) (by simp)) (by simp only [List.length_nil]; omega) ?_
  intro v1 g1 o1 n1 f1 a1
  rw [List.nil_append] at o1
  have b1 : g1.hp 0 = some [.int .i64 m.fGen, .int .i64 m.fRoot] := (f1 0 (by decide)).trans (by simp)
  simp only [go_sem, Nat.reduceBEq, Nat.reduceAdd, Nat.reduceLeDiff, b1]
  refine hP_appO (ap_impl_addU cs h2 m.fRoot) o1 (by omega) ?_
  intro v2 g2 o2 n2 f2 a2
  simp only [go_sem, Nat.reduceBEq, h4]
  refine hP_own (n := 1) (mapO2 (intT.frzT 8 g2 2) (o2.owI.frz (by decide))) c4 ((sliceT u8T).okT (putPage 2 (metaBody m)) (by decide)) (by decide) ?_
  intro x3 g3 o3 p3 q3 n3
  simp only [go_sem, Nat.reduceBEq]
  exact o3.owE (by decide)
end Go.Proofs.YtmfkjlnhanomfaaGreat.Nl
/- What the functions that FnExactNoLeak calls answer: part 15. -/
namespace Go.Proofs.YtmfkjlnhanomfaaGreat.Nl
open Go Go.RowKit Go.Ev
set_option linter.unusedSimpArgs false
set_option linter.unusedVariables false
set_option maxHeartbeats 1600000
noncomputable def C_impl_GetMeta := c1 (sliceT u8T) (fun (b : List (UInt8)) => b.length ≤ 1048576) (fun x => .tup [.agg (x.1).row, .bool x.2]) fun (b : List (UInt8)) => getMeta b
theorem C_impl_GetMeta_eq (b : List (UInt8)) (h : b.length ≤ 1048576) : C_impl_GetMeta [.imm (b.map u8T.row)] = some (.tup [.agg (((getMeta b).1)).row, .bool ((getMeta b).2)]) := c1_eq (sliceT u8T) h
theorem ok_impl_GetMeta {WI : World → Prop} (hs : Stable WI) (cs) (hT : TOK (EE cs) WI) (h1 : (EE cs).T 83 = some C_impl_GetPage) (h2 : (EE cs).T 84 = some C_impl_GetU) (h4 : (EE cs).T 108 = some C_impl_PutMeta) : PureOK Tryz.prog WI 78 C_impl_GetMeta := by
  refine pure1 (E := EE cs) hT hs (by rw [st_impl_GetMeta]; rfl) fun b hp => out_wp (n := 0) (st_impl_GetMeta cs) ?_
  have c1 := C_impl_GetPage_eq b hp
  unfold getMeta
  rcases hg : getPage b with ⟨k, body, ok⟩
  rw [hg] at c1
  have hl := getPage_len hg
  simp only
  have c2 := C_impl_GetU_eq body 0 (by omega)
  rcases hu : getU body 0 with ⟨g, j, is⟩
  rw [hu] at c2
  simp only
  have c3 := C_impl_GetU_eq body j (by omega)
  rcases hv : getU body j with ⟨r, nx, good⟩
  rw [hv] at c3
  unfold metaOf
  simp only
  have c4 := C_impl_PutMeta_eq ⟨g, r⟩ trivial
  cases ok with
  | false => simp only [go_sem, kSt_ptr, Nat.reduceBEq, Nat.reduceAdd, s_impl_GetMeta, h1, c1, h2, c2, c3, mFill, mFill0, TMeta.row, false_and]
  | true =>
  cases is with
  | false => simp only [go_sem, kSt_ptr, Nat.reduceBEq, Nat.reduceAdd, s_impl_GetMeta, h1, c1, h2, c2, c3, mFill, mFill0, TMeta.row, false_and, and_false]
  | true =>
  cases good with
  | false => simp only [go_sem, kSt_ptr, Nat.reduceBEq, Nat.reduceAdd, s_impl_GetMeta, h1, c1, h2, c2, c3, mFill, mFill0, TMeta.row, false_and, and_false]
  | true =>
  have hi := meta_iff hg hu hv
  by_cases hpp : putMeta ⟨g, r⟩ = b
  · obtain ⟨y1, y2, y3⟩ := hi.1 hpp
    have e2 : (putMeta ⟨g, r⟩ == b) = true := by simp [hpp]
    rw [if_pos ⟨rfl, y1, rfl, rfl, y2, y3⟩]
    simp only [go_sem, kSt_ptr, Nat.reduceBEq, Nat.reduceAdd, s_impl_GetMeta, h1, c1, h2, c2, c3, h4, deepC_false, c4, mFill, mFill0, TMeta.row, nsI, rowsIn_imm, rowsBytes_u8, e2]
  · have e2 : (putMeta ⟨g, r⟩ == b) = false := by simpa using hpp
    rw [if_neg (fun h => hpp (hi.2 ⟨h.2.1, h.2.2.2.2.1, h.2.2.2.2.2⟩))]
    simp only [go_sem, kSt_ptr, Nat.reduceBEq, Nat.reduceAdd, s_impl_GetMeta, h1, c1, h2, c2, c3, h4, deepC_false, c4, mFill, mFill0, TMeta.row, nsI, rowsIn_imm, rowsBytes_u8, e2]
noncomputable def C_impl_BestMeta := c1 tDisk (fun (d : TDisk) => tDisk.cost d ≤ 1048576) (fun x => .tup [.agg (x.1).row, .bool x.2]) fun (d : TDisk) => bestMeta d
theorem C_impl_BestMeta_eq (d : TDisk) (h : tDisk.cost d ≤ 1048576) : C_impl_BestMeta [.agg [.imm (d.fSecs.map (sliceT u8T).row), .imm (d.fCache.map TWrite.row), .int .i64 d.fOps, .imm (d.fFaults.map TFault.row), .bool d.fDown]] = some (.tup [.agg (((bestMeta d).1)).row, .bool ((bestMeta d).2)]) := c1_eq tDisk h
theorem ok_impl_BestMeta {WI : World → Prop} (hs : Stable WI) (cs) (hT : TOK (EE cs) WI) (h1 : (EE cs).T 77 = some C_impl_ReadSec) (h2 : (EE cs).T 78 = some C_impl_GetMeta) : PureOK Tryz.prog WI 46 C_impl_BestMeta := by
  refine pure1 (E := EE cs) hT hs (by rw [st_impl_BestMeta]; rfl) fun d hp => out_wp (n := 0) (st_impl_BestMeta cs) ?_
  have hp' : tDisk.cost d ≤ 1048576 := hp
  simp only [go_sem, Nat.reduceAdd, s_impl_BestMeta, TDisk.row, tDisk_enc]
  refine (wl_count 2 (fun k e h => e 1 = .ptr 0 0 ∧ h.hp 0 = some [.imm (d.fSecs.map (sliceT u8T).row), .imm (d.fCache.map TWrite.row), .int .i64 d.fOps, .imm (d.fFaults.map TFault.row), .bool d.fDown] ∧ e 4 = .ptr 2 0 ∧ h.hp 2 = some [.int .i64 (accK d k).1.fGen, .int .i64 (accK d k).1.fRoot] ∧ e 5 = .bool (accK d k).2 ∧ e 2 = .ptr 1 0 ∧ h.hp 1 = some [.int .i64 0, .int .i64 0] ∧ 3 ≤ h.nx ∧ e 11 = .int .i64 ((k : Nat) : Int)) (.exit 0) (fun e h => e 2 = .ptr 1 0 ∧ h.hp 1 = some [.int .i64 0, .int .i64 0] ∧ e 4 = .ptr 2 0 ∧ h.hp 2 = some [.int .i64 (accK d 2).1.fGen, .int .i64 (accK d 2).1.fRoot] ∧ e 5 = .bool (accK d 2).2) ?_ ?_ (by simp) 2 0 _ _ rfl ?_).mono ?_
  · rintro k e h hk ⟨q1, qd, q4, qp, q5, q2, qr, qn, q6⟩
    have hk2 : ((k : Nat) : Int) < 2 := by omega
    have c1 := C_impl_ReadSec_eq d (k : Int) hp'
    have hl := readSec_len hp' (k : Int)
    have ho := sec_ok (d := d) (i := (k : Int))
    have hs := accK_succ d k
    rcases hr : readSec d (k : Int) with ⟨b, ok⟩
    rw [hr] at c1 hl ho
    simp only at hl ho
    have c2 := C_impl_GetMeta_eq b hl
    rcases hm : getMeta b with ⟨m, is⟩
    rw [hm] at c2 ho
    simp only at ho
    have n0 : ¬ 0 = h.nx := by omega
    have n1 : ¬ 1 = h.nx := by omega
    have n2 : ¬ 2 = h.nx := by omega
    have n3 : 3 ≤ h.nx + 1 := by omega
    have w1 := w1N (k := k) (by omega)
    cases is with
    | false =>
      rw [metaStep_no hr hm (by simp)] at hs
      cases ok <;> simp only [go_sem, kSt_ptr, Nat.reduceBEq, Nat.reduceAdd, s_impl_BestMeta_L0, q1, q2, q4, q5, q6, hk2, qd, qp, qr, h1, c1, h2, c2, TMeta.row, n0, n1, n2, n3, w1, hs]
    | true =>
      have hok := ho rfl
      subst hok
      by_cases hg : m.fGen.tmod 2 = (k : Int)
      · have e1 : (m.fGen.tmod 2 == (k : Int)) = true := by rw [hg]; simp
        cases hf : (accK d k).2 with
        | false =>
          rw [metaStep_yes hr hm hg (.inl hf)] at hs
          simp only [go_sem, kSt_ptr, Nat.reduceBEq, Nat.reduceAdd, s_impl_BestMeta_L0, q1, q2, q4, q5, q6, hk2, qd, qp, qr, h1, c1, h2, c2, TMeta.row, n0, n1, n2, n3, w1, hs, hf, mRem, e1]
        | true =>
          by_cases hc : (accK d k).1.fGen < m.fGen
          · rw [metaStep_yes hr hm hg (.inr hc)] at hs
            simp only [go_sem, kSt_ptr, Nat.reduceBEq, Nat.reduceAdd, s_impl_BestMeta_L0, q1, q2, q4, q5, q6, hk2, qd, qp, qr, h1, c1, h2, c2, TMeta.row, n0, n1, n2, n3, w1, hs, hf, mRem, e1, hc]
          · rw [metaStep_no hr hm (fun h => by rcases h.2.2 with h | h; rw [hf] at h; cases h; exact hc h)] at hs
            simp only [go_sem, kSt_ptr, Nat.reduceBEq, Nat.reduceAdd, s_impl_BestMeta_L0, q1, q2, q4, q5, q6, hk2, qd, qp, qr, h1, c1, h2, c2, TMeta.row, n0, n1, n2, n3, w1, hs, hf, mRem, e1, hc]
      · have e1 : (m.fGen.tmod 2 == (k : Int)) = false := by simpa using hg
        rw [metaStep_no hr hm (fun h => hg h.2.1)] at hs
        simp only [go_sem, kSt_ptr, Nat.reduceBEq, Nat.reduceAdd, s_impl_BestMeta_L0, q1, q2, q4, q5, q6, hk2, qd, qp, qr, h1, c1, h2, c2, TMeta.row, n0, n1, n2, n3, w1, hs, mRem, e1]
  · rintro e h ⟨q1, qd, q4, qp, q5, q2, qr, qn, q6⟩
    simp only [go_sem, Nat.reduceBEq, s_impl_BestMeta_L0, q6, q2, q4, q5, qp, qr, d2]
  · exact ⟨rfl, rfl, rfl, rfl, rfl, rfl, rfl, Nat.le_refl _, rfl⟩
  · rintro x e h ⟨rfl, q2, qr, q4, qp, q5⟩
    simp only [go_sem, kSt_ptr, Nat.reduceBEq, Nat.reduceAdd, q2, qr, q4, qp, q5, bestMeta, TMeta.row]
noncomputable def C_impl_copyDisk := c1 tDisk (fun (d : TDisk) => tDisk.cost d ≤ 1048576) (fun x => .agg (x).row) fun (d : TDisk) => d
theorem C_impl_copyDisk_eq (d : TDisk) (h : tDisk.cost d ≤ 1048576) : C_impl_copyDisk [.agg [.imm (d.fSecs.map (sliceT u8T).row), .imm (d.fCache.map TWrite.row), .int .i64 d.fOps, .imm (d.fFaults.map TFault.row), .bool d.fDown]] = some (.agg (((d))).row) := c1_eq tDisk h
theorem ok_impl_copyDisk {WI : World → Prop} (hs : Stable WI) (cs) (hT : TOK (EE cs) WI) : OwnOK Tryz.prog WI 47 C_impl_copyDisk := by
  refine own1 (E := EE cs) hT hs (by rw [st_impl_copyDisk]; rfl) fun d hp => outO_wp (st_impl_copyDisk cs) ?_
  have hp' : tDisk.cost d ≤ 1048576 := hp
  have hcost : tDisk.cost d = (sliceT (sliceT u8T)).cost d.fSecs + (sliceT tWrite).cost d.fCache + (sliceT tFault).cost d.fFaults := rfl
  have hc1 : (sliceT (sliceT u8T)).cost d.fSecs = d.fSecs.length + costL (sliceT u8T) d.fSecs := rfl
  have hc2 : (sliceT tWrite).cost d.fCache = d.fCache.length + costL tWrite d.fCache := rfl
  have hc3 : (sliceT tFault).cost d.fFaults = d.fFaults.length + costL tFault d.fFaults := rfl
  simp only [go_sem, Nat.reduceBEq, Nat.reduceAdd, s_impl_copyDisk, TDisk.row, tDisk_enc]
  refine (wl_for (l := d.fSecs) (fun pre e h => e 1 = .ptr 0 0 ∧ e 2 = .ptr 1 0 ∧ e 10 = .imm (d.fSecs.map (sliceT u8T).row) ∧ h.hp 0 = some [.imm (d.fSecs.map (sliceT u8T).row), .imm (d.fCache.map TWrite.row), .int .i64 d.fOps, .imm (d.fFaults.map TFault.row), .bool d.fDown] ∧ h.hp 1 = some [.snil, .snil, .int .i64 0, .snil, .bool false] ∧ 2 ≤ h.nx ∧ OwS 1 (sliceT u8T) 2 h.nx pre (e 3) h ∧ e 12 = .int .i64 pre.length ∧ e 11 = .int .i64 (d.fSecs).length) (.exit 0) (fun e h => e 1 = .ptr 0 0 ∧ e 2 = .ptr 1 0 ∧ e 10 = .imm (d.fSecs.map (sliceT u8T).row) ∧ h.hp 0 = some [.imm (d.fSecs.map (sliceT u8T).row), .imm (d.fCache.map TWrite.row), .int .i64 d.fOps, .imm (d.fFaults.map TFault.row), .bool d.fDown] ∧ h.hp 1 = some [.snil, .snil, .int .i64 0, .snil, .bool false] ∧ 2 ≤ h.nx ∧ OwS 1 (sliceT u8T) 2 h.nx (d.fSecs) (e 3) h) (by omega) ?_ ?_ (by simp) d.fSecs [] _ _ rfl ?_).mono ?_
  · rintro pre v rest e h a ⟨q0, q1, q2, q3, q4, q5, q6, ix, nx⟩
    have hvc := costL_mem (sliceT u8T) a.mem
    have hvc2 : (sliceT u8T).cost v = v.length + costL u8T v := rfl
    simp only [go_sem, Nat.reduceBEq, s_impl_copyDisk_L0, q0, q1, q2, q3, q4, q5, ix, nx, a.dl, a.ia (row := (sliceT u8T).row) (sz := 1) rfl, sliceT_row]
    refine hP_cpO v (cp_impl_copyBytes cs) (by omega) rfl ?_
    intro x h1 os1 k3 k1 k2
    obtain ⟨A1, c1, z1⟩ := OwI.slice os1.owI k3
    have f1 : fillR (List.replicate 1 [.snil]) 1 [(0, x)] = some [[x]] := by simp [fillR, z1, c1]
    simp only [go_sem, Nat.reduceBEq, f1]
    refine hP_growA (lo' := h.nx) (hi' := h1.nx) v rfl (q6.mono (by simp only []; omega) fun q _ hq => by have g : ¬ q = h1.nx := (by omega); simp only [g, if_false]; exact k1 q hq) (rowsIn_sl1 (cs := [x]) (by simp) rfl) (A1.mono (by simp only []; omega) fun q _ hq => by have g : ¬ q = h1.nx := (by omega); simp only [g, if_false]) (Nat.le_refl _) (by have := a.lt; unfold room; omega) ?_
    intro v' h' g1 g2 g3 g4
    have g5 : h1.nx + 1 ≤ h'.nx := g2
    have e0 : h'.hp 0 = h.hp 0 := (g3 0 (by omega) (by simp only []; omega)).trans (by have g : ¬ 0 = h1.nx := (by omega); simp only [g, if_false]; exact k1 0 (by omega))
    have e1 : h'.hp 1 = h.hp 1 := (g3 1 (by omega) (by simp only []; omega)).trans (by have g : ¬ 1 = h1.nx := (by omega); simp only [g, if_false]; exact k1 1 (by omega))
    simp only [go_sem, Nat.reduceBEq, q0, q1, q2, e0, e1, q3, q4, ix, nx, a.hw]
    exact ⟨by omega, g1⟩
  · rintro e h ⟨q0, q1, q2, q3, q4, q5, q6, ix, nx⟩
    simp only [go_sem, Nat.reduceBEq, s_impl_copyDisk_L0, q0, q1, q2, q3, q4, q5, q6, ix, nx]
  · exact ⟨rfl, rfl, rfl, rfl, rfl, Nat.le_refl _, OwS.nil _ _ (Nat.le_refl _) (Nat.le_refl _), rfl, rfl⟩
  · rintro x e h ⟨rfl, j0, j1, j2, j3, j4, j5, os⟩
    obtain ⟨H, hH⟩ : ∃ H, H = h.nx := ⟨_, rfl⟩
    rw [← hH] at os
    simp only [go_sem, Nat.reduceBEq, Nat.reduceAdd, Nat.reduceLeDiff, j0, j3]
    refine (wl_for (l := d.fCache) (fun pre e h => e 1 = .ptr 0 0 ∧ e 2 = .ptr 1 0 ∧ e 23 = .imm (d.fCache.map TWrite.row) ∧ h.hp 0 = some [.imm (d.fSecs.map (sliceT u8T).row), .imm (d.fCache.map TWrite.row), .int .i64 d.fOps, .imm (d.fFaults.map TFault.row), .bool d.fDown] ∧ h.hp 1 = some [.snil, .snil, .int .i64 0, .snil, .bool false] ∧ H ≤ h.nx ∧ OwS 1 (sliceT u8T) 2 H d.fSecs (e 3) h ∧ OwS 1 tWrite H h.nx pre (e 6) h ∧ e 25 = .int .i64 pre.length ∧ e 24 = .int .i64 (d.fCache).length) (.exit 2) (fun e h => e 1 = .ptr 0 0 ∧ e 2 = .ptr 1 0 ∧ e 23 = .imm (d.fCache.map TWrite.row) ∧ h.hp 0 = some [.imm (d.fSecs.map (sliceT u8T).row), .imm (d.fCache.map TWrite.row), .int .i64 d.fOps, .imm (d.fFaults.map TFault.row), .bool d.fDown] ∧ h.hp 1 = some [.snil, .snil, .int .i64 0, .snil, .bool false] ∧ H ≤ h.nx ∧ OwS 1 (sliceT u8T) 2 H d.fSecs (e 3) h ∧ OwS 1 tWrite H h.nx (d.fCache) (e 6) h) (by omega) ?_ ?_ (by simp) d.fCache [] _ _ rfl ?_).mono ?_
    · rintro pre v rest e h a ⟨q0, q1, q2, q3, q4, q5, q6, q7, ix, nx⟩
      have hvc := costL_mem tWrite a.mem
      have hvc2 : tWrite.cost v = (sliceT u8T).cost v.fB := rfl
      have hvc3 : (sliceT u8T).cost v.fB = v.fB.length + costL u8T v.fB := rfl
      simp only [go_sem, kSt_ptr, Nat.reduceBEq, Nat.reduceAdd, Nat.reduceLeDiff, s_impl_copyDisk_L1, q0, q1, q2, q3, q4, q5, q6, ix, nx, a.dl, a.ia (row := TWrite.row) (sz := 2) rfl, TWrite.row]
      refine hP_cpO v.fB (cp_impl_copyBytes cs) (by omega) rfl ?_
      intro x h1 os1 k3 k1 k2
      obtain ⟨A1, c1, z1⟩ := OwI.slice os1.owI k3
      have k3' : h.nx + 1 ≤ h1.nx := k3
      have k4 : ∀ q, q < h.nx → h1.hp q = h.hp q := fun q hq => (k1 q (Nat.lt_succ_of_lt hq)).trans (by have g : ¬ q = h.nx := (by omega); simp only [g, if_false])
      have b2 : sFill [.int .i64 0, .snil] [(0, 1, .int .i64 v.fN), (1, 1, x)] = some [.int .i64 v.fN, x] := by simp [sFill, fillAt, z1, c1, cl_int, nc_int]
      have f1 : fillR (List.replicate 1 [.int .i64 0, .snil]) 2 [(0, .agg [.int .i64 v.fN, x])] = some [[.int .i64 v.fN, x]] := by simp [fillR, ag_agg, cl_agg]
      simp only [go_sem, Nat.reduceBEq, Nat.reduceAdd, b2, f1]
      refine hP_growA (lo' := h.nx) (hi' := h1.nx) v rfl (q7.mono (by simp only []; omega) fun q _ hq => by have g : ¬ q = h1.nx := (by omega); simp only [g, if_false]; exact k4 q hq) (rowsIn_sl1 (cs := [.int .i64 v.fN, x]) (by simp) rfl) (((A1.leaf (c := .int .i64 v.fN) rfl).wide (lo' := h.nx) (Nat.le_succ _) (Nat.le_refl _) (Nat.le_refl _)).mono (by simp only []; omega) fun q _ hq => by have g : ¬ q = h1.nx := (by omega); simp only [g, if_false]) (Nat.le_refl _) (by have := a.lt; unfold room; omega) ?_
      intro v' h' g1 g2 g3 g4
      have g5 : h1.nx + 1 ≤ h'.nx := g2
      have e9 : ∀ q, q < H → h'.hp q = h.hp q := fun q hq => (g3 q (by omega) (by simp only []; omega)).trans (by have g : ¬ q = h1.nx := (by omega); simp only [g, if_false]; exact k4 q (by omega))
      have e0 := e9 0 (by omega)
      have e1 := e9 1 (by omega)
      simp only [go_sem, Nat.reduceBEq, q0, q1, q2, e0, e1, q3, q4, ix, nx, a.hw]
      exact ⟨by omega, q6.mono (by omega) fun q _ hq => e9 q hq, g1⟩
    · rintro e h ⟨q0, q1, q2, q3, q4, q5, q6, q7, ix, nx⟩
      simp only [go_sem, Nat.reduceBEq, s_impl_copyDisk_L1, q0, q1, q2, q3, q4, q5, q6, q7, ix, nx]
    · exact ⟨j0, j1, rfl, j3, j4, by omega, os, OwS.nil _ _ (by omega) (Nat.le_refl _), rfl, rfl⟩
    · rintro x e h ⟨rfl, j0, j1, j2, j3, j4, jH, os1, os2⟩
      obtain ⟨As, cs1, zs⟩ := os1.owA
      obtain ⟨Ac, cc1, zc⟩ := os2.owA
      simp only [go_sem, kSt_ptr, Nat.reduceBEq, Nat.reduceAdd, Nat.reduceLeDiff, j0, j3, cs1, zs, cc1, zc]
      refine hP_growL d.fFaults rfl rfl (OwS.nil 0 tFault (lo := h.nx) (hi := h.nx) (Nat.le_refl _) (Nat.le_refl _)) (rowsIn_imm _ _ _) (by simp only [List.length_nil]; unfold room; omega) ?_
      intro v' h' g1 g2 g3 g4
      rw [List.nil_append] at g1
      obtain ⟨Af, cf, zf⟩ := g1.owA
      have g5 : h.nx ≤ h'.nx := g2
      have e9 : ∀ q, 2 ≤ q → q < h.nx → h'.hp q = h.hp q := fun q hq hq2 => (g3 q (.inl hq2) hq2).trans (by have g : ¬ q = 0 := (by omega); simp [g])
      have e0 : h'.hp 0 = some [e 3, e 6, .int .i64 d.fOps, .imm (d.fFaults.map TFault.row), .bool d.fDown] := (g3 0 (by omega) (by simp only []; omega)).trans (by simp)
      have e1 : h'.hp 1 = some [.snil, .snil, .int .i64 0, .snil, .bool false] := (g3 1 (by omega) (by simp only []; omega)).trans (by simp [j4])
      simp only [go_sem, kSt_ptr, Nat.reduceBEq, Nat.reduceAdd, Nat.reduceLeDiff, j0, j1, e0, e1, zs, zc, cf, zf]
      replace As := (As.up (m := 8) (by decide)).mono (h' := h') g5 fun q h1 h2 => e9 q h1 (by omega)
      replace Ac := (Ac.up (m := 8) (by decide)).mono (h' := h') g5 fun q h1 h2 => e9 q (by omega) (by omega)
      replace Af := Af.up (m := 8) (by decide)
      have B : OwA 8 2 h'.nx h' [e 3, e 6, .int .i64 d.fOps, v', .bool d.fDown] d.row := As.cat (Ac.cat (OwA.leaf (Af.cat (OwA.leaf (OwA.nil 8 h'.nx (Nat.le_refl _)) rfl) (Nat.le_refl _)) rfl) (Nat.le_refl _)) (Nat.le_refl _)
      refine OwA.owE (n := 8) (lo := 2) (hi := h'.nx) (B.mono ?_ fun q hq hq2 => ?_) (by decide)
      · simp
      · simp [show q ≠ 0 by omega, show q ≠ 1 by omega]
end Go.Proofs.YtmfkjlnhanomfaaGreat.Nl
/- What the functions that FnExactNoLeak calls answer: part 16. -/
namespace Go.Proofs.YtmfkjlnhanomfaaGreat.Nl
open Go Go.RowKit Go.Ev
set_option linter.unusedSimpArgs false
set_option linter.unusedVariables false
set_option maxHeartbeats 1600000
noncomputable def C_impl_TxNew := c1 tDisk (fun (d : TDisk) => tDisk.cost d ≤ 1048576) (fun x => .agg (x).row) fun (d : TDisk) => txNew d
theorem C_impl_TxNew_eq (d : TDisk) (h : tDisk.cost d ≤ 1048576) : C_impl_TxNew [.agg [.imm (d.fSecs.map (sliceT u8T).row), .imm (d.fCache.map TWrite.row), .int .i64 d.fOps, .imm (d.fFaults.map TFault.row), .bool d.fDown]] = some (.agg (((txNew d))).row) := c1_eq tDisk h
theorem ok_impl_TxNew {WI : World → Prop} (hs : Stable WI) (cs) (hT : TOK (EE cs) WI) (h1 : (EE cs).T 46 = some C_impl_BestMeta) (h2 : (EE cs).T 47 = some C_impl_copyDisk) : PureOK Tryz.prog WI 21 C_impl_TxNew := by
  refine pure1 (E := EE cs) hT hs (by rw [st_impl_TxNew]; rfl) fun d hp => out_wp (n := 0) (st_impl_TxNew cs) ?_
  have c1 := C_impl_BestMeta_eq d hp
  have c2 := C_impl_copyDisk_eq d hp
  unfold txNew
  rcases hb : bestMeta d with ⟨m, ok⟩
  rw [hb] at c1
  cases ok with
  | false => simp only [go_sem, kSt_ptr, Nat.reduceBEq, Nat.reduceAdd, Nat.reduceEqDiff, s_impl_TxNew, TDisk.row, tDisk_enc, TMeta.row, h1, c1, txFill0, noTxn, TTxn.row, Bool.false_eq_true]
  | true => simp only [go_sem, kSt_ptr, Nat.reduceBEq, Nat.reduceAdd, Nat.reduceEqDiff, Nat.reduceLeDiff, s_impl_TxNew, TDisk.row, tDisk_enc, TMeta.row, h1, c1, h2, deepC_false, c2, txFill, TTxn.row]
noncomputable def C_impl_newAt := c2 tTxn intT (fun (t : TTxn) (n : Int) => tTxn.cost t ≤ 1048576) ((.int .i64)) fun (t : TTxn) (n : Int) => (earlyL (newFindI n) [] t.fNew).getD (-1)
theorem C_impl_newAt_eq (t : TTxn) (n : Int) (h : tTxn.cost t ≤ 1048576) : C_impl_newAt [.agg [.imm (t.fD.fSecs.map (sliceT u8T).row), .imm (t.fD.fCache.map TWrite.row), .int .i64 t.fD.fOps, .imm (t.fD.fFaults.map TFault.row), .bool t.fD.fDown, .int .i64 t.fM.fGen, .int .i64 t.fM.fRoot, .int .i64 t.fRoot, .imm (t.fNew.map TFresh.row)], .int .i64 n] = some (.int .i64 (((earlyL (newFindI n) [] t.fNew).getD (-1)))) := c2_eq tTxn intT h
theorem ok_impl_newAt {WI : World → Prop} (hs : Stable WI) (cs) (hT : TOK (EE cs) WI) : PureOK Tryz.prog WI 49 C_impl_newAt := by
  refine pure2 (E := EE cs) hT hs (by rw [st_impl_newAt]; rfl) fun t n hp => out_wp (n := 0) (st_impl_newAt cs) ?_
  obtain ⟨z1, z2, z3⟩ := txCost hp
  simp only [go_sem, Nat.reduceBEq, Nat.reduceAdd, Nat.reduceLeDiff, s_impl_newAt, TTxn.row, tTxn_enc]
  refine (wl_early (l := t.fNew) (fun pre v => newFindI n pre v) (fun pre e h => e 1 = .int .i64 n ∧ e 8 = .imm (t.fNew.map TFresh.row) ∧ e 10 = .int .i64 pre.length ∧ e 9 = .int .i64 (t.fNew).length) (.exit 0) (fun e h => e 1 = .int .i64 n ∧ e 8 = .imm (t.fNew.map TFresh.row)) (fun b e h => e 4 = .int .i64 b) (by omega) ?_ ?_ ?_ (by simp) t.fNew [] _ _ rfl ?_).mono ?_
  · rintro pre v rest e h a hp ⟨q0, q1, ix, nx⟩
    have hq := newFindI_none hp
    simp only [go_sem, kSt_ptr, Nat.reduceBEq, Nat.reduceAdd, s_impl_newAt_L0, q0, q1, ix, nx, a.dl, a.ia (row := TFresh.row) (sz := 5) rfl, a.hw, TFresh.row, hq]
  · rintro pre v rest b e h a hp ⟨q0, q1, ix, nx⟩
    obtain ⟨hq, rfl⟩ := newFindI_some hp
    simp only [go_sem, kSt_ptr, Nat.reduceBEq, Nat.reduceAdd, s_impl_newAt_L0, q0, q1, ix, nx, a.dl, a.ia (row := TFresh.row) (sz := 5) rfl, a.hw, TFresh.row, hq]
  · rintro e h ⟨q0, q1, ix, nx⟩
    simp only [go_sem, Nat.reduceBEq, s_impl_newAt_L0, q0, q1, ix, nx]
  · simp only [go_sem, Nat.reduceBEq]
  · intro x e h hx
    cases he : earlyL (newFindI n) [] t.fNew with
    | none =>
      rw [he] at hx
      obtain ⟨rfl, j0⟩ := hx
      simp only [go_sem, Option.getD_none]
    | some k =>
      rw [he] at hx
      obtain ⟨rfl, j⟩ := hx
      simp only [go_sem, j]
theorem cp_impl_copyTexts (cs) : CpO (EE cs) strT 81 := cpO_of (bt := 16) rfl (by decide) (st_impl_copyTexts cs)
theorem cp_impl_copyInts (cs) : CpO (EE cs) intT 82 := cpO_of (bt := 8) rfl (by decide) (st_impl_copyInts cs)
noncomputable def C_impl_copyNode := c1 tNode (fun (x : TNode) => tNode.cost x ≤ 1048576) (fun x => .agg (x).row) fun (x : TNode) => x
theorem C_impl_copyNode_eq (x : TNode) (h : tNode.cost x ≤ 1048576) : C_impl_copyNode [.agg [.bool x.fLeaf, .imm (x.fKeys.map strT.row), .imm (x.fVals.map strT.row), .imm (x.fKids.map intT.row)]] = some (.agg (((x))).row) := c1_eq tNode h
theorem ok_impl_copyNode {WI : World → Prop} (hs : Stable WI) (cs) (hT : TOK (EE cs) WI) : OwnOK Tryz.prog WI 50 C_impl_copyNode := by
  refine own1 (E := EE cs) hT hs (by rw [st_impl_copyNode]; rfl) fun x hp => outO_wp (st_impl_copyNode cs) ?_
  have nb := nodeB hp
  simp only [go_sem, Nat.reduceBEq, Nat.reduceAdd, Nat.reduceLeDiff, s_impl_copyNode, TNode.row, tNode_enc]
  refine hP_cpO x.fKeys (cp_impl_copyTexts cs) nb.keys rfl ?_
  intro x1 h1 o1 a1 a2 a3
  have b0 : h1.hp 0 = some [.bool x.fLeaf, .imm (x.fKeys.map strT.row), .imm (x.fVals.map strT.row), .imm (x.fKids.map intT.row)] := (a2 0 (Nat.zero_lt_succ _)).trans rfl
  have b1 : h1.hp 1 = some [.bool false, .snil, .snil, .snil] := (a2 1 (Nat.lt_succ_self _)).trans rfl
  have n1 : 2 ≤ h1.nx := a1
  obtain ⟨A1, c1, z1⟩ := o1.owA
  simp only [go_sem, Nat.reduceBEq, Nat.reduceAdd, Nat.reduceLeDiff, b0]
  refine hP_cpO x.fVals (cp_impl_copyTexts cs) nb.vals rfl ?_
  intro x2 h2 o2 d1 d2 d3
  have e0 := (d2 0 (by omega)).trans b0
  have e1 := (d2 1 (by omega)).trans b1
  obtain ⟨A2, c2, z2⟩ := o2.owA
  simp only [go_sem, Nat.reduceBEq, Nat.reduceAdd, Nat.reduceLeDiff, e0]
  refine hP_cpO x.fKids (cp_impl_copyInts cs) nb.kids rfl ?_
  intro x3 h3 o3 g1 g2 g3
  have k0 := (g2 0 (by omega)).trans e0
  have k1 := (g2 1 (by omega)).trans e1
  obtain ⟨A3, c3, z3⟩ := o3.owA
  have f1 : sFill [.bool false, .snil, .snil, .snil] [(0, 1, .bool x.fLeaf), (1, 1, x1), (2, 1, x2), (3, 1, x3)] = some [.bool x.fLeaf, x1, x2, x3] := by simp [sFill, fillAt, z1, c1, z2, c2, z3, c3, cl_bool, nc_bool]
  simp only [go_sem, kSt_ptr, Nat.reduceBEq, Nat.reduceAdd, k1, f1, z1, z2, z3]
  replace A1 := (A1.up (m := 8) (by decide)).mono (h' := h3) (by omega) fun q h1 h2 => (g2 q (by omega)).trans (d2 q (by omega))
  replace A2 := (A2.up (m := 8) (by decide)).mono (h' := h3) (by omega) fun q h1 h2 => g2 q (by omega)
  replace A3 := A3.up (m := 8) (by decide)
  have B : OwA 8 2 h3.nx h3 [.bool x.fLeaf, x1, x2, x3] x.row := OwA.leaf (A1.cat (A2.cat A3 (Nat.le_refl _)) (Nat.le_refl _)) rfl
  refine OwA.owE (n := 8) (lo := 2) (hi := h3.nx) (B.mono ?_ fun q hq hq2 => ?_) (by decide)
  · simp
  · simp [show q ≠ 1 by omega]
noncomputable def C_impl_PageAt := c3 tDisk intT intT (fun (d : TDisk) (n : Int) (k : Int) => tDisk.cost d ≤ 1048576) (fun x => .tup [.imm (x.1.map u8T.row), .bool x.2]) fun (d : TDisk) (n : Int) (k : Int) => pageAt d n k
theorem C_impl_PageAt_eq (d : TDisk) (n : Int) (k : Int) (h : tDisk.cost d ≤ 1048576) : C_impl_PageAt [.agg [.imm (d.fSecs.map (sliceT u8T).row), .imm (d.fCache.map TWrite.row), .int .i64 d.fOps, .imm (d.fFaults.map TFault.row), .bool d.fDown], .int .i64 n, .int .i64 k] = some (.tup [.imm (((pageAt d n k).1).map u8T.row), .bool ((pageAt d n k).2)]) := c3_eq tDisk intT intT h
theorem ok_impl_PageAt {WI : World → Prop} (hs : Stable WI) (cs) (hT : TOK (EE cs) WI) (h1 : (EE cs).T 77 = some C_impl_ReadSec) (h2 : (EE cs).T 83 = some C_impl_GetPage) : PureOK Tryz.prog WI 51 C_impl_PageAt := by
  refine pure3 (E := EE cs) hT hs (by rw [st_impl_PageAt]; rfl) fun d n k hp => out_wp (n := 0) (st_impl_PageAt cs) ?_
  have c1 := C_impl_ReadSec_eq d n hp
  have hl := readSec_len hp n
  unfold pageAt
  rcases hr : readSec d n with ⟨b, ok⟩
  rw [hr] at c1 hl
  simp only at hl ⊢
  have c2 := C_impl_GetPage_eq b hl
  rcases hg : getPage b with ⟨kind, body, is⟩
  rw [hg] at c2
  simp only
  cases ok with
  | false => simp only [go_sem, Nat.reduceBEq, Nat.reduceAdd, s_impl_PageAt, TDisk.row, tDisk_enc, h1, c1, h2, c2, false_and]
  | true =>
  cases is with
  | false => simp only [go_sem, Nat.reduceBEq, Nat.reduceAdd, s_impl_PageAt, TDisk.row, tDisk_enc, h1, c1, h2, c2, false_and]
  | true =>
  by_cases hk : kind = k
  · have e1 : (kind != k) = false := by simp [hk]
    simp only [go_sem, Nat.reduceBEq, Nat.reduceAdd, s_impl_PageAt, TDisk.row, tDisk_enc, h1, c1, h2, c2, hk]
  · have e1 : (kind != k) = true := by simpa using hk
    simp only [go_sem, Nat.reduceBEq, Nat.reduceAdd, s_impl_PageAt, TDisk.row, tDisk_enc, h1, c1, h2, c2, e1, hk, and_false]
noncomputable def C_impl_bodyOf := c1 tNode (fun (x : TNode) => tNode.cost x ≤ 1048576) (fun x => .imm (x.map u8T.row)) fun (x : TNode) => nodeBody x
theorem C_impl_bodyOf_eq (x : TNode) (h : tNode.cost x ≤ 1048576) : C_impl_bodyOf [.agg [.bool x.fLeaf, .imm (x.fKeys.map strT.row), .imm (x.fVals.map strT.row), .imm (x.fKids.map intT.row)]] = some (.imm (((nodeBody x)).map u8T.row)) := c1_eq tNode h
theorem ok_impl_bodyOf {WI : World → Prop} (hs : Stable WI) (cs) (hT : TOK (EE cs) WI) (h1 : (EE cs).T 114 = some C_impl_clamp) : OwnOK Tryz.prog WI 53 C_impl_bodyOf := by
  refine own1 (E := EE cs) hT hs (by rw [st_impl_bodyOf]; rfl) fun x hp => outO_wp (st_impl_bodyOf cs) ?_
  have nb := nodeB hp
  have hall := nb.all
  have hk1 := nb.keys
  have hk2 := nb.vals
  have hk3 := nb.kids
  have g1 := nodeHead_len x
  have g2 := texts_len x.fKeys
  have g3 := texts_len x.fVals
  have g4 := nums_len x.fKids
  have u1 := (uenc_len (clampN (leafN x.fLeaf)) (clampN_le _)).1
  have u2 := (uenc_len (clampN x.fKeys.length) (clampN_le _)).1
  have hh : uenc (clampN (leafN x.fLeaf)) ++ uenc (clampN x.fKeys.length) = nodeHead x := rfl
  cases hx : x.fLeaf with
  | true =>
    have hb : nodeBody x = nodeHead x ++ texts x.fKeys ++ texts x.fVals := by unfold nodeBody; rw [hx]; rfl
    have hlf : uenc (clampN (leafN x.fLeaf)) = [1] := by rw [hx]; exact uenc_small (by decide)
    rw [hlf] at hh
    simp only [go_sem, Nat.reduceBEq, Nat.reduceAdd, s_impl_bodyOf, TNode.row, tNode_enc, hx, u8fill]
    refine hP_push [1] rfl (h := Hp.empty.new [.bool true, .imm (x.fKeys.map strT.row), .imm (x.fVals.map strT.row), .imm (x.fKids.map intT.row)]) (OwS.nil 0 u8T (lo := 1) (hi := 1) (Nat.le_refl _) (Nat.le_refl _)) (by simp) ?_
    intro v0 q0 o0 n0 f0 a0
    have b0 : q0.hp 0 = some [.bool true, .imm (x.fKeys.map strT.row), .imm (x.fVals.map strT.row), .imm (x.fKids.map intT.row)] := (f0 0 (by decide)).trans rfl
    rw [List.nil_append] at o0
    simp only [go_sem, Nat.reduceBEq, Nat.reduceAdd, Nat.reduceLeDiff, b0]
    refine hP_appO (ap_impl_addU cs h1 x.fKeys.length) o0 (by simp only [List.length_cons, List.length_nil]; omega) ?_
    intro v1 q1 o1 n1 f1 a1
    rw [hh] at o1
    have b1 := (f1 0 (by decide)).trans b0
    simp only [go_sem, Nat.reduceBEq, Nat.reduceAdd, Nat.reduceLeDiff, b1]
    refine (wl_for (l := x.fKeys) (fun pre e h => e 1 = .ptr 0 0 ∧ e 24 = .imm (x.fKeys.map strT.row) ∧ h.hp 0 = some [.bool true, .imm (x.fKeys.map strT.row), .imm (x.fVals.map strT.row), .imm (x.fKids.map intT.row)] ∧ OwS 0 u8T 1 h.nx (nodeHead x ++ texts pre) (e 3) h ∧ e 26 = .int .i64 pre.length ∧ e 25 = .int .i64 (x.fKeys).length) (.exit 0) (fun e h => e 1 = .ptr 0 0 ∧ e 24 = .imm (x.fKeys.map strT.row) ∧ h.hp 0 = some [.bool true, .imm (x.fKeys.map strT.row), .imm (x.fVals.map strT.row), .imm (x.fKids.map intT.row)] ∧ OwS 0 u8T 1 h.nx (nodeHead x ++ texts (x.fKeys)) (e 3) h) (by omega) ?_ ?_ (by simp) x.fKeys [] _ _ rfl ?_).mono ?_
    · rintro pre s rest e h a ⟨q0, q1, q2, q3, ix, nx⟩
      have hp2 := texts_pre (pre := pre ++ [s]) (rest := rest)
      rw [List.append_assoc, List.singleton_append, ← a.hl, texts_snoc, List.length_append] at hp2
      simp only [go_sem, Nat.reduceBEq, s_impl_bodyOf_L0, q0, q1, q2, ix, nx, a.dl, a.ia (row := strT.row) (sz := 1) rfl, strT_row]
      refine hP_appO (ap_impl_addText cs h1 s (nb.key s a.mem)) q3 (by rw [List.length_append]; omega) ?_
      intro v2 h2 o2 n2 f2 a2
      rw [List.append_assoc, ← texts_snoc] at o2
      have b2 := (f2 0 (by decide)).trans q2
      simp only [go_sem, Nat.reduceBEq, q0, q1, ix, nx, a.hw, b2]
      exact o2
    · rintro e h ⟨q0, q1, q2, q3, ix, nx⟩
      simp only [go_sem, Nat.reduceBEq, s_impl_bodyOf_L0, q0, q1, q2, q3, ix, nx]
    · simp only [go_sem, Nat.reduceBEq, b1, texts_nil, List.append_nil]; exact o1
    · rintro _ e h ⟨rfl, k1, k24, kh, o⟩
      simp only [go_sem, Nat.reduceBEq, Nat.reduceAdd, Nat.reduceLeDiff, k1, kh]
      refine (wl_for (l := x.fVals) (fun pre e h => e 37 = .imm (x.fVals.map strT.row) ∧ OwS 0 u8T 1 h.nx (nodeHead x ++ texts x.fKeys ++ texts pre) (e 3) h ∧ e 39 = .int .i64 pre.length ∧ e 38 = .int .i64 (x.fVals).length) (.exit 2) (fun e h => e 37 = .imm (x.fVals.map strT.row) ∧ OwS 0 u8T 1 h.nx (nodeHead x ++ texts x.fKeys ++ texts (x.fVals)) (e 3) h) (by omega) ?_ ?_ (by simp) x.fVals [] _ _ rfl ?_).mono ?_
      · rintro pre s rest e h a ⟨q0, q1, ix, nx⟩
        have hp2 := texts_pre (pre := pre ++ [s]) (rest := rest)
        rw [List.append_assoc, List.singleton_append, ← a.hl, texts_snoc, List.length_append] at hp2
        simp only [go_sem, Nat.reduceBEq, s_impl_bodyOf_L1, q0, ix, nx, a.dl, a.ia (row := strT.row) (sz := 1) rfl, strT_row]
        refine hP_appO (ap_impl_addText cs h1 s (nb.val s a.mem)) q1 (by rw [List.length_append, List.length_append]; omega) ?_
        intro v2 h2 o2 n2 f2 a2
        rw [List.append_assoc, ← texts_snoc] at o2
        simp only [go_sem, Nat.reduceBEq, q0, ix, nx, a.hw]
        exact o2
      · rintro e h ⟨q0, q1, ix, nx⟩
        simp only [go_sem, Nat.reduceBEq, s_impl_bodyOf_L1, q0, q1, ix, nx]
      · simp only [go_sem, Nat.reduceBEq, texts_nil, List.append_nil]; exact o
      · rintro _ e h ⟨rfl, k37, o⟩
        rw [← hb] at o
        simp only [go_sem, Nat.reduceBEq]
        exact o.owI.owE (by decide)
  | false =>
    have hb : nodeBody x = nodeHead x ++ texts x.fKeys ++ nums x.fKids := by unfold nodeBody; rw [hx]; rfl
    have hlf : uenc (clampN (leafN x.fLeaf)) = [0] := by rw [hx]; exact uenc_small (by decide)
    rw [hlf] at hh
    simp only [go_sem, Nat.reduceBEq, Nat.reduceAdd, s_impl_bodyOf, TNode.row, tNode_enc, hx, u8fill]
    refine hP_push [0] rfl (h := Hp.empty.new [.bool false, .imm (x.fKeys.map strT.row), .imm (x.fVals.map strT.row), .imm (x.fKids.map intT.row)]) (OwS.nil 0 u8T (lo := 1) (hi := 1) (Nat.le_refl _) (Nat.le_refl _)) (by simp) ?_
    intro v0 q0 o0 n0 f0 a0
    have b0 : q0.hp 0 = some [.bool false, .imm (x.fKeys.map strT.row), .imm (x.fVals.map strT.row), .imm (x.fKids.map intT.row)] := (f0 0 (by decide)).trans rfl
    rw [List.nil_append] at o0
    simp only [go_sem, Nat.reduceBEq, Nat.reduceAdd, Nat.reduceLeDiff, b0]
    refine hP_appO (ap_impl_addU cs h1 x.fKeys.length) o0 (by simp only [List.length_cons, List.length_nil]; omega) ?_
    intro v1 q1 o1 n1 f1 a1
    rw [hh] at o1
    have b1 := (f1 0 (by decide)).trans b0
    simp only [go_sem, Nat.reduceBEq, Nat.reduceAdd, Nat.reduceLeDiff, b1]
    refine (wl_for (l := x.fKeys) (fun pre e h => e 1 = .ptr 0 0 ∧ e 24 = .imm (x.fKeys.map strT.row) ∧ h.hp 0 = some [.bool false, .imm (x.fKeys.map strT.row), .imm (x.fVals.map strT.row), .imm (x.fKids.map intT.row)] ∧ OwS 0 u8T 1 h.nx (nodeHead x ++ texts pre) (e 3) h ∧ e 26 = .int .i64 pre.length ∧ e 25 = .int .i64 (x.fKeys).length) (.exit 0) (fun e h => e 1 = .ptr 0 0 ∧ e 24 = .imm (x.fKeys.map strT.row) ∧ h.hp 0 = some [.bool false, .imm (x.fKeys.map strT.row), .imm (x.fVals.map strT.row), .imm (x.fKids.map intT.row)] ∧ OwS 0 u8T 1 h.nx (nodeHead x ++ texts (x.fKeys)) (e 3) h) (by omega) ?_ ?_ (by simp) x.fKeys [] _ _ rfl ?_).mono ?_
    · rintro pre s rest e h a ⟨q0, q1, q2, q3, ix, nx⟩
      have hp2 := texts_pre (pre := pre ++ [s]) (rest := rest)
      rw [List.append_assoc, List.singleton_append, ← a.hl, texts_snoc, List.length_append] at hp2
      simp only [go_sem, Nat.reduceBEq, s_impl_bodyOf_L0, q0, q1, q2, ix, nx, a.dl, a.ia (row := strT.row) (sz := 1) rfl, strT_row]
      refine hP_appO (ap_impl_addText cs h1 s (nb.key s a.mem)) q3 (by rw [List.length_append]; omega) ?_
      intro v2 h2 o2 n2 f2 a2
      rw [List.append_assoc, ← texts_snoc] at o2
      have b2 := (f2 0 (by decide)).trans q2
      simp only [go_sem, Nat.reduceBEq, q0, q1, ix, nx, a.hw, b2]
      exact o2
    · rintro e h ⟨q0, q1, q2, q3, ix, nx⟩
      simp only [go_sem, Nat.reduceBEq, s_impl_bodyOf_L0, q0, q1, q2, q3, ix, nx]
    · simp only [go_sem, Nat.reduceBEq, b1, texts_nil, List.append_nil]; exact o1
    · rintro _ e h ⟨rfl, k1, k24, kh, o⟩
      simp only [go_sem, Nat.reduceBEq, Nat.reduceAdd, Nat.reduceLeDiff, k1, kh]
      refine (wl_for (l := x.fKids) (fun pre e h => e 49 = .imm (x.fKids.map intT.row) ∧ OwS 0 u8T 1 h.nx (nodeHead x ++ texts x.fKeys ++ nums pre) (e 3) h ∧ e 51 = .int .i64 pre.length ∧ e 50 = .int .i64 (x.fKids).length) (.exit 4) (fun e h => e 49 = .imm (x.fKids.map intT.row) ∧ OwS 0 u8T 1 h.nx (nodeHead x ++ texts x.fKeys ++ nums (x.fKids)) (e 3) h) (by omega) ?_ ?_ (by simp) x.fKids [] _ _ rfl ?_).mono ?_
      · rintro pre s rest e h a ⟨q0, q1, ix, nx⟩
        have hp2 := nums_pre (pre := pre ++ [s]) (rest := rest)
        rw [List.append_assoc, List.singleton_append, ← a.hl, nums_snoc, List.length_append] at hp2
        simp only [go_sem, Nat.reduceBEq, s_impl_bodyOf_L2, q0, ix, nx, a.dl, a.ia (row := intT.row) (sz := 1) rfl, intT_row]
        refine hP_appO (ap_impl_addU cs h1 s) q1 (by rw [List.length_append, List.length_append]; omega) ?_
        intro v2 h2 o2 n2 f2 a2
        rw [List.append_assoc, ← nums_snoc] at o2
        simp only [go_sem, Nat.reduceBEq, q0, ix, nx, a.hw]
        exact o2
      · rintro e h ⟨q0, q1, ix, nx⟩
        simp only [go_sem, Nat.reduceBEq, s_impl_bodyOf_L2, q0, q1, ix, nx]
      · simp only [go_sem, Nat.reduceBEq, nums_nil, List.append_nil]; exact o
      · rintro _ e h ⟨rfl, k37, o⟩
        rw [← hb] at o
        simp only [go_sem, Nat.reduceBEq]
        exact o.owI.owE (by decide)
end Go.Proofs.YtmfkjlnhanomfaaGreat.Nl
/- What the functions that FnExactNoLeak calls answer: part 17. -/
namespace Go.Proofs.YtmfkjlnhanomfaaGreat.Nl
open Go Go.RowKit Go.Ev
set_option linter.unusedSimpArgs false
set_option linter.unusedVariables false
set_option maxHeartbeats 1600000
noncomputable def C_impl_SizeOf := c1 tNode (fun (x : TNode) => tNode.cost x ≤ 1048576) ((.int .i64)) fun (x : TNode) => ((nodeBody x).length : Int)
theorem C_impl_SizeOf_eq (x : TNode) (h : tNode.cost x ≤ 1048576) : C_impl_SizeOf [.agg [.bool x.fLeaf, .imm (x.fKeys.map strT.row), .imm (x.fVals.map strT.row), .imm (x.fKids.map intT.row)]] = some (.int .i64 ((((nodeBody x).length : Int)))) := c1_eq tNode h
theorem ok_impl_SizeOf {WI : World → Prop} (hs : Stable WI) (cs) (hT : TOK (EE cs) WI) (h1 : (EE cs).T 53 = some C_impl_bodyOf) : PureOK Tryz.prog WI 25 C_impl_SizeOf := by
  refine pure1 (E := EE cs) hT hs (by rw [st_impl_SizeOf]; rfl) fun x hp => out_wp (n := 0) (st_impl_SizeOf cs) ?_
  have c1 := C_impl_bodyOf_eq x hp
  simp only [go_sem, Nat.reduceBEq, Nat.reduceAdd, s_impl_SizeOf, TNode.row, tNode_enc, h1, deepC_false, c1]
noncomputable def C_impl_NodeOk := c1 tNode (fun (x : TNode) => tNode.cost x ≤ 1048576) (.bool) fun (x : TNode) => nodeOk x
theorem C_impl_NodeOk_eq (x : TNode) (h : tNode.cost x ≤ 1048576) : C_impl_NodeOk [.agg [.bool x.fLeaf, .imm (x.fKeys.map strT.row), .imm (x.fVals.map strT.row), .imm (x.fKids.map intT.row)]] = some (.bool ((nodeOk x))) := c1_eq tNode h
theorem ok_impl_NodeOk {WI : World → Prop} (hs : Stable WI) (cs) (hT : TOK (EE cs) WI) (h1 : (EE cs).T 135 = some C_impl_isSector) (h2 : (EE cs).T 25 = some C_impl_SizeOf) : PureOK Tryz.prog WI 113 C_impl_NodeOk := by
  refine pure1 (E := EE cs) hT hs (by rw [st_impl_NodeOk]; rfl) fun x hp => out_wp (n := 0) (st_impl_NodeOk cs) ?_
  have nb := nodeB hp
  have hk1 := nb.keys
  have hk2 := nb.vals
  have hk3 := nb.kids
  have c2 := C_impl_SizeOf_eq x hp
  have hok : nodeOk x = (rising x.fKeys && decide ((nodeBody x).length ≤ 240) && nodeFit x) := rfl
  have hsz2 : decide (((nodeBody x).length : Int) ≤ 240) = decide ((nodeBody x).length ≤ 240) := decide_eq_decide.2 (by omega)
  simp only [go_sem, Nat.reduceBEq, Nat.reduceAdd, Nat.reduceLeDiff, s_impl_NodeOk, TNode.row, tNode_enc]
  refine (wl_all (l := x.fKeys) (fun pre v => risB pre v) (fun pre e h => e 1 = .ptr 0 0 ∧ e 10 = .imm (x.fKeys.map strT.row) ∧ e 11 = .int .i64 x.fKeys.length ∧ e 12 = .int .i64 pre.length ∧ h.hp 0 = some [.bool x.fLeaf, .imm (x.fKeys.map strT.row), .imm (x.fVals.map strT.row), .imm (x.fKids.map intT.row)]) (.exit 0) (fun e h => e 1 = .ptr 0 0 ∧ h.hp 0 = some [.bool x.fLeaf, .imm (x.fKeys.map strT.row), .imm (x.fVals.map strT.row), .imm (x.fKids.map intT.row)]) (fun e h => e 2 = .bool false) (by omega) ?_ ?_ ?_ (by simp) x.fKeys [] _ _ rfl ?_).mono ?_
  · rintro pre v rest e h a hp ⟨q0, q1, q2, ix, qh⟩
    have hdl := a.dl
    have hia := fun h => a.ia (row := strT.row) (sz := 1) rfl h
    have hw := a.hw
    have hlt := a.lt
    rcases list_end pre with hz | ⟨q, p0, hz⟩
    · rw [hz, risB_nil] at hp
      have h0 : ¬ (0 : Int) < (pre.length : Int) := by rw [hz]; decide
      have h48 : ¬ (48 : Int) < (v.length : Int) := by have := of_decide_eq_true hp; omega
      simp only [go_sem, Nat.reduceBEq, s_impl_NodeOk_L0, hdl, hia, strT_row, hw, h0, h48, q0, q1, q2, ix, qh]
    · rw [hz, risB_snoc] at hp
      have hpl : (pre.length : Int) - 1 = (q.length : Int) := by rw [hz]; simp
      have h0 : (0 : Int) < (pre.length : Int) := by omega
      have hw1 : IntKind.wrap .i64 ((pre.length : Int) - 1) = (q.length : Int) := by rw [wrapId (by omega) (by omega)]; exact hpl
      have hib := fun h => kIa_map (h := h) (row := strT.row) (sz := 1) (l := x.fKeys) (pre := q) (v := p0) (rest := v :: rest) (by rw [a.hl, hz]; simp) rfl
      simp only [Bool.and_eq_true, decide_eq_true_eq] at hp
      have h48 : ¬ (48 : Int) < (v.length : Int) := by omega
      have hbl := hp.2
      simp only [go_sem, Nat.reduceBEq, Nat.reduceAdd, Nat.reduceLeDiff, s_impl_NodeOk_L0, hdl, hia, hib, strT_row, hw, hw1, h0, h48, hbl, kBin_sge, q0, q1, q2, ix, qh]
  · rintro pre v rest e h a hp ⟨q0, q1, q2, ix, qh⟩
    have hdl := a.dl
    have hia := fun h => a.ia (row := strT.row) (sz := 1) rfl h
    have hw := a.hw
    have hlt := a.lt
    rcases list_end pre with hz | ⟨q, p0, hz⟩
    · rw [hz, risB_nil] at hp
      have h0 : ¬ (0 : Int) < (pre.length : Int) := by rw [hz]; decide
      have h48 : (48 : Int) < (v.length : Int) := by have := of_decide_eq_false hp; omega
      simp only [go_sem, Nat.reduceBEq, s_impl_NodeOk_L0, hdl, hia, strT_row, hw, h48, q1, q2, ix]
    · rw [hz, risB_snoc] at hp
      have hpl : (pre.length : Int) - 1 = (q.length : Int) := by rw [hz]; simp
      have h0 : (0 : Int) < (pre.length : Int) := by omega
      have hw1 : IntKind.wrap .i64 ((pre.length : Int) - 1) = (q.length : Int) := by rw [wrapId (by omega) (by omega)]; exact hpl
      have hib := fun h => kIa_map (h := h) (row := strT.row) (sz := 1) (l := x.fKeys) (pre := q) (v := p0) (rest := v :: rest) (by rw [a.hl, hz]; simp) rfl
      by_cases h48 : (48 : Int) < (v.length : Int)
      · simp only [go_sem, Nat.reduceBEq, s_impl_NodeOk_L0, hdl, hia, strT_row, hw, h48, q1, q2, ix]
      · have hbl : Op.bytesLess p0 v = false := by
          have h2 : decide (v.length ≤ 48) = true := decide_eq_true (by omega)
          rw [h2, Bool.true_and] at hp
          exact hp
        simp only [go_sem, Nat.reduceBEq, Nat.reduceAdd, Nat.reduceLeDiff, s_impl_NodeOk_L0, hdl, hia, hib, strT_row, hw, hw1, h0, h48, hbl, kBin_sge, q0, q1, q2, ix, qh]
  · rintro e h ⟨q0, q1, q2, ix, qh⟩
    simp only [go_sem, Nat.reduceBEq, s_impl_NodeOk_L0, q0, q1, q2, ix, qh]
  · simp only [go_sem, Nat.reduceBEq]
  rintro _ e h (⟨hrs, rfl, jp, jh⟩ | ⟨hrs, rfl, j⟩)
  · have hrs : rising x.fKeys = true := hrs
    rw [hrs, Bool.true_and] at hok
    have hx0 := true_and True
    cases hx : x.fLeaf with
    | true =>
      rw [hx] at c2 jh
      simp only [go_sem, Nat.reduceBEq, Nat.reduceAdd, Nat.reduceLeDiff, jp, jh]
      have hfit : nodeFit x = (x.fVals.all (fun v => decide (v.length ≤ 60)) && (decide (1 ≤ x.fKeys.length) && decide (x.fVals.length = x.fKeys.length) && decide (x.fKids.length = 0))) := by unfold nodeFit; rw [hx]; rfl
      refine (wl_all (l := x.fVals) (fun pre s => decide (s.length ≤ 60)) (fun pre e h => e 1 = .ptr 0 0 ∧ e 39 = .int .i64 (x.fVals).length ∧ e 38 = .imm ((x.fVals).map strT.row) ∧ h.hp 0 = some [.bool true, .imm (x.fKeys.map strT.row), .imm (x.fVals.map strT.row), .imm (x.fKids.map intT.row)] ∧ e 40 = .int .i64 pre.length) (.exit 2) (fun e h => e 1 = .ptr 0 0 ∧ e 39 = .int .i64 (x.fVals).length ∧ e 38 = .imm ((x.fVals).map strT.row) ∧ h.hp 0 = some [.bool true, .imm (x.fKeys.map strT.row), .imm (x.fVals.map strT.row), .imm (x.fKids.map intT.row)]) (fun e h => e 2 = .bool false) (by omega) ?_ ?_ ?_ (by simp) x.fVals [] _ _ rfl ?_).mono ?_
      · rintro pre s rest e h a hp ⟨q0, q1, q2, q3, ix⟩
        have hq : ¬ (60 : Int) < (s.length : Int) := by have := of_decide_eq_true hp; omega
        simp only [go_sem, Nat.reduceBEq, s_impl_NodeOk_L1, q0, q1, q2, q3, ix, a.dl, a.ia (row := strT.row) (sz := 1) rfl, a.hw, strT_row, hq]
      · rintro pre s rest e h a hp ⟨q0, q1, q2, q3, ix⟩
        have hq : (60 : Int) < (s.length : Int) := by have := of_decide_eq_false hp; omega
        simp only [go_sem, Nat.reduceBEq, s_impl_NodeOk_L1, q1, q2, ix, a.dl, a.ia (row := strT.row) (sz := 1) rfl, a.hw, strT_row, hq]
      · rintro e h ⟨q0, q1, q2, q3, ix⟩
        simp only [go_sem, Nat.reduceBEq, s_impl_NodeOk_L1, q0, q1, q2, q3, ix]
      · simp only [go_sem, Nat.reduceBEq, jp, jh]
      · rintro _ e h (⟨hpp, rfl, j1, _, _, jh⟩ | ⟨hpp, rfl, j⟩)
        · rw [allP_all] at hpp
          rw [hpp, Bool.true_and] at hfit
          have e1 : decide ((1 : Int) ≤ (x.fKeys.length : Int)) = decide (1 ≤ x.fKeys.length) := decide_eq_decide.2 (by omega)
          have e1b : decide ((0 : Int) < (x.fKeys.length : Int)) = decide (1 ≤ x.fKeys.length) := decide_eq_decide.2 (by omega)
          have e2 : (((x.fVals.length : Nat) : Int) == ((x.fKeys.length : Nat) : Int)) = decide (x.fVals.length = x.fKeys.length) := beqN _ _
          have e3 : (((x.fKids.length : Nat) : Int) == 0) = decide (x.fKids.length = 0) := beqN _ 0
          cases d1 : decide (1 ≤ x.fKeys.length) <;> cases d2 : decide (x.fVals.length = x.fKeys.length) <;> cases d3 : decide (x.fKids.length = 0) <;> rw [d1, d2, d3] at hfit <;> rw [hfit] at hok <;> simp only [go_sem, Nat.reduceBEq, Nat.reduceAdd, Nat.reduceLeDiff, j1, jh, e1b, d1, e2, d2, e3, d3, h2, c2, hok, hsz2, Bool.and_true, Bool.and_false]
        · rw [allP_all] at hpp
          rw [hpp, Bool.false_and] at hfit
          simp only [go_sem, j, nodeOk, hfit, Bool.and_false]
    | false =>
      rw [hx] at c2 jh
      simp only [go_sem, Nat.reduceBEq, Nat.reduceAdd, Nat.reduceLeDiff, jp, jh]
      have hfit : nodeFit x = (x.fKids.all (fun k => inR k 2 47) && (decide (1 ≤ x.fKids.length) && decide (x.fKeys.length + 1 = x.fKids.length) && decide (x.fVals.length = 0))) := by unfold nodeFit; rw [hx]; rfl
      refine (wl_all (l := x.fKids) (fun pre s => inR s 2 47) (fun pre e h => e 1 = .ptr 0 0 ∧ e 74 = .int .i64 (x.fKids).length ∧ e 73 = .imm ((x.fKids).map intT.row) ∧ h.hp 0 = some [.bool false, .imm (x.fKeys.map strT.row), .imm (x.fVals.map strT.row), .imm (x.fKids.map intT.row)] ∧ e 75 = .int .i64 pre.length) (.exit 4) (fun e h => e 1 = .ptr 0 0 ∧ e 74 = .int .i64 (x.fKids).length ∧ e 73 = .imm ((x.fKids).map intT.row) ∧ h.hp 0 = some [.bool false, .imm (x.fKeys.map strT.row), .imm (x.fVals.map strT.row), .imm (x.fKids.map intT.row)]) (fun e h => e 2 = .bool false) (by omega) ?_ ?_ ?_ (by simp) x.fKids [] _ _ rfl ?_).mono ?_
      · rintro pre s rest e h a hp ⟨q0, q1, q2, q3, ix⟩
        have hq := C_impl_isSector_eq s
        simp only [go_sem, Nat.reduceBEq, s_impl_NodeOk_L2, q0, q1, q2, q3, ix, a.dl, a.ia (row := intT.row) (sz := 1) rfl, a.hw, intT_row, h1, hp, hq]
      · rintro pre s rest e h a hp ⟨q0, q1, q2, q3, ix⟩
        have hq := C_impl_isSector_eq s
        simp only [go_sem, Nat.reduceBEq, s_impl_NodeOk_L2, q1, q2, ix, a.dl, a.ia (row := intT.row) (sz := 1) rfl, a.hw, intT_row, h1, hp, hq]
      · rintro e h ⟨q0, q1, q2, q3, ix⟩
        simp only [go_sem, Nat.reduceBEq, s_impl_NodeOk_L2, q0, q1, q2, q3, ix]
      · simp only [go_sem, Nat.reduceBEq, jp, jh]
      · rintro _ e h (⟨hpp, rfl, j1, _, _, jh⟩ | ⟨hpp, rfl, j⟩)
        · rw [allP_all] at hpp
          rw [hpp, Bool.true_and] at hfit
          have e1b : decide ((0 : Int) < (x.fKids.length : Int)) = decide (1 ≤ x.fKids.length) := decide_eq_decide.2 (by omega)
          have hwk : IntKind.wrap .i64 ((x.fKids.length : Int) - 1) = (x.fKids.length : Int) - 1 := wrapId (by omega) (by omega)
          have e2 : (((x.fKeys.length : Nat) : Int) == ((x.fKids.length : Int) - 1)) = decide (x.fKeys.length + 1 = x.fKids.length) := beqP _ _
          have e3 : (((x.fVals.length : Nat) : Int) == 0) = decide (x.fVals.length = 0) := beqN _ 0
          cases d1 : decide (1 ≤ x.fKids.length) <;> cases d2 : decide (x.fKeys.length + 1 = x.fKids.length) <;> cases d3 : decide (x.fVals.length = 0) <;> rw [d1, d2, d3] at hfit <;> rw [hfit] at hok <;> simp only [go_sem, Nat.reduceBEq, Nat.reduceAdd, Nat.reduceLeDiff, j1, jh, e1b, d1, hwk, e2, d2, e3, d3, h2, c2, hok, hsz2, Bool.and_true, Bool.and_false]
        · rw [allP_all] at hpp
          rw [hpp, Bool.false_and] at hfit
          simp only [go_sem, j, nodeOk, hfit, Bool.and_false]
  · have hrs : rising x.fKeys = false := hrs
    rw [hrs, Bool.false_and, Bool.false_and] at hok
    simp only [go_sem, j, hok]
noncomputable def C_impl_PutNode := c1 tNode (fun (x : TNode) => tNode.cost x ≤ 1048576) (fun x => .imm (x.map u8T.row)) fun (x : TNode) => putNode x
theorem C_impl_PutNode_eq (x : TNode) (h : tNode.cost x ≤ 1048576) : C_impl_PutNode [.agg [.bool x.fLeaf, .imm (x.fKeys.map strT.row), .imm (x.fVals.map strT.row), .imm (x.fKids.map intT.row)]] = some (.imm (((putNode x)).map u8T.row)) := c1_eq tNode h
theorem ok_impl_PutNode {WI : World → Prop} (hs : Stable WI) (cs) (hT : TOK (EE cs) WI) (h1 : (EE cs).T 113 = some C_impl_NodeOk) (h2 : (EE cs).T 53 = some C_impl_bodyOf) : PureOK Tryz.prog WI 87 C_impl_PutNode := by
  refine pure1 (E := EE cs) hT hs (by rw [st_impl_PutNode]; rfl) fun x hp => out_wp (n := 0) (st_impl_PutNode cs) ?_
  have c1 := C_impl_NodeOk_eq x hp
  have c2 := C_impl_bodyOf_eq x hp
  unfold putNode
  cases hk : nodeOk x <;> rw [hk] at c1 <;> simp only [go_sem, Nat.reduceBEq, Nat.reduceAdd, s_impl_PutNode, TNode.row, tNode_enc, h1, c1, h2, deepC_false, c2, Bool.false_eq_true]
theorem nodeOf_bad (b : List UInt8) (lf : Int) (n : Nat) (j : Int) : (nodeOf b lf n j true).2.2 = true := by
  unfold nodeOf
  simp only [gsT_bad, gsU_bad]
  split <;> rfl
theorem nodeEnd_bad2 {b : List UInt8} {q : TNode × Int × Bool} (h : q.2.2 = true) : nodeEnd b q = (noNode, false) := by simp [nodeEnd, h]
def nodeFin (b : List UInt8) (q : TNode × Int × Bool) : TNode × Bool := if q.2.2 = false ∧ ¬ putNode q.1 = [] ∧ putNode q.1 = b then (q.1, true) else (noNode, false)
theorem nodeFin_bad {b : List UInt8} {q : TNode × Int × Bool} (h : q.2.2 = true) : nodeFin b q = (noNode, false) := by simp [nodeFin, h]
theorem nodeFin_nil {b : List UInt8} {x : TNode} (i : Int) (bad : Bool) (h : putNode x = []) : nodeFin b (x, i, bad) = (noNode, false) := by simp [nodeFin, h]
theorem nodeFin_ne {b : List UInt8} {x : TNode} (i : Int) (bad : Bool) (h : ¬ putNode x = b) : nodeFin b (x, i, bad) = (noNode, false) := by simp [nodeFin, h]
theorem nodeFin_ok {b : List UInt8} {x : TNode} {i : Int} (h : ¬ putNode x = []) (h2 : putNode x = b) : nodeFin b (x, i, false) = (x, true) := by unfold nodeFin; rw [if_pos ⟨rfl, h, h2⟩]
theorem nodeBody_ne (x : TNode) : ¬ nodeBody x = [] := by
  intro h
  have := (uenc_len (clampN (leafN x.fLeaf)) (clampN_le _)).2
  have h2 := congrArg List.length h
  unfold nodeBody nodeHead at h2
  simp only [List.length_append, List.length_nil] at h2
  omega
theorem end_fin {b : List UInt8} {x : TNode} {i : Int} (h0 : 0 ≤ i) (h1 : i ≤ b.length) (h : b = nodeBody x ++ b.drop i.toNat) : nodeEnd b (x, i, false) = nodeFin b (x, i, false) := by
  cases hk : nodeOk x with
  | false => rw [nodeEnd_no _ hk, nodeFin_nil _ _ (by unfold putNode; simp [hk])]
  | true =>
    have hp : putNode x = nodeBody x := by unfold putNode; simp [hk]
    by_cases hi : i = b.length
    · have hd : b.drop i.toNat = [] := List.drop_eq_nil_of_le (by omega)
      rw [hd, List.append_nil] at h
      rw [nodeEnd_ok hi hk, nodeFin_ok (by rw [hp]; exact nodeBody_ne x) (by rw [hp]; exact h.symm)]
    · rw [nodeEnd_at _ _ hi, nodeFin_ne]
      rw [hp]
      intro he
      have hl := congrArg List.length h
      rw [List.length_append, List.length_drop, he] at hl
      omega
theorem nodeOf_inv {b : List UInt8} {lf : Int} {n : Nat} {j i : Int} {x : TNode} (h0 : 0 ≤ j) (h1 : j ≤ b.length) (hlf : lf = 0 ∨ lf = 1) (h : nodeOf b lf n j false = (x, i, false)) : b.drop j.toNat = texts x.fKeys ++ (if x.fLeaf then texts x.fVals else nums x.fKids) ++ b.drop i.toNat ∧ x.fKeys.length = n ∧ leafN x.fLeaf = lf ∧ (n : Int) ≤ i ∧ i ≤ b.length := by
  unfold nodeOf at h
  rcases hk : gsT b n j false with ⟨ks, j2, b2⟩
  rw [hk] at h
  simp only at h
  cases b2 with
  | true =>
    simp only [gsT_bad, gsU_bad] at h
    split at h <;> simp at h
  | false =>
    obtain ⟨a1, a2, a3, a4⟩ := gsT_inv b n j ks j2 h0 h1 hk
    split at h
    · rename_i hl
      rcases hv : gsT b n j2 false with ⟨vs, j3, b3⟩
      rw [hv] at h
      simp only [Prod.mk.injEq] at h
      obtain ⟨rfl, rfl, rfl⟩ := h
      obtain ⟨c1, c2, c3, c4⟩ := gsT_inv b n j2 vs j3 (by omega) a3 hv
      refine ⟨?_, a4, by rw [hl]; rfl, by omega, c3⟩
      rw [a1, c1]
      simp
    · rename_i hl
      rcases hv : gsU b (n + 1) j2 false with ⟨vs, j3, b3⟩
      rw [hv] at h
      simp only [Prod.mk.injEq] at h
      obtain ⟨rfl, rfl, rfl⟩ := h
      obtain ⟨c1, c2, c3, c4⟩ := gsU_inv b (n + 1) j2 vs j3 (by omega) a3 hv
      have hl0 : lf = 0 := by rcases hlf with h | h; exact h; exact absurd h hl
      refine ⟨?_, a4, by rw [hl0]; rfl, by omega, c3⟩
      rw [a1, c1]
      simp
theorem getNode_fin {b : List UInt8} (hb : b.length ≤ 240) {k i1 n j : Int} {ok1 ok2 : Bool} (hu : getU b 0 = (k, i1, ok1)) (hw : getU b i1 = (n, j, ok2)) :
    getNode b = nodeFin b (nodeOf b k n.toNat j (!(ok1 && ok2 && inR k 0 1 && decide (n ≤ 240)))) := by
  have hr := getU_rng b 0
  have hr2 := getU_rng b i1
  rw [hu] at hr
  rw [hw] at hr2
  simp only at hr hr2
  have hg : getNode b = nodeEnd b (nodeOf b (headB b b.length).1 (headB b b.length).2.1.toNat (headB b b.length).2.2.1 (headB b b.length).2.2.2) := rfl
  cases ok1 with
  | false =>
    rw [show (!(false && ok2 && inR k 0 1 && decide (n ≤ 240))) = true by simp, nodeFin_bad (nodeOf_bad _ _ _ _), hg, nodeEnd_bad2]
    have : (headB b b.length).2.2.2 = true := by
      unfold headB
      rw [rU_no hu]
      simp [rU_bad]
    rw [this, nodeOf_bad]
  | true =>
  obtain ⟨r0, r1, r2, r3⟩ := hr rfl
  have hu1 := rU_ok hu
  cases ok2 with
  | false =>
    rw [show (!(true && false && inR k 0 1 && decide (n ≤ 240))) = true by simp, nodeFin_bad (nodeOf_bad _ _ _ _), hg, nodeEnd_bad2]
    have : (headB b b.length).2.2.2 = true := by
      unfold headB
      rw [hu1]
      simp [rU_no hw]
    rw [this, nodeOf_bad]
  | true =>
  obtain ⟨s0, s1, s2, s3⟩ := hr2 rfl
  have hw1 := rU_ok hw
  have hH : headB b b.length = (k, n, j, decide (1 < k) || decide ((b.length : Int) < n)) := by
    unfold headB
    rw [hu1]
    simp only
    rw [hw1]
    simp
  rw [hg, hH]
  simp only
  by_cases hk : 1 < k
  · rw [show (!(true && true && inR k 0 1 && decide (n ≤ 240))) = true by simp [inR]; omega, nodeFin_bad (nodeOf_bad _ _ _ _), nodeEnd_bad2]
    simp only [hk, decide_true, Bool.true_or]
    exact nodeOf_bad _ _ _ _
  · have hk2 : inR k 0 1 = true := by simp [inR]; omega
    by_cases hn : 240 < n
    · have hl : (b.length : Int) < n := by omega
      rw [show (!(true && true && inR k 0 1 && decide (n ≤ 240))) = true by simp; omega, nodeFin_bad (nodeOf_bad _ _ _ _), nodeEnd_bad2]
      simp only [hl, decide_true, Bool.or_true]
      exact nodeOf_bad _ _ _ _
    · rw [show (!(true && true && inR k 0 1 && decide (n ≤ 240))) = false by simp [hk2]; omega, decide_eq_false hk, Bool.false_or]
      obtain ⟨n, rfl⟩ : ∃ m : Nat, n = (m : Int) := ⟨n.toNat, by omega⟩
      rw [Int.toNat_natCast]
      rcases hq : nodeOf b k n j false with ⟨x, i, bad⟩
      by_cases hl : (b.length : Int) < n
      · rw [decide_eq_true hl, nodeEnd_bad2 (nodeOf_bad _ _ _ _)]
        cases bad with
        | true => rw [nodeFin_bad rfl]
        | false =>
          obtain ⟨a1, a2, a3, a4, a5⟩ := nodeOf_inv s2 s3 (by omega) hq
          omega
      · rw [decide_eq_false hl, hq]
        cases bad with
        | true => rw [nodeFin_bad rfl, nodeEnd_bad]
        | false =>
          obtain ⟨a1, a2, a3, a4, a5⟩ := nodeOf_inv s2 s3 (by omega) hq
          refine end_fin (by omega) a5 ?_
          have e1 := (rU_inv hu1).1
          have e2 := (rU_inv hw1).1
          simp only [Int.toNat_zero, List.drop_zero] at e1
          conv => lhs; rw [e1, e2, a1]
          unfold nodeBody nodeHead
          rw [a2, a3]
          simp
theorem getU_fail {b : List UInt8} {i n j : Int} (h : getU b i = (n, j, false)) : n = 0 := by
  unfold getU at h
  split at h
  · simp only [Prod.mk.injEq] at h; exact h.1.symm
  · split at h
    · simp only [Prod.mk.injEq] at h; exact h.1.symm
    · simp at h
theorem getText_fail {b s : List UInt8} {i j : Int} (h : getText b i = (s, j, false)) : s = [] := by
  unfold getText at h
  split at h
  split at h
  · simp only [Prod.mk.injEq] at h; exact h.1.symm
  · simp at h
end Go.Proofs.YtmfkjlnhanomfaaGreat.Nl
