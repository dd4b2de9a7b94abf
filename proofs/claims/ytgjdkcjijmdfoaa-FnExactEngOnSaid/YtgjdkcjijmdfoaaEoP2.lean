/- What the functions that FnExactEngOn calls answer, for every argument within the law's bounds: part 2. -/
import Derived.Test.YtgjdkcjijmdfoaaEoP1
import Derived.Lib.AtoiAllCases
import Derived.Lib.ItoaLen
import Derived.Lib.ItoaMem
import Derived.Lib.ItoaNum
set_option linter.unusedVariables false
set_option linter.unusedSimpArgs false
set_option linter.unnecessarySimpa false
/- What the functions that FnExactEngOn calls answer: part 9. -/
namespace Go.Proofs.Ytgjdkcjijmdfoaa.Eo
open Go Go.RowKit Go.Ev
set_option linter.unusedSimpArgs false
set_option linter.unusedVariables false
set_option maxHeartbeats 1600000
def mkE_Fault (v : TFault) (k : Int) : TFault := ⟨k, k + 1, k + 1 + 1⟩
def cnE_Fault (v : TFault) : Nat := 3
theorem mi_Fault : MkI mkE_Fault cnE_Fault := fun v k => by
  constructor
  · simp only [mkE_Fault]
  · simp only [mkE_Fault, cnE_Fault]
theorem mf_Fault : MkF tFault mkE_Fault cnE_Fault := fun v k hf h0 h1 => by
  exact trivial
theorem cb_Fault (v : TFault) : cnE_Fault v ≤ 10 * (1 + tFault.cost v) := by
  have hcost : tFault.cost v = 0 := rfl
  unfold cnE_Fault
  omega
theorem mb_laws_markFaultS (cs)  : MkB (EE cs) b_laws_markFaultS tFault mkE_Fault cnE_Fault := by
  intro m e h r len i k A c B v R e0 e5 e1 hr hA hi hc hd hnd hrR hlt hrn hf hk hk2
  obtain ⟨c0, c1, c2, rfl⟩ := len3 hc
  replace e0 : e 0 = .sl r 0 len 3 := e0
  replace hA : A.length = i * 3 := hA
  replace hr : h.hp r = some (A ++ c0 :: c1 :: c2 :: B) := hr
  replace hd : dfzL (dfz m h) [c0, c1, c2] = some ([.int .i64 v.fAt, .int .i64 v.fKeep, .int .i64 v.fCut], R) := hd
  obtain ⟨R0, S0, d0, hd0, rfl⟩ := dfzL_cons_inv hd
  obtain ⟨rfl, rfl⟩ := dfz_int d0
  obtain ⟨R1, S1, d1, hd1, rfl⟩ := dfzL_cons_inv hd0
  obtain ⟨rfl, rfl⟩ := dfz_int d1
  obtain ⟨R2, S2, d2, hd2, rfl⟩ := dfzL_cons_inv hd1
  obtain ⟨rfl, rfl⟩ := dfz_int d2
  obtain ⟨_, rfl⟩ := dfzL_nil_inv hd2
  simp only [List.nil_append, List.append_nil] at hnd hrR hlt ⊢
  unfold cnE_Fault at hk2
  have hcn : k + ((cnE_Fault v : Nat) : Int) = k + 1 + 1 + 1 := by unfold cnE_Fault; omega
  have w0 : IntKind.wrap .i64 (k + 1) = k + 1 := wrapId (by omega) (by omega)
  have w1 : IntKind.wrap .i64 (k + 1 + 1) = k + 1 + 1 := wrapId (by omega) (by omega)
  have w2 : IntKind.wrap .i64 (k + 1 + 1 + 1) = k + 1 + 1 + 1 := wrapId (by omega) (by omega)
  have ia := fun h => kIa_mid (r := r) (h := h) hA hi
  have dl : decide ((i : Int) < (len : Int)) = true := decide_eq_true (by omega)
  simp only [go_sem, kSt_ptr, Nat.reduceBEq, Nat.reduceAdd, Nat.reduceEqDiff, Nat.reduceLeDiff, Nat.reduceSub, reduceIte, Int.reduceBEq, Int.reduceEq, Int.reduceLT, Int.reduceLE, Int.reduceGT, Int.reduceGE, Int.reduceNe, Int.reduceBNe, b_laws_markFaultS, w0, w1, w2, e0, e5, e1, ia, hr]
  refine ⟨rfl, by rw [hcn], [.int .i64 (k), .int .i64 (k + 1), .int .i64 (k + 1 + 1)], rfl, rfl, ?_, fun q hq hqr _ => by simp [hqr]⟩
  exact dfzL_leafs fun c hc => by
    simp only [List.mem_cons, List.not_mem_nil, or_false] at hc
    rcases hc with rfl | rfl | rfl <;> rfl
theorem mk_laws_markFaultS (cs)  : MkS (EE cs) 47 (sliceT tFault) (mkL mkE_Fault cnE_Fault) (cntL cnE_Fault) := mkS_ok (st_laws_markFaultS cs) (by decide) (mb_laws_markFaultS cs)
def mkV_Disk (v : TDisk) (k : Int) : TDisk := ⟨(mkL (mkL mkE_byte cnE_byte) (cntL cnE_byte)) v.fSecs (k), (mkL mkE_Write cnE_Write) v.fCache (k + (((cntL (cntL cnE_byte)) v.fSecs : Nat) : Int)), v.fOps, (mkL mkE_Fault cnE_Fault) v.fFaults (k + (((cntL (cntL cnE_byte)) v.fSecs : Nat) : Int) + (((cntL cnE_Write) v.fCache : Nat) : Int)), v.fDown⟩
def cnV_Disk (v : TDisk) : Nat := (cntL (cntL cnE_byte)) v.fSecs + (cntL cnE_Write) v.fCache + (cntL cnE_Fault) v.fFaults
theorem miV_Disk : MkI mkV_Disk cnV_Disk := fun v k => by
  constructor
  · simp only [mkV_Disk, ((mkL_idem (mkL_idem mi_byte)) _ _).1, ((mkL_idem (mkL_idem mi_byte)) _ _).2, ((mkL_idem mi_Write) _ _).1, ((mkL_idem mi_Write) _ _).2, ((mkL_idem mi_Fault) _ _).1, ((mkL_idem mi_Fault) _ _).2]
  · simp only [mkV_Disk, cnV_Disk, ((mkL_idem (mkL_idem mi_byte)) _ _).1, ((mkL_idem (mkL_idem mi_byte)) _ _).2, ((mkL_idem mi_Write) _ _).1, ((mkL_idem mi_Write) _ _).2, ((mkL_idem mi_Fault) _ _).1, ((mkL_idem mi_Fault) _ _).2]
theorem mfV_Disk : MkF tDisk mkV_Disk cnV_Disk := fun v k hf h0 h1 => by
  unfold cnV_Disk at h1
  exact ⟨(mkL_fits (mkL_fits mf_byte)) v.fSecs (k) (by exact hf.1) (by omega) (by omega), (mkL_fits mf_Write) v.fCache (k + (((cntL (cntL cnE_byte)) v.fSecs : Nat) : Int)) (by exact hf.2.1) (by omega) (by omega), (mkL_fits mf_Fault) v.fFaults (k + (((cntL (cntL cnE_byte)) v.fSecs : Nat) : Int) + (((cntL cnE_Write) v.fCache : Nat) : Int)) (by exact hf.2.2) (by omega) (by omega)⟩
theorem cbV_Disk (v : TDisk) : cnV_Disk v ≤ 10 * tDisk.cost v := by
  have hcost : tDisk.cost v = (sliceT (sliceT u8T)).cost v.fSecs + (sliceT tWrite).cost v.fCache + (sliceT tFault).cost v.fFaults := rfl
  have q_Secs := cntL_le (T := (sliceT u8T)) (fun l => Nat.le_trans (cntL_le cb_byte l) (by omega)) v.fSecs
  have q_Cache := cntL_le (T := tWrite) cb_Write v.fCache
  have q_Faults := cntL_le (T := tFault) cb_Fault v.fFaults
  unfold cnV_Disk
  omega
theorem mk_laws_markDisk (cs) (m_laws_markByteSS : MkS (EE cs) 45 (sliceT (sliceT u8T)) (mkL (mkL mkE_byte cnE_byte) (cntL cnE_byte)) (cntL (cntL cnE_byte))) (m_laws_markWriteS : MkS (EE cs) 46 (sliceT tWrite) (mkL mkE_Write cnE_Write) (cntL cnE_Write)) (m_laws_markFaultS : MkS (EE cs) 47 (sliceT tFault) (mkL mkE_Fault cnE_Fault) (cntL cnE_Fault)) : MkS (EE cs) 21 tDisk mkV_Disk cnV_Disk := by
  intro n v k x R h hf hk hk2 hd hnd hlt
  obtain ⟨cs0, rfl, hd1⟩ := dfzT_agg_inv (ts := v.row) hd
  obtain ⟨c0, c1, c2, c3, c4, rfl⟩ := len5 (dfzL_spec hd1).symm
  replace hd : dfzL (dfz n h) [c0, c1, c2, c3, c4] = some ([.imm (v.fSecs.map (sliceT u8T).row), .imm (v.fCache.map TWrite.row), .int .i64 v.fOps, .imm (v.fFaults.map TFault.row), .bool v.fDown], R) := hd1
  obtain ⟨R0, S0, d0, hd_0, rfl⟩ := dfzL_cons_inv hd
  have D0 : dfzT n h c0 = some ((sliceT (sliceT u8T)).enc v.fSecs, R0) := dfzT_cell d0
  obtain ⟨R1, S1, d1, hd_1, rfl⟩ := dfzL_cons_inv hd_0
  have D1 : dfzT n h c1 = some ((sliceT tWrite).enc v.fCache, R1) := dfzT_cell d1
  obtain ⟨R2, S2, d2, hd_2, rfl⟩ := dfzL_cons_inv hd_1
  obtain ⟨rfl, rfl⟩ := dfz_int d2
  obtain ⟨R3, S3, d3, hd_3, rfl⟩ := dfzL_cons_inv hd_2
  have D3 : dfzT n h c3 = some ((sliceT tFault).enc v.fFaults, R3) := dfzT_cell d3
  obtain ⟨R4, S4, d4, hd_4, rfl⟩ := dfzL_cons_inv hd_3
  obtain ⟨rfl, rfl⟩ := dfz_bool d4
  obtain ⟨_, rfl⟩ := dfzL_nil_inv hd_4
  simp only [List.nil_append, List.append_nil] at hnd hlt ⊢
  unfold cnV_Disk at hk2
  have hcn : k + ((cnV_Disk v : Nat) : Int) = k + (((cntL (cntL cnE_byte)) v.fSecs : Nat) : Int) + (((cntL cnE_Write) v.fCache : Nat) : Int) + (((cntL cnE_Fault) v.fFaults : Nat) : Int) := by unfold cnV_Disk; omega
  have in0 : ∀ q ∈ R0, q < h.nx := fun q hq => hlt q (List.mem_append.2 (.inl hq))
  have in1 : ∀ q ∈ R1, q < h.nx := fun q hq => hlt q (List.mem_append.2 (.inr (List.mem_append.2 (.inl hq))))
  have in3 : ∀ q ∈ R3, q < h.nx := fun q hq => hlt q (List.mem_append.2 (.inr (List.mem_append.2 (.inr hq))))
  obtain ⟨nd0, ndr0, dj0⟩ := List.nodup_append.1 hnd
  obtain ⟨nd1, ndr1, dj1⟩ := List.nodup_append.1 ndr0
  have nd3 := ndr1
  have ap0_1 : ∀ q, q ∈ R0 → q ∈ R1 → False := fun q hx hq => dj0 q hx q (List.mem_append.2 (.inl hq)) rfl
  have ap1_0 : ∀ q, q ∈ R1 → q ∈ R0 → False := fun q h1 h2 => ap0_1 q h2 h1
  have ap0_3 : ∀ q, q ∈ R0 → q ∈ R3 → False := fun q hx hq => dj0 q hx q (List.mem_append.2 (.inr hq)) rfl
  have ap3_0 : ∀ q, q ∈ R3 → q ∈ R0 → False := fun q h1 h2 => ap0_3 q h2 h1
  have ap1_3 : ∀ q, q ∈ R1 → q ∈ R3 → False := fun q hx hq => dj1 q hx q hq rfl
  have ap3_1 : ∀ q, q ∈ R3 → q ∈ R1 → False := fun q h1 h2 => ap1_3 q h2 h1
  have key : ∃ rr, RunF (EE cs) 21 [.agg [c0, c1, .int .i64 v.fOps, c3, .bool v.fDown], .int .i64 k] h rr ∧ ∃ h', rr = (.int .i64 (k + ((cnV_Disk v : Nat) : Int)), h') ∧ dfzL (dfz n h') [c0, c1, .int .i64 v.fOps, c3, .bool v.fDown] = some ((mkV_Disk v k).row, R0 ++ (R1 ++ (R3))) ∧ (∀ q, q < h.nx → q ∉ (R0 ++ (R1 ++ (R3))) → h'.hp q = h.hp q) ∧ h.nx ≤ h'.nx := by
    refine run_wp (st_laws_markDisk cs) ?_
    replace D0 := dfzT_frame (h' := h.new [c0, c1, .int .i64 v.fOps, c3, .bool v.fDown]) (S := R0) (fun q hq => by have := in0 q hq; simp [Hp.new, show q ≠ h.nx by omega]) D0 fun _ hq => hq
    replace D1 := dfzT_frame (h' := h.new [c0, c1, .int .i64 v.fOps, c3, .bool v.fDown]) (S := R1) (fun q hq => by have := in1 q hq; simp [Hp.new, show q ≠ h.nx by omega]) D1 fun _ hq => hq
    replace D3 := dfzT_frame (h' := h.new [c0, c1, .int .i64 v.fOps, c3, .bool v.fDown]) (S := R3) (fun q hq => by have := in3 q hq; simp [Hp.new, show q ≠ h.nx by omega]) D3 fun _ hq => hq
    have bx : (h.new [c0, c1, .int .i64 v.fOps, c3, .bool v.fDown]).hp h.nx = some [c0, c1, .int .i64 v.fOps, c3, .bool v.fDown] := by simp [Hp.new]
    have nx0 : h.nx + 1 ≤ (h.new [c0, c1, .int .i64 v.fOps, c3, .bool v.fDown]).nx := Nat.le_refl _
    have fr : ∀ q, q < h.nx → (h.new [c0, c1, .int .i64 v.fOps, c3, .bool v.fDown]).hp q = h.hp q := fun q hq => by simp [Hp.new, show q ≠ h.nx by omega]
    simp only [go_sem, kSt_ptr, Nat.reduceBEq, Nat.reduceAdd, Nat.reduceEqDiff, Nat.reduceLeDiff, Nat.reduceSub, reduceIte, Int.reduceBEq, Int.reduceEq, Int.reduceLT, Int.reduceLE, Int.reduceGT, Int.reduceGE, Int.reduceNe, Int.reduceBNe, s_laws_markDisk, tDisk_enc, m_laws_markByteSS, m_laws_markWriteS, m_laws_markFaultS]
    refine hP_mark (n := n) m_laws_markByteSS (by exact hf.1) (by omega) (by omega) (R := R0) D0 nd0 (fun q hq => Nat.lt_of_lt_of_le (in0 q hq) (by exact Nat.le_succ _)) ?_
    intro h0 z0 p0 n0
    have nx1 : h.nx + 1 ≤ h0.nx := Nat.le_trans nx0 n0
    replace bx : h0.hp h.nx = some [c0, c1, .int .i64 v.fOps, c3, .bool v.fDown] := (p0 h.nx (Nat.lt_of_lt_of_le (Nat.lt_succ_self _) nx0) fun hx => Nat.lt_irrefl _ (in0 _ hx)).trans bx
    replace D0 := z0
    replace D1 := dfzT_frame (h' := h0) (S := R1) (fun q hq => p0 q (Nat.lt_of_lt_of_le (in1 q hq) (by exact Nat.le_succ _)) fun hx => ap1_0 q hq hx) D1 fun _ hq => hq
    replace D3 := dfzT_frame (h' := h0) (S := R3) (fun q hq => p0 q (Nat.lt_of_lt_of_le (in3 q hq) (by exact Nat.le_succ _)) fun hx => ap3_0 q hq hx) D3 fun _ hq => hq
    simp only [go_sem, kSt_ptr, Nat.reduceBEq, Nat.reduceAdd, Nat.reduceEqDiff, Nat.reduceLeDiff, Nat.reduceSub, reduceIte, Int.reduceBEq, Int.reduceEq, Int.reduceLT, Int.reduceLE, Int.reduceGT, Int.reduceGE, Int.reduceNe, Int.reduceBNe, tDisk_enc, m_laws_markByteSS, m_laws_markWriteS, m_laws_markFaultS, bx]
    refine hP_mark (n := n) m_laws_markWriteS (by exact hf.2.1) (by omega) (by omega) (R := R1) D1 nd1 (fun q hq => Nat.lt_of_lt_of_le (in1 q hq) (by omega)) ?_
    intro h1 z1 p1 n1
    have nx2 : h.nx + 1 ≤ h1.nx := Nat.le_trans nx1 n1
    replace bx : h1.hp h.nx = some [c0, c1, .int .i64 v.fOps, c3, .bool v.fDown] := (p1 h.nx (Nat.lt_of_lt_of_le (Nat.lt_succ_self _) nx1) fun hx => Nat.lt_irrefl _ (in1 _ hx)).trans bx
    replace D0 := dfzT_frame (h' := h1) (S := R0) (fun q hq => p1 q (Nat.lt_of_lt_of_le (in0 q hq) (by omega)) fun hx => ap0_1 q hq hx) D0 fun _ hq => hq
    replace D1 := z1
    replace D3 := dfzT_frame (h' := h1) (S := R3) (fun q hq => p1 q (Nat.lt_of_lt_of_le (in3 q hq) (by omega)) fun hx => ap3_1 q hq hx) D3 fun _ hq => hq
    simp only [go_sem, kSt_ptr, Nat.reduceBEq, Nat.reduceAdd, Nat.reduceEqDiff, Nat.reduceLeDiff, Nat.reduceSub, reduceIte, Int.reduceBEq, Int.reduceEq, Int.reduceLT, Int.reduceLE, Int.reduceGT, Int.reduceGE, Int.reduceNe, Int.reduceBNe, tDisk_enc, m_laws_markByteSS, m_laws_markWriteS, m_laws_markFaultS, bx]
    refine hP_mark (n := n) m_laws_markFaultS (by exact hf.2.2) (by omega) (by omega) (R := R3) D3 nd3 (fun q hq => Nat.lt_of_lt_of_le (in3 q hq) (by omega)) ?_
    intro h3 z3 p3 n3
    have nx4 : h.nx + 1 ≤ h3.nx := Nat.le_trans nx2 n3
    replace bx : h3.hp h.nx = some [c0, c1, .int .i64 v.fOps, c3, .bool v.fDown] := (p3 h.nx (Nat.lt_of_lt_of_le (Nat.lt_succ_self _) nx2) fun hx => Nat.lt_irrefl _ (in3 _ hx)).trans bx
    replace D0 := dfzT_frame (h' := h3) (S := R0) (fun q hq => p3 q (Nat.lt_of_lt_of_le (in0 q hq) (by omega)) fun hx => ap0_3 q hq hx) D0 fun _ hq => hq
    replace D1 := dfzT_frame (h' := h3) (S := R1) (fun q hq => p3 q (Nat.lt_of_lt_of_le (in1 q hq) (by omega)) fun hx => ap1_3 q hq hx) D1 fun _ hq => hq
    replace D3 := z3
    simp only [go_sem, kSt_ptr, Nat.reduceBEq, Nat.reduceAdd, Nat.reduceEqDiff, Nat.reduceLeDiff, Nat.reduceSub, reduceIte, Int.reduceBEq, Int.reduceEq, Int.reduceLT, Int.reduceLE, Int.reduceGT, Int.reduceGE, Int.reduceNe, Int.reduceBNe, tDisk_enc, m_laws_markByteSS, m_laws_markWriteS, m_laws_markFaultS, bx]
    refine ⟨fun i e => (by cases e), _, rfl, h3, by rw [hcn], ?_, fun q hq hqR => ?_, by omega⟩
    · have hz : dfzL (dfz n h3) [c0, c1, .int .i64 v.fOps, c3, .bool v.fDown] = _ := (dfzL_cons (dfzT_cell_inv D0) (dfzL_cons (dfzT_cell_inv D1) (dfzL_cons (dfz_int' _ _) (dfzL_cons (dfzT_cell_inv D3) (dfzL_cons (dfz_bool' _) rfl)))))
      simp only [List.nil_append, List.append_nil, List.cons_append] at hz
      exact hz
    · simp only [List.mem_append, not_or] at hqR
      exact (((p3 q (by omega) hqR.2.2).trans (p1 q (by omega) hqR.2.1)).trans (p0 q (by show q < h.nx + 1; omega) hqR.1)).trans (fr q hq)
  obtain ⟨rr, h1, h', rfl, z, p, nn⟩ := key
  exact ⟨h', h1, dfzT_agg z, p, nn⟩
def mkV_Eng (v : TEng) (k : Int) : TEng := ⟨(mkL mkE_Def cnE_Def) v.fS (k), mkV_Disk v.fD (k + (((cntL cnE_Def) v.fS : Nat) : Int))⟩
def cnV_Eng (v : TEng) : Nat := (cntL cnE_Def) v.fS + cnV_Disk v.fD
theorem miV_Eng : MkI mkV_Eng cnV_Eng := fun v k => by
  constructor
  · simp only [mkV_Eng, ((mkL_idem mi_Def) _ _).1, ((mkL_idem mi_Def) _ _).2, (miV_Disk _ _).1, (miV_Disk _ _).2]
  · simp only [mkV_Eng, cnV_Eng, ((mkL_idem mi_Def) _ _).1, ((mkL_idem mi_Def) _ _).2, (miV_Disk _ _).1, (miV_Disk _ _).2]
theorem mfV_Eng : MkF tEng mkV_Eng cnV_Eng := fun v k hf h0 h1 => by
  unfold cnV_Eng at h1
  exact ⟨(mkL_fits mf_Def) v.fS (k) (by exact hf.1) (by omega) (by omega), mfV_Disk v.fD (k + (((cntL cnE_Def) v.fS : Nat) : Int)) (by exact hf.2) (by omega) (by omega)⟩
theorem cbV_Eng (v : TEng) : cnV_Eng v ≤ 10 * tEng.cost v := by
  have hcost : tEng.cost v = (sliceT tDef).cost v.fS + tDisk.cost v.fD := rfl
  have q_S := cntL_le (T := tDef) cb_Def v.fS
  have q_D := cbV_Disk v.fD
  unfold cnV_Eng
  omega
theorem mk_laws_markEng (cs) (m_laws_markDefS : MkS (EE cs) 20 (sliceT tDef) (mkL mkE_Def cnE_Def) (cntL cnE_Def)) (m_laws_markDisk : MkS (EE cs) 21 tDisk mkV_Disk cnV_Disk) : MkS (EE cs) 9 tEng mkV_Eng cnV_Eng := by
  intro n v k x R h hf hk hk2 hd hnd hlt
  obtain ⟨cs0, rfl, hd1⟩ := dfzT_agg_inv (ts := v.row) hd
  obtain ⟨c0, c1, c2, c3, c4, c5, rfl⟩ := len6 (dfzL_spec hd1).symm
  replace hd : dfzL (dfz n h) [c0, c1, c2, c3, c4, c5] = some ([.imm (v.fS.map TDef.row), .imm (v.fD.fSecs.map (sliceT u8T).row), .imm (v.fD.fCache.map TWrite.row), .int .i64 v.fD.fOps, .imm (v.fD.fFaults.map TFault.row), .bool v.fD.fDown], R) := hd1
  obtain ⟨R0, S0, d0, hd_0, rfl⟩ := dfzL_cons_inv hd
  have D0 : dfzT n h c0 = some ((sliceT tDef).enc v.fS, R0) := dfzT_cell d0
  obtain ⟨us1, R1, ws1, S1, d1, hd_1, e1, rfl⟩ := dfzL_inv (l := [c1, c2, c3, c4, c5]) (m := []) hd_0
  obtain ⟨rfl, rfl⟩ := List.append_inj (s₁ := (v.fD).row) (t₁ := []) e1 (by rw [dfzL_spec d1]; rfl)
  have D1 : dfzT n h (.agg [c1, c2, c3, c4, c5]) = some (tDisk.enc v.fD, R1) := dfzT_agg d1
  obtain ⟨_, rfl⟩ := dfzL_nil_inv hd_1
  simp only [List.nil_append, List.append_nil] at hnd hlt ⊢
  unfold cnV_Eng at hk2
  have hcn : k + ((cnV_Eng v : Nat) : Int) = k + (((cntL cnE_Def) v.fS : Nat) : Int) + ((cnV_Disk v.fD : Nat) : Int) := by unfold cnV_Eng; omega
  have in0 : ∀ q ∈ R0, q < h.nx := fun q hq => hlt q (List.mem_append.2 (.inl hq))
  have in1 : ∀ q ∈ R1, q < h.nx := fun q hq => hlt q (List.mem_append.2 (.inr hq))
  obtain ⟨nd0, ndr0, dj0⟩ := List.nodup_append.1 hnd
  have nd1 := ndr0
  have ap0_1 : ∀ q, q ∈ R0 → q ∈ R1 → False := fun q hx hq => dj0 q hx q hq rfl
  have ap1_0 : ∀ q, q ∈ R1 → q ∈ R0 → False := fun q h1 h2 => ap0_1 q h2 h1
  have key : ∃ rr, RunF (EE cs) 9 [.agg [c0, c1, c2, c3, c4, c5], .int .i64 k] h rr ∧ ∃ h', rr = (.int .i64 (k + ((cnV_Eng v : Nat) : Int)), h') ∧ dfzL (dfz n h') [c0, c1, c2, c3, c4, c5] = some ((mkV_Eng v k).row, R0 ++ (R1)) ∧ (∀ q, q < h.nx → q ∉ (R0 ++ (R1)) → h'.hp q = h.hp q) ∧ h.nx ≤ h'.nx := by
    refine run_wp (st_laws_markEng cs) ?_
    replace D0 := dfzT_frame (h' := h.new [c0, c1, c2, c3, c4, c5]) (S := R0) (fun q hq => by have := in0 q hq; simp [Hp.new, show q ≠ h.nx by omega]) D0 fun _ hq => hq
    replace D1 := dfzT_frame (h' := h.new [c0, c1, c2, c3, c4, c5]) (S := R1) (fun q hq => by have := in1 q hq; simp [Hp.new, show q ≠ h.nx by omega]) D1 fun _ hq => hq
    have bx : (h.new [c0, c1, c2, c3, c4, c5]).hp h.nx = some [c0, c1, c2, c3, c4, c5] := by simp [Hp.new]
    have nx0 : h.nx + 1 ≤ (h.new [c0, c1, c2, c3, c4, c5]).nx := Nat.le_refl _
    have fr : ∀ q, q < h.nx → (h.new [c0, c1, c2, c3, c4, c5]).hp q = h.hp q := fun q hq => by simp [Hp.new, show q ≠ h.nx by omega]
    simp only [go_sem, kSt_ptr, Nat.reduceBEq, Nat.reduceAdd, Nat.reduceEqDiff, Nat.reduceLeDiff, Nat.reduceSub, reduceIte, Int.reduceBEq, Int.reduceEq, Int.reduceLT, Int.reduceLE, Int.reduceGT, Int.reduceGE, Int.reduceNe, Int.reduceBNe, s_laws_markEng, tEng_enc, m_laws_markDefS, m_laws_markDisk]
    refine hP_mark (n := n) m_laws_markDefS (by exact hf.1) (by omega) (by omega) (R := R0) D0 nd0 (fun q hq => Nat.lt_of_lt_of_le (in0 q hq) (by exact Nat.le_succ _)) ?_
    intro h0 z0 p0 n0
    have nx1 : h.nx + 1 ≤ h0.nx := Nat.le_trans nx0 n0
    replace bx : h0.hp h.nx = some [c0, c1, c2, c3, c4, c5] := (p0 h.nx (Nat.lt_of_lt_of_le (Nat.lt_succ_self _) nx0) fun hx => Nat.lt_irrefl _ (in0 _ hx)).trans bx
    replace D0 := z0
    replace D1 := dfzT_frame (h' := h0) (S := R1) (fun q hq => p0 q (Nat.lt_of_lt_of_le (in1 q hq) (by exact Nat.le_succ _)) fun hx => ap1_0 q hq hx) D1 fun _ hq => hq
    simp only [go_sem, kSt_ptr, Nat.reduceBEq, Nat.reduceAdd, Nat.reduceEqDiff, Nat.reduceLeDiff, Nat.reduceSub, reduceIte, Int.reduceBEq, Int.reduceEq, Int.reduceLT, Int.reduceLE, Int.reduceGT, Int.reduceGE, Int.reduceNe, Int.reduceBNe, tEng_enc, m_laws_markDefS, m_laws_markDisk, bx]
    refine hP_mark (n := n) m_laws_markDisk (by exact hf.2) (by omega) (by omega) (R := R1) D1 nd1 (fun q hq => Nat.lt_of_lt_of_le (in1 q hq) (by omega)) ?_
    intro h1 z1 p1 n1
    have nx2 : h.nx + 1 ≤ h1.nx := Nat.le_trans nx1 n1
    replace bx : h1.hp h.nx = some [c0, c1, c2, c3, c4, c5] := (p1 h.nx (Nat.lt_of_lt_of_le (Nat.lt_succ_self _) nx1) fun hx => Nat.lt_irrefl _ (in1 _ hx)).trans bx
    replace D0 := dfzT_frame (h' := h1) (S := R0) (fun q hq => p1 q (Nat.lt_of_lt_of_le (in0 q hq) (by omega)) fun hx => ap0_1 q hq hx) D0 fun _ hq => hq
    replace D1 := z1
    simp only [go_sem, kSt_ptr, Nat.reduceBEq, Nat.reduceAdd, Nat.reduceEqDiff, Nat.reduceLeDiff, Nat.reduceSub, reduceIte, Int.reduceBEq, Int.reduceEq, Int.reduceLT, Int.reduceLE, Int.reduceGT, Int.reduceGE, Int.reduceNe, Int.reduceBNe, tEng_enc, m_laws_markDefS, m_laws_markDisk, bx]
    refine ⟨fun i e => (by cases e), _, rfl, h1, by rw [hcn], ?_, fun q hq hqR => ?_, by omega⟩
    · have hz : dfzL (dfz n h1) [c0, c1, c2, c3, c4, c5] = _ := (dfzL_cons (dfzT_cell_inv D0) (dfzL_app (dfzT_agg_cells D1) rfl))
      simp only [List.nil_append, List.append_nil, List.cons_append] at hz
      exact hz
    · simp only [List.mem_append, not_or] at hqR
      exact ((p1 q (by omega) hqR.2).trans (p0 q (by show q < h.nx + 1; omega) hqR.1)).trans (fr q hq)
  obtain ⟨rr, h1, h', rfl, z, p, nn⟩ := key
  exact ⟨h', h1, dfzT_agg z, p, nn⟩
end Go.Proofs.Ytgjdkcjijmdfoaa.Eo
/- What the functions that FnExactEngOn calls answer: part 10. -/
namespace Go.Proofs.Ytgjdkcjijmdfoaa.Eo
open Go Go.RowKit Go.Ev
set_option linter.unusedSimpArgs false
set_option linter.unusedVariables false
set_option maxHeartbeats 1600000
theorem hb_laws_heldColS (cs) (h_laws_markText : (EE cs).T 41 = some C_laws_markText) : HdB (EE cs) b_laws_heldColS tCol mkE_Col cnE_Col := by
  intro l pre v rest k e h a e0 e5 e1 hm hf hk hk2
  have g0 : mtext (k) = v.fName := congrArg TCol.fName hm
  have g1 : k + 1 = v.fType := congrArg TCol.fType hm
  have g2 : mbool (k + 1 + 1) = v.fNull := congrArg TCol.fNull hm
  unfold cnE_Col at hk2
  have hcn : k + ((cnE_Col v : Nat) : Int) = k + 1 + 1 + 1 := by unfold cnE_Col; omega
  have w0 : IntKind.wrap .i64 (k + 1) = k + 1 := wrapId (by omega) (by omega)
  have x0 := C_laws_markText_eq (k) (by omega)
  have w1 : IntKind.wrap .i64 (k + 1 + 1) = k + 1 + 1 := wrapId (by omega) (by omega)
  have w2 : IntKind.wrap .i64 (k + 1 + 1 + 1) = k + 1 + 1 + 1 := wrapId (by omega) (by omega)
  simp only [go_sem, kSt_ptr, Nat.reduceBEq, Nat.reduceAdd, Nat.reduceEqDiff, Nat.reduceLeDiff, Nat.reduceSub, reduceIte, Int.reduceBEq, Int.reduceEq, Int.reduceLT, Int.reduceLE, Int.reduceGT, Int.reduceGE, Int.reduceNe, Int.reduceBNe, b_laws_heldColS, e0, e5, e1, a.ia (row := TCol.row) (sz := 3) rfl, TCol.row, ← g0, ← g1, ← g2, w0, x0, w1, w2, mb3, krem3, h_laws_markText, hcn]
theorem ok_laws_heldColS {WI : World → Prop} (hs : Stable WI) (cs) (hT : TOK (EE cs) WI) (h_laws_markText : (EE cs).T 41 = some C_laws_markText) : ReadOK Try.prog WI 48 (hdC (sliceT tCol) (mkL mkE_Col cnE_Col) (cntL cnE_Col)) := hdS_ok (E := EE cs) hT hs (st_laws_heldColS cs) (by decide) (hb_laws_heldColS cs h_laws_markText)
theorem hb_laws_heldByS (cs)  : HdB (EE cs) b_laws_heldByS tBy mkE_By cnE_By := by
  intro l pre v rest k e h a e0 e5 e1 hm hf hk hk2
  have g0 : k = v.fCol := congrArg TBy.fCol hm
  have g1 : mbool (k + 1) = v.fDesc := congrArg TBy.fDesc hm
  unfold cnE_By at hk2
  have hcn : k + ((cnE_By v : Nat) : Int) = k + 1 + 1 := by unfold cnE_By; omega
  have w0 : IntKind.wrap .i64 (k + 1) = k + 1 := wrapId (by omega) (by omega)
  have w1 : IntKind.wrap .i64 (k + 1 + 1) = k + 1 + 1 := wrapId (by omega) (by omega)
  simp only [go_sem, kSt_ptr, Nat.reduceBEq, Nat.reduceAdd, Nat.reduceEqDiff, Nat.reduceLeDiff, Nat.reduceSub, reduceIte, Int.reduceBEq, Int.reduceEq, Int.reduceLT, Int.reduceLE, Int.reduceGT, Int.reduceGE, Int.reduceNe, Int.reduceBNe, b_laws_heldByS, e0, e5, e1, a.ia (row := TBy.row) (sz := 2) rfl, TBy.row, ← g0, ← g1, w0, w1, mb3, krem3, hcn]
theorem ok_laws_heldByS {WI : World → Prop} (hs : Stable WI) (cs) (hT : TOK (EE cs) WI)  : ReadOK Try.prog WI 49 (hdC (sliceT tBy) (mkL mkE_By cnE_By) (cntL cnE_By)) := hdS_ok (E := EE cs) hT hs (st_laws_heldByS cs) (by decide) (hb_laws_heldByS cs)
theorem hb_laws_heldIndexS (cs) (h_laws_markText : (EE cs).T 41 = some C_laws_markText) (h_laws_heldByS : (EE cs).T 49 = some (hdC (sliceT tBy) (mkL mkE_By cnE_By) (cntL cnE_By))) : HdB (EE cs) b_laws_heldIndexS tIndex mkE_Index cnE_Index := by
  intro l pre v rest k e h a e0 e5 e1 hm hf hk hk2
  have g0 : mtext (k) = v.fName := congrArg TIndex.fName hm
  have g1 : mbool (k + 1) = v.fUnique := congrArg TIndex.fUnique hm
  have g2 : (mkL mkE_By cnE_By) v.fParts (k + 1 + 1) = v.fParts := congrArg TIndex.fParts hm
  unfold cnE_Index at hk2
  have hcn : k + ((cnE_Index v : Nat) : Int) = k + 1 + 1 + (((cntL cnE_By) v.fParts : Nat) : Int) := by unfold cnE_Index; omega
  have w0 : IntKind.wrap .i64 (k + 1) = k + 1 := wrapId (by omega) (by omega)
  have x0 := C_laws_markText_eq (k) (by omega)
  have w1 : IntKind.wrap .i64 (k + 1 + 1) = k + 1 + 1 := wrapId (by omega) (by omega)
  have y2 : (hdC (sliceT tBy) (mkL mkE_By cnE_By) (cntL cnE_By)) [.imm (v.fParts.map TBy.row), .int .i64 (k + 1 + 1)] = some (.int .i64 (k + 1 + 1 + (((cntL cnE_By) v.fParts : Nat) : Int))) := hdC_eq _ _ g2 hf.2 (by omega) (by omega)
  have q2 : decide (k + 1 + 1 + (((cntL cnE_By) v.fParts : Nat) : Int) < 0) = false := decide_eq_false (by omega)
  simp only [go_sem, kSt_ptr, Nat.reduceBEq, Nat.reduceAdd, Nat.reduceEqDiff, Nat.reduceLeDiff, Nat.reduceSub, reduceIte, Int.reduceBEq, Int.reduceEq, Int.reduceLT, Int.reduceLE, Int.reduceGT, Int.reduceGE, Int.reduceNe, Int.reduceBNe, b_laws_heldIndexS, e0, e5, e1, a.ia (row := TIndex.row) (sz := 3) rfl, TIndex.row, ← g0, ← g1, w0, x0, w1, mb3, krem3, h_laws_markText, h_laws_heldByS, y2, q2, hcn]
theorem ok_laws_heldIndexS {WI : World → Prop} (hs : Stable WI) (cs) (hT : TOK (EE cs) WI) (h_laws_markText : (EE cs).T 41 = some C_laws_markText) (h_laws_heldByS : (EE cs).T 49 = some (hdC (sliceT tBy) (mkL mkE_By cnE_By) (cntL cnE_By))) : ReadOK Try.prog WI 50 (hdC (sliceT tIndex) (mkL mkE_Index cnE_Index) (cntL cnE_Index)) := hdS_ok (E := EE cs) hT hs (st_laws_heldIndexS cs) (by decide) (hb_laws_heldIndexS cs h_laws_markText h_laws_heldByS)
theorem hb_laws_heldDefS (cs) (h_laws_markText : (EE cs).T 41 = some C_laws_markText) (h_laws_heldColS : (EE cs).T 48 = some (hdC (sliceT tCol) (mkL mkE_Col cnE_Col) (cntL cnE_Col))) (h_laws_heldByS : (EE cs).T 49 = some (hdC (sliceT tBy) (mkL mkE_By cnE_By) (cntL cnE_By))) (h_laws_heldIndexS : (EE cs).T 50 = some (hdC (sliceT tIndex) (mkL mkE_Index cnE_Index) (cntL cnE_Index))) : HdB (EE cs) b_laws_heldDefS tDef mkE_Def cnE_Def := by
  intro l pre v rest k e h a e0 e5 e1 hm hf hk hk2
  have g0 : mtext (k) = v.fName := congrArg TDef.fName hm
  have g1 : (mkL mkE_Col cnE_Col) v.fCols (k + 1) = v.fCols := congrArg TDef.fCols hm
  have g2 : (mkL mkE_By cnE_By) v.fPrimary (k + 1 + (((cntL cnE_Col) v.fCols : Nat) : Int)) = v.fPrimary := congrArg TDef.fPrimary hm
  have g3 : (mkL mkE_Index cnE_Index) v.fIndexes (k + 1 + (((cntL cnE_Col) v.fCols : Nat) : Int) + (((cntL cnE_By) v.fPrimary : Nat) : Int)) = v.fIndexes := congrArg TDef.fIndexes hm
  unfold cnE_Def at hk2
  have hcn : k + ((cnE_Def v : Nat) : Int) = k + 1 + (((cntL cnE_Col) v.fCols : Nat) : Int) + (((cntL cnE_By) v.fPrimary : Nat) : Int) + (((cntL cnE_Index) v.fIndexes : Nat) : Int) := by unfold cnE_Def; omega
  have w0 : IntKind.wrap .i64 (k + 1) = k + 1 := wrapId (by omega) (by omega)
  have x0 := C_laws_markText_eq (k) (by omega)
  have y1 : (hdC (sliceT tCol) (mkL mkE_Col cnE_Col) (cntL cnE_Col)) [.imm (v.fCols.map TCol.row), .int .i64 (k + 1)] = some (.int .i64 (k + 1 + (((cntL cnE_Col) v.fCols : Nat) : Int))) := hdC_eq _ _ g1 hf.2.1 (by omega) (by omega)
  have q1 : decide (k + 1 + (((cntL cnE_Col) v.fCols : Nat) : Int) < 0) = false := decide_eq_false (by omega)
  have y2 : (hdC (sliceT tBy) (mkL mkE_By cnE_By) (cntL cnE_By)) [.imm (v.fPrimary.map TBy.row), .int .i64 (k + 1 + (((cntL cnE_Col) v.fCols : Nat) : Int))] = some (.int .i64 (k + 1 + (((cntL cnE_Col) v.fCols : Nat) : Int) + (((cntL cnE_By) v.fPrimary : Nat) : Int))) := hdC_eq _ _ g2 hf.2.2.1 (by omega) (by omega)
  have q2 : decide (k + 1 + (((cntL cnE_Col) v.fCols : Nat) : Int) + (((cntL cnE_By) v.fPrimary : Nat) : Int) < 0) = false := decide_eq_false (by omega)
  have y3 : (hdC (sliceT tIndex) (mkL mkE_Index cnE_Index) (cntL cnE_Index)) [.imm (v.fIndexes.map TIndex.row), .int .i64 (k + 1 + (((cntL cnE_Col) v.fCols : Nat) : Int) + (((cntL cnE_By) v.fPrimary : Nat) : Int))] = some (.int .i64 (k + 1 + (((cntL cnE_Col) v.fCols : Nat) : Int) + (((cntL cnE_By) v.fPrimary : Nat) : Int) + (((cntL cnE_Index) v.fIndexes : Nat) : Int))) := hdC_eq _ _ g3 hf.2.2.2 (by omega) (by omega)
  have q3 : decide (k + 1 + (((cntL cnE_Col) v.fCols : Nat) : Int) + (((cntL cnE_By) v.fPrimary : Nat) : Int) + (((cntL cnE_Index) v.fIndexes : Nat) : Int) < 0) = false := decide_eq_false (by omega)
  simp only [go_sem, kSt_ptr, Nat.reduceBEq, Nat.reduceAdd, Nat.reduceEqDiff, Nat.reduceLeDiff, Nat.reduceSub, reduceIte, Int.reduceBEq, Int.reduceEq, Int.reduceLT, Int.reduceLE, Int.reduceGT, Int.reduceGE, Int.reduceNe, Int.reduceBNe, b_laws_heldDefS, e0, e5, e1, a.ia (row := TDef.row) (sz := 4) rfl, TDef.row, ← g0, w0, x0, h_laws_markText, h_laws_heldColS, h_laws_heldByS, h_laws_heldIndexS, y1, q1, y2, q2, y3, q3, hcn]
theorem ok_laws_heldDefS {WI : World → Prop} (hs : Stable WI) (cs) (hT : TOK (EE cs) WI) (h_laws_markText : (EE cs).T 41 = some C_laws_markText) (h_laws_heldColS : (EE cs).T 48 = some (hdC (sliceT tCol) (mkL mkE_Col cnE_Col) (cntL cnE_Col))) (h_laws_heldByS : (EE cs).T 49 = some (hdC (sliceT tBy) (mkL mkE_By cnE_By) (cntL cnE_By))) (h_laws_heldIndexS : (EE cs).T 50 = some (hdC (sliceT tIndex) (mkL mkE_Index cnE_Index) (cntL cnE_Index))) : ReadOK Try.prog WI 22 (hdC (sliceT tDef) (mkL mkE_Def cnE_Def) (cntL cnE_Def)) := hdS_ok (E := EE cs) hT hs (st_laws_heldDefS cs) (by decide) (hb_laws_heldDefS cs h_laws_markText h_laws_heldColS h_laws_heldByS h_laws_heldIndexS)
theorem hb_laws_heldByteS (cs)  : HdB (EE cs) b_laws_heldByteS u8T mkE_byte cnE_byte := by
  intro l pre v rest k e h a e0 e5 e1 hm hf hk hk2
  have g0 : mbyte (k) = v := hm
  unfold cnE_byte at hk2
  have hcn : k + ((cnE_byte v : Nat) : Int) = k + 1 := by unfold cnE_byte; omega
  have w0 : IntKind.wrap .i64 (k + 1) = k + 1 := wrapId (by omega) (by omega)
  have x0 := u8mark (k) (by omega)
  simp only [go_sem, kSt_ptr, Nat.reduceBEq, Nat.reduceAdd, Nat.reduceEqDiff, Nat.reduceLeDiff, Nat.reduceSub, reduceIte, Int.reduceBEq, Int.reduceEq, Int.reduceLT, Int.reduceLE, Int.reduceGT, Int.reduceGE, Int.reduceNe, Int.reduceBNe, b_laws_heldByteS, e0, e5, e1, a.ia (row := u8T.row) (sz := 1) rfl, u8T_row, ← g0, w0, x0, hcn]
  all_goals rfl
theorem ok_laws_heldByteS {WI : World → Prop} (hs : Stable WI) (cs) (hT : TOK (EE cs) WI)  : ReadOK Try.prog WI 73 (hdC (sliceT u8T) (mkL mkE_byte cnE_byte) (cntL cnE_byte)) := hdS_ok (E := EE cs) hT hs (st_laws_heldByteS cs) (by decide) (hb_laws_heldByteS cs)
theorem hb_laws_heldByteSS (cs) (h_laws_heldByteS : (EE cs).T 73 = some (hdC (sliceT u8T) (mkL mkE_byte cnE_byte) (cntL cnE_byte))) : HdB (EE cs) b_laws_heldByteSS (sliceT u8T) (mkL mkE_byte cnE_byte) (cntL cnE_byte) := by
  intro l pre v rest k e h a e0 e5 e1 hm hf hk hk2
  have g0 : (mkL mkE_byte cnE_byte) v (k) = v := hm
  have hcn : k + (((cntL cnE_byte) v : Nat) : Int) = k + (((cntL cnE_byte) v : Nat) : Int) := rfl
  have y0 : (hdC (sliceT u8T) (mkL mkE_byte cnE_byte) (cntL cnE_byte)) [.imm (v.map u8T.row), .int .i64 (k)] = some (.int .i64 (k + (((cntL cnE_byte) v : Nat) : Int))) := hdC_eq _ _ g0 hf (by omega) (by omega)
  have q0 : decide (k + (((cntL cnE_byte) v : Nat) : Int) < 0) = false := decide_eq_false (by omega)
  simp only [go_sem, kSt_ptr, Nat.reduceBEq, Nat.reduceAdd, Nat.reduceEqDiff, Nat.reduceLeDiff, Nat.reduceSub, reduceIte, Int.reduceBEq, Int.reduceEq, Int.reduceLT, Int.reduceLE, Int.reduceGT, Int.reduceGE, Int.reduceNe, Int.reduceBNe, b_laws_heldByteSS, e0, e5, e1, a.ia (row := (sliceT u8T).row) (sz := 1) rfl, sliceT_row, h_laws_heldByteS, y0, q0, hcn]
  all_goals rfl
theorem ok_laws_heldByteSS {WI : World → Prop} (hs : Stable WI) (cs) (hT : TOK (EE cs) WI) (h_laws_heldByteS : (EE cs).T 73 = some (hdC (sliceT u8T) (mkL mkE_byte cnE_byte) (cntL cnE_byte))) : ReadOK Try.prog WI 51 (hdC (sliceT (sliceT u8T)) (mkL (mkL mkE_byte cnE_byte) (cntL cnE_byte)) (cntL (cntL cnE_byte))) := hdS_ok (E := EE cs) hT hs (st_laws_heldByteSS cs) (by decide) (hb_laws_heldByteSS cs h_laws_heldByteS)
theorem hb_laws_heldWriteS (cs) (h_laws_heldByteS : (EE cs).T 73 = some (hdC (sliceT u8T) (mkL mkE_byte cnE_byte) (cntL cnE_byte))) : HdB (EE cs) b_laws_heldWriteS tWrite mkE_Write cnE_Write := by
  intro l pre v rest k e h a e0 e5 e1 hm hf hk hk2
  have g0 : k = v.fN := congrArg TWrite.fN hm
  have g1 : (mkL mkE_byte cnE_byte) v.fB (k + 1) = v.fB := congrArg TWrite.fB hm
  unfold cnE_Write at hk2
  have hcn : k + ((cnE_Write v : Nat) : Int) = k + 1 + (((cntL cnE_byte) v.fB : Nat) : Int) := by unfold cnE_Write; omega
  have w0 : IntKind.wrap .i64 (k + 1) = k + 1 := wrapId (by omega) (by omega)
  have y1 : (hdC (sliceT u8T) (mkL mkE_byte cnE_byte) (cntL cnE_byte)) [.imm (v.fB.map u8T.row), .int .i64 (k + 1)] = some (.int .i64 (k + 1 + (((cntL cnE_byte) v.fB : Nat) : Int))) := hdC_eq _ _ g1 hf (by omega) (by omega)
  have q1 : decide (k + 1 + (((cntL cnE_byte) v.fB : Nat) : Int) < 0) = false := decide_eq_false (by omega)
  simp only [go_sem, kSt_ptr, Nat.reduceBEq, Nat.reduceAdd, Nat.reduceEqDiff, Nat.reduceLeDiff, Nat.reduceSub, reduceIte, Int.reduceBEq, Int.reduceEq, Int.reduceLT, Int.reduceLE, Int.reduceGT, Int.reduceGE, Int.reduceNe, Int.reduceBNe, b_laws_heldWriteS, e0, e5, e1, a.ia (row := TWrite.row) (sz := 2) rfl, TWrite.row, ← g0, w0, h_laws_heldByteS, y1, q1, hcn]
theorem ok_laws_heldWriteS {WI : World → Prop} (hs : Stable WI) (cs) (hT : TOK (EE cs) WI) (h_laws_heldByteS : (EE cs).T 73 = some (hdC (sliceT u8T) (mkL mkE_byte cnE_byte) (cntL cnE_byte))) : ReadOK Try.prog WI 52 (hdC (sliceT tWrite) (mkL mkE_Write cnE_Write) (cntL cnE_Write)) := hdS_ok (E := EE cs) hT hs (st_laws_heldWriteS cs) (by decide) (hb_laws_heldWriteS cs h_laws_heldByteS)
theorem hb_laws_heldFaultS (cs)  : HdB (EE cs) b_laws_heldFaultS tFault mkE_Fault cnE_Fault := by
  intro l pre v rest k e h a e0 e5 e1 hm hf hk hk2
  have g0 : k = v.fAt := congrArg TFault.fAt hm
  have g1 : k + 1 = v.fKeep := congrArg TFault.fKeep hm
  have g2 : k + 1 + 1 = v.fCut := congrArg TFault.fCut hm
  unfold cnE_Fault at hk2
  have hcn : k + ((cnE_Fault v : Nat) : Int) = k + 1 + 1 + 1 := by unfold cnE_Fault; omega
  have w0 : IntKind.wrap .i64 (k + 1) = k + 1 := wrapId (by omega) (by omega)
  have w1 : IntKind.wrap .i64 (k + 1 + 1) = k + 1 + 1 := wrapId (by omega) (by omega)
  have w2 : IntKind.wrap .i64 (k + 1 + 1 + 1) = k + 1 + 1 + 1 := wrapId (by omega) (by omega)
  simp only [go_sem, kSt_ptr, Nat.reduceBEq, Nat.reduceAdd, Nat.reduceEqDiff, Nat.reduceLeDiff, Nat.reduceSub, reduceIte, Int.reduceBEq, Int.reduceEq, Int.reduceLT, Int.reduceLE, Int.reduceGT, Int.reduceGE, Int.reduceNe, Int.reduceBNe, b_laws_heldFaultS, e0, e5, e1, a.ia (row := TFault.row) (sz := 3) rfl, TFault.row, ← g0, ← g1, ← g2, w0, w1, w2, hcn]
theorem ok_laws_heldFaultS {WI : World → Prop} (hs : Stable WI) (cs) (hT : TOK (EE cs) WI)  : ReadOK Try.prog WI 53 (hdC (sliceT tFault) (mkL mkE_Fault cnE_Fault) (cntL cnE_Fault)) := hdS_ok (E := EE cs) hT hs (st_laws_heldFaultS cs) (by decide) (hb_laws_heldFaultS cs)

theorem ok_laws_heldDisk {WI : World → Prop} (hs : Stable WI) (cs) (hT : TOK (EE cs) WI) (h_laws_heldByteSS : (EE cs).T 51 = some (hdC (sliceT (sliceT u8T)) (mkL (mkL mkE_byte cnE_byte) (cntL cnE_byte)) (cntL (cntL cnE_byte)))) (h_laws_heldWriteS : (EE cs).T 52 = some (hdC (sliceT tWrite) (mkL mkE_Write cnE_Write) (cntL cnE_Write))) (h_laws_heldFaultS : (EE cs).T 53 = some (hdC (sliceT tFault) (mkL mkE_Fault cnE_Fault) (cntL cnE_Fault))) : ReadOK Try.prog WI 23 (hdC tDisk mkV_Disk cnV_Disk) := by
  refine ⟨pure2 (E := EE cs) hT hs (by rw [st_laws_heldDisk]; rfl) fun v k hp => out_wp (n := 0) (st_laws_heldDisk cs) ?_, hdC_leaf⟩
  obtain ⟨hm, hf, hk, hk2⟩ := hp
  unfold cnV_Disk at hk2
  have hcn : k + ((cnV_Disk v : Nat) : Int) = k + (((cntL (cntL cnE_byte)) v.fSecs : Nat) : Int) + (((cntL cnE_Write) v.fCache : Nat) : Int) + (((cntL cnE_Fault) v.fFaults : Nat) : Int) := by unfold cnV_Disk; omega
  have g_Secs : (mkL (mkL mkE_byte cnE_byte) (cntL cnE_byte)) v.fSecs (k) = v.fSecs := congrArg TDisk.fSecs hm
  have y_Secs : (hdC (sliceT (sliceT u8T)) (mkL (mkL mkE_byte cnE_byte) (cntL cnE_byte)) (cntL (cntL cnE_byte))) [.imm (v.fSecs.map (sliceT u8T).row), .int .i64 (k)] = some (.int .i64 (k + (((cntL (cntL cnE_byte)) v.fSecs : Nat) : Int))) := hdC_eq _ _ g_Secs (by exact hf.1) (by omega) (by omega)
  have q_Secs : decide (k + (((cntL (cntL cnE_byte)) v.fSecs : Nat) : Int) < 0) = false := decide_eq_false (by omega)
  have g_Cache : (mkL mkE_Write cnE_Write) v.fCache (k + (((cntL (cntL cnE_byte)) v.fSecs : Nat) : Int)) = v.fCache := congrArg TDisk.fCache hm
  have y_Cache : (hdC (sliceT tWrite) (mkL mkE_Write cnE_Write) (cntL cnE_Write)) [.imm (v.fCache.map TWrite.row), .int .i64 (k + (((cntL (cntL cnE_byte)) v.fSecs : Nat) : Int))] = some (.int .i64 (k + (((cntL (cntL cnE_byte)) v.fSecs : Nat) : Int) + (((cntL cnE_Write) v.fCache : Nat) : Int))) := hdC_eq _ _ g_Cache (by exact hf.2.1) (by omega) (by omega)
  have q_Cache : decide (k + (((cntL (cntL cnE_byte)) v.fSecs : Nat) : Int) + (((cntL cnE_Write) v.fCache : Nat) : Int) < 0) = false := decide_eq_false (by omega)
  have g_Faults : (mkL mkE_Fault cnE_Fault) v.fFaults (k + (((cntL (cntL cnE_byte)) v.fSecs : Nat) : Int) + (((cntL cnE_Write) v.fCache : Nat) : Int)) = v.fFaults := congrArg TDisk.fFaults hm
  have y_Faults : (hdC (sliceT tFault) (mkL mkE_Fault cnE_Fault) (cntL cnE_Fault)) [.imm (v.fFaults.map TFault.row), .int .i64 (k + (((cntL (cntL cnE_byte)) v.fSecs : Nat) : Int) + (((cntL cnE_Write) v.fCache : Nat) : Int))] = some (.int .i64 (k + (((cntL (cntL cnE_byte)) v.fSecs : Nat) : Int) + (((cntL cnE_Write) v.fCache : Nat) : Int) + (((cntL cnE_Fault) v.fFaults : Nat) : Int))) := hdC_eq _ _ g_Faults (by exact hf.2.2) (by omega) (by omega)
  have q_Faults : decide (k + (((cntL (cntL cnE_byte)) v.fSecs : Nat) : Int) + (((cntL cnE_Write) v.fCache : Nat) : Int) + (((cntL cnE_Fault) v.fFaults : Nat) : Int) < 0) = false := decide_eq_false (by omega)
  simp only [go_sem, kSt_ptr, Nat.reduceBEq, Nat.reduceAdd, Nat.reduceEqDiff, Nat.reduceLeDiff, Nat.reduceSub, reduceIte, Int.reduceBEq, Int.reduceEq, Int.reduceLT, Int.reduceLE, Int.reduceGT, Int.reduceGE, Int.reduceNe, Int.reduceBNe, s_laws_heldDisk, TDisk.row, tDisk_enc, h_laws_heldByteSS, h_laws_heldWriteS, h_laws_heldFaultS, y_Secs, q_Secs, y_Cache, q_Cache, y_Faults, q_Faults, hcn]
end Go.Proofs.Ytgjdkcjijmdfoaa.Eo
/- What the functions that FnExactEngOn calls answer: part 11. -/
namespace Go.Proofs.Ytgjdkcjijmdfoaa.Eo
open Go Go.RowKit Go.Ev
set_option linter.unusedSimpArgs false
set_option linter.unusedVariables false
set_option maxHeartbeats 1600000

theorem ok_laws_heldEng {WI : World → Prop} (hs : Stable WI) (cs) (hT : TOK (EE cs) WI) (h_laws_heldDefS : (EE cs).T 22 = some (hdC (sliceT tDef) (mkL mkE_Def cnE_Def) (cntL cnE_Def))) (h_laws_heldDisk : (EE cs).T 23 = some (hdC tDisk mkV_Disk cnV_Disk)) : ReadOK Try.prog WI 10 (hdC tEng mkV_Eng cnV_Eng) := by
  refine ⟨pure2 (E := EE cs) hT hs (by rw [st_laws_heldEng]; rfl) fun v k hp => out_wp (n := 0) (st_laws_heldEng cs) ?_, hdC_leaf⟩
  obtain ⟨hm, hf, hk, hk2⟩ := hp
  unfold cnV_Eng at hk2
  have hcn : k + ((cnV_Eng v : Nat) : Int) = k + (((cntL cnE_Def) v.fS : Nat) : Int) + ((cnV_Disk v.fD : Nat) : Int) := by unfold cnV_Eng; omega
  have g_S : (mkL mkE_Def cnE_Def) v.fS (k) = v.fS := congrArg TEng.fS hm
  have y_S : (hdC (sliceT tDef) (mkL mkE_Def cnE_Def) (cntL cnE_Def)) [.imm (v.fS.map TDef.row), .int .i64 (k)] = some (.int .i64 (k + (((cntL cnE_Def) v.fS : Nat) : Int))) := hdC_eq _ _ g_S (by exact hf.1) (by omega) (by omega)
  have q_S : decide (k + (((cntL cnE_Def) v.fS : Nat) : Int) < 0) = false := decide_eq_false (by omega)
  have g_D : mkV_Disk v.fD (k + (((cntL cnE_Def) v.fS : Nat) : Int)) = v.fD := congrArg TEng.fD hm
  have y_D : (hdC tDisk mkV_Disk cnV_Disk) [.agg [.imm (v.fD.fSecs.map (sliceT u8T).row), .imm (v.fD.fCache.map TWrite.row), .int .i64 v.fD.fOps, .imm (v.fD.fFaults.map TFault.row), .bool v.fD.fDown], .int .i64 (k + (((cntL cnE_Def) v.fS : Nat) : Int))] = some (.int .i64 (k + (((cntL cnE_Def) v.fS : Nat) : Int) + ((cnV_Disk v.fD : Nat) : Int))) := hdC_eq _ _ g_D (by exact hf.2) (by omega) (by omega)
  have q_D : decide (k + (((cntL cnE_Def) v.fS : Nat) : Int) + ((cnV_Disk v.fD : Nat) : Int) < 0) = false := decide_eq_false (by omega)
  simp only [go_sem, kSt_ptr, Nat.reduceBEq, Nat.reduceAdd, Nat.reduceEqDiff, Nat.reduceLeDiff, Nat.reduceSub, reduceIte, Int.reduceBEq, Int.reduceEq, Int.reduceLT, Int.reduceLE, Int.reduceGT, Int.reduceGE, Int.reduceNe, Int.reduceBNe, s_laws_heldEng, TEng.row, tEng_enc, TDisk.row, h_laws_heldDefS, h_laws_heldDisk, y_S, q_S, y_D, q_D, hcn]
end Go.Proofs.Ytgjdkcjijmdfoaa.Eo
/- The law FnExactEngOn, by what its functions answer. -/
namespace Go.Proofs.Ytgjdkcjijmdfoaa.Eo
open Go Go.RowKit Go.Ev
set_option linter.unusedSimpArgs false
set_option linter.unusedVariables false
set_option maxHeartbeats 1600000
set_option maxRecDepth 100000
theorem ev_law (cs) (h_laws_szEng : (EE cs).T 4 = some (szC tEng)) (h_laws_toEng : (EE cs).T 6 = some (toC tEng)) (h_spec_EngOn : (EE cs).T 5 = some C_spec_EngOn) (h_impl_EngOn : (EE cs).T 7 = some C_impl_EngOn) (h_laws_eqEng : (EE cs).T 8 = some (eqC tEng)) (m_laws_markEng : MkS (EE cs) 9 tEng mkV_Eng cnV_Eng) (h_laws_heldEng : (EE cs).T 10 = some (hdC tEng mkV_Eng cnV_Eng)) (v0 : TEng) (f0 : tEng.fits v0) (o0 : tEng.ok v0) : ∃ k n, out (EE cs) k n 3 [tEng.enc v0] = some (.bool true) := by
  refine out_wp (n := 0) (st_laws_FnExactEngOn cs) ?_
  have cz : szC tEng [.agg [.imm (v0.fS.map TDef.row), .imm (v0.fD.fSecs.map (sliceT u8T).row), .imm (v0.fD.fCache.map TWrite.row), .int .i64 v0.fD.fOps, .imm (v0.fD.fFaults.map TFault.row), .bool v0.fD.fDown], .int .i64 1048576] = some (.int .i64 (szR (tEng.cost v0) 1048576)) := szC_eq tEng ⟨f0, by omega, by omega⟩
  by_cases n0 : szR (tEng.cost v0) 1048576 < 0
  · obtain ⟨e0, e0'⟩ := szR_neg n0 (by omega)
    simp only [go_sem, kSt_ptr, Nat.reduceBEq, Nat.reduceAdd, Nat.reduceEqDiff, Nat.reduceLeDiff, Nat.reduceSub, reduceIte, Int.reduceBEq, Int.reduceEq, Int.reduceLT, Int.reduceLE, Int.reduceGT, Int.reduceGE, Int.reduceNe, Int.reduceBNe, s_laws_FnExactEngOn, TEng.row, tEng_enc, h_laws_szEng, cz, e0]
  obtain ⟨e0, n0'⟩ := szR_pos n0
  have hc : tEng.cost v0 ≤ 1048576 := by omega
  have t0 : toC tEng [.agg [.imm (v0.fS.map TDef.row), .imm (v0.fD.fSecs.map (sliceT u8T).row), .imm (v0.fD.fCache.map TWrite.row), .int .i64 v0.fD.fOps, .imm (v0.fD.fFaults.map TFault.row), .bool v0.fD.fDown]] = some (.agg [.imm (v0.fS.map TDef.row), .imm (v0.fD.fSecs.map (sliceT u8T).row), .imm (v0.fD.fCache.map TWrite.row), .int .i64 v0.fD.fOps, .imm (v0.fD.fFaults.map TFault.row), .bool v0.fD.fDown]) := toC_eq tEng hc
  have hfz : ∀ h, frzT 8 h (.agg [.imm (v0.fS.map TDef.row), .imm (v0.fD.fSecs.map (sliceT u8T).row), .imm (v0.fD.fCache.map TWrite.row), .int .i64 v0.fD.fOps, .imm (v0.fD.fFaults.map TFault.row), .bool v0.fD.fDown]) = some (.agg [.imm (v0.fS.map TDef.row), .imm (v0.fD.fSecs.map (sliceT u8T).row), .imm (v0.fD.fCache.map TWrite.row), .int .i64 v0.fD.fOps, .imm (v0.fD.fFaults.map TFault.row), .bool v0.fD.fDown]) := fun h => tEng.frzT 8 h v0
  have a0 := C_spec_EngOn_eq v0 hc
  have a1 := C_impl_EngOn_eq v0 hc
  have hcw : tEng.cost (engOn v0) ≤ 1048576 := hc
  generalize engOn v0 = w at a0 a1 hcw
  have hfw : ∀ h, frzT 8 h (.agg [.imm (w.fS.map TDef.row), .imm (w.fD.fSecs.map (sliceT u8T).row), .imm (w.fD.fCache.map TWrite.row), .int .i64 w.fD.fOps, .imm (w.fD.fFaults.map TFault.row), .bool w.fD.fDown]) = some (.agg [.imm (w.fS.map TDef.row), .imm (w.fD.fSecs.map (sliceT u8T).row), .imm (w.fD.fCache.map TWrite.row), .int .i64 w.fD.fOps, .imm (w.fD.fFaults.map TFault.row), .bool w.fD.fDown]) := fun h => tEng.frzT 8 h w
  have ew : eqC tEng [.agg [.imm (w.fS.map TDef.row), .imm (w.fD.fSecs.map (sliceT u8T).row), .imm (w.fD.fCache.map TWrite.row), .int .i64 w.fD.fOps, .imm (w.fD.fFaults.map TFault.row), .bool w.fD.fDown], .agg [.imm (w.fS.map TDef.row), .imm (w.fD.fSecs.map (sliceT u8T).row), .imm (w.fD.fCache.map TWrite.row), .int .i64 w.fD.fOps, .imm (w.fD.fFaults.map TFault.row), .bool w.fD.fDown]] = some (.bool true) := eqC_eq tEng hcw
  have ev : eqC tEng [.agg [.imm (v0.fS.map TDef.row), .imm (v0.fD.fSecs.map (sliceT u8T).row), .imm (v0.fD.fCache.map TWrite.row), .int .i64 v0.fD.fOps, .imm (v0.fD.fFaults.map TFault.row), .bool v0.fD.fDown], .agg [.imm (v0.fS.map TDef.row), .imm (v0.fD.fSecs.map (sliceT u8T).row), .imm (v0.fD.fCache.map TWrite.row), .int .i64 v0.fD.fOps, .imm (v0.fD.fFaults.map TFault.row), .bool v0.fD.fDown]] = some (.bool true) := eqC_eq tEng hc
  have kv := cbV_Eng v0
  have kw := cbV_Eng w
  have fw := tEng.fit w hcw
  simp only [go_sem, kSt_ptr, Nat.reduceBEq, Nat.reduceAdd, Nat.reduceEqDiff, Nat.reduceLeDiff, Nat.reduceSub, reduceIte, Int.reduceBEq, Int.reduceEq, Int.reduceLT, Int.reduceLE, Int.reduceGT, Int.reduceGE, Int.reduceNe, Int.reduceBNe, s_laws_FnExactEngOn, TEng.row, tEng_enc, h_laws_szEng, cz, e0, n0', h_laws_toEng]
  refine hP_read (mapO1 (hfz _)) t0 ?_
  simp only [go_sem, kSt_ptr, Nat.reduceBEq, Nat.reduceAdd, Nat.reduceEqDiff, Nat.reduceLeDiff, Nat.reduceSub, reduceIte, Int.reduceBEq, Int.reduceEq, Int.reduceLT, Int.reduceLE, Int.reduceGT, Int.reduceGE, Int.reduceNe, Int.reduceBNe, h_spec_EngOn, a0, TEng.row, h_laws_toEng]
  refine hP_own (n := 3) (mapO1 (hfz _)) t0 (tEng.okT v0 (by decide)) (by decide) ?_
  intro x1 g1 o1 p1 q1 n1
  have m1 : 2 ≤ g1.nx := n1
  have b0 : g1.hp 0 = some [.imm (v0.fS.map TDef.row), .imm (v0.fD.fSecs.map (sliceT u8T).row), .imm (v0.fD.fCache.map TWrite.row), .int .i64 v0.fD.fOps, .imm (v0.fD.fFaults.map TFault.row), .bool v0.fD.fDown] := (p1 0 (by simp)).trans (by simp)
  have b1 : g1.hp 1 = some [.imm (w.fS.map TDef.row), .imm (w.fD.fSecs.map (sliceT u8T).row), .imm (w.fD.fCache.map TWrite.row), .int .i64 w.fD.fOps, .imm (w.fD.fFaults.map TFault.row), .bool w.fD.fDown] := (p1 1 (by simp)).trans (by simp)
  obtain ⟨ds, rfl, e1, A1⟩ := OwI.agg (row := v0.row) o1 n1
  obtain ⟨d0, d1, d2, d3, d4, d5, rfl⟩ := len6 e1
  have z1 := A1.cells
  simp only [List.any_cons, List.any_nil, Bool.or_false, Bool.or_eq_false_iff] at z1
  replace A1 : OwA 3 2 g1.nx g1 [d0, d1, d2, d3, d4, d5] v0.row := A1
  have u0 : ¬ 0 = g1.nx := by omega
  have u1 : ¬ 1 = g1.nx := by omega
  simp only [go_sem, kSt_ptr, Nat.reduceBEq, Nat.reduceAdd, Nat.reduceEqDiff, Nat.reduceLeDiff, Nat.reduceSub, reduceIte, Int.reduceBEq, Int.reduceEq, Int.reduceLT, Int.reduceLE, Int.reduceGT, Int.reduceGE, Int.reduceNe, Int.reduceBNe, z1, b0, b1, u0, u1, h_impl_EngOn]
  refine hP_own (n := 3) (mapO1 ((A1.mono (by simp) fun q hq hq2 => by simp [show q ≠ g1.nx by omega]).toI.frz (by decide))) a1 (tEng.okT w (by decide)) (by decide) ?_
  intro x2 g2 o2 p2 q2 n2
  have m2 : g1.nx + 1 ≤ g2.nx := n2
  have c0 : g2.hp 0 = some [.imm (v0.fS.map TDef.row), .imm (v0.fD.fSecs.map (sliceT u8T).row), .imm (v0.fD.fCache.map TWrite.row), .int .i64 v0.fD.fOps, .imm (v0.fD.fFaults.map TFault.row), .bool v0.fD.fDown] := (p2 0 (by simp only []; omega)).trans (by simp [u0, b0])
  have c1 : g2.hp 1 = some [.imm (w.fS.map TDef.row), .imm (w.fD.fSecs.map (sliceT u8T).row), .imm (w.fD.fCache.map TWrite.row), .int .i64 w.fD.fOps, .imm (w.fD.fFaults.map TFault.row), .bool w.fD.fDown] := (p2 1 (by simp only []; omega)).trans (by simp [u1, b1])
  have cx : g2.hp g1.nx = some [d0, d1, d2, d3, d4, d5] := (p2 g1.nx (by simp)).trans (by simp)
  obtain ⟨rs, rfl, e2, A2⟩ := OwI.agg (row := w.row) o2 n2
  obtain ⟨r0, r1, r2, r3, r4, r5, rfl⟩ := len6 e2
  have z2 := A2.cells
  simp only [List.any_cons, List.any_nil, Bool.or_false, Bool.or_eq_false_iff] at z2
  replace A2 : OwA 3 (g1.nx + 1) g2.nx g2 [r0, r1, r2, r3, r4, r5] w.row := A2
  replace A1 := A1.mono (h' := g2) (by omega) fun q hq hq2 => (p2 q (by simp only []; omega)).trans (by simp [show q ≠ g1.nx by omega])
  have u2 : ¬ 0 = g2.nx := by omega
  have u3 : ¬ 1 = g2.nx := by omega
  have u4 : ¬ g1.nx = g2.nx := by omega
  simp only [go_sem, kSt_ptr, Nat.reduceBEq, Nat.reduceAdd, Nat.reduceEqDiff, Nat.reduceLeDiff, Nat.reduceSub, reduceIte, Int.reduceBEq, Int.reduceEq, Int.reduceLT, Int.reduceLE, Int.reduceGT, Int.reduceGE, Int.reduceNe, Int.reduceBNe, z1, z2, c0, c1, cx, u0, u1, u2, u3, u4, h_laws_eqEng]
  refine hP_read (mapO2 ((A2.mono (by simp) fun q hq hq2 => by simp [show q ≠ g2.nx by omega]).toI.frz (by decide)) (hfw _)) ew ?_
  simp only [go_sem, kSt_ptr, Nat.reduceBEq, Nat.reduceAdd, Nat.reduceEqDiff, Nat.reduceLeDiff, Nat.reduceSub, reduceIte, Int.reduceBEq, Int.reduceEq, Int.reduceLT, Int.reduceLE, Int.reduceGT, Int.reduceGE, Int.reduceNe, Int.reduceBNe, z1, z2, c0, c1, cx, u0, u1, u2, u3, u4, h_laws_toEng]
  refine hP_read (mapO1 (hfz _)) t0 ?_
  simp only [go_sem, kSt_ptr, Nat.reduceBEq, Nat.reduceAdd, Nat.reduceEqDiff, Nat.reduceLeDiff, Nat.reduceSub, reduceIte, Int.reduceBEq, Int.reduceEq, Int.reduceLT, Int.reduceLE, Int.reduceGT, Int.reduceGE, Int.reduceNe, Int.reduceBNe, z1, z2, c0, c1, cx, u0, u1, u2, u3, u4, h_laws_eqEng]
  refine hP_read (mapO2 ((A1.mono (by simp) fun q hq hq2 => by simp [show q ≠ g2.nx by omega]).toI.frz (by decide)) (hfz _)) ev ?_
  simp only [go_sem, kSt_ptr, Nat.reduceBEq, Nat.reduceAdd, Nat.reduceEqDiff, Nat.reduceLeDiff, Nat.reduceSub, reduceIte, Int.reduceBEq, Int.reduceEq, Int.reduceLT, Int.reduceLE, Int.reduceGT, Int.reduceGE, Int.reduceNe, Int.reduceBNe, z1, z2, c0, c1, cx, u0, u1, u2, u3, u4]
  refine hP_markI m_laws_markEng f0 (by decide) (by omega) (A1.mono (by simp) fun q hq hq2 => by simp [show q ≠ g2.nx by omega]).toI ?_
  intro h3 o3 p3 n3
  have m3 : g2.nx + 1 ≤ h3.nx := n3
  have f0' : h3.hp 0 = some [.imm (v0.fS.map TDef.row), .imm (v0.fD.fSecs.map (sliceT u8T).row), .imm (v0.fD.fCache.map TWrite.row), .int .i64 v0.fD.fOps, .imm (v0.fD.fFaults.map TFault.row), .bool v0.fD.fDown] := (p3 0 (.inl (by decide)) (by simp only []; omega)).trans (by simp [u2, c0])
  have f1' : h3.hp 1 = some [.imm (w.fS.map TDef.row), .imm (w.fD.fSecs.map (sliceT u8T).row), .imm (w.fD.fCache.map TWrite.row), .int .i64 w.fD.fOps, .imm (w.fD.fFaults.map TFault.row), .bool w.fD.fDown] := (p3 1 (.inl (by decide)) (by simp only []; omega)).trans (by simp [u3, c1])
  have fx : h3.hp g1.nx = some [d0, d1, d2, d3, d4, d5] := (p3 g1.nx (.inr (Nat.le_refl _)) (by simp only []; omega)).trans (by simp [u4, cx])
  have fy : h3.hp g2.nx = some [r0, r1, r2, r3, r4, r5] := (p3 g2.nx (.inr (by omega)) (by simp)).trans (by simp)
  replace A2 := A2.mono (h' := h3) (by omega) fun q hq hq2 => (p3 q (.inr (by omega)) (by simp only []; omega)).trans (by simp [show q ≠ g2.nx by omega])
  have l1 : decide ((1 : Int) + ((cnV_Eng v0 : Nat) : Int) < 0) = false := decide_eq_false (by omega)
  simp only [go_sem, kSt_ptr, Nat.reduceBEq, Nat.reduceAdd, Nat.reduceEqDiff, Nat.reduceLeDiff, Nat.reduceSub, reduceIte, Int.reduceBEq, Int.reduceEq, Int.reduceLT, Int.reduceLE, Int.reduceGT, Int.reduceGE, Int.reduceNe, Int.reduceBNe, z1, z2, f0', f1', fx, fy, l1, h_laws_eqEng]
  refine hP_read (mapO2 (A2.toI.frz (by decide)) (hfw _)) ew ?_
  simp only [go_sem, kSt_ptr, Nat.reduceBEq, Nat.reduceAdd, Nat.reduceEqDiff, Nat.reduceLeDiff, Nat.reduceSub, reduceIte, Int.reduceBEq, Int.reduceEq, Int.reduceLT, Int.reduceLE, Int.reduceGT, Int.reduceGE, Int.reduceNe, Int.reduceBNe, z1, z2, f0', f1', fx, fy, l1]
  refine hP_markI m_laws_markEng fw (by decide) (by omega) A2.toI ?_
  intro h4 o4 p4 n4
  have i0 : h4.hp 0 = some [.imm (v0.fS.map TDef.row), .imm (v0.fD.fSecs.map (sliceT u8T).row), .imm (v0.fD.fCache.map TWrite.row), .int .i64 v0.fD.fOps, .imm (v0.fD.fFaults.map TFault.row), .bool v0.fD.fDown] := (p4 0 (.inl (by omega)) (by omega)).trans f0'
  have i1 : h4.hp 1 = some [.imm (w.fS.map TDef.row), .imm (w.fD.fSecs.map (sliceT u8T).row), .imm (w.fD.fCache.map TWrite.row), .int .i64 w.fD.fOps, .imm (w.fD.fFaults.map TFault.row), .bool w.fD.fDown] := (p4 1 (.inl (by omega)) (by omega)).trans f1'
  have ix : h4.hp g1.nx = some [d0, d1, d2, d3, d4, d5] := (p4 g1.nx (.inl (by omega)) (by omega)).trans fx
  have iy : h4.hp g2.nx = some [r0, r1, r2, r3, r4, r5] := (p4 g2.nx (.inr (Nat.le_refl _)) (by omega)).trans fy
  have l2 : decide ((1 : Int) + ((cnV_Eng w : Nat) : Int) < 0) = false := decide_eq_false (by omega)
  obtain ⟨j1, j2⟩ := miV_Eng w 1
  have hh : hdC tEng mkV_Eng cnV_Eng [tEng.enc (mkV_Eng w 1), .int .i64 1] = some (.int .i64 (1 + ((cnV_Eng w : Nat) : Int))) := by
    have := hdC_eq (T := tEng) (mk := mkV_Eng) (cnt := cnV_Eng) (mkV_Eng w 1) 1 j1 (mfV_Eng w 1 fw (by decide) (by omega)) (by decide) (by rw [j2]; omega)
    rw [j2] at this
    exact this
  simp only [go_sem, kSt_ptr, Nat.reduceBEq, Nat.reduceAdd, Nat.reduceEqDiff, Nat.reduceLeDiff, Nat.reduceSub, reduceIte, Int.reduceBEq, Int.reduceEq, Int.reduceLT, Int.reduceLE, Int.reduceGT, Int.reduceGE, Int.reduceNe, Int.reduceBNe, z1, z2, i0, i1, ix, iy, h_laws_heldEng]
  refine hP_read (mapO2 (o4.frz (by decide)) rfl) hh ?_
  simp only [go_sem, kSt_ptr, Nat.reduceBEq, Nat.reduceAdd, Nat.reduceEqDiff, Nat.reduceLeDiff, Nat.reduceSub, reduceIte, Int.reduceBEq, Int.reduceEq, Int.reduceLT, Int.reduceLE, Int.reduceGT, Int.reduceGE, Int.reduceNe, Int.reduceBNe, z1, z2, i0, i1, ix, iy, l2, h_laws_toEng]
  refine hP_read (mapO1 (hfz _)) t0 ?_
  simp only [go_sem, kSt_ptr, Nat.reduceBEq, Nat.reduceAdd, Nat.reduceEqDiff, Nat.reduceLeDiff, Nat.reduceSub, reduceIte, Int.reduceBEq, Int.reduceEq, Int.reduceLT, Int.reduceLE, Int.reduceGT, Int.reduceGE, Int.reduceNe, Int.reduceBNe, z1, z2, i0, i1, ix, iy, l2, h_impl_EngOn]
  refine hP_read (mapO1 (hfz _)) a1 ?_
  have u5 : ¬ 0 = h4.nx := by omega
  have u6 : ¬ 1 = h4.nx := by omega
  have u7 : ¬ g1.nx = h4.nx := by omega
  have u8 : ¬ g2.nx = h4.nx := by omega
  simp only [go_sem, kSt_ptr, Nat.reduceBEq, Nat.reduceAdd, Nat.reduceEqDiff, Nat.reduceLeDiff, Nat.reduceSub, reduceIte, Int.reduceBEq, Int.reduceEq, Int.reduceLT, Int.reduceLE, Int.reduceGT, Int.reduceGE, Int.reduceNe, Int.reduceBNe, z1, z2, i0, i1, ix, iy, l2, u5, u6, u7, u8, TEng.row, h_laws_eqEng]
  refine hP_read (mapO2 (hfw _) (hfw _)) ew ?_
  simp only [go_sem, kSt_ptr, Nat.reduceBEq, Nat.reduceAdd, Nat.reduceEqDiff, Nat.reduceLeDiff, Nat.reduceSub, reduceIte, Int.reduceBEq, Int.reduceEq, Int.reduceLT, Int.reduceLE, Int.reduceGT, Int.reduceGE, Int.reduceNe, Int.reduceBNe, z1, z2, i0, i1, ix, iy, l2, u5, u6, u7, u8, h_laws_heldEng]
  refine hP_read (mapO2 ((o4.mono (by simp) fun q hq hq2 => by simp [show q ≠ h4.nx by omega]).frz (by decide)) rfl) hh ?_
  simp only [go_sem, kSt_ptr, Nat.reduceBEq, Nat.reduceAdd, Nat.reduceEqDiff, Nat.reduceLeDiff, Nat.reduceSub, reduceIte, Int.reduceBEq, Int.reduceEq, Int.reduceLT, Int.reduceLE, Int.reduceGT, Int.reduceGE, Int.reduceNe, Int.reduceBNe, z1, z2, i0, i1, ix, iy, l2, u5, u6, u7, u8]
noncomputable def C_law := c1 tEng (fun v0 => (tEng.fits v0 ∧ tEng.ok v0)) .bool fun _ => true
theorem ok_law {WI : World → Prop} (hs : Stable WI) (cs) (hT : TOK (EE cs) WI) (h_laws_szEng : (EE cs).T 4 = some (szC tEng)) (h_laws_toEng : (EE cs).T 6 = some (toC tEng)) (h_spec_EngOn : (EE cs).T 5 = some C_spec_EngOn) (h_impl_EngOn : (EE cs).T 7 = some C_impl_EngOn) (h_laws_eqEng : (EE cs).T 8 = some (eqC tEng)) (m_laws_markEng : MkS (EE cs) 9 tEng mkV_Eng cnV_Eng) (h_laws_heldEng : (EE cs).T 10 = some (hdC tEng mkV_Eng cnV_Eng)) : PureOK Try.prog WI 3 C_law :=
  pure1 (E := EE cs) hT hs (by rw [st_laws_FnExactEngOn]; rfl) fun v0 ⟨f0, o0⟩ => ev_law cs  h_laws_szEng h_laws_toEng h_spec_EngOn h_impl_EngOn h_laws_eqEng m_laws_markEng h_laws_heldEng v0 f0 o0
section
variable {WI : World → Prop} (hs : Stable WI)
include hs
theorem law_ok  : PureOK Try.prog WI 3 C_law := by
  have t0 : TOK (EE []) WI := tok_nil (entB_spec entered)
  have t1 := tok_cons rfl rfl (ok_laws_szCol hs _ t0) t0
  have t2 := tok_cons rfl rfl (ok_laws_szColS hs _ t1 rfl) t1
  have t3 := tok_cons rfl rfl (ok_laws_szByS hs _ t2) t2
  have t4 := tok_cons rfl rfl (ok_laws_szIndex hs _ t3 rfl) t3
  have t5 := tok_cons rfl rfl (ok_laws_szIndexS hs _ t4 rfl) t4
  have t6 := tok_cons rfl rfl (ok_laws_szDef hs _ t5 rfl rfl rfl) t5
  have t7 := tok_cons rfl rfl (ok_laws_szDefS hs _ t6 rfl) t6
  have t8 := tok_cons rfl rfl (ok_laws_szByteS hs _ t7) t7
  have t9 := tok_cons rfl rfl (ok_laws_szByteSS hs _ t8 rfl) t8
  have t10 := tok_cons rfl rfl (ok_laws_szWrite hs _ t9 rfl) t9
  have t11 := tok_cons rfl rfl (ok_laws_szWriteS hs _ t10 rfl) t10
  have t12 := tok_cons rfl rfl (ok_laws_szFaultS hs _ t11) t11
  have t13 := tok_cons rfl rfl (ok_laws_szDisk hs _ t12 rfl rfl rfl) t12
  have t14 := tok_cons rfl rfl (ok_laws_szEng hs _ t13 rfl rfl) t13
  have t15 := tok_cons rfl rfl (ok_laws_toCol hs _ t14) t14
  have t16 := tok_consO rfl (ok_laws_toColS hs _ t15 rfl) t15
  have t17 := tok_cons rfl rfl (ok_laws_toBy hs _ t16) t16
  have t18 := tok_consO rfl (ok_laws_toByS hs _ t17 rfl) t17
  have t19 := tok_consO rfl (ok_laws_toIndex hs _ t18 rfl) t18
  have t20 := tok_consO rfl (ok_laws_toIndexS hs _ t19 rfl) t19
  have t21 := tok_consO rfl (ok_laws_toDef hs _ t20 rfl rfl rfl) t20
  have t22 := tok_consO rfl (ok_laws_toDefS hs _ t21 rfl) t21
  have t23 := tok_consO rfl (ok_laws_toByteS hs _ t22) t22
  have t24 := tok_consO rfl (ok_laws_toByteSS hs _ t23 rfl) t23
  have t25 := tok_consO rfl (ok_laws_toWrite hs _ t24 rfl) t24
  have t26 := tok_consO rfl (ok_laws_toWriteS hs _ t25 rfl) t25
  have t27 := tok_cons rfl rfl (ok_laws_toFault hs _ t26) t26
  have t28 := tok_consO rfl (ok_laws_toFaultS hs _ t27 rfl) t27
  have t29 := tok_consO rfl (ok_laws_toDisk hs _ t28 rfl rfl rfl) t28
  have t30 := tok_consO rfl (ok_laws_toEng hs _ t29 rfl rfl) t29
  have t31 := tok_cons rfl rfl (ok_spec_l9Copy hs _ t30) t30
  have t32 := tok_cons rfl rfl (ok_spec_l12Copy hs _ t31) t31
  have t33 := tok_cons rfl rfl (ok_spec_l25Copy hs _ t32 rfl rfl) t32
  have t34 := tok_cons rfl rfl (ok_spec_EngOn hs _ t33 rfl) t33
  have t35 := tok_consO rfl (ok_impl_copyDefs hs _ t34) t34
  have t36 := tok_consO rfl (ok_impl_copyBytes hs _ t35) t35
  have t37 := tok_consO rfl (ok_impl_copyDisk hs _ t36 rfl) t36
  have t38 := tok_consO rfl (ok_impl_copyEng hs _ t37 rfl rfl) t37
  have t39 := tok_consO rfl (ok_impl_TurnOn hs _ t38 rfl) t38
  have t40 := tok_consO rfl (ok_impl_Reopen hs _ t39 rfl) t39
  have t41 := tok_consO rfl (ok_impl_EngOn hs _ t40 rfl rfl) t40
  have t42 := tok_cons rfl rfl (ok_laws_eqCol hs _ t41) t41
  have t43 := tok_cons rfl rfl (ok_laws_eqColS hs _ t42 rfl) t42
  have t44 := tok_cons rfl rfl (ok_laws_eqBy hs _ t43) t43
  have t45 := tok_cons rfl rfl (ok_laws_eqByS hs _ t44 rfl) t44
  have t46 := tok_cons rfl rfl (ok_laws_eqIndex hs _ t45 rfl) t45
  have t47 := tok_cons rfl rfl (ok_laws_eqIndexS hs _ t46 rfl) t46
  have t48 := tok_cons rfl rfl (ok_laws_eqDef hs _ t47 rfl rfl rfl) t47
  have t49 := tok_cons rfl rfl (ok_laws_eqDefS hs _ t48 rfl) t48
  have t50 := tok_cons rfl rfl (ok_laws_eqByteS hs _ t49) t49
  have t51 := tok_cons rfl rfl (ok_laws_eqByteSS hs _ t50 rfl) t50
  have t52 := tok_cons rfl rfl (ok_laws_eqWrite hs _ t51 rfl) t51
  have t53 := tok_cons rfl rfl (ok_laws_eqWriteS hs _ t52 rfl) t52
  have t54 := tok_cons rfl rfl (ok_laws_eqFault hs _ t53) t53
  have t55 := tok_cons rfl rfl (ok_laws_eqFaultS hs _ t54 rfl) t54
  have t56 := tok_cons rfl rfl (ok_laws_eqDisk hs _ t55 rfl rfl rfl) t55
  have t57 := tok_consR rfl ⟨(ok_laws_eqEng hs _ t56 rfl rfl), eqC_leaf⟩ t56
  have t58 := tok_cons rfl rfl (ok_laws_markText hs _ t57) t57
  have t59 := tok_cons rfl rfl (ok_laws_heldColS hs _ t58 rfl).1 t58
  have t60 := tok_cons rfl rfl (ok_laws_heldByS hs _ t59).1 t59
  have t61 := tok_cons rfl rfl (ok_laws_heldIndexS hs _ t60 rfl rfl).1 t60
  have t62 := tok_cons rfl rfl (ok_laws_heldDefS hs _ t61 rfl rfl rfl rfl).1 t61
  have t63 := tok_cons rfl rfl (ok_laws_heldByteS hs _ t62).1 t62
  have t64 := tok_cons rfl rfl (ok_laws_heldByteSS hs _ t63 rfl).1 t63
  have t65 := tok_cons rfl rfl (ok_laws_heldWriteS hs _ t64 rfl).1 t64
  have t66 := tok_cons rfl rfl (ok_laws_heldFaultS hs _ t65).1 t65
  have t67 := tok_cons rfl rfl (ok_laws_heldDisk hs _ t66 rfl rfl rfl).1 t66
  have t68 := tok_consR rfl (ok_laws_heldEng hs _ t67 rfl rfl) t67
  exact ok_law hs _ t68 rfl rfl rfl rfl rfl (mk_laws_markEng _ (mk_laws_markDefS _ rfl (mk_laws_markColS _ rfl) (mk_laws_markByS _) (mk_laws_markIndexS _ rfl (mk_laws_markByS _))) (mk_laws_markDisk _ (mk_laws_markByteSS _ (mk_laws_markByteS _)) (mk_laws_markWriteS _ (mk_laws_markByteS _)) (mk_laws_markFaultS _))) rfl
end
theorem shp_Col {n : Nat} {r : List AV} (h : shp Try.prog (n + 2) 113 r) : ∃ v : TCol, r = v.row ∧ tCol.fits v ∧ tCol.ok v := by
  obtain ⟨_, _, rfl, z0, _, _, rfl, z1, _, _, rfl, z2, rfl⟩ := shp_struct Try.underlying113 h
  obtain ⟨x0, rfl, y0⟩ := shp_str Try.underlying9 z0
  obtain ⟨x1, rfl, y1⟩ := shp_int Try.underlying3 z1
  obtain ⟨x2, rfl⟩ := shp_bool Try.underlying4 z2
  exact ⟨⟨x0, x1, x2⟩, rfl, y0, wf_i64 y1⟩
theorem shp_SCol {n : Nat} {r : List AV} (h : shp Try.prog (n + 3) 53 r) : ∃ l : List (TCol), r = (sliceT tCol).row l ∧ (sliceT tCol).fits l ∧ (sliceT tCol).ok l := by
  obtain ⟨rows, rfl, hl, hr⟩ := shp_slice Try.underlying53 h
  obtain ⟨l, h1, h2, h3⟩ := rows_of (enc := tCol.row) (p := fun v => tCol.fits v ∧ tCol.ok v) fun r hr' => shp_Col (n := n) (hr r hr')
  subst h1
  exact ⟨l, rfl, ⟨by simpa using hl, fun v hv => (h3 v hv).1⟩, fun v hv => (h3 v hv).2⟩
theorem shp_By {n : Nat} {r : List AV} (h : shp Try.prog (n + 2) 119 r) : ∃ v : TBy, r = v.row ∧ tBy.fits v ∧ tBy.ok v := by
  obtain ⟨_, _, rfl, z0, _, _, rfl, z1, rfl⟩ := shp_struct Try.underlying119 h
  obtain ⟨x0, rfl, y0⟩ := shp_int Try.underlying3 z0
  obtain ⟨x1, rfl⟩ := shp_bool Try.underlying4 z1
  exact ⟨⟨x0, x1⟩, rfl, trivial, wf_i64 y0⟩
theorem shp_SBy {n : Nat} {r : List AV} (h : shp Try.prog (n + 3) 54 r) : ∃ l : List (TBy), r = (sliceT tBy).row l ∧ (sliceT tBy).fits l ∧ (sliceT tBy).ok l := by
  obtain ⟨rows, rfl, hl, hr⟩ := shp_slice Try.underlying54 h
  obtain ⟨l, h1, h2, h3⟩ := rows_of (enc := tBy.row) (p := fun v => tBy.fits v ∧ tBy.ok v) fun r hr' => shp_By (n := n) (hr r hr')
  subst h1
  exact ⟨l, rfl, ⟨by simpa using hl, fun v hv => (h3 v hv).1⟩, fun v hv => (h3 v hv).2⟩
theorem shp_Index {n : Nat} {r : List AV} (h : shp Try.prog (n + 4) 116 r) : ∃ v : TIndex, r = v.row ∧ tIndex.fits v ∧ tIndex.ok v := by
  obtain ⟨_, _, rfl, z0, _, _, rfl, z1, _, _, rfl, z2, rfl⟩ := shp_struct Try.underlying116 h
  obtain ⟨x0, rfl, y0⟩ := shp_str Try.underlying9 z0
  obtain ⟨x1, rfl⟩ := shp_bool Try.underlying4 z1
  obtain ⟨x2, rfl, y2, y2'⟩ := shp_SBy (n := n + 0) z2
  exact ⟨⟨x0, x1, x2⟩, rfl, ⟨y0, y2⟩, y2'⟩
theorem shp_SIndex {n : Nat} {r : List AV} (h : shp Try.prog (n + 5) 55 r) : ∃ l : List (TIndex), r = (sliceT tIndex).row l ∧ (sliceT tIndex).fits l ∧ (sliceT tIndex).ok l := by
  obtain ⟨rows, rfl, hl, hr⟩ := shp_slice Try.underlying55 h
  obtain ⟨l, h1, h2, h3⟩ := rows_of (enc := tIndex.row) (p := fun v => tIndex.fits v ∧ tIndex.ok v) fun r hr' => shp_Index (n := n) (hr r hr')
  subst h1
  exact ⟨l, rfl, ⟨by simpa using hl, fun v hv => (h3 v hv).1⟩, fun v hv => (h3 v hv).2⟩
theorem shp_Def {n : Nat} {r : List AV} (h : shp Try.prog (n + 6) 57 r) : ∃ v : TDef, r = v.row ∧ tDef.fits v ∧ tDef.ok v := by
  obtain ⟨_, _, rfl, z0, _, _, rfl, z1, _, _, rfl, z2, _, _, rfl, z3, rfl⟩ := shp_struct Try.underlying57 h
  obtain ⟨x0, rfl, y0⟩ := shp_str Try.underlying9 z0
  obtain ⟨x1, rfl, y1, y1'⟩ := shp_SCol (n := n + 2) z1
  obtain ⟨x2, rfl, y2, y2'⟩ := shp_SBy (n := n + 2) z2
  obtain ⟨x3, rfl, y3, y3'⟩ := shp_SIndex (n := n + 0) z3
  exact ⟨⟨x0, x1, x2, x3⟩, rfl, ⟨y0, y1, y2, y3⟩, ⟨y1', y2', y3'⟩⟩
theorem shp_SDef {n : Nat} {r : List AV} (h : shp Try.prog (n + 7) 22 r) : ∃ l : List (TDef), r = (sliceT tDef).row l ∧ (sliceT tDef).fits l ∧ (sliceT tDef).ok l := by
  obtain ⟨rows, rfl, hl, hr⟩ := shp_slice Try.underlying22 h
  obtain ⟨l, h1, h2, h3⟩ := rows_of (enc := tDef.row) (p := fun v => tDef.fits v ∧ tDef.ok v) fun r hr' => shp_Def (n := n) (hr r hr')
  subst h1
  exact ⟨l, rfl, ⟨by simpa using hl, fun v hv => (h3 v hv).1⟩, fun v hv => (h3 v hv).2⟩
theorem u8_of {x : Int} (h : (Lit.int .u8 x).wf = true) : ∃ v : UInt8, [AV.int .u8 x] = u8T.row v ∧ u8T.fits v ∧ u8T.ok v := by
  have hx : 0 ≤ x ∧ x < 256 := by
    have h1 : IntKind.u8.min ≤ x ∧ x ≤ IntKind.u8.max := by simpa [Lit.wf] using h
    have h2 : IntKind.u8.min = 0 := rfl
    have h3 : IntKind.u8.max = 255 := rfl
    omega
  refine ⟨UInt8.ofNat x.toNat, ?_, trivial, trivial⟩
  show [AV.int .u8 x] = [AV.int .u8 ((UInt8.ofNat x.toNat).toNat : Int)]
  rw [UInt8.toNat_ofNat']
  congr 2
  omega
theorem shp_Sbyte {n : Nat} {r : List AV} (h : shp Try.prog (n + 2) 86 r) : ∃ l : List (UInt8), r = (sliceT u8T).row l ∧ (sliceT u8T).fits l ∧ (sliceT u8T).ok l := by
  obtain ⟨rows, rfl, hl, hr⟩ := shp_slice Try.underlying86 h
  obtain ⟨l, h1, h2, h3⟩ := rows_of (enc := u8T.row) (p := fun v => u8T.fits v ∧ u8T.ok v) fun r hr' => (by obtain ⟨x, rfl, y⟩ := shp_int Try.underlying5 (hr r hr'); exact u8_of y)
  subst h1
  exact ⟨l, rfl, ⟨by simpa using hl, fun v hv => (h3 v hv).1⟩, fun v hv => (h3 v hv).2⟩
theorem shp_SSbyte {n : Nat} {r : List AV} (h : shp Try.prog (n + 3) 23 r) : ∃ l : List (List (UInt8)), r = (sliceT (sliceT u8T)).row l ∧ (sliceT (sliceT u8T)).fits l ∧ (sliceT (sliceT u8T)).ok l := by
  obtain ⟨rows, rfl, hl, hr⟩ := shp_slice Try.underlying23 h
  obtain ⟨l, h1, h2, h3⟩ := rows_of (enc := (sliceT u8T).row) (p := fun v => (sliceT u8T).fits v ∧ (sliceT u8T).ok v) fun r hr' => shp_Sbyte (n := n) (hr r hr')
  subst h1
  exact ⟨l, rfl, ⟨by simpa using hl, fun v hv => (h3 v hv).1⟩, fun v hv => (h3 v hv).2⟩
theorem shp_Write {n : Nat} {r : List AV} (h : shp Try.prog (n + 3) 89 r) : ∃ v : TWrite, r = v.row ∧ tWrite.fits v ∧ tWrite.ok v := by
  obtain ⟨_, _, rfl, z0, _, _, rfl, z1, rfl⟩ := shp_struct Try.underlying89 h
  obtain ⟨x0, rfl, y0⟩ := shp_int Try.underlying3 z0
  obtain ⟨x1, rfl, y1, y1'⟩ := shp_Sbyte (n := n + 0) z1
  exact ⟨⟨x0, x1⟩, rfl, y1, ⟨wf_i64 y0, y1'⟩⟩
theorem shp_SWrite {n : Nat} {r : List AV} (h : shp Try.prog (n + 4) 24 r) : ∃ l : List (TWrite), r = (sliceT tWrite).row l ∧ (sliceT tWrite).fits l ∧ (sliceT tWrite).ok l := by
  obtain ⟨rows, rfl, hl, hr⟩ := shp_slice Try.underlying24 h
  obtain ⟨l, h1, h2, h3⟩ := rows_of (enc := tWrite.row) (p := fun v => tWrite.fits v ∧ tWrite.ok v) fun r hr' => shp_Write (n := n) (hr r hr')
  subst h1
  exact ⟨l, rfl, ⟨by simpa using hl, fun v hv => (h3 v hv).1⟩, fun v hv => (h3 v hv).2⟩
theorem shp_Fault {n : Nat} {r : List AV} (h : shp Try.prog (n + 2) 101 r) : ∃ v : TFault, r = v.row ∧ tFault.fits v ∧ tFault.ok v := by
  obtain ⟨_, _, rfl, z0, _, _, rfl, z1, _, _, rfl, z2, rfl⟩ := shp_struct Try.underlying101 h
  obtain ⟨x0, rfl, y0⟩ := shp_int Try.underlying3 z0
  obtain ⟨x1, rfl, y1⟩ := shp_int Try.underlying3 z1
  obtain ⟨x2, rfl, y2⟩ := shp_int Try.underlying3 z2
  exact ⟨⟨x0, x1, x2⟩, rfl, trivial, ⟨wf_i64 y0, wf_i64 y1, wf_i64 y2⟩⟩
theorem shp_SFault {n : Nat} {r : List AV} (h : shp Try.prog (n + 3) 25 r) : ∃ l : List (TFault), r = (sliceT tFault).row l ∧ (sliceT tFault).fits l ∧ (sliceT tFault).ok l := by
  obtain ⟨rows, rfl, hl, hr⟩ := shp_slice Try.underlying25 h
  obtain ⟨l, h1, h2, h3⟩ := rows_of (enc := tFault.row) (p := fun v => tFault.fits v ∧ tFault.ok v) fun r hr' => shp_Fault (n := n) (hr r hr')
  subst h1
  exact ⟨l, rfl, ⟨by simpa using hl, fun v hv => (h3 v hv).1⟩, fun v hv => (h3 v hv).2⟩
theorem shp_Disk {n : Nat} {r : List AV} (h : shp Try.prog (n + 5) 27 r) : ∃ v : TDisk, r = v.row ∧ tDisk.fits v ∧ tDisk.ok v := by
  obtain ⟨_, _, rfl, z0, _, _, rfl, z1, _, _, rfl, z2, _, _, rfl, z3, _, _, rfl, z4, rfl⟩ := shp_struct Try.underlying27 h
  obtain ⟨x0, rfl, y0, y0'⟩ := shp_SSbyte (n := n + 1) z0
  obtain ⟨x1, rfl, y1, y1'⟩ := shp_SWrite (n := n + 0) z1
  obtain ⟨x2, rfl, y2⟩ := shp_int Try.underlying3 z2
  obtain ⟨x3, rfl, y3, y3'⟩ := shp_SFault (n := n + 1) z3
  obtain ⟨x4, rfl⟩ := shp_bool Try.underlying4 z4
  exact ⟨⟨x0, x1, x2, x3, x4⟩, rfl, ⟨y0, y1, y3⟩, ⟨y0', y1', wf_i64 y2, y3'⟩⟩
theorem shp_Eng {n : Nat} {r : List AV} (h : shp Try.prog (n + 8) 29 r) : ∃ v : TEng, r = v.row ∧ tEng.fits v ∧ tEng.ok v := by
  obtain ⟨_, _, rfl, z0, _, _, rfl, z1, rfl⟩ := shp_struct Try.underlying29 h
  obtain ⟨x0, rfl, y0, y0'⟩ := shp_SDef (n := n + 0) z0
  obtain ⟨x1, rfl, y1, y1'⟩ := shp_Disk (n := n + 2) z1
  exact ⟨⟨x0, x1⟩, rfl, ⟨y0, y1⟩, ⟨y0', y1'⟩⟩
theorem hlaw (xs : List AV) (h : shpAs Try.prog 8 Try.f3.params.toList xs) : C_law xs = some (.bool true) := by
  rw [Try.params3] at h
  obtain ⟨y0, r0, rfl, z0, zend⟩ := h
  have hr : r0 = [] := zend
  subst hr
  obtain ⟨w0, rfl, z0'⟩ := shpA_agg Try.underlying29 z0
  obtain ⟨v0, rfl, f0, o0⟩ := shp_Eng (n := 0) z0'
  exact c1_eq tEng ⟨f0, o0⟩
end Go.Proofs.Ytgjdkcjijmdfoaa.Eo
