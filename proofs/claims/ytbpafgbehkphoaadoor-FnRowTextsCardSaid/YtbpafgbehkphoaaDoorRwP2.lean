/- What the functions that FnRowTexts calls answer, for every argument within the law's bounds: part 2. -/
import Derived.Test.YtbpafgbehkphoaaDoorRwP1
import Derived.Lib.AtoiAllCases
import Derived.Lib.Bytealg
import Derived.Lib.ItoaLen
import Derived.Lib.ItoaMem
import Derived.Lib.ItoaNum
import Derived.Lib.Join
import Derived.Lib.Split
import Derived.Lib.SplitLaws
set_option linter.unusedVariables false
set_option linter.unusedSimpArgs false
/- What the functions that FnRowTexts calls answer: part 9. -/
namespace Go.Proofs.YtbpafgbehkphoaaDoor.Rw
open Go Go.RowKit Go.Ev
set_option linter.unusedSimpArgs false
set_option linter.unusedVariables false
set_option maxHeartbeats 1600000
noncomputable def C_impl_ParseRow := c1 strT (fun (s : List UInt8) => s.length ≤ 1048576) (fun x => .tup [.imm (x.1.map TVal.row), .bool x.2]) fun (s : List UInt8) => parseRow s
theorem C_impl_ParseRow_eq (s : List UInt8) (h : s.length ≤ 1048576) : C_impl_ParseRow [.str s] = some (.tup [.imm (((parseRow s).1).map TVal.row), .bool ((parseRow s).2)]) := c1_eq strT h
theorem okO_impl_ParseRow {WI : World → Prop} (hs : Stable WI) (cs) (hT : TOK (EE cs) WI) (h1 : (EE cs).T 22 = some C_impl_ParseVal) (h2 : (EE cs).T 21 = some C_strings_Split) : OwnOK Tryd.prog WI 8 C_impl_ParseRow := by
  refine own1 (E := EE cs) hT hs (by rw [st_impl_ParseRow]; rfl) fun s hp => outO_wp (st_impl_ParseRow cs) ?_
  have hp0 := hp
  by_cases hs : s = []
  · subst hs
    have hx : parseRow [] = ([], true) := rfl
    simp only [go_sem, kSt_ptr, Nat.reduceBEq, Nat.reduceAdd, Nat.reduceEqDiff, Nat.reduceLeDiff, Nat.reduceSub, reduceIte, Int.reduceBEq, Int.reduceEq, Int.reduceLT, Int.reduceLE, Int.reduceGT, Int.reduceGE, Int.reduceNe, Int.reduceBNe, s_impl_ParseRow, hx]
    exact (OwS.nil 0 tVal (lo := 0) (hi := 0) (Nat.le_refl _) (Nat.zero_le _)).owI.owE_tb (by decide) true
  have hse := beqF hs
  have hc := C_strings_Split_eq s [32] ⟨by omega, by simp⟩
  rw [split_cut] at hc
  have hlen := cutB_len 32 s
  obtain ⟨f1, f2⟩ := parseRow_all hs
  simp only [go_sem, kSt_ptr, Nat.reduceBEq, Nat.reduceAdd, Nat.reduceEqDiff, Nat.reduceLeDiff, Nat.reduceSub, reduceIte, Int.reduceBEq, Int.reduceEq, Int.reduceLT, Int.reduceLE, Int.reduceGT, Int.reduceGE, Int.reduceNe, Int.reduceBNe, s_impl_ParseRow, hse, h2, hc]
  refine (wl_all (l := (cutB 32 s)) (fun pre p => okB p && decide ((pre.length : Int) ≤ 7)) (fun pre e h => e 12 = .imm ((cutB 32 s).map strT.row) ∧ OwS 0 tVal 0 h.nx (pre.map vOf) (e 4) h ∧ e 14 = .int .i64 pre.length ∧ e 13 = .int .i64 ((cutB 32 s)).length) (.exit 0) (fun e h => e 12 = .imm ((cutB 32 s).map strT.row) ∧ OwS 0 tVal 0 h.nx (((cutB 32 s)).map vOf) (e 4) h) (fun e h => OwS 0 tVal 0 h.nx [] (e 2) h ∧ e 3 = .bool false) (by omega) ?_ ?_ ?_ (by simp) (cutB 32 s) [] _ _ rfl ?_).mono ?_
  · rintro pre p rest e h a hp ⟨q0, q1, ix, nx⟩
    have hpl : p.length ≤ 1048576 := Nat.le_trans (cutB_mem 32 s p a.mem) hp0
    have hc1 := C_impl_ParseVal_eq p hpl
    have hlt := a.lt
    have hne : ¬ h.nx = h.nx + 1 := by omega
    have hlL := fun h2 => (q1.lenL h2)
    rw [List.length_map] at hlL
    simp only [Bool.and_eq_true, decide_eq_true_eq] at hp
    have hgt : ¬ (8 : Int) ≤ (pre.length : Int) := by omega
    have ho : (parseVal p).2 = true := hp.1
    all_goals simp only [go_sem, kSt_ptr, Nat.reduceBEq, Nat.reduceAdd, Nat.reduceEqDiff, Nat.reduceLeDiff, Nat.reduceSub, reduceIte, Int.reduceBEq, Int.reduceEq, Int.reduceLT, Int.reduceLE, Int.reduceGT, Int.reduceGE, Int.reduceNe, Int.reduceBNe, s_impl_ParseRow_L0, q0, q1, ix, nx, a.dl, a.ia (row := strT.row) (sz := 1) rfl, hp, a.hw, strT_row, TVal.row, h1, hc1, ho, hne, hlL, vFillR, vFrzR, hgt]
    refine hP_growL [vOf p] rfl rfl (q1.mono (by simp <;> omega) (fun q _ hq => by have g1 : ¬ q = h.nx + 1 := (by omega); have g2 : ¬ q = h.nx := (by omega); simp [g1, g2])) (rowsIn_sl1 (cs := (vOf p).row) (by simp [TVal.row, vOf]) rfl) (by simp only [List.length_cons, List.length_nil, List.length_map]; unfold room; omega) ?_
    intro v' h' g1 g2 g3 g4
    simp only [go_sem, kSt_ptr, Nat.reduceBEq, Nat.reduceAdd, Nat.reduceEqDiff, Nat.reduceLeDiff, Nat.reduceSub, reduceIte, Int.reduceBEq, Int.reduceEq, Int.reduceLT, Int.reduceLE, Int.reduceGT, Int.reduceGE, Int.reduceNe, Int.reduceBNe, q0, ix, nx, a.hw, List.map_append, List.map_cons, List.map_nil, g1]
  · rintro pre p rest e h a hp ⟨q0, q1, ix, nx⟩
    have hpl : p.length ≤ 1048576 := Nat.le_trans (cutB_mem 32 s p a.mem) hp0
    have hc1 := C_impl_ParseVal_eq p hpl
    have hlt := a.lt
    have hne : ¬ h.nx = h.nx + 1 := by omega
    have hlL := fun h2 => (q1.lenL h2)
    rw [List.length_map] at hlL
    have hcase : (parseVal p).2 = false ∨ ((parseVal p).2 = true ∧ (8 : Int) ≤ (pre.length : Int)) := by cases hx : (parseVal p).2; exact .inl rfl; have hx' : okB p = true := hx; rw [hx', Bool.true_and] at hp; exact .inr ⟨rfl, by have := of_decide_eq_false hp; omega⟩
    rcases hcase with ho | ⟨ho, hgt⟩
    all_goals simp only [go_sem, kSt_ptr, Nat.reduceBEq, Nat.reduceAdd, Nat.reduceEqDiff, Nat.reduceLeDiff, Nat.reduceSub, reduceIte, Int.reduceBEq, Int.reduceEq, Int.reduceLT, Int.reduceLE, Int.reduceGT, Int.reduceGE, Int.reduceNe, Int.reduceBNe, s_impl_ParseRow_L0, q0, q1, ix, nx, a.dl, a.ia (row := strT.row) (sz := 1) rfl, hp, a.hw, strT_row, TVal.row, h1, hc1, ho, hne, hlL, vFillR, vFrzR]
    · exact OwS.nil _ _ (Nat.zero_le _) (Nat.le_refl _)
    simp only [go_sem, kSt_ptr, Nat.reduceBEq, Nat.reduceAdd, Nat.reduceEqDiff, Nat.reduceLeDiff, Nat.reduceSub, reduceIte, Int.reduceBEq, Int.reduceEq, Int.reduceLT, Int.reduceLE, Int.reduceGT, Int.reduceGE, Int.reduceNe, Int.reduceBNe, hgt]
    exact OwS.nil _ _ (Nat.zero_le _) (Nat.le_refl _)
  · rintro e h ⟨q0, q1, ix, nx⟩
    simp only [go_sem, kSt_ptr, Nat.reduceBEq, Nat.reduceAdd, Nat.reduceEqDiff, Nat.reduceLeDiff, Nat.reduceSub, reduceIte, Int.reduceBEq, Int.reduceEq, Int.reduceLT, Int.reduceLE, Int.reduceGT, Int.reduceGE, Int.reduceNe, Int.reduceBNe, s_impl_ParseRow_L0, q0, q1, ix, nx]
  · simp only [go_sem, kSt_ptr, Nat.reduceBEq, Nat.reduceAdd, Nat.reduceEqDiff, Nat.reduceLeDiff, Nat.reduceSub, reduceIte, Int.reduceBEq, Int.reduceEq, Int.reduceLT, Int.reduceLE, Int.reduceGT, Int.reduceGE, Int.reduceNe, Int.reduceBNe]; exact OwS.nil _ _ (Nat.zero_le _) (Nat.le_refl _)
  · rintro x e h (⟨hq, rfl, j0, j1⟩ | ⟨hq, rfl, j1, j2⟩)
    · rw [f1 hq]
      simp only [go_sem, kSt_ptr, Nat.reduceBEq, Nat.reduceAdd, Nat.reduceEqDiff, Nat.reduceLeDiff, Nat.reduceSub, reduceIte, Int.reduceBEq, Int.reduceEq, Int.reduceLT, Int.reduceLE, Int.reduceGT, Int.reduceGE, Int.reduceNe, Int.reduceBNe, j1]
      exact j1.owI.owE_tb (by decide) true
    · rw [f2 hq]
      simp only [go_sem, kSt_ptr, Nat.reduceBEq, Nat.reduceAdd, Nat.reduceEqDiff, Nat.reduceLeDiff, Nat.reduceSub, reduceIte, Int.reduceBEq, Int.reduceEq, Int.reduceLT, Int.reduceLE, Int.reduceGT, Int.reduceGE, Int.reduceNe, Int.reduceBNe, j1, j2]
      exact j1.owI.owE_tb (by decide) false
theorem ok_impl_ParseRow {WI : World → Prop} (hs : Stable WI) (cs) (hT : TOK (EE cs) WI) (h1 : (EE cs).T 22 = some C_impl_ParseVal) (h2 : (EE cs).T 21 = some C_strings_Split) : PureOK Tryd.prog WI 8 C_impl_ParseRow := (okO_impl_ParseRow hs cs hT h1 h2).pure
noncomputable def C_spec_l2Digit := c1 u8T (fun (b : UInt8) => True) (.bool) fun (b : UInt8) => digitB b
theorem C_spec_l2Digit_eq (b : UInt8) (h : True) : C_spec_l2Digit [.int .u8 (b).toNat] = some (.bool ((digitB b))) := c1_eq u8T h
theorem ok_spec_l2Digit {WI : World → Prop} (hs : Stable WI) (cs) (hT : TOK (EE cs) WI) (h : (EE cs).T 55 = some C_spec_l1In) : PureOK Tryd.prog WI 73 C_spec_l2Digit := by
  refine pure1 (E := EE cs) hT hs (by rw [st_spec_l2Digit]; rfl) fun b hp => out_wp (n := 0) (st_spec_l2Digit cs) ?_
  simp only [go_sem, kSt_ptr, Nat.reduceBEq, Nat.reduceAdd, Nat.reduceEqDiff, Nat.reduceLeDiff, Nat.reduceSub, reduceIte, Int.reduceBEq, Int.reduceEq, Int.reduceLT, Int.reduceLE, Int.reduceGT, Int.reduceGE, Int.reduceNe, Int.reduceBNe, s_spec_l2Digit, u8i, h, C_spec_l1In_eq, digitB]
theorem digitN (b : UInt8) : digitB b = digN b := by
  unfold digitB digN inR
  congr 1 <;> (apply decide_eq_decide.2; omega)
noncomputable def C_spec_l2Parse := c1 strT (fun (s : List UInt8) => s.length ≤ 1048576) (fun x => .tup [.int .i64 x.1, .bool x.2]) fun (s : List UInt8) => parse2 s
theorem C_spec_l2Parse_eq (s : List UInt8) (h : s.length ≤ 1048576) : C_spec_l2Parse [.str s] = some (.tup [.int .i64 ((parse2 s).1), .bool ((parse2 s).2)]) := c1_eq strT h
theorem ok_spec_l2Parse {WI : World → Prop} (hs : Stable WI) (cs) (hT : TOK (EE cs) WI) (h1 : (EE cs).T 73 = some C_spec_l2Digit) (h2 : (EE cs).T 55 = some C_spec_l1In) : PureOK Tryd.prog WI 54 C_spec_l2Parse := by
  refine pure1 (E := EE cs) hT hs (by rw [st_spec_l2Parse]; rfl) fun s hp => out_wp (n := 0) (st_spec_l2Parse cs) ?_
  have loop : ∀ (t : List UInt8) (m : Bool) (e : Ps) (h : Hp), t.length ≤ 16 → e 0 = .str t → e 4 = .bool m → e 5 = .int .i64 0 → e 6 = .int .i64 0 → WL (EE cs) s_spec_l2Parse_L0 e h fun x e' h' => (t.all digN = true ∧ x = .exit 0 ∧ e' 4 = .bool m ∧ e' 5 = .int .i64 (numD 0 t)) ∨ (t.all digN = false ∧ x = .ret ∧ e' 2 = .int .i64 0 ∧ e' 3 = .bool false) := by
    intro t m e h ht g0 g4 g5 g6
    refine (wl_all (l := t) (fun pre b => digN b) (fun pre e h => e 0 = .str t ∧ e 4 = .bool m ∧ e 5 = .int .i64 (numD 0 pre) ∧ pre.all digN = true ∧ e 6 = .int .i64 pre.length) (.exit 0) (fun e h => e 0 = .str t ∧ e 4 = .bool m ∧ e 5 = .int .i64 (numD 0 (t)) ∧ (t).all digN = true) (fun e h => e 2 = .int .i64 0 ∧ e 3 = .bool false) (by omega) ?_ ?_ ?_ (by simp) t [] _ _ rfl ?_).mono ?_
    · rintro pre b rest e h a hp ⟨q0, q1, q2, q3, ix⟩
      have hlt := numD_lt pre 0 q3
      have hle : 10 ^ pre.length ≤ 10 ^ 16 := Nat.pow_le_pow_right (by omega) (by have := a.lt; omega)
      have hb : 48 ≤ b.toNat ∧ b.toNat ≤ 57 := by simpa [digN] using hp
      have w1 : IntKind.wrap .i64 ((numD 0 pre : Int) * 10) = (numD 0 pre : Int) * 10 := wrapId (by omega) (by omega)
      have w2 : IntKind.wrap .u8 ((b.toNat : Int) - 48) = (b.toNat : Int) - 48 := by simp [IntKind.wrap, IntKind.bits, IntKind.signed]; omega
      have w3 : IntKind.wrap .i64 ((b.toNat : Int) - 48) = (b.toNat : Int) - 48 := wrapId (by omega) (by omega)
      have w4 : IntKind.wrap .i64 ((numD 0 pre : Int) * 10 + ((b.toNat : Int) - 48)) = ((numD 0 (pre ++ [b]) : Nat) : Int) := by rw [numD_snoc, wrapId (by omega) (by omega)]; omega
      simp only [go_sem, kSt_ptr, Nat.reduceBEq, Nat.reduceAdd, Nat.reduceEqDiff, Nat.reduceLeDiff, Nat.reduceSub, reduceIte, Int.reduceBEq, Int.reduceEq, Int.reduceLT, Int.reduceLE, Int.reduceGT, Int.reduceGE, Int.reduceNe, Int.reduceBNe, s_spec_l2Parse_L0, q0, q1, q2, q3, ix, a.dl, kIx_at a.hl, hp, a.hw, h1, C_spec_l2Digit_eq, digitN, w1, w2, w3, w4, List.all_append, List.all_cons, List.all_nil, Bool.and_true]
    · rintro pre b rest e h a hp ⟨q0, q1, q2, q3, ix⟩
      simp only [go_sem, kSt_ptr, Nat.reduceBEq, Nat.reduceAdd, Nat.reduceEqDiff, Nat.reduceLeDiff, Nat.reduceSub, reduceIte, Int.reduceBEq, Int.reduceEq, Int.reduceLT, Int.reduceLE, Int.reduceGT, Int.reduceGE, Int.reduceNe, Int.reduceBNe, s_spec_l2Parse_L0, q0, q1, q2, q3, ix, a.dl, kIx_at a.hl, hp, a.hw, h1, C_spec_l2Digit_eq, digitN, hp]
    · rintro e h ⟨q0, q1, q2, q3, ix⟩
      simp only [go_sem, kSt_ptr, Nat.reduceBEq, Nat.reduceAdd, Nat.reduceEqDiff, Nat.reduceLeDiff, Nat.reduceSub, reduceIte, Int.reduceBEq, Int.reduceEq, Int.reduceLT, Int.reduceLE, Int.reduceGT, Int.reduceGE, Int.reduceNe, Int.reduceBNe, s_spec_l2Parse_L0, q0, q1, q2, q3, ix]
    · simp only [go_sem, kSt_ptr, Nat.reduceBEq, Nat.reduceAdd, Nat.reduceEqDiff, Nat.reduceLeDiff, Nat.reduceSub, reduceIte, Int.reduceBEq, Int.reduceEq, Int.reduceLT, Int.reduceLE, Int.reduceGT, Int.reduceGE, Int.reduceNe, Int.reduceBNe, g0, g4, g5, g6, numD_nil, List.all_nil]
    · rintro x e' h' (⟨hp, rfl, j0, j4, j5, j3⟩ | ⟨hp, rfl, j2, j3⟩)
      · rw [allP_all] at hp
        exact .inl ⟨hp, rfl, j4, j5⟩
      · rw [allP_all] at hp
        exact .inr ⟨hp, rfl, j2, j3⟩
  cases s with
  | nil =>
    have hp2 : parse2 [] = (0, false) := rfl
    have hi : inR 0 1 16 = false := by decide
    simp only [go_sem, kSt_ptr, Nat.reduceBEq, Nat.reduceAdd, Nat.reduceEqDiff, Nat.reduceLeDiff, Nat.reduceSub, reduceIte, Int.reduceBEq, Int.reduceEq, Int.reduceLT, Int.reduceLE, Int.reduceGT, Int.reduceGE, Int.reduceNe, Int.reduceBNe, s_spec_l2Parse, h2, C_spec_l1In_eq, List.length_nil, hi, hp2, Int.lt_irrefl]
  | cons c r =>
    have hl : (0 : Int) < ((r.length + 1 : Nat) : Int) := by omega
    have hih := ix_head c r
    have hst := sli_tail c r
    by_cases hc : c = 45
    · have hce : ((c.toNat : Int) == 45) = true := u8eq hc
      have hm : ((c :: r).head? == some 45) = true := by simp [hc]
      have hpo := parse2_of hm (t := r) rfl
      cases hi : inR (r.length : Int) 1 16
      · have hp2 : parse2 (c :: r) = (0, false) := by rw [hpo, if_pos (.inl hi)]
        simp only [go_sem, kSt_ptr, Nat.reduceBEq, Nat.reduceAdd, Nat.reduceEqDiff, Nat.reduceLeDiff, Nat.reduceSub, reduceIte, Int.reduceBEq, Int.reduceEq, Int.reduceLT, Int.reduceLE, Int.reduceGT, Int.reduceGE, Int.reduceNe, Int.reduceBNe, s_spec_l2Parse, hl, hih, hce, hst, h2, C_spec_l1In_eq, hi, hp2]
      have hr16 : r.length ≤ 16 := by simp [inR] at hi; omega
      cases r with
      | nil => simp [inR] at hi
      | cons d q =>
        have hl : (0 : Int) < ((q.length + 1 + 1 : Nat) : Int) := hl
        have hi : inR ((q.length + 1 : Nat) : Int) 1 16 = true := hi
        have hih2 := ix_head d q
        by_cases hd : d = 48
        · have hde : ((d.toNat : Int) == 48) = true := u8eq hd
          have hp2 : parse2 (c :: d :: q) = (0, false) := by rw [hpo, if_pos (.inr (.inl ⟨by simp [hd], .inr rfl⟩))]
          by_cases hq : (1 : Int) < ((q.length + 1 : Nat) : Int)
          · simp only [go_sem, kSt_ptr, Nat.reduceBEq, Nat.reduceAdd, Nat.reduceEqDiff, Nat.reduceLeDiff, Nat.reduceSub, reduceIte, Int.reduceBEq, Int.reduceEq, Int.reduceLT, Int.reduceLE, Int.reduceGT, Int.reduceGE, Int.reduceNe, Int.reduceBNe, s_spec_l2Parse, hl, hih, hce, hst, h2, C_spec_l1In_eq, hi, hp2, hih2, hde, hq]
          · simp only [go_sem, kSt_ptr, Nat.reduceBEq, Nat.reduceAdd, Nat.reduceEqDiff, Nat.reduceLeDiff, Nat.reduceSub, reduceIte, Int.reduceBEq, Int.reduceEq, Int.reduceLT, Int.reduceLE, Int.reduceGT, Int.reduceGE, Int.reduceNe, Int.reduceBNe, s_spec_l2Parse, hl, hih, hce, hst, h2, C_spec_l1In_eq, hi, hp2, hih2, hde, hq]
        · have hde : ((d.toNat : Int) == 48) = false := u8ne hd
          simp only [go_sem, kSt_ptr, Nat.reduceBEq, Nat.reduceAdd, Nat.reduceEqDiff, Nat.reduceLeDiff, Nat.reduceSub, reduceIte, Int.reduceBEq, Int.reduceEq, Int.reduceLT, Int.reduceLE, Int.reduceGT, Int.reduceGE, Int.reduceNe, Int.reduceBNe, s_spec_l2Parse, hl, hih, hce, hst, h2, C_spec_l1In_eq, hi, hih2, hde]
          refine (loop (d :: q) true _ _ hr16 (by simp only [go_sem, kSt_ptr, Nat.reduceBEq, Nat.reduceAdd, Nat.reduceEqDiff, Nat.reduceLeDiff, Nat.reduceSub, reduceIte, Int.reduceBEq, Int.reduceEq, Int.reduceLT, Int.reduceLE, Int.reduceGT, Int.reduceGE, Int.reduceNe, Int.reduceBNe]) (by simp only [go_sem, kSt_ptr, Nat.reduceBEq, Nat.reduceAdd, Nat.reduceEqDiff, Nat.reduceLeDiff, Nat.reduceSub, reduceIte, Int.reduceBEq, Int.reduceEq, Int.reduceLT, Int.reduceLE, Int.reduceGT, Int.reduceGE, Int.reduceNe, Int.reduceBNe]) (by simp only [go_sem, kSt_ptr, Nat.reduceBEq, Nat.reduceAdd, Nat.reduceEqDiff, Nat.reduceLeDiff, Nat.reduceSub, reduceIte, Int.reduceBEq, Int.reduceEq, Int.reduceLT, Int.reduceLE, Int.reduceGT, Int.reduceGE, Int.reduceNe, Int.reduceBNe]) (by simp only [go_sem, kSt_ptr, Nat.reduceBEq, Nat.reduceAdd, Nat.reduceEqDiff, Nat.reduceLeDiff, Nat.reduceSub, reduceIte, Int.reduceBEq, Int.reduceEq, Int.reduceLT, Int.reduceLE, Int.reduceGT, Int.reduceGE, Int.reduceNe, Int.reduceBNe])).mono ?_
          rintro x e' h' (⟨hz, rfl, j4, j5⟩ | ⟨hz, rfl, j2, j3⟩)
          · have hlt := numD_lt (d :: q) 0 hz
            have hle : 10 ^ (d :: q).length ≤ 10 ^ 16 := Nat.pow_le_pow_right (by omega) hr16
            have hw : IntKind.wrap .i64 (0 - (numD 0 (d :: q) : Int)) = -(numD 0 (d :: q) : Int) := by rw [wrapId (by omega) (by omega)]; omega
            have hp2 : parse2 (c :: d :: q) = (-(numD 0 (d :: q) : Int), true) := by rw [hpo, if_neg (by rw [List.length_cons, hi, hz]; simp [hd])]; rfl
            simp only [go_sem, kSt_ptr, Nat.reduceBEq, Nat.reduceAdd, Nat.reduceEqDiff, Nat.reduceLeDiff, Nat.reduceSub, reduceIte, Int.reduceBEq, Int.reduceEq, Int.reduceLT, Int.reduceLE, Int.reduceGT, Int.reduceGE, Int.reduceNe, Int.reduceBNe, j4, j5, hw, hp2]
          · have hp2 : parse2 (c :: d :: q) = (0, false) := by rw [hpo, if_pos (.inr (.inr hz))]
            simp only [go_sem, kSt_ptr, Nat.reduceBEq, Nat.reduceAdd, Nat.reduceEqDiff, Nat.reduceLeDiff, Nat.reduceSub, reduceIte, Int.reduceBEq, Int.reduceEq, Int.reduceLT, Int.reduceLE, Int.reduceGT, Int.reduceGE, Int.reduceNe, Int.reduceBNe, j2, j3, hp2]
    · have hce : ((c.toNat : Int) == 45) = false := u8ne hc
      have hm : ((c :: r).head? == some 45) = false := by simp [hc]
      have hpo := parse2_of hm (t := c :: r) rfl
      cases hi : inR ((r.length + 1 : Nat) : Int) 1 16
      · have hp2 : parse2 (c :: r) = (0, false) := by rw [hpo, if_pos (.inl hi)]
        simp only [go_sem, kSt_ptr, Nat.reduceBEq, Nat.reduceAdd, Nat.reduceEqDiff, Nat.reduceLeDiff, Nat.reduceSub, reduceIte, Int.reduceBEq, Int.reduceEq, Int.reduceLT, Int.reduceLE, Int.reduceGT, Int.reduceGE, Int.reduceNe, Int.reduceBNe, s_spec_l2Parse, hl, hih, hce, h2, C_spec_l1In_eq, hi, hp2]
      have hr16 : (c :: r).length ≤ 16 := by simp only [inR, Bool.and_eq_true, decide_eq_true_eq] at hi; rw [List.length_cons]; omega
      have fin : ∀ (hno : ¬ ((c :: r).head? = some 48 ∧ ((1 : Int) < (((c :: r).length : Nat) : Int) ∨ false = true))), ((c :: r).all digN = true → parse2 (c :: r) = ((numD 0 (c :: r) : Int), true)) ∧ ((c :: r).all digN = false → parse2 (c :: r) = (0, false)) := fun hno => by
        refine ⟨fun hz => ?_, fun hz => ?_⟩
        · rw [hpo, if_neg]
          · rfl
          · rintro (h | h | h)
            · rw [List.length_cons, hi] at h; cases h
            · exact hno h
            · rw [hz] at h; cases h
        · rw [hpo, if_pos (.inr (.inr hz))]
      by_cases hd : c = 48
      · have hde : ((c.toNat : Int) == 48) = true := u8eq hd
        by_cases hq : (1 : Int) < ((r.length + 1 : Nat) : Int)
        · have hp2 : parse2 (c :: r) = (0, false) := by rw [hpo, if_pos (.inr (.inl ⟨by simp [hd], .inl hq⟩))]
          simp only [go_sem, kSt_ptr, Nat.reduceBEq, Nat.reduceAdd, Nat.reduceEqDiff, Nat.reduceLeDiff, Nat.reduceSub, reduceIte, Int.reduceBEq, Int.reduceEq, Int.reduceLT, Int.reduceLE, Int.reduceGT, Int.reduceGE, Int.reduceNe, Int.reduceBNe, s_spec_l2Parse, hl, hih, hce, h2, C_spec_l1In_eq, hi, hp2, hde, hq]
        · obtain ⟨f1, f2⟩ := fin (fun h => by rcases h.2 with h | h; exact hq h; cases h)
          simp only [go_sem, kSt_ptr, Nat.reduceBEq, Nat.reduceAdd, Nat.reduceEqDiff, Nat.reduceLeDiff, Nat.reduceSub, reduceIte, Int.reduceBEq, Int.reduceEq, Int.reduceLT, Int.reduceLE, Int.reduceGT, Int.reduceGE, Int.reduceNe, Int.reduceBNe, s_spec_l2Parse, hl, hih, hce, h2, C_spec_l1In_eq, hi, hde, hq]
          refine (loop (c :: r) false _ _ hr16 (by simp only [go_sem, kSt_ptr, Nat.reduceBEq, Nat.reduceAdd, Nat.reduceEqDiff, Nat.reduceLeDiff, Nat.reduceSub, reduceIte, Int.reduceBEq, Int.reduceEq, Int.reduceLT, Int.reduceLE, Int.reduceGT, Int.reduceGE, Int.reduceNe, Int.reduceBNe]) (by simp only [go_sem, kSt_ptr, Nat.reduceBEq, Nat.reduceAdd, Nat.reduceEqDiff, Nat.reduceLeDiff, Nat.reduceSub, reduceIte, Int.reduceBEq, Int.reduceEq, Int.reduceLT, Int.reduceLE, Int.reduceGT, Int.reduceGE, Int.reduceNe, Int.reduceBNe]) (by simp only [go_sem, kSt_ptr, Nat.reduceBEq, Nat.reduceAdd, Nat.reduceEqDiff, Nat.reduceLeDiff, Nat.reduceSub, reduceIte, Int.reduceBEq, Int.reduceEq, Int.reduceLT, Int.reduceLE, Int.reduceGT, Int.reduceGE, Int.reduceNe, Int.reduceBNe]) (by simp only [go_sem, kSt_ptr, Nat.reduceBEq, Nat.reduceAdd, Nat.reduceEqDiff, Nat.reduceLeDiff, Nat.reduceSub, reduceIte, Int.reduceBEq, Int.reduceEq, Int.reduceLT, Int.reduceLE, Int.reduceGT, Int.reduceGE, Int.reduceNe, Int.reduceBNe])).mono ?_
          rintro x e' h' (⟨hz, rfl, j4, j5⟩ | ⟨hz, rfl, j2, j3⟩)
          · simp only [go_sem, kSt_ptr, Nat.reduceBEq, Nat.reduceAdd, Nat.reduceEqDiff, Nat.reduceLeDiff, Nat.reduceSub, reduceIte, Int.reduceBEq, Int.reduceEq, Int.reduceLT, Int.reduceLE, Int.reduceGT, Int.reduceGE, Int.reduceNe, Int.reduceBNe, j4, j5, f1 hz]
          · simp only [go_sem, kSt_ptr, Nat.reduceBEq, Nat.reduceAdd, Nat.reduceEqDiff, Nat.reduceLeDiff, Nat.reduceSub, reduceIte, Int.reduceBEq, Int.reduceEq, Int.reduceLT, Int.reduceLE, Int.reduceGT, Int.reduceGE, Int.reduceNe, Int.reduceBNe, j2, j3, f2 hz]
      · have hde : ((c.toNat : Int) == 48) = false := u8ne hd
        obtain ⟨f1, f2⟩ := fin (fun h => hd (by simpa using h.1))
        simp only [go_sem, kSt_ptr, Nat.reduceBEq, Nat.reduceAdd, Nat.reduceEqDiff, Nat.reduceLeDiff, Nat.reduceSub, reduceIte, Int.reduceBEq, Int.reduceEq, Int.reduceLT, Int.reduceLE, Int.reduceGT, Int.reduceGE, Int.reduceNe, Int.reduceBNe, s_spec_l2Parse, hl, hih, hce, h2, C_spec_l1In_eq, hi, hde]
        refine (loop (c :: r) false _ _ hr16 (by simp only [go_sem, kSt_ptr, Nat.reduceBEq, Nat.reduceAdd, Nat.reduceEqDiff, Nat.reduceLeDiff, Nat.reduceSub, reduceIte, Int.reduceBEq, Int.reduceEq, Int.reduceLT, Int.reduceLE, Int.reduceGT, Int.reduceGE, Int.reduceNe, Int.reduceBNe]) (by simp only [go_sem, kSt_ptr, Nat.reduceBEq, Nat.reduceAdd, Nat.reduceEqDiff, Nat.reduceLeDiff, Nat.reduceSub, reduceIte, Int.reduceBEq, Int.reduceEq, Int.reduceLT, Int.reduceLE, Int.reduceGT, Int.reduceGE, Int.reduceNe, Int.reduceBNe]) (by simp only [go_sem, kSt_ptr, Nat.reduceBEq, Nat.reduceAdd, Nat.reduceEqDiff, Nat.reduceLeDiff, Nat.reduceSub, reduceIte, Int.reduceBEq, Int.reduceEq, Int.reduceLT, Int.reduceLE, Int.reduceGT, Int.reduceGE, Int.reduceNe, Int.reduceBNe]) (by simp only [go_sem, kSt_ptr, Nat.reduceBEq, Nat.reduceAdd, Nat.reduceEqDiff, Nat.reduceLeDiff, Nat.reduceSub, reduceIte, Int.reduceBEq, Int.reduceEq, Int.reduceLT, Int.reduceLE, Int.reduceGT, Int.reduceGE, Int.reduceNe, Int.reduceBNe])).mono ?_
        rintro x e' h' (⟨hz, rfl, j4, j5⟩ | ⟨hz, rfl, j2, j3⟩)
        · simp only [go_sem, kSt_ptr, Nat.reduceBEq, Nat.reduceAdd, Nat.reduceEqDiff, Nat.reduceLeDiff, Nat.reduceSub, reduceIte, Int.reduceBEq, Int.reduceEq, Int.reduceLT, Int.reduceLE, Int.reduceGT, Int.reduceGE, Int.reduceNe, Int.reduceBNe, j4, j5, f1 hz]
        · simp only [go_sem, kSt_ptr, Nat.reduceBEq, Nat.reduceAdd, Nat.reduceEqDiff, Nat.reduceLeDiff, Nat.reduceSub, reduceIte, Int.reduceBEq, Int.reduceEq, Int.reduceLT, Int.reduceLE, Int.reduceGT, Int.reduceGE, Int.reduceNe, Int.reduceBNe, j2, j3, f2 hz]
noncomputable def C_spec_l2Val := c1 strT (fun (s : List UInt8) => s.length ≤ 1048576) (fun x => .tup [.agg (x.1).row, .bool x.2]) fun (s : List UInt8) => val2 s
theorem C_spec_l2Val_eq (s : List UInt8) (h : s.length ≤ 1048576) : C_spec_l2Val [.str s] = some (.tup [.agg (((val2 s).1)).row, .bool ((val2 s).2)]) := c1_eq strT h
theorem ok_spec_l2Val {WI : World → Prop} (hs : Stable WI) (cs) (hT : TOK (EE cs) WI) (h1 : (EE cs).T 40 = some C_spec_l2Plain) (h2 : (EE cs).T 54 = some C_spec_l2Parse) : PureOK Tryd.prog WI 38 C_spec_l2Val := by
  refine pure1 (E := EE cs) hT hs (by rw [st_spec_l2Val]; rfl) fun s hp => out_wp (n := 0) (st_spec_l2Val cs) ?_
  by_cases e0 : s = nullB
  · subst e0
    have hv : val2 nullB = (⟨0, 0, []⟩, true) := rfl
    rw [hv]
    simp only [go_sem, kSt_ptr, Nat.reduceBEq, Nat.reduceAdd, Nat.reduceEqDiff, Nat.reduceLeDiff, Nat.reduceSub, reduceIte, Int.reduceBEq, Int.reduceEq, Int.reduceLT, Int.reduceLE, Int.reduceGT, Int.reduceGE, Int.reduceNe, Int.reduceBNe, s_spec_l2Val, nullB, TVal.row, vFill0, vFillK, vFillKN, vFillKS]
  by_cases e1 : s = noB
  · subst e1
    have hv : val2 noB = (⟨4, 0, []⟩, true) := rfl
    rw [hv]
    simp only [go_sem, kSt_ptr, Nat.reduceBEq, Nat.reduceAdd, Nat.reduceEqDiff, Nat.reduceLeDiff, Nat.reduceSub, reduceIte, Int.reduceBEq, Int.reduceEq, Int.reduceLT, Int.reduceLE, Int.reduceGT, Int.reduceGE, Int.reduceNe, Int.reduceBNe, s_spec_l2Val, noB, TVal.row, vFill0, vFillK, vFillKN, vFillKS, sq10, sq20, sq21]
  by_cases e2 : s = yesB
  · subst e2
    have hv : val2 yesB = (⟨4, 1, []⟩, true) := rfl
    rw [hv]
    simp only [go_sem, kSt_ptr, Nat.reduceBEq, Nat.reduceAdd, Nat.reduceEqDiff, Nat.reduceLeDiff, Nat.reduceSub, reduceIte, Int.reduceBEq, Int.reduceEq, Int.reduceLT, Int.reduceLE, Int.reduceGT, Int.reduceGE, Int.reduceNe, Int.reduceBNe, s_spec_l2Val, yesB, TVal.row, vFill0, vFillK, vFillKN, vFillKS, sq10, sq20, sq21]
  have b0 := beqF e0
  have b1 := beqF e1
  have b2 := beqF e2
  unfold nullB at b0
  unfold noB at b1
  unfold yesB at b2
  by_cases hl : (s.length : Int) < 2
  · have hv : val2 s = (⟨0, 0, []⟩, false) := by unfold val2; rw [if_neg e0, if_neg e1, if_neg e2, if_pos hl]; rfl
    rw [hv]
    simp only [go_sem, kSt_ptr, Nat.reduceBEq, Nat.reduceAdd, Nat.reduceEqDiff, Nat.reduceLeDiff, Nat.reduceSub, reduceIte, Int.reduceBEq, Int.reduceEq, Int.reduceLT, Int.reduceLE, Int.reduceGT, Int.reduceGE, Int.reduceNe, Int.reduceBNe, s_spec_l2Val, b0, b1, b2, hl, TVal.row, vFill0, vFillK, vFillKN, vFillKS]
  cases s with
  | nil => simp at hl
  | cons c d =>
    have hl3 : ¬ ((d.length + 1 : Nat) : Int) < 2 := hl
    have hih := ix_head c d
    by_cases hq : c = 39
    · subst hq
      have hd : d ≠ [] := fun e => by subst e; simp at hl
      obtain ⟨m, z, rfl⟩ : ∃ m z, d = m ++ [z] := ⟨d.dropLast, d.getLast hd, (List.dropLast_concat_getLast hd).symm⟩
      have hv : val2 (39 :: (m ++ [z])) = (⟨3, 0, m⟩, z == 39 && m.all plainB) := by
        unfold val2
        rw [if_neg e0, if_neg e1, if_neg e2, if_neg hl, if_pos List.head?_cons]
        have z1 : ((39 : UInt8) :: (m ++ [z])).tail.dropLast = m := by simp
        have z2 : ((39 : UInt8) :: (m ++ [z])).getLast? = some z := by rw [← List.cons_append, List.getLast?_append]; rfl
        rw [z1, z2]
        rfl
      rw [hv]
      have hlen : (((m ++ [z]).length + 1 : Nat) : Int) = (m.length : Int) + 2 := by simp; omega
      have hlen2 : m.length ≤ 1048576 := by simp at hp; omega
      have hw : IntKind.wrap .i64 ((m.length : Int) + 2 - 1) = (m.length : Int) + 1 := by rw [wrapId (by omega) (by omega)]; omega
      have hsl := sli_mid 39 z m
      have hl' : ¬ (m.length : Int) + 2 < 2 := by omega
      have hixz : ∀ h, kIx (.str (39 :: (m ++ [z]))) (.int .i64 ((m.length : Int) + 1)) h = some (.int .u8 z.toNat, h) := fun h => by
        have := kIx_at (h := h) (s := 39 :: (m ++ [z])) (pre := 39 :: m) (rest := []) (b := z) rfl
        simpa using this
      have hc1 := C_spec_l2Plain_eq m (by omega)
      by_cases hz : z = 39
      · have hze : ((z.toNat : Int) == 39) = true := u8eq hz
        have hzb : (z == 39) = true := by simp [hz]
        simp only [go_sem, kSt_ptr, Nat.reduceBEq, Nat.reduceAdd, Nat.reduceEqDiff, Nat.reduceLeDiff, Nat.reduceSub, reduceIte, Int.reduceBEq, Int.reduceEq, Int.reduceLT, Int.reduceLE, Int.reduceGT, Int.reduceGE, Int.reduceNe, Int.reduceBNe, s_spec_l2Val, b0, b1, b2, hlen, hl', hih, u8q39, hw, hsl, hixz, hze, hzb, h1, hc1, TVal.row, vFill0, vFillK, vFillKN, vFillKS, sq10, sq20, sq21, Bool.true_and]
      · have hze : ((z.toNat : Int) == 39) = false := u8ne hz
        have hzb : (z == 39) = false := by simp [hz]
        simp only [go_sem, kSt_ptr, Nat.reduceBEq, Nat.reduceAdd, Nat.reduceEqDiff, Nat.reduceLeDiff, Nat.reduceSub, reduceIte, Int.reduceBEq, Int.reduceEq, Int.reduceLT, Int.reduceLE, Int.reduceGT, Int.reduceGE, Int.reduceNe, Int.reduceBNe, s_spec_l2Val, b0, b1, b2, hlen, hl', hih, u8q39, hw, hsl, hixz, hze, hzb, h1, hc1, TVal.row, vFill0, vFillK, vFillKN, vFillKS, sq10, sq20, sq21, Bool.false_and]
    have q39 : ((c.toNat : Int) == 39) = false := u8ne hq
    have hst := sli_tail c d
    have hpd : d.length ≤ 1048576 := by simp at hp; omega
    have hc2 := C_spec_l2Parse_eq d hpd
    by_cases hi : c = 105
    · subst hi
      have hv : val2 (105 :: d) = (⟨1, (parse2 d).1, []⟩, (parse2 d).2) := by
        unfold val2
        rw [if_neg e0, if_neg e1, if_neg e2, if_neg hl, if_neg (by simp), if_pos List.head?_cons]
        rfl
      rw [hv]
      simp only [go_sem, kSt_ptr, Nat.reduceBEq, Nat.reduceAdd, Nat.reduceEqDiff, Nat.reduceLeDiff, Nat.reduceSub, reduceIte, Int.reduceBEq, Int.reduceEq, Int.reduceLT, Int.reduceLE, Int.reduceGT, Int.reduceGE, Int.reduceNe, Int.reduceBNe, s_spec_l2Val, b0, b1, b2, hl3, hih, q39, hst, h2, hc2, u8q105, TVal.row, vFill0, vFillK, vFillKN, vFillKS, sq10, sq20, sq21]
    have q105 : ((c.toNat : Int) == 105) = false := u8ne hi
    by_cases hn : c = 110
    · subst hn
      have hv : val2 (110 :: d) = (⟨2, (parse2 d).1, []⟩, (parse2 d).2) := by
        unfold val2
        rw [if_neg e0, if_neg e1, if_neg e2, if_neg hl, if_neg (by simp), if_neg (by simp), if_pos List.head?_cons]
        rfl
      rw [hv]
      simp only [go_sem, kSt_ptr, Nat.reduceBEq, Nat.reduceAdd, Nat.reduceEqDiff, Nat.reduceLeDiff, Nat.reduceSub, reduceIte, Int.reduceBEq, Int.reduceEq, Int.reduceLT, Int.reduceLE, Int.reduceGT, Int.reduceGE, Int.reduceNe, Int.reduceBNe, s_spec_l2Val, b0, b1, b2, hl3, hih, q39, q105, hst, h2, hc2, u8q110, TVal.row, vFill0, vFillK, vFillKN, vFillKS, sq10, sq20, sq21]
    have q110 : ((c.toNat : Int) == 110) = false := u8ne hn
    have hv : val2 (c :: d) = (⟨0, 0, []⟩, false) := by
      unfold val2
      rw [if_neg e0, if_neg e1, if_neg e2, if_neg hl, if_neg (by simpa using hq), if_neg (by simpa using hi), if_neg (by simpa using hn)]
      rfl
    rw [hv]
    simp only [go_sem, kSt_ptr, Nat.reduceBEq, Nat.reduceAdd, Nat.reduceEqDiff, Nat.reduceLeDiff, Nat.reduceSub, reduceIte, Int.reduceBEq, Int.reduceEq, Int.reduceLT, Int.reduceLE, Int.reduceGT, Int.reduceGE, Int.reduceNe, Int.reduceBNe, s_spec_l2Val, b0, b1, b2, hl3, hih, q39, q105, q110, hst, h2, hc2, TVal.row, vFill0, vFillK, vFillKN, vFillKS]
end Go.Proofs.YtbpafgbehkphoaaDoor.Rw
/- What the functions that FnRowTexts calls answer: part 10. -/
namespace Go.Proofs.YtbpafgbehkphoaaDoor.Rw
open Go Go.RowKit Go.Ev
set_option linter.unusedSimpArgs false
set_option linter.unusedVariables false
set_option maxHeartbeats 1600000
noncomputable def C_spec_ParseVal := c1 strT (fun (s : List UInt8) => s.length ≤ 1048576) (fun x => .tup [.agg (x.1).row, .bool x.2]) fun (s : List UInt8) => parseVal s
theorem C_spec_ParseVal_eq (s : List UInt8) (h : s.length ≤ 1048576) : C_spec_ParseVal [.str s] = some (.tup [.agg (((parseVal s).1)).row, .bool ((parseVal s).2)]) := c1_eq strT h
theorem ok_spec_ParseVal {WI : World → Prop} (hs : Stable WI) (cs) (hT : TOK (EE cs) WI) (h1 : (EE cs).T 38 = some C_spec_l2Val) (h2 : (EE cs).T 39 = some C_spec_ValOk) : PureOK Tryd.prog WI 24 C_spec_ParseVal := by
  refine pure1 (E := EE cs) hT hs (by rw [st_spec_ParseVal]; rfl) fun s hp => out_wp (n := 0) (st_spec_ParseVal cs) ?_
  have hc := C_spec_l2Val_eq s hp
  rcases hv : val2 s with ⟨⟨k, n, t⟩, b⟩
  rw [hv] at hc
  have hx := parseVal_of hv
  rw [hx]
  cases b with
  | false => simp only [go_sem, kSt_ptr, Nat.reduceBEq, Nat.reduceAdd, Nat.reduceEqDiff, Nat.reduceLeDiff, Nat.reduceSub, reduceIte, Int.reduceBEq, Int.reduceEq, Int.reduceLT, Int.reduceLE, Int.reduceGT, Int.reduceGE, Int.reduceNe, Int.reduceBNe, s_spec_ParseVal, h1, hc, TVal.row, vFill0, zeroV, true_or]
  | true =>
    cases ho : valOk ⟨k, n, t⟩ with
    | false => simp only [go_sem, kSt_ptr, Nat.reduceBEq, Nat.reduceAdd, Nat.reduceEqDiff, Nat.reduceLeDiff, Nat.reduceSub, reduceIte, Int.reduceBEq, Int.reduceEq, Int.reduceLT, Int.reduceLE, Int.reduceGT, Int.reduceGE, Int.reduceNe, Int.reduceBNe, s_spec_ParseVal, h1, hc, h2, C_spec_ValOk_eq, ho, TVal.row, vFill0, zeroV, or_true]
    | true => simp only [go_sem, kSt_ptr, Nat.reduceBEq, Nat.reduceAdd, Nat.reduceEqDiff, Nat.reduceLeDiff, Nat.reduceSub, reduceIte, Int.reduceBEq, Int.reduceEq, Int.reduceLT, Int.reduceLE, Int.reduceGT, Int.reduceGE, Int.reduceNe, Int.reduceBNe, s_spec_ParseVal, h1, hc, h2, C_spec_ValOk_eq, ho, TVal.row, vFill0, zeroV, Bool.true_eq_false, or_self]
noncomputable def C_spec_l28Split := c2 strT u8T (fun (s : List UInt8) (c : UInt8) => s.length ≤ 1048576) (fun x => .imm (x.map strT.row)) fun (s : List UInt8) (c : UInt8) => cutB c s
theorem C_spec_l28Split_eq (s : List UInt8) (c : UInt8) (h : s.length ≤ 1048576) : C_spec_l28Split [.str s, .int .u8 (c).toNat] = some (.imm (((cutB c s)).map strT.row)) := c2_eq strT u8T h
theorem ok_spec_l28Split {WI : World → Prop} (hs : Stable WI) (cs) (hT : TOK (EE cs) WI) : PureOK Tryd.prog WI 23 C_spec_l28Split := by
  refine pure2 (E := EE cs) hT hs (by rw [st_spec_l28Split]; rfl) fun s c hp => out_wp (n := 1) (st_spec_l28Split cs) ?_
  simp only [go_sem, kSt_ptr, Nat.reduceBEq, Nat.reduceAdd, Nat.reduceEqDiff, Nat.reduceLeDiff, Nat.reduceSub, reduceIte, Int.reduceBEq, Int.reduceEq, Int.reduceLT, Int.reduceLE, Int.reduceGT, Int.reduceGE, Int.reduceNe, Int.reduceBNe, s_spec_l28Split, rep0, fill0, frz0]
  refine (wl_for (l := (s ++ [c])) (fun pre e h => e 0 = .str s ∧ e 1 = .int .u8 c.toNat ∧ grows strT (cutB c pre).dropLast (e 5) h ∧ e 6 = .int .i64 (cutF c pre) ∧ e 7 = .int .i64 pre.length) (.exit 0) (fun e h => grows strT (cutB c s) (e 5) h) (by simp; omega) ?_ ?_ (by simp) (s ++ [c]) [] _ _ rfl ?_).mono ?_
  · rintro pre b rest e h a ⟨q0, q1, q2, q3, ix⟩
    have hlt : pre.length < s.length + 1 := by have := a.lt; simpa using this
    have hle : decide ((pre.length : Int) ≤ (s.length : Int)) = true := decide_eq_true (by omega)
    have hlen : ((cutB c pre).dropLast).length ≤ 1048576 := by have := cutB_len c pre; rw [List.length_dropLast]; omega
    have hcat : cutB c pre = (cutB c pre).dropLast ++ [cutL c pre] := cut_eq c pre
    have step : ∀ (hbc : b = c) (rs : List UInt8), s = pre ++ rs → (cutB c (pre ++ [b])).dropLast = (cutB c pre).dropLast ++ [cutL c pre] ∧ cutF c (pre ++ [b]) = pre.length + 1 := fun hbc rs hs => by subst hbc; exact ⟨by rw [(cutL_snoc_eq b pre).2]; exact hcat, cutF_eq b pre⟩
    by_cases hr : rest = []
    · have hsp : s = pre ∧ b = c := by have h2 := a.hl; rw [hr] at h2; have := List.append_inj' h2 rfl; exact ⟨this.1, by simpa using this.2.symm⟩
      obtain ⟨hsp, hbc⟩ := hsp
      obtain ⟨st1, st2⟩ := step hbc [] (by rw [hsp]; simp)
      have hsl := cutF_sl c (s := s) (pre := pre) (rest := []) (by rw [hsp]; simp)
      have hie : ((pre.length : Int) == (s.length : Int)) = true := by rw [hsp]; simp
      simp only [go_sem, kSt_ptr, Nat.reduceBEq, Nat.reduceAdd, Nat.reduceEqDiff, Nat.reduceLeDiff, Nat.reduceSub, reduceIte, Int.reduceBEq, Int.reduceEq, Int.reduceLT, Int.reduceLE, Int.reduceGT, Int.reduceGE, Int.reduceNe, Int.reduceBNe, s_spec_l28Split_L0, q0, q1, q3, ix, hle, hie, hsl, a.hw, strFillR, strFrzR]
      refine hP_grow [cutL c pre] rfl (q2.mono (by simp <;> omega) (fun r hr => by simp <;> omega)) rfl (by simp only [List.length_cons, List.length_nil]; unfold room; omega) ?_
      intro v' h' g1 g2 g3 _
      simp only [go_sem, kSt_ptr, Nat.reduceBEq, Nat.reduceAdd, Nat.reduceEqDiff, Nat.reduceLeDiff, Nat.reduceSub, reduceIte, Int.reduceBEq, Int.reduceEq, Int.reduceLT, Int.reduceLE, Int.reduceGT, Int.reduceGE, Int.reduceNe, Int.reduceBNe, q0, q1, ix, a.hw, st1, st2, g1]
      simp
    obtain ⟨rs, hs⟩ : ∃ rs, s = pre ++ b :: rs := by obtain ⟨q, z, hz⟩ : ∃ q z, rest = q ++ [z] := ⟨rest.dropLast, rest.getLast hr, (List.dropLast_concat_getLast hr).symm⟩; have h2 := a.hl; rw [hz, ← List.cons_append, ← List.append_assoc] at h2; exact ⟨q, (List.append_inj' h2 rfl).1⟩
    have hie : ((pre.length : Int) == (s.length : Int)) = false := by rw [hs]; simp; omega
    by_cases hbc : b = c
    · have hbe : ((b.toNat : Int) == (c.toNat : Int)) = true := u8eq hbc
      obtain ⟨st1, st2⟩ := step hbc (b :: rs) hs
      have hsl := cutF_sl c (s := s) (pre := pre) (rest := b :: rs) hs
      simp only [go_sem, kSt_ptr, Nat.reduceBEq, Nat.reduceAdd, Nat.reduceEqDiff, Nat.reduceLeDiff, Nat.reduceSub, reduceIte, Int.reduceBEq, Int.reduceEq, Int.reduceLT, Int.reduceLE, Int.reduceGT, Int.reduceGE, Int.reduceNe, Int.reduceBNe, s_spec_l28Split_L0, q0, q1, q3, ix, hle, hie, kIx_at hs, hbe, hsl, a.hw, strFillR, strFrzR]
      refine hP_grow [cutL c pre] rfl (q2.mono (by simp <;> omega) (fun r hr => by simp <;> omega)) rfl (by simp only [List.length_cons, List.length_nil]; unfold room; omega) ?_
      intro v' h' g1 g2 g3 _
      simp only [go_sem, kSt_ptr, Nat.reduceBEq, Nat.reduceAdd, Nat.reduceEqDiff, Nat.reduceLeDiff, Nat.reduceSub, reduceIte, Int.reduceBEq, Int.reduceEq, Int.reduceLT, Int.reduceLE, Int.reduceGT, Int.reduceGE, Int.reduceNe, Int.reduceBNe, q0, q1, ix, a.hw, st1, st2, g1]
      simp
    have hbe : ((b.toNat : Int) == (c.toNat : Int)) = false := u8ne hbc
    have st1 := (cutL_snoc_ne pre hbc).2
    have st2 := cutF_ne pre hbc
    simp only [go_sem, kSt_ptr, Nat.reduceBEq, Nat.reduceAdd, Nat.reduceEqDiff, Nat.reduceLeDiff, Nat.reduceSub, reduceIte, Int.reduceBEq, Int.reduceEq, Int.reduceLT, Int.reduceLE, Int.reduceGT, Int.reduceGE, Int.reduceNe, Int.reduceBNe, s_spec_l28Split_L0, q0, q1, q2, q3, ix, a.dl, lt_self, a.hw, hle, q2, hle, hie, kIx_at hs, hbe, st1, st2]
  · rintro e h ⟨q0, q1, q2, q3, ix⟩
    rw [(cutL_snoc_eq c s).2] at q2
    have hle : decide ((s.length : Int) + 1 ≤ (s.length : Int)) = false := decide_eq_false (by omega)
    simp only [go_sem, kSt_ptr, Nat.reduceBEq, Nat.reduceAdd, Nat.reduceEqDiff, Nat.reduceLeDiff, Nat.reduceSub, reduceIte, Int.reduceBEq, Int.reduceEq, Int.reduceLT, Int.reduceLE, Int.reduceGT, Int.reduceGE, Int.reduceNe, Int.reduceBNe, s_spec_l28Split_L0, q0, q1, q2, q3, ix, hle, q2]
  · simp only [go_sem, kSt_ptr, Nat.reduceBEq, Nat.reduceAdd, Nat.reduceEqDiff, Nat.reduceLeDiff, Nat.reduceSub, reduceIte, Int.reduceBEq, Int.reduceEq, Int.reduceLT, Int.reduceLE, Int.reduceGT, Int.reduceGE, Int.reduceNe, Int.reduceBNe]; exact ⟨grows_new strT Hp.empty, rfl⟩
  · rintro x e h ⟨rfl, j⟩
    simp only [go_sem, kSt_ptr, Nat.reduceBEq, Nat.reduceAdd, Nat.reduceEqDiff, Nat.reduceLeDiff, Nat.reduceSub, reduceIte, Int.reduceBEq, Int.reduceEq, Int.reduceLT, Int.reduceLE, Int.reduceGT, Int.reduceGE, Int.reduceNe, Int.reduceBNe]
    exact frzE_grows j
noncomputable def C_spec_ParseRow := c1 strT (fun (s : List UInt8) => s.length ≤ 1048576) (fun x => .tup [.imm (x.1.map TVal.row), .bool x.2]) fun (s : List UInt8) => parseRow s
theorem C_spec_ParseRow_eq (s : List UInt8) (h : s.length ≤ 1048576) : C_spec_ParseRow [.str s] = some (.tup [.imm (((parseRow s).1).map TVal.row), .bool ((parseRow s).2)]) := c1_eq strT h
theorem ok_spec_ParseRow {WI : World → Prop} (hs : Stable WI) (cs) (hT : TOK (EE cs) WI) (h1 : (EE cs).T 24 = some C_spec_ParseVal) (h2 : (EE cs).T 23 = some C_spec_l28Split) : PureOK Tryd.prog WI 9 C_spec_ParseRow := by
  refine pure1 (E := EE cs) hT hs (by rw [st_spec_ParseRow]; rfl) fun s hp => out_wp (n := 1) (st_spec_ParseRow cs) ?_
  have hp0 := hp
  by_cases hs : s = []
  · subst hs
    have hx : parseRow [] = ([], true) := rfl
    simp only [go_sem, kSt_ptr, Nat.reduceBEq, Nat.reduceAdd, Nat.reduceEqDiff, Nat.reduceLeDiff, Nat.reduceSub, reduceIte, Int.reduceBEq, Int.reduceEq, Int.reduceLT, Int.reduceLE, Int.reduceGT, Int.reduceGE, Int.reduceNe, Int.reduceBNe, s_spec_ParseRow, hx, rep0, fill0, frz0]
  have hse := beqF hs
  have hc := C_spec_l28Split_eq s 32 hp
  rw [u8w32] at hc
  have hlen := cutB_len 32 s
  obtain ⟨f1, f2⟩ := parseRow_all hs
  simp only [go_sem, kSt_ptr, Nat.reduceBEq, Nat.reduceAdd, Nat.reduceEqDiff, Nat.reduceLeDiff, Nat.reduceSub, reduceIte, Int.reduceBEq, Int.reduceEq, Int.reduceLT, Int.reduceLE, Int.reduceGT, Int.reduceGE, Int.reduceNe, Int.reduceBNe, s_spec_ParseRow, hse, h2, hc, rep0, fill0, frz0]
  refine (wl_all (l := (cutB 32 s)) (fun pre p => okB p && decide ((pre.length : Int) ≤ 7)) (fun pre e h => e 5 = .imm ((cutB 32 s).map strT.row) ∧ grows tVal (pre.map vOf) (e 4) h ∧ e 6 = .int .i64 pre.length) (.exit 0) (fun e h => e 5 = .imm ((cutB 32 s).map strT.row) ∧ grows tVal (((cutB 32 s)).map vOf) (e 4) h) (fun e h => grows tVal [] (e 2) h ∧ e 3 = .bool false) (by omega) ?_ ?_ ?_ (by simp) (cutB 32 s) [] _ _ rfl ?_).mono ?_
  · rintro pre p rest e h a hp ⟨q0, q1, ix⟩
    have hpl : p.length ≤ 1048576 := Nat.le_trans (cutB_mem 32 s p a.mem) hp0
    have hc1 := C_spec_ParseVal_eq p hpl
    have hlt := a.lt
    have hne : ¬ h.nx = h.nx + 1 := by omega
    simp only [Bool.and_eq_true, decide_eq_true_eq] at hp
    have hgt : ¬ (7 : Int) < (pre.length : Int) := by omega
    have ho : (parseVal p).2 = true := hp.1
    all_goals simp only [go_sem, kSt_ptr, Nat.reduceBEq, Nat.reduceAdd, Nat.reduceEqDiff, Nat.reduceLeDiff, Nat.reduceSub, reduceIte, Int.reduceBEq, Int.reduceEq, Int.reduceLT, Int.reduceLE, Int.reduceGT, Int.reduceGE, Int.reduceNe, Int.reduceBNe, s_spec_ParseRow_L0, q0, q1, ix, a.dl, a.ia (row := strT.row) (sz := 1) rfl, hp, a.hw, strT_row, TVal.row, h1, hc1, ho, hne, vFillR, vFrzR, rep0, fill0, frz0, hgt]
    refine hP_grow [vOf p] rfl (q1.mono (by simp <;> omega) (fun r hr => by simp <;> omega)) rfl (by simp only [List.length_cons, List.length_nil, List.length_map]; unfold room; omega) ?_
    intro v' h' g1 g2 g3 _
    simp only [go_sem, kSt_ptr, Nat.reduceBEq, Nat.reduceAdd, Nat.reduceEqDiff, Nat.reduceLeDiff, Nat.reduceSub, reduceIte, Int.reduceBEq, Int.reduceEq, Int.reduceLT, Int.reduceLE, Int.reduceGT, Int.reduceGE, Int.reduceNe, Int.reduceBNe, q0, ix, a.hw, List.map_append, List.map_cons, List.map_nil, g1]
  · rintro pre p rest e h a hp ⟨q0, q1, ix⟩
    have hpl : p.length ≤ 1048576 := Nat.le_trans (cutB_mem 32 s p a.mem) hp0
    have hc1 := C_spec_ParseVal_eq p hpl
    have hlt := a.lt
    have hne : ¬ h.nx = h.nx + 1 := by omega
    have hcase : (parseVal p).2 = false ∨ ((parseVal p).2 = true ∧ (7 : Int) < (pre.length : Int)) := by cases hx : (parseVal p).2; exact .inl rfl; have hx' : okB p = true := hx; rw [hx', Bool.true_and] at hp; exact .inr ⟨rfl, by simpa using hp⟩
    rcases hcase with ho | ⟨ho, hgt⟩
    all_goals simp only [go_sem, kSt_ptr, Nat.reduceBEq, Nat.reduceAdd, Nat.reduceEqDiff, Nat.reduceLeDiff, Nat.reduceSub, reduceIte, Int.reduceBEq, Int.reduceEq, Int.reduceLT, Int.reduceLE, Int.reduceGT, Int.reduceGE, Int.reduceNe, Int.reduceBNe, s_spec_ParseRow_L0, q0, q1, ix, a.dl, a.ia (row := strT.row) (sz := 1) rfl, hp, a.hw, strT_row, TVal.row, h1, hc1, ho, hne, vFillR, vFrzR, rep0, fill0, frz0]
    · exact .inr ⟨_, rfl, by simp <;> rfl, by simp⟩
    simp only [go_sem, kSt_ptr, Nat.reduceBEq, Nat.reduceAdd, Nat.reduceEqDiff, Nat.reduceLeDiff, Nat.reduceSub, reduceIte, Int.reduceBEq, Int.reduceEq, Int.reduceLT, Int.reduceLE, Int.reduceGT, Int.reduceGE, Int.reduceNe, Int.reduceBNe, hgt]
    exact .inr ⟨_, rfl, by simp <;> rfl, by simp⟩
  · rintro e h ⟨q0, q1, ix⟩
    simp only [go_sem, kSt_ptr, Nat.reduceBEq, Nat.reduceAdd, Nat.reduceEqDiff, Nat.reduceLeDiff, Nat.reduceSub, reduceIte, Int.reduceBEq, Int.reduceEq, Int.reduceLT, Int.reduceLE, Int.reduceGT, Int.reduceGE, Int.reduceNe, Int.reduceBNe, s_spec_ParseRow_L0, q0, q1, ix]
  · simp only [go_sem, kSt_ptr, Nat.reduceBEq, Nat.reduceAdd, Nat.reduceEqDiff, Nat.reduceLeDiff, Nat.reduceSub, reduceIte, Int.reduceBEq, Int.reduceEq, Int.reduceLT, Int.reduceLE, Int.reduceGT, Int.reduceGE, Int.reduceNe, Int.reduceBNe]; exact .inr ⟨_, rfl, by simp <;> rfl, by simp⟩
  · rintro x e h (⟨hq, rfl, j0, j1⟩ | ⟨hq, rfl, j1, j2⟩)
    · rw [f1 hq]
      have hz := frzT_grows (n := 1) j1
      simp only [go_sem, kSt_ptr, Nat.reduceBEq, Nat.reduceAdd, Nat.reduceEqDiff, Nat.reduceLeDiff, Nat.reduceSub, reduceIte, Int.reduceBEq, Int.reduceEq, Int.reduceLT, Int.reduceLE, Int.reduceGT, Int.reduceGE, Int.reduceNe, Int.reduceBNe, hz]
    · rw [f2 hq]
      have hz := frzT_grows (n := 1) j1
      simp only [go_sem, kSt_ptr, Nat.reduceBEq, Nat.reduceAdd, Nat.reduceEqDiff, Nat.reduceLeDiff, Nat.reduceSub, reduceIte, Int.reduceBEq, Int.reduceEq, Int.reduceLT, Int.reduceLE, Int.reduceGT, Int.reduceGE, Int.reduceNe, Int.reduceBNe, hz, j2]
theorem L_spec_DrawRowsText (cs) {code : List UInt8} {r : Nat} (hcode : code.length ≤ 1048576) : ∀ (k id : Nat) (l : List (List TVal)) (e : Ps) (h : Hp), l.length + k ≤ 3 → e 3 = .ptr r 0 → e 5 = .int .i64 (k : Int) → e 4 = .app id (l.map (sliceT tVal).row) → h.ap id = some (l.length, 1) → id < h.nx → (∀ x ∈ l, x.length ≤ 3 ∧ ∀ t ∈ x, okVal t) → Cur code r h →
    WL (EE cs) s_spec_DrawRowsText_L0 e h fun x e' h' => x = .exit 0 ∧ RowsP (e' 4) h'
  | 0, id, l, e, h, hl, e0, e4, e3, ha, hid2, ho, hc => by
    refine .step (wp_sound _ _ _ _ ?_)
    simp only [go_sem, kSt_ptr, Nat.reduceBEq, Nat.reduceAdd, Nat.reduceEqDiff, Nat.reduceLeDiff, Nat.reduceSub, reduceIte, Int.reduceBEq, Int.reduceEq, Int.reduceLT, Int.reduceLE, Int.reduceGT, Int.reduceGE, Int.reduceNe, Int.reduceBNe, s_spec_DrawRowsText_L0, e4, Int.lt_irrefl]
    exact ⟨id, l, e3, by omega, ho⟩
  | k + 1, id, l, e, h, hl, e0, e4, e3, ha, hid2, ho, hc => by
    have hpos : (0 : Int) < ((k + 1 : Nat) : Int) := by omega
    have hw : IntKind.wrap .i64 (((k + 1 : Nat) : Int) - 1) = (k : Int) := by rw [wrapId (by omega) (by omega)]; omega
    refine .step (.mono (wp_sound _ _ _ (fun x e1 h1 => x = .norm ∧ ∃ v : List TVal, e1 3 = .ptr r 0 ∧ e1 5 = .int .i64 (k : Int) ∧ e1 4 = .app id ((l ++ [v]).map (sliceT tVal).row) ∧ h1.ap id = some (l.length + 1, 1) ∧ id < h1.nx ∧ (v.length ≤ 3 ∧ ∀ t ∈ v, okVal t) ∧ Cur code r h1) ?_) ?_)
    · simp only [go_sem, kSt_ptr, Nat.reduceBEq, Nat.reduceAdd, Nat.reduceEqDiff, Nat.reduceLeDiff, Nat.reduceSub, reduceIte, Int.reduceBEq, Int.reduceEq, Int.reduceLT, Int.reduceLE, Int.reduceGT, Int.reduceGE, Int.reduceNe, Int.reduceBNe, s_spec_DrawRowsText_L0, e0, e4, e3, hpos]
      refine hP_draw (dr_spec_l28Row cs) hcode hc ?_
      rintro _ h1 ⟨id2, v, rfl, hv1, hv2⟩ hc1
      have hlt := Nat.lt_of_lt_of_le hid2 hc1.nx
      have hnid : ¬ id = h1.nx := by omega
      have f1 : fillR (List.replicate 1 [.snil]) 1 [(0, .app id2 (v.map TVal.row))] = some [[.app id2 (v.map TVal.row)]] := rfl
      have f2 : frzRows [[.app id2 (v.map TVal.row)]] = some [[.imm (v.map TVal.row)]] := rfl
      simp only [go_sem, kSt_ptr, Nat.reduceBEq, Nat.reduceAdd, Nat.reduceEqDiff, Nat.reduceLeDiff, Nat.reduceSub, reduceIte, Int.reduceBEq, Int.reduceEq, Int.reduceLT, Int.reduceLE, Int.reduceGT, Int.reduceGE, Int.reduceNe, Int.reduceBNe, f1, f2]
      refine hP_appI (T := sliceT tVal) (l := l) [v] rfl (by simp [hnid, hc1.ap id hid2, ha]; rfl) rfl (by simp only [List.length_cons, List.length_nil]; unfold room; omega) ?_
      simp only [go_sem, kSt_ptr, Nat.reduceBEq, Nat.reduceAdd, Nat.reduceEqDiff, Nat.reduceLeDiff, Nat.reduceSub, reduceIte, Int.reduceBEq, Int.reduceEq, Int.reduceLT, Int.reduceLE, Int.reduceGT, Int.reduceGE, Int.reduceNe, Int.reduceBNe, e0, e4, hw]
      exact ⟨v, rfl, by simp; rfl, by omega, ⟨hv1, hv2⟩, hc1.cur.same (by simp) rfl⟩
    · rintro x e1 h1 ⟨rfl, v, q1, q2, q3, q4, q5, q6, q7⟩
      refine L_spec_DrawRowsText cs hcode k id (l ++ [v]) e1 h1 (by simp; omega) q1 q2 q3 (by simpa using q4) q5 (fun t ht => ?_) q7
      rcases List.mem_append.1 ht with ht | ht
      · exact ho t ht
      · rw [List.mem_singleton] at ht; subst ht; exact q6
theorem run_spec_DrawRowsText (cs) (code : List UInt8) (h : Hp) (hcode : code.length ≤ 1048576) : ∃ v h', RunF (EE cs) 10 [.imm (code.map u8T.row)] h (v, h') ∧ RowsP v h' := by
  have : ∃ rr, RunF (EE cs) 10 [.imm (code.map u8T.row)] h rr ∧ RowsP rr.1 rr.2 := by
    refine run_wp (st_spec_DrawRowsText cs) ?_
    simp only [go_sem, kSt_ptr, Nat.reduceBEq, Nat.reduceAdd, Nat.reduceEqDiff, Nat.reduceLeDiff, Nat.reduceSub, reduceIte, Int.reduceBEq, Int.reduceEq, Int.reduceLT, Int.reduceLE, Int.reduceGT, Int.reduceGE, Int.reduceNe, Int.reduceBNe, s_spec_DrawRowsText]
    obtain ⟨r, h1, k1, k2, k3⟩ := run_spec_l1New cs code h hcode
    refine hP_call k1 ?_
    simp only [go_sem, kSt_ptr, Nat.reduceBEq, Nat.reduceAdd, Nat.reduceEqDiff, Nat.reduceLeDiff, Nat.reduceSub, reduceIte, Int.reduceBEq, Int.reduceEq, Int.reduceLT, Int.reduceLE, Int.reduceGT, Int.reduceGE, Int.reduceNe, Int.reduceBNe, rep0, fill0, frz0]
    refine hP_draw (dr_spec_l1Below cs 4) hcode (k2.same (by simp) rfl) ?_
    rintro _ ha ⟨x, rfl, hx⟩ hc
    replace hx : 0 ≤ x ∧ x < 4 := hx
    obtain ⟨k, rfl⟩ : ∃ k : Nat, x = (k : Int) := ⟨x.toNat, by omega⟩
    simp only [go_sem, kSt_ptr, Nat.reduceBEq, Nat.reduceAdd, Nat.reduceEqDiff, Nat.reduceLeDiff, Nat.reduceSub, reduceIte, Int.reduceBEq, Int.reduceEq, Int.reduceLT, Int.reduceLE, Int.reduceGT, Int.reduceGE, Int.reduceNe, Int.reduceBNe]
    refine (L_spec_DrawRowsText cs hcode k h1.nx [] _ ha (by simp; omega) (by simp only [go_sem, kSt_ptr, Nat.reduceBEq, Nat.reduceAdd, Nat.reduceEqDiff, Nat.reduceLeDiff, Nat.reduceSub, reduceIte, Int.reduceBEq, Int.reduceEq, Int.reduceLT, Int.reduceLE, Int.reduceGT, Int.reduceGE, Int.reduceNe, Int.reduceBNe]) (by simp only [go_sem, kSt_ptr, Nat.reduceBEq, Nat.reduceAdd, Nat.reduceEqDiff, Nat.reduceLeDiff, Nat.reduceSub, reduceIte, Int.reduceBEq, Int.reduceEq, Int.reduceLT, Int.reduceLE, Int.reduceGT, Int.reduceGE, Int.reduceNe, Int.reduceBNe]) (by simp only [go_sem, kSt_ptr, Nat.reduceBEq, Nat.reduceAdd, Nat.reduceEqDiff, Nat.reduceLeDiff, Nat.reduceSub, reduceIte, Int.reduceBEq, Int.reduceEq, Int.reduceLT, Int.reduceLE, Int.reduceGT, Int.reduceGE, Int.reduceNe, Int.reduceBNe, List.map_nil]) ((hc.ap h1.nx (by simp)).trans (by simp)) (Nat.lt_of_lt_of_le (by simp) hc.nx) (fun t ht => (by cases ht)) hc.cur).mono ?_
    rintro x e' h' ⟨rfl, hr⟩
    simp only [go_sem, kSt_ptr, Nat.reduceBEq, Nat.reduceAdd, Nat.reduceEqDiff, Nat.reduceLeDiff, Nat.reduceSub, reduceIte, Int.reduceBEq, Int.reduceEq, Int.reduceLT, Int.reduceLE, Int.reduceGT, Int.reduceGE, Int.reduceNe, Int.reduceBNe]
    exact ⟨fun _ e => (by cases e), _, rfl, hr⟩
  obtain ⟨⟨v, h'⟩, h1, h2⟩ := this
  exact ⟨v, h', h1, h2⟩
def rowsText : List (List TVal) → List UInt8
  | [] => []
  | r :: l => (rowImpl r ++ [10]) ++ rowsText l
theorem rowsText_len : ∀ (l : List (List TVal)), (rowsText l).length ≤ 41 * costL (sliceT tVal) l + l.length
  | [] => by simp [rowsText]
  | r :: l => by
    have h1 := rowImpl_len r
    have h2 := rowsText_len l
    have h3 : (sliceT tVal).cost r = r.length + costL tVal r := rfl
    simp only [rowsText, costL, List.length_append, List.length_cons, List.length_nil]
    omega
theorem rowsText_snoc (r : List TVal) : ∀ (l : List (List TVal)), rowsText (l ++ [r]) = rowsText l ++ (rowImpl r ++ [10])
  | [] => by simp [rowsText]
  | x :: l => by simp only [List.cons_append, rowsText, rowsText_snoc r l, List.append_assoc]
theorem rowsGood {l : List (List TVal)} (h : (sliceT (sliceT tVal)).good l) : l.length ≤ 1048576 ∧ (∀ r ∈ l, (sliceT tVal).good r) ∧ ∀ pre r rest, l = pre ++ r :: rest → (rowsText (pre ++ [r])).length ≤ 1000000000 := by
  have h0 : l.length + costL (sliceT tVal) l ≤ 1048576 := h.1
  refine ⟨by omega, fun r hr => ⟨by have := costL_mem (sliceT tVal) hr; omega, h.2 r hr⟩, fun pre r rest hl => ?_⟩
  have h1 := rowsText_len l
  have h2 : ∀ a b : List (List TVal), (rowsText a).length ≤ (rowsText (a ++ b)).length := fun a b => by
    induction a with
    | nil => simp [rowsText]
    | cons x a ih => simp only [List.cons_append, rowsText, List.length_append]; omega
  have h3 := h2 (pre ++ [r]) rest
  rw [show pre ++ [r] ++ rest = l by rw [hl]; simp] at h3
  omega
theorem L_impl_RowsText (cs) (hT : (EE cs).T 6 = some C_impl_RowText) (l : List (List TVal)) (hg : (sliceT (sliceT tVal)).good l) : ∀ (rest pre : List (List TVal)) (e : Ps) (h : Hp), l = pre ++ rest → e 6 = .imm (l.map (sliceT tVal).row) → e 7 = .int .i64 l.length → e 8 = .int .i64 pre.length → e 3 = .str (rowsText pre) →
    WL (EE cs) s_impl_RowsText_L0 e h fun x e' _ => x = .exit 0 ∧ e' 3 = .str (rowsText l)
  | [], pre, e, h, hl, h6, h7, h8, h3 => by
    have hp : l = pre := by rw [hl]; simp
    subst hp
    have hlt : decide ((l.length : Int) < (l.length : Int)) = false := by simp
    refine .step (.sim ?_)
    simp only [go_sem, kSt_ptr, Nat.reduceBEq, Nat.reduceAdd, Nat.reduceEqDiff, Nat.reduceLeDiff, Nat.reduceSub, reduceIte, Int.reduceBEq, Int.reduceEq, Int.reduceLT, Int.reduceLE, Int.reduceGT, Int.reduceGE, Int.reduceNe, Int.reduceBNe, s_impl_RowsText_L0, h6, h7, h8, h3, hlt]
  | r :: rest, pre, e, h, hl, h6, h7, h8, h3 => by
    obtain ⟨g1, g2, g3⟩ := rowsGood hg
    have hlt : pre.length < l.length := by rw [hl]; simp
    have hw : IntKind.wrap .i64 ((pre.length : Int) + 1) = (pre.length : Int) + 1 := wrapId (by omega) (by omega)
    have hc := C_impl_RowText_eq r (g2 r (by rw [hl]; simp))
    have hl3 := g3 pre r rest hl
    rw [rowsText_snoc] at hl3
    simp only [List.length_append, List.length_cons, List.length_nil] at hl3
    have c1 : ∀ h, kBin .add (.str (rowImpl r)) (.str [10]) h = some (.str (rowImpl r ++ [10]), h) := fun h => kCat (by simp only [List.length_cons, List.length_nil]; omega)
    have c2 : ∀ h, kBin .add (.str (rowsText pre)) (.str (rowImpl r ++ [10])) h = some (.str (rowsText pre ++ (rowImpl r ++ [10])), h) := fun h => kCat (by simp only [List.length_append, List.length_cons, List.length_nil]; omega)
    refine .step (.mono (.sim (Q := fun x e1 h1 => x = .norm ∧ e1 6 = .imm (l.map (sliceT tVal).row) ∧ e1 7 = .int .i64 l.length ∧ e1 8 = .int .i64 ((pre.length : Int) + 1) ∧ e1 3 = .str (rowsText pre ++ (rowImpl r ++ [10]))) ?_) ?_)
    · simp only [go_sem, kSt_ptr, Nat.reduceBEq, Nat.reduceAdd, Nat.reduceEqDiff, Nat.reduceLeDiff, Nat.reduceSub, reduceIte, Int.reduceBEq, Int.reduceEq, Int.reduceLT, Int.reduceLE, Int.reduceGT, Int.reduceGE, Int.reduceNe, Int.reduceBNe, s_impl_RowsText_L0, h6, h7, h8, h3, lt_map hl, kIa_map (row := (sliceT tVal).row) (sz := 1) hl rfl, tVal_row, hT, hc, c1, c2, hw]
    · rintro _ e1 h1 ⟨rfl, k6, k7, k8, k3⟩
      exact L_impl_RowsText cs hT l hg rest (pre ++ [r]) e1 h1 (by rw [hl]; simp) k6 k7 (by rw [k8]; simp) (by rw [k3, rowsText_snoc])
theorem ev_impl_RowsText (cs) (hT : (EE cs).T 6 = some C_impl_RowText) (l : List (List TVal)) (hg : (sliceT (sliceT tVal)).good l) : ∃ k n, out (EE cs) k n 11 [.imm (l.map (sliceT tVal).row)] = some (.str (rowsText l)) := by
  refine out_W (n := 0) (st_impl_RowsText cs) ?_
  show W _ (.seq _ (.seq _ (.seq (.seq _ (.blk 0 (.loop s_impl_RowsText_L0))) _))) _ _ _
  refine .re (.cut (M := fun e1 h1 => e1 0 = .imm (l.map (sliceT tVal).row) ∧ e1 3 = .str []) (.sim (by simp only [go_sem, kSt_ptr, Nat.reduceBEq, Nat.reduceAdd, Nat.reduceEqDiff, Nat.reduceLeDiff, Nat.reduceSub, reduceIte, Int.reduceBEq, Int.reduceEq, Int.reduceLT, Int.reduceLE, Int.reduceGT, Int.reduceGE, Int.reduceNe, Int.reduceBNe])) ?_)
  rintro e1 h1 ⟨k0, k3⟩
  refine .seq (.cut (M := fun e2 h2 => e2 6 = .imm (l.map (sliceT tVal).row) ∧ e2 7 = .int .i64 l.length ∧ e2 3 = .str [] ∧ e2 8 = .int .i64 0) (.sim (by simp only [go_sem, kSt_ptr, Nat.reduceBEq, Nat.reduceAdd, Nat.reduceEqDiff, Nat.reduceLeDiff, Nat.reduceSub, reduceIte, Int.reduceBEq, Int.reduceEq, Int.reduceLT, Int.reduceLE, Int.reduceGT, Int.reduceGE, Int.reduceNe, Int.reduceBNe, k0, k3])) ?_)
  rintro e2 h2 ⟨k6, k7, k3, k8⟩
  refine .blk (.loop ((L_impl_RowsText cs hT l hg l [] e2 h2 rfl k6 k7 k8 k3).mono ?_))
  rintro x e' h' ⟨rfl, j3⟩
  rw [outOf_exit]
  refine .sim ?_
  simp only [go_sem, kSt_ptr, Nat.reduceBEq, Nat.reduceAdd, Nat.reduceEqDiff, Nat.reduceLeDiff, Nat.reduceSub, reduceIte, Int.reduceBEq, Int.reduceEq, Int.reduceLT, Int.reduceLE, Int.reduceGT, Int.reduceGE, Int.reduceNe, Int.reduceBNe, s_impl_RowsText, j3]
noncomputable def C_impl_RowsText := c1 (sliceT (sliceT tVal)) (sliceT (sliceT tVal)).good .str rowsText
theorem C_impl_RowsText_eq (l : List (List TVal)) (h : (sliceT (sliceT tVal)).good l) : C_impl_RowsText [.imm (l.map (sliceT tVal).row)] = some (.str (rowsText l)) := c1_eq (sliceT (sliceT tVal)) h
theorem ok_impl_RowsText {WI} (hs : Stable WI) (cs) (hT : TOK (EE cs) WI) (h1 : (EE cs).T 6 = some C_impl_RowText) : PureOK Tryd.prog WI 11 C_impl_RowsText :=
  pure1 (E := EE cs) hT hs (by rw [st_impl_RowsText]; rfl) fun l h => ev_impl_RowsText cs h1 l h
end Go.Proofs.YtbpafgbehkphoaaDoor.Rw
/- What the functions that FnRowTexts calls answer: part 11. -/
namespace Go.Proofs.YtbpafgbehkphoaaDoor.Rw
open Go Go.RowKit Go.Ev
set_option linter.unusedSimpArgs false
set_option linter.unusedVariables false
set_option maxHeartbeats 1600000
theorem cmpSelf (a : TVal) : sBinF .neq [.int .i64, .int .i64, .str] (.agg [.int .i64 a.fK, .int .i64 a.fN, .str a.fS]) (.agg [.int .i64 a.fK, .int .i64 a.fN, .str a.fS]) = some (.bool false) := by
  simp [sBinF, eqCells, eqK]
noncomputable def C_laws_sameVals := c2 (sliceT tVal) (sliceT tVal) (fun (a : List (TVal)) (b : List (TVal)) => a = b ∧ a.length ≤ 1048576) (.bool) fun (a : List (TVal)) (b : List (TVal)) => true
theorem C_laws_sameVals_eq (a : List (TVal)) (b : List (TVal)) (h : a = b ∧ a.length ≤ 1048576) : C_laws_sameVals [.imm (a.map TVal.row), .imm (b.map TVal.row)] = some (.bool ((true))) := c2_eq (sliceT tVal) (sliceT tVal) h
theorem ok_laws_sameVals {WI : World → Prop} (hs : Stable WI) (cs) (hT : TOK (EE cs) WI) : PureOK Tryd.prog WI 13 C_laws_sameVals := by
  refine pure2 (E := EE cs) hT hs (by rw [st_laws_sameVals]; rfl) fun a b hp => out_wp (n := 0) (st_laws_sameVals cs) ?_
  obtain ⟨rfl, hl⟩ := hp
  simp only [go_sem, kSt_ptr, Nat.reduceBEq, Nat.reduceAdd, Nat.reduceEqDiff, Nat.reduceLeDiff, Nat.reduceSub, reduceIte, Int.reduceBEq, Int.reduceEq, Int.reduceLT, Int.reduceLE, Int.reduceGT, Int.reduceGE, Int.reduceNe, Int.reduceBNe, s_laws_sameVals]
  refine (wl_for (l := a) (fun pre e h => e 0 = .imm (a.map TVal.row) ∧ e 1 = .imm (a.map TVal.row) ∧ e 5 = .int .i64 pre.length) (.exit 0) (fun e h => e 0 = .imm (a.map TVal.row) ∧ e 1 = .imm (a.map TVal.row)) (by omega) ?_ ?_ (by simp) a [] _ _ rfl ?_).mono ?_
  · rintro pre v rest e h a ⟨q0, q1, ix⟩
    simp only [go_sem, kSt_ptr, Nat.reduceBEq, Nat.reduceAdd, Nat.reduceEqDiff, Nat.reduceLeDiff, Nat.reduceSub, reduceIte, Int.reduceBEq, Int.reduceEq, Int.reduceLT, Int.reduceLE, Int.reduceGT, Int.reduceGE, Int.reduceNe, Int.reduceBNe, s_laws_sameVals_L0, q0, q1, ix, a.dl, a.ia (row := TVal.row) (sz := 3) rfl, a.hw, TVal.row, cmpSelf]
  · rintro e h ⟨q0, q1, ix⟩
    simp only [go_sem, kSt_ptr, Nat.reduceBEq, Nat.reduceAdd, Nat.reduceEqDiff, Nat.reduceLeDiff, Nat.reduceSub, reduceIte, Int.reduceBEq, Int.reduceEq, Int.reduceLT, Int.reduceLE, Int.reduceGT, Int.reduceGE, Int.reduceNe, Int.reduceBNe, s_laws_sameVals_L0, q0, q1, ix]
  · simp only [go_sem, kSt_ptr, Nat.reduceBEq, Nat.reduceAdd, Nat.reduceEqDiff, Nat.reduceLeDiff, Nat.reduceSub, reduceIte, Int.reduceBEq, Int.reduceEq, Int.reduceLT, Int.reduceLE, Int.reduceGT, Int.reduceGE, Int.reduceNe, Int.reduceBNe, and_self]
  · rintro x e h ⟨rfl, j⟩
    simp only [go_sem, kSt_ptr, Nat.reduceBEq, Nat.reduceAdd, Nat.reduceEqDiff, Nat.reduceLeDiff, Nat.reduceSub, reduceIte, Int.reduceBEq, Int.reduceEq, Int.reduceLT, Int.reduceLE, Int.reduceGT, Int.reduceGE, Int.reduceNe, Int.reduceBNe, s_laws_sameVals]
theorem chkV_true {s : List UInt8} {u v : TVal} (h : chkV s u = (v, true)) : valText v = s ∧ s ≠ [] := by
  unfold chkV at h
  split at h
  · simp at h
  · rename_i hc
    simp only [not_or, Classical.not_not] at hc
    simp only [Prod.mk.injEq, and_true] at h
    subst h
    exact ⟨hc.2, fun e => hc.1 (by rw [hc.2, e])⟩
theorem text_of_parse {s : List UInt8} {v : TVal} (h : parseVal s = (v, true)) : valText v = s ∧ s ≠ [] := by
  rw [← valI_eq] at h
  unfold valI at h
  split at h
  · exact chkV_true h
  split at h
  · exact chkV_true h
  split at h
  · split at h
    · exact chkV_true h
    · simp at h
  split at h
  · exact chkV_true h
  · exact chkV_true h
theorem itoa_head {n : Int} (h : -1000000000000000 ≤ n ∧ n ≤ 1000000000000000) : ∃ c r, Lib.itoa n = c :: r ∧ (c = 45 ∨ digN c = true) := by
  by_cases hn : n < 0
  · obtain ⟨u, rfl⟩ : ∃ u : Nat, n = -(u : Int) := ⟨n.natAbs, by omega⟩
    rw [Lib.itoa_neg u (by omega)]
    exact ⟨45, _, rfl, .inl rfl⟩
  · obtain ⟨u, rfl⟩ : ∃ u : Nat, n = (u : Int) := ⟨n.toNat, by omega⟩
    rw [Lib.itoa_nonneg]
    obtain ⟨_, i2, i3, _⟩ := dec_spec u
    obtain ⟨c, r, hc⟩ := List.exists_cons_of_ne_nil i3
    rw [hc] at i2 ⊢
    simp only [List.all_cons, Bool.and_eq_true] at i2
    exact ⟨c, r, rfl, .inr i2.1⟩
theorem parse_num {k n : Int} {b : UInt8} (hk : k = 1 ∧ b = 105 ∨ k = 2 ∧ b = 110) (hv : valOk ⟨k, n, []⟩ = true) : parseVal (b :: Lib.itoa n) = (⟨k, n, []⟩, true) := by
  have hr := valOk_rng hv (by rcases hk with ⟨rfl, _⟩ | ⟨rfl, _⟩ <;> simp)
  simp only at hr
  obtain ⟨c, r, hc, hcd⟩ := itoa_head hr
  have hp := itoa_parse2 n hr
  have hc1 : c ≠ 117 ∧ c ≠ 111 := by
    rcases hcd with rfl | hd
    · decide
    · refine ⟨fun e => ?_, fun e => ?_⟩ <;> (subst e; simp [digN] at hd)
  have hl : ¬ (((b :: Lib.itoa n).length : Nat) : Int) < 2 := by rw [hc]; simp; omega
  have n0 : ¬ b :: Lib.itoa n = nullB := by rw [hc]; intro e; simp only [nullB, List.cons.injEq] at e; exact hc1.1 e.2.1
  have n1 : ¬ b :: Lib.itoa n = noB := by rw [hc]; intro e; simp only [noB, List.cons.injEq] at e; exact hc1.2 e.2.1
  have n2 : ¬ b :: Lib.itoa n = yesB := by rcases hk with ⟨_, rfl⟩ | ⟨_, rfl⟩ <;> (intro e; simp [yesB] at e)
  have hv2 : val2 (b :: Lib.itoa n) = (⟨k, n, []⟩, true) := by
    unfold val2
    rw [if_neg n0, if_neg n1, if_neg n2, if_neg hl]
    rcases hk with ⟨rfl, rfl⟩ | ⟨rfl, rfl⟩
    · rw [if_neg (by simp), if_pos List.head?_cons, List.tail_cons, hp]
    · rw [if_neg (by simp), if_neg (by simp), if_pos List.head?_cons, List.tail_cons, hp]
  rw [parseVal_of hv2, if_neg (by simp [hv])]
theorem parse_of_text {v : TVal} (h : valText v ≠ []) : parseVal (valText v) = (v, true) := by
  obtain ⟨k, n, s⟩ := v
  have hc : ¬ (valOk ⟨k, n, s⟩ = false ∨ s.all plainB = false) := fun hc => h (by unfold valText; rw [if_pos hc])
  simp only [not_or, Bool.not_eq_false] at hc
  obtain ⟨hv, ha⟩ := hc
  have ht : valText ⟨k, n, s⟩ = if k = 1 then 105 :: Lib.itoa n else if k = 2 then 110 :: Lib.itoa n else if k = 3 then 39 :: (s ++ [39]) else if k = 4 then (if n = 1 then yesB else noB) else nullB := by
    unfold valText
    rw [if_neg (by simp [hv, ha])]
    rfl
  by_cases h3 : k = 3
  · subst h3
    rw [ht, if_neg (by decide), if_neg (by decide), if_pos rfl]
    have hn : n = 0 := by simp [valOk] at hv; exact hv.2
    subst hn
    have hv2 : val2 (39 :: (s ++ [39])) = (⟨3, 0, s⟩, true) := by
      unfold val2
      have z1 : ((39 : UInt8) :: (s ++ [39])).tail.dropLast = s := by simp
      have z2 : ((39 : UInt8) :: (s ++ [39])).getLast? = some 39 := by rw [← List.cons_append, List.getLast?_append]; rfl
      rw [if_neg (by simp [nullB]), if_neg (by simp [noB]), if_neg (by simp [yesB]), if_neg (by simp; omega), if_pos List.head?_cons, z1, z2, ha]
      rfl
    rw [parseVal_of hv2, if_neg (by simp [hv])]
  have hs := valOk_str hv h3
  simp only at hs
  subst hs
  by_cases h1 : k = 1
  · subst h1
    rw [ht, if_pos rfl]
    exact parse_num (.inl ⟨rfl, rfl⟩) hv
  by_cases h2 : k = 2
  · subst h2
    rw [ht, if_neg (by decide), if_pos rfl]
    exact parse_num (.inr ⟨rfl, rfl⟩) hv
  rw [ht, if_neg h1, if_neg h2, if_neg h3]
  by_cases h4 : k = 4
  · subst h4
    rw [if_pos rfl]
    have hn : n = 0 ∨ n = 1 := by simp [valOk, inR] at hv; omega
    rcases hn with rfl | rfl
    · rfl
    · rfl
  · rw [if_neg h4]
    have h0 : k = 0 := Classical.byContradiction fun h0 => by simp [valOk, h0, h1, h2, h3, h4] at hv
    subst h0
    have hn : n = 0 := by simp [valOk] at hv; exact hv
    subst hn
    rfl
theorem cutB_no (c : UInt8) : ∀ (s p : List UInt8), p ∈ cutB c s → c ∉ p
  | [], p, h => by simp [cutB] at h; subst h; simp
  | b :: r, p, h => by
    have ih := cutB_no c r
    unfold cutB at h
    split at h
    · rcases List.mem_cons.1 h with rfl | h
      · simp
      · exact ih p h
    · rename_i hb
      split at h
      · rename_i q t e
        rcases List.mem_cons.1 h with rfl | h
        · have := ih q (by rw [e]; exact List.mem_cons_self)
          simp only [List.mem_cons, not_or]
          exact ⟨fun e => hb e.symm, this⟩
        · exact ih p (by rw [e]; exact List.mem_cons_of_mem _ h)
      · simp at h; subst h; simp; exact fun e => hb e.symm
theorem cut_free {c : UInt8} : ∀ {t : List UInt8}, c ∉ t → cutB c t = [t]
  | [], _ => rfl
  | b :: r, h => by
    simp only [List.mem_cons, not_or] at h
    rw [cutB, if_neg (fun e => h.1 e.symm), cut_free h.2]
theorem cut_sep {c : UInt8} : ∀ {t : List UInt8} (u : List UInt8), c ∉ t → cutB c (t ++ c :: u) = t :: cutB c u
  | [], u, _ => by rw [List.nil_append, cutB, if_pos rfl]
  | b :: r, u, h => by
    simp only [List.mem_cons, not_or] at h
    rw [List.cons_append, cutB, if_neg (fun e => h.1 e.symm), cut_sep u h.2]
theorem cut_join : ∀ (ts : List (List UInt8)) (t : List UInt8), (∀ x ∈ t :: ts, (32 : UInt8) ∉ x) → cutB 32 (Lib.join (t :: ts) [32]) = t :: ts
  | [], t, h => by
    rw [Lib.join_cons]
    simp only [Lib.joinTail, List.map_nil, List.flatten_nil, List.append_nil]
    exact cut_free (h t List.mem_cons_self)
  | u :: ts, t, h => by
    have ih := cut_join ts u fun x hx => h x (List.mem_cons_of_mem _ hx)
    rw [Lib.join_cons] at ih ⊢
    simp only [Lib.joinTail, List.map_cons, List.flatten_cons, List.cons_append, List.nil_append, List.append_assoc] at ih ⊢
    rw [cut_sep _ (h t List.mem_cons_self), ih]
theorem join_cut (s : List UInt8) : Lib.join (cutB 32 s) [32] = s := by
  induction s with
  | nil => rfl
  | cons b r ih =>
    obtain ⟨q, t, e⟩ := List.exists_cons_of_ne_nil (cutB_ne 32 r)
    rw [e, Lib.join_cons] at ih
    unfold cutB
    by_cases hb : b = 32
    · subst hb
      rw [if_pos rfl, e, Lib.join_cons]
      simp only [Lib.joinTail, List.map_cons, List.flatten_cons, List.cons_append, List.nil_append, List.append_assoc] at ih ⊢
      rw [ih]
    · rw [if_neg hb, e, Lib.join_cons, List.cons_append, ih]
theorem blank_no {s : List UInt8} : blank s = false ↔ (32 : UInt8) ∉ s := by
  induction s with
  | nil => simp [blank]
  | cons b l ih =>
    have := blank_cons b l
    cases h : blank (b :: l)
    · simp only [true_iff, List.mem_cons, not_or]
      rw [h] at this
      simp only [Bool.false_eq_true, false_iff, not_or, Bool.not_eq_true] at this
      exact ⟨fun e => this.1 e.symm, ih.1 this.2⟩
    · simp only [Bool.true_eq_false, false_iff, Classical.not_not, List.mem_cons]
      rcases this.1 h with e | e
      · exact .inl e.symm
      · exact .inr (Classical.byContradiction fun hn => by rw [ih.2 hn] at e; cases e)
theorem row_of_text {t : List UInt8} {y : List TVal} (h : parseRow t = (y, true)) : rowImpl y = t := by
  unfold parseRow at h
  split at h
  · rename_i ht
    simp only [Prod.mk.injEq, and_true] at h
    subst h; subst ht
    rfl
  · split at h
    · rename_i hc
      simp only [Prod.mk.injEq, and_true] at h
      subst h
      have key : ∀ l : List (List UInt8), l.all okB = true → (∀ p ∈ l, (32 : UInt8) ∉ p) → rowTs (l.map vOf) = some l := by
        intro l
        induction l with
        | nil => intro _ _; rfl
        | cons p l ih =>
          intro ha hn
          simp only [List.all_cons, Bool.and_eq_true] at ha
          have hp : parseVal p = (vOf p, true) := by
            have : (parseVal p).2 = true := ha.1
            exact Prod.ext rfl this
          obtain ⟨k1, k2⟩ := text_of_parse hp
          simp only [List.map_cons, rowTs]
          rw [k1, if_neg (by simp [k2, blank_no.2 (hn p List.mem_cons_self)]), ih ha.2 fun q hq => hn q (List.mem_cons_of_mem _ hq)]
          rfl
      unfold rowImpl
      rw [key _ hc.1 fun p hp => cutB_no 32 t p hp]
      exact join_cut t
    · simp at h
theorem text_of_row {row : List TVal} (hl : row.length ≤ 8) (h : rowImpl row ≠ []) : parseRow (rowImpl row) = (row, true) := by
  unfold rowImpl at h ⊢
  cases hts : rowTs row with
  | none => rw [hts] at h; exact absurd rfl h
  | some ts =>
    rw [hts] at h
    simp only at h ⊢
    have key : ∀ (l : List TVal) (ts : List (List UInt8)), rowTs l = some ts → (∀ x ∈ ts, (32 : UInt8) ∉ x) ∧ ts.all okB = true ∧ ts.map vOf = l ∧ ts.length = l.length := by
      intro l
      induction l with
      | nil => intro ts h; simp only [rowTs, Option.some.injEq] at h; subst h; exact ⟨fun x hx => (by cases hx), rfl, rfl, rfl⟩
      | cons v l ih =>
        intro ts h
        simp only [rowTs] at h
        split at h
        · cases h
        · rename_i hc
          simp only [Option.map_eq_some_iff] at h
          obtain ⟨us, h1, rfl⟩ := h
          obtain ⟨i1, i2, i3, i4⟩ := ih us h1
          simp only [not_or, Bool.not_eq_true] at hc
          have hp := parse_of_text hc.1
          refine ⟨fun x hx => ?_, by rw [List.all_cons, i2, Bool.and_true]; unfold okB; rw [hp], by rw [List.map_cons, i3]; unfold vOf; rw [hp], by simp [i4]⟩
          rcases List.mem_cons.1 hx with rfl | hx
          · exact blank_no.1 hc.2
          · exact i1 x hx
    obtain ⟨k1, k2, k3, k4⟩ := key row ts hts
    cases ts with
    | nil => exact absurd rfl h
    | cons t ts =>
      unfold parseRow
      rw [if_neg h, cut_join ts t k1, if_pos ⟨k2, by omega⟩, k3]
theorem vOf_ok (p : List UInt8) : tVal.ok (vOf p) := by
  have key : ∀ v : TVal, valOk v = true → tVal.ok v := by
    intro v hv
    obtain ⟨k, n, s⟩ := v
    by_cases h0 : k = 0
    · subst h0; simp [valOk] at hv; exact ⟨⟨by show _ ≤ (0:Int); omega, by show (0:Int) ≤ _; omega⟩, by rw [hv.1]; exact ⟨by show _ ≤ (0:Int); omega, by show (0:Int) ≤ _; omega⟩⟩
    by_cases h1 : k = 1
    · subst h1; simp [valOk, inR] at hv; exact ⟨⟨by show _ ≤ (1:Int); omega, by show (1:Int) ≤ _; omega⟩, ⟨by show _ ≤ n; omega, by show n ≤ _; omega⟩⟩
    by_cases h2 : k = 2
    · subst h2; simp [valOk, inR] at hv; exact ⟨⟨by show _ ≤ (2:Int); omega, by show (2:Int) ≤ _; omega⟩, ⟨by show _ ≤ n; omega, by show n ≤ _; omega⟩⟩
    by_cases h3 : k = 3
    · subst h3; simp [valOk] at hv; exact ⟨⟨by show _ ≤ (3:Int); omega, by show (3:Int) ≤ _; omega⟩, by rw [hv.2]; exact ⟨by show _ ≤ (0:Int); omega, by show (0:Int) ≤ _; omega⟩⟩
    by_cases h4 : k = 4
    · subst h4; simp [valOk, inR] at hv; exact ⟨⟨by show _ ≤ (4:Int); omega, by show (4:Int) ≤ _; omega⟩, ⟨by show _ ≤ n; omega, by show n ≤ _; omega⟩⟩
    · simp [valOk, h0, h1, h2, h3, h4] at hv
  unfold vOf parseVal
  split
  · exact key zeroV rfl
  · rename_i h
    simp only [not_or, Bool.not_eq_false] at h
    exact key _ h.2
theorem parseRow_good2 (t : List UInt8) : (sliceT tVal).good (parseRow t).1 := by
  refine ⟨parseRow_cost t, fun v hv => ?_⟩
  unfold parseRow at hv
  split at hv
  · cases hv
  · split at hv
    · obtain ⟨p, _, rfl⟩ := List.mem_map.1 hv
      exact vOf_ok p
    · cases hv
theorem goodRows {l : List (List TVal)} (h1 : l.length ≤ 3) (h2 : ∀ x ∈ l, x.length ≤ 3 ∧ ∀ t ∈ x, okVal t) : (sliceT (sliceT tVal)).good l := by
  have hc : ∀ l : List (List TVal), (∀ x ∈ l, x.length ≤ 3 ∧ ∀ t ∈ x, okVal t) → costL (sliceT tVal) l ≤ 300000 * l.length := by
    intro l
    induction l with
    | nil => intro _; exact Nat.le_refl _
    | cons x l ih =>
      intro h
      obtain ⟨k1, k2⟩ := h x List.mem_cons_self
      have hx : (sliceT tVal).cost x ≤ 300000 := by
        have hcl : ∀ l : List TVal, (∀ t ∈ l, okVal t) → costL tVal l ≤ 40 * l.length := by
          intro l
          induction l with
          | nil => intro _; exact Nat.le_refl _
          | cons v l ih =>
            intro h
            have h1 : tVal.cost v ≤ 40 := (h v List.mem_cons_self).1
            have h2 := ih fun t ht => h t (List.mem_cons_of_mem _ ht)
            show tVal.cost v + costL tVal l ≤ 40 * (l.length + 1)
            omega
        have := hcl x k2
        show x.length + costL tVal x ≤ 300000
        omega
      have h2 := ih fun t ht => h t (List.mem_cons_of_mem _ ht)
      show (sliceT tVal).cost x + costL (sliceT tVal) l ≤ 300000 * (l.length + 1)
      omega
  refine ⟨?_, fun x hx => (goodRow (h2 x hx).1 (h2 x hx).2).2⟩
  have := hc l h2
  show l.length + costL (sliceT tVal) l ≤ 1048576
  omega
theorem rowsText_len3 : ∀ {l : List (List TVal)}, (∀ x ∈ l, x.length ≤ 3 ∧ ∀ t ∈ x, okVal t) → (rowsText l).length ≤ 124 * l.length
  | [], _ => by simp [rowsText]
  | x :: l, h => by
    have h1 := rowImpl_len3 (h x List.mem_cons_self).1
    have h2 := rowsText_len3 (l := l) fun y hy => h y (List.mem_cons_of_mem _ hy)
    simp only [rowsText, List.length_append, List.length_cons, List.length_nil]
    omega
theorem rowsText_pre {l pre rest : List (List TVal)} {x : List TVal} (hl : l = pre ++ x :: rest) (h : ∀ x ∈ l, x.length ≤ 3 ∧ ∀ t ∈ x, okVal t) (h3 : l.length ≤ 3) : (rowsText pre).length ≤ 372 := by
  have h1 := rowsText_len3 (l := pre) fun y hy => h y (by rw [hl]; exact List.mem_append.2 (.inl hy))
  have h2 : pre.length ≤ 3 := by rw [hl] at h3; simp at h3; omega
  omega
end Go.Proofs.YtbpafgbehkphoaaDoor.Rw
/- The law FnRowTexts, by what its functions answer. -/
namespace Go.Proofs.YtbpafgbehkphoaaDoor.Rw
open Go Go.RowKit Go.Ev
set_option linter.unusedSimpArgs false
set_option linter.unusedVariables false
set_option maxHeartbeats 1600000
set_option maxRecDepth 100000
theorem ev_law (cs) (h_impl_RowText : (EE cs).T 6 = some C_impl_RowText) (h_laws_big : (EE cs).T 4 = some C_laws_big) (h_impl_ParseRow : (EE cs).T 8 = some C_impl_ParseRow) (h_spec_ParseRow : (EE cs).T 9 = some C_spec_ParseRow) (h_impl_RowsText : (EE cs).T 11 = some C_impl_RowsText) (h_spec_RowText : (EE cs).T 12 = some C_spec_RowText) (h_laws_sameVals : (EE cs).T 13 = some C_laws_sameVals) (v0 : List (UInt8)) (f0 : (sliceT u8T).fits v0) (o0 : (sliceT u8T).ok v0) : ∃ k n, out (EE cs) k n 3 [(sliceT u8T).enc v0] = some (.bool true) := by
  refine out_wp (n := 0) (st_laws_FnRowTexts cs) ?_
  by_cases hl : (1048576 : Int) < (v0.length : Int)
  · have hb : C_laws_big [.imm (v0.map u8T.row)] = some (.bool true) := by rw [C_laws_big_eq v0 trivial, decide_eq_true hl]
    simp only [go_sem, kSt_ptr, Nat.reduceBEq, Nat.reduceAdd, Nat.reduceEqDiff, Nat.reduceLeDiff, Nat.reduceSub, reduceIte, Int.reduceBEq, Int.reduceEq, Int.reduceLT, Int.reduceLE, Int.reduceGT, Int.reduceGE, Int.reduceNe, Int.reduceBNe, s_laws_FnRowTexts, h_laws_big, hb]
  have hb : C_laws_big [.imm (v0.map u8T.row)] = some (.bool false) := by rw [C_laws_big_eq v0 trivial, decide_eq_false hl]
  have hcode : v0.length ≤ 1048576 := by omega
  simp only [go_sem, kSt_ptr, Nat.reduceBEq, Nat.reduceAdd, Nat.reduceEqDiff, Nat.reduceLeDiff, Nat.reduceSub, reduceIte, Int.reduceBEq, Int.reduceEq, Int.reduceLT, Int.reduceLE, Int.reduceGT, Int.reduceGE, Int.reduceNe, Int.reduceBNe, s_laws_FnRowTexts, h_laws_big, hb]
  refine hP_run (fun h => run_spec_DrawRowText cs v0 h hcode) ?_
  rintro _ h1 ⟨id, w, rfl, hrl, hro⟩
  have a1 := C_impl_RowText_eq w (goodRow hrl hro)
  have a2 := C_spec_RowText_eq w (goodRow hrl hro)
  simp only [go_sem, kSt_ptr, Nat.reduceBEq, Nat.reduceAdd, Nat.reduceEqDiff, Nat.reduceLeDiff, Nat.reduceSub, reduceIte, Int.reduceBEq, Int.reduceEq, Int.reduceLT, Int.reduceLE, Int.reduceGT, Int.reduceGE, Int.reduceNe, Int.reduceBNe, h_impl_RowText, a1]
  refine hP_run (fun h => run_spec_DrawParseRow cs h_spec_RowText v0 h hcode) ?_
  rintro _ h2 ⟨t, rfl, ht⟩
  have b1 := C_impl_ParseRow_eq t ht
  have b2 := C_spec_ParseRow_eq t ht
  simp only [go_sem, kSt_ptr, Nat.reduceBEq, Nat.reduceAdd, Nat.reduceEqDiff, Nat.reduceLeDiff, Nat.reduceSub, reduceIte, Int.reduceBEq, Int.reduceEq, Int.reduceLT, Int.reduceLE, Int.reduceGT, Int.reduceGE, Int.reduceNe, Int.reduceBNe, h_impl_ParseRow, b1, h_spec_ParseRow, b2]
  refine hP_run (fun h => run_spec_DrawRowsText cs v0 h hcode) ?_
  rintro _ h3 ⟨id3, l, rfl, hll, hlo⟩
  have hy := C_impl_RowText_eq (parseRow t).1 (parseRow_good2 t)
  have hrt : (parseRow t).2 = true → rowImpl (parseRow t).1 = t := fun h => row_of_text (Prod.ext rfl h)
  have d1 := C_impl_RowsText_eq l (goodRows hll hlo)
  have hwl := rowImpl_len3 hrl
  have e1 := C_impl_ParseRow_eq (rowImpl w) (by omega)
  have hsv := C_laws_sameVals_eq w w ⟨rfl, by omega⟩
  generalize (parseRow t).2 = is at b1 b2 hrt
  generalize (parseRow t).1 = y at b1 b2 hy hrt
  simp only [go_sem, kSt_ptr, Nat.reduceBEq, Nat.reduceAdd, Nat.reduceEqDiff, Nat.reduceLeDiff, Nat.reduceSub, reduceIte, Int.reduceBEq, Int.reduceEq, Int.reduceLT, Int.reduceLE, Int.reduceGT, Int.reduceGE, Int.reduceNe, Int.reduceBNe]
  refine (wl_for (l := l) (fun pre e h => e 3 = .app id (w.map TVal.row) ∧ e 4 = .str (rowImpl w) ∧ e 5 = .str t ∧ e 6 = .imm (y.map TVal.row) ∧ e 7 = .bool is ∧ e 9 = .bool is ∧ e 10 = .app id3 (l.map (sliceT tVal).row) ∧ e 11 = .str (rowsText pre) ∧ e 12 = .int .i64 pre.length) (.exit 0) (fun e h => e 3 = .app id (w.map TVal.row) ∧ e 4 = .str (rowImpl w) ∧ e 5 = .str t ∧ e 6 = .imm (y.map TVal.row) ∧ e 7 = .bool is ∧ e 9 = .bool is ∧ e 10 = .app id3 (l.map (sliceT tVal).row) ∧ e 11 = .str (rowsText (l))) (by omega) ?_ ?_ (by simp) l [] _ _ rfl ?_).mono ?_
  · rintro pre x rest e h a ⟨q0, q1, q2, q3, q4, q5, q6, q7, ix⟩
    have hlm : ∀ h, kLenL (.app id3 (l.map (sliceT tVal).row)) h = some (.int .i64 l.length, h) := fun h => by rw [kLenL_app, List.length_map]
    have hx := hlo x a.mem
    have hxr := C_impl_RowText_eq x (goodRow hx.1 hx.2)
    have hxl := rowImpl_len3 hx.1
    have hpl : (rowsText pre).length ≤ 1048576 := by have h1 := (goodRows hll hlo).1; have h2 := rowsText_pre a.hl hlo hll; omega
    have c1 : ∀ h, kBin .add (.str (rowsText pre)) (.str (rowImpl x)) h = some (.str (rowsText pre ++ rowImpl x), h) := fun h => kCat (by omega)
    have c2 : ∀ h, kBin .add (.str (rowsText pre ++ rowImpl x)) (.str [10]) h = some (.str ((rowsText pre ++ rowImpl x) ++ [10]), h) := fun h => kCat (by simp; omega)
    simp only [go_sem, kSt_ptr, Nat.reduceBEq, Nat.reduceAdd, Nat.reduceEqDiff, Nat.reduceLeDiff, Nat.reduceSub, reduceIte, Int.reduceBEq, Int.reduceEq, Int.reduceLT, Int.reduceLE, Int.reduceGT, Int.reduceGE, Int.reduceNe, Int.reduceBNe, s_laws_FnRowTexts_L0, q0, q1, q2, q3, q4, q5, q6, q7, ix, a.dl, lt_self, a.hw, hlm, kIa_appAt (row := (sliceT tVal).row) (sz := 1) a.hl rfl, h_impl_RowText, hxr, c1, c2, rowsText_snoc, List.append_assoc]
  · rintro e h ⟨q0, q1, q2, q3, q4, q5, q6, q7, ix⟩
    have hlm : ∀ h, kLenL (.app id3 (l.map (sliceT tVal).row)) h = some (.int .i64 l.length, h) := fun h => by rw [kLenL_app, List.length_map]
    simp only [go_sem, kSt_ptr, Nat.reduceBEq, Nat.reduceAdd, Nat.reduceEqDiff, Nat.reduceLeDiff, Nat.reduceSub, reduceIte, Int.reduceBEq, Int.reduceEq, Int.reduceLT, Int.reduceLE, Int.reduceGT, Int.reduceGE, Int.reduceNe, Int.reduceBNe, s_laws_FnRowTexts_L0, q0, q1, q2, q3, q4, q5, q6, q7, ix, hlm]
  · exact ⟨rfl, rfl, rfl, rfl, rfl, rfl, rfl, rfl, rfl⟩
  · rintro _ e h ⟨rfl, j3, j4, j5, j6, j7, j9, j10, j11⟩
    have hne : ∀ b : Bool, (b != b) = false := fun b => by simp
    have hbb : ∀ b : Bool, (b == b) = true := fun b => by simp
    have hss : ∀ s : List UInt8, (s == s) = true := fun s => by simp
    by_cases hs : rowImpl w = []
    · have hse : (rowImpl w == ([] : List UInt8)) = true := by rw [hs]; rfl
      cases is with
      | false => simp only [go_sem, kSt_ptr, Nat.reduceBEq, Nat.reduceAdd, Nat.reduceEqDiff, Nat.reduceLeDiff, Nat.reduceSub, reduceIte, Int.reduceBEq, Int.reduceEq, Int.reduceLT, Int.reduceLE, Int.reduceGT, Int.reduceGE, Int.reduceNe, Int.reduceBNe, j3, j4, j5, j6, j7, j9, j10, j11, hne, hbb, hss, h_impl_RowsText, d1, h_spec_RowText, a2, h_impl_ParseRow, e1, hse]
      | true =>
        rw [hrt rfl] at hy
        simp only [go_sem, kSt_ptr, Nat.reduceBEq, Nat.reduceAdd, Nat.reduceEqDiff, Nat.reduceLeDiff, Nat.reduceSub, reduceIte, Int.reduceBEq, Int.reduceEq, Int.reduceLT, Int.reduceLE, Int.reduceGT, Int.reduceGE, Int.reduceNe, Int.reduceBNe, j3, j4, j5, j6, j7, j9, j10, j11, hne, hbb, hss, h_impl_RowText, hy, h_impl_RowsText, d1, h_spec_RowText, a2, h_impl_ParseRow, e1, hse]
    · have hse := beqF hs
      rw [text_of_row (by omega) hs] at e1
      cases is with
      | false => simp only [go_sem, kSt_ptr, Nat.reduceBEq, Nat.reduceAdd, Nat.reduceEqDiff, Nat.reduceLeDiff, Nat.reduceSub, reduceIte, Int.reduceBEq, Int.reduceEq, Int.reduceLT, Int.reduceLE, Int.reduceGT, Int.reduceGE, Int.reduceNe, Int.reduceBNe, j3, j4, j5, j6, j7, j9, j10, j11, hne, hbb, hss, h_impl_RowsText, d1, h_spec_RowText, a2, h_impl_ParseRow, e1, hse, h_laws_sameVals, hsv]
      | true =>
        rw [hrt rfl] at hy
        simp only [go_sem, kSt_ptr, Nat.reduceBEq, Nat.reduceAdd, Nat.reduceEqDiff, Nat.reduceLeDiff, Nat.reduceSub, reduceIte, Int.reduceBEq, Int.reduceEq, Int.reduceLT, Int.reduceLE, Int.reduceGT, Int.reduceGE, Int.reduceNe, Int.reduceBNe, j3, j4, j5, j6, j7, j9, j10, j11, hne, hbb, hss, h_impl_RowText, hy, h_impl_RowsText, d1, h_spec_RowText, a2, h_impl_ParseRow, e1, hse, h_laws_sameVals, hsv]
noncomputable def C_law := c1 (sliceT u8T) (fun v0 => ((sliceT u8T).fits v0 ∧ (sliceT u8T).ok v0)) .bool fun _ => true
theorem ok_law {WI : World → Prop} (hs : Stable WI) (cs) (hT : TOK (EE cs) WI) (h_impl_RowText : (EE cs).T 6 = some C_impl_RowText) (h_laws_big : (EE cs).T 4 = some C_laws_big) (h_impl_ParseRow : (EE cs).T 8 = some C_impl_ParseRow) (h_spec_ParseRow : (EE cs).T 9 = some C_spec_ParseRow) (h_impl_RowsText : (EE cs).T 11 = some C_impl_RowsText) (h_spec_RowText : (EE cs).T 12 = some C_spec_RowText) (h_laws_sameVals : (EE cs).T 13 = some C_laws_sameVals) : PureOK Tryd.prog WI 3 C_law :=
  pure1 (E := EE cs) hT hs (by rw [st_laws_FnRowTexts]; rfl) fun v0 ⟨f0, o0⟩ => ev_law cs  h_impl_RowText h_laws_big h_impl_ParseRow h_spec_ParseRow h_impl_RowsText h_spec_RowText h_laws_sameVals v0 f0 o0
section
variable {WI : World → Prop} (hs : Stable WI)
include hs
theorem law_ok (p_strconv_Itoa : PureOK Tryd.prog WI 29 C_strconv_Itoa) (p_strings_Contains : PureOK Tryd.prog WI 17 C_strings_Contains) (p_strings_Join : PureOK Tryd.prog WI 18 C_strings_Join) (p_strings_HasPrefix : PureOK Tryd.prog WI 36 C_strings_HasPrefix) (p_strconv_Atoi : PureOK Tryd.prog WI 37 C_strconv_Atoi) (p_strings_Split : PureOK Tryd.prog WI 21 C_strings_Split) : PureOK Tryd.prog WI 3 C_law := by
  have t0 : TOK (EE []) WI := tok_nil (entB_spec entered)
  have t1 := tok_cons rfl rfl (ok_impl_in hs _ t0) t0
  have t2 := tok_cons rfl rfl (ok_impl_ValOk hs _ t1 rfl) t1
  have t3 := tok_cons rfl rfl p_strconv_Itoa t2
  have t4 := tok_cons rfl rfl (ok_impl_ValText hs _ t3 rfl rfl) t3
  have t5 := tok_cons rfl rfl p_strings_Contains t4
  have t6 := tok_cons rfl rfl p_strings_Join t5
  have t7 := tok_cons rfl rfl (ok_impl_RowText hs _ t6 rfl rfl rfl) t6
  have t8 := tok_cons rfl rfl (ok_laws_big hs _ t7) t7
  have t9 := tok_cons rfl rfl (ok_spec_l1In hs _ t8) t8
  have t10 := tok_cons rfl rfl (ok_spec_ValOk hs _ t9 rfl) t9
  have t11 := tok_cons rfl rfl (ok_spec_l2Plain hs _ t10 rfl) t10
  have t12 := tok_cons rfl rfl (ok_spec_l2Num hs _ t11) t11
  have t13 := tok_cons rfl rfl (ok_spec_ValText hs _ t12 rfl rfl rfl) t12
  have t14 := tok_cons rfl rfl (ok_spec_l28Blank hs _ t13) t13
  have t15 := tok_cons rfl rfl (ok_spec_RowText hs _ t14 rfl rfl) t14
  have t16 := tok_cons rfl rfl p_strings_HasPrefix t15
  have t17 := tok_cons rfl rfl p_strconv_Atoi t16
  have t18 := tok_cons rfl rfl (ok_impl_ParseVal hs _ t17 rfl rfl rfl) t17
  have t19 := tok_cons rfl rfl p_strings_Split t18
  have t20 := tok_cons rfl rfl (ok_impl_ParseRow hs _ t19 rfl rfl) t19
  have t21 := tok_cons rfl rfl (ok_spec_l2Digit hs _ t20 rfl) t20
  have t22 := tok_cons rfl rfl (ok_spec_l2Parse hs _ t21 rfl rfl) t21
  have t23 := tok_cons rfl rfl (ok_spec_l2Val hs _ t22 rfl rfl) t22
  have t24 := tok_cons rfl rfl (ok_spec_ParseVal hs _ t23 rfl rfl) t23
  have t25 := tok_cons rfl rfl (ok_spec_l28Split hs _ t24) t24
  have t26 := tok_cons rfl rfl (ok_spec_ParseRow hs _ t25 rfl rfl) t25
  have t27 := tok_cons rfl rfl (ok_impl_RowsText hs _ t26 rfl) t26
  have t28 := tok_cons rfl rfl (ok_laws_sameVals hs _ t27) t27
  exact ok_law hs _ t28 rfl rfl rfl rfl rfl rfl rfl
end
theorem u8_of {x : Int} (h : (Lit.int .u8 x).wf = true) : ∃ v : UInt8, [AV.int .u8 x] = u8T.row v ∧ u8T.fits v ∧ u8T.ok v := by
  have hx : 0 ≤ x ∧ x < 256 := by
    have h1 : IntKind.u8.min ≤ x ∧ x ≤ IntKind.u8.max := by simpa [Lit.wf] using h
    have h2 : IntKind.u8.min = 0 := rfl
    have h3 : IntKind.u8.max = 255 := rfl
    omega
  refine ⟨UInt8.ofNat x.toNat, ?_, trivial, trivial⟩
  show [AV.int .u8 x] = [AV.int .u8 ((UInt8.ofNat x.toNat).toNat : Int)]
  rw [UInt8.toNat_ofNat']
  congr 2
  omega
theorem shp_Sbyte {n : Nat} {r : List AV} (h : shp Tryd.prog (n + 2) 22 r) : ∃ l : List (UInt8), r = (sliceT u8T).row l ∧ (sliceT u8T).fits l ∧ (sliceT u8T).ok l := by
  obtain ⟨rows, rfl, hl, hr⟩ := shp_slice Tryd.underlying22 h
  obtain ⟨l, h1, h2, h3⟩ := rows_of (enc := u8T.row) (p := fun v => u8T.fits v ∧ u8T.ok v) fun r hr' => (by obtain ⟨x, rfl, y⟩ := shp_int Tryd.underlying5 (hr r hr'); exact u8_of y)
  subst h1
  exact ⟨l, rfl, ⟨by simpa using hl, fun v hv => (h3 v hv).1⟩, fun v hv => (h3 v hv).2⟩
theorem hlaw (xs : List AV) (h : shpAs Tryd.prog 8 Tryd.f3.params.toList xs) : C_law xs = some (.bool true) := by
  rw [Tryd.params3] at h
  obtain ⟨y0, r0, rfl, z0, zend⟩ := h
  have hr : r0 = [] := zend
  subst hr
  obtain ⟨v0, e0, f0, o0⟩ := shp_Sbyte (n := 6) (shpA_one (fun fs e => by rw [Tryd.underlying22] at e; cases e) z0)
  obtain rfl : y0 = (sliceT u8T).enc v0 := List.head_eq_of_cons_eq e0
  exact c1_eq (sliceT u8T) ⟨f0, o0⟩
end Go.Proofs.YtbpafgbehkphoaaDoor.Rw
