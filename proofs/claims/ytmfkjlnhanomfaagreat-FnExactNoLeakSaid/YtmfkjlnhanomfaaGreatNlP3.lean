/- What the functions that FnExactNoLeak calls answer, for every argument within the law's bounds: part 3. -/
import Derived.Test.YtmfkjlnhanomfaaGreatNlP2
import Derived.Lib.Bytealg
set_option linter.unusedVariables false
set_option linter.unusedSimpArgs false
set_option linter.unnecessarySimpa false
/- What the functions that FnExactNoLeak calls answer: part 18. -/
namespace Go.Proofs.YtmfkjlnhanomfaaGreat.Nl
open Go Go.RowKit Go.Ev
set_option linter.unusedSimpArgs false
set_option linter.unusedVariables false
set_option maxHeartbeats 1600000
theorem LK0_impl_GetNode (cs) (hT : (EE cs).T 86 = some C_impl_GetText) (b : List UInt8) (hb : b.length ≤ 240) (n : Nat) (hn : n ≤ 1000000) (lf : Bool) {Q : QS}
    : ∀ (m : Nat) (l : List (List UInt8)) (i i0 : Int) (bad : Bool) (e : Ps) (h : Hp) (x : AV), l.length + m = n → (bad = false → i0 = i) → e 0 = .imm (b.map u8T.row) → e 2 = .ptr 0 0 → e 3 = .bool false → e 7 = .int .i64 n → e 9 = .ptr 1 0 → e 5 = .int .i64 i0 → e 6 = .bool (!bad) → e 10 = .int .i64 l.length → 2 ≤ h.nx → h.hp 0 = some [.bool false, .snil, .snil, .snil] → h.hp 1 = some [.bool lf, x, .snil, .snil] → grows strT l x h →
      (∀ e' h' x' i1, ((gsT b m i bad).2.2 = false → i1 = (gsT b m i bad).2.1) → e' 0 = .imm (b.map u8T.row) → e' 2 = .ptr 0 0 → e' 3 = .bool false → e' 7 = .int .i64 n → e' 9 = .ptr 1 0 → e' 5 = .int .i64 i1 → e' 6 = .bool (!(gsT b m i bad).2.2) → 2 ≤ h'.nx → h'.hp 0 = some [.bool false, .snil, .snil, .snil] → h'.hp 1 = some [.bool lf, x', .snil, .snil] → SE ((l ++ (gsT b m i bad).1).map strT.row) x' → Q (.exit 0) e' h') → WL (EE cs) s_impl_GetNode_L0 e h Q := by
  intro m
  induction m with
  | zero =>
    intro l i i0 bad e h x hm hi0 e0 e2 e3 e7 e9 e5 e6 ec nx h0 h1 gx hq
    have hc : ¬ (l.length : Int) < n := by omega
    refine .step (wp_sound _ _ _ _ ?_)
    cases bad <;> simp only [Bool.not_true, Bool.not_false] at e6 <;> simp only [go_sem, Nat.reduceBEq, s_impl_GetNode_L0, e0, e7, e5, e6, ec, hc] <;> exact hq _ _ x i0 hi0 (by simp only [go_sem, Nat.reduceBEq, e0]) (by simp only [go_sem, Nat.reduceBEq, e2]) (by simp only [go_sem, Nat.reduceBEq, e3]) (by simp only [go_sem, Nat.reduceBEq, e7]) (by simp only [go_sem, Nat.reduceBEq, e9]) (by simp only [go_sem, Nat.reduceBEq, e5]) (by simp only [go_sem, Nat.reduceBEq, e6, gsT]) nx h0 h1 (by simp only [gsT, List.append_nil]; exact gx.cell)
  | succ m ih =>
    intro l i i0 bad e h x hm hi0 e0 e2 e3 e7 e9 e5 e6 ec nx h0 h1 gx hq
    have hc : (l.length : Int) < n := by omega
    cases bad with
    | true =>
      simp only [Bool.not_true] at e6
      refine .step (wp_sound _ _ _ _ ?_)
      simp only [go_sem, Nat.reduceBEq, s_impl_GetNode_L0, e0, e5, e6]
      exact hq _ _ x i0 (fun h => by rw [gsT_bad] at h; cases h) (by simp only [go_sem, Nat.reduceBEq, e0]) (by simp only [go_sem, Nat.reduceBEq, e2]) (by simp only [go_sem, Nat.reduceBEq, e3]) (by simp only [go_sem, Nat.reduceBEq, e7]) (by simp only [go_sem, Nat.reduceBEq, e9]) (by simp only [go_sem, Nat.reduceBEq, e5]) (by simp only [go_sem, Nat.reduceBEq, e6, gsT_bad]) nx h0 h1 (by rw [gsT_bad]; simp only [List.append_nil]; exact gx.cell)
    | false =>
      obtain rfl := hi0 rfl
      simp only [Bool.not_false] at e6
      have c1 := C_impl_GetText_eq b i0 (by omega)
      rcases hu : getText b i0 with ⟨s, j, ok⟩
      rw [hu] at c1
      have f1 : fillR (List.replicate 1 [.str []]) 1 [(0, .str s)] = some [[.str s]] := rfl
      have f2 : frzRows [[.str s]] = some [[.str s]] := rfl
      have hrr : rT b i0 false = (s, (if ok then j else i0), !ok) := by
        cases ok with
        | true => rw [rT_ok hu]; rfl
        | false => rw [rT_no hu, getText_fail hu]; rfl
      refine .step (wp_sound _ _ _ _ ?_)
      simp only [go_sem, Nat.reduceBEq, Nat.reduceAdd, Nat.reduceLeDiff, s_impl_GetNode_L0, e0, e7, e9, e5, e6, ec, h1, hc, hT, c1, f1, f2]
      refine hP_grow [s] rfl (gx.mono (by simp only []; omega) fun r hr => by have n3 : ¬ r = h.nx := (by omega); simp [n3]) rfl (by simp only [List.length_cons, List.length_nil]; unfold room; omega) ?_
      intro v' h'' g1 g2 g3 g4
      have i0' : h''.hp 0 = _ := (congrFun g2 0).trans h0
      have i1' : h''.hp 1 = _ := (congrFun g2 1).trans h1
      have zv := g1.cell.2
      have hw : IntKind.wrap .i64 ((l.length : Int) + 1) = ((l ++ [s]).length : Int) := by rw [wrapId (by omega) (by omega)]; simp
      have hnx : 2 ≤ h''.nx := by have : h.nx + 1 ≤ h''.nx := g3; omega
      simp only [go_sem, kSt_ptr, Nat.reduceBEq, Nat.reduceAdd, Nat.reduceLeDiff, e9, ec, i1', zv, cell1 zv, hw]
      refine ih (l ++ [s]) (if ok then j else i0) j (!ok) _ _ v' (by simp; omega) (fun h => by cases ok with | true => rfl | false => cases h) (by simp only [go_sem, Nat.reduceBEq, e0]) (by simp only [go_sem, Nat.reduceBEq, e2]) (by simp only [go_sem, Nat.reduceBEq, e3]) (by simp only [go_sem, Nat.reduceBEq, e7]) (by simp only [go_sem, Nat.reduceBEq, e9]) (by simp only [go_sem, Nat.reduceBEq]) (by simp only [go_sem, Nat.reduceBEq, Bool.not_not]) (by simp only [go_sem, Nat.reduceBEq]) (by simp only [go_sem, hnx]) (by simp only [go_sem, i0']) (by simp only [go_sem]) (g1.mono (by simp) fun _ _ => rfl) ?_
      intro e' h3 x' i3 hi3 a0 a2 a3 a7 a9 a5 a6 b1 b2 b3 b5
      have hgs : gsT b (m + 1) i0 false = (s :: (gsT b m (if ok then j else i0) (!ok)).1, (gsT b m (if ok then j else i0) (!ok)).2) := by
        simp only [gsT, hrr]
      exact hq e' h3 x' i3 (by rw [hgs]; exact hi3) a0 a2 a3 a7 a9 a5 (by rw [hgs]; exact a6) b1 b2 b3 (by rw [List.append_assoc] at b5; rw [hgs]; exact b5)
theorem LK1_impl_GetNode (cs) (hT : (EE cs).T 86 = some C_impl_GetText) (b : List UInt8) (hb : b.length ≤ 240) (n : Nat) (hn : n ≤ 1000000) (lf : Bool) (hlf : lf = true) {K0 : AV} {Q : QS}
    : ∀ (m : Nat) (l : List (List UInt8)) (i i0 : Int) (bad : Bool) (e : Ps) (h : Hp) (x : AV), l.length + m = n → (bad = false → i0 = i) → e 0 = .imm (b.map u8T.row) → e 2 = .ptr 0 0 → e 3 = .bool false → e 7 = .int .i64 n → e 9 = .ptr 1 0 → e 5 = .int .i64 i0 → e 6 = .bool (!bad) → e 12 = .int .i64 l.length → 2 ≤ h.nx → h.hp 0 = some [.bool false, .snil, .snil, .snil] → h.hp 1 = some [.bool lf, K0, x, .snil] → grows strT l x h →
      (∀ e' h' x' i1, ((gsT b m i bad).2.2 = false → i1 = (gsT b m i bad).2.1) → e' 0 = .imm (b.map u8T.row) → e' 2 = .ptr 0 0 → e' 3 = .bool false → e' 7 = .int .i64 n → e' 9 = .ptr 1 0 → e' 5 = .int .i64 i1 → e' 6 = .bool (!(gsT b m i bad).2.2) → 2 ≤ h'.nx → h'.hp 0 = some [.bool false, .snil, .snil, .snil] → h'.hp 1 = some [.bool lf, K0, x', .snil] → SE ((l ++ (gsT b m i bad).1).map strT.row) x' → Q (.exit 2) e' h') → WL (EE cs) s_impl_GetNode_L1 e h Q := by
  intro m
  induction m with
  | zero =>
    intro l i i0 bad e h x hm hi0 e0 e2 e3 e7 e9 e5 e6 ec nx h0 h1 gx hq
    have hc : ¬ (l.length : Int) < n := by omega
    refine .step (wp_sound _ _ _ _ ?_)
    cases bad <;> simp only [Bool.not_true, Bool.not_false] at e6 <;> simp only [go_sem, Nat.reduceBEq, s_impl_GetNode_L1, e0, e7, e9, e5, e6, ec, h1, hc, hlf] <;> exact hq _ _ x i0 hi0 (by simp only [go_sem, Nat.reduceBEq, e0]) (by simp only [go_sem, Nat.reduceBEq, e2]) (by simp only [go_sem, Nat.reduceBEq, e3]) (by simp only [go_sem, Nat.reduceBEq, e7]) (by simp only [go_sem, Nat.reduceBEq, e9]) (by simp only [go_sem, Nat.reduceBEq, e5]) (by simp only [go_sem, Nat.reduceBEq, e6, gsT]) nx h0 h1 (by simp only [gsT, List.append_nil]; exact gx.cell)
  | succ m ih =>
    intro l i i0 bad e h x hm hi0 e0 e2 e3 e7 e9 e5 e6 ec nx h0 h1 gx hq
    have hc : (l.length : Int) < n := by omega
    cases bad with
    | true =>
      simp only [Bool.not_true] at e6
      refine .step (wp_sound _ _ _ _ ?_)
      simp only [go_sem, Nat.reduceBEq, s_impl_GetNode_L1, e0, e5, e6]
      exact hq _ _ x i0 (fun h => by rw [gsT_bad] at h; cases h) (by simp only [go_sem, Nat.reduceBEq, e0]) (by simp only [go_sem, Nat.reduceBEq, e2]) (by simp only [go_sem, Nat.reduceBEq, e3]) (by simp only [go_sem, Nat.reduceBEq, e7]) (by simp only [go_sem, Nat.reduceBEq, e9]) (by simp only [go_sem, Nat.reduceBEq, e5]) (by simp only [go_sem, Nat.reduceBEq, e6, gsT_bad]) nx h0 h1 (by rw [gsT_bad]; simp only [List.append_nil]; exact gx.cell)
    | false =>
      obtain rfl := hi0 rfl
      simp only [Bool.not_false] at e6
      have c1 := C_impl_GetText_eq b i0 (by omega)
      rcases hu : getText b i0 with ⟨s, j, ok⟩
      rw [hu] at c1
      have f1 : fillR (List.replicate 1 [.str []]) 1 [(0, .str s)] = some [[.str s]] := rfl
      have f2 : frzRows [[.str s]] = some [[.str s]] := rfl
      have hrr : rT b i0 false = (s, (if ok then j else i0), !ok) := by
        cases ok with
        | true => rw [rT_ok hu]; rfl
        | false => rw [rT_no hu, getText_fail hu]; rfl
      refine .step (wp_sound _ _ _ _ ?_)
      simp only [go_sem, Nat.reduceBEq, Nat.reduceAdd, Nat.reduceLeDiff, s_impl_GetNode_L1, e0, e7, e9, e5, e6, ec, h1, hc, hlf, hT, c1, f1, f2]
      refine hP_grow [s] rfl (gx.mono (by simp only []; omega) fun r hr => by have n3 : ¬ r = h.nx := (by omega); simp [n3]) rfl (by simp only [List.length_cons, List.length_nil]; unfold room; omega) ?_
      intro v' h'' g1 g2 g3 g4
      have i0' : h''.hp 0 = _ := (congrFun g2 0).trans h0
      have i1' : h''.hp 1 = _ := (congrFun g2 1).trans h1
      have zv := g1.cell.2
      have hw : IntKind.wrap .i64 ((l.length : Int) + 1) = ((l ++ [s]).length : Int) := by rw [wrapId (by omega) (by omega)]; simp
      have hnx : 2 ≤ h''.nx := by have : h.nx + 1 ≤ h''.nx := g3; omega
      simp only [go_sem, kSt_ptr, Nat.reduceBEq, Nat.reduceAdd, Nat.reduceLeDiff, e9, ec, i1', zv, cell1 zv, hw]
      refine ih (l ++ [s]) (if ok then j else i0) j (!ok) _ _ v' (by simp; omega) (fun h => by cases ok with | true => rfl | false => cases h) (by simp only [go_sem, Nat.reduceBEq, e0]) (by simp only [go_sem, Nat.reduceBEq, e2]) (by simp only [go_sem, Nat.reduceBEq, e3]) (by simp only [go_sem, Nat.reduceBEq, e7]) (by simp only [go_sem, Nat.reduceBEq, e9]) (by simp only [go_sem, Nat.reduceBEq]) (by simp only [go_sem, Nat.reduceBEq, Bool.not_not]) (by simp only [go_sem, Nat.reduceBEq]) (by simp only [go_sem, hnx]) (by simp only [go_sem, i0']) (by simp only [go_sem]) (g1.mono (by simp) fun _ _ => rfl) ?_
      intro e' h3 x' i3 hi3 a0 a2 a3 a7 a9 a5 a6 b1 b2 b3 b5
      have hgs : gsT b (m + 1) i0 false = (s :: (gsT b m (if ok then j else i0) (!ok)).1, (gsT b m (if ok then j else i0) (!ok)).2) := by
        simp only [gsT, hrr]
      exact hq e' h3 x' i3 (by rw [hgs]; exact hi3) a0 a2 a3 a7 a9 a5 (by rw [hgs]; exact a6) b1 b2 b3 (by rw [List.append_assoc] at b5; rw [hgs]; exact b5)
theorem LK2_impl_GetNode (cs) (hT : (EE cs).T 84 = some C_impl_GetU) (b : List UInt8) (hb : b.length ≤ 240) (n : Nat) (hn : n ≤ 1000000) (lf : Bool) (hlf : lf = false) {K0 : AV} {Q : QS}
    : ∀ (m : Nat) (l : List Int) (i i0 : Int) (bad : Bool) (e : Ps) (h : Hp) (x : AV), l.length + m = n + 1 → (bad = false → i0 = i) → e 0 = .imm (b.map u8T.row) → e 2 = .ptr 0 0 → e 3 = .bool false → e 7 = .int .i64 n → e 9 = .ptr 1 0 → e 5 = .int .i64 i0 → e 6 = .bool (!bad) → e 14 = .int .i64 l.length → 2 ≤ h.nx → h.hp 0 = some [.bool false, .snil, .snil, .snil] → h.hp 1 = some [.bool lf, K0, .snil, x] → grows intT l x h →
      (∀ e' h' x' i1, ((gsU b m i bad).2.2 = false → i1 = (gsU b m i bad).2.1) → e' 0 = .imm (b.map u8T.row) → e' 2 = .ptr 0 0 → e' 3 = .bool false → e' 7 = .int .i64 n → e' 9 = .ptr 1 0 → e' 5 = .int .i64 i1 → e' 6 = .bool (!(gsU b m i bad).2.2) → 2 ≤ h'.nx → h'.hp 0 = some [.bool false, .snil, .snil, .snil] → h'.hp 1 = some [.bool lf, K0, .snil, x'] → SE ((l ++ (gsU b m i bad).1).map intT.row) x' → Q (.exit 4) e' h') → WL (EE cs) s_impl_GetNode_L2 e h Q := by
  intro m
  induction m with
  | zero =>
    intro l i i0 bad e h x hm hi0 e0 e2 e3 e7 e9 e5 e6 ec nx h0 h1 gx hq
    have hc : ¬ (l.length : Int) ≤ n := by omega
    refine .step (wp_sound _ _ _ _ ?_)
    cases bad <;> simp only [Bool.not_true, Bool.not_false] at e6 <;> simp only [go_sem, Nat.reduceBEq, s_impl_GetNode_L2, e0, e7, e9, e5, e6, ec, h1, hc, hlf] <;> exact hq _ _ x i0 hi0 (by simp only [go_sem, Nat.reduceBEq, e0]) (by simp only [go_sem, Nat.reduceBEq, e2]) (by simp only [go_sem, Nat.reduceBEq, e3]) (by simp only [go_sem, Nat.reduceBEq, e7]) (by simp only [go_sem, Nat.reduceBEq, e9]) (by simp only [go_sem, Nat.reduceBEq, e5]) (by simp only [go_sem, Nat.reduceBEq, e6, gsU]) nx h0 h1 (by simp only [gsU, List.append_nil]; exact gx.cell)
  | succ m ih =>
    intro l i i0 bad e h x hm hi0 e0 e2 e3 e7 e9 e5 e6 ec nx h0 h1 gx hq
    have hc : (l.length : Int) ≤ n := by omega
    cases bad with
    | true =>
      simp only [Bool.not_true] at e6
      refine .step (wp_sound _ _ _ _ ?_)
      simp only [go_sem, Nat.reduceBEq, s_impl_GetNode_L2, e0, e5, e6]
      exact hq _ _ x i0 (fun h => by rw [gsU_bad] at h; cases h) (by simp only [go_sem, Nat.reduceBEq, e0]) (by simp only [go_sem, Nat.reduceBEq, e2]) (by simp only [go_sem, Nat.reduceBEq, e3]) (by simp only [go_sem, Nat.reduceBEq, e7]) (by simp only [go_sem, Nat.reduceBEq, e9]) (by simp only [go_sem, Nat.reduceBEq, e5]) (by simp only [go_sem, Nat.reduceBEq, e6, gsU_bad]) nx h0 h1 (by rw [gsU_bad]; simp only [List.append_nil]; exact gx.cell)
    | false =>
      obtain rfl := hi0 rfl
      simp only [Bool.not_false] at e6
      have c1 := C_impl_GetU_eq b i0 (by omega)
      rcases hu : getU b i0 with ⟨s, j, ok⟩
      rw [hu] at c1
      have f1 : fillR (List.replicate 1 [.int .i64 0]) 1 [(0, .int .i64 s)] = some [[.int .i64 s]] := rfl
      have f2 : frzRows [[.int .i64 s]] = some [[.int .i64 s]] := rfl
      have hrr : rU b i0 false = (s, (if ok then j else i0), !ok) := by
        cases ok with
        | true => rw [rU_ok hu]; rfl
        | false => rw [rU_no hu, getU_fail hu]; rfl
      refine .step (wp_sound _ _ _ _ ?_)
      simp only [go_sem, Nat.reduceBEq, Nat.reduceAdd, Nat.reduceLeDiff, s_impl_GetNode_L2, e0, e7, e9, e5, e6, ec, h1, hc, hlf, hT, c1, f1, f2]
      refine hP_grow [s] rfl (gx.mono (by simp only []; omega) fun r hr => by have n3 : ¬ r = h.nx := (by omega); simp [n3]) rfl (by simp only [List.length_cons, List.length_nil]; unfold room; omega) ?_
      intro v' h'' g1 g2 g3 g4
      have i0' : h''.hp 0 = _ := (congrFun g2 0).trans h0
      have i1' : h''.hp 1 = _ := (congrFun g2 1).trans h1
      have zv := g1.cell.2
      have hw : IntKind.wrap .i64 ((l.length : Int) + 1) = ((l ++ [s]).length : Int) := by rw [wrapId (by omega) (by omega)]; simp
      have hnx : 2 ≤ h''.nx := by have : h.nx + 1 ≤ h''.nx := g3; omega
      simp only [go_sem, kSt_ptr, Nat.reduceBEq, Nat.reduceAdd, e9, ec, i1', zv, cell1 zv, hw]
      refine ih (l ++ [s]) (if ok then j else i0) j (!ok) _ _ v' (by simp; omega) (fun h => by cases ok with | true => rfl | false => cases h) (by simp only [go_sem, Nat.reduceBEq, e0]) (by simp only [go_sem, Nat.reduceBEq, e2]) (by simp only [go_sem, Nat.reduceBEq, e3]) (by simp only [go_sem, Nat.reduceBEq, e7]) (by simp only [go_sem, Nat.reduceBEq, e9]) (by simp only [go_sem, Nat.reduceBEq]) (by simp only [go_sem, Nat.reduceBEq, Bool.not_not]) (by simp only [go_sem, Nat.reduceBEq]) (by simp only [go_sem, hnx]) (by simp only [go_sem, i0']) (by simp only [go_sem]) (g1.mono (by simp) fun _ _ => rfl) ?_
      intro e' h3 x' i3 hi3 a0 a2 a3 a7 a9 a5 a6 b1 b2 b3 b5
      have hgs : gsU b (m + 1) i0 false = (s :: (gsU b m (if ok then j else i0) (!ok)).1, (gsU b m (if ok then j else i0) (!ok)).2) := by
        simp only [gsU, hrr]
      exact hq e' h3 x' i3 (by rw [hgs]; exact hi3) a0 a2 a3 a7 a9 a5 (by rw [hgs]; exact a6) b1 b2 b3 (by rw [List.append_assoc] at b5; rw [hgs]; exact b5)
theorem LK1x_impl_GetNode (cs) {b : List UInt8} {n : Nat} {i : Int} {bad : Bool} {x y z : AV} {e : Ps} {h : Hp} {Q : QS} (e0 : e 0 = .imm (b.map u8T.row)) (e2 : e 2 = .ptr 0 0) (e3 : e 3 = .bool false) (e7 : e 7 = .int .i64 n) (e9 : e 9 = .ptr 1 0) (e5 : e 5 = .int .i64 i) (e6 : e 6 = .bool bad) (ec : e 12 = .int .i64 0) (h1 : h.hp 1 = some [.bool false, x, y, z])
      (hq : ∀ e', e' 0 = .imm (b.map u8T.row) → e' 2 = .ptr 0 0 → e' 3 = .bool false → e' 7 = .int .i64 n → e' 9 = .ptr 1 0 → e' 5 = .int .i64 i → e' 6 = .bool bad → Q (.exit 2) e' h) : WL (EE cs) s_impl_GetNode_L1 e h Q := by
  refine .step (wp_sound _ _ _ _ ?_)
  cases bad <;> simp only [go_sem, Nat.reduceBEq, s_impl_GetNode_L1, e0, e9, e5, e6, h1] <;> exact hq _ (by simp only [go_sem, Nat.reduceBEq, e0]) (by simp only [go_sem, Nat.reduceBEq, e2]) (by simp only [go_sem, Nat.reduceBEq, e3]) (by simp only [go_sem, Nat.reduceBEq, e7]) (by simp only [go_sem, Nat.reduceBEq, e9]) (by simp only [go_sem, Nat.reduceBEq, e5]) (by simp only [go_sem, Nat.reduceBEq, e6])
theorem LK2x_impl_GetNode (cs) {b : List UInt8} {n : Nat} {i : Int} {bad : Bool} {x y z : AV} {e : Ps} {h : Hp} {Q : QS} (e0 : e 0 = .imm (b.map u8T.row)) (e2 : e 2 = .ptr 0 0) (e3 : e 3 = .bool false) (e7 : e 7 = .int .i64 n) (e9 : e 9 = .ptr 1 0) (e5 : e 5 = .int .i64 i) (e6 : e 6 = .bool bad) (ec : e 14 = .int .i64 0) (h1 : h.hp 1 = some [.bool true, x, y, z])
      (hq : ∀ e', e' 0 = .imm (b.map u8T.row) → e' 2 = .ptr 0 0 → e' 3 = .bool false → e' 7 = .int .i64 n → e' 9 = .ptr 1 0 → e' 5 = .int .i64 i → e' 6 = .bool bad → Q (.exit 4) e' h) : WL (EE cs) s_impl_GetNode_L2 e h Q := by
  refine .step (wp_sound _ _ _ _ ?_)
  cases bad <;> simp only [go_sem, Nat.reduceBEq, s_impl_GetNode_L2, e0, e9, e5, e6, h1] <;> exact hq _ (by simp only [go_sem, Nat.reduceBEq, e0]) (by simp only [go_sem, Nat.reduceBEq, e2]) (by simp only [go_sem, Nat.reduceBEq, e3]) (by simp only [go_sem, Nat.reduceBEq, e7]) (by simp only [go_sem, Nat.reduceBEq, e9]) (by simp only [go_sem, Nat.reduceBEq, e5]) (by simp only [go_sem, Nat.reduceBEq, e6])
noncomputable def C_impl_GetNode := c1 (sliceT u8T) (fun (b : List (UInt8)) => b.length ≤ 240) (fun x => .tup [.agg (x.1).row, .bool x.2]) fun (b : List (UInt8)) => getNode b
theorem C_impl_GetNode_eq (b : List (UInt8)) (h : b.length ≤ 240) : C_impl_GetNode [.imm (b.map u8T.row)] = some (.tup [.agg (((getNode b).1)).row, .bool ((getNode b).2)]) := c1_eq (sliceT u8T) h
theorem ok_impl_GetNode {WI : World → Prop} (hs : Stable WI) (cs) (hT : TOK (EE cs) WI) (h1 : (EE cs).T 84 = some C_impl_GetU) (h2 : (EE cs).T 86 = some C_impl_GetText) (h3 : (EE cs).T 87 = some C_impl_PutNode) (h4 : (EE cs).T 85 = some C_impl_in) : PureOK Tryz.prog WI 52 C_impl_GetNode := by
  refine pure1 (E := EE cs) hT hs (by rw [st_impl_GetNode]; rfl) fun b hp => out_wp (n := 0) (st_impl_GetNode cs) ?_
  have hb : b.length ≤ 240 := hp
  have hb2 : ¬ (240 : Int) < (b.length : Int) := by omega
  have f2 : ∀ v, sFill [.bool false, .snil, .snil, .snil] [(0, 1, .bool v)] = some [.bool v, .snil, .snil, .snil] := fun _ => rfl
  have f3 : sFill [.bool false, .snil, .snil, .snil] [] = some [.bool false, .snil, .snil, .snil] := rfl
  have c1 := C_impl_GetU_eq b 0 (by omega)
  rcases hu : getU b 0 with ⟨lf, i1, ok1⟩
  rw [hu] at c1
  have c2 := C_impl_GetU_eq b i1 (by omega)
  rcases hw : getU b i1 with ⟨n0, j, ok2⟩
  rw [hw] at c2
  have c4 := C_impl_in_eq lf 0 1
  have hg := getNode_fin hb hu hw
  have rng : 0 ≤ n0 ∧ n0 ≤ 1000000 := by
    cases ok2 with
    | false => rw [getU_fail hw]; exact ⟨by decide, by decide⟩
    | true => have := getU_rng b i1; rw [hw] at this; exact ⟨(this rfl).1, (this rfl).2.1⟩
  obtain ⟨n, rfl⟩ : ∃ n : Nat, n0 = (n : Int) := ⟨n0.toNat, by omega⟩
  have hn : n ≤ 1000000 := by omega
  rw [Int.toNat_natCast] at hg
  obtain ⟨B, hB⟩ : ∃ B, B = !(ok1 && ok2 && inR lf 0 1 && decide ((n : Int) ≤ 240)) := ⟨_, rfl⟩
  rw [← hB] at hg
  rw [hg]
  have hnB : n ≤ 240 ∨ B = true := by
    by_cases hb3 : (n : Int) ≤ 240
    · left; omega
    · right; rw [hB]; simp; omega
  have hcost := nodeOf_cost hb (lf := lf) (j := j) hnB
  have hcs : ok1 = false ∨ (ok1 = true ∧ ok2 = false) ∨ (ok1 = true ∧ ok2 = true ∧ inR lf 0 1 = false) ∨ (ok1 = true ∧ ok2 = true ∧ inR lf 0 1 = true ∧ ¬ (n : Int) ≤ 240) ∨ (ok1 = true ∧ ok2 = true ∧ inR lf 0 1 = true ∧ (n : Int) ≤ 240) := by
    cases ok1 <;> cases ok2 <;> cases inR lf 0 1 <;> simp <;> omega
  rcases hcs with q1 | ⟨q1, q2⟩ | ⟨q1, q2, q3⟩ | ⟨q1, q2, q3, q4⟩ | ⟨q1, q2, q3, q4⟩ <;> (try simp only [q3] at c4) <;> (try rw [q2] at c2) <;> rw [q1] at c1
  all_goals
    (first | simp only [go_sem, kSt_ptr, Nat.reduceBEq, Nat.reduceAdd, s_impl_GetNode, hb2, h1, c1, c2, h4, c4, q4, f2, f3] | simp only [go_sem, kSt_ptr, Nat.reduceBEq, Nat.reduceAdd, s_impl_GetNode, hb2, h1, c1, c2, h4, c4, f2, f3])
    refine LK0_impl_GetNode cs h2 b hb n hn (lf == 1) n [] j j B _ _ .snil (by simp) (fun _ => rfl) (by simp only [go_sem, Nat.reduceBEq]) (by simp only [go_sem, Nat.reduceBEq]) (by simp only [go_sem, Nat.reduceBEq]) (by simp only [go_sem, Nat.reduceBEq]) (by simp only [go_sem, Nat.reduceBEq]) (by simp only [go_sem, Nat.reduceBEq]) (by rw [hB]; simp only [q1, Bool.false_and, Bool.not_not]; first | rfl | (simp only [q2]; rfl) | (simp only [q2, q3]; rfl) | (simp only [q2, q3, q4, decide_true, decide_false]; rfl)) (by simp only [go_sem, Nat.reduceBEq]) (Nat.le_refl _) (by simp only [go_sem]) (by simp only [go_sem]) (grows_nil _ _) ?_
    clear hB c1 c2 c4 hg
    intro e' h' x' i' hi' q0 q2 q3 q7 q9 q5 q6 nx' z0 z1 se
    have sz := se.2
    by_cases hl : lf = 1
    · have hno : nodeOf b lf n j B = _ := if_pos hl
      have hl2 : (lf == 1) = true := by rw [hl]; rfl
      rw [hno] at hcost ⊢
      generalize gsT b n j B = k at *
      simp only [hl2] at z1
      simp only [go_sem]
      refine LK1_impl_GetNode cs h2 b hb n hn _ rfl n [] k.2.1 i' k.2.2 _ _ .snil (by simp) hi' (by simp only [go_sem, Nat.reduceBEq, q0]) (by simp only [go_sem, Nat.reduceBEq, q2]) (by simp only [go_sem, Nat.reduceBEq, q3]) (by simp only [go_sem, Nat.reduceBEq, q7]) (by simp only [go_sem, Nat.reduceBEq, q9]) (by simp only [go_sem, Nat.reduceBEq, q5]) (by simp only [go_sem, Nat.reduceBEq, q6]) (by simp only [go_sem]) nx' (by simp only [go_sem, z0]) z1 (grows_nil _ _) ?_
      intro e1 hh x1 i2 hi2 r0 r2 r3 r7 r9 r5 r6 nx1 y0 y1 se1
      have sz1 := se1.2
      generalize gsT b n k.2.1 k.2.2 = v at *
      obtain ⟨vl, i, bd2⟩ := v
      simp only [List.nil_append] at r6 se se1 hcost ⊢
      have c3 := C_impl_PutNode_eq _ hcost
      simp only [go_sem]
      refine LK2x_impl_GetNode cs (b := b) (n := n) (i := i2) (bad := !bd2) ?_ ?_ ?_ ?_ ?_ ?_ ?_ ?_ y1 ?_
      · simp only [go_sem, Nat.reduceBEq, r0]
      · simp only [go_sem, Nat.reduceBEq, r2]
      · simp only [go_sem, Nat.reduceBEq, r3]
      · simp only [go_sem, Nat.reduceBEq, r7]
      · simp only [go_sem, Nat.reduceBEq, r9]
      · simp only [go_sem, Nat.reduceBEq, r5]
      · simp only [go_sem, Nat.reduceBEq, r6]
      · simp only [go_sem]
      clear r0 r2 r3 r7 r9 r5 r6
      intro e1 r0 r2 r3 r7 r9 r5 r6
      simp only [List.map_nil] at c3
      cases bd2 with
      | true =>
        rw [nodeFin_bad rfl]
        simp only [go_sem, kSt_ptr, Nat.reduceBEq, Nat.reduceAdd, r2, r3, r9, r6, y0, y1, f3, h3, c3, sz, sz1, se.1, se1.1, se.fz, se1.fz, TNode.row, Bool.not_true, Bool.not_false, noNode]
      | false =>
        by_cases hpn : putNode ⟨true, k.1, vl, []⟩ = []
        · rw [nodeFin_nil _ _ hpn]
          rw [hpn] at c3
          simp only [go_sem, kSt_ptr, Nat.reduceBEq, Nat.reduceAdd, r2, r3, r9, r6, y0, y1, f3, h3, c3, sz, sz1, se.1, se1.1, se.fz, se1.fz, TNode.row, Bool.not_true, Bool.not_false, noNode]
        · have hln : ((((putNode ⟨true, k.1, vl, []⟩).length : Nat) : Int) == 0) = false := by
            have := List.length_pos_iff.2 hpn
            simp; omega
          by_cases hpp : putNode ⟨true, k.1, vl, []⟩ = b
          · rw [nodeFin_ok hpn hpp]
            have e1 : (putNode ⟨true, k.1, vl, []⟩ != b) = false := by simp [hpp]
            have e2 : (putNode ⟨true, k.1, vl, []⟩ == b) = true := by simp [hpp]
            simp only [go_sem, kSt_ptr, Nat.reduceBEq, Nat.reduceAdd, r0, r2, r3, r9, r6, y0, y1, f3, h3, c3, sz, sz1, se.1, se1.1, se.fz, se1.fz, TNode.row, Bool.not_true, Bool.not_false, hln, nsI, rowsIn_imm, rowsBytes_u8, e2]
          · rw [nodeFin_ne _ _ hpp]
            have e1 : (putNode ⟨true, k.1, vl, []⟩ != b) = true := by simp [hpp]
            have e2 : (putNode ⟨true, k.1, vl, []⟩ == b) = false := by simpa using hpp
            simp only [go_sem, kSt_ptr, Nat.reduceBEq, Nat.reduceAdd, r0, r2, r3, r9, r6, y0, y1, f3, h3, c3, sz, sz1, se.1, se1.1, se.fz, se1.fz, TNode.row, Bool.not_true, Bool.not_false, hln, nsI, rowsIn_imm, rowsBytes_u8, e2, noNode]
    · have hno : nodeOf b lf n j B = _ := if_neg hl
      have hl2 : (lf == 1) = false := by simp [hl]
      rw [hno] at hcost ⊢
      generalize gsT b n j B = k at *
      simp only [hl2] at z1
      simp only [go_sem]
      refine LK1x_impl_GetNode cs (b := b) (n := n) (i := i') (bad := !k.2.2) ?_ ?_ ?_ ?_ ?_ ?_ ?_ ?_ z1 ?_
      · simp only [go_sem, Nat.reduceBEq, q0]
      · simp only [go_sem, Nat.reduceBEq, q2]
      · simp only [go_sem, Nat.reduceBEq, q3]
      · simp only [go_sem, Nat.reduceBEq, q7]
      · simp only [go_sem, Nat.reduceBEq, q9]
      · simp only [go_sem, Nat.reduceBEq, q5]
      · simp only [go_sem, Nat.reduceBEq, q6]
      · simp only [go_sem]
      clear q0 q2 q3 q7 q9 q5 q6
      intro e' q0 q2 q3 q7 q9 q5 q6
      simp only [go_sem]
      refine LK2_impl_GetNode cs h1 b hb n hn _ rfl (n + 1) [] k.2.1 i' k.2.2 _ _ .snil (by simp) hi' (by simp only [go_sem, Nat.reduceBEq, q0]) (by simp only [go_sem, Nat.reduceBEq, q2]) (by simp only [go_sem, Nat.reduceBEq, q3]) (by simp only [go_sem, Nat.reduceBEq, q7]) (by simp only [go_sem, Nat.reduceBEq, q9]) (by simp only [go_sem, Nat.reduceBEq, q5]) (by simp only [go_sem, Nat.reduceBEq, q6]) (by simp only [go_sem]) nx' (by simp only [go_sem, z0]) z1 (grows_nil _ _) ?_
      intro e1 hh x1 i2 hi2 r0 r2 r3 r7 r9 r5 r6 nx1 y0 y1 se1
      have sz1 := se1.2
      generalize gsU b (n + 1) k.2.1 k.2.2 = v at *
      obtain ⟨vl, i, bd2⟩ := v
      simp only [List.nil_append] at r6 se se1 hcost ⊢
      have c3 := C_impl_PutNode_eq _ hcost
      simp only [List.map_nil] at c3
      cases bd2 with
      | true =>
        rw [nodeFin_bad rfl]
        simp only [go_sem, kSt_ptr, Nat.reduceBEq, Nat.reduceAdd, r2, r3, r9, r6, y0, y1, f3, h3, c3, sz, sz1, se.1, se1.1, se.fz, se1.fz, TNode.row, Bool.not_true, Bool.not_false, noNode]
      | false =>
        by_cases hpn : putNode ⟨false, k.1, [], vl⟩ = []
        · rw [nodeFin_nil _ _ hpn]
          rw [hpn] at c3
          simp only [go_sem, kSt_ptr, Nat.reduceBEq, Nat.reduceAdd, r2, r3, r9, r6, y0, y1, f3, h3, c3, sz, sz1, se.1, se1.1, se.fz, se1.fz, TNode.row, Bool.not_true, Bool.not_false, noNode]
        · have hln : ((((putNode ⟨false, k.1, [], vl⟩).length : Nat) : Int) == 0) = false := by
            have := List.length_pos_iff.2 hpn
            simp; omega
          by_cases hpp : putNode ⟨false, k.1, [], vl⟩ = b
          · rw [nodeFin_ok hpn hpp]
            have e1 : (putNode ⟨false, k.1, [], vl⟩ != b) = false := by simp [hpp]
            have e2 : (putNode ⟨false, k.1, [], vl⟩ == b) = true := by simp [hpp]
            simp only [go_sem, kSt_ptr, Nat.reduceBEq, Nat.reduceAdd, r0, r2, r3, r9, r6, y0, y1, f3, h3, c3, sz, sz1, se.1, se1.1, se.fz, se1.fz, TNode.row, Bool.not_true, Bool.not_false, hln, nsI, rowsIn_imm, rowsBytes_u8, e2]
          · rw [nodeFin_ne _ _ hpp]
            have e1 : (putNode ⟨false, k.1, [], vl⟩ != b) = true := by simp [hpp]
            have e2 : (putNode ⟨false, k.1, [], vl⟩ == b) = false := by simpa using hpp
            simp only [go_sem, kSt_ptr, Nat.reduceBEq, Nat.reduceAdd, r0, r2, r3, r9, r6, y0, y1, f3, h3, c3, sz, sz1, se.1, se1.1, se.fz, se1.fz, TNode.row, Bool.not_true, Bool.not_false, hln, nsI, rowsIn_imm, rowsBytes_u8, e2, noNode]
end Go.Proofs.YtmfkjlnhanomfaaGreat.Nl
/- What the functions that FnExactNoLeak calls answer: part 19. -/
namespace Go.Proofs.YtmfkjlnhanomfaaGreat.Nl
open Go Go.RowKit Go.Ev
set_option linter.unusedSimpArgs false
set_option linter.unusedVariables false
set_option maxHeartbeats 1600000
noncomputable def C_impl_NodeAt := c2 tTxn intT (fun (t : TTxn) (n : Int) => tTxn.cost t ≤ 1048576) (fun x => .tup [.agg (x.1).row, .bool x.2]) fun (t : TTxn) (n : Int) => nodeAt t n
theorem C_impl_NodeAt_eq (t : TTxn) (n : Int) (h : tTxn.cost t ≤ 1048576) : C_impl_NodeAt [.agg [.imm (t.fD.fSecs.map (sliceT u8T).row), .imm (t.fD.fCache.map TWrite.row), .int .i64 t.fD.fOps, .imm (t.fD.fFaults.map TFault.row), .bool t.fD.fDown, .int .i64 t.fM.fGen, .int .i64 t.fM.fRoot, .int .i64 t.fRoot, .imm (t.fNew.map TFresh.row)], .int .i64 n] = some (.tup [.agg (((nodeAt t n).1)).row, .bool ((nodeAt t n).2)]) := c2_eq tTxn intT h
theorem ok_impl_NodeAt {WI : World → Prop} (hs : Stable WI) (cs) (hT : TOK (EE cs) WI) (h1 : (EE cs).T 49 = some C_impl_newAt) (h2 : (EE cs).T 50 = some C_impl_copyNode) (h3 : (EE cs).T 51 = some C_impl_PageAt) (h4 : (EE cs).T 52 = some C_impl_GetNode) : PureOK Tryz.prog WI 23 C_impl_NodeAt := by
  refine pure2 (E := EE cs) hT hs (by rw [st_impl_NodeAt]; rfl) fun t n hp => out_wp (n := 0) (st_impl_NodeAt cs) ?_
  obtain ⟨z1, z2, z3⟩ := txCost hp
  have c1 := C_impl_newAt_eq t n hp
  have c3 := C_impl_PageAt_eq t.fD n 1 z1
  have hl := pageAt_len t.fD n 1
  have f3 : sFill [.bool false, .snil, .snil, .snil] [] = some [.bool false, .snil, .snil, .snil] := rfl
  unfold nodeAt
  rcases find_both n t.fNew [] with ⟨g1, g2⟩ | ⟨p, f, r, g0, g1, g2⟩
  · rw [g2] at c1
    rw [g1]
    simp only [Option.getD_none] at c1
    unfold nodeDisk
    rcases hpa : pageAt t.fD n 1 with ⟨b, ok⟩
    rw [hpa] at c3 hl
    simp only at hl ⊢
    cases ok with
    | false => simp only [go_sem, kSt_ptr, Nat.reduceBEq, Nat.reduceAdd, Nat.reduceLeDiff, Int.reduceLE, s_impl_NodeAt, TTxn.row, tTxn_enc, h1, c1, h3, c3, f3, noNode, TNode.row, Bool.false_eq_true]
    | true =>
      have c4 := C_impl_GetNode_eq b hl
      simp only [go_sem, kSt_ptr, Nat.reduceBEq, Nat.reduceAdd, Nat.reduceLeDiff, Int.reduceLE, s_impl_NodeAt, TTxn.row, tTxn_enc, h1, c1, h3, c3, h4, c4, f3, TNode.row]
  · rw [g2] at c1
    rw [g1]
    simp only [Option.getD_some, List.length_nil, Int.ofNat_zero, Int.zero_add] at c1
    have c2 := C_impl_copyNode_eq f.fX (z3 f (by rw [g0]; simp))
    have hia := fun h => kIa_map (h := h) (row := TFresh.row) (sz := 5) (l := t.fNew) (pre := p) (v := f) (rest := r) g0 rfl
    have hp0 : (0 : Int) ≤ (p.length : Int) := by omega
    simp only [go_sem, kSt_ptr, Nat.reduceBEq, Nat.reduceAdd, Nat.reduceLeDiff, s_impl_NodeAt, TTxn.row, tTxn_enc, h1, c1, hia, TFresh.row, h2, deepC_false, c2, hp0, TNode.row]
def C_sort_Ints : List AV → Option AV := fun _ => some (.tup [])
theorem C_sort_Ints_eq : C_sort_Ints [] = some (.tup []) := rfl
section
variable (f : Int → Option (List Int))
/-- Those of a node's kids that are there and not yet in. -/
def addK (out : List Int) (k : Int) : List Int := if (f k).isSome = true ∧ hasI out k = false then out ++ [k] else out
def addAll (out ks : List Int) : List Int := ks.foldl (addK f) out
structure BfsI (r : Int) (out : List Int) (i : Nat) : Prop where
  nd : out.Nodup
  root : r ∈ out
  led : ∀ x ∈ out, Led f r x
  done : ∀ j, j < i → ∀ x, out[j]? = some x → ∀ ks, f x = some ks → ∀ k ∈ ks, ∀ ks', f k = some ks' → k ∈ out
theorem addK_sub (out : List Int) (k : Int) : ∃ q, addK f out k = out ++ q := by
  unfold addK
  split
  · exact ⟨[k], rfl⟩
  · exact ⟨[], by simp⟩
theorem addAll_sub : ∀ (ks out : List Int), ∃ q, addAll f out ks = out ++ q := by
  intro ks
  induction ks with
  | nil => intro out; exact ⟨[], by simp [addAll]⟩
  | cons k ks ih =>
    intro out
    obtain ⟨q1, h1⟩ := addK_sub f out k
    obtain ⟨q2, h2⟩ := ih (addK f out k)
    refine ⟨q1 ++ q2, ?_⟩
    have : addAll f out (k :: ks) = addAll f (addK f out k) ks := rfl
    rw [this, h2, h1, List.append_assoc]
theorem addK_in {out : List Int} {k : Int} (h : (f k).isSome = true) : k ∈ addK f out k := by
  unfold addK
  split
  · simp
  · rename_i hc
    cases hb : hasI out k with
    | false => exact absurd ⟨h, hb⟩ hc
    | true => exact (hasI_iff out k).1 hb
theorem addK_nd {out : List Int} (k : Int) (h : out.Nodup) : (addK f out k).Nodup := by
  unfold addK
  split
  · rename_i hc
    rw [List.nodup_append]
    refine ⟨h, by simp, fun a ha b hb e => ?_⟩
    simp only [List.mem_singleton] at hb
    subst hb; subst e
    rw [(hasI_iff out a).2 ha] at hc
    cases hc.2
  · exact h
theorem addK_mem {out : List Int} {k x : Int} (h : x ∈ addK f out k) : x ∈ out ∨ (x = k ∧ (f k).isSome = true) := by
  unfold addK at h
  split at h
  · rename_i hc
    rcases List.mem_append.1 h with h | h
    · exact .inl h
    · simp only [List.mem_singleton] at h; exact .inr ⟨h, hc.1⟩
  · exact .inl h
theorem addAll_nd : ∀ (ks out : List Int), out.Nodup → (addAll f out ks).Nodup := by
  intro ks
  induction ks with
  | nil => intro out h; exact h
  | cons k ks ih => intro out h; exact ih _ (addK_nd f k h)
theorem addAll_mem : ∀ (ks out : List Int) (x : Int), x ∈ addAll f out ks → x ∈ out ∨ (x ∈ ks ∧ (f x).isSome = true) := by
  intro ks
  induction ks with
  | nil => intro out x h; exact .inl h
  | cons k ks ih =>
    intro out x h
    rcases ih (addK f out k) x h with h | ⟨h, h2⟩
    · rcases addK_mem f h with h | ⟨rfl, h2⟩
      · exact .inl h
      · exact .inr ⟨List.mem_cons_self, h2⟩
    · exact .inr ⟨List.mem_cons_of_mem _ h, h2⟩
theorem addAll_in : ∀ (ks out : List Int) (k : Int), k ∈ ks → (f k).isSome = true → k ∈ addAll f out ks := by
  intro ks
  induction ks with
  | nil => intro out k h; cases h
  | cons a ks ih =>
    intro out k h hf
    rcases List.mem_cons.1 h with rfl | h
    · obtain ⟨q, hq⟩ := addAll_sub f ks (addK f out k)
      have : addAll f out (k :: ks) = addAll f (addK f out k) ks := rfl
      rw [this, hq]
      exact List.mem_append_left _ (addK_in f hf)
    · exact ih _ k h hf
theorem bfs_step {r n : Int} {out : List Int} {i : Nat} {ks : List Int} (b : BfsI f r out i) (hn : out[i]? = some n) (hf : f n = some ks) : BfsI f r (addAll f out ks) (i + 1) := by
  obtain ⟨q, hq⟩ := addAll_sub f ks out
  have hlt : i < out.length := by
    by_cases h : i < out.length
    · exact h
    · rw [List.getElem?_eq_none (by omega)] at hn; cases hn
  have hno : n ∈ out := List.mem_of_getElem? hn
  refine ⟨addAll_nd f ks out b.nd, by rw [hq]; exact List.mem_append_left _ b.root, fun x hx => ?_, fun j hj x hx kx hfx k hk ks' hfk => ?_⟩
  · rcases addAll_mem f ks out x hx with h | ⟨h, h2⟩
    · exact b.led x h
    · obtain ⟨ks', h3⟩ := Option.isSome_iff_exists.1 h2
      exact .kid (b.led n hno) hf h h3
  · have hxo : out[j]? = some x := by
      rw [hq, List.getElem?_append_left (by omega)] at hx
      exact hx
    by_cases hji : j = i
    · subst hji
      rw [hn] at hxo
      injection hxo with hxo
      subst hxo
      rw [hf] at hfx
      injection hfx with hfx
      subst hfx
      exact addAll_in f _ out k hk (by rw [hfk]; rfl)
    · rw [hq]
      exact List.mem_append_left _ (b.done j (by omega) x hxo kx hfx k hk ks' hfk)
theorem bfs_end (hkids : ∀ n ks, f n = some ks → ∀ k ∈ ks, k ∈ secs) {r : Int} (hr : r ∈ secs) {out : List Int} (b : BfsI f r out out.length) (x : Int) : x ∈ out ↔ x ∈ pagesF f r := by
  rw [pagesF_iff f hkids (.inr hr)]
  constructor
  · exact b.led x
  · intro h
    induction h with
    | root _ _ => exact b.root
    | kid hl hf hk hf' ih =>
      obtain ⟨j, hj⟩ := List.getElem?_of_mem ih
      have hjl : j < out.length := by
        by_cases h : j < out.length
        · exact h
        · rw [List.getElem?_eq_none (by omega)] at hj; cases hj
      exact b.done j hjl _ hj _ hf _ hk _ hf'
theorem bfs_sort (hkids : ∀ n ks, f n = some ks → ∀ k ∈ ks, k ∈ secs) {r : Int} (hr : r ∈ secs) {out : List Int} (b : BfsI f r out out.length) : sortI out = pagesF f r := by
  have hp : (sortI out).Perm out := List.mergeSort_perm _ _
  have hs : (sortI out).Pairwise fun x y => decide (x ≤ y) = true := List.pairwise_mergeSort (fun a b c h1 h2 => by simp at h1 h2 ⊢; omega) (fun a b => by simp; omega) out
  have hnd : (sortI out).Nodup := hp.nodup_iff.2 b.nd
  refine sorted_ext ?_ (walk_sorted f 46 r [] List.Pairwise.nil) fun x => ?_
  · unfold Sorted
    have := hs.and hnd
    refine this.imp ?_
    rintro x y ⟨h1, h2⟩
    simp at h1
    omega
  · rw [hp.mem_iff]
    exact bfs_end f hkids hr b x
theorem nd_len : ∀ (l : List Int), l.Nodup → (∀ x ∈ l, x ∈ secs) → l.length + (missing l).length ≤ 46 := by
  intro l
  induction l with
  | nil => intro _ _; unfold missing; have := List.length_filter_le (fun k => !hasI [] k) secs; rw [secs_len] at this; simp only [List.length_nil]; omega
  | cons a l ih =>
    intro h hs
    obtain ⟨h1, h2⟩ := List.nodup_cons.1 h
    have := ih h2 fun x hx => hs x (List.mem_cons_of_mem _ hx)
    have := missing_lt (l := l) (l' := a :: l) (fun x hx => List.mem_cons_of_mem _ hx) (hs a List.mem_cons_self) h1 List.mem_cons_self
    rw [List.length_cons]
    omega
theorem led_secs (hkids : ∀ n ks, f n = some ks → ∀ k ∈ ks, k ∈ secs) {r x : Int} (hr : r ∈ secs) (h : Led f r x) : x ∈ secs := by
  induction h with
  | root _ _ => exact hr
  | kid _ hf hk _ _ => exact hkids _ _ hf _ hk
theorem bfs_len (hkids : ∀ n ks, f n = some ks → ∀ k ∈ ks, k ∈ secs) {r : Int} (hr : r ∈ secs) {out : List Int} {i : Nat} (b : BfsI f r out i) : out.length ≤ 46 := by
  have := nd_len out b.nd fun x hx => led_secs f hkids hr (b.led x hx)
  omega
theorem addAll_len : ∀ (ks out : List Int), (addAll f out ks).length ≤ out.length + ks.length := by
  intro ks
  induction ks with
  | nil => intro out; exact Nat.le_refl _
  | cons k ks ih =>
    intro out
    have h1 := ih (addK f out k)
    have h2 : (addK f out k).length ≤ out.length + 1 := by unfold addK; split <;> simp
    have : addAll f out (k :: ks) = addAll f (addK f out k) ks := rfl
    rw [this, List.length_cons]
    omega
theorem addAll_snoc (out ks : List Int) (k : Int) : addAll f out (ks ++ [k]) = addK f (addAll f out ks) k := by unfold addAll; rw [List.foldl_append]; rfl
theorem bfs_start {r : Int} {ks : List Int} (h0 : r ≠ 0) (h : f r = some ks) : BfsI f r [r] 0 :=
  ⟨by simp, by simp, fun x hx => by simp at hx; subst hx; exact .root h0 h, fun j hj => absurd hj (by omega)⟩
theorem pagesF_none {r : Int} (h : r = 0 ∨ f r = none) : pagesF f r = [] := by
  unfold pagesF
  rw [walkF]
  split
  · rfl
  · rename_i hc
    rcases h with h | h
    · exact absurd (.inl h) hc
    · rw [h]
end
noncomputable def C_impl_PagesOf := c2 tTxn intT (fun (t : TTxn) (r : Int) => tTxn.cost t ≤ 1048576 ∧ t.fNew = [] ∧ (r = 0 ∨ r ∈ secs)) (fun x => .imm (x.map intT.row)) fun (t : TTxn) (r : Int) => pagesOf t r
theorem C_impl_PagesOf_eq (t : TTxn) (r : Int) (h : tTxn.cost t ≤ 1048576 ∧ t.fNew = [] ∧ (r = 0 ∨ r ∈ secs)) : C_impl_PagesOf [.agg [.imm (t.fD.fSecs.map (sliceT u8T).row), .imm (t.fD.fCache.map TWrite.row), .int .i64 t.fD.fOps, .imm (t.fD.fFaults.map TFault.row), .bool t.fD.fDown, .int .i64 t.fM.fGen, .int .i64 t.fM.fRoot, .int .i64 t.fRoot, .imm (t.fNew.map TFresh.row)], .int .i64 r] = some (.imm (((pagesOf t r)).map intT.row)) := c2_eq tTxn intT h
theorem LK0_impl_PagesOf (cs) (h1 : (EE cs).T 23 = some C_impl_NodeAt) (h2 : (EE cs).T 31 = some C_impl_hasInt) {t : TTxn} (ht : tTxn.cost t ≤ 1048576) {kids out : List Int} (hk : kids.length ≤ 1000) (ho : out.length ≤ 46) (i : Nat) {e : Ps} {h : Hp} (e2 : e 2 = .ptr 0 0) (e45 : e 45 = .imm (kids.map intT.row)) (e46 : e 46 = .int .i64 kids.length) (e47 : e 47 = .int .i64 0) (e8 : e 8 = .int .i64 i) (hh : h.hp 0 = some t.row) (go : ints 1 out (e 7) h) :
    WL (EE cs) s_impl_PagesOf_L0 e h fun y e' h' => y = .exit 2 ∧ (e' 2 = .ptr 0 0 ∧ e' 8 = .int .i64 i ∧ h'.hp 0 = some t.row ∧ ints 1 (addAll (fOf t) out kids) (e' 7) h') := by
  refine (wl_for (l := kids) (fun pre e h => e 2 = .ptr 0 0 ∧ e 45 = .imm (kids.map intT.row) ∧ e 46 = .int .i64 kids.length ∧ e 47 = .int .i64 pre.length ∧ e 8 = .int .i64 i ∧ h.hp 0 = some t.row ∧ ints 1 (addAll (fOf t) out pre) (e 7) h) (.exit 2) (fun e' h' => e' 2 = .ptr 0 0 ∧ e' 8 = .int .i64 i ∧ h'.hp 0 = some t.row ∧ ints 1 (addAll (fOf t) out kids) (e' 7) h') (by omega) ?_ ?_ (by simp) kids [] e h rfl ⟨e2, e45, e46, e47, e8, hh, go⟩)
  · rintro pre v rest e h a ⟨q2, q45, q46, q47, q8, qh, r, q7, qr, hr1, hrn⟩
    have c1 := C_impl_NodeAt_eq t v ht
    have hal := addAll_len (fOf t) pre out
    have hpl := a.lt
    have sn := addAll_snoc (fOf t) out pre v
    have n1 : ¬ r = 0 := by omega
    have n2 : ¬ r = h.nx := by omega
    have n3 : 1 ≤ h.nx := by omega
    have n4 : ¬ 0 = h.nx := by omega
    have n5 : ¬ 0 = r := by omega
    rcases hy : nodeAt t v with ⟨y, ok⟩
    rw [hy] at c1
    have hf : fOf t v = if ok = true then some y.fKids else none := by unfold fOf; rw [hy]
    generalize addAll (fOf t) out pre = o1 at *
    cases ok with
    | false =>
      have e1 : addK (fOf t) o1 v = o1 := by unfold addK; rw [hf]; simp
      rw [sn, e1]
      simp only [go_sem, kSt_ptr, Nat.reduceBEq, Nat.reduceAdd, s_impl_PagesOf_L0, q2, q45, q46, q47, q8, qh, q7, a.dl, a.ia (row := intT.row) (sz := 1) rfl, intT_row, TTxn.row, TNode.row, h1, c1, a.hw, n4]
      exact ⟨r, rfl, by simp only [go_sem, n2, qr], hr1, by simp only [go_sem]; omega⟩
    | true =>
      have c2 := C_impl_hasInt_eq o1 v (by omega)
      simp only [go_sem, kSt_ptr, Nat.reduceBEq, Nat.reduceAdd, s_impl_PagesOf_L0, q2, q45, q46, q47, q8, qh, q7, a.dl, a.ia (row := intT.row) (sz := 1) rfl, intT_row, TTxn.row, TNode.row, h1, c1, h2]
      refine hP_read (mapO2 (frzInts (by simp only [go_sem, n2, qr]) (by simp only [go_sem]; omega)) (frzT_int _ _)) c2 ?_
      have f1 : fillR (List.replicate 1 [AV.int IntKind.i64 0]) 1 [(0, .int .i64 v)] = some [[.int .i64 v]] := rfl
      have f2 : frzRows [[AV.int IntKind.i64 v]] = some [[.int .i64 v]] := rfl
      cases hb : hasI o1 v with
      | true =>
        have e1 : addK (fOf t) o1 v = o1 := by unfold addK; rw [hb]; simp
        rw [sn, e1]
        simp only [go_sem, Nat.reduceBEq, q2, q45, q46, q47, q8, qh, q7, a.hw, TTxn.row, n4]
        exact ⟨r, rfl, by simp only [go_sem, n2, qr], hr1, by simp only [go_sem]; omega⟩
      | false =>
        have e1 : addK (fOf t) o1 v = o1 ++ [v] := by unfold addK; rw [hb, hf]; simp
        rw [sn, e1]
        have sa : ∀ (h' : Hp) (id : Nat), h'.hp r = some (o1.map fun k => AV.int .i64 k) → sApp true 8 1 (.sl r 0 o1.length 1) (.app id [[.int .i64 v]]) h' = some (.sl h'.nx 0 (o1.length + 1) 1, (h'.kill r).new ((o1 ++ [v]).map fun k => AV.int .i64 k)) := fun h' id hh => by
          have := sApp_ints (bt := 8) (r := r) (len := o1.length) (x := .app id [[.int .i64 v]]) [v] hh (by simp) rfl (by simp only [List.length_cons, List.length_nil]; unfold room; omega)
          rw [this, List.map_append]
          rfl
        simp only [go_sem, Nat.reduceBEq, q2, q45, q46, q47, q8, qh, q7, f1, f2]
        rw [sa _ _ (by simp only [go_sem, n2, qr])]
        simp only [go_sem, Nat.reduceBEq, Nat.reduceEqDiff, q2, q45, q46, q47, q8, qh, q7, a.hw, TTxn.row, n4, n5, Hp.kill]
        exact ⟨h.nx + 1 + 1, by simp, by simp, by omega, Nat.lt_succ_self _⟩
  · rintro e h ⟨q2, q45, q46, q47, q8, qh, go⟩
    simp only [go_sem, Nat.reduceBEq, s_impl_PagesOf_L0, q2, q45, q46, q47, q8]
    exact ⟨qh, go⟩
theorem led_some {f : Int → Option (List Int)} {r x : Int} (h : Led f r x) : ∃ ks, f x = some ks := by
  cases h with
  | root _ h => exact ⟨_, h⟩
  | kid _ _ _ h => exact ⟨_, h⟩
theorem LK1_impl_PagesOf (cs) (h1 : (EE cs).T 23 = some C_impl_NodeAt) (h2 : (EE cs).T 31 = some C_impl_hasInt) {t : TTxn} (ht : tTxn.cost t ≤ 1048576) (hn : t.fNew = []) {r : Int} (hr : r ∈ secs) {Q : QS}
    (hq : ∀ out e' h', BfsI (fOf t) r out out.length → ints 1 out (e' 7) h' → Q (.exit 0) e' h') :
    ∀ (m i : Nat) (out : List Int) (e : Ps) (h : Hp), 46 ≤ i + m → BfsI (fOf t) r out i → i ≤ out.length → e 2 = .ptr 0 0 → e 8 = .int .i64 i → h.hp 0 = some t.row → ints 1 out (e 7) h → WL (EE cs) s_impl_PagesOf_L1 e h Q := by
  have hkids := fOf_kids hn
  intro m
  induction m with
  | zero =>
    intro i out e h hm b hi e2 e8 hh go
    have hl := bfs_len (fOf t) hkids hr b
    have hio : i = out.length := by omega
    subst hio
    have hc : ¬ (out.length : Int) < out.length := by omega
    obtain ⟨q, q7, qr, hr1, hrn⟩ := go
    refine .step (wp_sound _ _ _ _ ?_)
    simp only [go_sem, Nat.reduceBEq, s_impl_PagesOf_L1, e2, e8, q7, hc]
    exact hq _ _ _ b ⟨q, by simp only [go_sem, Nat.reduceBEq, q7], qr, hr1, hrn⟩
  | succ m ih =>
    intro i out e h hm b hi e2 e8 hh go
    have hl := bfs_len (fOf t) hkids hr b
    by_cases hlt : i < out.length
    · have hc : (i : Int) < out.length := by omega
      obtain ⟨q, q7, qr, hr1, hrn⟩ := go
      have hx := List.getElem?_eq_getElem hlt
      obtain ⟨ks, hks⟩ := led_some (b.led _ (List.getElem_mem hlt))
      have c1 := C_impl_NodeAt_eq t out[i] ht
      have bs := bfs_step (fOf t) b hx hks
      rcases hy : nodeAt t out[i] with ⟨y, ok⟩
      have hf : fOf t out[i] = if ok = true then some y.fKids else none := by unfold fOf; rw [hy]
      have hkl := nodeAt_len hn hy
      rw [hy] at c1
      cases ok with
      | false => rw [hf] at hks; cases hks
      | true =>
        rw [hf] at hks
        simp only [if_true, Option.some.injEq] at hks
        subst hks
        have hk240 : y.fKids.length ≤ 1000 := by
          have e := nodeAt_kids hn hy
          have hd : nodeAt t out[i] = nodeDisk t.fD out[i] := by unfold nodeAt; rw [hn]; rfl
          have h3 := nodeDisk_ok (d := t.fD) (n := out[i]) (by rw [← hd, hy])
          rw [← hd, hy] at h3
          have h4 : y.fKids.length ≤ 240 := body_kids h3
          omega
        have n2 : ¬ q = h.nx := by omega
        have n4 : ¬ 0 = h.nx := by omega
        have hw : IntKind.wrap .i64 ((i : Int) + 1) = ((i + 1 : Nat) : Int) := by rw [wrapId (by omega) (by omega)]; omega
        have hd : (if i ≤ out.length then some ((out.map fun k => AV.int .i64 k).drop i) else none) = some (AV.int .i64 out[i] :: (out.drop (i + 1)).map fun k => AV.int .i64 k) := by rw [if_pos hi, ← List.map_drop, List.drop_eq_getElem_cons hlt, List.map_cons]
        refine .step (wp_sound _ _ _ _ ?_)
        simp only [go_sem, kSt_ptr, Nat.reduceBEq, Nat.reduceAdd, Nat.reduceLeDiff, s_impl_PagesOf_L1, e2, e8, q7, hc, hh, kIa_int hlt, qr, hd, TTxn.row, TNode.row, h1, c1]
        refine WL.mono (LK0_impl_PagesOf cs h1 h2 (t := t) (kids := y.fKids) (out := out) ht hk240 hl i (by simp only [go_sem, Nat.reduceBEq, e2]) (by simp only [go_sem, Nat.reduceBEq]) (by simp only [go_sem, Nat.reduceBEq]) (by simp only [go_sem, Nat.reduceBEq]) (by simp only [go_sem, Nat.reduceBEq, e8]) (by simp only [go_sem, hh, n4, TTxn.row]) ⟨q, by simp only [go_sem, Nat.reduceBEq, q7], by simp only [go_sem, n2, qr], hr1, by simp only [go_sem]; omega⟩) ?_
        rintro y' e' h' ⟨rfl, j2, j8, jh, jg⟩
        simp only [go_sem, Nat.reduceBEq, j8, hw]
        obtain ⟨qq, hqq⟩ := addAll_sub (fOf t) y.fKids out
        exact ih (i + 1) _ _ _ (by omega) bs (by rw [hqq, List.length_append]; omega) (by simp only [go_sem, Nat.reduceBEq, j2]) (by simp only [go_sem, Nat.reduceBEq]) jh (by simp only [go_sem, Nat.reduceBEq, jg])
    · have hio : i = out.length := by omega
      subst hio
      have hc : ¬ (out.length : Int) < out.length := by omega
      obtain ⟨q, q7, qr, hr1, hrn⟩ := go
      refine .step (wp_sound _ _ _ _ ?_)
      simp only [go_sem, Nat.reduceBEq, s_impl_PagesOf_L1, e2, e8, q7, hc]
      exact hq _ _ _ b ⟨q, by simp only [go_sem, Nat.reduceBEq, q7], qr, hr1, hrn⟩
theorem ok_impl_PagesOf {WI : World → Prop} (hs : Stable WI) (cs) (hT : TOK (EE cs) WI) (h1 : (EE cs).T 23 = some C_impl_NodeAt) (h2 : (EE cs).T 31 = some C_impl_hasInt) (h3 : (EE cs).T 48 = some C_sort_Ints) : PureOK Tryz.prog WI 22 C_impl_PagesOf := by
  refine pure2 (E := EE cs) hT hs (by rw [st_impl_PagesOf]; rfl) fun t r hp => out_wp (n := 1) (st_impl_PagesOf cs) ?_
  obtain ⟨p1, p2, p3⟩ := hp
  have c1 := C_impl_NodeAt_eq t r p1
  rcases hy : nodeAt t r with ⟨y, ok⟩
  have hf : fOf t r = if ok = true then some y.fKids else none := by unfold fOf; rw [hy]
  rw [hy] at c1
  by_cases h0 : r = 0
  · have e0 : (r == 0) = true := by simp [h0]
    have e1 : pagesOf t r = [] := pagesF_none (fOf t) (.inl h0)
    rw [e1]
    simp only [go_sem, kSt_ptr, Nat.reduceBEq, Nat.reduceAdd, s_impl_PagesOf, TTxn.row, tTxn_enc, TNode.row, h1, c1, e0]
  have e0 : (r == 0) = false := by simp [h0]
  cases ok with
  | false =>
    have e1 : pagesOf t r = [] := pagesF_none (fOf t) (.inr (by rw [hf]; rfl))
    rw [e1]
    simp only [go_sem, kSt_ptr, Nat.reduceBEq, Nat.reduceAdd, s_impl_PagesOf, TTxn.row, tTxn_enc, TNode.row, h1, c1, e0]
  | true =>
    simp only [if_true] at hf
    have hrs : r ∈ secs := p3.resolve_left h0
    have f1 : fillR (List.replicate 1 [AV.int IntKind.i64 0]) 1 [(0, .int .i64 r)] = some [[.int .i64 r]] := rfl
    simp only [go_sem, kSt_ptr, Nat.reduceBEq, Nat.reduceAdd, s_impl_PagesOf, TTxn.row, tTxn_enc, TNode.row, h1, c1, e0, f1]
    refine LK1_impl_PagesOf cs h1 h2 p1 p2 hrs (fun out e' h' b go => ?_) 46 0 [r] _ _ (by omega) (bfs_start (fOf t) h0 hf) (by simp) (by simp only [go_sem, Nat.reduceBEq]) (by simp only [go_sem, Nat.reduceBEq]) (by simp only [go_sem, TTxn.row]) ⟨2, by simp only [go_sem, Nat.reduceBEq], by simp only [go_sem, Nat.reduceEqDiff]; rfl, by omega, by show 2 < 3; omega⟩
    obtain ⟨q, q7, qr, hr1, hrn⟩ := go
    have hl := bfs_len (fOf t) (fOf_kids p2) hrs b
    have sc := sortC_ints (F := C_sort_Ints) (t := .tup []) rfl qr (by omega)
    have e1 : sortI out = pagesOf t r := bfs_sort (fOf t) (fOf_kids p2) hrs b
    have hl2 : (pagesOf t r).length = out.length := by rw [← e1, sortI_len]
    have hz := TD.frzRows (T := intT) (r := q) (h := h'.set q ((pagesOf t r).map fun k => AV.int .i64 k)) (pagesOf t r) (by rw [flatI]; simp [Hp.set])
    rw [hl2] at hz
    rw [e1] at sc
    simp only [go_sem, Nat.reduceBEq, q7, h3, sc]
    exact hz
end Go.Proofs.YtmfkjlnhanomfaaGreat.Nl
/- What the functions that FnExactNoLeak calls answer: part 20. -/
namespace Go.Proofs.YtmfkjlnhanomfaaGreat.Nl
open Go Go.RowKit Go.Ev
set_option linter.unusedSimpArgs false
set_option linter.unusedVariables false
set_option maxHeartbeats 1600000
noncomputable def C_impl_onDisk := c1 tTxn (fun (t : TTxn) => tTxn.cost t ≤ 1048576) (fun x => .agg (x).row) fun (t : TTxn) => { t with fNew := [] }
theorem C_impl_onDisk_eq (t : TTxn) (h : tTxn.cost t ≤ 1048576) : C_impl_onDisk [.agg [.imm (t.fD.fSecs.map (sliceT u8T).row), .imm (t.fD.fCache.map TWrite.row), .int .i64 t.fD.fOps, .imm (t.fD.fFaults.map TFault.row), .bool t.fD.fDown, .int .i64 t.fM.fGen, .int .i64 t.fM.fRoot, .int .i64 t.fRoot, .imm (t.fNew.map TFresh.row)]] = some (.agg ((({ t with fNew := [] }))).row) := c1_eq tTxn h
theorem ok_impl_onDisk {WI : World → Prop} (hs : Stable WI) (cs) (hT : TOK (EE cs) WI) : PureOK Tryz.prog WI 58 C_impl_onDisk := by
  refine pure1 (E := EE cs) hT hs (by rw [st_impl_onDisk]; rfl) fun t hp => out_wp (n := 0) (st_impl_onDisk cs) ?_
  simp only [go_sem, kSt_ptr, Nat.reduceBEq, Nat.reduceAdd, s_impl_onDisk, TTxn.row, tTxn_enc]
theorem find_any (n : Int) : ∀ (l pre : List TFresh), (l.any (fun f => f.fN == n) = true ∧ 0 ≤ (earlyL (newFindI n) pre l).getD (-1)) ∨ (l.any (fun f => f.fN == n) = false ∧ (earlyL (newFindI n) pre l).getD (-1) < 0) := by
  intro l
  induction l with
  | nil => intro pre; exact .inr ⟨rfl, by simp [earlyL]⟩
  | cons f l ih =>
    intro pre
    by_cases hc : f.fN = n
    · left
      simp [earlyL, newFindI, hc]
    · rcases ih (pre ++ [f]) with ⟨h1, h2⟩ | ⟨h1, h2⟩
      · left
        simp only [List.any_cons, h1, Bool.or_true, true_and]
        simpa [earlyL, newFindI, hc] using h2
      · right
        have e : (f.fN == n) = false := by simp [hc]
        simp only [List.any_cons, h1, e, Bool.or_self, true_and]
        simpa [earlyL, newFindI, hc] using h2
noncomputable def C_impl_FreeOf := c1 tTxn (fun (t : TTxn) => tTxn.cost t ≤ 1048576 ∧ (t.fM.fRoot = 0 ∨ t.fM.fRoot ∈ secs)) (fun x => .imm (x.map intT.row)) fun (t : TTxn) => freeOf t
theorem C_impl_FreeOf_eq (t : TTxn) (h : tTxn.cost t ≤ 1048576 ∧ (t.fM.fRoot = 0 ∨ t.fM.fRoot ∈ secs)) : C_impl_FreeOf [.agg [.imm (t.fD.fSecs.map (sliceT u8T).row), .imm (t.fD.fCache.map TWrite.row), .int .i64 t.fD.fOps, .imm (t.fD.fFaults.map TFault.row), .bool t.fD.fDown, .int .i64 t.fM.fGen, .int .i64 t.fM.fRoot, .int .i64 t.fRoot, .imm (t.fNew.map TFresh.row)]] = some (.imm (((freeOf t)).map intT.row)) := c1_eq tTxn h
theorem ok_impl_FreeOf {WI : World → Prop} (hs : Stable WI) (cs) (hT : TOK (EE cs) WI) (h1 : (EE cs).T 58 = some C_impl_onDisk) (h2 : (EE cs).T 22 = some C_impl_PagesOf) (h3 : (EE cs).T 31 = some C_impl_hasInt) (h4 : (EE cs).T 49 = some C_impl_newAt) : PureOK Tryz.prog WI 30 C_impl_FreeOf := by
  refine pure1 (E := EE cs) hT hs (by rw [st_impl_FreeOf]; rfl) fun t hp => out_wp (n := 0) (st_impl_FreeOf cs) ?_
  obtain ⟨p1, p2⟩ := hp
  obtain ⟨z1, z2, z3⟩ := txCost p1
  have hsl : t.fD.fSecs.length ≤ 1048576 := by
    have a0 : tDisk.cost t.fD = (sliceT (sliceT u8T)).cost t.fD.fSecs + (sliceT tWrite).cost t.fD.fCache + (sliceT tFault).cost t.fD.fFaults := rfl
    have a1 : (sliceT (sliceT u8T)).cost t.fD.fSecs = t.fD.fSecs.length + costL (sliceT u8T) t.fD.fSecs := rfl
    omega
  have hco : tTxn.cost ⟨t.fD, t.fM, t.fRoot, []⟩ ≤ 1048576 := by
    have h0 : tTxn.cost ⟨t.fD, t.fM, t.fRoot, []⟩ = tDisk.cost t.fD + 0 := rfl
    omega
  have c1 := C_impl_onDisk_eq t p1
  have c2 := C_impl_PagesOf_eq ⟨t.fD, t.fM, t.fRoot, []⟩ t.fM.fRoot ⟨hco, rfl, p2⟩
  have hpl := walkF_len ⟨t.fD, ⟨0, 0⟩, 0, []⟩ rfl t.fM.fRoot p2
  rw [pagesOf_disk t.fD t.fM ⟨0, 0⟩ t.fRoot 0] at c2
  simp only [List.map_nil] at c2
  simp only [TTxn.row, List.map_nil] at c1
  simp only [go_sem, Nat.reduceBEq, Nat.reduceAdd, Nat.reduceLeDiff, s_impl_FreeOf, TTxn.row, tTxn_enc, h1, c1, h2, c2]
  refine (wl_count (t.fD.fSecs.length - 2) (fun k e h => e 1 = .ptr 0 0 ∧ e 3 = .imm ((pagesOf ⟨t.fD, ⟨0, 0⟩, 0, []⟩ t.fM.fRoot).map intT.row) ∧ e 5 = .int .i64 ((k : Int) + 2) ∧ h.hp 0 = some t.row ∧ grows intT (freeK t k) (e 4) h) (.exit 0) (fun e h => Ev.frz (e 4) = some (.imm ((freeOf t).map intT.row))) ?_ ?_ (by simp) (t.fD.fSecs.length - 2) 0 _ _ (by omega) ?_).mono ?_
  · rintro k e h hk ⟨q1, q3, q5, qh, gx⟩
    have hc : (k : Int) + 2 < (t.fD.fSecs.length : Int) := by omega
    have g3 := C_impl_hasInt_eq (pagesOf ⟨t.fD, ⟨0, 0⟩, 0, []⟩ t.fM.fRoot) ((k : Int) + 2) (by omega)
    have g4 := C_impl_newAt_eq t ((k : Int) + 2) p1
    have hfa := find_any ((k : Int) + 2) t.fNew []
    have htk : (hasI (pagesOf ⟨t.fD, ⟨0, 0⟩, 0, []⟩ t.fM.fRoot) ((k : Int) + 2) || t.fNew.any fun f => f.fN == (k : Int) + 2) = takenB t ((k : Int) + 2) := rfl
    generalize (earlyL (newFindI ((k : Int) + 2)) [] t.fNew).getD (-1) = na at *
    have hw : IntKind.wrap .i64 ((k : Int) + 2 + 1) = ((k + 1 : Nat) : Int) + 2 := by rw [wrapId (by omega) (by omega)]; omega
    have hsu := freeK_succ t k
    have hfl := freeK_len t k
    simp only [TTxn.row] at qh
    have f1 : fillR (List.replicate 1 [AV.int IntKind.i64 0]) 1 [(0, .int .i64 ((k : Int) + 2))] = some [[.int .i64 ((k : Int) + 2)]] := rfl
    have f2 : frzRows [[AV.int IntKind.i64 ((k : Int) + 2)]] = some [[.int .i64 ((k : Int) + 2)]] := rfl
    cases hb : hasI (pagesOf ⟨t.fD, ⟨0, 0⟩, 0, []⟩ t.fM.fRoot) ((k : Int) + 2) with
    | true =>
      rw [hb] at g3 htk
      simp only [Bool.true_or] at htk
      rw [← htk] at hsu
      simp only [if_true, List.append_nil] at hsu
      simp only [go_sem, Nat.reduceBEq, s_impl_FreeOf_L0, q1, q3, q5, qh, hc, h3, deepC_false, g3, hw]
      exact ⟨by simp only [TTxn.row], by rw [hsu]; exact gx⟩
    | false =>
      rw [hb] at g3 htk
      simp only [Bool.false_or] at htk
      rcases hfa with ⟨y1, y2⟩ | ⟨y1, y2⟩
      · rw [y1] at htk
        rw [← htk] at hsu
        simp only [if_true, List.append_nil] at hsu
        have hn : decide (na < 0) = false := decide_eq_false (by omega)
        simp only [go_sem, Nat.reduceBEq, Nat.reduceAdd, s_impl_FreeOf_L0, q1, q3, q5, qh, hc, h3, deepC_false, g3, h4, g4, TTxn.row, hn, hw]
        rw [hsu]; exact gx
      · rw [y1] at htk
        rw [← htk] at hsu
        simp only [Bool.false_eq_true, if_false] at hsu
        have hn : decide (na < 0) = true := decide_eq_true y2
        simp only [go_sem, Nat.reduceBEq, Nat.reduceAdd, s_impl_FreeOf_L0, q1, q3, q5, qh, hc, h3, deepC_false, g3, h4, g4, TTxn.row, hn, f1, f2]
        refine hP_grow [(k : Int) + 2] rfl (gx.mono (by simp only []; omega) fun r hr => by have n3 : ¬ r = h.nx := (by omega); simp [n3]) rfl (by simp only [List.length_cons, List.length_nil]; unfold room; omega) ?_
        intro v' h'' g1 g2 g5 g6
        have i0 : h''.hp 0 = _ := (congrFun g2 0).trans qh
        simp only [go_sem, Nat.reduceBEq, q1, q3, q5, i0, hw]
        rw [hsu]; exact g1
  · rintro e h ⟨q1, q3, q5, qh, gx⟩
    have hc : ¬ ((t.fD.fSecs.length - 2 : Nat) : Int) + 2 < (t.fD.fSecs.length : Int) := by omega
    simp only [TTxn.row] at qh
    simp only [go_sem, Nat.reduceBEq, s_impl_FreeOf_L0, q1, q3, q5, qh, hc]
    exact grows_frz gx
  · refine ⟨by simp only [go_sem, Nat.reduceBEq], by simp only [go_sem, Nat.reduceBEq], by simp only [go_sem, Nat.reduceBEq]; rfl, by simp only [go_sem, TTxn.row], .inl ⟨rfl, by simp only [go_sem, Nat.reduceBEq]⟩⟩
  · rintro x e h ⟨rfl, j⟩
    simp only [go_sem, Nat.reduceBEq]
    exact frzE_of j
noncomputable def C_impl_NoLeak := c1 tEng (fun (x : TEng) => tEng.good x) (.bool) fun (x : TEng) => noLeak x.fD
theorem C_impl_NoLeak_eq (x : TEng) (h : tEng.good x) : C_impl_NoLeak [.agg [.imm (x.fS.map TDef.row), .imm (x.fD.fSecs.map (sliceT u8T).row), .imm (x.fD.fCache.map TWrite.row), .int .i64 x.fD.fOps, .imm (x.fD.fFaults.map TFault.row), .bool x.fD.fDown]] = some (.bool ((noLeak x.fD))) := c1_eq tEng h
theorem ok_impl_NoLeak {WI : World → Prop} (hs : Stable WI) (cs) (hT : TOK (EE cs) WI) (h1 : (EE cs).T 21 = some C_impl_TxNew) (h2 : (EE cs).T 22 = some C_impl_PagesOf) (h3 : (EE cs).T 30 = some C_impl_FreeOf) (h4 : (EE cs).T 31 = some C_impl_hasInt) : PureOK Tryz.prog WI 11 C_impl_NoLeak := by
  refine pure1 (E := EE cs) hT hs (by rw [st_impl_NoLeak]; rfl) fun x hp => out_wp (n := 0) (st_impl_NoLeak cs) ?_
  have hd : tDisk.cost x.fD ≤ 1048576 := by
    have h0 := hp.1
    have e0 : tEng.cost x = (sliceT tDef).cost x.fS + tDisk.cost x.fD := rfl
    omega
  have hsl : x.fD.fSecs.length ≤ 1048576 := by
    have a0 : tDisk.cost x.fD = (sliceT (sliceT u8T)).cost x.fD.fSecs + (sliceT tWrite).cost x.fD.fCache + (sliceT tFault).cost x.fD.fFaults := rfl
    have a1 : (sliceT (sliceT u8T)).cost x.fD.fSecs = x.fD.fSecs.length + costL (sliceT u8T) x.fD.fSecs := rfl
    omega
  have c1 := C_impl_TxNew_eq x.fD hd
  have ht := txNew_cost hd
  have hr := txNew_root x.fD
  have hr2 : (txNew x.fD).fRoot = 0 ∨ (txNew x.fD).fRoot ∈ secs := by rw [txNew_same]; exact hr
  have c2 := C_impl_PagesOf_eq (txNew x.fD) (txNew x.fD).fRoot ⟨ht, txNew_new _, hr2⟩
  have c3 := C_impl_FreeOf_eq (txNew x.fD) ⟨ht, hr⟩
  have l2 := walkF_len (txNew x.fD) (txNew_new _) (txNew x.fD).fRoot hr2
  have l3 : (freeOf (txNew x.fD)).length ≤ 1048576 := by
    have e := freeK_len (txNew x.fD) ((txNew x.fD).fD.fSecs.length - 2)
    have e2 : (txNew x.fD).fD.fSecs.length ≤ 1048576 := by
      unfold txNew
      split
      · exact hsl
      · decide
    unfold freeOf
    omega
  have hP : ∀ k, leakP x.fD k = !(hasI (pagesOf (txNew x.fD) (txNew x.fD).fRoot) ((k : Int) + 2) == hasI (freeOf (txNew x.fD)) ((k : Int) + 2)) := fun _ => rfl
  generalize txNew x.fD = t at *
  have b1 : ((false : Bool) == true) = false := rfl
  have b2 : ((true : Bool) == false) = false := rfl
  simp only [go_sem, kSt_ptr, Nat.reduceBEq, Nat.reduceAdd, Nat.reduceLeDiff, s_impl_NoLeak, TEng.row, tEng_enc, TTxn.row, h1, c1, h2, c2, h3, c3]
  refine (wl_all (l := List.range (x.fD.fSecs.length - 2)) (fun _ v => leakP x.fD v) (fun pre e h => e 1 = .ptr 0 0 ∧ e 4 = .imm ((pagesOf t t.fRoot).map intT.row) ∧ e 5 = .imm ((freeOf t).map intT.row) ∧ e 6 = .int .i64 ((pre.length : Int) + 2) ∧ h.hp 0 = some x.row) (.exit 0) (fun e h => True) (fun e h => e 2 = .bool false) (by simp; omega) ?_ ?_ ?_ (by simp) (List.range (x.fD.fSecs.length - 2)) [] _ _ rfl ?_).mono ?_
  · rintro pre v rest e h a hp ⟨q1, q4, q5, q6, qh⟩
    have hv := range_at a.hl
    subst hv
    have hlt := a.lt
    simp only [List.length_range] at hlt
    have hc : (pre.length : Int) + 2 < (x.fD.fSecs.length : Int) := by omega
    have g1 := C_impl_hasInt_eq (pagesOf t t.fRoot) ((pre.length : Int) + 2) (by omega)
    have g2 := C_impl_hasInt_eq (freeOf t) ((pre.length : Int) + 2) l3
    have hw : IntKind.wrap .i64 ((pre.length : Int) + 2 + 1) = (pre.length : Int) + 1 + 2 := by rw [wrapId (by omega) (by omega)]; omega
    have hpl : ((pre ++ [pre.length]).length : Int) = (pre.length : Int) + 1 := by simp
    rw [hP] at hp
    simp only [TEng.row] at qh
    cases d1 : hasI (pagesOf t t.fRoot) ((pre.length : Int) + 2) <;> cases d2 : hasI (freeOf t) ((pre.length : Int) + 2) <;> rw [d1, d2] at hp <;> rw [d1] at g1 <;> rw [d2] at g2 <;> first | (cases hp; done) | (simp only [go_sem, Nat.reduceBEq, Nat.reduceAdd, Nat.reduceLeDiff, s_impl_NoLeak_L0, q1, q4, q5, q6, qh, hc, h4, deepC_false, g1, g2, b1, b2, hw, hpl, TEng.row])
  · rintro pre v rest e h a hp ⟨q1, q4, q5, q6, qh⟩
    have hv := range_at a.hl
    subst hv
    have hlt := a.lt
    simp only [List.length_range] at hlt
    have hc : (pre.length : Int) + 2 < (x.fD.fSecs.length : Int) := by omega
    have g1 := C_impl_hasInt_eq (pagesOf t t.fRoot) ((pre.length : Int) + 2) (by omega)
    have g2 := C_impl_hasInt_eq (freeOf t) ((pre.length : Int) + 2) l3
    rw [hP] at hp
    simp only [TEng.row] at qh
    cases d1 : hasI (pagesOf t t.fRoot) ((pre.length : Int) + 2) <;> cases d2 : hasI (freeOf t) ((pre.length : Int) + 2) <;> rw [d1, d2] at hp <;> rw [d1] at g1 <;> rw [d2] at g2 <;> first | (cases hp; done) | (simp only [go_sem, Nat.reduceBEq, Nat.reduceAdd, Nat.reduceLeDiff, s_impl_NoLeak_L0, q1, q4, q5, q6, qh, hc, h4, deepC_false, g1, g2])
  · rintro e h ⟨q1, q4, q5, q6, qh⟩
    have hc : ¬ (((List.range (x.fD.fSecs.length - 2)).length : Nat) : Int) + 2 < (x.fD.fSecs.length : Int) := by simp only [List.length_range]; omega
    simp only [TEng.row] at qh
    simp only [go_sem, Nat.reduceBEq, Nat.reduceAdd, Nat.reduceLeDiff, s_impl_NoLeak_L0, q1, q4, q6, qh, hc]
  · simp only [go_sem, Nat.reduceBEq, TEng.row]
    first | done | rfl | simp
  · rintro y e h (⟨hpp, rfl, _⟩ | ⟨hpp, rfl, j⟩)
    · rw [allP_all] at hpp
      simp only [go_sem, noLeak, hpp]
    · rw [allP_all] at hpp
      simp only [go_sem, j, noLeak, hpp]
theorem ok_laws_eqCol {WI : World → Prop} (hs : Stable WI) (cs) (hT : TOK (EE cs) WI)  : PureOK Tryz.prog WI 115 (eqC tCol) := by
  refine pureEq (E := EE cs) hT hs (by rw [st_laws_eqCol]; rfl) fun v hc => out_K (n := 0) (st_laws_eqCol cs) ?_
  have hcost : tCol.cost v = v.fName.length := rfl
  simp only [go_sem, Nat.reduceBEq, Nat.reduceAdd, Nat.reduceLeDiff, s_laws_eqCol, TCol.row]
theorem ok_laws_eqColS {WI : World → Prop} (hs : Stable WI) (cs) (hT : TOK (EE cs) WI) (h0 : (EE cs).T 115 = some (eqC tCol)) : PureOK Tryz.prog WI 90 (eqC (sliceT tCol)) := eqS_ok (E := EE cs) (T := tCol) hT hs h0 (st_laws_eqColS cs)
theorem ok_laws_eqBy {WI : World → Prop} (hs : Stable WI) (cs) (hT : TOK (EE cs) WI)  : PureOK Tryz.prog WI 116 (eqC tBy) := by
  refine pureEq (E := EE cs) hT hs (by rw [st_laws_eqBy]; rfl) fun v hc => out_K (n := 0) (st_laws_eqBy cs) ?_
  have hcost : tBy.cost v = 0 := rfl
  simp only [go_sem, Nat.reduceBEq, Nat.reduceAdd, Nat.reduceLeDiff, s_laws_eqBy, TBy.row]
theorem ok_laws_eqByS {WI : World → Prop} (hs : Stable WI) (cs) (hT : TOK (EE cs) WI) (h0 : (EE cs).T 116 = some (eqC tBy)) : PureOK Tryz.prog WI 91 (eqC (sliceT tBy)) := eqS_ok (E := EE cs) (T := tBy) hT hs h0 (st_laws_eqByS cs)
theorem ok_laws_eqIndex {WI : World → Prop} (hs : Stable WI) (cs) (hT : TOK (EE cs) WI) (h0 : (EE cs).T 91 = some (eqC (sliceT tBy))) : PureOK Tryz.prog WI 117 (eqC tIndex) := by
  refine pureEq (E := EE cs) hT hs (by rw [st_laws_eqIndex]; rfl) fun v hc => out_K (n := 0) (st_laws_eqIndex cs) ?_
  have hcost : tIndex.cost v = v.fName.length + (sliceT tBy).cost v.fParts := rfl
  have c2 : eqC (sliceT tBy) [.imm (v.fParts.map TBy.row), .imm (v.fParts.map TBy.row)] = some (.bool true) := eqC_eq (sliceT tBy) (by omega)
  simp only [go_sem, Nat.reduceBEq, Nat.reduceAdd, Nat.reduceLeDiff, s_laws_eqIndex, TIndex.row, h0, c2]
theorem ok_laws_eqIndexS {WI : World → Prop} (hs : Stable WI) (cs) (hT : TOK (EE cs) WI) (h0 : (EE cs).T 117 = some (eqC tIndex)) : PureOK Tryz.prog WI 92 (eqC (sliceT tIndex)) := eqS_ok (E := EE cs) (T := tIndex) hT hs h0 (st_laws_eqIndexS cs)
theorem ok_laws_eqDef {WI : World → Prop} (hs : Stable WI) (cs) (hT : TOK (EE cs) WI) (h0 : (EE cs).T 90 = some (eqC (sliceT tCol))) (h1 : (EE cs).T 91 = some (eqC (sliceT tBy))) (h2 : (EE cs).T 92 = some (eqC (sliceT tIndex))) : PureOK Tryz.prog WI 54 (eqC tDef) := by
  refine pureEq (E := EE cs) hT hs (by rw [st_laws_eqDef]; rfl) fun v hc => out_K (n := 0) (st_laws_eqDef cs) ?_
  have hcost : tDef.cost v = v.fName.length + (sliceT tCol).cost v.fCols + (sliceT tBy).cost v.fPrimary + (sliceT tIndex).cost v.fIndexes := rfl
  have c1 : eqC (sliceT tCol) [.imm (v.fCols.map TCol.row), .imm (v.fCols.map TCol.row)] = some (.bool true) := eqC_eq (sliceT tCol) (by omega)
  have c2 : eqC (sliceT tBy) [.imm (v.fPrimary.map TBy.row), .imm (v.fPrimary.map TBy.row)] = some (.bool true) := eqC_eq (sliceT tBy) (by omega)
  have c3 : eqC (sliceT tIndex) [.imm (v.fIndexes.map TIndex.row), .imm (v.fIndexes.map TIndex.row)] = some (.bool true) := eqC_eq (sliceT tIndex) (by omega)
  simp only [go_sem, Nat.reduceBEq, Nat.reduceAdd, Nat.reduceLeDiff, s_laws_eqDef, TDef.row, h0, h1, h2, c1, c2, c3]
end Go.Proofs.YtmfkjlnhanomfaaGreat.Nl
/- What the functions that FnExactNoLeak calls answer: part 21. -/
namespace Go.Proofs.YtmfkjlnhanomfaaGreat.Nl
open Go Go.RowKit Go.Ev
set_option linter.unusedSimpArgs false
set_option linter.unusedVariables false
set_option maxHeartbeats 1600000
theorem ok_laws_eqDefS {WI : World → Prop} (hs : Stable WI) (cs) (hT : TOK (EE cs) WI) (h0 : (EE cs).T 54 = some (eqC tDef)) : PureOK Tryz.prog WI 26 (eqC (sliceT tDef)) := eqS_ok (E := EE cs) (T := tDef) hT hs h0 (st_laws_eqDefS cs)
theorem ok_laws_eqByteS {WI : World → Prop} (hs : Stable WI) (cs) (hT : TOK (EE cs) WI)  : PureOK Tryz.prog WI 93 (eqC (sliceT u8T)) := ecS_ok (E := EE cs) (T := u8T) hT hs rfl neq_u8 (st_laws_eqByteS cs)
theorem ok_laws_eqByteSS {WI : World → Prop} (hs : Stable WI) (cs) (hT : TOK (EE cs) WI) (h0 : (EE cs).T 93 = some (eqC (sliceT u8T))) : PureOK Tryz.prog WI 55 (eqC (sliceT (sliceT u8T))) := eqS_ok (E := EE cs) (T := (sliceT u8T)) hT hs h0 (st_laws_eqByteSS cs)
theorem ok_laws_eqWrite {WI : World → Prop} (hs : Stable WI) (cs) (hT : TOK (EE cs) WI) (h0 : (EE cs).T 93 = some (eqC (sliceT u8T))) : PureOK Tryz.prog WI 94 (eqC tWrite) := by
  refine pureEq (E := EE cs) hT hs (by rw [st_laws_eqWrite]; rfl) fun v hc => out_K (n := 0) (st_laws_eqWrite cs) ?_
  have hcost : tWrite.cost v = (sliceT u8T).cost v.fB := rfl
  have c1 : eqC (sliceT u8T) [.imm (v.fB.map u8T.row), .imm (v.fB.map u8T.row)] = some (.bool true) := eqC_eq (sliceT u8T) (by omega)
  simp only [go_sem, Nat.reduceBEq, Nat.reduceAdd, Nat.reduceLeDiff, s_laws_eqWrite, TWrite.row, h0, c1]
theorem ok_laws_eqWriteS {WI : World → Prop} (hs : Stable WI) (cs) (hT : TOK (EE cs) WI) (h0 : (EE cs).T 94 = some (eqC tWrite)) : PureOK Tryz.prog WI 56 (eqC (sliceT tWrite)) := eqS_ok (E := EE cs) (T := tWrite) hT hs h0 (st_laws_eqWriteS cs)
theorem ok_laws_eqFault {WI : World → Prop} (hs : Stable WI) (cs) (hT : TOK (EE cs) WI)  : PureOK Tryz.prog WI 95 (eqC tFault) := by
  refine pureEq (E := EE cs) hT hs (by rw [st_laws_eqFault]; rfl) fun v hc => out_K (n := 0) (st_laws_eqFault cs) ?_
  have hcost : tFault.cost v = 0 := rfl
  simp only [go_sem, Nat.reduceBEq, Nat.reduceAdd, Nat.reduceLeDiff, s_laws_eqFault, TFault.row]
theorem ok_laws_eqFaultS {WI : World → Prop} (hs : Stable WI) (cs) (hT : TOK (EE cs) WI) (h0 : (EE cs).T 95 = some (eqC tFault)) : PureOK Tryz.prog WI 57 (eqC (sliceT tFault)) := eqS_ok (E := EE cs) (T := tFault) hT hs h0 (st_laws_eqFaultS cs)
theorem ok_laws_eqDisk {WI : World → Prop} (hs : Stable WI) (cs) (hT : TOK (EE cs) WI) (h0 : (EE cs).T 55 = some (eqC (sliceT (sliceT u8T)))) (h1 : (EE cs).T 56 = some (eqC (sliceT tWrite))) (h2 : (EE cs).T 57 = some (eqC (sliceT tFault))) : PureOK Tryz.prog WI 27 (eqC tDisk) := by
  refine pureEq (E := EE cs) hT hs (by rw [st_laws_eqDisk]; rfl) fun v hc => out_K (n := 0) (st_laws_eqDisk cs) ?_
  have hcost : tDisk.cost v = (sliceT (sliceT u8T)).cost v.fSecs + (sliceT tWrite).cost v.fCache + (sliceT tFault).cost v.fFaults := rfl
  have c0 : eqC (sliceT (sliceT u8T)) [.imm (v.fSecs.map (sliceT u8T).row), .imm (v.fSecs.map (sliceT u8T).row)] = some (.bool true) := eqC_eq (sliceT (sliceT u8T)) (by omega)
  have c1 : eqC (sliceT tWrite) [.imm (v.fCache.map TWrite.row), .imm (v.fCache.map TWrite.row)] = some (.bool true) := eqC_eq (sliceT tWrite) (by omega)
  have c3 : eqC (sliceT tFault) [.imm (v.fFaults.map TFault.row), .imm (v.fFaults.map TFault.row)] = some (.bool true) := eqC_eq (sliceT tFault) (by omega)
  simp only [go_sem, Nat.reduceBEq, Nat.reduceAdd, Nat.reduceLeDiff, s_laws_eqDisk, TDisk.row, h0, h1, h2, c0, c1, c3]
theorem ok_laws_eqEng {WI : World → Prop} (hs : Stable WI) (cs) (hT : TOK (EE cs) WI) (h0 : (EE cs).T 26 = some (eqC (sliceT tDef))) (h1 : (EE cs).T 27 = some (eqC tDisk)) : PureOK Tryz.prog WI 9 (eqC tEng) := by
  refine pureEq (E := EE cs) hT hs (by rw [st_laws_eqEng]; rfl) fun v hc => out_K (n := 0) (st_laws_eqEng cs) ?_
  have hcost : tEng.cost v = (sliceT tDef).cost v.fS + tDisk.cost v.fD := rfl
  have c0 : eqC (sliceT tDef) [.imm (v.fS.map TDef.row), .imm (v.fS.map TDef.row)] = some (.bool true) := eqC_eq (sliceT tDef) (by omega)
  have c1 : eqC tDisk [.agg [.imm (v.fD.fSecs.map (sliceT u8T).row), .imm (v.fD.fCache.map TWrite.row), .int .i64 v.fD.fOps, .imm (v.fD.fFaults.map TFault.row), .bool v.fD.fDown], .agg [.imm (v.fD.fSecs.map (sliceT u8T).row), .imm (v.fD.fCache.map TWrite.row), .int .i64 v.fD.fOps, .imm (v.fD.fFaults.map TFault.row), .bool v.fD.fDown]] = some (.bool true) := eqC_eq tDisk (by omega)
  simp only [go_sem, Nat.reduceBEq, Nat.reduceAdd, Nat.reduceLeDiff, s_laws_eqEng, TEng.row, h0, h1, c0, c1]
end Go.Proofs.YtmfkjlnhanomfaaGreat.Nl
/- The law FnExactNoLeak, by what its functions answer. -/
namespace Go.Proofs.YtmfkjlnhanomfaaGreat.Nl
open Go Go.RowKit Go.Ev
set_option linter.unusedSimpArgs false
set_option linter.unusedVariables false
set_option maxHeartbeats 1600000
set_option maxRecDepth 100000
theorem ev_law (cs) (h0 : (EE cs).T 5 = some (szC tEng)) (h1 : (EE cs).T 7 = some (toC tEng)) (h2 : (EE cs).T 10 = some C_spec_NoLeak) (h3 : (EE cs).T 11 = some C_impl_NoLeak) (h4 : (EE cs).T 9 = some (eqC tEng)) (v0 : TEng) (f0 : tEng.fits v0) (o0 : tEng.ok v0) : ∃ k n, out (EE cs) k n 4 [tEng.enc v0] = some (.bool true) := by
  refine out_K (n := 0) (st_laws_FnExactNoLeak cs) ?_
  have c0 : szC tEng [.agg [.imm (v0.fS.map TDef.row), .imm (v0.fD.fSecs.map (sliceT u8T).row), .imm (v0.fD.fCache.map TWrite.row), .int .i64 v0.fD.fOps, .imm (v0.fD.fFaults.map TFault.row), .bool v0.fD.fDown], .int .i64 (1048576)] = some (.int .i64 (szR (tEng.cost v0) (1048576))) := szC_eq tEng ⟨f0, by omega, by omega⟩
  by_cases n0 : szR (tEng.cost v0) (1048576) < 0
  · obtain ⟨e0, e0'⟩ := szR_neg n0 (by omega)
    simp only [go_sem, Nat.reduceBEq, Nat.reduceAdd, Int.reduceLT, s_laws_FnExactNoLeak, TEng.row, h0, c0, e0]
  obtain ⟨e0, n0'⟩ := szR_pos n0
  have g0 : tEng.good v0 := ⟨by omega, o0⟩
  have t0 : toC tEng [.agg [.imm (v0.fS.map TDef.row), .imm (v0.fD.fSecs.map (sliceT u8T).row), .imm (v0.fD.fCache.map TWrite.row), .int .i64 v0.fD.fOps, .imm (v0.fD.fFaults.map TFault.row), .bool v0.fD.fDown]] = some (.agg [.imm (v0.fS.map TDef.row), .imm (v0.fD.fSecs.map (sliceT u8T).row), .imm (v0.fD.fCache.map TWrite.row), .int .i64 v0.fD.fOps, .imm (v0.fD.fFaults.map TFault.row), .bool v0.fD.fDown]) := toC_eq tEng g0.1
  have u0 : eqC tEng [.agg [.imm (v0.fS.map TDef.row), .imm (v0.fD.fSecs.map (sliceT u8T).row), .imm (v0.fD.fCache.map TWrite.row), .int .i64 v0.fD.fOps, .imm (v0.fD.fFaults.map TFault.row), .bool v0.fD.fDown], .agg [.imm (v0.fS.map TDef.row), .imm (v0.fD.fSecs.map (sliceT u8T).row), .imm (v0.fD.fCache.map TWrite.row), .int .i64 v0.fD.fOps, .imm (v0.fD.fFaults.map TFault.row), .bool v0.fD.fDown]] = some (.bool true) := eqC_eq tEng g0.1
  have a0 := C_spec_NoLeak_eq v0 g0
  have a1 := C_impl_NoLeak_eq v0 g0
  simp only [go_sem, kSt_ptr, Nat.reduceBEq, Nat.reduceAdd, s_laws_FnExactNoLeak, TEng.row, h0, h1, h2, h3, h4, c0, e0, n0', t0, u0, a0, a1]
noncomputable def C_law := c1 tEng (fun v0 => (tEng.fits v0 ∧ tEng.ok v0)) .bool fun _ => true
theorem ok_law {WI : World → Prop} (hs : Stable WI) (cs) (hT : TOK (EE cs) WI) (h0 : (EE cs).T 5 = some (szC tEng)) (h1 : (EE cs).T 7 = some (toC tEng)) (h2 : (EE cs).T 10 = some C_spec_NoLeak) (h3 : (EE cs).T 11 = some C_impl_NoLeak) (h4 : (EE cs).T 9 = some (eqC tEng)) : PureOK Tryz.prog WI 4 C_law :=
  pure1 (E := EE cs) hT hs (by rw [st_laws_FnExactNoLeak]; rfl) fun v0 ⟨f0, o0⟩ => ev_law cs  h0 h1 h2 h3 h4 v0 f0 o0
section
variable {WI : World → Prop} (hs : Stable WI)
include hs
theorem law_ok (p_sort_Ints : SortOK Tryz.prog WI 48 C_sort_Ints) : PureOK Tryz.prog WI 4 C_law := by
  have t0 : TOK (EE []) WI := tok_nil (entB_spec entered)
  have t1 := tok_cons rfl rfl (ok_laws_szCol hs _ t0) t0
  have t2 := tok_cons rfl rfl (ok_laws_szColS hs _ t1 rfl) t1
  have t3 := tok_cons rfl rfl (ok_laws_szByS hs _ t2) t2
  have t4 := tok_cons rfl rfl (ok_laws_szIndex hs _ t3 rfl) t3
  have t5 := tok_cons rfl rfl (ok_laws_szIndexS hs _ t4 rfl) t4
  have t6 := tok_cons rfl rfl (ok_laws_szDef hs _ t5 rfl rfl rfl) t5
  have t7 := tok_cons rfl rfl (ok_laws_szDefS hs _ t6 rfl) t6
  have t8 := tok_cons rfl rfl (ok_laws_szByteS hs _ t7) t7
  have t9 := tok_cons rfl rfl (ok_laws_szByteSS hs _ t8 rfl) t8
  have t10 := tok_cons rfl rfl (ok_laws_szWrite hs _ t9 rfl) t9
  have t11 := tok_cons rfl rfl (ok_laws_szWriteS hs _ t10 rfl) t10
  have t12 := tok_cons rfl rfl (ok_laws_szFaultS hs _ t11) t11
  have t13 := tok_cons rfl rfl (ok_laws_szDisk hs _ t12 rfl rfl rfl) t12
  have t14 := tok_cons rfl rfl (ok_laws_szEng hs _ t13 rfl rfl) t13
  have t15 := tok_cons rfl rfl (ok_laws_toCol hs _ t14) t14
  have t16 := tok_cons rfl rfl (ok_laws_toColS hs _ t15 rfl) t15
  have t17 := tok_cons rfl rfl (ok_laws_toBy hs _ t16) t16
  have t18 := tok_cons rfl rfl (ok_laws_toByS hs _ t17 rfl) t17
  have t19 := tok_cons rfl rfl (ok_laws_toIndex hs _ t18 rfl) t18
  have t20 := tok_cons rfl rfl (ok_laws_toIndexS hs _ t19 rfl) t19
  have t21 := tok_cons rfl rfl (ok_laws_toDef hs _ t20 rfl rfl rfl) t20
  have t22 := tok_cons rfl rfl (ok_laws_toDefS hs _ t21 rfl) t21
  have t23 := tok_cons rfl rfl (ok_laws_toByteS hs _ t22) t22
  have t24 := tok_cons rfl rfl (ok_laws_toByteSS hs _ t23 rfl) t23
  have t25 := tok_cons rfl rfl (ok_laws_toWrite hs _ t24 rfl) t24
  have t26 := tok_cons rfl rfl (ok_laws_toWriteS hs _ t25 rfl) t25
  have t27 := tok_cons rfl rfl (ok_laws_toFault hs _ t26) t26
  have t28 := tok_cons rfl rfl (ok_laws_toFaultS hs _ t27 rfl) t27
  have t29 := tok_cons rfl rfl (ok_laws_toDisk hs _ t28 rfl rfl rfl) t28
  have t30 := tok_cons rfl rfl (ok_laws_toEng hs _ t29 rfl rfl) t29
  have t31 := tok_cons rfl rfl (ok_spec_l16Has hs _ t30) t30
  have t32 := tok_cons rfl rfl (ok_spec_l1In hs _ t31) t31
  have t33 := tok_cons rfl rfl (ok_spec_ReadSec hs _ t32 rfl) t32
  have t34 := tok_cons rfl rfl (ok_spec_Crc hs _ t33) t33
  have t35 := tok_cons rfl rfl (ok_spec_GetSum hs _ t34 rfl) t34
  have t36 := tok_cons rfl rfl (ok_spec_GetU hs _ t35) t35
  have t37 := tok_cons rfl rfl (ok_spec_GetText hs _ t36 rfl) t36
  have t38 := tok_cons rfl rfl (ok_spec_GetPage hs _ t37 rfl rfl rfl rfl) t37
  have t39 := tok_cons rfl rfl (ok_spec_MetaOk hs _ t38 rfl) t38
  have t40 := tok_cons rfl rfl (ok_spec_GetMeta hs _ t39 rfl rfl rfl) t39
  have t41 := tok_cons rfl rfl (ok_spec_BestMeta hs _ t40 rfl rfl) t40
  have t42 := tok_cons rfl rfl (ok_spec_l12Copy hs _ t41) t41
  have t43 := tok_cons rfl rfl (ok_spec_TxNew hs _ t42 rfl rfl) t42
  have t44 := tok_cons rfl rfl (ok_spec_l14Copy hs _ t43) t43
  have t45 := tok_cons rfl rfl (ok_spec_PageAt hs _ t44 rfl rfl) t44
  have t46 := tok_cons rfl rfl (ok_spec_l14Rising hs _ t45) t45
  have t47 := tok_consF rfl rfl (ok_spec_PutU hs _ t46) t46
  have t48 := tok_consF rfl rfl (ok_spec_PutText hs _ t47 rfl) t47
  have t49 := tok_cons rfl rfl (ok_spec_l14Put hs _ t48 rfl rfl) t48
  have t50 := tok_cons rfl rfl (ok_spec_SizeOf hs _ t49 rfl) t49
  have t51 := tok_cons rfl rfl (ok_spec_NodeOk hs _ t50 rfl rfl rfl) t50
  have t52 := tok_cons rfl rfl (ok_spec_GetNode hs _ t51 rfl rfl rfl) t51
  have t53 := tok_cons rfl rfl (ok_spec_l16Disk hs _ t52 rfl rfl) t52
  have t54 := tok_cons rfl rfl (ok_spec_NodeAt hs _ t53 rfl rfl) t53
  have t55 := tok_cons rfl rfl (ok_spec_l16Put hs _ t54 rfl) t54
  have t56 := tok_cons rfl rfl (ok_spec_l16Walk hs _ t55 rfl rfl rfl) t55
  have t57 := tok_cons rfl rfl (ok_spec_PagesOf hs _ t56 rfl) t56
  have t58 := tok_cons rfl rfl (ok_spec_FreeOf hs _ t57 rfl rfl) t57
  have t59 := tok_cons rfl rfl (ok_spec_NoLeak hs _ t58 rfl rfl rfl rfl) t58
  have t60 := tok_consR rfl (ok_impl_hasInt hs _ t59) t59
  have t61 := tok_cons rfl rfl (ok_impl_in hs _ t60) t60
  have t62 := tok_cons rfl rfl (ok_impl_ReadSec hs _ t61 rfl) t61
  have t63 := tok_consR rfl (ok_impl_Crc hs _ t62) t62
  have t64 := tok_consO rfl (ok_impl_PutSum hs _ t63 rfl) t63
  have t65 := tok_cons rfl rfl (ok_impl_GetSum hs _ t64 rfl) t64
  have t66 := tok_cons rfl rfl (ok_impl_GetU hs _ t65) t65
  have t67 := tok_cons rfl rfl (ok_impl_GetText hs _ t66 rfl) t66
  have t68 := tok_cons rfl rfl (ok_impl_clamp hs _ t67) t67
  have t69 := tok_consO rfl (ok_impl_PutPage hs _ t68 rfl rfl rfl) t68
  have t70 := tok_cons rfl rfl (ok_impl_GetPage hs _ t69 rfl rfl rfl rfl) t69
  have t71 := tok_cons rfl rfl (ok_impl_isSector hs _ t70 rfl) t70
  have t72 := tok_cons rfl rfl (ok_impl_MetaOk hs _ t71 rfl rfl) t71
  have t73 := tok_consO rfl (ok_impl_PutMeta hs _ t72 rfl rfl rfl) t72
  have t74 := tok_cons rfl rfl (ok_impl_GetMeta hs _ t73 rfl rfl rfl) t73
  have t75 := tok_cons rfl rfl (ok_impl_BestMeta hs _ t74 rfl rfl) t74
  have t76 := tok_consO rfl (ok_impl_copyDisk hs _ t75) t75
  have t77 := tok_cons rfl rfl (ok_impl_TxNew hs _ t76 rfl rfl) t76
  have t78 := tok_cons rfl rfl (ok_impl_newAt hs _ t77) t77
  have t79 := tok_consO rfl (ok_impl_copyNode hs _ t78) t78
  have t80 := tok_cons rfl rfl (ok_impl_PageAt hs _ t79 rfl rfl) t79
  have t81 := tok_consO rfl (ok_impl_bodyOf hs _ t80 rfl) t80
  have t82 := tok_cons rfl rfl (ok_impl_SizeOf hs _ t81 rfl) t81
  have t83 := tok_cons rfl rfl (ok_impl_NodeOk hs _ t82 rfl rfl) t82
  have t84 := tok_cons rfl rfl (ok_impl_PutNode hs _ t83 rfl rfl) t83
  have t85 := tok_cons rfl rfl (ok_impl_GetNode hs _ t84 rfl rfl rfl rfl) t84
  have t86 := tok_cons rfl rfl (ok_impl_NodeAt hs _ t85 rfl rfl rfl rfl) t85
  have t87 := tok_consS rfl p_sort_Ints t86
  have t88 := tok_cons rfl rfl (ok_impl_PagesOf hs _ t87 rfl rfl rfl) t87
  have t89 := tok_cons rfl rfl (ok_impl_onDisk hs _ t88) t88
  have t90 := tok_cons rfl rfl (ok_impl_FreeOf hs _ t89 rfl rfl rfl rfl) t89
  have t91 := tok_cons rfl rfl (ok_impl_NoLeak hs _ t90 rfl rfl rfl rfl) t90
  have t92 := tok_cons rfl rfl (ok_laws_eqCol hs _ t91) t91
  have t93 := tok_cons rfl rfl (ok_laws_eqColS hs _ t92 rfl) t92
  have t94 := tok_cons rfl rfl (ok_laws_eqBy hs _ t93) t93
  have t95 := tok_cons rfl rfl (ok_laws_eqByS hs _ t94 rfl) t94
  have t96 := tok_cons rfl rfl (ok_laws_eqIndex hs _ t95 rfl) t95
  have t97 := tok_cons rfl rfl (ok_laws_eqIndexS hs _ t96 rfl) t96
  have t98 := tok_cons rfl rfl (ok_laws_eqDef hs _ t97 rfl rfl rfl) t97
  have t99 := tok_cons rfl rfl (ok_laws_eqDefS hs _ t98 rfl) t98
  have t100 := tok_cons rfl rfl (ok_laws_eqByteS hs _ t99) t99
  have t101 := tok_cons rfl rfl (ok_laws_eqByteSS hs _ t100 rfl) t100
  have t102 := tok_cons rfl rfl (ok_laws_eqWrite hs _ t101 rfl) t101
  have t103 := tok_cons rfl rfl (ok_laws_eqWriteS hs _ t102 rfl) t102
  have t104 := tok_cons rfl rfl (ok_laws_eqFault hs _ t103) t103
  have t105 := tok_cons rfl rfl (ok_laws_eqFaultS hs _ t104 rfl) t104
  have t106 := tok_cons rfl rfl (ok_laws_eqDisk hs _ t105 rfl rfl rfl) t105
  have t107 := tok_cons rfl rfl (ok_laws_eqEng hs _ t106 rfl rfl) t106
  exact ok_law hs _ t107 rfl rfl rfl rfl rfl
end
theorem shp_Col {n : Nat} {r : List AV} (h : shp Tryz.prog (n + 2) 142 r) : ∃ v : TCol, r = v.row ∧ tCol.fits v ∧ tCol.ok v := by
  obtain ⟨_, _, rfl, z0, _, _, rfl, z1, _, _, rfl, z2, rfl⟩ := shp_struct Tryz.underlying142 h
  obtain ⟨x0, rfl, y0⟩ := shp_str Tryz.underlying9 z0
  obtain ⟨x1, rfl, y1⟩ := shp_int Tryz.underlying3 z1
  obtain ⟨x2, rfl⟩ := shp_bool Tryz.underlying4 z2
  exact ⟨⟨x0, x1, x2⟩, rfl, y0, wf_i64 y1⟩
theorem shp_SCol {n : Nat} {r : List AV} (h : shp Tryz.prog (n + 3) 66 r) : ∃ l : List (TCol), r = (sliceT tCol).row l ∧ (sliceT tCol).fits l ∧ (sliceT tCol).ok l := by
  obtain ⟨rows, rfl, hl, hr⟩ := shp_slice Tryz.underlying66 h
  obtain ⟨l, h1, h2, h3⟩ := rows_of (enc := tCol.row) (p := fun v => tCol.fits v ∧ tCol.ok v) fun r hr' => shp_Col (n := n) (hr r hr')
  subst h1
  exact ⟨l, rfl, ⟨by simpa using hl, fun v hv => (h3 v hv).1⟩, fun v hv => (h3 v hv).2⟩
theorem shp_By {n : Nat} {r : List AV} (h : shp Tryz.prog (n + 2) 158 r) : ∃ v : TBy, r = v.row ∧ tBy.fits v ∧ tBy.ok v := by
  obtain ⟨_, _, rfl, z0, _, _, rfl, z1, rfl⟩ := shp_struct Tryz.underlying158 h
  obtain ⟨x0, rfl, y0⟩ := shp_int Tryz.underlying3 z0
  obtain ⟨x1, rfl⟩ := shp_bool Tryz.underlying4 z1
  exact ⟨⟨x0, x1⟩, rfl, trivial, wf_i64 y0⟩
theorem shp_SBy {n : Nat} {r : List AV} (h : shp Tryz.prog (n + 3) 67 r) : ∃ l : List (TBy), r = (sliceT tBy).row l ∧ (sliceT tBy).fits l ∧ (sliceT tBy).ok l := by
  obtain ⟨rows, rfl, hl, hr⟩ := shp_slice Tryz.underlying67 h
  obtain ⟨l, h1, h2, h3⟩ := rows_of (enc := tBy.row) (p := fun v => tBy.fits v ∧ tBy.ok v) fun r hr' => shp_By (n := n) (hr r hr')
  subst h1
  exact ⟨l, rfl, ⟨by simpa using hl, fun v hv => (h3 v hv).1⟩, fun v hv => (h3 v hv).2⟩
theorem shp_Index {n : Nat} {r : List AV} (h : shp Tryz.prog (n + 4) 145 r) : ∃ v : TIndex, r = v.row ∧ tIndex.fits v ∧ tIndex.ok v := by
  obtain ⟨_, _, rfl, z0, _, _, rfl, z1, _, _, rfl, z2, rfl⟩ := shp_struct Tryz.underlying145 h
  obtain ⟨x0, rfl, y0⟩ := shp_str Tryz.underlying9 z0
  obtain ⟨x1, rfl⟩ := shp_bool Tryz.underlying4 z1
  obtain ⟨x2, rfl, y2, y2'⟩ := shp_SBy (n := n + 0) z2
  exact ⟨⟨x0, x1, x2⟩, rfl, ⟨y0, y2⟩, y2'⟩
theorem shp_SIndex {n : Nat} {r : List AV} (h : shp Tryz.prog (n + 5) 68 r) : ∃ l : List (TIndex), r = (sliceT tIndex).row l ∧ (sliceT tIndex).fits l ∧ (sliceT tIndex).ok l := by
  obtain ⟨rows, rfl, hl, hr⟩ := shp_slice Tryz.underlying68 h
  obtain ⟨l, h1, h2, h3⟩ := rows_of (enc := tIndex.row) (p := fun v => tIndex.fits v ∧ tIndex.ok v) fun r hr' => shp_Index (n := n) (hr r hr')
  subst h1
  exact ⟨l, rfl, ⟨by simpa using hl, fun v hv => (h3 v hv).1⟩, fun v hv => (h3 v hv).2⟩
theorem shp_Def {n : Nat} {r : List AV} (h : shp Tryz.prog (n + 6) 70 r) : ∃ v : TDef, r = v.row ∧ tDef.fits v ∧ tDef.ok v := by
  obtain ⟨_, _, rfl, z0, _, _, rfl, z1, _, _, rfl, z2, _, _, rfl, z3, rfl⟩ := shp_struct Tryz.underlying70 h
  obtain ⟨x0, rfl, y0⟩ := shp_str Tryz.underlying9 z0
  obtain ⟨x1, rfl, y1, y1'⟩ := shp_SCol (n := n + 2) z1
  obtain ⟨x2, rfl, y2, y2'⟩ := shp_SBy (n := n + 2) z2
  obtain ⟨x3, rfl, y3, y3'⟩ := shp_SIndex (n := n + 0) z3
  exact ⟨⟨x0, x1, x2, x3⟩, rfl, ⟨y0, y1, y2, y3⟩, ⟨y1', y2', y3'⟩⟩
theorem shp_SDef {n : Nat} {r : List AV} (h : shp Tryz.prog (n + 7) 22 r) : ∃ l : List (TDef), r = (sliceT tDef).row l ∧ (sliceT tDef).fits l ∧ (sliceT tDef).ok l := by
  obtain ⟨rows, rfl, hl, hr⟩ := shp_slice Tryz.underlying22 h
  obtain ⟨l, h1, h2, h3⟩ := rows_of (enc := tDef.row) (p := fun v => tDef.fits v ∧ tDef.ok v) fun r hr' => shp_Def (n := n) (hr r hr')
  subst h1
  exact ⟨l, rfl, ⟨by simpa using hl, fun v hv => (h3 v hv).1⟩, fun v hv => (h3 v hv).2⟩
theorem u8_of {x : Int} (h : (Lit.int .u8 x).wf = true) : ∃ v : UInt8, [AV.int .u8 x] = u8T.row v ∧ u8T.fits v ∧ u8T.ok v := by
  have hx : 0 ≤ x ∧ x < 256 := by
    have h1 : IntKind.u8.min ≤ x ∧ x ≤ IntKind.u8.max := by simpa [Lit.wf] using h
    have h2 : IntKind.u8.min = 0 := rfl
    have h3 : IntKind.u8.max = 255 := rfl
    omega
  refine ⟨UInt8.ofNat x.toNat, ?_, trivial, trivial⟩
  show [AV.int .u8 x] = [AV.int .u8 ((UInt8.ofNat x.toNat).toNat : Int)]
  rw [UInt8.toNat_ofNat']
  congr 2
  omega
theorem shp_Sbyte {n : Nat} {r : List AV} (h : shp Tryz.prog (n + 2) 82 r) : ∃ l : List (UInt8), r = (sliceT u8T).row l ∧ (sliceT u8T).fits l ∧ (sliceT u8T).ok l := by
  obtain ⟨rows, rfl, hl, hr⟩ := shp_slice Tryz.underlying82 h
  obtain ⟨l, h1, h2, h3⟩ := rows_of (enc := u8T.row) (p := fun v => u8T.fits v ∧ u8T.ok v) fun r hr' => (by obtain ⟨x, rfl, y⟩ := shp_int Tryz.underlying5 (hr r hr'); exact u8_of y)
  subst h1
  exact ⟨l, rfl, ⟨by simpa using hl, fun v hv => (h3 v hv).1⟩, fun v hv => (h3 v hv).2⟩
theorem shp_SSbyte {n : Nat} {r : List AV} (h : shp Tryz.prog (n + 3) 23 r) : ∃ l : List (List (UInt8)), r = (sliceT (sliceT u8T)).row l ∧ (sliceT (sliceT u8T)).fits l ∧ (sliceT (sliceT u8T)).ok l := by
  obtain ⟨rows, rfl, hl, hr⟩ := shp_slice Tryz.underlying23 h
  obtain ⟨l, h1, h2, h3⟩ := rows_of (enc := (sliceT u8T).row) (p := fun v => (sliceT u8T).fits v ∧ (sliceT u8T).ok v) fun r hr' => shp_Sbyte (n := n) (hr r hr')
  subst h1
  exact ⟨l, rfl, ⟨by simpa using hl, fun v hv => (h3 v hv).1⟩, fun v hv => (h3 v hv).2⟩
theorem shp_Write {n : Nat} {r : List AV} (h : shp Tryz.prog (n + 3) 109 r) : ∃ v : TWrite, r = v.row ∧ tWrite.fits v ∧ tWrite.ok v := by
  obtain ⟨_, _, rfl, z0, _, _, rfl, z1, rfl⟩ := shp_struct Tryz.underlying109 h
  obtain ⟨x0, rfl, y0⟩ := shp_int Tryz.underlying3 z0
  obtain ⟨x1, rfl, y1, y1'⟩ := shp_Sbyte (n := n + 0) z1
  exact ⟨⟨x0, x1⟩, rfl, y1, ⟨wf_i64 y0, y1'⟩⟩
theorem shp_SWrite {n : Nat} {r : List AV} (h : shp Tryz.prog (n + 4) 24 r) : ∃ l : List (TWrite), r = (sliceT tWrite).row l ∧ (sliceT tWrite).fits l ∧ (sliceT tWrite).ok l := by
  obtain ⟨rows, rfl, hl, hr⟩ := shp_slice Tryz.underlying24 h
  obtain ⟨l, h1, h2, h3⟩ := rows_of (enc := tWrite.row) (p := fun v => tWrite.fits v ∧ tWrite.ok v) fun r hr' => shp_Write (n := n) (hr r hr')
  subst h1
  exact ⟨l, rfl, ⟨by simpa using hl, fun v hv => (h3 v hv).1⟩, fun v hv => (h3 v hv).2⟩
theorem shp_Fault {n : Nat} {r : List AV} (h : shp Tryz.prog (n + 2) 124 r) : ∃ v : TFault, r = v.row ∧ tFault.fits v ∧ tFault.ok v := by
  obtain ⟨_, _, rfl, z0, _, _, rfl, z1, _, _, rfl, z2, rfl⟩ := shp_struct Tryz.underlying124 h
  obtain ⟨x0, rfl, y0⟩ := shp_int Tryz.underlying3 z0
  obtain ⟨x1, rfl, y1⟩ := shp_int Tryz.underlying3 z1
  obtain ⟨x2, rfl, y2⟩ := shp_int Tryz.underlying3 z2
  exact ⟨⟨x0, x1, x2⟩, rfl, trivial, ⟨wf_i64 y0, wf_i64 y1, wf_i64 y2⟩⟩
theorem shp_SFault {n : Nat} {r : List AV} (h : shp Tryz.prog (n + 3) 25 r) : ∃ l : List (TFault), r = (sliceT tFault).row l ∧ (sliceT tFault).fits l ∧ (sliceT tFault).ok l := by
  obtain ⟨rows, rfl, hl, hr⟩ := shp_slice Tryz.underlying25 h
  obtain ⟨l, h1, h2, h3⟩ := rows_of (enc := tFault.row) (p := fun v => tFault.fits v ∧ tFault.ok v) fun r hr' => shp_Fault (n := n) (hr r hr')
  subst h1
  exact ⟨l, rfl, ⟨by simpa using hl, fun v hv => (h3 v hv).1⟩, fun v hv => (h3 v hv).2⟩
theorem shp_Disk {n : Nat} {r : List AV} (h : shp Tryz.prog (n + 5) 27 r) : ∃ v : TDisk, r = v.row ∧ tDisk.fits v ∧ tDisk.ok v := by
  obtain ⟨_, _, rfl, z0, _, _, rfl, z1, _, _, rfl, z2, _, _, rfl, z3, _, _, rfl, z4, rfl⟩ := shp_struct Tryz.underlying27 h
  obtain ⟨x0, rfl, y0, y0'⟩ := shp_SSbyte (n := n + 1) z0
  obtain ⟨x1, rfl, y1, y1'⟩ := shp_SWrite (n := n + 0) z1
  obtain ⟨x2, rfl, y2⟩ := shp_int Tryz.underlying3 z2
  obtain ⟨x3, rfl, y3, y3'⟩ := shp_SFault (n := n + 1) z3
  obtain ⟨x4, rfl⟩ := shp_bool Tryz.underlying4 z4
  exact ⟨⟨x0, x1, x2, x3, x4⟩, rfl, ⟨y0, y1, y3⟩, ⟨y0', y1', wf_i64 y2, y3'⟩⟩
theorem shp_Eng {n : Nat} {r : List AV} (h : shp Tryz.prog (n + 8) 29 r) : ∃ v : TEng, r = v.row ∧ tEng.fits v ∧ tEng.ok v := by
  obtain ⟨_, _, rfl, z0, _, _, rfl, z1, rfl⟩ := shp_struct Tryz.underlying29 h
  obtain ⟨x0, rfl, y0, y0'⟩ := shp_SDef (n := n + 0) z0
  obtain ⟨x1, rfl, y1, y1'⟩ := shp_Disk (n := n + 2) z1
  exact ⟨⟨x0, x1⟩, rfl, ⟨y0, y1⟩, ⟨y0', y1'⟩⟩
theorem hlaw (xs : List AV) (h : shpAs Tryz.prog 8 Tryz.f4.params.toList xs) : C_law xs = some (.bool true) := by
  rw [Tryz.params4] at h
  obtain ⟨y0, r0, rfl, z0, zend⟩ := h
  have hr : r0 = [] := zend
  subst hr
  obtain ⟨w0, rfl, z0'⟩ := shpA_agg Tryz.underlying29 z0
  obtain ⟨v0, rfl, f0, o0⟩ := shp_Eng (n := 0) z0'
  exact c1_eq tEng ⟨f0, o0⟩
end Go.Proofs.YtmfkjlnhanomfaaGreat.Nl
