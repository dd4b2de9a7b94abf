/- What the functions that FnInScans calls answer, for every argument within the law's bounds: part 2. -/
import Derived.Test.YtfjkmpmjohojpaaGreatDoorIjP1
import Derived.Lib.AtoiAllCases
import Derived.Lib.ItoaLen
import Derived.Lib.ItoaMem
import Derived.Lib.ItoaNum
import Derived.Lib.Split
set_option linter.unusedVariables false
set_option linter.unusedSimpArgs false
set_option linter.unnecessarySimpa false
namespace Go.Proofs.YtfjkmpmjohojpaaGreatDoor.Ij
open Go Go.RowKit Go.Ev
set_option linter.unusedSimpArgs false
set_option linter.unusedVariables false
set_option maxHeartbeats 1600000
theorem dr_spec_l10Draw (cs) : DrawR (EE cs) 34 [] (DefsP 2) := drawR_of (st_spec_l10Draw cs) fun code r h hcode hcur => by
  simp only [go_sem, Nat.reduceBEq, s_spec_l10Draw]
  refine hP_drawZ (dr_spec_l9Draw cs [116] (by decide)) (R := DefR) (fun v h' hp => drz hp) hcode hcur ?_
  rintro _ h1 ⟨d, rfl, ho, hc2⟩ c1
  have f1 : fillR (List.replicate 1 [.str [], .snil, .snil, .snil]) 4 [(0, .agg d.row)] = some [d.row] := rfl
  have f2 : frzRows [d.row] = some [d.row] := frzRows_T tDef [d]
  simp only [go_sem, Nat.reduceBEq, Nat.reduceAdd, f1, f2]
  refine hP_draw (dr_spec_l1Once cs 3) hcode (c1.cur.same (by simp) rfl) ?_
  rintro _ h2 ⟨b, rfl⟩ c2
  have s2 : CurS code r h h2 := c1.trans (c2.pre (by simp) (fun _ _ _ => rfl) (fun q hq => by simp; omega))
  have gx : growsL tDef h.nx [d] (.app h1.nx [d.row]) h2 := ⟨.inr ⟨h1.nx, rfl, (c2.ap h1.nx (by simp)).trans (by simp; rfl), Nat.lt_of_lt_of_le (by simp) c2.nx⟩, fun id rows e => by injection e with e _; rw [← e]; exact c1.nx⟩
  cases b with
  | false =>
    simp only [go_sem, Nat.reduceBEq]
    exact ⟨fun _ e => (by cases e), _, rfl, ⟨[d], gx, by simp, by simp, by simpa using ho, fun d' hd => by simp at hd; subst hd; exact hc2⟩, s2⟩
  | true =>
    simp only [go_sem, Nat.reduceBEq]
    refine hP_drawZ (dr_spec_l9Draw cs [117] (by decide)) (R := DefR) (fun v h' hp => drz hp) hcode s2.cur ?_
    rintro _ h3 ⟨d2, rfl, ho2, hc3⟩ c3
    have s3 := s2.trans c3
    have f3 : fillR (List.replicate 1 [.str [], .snil, .snil, .snil]) 4 [(0, .agg d2.row)] = some [d2.row] := rfl
    have f4 : frzRows [d2.row] = some [d2.row] := frzRows_T tDef [d2]
    have gy := gx.step c3.nx fun q _ hq => c3.ap q hq
    have hn2 := s2.nx
    have hn1 := c1.nx
    have hn3 := s3.nx
    simp only [go_sem, Nat.reduceBEq, Nat.reduceAdd, f3, f4]
    refine hP_growB (T := tDef) (l := [d]) [d2] rfl (gy.step (by simp) fun q _ hq => by simp; omega) (by simp; omega) rfl (by simp only [List.length_cons, List.length_nil]; unfold room; omega) ?_
    intro v' h5 k1 k2 k3 k4 _
    have e3 : h3.nx + 1 ≤ h5.nx := k3
    simp only [go_sem, Nat.reduceBEq]
    refine ⟨fun _ e => (by cases e), _, rfl, ⟨_, k1, by simp, by simp, fun p hp => ?_, fun d' hd => by simp at hd; subst hd; exact hc2⟩, ?_⟩
    · simp only [List.cons_append, List.nil_append, List.mem_cons, List.not_mem_nil, or_false] at hp
      rcases hp with rfl | rfl
      · exact ho
      · exact ho2
    · exact curApps s3 (fun q => congrFun k2 q) (by omega) fun q hq => (k4 q hq).trans (by simp; omega)
theorem u8dig (d : Nat) (h : d < 10) : rowsBytes [[.int .u8 (IntKind.wrap .u8 (IntKind.wrap .i64 (48 + (d : Int))))]] = some [UInt8.ofNat (48 + d)] := by
  have h1 : IntKind.wrap .i64 (48 + (d : Int)) = 48 + (d : Int) := wrapId (by omega) (by omega)
  have h2 : IntKind.wrap .u8 (48 + (d : Int)) = 48 + (d : Int) := by
    simp [IntKind.wrap, IntKind.bits, IntKind.signed]
    omega
  rw [h1, h2]
  simp only [rowsBytes, rowByte, Option.bind_some, Option.map_some]
  congr 2
noncomputable def C_spec_l2Num := ct (fun a : Int => [.int .i64 a]) (fun a => -1000000000000000 ≤ a ∧ a ≤ 1000000000000000) .str Lib.itoa
theorem C_spec_l2Num_eq (n : Int) (hn : -1000000000000000 ≤ n ∧ n ≤ 1000000000000000) : C_spec_l2Num [.int .i64 n] = some (.str (Lib.itoa n)) := by
  unfold C_spec_l2Num
  exact ct_eq (a := n) (fun a b h => by simpa using h) hn
noncomputable def CL_spec_l2Num (m : Nat) := ct (fun a : Nat => [.int .i64 (a : Int)]) (fun a => a < 10 ^ m ∧ m ≤ 18) .str Lib.decDigits
theorem CL_spec_l2Num_eq (m a : Nat) (h : a < 10 ^ m ∧ m ≤ 18) : CL_spec_l2Num m [.int .i64 (a : Int)] = some (.str (Lib.decDigits a)) := by
  unfold CL_spec_l2Num
  exact ct_eq (a := a) (fun a b h => by simp at h; omega) h
theorem evs_spec_l2Num (cs) (a : Nat) (h : a < 10) : ∃ k n, out (EE cs) k n 81 [.int .i64 (a : Int)] = some (.str (Lib.decDigits a)) := by
  refine out_K (n := 0) (st_spec_l2Num cs) ?_
  have h1 : ¬ (a : Int) < 0 := by omega
  have h2 : (a : Int) < 10 := by omega
  have hd := u8dig a h
  have he := Lib.decDigits_one h
  simp only [go_sem, Nat.reduceBEq, s_spec_l2Num, h1, h2, hd, he, fillR, List.replicate, frzRows, notStr, rowsIn, isAggV, List.set, Bool.not_false, Bool.true_or]
theorem dec_len {a : Nat} (h : a < 10 ^ 18) : (Lib.decDigits a).length ≤ 21 := by
  have := Lib.itoa_length_le (a : Int) (by omega) (by omega)
  rw [Lib.itoa_nonneg] at this
  exact this
theorem evr_spec_l2Num (cs) (m : Nat) (hT : (EE cs).T 81 = some (CL_spec_l2Num m)) (a : Nat) (h10 : 10 ≤ a) (h : a < 10 ^ (m + 1)) (hm : m + 1 ≤ 18) : ∃ k n, out (EE cs) k n 81 [.int .i64 (a : Int)] = some (.str (Lib.decDigits a)) := by
  refine out_K (n := 0) (st_spec_l2Num cs) ?_
  have hb : a < 10 ^ 18 := Nat.lt_of_lt_of_le h (Nat.pow_le_pow_right (by omega) hm)
  have h1 : ¬ (a : Int) < 0 := by omega
  have h2 : ¬ (a : Int) < 10 := by omega
  have hq : a / 10 < 10 ^ m := by rw [Nat.pow_succ] at h; omega
  have hd := u8dig (a % 10) (Nat.mod_lt _ (by omega))
  have eq : IntKind.wrap .i64 ((a : Int).tdiv 10) = ((a / 10 : Nat) : Int) := by
    rw [show (a : Int).tdiv 10 = ((a / 10 : Nat) : Int) from rfl]
    exact wrapId (by omega) (by omega)
  have er : (a : Int).tmod 10 = ((a % 10 : Nat) : Int) := rfl
  have kq : ∀ h, kBin .quo (.int .i64 (a : Int)) (.int .i64 10) h = some (.int .i64 ((a / 10 : Nat) : Int), h) := fun h => by rw [kBin_quo _ _ _ (by decide), eq]
  have kr : ∀ h, kBin .rem (.int .i64 (a : Int)) (.int .i64 10) h = some (.int .i64 ((a % 10 : Nat) : Int), h) := fun h => by rw [kBin_rem _ _ _ (by decide), er]
  have c55 := CL_spec_l2Num_eq m (a / 10) ⟨hq, by omega⟩
  have he : Lib.decDigits a = Lib.decDigits (a / 10) ++ [UInt8.ofNat (48 + a % 10)] := by rw [Lib.decDigits, dif_neg (by omega)]
  have hl := dec_len (a := a / 10) (by omega)
  have hc : ∀ h, kBin .add (.str (Lib.decDigits (a / 10))) (.str [UInt8.ofNat (48 + a % 10)]) h = some (.str (Lib.decDigits (a / 10) ++ [UInt8.ofNat (48 + a % 10)]), h) := fun h => kCat (by simp; omega)
  simp only [go_sem, Nat.reduceBEq, s_spec_l2Num, h1, h2, hT, kq, kr, c55, hc, hd, he, fillR, List.replicate, frzRows, notStr, rowsIn, isAggV, List.set, Bool.not_false, Bool.true_or]
theorem okL_spec_l2Num {WI : World → Prop} (hs : Stable WI) : ∀ (m : Nat) (cs), TOK (EE cs) WI → PureOK Tryz.prog WI 81 (CL_spec_l2Num m)
  | 0, cs, hT => pure_out hT hs (by rw [st_spec_l2Num]; rfl) fun a h => evs_spec_l2Num cs a (by have := h.1; simp at this; omega)
  | m + 1, cs, hT => by
    have ih := okL_spec_l2Num hs m cs hT
    refine pure_out (E := EE ((81, CL_spec_l2Num m) :: cs)) (tok_cons rfl rfl ih hT) hs (by rw [st_spec_l2Num]; rfl) fun a h => ?_
    by_cases h10 : a < 10
    · exact evs_spec_l2Num _ a h10
    · exact evr_spec_l2Num _ m rfl a (by omega) h.1 h.2
theorem ev_spec_l2Num (cs) (hT : (EE cs).T 81 = some (CL_spec_l2Num 16)) (x : Int) (h : -1000000000000000 ≤ x ∧ x ≤ 1000000000000000) : ∃ k n, out (EE cs) k n 81 [.int .i64 x] = some (.str (Lib.itoa x)) := by
  by_cases hx : x < 0
  · obtain ⟨a, rfl⟩ : ∃ a : Nat, x = -(a : Int) := ⟨x.natAbs, by omega⟩
    have ha : a < 10 ^ 16 := by omega
    refine out_K (n := 0) (st_spec_l2Num cs) ?_
    have c55 := CL_spec_l2Num_eq 16 a ⟨ha, by omega⟩
    have kn : ∀ h, kUn .neg (.int .i64 (-(a : Int))) h = some (.int .i64 (a : Int), h) := fun h => by
      rw [kUn_neg, show (0 : Int) - -(a : Int) = (a : Int) by omega, wrapId (by omega) (by omega)]
    have hl := dec_len (a := a) (by omega)
    have hc : ∀ h, kBin .add (.str [45]) (.str (Lib.decDigits a)) h = some (.str (45 :: Lib.decDigits a), h) := fun h => kCat (by simp; omega)
    have he := Lib.itoa_neg a (by omega)
    simp only [go_sem, Nat.reduceBEq, s_spec_l2Num, hx, hT, kn, c55, hc, he]
  · obtain ⟨a, rfl⟩ : ∃ a : Nat, x = (a : Int) := ⟨x.toNat, by omega⟩
    rw [Lib.itoa_nonneg]
    by_cases h10 : a < 10
    · exact evs_spec_l2Num cs a h10
    · exact evr_spec_l2Num cs 16 hT a (by omega) (by omega) (by omega)
theorem ok_spec_l2Num {WI : World → Prop} (hs : Stable WI) (cs) (hT : TOK (EE cs) WI) : PureOK Tryz.prog WI 81 C_spec_l2Num :=
  pure_out (E := EE ((81, CL_spec_l2Num 16) :: cs)) (tok_cons rfl rfl (okL_spec_l2Num hs 16 cs hT) hT) hs (by rw [st_spec_l2Num]; rfl) fun a h => ev_spec_l2Num _ rfl a h
structure A9 (code : List UInt8) (r : Nat) (h0 : Hp) (b2 b3 : Nat) (c3 : List AV) (B : Nat) (FL : List AV) (h : Hp) : Prop where
  p2 : h.hp b2 = some [.str [], .snil, .snil, .snil]
  p3 : h.hp b3 = some c3
  pB : h.hp B = some FL
  lB : h0.nx ≤ B
  l2 : h0.nx ≤ b2
  l3 : h0.nx ≤ b3
  n23 : b2 ≠ b3
  n2 : B ≠ b2
  n3 : B ≠ b3
  x2 : b2 < h.nx
  x3 : b3 < h.nx
  xB : B < h.nx
  rn : r < h0.nx
  s : CurS code r h0 h
section
variable {code : List UInt8} {r : Nat} {h0 : Hp} {b2 b3 : Nat} {c3 FL : List AV} {B : Nat} {h h' : Hp}
theorem A9.draw (z : A9 code r h0 b2 b3 c3 B FL h) (c : CurS code r h h') : A9 code r h0 b2 b3 c3 B FL h' := by
  have hn := c.nx
  have hr := z.rn
  have := z.l2; have := z.l3; have := z.lB; have := z.x2; have := z.x3; have := z.xB
  exact ⟨(c.hp b2 z.x2 (by omega)).trans z.p2, (c.hp b3 z.x3 (by omega)).trans z.p3, (c.hp B z.xB (by omega)).trans z.pB, z.lB, z.l2, z.l3, z.n23, z.n2, z.n3, by omega, by omega, by omega, z.rn, z.s.trans c⟩
theorem A9.apps (z : A9 code r h0 b2 b3 c3 B FL h) (k2 : ∀ q, h'.hp q = h.hp q) (k3 : h.nx ≤ h'.nx) (k4 : ∀ q, q < h0.nx → h'.ap q = h.ap q) : A9 code r h0 b2 b3 c3 B FL h' := by
  have := z.x2; have := z.x3; have := z.xB
  exact ⟨(k2 _).trans z.p2, (k2 _).trans z.p3, (k2 _).trans z.pB, z.lB, z.l2, z.l3, z.n23, z.n2, z.n3, by omega, by omega, by omega, z.rn, curApps z.s k2 k3 k4⟩
theorem A9.put (z : A9 code r h0 b2 b3 c3 B FL h) (c' : List AV) : A9 code r h0 b2 b3 c' B FL ⟨fun q => if q = b3 then some c' else h.hp q, h.ap, h.nx⟩ := by
  have q0 : ∀ q, q < h0.nx → ¬ q = b3 := fun q hq => by have := z.l3; omega
  have n23 := z.n23
  have n3 := z.n3
  have hr3 := q0 r z.rn
  refine ⟨by simp only [go_sem, n23, z.p2], if_pos rfl, by simp only [go_sem, n3, z.pB], z.lB, z.l2, z.l3, z.n23, z.n2, z.n3, z.x2, z.x3, z.xB, z.rn, ?_⟩
  exact ⟨z.s.cur.same (Nat.le_refl _) (by simp only [go_sem, hr3]), fun q hq hr => by have := q0 q hq; simp only [go_sem, this]; exact z.s.hp q hq hr, z.s.ap, z.s.nx⟩
theorem A9.col (z : A9 code r h0 b2 b3 c3 B FL h) (F' : List AV) : A9 code r h0 b2 b3 c3 B F' ⟨fun q => if q = B then some F' else h.hp q, h.ap, h.nx⟩ := by
  have q0 : ∀ q, q < h0.nx → ¬ q = B := fun q hq => by have := z.lB; omega
  have n2 : ¬ b2 = B := fun e => z.n2 e.symm
  have n3 : ¬ b3 = B := fun e => z.n3 e.symm
  have hrB := q0 r z.rn
  refine ⟨by simp only [go_sem, n2, z.p2], by simp only [go_sem, n3, z.p3], if_pos rfl, z.lB, z.l2, z.l3, z.n23, z.n2, z.n3, z.x2, z.x3, z.xB, z.rn, ?_⟩
  exact ⟨z.s.cur.same (Nat.le_refl _) (by simp only [go_sem, hrB]), fun q hq hr => by have := q0 q hq; simp only [go_sem, this]; exact z.s.hp q hq hr, z.s.ap, z.s.nx⟩
end
/-- A table that nobody else has, its columns at the head of a block. -/
def AnyP (h0 : Hp) (v : AV) (h : Hp) : Prop := ∃ (d : TDef) (b : Nat) (x2 x3 : AV) (more : List AV), v = .agg [.str d.fName, .sl b 0 d.fCols.length 3, x2, x3] ∧ h.hp b = some ((d.fCols.map TCol.row).flatten ++ more) ∧ h0.nx ≤ b ∧ (∃ h2, grows tBy d.fPrimary x2 h2) ∧ (∃ h3, grows tIndex d.fIndexes x3 h3) ∧ okDef d
theorem A9.out {code : List UInt8} {r : Nat} {h0 : Hp} {b2 b3 : Nat} {c3 : List AV} (d : TDef) {FL more : List AV} {B n : Nat} {h h2 h3 : Hp} (hn : n = d.fCols.length) (z : A9 code r h0 b2 b3 c3 B FL h) (hF : FL = (d.fCols.map TCol.row).flatten ++ more) {x2 x3 : AV} (q2 : grows tBy d.fPrimary x2 h2) (q3 : grows tIndex d.fIndexes x3 h3) (ho : okDef d) {cs : List AV} :
    AnyP h0 (.agg [.str d.fName, .sl B 0 n 3, x2, x3]) ⟨fun q => if q = b2 then some cs else h.hp q, h.ap, h.nx⟩ ∧ CurS code r h0 ⟨fun q => if q = b2 then some cs else h.hp q, h.ap, h.nx⟩ := by
  have q0 : ∀ q, q < h0.nx → ¬ q = b2 := fun q hq => by have := z.l2; omega
  have n2 := z.n2
  have hr2 := q0 r z.rn
  subst hF
  subst hn
  refine ⟨⟨d, B, x2, x3, more, rfl, by simp only [go_sem, n2, z.pB], z.lB, ⟨_, q2⟩, ⟨_, q3⟩, ho⟩, ?_⟩
  exact ⟨z.s.cur.same (Nat.le_refl _) (by simp only [go_sem, hr2]), fun q hq hr => by have := q0 q hq; simp only [go_sem, this]; exact z.s.hp q hq hr, z.s.ap, z.s.nx⟩
theorem AnyP.frz {h : Hp} {v : AV} {h' : Hp} (p : AnyP h v h') : ∃ t, frzE 8 (h'.upper h.nx) v = some t ∧ ∃ d : TDef, t = .agg d.row ∧ okDef d := by
  obtain ⟨d, b, x2, x3, more, rfl, h1, h2, ⟨_, h4⟩, ⟨_, h5⟩, ho⟩ := p
  have hb : (h'.upper h.nx).hp b = some ((d.fCols.map tCol.row).flatten ++ more) := (if_neg (by omega)).trans h1
  have e1 := frzD_slx (T := tCol) hb
  have e2 := frzD_grows (h' := h'.upper h.nx) h4
  have e3 := frzD_grows (h' := h'.upper h.nx) h5
  refine ⟨.agg d.row, ?_, d, rfl, ho⟩
  show (mapO (frzD 8 (h'.upper h.nx)) [.str d.fName, .sl b 0 d.fCols.length 3, x2, x3]).map AV.agg = _
  have e0 : frzD 8 (h'.upper h.nx) (.str d.fName) = some (.str d.fName) := rfl
  have e1' : frzD 8 (h'.upper h.nx) (.sl b 0 d.fCols.length 3) = some (.imm (d.fCols.map TCol.row)) := e1
  simp only [mapO, e0, e1', e2, e3, Option.bind_some, Option.map_some]
  rfl
theorem kSt_mid {B m : Nat} {F a b : List AV} {x y : AV} (hm : m = F.length + a.length) (hy : y.cells = [y]) (hn : notCell y = false) (H : Hp) (hH : H.hp B = some (F ++ (a ++ x :: b))) : kSt 1 (.ptr B m) y H = some (.tup [], ⟨fun q => if q = B then some (F ++ (a ++ y :: b)) else H.hp q, H.ap, H.nx⟩) := by
  subst hm
  rw [kSt_ptr, hH]
  have e : splice (F ++ (a ++ x :: b)) (F.length + a.length) [y] = F ++ (a ++ y :: b) := by
    unfold splice
    have e1 : (F ++ (a ++ x :: b)).take (F.length + a.length) = F ++ a := by rw [← List.append_assoc, List.take_left' (by simp)]
    have e2 : (F ++ (a ++ x :: b)).drop (F.length + a.length + 1) = b := by
      have : F ++ (a ++ x :: b) = (F ++ a ++ [x]) ++ b := by simp
      rw [this, List.drop_left' (by simp; omega)]
    rw [e1, List.length_singleton, e2]
    simp
  simp only [Option.bind_some, hy, List.length_cons, List.length_nil, List.any_cons, hn, List.any_nil, Bool.or_false, Bool.not_false, Nat.zero_add]
  rw [if_pos ⟨trivial, by simp; omega, trivial⟩, e]
  rfl
theorem isCuL_cols {cols : List TCol} {more : List AV} (h : 1 ≤ cols.length) : isCuL ((cols.map TCol.row).flatten ++ more) = false := by
  cases cols with
  | nil => simp at h
  | cons c r => rfl
theorem kIa_col {B n k m : Nat} {i : Int} (hi : i = (k : Int)) (hk : k < n) (hm : m = k * 3) (H : Hp) : kIa 3 (.sl B 0 n 3) (.int .i64 i) H = some (.ptr B m, H) := by
  subst hi; subst hm
  rw [kIa_sl (by omega) (by simpa using hk)]
  simp
theorem LA_spec_l9Any (cs) (hT : (EE cs).T 81 = some C_spec_l2Num) {code : List UInt8} {r : Nat} {h0 : Hp} {b2 b3 : Nat} (hcode : code.length ≤ 1048576) {Q : QS} {name : List UInt8} {y2 y3 : AV} (z2 : notCell y2 = false) (z3 : notCell y3 = false)
    (hq : ∀ (cols : List TCol) (B : Nat) (e : Ps) (h : Hp), cols.length ≤ 7 → (∀ c ∈ cols, okCol c) → e 0 = .ptr r 0 → e 2 = .ptr b2 0 → e 3 = .ptr b3 0 → A9 code r h0 b2 b3 [.str name, .sl B 0 cols.length 3, y2, y3] B (cols.map TCol.row).flatten h → Q (.exit 1) e h) :
    ∀ (k : Nat) (cols : List TCol) (B : Nat) (e : Ps) (h : Hp), cols.length + k = 7 → 1 ≤ cols.length → (∀ c ∈ cols, okCol c) → e 0 = .ptr r 0 → e 2 = .ptr b2 0 → e 3 = .ptr b3 0 → A9 code r h0 b2 b3 [.str name, .sl B 0 cols.length 3, y2, y3] B (cols.map TCol.row).flatten h → WL (EE cs) s_spec_l9Any_L0 e h Q := by
  intro k
  induction k with
  | zero =>
    intro cols B e h hk hl ho e0 e2 e3 z
    refine .step (wp_sound _ _ _ _ ?_)
    simp only [go_sem, Nat.reduceBEq, Nat.reduceAdd, Nat.reduceLeDiff, s_spec_l9Any_L0, e0, e3, z.p3]
    refine hP_draw (dr_spec_l1Below cs 2) hcode z.s.cur ?_
    rintro _ h1 ⟨x, rfl, hx⟩ c1
    replace hx : 0 ≤ x ∧ x < 2 := hx
    have hw : IntKind.wrap .i64 (6 + x) = 6 + x := wrapId (by omega) (by omega)
    have hc : ¬ (cols.length : Int) < 6 + x := by omega
    simp only [go_sem, Nat.reduceBEq, hw, hc]
    exact hq cols B _ _ (by omega) ho (by simp only [go_sem, Nat.reduceBEq, e0]) (by simp only [go_sem, Nat.reduceBEq, e2]) (by simp only [go_sem, Nat.reduceBEq, e3]) (z.draw c1)
  | succ k ih =>
    intro cols B e h hk hl ho e0 e2 e3 z
    refine .step (wp_sound _ _ _ _ ?_)
    simp only [go_sem, Nat.reduceBEq, Nat.reduceAdd, Nat.reduceLeDiff, s_spec_l9Any_L0, e0, e3, z.p3]
    refine hP_draw (dr_spec_l1Below cs 2) hcode z.s.cur ?_
    rintro _ h1 ⟨x, rfl, hx⟩ c1
    replace hx : 0 ≤ x ∧ x < 2 := hx
    have hw : IntKind.wrap .i64 (6 + x) = 6 + x := wrapId (by omega) (by omega)
    by_cases hc : (cols.length : Int) < 6 + x
    case neg =>
      simp only [go_sem, Nat.reduceBEq, hw, hc]
      exact hq cols B _ _ (by omega) ho (by simp only [go_sem, Nat.reduceBEq, e0]) (by simp only [go_sem, Nat.reduceBEq, e2]) (by simp only [go_sem, Nat.reduceBEq, e3]) (z.draw c1)
    have d3 := z.draw c1
    have n2 := C_spec_l2Num_eq (cols.length : Int) (by omega)
    have hdl : (Lib.itoa (cols.length : Int)).length ≤ 1 := by
      rw [Lib.itoa_nonneg, Lib.decDigits_one (by omega)]
      simp
    generalize Lib.itoa (cols.length : Int) = s at n2 hdl
    have hcat : ∀ h, kBin .add (.str [122]) (.str s) h = some (.str ([122] ++ s), h) := fun h => kCat (by simp; omega)
    generalize ht : [122] ++ s = t at hcat
    have htl : t.length ≤ 8 := by rw [← ht]; simp; omega
    have g1 : sFill [.str [], .int .i64 0, .bool false] [(0, 1, .str t), (1, 1, .int .i64 4)] = some [.str t, .int .i64 4, .bool false] := rfl
    have f1 : fillR (List.replicate 1 [.str [], .int .i64 0, .bool false]) 3 [(0, .agg [.str t, .int .i64 4, .bool false])] = some [[.str t, .int .i64 4, .bool false]] := rfl
    have f2 : frzRows [[.str t, .int .i64 4, .bool false]] = some [[.str t, .int .i64 4, .bool false]] := rfl
    have sa : ∀ (H : Hp) (id : Nat), H.hp B = some (cols.map TCol.row).flatten → sApp true 32 3 (.sl B 0 cols.length 3) (.app id [[.str t, .int .i64 4, .bool false]]) H = some (.sl H.nx 0 (cols ++ [(⟨t, 4, false⟩ : TCol)]).length 3, (H.kill B).new ((cols ++ [(⟨t, 4, false⟩ : TCol)]).map TCol.row).flatten) := fun H id hH =>
      sApp_rows (T := tCol) (bt := 32) (x := .app id [[.str t, .int .i64 4, .bool false]]) (more := [(⟨t, 4, false⟩ : TCol)]) hH rfl (by simp only [List.length_cons, List.length_nil]; unfold room; omega)
    simp only [go_sem, Nat.reduceBEq, Nat.reduceAdd, Nat.reduceLeDiff, hw, hc, e3, d3.p3, hT, n2, hcat, g1, f1, f2]
    rw [sa _ _ (by simp only [go_sem, d3.pB])]
    have x2 := d3.x2
    have x3 := d3.x3
    have xB := d3.xB
    have m3 : ¬ b3 = h1.nx + 1 := by omega
    have m2 : ¬ b2 = h1.nx + 1 := by omega
    have q3 : ¬ b3 = B := fun e => z.n3 e.symm
    have q2 : ¬ b2 = B := fun e => z.n2 e.symm
    simp only [go_sem, kSt_ptr, Nat.reduceBEq, Nat.reduceAdd, Nat.reduceLeDiff, e3, Hp.kill, d3.p3, m3, q3]
    have hn := d3.s.nx
    have l2 := d3.l2
    have l3 := d3.l3
    have lB := d3.lB
    have rn := d3.rn
    have n23 := d3.n23
    have mm3 : ¬ h1.nx + 1 = b3 := by omega
    have hp : ∀ q, q < h0.nx → ¬ q = b3 ∧ ¬ q = h1.nx + 1 ∧ ¬ q = B ∧ ¬ q = h1.nx := fun q hq => ⟨by omega, by omega, by omega, by omega⟩
    obtain ⟨r1, r2, r3, r4⟩ := hp r rn
    refine ih (cols ++ [⟨t, 4, false⟩]) (h1.nx + 1) _ _ (by simp; omega) (by simp) (fun c hc => ?_) (by simp only [go_sem, Nat.reduceBEq, e0]) (by simp only [go_sem, Nat.reduceBEq, e2]) (by simp only [go_sem, Nat.reduceBEq, e3]) ?_
    · rcases List.mem_append.1 hc with hc | hc
      · exact ho c hc
      · rw [List.mem_singleton] at hc
        subst hc
        exact ⟨htl, by show (0 : Int) ≤ 4; omega, by show (4 : Int) ≤ 9; omega⟩
    · refine ⟨by simp only [go_sem, n23, m2, q2, d3.p2], by simp only [go_sem], by simp only [go_sem, mm3], by omega, l2, l3, n23, fun e => m2 e.symm, mm3, by show b2 < h1.nx + 1 + 1; omega, by show b3 < h1.nx + 1 + 1; omega, Nat.lt_succ_self _, rn, ?_⟩
      exact ⟨d3.s.cur.same (by show h1.nx ≤ h1.nx + 1 + 1; omega) (by simp only [go_sem, r1, r2, r3]), fun q hq hr => by obtain ⟨s1, s2, s3, s4⟩ := hp q hq; simp only [go_sem, s1, s2, s3]; exact d3.s.hp q hq hr, fun q hq => by obtain ⟨s1, s2, s3, s4⟩ := hp q hq; simp only [go_sem, s4]; exact d3.s.ap q hq, by show h0.nx ≤ h1.nx + 1 + 1; omega⟩
theorem dr_spec_l9Any (cs) (hT : (EE cs).T 81 = some C_spec_l2Num) : DrawR (EE cs) 58 [] AnyP := drawR_of (st_spec_l9Any cs) fun code r h hcode hcur => by
  have rn := hcur.1
  simp only [go_sem, Nat.reduceBEq, s_spec_l9Any]
  refine hP_drawR (dr_spec_l9Draw cs [116] (by decide)) hcode (hcur.same (by simp) (by simp; omega)) ?_
  rintro v h1 ⟨d, ⟨B, y2, y3, rfl, pB, lB, xB, g2, g3⟩, ho, hc2, hc4, hp1, hp2, hi2⟩ c1
  have lB' : h.nx + 1 ≤ B := lB
  have s1 : CurS code r h h1 := c1.pre (by simp) (fun q hq _ => by simp; omega) (fun q hq => rfl)
  have p2 : h1.hp h.nx = some [.str [], .snil, .snil, .snil] := (c1.hp h.nx (by simp) (by omega)).trans (by simp)
  have x2 : h.nx < h1.nx := Nat.lt_of_lt_of_le (by simp) c1.nx
  have z2 := g2.1.cell.2
  have z3 := g3.1.cell.2
  have g2' : growsL tBy h.nx d.fPrimary y2 h1 := ⟨g2.1, fun id rows e => by have : h.nx + 1 ≤ id := g2.2 id rows e; omega⟩
  have g3' : growsL tIndex h.nx d.fIndexes y3 h1 := ⟨g3.1, fun id rows e => by have : h.nx + 1 ≤ id := g3.2 id rows e; omega⟩
  have n1 : ¬ h.nx = h1.nx := by omega
  have nB : ¬ B = h1.nx := by omega
  have q0 : ∀ q, q < h.nx → ¬ q = h1.nx := fun q hq => by omega
  have hr1 := q0 r rn
  simp only [go_sem, kSt_ptr, Nat.reduceBEq, Nat.reduceAdd, Nat.reduceLeDiff, z2, z3]
  have za : A9 code r h h.nx h1.nx [.str d.fName, .sl B 0 d.fCols.length 3, y2, y3] B (d.fCols.map TCol.row).flatten ⟨fun q => if q = h1.nx then some [.str d.fName, .sl B 0 d.fCols.length 3, y2, y3] else if q = h1.nx then some [.str [], .snil, .snil, .snil] else h1.hp q, h1.ap, h1.nx + 1⟩ :=
    ⟨by simp only [go_sem, n1, p2], by simp only [go_sem], by simp only [go_sem, nB, pB], by omega, Nat.le_refl _, by omega, n1, by omega, nB, by show h.nx < h1.nx + 1; omega, by show h1.nx < h1.nx + 1; omega, by show B < h1.nx + 1; omega, rn, ⟨s1.cur.same (Nat.le_succ _) (by simp only [go_sem, hr1]), fun q hq hr => by have := q0 q hq; simp only [go_sem, this]; exact s1.hp q hq hr, s1.ap, Nat.le_succ_of_le s1.nx⟩⟩
  refine hP_draw (dr_spec_l1Below cs (d.fCols.length : Int)) hcode za.s.cur ?_
  rintro _ h2 ⟨kk, rfl, hk⟩ c2
  replace hk : 0 ≤ kk ∧ kk < (d.fCols.length : Int) := by
    have : (if (d.fCols.length : Int) ≤ 0 then kk = 0 else 0 ≤ kk ∧ kk < (d.fCols.length : Int)) := hk
    rwa [if_neg (by omega)] at this
  obtain ⟨k, rfl⟩ : ∃ k : Nat, kk = (k : Int) := ⟨kk.toNat, by omega⟩
  have hkl : k < d.fCols.length := by omega
  have zb := za.draw c2
  have gb2 : growsL tBy h.nx d.fPrimary y2 h2 := g2'.step (Nat.le_trans (Nat.le_succ _) c2.nx) fun q _ hq => c2.ap q (Nat.lt_succ_of_lt hq)
  have gb3 : growsL tIndex h.nx d.fIndexes y3 h2 := g3'.step (Nat.le_trans (Nat.le_succ _) c2.nx) fun q _ hq => c2.ap q (Nat.lt_succ_of_lt hq)
  clear za c2 pB g2 g3 g2' g3' c1 s1
  simp only [go_sem, Nat.reduceBEq]
  refine hP_draw (dr_spec_l1Below cs 16) hcode zb.s.cur ?_
  rintro _ h3 ⟨x, rfl, hx⟩ c3
  replace hx : 0 ≤ x ∧ x < 16 := hx
  have z := zb.draw c3
  have q2 := gb2.step c3.nx fun q _ hq => c3.ap q hq
  have q3 := gb3.step c3.nx fun q _ hq => c3.ap q hq
  clear zb gb2 gb3 c3
  -- the column at the drawn place
  obtain ⟨pre, c, rest, hcols, hpre⟩ : ∃ pre c rest, d.fCols = pre ++ c :: rest ∧ pre.length = k := ⟨d.fCols.take k, d.fCols[k], d.fCols.drop (k + 1), by rw [← List.drop_eq_getElem_cons, List.take_append_drop], by rw [List.length_take]; omega⟩
  have hFl : (pre.map TCol.row).flatten.length = k * 3 := by
    have e := flatten_len (sz := 3) (tCol.rows_len pre)
    rw [List.length_map, hpre] at e
    exact e
  have hFL : (d.fCols.map TCol.row).flatten = (pre.map TCol.row).flatten ++ ([.str c.fName, .int .i64 c.fType, .bool c.fNull] ++ (rest.map TCol.row).flatten) := by rw [hcols]; simp [TCol.row]
  have hia : ∀ H, kIa 3 (.sl B 0 d.fCols.length 3) (.int .i64 (k : Int)) H = some (.ptr B (pre.map TCol.row).flatten.length, H) := fun H => kIa_col rfl hkl hFl H
  have hset : ∀ c', okCol c' → okDef { d with fCols := pre ++ c' :: rest } := fun c' hc' => ⟨ho.name, by show (pre ++ c' :: rest).length ≤ 8; have := ho.cl; rw [hcols] at this; simpa using this, fun x hx => by
    rcases List.mem_append.1 hx with hx | hx
    · exact ho.cols x (by rw [hcols]; exact List.mem_append_left _ hx)
    · rcases List.mem_cons.1 hx with rfl | hx
      · exact hc'
      · exact ho.cols x (by rw [hcols]; exact List.mem_append_right _ (List.mem_cons_of_mem _ hx)), ho.pl, ho.prim, ho.il, ho.idx⟩
  have hoc : okCol c := ho.cols c (by rw [hcols]; simp)
  have hlen : d.fCols.length = (pre ++ c :: rest).length := by rw [hcols]
  have n23 := z.n23
  have n32 : ¬ h1.nx = h.nx := fun e => n23 e.symm
  have nB3 := z.n3
  have nB2 := z.n2
  have n3B : ¬ h1.nx = B := fun e => nB3 e.symm
  have n2B : ¬ h.nx = B := fun e => nB2 e.symm
  by_cases k0 : x = 0
  · subst k0
    have f1 : fillR (List.replicate 4 [.str []]) 1 [(0, .str []), (1, .str [116, 97, 98, 108, 101]), (2, .str [65]), (3, .str [116, 50])] = some [[.str []], [.str [116, 97, 98, 108, 101]], [.str [65]], [.str [116, 50]]] := rfl
    have f2 : frzRows [[.str []], [.str [116, 97, 98, 108, 101]], [.str [65]], [.str [116, 50]]] = some [[.str []], [.str [116, 97, 98, 108, 101]], [.str [65]], [.str [116, 50]]] := rfl
    simp only [go_sem, Nat.reduceBEq, Int.reduceBEq, f1, f2]
    refine hP_draw (dr_spec_l1Str cs ([[], [116, 97, 98, 108, 101], [65], [116, 50]] : List (List UInt8)) (by simp) _) hcode (z.s.cur.same (by simp) rfl) ?_
    rintro _ h4 ⟨s, rfl, hs⟩ c4
    have hsl : s.length ≤ 8 := (show ∀ s ∈ ([[], [116, 97, 98, 108, 101], [65], [116, 50]] : List (List UInt8)), s.length ≤ 8 by decide) s hs
    have zz := z.draw (c4.pre (by simp) (fun _ _ _ => rfl) (fun q hq => by simp; omega))
    simp only [go_sem, kSt_ptr, Nat.reduceBEq, Nat.reduceAdd, Nat.reduceLeDiff, zz.p3, zz.p2, n23, z2, z3]
    exact ⟨fun _ e => (by cases e), _, rfl, (zz.put [.str s, .sl B 0 d.fCols.length 3, y2, y3]).out { d with fName := s } (more := []) rfl (by simp) q2.1 q3.1 ⟨hsl, ho.cl, ho.cols, ho.pl, ho.prim, ho.il, ho.idx⟩⟩
  by_cases k1 : x = 1
  · subst k1
    have f1 : fillR (List.replicate 4 [.str []]) 1 [(0, .str [105, 100]), (1, .str [97]), (2, .str [105, 110, 116]), (3, .str [])] = some [[.str [105, 100]], [.str [97]], [.str [105, 110, 116]], [.str []]] := rfl
    have f2 : frzRows [[.str [105, 100]], [.str [97]], [.str [105, 110, 116]], [.str []]] = some [[.str [105, 100]], [.str [97]], [.str [105, 110, 116]], [.str []]] := rfl
    simp only [go_sem, kSt_ptr, Nat.reduceBEq, Nat.reduceAdd, Nat.reduceLeDiff, Int.reduceBEq, f1, f2, z.p3]
    refine hP_draw (dr_spec_l1Str cs ([[105, 100], [97], [105, 110, 116], []] : List (List UInt8)) (by simp) _) hcode (z.s.cur.same (by simp) rfl) ?_
    rintro _ h4 ⟨s, rfl, hs⟩ c4
    have hsl : s.length ≤ 8 := (show ∀ s ∈ ([[105, 100], [97], [105, 110, 116], []] : List (List UInt8)), s.length ≤ 8 by decide) s hs
    have zz := z.draw (c4.pre (by simp) (fun _ _ _ => rfl) (fun q hq => by simp; omega))
    have hst : kSt 1 (.ptr B (pre.map TCol.row).flatten.length) (.str s) h4 = some (.tup [], ⟨fun q => if q = B then some ((pre.map TCol.row).flatten ++ ([] ++ (.str s) :: (.int .i64 c.fType :: .bool c.fNull :: (rest.map TCol.row).flatten))) else h4.hp q, h4.ap, h4.nx⟩) :=
      kSt_mid (a := []) (x := .str c.fName) (by simp) rfl rfl h4 (zz.pB.trans (congrArg some hFL))
    simp only [go_sem, Nat.reduceBEq, hia, Nat.add_zero, hst]
    have zy := zz.col ((pre.map TCol.row).flatten ++ ([] ++ (.str s) :: (.int .i64 c.fType :: .bool c.fNull :: (rest.map TCol.row).flatten)))
    simp only [go_sem, kSt_ptr, Nat.reduceBEq, Nat.reduceAdd, zz.p3, zz.p2, n2B, n3B, z2, z3]
    exact ⟨fun _ e => (by cases e), _, rfl, zy.out { d with fCols := pre ++ { c with fName := s } :: rest } (more := []) (by rw [hlen]; simp) (by simp [TCol.row]) q2.1 q3.1 (hset _ ⟨hsl, hoc.2⟩)⟩
  by_cases k2 : x = 2
  · subst k2
    simp only [go_sem, kSt_ptr, Nat.reduceBEq, Nat.reduceAdd, Nat.reduceLeDiff, Int.reduceBEq, z.p3]
    refine hP_draw (dr_spec_l1Below cs 6) hcode z.s.cur ?_
    rintro _ h4 ⟨w, rfl, hw⟩ c4
    replace hw : 0 ≤ w ∧ w < 6 := hw
    have zz := z.draw c4
    have hst : kSt 1 (.ptr B ((pre.map TCol.row).flatten.length + 1)) (.int .i64 w) h4 = some (.tup [], ⟨fun q => if q = B then some ((pre.map TCol.row).flatten ++ ([.str c.fName] ++ (.int .i64 w) :: (.bool c.fNull :: (rest.map TCol.row).flatten))) else h4.hp q, h4.ap, h4.nx⟩) :=
      kSt_mid (a := [.str c.fName]) (x := .int .i64 c.fType) (by simp) rfl rfl h4 (zz.pB.trans (congrArg some hFL))
    simp only [go_sem, Nat.reduceBEq, hia, hst]
    have zy := zz.col ((pre.map TCol.row).flatten ++ ([.str c.fName] ++ (.int .i64 w) :: (.bool c.fNull :: (rest.map TCol.row).flatten)))
    simp only [go_sem, kSt_ptr, Nat.reduceBEq, Nat.reduceAdd, zz.p3, zz.p2, n2B, n3B, z2, z3]
    exact ⟨fun _ e => (by cases e), _, rfl, zy.out { d with fCols := pre ++ { c with fType := w } :: rest } (more := []) (by rw [hlen]; simp) (by simp [TCol.row]) q2.1 q3.1 (hset _ ⟨hoc.1, hw.1, by show w ≤ 9; omega⟩)⟩
  by_cases k3 : x = 3
  · subst k3
    have hic : isCuL ((d.fCols.map TCol.row).flatten) = false := by
      have := isCuL_cols (cols := d.fCols) (more := []) (by omega)
      rwa [List.append_nil] at this
    have hll : (pre.map TCol.row).flatten.length + 2 ≤ ((d.fCols.map TCol.row).flatten).length := by rw [hFL]; simp
    have hdr : ((d.fCols.map TCol.row).flatten).drop ((pre.map TCol.row).flatten.length + 2) = .bool c.fNull :: (rest.map TCol.row).flatten := by
      have e : (d.fCols.map TCol.row).flatten = ((pre.map TCol.row).flatten ++ [.str c.fName, .int .i64 c.fType]) ++ (.bool c.fNull :: (rest.map TCol.row).flatten) := by rw [hFL]; simp
      rw [e, List.drop_left' (by simp)]
    have hst : kSt 1 (.ptr B ((pre.map TCol.row).flatten.length + 2)) (.bool (!c.fNull)) h3 = some (.tup [], ⟨fun q => if q = B then some ((pre.map TCol.row).flatten ++ ([.str c.fName, .int .i64 c.fType] ++ (.bool (!c.fNull)) :: (rest.map TCol.row).flatten)) else h3.hp q, h3.ap, h3.nx⟩) :=
      kSt_mid (a := [.str c.fName, .int .i64 c.fType]) (x := .bool c.fNull) (by simp) rfl rfl h3 (z.pB.trans (congrArg some hFL))
    simp only [go_sem, Nat.reduceBEq, Nat.reduceAdd, Nat.reduceLeDiff, Int.reduceBEq, z.p3, hia, z.pB, hic, hll, hdr, hst]
    have zy := z.col ((pre.map TCol.row).flatten ++ ([.str c.fName, .int .i64 c.fType] ++ (.bool (!c.fNull)) :: (rest.map TCol.row).flatten))
    simp only [go_sem, kSt_ptr, Nat.reduceBEq, Nat.reduceAdd, z.p2, n2B, n3B, z2, z3]
    exact ⟨fun _ e => (by cases e), _, rfl, zy.out { d with fCols := pre ++ { c with fNull := !c.fNull } :: rest } (more := []) (by rw [hlen]; simp) (by simp [TCol.row]) q2.1 q3.1 (hset _ hoc)⟩
  have hcl8 := ho.cl
  have hw1 : IntKind.wrap .i64 ((d.fCols.length : Int) + 1) = (d.fCols.length : Int) + 1 := wrapId (by omega) (by omega)
  by_cases k4 : x = 4
  · subst k4
    simp only [go_sem, kSt_ptr, Nat.reduceBEq, Nat.reduceAdd, Nat.reduceLeDiff, Int.reduceBEq, z.p3, hw1]
    refine hP_draw (dr_spec_l9Draw2 cs ((d.fCols.length : Int) + 1) (by omega)) hcode z.s.cur ?_
    rintro v h4 ⟨l, gl, l1, l2, lo⟩ c4
    have zv := gl.cell.2
    have zz := z.draw c4
    have q3' := q3.step c4.nx fun q _ hq => c4.ap q hq
    simp only [go_sem, kSt_ptr, Nat.reduceBEq, Nat.reduceAdd, Nat.reduceLeDiff, zz.p3, zz.p2, n23, z3, zv, cell1 zv]
    exact ⟨fun _ e => (by cases e), _, rfl, (zz.put [.str d.fName, .sl B 0 d.fCols.length 3, v, y3]).out { d with fPrimary := l } (more := []) rfl (by simp) gl q3'.1 ⟨ho.name, ho.cl, ho.cols, by show l.length ≤ 4; omega, lo, ho.il, ho.idx⟩⟩
  by_cases k5 : x = 5
  · subst k5
    obtain ⟨p0, prest, hprim⟩ : ∃ p0 prest, d.fPrimary = p0 :: prest := by
      cases hpp : d.fPrimary with
      | nil => rw [hpp] at hp1; simp at hp1
      | cons a b => exact ⟨a, b, rfl⟩
    obtain ⟨idl, hy2⟩ : ∃ idl, y2 = .app idl (d.fPrimary.map TBy.row) := by
      rcases q2.1 with ⟨h, _⟩ | ⟨idl, h, _⟩
      · rw [h] at hp1; simp at hp1
      · exact ⟨idl, h⟩
    have hia0 : ∀ H, kIa 2 y2 (.int .i64 0) H = some (.cptr [.int .i64 p0.fCol, .bool p0.fDesc], H) := fun H => by
      rw [hy2]
      exact kIa_app (by decide) (by rw [hprim]; rfl) rfl
    have f1 : fillR (List.replicate 1 [.int .i64 0, .bool false]) 2 [(0, .agg [.int .i64 p0.fCol, .bool p0.fDesc])] = some [[.int .i64 p0.fCol, .bool p0.fDesc]] := rfl
    have f2 : frzRows [[.int .i64 p0.fCol, .bool p0.fDesc]] = some [[.int .i64 p0.fCol, .bool p0.fDesc]] := rfl
    have hap : ∀ q, h.nx ≤ q → q < h3.nx → (if q = h3.nx then some (1, 2) else h3.ap q) = h3.ap q := fun q _ hq => if_neg (by omega)
    simp only [go_sem, kSt_ptr, Nat.reduceBEq, Nat.reduceAdd, Nat.reduceLeDiff, Int.reduceBEq, z.p3, hia0, f1, f2]
    have hnh := z.s.nx
    refine hP_growB (T := tBy) [p0] rfl (q2.step (by simp) fun q _ hq => by simp; omega) (by simp; omega) rfl (by simp only [List.length_cons, List.length_nil]; unfold room; omega) ?_
    intro v' h5 k1 k2 k3 k4' k5'
    have zv := k1.1.cell.2
    have hk : h3.nx + 1 ≤ h5.nx := k3
    have g3 := growsL.other (by decide) (q3.step (h' := ⟨h3.hp, fun r => if r = h3.nx then some (1, 2) else h3.ap r, h3.nx + 1⟩) (Nat.le_succ _) hap) (q2.step (h' := ⟨h3.hp, fun r => if r = h3.nx then some (1, 2) else h3.ap r, h3.nx + 1⟩) (Nat.le_succ _) hap) k3 k5'
    have zz : A9 code r h h.nx h1.nx [.str d.fName, .sl B 0 d.fCols.length 3, y2, y3] B (d.fCols.map TCol.row).flatten h5 :=
      z.apps (fun q => congrFun k2 q) (by omega) fun q hq => (k4' q hq).trans (if_neg (by omega))
    simp only [go_sem, kSt_ptr, Nat.reduceBEq, Nat.reduceAdd, Nat.reduceLeDiff, zz.p3, zz.p2, n23, z3, zv, cell1 zv]
    exact ⟨fun _ e => (by cases e), _, rfl, (zz.put [.str d.fName, .sl B 0 d.fCols.length 3, v', y3]).out { d with fPrimary := d.fPrimary ++ [p0] } (more := []) rfl (by simp) k1.1 g3.1 ⟨ho.name, ho.cl, ho.cols, by show (d.fPrimary ++ [p0]).length ≤ 4; simp; omega, fun p hp => by
      rcases List.mem_append.1 hp with hp | hp
      · exact ho.prim p hp
      · rw [List.mem_singleton] at hp
        subst hp
        exact ho.prim p (by rw [hprim]; simp), ho.il, ho.idx⟩⟩
  by_cases k6 : x = 6
  · subst k6
    have f1 : fillR (List.replicate 3 [.str []]) 1 [(0, .str [117, 98]), (1, .str [119]), (2, .str [100, 101, 115, 99])] = some [[.str [117, 98]], [.str [119]], [.str [100, 101, 115, 99]]] := rfl
    have f2 : frzRows [[.str [117, 98]], [.str [119]], [.str [100, 101, 115, 99]]] = some [[.str [117, 98]], [.str [119]], [.str [100, 101, 115, 99]]] := rfl
    simp only [go_sem, kSt_ptr, Nat.reduceBEq, Nat.reduceAdd, Nat.reduceLeDiff, Int.reduceBEq, f1, f2, z.p3]
    refine hP_draw (dr_spec_l1Str cs ([[117, 98], [119], [100, 101, 115, 99]] : List (List UInt8)) (by simp) _) hcode (z.s.cur.same (by simp) rfl) ?_
    rintro _ h4 ⟨s, rfl, hs⟩ c4
    have hsl : s.length ≤ 8 := (show ∀ s ∈ ([[117, 98], [119], [100, 101, 115, 99]] : List (List UInt8)), s.length ≤ 8 by decide) s hs
    replace c4 : CurS code r h3 h4 := c4.pre (by simp) (fun _ _ _ => rfl) (fun q hq => by simp; omega)
    have zz := z.draw c4
    simp only [go_sem, Nat.reduceBEq, Nat.reduceAdd, Nat.reduceLeDiff, zz.p3, hw1]
    refine hP_draw (dr_spec_l9Draw2 cs ((d.fCols.length : Int) + 1) (by omega)) hcode zz.s.cur ?_
    rintro v h5 ⟨l, gl, l1, l2, lo⟩ c5
    have t5 := c4.trans c5
    have zw := zz.draw c5
    have g2 := q2.step t5.nx fun q _ hq => t5.ap q hq
    have g3 := q3.step t5.nx fun q _ hq => t5.ap q hq
    rcases gl with ⟨rfl, _⟩ | ⟨idl, rfl, _, _⟩
    · simp at l1
    have g1 : sFill [.str [], .bool false, .snil] [(0, 1, .str s), (2, 1, .app idl (l.map TBy.row))] = some [.str s, .bool false, .app idl (l.map TBy.row)] := rfl
    have f1 : fillR (List.replicate 1 [.str [], .bool false, .snil]) 3 [(0, .agg [.str s, .bool false, .app idl (l.map TBy.row)])] = some [[.str s, .bool false, .app idl (l.map TBy.row)]] := rfl
    have f2 : frzRows [[.str s, .bool false, .app idl (l.map TBy.row)]] = some [[.str s, .bool false, .imm (l.map TBy.row)]] := rfl
    have tb : tBy.row = TBy.row := rfl
    have hap : ∀ q, h.nx ≤ q → q < h5.nx → (if q = h5.nx then some (1, 3) else h5.ap q) = h5.ap q := fun q _ hq => if_neg (by omega)
    rw [tb]
    simp only [go_sem, Nat.reduceBEq, Nat.reduceAdd, g1, f1, f2]
    have hnh := zw.s.nx
    refine hP_growB (T := tIndex) [(⟨s, false, l⟩ : TIndex)] rfl (g3.step (by simp) fun q _ hq => by simp; omega) (by simp; omega) rfl (by simp only [List.length_cons, List.length_nil]; unfold room; omega) ?_
    intro v' h6 k1 k2 k3 k4' k5'
    have zv := k1.1.cell.2
    have hk : h5.nx + 1 ≤ h6.nx := k3
    have g2' := growsL.other (by decide) (g2.step (h' := ⟨h5.hp, fun r => if r = h5.nx then some (1, 3) else h5.ap r, h5.nx + 1⟩) (Nat.le_succ _) hap) (g3.step (h' := ⟨h5.hp, fun r => if r = h5.nx then some (1, 3) else h5.ap r, h5.nx + 1⟩) (Nat.le_succ _) hap) k3 k5'
    have zx : A9 code r h h.nx h1.nx [.str d.fName, .sl B 0 d.fCols.length 3, y2, y3] B (d.fCols.map TCol.row).flatten h6 :=
      zw.apps (fun q => congrFun k2 q) (by omega) fun q hq => (k4' q hq).trans (if_neg (by omega))
    simp only [go_sem, kSt_ptr, Nat.reduceBEq, Nat.reduceAdd, zx.p3, zx.p2, n23, z2, zv, cell1 zv]
    exact ⟨fun _ e => (by cases e), _, rfl, (zx.put [.str d.fName, .sl B 0 d.fCols.length 3, y2, v']).out { d with fIndexes := d.fIndexes ++ [⟨s, false, l⟩] } (more := []) rfl (by simp) g2'.1 k1.1 ⟨ho.name, ho.cl, ho.cols, ho.pl, ho.prim, by show (d.fIndexes ++ [(⟨s, false, l⟩ : TIndex)]).length ≤ 3; simp; omega, fun y hy => by
      rcases List.mem_append.1 hy with hy | hy
      · exact ho.idx y hy
      · rw [List.mem_singleton] at hy
        subst hy
        exact ⟨hsl, l2, lo⟩⟩⟩
  by_cases k7 : x = 7
  · subst k7
    simp only [go_sem, kSt_ptr, Nat.reduceBEq, Nat.reduceAdd, Nat.reduceLeDiff, Int.reduceBEq, z.p3]
    refine hP_draw (dr_spec_l1Below cs 2) hcode z.s.cur ?_
    rintro _ h4 ⟨w, rfl, hw⟩ c4
    replace hw : 0 ≤ w ∧ w < 2 := hw
    obtain ⟨m, rfl⟩ : ∃ m : Nat, w = (m : Int) := ⟨w.toNat, by omega⟩
    have hm : m ≤ d.fCols.length := by omega
    have zz := z.draw c4
    have hsl : sIdxL 3 (.sl B 0 d.fCols.length 3) none (some (.int .i64 (m : Int))) = some (.sl B 0 m 3) := by
      have h0 : ¬ (m : Int) < 0 := by omega
      have hmm : (m : Int) ≤ (d.fCols.length : Int) := by omega
      simp [sIdxL, asNat, hmm]
    simp only [go_sem, kSt_ptr, Nat.reduceBEq, Nat.reduceAdd, Nat.reduceLeDiff, zz.p3, zz.p2, n23, z2, z3, hsl]
    have g2 := q2.step c4.nx fun q _ hq => c4.ap q hq
    have g3 := q3.step c4.nx fun q _ hq => c4.ap q hq
    exact ⟨fun _ e => (by cases e), _, rfl, (zz.put [.str d.fName, .sl B 0 m 3, y2, y3]).out { d with fCols := d.fCols.take m } (more := ((d.fCols.drop m).map TCol.row).flatten) (by simp; omega) (by rw [← List.flatten_append, ← List.map_append, List.take_append_drop]) g2.1 g3.1 ⟨ho.name, by show (d.fCols.take m).length ≤ 8; simp; omega, fun c hc => ho.cols c (List.mem_of_mem_take hc), ho.pl, ho.prim, ho.il, ho.idx⟩⟩
  by_cases k8 : x = 8
  · subst k8
    simp only [go_sem, Nat.reduceBEq, Int.reduceBEq]
    refine LA_spec_l9Any cs hT hcode z2 z3 (fun cols B' e4 h4 hl7 hoc' e0 e2 e3 zz => ?_) (7 - d.fCols.length) d.fCols B _ h3 (by omega) (by omega) ho.cols (by simp only [go_sem, Nat.reduceBEq]) (by simp only [go_sem, Nat.reduceBEq]) (by simp only [go_sem, Nat.reduceBEq]) z
    simp only [go_sem, kSt_ptr, Nat.reduceBEq, Nat.reduceAdd, e2, e3, zz.p3, zz.p2, z2, z3]
    exact ⟨fun _ e => (by cases e), _, rfl, zz.out { d with fCols := cols } (more := []) rfl (by simp) q2.1 q3.1 ⟨ho.name, by show cols.length ≤ 8; omega, hoc', ho.pl, ho.prim, ho.il, ho.idx⟩⟩
  · simp only [go_sem, Nat.reduceBEq, beqF k0, beqF k1, beqF k2, beqF k3, beqF k4, beqF k5, beqF k6, beqF k7, beqF k8]
    simp only [go_sem, kSt_ptr, Nat.reduceBEq, Nat.reduceAdd, z.p3, z.p2, z2, z3]
    exact ⟨fun _ e => (by cases e), _, rfl, z.out d (more := []) rfl (by simp) q2.1 q3.1 ho⟩
end Go.Proofs.YtfjkmpmjohojpaaGreatDoor.Ij
namespace Go.Proofs.YtfjkmpmjohojpaaGreatDoor.Ij
open Go Go.RowKit Go.Ev
set_option linter.unusedSimpArgs false
set_option linter.unusedVariables false
set_option maxHeartbeats 1600000
theorem dr_spec_l10Any (cs) (hT : (EE cs).T 81 = some C_spec_l2Num) : DrawR (EE cs) 33 [] (DefsP 4) := drawR_of (st_spec_l10Any cs) fun code r h hcode hcur => by
  simp only [go_sem, Nat.reduceBEq, s_spec_l10Any]
  refine hP_drawR (dr_spec_l10Draw cs) hcode hcur ?_
  rintro v1 h1 ⟨s, g1, l1, l2, ho, hd0⟩ c1
  simp only [go_sem, Nat.reduceBEq]
  refine hP_draw (dr_spec_l1Below cs 8) hcode c1.cur ?_
  rintro _ h2 ⟨x, rfl, hx⟩ c2
  have s2 := c1.trans c2
  have g2 := g1.step c2.nx fun q _ hq => c2.ap q hq
  have hd : ∀ more d', (s ++ more)[0]? = some d' → 2 ≤ d'.fCols.length := fun more d' h => hd0 d' (by rw [List.getElem?_append_left (by omega)] at h; exact h)
  by_cases k0 : x = 0
  · subst k0
    simp only [go_sem, Nat.reduceBEq, Int.reduceBEq]
    refine hP_drawZ (dr_spec_l9Any cs hT) (R := fun t => ∃ d : TDef, t = .agg d.row ∧ okDef d) (fun v h' hp => hp.frz) hcode s2.cur ?_
    rintro _ h3 ⟨d, rfl, ho2⟩ c3
    have s3 := s2.trans c3
    have g3 := g2.step c3.nx fun q _ hq => c3.ap q hq
    have f3 : fillR (List.replicate 1 [.str [], .snil, .snil, .snil]) 4 [(0, .agg d.row)] = some [d.row] := rfl
    have f4 : frzRows [d.row] = some [d.row] := frzRows_T tDef [d]
    have hn3 := s3.nx
    have hn23 := c3.nx
    simp only [go_sem, Nat.reduceBEq, Nat.reduceAdd, f3, f4]
    refine hP_growB (T := tDef) (l := s) [d] rfl (g3.step (by simp) fun q _ hq => by simp; omega) (by simp; omega) rfl (by simp only [List.length_cons, List.length_nil]; unfold room; omega) ?_
    intro v' h5 k1 k2 k3 k4 _
    have e3 : h3.nx + 1 ≤ h5.nx := k3
    simp only [go_sem, Nat.reduceBEq]
    refine ⟨fun _ e => (by cases e), _, rfl, ⟨_, k1, by simp, by simp; omega, fun p hp => ?_, hd _⟩, ?_⟩
    · rcases List.mem_append.1 hp with hp | hp
      · exact ho p hp
      · rw [List.mem_singleton] at hp
        subst hp
        exact ho2
    · exact curApps s3 (fun q => congrFun k2 q) (by omega) fun q hq => (k4 q hq).trans (by simp; omega)
  by_cases k1 : x = 1
  · subst k1
    simp only [go_sem, Nat.reduceBEq, Int.reduceBEq]
    refine hP_drawZ (dr_spec_l9Draw cs [118] (by decide)) (R := DefR) (fun v h' hp => drz hp) hcode s2.cur ?_
    rintro _ h3 ⟨d, rfl, ho2, _⟩ c3
    have s3 := s2.trans c3
    simp only [go_sem, Nat.reduceBEq]
    refine hP_drawZ (dr_spec_l9Draw cs [119] (by decide)) (R := DefR) (fun v h' hp => drz hp) hcode s3.cur ?_
    rintro _ h4 ⟨d2, rfl, ho3, _⟩ c4
    have s4 := s3.trans c4
    have g4 := (g2.step c3.nx fun q _ hq => c3.ap q hq).step c4.nx fun q _ hq => c4.ap q hq
    have f3 : fillR (List.replicate 2 [.str [], .snil, .snil, .snil]) 4 [(0, .agg d.row), (1, .agg d2.row)] = some [d.row, d2.row] := rfl
    have f4 : frzRows [d.row, d2.row] = some [d.row, d2.row] := frzRows_T tDef [d, d2]
    have hn4 := s4.nx
    simp only [go_sem, Nat.reduceBEq, Nat.reduceAdd, f3, f4]
    refine hP_growB (T := tDef) (l := s) [d, d2] rfl (g4.step (by simp) fun q _ hq => by simp; omega) (by simp; omega) rfl (by simp only [List.length_cons, List.length_nil]; unfold room; omega) ?_
    intro v' h5 k1 k2 k3 k4 _
    have e3 : h4.nx + 1 ≤ h5.nx := k3
    simp only [go_sem, Nat.reduceBEq]
    refine ⟨fun _ e => (by cases e), _, rfl, ⟨_, k1, by simp, by simp; omega, fun p hp => ?_, hd _⟩, ?_⟩
    · simp only [List.mem_append, List.mem_cons, List.not_mem_nil, or_false] at hp
      rcases hp with hp | rfl | rfl
      · exact ho p hp
      · exact ho2
      · exact ho3
    · exact curApps s4 (fun q => congrFun k2 q) (by omega) fun q hq => (k4 q hq).trans (by simp; omega)
  · simp only [go_sem, Nat.reduceBEq, beqF k0, beqF k1]
    exact ⟨fun _ e => (by cases e), _, rfl, ⟨s, g2, l1, by omega, ho, hd0⟩, s2⟩
theorem dr_spec_l22Defs (cs) (hT : (EE cs).T 81 = some C_spec_l2Num) : DrawR (EE cs) 12 [] (DefsP 4) := drawR_of (st_spec_l22Defs cs) fun code r h hcode hcur => by
  simp only [go_sem, Nat.reduceBEq, s_spec_l22Defs]
  refine hP_draw (dr_spec_l1Once cs 12) hcode hcur ?_
  rintro _ h1 ⟨b, rfl⟩ c1
  cases b with
  | true =>
    simp only [go_sem, Nat.reduceBEq]
    refine hP_drawR (dr_spec_l10Any cs hT) hcode c1.cur ?_
    intro v h2 hv c2
    simp only [go_sem, Nat.reduceBEq]
    exact ⟨fun _ e => (by cases e), _, rfl, hv.low c1.nx (Nat.le_refl _), c1.trans c2⟩
  | false =>
    simp only [go_sem, Nat.reduceBEq]
    refine hP_drawR (dr_spec_l10Draw cs) hcode c1.cur ?_
    intro v h2 hv c2
    simp only [go_sem, Nat.reduceBEq]
    exact ⟨fun _ e => (by cases e), _, rfl, hv.low c1.nx (by decide), c1.trans c2⟩
theorem ev_spec_l1In (cs) (x a b : Int) : ∃ k n, out (EE cs) k n 14 [.int .i64 x, .int .i64 a, .int .i64 b] = some (.bool (inR x a b)) := by
  refine out_K (n := 0) (st_spec_l1In cs) ?_
  by_cases h1 : a ≤ x
  · simp only [go_sem, Nat.reduceBEq, s_spec_l1In, h1, inR]
  · simp only [go_sem, Nat.reduceBEq, s_spec_l1In, h1, inR]
noncomputable def C_spec_l1In := ct (fun a : Int × Int × Int => [.int .i64 a.1, .int .i64 a.2.1, .int .i64 a.2.2]) (fun _ => True) .bool fun a => inR a.1 a.2.1 a.2.2
theorem C_spec_l1In_eq (x a b : Int) : C_spec_l1In [.int .i64 x, .int .i64 a, .int .i64 b] = some (.bool (inR x a b)) := by
  unfold C_spec_l1In
  exact ct_eq (a := (x, a, b)) (fun a b h => by
    simp only [List.cons.injEq, AV.int.injEq, and_true, true_and] at h
    exact Prod.ext h.1 (Prod.ext h.2.1 h.2.2)) trivial
theorem ok_spec_l1In {WI} (hs : Stable WI) (cs) (hT : TOK (EE cs) WI) : PureOK Tryz.prog WI 14 C_spec_l1In :=
  pure_out hT hs (by rw [st_spec_l1In]; rfl) fun a _ => ev_spec_l1In cs a.1 a.2.1 a.2.2
theorem u8i (b : UInt8) : IntKind.wrap .i64 (b.toNat : Int) = b.toNat := by
  have := b.toNat_lt
  exact wrapId (by omega) (by omega)
def smallB (b : UInt8) : Bool := inR b.toNat 97 122
def digitB (b : UInt8) : Bool := inR b.toNat 48 57
def nameB (pre : List UInt8) (b : UInt8) : Bool := smallB b || (!((pre.length : Int) == 0) && digitB b)
def isName (s : List UInt8) : Bool := allP nameB [] s && inR s.length 1 8
def words : List (List UInt8) := [[116, 97, 98, 108, 101], [112, 114, 105, 109, 97, 114, 121], [117, 110, 105, 113, 117, 101], [105, 110, 100, 101, 120], [110, 117, 108, 108], [100, 101, 115, 99], [105, 110, 116], [110, 117, 109], [116, 101, 120, 116], [98, 111, 111, 108]]
def hasS (l : List (List UInt8)) (s : List UInt8) : Bool := !(l.all fun w => !(w == s))
def freeW (s : List UInt8) : Bool := isName s && !(hasS words s)
def defNames (v : TDef) : Bool := (v.fCols.all fun c => freeW c.fName) && ((v.fIndexes.all fun x => freeW x.fName) && freeW v.fName)
def defTypes (v : TDef) : Bool := (v.fCols.all fun c => inR c.fType 1 4) && inR v.fCols.length 1 6
def colF (name : List UInt8) (pre : List TCol) (c : TCol) : Option Int := if c.fName = name then some (pre.length : Int) else none
def colAt (l : List TCol) (name : List UInt8) : Int := (earlyL (colF name) [] l).getD (-1)
def onceC (pre : List TCol) (c : TCol) : Bool := pre.all fun x => !(x.fName == c.fName)
def onceX (pre : List TIndex) (c : TIndex) : Bool := pre.all fun x => !(x.fName == c.fName)
def defOnce (v : TDef) : Bool := allP onceC [] v.fCols && allP onceX [] v.fIndexes
def partP (n : Int) (pre : List TBy) (p : TBy) : Bool := inR p.fCol 0 n && (pre.all fun q => !(q.fCol == p.fCol))
def partsOK (v : TDef) (l : List TBy) : Bool := allP (partP ((v.fCols.length : Int) - 1)) [] l && inR l.length 1 2
def defParts (v : TDef) : Bool := (v.fIndexes.all fun x => partsOK v x.fParts) && partsOK v v.fPrimary
def colNull (v : TDef) (i : Int) : Bool := match v.fCols[i.toNat]? with
  | some c => c.fNull
  | none => false
def primNull (v : TDef) : Bool := v.fPrimary.all fun p => !(colNull v p.fCol)
def checkDef (v : TDef) : Int :=
  if defNames v = false then 1 else if defTypes v = false then 2 else if defOnce v = false then 3 else if (2 : Int) < v.fIndexes.length then 6 else if defParts v = false then 5 else if primNull v = false then 4 else 0
theorem early_col (name : List UInt8) : ∀ (l pre : List TCol), (∀ x ∈ pre, x.fName ≠ name) → ∀ k, earlyL (colF name) pre l = some k → ∃ p c r, pre ++ l = p ++ c :: r ∧ k = p.length ∧ c.fName = name ∧ ∀ x ∈ p, x.fName ≠ name
  | [], pre, hp, k, h => by cases h
  | c :: r, pre, hp, k, h => by
    simp only [earlyL, colF] at h
    by_cases hc : c.fName = name
    · rw [if_pos hc] at h
      simp only [Option.some.injEq] at h
      exact ⟨pre, c, r, rfl, h.symm, hc, hp⟩
    · rw [if_neg hc] at h
      obtain ⟨p, c', r', h1, h2⟩ := early_col name r (pre ++ [c]) (fun x hx => by
        rcases List.mem_append.1 hx with hx | hx
        · exact hp x hx
        · simp only [List.mem_singleton] at hx; subst hx; exact hc) k h
      exact ⟨p, c', r', by rw [← h1]; simp, h2⟩
theorem early_skip (name : List UInt8) : ∀ (p pre l : List TCol), (∀ x ∈ p, x.fName ≠ name) → earlyL (colF name) pre (p ++ l) = earlyL (colF name) (pre ++ p) l
  | [], pre, l, _ => by simp
  | c :: p, pre, l, h => by
    have hc := h c List.mem_cons_self
    simp only [List.cons_append, earlyL, colF, if_neg hc]
    rw [early_skip name p (pre ++ [c]) l fun x hx => h x (List.mem_cons_of_mem _ hx)]
    simp
theorem colAt_once {l pre rest : List TCol} {c : TCol} (hl : l = pre ++ c :: rest) : (colAt l c.fName == (pre.length : Int)) = onceC pre c := by
  by_cases h : ∀ x ∈ pre, x.fName ≠ c.fName
  · have h1 : colAt l c.fName = pre.length := by
      unfold colAt
      rw [hl, early_skip _ pre [] _ h]
      simp [earlyL, colF]
    have h2 : onceC pre c = true := by
      unfold onceC
      rw [List.all_eq_true]
      intro x hx
      simp [h x hx]
    rw [h1, h2, beq_self_eq_true]
  · have h2 : onceC pre c = false := by
      cases h3 : onceC pre c with
      | false => rfl
      | true =>
        unfold onceC at h3
        rw [List.all_eq_true] at h3
        exact absurd (fun x hx => by simpa using h3 x hx) h
    rw [h2]
    have h4 : colAt l c.fName ≠ pre.length := by
      intro e
      unfold colAt at e
      cases he : earlyL (colF c.fName) [] l with
      | none => rw [he] at e; simp only [Option.getD_none] at e; omega
      | some k =>
        rw [he] at e
        simp only [Option.getD_some] at e
        obtain ⟨p, c', r, h5, h6, h7, h8⟩ := early_col c.fName l [] (fun x hx => by cases hx) k he
        have hlen : p.length = pre.length := by omega
        rw [List.nil_append, hl] at h5
        have := List.append_inj_left h5.symm hlen
        subst this
        exact h h8
    simpa using h4
theorem allP_congr {α : Type} {p q : List α → α → Bool} : ∀ (l pre : List α), (∀ pre' v rest, pre ++ l = pre' ++ v :: rest → p pre' v = q pre' v) → allP p pre l = allP q pre l
  | [], _, _ => rfl
  | v :: l, pre, h => by
    simp only [allP]
    rw [h pre v l rfl, allP_congr l (pre ++ [v]) fun pre' w rest he => h pre' w rest (by rw [← he]; simp)]
theorem defLens {v : TDef} (h : tDef.cost v ≤ 1048576) : v.fName.length ≤ 1048576 ∧ v.fCols.length ≤ 1048576 ∧ v.fPrimary.length ≤ 1048576 ∧ v.fIndexes.length ≤ 1048576 ∧ (∀ c ∈ v.fCols, c.fName.length ≤ 1048576) ∧ ∀ x ∈ v.fIndexes, x.fName.length ≤ 1048576 ∧ x.fParts.length ≤ 1048576 := by
  have h0 : v.fName.length + (v.fCols.length + costL tCol v.fCols) + (v.fPrimary.length + costL tBy v.fPrimary) + (v.fIndexes.length + costL tIndex v.fIndexes) ≤ 1048576 := h
  refine ⟨by omega, by omega, by omega, by omega, fun c hc => ?_, fun x hx => ?_⟩
  · have h1 := costL_mem tCol hc
    have h2 : tCol.cost c = c.fName.length := rfl
    omega
  · have h1 := costL_mem tIndex hx
    have h2 : tIndex.cost x = x.fName.length + (x.fParts.length + costL tBy x.fParts) := rfl
    constructor <;> omega
theorem defCols_len {v : TDef} (h : tDef.cost v ≤ 1048576) : IntKind.wrap .i64 ((v.fCols.length : Int) - 1) = (v.fCols.length : Int) - 1 := by
  have := (defLens h).2.1
  exact wrapId (by omega) (by omega)
theorem partsOK_spec (v : TDef) (l : List TBy) : (allP (fun pre p => inR p.fCol 0 ((v.fCols.length : Int) - 1) && !(decide (0 < (pre.length : Int)) && ((l.head?.map (·.fCol)) == some p.fCol))) [] l && inR l.length 1 2) = partsOK v l := by
  unfold partsOK
  by_cases h2 : l.length ≤ 2
  · congr 1
    refine allP_congr l [] fun pre p rest he => ?_
    rw [List.nil_append] at he
    unfold partP
    congr 1
    have hpl : pre.length ≤ 1 := by rw [he] at h2; simp at h2; omega
    match pre, hpl, he with
    | [], _, _ => simp
    | [q], _, he =>
      subst he
      simp
    | _ :: _ :: _, h, _ => simp at h
  · have : inR l.length 1 2 = false := by
      unfold inR
      simp
      omega
    rw [this, Bool.and_false, Bool.and_false]
theorem parts_col {v : TDef} {l : List TBy} (h : partsOK v l = true) : ∀ p ∈ l, 0 ≤ p.fCol ∧ p.fCol.toNat < v.fCols.length := by
  unfold partsOK at h
  simp only [Bool.and_eq_true] at h
  have go : ∀ (l pre : List TBy), allP (partP ((v.fCols.length : Int) - 1)) pre l = true → ∀ p ∈ l, 0 ≤ p.fCol ∧ p.fCol.toNat < v.fCols.length := by
    intro l
    induction l with
    | nil => intro pre _ p hp; cases hp
    | cons x l ih =>
      intro pre hx p hp
      simp only [allP, Bool.and_eq_true] at hx
      rcases List.mem_cons.1 hp with rfl | hp
      · have := hx.1
        unfold partP at this
        simp only [Bool.and_eq_true] at this
        have h1 := this.1
        unfold inR at h1
        simp at h1
        omega
      · exact ih _ hx.2 p hp
  exact go l [] h.1
theorem def_good {v : TDef} (h : checkDef v = 0) : defNames v = true ∧ defTypes v = true ∧ defOnce v = true ∧ v.fIndexes.length ≤ 2 ∧ defParts v = true ∧ primNull v = true := by
  unfold checkDef at h
  cases h1 : defNames v <;> simp [h1] at h
  cases h2 : defTypes v <;> simp [h2] at h
  cases h3 : defOnce v <;> simp [h3] at h
  by_cases h4 : (2 : Int) < v.fIndexes.length
  · simp [h4] at h
  cases h5 : defParts v <;> simp [h4, h5] at h
  cases h6 : primNull v <;> simp [h6] at h
  exact ⟨rfl, rfl, rfl, by omega, rfl, rfl⟩
noncomputable def C_spec_l8Small := c1 u8T (fun (b : UInt8) => True) (.bool) fun (b : UInt8) => smallB b
theorem C_spec_l8Small_eq (b : UInt8) (h : True) : C_spec_l8Small [.int .u8 (b).toNat] = some (.bool ((smallB b))) := c1_eq u8T h
theorem ok_spec_l8Small {WI : World → Prop} (hs : Stable WI) (cs) (hT : TOK (EE cs) WI) (h : (EE cs).T 14 = some C_spec_l1In) : PureOK Tryz.prog WI 95 C_spec_l8Small := by
  refine pure1 (E := EE cs) hT hs (by rw [st_spec_l8Small]; rfl) fun b hp => out_wp (n := 0) (st_spec_l8Small cs) ?_
  simp only [go_sem, Nat.reduceBEq, s_spec_l8Small, u8i, h, C_spec_l1In_eq, smallB]
noncomputable def C_spec_l2Digit := c1 u8T (fun (b : UInt8) => True) (.bool) fun (b : UInt8) => digitB b
theorem C_spec_l2Digit_eq (b : UInt8) (h : True) : C_spec_l2Digit [.int .u8 (b).toNat] = some (.bool ((digitB b))) := c1_eq u8T h
theorem ok_spec_l2Digit {WI : World → Prop} (hs : Stable WI) (cs) (hT : TOK (EE cs) WI) (h : (EE cs).T 14 = some C_spec_l1In) : PureOK Tryz.prog WI 96 C_spec_l2Digit := by
  refine pure1 (E := EE cs) hT hs (by rw [st_spec_l2Digit]; rfl) fun b hp => out_wp (n := 0) (st_spec_l2Digit cs) ?_
  simp only [go_sem, Nat.reduceBEq, s_spec_l2Digit, u8i, h, C_spec_l1In_eq, digitB]
end Go.Proofs.YtfjkmpmjohojpaaGreatDoor.Ij
namespace Go.Proofs.YtfjkmpmjohojpaaGreatDoor.Ij
open Go Go.RowKit Go.Ev
set_option linter.unusedSimpArgs false
set_option linter.unusedVariables false
set_option maxHeartbeats 1600000
noncomputable def C_spec_l8Name := c1 strT (fun (s : List UInt8) => s.length ≤ 1048576) (.bool) fun (s : List UInt8) => isName s
theorem C_spec_l8Name_eq (s : List UInt8) (h : s.length ≤ 1048576) : C_spec_l8Name [.str s] = some (.bool ((isName s))) := c1_eq strT h
theorem ok_spec_l8Name {WI : World → Prop} (hs : Stable WI) (cs) (hT : TOK (EE cs) WI) (h1 : (EE cs).T 95 = some C_spec_l8Small) (h2 : (EE cs).T 96 = some C_spec_l2Digit) (h3 : (EE cs).T 14 = some C_spec_l1In) : PureOK Tryz.prog WI 90 C_spec_l8Name := by
  refine pure1 (E := EE cs) hT hs (by rw [st_spec_l8Name]; rfl) fun s hp => out_wp (n := 0) (st_spec_l8Name cs) ?_
  simp only [go_sem, s_spec_l8Name]
  refine (wl_all (l := s) (fun pre b => nameB pre b) (fun pre e h => e 0 = .str s ∧ e 3 = .int .i64 pre.length) (.exit 0) (fun e h => e 0 = .str s) (fun e h => e 2 = .bool false) (by omega) ?_ ?_ ?_ (by simp) s [] _ _ rfl ?_).mono ?_
  · rintro pre b rest e h a hp ⟨q0, ix⟩
    cases c1 : smallB b <;> cases c2 : ((pre.length : Int) == 0) <;> cases c3 : digitB b <;> simp [nameB, c1, c2, c3] at hp
    all_goals simp only [go_sem, Nat.reduceBEq, s_spec_l8Name_L0, q0, ix, a.dl, kIx_at a.hl, a.hw, h1, h2, C_spec_l8Small_eq b trivial, C_spec_l2Digit_eq b trivial, c1, c2, c3]
  · rintro pre b rest e h a hp ⟨q0, ix⟩
    cases c1 : smallB b <;> cases c2 : ((pre.length : Int) == 0) <;> cases c3 : digitB b <;> simp [nameB, c1, c2, c3] at hp
    all_goals simp only [go_sem, Nat.reduceBEq, s_spec_l8Name_L0, q0, ix, a.dl, kIx_at a.hl, a.hw, h1, h2, C_spec_l8Small_eq b trivial, C_spec_l2Digit_eq b trivial, c1, c2, c3]
  · rintro e h ⟨q0, ix⟩
    simp only [go_sem, Nat.reduceBEq, s_spec_l8Name_L0, q0, ix]
  · simp only [go_sem, Nat.reduceBEq, and_self]
  · rintro x e h (⟨hp, rfl, j0⟩ | ⟨hp, rfl, j⟩)
    · simp only [go_sem, Nat.reduceBEq, j0, h3, C_spec_l1In_eq, isName, hp]
    · simp only [go_sem, j, isName, hp]
noncomputable def C_spec_l9Has := c2 (sliceT strT) strT (fun (l : List (List UInt8)) (s : List UInt8) => l.length ≤ 1048576) (.bool) fun (l : List (List UInt8)) (s : List UInt8) => hasS l s
theorem C_spec_l9Has_eq (l : List (List UInt8)) (s : List UInt8) (h : l.length ≤ 1048576) : C_spec_l9Has [.imm (l.map strT.row), .str s] = some (.bool ((hasS l s))) := c2_eq (sliceT strT) strT h
theorem ok_spec_l9Has {WI : World → Prop} (hs : Stable WI) (cs) (hT : TOK (EE cs) WI) : PureOK Tryz.prog WI 91 C_spec_l9Has := by
  refine pure2 (E := EE cs) hT hs (by rw [st_spec_l9Has]; rfl) fun l s hp => out_wp (n := 0) (st_spec_l9Has cs) ?_
  simp only [go_sem, s_spec_l9Has]
  refine (wl_all (l := l) (fun pre w => !(w == s)) (fun pre e h => e 0 = .imm (l.map strT.row) ∧ e 1 = .str s ∧ e 5 = .int .i64 pre.length) (.exit 0) (fun e h => e 0 = .imm (l.map strT.row) ∧ e 1 = .str s) (fun e h => e 4 = .bool true) (by omega) ?_ ?_ ?_ (by simp) l [] _ _ rfl ?_).mono ?_
  · rintro pre w rest e h a hp ⟨q0, q1, ix⟩
    have hq : (w == s) = false := by simpa using hp
    all_goals simp only [go_sem, Nat.reduceBEq, s_spec_l9Has_L0, q0, q1, ix, a.dl, a.ia (row := strT.row) (sz := 1) rfl, a.hw, hq]
  · rintro pre w rest e h a hp ⟨q0, q1, ix⟩
    have hq : (w == s) = true := by simpa using hp
    all_goals simp only [go_sem, Nat.reduceBEq, s_spec_l9Has_L0, q0, q1, ix, a.dl, a.ia (row := strT.row) (sz := 1) rfl, a.hw, hq]
  · rintro e h ⟨q0, q1, ix⟩
    simp only [go_sem, Nat.reduceBEq, s_spec_l9Has_L0, q0, q1, ix]
  · simp only [go_sem, Nat.reduceBEq, and_self]
  · rintro x e h (⟨hp, rfl, j0⟩ | ⟨hp, rfl, j⟩)
    · rw [allP_all] at hp
      simp only [go_sem, hasS, hp]
    · rw [allP_all] at hp
      simp only [go_sem, j, hasS, hp]
noncomputable def C_spec_l9Word := c1 strT (fun (s : List UInt8) => s.length ≤ 1048576) (.bool) fun (s : List UInt8) => freeW s
theorem C_spec_l9Word_eq (s : List UInt8) (h : s.length ≤ 1048576) : C_spec_l9Word [.str s] = some (.bool ((freeW s))) := c1_eq strT h
theorem ok_spec_l9Word {WI : World → Prop} (hs : Stable WI) (cs) (hT : TOK (EE cs) WI) (h1 : (EE cs).T 90 = some C_spec_l8Name) (h2 : (EE cs).T 91 = some C_spec_l9Has) : PureOK Tryz.prog WI 84 C_spec_l9Word := by
  refine pure1 (E := EE cs) hT hs (by rw [st_spec_l9Word]; rfl) fun s hp => out_wp (n := 0) (st_spec_l9Word cs) ?_
  have c1 := C_spec_l8Name_eq s hp
  have c2 : C_spec_l9Has [.imm [[.str [116, 97, 98, 108, 101]], [.str [112, 114, 105, 109, 97, 114, 121]], [.str [117, 110, 105, 113, 117, 101]], [.str [105, 110, 100, 101, 120]], [.str [110, 117, 108, 108]], [.str [100, 101, 115, 99]], [.str [105, 110, 116]], [.str [110, 117, 109]], [.str [116, 101, 120, 116]], [.str [98, 111, 111, 108]]], .str s] = some (.bool (hasS words s)) := C_spec_l9Has_eq words s (by decide)
  have f1 : ∀ a b c d e f g h i j : List UInt8, fillR (List.replicate 10 [.str []]) 1 [(0, .str a), (1, .str b), (2, .str c), (3, .str d), (4, .str e), (5, .str f), (6, .str g), (7, .str h), (8, .str i), (9, .str j)] = some [[.str a], [.str b], [.str c], [.str d], [.str e], [.str f], [.str g], [.str h], [.str i], [.str j]] := fun _ _ _ _ _ _ _ _ _ _ => rfl
  have f2 : ∀ a b c d e f g h i j : List UInt8, frzRows [[.str a], [.str b], [.str c], [.str d], [.str e], [.str f], [.str g], [.str h], [.str i], [.str j]] = some [[.str a], [.str b], [.str c], [.str d], [.str e], [.str f], [.str g], [.str h], [.str i], [.str j]] := fun _ _ _ _ _ _ _ _ _ _ => rfl
  cases hn : isName s
  · simp only [go_sem, Nat.reduceBEq, s_spec_l9Word, h1, c1, hn, freeW]
  · simp only [go_sem, Nat.reduceBEq, s_spec_l9Word, h1, h2, c1, c2, hn, f1, f2, freeW]
noncomputable def C_spec_l9Names := c1 tDef (fun (v : TDef) => tDef.cost v ≤ 1048576) (.bool) fun (v : TDef) => defNames v
theorem C_spec_l9Names_eq (v : TDef) (h : tDef.cost v ≤ 1048576) : C_spec_l9Names [.agg [.str v.fName, .imm (v.fCols.map TCol.row), .imm (v.fPrimary.map TBy.row), .imm (v.fIndexes.map TIndex.row)]] = some (.bool ((defNames v))) := c1_eq tDef h
theorem ok_spec_l9Names {WI : World → Prop} (hs : Stable WI) (cs) (hT : TOK (EE cs) WI) (h1 : (EE cs).T 84 = some C_spec_l9Word) : PureOK Tryz.prog WI 71 C_spec_l9Names := by
  refine pure1 (E := EE cs) hT hs (by rw [st_spec_l9Names]; rfl) fun v hp => out_wp (n := 0) (st_spec_l9Names cs) ?_
  obtain ⟨n1, n2, n3, n4, n5, n6⟩ := defLens hp
  simp only [go_sem, s_spec_l9Names, TDef.row]
  refine (wl_all (l := v.fCols) (fun pre c => freeW c.fName) (fun pre e h => e 1 = .ptr 0 0 ∧ h.hp 0 = some v.row ∧ e 3 = .int .i64 pre.length) (.exit 0) (fun e h => e 1 = .ptr 0 0 ∧ h.hp 0 = some v.row) (fun e h => e 2 = .bool false) (by omega) ?_ ?_ ?_ (by simp) v.fCols [] _ _ rfl ?_).mono ?_
  · rintro pre c rest e h a hp ⟨q0, q1, ix⟩
    simp only [go_sem, Nat.reduceBEq, Nat.reduceAdd, Nat.reduceLeDiff, s_spec_l9Names_L0, q0, q1, ix, a.dl, a.ia (row := TCol.row) (sz := 3) rfl, hp, a.hw, TDef.row, TCol.row, h1, C_spec_l9Word_eq c.fName (n5 c a.mem)]
  · rintro pre c rest e h a hp ⟨q0, q1, ix⟩
    simp only [go_sem, Nat.reduceBEq, Nat.reduceAdd, Nat.reduceLeDiff, s_spec_l9Names_L0, q0, q1, ix, a.dl, a.ia (row := TCol.row) (sz := 3) rfl, hp, a.hw, TDef.row, TCol.row, h1, C_spec_l9Word_eq c.fName (n5 c a.mem)]
  · rintro e h ⟨q0, q1, ix⟩
    simp only [go_sem, Nat.reduceBEq, Nat.reduceAdd, Nat.reduceLeDiff, s_spec_l9Names_L0, q0, q1, ix, TDef.row]
  · simp only [go_sem, Nat.reduceBEq, TDef.row]
  · rintro x e h (⟨hp, rfl, j0, j1⟩ | ⟨hp, rfl, j⟩)
    · rw [allP_all] at hp
      simp only [go_sem]
      refine (wl_all (l := v.fIndexes) (fun pre c => freeW c.fName) (fun pre e h => e 1 = .ptr 0 0 ∧ h.hp 0 = some v.row ∧ e 4 = .int .i64 pre.length) (.exit 2) (fun e h => e 1 = .ptr 0 0 ∧ h.hp 0 = some v.row) (fun e h => e 2 = .bool false) (by omega) ?_ ?_ ?_ (by simp) v.fIndexes [] _ _ rfl ?_).mono ?_
      · rintro pre c rest e h a hp ⟨q0, q1, ix⟩
        simp only [go_sem, Nat.reduceBEq, Nat.reduceAdd, Nat.reduceLeDiff, s_spec_l9Names_L1, q0, q1, ix, a.dl, a.ia (row := TIndex.row) (sz := 3) rfl, hp, a.hw, TDef.row, TIndex.row, h1, C_spec_l9Word_eq c.fName (n6 c a.mem).1]
      · rintro pre c rest e h a hp ⟨q0, q1, ix⟩
        simp only [go_sem, Nat.reduceBEq, Nat.reduceAdd, Nat.reduceLeDiff, s_spec_l9Names_L1, q0, q1, ix, a.dl, a.ia (row := TIndex.row) (sz := 3) rfl, hp, a.hw, TDef.row, TIndex.row, h1, C_spec_l9Word_eq c.fName (n6 c a.mem).1]
      · rintro e h ⟨q0, q1, ix⟩
        simp only [go_sem, Nat.reduceBEq, Nat.reduceAdd, Nat.reduceLeDiff, s_spec_l9Names_L1, q0, q1, ix, TDef.row]
      · simp only [go_sem, Nat.reduceBEq, j0, j1, TDef.row]
      · rintro x e h (⟨hp2, rfl, j0, j1⟩ | ⟨hp2, rfl, j⟩)
        · rw [allP_all] at hp2
          simp only [go_sem, Nat.reduceBEq, j0, j1, TDef.row, h1, C_spec_l9Word_eq v.fName n1, defNames, hp, hp2]
        · rw [allP_all] at hp2
          simp only [go_sem, j, defNames, hp, hp2]
    · rw [allP_all] at hp
      simp only [go_sem, j, defNames, hp]
noncomputable def C_spec_l9Types := c1 tDef (fun (v : TDef) => tDef.cost v ≤ 1048576) (.bool) fun (v : TDef) => defTypes v
theorem C_spec_l9Types_eq (v : TDef) (h : tDef.cost v ≤ 1048576) : C_spec_l9Types [.agg [.str v.fName, .imm (v.fCols.map TCol.row), .imm (v.fPrimary.map TBy.row), .imm (v.fIndexes.map TIndex.row)]] = some (.bool ((defTypes v))) := c1_eq tDef h
theorem ok_spec_l9Types {WI : World → Prop} (hs : Stable WI) (cs) (hT : TOK (EE cs) WI) (h1 : (EE cs).T 14 = some C_spec_l1In) : PureOK Tryz.prog WI 72 C_spec_l9Types := by
  refine pure1 (E := EE cs) hT hs (by rw [st_spec_l9Types]; rfl) fun v hp => out_wp (n := 0) (st_spec_l9Types cs) ?_
  obtain ⟨n1, n2, n3, n4, n5, n6⟩ := defLens hp
  simp only [go_sem, s_spec_l9Types, TDef.row]
  refine (wl_all (l := v.fCols) (fun pre c => inR c.fType 1 4) (fun pre e h => e 1 = .ptr 0 0 ∧ h.hp 0 = some v.row ∧ e 3 = .int .i64 pre.length) (.exit 0) (fun e h => e 1 = .ptr 0 0 ∧ h.hp 0 = some v.row) (fun e h => e 2 = .bool false) (by omega) ?_ ?_ ?_ (by simp) v.fCols [] _ _ rfl ?_).mono ?_
  · rintro pre c rest e h a hp ⟨q0, q1, ix⟩
    simp only [go_sem, Nat.reduceBEq, Nat.reduceAdd, Nat.reduceLeDiff, s_spec_l9Types_L0, q0, q1, ix, a.dl, a.ia (row := TCol.row) (sz := 3) rfl, hp, a.hw, TDef.row, TCol.row, h1, C_spec_l1In_eq]
  · rintro pre c rest e h a hp ⟨q0, q1, ix⟩
    simp only [go_sem, Nat.reduceBEq, Nat.reduceAdd, Nat.reduceLeDiff, s_spec_l9Types_L0, q0, q1, ix, a.dl, a.ia (row := TCol.row) (sz := 3) rfl, hp, a.hw, TDef.row, TCol.row, h1, C_spec_l1In_eq]
  · rintro e h ⟨q0, q1, ix⟩
    simp only [go_sem, Nat.reduceBEq, Nat.reduceAdd, Nat.reduceLeDiff, s_spec_l9Types_L0, q0, q1, ix, TDef.row]
  · simp only [go_sem, Nat.reduceBEq, TDef.row]
  · rintro x e h (⟨hp, rfl, j0, j1⟩ | ⟨hp, rfl, j⟩)
    · rw [allP_all] at hp
      simp only [go_sem, Nat.reduceBEq, Nat.reduceAdd, Nat.reduceLeDiff, j0, j1, TDef.row, h1, C_spec_l1In_eq, defTypes, hp]
    · rw [allP_all] at hp
      simp only [go_sem, j, defTypes, hp]
noncomputable def C_spec_l9Col := c2 tDef strT (fun (v : TDef) (name : List UInt8) => tDef.cost v ≤ 1048576) ((.int .i64)) fun (v : TDef) (name : List UInt8) => colAt v.fCols name
theorem C_spec_l9Col_eq (v : TDef) (name : List UInt8) (h : tDef.cost v ≤ 1048576) : C_spec_l9Col [.agg [.str v.fName, .imm (v.fCols.map TCol.row), .imm (v.fPrimary.map TBy.row), .imm (v.fIndexes.map TIndex.row)], .str name] = some (.int .i64 ((colAt v.fCols name))) := c2_eq tDef strT h
theorem ok_spec_l9Col {WI : World → Prop} (hs : Stable WI) (cs) (hT : TOK (EE cs) WI) : PureOK Tryz.prog WI 85 C_spec_l9Col := by
  refine pure2 (E := EE cs) hT hs (by rw [st_spec_l9Col]; rfl) fun v name hp => out_wp (n := 0) (st_spec_l9Col cs) ?_
  obtain ⟨n1, n2, n3, n4, n5, n6⟩ := defLens hp
  simp only [go_sem, s_spec_l9Col, TDef.row]
  refine (wl_early (l := v.fCols) (fun pre c => colF name pre c) (fun pre e h => e 2 = .ptr 0 0 ∧ h.hp 0 = some v.row ∧ e 1 = .str name ∧ e 5 = .int .i64 pre.length) (.exit 0) (fun e h => e 2 = .ptr 0 0 ∧ h.hp 0 = some v.row ∧ e 1 = .str name) (fun b e h => e 4 = .int .i64 b) (by omega) ?_ ?_ ?_ (by simp) v.fCols [] _ _ rfl ?_).mono ?_
  · rintro pre c rest e h a hp ⟨q0, q1, q2, ix⟩
    have hq : (c.fName == name) = false := by unfold colF at hp; split at hp; cases hp; simpa using ‹¬ c.fName = name›
    simp only [go_sem, Nat.reduceBEq, Nat.reduceAdd, Nat.reduceLeDiff, s_spec_l9Col_L0, q0, q1, q2, ix, a.dl, a.ia (row := TCol.row) (sz := 3) rfl, a.hw, TDef.row, TCol.row, hq]
  · rintro pre c rest b e h a hp ⟨q0, q1, q2, ix⟩
    have hq : (c.fName == name) = true := by unfold colF at hp; split at hp; simpa using ‹c.fName = name›; cases hp
    have hb : b = (pre.length : Int) := by unfold colF at hp; split at hp; simpa using hp.symm; cases hp
    subst hb
    simp only [go_sem, Nat.reduceBEq, Nat.reduceAdd, Nat.reduceLeDiff, s_spec_l9Col_L0, q0, q1, q2, ix, a.dl, a.ia (row := TCol.row) (sz := 3) rfl, a.hw, TDef.row, TCol.row, hq]
  · rintro e h ⟨q0, q1, q2, ix⟩
    simp only [go_sem, Nat.reduceBEq, Nat.reduceAdd, Nat.reduceLeDiff, s_spec_l9Col_L0, q0, q1, q2, ix, TDef.row]
  · simp only [go_sem, Nat.reduceBEq, TDef.row]
  · intro x e h hx
    cases he : earlyL (colF name) [] v.fCols with
    | none =>
      rw [he] at hx
      obtain ⟨rfl, j0, j1, j2⟩ := hx
      simp only [go_sem, colAt, he, Option.getD_none]
    | some k =>
      rw [he] at hx
      obtain ⟨rfl, j⟩ := hx
      simp only [go_sem, j, colAt, he]
noncomputable def C_spec_l9Once := c1 tDef (fun (v : TDef) => tDef.cost v ≤ 1048576) (.bool) fun (v : TDef) => defOnce v
theorem C_spec_l9Once_eq (v : TDef) (h : tDef.cost v ≤ 1048576) : C_spec_l9Once [.agg [.str v.fName, .imm (v.fCols.map TCol.row), .imm (v.fPrimary.map TBy.row), .imm (v.fIndexes.map TIndex.row)]] = some (.bool ((defOnce v))) := c1_eq tDef h
theorem ok_spec_l9Once {WI : World → Prop} (hs : Stable WI) (cs) (hT : TOK (EE cs) WI) (h1 : (EE cs).T 85 = some C_spec_l9Col) : PureOK Tryz.prog WI 73 C_spec_l9Once := by
  refine pure1 (E := EE cs) hT hs (by rw [st_spec_l9Once]; rfl) fun v hp => out_wp (n := 0) (st_spec_l9Once cs) ?_
  obtain ⟨n1, n2, n3, n4, n5, n6⟩ := defLens hp
  simp only [go_sem, s_spec_l9Once, TDef.row]
  have hfz : frzCells v.row = some v.row := rfl
  have inner : ∀ pre c rest, At v.fIndexes pre c rest → ∀ e h, e 1 = .ptr 0 0 → h.hp 0 = some v.row → e 4 = .int .i64 pre.length → e 5 = .int .i64 0 → WL (EE cs) s_spec_l9Once_L1 e h fun x e' h' => (onceX pre c = true ∧ x = .exit 4 ∧ e' 1 = .ptr 0 0 ∧ h'.hp 0 = some v.row ∧ e' 4 = .int .i64 pre.length) ∨ (onceX pre c = false ∧ x = .ret ∧ e' 2 = .bool false) := by
    intro pre0 c rest0 a0 e h k0 k1 k2 k3
    refine (wl_all (l := pre0) (fun pre y => !(y.fName == c.fName)) (fun pre e h => e 1 = .ptr 0 0 ∧ h.hp 0 = some v.row ∧ e 4 = .int .i64 pre0.length ∧ e 5 = .int .i64 pre.length) (.exit 4) (fun e h => e 1 = .ptr 0 0 ∧ h.hp 0 = some v.row ∧ e 4 = .int .i64 pre0.length) (fun e h => e 2 = .bool false) (by have := a0.lt; omega) ?_ ?_ ?_ (by simp) pre0 [] _ _ rfl ?_).mono ?_
    · rintro pre y rest e h a hp ⟨q0, q1, q2, ix⟩
      have hl2 : v.fIndexes = pre ++ y :: (rest ++ c :: rest0) := by rw [a0.hl, a.hl]; simp
      have hq : (y.fName == c.fName) = false := by simpa using hp
      simp only [go_sem, Nat.reduceBEq, Nat.reduceAdd, Nat.reduceLeDiff, s_spec_l9Once_L1, q0, q1, q2, ix, a.dl, a.hw, TDef.row, TIndex.row, kIa_map (row := TIndex.row) (sz := 3) hl2 rfl, a0.ia (row := TIndex.row) (sz := 3) rfl, hq]
    · rintro pre y rest e h a hp ⟨q0, q1, q2, ix⟩
      have hl2 : v.fIndexes = pre ++ y :: (rest ++ c :: rest0) := by rw [a0.hl, a.hl]; simp
      have hq : (y.fName == c.fName) = true := by simpa using hp
      simp only [go_sem, Nat.reduceBEq, Nat.reduceAdd, Nat.reduceLeDiff, s_spec_l9Once_L1, q0, q1, q2, ix, a.dl, a.hw, TDef.row, TIndex.row, kIa_map (row := TIndex.row) (sz := 3) hl2 rfl, a0.ia (row := TIndex.row) (sz := 3) rfl, hq]
    · rintro e h ⟨q0, q1, q2, ix⟩
      simp only [go_sem, Nat.reduceBEq, Nat.reduceAdd, Nat.reduceLeDiff, s_spec_l9Once_L1, q0, q1, q2, ix, TDef.row]
    · simp only [go_sem, k0, k1, k2, k3, TDef.row]
    · rintro x e' h' (⟨hp, rfl, j0, j1, j2⟩ | ⟨hp, rfl, j⟩)
      · rw [allP_all] at hp
        exact .inl ⟨hp, rfl, j0, j1, j2⟩
      · rw [allP_all] at hp
        exact .inr ⟨hp, rfl, j⟩
  refine (wl_all (l := v.fCols) (fun pre c => onceC pre c) (fun pre e h => e 1 = .ptr 0 0 ∧ h.hp 0 = some v.row ∧ e 3 = .int .i64 pre.length) (.exit 0) (fun e h => e 1 = .ptr 0 0 ∧ h.hp 0 = some v.row) (fun e h => e 2 = .bool false) (by omega) ?_ ?_ ?_ (by simp) v.fCols [] _ _ rfl ?_).mono ?_
  · rintro pre c rest e h a hp ⟨q0, q1, ix⟩
    have hc : C_spec_l9Col [.agg [.str v.fName, .imm (v.fCols.map TCol.row), .imm (v.fPrimary.map TBy.row), .imm (v.fIndexes.map TIndex.row)], .str c.fName] = some (.int .i64 (colAt v.fCols c.fName)) := C_spec_l9Col_eq v c.fName ‹_›
    have hq := colAt_once a.hl
    simp only [go_sem, Nat.reduceBEq, Nat.reduceAdd, Nat.reduceLeDiff, s_spec_l9Once_L0, q0, q1, ix, a.dl, a.ia (row := TCol.row) (sz := 3) rfl, hp, a.hw, TDef.row, TCol.row, h1, hc, hq, bne]
  · rintro pre c rest e h a hp ⟨q0, q1, ix⟩
    have hc : C_spec_l9Col [.agg [.str v.fName, .imm (v.fCols.map TCol.row), .imm (v.fPrimary.map TBy.row), .imm (v.fIndexes.map TIndex.row)], .str c.fName] = some (.int .i64 (colAt v.fCols c.fName)) := C_spec_l9Col_eq v c.fName ‹_›
    have hq := colAt_once a.hl
    simp only [go_sem, Nat.reduceBEq, Nat.reduceAdd, Nat.reduceLeDiff, s_spec_l9Once_L0, q0, q1, ix, a.dl, a.ia (row := TCol.row) (sz := 3) rfl, hp, a.hw, TDef.row, TCol.row, h1, hc, hq, bne]
  · rintro e h ⟨q0, q1, ix⟩
    simp only [go_sem, Nat.reduceBEq, Nat.reduceAdd, Nat.reduceLeDiff, s_spec_l9Once_L0, q0, q1, ix, TDef.row]
  · simp only [go_sem, Nat.reduceBEq, TDef.row]
  · rintro x e h (⟨hp1, rfl, j0, j1⟩ | ⟨hp1, rfl, j⟩)
    · simp only [go_sem]
      refine (wl_all (l := v.fIndexes) (fun pre c => onceX pre c) (fun pre e h => e 1 = .ptr 0 0 ∧ h.hp 0 = some v.row ∧ e 4 = .int .i64 pre.length) (.exit 2) (fun e h => e 1 = .ptr 0 0 ∧ h.hp 0 = some v.row) (fun e h => e 2 = .bool false) (by omega) ?_ ?_ ?_ (by simp) v.fIndexes [] _ _ rfl ?_).mono ?_
      · rintro pre c rest e h a hp ⟨q0, q1, ix⟩
        simp only [go_sem, Nat.reduceBEq, Nat.reduceAdd, Nat.reduceLeDiff, s_spec_l9Once_L2, q0, q1, ix, a.dl, TDef.row]
        refine (inner pre c rest a _ _ (by simp only [go_sem, Nat.reduceBEq, q0]) (by simp only [go_sem, q1]) (by simp only [go_sem, Nat.reduceBEq, ix]) (by simp only [go_sem, Nat.reduceBEq])).mono ?_
        rintro x e' h' (⟨hq, rfl, k0, k1, k2⟩ | ⟨hq, rfl, k⟩)
        · simp only [go_sem, Nat.reduceBEq, k0, k1, k2, TDef.row, a.hw]
        · rw [hp] at hq; cases hq
      · rintro pre c rest e h a hp ⟨q0, q1, ix⟩
        simp only [go_sem, Nat.reduceBEq, Nat.reduceAdd, Nat.reduceLeDiff, s_spec_l9Once_L2, q0, q1, ix, a.dl, TDef.row]
        refine (inner pre c rest a _ _ (by simp only [go_sem, Nat.reduceBEq, q0]) (by simp only [go_sem, q1]) (by simp only [go_sem, Nat.reduceBEq, ix]) (by simp only [go_sem, Nat.reduceBEq])).mono ?_
        rintro x e' h' (⟨hq, rfl, k0, k1, k2⟩ | ⟨hq, rfl, k⟩)
        · rw [hp] at hq; cases hq
        · simp only [go_sem, k]
      · rintro e h ⟨q0, q1, ix⟩
        simp only [go_sem, Nat.reduceBEq, Nat.reduceAdd, Nat.reduceLeDiff, s_spec_l9Once_L2, q0, q1, ix, TDef.row]
      · simp only [go_sem, Nat.reduceBEq, j0, j1, TDef.row]
      · rintro x e h (⟨hp2, rfl, j0, j1⟩ | ⟨hp2, rfl, j⟩)
        · simp only [go_sem, defOnce, hp1, hp2]
        · simp only [go_sem, j, defOnce, hp1, hp2]
    · simp only [go_sem, j, defOnce, hp1]
end Go.Proofs.YtfjkmpmjohojpaaGreatDoor.Ij
namespace Go.Proofs.YtfjkmpmjohojpaaGreatDoor.Ij
open Go Go.RowKit Go.Ev
set_option linter.unusedSimpArgs false
set_option linter.unusedVariables false
set_option maxHeartbeats 1600000
noncomputable def C_spec_l9Parts := c2 tDef (sliceT tBy) (fun (v : TDef) (l : List (TBy)) => tDef.cost v ≤ 1048576 ∧ l.length ≤ 1048576) (.bool) fun (v : TDef) (l : List (TBy)) => partsOK v l
theorem C_spec_l9Parts_eq (v : TDef) (l : List (TBy)) (h : tDef.cost v ≤ 1048576 ∧ l.length ≤ 1048576) : C_spec_l9Parts [.agg [.str v.fName, .imm (v.fCols.map TCol.row), .imm (v.fPrimary.map TBy.row), .imm (v.fIndexes.map TIndex.row)], .imm (l.map TBy.row)] = some (.bool ((partsOK v l))) := c2_eq tDef (sliceT tBy) h
theorem ok_spec_l9Parts {WI : World → Prop} (hs : Stable WI) (cs) (hT : TOK (EE cs) WI) (h1 : (EE cs).T 14 = some C_spec_l1In) : PureOK Tryz.prog WI 86 C_spec_l9Parts := by
  refine pure2 (E := EE cs) hT hs (by rw [st_spec_l9Parts]; rfl) fun v l hp => out_wp (n := 0) (st_spec_l9Parts cs) ?_
  obtain ⟨n1, n2, n3, n4, n5, n6⟩ := defLens hp.1
  have hw2 := defCols_len hp.1
  have hl := hp.2
  rw [← partsOK_spec]
  simp only [go_sem, s_spec_l9Parts, TDef.row]
  refine (wl_all (l := l) (fun pre p => inR p.fCol 0 ((v.fCols.length : Int) - 1) && !(decide (0 < (pre.length : Int)) && ((l.head?.map (·.fCol)) == some p.fCol))) (fun pre e h => e 2 = .ptr 0 0 ∧ h.hp 0 = some v.row ∧ e 1 = .imm (l.map TBy.row) ∧ e 5 = .int .i64 pre.length) (.exit 0) (fun e h => e 2 = .ptr 0 0 ∧ h.hp 0 = some v.row ∧ e 1 = .imm (l.map TBy.row)) (fun e h => e 4 = .bool false) (by omega) ?_ ?_ ?_ (by simp) l [] _ _ rfl ?_).mono ?_
  · rintro pre p rest e h a hp ⟨q0, q1, q2, ix⟩
    obtain ⟨q, r, hqr⟩ : ∃ q r, l = q :: r := by cases hll : l with | nil => rw [hll] at a; exact absurd a.mem (by simp) | cons q r => exact ⟨q, r, rfl⟩
    have hh : l.head? = some q := by rw [hqr]; rfl
    cases c1 : inR p.fCol 0 ((v.fCols.length : Int) - 1) <;> cases c2 : decide (0 < (pre.length : Int)) <;> cases c3 : (q.fCol == p.fCol) <;> simp only [hh, Option.map_some, Option.some_beq_some, c1, c2, c3, Bool.and_true, Bool.and_false, Bool.not_true, Bool.not_false, Bool.false_eq_true] at hp
    all_goals simp only [go_sem, Nat.reduceBEq, Nat.reduceAdd, Nat.reduceLeDiff, s_spec_l9Parts_L0, q0, q1, q2, ix, a.dl, a.ia (row := TBy.row) (sz := 2) rfl, a.hw, TDef.row, TBy.row, h1, C_spec_l1In_eq, hw2, kIa_head (row := TBy.row) (sz := 2) hqr rfl, c1, c2, c3]
  · rintro pre p rest e h a hp ⟨q0, q1, q2, ix⟩
    obtain ⟨q, r, hqr⟩ : ∃ q r, l = q :: r := by cases hll : l with | nil => rw [hll] at a; exact absurd a.mem (by simp) | cons q r => exact ⟨q, r, rfl⟩
    have hh : l.head? = some q := by rw [hqr]; rfl
    cases c1 : inR p.fCol 0 ((v.fCols.length : Int) - 1) <;> cases c2 : decide (0 < (pre.length : Int)) <;> cases c3 : (q.fCol == p.fCol) <;> simp only [hh, Option.map_some, Option.some_beq_some, c1, c2, c3, Bool.and_true, Bool.and_false, Bool.not_true, Bool.not_false, Bool.true_eq_false] at hp
    all_goals simp only [go_sem, Nat.reduceBEq, Nat.reduceAdd, Nat.reduceLeDiff, s_spec_l9Parts_L0, q0, q1, q2, ix, a.dl, a.ia (row := TBy.row) (sz := 2) rfl, a.hw, TDef.row, TBy.row, h1, C_spec_l1In_eq, hw2, kIa_head (row := TBy.row) (sz := 2) hqr rfl, c1, c2, c3]
  · rintro e h ⟨q0, q1, q2, ix⟩
    simp only [go_sem, Nat.reduceBEq, s_spec_l9Parts_L0, q0, q1, q2, ix, TDef.row]
  · simp only [go_sem, Nat.reduceBEq, TDef.row]
  · rintro x e h (⟨hp, rfl, j0, j1, j2⟩ | ⟨hp, rfl, j⟩)
    · simp only [go_sem, Nat.reduceBEq, j2, h1, C_spec_l1In_eq, hp]
    · simp only [go_sem, j, hp]
noncomputable def C_spec_l9AllParts := c1 tDef (fun (v : TDef) => tDef.cost v ≤ 1048576) (.bool) fun (v : TDef) => defParts v
theorem C_spec_l9AllParts_eq (v : TDef) (h : tDef.cost v ≤ 1048576) : C_spec_l9AllParts [.agg [.str v.fName, .imm (v.fCols.map TCol.row), .imm (v.fPrimary.map TBy.row), .imm (v.fIndexes.map TIndex.row)]] = some (.bool ((defParts v))) := c1_eq tDef h
theorem ok_spec_l9AllParts {WI : World → Prop} (hs : Stable WI) (cs) (hT : TOK (EE cs) WI) (h1 : (EE cs).T 86 = some C_spec_l9Parts) : PureOK Tryz.prog WI 74 C_spec_l9AllParts := by
  refine pure1 (E := EE cs) hT hs (by rw [st_spec_l9AllParts]; rfl) fun v hp => out_wp (n := 0) (st_spec_l9AllParts cs) ?_
  obtain ⟨n1, n2, n3, n4, n5, n6⟩ := defLens hp
  have hv := hp
  have hce : ∀ l : List TBy, l.length ≤ 1048576 → C_spec_l9Parts [.agg [.str v.fName, .imm (v.fCols.map TCol.row), .imm (v.fPrimary.map TBy.row), .imm (v.fIndexes.map TIndex.row)], .imm (l.map TBy.row)] = some (.bool (partsOK v l)) := fun l hl => C_spec_l9Parts_eq v l ⟨hv, hl⟩
  simp only [go_sem, s_spec_l9AllParts, TDef.row]
  refine (wl_all (l := v.fIndexes) (fun pre y => partsOK v y.fParts) (fun pre e h => e 1 = .ptr 0 0 ∧ h.hp 0 = some v.row ∧ e 3 = .int .i64 pre.length) (.exit 0) (fun e h => e 1 = .ptr 0 0 ∧ h.hp 0 = some v.row) (fun e h => e 2 = .bool false) (by omega) ?_ ?_ ?_ (by simp) v.fIndexes [] _ _ rfl ?_).mono ?_
  · rintro pre y rest e h a hp ⟨q0, q1, ix⟩
    simp only [go_sem, Nat.reduceBEq, Nat.reduceAdd, Nat.reduceLeDiff, s_spec_l9AllParts_L0, q0, q1, ix, a.dl, a.ia (row := TIndex.row) (sz := 3) rfl, hp, a.hw, TDef.row, TIndex.row, h1, hce y.fParts (n6 y a.mem).2]
  · rintro pre y rest e h a hp ⟨q0, q1, ix⟩
    simp only [go_sem, Nat.reduceBEq, Nat.reduceAdd, Nat.reduceLeDiff, s_spec_l9AllParts_L0, q0, q1, ix, a.dl, a.ia (row := TIndex.row) (sz := 3) rfl, hp, a.hw, TDef.row, TIndex.row, h1, hce y.fParts (n6 y a.mem).2]
  · rintro e h ⟨q0, q1, ix⟩
    simp only [go_sem, Nat.reduceBEq, Nat.reduceAdd, Nat.reduceLeDiff, s_spec_l9AllParts_L0, q0, q1, ix, TDef.row]
  · simp only [go_sem, Nat.reduceBEq, TDef.row]
  · rintro x e h (⟨hp, rfl, j0, j1⟩ | ⟨hp, rfl, j⟩)
    · rw [allP_all] at hp
      simp only [go_sem, Nat.reduceBEq, Nat.reduceAdd, Nat.reduceLeDiff, j0, j1, TDef.row, h1, hce v.fPrimary n3, defParts, hp]
    · rw [allP_all] at hp
      simp only [go_sem, j, defParts, hp]
noncomputable def C_spec_CheckDef := c1 tDef (fun (v : TDef) => tDef.cost v ≤ 1048576) ((.int .i64)) fun (v : TDef) => checkDef v
theorem C_spec_CheckDef_eq (v : TDef) (h : tDef.cost v ≤ 1048576) : C_spec_CheckDef [.agg [.str v.fName, .imm (v.fCols.map TCol.row), .imm (v.fPrimary.map TBy.row), .imm (v.fIndexes.map TIndex.row)]] = some (.int .i64 ((checkDef v))) := c1_eq tDef h
theorem ok_spec_CheckDef {WI : World → Prop} (hs : Stable WI) (cs) (hT : TOK (EE cs) WI) (h1 : (EE cs).T 71 = some C_spec_l9Names) (h2 : (EE cs).T 72 = some C_spec_l9Types) (h3 : (EE cs).T 73 = some C_spec_l9Once) (h4 : (EE cs).T 74 = some C_spec_l9AllParts) : PureOK Tryz.prog WI 48 C_spec_CheckDef := by
  refine pure1 (E := EE cs) hT hs (by rw [st_spec_CheckDef]; rfl) fun v hp => out_wp (n := 0) (st_spec_CheckDef cs) ?_
  obtain ⟨n1, n2, n3, n4, n5, n6⟩ := defLens hp
  have c1 : C_spec_l9Names [.agg [.str v.fName, .imm (v.fCols.map TCol.row), .imm (v.fPrimary.map TBy.row), .imm (v.fIndexes.map TIndex.row)]] = some (.bool (defNames v)) := C_spec_l9Names_eq v hp
  have c2 : C_spec_l9Types [.agg [.str v.fName, .imm (v.fCols.map TCol.row), .imm (v.fPrimary.map TBy.row), .imm (v.fIndexes.map TIndex.row)]] = some (.bool (defTypes v)) := C_spec_l9Types_eq v hp
  have c3 : C_spec_l9Once [.agg [.str v.fName, .imm (v.fCols.map TCol.row), .imm (v.fPrimary.map TBy.row), .imm (v.fIndexes.map TIndex.row)]] = some (.bool (defOnce v)) := C_spec_l9Once_eq v hp
  have c4 : C_spec_l9AllParts [.agg [.str v.fName, .imm (v.fCols.map TCol.row), .imm (v.fPrimary.map TBy.row), .imm (v.fIndexes.map TIndex.row)]] = some (.bool (defParts v)) := C_spec_l9AllParts_eq v hp
  cases d1 : defNames v
  · simp only [go_sem, Nat.reduceBEq, Nat.reduceAdd, s_spec_CheckDef, TDef.row, h1, c1, d1, checkDef]
  cases d2 : defTypes v
  · simp only [go_sem, Nat.reduceBEq, Nat.reduceAdd, s_spec_CheckDef, TDef.row, h1, c1, d1, h2, c2, d2, checkDef, Bool.true_eq_false]
  cases d3 : defOnce v
  · simp only [go_sem, Nat.reduceBEq, Nat.reduceAdd, Nat.reduceLeDiff, s_spec_CheckDef, TDef.row, h1, c1, d1, h2, c2, d2, h3, c3, d3, checkDef, Bool.true_eq_false]
  by_cases d4 : (2 : Int) < v.fIndexes.length
  · simp only [go_sem, Nat.reduceBEq, Nat.reduceAdd, Nat.reduceLeDiff, s_spec_CheckDef, TDef.row, h1, c1, d1, h2, c2, d2, h3, c3, d3, d4, checkDef, Bool.true_eq_false]
  cases d5 : defParts v
  · simp only [go_sem, Nat.reduceBEq, Nat.reduceAdd, Nat.reduceLeDiff, s_spec_CheckDef, TDef.row, h1, c1, d1, h2, c2, d2, h3, c3, d3, d4, h4, c4, d5, checkDef, Bool.true_eq_false]
  simp only [go_sem, Nat.reduceBEq, Nat.reduceAdd, Nat.reduceLeDiff, s_spec_CheckDef, TDef.row, h1, c1, d1, h2, c2, d2, h3, c3, d3, d4, h4, c4, d5]
  refine (wl_all (l := v.fPrimary) (fun pre p => !(colNull v p.fCol)) (fun pre e h => e 1 = .ptr 0 0 ∧ h.hp 0 = some v.row ∧ e 3 = .int .i64 pre.length) (.exit 1) (fun e h => e 1 = .ptr 0 0 ∧ h.hp 0 = some v.row) (fun e h => e 2 = .int .i64 4) (by omega) ?_ ?_ ?_ (by simp) v.fPrimary [] _ _ rfl ?_).mono ?_
  · rintro pre p rest e h a hp ⟨q0, q1, ix⟩
    obtain ⟨z1, z2⟩ := parts_col (v := v) (l := v.fPrimary) (by unfold defParts at d5; simp only [Bool.and_eq_true] at d5; exact d5.2) p a.mem
    obtain ⟨c, hc⟩ : ∃ c, v.fCols[p.fCol.toNat]? = some c := ⟨_, List.getElem?_eq_getElem z2⟩
    have hq : c.fNull = false := by simpa [colNull, hc] using hp
    simp only [go_sem, Nat.reduceBEq, Nat.reduceAdd, Nat.reduceLeDiff, s_spec_CheckDef_L0, q0, q1, ix, a.dl, a.ia (row := TBy.row) (sz := 2) rfl, a.hw, TDef.row, TBy.row, TCol.row, kIa_nth (row := TCol.row) (sz := 3) z1 hc rfl, hq]
  · rintro pre p rest e h a hp ⟨q0, q1, ix⟩
    obtain ⟨z1, z2⟩ := parts_col (v := v) (l := v.fPrimary) (by unfold defParts at d5; simp only [Bool.and_eq_true] at d5; exact d5.2) p a.mem
    obtain ⟨c, hc⟩ : ∃ c, v.fCols[p.fCol.toNat]? = some c := ⟨_, List.getElem?_eq_getElem z2⟩
    have hq : c.fNull = true := by simpa [colNull, hc] using hp
    simp only [go_sem, Nat.reduceBEq, Nat.reduceAdd, Nat.reduceLeDiff, s_spec_CheckDef_L0, q0, q1, ix, a.dl, a.ia (row := TBy.row) (sz := 2) rfl, a.hw, TDef.row, TBy.row, TCol.row, kIa_nth (row := TCol.row) (sz := 3) z1 hc rfl, hq]
  · rintro e h ⟨q0, q1, ix⟩
    simp only [go_sem, Nat.reduceBEq, Nat.reduceAdd, Nat.reduceLeDiff, s_spec_CheckDef_L0, q0, q1, ix, TDef.row]
  · simp only [go_sem, Nat.reduceBEq, TDef.row]
  · rintro x e h (⟨hp, rfl, j0, j1⟩ | ⟨hp, rfl, j⟩)
    · rw [allP_all] at hp
      simp only [go_sem, checkDef, primNull, d1, d2, d3, d4, d5, hp, Bool.true_eq_false]
    · rw [allP_all] at hp
      simp only [go_sem, j, checkDef, primNull, d1, d2, d3, d4, d5, hp, Bool.true_eq_false]
def firstF (pre : List TDef) (d : TDef) : Option Int := if checkDef d ≠ 0 ∨ (2 : Int) < pre.length ∨ (pre.all fun y => !(y.fName == d.fName)) = false then some (pre.length : Int) else none
def firstBad (s : List TDef) : Int := (earlyL firstF [] s).getD (-1)
theorem firstF_none {pre : List TDef} {d : TDef} (h : firstF pre d = none) : checkDef d = 0 ∧ ¬ (2 : Int) < pre.length ∧ (pre.all fun y => !(y.fName == d.fName)) = true := by
  unfold firstF at h
  split at h
  · cases h
  · rename_i hn
    refine ⟨?_, fun e => hn (.inr (.inl e)), ?_⟩
    · by_cases hc : checkDef d = 0
      · exact hc
      · exact absurd (.inl hc) hn
    · cases hq : pre.all fun y => !(y.fName == d.fName) with
      | true => rfl
      | false => exact absurd (.inr (.inr hq)) hn
theorem firstF_some {pre : List TDef} {d : TDef} {b : Int} (h : firstF pre d = some b) : b = pre.length ∧ ((checkDef d != 0) = false → ¬ (2 : Int) < pre.length → (pre.all fun y => !(y.fName == d.fName)) = false) := by
  unfold firstF at h
  split at h
  · rename_i hc
    simp only [Option.some.injEq] at h
    refine ⟨h.symm, fun h1 h2 => ?_⟩
    have h1' : checkDef d = 0 := by simpa using h1
    rcases hc with hc | hc | hc
    · exact absurd h1' hc
    · exact absurd hc h2
    · exact hc
  · cases h
theorem defsLens {s : List TDef} (h : (sliceT tDef).cost s ≤ 1048576) : s.length ≤ 1048576 ∧ ∀ d ∈ s, tDef.cost d ≤ 1048576 := by
  have h0 : s.length + costL tDef s ≤ 1048576 := h
  exact ⟨by omega, fun d hd => by have := costL_mem tDef hd; omega⟩
theorem early_good : ∀ (l pre : List TDef), earlyL firstF pre l = none → ∀ d ∈ l, checkDef d = 0
  | [], _, _, d, hd => by cases hd
  | x :: l, pre, h, d, hd => by
    simp only [earlyL] at h
    cases hf : firstF pre x with
    | some b => rw [hf] at h; cases h
    | none =>
      rw [hf] at h
      rcases List.mem_cons.1 hd with rfl | hd
      · exact (firstF_none hf).1
      · exact early_good l _ h d hd
theorem early_nonneg : ∀ (l pre : List TDef) (b : Int), earlyL firstF pre l = some b → 0 ≤ b
  | [], _, b, h => by cases h
  | x :: l, pre, b, h => by
    simp only [earlyL] at h
    cases hf : firstF pre x with
    | some c => rw [hf] at h; simp only [Option.some.injEq] at h; subst h; have := (firstF_some hf).1; omega
    | none => rw [hf] at h; exact early_nonneg l _ b h
theorem firstBad_good {s : List TDef} (h : firstBad s = -1) : ∀ d ∈ s, checkDef d = 0 := by
  unfold firstBad at h
  cases he : earlyL firstF [] s with
  | none => exact early_good s [] he
  | some b =>
    rw [he] at h
    simp only [Option.getD_some] at h
    have := early_nonneg s [] b he
    omega
noncomputable def C_spec_FirstBad := c1 (sliceT tDef) (fun (s : List (TDef)) => (sliceT tDef).cost s ≤ 1048576) ((.int .i64)) fun (s : List (TDef)) => firstBad s
theorem C_spec_FirstBad_eq (s : List (TDef)) (h : (sliceT tDef).cost s ≤ 1048576) : C_spec_FirstBad [.imm (s.map TDef.row)] = some (.int .i64 ((firstBad s))) := c1_eq (sliceT tDef) h
theorem ok_spec_FirstBad {WI : World → Prop} (hs : Stable WI) (cs) (hT : TOK (EE cs) WI) (h1 : (EE cs).T 48 = some C_spec_CheckDef) : PureOK Tryz.prog WI 35 C_spec_FirstBad := by
  refine pure1 (E := EE cs) hT hs (by rw [st_spec_FirstBad]; rfl) fun s hp => out_wp (n := 0) (st_spec_FirstBad cs) ?_
  obtain ⟨n1, n2⟩ := defsLens hp
  have inner : ∀ pre c rest, At s pre c rest → ∀ e h, e 0 = .imm (s.map TDef.row) → e 3 = .int .i64 pre.length → e 4 = .int .i64 0 → WL (EE cs) s_spec_FirstBad_L0 e h fun x e' h' => (pre.all (fun y => !(y.fName == c.fName)) = true ∧ x = .exit 2 ∧ e' 0 = .imm (s.map TDef.row) ∧ e' 3 = .int .i64 pre.length) ∨ (pre.all (fun y => !(y.fName == c.fName)) = false ∧ x = .ret ∧ e' 2 = .int .i64 pre.length) := by
    intro pre0 c rest0 a0 e h k0 k3 k4
    refine (wl_all (l := pre0) (fun pre y => !(y.fName == c.fName)) (fun pre e h => e 0 = .imm (s.map TDef.row) ∧ e 3 = .int .i64 pre0.length ∧ e 4 = .int .i64 pre.length) (.exit 2) (fun e h => e 0 = .imm (s.map TDef.row) ∧ e 3 = .int .i64 pre0.length) (fun e h => e 2 = .int .i64 pre0.length) (by have := a0.lt; omega) ?_ ?_ ?_ (by simp) pre0 [] _ _ rfl ?_).mono ?_
    · rintro pre y rest e h a hp ⟨q0, q1, ix⟩
      have hl2 : s = pre ++ y :: (rest ++ c :: rest0) := by rw [a0.hl, a.hl]; simp
      have hq : (y.fName == c.fName) = false := by simpa using hp
      simp only [go_sem, Nat.reduceBEq, s_spec_FirstBad_L0, q0, q1, ix, a.dl, a.hw, TDef.row, kIa_map (row := TDef.row) (sz := 4) hl2 rfl, a0.ia (row := TDef.row) (sz := 4) rfl, hq]
    · rintro pre y rest e h a hp ⟨q0, q1, ix⟩
      have hl2 : s = pre ++ y :: (rest ++ c :: rest0) := by rw [a0.hl, a.hl]; simp
      have hq : (y.fName == c.fName) = true := by simpa using hp
      simp only [go_sem, Nat.reduceBEq, s_spec_FirstBad_L0, q0, q1, ix, a.dl, a.hw, TDef.row, kIa_map (row := TDef.row) (sz := 4) hl2 rfl, a0.ia (row := TDef.row) (sz := 4) rfl, hq]
    · rintro e h ⟨q0, q1, ix⟩
      simp only [go_sem, Nat.reduceBEq, s_spec_FirstBad_L0, q0, q1, ix]
    · simp only [go_sem, k0, k3, k4]
    · rintro x e' h' (⟨hp, rfl, j0, j1⟩ | ⟨hp, rfl, j⟩)
      · rw [allP_all] at hp
        exact .inl ⟨hp, rfl, j0, j1⟩
      · rw [allP_all] at hp
        exact .inr ⟨hp, rfl, j⟩
  simp only [go_sem, s_spec_FirstBad]
  refine (wl_early (l := s) (fun pre d => firstF pre d) (fun pre e h => e 0 = .imm (s.map TDef.row) ∧ e 3 = .int .i64 pre.length) (.exit 0) (fun e h => e 0 = .imm (s.map TDef.row)) (fun b e h => e 2 = .int .i64 b) (by omega) ?_ ?_ ?_ (by simp) s [] _ _ rfl ?_).mono ?_
  · rintro pre d rest e h a hp ⟨q0, ix⟩
    have hc : C_spec_CheckDef [.agg [.str d.fName, .imm (d.fCols.map TCol.row), .imm (d.fPrimary.map TBy.row), .imm (d.fIndexes.map TIndex.row)]] = some (.int .i64 (checkDef d)) := C_spec_CheckDef_eq d (n2 d a.mem)
    obtain ⟨f1, f2, f3⟩ := firstF_none hp
    have f2' : decide ((2 : Int) < (pre.length : Int)) = false := decide_eq_false f2
    have f1' : (checkDef d != 0) = false := by simp [f1]
    all_goals simp only [go_sem, Nat.reduceBEq, Nat.reduceAdd, s_spec_FirstBad_L1, q0, ix, a.dl, a.ia (row := TDef.row) (sz := 4) rfl, TDef.row, h1, hc, f1', f2']
    refine (inner pre d rest a _ _ (by simp only [go_sem, Nat.reduceBEq, q0]) (by simp only [go_sem, Nat.reduceBEq, ix]) (by simp only [go_sem, Nat.reduceBEq])).mono ?_
    rintro x e' h' (⟨hq, rfl, k0, k1⟩ | ⟨hq, rfl, k⟩)
    · simp only [go_sem, Nat.reduceBEq, k0, k1, a.hw]
    · rw [f3] at hq; cases hq
  · rintro pre d rest b e h a hp ⟨q0, ix⟩
    have hc : C_spec_CheckDef [.agg [.str d.fName, .imm (d.fCols.map TCol.row), .imm (d.fPrimary.map TBy.row), .imm (d.fIndexes.map TIndex.row)]] = some (.int .i64 (checkDef d)) := C_spec_CheckDef_eq d (n2 d a.mem)
    obtain ⟨rfl, hcase⟩ := firstF_some hp
    cases f1 : (checkDef d != 0) <;> cases f2 : decide ((2 : Int) < (pre.length : Int))
    all_goals simp only [go_sem, Nat.reduceBEq, Nat.reduceAdd, s_spec_FirstBad_L1, q0, ix, a.dl, a.ia (row := TDef.row) (sz := 4) rfl, TDef.row, h1, hc, f1, f2]
    refine (inner pre d rest a _ _ (by simp only [go_sem, Nat.reduceBEq, q0]) (by simp only [go_sem, Nat.reduceBEq, ix]) (by simp only [go_sem, Nat.reduceBEq])).mono ?_
    have hc3 := hcase f1 (of_decide_eq_false f2)
    rintro x e' h' (⟨hq, rfl, k0, k1⟩ | ⟨hq, rfl, k⟩)
    · rw [hc3] at hq; cases hq
    · simp only [go_sem, k]
  · rintro e h ⟨q0, ix⟩
    simp only [go_sem, Nat.reduceBEq, s_spec_FirstBad_L1, q0, ix]
  · simp only [go_sem, Nat.reduceBEq, and_self]
  · intro x e h hx
    cases he : earlyL firstF [] s with
    | none =>
      rw [he] at hx
      obtain ⟨rfl, j0⟩ := hx
      simp only [go_sem, firstBad, he, Option.getD_none]
    | some k =>
      rw [he] at hx
      obtain ⟨rfl, j⟩ := hx
      simp only [go_sem, j, firstBad, he]
end Go.Proofs.YtfjkmpmjohojpaaGreatDoor.Ij
namespace Go.Proofs.YtfjkmpmjohojpaaGreatDoor.Ij
open Go Go.RowKit Go.Ev
set_option linter.unusedSimpArgs false
set_option linter.unusedVariables false
set_option maxHeartbeats 1600000
def there (s : List TDef) (t i : Int) : Bool := firstBad s == -1 && (inR t 0 ((s.length : Int) - 1) && match s[t.toNat]? with | some d => inR i (-1) ((d.fIndexes.length : Int) - 1) | none => false)
theorem there_get {s : List TDef} {t i : Int} (h : there s t i = true) : ∃ d, s[t.toNat]? = some d ∧ 0 ≤ t ∧ d ∈ s ∧ checkDef d = 0 ∧ -1 ≤ i ∧ i < d.fIndexes.length := by
  unfold there at h
  simp only [Bool.and_eq_true, beq_iff_eq] at h
  obtain ⟨h1, h2, h3⟩ := h
  obtain ⟨z1, z2⟩ := inR_nat h2
  have hd : s[t.toNat]? = some s[t.toNat] := List.getElem?_eq_getElem z2
  rw [hd] at h3
  have hm := List.mem_of_getElem? hd
  refine ⟨_, hd, z1, hm, firstBad_good h1 _ hm, ?_⟩
  unfold inR at h3
  simp at h3
  omega
def partOf (v : TDef) (k : Int) (desc : Bool) : TPart := match v.fCols[k.toNat]? with
  | some c => ⟨k, c.fType, c.fNull, desc⟩
  | none => ⟨0, 0, false, false⟩
def partsOf (v : TDef) (l : List TBy) : List TPart := l.map fun p => partOf v p.fCol p.fDesc
def primPlan (v : TDef) : List TPart := if checkDef v = 0 then partsOf v v.fPrimary else []
def idxPlan (v : TDef) (i : Int) : List TPart := if checkDef v = 0 then (if inR i 0 ((v.fIndexes.length : Int) - 1) then (match v.fIndexes[i.toNat]? with | some x => partsOf v x.fParts ++ partsOf v v.fPrimary | none => []) else []) else []
def planOf (v : TDef) (i : Int) : List TPart := if i = -1 then primPlan v else idxPlan v i
theorem parts_len {v : TDef} {l : List TBy} (h : partsOK v l = true) : l.length ≤ 2 := by
  unfold partsOK inR at h
  simp at h
  omega
theorem check_parts {v : TDef} (h : checkDef v = 0) : partsOK v v.fPrimary = true ∧ ∀ x ∈ v.fIndexes, partsOK v x.fParts = true := by
  have h5 := (def_good h).2.2.2.2.1
  unfold defParts at h5
  simp only [Bool.and_eq_true, List.all_eq_true] at h5
  exact ⟨h5.2, h5.1⟩
theorem partsOf_len (v : TDef) (l : List TBy) : (partsOf v l).length = l.length := by simp [partsOf]
theorem primPlan_len (v : TDef) : (primPlan v).length ≤ 2 := by
  unfold primPlan
  split
  · rename_i h
    rw [partsOf_len]
    exact parts_len (check_parts h).1
  · simp
theorem idxPlan_len (v : TDef) (i : Int) : (idxPlan v i).length ≤ 4 := by
  unfold idxPlan
  split
  · rename_i h
    split
    · split
      · rename_i x hx
        rw [List.length_append, partsOf_len, partsOf_len]
        have h1 := parts_len (check_parts h).1
        have h2 := parts_len ((check_parts h).2 x (List.mem_of_getElem? hx))
        omega
      · simp
    · simp
  · simp
theorem planOf_len (v : TDef) (i : Int) : (planOf v i).length ≤ 4 := by
  unfold planOf
  split
  · have := primPlan_len v; omega
  · exact idxPlan_len v i
theorem cols_get {v : TDef} {l : List TBy} (h : partsOK v l = true) {p : TBy} (hp : p ∈ l) : 0 ≤ p.fCol ∧ ∃ c, v.fCols[p.fCol.toNat]? = some c := by
  obtain ⟨z1, z2⟩ := parts_col h p hp
  exact ⟨z1, _, List.getElem?_eq_getElem z2⟩
theorem partFill (a b : Int) (c d : Bool) : sFill [.int .i64 0, .int .i64 0, .bool false, .bool false] [(0, 1, .int .i64 a), (1, 1, .int .i64 b), (2, 1, .bool c), (3, 1, .bool d)] = some [.int .i64 a, .int .i64 b, .bool c, .bool d] := rfl
theorem partFillR (v : TPart) : fillR (List.replicate 1 [.int .i64 0, .int .i64 0, .bool false, .bool false]) 4 [(0, .agg v.row)] = some [v.row] := rfl
theorem partFrz (v : TPart) : frzRows [v.row] = some [v.row] := rfl
theorem parts_app {v : TDef} {pre : List TBy} {p : TBy} {id id' : Nat} {H : Hp} (hH : H.ap id = some (pre.length, 4)) (hl : pre.length ≤ 1048576) : sApp false 24 4 (.app id ((partsOf v pre).map TPart.row)) (.app id' [(partOf v p.fCol p.fDesc).row]) H = some (.app id ((partsOf v (pre ++ [p])).map TPart.row), H.setApp id (pre.length + 1) 4) := by
  have := sApp_app (bt := 24) (sz := 4) (id := id) (id' := id') (rows := (partsOf v pre).map TPart.row) (row := (partOf v p.fCol p.fDesc).row) (row' := (partOf v p.fCol p.fDesc).row) (h := H) (by rw [List.length_map, partsOf_len]; exact hH) rfl rfl (by rw [List.length_map, partsOf_len]; unfold room; omega)
  rw [List.length_map, partsOf_len] at this
  rw [this]
  simp [partsOf]
theorem plan_app {v : TDef} {a b : List TBy} {id id' : Nat} {H : Hp} (ha : partsOK v a = true) (hb : partsOK v b = true) (hH : H.ap id = some ((partsOf v a).length, 4)) : sApp false 24 4 (.app id ((partsOf v a).map TPart.row)) (.app id' ((partsOf v b).map TPart.row)) H = some (.app id ((partsOf v a ++ partsOf v b).map TPart.row), H.setApp id ((partsOf v a).length + (partsOf v b).length) 4) := by
  have l1 := parts_len ha
  have l2 := parts_len hb
  exact kApp_rows tPart (partsOf v a) (partsOf v b) rfl hH (by rw [partsOf_len, partsOf_len]; unfold room; omega)
noncomputable def C_spec_l11Part := c3 tDef intT boolT (fun (v : TDef) (k : Int) (desc : Bool) => 0 ≤ k ∧ k.toNat < v.fCols.length) (fun x => .agg (x).row) fun (v : TDef) (k : Int) (desc : Bool) => partOf v k desc
theorem C_spec_l11Part_eq (v : TDef) (k : Int) (desc : Bool) (h : 0 ≤ k ∧ k.toNat < v.fCols.length) : C_spec_l11Part [.agg [.str v.fName, .imm (v.fCols.map TCol.row), .imm (v.fPrimary.map TBy.row), .imm (v.fIndexes.map TIndex.row)], .int .i64 k, .bool desc] = some (.agg (((partOf v k desc))).row) := c3_eq tDef intT boolT h
theorem ok_spec_l11Part {WI : World → Prop} (hs : Stable WI) (cs) (hT : TOK (EE cs) WI) : PureOK Tryz.prog WI 49 C_spec_l11Part := by
  refine pure3 (E := EE cs) hT hs (by rw [st_spec_l11Part]; rfl) fun v k desc hp => out_wp (n := 0) (st_spec_l11Part cs) ?_
  obtain ⟨z1, z2⟩ := hp
  obtain ⟨c, hc⟩ : ∃ c, v.fCols[k.toNat]? = some c := ⟨_, List.getElem?_eq_getElem z2⟩
  simp only [go_sem, kSt_ptr, Nat.reduceBEq, Nat.reduceAdd, Nat.reduceLeDiff, s_spec_l11Part, TDef.row, kIa_nth (row := TCol.row) (sz := 3) z1 hc rfl, TCol.row, partFill, partOf, hc, TPart.row]
noncomputable def C_spec_l11Parts := c2 tDef (sliceT tBy) (fun (v : TDef) (l : List (TBy)) => partsOK v l = true) (fun x => .app 4 (x.map TPart.row)) fun (v : TDef) (l : List (TBy)) => partsOf v l
theorem C_spec_l11Parts_eq (v : TDef) (l : List (TBy)) (h : partsOK v l = true) : C_spec_l11Parts [.agg [.str v.fName, .imm (v.fCols.map TCol.row), .imm (v.fPrimary.map TBy.row), .imm (v.fIndexes.map TIndex.row)], .imm (l.map TBy.row)] = some (.app 4 ((partsOf v l).map TPart.row)) := c2_eq tDef (sliceT tBy) h
theorem ok_spec_l11Parts {WI : World → Prop} (hs : Stable WI) (cs) (hT : TOK (EE cs) WI) (h1 : (EE cs).T 49 = some C_spec_l11Part) : FreshOK Tryz.prog WI 78 C_spec_l11Parts := by
  refine pure2F (E := EE cs) hT hs (by rw [st_spec_l11Parts]; rfl) fun v l hp => outF_wp (sz := 0) (st_spec_l11Parts cs) ?_
  have hl := hp
  have hl2 := parts_len hl
  simp only [go_sem, Nat.reduceBEq, Nat.reduceAdd, s_spec_l11Parts, TDef.row, fillR, List.replicate, frzRows]
  refine (wl_for (l := l) (fun pre e h => e 2 = .ptr 0 0 ∧ h.hp 0 = some v.row ∧ e 1 = .imm (l.map TBy.row) ∧ (∃ id, e 5 = .app id ((partsOf v pre).map TPart.row) ∧ h.ap id = some (pre.length, 4) ∧ id < h.nx) ∧ e 6 = .int .i64 pre.length) (.exit 0) (fun e h => ∃ id, e 5 = .app id ((partsOf v l).map TPart.row) ∧ h.ap id = some (l.length, 4)) (by omega) ?_ ?_ (by simp) l [] _ _ rfl ?_).mono ?_
  · rintro pre p rest e h a ⟨q0, q1, q2, q3, ix⟩
    obtain ⟨id, q3, q4, q5⟩ := q3
    obtain ⟨z1, c, hc⟩ := cols_get hl a.mem
    have hpt : C_spec_l11Part [.agg [.str v.fName, .imm (v.fCols.map TCol.row), .imm (v.fPrimary.map TBy.row), .imm (v.fIndexes.map TIndex.row)], .int .i64 p.fCol, .bool p.fDesc] = some (.agg (partOf v p.fCol p.fDesc).row) := C_spec_l11Part_eq v p.fCol p.fDesc ⟨z1, (List.getElem?_eq_some_iff.1 hc).1⟩
    have ap : ∀ id' (H : Hp), H.ap id = some (pre.length, 4) → sApp false 24 4 (.app id ((partsOf v pre).map TPart.row)) (.app id' [(partOf v p.fCol p.fDesc).row]) H = some (.app id ((partsOf v (pre ++ [p])).map TPart.row), H.setApp id (pre.length + 1) 4) := fun id' H hH => parts_app hH (by have := a.lt; omega)
    have hne : ¬ id = h.nx := by omega
    simp only [go_sem, Nat.reduceBEq, Nat.reduceAdd, s_spec_l11Parts_L0, q0, q1, q2, q3, ix, a.dl, a.ia (row := TBy.row) (sz := 2) rfl, a.hw, TDef.row, TBy.row, h1, hpt, partFillR, partFrz, ap, q4, hne]
    exact ⟨id, rfl, by simp, by first | omega | (simp; omega)⟩
  · rintro e h ⟨q0, q1, q2, q3, ix⟩
    simp only [go_sem, Nat.reduceBEq, Nat.reduceAdd, s_spec_l11Parts_L0, q0, q1, q2, ix, TDef.row]
    exact ⟨_, q3.choose_spec.1, q3.choose_spec.2.1⟩
  · exact ⟨rfl, rfl, rfl, ⟨1, rfl, rfl, Nat.lt_succ_self 1⟩, rfl⟩
  · rintro x e h ⟨rfl, id, j, j1⟩
    simp only [go_sem, Nat.reduceBEq, j]
    exact frR_app (by rw [List.length_map, partsOf_len]; exact j1)
noncomputable def C_spec_PrimaryPlan := c1 tDef (fun (v : TDef) => tDef.cost v ≤ 1048576) (fun x => .imm (x.map TPart.row)) fun (v : TDef) => primPlan v
theorem C_spec_PrimaryPlan_eq (v : TDef) (h : tDef.cost v ≤ 1048576) : C_spec_PrimaryPlan [.agg [.str v.fName, .imm (v.fCols.map TCol.row), .imm (v.fPrimary.map TBy.row), .imm (v.fIndexes.map TIndex.row)]] = some (.imm (((primPlan v)).map TPart.row)) := c1_eq tDef h
theorem ok_spec_PrimaryPlan {WI : World → Prop} (hs : Stable WI) (cs) (hT : TOK (EE cs) WI) (h1 : (EE cs).T 48 = some C_spec_CheckDef) (h2 : (EE cs).T 78 = some C_spec_l11Parts) : PureOK Tryz.prog WI 55 C_spec_PrimaryPlan := by
  refine pure1 (E := EE cs) hT hs (by rw [st_spec_PrimaryPlan]; rfl) fun v hp => out_wp (n := 0) (st_spec_PrimaryPlan cs) ?_
  have fr_h2 : (EE cs).fr 78 = true := rfl
  have c1 : C_spec_CheckDef [.agg [.str v.fName, .imm (v.fCols.map TCol.row), .imm (v.fPrimary.map TBy.row), .imm (v.fIndexes.map TIndex.row)]] = some (.int .i64 (checkDef v)) := C_spec_CheckDef_eq v hp
  by_cases d : checkDef v = 0
  · have c2 : C_spec_l11Parts [.agg [.str v.fName, .imm (v.fCols.map TCol.row), .imm (v.fPrimary.map TBy.row), .imm (v.fIndexes.map TIndex.row)], .imm (v.fPrimary.map TBy.row)] = some (.app 4 ((partsOf v v.fPrimary).map TPart.row)) := C_spec_l11Parts_eq v v.fPrimary (check_parts d).1
    simp only [go_sem, Nat.reduceBEq, Nat.reduceAdd, Nat.reduceLeDiff, s_spec_PrimaryPlan, TDef.row, h1, c1, h2, c2, fr_h2, primPlan, d]
  · simp only [go_sem, Nat.reduceBEq, Nat.reduceAdd, Nat.reduceLeDiff, s_spec_PrimaryPlan, TDef.row, h1, c1, bneT d, primPlan, d, fillR, List.replicate, frzRows]
noncomputable def C_spec_IndexPlan := c2 tDef intT (fun (v : TDef) (i : Int) => tDef.cost v ≤ 1048576) (fun x => .imm (x.map TPart.row)) fun (v : TDef) (i : Int) => idxPlan v i
theorem C_spec_IndexPlan_eq (v : TDef) (i : Int) (h : tDef.cost v ≤ 1048576) : C_spec_IndexPlan [.agg [.str v.fName, .imm (v.fCols.map TCol.row), .imm (v.fPrimary.map TBy.row), .imm (v.fIndexes.map TIndex.row)], .int .i64 i] = some (.imm (((idxPlan v i)).map TPart.row)) := c2_eq tDef intT h
theorem ok_spec_IndexPlan {WI : World → Prop} (hs : Stable WI) (cs) (hT : TOK (EE cs) WI) (h1 : (EE cs).T 48 = some C_spec_CheckDef) (h3 : (EE cs).T 14 = some C_spec_l1In) (h2 : (EE cs).T 78 = some C_spec_l11Parts) : PureOK Tryz.prog WI 56 C_spec_IndexPlan := by
  refine pure2 (E := EE cs) hT hs (by rw [st_spec_IndexPlan]; rfl) fun v i hp => out_wp (n := 0) (st_spec_IndexPlan cs) ?_
  have fr_h2 : (EE cs).fr 78 = true := rfl
  have c1 : C_spec_CheckDef [.agg [.str v.fName, .imm (v.fCols.map TCol.row), .imm (v.fPrimary.map TBy.row), .imm (v.fIndexes.map TIndex.row)]] = some (.int .i64 (checkDef v)) := C_spec_CheckDef_eq v hp
  have n3 := (defLens hp).2.2.2.1
  have hw : IntKind.wrap .i64 ((v.fIndexes.length : Int) - 1) = (v.fIndexes.length : Int) - 1 := wrapId (by omega) (by omega)
  by_cases d : checkDef v = 0
  · cases d2 : inR i 0 ((v.fIndexes.length : Int) - 1)
    · simp only [go_sem, Nat.reduceBEq, Nat.reduceAdd, Nat.reduceLeDiff, s_spec_IndexPlan, TDef.row, h1, c1, h3, C_spec_l1In_eq, hw, d2, idxPlan, d, fillR, List.replicate, frzRows]
    · obtain ⟨z1, z2⟩ := inR_nat d2
      obtain ⟨x, hx⟩ : ∃ x, v.fIndexes[i.toNat]? = some x := ⟨_, List.getElem?_eq_getElem z2⟩
      have hxp := (check_parts d).2 x (List.mem_of_getElem? hx)
      have c2 : ∀ l, partsOK v l = true → C_spec_l11Parts [.agg [.str v.fName, .imm (v.fCols.map TCol.row), .imm (v.fPrimary.map TBy.row), .imm (v.fIndexes.map TIndex.row)], .imm (l.map TBy.row)] = some (.app 4 ((partsOf v l).map TPart.row)) := fun l hl => C_spec_l11Parts_eq v l hl
      have ap := fun id id' H hH => plan_app (id := id) (id' := id') (H := H) hxp (check_parts d).1 hH
      simp only [go_sem, Nat.reduceBEq, Nat.reduceAdd, Nat.reduceLeDiff, s_spec_IndexPlan, TDef.row, h1, c1, h3, C_spec_l1In_eq, hw, d2, kIa_nth (row := TIndex.row) (sz := 3) z1 hx rfl, TIndex.row, h2, c2 x.fParts hxp, c2 v.fPrimary (check_parts d).1, fr_h2, ap, idxPlan, d, hx]
  · simp only [go_sem, Nat.reduceBEq, Nat.reduceAdd, Nat.reduceLeDiff, s_spec_IndexPlan, TDef.row, h1, c1, bneT d, idxPlan, d, fillR, List.replicate, frzRows]
noncomputable def C_spec_l11Plan := c2 tDef intT (fun (v : TDef) (i : Int) => tDef.cost v ≤ 1048576) (fun x => .imm (x.map TPart.row)) fun (v : TDef) (i : Int) => planOf v i
theorem C_spec_l11Plan_eq (v : TDef) (i : Int) (h : tDef.cost v ≤ 1048576) : C_spec_l11Plan [.agg [.str v.fName, .imm (v.fCols.map TCol.row), .imm (v.fPrimary.map TBy.row), .imm (v.fIndexes.map TIndex.row)], .int .i64 i] = some (.imm (((planOf v i)).map TPart.row)) := c2_eq tDef intT h
theorem ok_spec_l11Plan {WI : World → Prop} (hs : Stable WI) (cs) (hT : TOK (EE cs) WI) (h1 : (EE cs).T 55 = some C_spec_PrimaryPlan) (h2 : (EE cs).T 56 = some C_spec_IndexPlan) : PureOK Tryz.prog WI 31 C_spec_l11Plan := by
  refine pure2 (E := EE cs) hT hs (by rw [st_spec_l11Plan]; rfl) fun v i hp => out_wp (n := 0) (st_spec_l11Plan cs) ?_
  have c1 : C_spec_PrimaryPlan [.agg [.str v.fName, .imm (v.fCols.map TCol.row), .imm (v.fPrimary.map TBy.row), .imm (v.fIndexes.map TIndex.row)]] = some (.imm ((primPlan v).map TPart.row)) := C_spec_PrimaryPlan_eq v hp
  have c2 : C_spec_IndexPlan [.agg [.str v.fName, .imm (v.fCols.map TCol.row), .imm (v.fPrimary.map TBy.row), .imm (v.fIndexes.map TIndex.row)], .int .i64 i] = some (.imm ((idxPlan v i).map TPart.row)) := C_spec_IndexPlan_eq v i hp
  by_cases d : i = -1
  · subst d
    simp only [go_sem, Nat.reduceBEq, Nat.reduceAdd, s_spec_l11Plan, TDef.row, h1, c1, planOf]
  · simp only [go_sem, Nat.reduceBEq, Nat.reduceAdd, s_spec_l11Plan, TDef.row, beqF d, h2, c2, planOf, d]
theorem dr_spec_l11Short (cs) (c : TCol) (hc : okCol c) : DrawV (EE cs) 40 [.agg c.row] ValP := draw_of (st_spec_l11Short cs) fun code r h hcode hcur => by
  have rn := hcur.1
  have q1 : ¬ r = h.nx + 1 := by omega
  have q2 : ¬ r = h.nx := by omega
  have q3 : ¬ h.nx + 1 = r := by omega
  have q4 : ¬ h.nx = r := by omega
  have q5 : ¬ h.nx = h.nx + 1 := by omega
  have q6 : ¬ h.nx + 1 = h.nx := by omega
  have gA : sFill [.int .i64 0, .int .i64 0, .str []] [] = some [.int .i64 0, .int .i64 0, .str []] := rfl
  have gB : sFill [.int .i64 0, .int .i64 0, .str []] [(0, 1, .int .i64 c.fType)] = some [.int .i64 c.fType, .int .i64 0, .str []] := rfl
  cases hnl : c.fNull with
  | true =>
    simp only [go_sem, Nat.reduceBEq, Nat.reduceAdd, Nat.reduceLeDiff, s_spec_l11Short, TCol.row, hnl, q5]
    refine hP_draw (dr_spec_l1Once cs 4) hcode (hcur.same (by simp; omega) (by simp [q1, q2])) ?_
    rintro _ H ⟨b, rfl⟩ c1
    have s : CurS code r h H := c1.pre (by simp; omega) (fun q hq _ => by have : ¬ q = h.nx := (by omega); have : ¬ q = h.nx + 1 := (by omega); simp [*]) (fun _ _ => rfl)
    have pa : H.hp h.nx = some [.str c.fName, .int .i64 c.fType, .bool true] := (c1.hp _ (by simp; omega) q4).trans (by simp [])
    have pb : H.hp (h.nx + 1) = some [.int .i64 0, .int .i64 0, .str []] := (c1.hp _ (by simp) q3).trans (by simp)
    have hx : h.nx + 1 < H.nx := Nat.lt_of_lt_of_le (by simp) c1.nx
    cases b with
    | true =>
      simp only [go_sem, kSt_ptr, Nat.reduceBEq, Nat.reduceAdd, pb, gA]
      exact ⟨fun _ e => (by cases e), _, rfl, ⟨⟨0, 0, []⟩, rfl, by unfold okVal; decide⟩, s.put (b := h.nx + 1) (by omega) q3 (by simp) (fun q q1 _ => by simp [q1]) (fun _ _ => rfl)⟩
    | false =>
      have n1 : ¬ h.nx = H.nx := by omega
      have n2 : ¬ h.nx + 1 = H.nx := by omega
      have n3 : ¬ H.nx = h.nx + 1 := by omega
      have n4 : ¬ H.nx = r := by omega
      have n5 : ¬ h.nx + 1 = r := by omega
      have n6 : ¬ r = H.nx := by omega
      simp only [go_sem, kSt_ptr, Nat.reduceBEq, Nat.reduceAdd, Nat.reduceLeDiff, pa, n1, gB]
      -- behind one more draw
      have nxt : ∀ (H1 hm : Hp), CurS code r H1 hm → H.nx + 1 ≤ H1.nx → H1.hp H.nx = some [.int .i64 c.fType, .int .i64 0, .str []] → (∀ q, q < H.nx → H1.hp q = H.hp q) → (∀ q, q < H.nx → H1.ap q = H.ap q) → hm.hp H.nx = some [.int .i64 c.fType, .int .i64 0, .str []] ∧ hm.hp (h.nx + 1) = some [.int .i64 0, .int .i64 0, .str []] ∧ CurS code r h hm ∧ H.nx < hm.nx := fun H1 hm hq k1 k2 k3 k4 =>
        ⟨(hq.hp H.nx (by omega) n4).trans k2, (hq.hp (h.nx + 1) (by omega) n5).trans ((k3 _ (by omega)).trans pb), s.trans (hq.pre (by omega) (fun q hq _ => k3 q hq) k4), Nat.lt_of_lt_of_le k1 hq.nx⟩
      by_cases k3 : c.fType = 3
      · have f1 : fillR (List.replicate 5 [.str []]) 1 [(0, .str []), (1, .str [97]), (2, .str [98]), (3, .str [97, 98]), (4, .str [0])] = some [[.str []], [.str [97]], [.str [98]], [.str [97, 98]], [.str [0]]] := rfl
        have f1z : frzRows [[.str []], [.str [97]], [.str [98]], [.str [97, 98]], [.str [0]]] = some [[.str []], [.str [97]], [.str [98]], [.str [97, 98]], [.str [0]]] := rfl
        simp only [go_sem, Nat.reduceBEq, Int.reduceBEq, k3, f1, f1z]
        refine hP_draw (dr_spec_l1Str cs ([[], [97], [98], [97, 98], [0]] : List (List UInt8)) (by simp) _) hcode (s.cur.same (by simp; omega) (by simp [n6])) ?_
        rintro _ hm ⟨x, rfl, hs⟩ hq
        have hl : x.length ≤ 40 := (show ∀ s ∈ ([[], [97], [98], [97, 98], [0]] : List (List UInt8)), s.length ≤ 40 by decide) x hs
        obtain ⟨m1, m2, m3, m4⟩ := nxt _ hm hq (by simp) (by simp [k3]) (fun q hq => by have : ¬ q = H.nx := (by omega); simp [this]) (fun q hq => by have : ¬ q = H.nx + 1 := (by omega); simp [this])
        simp only [go_sem, kSt_ptr, Nat.reduceBEq, Nat.reduceAdd, m1, m2, k3, n2]
        exact ⟨fun _ e => (by cases e), _, rfl, ⟨⟨3, 0, x⟩, rfl, ⟨hl, by show _ ≤ (3 : Int); omega, by show (3 : Int) ≤ _; omega, by show _ ≤ (0 : Int); omega, by show (0 : Int) ≤ _; omega⟩⟩, m3.put2 (b := h.nx + 1) (b' := H.nx) (by omega) n5 (by omega) n4 (by simp) (fun q q1 q2 _ => by simp [q1, q2]) (fun _ _ => rfl)⟩
      by_cases k4 : c.fType = 4
      · simp only [go_sem, Int.reduceBEq, k4]
        refine hP_draw (dr_spec_l1Below cs 2) hcode (s.cur.same (by simp) (by simp [n6])) ?_
        rintro _ hm ⟨x, rfl, hx⟩ hq
        replace hx : 0 ≤ x ∧ x < 2 := hx
        obtain ⟨m1, m2, m3, m4⟩ := nxt _ hm hq (by simp) (by simp [k4]) (fun q hq => by have : ¬ q = H.nx := (by omega); simp [this]) (fun q hq => rfl)
        simp only [go_sem, kSt_ptr, Nat.reduceBEq, Nat.reduceAdd, Nat.reduceLeDiff, m1, m2, k4, n2]
        exact ⟨fun _ e => (by cases e), _, rfl, ⟨⟨4, x, []⟩, rfl, ⟨by show 0 ≤ 40; omega, by show _ ≤ (4 : Int); omega, by show (4 : Int) ≤ _; omega, by show _ ≤ x; omega, by show x ≤ _; omega⟩⟩, m3.put2 (b := h.nx + 1) (b' := H.nx) (by omega) n5 (by omega) n4 (by simp) (fun q q1 q2 _ => by simp [q1, q2]) (fun _ _ => rfl)⟩
      · have f1 : fillR (List.replicate 7 [.int .i64 0]) 1 [(0, .int .i64 0), (1, .int .i64 1), (2, .int .i64 2), (3, .int .i64 3), (4, .int .i64 4), (5, .int .i64 5), (6, .int .i64 (-1))] = some [[.int .i64 0], [.int .i64 1], [.int .i64 2], [.int .i64 3], [.int .i64 4], [.int .i64 5], [.int .i64 (-1)]] := rfl
        have f1z : frzRows [[.int .i64 0], [.int .i64 1], [.int .i64 2], [.int .i64 3], [.int .i64 4], [.int .i64 5], [.int .i64 (-1)]] = some [[.int .i64 0], [.int .i64 1], [.int .i64 2], [.int .i64 3], [.int .i64 4], [.int .i64 5], [.int .i64 (-1)]] := rfl
        simp only [go_sem, Nat.reduceBEq, beqF k3, beqF k4, f1, f1z]
        refine hP_draw (dr_spec_l1Int cs ([0, 1, 2, 3, 4, 5, -1] : List Int) (by simp) _) hcode (s.cur.same (by simp; omega) (by simp [n6])) ?_
        rintro _ hm ⟨x, rfl, hs⟩ hq
        have hl : -1 ≤ x ∧ x ≤ 5 := (show ∀ s ∈ ([0, 1, 2, 3, 4, 5, -1] : List Int), -1 ≤ s ∧ s ≤ 5 by decide) x hs
        obtain ⟨m1, m2, m3, m4⟩ := nxt _ hm hq (by simp) (by simp) (fun q hq => by have : ¬ q = H.nx := (by omega); simp [this]) (fun q hq => by have : ¬ q = H.nx + 1 := (by omega); simp [this])
        simp only [go_sem, kSt_ptr, Nat.reduceBEq, Nat.reduceAdd, Nat.reduceLeDiff, m1, m2, n2]
        have := hc.2.1
        have := hc.2.2
        exact ⟨fun _ e => (by cases e), _, rfl, ⟨⟨c.fType, x, []⟩, rfl, ⟨by show 0 ≤ 40; omega, by show _ ≤ c.fType; omega, by show c.fType ≤ _; omega, by show _ ≤ x; omega, by show x ≤ _; omega⟩⟩, m3.put2 (b := h.nx + 1) (b' := H.nx) (by omega) n5 (by omega) n4 (by simp) (fun q q1 q2 _ => by simp [q1, q2]) (fun _ _ => rfl)⟩
  | false =>
    simp only [go_sem, Nat.reduceBEq, Nat.reduceAdd, Nat.reduceLeDiff, s_spec_l11Short, TCol.row, hnl, q5]
    obtain ⟨H, hH⟩ : ∃ H : Hp, H = ⟨fun q => if q = h.nx + 1 then some [.int .i64 0, .int .i64 0, .str []] else if q = h.nx then some [.str c.fName, .int .i64 c.fType, .bool false] else h.hp q, h.ap, h.nx + 1 + 1⟩ := ⟨_, rfl⟩
    have s : CurS code r h H := by
      subst hH
      exact (cur_refl hcur).more (by simp; omega) (fun q hq => by have : ¬ q = h.nx := (by omega); have : ¬ q = h.nx + 1 := (by omega); simp [*]) (fun _ _ => rfl)
    have pa : H.hp h.nx = some [.str c.fName, .int .i64 c.fType, .bool false] := by subst hH; simp []
    have pb : H.hp (h.nx + 1) = some [.int .i64 0, .int .i64 0, .str []] := by subst hH; simp
    have hx : h.nx + 1 < H.nx := by subst hH; simp
    rw [← hH]
    clear hH
    have n1 : ¬ h.nx = H.nx := by omega
    have n2 : ¬ h.nx + 1 = H.nx := by omega
    have n3 : ¬ H.nx = h.nx + 1 := by omega
    have n4 : ¬ H.nx = r := by omega
    have n5 : ¬ h.nx + 1 = r := by omega
    have n6 : ¬ r = H.nx := by omega
    simp only [go_sem, kSt_ptr, Nat.reduceBEq, Nat.reduceAdd, Nat.reduceLeDiff, pa, n1, gB]
    -- behind one more draw
    have nxt : ∀ (H1 hm : Hp), CurS code r H1 hm → H.nx + 1 ≤ H1.nx → H1.hp H.nx = some [.int .i64 c.fType, .int .i64 0, .str []] → (∀ q, q < H.nx → H1.hp q = H.hp q) → (∀ q, q < H.nx → H1.ap q = H.ap q) → hm.hp H.nx = some [.int .i64 c.fType, .int .i64 0, .str []] ∧ hm.hp (h.nx + 1) = some [.int .i64 0, .int .i64 0, .str []] ∧ CurS code r h hm ∧ H.nx < hm.nx := fun H1 hm hq k1 k2 k3 k4 =>
      ⟨(hq.hp H.nx (by omega) n4).trans k2, (hq.hp (h.nx + 1) (by omega) n5).trans ((k3 _ (by omega)).trans pb), s.trans (hq.pre (by omega) (fun q hq _ => k3 q hq) k4), Nat.lt_of_lt_of_le k1 hq.nx⟩
    by_cases k3 : c.fType = 3
    · have f1 : fillR (List.replicate 5 [.str []]) 1 [(0, .str []), (1, .str [97]), (2, .str [98]), (3, .str [97, 98]), (4, .str [0])] = some [[.str []], [.str [97]], [.str [98]], [.str [97, 98]], [.str [0]]] := rfl
      have f1z : frzRows [[.str []], [.str [97]], [.str [98]], [.str [97, 98]], [.str [0]]] = some [[.str []], [.str [97]], [.str [98]], [.str [97, 98]], [.str [0]]] := rfl
      simp only [go_sem, Nat.reduceBEq, Int.reduceBEq, k3, f1, f1z]
      refine hP_draw (dr_spec_l1Str cs ([[], [97], [98], [97, 98], [0]] : List (List UInt8)) (by simp) _) hcode (s.cur.same (by simp; omega) (by simp [n6])) ?_
      rintro _ hm ⟨x, rfl, hs⟩ hq
      have hl : x.length ≤ 40 := (show ∀ s ∈ ([[], [97], [98], [97, 98], [0]] : List (List UInt8)), s.length ≤ 40 by decide) x hs
      obtain ⟨m1, m2, m3, m4⟩ := nxt _ hm hq (by simp) (by simp [k3]) (fun q hq => by have : ¬ q = H.nx := (by omega); simp [this]) (fun q hq => by have : ¬ q = H.nx + 1 := (by omega); simp [this])
      simp only [go_sem, kSt_ptr, Nat.reduceBEq, Nat.reduceAdd, m1, m2, k3, n2]
      exact ⟨fun _ e => (by cases e), _, rfl, ⟨⟨3, 0, x⟩, rfl, ⟨hl, by show _ ≤ (3 : Int); omega, by show (3 : Int) ≤ _; omega, by show _ ≤ (0 : Int); omega, by show (0 : Int) ≤ _; omega⟩⟩, m3.put2 (b := h.nx + 1) (b' := H.nx) (by omega) n5 (by omega) n4 (by simp) (fun q q1 q2 _ => by simp [q1, q2]) (fun _ _ => rfl)⟩
    by_cases k4 : c.fType = 4
    · simp only [go_sem, Int.reduceBEq, k4]
      refine hP_draw (dr_spec_l1Below cs 2) hcode (s.cur.same (by simp) (by simp [n6])) ?_
      rintro _ hm ⟨x, rfl, hx⟩ hq
      replace hx : 0 ≤ x ∧ x < 2 := hx
      obtain ⟨m1, m2, m3, m4⟩ := nxt _ hm hq (by simp) (by simp [k4]) (fun q hq => by have : ¬ q = H.nx := (by omega); simp [this]) (fun q hq => rfl)
      simp only [go_sem, kSt_ptr, Nat.reduceBEq, Nat.reduceAdd, Nat.reduceLeDiff, m1, m2, k4, n2]
      exact ⟨fun _ e => (by cases e), _, rfl, ⟨⟨4, x, []⟩, rfl, ⟨by show 0 ≤ 40; omega, by show _ ≤ (4 : Int); omega, by show (4 : Int) ≤ _; omega, by show _ ≤ x; omega, by show x ≤ _; omega⟩⟩, m3.put2 (b := h.nx + 1) (b' := H.nx) (by omega) n5 (by omega) n4 (by simp) (fun q q1 q2 _ => by simp [q1, q2]) (fun _ _ => rfl)⟩
    · have f1 : fillR (List.replicate 7 [.int .i64 0]) 1 [(0, .int .i64 0), (1, .int .i64 1), (2, .int .i64 2), (3, .int .i64 3), (4, .int .i64 4), (5, .int .i64 5), (6, .int .i64 (-1))] = some [[.int .i64 0], [.int .i64 1], [.int .i64 2], [.int .i64 3], [.int .i64 4], [.int .i64 5], [.int .i64 (-1)]] := rfl
      have f1z : frzRows [[.int .i64 0], [.int .i64 1], [.int .i64 2], [.int .i64 3], [.int .i64 4], [.int .i64 5], [.int .i64 (-1)]] = some [[.int .i64 0], [.int .i64 1], [.int .i64 2], [.int .i64 3], [.int .i64 4], [.int .i64 5], [.int .i64 (-1)]] := rfl
      simp only [go_sem, Nat.reduceBEq, beqF k3, beqF k4, f1, f1z]
      refine hP_draw (dr_spec_l1Int cs ([0, 1, 2, 3, 4, 5, -1] : List Int) (by simp) _) hcode (s.cur.same (by simp; omega) (by simp [n6])) ?_
      rintro _ hm ⟨x, rfl, hs⟩ hq
      have hl : -1 ≤ x ∧ x ≤ 5 := (show ∀ s ∈ ([0, 1, 2, 3, 4, 5, -1] : List Int), -1 ≤ s ∧ s ≤ 5 by decide) x hs
      obtain ⟨m1, m2, m3, m4⟩ := nxt _ hm hq (by simp) (by simp) (fun q hq => by have : ¬ q = H.nx := (by omega); simp [this]) (fun q hq => by have : ¬ q = H.nx + 1 := (by omega); simp [this])
      simp only [go_sem, kSt_ptr, Nat.reduceBEq, Nat.reduceAdd, Nat.reduceLeDiff, m1, m2, n2]
      have := hc.2.1
      have := hc.2.2
      exact ⟨fun _ e => (by cases e), _, rfl, ⟨⟨c.fType, x, []⟩, rfl, ⟨by show 0 ≤ 40; omega, by show _ ≤ c.fType; omega, by show c.fType ≤ _; omega, by show _ ≤ x; omega, by show x ≤ _; omega⟩⟩, m3.put2 (b := h.nx + 1) (b' := H.nx) (by omega) n5 (by omega) n4 (by simp) (fun q q1 q2 _ => by simp [q1, q2]) (fun _ _ => rfl)⟩
end Go.Proofs.YtfjkmpmjohojpaaGreatDoor.Ij
namespace Go.Proofs.YtfjkmpmjohojpaaGreatDoor.Ij
open Go Go.RowKit Go.Ev
set_option linter.unusedSimpArgs false
set_option linter.unusedVariables false
set_option maxHeartbeats 1600000
structure R11 (code : List UInt8) (r : Nat) (h0 : Hp) (d : TDef) (b3 : Nat) (l : List TVal) (B : Nat) (e : Ps) (h : Hp) : Prop where
  e0 : e 0 = .ptr r 0
  e3 : e 3 = .ptr b3 0
  e5 : e 5 = .sl B 0 l.length 3
  e6 : e 6 = .int .i64 (l.length : Int)
  p3 : h.hp b3 = some d.row
  pB : h.hp B = some (l.map TVal.row).flatten
  l3 : h0.nx ≤ b3
  lB : h0.nx ≤ B
  x3 : b3 < h.nx
  xB : B < h.nx
  n3 : ¬ b3 = B
  rn : r < h0.nx
  s : CurS code r h0 h
theorem L0_spec_l11Row (cs) {code : List UInt8} {r : Nat} {h0 : Hp} {d : TDef} {b3 : Nat} (hcode : code.length ≤ 1048576) (hd : okDef d) {Q : QS}
    (hq : ∀ (l : List TVal) (B : Nat) (e : Ps) (h : Hp), l.length = d.fCols.length → (∀ t ∈ l, okVal t) → R11 code r h0 d b3 l B e h → Q (.exit 0) e h) :
    ∀ (k : Nat) (l : List TVal) (B : Nat) (e : Ps) (h : Hp), l.length + k = d.fCols.length → (∀ t ∈ l, okVal t) → R11 code r h0 d b3 l B e h → WL (EE cs) s_spec_l11Row_L0 e h Q := by
  have hcl := hd.cl
  have hdr : d.row = [.str d.fName, .imm (d.fCols.map TCol.row), .imm (d.fPrimary.map TBy.row), .imm (d.fIndexes.map TIndex.row)] := rfl
  intro k
  induction k with
  | zero =>
    intro l B e h hk hl z
    have hc : ¬ (l.length : Int) < (d.fCols.length : Int) := by omega
    refine .step (wp_sound _ _ _ _ ?_)
    simp only [go_sem, Nat.reduceBEq, Nat.reduceAdd, Nat.reduceLeDiff, s_spec_l11Row_L0, z.e6, z.e3, z.p3, hdr, List.length_map, hc]
    exact hq l B _ _ (by omega) hl ⟨by simp only [go_sem, Nat.reduceBEq, z.e0], by simp only [go_sem, Nat.reduceBEq, z.e3], by simp only [go_sem, Nat.reduceBEq, z.e5], by simp only [go_sem, Nat.reduceBEq, z.e6], z.p3, z.pB, z.l3, z.lB, z.x3, z.xB, z.n3, z.rn, z.s⟩
  | succ k ih =>
    intro l B e h hk hl z
    have hc : (l.length : Int) < (d.fCols.length : Int) := by omega
    obtain ⟨c, hcg⟩ : ∃ c, d.fCols[l.length]? = some c := ⟨_, List.getElem?_eq_getElem (by omega)⟩
    have hoc : okCol c := hd.cols c (List.mem_of_getElem? hcg)
    have hia : ∀ H, kIa 3 (.imm (d.fCols.map TCol.row)) (.int .i64 (l.length : Int)) H = some (.cptr c.row, H) := fun H => kIa_imm (by omega) (by rw [List.getElem?_map, Int.toNat_natCast, hcg]; rfl) rfl
    have hcr : c.row = [.str c.fName, .int .i64 c.fType, .bool c.fNull] := rfl
    have hw : IntKind.wrap .i64 ((l.length : Int) + 1) = ((l.length + 1 : Nat) : Int) := by rw [wrapId (by omega) (by omega)]; omega
    have n3 := z.n3
    have x3 := z.x3
    have xB := z.xB
    have l3 := z.l3
    have lB := z.lB
    have rn := z.rn
    refine .step (wp_sound _ _ _ _ ?_)
    simp only [go_sem, Nat.reduceBEq, Nat.reduceAdd, Nat.reduceLeDiff, s_spec_l11Row_L0, z.e6, z.e3, z.p3, hdr, List.length_map, hc, z.e0, z.e5, hia, hcr]
    refine hP_draw (dr_spec_l11Short cs c hoc) hcode z.s.cur ?_
    rintro _ h1 ⟨t, rfl, ht⟩ c1
    have s1 := z.s.trans c1
    have p3 : h1.hp b3 = some d.row := (c1.hp b3 x3 (by omega)).trans z.p3
    have pB : h1.hp B = some (l.map TVal.row).flatten := (c1.hp B xB (by omega)).trans z.pB
    have hn := c1.nx
    have f1 : fillR (List.replicate 1 [.int .i64 0, .int .i64 0, .str []]) 3 [(0, .agg t.row)] = some [t.row] := rfl
    have f2 : frzRows [t.row] = some [t.row] := rfl
    have sa : ∀ (H : Hp) (id : Nat), H.hp B = some (l.map TVal.row).flatten → sApp true 32 3 (.sl B 0 l.length 3) (.app id [t.row]) H = some (.sl H.nx 0 (l ++ [t]).length 3, (H.kill B).new ((l ++ [t]).map TVal.row).flatten) := fun H id hH =>
      sApp_rows (T := tVal) (bt := 32) (x := .app id [t.row]) (more := [t]) hH rfl (by simp only [List.length_cons, List.length_nil]; unfold room; omega)
    simp only [go_sem, Nat.reduceBEq, Nat.reduceAdd, f1, f2]
    rw [sa _ _ (by simp only [go_sem, pB])]
    simp only [go_sem, Nat.reduceBEq, Hp.kill, z.e6, hw]
    have m3 : ¬ b3 = h1.nx + 1 := by omega
    have q0 : ∀ q, q < h0.nx → ¬ q = B ∧ ¬ q = h1.nx + 1 ∧ ¬ q = h1.nx := fun q hq => ⟨by omega, by omega, by omega⟩
    obtain ⟨r1, r2, r3⟩ := q0 r rn
    have hn1 := s1.nx
    refine ih (l ++ [t]) (h1.nx + 1) _ _ (by simp; omega) (fun x hx => ?_) ⟨by simp only [go_sem, Nat.reduceBEq, z.e0], by simp only [go_sem, Nat.reduceBEq, z.e3], by simp only [go_sem, Nat.reduceBEq], by simp only [go_sem, Nat.reduceBEq, List.length_append, List.length_cons, List.length_nil], by simp only [go_sem, m3, n3, p3], by simp only [go_sem], l3, by omega, by show b3 < h1.nx + 1 + 1; omega, Nat.lt_succ_self _, m3, rn, ?_⟩
    · rcases List.mem_append.1 hx with hx | hx
      · exact hl x hx
      · rw [List.mem_singleton] at hx
        subst hx
        exact ht
    · exact ⟨s1.cur.same (by show h1.nx ≤ h1.nx + 1 + 1; omega) (by simp only [go_sem, r1, r2]), fun q hq hr => by obtain ⟨t1, t2, t3⟩ := q0 q hq; simp only [go_sem, t1, t2]; exact s1.hp q hq hr, fun q hq => by obtain ⟨t1, t2, t3⟩ := q0 q hq; simp only [go_sem, t3]; exact s1.ap q hq, by show h0.nx ≤ h1.nx + 1 + 1; omega⟩
theorem dr_spec_l11Row (cs) (d : TDef) (hd : okDef d) : DrawR (EE cs) 16 [.agg d.row] (RowS d.fCols.length) := drawR_of (st_spec_l11Row cs) fun code r h hcode hcur => by
  have rn := hcur.1
  have hdr : d.row = [.str d.fName, .imm (d.fCols.map TCol.row), .imm (d.fPrimary.map TBy.row), .imm (d.fIndexes.map TIndex.row)] := rfl
  have f1 : fillR (List.replicate 0 [.int .i64 0, .int .i64 0, .str []]) 3 [] = some [] := rfl
  have m3 : ¬ h.nx = h.nx + 1 := by omega
  simp only [go_sem, Nat.reduceBEq, Nat.reduceAdd, s_spec_l11Row, hdr, f1]
  refine L0_spec_l11Row cs (r := r) (h0 := h) (b3 := h.nx) (d := d) hcode hd (fun l B e h2 h1 ho z => ?_) d.fCols.length [] (h.nx + 1) _ _ (by simp) (fun t ht => by cases ht) ?_
  · simp only [go_sem, Nat.reduceBEq, z.e5]
    exact ⟨fun _ e => (by cases e), _, rfl, ⟨B, l, rfl, z.pB, z.lB, z.xB, h1, ho⟩, z.s⟩
  · have q0 : ∀ q, q < h.nx → ¬ q = h.nx + 1 ∧ ¬ q = h.nx := fun q hq => ⟨by omega, by omega⟩
    obtain ⟨r1, r2⟩ := q0 r rn
    refine ⟨by simp only [go_sem, Nat.reduceBEq], by simp only [go_sem, Nat.reduceBEq], by simp only [go_sem, Nat.reduceBEq]; first | done | rfl, by simp only [go_sem, Nat.reduceBEq]; first | done | rfl, by simp only [go_sem, m3]; first | done | rfl, by simp only [go_sem]; first | done | rfl, Nat.le_refl _, Nat.le_succ _, by show h.nx < h.nx + 1 + 1; omega, Nat.lt_succ_self _, m3, rn, ?_⟩
    exact ⟨hcur.same (by show h.nx ≤ h.nx + 1 + 1; omega) (by simp only [go_sem, r1, r2]), fun q hq hr => by obtain ⟨t1, t2⟩ := q0 q hq; simp only [go_sem, t1, t2], fun q hq => rfl, by show h.nx ≤ h.nx + 1 + 1; omega⟩
def fitsV (p : TPart) (v : TVal) : Bool := valOk v && ((v.fK == p.fType && v.fK != 0) || (v.fK == 0 && p.fNull))
def fitAt (l : List TPart) (pre : List TVal) (v : TVal) : Bool := match l[pre.length]? with | some p => fitsV p v | none => false
theorem fitAt_some {l : List TPart} {pre : List TVal} {v : TVal} {p : TPart} (h : l[pre.length]? = some p) : fitAt l pre v = fitsV p v := by unfold fitAt; rw [h]
def fitsAll (l : List TPart) (vs : List TVal) : Bool := decide (vs.length ≤ l.length) && allP (fitAt l) [] vs
def sameV (a b : TVal) : Bool := a.fK == b.fK && (a.fN == b.fN && a.fS == b.fS)
theorem sameV_eq {a b : TVal} : sameV a b = true ↔ a = b := by
  cases a; cases b
  simp [sameV]
def lessV (a b : TVal) : Bool := if (a.fK == b.fK) = true then (if (a.fN == b.fN) = true then Op.bytesLess a.fS b.fS else decide (a.fN < b.fN)) else decide (a.fK < b.fK)
def lessP (p : TPart) (a b : TVal) : Bool := if p.fDesc = true then lessV b a else lessV a b
def lessAt (l : List TPart) (n : Nat) (a b : TVal) : Bool := match l[n]? with
  | some p => lessP p a b
  | none => false
def lessK (l : List TPart) : Nat → List TVal → List TVal → Bool
  | n, a :: x, b :: y => if sameV a b = true then lessK l (n + 1) x y else lessAt l n a b
  | _, [], _ :: _ => true
  | _, _, [] => false
def sameR (a b : List TVal) : Bool := match a, b with
  | [], [] => true
  | x :: a, y :: b => sameV x y && sameR a b
  | _, _ => false
theorem cmpVal (op : Bool) (a b : TVal) (h : Hp) : sBinF .eql [.int .i64, .int .i64, .str] (.agg [.int .i64 a.fK, .int .i64 a.fN, .str a.fS]) (.agg [.int .i64 b.fK, .int .i64 b.fN, .str b.fS]) = some (.bool (sameV a b)) := by
  cases h1 : (a.fK == b.fK) <;> cases h2 : (a.fN == b.fN) <;> cases h3 : (a.fS == b.fS) <;> simp [sBinF, eqCells, eqK, sameV, h1, h2, h3]
theorem cmpNeq (a b : TVal) : sBinF .neq [.int .i64, .int .i64, .str] (.agg [.int .i64 a.fK, .int .i64 a.fN, .str a.fS]) (.agg [.int .i64 b.fK, .int .i64 b.fN, .str b.fS]) = some (.bool (!sameV a b)) := by
  cases h1 : (a.fK == b.fK) <;> cases h2 : (a.fN == b.fN) <;> cases h3 : (a.fS == b.fS) <;> simp [sBinF, eqCells, eqK, sameV, h1, h2, h3]
theorem cmpEql (a b : TVal) : sBinF .eql [.int .i64, .int .i64, .str] (.agg [.int .i64 a.fK, .int .i64 a.fN, .str a.fS]) (.agg [.int .i64 b.fK, .int .i64 b.fN, .str b.fS]) = some (.bool (sameV a b)) := cmpVal true a b Hp.empty
def partOk (p : TPart) : Bool := inR p.fCol 0 9 && inR p.fType 1 4
def planOk (l : List TPart) : Bool := (l.all partOk) && decide ((l.length : Int) ≤ 6)
def rowOk (l : List TPart) (r : List TVal) : Bool := planOk l && (((r.length : Int) == (l.length : Int)) && fitsAll l r)
def pickV (row : List TVal) (p : TPart) : TVal := if inR p.fCol 0 ((row.length : Int) - 1) = true then (match row[p.fCol.toNat]? with | some v => v | none => ⟨0, 0, []⟩) else ⟨0, 0, []⟩
def pick (l : List TPart) (row : List TVal) : List TVal := l.map (pickV row)
theorem pick_snoc (l : List TPart) (p : TPart) (row : List TVal) : pick (l ++ [p]) row = pick l row ++ [pickV row p] := by simp [pick]
theorem pick_len (l : List TPart) (row : List TVal) : (pick l row).length = l.length := by simp [pick]
theorem pickV_in {row : List TVal} {p : TPart} {v : TVal} (h : inR p.fCol 0 ((row.length : Int) - 1) = true) (hv : row[p.fCol.toNat]? = some v) : pickV row p = v := by unfold pickV; rw [if_pos h, hv]
theorem pickV_out {row : List TVal} {p : TPart} (h : inR p.fCol 0 ((row.length : Int) - 1) = false) : pickV row p = ⟨0, 0, []⟩ := by unfold pickV; rw [if_neg (by rw [h]; decide)]
theorem valFill0 : sFill [.int .i64 0, .int .i64 0, .str []] [] = some [.int .i64 0, .int .i64 0, .str []] := rfl
theorem valFillR (k n : Int) (s : List UInt8) : fillR (List.replicate 1 [.int .i64 0, .int .i64 0, .str []]) 3 [(0, .agg [.int .i64 k, .int .i64 n, .str s])] = some [[.int .i64 k, .int .i64 n, .str s]] := rfl
theorem valFrzR (k n : Int) (s : List UInt8) : frzRows [[.int .i64 k, .int .i64 n, .str s]] = some [[.int .i64 k, .int .i64 n, .str s]] := rfl
def rowP (pre : List TCol) (c : TCol) : TPart := ⟨pre.length, c.fType, c.fNull, false⟩
def rowPlan (v : TDef) : List TPart := if checkDef v = 0 then mapP rowP [] v.fCols else []
theorem rowPlan_len {v : TDef} (h : tDef.cost v ≤ 1048576) : (rowPlan v).length ≤ 1048576 := by
  unfold rowPlan
  split
  · rw [mapP_len]; exact (defLens h).2.1
  · simp
theorem kSl_take {α : Type} {row : α → List AV} {l : List α} {sz n : Nat} (hn : n ≤ l.length) (hr : ∀ v, (row v).length = sz) (hne : sz ≠ 0) : sIdxL sz (.imm (l.map row)) none (some (.int .i64 n)) = some (.imm ((l.take n).map row)) := by
  have h1 : (l.take n).length = n := by rw [List.length_take]; omega
  have := kSl_pre (row := row) (l := l) (pre := l.take n) (rest := l.drop n) (by rw [List.take_append_drop]) hr hne
  rwa [h1] at this
theorem ltTot {α : Type} (r : α → α → Prop) [DecidableRel r] {a b : α} (h : r a b ↔ ¬ r b a) : decide (r a b) = !decide (r b a) := by
  by_cases hb : r b a
  · rw [decide_eq_true hb, decide_eq_false (fun ha => h.1 ha hb)]; rfl
  · rw [decide_eq_false hb, decide_eq_true (h.2 hb)]; rfl
theorem bless_total : ∀ (s t : List UInt8), s ≠ t → Op.bytesLess s t = !Op.bytesLess t s
  | [], [], h => absurd rfl h
  | [], b :: t, _ => by simp [Op.bytesLess]
  | a :: s, [], _ => by simp [Op.bytesLess]
  | a :: s, b :: t, h => by
    by_cases hab : a = b
    · subst hab
      have hst : s ≠ t := fun e => h (by rw [e])
      have ih := bless_total s t hst
      simp [Op.bytesLess, ih]
    · have h2 : ¬ b = a := fun e => hab e.symm
      have h3 : a.toNat ≠ b.toNat := fun e => hab (UInt8.toNat_inj.1 e)
      have e1 : Op.bytesLess (a :: s) (b :: t) = decide (a < b) := by simp [Op.bytesLess, hab]
      have e2 : Op.bytesLess (b :: t) (a :: s) = decide (b < a) := by simp [Op.bytesLess, h2]
      rw [e1, e2]
      exact ltTot (fun x y => x < y) (by rw [UInt8.lt_iff_toNat_lt, UInt8.lt_iff_toNat_lt]; omega)
theorem lessV_total {a b : TVal} (h : sameV a b = false) : lessV a b = !lessV b a := by
  unfold lessV
  by_cases h1 : a.fK = b.fK
  · by_cases h2 : a.fN = b.fN
    · have h3 : a.fS ≠ b.fS := fun e => by
        have : sameV a b = true := by simp [sameV, h1, h2, e]
        rw [this] at h; cases h
      simp [h1, h2, bless_total _ _ h3]
    · have h2' : ¬ b.fN = a.fN := fun e => h2 e.symm
      have e1 : (if (a.fK == b.fK) = true then (if (a.fN == b.fN) = true then Op.bytesLess a.fS b.fS else decide (a.fN < b.fN)) else decide (a.fK < b.fK)) = decide (a.fN < b.fN) := by simp [h1, h2]
      have e2 : (if (b.fK == a.fK) = true then (if (b.fN == a.fN) = true then Op.bytesLess b.fS a.fS else decide (b.fN < a.fN)) else decide (b.fK < a.fK)) = decide (b.fN < a.fN) := by simp [h1, h2']
      rw [e1, e2]
      exact ltTot (fun x y : Int => x < y) (by omega)
  · have h1' : ¬ b.fK = a.fK := fun e => h1 e.symm
    have e1 : (if (a.fK == b.fK) = true then (if (a.fN == b.fN) = true then Op.bytesLess a.fS b.fS else decide (a.fN < b.fN)) else decide (a.fK < b.fK)) = decide (a.fK < b.fK) := by simp [h1]
    have e2 : (if (b.fK == a.fK) = true then (if (b.fN == a.fN) = true then Op.bytesLess b.fS a.fS else decide (b.fN < a.fN)) else decide (b.fK < a.fK)) = decide (b.fK < a.fK) := by simp [h1']
    rw [e1, e2]
    exact ltTot (fun x y : Int => x < y) (by omega)
theorem sameV_comm (a b : TVal) : sameV a b = sameV b a := by
  cases h : sameV b a
  · cases h2 : sameV a b
    · rfl
    · have := sameV_eq.1 h2; subst this; rw [h2] at h; exact h
  · have := sameV_eq.1 h; subst this; exact h
theorem sameR_comm : ∀ (a b : List TVal), sameR a b = sameR b a
  | [], [] => rfl
  | [], _ :: _ => rfl
  | _ :: _, [] => rfl
  | x :: a, y :: b => by simp only [sameR, sameV_comm x y, sameR_comm a b]
theorem trich (l : List TPart) : ∀ (a b : List TVal) (n : Nat), a.length = b.length → n + a.length ≤ l.length →
    (sameR a b = true ∧ lessK l n a b = false ∧ lessK l n b a = false) ∨ (sameR a b = false ∧ lessK l n a b = !lessK l n b a)
  | [], [], n, _, _ => .inl ⟨rfl, rfl, rfl⟩
  | [], _ :: _, _, h, _ => by simp at h
  | _ :: _, [], _, h, _ => by simp at h
  | x :: a, y :: b, n, h, hl => by
    simp only [List.length_cons] at h hl
    simp only [sameR, lessK, sameV_comm y x]
    cases hv : sameV x y
    · refine .inr ⟨rfl, ?_⟩
      obtain ⟨p, hp⟩ : ∃ p, l[n]? = some p := ⟨_, List.getElem?_eq_getElem (by omega)⟩
      have hv2 : sameV y x = false := by rw [sameV_comm]; exact hv
      simp only [Bool.false_eq_true, if_false, lessAt, hp, lessP]
      split
      · exact lessV_total hv2
      · exact lessV_total hv
    · simp only [Bool.true_and, if_true]
      exact trich l a b (n + 1) (by omega) (by omega)
theorem sameR_nil {a b : List TVal} (h : sameR a b = false) (hl : a.length = b.length) : 0 < b.length := by
  cases b with
  | nil => cases a with
    | nil => cases h
    | cons x a => simp at hl
  | cons y b => simp
end Go.Proofs.YtfjkmpmjohojpaaGreatDoor.Ij
namespace Go.Proofs.YtfjkmpmjohojpaaGreatDoor.Ij
open Go Go.RowKit Go.Ev
set_option linter.unusedSimpArgs false
set_option linter.unusedVariables false
set_option maxHeartbeats 1600000
noncomputable def C_spec_Pick := c2 (sliceT tPart) (sliceT tVal) (fun (l : List (TPart)) (row : List (TVal)) => l.length ≤ 1048576 ∧ row.length ≤ 1048576) (fun x => .imm (x.map TVal.row)) fun (l : List (TPart)) (row : List (TVal)) => (pick l row)
theorem C_spec_Pick_eq (l : List (TPart)) (row : List (TVal)) (h : l.length ≤ 1048576 ∧ row.length ≤ 1048576) : C_spec_Pick [.imm (l.map TPart.row), .imm (row.map TVal.row)] = some (.imm ((((pick l row))).map TVal.row)) := c2_eq (sliceT tPart) (sliceT tVal) h
theorem ok_spec_Pick {WI : World → Prop} (hs : Stable WI) (cs) (hT : TOK (EE cs) WI) (h1 : (EE cs).T 14 = some C_spec_l1In) : OwnOK Tryz.prog WI 50 C_spec_Pick := by
  refine own2 (E := EE cs) hT hs (by rw [st_spec_Pick]; rfl) fun l row hp => outO_wp (st_spec_Pick cs) ?_
  obtain ⟨n1, n2⟩ := hp
  have hw1 : IntKind.wrap .i64 ((row.length : Int) - 1) = (row.length : Int) - 1 := wrapId (by omega) (by omega)
  simp only [go_sem, Nat.reduceBEq, Nat.reduceAdd, s_spec_Pick, fillR, List.replicate]
  refine (wl_for (l := l) (fun pre e h => e 0 = .imm (l.map TPart.row) ∧ e 1 = .imm (row.map TVal.row) ∧ OwS 0 tVal 0 h.nx (pick pre row) (e 5) h ∧ e 6 = .int .i64 pre.length) (.exit 0) (fun e h => OwS 0 tVal 0 h.nx (pick l row) (e 5) h) (by omega) ?_ ?_ (by simp) l [] _ _ rfl ?_).mono ?_
  · rintro pre p rest e h a ⟨q0, q1, q2, ix⟩
    have hlen : (pick pre row).length ≤ 1048576 := by rw [pick_len]; have := a.lt; omega
    cases hin : inR p.fCol 0 ((row.length : Int) - 1)
    · have hsn : pick (pre ++ [p]) row = pick pre row ++ [⟨0, 0, []⟩] := by rw [pick_snoc, pickV_out hin]
      simp only [go_sem, kSt_ptr, Nat.reduceBEq, Nat.reduceAdd, s_spec_Pick_L0, q0, q1, ix, a.dl, a.ia (row := TPart.row) (sz := 4) rfl, TPart.row, h1, C_spec_l1In_eq, hw1, hin, valFill0, valFillR]
      refine hP_growL [(⟨0, 0, []⟩ : TVal)] rfl rfl (q2.mono (by simp <;> omega) (fun r _ hr => by have g : ¬ r = h.nx := (by omega); have g' : ¬ r = h.nx + 1 := (by omega); simp [g, g'])) (rowsIn_sl1 (r := h.nx + 1) (cs := [.int .i64 0, .int .i64 0, .str []]) (by simp) rfl) (by simp only [List.length_cons, List.length_nil]; unfold room; omega) ?_
      intro v' h' g1 g2 g3 _
      simp only [go_sem, Nat.reduceBEq, q0, q1, ix, a.hw, hsn]
      exact g1
    obtain ⟨z1, z2⟩ := inR_nat hin
    obtain ⟨w, hw⟩ : ∃ w, row[p.fCol.toNat]? = some w := ⟨_, List.getElem?_eq_getElem z2⟩
    have hsn : pick (pre ++ [p]) row = pick pre row ++ [w] := by rw [pick_snoc, pickV_in hin hw]
    simp only [go_sem, kSt_ptr, Nat.reduceBEq, Nat.reduceAdd, s_spec_Pick_L0, q0, q1, ix, a.dl, a.ia (row := TPart.row) (sz := 4) rfl, TPart.row, TVal.row, h1, C_spec_l1In_eq, hw1, hin, kIa_nth (row := TVal.row) (sz := 3) z1 hw rfl, valFill0, valFillR]
    refine hP_growL [w] rfl rfl (q2.mono (by simp <;> omega) (fun r _ hr => by have g : ¬ r = h.nx := (by omega); have g' : ¬ r = h.nx + 1 := (by omega); simp [g, g'])) (rowsIn_sl1 (r := h.nx + 1) (cs := [.int .i64 w.fK, .int .i64 w.fN, .str w.fS]) (by simp) rfl) (by simp only [List.length_cons, List.length_nil]; unfold room; omega) ?_
    intro v' h' g1 g2 g3 _
    simp only [go_sem, Nat.reduceBEq, q0, q1, ix, a.hw, hsn]
    exact g1
  · rintro e h ⟨q0, q1, q2, ix⟩
    simp only [go_sem, Nat.reduceBEq, s_spec_Pick_L0, q0, q2, ix]
  · exact ⟨rfl, rfl, OwS.lit 0 tVal (h := Hp.empty), rfl⟩
  · rintro x e h ⟨rfl, j⟩
    simp only [go_sem, Nat.reduceBEq]
    exact j.owI.owE (by decide)
theorem pick_ok {l : List TPart} {row : List TVal} (hr : ∀ v ∈ row, okVal v) : ∀ v ∈ pick l row, okVal v := fun v hv => by
  obtain ⟨p, _, rfl⟩ := List.mem_map.1 hv
  have z : okVal ⟨0, 0, []⟩ := by unfold okVal; decide
  unfold pickV
  split
  · split
    · rename_i h
      exact hr _ (List.mem_of_getElem? h)
    · exact z
  · exact z
def hdC : SCode → SCode
  | .seq a _ => a
  | c => c
def tlC : SCode → SCode
  | .seq _ b => b
  | c => c
def t_l24 : SCode := tlC (tlC (tlC (tlC s_spec_l24Draw.body)))
def u_l24 : SCode := tlC (tlC (tlC (tlC (tlC t_l24))))
theorem b_l24 : s_spec_l24Draw.body = .seq (hdC s_spec_l24Draw.body) (.seq (hdC (tlC s_spec_l24Draw.body)) (.seq (hdC (tlC (tlC s_spec_l24Draw.body))) (.seq (hdC (tlC (tlC (tlC s_spec_l24Draw.body)))) t_l24))) := rfl
theorem bt_l24 : t_l24 = .seq (hdC t_l24) (.seq (hdC (tlC t_l24)) (.seq (hdC (tlC (tlC t_l24))) (.seq (hdC (tlC (tlC (tlC t_l24)))) (.seq (hdC (tlC (tlC (tlC (tlC t_l24))))) u_l24)))) := rfl
theorem own_pick {plan : List TPart} {row : List TVal} (hp : plan.length ≤ 1048576 ∧ row.length ≤ 1048576) (h1 : 1 ≤ plan.length) (H : Hp) : deepC C_spec_Pick true [.imm (plan.map TPart.row), .imm (row.map TVal.row)] H = some (.sl H.nx 0 (pick plan row).length 3, H.new ((pick plan row).map TVal.row).flatten) := by
  have e : mapO (frzT 8 H) [.imm (plan.map TPart.row), .imm (row.map TVal.row)] = some [.imm (plan.map TPart.row), .imm (row.map TVal.row)] := rfl
  simp only [deepC, e, Option.bind_some, C_spec_Pick_eq plan row hp, if_true]
  exact dthE_vals (by rw [pick_len]; exact h1) H
structure S24 (code : List UInt8) (r : Nat) (h0 : Hp) (n0 b4 b5 b6 : Nat) (c5 : List AV) (d : TDef) (h : Hp) : Prop where
  p4 : h.hp b4 = some [.int .i64 0, .int .i64 0, .snil, .snil, .bool false, .bool false, .bool false, .int .i64 0]
  p5 : h.hp b5 = some c5
  p6 : h.hp b6 = some [.str d.fName, .imm (d.fCols.map TCol.row), .imm (d.fPrimary.map TBy.row), .imm (d.fIndexes.map TIndex.row)]
  l4 : h0.nx ≤ b4
  l5 : h0.nx ≤ b5
  l6 : h0.nx ≤ b6
  x4 : b4 < n0
  x5 : b5 < n0
  x6 : b6 < n0
  xn : n0 ≤ h.nx
  n45 : ¬ b4 = b5
  n46 : ¬ b4 = b6
  n56 : ¬ b5 = b6
  rn : r < h0.nx
  s : CurS code r h0 h
section
variable {code : List UInt8} {r : Nat} {h0 : Hp} {n0 b4 b5 b6 : Nat} {c5 : List AV} {d : TDef} {h h' : Hp}
theorem S24.draw (z : S24 code r h0 n0 b4 b5 b6 c5 d h) (c : CurS code r h h') : S24 code r h0 n0 b4 b5 b6 c5 d h' := by
  have := z.l4; have := z.l5; have := z.l6; have := z.x4; have := z.x5; have := z.x6; have := z.rn; have := c.nx; have := z.xn
  exact ⟨(c.hp b4 (by omega) (by omega)).trans z.p4, (c.hp b5 (by omega) (by omega)).trans z.p5, (c.hp b6 (by omega) (by omega)).trans z.p6, z.l4, z.l5, z.l6, z.x4, z.x5, z.x6, by omega, z.n45, z.n46, z.n56, z.rn, z.s.trans c⟩
theorem S24.put (z : S24 code r h0 n0 b4 b5 b6 c5 d h) (c' : List AV) : S24 code r h0 n0 b4 b5 b6 c' d ⟨fun q => if q = b5 then some c' else h.hp q, h.ap, h.nx⟩ := by
  have n45 := z.n45
  have n65 : ¬ b6 = b5 := fun e => z.n56 e.symm
  exact ⟨by simp only [go_sem, n45, z.p4], if_pos rfl, by simp only [go_sem, n65, z.p6], z.l4, z.l5, z.l6, z.x4, z.x5, z.x6, z.xn, z.n45, z.n46, z.n56, z.rn, z.s.put (b := b5) z.l5 (by have := z.l5; have := z.rn; omega) (Nat.le_refl _) (fun q hq _ => by simp [hq]) (fun _ _ => rfl)⟩
theorem S24.new (z : S24 code r h0 n0 b4 b5 b6 c5 d h) (c : List AV) : S24 code r h0 n0 b4 b5 b6 c5 d ⟨fun q => if q = h.nx then some c else h.hp q, h.ap, h.nx + 1⟩ := by
  have := z.xn
  have m4 : ¬ b4 = h.nx := by have := z.x4; omega
  have m5 : ¬ b5 = h.nx := by have := z.x5; omega
  have m6 : ¬ b6 = h.nx := by have := z.x6; omega
  exact ⟨by simp only [go_sem, m4, z.p4], by simp only [go_sem, m5, z.p5], by simp only [go_sem, m6, z.p6], z.l4, z.l5, z.l6, z.x4, z.x5, z.x6, Nat.le_succ_of_le z.xn, z.n45, z.n46, z.n56, z.rn, z.s.more (Nat.le_succ _) (fun q hq => by have g : ¬ q = h.nx := (by omega); simp [g]) (fun _ _ => rfl)⟩
theorem S24.out (z : S24 code r h0 n0 b4 b5 b6 c5 d h) (cells : List AV) : CurS code r h0 ⟨fun q => if q = b4 then some cells else h.hp q, h.ap, h.nx⟩ :=
  z.s.put (b := b4) z.l4 (by have := z.l4; have := z.rn; omega) (Nat.le_refl _) (fun q hq _ => by simp [hq]) (fun _ _ => rfl)
end
theorem U_l24 (cs) (hT50 : (EE cs).T 50 = some C_spec_Pick) {code : List UInt8} {r : Nat} {h0 : Hp} {n0 b4 b5 b6 : Nat} {d : TDef} (hcode : code.length ≤ 1048576) {Q : QS} {T I lim : Int} {x1 x2 x3 : Bool} (hTI : (-1 ≤ T ∧ T ≤ 4) ∧ (-2 ≤ I ∧ I ≤ 3) ∧ -1 ≤ lim ∧ lim ≤ 101)
    {plan : List TPart} {row l : List TVal} {lo : AV} {m : Nat} (hp : 1 ≤ plan.length ∧ plan.length ≤ 4) (hrow : row.length ≤ 9 ∧ ∀ v ∈ row, okVal v) (hlo : l.length ≤ 5 ∧ ∀ v ∈ l, okVal v)
    (hq : ∀ (x : Ex) (e : Ps) (h : Hp) (cells : List AV), (∀ i, x ≠ .exit i) → e 4 = .ptr b4 0 → h.hp b4 = some cells → ScanC h0 cells h → CurS code r h0 h → Q x e h)
    (e : Ps) (h : Hp) (e0 : e 0 = .ptr r 0) (e4 : e 4 = .ptr b4 0) (e5 : e 5 = .ptr b5 0) (e7 : e 7 = .imm (plan.map TPart.row)) (e8 : e 8 = .imm (row.map TVal.row)) (z : S24 code r h0 n0 b4 b5 b6 [.int .i64 T, .int .i64 I, lo, .snil, .bool x1, .bool x2, .bool x3, .int .i64 lim] d h) (hL : LoS n0 m l lo h) (hm : n0 ≤ m ∧ m ≤ h.nx) : wp (EE cs) u_l24 e h Q := by
  have zl := hL.cell
  have n54 : ¬ b5 = b4 := fun e => z.n45 e.symm
  have n45 := z.n45
  have x4 := z.x4
  have x5 := z.x5
  have l4 := z.l4
  have l5 := z.l5
  have rn := z.rn
  simp only [go_sem, u_l24, t_l24, tlC, s_spec_l24Draw, e0]
  refine hP_draw (dr_spec_l1Once cs 2) hcode z.s.cur ?_
  rintro _ h1 ⟨b, rfl⟩ c1
  have z1 := z.draw c1
  have hL1 : LoS n0 m l lo h1 := hL.mono (Nat.le_refl _) (Nat.le_refl _) fun q k1 k2 => c1.hp q (by omega) (by omega)
  have hn1 := c1.nx
  cases b with
  | false =>
    simp only [go_sem, kSt_ptr, Nat.reduceBEq, Nat.reduceAdd, e5, e4, z1.p5, z1.p4, zl]
    exact hq _ _ _ _ (fun i e => by cases e) (by simp only [go_sem, Nat.reduceBEq, e4]) (by simp only [go_sem]; first | done | rfl) ⟨⟨T, I, l, [], x1, x2, x3, lim⟩, m, lo, .snil, rfl, hL1.mono (by omega) (Nat.le_refl _) (fun q k1 k2 => by have g : ¬ q = b4 := (by omega); simp [g]), .inl ⟨rfl, rfl⟩, by omega, by show m ≤ h1.nx; omega, ⟨hTI.1, hTI.2.1, hlo, ⟨Nat.zero_le _, fun v hv => by cases hv⟩, hTI.2.2⟩⟩ (z1.out _)
  | true =>
    have hop := fun H => own_pick (plan := plan) (row := row) ⟨by omega, by omega⟩ hp.1 H
    have hkl := pick_len plan row
    have hko := pick_ok (l := plan) hrow.2
    generalize pick plan row = k at hop hkl hko
    simp only [go_sem, Nat.reduceBEq, e7, e8, hT50, hop, e0, List.length_map]
    have z2 := z1.new (k.map TVal.row).flatten
    refine hP_draw (dr_spec_l1Below cs (plan.length : Int)) hcode z2.s.cur ?_
    rintro _ h2 ⟨x, rfl, hx⟩ c2
    replace hx : 0 ≤ x ∧ x < (plan.length : Int) := by
      have : (if (plan.length : Int) ≤ 0 then x = 0 else 0 ≤ x ∧ x < (plan.length : Int)) := hx
      rwa [if_neg (by omega)] at this
    have z3 := z2.draw c2
    obtain ⟨y, hy⟩ : ∃ y : Nat, 1 + x = (y : Int) := ⟨(1 + x).toNat, by omega⟩
    have hw : IntKind.wrap .i64 (1 + x) = (y : Int) := by rw [wrapId (by omega) (by omega), hy]
    have hs : sIdxL 3 (.sl h1.nx 0 k.length 3) none (some (.int .i64 (y : Int))) = some (.sl h1.nx 0 y 3) := kSl_sl rfl (by omega)
    have hn2 : h1.nx + 1 ≤ h2.nx := c2.nx
    have pk : h2.hp h1.nx = some (k.map TVal.row).flatten := (c2.hp h1.nx (by show h1.nx < h1.nx + 1; omega) (by omega)).trans (by simp)
    simp only [go_sem, kSt_ptr, Nat.reduceBEq, Nat.reduceAdd, Nat.reduceLeDiff, hw, hs, e5, e4, z3.p5, z3.p4, n45, zl]
    refine hq _ _ _ _ (fun i e => by cases e) (by simp only [go_sem, Nat.reduceBEq, e4]) (by simp only [go_sem]; first | done | rfl) ⟨⟨T, I, l, k.take y, x1, x2, x3, lim⟩, m, lo, .sl h1.nx 0 y 3, rfl, hL1.mono (by omega) (Nat.le_refl _) (fun q k1 k2 => ?_), .inr ⟨h1.nx, ((k.drop y).map TVal.row).flatten, by rw [List.length_take, Nat.min_eq_left (by omega)], ?_, by omega, by show h1.nx < h2.nx; omega⟩, by omega, by show m ≤ h2.nx; omega, ⟨hTI.1, hTI.2.1, hlo, ⟨by rw [List.length_take]; omega, fun v hv => hko v (List.mem_of_mem_take hv)⟩, hTI.2.2⟩⟩ ((z3.put _).out _)
    · have g : ¬ q = b4 := (by omega)
      have g' : ¬ q = b5 := (by omega)
      have g3 : ¬ q = h1.nx := (by omega)
      simp only [g, g', if_false]
      exact (c2.hp q (by show q < h1.nx + 1; omega) (by omega)).trans (by simp [g3])
    · have g : ¬ h1.nx = b4 := (by have := z1.xn; omega)
      have g' : ¬ h1.nx = b5 := (by have := z1.xn; omega)
      simp only [g, g', if_false]
      rw [pk, ← List.flatten_append, ← List.map_append, List.take_append_drop]
theorem T_l24 (cs) (hT50 : (EE cs).T 50 = some C_spec_Pick) (hT31 : (EE cs).T 31 = some C_spec_l11Plan) {code : List UInt8} {r : Nat} {h0 : Hp} {n0 b4 b5 b6 : Nat} {d : TDef} (hd : okDef d) (hcode : code.length ≤ 1048576) {Q : QS} {T I lim : Int} {x1 x2 x3 : Bool} (hTI : (-1 ≤ T ∧ T ≤ 4) ∧ (-2 ≤ I ∧ I ≤ 3) ∧ -1 ≤ lim ∧ lim ≤ 101)
    (hq : ∀ (x : Ex) (e : Ps) (h : Hp) (cells : List AV), (∀ i, x ≠ .exit i) → e 4 = .ptr b4 0 → h.hp b4 = some cells → ScanC h0 cells h → CurS code r h0 h → Q x e h)
    (e : Ps) (h : Hp) (e0 : e 0 = .ptr r 0) (e4 : e 4 = .ptr b4 0) (e5 : e 5 = .ptr b5 0) (e6 : e 6 = .ptr b6 0) (z : S24 code r h0 n0 b4 b5 b6 [.int .i64 T, .int .i64 I, .snil, .snil, .bool x1, .bool x2, .bool x3, .int .i64 lim] d h) : wp (EE cs) t_l24 e h Q := by
  have n54 : ¬ b5 = b4 := fun e => z.n45 e.symm
  have n45 := z.n45
  have x4 := z.x4
  have x5 := z.x5
  have l4 := z.l4
  have l5 := z.l5
  have rn := z.rn
  have hcl := hd.cl
  have hpl := planOf_len d I
  have hpe : C_spec_l11Plan [.agg [.str d.fName, .imm (d.fCols.map TCol.row), .imm (d.fPrimary.map TBy.row), .imm (d.fIndexes.map TIndex.row)], .int .i64 I] = some (.imm ((planOf d I).map TPart.row)) := C_spec_l11Plan_eq d I (by have := hd.cost; omega)
  generalize planOf d I = plan at hpl hpe
  rw [bt_l24]
  simp only [go_sem, Nat.reduceBEq, Nat.reduceAdd, Nat.reduceLeDiff, hdC, tlC, t_l24, s_spec_l24Draw, e0, e5, e6, z.p5, z.p6, hT31, hpe]
  refine hP_drawZ (dr_spec_l11Row cs d hd) (R := RowR d.fCols.length) (fun v h' hp => hp.frz) hcode z.s.cur ?_
  rintro _ h1 ⟨row, rfl, hrl, hro⟩ c1
  have z1 := z.draw c1
  simp only [go_sem, Nat.reduceBEq, Nat.reduceAdd, e0, e6, z1.p6]
  refine hP_drawZ (dr_spec_l11Row cs d hd) (R := RowR d.fCols.length) (fun v h' hp => hp.frz) hcode z1.s.cur ?_
  rintro _ h2 ⟨low, rfl, hll, hlw⟩ c2
  have z2 := z1.draw c2
  by_cases hp0 : plan.length = 0
  · have hpn : ((plan.length : Nat) : Int) = 0 := by omega
    simp only [go_sem, kSt_ptr, Nat.reduceBEq, Nat.reduceAdd, List.length_map, hpn, e5, e4, z2.p5, z2.p4]
    exact hq _ _ _ _ (fun i e => by cases e) (by simp only [go_sem, Nat.reduceBEq, e4]) (by simp only [go_sem]; first | done | rfl) ⟨⟨T, I, [], [], x1, x2, x3, lim⟩, h2.nx, .snil, .snil, rfl, .inl ⟨rfl, rfl⟩, .inl ⟨rfl, rfl⟩, by have := z2.s.nx; omega, Nat.le_refl _, ⟨hTI.1, hTI.2.1, ⟨Nat.zero_le _, fun v hv => by cases hv⟩, ⟨Nat.zero_le _, fun v hv => by cases hv⟩, hTI.2.2⟩⟩ (z2.out _)
  have hpn : ¬ ((plan.length : Nat) : Int) = 0 := by omega
  simp only [go_sem, Nat.reduceBEq, List.length_map, beqF hpn, e0]
  refine hP_draw (dr_spec_l1Once cs 2) hcode z2.s.cur ?_
  rintro _ h3 ⟨b, rfl⟩ c3
  have z3 := z2.draw c3
  cases b with
  | false =>
    simp only [go_sem, Nat.reduceBEq]
    exact U_l24 cs hT50 hcode hTI (plan := plan) (row := row) (l := []) (lo := .snil) (m := n0) ⟨by omega, hpl⟩ ⟨by omega, hro⟩ ⟨Nat.zero_le _, fun v hv => by cases hv⟩ hq _ _ (by simp only [go_sem, Nat.reduceBEq, e0]) (by simp only [go_sem, Nat.reduceBEq, e4]) (by simp only [go_sem, Nat.reduceBEq, e5]) (by simp only [go_sem, Nat.reduceBEq]) (by simp only [go_sem, Nat.reduceBEq]) z3 (.inl ⟨rfl, rfl⟩) ⟨Nat.le_refl _, z3.xn⟩
  | true =>
    have hop := fun H => own_pick (plan := plan) (row := low) ⟨by omega, by omega⟩ (by omega) H
    have hkl := pick_len plan low
    have hko := pick_ok (l := plan) hlw
    generalize pick plan low = k at hop hkl hko
    simp only [go_sem, Nat.reduceBEq, hT50, hop, e0, List.length_map]
    have z4 := z3.new (k.map TVal.row).flatten
    refine hP_draw (dr_spec_l1Below cs (plan.length : Int)) hcode z4.s.cur ?_
    rintro _ h4 ⟨x, rfl, hx⟩ c4
    replace hx : 0 ≤ x ∧ x < (plan.length : Int) := by
      have : (if (plan.length : Int) ≤ 0 then x = 0 else 0 ≤ x ∧ x < (plan.length : Int)) := hx
      rwa [if_neg (by omega)] at this
    have z5 := z4.draw c4
    obtain ⟨y, hy⟩ : ∃ y : Nat, 1 + x = (y : Int) := ⟨(1 + x).toNat, by omega⟩
    have hw : IntKind.wrap .i64 (1 + x) = (y : Int) := by rw [wrapId (by omega) (by omega), hy]
    have hs : sIdxL 3 (.sl h3.nx 0 k.length 3) none (some (.int .i64 (y : Int))) = some (.sl h3.nx 0 y 3) := kSl_sl rfl (by omega)
    have hn4 : h3.nx + 1 ≤ h4.nx := c4.nx
    have pk : h4.hp h3.nx = some (k.map TVal.row).flatten := (c4.hp h3.nx (by show h3.nx < h3.nx + 1; omega) (by have := z3.xn; omega)).trans (by simp)
    have xn := z3.xn
    simp only [go_sem, kSt_ptr, Nat.reduceBEq, Nat.reduceAdd, Nat.reduceLeDiff, hw, hs, e5, z5.p5]
    refine U_l24 cs hT50 hcode hTI (plan := plan) (row := row) (l := k.take y) (lo := .sl h3.nx 0 y 3) (m := h3.nx + 1) ⟨by omega, hpl⟩ ⟨by omega, hro⟩ ⟨by rw [List.length_take]; omega, fun v hv => hko v (List.mem_of_mem_take hv)⟩ hq _ _ (by simp only [go_sem, Nat.reduceBEq, e0]) (by simp only [go_sem, Nat.reduceBEq, e4]) (by simp only [go_sem, Nat.reduceBEq, e5]) (by simp only [go_sem, Nat.reduceBEq]) (by simp only [go_sem, Nat.reduceBEq]) (z5.put _) (.inr ⟨h3.nx, ((k.drop y).map TVal.row).flatten, by rw [List.length_take, Nat.min_eq_left (by omega)], ?_, xn, Nat.lt_succ_self _⟩) ⟨by omega, hn4⟩
    have g' : ¬ h3.nx = b5 := (by omega)
    simp only [g', if_false]
    rw [pk, ← List.flatten_append, ← List.map_append, List.take_append_drop]
theorem dr_spec_l24Draw (cs) (hT50 : (EE cs).T 50 = some C_spec_Pick) (hT31 : (EE cs).T 31 = some C_spec_l11Plan) (s : List TDef) (hl : 1 ≤ s.length ∧ s.length ≤ 4) (ho : ∀ d ∈ s, okDef d) : DrawR (EE cs) 36 [.imm (s.map TDef.row)] ScanS := drawR_of (st_spec_l24Draw cs) fun code r h hcode hcur => by
  have rn := hcur.1
  have hq : ∀ (x : Ex) (e : Ps) (h' : Hp) (cells : List AV), (∀ i, x ≠ .exit i) → e 4 = .ptr h.nx 0 → h'.hp h.nx = some cells → ScanC h cells h' → CurS code r h h' → (fun x e' h' => (∀ i, x ≠ .exit i) ∧ ∃ v, (sRes e' h' s_spec_l24Draw.res).map evResult = some v ∧ ScanS h v h' ∧ CurS code r h h') x e h' := fun x e h' cells k1 k2 k3 k4 k5 => by
    obtain ⟨c, m, lo, hi, rfl, w⟩ := k4
    refine ⟨k1, _, ?_, ⟨_, rfl, c, m, lo, hi, rfl, w⟩, k5⟩
    simp only [go_sem, Nat.reduceAdd, s_spec_l24Draw, k2, k3]
  generalize hQ : (fun (x : Ex) (e' : Ps) (h' : Hp) => (∀ i, x ≠ .exit i) ∧ ∃ v, (sRes e' h' s_spec_l24Draw.res).map evResult = some v ∧ ScanS h v h' ∧ CurS code r h h') = Q at hq ⊢
  clear hQ
  rw [b_l24]
  have m0 : ¬ r = h.nx := by omega
  have m0' : ¬ h.nx = r := by omega
  simp only [go_sem, Nat.reduceBEq, hdC, tlC, s_spec_l24Draw, List.length_map]
  refine hP_draw (dr_spec_l1Below cs (s.length : Int)) hcode (hcur.same (by simp) (by simp [m0])) ?_
  rintro _ h1 ⟨T, rfl, hT⟩ c1
  replace hT : 0 ≤ T ∧ T < (s.length : Int) := by
    have : (if (s.length : Int) ≤ 0 then T = 0 else 0 ≤ T ∧ T < (s.length : Int)) := hT
    rwa [if_neg (by omega)] at this
  have s1 : CurS code r h h1 := c1.pre (by simp) (fun q hq _ => by have g : ¬ q = h.nx := (by omega); simp [g]) (fun _ _ => rfl)
  have p4 : h1.hp h.nx = some [.int .i64 0, .int .i64 0, .snil, .snil, .bool false, .bool false, .bool false, .int .i64 0] := (c1.hp h.nx (by simp) m0').trans (by simp)
  have hn1 : h.nx < h1.nx := Nat.lt_of_lt_of_le (by simp) c1.nx
  simp only [go_sem, Nat.reduceBEq]
  refine hP_draw (dr_spec_l1Once cs 2) hcode s1.cur ?_
  rintro _ h2 ⟨b1, rfl⟩ c2
  simp only [go_sem, Nat.reduceBEq]
  refine hP_draw (dr_spec_l1Once cs 2) hcode c2.cur ?_
  rintro _ h3 ⟨b2, rfl⟩ c3
  simp only [go_sem, Nat.reduceBEq]
  refine hP_draw (dr_spec_l1Once cs 2) hcode c3.cur ?_
  rintro _ h4 ⟨b3, rfl⟩ c4
  have c24 := (c2.trans c3).trans c4
  have f1 : fillR (List.replicate 5 [.int .i64 0]) 1 [(0, .int .i64 100), (1, .int .i64 100), (2, .int .i64 1), (3, .int .i64 2), (4, .int .i64 3)] = some [[.int .i64 100], [.int .i64 100], [.int .i64 1], [.int .i64 2], [.int .i64 3]] := rfl
  have f2 : frzRows [[.int .i64 100], [.int .i64 100], [.int .i64 1], [.int .i64 2], [.int .i64 3]] = some [[.int .i64 100], [.int .i64 100], [.int .i64 1], [.int .i64 2], [.int .i64 3]] := rfl
  simp only [go_sem, Nat.reduceBEq, f1, f2]
  refine hP_draw (dr_spec_l1Int cs ([100, 100, 1, 2, 3] : List Int) (by simp) _) hcode (c4.cur.same (by simp) rfl) ?_
  rintro _ h5 ⟨lim, rfl, hs⟩ c5
  have hlim : 1 ≤ lim ∧ lim ≤ 100 := (show ∀ s ∈ ([100, 100, 1, 2, 3] : List Int), 1 ≤ s ∧ s ≤ 100 by decide) lim hs
  have c25 : CurS code r h1 h5 := c24.trans (c5.pre (by simp) (fun _ _ _ => rfl) (fun q hq => by simp; omega))
  have s5 := s1.trans c25
  have p45 := (c25.hp h.nx hn1 m0').trans p4
  have hn5 := c25.nx
  obtain ⟨d, hdg⟩ : ∃ d, s[T.toNat]? = some d := ⟨_, List.getElem?_eq_getElem (by omega)⟩
  have hd : okDef d := ho d (List.mem_of_getElem? hdg)
  have hia : ∀ H, kIa 4 (.imm (s.map TDef.row)) (.int .i64 T) H = some (.cptr d.row, H) := fun H => kIa_imm hT.1 (by rw [List.getElem?_map, hdg]; rfl) rfl
  have hdr : d.row = [.str d.fName, .imm (d.fCols.map TCol.row), .imm (d.fPrimary.map TBy.row), .imm (d.fIndexes.map TIndex.row)] := rfl
  have g1 : sFill [.int .i64 0, .int .i64 0, .snil, .snil, .bool false, .bool false, .bool false, .int .i64 0] [(0, 1, .int .i64 T), (1, 1, .int .i64 (-1)), (4, 1, .bool b1), (5, 1, .bool b2), (6, 1, .bool b3), (7, 1, .int .i64 lim)] = some [.int .i64 T, .int .i64 (-1), .snil, .snil, .bool b1, .bool b2, .bool b3, .int .i64 lim] := rfl
  have q1 : ¬ h5.nx = h5.nx + 1 := by omega
  have q2 : ¬ h5.nx + 1 = h5.nx := by omega
  have q3 : ¬ h.nx = h5.nx := by omega
  have q4 : ¬ h.nx = h5.nx + 1 := by omega
  have hil := hd.il
  have z0 : ∀ (H : Hp), H.hp h5.nx = some [.int .i64 T, .int .i64 (-1), .snil, .snil, .bool b1, .bool b2, .bool b3, .int .i64 lim] → H.hp (h5.nx + 1) = some d.row → (∀ q, q < h5.nx → H.hp q = h5.hp q) → (∀ q, q < h5.nx → H.ap q = h5.ap q) → H.nx = h5.nx + 1 + 1 → S24 code r h (h5.nx + 1 + 1) h.nx h5.nx (h5.nx + 1) [.int .i64 T, .int .i64 (-1), .snil, .snil, .bool b1, .bool b2, .bool b3, .int .i64 lim] d H := fun H k1 k2 k3 k4 k5 =>
    ⟨(k3 h.nx (by omega)).trans p45, k1, k2, Nat.le_refl _, by omega, by omega, by omega, by omega, by omega, by omega, q3, q4, q1, rn, s5.more (by omega) k3 k4⟩
  have hzz : S24 code r h (h5.nx + 1 + 1) h.nx h5.nx (h5.nx + 1) [.int .i64 T, .int .i64 (-1), .snil, .snil, .bool b1, .bool b2, .bool b3, .int .i64 lim] d ⟨fun q => if q = h5.nx + 1 then some [.str d.fName, .imm (d.fCols.map TCol.row), .imm (d.fPrimary.map TBy.row), .imm (d.fIndexes.map TIndex.row)] else if q = h5.nx + 1 then some [.str [], .snil, .snil, .snil] else if q = h5.nx then some [.int .i64 T, .int .i64 (-1), .snil, .snil, .bool b1, .bool b2, .bool b3, .int .i64 lim] else if q = h5.nx then some [.int .i64 0, .int .i64 0, .snil, .snil, .bool false, .bool false, .bool false, .int .i64 0] else h5.hp q, h5.ap, h5.nx + 1 + 1⟩ :=
    z0 _ (by simp []) (by simp [hdr]) (fun q hq => by have g : ¬ q = h5.nx := (by omega); have g' : ¬ q = h5.nx + 1 := (by omega); simp [g, g']) (fun _ _ => rfl) rfl
  by_cases hx : (d.fIndexes.length : Int) > 0
  · simp only [go_sem, kSt_ptr, Nat.reduceBEq, Nat.reduceAdd, Nat.reduceLeDiff, g1, hia, hdr, q2, List.length_map, hx]
    refine hP_draw (dr_spec_l1Once cs 2) hcode hzz.s.cur ?_
    rintro _ h6 ⟨b, rfl⟩ c6
    have z6 := hzz.draw c6
    cases b with
    | false =>
      simp only [go_sem, Nat.reduceBEq]
      exact T_l24 cs hT50 hT31 hd hcode ⟨⟨by omega, by omega⟩, by decide, by omega, by omega⟩ hq _ _ (by simp only [go_sem, Nat.reduceBEq]; first | done | rfl) (by simp only [go_sem, Nat.reduceBEq]) (by simp only [go_sem, Nat.reduceBEq]) (by simp only [go_sem, Nat.reduceBEq]) z6
    | true =>
      simp only [go_sem, Nat.reduceBEq, Nat.reduceAdd, Nat.reduceLeDiff, z6.p6, List.length_map]
      refine hP_draw (dr_spec_l1Below cs (d.fIndexes.length : Int)) hcode z6.s.cur ?_
      rintro _ h7 ⟨I, rfl, hI⟩ c7
      replace hI : 0 ≤ I ∧ I < (d.fIndexes.length : Int) := by
        have : (if (d.fIndexes.length : Int) ≤ 0 then I = 0 else 0 ≤ I ∧ I < (d.fIndexes.length : Int)) := hI
        rwa [if_neg (by omega)] at this
      have z7 := z6.draw c7
      simp only [go_sem, kSt_ptr, Nat.reduceBEq, Nat.reduceAdd, Nat.reduceLeDiff, z7.p5]
      exact T_l24 cs hT50 hT31 hd hcode (T := T) (I := I) ⟨⟨by omega, by omega⟩, ⟨by omega, by omega⟩, by omega, by omega⟩ hq _ _ (by simp only [go_sem, Nat.reduceBEq]; first | done | rfl) (by simp only [go_sem, Nat.reduceBEq]) (by simp only [go_sem, Nat.reduceBEq]) (by simp only [go_sem, Nat.reduceBEq]) (z7.put _)
  · simp only [go_sem, kSt_ptr, Nat.reduceBEq, Nat.reduceAdd, Nat.reduceLeDiff, g1, hia, hdr, q2, List.length_map, hx]
    exact T_l24 cs hT50 hT31 hd hcode ⟨⟨by omega, by omega⟩, by decide, by omega, by omega⟩ hq _ _ (by simp only [go_sem, Nat.reduceBEq]; first | done | rfl) (by simp only [go_sem, Nat.reduceBEq]) (by simp only [go_sem, Nat.reduceBEq]) (by simp only [go_sem, Nat.reduceBEq]) hzz
end Go.Proofs.YtfjkmpmjohojpaaGreatDoor.Ij
namespace Go.Proofs.YtfjkmpmjohojpaaGreatDoor.Ij
open Go Go.RowKit Go.Ev
set_option linter.unusedSimpArgs false
set_option linter.unusedVariables false
set_option maxHeartbeats 1600000
theorem dr_spec_l2Text (cs) : DrawV (EE cs) 82 [] (StrP fun s => s.length ≤ 40) := draw_of (st_spec_l2Text cs) fun code r h hcode hcur => by
  have f1 : fillR (List.replicate 10 [.str []]) 1 [(0, .str []), (1, .str [97]), (2, .str [98]), (3, .str [97, 98]), (4, .str [0]), (5, .str [97, 0]), (6, .str [0, 255]), (7, .str [255]), (8, .str [119, 111, 114, 100]), (9, .str [122])] = some [[.str []], [.str [97]], [.str [98]], [.str [97, 98]], [.str [0]], [.str [97, 0]], [.str [0, 255]], [.str [255]], [.str [119, 111, 114, 100]], [.str [122]]] := rfl
  have f1z : frzRows [[.str []], [.str [97]], [.str [98]], [.str [97, 98]], [.str [0]], [.str [97, 0]], [.str [0, 255]], [.str [255]], [.str [119, 111, 114, 100]], [.str [122]]] = some [[.str []], [.str [97]], [.str [98]], [.str [97, 98]], [.str [0]], [.str [97, 0]], [.str [0, 255]], [.str [255]], [.str [119, 111, 114, 100]], [.str [122]]] := rfl
  simp only [go_sem, Nat.reduceBEq, s_spec_l2Text, f1, f1z]
  refine hP_draw (dr_spec_l1Str cs ([[], [97], [98], [97, 98], [0], [97, 0], [0, 255], [255], [119, 111, 114, 100], [122]] : List (List UInt8)) (by simp) _) hcode (hcur.same (by simp) rfl) ?_
  rintro _ ha ⟨s, rfl, hs⟩ hc
  simp only [go_sem, Nat.reduceBEq]
  refine ⟨fun _ e => (by cases e), _, rfl, ⟨s, rfl, ?_⟩, hc.pre (by simp) (fun _ _ _ => rfl) (fun q hq => by simp; omega)⟩
  have : ∀ s ∈ ([[], [97], [98], [97, 98], [0], [97, 0], [0, 255], [255], [119, 111, 114, 100], [122]] : List (List UInt8)), s.length ≤ 40 := by decide
  exact this s hs
theorem dr_spec_l2Of (cs) (t : Int) (ht : 1 ≤ t ∧ t ≤ 4) : DrawV (EE cs) 63 [.int .i64 t, .bool true] ValP := draw_of (st_spec_l2Of cs) fun code r h hcode hcur => by
  have hrn := hcur.1
  have hne : ¬ r = h.nx := by omega
  have hne' : ¬ h.nx = r := by omega
  simp only [go_sem, Nat.reduceBEq, s_spec_l2Of]
  refine hP_draw (dr_spec_l1Once cs 4) hcode (hcur.same (by simp) (by simp [hne])) ?_
  rintro _ ha ⟨b, rfl⟩ hc
  have s0 : CurS code r h ha := hc.pre (by simp) (fun q hq _ => by have : ¬ q = h.nx := (by omega); simp [this]) (fun _ _ => rfl)
  have h6 : ha.hp h.nx = some [.int .i64 0, .int .i64 0, .str []] := (hc.hp h.nx (by simp) hne').trans (by simp)
  have hnx : h.nx < ha.nx := Nat.lt_of_lt_of_le (by simp) hc.nx
  have n1 : ¬ h.nx = ha.nx := by omega
  have n2 : ¬ ha.nx = h.nx := by omega
  have n3 : ¬ r = ha.nx := by omega
  have n4 : ¬ ha.nx = r := by omega
  cases b with
  | true =>
    simp only [go_sem, kSt_ptr, Nat.reduceBEq, Nat.reduceAdd, h6, vFill0]
    exact ⟨fun _ e => (by cases e), _, rfl, ⟨⟨0, 0, []⟩, rfl, by unfold okVal; decide⟩, s0.put (b := h.nx) (Nat.le_refl _) hne' (by simp) (fun q hq _ => by simp [hq]) (fun _ _ => rfl)⟩
  | false =>
  have fin : ∀ (x : Int) (hx : -9223372036854775808 ≤ x ∧ x ≤ 9223372036854775807), okVal ⟨t, x, []⟩ := fun x hx => ⟨by simp, by show _ ≤ t; omega, by show t ≤ _; omega, hx.1, hx.2⟩
  have hra : r < ha.nx := by omega
  have nxt : ∀ (H hm : Hp) (cs0 : List AV), ha.nx < H.nx → H.hp ha.nx = some cs0 → (∀ q, q < ha.nx → H.hp q = ha.hp q) → (∀ q, q < ha.nx → H.ap q = ha.ap q) → CurS code r H hm → hm.hp ha.nx = some cs0 ∧ hm.hp h.nx = some [.int .i64 0, .int .i64 0, .str []] ∧ CurS code r h hm := fun H hm cs0 k1 k2 k3 k4 hq =>
    ⟨(hq.hp ha.nx k1 n4).trans k2, (hq.hp h.nx (by omega) hne').trans ((k3 h.nx hnx).trans h6), s0.trans (hq.pre (by omega) (fun q hq _ => k3 q hq) k4)⟩
  have c0 : ∀ H : Hp, ha.nx < H.nx → (∀ q, q < ha.nx → H.hp q = ha.hp q) → Cur code r H := fun H k1 k3 => s0.cur.same (by omega) (k3 r hra)
  have lo : ∀ q, q < ha.nx → ¬ q = ha.nx := fun q hq => by omega
  have lo2 : ∀ q, q < ha.nx → ¬ q = ha.nx + 1 := fun q hq => by omega
  have t4 : t = 1 ∨ t = 2 ∨ t = 3 ∨ t = 4 := by omega
  rcases t4 with rfl | rfl | rfl | rfl
  · have f1 : fillR (List.replicate 9 [.int .i64 0]) 1 [(0, .int .i64 0), (1, .int .i64 1), (2, .int .i64 2), (3, .int .i64 3), (4, .int .i64 (-1)), (5, .int .i64 255), (6, .int .i64 256), (7, .int .i64 2147483647), (8, .int .i64 (-2147483648))] = some [[.int .i64 0], [.int .i64 1], [.int .i64 2], [.int .i64 3], [.int .i64 (-1)], [.int .i64 255], [.int .i64 256], [.int .i64 2147483647], [.int .i64 (-2147483648)]] := rfl
    have f1z : frzRows [[.int .i64 0], [.int .i64 1], [.int .i64 2], [.int .i64 3], [.int .i64 (-1)], [.int .i64 255], [.int .i64 256], [.int .i64 2147483647], [.int .i64 (-2147483648)]] = some [[.int .i64 0], [.int .i64 1], [.int .i64 2], [.int .i64 3], [.int .i64 (-1)], [.int .i64 255], [.int .i64 256], [.int .i64 2147483647], [.int .i64 (-2147483648)]] := rfl
    simp only [go_sem, kSt_ptr, Nat.reduceBEq, Nat.reduceAdd, Int.reduceBEq, vFillK, f1, f1z]
    refine hP_draw (dr_spec_l1Int cs ([0, 1, 2, 3, (-1), 255, 256, 2147483647, (-2147483648)] : List (Int)) (by simp) _) hcode (c0 _ (by simp <;> omega) (fun q hq => by simp [lo q hq])) ?_
    rintro _ hm ⟨x, rfl, hx⟩ hq
    obtain ⟨m1, m2, m3⟩ := nxt _ hm [.int .i64 1, .int .i64 0, .str []] (by simp <;> omega) (by simp) (fun q hq => by simp [lo q hq]) (fun q hq => by simp [lo2 q hq]) hq
    simp only [go_sem, kSt_ptr, Nat.reduceBEq, Nat.reduceAdd, Nat.reduceLeDiff, m1, m2, n1]
    have hx2 : -9223372036854775808 ≤ x ∧ x ≤ 9223372036854775807 := by
      simp only [List.mem_cons, List.not_mem_nil, or_false] at hx
      omega
    exact ⟨fun _ e => (by cases e), _, rfl, ⟨⟨1, x, []⟩, rfl, fin x hx2⟩, m3.put2 (b := h.nx) (b' := ha.nx) (Nat.le_refl _) hne' (by omega) n4 (by simp) (fun q q1 q2 _ => by simp [q1, q2]) (fun _ _ => rfl)⟩
  · simp only [go_sem, kSt_ptr, Nat.reduceBEq, Nat.reduceAdd, Int.reduceBEq, vFillK]
    refine hP_draw (dr_spec_l1Below cs 100000) hcode (c0 _ (by simp <;> omega) (fun q hq => by simp [lo q hq])) ?_
    rintro _ hm ⟨y, rfl, hy⟩ hq
    replace hy : 0 ≤ y ∧ y < 100000 := hy
    have hw : IntKind.wrap .i64 (0 - y) = -y := by rw [wrapId (by omega) (by omega)]; omega
    obtain ⟨m1, m2, m3⟩ := nxt _ hm [.int .i64 2, .int .i64 0, .str []] (by simp <;> omega) (by simp) (fun q hq => by simp [lo q hq]) (fun q hq => by simp []) hq
    have hmx : ha.nx < hm.nx := Nat.lt_of_lt_of_le (by simp <;> omega) hq.nx
    have f2 : fillR (List.replicate 11 [.int .i64 0]) 1 [(0, .int .i64 0), (1, .int .i64 1), (2, .int .i64 (-1)), (3, .int .i64 255), (4, .int .i64 256), (5, .int .i64 (-256)), (6, .int .i64 (-257)), (7, .int .i64 65535), (8, .int .i64 1000000000000000), (9, .int .i64 (-1000000000000000)), (10, .int .i64 (-y))] = some [[.int .i64 0], [.int .i64 1], [.int .i64 (-1)], [.int .i64 255], [.int .i64 256], [.int .i64 (-256)], [.int .i64 (-257)], [.int .i64 65535], [.int .i64 1000000000000000], [.int .i64 (-1000000000000000)], [.int .i64 (-y)]] := rfl
    have f2z : frzRows [[.int .i64 0], [.int .i64 1], [.int .i64 (-1)], [.int .i64 255], [.int .i64 256], [.int .i64 (-256)], [.int .i64 (-257)], [.int .i64 65535], [.int .i64 1000000000000000], [.int .i64 (-1000000000000000)], [.int .i64 (-y)]] = some [[.int .i64 0], [.int .i64 1], [.int .i64 (-1)], [.int .i64 255], [.int .i64 256], [.int .i64 (-256)], [.int .i64 (-257)], [.int .i64 65535], [.int .i64 1000000000000000], [.int .i64 (-1000000000000000)], [.int .i64 (-y)]] := rfl
    simp only [go_sem, Nat.reduceBEq, hw, f2, f2z]
    refine hP_draw (dr_spec_l1Int cs ([0, 1, (-1), 255, 256, (-256), (-257), 65535, 1000000000000000, (-1000000000000000), (-y)] : List (Int)) (by simp) _) hcode (m3.cur.same (by simp) rfl) ?_
    rintro _ hz ⟨x, rfl, hx⟩ hq2
    have g1 : hz.hp ha.nx = some [.int .i64 2, .int .i64 0, .str []] := (hq2.hp ha.nx (by simp; omega) n4).trans m1
    have g2 : hz.hp h.nx = some [.int .i64 0, .int .i64 0, .str []] := (hq2.hp h.nx (by simp; omega) hne').trans m2
    have g3 : CurS code r h hz := m3.trans (hq2.pre (by simp) (fun _ _ _ => rfl) (fun q hq => by simp; omega))
    simp only [go_sem, kSt_ptr, Nat.reduceBEq, Nat.reduceAdd, Nat.reduceLeDiff, g1, g2, n1]
    have hx2 : -9223372036854775808 ≤ x ∧ x ≤ 9223372036854775807 := by
      simp only [List.mem_cons, List.not_mem_nil, or_false] at hx
      omega
    exact ⟨fun _ e => (by cases e), _, rfl, ⟨⟨2, x, []⟩, rfl, fin x hx2⟩, g3.put2 (b := h.nx) (b' := ha.nx) (Nat.le_refl _) hne' (by omega) n4 (by simp) (fun q q1 q2 _ => by simp [q1, q2]) (fun _ _ => rfl)⟩
  · simp only [go_sem, kSt_ptr, Nat.reduceBEq, Nat.reduceAdd, Int.reduceBEq, vFillK]
    refine hP_draw (dr_spec_l2Text cs) hcode (c0 _ (by simp <;> omega) (fun q hq => by simp [lo q hq])) ?_
    rintro _ hm ⟨s, rfl, hs⟩ hq
    obtain ⟨m1, m2, m3⟩ := nxt _ hm [.int .i64 3, .int .i64 0, .str []] (by simp <;> omega) (by simp) (fun q hq => by simp [lo q hq]) (fun q hq => by simp []) hq
    simp only [go_sem, kSt_ptr, Nat.reduceBEq, Nat.reduceAdd, m1, m2, n1]
    exact ⟨fun _ e => (by cases e), _, rfl, ⟨⟨3, 0, s⟩, rfl, ⟨hs, by show (_ : Int) ≤ 3; omega, by show (3 : Int) ≤ _; omega, by show (_ : Int) ≤ 0; omega, by show (0 : Int) ≤ _; omega⟩⟩, m3.put2 (b := h.nx) (b' := ha.nx) (Nat.le_refl _) hne' (by omega) n4 (by simp) (fun q q1 q2 _ => by simp [q1, q2]) (fun _ _ => rfl)⟩
  · simp only [go_sem, kSt_ptr, Nat.reduceBEq, Nat.reduceAdd, Int.reduceBEq, vFillK]
    refine hP_draw (dr_spec_l1Below cs 2) hcode (c0 _ (by simp <;> omega) (fun q hq => by simp [lo q hq])) ?_
    rintro _ hm ⟨x, rfl, hx⟩ hq
    replace hx : 0 ≤ x ∧ x < 2 := hx
    obtain ⟨m1, m2, m3⟩ := nxt _ hm [.int .i64 4, .int .i64 0, .str []] (by simp <;> omega) (by simp) (fun q hq => by simp [lo q hq]) (fun q hq => by simp []) hq
    simp only [go_sem, kSt_ptr, Nat.reduceBEq, Nat.reduceAdd, Nat.reduceLeDiff, m1, m2, n1]
    exact ⟨fun _ e => (by cases e), _, rfl, ⟨⟨4, x, []⟩, rfl, fin x (by omega)⟩, m3.put2 (b := h.nx) (b' := ha.nx) (Nat.le_refl _) hne' (by omega) n4 (by simp) (fun q q1 q2 _ => by simp [q1, q2]) (fun _ _ => rfl)⟩
theorem dr_spec_l2Draw (cs) : DrawV (EE cs) 41 [] ValP := draw_of (st_spec_l2Draw cs) fun code r h hcode hcur => by
  have hrn := hcur.1
  have hne : ¬ r = h.nx := by omega
  have hne' : ¬ h.nx = r := by omega
  simp only [go_sem, Nat.reduceBEq, s_spec_l2Draw]
  refine hP_draw (dr_spec_l1Below cs 4) hcode (hcur.same (by simp) (by simp [hne])) ?_
  rintro _ ha ⟨x, rfl, hx⟩ hc
  replace hx : 0 ≤ x ∧ x < 4 := hx
  have hw : IntKind.wrap .i64 (1 + x) = 1 + x := wrapId (by omega) (by omega)
  simp only [go_sem, Nat.reduceBEq, hw]
  refine hP_draw (dr_spec_l2Of cs (1 + x) (by omega)) hcode hc.cur ?_
  rintro _ hb ⟨v, rfl, hv⟩ hc2
  have h2 : hb.hp h.nx = some [.int .i64 0, .int .i64 0, .str []] := (hc2.hp h.nx (Nat.lt_of_lt_of_le (by simp) hc.nx) hne').trans ((hc.hp h.nx (by simp) hne').trans (by simp))
  have s1 : CurS code r h ha := (hc.pre (by simp) (fun q hq _ => by have : ¬ q = h.nx := (by omega); simp [this]) (fun _ _ => rfl))
  have s0 : CurS code r h hb := s1.trans hc2
  simp only [go_sem, kSt_ptr, Nat.reduceBEq, Nat.reduceAdd, h2, TVal.row]
  exact ⟨fun _ e => (by cases e), _, rfl, ⟨v, rfl, hv⟩, s0.put (b := h.nx) (Nat.le_refl _) hne' (by simp) (fun q hq _ => by simp [hq]) (fun _ _ => rfl)⟩
theorem dr_spec_l1Num (cs) : DrawV (EE cs) 61 [] (NumP fun x => -9223372036854775808 ≤ x ∧ x ≤ 9223372036854775807) := draw_of (st_spec_l1Num cs) fun code r h hcode hcur => by
  simp only [go_sem, Nat.reduceBEq, s_spec_l1Num]
  refine hP_draw (dr_spec_l1Below cs 100000) hcode hcur ?_
  rintro _ ha ⟨x, rfl, hx⟩ hc
  simp only [go_sem, Nat.reduceBEq]
  refine hP_draw (dr_spec_l1Below cs 100000) hcode hc.cur ?_
  rintro _ hb ⟨y, rfl, hy⟩ hc2
  replace hx : 0 ≤ x ∧ x < 100000 := hx
  replace hy : 0 ≤ y ∧ y < 100000 := hy
  have hw : IntKind.wrap .i64 (0 - y) = -y := by rw [wrapId (by omega) (by omega)]; omega
  have f1 : fillR (List.replicate 21 [.int .i64 0]) 1 [(0, .int .i64 0), (1, .int .i64 1), (2, .int .i64 (-1)), (3, .int .i64 63), (4, .int .i64 127), (5, .int .i64 128), (6, .int .i64 255), (7, .int .i64 256), (8, .int .i64 65535), (9, .int .i64 65536), (10, .int .i64 2147483647), (11, .int .i64 (-2147483648)), (12, .int .i64 2147483648), (13, .int .i64 (-2147483649)), (14, .int .i64 1000000000000000), (15, .int .i64 (-1000000000000000)), (16, .int .i64 1000000000000001), (17, .int .i64 9223372036854775807), (18, .int .i64 (-9223372036854775808)), (19, .int .i64 x), (20, .int .i64 (-y))] = some [[.int .i64 0], [.int .i64 1], [.int .i64 (-1)], [.int .i64 63], [.int .i64 127], [.int .i64 128], [.int .i64 255], [.int .i64 256], [.int .i64 65535], [.int .i64 65536], [.int .i64 2147483647], [.int .i64 (-2147483648)], [.int .i64 2147483648], [.int .i64 (-2147483649)], [.int .i64 1000000000000000], [.int .i64 (-1000000000000000)], [.int .i64 1000000000000001], [.int .i64 9223372036854775807], [.int .i64 (-9223372036854775808)], [.int .i64 x], [.int .i64 (-y)]] := rfl
  have f1z : frzRows [[.int .i64 0], [.int .i64 1], [.int .i64 (-1)], [.int .i64 63], [.int .i64 127], [.int .i64 128], [.int .i64 255], [.int .i64 256], [.int .i64 65535], [.int .i64 65536], [.int .i64 2147483647], [.int .i64 (-2147483648)], [.int .i64 2147483648], [.int .i64 (-2147483649)], [.int .i64 1000000000000000], [.int .i64 (-1000000000000000)], [.int .i64 1000000000000001], [.int .i64 9223372036854775807], [.int .i64 (-9223372036854775808)], [.int .i64 x], [.int .i64 (-y)]] = some [[.int .i64 0], [.int .i64 1], [.int .i64 (-1)], [.int .i64 63], [.int .i64 127], [.int .i64 128], [.int .i64 255], [.int .i64 256], [.int .i64 65535], [.int .i64 65536], [.int .i64 2147483647], [.int .i64 (-2147483648)], [.int .i64 2147483648], [.int .i64 (-2147483649)], [.int .i64 1000000000000000], [.int .i64 (-1000000000000000)], [.int .i64 1000000000000001], [.int .i64 9223372036854775807], [.int .i64 (-9223372036854775808)], [.int .i64 x], [.int .i64 (-y)]] := rfl
  simp only [go_sem, Nat.reduceBEq, hw, f1, f1z]
  refine hP_draw (dr_spec_l1Int cs ([0, 1, (-1), 63, 127, 128, 255, 256, 65535, 65536, 2147483647, (-2147483648), 2147483648, (-2147483649), 1000000000000000, (-1000000000000000), 1000000000000001, 9223372036854775807, (-9223372036854775808), x, (-y)] : List (Int)) (by simp) _) hcode (hc2.cur.same (by simp) rfl) ?_
  rintro _ hd ⟨z, rfl, hz⟩ hc3
  simp only [go_sem, Nat.reduceBEq]
  refine ⟨fun _ e => (by cases e), _, rfl, ⟨z, rfl, ?_⟩, (hc.trans hc2).trans (hc3.pre (by simp) (fun _ _ _ => rfl) (fun q hq => by simp; omega))⟩
  simp only [List.mem_cons, List.not_mem_nil, or_false] at hz
  omega
theorem dr_spec_l2Any (cs) : DrawV (EE cs) 39 [] ValP := draw_of (st_spec_l2Any cs) fun code r h hcode hcur => by
  have hrn := hcur.1
  have hne : ¬ r = h.nx := by omega
  have hne' : ¬ h.nx = r := by omega
  simp only [go_sem, Nat.reduceBEq, s_spec_l2Any]
  refine hP_draw (dr_spec_l2Draw cs) hcode (hcur.same (by simp) (by simp [hne])) ?_
  rintro _ h1 ⟨v, rfl, hv⟩ hc1
  have s1 : CurS code r h h1 := hc1.pre (by simp) (fun q hq _ => by have : ¬ q = h.nx := (by omega); simp [this]) (fun _ _ => rfl)
  have g1 : h1.hp h.nx = some [.int .i64 0, .int .i64 0, .str []] := (hc1.hp h.nx (by simp) hne').trans (by simp)
  have hnx1 : h.nx < h1.nx := Nat.lt_of_lt_of_le (by simp) hc1.nx
  have n1 : ¬ h.nx = h1.nx := by omega
  have n2 : ¬ h1.nx = h.nx := by omega
  have n3 : ¬ r = h1.nx := by omega
  have n4 : ¬ h1.nx = r := by omega
  obtain ⟨vk, vn, vs⟩ := v
  simp only [go_sem, kSt_ptr, Nat.reduceBEq, Nat.reduceAdd, TVal.row]
  refine hP_draw (dr_spec_l1Below cs 10) hcode (s1.cur.same (by simp) (by simp [n3])) ?_
  rintro _ ha ⟨k, rfl, hk⟩ hc
  replace hk : 0 ≤ k ∧ k < 10 := hk
  have s0 : CurS code r h ha := s1.trans (hc.pre (by simp) (fun q hq _ => by have : ¬ q = h1.nx := (by omega); simp [this]) (fun _ _ => rfl))
  have h6 : ha.hp h.nx = some [.int .i64 0, .int .i64 0, .str []] := (hc.hp h.nx (by simp <;> omega) hne').trans (by simp [n1, g1])
  have h3 : ha.hp h1.nx = some [.int .i64 vk, .int .i64 vn, .str vs] := (hc.hp h1.nx (by simp) n4).trans (by simp)
  have hnx : h1.nx < ha.nx := Nat.lt_of_lt_of_le (by simp) hc.nx
  -- behind one more draw
  have nxt : ∀ (H hm : Hp), CurS code r H hm → ha.nx ≤ H.nx → (∀ q, q < ha.nx → H.hp q = ha.hp q) → (∀ q, q < ha.nx → H.ap q = ha.ap q) → hm.hp h1.nx = some [.int .i64 vk, .int .i64 vn, .str vs] ∧ hm.hp h.nx = some [.int .i64 0, .int .i64 0, .str []] ∧ CurS code r h hm := fun H hm hq k1 k3 k4 =>
    ⟨(hq.hp h1.nx (by omega) n4).trans ((k3 h1.nx hnx).trans h3), (hq.hp h.nx (by omega) hne').trans ((k3 h.nx (by omega)).trans h6), s0.trans (hq.pre k1 (fun q hq _ => k3 q hq) k4)⟩
  have c0 : ∀ H : Hp, ha.nx ≤ H.nx → (∀ q, q < ha.nx → H.hp q = ha.hp q) → Cur code r H := fun H k1 k3 => s0.cur.same k1 (k3 r (by omega))
  obtain ⟨hv1, hv2, hv3, hv4, hv5⟩ := hv
  simp only at hv1 hv2 hv3 hv4 hv5
  by_cases k0 : k = 0
  · subst k0
    simp only [go_sem, Nat.reduceBEq, Int.reduceBEq]
    refine hP_draw (dr_spec_l1Below cs 6) hcode s0.cur ?_
    rintro _ hm ⟨x, rfl, hx⟩ hq
    replace hx : 0 ≤ x ∧ x < 6 := hx
    obtain ⟨m1, m2, m3⟩ := nxt _ hm hq (Nat.le_refl _) (fun _ _ => rfl) (fun _ _ => rfl)
    simp only [go_sem, kSt_ptr, Nat.reduceBEq, Nat.reduceAdd, Nat.reduceLeDiff, m1, m2, n1]
    exact ⟨fun _ e => (by cases e), _, rfl, ⟨⟨x, vn, vs⟩, rfl, ⟨hv1, by show _ ≤ x; omega, by show x ≤ _; omega, hv4, hv5⟩⟩, m3.put2 (b := h.nx) (b' := h1.nx) (Nat.le_refl _) hne' (by omega) n4 (by simp) (fun q q1 q2 _ => by simp [q1, q2]) (fun _ _ => rfl)⟩
  by_cases k1 : k = 1
  · subst k1
    simp only [go_sem, Nat.reduceBEq, Int.reduceBEq]
    refine hP_draw (dr_spec_l1Num cs) hcode s0.cur ?_
    rintro _ hm ⟨x, rfl, hx⟩ hq
    obtain ⟨m1, m2, m3⟩ := nxt _ hm hq (Nat.le_refl _) (fun _ _ => rfl) (fun _ _ => rfl)
    simp only [go_sem, kSt_ptr, Nat.reduceBEq, Nat.reduceAdd, Nat.reduceLeDiff, m1, m2, n1]
    exact ⟨fun _ e => (by cases e), _, rfl, ⟨⟨vk, x, vs⟩, rfl, ⟨hv1, hv2, hv3, hx.1, hx.2⟩⟩, m3.put2 (b := h.nx) (b' := h1.nx) (Nat.le_refl _) hne' (by omega) n4 (by simp) (fun q q1 q2 _ => by simp [q1, q2]) (fun _ _ => rfl)⟩
  by_cases k2 : k = 2
  · subst k2
    simp only [go_sem, Nat.reduceBEq, Int.reduceBEq]
    refine hP_draw (dr_spec_l1Below cs 2) hcode s0.cur ?_
    rintro _ hm ⟨x, rfl, hx⟩ hq
    replace hx : 0 ≤ x ∧ x < 2 := hx
    obtain ⟨m1, m2, m3⟩ := nxt _ hm hq (Nat.le_refl _) (fun _ _ => rfl) (fun _ _ => rfl)
    have hw : IntKind.wrap .i64 (30 + x) = 30 + x := wrapId (by omega) (by omega)
    obtain ⟨m, hm30⟩ : ∃ m : Nat, 30 + x = (m : Int) := ⟨(30 + x).toNat, by omega⟩
    have hw2 : IntKind.wrap .i64 (m : Int) = (m : Int) := wrapId (by omega) (by omega)
    have hmk : ∀ h, sMake false 1 [.int .u8 0] (.int .i64 (m : Int)) (.int .i64 (m : Int)) h = some (.app h.nx (List.replicate m [.int .u8 0]), h.newApp m 1) := fun h => sMake_z (by omega)
    have hcv : rowsBytes (List.replicate m [.int .u8 0]) = some (List.replicate m 0) := zeroBytes m
    simp only [go_sem, kSt_ptr, Nat.reduceBEq, Nat.reduceAdd, hm30, hw2, hmk, hcv, m1, m2, n1, rowsIn, notStr]
    exact ⟨fun _ e => (by cases e), _, rfl, ⟨⟨vk, vn, List.replicate m 0⟩, rfl, ⟨by simp; omega, hv2, hv3, hv4, hv5⟩⟩, m3.put2 (b := h.nx) (b' := h1.nx) (Nat.le_refl _) hne' (by omega) n4 (by simp) (fun q q1 q2 _ => by simp [q1, q2]) (fun q hq => by simp; omega)⟩
  by_cases k3 : k = 3
  · subst k3
    have f1 : fillR (List.replicate 4 [.str []]) 1 [(0, .str [105, 116, 39, 115]), (1, .str [97, 32, 98]), (2, .str [126]), (3, .str [127])] = some [[.str [105, 116, 39, 115]], [.str [97, 32, 98]], [.str [126]], [.str [127]]] := rfl
    have f1z : frzRows [[.str [105, 116, 39, 115]], [.str [97, 32, 98]], [.str [126]], [.str [127]]] = some [[.str [105, 116, 39, 115]], [.str [97, 32, 98]], [.str [126]], [.str [127]]] := rfl
    simp only [go_sem, Nat.reduceBEq, Int.reduceBEq, f1, f1z]
    refine hP_draw (dr_spec_l1Str cs ([[105, 116, 39, 115], [97, 32, 98], [126], [127]] : List (List UInt8)) (by simp) _) hcode (c0 _ (by simp) (fun _ _ => rfl)) ?_
    rintro _ hm ⟨s, rfl, hs⟩ hq
    obtain ⟨m1, m2, m3⟩ := nxt _ hm hq (by simp) (fun _ _ => rfl) (fun q hq => by have : ¬ q = ha.nx := (by omega); simp [this])
    have hl : s.length ≤ 40 := (show ∀ s ∈ ([[105, 116, 39, 115], [97, 32, 98], [126], [127]] : List (List UInt8)), s.length ≤ 40 by decide) s hs
    simp only [go_sem, kSt_ptr, Nat.reduceBEq, Nat.reduceAdd, m1, m2, n1]
    exact ⟨fun _ e => (by cases e), _, rfl, ⟨⟨vk, vn, s⟩, rfl, ⟨hl, hv2, hv3, hv4, hv5⟩⟩, m3.put2 (b := h.nx) (b' := h1.nx) (Nat.le_refl _) hne' (by omega) n4 (by simp) (fun q q1 q2 _ => by simp [q1, q2]) (fun _ _ => rfl)⟩
  have b0 := beqF k0
  have b1 := beqF k1
  have b2 := beqF k2
  have b3 := beqF k3
  simp only [go_sem, kSt_ptr, Nat.reduceBEq, Nat.reduceAdd, b0, b1, b2, b3, h3, h6]
  exact ⟨fun _ e => (by cases e), _, rfl, ⟨⟨vk, vn, vs⟩, rfl, ⟨hv1, hv2, hv3, hv4, hv5⟩⟩, s0.put (b := h.nx) (Nat.le_refl _) hne' (by simp) (fun q hq _ => by simp [hq]) (fun _ _ => rfl)⟩
end Go.Proofs.YtfjkmpmjohojpaaGreatDoor.Ij
namespace Go.Proofs.YtfjkmpmjohojpaaGreatDoor.Ij
open Go Go.RowKit Go.Ev
set_option linter.unusedSimpArgs false
set_option linter.unusedVariables false
set_option maxHeartbeats 1600000
def v_l24 : SCode := tlC (tlC (tlC s_spec_l24Any.body))
theorem b_l24Any : s_spec_l24Any.body = .seq (hdC s_spec_l24Any.body) (.seq (hdC (tlC s_spec_l24Any.body)) (.seq (hdC (tlC (tlC s_spec_l24Any.body))) v_l24)) := rfl
structure W24 (code : List UInt8) (r : Nat) (h0 H0 : Hp) (b4 b5 : Nat) (c5 : List AV) (h : Hp) : Prop where
  p4 : h.hp b4 = some [.int .i64 0, .int .i64 0, .snil, .snil, .bool false, .bool false, .bool false, .int .i64 0]
  p5 : h.hp b5 = some c5
  l4 : h0.nx ≤ b4
  l5 : h0.nx ≤ b5
  x4 : b4 < H0.nx
  x5 : b5 < H0.nx
  xn : H0.nx ≤ h.nx
  n45 : ¬ b4 = b5
  rn : r < h0.nx
  s : CurS code r h0 h
section
variable {code : List UInt8} {r : Nat} {h0 H0 : Hp} {b4 b5 : Nat} {c5 : List AV} {h h' : Hp}
theorem W24.draw (z : W24 code r h0 H0 b4 b5 c5 h) (c : CurS code r h h') : W24 code r h0 H0 b4 b5 c5 h' := by
  have := z.l4; have := z.l5; have := z.x4; have := z.x5; have := z.rn; have := c.nx; have := z.xn
  exact ⟨(c.hp b4 (by omega) (by omega)).trans z.p4, (c.hp b5 (by omega) (by omega)).trans z.p5, z.l4, z.l5, z.x4, z.x5, by omega, z.n45, z.rn, z.s.trans c⟩
theorem W24.put (z : W24 code r h0 H0 b4 b5 c5 h) (c' : List AV) : W24 code r h0 H0 b4 b5 c' ⟨fun q => if q = b5 then some c' else h.hp q, h.ap, h.nx⟩ := by
  have n45 := z.n45
  exact ⟨by simp only [go_sem, n45, z.p4], if_pos rfl, z.l4, z.l5, z.x4, z.x5, z.xn, z.n45, z.rn, z.s.put (b := b5) z.l5 (by have := z.l5; have := z.rn; omega) (Nat.le_refl _) (fun q hq _ => by simp [hq]) (fun _ _ => rfl)⟩
theorem W24.out (z : W24 code r h0 H0 b4 b5 c5 h) (cells : List AV) : CurS code r h0 ⟨fun q => if q = b4 then some cells else h.hp q, h.ap, h.nx⟩ :=
  z.s.put (b := b4) z.l4 (by have := z.l4; have := z.rn; omega) (Nat.le_refl _) (fun q hq _ => by simp [hq]) (fun _ _ => rfl)
end
theorem V_l24 (cs) {code : List UInt8} {r : Nat} {h0 H0 : Hp} {b4 b5 : Nat} (hcode : code.length ≤ 1048576) {Q : QS}
    (hq : ∀ (x : Ex) (e : Ps) (h : Hp) (cells : List AV), (∀ i, x ≠ .exit i) → e 4 = .ptr b4 0 → h.hp b4 = some cells → ScanU h0 cells h → CurS code r h0 h → Q x e h)
    (c : TScan) (lo hi : AV) (m : Nat) (ho : okScan 5 c)
    (e : Ps) (h : Hp) (e0 : e 0 = .ptr r 0) (e4 : e 4 = .ptr b4 0) (e5 : e 5 = .ptr b5 0) (z : W24 code r h0 H0 b4 b5 [.int .i64 c.fT, .int .i64 c.fI, lo, hi, .bool c.fLoEx, .bool c.fHiEx, .bool c.fRev, .int .i64 c.fLimit] h) (hL : LoS H0.nx m c.fLo lo h) (hH : LoS m h.nx c.fHi hi h) (hm : H0.nx ≤ m ∧ m ≤ h.nx) : wp (EE cs) v_l24 e h Q := by
  have zl := hL.cell
  have zh := hH.cell
  have n54 : ¬ b5 = b4 := fun e => z.n45 e.symm
  have n45 := z.n45
  have x4 := z.x4
  have x5 := z.x5
  have l4 := z.l4
  have l5 := z.l5
  have rn := z.rn
  have ot := ho.t
  have oi := ho.i
  have ol := ho.lo
  have oh := ho.hi
  have olim := ho.lim
  simp only [go_sem, v_l24, tlC, s_spec_l24Any, e0]
  refine hP_draw (dr_spec_l1Below cs 12) hcode z.s.cur ?_
  rintro _ h1 ⟨x, rfl, hx⟩ c1
  have z1 := z.draw c1
  have fin1 : ∀ (H : Hp) (c4 : List AV), CurS code r h H → LoS h0.nx H.nx c.fLo lo ⟨fun q => if q = b4 then some c4 else H.hp q, H.ap, H.nx⟩ ∧ LoS h0.nx H.nx c.fHi hi ⟨fun q => if q = b4 then some c4 else H.hp q, H.ap, H.nx⟩ := fun H c4 cH => by
    have := cH.nx
    have := z.xn
    exact ⟨hL.mono (by omega) (by omega) fun q k1 k2 => by have g : ¬ q = b4 := (by omega); simp only [g, if_false]; exact cH.hp q (by omega) (by omega), hH.mono (by omega) (by omega) fun q k1 k2 => by have g : ¬ q = b4 := (by omega); simp only [g, if_false]; exact cH.hp q (by omega) (by omega)⟩
  have fin2 : ∀ (H : Hp) (c4 c5 : List AV), CurS code r h H → LoS h0.nx H.nx c.fLo lo ⟨fun q => if q = b4 then some c4 else if q = b5 then some c5 else H.hp q, H.ap, H.nx⟩ ∧ LoS h0.nx H.nx c.fHi hi ⟨fun q => if q = b4 then some c4 else if q = b5 then some c5 else H.hp q, H.ap, H.nx⟩ := fun H c4 c5 cH => by
    have := cH.nx
    have := z.xn
    exact ⟨hL.mono (by omega) (by omega) fun q k1 k2 => by have g : ¬ q = b4 := (by omega); have g' : ¬ q = b5 := (by omega); simp only [g, g', if_false]; exact cH.hp q (by omega) (by omega), hH.mono (by omega) (by omega) fun q k1 k2 => by have g : ¬ q = b4 := (by omega); have g' : ¬ q = b5 := (by omega); simp only [g, g', if_false]; exact cH.hp q (by omega) (by omega)⟩
  have ol6 : c.fLo.length ≤ 6 ∧ ∀ v ∈ c.fLo, okVal v := ⟨by omega, ol.2⟩
  by_cases k0 : x = 0
  · subst k0
    have f1 : fillR (List.replicate 3 [.int .i64 0]) 1 [(0, .int .i64 (-1)), (1, .int .i64 0), (2, .int .i64 3)] = some [[.int .i64 (-1)], [.int .i64 0], [.int .i64 3]] := rfl
    have f2 : frzRows [[.int .i64 (-1)], [.int .i64 0], [.int .i64 3]] = some [[.int .i64 (-1)], [.int .i64 0], [.int .i64 3]] := rfl
    simp only [go_sem, Nat.reduceBEq, Int.reduceBEq, f1, f2, e0]
    refine hP_draw (dr_spec_l1Int cs ([-1, 0, 3] : List Int) (by simp) _) hcode (z1.s.cur.same (by simp) rfl) ?_
    rintro _ h2 ⟨y, rfl, hs⟩ c2
    have hy : -1 ≤ y ∧ y ≤ 4 := (show ∀ s ∈ ([-1, 0, 3] : List Int), -1 ≤ s ∧ s ≤ 4 by decide) y hs
    have c12 : CurS code r h1 h2 := c2.pre (by simp) (fun _ _ _ => rfl) (fun q hq => by simp; omega)
    have z2 := z1.draw c12
    obtain ⟨e1, e2⟩ := fin2 h2 [.int .i64 y, .int .i64 c.fI, lo, hi, .bool c.fLoEx, .bool c.fHiEx, .bool c.fRev, .int .i64 c.fLimit] [.int .i64 y, .int .i64 c.fI, lo, hi, .bool c.fLoEx, .bool c.fHiEx, .bool c.fRev, .int .i64 c.fLimit] (c1.trans c12)
    simp only [go_sem, kSt_ptr, Nat.reduceBEq, Nat.reduceAdd, Nat.reduceLeDiff, e5, e4, z2.p5, z2.p4, n45, zl, zh]
    exact hq _ _ _ _ (fun i e => by cases e) (by simp only [go_sem, Nat.reduceBEq, e4]) (by simp only [go_sem]; first | done | rfl) ⟨{ c with fT := y }, lo, hi, rfl, e1, e2, ⟨hy, oi, ol6, oh, olim⟩⟩ ((z2.put _).out _)
  by_cases k1 : x = 1
  · subst k1
    have f1 : fillR (List.replicate 4 [.int .i64 0]) 1 [(0, .int .i64 (-2)), (1, .int .i64 (-1)), (2, .int .i64 0), (3, .int .i64 2)] = some [[.int .i64 (-2)], [.int .i64 (-1)], [.int .i64 0], [.int .i64 2]] := rfl
    have f2 : frzRows [[.int .i64 (-2)], [.int .i64 (-1)], [.int .i64 0], [.int .i64 2]] = some [[.int .i64 (-2)], [.int .i64 (-1)], [.int .i64 0], [.int .i64 2]] := rfl
    simp only [go_sem, Nat.reduceBEq, Int.reduceBEq, f1, f2, e0]
    refine hP_draw (dr_spec_l1Int cs ([-2, -1, 0, 2] : List Int) (by simp) _) hcode (z1.s.cur.same (by simp) rfl) ?_
    rintro _ h2 ⟨y, rfl, hs⟩ c2
    have hy : -2 ≤ y ∧ y ≤ 3 := (show ∀ s ∈ ([-2, -1, 0, 2] : List Int), -2 ≤ s ∧ s ≤ 3 by decide) y hs
    have c12 : CurS code r h1 h2 := c2.pre (by simp) (fun _ _ _ => rfl) (fun q hq => by simp; omega)
    have z2 := z1.draw c12
    obtain ⟨e1, e2⟩ := fin2 h2 [.int .i64 c.fT, .int .i64 y, lo, hi, .bool c.fLoEx, .bool c.fHiEx, .bool c.fRev, .int .i64 c.fLimit] [.int .i64 c.fT, .int .i64 y, lo, hi, .bool c.fLoEx, .bool c.fHiEx, .bool c.fRev, .int .i64 c.fLimit] (c1.trans c12)
    simp only [go_sem, kSt_ptr, Nat.reduceBEq, Nat.reduceAdd, Nat.reduceLeDiff, e5, e4, z2.p5, z2.p4, n45, zl, zh]
    exact hq _ _ _ _ (fun i e => by cases e) (by simp only [go_sem, Nat.reduceBEq, e4]) (by simp only [go_sem]; first | done | rfl) ⟨{ c with fI := y }, lo, hi, rfl, e1, e2, ⟨ot, hy, ol6, oh, olim⟩⟩ ((z2.put _).out _)
  by_cases k2 : x = 2
  · subst k2
    simp only [go_sem, Nat.reduceBEq, Nat.reduceAdd, Nat.reduceLeDiff, Int.reduceBEq, e5, z1.p5, e0]
    refine hP_draw (dr_spec_l2Any cs) hcode z1.s.cur ?_
    rintro _ h2 ⟨t, rfl, ht⟩ c2
    have z2 := z1.draw c2
    have c02 := c1.trans c2
    have f1 : fillR (List.replicate 1 [.int .i64 0, .int .i64 0, .str []]) 3 [(0, .agg t.row)] = some [t.row] := rfl
    have f2 : frzRows [t.row] = some [t.row] := rfl
    have hn02 := c02.nx
    have xn := z.xn
    have hLb : LoS H0.nx m c.fLo lo ⟨h2.hp, fun r => if r = h2.nx then some (1, 3) else h2.ap r, h2.nx + 1⟩ := hL.mono (Nat.le_refl _) (Nat.le_refl _) fun q k1 k2 => c02.hp q (by omega) (by omega)
    obtain ⟨h5, a1, a2, a3, a4, a5⟩ := sApp_lo (id := h2.nx) (t := t) hLb (by omega)
    have a3' : h5.nx = h2.nx + 1 + 1 := a3
    have a4' : ∀ q, q < h2.nx → (q < H0.nx ∨ m ≤ q) → h5.hp q = h2.hp q := fun q hq hh => a4 q (by show q < h2.nx + 1; omega) hh
    simp only [go_sem, Nat.reduceBEq, Nat.reduceAdd, f1, f2]
    rw [a1]
    have z5 : W24 code r h0 H0 b4 b5 [.int .i64 c.fT, .int .i64 c.fI, lo, hi, .bool c.fLoEx, .bool c.fHiEx, .bool c.fRev, .int .i64 c.fLimit] h5 := by
      have hs2 := z2.s.nx
      refine ⟨(a4' b4 (by omega) (.inl x4)).trans z2.p4, (a4' b5 (by omega) (.inl x5)).trans z2.p5, l4, l5, x4, x5, by omega, n45, rn, ?_⟩
      exact ⟨z2.s.cur.same (by omega) (a4' r (by omega) (.inl (by omega))), fun q hq hr => (a4' q (by omega) (.inl (by omega))).trans (z2.s.hp q hq hr), fun q hq => by rw [a5]; show (if q = h2.nx then _ else _) = _; rw [if_neg (by omega)]; exact z2.s.ap q hq, by omega⟩
    simp only [go_sem, kSt_ptr, Nat.reduceBEq, Nat.reduceAdd, Nat.reduceLeDiff, e5, e4, z5.p5, z5.p4, n45, zh]
    refine hq _ _ _ _ (fun i e => by cases e) (by simp only [go_sem, Nat.reduceBEq, e4]) (by simp only [go_sem]; first | done | rfl) ⟨{ c with fLo := c.fLo ++ [t] }, .sl (h2.nx + 1) 0 (c.fLo ++ [t]).length 3, hi, rfl, .inr ⟨h2.nx + 1, [], rfl, ?_, by omega, by show h2.nx + 1 < h5.nx; omega⟩, hH.mono (by omega) (by show h.nx ≤ h5.nx; omega) fun q k1 k2 => ?_, ⟨ot, oi, ⟨by simp; omega, fun v hv => ?_⟩, oh, olim⟩⟩ ((z5.put _).out _)
    · have g : ¬ h2.nx + 1 = b4 := by omega
      have g' : ¬ h2.nx + 1 = b5 := by omega
      simp only [g, g', if_false, List.append_nil]
      exact a2
    · have g : ¬ q = b4 := by omega
      have g' : ¬ q = b5 := by omega
      simp only [g, g', if_false]
      exact (a4' q (by omega) (.inr k1)).trans (c02.hp q k2 (by omega))
    · rcases List.mem_append.1 hv with hv | hv
      · exact ol.2 v hv
      · rw [List.mem_singleton] at hv
        rw [hv]
        exact ht
  by_cases k3 : x = 3
  · subst k3
    have f1 : fillR (List.replicate 4 [.int .i64 0]) 1 [(0, .int .i64 (-1)), (1, .int .i64 0), (2, .int .i64 100), (3, .int .i64 101)] = some [[.int .i64 (-1)], [.int .i64 0], [.int .i64 100], [.int .i64 101]] := rfl
    have f2 : frzRows [[.int .i64 (-1)], [.int .i64 0], [.int .i64 100], [.int .i64 101]] = some [[.int .i64 (-1)], [.int .i64 0], [.int .i64 100], [.int .i64 101]] := rfl
    simp only [go_sem, Nat.reduceBEq, Int.reduceBEq, f1, f2, e0]
    refine hP_draw (dr_spec_l1Int cs ([-1, 0, 100, 101] : List Int) (by simp) _) hcode (z1.s.cur.same (by simp) rfl) ?_
    rintro _ h2 ⟨y, rfl, hs⟩ c2
    have hy : -1 ≤ y ∧ y ≤ 101 := (show ∀ s ∈ ([-1, 0, 100, 101] : List Int), -1 ≤ s ∧ s ≤ 101 by decide) y hs
    have c12 : CurS code r h1 h2 := c2.pre (by simp) (fun _ _ _ => rfl) (fun q hq => by simp; omega)
    have z2 := z1.draw c12
    obtain ⟨e1, e2⟩ := fin2 h2 [.int .i64 c.fT, .int .i64 c.fI, lo, hi, .bool c.fLoEx, .bool c.fHiEx, .bool c.fRev, .int .i64 y] [.int .i64 c.fT, .int .i64 c.fI, lo, hi, .bool c.fLoEx, .bool c.fHiEx, .bool c.fRev, .int .i64 y] (c1.trans c12)
    simp only [go_sem, kSt_ptr, Nat.reduceBEq, Nat.reduceAdd, e5, e4, z2.p5, z2.p4, n45, zl, zh]
    exact hq _ _ _ _ (fun i e => by cases e) (by simp only [go_sem, Nat.reduceBEq, e4]) (by simp only [go_sem]; first | done | rfl) ⟨{ c with fLimit := y }, lo, hi, rfl, e1, e2, ⟨ot, oi, ol6, oh, hy⟩⟩ ((z2.put _).out _)
  · simp only [go_sem, kSt_ptr, Nat.reduceBEq, Nat.reduceAdd, Nat.reduceLeDiff, beqF k0, beqF k1, beqF k2, beqF k3, e5, e4, z1.p5, z1.p4, zl, zh]
    obtain ⟨e1, e2⟩ := fin1 h1 [.int .i64 c.fT, .int .i64 c.fI, lo, hi, .bool c.fLoEx, .bool c.fHiEx, .bool c.fRev, .int .i64 c.fLimit] c1
    exact hq _ _ _ _ (fun i e => by cases e) (by simp only [go_sem, Nat.reduceBEq, e4]) (by simp only [go_sem]; first | done | rfl) ⟨c, lo, hi, rfl, e1, e2, ⟨ot, oi, ol6, oh, olim⟩⟩ (z1.out _)
theorem dr_spec_l24Any (cs) (hT50 : (EE cs).T 50 = some C_spec_Pick) (hT31 : (EE cs).T 31 = some C_spec_l11Plan) (hT35 : (EE cs).T 35 = some C_spec_FirstBad) (s : List TDef) (hl : 1 ≤ s.length ∧ s.length ≤ 4) (ho : ∀ d ∈ s, okDef d) : DrawR (EE cs) 13 [.imm (s.map TDef.row)] ScanA := drawR_of (st_spec_l24Any cs) fun code r h hcode hcur => by
  have rn := hcur.1
  have hq : ∀ (x : Ex) (e : Ps) (h' : Hp) (cells : List AV), (∀ i, x ≠ .exit i) → e 4 = .ptr h.nx 0 → h'.hp h.nx = some cells → ScanU h cells h' → CurS code r h h' → (fun x e' h' => (∀ i, x ≠ .exit i) ∧ ∃ v, (sRes e' h' s_spec_l24Any.res).map evResult = some v ∧ ScanA h v h' ∧ CurS code r h h') x e h' := fun x e h' cells k1 k2 k3 k4 k5 => by
    obtain ⟨c, lo, hi, rfl, w⟩ := k4
    refine ⟨k1, _, ?_, ⟨_, rfl, c, lo, hi, rfl, w⟩, k5⟩
    simp only [go_sem, Nat.reduceAdd, s_spec_l24Any, k2, k3]
  generalize hQ : (fun (x : Ex) (e' : Ps) (h' : Hp) => (∀ i, x ≠ .exit i) ∧ ∃ v, (sRes e' h' s_spec_l24Any.res).map evResult = some v ∧ ScanA h v h' ∧ CurS code r h h') = Q at hq ⊢
  clear hQ
  rw [b_l24Any]
  have m0 : ¬ r = h.nx := by omega
  have m1 : ¬ r = h.nx + 1 := by omega
  have q1 : ¬ h.nx = h.nx + 1 := by omega
  have q2 : ¬ h.nx + 1 = h.nx := by omega
  have hfb : C_spec_FirstBad [.imm (s.map TDef.row)] = some (.int .i64 (firstBad s)) := C_spec_FirstBad_eq s (by
    have := cost_sum (T := tDef) (k := 200) (l := s) fun d hd => (ho d hd).cost
    show s.length + costL tDef s ≤ 1048576
    omega)
  generalize firstBad s = fb at hfb
  have g1 : sFill [.int .i64 0, .int .i64 0, .snil, .snil, .bool false, .bool false, .bool false, .int .i64 0] [] = some [.int .i64 0, .int .i64 0, .snil, .snil, .bool false, .bool false, .bool false, .int .i64 0] := rfl
  obtain ⟨H0, hH0⟩ : ∃ H0 : Hp, H0 = ⟨fun q => if q = h.nx + 1 then some [.int .i64 0, .int .i64 0, .snil, .snil, .bool false, .bool false, .bool false, .int .i64 0] else if q = h.nx + 1 then some [.int .i64 0, .int .i64 0, .snil, .snil, .bool false, .bool false, .bool false, .int .i64 0] else if q = h.nx then some [.int .i64 0, .int .i64 0, .snil, .snil, .bool false, .bool false, .bool false, .int .i64 0] else h.hp q, h.ap, h.nx + 1 + 1⟩ := ⟨_, rfl⟩
  have w0 : W24 code r h H0 h.nx (h.nx + 1) [.int .i64 0, .int .i64 0, .snil, .snil, .bool false, .bool false, .bool false, .int .i64 0] H0 := by
    subst hH0
    exact ⟨by simp, by simp, Nat.le_refl _, Nat.le_succ _, by show h.nx < h.nx + 1 + 1; omega, by show h.nx + 1 < h.nx + 1 + 1; omega, Nat.le_refl _, q1, rn, (cur_refl hcur).more (by show h.nx ≤ h.nx + 1 + 1; omega) (fun q hq => by have g : ¬ q = h.nx := (by omega); have g' : ¬ q = h.nx + 1 := (by omega); simp [g, g']) (fun _ _ => rfl)⟩
  have hn0 : H0.nx = h.nx + 1 + 1 := by subst hH0; rfl
  by_cases hb : fb = -1
  · subst hb
    simp only [go_sem, kSt_ptr, Nat.reduceBEq, Nat.reduceAdd, hdC, tlC, s_spec_l24Any, g1, hT35, hfb]
    rw [← hH0]
    refine hP_drawR (dr_spec_l24Draw cs hT50 hT31 s hl ho) hcode w0.s.cur ?_
    rintro _ h1 ⟨_, rfl, c, m, lo, hi, rfl, kL, kH, hm1, hm2, hoc⟩ c1
    have z1 := w0.draw c1
    have zl := kL.cell
    have zh := kH.cell
    simp only [go_sem, kSt_ptr, Nat.reduceBEq, Nat.reduceAdd, z1.p5, zl, zh]
    exact V_l24 cs hcode hq c lo hi m hoc _ _ (by simp only [go_sem, Nat.reduceBEq]; first | done | rfl) (by simp only [go_sem, Nat.reduceBEq]) (by simp only [go_sem, Nat.reduceBEq]) (z1.put _) (kL.mono (Nat.le_refl _) (Nat.le_refl _) fun q k1 k2 => by have g : ¬ q = h.nx + 1 := (by omega); simp [g]) (kH.mono (Nat.le_refl _) (Nat.le_refl _) fun q k1 k2 => by have g : ¬ q = h.nx + 1 := (by omega); simp [g]) ⟨hm1, hm2⟩
  · simp only [go_sem, kSt_ptr, Nat.reduceBEq, Nat.reduceAdd, hdC, tlC, s_spec_l24Any, g1, hT35, hfb, beqF hb]
    rw [← hH0]
    exact V_l24 cs hcode hq ⟨0, 0, [], [], false, false, false, 0⟩ .snil .snil H0.nx ⟨by decide, by decide, ⟨by decide, fun v hv => by cases hv⟩, ⟨by decide, fun v hv => by cases hv⟩, by decide⟩ _ _ (by simp only [go_sem, Nat.reduceBEq]; first | done | rfl) (by simp only [go_sem, Nat.reduceBEq]) (by simp only [go_sem, Nat.reduceBEq]) w0 (.inl ⟨rfl, rfl⟩) (.inl ⟨rfl, rfl⟩) ⟨Nat.le_refl _, Nat.le_refl _⟩
end Go.Proofs.YtfjkmpmjohojpaaGreatDoor.Ij
namespace Go.Proofs.YtfjkmpmjohojpaaGreatDoor.Ij
open Go Go.RowKit Go.Ev
set_option linter.unusedSimpArgs false
set_option linter.unusedVariables false
set_option maxHeartbeats 1600000
structure X11 (code : List UInt8) (r : Nat) (h0 : Hp) (l : List TVal) (B : Nat) (h : Hp) : Prop where
  pB : h.hp B = some (l.map TVal.row).flatten
  lB : h0.nx ≤ B
  xB : B < h.nx
  rn : r < h0.nx
  s : CurS code r h0 h
  ok : ∀ t ∈ l, okVal t
theorem X11.draw {code : List UInt8} {r : Nat} {h0 : Hp} {l : List TVal} {B : Nat} {h h' : Hp} (z : X11 code r h0 l B h) (c : CurS code r h h') : X11 code r h0 l B h' :=
  ⟨(c.hp B z.xB (by have := z.lB; have := z.rn; omega)).trans z.pB, z.lB, Nat.lt_of_lt_of_le z.xB c.nx, z.rn, z.s.trans c, z.ok⟩
theorem X11.set {code : List UInt8} {r : Nat} {h0 : Hp} {l : List TVal} {B : Nat} {h : Hp} (z : X11 code r h0 l B h) (i : Nat) {t : TVal} (ht : okVal t) : X11 code r h0 (l.set i t) B ⟨fun q => if q = B then some ((l.set i t).map TVal.row).flatten else h.hp q, h.ap, h.nx⟩ :=
  ⟨if_pos rfl, z.lB, z.xB, z.rn, z.s.put (b := B) z.lB (by have := z.lB; have := z.rn; omega) (Nat.le_refl _) (fun q hq _ => by simp [hq]) (fun _ _ => rfl), fun x hx => by
    rcases List.mem_or_eq_of_mem_set hx with hx | hx
    · exact z.ok x hx
    · rw [hx]; exact ht⟩
theorem X11.out {code : List UInt8} {r : Nat} {h0 : Hp} {l : List TVal} {B n : Nat} {h : Hp} (z : X11 code r h0 l B h) (hn : n = l.length) (h9 : l.length ≤ 9) : RowX h0 (.sl B 0 n 3) h ∧ CurS code r h0 h :=
  ⟨⟨l.length, h9, B, l, by rw [hn], z.pB, z.lB, z.xB, rfl, z.ok⟩, z.s⟩
theorem LA_spec_l11Any (cs) {code : List UInt8} {r : Nat} {h0 : Hp} {s : List TDef} {d : TDef} {B n : Nat} (hs : s[0]? = some d) (hd : okDef d) (hn : n = d.fCols.length) {Q : QS}
    (hq : ∀ (l : List TVal) (e : Ps) (h : Hp), l.length = n → e 5 = .sl B 0 n 3 → X11 code r h0 l B h → Q (.exit 1) e h) :
    ∀ (k i : Nat) (l : List TVal) (e : Ps) (h : Hp), i + k = n → l.length = n → e 1 = .imm (s.map TDef.row) → e 5 = .sl B 0 n 3 → e 6 = .int .i64 (i : Int) → X11 code r h0 l B h → WL (EE cs) s_spec_l11Any_L0 e h Q := by
  have hcl := hd.cl
  have hi0 : ∀ H, kIa 4 (.imm (s.map TDef.row)) (.int .i64 0) H = some (.cptr d.row, H) := fun H => kIa_imm (by decide) (by rw [List.getElem?_map]; show Option.map _ s[0]? = _; rw [hs]; rfl) rfl
  have hdr : d.row = [.str d.fName, .imm (d.fCols.map TCol.row), .imm (d.fPrimary.map TBy.row), .imm (d.fIndexes.map TIndex.row)] := rfl
  intro k
  induction k with
  | zero =>
    intro i l e h hk hl e1 e5 e6 z
    have hc : ¬ (i : Int) < (n : Int) := by omega
    refine .step (wp_sound _ _ _ _ ?_)
    simp only [go_sem, Nat.reduceBEq, s_spec_l11Any_L0, e6, e5, hc]
    exact hq l _ _ hl (by simp only [go_sem, Nat.reduceBEq, e5]) z
  | succ k ih =>
    intro i l e h hk hl e1 e5 e6 z
    have hc : (i : Int) < (n : Int) := by omega
    have hc2 : (i : Int) < (d.fCols.length : Int) := by omega
    obtain ⟨c, hcg⟩ : ∃ c, d.fCols[i]? = some c := ⟨_, List.getElem?_eq_getElem (by omega)⟩
    have hia : ∀ H, kIa 3 (.imm (d.fCols.map TCol.row)) (.int .i64 (i : Int)) H = some (.cptr c.row, H) := fun H => kIa_imm (by omega) (by rw [List.getElem?_map, Int.toNat_natCast, hcg]; rfl) rfl
    have hib : ∀ H, kIa 3 (.sl B 0 n 3) (.int .i64 (i : Int)) H = some (.ptr B (i * 3), H) := fun H => by
      rw [kIa_sl (by omega) (by omega)]
      simp
    have hcr : c.row = [.str c.fName, .int .i64 c.fType, .bool c.fNull] := rfl
    have hw : IntKind.wrap .i64 ((i : Int) + 1) = ((i + 1 : Nat) : Int) := by rw [wrapId (by omega) (by omega)]; omega
    refine .step (wp_sound _ _ _ _ ?_)
    by_cases k3 : c.fType = 3
    · have hmk : ∀ h, sMake false 1 [.int .u8 0] (.int .i64 30) (.int .i64 30) h = some (.app h.nx (List.replicate 30 [.int .u8 0]), h.newApp 30 1) := fun h => sMake_z (m := 30) (by decide)
      have hcv : rowsBytes (List.replicate 30 [.int .u8 0]) = some (List.replicate 30 0) := zeroBytes 30
      have g1 : sFill [.int .i64 0, .int .i64 0, .str []] [(0, 1, .int .i64 3), (2, 1, .str (List.replicate 30 0))] = some (⟨3, 0, List.replicate 30 0⟩ : TVal).row := rfl
      have z2 : X11 code r h0 l B (h.newApp 30 1) := ⟨z.pB, z.lB, Nat.lt_succ_of_lt z.xB, z.rn, z.s.more (Nat.le_succ _) (fun _ _ => rfl) (fun q hq => by show (if q = h.nx then _ else _) = _; rw [if_neg (by omega)]), z.ok⟩
      have hst := kSt_val (i := i) (t := ⟨3, 0, List.replicate 30 0⟩) (H := ⟨h.hp, fun r => if r = h.nx then some (30, 1) else h.ap r, h.nx + 1⟩) (by omega) rfl z2.pB
      have ht : okVal ⟨3, 0, List.replicate 30 0⟩ := by unfold okVal; decide
      simp only [go_sem, Nat.reduceBEq, s_spec_l11Any_L0, e6, e5, hc, hc2, e1, hi0, hdr, List.length_map, hia, hcr, k3, hmk, hcv, rowsIn, notStr, g1, hib]
      rw [hst]
      simp only [go_sem, Nat.reduceBEq, e6, hw]
      exact ih (i + 1) _ _ _ (by omega) (by rw [List.length_set]; exact hl) (by simp only [go_sem, Nat.reduceBEq, e1]) (by simp only [go_sem, Nat.reduceBEq, e5]) (by simp only [go_sem, Nat.reduceBEq]) (z2.set i ht)
    · simp only [go_sem, Nat.reduceBEq, s_spec_l11Any_L0, e6, e5, hc, hc2, e1, hi0, hdr, List.length_map, hia, hcr, beqF k3, hw]
      exact ih (i + 1) l _ _ (by omega) hl (by simp only [go_sem, Nat.reduceBEq, e1]) (by simp only [go_sem, Nat.reduceBEq, e5]) (by simp only [go_sem, Nat.reduceBEq]) z
theorem dr_spec_l11Any (cs) (s : List TDef) (d : TDef) (hs : s[0]? = some d) (hd : okDef d) (h2 : 1 ≤ d.fCols.length) : DrawR (EE cs) 17 [.imm (s.map TDef.row)] RowX := drawR_of (st_spec_l11Any cs) fun code r h hcode hcur => by
  have rn := hcur.1
  have hcl := hd.cl
  have hi0 : ∀ H, kIa 4 (.imm (s.map TDef.row)) (.int .i64 0) H = some (.cptr d.row, H) := fun H => kIa_imm (by decide) (by rw [List.getElem?_map]; show Option.map _ s[0]? = _; rw [hs]; rfl) rfl
  have hdr : d.row = [.str d.fName, .imm (d.fCols.map TCol.row), .imm (d.fPrimary.map TBy.row), .imm (d.fIndexes.map TIndex.row)] := rfl
  simp only [go_sem, Nat.reduceBEq, Nat.reduceAdd, s_spec_l11Any, hi0, hdr]
  rw [← hdr]
  refine hP_drawR (dr_spec_l11Row cs d hd) hcode hcur ?_
  rintro _ h1 ⟨B, l, rfl, pB, lB, xB, hl, ho⟩ c1
  have z1 : X11 code r h l B h1 := ⟨pB, lB, xB, rn, c1, ho⟩
  simp only [go_sem, Nat.reduceBEq]
  refine hP_draw (dr_spec_l1Below cs 10) hcode c1.cur ?_
  rintro _ h2 ⟨x, rfl, hx⟩ c2
  have z := z1.draw c2
  by_cases k0 : x = 0
  · subst k0
    simp only [go_sem, Nat.reduceBEq, Int.reduceBEq]
    refine hP_draw (dr_spec_l2Any cs) hcode z.s.cur ?_
    rintro _ h3 ⟨t, rfl, ht⟩ c3
    have zz := z.draw c3
    have hib : ∀ H, kIa 3 (.sl B 0 l.length 3) (.int .i64 0) H = some (.ptr B 0, H) := fun H => by
      rw [kIa_sl (by decide) (by show 0 < _; omega)]
      rfl
    have hst := kSt_val (i := 0) (t := t) (by omega) rfl zz.pB
    simp only [go_sem, Nat.reduceBEq, hib, hst]
    exact ⟨fun _ e => (by cases e), _, rfl, (zz.set 0 ht).out (by simp) (by simp; omega)⟩
  by_cases k1 : x = 1
  · subst k1
    simp only [go_sem, Nat.reduceBEq, Int.reduceBEq]
    refine hP_draw (dr_spec_l2Draw cs) hcode z.s.cur ?_
    rintro _ h3 ⟨t, rfl, ht⟩ c3
    have zz := z.draw c3
    have f1 : fillR (List.replicate 1 [.int .i64 0, .int .i64 0, .str []]) 3 [(0, .agg t.row)] = some [t.row] := rfl
    have f2 : frzRows [t.row] = some [t.row] := rfl
    have sa : ∀ (H : Hp) (id : Nat), H.hp B = some (l.map TVal.row).flatten → sApp true 32 3 (.sl B 0 l.length 3) (.app id [t.row]) H = some (.sl H.nx 0 (l ++ [t]).length 3, (H.kill B).new ((l ++ [t]).map TVal.row).flatten) := fun H id hH =>
      sApp_rows (T := tVal) (bt := 32) (x := .app id [t.row]) (more := [t]) hH rfl (by simp only [List.length_cons, List.length_nil]; unfold room; omega)
    simp only [go_sem, Nat.reduceBEq, Nat.reduceAdd, f1, f2]
    rw [sa _ _ (by simp only [go_sem, zz.pB])]
    simp only [go_sem, Nat.reduceBEq, Hp.kill]
    have xB' := zz.xB
    have lB' := zz.lB
    have hn3 := zz.s.nx
    have q0 : ∀ q, q < h.nx → ¬ q = B ∧ ¬ q = h3.nx + 1 ∧ ¬ q = h3.nx := fun q hq => ⟨by omega, by omega, by omega⟩
    obtain ⟨r1, r2, r3⟩ := q0 r rn
    refine ⟨fun _ e => (by cases e), _, rfl, X11.out (l := l ++ [t]) ⟨by simp only [go_sem], by omega, Nat.lt_succ_self _, rn, ⟨zz.s.cur.same (by show h3.nx ≤ h3.nx + 1 + 1; omega) (by simp only [go_sem, r1, r2]), fun q hq hr => by obtain ⟨t1, t2, t3⟩ := q0 q hq; simp only [go_sem, t1, t2]; exact zz.s.hp q hq hr, fun q hq => by obtain ⟨t1, t2, t3⟩ := q0 q hq; simp only [go_sem, t3]; exact zz.s.ap q hq, by show h.nx ≤ h3.nx + 1 + 1; omega⟩, fun y hy => ?_⟩ rfl (by simp; omega)⟩
    rcases List.mem_append.1 hy with hy | hy
    · exact ho y hy
    · rw [List.mem_singleton] at hy
      rw [hy]
      exact ht
  by_cases k2 : x = 2
  · subst k2
    simp only [go_sem, Nat.reduceBEq, Int.reduceBEq]
    refine LA_spec_l11Any cs hs hd hl (fun l' e4 h4 hl' e5 zz => ?_) d.fCols.length 0 l _ h2 (by omega) rfl (by simp only [go_sem, Nat.reduceBEq]) (by simp only [go_sem, Nat.reduceBEq]) (by simp only [go_sem, Nat.reduceBEq]; first | done | rfl) z
    simp only [go_sem, Nat.reduceBEq, e5]
    exact ⟨fun _ e => (by cases e), _, rfl, zz.out hl'.symm (by omega)⟩
  · simp only [go_sem, Nat.reduceBEq, beqF k0, beqF k1, beqF k2]
    exact ⟨fun _ e => (by cases e), _, rfl, z.out rfl (by omega)⟩
/-- Drawn tables, a scan and a row, only looked at. -/
def InP (v : AV) : Prop := ∃ (s : List TDef) (c : TScan) (l : List TVal), v = .tup [.imm (s.map TDef.row), .agg c.row, .imm (l.map TVal.row)] ∧ s.length ≤ 4 ∧ (∀ d ∈ s, okDef d) ∧ okScan 6 c ∧ l.length ≤ 9 ∧ ∀ v ∈ l, okVal v
theorem defs_frz {h : Hp} {v : AV} {h' : Hp} (p : DefsP 4 h v h') : ∃ t, frzE 8 (h'.upper h.nx) v = some t ∧ ∃ s : List TDef, t = .imm (s.map TDef.row) ∧ 1 ≤ s.length ∧ s.length ≤ 4 ∧ (∀ d ∈ s, okDef d) ∧ ∀ d, s[0]? = some d → 2 ≤ d.fCols.length := by
  obtain ⟨s, g, k⟩ := p
  have e := frzD_grows (h' := h'.upper h.nx) g.1
  refine ⟨.imm (s.map TDef.row), ?_, s, rfl, k⟩
  rcases g.1 with ⟨rfl, rfl⟩ | ⟨id, rfl, _⟩
  · rfl
  · exact e
theorem run_spec_DrawInScan (cs) (hT81 : (EE cs).T 81 = some C_spec_l2Num) (hT50 : (EE cs).T 50 = some C_spec_Pick) (hT31 : (EE cs).T 31 = some C_spec_l11Plan) (hT35 : (EE cs).T 35 = some C_spec_FirstBad) (hT14 : (EE cs).T 14 = some C_spec_l1In) (code : List UInt8) (h : Hp) (hcode : code.length ≤ 1048576) : ∃ v h', RunF (EE cs) 5 [.imm (code.map u8T.row)] h (v, h') ∧ InP v := by
  have : ∃ rr, RunF (EE cs) 5 [.imm (code.map u8T.row)] h rr ∧ InP rr.1 := by
    refine run_wp (st_spec_DrawInScan cs) ?_
    simp only [go_sem, Nat.reduceBEq, s_spec_DrawInScan]
    obtain ⟨r, h1, k1, k2, k3, k4, k5, _⟩ := run_spec_l1New cs code _ hcode
    refine hP_call k1 ?_
    simp only [go_sem, Nat.reduceBEq]
    refine hP_drawZ (dr_spec_l22Defs cs hT81) (fun v h' hp => defs_frz hp) hcode k2 ?_
    rintro _ h2 ⟨s, rfl, hs1, hs2, ho, hd0⟩ c2
    simp only [go_sem, Nat.reduceBEq]
    refine hP_drawZ (dr_spec_l24Any cs hT50 hT31 hT35 s ⟨hs1, hs2⟩ ho) (R := ScanR) (fun v h' hp => hp.frz) hcode c2.cur ?_
    rintro _ h3 ⟨c, rfl, hoc⟩ c3
    have hcr : c.row = [.int .i64 c.fT, .int .i64 c.fI, .imm (c.fLo.map TVal.row), .imm (c.fHi.map TVal.row), .bool c.fLoEx, .bool c.fHiEx, .bool c.fRev, .int .i64 c.fLimit] := rfl
    have m0 : ¬ h.nx = r := by have : h.nx + 1 ≤ r := k3; omega
    have k4' : h.nx + 1 ≤ h1.nx := k4
    have c23 := c2.trans c3
    have hn3 := c23.nx
    have p3 : h3.hp h.nx = some [.int .i64 0, .int .i64 0, .snil, .snil, .bool false, .bool false, .bool false, .int .i64 0] := (c23.hp h.nx (by omega) m0).trans ((k5 h.nx (by show h.nx < h.nx + 1; omega)).trans (by simp))
    have m1 : ¬ h.nx = h3.nx := by omega
    have m2 : ¬ h3.nx = h.nx := by omega
    have m3 : ¬ h3.nx = r := by have := c3.cur.1; omega
    have m4 : ¬ r = h3.nx := fun e => m3 e.symm
    have hw : IntKind.wrap .i64 ((s.length : Int) - 1) = (s.length : Int) - 1 := wrapId (by omega) (by omega)
    obtain ⟨d0, hd0g⟩ : ∃ d0, s[0]? = some d0 := ⟨_, List.getElem?_eq_getElem (by omega)⟩
    obtain ⟨H, hH⟩ : ∃ H : Hp, H = ⟨fun q => if q = h3.nx then some [.int .i64 c.fT, .int .i64 c.fI, .imm (c.fLo.map TVal.row), .imm (c.fHi.map TVal.row), .bool c.fLoEx, .bool c.fHiEx, .bool c.fRev, .int .i64 c.fLimit] else if q = h3.nx then some [.int .i64 0, .int .i64 0, .snil, .snil, .bool false, .bool false, .bool false, .int .i64 0] else h3.hp q, h3.ap, h3.nx + 1⟩ := ⟨_, rfl⟩
    have pH : H.hp h.nx = some [.int .i64 0, .int .i64 0, .snil, .snil, .bool false, .bool false, .bool false, .int .i64 0] := by subst hH; simp [m1, p3]
    have p7 : H.hp h3.nx = some [.int .i64 c.fT, .int .i64 c.fI, .imm (c.fLo.map TVal.row), .imm (c.fHi.map TVal.row), .bool c.fLoEx, .bool c.fHiEx, .bool c.fRev, .int .i64 c.fLimit] := by subst hH; simp
    have hHn : H.nx = h3.nx + 1 := by subst hH; rfl
    have cH : Cur code r H := by
      subst hH
      exact c3.cur.same (Nat.le_succ _) (by simp [m4])
    cases hin : inR c.fT 0 ((s.length : Int) - 1) with
    | false =>
      simp only [go_sem, kSt_ptr, Nat.reduceBEq, Nat.reduceAdd, hcr, List.length_map, hw, hT14, C_spec_l1In_eq, hin]
      rw [← hH]
      refine hP_drawZ (dr_spec_l11Any cs s d0 hd0g (ho d0 (List.mem_of_getElem? hd0g)) (by have := hd0 d0 hd0g; omega)) (R := RowXR) (fun v h' hp => hp.frz) hcode cH ?_
      rintro _ h5 ⟨n, hn, row, rfl, hrl, hro⟩ c5
      have p5 := (c5.hp h.nx (by omega) m0).trans pH
      simp only [go_sem, kSt_ptr, Nat.reduceBEq, Nat.reduceAdd, p5]
      exact ⟨fun _ e => (by cases e), _, rfl, s, c, row, rfl, hs2, ho, hoc, by omega, hro⟩
    | true =>
      obtain ⟨i1, i2⟩ := inR_nat hin
      simp only [go_sem, kSt_ptr, Nat.reduceBEq, Nat.reduceAdd, hcr, List.length_map, hw, hT14, C_spec_l1In_eq, hin]
      rw [← hH]
      refine hP_draw (dr_spec_l1Once cs 8) hcode cH ?_
      rintro _ h4 ⟨b, rfl⟩ c4
      have hn4 := c4.nx
      have p34 := (c4.hp h.nx (by omega) m0).trans pH
      have p74 := (c4.hp h3.nx (by omega) m3).trans p7
      cases b with
      | true =>
        simp only [go_sem, Nat.reduceBEq, Nat.reduceAdd, Bool.not_true, p74]
        refine hP_drawZ (dr_spec_l11Any cs s d0 hd0g (ho d0 (List.mem_of_getElem? hd0g)) (by have := hd0 d0 hd0g; omega)) (R := RowXR) (fun v h' hp => hp.frz) hcode c4.cur ?_
        rintro _ h5 ⟨n, hn, row, rfl, hrl, hro⟩ c5
        have p5 := (c5.hp h.nx (by omega) m0).trans p34
        simp only [go_sem, kSt_ptr, Nat.reduceBEq, Nat.reduceAdd, p5]
        exact ⟨fun _ e => (by cases e), _, rfl, s, c, row, rfl, hs2, ho, hoc, by omega, hro⟩
      | false =>
        obtain ⟨d, hdg⟩ : ∃ d, s[c.fT.toNat]? = some d := ⟨_, List.getElem?_eq_getElem i2⟩
        have hdr : d.row = [.str d.fName, .imm (d.fCols.map TCol.row), .imm (d.fPrimary.map TBy.row), .imm (d.fIndexes.map TIndex.row)] := rfl
        have hia : ∀ H, kIa 4 (.imm (s.map TDef.row)) (.int .i64 c.fT) H = some (.cptr d.row, H) := fun H => kIa_imm i1 (by rw [List.getElem?_map, hdg]; rfl) rfl
        have hd := ho d (List.mem_of_getElem? hdg)
        have hcl := hd.cl
        simp only [go_sem, Nat.reduceBEq, Nat.reduceAdd, Bool.not_false, p74, hia, hdr]
        refine hP_drawZ (dr_spec_l11Row cs d hd) (R := RowR d.fCols.length) (fun v h' hp => hp.frz) hcode c4.cur ?_
        rintro _ h5 ⟨row, rfl, hrl, hro⟩ c5
        have p5 := (c5.hp h.nx (by omega) m0).trans p34
        simp only [go_sem, kSt_ptr, Nat.reduceBEq, Nat.reduceAdd, p5]
        exact ⟨fun _ e => (by cases e), _, rfl, s, c, row, rfl, hs2, ho, hoc, by omega, hro⟩
  obtain ⟨⟨v, h'⟩, h1, h2⟩ := this
  exact ⟨v, h', h1, h2⟩
theorem ev_impl_in (cs) (x a b : Int) : ∃ k n, out (EE cs) k n 28 [.int .i64 x, .int .i64 a, .int .i64 b] = some (.bool (inR x a b)) := by
  refine out_K (n := 0) (st_impl_in cs) ?_
  by_cases h1 : a ≤ x
  · simp only [go_sem, Nat.reduceBEq, s_impl_in, h1, inR]
  · simp only [go_sem, Nat.reduceBEq, s_impl_in, h1, inR]
noncomputable def C_impl_in := ct (fun a : Int × Int × Int => [.int .i64 a.1, .int .i64 a.2.1, .int .i64 a.2.2]) (fun _ => True) .bool fun a => inR a.1 a.2.1 a.2.2
theorem C_impl_in_eq (x a b : Int) : C_impl_in [.int .i64 x, .int .i64 a, .int .i64 b] = some (.bool (inR x a b)) := by
  unfold C_impl_in
  exact ct_eq (a := (x, a, b)) (fun a b h => by
    simp only [List.cons.injEq, AV.int.injEq, and_true, true_and] at h
    exact Prod.ext h.1 (Prod.ext h.2.1 h.2.2)) trivial
theorem ok_impl_in {WI} (hs : Stable WI) (cs) (hT : TOK (EE cs) WI) : PureOK Tryz.prog WI 28 C_impl_in :=
  pure_out hT hs (by rw [st_impl_in]; rfl) fun a _ => ev_impl_in cs a.1 a.2.1 a.2.2
end Go.Proofs.YtfjkmpmjohojpaaGreatDoor.Ij
namespace Go.Proofs.YtfjkmpmjohojpaaGreatDoor.Ij
open Go Go.RowKit Go.Ev
set_option linter.unusedSimpArgs false
set_option linter.unusedVariables false
set_option maxHeartbeats 1600000
noncomputable def C_impl_partsOk := c2 tDef (sliceT tBy) (fun (v : TDef) (l : List (TBy)) => tDef.cost v ≤ 1048576 ∧ l.length ≤ 1048576) (.bool) fun (v : TDef) (l : List (TBy)) => partsOK v l
theorem C_impl_partsOk_eq (v : TDef) (l : List (TBy)) (h : tDef.cost v ≤ 1048576 ∧ l.length ≤ 1048576) : C_impl_partsOk [.agg [.str v.fName, .imm (v.fCols.map TCol.row), .imm (v.fPrimary.map TBy.row), .imm (v.fIndexes.map TIndex.row)], .imm (l.map TBy.row)] = some (.bool ((partsOK v l))) := c2_eq tDef (sliceT tBy) h
theorem ok_impl_partsOk {WI : World → Prop} (hs : Stable WI) (cs) (hT : TOK (EE cs) WI) (h1 : (EE cs).T 28 = some C_impl_in) : PureOK Tryz.prog WI 67 C_impl_partsOk := by
  refine pure2 (E := EE cs) hT hs (by rw [st_impl_partsOk]; rfl) fun v l hp => out_wp (n := 0) (st_impl_partsOk cs) ?_
  obtain ⟨n1, n2, n3, n4, n5, n6⟩ := defLens hp.1
  have hw2 := defCols_len hp.1
  have hl := hp.2
  have inner : ∀ pre c rest, At l pre c rest → ∀ e h b, e 2 = .ptr 0 0 → h.hp 0 = some v.row → e 1 = .imm (l.map TBy.row) → e 9 = .imm (l.map TBy.row) → e 10 = .int .i64 l.length → e 11 = .int .i64 pre.length → e 6 = .ptr b 0 → h.hp b = some c.row → b < h.nx → 0 < h.nx → e 26 = .imm (pre.map TBy.row) → e 27 = .int .i64 pre.length → e 28 = .int .i64 0 → WL (EE cs) s_impl_partsOk_L0 e h fun x e' h' => ((pre.all fun q => !(q.fCol == c.fCol)) = true ∧ x = .exit 2 ∧ e' 2 = .ptr 0 0 ∧ h'.hp 0 = some v.row ∧ e' 1 = .imm (l.map TBy.row) ∧ e' 9 = .imm (l.map TBy.row) ∧ e' 10 = .int .i64 l.length ∧ e' 11 = .int .i64 pre.length ∧ 0 < h'.nx) ∨ ((pre.all fun q => !(q.fCol == c.fCol)) = false ∧ x = .ret ∧ e' 4 = .bool false) := by
    intro pre0 c rest0 a0 e h b k0 k1 k1' k2 k3 k4 k5 k6 k7 k8 k9 k10 k11
    have hlt0 := a0.lt
    refine (wl_all (l := pre0) (fun pre y => !(y.fCol == c.fCol)) (fun pre e h => e 2 = .ptr 0 0 ∧ h.hp 0 = some v.row ∧ e 1 = .imm (l.map TBy.row) ∧ e 9 = .imm (l.map TBy.row) ∧ e 10 = .int .i64 l.length ∧ e 11 = .int .i64 pre0.length ∧ e 6 = .ptr b 0 ∧ h.hp b = some c.row ∧ b < h.nx ∧ 0 < h.nx ∧ e 26 = .imm (pre0.map TBy.row) ∧ e 28 = .int .i64 pre.length ∧ e 27 = .int .i64 (pre0).length) (.exit 2) (fun e h => e 2 = .ptr 0 0 ∧ h.hp 0 = some v.row ∧ e 1 = .imm (l.map TBy.row) ∧ e 9 = .imm (l.map TBy.row) ∧ e 10 = .int .i64 l.length ∧ e 11 = .int .i64 pre0.length ∧ 0 < h.nx) (fun e h => e 4 = .bool false) (by omega) ?_ ?_ ?_ (by simp) pre0 [] _ _ rfl ?_).mono ?_
    · rintro pre y rest e h a hp ⟨q0, q1, q2, q3, q4, q5, q6, q7, q8, q9, q10, ix, nx⟩
      have hne : ¬ 0 = h.nx := by omega
      have hne2 : ¬ b = h.nx := by omega
      have hq : (y.fCol == c.fCol) = false := by simpa using hp
      have hb1 : b < h.nx + 1 := by omega
      simp only [go_sem, kSt_ptr, Nat.reduceBEq, Nat.reduceAdd, s_impl_partsOk_L0, q0, q1, q2, q3, q4, q5, q6, q7, q8, q9, q10, ix, nx, a.dl, a.ia (row := TBy.row) (sz := 2) rfl, a.hw, TBy.row, hq, hne, hne2, hb1]
    · rintro pre y rest e h a hp ⟨q0, q1, q2, q3, q4, q5, q6, q7, q8, q9, q10, ix, nx⟩
      have hne : ¬ 0 = h.nx := by omega
      have hne2 : ¬ b = h.nx := by omega
      have hq : (y.fCol == c.fCol) = true := by simpa using hp
      simp only [go_sem, kSt_ptr, Nat.reduceBEq, Nat.reduceAdd, s_impl_partsOk_L0, q6, q7, q10, ix, nx, a.dl, a.ia (row := TBy.row) (sz := 2) rfl, a.hw, TBy.row, hq, hne2]
    · rintro e h ⟨q0, q1, q2, q3, q4, q5, q6, q7, q8, q9, q10, ix, nx⟩
      simp only [go_sem, Nat.reduceBEq, s_impl_partsOk_L0, q0, q1, q2, q3, q4, q5, q9, q10, ix, nx]
    · simp only [go_sem, k0, k1, k1', k2, k3, k4, k5, k6, k7, k8, k9, k10, k11]
    · rintro x e' h' (⟨hp, rfl, j⟩ | ⟨hp, rfl, j⟩)
      · rw [allP_all] at hp
        exact .inl ⟨hp, rfl, j⟩
      · rw [allP_all] at hp
        exact .inr ⟨hp, rfl, j⟩
  simp only [go_sem, Nat.reduceBEq, s_impl_partsOk, TDef.row]
  refine (wl_all (l := l) (fun pre p => partP ((v.fCols.length : Int) - 1) pre p) (fun pre e h => e 2 = .ptr 0 0 ∧ h.hp 0 = some v.row ∧ e 1 = .imm (l.map TBy.row) ∧ e 9 = .imm (l.map TBy.row) ∧ 0 < h.nx ∧ e 11 = .int .i64 pre.length ∧ e 10 = .int .i64 (l).length) (.exit 0) (fun e h => e 2 = .ptr 0 0 ∧ h.hp 0 = some v.row ∧ e 1 = .imm (l.map TBy.row) ∧ e 9 = .imm (l.map TBy.row) ∧ 0 < h.nx) (fun e h => e 4 = .bool false) (by omega) ?_ ?_ ?_ (by simp) l [] _ _ rfl ?_).mono ?_
  · rintro pre p rest e h a hp ⟨q0, q1, q2, q3, q4, ix, nx⟩
    have hne : ¬ 0 = h.nx := by omega
    have hq1 : inR p.fCol 0 ((v.fCols.length : Int) - 1) = true := by unfold partP at hp; simp only [Bool.and_eq_true] at hp; exact hp.1
    have hq2 : (pre.all fun q => !(q.fCol == p.fCol)) = true := by unfold partP at hp; simp only [Bool.and_eq_true] at hp; exact hp.2
    all_goals simp only [go_sem, kSt_ptr, Nat.reduceBEq, Nat.reduceAdd, Nat.reduceLeDiff, s_impl_partsOk_L1, q0, q1, q2, q3, q4, ix, nx, a.dl, a.ia (row := TBy.row) (sz := 2) rfl, TDef.row, TBy.row, hne, h1, C_impl_in_eq, hw2, hq1, kSl_pre (row := TBy.row) (sz := 2) a.hl (fun _ => rfl) (by decide)]
    refine (inner pre p rest a _ _ h.nx (by simp only [go_sem, Nat.reduceBEq, q0]) (by simp only [go_sem, hne, q1]) (by simp only [go_sem, Nat.reduceBEq, q2]) (by simp only [go_sem, Nat.reduceBEq, q3]) (by simp only [go_sem, Nat.reduceBEq, nx]) (by simp only [go_sem, Nat.reduceBEq, ix]) (by simp only [go_sem, Nat.reduceBEq]) (by simp only [go_sem, TBy.row]) (by simp only [go_sem, Nat.lt_succ_self]) (by simp only [go_sem]) (by simp only [go_sem, Nat.reduceBEq]) (by simp only [go_sem, Nat.reduceBEq]) (by simp only [go_sem, Nat.reduceBEq])).mono ?_
    rintro x e' h' (⟨hq, rfl, k0, k1, k2, k3, k4, k5, k6⟩ | ⟨hq, rfl, k⟩)
    · simp only [go_sem, Nat.reduceBEq, k0, k1, k2, k3, k4, k5, k6, TDef.row, a.hw]
    · rw [hq2] at hq; cases hq
  · rintro pre p rest e h a hp ⟨q0, q1, q2, q3, q4, ix, nx⟩
    have hne : ¬ 0 = h.nx := by omega
    cases hq1 : inR p.fCol 0 ((v.fCols.length : Int) - 1)
    all_goals simp only [go_sem, kSt_ptr, Nat.reduceBEq, Nat.reduceAdd, Nat.reduceLeDiff, s_impl_partsOk_L1, q0, q1, q2, q3, ix, nx, a.dl, a.ia (row := TBy.row) (sz := 2) rfl, TDef.row, TBy.row, hne, h1, C_impl_in_eq, hw2, hq1, kSl_pre (row := TBy.row) (sz := 2) a.hl (fun _ => rfl) (by decide)]
    have hq2 : (pre.all fun q => !(q.fCol == p.fCol)) = false := by unfold partP at hp; rw [hq1, Bool.true_and] at hp; exact hp
    refine (inner pre p rest a _ _ h.nx (by simp only [go_sem, Nat.reduceBEq, q0]) (by simp only [go_sem, hne, q1]) (by simp only [go_sem, Nat.reduceBEq, q2]) (by simp only [go_sem, Nat.reduceBEq, q3]) (by simp only [go_sem, Nat.reduceBEq, nx]) (by simp only [go_sem, Nat.reduceBEq, ix]) (by simp only [go_sem, Nat.reduceBEq]) (by simp only [go_sem, TBy.row]) (by simp only [go_sem, Nat.lt_succ_self]) (by simp only [go_sem]) (by simp only [go_sem, Nat.reduceBEq]) (by simp only [go_sem, Nat.reduceBEq]) (by simp only [go_sem, Nat.reduceBEq])).mono ?_
    rintro x e' h' (⟨hq, rfl, k0, k1, k2, k3, k4, k5, k6⟩ | ⟨hq, rfl, k⟩)
    · rw [hq2] at hq; cases hq
    · simp only [go_sem, k]
  · rintro e h ⟨q0, q1, q2, q3, q4, ix, nx⟩
    simp only [go_sem, Nat.reduceBEq, s_impl_partsOk_L1, q0, q1, q2, q3, q4, ix, nx, TDef.row]
  · simp only [go_sem, Nat.reduceBEq, TDef.row]
  · rintro x e h (⟨hp, rfl, j0, j1, j2, j3, j4⟩ | ⟨hp, rfl, j⟩)
    · simp only [go_sem, Nat.reduceBEq, j2, h1, C_impl_in_eq, partsOK, hp]
    · simp only [go_sem, j, partsOK, hp]
def wordsText : List UInt8 := [116, 97, 98, 108, 101, 32, 112, 114, 105, 109, 97, 114, 121, 32, 117, 110, 105, 113, 117, 101, 32, 105, 110, 100, 101, 120, 32, 110, 117, 108, 108, 32, 100, 101, 115, 99, 32, 105, 110, 116, 32, 110, 117, 109, 32, 116, 101, 120, 116, 32, 98, 111, 111, 108]
theorem words_split : Lib.split wordsText [32] = words := by decide +kernel
noncomputable def C_strings_Split := c2 strT strT (fun s sep => s.length < 4294967281 ∧ 1 ≤ sep.length) (fun l => .imm (l.map strT.row)) fun s sep => Lib.split s sep
theorem C_strings_Split_eq (s sep : List UInt8) (h : s.length < 4294967281 ∧ 1 ≤ sep.length) : C_strings_Split [.str s, .str sep] = some (.imm ((Lib.split s sep).map strT.row)) := c2_eq strT strT h
noncomputable def C_impl_isLetter := c1 u8T (fun (b : UInt8) => True) (.bool) fun (b : UInt8) => smallB b
theorem C_impl_isLetter_eq (b : UInt8) (h : True) : C_impl_isLetter [.int .u8 (b).toNat] = some (.bool ((smallB b))) := c1_eq u8T h
theorem ok_impl_isLetter {WI : World → Prop} (hs : Stable WI) (cs) (hT : TOK (EE cs) WI) : PureOK Tryz.prog WI 93 C_impl_isLetter := by
  refine pure1 (E := EE cs) hT hs (by rw [st_impl_isLetter]; rfl) fun b hp => out_wp (n := 0) (st_impl_isLetter cs) ?_
  by_cases d : (97 : Int) ≤ b.toNat
  · simp only [go_sem, Nat.reduceBEq, s_impl_isLetter, d, smallB, inR]
  · simp only [go_sem, Nat.reduceBEq, s_impl_isLetter, d, smallB, inR]
noncomputable def C_impl_isDigit := c1 u8T (fun (b : UInt8) => True) (.bool) fun (b : UInt8) => digitB b
theorem C_impl_isDigit_eq (b : UInt8) (h : True) : C_impl_isDigit [.int .u8 (b).toNat] = some (.bool ((digitB b))) := c1_eq u8T h
theorem ok_impl_isDigit {WI : World → Prop} (hs : Stable WI) (cs) (hT : TOK (EE cs) WI) : PureOK Tryz.prog WI 94 C_impl_isDigit := by
  refine pure1 (E := EE cs) hT hs (by rw [st_impl_isDigit]; rfl) fun b hp => out_wp (n := 0) (st_impl_isDigit cs) ?_
  by_cases d : (48 : Int) ≤ b.toNat
  · simp only [go_sem, Nat.reduceBEq, s_impl_isDigit, d, digitB, inR]
  · simp only [go_sem, Nat.reduceBEq, s_impl_isDigit, d, digitB, inR]
noncomputable def C_impl_nameOk := c1 strT (fun (s : List UInt8) => s.length ≤ 1048576) (.bool) fun (s : List UInt8) => isName s
theorem C_impl_nameOk_eq (s : List UInt8) (h : s.length ≤ 1048576) : C_impl_nameOk [.str s] = some (.bool ((isName s))) := c1_eq strT h
theorem ok_impl_nameOk {WI : World → Prop} (hs : Stable WI) (cs) (hT : TOK (EE cs) WI) (h1 : (EE cs).T 93 = some C_impl_isLetter) (h2 : (EE cs).T 94 = some C_impl_isDigit) (h3 : (EE cs).T 28 = some C_impl_in) : PureOK Tryz.prog WI 89 C_impl_nameOk := by
  refine pure1 (E := EE cs) hT hs (by rw [st_impl_nameOk]; rfl) fun s hp => out_wp (n := 0) (st_impl_nameOk cs) ?_
  simp only [go_sem, s_impl_nameOk]
  refine (wl_all (l := s) (fun pre b => nameB pre b) (fun pre e h => e 0 = .str s ∧ e 3 = .int .i64 pre.length) (.exit 0) (fun e h => e 0 = .str s) (fun e h => e 2 = .bool false) (by omega) ?_ ?_ ?_ (by simp) s [] _ _ rfl ?_).mono ?_
  · rintro pre b rest e h a hp ⟨q0, ix⟩
    cases c1 : smallB b <;> cases c2 : ((pre.length : Int) == 0) <;> cases c3 : digitB b <;> simp [nameB, c1, c2, c3] at hp
    all_goals simp only [go_sem, Nat.reduceBEq, s_impl_nameOk_L0, q0, ix, a.dl, kIx_at a.hl, a.hw, h1, h2, C_impl_isLetter_eq b trivial, C_impl_isDigit_eq b trivial, c1, c2, c3]
  · rintro pre b rest e h a hp ⟨q0, ix⟩
    cases c1 : smallB b <;> cases c2 : ((pre.length : Int) == 0) <;> cases c3 : digitB b <;> simp [nameB, c1, c2, c3] at hp
    all_goals simp only [go_sem, Nat.reduceBEq, s_impl_nameOk_L0, q0, ix, a.dl, kIx_at a.hl, a.hw, h1, h2, C_impl_isLetter_eq b trivial, C_impl_isDigit_eq b trivial, c1, c2, c3]
  · rintro e h ⟨q0, ix⟩
    simp only [go_sem, Nat.reduceBEq, s_impl_nameOk_L0, q0, ix]
  · simp only [go_sem, Nat.reduceBEq, and_self]
  · rintro x e h (⟨hp, rfl, j0⟩ | ⟨hp, rfl, j⟩)
    · simp only [go_sem, Nat.reduceBEq, j0, h3, C_impl_in_eq, isName, hp]
    · simp only [go_sem, j, isName, hp]
noncomputable def C_impl_isFree := c1 strT (fun (s : List UInt8) => s.length ≤ 1048576) (.bool) fun (s : List UInt8) => freeW s
theorem C_impl_isFree_eq (s : List UInt8) (h : s.length ≤ 1048576) : C_impl_isFree [.str s] = some (.bool ((freeW s))) := c1_eq strT h
theorem ok_impl_isFree {WI : World → Prop} (hs : Stable WI) (cs) (hT : TOK (EE cs) WI) (h1 : (EE cs).T 88 = some C_strings_Split) (h2 : (EE cs).T 89 = some C_impl_nameOk) : PureOK Tryz.prog WI 83 C_impl_isFree := by
  refine pure1 (E := EE cs) hT hs (by rw [st_impl_isFree]; rfl) fun s hp => out_wp (n := 0) (st_impl_isFree cs) ?_
  have c1 : C_strings_Split [.str [116, 97, 98, 108, 101, 32, 112, 114, 105, 109, 97, 114, 121, 32, 117, 110, 105, 113, 117, 101, 32, 105, 110, 100, 101, 120, 32, 110, 117, 108, 108, 32, 100, 101, 115, 99, 32, 105, 110, 116, 32, 110, 117, 109, 32, 116, 101, 120, 116, 32, 98, 111, 111, 108], .str [32]] = some (.imm (words.map strT.row)) := by
    rw [← words_split]
    exact C_strings_Split_eq wordsText [32] (by decide)
  have c2 := C_impl_nameOk_eq s hp
  simp only [go_sem, Nat.reduceBEq, s_impl_isFree, h1, c1]
  refine (wl_all (l := words) (fun pre w => !(w == s)) (fun pre e h => e 0 = .str s ∧ e 5 = .imm (words.map strT.row) ∧ e 7 = .int .i64 pre.length ∧ e 6 = .int .i64 (words).length) (.exit 0) (fun e h => e 0 = .str s ∧ e 5 = .imm (words.map strT.row)) (fun e h => e 2 = .bool false) (by decide) ?_ ?_ ?_ (by simp) words [] _ _ rfl ?_).mono ?_
  · rintro pre w rest e h a hp ⟨q0, q1, ix, nx⟩
    have hq : (w == s) = false := by simpa using hp
    simp only [go_sem, Nat.reduceBEq, s_impl_isFree_L0, q0, q1, ix, nx, a.dl, a.ia (row := strT.row) (sz := 1) rfl, a.hw, hq]
  · rintro pre w rest e h a hp ⟨q0, q1, ix, nx⟩
    have hq : (w == s) = true := by simpa using hp
    simp only [go_sem, Nat.reduceBEq, s_impl_isFree_L0, q0, q1, ix, nx, a.dl, a.ia (row := strT.row) (sz := 1) rfl, a.hw, hq]
  · rintro e h ⟨q0, q1, ix, nx⟩
    simp only [go_sem, Nat.reduceBEq, s_impl_isFree_L0, q0, q1, ix, nx]
  · simp only [go_sem, Nat.reduceBEq, and_self]
  · rintro x e h (⟨hp, rfl, j0, j1⟩ | ⟨hp, rfl, j⟩)
    · rw [allP_all] at hp
      simp only [go_sem, Nat.reduceBEq, j0, h2, c2, freeW, hasS, hp]
    · rw [allP_all] at hp
      simp only [go_sem, j, freeW, hasS, hp]
noncomputable def C_impl_namesOk := c1 tDef (fun (v : TDef) => tDef.cost v ≤ 1048576) (.bool) fun (v : TDef) => defNames v
theorem C_impl_namesOk_eq (v : TDef) (h : tDef.cost v ≤ 1048576) : C_impl_namesOk [.agg [.str v.fName, .imm (v.fCols.map TCol.row), .imm (v.fPrimary.map TBy.row), .imm (v.fIndexes.map TIndex.row)]] = some (.bool ((defNames v))) := c1_eq tDef h
theorem ok_impl_namesOk {WI : World → Prop} (hs : Stable WI) (cs) (hT : TOK (EE cs) WI) (h1 : (EE cs).T 83 = some C_impl_isFree) : PureOK Tryz.prog WI 65 C_impl_namesOk := by
  refine pure1 (E := EE cs) hT hs (by rw [st_impl_namesOk]; rfl) fun v hp => out_wp (n := 0) (st_impl_namesOk cs) ?_
  obtain ⟨n1, n2, n3, n4, n5, n6⟩ := defLens hp
  simp only [go_sem, Nat.reduceBEq, Nat.reduceAdd, Nat.reduceLeDiff, s_impl_namesOk, TDef.row]
  refine (wl_all (l := v.fCols) (fun pre c => freeW c.fName) (fun pre e h => e 1 = .ptr 0 0 ∧ h.hp 0 = some v.row ∧ e 8 = .imm (v.fCols.map TCol.row) ∧ 0 < h.nx ∧ e 10 = .int .i64 pre.length ∧ e 9 = .int .i64 (v.fCols).length) (.exit 0) (fun e h => e 1 = .ptr 0 0 ∧ h.hp 0 = some v.row ∧ e 8 = .imm (v.fCols.map TCol.row) ∧ 0 < h.nx) (fun e h => e 2 = .bool false) (by omega) ?_ ?_ ?_ (by simp) v.fCols [] _ _ rfl ?_).mono ?_
  · rintro pre c rest e h a hp ⟨q0, q1, q2, q3, ix, nx⟩
    have hne : ¬ 0 = h.nx := by omega
    simp only [go_sem, kSt_ptr, Nat.reduceBEq, Nat.reduceAdd, s_impl_namesOk_L0, q0, q1, q2, q3, ix, nx, a.dl, a.ia (row := TCol.row) (sz := 3) rfl, hp, a.hw, TDef.row, TCol.row, h1, C_impl_isFree_eq c.fName (n5 c a.mem), hne]
  · rintro pre c rest e h a hp ⟨q0, q1, q2, q3, ix, nx⟩
    have hne : ¬ 0 = h.nx := by omega
    simp only [go_sem, kSt_ptr, Nat.reduceBEq, Nat.reduceAdd, s_impl_namesOk_L0, q2, ix, nx, a.dl, a.ia (row := TCol.row) (sz := 3) rfl, hp, a.hw, TCol.row, h1, C_impl_isFree_eq c.fName (n5 c a.mem)]
  · rintro e h ⟨q0, q1, q2, q3, ix, nx⟩
    simp only [go_sem, Nat.reduceBEq, s_impl_namesOk_L0, q0, q1, q2, q3, ix, nx, TDef.row]
  · simp only [go_sem, Nat.reduceBEq, TDef.row]
  · rintro x e h (⟨hp, rfl, j0, j1, j2, j3⟩ | ⟨hp, rfl, j⟩)
    · rw [allP_all] at hp
      simp only [go_sem, Nat.reduceBEq, Nat.reduceAdd, Nat.reduceLeDiff, j0, j1, TDef.row]
      refine (wl_all (l := v.fIndexes) (fun pre c => freeW c.fName) (fun pre e h => e 1 = .ptr 0 0 ∧ h.hp 0 = some v.row ∧ e 20 = .imm (v.fIndexes.map TIndex.row) ∧ 0 < h.nx ∧ e 22 = .int .i64 pre.length ∧ e 21 = .int .i64 (v.fIndexes).length) (.exit 2) (fun e h => e 1 = .ptr 0 0 ∧ h.hp 0 = some v.row ∧ e 20 = .imm (v.fIndexes.map TIndex.row) ∧ 0 < h.nx) (fun e h => e 2 = .bool false) (by omega) ?_ ?_ ?_ (by simp) v.fIndexes [] _ _ rfl ?_).mono ?_
      · rintro pre c rest e h a hp ⟨q0, q1, q2, q3, ix, nx⟩
        have hne : ¬ 0 = h.nx := by omega
        simp only [go_sem, kSt_ptr, Nat.reduceBEq, Nat.reduceAdd, s_impl_namesOk_L1, q0, q1, q2, q3, ix, nx, a.dl, a.ia (row := TIndex.row) (sz := 3) rfl, hp, a.hw, TDef.row, TIndex.row, h1, C_impl_isFree_eq c.fName (n6 c a.mem).1, hne]
      · rintro pre c rest e h a hp ⟨q0, q1, q2, q3, ix, nx⟩
        have hne : ¬ 0 = h.nx := by omega
        simp only [go_sem, kSt_ptr, Nat.reduceBEq, Nat.reduceAdd, s_impl_namesOk_L1, q2, ix, nx, a.dl, a.ia (row := TIndex.row) (sz := 3) rfl, hp, a.hw, TIndex.row, h1, C_impl_isFree_eq c.fName (n6 c a.mem).1]
      · rintro e h ⟨q0, q1, q2, q3, ix, nx⟩
        simp only [go_sem, Nat.reduceBEq, s_impl_namesOk_L1, q0, q1, q2, q3, ix, nx, TDef.row]
      · simp only [go_sem, Nat.reduceBEq, j0, j1, j3, TDef.row]
      · rintro x e h (⟨hp2, rfl, j0, j1, j2, j3⟩ | ⟨hp2, rfl, j⟩)
        · rw [allP_all] at hp2
          simp only [go_sem, Nat.reduceBEq, j0, j1, TDef.row, h1, C_impl_isFree_eq v.fName n1, defNames, hp, hp2]
        · rw [allP_all] at hp2
          simp only [go_sem, j, defNames, hp, hp2]
    · rw [allP_all] at hp
      simp only [go_sem, j, defNames, hp]
end Go.Proofs.YtfjkmpmjohojpaaGreatDoor.Ij
namespace Go.Proofs.YtfjkmpmjohojpaaGreatDoor.Ij
open Go Go.RowKit Go.Ev
set_option linter.unusedSimpArgs false
set_option linter.unusedVariables false
set_option maxHeartbeats 1600000
noncomputable def C_impl_twice := c1 tDef (fun (v : TDef) => tDef.cost v ≤ 1048576) (.bool) fun (v : TDef) => !defOnce v
theorem C_impl_twice_eq (v : TDef) (h : tDef.cost v ≤ 1048576) : C_impl_twice [.agg [.str v.fName, .imm (v.fCols.map TCol.row), .imm (v.fPrimary.map TBy.row), .imm (v.fIndexes.map TIndex.row)]] = some (.bool ((!defOnce v))) := c1_eq tDef h
theorem ok_impl_twice {WI : World → Prop} (hs : Stable WI) (cs) (hT : TOK (EE cs) WI) : PureOK Tryz.prog WI 66 C_impl_twice := by
  refine pure1 (E := EE cs) hT hs (by rw [st_impl_twice]; rfl) fun v hp => out_wp (n := 0) (st_impl_twice cs) ?_
  obtain ⟨n1, n2, n3, n4, n5, n6⟩ := defLens hp
  have in1 : ∀ pre c rest, At v.fCols pre c rest → ∀ e h b, e 1 = .ptr 0 0 → h.hp 0 = some v.row → e 12 = .imm (v.fCols.map TCol.row) → e 13 = .int .i64 v.fCols.length → e 14 = .int .i64 pre.length → e 4 = .ptr b 0 → h.hp b = some c.row → b < h.nx → 0 < h.nx → e 22 = .imm (pre.map TCol.row) → e 23 = .int .i64 pre.length → e 24 = .int .i64 0 → WL (EE cs) s_impl_twice_L0 e h fun x e' h' => (onceC pre c = true ∧ x = .exit 2 ∧ e' 1 = .ptr 0 0 ∧ h'.hp 0 = some v.row ∧ e' 12 = .imm (v.fCols.map TCol.row) ∧ e' 13 = .int .i64 v.fCols.length ∧ e' 14 = .int .i64 pre.length ∧ 0 < h'.nx) ∨ (onceC pre c = false ∧ x = .ret ∧ e' 2 = .bool true) := by
    intro pre0 c rest0 a0 e h b k0 k1 k2 k3 k4 k5 k6 k7 k8 k9 k10 k11
    have hlt0 := a0.lt
    refine (wl_all (l := pre0) (fun pre y => !(y.fName == c.fName)) (fun pre e h => e 1 = .ptr 0 0 ∧ h.hp 0 = some v.row ∧ e 12 = .imm (v.fCols.map TCol.row) ∧ e 13 = .int .i64 v.fCols.length ∧ e 14 = .int .i64 pre0.length ∧ e 4 = .ptr b 0 ∧ h.hp b = some c.row ∧ b < h.nx ∧ 0 < h.nx ∧ e 22 = .imm (pre0.map TCol.row) ∧ e 24 = .int .i64 pre.length ∧ e 23 = .int .i64 (pre0).length) (.exit 2) (fun e h => e 1 = .ptr 0 0 ∧ h.hp 0 = some v.row ∧ e 12 = .imm (v.fCols.map TCol.row) ∧ e 13 = .int .i64 v.fCols.length ∧ e 14 = .int .i64 pre0.length ∧ 0 < h.nx) (fun e h => e 2 = .bool true) (by omega) ?_ ?_ ?_ (by simp) pre0 [] _ _ rfl ?_).mono ?_
    · rintro pre y rest e h a hp ⟨q0, q1, q2, q3, q4, q5, q6, q7, q8, q9, ix, nx⟩
      have hne : ¬ 0 = h.nx := by omega
      have hne2 : ¬ b = h.nx := by omega
      have hq : (y.fName == c.fName) = false := by simpa using hp
      have hb1 : b < h.nx + 1 := by omega
      simp only [go_sem, kSt_ptr, Nat.reduceBEq, Nat.reduceAdd, s_impl_twice_L0, q0, q1, q2, q3, q4, q5, q6, q7, q8, q9, ix, nx, a.dl, a.ia (row := TCol.row) (sz := 3) rfl, a.hw, TCol.row, hq, hne, hne2, hb1]
    · rintro pre y rest e h a hp ⟨q0, q1, q2, q3, q4, q5, q6, q7, q8, q9, ix, nx⟩
      have hne : ¬ 0 = h.nx := by omega
      have hne2 : ¬ b = h.nx := by omega
      have hq : (y.fName == c.fName) = true := by simpa using hp
      simp only [go_sem, kSt_ptr, Nat.reduceBEq, Nat.reduceAdd, s_impl_twice_L0, q5, q6, q9, ix, nx, a.dl, a.ia (row := TCol.row) (sz := 3) rfl, a.hw, TCol.row, hq, hne2]
    · rintro e h ⟨q0, q1, q2, q3, q4, q5, q6, q7, q8, q9, ix, nx⟩
      simp only [go_sem, Nat.reduceBEq, s_impl_twice_L0, q0, q1, q2, q3, q4, q8, q9, ix, nx]
    · simp only [go_sem, k0, k1, k2, k3, k4, k5, k6, k7, k8, k9, k10, k11]
    · rintro x e' h' (⟨hp, rfl, j⟩ | ⟨hp, rfl, j⟩)
      · rw [allP_all] at hp
        exact .inl ⟨hp, rfl, j⟩
      · rw [allP_all] at hp
        exact .inr ⟨hp, rfl, j⟩
  have in2 : ∀ pre c rest, At v.fIndexes pre c rest → ∀ e h b, e 1 = .ptr 0 0 → h.hp 0 = some v.row → e 36 = .imm (v.fIndexes.map TIndex.row) → e 37 = .int .i64 v.fIndexes.length → e 38 = .int .i64 pre.length → e 8 = .ptr b 0 → h.hp b = some c.row → b < h.nx → 0 < h.nx → e 46 = .imm (pre.map TIndex.row) → e 47 = .int .i64 pre.length → e 48 = .int .i64 0 → WL (EE cs) s_impl_twice_L2 e h fun x e' h' => (onceX pre c = true ∧ x = .exit 6 ∧ e' 1 = .ptr 0 0 ∧ h'.hp 0 = some v.row ∧ e' 36 = .imm (v.fIndexes.map TIndex.row) ∧ e' 37 = .int .i64 v.fIndexes.length ∧ e' 38 = .int .i64 pre.length ∧ 0 < h'.nx) ∨ (onceX pre c = false ∧ x = .ret ∧ e' 2 = .bool true) := by
    intro pre0 c rest0 a0 e h b k0 k1 k2 k3 k4 k5 k6 k7 k8 k9 k10 k11
    have hlt0 := a0.lt
    refine (wl_all (l := pre0) (fun pre y => !(y.fName == c.fName)) (fun pre e h => e 1 = .ptr 0 0 ∧ h.hp 0 = some v.row ∧ e 36 = .imm (v.fIndexes.map TIndex.row) ∧ e 37 = .int .i64 v.fIndexes.length ∧ e 38 = .int .i64 pre0.length ∧ e 8 = .ptr b 0 ∧ h.hp b = some c.row ∧ b < h.nx ∧ 0 < h.nx ∧ e 46 = .imm (pre0.map TIndex.row) ∧ e 48 = .int .i64 pre.length ∧ e 47 = .int .i64 (pre0).length) (.exit 6) (fun e h => e 1 = .ptr 0 0 ∧ h.hp 0 = some v.row ∧ e 36 = .imm (v.fIndexes.map TIndex.row) ∧ e 37 = .int .i64 v.fIndexes.length ∧ e 38 = .int .i64 pre0.length ∧ 0 < h.nx) (fun e h => e 2 = .bool true) (by omega) ?_ ?_ ?_ (by simp) pre0 [] _ _ rfl ?_).mono ?_
    · rintro pre y rest e h a hp ⟨q0, q1, q2, q3, q4, q5, q6, q7, q8, q9, ix, nx⟩
      have hne : ¬ 0 = h.nx := by omega
      have hne2 : ¬ b = h.nx := by omega
      have hq : (y.fName == c.fName) = false := by simpa using hp
      have hb1 : b < h.nx + 1 := by omega
      simp only [go_sem, kSt_ptr, Nat.reduceBEq, Nat.reduceAdd, s_impl_twice_L2, q0, q1, q2, q3, q4, q5, q6, q7, q8, q9, ix, nx, a.dl, a.ia (row := TIndex.row) (sz := 3) rfl, a.hw, TIndex.row, hq, hne, hne2, hb1]
    · rintro pre y rest e h a hp ⟨q0, q1, q2, q3, q4, q5, q6, q7, q8, q9, ix, nx⟩
      have hne : ¬ 0 = h.nx := by omega
      have hne2 : ¬ b = h.nx := by omega
      have hq : (y.fName == c.fName) = true := by simpa using hp
      simp only [go_sem, kSt_ptr, Nat.reduceBEq, Nat.reduceAdd, s_impl_twice_L2, q5, q6, q9, ix, nx, a.dl, a.ia (row := TIndex.row) (sz := 3) rfl, a.hw, TIndex.row, hq, hne2]
    · rintro e h ⟨q0, q1, q2, q3, q4, q5, q6, q7, q8, q9, ix, nx⟩
      simp only [go_sem, Nat.reduceBEq, s_impl_twice_L2, q0, q1, q2, q3, q4, q8, q9, ix, nx]
    · simp only [go_sem, k0, k1, k2, k3, k4, k5, k6, k7, k8, k9, k10, k11]
    · rintro x e' h' (⟨hp, rfl, j⟩ | ⟨hp, rfl, j⟩)
      · rw [allP_all] at hp
        exact .inl ⟨hp, rfl, j⟩
      · rw [allP_all] at hp
        exact .inr ⟨hp, rfl, j⟩
  simp only [go_sem, Nat.reduceBEq, Nat.reduceAdd, Nat.reduceLeDiff, s_impl_twice, TDef.row]
  refine (wl_all (l := v.fCols) (fun pre c => onceC pre c) (fun pre e h => e 1 = .ptr 0 0 ∧ h.hp 0 = some v.row ∧ e 12 = .imm (v.fCols.map TCol.row) ∧ 0 < h.nx ∧ e 14 = .int .i64 pre.length ∧ e 13 = .int .i64 (v.fCols).length) (.exit 0) (fun e h => e 1 = .ptr 0 0 ∧ h.hp 0 = some v.row ∧ e 12 = .imm (v.fCols.map TCol.row) ∧ 0 < h.nx) (fun e h => e 2 = .bool true) (by omega) ?_ ?_ ?_ (by simp) v.fCols [] _ _ rfl ?_).mono ?_
  · rintro pre c rest e h a hp ⟨q0, q1, q2, q3, ix, nx⟩
    have hne : ¬ 0 = h.nx := by omega
    simp only [go_sem, kSt_ptr, Nat.reduceBEq, Nat.reduceAdd, Nat.reduceLeDiff, s_impl_twice_L1, q0, q1, q2, q3, ix, nx, a.dl, a.ia (row := TCol.row) (sz := 3) rfl, TDef.row, TCol.row, hne, kSl_pre (row := TCol.row) (sz := 3) a.hl (fun _ => rfl) (by decide)]
    refine (in1 pre c rest a _ _ h.nx (by simp only [go_sem, Nat.reduceBEq, q0]) (by simp only [go_sem, hne, q1]) (by simp only [go_sem, Nat.reduceBEq, q2]) (by simp only [go_sem, Nat.reduceBEq, nx]) (by simp only [go_sem, Nat.reduceBEq, ix]) (by simp only [go_sem, Nat.reduceBEq]) (by simp only [go_sem, TCol.row]) (by simp only [go_sem, Nat.lt_succ_self]) (by simp only [go_sem]) (by simp only [go_sem, Nat.reduceBEq]) (by simp only [go_sem, Nat.reduceBEq]) (by simp only [go_sem, Nat.reduceBEq])).mono ?_
    rintro x e' h' (⟨hq, rfl, k0, k1, k2, k3, k4, k5⟩ | ⟨hq, rfl, k⟩)
    · simp only [go_sem, Nat.reduceBEq, k0, k1, k2, k3, k4, k5, TDef.row, a.hw]
    · rw [hp] at hq; cases hq
  · rintro pre c rest e h a hp ⟨q0, q1, q2, q3, ix, nx⟩
    have hne : ¬ 0 = h.nx := by omega
    simp only [go_sem, kSt_ptr, Nat.reduceBEq, Nat.reduceAdd, Nat.reduceLeDiff, s_impl_twice_L1, q0, q1, q2, ix, nx, a.dl, a.ia (row := TCol.row) (sz := 3) rfl, TDef.row, TCol.row, hne, kSl_pre (row := TCol.row) (sz := 3) a.hl (fun _ => rfl) (by decide)]
    refine (in1 pre c rest a _ _ h.nx (by simp only [go_sem, Nat.reduceBEq, q0]) (by simp only [go_sem, hne, q1]) (by simp only [go_sem, Nat.reduceBEq, q2]) (by simp only [go_sem, Nat.reduceBEq, nx]) (by simp only [go_sem, Nat.reduceBEq, ix]) (by simp only [go_sem, Nat.reduceBEq]) (by simp only [go_sem, TCol.row]) (by simp only [go_sem, Nat.lt_succ_self]) (by simp only [go_sem]) (by simp only [go_sem, Nat.reduceBEq]) (by simp only [go_sem, Nat.reduceBEq]) (by simp only [go_sem, Nat.reduceBEq])).mono ?_
    rintro x e' h' (⟨hq, rfl, k0, k1, k2, k3, k4, k5⟩ | ⟨hq, rfl, k⟩)
    · rw [hp] at hq; cases hq
    · simp only [go_sem, k]
  · rintro e h ⟨q0, q1, q2, q3, ix, nx⟩
    simp only [go_sem, Nat.reduceBEq, s_impl_twice_L1, q0, q1, q2, q3, ix, nx, TDef.row]
  · simp only [go_sem, Nat.reduceBEq, TDef.row]
  · rintro x e h (⟨hp1, rfl, j0, j1, j2, j3⟩ | ⟨hp1, rfl, j⟩)
    · simp only [go_sem, Nat.reduceBEq, Nat.reduceAdd, Nat.reduceLeDiff, j0, j1, TDef.row]
      refine (wl_all (l := v.fIndexes) (fun pre c => onceX pre c) (fun pre e h => e 1 = .ptr 0 0 ∧ h.hp 0 = some v.row ∧ e 36 = .imm (v.fIndexes.map TIndex.row) ∧ 0 < h.nx ∧ e 38 = .int .i64 pre.length ∧ e 37 = .int .i64 (v.fIndexes).length) (.exit 4) (fun e h => e 1 = .ptr 0 0 ∧ h.hp 0 = some v.row ∧ e 36 = .imm (v.fIndexes.map TIndex.row) ∧ 0 < h.nx) (fun e h => e 2 = .bool true) (by omega) ?_ ?_ ?_ (by simp) v.fIndexes [] _ _ rfl ?_).mono ?_
      · rintro pre c rest e h a hp ⟨q0, q1, q2, q3, ix, nx⟩
        have hne : ¬ 0 = h.nx := by omega
        simp only [go_sem, kSt_ptr, Nat.reduceBEq, Nat.reduceAdd, Nat.reduceLeDiff, s_impl_twice_L3, q0, q1, q2, q3, ix, nx, a.dl, a.ia (row := TIndex.row) (sz := 3) rfl, TDef.row, TIndex.row, hne, kSl_pre (row := TIndex.row) (sz := 3) a.hl (fun _ => rfl) (by decide)]
        refine (in2 pre c rest a _ _ h.nx (by simp only [go_sem, Nat.reduceBEq, q0]) (by simp only [go_sem, hne, q1]) (by simp only [go_sem, Nat.reduceBEq, q2]) (by simp only [go_sem, Nat.reduceBEq, nx]) (by simp only [go_sem, Nat.reduceBEq, ix]) (by simp only [go_sem, Nat.reduceBEq]) (by simp only [go_sem, TIndex.row]) (by simp only [go_sem, Nat.lt_succ_self]) (by simp only [go_sem]) (by simp only [go_sem, Nat.reduceBEq]) (by simp only [go_sem, Nat.reduceBEq]) (by simp only [go_sem, Nat.reduceBEq])).mono ?_
        rintro x e' h' (⟨hq, rfl, k0, k1, k2, k3, k4, k5⟩ | ⟨hq, rfl, k⟩)
        · simp only [go_sem, Nat.reduceBEq, k0, k1, k2, k3, k4, k5, TDef.row, a.hw]
        · rw [hp] at hq; cases hq
      · rintro pre c rest e h a hp ⟨q0, q1, q2, q3, ix, nx⟩
        have hne : ¬ 0 = h.nx := by omega
        simp only [go_sem, kSt_ptr, Nat.reduceBEq, Nat.reduceAdd, Nat.reduceLeDiff, s_impl_twice_L3, q0, q1, q2, ix, nx, a.dl, a.ia (row := TIndex.row) (sz := 3) rfl, TDef.row, TIndex.row, hne, kSl_pre (row := TIndex.row) (sz := 3) a.hl (fun _ => rfl) (by decide)]
        refine (in2 pre c rest a _ _ h.nx (by simp only [go_sem, Nat.reduceBEq, q0]) (by simp only [go_sem, hne, q1]) (by simp only [go_sem, Nat.reduceBEq, q2]) (by simp only [go_sem, Nat.reduceBEq, nx]) (by simp only [go_sem, Nat.reduceBEq, ix]) (by simp only [go_sem, Nat.reduceBEq]) (by simp only [go_sem, TIndex.row]) (by simp only [go_sem, Nat.lt_succ_self]) (by simp only [go_sem]) (by simp only [go_sem, Nat.reduceBEq]) (by simp only [go_sem, Nat.reduceBEq]) (by simp only [go_sem, Nat.reduceBEq])).mono ?_
        rintro x e' h' (⟨hq, rfl, k0, k1, k2, k3, k4, k5⟩ | ⟨hq, rfl, k⟩)
        · rw [hp] at hq; cases hq
        · simp only [go_sem, k]
      · rintro e h ⟨q0, q1, q2, q3, ix, nx⟩
        simp only [go_sem, Nat.reduceBEq, s_impl_twice_L3, q0, q1, q2, q3, ix, nx, TDef.row]
      · simp only [go_sem, Nat.reduceBEq, j0, j1, j3, TDef.row]
      · rintro x e h (⟨hp2, rfl, j0, j1, j2, j3⟩ | ⟨hp2, rfl, j⟩)
        · simp only [go_sem, defOnce, hp1, hp2]
        · simp only [go_sem, j, defOnce, hp1, hp2]
    · simp only [go_sem, j, defOnce, hp1]
noncomputable def C_impl_CheckDef := c1 tDef (fun (v : TDef) => tDef.cost v ≤ 1048576) ((.int .i64)) fun (v : TDef) => checkDef v
theorem C_impl_CheckDef_eq (v : TDef) (h : tDef.cost v ≤ 1048576) : C_impl_CheckDef [.agg [.str v.fName, .imm (v.fCols.map TCol.row), .imm (v.fPrimary.map TBy.row), .imm (v.fIndexes.map TIndex.row)]] = some (.int .i64 ((checkDef v))) := c1_eq tDef h
theorem ok_impl_CheckDef {WI : World → Prop} (hs : Stable WI) (cs) (hT : TOK (EE cs) WI) (h1 : (EE cs).T 65 = some C_impl_namesOk) (h2 : (EE cs).T 28 = some C_impl_in) (h3 : (EE cs).T 66 = some C_impl_twice) (h4 : (EE cs).T 67 = some C_impl_partsOk) : PureOK Tryz.prog WI 43 C_impl_CheckDef := by
  refine pure1 (E := EE cs) hT hs (by rw [st_impl_CheckDef]; rfl) fun v hp => out_wp (n := 0) (st_impl_CheckDef cs) ?_
  obtain ⟨n1, n2, n3, n4, n5, n6⟩ := defLens hp
  have hv := hp
  have c1 : C_impl_namesOk [.agg [.str v.fName, .imm (v.fCols.map TCol.row), .imm (v.fPrimary.map TBy.row), .imm (v.fIndexes.map TIndex.row)]] = some (.bool (defNames v)) := C_impl_namesOk_eq v hp
  have c3 : C_impl_twice [.agg [.str v.fName, .imm (v.fCols.map TCol.row), .imm (v.fPrimary.map TBy.row), .imm (v.fIndexes.map TIndex.row)]] = some (.bool (!defOnce v)) := C_impl_twice_eq v hp
  have c4 : ∀ l : List TBy, l.length ≤ 1048576 → C_impl_partsOk [.agg [.str v.fName, .imm (v.fCols.map TCol.row), .imm (v.fPrimary.map TBy.row), .imm (v.fIndexes.map TIndex.row)], .imm (l.map TBy.row)] = some (.bool (partsOK v l)) := fun l hl => C_impl_partsOk_eq v l ⟨hv, hl⟩
  cases d1 : defNames v
  · simp only [go_sem, Nat.reduceBEq, Nat.reduceAdd, Nat.reduceLeDiff, s_impl_CheckDef, TDef.row, h1, c1, d1, checkDef]
  cases d2 : inR v.fCols.length 1 6
  · have e2 : defTypes v = false := by unfold defTypes; rw [d2, Bool.and_false]
    simp only [go_sem, Nat.reduceBEq, Nat.reduceAdd, Nat.reduceLeDiff, s_impl_CheckDef, TDef.row, h1, c1, d1, h2, C_impl_in_eq, d2, checkDef, e2, Bool.true_eq_false]
  simp only [go_sem, Nat.reduceBEq, Nat.reduceAdd, Nat.reduceLeDiff, s_impl_CheckDef, TDef.row, h1, c1, d1, h2, C_impl_in_eq, d2]
  refine (wl_all (l := v.fCols) (fun pre c => inR c.fType 1 4) (fun pre e h => e 1 = .ptr 0 0 ∧ h.hp 0 = some v.row ∧ e 18 = .imm (v.fCols.map TCol.row) ∧ 0 < h.nx ∧ e 20 = .int .i64 pre.length ∧ e 19 = .int .i64 (v.fCols).length) (.exit 0) (fun e h => e 1 = .ptr 0 0 ∧ h.hp 0 = some v.row ∧ e 18 = .imm (v.fCols.map TCol.row) ∧ 0 < h.nx) (fun e h => e 2 = .int .i64 2) (by omega) ?_ ?_ ?_ (by simp) v.fCols [] _ _ rfl ?_).mono ?_
  · rintro pre c rest e h a hp ⟨q0, q1, q2, q3, ix, nx⟩
    have hne : ¬ 0 = h.nx := by omega
    simp only [go_sem, kSt_ptr, Nat.reduceBEq, Nat.reduceAdd, Nat.reduceLeDiff, s_impl_CheckDef_L0, q0, q1, q2, q3, ix, nx, a.dl, a.ia (row := TCol.row) (sz := 3) rfl, hp, a.hw, TDef.row, TCol.row, h2, C_impl_in_eq, hne]
  · rintro pre c rest e h a hp ⟨q0, q1, q2, q3, ix, nx⟩
    have hne : ¬ 0 = h.nx := by omega
    simp only [go_sem, kSt_ptr, Nat.reduceBEq, Nat.reduceAdd, Nat.reduceLeDiff, s_impl_CheckDef_L0, q2, ix, nx, a.dl, a.ia (row := TCol.row) (sz := 3) rfl, hp, a.hw, TCol.row, h2, C_impl_in_eq]
  · rintro e h ⟨q0, q1, q2, q3, ix, nx⟩
    simp only [go_sem, Nat.reduceBEq, s_impl_CheckDef_L0, q0, q1, q2, q3, ix, nx, TDef.row]
  · simp only [go_sem, Nat.reduceBEq, TDef.row]
  · rintro x e h (⟨hp1, rfl, j0, j1, j2, j3⟩ | ⟨hp1, rfl, j⟩)
    · rw [allP_all] at hp1
      have e2 : defTypes v = true := by unfold defTypes; rw [d2, hp1]; rfl
      cases d3 : defOnce v
      · simp only [go_sem, Nat.reduceBEq, Nat.reduceAdd, Nat.reduceLeDiff, j0, j1, TDef.row, h3, c3, d3, checkDef, d1, e2, Bool.true_eq_false]
      by_cases d4 : (2 : Int) < v.fIndexes.length
      · simp only [go_sem, Nat.reduceBEq, Nat.reduceAdd, Nat.reduceLeDiff, j0, j1, TDef.row, h3, c3, d3, d4, checkDef, d1, e2, Bool.true_eq_false]
      simp only [go_sem, Nat.reduceBEq, Nat.reduceAdd, Nat.reduceLeDiff, j0, j1, TDef.row, h3, c3, d3, d4]
      refine (wl_all (l := v.fIndexes) (fun pre y => partsOK v y.fParts) (fun pre e h => e 1 = .ptr 0 0 ∧ h.hp 0 = some v.row ∧ e 36 = .imm (v.fIndexes.map TIndex.row) ∧ 0 < h.nx ∧ e 38 = .int .i64 pre.length ∧ e 37 = .int .i64 (v.fIndexes).length) (.exit 2) (fun e h => e 1 = .ptr 0 0 ∧ h.hp 0 = some v.row ∧ e 36 = .imm (v.fIndexes.map TIndex.row) ∧ 0 < h.nx) (fun e h => e 2 = .int .i64 5) (by omega) ?_ ?_ ?_ (by simp) v.fIndexes [] _ _ rfl ?_).mono ?_
      · rintro pre y rest e h a hp ⟨q0, q1, q2, q3, ix, nx⟩
        have hne : ¬ 0 = h.nx := by omega
        simp only [go_sem, kSt_ptr, Nat.reduceBEq, Nat.reduceAdd, Nat.reduceLeDiff, s_impl_CheckDef_L1, q0, q1, q2, q3, ix, nx, a.dl, a.ia (row := TIndex.row) (sz := 3) rfl, hp, a.hw, TDef.row, TIndex.row, h4, c4 y.fParts (n6 y a.mem).2, hne]
      · rintro pre y rest e h a hp ⟨q0, q1, q2, q3, ix, nx⟩
        have hne : ¬ 0 = h.nx := by omega
        simp only [go_sem, kSt_ptr, Nat.reduceBEq, Nat.reduceAdd, Nat.reduceLeDiff, s_impl_CheckDef_L1, q0, q1, q2, ix, nx, a.dl, a.ia (row := TIndex.row) (sz := 3) rfl, hp, a.hw, TDef.row, TIndex.row, h4, c4 y.fParts (n6 y a.mem).2, hne]
      · rintro e h ⟨q0, q1, q2, q3, ix, nx⟩
        simp only [go_sem, Nat.reduceBEq, s_impl_CheckDef_L1, q0, q1, q2, q3, ix, nx, TDef.row]
      · simp only [go_sem, Nat.reduceBEq, j0, j1, j3, TDef.row]
      · rintro x e h (⟨hp2, rfl, j0, j1, j2, j3⟩ | ⟨hp2, rfl, j⟩)
        · rw [allP_all] at hp2
          cases d5 : partsOK v v.fPrimary
          · have e5 : defParts v = false := by unfold defParts; rw [d5, Bool.and_false]
            simp only [go_sem, Nat.reduceBEq, Nat.reduceAdd, Nat.reduceLeDiff, j0, j1, TDef.row, h4, c4 v.fPrimary n3, d5, checkDef, d1, e2, d3, d4, e5, Bool.true_eq_false]
          have e5 : defParts v = true := by unfold defParts; rw [d5, hp2]; rfl
          simp only [go_sem, Nat.reduceBEq, Nat.reduceAdd, Nat.reduceLeDiff, j0, j1, TDef.row, h4, c4 v.fPrimary n3, d5]
          refine (wl_all (l := v.fPrimary) (fun pre p => !(colNull v p.fCol)) (fun pre e h => e 1 = .ptr 0 0 ∧ h.hp 0 = some v.row ∧ e 54 = .imm (v.fPrimary.map TBy.row) ∧ 0 < h.nx ∧ e 56 = .int .i64 pre.length ∧ e 55 = .int .i64 (v.fPrimary).length) (.exit 4) (fun e h => e 1 = .ptr 0 0 ∧ h.hp 0 = some v.row ∧ e 54 = .imm (v.fPrimary.map TBy.row) ∧ 0 < h.nx) (fun e h => e 2 = .int .i64 4) (by omega) ?_ ?_ ?_ (by simp) v.fPrimary [] _ _ rfl ?_).mono ?_
          · rintro pre p rest e h a hp ⟨q0, q1, q2, q3, ix, nx⟩
            have hne : ¬ 0 = h.nx := by omega
            obtain ⟨z1, z2⟩ := parts_col d5 p a.mem
            obtain ⟨c, hc⟩ : ∃ c, v.fCols[p.fCol.toNat]? = some c := ⟨_, List.getElem?_eq_getElem z2⟩
            have hq : c.fNull = false := by simpa [colNull, hc] using hp
            simp only [go_sem, kSt_ptr, Nat.reduceBEq, Nat.reduceAdd, Nat.reduceLeDiff, s_impl_CheckDef_L2, q0, q1, q2, q3, ix, nx, a.dl, a.ia (row := TBy.row) (sz := 2) rfl, a.hw, TDef.row, TBy.row, TCol.row, kIa_nth (row := TCol.row) (sz := 3) z1 hc rfl, hq, hne]
          · rintro pre p rest e h a hp ⟨q0, q1, q2, q3, ix, nx⟩
            have hne : ¬ 0 = h.nx := by omega
            obtain ⟨z1, z2⟩ := parts_col d5 p a.mem
            obtain ⟨c, hc⟩ : ∃ c, v.fCols[p.fCol.toNat]? = some c := ⟨_, List.getElem?_eq_getElem z2⟩
            have hq : c.fNull = true := by simpa [colNull, hc] using hp
            simp only [go_sem, kSt_ptr, Nat.reduceBEq, Nat.reduceAdd, Nat.reduceLeDiff, s_impl_CheckDef_L2, q0, q1, q2, ix, nx, a.dl, a.ia (row := TBy.row) (sz := 2) rfl, a.hw, TDef.row, TBy.row, TCol.row, kIa_nth (row := TCol.row) (sz := 3) z1 hc rfl, hq, hne]
          · rintro e h ⟨q0, q1, q2, q3, ix, nx⟩
            simp only [go_sem, Nat.reduceBEq, s_impl_CheckDef_L2, q0, q1, q2, q3, ix, nx, TDef.row]
          · simp only [go_sem, Nat.reduceBEq, j0, j1, j3, TDef.row]
          · rintro x e h (⟨hp3, rfl, j0, j1, j2, j3⟩ | ⟨hp3, rfl, j⟩)
            · rw [allP_all] at hp3
              simp only [go_sem, checkDef, primNull, d1, e2, d3, d4, e5, hp3, Bool.true_eq_false]
            · rw [allP_all] at hp3
              simp only [go_sem, j, checkDef, primNull, d1, e2, d3, d4, e5, hp3, Bool.true_eq_false]
        · rw [allP_all] at hp2
          have e5 : defParts v = false := by unfold defParts; rw [hp2, Bool.false_and]
          simp only [go_sem, j, checkDef, d1, e2, d3, d4, e5, Bool.true_eq_false]
    · rw [allP_all] at hp1
      have e2 : defTypes v = false := by unfold defTypes; rw [hp1, Bool.false_and]
      simp only [go_sem, j, checkDef, d1, e2, Bool.true_eq_false]
end Go.Proofs.YtfjkmpmjohojpaaGreatDoor.Ij
namespace Go.Proofs.YtfjkmpmjohojpaaGreatDoor.Ij
open Go Go.RowKit Go.Ev
set_option linter.unusedSimpArgs false
set_option linter.unusedVariables false
set_option maxHeartbeats 1600000
noncomputable def C_impl_FirstBad := c1 (sliceT tDef) (fun (s : List (TDef)) => (sliceT tDef).cost s ≤ 1048576) ((.int .i64)) fun (s : List (TDef)) => firstBad s
theorem C_impl_FirstBad_eq (s : List (TDef)) (h : (sliceT tDef).cost s ≤ 1048576) : C_impl_FirstBad [.imm (s.map TDef.row)] = some (.int .i64 ((firstBad s))) := c1_eq (sliceT tDef) h
theorem ok_impl_FirstBad {WI : World → Prop} (hs : Stable WI) (cs) (hT : TOK (EE cs) WI) (h1 : (EE cs).T 43 = some C_impl_CheckDef) : PureOK Tryz.prog WI 53 C_impl_FirstBad := by
  refine pure1 (E := EE cs) hT hs (by rw [st_impl_FirstBad]; rfl) fun s hp => out_wp (n := 0) (st_impl_FirstBad cs) ?_
  obtain ⟨n1, n2⟩ := defsLens hp
  have inner : ∀ pre c rest, At s pre c rest → ∀ e h b, e 0 = .imm (s.map TDef.row) → e 7 = .imm (s.map TDef.row) → e 8 = .int .i64 s.length → e 9 = .int .i64 pre.length → e 3 = .int .i64 pre.length → e 4 = .ptr b 0 → h.hp b = some c.row → b < h.nx → e 24 = .imm (pre.map TDef.row) → e 25 = .int .i64 pre.length → e 26 = .int .i64 0 → WL (EE cs) s_impl_FirstBad_L0 e h fun x e' h' => (pre.all (fun y => !(y.fName == c.fName)) = true ∧ x = .exit 2 ∧ e' 0 = .imm (s.map TDef.row) ∧ e' 7 = .imm (s.map TDef.row) ∧ e' 8 = .int .i64 s.length ∧ e' 9 = .int .i64 pre.length) ∨ (pre.all (fun y => !(y.fName == c.fName)) = false ∧ x = .ret ∧ e' 2 = .int .i64 pre.length) := by
    intro pre0 c rest0 a0 e h b k0 k1 k2 k3 k4 k5 k6 k7 k8 k9 k10
    have hlt0 := a0.lt
    refine (wl_all (l := pre0) (fun pre y => !(y.fName == c.fName)) (fun pre e h => e 0 = .imm (s.map TDef.row) ∧ e 7 = .imm (s.map TDef.row) ∧ e 8 = .int .i64 s.length ∧ e 9 = .int .i64 pre0.length ∧ e 3 = .int .i64 pre0.length ∧ e 4 = .ptr b 0 ∧ h.hp b = some c.row ∧ b < h.nx ∧ e 24 = .imm (pre0.map TDef.row) ∧ e 26 = .int .i64 pre.length ∧ e 25 = .int .i64 (pre0).length) (.exit 2) (fun e h => e 0 = .imm (s.map TDef.row) ∧ e 7 = .imm (s.map TDef.row) ∧ e 8 = .int .i64 s.length ∧ e 9 = .int .i64 pre0.length) (fun e h => e 2 = .int .i64 pre0.length) (by omega) ?_ ?_ ?_ (by simp) pre0 [] _ _ rfl ?_).mono ?_
    · rintro pre y rest e h a hp ⟨q0, q1, q2, q3, q4, q5, q6, q7, q8, ix, nx⟩
      have hne2 : ¬ b = h.nx := by omega
      have hq : (y.fName == c.fName) = false := by simpa using hp
      have hb1 : b < h.nx + 1 := by omega
      simp only [go_sem, kSt_ptr, Nat.reduceBEq, Nat.reduceAdd, s_impl_FirstBad_L0, q0, q1, q2, q3, q4, q5, q6, q7, q8, ix, nx, a.dl, a.ia (row := TDef.row) (sz := 4) rfl, a.hw, TDef.row, hq, hne2, hb1]
    · rintro pre y rest e h a hp ⟨q0, q1, q2, q3, q4, q5, q6, q7, q8, ix, nx⟩
      have hne2 : ¬ b = h.nx := by omega
      have hq : (y.fName == c.fName) = true := by simpa using hp
      simp only [go_sem, kSt_ptr, Nat.reduceBEq, Nat.reduceAdd, s_impl_FirstBad_L0, q4, q5, q6, q8, ix, nx, a.dl, a.ia (row := TDef.row) (sz := 4) rfl, a.hw, TDef.row, hq, hne2]
    · rintro e h ⟨q0, q1, q2, q3, q4, q5, q6, q7, q8, ix, nx⟩
      simp only [go_sem, Nat.reduceBEq, s_impl_FirstBad_L0, q0, q1, q2, q3, q8, ix, nx]
    · simp only [go_sem, k0, k1, k2, k3, k4, k5, k6, k7, k8, k9, k10]
    · rintro x e' h' (⟨hp, rfl, j⟩ | ⟨hp, rfl, j⟩)
      · rw [allP_all] at hp
        exact .inl ⟨hp, rfl, j⟩
      · rw [allP_all] at hp
        exact .inr ⟨hp, rfl, j⟩
  simp only [go_sem, Nat.reduceBEq, s_impl_FirstBad]
  refine (wl_early (l := s) (fun pre d => firstF pre d) (fun pre e h => e 0 = .imm (s.map TDef.row) ∧ e 7 = .imm (s.map TDef.row) ∧ e 9 = .int .i64 pre.length ∧ e 8 = .int .i64 (s).length) (.exit 0) (fun e h => e 0 = .imm (s.map TDef.row) ∧ e 7 = .imm (s.map TDef.row)) (fun b e h => e 2 = .int .i64 b) (by omega) ?_ ?_ ?_ (by simp) s [] _ _ rfl ?_).mono ?_
  · rintro pre d rest e h a hp ⟨q0, q1, ix, nx⟩
    have hc : C_impl_CheckDef [.agg [.str d.fName, .imm (d.fCols.map TCol.row), .imm (d.fPrimary.map TBy.row), .imm (d.fIndexes.map TIndex.row)]] = some (.int .i64 (checkDef d)) := C_impl_CheckDef_eq d (n2 d a.mem)
    obtain ⟨f1, f2, f3⟩ := firstF_none hp
    have f2' : decide ((3 : Int) ≤ (pre.length : Int)) = false := decide_eq_false (by omega)
    have f1' : (checkDef d != 0) = false := by simp [f1]
    all_goals simp only [go_sem, kSt_ptr, Nat.reduceBEq, Nat.reduceAdd, s_impl_FirstBad_L1, q0, q1, ix, nx, a.dl, a.ia (row := TDef.row) (sz := 4) rfl, TDef.row, h1, hc, kSl_pre (row := TDef.row) (sz := 4) a.hl (fun _ => rfl) (by decide), f1', f2']
    refine (inner pre d rest a _ _ h.nx (by simp only [go_sem, Nat.reduceBEq, q0]) (by simp only [go_sem, Nat.reduceBEq, q1]) (by simp only [go_sem, Nat.reduceBEq, nx]) (by simp only [go_sem, Nat.reduceBEq, ix]) (by simp only [go_sem, Nat.reduceBEq]) (by simp only [go_sem, Nat.reduceBEq]) (by simp only [go_sem, TDef.row]) (by simp only [go_sem, Nat.lt_succ_self]) (by simp only [go_sem, Nat.reduceBEq]) (by simp only [go_sem, Nat.reduceBEq]) (by simp only [go_sem, Nat.reduceBEq])).mono ?_
    rintro x e' h' (⟨hq, rfl, k0, k1, k2, k3⟩ | ⟨hq, rfl, k⟩)
    · simp only [go_sem, Nat.reduceBEq, k0, k1, k2, k3, a.hw]
    · rw [f3] at hq; cases hq
  · rintro pre d rest b e h a hp ⟨q0, q1, ix, nx⟩
    have hc : C_impl_CheckDef [.agg [.str d.fName, .imm (d.fCols.map TCol.row), .imm (d.fPrimary.map TBy.row), .imm (d.fIndexes.map TIndex.row)]] = some (.int .i64 (checkDef d)) := C_impl_CheckDef_eq d (n2 d a.mem)
    obtain ⟨rfl, hcase⟩ := firstF_some hp
    cases f1 : (checkDef d != 0) <;> cases f2 : decide ((3 : Int) ≤ (pre.length : Int))
    all_goals simp only [go_sem, kSt_ptr, Nat.reduceBEq, Nat.reduceAdd, s_impl_FirstBad_L1, q0, q1, ix, nx, a.dl, a.ia (row := TDef.row) (sz := 4) rfl, TDef.row, h1, hc, kSl_pre (row := TDef.row) (sz := 4) a.hl (fun _ => rfl) (by decide), f1, f2]
    refine (inner pre d rest a _ _ h.nx (by simp only [go_sem, Nat.reduceBEq, q0]) (by simp only [go_sem, Nat.reduceBEq, q1]) (by simp only [go_sem, Nat.reduceBEq, nx]) (by simp only [go_sem, Nat.reduceBEq, ix]) (by simp only [go_sem, Nat.reduceBEq]) (by simp only [go_sem, Nat.reduceBEq]) (by simp only [go_sem, TDef.row]) (by simp only [go_sem, Nat.lt_succ_self]) (by simp only [go_sem, Nat.reduceBEq]) (by simp only [go_sem, Nat.reduceBEq]) (by simp only [go_sem, Nat.reduceBEq])).mono ?_
    have hc3 := hcase f1 (by have := of_decide_eq_false f2; omega)
    rintro x e' h' (⟨hq, rfl, k0, k1⟩ | ⟨hq, rfl, k⟩)
    · rw [hc3] at hq; cases hq
    · simp only [go_sem, k]
  · rintro e h ⟨q0, q1, ix, nx⟩
    simp only [go_sem, Nat.reduceBEq, s_impl_FirstBad_L1, q0, q1, ix, nx]
  · simp only [go_sem, Nat.reduceBEq, and_self]
  · intro x e h hx
    cases he : earlyL firstF [] s with
    | none =>
      rw [he] at hx
      obtain ⟨rfl, j0⟩ := hx
      simp only [go_sem, firstBad, he, Option.getD_none]
    | some k =>
      rw [he] at hx
      obtain ⟨rfl, j⟩ := hx
      simp only [go_sem, j, firstBad, he]
noncomputable def C_impl_hasIndex := c3 (sliceT tDef) intT intT (fun (s : List (TDef)) (t : Int) (i : Int) => (sliceT tDef).cost s ≤ 1048576) (.bool) fun (s : List (TDef)) (t : Int) (i : Int) => there s t i
theorem C_impl_hasIndex_eq (s : List (TDef)) (t : Int) (i : Int) (h : (sliceT tDef).cost s ≤ 1048576) : C_impl_hasIndex [.imm (s.map TDef.row), .int .i64 t, .int .i64 i] = some (.bool ((there s t i))) := c3_eq (sliceT tDef) intT intT h
theorem ok_impl_hasIndex {WI : World → Prop} (hs : Stable WI) (cs) (hT : TOK (EE cs) WI) (h1 : (EE cs).T 53 = some C_impl_FirstBad) (h2 : (EE cs).T 28 = some C_impl_in) : PureOK Tryz.prog WI 27 C_impl_hasIndex := by
  refine pure3 (E := EE cs) hT hs (by rw [st_impl_hasIndex]; rfl) fun s t i hp => out_wp (n := 0) (st_impl_hasIndex cs) ?_
  obtain ⟨n1, n2⟩ := defsLens hp
  have c1 := C_impl_FirstBad_eq s hp
  have hw : IntKind.wrap .i64 ((s.length : Int) - 1) = (s.length : Int) - 1 := wrapId (by omega) (by omega)
  cases d1 : (firstBad s == -1)
  · simp only [go_sem, Nat.reduceBEq, s_impl_hasIndex, h1, c1, d1, there]
  cases d2 : inR t 0 ((s.length : Int) - 1)
  · simp only [go_sem, Nat.reduceBEq, s_impl_hasIndex, h1, c1, d1, h2, C_impl_in_eq, hw, d2, there]
  obtain ⟨z1, z2⟩ := inR_nat d2
  obtain ⟨d, hd⟩ : ∃ d, s[t.toNat]? = some d := ⟨_, List.getElem?_eq_getElem z2⟩
  have n3 := (defLens (n2 d (List.mem_of_getElem? hd))).2.2.2.1
  have hw2 : IntKind.wrap .i64 ((d.fIndexes.length : Int) - 1) = (d.fIndexes.length : Int) - 1 := wrapId (by omega) (by omega)
  simp only [go_sem, Nat.reduceBEq, s_impl_hasIndex, h1, c1, d1, h2, C_impl_in_eq, hw, d2, kIa_nth (row := TDef.row) (sz := 4) z1 hd rfl, TDef.row, hw2, there, hd]
noncomputable def C_impl_partsOf := c2 tDef (sliceT tBy) (fun (v : TDef) (l : List (TBy)) => partsOK v l = true) (fun x => .app 4 (x.map TPart.row)) fun (v : TDef) (l : List (TBy)) => partsOf v l
theorem C_impl_partsOf_eq (v : TDef) (l : List (TBy)) (h : partsOK v l = true) : C_impl_partsOf [.agg [.str v.fName, .imm (v.fCols.map TCol.row), .imm (v.fPrimary.map TBy.row), .imm (v.fIndexes.map TIndex.row)], .imm (l.map TBy.row)] = some (.app 4 ((partsOf v l).map TPart.row)) := c2_eq tDef (sliceT tBy) h
theorem ok_impl_partsOf {WI : World → Prop} (hs : Stable WI) (cs) (hT : TOK (EE cs) WI) : FreshOK Tryz.prog WI 68 C_impl_partsOf := by
  refine pure2F (E := EE cs) hT hs (by rw [st_impl_partsOf]; rfl) fun v l hp => outF_wp (sz := 4) (st_impl_partsOf cs) ?_
  have hl := hp
  have hl2 := parts_len hl
  simp only [go_sem, Nat.reduceBEq, s_impl_partsOf, TDef.row]
  refine (wl_for (l := l) (fun pre e h => e 2 = .ptr 0 0 ∧ h.hp 0 = some v.row ∧ 0 < h.nx ∧ e 9 = .imm (l.map TBy.row) ∧ grows tPart (partsOf v pre) (e 5) h ∧ e 11 = .int .i64 pre.length ∧ e 10 = .int .i64 (l).length) (.exit 0) (fun e h => grows tPart (partsOf v l) (e 5) h) (by omega) ?_ ?_ (by simp) l [] _ _ rfl ?_).mono ?_
  · rintro pre p rest e h a ⟨q0, q1, q2, q3, q4, ix, nx⟩
    obtain ⟨z1, c, hc⟩ := cols_get hl a.mem
    have hpo : partOf v p.fCol p.fDesc = ⟨p.fCol, c.fType, c.fNull, p.fDesc⟩ := by unfold partOf; rw [hc]
    have hsn : partsOf v (pre ++ [p]) = partsOf v pre ++ [(⟨p.fCol, c.fType, c.fNull, p.fDesc⟩ : TPart)] := by simp [partsOf, hpo]
    have hne : ¬ 0 = h.nx := by omega
    have hne3 : ¬ 0 = h.nx + 1 := by omega
    have f1 : fillR (List.replicate 1 [.int .i64 0, .int .i64 0, .bool false, .bool false]) 4 [(0, .agg [.int .i64 p.fCol, .int .i64 c.fType, .bool c.fNull, .bool p.fDesc])] = some [[.int .i64 p.fCol, .int .i64 c.fType, .bool c.fNull, .bool p.fDesc]] := rfl
    have f2 : frzRows [[.int .i64 p.fCol, .int .i64 c.fType, .bool c.fNull, .bool p.fDesc]] = some [[.int .i64 p.fCol, .int .i64 c.fType, .bool c.fNull, .bool p.fDesc]] := rfl
    simp only [go_sem, kSt_ptr, Nat.reduceBEq, Nat.reduceAdd, Nat.reduceLeDiff, s_impl_partsOf_L0, q0, q1, q2, q3, ix, nx, a.dl, a.ia (row := TBy.row) (sz := 2) rfl, TDef.row, TBy.row, TCol.row, kIa_nth (row := TCol.row) (sz := 3) z1 hc rfl, hne, partFill, f1, f2]
    refine hP_grow [(⟨p.fCol, c.fType, c.fNull, p.fDesc⟩ : TPart)] rfl (q4.mono (by simp; omega) (fun r hr => by simp; omega)) rfl (by rw [partsOf_len]; have := a.lt; simp only [List.length_cons, List.length_nil]; unfold room; omega) ?_
    intro v' h' g1 g2 g3 _
    have g3' : 0 < h'.nx := by simp at g3; omega
    simp only [go_sem, Nat.reduceBEq, q0, q3, ix, nx, g2, hne, hne3, q1, g3', TDef.row, a.hw, hsn, g1]
  · rintro e h ⟨q0, q1, q2, q3, q4, ix, nx⟩
    simp only [go_sem, Nat.reduceBEq, s_impl_partsOf_L0, q3, q4, ix, nx]
  · exact ⟨rfl, rfl, Nat.succ_pos _, rfl, .inl ⟨rfl, rfl⟩, rfl, rfl⟩
  · rintro x e h ⟨rfl, j⟩
    simp only [go_sem, Nat.reduceBEq]
    exact frR_grows j rfl
noncomputable def C_impl_PrimaryPlan := c1 tDef (fun (v : TDef) => tDef.cost v ≤ 1048576) (fun x => .imm (x.map TPart.row)) fun (v : TDef) => primPlan v
theorem C_impl_PrimaryPlan_eq (v : TDef) (h : tDef.cost v ≤ 1048576) : C_impl_PrimaryPlan [.agg [.str v.fName, .imm (v.fCols.map TCol.row), .imm (v.fPrimary.map TBy.row), .imm (v.fIndexes.map TIndex.row)]] = some (.imm (((primPlan v)).map TPart.row)) := c1_eq tDef h
theorem ok_impl_PrimaryPlan {WI : World → Prop} (hs : Stable WI) (cs) (hT : TOK (EE cs) WI) (h1 : (EE cs).T 43 = some C_impl_CheckDef) (h2 : (EE cs).T 68 = some C_impl_partsOf) : PureOK Tryz.prog WI 44 C_impl_PrimaryPlan := by
  refine pure1 (E := EE cs) hT hs (by rw [st_impl_PrimaryPlan]; rfl) fun v hp => out_wp (n := 0) (st_impl_PrimaryPlan cs) ?_
  have fr_h2 : (EE cs).fr 68 = true := rfl
  have c1 : C_impl_CheckDef [.agg [.str v.fName, .imm (v.fCols.map TCol.row), .imm (v.fPrimary.map TBy.row), .imm (v.fIndexes.map TIndex.row)]] = some (.int .i64 (checkDef v)) := C_impl_CheckDef_eq v hp
  by_cases d : checkDef v = 0
  · have c2 : C_impl_partsOf [.agg [.str v.fName, .imm (v.fCols.map TCol.row), .imm (v.fPrimary.map TBy.row), .imm (v.fIndexes.map TIndex.row)], .imm (v.fPrimary.map TBy.row)] = some (.app 4 ((partsOf v v.fPrimary).map TPart.row)) := C_impl_partsOf_eq v v.fPrimary (check_parts d).1
    simp only [go_sem, Nat.reduceBEq, Nat.reduceAdd, Nat.reduceLeDiff, s_impl_PrimaryPlan, TDef.row, h1, c1, h2, c2, fr_h2, primPlan, d]
  · simp only [go_sem, Nat.reduceBEq, Nat.reduceAdd, Nat.reduceLeDiff, s_impl_PrimaryPlan, TDef.row, h1, c1, bneT d, primPlan, d]
noncomputable def C_impl_IndexPlan := c2 tDef intT (fun (v : TDef) (i : Int) => tDef.cost v ≤ 1048576) (fun x => .imm (x.map TPart.row)) fun (v : TDef) (i : Int) => idxPlan v i
theorem C_impl_IndexPlan_eq (v : TDef) (i : Int) (h : tDef.cost v ≤ 1048576) : C_impl_IndexPlan [.agg [.str v.fName, .imm (v.fCols.map TCol.row), .imm (v.fPrimary.map TBy.row), .imm (v.fIndexes.map TIndex.row)], .int .i64 i] = some (.imm (((idxPlan v i)).map TPart.row)) := c2_eq tDef intT h
theorem ok_impl_IndexPlan {WI : World → Prop} (hs : Stable WI) (cs) (hT : TOK (EE cs) WI) (h1 : (EE cs).T 43 = some C_impl_CheckDef) (h3 : (EE cs).T 28 = some C_impl_in) (h2 : (EE cs).T 68 = some C_impl_partsOf) : PureOK Tryz.prog WI 45 C_impl_IndexPlan := by
  refine pure2 (E := EE cs) hT hs (by rw [st_impl_IndexPlan]; rfl) fun v i hp => out_wp (n := 0) (st_impl_IndexPlan cs) ?_
  have fr_h2 : (EE cs).fr 68 = true := rfl
  have c1 : C_impl_CheckDef [.agg [.str v.fName, .imm (v.fCols.map TCol.row), .imm (v.fPrimary.map TBy.row), .imm (v.fIndexes.map TIndex.row)]] = some (.int .i64 (checkDef v)) := C_impl_CheckDef_eq v hp
  have n3 := (defLens hp).2.2.2.1
  have hw : IntKind.wrap .i64 ((v.fIndexes.length : Int) - 1) = (v.fIndexes.length : Int) - 1 := wrapId (by omega) (by omega)
  by_cases d : checkDef v = 0
  · cases d2 : inR i 0 ((v.fIndexes.length : Int) - 1)
    · simp only [go_sem, Nat.reduceBEq, Nat.reduceAdd, Nat.reduceLeDiff, s_impl_IndexPlan, TDef.row, h1, c1, h3, C_impl_in_eq, hw, d2, idxPlan, d]
    · obtain ⟨z1, z2⟩ := inR_nat d2
      obtain ⟨x, hx⟩ : ∃ x, v.fIndexes[i.toNat]? = some x := ⟨_, List.getElem?_eq_getElem z2⟩
      have hxp := (check_parts d).2 x (List.mem_of_getElem? hx)
      have c2 : ∀ l, partsOK v l = true → C_impl_partsOf [.agg [.str v.fName, .imm (v.fCols.map TCol.row), .imm (v.fPrimary.map TBy.row), .imm (v.fIndexes.map TIndex.row)], .imm (l.map TBy.row)] = some (.app 4 ((partsOf v l).map TPart.row)) := fun l hl => C_impl_partsOf_eq v l hl
      have ap := fun id id' H hH => plan_app (id := id) (id' := id') (H := H) hxp (check_parts d).1 hH
      simp only [go_sem, Nat.reduceBEq, Nat.reduceAdd, Nat.reduceLeDiff, s_impl_IndexPlan, TDef.row, h1, c1, h3, C_impl_in_eq, hw, d2, kIa_nth (row := TIndex.row) (sz := 3) z1 hx rfl, TIndex.row, h2, c2 x.fParts hxp, c2 v.fPrimary (check_parts d).1, fr_h2, ap, idxPlan, d, hx]
  · simp only [go_sem, Nat.reduceBEq, Nat.reduceAdd, Nat.reduceLeDiff, s_impl_IndexPlan, TDef.row, h1, c1, bneT d, idxPlan, d]
end Go.Proofs.YtfjkmpmjohojpaaGreatDoor.Ij
