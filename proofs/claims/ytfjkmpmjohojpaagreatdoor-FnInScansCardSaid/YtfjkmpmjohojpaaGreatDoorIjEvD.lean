/- Marks, bytes, draws; contracts of the library: no condition on the input. -/
import Derived.Test.YtfjkmpmjohojpaaGreatDoorIjEvC
import Derived.Lib.Split
import Derived.Lib.SplitLaws
import Derived.Lib.AtoiAllCases
import Derived.Lib.Strings
import Derived.Lib.AtoiErrMem
set_option linter.unusedVariables false
set_option linter.unusedSimpArgs false
set_option linter.unnecessarySimpa false
namespace Go.Ev
open Go Go.RowKit
set_option linter.unusedSimpArgs false
set_option linter.unusedVariables false
/-- Cells that lie in blocks of the call's own, each once, numbered from 'lo' on and below 'hi'. -/
structure OwA (n lo hi : Nat) (h : Hp) (cs ts : List AV) : Prop where
  lh : lo ≤ hi
  le : hi ≤ h.nx
  ex : ∃ R, dfzL (dfz n h) cs = some (ts, R) ∧ R.Nodup ∧ ∀ q ∈ R, lo ≤ q ∧ q < hi
section
variable {n lo hi : Nat} {h h' : Hp} {cs ts : List AV}
theorem OwA.nil (n lo : Nat) {h : Hp} (hl : lo ≤ h.nx) : OwA n lo lo h [] [] := ⟨Nat.le_refl _, hl, [], rfl, List.nodup_nil, fun q hq => (by cases hq)⟩
theorem OwA.leaf {c : AV} (o : OwA n lo hi h cs ts) (hc : leafV c = true) : OwA n lo hi h (c :: cs) (c :: ts) := by
  obtain ⟨R, h1, h2, h3⟩ := o.ex
  exact ⟨o.lh, o.le, R, by simpa using dfzL_cons (dfz_of_leaf (n := n) (h := h) hc) h1, h2, h3⟩
theorem OwA.mono (o : OwA n lo hi h cs ts) (hn : h.nx ≤ h'.nx) (hp : ∀ q, lo ≤ q → q < hi → h'.hp q = h.hp q) : OwA n lo hi h' cs ts := by
  obtain ⟨R, k1, k2, k3⟩ := o.ex
  exact ⟨o.lh, Nat.le_trans o.le hn, R, dfzL_frame (S := R) (fun hd hs => dfz_frame (S := R) (fun q hq => hp q (k3 q hq).1 (k3 q hq).2) n hd hs) k1 fun _ hq => hq, k2, k3⟩
theorem OwA.up {m : Nat} (o : OwA n lo hi h cs ts) (hm : n ≤ m) : OwA m lo hi h cs ts := by
  obtain ⟨R, k1, k2, k3⟩ := o.ex
  exact ⟨o.lh, o.le, R, Ev.dfzL_up (fun hd => dfz_up hm hd) k1, k2, k3⟩
theorem OwA.pre {cs' ts' : List AV} (o : OwA n lo hi h (cs ++ cs') (ts ++ ts')) (hl : ts.length = cs.length) : OwA n lo hi h cs ts := by
  obtain ⟨R, k1, k2, k3⟩ := o.ex
  obtain ⟨ts1, R1, ts2, R2, d1, d2, d3, rfl⟩ := dfzL_inv k1
  obtain ⟨rfl, rfl⟩ := List.append_inj d3 (by rw [dfzL_spec d1, hl])
  exact ⟨o.lh, o.le, R1, d1, (List.nodup_append.1 k2).1, fun q hq => k3 q (List.mem_append.2 (.inl hq))⟩
theorem OwA.len (o : OwA n lo hi h cs ts) : ts.length = cs.length := by
  obtain ⟨R, k1, _, _⟩ := o.ex
  exact dfzL_spec k1
theorem OwA.toI (o : OwA n lo hi h cs ts) : OwI n lo hi h (.agg cs) (.agg ts) := by
  obtain ⟨R, k1, k2, k3⟩ := o.ex
  exact ⟨⟨R, dfzT_agg k1, k2, k3⟩, o.le⟩
theorem OwA.owE (o : OwA n lo hi h cs ts) (hn : n ≤ 8) : OwE h (.agg cs) (.agg ts) := o.toI.owE hn
theorem dfz_cell {x t : AV} {R : List Nat} (hd : dfz n h x = some (t, R)) : notCell x = false := by
  cases x <;> first
    | rfl
    | (cases n <;> simp [dfz, leafF] at hd)
theorem dfzL_cells : ∀ {cs ts : List AV} {R : List Nat}, dfzL (dfz n h) cs = some (ts, R) → cs.any notCell = false
  | [], _, _, _ => rfl
  | c :: cs, ts, R, hd => by
    simp only [dfzL, Option.bind_eq_some_iff, Option.map_eq_some_iff] at hd
    obtain ⟨⟨p1, p2⟩, h1, ⟨q1, q2⟩, h2, _⟩ := hd
    simp only [List.any_cons, dfz_cell h1, dfzL_cells h2, Bool.or_self]
theorem OwA.cells (o : OwA n lo hi h cs ts) : cs.any notCell = false := by
  obtain ⟨R, k1, _, _⟩ := o.ex
  exact dfzL_cells k1
/-- A slice in a cell. -/
theorem OwI.slice {x : AV} {rows : List (List AV)} (o : OwI n lo hi h x (.imm rows)) (hl : lo ≤ hi) : OwA n lo hi h [x] [.imm rows] ∧ x.cells = [x] ∧ notCell x = false := by
  obtain ⟨R, h1, h2, h3⟩ := o.ex
  have hd := dfzT_cell_inv h1
  refine ⟨⟨hl, o.le, R, by simpa using dfzL_cons hd (f := dfz n h) (cs := []) (ts := []) (R2 := []) rfl, h2, h3⟩, ?_, dfz_cell hd⟩
  have := dfz_cell hd
  cases x <;> first
    | rfl
    | simp [notCell] at this
theorem OwI.agg {x : AV} {row : List AV} (o : OwI n lo hi h x (.agg row)) (hl : lo ≤ hi) : ∃ cs, x = .agg cs ∧ cs.length = row.length ∧ OwA n lo hi h cs row := by
  obtain ⟨R, h1, h2, h3⟩ := o.ex
  obtain ⟨cs, rfl, hd⟩ := dfzT_agg_inv h1
  exact ⟨cs, rfl, (dfzL_spec hd).symm, hl, o.le, R, hd, h2, h3⟩
end
section
variable {α : Type} {T : TD α} {n lo hi : Nat} {h h' : Hp}
theorem OwI.cells {x : AV} {v : α} (o : OwI n lo hi h x (T.enc v)) (hl : lo ≤ hi) : OwA n lo hi h x.cells (T.row v) ∧ x.cells.length = T.sz ∧ x.cells.any notCell = false := by
  cases h1 : T.one
  · rw [T.encA h1] at o
    obtain ⟨cs, rfl, h2, h3⟩ := o.agg hl
    exact ⟨h3, by show cs.length = _; rw [h2, T.len], h3.cells⟩
  · obtain ⟨hs, hr⟩ := T.enc1 h1
    have hcell : notCell (T.enc v) = false := (T.frz v _ (by rw [hr]; exact List.mem_singleton.2 rfl)).2
    obtain ⟨R, k1, k2, k3⟩ := o.ex
    have hd : dfz n h x = some (T.enc v, R) := by
      unfold dfzT at k1
      split at k1
      · simp only [Option.map_eq_some_iff, Prod.mk.injEq] at k1
        obtain ⟨p, _, e, _⟩ := k1
        rw [← e] at hcell
        cases hcell
      · exact k1
    have hnc := dfz_cell hd
    have hx : x.cells = [x] := by
      cases x <;> first
        | rfl
        | simp [notCell] at hnc
    rw [hx, hr, hs]
    exact ⟨⟨hl, o.le, R, by simpa using dfzL_cons hd (f := dfz n h) (cs := []) (ts := []) (R2 := []) rfl, k2, k3⟩, rfl, by simp [hnc]⟩
theorem splice_mid {cs1 old cs2 xs : List AV} (ho : old.length = xs.length) : splice (cs1 ++ (old ++ cs2)) cs1.length xs = cs1 ++ (xs ++ cs2) := by
  simp only [splice]
  rw [List.take_left', ← List.drop_drop, List.drop_left' rfl, ← ho, List.drop_left' rfl, List.append_assoc]
  rfl
theorem kSt_cells {m r off : Nat} {x : AV} {cs1 old cs2 : List AV} (hh : h.hp r = some (cs1 ++ (old ++ cs2))) (ho : off = cs1.length) (hx : x.cells.length = m) (hol : old.length = m) (hnc : x.cells.any notCell = false) :
    kSt m (.ptr r off) x h = some (.tup [], h.set r (cs1 ++ (x.cells ++ cs2))) := by
  subst ho
  rw [kSt_ptr, hh, Option.bind_some, if_pos ⟨hx.symm, by simp only [List.length_append]; omega, by rw [hnc]; rfl⟩, splice_mid (by rw [hol, hx])]
/-- A block of rows that lie in blocks of the call's own. -/
theorem OwA.block {r : Nat} {cs : List AV} {l : List α} (hr : h.hp r = some cs) (hrl : r < lo) (hl : cs.length = l.length * T.sz) (o : OwA n lo hi h cs (l.map T.row).flatten) : OwI (n + 1) r hi h (.sl r 0 l.length T.sz) (.imm (l.map T.row)) := by
  obtain ⟨R, h1, h2, h3⟩ := o.ex
  have h4 := o.lh
  refine ⟨⟨r :: R, dfzT_cell (dfz_block hr hl h1), List.nodup_cons.2 ⟨fun hm => by have := (h3 r hm).1; omega, h2⟩, fun q hq => ?_⟩, o.le⟩
  rcases List.mem_cons.1 hq with rfl | hq
  · omega
  · have := h3 q hq; omega
end
/-- What such an append to a literal without elements gives. -/
def SE (rows : List (List AV)) (c : AV) : Prop := frzCell c = some (.imm rows) ∧ notCell c = false
theorem cell1 {c : AV} (h : notCell c = false) : c.cells = [c] := by
  cases c <;> first
    | rfl
    | cases h
theorem grows.cell {α : Type} {T : TD α} {l : List α} {v : AV} {h : Hp} (g : grows T l v h) : SE (l.map T.row) v := by
  rcases g with ⟨rfl, rfl⟩ | ⟨id, rfl, _, _⟩ <;> exact ⟨rfl, rfl⟩
section
variable {α : Type} {T : TD α} {E : Env} {WI : World → Prop} {f g : FuncId}
end
section
variable {α : Type} {T : TD α} {n lo hi : Nat} {l : List α} {x y : AV} {h h' : Hp}
end
end Go.Ev
namespace Go.Ev
open Go Go.RowKit
set_option linter.unusedSimpArgs false
set_option linter.unusedVariables false
set_option maxHeartbeats 1600000
def kMm (f : Int → Int → Int) (x y : AV) (h : Hp) : Option (AV × Hp) := match x, y with
  | .int k a, .int k' b => if k = k' then some (.int k (f a b), h) else none
  | _, _ => none
theorem sX_max2 (E : Env) (c : CallH) (ρ : Opd → AV) (x y : Opd) (h : Hp) : sX E c ρ (.max [x, y]) h = kMm (fun a b => if a < b then b else a) (ρ x) (ρ y) h := by
  simp only [sX, List.map_cons, List.map_nil]
  cases ρ x <;> cases ρ y <;> first
    | rfl
    | (simp only [evMinMax, kMm]; split <;> rfl)
theorem sX_min2 (E : Env) (c : CallH) (ρ : Opd → AV) (x y : Opd) (h : Hp) : sX E c ρ (.min [x, y]) h = kMm (fun a b => if b < a then b else a) (ρ x) (ρ y) h := by
  simp only [sX, List.map_cons, List.map_nil]
  cases ρ x <;> cases ρ y <;> first
    | rfl
    | (simp only [evMinMax, kMm]; split <;> rfl)
theorem kMm_int (f : Int → Int → Int) (a b : Int) (h : Hp) : kMm f (.int .i64 a) (.int .i64 b) h = some (.int .i64 (f a b), h) := rfl
attribute [go_sem] sX_max2 sX_min2 kMm_int
theorem Hp.Down.refl (h : Hp) : h.Down h := ⟨Nat.le_refl _, fun _ _ _ e => e⟩
theorem Hp.Down.trans {h k m : Hp} (a : h.Down k) (b : k.Down m) : h.Down m := ⟨Nat.le_trans a.1 b.1, fun r cs hr e => a.2 r cs hr (b.2 r cs (Nat.lt_of_lt_of_le hr a.1) e)⟩
theorem d2 : decide (((2 : Nat) : Int) < 2) = false := rfl
theorem OwS.notStr {α : Type} {T : TD α} {n lo hi : Nat} {l : List α} {x : AV} {h : Hp} (o : OwS n T lo hi l x h) : Ev.notStr x = true := by
  rcases o.ex with ⟨rfl, _⟩ | ⟨r, cs, R, rfl, _⟩ <;> rfl
end Go.Ev
namespace Go.Ev
open Go Go.RowKit
variable {P : Program} {WI : World → Prop} {f : FuncId}
theorem pure_split {t : TypeId} (he : Enters P f) (h : ∀ (s sep : ByteArray) (w : World), WI w → s.size < 4294967281 → 1 ≤ sep.size → Calls P f #[.string s, .string sep] w fun e w' =>
      e = .returned (.slice (some ⟨w.heap.size, 0, none⟩) (Lib.countB s sep + 1) (Lib.countB s sep + 1)) ∧ w' = w.alloc (.cells ((Lib.splitB sep 0 (Lib.countB s sep) s).map Value.string).toArray t)) :
    PureOK P WI f (c2 strT strT (fun s sep => s.length < 4294967281 ∧ 1 ≤ sep.length) (fun l => .imm (l.map strT.row)) fun s sep => Lib.split s sep) := by
  refine ⟨he, fun w C vs ts t' hwi hsz hargs ht => ?_⟩
  obtain ⟨⟨s, sep⟩, ⟨hp1, hp2⟩, rfl, rfl⟩ := ct_inv ht
  obtain ⟨v, z, rfl, hv, hz⟩ := args2 hsz hargs
  obtain ⟨b, rfl, rfl⟩ := RV.str_inv (s := s) hv
  obtain ⟨d, rfl, rfl⟩ := RV.str_inv (s := sep) hz
  simp only at hp1 hp2
  have hb : b.size = b.data.toList.length := by rw [ByteArray.size, Array.length_toList]
  have hd : d.size = d.data.toList.length := by rw [ByteArray.size, Array.length_toList]
  refine (h b d w hwi (by omega) (by omega)).mono ?_
  rintro e w' ⟨rfl, rfl⟩
  have hlen : (Lib.splitB d 0 (Lib.countB b d) b).length = Lib.countB b d + 1 := Lib.splitB_all d (by omega) 0 _ b rfl
  have hdat : (Lib.splitB d 0 (Lib.countB b d) b).map (·.data.toList) = Lib.split b.data.toList d.data.toList := by
    rw [Lib.splitB_data]
    rfl
  refine ⟨_, rfl, ⟨rfl, rfl, rfl, ?_, fun k hk => ?_⟩, .ri ?_⟩
  · show w.heap.size ≤ (w.heap.push _).size
    simp
  · show (w.heap.push _)[k]? = w.heap[k]?
    rw [Array.getElem?_push_lt hk]
    simp [hk]
  · show RI _ _ _ (.imm ((Lib.split b.data.toList d.data.toList).map strT.row))
    rw [← hdat]
    generalize hl : Lib.splitB d 0 (Lib.countB b d) b = l at hlen
    refine .sl w.heap.size 0 _ _ 1 _ (fun i _ => .string (l.getD i ByteArray.empty)) (by simp [hlen]) (Nat.le_refl _) (fun row hr => ?_) (fun i j hi hj => ⟨.inr (Nat.le_refl _), ?_⟩) (fun i j row c hi hj => ?_)
    · simp only [List.map_map, List.mem_map] at hr
      obtain ⟨x, _, rfl⟩ := hr
      rfl
    · have hj0 : j = 0 := by omega
      subst hj0
      have hil : i < l.length := by omega
      unfold World.cell?
      have hh : (w.alloc (.cells (l.map Value.string).toArray t)).heap[w.heap.size]? = some (.cells (l.map Value.string).toArray t) := by
        show (w.heap.push _)[w.heap.size]? = _
        simp
      simp only [Nat.zero_add, Nat.mul_one, Nat.add_zero, hh]
      simp [hil, List.getD]
    · simp only [List.getElem?_map, Option.map_eq_some_iff] at hi
      obtain ⟨x, ⟨y, h1, rfl⟩, rfl⟩ := hi
      have hj0 : j = 0 := by
        have := (List.getElem?_eq_some_iff.1 hj).1
        simp [strT_row] at this
        omega
      subst hj0
      simp only [strT_row, List.getElem?_cons_zero, Option.some.injEq] at hj
      subst hj
      simp only [List.getD, h1, Option.getD_some]
      exact .str y
end Go.Ev
namespace Go.Ev
open Go Go.RowKit
variable {P : Program} {WI : World → Prop} {f : FuncId}
end Go.Ev
namespace Go.Ev
open Go Go.RowKit
set_option linter.unusedSimpArgs false
set_option linter.unusedVariables false
section
variable {h : Hp}
theorem kBin_and (k : IntKind) (a b : Int) : kBin .and (.int k a) (.int k b) h = some (.int k (k.wrap ((BitVec.ofInt k.bits a &&& BitVec.ofInt k.bits b).toNat : Nat)), h) := by simp [kBin, sBin, evInt]
theorem kBin_xor (k : IntKind) (a b : Int) : kBin .xor (.int k a) (.int k b) h = some (.int k (k.wrap ((BitVec.ofInt k.bits a ^^^ BitVec.ofInt k.bits b).toNat : Nat)), h) := by simp [kBin, sBin, evInt]
theorem kBin_shr (k k' : IntKind) (a b : Int) (hb : ¬ b < 0) : kBin .shr (.int k a) (.int k' b) h = some (.int k (a.fdiv (2 ^ (min b.toNat k.bits))), h) := by simp [kBin, sBin, evShift, hb]
end
def low255 (a : Int) : Int := IntKind.wrap .i64 ((BitVec.ofInt 64 a &&& BitVec.ofInt 64 255).toNat : Nat)
theorem kAnd255 (a : Int) (h : Hp) : kBin .and (.int .i64 a) (.int .i64 255) h = some (.int .i64 (low255 a), h) := kBin_and _ _ _
theorem low255_rng (a : Int) : 0 ≤ low255 a ∧ low255 a ≤ 255 := by
  have hle : (BitVec.ofInt 64 a &&& BitVec.ofInt 64 255).toNat ≤ 255 := by
    rw [BitVec.toNat_and]
    exact Nat.le_trans Nat.and_le_right (by decide)
  unfold low255
  rw [wrapId (by omega) (by omega)]
  omega
theorem kAnd64 (a b : Int) (h : Hp) : kBin .and (.int .i64 a) (.int .i64 b) h = some (.int .i64 (IntKind.wrap .i64 ((BitVec.ofInt 64 a &&& BitVec.ofInt 64 b).toNat : Nat)), h) := kBin_and _ _ _
def shrI (n : Nat) (a : Int) : Int := a.fdiv (2 ^ (min n 64))
def xorI (a b : Int) : Int := IntKind.wrap .i64 ((BitVec.ofInt 64 a ^^^ BitVec.ofInt 64 b).toNat : Nat)
theorem kXor64 (a b : Int) (h : Hp) : kBin .xor (.int .i64 a) (.int .i64 b) h = some (.int .i64 (xorI a b), h) := kBin_xor _ _ _
theorem kShr33 (a : Int) (h : Hp) : kBin .shr (.int .i64 a) (.int .u64 33) h = some (.int .i64 (shrI 33 a), h) := kBin_shr _ _ _ _ (by decide)
theorem kShr47 (a : Int) (h : Hp) : kBin .shr (.int .i64 a) (.int .u64 47) h = some (.int .i64 (shrI 47 a), h) := kBin_shr _ _ _ _ (by decide)
/-- A cursor over the code. -/
def Cur (code : List UInt8) (r : Nat) (h : Hp) : Prop := r < h.nx ∧ ∃ i x : Int, h.hp r = some [.imm (code.map u8T.row), .int .i64 i, .int .i64 x] ∧ 0 ≤ i ∧ i ≤ code.length
/-- What a draw leaves. -/
structure CurS (code : List UInt8) (r : Nat) (h h' : Hp) : Prop where
  cur : Cur code r h'
  hp : ∀ q, q < h.nx → q ≠ r → h'.hp q = h.hp q
  ap : ∀ q, q < h.nx → h'.ap q = h.ap q
  nx : h.nx ≤ h'.nx
theorem CurS.trans {code : List UInt8} {r : Nat} {h h1 h2 : Hp} (a : CurS code r h h1) (b : CurS code r h1 h2) : CurS code r h h2 :=
  ⟨b.cur, fun q hq hr => (b.hp q (Nat.lt_of_lt_of_le hq a.nx) hr).trans (a.hp q hq hr), fun q hq => (b.ap q (Nat.lt_of_lt_of_le hq a.nx)).trans (a.ap q hq), Nat.le_trans a.nx b.nx⟩
/-- A function that draws. -/
def DrawV (E : Env) (g : FuncId) (args : List AV) (P : AV → Hp → Prop) : Prop := ∀ (code : List UInt8) (r : Nat) (h : Hp), code.length ≤ 1048576 → Cur code r h → ∃ v h', RunF E g (.ptr r 0 :: args) h (v, h') ∧ P v h' ∧ CurS code r h h'
theorem Cur.isCu {code : List UInt8} {r : Nat} {h : Hp} (c : Cur code r h) : Ev.isCu (h.hp r) = true := by
  obtain ⟨_, i, x, h2, _⟩ := c
  rw [h2]
  rfl
theorem CurS.cu {code : List UInt8} {r : Nat} {h h' : Hp} (c : Cur code r h) (s : CurS code r h h') : h.Cu h' :=
  ⟨s.nx, fun q hq => ⟨fun hn => s.hp q hq fun e => (by rw [e, c.isCu] at hn; cases hn), fun ht => by
    by_cases e : q = r
    · rw [e]; exact s.cur.isCu
    · rw [s.hp q hq e]; exact ht⟩⟩
/-- At such a call. -/
theorem hP_draw {E : Env} {g : FuncId} {args : List AV} {P : AV → Hp → Prop} {code : List UInt8} {r : Nat} {h : Hp} {d : Option Nat} {os : List SOper} {e : Ps} {Q : QS} (hd : DrawV E g args P) (hc : code.length ≤ 1048576) (hcur : Cur code r h)
    (hw : ∀ v h', P v h' → CurS code r h h' → hP (kThen (some (upd? e d v, h')) E (lim E) os) Q) : hP (kThen (kOper d (some true) (cuO h (lim E g (.ptr r 0 :: args) h)) e h) E (lim E) os) Q := by
  obtain ⟨v, h', h1, h2, h3⟩ := hd code r h hc hcur
  exact hP_callC h1 (h3.cu hcur) (hw v h' h2 h3)
/-- A function that draws, and hands out what it made: told of the memory at its start too. -/
def DrawR (E : Env) (g : FuncId) (args : List AV) (P : Hp → AV → Hp → Prop) : Prop := ∀ (code : List UInt8) (r : Nat) (h : Hp), code.length ≤ 1048576 → Cur code r h → ∃ v h', RunF E g (.ptr r 0 :: args) h (v, h') ∧ P h v h' ∧ CurS code r h h'
theorem CurS.low {code : List UInt8} {r : Nat} {h h' : Hp} (c : Cur code r h) (s : CurS code r h h') : CurS code r h (h'.lower h.nx) := by
  have hp : ∀ q, q < h.nx → (h'.lower h.nx).hp q = h'.hp q := fun q hq => if_pos hq
  refine ⟨?_, fun q hq hr => (hp q hq).trans (s.hp q hq hr), s.ap, s.nx⟩
  obtain ⟨h1, i, x, h2, h3⟩ := s.cur
  exact ⟨h1, i, x, (hp r c.1).trans h2, h3⟩
theorem hP_drawR {E : Env} {g : FuncId} {args : List AV} {P : Hp → AV → Hp → Prop} {code : List UInt8} {r : Nat} {h : Hp} {d : Option Nat} {os : List SOper} {e : Ps} {Q : QS} (hd : DrawR E g args P) (hc : code.length ≤ 1048576) (hcur : Cur code r h)
    (hw : ∀ v h', P h v h' → CurS code r h h' → hP (kThen (some (upd? e d v, h')) E (lim E) os) Q) : hP (kThen (kOper d (some true) (cuO h (lim E g (.ptr r 0 :: args) h)) e h) E (lim E) os) Q := by
  obtain ⟨v, h', h1, h2, h3⟩ := hd code r h hc hcur
  exact hP_callC h1 (h3.cu hcur) (hw v h' h2 h3)
/-- At such a call whose answer is looked at alone from now on. -/
theorem hP_drawZ {E : Env} {g : FuncId} {args : List AV} {P : Hp → AV → Hp → Prop} {R : AV → Prop} {code : List UInt8} {r : Nat} {h : Hp} {d : Option Nat} {os : List SOper} {e : Ps} {Q : QS} (hd : DrawR E g args P) (hf : ∀ v h', P h v h' → ∃ t, frzE 8 (h'.upper h.nx) v = some t ∧ R t) (hc : code.length ≤ 1048576) (hcur : Cur code r h)
    (hw : ∀ t h', R t → CurS code r h h' → hP (kThen (some (upd? e d t, h')) E (lim E) os) Q) : hP (kThen (kOper d (some true) (cuO h (zfz h (lim E g (.ptr r 0 :: args) h))) e h) E (lim E) os) Q := by
  obtain ⟨v, h', h1, h2, h3⟩ := hd code r h hc hcur
  obtain ⟨t, k1, k2⟩ := hf v h' h2
  have h4 := CurS.low hcur h3
  exact hP_callCZ h1 k1 (h4.cu hcur) (hw t _ k2 h4)
theorem drawR_of {E : Env} {g : FuncId} {f : SFn} {args : List AV} {P : Hp → AV → Hp → Prop} (hf : stF E g = some f)
    (hw : ∀ (code : List UInt8) (r : Nat) (h : Hp), code.length ≤ 1048576 → Cur code r h → wp E f.body (fun i => (AV.ptr r 0 :: args).getD i (.tup [])) h fun x e' h' => (∀ i, x ≠ .exit i) ∧ ∃ v, (sRes e' h' f.res).map evResult = some v ∧ P h v h' ∧ CurS code r h h') : DrawR E g args P := by
  intro code r h hc hcur
  obtain ⟨⟨v, h'⟩, h1, h2⟩ := run_wp (R := fun q => P h q.1 q.2 ∧ CurS code r h q.2) hf (hw code r h hc hcur)
  exact ⟨v, h', h1, h2⟩
/-- A number with what is known of it. -/
def NumP (p : Int → Prop) : AV → Hp → Prop := fun v _ => ∃ x, v = .int .i64 x ∧ p x
def StrP (p : List UInt8 → Prop) : AV → Hp → Prop := fun v _ => ∃ s, v = .str s ∧ p s
theorem Cur.same {code : List UInt8} {r : Nat} {h h' : Hp} (c : Cur code r h) (hn : h.nx ≤ h'.nx) (hp : h'.hp r = h.hp r) : Cur code r h' := by
  obtain ⟨h1, i, x, h2, h3⟩ := c
  exact ⟨Nat.lt_of_lt_of_le h1 hn, i, x, by rw [hp, h2], h3⟩
/-- Out of a function's body. -/
theorem draw_of {E : Env} {g : FuncId} {f : SFn} {args : List AV} {P : AV → Hp → Prop} (hf : stF E g = some f)
    (hw : ∀ (code : List UInt8) (r : Nat) (h : Hp), code.length ≤ 1048576 → Cur code r h → wp E f.body (fun i => (AV.ptr r 0 :: args).getD i (.tup [])) h fun x e' h' => (∀ i, x ≠ .exit i) ∧ ∃ v, (sRes e' h' f.res).map evResult = some v ∧ P v h' ∧ CurS code r h h') : DrawV E g args P := by
  intro code r h hc hcur
  obtain ⟨⟨v, h'⟩, h1, h2⟩ := run_wp (R := fun q => P q.1 q.2 ∧ CurS code r h q.2) hf (hw code r h hc hcur)
  exact ⟨v, h', h1, h2⟩
theorem cur_refl {code : List UInt8} {r : Nat} {h : Hp} (c : Cur code r h) : CurS code r h h := ⟨c, fun _ _ _ => rfl, fun _ _ => rfl, Nat.le_refl _⟩
/-- A heap with more than another one, but for the cursor's own block. -/
theorem CurS.more {code : List UInt8} {r : Nat} {h h1 h2 : Hp} (a : CurS code r h h1) (hn : h1.nx ≤ h2.nx) (hp : ∀ q, q < h1.nx → h2.hp q = h1.hp q) (ha : ∀ q, q < h1.nx → h2.ap q = h1.ap q) : CurS code r h h2 :=
  ⟨a.cur.same hn (hp r a.cur.1), fun q hq hr => (hp q (Nat.lt_of_lt_of_le hq a.nx)).trans (a.hp q hq hr), fun q hq => (ha q (Nat.lt_of_lt_of_le hq a.nx)).trans (a.ap q hq), Nat.le_trans a.nx hn⟩
theorem CurS.pre {code : List UInt8} {r : Nat} {h h1 h2 : Hp} (a : CurS code r h1 h2) (hn : h.nx ≤ h1.nx) (hp : ∀ q, q < h.nx → q ≠ r → h1.hp q = h.hp q) (ha : ∀ q, q < h.nx → h1.ap q = h.ap q) : CurS code r h h2 :=
  ⟨a.cur, fun q hq hr => (a.hp q (Nat.lt_of_lt_of_le hq hn) hr).trans (hp q hq hr), fun q hq => (a.ap q (Nat.lt_of_lt_of_le hq hn)).trans (ha q hq), Nat.le_trans hn a.nx⟩
/-- A block of the call's own that is written. -/
theorem CurS.put {code : List UInt8} {r b : Nat} {h h1 h2 : Hp} (a : CurS code r h h1) (hb : h.nx ≤ b) (hbr : b ≠ r) (hn : h1.nx ≤ h2.nx) (hp : ∀ q, q ≠ b → q < h1.nx → h2.hp q = h1.hp q) (ha : ∀ q, q < h1.nx → h2.ap q = h1.ap q) : CurS code r h h2 :=
  ⟨a.cur.same hn (hp r (Ne.symm hbr) a.cur.1), fun q hq hr => (hp q (by omega) (Nat.lt_of_lt_of_le hq a.nx)).trans (a.hp q hq hr), fun q hq => (ha q (Nat.lt_of_lt_of_le hq a.nx)).trans (a.ap q hq), Nat.le_trans a.nx hn⟩
theorem CurS.put2 {code : List UInt8} {r b b' : Nat} {h h1 h2 : Hp} (a : CurS code r h h1) (hb : h.nx ≤ b) (hbr : b ≠ r) (hb' : h.nx ≤ b') (hbr' : b' ≠ r) (hn : h1.nx ≤ h2.nx) (hp : ∀ q, q ≠ b → q ≠ b' → q < h1.nx → h2.hp q = h1.hp q) (ha : ∀ q, q < h1.nx → h2.ap q = h1.ap q) : CurS code r h h2 :=
  ⟨a.cur.same hn (hp r (Ne.symm hbr) (Ne.symm hbr') a.cur.1), fun q hq hr => (hp q (by omega) (by omega) (Nat.lt_of_lt_of_le hq a.nx)).trans (a.hp q hq hr), fun q hq => (ha q (Nat.lt_of_lt_of_le hq a.nx)).trans (a.ap q hq), Nat.le_trans a.nx hn⟩
/-- At a call that is walked into, by what it leaves. -/
theorem hP_run {E : Env} {g : FuncId} {as : List AV} {P : AV → Hp → Prop} {h : Hp} {d : Option Nat} {os : List SOper} {e : Ps} {Q : QS} (hr : ∀ h, ∃ v h', RunF E g as h (v, h') ∧ P v h') (hw : ∀ v h', P v h' → hP (kThen (some (upd? e d v, h')) E (lim E) os) Q) :
    hP (kThen (kOper d (some true) (lim E g as h) e h) E (lim E) os) Q := by
  obtain ⟨v, h', h1, h2⟩ := hr h
  exact hP_call h1 (hw v h' h2)
end Go.Ev
