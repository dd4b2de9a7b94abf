/- Types as trees; functions that measure, copy and compare; loops; contracts of the library: no condition on the input. -/
import Derived.Test.YtienjjjhjeigmaaGreatDoorIsEvB
import Derived.Attr
import Derived.Lib.ItoaNum
import Derived.Lib.Join
import Derived.Lib.Bytealg
import Derived.Sort.Grow
import Derived.Deep.Draws
import Derived.Lib.LaidTab
import Derived.Lib.Split
import Derived.Lib.SplitLaws
/- The stepping laws as one set of rewriting rules. -/
namespace Go.Ev
open Go Go.RowKit
theorem frzCell_bool (b : Bool) : frzCell (.bool b) = some (.bool b) := rfl
theorem frz_bool (b : Bool) : Ev.frz (.bool b) = some (.bool b) := rfl
theorem frzCell_int (k : IntKind) (n : Int) : frzCell (.int k n) = some (.int k n) := rfl
theorem frz_int (k : IntKind) (n : Int) : Ev.frz (.int k n) = some (.int k n) := rfl
theorem frzCell_str (s : List UInt8) : frzCell (.str s) = some (.str s) := rfl
theorem frz_str (s : List UInt8) : Ev.frz (.str s) = some (.str s) := rfl
theorem frzCell_snil  : frzCell .snil = some (.imm []) := rfl
theorem frz_snil  : Ev.frz .snil = some (.imm []) := rfl
theorem frzCell_imm (r : List (List AV)) : frzCell (.imm r) = some (.imm r) := rfl
theorem frz_imm (r : List (List AV)) : Ev.frz (.imm r) = some (.imm r) := rfl
theorem frzCell_app (i : Nat) (r : List (List AV)) : frzCell (.app i r) = some (.imm r) := rfl
theorem frz_app (i : Nat) (r : List (List AV)) : Ev.frz (.app i r) = some (.imm r) := rfl
theorem frzCell_inil  : frzCell .inil = some (.inil) := rfl
theorem frz_inil  : Ev.frz .inil = some (.inil) := rfl
theorem frzCell_pnil  : frzCell .pnil = some (.pnil) := rfl
theorem frz_pnil  : Ev.frz .pnil = some (.pnil) := rfl
theorem frz_agg (cs : List AV) : Ev.frz (.agg cs) = (frzCells cs).map .agg := rfl
theorem notCell_bool (b : Bool) : notCell (.bool b) = false := rfl
theorem cells_bool (b : Bool) : AV.cells (.bool b) = [(.bool b)] := rfl
theorem notCell_int (k : IntKind) (n : Int) : notCell (.int k n) = false := rfl
theorem cells_int (k : IntKind) (n : Int) : AV.cells (.int k n) = [(.int k n)] := rfl
theorem notCell_str (s : List UInt8) : notCell (.str s) = false := rfl
theorem cells_str (s : List UInt8) : AV.cells (.str s) = [(.str s)] := rfl
theorem notCell_snil  : notCell .snil = false := rfl
theorem cells_snil  : AV.cells .snil = [.snil] := rfl
theorem notCell_imm (r : List (List AV)) : notCell (.imm r) = false := rfl
theorem cells_imm (r : List (List AV)) : AV.cells (.imm r) = [(.imm r)] := rfl
theorem notCell_app (i : Nat) (r : List (List AV)) : notCell (.app i r) = false := rfl
theorem cells_app (i : Nat) (r : List (List AV)) : AV.cells (.app i r) = [(.app i r)] := rfl
theorem notCell_inil  : notCell .inil = false := rfl
theorem cells_inil  : AV.cells .inil = [.inil] := rfl
theorem notCell_pnil  : notCell .pnil = false := rfl
theorem cells_pnil  : AV.cells .pnil = [.pnil] := rfl
theorem notCell_sl (r o l s : Nat) : notCell (.sl r o l s) = false := rfl
theorem cells_sl (r o l s : Nat) : AV.cells (.sl r o l s) = [(.sl r o l s)] := rfl
theorem notCell_ptr (r o : Nat) : notCell (.ptr r o) = false := rfl
theorem cells_ptr (r o : Nat) : AV.cells (.ptr r o) = [(.ptr r o)] := rfl
theorem cells_agg (cs : List AV) : AV.cells (.agg cs) = cs := rfl
theorem thaw_bool (q : Bool) (b : Bool) (h : Hp) : thaw q (.bool b) h = (.bool b, h) := by cases q <;> rfl
theorem thaw_int (q : Bool) (k : IntKind) (n : Int) (h : Hp) : thaw q (.int k n) h = (.int k n, h) := by cases q <;> rfl
theorem thaw_str (q : Bool) (s : List UInt8) (h : Hp) : thaw q (.str s) h = (.str s, h) := by cases q <;> rfl
theorem thaw_snil (q : Bool)  (h : Hp) : thaw q (.snil ) h = (.snil , h) := by cases q <;> rfl
theorem thaw_imm (q : Bool) (r : List (List AV)) (h : Hp) : thaw q (.imm r) h = (.imm r, h) := by cases q <;> rfl
theorem thaw_inil (q : Bool)  (h : Hp) : thaw q (.inil ) h = (.inil , h) := by cases q <;> rfl
theorem thaw_pnil (q : Bool)  (h : Hp) : thaw q (.pnil ) h = (.pnil , h) := by cases q <;> rfl
theorem thaw_agg (q : Bool) (cs : List AV) (h : Hp) : thaw q (.agg cs) h = (.agg cs, h) := by cases q <;> rfl
theorem thaw_tup (q : Bool) (vs : List AV) (h : Hp) : thaw q (.tup vs) h = (.tup vs, h) := by cases q <;> rfl
theorem thaw_app (sz : Nat) (r : List (List AV)) (h : Hp) : thaw true (.app sz r) h = (.app h.nx r, h.newApp r.length sz) := rfl
attribute [go_sem] thaw_bool thaw_int thaw_str thaw_snil thaw_imm thaw_inil thaw_pnil thaw_agg thaw_tup thaw_app
attribute [go_sem] frzCell_bool frz_bool frzCell_int frz_int frzCell_str frz_str frzCell_snil frz_snil frzCell_imm frz_imm frzCell_app frz_app frzCell_inil frz_inil frzCell_pnil frz_pnil frz_agg notCell_bool cells_bool notCell_int cells_int notCell_str cells_str notCell_snil cells_snil notCell_imm cells_imm notCell_app cells_app notCell_inil cells_inil notCell_pnil cells_pnil notCell_sl cells_sl notCell_ptr cells_ptr cells_agg
attribute [go_sem]   hO_some outOf_exit outOf_ret outOf_norm thn_norm thn_ret thn_exit QO_ret QO_norm sRes_nil sRes_t sRes_ld sRes_ldA kAtP_ptr evResult_one evResult_two frzE_int frzE_bool frzE_str frzE_imm frzE_app frzE_snil frzE_agg frzE_tup frzT_int 
  frzT_bool frzT_str frzT_imm frzT_app frzT_snil frzT_agg frzD_int frzD_bool frzD_str frzD_imm frzD_app frzD_snil mapO_nil mapO_cons sC_rg sC_seq sC_cond sC_blk sC_ret sC_skip sC_exit sC_loop kC_some kSeq_norm kSeq_exit kSeq_ret kCond_t 
  kCond_f sBlk_norm sBlk_ret sBlk_exit sOps_nil sOps_go sOps_gd kThen_some kOper_go kGd_t kGd_f kWant_tt kWant_tf kWant_ft kWant_ff kWant_undef ev_t ev_c upd?_some upd?_none upd_look cond_true cond_false sX_mv sX_pick kPick_bool sX_alloc 
  sX_box kBox_agg kBox_int kBox_str kBox_bool kBox_imm kBox_snil kBox_app kBox_sl sX_build sX_ld sX_ldA kAt_ptr kAt_cptr kHead_cons kTake_some sX_fa kFa_ptr kFa_cptr sX_st sX_bin kBin_add kBin_sub kBin_mul kBin_eql kBin_neq kBin_lss kBin_leq 
  kBin_gtr kBin_geq kBin_seq kBin_sne kBin_slt sX_un kUn_not kUn_neg sX_cvI kCvI_int sX_lenS kLenS_str sX_lenL kLenL_snil kLenL_imm kLenL_app kLenL_sl sX_ia sX_ix sX_ext kExt_tup sX_fl kFl_agg sX_flA kFlA_agg sX_mkS sX_app sX_bslice sX_sliS 
  sX_sliL sX_cvS sX_cvB kCvB_str sX_nilc sX_binB sBinB_eql sBinB_neq sX_binI sX_binF sX_callP sX_callW Hp.new Hp.set Hp.newApp Hp.setApp Hp.kill Hp.empty Bool.false_eq_true Nat.zero_add Nat.add_zero Nat.le_refl Nat.zero_le if_true if_false 
  ite_true ite_false Option.bind_some Option.map_some List.drop_zero List.drop_succ_cons List.drop_nil List.take_zero List.take_succ_cons List.take_nil List.length_map List.length_cons List.length_nil List.map_cons List.map_nil frzAll  
  frzCells  List.getD_cons_zero List.getD_cons_succ List.getElem?_cons_zero List.getElem?_cons_succ Option.getD_some decide_true decide_false beq_self_eq_true bne_self_eq_false ge_iff_le gt_iff_lt Bool.not_true Bool.not_false 
  Bool.true_and Bool.false_and Bool.and_true Bool.and_false eq_self_iff_true true_and and_true Int.toNat_natCast   List.any_cons List.any_nil Bool.or_self Bool.or_false splice List.cons_append List.nil_append List.append_nil
end Go.Ev
/- Contracts of the library's functions, in the interpreter's form. -/
namespace Go.Ev
open Go Go.RowKit
variable {P : Program} {WI : World → Prop} {f : FuncId} {w : World} {C : Nat → Nat → Prop}

theorem args1 {vs : Array Value} {t : AV} (hsz : vs.size = [t].length) (h : ∀ (i : Nat) v c, vs[i]? = some v → [t][i]? = some c → RA w C v c) : ∃ v, vs = #[v] ∧ RA w C v t := by
  obtain ⟨l⟩ := vs
  match l, hsz with
  | [v], _ => exact ⟨v, rfl, h 0 v t rfl rfl⟩
theorem args2 {vs : Array Value} {t u : AV} (hsz : vs.size = [t, u].length) (h : ∀ (i : Nat) v c, vs[i]? = some v → [t, u][i]? = some c → RA w C v c) : ∃ v z, vs = #[v, z] ∧ RA w C v t ∧ RA w C z u := by
  obtain ⟨l⟩ := vs
  match l, hsz with
  | [v, z], _ => exact ⟨v, z, rfl, h 0 v t rfl rfl, h 1 z u rfl rfl⟩
theorem bytes_eq {b : ByteArray} {s : List UInt8} (h : b.data.toList = s) : b = ⟨s.toArray⟩ := by
  cases b
  subst h
  rfl
theorem below_grow (w : World) (k : Nat) (os : Array Obj) : Below w.heap.size w (Sort.grow (w.drewN k) os) := by
  refine ⟨rfl, rfl, rfl, ?_, fun j hj => ?_⟩
  · show w.heap.size ≤ (w.heap ++ os).size
    simp
  · show (w.heap ++ os)[j]? = w.heap[j]?
    rw [Array.getElem?_append_left hj]

theorem pure_itoa (he : Enters P f) (h : ∀ (n : Int) w, -9223372036854775808 ≤ n → n ≤ 9223372036854775807 → WI w → Calls P f #[.int .i64 n] w fun e w' => e = .returned (.string ⟨(Lib.itoa n).toArray⟩) ∧ ∃ k os, w' = Sort.grow (w.drewN k) os) :
    PureOK P WI f (ct (fun a : Int => [.int .i64 a]) (fun a => -9223372036854775808 ≤ a ∧ a ≤ 9223372036854775807) .str Lib.itoa) := by
  refine ⟨he, fun w C vs ts t hwi hsz hargs ht => ?_⟩
  obtain ⟨n, hp, rfl, rfl⟩ := ct_inv ht
  obtain ⟨v, rfl, hv⟩ := args1 hsz hargs
  obtain rfl := RV.int_inv hv
  refine (h n w hp.1 hp.2 hwi).mono ?_
  rintro e w' ⟨rfl, k, os, rfl⟩
  exact ⟨_, rfl, below_grow w k os, .ri (.str _)⟩

theorem pure_has1 (he : Enters P f) (c : UInt8) (F : List UInt8 → Bool) (hF : ∀ s, decide (0 ≤ Lib.indexByte s c) = F s)
    (h : ∀ (s : ByteArray) w, Calls P f #[.string s, .string ⟨#[c]⟩] w fun e w' => e = .returned (.bool (decide (0 ≤ Lib.indexByte s.data.toList c))) ∧ w' = w) :
    PureOK P WI f (ct (fun a : List UInt8 => [.str a, .str [c]]) (fun _ => True) .bool F) := by
  refine ⟨he, fun w C vs ts t hwi hsz hargs ht => ?_⟩
  obtain ⟨s, hp, rfl, rfl⟩ := ct_inv ht
  obtain ⟨v, z, rfl, hv, hz⟩ := args2 hsz hargs
  obtain ⟨b, rfl, hb⟩ := RV.str_inv hv
  obtain ⟨d, rfl, hd⟩ := RV.str_inv hz
  have := bytes_eq hd
  subst this
  refine (h b w).mono ?_
  rintro e w' ⟨rfl, rfl⟩
  rw [hb, hF]
  exact ⟨_, rfl, Below.refl _ _, .ri (.bool _)⟩

def strR (t : List UInt8) : List AV := [.str t]
theorem cells_strs {v : Nat → Nat → Value} {l : List (List UInt8)} (h : ∀ (i j : Nat) row c, (l.map strR)[i]? = some row → row[j]? = some c → RI w C (v i j) c) :
    ∃ xs : List ByteArray, xs.map (·.data.toList) = l ∧ ∀ (i : Nat) x, xs[i]? = some x → v i 0 = .string x := by
  have each : ∀ (i : Nat) t, l[i]? = some t → v i 0 = .string ⟨t.toArray⟩ := fun i t hi => by
    obtain ⟨b, h1, h2⟩ := RI.str_inv (h i 0 (strR t) (.str t) (by rw [List.getElem?_map, hi]; rfl) rfl)
    rw [h1, bytes_eq h2]
  refine ⟨l.map fun t => ⟨t.toArray⟩, ?_, fun i x hi => ?_⟩
  · rw [List.map_map]
    exact (List.map_congr_left (g := id) fun t _ => rfl).trans (List.map_id l)
  · rw [List.getElem?_map] at hi
    obtain ⟨t, h1, rfl⟩ := Option.map_eq_some_iff.1 hi
    exact each i t h1

theorem pure_join (he : Enters P f) (sep : List UInt8)
    (h0 : ∀ (a : Option Addr) (c : Nat) (s : ByteArray) w, Calls P f #[.slice a 0 c, .string s] w fun e w' => e = .returned (.string ⟨#[]⟩) ∧ w' = w)
    (h : ∀ (bk o c : Nat) (xs : List ByteArray) (s : ByteArray) (w : World), (∀ (j : Nat) x, xs[j]? = some x → w.cell? ⟨bk, o + j, none⟩ = some (.string x)) → bk < w.heap.size → xs.length ≤ 140737488355328 → xs.length ≤ c →
      (Lib.join (xs.map (·.data.toList)) s.data.toList).length ≤ 140737488355328 →
      Calls P f #[.slice (some ⟨bk, o, none⟩) xs.length c, .string s] w fun e w' => e = .returned (.string ⟨(Lib.join (xs.map (·.data.toList)) s.data.toList).toArray⟩) ∧ Below w.heap.size w w') :
    PureOK P WI f (ct (fun a : List (List UInt8) => [.imm (a.map strR), .str sep]) (fun a => a.length ≤ 1048576 ∧ (Lib.join a sep).length ≤ 140737488355328) .str fun a => Lib.join a sep) := by
  refine ⟨he, fun w C vs ts t hwi hsz hargs ht => ?_⟩
  obtain ⟨l, hp, rfl, rfl⟩ := ct_inv ht
  obtain ⟨v, z, rfl, hv, hz⟩ := args2 hsz hargs
  obtain ⟨d, rfl, hd⟩ := RV.str_inv hz
  have hi := hv.imm_inv
  by_cases hl : l = []
  · subst hl
    cases hi with
    | slE a cap =>
      refine (h0 a cap d w).mono ?_
      rintro e w' ⟨rfl, rfl⟩
      exact ⟨_, rfl, Below.refl _ _, .ri (.str _)⟩
    | sl b off len cap sz rows vals h1 h2 h3 h4 h5 =>
      simp only [List.map_nil, List.length_nil] at h1
      subst h1
      refine (h0 _ cap d w).mono ?_
      rintro e w' ⟨rfl, rfl⟩
      exact ⟨_, rfl, Below.refl _ _, .ri (.str _)⟩
  · generalize hr : l.map strR = rows at hi
    cases hi with
    | slE a cap => exact absurd (List.map_eq_nil_iff.1 hr) hl
    | sl b off len cap sz rows vals h1 h2 h3 h4 h5 =>
      subst hr
      have hsz1 : sz = 1 := by
        obtain ⟨x, r, rfl⟩ := List.exists_cons_of_ne_nil hl
        rw [← h3 (strR x) (by simp)]
        rfl
      subst hsz1
      obtain ⟨xs, k1, k2⟩ := cells_strs h5
      have hlen : xs.length = len := by rw [← h1, ← k1]; simp
      have hpos : 0 < len := by
        rw [← h1, List.length_map]
        exact List.length_pos_iff.2 hl
      subst hlen
      rw [← hd] at hp ⊢
      rw [← k1] at hp ⊢
      have hc := fun i hi => (h4 i 0 hi (by omega)).2
      refine (h b off cap xs d w (fun j x hx => ?_) ?_ ?_ h2 hp.2).mono ?_
      · have hj := (List.getElem?_eq_some_iff.1 hx).1
        have := hc j hj
        rw [k2 j x hx] at this
        simpa using this
      · have := hc 0 hpos
        exact block_of_cell this
      · have := hp.1
        simp only [List.length_map] at this
        omega
      · rintro e w' ⟨rfl, hb⟩
        exact ⟨_, rfl, hb, .ri (.str _)⟩
theorem tab_stable {P : Program} {name : String} {k : IntKind} {zs : List Int} : Stable fun w => Lib.TabIs P w name k zs := by
  intro w w' hb h
  unfold Lib.TabIs World.var? at h ⊢
  cases hg : P.globalNamed name with
  | none => rw [hg] at h; exact h
  | some g =>
    rw [hg] at h
    simp only [Option.bind_some] at h ⊢
    rw [hb.block g ?_]
    · exact h
    · rcases Nat.lt_or_ge g w.heap.size with hlt | hge
      · exact hlt
      · rw [Array.getElem?_eq_none hge] at h
        cases h
theorem cell_stable {b : Nat} {k : IntKind} : Stable fun w => ∃ m, w.cell? ⟨b, 0, none⟩ = some (.int k m) := by
  rintro w w' hb ⟨m, h⟩
  exact ⟨m, by rw [hb.cell (p := ⟨b, 0, none⟩) (block_of_cell h)]; exact h⟩
theorem stable_and {A B : World → Prop} (ha : Stable A) (hb : Stable B) : Stable fun w => A w ∧ B w := fun w w' h ⟨h1, h2⟩ => ⟨ha w w' h h1, hb w w' h h2⟩
end Go.Ev
/- Types of plain trees with their encoding; the functions that measure, copy and compare them, whatever the type. -/
namespace Go.Ev
open Go Go.RowKit
set_option linter.unusedSimpArgs false

theorem wrapId {x : Int} (h0 : -9223372036854775808 ≤ x) (h1 : x ≤ 9223372036854775807) : IntKind.wrap .i64 x = x := by
  simp [IntKind.wrap, IntKind.bits, IntKind.signed]
  split <;> omega

/-- A type's encoding: as a row of cells, as one value; what it costs; that its texts and slices are no longer than a machine's. -/
structure TD (α : Type) where
  row : α → List AV
  enc : α → AV
  sz : Nat
  one : Bool
  cost : α → Nat
  fits : α → Prop
  ok : α → Prop
  len : ∀ v, (row v).length = sz
  pos : 0 < sz
  inj : ∀ a b, row a = row b → a = b
  enc1 : one = true → sz = 1 ∧ ∀ v, row v = [enc v]
  encA : one = false → ∀ v, enc v = .agg (row v)
  frz : ∀ v, ∀ c ∈ row v, frzCell c = some c ∧ notCell c = false
  fit : ∀ v, cost v ≤ 1048576 → fits v

theorem frzCells_id : ∀ {l : List AV}, (∀ c ∈ l, frzCell c = some c) → frzCells l = some l
  | [], _ => rfl
  | c :: l, h => by simp only [frzCells, h c List.mem_cons_self, Option.bind_some, frzCells_id fun d hd => h d (List.mem_cons_of_mem _ hd), Option.map_some]
theorem frz_one {v : AV} (h : frzCell v = some v) : frz v = some v := by
  cases v <;> first
    | exact h
    | cases h
section
variable {α β : Type} (T : TD α)
theorem TD.enc_inj {a b : α} (h : T.enc a = T.enc b) : a = b := by
  cases h1 : T.one
  · rw [T.encA h1, T.encA h1] at h
    exact T.inj a b (by injection h)
  · refine T.inj a b ?_
    rw [(T.enc1 h1).2, (T.enc1 h1).2, h]
theorem TD.frzRow (v : α) : frzCells (T.row v) = some (T.row v) := frzCells_id fun c hc => (T.frz v c hc).1
theorem TD.frzEnc (v : α) : Ev.frz (T.enc v) = some (T.enc v) := by
  cases h1 : T.one
  · rw [T.encA h1]
    simp only [Ev.frz, T.frzRow, Option.map_some]
  · exact frz_one (T.frz v _ (by rw [(T.enc1 h1).2]; simp)).1
theorem TD.notCells (v : α) : (T.row v).any notCell = false := by
  rw [List.any_eq_false]
  intro c hc
  simp [(T.frz v c hc).2]
theorem TD.cells (v : α) : (T.enc v).cells = T.row v := by
  cases h1 : T.one
  · rw [T.encA h1]
    rfl
  · have := T.frz v (T.enc v) (by rw [(T.enc1 h1).2]; simp)
    rw [(T.enc1 h1).2]
    cases he : T.enc v <;> rw [he] at this <;> first
      | rfl
      | exact absurd this.2 (by simp [notCell])
theorem TD.take (v : α) (h1 : T.one = false) (h : Hp) : kTake T.sz (some (T.row v)) h = some (T.enc v, h) := by
  rw [kTake_some, if_pos (by rw [T.len]; exact Nat.le_refl _), T.encA h1, ← T.len v, List.take_length]
theorem TD.head (v : α) (h1 : T.one = true) (h : Hp) : kHead (some (T.row v)) h = some (T.enc v, h) := by
  rw [(T.enc1 h1).2]
  rfl
theorem TD.thaw (v : α) (q : Bool) (h : Hp) : Ev.thaw q (T.enc v) h = (T.enc v, h) := by
  cases h1 : T.one
  · rw [T.encA h1, thaw_agg]
  · have := T.frz v (T.enc v) (by rw [(T.enc1 h1).2]; simp)
    cases he : T.enc v <;> rw [he] at this <;> first
      | (cases q <;> rfl)
      | exact absurd this.1 (by simp [frzCell])
/-- How an element is loaded. -/
def ldOp (one : Bool) (sz : Nat) (o : Opd) : SOp := if one then .ld o else .ldA sz o
theorem TD.map_inj {l r : List α} (h : l.map T.row = r.map T.row) : l = r := (List.map_inj_right (fun x y h => T.inj x y h)).1 h

def costL : List α → Nat
  | [] => 0
  | v :: r => T.cost v + costL r
theorem costL_mem {v : α} : ∀ {l : List α}, v ∈ l → T.cost v ≤ costL T l
  | [], h => by cases h
  | x :: l, h => by
    simp only [costL]
    rcases List.mem_cons.1 h with rfl | h
    · omega
    · have := costL_mem h; omega
def sliceT : TD (List α) where
  row l := [.imm (l.map T.row)]
  enc l := .imm (l.map T.row)
  sz := 1
  one := true
  cost l := l.length + costL T l
  fits l := l.length ≤ 9223372036854775807 ∧ ∀ v ∈ l, T.fits v
  ok l := ∀ v ∈ l, T.ok v
  len _ := rfl
  pos := by decide
  inj a b h := T.map_inj (by simpa using h)
  enc1 _ := ⟨rfl, fun _ => rfl⟩
  encA h := by cases h
  frz v c hc := by
    simp only [List.mem_cons, List.not_mem_nil, or_false] at hc
    subst hc
    exact ⟨rfl, rfl⟩
  fit v h := ⟨by omega, fun x hx => T.fit x (by have := costL_mem T hx; omega)⟩
end
def oneT {α : Type} (enc : α → AV) (inj : ∀ a b, enc a = enc b → a = b) (frz : ∀ v, frzCell (enc v) = some (enc v) ∧ notCell (enc v) = false) (ok : α → Prop) : TD α where
  row v := [enc v]
  enc := enc
  sz := 1
  one := true
  cost _ := 0
  fits _ := True
  ok := ok
  len _ := rfl
  pos := by decide
  inj a b h := inj a b (by simpa using h)
  enc1 _ := ⟨rfl, fun _ => rfl⟩
  encA h := by cases h
  frz v c hc := by
    simp only [List.mem_cons, List.not_mem_nil, or_false] at hc
    subst hc
    exact frz v
  fit _ _ := trivial
def intT : TD Int := oneT (.int .i64) (fun a b h => by simpa using h) (fun _ => ⟨rfl, rfl⟩) fun n => -9223372036854775808 ≤ n ∧ n ≤ 9223372036854775807
def boolT : TD Bool := oneT .bool (fun a b h => by simpa using h) (fun _ => ⟨rfl, rfl⟩) fun _ => True
def u8T : TD UInt8 := oneT (fun b => .int .u8 b.toNat) (fun a b h => by
  simp only [AV.int.injEq, true_and] at h
  exact UInt8.toNat_inj.1 (by omega)) (fun _ => ⟨rfl, rfl⟩) fun _ => True
def strT : TD (List UInt8) where
  row v := [.str v]
  enc v := .str v
  sz := 1
  one := true
  cost v := v.length
  fits v := v.length ≤ 9223372036854775807
  ok _ := True
  len _ := rfl
  pos := by decide
  inj a b h := by simpa using h
  enc1 _ := ⟨rfl, fun _ => rfl⟩
  encA h := by cases h
  frz v c hc := by
    simp only [List.mem_cons, List.not_mem_nil, or_false] at hc
    subst hc
    exact ⟨rfl, rfl⟩
  fit v h := by omega

theorem sliceT_enc {α : Type} (T : TD α) (l : List α) : (sliceT T).enc l = .imm (l.map T.row) := rfl
theorem sliceT_row {α : Type} (T : TD α) (l : List α) : (sliceT T).row l = [.imm (l.map T.row)] := rfl
theorem intT_enc (n : Int) : intT.enc n = .int .i64 n := rfl
theorem intT_row (n : Int) : intT.row n = [.int .i64 n] := rfl
theorem boolT_enc (b : Bool) : boolT.enc b = .bool b := rfl
theorem boolT_row (b : Bool) : boolT.row b = [.bool b] := rfl
theorem strT_enc (s : List UInt8) : strT.enc s = .str s := rfl
theorem strT_row (s : List UInt8) : strT.row s = [.str s] := rfl
theorem u8T_enc (b : UInt8) : u8T.enc b = .int .u8 b.toNat := rfl
theorem u8T_row (b : UInt8) : u8T.row b = [.int .u8 b.toNat] := rfl
/-- What a law hands its functions: of bounded cost, its numbers a machine's. -/
def TD.good {α : Type} (T : TD α) (v : α) : Prop := T.cost v ≤ 1048576 ∧ T.ok v
theorem wf_i64 {n : Int} (h : (Lit.int .i64 n).wf = true) : -9223372036854775808 ≤ n ∧ n ≤ 9223372036854775807 := by
  simp only [Lit.wf, Bool.and_eq_true, decide_eq_true_eq] at h
  exact h

/-! ### contracts -/
section
variable {α β γ δ ε : Type} (T : TD α) (U : TD β) (V : TD γ) (X : TD δ)
noncomputable def c1 (p : α → Prop) (o : ε → AV) (f : α → ε) := ct (fun a => [T.enc a]) p o f
theorem c1_eq {p : α → Prop} {o : ε → AV} {f : α → ε} {a : α} (h : p a) : c1 T p o f [T.enc a] = some (o (f a)) :=
  ct_eq (ens := fun a => [T.enc a]) (fun a b h => T.enc_inj (by simpa using h)) h
noncomputable def c2 (p : α → β → Prop) (o : ε → AV) (f : α → β → ε) := ct (fun a : α × β => [T.enc a.1, U.enc a.2]) (fun a => p a.1 a.2) o fun a => f a.1 a.2
theorem c2_eq {p : α → β → Prop} {o : ε → AV} {f : α → β → ε} {a : α} {b : β} (h : p a b) : c2 T U p o f [T.enc a, U.enc b] = some (o (f a b)) :=
  ct_eq (ens := fun a : α × β => [T.enc a.1, U.enc a.2]) (a := (a, b)) (fun a b h => by
    simp only [List.cons.injEq, and_true] at h
    exact Prod.ext (T.enc_inj h.1) (U.enc_inj h.2)) h
noncomputable def c3 (p : α → β → γ → Prop) (o : ε → AV) (f : α → β → γ → ε) := ct (fun a : α × β × γ => [T.enc a.1, U.enc a.2.1, V.enc a.2.2]) (fun a => p a.1 a.2.1 a.2.2) o fun a => f a.1 a.2.1 a.2.2
theorem c3_eq {p : α → β → γ → Prop} {o : ε → AV} {f : α → β → γ → ε} {a : α} {b : β} {c : γ} (h : p a b c) : c3 T U V p o f [T.enc a, U.enc b, V.enc c] = some (o (f a b c)) :=
  ct_eq (ens := fun a : α × β × γ => [T.enc a.1, U.enc a.2.1, V.enc a.2.2]) (a := (a, b, c)) (fun a b h => by
    simp only [List.cons.injEq, and_true] at h
    exact Prod.ext (T.enc_inj h.1) (Prod.ext (U.enc_inj h.2.1) (V.enc_inj h.2.2))) h
noncomputable def c4 (p : α → β → γ → δ → Prop) (o : ε → AV) (f : α → β → γ → δ → ε) := ct (fun a : α × β × γ × δ => [T.enc a.1, U.enc a.2.1, V.enc a.2.2.1, X.enc a.2.2.2]) (fun a => p a.1 a.2.1 a.2.2.1 a.2.2.2) o fun a => f a.1 a.2.1 a.2.2.1 a.2.2.2
theorem c4_eq {p : α → β → γ → δ → Prop} {o : ε → AV} {f : α → β → γ → δ → ε} {a : α} {b : β} {c : γ} {d : δ} (h : p a b c d) : c4 T U V X p o f [T.enc a, U.enc b, V.enc c, X.enc d] = some (o (f a b c d)) :=
  ct_eq (ens := fun a : α × β × γ × δ => [T.enc a.1, U.enc a.2.1, V.enc a.2.2.1, X.enc a.2.2.2]) (a := (a, b, c, d)) (fun a b h => by
    simp only [List.cons.injEq, and_true] at h
    exact Prod.ext (T.enc_inj h.1) (Prod.ext (U.enc_inj h.2.1) (Prod.ext (V.enc_inj h.2.2.1) (X.enc_inj h.2.2.2)))) h

section
variable {E : Env} {WI : World → Prop} {g : FuncId} {T U V X}
theorem pure1 (hT : TOK E WI) (hs : Stable WI) (hst : (stF E g).isSome = true) {p : α → Prop} {o : ε → AV} {f : α → ε} (h : ∀ a, p a → ∃ k n, out E k n g [T.enc a] = some (o (f a))) : PureOK E.P WI g (c1 T p o f) :=
  pure_out hT hs hst h
theorem pure1F (hT : TOK E WI) (hs : Stable WI) (hst : (stF E g).isSome = true) {p : α → Prop} {o : ε → AV} {f : α → ε} (h : ∀ a, p a → ∃ k sz, outF E k sz g [T.enc a] = some (o (f a))) : FreshOK E.P WI g (c1 T p o f) :=
  fresh_out hT hs hst h
theorem pure2F (hT : TOK E WI) (hs : Stable WI) (hst : (stF E g).isSome = true) {p : α → β → Prop} {o : ε → AV} {f : α → β → ε} (h : ∀ a b, p a b → ∃ k sz, outF E k sz g [T.enc a, U.enc b] = some (o (f a b))) : FreshOK E.P WI g (c2 T U p o f) :=
  fresh_out hT hs hst fun a => h a.1 a.2
theorem pure3F (hT : TOK E WI) (hs : Stable WI) (hst : (stF E g).isSome = true) {p : α → β → γ → Prop} {o : ε → AV} {f : α → β → γ → ε} (h : ∀ a b c, p a b c → ∃ k sz, outF E k sz g [T.enc a, U.enc b, V.enc c] = some (o (f a b c))) : FreshOK E.P WI g (c3 T U V p o f) :=
  fresh_out hT hs hst fun a => h a.1 a.2.1 a.2.2
theorem pure4F (hT : TOK E WI) (hs : Stable WI) (hst : (stF E g).isSome = true) {p : α → β → γ → δ → Prop} {o : ε → AV} {f : α → β → γ → δ → ε} (h : ∀ a b c d, p a b c d → ∃ k sz, outF E k sz g [T.enc a, U.enc b, V.enc c, X.enc d] = some (o (f a b c d))) : FreshOK E.P WI g (c4 T U V X p o f) :=
  fresh_out hT hs hst fun a => h a.1 a.2.1 a.2.2.1 a.2.2.2
theorem pure2 (hT : TOK E WI) (hs : Stable WI) (hst : (stF E g).isSome = true) {p : α → β → Prop} {o : ε → AV} {f : α → β → ε} (h : ∀ a b, p a b → ∃ k n, out E k n g [T.enc a, U.enc b] = some (o (f a b))) : PureOK E.P WI g (c2 T U p o f) :=
  pure_out hT hs hst fun a => h a.1 a.2
theorem pure3 (hT : TOK E WI) (hs : Stable WI) (hst : (stF E g).isSome = true) {p : α → β → γ → Prop} {o : ε → AV} {f : α → β → γ → ε} (h : ∀ a b c, p a b c → ∃ k n, out E k n g [T.enc a, U.enc b, V.enc c] = some (o (f a b c))) : PureOK E.P WI g (c3 T U V p o f) :=
  pure_out hT hs hst fun a => h a.1 a.2.1 a.2.2
theorem pure4 (hT : TOK E WI) (hs : Stable WI) (hst : (stF E g).isSome = true) {p : α → β → γ → δ → Prop} {o : ε → AV} {f : α → β → γ → δ → ε} (h : ∀ a b c d, p a b c d → ∃ k n, out E k n g [T.enc a, U.enc b, V.enc c, X.enc d] = some (o (f a b c d))) : PureOK E.P WI g (c4 T U V X p o f) :=
  pure_out hT hs hst fun a => h a.1 a.2.1 a.2.2.1 a.2.2.2
end
end

/-! ### measuring -/
def szR (c : Nat) (left : Int) : Int := if left - c < 0 then -1 else left - c
section
variable {α : Type} (T : TD α)
noncomputable def szC := c2 T intT (fun v left => T.fits v ∧ 0 ≤ left ∧ left ≤ 1048576) (.int .i64) fun v left => szR (T.cost v) left
theorem szC_eq {v : α} {left : Int} (h : T.fits v ∧ 0 ≤ left ∧ left ≤ 1048576) : szC T [T.enc v, .int .i64 left] = some (.int .i64 (szR (T.cost v) left)) := c2_eq T intT h
noncomputable def toC := c1 T (fun v => T.cost v ≤ 1048576) T.enc id
theorem toC_eq {v : α} (h : T.cost v ≤ 1048576) : toC T [T.enc v] = some (T.enc v) := c1_eq T h
noncomputable def eqC := ct (fun a => [T.enc a, T.enc a]) (fun v => T.cost v ≤ 1048576) .bool fun _ => true
theorem eqC_eq {v : α} (h : T.cost v ≤ 1048576) : eqC T [T.enc v, T.enc v] = some (.bool true) :=
  ct_eq (ens := fun a => [T.enc a, T.enc a]) (fun a b h => T.enc_inj (by simpa using h)) h
end

def szLoopC (g sz : Nat) (one : Bool) : SCode := .seq (.seq (.rg [⟨some 12, none, .mv (.t 5)⟩,
  ⟨some 13, none, .mv (.t 0)⟩,
  ⟨some 14, none, .lenL (.t 13)⟩,
  ⟨some 15, none, .bin .lss (.t 12) (.t 14)⟩]) (.cond (.t 15) (.skip) (.exit 0))) (.seq (.blk 1 (.seq (.rg [⟨some 18, none, .mv (.t 0)⟩,
  ⟨some 19, none, .mv (.t 5)⟩,
  ⟨some 20, none, .ia sz (.t 18) (.t 19)⟩,
  ⟨some 21, none, ldOp one sz (.t 20)⟩,
  ⟨some 22, none, .mv (.t 1)⟩,
  ⟨some 23, none, .callP g [.t 21, .t 22]⟩,
  ⟨some 1, none, .mv (.t 23)⟩]) (.seq (.rg [⟨some 24, none, .mv (.t 1)⟩,
  ⟨some 25, none, .bin .lss (.t 24) (.c (.int .i64 0))⟩]) (.cond (.t 25) (.seq (.rg [⟨some 4, none, .mv (.c (.int .i64 (-1)))⟩]) (.ret)) (.skip))))) (.rg [⟨some 16, none, .mv (.t 5)⟩,
  ⟨some 17, none, .bin .add (.t 16) (.c (.int .i64 1))⟩,
  ⟨some 5, none, .mv (.t 17)⟩]))
def szSF (g sz : Nat) (one : Bool) : SFn := ⟨27, .seq (.rg [⟨some 4, none, .mv (.c (.int .i64 0))⟩]) (.seq (.rg [⟨some 6, none, .mv (.t 1)⟩,
  ⟨some 7, none, .mv (.t 0)⟩,
  ⟨some 8, none, .lenL (.t 7)⟩,
  ⟨some 9, none, .bin .sub (.t 6) (.t 8)⟩,
  ⟨some 1, none, .mv (.t 9)⟩]) (.seq (.seq (.rg [⟨some 10, none, .mv (.t 1)⟩,
  ⟨some 11, none, .bin .lss (.t 10) (.c (.int .i64 0))⟩]) (.cond (.t 11) (.seq (.rg [⟨some 4, none, .mv (.c (.int .i64 (-1)))⟩]) (.ret)) (.skip))) (.seq (.seq (.rg [⟨some 5, none, .mv (.c (.int .i64 0))⟩]) (.blk 0 (.loop (szLoopC g sz one)))) (.seq (.rg [⟨some 26, none, .mv (.t 1)⟩,
  ⟨some 4, none, .mv (.t 26)⟩]) (.ret))))), [.t 4]⟩

section
variable {α : Type} {T : TD α} {E : Env} {g : FuncId}
theorem szR_neg {c : Nat} {left : Int} (h : szR c left < 0) (_h0 : 0 ≤ left) : szR c left = -1 ∧ left - c < 0 := by
  unfold szR at h ⊢
  split at h
  · exact ⟨by rw [if_pos (by assumption)], by assumption⟩
  · omega
theorem szR_pos {c : Nat} {left : Int} (h : ¬ szR c left < 0) : szR c left = left - c ∧ ¬ left - c < 0 := by
  unfold szR at h ⊢
  split at h
  · exact absurd (by decide) h
  · exact ⟨by rw [if_neg (by assumption)], by assumption⟩
theorem szLoop_ok (hT : E.T g = some (szC T)) (l : List α) (hlen : l.length ≤ 1048576) (hs : ∀ v ∈ l, T.fits v) : ∀ (rest pre : List α) (left : Int) (e : Ps) (h : Hp), l = pre ++ rest → e 0 = .imm (l.map T.row) → e 5 = .int .i64 pre.length → e 1 = .int .i64 left → 0 ≤ left → left ≤ 1048576 →
    WL E (szLoopC g T.sz T.one) e h fun x e' h' => h' = h ∧ if szR (costL T rest) left < 0 then x = .ret ∧ e' 4 = .int .i64 (-1) else x = .exit 0 ∧ e' 1 = .int .i64 (szR (costL T rest) left)
  | [], pre, left, e, h, hl, h0, h5, h1, hlo, hhi => by
    have hz : szR (costL T []) left = left := by simp [szR, costL]; omega
    have hn : ¬ left < 0 := by omega
    rw [hz]
    refine .step (.sim ?_)
    simp only [go_sem, kSt_ptr, Nat.reduceBEq, Nat.reduceAdd, Nat.reduceEqDiff, Nat.reduceLeDiff, Nat.reduceSub, reduceIte, Int.reduceBEq, Int.reduceEq, Int.reduceLT, Int.reduceLE, Int.reduceGT, Int.reduceGE, Int.reduceNe, Int.reduceBNe, szLoopC, h0, h5, h1, hn, lt_end hl]
  | v :: rest, pre, left, e, h, hl, h0, h5, h1, hlo, hhi => by
    have hv := hs v (by rw [hl]; simp)
    have hlt : pre.length < l.length := by rw [hl]; simp
    have hc := szC_eq T (v := v) (left := left) ⟨hv, hlo, hhi⟩
    have hw : IntKind.wrap .i64 ((pre.length : Int) + 1) = (pre.length : Int) + 1 := wrapId (by omega) (by omega)
    have hfz := T.frzEnc v
    have hcost : costL T (v :: rest) = T.cost v + costL T rest := rfl
    by_cases hneg : szR (T.cost v) left < 0
    · obtain ⟨hz, hz'⟩ := szR_neg hneg hlo
      have hz2 : szR (costL T (v :: rest)) left < 0 := by rw [hcost]; unfold szR; rw [if_pos (by omega)]; decide
      refine .step (.sim ?_)
      cases h1' : T.one
      · have ht := T.take v h1'
        simp only [go_sem, kSt_ptr, Nat.reduceBEq, Nat.reduceAdd, Nat.reduceEqDiff, Nat.reduceLeDiff, Nat.reduceSub, reduceIte, Int.reduceBEq, Int.reduceEq, Int.reduceLT, Int.reduceLE, Int.reduceGT, Int.reduceGE, Int.reduceNe, Int.reduceBNe, szLoopC, ldOp, h1', h0, h5, h1, hT, kIa_map (row := T.row) (sz := T.sz) hl (T.len v), lt_map hl, ht, hfz, hc, hneg, hz, hz2]
      · have ht := T.head v h1'
        simp only [go_sem, kSt_ptr, Nat.reduceBEq, Nat.reduceAdd, Nat.reduceEqDiff, Nat.reduceLeDiff, Nat.reduceSub, reduceIte, Int.reduceBEq, Int.reduceEq, Int.reduceLT, Int.reduceLE, Int.reduceGT, Int.reduceGE, Int.reduceNe, Int.reduceBNe, szLoopC, ldOp, h1', h0, h5, h1, hT, kIa_map (row := T.row) (sz := T.sz) hl (T.len v), lt_map hl, ht, hfz, hc, hneg, hz, hz2]
    · obtain ⟨hz, hz'⟩ := szR_pos hneg
      have hz2 : szR (costL T (v :: rest)) left = szR (costL T rest) (left - T.cost v) := by
        rw [hcost]; unfold szR
        by_cases hq : left - T.cost v - costL T rest < 0
        · rw [if_pos (by omega), if_pos (by omega)]
        · rw [if_neg (by omega), if_neg (by omega)]; omega
      rw [hz2]
      refine .step (.mono (.sim (Q := fun x e1 h1 => x = .norm ∧ h1 = h ∧ e1 0 = .imm (l.map T.row) ∧ e1 5 = .int .i64 ((pre.length : Int) + 1) ∧ e1 1 = .int .i64 (left - T.cost v)) ?_) ?_)
      · have hz'' := hz ▸ hneg
        cases h1' : T.one
        · have ht := T.take v h1'
          simp only [go_sem, kSt_ptr, Nat.reduceBEq, Nat.reduceAdd, Nat.reduceEqDiff, Nat.reduceLeDiff, Nat.reduceSub, reduceIte, Int.reduceBEq, Int.reduceEq, Int.reduceLT, Int.reduceLE, Int.reduceGT, Int.reduceGE, Int.reduceNe, Int.reduceBNe, szLoopC, ldOp, h1', h0, h5, h1, hT, kIa_map (row := T.row) (sz := T.sz) hl (T.len v), lt_map hl, ht, hfz, hc, hz, hz', hw]
        · have ht := T.head v h1'
          simp only [go_sem, kSt_ptr, Nat.reduceBEq, Nat.reduceAdd, Nat.reduceEqDiff, Nat.reduceLeDiff, Nat.reduceSub, reduceIte, Int.reduceBEq, Int.reduceEq, Int.reduceLT, Int.reduceLE, Int.reduceGT, Int.reduceGE, Int.reduceNe, Int.reduceBNe, szLoopC, ldOp, h1', h0, h5, h1, hT, kIa_map (row := T.row) (sz := T.sz) hl (T.len v), lt_map hl, ht, hfz, hc, hz, hz', hw]
      · rintro _ e1 _ ⟨rfl, rfl, he0, he5, he1⟩
        exact szLoop_ok hT l hlen hs rest (pre ++ [v]) (left - T.cost v) e1 _ (by rw [hl]; simp) he0 (by rw [he5]; simp) he1 (by omega) (by omega)
theorem szS_ok {WI : World → Prop} (hTK : TOK E WI) (hS : Stable WI) (hT : E.T g = some (szC T)) {f : FuncId} (hst : stF E f = some (szSF g T.sz T.one)) : PureOK E.P WI f (szC (sliceT T)) := by
  refine pure2 hTK hS (by rw [hst]; rfl) fun l left ⟨⟨hlen, hs⟩, hlo, hhi⟩ => out_W (n := 0) hst ?_
  have hw : IntKind.wrap .i64 (left - (l.length : Int)) = left - (l.length : Int) := wrapId (by omega) (by omega)
  have hcost : (sliceT T).cost l = l.length + costL T l := rfl
  by_cases hneg : left - (l.length : Int) < 0
  · have hz : szR ((sliceT T).cost l) left = -1 := by rw [hcost]; unfold szR; rw [if_pos (by omega)]
    refine .sim ?_
    simp only [go_sem, kSt_ptr, Nat.reduceBEq, Nat.reduceAdd, Nat.reduceEqDiff, Nat.reduceLeDiff, Nat.reduceSub, reduceIte, Int.reduceBEq, Int.reduceEq, Int.reduceLT, Int.reduceLE, Int.reduceGT, Int.reduceGE, Int.reduceNe, Int.reduceBNe, szSF, sliceT, intT, oneT, hw, hneg]
    exact congrArg (fun x => some (AV.int .i64 x)) hz.symm
  · have hz : szR ((sliceT T).cost l) left = szR (costL T l) (left - l.length) := by
      rw [hcost]; unfold szR
      by_cases hq : left - (l.length : Int) - costL T l < 0
      · rw [if_pos (by omega), if_pos (by omega)]
      · rw [if_neg (by omega), if_neg (by omega)]; omega
    rw [hz]
    show W _ (.seq _ (.seq _ (.seq _ (.seq (.seq _ (.blk 0 (.loop (szLoopC g T.sz T.one)))) _)))) _ _ _
    refine .re (.re (.cut (M := fun e1 h1 => h1 = Hp.empty ∧ e1 0 = .imm (l.map T.row) ∧ e1 1 = .int .i64 (left - (l.length : Int))) (.sim (by simp only [go_sem, kSt_ptr, Nat.reduceBEq, Nat.reduceAdd, Nat.reduceEqDiff, Nat.reduceLeDiff, Nat.reduceSub, reduceIte, Int.reduceBEq, Int.reduceEq, Int.reduceLT, Int.reduceLE, Int.reduceGT, Int.reduceGE, Int.reduceNe, Int.reduceBNe, sliceT, intT, oneT, hw, hneg])) ?_))
    rintro e1 h1 ⟨rfl, k0, k1⟩
    refine .seq (.cut (M := fun e2 h2 => h2 = Hp.empty ∧ e2 0 = .imm (l.map T.row) ∧ e2 1 = .int .i64 (left - (l.length : Int)) ∧ e2 5 = .int .i64 0) (.sim (by simp only [go_sem, kSt_ptr, Nat.reduceBEq, Nat.reduceAdd, Nat.reduceEqDiff, Nat.reduceLeDiff, Nat.reduceSub, reduceIte, Int.reduceBEq, Int.reduceEq, Int.reduceLT, Int.reduceLE, Int.reduceGT, Int.reduceGE, Int.reduceNe, Int.reduceBNe, k0, k1])) ?_)
    rintro e2 h2 ⟨rfl, k0, k1, k5⟩
    refine .blk (.loop ((szLoop_ok hT l (by omega) hs l [] (left - (l.length : Int)) e2 Hp.empty rfl k0 k5 k1 (by omega) (by omega)).mono ?_))
    rintro x e' h' ⟨rfl, j2⟩
    split at j2
    · rename_i hq
      obtain ⟨rfl, j3⟩ := j2
      have hz' := (szR_neg hq (by omega)).1
      simp only [go_sem, kSt_ptr, Nat.reduceBEq, Nat.reduceAdd, Nat.reduceEqDiff, Nat.reduceLeDiff, Nat.reduceSub, reduceIte, Int.reduceBEq, Int.reduceEq, Int.reduceLT, Int.reduceLE, Int.reduceGT, Int.reduceGE, Int.reduceNe, Int.reduceBNe, szSF, j3, hz']
    · obtain ⟨rfl, j3⟩ := j2
      rw [outOf_exit]
      refine .sim ?_
      simp only [go_sem, kSt_ptr, Nat.reduceBEq, Nat.reduceAdd, Nat.reduceEqDiff, Nat.reduceLeDiff, Nat.reduceSub, reduceIte, Int.reduceBEq, Int.reduceEq, Int.reduceLT, Int.reduceLE, Int.reduceGT, Int.reduceGE, Int.reduceNe, Int.reduceBNe, szSF, j3]
end
attribute [go_sem] TD.thaw sliceT_enc sliceT_row intT_enc intT_row boolT_enc boolT_row strT_enc strT_row u8T_enc u8T_row
end Go.Ev
/- Copying and comparing, whatever the type. -/
namespace Go.Ev
open Go Go.RowKit
set_option linter.unusedSimpArgs false

/-! ### only the length is measured -/
def szLenF : SFn := ⟨12, .seq (.rg [⟨some 4, none, .mv (.c (.int .i64 0))⟩]) (.seq (.rg [⟨some 5, none, .mv (.t 1)⟩,
  ⟨some 6, none, .mv (.t 0)⟩,
  ⟨some 7, none, .lenL (.t 6)⟩,
  ⟨some 8, none, .bin .sub (.t 5) (.t 7)⟩,
  ⟨some 1, none, .mv (.t 8)⟩]) (.seq (.seq (.rg [⟨some 9, none, .mv (.t 1)⟩,
  ⟨some 10, none, .bin .lss (.t 9) (.c (.int .i64 0))⟩]) (.cond (.t 10) (.seq (.rg [⟨some 4, none, .mv (.c (.int .i64 (-1)))⟩]) (.ret)) (.skip))) (.seq (.rg [⟨some 11, none, .mv (.t 1)⟩,
  ⟨some 4, none, .mv (.t 11)⟩]) (.ret)))), [.t 4]⟩
section
variable {α : Type} {T : TD α} {E : Env} {g f : FuncId} {WI : World → Prop}
theorem costL_zero (hz : ∀ v, T.cost v = 0) : ∀ l : List α, costL T l = 0
  | [] => rfl
  | v :: l => by simp only [costL, hz v, costL_zero hz l]
theorem szLen_ok (hTK : TOK E WI) (hS : Stable WI) (hz : ∀ v, T.cost v = 0) (hst : stF E f = some szLenF) : PureOK E.P WI f (szC (sliceT T)) := by
  refine pure2 hTK hS (by rw [hst]; rfl) fun l left ⟨⟨hlen, hs⟩, hlo, hhi⟩ => out_K (n := 0) hst ?_
  have hw : IntKind.wrap .i64 (left - (l.length : Int)) = left - (l.length : Int) := wrapId (by omega) (by omega)
  have hcost : (sliceT T).cost l = l.length := by show l.length + costL T l = _; rw [costL_zero hz]; rfl
  rw [hcost]
  by_cases hneg : left - (l.length : Int) < 0
  · have hr : szR l.length left = -1 := by unfold szR; rw [if_pos hneg]
    rw [hr]
    simp only [go_sem, kSt_ptr, Nat.reduceBEq, Nat.reduceAdd, Nat.reduceEqDiff, Nat.reduceLeDiff, Nat.reduceSub, reduceIte, Int.reduceBEq, Int.reduceEq, Int.reduceLT, Int.reduceLE, Int.reduceGT, Int.reduceGE, Int.reduceNe, Int.reduceBNe, szLenF, sliceT, intT, oneT, hw, hneg]
  · have hr : szR l.length left = left - l.length := by unfold szR; rw [if_neg hneg]
    rw [hr]
    simp only [go_sem, kSt_ptr, Nat.reduceBEq, Nat.reduceAdd, Nat.reduceEqDiff, Nat.reduceLeDiff, Nat.reduceSub, reduceIte, Int.reduceBEq, Int.reduceEq, Int.reduceLT, Int.reduceLE, Int.reduceGT, Int.reduceGE, Int.reduceNe, Int.reduceBNe, szLenF, sliceT, intT, oneT, hw, hneg]

/-! ### copying -/
theorem kSt_T {r : Nat} {rows : List (List AV)} {old tl : List AV} {h : Hp} {off : Nat} (v : α) (hh : h.hp r = some (rows.flatten ++ (old ++ tl))) (hr : ∀ x ∈ rows, x.length = T.sz) (ho : old.length = T.sz) (hoff : off = rows.length * T.sz) :
    kSt T.sz (.ptr r off) (T.enc v) h = some (.tup [], h.set r ((rows ++ [T.row v]).flatten ++ tl)) := by
  subst hoff
  rw [kSt_ptr, hh]
  simp only [Option.bind_some]
  rw [T.cells]
  have hl := flatten_len hr
  have hcnd : T.sz = (T.row v).length ∧ rows.length * T.sz + (T.row v).length ≤ (rows.flatten ++ (old ++ tl)).length ∧ (!(T.row v).any notCell) = true :=
    ⟨(T.len v).symm, by simp only [List.length_append, T.len]; omega, by rw [T.notCells]; rfl⟩
  rw [if_pos hcnd, splice_row hr ho (T.len v)]
theorem TD.rows_len (l : List α) : ∀ r ∈ l.map T.row, r.length = T.sz := fun r hr => by
  obtain ⟨v, _, rfl⟩ := List.mem_map.1 hr
  exact T.len v
theorem frzD_cell {n : Nat} {h : Hp} {c : AV} (hc : frzCell c = some c) : frzD n h c = some c := by
  cases n with
  | zero => exact hc
  | succ n => cases c <;> first | exact hc | cases hc
theorem TD.frzRows {r : Nat} {h : Hp} (l : List α) (hh : h.hp r = some (l.map T.row).flatten) : frzE 1 h (.sl r 0 l.length T.sz) = some (.imm (l.map T.row)) := by
  have := frzE_rows (n := 0) hh (TD.rows_len l) fun x hx c hc => by
    obtain ⟨v, _, rfl⟩ := List.mem_map.1 hx
    exact frzD_cell (T.frz v c hc).1
  rwa [List.length_map] at this

def toLoopC (g sz : Nat) (one : Bool) : SCode := .seq (.seq (.rg [⟨some 8, none, .mv (.t 4)⟩,
  ⟨some 9, none, .mv (.t 0)⟩,
  ⟨some 10, none, .lenL (.t 9)⟩,
  ⟨some 11, none, .bin .lss (.t 8) (.t 10)⟩]) (.cond (.t 11) (.skip) (.exit 0))) (.seq (.blk 1 (.rg [⟨some 14, none, .mv (.t 3)⟩,
  ⟨some 15, none, .mv (.t 4)⟩,
  ⟨some 16, none, .mv (.t 0)⟩,
  ⟨some 17, none, .mv (.t 4)⟩,
  ⟨some 18, none, .ia sz (.t 16) (.t 17)⟩,
  ⟨some 19, none, ldOp one sz (.t 18)⟩,
  ⟨some 20, none, .callP g [.t 19]⟩,
  ⟨some 21, none, .ia sz (.t 14) (.t 15)⟩,
  ⟨none, none, .st sz (.t 21) (.t 20)⟩])) (.rg [⟨some 12, none, .mv (.t 4)⟩,
  ⟨some 13, none, .bin .add (.t 12) (.c (.int .i64 1))⟩,
  ⟨some 4, none, .mv (.t 13)⟩]))
def toSF (g sz : Nat) (one : Bool) (bt : Nat) (z : List AV) : SFn := ⟨23, .seq (.rg [⟨some 2, none, .mv (.c .snil)⟩]) (.seq (.rg [⟨some 5, none, .mv (.t 0)⟩,
  ⟨some 6, none, .lenL (.t 5)⟩,
  ⟨some 7, none, .mkS true bt z (.t 6) (.t 6)⟩,
  ⟨some 3, none, .mv (.t 7)⟩]) (.seq (.seq (.rg [⟨some 4, none, .mv (.c (.int .i64 0))⟩]) (.blk 0 (.loop (toLoopC g sz one)))) (.seq (.rg [⟨some 22, none, .mv (.t 3)⟩,
  ⟨some 2, none, .mv (.t 22)⟩]) (.ret)))), [.t 2]⟩
def cpLoopC : SCode := .seq (.seq (.rg [⟨some 8, none, .mv (.t 4)⟩,
  ⟨some 9, none, .mv (.t 0)⟩,
  ⟨some 10, none, .lenL (.t 9)⟩,
  ⟨some 11, none, .bin .lss (.t 8) (.t 10)⟩]) (.cond (.t 11) (.skip) (.exit 0))) (.seq (.blk 1 (.rg [⟨some 14, none, .mv (.t 3)⟩,
  ⟨some 15, none, .mv (.t 4)⟩,
  ⟨some 16, none, .mv (.t 0)⟩,
  ⟨some 17, none, .mv (.t 4)⟩,
  ⟨some 18, none, .ia 1 (.t 16) (.t 17)⟩,
  ⟨some 19, none, .ld (.t 18)⟩,
  ⟨some 20, none, .ia 1 (.t 14) (.t 15)⟩,
  ⟨none, none, .st 1 (.t 20) (.t 19)⟩])) (.rg [⟨some 12, none, .mv (.t 4)⟩,
  ⟨some 13, none, .bin .add (.t 12) (.c (.int .i64 1))⟩,
  ⟨some 4, none, .mv (.t 13)⟩]))
def cpSF (bt : Nat) (z : List AV) : SFn := ⟨22, .seq (.rg [⟨some 2, none, .mv (.c .snil)⟩]) (.seq (.rg [⟨some 5, none, .mv (.t 0)⟩,
  ⟨some 6, none, .lenL (.t 5)⟩,
  ⟨some 7, none, .mkS true bt z (.t 6) (.t 6)⟩,
  ⟨some 3, none, .mv (.t 7)⟩]) (.seq (.seq (.rg [⟨some 4, none, .mv (.c (.int .i64 0))⟩]) (.blk 0 (.loop cpLoopC))) (.seq (.rg [⟨some 21, none, .mv (.t 3)⟩,
  ⟨some 2, none, .mv (.t 21)⟩]) (.ret)))), [.t 2]⟩

/-- How far the copy stands. -/
def CpI (T : TD α) (z : List AV) (l : List α) (r : Nat) (pre rest : List α) (e : Ps) (h : Hp) : Prop :=
  e 0 = .imm (l.map T.row) ∧ e 3 = .sl r 0 l.length T.sz ∧ e 4 = .int .i64 pre.length ∧ h.hp r = some ((pre.map T.row).flatten ++ (List.replicate rest.length z).flatten)
theorem cp_loop {body : SCode} {z : List AV} {l : List α} {r : Nat} (hbody : ∀ (v : α) (rest pre : List α) (e : Ps) (h : Hp), l = pre ++ v :: rest → CpI T z l r pre (v :: rest) e h → W E body e h fun x e1 h1 => x = .norm ∧ CpI T z l r (pre ++ [v]) rest e1 h1)
    (hend : ∀ (e : Ps) (h : Hp), CpI T z l r l [] e h → W E body e h fun x e' h' => x = .exit 0 ∧ CpI T z l r l [] e' h') : ∀ (rest pre : List α) (e : Ps) (h : Hp), l = pre ++ rest → CpI T z l r pre rest e h → WL E body e h fun x e' h' => x = .exit 0 ∧ CpI T z l r l [] e' h'
  | [], pre, e, h, hl, hi => by
    have hp : pre = l := by rw [hl]; simp
    rw [hp] at hi
    refine .step ((hend e h hi).mono ?_)
    rintro _ e' h' ⟨rfl, hq⟩
    exact ⟨rfl, hq⟩
  | v :: rest, pre, e, h, hl, hi => by
    refine .step ((hbody v rest pre e h hl hi).mono ?_)
    rintro _ e1 h1 ⟨rfl, hq⟩
    exact cp_loop hbody hend rest (pre ++ [v]) e1 h1 (by rw [hl]; simp) hq
theorem CpI.fin {z : List AV} {l : List α} {r : Nat} {e : Ps} {h : Hp} (hi : CpI T z l r l [] e h) : h.hp r = some (l.map T.row).flatten := by
  have := hi.2.2.2
  simpa using this
theorem CpI.next {z : List AV} {l pre rest : List α} {v : α} {r : Nat} (hz : z.length = T.sz) (hl : l = pre ++ v :: rest) {h : Hp} (hh : h.hp r = some ((pre.map T.row).flatten ++ (List.replicate (v :: rest).length z).flatten)) :
    kIa T.sz (.sl r 0 l.length T.sz) (.int .i64 (pre.length : Int)) h = some (.ptr r (pre.length * T.sz), h) ∧
    kSt T.sz (.ptr r (pre.length * T.sz)) (T.enc v) h = some (.tup [], h.set r (((pre ++ [v]).map T.row).flatten ++ (List.replicate rest.length z).flatten)) := by
  have hlt : pre.length < l.length := by rw [hl]; simp
  refine ⟨by rw [kIa_sl (by omega) (by simpa using hlt)]; simp, ?_⟩
  have := kSt_T (T := T) (r := r) (rows := pre.map T.row) (old := z) (tl := (List.replicate rest.length z).flatten) (h := h) (off := pre.length * T.sz) v (by rw [hh]; simp [List.replicate_succ]) (TD.rows_len pre) hz (by simp)
  rw [this, List.map_append, List.map_cons, List.map_nil]

theorem toS_ok (hTK : TOK E WI) (hS : Stable WI) (hT : E.T g = some (toC T)) {bt : Nat} {z : List AV} (hz : z.length = T.sz) (hb : bt ≤ 1048576) (hst : stF E f = some (toSF g T.sz T.one bt z)) : PureOK E.P WI f (toC (sliceT T)) := by
  refine pure1 hTK hS (by rw [hst]; rfl) fun l hcost => out_W (n := 1) hst ?_
  have hlen : l.length ≤ 1048576 := by have : l.length + costL T l ≤ 1048576 := hcost; omega
  have hcv : ∀ v ∈ l, T.cost v ≤ 1048576 := fun v hv => by have h1 := costL_mem T hv; have : l.length + costL T l ≤ 1048576 := hcost; omega
  have hm : ∀ h, sMake true bt z (.int .i64 (l.length : Int)) (.int .i64 (l.length : Int)) h = some (.sl h.nx 0 l.length T.sz, h.new (List.replicate l.length z).flatten) := fun h => by
    have hr : (bt : Int) * (l.length : Int) ≤ room := by
      have : bt * l.length ≤ 1048576 * 1048576 := Nat.mul_le_mul hb hlen
      have h2 : ((bt * l.length : Nat) : Int) = (bt : Int) * (l.length : Int) := Int.natCast_mul _ _
      rw [← h2]
      unfold room
      omega
    have := sMake_sl (bt := bt) (z := z) (k := .i64) (k' := .i64) (l := (l.length : Int)) (h := h) (by omega) (by omega) hr
    rw [hz] at this
    simpa using this
  show W _ (.seq _ (.seq _ (.seq (.seq _ (.blk 0 (.loop (toLoopC g T.sz T.one)))) _))) _ _ _
  refine .re (.cut (M := fun e1 h1 => e1 0 = .imm (l.map T.row) ∧ e1 3 = .sl 0 0 l.length T.sz ∧ h1.hp 0 = some (List.replicate l.length z).flatten) (.sim (by simp only [go_sem, kSt_ptr, Nat.reduceBEq, Nat.reduceAdd, Nat.reduceEqDiff, Nat.reduceLeDiff, Nat.reduceSub, reduceIte, Int.reduceBEq, Int.reduceEq, Int.reduceLT, Int.reduceLE, Int.reduceGT, Int.reduceGE, Int.reduceNe, Int.reduceBNe, sliceT, hm])) ?_)
  rintro e1 h1 ⟨k0, k3, kh⟩
  refine .seq (.cut (M := fun e2 h2 => CpI T z l 0 [] l e2 h2) (.sim (by
    simp only [go_sem, kSt_ptr, Nat.reduceBEq, Nat.reduceAdd, Nat.reduceEqDiff, Nat.reduceLeDiff, Nat.reduceSub, reduceIte, Int.reduceBEq, Int.reduceEq, Int.reduceLT, Int.reduceLE, Int.reduceGT, Int.reduceGE, Int.reduceNe, Int.reduceBNe, k0, k3, kh]
    exact ⟨k0, k3, rfl, by simpa using kh⟩)) ?_)
  intro e2 h2 hi
  refine .blk (.loop ((cp_loop (T := T) (l := l) (fun v rest pre e h hl hi => ?_) (fun e h hi => ?_) l [] e2 h2 rfl hi).mono ?_))
  · obtain ⟨h0, h3, h4, hh⟩ := hi
    have hlt : pre.length < l.length := by rw [hl]; simp
    have hw : IntKind.wrap .i64 ((pre.length : Int) + 1) = (pre.length : Int) + 1 := wrapId (by omega) (by omega)
    obtain ⟨n1, n2⟩ := CpI.next hz hl hh
    have hfz := T.frzEnc v
    have hc := toC_eq T (hcv v (by rw [hl]; simp))
    unfold CpI
    refine .sim ?_
    cases h1' : T.one
    · have ht := T.take v h1'
      simp only [go_sem, Nat.reduceBEq, Nat.reduceAdd, Nat.reduceEqDiff, Nat.reduceLeDiff, Nat.reduceSub, reduceIte, Int.reduceBEq, Int.reduceEq, Int.reduceLT, Int.reduceLE, Int.reduceGT, Int.reduceGE, Int.reduceNe, Int.reduceBNe, toLoopC, ldOp, h1', h0, h3, h4, lt_map hl, kIa_map (row := T.row) (sz := T.sz) hl (T.len v), ht, hfz, hT, hc, n1, n2, hw]
      simp
    · have ht := T.head v h1'
      simp only [go_sem, Nat.reduceBEq, Nat.reduceAdd, Nat.reduceEqDiff, Nat.reduceLeDiff, Nat.reduceSub, reduceIte, Int.reduceBEq, Int.reduceEq, Int.reduceLT, Int.reduceLE, Int.reduceGT, Int.reduceGE, Int.reduceNe, Int.reduceBNe, toLoopC, ldOp, h1', h0, h3, h4, lt_map hl, kIa_map (row := T.row) (sz := T.sz) hl (T.len v), ht, hfz, hT, hc, n1, n2, hw]
      simp
  · have hi' := hi
    obtain ⟨h0, h3, h4, hh⟩ := hi
    have hlt : decide ((l.length : Int) < (l.length : Int)) = false := by simp
    unfold CpI at hi' ⊢
    refine .sim ?_
    simp only [go_sem, kSt_ptr, Nat.reduceBEq, Nat.reduceAdd, Nat.reduceEqDiff, Nat.reduceLeDiff, Nat.reduceSub, reduceIte, Int.reduceBEq, Int.reduceEq, Int.reduceLT, Int.reduceLE, Int.reduceGT, Int.reduceGE, Int.reduceNe, Int.reduceBNe, toLoopC, h0, h3, h4, hlt, hh]
  · rintro x e' h' ⟨rfl, hi⟩
    have hf := CpI.fin hi
    have h3 := hi.2.1
    have hz2 := TD.frzRows l hf
    rw [outOf_exit]
    refine .sim ?_
    simp only [go_sem, kSt_ptr, Nat.reduceBEq, Nat.reduceAdd, Nat.reduceEqDiff, Nat.reduceLeDiff, Nat.reduceSub, reduceIte, Int.reduceBEq, Int.reduceEq, Int.reduceLT, Int.reduceLE, Int.reduceGT, Int.reduceGE, Int.reduceNe, Int.reduceBNe, toSF, h3, hz2, sliceT, id_eq]

theorem cpS_ok (hTK : TOK E WI) (hS : Stable WI) (h1' : T.one = true) {bt : Nat} {z : List AV} (hz : z.length = 1) (hb : bt ≤ 1048576) (hst : stF E f = some (cpSF bt z)) : PureOK E.P WI f (toC (sliceT T)) := by
  have hsz : T.sz = 1 := (T.enc1 h1').1
  refine pure1 hTK hS (by rw [hst]; rfl) fun l hcost => out_W (n := 1) hst ?_
  have hlen : l.length ≤ 1048576 := by have : l.length + costL T l ≤ 1048576 := hcost; omega
  have hm : ∀ h, sMake true bt z (.int .i64 (l.length : Int)) (.int .i64 (l.length : Int)) h = some (.sl h.nx 0 l.length T.sz, h.new (List.replicate l.length z).flatten) := fun h => by
    have hr : (bt : Int) * (l.length : Int) ≤ room := by
      have : bt * l.length ≤ 1048576 * 1048576 := Nat.mul_le_mul hb hlen
      have h2 : ((bt * l.length : Nat) : Int) = (bt : Int) * (l.length : Int) := Int.natCast_mul _ _
      rw [← h2]
      unfold room
      omega
    have := sMake_sl (bt := bt) (z := z) (k := .i64) (k' := .i64) (l := (l.length : Int)) (h := h) (by omega) (by omega) hr
    rw [hz, ← hsz] at this
    simpa using this
  show W _ (.seq _ (.seq _ (.seq (.seq _ (.blk 0 (.loop cpLoopC))) _))) _ _ _
  refine .re (.cut (M := fun e1 h1 => e1 0 = .imm (l.map T.row) ∧ e1 3 = .sl 0 0 l.length T.sz ∧ h1.hp 0 = some (List.replicate l.length z).flatten) (.sim (by simp only [go_sem, kSt_ptr, Nat.reduceBEq, Nat.reduceAdd, Nat.reduceEqDiff, Nat.reduceLeDiff, Nat.reduceSub, reduceIte, Int.reduceBEq, Int.reduceEq, Int.reduceLT, Int.reduceLE, Int.reduceGT, Int.reduceGE, Int.reduceNe, Int.reduceBNe, sliceT, hm])) ?_)
  rintro e1 h1 ⟨k0, k3, kh⟩
  refine .seq (.cut (M := fun e2 h2 => CpI T z l 0 [] l e2 h2) (.sim (by
    simp only [go_sem, kSt_ptr, Nat.reduceBEq, Nat.reduceAdd, Nat.reduceEqDiff, Nat.reduceLeDiff, Nat.reduceSub, reduceIte, Int.reduceBEq, Int.reduceEq, Int.reduceLT, Int.reduceLE, Int.reduceGT, Int.reduceGE, Int.reduceNe, Int.reduceBNe, k0, k3, kh]
    exact ⟨k0, k3, rfl, by simpa using kh⟩)) ?_)
  intro e2 h2 hi
  refine .blk (.loop ((cp_loop (T := T) (l := l) (fun v rest pre e h hl hi => ?_) (fun e h hi => ?_) l [] e2 h2 rfl hi).mono ?_))
  · obtain ⟨h0, h3, h4, hh⟩ := hi
    have hlt : pre.length < l.length := by rw [hl]; simp
    have hw : IntKind.wrap .i64 ((pre.length : Int) + 1) = (pre.length : Int) + 1 := wrapId (by omega) (by omega)
    obtain ⟨n1, n2⟩ := CpI.next (by rw [hz, hsz]) hl hh
    have hk := fun h => kIa_map (h := h) (row := T.row) (sz := T.sz) hl (T.len v)
    have ht := T.head v h1'
    rw [hsz] at n1 n2
    unfold CpI
    rw [hsz] at h3 hk ⊢
    refine .sim ?_
    simp only [go_sem, Nat.reduceBEq, Nat.reduceAdd, Nat.reduceEqDiff, Nat.reduceLeDiff, Nat.reduceSub, reduceIte, Int.reduceBEq, Int.reduceEq, Int.reduceLT, Int.reduceLE, Int.reduceGT, Int.reduceGE, Int.reduceNe, Int.reduceBNe, cpLoopC, h0, h3, h4, lt_map hl, hk, ht, n1, n2, hw]
    simp
  · have hi' := hi
    obtain ⟨h0, h3, h4, hh⟩ := hi
    have hlt : decide ((l.length : Int) < (l.length : Int)) = false := by simp
    unfold CpI at hi' ⊢
    refine .sim ?_
    simp only [go_sem, kSt_ptr, Nat.reduceBEq, Nat.reduceAdd, Nat.reduceEqDiff, Nat.reduceLeDiff, Nat.reduceSub, reduceIte, Int.reduceBEq, Int.reduceEq, Int.reduceLT, Int.reduceLE, Int.reduceGT, Int.reduceGE, Int.reduceNe, Int.reduceBNe, cpLoopC, h0, h3, h4, hlt, hh]
  · rintro x e' h' ⟨rfl, hi⟩
    have hf := CpI.fin hi
    have h3 := hi.2.1
    have hz2 := TD.frzRows l hf
    rw [outOf_exit]
    refine .sim ?_
    simp only [go_sem, kSt_ptr, Nat.reduceBEq, Nat.reduceAdd, Nat.reduceEqDiff, Nat.reduceLeDiff, Nat.reduceSub, reduceIte, Int.reduceBEq, Int.reduceEq, Int.reduceLT, Int.reduceLE, Int.reduceGT, Int.reduceGE, Int.reduceNe, Int.reduceBNe, cpSF, h3, hz2, sliceT, id_eq]

/-! ### comparing -/
def eqLoopC (g sz : Nat) (one : Bool) : SCode := .seq (.seq (.rg [⟨some 11, none, .mv (.t 5)⟩,
  ⟨some 12, none, .mv (.t 0)⟩,
  ⟨some 13, none, .lenL (.t 12)⟩,
  ⟨some 14, none, .bin .lss (.t 11) (.t 13)⟩]) (.cond (.t 14) (.skip) (.exit 0))) (.seq (.blk 1 (.seq (.rg [⟨some 17, none, .mv (.t 0)⟩,
  ⟨some 18, none, .mv (.t 5)⟩,
  ⟨some 19, none, .ia sz (.t 17) (.t 18)⟩,
  ⟨some 20, none, ldOp one sz (.t 19)⟩,
  ⟨some 21, none, .mv (.t 1)⟩,
  ⟨some 22, none, .mv (.t 5)⟩,
  ⟨some 23, none, .ia sz (.t 21) (.t 22)⟩,
  ⟨some 24, none, ldOp one sz (.t 23)⟩,
  ⟨some 25, none, .callP g [.t 20, .t 24]⟩,
  ⟨some 26, none, .un .not (.t 25)⟩]) (.cond (.t 26) (.seq (.rg [⟨some 4, none, .mv (.c (.bool false))⟩]) (.ret)) (.skip)))) (.rg [⟨some 15, none, .mv (.t 5)⟩,
  ⟨some 16, none, .bin .add (.t 15) (.c (.int .i64 1))⟩,
  ⟨some 5, none, .mv (.t 16)⟩]))
def eqSF (g sz : Nat) (one : Bool) : SFn := ⟨27, .seq (.rg [⟨some 4, none, .mv (.c (.bool false))⟩]) (.seq (.seq (.rg [⟨some 6, none, .mv (.t 0)⟩,
  ⟨some 7, none, .lenL (.t 6)⟩,
  ⟨some 8, none, .mv (.t 1)⟩,
  ⟨some 9, none, .lenL (.t 8)⟩,
  ⟨some 10, none, .bin .neq (.t 7) (.t 9)⟩]) (.cond (.t 10) (.seq (.rg [⟨some 4, none, .mv (.c (.bool false))⟩]) (.ret)) (.skip))) (.seq (.seq (.rg [⟨some 5, none, .mv (.c (.int .i64 0))⟩]) (.blk 0 (.loop (eqLoopC g sz one)))) (.seq (.rg [⟨some 4, none, .mv (.c (.bool true))⟩]) (.ret)))), [.t 4]⟩
def ecLoopC : SCode := .seq (.seq (.rg [⟨some 11, none, .mv (.t 5)⟩,
  ⟨some 12, none, .mv (.t 0)⟩,
  ⟨some 13, none, .lenL (.t 12)⟩,
  ⟨some 14, none, .bin .lss (.t 11) (.t 13)⟩]) (.cond (.t 14) (.skip) (.exit 0))) (.seq (.blk 1 (.seq (.rg [⟨some 17, none, .mv (.t 0)⟩,
  ⟨some 18, none, .mv (.t 5)⟩,
  ⟨some 19, none, .ia 1 (.t 17) (.t 18)⟩,
  ⟨some 20, none, .ld (.t 19)⟩,
  ⟨some 21, none, .mv (.t 1)⟩,
  ⟨some 22, none, .mv (.t 5)⟩,
  ⟨some 23, none, .ia 1 (.t 21) (.t 22)⟩,
  ⟨some 24, none, .ld (.t 23)⟩,
  ⟨some 25, none, .bin .neq (.t 20) (.t 24)⟩]) (.cond (.t 25) (.seq (.rg [⟨some 4, none, .mv (.c (.bool false))⟩]) (.ret)) (.skip)))) (.rg [⟨some 15, none, .mv (.t 5)⟩,
  ⟨some 16, none, .bin .add (.t 15) (.c (.int .i64 1))⟩,
  ⟨some 5, none, .mv (.t 16)⟩]))
def ecSF : SFn := ⟨26, .seq (.rg [⟨some 4, none, .mv (.c (.bool false))⟩]) (.seq (.seq (.rg [⟨some 6, none, .mv (.t 0)⟩,
  ⟨some 7, none, .lenL (.t 6)⟩,
  ⟨some 8, none, .mv (.t 1)⟩,
  ⟨some 9, none, .lenL (.t 8)⟩,
  ⟨some 10, none, .bin .neq (.t 7) (.t 9)⟩]) (.cond (.t 10) (.seq (.rg [⟨some 4, none, .mv (.c (.bool false))⟩]) (.ret)) (.skip))) (.seq (.seq (.rg [⟨some 5, none, .mv (.c (.int .i64 0))⟩]) (.blk 0 (.loop ecLoopC))) (.seq (.rg [⟨some 4, none, .mv (.c (.bool true))⟩]) (.ret)))), [.t 4]⟩
theorem eq_loop {body : SCode} {l : List α} (hbody : ∀ (v : α) (rest pre : List α) (e : Ps) (h : Hp), l = pre ++ v :: rest → e 0 = .imm (l.map T.row) ∧ e 1 = .imm (l.map T.row) ∧ e 5 = .int .i64 pre.length → W E body e h fun x e1 _ => x = .norm ∧ e1 0 = .imm (l.map T.row) ∧ e1 1 = .imm (l.map T.row) ∧ e1 5 = .int .i64 ((pre.length : Int) + 1))
    (hend : ∀ (e : Ps) (h : Hp), e 0 = .imm (l.map T.row) ∧ e 1 = .imm (l.map T.row) ∧ e 5 = .int .i64 l.length → W E body e h fun x _ _ => x = .exit 0) : ∀ (rest pre : List α) (e : Ps) (h : Hp), l = pre ++ rest → e 0 = .imm (l.map T.row) ∧ e 1 = .imm (l.map T.row) ∧ e 5 = .int .i64 pre.length → WL E body e h fun x _ _ => x = .exit 0
  | [], pre, e, h, hl, hi => by
    have hp : pre = l := by rw [hl]; simp
    rw [hp] at hi
    refine .step ((hend e h hi).mono ?_)
    rintro _ e' h' rfl
    rfl
  | v :: rest, pre, e, h, hl, hi => by
    refine .step ((hbody v rest pre e h hl hi).mono ?_)
    rintro _ e1 h1 ⟨rfl, q0, q1, q5⟩
    exact eq_loop hbody hend rest (pre ++ [v]) e1 h1 (by rw [hl]; simp) ⟨q0, q1, by rw [q5]; simp⟩
theorem pureEq (hTK : TOK E WI) (hS : Stable WI) (hst : (stF E f).isSome = true) (h : ∀ v, T.cost v ≤ 1048576 → ∃ k n, out E k n f [T.enc v, T.enc v] = some (.bool true)) : PureOK E.P WI f (eqC T) :=
  pure_out hTK hS hst h
theorem eqS_ok (hTK : TOK E WI) (hS : Stable WI) (hT : E.T g = some (eqC T)) (hst : stF E f = some (eqSF g T.sz T.one)) : PureOK E.P WI f (eqC (sliceT T)) := by
  refine pureEq hTK hS (by rw [hst]; rfl) fun l hcost => out_W (n := 0) hst ?_
  have hlen : l.length ≤ 1048576 := by have : l.length + costL T l ≤ 1048576 := hcost; omega
  have hcv : ∀ v ∈ l, T.cost v ≤ 1048576 := fun v hv => by have h1 := costL_mem T hv; have : l.length + costL T l ≤ 1048576 := hcost; omega
  show W _ (.seq _ (.seq _ (.seq (.seq _ (.blk 0 (.loop (eqLoopC g T.sz T.one)))) _))) _ _ _
  refine .re (.cut (M := fun e1 h1 => e1 0 = .imm (l.map T.row) ∧ e1 1 = .imm (l.map T.row)) (.sim (by simp only [go_sem, kSt_ptr, Nat.reduceBEq, Nat.reduceAdd, Nat.reduceEqDiff, Nat.reduceLeDiff, Nat.reduceSub, reduceIte, Int.reduceBEq, Int.reduceEq, Int.reduceLT, Int.reduceLE, Int.reduceGT, Int.reduceGE, Int.reduceNe, Int.reduceBNe, sliceT])) ?_)
  rintro e1 h1 ⟨k0, k1⟩
  refine .seq (.cut (M := fun e2 h2 => e2 0 = .imm (l.map T.row) ∧ e2 1 = .imm (l.map T.row) ∧ e2 5 = .int .i64 0) (.sim (by simp only [go_sem, kSt_ptr, Nat.reduceBEq, Nat.reduceAdd, Nat.reduceEqDiff, Nat.reduceLeDiff, Nat.reduceSub, reduceIte, Int.reduceBEq, Int.reduceEq, Int.reduceLT, Int.reduceLE, Int.reduceGT, Int.reduceGE, Int.reduceNe, Int.reduceBNe, k0, k1])) ?_)
  rintro e2 h2 hi
  refine .blk (.loop ((eq_loop (T := T) (l := l) (fun v rest pre e h hl ⟨h0, h1, h5⟩ => ?_) (fun e h ⟨h0, h1, h5⟩ => ?_) l [] e2 h2 rfl hi).mono ?_))
  · have hlt : pre.length < l.length := by rw [hl]; simp
    have hw : IntKind.wrap .i64 ((pre.length : Int) + 1) = (pre.length : Int) + 1 := wrapId (by omega) (by omega)
    have hfz := T.frzEnc v
    have hc := eqC_eq T (hcv v (by rw [hl]; simp))
    refine .sim ?_
    cases h1' : T.one
    · have ht := T.take v h1'
      simp only [go_sem, kSt_ptr, Nat.reduceBEq, Nat.reduceAdd, Nat.reduceEqDiff, Nat.reduceLeDiff, Nat.reduceSub, reduceIte, Int.reduceBEq, Int.reduceEq, Int.reduceLT, Int.reduceLE, Int.reduceGT, Int.reduceGE, Int.reduceNe, Int.reduceBNe, eqLoopC, ldOp, h1', h0, h1, h5, lt_map hl, kIa_map (row := T.row) (sz := T.sz) hl (T.len v), ht, hfz, hT, hc, hw]
    · have ht := T.head v h1'
      simp only [go_sem, kSt_ptr, Nat.reduceBEq, Nat.reduceAdd, Nat.reduceEqDiff, Nat.reduceLeDiff, Nat.reduceSub, reduceIte, Int.reduceBEq, Int.reduceEq, Int.reduceLT, Int.reduceLE, Int.reduceGT, Int.reduceGE, Int.reduceNe, Int.reduceBNe, eqLoopC, ldOp, h1', h0, h1, h5, lt_map hl, kIa_map (row := T.row) (sz := T.sz) hl (T.len v), ht, hfz, hT, hc, hw]
  · have hlt : decide ((l.length : Int) < (l.length : Int)) = false := by simp
    refine .sim ?_
    simp only [go_sem, kSt_ptr, Nat.reduceBEq, Nat.reduceAdd, Nat.reduceEqDiff, Nat.reduceLeDiff, Nat.reduceSub, reduceIte, Int.reduceBEq, Int.reduceEq, Int.reduceLT, Int.reduceLE, Int.reduceGT, Int.reduceGE, Int.reduceNe, Int.reduceBNe, eqLoopC, h0, h1, h5, hlt]
  · rintro x e' h' rfl
    rw [outOf_exit]
    refine .sim ?_
    simp only [go_sem, kSt_ptr, Nat.reduceBEq, Nat.reduceAdd, Nat.reduceEqDiff, Nat.reduceLeDiff, Nat.reduceSub, reduceIte, Int.reduceBEq, Int.reduceEq, Int.reduceLT, Int.reduceLE, Int.reduceGT, Int.reduceGE, Int.reduceNe, Int.reduceBNe, eqSF]
/-- Two equal cells are not unequal. -/
def neqOK (T : TD α) : Prop := ∀ v h, kBin .neq (T.enc v) (T.enc v) h = some (.bool false, h)
theorem ecS_ok (hTK : TOK E WI) (hS : Stable WI) (h1' : T.one = true) (hn : neqOK T) (hst : stF E f = some ecSF) : PureOK E.P WI f (eqC (sliceT T)) := by
  have hsz : T.sz = 1 := (T.enc1 h1').1
  refine pureEq hTK hS (by rw [hst]; rfl) fun l hcost => out_W (n := 0) hst ?_
  have hlen : l.length ≤ 1048576 := by have : l.length + costL T l ≤ 1048576 := hcost; omega
  show W _ (.seq _ (.seq _ (.seq (.seq _ (.blk 0 (.loop ecLoopC))) _))) _ _ _
  refine .re (.cut (M := fun e1 h1 => e1 0 = .imm (l.map T.row) ∧ e1 1 = .imm (l.map T.row)) (.sim (by simp only [go_sem, kSt_ptr, Nat.reduceBEq, Nat.reduceAdd, Nat.reduceEqDiff, Nat.reduceLeDiff, Nat.reduceSub, reduceIte, Int.reduceBEq, Int.reduceEq, Int.reduceLT, Int.reduceLE, Int.reduceGT, Int.reduceGE, Int.reduceNe, Int.reduceBNe, sliceT])) ?_)
  rintro e1 h1 ⟨k0, k1⟩
  refine .seq (.cut (M := fun e2 h2 => e2 0 = .imm (l.map T.row) ∧ e2 1 = .imm (l.map T.row) ∧ e2 5 = .int .i64 0) (.sim (by simp only [go_sem, kSt_ptr, Nat.reduceBEq, Nat.reduceAdd, Nat.reduceEqDiff, Nat.reduceLeDiff, Nat.reduceSub, reduceIte, Int.reduceBEq, Int.reduceEq, Int.reduceLT, Int.reduceLE, Int.reduceGT, Int.reduceGE, Int.reduceNe, Int.reduceBNe, k0, k1])) ?_)
  rintro e2 h2 hi
  refine .blk (.loop ((eq_loop (T := T) (l := l) (fun v rest pre e h hl ⟨h0, h1, h5⟩ => ?_) (fun e h ⟨h0, h1, h5⟩ => ?_) l [] e2 h2 rfl hi).mono ?_))
  · have hlt : pre.length < l.length := by rw [hl]; simp
    have hw : IntKind.wrap .i64 ((pre.length : Int) + 1) = (pre.length : Int) + 1 := wrapId (by omega) (by omega)
    have ht := T.head v h1'
    have hk := fun h => kIa_map (h := h) (row := T.row) (sz := T.sz) hl (T.len v)
    rw [hsz] at hk
    have hn' := hn v
    refine .sim ?_
    simp only [go_sem, kSt_ptr, Nat.reduceBEq, Nat.reduceAdd, Nat.reduceEqDiff, Nat.reduceLeDiff, Nat.reduceSub, reduceIte, Int.reduceBEq, Int.reduceEq, Int.reduceLT, Int.reduceLE, Int.reduceGT, Int.reduceGE, Int.reduceNe, Int.reduceBNe, ecLoopC, h0, h1, h5, lt_map hl, hk, ht, hn', hw]
  · have hlt : decide ((l.length : Int) < (l.length : Int)) = false := by simp
    refine .sim ?_
    simp only [go_sem, kSt_ptr, Nat.reduceBEq, Nat.reduceAdd, Nat.reduceEqDiff, Nat.reduceLeDiff, Nat.reduceSub, reduceIte, Int.reduceBEq, Int.reduceEq, Int.reduceLT, Int.reduceLE, Int.reduceGT, Int.reduceGE, Int.reduceNe, Int.reduceBNe, ecLoopC, h0, h1, h5, hlt]
  · rintro x e' h' rfl
    rw [outOf_exit]
    refine .sim ?_
    simp only [go_sem, kSt_ptr, Nat.reduceBEq, Nat.reduceAdd, Nat.reduceEqDiff, Nat.reduceLeDiff, Nat.reduceSub, reduceIte, Int.reduceBEq, Int.reduceEq, Int.reduceLT, Int.reduceLE, Int.reduceGT, Int.reduceGE, Int.reduceNe, Int.reduceBNe, ecSF]
theorem neq_u8 : neqOK u8T := fun v h => by
  show kBin .neq (.int .u8 v.toNat) (.int .u8 v.toNat) h = _
  rw [kBin_neq, bne_self_eq_false]
theorem neq_int : neqOK intT := fun v h => by
  show kBin .neq (.int .i64 v) (.int .i64 v) h = _
  rw [kBin_neq, bne_self_eq_false]
theorem neq_str : neqOK strT := fun v h => by
  show kBin .neq (.str v) (.str v) h = _
  rw [kBin_sne, beq_self_eq_true]
  rfl
end
end Go.Ev
/- Stepping through a whole function, loop by loop; rules for loops over a list. -/
namespace Go.Ev
open Go Go.RowKit
set_option linter.unusedSimpArgs false

/-- What a call that is walked into answers, with fuel enough. -/
noncomputable def lim (E : Env) : CallH := by
  classical exact fun g as h => if hx : ∃ r, RunF E g as h r then some hx.choose else none
theorem lim_of {E : Env} {g : FuncId} {as : List AV} {h : Hp} {r : AV × Hp} (hr : RunF E g as h r) : lim E g as h = some r := by
  classical
  have hx : ∃ r, RunF E g as h r := ⟨r, hr⟩
  unfold lim
  rw [dif_pos hx]
  obtain ⟨k1, h1⟩ := hx.choose_spec
  obtain ⟨k2, h2⟩ := hr
  have e1 := (sev_mono E (Nat.le_max_left k1 k2)).1 _ _ _ _ h1
  have e2 := (sev_mono E (Nat.le_max_right k1 k2)).1 _ _ _ _ h2
  rw [e2] at e1
  exact e1.symm
theorem lim_run {E : Env} {g : FuncId} {as : List AV} {h : Hp} {r : AV × Hp} (hl : lim E g as h = some r) : RunF E g as h r := by
  classical
  unfold lim at hl
  split at hl
  · rename_i hx
    simp only [Option.some.injEq] at hl
    rw [← hl]
    exact hx.choose_spec
  · cases hl
theorem sX_lim {E : Env} {ρ : Opd → AV} {op : SOp} {h : Hp} {r : AV × Hp} (hx : sX E (lim E) ρ op h = some r) : ∃ k, sX E (sev E k).1 ρ op h = some r := by
  cases op <;> first
    | exact ⟨0, hx⟩
    | (obtain ⟨k, hk⟩ := lim_run hx; exact ⟨k, hk⟩)
theorem sOps_lim {E : Env} : ∀ (os : List SOper) (e : Ps) (h : Hp) (r : Ps × Hp), sOps E (lim E) os e h = some r → ∃ k, sOps E (sev E k).1 os e h = some r
  | [], e, h, r, hx => ⟨0, hx⟩
  | o :: os, e, h, r, hx => by
    simp only [sOps, Option.bind_eq_some_iff] at hx ⊢
    obtain ⟨p, h1, h2⟩ := hx
    obtain ⟨k2, h2⟩ := sOps_lim os _ _ _ h2
    simp only [sOper, Option.bind_eq_some_iff] at h1
    obtain ⟨b, h3, h4⟩ := h1
    cases b with
    | false => exact ⟨k2, p, by simp only [sOper, h3, Option.bind_some]; exact h4, h2⟩
    | true =>
      simp only [if_true, Option.map_eq_some_iff] at h4
      obtain ⟨q, h5, h6⟩ := h4
      obtain ⟨k1, h5⟩ := sX_lim h5
      refine ⟨max k1 k2, p, ?_, sOps_mono (sev_mono E (Nat.le_max_right k1 k2)).1 _ _ _ _ h2⟩
      simp only [sOper, h3, Option.bind_some, if_true, Option.map_eq_some_iff]
      exact ⟨q, sX_mono (sev_mono E (Nat.le_max_left k1 k2)).1 h5, h6⟩

def hP (r : Option (Ps × Hp)) (Q : QS) : Prop := match r with
  | some (e, h) => Q .norm e h
  | none => False
def wThen (k : Ps → Hp → QS → Prop) (Q : QS) : QS := fun x e h => match x with
  | .norm => k e h Q
  | x => Q x e h
def wCond (v : AV) (a b : Prop) : Prop := match v with
  | .bool true => a
  | .bool false => b
  | _ => False
def wBlk (i : Nat) (Q : QS) : QS := fun x e h => Q (outOf i x) e h
noncomputable def wp (E : Env) : SCode → Ps → Hp → QS → Prop
  | .rg os, e, h, Q => hP (sOps E (lim E) os e h) Q
  | .seq a b, e, h, Q => wp E a e h (wThen (wp E b) Q)
  | .cond o a b, e, h, Q => wCond (o.ev e) (wp E a e h Q) (wp E b e h Q)
  | .blk i a, e, h, Q => wp E a e h (wBlk i Q)
  | .loop a, e, h, Q => WL E a e h Q
  | .ret, e, h, Q => Q .ret e h
  | .exit i, e, h, Q => Q (.exit i) e h
  | .skip, e, h, Q => Q .norm e h
section
variable {E : Env} {e : Ps} {h : Hp} {Q : QS}
theorem hP_some : hP (some (e, h)) Q = Q .norm e h := rfl
theorem wThen_norm (k : Ps → Hp → QS → Prop) : wThen k Q .norm e h = k e h Q := rfl
theorem wThen_ret (k : Ps → Hp → QS → Prop) : wThen k Q .ret e h = Q .ret e h := rfl
theorem wThen_exit (k : Ps → Hp → QS → Prop) (i : Nat) : wThen k Q (.exit i) e h = Q (.exit i) e h := rfl
theorem wCond_t (a b : Prop) : wCond (.bool true) a b = a := rfl
theorem wCond_f (a b : Prop) : wCond (.bool false) a b = b := rfl
theorem wBlk_norm (i : Nat) : wBlk i Q .norm e h = Q .norm e h := rfl
theorem wBlk_ret (i : Nat) : wBlk i Q .ret e h = Q .ret e h := rfl
theorem wBlk_exit (i j : Nat) : wBlk i Q (.exit j) e h = Q (cond (j == i) .norm (.exit j)) e h := by
  show Q (outOf i (.exit j)) e h = _
  congr 1
  unfold outOf
  by_cases hj : j = i
  · subst hj; simp
  · have : (j == i) = false := by simpa using hj
    rw [this, if_neg (by simpa using hj)]
    rfl
theorem wp_rg (os : List SOper) : wp E (.rg os) e h Q = hP (sOps E (lim E) os e h) Q := rfl
/-- At a call that is walked into. -/
theorem hP_call {d : Option Nat} {g : FuncId} {as : List AV} {os : List SOper} {v : AV} {h1 : Hp} (hc : RunF E g as h (v, h1)) (hw : hP (kThen (some (upd? e d v, h1)) E (lim E) os) Q) : hP (kThen (kOper d (some true) (lim E g as h) e h) E (lim E) os) Q := by
  rw [lim_of hc, kOper_go]
  exact hw
theorem wp_seq (a b : SCode) : wp E (.seq a b) e h Q = wp E a e h (wThen (wp E b) Q) := rfl
theorem wp_cond (o : Opd) (a b : SCode) : wp E (.cond o a b) e h Q = wCond (o.ev e) (wp E a e h Q) (wp E b e h Q) := rfl
theorem wp_blk (i : Nat) (a : SCode) : wp E (.blk i a) e h Q = wp E a e h (wBlk i Q) := rfl
theorem wp_loop (a : SCode) : wp E (.loop a) e h Q = WL E a e h Q := rfl
theorem wp_ret : wp E .ret e h Q = Q .ret e h := rfl
theorem wp_exit (i : Nat) : wp E (.exit i) e h Q = Q (.exit i) e h := rfl
theorem wp_skip : wp E .skip e h Q = Q .norm e h := rfl
theorem wp_sound : ∀ (s : SCode) (e : Ps) (h : Hp) (Q : QS), wp E s e h Q → W E s e h Q := by
  intro s
  induction s with
  | rg os =>
    intro e h Q hw
    simp only [wp, hP] at hw
    cases hx : sOps E (lim E) os e h with
    | none => rw [hx] at hw; exact hw.elim
    | some p =>
      rw [hx] at hw
      obtain ⟨k, hk⟩ := sOps_lim os e h p hx
      exact ⟨.norm, p.1, p.2, ⟨k, by simp only [sC, hk, Option.bind_some]⟩, hw⟩
  | seq a b iha ihb =>
    intro e h Q hw
    refine .seq ((iha e h _ hw).mono fun x e' h' hq => ?_)
    cases x with
    | norm => exact ihb _ _ _ hq
    | exit i => exact hq
    | ret => exact hq
  | cond o a b iha ihb =>
    intro e h Q hw
    simp only [wp, wCond] at hw
    split at hw
    · rename_i ht; exact .cond ht (iha _ _ _ hw)
    · rename_i ht; exact .cond ht (ihb _ _ _ hw)
    · exact hw.elim
  | blk i a ih => intro e h Q hw; exact .blk (ih e h _ hw)
  | loop a _ => intro e h Q hw; exact .loop hw
  | ret => intro e h Q hw; exact .ret hw
  | exit i => intro e h Q hw; exact .exit hw
  | skip => intro e h Q hw; exact .skip hw
theorem out_wp {n : Nat} {g : FuncId} {f : SFn} {args : List AV} {t : AV} (hf : stF E g = some f) (hw : wp E f.body (fun i => args.getD i (.tup [])) Hp.empty (QO n f.res t)) : ∃ k n, out E k n g args = some t := out_W hf (wp_sound _ _ _ _ hw)
end
/-- A function that is walked into, by its body. -/
theorem run_wp {E : Env} {h : Hp} {g : FuncId} {f : SFn} {args : List AV} {R : AV × Hp → Prop} (hf : stF E g = some f) (hw : wp E f.body (fun i => args.getD i (.tup [])) h fun x e' h' => (∀ i, x ≠ .exit i) ∧ ∃ v, (sRes e' h' f.res).map evResult = some v ∧ R (v, h')) : ∃ r, RunF E g args h r ∧ R r := by
  obtain ⟨x, e', h', hr, h2, v, h3, h4⟩ := wp_sound _ _ _ _ hw
  exact ⟨(v, h'), RunF.of hf ⟨x, e', h', hr, h2, rfl, h3⟩, h4⟩
theorem len_snoc {α : Type} (pre : List α) (v : α) : ((pre ++ [v]).length : Int) = (pre.length : Int) + 1 := by simp
theorem cast0 : ((0 : Nat) : Int) = 0 := rfl
theorem zero_lt_add (n : Nat) : (0 < n + 1) = True := by simp
theorem ne_s1 (n : Nat) : (n = n + 1) = False := by simp
theorem ne_s2 (n : Nat) : (n = n + 1 + 1) = False := by simp; omega
theorem ne_s3 (n : Nat) : (n + 1 = n) = False := by simp
theorem lt_self (n : Int) : decide (n < n) = false := by simp
attribute [go_sem] hP_some wThen_norm wThen_ret wThen_exit wCond_t wCond_f wBlk_norm wBlk_ret wBlk_exit wp_rg wp_seq wp_cond wp_blk wp_loop wp_ret wp_exit wp_skip len_snoc lt_self cast0 zero_lt_add ne_s1 ne_s2 ne_s3

/-- The first element. -/
theorem kIa_head {α : Type} {row : α → List AV} {l r : List α} {v : α} {sz : Nat} {h : Hp} (hl : l = v :: r) (hr : (row v).length = sz) : kIa sz (.imm (l.map row)) (.int .i64 0) h = some (.cptr (row v), h) := by
  refine kIa_imm (by omega) ?_ hr
  subst hl
  rfl
/-- An element at a place that is there. -/
theorem kIa_nth {α : Type} {row : α → List AV} {l : List α} {v : α} {sz : Nat} {h : Hp} {i : Int} (h0 : 0 ≤ i) (hl : l[i.toNat]? = some v) (hr : (row v).length = sz) : kIa sz (.imm (l.map row)) (.int .i64 i) h = some (.cptr (row v), h) := by
  refine kIa_imm h0 ?_ hr
  rw [List.getElem?_map, hl]
  rfl

/-- The first elements. -/
theorem kSl_pre {α : Type} {row : α → List AV} {l pre rest : List α} {sz : Nat} (hl : l = pre ++ rest) (hr : ∀ v, (row v).length = sz) (hne : sz ≠ 0) : sIdxL sz (.imm (l.map row)) none (some (.int .i64 pre.length)) = some (.imm (pre.map row)) := by
  subst hl
  have hh : headLen sz ((pre ++ rest).map row) = true := by
    unfold headLen
    cases pre ++ rest with
    | nil => rfl
    | cons v r => simp [hr v]
  have ha : asNat ((pre ++ rest).map row).length (some (AV.int .i64 (pre.length : Int))) ((pre ++ rest).map row).length = some pre.length := by
    simp [asNat]
    omega
  simp only [sIdxL, hh, ha, if_true, Option.bind_some]
  simp [asNat]

theorem frzRows_T {α : Type} (T : TD α) : ∀ l : List α, frzRows (l.map T.row) = some (l.map T.row)
  | [] => rfl
  | v :: l => by simp only [List.map_cons, frzRows, T.frzRow, Option.bind_some, frzRows_T T l, Option.map_some]
/-- A fresh slice, or none. -/
def frR (sz : Nat) (h : Hp) (x : AV) : Option AV := match x with
  | .snil => some (.app sz [])
  | x => (freshR h x).map fun q => .app q.1 q.2
theorem frR_snil (sz : Nat) (h : Hp) : frR sz h .snil = some (.app sz []) := rfl
theorem frR_app {sz s id : Nat} {h : Hp} {rows : List (List AV)} (ha : h.ap id = some (rows.length, s)) : frR sz h (.app id rows) = some (.app s rows) := by
  simp [frR, freshR, ha]
def QF (sz : Nat) (rs : List SRes) (t : AV) : QS := fun x e h => (∀ i, x ≠ .exit i) ∧ (sRes e h rs).bind (fun l => frR sz h (evResult l)) = some t
theorem QF_ret {e : Ps} {h : Hp} {sz : Nat} (rs : List SRes) (t : AV) : QF sz rs t .ret e h = ((sRes e h rs).bind (fun l => frR sz h (evResult l)) = some t) := by simp [QF]
theorem QF_norm {e : Ps} {h : Hp} {sz : Nat} (rs : List SRes) (t : AV) : QF sz rs t .norm e h = ((sRes e h rs).bind (fun l => frR sz h (evResult l)) = some t) := by simp [QF]
attribute [go_sem] Option.map_none Option.bind_none frR_snil QF_ret QF_norm
theorem outF_wp {E : Env} {sz : Nat} {g : FuncId} {f : SFn} {args : List AV} {t : AV} (hf : stF E g = some f) (hw : wp E f.body (fun i => args.getD i (.tup [])) Hp.empty (QF sz f.res t)) : ∃ k sz, outF E k sz g args = some t := by
  obtain ⟨x, e', h', hr, h2, h3⟩ := wp_sound _ _ _ _ hw
  obtain ⟨l, h3, h4⟩ := Option.bind_eq_some_iff.1 h3
  obtain ⟨k, hk⟩ := RunF.of (v := evResult l) (h1 := h') hf ⟨x, e', h', hr, h2, rfl, by rw [h3]; rfl⟩
  refine ⟨k, sz, ?_⟩
  simp only [outF, hk, Option.bind_some]
  rw [← h4]
  generalize evResult l = y
  cases y <;> rfl
theorem kApp_rows {α : Type} {bt : Nat} {h : Hp} (T : TD α) {id : Nat} (a b : List α) {x : AV} (hx : rowsIn h T.sz x = some (b.map T.row)) (ha : h.ap id = some (a.length, T.sz)) (hb : (a.length + b.length) * bt ≤ room) :
    sApp false bt T.sz (.app id (a.map T.row)) x h = some (.app id ((a ++ b).map T.row), h.setApp id (a.length + b.length) T.sz) := by
  have hh : headLen T.sz (b.map T.row) = true := by
    cases b with
    | nil => rfl
    | cons v r => simp [headLen, T.len]
  simp only [sApp, hx, Option.bind_some, hh, if_true, frzRows_T, List.length_map, ha, hb, and_self, Bool.false_eq_true, if_false, List.map_append]

/-! ### loops over a list -/
section
variable {α β : Type} {E : Env} {body : SCode} {l : List α}
/-- Where a loop ends earlyL. -/
def earlyL (f : List α → α → Option β) : List α → List α → Option β
  | _, [] => none
  | pre, v :: r => match f pre v with
    | some b => some b
    | none => earlyL f (pre ++ [v]) r
structure At (l pre : List α) (v : α) (rest : List α) : Prop where
  hl : l = pre ++ v :: rest
  lt : pre.length < l.length
  hw : IntKind.wrap .i64 ((pre.length : Int) + 1) = (pre.length : Int) + 1
  mem : v ∈ l
  dl : decide ((pre.length : Int) < (l.length : Int)) = true
theorem at_of {pre rest : List α} {v : α} (hlen : l.length ≤ 9223372036854775806) (hl : l = pre ++ v :: rest) : At l pre v rest := by
  have hlt : pre.length < l.length := by rw [hl]; simp
  exact ⟨hl, hlt, wrapId (by omega) (by omega), by rw [hl]; simp, lt_map hl⟩
theorem At.ia {pre rest : List α} {v : α} (a : At l pre v rest) {row : α → List AV} {sz : Nat} (hr : (row v).length = sz) (h : Hp) : kIa sz (.imm (l.map row)) (.int .i64 pre.length) h = some (.cptr (row v), h) := kIa_map a.hl hr
theorem wl_early (f : List α → α → Option β) (I : List α → Ps → Hp → Prop) (x0 : Ex) (J : Ps → Hp → Prop) (R : β → Ps → Hp → Prop) (hlen : l.length ≤ 9223372036854775806)
    (hgo : ∀ pre v rest e h, At l pre v rest → f pre v = none → I pre e h → wp E body e h fun x e1 h1 => x = .norm ∧ I (pre ++ [v]) e1 h1)
    (hout : ∀ pre v rest b e h, At l pre v rest → f pre v = some b → I pre e h → wp E body e h fun x e1 h1 => x = .ret ∧ R b e1 h1)
    (hend : ∀ e h, I l e h → wp E body e h fun x e1 h1 => x = x0 ∧ J e1 h1) (hx0 : x0 ≠ .norm) :
    ∀ (rest pre : List α) (e : Ps) (h : Hp), l = pre ++ rest → I pre e h → WL E body e h fun x e1 h1 => match earlyL f pre rest with | none => x = x0 ∧ J e1 h1 | some b => x = .ret ∧ R b e1 h1
  | [], pre, e, h, hl, hi => by
    have hp : pre = l := by rw [hl]; simp
    rw [hp] at hi
    refine .step ((wp_sound _ _ _ _ (hend e h hi)).mono ?_)
    rintro x e' h' ⟨rfl, hj⟩
    cases x with
    | norm => exact absurd rfl hx0
    | exit i => exact ⟨rfl, hj⟩
    | ret => exact ⟨rfl, hj⟩
  | v :: rest, pre, e, h, hl, hi => by
    have ha := at_of hlen hl
    simp only [earlyL]
    cases hf : f pre v with
    | none =>
      refine .step ((wp_sound _ _ _ _ (hgo pre v rest e h ha hf hi)).mono ?_)
      rintro _ e1 h1 ⟨rfl, hq⟩
      exact wl_early f I x0 J R hlen hgo hout hend hx0 rest (pre ++ [v]) e1 h1 (by rw [hl]; simp) hq
    | some b =>
      refine .step ((wp_sound _ _ _ _ (hout pre v rest b e h ha hf hi)).mono ?_)
      rintro _ e1 h1 ⟨rfl, hq⟩
      exact ⟨rfl, hq⟩
/-- A test of all. -/
def allP (p : List α → α → Bool) : List α → List α → Bool
  | _, [] => true
  | pre, v :: r => p pre v && allP p (pre ++ [v]) r
theorem allP_all (p : α → Bool) : ∀ (l pre : List α), allP (fun _ v => p v) pre l = l.all p
  | [], _ => rfl
  | v :: l, pre => by simp only [allP, List.all_cons, allP_all p l]
theorem wl_all (p : List α → α → Bool) (I : List α → Ps → Hp → Prop) (x0 : Ex) (J : Ps → Hp → Prop) (R : Ps → Hp → Prop) (hlen : l.length ≤ 9223372036854775806)
    (hgo : ∀ pre v rest e h, At l pre v rest → p pre v = true → I pre e h → wp E body e h fun x e1 h1 => x = .norm ∧ I (pre ++ [v]) e1 h1)
    (hout : ∀ pre v rest e h, At l pre v rest → p pre v = false → I pre e h → wp E body e h fun x e1 h1 => x = .ret ∧ R e1 h1)
    (hend : ∀ e h, I l e h → wp E body e h fun x e1 h1 => x = x0 ∧ J e1 h1) (hx0 : x0 ≠ .norm) :
    ∀ (rest pre : List α) (e : Ps) (h : Hp), l = pre ++ rest → I pre e h → WL E body e h fun x e1 h1 => (allP p pre rest = true ∧ x = x0 ∧ J e1 h1) ∨ (allP p pre rest = false ∧ x = .ret ∧ R e1 h1)
  | [], pre, e, h, hl, hi => by
    have hp : pre = l := by rw [hl]; simp
    rw [hp] at hi
    refine .step ((wp_sound _ _ _ _ (hend e h hi)).mono ?_)
    rintro x e' h' ⟨rfl, hj⟩
    cases x with
    | norm => exact absurd rfl hx0
    | exit i => exact .inl ⟨rfl, rfl, hj⟩
    | ret => exact .inl ⟨rfl, rfl, hj⟩
  | v :: rest, pre, e, h, hl, hi => by
    have ha := at_of hlen hl
    simp only [allP]
    cases hf : p pre v with
    | true =>
      refine .step ((wp_sound _ _ _ _ (hgo pre v rest e h ha hf hi)).mono ?_)
      rintro _ e1 h1 ⟨rfl, hq⟩
      simp only [Bool.true_and]
      exact wl_all p I x0 J R hlen hgo hout hend hx0 rest (pre ++ [v]) e1 h1 (by rw [hl]; simp) hq
    | false =>
      refine .step ((wp_sound _ _ _ _ (hout pre v rest e h ha hf hi)).mono ?_)
      rintro _ e1 h1 ⟨rfl, hq⟩
      exact .inr ⟨rfl, rfl, hq⟩
/-- A round for each, none left out. -/
theorem wl_for (I : List α → Ps → Hp → Prop) (x0 : Ex) (J : Ps → Hp → Prop) (hlen : l.length ≤ 9223372036854775806)
    (hgo : ∀ pre v rest e h, At l pre v rest → I pre e h → wp E body e h fun x e1 h1 => x = .norm ∧ I (pre ++ [v]) e1 h1)
    (hend : ∀ e h, I l e h → wp E body e h fun x e1 h1 => x = x0 ∧ J e1 h1) (hx0 : x0 ≠ .norm) :
    ∀ (rest pre : List α) (e : Ps) (h : Hp), l = pre ++ rest → I pre e h → WL E body e h fun x e1 h1 => x = x0 ∧ J e1 h1
  | [], pre, e, h, hl, hi => by
    have hp : pre = l := by rw [hl]; simp
    rw [hp] at hi
    refine .step ((wp_sound _ _ _ _ (hend e h hi)).mono ?_)
    rintro x e' h' ⟨rfl, hj⟩
    cases x with
    | norm => exact absurd rfl hx0
    | exit i => exact ⟨rfl, hj⟩
    | ret => exact ⟨rfl, hj⟩
  | v :: rest, pre, e, h, hl, hi => by
    refine .step ((wp_sound _ _ _ _ (hgo pre v rest e h (at_of hlen hl) hi)).mono ?_)
    rintro _ e1 h1 ⟨rfl, hq⟩
    exact wl_for I x0 J hlen hgo hend hx0 rest (pre ++ [v]) e1 h1 (by rw [hl]; simp) hq
end
end Go.Ev
/- Slices that grow, in a loop. -/
namespace Go.Ev
open Go Go.RowKit

/-- What stands in a slot that a slice grows in: the rows so far. -/
def grows {α : Type} (T : TD α) (l : List α) (v : AV) (h : Hp) : Prop := (l = [] ∧ v = .snil) ∨ ∃ id, v = .app id (l.map T.row) ∧ h.ap id = some (l.length, T.sz) ∧ id < h.nx
section
variable {α : Type} {T : TD α} {l : List α} {v x : AV} {h h' : Hp}
theorem grows.mono (hg : grows T l v h) (hn : h.nx ≤ h'.nx) (ha : ∀ r, r < h.nx → h'.ap r = h.ap r) : grows T l v h' := by
  rcases hg with hg | ⟨id, h1, h2, h3⟩
  · exact .inl hg
  · exact .inr ⟨id, h1, by rw [ha id h3]; exact h2, by omega⟩
theorem grows_nil (T : TD α) (h : Hp) : grows T [] .snil h := .inl ⟨rfl, rfl⟩
theorem grows_new (T : TD α) (h : Hp) : grows T [] (.app h.nx []) (h.newApp 0 T.sz) := .inr ⟨h.nx, rfl, by simp [Hp.newApp], by simp [Hp.newApp]⟩
theorem grows_app {bt : Nat} {more : List α} (hg : grows T l v h) (hx : rowsIn h T.sz x = some (more.map T.row)) (hb : (l.length + more.length) * bt ≤ room) :
    ∃ v' h', sApp false bt T.sz v x h = some (v', h') ∧ grows T (l ++ more) v' h' ∧ h'.hp = h.hp ∧ h.nx ≤ h'.nx ∧ (∀ r, r < h.nx → (∀ m, v ≠ .app r m) → h'.ap r = h.ap r) := by
  have hh : headLen T.sz (more.map T.row) = true := by
    cases more with
    | nil => rfl
    | cons v r => simp [headLen, T.len]
  rcases hg with ⟨rfl, rfl⟩ | ⟨id, rfl, h2, h3⟩
  · cases more with
    | nil => exact ⟨.snil, h, by simp [sApp, hx, headLen], .inl ⟨rfl, rfl⟩, rfl, Nat.le_refl _, fun _ _ _ => rfl⟩
    | cons a r =>
      simp only [List.length_nil, Nat.zero_add] at hb
      refine ⟨_, h.newApp (a :: r).length T.sz, ?_, .inr ⟨h.nx, rfl, by simp [Hp.newApp], by simp [Hp.newApp]⟩, rfl, by simp [Hp.newApp], fun q hq _ => by simp only [Hp.newApp]; rw [if_neg (by omega)]⟩
      have hf := frzRows_T T (a :: r)
      have he : ((a :: r).map T.row).isEmpty = false := rfl
      simp only [sApp, hx, Option.bind_some, hh, if_true, he, hb, Bool.false_eq_true, if_false, hf, List.length_map, List.nil_append]
  · refine ⟨.app id ((l ++ more).map T.row), h.setApp id (l.length + more.length) T.sz, kApp_rows T l more hx h2 hb, .inr ⟨id, rfl, by simp [Hp.setApp], h3⟩, rfl, Nat.le_refl _, fun r hr hne => ?_⟩
    simp only [Hp.setApp]
    rw [if_neg]
    rintro rfl
    exact hne _ rfl
theorem frR_grows {n : Nat} (hg : grows T l v h) (hn : n = T.sz) : frR n h v = some (.app n (l.map T.row)) := by
  subst hn
  rcases hg with ⟨rfl, rfl⟩ | ⟨id, rfl, h2, _⟩
  · rfl
  · exact frR_app (by rw [List.length_map]; exact h2)
theorem frzE_grows {n : Nat} (hg : grows T l v h) : frzE n h v = some (.imm (l.map T.row)) := by
  rcases hg with ⟨rfl, rfl⟩ | ⟨id, rfl, _, _⟩
  · exact frzE_snil
  · exact frzE_app _ _
theorem frz_grows (hg : grows T l v h) : Ev.frz v = some (.imm (l.map T.row)) := by
  rcases hg with ⟨rfl, rfl⟩ | ⟨id, rfl, _, _⟩ <;> rfl
theorem lenL_grows (hg : grows T l v h) (h2 : Hp) : kLenL v h2 = some (.int .i64 l.length, h2) := by
  rcases hg with ⟨rfl, rfl⟩ | ⟨id, rfl, _, _⟩
  · rfl
  · show some (AV.int .i64 ((l.map T.row).length : Int), h2) = _
    rw [List.length_map]
theorem rowsIn_grows (hg : grows T l v h) (h2 : Hp) : rowsIn h2 T.sz v = some (l.map T.row) := by
  rcases hg with ⟨rfl, rfl⟩ | ⟨id, rfl, _, _⟩ <;> rfl
theorem ia_grows {pre rest : List α} {a : α} {sz : Nat} (hg : grows T l v h) (hl : l = pre ++ a :: rest) (hs : sz = T.sz) (h2 : Hp) : kIa sz v (.int .i64 pre.length) h2 = some (.cptr (T.row a), h2) := by
  subst hs
  rcases hg with ⟨rfl, rfl⟩ | ⟨id, rfl, _, _⟩
  · cases pre <;> simp at hl
  · refine kIa_app (by omega) ?_ (T.len a)
    subst hl
    simp
/-- At an append to a growing slice. -/
theorem hP_grow {E : Env} {c : CallH} {bt n : Nat} {d : Option Nat} {os : List SOper} {e : Ps} {Q : QS} (more : List α) (hn : n = T.sz) (hg : grows T l v h) (hx : rowsIn h T.sz x = some (more.map T.row)) (hb : (l.length + more.length) * bt ≤ room)
    (hw : ∀ v' h', grows T (l ++ more) v' h' → h'.hp = h.hp → h.nx ≤ h'.nx → (∀ r, r < h.nx → (∀ m, v ≠ .app r m) → h'.ap r = h.ap r) → hP (kThen (some (upd? e d v', h')) E c os) Q) : hP (kThen (kOper d (some true) (sApp false bt n v x h) e h) E c os) Q := by
  subst hn
  obtain ⟨v', h', h1, h2, h3, h4, h5⟩ := grows_app (bt := bt) hg hx hb
  rw [h1, kOper_go]
  exact hw v' h' h2 h3 h4 h5
end

/-- Each element by what stands ahead of it. -/
def mapP {α β : Type} (f : List α → α → β) : List α → List α → List β
  | _, [] => []
  | pre, v :: r => f pre v :: mapP f (pre ++ [v]) r
theorem mapP_snoc {α β : Type} (f : List α → α → β) (v : α) : ∀ (l pre : List α), mapP f pre (l ++ [v]) = mapP f pre l ++ [f (pre ++ l) v]
  | [], pre => by simp [mapP]
  | x :: l, pre => by simp only [List.cons_append, mapP, mapP_snoc f v l (pre ++ [x]), List.append_assoc, List.nil_append]
theorem mapP_len {α β : Type} (f : List α → α → β) : ∀ (l pre : List α), (mapP f pre l).length = l.length
  | [], _ => rfl
  | x :: l, pre => by simp [mapP, mapP_len f l]
theorem mapP_nil {α β : Type} (f : List α → α → β) (l : List α) (v : α) : mapP f [] (l ++ [v]) = mapP f [] l ++ [f l v] := by
  have := mapP_snoc f v l []
  simpa using this
end Go.Ev
/- The contract of strings.Split, in the interpreter's form. -/
namespace Go.Ev
open Go Go.RowKit
variable {P : Program} {WI : World → Prop} {f : FuncId}

theorem pure_split {t : TypeId} (he : Enters P f) (h : ∀ (s sep : ByteArray) (w : World), WI w → s.size < 4294967281 → 1 ≤ sep.size → Calls P f #[.string s, .string sep] w fun e w' =>
      e = .returned (.slice (some ⟨w.heap.size, 0, none⟩) (Lib.countB s sep + 1) (Lib.countB s sep + 1)) ∧ w' = w.alloc (.cells ((Lib.splitB sep 0 (Lib.countB s sep) s).map Value.string).toArray t)) :
    PureOK P WI f (c2 strT strT (fun s sep => s.length < 4294967281 ∧ 1 ≤ sep.length) (fun l => .imm (l.map strT.row)) fun s sep => Lib.split s sep) := by
  refine ⟨he, fun w C vs ts t' hwi hsz hargs ht => ?_⟩
  obtain ⟨⟨s, sep⟩, ⟨hp1, hp2⟩, rfl, rfl⟩ := ct_inv ht
  obtain ⟨v, z, rfl, hv, hz⟩ := args2 hsz hargs
  obtain ⟨b, rfl, rfl⟩ := RV.str_inv (s := s) hv
  obtain ⟨d, rfl, rfl⟩ := RV.str_inv (s := sep) hz
  simp only at hp1 hp2
  have hb : b.size = b.data.toList.length := by rw [ByteArray.size, Array.length_toList]
  have hd : d.size = d.data.toList.length := by rw [ByteArray.size, Array.length_toList]
  refine (h b d w hwi (by omega) (by omega)).mono ?_
  rintro e w' ⟨rfl, rfl⟩
  have hlen : (Lib.splitB d 0 (Lib.countB b d) b).length = Lib.countB b d + 1 := Lib.splitB_all d (by omega) 0 _ b rfl
  have hdat : (Lib.splitB d 0 (Lib.countB b d) b).map (·.data.toList) = Lib.split b.data.toList d.data.toList := by
    rw [Lib.splitB_data]
    rfl
  refine ⟨_, rfl, ⟨rfl, rfl, rfl, ?_, fun k hk => ?_⟩, .ri ?_⟩
  · show w.heap.size ≤ (w.heap.push _).size
    simp
  · show (w.heap.push _)[k]? = w.heap[k]?
    rw [Array.getElem?_push_lt hk]
    simp [hk]
  · show RI _ _ _ (.imm ((Lib.split b.data.toList d.data.toList).map strT.row))
    rw [← hdat]
    generalize hl : Lib.splitB d 0 (Lib.countB b d) b = l at hlen
    refine .sl w.heap.size 0 _ _ 1 _ (fun i _ => .string (l.getD i ByteArray.empty)) (by simp [hlen]) (Nat.le_refl _) (fun row hr => ?_) (fun i j hi hj => ⟨.inr (Nat.le_refl _), ?_⟩) (fun i j row c hi hj => ?_)
    · simp only [List.map_map, List.mem_map] at hr
      obtain ⟨x, _, rfl⟩ := hr
      rfl
    · have hj0 : j = 0 := by omega
      subst hj0
      have hil : i < l.length := by omega
      unfold World.cell?
      have hh : (w.alloc (.cells (l.map Value.string).toArray t)).heap[w.heap.size]? = some (.cells (l.map Value.string).toArray t) := by
        show (w.heap.push _)[w.heap.size]? = _
        simp
      simp only [Nat.zero_add, Nat.mul_one, Nat.add_zero, hh]
      simp [hil, List.getD]
    · simp only [List.getElem?_map, Option.map_eq_some_iff] at hi
      obtain ⟨x, ⟨y, h1, rfl⟩, rfl⟩ := hi
      have hj0 : j = 0 := by
        have := (List.getElem?_eq_some_iff.1 hj).1
        simp [strT_row] at this
        omega
      subst hj0
      simp only [strT_row, List.getElem?_cons_zero, Option.some.injEq] at hj
      subst hj
      simp only [List.getD, h1, Option.getD_some]
      exact .str y
end Go.Ev
