/- FnExactRowText: whatever row it is handed, the law returns true and the row reads as before; no condition on the input beyond what the given row lists: the package's three tables hold what the program's text lays in them. -/
import Derived.Test.YtgjdkcjijmdfoaaDoorRtB
import Derived.Test.YtgjdkcjijmdfoaaDoorShelf
import Derived.Test.YtgjdkcjijmdfoaaDoorCards
import Derived.Test.YtgjdkcjijmdfoaaDoorTie
import Derived.WalkKit
import Derived.ProofKit
import Derived.OpenShut
import Derived.Deep.DeepHandedRow
import Derived.Lib.LaidTab
import Derived.Stop.LaidErr
/- FnExactRowText: the row and its card. -/
namespace Go.Proofs.YtgjdkcjijmdfoaaDoor.Rt
open Go Go.RowKit Go.Ev Go.ChangeShapes Go.WideShapes Go.ChangeAt
set_option linter.unusedSimpArgs false
set_option maxRecDepth 100000

/-- What the law asks of the world: the table of powers of ten. -/
def WI (w : World) : Prop := Lib.TabIs Tryd.prog w "internal/strconv.uint64pow10" .u64 Lib.pow10Tab
theorem tab_stable {P : Program} {name : String} {k : IntKind} {zs : List Int} : Stable fun w => Lib.TabIs P w name k zs := by
  intro w w' hb h
  unfold Lib.TabIs World.var? at h ⊢
  cases hg : P.globalNamed name with
  | none => rw [hg] at h; exact h
  | some g =>
    rw [hg] at h
    simp only [Option.bind_some] at h ⊢
    rw [hb.block g ?_]
    · exact h
    · rcases Nat.lt_or_ge g w.heap.size with hlt | hge
      · exact hlt
      · rw [Array.getElem?_eq_none hge] at h
        cases h
theorem wiS : Stable WI := tab_stable

theorem ent (g : FuncId) (h : g ∈ isC) : Enters Tryd.prog g := entB_spec entered g h
theorem ok57 : PureOK Tryd.prog WI 57 C57 := pure_itoa (ent 57 (by decide)) fun n w h0 h1 hw => Tryd.strconv_Itoa n h0 h1 w hw
theorem ok34 : PureOK Tryd.prog WI 34 C34 := pure_has1 (ent 34 (by decide)) 32 blank has32 fun s w => Tryd.strings_Contains_one s 32 w
theorem ok35 : PureOK Tryd.prog WI 35 C35 := pure_join (ent 35 (by decide)) [32] (fun a c s w => Tryd.strings_Join_none a c s w) fun bk o c xs s w h1 h2 h3 h4 h5 => Tryd.strings_Join bk o c xs s w h1 h2 h3 h4 h5
theorem law : PureOK Tryd.prog WI 3 C3 := ok3 wiS ok57 ok34 ok35

theorem own : ownKnob Tryd.prog.godebug = none := by kernel_rfl
theorem laidOut : laidOutB Tryd.prog = true := by kernel_rfl
theorem bulkOK {H : Type} : BulkLaws (Rows.uptoBulk (H := H)) Rows.uptoBulkAll where
  str s := by simp [Rows.uptoBulk]
  one d := by
    cases d with
    | lit l => cases l <;> simp [Rows.uptoBulk]
    | _ => simp [Rows.uptoBulk]
  slice e sp := by simp only [Rows.uptoBulk]; omega
  agg p := by simp only [Rows.uptoBulk]; omega
  cons d r := by simp only [Rows.uptoBulkAll]; omega

theorem shp_val {n : Nat} {r : List AV} (h : shp Tryd.prog (n + 2) 56 r) : ∃ v : VV, r = v.row ∧ v.s.length ≤ 9223372036854775807 := by
  obtain ⟨_, _, rfl, h1, _, _, rfl, h2, _, _, rfl, h3, rfl⟩ := shp_struct Tryd.underlying56 h
  obtain ⟨k, rfl, _⟩ := shp_int Tryd.underlying3 h1
  obtain ⟨m, rfl, _⟩ := shp_int Tryd.underlying3 h2
  obtain ⟨s, rfl, hs⟩ := shp_str Tryd.underlying9 h3
  exact ⟨⟨k, m, s⟩, rfl, hs⟩
theorem shp_vals {n : Nat} {x : AV} (h : shp Tryd.prog (n + 3) 22 [x]) : ∃ l : List VV, x = .imm (l.map VV.row) ∧ l.length ≤ 9223372036854775807 ∧ ∀ v ∈ l, v.s.length ≤ 9223372036854775807 := by
  obtain ⟨rows, hx, hl, hr⟩ := shp_slice Tryd.underlying22 h
  obtain ⟨l, h1, h2, h3⟩ := rows_of fun r hr' => shp_val (hr r hr')
  refine ⟨l, ?_, by omega, h3⟩
  rw [← h1]
  exact List.head_eq_of_cons_eq hx

theorem hlaw (xs : List AV) (h : shpAs Tryd.prog 8 Tryd.f3.params.toList xs) : C3 xs = some (.bool true) := by
  rw [Tryd.params3] at h
  obtain ⟨x, r, rfl, h1, h2⟩ := h
  have hr : r = [] := h2
  subst hr
  obtain ⟨l, rfl, h3, h4⟩ := shp_vals (n := 5) (shpA_one (fun fs e => by rw [Tryd.underlying22] at e; cases e) h1)
  unfold C3
  exact ct_eq (a := l) (fun _ _ => rows1) ⟨h3, h4⟩
theorem plain3 : ∀ t ∈ Tryd.f3.params.toList, plainT Tryd.prog 8 t = true ∧ Tryd.prog.readableRec t = true ∧ t < Tryd.prog.types.size := by
  rw [Tryd.params3]
  intro t ht
  obtain rfl : t = 22 := by simpa using ht
  exact ⟨by kernel_rfl, by kernel_rfl, of_decide_eq_true (by kernel_rfl)⟩

theorem gTab : Tryd.prog.globalNamed "internal/strconv.uint64pow10" = some 3 := by kernel_rfl
theorem gTabType : (Tryd.prog.globals[3]?).map (·.type) = some 176 := by kernel_rfl
theorem cells176 : Tryd.prog.cellsOf 176 = 20 := by kernel_rfl
theorem cells160 : Tryd.prog.cellsOf 160 = 1 := by kernel_rfl
theorem wi_laid {W : World} (h : laidMetH Tryd.prog Rows.fnExactRowTextRow.laid W) : WI W := by
  have h1 : laidMet Tryd.prog Rows.fnExactRowTextRow.laid W := h
  have h2 := h1.tail.tail
  exact Lib.tabIs_of_head (rest := []) (zs := Lib.pow10Tab) gTab gTabType Tryd.underlying176 Tryd.underlying160 cells160 cells176 h2

theorem contract (H : Type) (enc : TypeId × Value → H) (W : World) (base : Nat) (args : Array Value) (ds gs : List (DataW H)) (before : List MemPlace)
    (hval : ∀ (j : Nat) t v, Tryd.f3.params[j]? = some t → args[j]? = some v → Value.okWide Tryd.prog W .any base t v)
    (hW : DataW.Whole enc Tryd.prog Tryd.f3.params.toList Rows.fnExactRowTextSpec.vars false W args.toList ds gs before) (hL : laidMetH Tryd.prog Rows.fnExactRowTextRow.laid W) :
    Calls Tryd.prog 3 args W fun e W' => ∃ v, e = .returned v ∧ Rows.fnExactRowTextSpec.post enc Tryd.prog Tryd.f3 false true false false W args v W' := by
  have hsp : Rows.fnExactRowTextSpec.fn H (ds ++ gs) = { results := [.lit (.bool true)], args := ds } := by
    obtain ⟨p, q, hA0, hV, _⟩ := hW
    have hA : DataW.TrodAll enc Tryd.prog W 0 (fun _ => true) true Tryd.f3.params.toList args.toList ds p := hA0
    rw [Tryd.params3] at hA
    obtain ⟨v0, vs0, d0, ds0, p0, q0, _, rfl, _, _, r0⟩ := trodAll_cons hA
    obtain ⟨_, rfl, _⟩ := trodAll_nil r0
    obtain ⟨rfl, _⟩ := trodVars_none hV
    rfl
  exact row_ok laidOut law bulkOK (n := 8) rfl plain3 (bt := 4) (by kernel_rfl) Tryd.underlying4 hsp hval hW (wi_laid hL) fun xs h _ => hlaw xs h
end Go.Proofs.YtgjdkcjijmdfoaaDoor.Rt
/- FnExactRowText: whatever row it is handed, the law returns true, and the row reads as before. No condition on the input beyond what the given row lists: the package's three tables hold what the program's text lays in them. -/
namespace Go.Proofs.YtgjdkcjijmdfoaaDoor.Rt
open Go Go.RowKit Go.Ev Go.ChangeShapes Go.WideShapes Go.ChangeAt
set_option maxRecDepth 100000

def tabOf (k : IntKind) (zs : List Int) : Obj → Obj
  | .cells _ t frozen => .cells (zs.map fun z => Value.int k z).toArray t frozen
  | o => o
def tab32 : List Int := [0, 1, 28, 2, 29, 14, 24, 3, 30, 22, 20, 15, 25, 17, 4, 8, 31, 27, 13, 23, 21, 19, 16, 7, 26, 12, 18, 6, 11, 5, 10, 9]
def tab64 : List Int := [0, 1, 56, 2, 57, 49, 28, 3, 61, 58, 42, 50, 38, 29, 17, 4, 62, 47, 59, 36, 45, 43, 51, 22, 53, 39, 33, 30, 24, 18, 12, 5, 63, 55, 48, 27, 60, 41, 37, 16, 46, 35, 44, 21, 52, 32, 23, 11, 54, 26, 40, 15, 34, 20, 31, 10, 25, 14, 19, 9, 13, 8, 7, 6]
/-- A world for the witness: the settled one, the tables holding what their initialisers lay. -/
noncomputable def laidWorld (os : Os) : World :=
  { World.holding Tryd.prog os ⟨#[], #[], []⟩ with heap := (((World.holding Tryd.prog os ⟨#[], #[], []⟩).heap.modify 3 (tabOf .u64 Lib.pow10Tab)).modify 6 (tabOf .u8 tab32)).modify 7 (tabOf .u8 tab64) }
theorem laid_met (os : Os) : laidMet Tryd.prog Rows.fnExactRowTextRow.laid ((laidWorld os).forCall (fun _ _ => 0) ⟨#[], #[.slice none 0 0], []⟩).memory :=
  laidMet_of_run' 8 (by kernel_rfl) (by kernel_rfl)
theorem reads (os : Os) {H : Type} (enc : TypeId × Value → H) : ∃ places, DataW.whole enc Tryd.prog ((laidWorld os).forCall (fun _ _ => 0) ⟨#[], #[.slice none 0 0], []⟩).memory Tryd.f3.params.toList Rows.fnExactRowTextSpec.vars false #[Value.slice none 0 0].toList 8 = some ([.nil], [], places) :=
  ⟨[], by kernel_rfl⟩

theorem lifted (os : Os) (started : os.Started) (H : Type) (enc : TypeId × Value → H) (F : Stop.Interp) :
    ReturnsInHanded {} Tryd.checked os 3 .any ((OpenSpec.ofChange Rows.fnExactRowTextSpec).preRow enc Tryd.prog Tryd.f3 Rows.fnExactRowTextRow.domain false Rows.fnExactRowTextRow.laid) (((OpenSpec.ofChange Rows.fnExactRowTextSpec).at F).post enc Tryd.prog Tryd.f3 false true false false) := by
  obtain ⟨places, hx⟩ := reads os enc
  refine returnsInHanded_of_row (C := Tryd.checked) (s := OpenSpec.ofChange Rows.fnExactRowTextSpec) own started (by kernel_rfl) Tryd.func3
    (witness_row_at (enc := enc) (C := Tryd.checked) false (laidWorld os) #[.slice none 0 0] rfl (by kernel_rfl) (by kernel_rfl) (by kernel_rfl)
      (OpenSpec.preRow_of_cond 8 hx (by kernel_rfl) (fun k hk => by cases hk) (by kernel_rfl) (laid_met os))) ?_
  intro W base args ds gs before hval hW _ _ _ hL _ _
  exact contract H enc W base args ds gs before hval hW hL

theorem said : Rows.FnExactRowTextSaid :=
  OpenClaim.holds_of_cond 3 Tryd.f3 rfl rfl rfl rfl rfl rfl rfl ⟨rfl, rfl, rfl, rfl, rfl⟩ rfl rfl rfl rfl rfl (by kernel_rfl) Tryd.func3 (by kernel_rfl)
    (of_decide_eq_true (by kernel_rfl)) (by unfold Func.isWrapper; first | (rw [if_pos (by decide +kernel)]; kernel_rfl) | (rw [if_neg (by decide +kernel)]; exact ⟨rfl, rfl⟩))
    (fun os started H enc _ F => by rw [OpenClaim.pre_eq_preRow]; exact lifted os started H enc F)

theorem plain (f : FuncId) (fn : Func) (hf : Tryd.pinned.checked.prog.funcNamed "loop.example/g00322/laws.FnExactRowText" = some f) (hfn : Tryd.pinned.checked.prog.funcs[f]? = some fn) :
    true = Tryd.pinned.checked.prog.looks [] ∧ ∀ (j : Nat) t, fn.params[j]? = some t → Tryd.pinned.checked.prog.wantsStandIn t = false := by
  obtain rfl : f = 3 := Option.some.inj ((show Tryd.prog.funcNamed "loop.example/g00322/laws.FnExactRowText" = some 3 by kernel_rfl).symm.trans hf) |>.symm
  obtain rfl : fn = Tryd.f3 := (Option.some.inj (Tryd.func3.symm.trans hfn)).symm
  refine ⟨by kernel_rfl, fun j t ht => ?_⟩
  rw [Tryd.params3] at ht
  obtain rfl : t = 22 := by simpa using Array.mem_of_getElem? ht
  exact (show Tryd.prog.wantsStandIn 22 = false by kernel_rfl)

/-- The card. -/
theorem card : Rows.FnExactRowTextCardSaid :=
  Claim7.holds_tied_plain_at .later [] _ _ _ _ said (fun _ h => by cases h) (by kernel_rfl) (fun _ h => by cases h) fnExactRowText_row_tie rfl ⟨rfl, rfl⟩ (by kernel_rfl) rfl plain (by kernel_rfl)
end Go.Proofs.YtgjdkcjijmdfoaaDoor.Rt
