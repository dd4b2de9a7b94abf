/- FnRowTexts: whatever arguments it is handed, the law returns true, and they read as before. No condition on the input beyond what the given row lists: the package variables that the row lists hold what the program's text lays in them. -/
import Derived.Test.YtbpafgbehkphoaaDoorRwP2
import Derived.Test.YtbpafgbehkphoaaDoorRwShelf
import Derived.Test.YtbpafgbehkphoaaDoorCards
import Derived.Test.YtbpafgbehkphoaaDoorTie
import Derived.WalkKit
import Derived.ProofKit
import Derived.OpenShut
import Derived.Deep.DeepHandedRow
import Derived.Lib.LaidTab
import Derived.Stop.LaidErr
set_option linter.unusedVariables false
set_option linter.unusedSimpArgs false
/- FnRowTexts: whatever arguments it is handed, the law returns true, and they read as before. No condition on the input beyond what the given row lists: the package variables that the row lists hold what the program's text lays in them. -/
namespace Go.Proofs.YtbpafgbehkphoaaDoor.Rw
open Go Go.RowKit Go.Ev Go.ChangeShapes Go.WideShapes Go.ChangeAt
set_option linter.unusedSimpArgs false
set_option linter.unusedVariables false
set_option maxRecDepth 100000
/-- What the law asks of the world. -/
def WI (w : World) : Prop := (Lib.TabIs Tryd.prog w "internal/strconv.uint64pow10" .u64 Lib.pow10Tab) ∧ (∃ m, w.cell? ⟨0, 0, none⟩ = some (.int .i64 m)) ∧ (ErrIs Tryd.prog "strconv.ErrSyntax" w) ∧ (ErrIs Tryd.prog "strconv.ErrRange" w)
theorem wiS : Stable WI := (stable_and tab_stable (stable_and cell_stable (stable_and err_stable err_stable)))
theorem ent (g : FuncId) (h : g ∈ isC) : Enters Tryd.prog g := entB_spec entered g h
theorem p_strconv_Itoa : PureOK Tryd.prog WI 29 C_strconv_Itoa := pure_itoa (ent 29 (by decide)) fun n w h0 h1 hw => Tryd.strconv_Itoa n h0 h1 w hw.1
theorem p_strings_Contains : PureOK Tryd.prog WI 17 C_strings_Contains := pure_has1 (ent 17 (by decide)) 32 blank has32 fun s w => Tryd.strings_Contains_one s 32 w
theorem p_strings_Join : PureOK Tryd.prog WI 18 C_strings_Join := pure_join (ent 18 (by decide)) [32] (fun a c s w => Tryd.strings_Join_none a c s w) fun bk o c xs s w h1 h2 h3 h4 h5 => Tryd.strings_Join bk o c xs s w h1 h2 h3 h4 h5
theorem p_strings_HasPrefix : PureOK Tryd.prog WI 36 C_strings_HasPrefix := pure_prefix (ent 36 (by decide)) fun s p w => Tryd.strings_HasPrefix s p w
theorem p_strconv_Atoi : PureOK Tryd.prog WI 37 C_strconv_Atoi := pure_atoi (ent 37 (by decide)) (fun s hm v h w => Tryd.strconv_Atoi_ok s hm v h w) (fun s w hw h1 h2 => (hw.2.2.1).elim fun tp h => h.elim fun p hv => (Tryd.strconv_Atoi_syntax_var s h1 h2 tp p w hv).mono fun e w' hN => hN.elim fun N k => ⟨N, k.1, k.2.2.2⟩) (fun s w hw h1 h2 => (hw.2.2.2).elim fun tp h => h.elim fun p hv => (Tryd.strconv_Atoi_range_var s h1 h2 tp p w hv).mono fun e w' hN => hN.elim fun N k => ⟨N, k.1, k.2.2.2⟩)
theorem p_strings_Split : PureOK Tryd.prog WI 21 C_strings_Split := pure_split (ent 21 (by decide)) fun s sep w hw h1 h2 => Tryd.strings_Split s sep _ w h1 hw.2.1.choose_spec h2
theorem law : PureOK Tryd.prog WI 3 C_law := law_ok wiS p_strconv_Itoa p_strings_Contains p_strings_Join p_strings_HasPrefix p_strconv_Atoi p_strings_Split
theorem own : ownKnob Tryd.prog.godebug = none := by kernel_rfl
theorem laidOut : laidOutB Tryd.prog = true := by kernel_rfl
theorem bulkOK {H : Type} : BulkLaws (Rows.uptoBulk (H := H)) Rows.uptoBulkAll where
  str s := by simp [Rows.uptoBulk]
  one d := by
    cases d with
    | lit l => cases l <;> simp [Rows.uptoBulk]
    | _ => simp [Rows.uptoBulk]
  slice e sp := by simp only [Rows.uptoBulk]; omega
  agg p := by simp only [Rows.uptoBulk]; omega
  cons d r := by simp only [Rows.uptoBulkAll]; omega
theorem plainP : ∀ t ∈ Tryd.f3.params.toList, plainT Tryd.prog 8 t = true ∧ Tryd.prog.readableRec t = true ∧ t < Tryd.prog.types.size := by
  rw [Tryd.params3]
  intro t ht
  obtain rfl : t = 22 := by simpa using ht
  exact ⟨by kernel_rfl, by kernel_rfl, of_decide_eq_true (by kernel_rfl)⟩
theorem gTab : Tryd.prog.globalNamed "internal/strconv.uint64pow10" = some 3 := by kernel_rfl
theorem gTabType : (Tryd.prog.globals[3]?).map (·.type) = some 111 := by kernel_rfl
theorem cellsTab : Tryd.prog.cellsOf 111 = 20 := by kernel_rfl
theorem cellsEl : Tryd.prog.cellsOf 96 = 1 := by kernel_rfl
theorem starE : "*" ++ "errors.errorString" = "*errors.errorString" := by decide
theorem rowE (u : TypeId) (h : Tryd.prog.typeName? 3 u = some "*errors.errorString") : u = 120 :=
  typeName_ptr_named (nm := "errors.errorString") (by rw [starE]; kernel_rfl) (by kernel_rfl) (by decide) u (by rw [starE]; exact h)
theorem cellsEs : Tryd.prog.cellsOf 122 = 1 := by kernel_rfl
theorem cellsStr : Tryd.prog.cellsOf 9 = 1 := by kernel_rfl
theorem g_errS : Tryd.prog.globalNamed "strconv.ErrSyntax" = some 1 := by kernel_rfl
theorem gt_errS : (Tryd.prog.globals[1]?).map (·.type) = some 61 := by kernel_rfl
theorem g_errR : Tryd.prog.globalNamed "strconv.ErrRange" = some 2 := by kernel_rfl
theorem gt_errR : (Tryd.prog.globals[2]?).map (·.type) = some 61 := by kernel_rfl
theorem wi_row {W : World} (h : laidMetH Tryd.prog Rows.fnRowTextsRow.laid W) (hS : W.ShapedOpen Tryd.prog) : WI W := by
  have h1 : laidMet Tryd.prog Rows.fnRowTextsRow.laid W := h
  have h2 := h1.tail.tail
  have q_errS : laidMet Tryd.prog Rows.fnRowTextsRow.laid W := h
  have r_errS := q_errS.tail.tail.tail.tail.tail
  obtain ⟨a_errS, s_errS, v_errS, _⟩ := laid_sentinel r_errS g_errS gt_errS Tryd.underlying61 rowE Tryd.underlying120 Tryd.underlying122 rfl rfl Tryd.underlying9 cellsEs cellsStr
  have q_errR : laidMet Tryd.prog Rows.fnRowTextsRow.laid W := h
  have r_errR := q_errR.tail.tail.tail.tail
  obtain ⟨a_errR, s_errR, v_errR, _⟩ := laid_sentinel r_errR g_errR gt_errR Tryd.underlying61 rowE Tryd.underlying120 Tryd.underlying122 rfl rfl Tryd.underlying9 cellsEs cellsStr
  exact ⟨Lib.tabIs_of_head (zs := Lib.pow10Tab) gTab gTabType Tryd.underlying111 Tryd.underlying96 cellsEl cellsTab h2, Tryd.laysM146.s1_3 W hS, ⟨_, _, v_errS⟩, ⟨_, _, v_errR⟩⟩
theorem contract (H : Type) (enc : TypeId × Value → H) (W : World) (base : Nat) (args : Array Value) (ds gs : List (DataW H)) (before : List MemPlace)
    (hval : ∀ (j : Nat) t v, Tryd.f3.params[j]? = some t → args[j]? = some v → Value.okWide Tryd.prog W .any base t v)
    (hW : DataW.Whole enc Tryd.prog Tryd.f3.params.toList Rows.fnRowTextsSpec.vars false W args.toList ds gs before) (hL : laidMetH Tryd.prog Rows.fnRowTextsRow.laid W) (hS : W.ShapedOpen Tryd.prog) :
    Calls Tryd.prog 3 args W fun e W' => ∃ v, e = .returned v ∧ Rows.fnRowTextsSpec.post enc Tryd.prog Tryd.f3 false true false false W args v W' := by
  have hsp : Rows.fnRowTextsSpec.fn H (ds ++ gs) = { results := [.lit (.bool true)], args := ds } := by
    obtain ⟨p, q, hA0, hV, _⟩ := hW
    have hA : DataW.TrodAll enc Tryd.prog W 0 (fun _ => true) true Tryd.f3.params.toList args.toList ds p := hA0
    rw [Tryd.params3] at hA
    obtain ⟨_, _, _, _, _, _, _, rfl, _, _, r0⟩ := trodAll_cons hA
    obtain ⟨_, rfl, _⟩ := trodAll_nil r0
    obtain ⟨rfl, _⟩ := trodVars_none hV
    rfl
  exact row_ok laidOut law bulkOK (n := 8) rfl plainP (bt := 4) (by kernel_rfl) Tryd.underlying4 hsp hval hW (wi_row hL hS) fun xs h _ => hlaw xs h
def tabOf (vs : List Value) : Obj → Obj
  | .cells _ t frozen => .cells vs.toArray t frozen
  | o => o
def tb_6 : List Value := ([0, 1, 28, 2, 29, 14, 24, 3, 30, 22, 20, 15, 25, 17, 4, 8, 31, 27, 13, 23, 21, 19, 16, 7, 26, 12, 18, 6, 11, 5, 10, 9] : List Int).map fun z => .int .u8 z
def tb_7 : List Value := ([0, 1, 56, 2, 57, 49, 28, 3, 61, 58, 42, 50, 38, 29, 17, 4, 62, 47, 59, 36, 45, 43, 51, 22, 53, 39, 33, 30, 24, 18, 12, 5, 63, 55, 48, 27, 60, 41, 37, 16, 46, 35, 44, 21, 52, 32, 23, 11, 54, 26, 40, 15, 34, 20, 31, 10, 25, 14, 19, 9, 13, 8, 7, 6] : List Int).map fun z => .int .u8 z
def tb_3 : List Value := ([1, 10, 100, 1000, 10000, 100000, 1000000, 10000000, 100000000, 1000000000, 10000000000, 100000000000, 1000000000000, 10000000000000, 100000000000000, 1000000000000000, 10000000000000000, 100000000000000000, 1000000000000000000, 10000000000000000000] : List Int).map fun z => .int .u64 z
def tb_5 : List Value := ([128, 191, 160, 191, 128, 159, 144, 191, 128, 143, 0, 0, 0, 0, 0, 0, 0, 0, 0, 0, 0, 0, 0, 0, 0, 0, 0, 0, 0, 0, 0, 0] : List Int).map fun z => .int .u8 z
def tb_4 : List Value := (Go.Pinned.utf8FirstZ : List Nat).map fun (z : Nat) => Value.int .u8 (z : Int)
noncomputable def lowB : Nat := (World.holding Tryd.prog default ⟨#[], #[], []⟩).heap.size
/-- A world for the witness: the settled one, the tables holding what their initialisers lay. -/
noncomputable def laidWorld (os : Os) : World :=
  { World.holding Tryd.prog os ⟨#[.cells #[.string ⟨#[118, 97, 108, 117, 101, 32, 111, 117, 116, 32, 111, 102, 32, 114, 97, 110, 103, 101]⟩] 122, .cells #[.string ⟨#[105, 110, 118, 97, 108, 105, 100, 32, 115, 121, 110, 116, 97, 120]⟩] 122], #[], []⟩ with heap := ((((((((World.holding Tryd.prog os ⟨#[.cells #[.string ⟨#[118, 97, 108, 117, 101, 32, 111, 117, 116, 32, 111, 102, 32, 114, 97, 110, 103, 101]⟩] 122, .cells #[.string ⟨#[105, 110, 118, 97, 108, 105, 100, 32, 115, 121, 110, 116, 97, 120]⟩] 122], #[], []⟩).heap).modify 6 (tabOf tb_6)).modify 7 (tabOf tb_7)).modify 3 (tabOf tb_3)).modify 5 (tabOf tb_5)).modify 2 (tabOf [.iface 120 (.pointer (some ⟨lowB + 0, 0, none⟩))])).modify 1 (tabOf [.iface 120 (.pointer (some ⟨lowB + 1, 0, none⟩))])).modify 4 (tabOf tb_4) }
theorem laid_met (os : Os) : laidMet Tryd.prog Rows.fnRowTextsRow.laid ((laidWorld os).forCall (fun _ _ => 0) ⟨#[], #[.slice none 0 0], []⟩).memory :=
  laidMet_of_run' 8 (by kernel_rfl) (by kernel_rfl)
theorem reads (os : Os) {H : Type} (enc : TypeId × Value → H) : ∃ places, DataW.whole enc Tryd.prog ((laidWorld os).forCall (fun _ _ => 0) ⟨#[], #[.slice none 0 0], []⟩).memory Tryd.f3.params.toList Rows.fnRowTextsSpec.vars false (#[.slice none 0 0] : Array Value).toList 8 = some ([.nil], [], places) :=
  ⟨[], by kernel_rfl⟩
theorem lifted (os : Os) (started : os.Started) (H : Type) (enc : TypeId × Value → H) (F : Stop.Interp) :
    ReturnsInHanded {} Tryd.checked os 3 .any ((OpenSpec.ofChange Rows.fnRowTextsSpec).preRow enc Tryd.prog Tryd.f3 Rows.fnRowTextsRow.domain false Rows.fnRowTextsRow.laid) (((OpenSpec.ofChange Rows.fnRowTextsSpec).at F).post enc Tryd.prog Tryd.f3 false true false false) := by
  obtain ⟨places, hx⟩ := reads os enc
  refine returnsInHanded_of_row (C := Tryd.checked) (s := OpenSpec.ofChange Rows.fnRowTextsSpec) own started (by kernel_rfl) Tryd.func3
    (witness_row_at (enc := enc) (C := Tryd.checked) false (laidWorld os) #[.slice none 0 0] rfl (by kernel_rfl) (by kernel_rfl) (by kernel_rfl)
      (OpenSpec.preRow_of_cond 8 hx (by kernel_rfl) (fun k hk => by cases hk) (by kernel_rfl) (laid_met os))) ?_
  intro W base args ds gs before hval hW _ _ _ hL hS _
  exact contract H enc W base args ds gs before hval hW hL hS
theorem jf0 : (Rows.fnRowTextsRow.wf (OpenSpec.ofChange (OpenSpec.ofChange Rows.fnRowTextsSpec).bare)) = true := by kernel_rfl
theorem jf1 : (laidOutB Tryd.pinned.checked.prog) = true := by kernel_rfl
theorem jf2 : (mapsRowed Tryd.pinned.checked.prog) = true := by kernel_rfl
theorem jf3 : (Tryd.f3.params.all (Tryd.pinned.checked.prog.readableRec ·)) = true := by kernel_rfl
theorem jf4 : (namedTie Tryd.pinned.checked.prog Rows.fnRowTextsRow.named (OpenSpec.ofChange Rows.fnRowTextsSpec).bare.vars) = true := by kernel_rfl
theorem jf5 : ((Rows.fnRowTextsRow.stops == [])) = true := by kernel_rfl
theorem jf6 : ((Tryd.pinned.checked.prog.stops == [])) = true := by kernel_rfl
theorem jf7 : ((Rows.fnRowTextsRow.knobs == [])) = true := by kernel_rfl
theorem jf8 : ((Tryd.pinned.checked.prog.stopKnobs == [])) = true := by kernel_rfl
theorem jf9 : ((Rows.fnRowTextsRow.inPlace == Tryd.pinned.checked.prog.inPlace 3)) = true := by kernel_rfl
theorem jf10 : ((Rows.fnRowTextsRow.unfollowed == Tryd.pinned.checked.prog.unfollowed 3)) = true := by kernel_rfl
theorem jf11 : ((Rows.fnRowTextsRow.recurses == Tryd.pinned.checked.prog.recurses 3)) = true := by kernel_rfl
theorem jf12 : ((Rows.fnRowTextsRow.named == Tryd.pinned.checked.prog.varsNamed 3)) = true := by kernel_rfl
theorem jf13 : ((Rows.fnRowTextsRow.maps == (Tryd.f3.params.toList ++ (OpenSpec.ofChange Rows.fnRowTextsSpec).bare.plain.varTypes Tryd.pinned.checked.prog).any (Tryd.pinned.checked.prog.mapsRec ·))) = true := by kernel_rfl
theorem jf14 : ((Rows.fnRowTextsRow.ifaces == (Tryd.f3.params.toList ++ (OpenSpec.ofChange Rows.fnRowTextsSpec).bare.plain.varTypes Tryd.pinned.checked.prog).any (Tryd.pinned.checked.prog.ifacesRec ·))) = true := by kernel_rfl
theorem jf15 : ((Rows.fnRowTextsRow.mapsOut == Tryd.pinned.checked.prog.mapsAmong Tryd.f3.resultTypes.toList)) = true := by kernel_rfl
theorem jf16 : ((Rows.fnRowTextsRow.loops == (Tryd.f3.params.toList ++ (OpenSpec.ofChange Rows.fnRowTextsSpec).bare.plain.varTypes Tryd.pinned.checked.prog).any (Tryd.pinned.checked.prog.loopsFrom ·))) = true := by kernel_rfl
theorem jf17 : ((Rows.fnRowTextsRow.wideKeys == (Tryd.f3.params.toList ++ (OpenSpec.ofChange Rows.fnRowTextsSpec).bare.plain.varTypes Tryd.pinned.checked.prog ++ Tryd.f3.resultTypes.toList).any (Tryd.pinned.checked.prog.wideKeysFrom ·))) = true := by kernel_rfl
theorem jf18 : ((OpenSpec.ofChange Rows.fnRowTextsSpec).bare.vars.all (Tryd.pinned.checked.prog.varReadable ·)) = true := by kernel_rfl
theorem jf19 : (Tryd.f3.resultTypes.all (fun t => Tryd.pinned.checked.prog.readableRec t && decide (t < Tryd.pinned.checked.prog.types.size))) = true := by kernel_rfl
theorem jf20 : ((Rows.fnRowTextsRow.ifacesOut == Tryd.f3.resultTypes.toList.any (Tryd.pinned.checked.prog.ifacesRec ·))) = true := by kernel_rfl
theorem jf21 : ((Rows.fnRowTextsRow.loopsOut == Tryd.f3.resultTypes.toList.any (Tryd.pinned.checked.prog.loopsFrom ·))) = true := by kernel_rfl
theorem jf22 : ((Rows.fnRowTextsRow.plainKeys == Tryd.pinned.checked.prog.plainKeys)) = true := by kernel_rfl
theorem jf23 : (Rows.fnRowTextsRow.shortTexts.isNone) = true := by kernel_rfl
theorem jf24 : (Tryd.pinned.checked.prog.stopsHeard) = true := by kernel_rfl
theorem jf25 : (Tryd.pinned.checked.prog.mayEnter) = true := by kernel_rfl
theorem jf26 : ((Rows.fnRowTextsRow.lifted == Tryd.pinned.checked.prog.liftsFinal)) = true := by kernel_rfl
theorem jf27 : ((Tryd.pinned.checked.prog.make == some Rows.fnRowTextsRow.make)) = true := by kernel_rfl
theorem jf28 : ((Rows.fnRowTextsRow.kinds == (if Rows.fnRowTextsRow.domain.isEmpty then [] else Tryd.f3.params.toList.map fun t => match Tryd.pinned.checked.prog.underlying t with | some (.int k) => some k | _ => none))) = true := by kernel_rfl
theorem jf29 : ((Rows.fnRowTextsRow.pinned == Rows.fnRowTextsRow.pinnedBy)) = true := by kernel_rfl
theorem jf30 : ((Rows.fnRowTextsRow.veiled == (Tryd.f3.params.toList ++ (OpenSpec.ofChange Rows.fnRowTextsSpec).bare.plain.varTypes Tryd.pinned.checked.prog ++ Tryd.f3.resultTypes.toList).any (Tryd.pinned.checked.prog.veiledRec ·))) = true := by kernel_rfl
theorem jf31 : (Rows.fnRowTextsRow.veiledFits Tryd.pinned.checked.prog Tryd.f3.params.toList (Tryd.f3.params.toList ++ (OpenSpec.ofChange Rows.fnRowTextsSpec).bare.plain.varTypes Tryd.pinned.checked.prog ++ Tryd.f3.resultTypes.toList)) = true := by kernel_rfl
theorem jf : joinedFacts Tryd.pinned.checked.prog 3 Tryd.f3 (OpenSpec.ofChange Rows.fnRowTextsSpec).bare Rows.fnRowTextsRow = true := by
  unfold joinedFacts
  simp only [Bool.and_eq_true]
  exact ⟨⟨⟨⟨⟨⟨⟨⟨⟨⟨⟨⟨⟨⟨⟨⟨⟨⟨⟨⟨⟨⟨⟨⟨⟨⟨⟨⟨⟨⟨⟨jf0, jf1⟩, jf2⟩, jf3⟩, jf4⟩, jf5⟩, jf6⟩, jf7⟩, jf8⟩, jf9⟩, jf10⟩, jf11⟩, jf12⟩, jf13⟩, jf14⟩, jf15⟩, jf16⟩, jf17⟩, jf18⟩, jf19⟩, jf20⟩, jf21⟩, jf22⟩, jf23⟩, jf24⟩, jf25⟩, jf26⟩, jf27⟩, jf28⟩, jf29⟩, jf30⟩, jf31⟩
theorem said : Rows.FnRowTextsSaid :=
  OpenClaim.holds_of_cond 3 Tryd.f3 rfl rfl rfl rfl rfl rfl rfl ⟨rfl, rfl, rfl, rfl, rfl⟩ rfl rfl rfl rfl rfl (by kernel_rfl) Tryd.func3 jf
    (of_decide_eq_true (by kernel_rfl)) (by unfold Func.isWrapper; first | (rw [if_pos (by decide +kernel)]; kernel_rfl) | (rw [if_neg (by decide +kernel)]; exact ⟨rfl, rfl⟩))
    (fun os started H enc _ F => by rw [OpenClaim.pre_eq_preRow]; exact lifted os started H enc F)
theorem plain (f : FuncId) (fn : Func) (hf : Tryd.pinned.checked.prog.funcNamed "loop.example/g00322/laws.FnRowTexts" = some f) (hfn : Tryd.pinned.checked.prog.funcs[f]? = some fn) :
    true = Tryd.pinned.checked.prog.looks [] ∧ ∀ (j : Nat) t, fn.params[j]? = some t → Tryd.pinned.checked.prog.wantsStandIn t = false := by
  obtain rfl : f = 3 := Option.some.inj ((show Tryd.prog.funcNamed "loop.example/g00322/laws.FnRowTexts" = some 3 by kernel_rfl).symm.trans hf) |>.symm
  obtain rfl : fn = Tryd.f3 := (Option.some.inj (Tryd.func3.symm.trans hfn)).symm
  refine ⟨by kernel_rfl, fun j t ht => ?_⟩
  rw [Tryd.params3] at ht
  have ht' := Array.mem_of_getElem? ht
  obtain rfl : t = 22 := by simpa using ht'
  exact (show Tryd.prog.wantsStandIn 22 = false by kernel_rfl)
/-- The card. -/
theorem card : Rows.FnRowTextsCardSaid :=
  Claim7.holds_tied_plain_at .later [] _ _ _ _ said (fun _ h => by cases h) (by kernel_rfl) (fun _ h => by cases h) fnRowTexts_row_tie rfl ⟨rfl, rfl⟩ (by kernel_rfl) rfl plain (by kernel_rfl)
end Go.Proofs.YtbpafgbehkphoaaDoor.Rw
