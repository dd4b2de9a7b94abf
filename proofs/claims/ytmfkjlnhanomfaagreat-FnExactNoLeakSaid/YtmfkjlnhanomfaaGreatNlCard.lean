/- FnExactNoLeak: whatever arguments it is handed, the law returns true, and they read as before. No condition on the input beyond what the given row lists: the package variables that the row lists hold what the program's text lays in them. -/
import Derived.Test.YtmfkjlnhanomfaaGreatNlP3
import Derived.Test.YtmfkjlnhanomfaaGreatNlShelf
import Derived.Test.YtmfkjlnhanomfaaGreatRows
import Derived.WalkKit
import Derived.ProofKit
import Derived.OpenShut
import Derived.Deep.DeepHandedRow
import Derived.Lib.LaidTab
import Derived.Stop.LaidErr
set_option linter.unusedVariables false
set_option linter.unusedSimpArgs false
set_option linter.unnecessarySimpa false
/- FnExactNoLeak: whatever arguments it is handed, the law returns true, and they read as before. No condition on the input beyond what the given row lists: the package variables that the row lists hold what the program's text lays in them. -/
namespace Go.Proofs.YtmfkjlnhanomfaaGreat.Nl
open Go Go.RowKit Go.Ev Go.ChangeShapes Go.WideShapes Go.ChangeAt
set_option linter.unusedSimpArgs false
set_option linter.unusedVariables false
set_option maxRecDepth 100000
/-- What the law asks of the world. -/
def WI (_w : World) : Prop := True
theorem wiS : Stable WI := fun _ _ _ h => h
theorem ent (g : FuncId) (h : g ∈ isC) : Enters Tryz.prog g := entB_spec entered g h
theorem p_sort_Ints : SortOK Tryz.prog WI 48 C_sort_Ints := sort_ok (ent 48 (by decide)) fun b o c zs w h1 h2 h3 => Tryz.sort_Ints b o c zs w h1 h2 h3
theorem law : PureOK Tryz.prog WI 4 C_law := law_ok wiS p_sort_Ints
theorem own : ownKnob Tryz.prog.godebug = none := by kernel_rfl
theorem laidOut : laidOutB Tryz.prog = true := by kernel_rfl
theorem bulkOK {H : Type} : BulkLaws (Rows.uptoBulk (H := H)) Rows.uptoBulkAll where
  str s := by simp [Rows.uptoBulk]
  one d := by
    cases d with
    | lit l => cases l <;> simp [Rows.uptoBulk]
    | _ => simp [Rows.uptoBulk]
  slice e sp := by simp only [Rows.uptoBulk]; omega
  agg p := by simp only [Rows.uptoBulk]; omega
  cons d r := by simp only [Rows.uptoBulkAll]; omega
theorem plainP : ∀ t ∈ Tryz.f4.params.toList, plainT Tryz.prog 8 t = true ∧ Tryz.prog.readableRec t = true ∧ t < Tryz.prog.types.size := by
  rw [Tryz.params4]
  intro t ht
  obtain rfl : t = 29 := by simpa using ht
  exact ⟨by kernel_rfl, by kernel_rfl, of_decide_eq_true (by kernel_rfl)⟩
theorem wi_row {W : World} (_hS : W.ShapedOpen Tryz.prog) : WI W := by
  exact trivial
theorem contract (H : Type) (enc : TypeId × Value → H) (W : World) (base : Nat) (args : Array Value) (ds gs : List (DataW H)) (before : List MemPlace)
    (hval : ∀ (j : Nat) t v, Tryz.f4.params[j]? = some t → args[j]? = some v → Value.okWide Tryz.prog W .any base t v)
    (hW : DataW.Whole enc Tryz.prog Tryz.f4.params.toList Rows.fnExactNoLeakSpec.vars false W args.toList ds gs before) (hS : W.ShapedOpen Tryz.prog) :
    Calls Tryz.prog 4 args W fun e W' => ∃ v, e = .returned v ∧ Rows.fnExactNoLeakSpec.post enc Tryz.prog Tryz.f4 false true false false W args v W' := by
  have hsp : Rows.fnExactNoLeakSpec.fn H (ds ++ gs) = { results := [.lit (.bool true)], args := ds } := by
    obtain ⟨p, q, hA0, hV, _⟩ := hW
    have hA : DataW.TrodAll enc Tryz.prog W 0 (fun _ => true) true Tryz.f4.params.toList args.toList ds p := hA0
    rw [Tryz.params4] at hA
    obtain ⟨_, _, _, _, _, _, _, rfl, _, _, r0⟩ := trodAll_cons hA
    obtain ⟨_, rfl, _⟩ := trodAll_nil r0
    obtain ⟨rfl, _⟩ := trodVars_none hV
    rfl
  exact row_ok laidOut law bulkOK (n := 8) rfl plainP (bt := 4) (by kernel_rfl) Tryz.underlying4 hsp hval hW (wi_row hS) fun xs h _ => hlaw xs h
noncomputable def laidWorld (os : Os) : World := World.holding Tryz.prog os ⟨#[], #[], []⟩
theorem reads (os : Os) {H : Type} (enc : TypeId × Value → H) : ∃ places, DataW.whole enc Tryz.prog ((laidWorld os).forCall (fun _ _ => 0) ⟨#[], #[.agg #[.slice none 0 0, .slice none 0 0, .slice none 0 0, .int .i64 0, .slice none 0 0, .bool false]], []⟩).memory Tryz.f4.params.toList Rows.fnExactNoLeakSpec.vars false (#[.agg #[.slice none 0 0, .slice none 0 0, .slice none 0 0, .int .i64 0, .slice none 0 0, .bool false]] : Array Value).toList 8 = some ([.agg [.nil, .agg [.nil, .nil, .lit (.int .i64 0), .nil, .lit (.bool false)]]], [], places) :=
  ⟨[], by kernel_rfl⟩
theorem lifted (os : Os) (started : os.Started) (H : Type) (enc : TypeId × Value → H) (F : Stop.Interp) :
    ReturnsInHanded {} Tryz.checked os 4 .any ((OpenSpec.ofChange Rows.fnExactNoLeakSpec).preRow enc Tryz.prog Tryz.f4 Rows.fnExactNoLeakRow.domain false Rows.fnExactNoLeakRow.laid) (((OpenSpec.ofChange Rows.fnExactNoLeakSpec).at F).post enc Tryz.prog Tryz.f4 false true false false) := by
  obtain ⟨places, hx⟩ := reads os enc
  refine returnsInHanded_of_row (C := Tryz.checked) (s := OpenSpec.ofChange Rows.fnExactNoLeakSpec) own started (by kernel_rfl) Tryz.func4
    (witness_row_at (enc := enc) (C := Tryz.checked) false (laidWorld os) #[.agg #[.slice none 0 0, .slice none 0 0, .slice none 0 0, .int .i64 0, .slice none 0 0, .bool false]] rfl (by kernel_rfl) (by kernel_rfl) (by kernel_rfl)
      (OpenSpec.preRow_of_cond 8 hx (by kernel_rfl) (fun k hk => by cases hk) (by kernel_rfl) ⟨[], rfl, List.nodup_nil, fun _ _ h => by cases h⟩)) ?_
  intro W base args ds gs before hval hW _ _ _ _ hS _
  exact contract H enc W base args ds gs before hval hW hS
theorem jf0 : (Rows.fnExactNoLeakRow.wf (OpenSpec.ofChange (OpenSpec.ofChange Rows.fnExactNoLeakSpec).bare)) = true := by kernel_rfl
theorem jf1 : (laidOutB Tryz.checked.prog) = true := by kernel_rfl
theorem jf2 : (mapsRowed Tryz.checked.prog) = true := by kernel_rfl
theorem jf3 : (Tryz.f4.params.all (Tryz.checked.prog.readableRec ·)) = true := by kernel_rfl
theorem jf4 : (namedTie Tryz.checked.prog Rows.fnExactNoLeakRow.named (OpenSpec.ofChange Rows.fnExactNoLeakSpec).bare.vars) = true := by kernel_rfl
theorem jf5 : ((Rows.fnExactNoLeakRow.stops == [])) = true := by kernel_rfl
theorem jf6 : ((Tryz.checked.prog.stops == [])) = true := by kernel_rfl
theorem jf7 : ((Rows.fnExactNoLeakRow.knobs == [])) = true := by kernel_rfl
theorem jf8 : ((Tryz.checked.prog.stopKnobs == [])) = true := by kernel_rfl
theorem jf9 : ((Rows.fnExactNoLeakRow.inPlace == Tryz.checked.prog.inPlace 4)) = true := by kernel_rfl
theorem jf10 : ((Rows.fnExactNoLeakRow.unfollowed == Tryz.checked.prog.unfollowed 4)) = true := by kernel_rfl
theorem jf11 : ((Rows.fnExactNoLeakRow.recurses == Tryz.checked.prog.recurses 4)) = true := by kernel_rfl
theorem jf12 : ((Rows.fnExactNoLeakRow.named == Tryz.checked.prog.varsNamed 4)) = true := by kernel_rfl
theorem jf13 : ((Rows.fnExactNoLeakRow.maps == (Tryz.f4.params.toList ++ (OpenSpec.ofChange Rows.fnExactNoLeakSpec).bare.plain.varTypes Tryz.checked.prog).any (Tryz.checked.prog.mapsRec ·))) = true := by kernel_rfl
theorem jf14 : ((Rows.fnExactNoLeakRow.ifaces == (Tryz.f4.params.toList ++ (OpenSpec.ofChange Rows.fnExactNoLeakSpec).bare.plain.varTypes Tryz.checked.prog).any (Tryz.checked.prog.ifacesRec ·))) = true := by kernel_rfl
theorem jf15 : ((Rows.fnExactNoLeakRow.mapsOut == Tryz.checked.prog.mapsAmong Tryz.f4.resultTypes.toList)) = true := by kernel_rfl
theorem jf16 : ((Rows.fnExactNoLeakRow.loops == (Tryz.f4.params.toList ++ (OpenSpec.ofChange Rows.fnExactNoLeakSpec).bare.plain.varTypes Tryz.checked.prog).any (Tryz.checked.prog.loopsFrom ·))) = true := by kernel_rfl
theorem jf17 : ((Rows.fnExactNoLeakRow.wideKeys == (Tryz.f4.params.toList ++ (OpenSpec.ofChange Rows.fnExactNoLeakSpec).bare.plain.varTypes Tryz.checked.prog ++ Tryz.f4.resultTypes.toList).any (Tryz.checked.prog.wideKeysFrom ·))) = true := by kernel_rfl
theorem jf18 : ((OpenSpec.ofChange Rows.fnExactNoLeakSpec).bare.vars.all (Tryz.checked.prog.varReadable ·)) = true := by kernel_rfl
theorem jf19 : (Tryz.f4.resultTypes.all (fun t => Tryz.checked.prog.readableRec t && decide (t < Tryz.checked.prog.types.size))) = true := by kernel_rfl
theorem jf20 : ((Rows.fnExactNoLeakRow.ifacesOut == Tryz.f4.resultTypes.toList.any (Tryz.checked.prog.ifacesRec ·))) = true := by kernel_rfl
theorem jf21 : ((Rows.fnExactNoLeakRow.loopsOut == Tryz.f4.resultTypes.toList.any (Tryz.checked.prog.loopsFrom ·))) = true := by kernel_rfl
theorem jf22 : ((Rows.fnExactNoLeakRow.plainKeys == Tryz.checked.prog.plainKeys)) = true := by kernel_rfl
theorem jf23 : (Rows.fnExactNoLeakRow.shortTexts.isNone) = true := by kernel_rfl
theorem jf24 : (Tryz.checked.prog.stopsHeard) = true := by kernel_rfl
theorem jf25 : (Tryz.checked.prog.mayEnter) = true := by kernel_rfl
theorem jf26 : ((Rows.fnExactNoLeakRow.lifted == Tryz.checked.prog.liftsFinal)) = true := by kernel_rfl
theorem jf27 : ((Tryz.checked.prog.make == some Rows.fnExactNoLeakRow.make)) = true := by kernel_rfl
theorem jf28 : ((Rows.fnExactNoLeakRow.kinds == (if Rows.fnExactNoLeakRow.domain.isEmpty then [] else Tryz.f4.params.toList.map fun t => match Tryz.checked.prog.underlying t with | some (.int k) => some k | _ => none))) = true := by kernel_rfl
theorem jf29 : ((Rows.fnExactNoLeakRow.pinned == Rows.fnExactNoLeakRow.pinnedBy)) = true := by kernel_rfl
theorem jf30 : ((Rows.fnExactNoLeakRow.veiled == (Tryz.f4.params.toList ++ (OpenSpec.ofChange Rows.fnExactNoLeakSpec).bare.plain.varTypes Tryz.checked.prog ++ Tryz.f4.resultTypes.toList).any (Tryz.checked.prog.veiledRec ·))) = true := by kernel_rfl
theorem jf31 : (Rows.fnExactNoLeakRow.veiledFits Tryz.checked.prog Tryz.f4.params.toList (Tryz.f4.params.toList ++ (OpenSpec.ofChange Rows.fnExactNoLeakSpec).bare.plain.varTypes Tryz.checked.prog ++ Tryz.f4.resultTypes.toList)) = true := by kernel_rfl
theorem jf : joinedFacts Tryz.checked.prog 4 Tryz.f4 (OpenSpec.ofChange Rows.fnExactNoLeakSpec).bare Rows.fnExactNoLeakRow = true := by
  unfold joinedFacts
  simp only [Bool.and_eq_true]
  exact ⟨⟨⟨⟨⟨⟨⟨⟨⟨⟨⟨⟨⟨⟨⟨⟨⟨⟨⟨⟨⟨⟨⟨⟨⟨⟨⟨⟨⟨⟨⟨jf0, jf1⟩, jf2⟩, jf3⟩, jf4⟩, jf5⟩, jf6⟩, jf7⟩, jf8⟩, jf9⟩, jf10⟩, jf11⟩, jf12⟩, jf13⟩, jf14⟩, jf15⟩, jf16⟩, jf17⟩, jf18⟩, jf19⟩, jf20⟩, jf21⟩, jf22⟩, jf23⟩, jf24⟩, jf25⟩, jf26⟩, jf27⟩, jf28⟩, jf29⟩, jf30⟩, jf31⟩
theorem said : Rows.FnExactNoLeakSaid :=
  OpenClaim.holds_of_cond 4 Tryz.f4 rfl rfl rfl rfl rfl rfl rfl ⟨rfl, rfl, rfl, rfl, rfl⟩ rfl rfl rfl rfl rfl (by kernel_rfl) Tryz.func4 jf
    (of_decide_eq_true (by kernel_rfl)) (by unfold Func.isWrapper; first | (rw [if_pos (by decide +kernel)]; kernel_rfl) | (rw [if_neg (by decide +kernel)]; exact ⟨rfl, rfl⟩))
    (fun os started H enc _ F => by rw [OpenClaim.pre_eq_preRow]; exact lifted os started H enc F)
end Go.Proofs.YtmfkjlnhanomfaaGreat.Nl
