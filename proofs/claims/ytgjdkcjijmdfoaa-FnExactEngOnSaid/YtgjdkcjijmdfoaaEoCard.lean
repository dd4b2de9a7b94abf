/- FnExactEngOn: whatever arguments it is handed, the law returns true, and they read as before. No condition on the input beyond what the given row lists: the package variables that the row lists hold what the program's text lays in them. -/
import Derived.Test.YtgjdkcjijmdfoaaEoP2
import Derived.Test.YtgjdkcjijmdfoaaRows
import Derived.WalkKit
import Derived.ProofKit
import Derived.OpenShut
import Derived.Deep.DeepHandedRow
import Derived.Lib.LaidTab
import Derived.Stop.LaidErr
set_option linter.unusedVariables false
set_option linter.unusedSimpArgs false
set_option linter.unnecessarySimpa false
/- FnExactEngOn: whatever arguments it is handed, the law returns true, and they read as before. No condition on the input beyond what the given row lists: the package variables that the row lists hold what the program's text lays in them. -/
namespace Go.Proofs.Ytgjdkcjijmdfoaa.Eo
open Go Go.RowKit Go.Ev Go.ChangeShapes Go.WideShapes Go.ChangeAt
set_option linter.unusedSimpArgs false
set_option linter.unusedVariables false
set_option maxRecDepth 100000
/-- What the law asks of the world. -/
def WI (_w : World) : Prop := True
theorem wiS : Stable WI := fun _ _ _ h => h
theorem law : PureOK Try.prog WI 3 C_law := law_ok wiS
theorem own : ownKnob Try.prog.godebug = none := by kernel_rfl
theorem laidOut : laidOutB Try.prog = true := by kernel_rfl
theorem bulkOK {H : Type} : BulkLaws (Rows.uptoBulk (H := H)) Rows.uptoBulkAll where
  str s := by simp [Rows.uptoBulk]
  one d := by
    cases d with
    | lit l => cases l <;> simp [Rows.uptoBulk]
    | _ => simp [Rows.uptoBulk]
  slice e sp := by simp only [Rows.uptoBulk]; omega
  agg p := by simp only [Rows.uptoBulk]; omega
  cons d r := by simp only [Rows.uptoBulkAll]; omega
theorem plainP : ∀ t ∈ Try.f3.params.toList, plainT Try.prog 8 t = true ∧ Try.prog.readableRec t = true ∧ t < Try.prog.types.size := by
  rw [Try.params3]
  intro t ht
  obtain rfl : t = 29 := by simpa using ht
  exact ⟨by kernel_rfl, by kernel_rfl, of_decide_eq_true (by kernel_rfl)⟩
theorem wi_row {W : World} (_hS : W.ShapedOpen Try.prog) : WI W := by
  exact trivial
theorem contract (H : Type) (enc : TypeId × Value → H) (W : World) (base : Nat) (args : Array Value) (ds gs : List (DataW H)) (before : List MemPlace)
    (hval : ∀ (j : Nat) t v, Try.f3.params[j]? = some t → args[j]? = some v → Value.okWide Try.prog W .any base t v)
    (hW : DataW.Whole enc Try.prog Try.f3.params.toList Rows.fnExactEngOnSpec.vars false W args.toList ds gs before) (hS : W.ShapedOpen Try.prog) :
    Calls Try.prog 3 args W fun e W' => ∃ v, e = .returned v ∧ Rows.fnExactEngOnSpec.post enc Try.prog Try.f3 false true false false W args v W' := by
  have hsp : Rows.fnExactEngOnSpec.fn H (ds ++ gs) = { results := [.lit (.bool true)], args := ds } := by
    obtain ⟨p, q, hA0, hV, _⟩ := hW
    have hA : DataW.TrodAll enc Try.prog W 0 (fun _ => true) true Try.f3.params.toList args.toList ds p := hA0
    rw [Try.params3] at hA
    obtain ⟨_, _, _, _, _, _, _, rfl, _, _, r0⟩ := trodAll_cons hA
    obtain ⟨_, rfl, _⟩ := trodAll_nil r0
    obtain ⟨rfl, _⟩ := trodVars_none hV
    rfl
  exact row_ok laidOut law bulkOK (n := 8) rfl plainP (bt := 4) (by kernel_rfl) Try.underlying4 hsp hval hW (wi_row hS) fun xs h _ => hlaw xs h
noncomputable def laidWorld (os : Os) : World := World.holding Try.prog os ⟨#[], #[], []⟩
theorem reads (os : Os) {H : Type} (enc : TypeId × Value → H) : ∃ places, DataW.whole enc Try.prog ((laidWorld os).forCall (fun _ _ => 0) ⟨#[], #[.agg #[.slice none 0 0, .slice none 0 0, .slice none 0 0, .int .i64 0, .slice none 0 0, .bool false]], []⟩).memory Try.f3.params.toList Rows.fnExactEngOnSpec.vars false (#[.agg #[.slice none 0 0, .slice none 0 0, .slice none 0 0, .int .i64 0, .slice none 0 0, .bool false]] : Array Value).toList 8 = some ([.agg [.nil, .agg [.nil, .nil, .lit (.int .i64 0), .nil, .lit (.bool false)]]], [], places) :=
  ⟨[], by kernel_rfl⟩
theorem lifted (os : Os) (started : os.Started) (H : Type) (enc : TypeId × Value → H) (F : Stop.Interp) :
    ReturnsInHanded {} Try.checked os 3 .any ((OpenSpec.ofChange Rows.fnExactEngOnSpec).preRow enc Try.prog Try.f3 Rows.fnExactEngOnRow.domain false Rows.fnExactEngOnRow.laid) (((OpenSpec.ofChange Rows.fnExactEngOnSpec).at F).post enc Try.prog Try.f3 false true false false) := by
  obtain ⟨places, hx⟩ := reads os enc
  refine returnsInHanded_of_row (C := Try.checked) (s := OpenSpec.ofChange Rows.fnExactEngOnSpec) own started (by kernel_rfl) Try.func3
    (witness_row_at (enc := enc) (C := Try.checked) false (laidWorld os) #[.agg #[.slice none 0 0, .slice none 0 0, .slice none 0 0, .int .i64 0, .slice none 0 0, .bool false]] rfl (by kernel_rfl) (by kernel_rfl) (by kernel_rfl)
      (OpenSpec.preRow_of_cond 8 hx (by kernel_rfl) (fun k hk => by cases hk) (by kernel_rfl) ⟨[], rfl, List.nodup_nil, fun _ _ h => by cases h⟩)) ?_
  intro W base args ds gs before hval hW _ _ _ _ hS _
  exact contract H enc W base args ds gs before hval hW hS
theorem jf0 : (Rows.fnExactEngOnRow.wf (OpenSpec.ofChange (OpenSpec.ofChange Rows.fnExactEngOnSpec).bare)) = true := by kernel_rfl
theorem jf1 : (laidOutB Try.checked.prog) = true := by kernel_rfl
theorem jf2 : (mapsRowed Try.checked.prog) = true := by kernel_rfl
theorem jf3 : (Try.f3.params.all (Try.checked.prog.readableRec ·)) = true := by kernel_rfl
theorem jf4 : (namedTie Try.checked.prog Rows.fnExactEngOnRow.named (OpenSpec.ofChange Rows.fnExactEngOnSpec).bare.vars) = true := by kernel_rfl
theorem jf5 : ((Rows.fnExactEngOnRow.stops == [])) = true := by kernel_rfl
theorem jf6 : ((Try.checked.prog.stops == [])) = true := by kernel_rfl
theorem jf7 : ((Rows.fnExactEngOnRow.knobs == [])) = true := by kernel_rfl
theorem jf8 : ((Try.checked.prog.stopKnobs == [])) = true := by kernel_rfl
theorem jf9 : ((Rows.fnExactEngOnRow.inPlace == Try.checked.prog.inPlace 3)) = true := by kernel_rfl
theorem jf10 : ((Rows.fnExactEngOnRow.unfollowed == Try.checked.prog.unfollowed 3)) = true := by kernel_rfl
theorem jf11 : ((Rows.fnExactEngOnRow.recurses == Try.checked.prog.recurses 3)) = true := by kernel_rfl
theorem jf12 : ((Rows.fnExactEngOnRow.named == Try.checked.prog.varsNamed 3)) = true := by kernel_rfl
theorem jf13 : ((Rows.fnExactEngOnRow.maps == (Try.f3.params.toList ++ (OpenSpec.ofChange Rows.fnExactEngOnSpec).bare.plain.varTypes Try.checked.prog).any (Try.checked.prog.mapsRec ·))) = true := by kernel_rfl
theorem jf14 : ((Rows.fnExactEngOnRow.ifaces == (Try.f3.params.toList ++ (OpenSpec.ofChange Rows.fnExactEngOnSpec).bare.plain.varTypes Try.checked.prog).any (Try.checked.prog.ifacesRec ·))) = true := by kernel_rfl
theorem jf15 : ((Rows.fnExactEngOnRow.mapsOut == Try.checked.prog.mapsAmong Try.f3.resultTypes.toList)) = true := by kernel_rfl
theorem jf16 : ((Rows.fnExactEngOnRow.loops == (Try.f3.params.toList ++ (OpenSpec.ofChange Rows.fnExactEngOnSpec).bare.plain.varTypes Try.checked.prog).any (Try.checked.prog.loopsFrom ·))) = true := by kernel_rfl
theorem jf17 : ((Rows.fnExactEngOnRow.wideKeys == (Try.f3.params.toList ++ (OpenSpec.ofChange Rows.fnExactEngOnSpec).bare.plain.varTypes Try.checked.prog ++ Try.f3.resultTypes.toList).any (Try.checked.prog.wideKeysFrom ·))) = true := by kernel_rfl
theorem jf18 : ((OpenSpec.ofChange Rows.fnExactEngOnSpec).bare.vars.all (Try.checked.prog.varReadable ·)) = true := by kernel_rfl
theorem jf19 : (Try.f3.resultTypes.all (fun t => Try.checked.prog.readableRec t && decide (t < Try.checked.prog.types.size))) = true := by kernel_rfl
theorem jf20 : ((Rows.fnExactEngOnRow.ifacesOut == Try.f3.resultTypes.toList.any (Try.checked.prog.ifacesRec ·))) = true := by kernel_rfl
theorem jf21 : ((Rows.fnExactEngOnRow.loopsOut == Try.f3.resultTypes.toList.any (Try.checked.prog.loopsFrom ·))) = true := by kernel_rfl
theorem jf22 : ((Rows.fnExactEngOnRow.plainKeys == Try.checked.prog.plainKeys)) = true := by kernel_rfl
theorem jf23 : (Rows.fnExactEngOnRow.shortTexts.isNone) = true := by kernel_rfl
theorem jf24 : (Try.checked.prog.stopsHeard) = true := by kernel_rfl
theorem jf25 : (Try.checked.prog.mayEnter) = true := by kernel_rfl
theorem jf26 : ((Rows.fnExactEngOnRow.lifted == Try.checked.prog.liftsFinal)) = true := by kernel_rfl
theorem jf27 : ((Try.checked.prog.make == some Rows.fnExactEngOnRow.make)) = true := by kernel_rfl
theorem jf28 : ((Rows.fnExactEngOnRow.kinds == (if Rows.fnExactEngOnRow.domain.isEmpty then [] else Try.f3.params.toList.map fun t => match Try.checked.prog.underlying t with | some (.int k) => some k | _ => none))) = true := by kernel_rfl
theorem jf29 : ((Rows.fnExactEngOnRow.pinned == Rows.fnExactEngOnRow.pinnedBy)) = true := by kernel_rfl
theorem jf30 : ((Rows.fnExactEngOnRow.veiled == (Try.f3.params.toList ++ (OpenSpec.ofChange Rows.fnExactEngOnSpec).bare.plain.varTypes Try.checked.prog ++ Try.f3.resultTypes.toList).any (Try.checked.prog.veiledRec ·))) = true := by kernel_rfl
theorem jf31 : (Rows.fnExactEngOnRow.veiledFits Try.checked.prog Try.f3.params.toList (Try.f3.params.toList ++ (OpenSpec.ofChange Rows.fnExactEngOnSpec).bare.plain.varTypes Try.checked.prog ++ Try.f3.resultTypes.toList)) = true := by kernel_rfl
theorem jf : joinedFacts Try.checked.prog 3 Try.f3 (OpenSpec.ofChange Rows.fnExactEngOnSpec).bare Rows.fnExactEngOnRow = true := by
  unfold joinedFacts
  simp only [Bool.and_eq_true]
  exact ⟨⟨⟨⟨⟨⟨⟨⟨⟨⟨⟨⟨⟨⟨⟨⟨⟨⟨⟨⟨⟨⟨⟨⟨⟨⟨⟨⟨⟨⟨⟨jf0, jf1⟩, jf2⟩, jf3⟩, jf4⟩, jf5⟩, jf6⟩, jf7⟩, jf8⟩, jf9⟩, jf10⟩, jf11⟩, jf12⟩, jf13⟩, jf14⟩, jf15⟩, jf16⟩, jf17⟩, jf18⟩, jf19⟩, jf20⟩, jf21⟩, jf22⟩, jf23⟩, jf24⟩, jf25⟩, jf26⟩, jf27⟩, jf28⟩, jf29⟩, jf30⟩, jf31⟩
theorem said : Rows.FnExactEngOnSaid :=
  OpenClaim.holds_of_cond 3 Try.f3 rfl rfl rfl rfl rfl rfl rfl ⟨rfl, rfl, rfl, rfl, rfl⟩ rfl rfl rfl rfl rfl (by kernel_rfl) Try.func3 jf
    (of_decide_eq_true (by kernel_rfl)) (by unfold Func.isWrapper; first | (rw [if_pos (by decide +kernel)]; kernel_rfl) | (rw [if_neg (by decide +kernel)]; exact ⟨rfl, rfl⟩))
    (fun os started H enc _ F => by rw [OpenClaim.pre_eq_preRow]; exact lifted os started H enc F)
end Go.Proofs.Ytgjdkcjijmdfoaa.Eo
