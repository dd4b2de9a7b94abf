/- FnExactEngNew: whatever arguments it is handed, the law returns true, and they read as before. No condition on the input beyond what the given row lists: the package variables that the row lists hold what the program's text lays in them. -/
import Derived.Test.YtpolhafmapekpaaGreatDoorEnP3
import Derived.Test.YtpolhafmapekpaaGreatDoorEnShelf
import Derived.Test.YtpolhafmapekpaaGreatDoorCards
import Derived.Test.YtpolhafmapekpaaGreatDoorTie
import Derived.WalkKit
import Derived.ProofKit
import Derived.OpenShut
import Derived.Deep.DeepHandedRow
import Derived.Lib.LaidTab
import Derived.Stop.LaidErr
set_option linter.unusedVariables false
set_option linter.unusedSimpArgs false
set_option linter.unnecessarySimpa false
namespace Go.Proofs.YtpolhafmapekpaaGreatDoor.En
open Go Go.RowKit Go.Ev Go.ChangeShapes Go.WideShapes Go.ChangeAt
set_option maxRecDepth 100000
def WI (w : World) : Prop:= (∃ m,w.cell? ⟨0,0,none⟩ = some (.int .i64 m))
theorem wiS : Stable WI:= cell_stable
theorem ent (g : FuncId) (h : g ∈ isC) : Enters Tryz.prog g:= entB_spec entered g h
theorem p_strings_Split : PureOK Tryz.prog WI 219 C_strings_Split:= pure_split (ent 219 (by decide)) fun s sep w hw h1 h2 => Tryz.strings_Split s sep _ w h1 hw.choose_spec h2
theorem law : PureOK Tryz.prog WI 3 C_law:= law_ok wiS p_strings_Split
theorem own : ownKnob Tryz.prog.godebug = none:= by kernel_rfl
theorem laidOut : laidOutB Tryz.prog = true:= by kernel_rfl
theorem bulkOK {H : Type} : BulkLaws (Rows.uptoBulk (H:= H)) Rows.uptoBulkAll where
  str s:= by simp [Rows.uptoBulk]
  one d:= by
    cases d with
    | lit l => cases l <;> simp [Rows.uptoBulk]
    | _ => simp [Rows.uptoBulk]
  slice e sp:= by simp only [Rows.uptoBulk];omega
  agg p:= by simp only [Rows.uptoBulk];omega
  cons d r:= by simp only [Rows.uptoBulkAll];omega
theorem plainP : ∀ t ∈ Tryz.f3.params.toList,plainT Tryz.prog 8 t = true ∧ Tryz.prog.readableRec t = true ∧ t < Tryz.prog.types.size:= by
  rw [Tryz.params3]
  intro t ht
  simp only [List.mem_cons,List.not_mem_nil,or_false] at ht
  rcases ht with rfl | rfl | rfl
  · exact ⟨by kernel_rfl,by kernel_rfl,of_decide_eq_true (by kernel_rfl)⟩
  · exact ⟨by kernel_rfl,by kernel_rfl,of_decide_eq_true (by kernel_rfl)⟩
  · exact ⟨by kernel_rfl,by kernel_rfl,of_decide_eq_true (by kernel_rfl)⟩
theorem wi_row {W : World} (h : laidMetH Tryz.prog Rows.fnExactEngNewRow.laid W) (hS : W.ShapedOpen Tryz.prog) : WI W:= by
  exact Tryz.laysM146.s1_3 W hS
theorem contract (H : Type) (enc : TypeId × Value → H) (W : World) (base : Nat) (args : Array Value) (ds gs : List (DataW H)) (before : List MemPlace)
    (hval : ∀ (j : Nat) t v,Tryz.f3.params[j]? = some t → args[j]? = some v → Value.okWide Tryz.prog W .any base t v)
    (hW : DataW.Whole enc Tryz.prog Tryz.f3.params.toList Rows.fnExactEngNewSpec.vars false W args.toList ds gs before) (hL : laidMetH Tryz.prog Rows.fnExactEngNewRow.laid W) (hS : W.ShapedOpen Tryz.prog) :
    Calls Tryz.prog 3 args W fun e W' => ∃ v,e = .returned v ∧ Rows.fnExactEngNewSpec.post enc Tryz.prog Tryz.f3 false true false false W args v W':= by
  have hsp : Rows.fnExactEngNewSpec.fn H (ds ++ gs) = { results:= [.lit (.bool true)],args:= ds }:= by
    obtain ⟨p,q,hA0,hV,_⟩:= hW
    have hA : DataW.TrodAll enc Tryz.prog W 0 (fun _ => true) true Tryz.f3.params.toList args.toList ds p:= hA0
    rw [Tryz.params3] at hA
    obtain ⟨_,_,_,_,_,_,_,rfl,_,_,r0⟩:= trodAll_cons hA
    obtain ⟨_,_,_,_,_,_,_,rfl,_,_,r1⟩:= trodAll_cons r0
    obtain ⟨_,_,_,_,_,_,_,rfl,_,_,r2⟩:= trodAll_cons r1
    obtain ⟨_,rfl,_⟩:= trodAll_nil r2
    obtain ⟨rfl,_⟩:= trodVars_none hV
    rfl
  exact row_ok laidOut law bulkOK (n:= 8) rfl plainP (bt:= 4) (by kernel_rfl) Tryz.underlying4 hsp hval hW (wi_row hL hS) fun xs h _ => hlaw xs h
def tabOf (vs : List Value) : Obj → Obj
  | .cells _ t frozen => .cells vs.toArray t frozen
  | o => o
def tb_2 : List Value:= ([128,191,160,191,128,159,144,191,128,143,0,0,0,0,0,0,0,0,0,0,0,0,0,0,0,0,0,0,0,0,0,0] : List Int).map fun z => .int .u8 z
def tb_1 : List Value:= (Go.Pinned.utf8FirstZ : List Nat).map fun (z : Nat) => Value.int .u8 (z : Int)
noncomputable def laidWorld (os : Os) : World:=
  { World.holding Tryz.prog os ⟨#[],#[],[]⟩ with heap:= (((World.holding Tryz.prog os ⟨#[],#[],[]⟩).heap).modify 2 (tabOf tb_2)).modify 1 (tabOf tb_1) }
theorem laid_met (os : Os) : laidMet Tryz.prog Rows.fnExactEngNewRow.laid ((laidWorld os).forCall (fun _ _ => 0) ⟨#[],#[.string ⟨#[]⟩,.int .i64 0,.slice none 0 0],[]⟩).memory:=
  laidMet_of_run' 8 (by kernel_rfl) (by kernel_rfl)
theorem reads (os : Os) {H : Type} (enc : TypeId × Value → H) : ∃ places,DataW.whole enc Tryz.prog ((laidWorld os).forCall (fun _ _ => 0) ⟨#[],#[.string ⟨#[]⟩,.int .i64 0,.slice none 0 0],[]⟩).memory Tryz.f3.params.toList Rows.fnExactEngNewSpec.vars false (#[.string ⟨#[]⟩,.int .i64 0,.slice none 0 0] : Array Value).toList 8 = some ([.lit (.string []),.lit (.int .i64 0),.nil],[],places):=
  ⟨[],by kernel_rfl⟩
theorem lifted (os : Os) (started : os.Started) (H : Type) (enc : TypeId × Value → H) (F : Stop.Interp) :
    ReturnsInHanded {} Tryz.checked os 3 .any ((OpenSpec.ofChange Rows.fnExactEngNewSpec).preRow enc Tryz.prog Tryz.f3 Rows.fnExactEngNewRow.domain false Rows.fnExactEngNewRow.laid) (((OpenSpec.ofChange Rows.fnExactEngNewSpec).at F).post enc Tryz.prog Tryz.f3 false true false false):= by
  obtain ⟨places,hx⟩:= reads os enc
  refine returnsInHanded_of_row (C:= Tryz.checked) (s:= OpenSpec.ofChange Rows.fnExactEngNewSpec) own started (by kernel_rfl) Tryz.func3
    (witness_row_at (enc:= enc) (C:= Tryz.checked) false (laidWorld os) #[.string ⟨#[]⟩,.int .i64 0,.slice none 0 0] rfl (by kernel_rfl) (by kernel_rfl) (by kernel_rfl)
      (OpenSpec.preRow_of_cond 8 hx (by kernel_rfl) (fun k hk => by cases hk) (by kernel_rfl) (laid_met os))) ?_
  intro W base args ds gs before hval hW _ _ _ hL hS _
  exact contract H enc W base args ds gs before hval hW hL hS
theorem jf0 : (Rows.fnExactEngNewRow.wf (OpenSpec.ofChange (OpenSpec.ofChange Rows.fnExactEngNewSpec).bare)) = true:= by kernel_rfl
theorem jf1 : (laidOutB Tryz.pinned.checked.prog) = true:= by kernel_rfl
theorem jf2 : (mapsRowed Tryz.pinned.checked.prog) = true:= by kernel_rfl
theorem jf3 : (Tryz.f3.params.all (Tryz.pinned.checked.prog.readableRec ·)) = true:= by kernel_rfl
theorem jf4 : (namedTie Tryz.pinned.checked.prog Rows.fnExactEngNewRow.named (OpenSpec.ofChange Rows.fnExactEngNewSpec).bare.vars) = true:= by kernel_rfl
theorem jf5 : ((Rows.fnExactEngNewRow.stops == [])) = true:= by kernel_rfl
theorem jf6 : ((Tryz.pinned.checked.prog.stops == [])) = true:= by kernel_rfl
theorem jf7 : ((Rows.fnExactEngNewRow.knobs == [])) = true:= by kernel_rfl
theorem jf8 : ((Tryz.pinned.checked.prog.stopKnobs == [])) = true:= by kernel_rfl
theorem jf9 : ((Rows.fnExactEngNewRow.inPlace == Tryz.pinned.checked.prog.inPlace 3)) = true:= by kernel_rfl
theorem jf10 : ((Rows.fnExactEngNewRow.unfollowed == Tryz.pinned.checked.prog.unfollowed 3)) = true:= by kernel_rfl
theorem jf11 : ((Rows.fnExactEngNewRow.recurses == Tryz.pinned.checked.prog.recurses 3)) = true:= by kernel_rfl
theorem jf12 : ((Rows.fnExactEngNewRow.named == Tryz.pinned.checked.prog.varsNamed 3)) = true:= by kernel_rfl
theorem jf13 : ((Rows.fnExactEngNewRow.maps == (Tryz.f3.params.toList ++ (OpenSpec.ofChange Rows.fnExactEngNewSpec).bare.plain.varTypes Tryz.pinned.checked.prog).any (Tryz.pinned.checked.prog.mapsRec ·))) = true:= by kernel_rfl
theorem jf14 : ((Rows.fnExactEngNewRow.ifaces == (Tryz.f3.params.toList ++ (OpenSpec.ofChange Rows.fnExactEngNewSpec).bare.plain.varTypes Tryz.pinned.checked.prog).any (Tryz.pinned.checked.prog.ifacesRec ·))) = true:= by kernel_rfl
theorem jf15 : ((Rows.fnExactEngNewRow.mapsOut == Tryz.pinned.checked.prog.mapsAmong Tryz.f3.resultTypes.toList)) = true:= by kernel_rfl
theorem jf16 : ((Rows.fnExactEngNewRow.loops == (Tryz.f3.params.toList ++ (OpenSpec.ofChange Rows.fnExactEngNewSpec).bare.plain.varTypes Tryz.pinned.checked.prog).any (Tryz.pinned.checked.prog.loopsFrom ·))) = true:= by kernel_rfl
theorem jf17 : ((Rows.fnExactEngNewRow.wideKeys == (Tryz.f3.params.toList ++ (OpenSpec.ofChange Rows.fnExactEngNewSpec).bare.plain.varTypes Tryz.pinned.checked.prog ++ Tryz.f3.resultTypes.toList).any (Tryz.pinned.checked.prog.wideKeysFrom ·))) = true:= by kernel_rfl
theorem jf18 : ((OpenSpec.ofChange Rows.fnExactEngNewSpec).bare.vars.all (Tryz.pinned.checked.prog.varReadable ·)) = true:= by kernel_rfl
theorem jf19 : (Tryz.f3.resultTypes.all (fun t => Tryz.pinned.checked.prog.readableRec t && decide (t < Tryz.pinned.checked.prog.types.size))) = true:= by kernel_rfl
theorem jf20 : ((Rows.fnExactEngNewRow.ifacesOut == Tryz.f3.resultTypes.toList.any (Tryz.pinned.checked.prog.ifacesRec ·))) = true:= by kernel_rfl
theorem jf21 : ((Rows.fnExactEngNewRow.loopsOut == Tryz.f3.resultTypes.toList.any (Tryz.pinned.checked.prog.loopsFrom ·))) = true:= by kernel_rfl
theorem jf22 : ((Rows.fnExactEngNewRow.plainKeys == Tryz.pinned.checked.prog.plainKeys)) = true:= by kernel_rfl
theorem jf23 : (Rows.fnExactEngNewRow.shortTexts.isNone) = true:= by kernel_rfl
theorem jf24 : (Tryz.pinned.checked.prog.stopsHeard) = true:= by kernel_rfl
theorem jf25 : (Tryz.pinned.checked.prog.mayEnter) = true:= by kernel_rfl
theorem jf26 : ((Rows.fnExactEngNewRow.lifted == Tryz.pinned.checked.prog.liftsFinal)) = true:= by kernel_rfl
theorem jf27 : ((Tryz.pinned.checked.prog.make == some Rows.fnExactEngNewRow.make)) = true:= by kernel_rfl
theorem jf28 : ((Rows.fnExactEngNewRow.kinds == (if Rows.fnExactEngNewRow.domain.isEmpty then [] else Tryz.f3.params.toList.map fun t => match Tryz.pinned.checked.prog.underlying t with | some (.int k) => some k | _ => none))) = true:= by kernel_rfl
theorem jf29 : ((Rows.fnExactEngNewRow.pinned == Rows.fnExactEngNewRow.pinnedBy)) = true:= by kernel_rfl
theorem jf30 : ((Rows.fnExactEngNewRow.veiled == (Tryz.f3.params.toList ++ (OpenSpec.ofChange Rows.fnExactEngNewSpec).bare.plain.varTypes Tryz.pinned.checked.prog ++ Tryz.f3.resultTypes.toList).any (Tryz.pinned.checked.prog.veiledRec ·))) = true:= by kernel_rfl
theorem jf31 : (Rows.fnExactEngNewRow.veiledFits Tryz.pinned.checked.prog Tryz.f3.params.toList (Tryz.f3.params.toList ++ (OpenSpec.ofChange Rows.fnExactEngNewSpec).bare.plain.varTypes Tryz.pinned.checked.prog ++ Tryz.f3.resultTypes.toList)) = true:= by kernel_rfl
theorem jf : joinedFacts Tryz.pinned.checked.prog 3 Tryz.f3 (OpenSpec.ofChange Rows.fnExactEngNewSpec).bare Rows.fnExactEngNewRow = true:= by
  unfold joinedFacts
  simp only [Bool.and_eq_true]
  exact ⟨⟨⟨⟨⟨⟨⟨⟨⟨⟨⟨⟨⟨⟨⟨⟨⟨⟨⟨⟨⟨⟨⟨⟨⟨⟨⟨⟨⟨⟨⟨jf0,jf1⟩,jf2⟩,jf3⟩,jf4⟩,jf5⟩,jf6⟩,jf7⟩,jf8⟩,jf9⟩,jf10⟩,jf11⟩,jf12⟩,jf13⟩,jf14⟩,jf15⟩,jf16⟩,jf17⟩,jf18⟩,jf19⟩,jf20⟩,jf21⟩,jf22⟩,jf23⟩,jf24⟩,jf25⟩,jf26⟩,jf27⟩,jf28⟩,jf29⟩,jf30⟩,jf31⟩
theorem said : Rows.FnExactEngNewSaid:=
  OpenClaim.holds_of_cond 3 Tryz.f3 rfl rfl rfl rfl rfl rfl rfl ⟨rfl,rfl,rfl,rfl,rfl⟩ rfl rfl rfl rfl rfl (by kernel_rfl) Tryz.func3 jf
    (of_decide_eq_true (by kernel_rfl)) (by unfold Func.isWrapper;first | (rw [if_pos (by decide +kernel)];kernel_rfl) | (rw [if_neg (by decide +kernel)];exact ⟨rfl,rfl⟩))
    (fun os started H enc _ F => by rw [OpenClaim.pre_eq_preRow];exact lifted os started H enc F)
theorem plain (f : FuncId) (fn : Func) (hf : Tryz.pinned.checked.prog.funcNamed "loop.example/g00322/laws.FnExactEngNew" = some f) (hfn : Tryz.pinned.checked.prog.funcs[f]? = some fn) :
    false = Tryz.pinned.checked.prog.looks [] ∧ ∀ (j : Nat) t,fn.params[j]? = some t → Tryz.pinned.checked.prog.wantsStandIn t = false:= by
  obtain rfl : f = 3 := Option.some.inj ((show Tryz.prog.funcNamed "loop.example/g00322/laws.FnExactEngNew" = some 3 by kernel_rfl).symm.trans hf) |>.symm
  obtain rfl : fn = Tryz.f3:= (Option.some.inj (Tryz.func3.symm.trans hfn)).symm
  refine ⟨by kernel_rfl,fun j t ht => ?_⟩
  rw [Tryz.params3] at ht
  have ht':= Array.mem_of_getElem? ht
  have hm : t = 9 ∨ t = 3 ∨ t = 22:= by simpa using ht'
  rcases hm with rfl | rfl | rfl
  · exact (show Tryz.prog.wantsStandIn 9 = false by kernel_rfl)
  · exact (show Tryz.prog.wantsStandIn 3 = false by kernel_rfl)
  · exact (show Tryz.prog.wantsStandIn 22 = false by kernel_rfl)
theorem card : Rows.FnExactEngNewCardSaid:=
  Claim7.holds_tied_plain_at .later [] _ _ _ _ said (fun _ h => by cases h) (by kernel_rfl) (fun _ h => by cases h) fnExactEngNew_row_tie rfl ⟨rfl,rfl⟩ (by kernel_rfl) rfl plain (by kernel_rfl)
end Go.Proofs.YtpolhafmapekpaaGreatDoor.En
