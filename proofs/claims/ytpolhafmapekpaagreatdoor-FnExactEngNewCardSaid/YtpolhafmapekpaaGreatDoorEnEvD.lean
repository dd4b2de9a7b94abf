/- Types as trees; functions that measure, copy and compare; loops; contracts of the library: no condition on the input. -/
import Derived.Test.YtpolhafmapekpaaGreatDoorEnEvC
import Derived.Attr
import Derived.Lib.ItoaNum
import Derived.Lib.Join
import Derived.Lib.Bytealg
import Derived.Sort.Grow
import Derived.Deep.Draws
import Derived.Lib.LaidTab
set_option linter.unusedVariables false
set_option linter.unusedSimpArgs false
set_option linter.unnecessarySimpa false
namespace Go.Ev
open Go Go.RowKit
noncomputable def ct {σ β : Type} (ens : σ → List AV) (p : σ → Prop) (o : β → AV) (f : σ → β) : List AV → Option AV:= by
  classical exact fun ts => if h : ∃ a,ts = ens a ∧ p a then some (o (f h.choose)) else none
theorem ct_eq {σ β : Type} {ens : σ → List AV} {p : σ → Prop} {o : β → AV} {f : σ → β} (inj : ∀ a b,ens a = ens b → a = b) {a : σ} (hp : p a) : ct ens p o f (ens a) = some (o (f a)):= by
  classical
  have h : ∃ b,ens a = ens b ∧ p b:= ⟨a,rfl,hp⟩
  unfold ct
  rw [dif_pos h]
  have:= inj _ _ h.choose_spec.1
  rw [← this]
theorem ct_inv {σ β : Type} {ens : σ → List AV} {p : σ → Prop} {o : β → AV} {f : σ → β} {ts : List AV} {t : AV} (h : ct ens p o f ts = some t) : ∃ a,p a ∧ ts = ens a ∧ t = o (f a):= by
  classical
  unfold ct at h
  split at h
  · rename_i hx
    exact ⟨hx.choose,hx.choose_spec.2,hx.choose_spec.1,by injection h with h;exact h.symm⟩
  · cases h
theorem pure_ct {E : Env} {WI : World → Prop} (hT : TOK E WI) (hs : Stable WI) {g : FuncId} (hst : (stF E g).isSome = true) {σ β : Type} {ens : σ → List AV} {p : σ → Prop} {o : β → AV} {f : σ → β}
    (h : ∀ a,p a → ∃ k n x h',(sev E k).1 g (ens a) Hp.empty = some (x,h') ∧ frzE n h' x = some (o (f a))) : PureOK E.P WI g (ct ens p o f):=
  pure_of_sev hT hs hst fun ts t ht => by
    obtain ⟨a,hp,rfl,rfl⟩:= ct_inv ht
    exact h a hp
noncomputable def out (E : Env) (k n : Nat) (g : FuncId) (args : List AV) : Option AV:= ((sev E k).1 g args Hp.empty).bind fun p => frzE n p.2 p.1
theorem pure_out {E : Env} {WI : World → Prop} (hT : TOK E WI) (hs : Stable WI) {g : FuncId} (hst : (stF E g).isSome = true) {σ β : Type} {ens : σ → List AV} {p : σ → Prop} {o : β → AV} {f : σ → β}
    (h : ∀ a,p a → ∃ k n,out E k n g (ens a) = some (o (f a))) : PureOK E.P WI g (ct ens p o f):=
  pure_ct hT hs hst fun a hp => by
    obtain ⟨k,n,h1⟩:= h a hp
    obtain ⟨⟨x,h'⟩,h2,h3⟩:= Option.bind_eq_some_iff.1 h1
    exact ⟨k,n,x,h',h2,h3⟩
noncomputable def outF (E : Env) (k sz : Nat) (g : FuncId) (args : List AV) : Option AV:= ((sev E k).1 g args Hp.empty).bind fun p => match p.1 with
  | .snil => some (.app sz [])
  | x => (freshR p.2 x).map fun q => .app q.1 q.2
theorem fresh_out {E : Env} {WI : World → Prop} (hT : TOK E WI) (hs : Stable WI) {g : FuncId} (hst : (stF E g).isSome = true) {σ β : Type} {ens : σ → List AV} {p : σ → Prop} {o : β → AV} {f : σ → β}
    (h : ∀ a,p a → ∃ k sz,outF E k sz g (ens a) = some (o (f a))) : FreshOK E.P WI g (ct ens p o f):=
  fresh_of_sev hT hs hst fun ts t ht => by
    obtain ⟨a,hp,rfl,rfl⟩:= ct_inv ht
    obtain ⟨k,sz,h1⟩:= h a hp
    simp only [outF,Option.bind_eq_some_iff] at h1
    obtain ⟨⟨x,h'⟩,h2,h3⟩:= h1
    simp only at h3
    split at h3
    · injection h3 with h3
      exact ⟨k,_,h',sz,[],h2,.inr ⟨rfl,h3.symm⟩⟩
    · obtain ⟨⟨s,rows⟩,h4,h5⟩:= Option.map_eq_some_iff.1 h3
      exact ⟨k,_,h',s,rows,h2,.inl ⟨h4,h5.symm⟩⟩
theorem sev_call {E : Env} {k : Nat} {g : FuncId} {s : SFn} (hs : stF E g = some s) (args : List AV) (h : Hp) : (sev E (k + 1)).1 g args h = sBody E (sev E k).1 (sev E k).2 s args h:= by
  simp only [sev,hs,Option.bind_some]
theorem sev_loop (E : Env) (k : Nat) (body : SCode) (e : Ps) (h : Hp) : (sev E (k + 1)).2 body e h = sSeq (sC E (sev E k).1 (sev E k).2 body e h) fun e' h' => (sev E k).2 body e' h':= rfl
def CLe (c c' : CallH) : Prop:= ∀ g as h r,c g as h = some r → c' g as h = some r
def LLe (l l' : SLoop) : Prop:= ∀ s e h r,l s e h = some r → l' s e h = some r
theorem dnO_mono {h : Hp} {a b : Option (AV × Hp)} (hab : ∀ r,a = some r → b = some r) {r : AV × Hp} (hx : dnO h a = some r) : dnO h b = some r:= by
  cases a with
  | none => cases hx
  | some p => rw [hab p rfl];exact hx
theorem upO_mono {h : Hp} {a b : Option (AV × Hp)} (hab : ∀ r,a = some r → b = some r) {r : AV × Hp} (hx : upO h a = some r) : upO h b = some r:= by
  cases a with
  | none => cases hx
  | some p => rw [hab p rfl];exact hx
theorem cuO_mono {h : Hp} {a b : Option (AV × Hp)} (hab : ∀ r,a = some r → b = some r) {r : AV × Hp} (hx : cuO h a = some r) : cuO h b = some r:= by
  cases a with
  | none => cases hx
  | some p => rw [hab p rfl];exact hx
theorem zfz_mono {h : Hp} {a b : Option (AV × Hp)} (hab : ∀ r,a = some r → b = some r) {r : AV × Hp} (hx : zfz h a = some r) : zfz h b = some r:= by
  cases a with
  | none => cases hx
  | some p => rw [hab p rfl];exact hx
theorem sX_mono {E : Env} {c c' : CallH} (hc : CLe c c') {ρ : Opd → AV} {op : SOp} {h : Hp} {r : AV × Hp} (hx : sX E c ρ op h = some r) : sX E c' ρ op h = some r:= by
  cases op <;> first
    | exact hx
    | exact hc _ _ _ _ hx
    | exact dnO_mono (fun r e => hc _ _ _ _ e) hx
    | exact upO_mono (fun r e => hc _ _ _ _ e) hx
    | exact cuO_mono (fun r e => hc _ _ _ _ e) hx
    | exact cuO_mono (fun r e => zfz_mono (fun r e => hc _ _ _ _ e) e) hx
    | exact zfz_mono (fun r e => hc _ _ _ _ e) hx
theorem sOps_mono {E : Env} {c c' : CallH} (hc : CLe c c') : ∀ (os : List SOper) (e : Ps) (h : Hp) (r : Ps × Hp),sOps E c os e h = some r → sOps E c' os e h = some r
  | [],e,h,r,hx => hx
  | o :: os,e,h,r,hx => by
    simp only [sOps,Option.bind_eq_some_iff] at hx ⊢
    obtain ⟨p,h1,h2⟩:= hx
    refine ⟨p,?_,sOps_mono hc os _ _ _ h2⟩
    simp only [sOper,Option.bind_eq_some_iff] at h1 ⊢
    obtain ⟨b,h3,h4⟩:= h1
    refine ⟨b,h3,?_⟩
    cases b with
    | false => exact h4
    | true =>
      simp only [if_true,Option.map_eq_some_iff] at h4 ⊢
      obtain ⟨q,h5,h6⟩:= h4
      exact ⟨q,sX_mono hc h5,h6⟩
theorem sC_mono {E : Env} {c c' : CallH} {l l' : SLoop} (hc : CLe c c') (hl : LLe l l') : ∀ (s : SCode) (e : Ps) (h : Hp) (r : Ex × Ps × Hp),sC E c l s e h = some r → sC E c' l' s e h = some r:= by
  intro s
  induction s with
  | rg os =>
    intro e h r hx
    simp only [sC,Option.bind_eq_some_iff] at hx ⊢
    obtain ⟨p,h1,h2⟩:= hx
    exact ⟨p,sOps_mono hc os e h p h1,h2⟩
  | seq a b iha ihb =>
    intro e h r hx
    simp only [sC,sSeq,Option.bind_eq_some_iff] at hx ⊢
    obtain ⟨⟨x,p⟩,h1,h2⟩:= hx
    refine ⟨(x,p),iha _ _ _ h1,?_⟩
    cases x with
    | norm => exact ihb _ _ _ h2
    | exit i => exact h2
    | ret => exact h2
  | cond cnd a b iha ihb =>
    intro e h r hx
    simp only [sC,Option.bind_eq_some_iff] at hx ⊢
    obtain ⟨t,h1,h2⟩:= hx
    refine ⟨t,h1,?_⟩
    cases t with
    | true => exact iha _ _ _ (by simpa using h2)
    | false => exact ihb _ _ _ (by simpa using h2)
  | blk i a ih =>
    intro e h r hx
    simp only [sC,sBlk,Option.bind_eq_some_iff] at hx ⊢
    obtain ⟨p,h1,h2⟩:= hx
    exact ⟨p,ih _ _ _ h1,h2⟩
  | loop a _ => intro e h r hx;exact hl _ _ _ _ hx
  | _ => intro e h r hx;exact hx
theorem sev_step (E : Env) : ∀ k,CLe (sev E k).1 (sev E (k + 1)).1 ∧ LLe (sev E k).2 (sev E (k + 1)).2
  | 0 => ⟨fun g as h r hx => by simp [sev] at hx,fun s e h r hx => by simp [sev] at hx⟩
  | k + 1 => by
    obtain ⟨hc,hl⟩:= sev_step E k
    refine ⟨fun g as h r hx => ?_,fun s e h r hx => ?_⟩
    · rw [sev] at hx ⊢
      simp only [Option.bind_eq_some_iff] at hx ⊢
      obtain ⟨s,h1,h2⟩:= hx
      refine ⟨s,h1,?_⟩
      simp only [sBody,sRet,Option.bind_eq_some_iff] at h2 ⊢
      obtain ⟨p,h3,h4⟩:= h2
      exact ⟨p,sC_mono hc hl _ _ _ _ h3,h4⟩
    · rw [sev_loop] at hx ⊢
      simp only [sSeq,Option.bind_eq_some_iff] at hx ⊢
      obtain ⟨⟨x,p⟩,h3,h4⟩:= hx
      refine ⟨(x,p),sC_mono hc hl _ _ _ _ h3,?_⟩
      cases x with
      | norm => exact hl _ _ _ _ h4
      | exit i => exact h4
      | ret => exact h4
theorem sev_mono (E : Env) {k k' : Nat} (h : k ≤ k') : CLe (sev E k).1 (sev E k').1 ∧ LLe (sev E k).2 (sev E k').2:= by
  induction h with
  | refl => exact ⟨fun _ _ _ _ h => h,fun _ _ _ _ h => h⟩
  | step _ ih => exact ⟨fun g as h r hx => (sev_step E _).1 _ _ _ _ (ih.1 g as h r hx),fun s e h r hx => (sev_step E _).2 _ _ _ _ (ih.2 s e h r hx)⟩
theorem loop_norm {E : Env} {k : Nat} {body : SCode} {e e1 : Ps} {h h1 : Hp} (hb : sC E (sev E k).1 (sev E k).2 body e h = some (.norm,e1,h1)) : (sev E (k + 1)).2 body e h = (sev E k).2 body e1 h1:= by
  rw [sev_loop,hb]
  rfl
theorem loop_exit {E : Env} {k i : Nat} {body : SCode} {e e1 : Ps} {h h1 : Hp} (hb : sC E (sev E k).1 (sev E k).2 body e h = some (.exit i,e1,h1)) : (sev E (k + 1)).2 body e h = some (.exit i,e1,h1):= by
  rw [sev_loop,hb]
  rfl
theorem loop_ret {E : Env} {k : Nat} {body : SCode} {e e1 : Ps} {h h1 : Hp} (hb : sC E (sev E k).1 (sev E k).2 body e h = some (.ret,e1,h1)) : (sev E (k + 1)).2 body e h = some (.ret,e1,h1):= by
  rw [sev_loop,hb]
  rfl
def RunL (E : Env) (s : SCode) (e : Ps) (h : Hp) (r : Ex × Ps × Hp) : Prop:= ∃ k,(sev E k).2 s e h = some r
def RunC (E : Env) (s : SCode) (e : Ps) (h : Hp) (r : Ex × Ps × Hp) : Prop:= ∃ k,sC E (sev E k).1 (sev E k).2 s e h = some r
def RunF (E : Env) (g : FuncId) (as : List AV) (h : Hp) (r : AV × Hp) : Prop:= ∃ k,(sev E k).1 g as h = some r
theorem RunC.at {E : Env} {s : SCode} {e : Ps} {h : Hp} {r : Ex × Ps × Hp} (hr : RunC E s e h r) : ∃ k,∀ k',k ≤ k' → sC E (sev E k').1 (sev E k').2 s e h = some r:= by
  obtain ⟨k,hk⟩:= hr
  exact ⟨k,fun k' h => sC_mono (sev_mono E h).1 (sev_mono E h).2 _ _ _ _ hk⟩
theorem RunL.norm {E : Env} {body : SCode} {e e1 : Ps} {h h1 : Hp} {r : Ex × Ps × Hp} (hb : RunC E body e h (.norm,e1,h1)) (hr : RunL E body e1 h1 r) : RunL E body e h r:= by
  obtain ⟨k1,hb⟩:= hb.at
  obtain ⟨k2,hr⟩:= hr
  refine ⟨max k1 k2 + 1,?_⟩
  rw [loop_norm (hb _ (Nat.le_max_left _ _))]
  exact (sev_mono E (Nat.le_max_right k1 k2)).2 _ _ _ _ hr
theorem RunL.exit {E : Env} {body : SCode} {i : Nat} {e e1 : Ps} {h h1 : Hp} (hb : RunC E body e h (.exit i,e1,h1)) : RunL E body e h (.exit i,e1,h1):= by
  obtain ⟨k1,hb⟩:= hb
  exact ⟨k1 + 1,loop_exit hb⟩
theorem RunL.ret {E : Env} {body : SCode} {e e1 : Ps} {h h1 : Hp} (hb : RunC E body e h (.ret,e1,h1)) : RunL E body e h (.ret,e1,h1):= by
  obtain ⟨k1,hb⟩:= hb
  exact ⟨k1 + 1,loop_ret hb⟩
theorem sSeq_some (x : Ex) (e : Ps) (h : Hp) (k : Ps → Hp → SR) : sSeq (some (x,e,h)) k = match x with | .norm => k e h | x => some (x,e,h):= by cases x <;> rfl
end Go.Ev
namespace Go.Ev
open Go Go.RowKit
def mkT (isC : List FuncId) (cs : List (FuncId × (List AV → Option AV))) (g : FuncId) : Option (List AV → Option AV):=
  if isC.contains g then some ((cs.lookup g).getD fun _ => none) else none
def mkE (P : Program) (isC : List FuncId) (rw : FuncId → List Tmp) (fr : FuncId → Bool) (dp : FuncId → Nat) (cs : List (FuncId × (List AV → Option AV))) : Env:= ⟨P,mkT isC cs,rw,fr,dp⟩
theorem mkT_some {isC : List FuncId} (cs cs' : List (FuncId × (List AV → Option AV))) (g : FuncId) : (mkT isC cs g).isSome = (mkT isC cs' g).isSome:= by
  unfold mkT
  split <;> rfl
section
variable {P : Program} {isC : List FuncId} {rw : FuncId → List Tmp} {fr : FuncId → Bool} {dp : FuncId → Nat} (cs cs' : List (FuncId × (List AV → Option AV))) (f : FuncId)
theorem stX_mk (dst : Option Tmp) (op : Op) : stX (mkE P isC rw fr dp cs) f dst op = stX (mkE P isC rw fr dp cs') f dst op:= by
  cases op <;> try rfl
  case slice t x lo hi mx => cases mx <;> rfl
  case call c =>
    obtain ⟨callee,args,argTypes⟩:= c
    cases callee with
    | builtin b => cases b <;> rfl
    | invoke r m => rfl
    | value p =>
      cases p with
      | func g =>
        have : ((mkE P isC rw fr dp cs).T g).isSome = ((mkE P isC rw fr dp cs').T g).isSome:= mkT_some cs cs' g
        simp only [stX,this]
        rfl
      | _ => rfl
theorem fpOf_mk (o : Oper) : fpOf (mkE P isC rw fr dp cs) f o = fpOf (mkE P isC rw fr dp cs') f o:= by
  obtain ⟨dst,op,ty,pos,after,guard⟩:= o
  cases op <;> try rfl
  case call c =>
    obtain ⟨callee,args,argTypes⟩:= c
    cases callee with
    | builtin b => cases b <;> rfl
    | invoke r m => rfl
    | value p =>
      cases p with
      | func g =>
        have : ((mkE P isC rw fr dp cs).T g).isSome = ((mkE P isC rw fr dp cs').T g).isSome:= mkT_some cs cs' g
        simp only [fpOf,this]
        rfl
      | _ => rfl
theorem drawOk_mk (ops : Array Oper) : drawOk (mkE P isC rw fr dp cs) f ops = drawOk (mkE P isC rw fr dp cs') f ops:= by
  unfold drawOk
  simp only [fpOf_mk cs cs']
  rfl
theorem stOper_mk (nt : Nat) (ops : Array Oper) (o : Oper) : stOper (mkE P isC rw fr dp cs) f nt ops o = stOper (mkE P isC rw fr dp cs') f nt ops o:= by
  unfold stOper
  simp only [stX_mk cs cs']
theorem stOps_mk (nt : Nat) (ops : Array Oper) : ∀ os,stOps (mkE P isC rw fr dp cs) f nt ops os = stOps (mkE P isC rw fr dp cs') f nt ops os
  | [] => rfl
  | o :: os => by simp only [stOps,stOper_mk cs cs',stOps_mk nt ops os]
theorem stC_mk (nt : Nat) : ∀ c,stC (mkE P isC rw fr dp cs) f nt c = stC (mkE P isC rw fr dp cs') f nt c:= by
  intro c
  induction c with
  | region id ops draw => simp only [stC,drawOk_mk cs cs',stOps_mk cs cs']
  | seq a b iha ihb => simp only [stC,iha,ihb]
  | cond c a b iha ihb => simp only [stC,iha,ihb]
  | block id a ih => simp only [stC,ih]
  | loop a ih => simp only [stC,ih]
  | _ => rfl
theorem stF_mk : stF (mkE P isC rw fr dp cs) f = stF (mkE P isC rw fr dp cs') f:= by
  unfold stF
  simp only [stC_mk cs cs']
  rfl
end
theorem tok_nil {P : Program} {isC : List FuncId} {rw : FuncId → List Tmp} {fr : FuncId → Bool} {dp : FuncId → Nat} {WI : World → Prop} (h : ∀ g ∈ isC,Enters P g) : TOK (mkE P isC rw fr dp []) WI:= by
  intro g F hF
  simp only [mkE,mkT,List.lookup,Option.getD_none] at hF
  split at hF
  · rename_i hg
    injection hF with hF
    subst hF
    have he:= h g (by simpa using hg)
    unfold CtOK PureB DeepOK
    split
    · split
      · exact ⟨he,fun w C vs ts t _ _ _ ht => by cases ht⟩
      · exact ⟨he,fun w C vs ts t _ _ _ ht => by cases ht⟩
    · split
      · exact ⟨he,fun w b off cap zs arr ty _ hf => by cases hf⟩
      · split
        · exact ⟨he,fun w C vs ts t _ _ _ ht => by cases ht⟩
        · exact ⟨⟨he,fun w C vs ts t _ _ _ ht => by cases ht⟩,fun ts t ht => by cases ht⟩
  · cases hF
theorem tok_consC {P : Program} {isC : List FuncId} {rw : FuncId → List Tmp} {fr : FuncId → Bool} {dp : FuncId → Nat} {WI : World → Prop} {cs : List (FuncId × (List AV → Option AV))} {f : FuncId} {F : List AV → Option AV}
    (hF : CtOK P WI (dp f) (fr f) f F) (h : TOK (mkE P isC rw fr dp cs) WI) : TOK (mkE P isC rw fr dp ((f,F) :: cs)) WI:= by
  intro g G hG
  simp only [mkE,mkT,List.lookup] at hG
  split at hG
  · rename_i hg
    by_cases e : g = f
    · subst e
      simp only [beq_self_eq_true,Option.getD_some] at hG
      injection hG with hG
      subst hG
      exact hF
    · have e' : (g == f) = false:= by simpa using e
      rw [e'] at hG
      exact h g G (by simp only [mkE,mkT];rw [if_pos hg];exact hG)
  · cases hG
theorem tok_cons {P : Program} {isC : List FuncId} {rw : FuncId → List Tmp} {fr : FuncId → Bool} {dp : FuncId → Nat} {WI : World → Prop} {cs : List (FuncId × (List AV → Option AV))} {f : FuncId} {F : List AV → Option AV} (hfr : fr f = false) (hdp : dp f = 0)
    (hF : PureOK P WI f F) (h : TOK (mkE P isC rw fr dp cs) WI) : TOK (mkE P isC rw fr dp ((f,F) :: cs)) WI:= tok_consC (by unfold CtOK;rw [if_pos hdp,hfr];exact hF) h
theorem tok_consF {P : Program} {isC : List FuncId} {rw : FuncId → List Tmp} {fr : FuncId → Bool} {dp : FuncId → Nat} {WI : World → Prop} {cs : List (FuncId × (List AV → Option AV))} {f : FuncId} {F : List AV → Option AV} (hfr : fr f = true) (hdp : dp f = 0)
    (hF : FreshOK P WI f F) (h : TOK (mkE P isC rw fr dp cs) WI) : TOK (mkE P isC rw fr dp ((f,F) :: cs)) WI:= tok_consC (by unfold CtOK;rw [if_pos hdp,hfr];exact hF) h
theorem tok_consO {P : Program} {isC : List FuncId} {rw : FuncId → List Tmp} {fr : FuncId → Bool} {dp : FuncId → Nat} {WI : World → Prop} {cs : List (FuncId × (List AV → Option AV))} {f : FuncId} {F : List AV → Option AV} (hdp : dp f = 1)
    (hF : OwnOK P WI f F) (h : TOK (mkE P isC rw fr dp cs) WI) : TOK (mkE P isC rw fr dp ((f,F) :: cs)) WI:= tok_consC (by unfold CtOK DeepOK;rw [hdp];exact hF) h
theorem tok_consR {P : Program} {isC : List FuncId} {rw : FuncId → List Tmp} {fr : FuncId → Bool} {dp : FuncId → Nat} {WI : World → Prop} {cs : List (FuncId × (List AV → Option AV))} {f : FuncId} {F : List AV → Option AV} (hdp : dp f = 2)
    (hF : ReadOK P WI f F) (h : TOK (mkE P isC rw fr dp cs) WI) : TOK (mkE P isC rw fr dp ((f,F) :: cs)) WI:= tok_consC (by unfold CtOK DeepOK;rw [hdp];exact hF) h
def entB (P : Program) (l : List FuncId) : Bool:= l.all fun g => match P.funcs[g]? with
  | some fn => !(fn.name == "runtime.NumGoroutine") && fn.body.isSome
  | none => false
theorem entB_spec {P : Program} {l : List FuncId} (h : entB P l = true) : ∀ g ∈ l,Enters P g:= by
  intro g hg
  have:= List.all_eq_true.1 h g hg
  split at this
  · rename_i fn hfn
    simp only [Bool.and_eq_true,Bool.not_eq_true'] at this
    exact enters_of hfn this.1 this.2
  · cases this
end Go.Ev
namespace Go.Ev
open Go Go.RowKit
abbrev QS:= Ex → Ps → Hp → Prop
def W (E : Env) (s : SCode) (e : Ps) (h : Hp) (Q : QS) : Prop:= ∃ x e' h',RunC E s e h (x,e',h') ∧ Q x e' h'
def WL (E : Env) (s : SCode) (e : Ps) (h : Hp) (Q : QS) : Prop:= ∃ x e' h',RunL E s e h (x,e',h') ∧ Q x e' h'
def hO (r : SR) (Q : QS) : Prop:= match r with
  | some (x,e,h) => Q x e h
  | none => False
theorem hO_some (x : Ex) (e : Ps) (h : Hp) (Q : QS) : hO (some (x,e,h)) Q = Q x e h:= rfl
section
variable {E : Env} {a b c s : SCode} {e : Ps} {h : Hp} {Q Q' : QS}
theorem RunC.seq {e1 : Ps} {h1 : Hp} {r : Ex × Ps × Hp} (ha : RunC E a e h (.norm,e1,h1)) (hb : RunC E b e1 h1 r) : RunC E (.seq a b) e h r:= by
  obtain ⟨k1,ha⟩:= ha.at
  obtain ⟨k2,hb⟩:= hb.at
  refine ⟨max k1 k2,?_⟩
  simp only [sC,ha _ (Nat.le_max_left _ _),sSeq_some]
  exact hb _ (Nat.le_max_right _ _)
theorem RunC.seq_out {x : Ex} {e1 : Ps} {h1 : Hp} (hx : x ≠ .norm) (ha : RunC E a e h (x,e1,h1)) : RunC E (.seq a b) e h (x,e1,h1):= by
  obtain ⟨k,ha⟩:= ha
  refine ⟨k,?_⟩
  cases x with
  | norm => exact absurd rfl hx
  | exit i => simp only [sC,ha,sSeq_some]
  | ret => simp only [sC,ha,sSeq_some]
theorem W.mono (hw : W E s e h Q) (hq : ∀ x e' h',Q x e' h' → Q' x e' h') : W E s e h Q':= by
  obtain ⟨x,e',h',h1,h2⟩:= hw
  exact ⟨x,e',h',h1,hq _ _ _ h2⟩
theorem WL.mono (hw : WL E s e h Q) (hq : ∀ x e' h',Q x e' h' → Q' x e' h') : WL E s e h Q':= by
  obtain ⟨x,e',h',h1,h2⟩:= hw
  exact ⟨x,e',h',h1,hq _ _ _ h2⟩
def thn (E : Env) (b : SCode) (Q : QS) : QS:= fun x e h => match x with
  | .norm => W E b e h Q
  | x => Q x e h
theorem W.seq (hw : W E a e h (thn E b Q)) : W E (.seq a b) e h Q:= by
  obtain ⟨x,e1,h1,k1,k2⟩:= hw
  cases x with
  | norm =>
    obtain ⟨x,e2,h2,k3,k4⟩:= k2
    exact ⟨x,e2,h2,k1.seq k3,k4⟩
  | exit i => exact ⟨_,e1,h1,.seq_out (by simp) k1,k2⟩
  | ret => exact ⟨_,e1,h1,.seq_out (by simp) k1,k2⟩
theorem W.cut {M : Ps → Hp → Prop} (ha : W E a e h fun x e1 h1 => x = .norm ∧ M e1 h1) (hb : ∀ e1 h1,M e1 h1 → W E b e1 h1 Q) : W E (.seq a b) e h Q:=
  .seq (ha.mono fun x e1 h1 ⟨hx,hm⟩ => by subst hx;exact hb e1 h1 hm)
theorem W.re (hw : W E (.seq (.seq a b) c) e h Q) : W E (.seq a (.seq b c)) e h Q:= by
  obtain ⟨x,e',h',⟨k,h1⟩,h2⟩:= hw
  refine ⟨x,e',h',⟨k,?_⟩,h2⟩
  rw [← h1]
  simp only [sC,sSeq]
  cases sC E (sev E k).1 (sev E k).2 a e h with
  | none => rfl
  | some p =>
    obtain ⟨x,e1,h1⟩:= p
    cases x <;> rfl
theorem W.sim (hw : hO (sC E (sev E 0).1 (sev E 0).2 s e h) Q) : W E s e h Q:= by
  unfold hO at hw
  split at hw
  · rename_i x e' h' hr
    exact ⟨x,e',h',⟨0,hr⟩,hw⟩
  · exact hw.elim
theorem WL.step (hw : W E s e h fun x e1 h1 => match x with | .norm => WL E s e1 h1 Q | x => Q x e1 h1) : WL E s e h Q:= by
  obtain ⟨x,e1,h1,hr,h2⟩:= hw
  cases x with
  | norm =>
    obtain ⟨x,e2,h3,k1,k2⟩:= h2
    exact ⟨x,e2,h3,RunL.norm hr k1,k2⟩
  | exit i => exact ⟨_,e1,h1,.exit hr,h2⟩
  | ret => exact ⟨_,e1,h1,.ret hr,h2⟩
theorem W.loop (hw : WL E a e h Q) : W E (.loop a) e h Q:= by
  obtain ⟨x,e',h',⟨k,h1⟩,h2⟩:= hw
  exact ⟨x,e',h',⟨k,h1⟩,h2⟩
def outOf (i : Nat) (x : Ex) : Ex:= if x = .exit i then .norm else x
theorem W.blk {i : Nat} (hw : W E a e h fun x e1 h1 => Q (outOf i x) e1 h1) : W E (.blk i a) e h Q:= by
  obtain ⟨x,e',h',⟨k,h1⟩,h2⟩:= hw
  refine ⟨_,e',h',⟨k,?_⟩,h2⟩
  simp only [sC,sBlk,h1,Option.bind_some]
  cases x with
  | norm => rfl
  | ret => rfl
  | exit j =>
    by_cases hj : j = i
    · subst hj;simp [outOf]
    · simp [outOf,hj]
theorem W.cond {o : Opd} {t : Bool} (ht : o.ev e = .bool t) (hw : if t then W E a e h Q else W E b e h Q) : W E (.cond o a b) e h Q:= by
  cases t with
  | true =>
    obtain ⟨x,e',h',⟨k,h1⟩,h2⟩:= hw
    exact ⟨x,e',h',⟨k,by simp only [sC,ht,asB,Option.bind_some];simpa using h1⟩,h2⟩
  | false =>
    obtain ⟨x,e',h',⟨k,h1⟩,h2⟩:= hw
    exact ⟨x,e',h',⟨k,by simp only [sC,ht,asB,Option.bind_some];simpa using h1⟩,h2⟩
theorem W.skip (hq : Q .norm e h) : W E .skip e h Q:= .sim hq
theorem W.ret (hq : Q .ret e h) : W E .ret e h Q:= .sim hq
theorem W.exit {i : Nat} (hq : Q (.exit i) e h) : W E (.exit i) e h Q:= .sim hq
theorem W.callW {g : FuncId} {xs : List Opd} {d : Option Nat} {os : List SOper} {v : AV} {h1 : Hp} (hc : RunF E g (xs.map (Opd.ev e)) h (v,h1)) (hw : W E (.rg os) (upd? e d v) h1 Q) : W E (.rg (⟨d,none,.callW g xs⟩ :: os)) e h Q:= by
  obtain ⟨x,e',h',hr,h2⟩:= hw
  obtain ⟨k1,hr⟩:= hr.at
  obtain ⟨k2,hc⟩:= hc
  refine ⟨x,e',h',⟨max k1 k2,?_⟩,h2⟩
  have h3:= (sev_mono E (Nat.le_max_right k1 k2)).1 _ _ _ _ hc
  have h4:= hr _ (Nat.le_max_left k1 k2)
  simp only [sC,sOps,sOper,sWant,sX,Option.bind_some,if_true,h3,Option.map_some] at h4 ⊢
  exact h4
theorem W.op {o : SOper} {os : List SOper} {e1 : Ps} {h1 : Hp} (ho : sOper E (sev E 0).1 o e h = some (e1,h1)) (hw : W E (.rg os) e1 h1 Q) : W E (.rg (o :: os)) e h Q:= by
  obtain ⟨x,e',h',⟨k,hr⟩,h2⟩:= hw
  refine ⟨x,e',h',⟨k,?_⟩,h2⟩
  have h3 : sOps E (sev E k).1 [o] e h = some (e1,h1):= sOps_mono (sev_mono E (Nat.zero_le k)).1 [o] e h (e1,h1) (by simp only [sOps,ho,Option.bind_some])
  simp only [sOps,Option.bind_eq_some_iff,Option.some.injEq] at h3
  obtain ⟨⟨p1,p2⟩,h4,h5⟩:= h3
  injection h5 with h5 h6
  subst h5;subst h6
  simp only [sC,sOps,h4,Option.bind_some] at hr ⊢
  exact hr
theorem W.nil (hq : Q .norm e h) : W E (.rg []) e h Q:= .sim hq
theorem RunF.of {g : FuncId} {f : SFn} {args : List AV} {v : AV} {h1 : Hp} (hf : stF E g = some f) (hw : W E f.body (fun i => args.getD i (.tup [])) h fun x e' h' => (∀ i,x ≠ .exit i) ∧ h' = h1 ∧ (sRes e' h' f.res).map evResult = some v) : RunF E g args h (v,h1):= by
  obtain ⟨x,e',h',⟨k,hr⟩,h2,rfl,h3⟩:= hw
  obtain ⟨l,h3,h4⟩:= Option.map_eq_some_iff.1 h3
  refine ⟨k + 1,?_⟩
  rw [sev_call hf]
  simp only [sBody,hr,sRet,Option.bind_some]
  cases x with
  | exit i => exact absurd rfl (h2 i)
  | norm => simp only [h3,Option.bind_some,h4]
  | ret => simp only [h3,Option.bind_some,h4]
theorem out_of {n : Nat} {g : FuncId} {f : SFn} {args : List AV} {t : AV} (hf : stF E g = some f) (hw : W E f.body (fun i => args.getD i (.tup [])) Hp.empty fun x e' h' => (∀ i,x ≠ .exit i) ∧ (sRes e' h' f.res).bind (fun l => frzE n h' (evResult l)) = some t) : ∃ k n,out E k n g args = some t:= by
  obtain ⟨x,e',h',hr,h2,h3⟩:= hw
  obtain ⟨l,h3,h4⟩:= Option.bind_eq_some_iff.1 h3
  obtain ⟨k,hk⟩:= RunF.of (v:= evResult l) (h1:= h') hf ⟨x,e',h',hr,h2,rfl,by rw [h3];rfl⟩
  exact ⟨k,n,by simp only [out,hk,Option.bind_some,h4]⟩
end
end Go.Ev
namespace Go.Ev
open Go Go.RowKit
theorem upd_look (e : Ps) (d : Nat) (v : AV) (i : Nat) : upd e d v i = cond (i == d) v (e i):= by
  unfold upd
  by_cases h : i = d
  · simp [h]
  · have : (i == d) = false:= by simpa using h
    rw [this,if_neg h]
    rfl
section
variable {E : Env} {c : CallH} {ρ : Opd → AV} {h : Hp} {e : Ps}
theorem ev_t (n : Nat) : Opd.ev e (.t n) = e n:= rfl
theorem ev_c (v : AV) : Opd.ev e (.c v) = v:= rfl
theorem upd?_some (d : Nat) (v : AV) : upd? e (some d) v = upd e d v:= rfl
theorem upd?_none (v : AV) : upd? e none v = e:= rfl
def kPick (q a b : AV) (h : Hp) : Option (AV × Hp):= match q with | .bool t => some (cond t a b,h) | _ => none
theorem sX_mv (x : Opd) : sX E c ρ (.mv x) h = some (ρ x,h):= rfl
theorem sX_pick (q a b : Opd) : sX E c ρ (.pick q a b) h = kPick (ρ q) (ρ a) (ρ b) h:= by
  simp only [sX,kPick]
  cases ρ q <;> first
    | rfl
    | (rename_i t;cases t <;> rfl)
theorem kPick_bool (t : Bool) (a b : AV) : kPick (.bool t) a b h = some (cond t a b,h):= rfl
theorem sX_alloc (z : List AV) : sX E c ρ (.alloc z) h = some (.ptr h.nx 0,h.new z):= rfl
def kBox (x : AV) (h : Hp) : Option (AV × Hp):= if notCell x && !isAggV x then none else some (.ptr h.nx 0,h.new x.cells)
theorem sX_box (x : Opd) : sX E c ρ (.box x) h = kBox (ρ x) h:= rfl
theorem kBox_agg (cs : List AV) : kBox (.agg cs) h = some (.ptr h.nx 0,h.new cs):= rfl
theorem kBox_int (k : IntKind) (n : Int) : kBox (.int k n) h = some (.ptr h.nx 0,h.new [.int k n]):= rfl
theorem kBox_str (s : List UInt8) : kBox (.str s) h = some (.ptr h.nx 0,h.new [.str s]):= rfl
theorem kBox_bool (b : Bool) : kBox (.bool b) h = some (.ptr h.nx 0,h.new [.bool b]):= rfl
theorem kBox_imm (r : List (List AV)) : kBox (.imm r) h = some (.ptr h.nx 0,h.new [.imm r]):= rfl
theorem kBox_semp : kBox .semp h = some (.ptr h.nx 0,h.new [.semp]):= rfl
theorem kBox_snil : kBox .snil h = some (.ptr h.nx 0,h.new [.snil]):= rfl
theorem kBox_app (i : Nat) (r : List (List AV)) : kBox (.app i r) h = some (.ptr h.nx 0,h.new [.app i r]):= rfl
theorem kBox_sl (r o l s : Nat) : kBox (.sl r o l s) h = some (.ptr h.nx 0,h.new [.sl r o l s]):= rfl
theorem sX_build (z : List AV) (ps : List (Nat × Nat × Opd)) : sX E c ρ (.build z ps) h = (sFill z (ps.map fun p => (p.1,p.2.1,ρ p.2.2))).map fun cs => (.agg cs,h):= rfl
def kAt (x : AV) (h : Hp) : Option (List AV):= match x with
  | .ptr r off => (h.hp r).bind fun cs => if off ≤ cs.length then some (cs.drop off) else none
  | .cptr cs => some cs
  | _ => none
theorem kAt_ptr (r off : Nat) : kAt (.ptr r off) h = (h.hp r).bind fun cs => if off ≤ cs.length then some (cs.drop off) else none:= rfl
theorem kAt_cptr (cs : List AV) : kAt (.cptr cs) h = some cs:= rfl
def kHead (o : Option (List AV)) (h : Hp) : Option (AV × Hp):= o.bind fun cs => match cs with | v :: _ => some (v,h) | [] => none
theorem kHead_cons (v : AV) (r : List AV) : kHead (some (v :: r)) h = some (v,h):= rfl
theorem sX_ld (x : Opd) : sX E c ρ (.ld x) h = kHead (kAt (ρ x) h) h:= by
  simp only [sX,kHead,kAt]
  cases ρ x <;> try rfl
  case ptr r off =>
    simp only []
    cases h.hp r with
    | none => rfl
    | some cs =>
      simp only [Option.bind_some]
      split
      · simp only [Option.bind_some];cases cs.drop off <;> rfl
      · rfl
  case cptr cs => cases cs <;> rfl
def kTake (n : Nat) (o : Option (List AV)) (h : Hp) : Option (AV × Hp):= o.bind fun cs => if n ≤ cs.length then some (.agg (cs.take n),h) else none
theorem kTake_some (n : Nat) (cs : List AV) : kTake n (some cs) h = if n ≤ cs.length then some (.agg (cs.take n),h) else none:= rfl
theorem sX_ldA (n : Nat) (x : Opd) : sX E c ρ (.ldA n x) h = kTake n (kAt (ρ x) h) h:= by
  simp only [sX,kTake,kAt]
  cases ρ x <;> try rfl
  case ptr r off =>
    simp only []
    cases h.hp r with
    | none => rfl
    | some cs =>
      simp only [Option.bind_some]
      split <;> rfl
def kFa (off : Nat) (x : AV) (h : Hp) : Option (AV × Hp):= match x with
  | .ptr r o => some (.ptr r (o + off),h)
  | .cptr cs => some (.cptr (cs.drop off),h)
  | _ => none
theorem sX_fa (off : Nat) (x : Opd) : sX E c ρ (.fa off x) h = kFa off (ρ x) h:= rfl
theorem kFa_ptr (off r o : Nat) : kFa off (.ptr r o) h = some (.ptr r (o + off),h):= rfl
theorem kFa_cptr (off : Nat) (cs : List AV) : kFa off (.cptr cs) h = some (.cptr (cs.drop off),h):= rfl
def kSt (n : Nat) (a x : AV) (h : Hp) : Option (AV × Hp):= match a with
    | .ptr r off => (h.hp r).bind fun cs =>
      if n = x.cells.length ∧ off + x.cells.length ≤ cs.length ∧ !x.cells.any notCell then some (.tup [],h.set r (splice cs off x.cells)) else none
    | _ => none
theorem sX_st (n : Nat) (a x : Opd) : sX E c ρ (.st n a x) h = kSt n (ρ a) (ρ x) h:= rfl
theorem kSt_ptr (n r off : Nat) (x : AV) : kSt n (.ptr r off) x h = (h.hp r).bind fun cs =>
      if n = x.cells.length ∧ off + x.cells.length ≤ cs.length ∧ !x.cells.any notCell then some (.tup [],h.set r (splice cs off x.cells)) else none:= rfl
def kBin (op : BinOp) (x y : AV) (h : Hp) : Option (AV × Hp):= (sBin op x y).map fun v => (v,h)
theorem sX_bin (op : BinOp) (x y : Opd) : sX E c ρ (.bin op x y) h = kBin op (ρ x) (ρ y) h:= rfl
theorem kBin_add (k : IntKind) (a b : Int) : kBin .add (.int k a) (.int k b) h = some (.int k (k.wrap (a + b)),h):= by simp [kBin,sBin,evInt]
theorem kBin_sub (k : IntKind) (a b : Int) : kBin .sub (.int k a) (.int k b) h = some (.int k (k.wrap (a - b)),h):= by simp [kBin,sBin,evInt]
theorem kBin_mul (k : IntKind) (a b : Int) : kBin .mul (.int k a) (.int k b) h = some (.int k (k.wrap (a * b)),h):= by simp [kBin,sBin,evInt]
theorem kBin_quo (k : IntKind) (a b : Int) (hb : b ≠ 0) : kBin .quo (.int k a) (.int k b) h = some (.int k (k.wrap (a.tdiv b)),h):= by simp [kBin,sBin,evInt,hb]
theorem kBin_rem (k : IntKind) (a b : Int) (hb : b ≠ 0) : kBin .rem (.int k a) (.int k b) h = some (.int k (a.tmod b),h):= by simp [kBin,sBin,evInt,hb]
theorem kBin_eql (k : IntKind) (a b : Int) : kBin .eql (.int k a) (.int k b) h = some (.bool (a == b),h):= by simp [kBin,sBin,evInt]
theorem kBin_neq (k : IntKind) (a b : Int) : kBin .neq (.int k a) (.int k b) h = some (.bool (a != b),h):= by simp [kBin,sBin,evInt]
theorem kBin_lss (k : IntKind) (a b : Int) : kBin .lss (.int k a) (.int k b) h = some (.bool (a < b),h):= by simp [kBin,sBin,evInt]
theorem kBin_leq (k : IntKind) (a b : Int) : kBin .leq (.int k a) (.int k b) h = some (.bool (a ≤ b),h):= by simp [kBin,sBin,evInt]
theorem kBin_gtr (k : IntKind) (a b : Int) : kBin .gtr (.int k a) (.int k b) h = some (.bool (a > b),h):= by simp [kBin,sBin,evInt]
theorem kBin_geq (k : IntKind) (a b : Int) : kBin .geq (.int k a) (.int k b) h = some (.bool (a ≥ b),h):= by simp [kBin,sBin,evInt]
theorem kBin_seq (a b : List UInt8) : kBin .eql (.str a) (.str b) h = some (.bool (a == b),h):= rfl
theorem kBin_sne (a b : List UInt8) : kBin .neq (.str a) (.str b) h = some (.bool (!(a == b)),h):= rfl
theorem kBin_slt (a b : List UInt8) : kBin .lss (.str a) (.str b) h = some (.bool (Op.bytesLess a b),h):= rfl
theorem kBin_sadd (a b : List UInt8) : kBin .add (.str a) (.str b) h = (if a.length + b.length ≤ 9223372036854775807 then some (AV.str (a ++ b)) else none).map fun v => (v,h):= rfl
def kUn (op : UnOp) (x : AV) (h : Hp) : Option (AV × Hp):= (evUn op x).map fun v => (v,h)
theorem sX_un (op : UnOp) (x : Opd) : sX E c ρ (.un op x) h = kUn op (ρ x) h:= rfl
theorem kUn_not (b : Bool) : kUn .not (.bool b) h = some (.bool !b,h):= rfl
theorem kUn_neg (k : IntKind) (n : Int) : kUn .neg (.int k n) h = some (.int k (k.wrap (0 - n)),h):= rfl
def kCvI (k : IntKind) (x : AV) (h : Hp) : Option (AV × Hp):= match x with | .int _ n => some (.int k (k.wrap n),h) | _ => none
theorem sX_cvI (k : IntKind) (x : Opd) : sX E c ρ (.cvI k x) h = kCvI k (ρ x) h:= rfl
theorem kCvI_int (k k' : IntKind) (n : Int) : kCvI k (.int k' n) h = some (.int k (k.wrap n),h):= rfl
def kLenS (x : AV) (h : Hp) : Option (AV × Hp):= match x with | .str s => some (.int .i64 s.length,h) | _ => none
theorem sX_lenS (x : Opd) : sX E c ρ (.lenS x) h = kLenS (ρ x) h:= rfl
theorem kLenS_str (s : List UInt8) : kLenS (.str s) h = some (.int .i64 s.length,h):= rfl
def kLenL (x : AV) (h : Hp) : Option (AV × Hp):= match x with
    | .snil => some (.int .i64 0,h)
    | .semp => some (.int .i64 0,h)
    | .imm rows => some (.int .i64 rows.length,h)
    | .app _ rows => some (.int .i64 rows.length,h)
    | .sl _ _ len _ => some (.int .i64 len,h)
    | _ => none
theorem sX_lenL (x : Opd) : sX E c ρ (.lenL x) h = kLenL (ρ x) h:= rfl
theorem kLenL_semp : kLenL .semp h = some (.int .i64 0,h):= rfl
theorem kLenL_snil : kLenL .snil h = some (.int .i64 0,h):= rfl
theorem kLenL_imm (r : List (List AV)) : kLenL (.imm r) h = some (.int .i64 r.length,h):= rfl
theorem kLenL_app (i : Nat) (r : List (List AV)) : kLenL (.app i r) h = some (.int .i64 r.length,h):= rfl
theorem kLenL_sl (r o l s : Nat) : kLenL (.sl r o l s) h = some (.int .i64 l,h):= rfl
def kIa (sz : Nat) (x i : AV) (h : Hp) : Option (AV × Hp):= match i with
    | .int _ j => if 0 ≤ j then match x with
        | .imm rows => (rows[j.toNat]?).bind fun row => if row.length = sz then some (.cptr row,h) else none
        | .app _ rows => (rows[j.toNat]?).bind fun row => if row.length = sz then some (.cptr row,h) else none
        | .sl r off len s => if j.toNat < len ∧ s = sz then some (.ptr r (off + j.toNat * sz),h) else none
        | _ => none
      else none
    | _ => none
theorem sX_ia (sz : Nat) (x i : Opd) : sX E c ρ (.ia sz x i) h = kIa sz (ρ x) (ρ i) h:= rfl
theorem kIa_imm {sz : Nat} {rows : List (List AV)} {k : IntKind} {j : Int} {row : List AV} (h0 : 0 ≤ j) (hr : rows[j.toNat]? = some row) (hl : row.length = sz) : kIa sz (.imm rows) (.int k j) h = some (.cptr row,h):= by
  simp only [kIa]
  rw [if_pos h0,hr]
  simp [hl]
theorem kIa_sl {sz r off len : Nat} {k : IntKind} {j : Int} (h0 : 0 ≤ j) (hj : j.toNat < len) : kIa sz (.sl r off len sz) (.int k j) h = some (.ptr r (off + j.toNat * sz),h):= by
  have hc : j.toNat < len ∧ sz = sz:= ⟨hj,rfl⟩
  show (if 0 ≤ j then (if j.toNat < len ∧ sz = sz then some (AV.ptr r (off + j.toNat * sz),h) else none) else none) = _
  rw [if_pos h0,if_pos hc]
def kIx (x i : AV) (h : Hp) : Option (AV × Hp):= match x,i with
    | .str s,.int _ j => if 0 ≤ j then (s[j.toNat]?).map fun b => (.int .u8 b.toNat,h) else none
    | _,_ => none
theorem sX_ix (x i : Opd) : sX E c ρ (.ix x i) h = kIx (ρ x) (ρ i) h:= rfl
theorem kIx_str {s : List UInt8} {k : IntKind} {j : Int} {b : UInt8} (h0 : 0 ≤ j) (hb : s[j.toNat]? = some b) : kIx (.str s) (.int k j) h = some (.int .u8 b.toNat,h):= by
  simp only [kIx]
  rw [if_pos h0,hb]
  rfl
def kExt (x : AV) (i : Nat) (h : Hp) : Option (AV × Hp):= match x with | .tup vs => (vs[i]?).map fun v => (v,h) | _ => none
theorem sX_ext (x : Opd) (i : Nat) : sX E c ρ (.ext x i) h = kExt (ρ x) i h:= rfl
theorem kExt_tup (vs : List AV) (i : Nat) : kExt (.tup vs) i h = (vs[i]?).map fun v => (v,h):= rfl
def kFl (off : Nat) (x : AV) (h : Hp) : Option (AV × Hp):= match x with | .agg cs => (cs[off]?).map fun v => (v,h) | _ => none
theorem sX_fl (off : Nat) (x : Opd) : sX E c ρ (.fl off x) h = kFl off (ρ x) h:= rfl
theorem kFl_agg (off : Nat) (cs : List AV) : kFl off (.agg cs) h = (cs[off]?).map fun v => (v,h):= rfl
def kFlA (off n : Nat) (x : AV) (h : Hp) : Option (AV × Hp):= match x with | .agg cs => some (.agg ((cs.drop off).take n),h) | _ => none
theorem sX_flA (off n : Nat) (x : Opd) : sX E c ρ (.flA off n x) h = kFlA off n (ρ x) h:= rfl
theorem kFlA_agg (off n : Nat) (cs : List AV) : kFlA off n (.agg cs) h = some (.agg ((cs.drop off).take n),h):= rfl
theorem sX_mkS (rw : Bool) (bt : Nat) (z : List AV) (l q : Opd) : sX E c ρ (.mkS rw bt z l q) h = sMake rw bt z (ρ l) (ρ q) h:= rfl
theorem sMake_sl {bt : Nat} {z : List AV} {k k' : IntKind} {l : Int} (h0 : 0 ≤ l) (h1 : l ≤ 9223372036854775807) (h2 : (bt : Int) * l ≤ room) : sMake true bt z (.int k l) (.int k' l) h = some (.sl h.nx 0 l.toNat z.length,h.new (List.replicate l.toNat z).flatten):= by
  simp only [sMake]
  rw [if_pos ⟨h0,Int.le_refl _,h1,h2⟩]
  rfl
theorem sX_appI (bt sz : Nat) (s x : Opd) : sX E c ρ (.appI bt sz s x) h = sAppI bt sz (ρ s) (ρ x) h:= rfl
theorem sX_emp : sX E c ρ .emp h = some (.semp,h):= rfl
theorem sX_app (rw : Bool) (bt sz : Nat) (s x : Opd) : sX E c ρ (.app rw bt sz s x) h = sApp rw bt sz (ρ s) (ρ x) h:= rfl
theorem sX_bslice (rw : Bool) (z : List AV) (len : Nat) (ps : List (Nat × Opd)) : sX E c ρ (.bslice rw z len ps) h = (fillR (List.replicate len z) z.length (ps.map fun p => (p.1,ρ p.2))).bind fun rows =>
      if rw then some (.sl h.nx 0 len z.length,h.new rows.flatten)
      else (frzRows rows).bind fun rows' => some (.app h.nx rows',h.newApp len z.length):= rfl
theorem sX_sliS (x : Opd) (lo hi : Option Opd) : sX E c ρ (.sliS x lo hi) h = (sIdxS (ρ x) (lo.map ρ) (hi.map ρ)).map fun v => (v,h):= rfl
theorem sX_sliL (sz : Nat) (x : Opd) (lo hi : Option Opd) : sX E c ρ (.sliL sz x lo hi) h = (sIdxL sz (ρ x) (lo.map ρ) (hi.map ρ)).map fun v => (v,h):= rfl
theorem sX_cvS (x : Opd) : sX E c ρ (.cvS x) h = if notStr (ρ x) = true then (rowsIn h 1 (ρ x)).bind fun rows => (rowsBytes rows).map fun s => (.str s,h) else none:= rfl
def kCvB (x : AV) (h : Hp) : Option (AV × Hp):= match x with | .str s => some (.imm (s.map byteRow),h) | _ => none
theorem sX_cvB (x : Opd) : sX E c ρ (.cvB x) h = kCvB (ρ x) h:= rfl
theorem kCvB_str (s : List UInt8) : kCvB (.str s) h = some (.imm (s.map byteRow),h):= rfl
theorem sX_nilc (x : Opd) : sX E c ρ (.nilc x) h = kFa 0 (ρ x) h:= by
  simp only [sX,kFa]
  cases ρ x <;> simp
theorem sX_binB (op : BinOp) (x y : Opd) : sX E c ρ (.binB op x y) h = (sBinB op (ρ x) (ρ y)).map fun v => (v,h):= rfl
theorem sBinI_nn : sBinI .neq true .inil .inil = some (.bool false):= rfl
theorem sBinI_ne : sBinI .eql true .inil .inil = some (.bool true):= rfl
theorem sBinI_in (t : TypeId) (v : AV) (k : Bool) : sBinI .neq k (.ifc t v) .inil = some (.bool true):= rfl
theorem sBinI_ie (t : TypeId) (v : AV) (k : Bool) : sBinI .eql k (.ifc t v) .inil = some (.bool false):= rfl
theorem sBinB_eql (a b : Bool) : sBinB .eql (.bool a) (.bool b) = some (.bool (a == b)):= rfl
theorem sBinB_neq (a b : Bool) : sBinB .neq (.bool a) (.bool b) = some (.bool (!(a == b))):= rfl
theorem sX_binI (op : BinOp) (x y : Opd) : sX E c ρ (.binI op x y) h = (sBinI op (isC x || isC y) (ρ x) (ρ y)).map fun v => (v,h):= rfl
theorem isC_c : isC (.c .inil) = true:= rfl
theorem isC_t (i : Nat) : isC (.t i) = false:= rfl
theorem sX_binF (op : BinOp) (ks : List TK) (x y : Opd) : sX E c ρ (.binF op ks x y) h = (sBinF op ks (ρ x) (ρ y)).map fun v => (v,h):= rfl
theorem sX_callP (g : FuncId) (xs : List Opd) : sX E c ρ (.callP g xs) h = (E.T g).bind fun F => (frzAll (xs.map ρ)).bind fun args => (F args).map fun v => thaw (E.fr g) v h:= rfl
theorem sX_callU (g : FuncId) (xs : List Opd) : sX E c ρ (.callU g xs) h = upO h (c g (xs.map ρ) h):= rfl
theorem sX_callCZ (g : FuncId) (xs : List Opd) : sX E c ρ (.callCZ g xs) h = cuO h (zfz h (c g (xs.map ρ) h)):= rfl
theorem sX_callWZ (g : FuncId) (xs : List Opd) : sX E c ρ (.callWZ g xs) h = zfz h (c g (xs.map ρ) h):= rfl
theorem sX_callC (g : FuncId) (xs : List Opd) : sX E c ρ (.callC g xs) h = cuO h (c g (xs.map ρ) h):= rfl
def kCu (a : AV) (h : Hp) (r : Option (AV × Hp)) : Option (AV × Hp):= if cuP a h = true then none else r
theorem kCu_cptr (cs : List AV) (r : Option (AV × Hp)) : kCu (.cptr cs) h r = r:= rfl
def kNo (b : Bool) (r : Option (AV × Hp)) : Option (AV × Hp):= if b = true then none else r
theorem kNo_false (r : Option (AV × Hp)) : kNo false r = r:= rfl
theorem kCu_ptr (q off : Nat) (r : Option (AV × Hp)) : kCu (.ptr q off) h r = kNo (isCu (h.hp q)) r:= rfl
theorem isCu_some (cs : List AV) : isCu (some cs) = isCuL cs:= rfl
theorem isCuL_nil : isCuL [] = false:= rfl
theorem isCuL_1 (a : AV) : isCuL [a] = false:= by cases a <;> rfl
theorem isCuL_2 (a b : AV) : isCuL [a,b] = false:= by cases a <;> first | rfl | (cases b <;> rfl)
theorem isCuL_4 (a b c d : AV) (r : List AV) : isCuL (a :: b :: c :: d :: r) = false:= by cases a <;> first | rfl | (cases b <;> first | rfl | (cases c <;> rfl))
theorem isCuL_int (k : IntKind) (i : Int) (r : List AV) : isCuL (.int k i :: r) = false:= rfl
theorem isCuL_str (s : List UInt8) (r : List AV) : isCuL (.str s :: r) = false:= rfl
theorem isCuL_bool (b : Bool) (r : List AV) : isCuL (.bool b :: r) = false:= rfl
theorem isCuL_snil (r : List AV) : isCuL (.snil :: r) = false:= rfl
theorem isCuL_sl (a b c d : Nat) (r : List AV) : isCuL (.sl a b c d :: r) = false:= rfl
theorem isCuL_app (i : Nat) (l : List (List AV)) (r : List AV) : isCuL (.app i l :: r) = false:= rfl
theorem isCuL_ptr (i j : Nat) (r : List AV) : isCuL (.ptr i j :: r) = false:= rfl
theorem sX_ldG (x : Opd) : sX E c ρ (.ldG x) h = kCu (ρ x) h (kHead (kAt (ρ x) h) h):= by
  have:= sX_ld (E:= E) (c:= c) (ρ:= ρ) (h:= h) x
  unfold kCu
  rw [← this]
  rfl
theorem sX_ldAG (n : Nat) (x : Opd) : sX E c ρ (.ldAG n x) h = kCu (ρ x) h (kTake n (kAt (ρ x) h) h):= by
  have:= sX_ldA (E:= E) (c:= c) (ρ:= ρ) (h:= h) n x
  unfold kCu
  rw [← this]
  rfl
theorem sX_callK (g : FuncId) (xs : List Opd) : sX E c ρ (.callK g xs) h = dnO h (c g (xs.map ρ) h):= rfl
theorem sX_cvP (x : Opd) : sX E c ρ (.cvP x) h = if notStr (ρ x) = true then (asRows (ρ x)).bind fun rows => (rowsBytes rows).map fun s => (.str s,h) else none:= rfl
theorem sX_callS (g : FuncId) (xs : List Opd) : sX E c ρ (.callS g xs) h = (E.T g).bind fun F => sortC F (xs.map ρ) h:= rfl
theorem sX_callD (g : FuncId) (th : Bool) (xs : List Opd) : sX E c ρ (.callD g th xs) h = (E.T g).bind fun F => deepC F th (xs.map ρ) h:= rfl
theorem sX_callW (g : FuncId) (xs : List Opd) : sX E c ρ (.callW g xs) h = c g (xs.map ρ) h:= rfl
def kWant (v : AV) (want : Bool) : Option Bool:= match v with
    | .bool b => some (b == want)
    | .tup [] => some false
    | _ => none
theorem sWant_some (d : Nat) (want : Bool) : sWant (some (d,want)) e = kWant (e d) want:= rfl
theorem kWant_undef (want : Bool) : kWant (.tup []) want = some false:= rfl
def kOper (d : Option Nat) (w : Option Bool) (r : Option (AV × Hp)) (e : Ps) (h : Hp) : Option (Ps × Hp):= match w with
  | some true => r.map fun p => (upd? e d p.1,p.2)
  | some false => some (upd? e d (.tup []),h)
  | none => none
theorem sOps_nil : sOps E c [] e h = some (e,h):= rfl
noncomputable def kThen (r : Option (Ps × Hp)) (E : Env) (c : CallH) (os : List SOper) : Option (Ps × Hp):= match r with
  | some (e,h) => sOps E c os e h
  | none => none
theorem kThen_some (os : List SOper) : kThen (some (e,h)) E c os = sOps E c os e h:= rfl
theorem sOps_go (d : Option Nat) (op : SOp) (os : List SOper) : sOps E c (⟨d,none,op⟩ :: os) e h = kThen (kOper d (some true) (sX E c (Opd.ev e) op h) e h) E c os:= by
  simp only [sOps,sOper,sWant,Option.bind_some,if_true,kOper]
  cases sX E c (Opd.ev e) op h <;> rfl
theorem kOper_go (d : Option Nat) (v : AV) (h1 : Hp) : kOper d (some true) (some (v,h1)) e h = some (upd? e d v,h1):= rfl
noncomputable def kGd (w : Option Bool) (E : Env) (c : CallH) (d : Option Nat) (op : SOp) (os : List SOper) (e : Ps) (h : Hp) : Option (Ps × Hp):= match w with
  | some true => kThen (kOper d (some true) (sX E c (Opd.ev e) op h) e h) E c os
  | some false => sOps E c os (upd? e d (.tup [])) h
  | none => none
theorem sOps_gd (d : Option Nat) (g : Nat × Bool) (op : SOp) (os : List SOper) : sOps E c (⟨d,some g,op⟩ :: os) e h = kGd (kWant (e g.1) g.2) E c d op os e h:= by
  obtain ⟨t,want⟩:= g
  simp only [sOps,sOper,sWant_some]
  cases kWant (e t) want with
  | none => rfl
  | some w =>
    cases w with
    | false => rfl
    | true =>
      simp only [Option.bind_some,if_true,kGd,kOper]
      cases sX E c (Opd.ev e) op h <;> rfl
theorem kGd_t (d : Option Nat) (op : SOp) (os : List SOper) : kGd (some true) E c d op os e h = kThen (kOper d (some true) (sX E c (Opd.ev e) op h) e h) E c os:= rfl
theorem kGd_f (d : Option Nat) (op : SOp) (os : List SOper) : kGd (some false) E c d op os e h = sOps E c os (upd? e d (.tup [])) h:= rfl
variable {l : SLoop} {a b : SCode}
def kC (r : Option (Ps × Hp)) : SR:= match r with | some (e,h) => some (.norm,e,h) | none => none
theorem kC_some : kC (some (e,h)) = some (.norm,e,h):= rfl
theorem sC_rg (os : List SOper) : sC E c l (.rg os) e h = kC (sOps E c os e h):= by
  simp only [sC]
  cases sOps E c os e h <;> rfl
noncomputable def kSeq (r : SR) (E : Env) (c : CallH) (l : SLoop) (b : SCode) : SR:= match r with
  | some (.norm,e,h) => sC E c l b e h
  | some (x,e,h) => some (x,e,h)
  | none => none
theorem sC_seq : sC E c l (.seq a b) e h = kSeq (sC E c l a e h) E c l b:= by
  simp only [sC]
  cases sC E c l a e h with
  | none => rfl
  | some p =>
    obtain ⟨x,e1,h1⟩:= p
    cases x <;> rfl
theorem kSeq_norm : kSeq (some (.norm,e,h)) E c l b = sC E c l b e h:= rfl
theorem kSeq_exit (i : Nat) : kSeq (some (.exit i,e,h)) E c l b = some (.exit i,e,h):= rfl
theorem kSeq_ret : kSeq (some (.ret,e,h)) E c l b = some (.ret,e,h):= rfl
noncomputable def kCond (v : AV) (E : Env) (c : CallH) (l : SLoop) (a b : SCode) (e : Ps) (h : Hp) : SR:= match v with
  | .bool true => sC E c l a e h
  | .bool false => sC E c l b e h
  | _ => none
theorem sC_cond (o : Opd) : sC E c l (.cond o a b) e h = kCond (o.ev e) E c l a b e h:= by
  simp only [sC,kCond]
  cases o.ev e <;> try rfl
  case bool t => cases t <;> rfl
theorem kCond_t : kCond (.bool true) E c l a b e h = sC E c l a e h:= rfl
theorem kCond_f : kCond (.bool false) E c l a b e h = sC E c l b e h:= rfl
theorem sC_blk (i : Nat) : sC E c l (.blk i a) e h = sBlk i (sC E c l a e h):= rfl
theorem sBlk_norm (i : Nat) : sBlk i (some (.norm,e,h)) = some (.norm,e,h):= rfl
theorem sBlk_ret (i : Nat) : sBlk i (some (.ret,e,h)) = some (.ret,e,h):= rfl
theorem sBlk_exit (i j : Nat) : sBlk i (some (.exit j,e,h)) = cond (j == i) (some (.norm,e,h)) (some (.exit j,e,h)):= by
  simp only [sBlk,Option.bind_some]
  by_cases hj : j = i
  · simp [hj]
  · have : (j == i) = false:= by simpa using hj
    rw [this,if_neg hj]
    rfl
theorem sC_ret : sC E c l .ret e h = some (.ret,e,h):= rfl
theorem sC_skip : sC E c l .skip e h = some (.norm,e,h):= rfl
theorem sC_exit (i : Nat) : sC E c l (.exit i) e h = some (.exit i,e,h):= rfl
theorem sC_loop : sC E c l (.loop a) e h = l a e h:= rfl
end
end Go.Ev
namespace Go.Ev
open Go Go.RowKit
theorem kWant_tt : kWant (.bool true) true = some true:= rfl
theorem kWant_tf : kWant (.bool true) false = some false:= rfl
theorem kWant_ft : kWant (.bool false) true = some false:= rfl
theorem kWant_ff : kWant (.bool false) false = some true:= rfl
theorem kIa_map {α : Type} {row : α → List AV} {l pre rest : List α} {v : α} {sz : Nat} {h : Hp} (hl : l = pre ++ v :: rest) (hr : (row v).length = sz) : kIa sz (.imm (l.map row)) (.int .i64 pre.length) h = some (.cptr (row v),h):= by
  refine kIa_imm (by omega) ?_ hr
  subst hl
  simp
theorem kCat {a b : List UInt8} {h : Hp} (hl : a.length + b.length ≤ 9223372036854775807) : kBin .add (.str a) (.str b) h = some (.str (a ++ b),h):= by
  rw [kBin_sadd,if_pos hl]
  rfl
theorem kIx_at {s pre rest : List UInt8} {b : UInt8} {h : Hp} (hs : s = pre ++ b :: rest) : kIx (.str s) (.int .i64 pre.length) h = some (.int .u8 b.toNat,h):= by
  refine kIx_str (by omega) ?_
  subst hs
  simp
theorem lt_map {α : Type} {l pre rest : List α} {v : α} (hl : l = pre ++ v :: rest) : decide ((pre.length : Int) < (l.length : Int)) = true:= by
  subst hl
  simp
  omega
theorem outOf_exit (i : Nat) : outOf i (.exit i) = .norm:= by simp [outOf]
theorem outOf_ret (i : Nat) : outOf i .ret = .ret:= rfl
theorem outOf_norm (i : Nat) : outOf i .norm = .norm:= rfl
theorem thn_norm {E : Env} {b : SCode} {Q : QS} {e : Ps} {h : Hp} : thn E b Q .norm e h = W E b e h Q:= rfl
theorem thn_ret {E : Env} {b : SCode} {Q : QS} {e : Ps} {h : Hp} : thn E b Q .ret e h = Q .ret e h:= rfl
theorem thn_exit {E : Env} {b : SCode} {Q : QS} {e : Ps} {h : Hp} {i : Nat} : thn E b Q (.exit i) e h = Q (.exit i) e h:= rfl
section
variable {E : Env} {e : Ps} {h : Hp} {n : Nat}
def QO (n : Nat) (rs : List SRes) (t : AV) : QS:= fun x e h => (∀ i,x ≠ .exit i) ∧ (sRes e h rs).bind (fun l => frzE n h (evResult l)) = some t
theorem QO_ret (rs : List SRes) (t : AV) : QO n rs t .ret e h = ((sRes e h rs).bind (fun l => frzE n h (evResult l)) = some t):= by simp [QO]
theorem QO_norm (rs : List SRes) (t : AV) : QO n rs t .norm e h = ((sRes e h rs).bind (fun l => frzE n h (evResult l)) = some t):= by simp [QO]
theorem out_W {g : FuncId} {f : SFn} {args : List AV} {t : AV} (hf : stF E g = some f) (hw : W E f.body (fun i => args.getD i (.tup [])) Hp.empty (QO n f.res t)) : ∃ k n,out E k n g args = some t:= out_of hf hw
theorem out_K {g : FuncId} {f : SFn} {args : List AV} {t : AV} (hf : stF E g = some f) (hw : hO (sC E (sev E 0).1 (sev E 0).2 f.body (fun i => args.getD i (.tup [])) Hp.empty) (QO n f.res t)) : ∃ k n,out E k n g args = some t:= out_W hf (.sim hw)
def kAtP (x : AV) (h : Hp) : Option (List AV):= match x with
  | .ptr r off => (h.hp r).bind fun cs => if off ≤ cs.length then some (cs.drop off) else none
  | _ => none
theorem kAtP_ptr (r off : Nat) : kAtP (.ptr r off) h = (h.hp r).bind fun cs => if off ≤ cs.length then some (cs.drop off) else none:= rfl
theorem sRes_nil : sRes e h [] = some []:= rfl
theorem sRes_t (i : Nat) (r : List SRes) : sRes e h (.t i :: r) = (sRes e h r).map fun l => e i :: l:= rfl
theorem sRes_ld (i : Nat) (r : List SRes) : sRes e h (.ld i :: r) = (kHead (kAtP (e i) h) h).bind fun v => (sRes e h r).map fun l => v.1 :: l:= by
  simp only [sRes]
  cases e i <;> try rfl
  case ptr q off =>
    simp only [kAtP_ptr]
    cases h.hp q with
    | none => rfl
    | some cs =>
      simp only [Option.bind_some]
      split
      · cases hd : cs.drop off <;> rfl
      · rfl
theorem sRes_ldA (i k : Nat) (r : List SRes) : sRes e h (.ldA i k :: r) = (kTake k (kAtP (e i) h) h).bind fun v => (sRes e h r).map fun l => v.1 :: l:= by
  simp only [sRes]
  cases e i <;> try rfl
  case ptr q off =>
    simp only [kAtP_ptr]
    cases h.hp q with
    | none => rfl
    | some cs =>
      simp only [Option.bind_some]
      split
      · simp only [kTake_some]
        split <;> rfl
      · rfl
theorem evResult_one (v : AV) : evResult [v] = v:= rfl
theorem evResult_two (a b : AV) (r : List AV) : evResult (a :: b :: r) = .tup (a :: b :: r):= rfl
theorem frzE_int (k : IntKind) (i : Int) : frzE n h (.int k i) = some (.int k i):= by cases n <;> rfl
theorem frzE_bool (b : Bool) : frzE n h (.bool b) = some (.bool b):= by cases n <;> rfl
theorem frzE_str (s : List UInt8) : frzE n h (.str s) = some (.str s):= by cases n <;> rfl
theorem frzE_imm (r : List (List AV)) : frzE n h (.imm r) = some (.imm r):= by cases n <;> rfl
theorem frzE_app (i : Nat) (r : List (List AV)) : frzE n h (.app i r) = some (.imm r):= by cases n <;> rfl
theorem frzE_semp : frzE n h .semp = some (.imm []):= by cases n <;> rfl
theorem frzE_snil : frzE n h .snil = some (.imm []):= by cases n <;> rfl
theorem frzE_agg (cs : List AV) : frzE n h (.agg cs) = (mapO (frzD n h) cs).map .agg:= rfl
theorem frzE_tup (vs : List AV) : frzE n h (.tup vs) = (mapO (frzT n h) vs).map .tup:= rfl
theorem frzT_int (k : IntKind) (i : Int) : frzT n h (.int k i) = some (.int k i):= by cases n <;> rfl
theorem frzT_bool (b : Bool) : frzT n h (.bool b) = some (.bool b):= by cases n <;> rfl
theorem frzT_str (s : List UInt8) : frzT n h (.str s) = some (.str s):= by cases n <;> rfl
theorem frzT_imm (r : List (List AV)) : frzT n h (.imm r) = some (.imm r):= by cases n <;> rfl
theorem frzT_app (i : Nat) (r : List (List AV)) : frzT n h (.app i r) = some (.imm r):= by cases n <;> rfl
theorem frzT_semp : frzT n h .semp = some (.imm []):= by cases n <;> rfl
theorem frzT_snil : frzT n h .snil = some (.imm []):= by cases n <;> rfl
theorem frzT_agg (cs : List AV) : frzT n h (.agg cs) = (mapO (frzD n h) cs).map .agg:= rfl
theorem frzD_int (k : IntKind) (i : Int) : frzD n h (.int k i) = some (.int k i):= by cases n <;> rfl
theorem frzD_bool (b : Bool) : frzD n h (.bool b) = some (.bool b):= by cases n <;> rfl
theorem frzD_str (s : List UInt8) : frzD n h (.str s) = some (.str s):= by cases n <;> rfl
theorem frzD_imm (r : List (List AV)) : frzD n h (.imm r) = some (.imm r):= by cases n <;> rfl
theorem frzD_app (i : Nat) (r : List (List AV)) : frzD n h (.app i r) = some (.imm r):= by cases n <;> rfl
theorem frzD_semp : frzD n h .semp = some (.imm []):= by cases n <;> rfl
theorem frzD_snil : frzD n h .snil = some (.imm []):= by cases n <;> rfl
theorem mapO_nil {α β : Type} (f : α → Option β) : mapO f [] = some []:= rfl
theorem mapO_cons {α β : Type} (f : α → Option β) (a : α) (r : List α) : mapO f (a :: r) = (f a).bind fun b => (mapO f r).map fun l => b :: l:= rfl
end
end Go.Ev
namespace Go.Ev
open Go Go.RowKit
theorem chunk_flatten {sz : Nat} : ∀ (rows : List (List AV)),(∀ r ∈ rows,r.length = sz) → ∀ tl,chunk sz (rows.flatten ++ tl) rows.length = rows
  | [],_,tl => rfl
  | r :: rows,h,tl => by
    have h1:= h r List.mem_cons_self
    simp only [List.flatten_cons,List.length_cons,chunk,List.append_assoc]
    rw [← h1,List.take_left',List.drop_left',h1,chunk_flatten rows (fun x hx => h x (List.mem_cons_of_mem _ hx))]
    · rfl
    · rfl
theorem flatten_len {sz : Nat} : ∀ {rows : List (List AV)},(∀ r ∈ rows,r.length = sz) → rows.flatten.length = rows.length * sz
  | [],_ => by simp
  | r :: rows,h => by
    rw [List.flatten_cons,List.length_append,flatten_len fun x hx => h x (List.mem_cons_of_mem _ hx),h r List.mem_cons_self,List.length_cons,Nat.succ_mul,Nat.add_comm]
theorem mapO_id {α : Type} {f : α → Option α} : ∀ {l : List α},(∀ x ∈ l,f x = some x) → mapO f l = some l
  | [],_ => rfl
  | x :: l,h => by
    simp only [mapO,h x List.mem_cons_self,Option.bind_some,mapO_id fun y hy => h y (List.mem_cons_of_mem _ hy),Option.map_some]
theorem frzE_rows {r sz n : Nat} {rows : List (List AV)} {h : Hp} (hh : h.hp r = some rows.flatten) (hr : ∀ x ∈ rows,x.length = sz) (hf : ∀ x ∈ rows,∀ c ∈ x,frzD n h c = some c) : frzE (n + 1) h (.sl r 0 rows.length sz) = some (.imm rows):= by
  have hl:= flatten_len hr
  have hc:= chunk_flatten rows hr []
  rw [List.append_nil] at hc
  have e : frzE (n + 1) h (.sl r 0 rows.length sz) = frzD (n + 1) h (.sl r 0 rows.length sz):= rfl
  rw [e]
  simp only [frzD,hh,Option.bind_some]
  rw [if_pos (by omega),List.drop_zero,hc,mapO_id fun x hx => mapO_id fun c hc => hf x hx c hc]
  rfl
end Go.Ev
namespace Go.Ev
open Go Go.RowKit
theorem frzCell_bool (b : Bool) : frzCell (.bool b) = some (.bool b):= rfl
theorem frz_bool (b : Bool) : Ev.frz (.bool b) = some (.bool b):= rfl
theorem frzCell_int (k : IntKind) (n : Int) : frzCell (.int k n) = some (.int k n):= rfl
theorem frz_int (k : IntKind) (n : Int) : Ev.frz (.int k n) = some (.int k n):= rfl
theorem frzCell_str (s : List UInt8) : frzCell (.str s) = some (.str s):= rfl
theorem frz_str (s : List UInt8) : Ev.frz (.str s) = some (.str s):= rfl
theorem frzCell_semp : frzCell .semp = some (.imm []):= rfl
theorem frz_semp : Ev.frz .semp = some (.imm []):= rfl
theorem notCell_semp : notCell .semp = false:= rfl
theorem cells_semp : AV.cells .semp = [.semp]:= rfl
theorem frzCell_snil  : frzCell .snil = some (.imm []):= rfl
theorem frz_snil  : Ev.frz .snil = some (.imm []):= rfl
theorem frzCell_imm (r : List (List AV)) : frzCell (.imm r) = some (.imm r):= rfl
theorem frz_imm (r : List (List AV)) : Ev.frz (.imm r) = some (.imm r):= rfl
theorem frzCell_app (i : Nat) (r : List (List AV)) : frzCell (.app i r) = some (.imm r):= rfl
theorem frz_app (i : Nat) (r : List (List AV)) : Ev.frz (.app i r) = some (.imm r):= rfl
theorem frzCell_inil  : frzCell .inil = some (.inil):= rfl
theorem frz_inil  : Ev.frz .inil = some (.inil):= rfl
theorem frzCell_pnil  : frzCell .pnil = some (.pnil):= rfl
theorem frz_pnil  : Ev.frz .pnil = some (.pnil):= rfl
theorem frz_agg (cs : List AV) : Ev.frz (.agg cs) = (frzCells cs).map .agg:= rfl
theorem notCell_bool (b : Bool) : notCell (.bool b) = false:= rfl
theorem cells_bool (b : Bool) : AV.cells (.bool b) = [(.bool b)]:= rfl
theorem notCell_int (k : IntKind) (n : Int) : notCell (.int k n) = false:= rfl
theorem cells_int (k : IntKind) (n : Int) : AV.cells (.int k n) = [(.int k n)]:= rfl
theorem notCell_str (s : List UInt8) : notCell (.str s) = false:= rfl
theorem cells_str (s : List UInt8) : AV.cells (.str s) = [(.str s)]:= rfl
theorem notCell_snil  : notCell .snil = false:= rfl
theorem cells_snil  : AV.cells .snil = [.snil]:= rfl
theorem notCell_imm (r : List (List AV)) : notCell (.imm r) = false:= rfl
theorem cells_imm (r : List (List AV)) : AV.cells (.imm r) = [(.imm r)]:= rfl
theorem notCell_app (i : Nat) (r : List (List AV)) : notCell (.app i r) = false:= rfl
theorem cells_app (i : Nat) (r : List (List AV)) : AV.cells (.app i r) = [(.app i r)]:= rfl
theorem notCell_inil  : notCell .inil = false:= rfl
theorem cells_inil  : AV.cells .inil = [.inil]:= rfl
theorem notCell_pnil  : notCell .pnil = false:= rfl
theorem cells_pnil  : AV.cells .pnil = [.pnil]:= rfl
theorem notCell_sl (r o l s : Nat) : notCell (.sl r o l s) = false:= rfl
theorem cells_sl (r o l s : Nat) : AV.cells (.sl r o l s) = [(.sl r o l s)]:= rfl
theorem notCell_ptr (r o : Nat) : notCell (.ptr r o) = false:= rfl
theorem cells_ptr (r o : Nat) : AV.cells (.ptr r o) = [(.ptr r o)]:= rfl
theorem cells_agg (cs : List AV) : AV.cells (.agg cs) = cs:= rfl
theorem thaw_bool (q : Bool) (b : Bool) (h : Hp) : thaw q (.bool b) h = (.bool b,h):= by cases q <;> rfl
theorem thaw_int (q : Bool) (k : IntKind) (n : Int) (h : Hp) : thaw q (.int k n) h = (.int k n,h):= by cases q <;> rfl
theorem thaw_str (q : Bool) (s : List UInt8) (h : Hp) : thaw q (.str s) h = (.str s,h):= by cases q <;> rfl
theorem thaw_snil (q : Bool)  (h : Hp) : thaw q (.snil ) h = (.snil ,h):= by cases q <;> rfl
theorem thaw_imm (q : Bool) (r : List (List AV)) (h : Hp) : thaw q (.imm r) h = (.imm r,h):= by cases q <;> rfl
theorem thaw_inil (q : Bool)  (h : Hp) : thaw q (.inil ) h = (.inil ,h):= by cases q <;> rfl
theorem thaw_pnil (q : Bool)  (h : Hp) : thaw q (.pnil ) h = (.pnil ,h):= by cases q <;> rfl
theorem thaw_agg (q : Bool) (cs : List AV) (h : Hp) : thaw q (.agg cs) h = (.agg cs,h):= by cases q <;> rfl
theorem thaw_tup (q : Bool) (vs : List AV) (h : Hp) : thaw q (.tup vs) h = (.tup vs,h):= by cases q <;> rfl
theorem thaw_app (sz : Nat) (r : List (List AV)) (h : Hp) : thaw true (.app sz r) h = (.app h.nx r,h.newApp r.length sz):= rfl
attribute [go_sem] thaw_bool thaw_int thaw_str thaw_snil thaw_imm thaw_inil thaw_pnil thaw_agg thaw_tup thaw_app
attribute [go_sem] frzCell_bool frz_bool frzCell_int frz_int frzCell_str frz_str frzCell_snil frz_snil frzCell_imm frz_imm frzCell_app frz_app frzCell_inil frz_inil frzCell_pnil frz_pnil frz_agg notCell_bool cells_bool notCell_int cells_int notCell_str cells_str notCell_snil cells_snil notCell_imm cells_imm notCell_app cells_app notCell_inil cells_inil notCell_pnil cells_pnil notCell_sl cells_sl notCell_ptr cells_ptr cells_agg
attribute [go_sem] hO_some outOf_exit outOf_ret outOf_norm thn_norm thn_ret thn_exit QO_ret QO_norm sRes_nil sRes_t sRes_ld sRes_ldA kAtP_ptr evResult_one evResult_two frzE_int frzE_bool frzE_str frzE_imm frzE_app frzE_snil frzE_agg frzE_tup frzT_int frzT_bool frzT_str frzT_imm frzT_app frzT_snil frzT_agg frzD_int frzD_bool frzD_str frzD_imm frzD_app frzD_snil mapO_nil mapO_cons sC_rg sC_seq sC_cond sC_blk sC_ret sC_skip sC_exit sC_loop kC_some kSeq_norm kSeq_exit kSeq_ret kCond_t kCond_f sBlk_norm sBlk_ret sBlk_exit sOps_nil sOps_go sOps_gd kThen_some kOper_go kGd_t kGd_f kWant_tt kWant_tf kWant_ft kWant_ff kWant_undef ev_t ev_c upd?_some upd?_none upd_look cond_true cond_false sX_mv sX_pick kPick_bool sX_alloc sX_box kBox_agg kBox_int kBox_str kBox_bool kBox_imm kBox_snil kBox_app kBox_sl sX_build sX_ld sX_ldA kAt_ptr kAt_cptr kHead_cons kTake_some sX_fa kFa_ptr kFa_cptr sX_st sX_bin kBin_add kBin_sub kBin_mul kBin_eql kBin_neq kBin_lss kBin_leq kBin_gtr kBin_geq kBin_seq kBin_sne kBin_slt sX_un kUn_not kUn_neg sX_cvI kCvI_int sX_lenS kLenS_str sX_lenL kLenL_snil kLenL_imm kLenL_app kLenL_sl sX_ia sX_ix sX_ext kExt_tup sX_fl kFl_agg sX_flA kFlA_agg sX_mkS sX_app sX_bslice sX_sliS sX_sliL sX_cvS sX_cvB kCvB_str sX_nilc sX_binB sBinB_eql sBinB_neq sX_binI isC_c isC_t Bool.or_true Bool.false_or sBinI_nn sBinI_ne sBinI_in sBinI_ie sX_binF sX_callP sX_callW sX_callD sX_callS sX_callK sX_callU sX_callC sX_callCZ sX_callWZ sX_ldG sX_ldAG kCu_cptr kCu_ptr kNo_false isCu_some isCuL_nil isCuL_1 isCuL_2 isCuL_4 isCuL_int isCuL_str isCuL_bool isCuL_snil isCuL_sl isCuL_app isCuL_ptr sX_cvP Hp.new Hp.set Hp.newApp Hp.setApp Hp.kill Hp.empty Bool.false_eq_true Nat.zero_add Nat.add_zero Nat.le_refl Nat.zero_le if_true if_false ite_true ite_false Option.bind_some Option.map_some List.drop_zero List.drop_succ_cons List.drop_nil List.take_zero List.take_succ_cons List.take_nil List.length_map List.length_cons List.length_nil List.map_cons List.map_nil frzAll frzCells List.getD_cons_zero List.getD_cons_succ List.getElem?_cons_zero List.getElem?_cons_succ Option.getD_some decide_true decide_false beq_self_eq_true bne_self_eq_false ge_iff_le gt_iff_lt Bool.not_true Bool.not_false Bool.true_and Bool.false_and Bool.and_true Bool.and_false eq_self_iff_true true_and and_true Int.toNat_natCast List.any_cons List.any_nil Bool.or_self Bool.or_false List.cons_append List.nil_append List.append_nil
theorem spl_z (cs xs : List AV) : splice cs 0 xs = xs ++ cs.drop xs.length:= by simp [splice]
theorem spl_c1 (c : AV) (B xs : List AV) : splice (c :: B) 1 xs = c :: splice B 0 xs:= by
  simp only [splice,List.take_succ_cons,List.cons_append]
  congr 2
  rw [show 1 + xs.length = (0 + xs.length) + 1 by omega,List.drop_succ_cons]
theorem spl_c2 (c : AV) (B xs : List AV) : splice (c :: B) 2 xs = c :: splice B 1 xs:= by
  simp only [splice,List.take_succ_cons,List.cons_append]
  congr 2
  rw [show 2 + xs.length = (1 + xs.length) + 1 by omega,List.drop_succ_cons]
theorem spl_c3 (c : AV) (B xs : List AV) : splice (c :: B) 3 xs = c :: splice B 2 xs:= by
  simp only [splice,List.take_succ_cons,List.cons_append]
  congr 2
  rw [show 3 + xs.length = (2 + xs.length) + 1 by omega,List.drop_succ_cons]
theorem spl_c4 (c : AV) (B xs : List AV) : splice (c :: B) 4 xs = c :: splice B 3 xs:= by
  simp only [splice,List.take_succ_cons,List.cons_append]
  congr 2
  rw [show 4 + xs.length = (3 + xs.length) + 1 by omega,List.drop_succ_cons]
theorem spl_c5 (c : AV) (B xs : List AV) : splice (c :: B) 5 xs = c :: splice B 4 xs:= by
  simp only [splice,List.take_succ_cons,List.cons_append]
  congr 2
  rw [show 5 + xs.length = (4 + xs.length) + 1 by omega,List.drop_succ_cons]
theorem spl_c6 (c : AV) (B xs : List AV) : splice (c :: B) 6 xs = c :: splice B 5 xs:= by
  simp only [splice,List.take_succ_cons,List.cons_append]
  congr 2
  rw [show 6 + xs.length = (5 + xs.length) + 1 by omega,List.drop_succ_cons]
theorem spl_c7 (c : AV) (B xs : List AV) : splice (c :: B) 7 xs = c :: splice B 6 xs:= by
  simp only [splice,List.take_succ_cons,List.cons_append]
  congr 2
  rw [show 7 + xs.length = (6 + xs.length) + 1 by omega,List.drop_succ_cons]
theorem spl_c8 (c : AV) (B xs : List AV) : splice (c :: B) 8 xs = c :: splice B 7 xs:= by
  simp only [splice,List.take_succ_cons,List.cons_append]
  congr 2
  rw [show 8 + xs.length = (7 + xs.length) + 1 by omega,List.drop_succ_cons]
attribute [go_sem] frzCell_semp frz_semp notCell_semp cells_semp kLenL_semp kBox_semp frzE_semp frzT_semp frzD_semp sX_appI sX_emp
attribute [go_sem] spl_z spl_c1 spl_c2 spl_c3 spl_c4 spl_c5 spl_c6 spl_c7 spl_c8 List.length_cons List.length_nil
end Go.Ev
namespace Go.Ev
open Go Go.RowKit
variable {P : Program} {WI : World → Prop} {f : FuncId} {w : World} {C : Nat → Nat → Prop}
theorem args2 {vs : Array Value} {t u : AV} (hsz : vs.size = [t,u].length) (h : ∀ (i : Nat) v c,vs[i]? = some v → [t,u][i]? = some c → RA w C v c) : ∃ v z,vs = #[v,z] ∧ RA w C v t ∧ RA w C z u:= by
  obtain ⟨l⟩:= vs
  match l,hsz with
  | [v,z],_ => exact ⟨v,z,rfl,h 0 v t rfl rfl,h 1 z u rfl rfl⟩
theorem cell_stable {b : Nat} {k : IntKind} : Stable fun w => ∃ m,w.cell? ⟨b,0,none⟩ = some (.int k m):= by
  rintro w w' hb ⟨m,h⟩
  exact ⟨m,by rw [hb.cell (p:= ⟨b,0,none⟩) (block_of_cell h)];exact h⟩
end Go.Ev
namespace Go.Ev
open Go Go.RowKit
theorem wrapId {x : Int} (h0 : -9223372036854775808 ≤ x) (h1 : x ≤ 9223372036854775807) : IntKind.wrap .i64 x = x:= by
  simp [IntKind.wrap,IntKind.bits,IntKind.signed]
  split <;> omega
structure TD (α : Type) where
  row : α → List AV
  enc : α → AV
  sz : Nat
  one : Bool
  cost : α → Nat
  fits : α → Prop
  ok : α → Prop
  len : ∀ v,(row v).length = sz
  pos : 0 < sz
  inj : ∀ a b,row a = row b → a = b
  enc1 : one = true → sz = 1 ∧ ∀ v,row v = [enc v]
  encA : one = false → ∀ v,enc v = .agg (row v)
  frz : ∀ v,∀ c ∈ row v,frzCell c = some c ∧ notCell c = false
  fit : ∀ v,cost v ≤ 1048576 → fits v
  dep : Nat
  okd : ∀ v,∀ c ∈ row v,okV dep c
theorem frzCells_id : ∀ {l : List AV},(∀ c ∈ l,frzCell c = some c) → frzCells l = some l
  | [],_ => rfl
  | c :: l,h => by simp only [frzCells,h c List.mem_cons_self,Option.bind_some,frzCells_id fun d hd => h d (List.mem_cons_of_mem _ hd),Option.map_some]
theorem frz_one {v : AV} (h : frzCell v = some v) : frz v = some v:= by
  cases v <;> first
    | exact h
    | cases h
section
variable {α β : Type} (T : TD α)
theorem TD.enc_inj {a b : α} (h : T.enc a = T.enc b) : a = b:= by
  cases h1 : T.one
  · rw [T.encA h1,T.encA h1] at h
    exact T.inj a b (by injection h)
  · refine T.inj a b ?_
    rw [(T.enc1 h1).2,(T.enc1 h1).2,h]
theorem TD.frzRow (v : α) : frzCells (T.row v) = some (T.row v):= frzCells_id fun c hc => (T.frz v c hc).1
theorem TD.frzEnc (v : α) : Ev.frz (T.enc v) = some (T.enc v):= by
  cases h1 : T.one
  · rw [T.encA h1]
    simp only [Ev.frz,T.frzRow,Option.map_some]
  · exact frz_one (T.frz v _ (by rw [(T.enc1 h1).2];simp)).1
theorem TD.notCells (v : α) : (T.row v).any notCell = false:= by
  rw [List.any_eq_false]
  intro c hc
  simp [(T.frz v c hc).2]
theorem TD.cells (v : α) : (T.enc v).cells = T.row v:= by
  cases h1 : T.one
  · rw [T.encA h1]
    rfl
  · have:= T.frz v (T.enc v) (by rw [(T.enc1 h1).2];simp)
    rw [(T.enc1 h1).2]
    cases he : T.enc v <;> rw [he] at this <;> first
      | rfl
      | exact absurd this.2 (by simp [notCell])
theorem TD.take (v : α) (h1 : T.one = false) (h : Hp) : kTake T.sz (some (T.row v)) h = some (T.enc v,h):= by
  rw [kTake_some,if_pos (by rw [T.len];exact Nat.le_refl _),T.encA h1,← T.len v,List.take_length]
theorem TD.head (v : α) (h1 : T.one = true) (h : Hp) : kHead (some (T.row v)) h = some (T.enc v,h):= by
  rw [(T.enc1 h1).2]
  rfl
theorem TD.thaw (v : α) (q : Bool) (h : Hp) : Ev.thaw q (T.enc v) h = (T.enc v,h):= by
  cases h1 : T.one
  · rw [T.encA h1,thaw_agg]
  · have:= T.frz v (T.enc v) (by rw [(T.enc1 h1).2];simp)
    cases he : T.enc v <;> rw [he] at this <;> first
      | (cases q <;> rfl)
      | exact absurd this.1 (by simp [frzCell])
theorem frzD_cell {n : Nat} {h : Hp} {c : AV} (hc : frzCell c = some c) : frzD n h c = some c:= by
  cases n with
  | zero => exact hc
  | succ n =>
    unfold frzD
    split
    · cases hc
    · exact hc
theorem TD.frzT (n : Nat) (h : Hp) (v : α) : Ev.frzT n h (T.enc v) = some (T.enc v):= by
  cases h1 : T.one
  · rw [T.encA h1]
    simp only [Ev.frzT,mapO_id fun c hc => frzD_cell (T.frz v c hc).1,Option.map_some]
  · have:= T.frz v (T.enc v) (by rw [(T.enc1 h1).2];simp)
    unfold Ev.frzT
    split
    · rename_i he
      rw [he] at this
      simp [notCell] at this
    · exact frzD_cell this.1
theorem TD.okT {n : Nat} (v : α) (hd : T.dep ≤ n) : Ev.okT n (T.enc v):= by
  cases h1 : T.one
  · rw [T.encA h1]
    exact .inl ⟨_,rfl,fun c hc => (T.okd v c hc).mono hd⟩
  · have hm : T.enc v ∈ T.row v:= by rw [(T.enc1 h1).2];simp
    refine .inr ⟨fun cs e => ?_,(T.okd v _ hm).mono hd⟩
    have:= (T.frz v _ hm).2
    rw [e] at this
    simp [notCell] at this
def ldOp (one : Bool) (sz : Nat) (o : Opd) : SOp:= if one then .ld o else .ldA sz o
theorem TD.map_inj {l r : List α} (h : l.map T.row = r.map T.row) : l = r:= (List.map_inj_right (fun x y h => T.inj x y h)).1 h
def costL : List α → Nat
  | [] => 0
  | v :: r => T.cost v + costL r
theorem costL_mem {v : α} : ∀ {l : List α},v ∈ l → T.cost v ≤ costL T l
  | [],h => by cases h
  | x :: l,h => by
    simp only [costL]
    rcases List.mem_cons.1 h with rfl | h
    · omega
    · have:= costL_mem h;omega
def sliceT : TD (List α) where
  row l:= [.imm (l.map T.row)]
  enc l:= .imm (l.map T.row)
  sz:= 1
  one:= true
  cost l:= l.length + costL T l
  fits l:= l.length ≤ 9223372036854775807 ∧ ∀ v ∈ l,T.fits v
  ok l:= ∀ v ∈ l,T.ok v
  len _:= rfl
  pos:= by decide
  inj a b h:= T.map_inj (by simpa using h)
  enc1 _:= ⟨rfl,fun _ => rfl⟩
  encA h:= by cases h
  frz v c hc:= by
    simp only [List.mem_cons,List.not_mem_nil,or_false] at hc
    subst hc
    exact ⟨rfl,rfl⟩
  fit v h:= ⟨by omega,fun x hx => T.fit x (by have:= costL_mem T hx;omega)⟩
  dep:= T.dep + 1
  okd v c hc:= by
    simp only [List.mem_cons,List.not_mem_nil,or_false] at hc
    subst hc
    refine .inr ⟨_,T.sz,rfl,by have:= T.pos;omega,fun row hr => ?_⟩
    obtain ⟨x,_,rfl⟩:= List.mem_map.1 hr
    exact ⟨T.len x,fun c hc => T.okd x c hc⟩
end
def oneT {α : Type} (enc : α → AV) (inj : ∀ a b,enc a = enc b → a = b) (frz : ∀ v,frzCell (enc v) = some (enc v) ∧ notCell (enc v) = false) (lf : ∀ v,leafV (enc v) = true) (ok : α → Prop) : TD α where
  row v:= [enc v]
  enc:= enc
  sz:= 1
  one:= true
  cost _:= 0
  fits _:= True
  ok:= ok
  len _:= rfl
  pos:= by decide
  inj a b h:= inj a b (by simpa using h)
  enc1 _:= ⟨rfl,fun _ => rfl⟩
  encA h:= by cases h
  frz v c hc:= by
    simp only [List.mem_cons,List.not_mem_nil,or_false] at hc
    subst hc
    exact frz v
  fit _ _:= trivial
  dep:= 0
  okd v c hc:= by
    simp only [List.mem_cons,List.not_mem_nil,or_false] at hc
    subst hc
    exact lf v
def intT : TD Int:= oneT (.int .i64) (fun a b h => by simpa using h) (fun _ => ⟨rfl,rfl⟩) (fun _ => rfl) fun n => -9223372036854775808 ≤ n ∧ n ≤ 9223372036854775807
def boolT : TD Bool:= oneT .bool (fun a b h => by simpa using h) (fun _ => ⟨rfl,rfl⟩) (fun _ => rfl) fun _ => True
def u8T : TD UInt8:= oneT (fun b => .int .u8 b.toNat) (fun a b h => by
  simp only [AV.int.injEq,true_and] at h
  exact UInt8.toNat_inj.1 (by omega)) (fun _ => ⟨rfl,rfl⟩) (fun _ => rfl) fun _ => True
def strT : TD (List UInt8) where
  row v:= [.str v]
  enc v:= .str v
  sz:= 1
  one:= true
  cost v:= v.length
  fits v:= v.length ≤ 9223372036854775807
  ok _:= True
  len _:= rfl
  pos:= by decide
  inj a b h:= by simpa using h
  enc1 _:= ⟨rfl,fun _ => rfl⟩
  encA h:= by cases h
  frz v c hc:= by
    simp only [List.mem_cons,List.not_mem_nil,or_false] at hc
    subst hc
    exact ⟨rfl,rfl⟩
  fit v h:= by omega
  dep:= 0
  okd v c hc:= by
    simp only [List.mem_cons,List.not_mem_nil,or_false] at hc
    subst hc
    rfl
theorem sliceT_enc {α : Type} (T : TD α) (l : List α) : (sliceT T).enc l = .imm (l.map T.row):= rfl
theorem sliceT_row {α : Type} (T : TD α) (l : List α) : (sliceT T).row l = [.imm (l.map T.row)]:= rfl
theorem intT_enc (n : Int) : intT.enc n = .int .i64 n:= rfl
theorem intT_row (n : Int) : intT.row n = [.int .i64 n]:= rfl
theorem boolT_enc (b : Bool) : boolT.enc b = .bool b:= rfl
theorem boolT_row (b : Bool) : boolT.row b = [.bool b]:= rfl
theorem strT_enc (s : List UInt8) : strT.enc s = .str s:= rfl
theorem strT_row (s : List UInt8) : strT.row s = [.str s]:= rfl
theorem u8T_enc (b : UInt8) : u8T.enc b = .int .u8 b.toNat:= rfl
theorem u8T_row (b : UInt8) : u8T.row b = [.int .u8 b.toNat]:= rfl
def TD.good {α : Type} (T : TD α) (v : α) : Prop:= T.cost v ≤ 1048576 ∧ T.ok v
theorem wf_i64 {n : Int} (h : (Lit.int .i64 n).wf = true) : -9223372036854775808 ≤ n ∧ n ≤ 9223372036854775807:= by
  simp only [Lit.wf,Bool.and_eq_true,decide_eq_true_eq] at h
  exact h
section
variable {α β γ δ ε : Type} (T : TD α) (U : TD β) (V : TD γ) (X : TD δ)
noncomputable def c1 (p : α → Prop) (o : ε → AV) (f : α → ε):= ct (fun a => [T.enc a]) p o f
theorem c1_eq {p : α → Prop} {o : ε → AV} {f : α → ε} {a : α} (h : p a) : c1 T p o f [T.enc a] = some (o (f a)):=
  ct_eq (ens:= fun a => [T.enc a]) (fun a b h => T.enc_inj (by simpa using h)) h
noncomputable def c2 (p : α → β → Prop) (o : ε → AV) (f : α → β → ε):= ct (fun a : α × β => [T.enc a.1,U.enc a.2]) (fun a => p a.1 a.2) o fun a => f a.1 a.2
theorem c2_eq {p : α → β → Prop} {o : ε → AV} {f : α → β → ε} {a : α} {b : β} (h : p a b) : c2 T U p o f [T.enc a,U.enc b] = some (o (f a b)):=
  ct_eq (ens:= fun a : α × β => [T.enc a.1,U.enc a.2]) (a:= (a,b)) (fun a b h => by
    simp only [List.cons.injEq,and_true] at h
    exact Prod.ext (T.enc_inj h.1) (U.enc_inj h.2)) h
noncomputable def c3 (p : α → β → γ → Prop) (o : ε → AV) (f : α → β → γ → ε):= ct (fun a : α × β × γ => [T.enc a.1,U.enc a.2.1,V.enc a.2.2]) (fun a => p a.1 a.2.1 a.2.2) o fun a => f a.1 a.2.1 a.2.2
theorem c3_eq {p : α → β → γ → Prop} {o : ε → AV} {f : α → β → γ → ε} {a : α} {b : β} {c : γ} (h : p a b c) : c3 T U V p o f [T.enc a,U.enc b,V.enc c] = some (o (f a b c)):=
  ct_eq (ens:= fun a : α × β × γ => [T.enc a.1,U.enc a.2.1,V.enc a.2.2]) (a:= (a,b,c)) (fun a b h => by
    simp only [List.cons.injEq,and_true] at h
    exact Prod.ext (T.enc_inj h.1) (Prod.ext (U.enc_inj h.2.1) (V.enc_inj h.2.2))) h
noncomputable def c4 (p : α → β → γ → δ → Prop) (o : ε → AV) (f : α → β → γ → δ → ε):= ct (fun a : α × β × γ × δ => [T.enc a.1,U.enc a.2.1,V.enc a.2.2.1,X.enc a.2.2.2]) (fun a => p a.1 a.2.1 a.2.2.1 a.2.2.2) o fun a => f a.1 a.2.1 a.2.2.1 a.2.2.2
section
variable {E : Env} {WI : World → Prop} {g : FuncId} {T U V X}
theorem pure1 (hT : TOK E WI) (hs : Stable WI) (hst : (stF E g).isSome = true) {p : α → Prop} {o : ε → AV} {f : α → ε} (h : ∀ a,p a → ∃ k n,out E k n g [T.enc a] = some (o (f a))) : PureOK E.P WI g (c1 T p o f):=
  pure_out hT hs hst h
theorem pure2F (hT : TOK E WI) (hs : Stable WI) (hst : (stF E g).isSome = true) {p : α → β → Prop} {o : ε → AV} {f : α → β → ε} (h : ∀ a b,p a b → ∃ k sz,outF E k sz g [T.enc a,U.enc b] = some (o (f a b))) : FreshOK E.P WI g (c2 T U p o f):=
  fresh_out hT hs hst fun a => h a.1 a.2
theorem pure2 (hT : TOK E WI) (hs : Stable WI) (hst : (stF E g).isSome = true) {p : α → β → Prop} {o : ε → AV} {f : α → β → ε} (h : ∀ a b,p a b → ∃ k n,out E k n g [T.enc a,U.enc b] = some (o (f a b))) : PureOK E.P WI g (c2 T U p o f):=
  pure_out hT hs hst fun a => h a.1 a.2
theorem pure3 (hT : TOK E WI) (hs : Stable WI) (hst : (stF E g).isSome = true) {p : α → β → γ → Prop} {o : ε → AV} {f : α → β → γ → ε} (h : ∀ a b c,p a b c → ∃ k n,out E k n g [T.enc a,U.enc b,V.enc c] = some (o (f a b c))) : PureOK E.P WI g (c3 T U V p o f):=
  pure_out hT hs hst fun a => h a.1 a.2.1 a.2.2
end
end
def szR (c : Nat) (left : Int) : Int:= if left - c < 0 then -1 else left - c
section
variable {α : Type} (T : TD α)
noncomputable def szC:= c2 T intT (fun v left => T.fits v ∧ 0 ≤ left ∧ left ≤ 1048576) (.int .i64) fun v left => szR (T.cost v) left
theorem szC_eq {v : α} {left : Int} (h : T.fits v ∧ 0 ≤ left ∧ left ≤ 1048576) : szC T [T.enc v,.int .i64 left] = some (.int .i64 (szR (T.cost v) left)):= c2_eq T intT h
noncomputable def toC:= c1 T (fun v => T.cost v ≤ 1048576) T.enc id
theorem toC_eq {v : α} (h : T.cost v ≤ 1048576) : toC T [T.enc v] = some (T.enc v):= c1_eq T h
noncomputable def eqC:= ct (fun a => [T.enc a,T.enc a]) (fun v => T.cost v ≤ 1048576) .bool fun _ => true
theorem eqC_eq {v : α} (h : T.cost v ≤ 1048576) : eqC T [T.enc v,T.enc v] = some (.bool true):=
  ct_eq (ens:= fun a => [T.enc a,T.enc a]) (fun a b h => T.enc_inj (by simpa using h)) h
end
section
variable {α : Type} {T : TD α} {E : Env} {g : FuncId}
theorem szR_neg {c : Nat} {left : Int} (h : szR c left < 0) (_h0 : 0 ≤ left) : szR c left = -1 ∧ left - c < 0:= by
  unfold szR at h ⊢
  split at h
  · exact ⟨by rw [if_pos (by assumption)],by assumption⟩
  · omega
theorem szR_pos {c : Nat} {left : Int} (h : ¬ szR c left < 0) : szR c left = left - c ∧ ¬ left - c < 0:= by
  unfold szR at h ⊢
  split at h
  · exact absurd (by decide) h
  · exact ⟨by rw [if_neg (by assumption)],by assumption⟩
end
attribute [go_sem] TD.thaw sliceT_enc sliceT_row intT_enc intT_row boolT_enc boolT_row strT_enc strT_row u8T_enc u8T_row
end Go.Ev
namespace Go.Ev
open Go Go.RowKit
def szLenF : SFn:= ⟨12,.seq (.rg [⟨some 4,none,.mv (.c (.int .i64 0))⟩]) (.seq (.rg [⟨some 5,none,.mv (.t 1)⟩,
  ⟨some 6,none,.mv (.t 0)⟩,
  ⟨some 7,none,.lenL (.t 6)⟩,
  ⟨some 8,none,.bin .sub (.t 5) (.t 7)⟩,
  ⟨some 1,none,.mv (.t 8)⟩]) (.seq (.seq (.rg [⟨some 9,none,.mv (.t 1)⟩,
  ⟨some 10,none,.bin .lss (.t 9) (.c (.int .i64 0))⟩]) (.cond (.t 10) (.seq (.rg [⟨some 4,none,.mv (.c (.int .i64 (-1)))⟩]) (.ret)) (.skip))) (.seq (.rg [⟨some 11,none,.mv (.t 1)⟩,
  ⟨some 4,none,.mv (.t 11)⟩]) (.ret)))),[.t 4]⟩
section
variable {α : Type} {T : TD α} {E : Env} {g f : FuncId} {WI : World → Prop}
theorem costL_zero (hz : ∀ v,T.cost v = 0) : ∀ l : List α,costL T l = 0
  | [] => rfl
  | v :: l => by simp only [costL,hz v,costL_zero hz l]
theorem szLen_ok (hTK : TOK E WI) (hS : Stable WI) (hz : ∀ v,T.cost v = 0) (hst : stF E f = some szLenF) : PureOK E.P WI f (szC (sliceT T)):= by
  refine pure2 hTK hS (by rw [hst];rfl) fun l left ⟨⟨hlen,hs⟩,hlo,hhi⟩ => out_K (n:= 0) hst ?_
  have hw : IntKind.wrap .i64 (left - (l.length : Int)) = left - (l.length : Int):= wrapId (by omega) (by omega)
  have hcost : (sliceT T).cost l = l.length:= by show l.length + costL T l = _;rw [costL_zero hz];rfl
  rw [hcost]
  by_cases hneg : left - (l.length : Int) < 0
  · have hr : szR l.length left = -1:= by unfold szR;rw [if_pos hneg]
    rw [hr]
    simp only [go_sem,kSt_ptr,Nat.reduceBEq,Nat.reduceAdd,Nat.reduceEqDiff,Nat.reduceLeDiff,Nat.reduceSub,reduceIte,Int.reduceBEq,Int.reduceEq,Int.reduceLT,Int.reduceLE,Int.reduceGT,Int.reduceGE,Int.reduceNe,Int.reduceBNe,szLenF,sliceT,intT,oneT,hw,hneg]
  · have hr : szR l.length left = left - l.length:= by unfold szR;rw [if_neg hneg]
    rw [hr]
    simp only [go_sem,kSt_ptr,Nat.reduceBEq,Nat.reduceAdd,Nat.reduceEqDiff,Nat.reduceLeDiff,Nat.reduceSub,reduceIte,Int.reduceBEq,Int.reduceEq,Int.reduceLT,Int.reduceLE,Int.reduceGT,Int.reduceGE,Int.reduceNe,Int.reduceBNe,szLenF,sliceT,intT,oneT,hw,hneg]
theorem TD.rows_len (l : List α) : ∀ r ∈ l.map T.row,r.length = T.sz:= fun r hr => by
  obtain ⟨v,_,rfl⟩:= List.mem_map.1 hr
  exact T.len v
theorem TD.frzRows {r : Nat} {h : Hp} (l : List α) (hh : h.hp r = some (l.map T.row).flatten) : frzE 1 h (.sl r 0 l.length T.sz) = some (.imm (l.map T.row)):= by
  have:= frzE_rows (n:= 0) hh (TD.rows_len l) fun x hx c hc => by
    obtain ⟨v,_,rfl⟩:= List.mem_map.1 hx
    exact frzD_cell (T.frz v c hc).1
  rwa [List.length_map] at this
def toLoopC (g sz : Nat) (one : Bool) : SCode:= .seq (.seq (.rg [⟨some 8,none,.mv (.t 4)⟩,
  ⟨some 9,none,.mv (.t 0)⟩,
  ⟨some 10,none,.lenL (.t 9)⟩,
  ⟨some 11,none,.bin .lss (.t 8) (.t 10)⟩]) (.cond (.t 11) (.skip) (.exit 0))) (.seq (.blk 1 (.rg [⟨some 14,none,.mv (.t 3)⟩,
  ⟨some 15,none,.mv (.t 4)⟩,
  ⟨some 16,none,.mv (.t 0)⟩,
  ⟨some 17,none,.mv (.t 4)⟩,
  ⟨some 18,none,.ia sz (.t 16) (.t 17)⟩,
  ⟨some 19,none,ldOp one sz (.t 18)⟩,
  ⟨some 20,none,.callP g [.t 19]⟩,
  ⟨some 21,none,.ia sz (.t 14) (.t 15)⟩,
  ⟨none,none,.st sz (.t 21) (.t 20)⟩])) (.rg [⟨some 12,none,.mv (.t 4)⟩,
  ⟨some 13,none,.bin .add (.t 12) (.c (.int .i64 1))⟩,
  ⟨some 4,none,.mv (.t 13)⟩]))
def toSF (g sz : Nat) (one : Bool) (bt : Nat) (z : List AV) : SFn:= ⟨23,.seq (.rg [⟨some 2,none,.mv (.c .snil)⟩]) (.seq (.rg [⟨some 5,none,.mv (.t 0)⟩,
  ⟨some 6,none,.lenL (.t 5)⟩,
  ⟨some 7,none,.mkS true bt z (.t 6) (.t 6)⟩,
  ⟨some 3,none,.mv (.t 7)⟩]) (.seq (.seq (.rg [⟨some 4,none,.mv (.c (.int .i64 0))⟩]) (.blk 0 (.loop (toLoopC g sz one)))) (.seq (.rg [⟨some 22,none,.mv (.t 3)⟩,
  ⟨some 2,none,.mv (.t 22)⟩]) (.ret)))),[.t 2]⟩
def CpI (T : TD α) (z : List AV) (l : List α) (r : Nat) (pre rest : List α) (e : Ps) (h : Hp) : Prop:=
  e 0 = .imm (l.map T.row) ∧ e 3 = .sl r 0 l.length T.sz ∧ e 4 = .int .i64 pre.length ∧ h.hp r = some ((pre.map T.row).flatten ++ (List.replicate rest.length z).flatten)
theorem CpI.fin {z : List AV} {l : List α} {r : Nat} {e : Ps} {h : Hp} (hi : CpI T z l r l [] e h) : h.hp r = some (l.map T.row).flatten:= by
  have:= hi.2.2.2
  simpa using this
def eqLoopC (g sz : Nat) (one : Bool) : SCode:= .seq (.seq (.rg [⟨some 11,none,.mv (.t 5)⟩,
  ⟨some 12,none,.mv (.t 0)⟩,
  ⟨some 13,none,.lenL (.t 12)⟩,
  ⟨some 14,none,.bin .lss (.t 11) (.t 13)⟩]) (.cond (.t 14) (.skip) (.exit 0))) (.seq (.blk 1 (.seq (.rg [⟨some 17,none,.mv (.t 0)⟩,
  ⟨some 18,none,.mv (.t 5)⟩,
  ⟨some 19,none,.ia sz (.t 17) (.t 18)⟩,
  ⟨some 20,none,ldOp one sz (.t 19)⟩,
  ⟨some 21,none,.mv (.t 1)⟩,
  ⟨some 22,none,.mv (.t 5)⟩,
  ⟨some 23,none,.ia sz (.t 21) (.t 22)⟩,
  ⟨some 24,none,ldOp one sz (.t 23)⟩,
  ⟨some 25,none,.callP g [.t 20,.t 24]⟩,
  ⟨some 26,none,.un .not (.t 25)⟩]) (.cond (.t 26) (.seq (.rg [⟨some 4,none,.mv (.c (.bool false))⟩]) (.ret)) (.skip)))) (.rg [⟨some 15,none,.mv (.t 5)⟩,
  ⟨some 16,none,.bin .add (.t 15) (.c (.int .i64 1))⟩,
  ⟨some 5,none,.mv (.t 16)⟩]))
def eqSF (g sz : Nat) (one : Bool) : SFn:= ⟨27,.seq (.rg [⟨some 4,none,.mv (.c (.bool false))⟩]) (.seq (.seq (.rg [⟨some 6,none,.mv (.t 0)⟩,
  ⟨some 7,none,.lenL (.t 6)⟩,
  ⟨some 8,none,.mv (.t 1)⟩,
  ⟨some 9,none,.lenL (.t 8)⟩,
  ⟨some 10,none,.bin .neq (.t 7) (.t 9)⟩]) (.cond (.t 10) (.seq (.rg [⟨some 4,none,.mv (.c (.bool false))⟩]) (.ret)) (.skip))) (.seq (.seq (.rg [⟨some 5,none,.mv (.c (.int .i64 0))⟩]) (.blk 0 (.loop (eqLoopC g sz one)))) (.seq (.rg [⟨some 4,none,.mv (.c (.bool true))⟩]) (.ret)))),[.t 4]⟩
def ecLoopC : SCode:= .seq (.seq (.rg [⟨some 11,none,.mv (.t 5)⟩,
  ⟨some 12,none,.mv (.t 0)⟩,
  ⟨some 13,none,.lenL (.t 12)⟩,
  ⟨some 14,none,.bin .lss (.t 11) (.t 13)⟩]) (.cond (.t 14) (.skip) (.exit 0))) (.seq (.blk 1 (.seq (.rg [⟨some 17,none,.mv (.t 0)⟩,
  ⟨some 18,none,.mv (.t 5)⟩,
  ⟨some 19,none,.ia 1 (.t 17) (.t 18)⟩,
  ⟨some 20,none,.ld (.t 19)⟩,
  ⟨some 21,none,.mv (.t 1)⟩,
  ⟨some 22,none,.mv (.t 5)⟩,
  ⟨some 23,none,.ia 1 (.t 21) (.t 22)⟩,
  ⟨some 24,none,.ld (.t 23)⟩,
  ⟨some 25,none,.bin .neq (.t 20) (.t 24)⟩]) (.cond (.t 25) (.seq (.rg [⟨some 4,none,.mv (.c (.bool false))⟩]) (.ret)) (.skip)))) (.rg [⟨some 15,none,.mv (.t 5)⟩,
  ⟨some 16,none,.bin .add (.t 15) (.c (.int .i64 1))⟩,
  ⟨some 5,none,.mv (.t 16)⟩]))
def ecSF : SFn:= ⟨26,.seq (.rg [⟨some 4,none,.mv (.c (.bool false))⟩]) (.seq (.seq (.rg [⟨some 6,none,.mv (.t 0)⟩,
  ⟨some 7,none,.lenL (.t 6)⟩,
  ⟨some 8,none,.mv (.t 1)⟩,
  ⟨some 9,none,.lenL (.t 8)⟩,
  ⟨some 10,none,.bin .neq (.t 7) (.t 9)⟩]) (.cond (.t 10) (.seq (.rg [⟨some 4,none,.mv (.c (.bool false))⟩]) (.ret)) (.skip))) (.seq (.seq (.rg [⟨some 5,none,.mv (.c (.int .i64 0))⟩]) (.blk 0 (.loop ecLoopC))) (.seq (.rg [⟨some 4,none,.mv (.c (.bool true))⟩]) (.ret)))),[.t 4]⟩
theorem eq_loop {body : SCode} {l : List α} (hbody : ∀ (v : α) (rest pre : List α) (e : Ps) (h : Hp),l = pre ++ v :: rest → e 0 = .imm (l.map T.row) ∧ e 1 = .imm (l.map T.row) ∧ e 5 = .int .i64 pre.length → W E body e h fun x e1 _ => x = .norm ∧ e1 0 = .imm (l.map T.row) ∧ e1 1 = .imm (l.map T.row) ∧ e1 5 = .int .i64 ((pre.length : Int) + 1))
    (hend : ∀ (e : Ps) (h : Hp),e 0 = .imm (l.map T.row) ∧ e 1 = .imm (l.map T.row) ∧ e 5 = .int .i64 l.length → W E body e h fun x _ _ => x = .exit 0) : ∀ (rest pre : List α) (e : Ps) (h : Hp),l = pre ++ rest → e 0 = .imm (l.map T.row) ∧ e 1 = .imm (l.map T.row) ∧ e 5 = .int .i64 pre.length → WL E body e h fun x _ _ => x = .exit 0
  | [],pre,e,h,hl,hi => by
    have hp : pre = l:= by rw [hl];simp
    rw [hp] at hi
    refine .step ((hend e h hi).mono ?_)
    rintro _ e' h' rfl
    rfl
  | v :: rest,pre,e,h,hl,hi => by
    refine .step ((hbody v rest pre e h hl hi).mono ?_)
    rintro _ e1 h1 ⟨rfl,q0,q1,q5⟩
    exact eq_loop hbody hend rest (pre ++ [v]) e1 h1 (by rw [hl];simp) ⟨q0,q1,by rw [q5];simp⟩
theorem pureEq (hTK : TOK E WI) (hS : Stable WI) (hst : (stF E f).isSome = true) (h : ∀ v,T.cost v ≤ 1048576 → ∃ k n,out E k n f [T.enc v,T.enc v] = some (.bool true)) : PureOK E.P WI f (eqC T):=
  pure_out hTK hS hst h
theorem eqS_ok (hTK : TOK E WI) (hS : Stable WI) (hT : E.T g = some (eqC T)) (hst : stF E f = some (eqSF g T.sz T.one)) : PureOK E.P WI f (eqC (sliceT T)):= by
  refine pureEq hTK hS (by rw [hst];rfl) fun l hcost => out_W (n:= 0) hst ?_
  have hlen : l.length ≤ 1048576:= by have : l.length + costL T l ≤ 1048576:= hcost;omega
  have hcv : ∀ v ∈ l,T.cost v ≤ 1048576:= fun v hv => by have h1:= costL_mem T hv;have : l.length + costL T l ≤ 1048576:= hcost;omega
  show W _ (.seq _ (.seq _ (.seq (.seq _ (.blk 0 (.loop (eqLoopC g T.sz T.one)))) _))) _ _ _
  refine .re (.cut (M:= fun e1 h1 => e1 0 = .imm (l.map T.row) ∧ e1 1 = .imm (l.map T.row)) (.sim (by simp only [go_sem,kSt_ptr,Nat.reduceBEq,Nat.reduceAdd,Nat.reduceEqDiff,Nat.reduceLeDiff,Nat.reduceSub,reduceIte,Int.reduceBEq,Int.reduceEq,Int.reduceLT,Int.reduceLE,Int.reduceGT,Int.reduceGE,Int.reduceNe,Int.reduceBNe,sliceT])) ?_)
  rintro e1 h1 ⟨k0,k1⟩
  refine .seq (.cut (M:= fun e2 h2 => e2 0 = .imm (l.map T.row) ∧ e2 1 = .imm (l.map T.row) ∧ e2 5 = .int .i64 0) (.sim (by simp only [go_sem,kSt_ptr,Nat.reduceBEq,Nat.reduceAdd,Nat.reduceEqDiff,Nat.reduceLeDiff,Nat.reduceSub,reduceIte,Int.reduceBEq,Int.reduceEq,Int.reduceLT,Int.reduceLE,Int.reduceGT,Int.reduceGE,Int.reduceNe,Int.reduceBNe,k0,k1])) ?_)
  rintro e2 h2 hi
  refine .blk (.loop ((eq_loop (T:= T) (l:= l) (fun v rest pre e h hl ⟨h0,h1,h5⟩ => ?_) (fun e h ⟨h0,h1,h5⟩ => ?_) l [] e2 h2 rfl hi).mono ?_))
  · have hlt : pre.length < l.length:= by rw [hl];simp
    have hw : IntKind.wrap .i64 ((pre.length : Int) + 1) = (pre.length : Int) + 1:= wrapId (by omega) (by omega)
    have hfz:= T.frzEnc v
    have hc:= eqC_eq T (hcv v (by rw [hl];simp))
    refine .sim ?_
    cases h1' : T.one
    · have ht:= T.take v h1'
      simp only [go_sem,kSt_ptr,Nat.reduceBEq,Nat.reduceAdd,Nat.reduceEqDiff,Nat.reduceLeDiff,Nat.reduceSub,reduceIte,Int.reduceBEq,Int.reduceEq,Int.reduceLT,Int.reduceLE,Int.reduceGT,Int.reduceGE,Int.reduceNe,Int.reduceBNe,eqLoopC,ldOp,h1',h0,h1,h5,lt_map hl,kIa_map (row:= T.row) (sz:= T.sz) hl (T.len v),ht,hfz,hT,hc,hw]
    · have ht:= T.head v h1'
      simp only [go_sem,kSt_ptr,Nat.reduceBEq,Nat.reduceAdd,Nat.reduceEqDiff,Nat.reduceLeDiff,Nat.reduceSub,reduceIte,Int.reduceBEq,Int.reduceEq,Int.reduceLT,Int.reduceLE,Int.reduceGT,Int.reduceGE,Int.reduceNe,Int.reduceBNe,eqLoopC,ldOp,h1',h0,h1,h5,lt_map hl,kIa_map (row:= T.row) (sz:= T.sz) hl (T.len v),ht,hfz,hT,hc,hw]
  · have hlt : decide ((l.length : Int) < (l.length : Int)) = false:= by simp
    refine .sim ?_
    simp only [go_sem,kSt_ptr,Nat.reduceBEq,Nat.reduceAdd,Nat.reduceEqDiff,Nat.reduceLeDiff,Nat.reduceSub,reduceIte,Int.reduceBEq,Int.reduceEq,Int.reduceLT,Int.reduceLE,Int.reduceGT,Int.reduceGE,Int.reduceNe,Int.reduceBNe,eqLoopC,h0,h1,h5,hlt]
  · rintro x e' h' rfl
    rw [outOf_exit]
    refine .sim ?_
    simp only [go_sem,kSt_ptr,Nat.reduceBEq,Nat.reduceAdd,Nat.reduceEqDiff,Nat.reduceLeDiff,Nat.reduceSub,reduceIte,Int.reduceBEq,Int.reduceEq,Int.reduceLT,Int.reduceLE,Int.reduceGT,Int.reduceGE,Int.reduceNe,Int.reduceBNe,eqSF]
def neqOK (T : TD α) : Prop:= ∀ v h,kBin .neq (T.enc v) (T.enc v) h = some (.bool false,h)
theorem ecS_ok (hTK : TOK E WI) (hS : Stable WI) (h1' : T.one = true) (hn : neqOK T) (hst : stF E f = some ecSF) : PureOK E.P WI f (eqC (sliceT T)):= by
  have hsz : T.sz = 1:= (T.enc1 h1').1
  refine pureEq hTK hS (by rw [hst];rfl) fun l hcost => out_W (n:= 0) hst ?_
  have hlen : l.length ≤ 1048576:= by have : l.length + costL T l ≤ 1048576:= hcost;omega
  show W _ (.seq _ (.seq _ (.seq (.seq _ (.blk 0 (.loop ecLoopC))) _))) _ _ _
  refine .re (.cut (M:= fun e1 h1 => e1 0 = .imm (l.map T.row) ∧ e1 1 = .imm (l.map T.row)) (.sim (by simp only [go_sem,kSt_ptr,Nat.reduceBEq,Nat.reduceAdd,Nat.reduceEqDiff,Nat.reduceLeDiff,Nat.reduceSub,reduceIte,Int.reduceBEq,Int.reduceEq,Int.reduceLT,Int.reduceLE,Int.reduceGT,Int.reduceGE,Int.reduceNe,Int.reduceBNe,sliceT])) ?_)
  rintro e1 h1 ⟨k0,k1⟩
  refine .seq (.cut (M:= fun e2 h2 => e2 0 = .imm (l.map T.row) ∧ e2 1 = .imm (l.map T.row) ∧ e2 5 = .int .i64 0) (.sim (by simp only [go_sem,kSt_ptr,Nat.reduceBEq,Nat.reduceAdd,Nat.reduceEqDiff,Nat.reduceLeDiff,Nat.reduceSub,reduceIte,Int.reduceBEq,Int.reduceEq,Int.reduceLT,Int.reduceLE,Int.reduceGT,Int.reduceGE,Int.reduceNe,Int.reduceBNe,k0,k1])) ?_)
  rintro e2 h2 hi
  refine .blk (.loop ((eq_loop (T:= T) (l:= l) (fun v rest pre e h hl ⟨h0,h1,h5⟩ => ?_) (fun e h ⟨h0,h1,h5⟩ => ?_) l [] e2 h2 rfl hi).mono ?_))
  · have hlt : pre.length < l.length:= by rw [hl];simp
    have hw : IntKind.wrap .i64 ((pre.length : Int) + 1) = (pre.length : Int) + 1:= wrapId (by omega) (by omega)
    have ht:= T.head v h1'
    have hk:= fun h => kIa_map (h:= h) (row:= T.row) (sz:= T.sz) hl (T.len v)
    rw [hsz] at hk
    have hn':= hn v
    refine .sim ?_
    simp only [go_sem,kSt_ptr,Nat.reduceBEq,Nat.reduceAdd,Nat.reduceEqDiff,Nat.reduceLeDiff,Nat.reduceSub,reduceIte,Int.reduceBEq,Int.reduceEq,Int.reduceLT,Int.reduceLE,Int.reduceGT,Int.reduceGE,Int.reduceNe,Int.reduceBNe,ecLoopC,h0,h1,h5,lt_map hl,hk,ht,hn',hw]
  · have hlt : decide ((l.length : Int) < (l.length : Int)) = false:= by simp
    refine .sim ?_
    simp only [go_sem,kSt_ptr,Nat.reduceBEq,Nat.reduceAdd,Nat.reduceEqDiff,Nat.reduceLeDiff,Nat.reduceSub,reduceIte,Int.reduceBEq,Int.reduceEq,Int.reduceLT,Int.reduceLE,Int.reduceGT,Int.reduceGE,Int.reduceNe,Int.reduceBNe,ecLoopC,h0,h1,h5,hlt]
  · rintro x e' h' rfl
    rw [outOf_exit]
    refine .sim ?_
    simp only [go_sem,kSt_ptr,Nat.reduceBEq,Nat.reduceAdd,Nat.reduceEqDiff,Nat.reduceLeDiff,Nat.reduceSub,reduceIte,Int.reduceBEq,Int.reduceEq,Int.reduceLT,Int.reduceLE,Int.reduceGT,Int.reduceGE,Int.reduceNe,Int.reduceBNe,ecSF]
theorem neq_u8 : neqOK u8T:= fun v h => by
  show kBin .neq (.int .u8 v.toNat) (.int .u8 v.toNat) h = _
  rw [kBin_neq,bne_self_eq_false]
end
end Go.Ev
namespace Go.Ev
open Go Go.RowKit
noncomputable def lim (E : Env) : CallH:= by
  classical exact fun g as h => if hx : ∃ r,RunF E g as h r then some hx.choose else none
theorem lim_of {E : Env} {g : FuncId} {as : List AV} {h : Hp} {r : AV × Hp} (hr : RunF E g as h r) : lim E g as h = some r:= by
  classical
  have hx : ∃ r,RunF E g as h r:= ⟨r,hr⟩
  unfold lim
  rw [dif_pos hx]
  obtain ⟨k1,h1⟩:= hx.choose_spec
  obtain ⟨k2,h2⟩:= hr
  have e1:= (sev_mono E (Nat.le_max_left k1 k2)).1 _ _ _ _ h1
  have e2:= (sev_mono E (Nat.le_max_right k1 k2)).1 _ _ _ _ h2
  rw [e2] at e1
  exact e1.symm
theorem lim_run {E : Env} {g : FuncId} {as : List AV} {h : Hp} {r : AV × Hp} (hl : lim E g as h = some r) : RunF E g as h r:= by
  classical
  unfold lim at hl
  split at hl
  · rename_i hx
    simp only [Option.some.injEq] at hl
    rw [← hl]
    exact hx.choose_spec
  · cases hl
theorem dnO_lim {E : Env} {g : FuncId} {as : List AV} {h : Hp} {r : AV × Hp} (hx : dnO h (lim E g as h) = some r) : ∃ k,dnO h ((sev E k).1 g as h) = some r:= by
  cases hl : lim E g as h with
  | none => rw [hl] at hx;cases hx
  | some p =>
    obtain ⟨k,hk⟩:= lim_run hl
    exact ⟨k,by rw [hk,← hl];exact hx⟩
theorem upO_lim {E : Env} {g : FuncId} {as : List AV} {h : Hp} {r : AV × Hp} (hx : upO h (lim E g as h) = some r) : ∃ k,upO h ((sev E k).1 g as h) = some r:= by
  cases hl : lim E g as h with
  | none => rw [hl] at hx;cases hx
  | some p =>
    obtain ⟨k,hk⟩:= lim_run hl
    exact ⟨k,by rw [hk,← hl];exact hx⟩
theorem cuO_lim {E : Env} {g : FuncId} {as : List AV} {h : Hp} {r : AV × Hp} (hx : cuO h (lim E g as h) = some r) : ∃ k,cuO h ((sev E k).1 g as h) = some r:= by
  cases hl : lim E g as h with
  | none => rw [hl] at hx;cases hx
  | some p =>
    obtain ⟨k,hk⟩:= lim_run hl
    exact ⟨k,by rw [hk,← hl];exact hx⟩
theorem zfz_lim {E : Env} {g : FuncId} {as : List AV} {h : Hp} {r : AV × Hp} (hx : zfz h (lim E g as h) = some r) : ∃ k,zfz h ((sev E k).1 g as h) = some r:= by
  cases hl : lim E g as h with
  | none => rw [hl] at hx;cases hx
  | some p =>
    obtain ⟨k,hk⟩:= lim_run hl
    exact ⟨k,by rw [hk,← hl];exact hx⟩
theorem cuz_lim {E : Env} {g : FuncId} {as : List AV} {h : Hp} {r : AV × Hp} (hx : cuO h (zfz h (lim E g as h)) = some r) : ∃ k,cuO h (zfz h ((sev E k).1 g as h)) = some r:= by
  cases hl : lim E g as h with
  | none => rw [hl] at hx;cases hx
  | some p =>
    obtain ⟨k,hk⟩:= lim_run hl
    exact ⟨k,by rw [hk,← hl];exact hx⟩
theorem sX_lim {E : Env} {ρ : Opd → AV} {op : SOp} {h : Hp} {r : AV × Hp} (hx : sX E (lim E) ρ op h = some r) : ∃ k,sX E (sev E k).1 ρ op h = some r:= by
  cases op <;> first
    | exact ⟨0,hx⟩
    | (obtain ⟨k,hk⟩:= lim_run hx;exact ⟨k,hk⟩)
    | exact dnO_lim hx
    | exact upO_lim hx
    | exact cuO_lim hx
    | exact cuz_lim hx
    | exact zfz_lim hx
theorem sOps_lim {E : Env} : ∀ (os : List SOper) (e : Ps) (h : Hp) (r : Ps × Hp),sOps E (lim E) os e h = some r → ∃ k,sOps E (sev E k).1 os e h = some r
  | [],e,h,r,hx => ⟨0,hx⟩
  | o :: os,e,h,r,hx => by
    simp only [sOps,Option.bind_eq_some_iff] at hx ⊢
    obtain ⟨p,h1,h2⟩:= hx
    obtain ⟨k2,h2⟩:= sOps_lim os _ _ _ h2
    simp only [sOper,Option.bind_eq_some_iff] at h1
    obtain ⟨b,h3,h4⟩:= h1
    cases b with
    | false => exact ⟨k2,p,by simp only [sOper,h3,Option.bind_some];exact h4,h2⟩
    | true =>
      simp only [if_true,Option.map_eq_some_iff] at h4
      obtain ⟨q,h5,h6⟩:= h4
      obtain ⟨k1,h5⟩:= sX_lim h5
      refine ⟨max k1 k2,p,?_,sOps_mono (sev_mono E (Nat.le_max_right k1 k2)).1 _ _ _ _ h2⟩
      simp only [sOper,h3,Option.bind_some,if_true,Option.map_eq_some_iff]
      exact ⟨q,sX_mono (sev_mono E (Nat.le_max_left k1 k2)).1 h5,h6⟩
def hP (r : Option (Ps × Hp)) (Q : QS) : Prop:= match r with
  | some (e,h) => Q .norm e h
  | none => False
def wThen (k : Ps → Hp → QS → Prop) (Q : QS) : QS:= fun x e h => match x with
  | .norm => k e h Q
  | x => Q x e h
def wCond (v : AV) (a b : Prop) : Prop:= match v with
  | .bool true => a
  | .bool false => b
  | _ => False
def wBlk (i : Nat) (Q : QS) : QS:= fun x e h => Q (outOf i x) e h
noncomputable def wp (E : Env) : SCode → Ps → Hp → QS → Prop
  | .rg os,e,h,Q => hP (sOps E (lim E) os e h) Q
  | .seq a b,e,h,Q => wp E a e h (wThen (wp E b) Q)
  | .cond o a b,e,h,Q => wCond (o.ev e) (wp E a e h Q) (wp E b e h Q)
  | .blk i a,e,h,Q => wp E a e h (wBlk i Q)
  | .loop a,e,h,Q => WL E a e h Q
  | .ret,e,h,Q => Q .ret e h
  | .exit i,e,h,Q => Q (.exit i) e h
  | .skip,e,h,Q => Q .norm e h
section
variable {E : Env} {e : Ps} {h : Hp} {Q : QS}
theorem hP_some : hP (some (e,h)) Q = Q .norm e h:= rfl
theorem wThen_norm (k : Ps → Hp → QS → Prop) : wThen k Q .norm e h = k e h Q:= rfl
theorem wThen_ret (k : Ps → Hp → QS → Prop) : wThen k Q .ret e h = Q .ret e h:= rfl
theorem wThen_exit (k : Ps → Hp → QS → Prop) (i : Nat) : wThen k Q (.exit i) e h = Q (.exit i) e h:= rfl
theorem wCond_t (a b : Prop) : wCond (.bool true) a b = a:= rfl
theorem wCond_f (a b : Prop) : wCond (.bool false) a b = b:= rfl
theorem wBlk_norm (i : Nat) : wBlk i Q .norm e h = Q .norm e h:= rfl
theorem wBlk_ret (i : Nat) : wBlk i Q .ret e h = Q .ret e h:= rfl
theorem wBlk_exit (i j : Nat) : wBlk i Q (.exit j) e h = Q (cond (j == i) .norm (.exit j)) e h:= by
  show Q (outOf i (.exit j)) e h = _
  congr 1
  unfold outOf
  by_cases hj : j = i
  · subst hj;simp
  · have : (j == i) = false:= by simpa using hj
    rw [this,if_neg (by simpa using hj)]
    rfl
theorem wp_rg (os : List SOper) : wp E (.rg os) e h Q = hP (sOps E (lim E) os e h) Q:= rfl
theorem hP_call {d : Option Nat} {g : FuncId} {as : List AV} {os : List SOper} {v : AV} {h1 : Hp} (hc : RunF E g as h (v,h1)) (hw : hP (kThen (some (upd? e d v,h1)) E (lim E) os) Q) : hP (kThen (kOper d (some true) (lim E g as h) e h) E (lim E) os) Q:= by
  rw [lim_of hc,kOper_go]
  exact hw
theorem hP_callK {d : Option Nat} {g : FuncId} {as : List AV} {os : List SOper} {v : AV} {h1 : Hp} (hc : RunF E g as h (v,h1)) (hd : h.Down h1) (hw : hP (kThen (some (upd? e d v,h1)) E (lim E) os) Q) : hP (kThen (kOper d (some true) (dnO h (lim E g as h)) e h) E (lim E) os) Q:= by
  rw [lim_of hc]
  unfold dnO
  rw [Option.bind_some,if_pos hd,kOper_go]
  exact hw
theorem hP_callC {d : Option Nat} {g : FuncId} {as : List AV} {os : List SOper} {v : AV} {h1 : Hp} (hc : RunF E g as h (v,h1)) (hd : h.Cu h1) (hw : hP (kThen (some (upd? e d v,h1)) E (lim E) os) Q) : hP (kThen (kOper d (some true) (cuO h (lim E g as h)) e h) E (lim E) os) Q:= by
  rw [lim_of hc]
  unfold cuO
  rw [Option.bind_some,if_pos hd,kOper_go]
  exact hw
theorem wp_seq (a b : SCode) : wp E (.seq a b) e h Q = wp E a e h (wThen (wp E b) Q):= rfl
theorem wp_cond (o : Opd) (a b : SCode) : wp E (.cond o a b) e h Q = wCond (o.ev e) (wp E a e h Q) (wp E b e h Q):= rfl
theorem wp_blk (i : Nat) (a : SCode) : wp E (.blk i a) e h Q = wp E a e h (wBlk i Q):= rfl
theorem wp_loop (a : SCode) : wp E (.loop a) e h Q = WL E a e h Q:= rfl
theorem wp_ret : wp E .ret e h Q = Q .ret e h:= rfl
theorem wp_exit (i : Nat) : wp E (.exit i) e h Q = Q (.exit i) e h:= rfl
theorem wp_skip : wp E .skip e h Q = Q .norm e h:= rfl
theorem wp_sound : ∀ (s : SCode) (e : Ps) (h : Hp) (Q : QS),wp E s e h Q → W E s e h Q:= by
  intro s
  induction s with
  | rg os =>
    intro e h Q hw
    simp only [wp,hP] at hw
    cases hx : sOps E (lim E) os e h with
    | none => rw [hx] at hw;exact hw.elim
    | some p =>
      rw [hx] at hw
      obtain ⟨k,hk⟩:= sOps_lim os e h p hx
      exact ⟨.norm,p.1,p.2,⟨k,by simp only [sC,hk,Option.bind_some]⟩,hw⟩
  | seq a b iha ihb =>
    intro e h Q hw
    refine .seq ((iha e h _ hw).mono fun x e' h' hq => ?_)
    cases x with
    | norm => exact ihb _ _ _ hq
    | exit i => exact hq
    | ret => exact hq
  | cond o a b iha ihb =>
    intro e h Q hw
    simp only [wp,wCond] at hw
    split at hw
    · rename_i ht;exact .cond ht (iha _ _ _ hw)
    · rename_i ht;exact .cond ht (ihb _ _ _ hw)
    · exact hw.elim
  | blk i a ih => intro e h Q hw;exact .blk (ih e h _ hw)
  | loop a _ => intro e h Q hw;exact .loop hw
  | ret => intro e h Q hw;exact .ret hw
  | exit i => intro e h Q hw;exact .exit hw
  | skip => intro e h Q hw;exact .skip hw
theorem out_wp {n : Nat} {g : FuncId} {f : SFn} {args : List AV} {t : AV} (hf : stF E g = some f) (hw : wp E f.body (fun i => args.getD i (.tup [])) Hp.empty (QO n f.res t)) : ∃ k n,out E k n g args = some t:= out_W hf (wp_sound _ _ _ _ hw)
end
theorem run_wp {E : Env} {h : Hp} {g : FuncId} {f : SFn} {args : List AV} {R : AV × Hp → Prop} (hf : stF E g = some f) (hw : wp E f.body (fun i => args.getD i (.tup [])) h fun x e' h' => (∀ i,x ≠ .exit i) ∧ ∃ v,(sRes e' h' f.res).map evResult = some v ∧ R (v,h')) : ∃ r,RunF E g args h r ∧ R r:= by
  obtain ⟨x,e',h',hr,h2,v,h3,h4⟩:= wp_sound _ _ _ _ hw
  exact ⟨(v,h'),RunF.of hf ⟨x,e',h',hr,h2,rfl,h3⟩,h4⟩
theorem len_snoc {α : Type} (pre : List α) (v : α) : ((pre ++ [v]).length : Int) = (pre.length : Int) + 1:= by simp
theorem cast0 : ((0 : Nat) : Int) = 0:= rfl
theorem zero_lt_add (n : Nat) : (0 < n + 1) = True:= by simp
theorem ne_s1 (n : Nat) : (n = n + 1) = False:= by simp
theorem ne_s2 (n : Nat) : (n = n + 1 + 1) = False:= by simp;omega
theorem ne_s3 (n : Nat) : (n + 1 = n) = False:= by simp
theorem lt_self (n : Int) : decide (n < n) = false:= by simp
attribute [go_sem] hP_some wThen_norm wThen_ret wThen_exit wCond_t wCond_f wBlk_norm wBlk_ret wBlk_exit wp_rg wp_seq wp_cond wp_blk wp_loop wp_ret wp_exit wp_skip len_snoc lt_self cast0 zero_lt_add ne_s1 ne_s2 ne_s3
theorem kIa_head {α : Type} {row : α → List AV} {l r : List α} {v : α} {sz : Nat} {h : Hp} (hl : l = v :: r) (hr : (row v).length = sz) : kIa sz (.imm (l.map row)) (.int .i64 0) h = some (.cptr (row v),h):= by
  refine kIa_imm (by omega) ?_ hr
  subst hl
  rfl
theorem kIa_nth {α : Type} {row : α → List AV} {l : List α} {v : α} {sz : Nat} {h : Hp} {i : Int} (h0 : 0 ≤ i) (hl : l[i.toNat]? = some v) (hr : (row v).length = sz) : kIa sz (.imm (l.map row)) (.int .i64 i) h = some (.cptr (row v),h):= by
  refine kIa_imm h0 ?_ hr
  rw [List.getElem?_map,hl]
  rfl
theorem kSl_pre {α : Type} {row : α → List AV} {l pre rest : List α} {sz : Nat} (hl : l = pre ++ rest) (hr : ∀ v,(row v).length = sz) (hne : sz ≠ 0) : sIdxL sz (.imm (l.map row)) none (some (.int .i64 pre.length)) = some (.imm (pre.map row)):= by
  subst hl
  have hh : headLen sz ((pre ++ rest).map row) = true:= by
    unfold headLen
    cases pre ++ rest with
    | nil => rfl
    | cons v r => simp [hr v]
  have ha : asNat ((pre ++ rest).map row).length (some (AV.int .i64 (pre.length : Int))) ((pre ++ rest).map row).length = some pre.length:= by
    simp [asNat]
    omega
  simp only [sIdxL,hh,ha,if_true,Option.bind_some]
  simp [asNat]
theorem frzRows_T {α : Type} (T : TD α) : ∀ l : List α,frzRows (l.map T.row) = some (l.map T.row)
  | [] => rfl
  | v :: l => by simp only [List.map_cons,frzRows,T.frzRow,Option.bind_some,frzRows_T T l,Option.map_some]
def frR (sz : Nat) (h : Hp) (x : AV) : Option AV:= match x with
  | .snil => some (.app sz [])
  | x => (freshR h x).map fun q => .app q.1 q.2
theorem frR_snil (sz : Nat) (h : Hp) : frR sz h .snil = some (.app sz []):= rfl
theorem frR_app {sz s id : Nat} {h : Hp} {rows : List (List AV)} (ha : h.ap id = some (rows.length,s)) : frR sz h (.app id rows) = some (.app s rows):= by
  simp [frR,freshR,ha]
def QF (sz : Nat) (rs : List SRes) (t : AV) : QS:= fun x e h => (∀ i,x ≠ .exit i) ∧ (sRes e h rs).bind (fun l => frR sz h (evResult l)) = some t
theorem QF_ret {e : Ps} {h : Hp} {sz : Nat} (rs : List SRes) (t : AV) : QF sz rs t .ret e h = ((sRes e h rs).bind (fun l => frR sz h (evResult l)) = some t):= by simp [QF]
theorem QF_norm {e : Ps} {h : Hp} {sz : Nat} (rs : List SRes) (t : AV) : QF sz rs t .norm e h = ((sRes e h rs).bind (fun l => frR sz h (evResult l)) = some t):= by simp [QF]
attribute [go_sem] Option.map_none Option.bind_none frR_snil QF_ret QF_norm
theorem outF_wp {E : Env} {sz : Nat} {g : FuncId} {f : SFn} {args : List AV} {t : AV} (hf : stF E g = some f) (hw : wp E f.body (fun i => args.getD i (.tup [])) Hp.empty (QF sz f.res t)) : ∃ k sz,outF E k sz g args = some t:= by
  obtain ⟨x,e',h',hr,h2,h3⟩:= wp_sound _ _ _ _ hw
  obtain ⟨l,h3,h4⟩:= Option.bind_eq_some_iff.1 h3
  obtain ⟨k,hk⟩:= RunF.of (v:= evResult l) (h1:= h') hf ⟨x,e',h',hr,h2,rfl,by rw [h3];rfl⟩
  refine ⟨k,sz,?_⟩
  simp only [outF,hk,Option.bind_some]
  rw [← h4]
  generalize evResult l = y
  cases y <;> rfl
theorem kApp_rows {α : Type} {bt : Nat} {h : Hp} (T : TD α) {id : Nat} (a b : List α) {x : AV} (hx : rowsIn h T.sz x = some (b.map T.row)) (ha : h.ap id = some (a.length,T.sz)) (hb : (a.length + b.length) * bt ≤ room) :
    sApp false bt T.sz (.app id (a.map T.row)) x h = some (.app id ((a ++ b).map T.row),h.setApp id (a.length + b.length) T.sz):= by
  have hh : headLen T.sz (b.map T.row) = true:= by
    cases b with
    | nil => rfl
    | cons v r => simp [headLen,T.len]
  simp only [sApp,hx,Option.bind_some,hh,if_true,frzRows_T,List.length_map,ha,hb,and_self,Bool.false_eq_true,if_false,List.map_append]
section
variable {α β : Type} {E : Env} {body : SCode} {l : List α}
def earlyL (f : List α → α → Option β) : List α → List α → Option β
  | _,[] => none
  | pre,v :: r => match f pre v with
    | some b => some b
    | none => earlyL f (pre ++ [v]) r
structure At (l pre : List α) (v : α) (rest : List α) : Prop where
  hl : l = pre ++ v :: rest
  lt : pre.length < l.length
  hw : IntKind.wrap .i64 ((pre.length : Int) + 1) = (pre.length : Int) + 1
  mem : v ∈ l
  dl : decide ((pre.length : Int) < (l.length : Int)) = true
theorem at_of {pre rest : List α} {v : α} (hlen : l.length ≤ 9223372036854775807) (hl : l = pre ++ v :: rest) : At l pre v rest:= by
  have hlt : pre.length < l.length:= by rw [hl];simp
  exact ⟨hl,hlt,wrapId (by omega) (by omega),by rw [hl];simp,lt_map hl⟩
theorem At.ia {pre rest : List α} {v : α} (a : At l pre v rest) {row : α → List AV} {sz : Nat} (hr : (row v).length = sz) (h : Hp) : kIa sz (.imm (l.map row)) (.int .i64 pre.length) h = some (.cptr (row v),h):= kIa_map a.hl hr
theorem wl_early (f : List α → α → Option β) (I : List α → Ps → Hp → Prop) (x0 : Ex) (J : Ps → Hp → Prop) (R : β → Ps → Hp → Prop) (hlen : l.length ≤ 9223372036854775807)
    (hgo : ∀ pre v rest e h,At l pre v rest → f pre v = none → I pre e h → wp E body e h fun x e1 h1 => x = .norm ∧ I (pre ++ [v]) e1 h1)
    (hout : ∀ pre v rest b e h,At l pre v rest → f pre v = some b → I pre e h → wp E body e h fun x e1 h1 => x = .ret ∧ R b e1 h1)
    (hend : ∀ e h,I l e h → wp E body e h fun x e1 h1 => x = x0 ∧ J e1 h1) (hx0 : x0 ≠ .norm) :
    ∀ (rest pre : List α) (e : Ps) (h : Hp),l = pre ++ rest → I pre e h → WL E body e h fun x e1 h1 => match earlyL f pre rest with | none => x = x0 ∧ J e1 h1 | some b => x = .ret ∧ R b e1 h1
  | [],pre,e,h,hl,hi => by
    have hp : pre = l:= by rw [hl];simp
    rw [hp] at hi
    refine .step ((wp_sound _ _ _ _ (hend e h hi)).mono ?_)
    rintro x e' h' ⟨rfl,hj⟩
    cases x with
    | norm => exact absurd rfl hx0
    | exit i => exact ⟨rfl,hj⟩
    | ret => exact ⟨rfl,hj⟩
  | v :: rest,pre,e,h,hl,hi => by
    have ha:= at_of hlen hl
    simp only [earlyL]
    cases hf : f pre v with
    | none =>
      refine .step ((wp_sound _ _ _ _ (hgo pre v rest e h ha hf hi)).mono ?_)
      rintro _ e1 h1 ⟨rfl,hq⟩
      exact wl_early f I x0 J R hlen hgo hout hend hx0 rest (pre ++ [v]) e1 h1 (by rw [hl];simp) hq
    | some b =>
      refine .step ((wp_sound _ _ _ _ (hout pre v rest b e h ha hf hi)).mono ?_)
      rintro _ e1 h1 ⟨rfl,hq⟩
      exact ⟨rfl,hq⟩
def allP (p : List α → α → Bool) : List α → List α → Bool
  | _,[] => true
  | pre,v :: r => p pre v && allP p (pre ++ [v]) r
theorem allP_all (p : α → Bool) : ∀ (l pre : List α),allP (fun _ v => p v) pre l = l.all p
  | [],_ => rfl
  | v :: l,pre => by simp only [allP,List.all_cons,allP_all p l]
theorem wl_all (p : List α → α → Bool) (I : List α → Ps → Hp → Prop) (x0 : Ex) (J : Ps → Hp → Prop) (R : Ps → Hp → Prop) (hlen : l.length ≤ 9223372036854775807)
    (hgo : ∀ pre v rest e h,At l pre v rest → p pre v = true → I pre e h → wp E body e h fun x e1 h1 => x = .norm ∧ I (pre ++ [v]) e1 h1)
    (hout : ∀ pre v rest e h,At l pre v rest → p pre v = false → I pre e h → wp E body e h fun x e1 h1 => x = .ret ∧ R e1 h1)
    (hend : ∀ e h,I l e h → wp E body e h fun x e1 h1 => x = x0 ∧ J e1 h1) (hx0 : x0 ≠ .norm) :
    ∀ (rest pre : List α) (e : Ps) (h : Hp),l = pre ++ rest → I pre e h → WL E body e h fun x e1 h1 => (allP p pre rest = true ∧ x = x0 ∧ J e1 h1) ∨ (allP p pre rest = false ∧ x = .ret ∧ R e1 h1)
  | [],pre,e,h,hl,hi => by
    have hp : pre = l:= by rw [hl];simp
    rw [hp] at hi
    refine .step ((wp_sound _ _ _ _ (hend e h hi)).mono ?_)
    rintro x e' h' ⟨rfl,hj⟩
    cases x with
    | norm => exact absurd rfl hx0
    | exit i => exact .inl ⟨rfl,rfl,hj⟩
    | ret => exact .inl ⟨rfl,rfl,hj⟩
  | v :: rest,pre,e,h,hl,hi => by
    have ha:= at_of hlen hl
    simp only [allP]
    cases hf : p pre v with
    | true =>
      refine .step ((wp_sound _ _ _ _ (hgo pre v rest e h ha hf hi)).mono ?_)
      rintro _ e1 h1 ⟨rfl,hq⟩
      simp only [Bool.true_and]
      exact wl_all p I x0 J R hlen hgo hout hend hx0 rest (pre ++ [v]) e1 h1 (by rw [hl];simp) hq
    | false =>
      refine .step ((wp_sound _ _ _ _ (hout pre v rest e h ha hf hi)).mono ?_)
      rintro _ e1 h1 ⟨rfl,hq⟩
      exact .inr ⟨rfl,rfl,hq⟩
theorem wl_for (I : List α → Ps → Hp → Prop) (x0 : Ex) (J : Ps → Hp → Prop) (hlen : l.length ≤ 9223372036854775807)
    (hgo : ∀ pre v rest e h,At l pre v rest → I pre e h → wp E body e h fun x e1 h1 => x = .norm ∧ I (pre ++ [v]) e1 h1)
    (hend : ∀ e h,I l e h → wp E body e h fun x e1 h1 => x = x0 ∧ J e1 h1) (hx0 : x0 ≠ .norm) :
    ∀ (rest pre : List α) (e : Ps) (h : Hp),l = pre ++ rest → I pre e h → WL E body e h fun x e1 h1 => x = x0 ∧ J e1 h1
  | [],pre,e,h,hl,hi => by
    have hp : pre = l:= by rw [hl];simp
    rw [hp] at hi
    refine .step ((wp_sound _ _ _ _ (hend e h hi)).mono ?_)
    rintro x e' h' ⟨rfl,hj⟩
    cases x with
    | norm => exact absurd rfl hx0
    | exit i => exact ⟨rfl,hj⟩
    | ret => exact ⟨rfl,hj⟩
  | v :: rest,pre,e,h,hl,hi => by
    refine .step ((wp_sound _ _ _ _ (hgo pre v rest e h (at_of hlen hl) hi)).mono ?_)
    rintro _ e1 h1 ⟨rfl,hq⟩
    exact wl_for I x0 J hlen hgo hend hx0 rest (pre ++ [v]) e1 h1 (by rw [hl];simp) hq
end
end Go.Ev
namespace Go.Ev
open Go Go.RowKit
def grows {α : Type} (T : TD α) (l : List α) (v : AV) (h : Hp) : Prop:= (l = [] ∧ v = .snil) ∨ ∃ id,v = .app id (l.map T.row) ∧ h.ap id = some (l.length,T.sz) ∧ id < h.nx
section
variable {α : Type} {T : TD α} {l : List α} {v x : AV} {h h' : Hp}
theorem grows.mono (hg : grows T l v h) (hn : h.nx ≤ h'.nx) (ha : ∀ r,r < h.nx → h'.ap r = h.ap r) : grows T l v h':= by
  rcases hg with hg | ⟨id,h1,h2,h3⟩
  · exact .inl hg
  · exact .inr ⟨id,h1,by rw [ha id h3];exact h2,by omega⟩
theorem grows_nil (T : TD α) (h : Hp) : grows T [] .snil h:= .inl ⟨rfl,rfl⟩
theorem grows_new (T : TD α) (h : Hp) : grows T [] (.app h.nx []) (h.newApp 0 T.sz):= .inr ⟨h.nx,rfl,by simp [Hp.newApp],by simp [Hp.newApp]⟩
theorem grows_app {bt : Nat} {more : List α} (hg : grows T l v h) (hx : rowsIn h T.sz x = some (more.map T.row)) (hb : (l.length + more.length) * bt ≤ room) :
    ∃ v' h',sApp false bt T.sz v x h = some (v',h') ∧ grows T (l ++ more) v' h' ∧ h'.hp = h.hp ∧ h.nx ≤ h'.nx ∧ (∀ r,r < h.nx → (∀ m,v ≠ .app r m) → h'.ap r = h.ap r):= by
  have hh : headLen T.sz (more.map T.row) = true:= by
    cases more with
    | nil => rfl
    | cons v r => simp [headLen,T.len]
  rcases hg with ⟨rfl,rfl⟩ | ⟨id,rfl,h2,h3⟩
  · cases more with
    | nil => exact ⟨.snil,h,by simp [sApp,hx,headLen],.inl ⟨rfl,rfl⟩,rfl,Nat.le_refl _,fun _ _ _ => rfl⟩
    | cons a r =>
      simp only [List.length_nil,Nat.zero_add] at hb
      refine ⟨_,h.newApp (a :: r).length T.sz,?_,.inr ⟨h.nx,rfl,by simp [Hp.newApp],by simp [Hp.newApp]⟩,rfl,by simp [Hp.newApp],fun q hq _ => by simp only [Hp.newApp];rw [if_neg (by omega)]⟩
      have hf:= frzRows_T T (a :: r)
      have he : ((a :: r).map T.row).isEmpty = false:= rfl
      simp only [sApp,hx,Option.bind_some,hh,if_true,he,hb,Bool.false_eq_true,if_false,hf,List.length_map,List.nil_append]
  · refine ⟨.app id ((l ++ more).map T.row),h.setApp id (l.length + more.length) T.sz,kApp_rows T l more hx h2 hb,.inr ⟨id,rfl,by simp [Hp.setApp],h3⟩,rfl,Nat.le_refl _,fun r hr hne => ?_⟩
    simp only [Hp.setApp]
    rw [if_neg]
    rintro rfl
    exact hne _ rfl
theorem frR_grows {n : Nat} (hg : grows T l v h) (hn : n = T.sz) : frR n h v = some (.app n (l.map T.row)):= by
  subst hn
  rcases hg with ⟨rfl,rfl⟩ | ⟨id,rfl,h2,_⟩
  · rfl
  · exact frR_app (by rw [List.length_map];exact h2)
theorem frzE_grows {n : Nat} (hg : grows T l v h) : frzE n h v = some (.imm (l.map T.row)):= by
  rcases hg with ⟨rfl,rfl⟩ | ⟨id,rfl,_,_⟩
  · exact frzE_snil
  · exact frzE_app _ _
theorem frz_grows (hg : grows T l v h) : Ev.frz v = some (.imm (l.map T.row)):= by
  rcases hg with ⟨rfl,rfl⟩ | ⟨id,rfl,_,_⟩ <;> rfl
theorem lenL_grows (hg : grows T l v h) (h2 : Hp) : kLenL v h2 = some (.int .i64 l.length,h2):= by
  rcases hg with ⟨rfl,rfl⟩ | ⟨id,rfl,_,_⟩
  · rfl
  · show some (AV.int .i64 ((l.map T.row).length : Int),h2) = _
    rw [List.length_map]
theorem hP_grow {E : Env} {c : CallH} {bt n : Nat} {d : Option Nat} {os : List SOper} {e : Ps} {Q : QS} (more : List α) (hn : n = T.sz) (hg : grows T l v h) (hx : rowsIn h T.sz x = some (more.map T.row)) (hb : (l.length + more.length) * bt ≤ room)
    (hw : ∀ v' h',grows T (l ++ more) v' h' → h'.hp = h.hp → h.nx ≤ h'.nx → (∀ r,r < h.nx → (∀ m,v ≠ .app r m) → h'.ap r = h.ap r) → hP (kThen (some (upd? e d v',h')) E c os) Q) : hP (kThen (kOper d (some true) (sApp false bt n v x h) e h) E c os) Q:= by
  subst hn
  obtain ⟨v',h',h1,h2,h3,h4,h5⟩:= grows_app (bt:= bt) hg hx hb
  rw [h1,kOper_go]
  exact hw v' h' h2 h3 h4 h5
end
end Go.Ev
namespace Go.Ev
open Go Go.RowKit
section
variable (A B : List AV) (x c0 c1 c2 c3 c4 c5 c6 c7 : AV)
theorem spl0 (l xs : List AV) : splice (A ++ l) A.length xs = A ++ splice l 0 xs:= by simp [splice]
theorem spl_at (l xs : List AV) (j : Nat) : splice (A ++ l) (A.length + j) xs = A ++ splice l j xs:= by
  have h1 : (A ++ l).take (A.length + j) = A ++ l.take j:= by rw [List.take_append,List.take_of_length_le (by omega)];congr 2;omega
  have h2 : (A ++ l).drop (A.length + j + xs.length) = l.drop (j + xs.length):= by rw [List.drop_append,List.drop_of_length_le (by omega),List.nil_append];congr 1;omega
  show (A ++ l).take (A.length + j) ++ xs ++ (A ++ l).drop (A.length + j + xs.length) = A ++ (l.take j ++ xs ++ l.drop (j + xs.length))
  rw [h1,h2,List.append_assoc,List.append_assoc,List.append_assoc]
theorem mid_le0 : (A.length + 1 ≤ (A ++ c0 :: B).length) = True:= by simp
theorem mid_le1 : (A.length + 1 + 1 ≤ (A ++ c0 :: c1 :: B).length) = True:= by simp;omega
theorem mid_le2 : (A.length + 2 + 1 ≤ (A ++ c0 :: c1 :: c2 :: B).length) = True:= by simp;omega
theorem mid_le3 : (A.length + 3 + 1 ≤ (A ++ c0 :: c1 :: c2 :: c3 :: B).length) = True:= by simp;omega
theorem mid_le4 : (A.length + 4 + 1 ≤ (A ++ c0 :: c1 :: c2 :: c3 :: c4 :: B).length) = True:= by simp;omega
theorem mid_le5 : (A.length + 5 + 1 ≤ (A ++ c0 :: c1 :: c2 :: c3 :: c4 :: c5 :: B).length) = True:= by simp;omega
theorem mid_le6 : (A.length + 6 + 1 ≤ (A ++ c0 :: c1 :: c2 :: c3 :: c4 :: c5 :: c6 :: B).length) = True:= by simp;omega
theorem mid_le7 : (A.length + 7 + 1 ≤ (A ++ c0 :: c1 :: c2 :: c3 :: c4 :: c5 :: c6 :: c7 :: B).length) = True:= by simp;omega
theorem mid_dr0 (l : List AV) : (A ++ l).drop A.length = l:= by simp
theorem mid_dr (l : List AV) (j : Nat) : (A ++ l).drop (A.length + j) = l.drop j:= by simp [List.drop_append]
theorem mid_at0 (l : List AV) : (A.length ≤ (A ++ l).length) = True:= by simp
theorem mid_at1 : (A.length + 1 ≤ (A ++ c0 :: c1 :: B).length) = True:= by simp
theorem mid_at2 : (A.length + 2 ≤ (A ++ c0 :: c1 :: c2 :: B).length) = True:= by simp
theorem mid_at3 : (A.length + 3 ≤ (A ++ c0 :: c1 :: c2 :: c3 :: B).length) = True:= by simp
theorem mid_at4 : (A.length + 4 ≤ (A ++ c0 :: c1 :: c2 :: c3 :: c4 :: B).length) = True:= by simp
theorem mid_at5 : (A.length + 5 ≤ (A ++ c0 :: c1 :: c2 :: c3 :: c4 :: c5 :: B).length) = True:= by simp
theorem mid_at6 : (A.length + 6 ≤ (A ++ c0 :: c1 :: c2 :: c3 :: c4 :: c5 :: c6 :: B).length) = True:= by simp
theorem mid_at7 : (A.length + 7 ≤ (A ++ c0 :: c1 :: c2 :: c3 :: c4 :: c5 :: c6 :: c7 :: B).length) = True:= by simp
theorem dr_1 : (c0 :: B).drop 1 = B:= rfl
theorem dr_2 : (c0 :: c1 :: B).drop 2 = B:= rfl
theorem dr_3 : (c0 :: c1 :: c2 :: B).drop 3 = B:= rfl
theorem dr_4 : (c0 :: c1 :: c2 :: c3 :: B).drop 4 = B:= rfl
theorem dr_5 : (c0 :: c1 :: c2 :: c3 :: c4 :: B).drop 5 = B:= rfl
theorem dr_6 : (c0 :: c1 :: c2 :: c3 :: c4 :: c5 :: B).drop 6 = B:= rfl
theorem dr_7 : (c0 :: c1 :: c2 :: c3 :: c4 :: c5 :: c6 :: B).drop 7 = B:= rfl
end
attribute [go_sem] spl0 spl_at
attribute [go_sem] mid_le0 mid_le1 mid_le2 mid_le3 mid_le4 mid_le5 mid_le6 mid_le7 mid_dr0 mid_dr mid_at0 mid_at1 mid_at2 mid_at3 mid_at4 mid_at5 mid_at6 mid_at7 dr_1 dr_2 dr_3 dr_4 dr_5 dr_6 dr_7
theorem kIa_mid {sz r len i : Nat} {A : List AV} {h : Hp} (hA : A.length = i * sz) (hi : i < len) : kIa sz (.sl r 0 len sz) (.int .i64 i) h = some (.ptr r A.length,h):= by
  rw [kIa_sl (by omega) (by simpa using hi),hA]
  simp
section
variable {n : Nat} {h h' : Hp} {f : AV → Option (AV × List Nat)}
theorem dfzL_cons_inv {c t : AV} {cs ts : List AV} {R : List Nat} (hd : dfzL f (c :: cs) = some (t :: ts,R)) : ∃ R1 R2,f c = some (t,R1) ∧ dfzL f cs = some (ts,R2) ∧ R = R1 ++ R2:= by
  simp only [dfzL,Option.bind_eq_some_iff,Option.map_eq_some_iff,Prod.mk.injEq,List.cons.injEq] at hd
  obtain ⟨⟨t',R1⟩,h1,⟨ts',R2⟩,h2,⟨h3,h4⟩,h5⟩:= hd
  simp only at h3 h4 h5
  subst h3;subst h4;subst h5
  exact ⟨R1,R2,h1,h2,rfl⟩
theorem dfzL_nil_inv {ts : List AV} {R : List Nat} (hd : dfzL f [] = some (ts,R)) : ts = [] ∧ R = []:= by
  simp only [dfzL,Option.some.injEq,Prod.mk.injEq] at hd
  exact ⟨hd.1.symm,hd.2.symm⟩
theorem dfzL_cons {c t : AV} {cs ts : List AV} {R1 R2 : List Nat} (h1 : f c = some (t,R1)) (h2 : dfzL f cs = some (ts,R2)) : dfzL f (c :: cs) = some (t :: ts,R1 ++ R2):= by
  simp only [dfzL,h1,h2,Option.bind_some,Option.map_some]
theorem leafF_inv {c t : AV} (hh : leafF c = some t) : c = t ∨ (t = .imm [] ∧ ∀ h2,kLenL c h2 = some (.int .i64 0,h2)):= by
  unfold leafF at hh
  split at hh
  all_goals first
    | exact .inl (Option.some.inj hh)
    | exact .inr ⟨(Option.some.inj hh).symm,fun _ => rfl⟩
    | cases hh
theorem dfz_leaf {c t : AV} {R : List Nat} (hd : dfz n h c = some (t,R)) (ht : (∀ rows,t ≠ .imm rows)) : c = t ∧ R = []:= by
  have base : ((leafF c).map fun t => (t,([] : List Nat))) = some (t,R) → c = t ∧ R = []:= fun hd => by
    simp only [Option.map_eq_some_iff,Prod.mk.injEq] at hd
    obtain ⟨t',h1,rfl,rfl⟩:= hd
    rcases leafF_inv h1 with h1 | ⟨h1,_⟩
    · exact ⟨h1,rfl⟩
    · exact absurd h1 (ht _)
  cases n with
  | zero => exact base hd
  | succ n =>
    unfold dfz at hd
    split at hd
    · split at hd
      · simp only [Option.bind_eq_some_iff] at hd
        obtain ⟨cs,_,hd⟩:= hd
        split at hd
        · simp only [Option.map_eq_some_iff,Prod.mk.injEq] at hd
          obtain ⟨_,_,e,_⟩:= hd
          exact absurd e.symm (ht _)
        · cases hd
      · cases hd
    · exact base hd
theorem dfz_int {c : AV} {k : IntKind} {i : Int} {R : List Nat} (hd : dfz n h c = some (.int k i,R)) : c = .int k i ∧ R = []:= dfz_leaf hd fun _ e => by cases e
theorem dfz_str {c : AV} {s : List UInt8} {R : List Nat} (hd : dfz n h c = some (.str s,R)) : c = .str s ∧ R = []:= dfz_leaf hd fun _ e => by cases e
theorem dfz_bool {c : AV} {b : Bool} {R : List Nat} (hd : dfz n h c = some (.bool b,R)) : c = .bool b ∧ R = []:= dfz_leaf hd fun _ e => by cases e
theorem dfz_of_leaf {t : AV} (ht : leafV t = true) : dfz n h t = some (t,[]):= by
  cases n with
  | zero => simp only [dfz,leafF_of ht,Option.map_some]
  | succ n =>
    unfold dfz
    split
    · simp [leafV] at ht
    · rw [leafF_of ht];rfl
theorem dfz_int' (k : IntKind) (i : Int) : dfz n h (.int k i) = some (.int k i,[]):= dfz_of_leaf rfl
theorem dfz_str' (s : List UInt8) : dfz n h (.str s) = some (.str s,[]):= dfz_of_leaf rfl
theorem dfz_bool' (b : Bool) : dfz n h (.bool b) = some (.bool b,[]):= dfz_of_leaf rfl
theorem dfz_slice {α : Type} {T : TD α} {x : AV} {l : List α} {R : List Nat} (hd : dfz n h x = some (.imm (l.map T.row),R)) :
    (l = [] ∧ ∀ h2,kLenL x h2 = some (.int .i64 0,h2)) ∨ ∃ m r cs R',n = m + 1 ∧ x = .sl r 0 l.length T.sz ∧ h.hp r = some cs ∧ cs.length = l.length * T.sz ∧ dfzL (dfz m h) cs = some ((l.map T.row).flatten,R') ∧ R = r :: R':= by
  have base : ((leafF x).map fun t => (t,([] : List Nat))) = some (.imm (l.map T.row),R) → l = [] ∧ ∀ h2,kLenL x h2 = some (.int .i64 0,h2):= fun hd => by
    simp only [Option.map_eq_some_iff,Prod.mk.injEq] at hd
    obtain ⟨t',h1,h2,_⟩:= hd
    rcases leafF_inv h1 with rfl | ⟨rfl,h3⟩
    · subst h2
      cases l with
      | nil => exact ⟨rfl,fun _ => rfl⟩
      | cons v l => simp [leafF] at h1
    · simp at h2
      exact ⟨h2,h3⟩
  cases n with
  | zero => exact .inl (base hd)
  | succ n =>
    unfold dfz at hd
    split at hd
    case h_2 => exact .inl (base hd)
    rename_i r off len sz
    split at hd
    case isFalse => cases hd
    rename_i hc0
    obtain ⟨rfl,hsz⟩:= hc0
    simp only [Option.bind_eq_some_iff] at hd
    obtain ⟨cs,hq,hd⟩:= hd
    split at hd
    case isFalse => cases hd
    rename_i hlen
    simp only [Option.map_eq_some_iff,Prod.mk.injEq,AV.imm.injEq] at hd
    obtain ⟨⟨us,R1⟩,k1,k2,rfl⟩:= hd
    simp only at k2
    have hul : us.length = len * sz:= by rw [dfzL_spec k1,hlen]
    obtain ⟨c1,c2,_⟩:= chunk_spec sz len us (by omega)
    have hl : len = l.length:= by rw [← c1,k2,List.length_map]
    by_cases h0 : l = []
    · subst h0
      subst hl
      exact .inl ⟨rfl,fun _ => rfl⟩
    · have hs : sz = T.sz:= by
        obtain ⟨v,l',rfl⟩:= List.exists_cons_of_ne_nil h0
        have:= c2 (T.row v) (by rw [k2];simp)
        rw [← this,T.len]
      subst hl;subst hs
      have hf:= chunk_flat T.sz l.length us hul
      rw [k2] at hf
      refine .inr ⟨n,r,cs,R1,rfl,rfl,hq,hlen,?_,rfl⟩
      rw [hf]
      exact k1
end
theorem wp_up {E : Env} : ∀ {s : SCode} {e : Ps} {h : Hp} {Q Q' : QS},wp E s e h Q → (∀ x e h,Q x e h → Q' x e h) → wp E s e h Q':= by
  intro s
  induction s with
  | rg os =>
    intro e h Q Q' hw hq
    simp only [wp,hP] at hw ⊢
    split at hw
    · exact hq _ _ _ hw
    · exact hw
  | seq a b iha ihb =>
    intro e h Q Q' hw hq
    refine iha (Q:= wThen (wp E b) Q) hw fun x e' h' hx => ?_
    cases x with
    | norm => exact ihb hx hq
    | exit i => exact hq _ _ _ hx
    | ret => exact hq _ _ _ hx
  | cond o a b iha ihb =>
    intro e h Q Q' hw hq
    simp only [wp,wCond] at hw ⊢
    split at hw
    · exact iha hw hq
    · exact ihb hw hq
    · exact hw
  | blk i a ih => intro e h Q Q' hw hq;exact ih (Q:= wBlk i Q) hw fun x e' h' hx => hq _ _ _ hx
  | loop a _ => intro e h Q Q' hw hq;exact WL.mono hw fun x e h hx => hq x e h hx
  | ret => intro e h Q Q' hw hq;exact hq _ _ _ hw
  | exit i => intro e h Q Q' hw hq;exact hq _ _ _ hw
  | skip => intro e h Q Q' hw hq;exact hq _ _ _ hw
def mkL {α : Type} (mk : α → Int → α) (cnt : α → Nat) : List α → Int → List α
  | [],_ => []
  | v :: r,k => mk v k :: mkL mk cnt r (k + cnt v)
def cntL {α : Type} (cnt : α → Nat) : List α → Nat
  | [] => 0
  | v :: r => cnt v + cntL cnt r
theorem mkL_len {α : Type} (mk : α → Int → α) (cnt : α → Nat) : ∀ (l : List α) (k : Int),(mkL mk cnt l k).length = l.length
  | [],_ => rfl
  | v :: l,k => by simp [mkL,mkL_len mk cnt l]
def MkS {α : Type} (E : Env) (g : FuncId) (T : TD α) (mk : α → Int → α) (cnt : α → Nat) : Prop:=
  ∀ (n : Nat) (v : α) (k : Int) (x : AV) (R : List Nat) (h : Hp),T.fits v → 0 ≤ k → k + cnt v ≤ 4611686018427387904 → dfzT n h x = some (T.enc v,R) → R.Nodup → (∀ q ∈ R,q < h.nx) →
    ∃ h',RunF E g [x,.int .i64 k] h (.int .i64 (k + cnt v),h') ∧ dfzT n h' x = some (T.enc (mk v k),R) ∧ (∀ q,q < h.nx → q ∉ R → h'.hp q = h.hp q) ∧ h.nx ≤ h'.nx
def MkB {α : Type} (E : Env) (body : SCode) (T : TD α) (mk : α → Int → α) (cnt : α → Nat) : Prop:=
  ∀ (m : Nat) (e : Ps) (h : Hp) (r len i : Nat) (k : Int) (A c B : List AV) (v : α) (R : List Nat),e 0 = .sl r 0 len T.sz → e 5 = .int .i64 i → e 1 = .int .i64 k → h.hp r = some (A ++ (c ++ B)) → A.length = i * T.sz → i < len → c.length = T.sz →
    dfzL (dfz m h) c = some (T.row v,R) → R.Nodup → r ∉ R → (∀ q ∈ R,q < h.nx) → r < h.nx → T.fits v → 0 ≤ k → k + cnt v ≤ 4611686018427387904 →
    wp E body e h fun x e1 h1 => x = .norm ∧ e1 0 = .sl r 0 len T.sz ∧ e1 5 = .int .i64 i ∧ e1 1 = .int .i64 (k + cnt v) ∧ ∃ c',h1.hp r = some (A ++ (c' ++ B)) ∧ c'.length = T.sz ∧ dfzL (dfz m h1) c' = some (T.row (mk v k),R) ∧ (∀ q,q < h.nx → q ≠ r → q ∉ R → h1.hp q = h.hp q) ∧ h.nx ≤ h1.nx
def mkHead : SCode:= .seq (.rg [⟨some 6,none,.mv (.t 5)⟩,⟨some 7,none,.mv (.t 0)⟩,⟨some 8,none,.lenL (.t 7)⟩,⟨some 9,none,.bin .lss (.t 6) (.t 8)⟩]) (.cond (.t 9) .skip (.exit 0))
def mkInc : SCode:= .rg [⟨some 10,none,.mv (.t 5)⟩,⟨some 11,none,.bin .add (.t 10) (.c (.int .i64 1))⟩,⟨some 5,none,.mv (.t 11)⟩]
def mkLoop (body : SCode) : SCode:= .seq mkHead (.seq (.blk 1 body) mkInc)
def mkF (nt z : Nat) (body : SCode) : SFn:= ⟨nt,.seq (.rg [⟨some 4,none,.mv (.c (.int .i64 0))⟩]) (.seq (.seq (.rg [⟨some 5,none,.mv (.c (.int .i64 0))⟩]) (.blk 0 (.loop (mkLoop body)))) (.seq (.rg [⟨some z,none,.mv (.t 1)⟩,⟨some 4,none,.mv (.t z)⟩]) .ret)),[.t 4]⟩
theorem mk_loop {α : Type} {E : Env} {body : SCode} {T : TD α} {mk : α → Int → α} {cnt : α → Nat} (hb : MkB E body T mk cnt) {len r : Nat} (hlen : len ≤ 9223372036854775807) (m : Nat) :
    ∀ (rest : List α) (A B : List AV) (i : Nat) (k : Int) (R : List Nat) (e : Ps) (h : Hp),e 0 = .sl r 0 len T.sz → e 5 = .int .i64 i → e 1 = .int .i64 k → i + rest.length = len → h.hp r = some (A ++ B) → A.length = i * T.sz → B.length = rest.length * T.sz →
      dfzL (dfz m h) B = some ((rest.map T.row).flatten,R) → R.Nodup → r ∉ R → (∀ q ∈ R,q < h.nx) → r < h.nx → (∀ v ∈ rest,T.fits v) → 0 ≤ k → k + cntL cnt rest ≤ 4611686018427387904 →
      WL E (mkLoop body) e h fun x e1 h1 => x = .exit 0 ∧ e1 1 = .int .i64 (k + cntL cnt rest) ∧ ∃ B',h1.hp r = some (A ++ B') ∧ B'.length = B.length ∧ dfzL (dfz m h1) B' = some (((mkL mk cnt rest k).map T.row).flatten,R) ∧ (∀ q,q < h.nx → q ≠ r → q ∉ R → h1.hp q = h.hp q) ∧ h.nx ≤ h1.nx
  | [],A,B,i,k,R,e,h,e0,e5,e1,hi,hq,hA,hB,hd,hnd,hr,hlt,hrn,hf,hk,hk2 => by
    have hB0 : B = []:= List.eq_nil_of_length_eq_zero (by simpa using hB)
    subst hB0
    simp only [List.length_nil,Nat.add_zero] at hi
    subst hi
    obtain ⟨_,rfl⟩:= dfzL_nil_inv hd
    refine .step (wp_sound _ _ _ _ ?_)
    simp only [go_sem,kSt_ptr,Nat.reduceBEq,Nat.reduceAdd,Nat.reduceEqDiff,Nat.reduceLeDiff,Nat.reduceSub,reduceIte,Int.reduceBEq,Int.reduceEq,Int.reduceLT,Int.reduceLE,Int.reduceGT,Int.reduceGE,Int.reduceNe,Int.reduceBNe,mkLoop,mkHead,e0,e5,kLenL_sl]
    refine ⟨by rw [e1];simp [cntL],[],hq,?_⟩
    simp [dfzL,mkL]
  | v :: rest,A,B,i,k,R,e,h,e0,e5,e1,hi,hq,hA,hB,hd,hnd,hr,hlt,hrn,hf,hk,hk2 => by
    have hBl : B.length = T.sz + rest.length * T.sz:= by rw [hB,List.length_cons,Nat.succ_mul];omega
    have hcat : B = B.take T.sz ++ B.drop T.sz:= (List.take_append_drop _ _).symm
    have hcl : (B.take T.sz).length = T.sz:= by rw [List.length_take];omega
    have hdl : (B.drop T.sz).length = rest.length * T.sz:= by rw [List.length_drop];omega
    rw [hcat] at hd hq
    generalize hc : B.take T.sz = c at *
    generalize hB2 : B.drop T.sz = B2 at *
    obtain ⟨ts1,R1,ts2,R2,d1,d2,d3,rfl⟩:= dfzL_inv hd
    rw [List.map_cons,List.flatten_cons] at d3
    obtain ⟨rfl,rfl⟩:= List.append_inj d3 (by rw [T.len,dfzL_spec d1,hcl])
    simp only [List.length_cons] at hi
    have hil : i < len:= by omega
    simp only [cntL] at hk2
    rw [List.nodup_append] at hnd
    obtain ⟨nd1,nd2,ndx⟩:= hnd
    rw [List.mem_append,not_or] at hr
    have hbd:= hb m
    have hdt : decide ((i : Int) < (len : Int)) = true:= decide_eq_true (by omega)
    have hw : IntKind.wrap .i64 ((i : Int) + 1) = (i : Int) + 1:= wrapId (by omega) (by omega)
    refine .step ?_
    have hbody : ∀ e2 : Ps,e2 0 = .sl r 0 len T.sz → e2 5 = .int .i64 i → e2 1 = .int .i64 k → wp E body e2 h fun x e1 h1 => x = .norm ∧ e1 0 = .sl r 0 len T.sz ∧ e1 5 = .int .i64 i ∧ e1 1 = .int .i64 (k + cnt v) ∧ ∃ c',h1.hp r = some (A ++ (c' ++ B2)) ∧ c'.length = T.sz ∧ dfzL (dfz m h1) c' = some (T.row (mk v k),R1) ∧ (∀ q,q < h.nx → q ≠ r → q ∉ R1 → h1.hp q = h.hp q) ∧ h.nx ≤ h1.nx:=
      fun e2 g0 g5 g1 => hbd e2 h r len i k A c B2 v R1 g0 g5 g1 hq hA hil hcl d1 nd1 hr.1 (fun q hq => hlt q (List.mem_append.2 (.inl hq))) hrn (hf v List.mem_cons_self) hk (by omega)
    refine .mono (wp_sound _ _ _ (fun x e1 h1 => x = .norm ∧ e1 0 = .sl r 0 len T.sz ∧ e1 5 = .int .i64 ((i + 1 : Nat) : Int) ∧ e1 1 = .int .i64 (k + cnt v) ∧ ∃ c',h1.hp r = some (A ++ (c' ++ B2)) ∧ c'.length = T.sz ∧ dfzL (dfz m h1) c' = some (T.row (mk v k),R1) ∧ (∀ q,q < h.nx → q ≠ r → q ∉ R1 → h1.hp q = h.hp q) ∧ h.nx ≤ h1.nx) ?_) ?_
    · simp only [go_sem,kSt_ptr,Nat.reduceBEq,Nat.reduceAdd,Nat.reduceEqDiff,Nat.reduceLeDiff,Nat.reduceSub,reduceIte,Int.reduceBEq,Int.reduceEq,Int.reduceLT,Int.reduceLE,Int.reduceGT,Int.reduceGE,Int.reduceNe,Int.reduceBNe,mkLoop,mkHead,e0,e5,kLenL_sl,hdt]
      refine wp_up (hbody _ (by simp only [go_sem,kSt_ptr,Nat.reduceBEq,Nat.reduceAdd,Nat.reduceEqDiff,Nat.reduceLeDiff,Nat.reduceSub,reduceIte,Int.reduceBEq,Int.reduceEq,Int.reduceLT,Int.reduceLE,Int.reduceGT,Int.reduceGE,Int.reduceNe,Int.reduceBNe,e0]) (by simp only [go_sem,kSt_ptr,Nat.reduceBEq,Nat.reduceAdd,Nat.reduceEqDiff,Nat.reduceLeDiff,Nat.reduceSub,reduceIte,Int.reduceBEq,Int.reduceEq,Int.reduceLT,Int.reduceLE,Int.reduceGT,Int.reduceGE,Int.reduceNe,Int.reduceBNe,e5]) (by simp only [go_sem,kSt_ptr,Nat.reduceBEq,Nat.reduceAdd,Nat.reduceEqDiff,Nat.reduceLeDiff,Nat.reduceSub,reduceIte,Int.reduceBEq,Int.reduceEq,Int.reduceLT,Int.reduceLE,Int.reduceGT,Int.reduceGE,Int.reduceNe,Int.reduceBNe,e1])) ?_
      rintro x e2 h2 ⟨rfl,g0,g5,g1,g⟩
      simp only [go_sem,kSt_ptr,Nat.reduceBEq,Nat.reduceAdd,Nat.reduceEqDiff,Nat.reduceLeDiff,Nat.reduceSub,reduceIte,Int.reduceBEq,Int.reduceEq,Int.reduceLT,Int.reduceLE,Int.reduceGT,Int.reduceGE,Int.reduceNe,Int.reduceBNe,mkInc,g0,g5,g1,hw]
      exact ⟨by simp,g⟩
    · rintro x e2 h2 ⟨rfl,g0,g5,g1,c',p1,p2,p3,p4,p5⟩
      have hz2 : dfzL (dfz m h2) B2 = some ((rest.map T.row).flatten,R2):= dfzL_frame (S:= R2) (fun hd hs => dfz_frame (S:= R2) (fun q hq => p4 q (hlt q (List.mem_append.2 (.inr hq))) (fun e => hr.2 (e ▸ hq)) fun h1 => ndx q h1 q hq rfl) m hd hs) d2 fun _ hq => hq
      refine (mk_loop hb hlen m rest (A ++ c') B2 (i + 1) (k + cnt v) R2 e2 h2 g0 g5 g1 (by omega) (by rw [p1,List.append_assoc]) (by rw [List.length_append,hA,p2,Nat.succ_mul]) hdl hz2 nd2 hr.2 (fun q hq => Nat.lt_of_lt_of_le (hlt q (List.mem_append.2 (.inr hq))) p5) (by omega) (fun v hv => hf v (List.mem_cons_of_mem _ hv)) (by omega) (by omega)).mono ?_
      rintro x e3 h3 ⟨rfl,q1,B',q2,q3,q4,q5,q6⟩
      refine ⟨rfl,by rw [q1];simp only [cntL];congr 1;omega,c' ++ B',by rw [q2,List.append_assoc],by rw [List.length_append,p2,q3,hdl,hBl],?_,fun q hq hqr hqR => ?_,by omega⟩
      · have hz1 : dfzL (dfz m h3) c' = some (T.row (mk v k),R1):= dfzL_frame (S:= R1) (fun hd hs => dfz_frame (S:= R1) (fun q hq => q5 q (Nat.lt_of_lt_of_le (hlt q (List.mem_append.2 (.inl hq))) p5) (fun e => hr.1 (e ▸ hq)) fun h2 => ndx q hq q h2 rfl) m hd hs) p3 fun _ hq => hq
        rw [show mkL mk cnt (v :: rest) k = mk v k :: mkL mk cnt rest (k + cnt v) from rfl,List.map_cons,List.flatten_cons]
        exact dfzL_app hz1 q4
      · rw [List.mem_append,not_or] at hqR
        rw [q5 q (by omega) hqr hqR.2,p4 q hq hqr hqR.1]
theorem mkS_ok {α : Type} {E : Env} {body : SCode} {T : TD α} {mk : α → Int → α} {cnt : α → Nat} {nt z : Nat} {g : FuncId} (hst : stF E g = some (mkF nt z body)) (hz : z ≠ 4) (hb : MkB E body T mk cnt) : MkS E g (sliceT T) (mkL mk cnt) (cntL cnt):= by
  intro n l k x R h hf hk hk2 hd hnd hlt
  have hd' : dfz n h x = some (.imm (l.map T.row),R):= by
    unfold dfzT at hd
    split at hd
    · simp only [Option.map_eq_some_iff,Prod.mk.injEq,sliceT_enc] at hd
      obtain ⟨_,_,e,_⟩:= hd
      cases e
    · exact hd
  have back : ∀ {h2 : Hp} {t : AV} {R2 : List Nat},dfz n h2 x = some (t,R2) → dfzT n h2 x = some (t,R2):= fun hq => by
    unfold dfzT
    split
    · cases n <;> simp [dfz,leafF] at hq
    · exact hq
  rcases dfz_slice hd' with ⟨rfl,hl0⟩ | ⟨m,r,cs,R',rfl,rfl,hq,hcl,hdz,rfl⟩
  · have hr : ∃ rr,RunF E g [x,.int .i64 k] h rr ∧ rr = (.int .i64 (k + (cntL cnt ([] : List α) : Nat)),h):= by
      refine run_wp hst ?_
      simp only [go_sem,kSt_ptr,Nat.reduceBEq,Nat.reduceAdd,Nat.reduceEqDiff,Nat.reduceLeDiff,Nat.reduceSub,reduceIte,Int.reduceBEq,Int.reduceEq,Int.reduceLT,Int.reduceLE,Int.reduceGT,Int.reduceGE,Int.reduceNe,Int.reduceBNe,mkF]
      refine .step (wp_sound _ _ _ _ ?_)
      simp only [go_sem,kSt_ptr,Nat.reduceBEq,Nat.reduceAdd,Nat.reduceEqDiff,Nat.reduceLeDiff,Nat.reduceSub,reduceIte,Int.reduceBEq,Int.reduceEq,Int.reduceLT,Int.reduceLE,Int.reduceGT,Int.reduceGE,Int.reduceNe,Int.reduceBNe,mkLoop,mkHead,hl0]
      have hz' : (4 = z) = False:= by simpa using fun e => hz e.symm
      simp only [go_sem,kSt_ptr,Nat.reduceBEq,Nat.reduceAdd,Nat.reduceEqDiff,Nat.reduceLeDiff,Nat.reduceSub,reduceIte,Int.reduceBEq,Int.reduceEq,Int.reduceLT,Int.reduceLE,Int.reduceGT,Int.reduceGE,Int.reduceNe,Int.reduceBNe,hz',cntL,Int.add_zero]
      simp
    obtain ⟨rr,h1,rfl⟩:= hr
    exact ⟨h,h1,hd,fun _ _ _ => rfl,Nat.le_refl _⟩
  · rw [List.nodup_cons] at hnd
    have hrn:= hlt r List.mem_cons_self
    have hr : ∃ rr,RunF E g [.sl r 0 l.length T.sz,.int .i64 k] h rr ∧ ∃ h',rr = (.int .i64 (k + cntL cnt l),h') ∧ ∃ B',h'.hp r = some B' ∧ B'.length = cs.length ∧ dfzL (dfz m h') B' = some (((mkL mk cnt l k).map T.row).flatten,R') ∧ (∀ q,q < h.nx → q ≠ r → q ∉ R' → h'.hp q = h.hp q) ∧ h.nx ≤ h'.nx:= by
      refine run_wp hst ?_
      simp only [go_sem,kSt_ptr,Nat.reduceBEq,Nat.reduceAdd,Nat.reduceEqDiff,Nat.reduceLeDiff,Nat.reduceSub,reduceIte,Int.reduceBEq,Int.reduceEq,Int.reduceLT,Int.reduceLE,Int.reduceGT,Int.reduceGE,Int.reduceNe,Int.reduceBNe,mkF]
      refine (mk_loop hb hf.1 m l [] cs 0 k R' _ h (by simp only [go_sem,kSt_ptr,Nat.reduceBEq,Nat.reduceAdd,Nat.reduceEqDiff,Nat.reduceLeDiff,Nat.reduceSub,reduceIte,Int.reduceBEq,Int.reduceEq,Int.reduceLT,Int.reduceLE,Int.reduceGT,Int.reduceGE,Int.reduceNe,Int.reduceBNe]) (by simp only [go_sem,kSt_ptr,Nat.reduceBEq,Nat.reduceAdd,Nat.reduceEqDiff,Nat.reduceLeDiff,Nat.reduceSub,reduceIte,Int.reduceBEq,Int.reduceEq,Int.reduceLT,Int.reduceLE,Int.reduceGT,Int.reduceGE,Int.reduceNe,Int.reduceBNe]) (by simp only [go_sem,kSt_ptr,Nat.reduceBEq,Nat.reduceAdd,Nat.reduceEqDiff,Nat.reduceLeDiff,Nat.reduceSub,reduceIte,Int.reduceBEq,Int.reduceEq,Int.reduceLT,Int.reduceLE,Int.reduceGT,Int.reduceGE,Int.reduceNe,Int.reduceBNe]) (by simp) hq (by simp) hcl hdz hnd.2 hnd.1 (fun q hq => hlt q (List.mem_cons_of_mem _ hq)) hrn hf.2 hk hk2).mono ?_
      rintro y e2 h2 ⟨rfl,g1,B',g2,g3,g4,g5,g6⟩
      have hz' : (4 = z) = False:= by simpa using fun e => hz e.symm
      simp only [go_sem,kSt_ptr,Nat.reduceBEq,Nat.reduceAdd,Nat.reduceEqDiff,Nat.reduceLeDiff,Nat.reduceSub,reduceIte,Int.reduceBEq,Int.reduceEq,Int.reduceLT,Int.reduceLE,Int.reduceGT,Int.reduceGE,Int.reduceNe,Int.reduceBNe,g1,hz']
      exact ⟨fun i e => (by cases e),_,rfl,h2,rfl,B',g2,g3,g4,g5,g6⟩
    obtain ⟨rr,h1,h',rfl,B',g2,g3,g4,g5,g6⟩:= hr
    refine ⟨h',h1,back ?_,fun q hq hqR => ?_,g6⟩
    · show dfz (m + 1) h' _ = _
      have hsz:= T.pos
      have hfl : (((mkL mk cnt l k).map T.row).flatten).length = l.length * T.sz:= by
        rw [flat_len (sz:= T.sz),List.length_map,mkL_len]
        exact T.rows_len _
      unfold dfz
      show (if 0 = 0 ∧ T.sz ≠ 0 then _ else _) = _
      rw [if_pos ⟨rfl,by omega⟩,g2,Option.bind_some,if_pos (by rw [g3,hcl]),g4,Option.map_some]
      have:= chunk_of_flat (T.rows_len (mkL mk cnt l k))
      rw [List.length_map,mkL_len] at this
      simp only [this,sliceT_enc]
    · rw [List.mem_cons,not_or] at hqR
      exact g5 q hq hqR.1 hqR.2
end Go.Ev
namespace Go.Ev
open Go Go.RowKit
section
variable {α : Type} {E : Env} {g : FuncId} {T : TD α} {mk : α → Int → α} {cnt : α → Nat} {d : Option Nat} {os : List SOper} {e : Ps} {h : Hp} {Q : QS}
theorem hP_mark {n : Nat} {v : α} {k : Int} {x : AV} {R : List Nat} (hm : MkS E g T mk cnt) (hf : T.fits v) (hk : 0 ≤ k) (hk2 : k + cnt v ≤ 4611686018427387904) (hz : dfzT n h x = some (T.enc v,R)) (hnd : R.Nodup) (hlt : ∀ q ∈ R,q < h.nx)
    (hw : ∀ h',dfzT n h' x = some (T.enc (mk v k),R) → (∀ q,q < h.nx → q ∉ R → h'.hp q = h.hp q) → h.nx ≤ h'.nx → hP (kThen (some (upd? e d (.int .i64 (k + cnt v)),h')) E (lim E) os) Q) :
    hP (kThen (kOper d (some true) (lim E g [x,.int .i64 k] h) e h) E (lim E) os) Q:= by
  obtain ⟨h',h1,h2,h3,h4⟩:= hm n v k x R h hf hk hk2 hz hnd hlt
  exact hP_call h1 (hw h' h2 h3 h4)
end
theorem dfzT_cell {n : Nat} {h : Hp} {x : AV} {l : List (List AV)} {R : List Nat} (hd : dfz n h x = some (.imm l,R)) : dfzT n h x = some (.imm l,R):= by
  unfold dfzT
  split
  · cases n <;> simp [dfz,leafF] at hd
  · exact hd
theorem dfzT_cell_inv {n : Nat} {h : Hp} {x : AV} {l : List (List AV)} {R : List Nat} (hd : dfzT n h x = some (.imm l,R)) : dfz n h x = some (.imm l,R):= by
  unfold dfzT at hd
  split at hd
  · simp only [Option.map_eq_some_iff,Prod.mk.injEq] at hd
    obtain ⟨_,_,e,_⟩:= hd
    cases e
  · exact hd
theorem dfzT_agg {n : Nat} {h : Hp} {xs ts : List AV} {R : List Nat} (hd : dfzL (dfz n h) xs = some (ts,R)) : dfzT n h (.agg xs) = some (.agg ts,R):= by
  simp only [dfzT,hd,Option.map_some]
theorem dfzT_agg_inv {n : Nat} {h : Hp} {x : AV} {ts : List AV} {R : List Nat} (hd : dfzT n h x = some (.agg ts,R)) : ∃ xs,x = .agg xs ∧ dfzL (dfz n h) xs = some (ts,R):= by
  unfold dfzT at hd
  split at hd
  · simp only [Option.map_eq_some_iff,Prod.mk.injEq,AV.agg.injEq] at hd
    obtain ⟨⟨us,R1⟩,h1,h2,h3⟩:= hd
    simp only at h2 h3
    subst h2;subst h3
    exact ⟨_,rfl,h1⟩
  · rename_i hx
    exfalso
    have base : ((leafF x).map fun t => (t,([] : List Nat))) = some (.agg ts,R) → False:= fun hd => by
      simp only [Option.map_eq_some_iff,Prod.mk.injEq] at hd
      obtain ⟨t',h1,rfl,_⟩:= hd
      have:= leafF_leaf h1
      simp [leafV] at this
    cases n with
    | zero => exact base hd
    | succ n =>
      unfold dfz at hd
      split at hd
      · split at hd
        · simp only [Option.bind_eq_some_iff] at hd
          obtain ⟨cs,_,hd⟩:= hd
          split at hd
          · simp only [Option.map_eq_some_iff,Prod.mk.injEq] at hd
            obtain ⟨_,_,e,_⟩:= hd
            cases e
          · cases hd
        · cases hd
      · exact base hd
theorem len1 {c : List AV} (h : c.length = 1) : ∃ c0,c = [c0]:= by
  match c,h with
  | [c0],_ => exact ⟨c0,rfl⟩
theorem len2 {c : List AV} (h : c.length = 2) : ∃ c0 c1,c = [c0,c1]:= by
  match c,h with
  | [c0,c1],_ => exact ⟨c0,c1,rfl⟩
theorem len3 {c : List AV} (h : c.length = 3) : ∃ c0 c1 c2,c = [c0,c1,c2]:= by
  match c,h with
  | [c0,c1,c2],_ => exact ⟨c0,c1,c2,rfl⟩
theorem len4 {c : List AV} (h : c.length = 4) : ∃ c0 c1 c2 c3,c = [c0,c1,c2,c3]:= by
  match c,h with
  | [c0,c1,c2,c3],_ => exact ⟨c0,c1,c2,c3,rfl⟩
theorem len5 {c : List AV} (h : c.length = 5) : ∃ c0 c1 c2 c3 c4,c = [c0,c1,c2,c3,c4]:= by
  match c,h with
  | [c0,c1,c2,c3,c4],_ => exact ⟨c0,c1,c2,c3,c4,rfl⟩
theorem len6 {c : List AV} (h : c.length = 6) : ∃ c0 c1 c2 c3 c4 c5,c = [c0,c1,c2,c3,c4,c5]:= by
  match c,h with
  | [c0,c1,c2,c3,c4,c5],_ => exact ⟨c0,c1,c2,c3,c4,c5,rfl⟩
section
variable {α : Type} {T : TD α} {mk : α → Int → α} {cnt : α → Nat}
theorem cntL_app (l m : List α) : cntL cnt (l ++ m) = cntL cnt l + cntL cnt m:= by
  induction l with
  | nil => simp [cntL]
  | cons v l ih => simp [cntL,ih];omega
theorem mkL_app (l m : List α) (k : Int) : mkL mk cnt (l ++ m) k = mkL mk cnt l k ++ mkL mk cnt m (k + cntL cnt l):= by
  induction l generalizing k with
  | nil => simp [cntL,mkL]
  | cons v l ih => simp [cntL,mkL,ih];congr 1;omega
theorem mkL_at {l pre rest : List α} {v : α} {k : Int} (hl : l = pre ++ v :: rest) (hm : mkL mk cnt l k = l) : mk v (k + cntL cnt pre) = v:= by
  subst hl
  rw [mkL_app] at hm
  have:= (List.append_inj hm (mkL_len _ _ _ _)).2
  simp only [mkL,List.cons.injEq] at this
  exact this.1
def HdB (E : Env) (body : SCode) (T : TD α) (mk : α → Int → α) (cnt : α → Nat) : Prop:=
  ∀ (l pre : List α) (v : α) (rest : List α) (k : Int) (e : Ps) (h : Hp),At l pre v rest → e 0 = .imm (l.map T.row) → e 5 = .int .i64 pre.length → e 1 = .int .i64 k → mk v k = v → T.fits v → 0 ≤ k → k + cnt v ≤ 4611686018427387904 →
    wp E body e h fun x e1 h1 => x = .norm ∧ e1 0 = .imm (l.map T.row) ∧ e1 5 = .int .i64 pre.length ∧ e1 1 = .int .i64 (k + cnt v)
noncomputable def hdC (T : TD α) (mk : α → Int → α) (cnt : α → Nat) : List AV → Option AV:= c2 T intT (fun v k => mk v k = v ∧ T.fits v ∧ 0 ≤ k ∧ k + cnt v ≤ 4611686018427387904) (.int .i64) fun v k => k + cnt v
theorem hdC_eq (v : α) (k : Int) (h1 : mk v k = v) (h2 : T.fits v) (h3 : 0 ≤ k) (h4 : k + cnt v ≤ 4611686018427387904) : hdC T mk cnt [T.enc v,.int .i64 k] = some (.int .i64 (k + cnt v)):= c2_eq T intT ⟨h1,h2,h3,h4⟩
theorem hdC_leaf (ts : List AV) (t : AV) (h : hdC T mk cnt ts = some t) : leafT t = true:= by
  unfold hdC c2 at h
  obtain ⟨a,_,_,rfl⟩:= ct_inv h
  rfl
theorem hdS_ok {E : Env} {WI : World → Prop} (hT : TOK E WI) (hs : Stable WI) {body : SCode} {nt z : Nat} {g : FuncId} (hst : stF E g = some (mkF nt z body)) (hz : z ≠ 4) (hb : HdB E body T mk cnt) : ReadOK E.P WI g (hdC (sliceT T) (mkL mk cnt) (cntL cnt)):= by
  refine ⟨pure2 (E:= E) hT hs (by rw [hst];rfl) fun l k hp => out_wp (n:= 0) hst ?_,hdC_leaf⟩
  obtain ⟨hm,hf,hk,hk2⟩:= hp
  simp only [go_sem,kSt_ptr,Nat.reduceBEq,Nat.reduceAdd,Nat.reduceEqDiff,Nat.reduceLeDiff,Nat.reduceSub,reduceIte,Int.reduceBEq,Int.reduceEq,Int.reduceLT,Int.reduceLE,Int.reduceGT,Int.reduceGE,Int.reduceNe,Int.reduceBNe,mkF]
  · refine (wl_for (l:= l) (fun pre e h => e 0 = .imm (l.map T.row) ∧ e 1 = .int .i64 (k + cntL cnt pre) ∧ e 5 = .int .i64 pre.length) (.exit 0) (fun e h => e 1 = .int .i64 (k + cntL cnt l)) hf.1 ?_ ?_ (by simp) l [] _ _ rfl ?_).mono ?_
    · rintro pre v rest e h a ⟨q0,q1,q2⟩
      have hv:= mkL_at a.hl hm
      have hc : cntL cnt l = cntL cnt pre + (cnt v + cntL cnt rest):= by rw [a.hl,cntL_app];rfl
      have hc2 : cntL cnt (pre ++ [v]) = cntL cnt pre + cnt v:= by rw [cntL_app];simp [cntL]
      simp only [go_sem,kSt_ptr,Nat.reduceBEq,Nat.reduceAdd,Nat.reduceEqDiff,Nat.reduceLeDiff,Nat.reduceSub,reduceIte,Int.reduceBEq,Int.reduceEq,Int.reduceLT,Int.reduceLE,Int.reduceGT,Int.reduceGE,Int.reduceNe,Int.reduceBNe,mkLoop,mkHead,q0,q2,a.dl]
      refine wp_up (hb l pre v rest (k + cntL cnt pre) _ _ a (by simp only [go_sem,kSt_ptr,Nat.reduceBEq,Nat.reduceAdd,Nat.reduceEqDiff,Nat.reduceLeDiff,Nat.reduceSub,reduceIte,Int.reduceBEq,Int.reduceEq,Int.reduceLT,Int.reduceLE,Int.reduceGT,Int.reduceGE,Int.reduceNe,Int.reduceBNe,q0]) (by simp only [go_sem,kSt_ptr,Nat.reduceBEq,Nat.reduceAdd,Nat.reduceEqDiff,Nat.reduceLeDiff,Nat.reduceSub,reduceIte,Int.reduceBEq,Int.reduceEq,Int.reduceLT,Int.reduceLE,Int.reduceGT,Int.reduceGE,Int.reduceNe,Int.reduceBNe,q2]) (by simp only [go_sem,kSt_ptr,Nat.reduceBEq,Nat.reduceAdd,Nat.reduceEqDiff,Nat.reduceLeDiff,Nat.reduceSub,reduceIte,Int.reduceBEq,Int.reduceEq,Int.reduceLT,Int.reduceLE,Int.reduceGT,Int.reduceGE,Int.reduceNe,Int.reduceBNe,q1]) hv (hf.2 v a.mem) (by omega) (by omega)) ?_
      rintro x e1 h1 ⟨rfl,g0,g5,g1⟩
      simp only [go_sem,kSt_ptr,Nat.reduceBEq,Nat.reduceAdd,Nat.reduceEqDiff,Nat.reduceLeDiff,Nat.reduceSub,reduceIte,Int.reduceBEq,Int.reduceEq,Int.reduceLT,Int.reduceLE,Int.reduceGT,Int.reduceGE,Int.reduceNe,Int.reduceBNe,mkInc,g0,g5,g1,a.hw,hc2]
      simp
      omega
    · rintro e h ⟨q0,q1,q2⟩
      simp only [go_sem,kSt_ptr,Nat.reduceBEq,Nat.reduceAdd,Nat.reduceEqDiff,Nat.reduceLeDiff,Nat.reduceSub,reduceIte,Int.reduceBEq,Int.reduceEq,Int.reduceLT,Int.reduceLE,Int.reduceGT,Int.reduceGE,Int.reduceNe,Int.reduceBNe,mkLoop,mkHead,q0,q1,q2]
    · simp only [go_sem,kSt_ptr,Nat.reduceBEq,Nat.reduceAdd,Nat.reduceEqDiff,Nat.reduceLeDiff,Nat.reduceSub,reduceIte,Int.reduceBEq,Int.reduceEq,Int.reduceLT,Int.reduceLE,Int.reduceGT,Int.reduceGE,Int.reduceNe,Int.reduceBNe,cntL]
      simp
    · rintro x e h ⟨rfl,j⟩
      have hz' : (4 = z) = False:= by simpa using fun e => hz e.symm
      simp only [go_sem,kSt_ptr,Nat.reduceBEq,Nat.reduceAdd,Nat.reduceEqDiff,Nat.reduceLeDiff,Nat.reduceSub,reduceIte,Int.reduceBEq,Int.reduceEq,Int.reduceLT,Int.reduceLE,Int.reduceGT,Int.reduceGE,Int.reduceNe,Int.reduceBNe,j,hz']
end
end Go.Ev
namespace Go.Ev
open Go Go.RowKit
def OwE (h : Hp) (x t : AV) : Prop:= ∃ R,dfzE 8 h x = some (t,R) ∧ R.Nodup
def owP (h : Hp) (t : AV) : Option AV → Prop
  | some v => OwE h v t
  | none => False
theorem owP_some (h : Hp) (t v : AV) : owP h t (some v) = OwE h v t:= rfl
def QW (rs : List SRes) (t : AV) : QS:= fun x e h => (∀ i,x ≠ .exit i) ∧ owP h t ((sRes e h rs).map evResult)
theorem QW_ret {e : Ps} {h : Hp} (rs : List SRes) (t : AV) : QW rs t .ret e h = owP h t ((sRes e h rs).map evResult):= by simp [QW]
theorem QW_norm {e : Ps} {h : Hp} (rs : List SRes) (t : AV) : QW rs t .norm e h = owP h t ((sRes e h rs).map evResult):= by simp [QW]
attribute [go_sem] QW_ret QW_norm owP_some
def HandsO (E : Env) (g : FuncId) (args : List AV) (t : AV) : Prop:= ∃ k x h',(sev E k).1 g args Hp.empty = some (x,h') ∧ OwE h' x t
theorem outO_wp {E : Env} {g : FuncId} {f : SFn} {args : List AV} {t : AV} (hf : stF E g = some f) (hw : wp E f.body (fun i => args.getD i (.tup [])) Hp.empty (QW f.res t)) : HandsO E g args t:= by
  obtain ⟨⟨x,h'⟩,⟨k,hk⟩,hr⟩:= run_wp (R:= fun r => OwE r.2 r.1 t) hf (wp_up hw fun x e h ⟨h1,h2⟩ => ⟨h1,by
    cases hs : (sRes e h f.res).map evResult with
    | none => rw [hs] at h2;exact h2.elim
    | some v => rw [hs] at h2;exact ⟨v,rfl,h2⟩⟩)
  exact ⟨k,x,h',hk,hr⟩
theorem own_ct {E : Env} {WI : World → Prop} (hT : TOK E WI) (hs : Stable WI) {g : FuncId} (hst : (stF E g).isSome = true) {σ β : Type} {ens : σ → List AV} {p : σ → Prop} {o : β → AV} {f : σ → β}
    (h : ∀ a,p a → HandsO E g (ens a) (o (f a))) : OwnOK E.P WI g (ct ens p o f):=
  own_of_sev hT hs hst fun ts t ht => by
    obtain ⟨a,hp,rfl,rfl⟩:= ct_inv ht
    obtain ⟨k,x,h',h1,R,h2,h3⟩:= h a hp
    exact ⟨k,x,h',R,h1,h2,h3⟩
section
variable {α β γ δ ε : Type} {E : Env} {WI : World → Prop} {g : FuncId} {T : TD α} {U : TD β} {V : TD γ} {X : TD δ}
theorem own1 (hT : TOK E WI) (hs : Stable WI) (hst : (stF E g).isSome = true) {p : α → Prop} {o : ε → AV} {f : α → ε} (h : ∀ a,p a → HandsO E g [T.enc a] (o (f a))) : OwnOK E.P WI g (c1 T p o f):= own_ct hT hs hst h
theorem own2 (hT : TOK E WI) (hs : Stable WI) (hst : (stF E g).isSome = true) {p : α → β → Prop} {o : ε → AV} {f : α → β → ε} (h : ∀ a b,p a b → HandsO E g [T.enc a,U.enc b] (o (f a b))) : OwnOK E.P WI g (c2 T U p o f):= own_ct hT hs hst fun a hp => h a.1 a.2 hp
theorem own3 (hT : TOK E WI) (hs : Stable WI) (hst : (stF E g).isSome = true) {p : α → β → γ → Prop} {o : ε → AV} {f : α → β → γ → ε} (h : ∀ a b c,p a b c → HandsO E g [T.enc a,U.enc b,V.enc c] (o (f a b c))) : OwnOK E.P WI g (c3 T U V p o f):= own_ct hT hs hst fun a hp => h a.1 a.2.1 a.2.2 hp
end
theorem RA.ov {w : World} {C : Nat → Nat → Prop} {B : Nat} {v : Value} {t : AV} (hr : RA w C v t) (hl : leafT t = true) : OwnV w B v t:= by
  have each : ∀ (l : List Value) (ts : List AV),l.length = ts.length → (∀ (i : Nat) v c,l[i]? = some v → ts[i]? = some c → RA w C v c) → ts.all Ev.leafV = true → OV w B l ts []:= by
    intro l
    induction l with
    | nil =>
      intro ts hl _ _
      have : ts = []:= List.eq_nil_of_length_eq_zero hl.symm
      subst this
      exact .nil
    | cons v l ih =>
      intro ts hl hv ha
      cases ts with
      | nil => simp at hl
      | cons t ts =>
        simp only [List.all_cons,Bool.and_eq_true] at ha
        refine .leaf ?_ ha.1 (ih ts (by simpa using hl) (fun i v c hi hc => hv (i + 1) v c (by simpa using hi) (by simpa using hc)) ha.2)
        have:= (hv 0 v t rfl rfl).leafV (C':= fun _ _ => False) (g':= ⟨fun _ => 0,fun _ => 0,fun _ => (none,0),fun _ => .no⟩) (h':= Hp.empty) ha.1
        cases this with
        | ri h => exact h
        | _ => simp [Ev.leafV] at ha
  refine ⟨[],List.nodup_nil,?_⟩
  cases t with
  | tup ts =>
    obtain ⟨arr,rfl,k1,k2⟩:= RV.tup_inv hr
    exact .inl ⟨arr,ts,rfl,rfl,each arr.toList ts (by simpa using k1) (fun i v c hi hc => k2 i v c (by simpa using hi) hc) hl⟩
  | agg cs =>
    obtain ⟨arr,rfl,k1,k2,k3⟩:= RV.agg_inv hr
    have:= each arr.toList cs (by simpa using k1) (fun i v c hi hc => k3 i v c (by simpa using hi) hc) hl
    have h2:= OV.agg (vs:= []) (ts:= []) (bs:= []) arr cs [] k2 this .nil
    exact .inr h2
  | _ =>
    simp only [leafT] at hl
    have h2:= hl
    refine .inr (.leaf ?_ h2 .nil)
    have:= hr.leafV (C':= fun _ _ => False) (g':= ⟨fun _ => 0,fun _ => 0,fun _ => (none,0),fun _ => .no⟩) (h':= Hp.empty) h2
    cases this with
    | ri h => exact h
    | _ => simp [Ev.leafV] at h2
theorem PureOK.own {P : Program} {WI : World → Prop} {f : FuncId} {F : List AV → Option AV} (h : PureOK P WI f F) (hl : ∀ ts t,F ts = some t → leafT t = true) : OwnOK P WI f F:=
  ⟨h.1,fun w C vs ts t hwi hsz ha ht => (h.2 w C vs ts t hwi hsz ha ht).mono fun e w' ⟨v,h1,h2,h3⟩ => ⟨v,h1,h2,h3.ov (hl ts t ht)⟩⟩
structure OwI (n lo hi : Nat) (h : Hp) (x t : AV) : Prop where
  ex : ∃ R,dfzT n h x = some (t,R) ∧ R.Nodup ∧ ∀ q ∈ R,lo ≤ q ∧ q < hi
  le : hi ≤ h.nx
theorem OwI.mono {n lo hi : Nat} {h h' : Hp} {x t : AV} (o : OwI n lo hi h x t) (hn : h.nx ≤ h'.nx) (hp : ∀ q,lo ≤ q → q < hi → h'.hp q = h.hp q) : OwI n lo hi h' x t:= by
  obtain ⟨R,h1,h2,h3⟩:= o.ex
  exact ⟨⟨R,dfzT_frame (S:= R) (fun r hr => hp r (h3 r hr).1 (h3 r hr).2) h1 fun _ hr => hr,h2,h3⟩,Nat.le_trans o.le hn⟩
theorem OwI.frz {n lo hi : Nat} {h : Hp} {x t : AV} (o : OwI n lo hi h x t) (hn : n ≤ 8) : frzT 8 h x = some t:= by
  obtain ⟨R,h1,_,_⟩:= o.ex
  exact dfzT_frz (dfzT_up hn h1)
theorem OwI.wide {n lo hi lo' hi' : Nat} {h : Hp} {x t : AV} (o : OwI n lo hi h x t) (h1 : lo' ≤ lo) (h2 : hi ≤ hi') (h3 : hi' ≤ h.nx) : OwI n lo' hi' h x t:= by
  obtain ⟨R,k1,k2,k3⟩:= o.ex
  exact ⟨⟨R,k1,k2,fun q hq => ⟨Nat.le_trans h1 (k3 q hq).1,Nat.lt_of_lt_of_le (k3 q hq).2 h2⟩⟩,h3⟩
section
variable {E : Env} {c : CallH} {F : List AV → Option AV} {d : Option Nat} {args ts ls : List AV} {t : AV} {os : List SOper} {e : Ps} {h : Hp} {Q : QS}
theorem dthE_one {n : Nat} (ht : ∀ vs,t ≠ .tup vs) : dthE n t h = dthT n t h:= by
  unfold dthE
  split
  · exact absurd rfl (ht _)
  · rfl
theorem okT_noTup {n : Nat} (h : okT n t) : ∀ vs,t ≠ .tup vs:= by
  rintro vs rfl
  rcases h with ⟨_,e,_⟩ | ⟨_,h⟩
  · cases e
  · cases n with
    | zero => simp [okV,leafV] at h
    | succ n =>
      rcases h with h | ⟨_,_,e,_⟩
      · simp [leafV] at h
      · cases e
theorem owI_of {n : Nat} {x : AV} {h' : Hp} {R : List Nat} (h2 : Ow n h' x t R) (h3 : Tk h R h') : OwI n h.nx h'.nx h' x t:= ⟨⟨R,h2.z,h2.nd,fun q hq => h3.lo q hq⟩,Nat.le_refl _⟩
theorem hP_own {n : Nat} (ha : mapO (frzT 8 h) args = some ts) (hf : F ts = some t) (ht : okT n t) (hn : n ≤ 8)
    (hw : ∀ x h',OwI n h.nx h'.nx h' x t → (∀ q,q < h.nx → h'.hp q = h.hp q) → h'.ap = h.ap → h.nx ≤ h'.nx → hP (kThen (some (upd? e d x,h')) E c os) Q) : hP (kThen (kOper d (some true) (deepC F true args h) e h) E c os) Q:= by
  obtain ⟨x,h',R,h1,h2,h3⟩:= dthT_spec n t h ht
  have : deepC F true args h = some (x,h'):= by
    simp only [deepC,ha,hf,Option.bind_some,if_true,dthE_one (okT_noTup ht),dthT_low ht hn,h1]
  rw [this,kOper_go]
  exact hw x h' (owI_of h2 h3) h3.hp h3.ap h3.nx
theorem dthL_leafs {n : Nat} : ∀ {ls : List AV} {h : Hp},ls.all leafV = true → dthL (dthT n) ls h = some (ls,h)
  | [],h,_ => rfl
  | l :: ls,h,hl => by
    simp only [List.all_cons,Bool.and_eq_true] at hl
    have h1 : dthT n l h = some (l,h):= by
      unfold dthT
      split
      · simp [leafV] at hl
      · cases n with
        | zero => simp only [dth,hl.1,if_true]
        | succ n =>
          unfold dth
          split
          · simp [leafV] at hl
          · rw [if_pos hl.1]
    simp only [dthL,h1,dthL_leafs hl.2,Option.bind_some,Option.map_some]
theorem hP_ownT {n : Nat} (ha : mapO (frzT 8 h) args = some ts) (hf : F ts = some (.tup (t :: ls))) (ht : okT n t) (hn : n ≤ 8) (hl : ls.all leafV = true)
    (hw : ∀ x h',OwI n h.nx h'.nx h' x t → (∀ q,q < h.nx → h'.hp q = h.hp q) → h'.ap = h.ap → h.nx ≤ h'.nx → hP (kThen (some (upd? e d (.tup (x :: ls)),h')) E c os) Q) : hP (kThen (kOper d (some true) (deepC F true args h) e h) E c os) Q:= by
  obtain ⟨x,h',R,h1,h2,h3⟩:= dthT_spec n t h ht
  have : deepC F true args h = some (.tup (x :: ls),h'):= by
    simp only [deepC,ha,hf,Option.bind_some,if_true,dthE,dthL,dthT_low ht hn,h1,dthL_leafs hl,Option.map_some]
  rw [this,kOper_go]
  exact hw x h' (owI_of h2 h3) h3.hp h3.ap h3.nx
theorem hP_read (ha : mapO (frzT 8 h) args = some ts) (hf : F ts = some t) (hw : hP (kThen (some (upd? e d t,h)) E c os) Q) : hP (kThen (kOper d (some true) (deepC F false args h) e h) E c os) Q:= by
  have : deepC F false args h = some (t,h):= by
    simp only [deepC,ha,hf,Option.bind_some,Bool.false_eq_true,if_false]
  rw [this,kOper_go]
  exact hw
theorem mapO1 {f : AV → Option AV} {x t : AV} (h1 : f x = some t) : mapO f [x] = some [t]:= by simp [mapO,h1]
theorem mapO2 {f : AV → Option AV} {x t y u : AV} (h1 : f x = some t) (h2 : f y = some u) : mapO f [x,y] = some [t,u]:= by simp [mapO,h1,h2]
theorem mapO3 {f : AV → Option AV} {x t y u z v : AV} (h1 : f x = some t) (h2 : f y = some u) (h3 : f z = some v) : mapO f [x,y,z] = some [t,u,v]:= by simp [mapO,h1,h2,h3]
theorem deepC_false (h : Hp) : deepC F false args h = (mapO (frzT 8 h) args).bind fun ts => (F ts).bind fun t => some (t,h):= rfl
end
section
variable {α : Type} {E : Env} {g : FuncId} {T : TD α} {mk : α → Int → α} {cnt : α → Nat} {d : Option Nat} {os : List SOper} {e : Ps} {h : Hp} {Q : QS}
theorem hP_markI {n lo hi : Nat} {v : α} {k : Int} {x : AV} (hm : MkS E g T mk cnt) (hf : T.fits v) (hk : 0 ≤ k) (hk2 : k + cnt v ≤ 4611686018427387904) (ho : OwI n lo hi h x (T.enc v))
    (hw : ∀ h',OwI n lo hi h' x (T.enc (mk v k)) → (∀ q,(q < lo ∨ hi ≤ q) → q < h.nx → h'.hp q = h.hp q) → h.nx ≤ h'.nx → hP (kThen (some (upd? e d (.int .i64 (k + cnt v)),h')) E (lim E) os) Q) :
    hP (kThen (kOper d (some true) (lim E g [x,.int .i64 k] h) e h) E (lim E) os) Q:= by
  obtain ⟨R,h1,h2,h3⟩:= ho.ex
  refine hP_mark hm hf hk hk2 h1 h2 (fun q hq => Nat.lt_of_lt_of_le (h3 q hq).2 ho.le) fun h' k1 k2 k3 => hw h' ⟨⟨R,k1,h2,h3⟩,Nat.le_trans ho.le k3⟩ (fun q hq hq2 => k2 q hq2 fun hr => ?_) k3
  have:= h3 q hr
  omega
end
theorem hP_markC {β : Type} {E : Env} {g : FuncId} {U : TD β} {mk : β → Int → β} {cnt : β → Nat} {d : Option Nat} {os : List SOper} {e : Ps} {h : Hp} {Q : QS} {m : Nat} {l : List β} {k : Int} {c : AV} {R : List Nat} (hm : MkS E g (sliceT U) (mkL mk cnt) (cntL cnt)) (hf : (sliceT U).fits l) (hk : 0 ≤ k) (hk2 : k + ((cntL cnt l : Nat) : Int) ≤ 4611686018427387904)
    (hd : dfz m h c = some (.imm (l.map U.row),R)) (hnd : R.Nodup) (hlt : ∀ q ∈ R,q < h.nx)
    (hw : ∀ h',dfz m h' c = some (.imm ((mkL mk cnt l k).map U.row),R) → (∀ q,q < h.nx → q ∉ R → h'.hp q = h.hp q) → h.nx ≤ h'.nx → hP (kThen (some (upd? e d (.int .i64 (k + ((cntL cnt l : Nat) : Int))),h')) E (lim E) os) Q) :
    hP (kThen (kOper d (some true) (lim E g [c,.int .i64 k] h) e h) E (lim E) os) Q:=
  hP_mark hm hf hk hk2 (dfzT_cell hd) hnd hlt fun h' k1 k2 k3 => hw h' (dfzT_cell_inv k1) k2 k3
section
variable {α : Type} {T : TD α} {E : Env} {WI : World → Prop} {f g : FuncId}
theorem eqC_leaf (ts : List AV) (t : AV) (h : eqC T ts = some t) : leafT t = true:= by
  unfold eqC at h
  obtain ⟨a,_,_,rfl⟩:= ct_inv h
  rfl
theorem dfzL_leafs {n : Nat} {h : Hp} : ∀ {l : List AV},(∀ c ∈ l,leafV c = true) → dfzL (dfz n h) l = some (l,[])
  | [],_ => rfl
  | c :: l,hl => by
    have:= dfzL_leafs (n:= n) (h:= h) fun d hd => hl d (List.mem_cons_of_mem _ hd)
    simp only [dfzL,dfz_of_leaf (hl c List.mem_cons_self),this,Option.bind_some,Option.map_some,List.nil_append]
theorem TD.leafs (hd : T.dep = 0) {n : Nat} {h : Hp} (l : List α) : dfzL (dfz n h) (l.map T.row).flatten = some ((l.map T.row).flatten,[]):=
  dfzL_leafs fun c hc => by
    obtain ⟨row,hr,hc⟩:= List.mem_flatten.1 hc
    obtain ⟨v,_,rfl⟩:= List.mem_map.1 hr
    have:= T.okd v c hc
    rw [hd] at this
    exact this
theorem dfzT_tup {n : Nat} {h : Hp} {x t : AV} {R : List Nat} (hd : dfzT n h x = some (t,R)) : ∀ vs,x ≠ .tup vs:= by
  rintro vs rfl
  cases n <;> simp [dfzT,dfz,leafF] at hd
theorem dfzE_T {n : Nat} {h : Hp} {x t : AV} {R : List Nat} (hd : dfzT n h x = some (t,R)) : dfzE n h x = some (t,R):= by
  have hx:= dfzT_tup hd
  unfold dfzE
  split
  · exact absurd rfl (hx _)
  · exact hd
theorem OwI.owE {n lo hi : Nat} {h : Hp} {x t : AV} (o : OwI n lo hi h x t) (hn : n ≤ 8) : OwE h x t:= by
  obtain ⟨R,h1,h2,_⟩:= o.ex
  exact ⟨R,dfzE_up hn (dfzE_T h1),h2⟩
theorem OwI.owE_tb {n lo hi : Nat} {h : Hp} {x t : AV} (o : OwI n lo hi h x t) (hn : n ≤ 8) (b : Bool) : OwE h (.tup [x,.bool b]) (.tup [t,.bool b]):= by
  obtain ⟨R,h1,h2,_⟩:= o.ex
  refine ⟨R,?_,h2⟩
  have hb : dfzT 8 h (.bool b) = some (.bool b,[]):= rfl
  simp only [dfzE,dfzL,dfzT_up hn h1,hb,Option.bind_some,Option.map_some,List.append_nil]
theorem dfz_block {n : Nat} {h : Hp} {r : Nat} {cs : List AV} {l : List α} {R : List Nat} (hr : h.hp r = some cs) (hl : cs.length = l.length * T.sz) (hd : dfzL (dfz n h) cs = some ((l.map T.row).flatten,R)) : dfz (n + 1) h (.sl r 0 l.length T.sz) = some (.imm (l.map T.row),r :: R):= by
  have hsz:= T.pos
  unfold dfz
  show (if 0 = 0 ∧ T.sz ≠ 0 then _ else _) = _
  rw [if_pos ⟨rfl,by omega⟩,hr,Option.bind_some,if_pos hl,hd,Option.map_some]
  have:= chunk_of_flat (T.rows_len l)
  rw [List.length_map] at this
  simp only [this]
end
structure OwS {α : Type} (n : Nat) (T : TD α) (lo hi : Nat) (l : List α) (x : AV) (h : Hp) : Prop where
  lh : lo ≤ hi
  le : hi ≤ h.nx
  ex : (x = .snil ∧ l = []) ∨ ∃ r cs R,x = .sl r 0 l.length T.sz ∧ h.hp r = some cs ∧ cs.length = l.length * T.sz ∧ dfzL (dfz n h) cs = some ((l.map T.row).flatten,R) ∧ (r :: R).Nodup ∧ ∀ q ∈ r :: R,lo ≤ q ∧ q < hi
section
variable {α : Type} {T : TD α} {n lo hi : Nat} {l : List α} {x y : AV} {h h' : Hp}
theorem OwS.nil (n : Nat) (T : TD α) {lo hi : Nat} {h : Hp} (h1 : lo ≤ hi) (h2 : hi ≤ h.nx) : OwS n T lo hi [] .snil h:= ⟨h1,h2,.inl ⟨rfl,rfl⟩⟩
theorem OwS.lit (n : Nat) (T : TD α) {h : Hp} : OwS n T h.nx (h.nx + 1) [] (.sl h.nx 0 0 T.sz) (h.new []):=
  ⟨by omega,Nat.le_refl _,.inr ⟨h.nx,[],[],rfl,by simp [Hp.new],by simp,rfl,by simp,fun q hq => by simp at hq;omega⟩⟩
theorem OwS.wide {lo' hi' : Nat} (o : OwS n T lo hi l x h) (h1 : lo' ≤ lo) (h2 : hi ≤ hi') (h3 : hi' ≤ h.nx) : OwS n T lo' hi' l x h:= by
  refine ⟨by have:= o.lh;omega,h3,?_⟩
  rcases o.ex with h0 | ⟨r,cs,R,k1,k2,k3,k4,k5,k6⟩
  · exact .inl h0
  · exact .inr ⟨r,cs,R,k1,k2,k3,k4,k5,fun q hq => by have:= k6 q hq;omega⟩
theorem OwS.mono (o : OwS n T lo hi l x h) (hn : h.nx ≤ h'.nx) (hp : ∀ q,lo ≤ q → q < hi → h'.hp q = h.hp q) : OwS n T lo hi l x h':= by
  refine ⟨o.lh,Nat.le_trans o.le hn,?_⟩
  rcases o.ex with h0 | ⟨r,cs,R,k1,k2,k3,k4,k5,k6⟩
  · exact .inl h0
  · refine .inr ⟨r,cs,R,k1,by rw [hp r (k6 r List.mem_cons_self).1 (k6 r List.mem_cons_self).2,k2],k3,?_,k5,k6⟩
    exact dfzL_frame (S:= R) (fun hd hs => dfz_frame (S:= R) (fun q hq => hp q (k6 q (List.mem_cons_of_mem _ hq)).1 (k6 q (List.mem_cons_of_mem _ hq)).2) n hd hs) k4 fun _ hq => hq
theorem OwS.dfz (o : OwS n T lo hi l x h) : ∃ R,Ev.dfz (n + 1) h x = some (.imm (l.map T.row),R) ∧ R.Nodup ∧ ∀ q ∈ R,lo ≤ q ∧ q < hi:= by
  rcases o.ex with ⟨rfl,rfl⟩ | ⟨r,cs,R,rfl,k2,k3,k4,k5,k6⟩
  · exact ⟨[],rfl,List.nodup_nil,fun q hq => (by cases hq)⟩
  · exact ⟨r :: R,dfz_block k2 k3 k4,k5,k6⟩
theorem OwS.owI (o : OwS n T lo hi l x h) : OwI (n + 1) lo hi h x (.imm (l.map T.row)):= by
  obtain ⟨R,h1,h2,h3⟩:= o.dfz
  exact ⟨⟨R,dfzT_cell h1,h2,h3⟩,o.le⟩
theorem OwS.lenL (o : OwS n T lo hi l x h) (h2 : Hp) : kLenL x h2 = some (.int .i64 l.length,h2):= by
  rcases o.ex with ⟨rfl,rfl⟩ | ⟨r,cs,R,rfl,k2,k3,k4,k5,k6⟩
  · rfl
  · rfl
theorem owS_app {bt : Nat} {more : List α} {rows : List (List AV)} {Rm : List Nat} (o : OwS n T lo hi l x h) (hx : rowsIn h T.sz y = some rows) (hlen : rows.length = more.length) (hhl : ∀ row ∈ rows,row.length = T.sz) (hd : dfzL (Ev.dfz n h) rows.flatten = some ((more.map T.row).flatten,Rm)) (hnd : Rm.Nodup)
    (hRm : ∀ q ∈ Rm,hi ≤ q ∧ q < h.nx) (hb : (l.length + more.length) * bt ≤ room) :
    ∃ x' h',sApp true bt T.sz x y h = some (x',h') ∧ OwS n T lo h'.nx (l ++ more) x' h' ∧ h.nx ≤ h'.nx ∧ (∀ q,(q < lo ∨ hi ≤ q) → q < h.nx → h'.hp q = h.hp q) ∧ h'.ap = h.ap:= by
  have hh : headLen T.sz rows = true:= by
    cases rows with
    | nil => rfl
    | cons v r => simp [headLen,hhl v List.mem_cons_self]
  have hlo:= o.lh
  have hle:= o.le
  have hfl:= flat_len hhl
  rcases o.ex with ⟨rfl,rfl⟩ | ⟨r,cs,R,rfl,k2,k3,k4,k5,k6⟩
  · cases rows with
    | nil =>
      have : more = []:= List.eq_nil_of_length_eq_zero (by simpa using hlen.symm)
      subst this
      exact ⟨.snil,h,by simp [sApp,hx,headLen],⟨by omega,Nat.le_refl _,.inl ⟨rfl,rfl⟩⟩,Nat.le_refl _,fun _ _ _ => rfl,rfl⟩
    | cons a rs =>
      simp only [List.length_nil,Nat.zero_add] at hb
      refine ⟨.sl h.nx 0 more.length T.sz,h.new (a :: rs).flatten,?_,⟨by simp only [Hp.new];omega,Nat.le_refl _,.inr ⟨h.nx,(a :: rs).flatten,Rm,rfl,by simp [Hp.new],by rw [hfl,hlen];rfl,?_,List.nodup_cons.2 ⟨fun hm => by have:= (hRm _ hm).2;omega,hnd⟩,fun q hq => ?_⟩⟩,by simp [Hp.new],fun q _ hq => by simp only [Hp.new];rw [if_neg (by omega)],rfl⟩
      · have he : (a :: rs).isEmpty = false:= rfl
        have hl2 : (a :: rs).length = more.length:= hlen
        simp only [sApp,hx,Option.bind_some,hh,if_true,he,hl2,hb,Bool.false_eq_true,if_false]
      · exact dfzL_frame (S:= Rm) (fun hd hs => dfz_frame (S:= Rm) (fun q hq => by simp only [Hp.new];rw [if_neg (by have:= (hRm q hq).2;omega)]) n hd hs) hd fun _ hq => hq
      · simp only [Hp.new]
        rcases List.mem_cons.1 hq with rfl | hq
        · omega
        · have:= hRm q hq;omega
  · have hr:= k6 r List.mem_cons_self
    rw [List.nodup_cons] at k5
    have hkn : ((h.kill r).new (cs ++ rows.flatten)).nx = h.nx + 1:= rfl
    have hold : ∀ q,q < h.nx → q ≠ r → ((h.kill r).new (cs ++ rows.flatten)).hp q = h.hp q:= fun q hq hqr => by
      show (if q = h.nx then _ else _) = _
      rw [if_neg (by omega)]
      show (if q = r then _ else _) = _
      rw [if_neg hqr]
    have hnew : ((h.kill r).new (cs ++ rows.flatten)).hp h.nx = some (cs ++ rows.flatten):= by
      show (if h.nx = h.nx then _ else _) = _
      rw [if_pos rfl]
    refine ⟨.sl h.nx 0 (l.length + more.length) T.sz,(h.kill r).new (cs ++ rows.flatten),?_,⟨by rw [hkn];omega,Nat.le_refl _,.inr ⟨h.nx,cs ++ rows.flatten,R ++ Rm,by rw [List.length_append],hnew,by rw [List.length_append,List.length_append,hfl,hlen,k3,Nat.add_mul],?_,List.nodup_cons.2 ⟨fun hm => ?_,List.nodup_append.2 ⟨k5.2,hnd,fun a ha b hb' e => ?_⟩⟩,fun q hq => ?_⟩⟩,by rw [hkn];omega,fun q hq hq2 => hold q hq2 (by omega),rfl⟩
    · simp only [sApp,hx,Option.bind_some,hh,if_true,k2,hlen]
      rw [if_pos ⟨trivial,trivial,trivial⟩,if_pos ⟨k3,hb⟩]
    · rw [List.map_append,List.flatten_append]
      refine dfzL_app (dfzL_frame (S:= R) (fun hd hs => dfz_frame (S:= R) (fun q hq => ?_) n hd hs) k4 fun _ hq => hq) (dfzL_frame (S:= Rm) (fun hd hs => dfz_frame (S:= Rm) (fun q hq => ?_) n hd hs) hd fun _ hq => hq)
      · have:= k6 q (List.mem_cons_of_mem _ hq)
        exact hold q (by omega) fun e => k5.1 (e ▸ hq)
      · have:= hRm q hq
        exact hold q (by omega) (by omega)
    · rcases List.mem_append.1 hm with hm | hm
      · have:= k6 _ (List.mem_cons_of_mem _ hm);omega
      · have:= hRm _ hm;omega
    · subst e
      have h1:= k6 a (List.mem_cons_of_mem _ ha)
      have h2:= hRm a hb'
      omega
    · rw [hkn]
      rcases List.mem_cons.1 hq with rfl | hq
      · omega
      rcases List.mem_append.1 hq with hm | hm
      · have:= k6 _ (List.mem_cons_of_mem _ hm);omega
      · have:= hRm _ hm;omega
theorem hP_growL {E : Env} {c : CallH} {bt s : Nat} {d : Option Nat} {os : List SOper} {e : Ps} {Q : QS} (more : List α) (hs : s = T.sz) (hd0 : T.dep = 0) (o : OwS n T lo hi l x h) (hx : rowsIn h T.sz y = some (more.map T.row)) (hb : (l.length + more.length) * bt ≤ room)
    (hw : ∀ x' h',OwS n T lo h'.nx (l ++ more) x' h' → h.nx ≤ h'.nx → (∀ q,(q < lo ∨ hi ≤ q) → q < h.nx → h'.hp q = h.hp q) → h'.ap = h.ap → hP (kThen (some (upd? e d x',h')) E c os) Q) : hP (kThen (kOper d (some true) (sApp true bt s x y h) e h) E c os) Q:= by
  subst hs
  obtain ⟨x',h',h1,h2,h3,h4,h5⟩:= owS_app (bt:= bt) (more:= more) o hx (by simp) (T.rows_len more) (TD.leafs hd0 more) List.nodup_nil (fun q hq => (by cases hq)) hb
  rw [h1,kOper_go]
  exact hw x' h' h2 h3 h4 h5
theorem hP_growO {E : Env} {c : CallH} {bt s : Nat} {d : Option Nat} {os : List SOper} {e : Ps} {Q : QS} (v : α) {row : List AV} {Rm : List Nat} (hs : s = T.sz) (o : OwS n T lo hi l x h) (hx : rowsIn h T.sz y = some [row]) (hrl : row.length = T.sz) (hd : dfzL (Ev.dfz n h) row = some (T.row v,Rm)) (hnd : Rm.Nodup)
    (hRm : ∀ q ∈ Rm,hi ≤ q ∧ q < h.nx) (hb : (l.length + 1) * bt ≤ room)
    (hw : ∀ x' h',OwS n T lo h'.nx (l ++ [v]) x' h' → h.nx ≤ h'.nx → (∀ q,(q < lo ∨ hi ≤ q) → q < h.nx → h'.hp q = h.hp q) → h'.ap = h.ap → hP (kThen (some (upd? e d x',h')) E c os) Q) : hP (kThen (kOper d (some true) (sApp true bt s x y h) e h) E c os) Q:= by
  subst hs
  obtain ⟨x',h',h1,h2,h3,h4,h5⟩:= owS_app (bt:= bt) (more:= [v]) (rows:= [row]) (Rm:= Rm) o hx rfl (fun r hr => by simp at hr;rw [hr];exact hrl) (by simpa using hd) hnd hRm hb
  rw [h1,kOper_go]
  exact hw x' h' h2 h3 h4 h5
theorem rowsIn_sl1 {h : Hp} {r s : Nat} {cs : List AV} (hr : h.hp r = some cs) (hl : cs.length = s) : rowsIn h s (.sl r 0 1 s) = some [cs]:= by
  subst hl
  simp [rowsIn,hr,chunk]
theorem rowsIn_imm (h : Hp) (s : Nat) (rows : List (List AV)) : rowsIn h s (.imm rows) = some rows:= rfl
end
end Go.Ev
