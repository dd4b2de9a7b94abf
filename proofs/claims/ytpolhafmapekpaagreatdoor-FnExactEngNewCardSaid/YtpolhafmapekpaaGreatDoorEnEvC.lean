/- An interpreter of the resolved code is sound: what it answers, the program does; no condition on the input. Third part. -/
import Derived.Test.YtpolhafmapekpaaGreatDoorEnEvB
import Derived.LoopN
import Derived.Deep.Slices
import Derived.Carry
import Derived.OpenShut
import Derived.ProofKit
set_option linter.unusedVariables false
set_option linter.unusedSimpArgs false
set_option linter.unnecessarySimpa false
namespace Go.Ev
open Go Go.RowKit
variable {N : Nat → Nat → Prop} {B0 : Nat} {w0 w : World} {g : Gh} {h : Hp}
def resOf (tmps : Array Value) : ResultVar → Sem Value
  | .tmp t => pure (tmps.getD t undef)
  | .cell p t => do loadVar t (← asAddr (tmps.getD p undef))
theorem results_eq (fn : Func) (tmps : Array Value) : results fn tmps = (do let vs ← fn.results.mapM (resOf tmps);pure (if h : vs.size = 1 then vs[0] else .tuple vs)):= by
  have : (fun r : ResultVar => match r with | .tmp t => pure (tmps.getD t undef) | .cell p t => do loadVar t (← asAddr (tmps.getD p undef)) : ResultVar → Sem Value) = resOf tmps:= by
    funext r
    cases r <;> rfl
  unfold results
  rw [← this]
  rfl
theorem evRes_sound {P : Program} {a : Act} {st : St} (r : Rel N B0 w0 w g st.h) (fr : Fr N B0 w g a st) : ∀ (rs : List ResultVar) (l : List AV),evRes P st rs = some l →
    ∃ vs : List Value,(rs.mapM (resOf a.tmps)).run P w = .ok vs w ∧ vs.length = l.length ∧ ∀ (i : Nat) v c,vs[i]? = some v → l[i]? = some c → RV w (CC N B0 g) g st.h v c
  | [],l,h => by
    simp only [evRes,Option.some.injEq] at h
    subst h
    exact ⟨[],by simp,rfl,fun i v c hi => by simp at hi⟩
  | .tmp t :: rs,l,h => by
    simp only [evRes,Option.map_eq_some_iff] at h
    obtain ⟨l',h1,rfl⟩:= h
    obtain ⟨vs,k1,k2,k3⟩:= evRes_sound r fr rs l' h1
    refine ⟨a.tmps.getD t undef :: vs,by rw [List.mapM_cons];simp only [resOf,Sem.run_bind,Sem.run_pure,Result.andThen_ok,k1],by simp [k2],fun i v c hi hc => ?_⟩
    cases i with
    | zero =>
      simp only [List.getElem?_cons_zero,Option.some.injEq] at hi hc
      subst hi;subst hc
      exact fr.eval (.tmp t)
    | succ i => exact k3 i v c (by simpa using hi) (by simpa using hc)
  | .cell p t :: rs,l,h => by
    simp only [evRes] at h
    split at h
    case h_2 => cases h
    rename_i q off hp
    simp only [Option.bind_eq_some_iff] at h
    obtain ⟨cs,hq,h⟩:= h
    split at h
    case isFalse => cases h
    simp only [Option.bind_eq_some_iff,Option.map_eq_some_iff] at h
    obtain ⟨v,hv,l',h1,rfl⟩:= h
    obtain ⟨vs,k1,k2,k3⟩:= evRes_sound r fr rs l' h1
    have hpt:= fr.eval (.tmp p)
    rw [show st.eval (.tmp p) = .ptr q off from hp] at hpt
    obtain ⟨_,hpa⟩:= hpt.ptr_inv
    have hpa' : a.tmps.getD p undef = .pointer (some ⟨g.bl q,off,none⟩):= hpa
    obtain ⟨m1,m2,arr,ty,m3,_,m4,m5,m6⟩:= r.blk q cs hq
    obtain ⟨u,hu,hr⟩:= run_loadVar (w:= w) (C:= CC N B0 g) (g:= g) (h:= st.h) (b:= g.bl q) (off:= off) hv (fun j => arr.getD (off + j) undef) (fun j c hj => by
      rw [List.getElem?_drop] at hj
      have hlt : off + j < arr.size:= Nat.lt_of_lt_of_le (List.getElem?_eq_some_iff.1 hj).1 m4
      have hg : arr[off + j]? = some (arr.getD (off + j) undef):= by simp [Array.getD,hlt]
      exact ⟨by rw [cell_of_row _ _ _ _ _ _ m3];exact hg,m5 _ _ _ hg hj,m6 c (List.mem_of_getElem? hj)⟩)
    have hone : (resOf a.tmps (.cell p t)).run P w = .ok u w:= by simp only [resOf,hpa',asAddr,Sem.run_bind,Sem.run_pure,Result.andThen_ok,hu]
    refine ⟨u :: vs,by rw [List.mapM_cons];simp only [Sem.run_bind,hone,Sem.run_pure,Result.andThen_ok,k1],by simp [k2],fun i v c hi hc => ?_⟩
    cases i with
    | zero =>
      simp only [List.getElem?_cons_zero,Option.some.injEq] at hi hc
      subst hi;subst hc
      exact hr
    | succ i => exact k3 i v c (by simpa using hi) (by simpa using hc)
theorem results_sound {P : Program} {fn : Func} {a : Act} {st : St} (r : Rel N B0 w0 w g st.h) (fr : Fr N B0 w g a st) {l : List AV} (h : evRes P st fn.results.toList = some l) :
    ∃ v,(results fn a.tmps).run P w = .ok v w ∧ RV w (CC N B0 g) g st.h v (evResult l):= by
  obtain ⟨vs,k1,k2,k3⟩:= evRes_sound r fr _ l h
  have hm : (fn.results.mapM (resOf a.tmps)).run P w = .ok vs.toArray w:= by
    rw [Array.mapM_eq_mapM_toList]
    simp only [Sem.run_map,k1,Result.andThen_ok]
  rw [results_eq]
  simp only [Sem.run_bind]
  rw [hm]
  simp only [Result.andThen_ok,Sem.run_pure]
  match vs,l,k2,k3 with
  | [],[],_,_ => exact ⟨_,rfl,.tup _ _ rfl fun i v c hi => by simp at hi⟩
  | [v],[c],_,k3 => exact ⟨_,rfl,k3 0 v c rfl rfl⟩
  | v :: v' :: vs,c :: c' :: l,k2,k3 =>
    refine ⟨_,rfl,?_⟩
    simp only [List.size_toArray,List.length_cons,show ¬ (vs.length + 1 + 1 = 1) by omega,dite_false]
    exact .tup _ _ (by simpa using k2) fun i u x hi hx => k3 i u x (by simpa using hi) hx
section
variable {E : Env} {WI : World → Prop}
def LoopR (E : Env) (N : Nat → Nat → Prop) (B0 : Nat) (w0 : World) (k : Nat) : Prop:=
  ∀ f body st e st',(ev E k).2 f body st = some (e,st') → ∀ w g a,Rel N B0 w0 w g st.h → Fr N B0 w g a st → ∀ Q : Exit → Act → World → Prop,
    (∀ a' w' g',Next N B0 w0 w g st.h w' g' st'.h → Fr N B0 w' g' a' st' → Q (exOf e) a' w') → Code.rounds E.P body Q k a w
theorem ev_sound (hT : TOK E WI) (hs : Stable WI) (h0 : WI w0) : ∀ k,CallOK E.P N B0 w0 (ev E k).1 ∧ LoopR E N B0 w0 k
  | 0 => ⟨fun f args h v h' hv => by simp [ev] at hv,fun f body st e st' hv => by simp [ev] at hv⟩
  | k + 1 => by
    obtain ⟨hc,hl⟩:= ev_sound hT hs h0 k
    have hloop : LoopOK E N B0 w0 (ev E k).2:= fun f body st e st' hv w g a r fr Q hk => wp_loop_rounds k (hl f body st e st' hv w g a r fr Q hk)
    refine ⟨fun f args h v h' hv w g r vs hvs hrel => ?_,fun f body st e st' hv w g a r fr Q hk => ?_⟩
    · simp only [ev] at hv
      unfold evBody at hv
      split at hv
      case h_2 => cases hv
      rename_i fn hfn
      split at hv
      case h_2 => cases hv
      rename_i c hbody
      split at hv
      case isTrue => cases hv
      rename_i hname
      unfold retX at hv
      simp only [Option.bind_eq_some_iff] at hv
      obtain ⟨⟨e,st⟩,h1,h2⟩:= hv
      refine ⟨enters_of hfn (by simpa using hname) (by rw [hbody];rfl),calls_of_wp hfn hbody ?_⟩
      have fr : Fr N B0 w g { tmps:= vs ++ Array.replicate (fn.ntmps - vs.size) undef,defers:= [] } ⟨args ++ List.replicate (fn.ntmps - args.length) (.tup []),h⟩:= by
        refine ⟨by simp [hvs],fun i u c hi hcc => ?_,rfl⟩
        by_cases hlt : i < vs.size
        · rw [Array.getElem?_append_left hlt] at hi
          rw [List.getElem?_append_left (by omega)] at hcc
          exact hrel i u c hi hcc
        · rw [Array.getElem?_append_right (by omega)] at hi
          rw [List.getElem?_append_right (by omega)] at hcc
          rw [Array.getElem?_replicate] at hi
          rw [List.getElem?_replicate] at hcc
          split at hi
          · split at hcc
            · injection hi with hi
              injection hcc with hcc
              subst hi;subst hcc
              exact RV.undef
            · cases hcc
          · cases hi
      have key : ∀ l,e ≠ .exit 0 ∧ (∀ j,e ≠ .exit j) → evRes E.P st fn.results.toList = some l → (evResult l,st.h) = (v,h') → c.wp E.P (bodyPost E.P fn fun e w' => ∃ u g',e = .returned u ∧ Next N B0 w0 w g h w' g' h' ∧ RV w' (CC N B0 g') g' h' u v) { tmps:= vs ++ Array.replicate (fn.ntmps - vs.size) undef,defers:= [] } w:= by
        intro l he hl hv
        injection hv with hv1 hv2
        subst hv1;subst hv2
        refine evC_sound hT hc hs h0 hloop (draw_ok hT hc hs h0) c w g _ _ st e _ r fr h1 fun a' w' g' hn fr' => ?_
        obtain ⟨u,hu,hr⟩:= results_sound hn.rel fr' hl
        cases e with
        | norm => exact ⟨fr'.defers,u,hu,u,g',rfl,hn,hr⟩
        | ret => exact ⟨fr'.defers,u,hu,u,g',rfl,hn,hr⟩
        | exit j => exact absurd rfl (he.2 j)
      cases e with
      | exit j => simp at h2
      | norm =>
        simp only [Option.bind_eq_some_iff,Option.some.injEq] at h2
        obtain ⟨l,hl,hv⟩:= h2
        exact key l ⟨by simp,fun j => by simp⟩ hl hv
      | ret =>
        simp only [Option.bind_eq_some_iff,Option.some.injEq] at h2
        obtain ⟨l,hl,hv⟩:= h2
        exact key l ⟨by simp,fun j => by simp⟩ hl hv
    · simp only [ev,seqX,Option.bind_eq_some_iff] at hv
      obtain ⟨⟨e1,s1⟩,h1,h2⟩:= hv
      rw [rounds_succ]
      refine evC_sound hT hc hs h0 hloop (draw_ok hT hc hs h0) body w g a st s1 e1 _ r fr h1 fun a' w' g' hn fr' => ?_
      cases e1 with
      | norm => exact hl f body s1 e st' h2 w' g' a' hn.rel fr' Q fun a2 w2 g2 hn2 fr2 => hk a2 w2 g2 ⟨hn2.rel,hn.ext.trans N B0 hn2.ext⟩ fr2
      | exit id =>
        simp only [Option.some.injEq,Prod.mk.injEq] at h2
        obtain ⟨rfl,rfl⟩:= h2
        exact hk a' w' g' hn fr'
      | ret =>
        simp only [Option.some.injEq,Prod.mk.injEq] at h2
        obtain ⟨rfl,rfl⟩:= h2
        exact hk a' w' g' hn fr'
end
end Go.Ev
namespace Go.Ev
open Go Go.RowKit Go.ChangeShapes Go.WideShapes
def layF (P : Program) (ok : TypeId → Bool) (tot : Nat) : Nat → List Field → Bool
  | off,[] => off == tot
  | off,f :: r => f.offset == off && ok f.type && layF P ok tot (off + P.cellsOf f.type) r
def plainT (P : Program) : Nat → TypeId → Bool
  | 0,_ => false
  | n + 1,t => match P.underlying t with
    | some .bool | some (.int _) | some .string => P.cellsOf t == 1
    | some (.slice e) => P.cellsOf t == 1 && decide (0 < P.cellsOf e) && plainT P n e
    | some (.struct fs) => layF P (plainT P n) (P.cellsOf t) 0 fs.toList
    | _ => false
def shpFs (f : TypeId → List AV → Prop) : List Field → List AV → Prop
  | [],cs => cs = []
  | g :: r,cs => ∃ a b,cs = a ++ b ∧ f g.type a ∧ shpFs f r b
def shp (P : Program) : Nat → TypeId → List AV → Prop
  | 0,_,_ => False
  | n + 1,t,cs => match P.underlying t with
    | some .bool => ∃ b,cs = [.bool b]
    | some (.int k) => ∃ i,cs = [.int k i] ∧ (Lit.int k i).wf = true
    | some .string => ∃ s,cs = [.str s] ∧ s.length ≤ 9223372036854775807
    | some (.slice e) => ∃ rows,cs = [.imm rows] ∧ rows.length ≤ 9223372036854775807 ∧ ∀ r ∈ rows,shp P n e r
    | some (.struct fs) => shpFs (shp P n) fs.toList cs
    | _ => False
mutual
def mV : AV → Nat
  | .str s => s.length + 1
  | .imm rows => mR rows + 1
  | _ => 1
def mC : List AV → Nat
  | [] => 0
  | c :: r => mV c + mC r
def mR : List (List AV) → Nat
  | [] => 0
  | r :: l => mC r + mR l
end
theorem mC_append (a b : List AV) : mC (a ++ b) = mC a + mC b:= by
  induction a with
  | nil => simp [mC]
  | cons x a ih => simp only [List.cons_append,mC,ih];omega
structure BulkLaws {H : Type} (b : DataW H → Nat) (bA : List (DataW H) → Nat) : Prop where
  str : ∀ s,s.length + 1 ≤ b (.lit (.string s))
  one : ∀ d,1 ≤ b d
  slice : ∀ e sp,bA e + 1 ≤ b (.slice e sp)
  agg : ∀ p,bA p ≤ b (.agg p)
  cons : ∀ d r,b d + bA r ≤ bA (d :: r)
def RIs (w : World) (C : Nat → Nat → Prop) (cs : List Value) (tr : List AV) : Prop:= cs.length = tr.length ∧ ∀ (i : Nat) v c,cs[i]? = some v → tr[i]? = some c → RI w C v c
theorem RIs.one {w : World} {C : Nat → Nat → Prop} {v : Value} {c : AV} (h : RI w C v c) : RIs w C [v] [c]:=
  ⟨rfl,fun i u x hi hx => by
    cases i with
    | zero => simp at hi hx;subst hi;subst hx;exact h
    | succ i => simp at hi⟩
theorem RIs.nil {w : World} {C : Nat → Nat → Prop} : RIs w C [] []:= ⟨rfl,fun i u x hi hx => by simp at hi⟩
theorem RIs.append {w : World} {C : Nat → Nat → Prop} {a b : List Value} {x y : List AV} (h : RIs w C a x) (h' : RIs w C b y) : RIs w C (a ++ b) (x ++ y):= by
  refine ⟨by simp [h.1,h'.1],fun i v c hi hc => ?_⟩
  by_cases hl : i < a.length
  · rw [List.getElem?_append_left hl] at hi
    rw [List.getElem?_append_left (by rw [← h.1];exact hl)] at hc
    exact h.2 i v c hi hc
  · rw [List.getElem?_append_right (Nat.le_of_not_lt hl)] at hi
    rw [List.getElem?_append_right (by rw [← h.1];exact Nat.le_of_not_lt hl),← h.1] at hc
    exact h'.2 _ v c hi hc
section
variable {H : Type} {enc : TypeId × Value → H} {P : Program} {w : World} {b : DataW H → Nat} {bA : List (DataW H) → Nat}
theorem mapM_get {α β : Type} {f : α → Option β} : ∀ {l : List α} {r : List β},l.mapM f = some r → l.length = r.length ∧ ∀ (i : Nat) x,l[i]? = some x → f x = r[i]?
  | [],r,h => by simp at h;subst h;exact ⟨rfl,fun i x hi => by simp at hi⟩
  | a :: l,r,h => by
    simp only [List.mapM_cons,Option.bind_eq_bind,Option.bind_eq_some_iff,Option.pure_def,Option.some.injEq] at h
    obtain ⟨y,h1,r',h2,rfl⟩:= h
    obtain ⟨k1,k2⟩:= mapM_get h2
    refine ⟨by simp [k1],fun i x hi => ?_⟩
    cases i with
    | zero => simp at hi;subst hi;simpa using h1
    | succ i => simpa using k2 i x (by simpa using hi)
theorem cells_spot {a : Addr} {n : Nat} {cs : List Value} (h : w.cells? 0 a n = some cs) (hn : 0 < n) : a.spot = none ∧ cs.length = n ∧ ∀ j,j < n → w.cell? ⟨a.block,a.off + j,none⟩ = some (cs.getD j undef):= by
  unfold World.cells? at h
  rw [if_pos (Nat.zero_le _)] at h
  obtain ⟨k1,k2⟩:= mapM_get h
  have hl : cs.length = n:= by rw [← k1];simp
  have hget : ∀ j,j < n → w.cell? (a.add j) = some (cs.getD j undef):= fun j hj => by
    rw [k2 j j (by simp [hj])]
    simp [List.getD,hl,hj]
  have hs : a.spot = none:= by
    have:= hget 0 hn
    simp only [Addr.add,if_true] at this
    unfold World.cell? at this
    split at this
    · split at this
      · cases this
      · rename_i h;simpa using h
    · cases this
  refine ⟨hs,hl,fun j hj => ?_⟩
  rw [← hget j hj]
  congr 1
  unfold Addr.add
  split
  · rename_i h;subst h;cases a;simp only at hs;subst hs;rfl
  · rfl
theorem trod_fields {n fuel : Nat} {cs : List Value} {tot : Nat} (B : BulkLaws b bA) (hl : cs.length = tot)
    (ih : ∀ (t : TypeId) (cs : List Value) (d : DataW H) (ps : List MemPlace),plainT P n t = true → DataW.trod enc P w 0 (fun _ => true) true fuel t cs = some (d,ps) →
      ∃ tr,RIs w (fun _ _ => True) cs tr ∧ shp P n t tr ∧ mC tr ≤ b d ∧ cs.length = P.cellsOf t) :
    ∀ (fs : List Field) (off : Nat) (xs : List (DataW H × List MemPlace)),layF P (plainT P n) tot off fs = true → fs.length = xs.length →
      (∀ (i : Nat) f,fs[i]? = some f → DataW.trod enc P w 0 (fun _ => true) true fuel f.type ((cs.drop f.offset).take (P.cellsOf f.type)) = xs[i]?) → off ≤ tot →
      ∃ tr,RIs w (fun _ _ => True) (cs.drop off) tr ∧ shpFs (shp P n) fs tr ∧ mC tr ≤ bA (xs.map (·.1))
  | [],off,xs,hlay,hlen,hf,hoff => by
    simp only [layF,beq_iff_eq] at hlay
    refine ⟨[],?_,rfl,by simp [mC]⟩
    rw [List.drop_eq_nil_of_le (by omega)]
    exact RIs.nil
  | f :: fs,off,[],hlay,hlen,hf,hoff => by simp at hlen
  | f :: fs,off,x :: xs,hlay,hlen,hf,hoff => by
    simp only [layF,Bool.and_eq_true,beq_iff_eq] at hlay
    obtain ⟨⟨h1,h2⟩,h3⟩:= hlay
    have h0:= hf 0 f rfl
    rw [h1] at h0
    obtain ⟨d,ps⟩:= x
    obtain ⟨tr,k1,k2,k3,k4⟩:= ih f.type _ d ps h2 (by simpa using h0)
    have hle : off + P.cellsOf f.type ≤ tot:= by
      rw [List.length_take,List.length_drop,hl] at k4
      omega
    obtain ⟨tr',j1,j2,j3⟩:= trod_fields B hl ih fs (off + P.cellsOf f.type) xs h3 (by simpa using hlen) (fun i g hi => by simpa using hf (i + 1) g (by simpa using hi)) hle
    refine ⟨tr ++ tr',?_,⟨tr,tr',rfl,k2,j2⟩,?_⟩
    · have : cs.drop off = (cs.drop off).take (P.cellsOf f.type) ++ cs.drop (off + P.cellsOf f.type):= by
        rw [← List.drop_drop,List.take_append_drop]
      rw [this]
      exact k1.append j1
    · rw [mC_append]
      have:= B.cons d (xs.map (·.1))
      simp only [List.map_cons]
      omega
theorem trod_shp (B : BulkLaws b bA) : ∀ (n : Nat) (fuel : Nat) (t : TypeId) (cs : List Value) (d : DataW H) (ps : List MemPlace),plainT P n t = true → DataW.trod enc P w 0 (fun _ => true) true fuel t cs = some (d,ps) →
    ∃ tr,RIs w (fun _ _ => True) cs tr ∧ shp P n t tr ∧ mC tr ≤ b d ∧ cs.length = P.cellsOf t
  | 0,fuel,t,cs,d,ps,hp,h => by simp [plainT] at hp
  | n + 1,fuel,t,cs,d,ps,hp,h => by
    unfold plainT at hp
    split at hp
    · rename_i ht
      obtain ⟨z,rfl,hx⟩:= DataW.trod_bool ht h
      simp only [Prod.mk.injEq] at hx
      obtain ⟨rfl,_⟩:= hx
      exact ⟨[.bool z],.one (.bool z),by simp [shp,ht],by simp only [mC,mV];exact B.one _,(beq_iff_eq.1 hp).symm⟩
    · rename_i k ht
      obtain ⟨z,rfl,hx,hw⟩:= DataW.trod_int ht h
      simp only [Prod.mk.injEq] at hx
      obtain ⟨rfl,_⟩:= hx
      exact ⟨[.int k z],.one (.int k z),by simp [shp,ht,hw],by simp only [mC,mV];exact B.one _,(beq_iff_eq.1 hp).symm⟩
    · rename_i ht
      obtain ⟨z,rfl,hx,hw⟩:= DataW.trod_string ht h
      simp only [Prod.mk.injEq] at hx
      obtain ⟨rfl,_⟩:= hx
      exact ⟨[.str z.data.toList],.one (.str z),by simp only [shp,ht];exact ⟨_,rfl,by have hz:= hw;unfold maxLen at hz;simpa using hz⟩,by simp only [mC,mV];exact B.str _,(beq_iff_eq.1 hp).symm⟩
    · rename_i e ht
      simp only [Bool.and_eq_true,beq_iff_eq,decide_eq_true_eq] at hp
      obtain ⟨⟨hp1,hp0⟩,hp⟩:= hp
      rcases Deep.open_slice ht h with ⟨rfl,hx⟩ | ⟨a,len,cap,m,q,D,Pl,rfl,_,hl,hm,hmm,hx,hel⟩
      · simp only [Prod.mk.injEq] at hx
        obtain ⟨rfl,_⟩:= hx
        exact ⟨[.imm []],.one (.slE none 0),by simp [shp,ht],by simp only [mC,mV,mR];exact B.one _,hp1.symm⟩
      · simp only [Prod.mk.injEq] at hx
        obtain ⟨rfl,_⟩:= hx
        have hmc : m = cap:= by simpa using hmm
        subst hmc
        have each : ∀ i,i < len → ∃ cs' tr,w.cells? 0 (a.add (i * P.cellsOf e)) (P.cellsOf e) = some cs' ∧ RIs w (fun _ _ => True) cs' tr ∧ shp P n e tr ∧ mC tr ≤ b (D i) ∧ cs'.length = P.cellsOf e:= fun i hi => by
          obtain ⟨cs',h1,h2⟩:= hel i (by omega)
          obtain ⟨tr,k1,k2,k3,k4⟩:= trod_shp B n q e cs' (D i) (Pl i) hp h2
          exact ⟨cs',tr,h1,k1,k2,k3,k4⟩
        by_cases hz : len = 0
        · subst hz
          refine ⟨[.imm []],.one (.slE _ _),by simp [shp,ht],by simp only [mC,mV,mR];exact B.one _,hp1.symm⟩
        · have hsp : a.spot = none:= by
            obtain ⟨cs',tr,h1,_⟩:= each 0 (by omega)
            have:= (cells_spot h1 hp0).1
            simpa [Addr.add] using this
          obtain ⟨bl,off,sp⟩:= a
          simp only at hsp
          subst hsp
          let rowsF : Nat → List AV:= fun i => if hi : i < len then (each i hi).choose_spec.choose else []
          let csF : Nat → List Value:= fun i => if hi : i < len then (each i hi).choose else []
          have spec : ∀ i,i < len → w.cells? 0 ((⟨bl,off,none⟩ : Addr).add (i * P.cellsOf e)) (P.cellsOf e) = some (csF i) ∧ RIs w (fun _ _ => True) (csF i) (rowsF i) ∧ shp P n e (rowsF i) ∧ mC (rowsF i) ≤ b (D i) ∧ (csF i).length = P.cellsOf e:= fun i hi => by
            have:= (each i hi).choose_spec.choose_spec
            simp only [csF,rowsF,dif_pos hi]
            exact this
          refine ⟨[.imm ((List.range len).map rowsF)],.one (.sl bl off len m (P.cellsOf e) _ (fun i j => (csF i).getD j undef) (by simp) hl (fun row hr => ?_) (fun i j hi hj => ⟨trivial,?_⟩) (fun i j row c hi hj => ?_)),?_,?_,hp1.symm⟩
          · obtain ⟨i,hi,rfl⟩:= List.mem_map.1 hr
            obtain ⟨_,h2,_,_,h5⟩:= spec i (List.mem_range.1 hi)
            rw [← h2.1,h5]
          · obtain ⟨h1,_⟩:= spec i hi
            obtain ⟨_,_,h3⟩:= cells_spot h1 hp0
            have:= h3 j hj
            rw [← this]
            congr 1
            unfold Addr.add
            split
            · rename_i h0;simp [h0]
            · rfl
          · simp only [List.getElem?_map,Option.map_eq_some_iff] at hi
            obtain ⟨i',hi',rfl⟩:= hi
            have hi2 : i < len:= by
              rcases Nat.lt_or_ge i len with h | h
              · exact h
              · simp [List.getElem?_eq_none (show (List.range len).length ≤ i by simpa using h)] at hi'
            have : i' = i:= by simpa [hi2] using hi'.symm
            subst this
            obtain ⟨_,h2,_,_,h5⟩:= spec i' hi2
            have hjl : j < (csF i').length:= by rw [h2.1];exact (List.getElem?_eq_some_iff.1 hj).1
            exact h2.2 j _ c (by simp [List.getD,hjl]) hj
          · simp only [shp,ht]
            exact ⟨_,rfl,by have:= hl;have:= hm;unfold maxLen at *;simp;omega,fun r hr => by
              obtain ⟨i,hi,rfl⟩:= List.mem_map.1 hr
              exact (spec i (List.mem_range.1 hi)).2.2.1⟩
          · simp only [mC,mV]
            have hsum : ∀ l : List Nat,(∀ i ∈ l,i < len) → mR (l.map rowsF) ≤ bA (l.map D):= fun l => by
              induction l with
              | nil => intro _;simp [mR]
              | cons i l ih =>
                intro hl
                have h1:= (spec i (hl i List.mem_cons_self)).2.2.2.1
                have h2:= ih fun j hj => hl j (List.mem_cons_of_mem _ hj)
                have h3:= B.cons (D i) (l.map D)
                simp only [List.map_cons,mR]
                omega
            have h1:= hsum (List.range len) fun i hi => List.mem_range.1 hi
            have h2:= B.slice ((List.range len).map D) ((List.range (m - len)).map fun j => D (len + j))
            omega
    · rename_i fs ht
      obtain ⟨xs,q,rfl,hx,hcl,hlen,hf⟩:= DataW.trod_struct ht h
      simp only [Prod.mk.injEq] at hx
      obtain ⟨rfl,_⟩:= hx
      obtain ⟨tr,k1,k2,k3⟩:= trod_fields (tot:= P.cellsOf t) B hcl (fun t cs d ps h1 h2 => trod_shp B n q t cs d ps h1 h2) fs.toList 0 xs hp (by simpa using hlen.symm) (fun i f hi => hf i f (by simpa using hi)) (Nat.zero_le _)
      refine ⟨tr,by simpa using k1,?_,Nat.le_trans k3 (B.agg _),hcl⟩
      simp only [shp,ht]
      exact k2
    · cases hp
end
end Go.Ev
namespace Go.Ev
open Go Go.RowKit Go.ChangeShapes Go.WideShapes
def shpA (P : Program) (n : Nat) (t : TypeId) (x : AV) : Prop:=
  match P.underlying t with
  | some (.struct _) => ∃ tr,x = .agg tr ∧ shp P n t tr
  | _ => shp P n t [x]
def shpAs (P : Program) (n : Nat) : List TypeId → List AV → Prop
  | [],xs => xs = []
  | t :: ts,xs => ∃ x r,xs = x :: r ∧ shpA P n t x ∧ shpAs P n ts r
def mA : List AV → Nat
  | [] => 0
  | .agg cs :: r => mC cs + mA r
  | x :: r => mV x + mA r
section
variable {H : Type} {enc : TypeId × Value → H} {P : Program} {b : DataW H → Nat} {bA : List (DataW H) → Nat}
theorem arg_tree {W : World} (B : BulkLaws b bA) {n : Nat} {t : TypeId} {base : Nat} {v : Value} {d : DataW H} {ps : List MemPlace} (hp : plainT P n t = true) (hv : Value.okWide P W .any base t v)
    (h : DataW.Trod enc P W 0 (fun _ => true) true t v d ps) : ∃ x,shpA P n t x ∧ RA W (fun _ _ => True) v x ∧ mA [x] ≤ b d:= by
  obtain ⟨fuel,h⟩:= h
  obtain ⟨tr,k1,k2,k3,k4⟩:= trod_shp B n fuel t _ d ps hp h
  have one : ∀ u,v = u → v.cells.toList = [u] → (∀ fs,P.underlying t ≠ some (.struct fs)) → ∃ x,shpA P n t x ∧ RA W (fun _ _ => True) v x ∧ mA [x] ≤ b d:= fun u hu hc hns => by
    rw [hc] at k1
    match tr,k1 with
    | [x],k1 =>
      have hri:= k1.2 0 u x rfl rfl
      have hnc:= hri.notCell
      refine ⟨x,?_,hu ▸ .ri hri,?_⟩
      · unfold shpA
        split
        · rename_i fs hfs;exact absurd hfs (hns fs)
        · exact k2
      · cases x <;> simp only [mA,mC,mV,Ev.notCell] at k3 hnc ⊢ <;> first | omega | cases hnc
    | [],k1 => exact absurd k1.1 (by simp)
    | _ :: _ :: _,k1 => exact absurd k1.1 (by simp)
  cases n with
  | zero => simp [plainT] at hp
  | succ n =>
    unfold plainT at hp
    split at hp
    · rename_i ht
      obtain ⟨z,rfl⟩:= okWide_bool ht hv
      exact one _ rfl rfl (by simp [ht])
    · rename_i k ht
      obtain ⟨z,rfl⟩:= okWide_int ht hv
      exact one _ rfl rfl (by simp [ht])
    · rename_i ht
      obtain ⟨z,rfl⟩:= okWide_string ht hv
      exact one _ rfl rfl (by simp [ht])
    · rename_i e ht
      obtain ⟨a,l,c,rfl⟩:= okWide_slice ht hv
      exact one _ rfl rfl (by simp [ht])
    · rename_i fs ht
      obtain ⟨cs,rfl,_⟩:= okWide_struct ht hv
      have k1' : RIs W (fun _ _ => True) cs.toList tr:= k1
      refine ⟨.agg tr,?_,.agg cs tr (by simpa using k1'.1) (fun c hc => ?_) (fun i v c hi hc => .ri (k1'.2 i v c (by simpa using hi) hc)),by simpa [mA] using k3⟩
      · unfold shpA
        rw [ht]
        exact ⟨tr,rfl,k2⟩
      · obtain ⟨i,hi⟩:= List.getElem?_of_mem hc
        have hlt : i < cs.toList.length:= by rw [k1'.1];exact (List.getElem?_eq_some_iff.1 hi).1
        exact (k1'.2 i _ c (List.getElem?_eq_getElem hlt) hi).notCell
    · cases hp
theorem args_trees {W : World} (B : BulkLaws b bA) {n base : Nat} : ∀ {ts : List TypeId} {vs : List Value} {ds : List (DataW H)} {ps : List MemPlace},DataW.TrodAll enc P W 0 (fun _ => true) true ts vs ds ps → (∀ t ∈ ts,plainT P n t = true) →
    (∀ (j : Nat) t v,ts[j]? = some t → vs[j]? = some v → Value.okWide P W .any base t v) → ∃ xs,shpAs P n ts xs ∧ vs.length = xs.length ∧ (∀ (i : Nat) v c,vs[i]? = some v → xs[i]? = some c → RA W (fun _ _ => True) v c) ∧ mA xs ≤ bA ds
  | [],vs,ds,ps,h,_,_ => by
    obtain ⟨rfl,rfl,rfl⟩:= trodAll_nil h
    exact ⟨[],rfl,rfl,fun i v c hi => by simp at hi,by simp [mA]⟩
  | t :: ts,vs,ds,ps,h,hp,hv => by
    obtain ⟨v,vs',d,ds',p,q,rfl,rfl,rfl,h1,h2⟩:= trodAll_cons h
    obtain ⟨x,k1,k2,k3⟩:= arg_tree B (hp t List.mem_cons_self) (hv 0 t v rfl rfl) h1
    obtain ⟨xs,j1,j2,j3,j4⟩:= args_trees B h2 (fun u hu => hp u (List.mem_cons_of_mem _ hu)) (fun j u z hj hz => hv (j + 1) u z (by simpa using hj) (by simpa using hz))
    refine ⟨x :: xs,⟨x,xs,rfl,k1,j1⟩,by simp [j2],fun i u c hi hc => ?_,?_⟩
    · cases i with
      | zero => simp at hi hc;subst hi;subst hc;exact k2
      | succ i => exact j3 i u c (by simpa using hi) (by simpa using hc)
    · have:= B.cons d ds'
      cases x <;> simp only [mA] at k3 ⊢ <;> omega
theorem trodAll_stays (hlo : laidOutB P = true) {W W' : World} (hb : Below W.heap.size W W') {sp : Nat → Bool} : ∀ {ts : List TypeId} {vs : List Value} {ds : List (DataW H)} {ps : List MemPlace},DataW.TrodAll enc P W 0 (fun _ => true) true ts vs ds ps →
    (∀ t ∈ ts,P.readableRec t = true ∧ t < P.types.size) → (∀ p ∈ ps,p.block < W.heap.size) → (∀ p ∈ ps,sp p.block = true) → DataW.TrodAll enc P W' 0 sp true ts vs ds ps
  | [],vs,ds,ps,h,_,_,_ => by
    obtain ⟨rfl,rfl,rfl⟩:= trodAll_nil h
    exact rfl
  | t :: ts,vs,ds,ps,h,hr,hlt,hsp => by
    obtain ⟨v,vs',d,ds',p,q,rfl,rfl,rfl,h1,h2⟩:= trodAll_cons h
    exact ⟨p,q,WideElems.Trod_stays hlo (hr t List.mem_cons_self).1 (hr t List.mem_cons_self).2 h1 (fun x hx => hb.same (hlt x (List.mem_append_left _ hx))) (fun x hx => hsp x (List.mem_append_left _ hx)),
      trodAll_stays hlo hb h2 (fun u hu => hr u (List.mem_cons_of_mem _ hu)) (fun x hx => hlt x (List.mem_append_right _ hx)) (fun x hx => hsp x (List.mem_append_right _ hx)),rfl⟩
theorem row_ok (hlo : laidOutB P = true) {f : FuncId} {fn : Func} {s : ChangeSpec} {WI : World → Prop} {F : List AV → Option AV} (hF : PureOK P WI f F) (B : BulkLaws b bA) {n : Nat} {again fresh handsOn : Bool}
    (hvars : s.vars = []) (hpar : ∀ t ∈ fn.params.toList,plainT P n t = true ∧ P.readableRec t = true ∧ t < P.types.size) {bt : TypeId} (hres : fn.resultTypes = #[bt]) (hbt : P.underlying bt = some .bool)
    {W : World} {base : Nat} {args : Array Value} {ds gs : List (DataW H)} {before : List MemPlace} (hspec : s.fn H (ds ++ gs) = { results:= [.lit (.bool true)],args:= ds })
    (hval : ∀ (j : Nat) t v,fn.params[j]? = some t → args[j]? = some v → Value.okWide P W .any base t v) (hW : DataW.Whole enc P fn.params.toList s.vars false W args.toList ds gs before) (hwi : WI W)
    (hlaw : ∀ xs,shpAs P n fn.params.toList xs → mA xs ≤ bA ds → F xs = some (.bool true)) :
    Calls P f args W fun e W' => ∃ v,e = .returned v ∧ s.post enc P fn false fresh handsOn again W args v W':= by
  have hW':= hW
  obtain ⟨p,q,hA,hV,hpq,hz,hn⟩:= hW
  rw [hvars] at hV
  obtain ⟨rfl,rfl⟩:= trodVars_none hV
  rw [List.append_nil] at hpq
  subst hpq
  obtain ⟨xs,k1,k2,k3,k4⟩:= args_trees (base:= base) B hA (fun t ht => (hpar t ht).1) (fun j t v hj hv => hval j t v (by simpa using hj) (by simpa using hv))
  refine (hF.2 W (fun _ _ => True) args xs (.bool true) hwi (by simpa using k2) (fun i v c hi hc => k3 i v c (by simpa using hi) hc) (hlaw xs k1 k4)).mono ?_
  rintro e W' ⟨v,rfl,hb,hr⟩
  have hv : v = .bool true:= RV.bool_inv hr
  subst hv
  refine ⟨_,rfl,?_⟩
  have hlt : ∀ x ∈ before,x.block < W.heap.size:= fun x hx => hW'.lt x hx
  have hargs : ∀ sp : Nat → Bool,(∀ x ∈ before,sp x.block = true) → DataW.TrodAll enc P W' 0 sp true fn.params.toList args.toList (s.fn H (ds ++ [])).args before:= fun sp hsp => by
    rw [hspec]
    exact trodAll_stays hlo hb hA (fun t ht => (hpar t ht).2) hlt hsp
  have hresT : ∀ (b0 : Nat) (sp : Nat → Bool) (hd : Bool),DataW.TrodAll enc P W' b0 sp hd fn.resultTypes.toList ((Value.bool true).resultList fn.resultTypes.size) (s.fn H (ds ++ [])).results []:= fun b0 sp hd => by
    rw [hspec,hres]
    exact trodAll_mk1 (shut_bool hbt true)
  have hvarsT : ∀ sp : Nat → Bool,DataW.TrodVars enc P W' sp s.vars (s.fn H (ds ++ [])).vars []:= fun sp => by
    rw [hspec,hvars]
    exact rfl
  have hold : ∀ x ∈ before,(fun k => decide (k < W.heap.size)) x.block = true:= fun x hx => by simpa using hlt x hx
  refine ⟨ds,[],before,[],before,[],hW',hresT _ _ _,hargs _ hold,hvarsT _,World.keptBut_mono (fun x hx => ⟨hx,?_⟩) (hb.frame _),fun _ => ?_⟩
  · exact Or.inr (by simpa using hx)
  · refine ⟨ok_one hres rfl (okWide_bool_mk hbt true),_,_,([] ++ before) ++ [],⟨[] ++ before,[],trodAll_append (hargs _ (fun _ _ => rfl)) (hresT _ _ _),hvarsT _,rfl,?_,?_⟩,?_⟩
    · intro b0 off hp
      have hp' : MemPlace.cell b0 off ∈ before:= by simpa using hp
      rw [hb.frozen (p:= ⟨b0,off,none⟩) (hlt _ hp')]
      exact hz b0 off hp'
    · intro ha
      cases ha
    · intro p hp _
      simpa using hp
end
theorem rows_of {α : Type} {enc : α → List AV} {p : α → Prop} : ∀ {rows : List (List AV)},(∀ r ∈ rows,∃ a,r = enc a ∧ p a) → ∃ l : List α,rows = l.map enc ∧ l.length = rows.length ∧ ∀ a ∈ l,p a
  | [],_ => ⟨[],rfl,rfl,fun _ h => by cases h⟩
  | r :: rows,h => by
    obtain ⟨a,h1,h2⟩:= h r List.mem_cons_self
    obtain ⟨l,h3,h4,h5⟩:= rows_of fun r hr => h r (List.mem_cons_of_mem _ hr)
    refine ⟨a :: l,by rw [h1,h3];rfl,by simp [h4],fun b hb => ?_⟩
    rcases List.mem_cons.1 hb with rfl | hb
    · exact h2
    · exact h5 b hb
section
variable {P : Program} {n : Nat} {t : TypeId} {cs : List AV} {x : AV}
theorem shpA_one (ht : ∀ fs,P.underlying t ≠ some (.struct fs)) (h : shpA P n t x) : shp P n t [x]:= by
  unfold shpA at h
  split at h
  · rename_i fs hfs;exact absurd hfs (ht fs)
  · exact h
theorem shp_slice {e : TypeId} (ht : P.underlying t = some (.slice e)) (h : shp P (n + 1) t cs) : ∃ rows,cs = [.imm rows] ∧ rows.length ≤ 9223372036854775807 ∧ ∀ r ∈ rows,shp P n e r:= by
  rw [shp,ht] at h
  exact h
theorem shp_struct {fs : Array Field} (ht : P.underlying t = some (.struct fs)) (h : shp P (n + 1) t cs) : shpFs (shp P n) fs.toList cs:= by
  rw [shp,ht] at h
  exact h
theorem shp_int {k : IntKind} (ht : P.underlying t = some (.int k)) (h : shp P (n + 1) t cs) : ∃ i,cs = [.int k i] ∧ (Lit.int k i).wf = true:= by
  rw [shp,ht] at h
  exact h
theorem shp_str (ht : P.underlying t = some .string) (h : shp P (n + 1) t cs) : ∃ s,cs = [.str s] ∧ s.length ≤ 9223372036854775807:= by
  rw [shp,ht] at h
  exact h
end
end Go.Ev
namespace Go.Ev
open Go Go.RowKit
inductive Opd where
  | t (n : Nat)
  | c (v : AV)
inductive SOp where
  | mv (x : Opd)
  | pick (c a b : Opd)
  | alloc (z : List AV)
  | box (x : Opd)
  | build (z : List AV) (ps : List (Nat × Nat × Opd))
  | bslice (rw : Bool) (z : List AV) (len : Nat) (ps : List (Nat × Opd))
  | ld (x : Opd)
  | ldA (n : Nat) (x : Opd)
  | st (n : Nat) (a x : Opd)
  | nilc (x : Opd)
  | bin (op : BinOp) (x y : Opd)
  | binB (op : BinOp) (x y : Opd)
  | binI (op : BinOp) (x y : Opd)
  | binF (op : BinOp) (ks : List TK) (x y : Opd)
  | un (op : UnOp) (x : Opd)
  | cvI (k : IntKind) (x : Opd)
  | cvM (x : Opd)
  | cvB (x : Opd)
  | cvS (x : Opd)
  | cvP (x : Opd)
  | mkI (t : TypeId) (x : Opd)
  | mkS (rw : Bool) (by_ : Nat) (z : List AV) (l c : Opd)
  | sliS (x : Opd) (lo hi : Option Opd)
  | sliL (sz : Nat) (x : Opd) (lo hi : Option Opd)
  | fa (off : Nat) (x : Opd)
  | fl (off : Nat) (x : Opd)
  | flA (off n : Nat) (x : Opd)
  | ia (sz : Nat) (x i : Opd)
  | ix (x i : Opd)
  | ext (x : Opd) (i : Nat)
  | lenS (x : Opd)
  | lenL (x : Opd)
  | app (rw : Bool) (by_ sz : Nat) (s x : Opd)
  | appI (bt sz : Nat) (s x : Opd)
  | emp
  | max (xs : List Opd)
  | min (xs : List Opd)
  | callP (g : FuncId) (xs : List Opd)
  | callW (g : FuncId) (xs : List Opd)
  | callD (g : FuncId) (th : Bool) (xs : List Opd)
  | callS (g : FuncId) (xs : List Opd)
  | callK (g : FuncId) (xs : List Opd)
  | callU (g : FuncId) (xs : List Opd)
  | callC (g : FuncId) (xs : List Opd)
  | callCZ (g : FuncId) (xs : List Opd)
  | callWZ (g : FuncId) (xs : List Opd)
  | ldG (x : Opd)
  | ldAG (n : Nat) (x : Opd)
structure SOper where
  dst : Option Nat
  guard : Option (Nat × Bool)
  op : SOp
inductive SCode where
  | skip
  | rg (ops : List SOper)
  | seq (a b : SCode)
  | cond (c : Opd) (a b : SCode)
  | blk (id : Nat) (a : SCode)
  | loop (a : SCode)
  | exit (id : Nat)
  | ret
inductive SRes where
  | t (n : Nat)
  | ld (n : Nat)
  | ldA (n k : Nat)
structure SFn where
  nt : Nat
  body : SCode
  res : List SRes
abbrev Ps:= Nat → AV
def upd (e : Ps) (d : Nat) (v : AV) : Ps:= fun i => if i = d then v else e i
def upd? (e : Ps) (d : Option Nat) (v : AV) : Ps:= match d with | some d => upd e d v | none => e
def Opd.ev (e : Ps) : Opd → AV
  | .t n => e n
  | .c v => v
def sFill (cs : List AV) : List (Nat × Nat × AV) → Option (List AV)
  | [] => some cs
  | (off,n,v) :: r => if (!notCell v || isAggV v) = true ∧ n = v.cells.length ∧ off + v.cells.length ≤ cs.length then sFill (fillAt cs off v.cells) r else none
def sIdxL (sz : Nat) (x : AV) (lo hi : Option AV) : Option AV:=
  match x with
  | .snil => (asNat 0 hi 0).bind fun h => (asNat h lo 0).bind fun _ => some (.imm [])
  | .imm rows => if headLen sz rows then (asNat rows.length hi rows.length).bind fun h => (asNat h lo 0).bind fun l => some (.imm ((rows.take h).drop l)) else none
  | .app _ rows => if headLen sz rows then (asNat rows.length hi rows.length).bind fun h => (asNat h lo 0).bind fun l => some (.imm ((rows.take h).drop l)) else none
  | .sl r off len s => if s ≠ sz then none else (asNat len hi len).bind fun h => (asNat h lo 0).bind fun l => if l < len ∨ l = 0 then some (.sl r (off + l * sz) (h - l) sz) else none
  | _ => none
def sIdxS (x : AV) (lo hi : Option AV) : Option AV:=
  match x with
  | .str s => (asNat s.length hi s.length).bind fun h => (asNat h lo 0).bind fun l => some (.str ((s.take h).drop l))
  | _ => none
def sBin (op : BinOp) (x y : AV) : Option AV:=
  match x,y with
  | .int k a,.int k' b =>
    match op with
    | .shl | .shr => evShift op k a b
    | _ => if k = k' then evInt op k a b else none
  | .str a,.str b => evStr op a b
  | _,_ => none
def sBinB (op : BinOp) (x y : AV) : Option AV:=
  match op,x,y with
  | .eql,.bool a,.bool b => some (.bool (a == b))
  | .neq,.bool a,.bool b => some (.bool (!(a == b)))
  | _,_,_ => none
def isC : Opd → Bool
  | .c .inil => true
  | _ => false
def sBinI (op : BinOp) (kk : Bool) (x y : AV) : Option AV:=
  match op,x,y with
  | .eql,.ifc _ _,.inil | .eql,.inil,.ifc _ _ => some (.bool false)
  | .neq,.ifc _ _,.inil | .neq,.inil,.ifc _ _ => some (.bool true)
  | .eql,.inil,.inil => if kk then some (.bool true) else none
  | .neq,.inil,.inil => if kk then some (.bool false) else none
  | _,_,_ => none
def sBinF (op : BinOp) (ks : List TK) (x y : AV) : Option AV:=
  match op,x,y with
  | .eql,.agg a,.agg b => (eqCells ks a b).map .bool
  | .neq,.agg a,.agg b => (eqCells ks a b).map fun e => .bool (!e)
  | _,_,_ => none
def sMake (rw : Bool) (bt : Nat) (z : List AV) (len cap : AV) (h : Hp) : Option (AV × Hp):=
  match len,cap with
  | .int _ l,.int _ c =>
    if 0 ≤ l ∧ l ≤ c ∧ c ≤ 9223372036854775807 ∧ (bt : Int) * c ≤ room then
      if rw then some (.sl h.nx 0 l.toNat z.length,h.new (List.replicate l.toNat z).flatten)
      else (frzCells z).bind fun z' => some (.app h.nx (List.replicate l.toNat z'),h.newApp l.toNat z.length)
    else none
  | _,_ => none
def sApp (rw : Bool) (bt sz : Nat) (s x : AV) (h : Hp) : Option (AV × Hp):=
  (rowsIn h sz x).bind fun more =>
  if headLen sz more then
  match s with
  | .snil =>
    if more.isEmpty then some (.snil,h) else
    if more.length * bt ≤ room then
      if rw then some (.sl h.nx 0 more.length sz,h.new more.flatten)
      else (frzRows more).bind fun more' => some (.app h.nx more',h.newApp more'.length sz)
    else none
  | .app id rows =>
    if rw then none else
    if h.ap id = some (rows.length,sz) ∧ (rows.length + more.length) * bt ≤ room then
      (frzRows more).bind fun more' => some (.app id (rows ++ more'),h.setApp id (rows.length + more'.length) sz)
    else none
  | .sl r off len s =>
    if rw ∧ off = 0 ∧ s = sz then (h.hp r).bind fun cs =>
      if cs.length = len * sz ∧ (len + more.length) * bt ≤ room then
        some (.sl h.nx 0 (len + more.length) sz,(h.kill r).new (cs ++ more.flatten))
      else if len * sz < cs.length ∧ (len + more.length) * bt ≤ room then
        some (.sl h.nx 0 (len + more.length) sz,(h.kill r).new (cs.take (len * sz) ++ more.flatten))
      else none
    else none
  | _ => none
  else none
def sAppI (bt sz : Nat) (s x : AV) (h : Hp) : Option (AV × Hp):=
  match s with
  | .snil => (sApp false bt sz .snil x h).bind fun p => match p.1 with
    | .snil => some (.snil,h)
    | .app _ rows => some (.imm rows,h)
    | _ => none
  | .semp => (sApp false bt sz .snil x h).bind fun p => match p.1 with
    | .snil => some (.semp,h)
    | .app _ rows => some (.imm rows,h)
    | _ => none
  | _ => none
noncomputable def sX (E : Env) (call : CallH) (ρ : Opd → AV) (op : SOp) (h : Hp) : Option (AV × Hp):=
  match op with
  | .mv x => some (ρ x,h)
  | .pick c a b => match ρ c with | .bool t => some (if t then ρ a else ρ b,h) | _ => none
  | .alloc z => some (.ptr h.nx 0,h.new z)
  | .box x => if notCell (ρ x) && !isAggV (ρ x) then none else some (.ptr h.nx 0,h.new (ρ x).cells)
  | .build z ps => (sFill z (ps.map fun p => (p.1,p.2.1,ρ p.2.2))).map fun cs => (.agg cs,h)
  | .bslice rw z len ps => (fillR (List.replicate len z) z.length (ps.map fun p => (p.1,ρ p.2))).bind fun rows =>
      if rw then some (.sl h.nx 0 len z.length,h.new rows.flatten)
      else (frzRows rows).bind fun rows' => some (.app h.nx rows',h.newApp len z.length)
  | .ld x => match ρ x with
    | .ptr r off => (h.hp r).bind fun cs => if off ≤ cs.length then (cs.drop off).head?.map fun v => (v,h) else none
    | .cptr cs => cs.head?.map fun v => (v,h)
    | _ => none
  | .ldA n x => match ρ x with
    | .ptr r off => (h.hp r).bind fun cs => if off ≤ cs.length then (if n ≤ (cs.drop off).length then some (.agg ((cs.drop off).take n),h) else none) else none
    | .cptr cs => if n ≤ cs.length then some (.agg (cs.take n),h) else none
    | _ => none
  | .st n a x => match ρ a with
    | .ptr r off => (h.hp r).bind fun cs =>
      if n = (ρ x).cells.length ∧ off + (ρ x).cells.length ≤ cs.length ∧ !(ρ x).cells.any notCell then some (.tup [],h.set r (splice cs off (ρ x).cells)) else none
    | _ => none
  | .nilc x => match ρ x with | .ptr r off => some (.ptr r off,h) | .cptr cs => some (.cptr cs,h) | _ => none
  | .bin op x y => (sBin op (ρ x) (ρ y)).map fun v => (v,h)
  | .binB op x y => (sBinB op (ρ x) (ρ y)).map fun v => (v,h)
  | .binI op x y => (sBinI op (isC x || isC y) (ρ x) (ρ y)).map fun v => (v,h)
  | .binF op ks x y => (sBinF op ks (ρ x) (ρ y)).map fun v => (v,h)
  | .un op x => (evUn op (ρ x)).map fun v => (v,h)
  | .cvI k x => match ρ x with | .int _ n => some (.int k (k.wrap n),h) | _ => none
  | .cvM x => match ρ x with | .str s => some (.str s,h) | _ => none
  | .cvB x => match ρ x with | .str s => some (.imm (s.map byteRow),h) | _ => none
  | .cvS x => if notStr (ρ x) = true then (rowsIn h 1 (ρ x)).bind fun rows => (rowsBytes rows).map fun s => (.str s,h) else none
  | .cvP x => if notStr (ρ x) = true then (asRows (ρ x)).bind fun rows => (rowsBytes rows).map fun s => (.str s,h) else none
  | .mkI t x => some (.ifc t (ρ x),h)
  | .mkS rw bt z l c => sMake rw bt z (ρ l) (ρ c) h
  | .sliS x lo hi => (sIdxS (ρ x) (lo.map ρ) (hi.map ρ)).map fun v => (v,h)
  | .sliL sz x lo hi => (sIdxL sz (ρ x) (lo.map ρ) (hi.map ρ)).map fun v => (v,h)
  | .fa off x => match ρ x with
    | .ptr r o => some (.ptr r (o + off),h)
    | .cptr cs => some (.cptr (cs.drop off),h)
    | _ => none
  | .fl off x => match ρ x with | .agg cs => (cs[off]?).map fun v => (v,h) | _ => none
  | .flA off n x => match ρ x with | .agg cs => some (.agg ((cs.drop off).take n),h) | _ => none
  | .ia sz x i => match ρ i with
    | .int _ j => if 0 ≤ j then match ρ x with
        | .imm rows => (rows[j.toNat]?).bind fun row => if row.length = sz then some (.cptr row,h) else none
        | .app _ rows => (rows[j.toNat]?).bind fun row => if row.length = sz then some (.cptr row,h) else none
        | .sl r off len s => if j.toNat < len ∧ s = sz then some (.ptr r (off + j.toNat * sz),h) else none
        | _ => none
      else none
    | _ => none
  | .ix x i => match ρ x,ρ i with
    | .str s,.int _ j => if 0 ≤ j then (s[j.toNat]?).map fun b => (.int .u8 b.toNat,h) else none
    | _,_ => none
  | .ext x i => match ρ x with | .tup vs => (vs[i]?).map fun v => (v,h) | _ => none
  | .lenS x => match ρ x with | .str s => some (.int .i64 s.length,h) | _ => none
  | .lenL x => match ρ x with
    | .snil => some (.int .i64 0,h)
    | .semp => some (.int .i64 0,h)
    | .imm rows => some (.int .i64 rows.length,h)
    | .app _ rows => some (.int .i64 rows.length,h)
    | .sl _ _ len _ => some (.int .i64 len,h)
    | _ => none
  | .app rw bt sz s x => sApp rw bt sz (ρ s) (ρ x) h
  | .appI bt sz s x => sAppI bt sz (ρ s) (ρ x) h
  | .emp => some (.semp,h)
  | .max xs => match xs.map ρ with | .int k a :: r => (evMinMax (fun a b => if b > a then b else a) k a r).map fun v => (v,h) | _ => none
  | .min xs => match xs.map ρ with | .int k a :: r => (evMinMax (fun a b => if b < a then b else a) k a r).map fun v => (v,h) | _ => none
  | .callP g xs => (E.T g).bind fun F => (frzAll (xs.map ρ)).bind fun args => (F args).map fun v => thaw (E.fr g) v h
  | .callW g xs => call g (xs.map ρ) h
  | .callD g th xs => (E.T g).bind fun F => deepC F th (xs.map ρ) h
  | .callK g xs => dnO h (call g (xs.map ρ) h)
  | .callU g xs => upO h (call g (xs.map ρ) h)
  | .callC g xs => cuO h (call g (xs.map ρ) h)
  | .callCZ g xs => cuO h (zfz h (call g (xs.map ρ) h))
  | .callWZ g xs => zfz h (call g (xs.map ρ) h)
  | .ldG x => if cuP (ρ x) h = true then none else match ρ x with
    | .ptr r off => (h.hp r).bind fun cs => if off ≤ cs.length then (cs.drop off).head?.map fun v => (v,h) else none
    | .cptr cs => cs.head?.map fun v => (v,h)
    | _ => none
  | .ldAG n x => if cuP (ρ x) h = true then none else match ρ x with
    | .ptr r off => (h.hp r).bind fun cs => if off ≤ cs.length then (if n ≤ (cs.drop off).length then some (.agg ((cs.drop off).take n),h) else none) else none
    | .cptr cs => if n ≤ cs.length then some (.agg (cs.take n),h) else none
    | _ => none
  | .callS g xs => (E.T g).bind fun F => sortC F (xs.map ρ) h
def sWant (g : Option (Nat × Bool)) (e : Ps) : Option Bool:=
  match g with
  | none => some true
  | some (d,want) => match e d with
    | .bool b => some (b == want)
    | .tup [] => some false
    | _ => none
noncomputable def sOper (E : Env) (call : CallH) (o : SOper) (e : Ps) (h : Hp) : Option (Ps × Hp):=
  (sWant o.guard e).bind fun w =>
    if w then (sX E call (Opd.ev e) o.op h).map fun p => (upd? e o.dst p.1,p.2)
    else some (upd? e o.dst (.tup []),h)
noncomputable def sOps (E : Env) (call : CallH) : List SOper → Ps → Hp → Option (Ps × Hp)
  | [],e,h => some (e,h)
  | o :: r,e,h => (sOper E call o e h).bind fun p => sOps E call r p.1 p.2
abbrev SR:= Option (Ex × Ps × Hp)
def sSeq (r : SR) (k : Ps → Hp → SR) : SR:= r.bind fun p => match p.1 with
  | .norm => k p.2.1 p.2.2
  | x => some (x,p.2)
def sBlk (id : Nat) (r : SR) : SR:= r.bind fun p => match p.1 with
  | .exit j => if j = id then some (.norm,p.2) else some (.exit j,p.2)
  | x => some (x,p.2)
abbrev SLoop:= SCode → Ps → Hp → SR
noncomputable def sC (E : Env) (call : CallH) (loop : SLoop) : SCode → Ps → Hp → SR
  | .skip,e,h => some (.norm,e,h)
  | .rg ops,e,h => (sOps E call ops e h).bind fun p => some (.norm,p.1,p.2)
  | .seq a b,e,h => sSeq (sC E call loop a e h) fun e' h' => sC E call loop b e' h'
  | .cond c a b,e,h => (asB (c.ev e)).bind fun t => if t then sC E call loop a e h else sC E call loop b e h
  | .blk id a,e,h => sBlk id (sC E call loop a e h)
  | .loop a,e,h => loop a e h
  | .exit id,e,h => some (.exit id,e,h)
  | .ret,e,h => some (.ret,e,h)
def sRes (e : Ps) (h : Hp) : List SRes → Option (List AV)
  | [] => some []
  | .t n :: r => (sRes e h r).map fun l => e n :: l
  | .ld n :: r => match e n with
    | .ptr q off => (h.hp q).bind fun cs => if off ≤ cs.length then ((cs.drop off).head?).bind fun v => (sRes e h r).map fun l => v :: l else none
    | _ => none
  | .ldA n k :: r => match e n with
    | .ptr q off => (h.hp q).bind fun cs => if off ≤ cs.length then (if k ≤ (cs.drop off).length then some (.agg ((cs.drop off).take k)) else none).bind fun v => (sRes e h r).map fun l => v :: l else none
    | _ => none
def sRet (rs : List SRes) (r : SR) : Option (AV × Hp):= r.bind fun p => match p.1 with
  | .exit _ => none
  | _ => (sRes p.2.1 p.2.2 rs).bind fun l => some (evResult l,p.2.2)
def stO : Operand → Opd
  | .tmp t => .t t
  | .const v => .c (absV v)
  | _ => .c .unk
def stParts (P : Program) (t : TypeId) : List (Nat × Operand) → Option (List (Nat × Nat × Opd))
  | [] => some []
  | (i,x) :: r => (fldT P t i).bind fun p => (szT P p.2).bind fun n => (stParts P t r).map fun l => (p.1,n,stO x) :: l
def stX (E : Env) (f : FuncId) (dst : Option Tmp) (op : Op) : Option SOp:=
  let rw : Bool:= rwOf E f dst
  match op with
  | .move x => some (.mv (stO x))
  | .assign x => some (.mv (stO x))
  | .pick c a b => some (.pick (stO c) (stO a) (stO b))
  | .alloc t => (zeroT E.P t).bind fun z => if z.any notCell then none else some (.alloc z)
  | .box _ x => some (.box (stO x))
  | .build t ps => if infoT E.P t then (zeroT E.P t).bind fun z => if z.any notCell then none else (stParts E.P t ps.toList).map fun l => .build z l else none
  | .buildSlice t len ps => (elT E.P t).bind fun e => (szT E.P e).bind fun sz => (zeroT E.P e).bind fun z =>
    if z.length = sz ∧ sz ≠ 0 ∧ len * sz ≤ 16777216 ∧ !z.any notCell then (if imOf E f dst then (if len = 0 ∧ ps.toList.isEmpty = true then some .emp else none) else some (.bslice rw z len (ps.toList.map fun p => (p.1,stO p.2)))) else none
  | .load t a => match aggT E.P t,szT E.P t with
    | some true,some n => if glOf E f dst then some (.ldAG n (stO a)) else some (.ldA n (stO a))
    | some false,some _ => if glOf E f dst then some (.ldG (stO a)) else some (.ld (stO a))
    | _,_ => none
  | .store t a x => (szT E.P t).map fun n => .st n (stO a) (stO x)
  | .nilCheck x => some (.nilc (stO x))
  | .binOp op t x y _ => match kindT E.P t with
    | .bool => some (.binB op (stO x) (stO y))
    | .iface => some (.binI op (stO x) (stO y))
    | .other => (flatT E.P t).map fun ks => .binF op ks (stO x) (stO y)
    | _ => some (.bin op (stO x) (stO y))
  | .unOp op _ x => some (.un op (stO x))
  | .convert src dt x => match kindT E.P src,kindT E.P dt with
    | .int _,.int k => some (.cvI k (stO x))
    | .str,.str => some (.cvM (stO x))
    | .str,.slice e => if kindT E.P e = .int .u8 then some (.cvB (stO x)) else none
    | .slice e,.str => if kindT E.P e = .int .u8 then (if cvOf E f dst then some (.cvP (stO x)) else some (.cvS (stO x))) else none
    | _,_ => none
  | .makeInterface t x => if E.P.concrete t then some (.mkI t (stO x)) else none
  | .makeSlice t l c => (elT E.P t).bind fun e => (szT E.P e).bind fun sz => (zeroT E.P e).bind fun z =>
    if z.length = sz ∧ sz ≠ 0 ∧ !z.any notCell then some (.mkS rw (byT E.P e) z (stO l) (stO c)) else none
  | .slice t x lo hi none => match kindT E.P t with
    | .str => some (.sliS (stO x) (lo.map stO) (hi.map stO))
    | .slice e => (szT E.P e).map fun sz => .sliL sz (stO x) (lo.map stO) (hi.map stO)
    | _ => none
  | .fieldAddr s x k => (offT E.P s k).map fun off => .fa off (stO x)
  | .field s x k => (fldT E.P s k).bind fun p => match aggT E.P p.2,szT E.P p.2 with
    | some true,some n => some (.flA p.1 n (stO x))
    | some false,_ => some (.fl p.1 (stO x))
    | _,_ => none
  | .indexAddr t x i => match kindT E.P t with
    | .slice e => (szT E.P e).map fun sz => .ia sz (stO x) (stO i)
    | _ => none
  | .index t x i => match kindT E.P t with
    | .str => some (.ix (stO x) (stO i))
    | _ => none
  | .extract x i => some (.ext (stO x) i)
  | .call c =>
    match c.callee with
    | .builtin .len => match c.args.toList,(c.argTypes[0]?).map (kindT E.P) with
      | [x],some .str => some (.lenS (stO x))
      | [x],some (.slice _) => some (.lenL (stO x))
      | _,_ => none
    | .builtin .append => match c.args.toList,(c.argTypes[0]?).bind (elT E.P),(c.argTypes[1]?).map (kindT E.P) with
      | _,_,some (.int _) => none
      | [s,x],some e,some _ => (szT E.P e).bind fun sz => (zeroT E.P e).bind fun z =>
        if sz ≠ 0 ∧ c.argTypes.size = 2 ∧ ((c.argTypes[1]?).bind E.P.underlying).isSome = true ∧ z.length = sz ∧ (!z.any notCell) = true ∧ byT E.P e ≠ 0 then some (if imOf E f dst then .appI (byT E.P e) sz (stO s) (stO x) else .app rw (byT E.P e) sz (stO s) (stO x)) else none
      | _,_,_ => none
    | .builtin .max => some (.max (c.args.toList.map stO))
    | .builtin .min => some (.min (c.args.toList.map stO))
    | .value (.func g) => if (E.T g).isSome then (if E.dp g = 0 then some (.callP g (c.args.toList.map stO)) else if E.dp g = 3 then some (.callS g (c.args.toList.map stO)) else some (.callD g (E.dp g == 1 && rwOf E f dst) (c.args.toList.map stO))) else if E.dp g = 7 then (if zfOf E f dst = true then none else some (.callK g (c.args.toList.map stO))) else if E.dp g = 8 then (if zfOf E f dst = true then none else some (.callU g (c.args.toList.map stO))) else if E.dp g = 9 then (if zfOf E f dst = true then some (.callCZ g (c.args.toList.map stO)) else some (.callC g (c.args.toList.map stO))) else if zfOf E f dst = true then some (.callWZ g (c.args.toList.map stO)) else some (.callW g (c.args.toList.map stO))
    | _ => none
  | _ => none
def dstOk (nt : Nat) : Option Nat → Bool
  | some d => decide (d < nt)
  | none => true
def stOper (E : Env) (f : FuncId) (nt : Nat) (ops : Array Oper) (o : Oper) : Option SOper:=
  if dstOk nt o.dst then
    match o.guard with
    | none => (stX E f o.dst o.op).map fun s => ⟨o.dst,none,s⟩
    | some (j,want) => ((ops[j]?).bind (·.dst)).bind fun d => (stX E f o.dst o.op).map fun s => ⟨o.dst,some (d,want),s⟩
  else none
def stOps (E : Env) (f : FuncId) (nt : Nat) (ops : Array Oper) : List Oper → Option (List SOper)
  | [] => some []
  | o :: r => (stOper E f nt ops o).bind fun s => (stOps E f nt ops r).map fun l => s :: l
def stC (E : Env) (f : FuncId) (nt : Nat) : Code → Option SCode
  | .skip => some .skip
  | .region _ ops draw => if draw && !drawOk E f ops then none else (stOps E f nt ops ops.toList).map .rg
  | .seq a b => (stC E f nt a).bind fun x => (stC E f nt b).map fun y => .seq x y
  | .cond c a b => (stC E f nt a).bind fun x => (stC E f nt b).map fun y => .cond (stO c) x y
  | .block id a => (stC E f nt a).map fun x => .blk id x
  | .loop a => (stC E f nt a).map .loop
  | .exit id => some (.exit id)
  | .ret => some .ret
  | _ => none
def stRes (P : Program) : List ResultVar → Option (List SRes)
  | [] => some []
  | .tmp t :: r => (stRes P r).map fun l => .t t :: l
  | .cell a t :: r => match aggT P t,szT P t with
    | some true,some n => (stRes P r).map fun l => .ldA a n :: l
    | some false,some _ => (stRes P r).map fun l => .ld a :: l
    | _,_ => none
def stF (E : Env) (f : FuncId) : Option SFn:=
  (E.P.funcs[f]?).bind fun fn => fn.body.bind fun c => if fn.name == "runtime.NumGoroutine" then none else
    (stC E f fn.ntmps c).bind fun s => (stRes E.P fn.results.toList).map fun r => ⟨fn.ntmps,s,r⟩
noncomputable def sBody (E : Env) (call : CallH) (loop : SLoop) (s : SFn) (args : List AV) (h : Hp) : Option (AV × Hp):= sRet s.res (sC E call loop s.body (fun i => args.getD i (.tup [])) h)
noncomputable def sev (E : Env) : Nat → CallH × SLoop
  | 0 => (fun _ _ _ => none,fun _ _ _ => none)
  | k + 1 =>
    (fun g args h => (stF E g).bind fun s => sBody E (sev E k).1 (sev E k).2 s args h,
     fun body e h => sSeq (sC E (sev E k).1 (sev E k).2 body e h) fun e' h' => (sev E k).2 body e' h')
end Go.Ev
namespace Go.Ev
open Go Go.RowKit
section
variable {E : Env} {call scall : CallH} {f : FuncId} {dst : Option Tmp} {ρ : Operand → AV} {σ : Opd → AV} {h h' : Hp} {v : AV}
theorem sFill_eq {P : Program} {t : TypeId} : ∀ (ps : List (Nat × Operand)) (l : List (Nat × Nat × Opd)) (cs cs' : List AV),stParts P t ps = some l → (∀ x,σ (stO x) = ρ x) → sFill cs (l.map fun p => (p.1,p.2.1,σ p.2.2)) = some cs' → fillF P t cs (ps.map fun p => (p.1,ρ p.2)) = some cs'
  | [],l,cs,cs',hl,hσ,hh => by
    simp only [stParts,Option.some.injEq] at hl
    subst hl
    simpa [sFill,fillF] using hh
  | (i,x) :: ps,l,cs,cs',hl,hσ,hh => by
    simp only [stParts,Option.bind_eq_some_iff,Option.map_eq_some_iff] at hl
    obtain ⟨p,h1,n,h2,l',h3,rfl⟩:= hl
    simp only [List.map_cons,sFill,hσ] at hh
    split at hh
    case isFalse => cases hh
    rename_i hc
    simp only [List.map_cons,fillF,h1]
    rw [if_pos ⟨hc.1,by rw [h2,hc.2.1],hc.2.2⟩]
    exact sFill_eq ps l' _ cs' h3 hσ hh
theorem sIdxL_eq {P : Program} {t e : TypeId} {sz : Nat} {x : AV} {lo hi : Option AV} (hk : kindT P t = .slice e) (hs : szT P e = some sz) (hh : sIdxL sz x lo hi = some v) : evSlice P t x lo hi = some v:= by
  unfold evSlice
  rw [hk]
  cases x <;> simp only [sIdxL] at hh <;> first
    | cases hh
    | (simp only [hs,Option.bind_some];exact hh)
theorem sApp_eq {P : Program} {rw : Bool} {argTypes : Array TypeId} {e : TypeId} {xk : TK} {sz : Nat} {z : List AV} {s x : AV} (h0 : (argTypes[0]?).bind (elT P) = some e) (h1 : (argTypes[1]?).map (kindT P) = some xk) (hn : ∀ k,xk ≠ .int k) (h2 : szT P e = some sz) (h3 : zeroT P e = some z)
    (hc : sz ≠ 0 ∧ argTypes.size = 2 ∧ ((argTypes[1]?).bind P.underlying).isSome = true ∧ z.length = sz ∧ (!z.any notCell) = true ∧ byT P e ≠ 0) : evAppend P rw argTypes s x h = sApp rw (byT P e) sz s x h:= by
  unfold evAppend
  rw [h0,h1]
  cases xk <;> first
    | exact absurd rfl (hn _)
    | (simp only [h2,h3,Option.bind_some];rw [if_neg hc.1,if_pos hc.2];rfl)
theorem sX_sound {op : Op} {s : SOp} (hs : stX E f dst op = some s) (hσ : ∀ x,σ (stO x) = ρ x) (hc : ∀ g as k v k',scall g as k = some (v,k') → call g as k = some (v,k'))
    (hx : sX E scall σ s h = some (v,h')) : evX E call f dst ρ op h = some (v,h'):= by
  have hm : ∀ l : List Operand,(l.map stO).map σ = l.map ρ:= fun l => by rw [List.map_map];exact List.map_congr_left fun x _ => hσ x
  have ho : ∀ o : Option Operand,(o.map stO).map σ = o.map ρ:= fun o => by cases o <;> simp [hσ]
  cases op <;> simp only [stX] at hs <;> first
    | (cases hs;done)
    | skip
  case move x => injection hs with hs;subst hs;simpa [sX,evX,hσ] using hx
  case assign x => injection hs with hs;subst hs;simpa [sX,evX,hσ] using hx
  case pick c a b => injection hs with hs;subst hs;simp only [sX,hσ] at hx;simp only [evX];exact hx
  case alloc t =>
    simp only [Option.bind_eq_some_iff] at hs
    obtain ⟨z,hz,hs⟩:= hs
    split at hs
    · cases hs
    · rename_i hn
      injection hs with hs;subst hs
      simp only [evX,hz,Option.bind_some]
      rw [if_neg hn]
      simpa only [sX] using hx
  case box t x => injection hs with hs;subst hs;simp only [sX,hσ] at hx;simp only [evX];exact hx
  case build t ps =>
    split at hs
    case isFalse => cases hs
    rename_i hi
    simp only [Option.bind_eq_some_iff] at hs
    obtain ⟨z,hz,hs⟩:= hs
    split at hs
    · cases hs
    · rename_i hn
      simp only [Option.map_eq_some_iff] at hs
      obtain ⟨l,hl,rfl⟩:= hs
      simp only [sX,Option.map_eq_some_iff,Prod.mk.injEq] at hx
      obtain ⟨cs,h1,h2,h3⟩:= hx
      simp only [evX]
      rw [if_pos hi,hz]
      simp only [Option.bind_some]
      rw [if_neg hn,sFill_eq _ l z cs hl hσ h1]
      simp [h2,h3]
  case buildSlice t n ps =>
    simp only [Option.bind_eq_some_iff] at hs
    obtain ⟨e,h1,sz,h2,z,h3,hs⟩:= hs
    split at hs
    case isFalse => cases hs
    rename_i hcnd
    have e1 : (ps.toList.map fun p => (p.1,stO p.2)).map (fun p => (p.1,σ p.2)) = ps.toList.map fun p => (p.1,ρ p.2):= by
      rw [List.map_map]
      exact List.map_congr_left fun p _ => by simp [hσ]
    split at hs
    · rename_i him
      split at hs
      case isFalse => cases hs
      rename_i hl
      injection hs with hs;subst hs
      have hps : ps.toList = []:= by simpa using hl.2
      simp only [sX] at hx
      obtain ⟨rfl,hl2⟩:= hl
      simp only [evX,h1,h2,h3,Option.bind_some]
      rw [if_pos hcnd,hps]
      simp only [him,if_true,List.map_nil,List.replicate,fillR,Option.bind_some]
      exact hx
    rename_i him
    injection hs with hs;subst hs
    simp only [sX,e1] at hx
    rw [hcnd.1] at hx
    simp only [evX,h1,h2,h3,Option.bind_some]
    rw [if_pos hcnd]
    simp only [him,if_false,Bool.false_eq_true]
    exact hx
  case load t a =>
    split at hs
    · rename_i n ha hn
      split at hs
      · rename_i hgl
        injection hs with hs;subst hs
        simp only [sX,hσ] at hx
        split at hx
        · cases hx
        rename_i hcu
        simp only [evX]
        rw [if_neg (show ¬ (glOf E f dst && cuP (ρ a) h) = true by rw [Bool.and_eq_true];exact fun hh => hcu hh.2)]
        generalize ρ a = q at hx ⊢
        split at hx
        · simp only [Option.bind_eq_some_iff] at hx ⊢
          obtain ⟨cs,k1,hx⟩:= hx
          refine ⟨cs,k1,?_⟩
          split at hx
          case isFalse => cases hx
          rename_i k2
          split at hx
          case isFalse => cases hx
          rename_i k3
          rw [if_pos k2]
          simp only [evLoad,ha,hn]
          rw [if_pos k3]
          exact hx
        · split at hx
          case isFalse => cases hx
          rename_i k3
          simp only [evLoad,ha,hn]
          rw [if_pos k3]
          exact hx
        · cases hx
      · rename_i hgl
        injection hs with hs;subst hs
        simp only [sX,hσ] at hx
        simp only [evX]
        rw [if_neg (show ¬ (glOf E f dst && cuP (ρ a) h) = true by rw [Bool.and_eq_true];exact fun hh => hgl hh.1)]
        generalize ρ a = q at hx ⊢
        split at hx
        · simp only [Option.bind_eq_some_iff] at hx ⊢
          obtain ⟨cs,k1,hx⟩:= hx
          refine ⟨cs,k1,?_⟩
          split at hx
          case isFalse => cases hx
          rename_i k2
          split at hx
          case isFalse => cases hx
          rename_i k3
          rw [if_pos k2]
          simp only [evLoad,ha,hn]
          rw [if_pos k3]
          exact hx
        · split at hx
          case isFalse => cases hx
          rename_i k3
          simp only [evLoad,ha,hn]
          rw [if_pos k3]
          exact hx
        · cases hx
    · rename_i n ha hn
      split at hs
      · rename_i hgl
        injection hs with hs;subst hs
        simp only [sX,hσ] at hx
        split at hx
        · cases hx
        rename_i hcu
        simp only [evX]
        rw [if_neg (show ¬ (glOf E f dst && cuP (ρ a) h) = true by rw [Bool.and_eq_true];exact fun hh => hcu hh.2)]
        generalize ρ a = q at hx ⊢
        split at hx
        · simp only [Option.bind_eq_some_iff] at hx ⊢
          obtain ⟨cs,k1,hx⟩:= hx
          refine ⟨cs,k1,?_⟩
          split at hx
          case isFalse => cases hx
          rename_i k2
          rw [if_pos k2]
          simp only [evLoad,ha,hn]
          exact hx
        · simp only [evLoad,ha,hn]
          exact hx
        · cases hx
      · rename_i hgl
        injection hs with hs;subst hs
        simp only [sX,hσ] at hx
        simp only [evX]
        rw [if_neg (show ¬ (glOf E f dst && cuP (ρ a) h) = true by rw [Bool.and_eq_true];exact fun hh => hgl hh.1)]
        generalize ρ a = q at hx ⊢
        split at hx
        · simp only [Option.bind_eq_some_iff] at hx ⊢
          obtain ⟨cs,k1,hx⟩:= hx
          refine ⟨cs,k1,?_⟩
          split at hx
          case isFalse => cases hx
          rename_i k2
          rw [if_pos k2]
          simp only [evLoad,ha,hn]
          exact hx
        · simp only [evLoad,ha,hn]
          exact hx
        · cases hx
    · cases hs
  case store t a x =>
    simp only [Option.map_eq_some_iff] at hs
    obtain ⟨n,hn,rfl⟩:= hs
    simp only [sX,hσ] at hx
    simp only [evX]
    generalize ρ a = q at hx ⊢
    split at hx
    · simp only [Option.bind_eq_some_iff] at hx ⊢
      obtain ⟨cs,k1,hx⟩:= hx
      refine ⟨cs,k1,?_⟩
      split at hx
      case isFalse => cases hx
      rename_i k2
      rw [if_pos ⟨by rw [hn,k2.1],k2.2⟩]
      exact hx
    · cases hx
  case nilCheck x => injection hs with hs;subst hs;simp only [sX,hσ] at hx;simp only [evX];exact hx
  case binOp op t x y p =>
    split at hs
    · rename_i hk
      injection hs with hs;subst hs
      simp only [sX,hσ,Option.map_eq_some_iff,Prod.mk.injEq] at hx
      obtain ⟨u,h1,h2,h3⟩:= hx
      subst h2;subst h3
      simp only [evX]
      revert h1
      generalize ρ x = a
      generalize ρ y = b
      intro h1
      unfold sBinB at h1
      split at h1 <;> first
        | (cases h1;done)
        | (injection h1 with h1;subst h1;simp [evBin,hk])
    · rename_i hk
      injection hs with hs;subst hs
      simp only [sX,hσ,Option.map_eq_some_iff,Prod.mk.injEq] at hx
      obtain ⟨u,h1,h2,h3⟩:= hx
      subst h2;subst h3
      simp only [evX]
      have hkk : (isC (stO x) || isC (stO y)) = true → (isK x || isK y) = true:= by cases x <;> cases y <;> simp [stO,isC,isK]
      revert h1 hkk
      generalize ρ x = a
      generalize ρ y = b
      generalize (isC (stO x) || isC (stO y)) = c1
      generalize (isK x || isK y) = c2
      intro h1 hkk
      unfold sBinI at h1
      split at h1 <;> first
        | (cases h1;done)
        | (injection h1 with h1;subst h1;simp [evBin,hk];done)
        | (split at h1 <;> first
            | (cases h1;done)
            | (rename_i hc;injection h1 with h1;subst h1;simp [evBin,hk,hkk hc]))
    · rename_i hk
      simp only [Option.map_eq_some_iff] at hs
      obtain ⟨ks,hf,rfl⟩:= hs
      simp only [sX,hσ,Option.map_eq_some_iff,Prod.mk.injEq] at hx
      obtain ⟨u,h1,h2,h3⟩:= hx
      subst h2;subst h3
      simp only [evX]
      revert h1
      generalize ρ x = a
      generalize ρ y = b
      intro h1
      unfold sBinF at h1
      split at h1
      · simp only [evBin,hf,h1,Option.map_some]
      · simp only [evBin,hf,h1,Option.map_some]
      · cases h1
    · injection hs with hs;subst hs
      simp only [sX,hσ,Option.map_eq_some_iff,Prod.mk.injEq] at hx
      obtain ⟨u,h1,h2,h3⟩:= hx
      subst h2;subst h3
      simp only [evX]
      revert h1
      generalize ρ x = a
      generalize ρ y = b
      intro h1
      unfold sBin at h1
      split at h1
      · have h2 : evBin E.P op t (isK x || isK y) (.int _ _) (.int _ _) = some u:= h1
        rw [h2]
        rfl
      · simp only [evBin,h1,Option.map_some]
      · cases h1
  case unOp op t x => injection hs with hs;subst hs;simp only [sX,hσ] at hx;simp only [evX];exact hx
  case convert src dt x =>
    simp only [evX]
    split at hs
    · rename_i k0 k hk1 hk2
      injection hs with hs;subst hs
      simp only [sX,hσ] at hx
      split at hx
      · rename_i kk n hn
        rw [hk1,hk2,hn]
        exact hx
      · cases hx
    · rename_i hk1 hk2
      injection hs with hs;subst hs
      simp only [sX,hσ] at hx
      split at hx
      · rename_i n hn
        rw [hk1,hk2,hn]
        exact hx
      · cases hx
    · rename_i e hk1 hk2
      split at hs
      case isFalse => cases hs
      rename_i hk3
      injection hs with hs;subst hs
      simp only [sX,hσ] at hx
      split at hx
      · rename_i n hn
        rw [hk1,hk2,hn]
        simp only
        rw [if_pos hk3]
        exact hx
      · cases hx
    · rename_i e hk1 hk2
      split at hs
      case isFalse => cases hs
      rename_i hk3
      split at hs
      · rename_i hcv
        injection hs with hs;subst hs
        simp only [sX,hσ] at hx
        split at hx
        case isFalse => cases hx
        rename_i hk4
        rw [hk1,hk2]
        simp only
        rw [if_pos ⟨hk3,hk4⟩,if_pos hcv]
        exact hx
      · rename_i hcv
        injection hs with hs;subst hs
        simp only [sX,hσ] at hx
        split at hx
        case isFalse => cases hx
        rename_i hk4
        rw [hk1,hk2]
        simp only
        rw [if_pos ⟨hk3,hk4⟩,if_neg hcv]
        exact hx
    · cases hs
  case makeInterface t x =>
    split at hs
    case isFalse => cases hs
    rename_i hk
    injection hs with hs;subst hs
    simp only [sX,hσ] at hx
    simp only [evX]
    rw [if_pos hk]
    exact hx
  case makeSlice t l c =>
    simp only [Option.bind_eq_some_iff] at hs
    obtain ⟨e,h1,sz,h2,z,h3,hs⟩:= hs
    split at hs
    case isFalse => cases hs
    rename_i hcnd
    injection hs with hs;subst hs
    simp only [sX,hσ,sMake] at hx
    split at hx
    case h_2 => cases hx
    rename_i k1 l' k2 c' e1 e2
    split at hx
    case isFalse => cases hx
    rename_i hq
    rw [hcnd.1] at hx
    simp only [evX,evMake,h1,e1,e2,h2,h3,Option.bind_some]
    rw [if_pos ⟨hq.1,hq.2.1,hq.2.2.1,hq.2.2.2,hcnd⟩]
    exact hx
  case slice t x lo hi mx =>
    cases mx with
    | some m => simp at hs
    | none =>
      simp only at hs
      split at hs
      · rename_i hk
        injection hs with hs;subst hs
        simp only [sX,hσ,ho,Option.map_eq_some_iff,Prod.mk.injEq] at hx
        obtain ⟨u,h1,h2,h3⟩:= hx
        subst h2;subst h3
        simp only [evX]
        unfold sIdxS at h1
        split at h1
        · rename_i q hq
          simp only [evSlice,hk,hq,h1,Option.map_some]
        · cases h1
      · rename_i e hk
        simp only [Option.map_eq_some_iff] at hs
        obtain ⟨sz,hsz,rfl⟩:= hs
        simp only [sX,hσ,ho,Option.map_eq_some_iff,Prod.mk.injEq] at hx
        obtain ⟨u,h1,h2,h3⟩:= hx
        subst h2;subst h3
        simp only [evX]
        rw [sIdxL_eq hk hsz h1]
        rfl
      · cases hs
  case fieldAddr a x k =>
    simp only [Option.map_eq_some_iff] at hs
    obtain ⟨off,h1,rfl⟩:= hs
    simp only [sX,hσ] at hx
    simp only [evX,h1,Option.bind_some]
    exact hx
  case field a x k =>
    simp only [Option.bind_eq_some_iff] at hs
    obtain ⟨p,h1,hs⟩:= hs
    simp only [evX,h1,Option.bind_some]
    split at hs
    · rename_i n ha hn
      injection hs with hs;subst hs
      simp only [sX,hσ] at hx
      split at hx
      · rename_i cs hcs
        rw [hcs]
        simp only [ha,hn]
        exact hx
      · cases hx
    · rename_i ha
      injection hs with hs;subst hs
      simp only [sX,hσ] at hx
      split at hx
      · rename_i cs hcs
        rw [hcs]
        simp only [ha]
        exact hx
      · cases hx
    · cases hs
  case indexAddr t x i =>
    split at hs
    · rename_i e hk
      simp only [Option.map_eq_some_iff] at hs
      obtain ⟨sz,h1,rfl⟩:= hs
      simp only [sX,hσ] at hx
      simp only [evX,hk]
      split at hx
      · rename_i kk j hj
        rw [hj]
        simp only [h1,Option.bind_some]
        exact hx
      · cases hx
    · cases hs
  case index t x i =>
    split at hs
    · rename_i hk
      injection hs with hs;subst hs
      simp only [sX,hσ] at hx
      simp only [evX,hk]
      split at hx
      · rename_i q kk j hq hj
        rw [hq,hj]
        exact hx
      · cases hx
    · cases hs
  case extract x i => injection hs with hs;subst hs;simp only [sX,hσ] at hx;simp only [evX];exact hx
  case call c =>
    simp only [evX]
    split at hs
    · rename_i hcl
      simp only [hcl]
      split at hs
      · rename_i x e1 e2
        injection hs with hs;subst hs
        simp only [sX,hσ] at hx
        simp only [e1,List.map_cons,List.map_nil,evBuiltin,e2]
        split at hx
        · rename_i q hq
          rw [hq]
          exact hx
        · cases hx
      · rename_i x e e1 e2
        injection hs with hs;subst hs
        simp only [sX,hσ] at hx
        simp only [e1,List.map_cons,List.map_nil,evBuiltin,e2]
        generalize ρ x = q at hx ⊢
        split at hx <;> first
          | exact hx
          | cases hx
      · cases hs
    · rename_i hcl
      simp only [hcl]
      split at hs
      · cases hs
      · rename_i a x e k hk e1 e2 e3
        simp only [Option.bind_eq_some_iff] at hs
        obtain ⟨sz,h2,z,h3,hs⟩:= hs
        split at hs
        case isFalse => cases hs
        rename_i hcnd
        injection hs with hs;subst hs
        by_cases him : imOf E f dst = true
        · simp only [him,if_true,sX,hσ] at hx
          simp only [e1,List.map_cons,List.map_nil,isApp,him,Bool.and_self,if_true]
          have hap : ∀ y,evAppend E.P false c.argTypes .snil y h = sApp false (byT E.P e) sz .snil y h:= fun y => sApp_eq e2 e3 (fun kk e => hk kk e) h2 h3 hcnd
          generalize ρ a = q at hx ⊢
          unfold sAppI at hx
          split at hx
          · simp only [evAppI,hap];exact hx
          · simp only [evAppI,hap];exact hx
          · cases hx
        · simp only [him,if_false,Bool.false_eq_true,sX,hσ] at hx
          have hna : (isApp .append && imOf E f dst) = false:= by simpa [isApp] using him
          simp only [e1,List.map_cons,List.map_nil,hna,Bool.false_eq_true,if_false,evBuiltin]
          rw [sApp_eq e2 e3 (fun kk e => hk kk e) h2 h3 hcnd]
          exact hx
      · cases hs
    · rename_i hcl
      injection hs with hs;subst hs
      simp only [sX,hm] at hx
      simp only [hcl]
      split at hx
      · rename_i k n r hr
        rw [hr]
        exact hx
      · cases hx
    · rename_i hcl
      injection hs with hs;subst hs
      simp only [sX,hm] at hx
      simp only [hcl]
      split at hx
      · rename_i k n r hr
        rw [hr]
        exact hx
      · cases hx
    · rename_i g hcl
      simp only [hcl]
      split at hs
      · rename_i hT
        obtain ⟨F,hF⟩:= Option.isSome_iff_exists.1 hT
        split at hs
        · rename_i hdp
          injection hs with hs;subst hs
          simp only [sX,hm] at hx
          rw [hF] at hx ⊢
          simp only [hdp,if_true]
          exact hx
        · rename_i hdp
          split at hs
          · rename_i hd3
            injection hs with hs;subst hs
            simp only [sX,hm] at hx
            rw [hF] at hx ⊢
            simp only [if_neg hdp,if_pos hd3]
            exact hx
          · rename_i hd3
            injection hs with hs;subst hs
            simp only [sX,hm] at hx
            rw [hF] at hx ⊢
            simp only [if_neg hdp,if_neg hd3]
            exact hx
      · rename_i hT
        have hF : E.T g = none:= by simpa using hT
        split at hs
        · rename_i h7
          split at hs
          · cases hs
          rename_i hz
          injection hs with hs;subst hs
          simp only [sX,hm] at hx
          rw [hF]
          simp only [h7,if_true,if_neg hz]
          unfold dnO at hx ⊢
          obtain ⟨p,h1,h2⟩:= Option.bind_eq_some_iff.1 hx
          exact Option.bind_eq_some_iff.2 ⟨p,hc _ _ _ _ _ h1,h2⟩
        · rename_i h7
          split at hs
          · rename_i h8
            split at hs
            · cases hs
            rename_i hz
            injection hs with hs;subst hs
            simp only [sX,hm] at hx
            rw [hF]
            simp only [if_neg h7,if_pos h8,if_neg hz]
            unfold upO at hx ⊢
            obtain ⟨p,h1,h2⟩:= Option.bind_eq_some_iff.1 hx
            exact Option.bind_eq_some_iff.2 ⟨p,hc _ _ _ _ _ h1,h2⟩
          · rename_i h8
            split at hs
            · rename_i h9
              split at hs
              · rename_i hz
                injection hs with hs;subst hs
                simp only [sX,hm] at hx
                rw [hF]
                simp only [if_neg h7,if_neg h8,if_pos h9,if_pos hz]
                unfold cuO zfz at hx ⊢
                obtain ⟨p,h1,h2⟩:= Option.bind_eq_some_iff.1 hx
                obtain ⟨p0,h3,h4⟩:= Option.bind_eq_some_iff.1 h1
                exact Option.bind_eq_some_iff.2 ⟨p,Option.bind_eq_some_iff.2 ⟨p0,hc _ _ _ _ _ h3,h4⟩,h2⟩
              · rename_i hz
                injection hs with hs;subst hs
                simp only [sX,hm] at hx
                rw [hF]
                simp only [if_neg h7,if_neg h8,if_pos h9,if_neg hz]
                unfold cuO at hx ⊢
                obtain ⟨p,h1,h2⟩:= Option.bind_eq_some_iff.1 hx
                exact Option.bind_eq_some_iff.2 ⟨p,hc _ _ _ _ _ h1,h2⟩
            · rename_i h9
              split at hs
              · rename_i hz
                injection hs with hs;subst hs
                simp only [sX,hm] at hx
                rw [hF]
                simp only [if_neg h7,if_neg h8,if_neg h9,if_pos hz]
                unfold zfz at hx ⊢
                obtain ⟨p0,h3,h4⟩:= Option.bind_eq_some_iff.1 hx
                exact Option.bind_eq_some_iff.2 ⟨p0,hc _ _ _ _ _ h3,h4⟩
              · rename_i hz
                injection hs with hs;subst hs
                simp only [sX,hm] at hx
                rw [hF]
                simp only [if_neg h7,if_neg h8,if_neg h9,if_neg hz]
                exact hc _ _ _ _ _ hx
    · cases hs
end
end Go.Ev
namespace Go.Ev
open Go Go.RowKit
section
variable {E : Env} {call scall : CallH} {f : FuncId}
def psOf (tm : List AV) : Ps:= fun i => tm.getD i (.tup [])
theorem ev_stO (st : St) (x : Operand) : (stO x).ev (psOf st.tm) = st.eval x:= by cases x <;> rfl
theorem put_ps (tm : List AV) (h : Hp) (dst : Option Nat) (v : AV) (hd : ∀ d,dst = some d → d < tm.length) : psOf (St.put ⟨tm,h⟩ dst v).tm = upd? (psOf tm) dst v ∧ (St.put ⟨tm,h⟩ dst v).tm.length = tm.length:= by
  cases dst with
  | none => exact ⟨rfl,rfl⟩
  | some d =>
    refine ⟨?_,by simp [St.put]⟩
    funext i
    simp only [St.put,psOf,upd?,upd]
    by_cases hi : i = d
    · subst hi
      simp [List.getD,hd i rfl]
    · rw [if_neg hi,getD_set_other _ (Ne.symm hi)]
theorem sWant_eq {ops : Array Oper} {o : Oper} {st : St} {g : Option (Nat × Bool)} {b : Bool} (hg : match o.guard with
    | none => g = none
    | some (j,want) => ∃ d,(ops[j]?).bind (·.dst) = some d ∧ g = some (d,want)) (h : sWant g (psOf st.tm) = some b) : evWanted ops o st = some b:= by
  unfold evWanted
  cases ho : o.guard with
  | none =>
    rw [ho] at hg
    simp only at hg
    subst hg
    exact h
  | some p =>
    obtain ⟨j,want⟩:= p
    rw [ho] at hg
    obtain ⟨d,h1,rfl⟩:= hg
    simp only [h1]
    simp only [sWant,psOf] at h
    exact h
theorem sOper_sound (hc : ∀ g as k v k',scall g as k = some (v,k') → call g as k = some (v,k')) {nt : Nat} {ops : Array Oper} {o : Oper} {s : SOper} (hs : stOper E f nt ops o = some s) {st : St} (hl : nt ≤ st.tm.length) {e' : Ps} {h' : Hp}
    (hx : sOper E scall s (psOf st.tm) st.h = some (e',h')) : ∃ st',evOper E call f ops o st = some st' ∧ psOf st'.tm = e' ∧ st'.h = h' ∧ nt ≤ st'.tm.length:= by
  unfold stOper at hs
  split at hs
  case isFalse => cases hs
  rename_i hd
  have hd' : ∀ d,o.dst = some d → d < st.tm.length:= fun d e => by
    rw [e] at hd
    have : d < nt:= by simpa [dstOk] using hd
    exact Nat.lt_of_lt_of_le this hl
  have key : ∃ sop g,stX E f o.dst o.op = some sop ∧ s = ⟨o.dst,g,sop⟩ ∧ (match o.guard with
    | none => g = none
    | some (j,want) => ∃ d,(ops[j]?).bind (·.dst) = some d ∧ g = some (d,want)):= by
    cases ho : o.guard with
    | none =>
      rw [ho] at hs
      simp only [Option.map_eq_some_iff] at hs
      obtain ⟨sop,h1,rfl⟩:= hs
      exact ⟨sop,none,h1,rfl,rfl⟩
    | some p =>
      obtain ⟨j,want⟩:= p
      rw [ho] at hs
      rw [Option.bind_eq_some_iff] at hs
      obtain ⟨d,h0,hs⟩:= hs
      rw [Option.map_eq_some_iff] at hs
      obtain ⟨sop,h1,rfl⟩:= hs
      exact ⟨sop,some (d,want),h1,rfl,d,h0,rfl⟩
  obtain ⟨sop,g,h1,rfl,hg⟩:= key
  simp only [sOper,Option.bind_eq_some_iff] at hx
  obtain ⟨b,hb,hx⟩:= hx
  unfold evOper
  rw [sWant_eq hg hb]
  simp only [Option.bind_some]
  cases b with
  | true =>
    simp only [if_true,Option.map_eq_some_iff,Prod.mk.injEq] at hx ⊢
    obtain ⟨⟨v,k⟩,h2,h3,h4⟩:= hx
    have h5:= sX_sound (σ:= Opd.ev (psOf st.tm)) (ρ:= st.eval) h1 (ev_stO st) hc h2
    obtain ⟨p1,p2⟩:= put_ps st.tm k o.dst v hd'
    exact ⟨_,⟨_,h5,rfl⟩,by rw [p1];exact h3,by rw [St.put_h];exact h4,by rw [p2];exact hl⟩
  | false =>
    simp only [Bool.false_eq_true,if_false,Option.some.injEq,Prod.mk.injEq] at hx ⊢
    obtain ⟨h3,h4⟩:= hx
    obtain ⟨p1,p2⟩:= put_ps st.tm st.h o.dst (.tup []) hd'
    exact ⟨_,rfl,by rw [← h3];exact p1,by rw [← h4];exact St.put_h _ _ _ _,by rw [show (st.put o.dst (.tup [])).tm.length = st.tm.length from p2];exact hl⟩
theorem sOps_sound (hc : ∀ g as k v k',scall g as k = some (v,k') → call g as k = some (v,k')) {nt : Nat} {ops : Array Oper} : ∀ (os : List Oper) (ss : List SOper),stOps E f nt ops os = some ss → ∀ (st : St),nt ≤ st.tm.length → ∀ (e' : Ps) (h' : Hp),
    sOps E scall ss (psOf st.tm) st.h = some (e',h') → ∃ st',evOps E call f ops os st = some st' ∧ psOf st'.tm = e' ∧ st'.h = h' ∧ nt ≤ st'.tm.length
  | [],ss,hs,st,hl,e',h',hx => by
    simp only [stOps,Option.some.injEq] at hs
    subst hs
    simp only [sOps,Option.some.injEq,Prod.mk.injEq] at hx
    exact ⟨st,rfl,hx.1,hx.2,hl⟩
  | o :: os,ss,hs,st,hl,e',h',hx => by
    simp only [stOps,Option.bind_eq_some_iff,Option.map_eq_some_iff] at hs
    obtain ⟨s,h1,l,h2,rfl⟩:= hs
    simp only [sOps,Option.bind_eq_some_iff] at hx
    obtain ⟨⟨e1,k1⟩,h3,h4⟩:= hx
    obtain ⟨s1,j1,j2,j3,j4⟩:= sOper_sound hc h1 hl h3
    subst j2;subst j3
    obtain ⟨s2,i1,i2,i3,i4⟩:= sOps_sound hc os l h2 s1 j4 e' h' h4
    exact ⟨s2,by simp only [evOps,j1,Option.bind_some];exact i1,i2,i3,i4⟩
def LoopS (loop : FuncId → Code → St → Option (Ex × St)) (sloop : SLoop) (E : Env) (f : FuncId) (nt : Nat) : Prop:=
  ∀ (c : Code) (s : SCode),stC E f nt c = some s → ∀ (st : St),nt ≤ st.tm.length → ∀ x e' h',sloop s (psOf st.tm) st.h = some (x,e',h') → ∃ st',loop f c st = some (x,st') ∧ psOf st'.tm = e' ∧ st'.h = h' ∧ nt ≤ st'.tm.length
theorem sC_sound (hc : ∀ g as k v k',scall g as k = some (v,k') → call g as k = some (v,k')) {nt : Nat} {loop : FuncId → Code → St → Option (Ex × St)} {sloop : SLoop} (hlp : LoopS loop sloop E f nt) :
    ∀ (c : Code) (s : SCode),stC E f nt c = some s → ∀ (st : St),nt ≤ st.tm.length → ∀ x e' h',sC E scall sloop s (psOf st.tm) st.h = some (x,e',h') → ∃ st',evC E call loop f c st = some (x,st') ∧ psOf st'.tm = e' ∧ st'.h = h' ∧ nt ≤ st'.tm.length:= by
  intro c
  induction c with
  | skip =>
    intro s hs st hl x e' h' hx
    simp only [stC,Option.some.injEq] at hs
    subst hs
    simp only [sC,Option.some.injEq,Prod.mk.injEq] at hx
    obtain ⟨rfl,h2,h3⟩:= hx
    exact ⟨st,rfl,h2,h3,hl⟩
  | region id ops draw =>
    intro s hs st hl x e' h' hx
    simp only [stC] at hs
    split at hs
    · cases hs
    · rename_i hd
      simp only [Option.map_eq_some_iff] at hs
      obtain ⟨l,h1,rfl⟩:= hs
      simp only [sC,Option.bind_eq_some_iff,Option.some.injEq,Prod.mk.injEq] at hx
      obtain ⟨⟨e1,k1⟩,h2,rfl,h3,h4⟩:= hx
      obtain ⟨s1,j1,j2,j3,j4⟩:= sOps_sound hc _ _ h1 st hl _ _ h2
      exact ⟨s1,by simp only [evC];rw [if_neg hd,j1];rfl,j2.trans h3,j3.trans h4,j4⟩
  | seq a b iha ihb =>
    intro s hs st hl x e' h' hx
    simp only [stC,Option.bind_eq_some_iff,Option.map_eq_some_iff] at hs
    obtain ⟨sa,h1,sb,h2,rfl⟩:= hs
    simp only [sC,sSeq,Option.bind_eq_some_iff] at hx
    obtain ⟨⟨x1,e1,k1⟩,h3,h4⟩:= hx
    obtain ⟨s1,j1,j2,j3,j4⟩:= iha sa h1 st hl x1 e1 k1 h3
    cases x1 with
    | norm =>
      subst j2;subst j3
      obtain ⟨s2,i1,i2,i3,i4⟩:= ihb sb h2 s1 j4 x e' h' h4
      exact ⟨s2,by simp only [evC,seqX,j1,Option.bind_some];exact i1,i2,i3,i4⟩
    | exit id =>
      simp only [Option.some.injEq,Prod.mk.injEq] at h4
      obtain ⟨rfl,h5,h6⟩:= h4
      exact ⟨s1,by simp only [evC,seqX,j1,Option.bind_some],j2.trans h5,j3.trans h6,j4⟩
    | ret =>
      simp only [Option.some.injEq,Prod.mk.injEq] at h4
      obtain ⟨rfl,h5,h6⟩:= h4
      exact ⟨s1,by simp only [evC,seqX,j1,Option.bind_some],j2.trans h5,j3.trans h6,j4⟩
  | cond cnd a b iha ihb =>
    intro s hs st hl x e' h' hx
    simp only [stC,Option.bind_eq_some_iff,Option.map_eq_some_iff] at hs
    obtain ⟨sa,h1,sb,h2,rfl⟩:= hs
    simp only [sC,ev_stO,Option.bind_eq_some_iff] at hx
    obtain ⟨t,h3,h4⟩:= hx
    simp only [evC,h3,Option.bind_some]
    cases t with
    | true => exact iha sa h1 st hl x e' h' (by simpa using h4)
    | false => exact ihb sb h2 st hl x e' h' (by simpa using h4)
  | block id a ih =>
    intro s hs st hl x e' h' hx
    simp only [stC,Option.map_eq_some_iff] at hs
    obtain ⟨sa,h1,rfl⟩:= hs
    simp only [sC,sBlk,Option.bind_eq_some_iff] at hx
    obtain ⟨⟨x1,e1,k1⟩,h3,h4⟩:= hx
    obtain ⟨s1,j1,j2,j3,j4⟩:= ih sa h1 st hl x1 e1 k1 h3
    cases x1 with
    | norm =>
      simp only [Option.some.injEq,Prod.mk.injEq] at h4
      obtain ⟨rfl,h5,h6⟩:= h4
      exact ⟨s1,by simp only [evC,blkX,j1,Option.bind_some],j2.trans h5,j3.trans h6,j4⟩
    | exit j =>
      simp only at h4
      split at h4
      · rename_i hj
        simp only [Option.some.injEq,Prod.mk.injEq] at h4
        obtain ⟨rfl,h5,h6⟩:= h4
        exact ⟨s1,by simp only [evC,blkX,j1,Option.bind_some];rw [if_pos hj],j2.trans h5,j3.trans h6,j4⟩
      · rename_i hj
        simp only [Option.some.injEq,Prod.mk.injEq] at h4
        obtain ⟨rfl,h5,h6⟩:= h4
        exact ⟨s1,by simp only [evC,blkX,j1,Option.bind_some];rw [if_neg hj],j2.trans h5,j3.trans h6,j4⟩
    | ret =>
      simp only [Option.some.injEq,Prod.mk.injEq] at h4
      obtain ⟨rfl,h5,h6⟩:= h4
      exact ⟨s1,by simp only [evC,blkX,j1,Option.bind_some],j2.trans h5,j3.trans h6,j4⟩
  | loop a _ =>
    intro s hs st hl x e' h' hx
    simp only [stC,Option.map_eq_some_iff] at hs
    obtain ⟨sa,h1,rfl⟩:= hs
    exact hlp a sa h1 st hl x e' h' hx
  | exit id =>
    intro s hs st hl x e' h' hx
    simp only [stC,Option.some.injEq] at hs
    subst hs
    simp only [sC,Option.some.injEq,Prod.mk.injEq] at hx
    obtain ⟨rfl,h2,h3⟩:= hx
    exact ⟨st,rfl,h2,h3,hl⟩
  | ret =>
    intro s hs st hl x e' h' hx
    simp only [stC,Option.some.injEq] at hs
    subst hs
    simp only [sC,Option.some.injEq,Prod.mk.injEq] at hx
    obtain ⟨rfl,h2,h3⟩:= hx
    exact ⟨st,rfl,h2,h3,hl⟩
  | _ => intro s hs;simp [stC] at hs
theorem sRes_sound {P : Program} {st : St} : ∀ (rs : List ResultVar) (ss : List SRes) (l : List AV),stRes P rs = some ss → sRes (psOf st.tm) st.h ss = some l → evRes P st rs = some l
  | [],ss,l,hs,hx => by
    simp only [stRes,Option.some.injEq] at hs
    subst hs
    exact hx
  | .tmp t :: rs,ss,l,hs,hx => by
    simp only [stRes,Option.map_eq_some_iff] at hs
    obtain ⟨s',h1,rfl⟩:= hs
    simp only [sRes,Option.map_eq_some_iff] at hx
    obtain ⟨l',h2,rfl⟩:= hx
    simp only [evRes,sRes_sound rs s' l' h1 h2,Option.map_some]
    rfl
  | .cell a t :: rs,ss,l,hs,hx => by
    simp only [stRes] at hs
    split at hs
    · rename_i n ha hn
      simp only [Option.map_eq_some_iff] at hs
      obtain ⟨s',h1,rfl⟩:= hs
      simp only [sRes,psOf] at hx
      simp only [evRes]
      generalize st.tm.getD a (.tup []) = q at hx ⊢
      split at hx
      case h_2 => cases hx
      simp only [Option.bind_eq_some_iff] at hx ⊢
      obtain ⟨cs,k1,hx⟩:= hx
      refine ⟨cs,k1,?_⟩
      split at hx
      case isFalse => cases hx
      rename_i k2
      rw [if_pos k2]
      simp only [Option.bind_eq_some_iff,Option.map_eq_some_iff] at hx ⊢
      obtain ⟨v,k3,l',k4,rfl⟩:= hx
      exact ⟨v,by simp only [evLoad,ha,hn];exact k3,l',sRes_sound rs s' l' h1 k4,rfl⟩
    · rename_i n ha hn
      simp only [Option.map_eq_some_iff] at hs
      obtain ⟨s',h1,rfl⟩:= hs
      simp only [sRes,psOf] at hx
      simp only [evRes]
      generalize st.tm.getD a (.tup []) = q at hx ⊢
      split at hx
      case h_2 => cases hx
      simp only [Option.bind_eq_some_iff] at hx ⊢
      obtain ⟨cs,k1,hx⟩:= hx
      refine ⟨cs,k1,?_⟩
      split at hx
      case isFalse => cases hx
      rename_i k2
      rw [if_pos k2]
      simp only [Option.bind_eq_some_iff,Option.map_eq_some_iff] at hx ⊢
      obtain ⟨v,k3,l',k4,rfl⟩:= hx
      exact ⟨v,by simp only [evLoad,ha,hn];exact k3,l',sRes_sound rs s' l' h1 k4,rfl⟩
    · cases hs
end
theorem sev_sound {E : Env} : ∀ k,(∀ g as h v h',(sev E k).1 g as h = some (v,h') → (ev E k).1 g as h = some (v,h')) ∧ ∀ f nt,LoopS (ev E k).2 (sev E k).2 E f nt
  | 0 => ⟨fun g as h v h' hx => by simp [sev] at hx,fun f nt c s hs st hl x e' h' hx => by simp [sev] at hx⟩
  | k + 1 => by
    obtain ⟨ih1,ih2⟩:= sev_sound (E:= E) k
    refine ⟨fun g as h v h' hx => ?_,fun f nt c s hs st hl x e' h' hx => ?_⟩
    · simp only [sev,Option.bind_eq_some_iff] at hx
      obtain ⟨s,hs,hx⟩:= hx
      simp only [stF,Option.bind_eq_some_iff] at hs
      obtain ⟨fn,h1,c,h2,hs⟩:= hs
      split at hs
      · cases hs
      · rename_i hn
        simp only [Option.bind_eq_some_iff,Option.map_eq_some_iff] at hs
        obtain ⟨sc,h3,sr,h4,rfl⟩:= hs
        simp only [ev,evBody,h1,h2]
        rw [if_neg hn]
        simp only [sBody,sRet,Option.bind_eq_some_iff] at hx
        obtain ⟨⟨x,e1,k1⟩,h5,h6⟩:= hx
        have e0 : (fun i => as.getD i (.tup [])) = psOf (as ++ List.replicate (fn.ntmps - as.length) (.tup [])):= by
          funext i
          simp only [psOf,List.getD]
          by_cases hi : i < as.length
          · rw [List.getElem?_append_left hi]
          · rw [List.getElem?_append_right (Nat.le_of_not_lt hi),List.getElem?_eq_none (Nat.le_of_not_lt hi),List.getElem?_replicate]
            split <;> rfl
        rw [e0] at h5
        obtain ⟨s1,j1,j2,j3,j4⟩:= sC_sound ih1 (ih2 g fn.ntmps) c sc h3 ⟨as ++ List.replicate (fn.ntmps - as.length) (.tup []),h⟩ (by simp;omega) x e1 k1 h5
        simp only [retX,j1,Option.bind_some]
        subst j2;subst j3
        cases x with
        | exit j => cases h6
        | norm =>
          simp only [Option.bind_eq_some_iff] at h6 ⊢
          obtain ⟨l,i1,i2⟩:= h6
          exact ⟨l,sRes_sound _ _ _ h4 i1,i2⟩
        | ret =>
          simp only [Option.bind_eq_some_iff] at h6 ⊢
          obtain ⟨l,i1,i2⟩:= h6
          exact ⟨l,sRes_sound _ _ _ h4 i1,i2⟩
    · simp only [sev,sSeq,Option.bind_eq_some_iff] at hx
      obtain ⟨⟨x1,e1,k1⟩,h3,h4⟩:= hx
      obtain ⟨s1,j1,j2,j3,j4⟩:= sC_sound ih1 (ih2 f nt) c s hs st hl x1 e1 k1 h3
      simp only [ev,seqX,j1,Option.bind_some]
      cases x1 with
      | norm =>
        subst j2;subst j3
        exact ih2 f nt c s hs s1 j4 x e' h' h4
      | exit id =>
        simp only [Option.some.injEq,Prod.mk.injEq] at h4
        obtain ⟨rfl,h5,h6⟩:= h4
        exact ⟨s1,rfl,j2.trans h5,j3.trans h6,j4⟩
      | ret =>
        simp only [Option.some.injEq,Prod.mk.injEq] at h4
        obtain ⟨rfl,h5,h6⟩:= h4
        exact ⟨s1,rfl,j2.trans h5,j3.trans h6,j4⟩
end Go.Ev
namespace Go.Ev
open Go Go.RowKit
variable {N : Nat → Nat → Prop} {B0 : Nat} {w0 w : World} {g : Gh} {h : Hp}
theorem pure_of_sev {E : Env} {WI : World → Prop} (hT : TOK E WI) (hs : Stable WI) {f : FuncId} (hst : (stF E f).isSome = true)
    {F : List AV → Option AV} (h : ∀ ts t,F ts = some t → ∃ k n x h',(sev E k).1 f ts Hp.empty = some (x,h') ∧ frzE n h' x = some t) : PureOK E.P WI f F:= by
  obtain ⟨sf,hsf⟩:= Option.isSome_iff_exists.1 hst
  simp only [stF,Option.bind_eq_some_iff] at hsf
  obtain ⟨fn,hf,c,hb,hsf⟩:= hsf
  split at hsf
  · cases hsf
  rename_i hn
  refine ⟨enters_of hf (by simpa using hn) (by rw [hb];rfl),fun w C vs ts t hwi hsz hargs ht => ?_⟩
  obtain ⟨k,n,x,h',hx,hfz⟩:= h ts t ht
  have hx':= (sev_sound k).1 _ _ _ _ _ hx
  let g0 : Gh:= ⟨fun _ => 0,fun _ => 0,fun _ => (none,0),fun _ => .no⟩
  have hsound:= (ev_sound (N:= C) (B0:= w.heap.size) (w0:= w) hT hs hwi k).1
  have r : Rel C w.heap.size w w g0 Hp.empty:= ⟨rfl,Below.refl _ _,fun b hb => absurd rfl hb,fun q cs hq => by simp [Hp.empty] at hq,fun id n sz hid => by simp [Hp.empty] at hid⟩
  obtain ⟨_,hc⟩:= hsound f ts Hp.empty x h' hx' w g0 r vs hsz fun i u c hi hcc => (hargs i u c hi hcc).up fun b o v hC hv => ⟨⟨fun hw => hw,fun _ => hC⟩,hv⟩
  refine hc.mono ?_
  rintro e w' ⟨u,g',rfl,hn,hr⟩
  exact ⟨u,rfl,hn.rel.bel,frzE_sound hn.rel hr hfz⟩
def freshR (h : Hp) : AV → Option (Nat × List (List AV))
  | .app id rows => match h.ap id with
    | some (n,sz) => if n = rows.length then some (sz,rows) else none
    | none => none
  | _ => none
theorem fresh_rel {C : Nat → Nat → Prop} {wa : World} (r : Rel C wa.heap.size wa w g h) {v : Value} {id sz : Nat} {rows : List (List AV)} (hr : RV w (CC C wa.heap.size g) g h v (.app id rows)) (ha : h.ap id = some (rows.length,sz)) : FrV wa w C sz rows v:= by
  obtain ⟨hid,hri,hap⟩:= hr.app_inv
  obtain ⟨k1,_,k3⟩:= hap _ _ ha
  obtain ⟨h1,h2,h3⟩:= r.app id _ _ ha
  have hv:= k3 rfl
  subst hv
  refine ⟨k1,(g.ad id).1,(g.ad id).2,rfl,h2,fun hlt => ?_,hri.mono fun b o u hcc hcell => ⟨⟨?_,fun hlt ha' => ?_⟩,hcell⟩⟩
  · obtain ⟨b,arr,ty,e1,e2,e3,e4⟩:= h3 hlt
    exact ⟨b,arr,ty,e1,(r.ow b (by rw [e2];simp)).1,e3,e4⟩
  · rcases Nat.lt_or_ge b wa.heap.size with hb | hb
    · exact .inl (hcc.2 hb)
    · exact .inr hb
  · obtain ⟨b',arr,ty,e1,e2,_,_⟩:= h3 hlt
    rw [ha'] at e1
    injection e1 with e1
    subst e1
    rcases Nat.lt_or_ge o (rows.length * sz) with hlt | hge
    · exact hlt
    · refine absurd ?_ hcc.1
      unfold wr
      rw [e2]
      exact hge
theorem fresh_of_sev {E : Env} {WI : World → Prop} (hT : TOK E WI) (hs : Stable WI) {f : FuncId} (hst : (stF E f).isSome = true)
    {F : List AV → Option AV} (h : ∀ ts t,F ts = some t → ∃ k x h' sz rows,(sev E k).1 f ts Hp.empty = some (x,h') ∧ ((freshR h' x = some (sz,rows) ∧ t = .app sz rows) ∨ (x = .snil ∧ t = .app sz []))) : FreshOK E.P WI f F:= by
  obtain ⟨sf,hsf⟩:= Option.isSome_iff_exists.1 hst
  simp only [stF,Option.bind_eq_some_iff] at hsf
  obtain ⟨fn,hf,c,hb,hsf⟩:= hsf
  split at hsf
  · cases hsf
  rename_i hn
  refine ⟨enters_of hf (by simpa using hn) (by rw [hb];rfl),fun w C vs ts t hwi hsz hargs ht => ?_⟩
  obtain ⟨k,x,h',sz,rows,hx,hfz⟩:= h ts t ht
  have hx':= (sev_sound k).1 _ _ _ _ _ hx
  let g0 : Gh:= ⟨fun _ => 0,fun _ => 0,fun _ => (none,0),fun _ => .no⟩
  have hsound:= (ev_sound (N:= C) (B0:= w.heap.size) (w0:= w) hT hs hwi k).1
  have r : Rel C w.heap.size w w g0 Hp.empty:= ⟨rfl,Below.refl _ _,fun b hb => absurd rfl hb,fun q cs hq => by simp [Hp.empty] at hq,fun id n sz hid => by simp [Hp.empty] at hid⟩
  obtain ⟨_,hc⟩:= hsound f ts Hp.empty x h' hx' w g0 r vs hsz fun i u c hi hcc => (hargs i u c hi hcc).up fun b o v hC hv => ⟨⟨fun hw => hw,fun _ => hC⟩,hv⟩
  refine hc.mono ?_
  rintro e w' ⟨u,g',rfl,hn,hr⟩
  rcases hfz with ⟨hfz,rfl⟩ | ⟨rfl,rfl⟩
  · unfold freshR at hfz
    split at hfz
    case h_2 => cases hfz
    rename_i id rows'
    split at hfz
    case h_2 => cases hfz
    rename_i n sz' hap
    split at hfz
    case isFalse => cases hfz
    rename_i hnr
    simp only [Option.some.injEq,Prod.mk.injEq] at hfz
    obtain ⟨rfl,rfl⟩:= hfz
    subst hnr
    exact ⟨u,sz',_,rfl,hn.rel.bel,rfl,fresh_rel hn.rel hr hap⟩
  · obtain rfl:= hr.snil_inv
    refine ⟨_,sz,[],rfl,hn.rel.bel,rfl,(fun row hrow => nomatch hrow),none,0,rfl,Nat.le_refl _,fun hlt => absurd hlt (Nat.lt_irrefl _),.slE none 0⟩
end Go.Ev
namespace Go.Ev
open Go Go.RowKit
variable {N : Nat → Nat → Prop} {B0 : Nat} {w0 w : World} {g : Gh} {h : Hp}
def dfzL (f : AV → Option (AV × List Nat)) : List AV → Option (List AV × List Nat)
  | [] => some ([],[])
  | v :: r => (f v).bind fun p => (dfzL f r).map fun q => (p.1 :: q.1,p.2 ++ q.2)
def leafF : AV → Option AV
  | .bool b => some (.bool b)
  | .int k n => some (.int k n)
  | .str s => some (.str s)
  | .pnil => some .pnil
  | .inil => some .inil
  | .snil => some (.imm [])
  | .semp => some (.imm [])
  | .imm [] => some (.imm [])
  | .app _ [] => some (.imm [])
  | _ => none
def dfz : Nat → Hp → AV → Option (AV × List Nat)
  | 0,_,v => (leafF v).map fun t => (t,[])
  | n + 1,h,v => match v with
    | .sl r off len sz => if off = 0 ∧ sz ≠ 0 then (h.hp r).bind fun cs => if cs.length = len * sz then (dfzL (dfz n h) cs).map fun p => (.imm (chunk sz p.1 len),r :: p.2) else none else none
    | v => (leafF v).map fun t => (t,[])
def dfzT (n : Nat) (h : Hp) : AV → Option (AV × List Nat)
  | .agg cs => (dfzL (dfz n h) cs).map fun p => (.agg p.1,p.2)
  | v => dfz n h v
def dfzE (n : Nat) (h : Hp) : AV → Option (AV × List Nat)
  | .tup vs => (dfzL (dfzT n h) vs).map fun p => (.tup p.1,p.2)
  | v => dfzT n h v
theorem dfzL_spec {f : AV → Option (AV × List Nat)} : ∀ {l : List AV} {ts : List AV} {R : List Nat},dfzL f l = some (ts,R) → ts.length = l.length
  | [],ts,R,h => by simp only [dfzL,Option.some.injEq,Prod.mk.injEq] at h;rw [← h.1]
  | a :: l,ts,R,h => by
    simp only [dfzL,Option.bind_eq_some_iff,Option.map_eq_some_iff,Prod.mk.injEq] at h
    obtain ⟨p,_,q,h2,h3,_⟩:= h
    rw [← h3,List.length_cons,List.length_cons,dfzL_spec (ts:= q.1) (R:= q.2) h2]
theorem dfzL_app {f : AV → Option (AV × List Nat)} : ∀ {l m : List AV} {ts us : List AV} {R S : List Nat},dfzL f l = some (ts,R) → dfzL f m = some (us,S) → dfzL f (l ++ m) = some (ts ++ us,R ++ S)
  | [],m,ts,us,R,S,h1,h2 => by
    simp only [dfzL,Option.some.injEq,Prod.mk.injEq] at h1
    obtain ⟨rfl,rfl⟩:= h1
    exact h2
  | a :: l,m,ts,us,R,S,h1,h2 => by
    simp only [dfzL,Option.bind_eq_some_iff,Option.map_eq_some_iff,Prod.mk.injEq] at h1
    obtain ⟨p,k1,q,k2,k3,k4⟩:= h1
    subst k3;subst k4
    simp only [List.cons_append,dfzL,k1,dfzL_app k2 h2,Option.bind_some,Option.map_some,List.append_assoc]
theorem dfzL_inv {f : AV → Option (AV × List Nat)} : ∀ {l m : List AV} {ts : List AV} {R : List Nat},dfzL f (l ++ m) = some (ts,R) → ∃ ts1 R1 ts2 R2,dfzL f l = some (ts1,R1) ∧ dfzL f m = some (ts2,R2) ∧ ts = ts1 ++ ts2 ∧ R = R1 ++ R2
  | [],m,ts,R,h => ⟨[],[],ts,R,rfl,h,rfl,rfl⟩
  | a :: l,m,ts,R,h => by
    simp only [List.cons_append,dfzL,Option.bind_eq_some_iff,Option.map_eq_some_iff,Prod.mk.injEq] at h
    obtain ⟨p,k1,q,k2,k3,k4⟩:= h
    obtain ⟨ts1,R1,ts2,R2,e1,e2,e3,e4⟩:= dfzL_inv k2
    refine ⟨p.1 :: ts1,p.2 ++ R1,ts2,R2,by simp only [dfzL,k1,e1,Option.bind_some,Option.map_some],e2,?_,?_⟩
    · rw [← k3,e3];rfl
    · rw [← k4,e4,List.append_assoc]
theorem chunk_flat (sz : Nat) : ∀ (n : Nat) (cs : List AV),cs.length = n * sz → (chunk sz cs n).flatten = cs
  | 0,cs,h => by
    have : cs = []:= List.eq_nil_of_length_eq_zero (by omega)
    subst this
    rfl
  | n + 1,cs,h => by
    rw [Nat.succ_mul] at h
    rw [chunk,List.flatten_cons,chunk_flat sz n (cs.drop sz) (by rw [List.length_drop];omega),List.take_append_drop]
theorem chunk_of_flat {sz : Nat} : ∀ {rows : List (List AV)},(∀ row ∈ rows,row.length = sz) → chunk sz rows.flatten rows.length = rows
  | [],_ => rfl
  | r :: rows,h => by
    have hr:= h r (by simp)
    rw [List.flatten_cons,List.length_cons,chunk,List.take_append_of_le_length (by omega),List.take_of_length_le (by omega),List.drop_append_of_le_length (by omega),List.drop_of_length_le (by omega),List.nil_append,chunk_of_flat fun row hrow => h row (by simp [hrow])]
theorem leafF_leaf {v t : AV} (h : leafF v = some t) : leafV t = true:= by
  unfold leafF at h
  split at h <;> first
    | (injection h with h;subst h;rfl)
    | cases h
theorem leafF_frz {v t : AV} (h : leafF v = some t) : frzCell v = some t:= by
  unfold leafF at h
  split at h <;> first
    | exact h
    | cases h
theorem leafF_of {v : AV} (h : leafV v = true) : leafF v = some v:= by
  unfold leafV at h
  split at h <;> first
    | rfl
    | cases h
theorem leafF_rv {C : Nat → Nat → Prop} {u : Value} {v t : AV} (hr : RV w C g h u v) (h : leafF v = some t) : RI w (fun _ _ => False) u t:= (hr.frz (leafF_frz h)).leaf (leafF_leaf h)
theorem dfzL_ov {f : AV → Option (AV × List Nat)} (hf : ∀ {v x t R},RV w (CC N B0 g) g h v x → f x = some (t,R) → (∀ vs ts bs,OV w B0 vs ts bs → OV w B0 (v :: vs) (t :: ts) (R.map g.bl ++ bs)) ∧ notCell t = false) :
    ∀ (cs : List AV) (vs : List Value) (ts : List AV) (R : List Nat),vs.length = cs.length → (∀ (i : Nat) v c,vs[i]? = some v → cs[i]? = some c → RV w (CC N B0 g) g h v c) → dfzL f cs = some (ts,R) →
      OV w B0 vs ts (R.map g.bl) ∧ ∀ c ∈ ts,notCell c = false
  | [],vs,ts,R,hl,_,hd => by
    have hv : vs = []:= List.eq_nil_of_length_eq_zero hl
    simp only [dfzL,Option.some.injEq,Prod.mk.injEq] at hd
    obtain ⟨rfl,rfl⟩:= hd
    subst hv
    exact ⟨.nil,fun c hc => by cases hc⟩
  | c :: cs,[],ts,R,hl,_,_ => by simp at hl
  | c :: cs,v :: vs,ts,R,hl,hv,hd => by
    simp only [dfzL,Option.bind_eq_some_iff,Option.map_eq_some_iff,Prod.mk.injEq] at hd
    obtain ⟨⟨t,R1⟩,k1,⟨us,R2⟩,k2,k3,k4⟩:= hd
    simp only at k3 k4
    subst k3;subst k4
    obtain ⟨i1,i2⟩:= dfzL_ov hf cs vs us R2 (by simpa using hl) (fun i v c hi hc => hv (i + 1) v c (by simpa using hi) (by simpa using hc)) k2
    obtain ⟨h1,h2⟩:= hf (hv 0 v c rfl rfl) k1
    refine ⟨by rw [List.map_append];exact h1 _ _ _ i1,fun d hd => ?_⟩
    rcases List.mem_cons.1 hd with rfl | hd
    · exact h2
    · exact i2 d hd
theorem dfz_ov (r : Rel N B0 w0 w g h) : ∀ (n : Nat) {v : Value} {x t : AV} {R : List Nat},RV w (CC N B0 g) g h v x → dfz n h x = some (t,R) →
    (∀ vs ts bs,OV w B0 vs ts bs → OV w B0 (v :: vs) (t :: ts) (R.map g.bl ++ bs)) ∧ notCell t = false:= by
  have base : ∀ {v : Value} {x t : AV} {R : List Nat},RV w (CC N B0 g) g h v x → ((leafF x).map fun t => (t,([] : List Nat))) = some (t,R) → (∀ vs ts bs,OV w B0 vs ts bs → OV w B0 (v :: vs) (t :: ts) (R.map g.bl ++ bs)) ∧ notCell t = false:= fun hr hd => by
    simp only [Option.map_eq_some_iff,Prod.mk.injEq] at hd
    obtain ⟨t',h1,rfl,rfl⟩:= hd
    exact ⟨fun vs ts bs ho => .leaf (leafF_rv hr h1) (leafF_leaf h1) ho,leaf_notCell (leafF_leaf h1)⟩
  intro n
  induction n with
  | zero => intro v x t R hr hd;exact base hr hd
  | succ n ih =>
    intro v x t R hr hd
    unfold dfz at hd
    split at hd
    case h_2 => exact base hr hd
    rename_i q off len sz
    split at hd
    case isFalse => cases hd
    rename_i hc0
    obtain ⟨rfl,hsz⟩:= hc0
    simp only [Option.bind_eq_some_iff] at hd
    obtain ⟨cs,hq,hd⟩:= hd
    split at hd
    case isFalse => cases hd
    rename_i hlen
    simp only [Option.map_eq_some_iff,Prod.mk.injEq] at hd
    obtain ⟨⟨us,R1⟩,k1,rfl,rfl⟩:= hd
    refine ⟨fun vs ts bs ho => ?_,rfl⟩
    obtain ⟨_,cap,hc,rfl,hcs⟩:= hr.sl_inv
    obtain ⟨_,how,arr,ty,harr,hs,hl,hcell,_⟩:= r.blk q cs hq
    have hB : B0 ≤ g.bl q:= (r.ow (g.bl q) (by rw [how];simp)).1
    have hul:= dfzL_spec k1
    have hul2 : us.length = len * sz:= by rw [hul,hlen]
    have hfl:= chunk_flat sz len us hul2
    obtain ⟨c1,c2,_⟩:= chunk_spec sz len us (by omega)
    obtain ⟨o1,o2⟩:= dfzL_ov (fun hr hd => ih hr hd) cs (arr.toList.take (len * sz)) us R1 (by rw [List.length_take];simp;omega) (fun i v c hi hcc => by
      have hilt : i < len * sz:= by
        have:= (List.getElem?_eq_some_iff.1 hcc).1
        omega
      rw [List.getElem?_take_of_lt hilt] at hi
      exact hcell i v c (by simpa using hi) hcc) k1
    rw [List.map_cons,List.cons_append]
    refine .sl (g.bl q) len cap sz (chunk sz us len) arr ty (R1.map g.bl) hB harr hc (by rw [hs];omega) c1 c2 (fun row hrow c hcr => ?_) (by rw [hfl];exact o1) ho
    have : c ∈ (chunk sz us len).flatten:= List.mem_flatten.2 ⟨row,hrow,hcr⟩
    rw [hfl] at this
    exact o2 c this
theorem dfzT_ov (r : Rel N B0 w0 w g h) {n : Nat} {v : Value} {x t : AV} {R : List Nat} (hr : RV w (CC N B0 g) g h v x) (hd : dfzT n h x = some (t,R)) : ∀ vs ts bs,OV w B0 vs ts bs → OV w B0 (v :: vs) (t :: ts) (R.map g.bl ++ bs):= by
  unfold dfzT at hd
  split at hd
  · rename_i cs
    simp only [Option.map_eq_some_iff,Prod.mk.injEq] at hd
    obtain ⟨⟨us,R1⟩,k1,rfl,rfl⟩:= hd
    obtain ⟨arr,rfl,a1,_,a3⟩:= hr.agg_inv
    obtain ⟨o1,o2⟩:= dfzL_ov (fun hr hd => dfz_ov r n hr hd) cs arr.toList us R1 (by simpa using a1) (fun i v c hi hc => a3 i v c (by simpa using hi) hc) k1
    exact fun vs ts bs ho => .agg arr us (R1.map g.bl) o2 o1 ho
  · exact (dfz_ov r n hr hd).1
theorem dfzTL_ov (r : Rel N B0 w0 w g h) {n : Nat} : ∀ (cs : List AV) (vs : List Value) (ts : List AV) (R : List Nat),vs.length = cs.length → (∀ (i : Nat) v c,vs[i]? = some v → cs[i]? = some c → RV w (CC N B0 g) g h v c) → dfzL (dfzT n h) cs = some (ts,R) →
      OV w B0 vs ts (R.map g.bl)
  | [],vs,ts,R,hl,_,hd => by
    have hv : vs = []:= List.eq_nil_of_length_eq_zero hl
    simp only [dfzL,Option.some.injEq,Prod.mk.injEq] at hd
    obtain ⟨rfl,rfl⟩:= hd
    subst hv
    exact .nil
  | c :: cs,[],ts,R,hl,_,_ => by simp at hl
  | c :: cs,v :: vs,ts,R,hl,hv,hd => by
    simp only [dfzL,Option.bind_eq_some_iff,Option.map_eq_some_iff,Prod.mk.injEq] at hd
    obtain ⟨⟨t,R1⟩,k1,⟨us,R2⟩,k2,k3,k4⟩:= hd
    simp only at k3 k4
    subst k3;subst k4
    have i1:= dfzTL_ov r cs vs us R2 (by simpa using hl) (fun i v c hi hc => hv (i + 1) v c (by simpa using hi) (by simpa using hc)) k2
    rw [List.map_append]
    exact dfzT_ov r (hv 0 v c rfl rfl) k1 _ _ _ i1
theorem dfzL_mem {f : AV → Option (AV × List Nat)} (hf : ∀ {x t R},f x = some (t,R) → ∀ q ∈ R,∃ cs,h.hp q = some cs) : ∀ {cs : List AV} {ts : List AV} {R : List Nat},dfzL f cs = some (ts,R) → ∀ q ∈ R,∃ cs,h.hp q = some cs
  | [],ts,R,hd,q,hq => by
    simp only [dfzL,Option.some.injEq,Prod.mk.injEq] at hd
    rw [← hd.2] at hq
    cases hq
  | c :: cs,ts,R,hd,q,hq => by
    simp only [dfzL,Option.bind_eq_some_iff,Option.map_eq_some_iff,Prod.mk.injEq] at hd
    obtain ⟨⟨t,R1⟩,k1,⟨us,R2⟩,k2,_,k4⟩:= hd
    rw [← k4] at hq
    rcases List.mem_append.1 hq with hq | hq
    · exact hf k1 q hq
    · exact dfzL_mem hf k2 q hq
theorem dfz_mem : ∀ (n : Nat) {x t : AV} {R : List Nat},dfz n h x = some (t,R) → ∀ q ∈ R,∃ cs,h.hp q = some cs:= by
  have base : ∀ {x t : AV} {R : List Nat},((leafF x).map fun t => (t,([] : List Nat))) = some (t,R) → ∀ q ∈ R,∃ cs,h.hp q = some cs:= fun hd q hq => by
    simp only [Option.map_eq_some_iff,Prod.mk.injEq] at hd
    obtain ⟨_,_,_,rfl⟩:= hd
    cases hq
  intro n
  induction n with
  | zero => intro x t R hd;exact base hd
  | succ n ih =>
    intro x t R hd
    unfold dfz at hd
    split at hd
    case h_2 => exact base hd
    split at hd
    case isFalse => cases hd
    simp only [Option.bind_eq_some_iff] at hd
    obtain ⟨cs,hq,hd⟩:= hd
    split at hd
    case isFalse => cases hd
    simp only [Option.map_eq_some_iff,Prod.mk.injEq] at hd
    obtain ⟨⟨us,R1⟩,k1,_,rfl⟩:= hd
    intro q hq2
    rcases List.mem_cons.1 hq2 with rfl | hq2
    · exact ⟨cs,hq⟩
    · exact dfzL_mem (fun hd => ih hd) k1 q hq2
theorem dfzT_mem {n : Nat} {x t : AV} {R : List Nat} (hd : dfzT n h x = some (t,R)) : ∀ q ∈ R,∃ cs,h.hp q = some cs:= by
  unfold dfzT at hd
  split at hd
  · simp only [Option.map_eq_some_iff,Prod.mk.injEq] at hd
    obtain ⟨⟨us,R1⟩,k1,_,rfl⟩:= hd
    exact dfzL_mem (fun hd => dfz_mem n hd) k1
  · exact dfz_mem n hd
theorem dfzE_mem {n : Nat} {x t : AV} {R : List Nat} (hd : dfzE n h x = some (t,R)) : ∀ q ∈ R,∃ cs,h.hp q = some cs:= by
  unfold dfzE at hd
  split at hd
  · simp only [Option.map_eq_some_iff,Prod.mk.injEq] at hd
    obtain ⟨⟨us,R1⟩,k1,_,rfl⟩:= hd
    exact dfzL_mem (fun hd => dfzT_mem hd) k1
  · exact dfzT_mem hd
theorem dfzE_own (r : Rel N B0 w0 w g h) {n : Nat} {v : Value} {x t : AV} {R : List Nat} (hr : RV w (CC N B0 g) g h v x) (hd : dfzE n h x = some (t,R)) (hnd : R.Nodup) : OwnV w B0 v t:= by
  have hmem:= dfzE_mem hd
  have hnd2 : (R.map g.bl).Nodup:= by
    refine List.pairwise_map.2 (hnd.imp_of_mem fun {a b} ha hb hab e => hab ?_)
    obtain ⟨ca,ka⟩:= hmem a ha
    obtain ⟨cb,kb⟩:= hmem b hb
    have oa:= (r.blk a ca ka).2.1
    have ob:= (r.blk b cb kb).2.1
    rw [e,ob] at oa
    injection oa with oa
    exact oa.symm
  refine ⟨R.map g.bl,hnd2,?_⟩
  unfold dfzE at hd
  split at hd
  · rename_i vs
    simp only [Option.map_eq_some_iff,Prod.mk.injEq] at hd
    obtain ⟨⟨us,R1⟩,k1,rfl,rfl⟩:= hd
    obtain ⟨arr,rfl,a1,a2⟩:= hr.tup_inv
    exact .inl ⟨arr,us,rfl,rfl,dfzTL_ov r vs arr.toList us R1 (by simpa using a1) (fun i v c hi hc => a2 i v c (by simpa using hi) hc) k1⟩
  · have:= dfzT_ov r hr hd [] [] [] .nil
    rw [List.append_nil] at this
    exact .inr this
theorem own_of_sev {E : Env} {WI : World → Prop} (hT : TOK E WI) (hs : Stable WI) {f : FuncId} (hst : (stF E f).isSome = true)
    {F : List AV → Option AV} (h : ∀ ts t,F ts = some t → ∃ k x h' R,(sev E k).1 f ts Hp.empty = some (x,h') ∧ dfzE 8 h' x = some (t,R) ∧ R.Nodup) : OwnOK E.P WI f F:= by
  obtain ⟨sf,hsf⟩:= Option.isSome_iff_exists.1 hst
  simp only [stF,Option.bind_eq_some_iff] at hsf
  obtain ⟨fn,hf,c,hb,hsf⟩:= hsf
  split at hsf
  · cases hsf
  rename_i hn
  refine ⟨enters_of hf (by simpa using hn) (by rw [hb];rfl),fun w C vs ts t hwi hsz hargs ht => ?_⟩
  obtain ⟨k,x,h',R,hx,hfz,hnd⟩:= h ts t ht
  have hx':= (sev_sound k).1 _ _ _ _ _ hx
  let g0 : Gh:= ⟨fun _ => 0,fun _ => 0,fun _ => (none,0),fun _ => .no⟩
  have hsound:= (ev_sound (N:= C) (B0:= w.heap.size) (w0:= w) hT hs hwi k).1
  have r : Rel C w.heap.size w w g0 Hp.empty:= ⟨rfl,Below.refl _ _,fun b hb => absurd rfl hb,fun q cs hq => by simp [Hp.empty] at hq,fun id n sz hid => by simp [Hp.empty] at hid⟩
  obtain ⟨_,hc⟩:= hsound f ts Hp.empty x h' hx' w g0 r vs hsz fun i u c hi hcc => (hargs i u c hi hcc).up fun b o v hC hv => ⟨⟨fun hw => hw,fun _ => hC⟩,hv⟩
  refine hc.mono ?_
  rintro e w' ⟨u,g',rfl,hn,hr⟩
  exact ⟨u,rfl,hn.rel.bel,dfzE_own hn.rel hr hfz hnd⟩
end Go.Ev
namespace Go.Ev
open Go Go.RowKit
variable {h h' : Hp}
theorem mapO_dfzL {f : AV → Option (AV × List Nat)} {f' : AV → Option AV} (hf : ∀ {x t R},f x = some (t,R) → f' x = some t) : ∀ {cs ts : List AV} {R : List Nat},dfzL f cs = some (ts,R) → mapO f' cs = some ts
  | [],ts,R,hd => by
    simp only [dfzL,Option.some.injEq,Prod.mk.injEq] at hd
    rw [← hd.1]
    rfl
  | c :: cs,ts,R,hd => by
    simp only [dfzL,Option.bind_eq_some_iff,Option.map_eq_some_iff,Prod.mk.injEq] at hd
    obtain ⟨⟨t,R1⟩,k1,⟨us,R2⟩,k2,k3,_⟩:= hd
    rw [← k3]
    simp only [mapO,hf k1,mapO_dfzL hf k2,Option.bind_some,Option.map_some]
theorem mapO_take {f : AV → Option AV} {l ts : List AV} (hm : mapO f l = some ts) (n : Nat) : mapO f (l.take n) = some (ts.take n) ∧ mapO f (l.drop n) = some (ts.drop n):= by
  induction l generalizing ts n with
  | nil => simp only [mapO,Option.some.injEq] at hm;subst hm;simp [mapO]
  | cons a l ih =>
    simp only [mapO,Option.bind_eq_some_iff,Option.map_eq_some_iff] at hm
    obtain ⟨b,k1,r,k2,rfl⟩:= hm
    cases n with
    | zero => simp [mapO,k1,k2]
    | succ n =>
      obtain ⟨i1,i2⟩:= ih k2 n
      simp only [List.take_succ_cons,List.drop_succ_cons,mapO,k1,i1,Option.bind_some,Option.map_some]
      exact ⟨trivial,i2⟩
theorem mapO_chunk {f : AV → Option AV} (sz : Nat) : ∀ (n : Nat) {l ts : List AV},mapO f l = some ts → mapO (mapO f) (chunk sz l n) = some (chunk sz ts n)
  | 0,l,ts,_ => rfl
  | n + 1,l,ts,h => by
    obtain ⟨h1,h2⟩:= mapO_take h sz
    simp only [chunk,mapO,h1,mapO_chunk sz n h2,Option.bind_some,Option.map_some]
theorem dfz_frz : ∀ (n : Nat) {x t : AV} {R : List Nat},dfz n h x = some (t,R) → frzD n h x = some t:= by
  have base : ∀ {x t : AV} {R : List Nat},((leafF x).map fun t => (t,([] : List Nat))) = some (t,R) → frzCell x = some t:= fun hd => by
    simp only [Option.map_eq_some_iff,Prod.mk.injEq] at hd
    obtain ⟨t',h1,rfl,_⟩:= hd
    exact leafF_frz h1
  intro n
  induction n with
  | zero => intro x t R hd;exact base hd
  | succ n ih =>
    intro x t R hd
    unfold dfz at hd
    split at hd
    case h_2 =>
      have:= base hd
      unfold frzD
      split
      · simp [leafF] at hd
      · exact this
    rename_i q off len sz
    split at hd
    case isFalse => cases hd
    rename_i hc0
    obtain ⟨rfl,hsz⟩:= hc0
    simp only [Option.bind_eq_some_iff] at hd
    obtain ⟨cs,hq,hd⟩:= hd
    split at hd
    case isFalse => cases hd
    rename_i hlen
    simp only [Option.map_eq_some_iff,Prod.mk.injEq] at hd
    obtain ⟨⟨us,R1⟩,k1,rfl,rfl⟩:= hd
    have hm:= mapO_chunk sz len (mapO_dfzL (f':= frzD n h) (fun hd => ih hd) k1)
    simp only [frzD,hq,Option.bind_some,List.drop_zero]
    rw [if_pos (by omega),hm]
    rfl
theorem dfzT_frz {n : Nat} {x t : AV} {R : List Nat} (hd : dfzT n h x = some (t,R)) : frzT n h x = some t:= by
  unfold dfzT at hd
  split at hd
  · simp only [Option.map_eq_some_iff,Prod.mk.injEq] at hd
    obtain ⟨⟨us,R1⟩,k1,rfl,rfl⟩:= hd
    simp only [frzT,mapO_dfzL (f':= frzD n h) (fun hd => dfz_frz n hd) k1,Option.map_some]
  · rename_i hx
    have:= dfz_frz n hd
    unfold frzT
    split
    · exact absurd rfl (hx _)
    · exact this
theorem dfzL_frame {f f' : AV → Option (AV × List Nat)} {S : List Nat} (hf : ∀ {x t R},f x = some (t,R) → (∀ r ∈ R,r ∈ S) → f' x = some (t,R)) : ∀ {cs ts : List AV} {R : List Nat},dfzL f cs = some (ts,R) → (∀ r ∈ R,r ∈ S) → dfzL f' cs = some (ts,R)
  | [],ts,R,hd,_ => hd
  | c :: cs,ts,R,hd,hs => by
    simp only [dfzL,Option.bind_eq_some_iff,Option.map_eq_some_iff,Prod.mk.injEq] at hd
    obtain ⟨⟨t,R1⟩,k1,⟨us,R2⟩,k2,k3,k4⟩:= hd
    simp only at k3 k4
    subst k3;subst k4
    have e1:= hf k1 fun r hr => hs r (List.mem_append.2 (.inl hr))
    have e2:= dfzL_frame hf k2 fun r hr => hs r (List.mem_append.2 (.inr hr))
    simp only [dfzL,e1,e2,Option.bind_some,Option.map_some]
theorem dfz_frame {S : List Nat} (hS : ∀ r ∈ S,h'.hp r = h.hp r) : ∀ (n : Nat) {x t : AV} {R : List Nat},dfz n h x = some (t,R) → (∀ r ∈ R,r ∈ S) → dfz n h' x = some (t,R):= by
  intro n
  induction n with
  | zero => intro x t R hd _;exact hd
  | succ n ih =>
    intro x t R hd hs
    unfold dfz at hd ⊢
    split at hd
    case h_2 => exact hd
    rename_i q off len sz
    split at hd
    case isFalse => cases hd
    rename_i hc0
    rw [if_pos hc0]
    simp only [Option.bind_eq_some_iff] at hd
    obtain ⟨cs,hq,hd⟩:= hd
    split at hd
    case isFalse => cases hd
    rename_i hlen
    simp only [Option.map_eq_some_iff,Prod.mk.injEq] at hd
    obtain ⟨⟨us,R1⟩,k1,rfl,rfl⟩:= hd
    have e:= dfzL_frame (f':= dfz n h') (S:= S) (fun hd hs => ih hd hs) k1 fun r hr => hs r (List.mem_cons_of_mem _ hr)
    rw [hS q (hs q List.mem_cons_self),hq,Option.bind_some,if_pos hlen,e]
    rfl
theorem dfzT_frame {S : List Nat} (hS : ∀ r ∈ S,h'.hp r = h.hp r) {n : Nat} {x t : AV} {R : List Nat} (hd : dfzT n h x = some (t,R)) (hs : ∀ r ∈ R,r ∈ S) : dfzT n h' x = some (t,R):= by
  unfold dfzT at hd ⊢
  split at hd
  · simp only [Option.map_eq_some_iff,Prod.mk.injEq] at hd
    obtain ⟨⟨us,R1⟩,k1,rfl,rfl⟩:= hd
    simp only [dfzL_frame (f':= dfz n h') (S:= S) (fun hd hs => dfz_frame hS n hd hs) k1 hs,Option.map_some]
  · rename_i hx
    exact dfz_frame hS n hd hs
structure Ow (n : Nat) (h : Hp) (x t : AV) (R : List Nat) : Prop where
  z : dfzT n h x = some (t,R)
  nd : R.Nodup
  lt : ∀ r ∈ R,r < h.nx
theorem dfzL_up {f f' : AV → Option (AV × List Nat)} (hf : ∀ {x t R},f x = some (t,R) → f' x = some (t,R)) {cs ts : List AV} {R : List Nat} (hd : dfzL f cs = some (ts,R)) : dfzL f' cs = some (ts,R):=
  dfzL_frame (S:= R) (fun hd _ => hf hd) hd fun _ hr => hr
theorem dfz_up1 : ∀ {n : Nat} {x t : AV} {R : List Nat},dfz n h x = some (t,R) → dfz (n + 1) h x = some (t,R):= by
  intro n
  induction n with
  | zero =>
    intro x t R hd
    unfold dfz at hd ⊢
    split
    · simp [leafF] at hd
    · exact hd
  | succ n ih =>
    intro x t R hd
    unfold dfz at hd
    split at hd
    case h_2 =>
      unfold dfz
      split
      · simp [leafF] at hd
      · exact hd
    rename_i q off len sz
    split at hd
    case isFalse => cases hd
    rename_i hc0
    unfold dfz
    show (if off = 0 ∧ sz ≠ 0 then _ else _) = _
    rw [if_pos hc0]
    simp only [Option.bind_eq_some_iff] at hd
    obtain ⟨cs,hq,hd⟩:= hd
    split at hd
    case isFalse => cases hd
    rename_i hlen
    simp only [Option.map_eq_some_iff,Prod.mk.injEq] at hd
    obtain ⟨⟨us,R1⟩,k1,rfl,rfl⟩:= hd
    rw [hq,Option.bind_some,if_pos hlen,dfzL_up (fun hd => ih hd) k1]
    rfl
theorem dfz_up {n m : Nat} {x t : AV} {R : List Nat} (hm : n ≤ m) (hd : dfz n h x = some (t,R)) : dfz m h x = some (t,R):= by
  induction hm with
  | refl => exact hd
  | step _ ih => exact dfz_up1 ih
theorem dfzT_up {n m : Nat} {x t : AV} {R : List Nat} (hm : n ≤ m) (hd : dfzT n h x = some (t,R)) : dfzT m h x = some (t,R):= by
  unfold dfzT at hd ⊢
  split at hd
  · simp only [Option.map_eq_some_iff,Prod.mk.injEq] at hd
    obtain ⟨⟨us,R1⟩,k1,rfl,rfl⟩:= hd
    simp only [dfzL_up (fun hd => dfz_up hm hd) k1,Option.map_some]
  · exact dfz_up hm hd
theorem dfzE_up {n m : Nat} {x t : AV} {R : List Nat} (hm : n ≤ m) (hd : dfzE n h x = some (t,R)) : dfzE m h x = some (t,R):= by
  unfold dfzE at hd ⊢
  split at hd
  · simp only [Option.map_eq_some_iff,Prod.mk.injEq] at hd
    obtain ⟨⟨us,R1⟩,k1,rfl,rfl⟩:= hd
    simp only [dfzL_up (fun hd => dfzT_up hm hd) k1,Option.map_some]
  · exact dfzT_up hm hd
theorem Ow.frz {n : Nat} {x t : AV} {R : List Nat} (o : Ow n h x t R) (hn : n ≤ 8) : frzT 8 h x = some t:= dfzT_frz (dfzT_up hn o.z)
theorem Ow.mono {n : Nat} {x t : AV} {R : List Nat} (o : Ow n h x t R) (hn : h.nx ≤ h'.nx) (hp : ∀ r ∈ R,h'.hp r = h.hp r) : Ow n h' x t R:=
  ⟨dfzT_frame hp o.z fun _ hr => hr,o.nd,fun r hr => Nat.lt_of_lt_of_le (o.lt r hr) hn⟩
def okV : Nat → AV → Prop
  | 0,t => leafV t = true
  | n + 1,t => leafV t = true ∨ ∃ rows sz,t = .imm rows ∧ sz ≠ 0 ∧ ∀ row ∈ rows,row.length = sz ∧ ∀ c ∈ row,okV n c
theorem okV.mono : ∀ {n m : Nat} {t : AV},okV n t → n ≤ m → okV m t
  | 0,0,t,h,_ => h
  | 0,m + 1,t,h,_ => .inl h
  | n + 1,0,t,_,hm => absurd hm (by omega)
  | n + 1,m + 1,t,h,hm => by
    rcases h with h | ⟨rows,sz,h1,h2,h3⟩
    · exact .inl h
    · exact .inr ⟨rows,sz,h1,h2,fun row hr => ⟨(h3 row hr).1,fun c hc => ((h3 row hr).2 c hc).mono (by omega)⟩⟩
def okT (n : Nat) (t : AV) : Prop:= (∃ cs,t = .agg cs ∧ ∀ c ∈ cs,okV n c) ∨ ((∀ cs,t ≠ .agg cs) ∧ okV n t)
structure Tk (h : Hp) (R : List Nat) (h' : Hp) : Prop where
  nd : R.Nodup
  lo : ∀ r ∈ R,h.nx ≤ r ∧ r < h'.nx
  hp : ∀ q,q < h.nx → h'.hp q = h.hp q
  ap : h'.ap = h.ap
  nx : h.nx ≤ h'.nx
theorem Tk.refl (h : Hp) : Tk h [] h:= ⟨List.nodup_nil,fun r hr => (nomatch hr),fun _ _ => rfl,rfl,Nat.le_refl _⟩
theorem Tk.trans {h1 h2 : Hp} {R S : List Nat} (a : Tk h R h1) (b : Tk h1 S h2) : Tk h (R ++ S) h2 where
  nd:= List.nodup_append.2 ⟨a.nd,b.nd,fun x hx y hy e => by subst e;have:= (a.lo x hx).2;have:= (b.lo x hy).1;omega⟩
  lo r hr:= by
    rcases List.mem_append.1 hr with hr | hr
    · exact ⟨(a.lo r hr).1,Nat.lt_of_lt_of_le (a.lo r hr).2 b.nx⟩
    · exact ⟨Nat.le_trans a.nx (b.lo r hr).1,(b.lo r hr).2⟩
  hp q hq:= (b.hp q (Nat.lt_of_lt_of_le hq a.nx)).trans (a.hp q hq)
  ap:= b.ap.trans a.ap
  nx:= Nat.le_trans a.nx b.nx
theorem dthL_spec {f : AV → Hp → Option (AV × Hp)} {z : Hp → AV → Option (AV × List Nat)} {p : AV → Prop}
    (hz : ∀ {x t R} {h h' : Hp},z h x = some (t,R) → (∀ r ∈ R,h'.hp r = h.hp r) → z h' x = some (t,R))
    (hf : ∀ t h,p t → ∃ x h' R,f t h = some (x,h') ∧ z h' x = some (t,R) ∧ Tk h R h' ∧ notCell x = false) :
    ∀ (ts : List AV) (h : Hp),(∀ t ∈ ts,p t) → ∃ xs h' R,dthL f ts h = some (xs,h') ∧ dfzL (z h') xs = some (ts,R) ∧ Tk h R h' ∧ xs.length = ts.length ∧ ∀ c ∈ xs,notCell c = false
  | [],h,_ => ⟨[],h,[],rfl,rfl,Tk.refl h,rfl,fun c hc => by cases hc⟩
  | t :: ts,h,hp => by
    obtain ⟨x,h1,R1,k1,k2,k3,k4⟩:= hf t h (hp t List.mem_cons_self)
    obtain ⟨xs,h2,R2,j1,j2,j3,j4,j5⟩:= dthL_spec (f:= f) (z:= z) (p:= p) (fun hd hp => hz hd hp) hf ts h1 fun t ht => hp t (List.mem_cons_of_mem _ ht)
    refine ⟨x :: xs,h2,R1 ++ R2,by simp only [dthL,k1,j1,Option.bind_some,Option.map_some],?_,k3.trans j3,by simp [j4],fun c hc => ?_⟩
    · have:= hz (h':= h2) k2 fun r hr => j3.hp r (k3.lo r hr).2
      simp only [dfzL,this,j2,Option.bind_some,Option.map_some]
    · rcases List.mem_cons.1 hc with rfl | hc
      · exact k4
      · exact j5 c hc
theorem dth_spec : ∀ (n : Nat) (t : AV) (h : Hp),okV n t → ∃ x h' R,dth n t h = some (x,h') ∧ dfz n h' x = some (t,R) ∧ Tk h R h' ∧ notCell x = false:= by
  intro n
  induction n with
  | zero =>
    intro t h ht
    have ht' : leafV t = true:= ht
    exact ⟨t,h,[],by simp only [dth,ht',if_true],by simp only [dfz,leafF_of ht',Option.map_some],Tk.refl h,leaf_notCell ht'⟩
  | succ n ih =>
    intro t h ht
    by_cases hl : leafV t = true
    · refine ⟨t,h,[],?_,?_,Tk.refl h,leaf_notCell hl⟩
      · unfold dth
        split
        · simp [leafV] at hl
        · rw [if_pos hl]
      · unfold dfz
        split
        · simp [leafV] at hl
        · rw [leafF_of hl];rfl
    · rcases ht with ht | ⟨rows,sz,rfl,hsz,hrows⟩
      · exact absurd ht hl
      obtain ⟨r0,rest,rfl⟩ : ∃ r0 rest,rows = r0 :: rest:= by
        cases rows with
        | nil => exact absurd rfl hl
        | cons r0 rest => exact ⟨r0,rest,rfl⟩
      have hs0 : r0.length = sz:= (hrows r0 List.mem_cons_self).1
      have hall : ∀ row ∈ r0 :: rest,row.length = sz:= fun row hr => (hrows row hr).1
      obtain ⟨xs,h1,R1,k1,k2,k3,k4,k5⟩:= dthL_spec (f:= dth n) (z:= fun h => dfz n h) (p:= okV n) (fun hd hp => dfz_frame hp n hd fun _ hr => hr) (fun t h ht => ih t h ht) (r0 :: rest).flatten h fun c hc => by
        obtain ⟨row,hr,hcr⟩:= List.mem_flatten.1 hc
        exact (hrows row hr).2 c hcr
      have hfl:= flat_len hall
      have hnew : (h1.new xs).nx = h1.nx + 1:= rfl
      refine ⟨.sl h1.nx 0 (rest.length + 1) r0.length,h1.new xs,h1.nx :: R1,by simp only [dth,hs0,if_neg hsz,k1,Option.map_some],?_,⟨?_,fun r hr => ?_,fun q hq => ?_,k3.ap,by rw [hnew];have:= k3.nx;omega⟩,rfl⟩
      · have hk : dfzL (dfz n (h1.new xs)) xs = some ((r0 :: rest).flatten,R1):= dfzL_frame (S:= R1) (fun hd hs => dfz_frame (S:= R1) (fun r hr => by
          simp only [Hp.new]
          rw [if_neg (by have:= (k3.lo r hr).2;omega)]) n hd hs) k2 fun _ hr => hr
        have hnx : (h1.new xs).hp h1.nx = some xs:= by simp [Hp.new]
        show (if 0 = 0 ∧ r0.length ≠ 0 then _ else _) = _
        rw [if_pos ⟨rfl,by omega⟩,hnx,Option.bind_some,if_pos (by rw [k4,hfl,hs0];rfl),hk,Option.map_some,hs0]
        have:= chunk_of_flat hall
        simp only [List.length_cons] at this
        rw [this]
      · exact List.nodup_cons.2 ⟨fun hm => by have:= (k3.lo _ hm).2;omega,k3.nd⟩
      · rw [hnew]
        rcases List.mem_cons.1 hr with rfl | hr
        · exact ⟨k3.nx,by omega⟩
        · have:= k3.lo r hr
          exact ⟨this.1,by omega⟩
      · have:= k3.nx
        show (if q = h1.nx then _ else _) = _
        rw [if_neg (by omega)]
        exact k3.hp q hq
theorem dthT_spec (n : Nat) (t : AV) (h : Hp) (ht : okT n t) : ∃ x h' R,dthT n t h = some (x,h') ∧ Ow n h' x t R ∧ Tk h R h':= by
  rcases ht with ⟨cs,rfl,hc⟩ | ⟨hn,ht⟩
  · obtain ⟨xs,h1,R1,k1,k2,k3,_,_⟩:= dthL_spec (f:= dth n) (z:= fun h => dfz n h) (p:= okV n) (fun hd hp => dfz_frame hp n hd fun _ hr => hr) (fun t h ht => dth_spec n t h ht) cs h hc
    exact ⟨.agg xs,h1,R1,by simp only [dthT,k1,Option.map_some],⟨by simp only [dfzT,k2,Option.map_some],k3.nd,fun r hr => (k3.lo r hr).2⟩,k3⟩
  · obtain ⟨x,h1,R1,k1,k2,k3,k4⟩:= dth_spec n t h ht
    refine ⟨x,h1,R1,?_,⟨?_,k3.nd,fun r hr => (k3.lo r hr).2⟩,k3⟩
    · unfold dthT
      split
      · exact absurd rfl (hn _)
      · exact k1
    · unfold dfzT
      split
      · simp [notCell] at k4
      · exact k2
theorem dthL_low {f f' : AV → Hp → Option (AV × Hp)} : ∀ {ts : List AV} {h : Hp},(∀ t ∈ ts,∀ h,f' t h = f t h) → dthL f' ts h = dthL f ts h
  | [],_,_ => rfl
  | t :: ts,h,hf => by
    simp only [dthL,hf t List.mem_cons_self]
    congr 1
    funext p
    rw [dthL_low fun t ht => hf t (List.mem_cons_of_mem _ ht)]
theorem dth_low : ∀ {n m : Nat} {t : AV} {h : Hp},okV m t → m ≤ n → dth n t h = dth m t h:= by
  have leaf : ∀ {n : Nat} {t : AV} {h : Hp},leafV t = true → dth n t h = some (t,h):= fun {n t h} hl => by
    cases n with
    | zero => simp only [dth,hl,if_true]
    | succ n =>
      unfold dth
      split
      · simp [leafV] at hl
      · rw [if_pos hl]
  intro n m
  induction m generalizing n with
  | zero => intro t h ht _;rw [leaf ht,leaf ht]
  | succ m ih =>
    intro t h ht hm
    by_cases hl : leafV t = true
    · rw [leaf hl,leaf hl]
    rcases ht with ht | ⟨rows,sz,rfl,hsz,hrows⟩
    · exact absurd ht hl
    obtain ⟨k,rfl⟩ : ∃ k,n = k + 1:= ⟨n - 1,by omega⟩
    cases rows with
    | nil => exact absurd rfl hl
    | cons r0 rest =>
      unfold dth
      simp only []
      rw [dthL_low (f:= dth m) fun t ht h => ?_]
      obtain ⟨row,hr,hc⟩:= List.mem_flatten.1 ht
      exact ih ((hrows row hr).2 t hc) (by omega)
theorem dthT_low {n m : Nat} {t : AV} (ht : okT m t) (hm : m ≤ n) : dthT n t h = dthT m t h:= by
  rcases ht with ⟨cs,rfl,hc⟩ | ⟨hn,ht⟩
  · simp only [dthT]
    rw [dthL_low (f:= dth m) fun t ht h => dth_low (hc t ht) hm]
  · unfold dthT
    split
    · exact absurd rfl (hn _)
    · exact dth_low ht hm
end Go.Ev
