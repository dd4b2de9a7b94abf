/- What the functions that FnExactEngNew calls answer, for every argument within the law's bounds: part 2. -/
import Derived.Test.YtpolhafmapekpaaGreatDoorEnP1
import Derived.Lib.AtoiAllCases
import Derived.Lib.ItoaLen
import Derived.Lib.ItoaMem
import Derived.Lib.ItoaNum
import Derived.Lib.Split
set_option linter.unusedVariables false
set_option linter.unusedSimpArgs false
set_option linter.unnecessarySimpa false
namespace Go.Proofs.YtpolhafmapekpaaGreatDoor.En
open Go Go.RowKit Go.Ev
set_option maxHeartbeats 1600000
noncomputable def C_spec_l9Col:= c2 tDef strT (fun (v : TDef) (name : List UInt8) => v.fCols.length ≤ 1048576) ((.int .i64)) fun (v : TDef) (name : List UInt8) => colAt v.fCols name
theorem C_spec_l9Col_eq (v : TDef) (name : List UInt8) (h : v.fCols.length ≤ 1048576) : C_spec_l9Col [.agg [.str v.fName,.imm (v.fCols.map TCol.row),.imm (v.fPrimary.map TBy.row),.imm (v.fIndexes.map TIndex.row)],.str name] = some (.int .i64 ((colAt v.fCols name))):= c2_eq tDef strT h
theorem ok_spec_l9Col {WI : World → Prop} (hs : Stable WI) (cs) (hT : TOK (EE cs) WI) : PureOK Tryz.prog WI 156 C_spec_l9Col:= by
  refine pure2 (E:= EE cs) hT hs (by rw [st_spec_l9Col];rfl) fun v name hp => out_wp (n:= 0) (st_spec_l9Col cs) ?_
  have n2 : v.fCols.length ≤ 1048576:= hp
  simp only [go_sem,s_spec_l9Col,TDef.row]
  refine (wl_early (l:= v.fCols) (fun pre c => colF name pre c) (fun pre e h => e 2 = .ptr 0 0 ∧ h.hp 0 = some v.row ∧ e 1 = .str name ∧ e 5 = .int .i64 pre.length) (.exit 0) (fun e h => e 2 = .ptr 0 0 ∧ h.hp 0 = some v.row ∧ e 1 = .str name) (fun b e h => e 4 = .int .i64 b) (by omega) ?_ ?_ ?_ (by simp) v.fCols [] _ _ rfl ?_).mono ?_
  · rintro pre c rest e h a hp ⟨q0,q1,q2,ix⟩
    have hq : (c.fName == name) = false:= by unfold colF at hp;split at hp;cases hp;simpa using ‹¬ c.fName = name›
    simp only [go_sem,Nat.reduceBEq,Nat.reduceAdd,Nat.reduceLeDiff,s_spec_l9Col_L0,q0,q1,q2,ix,a.dl,a.ia (row:= TCol.row) (sz:= 3) rfl,a.hw,TDef.row,TCol.row,hq]
  · rintro pre c rest b e h a hp ⟨q0,q1,q2,ix⟩
    have hq : (c.fName == name) = true:= by unfold colF at hp;split at hp;simpa using ‹c.fName = name›;cases hp
    have hb : b = (pre.length : Int):= by unfold colF at hp;split at hp;simpa using hp.symm;cases hp
    subst hb
    simp only [go_sem,Nat.reduceBEq,Nat.reduceAdd,Nat.reduceLeDiff,s_spec_l9Col_L0,q0,q1,q2,ix,a.dl,a.ia (row:= TCol.row) (sz:= 3) rfl,a.hw,TDef.row,TCol.row,hq]
  · rintro e h ⟨q0,q1,q2,ix⟩
    simp only [go_sem,Nat.reduceBEq,Nat.reduceAdd,Nat.reduceLeDiff,s_spec_l9Col_L0,q0,q1,q2,ix,TDef.row]
  · simp only [go_sem,Nat.reduceBEq,TDef.row]
  · intro x e h hx
    cases he : earlyL (colF name) [] v.fCols with
    | none =>
      rw [he] at hx
      obtain ⟨rfl,j0,j1,j2⟩:= hx
      simp only [go_sem,colAt,he,Option.getD_none]
    | some k =>
      rw [he] at hx
      obtain ⟨rfl,j⟩:= hx
      simp only [go_sem,j,colAt,he]
theorem grows_appH {α : Type} {T : TD α} {l : List α} {v x : AV} {h : Hp} {bt H : Nat} {more : List α} (hH : H ≤ h.nx) (hi : ∀ id m,v = .app id m → H ≤ id) (hg : grows T l v h) (hx : rowsIn h T.sz x = some (more.map T.row)) (hb : (l.length + more.length) * bt ≤ room) :
    ∃ v' h',sApp false bt T.sz v x h = some (v',h') ∧ grows T (l ++ more) v' h' ∧ (∀ id m,v' = .app id m → H ≤ id) ∧ h'.hp = h.hp ∧ h.nx ≤ h'.nx ∧ (∀ q,q < H → h'.ap q = h.ap q):= by
  have hh : headLen T.sz (more.map T.row) = true:= by
    cases more with
    | nil => rfl
    | cons v r => simp [headLen,T.len]
  rcases hg with ⟨rfl,rfl⟩ | ⟨id,rfl,h2,h3⟩
  · cases more with
    | nil => exact ⟨.snil,h,by simp [sApp,hx,headLen],.inl ⟨rfl,rfl⟩,fun _ _ e => (by cases e),rfl,Nat.le_refl _,fun _ _ => rfl⟩
    | cons a r =>
      simp only [List.length_nil,Nat.zero_add] at hb
      refine ⟨_,h.newApp (a :: r).length T.sz,?_,.inr ⟨h.nx,rfl,by simp [Hp.newApp],by simp [Hp.newApp]⟩,fun id m e => by injection e with e1 e2;omega,rfl,by simp [Hp.newApp],fun q hq => by simp only [Hp.newApp];rw [if_neg (by omega)]⟩
      have hf:= frzRows_T T (a :: r)
      have he : ((a :: r).map T.row).isEmpty = false:= rfl
      simp only [sApp,hx,Option.bind_some,hh,if_true,he,hb,Bool.false_eq_true,if_false,hf,List.length_map,List.nil_append]
  · have hid:= hi id _ rfl
    refine ⟨.app id ((l ++ more).map T.row),h.setApp id (l.length + more.length) T.sz,kApp_rows T l more hx h2 hb,.inr ⟨id,rfl,by simp [Hp.setApp],h3⟩,fun id' m e => by injection e with e1 e2;omega,rfl,Nat.le_refl _,fun q hq => ?_⟩
    simp only [Hp.setApp]
    rw [if_neg (by omega)]
theorem hP_growH {α : Type} {T : TD α} {l : List α} {v x : AV} {h : Hp} {E : Env} {c : CallH} {bt n H : Nat} {d : Option Nat} {os : List SOper} {e : Ps} {Q : QS} (more : List α) (hn : n = T.sz) (hH : H ≤ h.nx) (hi : ∀ id m,v = .app id m → H ≤ id) (hg : grows T l v h) (hx : rowsIn h T.sz x = some (more.map T.row)) (hb : (l.length + more.length) * bt ≤ room)
    (hw : ∀ v' h',grows T (l ++ more) v' h' → (∀ id m,v' = .app id m → H ≤ id) → h'.hp = h.hp → h.nx ≤ h'.nx → (∀ q,q < H → h'.ap q = h.ap q) → hP (kThen (some (upd? e d v',h')) E c os) Q) : hP (kThen (kOper d (some true) (sApp false bt n v x h) e h) E c os) Q:= by
  subst hn
  obtain ⟨v',h',h1,h2,h3,h4,h5,h6⟩:= grows_appH (bt:= bt) hH hi hg hx hb
  rw [h1,kOper_go]
  exact hw v' h' h2 h3 h4 h5 h6
theorem LK0_spec_l10Parts (cs) (h9 : (EE cs).T 156 = some C_spec_l9Col) {l : List TToken} (hl : l.length ≤ 1000) {nm : List UInt8} {cols : List TCol} {prim : List TBy} {idx : List TIndex} (hcl : cols.length ≤ 1048576) {c1 c2 c3 : AV} (s1 : SE (cols.map TCol.row) c1) (s2 : SE (prim.map TBy.row) c2) (s3 : SE (idx.map TIndex.row) c3) {r b H id : Nat} (hHi : H ≤ id) (hbr : b ≠ r) {h0 : Hp} {Q : QS} :
    ∀ (m : Nat) (acc : List TBy) (s : St) (e : Ps) (h : Hp),(l.length + 2 ≤ s.at_ + m ∨ (s.bad = true ∧ 1 ≤ m)) → s.at_ ≤ l.length → acc.length + m ≤ 2000 → e 0 = .ptr r 0 → e 3 = .ptr b 0 → e 5 = .app id (acc.map TBy.row) → e 6 = .bool true → h.ap id = some (acc.length,2) → id < h.nx → H ≤ h.nx → h.hp r = some (rdC l s) → h.hp b = some [.str nm,c1,c2,c3] → (∀ q,q < H → q ≠ r → h.hp q = h0.hp q) → (∀ q,q < H → h.ap q = h0.ap q) →
    (∀ e' h' acc' s',acc' = (partsF l (colAt cols) m acc s).1 → mustT l s' [59] = (partsF l (colAt cols) m acc s).2 → e' 0 = .ptr r 0 → e' 5 = .app id (acc'.map TBy.row) → h'.ap id = some (acc'.length,2) → h.nx ≤ h'.nx → h'.hp r = some (rdC l s') → (∀ q,q < H → q ≠ r → h'.hp q = h0.hp q) → (∀ q,q < H → h'.ap q = h0.ap q) → Q (.exit 0) e' h') → WL (EE cs) s_spec_l10Parts_L0 e h Q:= by
  intro m
  induction m with
  | zero =>
    intro acc s e h hm hs
    omega
  | succ m ih =>
    intro acc s e h hm hsl ha e0 e3 e5 e6 hap hid hnx hr hb f1 f2 hq
    obtain ⟨i,bad⟩:= s
    have hr0:= hr
    unfold rdC at hr
    simp only at hr hm hsl
    cases bad with
    | true =>
      refine .step (wp_sound _ _ _ _ ?_)
      simp only [go_sem,Nat.reduceBEq,Nat.reduceAdd,Nat.reduceLeDiff,s_spec_l10Parts_L0,e0,e6,hr]
      exact hq _ _ acc ⟨i,true⟩ (by simp [partsF]) (by rw [mustT_bad rfl];simp [partsF,St.fall]) (by simp only [go_sem,Nat.reduceBEq,e0]) (by simp only [go_sem,Nat.reduceBEq,e5]) hap (Nat.le_refl _) hr0 f1 f2
    | false =>
      have hm' : l.length + 2 ≤ i + (m + 1):= by rcases hm with h | ⟨h,_⟩;exact h;cases h
      have c9:= C_spec_l9Col_eq ⟨nm,cols,prim,idx⟩ (nmV l ⟨i,false⟩) hcl
      obtain ⟨fr1,nc1⟩:= s1
      obtain ⟨fr2,nc2⟩:= s2
      obtain ⟨fr3,nc3⟩:= s3
      have st1:= stp_nm (l:= l) ⟨i,false⟩
      have st2:= stp_is (l:= l) (nmS l ⟨i,false⟩) wDesc
      have hb1 : IntKind.wrap .i64 0 = 0:= rfl
      have fb : ∀ (a : Int) (x : Bool),sFill [AV.int .i64 0,.bool false] [(0,1,.int .i64 a),(1,1,.bool x)] = some [.int .i64 a,.bool x]:= fun _ _ => rfl
      have fr : ∀ (a : Int) (x : Bool),fillR (List.replicate 1 [AV.int .i64 0,.bool false]) 2 [(0,.agg [.int .i64 a,.bool x])] = some [[.int .i64 a,.bool x]]:= fun _ _ => rfl
      have fz : ∀ (a : Int) (x : Bool),frzRows [[AV.int .i64 a,.bool x]] = some [[.int .i64 a,.bool x]]:= fun _ _ => rfl
      refine .step (wp_sound _ _ _ _ ?_)
      simp only [go_sem,Nat.reduceBEq,Nat.reduceAdd,Nat.reduceLeDiff,s_spec_l10Parts_L0,e0,e3,e6,hr,hb]
      refine hP_spec_l10Name cs hl hr0 ?_
      intro h1 k1
      simp only [go_sem,Nat.reduceBEq,e0,h9,fr1,fr2,fr3,c9]
      refine hP_spec_l10Is cs hl (s:= nmS l ⟨i,false⟩) (w:= wDesc) k1.at_ ?_
      intro h2 k2
      have hx2 : h2.nx = h.nx:= k2.nx.trans k1.nx
      have ha2 : h2.ap = h.ap:= k2.ap.trans k1.ap
      simp only [go_sem,Nat.reduceBEq,Nat.reduceAdd,e5,fb,fr,fz]
      refine hP_appI (T:= tBy) (l:= acc) [⟨colAt cols (nmV l ⟨i,false⟩),isT l (nmS l ⟨i,false⟩) wDesc⟩] rfl (by have g : ¬ id = h2.nx:= (by omega);simp only [g,if_false];rw [ha2,hap];rfl) rfl (by simp only [List.length_cons,List.length_nil];unfold room;omega) ?_
      simp only [go_sem,Nat.reduceBEq,e0]
      refine hP_spec_l10Is cs hl (s:= isS l (nmS l ⟨i,false⟩) wDesc) (w:= [44]) (by simp only [go_sem];exact k2.at_) ?_
      intro h3 k3
      have hx3 : h3.nx = h2.nx + 1:= k3.nx
      have hp3 : ∀ q,q ≠ r → h3.hp q = h.hp q:= fun q hq => (k3.hp q hq).trans (((k2.hp q hq)).trans (k1.hp q hq))
      have ap3 : ∀ q,q < h.nx → q ≠ id → h3.ap q = h.ap q:= fun q hq hqi => by
        rw [k3.ap]
        have g : ¬ q = h2.nx:= by omega
        simp only [hqi,g,if_false,ha2]
      have api : h3.ap id = some (acc.length + 1,2):= by rw [k3.ap];simp;rfl
      simp only [go_sem,Nat.reduceBEq]
      have hpf : partsF l (colAt cols) (m + 1) acc ⟨i,false⟩ = if isT l (isS l (nmS l ⟨i,false⟩) wDesc) [59] then (acc ++ [⟨colAt cols (nmV l ⟨i,false⟩),isT l (nmS l ⟨i,false⟩) wDesc⟩],(isS l (nmS l ⟨i,false⟩) wDesc).adv) else if isT l (isS l (nmS l ⟨i,false⟩) wDesc) [44] then partsF l (colAt cols) m (acc ++ [⟨colAt cols (nmV l ⟨i,false⟩),isT l (nmS l ⟨i,false⟩) wDesc⟩]) (isS l (nmS l ⟨i,false⟩) wDesc).adv else (acc ++ [⟨colAt cols (nmV l ⟨i,false⟩),isT l (nmS l ⟨i,false⟩) wDesc⟩],(isS l (nmS l ⟨i,false⟩) wDesc).fall):= by simp only [partsF,Bool.false_eq_true,if_false]
      rw [hpf] at hq
      have le2:= (st1.trans st2).le
      have in2:= (st1.trans st2).inn hsl
      have gd:= fun (hg : (isS l (nmS l ⟨i,false⟩) wDesc).bad = false) => nm_good (st2.good hg)
      have le3:= st2.le
      generalize hs2 : isS l (nmS l ⟨i,false⟩) wDesc = s2 at *
      generalize colAt cols (nmV l ⟨i,false⟩) = k at *
      generalize isT l (nmS l ⟨i,false⟩) wDesc = dd at *
      simp only at le2 in2 gd le3
      cases ht : isT l s2 [44] with
      | true =>
        have ht2 : isT l s2 [59] = false:= by
          unfold isT at ht ⊢
          cases hk : tokAt l s2 with
          | none => rfl
          | some t =>
            rw [hk] at ht
            simp only [beq_iff_eq] at ht
            simp only [ht]
            decide
        rw [ht2,ht] at hq
        simp only [Bool.false_eq_true,if_false,if_true] at hq
        rw [isS_true ht] at k3
        have g1:= gd (isT_lt ht).2
        have g2:= (isT_lt ht).1
        refine ih (acc ++ [⟨k,dd⟩]) s2.adv _ h3 (.inl (by simp only [St.adv];omega)) g2 (by simp;omega) (by simp only [go_sem,Nat.reduceBEq,e0]) (by simp only [go_sem,Nat.reduceBEq,e3]) (by simp only [go_sem,Nat.reduceBEq]) (by simp only [go_sem,Nat.reduceBEq]) (by rw [api];simp) (by omega) (by omega) k3.at_ (by rw [hp3 b hbr,hb]) (fun q hq hqr => (hp3 q hqr).trans (f1 q hq hqr)) (fun q hq => (ap3 q (by omega) (by omega)).trans (f2 q hq)) ?_
        intro e' h' acc' s' a1 a2 a3 a4 a5 a6 a7 a8 a9
        exact hq e' h' acc' s' a1 a2 a3 a4 a5 (by omega) a7 a8 a9
      | false =>
        rw [ht] at hq
        rw [isS_false ht] at k3
        have hq2:= hq
        refine .step (wp_sound _ _ _ _ ?_)
        simp only [go_sem,Nat.reduceBEq]
        refine hq _ h3 (acc ++ [⟨k,dd⟩]) s2 ?_ ?_ (by simp only [go_sem,Nat.reduceBEq,e0]) (by simp only [go_sem,Nat.reduceBEq]) (by rw [api];simp) (by omega) k3.at_ (fun q hq hqr => (hp3 q hqr).trans (f1 q hq hqr)) (fun q hq => (ap3 q (by omega) (by omega)).trans (f2 q hq))
        · cases isT l s2 [59] <;> rfl
        · unfold mustT
          cases isT l s2 [59] <;> rfl
theorem rk_spec_l10Parts (cs) (h9 : (EE cs).T 156 = some C_spec_l9Col) {l : List TToken} (hl : l.length ≤ 1000) {nm : List UInt8} {cols : List TCol} {prim : List TBy} {idx : List TIndex} (hcl : cols.length ≤ 1048576) {c1 c2 c3 : AV} (s1 : SE (cols.map TCol.row) c1) (s2 : SE (prim.map TBy.row) c2) (s3 : SE (idx.map TIndex.row) c3) (r : Nat) (s : St) (h : Hp) (hsl : s.at_ ≤ l.length) (hr : h.hp r = some (rdC l s)) (hrn : r < h.nx) :
    ∃ v h',RunF (EE cs) 107 [.ptr r 0,.agg [.str nm,c1,c2,c3]] h (v,h') ∧ grows tBy (partsF l (colAt cols) (l.length + 2) [] s).1 v h' ∧ RdG l r (partsF l (colAt cols) (l.length + 2) [] s).2 h h':= by
  have : ∃ rr,RunF (EE cs) 107 [.ptr r 0,.agg [.str nm,c1,c2,c3]] h rr ∧ grows tBy (partsF l (colAt cols) (l.length + 2) [] s).1 rr.1 rr.2 ∧ RdG l r (partsF l (colAt cols) (l.length + 2) [] s).2 h rr.2:= by
    refine run_wp (st_spec_l10Parts cs) ?_
    have n1 : ¬ r = h.nx:= by omega
    simp only [go_sem,Nat.reduceBEq,Nat.reduceAdd,s_spec_l10Parts,rep0,fill0,frz0]
    refine LK0_spec_l10Parts cs h9 hl (nm:= nm) hcl s1 s2 s3 (r:= r) (b:= h.nx) (H:= h.nx) (id:= h.nx + 1) (h0:= h) (by omega) (by omega) (l.length + 2) [] s _ _ (.inl (by omega)) hsl (by simp only [List.length_nil];omega) (by simp only [go_sem,Nat.reduceBEq]) (by simp only [go_sem,Nat.reduceBEq]) (by simp only [go_sem,Nat.reduceBEq]) (by simp only [go_sem,Nat.reduceBEq]) (by simp) (by simp) (by simp only [];omega) (by simp only [n1,if_false];exact hr) (by simp) (fun q hq hqr => by have g : ¬ q = h.nx:= (by omega);simp only [g,if_false]) (fun q hq => by have g : ¬ q = h.nx + 1:= (by omega);simp only [g,if_false]) ?_
    intro e' h' acc' s' a1 a2 a3 a4 a5 a6 a7 a8 a9
    simp only [go_sem,a3]
    refine hP_spec_l10Must cs hl (w:= [59]) a7 ?_
    intro h4 k4
    rw [a2] at k4
    simp only [go_sem,Nat.reduceBEq,a4]
    simp only at a6
    refine ⟨fun _ e => (by cases e),_,rfl,.inr ⟨h.nx + 1,by rw [a1];rfl,by rw [k4.ap,a5,a1];rfl,by rw [k4.nx];omega⟩,k4.at_,fun q q1 q2 => (k4.hp q q2).trans (a8 q q1 q2),fun q q1 => by rw [k4.ap];exact a9 q q1,by rw [k4.nx];omega⟩
  obtain ⟨⟨v,h'⟩,k1,k2,k3⟩:= this
  exact ⟨v,h',k1,k2,k3⟩
theorem hP_spec_l10Parts (cs) (h9 : (EE cs).T 156 = some C_spec_l9Col) {l : List TToken} (hl : l.length ≤ 1000) {nm : List UInt8} {cols : List TCol} {prim : List TBy} {idx : List TIndex} (hcl : cols.length ≤ 1048576) {c1 c2 c3 : AV} (s1 : SE (cols.map TCol.row) c1) (s2 : SE (prim.map TBy.row) c2) (s3 : SE (idx.map TIndex.row) c3) {r : Nat} {s : St} {h : Hp} {d : Option Nat} {os : List SOper} {e : Ps} {Q : QS} (hsl : s.at_ ≤ l.length) (hr : h.hp r = some (rdC l s)) (hrn : r < h.nx)
    (hw : ∀ v h',grows tBy (partsF l (colAt cols) (l.length + 2) [] s).1 v h' → RdG l r (partsF l (colAt cols) (l.length + 2) [] s).2 h h' → hP (kThen (some (upd? e d v,h')) (EE cs) (lim (EE cs)) os) Q) : hP (kThen (kOper d (some true) (lim (EE cs) 107 [.ptr r 0,.agg [.str nm,c1,c2,c3]] h) e h) (EE cs) (lim (EE cs)) os) Q:= by
  obtain ⟨v,h',k1,k2,k3⟩:= rk_spec_l10Parts cs h9 hl hcl s1 s2 s3 r s h hsl hr hrn
  exact hP_call k1 (hw v h' k2 k3)
end Go.Proofs.YtpolhafmapekpaaGreatDoor.En
namespace Go.Proofs.YtpolhafmapekpaaGreatDoor.En
open Go Go.RowKit Go.Ev
set_option maxHeartbeats 1600000
theorem rk_spec_l10Index (cs) (h9 : (EE cs).T 156 = some C_spec_l9Col) {l : List TToken} (hl : l.length ≤ 1000) {nm : List UInt8} {cols : List TCol} {prim : List TBy} {idx : List TIndex} (hcl : cols.length ≤ 1048576) {c1 c2 c3 : AV} (s1 : SE (cols.map TCol.row) c1) (s2 : SE (prim.map TBy.row) c2) (s3 : SE (idx.map TIndex.row) c3) (r : Nat) (u : Bool) (s : St) (h : Hp) (hsl : s.at_ ≤ l.length) (hr : h.hp r = some (rdC l s)) (hrn : r < h.nx) :
    ∃ v h',RunF (EE cs) 108 [.ptr r 0,.agg [.str nm,c1,c2,c3],.bool u] h (.agg [.str (nmV l s),.bool u,v],h') ∧ SE ((partsF l (colAt cols) (l.length + 2) [] (nmS l s)).1.map TBy.row) v ∧ RdG l r (partsF l (colAt cols) (l.length + 2) [] (nmS l s)).2 h h':= by
  have : ∃ rr,RunF (EE cs) 108 [.ptr r 0,.agg [.str nm,c1,c2,c3],.bool u] h rr ∧ ∃ v,rr.1 = .agg [.str (nmV l s),.bool u,v] ∧ SE ((partsF l (colAt cols) (l.length + 2) [] (nmS l s)).1.map TBy.row) v ∧ RdG l r (partsF l (colAt cols) (l.length + 2) [] (nmS l s)).2 h rr.2:= by
    refine run_wp (st_spec_l10Index cs) ?_
    have n1 : ¬ r = h.nx:= by omega
    have n2 : ¬ r = h.nx + 1:= by omega
    have n3 : ¬ r = h.nx + 1 + 1:= by omega
    have fb : sFill [.str [],.bool false,.snil] [(1,1,.bool u)] = some [AV.str [],.bool u,.snil]:= rfl
    simp only [go_sem,kSt_ptr,Nat.reduceBEq,Nat.reduceAdd,s_spec_l10Index,fb]
    refine hP_spec_l10Name cs hl (s:= s) (by simp only [go_sem,n1,n2,n3];exact hr) ?_
    intro h1 k1
    have x1 : h1.nx = h.nx + 3:= k1.nx
    have b0 : h1.hp h.nx = some [.str nm,c1,c2,c3]:= (k1.hp _ (by omega)).trans (by simp only [go_sem])
    have b1 : h1.hp (h.nx + 1) = some [.str [],.bool false,.snil]:= (k1.hp _ (by omega)).trans (by simp only [go_sem])
    have b2 : h1.hp (h.nx + 1 + 1) = some [.str [],.bool u,.snil]:= (k1.hp _ (by omega)).trans (by simp only [go_sem])
    simp only [go_sem,kSt_ptr,Nat.reduceBEq,Nat.reduceAdd,Nat.reduceLeDiff,b0,b2]
    refine hP_spec_l10Parts cs h9 hl hcl s1 s2 s3 (s:= nmS l s) ((stp_nm s).inn hsl) (by simp only [go_sem,n3];exact k1.at_) (by simp only [go_sem];omega) ?_
    intro v h2 g2 k2
    have se:= g2.cell
    have nv:= se.2
    have m1 : h1.nx ≤ h2.nx:= k2.nx
    have b1' : h2.hp (h.nx + 1) = some [.str [],.bool false,.snil]:= (k2.hp _ (by simp only [go_sem];omega) (by omega)).trans (by simp [b1])
    have b2' : h2.hp (h.nx + 1 + 1) = some [.str (nmV l s),.bool u,.snil]:= (k2.hp _ (by simp only [go_sem];omega) (by omega)).trans (by simp)
    simp only [go_sem,kSt_ptr,Nat.reduceBEq,Nat.reduceAdd,b1',b2',nv,cell1 nv]
    refine ⟨fun _ e => (by cases e),_,rfl,v,rfl,se,?_,?_,?_,?_⟩
    · show (if r = h.nx + 1 then _ else if r = h.nx + 1 + 1 then _ else _) = _
      rw [if_neg n2,if_neg n3]
      exact k2.at_
    · intro q q1 q2
      have a1 : ¬ q = h.nx:= by omega
      have a2 : ¬ q = h.nx + 1:= by omega
      have a3 : ¬ q = h.nx + 1 + 1:= by omega
      show (if q = h.nx + 1 then _ else if q = h.nx + 1 + 1 then _ else _) = _
      rw [if_neg a2,if_neg a3,k2.hp q (by simp only [go_sem];omega) q2]
      show (if q = h.nx + 1 + 1 then _ else _) = _
      rw [if_neg a3,k1.hp q q2]
      simp only [a1,a2,a3,if_false]
    · intro q q1
      refine (k2.ap q (by simp only [go_sem];omega)).trans ?_
      show h1.ap q = _
      rw [k1.ap]
    · show h.nx ≤ h2.nx
      omega
  obtain ⟨⟨v,h'⟩,k1,w,k2,k3,k4⟩:= this
  simp only at k2 k3 k4
  subst k2
  exact ⟨w,h',k1,k3,k4⟩
theorem hP_spec_l10Index (cs) (h9 : (EE cs).T 156 = some C_spec_l9Col) {l : List TToken} (hl : l.length ≤ 1000) {nm : List UInt8} {cols : List TCol} {prim : List TBy} {idx : List TIndex} (hcl : cols.length ≤ 1048576) {c1 c2 c3 : AV} (s1 : SE (cols.map TCol.row) c1) (s2 : SE (prim.map TBy.row) c2) (s3 : SE (idx.map TIndex.row) c3) {r : Nat} {u : Bool} {s : St} {h : Hp} {d : Option Nat} {os : List SOper} {e : Ps} {Q : QS} (hsl : s.at_ ≤ l.length) (hr : h.hp r = some (rdC l s)) (hrn : r < h.nx)
    (hw : ∀ v h',SE ((partsF l (colAt cols) (l.length + 2) [] (nmS l s)).1.map TBy.row) v → RdG l r (partsF l (colAt cols) (l.length + 2) [] (nmS l s)).2 h h' → hP (kThen (some (upd? e d (.agg [.str (nmV l s),.bool u,v]),h')) (EE cs) (lim (EE cs)) os) Q) : hP (kThen (kOper d (some true) (lim (EE cs) 108 [.ptr r 0,.agg [.str nm,c1,c2,c3],.bool u] h) e h) (EE cs) (lim (EE cs)) os) Q:= by
  obtain ⟨v,h',k1,k2,k3⟩:= rk_spec_l10Index cs h9 hl hcl s1 s2 s3 r u s h hsl hr hrn
  exact hP_call k1 (hw v h' k2 k3)
theorem LK0_spec_l10Def (cs) (h9 : (EE cs).T 155 = some C_spec_l9Type) {l : List TToken} (hl : l.length ≤ 1000) (htk : ∀ t ∈ l,tokOk t = true) {n : List UInt8} {r H : Nat} (hrH : r < H) {h0 : Hp} {Q : QS} :
    ∀ (m : Nat) (acc : List TCol) (s : St) (v : AV) (e : Ps) (h : Hp),(l.length + 2 ≤ s.at_ + m ∨ (s.bad = true ∧ 1 ≤ m)) → s.at_ ≤ l.length → acc.length + m ≤ 2000 → e 0 = .ptr r 0 → e 2 = .ptr H 0 → e 3 = .ptr (H + 1) 0 → H + 2 ≤ h.nx → h.hp r = some (rdC l s) → h.hp H = some [.str [],.snil,.snil,.snil] → h.hp (H + 1) = some [.str n,v,.snil,.snil] → grows tCol acc v h → (∀ id m,v = .app id m → H ≤ id) → (∀ q,q < H → q ≠ r → h.hp q = h0.hp q) → (∀ q,q < H → h.ap q = h0.ap q) →
    (∀ e' h' v',e' 0 = .ptr r 0 → e' 2 = .ptr H 0 → e' 3 = .ptr (H + 1) 0 → H + 2 ≤ h'.nx → h'.hp r = some (rdC l (colsF l (colS l) m acc s).2) → h'.hp H = some [.str [],.snil,.snil,.snil] → h'.hp (H + 1) = some [.str n,v',.snil,.snil] → SE ((colsF l (colS l) m acc s).1.map TCol.row) v' → (∀ q,q < H → q ≠ r → h'.hp q = h0.hp q) → (∀ q,q < H → h'.ap q = h0.ap q) → Q (.exit 0) e' h') → WL (EE cs) s_spec_l10Def_L0 e h Q:= by
  intro m
  induction m with
  | zero =>
    intro acc s v e h hm hs
    omega
  | succ m ih =>
    intro acc s v e h hm hsl ha e0 e2 e3 hnx hr hb2 hb3 gx gi f1 f2 hq
    have hr0:= hr
    unfold rdC at hr
    cases hbad : s.bad with
    | true =>
      rw [hbad] at hr
      have e1 : colsF l (colS l) (m + 1) acc s = (acc,s):= by simp only [colsF,hbad,if_true]
      rw [e1] at hq
      refine .step (wp_sound _ _ _ _ ?_)
      simp only [go_sem,Nat.reduceBEq,Nat.reduceAdd,Nat.reduceLeDiff,s_spec_l10Def_L0,e0,hr]
      exact hq _ _ v (by simp only [go_sem,Nat.reduceBEq,e0]) (by simp only [go_sem,Nat.reduceBEq,e2]) (by simp only [go_sem,Nat.reduceBEq,e3]) hnx hr0 hb2 hb3 gx.cell f1 f2
    | false =>
      have hm' : l.length + 2 ≤ s.at_ + (m + 1):= by rcases hm with h | ⟨h,_⟩;exact h;rw [hbad] at h;cases h
      rw [hbad] at hr
      refine .step (wp_sound _ _ _ _ ?_)
      simp only [go_sem,Nat.reduceBEq,Nat.reduceAdd,Nat.reduceLeDiff,s_spec_l10Def_L0,e0,hr]
      refine hP_spec_l10Is cs hl (w:= wPrimary) hr0 ?_
      intro h1 k1
      have x1 : h1.nx = h.nx:= k1.nx
      cases hp : isT l s wPrimary with
      | true =>
        have e1 : colsF l (colS l) (m + 1) acc s = (acc,s.adv):= by simp only [colsF,hbad,Bool.false_eq_true,if_false,hp,if_true]
        rw [e1] at hq
        rw [isS_true hp] at k1
        simp only [go_sem,Nat.reduceBEq,e0]
        exact hq _ h1 v (by simp only [go_sem,Nat.reduceBEq,e0]) (by simp only [go_sem,Nat.reduceBEq,e2]) (by simp only [go_sem,Nat.reduceBEq,e3]) (by omega) k1.at_ ((k1.hp _ (by omega)).trans hb2) ((k1.hp _ (by omega)).trans hb3) gx.cell (fun q q1 q2 => (k1.hp q q2).trans (f1 q q1 q2)) (fun q q1 => by rw [k1.ap];exact f2 q q1)
      | false =>
        have e1 : colsF l (colS l) (m + 1) acc s = colsF l (colS l) m (acc ++ [(colS l s).1]) (colS l s).2:= by simp only [colsF,hbad,Bool.false_eq_true,if_false,hp]
        rw [e1] at hq
        rw [isS_false hp] at k1
        simp only [go_sem,Nat.reduceBEq,e0]
        refine hP_spec_l10Col cs h9 hl k1.at_ (by omega) ?_
        intro h2 k2
        have x2 : h1.nx ≤ h2.nx:= k2.nx
        have b2 : h2.hp H = _:= (k2.hp _ (by omega) (by omega)).trans ((k1.hp _ (by omega)).trans hb2)
        have b3 : h2.hp (H + 1) = _:= (k2.hp _ (by omega) (by omega)).trans ((k1.hp _ (by omega)).trans hb3)
        have gx2 : grows tCol acc v h2:= gx.mono (by omega) fun q q1 => (k2.ap q (by omega)).trans (by rw [k1.ap])
        have hcr:= colR_S htk
        have cst:= hcr.stp s
        have cgo:= hcr.go s
        have g1 : ¬ H + 1 = h2.nx:= by omega
        have g2 : ¬ H = h2.nx:= by omega
        have g3 : ¬ r = h2.nx:= by omega
        have nv:= gx.cell.2
        generalize (colS l s).1 = c at *
        generalize (colS l s).2 = s' at *
        have fr : fillR (List.replicate 1 [AV.str [],.int .i64 0,.bool false]) 3 [(0,.agg [.str c.fName,.int .i64 c.fType,.bool c.fNull])] = some [[.str c.fName,.int .i64 c.fType,.bool c.fNull]]:= rfl
        have fz : frzRows [[AV.str c.fName,.int .i64 c.fType,.bool c.fNull]] = some [[.str c.fName,.int .i64 c.fType,.bool c.fNull]]:= rfl
        simp only [go_sem,kSt_ptr,Nat.reduceBEq,Nat.reduceAdd,Nat.reduceLeDiff,e3,b3,g1,TCol.row,fr,fz]
        refine hP_growH (T:= tCol) (l:= acc) (H:= H) [c] rfl (by simp only [];omega) gi (gx2.mono (by simp only [];omega) fun q hq => by have g : ¬ q = h2.nx + 1:= (by omega);simp only [g,if_false]) rfl (by simp only [List.length_cons,List.length_nil];unfold room;omega) ?_
        intro v' h3 w1 w2 w3 w4 w5
        have x3 : h2.nx + 1 + 1 ≤ h3.nx:= w4
        have nv':= w1.cell.2
        have d2 : h3.hp H = _:= (congrFun w3 H).trans (by simp only [g2,if_false];exact b2)
        have d3 : h3.hp (H + 1) = some [.str n,v,.snil,.snil]:= (congrFun w3 (H + 1)).trans (by simp only [g1,if_false];exact b3)
        have dr : h3.hp r = some (rdC l s'):= (congrFun w3 r).trans (by simp only [g3,if_false];exact k2.at_)
        simp only [go_sem,kSt_ptr,Nat.reduceBEq,Nat.reduceAdd,Nat.reduceLeDiff,e3,d3,nv',cell1 nv']
        refine ih (acc ++ [c]) s' v' _ _ ?_ (cst.inn hsl) (by simp;omega) (by simp only [go_sem,Nat.reduceBEq,e0]) (by simp only [go_sem,Nat.reduceBEq,e2]) (by simp only [go_sem,Nat.reduceBEq,e3]) (by simp only [];omega) ?_ ?_ ?_ (w1.mono (by simp) fun _ _ => rfl) w2 ?_ ?_ hq
        · cases hb' : s'.bad with
          | true => exact .inr ⟨rfl,by omega⟩
          | false => have:= cgo hb';exact .inl (by omega)
        · have g : ¬ r = H + 1:= by omega
          simp only [g,if_false];exact dr
        · have g : ¬ H = H + 1:= by omega
          simp only [g,if_false];exact d2
        · simp
        · intro q q1 q2
          have g : ¬ q = H + 1:= by omega
          have g' : ¬ q = h2.nx:= by omega
          simp only [g,if_false]
          rw [congrFun w3 q]
          simp only [g',if_false]
          rw [k2.hp q (by omega) q2,k1.hp q q2]
          exact f1 q q1 q2
        · intro q q1
          have g' : ¬ q = h2.nx + 1:= by omega
          simp only []
          rw [w5 q q1]
          simp only [g',if_false]
          rw [k2.ap q (by omega),k1.ap]
          exact f2 q q1
theorem LK1_spec_l10Def (cs) (h9 : (EE cs).T 156 = some C_spec_l9Col) {l : List TToken} (hl : l.length ≤ 1000) (htk : ∀ t ∈ l,tokOk t = true) {n : List UInt8} {cols : List TCol} {prim : List TBy} (hcl : cols.length ≤ 1048576) {c1 c2 : AV} (s1 : SE (cols.map TCol.row) c1) (s2 : SE (prim.map TBy.row) c2) {r H : Nat} (hrH : r < H) {h0 : Hp} {Q : QS} :
    ∀ (m : Nat) (acc : List TIndex) (s : St) (v : AV) (e : Ps) (h : Hp),(l.length + 2 ≤ s.at_ + m ∨ (s.bad = true ∧ 1 ≤ m)) → s.at_ ≤ l.length → acc.length + m ≤ 2000 → e 0 = .ptr r 0 → e 2 = .ptr H 0 → e 3 = .ptr (H + 1) 0 → H + 2 ≤ h.nx → h.hp r = some (rdC l s) → h.hp H = some [.str [],.snil,.snil,.snil] → h.hp (H + 1) = some [.str n,c1,c2,v] → grows tIndex acc v h → (∀ id m,v = .app id m → H ≤ id) → (∀ q,q < H → q ≠ r → h.hp q = h0.hp q) → (∀ q,q < H → h.ap q = h0.ap q) →
    (∀ e' h' v',e' 0 = .ptr r 0 → e' 2 = .ptr H 0 → e' 3 = .ptr (H + 1) 0 → H + 2 ≤ h'.nx → h'.hp r = some (rdC l (ixF l (colAt cols) (l.length + 2) m acc s).2) → h'.hp H = some [.str [],.snil,.snil,.snil] → h'.hp (H + 1) = some [.str n,c1,c2,v'] → SE ((ixF l (colAt cols) (l.length + 2) m acc s).1.map TIndex.row) v' → (∀ q,q < H → q ≠ r → h'.hp q = h0.hp q) → (∀ q,q < H → h'.ap q = h0.ap q) → Q (.exit 2) e' h') → WL (EE cs) s_spec_l10Def_L1 e h Q:= by
  intro m
  induction m with
  | zero =>
    intro acc s v e h hm hs
    omega
  | succ m ih =>
    intro acc s v e h hm hsl ha e0 e2 e3 hnx hr hb2 hb3 gx gi f1 f2 hq
    have hr0:= hr
    unfold rdC at hr
    cases hbad : s.bad with
    | true =>
      rw [hbad] at hr
      have e1 : ixF l (colAt cols) (l.length + 2) (m + 1) acc s = (acc,s):= by simp only [ixF,hbad,if_true]
      rw [e1] at hq
      refine .step (wp_sound _ _ _ _ ?_)
      simp only [go_sem,Nat.reduceBEq,Nat.reduceAdd,Nat.reduceLeDiff,s_spec_l10Def_L1,e0,hr]
      exact hq _ _ v (by simp only [go_sem,Nat.reduceBEq,e0]) (by simp only [go_sem,Nat.reduceBEq,e2]) (by simp only [go_sem,Nat.reduceBEq,e3]) hnx hr0 hb2 hb3 gx.cell f1 f2
    | false =>
      have hm' : l.length + 2 ≤ s.at_ + (m + 1):= by rcases hm with h | ⟨h,_⟩;exact h;rw [hbad] at h;cases h
      rw [hbad] at hr
      refine .step (wp_sound _ _ _ _ ?_)
      simp only [go_sem,Nat.reduceBEq,Nat.reduceAdd,Nat.reduceLeDiff,s_spec_l10Def_L1,e0,hr]
      refine hP_spec_l10Is cs hl (w:= [125]) hr0 ?_
      intro h1 k1
      have x1 : h1.nx = h.nx:= k1.nx
      cases hp : isT l s [125] with
      | true =>
        have e1 : ixF l (colAt cols) (l.length + 2) (m + 1) acc s = (acc,s.adv):= by simp only [ixF,hbad,Bool.false_eq_true,if_false,hp,if_true]
        rw [e1] at hq
        rw [isS_true hp] at k1
        simp only [go_sem,Nat.reduceBEq,e0]
        exact hq _ h1 v (by simp only [go_sem,Nat.reduceBEq,e0]) (by simp only [go_sem,Nat.reduceBEq,e2]) (by simp only [go_sem,Nat.reduceBEq,e3]) (by omega) k1.at_ ((k1.hp _ (by omega)).trans hb2) ((k1.hp _ (by omega)).trans hb3) gx.cell (fun q q1 q2 => (k1.hp q q2).trans (f1 q q1 q2)) (fun q q1 => by rw [k1.ap];exact f2 q q1)
      | false =>
        rw [isS_false hp] at k1
        simp only [go_sem,Nat.reduceBEq,e0]
        refine hP_spec_l10Is cs hl (w:= wUnique) k1.at_ ?_
        intro h2 k2
        have x2 : h2.nx = h1.nx:= k2.nx
        cases hu : isT l s wUnique with
        | true =>
          rw [isS_true hu] at k2
          have hp3 : ∀ q,q ≠ r → h2.hp q = h.hp q:= fun q hq => (k2.hp q hq).trans (k1.hp q hq)
          have ap3 : h2.ap = h.ap:= k2.ap.trans k1.ap
          have nx3 : h2.nx = h.nx:= by omega
          have b3 : h2.hp (H + 1) = _:= (hp3 _ (by omega)).trans hb3
          have b2 : h2.hp H = _:= (hp3 _ (by omega)).trans hb2
          have hst : Stp l s s.adv:= stp_adv (isT_lt hu).1
          have hr3:= k2.at_
          have hix : ixF l (colAt cols) (l.length + 2) (m + 1) acc s = ixF l (colAt cols) (l.length + 2) m (acc ++ [⟨nmV l s.adv,true,(partsF l (colAt cols) (l.length + 2) [] (nmS l s.adv)).1⟩]) (partsF l (colAt cols) (l.length + 2) [] (nmS l s.adv)).2:= by simp only [ixF,hbad,Bool.false_eq_true,if_false,hp,hu,if_true]
          simp only [go_sem,Nat.reduceBEq,Nat.reduceAdd,e0,e3,b3]
          have gx3 : grows tIndex acc v h2:= gx.mono (by omega) fun q q1 => by rw [ap3]
          rw [hix] at hq
          refine hP_spec_l10Index cs h9 hl hcl s1 s2 gx3.cell (hst.inn hsl) hr3 (by omega) ?_
          intro pv h4 sp k4
          have np:= sp.2
          have x4 : h2.nx ≤ h4.nx:= k4.nx
          have d3 : h4.hp (H + 1) = _:= (k4.hp _ (by omega) (by omega)).trans b3
          have d2 : h4.hp H = _:= (k4.hp _ (by omega) (by omega)).trans b2
          have gx4 : grows tIndex acc v h4:= gx3.mono x4 fun q q1 => k4.ap q q1
          have pst:= (stp_parts (l:= l) (colAt cols) (l.length + 2) [] (nmS l s.adv)).1
          have stt:= (hst.trans (stp_nm s.adv)).trans pst
          have prog : (partsF l (colAt cols) (l.length + 2) [] (nmS l s.adv)).2.bad = false → s.at_ + 1 ≤ (partsF l (colAt cols) (l.length + 2) [] (nmS l s.adv)).2.at_:= fun hg => by
            have:= nm_good (pst.good hg)
            have:= hst.le
            have:= pst.le
            omega
          generalize (partsF l (colAt cols) (l.length + 2) [] (nmS l s.adv)).2 = s' at *
          generalize (partsF l (colAt cols) (l.length + 2) [] (nmS l s.adv)).1 = ps at *
          generalize nmV l s.adv = xn at *
          have g1 : ¬ H + 1 = h4.nx:= by omega
          have g2 : ¬ H = h4.nx:= by omega
          have g3 : ¬ r = h4.nx:= by omega
          have fr : fillR (List.replicate 1 [AV.str [],.bool false,.snil]) 3 [(0,.agg [.str xn,.bool true,pv])] = some [[.str xn,.bool true,pv]]:= by simp [fillR,ag_agg,cl_agg]
          have fz : frzRows [[AV.str xn,.bool true,pv]] = some [[.str xn,.bool true,.imm (ps.map TBy.row)]]:= by
            have hz:= sp.1
            simp only [frzRows,frzCells,hz]
            rfl
          simp only [go_sem,kSt_ptr,Nat.reduceBEq,Nat.reduceAdd,Nat.reduceLeDiff,e3,d3,g1,np,fr,fz]
          refine hP_growH (T:= tIndex) (l:= acc) (H:= H) [⟨xn,true,ps⟩] rfl (by simp only [];omega) gi (gx4.mono (by simp only [];omega) fun q hq => by have g : ¬ q = h4.nx + 1:= (by omega);simp only [g,if_false]) rfl (by simp only [List.length_cons,List.length_nil];unfold room;omega) ?_
          intro v' h5 w1 w2 w3 w4 w5
          have x5 : h4.nx + 1 + 1 ≤ h5.nx:= w4
          have nv':= w1.cell.2
          have j2 : h5.hp H = _:= (congrFun w3 H).trans (by simp only [g2,if_false];exact d2)
          have j3 : h5.hp (H + 1) = some [.str n,c1,c2,v]:= (congrFun w3 (H + 1)).trans (by simp only [g1,if_false];exact d3)
          have jr : h5.hp r = some (rdC l s'):= (congrFun w3 r).trans (by simp only [g3,if_false];exact k4.at_)
          simp only [go_sem,kSt_ptr,Nat.reduceBEq,Nat.reduceAdd,e3,j3,nv',cell1 nv']
          refine ih (acc ++ [⟨xn,true,ps⟩]) s' v' _ _ ?_ (stt.inn hsl) (by simp;omega) (by simp only [go_sem,Nat.reduceBEq,e0]) (by simp only [go_sem,Nat.reduceBEq,e2]) (by simp only [go_sem,Nat.reduceBEq,e3]) (by simp only [];omega) ?_ ?_ ?_ (w1.mono (by simp) fun _ _ => rfl) w2 ?_ ?_ hq
          · cases hb' : s'.bad with
            | true => exact .inr ⟨rfl,by omega⟩
            | false => have:= prog hb';exact .inl (by omega)
          · have g : ¬ r = H + 1:= by omega
            simp only [g,if_false];exact jr
          · have g : ¬ H = H + 1:= by omega
            simp only [g,if_false];exact j2
          · simp
          · intro q q1 q2
            have g : ¬ q = H + 1:= by omega
            have g' : ¬ q = h4.nx:= by omega
            simp only [g,if_false]
            rw [congrFun w3 q]
            simp only [g',if_false]
            rw [k4.hp q (by omega) q2,hp3 q q2]
            exact f1 q q1 q2
          · intro q q1
            have g' : ¬ q = h4.nx + 1:= by omega
            simp only []
            rw [w5 q q1]
            simp only [g',if_false]
            rw [k4.ap q (by omega),ap3]
            exact f2 q q1
        | false =>
          rw [isS_false hu] at k2
          simp only [go_sem,Nat.reduceBEq,e0]
          refine hP_spec_l10Must cs hl (w:= wIndex) k2.at_ ?_
          intro h3 k3
          have hp3 : ∀ q,q ≠ r → h3.hp q = h.hp q:= fun q hq => (k3.hp q hq).trans ((k2.hp q hq).trans (k1.hp q hq))
          have ap3 : h3.ap = h.ap:= k3.ap.trans (k2.ap.trans k1.ap)
          have nx3 : h3.nx = h.nx:= by rw [k3.nx];omega
          have b3 : h3.hp (H + 1) = _:= (hp3 _ (by omega)).trans hb3
          have b2 : h3.hp H = _:= (hp3 _ (by omega)).trans hb2
          have hst : Stp l s (mustT l s wIndex):= stp_must s _
          have hr3:= k3.at_
          have hix : ixF l (colAt cols) (l.length + 2) (m + 1) acc s = ixF l (colAt cols) (l.length + 2) m (acc ++ [⟨nmV l (mustT l s wIndex),false,(partsF l (colAt cols) (l.length + 2) [] (nmS l (mustT l s wIndex))).1⟩]) (partsF l (colAt cols) (l.length + 2) [] (nmS l (mustT l s wIndex))).2:= by simp only [ixF,hbad,Bool.false_eq_true,if_false,hp,hu]
          simp only [go_sem,Nat.reduceBEq,Nat.reduceAdd,e0,e3,b3]
          have gx3 : grows tIndex acc v h3:= gx.mono (by omega) fun q q1 => by rw [ap3]
          rw [hix] at hq
          refine hP_spec_l10Index cs h9 hl hcl s1 s2 gx3.cell (hst.inn hsl) hr3 (by omega) ?_
          intro pv h4 sp k4
          have np:= sp.2
          have x4 : h3.nx ≤ h4.nx:= k4.nx
          have d3 : h4.hp (H + 1) = _:= (k4.hp _ (by omega) (by omega)).trans b3
          have d2 : h4.hp H = _:= (k4.hp _ (by omega) (by omega)).trans b2
          have gx4 : grows tIndex acc v h4:= gx3.mono x4 fun q q1 => k4.ap q q1
          have pst:= (stp_parts (l:= l) (colAt cols) (l.length + 2) [] (nmS l (mustT l s wIndex))).1
          have stt:= (hst.trans (stp_nm (mustT l s wIndex))).trans pst
          have prog : (partsF l (colAt cols) (l.length + 2) [] (nmS l (mustT l s wIndex))).2.bad = false → s.at_ + 1 ≤ (partsF l (colAt cols) (l.length + 2) [] (nmS l (mustT l s wIndex))).2.at_:= fun hg => by
            have:= nm_good (pst.good hg)
            have:= hst.le
            have:= pst.le
            omega
          generalize (partsF l (colAt cols) (l.length + 2) [] (nmS l (mustT l s wIndex))).2 = s' at *
          generalize (partsF l (colAt cols) (l.length + 2) [] (nmS l (mustT l s wIndex))).1 = ps at *
          generalize nmV l (mustT l s wIndex) = xn at *
          have g1 : ¬ H + 1 = h4.nx:= by omega
          have g2 : ¬ H = h4.nx:= by omega
          have g3 : ¬ r = h4.nx:= by omega
          have fr : fillR (List.replicate 1 [AV.str [],.bool false,.snil]) 3 [(0,.agg [.str xn,.bool false,pv])] = some [[.str xn,.bool false,pv]]:= by simp [fillR,ag_agg,cl_agg]
          have fz : frzRows [[AV.str xn,.bool false,pv]] = some [[.str xn,.bool false,.imm (ps.map TBy.row)]]:= by
            have hz:= sp.1
            simp only [frzRows,frzCells,hz]
            rfl
          simp only [go_sem,kSt_ptr,Nat.reduceBEq,Nat.reduceAdd,Nat.reduceLeDiff,e3,d3,g1,np,fr,fz]
          refine hP_growH (T:= tIndex) (l:= acc) (H:= H) [⟨xn,false,ps⟩] rfl (by simp only [];omega) gi (gx4.mono (by simp only [];omega) fun q hq => by have g : ¬ q = h4.nx + 1:= (by omega);simp only [g,if_false]) rfl (by simp only [List.length_cons,List.length_nil];unfold room;omega) ?_
          intro v' h5 w1 w2 w3 w4 w5
          have x5 : h4.nx + 1 + 1 ≤ h5.nx:= w4
          have nv':= w1.cell.2
          have j2 : h5.hp H = _:= (congrFun w3 H).trans (by simp only [g2,if_false];exact d2)
          have j3 : h5.hp (H + 1) = some [.str n,c1,c2,v]:= (congrFun w3 (H + 1)).trans (by simp only [g1,if_false];exact d3)
          have jr : h5.hp r = some (rdC l s'):= (congrFun w3 r).trans (by simp only [g3,if_false];exact k4.at_)
          simp only [go_sem,kSt_ptr,Nat.reduceBEq,Nat.reduceAdd,e3,j3,nv',cell1 nv']
          refine ih (acc ++ [⟨xn,false,ps⟩]) s' v' _ _ ?_ (stt.inn hsl) (by simp;omega) (by simp only [go_sem,Nat.reduceBEq,e0]) (by simp only [go_sem,Nat.reduceBEq,e2]) (by simp only [go_sem,Nat.reduceBEq,e3]) (by simp only [];omega) ?_ ?_ ?_ (w1.mono (by simp) fun _ _ => rfl) w2 ?_ ?_ hq
          · cases hb' : s'.bad with
            | true => exact .inr ⟨rfl,by omega⟩
            | false => have:= prog hb';exact .inl (by omega)
          · have g : ¬ r = H + 1:= by omega
            simp only [g,if_false];exact jr
          · have g : ¬ H = H + 1:= by omega
            simp only [g,if_false];exact j2
          · simp
          · intro q q1 q2
            have g : ¬ q = H + 1:= by omega
            have g' : ¬ q = h4.nx:= by omega
            simp only [g,if_false]
            rw [congrFun w3 q]
            simp only [g',if_false]
            rw [k4.hp q (by omega) q2,hp3 q q2]
            exact f1 q q1 q2
          · intro q q1
            have g' : ¬ q = h4.nx + 1:= by omega
            simp only []
            rw [w5 q q1]
            simp only [g',if_false]
            rw [k4.ap q (by omega),ap3]
            exact f2 q q1
theorem rk_spec_l10Def (cs) (h8 : (EE cs).T 155 = some C_spec_l9Type) (h9 : (EE cs).T 156 = some C_spec_l9Col) {l : List TToken} (hl : l.length ≤ 1000) (htk : ∀ t ∈ l,tokOk t = true) (r : Nat) (s : St) (h : Hp) (hsl : s.at_ ≤ l.length) (hr : h.hp r = some (rdC l s)) (hrn : r < h.nx) :
    ∃ n c1 c2 c3 h',RunF (EE cs) 58 [.ptr r 0] h (.agg [.str n,c1,c2,c3],h') ∧ n = (defF l (colS l) colAt (l.length + 2) s).1.fName ∧ SE ((defF l (colS l) colAt (l.length + 2) s).1.fCols.map TCol.row) c1 ∧ SE ((defF l (colS l) colAt (l.length + 2) s).1.fPrimary.map TBy.row) c2 ∧ SE ((defF l (colS l) colAt (l.length + 2) s).1.fIndexes.map TIndex.row) c3 ∧ RdG l r (defF l (colS l) colAt (l.length + 2) s).2 h h':= by
  have : ∃ rr,RunF (EE cs) 58 [.ptr r 0] h rr ∧ ∃ n c1 c2 c3,rr.1 = .agg [.str n,c1,c2,c3] ∧ n = (defF l (colS l) colAt (l.length + 2) s).1.fName ∧ SE ((defF l (colS l) colAt (l.length + 2) s).1.fCols.map TCol.row) c1 ∧ SE ((defF l (colS l) colAt (l.length + 2) s).1.fPrimary.map TBy.row) c2 ∧ SE ((defF l (colS l) colAt (l.length + 2) s).1.fIndexes.map TIndex.row) c3 ∧ RdG l r (defF l (colS l) colAt (l.length + 2) s).2 h rr.2:= by
    refine run_wp (st_spec_l10Def cs) ?_
    have n1 : ¬ r = h.nx:= by omega
    have n2 : ¬ r = h.nx + 1:= by omega
    have fb : sFill [.str [],.snil,.snil,.snil] [] = some [AV.str [],.snil,.snil,.snil]:= rfl
    simp only [defF]
    simp only [go_sem,kSt_ptr,Nat.reduceBEq,Nat.reduceAdd,s_spec_l10Def,fb]
    refine hP_spec_l10Must cs hl (s:= s) (w:= wTable) (by simp only [go_sem,n1,n2];exact hr) ?_
    intro h1 k1
    have st1:= stp_must (l:= l) s wTable
    generalize mustT l s wTable = t1 at *
    have y1 : h1.nx = h.nx + 2:= k1.nx
    have u0 : h1.hp h.nx = some [.str [],.snil,.snil,.snil]:= (k1.hp _ (by omega)).trans (by simp only [go_sem])
    have u1 : h1.hp (h.nx + 1) = some [.str [],.snil,.snil,.snil]:= (k1.hp _ (by omega)).trans (by simp only [go_sem])
    simp only [go_sem,Nat.reduceBEq]
    refine hP_spec_l10Name cs hl k1.at_ ?_
    intro h2 k2
    have y2 : h2.nx = h.nx + 2:= k2.nx.trans y1
    have u0' : h2.hp h.nx = _:= (k2.hp _ (by omega)).trans u0
    have u1' : h2.hp (h.nx + 1) = _:= (k2.hp _ (by omega)).trans u1
    simp only [go_sem,kSt_ptr,Nat.reduceBEq,Nat.reduceAdd,Nat.reduceLeDiff,u1']
    refine hP_spec_l10Must cs hl (s:= nmS l t1) (w:= [123]) (by simp only [go_sem,n2];exact k2.at_) ?_
    intro h3 k3
    have st3:= (st1.trans (stp_nm t1)).trans (stp_must (nmS l t1) [123])
    generalize mustT l (nmS l t1) [123] = t3 at *
    generalize nmV l t1 = nn at *
    have y3 : h3.nx = h.nx + 2:= k3.nx.trans y2
    simp only [go_sem]
    refine LK0_spec_l10Def cs h8 hl htk (n:= nn) (r:= r) (H:= h.nx) hrn (h0:= h) (l.length + 2) [] t3 .snil _ h3 (.inl (by omega)) (st3.inn hsl) (by simp only [List.length_nil];omega) (by simp only [go_sem,Nat.reduceBEq]) (by simp only [go_sem,Nat.reduceBEq]) (by simp only [go_sem,Nat.reduceBEq]) (by omega) k3.at_ ((k3.hp _ (by omega)).trans (by simp [u0'])) ((k3.hp _ (by omega)).trans (by simp)) (grows_nil _ _) (fun _ _ e => by cases e) ?_ ?_ ?_
    · intro q q1 q2
      have g1 : ¬ q = h.nx:= by omega
      have g2 : ¬ q = h.nx + 1:= by omega
      rw [k3.hp q q2]
      simp only [g2,if_false]
      rw [k2.hp q q2,k1.hp q q2]
      simp only [g1,g2,if_false]
    · intro q q1
      rw [k3.ap]
      show h2.ap q = _
      rw [k2.ap,k1.ap]
    intro e4 h4 cv a0 a2 a3 y4 hr4 u4 v4 sc f1 f2
    have clen:= (stp_cols (colR_S htk) (l.length + 2) [] t3).2.1
    have cstp:= (stp_cols (colR_S htk) (l.length + 2) [] t3).1
    generalize colsF l (colS l) (l.length + 2) [] t3 = cc at *
    obtain ⟨cols,t4⟩:= cc
    simp only [List.length_nil] at clen cstp hr4 sc ⊢
    have nc:= sc.2
    simp only [go_sem,Nat.reduceBEq,Nat.reduceAdd,a0,a3,v4]
    refine hP_spec_l10Parts cs h9 hl (cols:= cols) (prim:= []) (idx:= []) (by omega) sc ⟨rfl,rfl⟩ ⟨rfl,rfl⟩ (cstp.inn (st3.inn hsl)) hr4 (by omega) ?_
    intro pv h5 gp k5
    have sp:= gp.cell
    have np:= sp.2
    have y5 : h4.nx ≤ h5.nx:= k5.nx
    have pst:= (stp_parts (l:= l) (colAt cols) (l.length + 2) [] t4).1
    generalize partsF l (colAt cols) (l.length + 2) [] t4 = pp at *
    obtain ⟨ps,t5⟩:= pp
    simp only at sp k5 pst ⊢
    have u5 : h5.hp h.nx = _:= (k5.hp _ (by omega) (by omega)).trans u4
    have v5 : h5.hp (h.nx + 1) = _:= (k5.hp _ (by omega) (by omega)).trans v4
    simp only [go_sem,kSt_ptr,Nat.reduceBEq,Nat.reduceAdd,Nat.reduceLeDiff,a3,v5,np,cell1 np]
    refine LK1_spec_l10Def cs h9 hl htk (n:= nn) (cols:= cols) (prim:= ps) (by omega) sc sp (r:= r) (H:= h.nx) hrn (h0:= h) (l.length + 2) [] t5 .snil _ _ (.inl (by omega)) (pst.inn (cstp.inn (st3.inn hsl))) (by simp only [List.length_nil];omega) (by simp only [go_sem,Nat.reduceBEq,a0]) (by simp only [go_sem,Nat.reduceBEq,a2]) (by simp only [go_sem,Nat.reduceBEq,a3]) (by simp only [];omega) ?_ ?_ ?_ (grows_nil _ _) (fun _ _ e => by cases e) ?_ ?_ ?_
    · simp only [n2,if_false];exact k5.at_
    · have g : ¬ h.nx = h.nx + 1:= by omega
      simp only [g,if_false];exact u5
    · simp
    · intro q q1 q2
      have g2 : ¬ q = h.nx + 1:= by omega
      simp only [g2,if_false]
      rw [k5.hp q (by omega) q2]
      exact f1 q q1 q2
    · intro q q1
      simp only []
      rw [k5.ap q (by omega)]
      exact f2 q q1
    intro e6 h6 xv b0 b2 b3 y6 hr6 u6 v6 sx f3 f4
    have nx6:= sx.2
    simp only [go_sem,kSt_ptr,Nat.reduceBEq,Nat.reduceAdd,b2,b3,v6,u6,nc,np,nx6]
    refine ⟨fun _ e => (by cases e),_,rfl,nn,cv,pv,xv,rfl,rfl,sc,sp,sx,?_,?_,?_,?_⟩
    · simp only [n1,if_false];exact hr6
    · intro q q1 q2
      have g : ¬ q = h.nx:= by omega
      simp only [g,if_false]
      exact f3 q q1 q2
    · intro q q1
      exact f4 q q1
    · simp only [];omega
  obtain ⟨⟨v,h'⟩,k1,n,c1,c2,c3,k2,k3⟩:= this
  simp only at k2 k3
  subst k2
  exact ⟨n,c1,c2,c3,h',k1,k3⟩
end Go.Proofs.YtpolhafmapekpaaGreatDoor.En
namespace Go.Proofs.YtpolhafmapekpaaGreatDoor.En
open Go Go.RowKit Go.Ev
set_option maxHeartbeats 1600000
theorem ev_spec_l1In (cs) (x a b : Int) : ∃ k n,out (EE cs) k n 62 [.int .i64 x,.int .i64 a,.int .i64 b] = some (.bool (inR x a b)):= by
  refine out_K (n:= 0) (st_spec_l1In cs) ?_
  by_cases h1 : a ≤ x
  · simp only [go_sem,Nat.reduceBEq,s_spec_l1In,h1,inR]
  · simp only [go_sem,Nat.reduceBEq,s_spec_l1In,h1,inR]
noncomputable def C_spec_l1In:= ct (fun a : Int × Int × Int => [.int .i64 a.1,.int .i64 a.2.1,.int .i64 a.2.2]) (fun _ => True) .bool fun a => inR a.1 a.2.1 a.2.2
theorem C_spec_l1In_eq (x a b : Int) : C_spec_l1In [.int .i64 x,.int .i64 a,.int .i64 b] = some (.bool (inR x a b)):= by
  unfold C_spec_l1In
  exact ct_eq (a:= (x,a,b)) (fun a b h => by
    simp only [List.cons.injEq,AV.int.injEq,and_true,true_and] at h
    exact Prod.ext h.1 (Prod.ext h.2.1 h.2.2)) trivial
theorem ok_spec_l1In {WI} (hs : Stable WI) (cs) (hT : TOK (EE cs) WI) : PureOK Tryz.prog WI 62 C_spec_l1In:=
  pure_out hT hs (by rw [st_spec_l1In];rfl) fun a _ => ev_spec_l1In cs a.1 a.2.1 a.2.2
noncomputable def C_spec_l8Small:= c1 u8T (fun (b : UInt8) => True) (.bool) fun (b : UInt8) => smallB b
theorem C_spec_l8Small_eq (b : UInt8) (h : True) : C_spec_l8Small [.int .u8 (b).toNat] = some (.bool ((smallB b))):= c1_eq u8T h
theorem ok_spec_l8Small {WI : World → Prop} (hs : Stable WI) (cs) (hT : TOK (EE cs) WI) (h : (EE cs).T 62 = some C_spec_l1In) : PureOK Tryz.prog WI 100 C_spec_l8Small:= by
  refine pure1 (E:= EE cs) hT hs (by rw [st_spec_l8Small];rfl) fun b hp => out_wp (n:= 0) (st_spec_l8Small cs) ?_
  simp only [go_sem,Nat.reduceBEq,s_spec_l8Small,u8i,h,C_spec_l1In_eq,smallB]
noncomputable def C_spec_l2Digit:= c1 u8T (fun (b : UInt8) => True) (.bool) fun (b : UInt8) => digitB b
theorem C_spec_l2Digit_eq (b : UInt8) (h : True) : C_spec_l2Digit [.int .u8 (b).toNat] = some (.bool ((digitB b))):= c1_eq u8T h
theorem ok_spec_l2Digit {WI : World → Prop} (hs : Stable WI) (cs) (hT : TOK (EE cs) WI) (h : (EE cs).T 62 = some C_spec_l1In) : PureOK Tryz.prog WI 101 C_spec_l2Digit:= by
  refine pure1 (E:= EE cs) hT hs (by rw [st_spec_l2Digit];rfl) fun b hp => out_wp (n:= 0) (st_spec_l2Digit cs) ?_
  simp only [go_sem,Nat.reduceBEq,s_spec_l2Digit,u8i,h,C_spec_l1In_eq,digitB]
noncomputable def C_spec_l8Name:= c1 strT (fun (s : List UInt8) => s.length ≤ 1048576) (.bool) fun (s : List UInt8) => isName s
theorem C_spec_l8Name_eq (s : List UInt8) (h : s.length ≤ 1048576) : C_spec_l8Name [.str s] = some (.bool ((isName s))):= c1_eq strT h
theorem ok_spec_l8Name {WI : World → Prop} (hs : Stable WI) (cs) (hT : TOK (EE cs) WI) (h1 : (EE cs).T 100 = some C_spec_l8Small) (h2 : (EE cs).T 101 = some C_spec_l2Digit) (h3 : (EE cs).T 62 = some C_spec_l1In) : PureOK Tryz.prog WI 153 C_spec_l8Name:= by
  refine pure1 (E:= EE cs) hT hs (by rw [st_spec_l8Name];rfl) fun s hp => out_wp (n:= 0) (st_spec_l8Name cs) ?_
  simp only [go_sem,s_spec_l8Name]
  refine (wl_all (l:= s) (fun pre b => nameB pre b) (fun pre e h => e 0 = .str s ∧ e 3 = .int .i64 pre.length) (.exit 0) (fun e h => e 0 = .str s) (fun e h => e 2 = .bool false) (by omega) ?_ ?_ ?_ (by simp) s [] _ _ rfl ?_).mono ?_
  · rintro pre b rest e h a hp ⟨q0,ix⟩
    cases c1 : smallB b <;> cases c2 : ((pre.length : Int) == 0) <;> cases c3 : digitB b <;> simp [nameB,c1,c2,c3] at hp
    all_goals simp only [go_sem,Nat.reduceBEq,s_spec_l8Name_L0,q0,ix,a.dl,kIx_at a.hl,a.hw,h1,h2,C_spec_l8Small_eq b trivial,C_spec_l2Digit_eq b trivial,c1,c2,c3]
  · rintro pre b rest e h a hp ⟨q0,ix⟩
    cases c1 : smallB b <;> cases c2 : ((pre.length : Int) == 0) <;> cases c3 : digitB b <;> simp [nameB,c1,c2,c3] at hp
    all_goals simp only [go_sem,Nat.reduceBEq,s_spec_l8Name_L0,q0,ix,a.dl,kIx_at a.hl,a.hw,h1,h2,C_spec_l8Small_eq b trivial,C_spec_l2Digit_eq b trivial,c1,c2,c3]
  · rintro e h ⟨q0,ix⟩
    simp only [go_sem,Nat.reduceBEq,s_spec_l8Name_L0,q0,ix]
  · simp only [go_sem,Nat.reduceBEq,and_self]
  · rintro x e h (⟨hp,rfl,j0⟩ | ⟨hp,rfl,j⟩)
    · simp only [go_sem,Nat.reduceBEq,j0,h3,C_spec_l1In_eq,isName,hp]
    · simp only [go_sem,j,isName,hp]
theorem tw_take (p : UInt8 → Bool) : ∀ r : List UInt8,r.take (r.takeWhile p).length = r.takeWhile p ∧ r.drop (r.takeWhile p).length = r.dropWhile p
  | [] => by simp
  | c :: r => by
    cases h : p c with
    | true =>
      obtain ⟨a,b⟩:= tw_take p r
      simp [h,a,b]
    | false => simp [h]
theorem cut_at {s r : List UInt8} {c : UInt8} {i : Nat} (hd : s.drop i = c :: r) (k : Nat) : (s.take (i + 1 + k)).drop i = c :: r.take k ∧ s.drop (i + 1 + k) = r.drop k:= by
  constructor
  · rw [List.drop_take,hd,show i + 1 + k - i = k + 1 by omega,List.take_succ_cons]
  · rw [show i + 1 + k = i + (k + 1) by omega,← List.drop_drop,hd,List.drop_succ_cons]
theorem drop_at {s r : List UInt8} {c : UInt8} {i : Nat} (hd : s.drop i = c :: r) : s[i]? = some c ∧ i < s.length ∧ r.length = s.length - i - 1:= by
  have h1 : (s.drop i)[0]? = some c:= by rw [hd];rfl
  rw [List.getElem?_drop,Nat.add_zero] at h1
  have h2:= congrArg List.length hd
  rw [List.length_drop,List.length_cons] at h2
  exact ⟨h1,by omega,by omega⟩
theorem ix_drop {s r : List UInt8} {c : UInt8} {i : Nat} (hd : s.drop i = c :: r) (h : Hp) : kIx (.str s) (.int .i64 (i : Int)) h = some (.int .u8 c.toNat,h):= kIx_str (by omega) (by rw [Int.toNat_natCast];exact (drop_at hd).1)
theorem sli_at {s : List UInt8} {a b : Nat} (h1 : a ≤ b) (h2 : b ≤ s.length) : sIdxS (.str s) (some (.int .i64 (a : Int))) (some (.int .i64 (b : Int))) = some (.str ((s.take b).drop a)):= by
  have e1 : asNat s.length (some (AV.int .i64 (b : Int))) s.length = some b:= by
    show (if (0 : Int) ≤ b ∧ (b : Int) ≤ (s.length : Int) then some (b : Int).toNat else none) = _
    rw [if_pos ⟨by omega,by omega⟩,Int.toNat_natCast]
  have e2 : asNat b (some (AV.int .i64 (a : Int))) 0 = some a:= by
    show (if (0 : Int) ≤ a ∧ (a : Int) ≤ (b : Int) then some (a : Int).toNat else none) = _
    rw [if_pos ⟨by omega,by omega⟩,Int.toNat_natCast]
  simp only [sIdxS,e1,e2,Option.bind_some]
theorem u8eq (b n : UInt8) : ([b] == [n]) = ((b.toNat : Int) == (n.toNat : Int)):= by
  rw [Bool.eq_iff_iff]
  simp only [beq_iff_eq,List.cons.injEq,and_true,Int.natCast_inj,UInt8.toNat_inj]
theorem u8eqB (b n : UInt8) : (b == n) = ((b.toNat : Int) == (n.toNat : Int)):= by
  rw [Bool.eq_iff_iff]
  simp only [beq_iff_eq,Int.natCast_inj,UInt8.toNat_inj]
theorem wsB_eq (c : UInt8) : wsB c = ((c.toNat : Int) == 32 || ((c.toNat : Int) == 9 || ((c.toNat : Int) == 10 || (c.toNat : Int) == 13))):= by
  unfold wsB
  rw [u8eqB,u8eqB,u8eqB,u8eqB,Bool.or_assoc,Bool.or_assoc]
  rfl
def markB (c : UInt8) : Bool:= (c.toNat : Int) == 123 || ((c.toNat : Int) == 125 || ((c.toNat : Int) == 44 || (c.toNat : Int) == 59))
def markS (s : List UInt8) : Bool:= s == [123] || (s == [125] || (s == [44] || s == [59]))
theorem markS_one (c : UInt8) : markS [c] = markB c:= by
  unfold markS markB
  rw [u8eq,u8eq,u8eq,u8eq]
  rfl
theorem markS_len {s : List UInt8} (h : s.length ≠ 1) : markS s = false:= by
  have e : ∀ n : UInt8,(s == [n]) = false:= fun n => by
    rw [beq_eq_false_iff_ne]
    intro h2
    rw [h2] at h
    exact h rfl
  simp [markS,e]
theorem tokOk_name {t : TToken} (h : t.fK = 1) : tokOk t = isName t.fS:= by simp [tokOk,h]
theorem tokOk_mark {t : TToken} (h : t.fK = 2) : tokOk t = markS t.fS:= by simp [tokOk,h,markS]
theorem tokOk_none {t : TToken} (h1 : ¬ t.fK = 1) (h2 : ¬ t.fK = 2) : tokOk t = false:= by simp [tokOk,h1,h2]
theorem lexF_nil (m : Nat) (out : List TToken) (i : Int) : lexF m out i [] = (out,-1):= by cases m <;> rfl
def lexK (c : UInt8) (r : List UInt8) : Nat:= if smallB c then (r.takeWhile alB).length else 0
theorem lexT_S (c : UInt8) (r : List UInt8) : (lexT c r).fS = c :: r.take (lexK c r) ∧ lexR c r = r.drop (lexK c r) ∧ lexK c r ≤ r.length:= by
  obtain ⟨a,b⟩:= tw_take alB r
  unfold lexT lexR lexK
  split
  · have : (r.takeWhile alB).length ≤ r.length:= by rw [← a,List.length_take];exact Nat.min_le_right _ _
    exact ⟨by rw [a],b.symm,this⟩
  · exact ⟨by simp,by simp,Nat.zero_le _⟩
theorem lexT_K (c : UInt8) (r : List UInt8) : (lexT c r).fK = if smallB c then 1 else 2:= by unfold lexT;split <;> rfl
noncomputable def C_spec_l8Mark:= c1 strT (fun (s : List UInt8) => s.length ≤ 1048576) (.bool) fun (s : List UInt8) => markS s
theorem C_spec_l8Mark_eq (s : List UInt8) (h : s.length ≤ 1048576) : C_spec_l8Mark [.str s] = some (.bool ((markS s))):= c1_eq strT h
theorem ok_spec_l8Mark {WI : World → Prop} (hs : Stable WI) (cs) (hT : TOK (EE cs) WI) : PureOK Tryz.prog WI 154 C_spec_l8Mark:= by
  refine pure1 (E:= EE cs) hT hs (by rw [st_spec_l8Mark];rfl) fun s hp => out_wp (n:= 0) (st_spec_l8Mark cs) ?_
  cases w1 : (s == [123]) <;> cases w2 : (s == [125]) <;> cases w3 : (s == [44]) <;> cases w4 : (s == [59]) <;> simp only [go_sem,Nat.reduceBEq,s_spec_l8Mark,w1,w2,w3,w4,markS]
noncomputable def C_spec_TokenOk:= c1 tToken (fun (t : TToken) => t.fS.length ≤ 1048576) (.bool) fun (t : TToken) => tokOk t
theorem C_spec_TokenOk_eq (t : TToken) (h : t.fS.length ≤ 1048576) : C_spec_TokenOk [.agg [.int .i64 t.fK,.str t.fS]] = some (.bool ((tokOk t))):= c1_eq tToken h
theorem ok_spec_TokenOk {WI : World → Prop} (hs : Stable WI) (cs) (hT : TOK (EE cs) WI) (h1 : (EE cs).T 153 = some C_spec_l8Name) (h2 : (EE cs).T 154 = some C_spec_l8Mark) : PureOK Tryz.prog WI 102 C_spec_TokenOk:= by
  refine pure1 (E:= EE cs) hT hs (by rw [st_spec_TokenOk];rfl) fun t hp => out_wp (n:= 0) (st_spec_TokenOk cs) ?_
  have c1:= C_spec_l8Name_eq t.fS hp
  have c2:= C_spec_l8Mark_eq t.fS hp
  by_cases k1 : t.fK = 1
  · have b1 : (t.fK == 1) = true:= by simp [k1]
    rw [tokOk_name k1]
    simp only [go_sem,Nat.reduceBEq,Nat.reduceAdd,Nat.reduceLeDiff,s_spec_TokenOk,TToken.row,tToken_enc,b1,h1,c1]
  have b1 : (t.fK == 1) = false:= by simp [k1]
  by_cases k2 : t.fK = 2
  · have b2 : (t.fK == 2) = true:= by simp [k2]
    rw [tokOk_mark k2]
    simp only [go_sem,Nat.reduceBEq,Nat.reduceAdd,Nat.reduceLeDiff,s_spec_TokenOk,TToken.row,tToken_enc,b1,b2,h2,c2]
  have b2 : (t.fK == 2) = false:= by simp [k2]
  rw [tokOk_none k1 k2]
  simp only [go_sem,Nat.reduceBEq,Nat.reduceAdd,Nat.reduceLeDiff,s_spec_TokenOk,TToken.row,tToken_enc,b1,b2]
theorem LK0_spec_Lex (cs) (h1 : (EE cs).T 100 = some C_spec_l8Small) (h2 : (EE cs).T 101 = some C_spec_l2Digit) {s : List UInt8} (hs : s.length ≤ 1048576) {h : Hp} {Q : QS} : ∀ (r : List UInt8) (k : Nat) (e : Ps),s.drop k = r → e 0 = .str s → e 7 = .int .i64 (k : Int) →
    (∀ e' : Ps,e' 0 = .str s → e' 4 = e 4 → e' 5 = e 5 → e' 6 = e 6 → e' 8 = e 8 → e' 7 = .int .i64 ((k + (r.takeWhile alB).length : Nat) : Int) → Q (.exit 2) e' h) → WL (EE cs) s_spec_Lex_L0 e h Q:= by
  intro r
  induction r with
  | nil =>
    intro k e hd e0 e7 hq
    have hk : s.length ≤ k:= by have:= congrArg List.length hd;rw [List.length_drop,List.length_nil] at this;omega
    have hc : ¬ (k : Int) < (s.length : Int):= by omega
    refine .step (wp_sound _ _ _ _ ?_)
    simp only [go_sem,Nat.reduceBEq,s_spec_Lex_L0,e0,e7,hc]
    exact hq _ (by simp only [go_sem,Nat.reduceBEq,e0]) (by simp only [go_sem,Nat.reduceBEq]) (by simp only [go_sem,Nat.reduceBEq]) (by simp only [go_sem,Nat.reduceBEq]) (by simp only [go_sem,Nat.reduceBEq]) (by simp only [go_sem,Nat.reduceBEq,e7];simp)
  | cons c r ih =>
    intro k e hd e0 e7 hq
    obtain ⟨_,hk,hrl⟩:= drop_at hd
    have hc : (k : Int) < (s.length : Int):= by omega
    have hw : IntKind.wrap .i64 ((k : Int) + 1) = ((k + 1 : Nat) : Int):= by rw [wrapId (by omega) (by omega)];omega
    have c1:= C_spec_l8Small_eq c trivial
    have c2:= C_spec_l2Digit_eq c trivial
    have hx:= fun h => ix_drop hd h
    have hd2 : s.drop (k + 1) = r:= by rw [← List.drop_drop,hd,List.drop_succ_cons,List.drop_zero]
    cases b1 : smallB c <;> cases b2 : digitB c <;> rw [b1] at c1 <;> rw [b2] at c2
    · have ha : alB c = false:= by simp [alB,b1,b2]
      refine .step (wp_sound _ _ _ _ ?_)
      simp only [go_sem,Nat.reduceBEq,s_spec_Lex_L0,e0,e7,hc,hx,h1,c1,h2,c2]
      exact hq _ (by simp only [go_sem,Nat.reduceBEq,e0]) (by simp only [go_sem,Nat.reduceBEq]) (by simp only [go_sem,Nat.reduceBEq]) (by simp only [go_sem,Nat.reduceBEq]) (by simp only [go_sem,Nat.reduceBEq]) (by simp only [go_sem,Nat.reduceBEq,e7];simp [ha])
    all_goals
      have ha : alB c = true:= by simp [alB,b1,b2]
      refine .step (wp_sound _ _ _ _ ?_)
      simp only [go_sem,Nat.reduceBEq,s_spec_Lex_L0,e0,e7,hc,hx,h1,c1,h2,c2,hw]
      refine ih (k + 1) _ hd2 (by simp only [go_sem,Nat.reduceBEq,e0]) (by simp only [go_sem,Nat.reduceBEq]) ?_
      intro e' a0 a4 a5 a6 a8 a7
      refine hq e' a0 (a4.trans (by simp only [go_sem,Nat.reduceBEq])) (a5.trans (by simp only [go_sem,Nat.reduceBEq])) (a6.trans (by simp only [go_sem,Nat.reduceBEq])) (a8.trans (by simp only [go_sem,Nat.reduceBEq])) ?_
      rw [a7,List.takeWhile_cons,if_pos ha,List.length_cons,show k + 1 + (r.takeWhile alB).length = k + ((r.takeWhile alB).length + 1) by omega]
theorem LK1_spec_Lex (cs) (h1 : (EE cs).T 100 = some C_spec_l8Small) (h2 : (EE cs).T 101 = some C_spec_l2Digit) (h3 : (EE cs).T 102 = some C_spec_TokenOk) {s : List UInt8} (hs : s.length ≤ 1048576) {Q : QS} : ∀ (m : Nat) (r : List UInt8) (i : Nat) (out : List TToken) (e : Ps) (h : Hp),r.length ≤ m → s.drop i = r → out.length ≤ 500 → e 0 = .str s → e 5 = .int .i64 (i : Int) → grows tToken out (e 4) h →
    (∀ e' h' toks,lexF m out i r = (toks,-1) → grows tToken toks (e' 4) h' → Q (.exit 0) e' h') →
    (∀ e' h' (p : Nat),lexF m out i r = ([],(p : Int)) → (e' 2 = .snil ∨ ∃ id,e' 2 = .app id []) → e' 3 = .int .i64 (p : Int) → Q .ret e' h') → WL (EE cs) s_spec_Lex_L1 e h Q:= by
  intro m
  induction m with
  | zero =>
    intro r i out e h hm hd ho e0 e5 gx hq hr
    have hr0 : r = []:= List.eq_nil_of_length_eq_zero (Nat.le_zero.1 hm)
    subst hr0
    have hk : s.length ≤ i:= by have:= congrArg List.length hd;rw [List.length_drop,List.length_nil] at this;omega
    have hc : ¬ (i : Int) < (s.length : Int):= by omega
    refine .step (wp_sound _ _ _ _ ?_)
    simp only [go_sem,Nat.reduceBEq,s_spec_Lex_L1,e0,e5,hc]
    exact hq _ _ out (lexF_nil _ _ _) (by simp only [go_sem,Nat.reduceBEq];exact gx)
  | succ m ih =>
    intro r i out e h hm hd ho e0 e5 gx hq hr
    cases r with
    | nil =>
      have hk : s.length ≤ i:= by have:= congrArg List.length hd;rw [List.length_drop,List.length_nil] at this;omega
      have hc : ¬ (i : Int) < (s.length : Int):= by omega
      refine .step (wp_sound _ _ _ _ ?_)
      simp only [go_sem,Nat.reduceBEq,s_spec_Lex_L1,e0,e5,hc]
      exact hq _ _ out (lexF_nil _ _ _) (by simp only [go_sem,Nat.reduceBEq];exact gx)
    | cons c r =>
      obtain ⟨_,hk,hrl⟩:= drop_at hd
      rw [List.length_cons] at hm
      have hc : (i : Int) < (s.length : Int):= by omega
      have hw : IntKind.wrap .i64 ((i : Int) + 1) = ((i + 1 : Nat) : Int):= by rw [wrapId (by omega) (by omega)];omega
      have hx:= fun h => ix_drop hd h
      have hd2 : s.drop (i + 1) = r:= by rw [← List.drop_drop,hd,List.drop_succ_cons,List.drop_zero]
      have hW:= wsB_eq c
      by_cases hws : wsB c = true
      · have hlex : lexF (m + 1) out i (c :: r) = lexF m out ((i + 1 : Nat) : Int) r:= by simp only [lexF,hws,if_true];rfl
        rw [hlex] at hq hr
        refine .step (wp_sound _ _ _ _ ?_)
        rw [hws] at hW
        cases w1 : ((c.toNat : Int) == 32) <;> cases w2 : ((c.toNat : Int) == 9) <;> cases w3 : ((c.toNat : Int) == 10) <;> cases w4 : ((c.toNat : Int) == 13) <;> rw [w1,w2,w3,w4] at hW <;> first
          | (cases hW;done)
          | (simp only [go_sem,Nat.reduceBEq,s_spec_Lex_L1,e0,e5,hc,hx,w1,w2,w3,w4,hw]
             exact ih r (i + 1) out _ _ (by omega) hd2 ho (by simp only [go_sem,Nat.reduceBEq,e0]) (by simp only [go_sem,Nat.reduceBEq]) (by simp only [go_sem,Nat.reduceBEq];exact gx) hq hr)
      · have hws0 : wsB c = false:= by simpa using hws
        rw [hws0] at hW
        have w1 : ((c.toNat : Int) == 32) = false:= by cases q : ((c.toNat : Int) == 32) with | false => rfl | true => rw [q] at hW;simp at hW
        have w2 : ((c.toNat : Int) == 9) = false:= by cases q : ((c.toNat : Int) == 9) with | false => rfl | true => rw [q] at hW;simp at hW
        have w3 : ((c.toNat : Int) == 10) = false:= by cases q : ((c.toNat : Int) == 10) with | false => rfl | true => rw [q] at hW;simp at hW
        have w4 : ((c.toNat : Int) == 13) = false:= by cases q : ((c.toNat : Int) == 13) with | false => rfl | true => rw [q] at hW;simp at hW
        obtain ⟨t1,t2,t3⟩:= lexT_S c r
        have tK:= lexT_K c r
        obtain ⟨u1,u2⟩:= cut_at hd (lexK c r)
        have tl : (lexT c r).fS.length = 1 + lexK c r:= by rw [t1,List.length_cons,List.length_take];omega
        have c1:= C_spec_l8Small_eq c trivial
        have c3:= C_spec_TokenOk_eq (lexT c r) (by rw [tl];omega)
        have hlex : lexF (m + 1) out i (c :: r) = if tokOk (lexT c r) && decide (out.length < 500) then lexF m (out ++ [lexT c r]) ((i + 1 + lexK c r : Nat) : Int) (r.drop (lexK c r)) else ([],(i : Int)):= by
          simp only [lexF,hws0]
          rw [tl,t2,show ((i : Int) + ((1 + lexK c r : Nat) : Int)) = ((i + 1 + lexK c r : Nat) : Int) by omega]
          rfl
        rw [hlex] at hq hr
        have sl:= sli_at (s:= s) (a:= i) (b:= i + 1 + lexK c r) (by omega) (by omega)
        rw [u1,← t1] at sl
        have sl1:= sli_at (s:= s) (a:= i) (b:= i + 1) (by omega) (by omega)
        generalize lexT c r = tk at *
        obtain ⟨tk,ts⟩:= tk
        simp only at t1 tK tl sl c3 hq hr
        have lg:= fun h2 => lenL_grows gx h2
        have fsI : ∀ (a : Int) (x : List UInt8),sFill [AV.int .i64 0,.str []] [(0,1,.int .i64 a),(1,1,.str x)] = some [.int .i64 a,.str x]:= fun _ _ => rfl
        have fsS : ∀ a : Int,sFill [AV.int .i64 0,.str []] [(0,1,.int .i64 a)] = some [.int .i64 a,.str []]:= fun _ => rfl
        have f1 : fillR (List.replicate 1 [AV.int IntKind.i64 0,.str []]) 2 [(0,.agg [.int .i64 tk,.str ts])] = some [[.int .i64 tk,.str ts]]:= rfl
        have f2 : frzRows [[AV.int IntKind.i64 tk,.str ts]] = some [[.int .i64 tk,.str ts]]:= rfl
        cases hsm : smallB c with
        | false =>
          rw [hsm] at c1 tK
          simp only [Bool.false_eq_true,if_false] at tK
          subst tK
          have k0 : lexK c r = 0:= by unfold lexK;rw [hsm];rfl
          simp only [k0,Nat.add_zero] at sl hq hr
          cases htk : tokOk ⟨2,ts⟩ with
          | false =>
            rw [htk] at c3 hr
            refine .step (wp_sound _ _ _ _ ?_)
            simp only [go_sem,kSt_ptr,Nat.reduceBEq,Nat.reduceAdd,Nat.reduceLeDiff,s_spec_Lex_L1,e0,e5,hc,hx,w1,w2,w3,w4,hw,h1,c1,fsS,sl,h3,c3,rep0,fill0,frz0]
            exact hr _ _ i (by simp) (.inr ⟨_,rfl⟩) rfl
          | true =>
            rw [htk] at c3 hr hq
            by_cases hl : out.length < 500
            · have l1 : ((out.length : Int) == 500) = false:= by simp;omega
              have l2 : decide ((500 : Int) ≤ (out.length : Int)) = false:= decide_eq_false (by omega)
              simp only [hl,decide_true,Bool.and_self,if_true] at hq hr
              refine .step (wp_sound _ _ _ _ ?_)
              simp only [go_sem,kSt_ptr,Nat.reduceBEq,Nat.reduceAdd,Nat.reduceLeDiff,s_spec_Lex_L1,e0,e5,hc,hx,w1,w2,w3,w4,hw,h1,c1,fsS,sl,h3,c3,lg,l1,f1,f2]
              refine hP_grow [(⟨2,ts⟩ : TToken)] rfl (gx.mono (by show h.nx ≤ h.nx + 1 + 1;omega) fun q hr => by have n3 : ¬ q = h.nx + 1:= (by omega);simp [n3]) rfl (by simp only [List.length_cons,List.length_nil];unfold room;omega) ?_
              intro v' h' g1 g2 g3 g4
              simp only [go_sem,Nat.reduceBEq]
              refine ih (r.drop (lexK c r)) (i + 1) (out ++ [⟨2,ts⟩]) _ _ (by rw [List.length_drop];omega) (by rw [hd2,k0,List.drop_zero]) (by simp;omega) (by simp only [go_sem,Nat.reduceBEq,e0]) (by simp only [go_sem,Nat.reduceBEq]) (by simp only [go_sem,Nat.reduceBEq];exact g1) ?_ ?_
              · rw [k0];exact hq
              · rw [k0];exact hr
            · have l1 : ((out.length : Int) == 500) = true:= by simp;omega
              have l2 : decide ((500 : Int) ≤ (out.length : Int)) = true:= decide_eq_true (by omega)
              refine .step (wp_sound _ _ _ _ ?_)
              simp only [go_sem,kSt_ptr,Nat.reduceBEq,Nat.reduceAdd,Nat.reduceLeDiff,s_spec_Lex_L1,e0,e5,hc,hx,w1,w2,w3,w4,hw,h1,c1,fsS,sl,h3,c3,lg,l1,rep0,fill0,frz0]
              exact hr _ _ i (by simp [hl]) (.inr ⟨_,rfl⟩) rfl
        | true =>
          rw [hsm] at c1 tK
          simp only [if_true] at tK
          subst tK
          have k0 : lexK c r = (r.takeWhile alB).length:= by unfold lexK;rw [hsm];rfl
          refine .step (wp_sound _ _ _ _ ?_)
          simp only [go_sem,kSt_ptr,Nat.reduceBEq,Nat.reduceAdd,Nat.reduceLeDiff,s_spec_Lex_L1,e0,e5,hc,hx,w1,w2,w3,w4,hw,h1,c1,fsS,sl1]
          refine LK0_spec_Lex cs h1 h2 hs r (i + 1) _ hd2 (by simp only [go_sem,Nat.reduceBEq,e0]) (by simp only [go_sem,Nat.reduceBEq]) ?_
          intro e' a0 a4 a5 a6 a8 a7
          simp only [go_sem,Nat.reduceBEq,e5] at a4 a5 a6 a8
          rw [← k0] at a7
          cases htk : tokOk ⟨1,ts⟩ with
          | false =>
            rw [htk] at c3 hr
            simp only [go_sem,kSt_ptr,Nat.reduceBEq,Nat.reduceAdd,a0,a4,a5,a8,a7,sl,h3,c3,rep0,fill0,frz0]
            exact hr _ _ i (by simp) (.inr ⟨_,rfl⟩) rfl
          | true =>
            rw [htk] at c3 hr hq
            by_cases hl : out.length < 500
            · have l1 : ((out.length : Int) == 500) = false:= by simp;omega
              have l2 : decide ((500 : Int) ≤ (out.length : Int)) = false:= decide_eq_false (by omega)
              simp only [hl,decide_true,Bool.and_self,if_true] at hq hr
              simp only [go_sem,kSt_ptr,Nat.reduceBEq,Nat.reduceAdd,a0,a4,a5,a8,a7,sl,h3,c3,lg,l1,f1,f2]
              refine hP_grow [(⟨1,ts⟩ : TToken)] rfl (gx.mono (by show h.nx ≤ h.nx + 1 + 1;omega) fun q hr => by have n3 : ¬ q = h.nx + 1:= (by omega);simp [n3]) rfl (by simp only [List.length_cons,List.length_nil];unfold room;omega) ?_
              intro v' h' g1 g2 g3 g4
              simp only [go_sem,Nat.reduceBEq,a7]
              exact ih (r.drop (lexK c r)) (i + 1 + lexK c r) (out ++ [⟨1,ts⟩]) _ _ (by rw [List.length_drop];omega) u2 (by simp;omega) (by simp only [go_sem,Nat.reduceBEq,a0]) (by simp only [go_sem,Nat.reduceBEq]) (by simp only [go_sem,Nat.reduceBEq];exact g1) hq hr
            · have l1 : ((out.length : Int) == 500) = true:= by simp;omega
              have l2 : decide ((500 : Int) ≤ (out.length : Int)) = true:= decide_eq_true (by omega)
              simp only [go_sem,kSt_ptr,Nat.reduceBEq,Nat.reduceAdd,a0,a4,a5,a8,a7,sl,h3,c3,lg,l1,rep0,fill0,frz0]
              exact hr _ _ i (by simp [hl]) (.inr ⟨_,rfl⟩) rfl
noncomputable def C_spec_Lex:= c1 strT (fun (s : List UInt8) => s.length ≤ 1048576) (fun x => .tup [.imm (x.1.map TToken.row),.int .i64 x.2]) fun (s : List UInt8) => lexP s
theorem C_spec_Lex_eq (s : List UInt8) (h : s.length ≤ 1048576) : C_spec_Lex [.str s] = some (.tup [.imm (((lexP s).1).map TToken.row),.int .i64 ((lexP s).2)]):= c1_eq strT h
theorem ok_spec_Lex {WI : World → Prop} (hs : Stable WI) (cs) (hT : TOK (EE cs) WI) (h1 : (EE cs).T 100 = some C_spec_l8Small) (h2 : (EE cs).T 101 = some C_spec_l2Digit) (h3 : (EE cs).T 102 = some C_spec_TokenOk) : PureOK Tryz.prog WI 57 C_spec_Lex:= by
  refine pure1 (E:= EE cs) hT hs (by rw [st_spec_Lex];rfl) fun s hp => out_wp (n:= 1) (st_spec_Lex cs) ?_
  have hs : s.length ≤ 1048576:= hp
  simp only [go_sem,Nat.reduceBEq,Nat.reduceAdd,s_spec_Lex,rep0,fill0,frz0]
  refine LK1_spec_Lex cs h1 h2 h3 hs s.length s 0 [] _ _ (Nat.le_refl _) rfl (Nat.zero_le _) (by simp only [go_sem,Nat.reduceBEq]) (by simp only [go_sem,Nat.reduceBEq]) (by simp only [go_sem,Nat.reduceBEq];exact grows_new tToken Hp.empty) ?_ ?_
  · intro e' h' toks hl gx
    have hl' : lexP s = (toks,-1):= hl
    rw [hl']
    rcases gx with ⟨rfl,gv⟩ | ⟨id,gv,_,_⟩ <;> simp only [go_sem,Nat.reduceBEq,gv]
  · intro e' h' p hl e2 e3
    have hl' : lexP s = ([],(p : Int)):= hl
    rw [hl']
    rcases e2 with e2 | ⟨id,e2⟩ <;> simp only [go_sem,e2,e3]
end Go.Proofs.YtpolhafmapekpaaGreatDoor.En
namespace Go.Proofs.YtpolhafmapekpaaGreatDoor.En
open Go Go.RowKit Go.Ev
set_option maxHeartbeats 1600000
noncomputable def C_spec_l9Has:= c2 (sliceT strT) strT (fun (l : List (List UInt8)) (s : List UInt8) => l.length ≤ 1048576) (.bool) fun (l : List (List UInt8)) (s : List UInt8) => hasS l s
theorem C_spec_l9Has_eq (l : List (List UInt8)) (s : List UInt8) (h : l.length ≤ 1048576) : C_spec_l9Has [.imm (l.map strT.row),.str s] = some (.bool ((hasS l s))):= c2_eq (sliceT strT) strT h
theorem ok_spec_l9Has {WI : World → Prop} (hs : Stable WI) (cs) (hT : TOK (EE cs) WI) : PureOK Tryz.prog WI 218 C_spec_l9Has:= by
  refine pure2 (E:= EE cs) hT hs (by rw [st_spec_l9Has];rfl) fun l s hp => out_wp (n:= 0) (st_spec_l9Has cs) ?_
  simp only [go_sem,s_spec_l9Has]
  refine (wl_all (l:= l) (fun pre w => !(w == s)) (fun pre e h => e 0 = .imm (l.map strT.row) ∧ e 1 = .str s ∧ e 5 = .int .i64 pre.length) (.exit 0) (fun e h => e 0 = .imm (l.map strT.row) ∧ e 1 = .str s) (fun e h => e 4 = .bool true) (by omega) ?_ ?_ ?_ (by simp) l [] _ _ rfl ?_).mono ?_
  · rintro pre w rest e h a hp ⟨q0,q1,ix⟩
    have hq : (w == s) = false:= by simpa using hp
    all_goals simp only [go_sem,Nat.reduceBEq,s_spec_l9Has_L0,q0,q1,ix,a.dl,a.ia (row:= strT.row) (sz:= 1) rfl,a.hw,hq]
  · rintro pre w rest e h a hp ⟨q0,q1,ix⟩
    have hq : (w == s) = true:= by simpa using hp
    all_goals simp only [go_sem,Nat.reduceBEq,s_spec_l9Has_L0,q0,q1,ix,a.dl,a.ia (row:= strT.row) (sz:= 1) rfl,a.hw,hq]
  · rintro e h ⟨q0,q1,ix⟩
    simp only [go_sem,Nat.reduceBEq,s_spec_l9Has_L0,q0,q1,ix]
  · simp only [go_sem,Nat.reduceBEq,and_self]
  · rintro x e h (⟨hp,rfl,j0⟩ | ⟨hp,rfl,j⟩)
    · rw [allP_all] at hp
      simp only [go_sem,hasS,hp]
    · rw [allP_all] at hp
      simp only [go_sem,j,hasS,hp]
noncomputable def C_spec_l9Word:= c1 strT (fun (s : List UInt8) => s.length ≤ 1048576) (.bool) fun (s : List UInt8) => freeW s
theorem C_spec_l9Word_eq (s : List UInt8) (h : s.length ≤ 1048576) : C_spec_l9Word [.str s] = some (.bool ((freeW s))):= c1_eq strT h
theorem ok_spec_l9Word {WI : World → Prop} (hs : Stable WI) (cs) (hT : TOK (EE cs) WI) (h1 : (EE cs).T 153 = some C_spec_l8Name) (h2 : (EE cs).T 218 = some C_spec_l9Has) : PureOK Tryz.prog WI 193 C_spec_l9Word:= by
  refine pure1 (E:= EE cs) hT hs (by rw [st_spec_l9Word];rfl) fun s hp => out_wp (n:= 0) (st_spec_l9Word cs) ?_
  have c1:= C_spec_l8Name_eq s hp
  have c2 : C_spec_l9Has [.imm [[.str [116,97,98,108,101]],[.str [112,114,105,109,97,114,121]],[.str [117,110,105,113,117,101]],[.str [105,110,100,101,120]],[.str [110,117,108,108]],[.str [100,101,115,99]],[.str [105,110,116]],[.str [110,117,109]],[.str [116,101,120,116]],[.str [98,111,111,108]]],.str s] = some (.bool (hasS words s)):= C_spec_l9Has_eq words s (by decide)
  have f1 : ∀ a b c d e f g h i j : List UInt8,fillR (List.replicate 10 [.str []]) 1 [(0,.str a),(1,.str b),(2,.str c),(3,.str d),(4,.str e),(5,.str f),(6,.str g),(7,.str h),(8,.str i),(9,.str j)] = some [[.str a],[.str b],[.str c],[.str d],[.str e],[.str f],[.str g],[.str h],[.str i],[.str j]]:= fun _ _ _ _ _ _ _ _ _ _ => rfl
  have f2 : ∀ a b c d e f g h i j : List UInt8,frzRows [[.str a],[.str b],[.str c],[.str d],[.str e],[.str f],[.str g],[.str h],[.str i],[.str j]] = some [[.str a],[.str b],[.str c],[.str d],[.str e],[.str f],[.str g],[.str h],[.str i],[.str j]]:= fun _ _ _ _ _ _ _ _ _ _ => rfl
  cases hn : isName s
  · simp only [go_sem,Nat.reduceBEq,s_spec_l9Word,h1,c1,hn,freeW]
  · simp only [go_sem,Nat.reduceBEq,s_spec_l9Word,h1,h2,c1,c2,hn,f1,f2,freeW]
noncomputable def C_spec_l9Names:= c1 tDef (fun (v : TDef) => tDef.cost v ≤ 1048576) (.bool) fun (v : TDef) => defNames v
theorem C_spec_l9Names_eq (v : TDef) (h : tDef.cost v ≤ 1048576) : C_spec_l9Names [.agg [.str v.fName,.imm (v.fCols.map TCol.row),.imm (v.fPrimary.map TBy.row),.imm (v.fIndexes.map TIndex.row)]] = some (.bool ((defNames v))):= c1_eq tDef h
theorem ok_spec_l9Names {WI : World → Prop} (hs : Stable WI) (cs) (hT : TOK (EE cs) WI) (h1 : (EE cs).T 193 = some C_spec_l9Word) : PureOK Tryz.prog WI 157 C_spec_l9Names:= by
  refine pure1 (E:= EE cs) hT hs (by rw [st_spec_l9Names];rfl) fun v hp => out_wp (n:= 0) (st_spec_l9Names cs) ?_
  obtain ⟨n1,n2,n3,n4,n5,n6⟩:= defLens hp
  simp only [go_sem,s_spec_l9Names,TDef.row]
  refine (wl_all (l:= v.fCols) (fun pre c => freeW c.fName) (fun pre e h => e 1 = .ptr 0 0 ∧ h.hp 0 = some v.row ∧ e 3 = .int .i64 pre.length) (.exit 0) (fun e h => e 1 = .ptr 0 0 ∧ h.hp 0 = some v.row) (fun e h => e 2 = .bool false) (by omega) ?_ ?_ ?_ (by simp) v.fCols [] _ _ rfl ?_).mono ?_
  · rintro pre c rest e h a hp ⟨q0,q1,ix⟩
    simp only [go_sem,Nat.reduceBEq,Nat.reduceAdd,Nat.reduceLeDiff,s_spec_l9Names_L0,q0,q1,ix,a.dl,a.ia (row:= TCol.row) (sz:= 3) rfl,hp,a.hw,TDef.row,TCol.row,h1,C_spec_l9Word_eq c.fName (n5 c a.mem)]
  · rintro pre c rest e h a hp ⟨q0,q1,ix⟩
    simp only [go_sem,Nat.reduceBEq,Nat.reduceAdd,Nat.reduceLeDiff,s_spec_l9Names_L0,q0,q1,ix,a.dl,a.ia (row:= TCol.row) (sz:= 3) rfl,hp,a.hw,TDef.row,TCol.row,h1,C_spec_l9Word_eq c.fName (n5 c a.mem)]
  · rintro e h ⟨q0,q1,ix⟩
    simp only [go_sem,Nat.reduceBEq,Nat.reduceAdd,Nat.reduceLeDiff,s_spec_l9Names_L0,q0,q1,ix,TDef.row]
  · simp only [go_sem,Nat.reduceBEq,TDef.row]
  · rintro x e h (⟨hp,rfl,j0,j1⟩ | ⟨hp,rfl,j⟩)
    · rw [allP_all] at hp
      simp only [go_sem]
      refine (wl_all (l:= v.fIndexes) (fun pre c => freeW c.fName) (fun pre e h => e 1 = .ptr 0 0 ∧ h.hp 0 = some v.row ∧ e 4 = .int .i64 pre.length) (.exit 2) (fun e h => e 1 = .ptr 0 0 ∧ h.hp 0 = some v.row) (fun e h => e 2 = .bool false) (by omega) ?_ ?_ ?_ (by simp) v.fIndexes [] _ _ rfl ?_).mono ?_
      · rintro pre c rest e h a hp ⟨q0,q1,ix⟩
        simp only [go_sem,Nat.reduceBEq,Nat.reduceAdd,Nat.reduceLeDiff,s_spec_l9Names_L1,q0,q1,ix,a.dl,a.ia (row:= TIndex.row) (sz:= 3) rfl,hp,a.hw,TDef.row,TIndex.row,h1,C_spec_l9Word_eq c.fName (n6 c a.mem).1]
      · rintro pre c rest e h a hp ⟨q0,q1,ix⟩
        simp only [go_sem,Nat.reduceBEq,Nat.reduceAdd,Nat.reduceLeDiff,s_spec_l9Names_L1,q0,q1,ix,a.dl,a.ia (row:= TIndex.row) (sz:= 3) rfl,hp,a.hw,TDef.row,TIndex.row,h1,C_spec_l9Word_eq c.fName (n6 c a.mem).1]
      · rintro e h ⟨q0,q1,ix⟩
        simp only [go_sem,Nat.reduceBEq,Nat.reduceAdd,Nat.reduceLeDiff,s_spec_l9Names_L1,q0,q1,ix,TDef.row]
      · simp only [go_sem,Nat.reduceBEq,j0,j1,TDef.row]
      · rintro x e h (⟨hp2,rfl,j0,j1⟩ | ⟨hp2,rfl,j⟩)
        · rw [allP_all] at hp2
          simp only [go_sem,Nat.reduceBEq,j0,j1,TDef.row,h1,C_spec_l9Word_eq v.fName n1,defNames,hp,hp2]
        · rw [allP_all] at hp2
          simp only [go_sem,j,defNames,hp,hp2]
    · rw [allP_all] at hp
      simp only [go_sem,j,defNames,hp]
noncomputable def C_spec_l9Types:= c1 tDef (fun (v : TDef) => tDef.cost v ≤ 1048576) (.bool) fun (v : TDef) => defTypes v
theorem C_spec_l9Types_eq (v : TDef) (h : tDef.cost v ≤ 1048576) : C_spec_l9Types [.agg [.str v.fName,.imm (v.fCols.map TCol.row),.imm (v.fPrimary.map TBy.row),.imm (v.fIndexes.map TIndex.row)]] = some (.bool ((defTypes v))):= c1_eq tDef h
theorem ok_spec_l9Types {WI : World → Prop} (hs : Stable WI) (cs) (hT : TOK (EE cs) WI) (h1 : (EE cs).T 62 = some C_spec_l1In) : PureOK Tryz.prog WI 158 C_spec_l9Types:= by
  refine pure1 (E:= EE cs) hT hs (by rw [st_spec_l9Types];rfl) fun v hp => out_wp (n:= 0) (st_spec_l9Types cs) ?_
  obtain ⟨n1,n2,n3,n4,n5,n6⟩:= defLens hp
  simp only [go_sem,s_spec_l9Types,TDef.row]
  refine (wl_all (l:= v.fCols) (fun pre c => inR c.fType 1 4) (fun pre e h => e 1 = .ptr 0 0 ∧ h.hp 0 = some v.row ∧ e 3 = .int .i64 pre.length) (.exit 0) (fun e h => e 1 = .ptr 0 0 ∧ h.hp 0 = some v.row) (fun e h => e 2 = .bool false) (by omega) ?_ ?_ ?_ (by simp) v.fCols [] _ _ rfl ?_).mono ?_
  · rintro pre c rest e h a hp ⟨q0,q1,ix⟩
    simp only [go_sem,Nat.reduceBEq,Nat.reduceAdd,Nat.reduceLeDiff,s_spec_l9Types_L0,q0,q1,ix,a.dl,a.ia (row:= TCol.row) (sz:= 3) rfl,hp,a.hw,TDef.row,TCol.row,h1,C_spec_l1In_eq]
  · rintro pre c rest e h a hp ⟨q0,q1,ix⟩
    simp only [go_sem,Nat.reduceBEq,Nat.reduceAdd,Nat.reduceLeDiff,s_spec_l9Types_L0,q0,q1,ix,a.dl,a.ia (row:= TCol.row) (sz:= 3) rfl,hp,a.hw,TDef.row,TCol.row,h1,C_spec_l1In_eq]
  · rintro e h ⟨q0,q1,ix⟩
    simp only [go_sem,Nat.reduceBEq,Nat.reduceAdd,Nat.reduceLeDiff,s_spec_l9Types_L0,q0,q1,ix,TDef.row]
  · simp only [go_sem,Nat.reduceBEq,TDef.row]
  · rintro x e h (⟨hp,rfl,j0,j1⟩ | ⟨hp,rfl,j⟩)
    · rw [allP_all] at hp
      simp only [go_sem,Nat.reduceBEq,Nat.reduceAdd,Nat.reduceLeDiff,j0,j1,TDef.row,h1,C_spec_l1In_eq,defTypes,hp]
    · rw [allP_all] at hp
      simp only [go_sem,j,defTypes,hp]
noncomputable def C_spec_l9Once:= c1 tDef (fun (v : TDef) => tDef.cost v ≤ 1048576) (.bool) fun (v : TDef) => defOnce v
theorem C_spec_l9Once_eq (v : TDef) (h : tDef.cost v ≤ 1048576) : C_spec_l9Once [.agg [.str v.fName,.imm (v.fCols.map TCol.row),.imm (v.fPrimary.map TBy.row),.imm (v.fIndexes.map TIndex.row)]] = some (.bool ((defOnce v))):= c1_eq tDef h
theorem ok_spec_l9Once {WI : World → Prop} (hs : Stable WI) (cs) (hT : TOK (EE cs) WI) (h1 : (EE cs).T 156 = some C_spec_l9Col) : PureOK Tryz.prog WI 159 C_spec_l9Once:= by
  refine pure1 (E:= EE cs) hT hs (by rw [st_spec_l9Once];rfl) fun v hp => out_wp (n:= 0) (st_spec_l9Once cs) ?_
  obtain ⟨n1,n2,n3,n4,n5,n6⟩:= defLens hp
  simp only [go_sem,s_spec_l9Once,TDef.row]
  have hfz : frzCells v.row = some v.row:= rfl
  have inner : ∀ pre c rest,At v.fIndexes pre c rest → ∀ e h,e 1 = .ptr 0 0 → h.hp 0 = some v.row → e 4 = .int .i64 pre.length → e 5 = .int .i64 0 → WL (EE cs) s_spec_l9Once_L1 e h fun x e' h' => (onceX pre c = true ∧ x = .exit 4 ∧ e' 1 = .ptr 0 0 ∧ h'.hp 0 = some v.row ∧ e' 4 = .int .i64 pre.length) ∨ (onceX pre c = false ∧ x = .ret ∧ e' 2 = .bool false):= by
    intro pre0 c rest0 a0 e h k0 k1 k2 k3
    refine (wl_all (l:= pre0) (fun pre y => !(y.fName == c.fName)) (fun pre e h => e 1 = .ptr 0 0 ∧ h.hp 0 = some v.row ∧ e 4 = .int .i64 pre0.length ∧ e 5 = .int .i64 pre.length) (.exit 4) (fun e h => e 1 = .ptr 0 0 ∧ h.hp 0 = some v.row ∧ e 4 = .int .i64 pre0.length) (fun e h => e 2 = .bool false) (by have:= a0.lt;omega) ?_ ?_ ?_ (by simp) pre0 [] _ _ rfl ?_).mono ?_
    · rintro pre y rest e h a hp ⟨q0,q1,q2,ix⟩
      have hl2 : v.fIndexes = pre ++ y :: (rest ++ c :: rest0):= by rw [a0.hl,a.hl];simp
      have hq : (y.fName == c.fName) = false:= by simpa using hp
      simp only [go_sem,Nat.reduceBEq,Nat.reduceAdd,Nat.reduceLeDiff,s_spec_l9Once_L1,q0,q1,q2,ix,a.dl,a.hw,TDef.row,TIndex.row,kIa_map (row:= TIndex.row) (sz:= 3) hl2 rfl,a0.ia (row:= TIndex.row) (sz:= 3) rfl,hq]
    · rintro pre y rest e h a hp ⟨q0,q1,q2,ix⟩
      have hl2 : v.fIndexes = pre ++ y :: (rest ++ c :: rest0):= by rw [a0.hl,a.hl];simp
      have hq : (y.fName == c.fName) = true:= by simpa using hp
      simp only [go_sem,Nat.reduceBEq,Nat.reduceAdd,Nat.reduceLeDiff,s_spec_l9Once_L1,q0,q1,q2,ix,a.dl,a.hw,TDef.row,TIndex.row,kIa_map (row:= TIndex.row) (sz:= 3) hl2 rfl,a0.ia (row:= TIndex.row) (sz:= 3) rfl,hq]
    · rintro e h ⟨q0,q1,q2,ix⟩
      simp only [go_sem,Nat.reduceBEq,Nat.reduceAdd,Nat.reduceLeDiff,s_spec_l9Once_L1,q0,q1,q2,ix,TDef.row]
    · simp only [go_sem,k0,k1,k2,k3,TDef.row]
    · rintro x e' h' (⟨hp,rfl,j0,j1,j2⟩ | ⟨hp,rfl,j⟩)
      · rw [allP_all] at hp
        exact .inl ⟨hp,rfl,j0,j1,j2⟩
      · rw [allP_all] at hp
        exact .inr ⟨hp,rfl,j⟩
  refine (wl_all (l:= v.fCols) (fun pre c => onceC pre c) (fun pre e h => e 1 = .ptr 0 0 ∧ h.hp 0 = some v.row ∧ e 3 = .int .i64 pre.length) (.exit 0) (fun e h => e 1 = .ptr 0 0 ∧ h.hp 0 = some v.row) (fun e h => e 2 = .bool false) (by omega) ?_ ?_ ?_ (by simp) v.fCols [] _ _ rfl ?_).mono ?_
  · rintro pre c rest e h a hp ⟨q0,q1,ix⟩
    have hc : C_spec_l9Col [.agg [.str v.fName,.imm (v.fCols.map TCol.row),.imm (v.fPrimary.map TBy.row),.imm (v.fIndexes.map TIndex.row)],.str c.fName] = some (.int .i64 (colAt v.fCols c.fName)):= C_spec_l9Col_eq v c.fName (defLens ‹tDef.cost v ≤ 1048576›).2.1
    have hq:= colAt_once a.hl
    simp only [go_sem,Nat.reduceBEq,Nat.reduceAdd,Nat.reduceLeDiff,s_spec_l9Once_L0,q0,q1,ix,a.dl,a.ia (row:= TCol.row) (sz:= 3) rfl,hp,a.hw,TDef.row,TCol.row,h1,hc,hq,bne]
  · rintro pre c rest e h a hp ⟨q0,q1,ix⟩
    have hc : C_spec_l9Col [.agg [.str v.fName,.imm (v.fCols.map TCol.row),.imm (v.fPrimary.map TBy.row),.imm (v.fIndexes.map TIndex.row)],.str c.fName] = some (.int .i64 (colAt v.fCols c.fName)):= C_spec_l9Col_eq v c.fName (defLens ‹tDef.cost v ≤ 1048576›).2.1
    have hq:= colAt_once a.hl
    simp only [go_sem,Nat.reduceBEq,Nat.reduceAdd,Nat.reduceLeDiff,s_spec_l9Once_L0,q0,q1,ix,a.dl,a.ia (row:= TCol.row) (sz:= 3) rfl,hp,a.hw,TDef.row,TCol.row,h1,hc,hq,bne]
  · rintro e h ⟨q0,q1,ix⟩
    simp only [go_sem,Nat.reduceBEq,Nat.reduceAdd,Nat.reduceLeDiff,s_spec_l9Once_L0,q0,q1,ix,TDef.row]
  · simp only [go_sem,Nat.reduceBEq,TDef.row]
  · rintro x e h (⟨hp1,rfl,j0,j1⟩ | ⟨hp1,rfl,j⟩)
    · simp only [go_sem]
      refine (wl_all (l:= v.fIndexes) (fun pre c => onceX pre c) (fun pre e h => e 1 = .ptr 0 0 ∧ h.hp 0 = some v.row ∧ e 4 = .int .i64 pre.length) (.exit 2) (fun e h => e 1 = .ptr 0 0 ∧ h.hp 0 = some v.row) (fun e h => e 2 = .bool false) (by omega) ?_ ?_ ?_ (by simp) v.fIndexes [] _ _ rfl ?_).mono ?_
      · rintro pre c rest e h a hp ⟨q0,q1,ix⟩
        simp only [go_sem,Nat.reduceBEq,Nat.reduceAdd,Nat.reduceLeDiff,s_spec_l9Once_L2,q0,q1,ix,a.dl,TDef.row]
        refine (inner pre c rest a _ _ (by simp only [go_sem,Nat.reduceBEq,q0]) (by simp only [go_sem,q1]) (by simp only [go_sem,Nat.reduceBEq,ix]) (by simp only [go_sem,Nat.reduceBEq])).mono ?_
        rintro x e' h' (⟨hq,rfl,k0,k1,k2⟩ | ⟨hq,rfl,k⟩)
        · simp only [go_sem,Nat.reduceBEq,k0,k1,k2,TDef.row,a.hw]
        · rw [hp] at hq;cases hq
      · rintro pre c rest e h a hp ⟨q0,q1,ix⟩
        simp only [go_sem,Nat.reduceBEq,Nat.reduceAdd,Nat.reduceLeDiff,s_spec_l9Once_L2,q0,q1,ix,a.dl,TDef.row]
        refine (inner pre c rest a _ _ (by simp only [go_sem,Nat.reduceBEq,q0]) (by simp only [go_sem,q1]) (by simp only [go_sem,Nat.reduceBEq,ix]) (by simp only [go_sem,Nat.reduceBEq])).mono ?_
        rintro x e' h' (⟨hq,rfl,k0,k1,k2⟩ | ⟨hq,rfl,k⟩)
        · rw [hp] at hq;cases hq
        · simp only [go_sem,k]
      · rintro e h ⟨q0,q1,ix⟩
        simp only [go_sem,Nat.reduceBEq,Nat.reduceAdd,Nat.reduceLeDiff,s_spec_l9Once_L2,q0,q1,ix,TDef.row]
      · simp only [go_sem,Nat.reduceBEq,j0,j1,TDef.row]
      · rintro x e h (⟨hp2,rfl,j0,j1⟩ | ⟨hp2,rfl,j⟩)
        · simp only [go_sem,defOnce,hp1,hp2]
        · simp only [go_sem,j,defOnce,hp1,hp2]
    · simp only [go_sem,j,defOnce,hp1]
noncomputable def C_spec_l9Parts:= c2 tDef (sliceT tBy) (fun (v : TDef) (l : List (TBy)) => tDef.cost v ≤ 1048576 ∧ l.length ≤ 1048576) (.bool) fun (v : TDef) (l : List (TBy)) => partsOK v l
theorem C_spec_l9Parts_eq (v : TDef) (l : List (TBy)) (h : tDef.cost v ≤ 1048576 ∧ l.length ≤ 1048576) : C_spec_l9Parts [.agg [.str v.fName,.imm (v.fCols.map TCol.row),.imm (v.fPrimary.map TBy.row),.imm (v.fIndexes.map TIndex.row)],.imm (l.map TBy.row)] = some (.bool ((partsOK v l))):= c2_eq tDef (sliceT tBy) h
theorem ok_spec_l9Parts {WI : World → Prop} (hs : Stable WI) (cs) (hT : TOK (EE cs) WI) (h1 : (EE cs).T 62 = some C_spec_l1In) : PureOK Tryz.prog WI 194 C_spec_l9Parts:= by
  refine pure2 (E:= EE cs) hT hs (by rw [st_spec_l9Parts];rfl) fun v l hp => out_wp (n:= 0) (st_spec_l9Parts cs) ?_
  obtain ⟨n1,n2,n3,n4,n5,n6⟩:= defLens hp.1
  have hw2:= defCols_len hp.1
  have hl:= hp.2
  rw [← partsOK_spec]
  simp only [go_sem,s_spec_l9Parts,TDef.row]
  refine (wl_all (l:= l) (fun pre p => inR p.fCol 0 ((v.fCols.length : Int) - 1) && !(decide (0 < (pre.length : Int)) && ((l.head?.map (·.fCol)) == some p.fCol))) (fun pre e h => e 2 = .ptr 0 0 ∧ h.hp 0 = some v.row ∧ e 1 = .imm (l.map TBy.row) ∧ e 5 = .int .i64 pre.length) (.exit 0) (fun e h => e 2 = .ptr 0 0 ∧ h.hp 0 = some v.row ∧ e 1 = .imm (l.map TBy.row)) (fun e h => e 4 = .bool false) (by omega) ?_ ?_ ?_ (by simp) l [] _ _ rfl ?_).mono ?_
  · rintro pre p rest e h a hp ⟨q0,q1,q2,ix⟩
    obtain ⟨q,r,hqr⟩ : ∃ q r,l = q :: r:= by cases hll : l with | nil => rw [hll] at a;exact absurd a.mem (by simp) | cons q r => exact ⟨q,r,rfl⟩
    have hh : l.head? = some q:= by rw [hqr];rfl
    cases c1 : inR p.fCol 0 ((v.fCols.length : Int) - 1) <;> cases c2 : decide (0 < (pre.length : Int)) <;> cases c3 : (q.fCol == p.fCol) <;> simp only [hh,Option.map_some,Option.some_beq_some,c1,c2,c3,Bool.and_true,Bool.and_false,Bool.not_true,Bool.not_false,Bool.false_eq_true] at hp
    all_goals simp only [go_sem,Nat.reduceBEq,Nat.reduceAdd,Nat.reduceLeDiff,s_spec_l9Parts_L0,q0,q1,q2,ix,a.dl,a.ia (row:= TBy.row) (sz:= 2) rfl,a.hw,TDef.row,TBy.row,h1,C_spec_l1In_eq,hw2,kIa_head (row:= TBy.row) (sz:= 2) hqr rfl,c1,c2,c3]
  · rintro pre p rest e h a hp ⟨q0,q1,q2,ix⟩
    obtain ⟨q,r,hqr⟩ : ∃ q r,l = q :: r:= by cases hll : l with | nil => rw [hll] at a;exact absurd a.mem (by simp) | cons q r => exact ⟨q,r,rfl⟩
    have hh : l.head? = some q:= by rw [hqr];rfl
    cases c1 : inR p.fCol 0 ((v.fCols.length : Int) - 1) <;> cases c2 : decide (0 < (pre.length : Int)) <;> cases c3 : (q.fCol == p.fCol) <;> simp only [hh,Option.map_some,Option.some_beq_some,c1,c2,c3,Bool.and_true,Bool.and_false,Bool.not_true,Bool.not_false,Bool.true_eq_false] at hp
    all_goals simp only [go_sem,Nat.reduceBEq,Nat.reduceAdd,Nat.reduceLeDiff,s_spec_l9Parts_L0,q0,q1,q2,ix,a.dl,a.ia (row:= TBy.row) (sz:= 2) rfl,a.hw,TDef.row,TBy.row,h1,C_spec_l1In_eq,hw2,kIa_head (row:= TBy.row) (sz:= 2) hqr rfl,c1,c2,c3]
  · rintro e h ⟨q0,q1,q2,ix⟩
    simp only [go_sem,Nat.reduceBEq,s_spec_l9Parts_L0,q0,q1,q2,ix,TDef.row]
  · simp only [go_sem,Nat.reduceBEq,TDef.row]
  · rintro x e h (⟨hp,rfl,j0,j1,j2⟩ | ⟨hp,rfl,j⟩)
    · simp only [go_sem,Nat.reduceBEq,j2,h1,C_spec_l1In_eq,hp]
    · simp only [go_sem,j,hp]
end Go.Proofs.YtpolhafmapekpaaGreatDoor.En
namespace Go.Proofs.YtpolhafmapekpaaGreatDoor.En
open Go Go.RowKit Go.Ev
set_option maxHeartbeats 1600000
noncomputable def C_spec_l9AllParts:= c1 tDef (fun (v : TDef) => tDef.cost v ≤ 1048576) (.bool) fun (v : TDef) => defParts v
theorem C_spec_l9AllParts_eq (v : TDef) (h : tDef.cost v ≤ 1048576) : C_spec_l9AllParts [.agg [.str v.fName,.imm (v.fCols.map TCol.row),.imm (v.fPrimary.map TBy.row),.imm (v.fIndexes.map TIndex.row)]] = some (.bool ((defParts v))):= c1_eq tDef h
theorem ok_spec_l9AllParts {WI : World → Prop} (hs : Stable WI) (cs) (hT : TOK (EE cs) WI) (h1 : (EE cs).T 194 = some C_spec_l9Parts) : PureOK Tryz.prog WI 160 C_spec_l9AllParts:= by
  refine pure1 (E:= EE cs) hT hs (by rw [st_spec_l9AllParts];rfl) fun v hp => out_wp (n:= 0) (st_spec_l9AllParts cs) ?_
  obtain ⟨n1,n2,n3,n4,n5,n6⟩:= defLens hp
  have hv:= hp
  have hce : ∀ l : List TBy,l.length ≤ 1048576 → C_spec_l9Parts [.agg [.str v.fName,.imm (v.fCols.map TCol.row),.imm (v.fPrimary.map TBy.row),.imm (v.fIndexes.map TIndex.row)],.imm (l.map TBy.row)] = some (.bool (partsOK v l)):= fun l hl => C_spec_l9Parts_eq v l ⟨hv,hl⟩
  simp only [go_sem,s_spec_l9AllParts,TDef.row]
  refine (wl_all (l:= v.fIndexes) (fun pre y => partsOK v y.fParts) (fun pre e h => e 1 = .ptr 0 0 ∧ h.hp 0 = some v.row ∧ e 3 = .int .i64 pre.length) (.exit 0) (fun e h => e 1 = .ptr 0 0 ∧ h.hp 0 = some v.row) (fun e h => e 2 = .bool false) (by omega) ?_ ?_ ?_ (by simp) v.fIndexes [] _ _ rfl ?_).mono ?_
  · rintro pre y rest e h a hp ⟨q0,q1,ix⟩
    simp only [go_sem,Nat.reduceBEq,Nat.reduceAdd,Nat.reduceLeDiff,s_spec_l9AllParts_L0,q0,q1,ix,a.dl,a.ia (row:= TIndex.row) (sz:= 3) rfl,hp,a.hw,TDef.row,TIndex.row,h1,hce y.fParts (n6 y a.mem).2]
  · rintro pre y rest e h a hp ⟨q0,q1,ix⟩
    simp only [go_sem,Nat.reduceBEq,Nat.reduceAdd,Nat.reduceLeDiff,s_spec_l9AllParts_L0,q0,q1,ix,a.dl,a.ia (row:= TIndex.row) (sz:= 3) rfl,hp,a.hw,TDef.row,TIndex.row,h1,hce y.fParts (n6 y a.mem).2]
  · rintro e h ⟨q0,q1,ix⟩
    simp only [go_sem,Nat.reduceBEq,Nat.reduceAdd,Nat.reduceLeDiff,s_spec_l9AllParts_L0,q0,q1,ix,TDef.row]
  · simp only [go_sem,Nat.reduceBEq,TDef.row]
  · rintro x e h (⟨hp,rfl,j0,j1⟩ | ⟨hp,rfl,j⟩)
    · rw [allP_all] at hp
      simp only [go_sem,Nat.reduceBEq,Nat.reduceAdd,Nat.reduceLeDiff,j0,j1,TDef.row,h1,hce v.fPrimary n3,defParts,hp]
    · rw [allP_all] at hp
      simp only [go_sem,j,defParts,hp]
noncomputable def C_spec_CheckDef:= c1 tDef (fun (v : TDef) => tDef.cost v ≤ 1048576) ((.int .i64)) fun (v : TDef) => checkDef v
theorem C_spec_CheckDef_eq (v : TDef) (h : tDef.cost v ≤ 1048576) : C_spec_CheckDef [.agg [.str v.fName,.imm (v.fCols.map TCol.row),.imm (v.fPrimary.map TBy.row),.imm (v.fIndexes.map TIndex.row)]] = some (.int .i64 ((checkDef v))):= c1_eq tDef h
theorem ok_spec_CheckDef {WI : World → Prop} (hs : Stable WI) (cs) (hT : TOK (EE cs) WI) (h1 : (EE cs).T 157 = some C_spec_l9Names) (h2 : (EE cs).T 158 = some C_spec_l9Types) (h3 : (EE cs).T 159 = some C_spec_l9Once) (h4 : (EE cs).T 160 = some C_spec_l9AllParts) : PureOK Tryz.prog WI 109 C_spec_CheckDef:= by
  refine pure1 (E:= EE cs) hT hs (by rw [st_spec_CheckDef];rfl) fun v hp => out_wp (n:= 0) (st_spec_CheckDef cs) ?_
  obtain ⟨n1,n2,n3,n4,n5,n6⟩:= defLens hp
  have c1 : C_spec_l9Names [.agg [.str v.fName,.imm (v.fCols.map TCol.row),.imm (v.fPrimary.map TBy.row),.imm (v.fIndexes.map TIndex.row)]] = some (.bool (defNames v)):= C_spec_l9Names_eq v hp
  have c2 : C_spec_l9Types [.agg [.str v.fName,.imm (v.fCols.map TCol.row),.imm (v.fPrimary.map TBy.row),.imm (v.fIndexes.map TIndex.row)]] = some (.bool (defTypes v)):= C_spec_l9Types_eq v hp
  have c3 : C_spec_l9Once [.agg [.str v.fName,.imm (v.fCols.map TCol.row),.imm (v.fPrimary.map TBy.row),.imm (v.fIndexes.map TIndex.row)]] = some (.bool (defOnce v)):= C_spec_l9Once_eq v hp
  have c4 : C_spec_l9AllParts [.agg [.str v.fName,.imm (v.fCols.map TCol.row),.imm (v.fPrimary.map TBy.row),.imm (v.fIndexes.map TIndex.row)]] = some (.bool (defParts v)):= C_spec_l9AllParts_eq v hp
  cases d1 : defNames v
  · simp only [go_sem,Nat.reduceBEq,Nat.reduceAdd,s_spec_CheckDef,TDef.row,h1,c1,d1,checkDef]
  cases d2 : defTypes v
  · simp only [go_sem,Nat.reduceBEq,Nat.reduceAdd,s_spec_CheckDef,TDef.row,h1,c1,d1,h2,c2,d2,checkDef,Bool.true_eq_false]
  cases d3 : defOnce v
  · simp only [go_sem,Nat.reduceBEq,Nat.reduceAdd,Nat.reduceLeDiff,s_spec_CheckDef,TDef.row,h1,c1,d1,h2,c2,d2,h3,c3,d3,checkDef,Bool.true_eq_false]
  by_cases d4 : (2 : Int) < v.fIndexes.length
  · simp only [go_sem,Nat.reduceBEq,Nat.reduceAdd,Nat.reduceLeDiff,s_spec_CheckDef,TDef.row,h1,c1,d1,h2,c2,d2,h3,c3,d3,d4,checkDef,Bool.true_eq_false]
  cases d5 : defParts v
  · simp only [go_sem,Nat.reduceBEq,Nat.reduceAdd,Nat.reduceLeDiff,s_spec_CheckDef,TDef.row,h1,c1,d1,h2,c2,d2,h3,c3,d3,d4,h4,c4,d5,checkDef,Bool.true_eq_false]
  simp only [go_sem,Nat.reduceBEq,Nat.reduceAdd,Nat.reduceLeDiff,s_spec_CheckDef,TDef.row,h1,c1,d1,h2,c2,d2,h3,c3,d3,d4,h4,c4,d5]
  refine (wl_all (l:= v.fPrimary) (fun pre p => !(colNull v p.fCol)) (fun pre e h => e 1 = .ptr 0 0 ∧ h.hp 0 = some v.row ∧ e 3 = .int .i64 pre.length) (.exit 1) (fun e h => e 1 = .ptr 0 0 ∧ h.hp 0 = some v.row) (fun e h => e 2 = .int .i64 4) (by omega) ?_ ?_ ?_ (by simp) v.fPrimary [] _ _ rfl ?_).mono ?_
  · rintro pre p rest e h a hp ⟨q0,q1,ix⟩
    obtain ⟨z1,z2⟩:= parts_col (v:= v) (l:= v.fPrimary) (by unfold defParts at d5;simp only [Bool.and_eq_true] at d5;exact d5.2) p a.mem
    obtain ⟨c,hc⟩ : ∃ c,v.fCols[p.fCol.toNat]? = some c:= ⟨_,List.getElem?_eq_getElem z2⟩
    have hq : c.fNull = false:= by simpa [colNull,hc] using hp
    simp only [go_sem,Nat.reduceBEq,Nat.reduceAdd,Nat.reduceLeDiff,s_spec_CheckDef_L0,q0,q1,ix,a.dl,a.ia (row:= TBy.row) (sz:= 2) rfl,a.hw,TDef.row,TBy.row,TCol.row,kIa_nth (row:= TCol.row) (sz:= 3) z1 hc rfl,hq]
  · rintro pre p rest e h a hp ⟨q0,q1,ix⟩
    obtain ⟨z1,z2⟩:= parts_col (v:= v) (l:= v.fPrimary) (by unfold defParts at d5;simp only [Bool.and_eq_true] at d5;exact d5.2) p a.mem
    obtain ⟨c,hc⟩ : ∃ c,v.fCols[p.fCol.toNat]? = some c:= ⟨_,List.getElem?_eq_getElem z2⟩
    have hq : c.fNull = true:= by simpa [colNull,hc] using hp
    simp only [go_sem,Nat.reduceBEq,Nat.reduceAdd,Nat.reduceLeDiff,s_spec_CheckDef_L0,q0,q1,ix,a.dl,a.ia (row:= TBy.row) (sz:= 2) rfl,a.hw,TDef.row,TBy.row,TCol.row,kIa_nth (row:= TCol.row) (sz:= 3) z1 hc rfl,hq]
  · rintro e h ⟨q0,q1,ix⟩
    simp only [go_sem,Nat.reduceBEq,Nat.reduceAdd,Nat.reduceLeDiff,s_spec_CheckDef_L0,q0,q1,ix,TDef.row]
  · simp only [go_sem,Nat.reduceBEq,TDef.row]
  · rintro x e h (⟨hp,rfl,j0,j1⟩ | ⟨hp,rfl,j⟩)
    · rw [allP_all] at hp
      simp only [go_sem,checkDef,primNull,d1,d2,d3,d4,d5,hp,Bool.true_eq_false]
    · rw [allP_all] at hp
      simp only [go_sem,j,checkDef,primNull,d1,d2,d3,d4,d5,hp,Bool.true_eq_false]
noncomputable def C_spec_FirstBad:= c1 (sliceT tDef) (fun (s : List (TDef)) => (sliceT tDef).cost s ≤ 1048576) ((.int .i64)) fun (s : List (TDef)) => firstBad s
theorem C_spec_FirstBad_eq (s : List (TDef)) (h : (sliceT tDef).cost s ≤ 1048576) : C_spec_FirstBad [.imm (s.map TDef.row)] = some (.int .i64 ((firstBad s))):= c1_eq (sliceT tDef) h
theorem ok_spec_FirstBad {WI : World → Prop} (hs : Stable WI) (cs) (hT : TOK (EE cs) WI) (h1 : (EE cs).T 109 = some C_spec_CheckDef) : PureOK Tryz.prog WI 59 C_spec_FirstBad:= by
  refine pure1 (E:= EE cs) hT hs (by rw [st_spec_FirstBad];rfl) fun s hp => out_wp (n:= 0) (st_spec_FirstBad cs) ?_
  obtain ⟨n1,n2⟩:= defsLens hp
  have inner : ∀ pre c rest,At s pre c rest → ∀ e h,e 0 = .imm (s.map TDef.row) → e 3 = .int .i64 pre.length → e 4 = .int .i64 0 → WL (EE cs) s_spec_FirstBad_L0 e h fun x e' h' => (pre.all (fun y => !(y.fName == c.fName)) = true ∧ x = .exit 2 ∧ e' 0 = .imm (s.map TDef.row) ∧ e' 3 = .int .i64 pre.length) ∨ (pre.all (fun y => !(y.fName == c.fName)) = false ∧ x = .ret ∧ e' 2 = .int .i64 pre.length):= by
    intro pre0 c rest0 a0 e h k0 k3 k4
    refine (wl_all (l:= pre0) (fun pre y => !(y.fName == c.fName)) (fun pre e h => e 0 = .imm (s.map TDef.row) ∧ e 3 = .int .i64 pre0.length ∧ e 4 = .int .i64 pre.length) (.exit 2) (fun e h => e 0 = .imm (s.map TDef.row) ∧ e 3 = .int .i64 pre0.length) (fun e h => e 2 = .int .i64 pre0.length) (by have:= a0.lt;omega) ?_ ?_ ?_ (by simp) pre0 [] _ _ rfl ?_).mono ?_
    · rintro pre y rest e h a hp ⟨q0,q1,ix⟩
      have hl2 : s = pre ++ y :: (rest ++ c :: rest0):= by rw [a0.hl,a.hl];simp
      have hq : (y.fName == c.fName) = false:= by simpa using hp
      simp only [go_sem,Nat.reduceBEq,s_spec_FirstBad_L0,q0,q1,ix,a.dl,a.hw,TDef.row,kIa_map (row:= TDef.row) (sz:= 4) hl2 rfl,a0.ia (row:= TDef.row) (sz:= 4) rfl,hq]
    · rintro pre y rest e h a hp ⟨q0,q1,ix⟩
      have hl2 : s = pre ++ y :: (rest ++ c :: rest0):= by rw [a0.hl,a.hl];simp
      have hq : (y.fName == c.fName) = true:= by simpa using hp
      simp only [go_sem,Nat.reduceBEq,s_spec_FirstBad_L0,q0,q1,ix,a.dl,a.hw,TDef.row,kIa_map (row:= TDef.row) (sz:= 4) hl2 rfl,a0.ia (row:= TDef.row) (sz:= 4) rfl,hq]
    · rintro e h ⟨q0,q1,ix⟩
      simp only [go_sem,Nat.reduceBEq,s_spec_FirstBad_L0,q0,q1,ix]
    · simp only [go_sem,k0,k3,k4]
    · rintro x e' h' (⟨hp,rfl,j0,j1⟩ | ⟨hp,rfl,j⟩)
      · rw [allP_all] at hp
        exact .inl ⟨hp,rfl,j0,j1⟩
      · rw [allP_all] at hp
        exact .inr ⟨hp,rfl,j⟩
  simp only [go_sem,s_spec_FirstBad]
  refine (wl_early (l:= s) (fun pre d => firstF pre d) (fun pre e h => e 0 = .imm (s.map TDef.row) ∧ e 3 = .int .i64 pre.length) (.exit 0) (fun e h => e 0 = .imm (s.map TDef.row)) (fun b e h => e 2 = .int .i64 b) (by omega) ?_ ?_ ?_ (by simp) s [] _ _ rfl ?_).mono ?_
  · rintro pre d rest e h a hp ⟨q0,ix⟩
    have hc : C_spec_CheckDef [.agg [.str d.fName,.imm (d.fCols.map TCol.row),.imm (d.fPrimary.map TBy.row),.imm (d.fIndexes.map TIndex.row)]] = some (.int .i64 (checkDef d)):= C_spec_CheckDef_eq d (n2 d a.mem)
    obtain ⟨f1,f2,f3⟩:= firstF_none hp
    have f2' : decide ((2 : Int) < (pre.length : Int)) = false:= decide_eq_false f2
    have f1' : (checkDef d != 0) = false:= by simp [f1]
    all_goals simp only [go_sem,Nat.reduceBEq,Nat.reduceAdd,s_spec_FirstBad_L1,q0,ix,a.dl,a.ia (row:= TDef.row) (sz:= 4) rfl,TDef.row,h1,hc,f1',f2']
    refine (inner pre d rest a _ _ (by simp only [go_sem,Nat.reduceBEq,q0]) (by simp only [go_sem,Nat.reduceBEq,ix]) (by simp only [go_sem,Nat.reduceBEq])).mono ?_
    rintro x e' h' (⟨hq,rfl,k0,k1⟩ | ⟨hq,rfl,k⟩)
    · simp only [go_sem,Nat.reduceBEq,k0,k1,a.hw]
    · rw [f3] at hq;cases hq
  · rintro pre d rest b e h a hp ⟨q0,ix⟩
    have hc : C_spec_CheckDef [.agg [.str d.fName,.imm (d.fCols.map TCol.row),.imm (d.fPrimary.map TBy.row),.imm (d.fIndexes.map TIndex.row)]] = some (.int .i64 (checkDef d)):= C_spec_CheckDef_eq d (n2 d a.mem)
    obtain ⟨rfl,hcase⟩:= firstF_some hp
    cases f1 : (checkDef d != 0) <;> cases f2 : decide ((2 : Int) < (pre.length : Int))
    all_goals simp only [go_sem,Nat.reduceBEq,Nat.reduceAdd,s_spec_FirstBad_L1,q0,ix,a.dl,a.ia (row:= TDef.row) (sz:= 4) rfl,TDef.row,h1,hc,f1,f2]
    refine (inner pre d rest a _ _ (by simp only [go_sem,Nat.reduceBEq,q0]) (by simp only [go_sem,Nat.reduceBEq,ix]) (by simp only [go_sem,Nat.reduceBEq])).mono ?_
    have hc3:= hcase f1 (of_decide_eq_false f2)
    rintro x e' h' (⟨hq,rfl,k0,k1⟩ | ⟨hq,rfl,k⟩)
    · rw [hc3] at hq;cases hq
    · simp only [go_sem,k]
  · rintro e h ⟨q0,ix⟩
    simp only [go_sem,Nat.reduceBEq,s_spec_FirstBad_L1,q0,ix]
  · simp only [go_sem,Nat.reduceBEq,and_self]
  · intro x e h hx
    cases he : earlyL firstF [] s with
    | none =>
      rw [he] at hx
      obtain ⟨rfl,j0⟩:= hx
      simp only [go_sem,firstBad,he,Option.getD_none]
    | some k =>
      rw [he] at hx
      obtain ⟨rfl,j⟩:= hx
      simp only [go_sem,j,firstBad,he]
theorem LK0_spec_ParseDefs (cs) (h8 : (EE cs).T 155 = some C_spec_l9Type) (h9 : (EE cs).T 156 = some C_spec_l9Col) {l : List TToken} (hl : l.length ≤ 1000) (htk : ∀ t ∈ l,tokOk t = true) {Q : QS} :
    ∀ (m : Nat) (acc : List TDef) (s : St) (e : Ps) (h : Hp),(l.length + 2 ≤ s.at_ + m ∨ (s.bad = true ∧ 1 ≤ m)) → s.at_ ≤ l.length → acc.length + m ≤ 2000 → e 6 = .ptr 0 0 → 0 < h.nx → h.hp 0 = some (rdC l s) → grows tDef acc (e 7) h →
    (∀ e' h',e' 6 = .ptr 0 0 → h'.hp 0 = some (rdC l (defsF l (colS l) colAt (l.length + 2) m acc s).2) → grows tDef (defsF l (colS l) colAt (l.length + 2) m acc s).1 (e' 7) h' → Q (.exit 0) e' h') → WL (EE cs) s_spec_ParseDefs_L0 e h Q:= by
  intro m
  induction m with
  | zero =>
    intro acc s e h hm hs
    omega
  | succ m ih =>
    intro acc s e h hm hsl ha e6 hnx hr gx hq
    have hr0:= hr
    unfold rdC at hr
    cases hbad : s.bad with
    | true =>
      rw [hbad] at hr
      have e1 : defsF l (colS l) colAt (l.length + 2) (m + 1) acc s = (acc,s):= by simp only [defsF,hbad,if_true]
      rw [e1] at hq
      refine .step (wp_sound _ _ _ _ ?_)
      simp only [go_sem,Nat.reduceBEq,Nat.reduceAdd,Nat.reduceLeDiff,s_spec_ParseDefs_L0,e6,hr]
      exact hq _ _ (by simp only [go_sem,Nat.reduceBEq,e6]) hr0 (by simp only [go_sem,Nat.reduceBEq];exact gx)
    | false =>
      have hm' : l.length + 2 ≤ s.at_ + (m + 1):= by rcases hm with h | ⟨h,_⟩;exact h;rw [hbad] at h;cases h
      rw [hbad] at hr
      by_cases hlt : s.at_ < l.length
      · have hd : (s.at_ : Int) < (l.length : Int):= by omega
        have e1 : defsF l (colS l) colAt (l.length + 2) (m + 1) acc s = defsF l (colS l) colAt (l.length + 2) m (acc ++ [(defF l (colS l) colAt (l.length + 2) s).1]) (defF l (colS l) colAt (l.length + 2) s).2:= by simp only [defsF,hbad,Bool.false_eq_true,if_false,hlt,if_true]
        rw [e1] at hq
        obtain ⟨n,c1,c2,c3,h1,k1,kn,s1,s2,s3,k2⟩:= rk_spec_l10Def cs h8 h9 hl htk 0 s h hsl hr0 hnx
        obtain ⟨ds,dg⟩:= stp_def htk (colR_S htk) colAt (l.length + 2) s
        refine .step (wp_sound _ _ _ _ ?_)
        simp only [go_sem,Nat.reduceBEq,Nat.reduceAdd,Nat.reduceLeDiff,s_spec_ParseDefs_L0,e6,hr,hd]
        refine hP_call k1 ?_
        have x1 : h.nx ≤ h1.nx:= k2.nx
        generalize (defF l (colS l) colAt (l.length + 2) s).1 = d at *
        generalize (defF l (colS l) colAt (l.length + 2) s).2 = s' at *
        have g0 : ¬ 0 = h1.nx:= by omega
        have fr : fillR (List.replicate 1 [AV.str [],.snil,.snil,.snil]) 4 [(0,.agg [.str n,c1,c2,c3])] = some [[.str n,c1,c2,c3]]:= by simp [fillR,ag_agg,cl_agg]
        have fz : frzRows [[AV.str n,c1,c2,c3]] = some [d.row]:= by
          have a1:= s1.1
          have a2:= s2.1
          have a3:= s3.1
          simp only [frzRows,frzCells,a1,a2,a3,kn]
          rfl
        simp only [go_sem,kSt_ptr,Nat.reduceBEq,Nat.reduceAdd,s1.2,s2.2,s3.2,fr,fz]
        refine hP_grow (T:= tDef) (l:= acc) [d] rfl (gx.mono (by simp only [];omega) fun q hq => by have g : ¬ q = h1.nx + 1:= (by omega);simp only [g,if_false];exact k2.ap q hq) rfl (by simp only [List.length_cons,List.length_nil];unfold room;omega) ?_
        intro v' h3 w1 w2 w3 w4
        simp only [go_sem,Nat.reduceBEq]
        refine ih (acc ++ [d]) s' _ h3 ?_ (ds.inn hsl) (by simp;omega) (by simp only [go_sem,Nat.reduceBEq,e6]) ?_ ?_ (by simp only [go_sem,Nat.reduceBEq];exact w1) hq
        · cases hb' : s'.bad with
          | true => exact .inr ⟨rfl,by omega⟩
          | false => have:= (dg hb').1;exact .inl (by omega)
        · have : h1.nx + 1 + 1 ≤ h3.nx:= w3
          omega
        · rw [congrFun w2 0]
          simp only [g0,if_false]
          exact k2.at_
      · have hd : ¬ (s.at_ : Int) < (l.length : Int):= by omega
        have e1 : defsF l (colS l) colAt (l.length + 2) (m + 1) acc s = (acc,s):= by simp only [defsF,hbad,Bool.false_eq_true,if_false,hlt]
        rw [e1] at hq
        refine .step (wp_sound _ _ _ _ ?_)
        simp only [go_sem,Nat.reduceBEq,Nat.reduceAdd,Nat.reduceLeDiff,s_spec_ParseDefs_L0,e6,hr,hd]
        exact hq _ _ (by simp only [go_sem,Nat.reduceBEq,e6]) hr0 (by simp only [go_sem,Nat.reduceBEq];exact gx)
noncomputable def C_spec_ParseDefs:= c1 strT (fun (s : List UInt8) => s.length ≤ 1048576) (fun x => .tup [.imm (x.1.map TDef.row),.bool x.2]) fun (s : List UInt8) => parseDefs s
theorem C_spec_ParseDefs_eq (s : List UInt8) (h : s.length ≤ 1048576) : C_spec_ParseDefs [.str s] = some (.tup [.imm (((parseDefs s).1).map TDef.row),.bool ((parseDefs s).2)]):= c1_eq strT h
theorem ok_spec_ParseDefs {WI : World → Prop} (hs : Stable WI) (cs) (hT : TOK (EE cs) WI) (h1 : (EE cs).T 57 = some C_spec_Lex) (h2 : (EE cs).T 155 = some C_spec_l9Type) (h3 : (EE cs).T 156 = some C_spec_l9Col) (h4 : (EE cs).T 59 = some C_spec_FirstBad) : PureOK Tryz.prog WI 27 C_spec_ParseDefs:= by
  refine pure1 (E:= EE cs) hT hs (by rw [st_spec_ParseDefs];rfl) fun s hp => out_wp (n:= 1) (st_spec_ParseDefs cs) ?_
  have c1:= C_spec_Lex_eq s hp
  obtain ⟨l1,l2⟩:= lexP_ok s
  unfold parseDefs
  generalize lexP s = lx at *
  obtain ⟨l,p⟩:= lx
  simp only at c1 l1 l2 ⊢
  by_cases hp1 : p = -1
  · have b1 : (p != -1) = false:= by simp [hp1]
    rw [if_neg (fun h => h hp1)]
    have fs : sFill [.snil,.int .i64 0,.bool false] [(0,1,.imm (l.map TToken.row)),(2,1,.bool false)] = some [AV.imm (l.map TToken.row),.int .i64 0,.bool false]:= rfl
    simp only [go_sem,Nat.reduceBEq,Nat.reduceAdd,s_spec_ParseDefs,h1,c1,b1,fs,rep0,fill0,frz0]
    refine LK0_spec_ParseDefs cs h2 h3 (by omega) l1 (l.length + 2) [] ⟨0,false⟩ _ _ (.inl (by simp)) (Nat.zero_le _) (by simp only [List.length_nil];omega) (by simp only [go_sem,Nat.reduceBEq]) (by simp) (by simp [rdC]) (by simp only [go_sem,Nat.reduceBEq];exact .inr ⟨1,rfl,by simp;rfl,by simp⟩) ?_
    intro e' h' a6 hr gx
    have hps : defsF l (colS l) colAt (l.length + 2) (l.length + 2) [] ⟨0,false⟩ = parsedS l:= rfl
    have hcost:= parsed_cost l1 l2 (colR_S l1) colAt (l.length + 2) (l.length + 2)
    rw [hps] at hr gx hcost
    generalize parsedS l = ps at *
    obtain ⟨ds,st⟩:= ps
    unfold rdC at hr
    unfold parseOut
    simp only at hr gx hcost ⊢
    cases hb : st.bad with
    | true =>
      rw [hb] at hr
      rw [if_pos (.inl rfl)]
      simp only [go_sem,Nat.reduceBEq,Nat.reduceAdd,Nat.reduceLeDiff,a6,hr,rep0,fill0,frz0]
    | false =>
      rw [hb] at hr
      have c4:= C_spec_FirstBad_eq ds (by have:= hcost hb;omega)
      have fg:= frz_grows gx
      by_cases hf : firstBad ds = -1
      · have b2 : (firstBad ds != -1) = false:= by simp [hf]
        rw [if_neg (fun h => h.elim (fun h => by cases h) fun h => h hf)]
        rcases gx with ⟨rfl,gv⟩ | ⟨id,gv,_,_⟩
        · rw [gv] at fg
          simp only [List.map_nil] at c4 fg
          simp only [go_sem,Nat.reduceBEq,Nat.reduceAdd,Nat.reduceLeDiff,a6,hr,h4,gv,fg,c4,b2]
        · rw [gv] at fg
          simp only [go_sem,Nat.reduceBEq,Nat.reduceAdd,Nat.reduceLeDiff,a6,hr,h4,gv,c4,b2]
      · have b2 : (firstBad ds != -1) = true:= by simp [hf]
        rw [if_pos (.inr hf)]
        rcases gx with ⟨rfl,gv⟩ | ⟨id,gv,_,_⟩
        · rw [gv] at fg
          simp only [List.map_nil] at c4 fg
          simp only [go_sem,Nat.reduceBEq,Nat.reduceAdd,Nat.reduceLeDiff,a6,hr,h4,gv,fg,c4,b2,rep0,fill0,frz0]
        · rw [gv] at fg
          simp only [go_sem,Nat.reduceBEq,Nat.reduceAdd,Nat.reduceLeDiff,a6,hr,h4,gv,c4,b2,rep0,fill0,frz0]
  · have b1 : (p != -1) = true:= by simp [hp1]
    rw [if_pos hp1]
    have fs : sFill [.snil,.int .i64 0,.bool false] [(0,1,.imm (l.map TToken.row)),(2,1,.bool true)] = some [AV.imm (l.map TToken.row),.int .i64 0,.bool true]:= rfl
    simp only [go_sem,Nat.reduceBEq,Nat.reduceAdd,s_spec_ParseDefs,h1,c1,b1,fs,rep0,fill0,frz0]
    refine LK0_spec_ParseDefs cs h2 h3 (by omega) l1 1 [] ⟨0,true⟩ _ _ (.inr ⟨rfl,Nat.le_refl _⟩) (Nat.zero_le _) (by simp only [List.length_nil];omega) (by simp only [go_sem,Nat.reduceBEq]) (by simp) (by simp [rdC]) (by simp only [go_sem,Nat.reduceBEq];exact .inr ⟨1,rfl,by simp;rfl,by simp⟩) ?_
    intro e' h' a6 hr gx
    have hb : (defsF l (colS l) colAt (l.length + 2) 1 [] ⟨0,true⟩).2 = ⟨0,true⟩:= by simp [defsF]
    rw [hb] at hr
    unfold rdC at hr
    simp only [go_sem,Nat.reduceBEq,Nat.reduceAdd,Nat.reduceLeDiff,a6,hr,rep0,fill0,frz0]
end Go.Proofs.YtpolhafmapekpaaGreatDoor.En
namespace Go.Proofs.YtpolhafmapekpaaGreatDoor.En
open Go Go.RowKit Go.Ev
set_option maxHeartbeats 1600000
def putPage (k : Int) (body : List UInt8) : List UInt8:= if inR k 1 2 = true ∧ body.length ≤ 240 then withSum (uenc (clampN k) ++ utext body) else []
theorem withSum_len (b : List UInt8) : (withSum b).length = b.length + 4:= by unfold withSum;rw [List.length_append];rfl
theorem OwS.owE0 {α : Type} (T : TD α) {h : Hp} : OwE h .snil (.imm (([] : List α).map T.row)):= (OwS.nil 0 T (lo:= 0) (hi:= 0) (Nat.le_refl _) (Nat.zero_le _)).owI.owE (by decide)
theorem asR_imm (r : List (List AV)) : asRows (.imm r) = some r:= rfl
def metaOk (m : TMeta) : Bool:= inR m.fGen 0 1000000 && (m.fRoot == 0 || inR m.fRoot 2 47)
def metaBody (m : TMeta) : List UInt8:= uenc (clampN m.fGen) ++ uenc (clampN m.fRoot)
def putMeta (m : TMeta) : List UInt8:= if metaOk m = true then putPage 2 (metaBody m) else []
end Go.Proofs.YtpolhafmapekpaaGreatDoor.En
namespace Go.Proofs.YtpolhafmapekpaaGreatDoor.En
open Go Go.RowKit Go.Ev
set_option maxHeartbeats 1600000
def prevLt (pre : List TFault) (f : TFault) : Bool:= match pre.getLast? with
  | none => true
  | some p => decide (p.fAt < f.fAt)
def faultP (pre : List TFault) (f : TFault) : Bool:= inR f.fAt 0 100000 && (inR f.fKeep 0 1048575 && (inR f.fCut 0 256 && prevLt pre f))
def faultsOk (l : List TFault) : Bool:= allP faultP [] l && decide (l.length ≤ 20)
def writeP (n : Nat) (w : TWrite) : Bool:= inR w.fN 0 ((n : Int) - 1) && decide (w.fB.length ≤ 256)
def secsOk (l : List (List UInt8)) : Bool:= l.all fun b => decide (b.length ≤ 256)
def diskOk (d : TDisk) : Bool:= secsOk d.fSecs && (d.fCache.all (writeP d.fSecs.length) && (inR d.fSecs.length 4 48 && (decide (d.fCache.length ≤ 60) && (inR d.fOps 0 100000 && (faultsOk d.fFaults && (!d.fDown || decide (d.fCache.length = 0)))))))
theorem prev_cases {l pre rest : List TFault} {f : TFault} (hl : l = pre ++ f :: rest) : (decide ((0 : Int) < (pre.length : Int)) = false ∧ prevLt pre f = true) ∨ (decide ((0 : Int) < (pre.length : Int)) = true ∧ 0 < pre.length ∧ ∃ p,l[((pre.length : Int) - 1).toNat]? = some p ∧ prevLt pre f = decide (p.fAt < f.fAt)):= by
  rcases List.eq_nil_or_concat pre with rfl | ⟨q,p,rfl⟩
  · exact .inl ⟨rfl,rfl⟩
  · right
    have h1 : (q.concat p).length = q.length + 1:= by simp
    refine ⟨decide_eq_true (by omega),by omega,p,?_,?_⟩
    · rw [h1,show (((q.length + 1 : Nat) : Int) - 1).toNat = q.length by omega,hl]
      simp
    · simp [prevLt]
theorem diskLens {d : TDisk} (h : tDisk.cost d ≤ 4194304) : d.fSecs.length ≤ 4194304 ∧ d.fCache.length ≤ 4194304 ∧ d.fFaults.length ≤ 4194304 ∧ (∀ b ∈ d.fSecs,b.length ≤ 4194304) ∧ ∀ w ∈ d.fCache,w.fB.length ≤ 4194304:= by
  have h0 : (d.fSecs.length + costL (sliceT u8T) d.fSecs) + (d.fCache.length + costL tWrite d.fCache) + (d.fFaults.length + costL tFault d.fFaults) ≤ 4194304:= h
  refine ⟨by omega,by omega,by omega,fun b hb => ?_,fun w hw => ?_⟩
  · have h1:= costL_mem (sliceT u8T) hb
    have h2 : (sliceT u8T).cost b = b.length + costL u8T b:= rfl
    omega
  · have h1:= costL_mem tWrite hw
    have h2 : tWrite.cost w = w.fB.length + costL u8T w.fB:= rfl
    omega
noncomputable def C_spec_l12Faults:= c1 (sliceT tFault) (fun (l : List (TFault)) => l.length ≤ 4194304) (.bool) fun (l : List (TFault)) => faultsOk l
theorem C_spec_l12Faults_eq (l : List (TFault)) (h : l.length ≤ 4194304) : C_spec_l12Faults [.imm (l.map TFault.row)] = some (.bool ((faultsOk l))):= c1_eq (sliceT tFault) h
theorem ok_spec_l12Faults {WI : World → Prop} (hs : Stable WI) (cs) (hT : TOK (EE cs) WI) (h1 : (EE cs).T 62 = some C_spec_l1In) : PureOK Tryz.prog WI 63 C_spec_l12Faults:= by
  refine pure1 (E:= EE cs) hT hs (by rw [st_spec_l12Faults];rfl) fun l hp => out_wp (n:= 0) (st_spec_l12Faults cs) ?_
  have hl : l.length ≤ 4194304:= hp
  unfold faultsOk
  simp only [go_sem,s_spec_l12Faults]
  refine (wl_all (l:= l) (fun pre f => faultP pre f) (fun pre e h => e 0 = .imm (l.map TFault.row) ∧ e 3 = .int .i64 pre.length) (.exit 0) (fun e h => e 0 = .imm (l.map TFault.row)) (fun e h => e 2 = .bool false) (by omega) ?_ ?_ ?_ (by simp) l [] _ _ rfl ?_).mono ?_
  · rintro pre f rest e h a hp ⟨q0,ix⟩
    unfold faultP at hp
    simp only [Bool.and_eq_true] at hp
    obtain ⟨c1,c2,c3,c4⟩:= hp
    have hlt:= a.lt
    rcases prev_cases a.hl with ⟨z0,z1⟩ | ⟨z0,z3,p,z1,z2⟩
    · simp only [go_sem,Nat.reduceBEq,s_spec_l12Faults_L0,q0,ix,a.dl,a.ia (row:= TFault.row) (sz:= 3) rfl,TFault.row,h1,C_spec_l1In_eq,c1,c2,c3,z0,a.hw]
      skip
    · have hw1 : IntKind.wrap .i64 ((pre.length : Int) - 1) = (pre.length : Int) - 1:= wrapId (by omega) (by omega)
      rw [z2] at c4
      have g4 : decide (f.fAt ≤ p.fAt) = false:= decide_eq_false (by have:= of_decide_eq_true c4;omega)
      simp only [go_sem,Nat.reduceBEq,s_spec_l12Faults_L0,q0,ix,a.dl,a.ia (row:= TFault.row) (sz:= 3) rfl,kIa_nth (row:= TFault.row) (sz:= 3) (by omega) z1 rfl,TFault.row,h1,C_spec_l1In_eq,c1,c2,c3,z0,hw1,g4,a.hw]
      skip
  · rintro pre f rest e h a hp ⟨q0,ix⟩
    have hlt:= a.lt
    cases c1 : inR f.fAt 0 100000 with
    | false => simp only [go_sem,Nat.reduceBEq,s_spec_l12Faults_L0,q0,ix,a.dl,a.ia (row:= TFault.row) (sz:= 3) rfl,TFault.row,h1,C_spec_l1In_eq,c1]
    | true =>
    cases c2 : inR f.fKeep 0 1048575 with
    | false => simp only [go_sem,Nat.reduceBEq,s_spec_l12Faults_L0,q0,ix,a.dl,a.ia (row:= TFault.row) (sz:= 3) rfl,TFault.row,h1,C_spec_l1In_eq,c1,c2]
    | true =>
    cases c3 : inR f.fCut 0 256 with
    | false => simp only [go_sem,Nat.reduceBEq,s_spec_l12Faults_L0,q0,ix,a.dl,a.ia (row:= TFault.row) (sz:= 3) rfl,TFault.row,h1,C_spec_l1In_eq,c1,c2,c3]
    | true =>
    have c4 : prevLt pre f = false:= by
      unfold faultP at hp
      rw [c1,c2,c3] at hp
      simpa using hp
    rcases prev_cases a.hl with ⟨z0,z1⟩ | ⟨z0,z3,p,z1,z2⟩
    · rw [z1] at c4;cases c4
    · have hw1 : IntKind.wrap .i64 ((pre.length : Int) - 1) = (pre.length : Int) - 1:= wrapId (by omega) (by omega)
      rw [z2] at c4
      have g4 : decide (f.fAt ≤ p.fAt) = true:= decide_eq_true (by have:= of_decide_eq_false c4;omega)
      simp only [go_sem,Nat.reduceBEq,s_spec_l12Faults_L0,q0,ix,a.dl,a.ia (row:= TFault.row) (sz:= 3) rfl,kIa_nth (row:= TFault.row) (sz:= 3) (by omega) z1 rfl,TFault.row,h1,C_spec_l1In_eq,c1,c2,c3,z0,hw1,g4]
  · rintro e h ⟨q0,ix⟩
    simp only [go_sem,Nat.reduceBEq,s_spec_l12Faults_L0,q0,ix]
  · simp only [go_sem,Nat.reduceBEq]
  · rintro x e h (⟨hpp,rfl,j⟩ | ⟨hpp,rfl,j⟩)
    · rw [hpp]
      by_cases h20 : l.length ≤ 20
      · have d1 : (l.length : Int) ≤ 20:= by omega
        simp only [go_sem,Nat.reduceBEq,j,d1,h20]
      · have d1 : ¬ (l.length : Int) ≤ 20:= by omega
        simp only [go_sem,Nat.reduceBEq,j,d1,h20]
    · rw [hpp]
      simp only [go_sem,j]
def noDisk : TDisk:= ⟨[],[],0,[],false⟩
def diskNew (n : Int) (l : List TFault) : TDisk:= if inR n 4 48 = true ∧ faultsOk l = true then ⟨List.replicate n.toNat [],[],0,l,false⟩ else noDisk
def format (n : Int) (l : List TFault) : TDisk:= ⟨(diskNew n l).fSecs.set 0 (putMeta ⟨0,0⟩),(diskNew n l).fCache,(diskNew n l).fOps,(diskNew n l).fFaults,(diskNew n l).fDown⟩
theorem inR_spec {x a b : Int} (h : inR x a b = true) : a ≤ x ∧ x ≤ b:= by unfold inR at h;simpa using h
theorem faults_len {l : List TFault} (h : faultsOk l = true) : l.length ≤ 20:= by
  unfold faultsOk at h
  simp only [Bool.and_eq_true,decide_eq_true_eq] at h
  exact h.2
theorem diskNew_ok (n : Int) (l : List TFault) (hn : inR n 4 48 = true) : diskOk ⟨List.replicate n.toNat [],[],0,l,false⟩ = faultsOk l:= by
  obtain ⟨h1,h2⟩:= inR_spec hn
  have e1 : secsOk (List.replicate n.toNat ([] : List UInt8)) = true:= by
    unfold secsOk
    rw [List.all_eq_true]
    intro b hb
    rw [(List.mem_replicate.1 hb).2]
    rfl
  have e2 : (((List.replicate n.toNat ([] : List UInt8)).length : Nat) : Int) = n:= by rw [List.length_replicate];omega
  have e3 : inR 0 0 100000 = true:= by decide
  unfold diskOk
  simp only [e1,e2,hn,e3,List.all_nil,List.length_nil,Bool.true_and,Bool.not_false,Bool.true_or,Bool.and_true]
  simp
theorem costF (l : List TFault) : costL tFault l = 0:= by
  induction l with
  | nil => rfl
  | cons x l ih => simp only [costL,ih];rfl
theorem costRep (n : Nat) : costL (sliceT u8T) (List.replicate n ([] : List UInt8)) = 0:= by
  induction n with
  | zero => rfl
  | succ n ih => rw [List.replicate_succ];simp only [costL,ih];rfl
theorem diskNew_cost {n : Int} {l : List TFault} (h : (sliceT tFault).cost l ≤ 1048576) (hn : inR n 4 48 = true) : tDisk.cost ⟨List.replicate n.toNat [],[],0,l,false⟩ ≤ 1048576 + 48:= by
  obtain ⟨h1,h2⟩:= inR_spec hn
  have h0 : l.length + costL tFault l ≤ 1048576:= h
  have e : tDisk.cost ⟨List.replicate n.toNat [],[],0,l,false⟩ = ((List.replicate n.toNat ([] : List UInt8)).length + costL (sliceT u8T) (List.replicate n.toNat ([] : List UInt8))) + 0 + (l.length + costL tFault l):= rfl
  rw [costRep,List.length_replicate] at e
  omega
theorem dfz_rep (h : Hp) : ∀ n : Nat,dfzL (Ev.dfz 1 h) (List.replicate n AV.snil) = some (((List.replicate n ([] : List UInt8)).map (sliceT u8T).row).flatten,[])
  | 0 => rfl
  | n + 1 => by
    rw [List.replicate_succ,List.replicate_succ,List.map_cons,List.flatten_cons]
    exact dfzL_cons (f:= Ev.dfz 1 h) (c:= .snil) (t:= .imm []) (R1:= []) rfl (dfz_rep h n)
theorem own_noDisk (h : Hp) : OwE h (.agg [.snil,.snil,.int .i64 0,.snil,.bool false]) (.agg noDisk.row):= by
  have a : ∀ lo,lo ≤ h.nx → OwA 1 lo lo h [.snil] [.imm []]:= fun lo hl => (OwS.nil 0 u8T (h:= h) (Nat.le_refl lo) hl).owA.1
  have A3:= OwA.leaf (OwA.nil 1 0 (h:= h) (Nat.zero_le _)) (c:= .bool false) rfl
  have A2:= (a 0 (Nat.zero_le _)).cat A3 (Nat.le_refl _)
  have A1:= OwA.leaf A2 (c:= .int .i64 0) rfl
  exact ((a 0 (Nat.zero_le _)).cat ((a 0 (Nat.zero_le _)).cat A1 (Nat.le_refl _)) (Nat.le_refl _)).owE (by decide)
theorem owA_catR {n lo hi lo' hi' : Nat} {h : Hp} {cs ts cs' ts' : List AV} (o : OwA n lo hi h cs ts) (o' : OwA n lo' hi' h cs' ts') (hl : hi' ≤ lo) : OwA n lo' hi h (cs ++ cs') (ts ++ ts'):= by
  obtain ⟨R,h1,h2,h3⟩:= o.ex
  obtain ⟨R',k1,k2,k3⟩:= o'.ex
  have a1:= o.lh
  have a2:= o'.lh
  refine ⟨by omega,o.le,R ++ R',dfzL_app h1 k1,List.nodup_append.2 ⟨h2,k2,fun a ha b hb e => ?_⟩,fun q hq => ?_⟩
  · subst e
    have:= h3 a ha
    have:= k3 a hb
    omega
  · rcases List.mem_append.1 hq with hq | hq
    · have:= h3 q hq;omega
    · have:= k3 q hq;omega
theorem own_secs {lo hi : Nat} {h : Hp} {d0 : AV} {ds ts : List AV} {b0 : List UInt8} {l : List (List UInt8)} (A : OwA 2 lo hi h (d0 :: ds) (.imm ((b0 :: l).map (sliceT u8T).row) :: ts)) : ∃ r c0 cs,d0 = .sl r 0 (l.length + 1) 1 ∧ h.hp r = some (c0 :: cs) ∧ cs.length = l.length ∧ lo ≤ r ∧ r < hi ∧
    (∀ (h' : Hp) (x : AV) (b : List UInt8) (lo' hi' : Nat),hi ≤ lo' → OwA 1 lo' hi' h' [x] [.imm (b.map u8T.row)] → h'.hp r = some (x :: cs) → (∀ q,lo ≤ q → q < hi → q ≠ r → h'.hp q = h.hp q) → OwA 2 lo hi' h' (d0 :: ds) (.imm ((b :: l).map (sliceT u8T).row) :: ts)) ∧
    (∀ (h' : Hp) (b : List UInt8),h'.hp r = some (.imm (b.map u8T.row) :: cs) → (∀ q,lo ≤ q → q < hi → q ≠ r → h'.hp q = h.hp q) → frzT 8 h' (.agg (d0 :: ds)) = some (.agg (.imm ((b :: l).map (sliceT u8T).row) :: ts))):= by
  obtain ⟨R,k1,k2,k3⟩:= A.ex
  have alh:= A.lh
  obtain ⟨R1,R2,k4,k5,rfl⟩:= dfzL_cons_inv k1
  rcases dfz_slice (T:= sliceT u8T) k4 with ⟨e,_⟩ | ⟨m,r,cs,R',hm,rfl,hr,hl,hd,rfl⟩
  · cases e
  have hm1 : m = 1:= by omega
  subst hm1
  cases cs with
  | nil => simp [sliceT] at hl
  | cons c0 cs =>
  have e0 : (((b0 :: l).map (sliceT u8T).row).flatten) = .imm (b0.map u8T.row) :: ((l.map (sliceT u8T).row).flatten):= rfl
  rw [e0] at hd
  obtain ⟨Rc,Rs,d1,d2,rfl⟩:= dfzL_cons_inv hd
  have hlen : cs.length = l.length:= by simp [sliceT] at hl;omega
  have kr:= k3 r (by simp)
  have nd : (r :: (Rs ++ R2)).Nodup:= k2.sublist (.cons_cons _ ((List.sublist_append_right Rc Rs).append_right R2))
  obtain ⟨nr,nd2⟩:= List.nodup_cons.1 nd
  have rS : ∀ q ∈ Rs ++ R2,lo ≤ q ∧ q < hi ∧ q ≠ r:= fun q hq => ⟨(k3 q (by simp at hq ⊢;rcases hq with h | h <;> simp [h])).1,(k3 q (by simp at hq ⊢;rcases hq with h | h <;> simp [h])).2,fun e => nr (e ▸ hq)⟩
  have fr : ∀ (h' : Hp),(∀ q,lo ≤ q → q < hi → q ≠ r → h'.hp q = h.hp q) → dfzL (Ev.dfz 1 h') cs = some ((l.map (sliceT u8T).row).flatten,Rs) ∧ dfzL (Ev.dfz 2 h') ds = some (ts,R2):= fun h' hq => by
    have hS : ∀ q ∈ Rs ++ R2,h'.hp q = h.hp q:= fun q h => hq q (rS q h).1 (rS q h).2.1 (rS q h).2.2
    exact ⟨dfzL_frame (S:= Rs ++ R2) (fun hd hs => dfz_frame (S:= Rs ++ R2) hS 1 hd hs) d2 (fun q hq => List.mem_append.2 (.inl hq)),dfzL_frame (S:= Rs ++ R2) (fun hd hs => dfz_frame (S:= Rs ++ R2) hS 2 hd hs) k5 (fun q hq => List.mem_append.2 (.inr hq))⟩
  refine ⟨r,c0,cs,rfl,hr,hlen,kr.1,kr.2,?_,?_⟩
  · intro h' x b lo' hi' hlo o hx hq
    obtain ⟨f1,f2⟩:= fr h' hq
    obtain ⟨Rx,x1,x2,x3⟩:= o.ex
    obtain ⟨Rx1,Rx2,x4,x5,rfl⟩:= dfzL_cons_inv x1
    obtain ⟨_,rfl⟩:= dfzL_nil_inv x5
    rw [List.append_nil] at x2 x3
    have olh:= o.lh
    have blk:= dfz_block (T:= sliceT u8T) (l:= b :: l) hx (by simp [sliceT];omega) (dfzL_cons x4 f1)
    refine ⟨by omega,o.le,(r :: (Rx1 ++ Rs)) ++ R2,dfzL_cons blk f2,?_,?_⟩
    · rw [List.cons_append,List.append_assoc,List.nodup_cons]
      refine ⟨fun hm => ?_,List.nodup_append.2 ⟨x2,nd2,fun a ha c hc e => ?_⟩⟩
      · rcases List.mem_append.1 hm with hm | hm
        · have:= (x3 r hm).1;omega
        · exact nr hm
      · have:= x3 a ha
        have:= rS c hc
        omega
    · intro q hq
      rw [List.cons_append,List.append_assoc] at hq
      rcases List.mem_cons.1 hq with rfl | hq
      · omega
      · rcases List.mem_append.1 hq with hq | hq
        · have:= x3 q hq;omega
        · have:= rS q hq;omega
  · intro h' b hx hq
    obtain ⟨f1,f2⟩:= fr h' hq
    have m1 : mapO (frzD 7 h') cs = some ((l.map (sliceT u8T).row).flatten):= mapO_dfzL (f':= frzD 7 h') (fun hd => dfz_frz 7 (dfz_up (by decide) hd)) f1
    have m2 : mapO (frzD 8 h') ds = some ts:= mapO_dfzL (f':= frzD 8 h') (fun hd => dfz_frz 8 (dfz_up (by decide) hd)) f2
    have m3 : mapO (frzD 7 h') (.imm (b.map u8T.row) :: cs) = some (((b :: l).map (sliceT u8T).row).flatten):= by
      have e1 : frzD 7 h' (.imm (b.map u8T.row)) = some (.imm (b.map u8T.row)):= rfl
      show ((frzD 7 h' (.imm (b.map u8T.row))).bind fun q => (mapO (frzD 7 h') cs).map fun l => q :: l) = _
      rw [e1,m1]
      rfl
    have m4:= mapO_chunk 1 (l.length + 1) m3
    have m5:= chunk_of_flat (sz:= 1) (rows:= (b :: l).map (sliceT u8T).row) ((sliceT u8T).rows_len (b :: l))
    rw [List.length_map,List.length_cons] at m5
    have m6 : frzD 8 h' (.sl r 0 (l.length + 1) 1) = some (.imm ((b :: l).map (sliceT u8T).row)):= by
      show ((h'.hp r).bind fun cs => if 0 + (l.length + 1) * 1 ≤ cs.length then (mapO (mapO (frzD 7 h')) (chunk 1 (cs.drop 0) (l.length + 1))).map AV.imm else none) = _
      rw [hx,Option.bind_some,List.drop_zero,if_pos (by simp;omega),m4,m5]
      rfl
    show (mapO (frzD 8 h') (.sl r 0 (l.length + 1) 1 :: ds)).map AV.agg = _
    show (((frzD 8 h' (.sl r 0 (l.length + 1) 1)).bind fun q => (mapO (frzD 8 h') ds).map fun l => q :: l)).map AV.agg = _
    rw [m6,m2]
    rfl
end Go.Proofs.YtpolhafmapekpaaGreatDoor.En
namespace Go.Proofs.YtpolhafmapekpaaGreatDoor.En
open Go Go.RowKit Go.Ev
set_option maxHeartbeats 1600000
theorem LK0_spec_DiskNew (cs) {n : Int} {P : Nat} {x z : AV} {H0 : Hp} (hn : n ≤ 48) {Q : QS} :
    ∀ (m k : Nat) (v : AV) (e : Ps) (h : Hp),m + k = n.toNat → e 0 = .int .i64 n → e 4 = z → e 5 = .ptr P 0 → e 6 = .int .i64 k → h.hp P = some [v,.snil,.int .i64 0,x,.bool false] → P < h.nx → H0.nx ≤ h.nx → (∀ q,q < P → h.hp q = H0.hp q) → OwS 1 (sliceT u8T) (P + 1) h.nx (List.replicate k []) v h →
    (∀ e' h' v',e' 4 = z → e' 5 = .ptr P 0 → H0.nx ≤ h'.nx → (∀ q,q < P → h'.hp q = H0.hp q) → h'.hp P = some [v',.snil,.int .i64 0,x,.bool false] → OwS 1 (sliceT u8T) (P + 1) h'.nx (List.replicate n.toNat []) v' h' → Q (.exit 0) e' h') → WL (EE cs) s_spec_DiskNew_L0 e h Q:= by
  intro m
  induction m with
  | zero =>
    intro k v e h hm e0 e4 e5 e6 hP hPn hN hF o hq
    have hk : k = n.toNat:= by omega
    subst hk
    refine .step (wp_sound _ _ _ _ ?_)
    have hd : ¬ ((n.toNat : Nat) : Int) < n:= by omega
    simp only [go_sem,Nat.reduceBEq,s_spec_DiskNew_L0,e0,e6,hd]
    exact hq _ _ v (by simp only [go_sem,Nat.reduceBEq,e4]) (by simp only [go_sem,Nat.reduceBEq,e5]) hN hF hP o
  | succ m ih =>
    intro k v e h hm e0 e4 e5 e6 hP hPn hN hF o hq
    refine .step (wp_sound _ _ _ _ ?_)
    have hd : (k : Int) < n:= by omega
    have hw : IntKind.wrap .i64 ((k : Int) + 1) = (k : Int) + 1:= wrapId (by omega) (by omega)
    obtain ⟨A0,cc,nc⟩:= (OwS.lit 0 u8T (h:= h)).owA
    have fr : fillR (List.replicate 1 [AV.snil]) 1 [(0,.sl h.nx 0 0 1)] = some [[.sl h.nx 0 0 1]]:= by simp [fillR,AV.cells,notCell]
    have f0 : fillR (List.replicate 0 [AV.int .u8 0]) 1 [] = some []:= rfl
    have g0 : ¬ h.nx = h.nx + 1:= by omega
    have gP : ¬ P = h.nx:= by omega
    have gP1 : ¬ P = h.nx + 1:= by omega
    simp only [go_sem,Nat.reduceBEq,s_spec_DiskNew_L0,e0,e5,e6,hd,hP,fr,f0,List.flatten_nil]
    refine hP_growA (T:= sliceT u8T) (lo':= h.nx) (hi':= h.nx + 1) [] rfl (o.mono (by simp only [];omega) fun q q1 q2 => by
      have g : ¬ q = h.nx + 1:= by omega
      have g' : ¬ q = h.nx:= by omega
      simp only [g,g',if_false]) (rowsIn_sl1 (cs:= [.sl h.nx 0 0 1]) (by simp) rfl) (A0.mono (by simp only [Hp.new];omega) fun q q1 q2 => by
      have g : ¬ q = h.nx + 1:= by omega
      simp [g,Hp.new]) (Nat.le_refl _) (by rw [List.length_replicate];unfold room;omega) ?_
    intro v' h3 w1 w2 w3 w4
    have x3 : h.nx + 1 + 1 ≤ h3.nx:= w2
    have hP3 : h3.hp P = some [v,.snil,.int .i64 0,x,.bool false]:= (w3 P (.inl (by omega)) (by simp only [];omega)).trans (by simp only [gP,gP1,if_false];exact hP)
    obtain ⟨A3,c3,n3⟩:= w1.owA
    simp only [go_sem,kSt_ptr,Nat.reduceBEq,Nat.reduceAdd,Nat.reduceLeDiff,e5,e6,hP3,c3,n3,hw]
    rw [← List.replicate_succ'] at w1
    refine ih (k + 1) v' _ _ (by omega) (by simp only [go_sem,Nat.reduceBEq,e0]) (by simp only [go_sem,Nat.reduceBEq,e4]) (by simp only [go_sem,Nat.reduceBEq,e5]) (by simp only [go_sem,Nat.reduceBEq] <;> simp) (by simp) (by simp only [];omega) (by simp only [];omega) (fun q hq => ?_) (w1.mono (by simp) fun q q1 q2 => by
      have g : ¬ q = P:= by omega
      simp only [g,if_false]) hq
    have g : ¬ q = P:= by omega
    have g1 : ¬ q = h.nx:= by omega
    have g2 : ¬ q = h.nx + 1:= by omega
    simp only [g,if_false]
    rw [w3 q (.inl (by omega)) (by simp only [];omega)]
    simp only [g1,g2,if_false]
    exact hF q hq
noncomputable def C_spec_DiskNew:= c2 intT (sliceT tFault) (fun (n : Int) (l : List (TFault)) => (sliceT tFault).cost l ≤ 1048576) (fun x => .agg (x).row) fun (n : Int) (l : List (TFault)) => diskNew n l
theorem C_spec_DiskNew_eq (n : Int) (l : List (TFault)) (h : (sliceT tFault).cost l ≤ 1048576) : C_spec_DiskNew [.int .i64 n,.imm (l.map TFault.row)] = some (.agg (((diskNew n l))).row):= c2_eq intT (sliceT tFault) h
theorem ok_spec_DiskNew {WI : World → Prop} (hs : Stable WI) (cs) (hT : TOK (EE cs) WI) (h1 : (EE cs).T 62 = some C_spec_l1In) (h2 : (EE cs).T 63 = some C_spec_l12Faults) : OwnOK Tryz.prog WI 60 C_spec_DiskNew:= by
  refine own2 (E:= EE cs) hT hs (by rw [st_spec_DiskNew];rfl) fun n l hp => outO_wp (st_spec_DiskNew cs) ?_
  have hcl : l.length + costL tFault l ≤ 1048576:= hp
  have fs0 : sFill [.snil,.snil,.int .i64 0,.snil,.bool false] [] = some [AV.snil,.snil,.int .i64 0,.snil,.bool false]:= rfl
  have c2:= C_spec_l12Faults_eq l (by omega)
  unfold diskNew
  cases hn : inR n 4 48 with
  | false =>
    rw [if_neg (fun h => by cases h.1)]
    simp only [go_sem,kSt_ptr,Nat.reduceBEq,Nat.reduceAdd,s_spec_DiskNew,h1,C_spec_l1In_eq,hn,fs0]
    exact own_noDisk _
  | true =>
    obtain ⟨n1,n2⟩:= inR_spec hn
    cases hf : faultsOk l with
    | false =>
      rw [if_neg (fun h => by cases h.2)]
      rw [hf] at c2
      simp only [go_sem,kSt_ptr,Nat.reduceBEq,Nat.reduceAdd,s_spec_DiskNew,h1,C_spec_l1In_eq,hn,h2,c2,fs0]
      exact own_noDisk _
    | true =>
      rw [if_pos ⟨rfl,rfl⟩]
      rw [hf] at c2
      have f0 : fillR (List.replicate 0 [AV.int .i64 0,AV.int .i64 0,AV.int .i64 0]) 3 [] = some []:= rfl
      simp only [go_sem,Nat.reduceBEq,Nat.reduceAdd,s_spec_DiskNew,h1,C_spec_l1In_eq,hn,h2,c2,f0,List.flatten_nil]
      refine hP_growL (T:= tFault) (n:= 0) (l:= []) (lo:= 1) (hi:= 2) l rfl rfl ⟨by decide,by simp,.inr ⟨1,[],[],rfl,by simp,rfl,rfl,by simp,fun q hq => by simp at hq;omega⟩⟩ (rowsIn_imm _ _ _) (by simp only [List.length_nil];unfold room;omega) ?_
      intro x h3 o3 p3 q3 a3
      rw [List.nil_append] at o3
      have m3 : 2 ≤ h3.nx:= p3
      obtain ⟨A3,cx,nx⟩:= o3.owA
      have b0 : h3.hp 0 = some [.snil,.snil,.int .i64 0,.snil,.bool false]:= (q3 0 (.inl (by decide)) (by simp)).trans (by simp)
      have fs : sFill [.snil,.snil,.int .i64 0,.snil,.bool false] [(3,1,x)] = some [.snil,.snil,.int .i64 0,x,.bool false]:= by simp [sFill,fillAt,nx,cx]
      simp only [go_sem,kSt_ptr,Nat.reduceBEq,Nat.reduceAdd,fs,nx]
      refine LK0_spec_DiskNew cs (n:= n) (P:= h3.nx) (x:= x) (z:= .ptr 0 0) (H0:= h3) (by omega) n.toNat 0 .snil _ _ (by omega) (by simp only [go_sem,Nat.reduceBEq]) (by simp only [go_sem,Nat.reduceBEq]) (by simp only [go_sem,Nat.reduceBEq]) (by simp only [go_sem,Nat.reduceBEq] <;> simp) (by simp) (by simp) (by simp) (fun q hq => by
        have g : ¬ q = h3.nx:= by omega
        simp only [g,if_false]) (OwS.nil _ _ (by simp) (by simp)) ?_
      intro e' h' v' a4 a5 aN aF aP o
      have b0' : h'.hp 0 = some [.snil,.snil,.int .i64 0,.snil,.bool false]:= (aF 0 (by omega)).trans b0
      obtain ⟨A1,cS,nS⟩:= o.owA
      have m4 : h3.nx ≤ h'.nx:= aN
      have g0 : ¬ 0 = h3.nx:= by omega
      simp only [go_sem,kSt_ptr,Nat.reduceBEq,Nat.reduceAdd,a4,a5,aP,b0',nS,nx]
      have row : OwA 2 1 h'.nx h' [v',.snil,.int .i64 0,x,.bool false] (TDisk.row ⟨List.replicate n.toNat [],[],0,l,false⟩):= by
        have A3' : OwA 2 1 h3.nx h' [x] [.imm (l.map tFault.row)]:= (A3.up (m:= 2) (by decide)).mono m4 fun q _ q2 => aF q q2
        have M3:= A3'.cat (OwA.leaf (OwA.nil 2 h3.nx (h:= h') m4) (c:= .bool false) rfl) (Nat.le_refl _)
        have M2:= OwA.leaf M3 (c:= .int .i64 0) rfl
        have M1:= ((OwS.nil 0 u8T (lo:= 1) (hi:= 1) (h:= h') (Nat.le_refl 1) (by omega)).owA.1.up (m:= 2) (by decide)).cat M2 (Nat.le_refl _)
        exact owA_catR A1 M1 (Nat.le_succ _)
      refine (row.mono (by simp) fun q q1 q2 => ?_).owE (by decide)
      have g : ¬ q = 0:= by omega
      simp only [g,if_false]
noncomputable def C_spec_MetaOk:= c1 tMeta (fun (m : TMeta) => True) (.bool) fun (m : TMeta) => metaOk m
theorem C_spec_MetaOk_eq (m : TMeta) (h : True) : C_spec_MetaOk [.agg [.int .i64 m.fGen,.int .i64 m.fRoot]] = some (.bool ((metaOk m))):= c1_eq tMeta h
theorem ok_spec_MetaOk {WI : World → Prop} (hs : Stable WI) (cs) (hT : TOK (EE cs) WI) (h1 : (EE cs).T 62 = some C_spec_l1In) : PureOK Tryz.prog WI 110 C_spec_MetaOk:= by
  refine pure1 (E:= EE cs) hT hs (by rw [st_spec_MetaOk];rfl) fun m hp => out_wp (n:= 0) (st_spec_MetaOk cs) ?_
  have c1:= C_spec_l1In_eq m.fGen 0 1000000
  have c2:= C_spec_l1In_eq m.fRoot 2 47
  unfold metaOk
  cases e1 : inR m.fGen 0 1000000 with
  | false => simp only [go_sem,Nat.reduceBEq,s_spec_MetaOk,TMeta.row,tMeta_enc,h1,c1,e1]
  | true =>
    cases e2 : (m.fRoot == 0) <;> simp only [go_sem,Nat.reduceBEq,Nat.reduceAdd,Nat.reduceLeDiff,s_spec_MetaOk,TMeta.row,tMeta_enc,h1,c1,e1,e2,c2,Bool.true_or,Bool.false_or]
noncomputable def C_spec_PutU:= c2 (sliceT u8T) intT (fun (b : List (UInt8)) (n : Int) => b.length ≤ 4000000) (fun x => .app 1 (x.map u8T.row)) fun (b : List (UInt8)) (n : Int) => b ++ uenc (clampN n)
theorem C_spec_PutU_eq (b : List (UInt8)) (n : Int) (h : b.length ≤ 4000000) : C_spec_PutU [.imm (b.map u8T.row),.int .i64 n] = some (.app 1 ((b ++ uenc (clampN n)).map u8T.row)):= c2_eq (sliceT u8T) intT h
theorem L_spec_PutU (cs) {Q : QS} : ∀ (k m : Nat),m ≤ k → m ≤ 1000000 → ∀ (pre : List UInt8) (e : Ps) (h : Hp),e 1 = .int .i64 (m : Int) → grows u8T pre (e 5) h → pre.length + (uenc m).length ≤ 4194304 →
    (∀ e' h' (pre' : List UInt8) (m' : Nat),m' ≤ 127 → pre' ++ [UInt8.ofNat m'] = pre ++ uenc m → e' 1 = .int .i64 (m' : Int) → grows u8T pre' (e' 5) h' → Q (.exit 0) e' h') → WL (EE cs) s_spec_PutU_L0 e h Q:= by
  intro k
  induction k with
  | zero =>
    intro m hm _ pre e h e1 o hb hq
    have : m = 0:= by omega
    subst this
    refine .step (wp_sound _ _ _ _ ?_)
    simp only [go_sem,Nat.reduceBEq,Int.reduceLT,s_spec_PutU_L0,e1]
    exact hq _ _ pre 0 (by omega) (by rw [uenc_small (by omega)]) (by simp only [go_sem,Nat.reduceBEq,e1]) o
  | succ k ih =>
    intro m hm hm2 pre e h e1 o hb hq
    by_cases h1 : m ≤ 127
    · refine .step (wp_sound _ _ _ _ ?_)
      have h2 : ¬ (127 : Int) < (m : Int):= by omega
      simp only [go_sem,Nat.reduceBEq,s_spec_PutU_L0,e1,h2]
      exact hq _ _ pre m h1 (by rw [uenc_small h1]) (by simp only [go_sem,Nat.reduceBEq,e1]) o
    · refine .step (wp_sound _ _ _ _ ?_)
      have h2 : (127 : Int) < (m : Int):= by omega
      have k1:= fun h => kAndN127 (a:= m) (by omega) h
      have k2:= fun h => kOr128 (a:= m % 128) (by omega) h
      have k3:= fun h => kShr7 m h
      have hu : (uenc m).length = (uenc (m / 128)).length + 1:= by rw [uenc_big h1];rfl
      simp only [go_sem,Nat.reduceBEq,s_spec_PutU_L0,e1,h2,k1,k2,u8W,u8fill,u8frz]
      refine hP_grow [UInt8.ofNat (m % 128 + 128)] rfl (o.mono (by simp only [];omega) fun r hr => by have g : ¬ r = h.nx:= (by omega);simp only [g,if_false]) rfl (by simp only [List.length_cons,List.length_nil];unfold room;omega) ?_
      intro v' h' g1 g2 g3 g4
      simp only [go_sem,Nat.reduceBEq,e1,k3]
      refine ih (m / 128) (by omega) (by omega) _ _ h' (by simp only [go_sem,Nat.reduceBEq]) (by simp only [go_sem,Nat.reduceBEq];exact g1) (by simp only [List.length_append,List.length_cons,List.length_nil];omega) ?_
      intro e3 h3 pre' m' j1 j2 j3 j4
      exact hq _ _ pre' m' j1 (by rw [j2,uenc_big h1];simp) j3 j4
theorem ok_spec_PutU {WI : World → Prop} (hs : Stable WI) (cs) (hT : TOK (EE cs) WI) : FreshOK Tryz.prog WI 112 C_spec_PutU:= by
  refine pure2F (E:= EE cs) hT hs (by rw [st_spec_PutU];rfl) fun b n hp => outF_wp (sz:= 1) (st_spec_PutU cs) ?_
  have hlen : b.length ≤ 4000000:= hp
  have hu:= (uenc_len (clampN n) (clampN_le n)).1
  simp only [go_sem,Nat.reduceBEq,s_spec_PutU,rep0,fill0,frz0]
  refine hP_grow b rfl (grows_new u8T Hp.empty) (rowsIn_imm _ _ _) (by simp only [List.length_nil];unfold room;omega) ?_
  intro v0 h0 g1 g2 g3 g4
  rw [List.nil_append] at g1
  by_cases c1 : (1000000 : Int) < n
  · have hcl : ((clampN n : Nat) : Int) = 1000000:= by unfold clampN;rw [if_pos c1];rfl
    have c3 : ¬ (1000000 : Int) < 0:= by decide
    simp only [go_sem,Nat.reduceBEq,c1,c3]
    refine L_spec_PutU cs (clampN n) (clampN n) (Nat.le_refl _) (clampN_le n) b _ _ (by simp only [go_sem,Nat.reduceBEq];rw [hcl]) (by simp only [go_sem,Nat.reduceBEq];exact g1) (by omega) ?_
    intro e1 h1 pre' m' j1 j2 j3 j4
    have hl:= congrArg List.length j2
    simp only [List.length_append,List.length_cons,List.length_nil] at hl
    simp only [go_sem,Nat.reduceBEq,j3,u8W,u8fill,u8frz]
    refine hP_grow [UInt8.ofNat m'] rfl (j4.mono (by simp only [];omega) fun r hr => by have g : ¬ r = h1.nx:= (by omega);simp only [g,if_false]) rfl (by simp only [List.length_cons,List.length_nil];unfold room;omega) ?_
    intro v2 h2 k1 k2 k3 k4
    rw [j2] at k1
    simp only [go_sem,Nat.reduceBEq]
    exact frR_grows k1 rfl
  by_cases c2 : n < 0
  · have hcl : ((clampN n : Nat) : Int) = 0:= by unfold clampN;rw [if_neg c1,if_pos c2];rfl
    simp only [go_sem,Nat.reduceBEq,Int.reduceLT,c1,c2]
    refine L_spec_PutU cs (clampN n) (clampN n) (Nat.le_refl _) (clampN_le n) b _ _ (by simp only [go_sem,Nat.reduceBEq];rw [hcl]) (by simp only [go_sem,Nat.reduceBEq];exact g1) (by omega) ?_
    intro e1 h1 pre' m' j1 j2 j3 j4
    have hl:= congrArg List.length j2
    simp only [List.length_append,List.length_cons,List.length_nil] at hl
    simp only [go_sem,Nat.reduceBEq,j3,u8W,u8fill,u8frz]
    refine hP_grow [UInt8.ofNat m'] rfl (j4.mono (by simp only [];omega) fun r hr => by have g : ¬ r = h1.nx:= (by omega);simp only [g,if_false]) rfl (by simp only [List.length_cons,List.length_nil];unfold room;omega) ?_
    intro v2 h2 k1 k2 k3 k4
    rw [j2] at k1
    simp only [go_sem,Nat.reduceBEq]
    exact frR_grows k1 rfl
  · have hcl : ((clampN n : Nat) : Int) = n:= by unfold clampN;rw [if_neg c1,if_neg c2];omega
    simp only [go_sem,Nat.reduceBEq,Int.reduceLT,c1,c2]
    refine L_spec_PutU cs (clampN n) (clampN n) (Nat.le_refl _) (clampN_le n) b _ _ (by simp only [go_sem,Nat.reduceBEq];rw [hcl]) (by simp only [go_sem,Nat.reduceBEq];exact g1) (by omega) ?_
    intro e1 h1 pre' m' j1 j2 j3 j4
    have hl:= congrArg List.length j2
    simp only [List.length_append,List.length_cons,List.length_nil] at hl
    simp only [go_sem,Nat.reduceBEq,j3,u8W,u8fill,u8frz]
    refine hP_grow [UInt8.ofNat m'] rfl (j4.mono (by simp only [];omega) fun r hr => by have g : ¬ r = h1.nx:= (by omega);simp only [g,if_false]) rfl (by simp only [List.length_cons,List.length_nil];unfold room;omega) ?_
    intro v2 h2 k1 k2 k3 k4
    rw [j2] at k1
    simp only [go_sem,Nat.reduceBEq]
    exact frR_grows k1 rfl
noncomputable def C_spec_PutText:= c2 (sliceT u8T) strT (fun (b : List (UInt8)) (s : List UInt8) => b.length ≤ 4000000 ∧ s.length ≤ 1048576) (fun x => .app 1 (x.map u8T.row)) fun (b : List (UInt8)) (s : List UInt8) => b ++ utext s
theorem C_spec_PutText_eq (b : List (UInt8)) (s : List UInt8) (h : b.length ≤ 4000000 ∧ s.length ≤ 1048576) : C_spec_PutText [.imm (b.map u8T.row),.str s] = some (.app 1 ((b ++ utext s).map u8T.row)):= c2_eq (sliceT u8T) strT h
theorem ok_spec_PutText {WI : World → Prop} (hs : Stable WI) (cs) (hT : TOK (EE cs) WI) (h1 : (EE cs).T 112 = some C_spec_PutU) : FreshOK Tryz.prog WI 162 C_spec_PutText:= by
  refine pure2F (E:= EE cs) hT hs (by rw [st_spec_PutText];rfl) fun b s hp => outF_wp (sz:= 1) (st_spec_PutText cs) ?_
  have fr_h1 : (EE cs).fr 112 = true:= rfl
  have hu:= (uenc_len (clampN s.length) (clampN_le _)).1
  have c1:= C_spec_PutU_eq b s.length hp.1
  simp only [go_sem,Nat.reduceBEq,s_spec_PutText,h1,c1,fr_h1]
  refine hP_grow s rfl (l:= b ++ uenc (clampN s.length)) (T:= u8T) (.inr ⟨_,rfl,by simp [u8T,oneT],by simp []⟩) (rowsIn_str _ _) (by rw [List.length_append];unfold room;omega) ?_
  intro v' h' g1 g2 g3 g4
  rw [List.append_assoc] at g1
  simp only [go_sem,Nat.reduceBEq]
  exact frR_grows g1 rfl
end Go.Proofs.YtpolhafmapekpaaGreatDoor.En
namespace Go.Proofs.YtpolhafmapekpaaGreatDoor.En
open Go Go.RowKit Go.Ev
set_option maxHeartbeats 1600000
noncomputable def C_spec_Crc:= c1 (sliceT u8T) (fun (b : List (UInt8)) => b.length ≤ 1048576) ((.int .i64)) fun (b : List (UInt8)) => (crc b : Int)
theorem C_spec_Crc_eq (b : List (UInt8)) (h : b.length ≤ 1048576) : C_spec_Crc [.imm (b.map u8T.row)] = some (.int .i64 (((crc b : Int)))):= c1_eq (sliceT u8T) h
theorem ok_spec_Crc {WI : World → Prop} (hs : Stable WI) (cs) (hT : TOK (EE cs) WI) : PureOK Tryz.prog WI 195 C_spec_Crc:= by
  refine pure1 (E:= EE cs) hT hs (by rw [st_spec_Crc];rfl) fun b hp => out_wp (n:= 0) (st_spec_Crc cs) ?_
  have hl : b.length ≤ 1048576:= hp
  have bits : ∀ (x0 : Nat) (i : Int) (e : Ps) (h : Hp),x0 < 4294967296 → e 0 = .imm (b.map u8T.row) → e 4 = .int .i64 i → e 3 = .int .i64 (x0 : Int) → e 5 = .int .i64 0 → WL (EE cs) s_spec_Crc_L0 e h fun x e1 _ => x = .exit 2 ∧ e1 0 = .imm (b.map u8T.row) ∧ e1 4 = .int .i64 i ∧ e1 3 = .int .i64 ((crcBits 8 x0 : Nat) : Int):= by
    intro x0 i e h hx0 h0 h4 h3 h5
    refine wl_count 8 (fun k e _ => e 0 = .imm (b.map u8T.row) ∧ e 4 = .int .i64 i ∧ e 3 = .int .i64 ((crcBits k x0 : Nat) : Int) ∧ e 5 = .int .i64 ((k : Nat) : Int)) (.exit 2) (fun e _ => e 0 = .imm (b.map u8T.row) ∧ e 4 = .int .i64 i ∧ e 3 = .int .i64 ((crcBits 8 x0 : Nat) : Int)) ?_ ?_ (by simp) 8 0 e h rfl ⟨h0,h4,h3,h5⟩
    · rintro k e h hk ⟨q0,q1,q2,q3⟩
      have hk8 : (k : Int) < 8:= by omega
      have hlt : crcBits k x0 < 4294967296:= crcBits_lt k hx0
      have hs:= crcBits_succ k x0
      have k1:= kShr1 (k:= .i64) (by decide) (crcBits k x0)
      have hd : crcBits k x0 / 2 < 4294967296:= by omega
      by_cases hb : crcBits k x0 % 2 = 1
      · rw [crcBit1 hb] at hs
        have k2:= kXorC hd
        simp only [go_sem,Nat.reduceBEq,s_spec_Crc_L0,q0,q1,q2,q3,hk8,kAnd1 hlt,k1,kBeq1 hb,k2,w1N (Nat.le_trans (Nat.le_of_lt hk) (by decide)),hs]
      · rw [crcBit0 hb] at hs
        simp only [go_sem,Nat.reduceBEq,s_spec_Crc_L0,q0,q1,q2,q3,hk8,kAnd1 hlt,k1,kBeq0 hb,w1N (Nat.le_trans (Nat.le_of_lt hk) (by decide)),hs]
    · rintro e h ⟨q0,q1,q2,q3⟩
      simp only [go_sem,Nat.reduceBEq,s_spec_Crc_L0,q0,q1,q2,q3,d8]
  simp only [go_sem,s_spec_Crc]
  refine (wl_for (l:= b) (fun pre e h => e 0 = .imm (b.map u8T.row) ∧ e 3 = .int .i64 ((crcAll 4294967295 pre : Nat) : Int) ∧ e 4 = .int .i64 pre.length) (.exit 0) (fun e h => e 0 = .imm (b.map u8T.row) ∧ e 3 = .int .i64 ((crcAll 4294967295 (b) : Nat) : Int)) (by omega) ?_ ?_ (by simp) b [] _ _ rfl ?_).mono ?_
  · rintro pre c rest e h a ⟨q0,q1,ix⟩
    have hc : crcAll 4294967295 pre < 4294967296:= crcAll_lt pre (by decide)
    have k2:= fun h => kXorN hc (u8lt c) h
    simp only [go_sem,Nat.reduceBEq,s_spec_Crc_L1,q0,q1,ix,a.dl,a.ia (row:= u8T.row) (sz:= 1) rfl,u8T_row,u8i64,k2]
    refine (bits (crcAll 4294967295 pre ^^^ c.toNat) (pre.length : Int) _ _ (Nat.xor_lt_two_pow (n:= 32) hc (u8lt c)) (by simp only [go_sem,Nat.reduceBEq,q0]) (by simp only [go_sem,Nat.reduceBEq,ix]) (by simp only [go_sem,Nat.reduceBEq]) (by simp only [go_sem,Nat.reduceBEq])).mono ?_
    rintro x e1 h1 ⟨rfl,r0,r4,r3⟩
    simp only [go_sem,Nat.reduceBEq,r0,r4,r3,a.hw,crcAll_snoc]
  · rintro e h ⟨q0,q1,ix⟩
    simp only [go_sem,Nat.reduceBEq,s_spec_Crc_L1,q0,q1,ix]
  · exact ⟨rfl,rfl,rfl⟩
  · rintro x e h ⟨rfl,j0,j1⟩
    have k2:= kXorF (crcAll_lt b (x:= 4294967295) (by decide))
    simp only [go_sem,Nat.reduceBEq,j1,k2,crc]
theorem u8fil4 (a b c d : Int) : fillR (List.replicate 4 [.int .u8 0]) 1 [(0,.int .u8 a),(1,.int .u8 b),(2,.int .u8 c),(3,.int .u8 d)] = some [[.int .u8 a],[.int .u8 b],[.int .u8 c],[.int .u8 d]]:= rfl
theorem u8frz4 (a b c d : Int) : frzRows [[.int .u8 a],[.int .u8 b],[.int .u8 c],[.int .u8 d]] = some [[.int .u8 a],[.int .u8 b],[.int .u8 c],[.int .u8 d]]:= rfl
noncomputable def C_spec_PutSum:= c1 (sliceT u8T) (fun (b : List (UInt8)) => b.length ≤ 1048576) (fun x => .imm (x.map u8T.row)) fun (b : List (UInt8)) => withSum b
theorem C_spec_PutSum_eq (b : List (UInt8)) (h : b.length ≤ 1048576) : C_spec_PutSum [.imm (b.map u8T.row)] = some (.imm (((withSum b)).map u8T.row)):= c1_eq (sliceT u8T) h
theorem ok_spec_PutSum {WI : World → Prop} (hs : Stable WI) (cs) (hT : TOK (EE cs) WI) (h1 : (EE cs).T 195 = some C_spec_Crc) : PureOK Tryz.prog WI 161 C_spec_PutSum:= by
  refine pure1 (E:= EE cs) hT hs (by rw [st_spec_PutSum];rfl) fun b hp => out_wp (n:= 1) (st_spec_PutSum cs) ?_
  have hl : b.length ≤ 1048576:= hp
  have c1:= C_spec_Crc_eq b hp
  simp only [go_sem,Nat.reduceBEq,s_spec_PutSum,h1,c1,rep0,fill0,frz0]
  refine hP_grow b rfl (grows_new u8T Hp.empty) (rowsIn_imm _ _ _) (by simp only [List.length_nil];unfold room;omega) ?_
  intro v0 h0 g1 g2 g3 g4
  rw [List.nil_append] at g1
  simp only [go_sem,Nat.reduceBEq,kShr24,kShr16,kShr8,u8W,u8fil4,u8frz4]
  refine hP_grow (sum4 (crc b)) rfl (g1.mono (by simp only [];omega) fun r hr => by have g : ¬ r = h0.nx:= (by omega);simp only [g,if_false]) rfl (by show (_ + 4) * 1 ≤ _;unfold room;omega) ?_
  intro v2 h2 k1 k2 k3 k4
  simp only [go_sem,Nat.reduceBEq]
  exact frzE_grows k1
noncomputable def C_spec_PutPage:= c2 intT (sliceT u8T) (fun (k : Int) (b : List (UInt8)) => b.length ≤ 1048576) (fun x => .imm (x.map u8T.row)) fun (k : Int) (b : List (UInt8)) => putPage k b
theorem C_spec_PutPage_eq (k : Int) (b : List (UInt8)) (h : b.length ≤ 1048576) : C_spec_PutPage [.int .i64 k,.imm (b.map u8T.row)] = some (.imm (((putPage k b)).map u8T.row)):= c2_eq intT (sliceT u8T) h
theorem ok_spec_PutPage {WI : World → Prop} (hs : Stable WI) (cs) (hT : TOK (EE cs) WI) (h1 : (EE cs).T 62 = some C_spec_l1In) (h2 : (EE cs).T 112 = some C_spec_PutU) (h3 : (EE cs).T 162 = some C_spec_PutText) (h4 : (EE cs).T 161 = some C_spec_PutSum) : PureOK Tryz.prog WI 111 C_spec_PutPage:= by
  refine pure2 (E:= EE cs) hT hs (by rw [st_spec_PutPage];rfl) fun k b hp => out_wp (n:= 1) (st_spec_PutPage cs) ?_
  have fr_h2 : (EE cs).fr 112 = true:= rfl
  have fr_h3 : (EE cs).fr 162 = true:= rfl
  have hl : b.length ≤ 1048576:= hp
  have hu:= (uenc_len (clampN k) (clampN_le k)).1
  have hu2:= (uenc_len (clampN b.length) (clampN_le _)).1
  have hu3 : (utext b).length = (uenc (clampN b.length)).length + b.length:= by unfold utext;rw [List.length_append]
  unfold putPage
  cases c1 : inR k 1 2 with
  | false =>
    rw [if_neg (fun h => by cases h.1)]
    simp only [go_sem,Nat.reduceBEq,s_spec_PutPage,h1,C_spec_l1In_eq,c1,rep0,fill0,frz0]
  | true =>
  by_cases hb : b.length ≤ 240
  · have d1 : ¬ (240 : Int) < (b.length : Int):= by omega
    have c2:= C_spec_PutU_eq [] k (by simp)
    have c3:= C_spec_PutText_eq (uenc (clampN k)) b ⟨by omega,hl⟩
    have c4:= C_spec_PutSum_eq (uenc (clampN k) ++ utext b) (by rw [List.length_append];omega)
    simp only [List.map_nil,List.nil_append] at c2
    rw [if_pos ⟨rfl,hb⟩]
    simp only [go_sem,Nat.reduceBEq,Nat.reduceAdd,s_spec_PutPage,h1,C_spec_l1In_eq,c1,d1,rep0,fill0,frz0,h2,c2,fr_h2,nsI,rowsIn_imm,rowsBytes_u8,h3,c3,fr_h3,h4,c4]
  · have d1 : (240 : Int) < (b.length : Int):= by omega
    rw [if_neg (fun h => hb h.2)]
    simp only [go_sem,Nat.reduceBEq,s_spec_PutPage,h1,C_spec_l1In_eq,c1,d1,rep0,fill0,frz0]
noncomputable def C_spec_PutMeta:= c1 tMeta (fun (m : TMeta) => True) (fun x => .imm (x.map u8T.row)) fun (m : TMeta) => putMeta m
theorem C_spec_PutMeta_eq (m : TMeta) (h : True) : C_spec_PutMeta [.agg [.int .i64 m.fGen,.int .i64 m.fRoot]] = some (.imm (((putMeta m)).map u8T.row)):= c1_eq tMeta h
theorem ok_spec_PutMeta {WI : World → Prop} (hs : Stable WI) (cs) (hT : TOK (EE cs) WI) (h1 : (EE cs).T 110 = some C_spec_MetaOk) (h2 : (EE cs).T 112 = some C_spec_PutU) (h3 : (EE cs).T 111 = some C_spec_PutPage) : PureOK Tryz.prog WI 61 C_spec_PutMeta:= by
  refine pure1 (E:= EE cs) hT hs (by rw [st_spec_PutMeta];rfl) fun m hp => out_wp (n:= 1) (st_spec_PutMeta cs) ?_
  have fr_h2 : (EE cs).fr 112 = true:= rfl
  have c1:= C_spec_MetaOk_eq m trivial
  have u1:= (uenc_len (clampN m.fGen) (clampN_le _)).1
  have u2:= (uenc_len (clampN m.fRoot) (clampN_le _)).1
  unfold putMeta
  cases hk : metaOk m with
  | false =>
    rw [hk] at c1
    simp only [go_sem,Nat.reduceBEq,Nat.reduceAdd,s_spec_PutMeta,TMeta.row,tMeta_enc,h1,c1,rep0,fill0,frz0]
  | true =>
  rw [hk] at c1
  have c2:= C_spec_PutU_eq [] m.fGen (by simp)
  have c3:= C_spec_PutU_eq (uenc (clampN m.fGen)) m.fRoot (by omega)
  have c4:= C_spec_PutPage_eq 2 (metaBody m) (by unfold metaBody;rw [List.length_append];omega)
  simp only [List.map_nil,List.nil_append] at c2
  unfold metaBody at c4
  rw [if_pos rfl]
  simp only [go_sem,Nat.reduceBEq,Nat.reduceAdd,Nat.reduceLeDiff,s_spec_PutMeta,TMeta.row,tMeta_enc,h1,c1,rep0,fill0,frz0,h2,c2,c3,fr_h2,h3,c4,metaBody]
noncomputable def C_spec_Format:= c2 intT (sliceT tFault) (fun (n : Int) (l : List (TFault)) => (sliceT tFault).cost l ≤ 1048576) (fun x => .agg (x).row) fun (n : Int) (l : List (TFault)) => format n l
theorem C_spec_Format_eq (n : Int) (l : List (TFault)) (h : (sliceT tFault).cost l ≤ 1048576) : C_spec_Format [.int .i64 n,.imm (l.map TFault.row)] = some (.agg (((format n l))).row):= c2_eq intT (sliceT tFault) h
theorem ok_spec_Format {WI : World → Prop} (hs : Stable WI) (cs) (hT : TOK (EE cs) WI) (h1 : (EE cs).T 60 = some C_spec_DiskNew) (h2 : (EE cs).T 61 = some C_spec_PutMeta) : PureOK Tryz.prog WI 28 C_spec_Format:= by
  refine pure2 (E:= EE cs) hT hs (by rw [st_spec_Format];rfl) fun n l hp => out_wp (n:= 8) (st_spec_Format cs) ?_
  have c1:= C_spec_DiskNew_eq n l hp
  have c2:= C_spec_PutMeta_eq ⟨0,0⟩ trivial
  simp only [go_sem,Nat.reduceBEq,s_spec_Format,h1]
  refine hP_own (n:= 2) (mapO2 (intT.frzT 8 _ n) ((sliceT tFault).frzT 8 _ l)) c1 (tDisk.okT (diskNew n l) (by decide)) (by decide) ?_
  intro x g1 o k1 ka kn
  have kn1 : 1 ≤ g1.nx:= kn
  have b0 : g1.hp 0 = some [.snil,.snil,.int .i64 0,.snil,.bool false]:= (k1 0 (by simp)).trans (by simp)
  obtain ⟨cs0,rfl,hl,A⟩:= OwI.agg (row:= (diskNew n l).row) o kn
  obtain ⟨d0,d1,d2,d3,d4,rfl⟩:= len5 hl
  have z1:= A.cells
  simp only [List.any_cons,List.any_nil,Bool.or_false,Bool.or_eq_false_iff] at z1
  have g0 : ¬ 0 = g1.nx:= by omega
  unfold format
  cases hs : (diskNew n l).fSecs with
  | nil =>
    unfold TDisk.row at A
    rw [hs] at A
    have hl0 : ∀ h2,kLenL d0 h2 = some (.int .i64 0,h2):= by
      obtain ⟨R,a1,_,_⟩:= A.ex
      obtain ⟨R1,R2,a4,a5,rfl⟩:= dfzL_cons_inv a1
      rcases dfz_slice (T:= sliceT u8T) (l:= []) a4 with ⟨_,h⟩ | ⟨m,r,cs,R',hm,rfl,hr,hl,hd,rfl⟩
      · exact h
      · intro h2;rfl
    simp only [go_sem,kSt_ptr,Nat.reduceBEq,Nat.reduceAdd,Int.reduceLT,z1,hl0,b0,g0]
    refine (OwI.frz (n:= 2) (lo:= 1) (hi:= g1.nx) (OwA.toI (OwA.mono (h:= g1) (lo:= 1) (hi:= g1.nx) A (by simp) fun q q1 q2 => ?_)) (by decide))
    have g : ¬ q = 0:= by omega
    have g' : ¬ q = g1.nx:= by omega
    simp only [g,g',if_false]
  | cons b0' bs =>
    unfold TDisk.row at A
    rw [hs] at A
    obtain ⟨r,c0,cs1,rfl,hr,hcl,r1,r2,_,st⟩:= own_secs A
    have r1' : 1 ≤ r:= r1
    have hlen : ∀ h2,kLenL (.sl r 0 (bs.length + 1) 1) h2 = some (.int .i64 ((bs.length : Int) + 1),h2):= fun h2 => rfl
    have hpos : (0 : Int) < (bs.length : Int) + 1:= by omega
    have fs2 : sFill [.int .i64 0,.int .i64 0] [] = some [AV.int .i64 0,.int .i64 0]:= rfl
    have u0 : ¬ 0 = r:= by omega
    have u1 : ¬ r = g1.nx:= by omega
    have u2 : ¬ g1.nx = r:= by omega
    have ia : ∀ h2,kIa 1 (.sl r 0 (bs.length + 1) 1) (.int .i64 0) h2 = some (.ptr r 0,h2):= fun h2 => kIa_sl (Int.le_refl _) (Nat.succ_pos _)
    simp only [go_sem,kSt_ptr,Nat.reduceBEq,Nat.reduceAdd,Nat.reduceLeDiff,z1,hlen,hpos,g0,fs2,h2,c2,ia,hr,u0,u1,u2,b0]
    refine st _ (putMeta ⟨0,0⟩) ?_ fun q q1 q2 q3 => ?_
    · have v0 : ¬ r = 0:= fun e => u0 e.symm
      simp only [v0,if_false,if_true]
    · have q1' : 1 ≤ q:= q1
      have v0 : ¬ q = 0:= by omega
      have v1 : ¬ q = g1.nx:= by omega
      simp only [v0,q3,v1,if_false]
noncomputable def C_spec_DiskOk:= c1 tDisk (fun (d : TDisk) => tDisk.cost d ≤ 4194304) (.bool) fun (d : TDisk) => diskOk d
theorem C_spec_DiskOk_eq (d : TDisk) (h : tDisk.cost d ≤ 4194304) : C_spec_DiskOk [.agg [.imm (d.fSecs.map (sliceT u8T).row),.imm (d.fCache.map TWrite.row),.int .i64 d.fOps,.imm (d.fFaults.map TFault.row),.bool d.fDown]] = some (.bool ((diskOk d))):= c1_eq tDisk h
theorem ok_spec_DiskOk {WI : World → Prop} (hs : Stable WI) (cs) (hT : TOK (EE cs) WI) (h1 : (EE cs).T 62 = some C_spec_l1In) (h2 : (EE cs).T 63 = some C_spec_l12Faults) : PureOK Tryz.prog WI 29 C_spec_DiskOk:= by
  refine pure1 (E:= EE cs) hT hs (by rw [st_spec_DiskOk];rfl) fun d hp => out_wp (n:= 0) (st_spec_DiskOk cs) ?_
  obtain ⟨n1,n2,n3,n4,n5⟩:= diskLens hp
  have c2:= C_spec_l12Faults_eq d.fFaults n3
  have hw : IntKind.wrap .i64 ((d.fSecs.length : Int) - 1) = (d.fSecs.length : Int) - 1:= wrapId (by omega) (by omega)
  unfold diskOk secsOk
  simp only [go_sem,s_spec_DiskOk,TDisk.row,tDisk_enc]
  refine (wl_all (l:= d.fSecs) (fun pre b => decide (b.length ≤ 256)) (fun pre e h => e 1 = .ptr 0 0 ∧ h.hp 0 = some [.imm (d.fSecs.map (sliceT u8T).row),.imm (d.fCache.map TWrite.row),.int .i64 d.fOps,.imm (d.fFaults.map TFault.row),.bool d.fDown] ∧ e 3 = .int .i64 pre.length) (.exit 0) (fun e h => e 1 = .ptr 0 0 ∧ h.hp 0 = some [.imm (d.fSecs.map (sliceT u8T).row),.imm (d.fCache.map TWrite.row),.int .i64 d.fOps,.imm (d.fFaults.map TFault.row),.bool d.fDown]) (fun e h => e 2 = .bool false) (by omega) ?_ ?_ ?_ (by simp) d.fSecs [] _ _ rfl ?_).mono ?_
  · rintro pre b rest e h a hp ⟨q0,q1,ix⟩
    have hq : ¬ (256 : Int) < (b.length : Int):= by have:= of_decide_eq_true hp;omega
    simp only [go_sem,Nat.reduceBEq,s_spec_DiskOk_L0,q0,q1,ix,a.dl,a.ia (row:= (sliceT u8T).row) (sz:= 1) rfl,a.hw,sliceT_row,hq]
  · rintro pre b rest e h a hp ⟨q0,q1,ix⟩
    have hq : (256 : Int) < (b.length : Int):= by have:= of_decide_eq_false hp;omega
    simp only [go_sem,Nat.reduceBEq,s_spec_DiskOk_L0,q0,q1,ix,a.dl,a.ia (row:= (sliceT u8T).row) (sz:= 1) rfl,a.hw,sliceT_row,hq]
  · rintro e h ⟨q0,q1,ix⟩
    simp only [go_sem,Nat.reduceBEq,s_spec_DiskOk_L0,q0,q1,ix]
  · simp only [go_sem,Nat.reduceBEq]
  · rintro x e h (⟨hp1,rfl,j0,j1⟩ | ⟨hp1,rfl,j⟩)
    · rw [allP_all] at hp1
      rw [hp1]
      simp only [go_sem]
      refine (wl_all (l:= d.fCache) (fun pre w => writeP d.fSecs.length w) (fun pre e h => e 1 = .ptr 0 0 ∧ h.hp 0 = some [.imm (d.fSecs.map (sliceT u8T).row),.imm (d.fCache.map TWrite.row),.int .i64 d.fOps,.imm (d.fFaults.map TFault.row),.bool d.fDown] ∧ e 4 = .int .i64 pre.length) (.exit 2) (fun e h => e 1 = .ptr 0 0 ∧ h.hp 0 = some [.imm (d.fSecs.map (sliceT u8T).row),.imm (d.fCache.map TWrite.row),.int .i64 d.fOps,.imm (d.fFaults.map TFault.row),.bool d.fDown]) (fun e h => e 2 = .bool false) (by omega) ?_ ?_ ?_ (by simp) d.fCache [] _ _ rfl ?_).mono ?_
      · rintro pre w rest e h a hp ⟨q0,q1,ix⟩
        cases c1 : inR w.fN 0 ((d.fSecs.length : Int) - 1) <;> by_cases c3 : (256 : Int) < (w.fB.length : Int) <;> have c4 : decide (w.fB.length ≤ 256) = !decide ((256 : Int) < (w.fB.length : Int)):= (by by_cases hx : w.fB.length ≤ 256 <;> simp [hx] <;> omega) <;> simp [writeP,c1,c3,c4] at hp
        all_goals simp only [go_sem,Nat.reduceBEq,Nat.reduceAdd,Nat.reduceLeDiff,s_spec_DiskOk_L1,q0,q1,ix,a.dl,a.ia (row:= TWrite.row) (sz:= 2) rfl,a.hw,TWrite.row,h1,C_spec_l1In_eq,hw,c1,c3]
      · rintro pre w rest e h a hp ⟨q0,q1,ix⟩
        cases c1 : inR w.fN 0 ((d.fSecs.length : Int) - 1) <;> by_cases c3 : (256 : Int) < (w.fB.length : Int) <;> have c4 : decide (w.fB.length ≤ 256) = !decide ((256 : Int) < (w.fB.length : Int)):= (by by_cases hx : w.fB.length ≤ 256 <;> simp [hx] <;> omega) <;> simp [writeP,c1,c3,c4] at hp
        all_goals simp only [go_sem,Nat.reduceBEq,Nat.reduceAdd,Nat.reduceLeDiff,s_spec_DiskOk_L1,q0,q1,ix,a.dl,a.ia (row:= TWrite.row) (sz:= 2) rfl,a.hw,TWrite.row,h1,C_spec_l1In_eq,hw,c1,c3]
      · rintro e h ⟨q0,q1,ix⟩
        simp only [go_sem,Nat.reduceBEq,Nat.reduceAdd,Nat.reduceLeDiff,s_spec_DiskOk_L1,q0,q1,ix]
      · simp only [go_sem,Nat.reduceBEq,j0,j1]
      · rintro x e h (⟨hp2,rfl,j0,j1⟩ | ⟨hp2,rfl,j⟩)
        · rw [allP_all] at hp2
          rw [show d.fCache.all (writeP d.fSecs.length) = true from hp2]
          cases a1 : inR d.fSecs.length 4 48 with
          | false => simp only [go_sem,Nat.reduceBEq,j0,j1,h1,C_spec_l1In_eq,a1]
          | true =>
          by_cases a2 : d.fCache.length ≤ 60
          · have b2 : (d.fCache.length : Int) ≤ 60:= by omega
            have b2' : decide (d.fCache.length ≤ 60) = true:= decide_eq_true a2
            cases a3 : inR d.fOps 0 100000 <;> cases a4 : faultsOk d.fFaults <;> rw [a4] at c2 <;> cases a5 : d.fDown <;> by_cases a6 : d.fCache.length = 0
            all_goals
              have b6 : ((d.fCache.length : Int) == 0) = decide (d.fCache.length = 0):= by by_cases hx : d.fCache.length = 0 <;> simp [hx]
              rw [a5] at j1
              simp only [go_sem,Nat.reduceBEq,Nat.reduceAdd,Nat.reduceLeDiff,Int.reduceLE,j0,j1,h1,C_spec_l1In_eq,a1,b2,b2',a3,h2,c2,b6,a6]
          · have b2 : ¬ (d.fCache.length : Int) ≤ 60:= by omega
            have b2' : decide (d.fCache.length ≤ 60) = false:= decide_eq_false a2
            simp only [go_sem,Nat.reduceBEq,Nat.reduceAdd,Nat.reduceLeDiff,j0,j1,h1,C_spec_l1In_eq,a1,b2,b2']
        · rw [allP_all] at hp2
          rw [show d.fCache.all (writeP d.fSecs.length) = false from hp2]
          simp only [go_sem,j]
    · rw [allP_all] at hp1
      rw [hp1]
      simp only [go_sem,j]
end Go.Proofs.YtpolhafmapekpaaGreatDoor.En
namespace Go.Proofs.YtpolhafmapekpaaGreatDoor.En
open Go Go.RowKit Go.Ev
set_option maxHeartbeats 1600000
def engOut (p : List TDef × Bool) (d : TDisk) : TEng × Bool:= if p.2 = true ∧ p.1.length ≠ 0 ∧ diskOk d = true then (⟨p.1,d⟩,true) else (⟨[],noDisk⟩,false)
def engNew (s : List UInt8) (n : Int) (l : List TFault) : TEng × Bool:= engOut (parseDefs s) (format n l)
theorem parseDefs_cost (s : List UInt8) : (sliceT tDef).cost (parseDefs s).1 ≤ 5000:= by
  obtain ⟨l1,l2⟩:= lexP_ok s
  unfold parseDefs
  split
  · exact Nat.zero_le _
  · unfold parseOut
    split
    · exact Nat.zero_le _
    · rename_i h
      refine parsed_cost l1 l2 (colR_S l1) colAt _ _ ?_
      cases hb : (parsedS (lexP s).1).2.bad with
      | true => exact absurd (.inl hb) h
      | false => exact hb
theorem putPage_len (k : Int) (b : List UInt8) : (putPage k b).length ≤ 256:= by
  have hu:= (uenc_len (clampN k) (clampN_le k)).1
  have hu2:= (uenc_len (clampN b.length) (clampN_le _)).1
  have hu3 : (utext b).length = (uenc (clampN b.length)).length + b.length:= by unfold utext;rw [List.length_append]
  unfold putPage
  split
  · rename_i h
    rw [withSum_len,List.length_append]
    omega
  · exact Nat.zero_le _
theorem putMeta_len (m : TMeta) : (putMeta m).length ≤ 256:= by
  unfold putMeta
  split
  · exact putPage_len _ _
  · exact Nat.zero_le _
theorem costSet (b : List UInt8) (k : Nat) : costL (sliceT u8T) ((List.replicate k ([] : List UInt8)).set 0 b) ≤ b.length:= by
  cases k with
  | zero => exact Nat.zero_le _
  | succ k =>
    rw [List.replicate_succ,List.set_cons_zero]
    have h0:= costRep k
    have h1 : (sliceT u8T).cost b = b.length:= by
      show b.length + costL u8T b = _
      rw [costL_zero (T:= u8T) (fun _ => rfl)]
      rfl
    simp only [costL,h0]
    omega
theorem format_cost (n : Int) (l : List TFault) : tDisk.cost (format n l) ≤ 400:= by
  have e : ∀ d : TDisk,tDisk.cost d = (d.fSecs.length + costL (sliceT u8T) d.fSecs) + (d.fCache.length + costL tWrite d.fCache) + (d.fFaults.length + costL tFault d.fFaults):= fun d => rfl
  rw [e]
  unfold format diskNew
  split
  · rename_i h
    obtain ⟨n1,n2⟩:= inR_spec h.1
    have h2:= faults_len h.2
    have h3:= costSet (putMeta ⟨0,0⟩) n.toNat
    have h4:= putMeta_len ⟨0,0⟩
    have h5:= costF l
    simp only [List.length_set,List.length_replicate,List.length_nil,costL]
    omega
  · simp only [noDisk,List.set_nil,List.length_nil,costL]
    omega
theorem engNew_cost (s : List UInt8) (n : Int) (l : List TFault) : tEng.cost (engNew s n l).1 ≤ 10000:= by
  have h1:= parseDefs_cost s
  have h2:= format_cost n l
  have e : ∀ v : TEng,tEng.cost v = (sliceT tDef).cost v.fS + tDisk.cost v.fD:= fun v => rfl
  rw [e]
  unfold engNew engOut
  split
  · simp only
    omega
  · exact Nat.zero_le _
noncomputable def C_spec_EngNew:= c3 strT intT (sliceT tFault) (fun (s : List UInt8) (n : Int) (l : List (TFault)) => s.length ≤ 1048576 ∧ (sliceT tFault).cost l ≤ 1048576) (fun x => .tup [.agg (x.1).row,.bool x.2]) fun (s : List UInt8) (n : Int) (l : List (TFault)) => engNew s n l
theorem C_spec_EngNew_eq (s : List UInt8) (n : Int) (l : List (TFault)) (h : s.length ≤ 1048576 ∧ (sliceT tFault).cost l ≤ 1048576) : C_spec_EngNew [.str s,.int .i64 n,.imm (l.map TFault.row)] = some (.tup [.agg (((engNew s n l).1)).row,.bool ((engNew s n l).2)]):= c3_eq strT intT (sliceT tFault) h
theorem ok_spec_EngNew {WI : World → Prop} (hs : Stable WI) (cs) (hT : TOK (EE cs) WI) (h1 : (EE cs).T 27 = some C_spec_ParseDefs) (h2 : (EE cs).T 28 = some C_spec_Format) (h3 : (EE cs).T 29 = some C_spec_DiskOk) : PureOK Tryz.prog WI 6 C_spec_EngNew:= by
  refine pure3 (E:= EE cs) hT hs (by rw [st_spec_EngNew];rfl) fun s n l hp => out_wp (n:= 1) (st_spec_EngNew cs) ?_
  obtain ⟨hp1,hp2⟩:= hp
  have c1:= C_spec_ParseDefs_eq s hp1
  have c2:= C_spec_Format_eq n l hp2
  have c3:= C_spec_DiskOk_eq (format n l) (by have:= format_cost n l;omega)
  have c4:= parseDefs_cost s
  unfold engNew engOut
  generalize parseDefs s = p at *
  generalize format n l = d at *
  obtain ⟨ds,ok⟩:= p
  have fs0 : sFill [.snil,.snil,.snil,.int .i64 0,.snil,.bool false] [] = some [AV.snil,.snil,.snil,.int .i64 0,.snil,.bool false]:= rfl
  have fs1 : sFill [.snil,.snil,.snil,.int .i64 0,.snil,.bool false] [(0,1,.imm (ds.map TDef.row)),(1,5,.agg d.row)] = some (AV.imm (ds.map TDef.row) :: d.row):= rfl
  unfold TDisk.row at fs1
  cases ok with
  | false =>
    rw [if_neg (fun h => by cases h.1)]
    simp only [go_sem,kSt_ptr,Nat.reduceBEq,Nat.reduceAdd,s_spec_EngNew,h1,c1,h2,c2,fs0,TDisk.row,TEng.row,noDisk]
  | true =>
  by_cases h0 : ds.length = 0
  · have e0 : ((ds.length : Int) == 0) = true:= by simp [h0]
    rw [if_neg (fun h => h.2.1 h0)]
    simp only [go_sem,kSt_ptr,Nat.reduceBEq,Nat.reduceAdd,s_spec_EngNew,h1,c1,h2,c2,e0,fs0,TDisk.row,TEng.row,noDisk]
  have e0 : ((ds.length : Int) == 0) = false:= by simp [h0]
  cases hd : diskOk d with
  | false =>
    rw [if_neg (fun h => by cases h.2.2)]
    rw [hd] at c3
    simp only [go_sem,kSt_ptr,Nat.reduceBEq,Nat.reduceAdd,s_spec_EngNew,h1,c1,h2,c2,h3,c3,fs0,e0,TDisk.row,TEng.row,noDisk]
  | true =>
    rw [if_pos ⟨rfl,h0,rfl⟩]
    rw [hd] at c3
    simp only [go_sem,kSt_ptr,Nat.reduceBEq,Nat.reduceAdd,s_spec_EngNew,h1,c1,h2,c2,h3,c3,fs1,e0,TDisk.row,TEng.row]
theorem rk_impl_tokens_maybe (cs) {l : List TToken} (hl : l.length ≤ 1000) (r : Nat) (s : St) (w : List UInt8) (h : Hp) (hr : h.hp r = some (rdC l s)) :
    ∃ h',RunF (EE cs) 118 [.ptr r 0,.str w] h (.bool (isT l s w),h') ∧ RdK l r (isS l s w) h h':= by
  have : ∃ rr,RunF (EE cs) 118 [.ptr r 0,.str w] h rr ∧ rr.1 = .bool (isT l s w) ∧ RdK l r (isS l s w) h rr.2:= by
    refine run_wp (st_impl_tokens_maybe cs) ?_
    obtain ⟨i,bad⟩:= s
    have hr0:= hr
    unfold rdC at hr
    simp only at hr
    cases bad with
    | true =>
      rw [isT_bad rfl,isS_bad rfl]
      simp only [go_sem,kSt_ptr,Nat.reduceBEq,Nat.reduceAdd,Nat.reduceLeDiff,s_impl_tokens_maybe,hr]
      exact ⟨fun _ e => (by cases e),_,rfl,rfl,hr0,fun _ _ => rfl,rfl,rfl⟩
    | false =>
      by_cases hlt : i < l.length
      · have hd : decide ((l.length : Int) ≤ (i : Int)) = false:= decide_eq_false (by omega)
        have ha:= fun h => ia_tok hlt h
        have hw : IntKind.wrap .i64 ((i : Int) + 1) = ((i + 1 : Nat) : Int):= by rw [wrapId (by omega) (by omega)];omega
        cases hq : l[i].fS == w with
        | true =>
          have e1:= (isT_some hlt w).trans hq
          rw [e1,isS_true e1]
          simp only [go_sem,kSt_ptr,Nat.reduceBEq,Nat.reduceAdd,Nat.reduceLeDiff,s_impl_tokens_maybe,hr,hd,ha,TToken.row,hq,hw]
          exact ⟨fun _ e => (by cases e),_,rfl,rfl,by simp [rdC,St.adv],fun q hq => by simp [hq],rfl,rfl⟩
        | false =>
          have e1:= (isT_some hlt w).trans hq
          rw [e1,isS_false e1]
          simp only [go_sem,kSt_ptr,Nat.reduceBEq,Nat.reduceAdd,Nat.reduceLeDiff,s_impl_tokens_maybe,hr,hd,ha,TToken.row,hq,hw]
          exact ⟨fun _ e => (by cases e),_,rfl,rfl,hr0,fun _ _ => rfl,rfl,rfl⟩
      · have hd : decide ((l.length : Int) ≤ (i : Int)) = true:= decide_eq_true (by omega)
        have e1:= isT_none hlt w
        rw [e1,isS_false e1]
        simp only [go_sem,kSt_ptr,Nat.reduceBEq,Nat.reduceAdd,Nat.reduceLeDiff,s_impl_tokens_maybe,hr,hd]
        exact ⟨fun _ e => (by cases e),_,rfl,rfl,hr0,fun _ _ => rfl,rfl,rfl⟩
  obtain ⟨⟨v,h'⟩,k1,k2,k3⟩:= this
  simp only at k2 k3
  subst k2
  exact ⟨h',k1,k3⟩
theorem hP_impl_tokens_maybe (cs) {l : List TToken} (hl : l.length ≤ 1000) {r : Nat} {s : St} {w : List UInt8} {h : Hp} {d : Option Nat} {os : List SOper} {e : Ps} {Q : QS} (hr : h.hp r = some (rdC l s))
    (hw : ∀ h',RdK l r (isS l s w) h h' → hP (kThen (some (upd? e d (.bool (isT l s w)),h')) (EE cs) (lim (EE cs)) os) Q) : hP (kThen (kOper d (some true) (lim (EE cs) 118 [.ptr r 0,.str w] h) e h) (EE cs) (lim (EE cs)) os) Q:= by
  obtain ⟨h',k1,k2⟩:= rk_impl_tokens_maybe cs hl r s w h hr
  exact hP_call k1 (hw h' k2)
theorem rk_impl_tokens_name (cs) {l : List TToken} (hl : l.length ≤ 1000) (r : Nat) (s : St) (h : Hp) (hr : h.hp r = some (rdC l s)) :
    ∃ h',RunF (EE cs) 117 [.ptr r 0] h (.str (nmV l s),h') ∧ RdK l r (nmS l s) h h':= by
  have : ∃ rr,RunF (EE cs) 117 [.ptr r 0] h rr ∧ rr.1 = .str (nmV l s) ∧ RdK l r (nmS l s) h rr.2:= by
    refine run_wp (st_impl_tokens_name cs) ?_
    obtain ⟨i,bad⟩:= s
    unfold rdC at hr
    simp only at hr
    cases bad with
    | true =>
      rw [nmV_bad rfl,nmS_bad rfl]
      simp only [go_sem,kSt_ptr,Nat.reduceBEq,Nat.reduceAdd,Nat.reduceLeDiff,s_impl_tokens_name,hr]
      exact ⟨fun _ e => (by cases e),_,rfl,rfl,by simp [rdC],fun q hq => by simp [hq],rfl,rfl⟩
    | false =>
      by_cases hlt : i < l.length
      · have hd : decide ((l.length : Int) ≤ (i : Int)) = false:= decide_eq_false (by omega)
        have ha:= fun h => ia_tok hlt h
        have hw : IntKind.wrap .i64 ((i : Int) + 1) = ((i + 1 : Nat) : Int):= by rw [wrapId (by omega) (by omega)];omega
        have hw2 : IntKind.wrap .i64 (((i + 1 : Nat) : Int) - 1) = (i : Int):= by rw [wrapId (by omega) (by omega)];omega
        obtain ⟨e1,e2⟩:= nm_some hlt
        rw [e1,e2]
        by_cases hk : l[i].fK = 1
        · have hq : (l[i].fK != 1) = false:= by simp [hk]
          rw [if_pos hk,if_pos hk]
          simp only [go_sem,kSt_ptr,Nat.reduceBEq,Nat.reduceAdd,Nat.reduceLeDiff,s_impl_tokens_name,hr,hd,ha,TToken.row,hq,hw,hw2]
          exact ⟨fun _ e => (by cases e),_,rfl,rfl,by simp [rdC],fun q hq => by simp [hq],rfl,rfl⟩
        · have hq : (l[i].fK != 1) = true:= by simp [hk]
          rw [if_neg hk,if_neg hk]
          simp only [go_sem,kSt_ptr,Nat.reduceBEq,Nat.reduceAdd,Nat.reduceLeDiff,s_impl_tokens_name,hr,hd,ha,TToken.row,hq,hw,hw2]
          exact ⟨fun _ e => (by cases e),_,rfl,rfl,by simp [rdC],fun q hq => by simp [hq],rfl,rfl⟩
      · have hd : decide ((l.length : Int) ≤ (i : Int)) = true:= decide_eq_true (by omega)
        obtain ⟨e1,e2⟩:= nm_none hlt
        rw [e1,e2]
        simp only [go_sem,kSt_ptr,Nat.reduceBEq,Nat.reduceAdd,Nat.reduceLeDiff,s_impl_tokens_name,hr,hd]
        exact ⟨fun _ e => (by cases e),_,rfl,rfl,by simp [rdC],fun q hq => by simp [hq],rfl,rfl⟩
  obtain ⟨⟨v,h'⟩,k1,k2,k3⟩:= this
  simp only at k2 k3
  subst k2
  exact ⟨h',k1,k3⟩
theorem hP_impl_tokens_name (cs) {l : List TToken} (hl : l.length ≤ 1000) {r : Nat} {s : St} {h : Hp} {d : Option Nat} {os : List SOper} {e : Ps} {Q : QS} (hr : h.hp r = some (rdC l s))
    (hw : ∀ h',RdK l r (nmS l s) h h' → hP (kThen (some (upd? e d (.str (nmV l s)),h')) (EE cs) (lim (EE cs)) os) Q) : hP (kThen (kOper d (some true) (lim (EE cs) 117 [.ptr r 0] h) e h) (EE cs) (lim (EE cs)) os) Q:= by
  obtain ⟨h',k1,k2⟩:= rk_impl_tokens_name cs hl r s h hr
  exact hP_call k1 (hw h' k2)
theorem rk_impl_tokens_typed (cs) {l : List TToken} (hl : l.length ≤ 1000) (r : Nat) (s : St) (h : Hp) (hr : h.hp r = some (rdC l s)) :
    ∃ h',RunF (EE cs) 119 [.ptr r 0] h (.int .i64 (tyI l s),h') ∧ RdK l r (tyIS l s) h h':= by
  have : ∃ rr,RunF (EE cs) 119 [.ptr r 0] h rr ∧ rr.1 = .int .i64 (tyI l s) ∧ RdK l r (tyIS l s) h rr.2:= by
    refine run_wp (st_impl_tokens_typed cs) ?_
    simp only [go_sem,Nat.reduceBEq,s_impl_tokens_typed]
    refine hP_impl_tokens_name cs hl hr ?_
    intro h1 k1
    unfold tyIS tyI tyN
    by_cases a1 : nmV l s = wInt
    · have b1 : (nmV l s == [105,110,116]) = true:= beq_iff_eq.2 a1
      simp only [go_sem,kSt_ptr,Nat.reduceBEq,Nat.reduceAdd,Int.reduceEq,a1]
      exact ⟨fun _ e => (by cases e),_,rfl,rfl,k1⟩
    have b1 : (nmV l s == [105,110,116]) = false:= by rw [beq_eq_false_iff_ne];exact a1
    by_cases a2 : nmV l s = wNum
    · have b2 : (nmV l s == [110,117,109]) = true:= beq_iff_eq.2 a2
      simp only [go_sem,kSt_ptr,Nat.reduceBEq,Nat.reduceAdd,Int.reduceEq,b1,b2,if_neg a1,if_pos a2]
      exact ⟨fun _ e => (by cases e),_,rfl,rfl,k1⟩
    have b2 : (nmV l s == [110,117,109]) = false:= by rw [beq_eq_false_iff_ne];exact a2
    by_cases a3 : nmV l s = wText
    · have b3 : (nmV l s == [116,101,120,116]) = true:= beq_iff_eq.2 a3
      simp only [go_sem,kSt_ptr,Nat.reduceBEq,Nat.reduceAdd,Int.reduceEq,b1,b2,b3,if_neg a1,if_neg a2,if_pos a3]
      exact ⟨fun _ e => (by cases e),_,rfl,rfl,k1⟩
    have b3 : (nmV l s == [116,101,120,116]) = false:= by rw [beq_eq_false_iff_ne];exact a3
    by_cases a4 : nmV l s = wBool
    · have b4 : (nmV l s == [98,111,111,108]) = true:= beq_iff_eq.2 a4
      simp only [go_sem,kSt_ptr,Nat.reduceBEq,Nat.reduceAdd,Int.reduceEq,b1,b2,b3,b4,if_neg a1,if_neg a2,if_neg a3,if_pos a4]
      exact ⟨fun _ e => (by cases e),_,rfl,rfl,k1⟩
    have b4 : (nmV l s == [98,111,111,108]) = false:= by rw [beq_eq_false_iff_ne];exact a4
    have hb:= k1.at_
    unfold rdC at hb
    simp only [go_sem,kSt_ptr,Nat.reduceBEq,Nat.reduceAdd,b1,b2,b3,b4,if_neg a1,if_neg a2,if_neg a3,if_neg a4,hb]
    exact ⟨fun _ e => (by cases e),_,rfl,rfl,by simp [rdC,St.fall],fun q hq => by simp [hq,k1.hp q hq],k1.ap,k1.nx⟩
  obtain ⟨⟨v,h'⟩,k1,k2,k3⟩:= this
  simp only at k2 k3
  subst k2
  exact ⟨h',k1,k3⟩
theorem hP_impl_tokens_typed (cs) {l : List TToken} (hl : l.length ≤ 1000) {r : Nat} {s : St} {h : Hp} {d : Option Nat} {os : List SOper} {e : Ps} {Q : QS} (hr : h.hp r = some (rdC l s))
    (hw : ∀ h',RdK l r (tyIS l s) h h' → hP (kThen (some (upd? e d (.int .i64 (tyI l s)),h')) (EE cs) (lim (EE cs)) os) Q) : hP (kThen (kOper d (some true) (lim (EE cs) 119 [.ptr r 0] h) e h) (EE cs) (lim (EE cs)) os) Q:= by
  obtain ⟨h',k1,k2⟩:= rk_impl_tokens_typed cs hl r s h hr
  exact hP_call k1 (hw h' k2)
theorem rk_impl_tokens_want (cs) {l : List TToken} (hl : l.length ≤ 1000) (r : Nat) (s : St) (w : List UInt8) (h : Hp) (hr : h.hp r = some (rdC l s)) :
    ∃ h',RunF (EE cs) 116 [.ptr r 0,.str w] h (.tup [],h') ∧ RdK l r (mustT l s w) h h':= by
  have : ∃ rr,RunF (EE cs) 116 [.ptr r 0,.str w] h rr ∧ rr.1 = .tup [] ∧ RdK l r (mustT l s w) h rr.2:= by
    refine run_wp (st_impl_tokens_want cs) ?_
    simp only [go_sem,Nat.reduceBEq,s_impl_tokens_want]
    refine hP_impl_tokens_maybe cs hl hr ?_
    intro h1 k1
    cases hq : isT l s w with
    | true =>
      rw [isS_true hq] at k1
      rw [mustT_true hq]
      simp only [go_sem,kSt_ptr,Nat.reduceBEq,Nat.reduceAdd]
      exact ⟨fun _ e => (by cases e),_,rfl,rfl,k1⟩
    | false =>
      rw [isS_false hq] at k1
      rw [mustT_false hq]
      have hb:= k1.at_
      unfold rdC at hb
      simp only [go_sem,kSt_ptr,Nat.reduceBEq,Nat.reduceAdd,hb]
      exact ⟨fun _ e => (by cases e),_,rfl,rfl,by simp [rdC,St.fall],fun q hq => by simp [hq,k1.hp q hq],k1.ap,k1.nx⟩
  obtain ⟨⟨v,h'⟩,k1,k2,k3⟩:= this
  simp only at k2 k3
  subst k2
  exact ⟨h',k1,k3⟩
theorem hP_impl_tokens_want (cs) {l : List TToken} (hl : l.length ≤ 1000) {r : Nat} {s : St} {w : List UInt8} {h : Hp} {d : Option Nat} {os : List SOper} {e : Ps} {Q : QS} (hr : h.hp r = some (rdC l s))
    (hw : ∀ h',RdK l r (mustT l s w) h h' → hP (kThen (some (upd? e d (.tup []),h')) (EE cs) (lim (EE cs)) os) Q) : hP (kThen (kOper d (some true) (lim (EE cs) 116 [.ptr r 0,.str w] h) e h) (EE cs) (lim (EE cs)) os) Q:= by
  obtain ⟨h',k1,k2⟩:= rk_impl_tokens_want cs hl r s w h hr
  exact hP_call k1 (hw h' k2)
end Go.Proofs.YtpolhafmapekpaaGreatDoor.En
namespace Go.Proofs.YtpolhafmapekpaaGreatDoor.En
open Go Go.RowKit Go.Ev
set_option maxHeartbeats 1600000
def plainV : AV → Bool
  | .int _ _ | .bool _ | .str _ => true
  | _ => false
theorem flat_plain {n : Nat} {h : Hp} : ∀ (cs ts : List AV) (R : List Nat),dfzL (Ev.dfz n h) cs = some (ts,R) → (∀ t ∈ ts,plainV t = true) → cs = ts
  | [],ts,R,hd,_ => by simp only [dfzL,Option.some.injEq,Prod.mk.injEq] at hd;exact hd.1
  | c :: cs,ts,R,hd,ht => by
    simp only [dfzL,Option.bind_eq_some_iff,Option.map_eq_some_iff,Prod.mk.injEq] at hd
    obtain ⟨⟨t,R1⟩,h1,⟨us,R2⟩,h2,h3,_⟩:= hd
    simp only at h3
    subst h3
    have e1:= flat_plain cs us R2 h2 fun t ht' => ht t (List.mem_cons_of_mem _ ht')
    have e2:= ht t List.mem_cons_self
    have e3 : c = t:= by
      cases t with
      | int k i => exact (dfz_int h1).1
      | bool b => exact (dfz_bool h1).1
      | str s => exact (dfz_str h1).1
      | _ => cases e2
    rw [e1,e3]
theorem ows_flat {α : Type} {T : TD α} {n lo hi : Nat} {l : List α} {x : AV} {h : Hp} (o : OwS n T lo hi l x h) (hp : ∀ v : α,∀ t ∈ T.row v,plainV t = true) : (x = .snil ∧ l = []) ∨ ∃ r,x = .sl r 0 l.length T.sz ∧ h.hp r = some ((l.map T.row).flatten) ∧ lo ≤ r ∧ r < hi:= by
  rcases o.ex with h0 | ⟨r,cs,R,k1,k2,k3,k4,k5,k6⟩
  · exact .inl h0
  · refine .inr ⟨r,k1,?_,(k6 r List.mem_cons_self).1,(k6 r List.mem_cons_self).2⟩
    rw [k2,flat_plain cs _ R k4 fun t ht => by
      simp only [List.mem_flatten,List.mem_map] at ht
      obtain ⟨row,⟨v,_,rfl⟩,hr⟩:= ht
      exact hp v t hr]
theorem flat_len {α : Type} (T : TD α) : ∀ l : List α,((l.map T.row).flatten).length = l.length * T.sz
  | [] => by simp
  | v :: l => by simp only [List.map_cons,List.flatten_cons,List.length_append,T.len,flat_len T l,List.length_cons,Nat.add_mul,Nat.one_mul];omega
theorem flat_at {α : Type} (T : TD α) {l pre rest : List α} {v : α} (hl : l = pre ++ v :: rest) : ((l.map T.row).flatten).drop (pre.length * T.sz) = T.row v ++ (rest.map T.row).flatten ∧ pre.length * T.sz ≤ ((l.map T.row).flatten).length:= by
  subst hl
  constructor
  · rw [List.map_append,List.flatten_append,List.drop_left' (flat_len T pre),List.map_cons,List.flatten_cons]
  · rw [flat_len,List.length_append,Nat.add_mul]
    omega
def ColsAt (cols : List TCol) (c1 : AV) (r : Nat) (h : Hp) : Prop:= (c1 = .snil ∧ cols = []) ∨ ∃ q,c1 = .sl q 0 cols.length 3 ∧ h.hp q = some ((cols.map TCol.row).flatten) ∧ q < h.nx ∧ q ≠ r
theorem colPlain (v : TCol) : ∀ t ∈ tCol.row v,plainV t = true:= by
  intro t ht
  have ht' : t ∈ [AV.str v.fName,.int .i64 v.fType,.bool v.fNull]:= ht
  simp only [List.mem_cons,List.not_mem_nil,or_false] at ht'
  rcases ht' with rfl | rfl | rfl <;> rfl
theorem ows_colsAt {lo hi r : Nat} {cols : List TCol} {c1 : AV} {h : Hp} (o : OwS 0 tCol lo hi cols c1 h) (hr : r < lo ∨ hi ≤ r) : ColsAt cols c1 r h:= by
  rcases ows_flat o colPlain with h0 | ⟨q,k1,k2,k3,k4⟩
  · exact .inl h0
  · have:= o.le
    exact .inr ⟨q,k1,k2,by omega,by omega⟩
theorem LK0_impl_tokens_parts (cs) {cols : List TCol} (hcl : cols.length ≤ 1048576) {w : List UInt8} {c1 : AV} {r : Nat} {hs : Hp} (hsrc : ColsAt cols c1 r hs) {Q : QS} :
    ∀ (rest pre : List TCol) (cur : Int) (e : Ps) (h : Hp),cols = pre ++ rest → e 19 = c1 → e 20 = .int .i64 cols.length → e 21 = .int .i64 pre.length → e 6 = .str w → e 7 = .int .i64 cur → hs.nx ≤ h.nx → (∀ q,q < hs.nx → h.hp q = hs.hp q) → h.ap = hs.ap →
    (∀ e' h',e' 0 = e 0 → e' 3 = e 3 → e' 5 = e 5 → e' 7 = .int .i64 (lastF w pre.length cur rest) → hs.nx ≤ h'.nx → (∀ q,q < hs.nx → h'.hp q = hs.hp q) → h'.ap = hs.ap → Q (.exit 2) e' h') → WL (EE cs) s_impl_tokens_parts_L0 e h Q:= by
  intro rest
  induction rest with
  | nil =>
    intro pre cur e h hc e19 e20 e21 e6 e7 hnx hhp hap hq
    have hl : pre.length = cols.length:= by rw [hc];simp
    have hd : ¬ (pre.length : Int) < (cols.length : Int):= by omega
    refine .step (wp_sound _ _ _ _ ?_)
    simp only [go_sem,Nat.reduceBEq,s_impl_tokens_parts_L0,e20,e21,hd]
    exact hq _ _ (by simp only [go_sem,Nat.reduceBEq]) (by simp only [go_sem,Nat.reduceBEq]) (by simp only [go_sem,Nat.reduceBEq]) (by simp only [go_sem,Nat.reduceBEq,e7];rfl) hnx hhp hap
  | cons c rest ih =>
    intro pre cur e h hc e19 e20 e21 e6 e7 hnx hhp hap hq
    have hl : pre.length < cols.length:= by rw [hc];simp
    have hd : (pre.length : Int) < (cols.length : Int):= by omega
    have hw : IntKind.wrap .i64 ((pre.length : Int) + 1) = ((pre ++ [c]).length : Int):= by rw [wrapId (by omega) (by omega)];simp
    rcases hsrc with ⟨_,h2⟩ | ⟨q,k1,k2,k3,k4⟩
    · rw [h2] at hl;simp at hl
    obtain ⟨fa,fb⟩:= flat_at tCol hc
    have fa' : ((cols.map TCol.row).flatten).drop (pre.length * 3) = .str c.fName :: .int .i64 c.fType :: .bool c.fNull :: (rest.map TCol.row).flatten:= fa
    have fb' : pre.length * 3 ≤ ((cols.map TCol.row).flatten).length:= fb
    have ia : ∀ h : Hp,kIa 3 (.sl q 0 cols.length 3) (.int .i64 (pre.length : Int)) h = some (.ptr q (pre.length * 3),h):= fun h => by
      rw [kIa_sl (by omega) (by rw [Int.toNat_natCast];exact hl),Int.toNat_natCast,Nat.zero_add]
    have hq' : h.hp q = _:= (hhp q k3).trans k2
    have g : ¬ q = h.nx:= by omega
    have tl : ∀ xs : List AV,3 ≤ (AV.str c.fName :: .int .i64 c.fType :: .bool c.fNull :: xs).length:= fun xs => by simp
    refine .step (wp_sound _ _ _ _ ?_)
    by_cases hn : c.fName = w
    · have hb : (c.fName == w) = true:= by simp [hn]
      simp only [go_sem,kSt_ptr,Nat.reduceBEq,Nat.reduceAdd,Nat.reduceLeDiff,s_impl_tokens_parts_L0,e19,e20,e21,e6,hd,k1,ia,hq',fa',fb',hb,hw]
      refine ih (pre ++ [c]) (pre.length : Int) _ _ (by rw [hc];simp) (by simp only [go_sem,Nat.reduceBEq,e19,k1]) (by simp only [go_sem,Nat.reduceBEq,e20]) (by simp only [go_sem,Nat.reduceBEq]) (by simp only [go_sem,Nat.reduceBEq,e6]) (by simp only [go_sem,Nat.reduceBEq]) (by simp only [];omega) ?_ hap ?_
      · intro p hp
        have g' : ¬ p = h.nx:= by omega
        simp only [g',if_false]
        exact hhp p hp
      · intro e' h' a0 a3 a5 a7 a8 a9 a10
        refine hq e' h' (a0.trans (by simp only [go_sem,Nat.reduceBEq])) (a3.trans (by simp only [go_sem,Nat.reduceBEq])) (a5.trans (by simp only [go_sem,Nat.reduceBEq])) ?_ a8 a9 a10
        rw [a7]
        simp only [lastF,hn,if_true,List.length_append,List.length_cons,List.length_nil]
    · have hb : (c.fName == w) = false:= by simp [hn]
      simp only [go_sem,kSt_ptr,Nat.reduceBEq,Nat.reduceAdd,Nat.reduceLeDiff,s_impl_tokens_parts_L0,e19,e20,e21,e6,hd,k1,ia,hq',fa',fb',hb,hw]
      refine ih (pre ++ [c]) cur _ _ (by rw [hc];simp) (by simp only [go_sem,Nat.reduceBEq,e19,k1]) (by simp only [go_sem,Nat.reduceBEq,e20]) (by simp only [go_sem,Nat.reduceBEq]) (by simp only [go_sem,Nat.reduceBEq,e6]) (by simp only [go_sem,Nat.reduceBEq,e7]) (by simp only [];omega) ?_ hap ?_
      · intro p hp
        have g' : ¬ p = h.nx:= by omega
        simp only [g',if_false]
        exact hhp p hp
      · intro e' h' a0 a3 a5 a7 a8 a9 a10
        refine hq e' h' (a0.trans (by simp only [go_sem,Nat.reduceBEq])) (a3.trans (by simp only [go_sem,Nat.reduceBEq])) (a5.trans (by simp only [go_sem,Nat.reduceBEq])) ?_ a8 a9 a10
        rw [a7]
        simp only [lastF,hn,if_false,List.length_append,List.length_cons,List.length_nil]
theorem LK1_impl_tokens_parts (cs) {l : List TToken} (hl : l.length ≤ 1000) {nm : List UInt8} {cols : List TCol} (hcl : cols.length ≤ 1048576) {c1 c2 c3 : AV} {r H : Nat} (hrH : r < H) {h0 : Hp} (hH : h0.nx = H) (hsrc : ColsAt cols c1 r h0) {Q : QS} :
    ∀ (m : Nat) (acc : List TBy) (s : St) (v : AV) (e : Ps) (h : Hp),(l.length + 2 ≤ s.at_ + m ∨ (s.bad = true ∧ 1 ≤ m)) → s.at_ ≤ l.length → acc.length + m ≤ 2000 → e 0 = .ptr r 0 → e 3 = .ptr H 0 → e 5 = v → H + 1 ≤ h.nx → h.hp r = some (rdC l s) → h.hp H = some [.str nm,c1,c2,c3] → OwS 0 tBy (H + 1) h.nx acc v h → (∀ q,q < H → q ≠ r → h.hp q = h0.hp q) → h.ap = h0.ap →
    (∀ e' h' v',e' 5 = v' → H + 1 ≤ h'.nx → h'.hp r = some (rdC l (partsF l (colLast cols) m acc s).2) → OwS 0 tBy (H + 1) h'.nx (partsF l (colLast cols) m acc s).1 v' h' → (∀ q,q < H → q ≠ r → h'.hp q = h0.hp q) → h'.ap = h0.ap → Q (.exit 0) e' h') → WL (EE cs) s_impl_tokens_parts_L1 e h Q:= by
  intro m
  induction m with
  | zero =>
    intro acc s v e h hm hs
    omega
  | succ m ih =>
    intro acc s v e h hm hsl ha e0 e3 e5 hnx hr hb o f1 f2 hq
    have hr0:= hr
    unfold rdC at hr
    cases hbad : s.bad with
    | true =>
      rw [hbad] at hr
      have e1 : partsF l (colLast cols) (m + 1) acc s = (acc,s):= by simp only [partsF,hbad,if_true]
      rw [e1] at hq
      refine .step (wp_sound _ _ _ _ ?_)
      simp only [go_sem,Nat.reduceBEq,Nat.reduceAdd,Nat.reduceLeDiff,s_impl_tokens_parts_L1,e0,hr]
      exact hq _ _ v (by simp only [go_sem,Nat.reduceBEq,e5]) hnx hr0 o f1 f2
    | false =>
      have hm' : l.length + 2 ≤ s.at_ + (m + 1):= by rcases hm with h | ⟨h,_⟩;exact h;rw [hbad] at h;cases h
      rw [hbad] at hr
      have st1:= stp_nm (l:= l) s
      have st2:= stp_is (l:= l) (nmS l s) wDesc
      have lenc : ∀ h2 : Hp,kLenL c1 h2 = some (.int .i64 (cols.length : Int),h2):= fun h2 => by
        rcases hsrc with ⟨p1,p2⟩ | ⟨q,p1,_⟩
        · rw [p1,p2];rfl
        · rw [p1];rfl
      refine .step (wp_sound _ _ _ _ ?_)
      simp only [go_sem,Nat.reduceBEq,Nat.reduceAdd,Nat.reduceLeDiff,s_impl_tokens_parts_L1,e0,hr]
      refine hP_impl_tokens_name cs hl hr0 ?_
      intro h1 k1
      have x1 : h1.nx = h.nx:= k1.nx
      have b1 : h1.hp H = _:= (k1.hp _ (by omega)).trans hb
      have src1 : ColsAt cols c1 r h1:= by
        rcases hsrc with p | ⟨q,p1,p2,p3,p4⟩
        · exact .inl p
        · exact .inr ⟨q,p1,by rw [k1.hp q p4,f1 q (by omega) p4,p2],by omega,p4⟩
      simp only [go_sem,Nat.reduceBEq,Nat.reduceAdd,Nat.reduceLeDiff,e3,b1,lenc]
      refine LK0_impl_tokens_parts cs hcl (w:= nmV l s) src1 cols [] (-1) _ h1 rfl (by simp only [go_sem,Nat.reduceBEq]) (by simp only [go_sem,Nat.reduceBEq]) (by simp only [go_sem,Nat.reduceBEq]) (by simp only [go_sem,Nat.reduceBEq]) (by simp only [go_sem,Nat.reduceBEq]) (Nat.le_refl _) (fun _ _ => rfl) rfl ?_
      intro e2 h2 a0 a3 a5 a7 a8 a9 a10
      simp only [go_sem,Nat.reduceBEq,e0,e3,e5] at a0 a3 a5
      have hcl7 : lastF (nmV l s) ([] : List TCol).length (-1) cols = colLast cols (nmV l s):= rfl
      rw [hcl7] at a7
      have fb : ∀ a : Int,sFill [AV.int .i64 0,.bool false] [(0,1,.int .i64 a)] = some [.int .i64 a,.bool false]:= fun _ => rfl
      have fr : ∀ (a : Int) (x : Bool),fillR (List.replicate 1 [AV.int .i64 0,.bool false]) 2 [(0,.agg [.int .i64 a,.bool x])] = some [[.int .i64 a,.bool x]]:= fun _ _ => rfl
      have g0 : ¬ r = h2.nx:= by omega
      simp only [go_sem,kSt_ptr,Nat.reduceBEq,Nat.reduceAdd,a0,a7,fb]
      refine hP_impl_tokens_maybe cs hl (s:= nmS l s) (w:= wDesc) (by simp only [g0,if_false];rw [a9 r (by omega)];exact k1.at_) ?_
      intro h3 k3
      have x3 : h3.nx = h2.nx + 1:= k3.nx
      have bb : h3.hp h2.nx = some [.int .i64 (colLast cols (nmV l s)),.bool false]:= (k3.hp _ (by omega)).trans (by simp)
      have hp3 : ∀ q,q < h.nx → q ≠ r → h3.hp q = h.hp q:= fun q q1 q2 => by
        have g : ¬ q = h2.nx:= by omega
        rw [k3.hp q q2]
        simp only [g,if_false]
        rw [a9 q (by omega),k1.hp q q2]
      have ap3 : h3.ap = h.ap:= by
        rw [k3.ap]
        show h2.ap = _
        rw [a10,k1.ap]
      have g1 : ¬ h3.nx = h2.nx:= by omega
      have g2 : ¬ h2.nx = h3.nx:= by omega
      simp only [go_sem,kSt_ptr,Nat.reduceBEq,Nat.reduceAdd,a5,bb,fr]
      have hpf : partsF l (colLast cols) (m + 1) acc s = if isT l (isS l (nmS l s) wDesc) [59] then (acc ++ [⟨colLast cols (nmV l s),isT l (nmS l s) wDesc⟩],(isS l (nmS l s) wDesc).adv) else if isT l (isS l (nmS l s) wDesc) [44] then partsF l (colLast cols) m (acc ++ [⟨colLast cols (nmV l s),isT l (nmS l s) wDesc⟩]) (isS l (nmS l s) wDesc).adv else (acc ++ [⟨colLast cols (nmV l s),isT l (nmS l s) wDesc⟩],(isS l (nmS l s) wDesc).fall):= by simp only [partsF,hbad,Bool.false_eq_true,if_false]
      rw [hpf] at hq
      have le2:= (st1.trans st2).le
      have in2:= (st1.trans st2).inn hsl
      have gd:= fun (hg : (isS l (nmS l s) wDesc).bad = false) => nm_good (st2.good hg)
      have le3:= st2.le
      have k3':= k3
      generalize isS l (nmS l s) wDesc = s2 at *
      generalize colLast cols (nmV l s) = k at *
      generalize isT l (nmS l s) wDesc = dd at *
      refine hP_growL (T:= tBy) (l:= acc) (lo:= H + 1) (hi:= h.nx) [⟨k,dd⟩] rfl rfl (o.mono (by simp only [];omega) fun q q1 q2 => by
        have g : ¬ q = h3.nx:= by omega
        have g' : ¬ q = h2.nx:= by omega
        simp only [g,g',if_false]
        exact hp3 q q2 (by omega)) (rowsIn_sl1 (cs:= [.int .i64 k,.bool dd]) (by simp) rfl) (by simp only [List.length_cons,List.length_nil];unfold room;omega) ?_
      intro v' h4 w1 w2 w3 w4
      have x4 : h3.nx + 1 ≤ h4.nx:= w2
      have g3 : ¬ r = h3.nx:= by omega
      have g4 : ¬ r = h2.nx:= by omega
      have r4 : h4.hp r = some (rdC l s2):= (w3 r (by omega) (by simp only [];omega)).trans (by simp only [g3,g4,if_false];exact k3'.at_)
      have hp4 : ∀ q,q < H + 1 → q ≠ r → h4.hp q = h.hp q:= fun q q1 q2 => by
        have g : ¬ q = h3.nx:= by omega
        have g' : ¬ q = h2.nx:= by omega
        rw [w3 q (by omega) (by simp only [];omega)]
        simp only [g,g',if_false]
        exact hp3 q (by omega) q2
      have ap4 : h4.ap = h.ap:= w4.trans ap3
      simp only [go_sem,Nat.reduceBEq,a0]
      refine hP_impl_tokens_maybe cs hl (w:= [59]) r4 ?_
      intro h5 k5
      have x5 : h5.nx = h4.nx:= k5.nx
      cases ht : isT l s2 [59] with
      | true =>
        rw [ht] at hq
        simp only [if_true] at hq
        rw [isS_true ht] at k5
        simp only [go_sem,Nat.reduceBEq,a0]
        refine hq _ h5 v' (by simp only [go_sem,Nat.reduceBEq]) (by omega) k5.at_ ?_ (fun q q1 q2 => by rw [k5.hp q q2,hp4 q (by omega) q2,f1 q q1 q2]) (by rw [k5.ap,ap4,f2])
        exact (w1.mono (by omega) fun q q1 q2 => k5.hp q (by omega)).wide (Nat.le_refl _) (by omega) (Nat.le_refl _)
      | false =>
        rw [ht] at hq
        simp only [Bool.false_eq_true,if_false] at hq
        rw [isS_false ht] at k5
        simp only [go_sem,Nat.reduceBEq,a0]
        refine hP_impl_tokens_want cs hl (w:= [44]) k5.at_ ?_
        intro h6 k6
        have x6 : h6.nx = h5.nx:= k6.nx
        have hpf2 : (if isT l s2 [44] = true then partsF l (colLast cols) m (acc ++ [⟨k,dd⟩]) s2.adv else (acc ++ [⟨k,dd⟩],s2.fall)) = partsF l (colLast cols) m (acc ++ [⟨k,dd⟩]) (mustT l s2 [44]):= by
          unfold mustT
          cases isT l s2 [44] with
          | true => rfl
          | false => simp only [Bool.false_eq_true,if_false];rw [partsB _ _ _ _ rfl]
        rw [hpf2] at hq
        have st6:= stp_must (l:= l) s2 [44]
        simp only [go_sem]
        refine ih (acc ++ [⟨k,dd⟩]) (mustT l s2 [44]) v' _ h6 ?_ (st6.inn in2) (by simp;omega) (by simp only [go_sem,Nat.reduceBEq,a0]) (by simp only [go_sem,Nat.reduceBEq,a3]) (by simp only [go_sem,Nat.reduceBEq]) (by omega) k6.at_ ((k6.hp _ (by omega)).trans ((k5.hp _ (by omega)).trans ((hp4 _ (by omega) (by omega)).trans hb))) ?_ (fun q q1 q2 => by rw [k6.hp q q2,k5.hp q q2,hp4 q (by omega) q2,f1 q q1 q2]) (by rw [k6.ap,k5.ap,ap4,f2]) hq
        · cases hb' : (mustT l s2 [44]).bad with
          | true => exact .inr ⟨rfl,by omega⟩
          | false =>
            have z1:= gd (st6.good hb')
            have z2:= (must_good hb').1
            exact .inl (by omega)
        · exact (w1.mono (by omega) fun q q1 q2 => (k6.hp q (by omega)).trans (k5.hp q (by omega))).wide (Nat.le_refl _) (by omega) (Nat.le_refl _)
theorem rk_impl_tokens_parts (cs) {l : List TToken} (hl : l.length ≤ 1000) {nm : List UInt8} {cols : List TCol} (hcl : cols.length ≤ 1048576) {c1 c2 c3 : AV} (r : Nat) (s : St) (h : Hp) (hsrc : ColsAt cols c1 r h) (nc1 : notCell c1 = false) (nc2 : notCell c2 = false) (nc3 : notCell c3 = false) (hsl : s.at_ ≤ l.length) (hr : h.hp r = some (rdC l s)) (hrn : r < h.nx) :
    ∃ v h',RunF (EE cs) 120 [.ptr r 0,.agg [.str nm,c1,c2,c3]] h (v,h') ∧ OwS 0 tBy h.nx h'.nx (partsF l (colLast cols) (l.length + 2) [] s).1 v h' ∧ RdO l r (partsF l (colLast cols) (l.length + 2) [] s).2 h h':= by
  have : ∃ rr,RunF (EE cs) 120 [.ptr r 0,.agg [.str nm,c1,c2,c3]] h rr ∧ OwS 0 tBy h.nx rr.2.nx (partsF l (colLast cols) (l.length + 2) [] s).1 rr.1 rr.2 ∧ RdO l r (partsF l (colLast cols) (l.length + 2) [] s).2 h rr.2:= by
    refine run_wp (st_impl_tokens_parts cs) ?_
    have n1 : ¬ r = h.nx:= by omega
    simp only [go_sem,s_impl_tokens_parts]
    refine LK1_impl_tokens_parts cs hl (nm:= nm) (c2:= c2) (c3:= c3) hcl (r:= r) (H:= h.nx) (h0:= h) hrn rfl hsrc (l.length + 2) [] s .snil _ _ (.inl (by omega)) hsl (by simp only [List.length_nil];omega) (by simp only [go_sem,Nat.reduceBEq]) (by simp only [go_sem,Nat.reduceBEq]) (by simp only [go_sem,Nat.reduceBEq]) (by simp) (by simp only [n1,if_false];exact hr) (by simp) (OwS.nil _ _ (by simp) (by simp)) (fun q hq hqr => by have g : ¬ q = h.nx:= (by omega);simp only [g,if_false]) rfl ?_
    intro e' h' v' a5 a6 a7 a8 a9 a10
    simp only [go_sem,Nat.reduceBEq,a5]
    refine ⟨fun _ e => (by cases e),v',rfl,a8.wide (by omega) (Nat.le_refl _) (Nat.le_refl _),a7,a9,a10,by omega⟩
  obtain ⟨⟨v,h'⟩,k1,k2,k3⟩:= this
  exact ⟨v,h',k1,k2,k3⟩
theorem hP_impl_tokens_parts (cs) {l : List TToken} (hl : l.length ≤ 1000) {nm : List UInt8} {cols : List TCol} (hcl : cols.length ≤ 1048576) {c1 c2 c3 : AV} {r : Nat} {s : St} {h : Hp} {d : Option Nat} {os : List SOper} {e : Ps} {Q : QS} (hsrc : ColsAt cols c1 r h) (nc1 : notCell c1 = false) (nc2 : notCell c2 = false) (nc3 : notCell c3 = false) (hsl : s.at_ ≤ l.length) (hr : h.hp r = some (rdC l s)) (hrn : r < h.nx)
    (hw : ∀ v h',OwS 0 tBy h.nx h'.nx (partsF l (colLast cols) (l.length + 2) [] s).1 v h' → RdO l r (partsF l (colLast cols) (l.length + 2) [] s).2 h h' → hP (kThen (some (upd? e d v,h')) (EE cs) (lim (EE cs)) os) Q) : hP (kThen (kOper d (some true) (lim (EE cs) 120 [.ptr r 0,.agg [.str nm,c1,c2,c3]] h) e h) (EE cs) (lim (EE cs)) os) Q:= by
  obtain ⟨v,h',k1,k2,k3⟩:= rk_impl_tokens_parts cs hl hcl r s h hsrc nc1 nc2 nc3 hsl hr hrn
  exact hP_call k1 (hw v h' k2 k3)
end Go.Proofs.YtpolhafmapekpaaGreatDoor.En
namespace Go.Proofs.YtpolhafmapekpaaGreatDoor.En
open Go Go.RowKit Go.Ev
set_option maxHeartbeats 1600000
theorem LK0_impl_tokens_def (cs) {l : List TToken} (hl : l.length ≤ 1000) (htk : ∀ t ∈ l,tokOk t = true) {n : List UInt8} {r H : Nat} (hrH : r < H) {h0 : Hp} {Q : QS} :
    ∀ (m : Nat) (acc : List TCol) (s : St) (v : AV) (e : Ps) (h : Hp),(l.length + 2 ≤ s.at_ + m ∨ (s.bad = true ∧ 1 ≤ m)) → s.at_ ≤ l.length → acc.length + m ≤ 2000 → e 0 = .ptr r 0 → e 2 = .ptr H 0 → e 3 = .ptr (H + 1) 0 → H + 2 ≤ h.nx → h.hp r = some (rdC l s) → h.hp H = some [.str [],.snil,.snil,.snil] → h.hp (H + 1) = some [.str n,v,.snil,.snil] → OwS 0 tCol (H + 2) h.nx acc v h → (∀ q,q < H → q ≠ r → h.hp q = h0.hp q) → h.ap = h0.ap →
    (∀ e' h' v',e' 0 = .ptr r 0 → e' 2 = .ptr H 0 → e' 3 = .ptr (H + 1) 0 → H + 2 ≤ h'.nx → h'.hp r = some (rdC l (colsF l (colI l) m acc s).2) → h'.hp H = some [.str [],.snil,.snil,.snil] → h'.hp (H + 1) = some [.str n,v',.snil,.snil] → OwS 0 tCol (H + 2) h'.nx (colsF l (colI l) m acc s).1 v' h' → (∀ q,q < H → q ≠ r → h'.hp q = h0.hp q) → h'.ap = h0.ap → Q (.exit 0) e' h') → WL (EE cs) s_impl_tokens_def_L0 e h Q:= by
  intro m
  induction m with
  | zero =>
    intro acc s v e h hm hs
    omega
  | succ m ih =>
    intro acc s v e h hm hsl ha e0 e2 e3 hnx hr hb2 hb3 o f1 f2 hq
    have hr0:= hr
    unfold rdC at hr
    cases hbad : s.bad with
    | true =>
      rw [hbad] at hr
      have e1 : colsF l (colI l) (m + 1) acc s = (acc,s):= by simp only [colsF,hbad,if_true]
      rw [e1] at hq
      refine .step (wp_sound _ _ _ _ ?_)
      simp only [go_sem,Nat.reduceBEq,Nat.reduceAdd,Nat.reduceLeDiff,s_impl_tokens_def_L0,e0,hr]
      exact hq _ _ v (by simp only [go_sem,Nat.reduceBEq,e0]) (by simp only [go_sem,Nat.reduceBEq,e2]) (by simp only [go_sem,Nat.reduceBEq,e3]) hnx hr0 hb2 hb3 o f1 f2
    | false =>
      have hm' : l.length + 2 ≤ s.at_ + (m + 1):= by rcases hm with h | ⟨h,_⟩;exact h;rw [hbad] at h;cases h
      rw [hbad] at hr
      refine .step (wp_sound _ _ _ _ ?_)
      simp only [go_sem,Nat.reduceBEq,Nat.reduceAdd,Nat.reduceLeDiff,s_impl_tokens_def_L0,e0,hr]
      refine hP_impl_tokens_maybe cs hl (w:= wPrimary) hr0 ?_
      intro h1 k1
      have x1 : h1.nx = h.nx:= k1.nx
      cases hp : isT l s wPrimary with
      | true =>
        have e1 : colsF l (colI l) (m + 1) acc s = (acc,s.adv):= by simp only [colsF,hbad,Bool.false_eq_true,if_false,hp,if_true]
        rw [e1] at hq
        rw [isS_true hp] at k1
        simp only [go_sem,Nat.reduceBEq,e0]
        exact hq _ h1 v (by simp only [go_sem,Nat.reduceBEq,e0]) (by simp only [go_sem,Nat.reduceBEq,e2]) (by simp only [go_sem,Nat.reduceBEq,e3]) (by omega) k1.at_ ((k1.hp _ (by omega)).trans hb2) ((k1.hp _ (by omega)).trans hb3) ((o.mono (by omega) fun q q1 q2 => k1.hp q (by omega)).wide (Nat.le_refl _) (by omega) (Nat.le_refl _)) (fun q q1 q2 => (k1.hp q q2).trans (f1 q q1 q2)) (by rw [k1.ap];exact f2)
      | false =>
        have hcr:= colR_I htk
        have cst:= hcr.stp s
        have cgo:= hcr.go s
        have e1 : colsF l (colI l) (m + 1) acc s = colsF l (colI l) m (acc ++ [(colI l s).1]) (colI l s).2:= by simp only [colsF,hbad,Bool.false_eq_true,if_false,hp]
        rw [e1] at hq
        rw [isS_false hp] at k1
        have ec : colI l s = colTail l (nmV l s) (tyI l (nmS l s)) (tyIS l (nmS l s)):= rfl
        simp only [go_sem,Nat.reduceBEq,e0]
        refine hP_impl_tokens_name cs hl k1.at_ ?_
        intro h2 k2
        have x2 : h2.nx = h.nx:= k2.nx.trans x1
        have g0 : ¬ r = h2.nx:= by omega
        have fb : ∀ a : List UInt8,sFill [AV.str [],.int .i64 0,.bool false] [(0,1,.str a)] = some [.str a,.int .i64 0,.bool false]:= fun _ => rfl
        simp only [go_sem,kSt_ptr,Nat.reduceBEq,Nat.reduceAdd,e0,fb]
        refine hP_impl_tokens_typed cs hl (s:= nmS l s) (by simp only [g0,if_false];exact k2.at_) ?_
        intro h3 k3
        have x3 : h3.nx = h2.nx + 1:= k3.nx
        have b4 : h3.hp h2.nx = some [.str (nmV l s),.int .i64 0,.bool false]:= (k3.hp _ (by omega)).trans (by simp)
        simp only [go_sem,kSt_ptr,Nat.reduceBEq,Nat.reduceAdd,Nat.reduceLeDiff,e0,b4]
        refine hP_impl_tokens_maybe cs hl (s:= tyIS l (nmS l s)) (w:= wNull) (by simp only [g0,if_false];exact k3.at_) ?_
        intro h4 k4
        have x4 : h4.nx = h3.nx:= k4.nx
        have b5 : h4.hp h2.nx = some [.str (nmV l s),.int .i64 (tyI l (nmS l s)),.bool false]:= (k4.hp _ (by omega)).trans (by simp)
        simp only [go_sem,kSt_ptr,Nat.reduceBEq,Nat.reduceAdd,e0,b5]
        refine hP_impl_tokens_want cs hl (s:= isS l (tyIS l (nmS l s)) wNull) (w:= [59]) (by simp only [g0,if_false];exact k4.at_) ?_
        intro h5 k5
        have x5 : h5.nx = h4.nx:= k5.nx
        have b6 : h5.hp h2.nx = some [.str (nmV l s),.int .i64 (tyI l (nmS l s)),.bool (isT l (tyIS l (nmS l s)) wNull)]:= (k5.hp _ (by omega)).trans (by simp)
        have hp5 : ∀ q,q < h.nx → q ≠ r → h5.hp q = h.hp q:= fun q q1 q2 => by
          have g : ¬ q = h2.nx:= by omega
          rw [k5.hp q q2]
          simp only [g,if_false]
          rw [k4.hp q q2]
          simp only [g,if_false]
          rw [k3.hp q q2]
          simp only [g,if_false]
          rw [k2.hp q q2,k1.hp q q2]
        have ap5 : h5.ap = h.ap:= by
          rw [k5.ap]
          show h4.ap = _
          rw [k4.ap]
          show h3.ap = _
          rw [k3.ap]
          show h2.ap = _
          rw [k2.ap,k1.ap]
        have r5 : h5.hp r = some (rdC l (colI l s).2):= k5.at_
        have b3 : h5.hp (H + 1) = _:= (hp5 _ (by omega) (by omega)).trans hb3
        have b2 : h5.hp H = _:= (hp5 _ (by omega) (by omega)).trans hb2
        have hcol : (⟨nmV l s,tyI l (nmS l s),isT l (tyIS l (nmS l s)) wNull⟩ : TCol) = (colI l s).1:= rfl
        have g1 : ¬ H + 1 = h2.nx:= by omega
        have g2 : ¬ H + 1 = h5.nx:= by omega
        have g3 : ¬ h2.nx = h5.nx:= by omega
        generalize nmV l s = xn at *
        generalize tyI l (nmS l s) = xt at *
        generalize isT l (tyIS l (nmS l s)) wNull = xb at *
        have fr : fillR (List.replicate 1 [AV.str [],.int .i64 0,.bool false]) 3 [(0,.agg [.str xn,.int .i64 xt,.bool xb])] = some [[.str xn,.int .i64 xt,.bool xb]]:= rfl
        simp only [go_sem,Nat.reduceBEq,Nat.reduceAdd,Nat.reduceLeDiff,e3,b3,b6,fr]
        refine hP_growL (T:= tCol) (l:= acc) (lo:= H + 2) (hi:= h.nx) [⟨xn,xt,xb⟩] rfl rfl (o.mono (by simp only [];omega) fun q q1 q2 => by
          have g : ¬ q = h5.nx:= by omega
          simp only [g,if_false]
          exact hp5 q q2 (by omega)) (rowsIn_sl1 (cs:= [.str xn,.int .i64 xt,.bool xb]) (by simp) rfl) (by simp only [List.length_cons,List.length_nil];unfold room;omega) ?_
        intro v' h6 w1 w2 w3 w4
        have x6 : h5.nx + 1 ≤ h6.nx:= w2
        obtain ⟨_,cv,nv⟩:= w1.owA
        have hp6 : ∀ q,q < H + 2 → h6.hp q = h5.hp q:= fun q q1 => by
          have g : ¬ q = h5.nx:= by omega
          rw [w3 q (by omega) (by simp only [];omega)]
          simp only [g,if_false]
        have d3 : h6.hp (H + 1) = some [.str n,v,.snil,.snil]:= (hp6 _ (by omega)).trans b3
        have d2 : h6.hp H = _:= (hp6 _ (by omega)).trans b2
        have ap6 : h6.ap = h.ap:= w4.trans ap5
        simp only [go_sem,kSt_ptr,Nat.reduceBEq,Nat.reduceAdd,Nat.reduceLeDiff,e3,d3,nv,cv]
        rw [hcol] at w1
        refine ih (acc ++ [(colI l s).1]) (colI l s).2 v' _ _ ?_ (cst.inn hsl) (by simp;omega) (by simp only [go_sem,Nat.reduceBEq,e0]) (by simp only [go_sem,Nat.reduceBEq,e2]) (by simp only [go_sem,Nat.reduceBEq,e3]) (by simp only [];omega) ?_ ?_ ?_ (w1.mono (by simp) fun q q1 q2 => by simp [show ¬ q = H + 1 by omega]) ?_ ?_ hq
        · cases hb' : (colI l s).2.bad with
          | true => exact .inr ⟨rfl,by omega⟩
          | false => have:= cgo hb';exact .inl (by omega)
        · have g : ¬ r = H + 1:= by omega
          simp only [g,if_false];rw [hp6 r (by omega)];exact r5
        · have g : ¬ H = H + 1:= by omega
          simp only [g,if_false];exact d2
        · simp
        · intro q q1 q2
          have g : ¬ q = H + 1:= by omega
          simp only [g,if_false]
          rw [hp6 q (by omega),hp5 q (by omega) q2]
          exact f1 q q1 q2
        · show h6.ap = _
          rw [ap6,f2]
theorem LK1_impl_tokens_def (cs) {l : List TToken} (hl : l.length ≤ 1000) (htk : ∀ t ∈ l,tokOk t = true) {n : List UInt8} {cols : List TCol} (hcl : cols.length ≤ 1048576) {c1 c2 : AV} {r H L : Nat} (hrH : r < H) (hHL : H + 2 ≤ L) {hL : Hp} (hLn : L ≤ hL.nx) (hsrc : ∀ h' : Hp,L ≤ h'.nx → (∀ q,q < L → q ≠ r → q ≠ H + 1 → h'.hp q = hL.hp q) → ColsAt cols c1 r h') (nc1 : notCell c1 = false) (nc2 : notCell c2 = false) {Q : QS} :
    ∀ (m : Nat) (acc : List TIndex) (s : St) (v : AV) (e : Ps) (h : Hp),(l.length + 2 ≤ s.at_ + m ∨ (s.bad = true ∧ 1 ≤ m)) → s.at_ ≤ l.length → acc.length + m ≤ 2000 → e 0 = .ptr r 0 → e 2 = .ptr H 0 → e 3 = .ptr (H + 1) 0 → L ≤ h.nx → h.hp r = some (rdC l s) → h.hp (H + 1) = some [.str n,c1,c2,v] → OwS 1 tIndex L h.nx acc v h → (∀ q,q < L → q ≠ r → q ≠ H + 1 → h.hp q = hL.hp q) → h.ap = hL.ap →
    (∀ e' h' v',e' 0 = .ptr r 0 → e' 2 = .ptr H 0 → e' 3 = .ptr (H + 1) 0 → L ≤ h'.nx → h'.hp r = some (rdC l (ixF l (colLast cols) (l.length + 2) m acc s).2) → h'.hp (H + 1) = some [.str n,c1,c2,v'] → OwS 1 tIndex L h'.nx (ixF l (colLast cols) (l.length + 2) m acc s).1 v' h' → (∀ q,q < L → q ≠ r → q ≠ H + 1 → h'.hp q = hL.hp q) → h'.ap = hL.ap → Q (.exit 2) e' h') → WL (EE cs) s_impl_tokens_def_L1 e h Q:= by
  intro m
  induction m with
  | zero =>
    intro acc s v e h hm hs
    omega
  | succ m ih =>
    intro acc s v e h hm hsl ha e0 e2 e3 hnx hr hb3 o f1 f2 hq
    have hr0:= hr
    unfold rdC at hr
    cases hbad : s.bad with
    | true =>
      rw [hbad] at hr
      have e1 : ixF l (colLast cols) (l.length + 2) (m + 1) acc s = (acc,s):= by simp only [ixF,hbad,if_true]
      rw [e1] at hq
      refine .step (wp_sound _ _ _ _ ?_)
      simp only [go_sem,Nat.reduceBEq,Nat.reduceAdd,Nat.reduceLeDiff,s_impl_tokens_def_L1,e0,hr]
      exact hq _ _ v (by simp only [go_sem,Nat.reduceBEq,e0]) (by simp only [go_sem,Nat.reduceBEq,e2]) (by simp only [go_sem,Nat.reduceBEq,e3]) hnx hr0 hb3 o f1 f2
    | false =>
      have hm' : l.length + 2 ≤ s.at_ + (m + 1):= by rcases hm with h | ⟨h,_⟩;exact h;rw [hbad] at h;cases h
      rw [hbad] at hr
      refine .step (wp_sound _ _ _ _ ?_)
      simp only [go_sem,Nat.reduceBEq,Nat.reduceAdd,Nat.reduceLeDiff,s_impl_tokens_def_L1,e0,hr]
      refine hP_impl_tokens_maybe cs hl (w:= [125]) hr0 ?_
      intro h1 k1
      have x1 : h1.nx = h.nx:= k1.nx
      cases hp : isT l s [125] with
      | true =>
        have e1 : ixF l (colLast cols) (l.length + 2) (m + 1) acc s = (acc,s.adv):= by simp only [ixF,hbad,Bool.false_eq_true,if_false,hp,if_true]
        rw [e1] at hq
        rw [isS_true hp] at k1
        simp only [go_sem,Nat.reduceBEq,e0]
        exact hq _ h1 v (by simp only [go_sem,Nat.reduceBEq,e0]) (by simp only [go_sem,Nat.reduceBEq,e2]) (by simp only [go_sem,Nat.reduceBEq,e3]) (by omega) k1.at_ ((k1.hp _ (by omega)).trans hb3) ((o.mono (by omega) fun q q1 q2 => k1.hp q (by omega)).wide (Nat.le_refl _) (by omega) (Nat.le_refl _)) (fun q q1 q2 q3 => (k1.hp q q2).trans (f1 q q1 q2 q3)) (by rw [k1.ap];exact f2)
      | false =>
        rw [isS_false hp] at k1
        simp only [go_sem,Nat.reduceBEq,e0]
        refine hP_impl_tokens_maybe cs hl (w:= wUnique) k1.at_ ?_
        intro h2 k2
        have x2 : h2.nx = h.nx:= k2.nx.trans x1
        have g0 : ¬ r = h2.nx:= by omega
        have fb : ∀ b : Bool,sFill [AV.str [],.bool false,.snil] [(1,1,.bool b)] = some [.str [],.bool b,.snil]:= fun _ => rfl
        cases hu : isT l s wUnique with
        | true =>
          rw [isS_true hu] at k2
          have hst : Stp l s s.adv:= stp_adv (isT_lt hu).1
          have hix : ixF l (colLast cols) (l.length + 2) (m + 1) acc s = ixF l (colLast cols) (l.length + 2) m (acc ++ [⟨nmV l s.adv,true,(partsF l (colLast cols) (l.length + 2) [] (nmS l s.adv)).1⟩]) (partsF l (colLast cols) (l.length + 2) [] (nmS l s.adv)).2:= by simp only [ixF,hbad,Bool.false_eq_true,if_false,hp,hu,if_true]
          simp only [go_sem,kSt_ptr,Nat.reduceBEq,Nat.reduceAdd,Nat.reduceLeDiff,e0,fb]
          refine hP_impl_tokens_name cs hl (s:= s.adv) (by simp only [g0,if_false];exact k2.at_) ?_
          intro h4 k4
          have b4 : h4.hp h2.nx = some [.str [],.bool true,.snil]:= (k4.hp _ (by omega)).trans (by simp)
          have x4 : h4.nx = h.nx + 1:= by rw [k4.nx];show h2.nx + 1 = _;omega
          have hp4 : ∀ q,q < h.nx → q ≠ r → h4.hp q = h.hp q:= fun q q1 q2 => by
            have g : ¬ q = h2.nx:= by omega
            rw [k4.hp q q2]
            simp only [g,if_false]
            rw [k2.hp q q2,k1.hp q q2]
          have ap4 : h4.ap = h.ap:= by
            rw [k4.ap]
            show h2.ap = _
            rw [k2.ap,k1.ap]
          have g1 : ¬ H + 1 = h2.nx:= by omega
          have b5 : h4.hp (H + 1) = _:= (hp4 _ (by omega) (by omega)).trans hb3
          rw [hix] at hq
          have nv0:= (o.owA).2.2
          simp only [go_sem,kSt_ptr,Nat.reduceBEq,Nat.reduceAdd,Nat.reduceLeDiff,e0,e3,b4,b5,g1]
          refine hP_impl_tokens_parts cs hl hcl (s:= nmS l s.adv) (hsrc _ (by simp only [];omega) fun q q1 q2 q3 => by
            have g : ¬ q = h2.nx:= by omega
            simp only [g,if_false]
            rw [hp4 q (by omega) q2]
            exact f1 q q1 q2 q3) nc1 nc2 nv0 ((hst.trans (stp_nm s.adv)).inn hsl) (by simp only [g0,if_false];exact k4.at_) (by simp only [];omega) ?_
          intro pv h5 op k5
          obtain ⟨A1,cp,np⟩:= op.owA
          have x5 : h4.nx ≤ h5.nx:= k5.nx
          have pst:= (stp_parts (l:= l) (colLast cols) (l.length + 2) [] (nmS l s.adv)).1
          have stt:= (hst.trans (stp_nm s.adv)).trans pst
          have prog : (partsF l (colLast cols) (l.length + 2) [] (nmS l s.adv)).2.bad = false → s.at_ + 1 ≤ (partsF l (colLast cols) (l.length + 2) [] (nmS l s.adv)).2.at_:= fun hg => by
            have:= nm_good (pst.good hg)
            have:= hst.le
            have:= pst.le
            omega
          generalize (partsF l (colLast cols) (l.length + 2) [] (nmS l s.adv)).2 = s' at *
          generalize (partsF l (colLast cols) (l.length + 2) [] (nmS l s.adv)).1 = ps at *
          generalize nmV l s.adv = xn at *
          have b6 : h5.hp h2.nx = some [.str xn,.bool true,.snil]:= (k5.hp _ (by simp only [];omega) (by omega)).trans (by simp)
          have hp5 : ∀ q,q < h.nx → q ≠ r → h5.hp q = h.hp q:= fun q q1 q2 => by
            have g : ¬ q = h2.nx:= by omega
            rw [k5.hp q (by simp only [];omega) q2]
            simp only [g,if_false]
            exact hp4 q q1 q2
          have b7 : h5.hp (H + 1) = _:= (hp5 _ (by omega) (by omega)).trans hb3
          have g2 : ¬ H + 1 = h5.nx:= by omega
          have fr : fillR (List.replicate 1 [AV.str [],.bool false,.snil]) 3 [(0,.agg [.str xn,.bool true,pv])] = some [[.str xn,.bool true,pv]]:= by simp [fillR,ag_agg,cl_agg]
          simp only [go_sem,kSt_ptr,Nat.reduceBEq,Nat.reduceAdd,Nat.reduceLeDiff,e3,b6,b7,np,cp,fr,g1]
          refine hP_growA (T:= tIndex) (l:= acc) (lo:= L) (hi:= h.nx) (lo':= h4.nx) (hi':= h5.nx) ⟨xn,true,ps⟩ rfl (o.mono (by simp only [];omega) fun q q1 q2 => by
            have g : ¬ q = h5.nx:= by omega
            have g' : ¬ q = h2.nx:= by omega
            simp only [g,g',if_false]
            exact hp5 q q2 (by omega)) (rowsIn_sl1 (cs:= [.str xn,.bool true,pv]) (by simp) rfl) (((A1.leaf (c:= .bool true) rfl).leaf (c:= .str xn) rfl).mono (by simp only [];omega) fun q q1 q2 => by
            have g : ¬ q = h5.nx:= by omega
            have g' : ¬ q = h2.nx:= by
              have : h4.nx ≤ q:= q1
              omega
            simp only [g,g',if_false]) (by omega) (by unfold room;omega) ?_
          intro v' h6 w1 w2 w3 w4
          have x6 : h5.nx + 1 ≤ h6.nx:= w2
          obtain ⟨_,cv,nv⟩:= w1.owA
          have hp6 : ∀ q,q < L → h6.hp q = h5.hp q:= fun q q1 => by
            have g : ¬ q = h5.nx:= by omega
            have g' : ¬ q = h2.nx:= by omega
            rw [w3 q (.inl q1) (by simp only [];omega)]
            simp only [g,g',if_false]
          have d3 : h6.hp (H + 1) = some [.str n,c1,c2,v]:= (hp6 _ (by omega)).trans b7
          have ap6 : h6.ap = h.ap:= by
            rw [w4]
            show h5.ap = _
            rw [k5.ap]
            show h4.ap = _
            rw [ap4]
          simp only [go_sem,kSt_ptr,Nat.reduceBEq,Nat.reduceAdd,e3,d3,nv,cv]
          refine ih (acc ++ [⟨xn,true,ps⟩]) s' v' _ _ ?_ (stt.inn hsl) (by simp;omega) (by simp only [go_sem,Nat.reduceBEq,e0]) (by simp only [go_sem,Nat.reduceBEq,e2]) (by simp only [go_sem,Nat.reduceBEq,e3]) (by simp only [];omega) ?_ ?_ (w1.mono (by simp) fun q q1 q2 => by simp [show ¬ q = H + 1 by omega]) ?_ ?_ hq
          · cases hb' : s'.bad with
            | true => exact .inr ⟨rfl,by omega⟩
            | false => have:= prog hb';exact .inl (by omega)
          · have g : ¬ r = H + 1:= by omega
            simp only [g,if_false];rw [hp6 r (by omega)];exact k5.at_
          · simp
          · intro q q1 q2 q3
            simp only [q3,if_false]
            rw [hp6 q q1,hp5 q (by omega) q2]
            exact f1 q q1 q2 q3
          · show h6.ap = _
            rw [ap6,f2]
        | false =>
          rw [isS_false hu] at k2
          have hst : Stp l s (mustT l s wIndex):= stp_must s _
          have hix : ixF l (colLast cols) (l.length + 2) (m + 1) acc s = ixF l (colLast cols) (l.length + 2) m (acc ++ [⟨nmV l (mustT l s wIndex),false,(partsF l (colLast cols) (l.length + 2) [] (nmS l (mustT l s wIndex))).1⟩]) (partsF l (colLast cols) (l.length + 2) [] (nmS l (mustT l s wIndex))).2:= by simp only [ixF,hbad,Bool.false_eq_true,if_false,hp,hu]
          simp only [go_sem,kSt_ptr,Nat.reduceBEq,Nat.reduceAdd,Nat.reduceLeDiff,e0,fb]
          refine hP_impl_tokens_want cs hl (s:= s) (w:= wIndex) (by simp only [g0,if_false];exact k2.at_) ?_
          intro h3 k3
          have b3' : h3.hp h2.nx = some [.str [],.bool false,.snil]:= (k3.hp _ (by omega)).trans (by simp)
          simp only [go_sem,Nat.reduceBEq,e0]
          refine hP_impl_tokens_name cs hl (s:= mustT l s wIndex) k3.at_ ?_
          intro h4 k4
          have b4 : h4.hp h2.nx = some [.str [],.bool false,.snil]:= (k4.hp _ (by omega)).trans b3'
          have x4 : h4.nx = h.nx + 1:= by rw [k4.nx,k3.nx];show h2.nx + 1 = _;omega
          have hp4 : ∀ q,q < h.nx → q ≠ r → h4.hp q = h.hp q:= fun q q1 q2 => by
            have g : ¬ q = h2.nx:= by omega
            rw [k4.hp q q2,k3.hp q q2]
            simp only [g,if_false]
            rw [k2.hp q q2,k1.hp q q2]
          have ap4 : h4.ap = h.ap:= by
            rw [k4.ap,k3.ap]
            show h2.ap = _
            rw [k2.ap,k1.ap]
          have g1 : ¬ H + 1 = h2.nx:= by omega
          have b5 : h4.hp (H + 1) = _:= (hp4 _ (by omega) (by omega)).trans hb3
          rw [hix] at hq
          have nv0:= (o.owA).2.2
          simp only [go_sem,kSt_ptr,Nat.reduceBEq,Nat.reduceAdd,Nat.reduceLeDiff,e0,e3,b4,b5,g1]
          refine hP_impl_tokens_parts cs hl hcl (s:= nmS l (mustT l s wIndex)) (hsrc _ (by simp only [];omega) fun q q1 q2 q3 => by
            have g : ¬ q = h2.nx:= by omega
            simp only [g,if_false]
            rw [hp4 q (by omega) q2]
            exact f1 q q1 q2 q3) nc1 nc2 nv0 ((hst.trans (stp_nm (mustT l s wIndex))).inn hsl) (by simp only [g0,if_false];exact k4.at_) (by simp only [];omega) ?_
          intro pv h5 op k5
          obtain ⟨A1,cp,np⟩:= op.owA
          have x5 : h4.nx ≤ h5.nx:= k5.nx
          have pst:= (stp_parts (l:= l) (colLast cols) (l.length + 2) [] (nmS l (mustT l s wIndex))).1
          have stt:= (hst.trans (stp_nm (mustT l s wIndex))).trans pst
          have prog : (partsF l (colLast cols) (l.length + 2) [] (nmS l (mustT l s wIndex))).2.bad = false → s.at_ + 1 ≤ (partsF l (colLast cols) (l.length + 2) [] (nmS l (mustT l s wIndex))).2.at_:= fun hg => by
            have:= nm_good (pst.good hg)
            have:= hst.le
            have:= pst.le
            omega
          generalize (partsF l (colLast cols) (l.length + 2) [] (nmS l (mustT l s wIndex))).2 = s' at *
          generalize (partsF l (colLast cols) (l.length + 2) [] (nmS l (mustT l s wIndex))).1 = ps at *
          generalize nmV l (mustT l s wIndex) = xn at *
          have b6 : h5.hp h2.nx = some [.str xn,.bool false,.snil]:= (k5.hp _ (by simp only [];omega) (by omega)).trans (by simp)
          have hp5 : ∀ q,q < h.nx → q ≠ r → h5.hp q = h.hp q:= fun q q1 q2 => by
            have g : ¬ q = h2.nx:= by omega
            rw [k5.hp q (by simp only [];omega) q2]
            simp only [g,if_false]
            exact hp4 q q1 q2
          have b7 : h5.hp (H + 1) = _:= (hp5 _ (by omega) (by omega)).trans hb3
          have g2 : ¬ H + 1 = h5.nx:= by omega
          have fr : fillR (List.replicate 1 [AV.str [],.bool false,.snil]) 3 [(0,.agg [.str xn,.bool false,pv])] = some [[.str xn,.bool false,pv]]:= by simp [fillR,ag_agg,cl_agg]
          simp only [go_sem,kSt_ptr,Nat.reduceBEq,Nat.reduceAdd,Nat.reduceLeDiff,e3,b6,b7,np,cp,fr,g1]
          refine hP_growA (T:= tIndex) (l:= acc) (lo:= L) (hi:= h.nx) (lo':= h4.nx) (hi':= h5.nx) ⟨xn,false,ps⟩ rfl (o.mono (by simp only [];omega) fun q q1 q2 => by
            have g : ¬ q = h5.nx:= by omega
            have g' : ¬ q = h2.nx:= by omega
            simp only [g,g',if_false]
            exact hp5 q q2 (by omega)) (rowsIn_sl1 (cs:= [.str xn,.bool false,pv]) (by simp) rfl) (((A1.leaf (c:= .bool false) rfl).leaf (c:= .str xn) rfl).mono (by simp only [];omega) fun q q1 q2 => by
            have g : ¬ q = h5.nx:= by omega
            have g' : ¬ q = h2.nx:= by
              have : h4.nx ≤ q:= q1
              omega
            simp only [g,g',if_false]) (by omega) (by unfold room;omega) ?_
          intro v' h6 w1 w2 w3 w4
          have x6 : h5.nx + 1 ≤ h6.nx:= w2
          obtain ⟨_,cv,nv⟩:= w1.owA
          have hp6 : ∀ q,q < L → h6.hp q = h5.hp q:= fun q q1 => by
            have g : ¬ q = h5.nx:= by omega
            have g' : ¬ q = h2.nx:= by omega
            rw [w3 q (.inl q1) (by simp only [];omega)]
            simp only [g,g',if_false]
          have d3 : h6.hp (H + 1) = some [.str n,c1,c2,v]:= (hp6 _ (by omega)).trans b7
          have ap6 : h6.ap = h.ap:= by
            rw [w4]
            show h5.ap = _
            rw [k5.ap]
            show h4.ap = _
            rw [ap4]
          simp only [go_sem,kSt_ptr,Nat.reduceBEq,Nat.reduceAdd,e3,d3,nv,cv]
          refine ih (acc ++ [⟨xn,false,ps⟩]) s' v' _ _ ?_ (stt.inn hsl) (by simp;omega) (by simp only [go_sem,Nat.reduceBEq,e0]) (by simp only [go_sem,Nat.reduceBEq,e2]) (by simp only [go_sem,Nat.reduceBEq,e3]) (by simp only [];omega) ?_ ?_ (w1.mono (by simp) fun q q1 q2 => by simp [show ¬ q = H + 1 by omega]) ?_ ?_ hq
          · cases hb' : s'.bad with
            | true => exact .inr ⟨rfl,by omega⟩
            | false => have:= prog hb';exact .inl (by omega)
          · have g : ¬ r = H + 1:= by omega
            simp only [g,if_false];rw [hp6 r (by omega)];exact k5.at_
          · simp
          · intro q q1 q2 q3
            simp only [q3,if_false]
            rw [hp6 q q1,hp5 q (by omega) q2]
            exact f1 q q1 q2 q3
          · show h6.ap = _
            rw [ap6,f2]
theorem rk_impl_tokens_def (cs) {l : List TToken} (hl : l.length ≤ 1000) (htk : ∀ t ∈ l,tokOk t = true) (r : Nat) (s : St) (h : Hp) (hsl : s.at_ ≤ l.length) (hr : h.hp r = some (rdC l s)) (hrn : r < h.nx) :
    ∃ cells h',RunF (EE cs) 65 [.ptr r 0] h (.agg cells,h') ∧ cells.length = 4 ∧ OwA 2 h.nx h'.nx h' cells (defF l (colI l) colLast (l.length + 2) s).1.row ∧ RdO l r (defF l (colI l) colLast (l.length + 2) s).2 h h':= by
  have : ∃ rr,RunF (EE cs) 65 [.ptr r 0] h rr ∧ ∃ cells,rr.1 = .agg cells ∧ cells.length = 4 ∧ OwA 2 h.nx rr.2.nx rr.2 cells (defF l (colI l) colLast (l.length + 2) s).1.row ∧ RdO l r (defF l (colI l) colLast (l.length + 2) s).2 h rr.2:= by
    refine run_wp (st_impl_tokens_def cs) ?_
    have n1 : ¬ r = h.nx:= by omega
    have n2 : ¬ r = h.nx + 1:= by omega
    have fb : ∀ a : List UInt8,sFill [.str [],.snil,.snil,.snil] [(0,1,.str a)] = some [AV.str a,.snil,.snil,.snil]:= fun _ => rfl
    simp only [defF]
    simp only [go_sem,Nat.reduceBEq,s_impl_tokens_def]
    refine hP_impl_tokens_want cs hl (s:= s) (w:= wTable) (by simp only [go_sem,n1];exact hr) ?_
    intro h1 k1
    have st1:= stp_must (l:= l) s wTable
    generalize mustT l s wTable = t1 at *
    have y1 : h1.nx = h.nx + 1:= k1.nx
    have u0 : h1.hp h.nx = some [.str [],.snil,.snil,.snil]:= (k1.hp _ (by omega)).trans (by simp only [go_sem])
    simp only [go_sem,Nat.reduceBEq]
    refine hP_impl_tokens_name cs hl k1.at_ ?_
    intro h2 k2
    have y2 : h2.nx = h.nx + 1:= k2.nx.trans y1
    have u0' : h2.hp h.nx = _:= (k2.hp _ (by omega)).trans u0
    have g1 : ¬ r = h2.nx:= by omega
    simp only [go_sem,kSt_ptr,Nat.reduceBEq,Nat.reduceAdd,fb]
    refine hP_impl_tokens_want cs hl (s:= nmS l t1) (w:= [123]) (by simp only [g1,if_false];exact k2.at_) ?_
    intro h3 k3
    have st3:= (st1.trans (stp_nm t1)).trans (stp_must (nmS l t1) [123])
    generalize mustT l (nmS l t1) [123] = t3 at *
    generalize nmV l t1 = nn at *
    have y3 : h3.nx = h.nx + 2:= by rw [k3.nx];show h2.nx + 1 = _;omega
    have v3 : h3.hp (h.nx + 1) = some [.str nn,.snil,.snil,.snil]:= (k3.hp _ (by omega)).trans (by simp [y2])
    have u3 : h3.hp h.nx = some [.str [],.snil,.snil,.snil]:= (k3.hp _ (by omega)).trans (by simp [y2,u0'])
    simp only [go_sem,y2]
    refine LK0_impl_tokens_def cs hl htk (n:= nn) (r:= r) (H:= h.nx) hrn (h0:= h) (l.length + 2) [] t3 .snil _ h3 (.inl (by omega)) (st3.inn hsl) (by simp only [List.length_nil];omega) (by simp only [go_sem,Nat.reduceBEq]) (by simp only [go_sem,Nat.reduceBEq]) (by simp only [go_sem,Nat.reduceBEq]) (by omega) k3.at_ u3 v3 (OwS.nil _ _ (by omega) (Nat.le_refl _)) ?_ ?_ ?_
    · intro q q1 q2
      have g1 : ¬ q = h.nx:= by omega
      have g2 : ¬ q = h2.nx:= by omega
      rw [k3.hp q q2]
      simp only [g2,if_false]
      rw [k2.hp q q2,k1.hp q q2]
      simp only [g1,if_false]
    · rw [k3.ap]
      show h2.ap = _
      rw [k2.ap,k1.ap]
    intro e4 h4 cv a0 a2 a3 y4 hr4 u4 v4 oc f1 f2
    have clen:= (stp_cols (colR_I htk) (l.length + 2) [] t3).2.1
    have cstp:= (stp_cols (colR_I htk) (l.length + 2) [] t3).1
    generalize colsF l (colI l) (l.length + 2) [] t3 = cc at *
    obtain ⟨cols,t4⟩:= cc
    simp only [List.length_nil] at clen cstp hr4 oc ⊢
    obtain ⟨A1,cc1,nc1⟩:= oc.owA
    simp only [go_sem,Nat.reduceBEq,Nat.reduceAdd,a0,a3,v4]
    refine hP_impl_tokens_parts cs hl (cols:= cols) (by omega) (ows_colsAt oc (.inl (by omega))) nc1 rfl rfl (cstp.inn (st3.inn hsl)) hr4 (by omega) ?_
    intro pv h5 op k5
    obtain ⟨A2,cc2,nc2⟩:= op.owA
    have y5 : h4.nx ≤ h5.nx:= k5.nx
    have pst:= (stp_parts (l:= l) (colLast cols) (l.length + 2) [] t4).1
    generalize partsF l (colLast cols) (l.length + 2) [] t4 = pp at *
    obtain ⟨ps,t5⟩:= pp
    simp only at op k5 pst A2 ⊢
    have u5 : h5.hp h.nx = _:= (k5.hp _ (by omega) (by omega)).trans u4
    have v5 : h5.hp (h.nx + 1) = _:= (k5.hp _ (by omega) (by omega)).trans v4
    have oc5 : OwS 0 tCol (h.nx + 2) h4.nx cols cv h5:= oc.mono y5 fun q q1 q2 => k5.hp q q2 (by omega)
    simp only [go_sem,kSt_ptr,Nat.reduceBEq,Nat.reduceAdd,Nat.reduceLeDiff,a3,v5,nc2,cc2]
    refine LK1_impl_tokens_def cs hl htk (n:= nn) (cols:= cols) (by omega) (c1:= cv) (c2:= pv) (r:= r) (H:= h.nx) (L:= h5.nx) hrn (by omega) (hL:= ⟨fun q => if q = h.nx + 1 then some [.str nn,cv,pv,.snil] else h5.hp q,h5.ap,h5.nx⟩) (Nat.le_refl _) (fun h' z1 z2 => ows_colsAt (oc5.mono z1 fun q q1 q2 => (z2 q (by omega) (by omega) (by omega)).trans (by simp [show ¬ q = h.nx + 1 by omega])) (.inl (by omega))) nc1 nc2 (l.length + 2) [] t5 .snil _ _ (.inl (by omega)) (pst.inn (cstp.inn (st3.inn hsl))) (by simp only [List.length_nil];omega) (by simp only [go_sem,Nat.reduceBEq,a0]) (by simp only [go_sem,Nat.reduceBEq,a2]) (by simp only [go_sem,Nat.reduceBEq,a3]) (by simp only [];omega) ?_ ?_ (OwS.nil _ _ (by simp) (by simp)) (fun _ _ _ _ => rfl) rfl ?_
    · simp only [n2,if_false];exact k5.at_
    · simp
    intro e6 h6 xv b0 b2 b3 y6 hr6 v6 ox f3 f4
    obtain ⟨A3,cc3,nc3⟩:= ox.owA
    have u6 : h6.hp h.nx = some [.str [],.snil,.snil,.snil]:= (f3 _ (by omega) (by omega) (by omega)).trans (by simp [u5])
    simp only [go_sem,kSt_ptr,Nat.reduceBEq,Nat.reduceAdd,b2,b3,v6,u6,nc1,nc2,nc3]
    refine ⟨fun _ e => (by cases e),_,rfl,[.str nn,cv,pv,xv],rfl,rfl,?_,?_,?_,?_,?_⟩
    · have M1 : OwA 2 (h.nx + 2) h4.nx ⟨fun q => if q = h.nx then some [.str nn,cv,pv,xv] else h6.hp q,h6.ap,h6.nx⟩ [cv] [.imm (cols.map tCol.row)]:= (A1.up (m:= 2) (by decide)).mono (by simp only [];omega) fun q q1 q2 => by
        have g : ¬ q = h.nx:= by omega
        have g' : ¬ q = h.nx + 1:= by omega
        simp only [g,if_false]
        rw [f3 q (by omega) (by omega) g']
        simp only [g',if_false]
        exact k5.hp q q2 (by omega)
      have M2 : OwA 2 h4.nx h5.nx ⟨fun q => if q = h.nx then some [.str nn,cv,pv,xv] else h6.hp q,h6.ap,h6.nx⟩ [pv] [.imm (ps.map tBy.row)]:= (A2.up (m:= 2) (by decide)).mono (by simp only [];omega) fun q q1 q2 => by
        have g : ¬ q = h.nx:= by omega
        have g' : ¬ q = h.nx + 1:= by omega
        simp only [g,if_false]
        rw [f3 q (by omega) (by omega) g']
        simp only [g',if_false]
      have M3 : OwA 2 h5.nx h6.nx ⟨fun q => if q = h.nx then some [.str nn,cv,pv,xv] else h6.hp q,h6.ap,h6.nx⟩ [xv] [.imm ((ixF l (colLast cols) (l.length + 2) (l.length + 2) [] t5).1.map tIndex.row)]:= A3.mono (by simp) fun q q1 q2 => by
        have g : ¬ q = h.nx:= by omega
        simp only [g,if_false]
      exact (OwA.leaf (c:= .str nn) (M1.cat (M2.cat M3 (Nat.le_refl _)) (Nat.le_refl _)) rfl).wide (by omega) (Nat.le_refl _) (by simp)
    · simp only [n1,if_false];exact hr6
    · intro q q1 q2
      have g : ¬ q = h.nx:= by omega
      have g' : ¬ q = h.nx + 1:= by omega
      simp only [g,if_false]
      rw [f3 q (by omega) q2 g']
      simp only [g',if_false]
      rw [k5.hp q (by omega) q2]
      exact f1 q q1 q2
    · show h6.ap = _
      rw [f4]
      show h5.ap = _
      rw [k5.ap,f2]
    · simp only [];omega
  obtain ⟨⟨v,h'⟩,k1,cells,k2,k3⟩:= this
  simp only at k2 k3
  subst k2
  exact ⟨cells,h',k1,k3⟩
end Go.Proofs.YtpolhafmapekpaaGreatDoor.En
namespace Go.Proofs.YtpolhafmapekpaaGreatDoor.En
open Go Go.RowKit Go.Ev
set_option maxHeartbeats 1600000
noncomputable def C_impl_isLetter:= c1 u8T (fun (b : UInt8) => True) (.bool) fun (b : UInt8) => smallB b
theorem C_impl_isLetter_eq (b : UInt8) (h : True) : C_impl_isLetter [.int .u8 (b).toNat] = some (.bool ((smallB b))):= c1_eq u8T h
theorem ok_impl_isLetter {WI : World → Prop} (hs : Stable WI) (cs) (hT : TOK (EE cs) WI) : PureOK Tryz.prog WI 113 C_impl_isLetter:= by
  refine pure1 (E:= EE cs) hT hs (by rw [st_impl_isLetter];rfl) fun b hp => out_wp (n:= 0) (st_impl_isLetter cs) ?_
  by_cases d : (97 : Int) ≤ b.toNat
  · simp only [go_sem,Nat.reduceBEq,s_impl_isLetter,d,smallB,inR]
  · simp only [go_sem,Nat.reduceBEq,s_impl_isLetter,d,smallB,inR]
noncomputable def C_impl_isDigit:= c1 u8T (fun (b : UInt8) => True) (.bool) fun (b : UInt8) => digitB b
theorem C_impl_isDigit_eq (b : UInt8) (h : True) : C_impl_isDigit [.int .u8 (b).toNat] = some (.bool ((digitB b))):= c1_eq u8T h
theorem ok_impl_isDigit {WI : World → Prop} (hs : Stable WI) (cs) (hT : TOK (EE cs) WI) : PureOK Tryz.prog WI 114 C_impl_isDigit:= by
  refine pure1 (E:= EE cs) hT hs (by rw [st_impl_isDigit];rfl) fun b hp => out_wp (n:= 0) (st_impl_isDigit cs) ?_
  by_cases d : (48 : Int) ≤ b.toNat
  · simp only [go_sem,Nat.reduceBEq,s_impl_isDigit,d,digitB,inR]
  · simp only [go_sem,Nat.reduceBEq,s_impl_isDigit,d,digitB,inR]
theorem ev_impl_in (cs) (x a b : Int) : ∃ k n,out (EE cs) k n 69 [.int .i64 x,.int .i64 a,.int .i64 b] = some (.bool (inR x a b)):= by
  refine out_K (n:= 0) (st_impl_in cs) ?_
  by_cases h1 : a ≤ x
  · simp only [go_sem,Nat.reduceBEq,s_impl_in,h1,inR]
  · simp only [go_sem,Nat.reduceBEq,s_impl_in,h1,inR]
noncomputable def C_impl_in:= ct (fun a : Int × Int × Int => [.int .i64 a.1,.int .i64 a.2.1,.int .i64 a.2.2]) (fun _ => True) .bool fun a => inR a.1 a.2.1 a.2.2
theorem C_impl_in_eq (x a b : Int) : C_impl_in [.int .i64 x,.int .i64 a,.int .i64 b] = some (.bool (inR x a b)):= by
  unfold C_impl_in
  exact ct_eq (a:= (x,a,b)) (fun a b h => by
    simp only [List.cons.injEq,AV.int.injEq,and_true,true_and] at h
    exact Prod.ext h.1 (Prod.ext h.2.1 h.2.2)) trivial
theorem ok_impl_in {WI} (hs : Stable WI) (cs) (hT : TOK (EE cs) WI) : PureOK Tryz.prog WI 69 C_impl_in:=
  pure_out hT hs (by rw [st_impl_in];rfl) fun a _ => ev_impl_in cs a.1 a.2.1 a.2.2
noncomputable def C_impl_nameOk:= c1 strT (fun (s : List UInt8) => s.length ≤ 1048576) (.bool) fun (s : List UInt8) => isName s
theorem C_impl_nameOk_eq (s : List UInt8) (h : s.length ≤ 1048576) : C_impl_nameOk [.str s] = some (.bool ((isName s))):= c1_eq strT h
theorem ok_impl_nameOk {WI : World → Prop} (hs : Stable WI) (cs) (hT : TOK (EE cs) WI) (h1 : (EE cs).T 113 = some C_impl_isLetter) (h2 : (EE cs).T 114 = some C_impl_isDigit) (h3 : (EE cs).T 69 = some C_impl_in) : PureOK Tryz.prog WI 163 C_impl_nameOk:= by
  refine pure1 (E:= EE cs) hT hs (by rw [st_impl_nameOk];rfl) fun s hp => out_wp (n:= 0) (st_impl_nameOk cs) ?_
  simp only [go_sem,s_impl_nameOk]
  refine (wl_all (l:= s) (fun pre b => nameB pre b) (fun pre e h => e 0 = .str s ∧ e 3 = .int .i64 pre.length) (.exit 0) (fun e h => e 0 = .str s) (fun e h => e 2 = .bool false) (by omega) ?_ ?_ ?_ (by simp) s [] _ _ rfl ?_).mono ?_
  · rintro pre b rest e h a hp ⟨q0,ix⟩
    cases c1 : smallB b <;> cases c2 : ((pre.length : Int) == 0) <;> cases c3 : digitB b <;> simp [nameB,c1,c2,c3] at hp
    all_goals simp only [go_sem,Nat.reduceBEq,s_impl_nameOk_L0,q0,ix,a.dl,kIx_at a.hl,a.hw,h1,h2,C_impl_isLetter_eq b trivial,C_impl_isDigit_eq b trivial,c1,c2,c3]
  · rintro pre b rest e h a hp ⟨q0,ix⟩
    cases c1 : smallB b <;> cases c2 : ((pre.length : Int) == 0) <;> cases c3 : digitB b <;> simp [nameB,c1,c2,c3] at hp
    all_goals simp only [go_sem,Nat.reduceBEq,s_impl_nameOk_L0,q0,ix,a.dl,kIx_at a.hl,a.hw,h1,h2,C_impl_isLetter_eq b trivial,C_impl_isDigit_eq b trivial,c1,c2,c3]
  · rintro e h ⟨q0,ix⟩
    simp only [go_sem,Nat.reduceBEq,s_impl_nameOk_L0,q0,ix]
  · simp only [go_sem,Nat.reduceBEq,and_self]
  · rintro x e h (⟨hp,rfl,j0⟩ | ⟨hp,rfl,j⟩)
    · simp only [go_sem,Nat.reduceBEq,j0,h3,C_impl_in_eq,isName,hp]
    · simp only [go_sem,j,isName,hp]
noncomputable def C_impl_isMark:= c1 u8T (fun (c : UInt8) => True) (.bool) fun (c : UInt8) => markB c
theorem C_impl_isMark_eq (c : UInt8) (h : True) : C_impl_isMark [.int .u8 (c).toNat] = some (.bool ((markB c))):= c1_eq u8T h
theorem ok_impl_isMark {WI : World → Prop} (hs : Stable WI) (cs) (hT : TOK (EE cs) WI) : PureOK Tryz.prog WI 164 C_impl_isMark:= by
  refine pure1 (E:= EE cs) hT hs (by rw [st_impl_isMark];rfl) fun c hp => out_wp (n:= 0) (st_impl_isMark cs) ?_
  cases w1 : ((c.toNat : Int) == 123) <;> cases w2 : ((c.toNat : Int) == 125) <;> cases w3 : ((c.toNat : Int) == 44) <;> cases w4 : ((c.toNat : Int) == 59) <;> simp only [go_sem,Nat.reduceBEq,s_impl_isMark,w1,w2,w3,w4,markB]
noncomputable def C_impl_TokenOk:= c1 tToken (fun (t : TToken) => t.fS.length ≤ 1048576) (.bool) fun (t : TToken) => tokOk t
theorem C_impl_TokenOk_eq (t : TToken) (h : t.fS.length ≤ 1048576) : C_impl_TokenOk [.agg [.int .i64 t.fK,.str t.fS]] = some (.bool ((tokOk t))):= c1_eq tToken h
theorem ok_impl_TokenOk {WI : World → Prop} (hs : Stable WI) (cs) (hT : TOK (EE cs) WI) (h1 : (EE cs).T 163 = some C_impl_nameOk) (h2 : (EE cs).T 164 = some C_impl_isMark) : PureOK Tryz.prog WI 115 C_impl_TokenOk:= by
  refine pure1 (E:= EE cs) hT hs (by rw [st_impl_TokenOk];rfl) fun t hp => out_wp (n:= 0) (st_impl_TokenOk cs) ?_
  have c1:= C_impl_nameOk_eq t.fS hp
  by_cases k1 : t.fK = 1
  · have b1 : (t.fK == 1) = true:= by simp [k1]
    rw [tokOk_name k1]
    simp only [go_sem,Nat.reduceBEq,Nat.reduceAdd,Nat.reduceLeDiff,s_impl_TokenOk,TToken.row,tToken_enc,b1,h1,c1]
  have b1 : (t.fK == 1) = false:= by simp [k1]
  by_cases k2 : t.fK = 2
  · have b2 : (t.fK == 2) = true:= by simp [k2]
    rw [tokOk_mark k2]
    by_cases hl : t.fS.length = 1
    · obtain ⟨c,hc⟩:= List.length_eq_one_iff.1 hl
      have b3 : ((t.fS.length : Int) == 1) = true:= by simp [hl]
      have hx : ∀ h,kIx (.str t.fS) (.int .i64 0) h = some (.int .u8 c.toNat,h):= fun h => kIx_str (by decide) (by rw [hc];rfl)
      have c2:= C_impl_isMark_eq c trivial
      rw [← markS_one,← hc] at c2
      simp only [go_sem,Nat.reduceBEq,Nat.reduceAdd,Nat.reduceLeDiff,s_impl_TokenOk,TToken.row,tToken_enc,b1,b2,b3,hx,h2,c2]
    · have b3 : ((t.fS.length : Int) == 1) = false:= by simp;omega
      rw [markS_len hl]
      simp only [go_sem,Nat.reduceBEq,Nat.reduceAdd,Nat.reduceLeDiff,s_impl_TokenOk,TToken.row,tToken_enc,b1,b2,b3]
  have b2 : (t.fK == 2) = false:= by simp [k2]
  rw [tokOk_none k1 k2]
  simp only [go_sem,Nat.reduceBEq,Nat.reduceAdd,Nat.reduceLeDiff,s_impl_TokenOk,TToken.row,tToken_enc,b1,b2]
theorem LK0_impl_Lex (cs) (h1 : (EE cs).T 113 = some C_impl_isLetter) (h2 : (EE cs).T 114 = some C_impl_isDigit) {s : List UInt8} (hs : s.length ≤ 1048576) {h : Hp} {Q : QS} : ∀ (r : List UInt8) (k : Nat) (e : Ps),s.drop k = r → e 0 = .str s → e 7 = .int .i64 (k : Int) →
    (∀ e' : Ps,e' 0 = .str s → e' 4 = e 4 → e' 5 = e 5 → e' 6 = e 6 → e' 8 = e 8 → e' 7 = .int .i64 ((k + (r.takeWhile alB).length : Nat) : Int) → Q (.exit 2) e' h) → WL (EE cs) s_impl_Lex_L0 e h Q:= by
  intro r
  induction r with
  | nil =>
    intro k e hd e0 e7 hq
    have hk : s.length ≤ k:= by have:= congrArg List.length hd;rw [List.length_drop,List.length_nil] at this;omega
    have hc : ¬ (k : Int) < (s.length : Int):= by omega
    refine .step (wp_sound _ _ _ _ ?_)
    simp only [go_sem,Nat.reduceBEq,s_impl_Lex_L0,e0,e7,hc]
    exact hq _ (by simp only [go_sem,Nat.reduceBEq,e0]) (by simp only [go_sem,Nat.reduceBEq]) (by simp only [go_sem,Nat.reduceBEq]) (by simp only [go_sem,Nat.reduceBEq]) (by simp only [go_sem,Nat.reduceBEq]) (by simp only [go_sem,Nat.reduceBEq,e7];simp)
  | cons c r ih =>
    intro k e hd e0 e7 hq
    obtain ⟨_,hk,hrl⟩:= drop_at hd
    have hc : (k : Int) < (s.length : Int):= by omega
    have hw : IntKind.wrap .i64 ((k : Int) + 1) = ((k + 1 : Nat) : Int):= by rw [wrapId (by omega) (by omega)];omega
    have c1:= C_impl_isLetter_eq c trivial
    have c2:= C_impl_isDigit_eq c trivial
    have hx:= fun h => ix_drop hd h
    have hd2 : s.drop (k + 1) = r:= by rw [← List.drop_drop,hd,List.drop_succ_cons,List.drop_zero]
    cases b1 : smallB c <;> cases b2 : digitB c <;> rw [b1] at c1 <;> rw [b2] at c2
    · have ha : alB c = false:= by simp [alB,b1,b2]
      refine .step (wp_sound _ _ _ _ ?_)
      simp only [go_sem,Nat.reduceBEq,s_impl_Lex_L0,e0,e7,hc,hx,h1,c1,h2,c2]
      exact hq _ (by simp only [go_sem,Nat.reduceBEq,e0]) (by simp only [go_sem,Nat.reduceBEq]) (by simp only [go_sem,Nat.reduceBEq]) (by simp only [go_sem,Nat.reduceBEq]) (by simp only [go_sem,Nat.reduceBEq]) (by simp only [go_sem,Nat.reduceBEq,e7];simp [ha])
    all_goals
      have ha : alB c = true:= by simp [alB,b1,b2]
      refine .step (wp_sound _ _ _ _ ?_)
      simp only [go_sem,Nat.reduceBEq,s_impl_Lex_L0,e0,e7,hc,hx,h1,c1,h2,c2,hw]
      refine ih (k + 1) _ hd2 (by simp only [go_sem,Nat.reduceBEq,e0]) (by simp only [go_sem,Nat.reduceBEq]) ?_
      intro e' a0 a4 a5 a6 a8 a7
      refine hq e' a0 (a4.trans (by simp only [go_sem,Nat.reduceBEq])) (a5.trans (by simp only [go_sem,Nat.reduceBEq])) (a6.trans (by simp only [go_sem,Nat.reduceBEq])) (a8.trans (by simp only [go_sem,Nat.reduceBEq])) ?_
      rw [a7,List.takeWhile_cons,if_pos ha,List.length_cons,show k + 1 + (r.takeWhile alB).length = k + ((r.takeWhile alB).length + 1) by omega]
theorem LK1_impl_Lex (cs) (h1 : (EE cs).T 113 = some C_impl_isLetter) (h2 : (EE cs).T 114 = some C_impl_isDigit) (h3 : (EE cs).T 115 = some C_impl_TokenOk) {s : List UInt8} (hs : s.length ≤ 1048576) {Q : QS} : ∀ (m : Nat) (r : List UInt8) (i : Nat) (out : List TToken) (e : Ps) (h : Hp),r.length ≤ m → s.drop i = r → out.length ≤ 500 → e 0 = .str s → e 5 = .int .i64 (i : Int) → grows tToken out (e 4) h →
    (∀ e' h' toks,lexF m out i r = (toks,-1) → grows tToken toks (e' 4) h' → Q (.exit 0) e' h') →
    (∀ e' h' (p : Nat),lexF m out i r = ([],(p : Int)) → (e' 2 = .snil ∨ ∃ id,e' 2 = .app id []) → e' 3 = .int .i64 (p : Int) → Q .ret e' h') → WL (EE cs) s_impl_Lex_L1 e h Q:= by
  intro m
  induction m with
  | zero =>
    intro r i out e h hm hd ho e0 e5 gx hq hr
    have hr0 : r = []:= List.eq_nil_of_length_eq_zero (Nat.le_zero.1 hm)
    subst hr0
    have hk : s.length ≤ i:= by have:= congrArg List.length hd;rw [List.length_drop,List.length_nil] at this;omega
    have hc : ¬ (i : Int) < (s.length : Int):= by omega
    refine .step (wp_sound _ _ _ _ ?_)
    simp only [go_sem,Nat.reduceBEq,s_impl_Lex_L1,e0,e5,hc]
    exact hq _ _ out (lexF_nil _ _ _) (by simp only [go_sem,Nat.reduceBEq];exact gx)
  | succ m ih =>
    intro r i out e h hm hd ho e0 e5 gx hq hr
    cases r with
    | nil =>
      have hk : s.length ≤ i:= by have:= congrArg List.length hd;rw [List.length_drop,List.length_nil] at this;omega
      have hc : ¬ (i : Int) < (s.length : Int):= by omega
      refine .step (wp_sound _ _ _ _ ?_)
      simp only [go_sem,Nat.reduceBEq,s_impl_Lex_L1,e0,e5,hc]
      exact hq _ _ out (lexF_nil _ _ _) (by simp only [go_sem,Nat.reduceBEq];exact gx)
    | cons c r =>
      obtain ⟨_,hk,hrl⟩:= drop_at hd
      rw [List.length_cons] at hm
      have hc : (i : Int) < (s.length : Int):= by omega
      have hw : IntKind.wrap .i64 ((i : Int) + 1) = ((i + 1 : Nat) : Int):= by rw [wrapId (by omega) (by omega)];omega
      have hx:= fun h => ix_drop hd h
      have hd2 : s.drop (i + 1) = r:= by rw [← List.drop_drop,hd,List.drop_succ_cons,List.drop_zero]
      have hW:= wsB_eq c
      by_cases hws : wsB c = true
      · have hlex : lexF (m + 1) out i (c :: r) = lexF m out ((i + 1 : Nat) : Int) r:= by simp only [lexF,hws,if_true];rfl
        rw [hlex] at hq hr
        refine .step (wp_sound _ _ _ _ ?_)
        rw [hws] at hW
        cases w1 : ((c.toNat : Int) == 32) <;> cases w2 : ((c.toNat : Int) == 9) <;> cases w3 : ((c.toNat : Int) == 10) <;> cases w4 : ((c.toNat : Int) == 13) <;> rw [w1,w2,w3,w4] at hW <;> first
          | (cases hW;done)
          | (simp only [go_sem,Nat.reduceBEq,s_impl_Lex_L1,e0,e5,hc,hx,w1,w2,w3,w4,hw]
             exact ih r (i + 1) out _ _ (by omega) hd2 ho (by simp only [go_sem,Nat.reduceBEq,e0]) (by simp only [go_sem,Nat.reduceBEq]) (by simp only [go_sem,Nat.reduceBEq];exact gx) hq hr)
      · have hws0 : wsB c = false:= by simpa using hws
        rw [hws0] at hW
        have w1 : ((c.toNat : Int) == 32) = false:= by cases q : ((c.toNat : Int) == 32) with | false => rfl | true => rw [q] at hW;simp at hW
        have w2 : ((c.toNat : Int) == 9) = false:= by cases q : ((c.toNat : Int) == 9) with | false => rfl | true => rw [q] at hW;simp at hW
        have w3 : ((c.toNat : Int) == 10) = false:= by cases q : ((c.toNat : Int) == 10) with | false => rfl | true => rw [q] at hW;simp at hW
        have w4 : ((c.toNat : Int) == 13) = false:= by cases q : ((c.toNat : Int) == 13) with | false => rfl | true => rw [q] at hW;simp at hW
        obtain ⟨t1,t2,t3⟩:= lexT_S c r
        have tK:= lexT_K c r
        obtain ⟨u1,u2⟩:= cut_at hd (lexK c r)
        have tl : (lexT c r).fS.length = 1 + lexK c r:= by rw [t1,List.length_cons,List.length_take];omega
        have c1:= C_impl_isLetter_eq c trivial
        have c3:= C_impl_TokenOk_eq (lexT c r) (by rw [tl];omega)
        have hlex : lexF (m + 1) out i (c :: r) = if tokOk (lexT c r) && decide (out.length < 500) then lexF m (out ++ [lexT c r]) ((i + 1 + lexK c r : Nat) : Int) (r.drop (lexK c r)) else ([],(i : Int)):= by
          simp only [lexF,hws0]
          rw [tl,t2,show ((i : Int) + ((1 + lexK c r : Nat) : Int)) = ((i + 1 + lexK c r : Nat) : Int) by omega]
          rfl
        rw [hlex] at hq hr
        have sl:= sli_at (s:= s) (a:= i) (b:= i + 1 + lexK c r) (by omega) (by omega)
        rw [u1,← t1] at sl
        have sl1:= sli_at (s:= s) (a:= i) (b:= i + 1) (by omega) (by omega)
        generalize lexT c r = tk at *
        obtain ⟨tk,ts⟩:= tk
        simp only at t1 tK tl sl c3 hq hr
        have lg:= fun h2 => lenL_grows gx h2
        have fsI : ∀ (a : Int) (x : List UInt8),sFill [AV.int .i64 0,.str []] [(0,1,.int .i64 a),(1,1,.str x)] = some [.int .i64 a,.str x]:= fun _ _ => rfl
        have fsS : ∀ a : Int,sFill [AV.int .i64 0,.str []] [(0,1,.int .i64 a)] = some [.int .i64 a,.str []]:= fun _ => rfl
        have f1 : fillR (List.replicate 1 [AV.int IntKind.i64 0,.str []]) 2 [(0,.agg [.int .i64 tk,.str ts])] = some [[.int .i64 tk,.str ts]]:= rfl
        have f2 : frzRows [[AV.int IntKind.i64 tk,.str ts]] = some [[.int .i64 tk,.str ts]]:= rfl
        cases hsm : smallB c with
        | false =>
          rw [hsm] at c1 tK
          simp only [Bool.false_eq_true,if_false] at tK
          subst tK
          have k0 : lexK c r = 0:= by unfold lexK;rw [hsm];rfl
          simp only [k0,Nat.add_zero] at sl hq hr
          cases htk : tokOk ⟨2,ts⟩ with
          | false =>
            rw [htk] at c3 hr
            refine .step (wp_sound _ _ _ _ ?_)
            simp only [go_sem,kSt_ptr,Nat.reduceBEq,Nat.reduceAdd,s_impl_Lex_L1,e0,e5,hc,hx,w1,w2,w3,w4,hw,h1,c1,fsI,sl,h3,c3]
            exact hr _ _ i (by simp) (.inl rfl) rfl
          | true =>
            rw [htk] at c3 hr hq
            by_cases hl : out.length < 500
            · have l1 : ((out.length : Int) == 500) = false:= by simp;omega
              have l2 : decide ((500 : Int) ≤ (out.length : Int)) = false:= decide_eq_false (by omega)
              simp only [hl,decide_true,Bool.and_self,if_true] at hq hr
              refine .step (wp_sound _ _ _ _ ?_)
              simp only [go_sem,kSt_ptr,Nat.reduceBEq,Nat.reduceAdd,s_impl_Lex_L1,e0,e5,hc,hx,w1,w2,w3,w4,hw,h1,c1,fsI,sl,h3,c3,lg,l2,f1,f2]
              refine hP_grow [(⟨2,ts⟩ : TToken)] rfl (gx.mono (by show h.nx ≤ h.nx + 1 + 1;omega) fun q hr => by have n3 : ¬ q = h.nx + 1:= (by omega);simp [n3]) rfl (by simp only [List.length_cons,List.length_nil];unfold room;omega) ?_
              intro v' h' g1 g2 g3 g4
              simp only [go_sem,Nat.reduceBEq]
              refine ih (r.drop (lexK c r)) (i + 1) (out ++ [⟨2,ts⟩]) _ _ (by rw [List.length_drop];omega) (by rw [hd2,k0,List.drop_zero]) (by simp;omega) (by simp only [go_sem,Nat.reduceBEq,e0]) (by simp only [go_sem,Nat.reduceBEq]) (by simp only [go_sem,Nat.reduceBEq];exact g1) ?_ ?_
              · rw [k0];exact hq
              · rw [k0];exact hr
            · have l1 : ((out.length : Int) == 500) = true:= by simp;omega
              have l2 : decide ((500 : Int) ≤ (out.length : Int)) = true:= decide_eq_true (by omega)
              refine .step (wp_sound _ _ _ _ ?_)
              simp only [go_sem,kSt_ptr,Nat.reduceBEq,Nat.reduceAdd,s_impl_Lex_L1,e0,e5,hc,hx,w1,w2,w3,w4,hw,h1,c1,fsI,sl,h3,c3,lg,l2]
              exact hr _ _ i (by simp [hl]) (.inl rfl) rfl
        | true =>
          rw [hsm] at c1 tK
          simp only [if_true] at tK
          subst tK
          have k0 : lexK c r = (r.takeWhile alB).length:= by unfold lexK;rw [hsm];rfl
          refine .step (wp_sound _ _ _ _ ?_)
          simp only [go_sem,kSt_ptr,Nat.reduceBEq,Nat.reduceAdd,s_impl_Lex_L1,e0,e5,hc,hx,w1,w2,w3,w4,hw,h1,c1,fsI,sl1]
          refine LK0_impl_Lex cs h1 h2 hs r (i + 1) _ hd2 (by simp only [go_sem,Nat.reduceBEq,e0]) (by simp only [go_sem,Nat.reduceBEq]) ?_
          intro e' a0 a4 a5 a6 a8 a7
          simp only [go_sem,Nat.reduceBEq,e5] at a4 a5 a6 a8
          rw [← k0] at a7
          cases htk : tokOk ⟨1,ts⟩ with
          | false =>
            rw [htk] at c3 hr
            simp only [go_sem,kSt_ptr,Nat.reduceBEq,Nat.reduceAdd,a0,a4,a5,a8,a7,fsI,sl,h3,c3]
            exact hr _ _ i (by simp) (.inl rfl) rfl
          | true =>
            rw [htk] at c3 hr hq
            by_cases hl : out.length < 500
            · have l1 : ((out.length : Int) == 500) = false:= by simp;omega
              have l2 : decide ((500 : Int) ≤ (out.length : Int)) = false:= decide_eq_false (by omega)
              simp only [hl,decide_true,Bool.and_self,if_true] at hq hr
              simp only [go_sem,kSt_ptr,Nat.reduceBEq,Nat.reduceAdd,a0,a4,a5,a8,a7,fsI,sl,h3,c3,lg,l2,f1,f2]
              refine hP_grow [(⟨1,ts⟩ : TToken)] rfl (gx.mono (by show h.nx ≤ h.nx + 1 + 1;omega) fun q hr => by have n3 : ¬ q = h.nx + 1:= (by omega);simp [n3]) rfl (by simp only [List.length_cons,List.length_nil];unfold room;omega) ?_
              intro v' h' g1 g2 g3 g4
              simp only [go_sem,Nat.reduceBEq,a7]
              exact ih (r.drop (lexK c r)) (i + 1 + lexK c r) (out ++ [⟨1,ts⟩]) _ _ (by rw [List.length_drop];omega) u2 (by simp;omega) (by simp only [go_sem,Nat.reduceBEq,a0]) (by simp only [go_sem,Nat.reduceBEq]) (by simp only [go_sem,Nat.reduceBEq];exact g1) hq hr
            · have l1 : ((out.length : Int) == 500) = true:= by simp;omega
              have l2 : decide ((500 : Int) ≤ (out.length : Int)) = true:= decide_eq_true (by omega)
              simp only [go_sem,kSt_ptr,Nat.reduceBEq,Nat.reduceAdd,a0,a4,a5,a8,a7,fsI,sl,h3,c3,lg,l2]
              exact hr _ _ i (by simp [hl]) (.inl rfl) rfl
noncomputable def C_impl_Lex:= c1 strT (fun (s : List UInt8) => s.length ≤ 1048576) (fun x => .tup [.imm (x.1.map TToken.row),.int .i64 x.2]) fun (s : List UInt8) => lexP s
theorem C_impl_Lex_eq (s : List UInt8) (h : s.length ≤ 1048576) : C_impl_Lex [.str s] = some (.tup [.imm (((lexP s).1).map TToken.row),.int .i64 ((lexP s).2)]):= c1_eq strT h
theorem ok_impl_Lex {WI : World → Prop} (hs : Stable WI) (cs) (hT : TOK (EE cs) WI) (h1 : (EE cs).T 113 = some C_impl_isLetter) (h2 : (EE cs).T 114 = some C_impl_isDigit) (h3 : (EE cs).T 115 = some C_impl_TokenOk) : PureOK Tryz.prog WI 64 C_impl_Lex:= by
  refine pure1 (E:= EE cs) hT hs (by rw [st_impl_Lex];rfl) fun s hp => out_wp (n:= 1) (st_impl_Lex cs) ?_
  have hs : s.length ≤ 1048576:= hp
  simp only [go_sem,s_impl_Lex]
  refine LK1_impl_Lex cs h1 h2 h3 hs s.length s 0 [] _ _ (Nat.le_refl _) rfl (Nat.zero_le _) (by simp only [go_sem,Nat.reduceBEq]) (by simp only [go_sem,Nat.reduceBEq]) (by simp only [go_sem,Nat.reduceBEq];exact grows_nil tToken _) ?_ ?_
  · intro e' h' toks hl gx
    have hl' : lexP s = (toks,-1):= hl
    rw [hl']
    rcases gx with ⟨rfl,gv⟩ | ⟨id,gv,_,_⟩ <;> simp only [go_sem,Nat.reduceBEq,gv]
  · intro e' h' p hl e2 e3
    have hl' : lexP s = ([],(p : Int)):= hl
    rw [hl']
    rcases e2 with e2 | ⟨id,e2⟩ <;> simp only [go_sem,e2,e3]
end Go.Proofs.YtpolhafmapekpaaGreatDoor.En
namespace Go.Proofs.YtpolhafmapekpaaGreatDoor.En
open Go Go.RowKit Go.Ev
set_option maxHeartbeats 1600000
noncomputable def C_impl_partsOk:= c2 tDef (sliceT tBy) (fun (v : TDef) (l : List (TBy)) => tDef.cost v ≤ 1048576 ∧ l.length ≤ 1048576) (.bool) fun (v : TDef) (l : List (TBy)) => partsOK v l
theorem C_impl_partsOk_eq (v : TDef) (l : List (TBy)) (h : tDef.cost v ≤ 1048576 ∧ l.length ≤ 1048576) : C_impl_partsOk [.agg [.str v.fName,.imm (v.fCols.map TCol.row),.imm (v.fPrimary.map TBy.row),.imm (v.fIndexes.map TIndex.row)],.imm (l.map TBy.row)] = some (.bool ((partsOK v l))):= c2_eq tDef (sliceT tBy) h
theorem ok_impl_partsOk {WI : World → Prop} (hs : Stable WI) (cs) (hT : TOK (EE cs) WI) (h1 : (EE cs).T 69 = some C_impl_in) : PureOK Tryz.prog WI 167 C_impl_partsOk:= by
  refine pure2 (E:= EE cs) hT hs (by rw [st_impl_partsOk];rfl) fun v l hp => out_wp (n:= 0) (st_impl_partsOk cs) ?_
  obtain ⟨n1,n2,n3,n4,n5,n6⟩:= defLens hp.1
  have hw2:= defCols_len hp.1
  have hl:= hp.2
  have inner : ∀ pre c rest,At l pre c rest → ∀ e h b,e 2 = .ptr 0 0 → h.hp 0 = some v.row → e 1 = .imm (l.map TBy.row) → e 9 = .imm (l.map TBy.row) → e 10 = .int .i64 l.length → e 11 = .int .i64 pre.length → e 6 = .ptr b 0 → h.hp b = some c.row → b < h.nx → 0 < h.nx → e 26 = .imm (pre.map TBy.row) → e 27 = .int .i64 pre.length → e 28 = .int .i64 0 → WL (EE cs) s_impl_partsOk_L0 e h fun x e' h' => ((pre.all fun q => !(q.fCol == c.fCol)) = true ∧ x = .exit 2 ∧ e' 2 = .ptr 0 0 ∧ h'.hp 0 = some v.row ∧ e' 1 = .imm (l.map TBy.row) ∧ e' 9 = .imm (l.map TBy.row) ∧ e' 10 = .int .i64 l.length ∧ e' 11 = .int .i64 pre.length ∧ 0 < h'.nx) ∨ ((pre.all fun q => !(q.fCol == c.fCol)) = false ∧ x = .ret ∧ e' 4 = .bool false):= by
    intro pre0 c rest0 a0 e h b k0 k1 k1' k2 k3 k4 k5 k6 k7 k8 k9 k10 k11
    have hlt0:= a0.lt
    refine (wl_all (l:= pre0) (fun pre y => !(y.fCol == c.fCol)) (fun pre e h => e 2 = .ptr 0 0 ∧ h.hp 0 = some v.row ∧ e 1 = .imm (l.map TBy.row) ∧ e 9 = .imm (l.map TBy.row) ∧ e 10 = .int .i64 l.length ∧ e 11 = .int .i64 pre0.length ∧ e 6 = .ptr b 0 ∧ h.hp b = some c.row ∧ b < h.nx ∧ 0 < h.nx ∧ e 26 = .imm (pre0.map TBy.row) ∧ e 28 = .int .i64 pre.length ∧ e 27 = .int .i64 (pre0).length) (.exit 2) (fun e h => e 2 = .ptr 0 0 ∧ h.hp 0 = some v.row ∧ e 1 = .imm (l.map TBy.row) ∧ e 9 = .imm (l.map TBy.row) ∧ e 10 = .int .i64 l.length ∧ e 11 = .int .i64 pre0.length ∧ 0 < h.nx) (fun e h => e 4 = .bool false) (by omega) ?_ ?_ ?_ (by simp) pre0 [] _ _ rfl ?_).mono ?_
    · rintro pre y rest e h a hp ⟨q0,q1,q2,q3,q4,q5,q6,q7,q8,q9,q10,ix,nx⟩
      have hne : ¬ 0 = h.nx:= by omega
      have hne2 : ¬ b = h.nx:= by omega
      have hq : (y.fCol == c.fCol) = false:= by simpa using hp
      have hb1 : b < h.nx + 1:= by omega
      simp only [go_sem,kSt_ptr,Nat.reduceBEq,Nat.reduceAdd,s_impl_partsOk_L0,q0,q1,q2,q3,q4,q5,q6,q7,q8,q9,q10,ix,nx,a.dl,a.ia (row:= TBy.row) (sz:= 2) rfl,a.hw,TBy.row,hq,hne,hne2,hb1]
    · rintro pre y rest e h a hp ⟨q0,q1,q2,q3,q4,q5,q6,q7,q8,q9,q10,ix,nx⟩
      have hne : ¬ 0 = h.nx:= by omega
      have hne2 : ¬ b = h.nx:= by omega
      have hq : (y.fCol == c.fCol) = true:= by simpa using hp
      simp only [go_sem,kSt_ptr,Nat.reduceBEq,Nat.reduceAdd,s_impl_partsOk_L0,q6,q7,q10,ix,nx,a.dl,a.ia (row:= TBy.row) (sz:= 2) rfl,a.hw,TBy.row,hq,hne2]
    · rintro e h ⟨q0,q1,q2,q3,q4,q5,q6,q7,q8,q9,q10,ix,nx⟩
      simp only [go_sem,Nat.reduceBEq,s_impl_partsOk_L0,q0,q1,q2,q3,q4,q5,q9,q10,ix,nx]
    · simp only [go_sem,k0,k1,k1',k2,k3,k4,k5,k6,k7,k8,k9,k10,k11]
    · rintro x e' h' (⟨hp,rfl,j⟩ | ⟨hp,rfl,j⟩)
      · rw [allP_all] at hp
        exact .inl ⟨hp,rfl,j⟩
      · rw [allP_all] at hp
        exact .inr ⟨hp,rfl,j⟩
  simp only [go_sem,Nat.reduceBEq,s_impl_partsOk,TDef.row]
  refine (wl_all (l:= l) (fun pre p => partP ((v.fCols.length : Int) - 1) pre p) (fun pre e h => e 2 = .ptr 0 0 ∧ h.hp 0 = some v.row ∧ e 1 = .imm (l.map TBy.row) ∧ e 9 = .imm (l.map TBy.row) ∧ 0 < h.nx ∧ e 11 = .int .i64 pre.length ∧ e 10 = .int .i64 (l).length) (.exit 0) (fun e h => e 2 = .ptr 0 0 ∧ h.hp 0 = some v.row ∧ e 1 = .imm (l.map TBy.row) ∧ e 9 = .imm (l.map TBy.row) ∧ 0 < h.nx) (fun e h => e 4 = .bool false) (by omega) ?_ ?_ ?_ (by simp) l [] _ _ rfl ?_).mono ?_
  · rintro pre p rest e h a hp ⟨q0,q1,q2,q3,q4,ix,nx⟩
    have hne : ¬ 0 = h.nx:= by omega
    have hq1 : inR p.fCol 0 ((v.fCols.length : Int) - 1) = true:= by unfold partP at hp;simp only [Bool.and_eq_true] at hp;exact hp.1
    have hq2 : (pre.all fun q => !(q.fCol == p.fCol)) = true:= by unfold partP at hp;simp only [Bool.and_eq_true] at hp;exact hp.2
    all_goals simp only [go_sem,kSt_ptr,Nat.reduceBEq,Nat.reduceAdd,Nat.reduceLeDiff,s_impl_partsOk_L1,q0,q1,q2,q3,q4,ix,nx,a.dl,a.ia (row:= TBy.row) (sz:= 2) rfl,TDef.row,TBy.row,hne,h1,C_impl_in_eq,hw2,hq1,kSl_pre (row:= TBy.row) (sz:= 2) a.hl (fun _ => rfl) (by decide)]
    refine (inner pre p rest a _ _ h.nx (by simp only [go_sem,Nat.reduceBEq,q0]) (by simp only [go_sem,hne,q1]) (by simp only [go_sem,Nat.reduceBEq,q2]) (by simp only [go_sem,Nat.reduceBEq,q3]) (by simp only [go_sem,Nat.reduceBEq,nx]) (by simp only [go_sem,Nat.reduceBEq,ix]) (by simp only [go_sem,Nat.reduceBEq]) (by simp only [go_sem,TBy.row]) (by simp only [go_sem,Nat.lt_succ_self]) (by simp only [go_sem]) (by simp only [go_sem,Nat.reduceBEq]) (by simp only [go_sem,Nat.reduceBEq]) (by simp only [go_sem,Nat.reduceBEq])).mono ?_
    rintro x e' h' (⟨hq,rfl,k0,k1,k2,k3,k4,k5,k6⟩ | ⟨hq,rfl,k⟩)
    · simp only [go_sem,Nat.reduceBEq,k0,k1,k2,k3,k4,k5,k6,TDef.row,a.hw]
    · rw [hq2] at hq;cases hq
  · rintro pre p rest e h a hp ⟨q0,q1,q2,q3,q4,ix,nx⟩
    have hne : ¬ 0 = h.nx:= by omega
    cases hq1 : inR p.fCol 0 ((v.fCols.length : Int) - 1)
    all_goals simp only [go_sem,kSt_ptr,Nat.reduceBEq,Nat.reduceAdd,Nat.reduceLeDiff,s_impl_partsOk_L1,q0,q1,q2,q3,ix,nx,a.dl,a.ia (row:= TBy.row) (sz:= 2) rfl,TDef.row,TBy.row,hne,h1,C_impl_in_eq,hw2,hq1,kSl_pre (row:= TBy.row) (sz:= 2) a.hl (fun _ => rfl) (by decide)]
    have hq2 : (pre.all fun q => !(q.fCol == p.fCol)) = false:= by unfold partP at hp;rw [hq1,Bool.true_and] at hp;exact hp
    refine (inner pre p rest a _ _ h.nx (by simp only [go_sem,Nat.reduceBEq,q0]) (by simp only [go_sem,hne,q1]) (by simp only [go_sem,Nat.reduceBEq,q2]) (by simp only [go_sem,Nat.reduceBEq,q3]) (by simp only [go_sem,Nat.reduceBEq,nx]) (by simp only [go_sem,Nat.reduceBEq,ix]) (by simp only [go_sem,Nat.reduceBEq]) (by simp only [go_sem,TBy.row]) (by simp only [go_sem,Nat.lt_succ_self]) (by simp only [go_sem]) (by simp only [go_sem,Nat.reduceBEq]) (by simp only [go_sem,Nat.reduceBEq]) (by simp only [go_sem,Nat.reduceBEq])).mono ?_
    rintro x e' h' (⟨hq,rfl,k0,k1,k2,k3,k4,k5,k6⟩ | ⟨hq,rfl,k⟩)
    · rw [hq2] at hq;cases hq
    · simp only [go_sem,k]
  · rintro e h ⟨q0,q1,q2,q3,q4,ix,nx⟩
    simp only [go_sem,Nat.reduceBEq,s_impl_partsOk_L1,q0,q1,q2,q3,q4,ix,nx,TDef.row]
  · simp only [go_sem,Nat.reduceBEq,TDef.row]
  · rintro x e h (⟨hp,rfl,j0,j1,j2,j3,j4⟩ | ⟨hp,rfl,j⟩)
    · simp only [go_sem,Nat.reduceBEq,j2,h1,C_impl_in_eq,partsOK,hp]
    · simp only [go_sem,j,partsOK,hp]
def wordsText : List UInt8:= [116,97,98,108,101,32,112,114,105,109,97,114,121,32,117,110,105,113,117,101,32,105,110,100,101,120,32,110,117,108,108,32,100,101,115,99,32,105,110,116,32,110,117,109,32,116,101,120,116,32,98,111,111,108]
theorem words_split : Lib.split wordsText [32] = words:= by decide +kernel
noncomputable def C_strings_Split:= c2 strT strT (fun s sep => s.length < 4294967281 ∧ 1 ≤ sep.length) (fun l => .imm (l.map strT.row)) fun s sep => Lib.split s sep
theorem C_strings_Split_eq (s sep : List UInt8) (h : s.length < 4294967281 ∧ 1 ≤ sep.length) : C_strings_Split [.str s,.str sep] = some (.imm ((Lib.split s sep).map strT.row)):= c2_eq strT strT h
noncomputable def C_impl_isFree:= c1 strT (fun (s : List UInt8) => s.length ≤ 1048576) (.bool) fun (s : List UInt8) => freeW s
theorem C_impl_isFree_eq (s : List UInt8) (h : s.length ≤ 1048576) : C_impl_isFree [.str s] = some (.bool ((freeW s))):= c1_eq strT h
theorem ok_impl_isFree {WI : World → Prop} (hs : Stable WI) (cs) (hT : TOK (EE cs) WI) (h1 : (EE cs).T 219 = some C_strings_Split) (h2 : (EE cs).T 163 = some C_impl_nameOk) : PureOK Tryz.prog WI 196 C_impl_isFree:= by
  refine pure1 (E:= EE cs) hT hs (by rw [st_impl_isFree];rfl) fun s hp => out_wp (n:= 0) (st_impl_isFree cs) ?_
  have c1 : C_strings_Split [.str [116,97,98,108,101,32,112,114,105,109,97,114,121,32,117,110,105,113,117,101,32,105,110,100,101,120,32,110,117,108,108,32,100,101,115,99,32,105,110,116,32,110,117,109,32,116,101,120,116,32,98,111,111,108],.str [32]] = some (.imm (words.map strT.row)):= by
    rw [← words_split]
    exact C_strings_Split_eq wordsText [32] (by decide)
  have c2:= C_impl_nameOk_eq s hp
  simp only [go_sem,Nat.reduceBEq,s_impl_isFree,h1,c1]
  refine (wl_all (l:= words) (fun pre w => !(w == s)) (fun pre e h => e 0 = .str s ∧ e 5 = .imm (words.map strT.row) ∧ e 7 = .int .i64 pre.length ∧ e 6 = .int .i64 (words).length) (.exit 0) (fun e h => e 0 = .str s ∧ e 5 = .imm (words.map strT.row)) (fun e h => e 2 = .bool false) (by decide) ?_ ?_ ?_ (by simp) words [] _ _ rfl ?_).mono ?_
  · rintro pre w rest e h a hp ⟨q0,q1,ix,nx⟩
    have hq : (w == s) = false:= by simpa using hp
    simp only [go_sem,Nat.reduceBEq,s_impl_isFree_L0,q0,q1,ix,nx,a.dl,a.ia (row:= strT.row) (sz:= 1) rfl,a.hw,hq]
  · rintro pre w rest e h a hp ⟨q0,q1,ix,nx⟩
    have hq : (w == s) = true:= by simpa using hp
    simp only [go_sem,Nat.reduceBEq,s_impl_isFree_L0,q0,q1,ix,nx,a.dl,a.ia (row:= strT.row) (sz:= 1) rfl,a.hw,hq]
  · rintro e h ⟨q0,q1,ix,nx⟩
    simp only [go_sem,Nat.reduceBEq,s_impl_isFree_L0,q0,q1,ix,nx]
  · simp only [go_sem,Nat.reduceBEq,and_self]
  · rintro x e h (⟨hp,rfl,j0,j1⟩ | ⟨hp,rfl,j⟩)
    · rw [allP_all] at hp
      simp only [go_sem,Nat.reduceBEq,j0,h2,c2,freeW,hasS,hp]
    · rw [allP_all] at hp
      simp only [go_sem,j,freeW,hasS,hp]
noncomputable def C_impl_namesOk:= c1 tDef (fun (v : TDef) => tDef.cost v ≤ 1048576) (.bool) fun (v : TDef) => defNames v
theorem C_impl_namesOk_eq (v : TDef) (h : tDef.cost v ≤ 1048576) : C_impl_namesOk [.agg [.str v.fName,.imm (v.fCols.map TCol.row),.imm (v.fPrimary.map TBy.row),.imm (v.fIndexes.map TIndex.row)]] = some (.bool ((defNames v))):= c1_eq tDef h
theorem ok_impl_namesOk {WI : World → Prop} (hs : Stable WI) (cs) (hT : TOK (EE cs) WI) (h1 : (EE cs).T 196 = some C_impl_isFree) : PureOK Tryz.prog WI 165 C_impl_namesOk:= by
  refine pure1 (E:= EE cs) hT hs (by rw [st_impl_namesOk];rfl) fun v hp => out_wp (n:= 0) (st_impl_namesOk cs) ?_
  obtain ⟨n1,n2,n3,n4,n5,n6⟩:= defLens hp
  simp only [go_sem,Nat.reduceBEq,Nat.reduceAdd,Nat.reduceLeDiff,s_impl_namesOk,TDef.row]
  refine (wl_all (l:= v.fCols) (fun pre c => freeW c.fName) (fun pre e h => e 1 = .ptr 0 0 ∧ h.hp 0 = some v.row ∧ e 8 = .imm (v.fCols.map TCol.row) ∧ 0 < h.nx ∧ e 10 = .int .i64 pre.length ∧ e 9 = .int .i64 (v.fCols).length) (.exit 0) (fun e h => e 1 = .ptr 0 0 ∧ h.hp 0 = some v.row ∧ e 8 = .imm (v.fCols.map TCol.row) ∧ 0 < h.nx) (fun e h => e 2 = .bool false) (by omega) ?_ ?_ ?_ (by simp) v.fCols [] _ _ rfl ?_).mono ?_
  · rintro pre c rest e h a hp ⟨q0,q1,q2,q3,ix,nx⟩
    have hne : ¬ 0 = h.nx:= by omega
    simp only [go_sem,kSt_ptr,Nat.reduceBEq,Nat.reduceAdd,s_impl_namesOk_L0,q0,q1,q2,q3,ix,nx,a.dl,a.ia (row:= TCol.row) (sz:= 3) rfl,hp,a.hw,TDef.row,TCol.row,h1,C_impl_isFree_eq c.fName (n5 c a.mem),hne]
  · rintro pre c rest e h a hp ⟨q0,q1,q2,q3,ix,nx⟩
    have hne : ¬ 0 = h.nx:= by omega
    simp only [go_sem,kSt_ptr,Nat.reduceBEq,Nat.reduceAdd,s_impl_namesOk_L0,q2,ix,nx,a.dl,a.ia (row:= TCol.row) (sz:= 3) rfl,hp,a.hw,TCol.row,h1,C_impl_isFree_eq c.fName (n5 c a.mem)]
  · rintro e h ⟨q0,q1,q2,q3,ix,nx⟩
    simp only [go_sem,Nat.reduceBEq,s_impl_namesOk_L0,q0,q1,q2,q3,ix,nx,TDef.row]
  · simp only [go_sem,Nat.reduceBEq,TDef.row]
  · rintro x e h (⟨hp,rfl,j0,j1,j2,j3⟩ | ⟨hp,rfl,j⟩)
    · rw [allP_all] at hp
      simp only [go_sem,Nat.reduceBEq,Nat.reduceAdd,Nat.reduceLeDiff,j0,j1,TDef.row]
      refine (wl_all (l:= v.fIndexes) (fun pre c => freeW c.fName) (fun pre e h => e 1 = .ptr 0 0 ∧ h.hp 0 = some v.row ∧ e 20 = .imm (v.fIndexes.map TIndex.row) ∧ 0 < h.nx ∧ e 22 = .int .i64 pre.length ∧ e 21 = .int .i64 (v.fIndexes).length) (.exit 2) (fun e h => e 1 = .ptr 0 0 ∧ h.hp 0 = some v.row ∧ e 20 = .imm (v.fIndexes.map TIndex.row) ∧ 0 < h.nx) (fun e h => e 2 = .bool false) (by omega) ?_ ?_ ?_ (by simp) v.fIndexes [] _ _ rfl ?_).mono ?_
      · rintro pre c rest e h a hp ⟨q0,q1,q2,q3,ix,nx⟩
        have hne : ¬ 0 = h.nx:= by omega
        simp only [go_sem,kSt_ptr,Nat.reduceBEq,Nat.reduceAdd,s_impl_namesOk_L1,q0,q1,q2,q3,ix,nx,a.dl,a.ia (row:= TIndex.row) (sz:= 3) rfl,hp,a.hw,TDef.row,TIndex.row,h1,C_impl_isFree_eq c.fName (n6 c a.mem).1,hne]
      · rintro pre c rest e h a hp ⟨q0,q1,q2,q3,ix,nx⟩
        have hne : ¬ 0 = h.nx:= by omega
        simp only [go_sem,kSt_ptr,Nat.reduceBEq,Nat.reduceAdd,s_impl_namesOk_L1,q2,ix,nx,a.dl,a.ia (row:= TIndex.row) (sz:= 3) rfl,hp,a.hw,TIndex.row,h1,C_impl_isFree_eq c.fName (n6 c a.mem).1]
      · rintro e h ⟨q0,q1,q2,q3,ix,nx⟩
        simp only [go_sem,Nat.reduceBEq,s_impl_namesOk_L1,q0,q1,q2,q3,ix,nx,TDef.row]
      · simp only [go_sem,Nat.reduceBEq,j0,j1,j3,TDef.row]
      · rintro x e h (⟨hp2,rfl,j0,j1,j2,j3⟩ | ⟨hp2,rfl,j⟩)
        · rw [allP_all] at hp2
          simp only [go_sem,Nat.reduceBEq,j0,j1,TDef.row,h1,C_impl_isFree_eq v.fName n1,defNames,hp,hp2]
        · rw [allP_all] at hp2
          simp only [go_sem,j,defNames,hp,hp2]
    · rw [allP_all] at hp
      simp only [go_sem,j,defNames,hp]
noncomputable def C_impl_twice:= c1 tDef (fun (v : TDef) => tDef.cost v ≤ 1048576) (.bool) fun (v : TDef) => !defOnce v
theorem C_impl_twice_eq (v : TDef) (h : tDef.cost v ≤ 1048576) : C_impl_twice [.agg [.str v.fName,.imm (v.fCols.map TCol.row),.imm (v.fPrimary.map TBy.row),.imm (v.fIndexes.map TIndex.row)]] = some (.bool ((!defOnce v))):= c1_eq tDef h
theorem ok_impl_twice {WI : World → Prop} (hs : Stable WI) (cs) (hT : TOK (EE cs) WI) : PureOK Tryz.prog WI 166 C_impl_twice:= by
  refine pure1 (E:= EE cs) hT hs (by rw [st_impl_twice];rfl) fun v hp => out_wp (n:= 0) (st_impl_twice cs) ?_
  obtain ⟨n1,n2,n3,n4,n5,n6⟩:= defLens hp
  have in1 : ∀ pre c rest,At v.fCols pre c rest → ∀ e h b,e 1 = .ptr 0 0 → h.hp 0 = some v.row → e 12 = .imm (v.fCols.map TCol.row) → e 13 = .int .i64 v.fCols.length → e 14 = .int .i64 pre.length → e 4 = .ptr b 0 → h.hp b = some c.row → b < h.nx → 0 < h.nx → e 22 = .imm (pre.map TCol.row) → e 23 = .int .i64 pre.length → e 24 = .int .i64 0 → WL (EE cs) s_impl_twice_L0 e h fun x e' h' => (onceC pre c = true ∧ x = .exit 2 ∧ e' 1 = .ptr 0 0 ∧ h'.hp 0 = some v.row ∧ e' 12 = .imm (v.fCols.map TCol.row) ∧ e' 13 = .int .i64 v.fCols.length ∧ e' 14 = .int .i64 pre.length ∧ 0 < h'.nx) ∨ (onceC pre c = false ∧ x = .ret ∧ e' 2 = .bool true):= by
    intro pre0 c rest0 a0 e h b k0 k1 k2 k3 k4 k5 k6 k7 k8 k9 k10 k11
    have hlt0:= a0.lt
    refine (wl_all (l:= pre0) (fun pre y => !(y.fName == c.fName)) (fun pre e h => e 1 = .ptr 0 0 ∧ h.hp 0 = some v.row ∧ e 12 = .imm (v.fCols.map TCol.row) ∧ e 13 = .int .i64 v.fCols.length ∧ e 14 = .int .i64 pre0.length ∧ e 4 = .ptr b 0 ∧ h.hp b = some c.row ∧ b < h.nx ∧ 0 < h.nx ∧ e 22 = .imm (pre0.map TCol.row) ∧ e 24 = .int .i64 pre.length ∧ e 23 = .int .i64 (pre0).length) (.exit 2) (fun e h => e 1 = .ptr 0 0 ∧ h.hp 0 = some v.row ∧ e 12 = .imm (v.fCols.map TCol.row) ∧ e 13 = .int .i64 v.fCols.length ∧ e 14 = .int .i64 pre0.length ∧ 0 < h.nx) (fun e h => e 2 = .bool true) (by omega) ?_ ?_ ?_ (by simp) pre0 [] _ _ rfl ?_).mono ?_
    · rintro pre y rest e h a hp ⟨q0,q1,q2,q3,q4,q5,q6,q7,q8,q9,ix,nx⟩
      have hne : ¬ 0 = h.nx:= by omega
      have hne2 : ¬ b = h.nx:= by omega
      have hq : (y.fName == c.fName) = false:= by simpa using hp
      have hb1 : b < h.nx + 1:= by omega
      simp only [go_sem,kSt_ptr,Nat.reduceBEq,Nat.reduceAdd,s_impl_twice_L0,q0,q1,q2,q3,q4,q5,q6,q7,q8,q9,ix,nx,a.dl,a.ia (row:= TCol.row) (sz:= 3) rfl,a.hw,TCol.row,hq,hne,hne2,hb1]
    · rintro pre y rest e h a hp ⟨q0,q1,q2,q3,q4,q5,q6,q7,q8,q9,ix,nx⟩
      have hne : ¬ 0 = h.nx:= by omega
      have hne2 : ¬ b = h.nx:= by omega
      have hq : (y.fName == c.fName) = true:= by simpa using hp
      simp only [go_sem,kSt_ptr,Nat.reduceBEq,Nat.reduceAdd,s_impl_twice_L0,q5,q6,q9,ix,nx,a.dl,a.ia (row:= TCol.row) (sz:= 3) rfl,a.hw,TCol.row,hq,hne2]
    · rintro e h ⟨q0,q1,q2,q3,q4,q5,q6,q7,q8,q9,ix,nx⟩
      simp only [go_sem,Nat.reduceBEq,s_impl_twice_L0,q0,q1,q2,q3,q4,q8,q9,ix,nx]
    · simp only [go_sem,k0,k1,k2,k3,k4,k5,k6,k7,k8,k9,k10,k11]
    · rintro x e' h' (⟨hp,rfl,j⟩ | ⟨hp,rfl,j⟩)
      · rw [allP_all] at hp
        exact .inl ⟨hp,rfl,j⟩
      · rw [allP_all] at hp
        exact .inr ⟨hp,rfl,j⟩
  have in2 : ∀ pre c rest,At v.fIndexes pre c rest → ∀ e h b,e 1 = .ptr 0 0 → h.hp 0 = some v.row → e 36 = .imm (v.fIndexes.map TIndex.row) → e 37 = .int .i64 v.fIndexes.length → e 38 = .int .i64 pre.length → e 8 = .ptr b 0 → h.hp b = some c.row → b < h.nx → 0 < h.nx → e 46 = .imm (pre.map TIndex.row) → e 47 = .int .i64 pre.length → e 48 = .int .i64 0 → WL (EE cs) s_impl_twice_L2 e h fun x e' h' => (onceX pre c = true ∧ x = .exit 6 ∧ e' 1 = .ptr 0 0 ∧ h'.hp 0 = some v.row ∧ e' 36 = .imm (v.fIndexes.map TIndex.row) ∧ e' 37 = .int .i64 v.fIndexes.length ∧ e' 38 = .int .i64 pre.length ∧ 0 < h'.nx) ∨ (onceX pre c = false ∧ x = .ret ∧ e' 2 = .bool true):= by
    intro pre0 c rest0 a0 e h b k0 k1 k2 k3 k4 k5 k6 k7 k8 k9 k10 k11
    have hlt0:= a0.lt
    refine (wl_all (l:= pre0) (fun pre y => !(y.fName == c.fName)) (fun pre e h => e 1 = .ptr 0 0 ∧ h.hp 0 = some v.row ∧ e 36 = .imm (v.fIndexes.map TIndex.row) ∧ e 37 = .int .i64 v.fIndexes.length ∧ e 38 = .int .i64 pre0.length ∧ e 8 = .ptr b 0 ∧ h.hp b = some c.row ∧ b < h.nx ∧ 0 < h.nx ∧ e 46 = .imm (pre0.map TIndex.row) ∧ e 48 = .int .i64 pre.length ∧ e 47 = .int .i64 (pre0).length) (.exit 6) (fun e h => e 1 = .ptr 0 0 ∧ h.hp 0 = some v.row ∧ e 36 = .imm (v.fIndexes.map TIndex.row) ∧ e 37 = .int .i64 v.fIndexes.length ∧ e 38 = .int .i64 pre0.length ∧ 0 < h.nx) (fun e h => e 2 = .bool true) (by omega) ?_ ?_ ?_ (by simp) pre0 [] _ _ rfl ?_).mono ?_
    · rintro pre y rest e h a hp ⟨q0,q1,q2,q3,q4,q5,q6,q7,q8,q9,ix,nx⟩
      have hne : ¬ 0 = h.nx:= by omega
      have hne2 : ¬ b = h.nx:= by omega
      have hq : (y.fName == c.fName) = false:= by simpa using hp
      have hb1 : b < h.nx + 1:= by omega
      simp only [go_sem,kSt_ptr,Nat.reduceBEq,Nat.reduceAdd,s_impl_twice_L2,q0,q1,q2,q3,q4,q5,q6,q7,q8,q9,ix,nx,a.dl,a.ia (row:= TIndex.row) (sz:= 3) rfl,a.hw,TIndex.row,hq,hne,hne2,hb1]
    · rintro pre y rest e h a hp ⟨q0,q1,q2,q3,q4,q5,q6,q7,q8,q9,ix,nx⟩
      have hne : ¬ 0 = h.nx:= by omega
      have hne2 : ¬ b = h.nx:= by omega
      have hq : (y.fName == c.fName) = true:= by simpa using hp
      simp only [go_sem,kSt_ptr,Nat.reduceBEq,Nat.reduceAdd,s_impl_twice_L2,q5,q6,q9,ix,nx,a.dl,a.ia (row:= TIndex.row) (sz:= 3) rfl,a.hw,TIndex.row,hq,hne2]
    · rintro e h ⟨q0,q1,q2,q3,q4,q5,q6,q7,q8,q9,ix,nx⟩
      simp only [go_sem,Nat.reduceBEq,s_impl_twice_L2,q0,q1,q2,q3,q4,q8,q9,ix,nx]
    · simp only [go_sem,k0,k1,k2,k3,k4,k5,k6,k7,k8,k9,k10,k11]
    · rintro x e' h' (⟨hp,rfl,j⟩ | ⟨hp,rfl,j⟩)
      · rw [allP_all] at hp
        exact .inl ⟨hp,rfl,j⟩
      · rw [allP_all] at hp
        exact .inr ⟨hp,rfl,j⟩
  simp only [go_sem,Nat.reduceBEq,Nat.reduceAdd,Nat.reduceLeDiff,s_impl_twice,TDef.row]
  refine (wl_all (l:= v.fCols) (fun pre c => onceC pre c) (fun pre e h => e 1 = .ptr 0 0 ∧ h.hp 0 = some v.row ∧ e 12 = .imm (v.fCols.map TCol.row) ∧ 0 < h.nx ∧ e 14 = .int .i64 pre.length ∧ e 13 = .int .i64 (v.fCols).length) (.exit 0) (fun e h => e 1 = .ptr 0 0 ∧ h.hp 0 = some v.row ∧ e 12 = .imm (v.fCols.map TCol.row) ∧ 0 < h.nx) (fun e h => e 2 = .bool true) (by omega) ?_ ?_ ?_ (by simp) v.fCols [] _ _ rfl ?_).mono ?_
  · rintro pre c rest e h a hp ⟨q0,q1,q2,q3,ix,nx⟩
    have hne : ¬ 0 = h.nx:= by omega
    simp only [go_sem,kSt_ptr,Nat.reduceBEq,Nat.reduceAdd,Nat.reduceLeDiff,s_impl_twice_L1,q0,q1,q2,q3,ix,nx,a.dl,a.ia (row:= TCol.row) (sz:= 3) rfl,TDef.row,TCol.row,hne,kSl_pre (row:= TCol.row) (sz:= 3) a.hl (fun _ => rfl) (by decide)]
    refine (in1 pre c rest a _ _ h.nx (by simp only [go_sem,Nat.reduceBEq,q0]) (by simp only [go_sem,hne,q1]) (by simp only [go_sem,Nat.reduceBEq,q2]) (by simp only [go_sem,Nat.reduceBEq,nx]) (by simp only [go_sem,Nat.reduceBEq,ix]) (by simp only [go_sem,Nat.reduceBEq]) (by simp only [go_sem,TCol.row]) (by simp only [go_sem,Nat.lt_succ_self]) (by simp only [go_sem]) (by simp only [go_sem,Nat.reduceBEq]) (by simp only [go_sem,Nat.reduceBEq]) (by simp only [go_sem,Nat.reduceBEq])).mono ?_
    rintro x e' h' (⟨hq,rfl,k0,k1,k2,k3,k4,k5⟩ | ⟨hq,rfl,k⟩)
    · simp only [go_sem,Nat.reduceBEq,k0,k1,k2,k3,k4,k5,TDef.row,a.hw]
    · rw [hp] at hq;cases hq
  · rintro pre c rest e h a hp ⟨q0,q1,q2,q3,ix,nx⟩
    have hne : ¬ 0 = h.nx:= by omega
    simp only [go_sem,kSt_ptr,Nat.reduceBEq,Nat.reduceAdd,Nat.reduceLeDiff,s_impl_twice_L1,q0,q1,q2,ix,nx,a.dl,a.ia (row:= TCol.row) (sz:= 3) rfl,TDef.row,TCol.row,hne,kSl_pre (row:= TCol.row) (sz:= 3) a.hl (fun _ => rfl) (by decide)]
    refine (in1 pre c rest a _ _ h.nx (by simp only [go_sem,Nat.reduceBEq,q0]) (by simp only [go_sem,hne,q1]) (by simp only [go_sem,Nat.reduceBEq,q2]) (by simp only [go_sem,Nat.reduceBEq,nx]) (by simp only [go_sem,Nat.reduceBEq,ix]) (by simp only [go_sem,Nat.reduceBEq]) (by simp only [go_sem,TCol.row]) (by simp only [go_sem,Nat.lt_succ_self]) (by simp only [go_sem]) (by simp only [go_sem,Nat.reduceBEq]) (by simp only [go_sem,Nat.reduceBEq]) (by simp only [go_sem,Nat.reduceBEq])).mono ?_
    rintro x e' h' (⟨hq,rfl,k0,k1,k2,k3,k4,k5⟩ | ⟨hq,rfl,k⟩)
    · rw [hp] at hq;cases hq
    · simp only [go_sem,k]
  · rintro e h ⟨q0,q1,q2,q3,ix,nx⟩
    simp only [go_sem,Nat.reduceBEq,s_impl_twice_L1,q0,q1,q2,q3,ix,nx,TDef.row]
  · simp only [go_sem,Nat.reduceBEq,TDef.row]
  · rintro x e h (⟨hp1,rfl,j0,j1,j2,j3⟩ | ⟨hp1,rfl,j⟩)
    · simp only [go_sem,Nat.reduceBEq,Nat.reduceAdd,Nat.reduceLeDiff,j0,j1,TDef.row]
      refine (wl_all (l:= v.fIndexes) (fun pre c => onceX pre c) (fun pre e h => e 1 = .ptr 0 0 ∧ h.hp 0 = some v.row ∧ e 36 = .imm (v.fIndexes.map TIndex.row) ∧ 0 < h.nx ∧ e 38 = .int .i64 pre.length ∧ e 37 = .int .i64 (v.fIndexes).length) (.exit 4) (fun e h => e 1 = .ptr 0 0 ∧ h.hp 0 = some v.row ∧ e 36 = .imm (v.fIndexes.map TIndex.row) ∧ 0 < h.nx) (fun e h => e 2 = .bool true) (by omega) ?_ ?_ ?_ (by simp) v.fIndexes [] _ _ rfl ?_).mono ?_
      · rintro pre c rest e h a hp ⟨q0,q1,q2,q3,ix,nx⟩
        have hne : ¬ 0 = h.nx:= by omega
        simp only [go_sem,kSt_ptr,Nat.reduceBEq,Nat.reduceAdd,Nat.reduceLeDiff,s_impl_twice_L3,q0,q1,q2,q3,ix,nx,a.dl,a.ia (row:= TIndex.row) (sz:= 3) rfl,TDef.row,TIndex.row,hne,kSl_pre (row:= TIndex.row) (sz:= 3) a.hl (fun _ => rfl) (by decide)]
        refine (in2 pre c rest a _ _ h.nx (by simp only [go_sem,Nat.reduceBEq,q0]) (by simp only [go_sem,hne,q1]) (by simp only [go_sem,Nat.reduceBEq,q2]) (by simp only [go_sem,Nat.reduceBEq,nx]) (by simp only [go_sem,Nat.reduceBEq,ix]) (by simp only [go_sem,Nat.reduceBEq]) (by simp only [go_sem,TIndex.row]) (by simp only [go_sem,Nat.lt_succ_self]) (by simp only [go_sem]) (by simp only [go_sem,Nat.reduceBEq]) (by simp only [go_sem,Nat.reduceBEq]) (by simp only [go_sem,Nat.reduceBEq])).mono ?_
        rintro x e' h' (⟨hq,rfl,k0,k1,k2,k3,k4,k5⟩ | ⟨hq,rfl,k⟩)
        · simp only [go_sem,Nat.reduceBEq,k0,k1,k2,k3,k4,k5,TDef.row,a.hw]
        · rw [hp] at hq;cases hq
      · rintro pre c rest e h a hp ⟨q0,q1,q2,q3,ix,nx⟩
        have hne : ¬ 0 = h.nx:= by omega
        simp only [go_sem,kSt_ptr,Nat.reduceBEq,Nat.reduceAdd,Nat.reduceLeDiff,s_impl_twice_L3,q0,q1,q2,ix,nx,a.dl,a.ia (row:= TIndex.row) (sz:= 3) rfl,TDef.row,TIndex.row,hne,kSl_pre (row:= TIndex.row) (sz:= 3) a.hl (fun _ => rfl) (by decide)]
        refine (in2 pre c rest a _ _ h.nx (by simp only [go_sem,Nat.reduceBEq,q0]) (by simp only [go_sem,hne,q1]) (by simp only [go_sem,Nat.reduceBEq,q2]) (by simp only [go_sem,Nat.reduceBEq,nx]) (by simp only [go_sem,Nat.reduceBEq,ix]) (by simp only [go_sem,Nat.reduceBEq]) (by simp only [go_sem,TIndex.row]) (by simp only [go_sem,Nat.lt_succ_self]) (by simp only [go_sem]) (by simp only [go_sem,Nat.reduceBEq]) (by simp only [go_sem,Nat.reduceBEq]) (by simp only [go_sem,Nat.reduceBEq])).mono ?_
        rintro x e' h' (⟨hq,rfl,k0,k1,k2,k3,k4,k5⟩ | ⟨hq,rfl,k⟩)
        · rw [hp] at hq;cases hq
        · simp only [go_sem,k]
      · rintro e h ⟨q0,q1,q2,q3,ix,nx⟩
        simp only [go_sem,Nat.reduceBEq,s_impl_twice_L3,q0,q1,q2,q3,ix,nx,TDef.row]
      · simp only [go_sem,Nat.reduceBEq,j0,j1,j3,TDef.row]
      · rintro x e h (⟨hp2,rfl,j0,j1,j2,j3⟩ | ⟨hp2,rfl,j⟩)
        · simp only [go_sem,defOnce,hp1,hp2]
        · simp only [go_sem,j,defOnce,hp1,hp2]
    · simp only [go_sem,j,defOnce,hp1]
end Go.Proofs.YtpolhafmapekpaaGreatDoor.En
