/- What the functions that FnExactEngNew calls answer, for every argument within the law's bounds: part 3. -/
import Derived.Test.YtpolhafmapekpaaGreatDoorEnP2
import Derived.Lib.AtoiAllCases
import Derived.Lib.ItoaLen
import Derived.Lib.ItoaMem
import Derived.Lib.ItoaNum
import Derived.Lib.Split
set_option linter.unusedVariables false
set_option linter.unusedSimpArgs false
set_option linter.unnecessarySimpa false
namespace Go.Proofs.YtpolhafmapekpaaGreatDoor.En
open Go Go.RowKit Go.Ev
set_option maxHeartbeats 1600000
noncomputable def C_impl_CheckDef:= c1 tDef (fun (v : TDef) => tDef.cost v ≤ 1048576) ((.int .i64)) fun (v : TDef) => checkDef v
theorem C_impl_CheckDef_eq (v : TDef) (h : tDef.cost v ≤ 1048576) : C_impl_CheckDef [.agg [.str v.fName,.imm (v.fCols.map TCol.row),.imm (v.fPrimary.map TBy.row),.imm (v.fIndexes.map TIndex.row)]] = some (.int .i64 ((checkDef v))):= c1_eq tDef h
theorem ok_impl_CheckDef {WI : World → Prop} (hs : Stable WI) (cs) (hT : TOK (EE cs) WI) (h1 : (EE cs).T 165 = some C_impl_namesOk) (h2 : (EE cs).T 69 = some C_impl_in) (h3 : (EE cs).T 166 = some C_impl_twice) (h4 : (EE cs).T 167 = some C_impl_partsOk) : PureOK Tryz.prog WI 121 C_impl_CheckDef:= by
  refine pure1 (E:= EE cs) hT hs (by rw [st_impl_CheckDef];rfl) fun v hp => out_wp (n:= 0) (st_impl_CheckDef cs) ?_
  obtain ⟨n1,n2,n3,n4,n5,n6⟩:= defLens hp
  have hv:= hp
  have c1 : C_impl_namesOk [.agg [.str v.fName,.imm (v.fCols.map TCol.row),.imm (v.fPrimary.map TBy.row),.imm (v.fIndexes.map TIndex.row)]] = some (.bool (defNames v)):= C_impl_namesOk_eq v hp
  have c3 : C_impl_twice [.agg [.str v.fName,.imm (v.fCols.map TCol.row),.imm (v.fPrimary.map TBy.row),.imm (v.fIndexes.map TIndex.row)]] = some (.bool (!defOnce v)):= C_impl_twice_eq v hp
  have c4 : ∀ l : List TBy,l.length ≤ 1048576 → C_impl_partsOk [.agg [.str v.fName,.imm (v.fCols.map TCol.row),.imm (v.fPrimary.map TBy.row),.imm (v.fIndexes.map TIndex.row)],.imm (l.map TBy.row)] = some (.bool (partsOK v l)):= fun l hl => C_impl_partsOk_eq v l ⟨hv,hl⟩
  cases d1 : defNames v
  · simp only [go_sem,Nat.reduceBEq,Nat.reduceAdd,Nat.reduceLeDiff,s_impl_CheckDef,TDef.row,h1,c1,d1,checkDef]
  cases d2 : inR v.fCols.length 1 6
  · have e2 : defTypes v = false:= by unfold defTypes;rw [d2,Bool.and_false]
    simp only [go_sem,Nat.reduceBEq,Nat.reduceAdd,Nat.reduceLeDiff,s_impl_CheckDef,TDef.row,h1,c1,d1,h2,C_impl_in_eq,d2,checkDef,e2,Bool.true_eq_false]
  simp only [go_sem,Nat.reduceBEq,Nat.reduceAdd,Nat.reduceLeDiff,s_impl_CheckDef,TDef.row,h1,c1,d1,h2,C_impl_in_eq,d2]
  refine (wl_all (l:= v.fCols) (fun pre c => inR c.fType 1 4) (fun pre e h => e 1 = .ptr 0 0 ∧ h.hp 0 = some v.row ∧ e 18 = .imm (v.fCols.map TCol.row) ∧ 0 < h.nx ∧ e 20 = .int .i64 pre.length ∧ e 19 = .int .i64 (v.fCols).length) (.exit 0) (fun e h => e 1 = .ptr 0 0 ∧ h.hp 0 = some v.row ∧ e 18 = .imm (v.fCols.map TCol.row) ∧ 0 < h.nx) (fun e h => e 2 = .int .i64 2) (by omega) ?_ ?_ ?_ (by simp) v.fCols [] _ _ rfl ?_).mono ?_
  · rintro pre c rest e h a hp ⟨q0,q1,q2,q3,ix,nx⟩
    have hne : ¬ 0 = h.nx:= by omega
    simp only [go_sem,kSt_ptr,Nat.reduceBEq,Nat.reduceAdd,Nat.reduceLeDiff,s_impl_CheckDef_L0,q0,q1,q2,q3,ix,nx,a.dl,a.ia (row:= TCol.row) (sz:= 3) rfl,hp,a.hw,TDef.row,TCol.row,h2,C_impl_in_eq,hne]
  · rintro pre c rest e h a hp ⟨q0,q1,q2,q3,ix,nx⟩
    have hne : ¬ 0 = h.nx:= by omega
    simp only [go_sem,kSt_ptr,Nat.reduceBEq,Nat.reduceAdd,Nat.reduceLeDiff,s_impl_CheckDef_L0,q2,ix,nx,a.dl,a.ia (row:= TCol.row) (sz:= 3) rfl,hp,a.hw,TCol.row,h2,C_impl_in_eq]
  · rintro e h ⟨q0,q1,q2,q3,ix,nx⟩
    simp only [go_sem,Nat.reduceBEq,s_impl_CheckDef_L0,q0,q1,q2,q3,ix,nx,TDef.row]
  · simp only [go_sem,Nat.reduceBEq,TDef.row]
  · rintro x e h (⟨hp1,rfl,j0,j1,j2,j3⟩ | ⟨hp1,rfl,j⟩)
    · rw [allP_all] at hp1
      have e2 : defTypes v = true:= by unfold defTypes;rw [d2,hp1];rfl
      cases d3 : defOnce v
      · simp only [go_sem,Nat.reduceBEq,Nat.reduceAdd,Nat.reduceLeDiff,j0,j1,TDef.row,h3,c3,d3,checkDef,d1,e2,Bool.true_eq_false]
      by_cases d4 : (2 : Int) < v.fIndexes.length
      · simp only [go_sem,Nat.reduceBEq,Nat.reduceAdd,Nat.reduceLeDiff,j0,j1,TDef.row,h3,c3,d3,d4,checkDef,d1,e2,Bool.true_eq_false]
      simp only [go_sem,Nat.reduceBEq,Nat.reduceAdd,Nat.reduceLeDiff,j0,j1,TDef.row,h3,c3,d3,d4]
      refine (wl_all (l:= v.fIndexes) (fun pre y => partsOK v y.fParts) (fun pre e h => e 1 = .ptr 0 0 ∧ h.hp 0 = some v.row ∧ e 36 = .imm (v.fIndexes.map TIndex.row) ∧ 0 < h.nx ∧ e 38 = .int .i64 pre.length ∧ e 37 = .int .i64 (v.fIndexes).length) (.exit 2) (fun e h => e 1 = .ptr 0 0 ∧ h.hp 0 = some v.row ∧ e 36 = .imm (v.fIndexes.map TIndex.row) ∧ 0 < h.nx) (fun e h => e 2 = .int .i64 5) (by omega) ?_ ?_ ?_ (by simp) v.fIndexes [] _ _ rfl ?_).mono ?_
      · rintro pre y rest e h a hp ⟨q0,q1,q2,q3,ix,nx⟩
        have hne : ¬ 0 = h.nx:= by omega
        simp only [go_sem,kSt_ptr,Nat.reduceBEq,Nat.reduceAdd,Nat.reduceLeDiff,s_impl_CheckDef_L1,q0,q1,q2,q3,ix,nx,a.dl,a.ia (row:= TIndex.row) (sz:= 3) rfl,hp,a.hw,TDef.row,TIndex.row,h4,c4 y.fParts (n6 y a.mem).2,hne]
      · rintro pre y rest e h a hp ⟨q0,q1,q2,q3,ix,nx⟩
        have hne : ¬ 0 = h.nx:= by omega
        simp only [go_sem,kSt_ptr,Nat.reduceBEq,Nat.reduceAdd,Nat.reduceLeDiff,s_impl_CheckDef_L1,q0,q1,q2,ix,nx,a.dl,a.ia (row:= TIndex.row) (sz:= 3) rfl,hp,a.hw,TDef.row,TIndex.row,h4,c4 y.fParts (n6 y a.mem).2,hne]
      · rintro e h ⟨q0,q1,q2,q3,ix,nx⟩
        simp only [go_sem,Nat.reduceBEq,s_impl_CheckDef_L1,q0,q1,q2,q3,ix,nx,TDef.row]
      · simp only [go_sem,Nat.reduceBEq,j0,j1,j3,TDef.row]
      · rintro x e h (⟨hp2,rfl,j0,j1,j2,j3⟩ | ⟨hp2,rfl,j⟩)
        · rw [allP_all] at hp2
          cases d5 : partsOK v v.fPrimary
          · have e5 : defParts v = false:= by unfold defParts;rw [d5,Bool.and_false]
            simp only [go_sem,Nat.reduceBEq,Nat.reduceAdd,Nat.reduceLeDiff,j0,j1,TDef.row,h4,c4 v.fPrimary n3,d5,checkDef,d1,e2,d3,d4,e5,Bool.true_eq_false]
          have e5 : defParts v = true:= by unfold defParts;rw [d5,hp2];rfl
          simp only [go_sem,Nat.reduceBEq,Nat.reduceAdd,Nat.reduceLeDiff,j0,j1,TDef.row,h4,c4 v.fPrimary n3,d5]
          refine (wl_all (l:= v.fPrimary) (fun pre p => !(colNull v p.fCol)) (fun pre e h => e 1 = .ptr 0 0 ∧ h.hp 0 = some v.row ∧ e 54 = .imm (v.fPrimary.map TBy.row) ∧ 0 < h.nx ∧ e 56 = .int .i64 pre.length ∧ e 55 = .int .i64 (v.fPrimary).length) (.exit 4) (fun e h => e 1 = .ptr 0 0 ∧ h.hp 0 = some v.row ∧ e 54 = .imm (v.fPrimary.map TBy.row) ∧ 0 < h.nx) (fun e h => e 2 = .int .i64 4) (by omega) ?_ ?_ ?_ (by simp) v.fPrimary [] _ _ rfl ?_).mono ?_
          · rintro pre p rest e h a hp ⟨q0,q1,q2,q3,ix,nx⟩
            have hne : ¬ 0 = h.nx:= by omega
            obtain ⟨z1,z2⟩:= parts_col d5 p a.mem
            obtain ⟨c,hc⟩ : ∃ c,v.fCols[p.fCol.toNat]? = some c:= ⟨_,List.getElem?_eq_getElem z2⟩
            have hq : c.fNull = false:= by simpa [colNull,hc] using hp
            simp only [go_sem,kSt_ptr,Nat.reduceBEq,Nat.reduceAdd,Nat.reduceLeDiff,s_impl_CheckDef_L2,q0,q1,q2,q3,ix,nx,a.dl,a.ia (row:= TBy.row) (sz:= 2) rfl,a.hw,TDef.row,TBy.row,TCol.row,kIa_nth (row:= TCol.row) (sz:= 3) z1 hc rfl,hq,hne]
          · rintro pre p rest e h a hp ⟨q0,q1,q2,q3,ix,nx⟩
            have hne : ¬ 0 = h.nx:= by omega
            obtain ⟨z1,z2⟩:= parts_col d5 p a.mem
            obtain ⟨c,hc⟩ : ∃ c,v.fCols[p.fCol.toNat]? = some c:= ⟨_,List.getElem?_eq_getElem z2⟩
            have hq : c.fNull = true:= by simpa [colNull,hc] using hp
            simp only [go_sem,kSt_ptr,Nat.reduceBEq,Nat.reduceAdd,Nat.reduceLeDiff,s_impl_CheckDef_L2,q0,q1,q2,ix,nx,a.dl,a.ia (row:= TBy.row) (sz:= 2) rfl,a.hw,TDef.row,TBy.row,TCol.row,kIa_nth (row:= TCol.row) (sz:= 3) z1 hc rfl,hq,hne]
          · rintro e h ⟨q0,q1,q2,q3,ix,nx⟩
            simp only [go_sem,Nat.reduceBEq,s_impl_CheckDef_L2,q0,q1,q2,q3,ix,nx,TDef.row]
          · simp only [go_sem,Nat.reduceBEq,j0,j1,j3,TDef.row]
          · rintro x e h (⟨hp3,rfl,j0,j1,j2,j3⟩ | ⟨hp3,rfl,j⟩)
            · rw [allP_all] at hp3
              simp only [go_sem,checkDef,primNull,d1,e2,d3,d4,e5,hp3,Bool.true_eq_false]
            · rw [allP_all] at hp3
              simp only [go_sem,j,checkDef,primNull,d1,e2,d3,d4,e5,hp3,Bool.true_eq_false]
        · rw [allP_all] at hp2
          have e5 : defParts v = false:= by unfold defParts;rw [hp2,Bool.false_and]
          simp only [go_sem,j,checkDef,d1,e2,d3,d4,e5,Bool.true_eq_false]
    · rw [allP_all] at hp1
      have e2 : defTypes v = false:= by unfold defTypes;rw [hp1,Bool.false_and]
      simp only [go_sem,j,checkDef,d1,e2,Bool.true_eq_false]
noncomputable def C_impl_FirstBad:= c1 (sliceT tDef) (fun (s : List (TDef)) => (sliceT tDef).cost s ≤ 1048576) ((.int .i64)) fun (s : List (TDef)) => firstBad s
theorem C_impl_FirstBad_eq (s : List (TDef)) (h : (sliceT tDef).cost s ≤ 1048576) : C_impl_FirstBad [.imm (s.map TDef.row)] = some (.int .i64 ((firstBad s))):= c1_eq (sliceT tDef) h
theorem okP_impl_FirstBad {WI : World → Prop} (hs : Stable WI) (cs) (hT : TOK (EE cs) WI) (h1 : (EE cs).T 121 = some C_impl_CheckDef) : PureOK Tryz.prog WI 66 C_impl_FirstBad:= by
  refine pure1 (E:= EE cs) hT hs (by rw [st_impl_FirstBad];rfl) fun s hp => out_wp (n:= 0) (st_impl_FirstBad cs) ?_
  obtain ⟨n1,n2⟩:= defsLens hp
  have inner : ∀ pre c rest,At s pre c rest → ∀ e h b,e 0 = .imm (s.map TDef.row) → e 7 = .imm (s.map TDef.row) → e 8 = .int .i64 s.length → e 9 = .int .i64 pre.length → e 3 = .int .i64 pre.length → e 4 = .ptr b 0 → h.hp b = some c.row → b < h.nx → e 24 = .imm (pre.map TDef.row) → e 25 = .int .i64 pre.length → e 26 = .int .i64 0 → WL (EE cs) s_impl_FirstBad_L0 e h fun x e' h' => (pre.all (fun y => !(y.fName == c.fName)) = true ∧ x = .exit 2 ∧ e' 0 = .imm (s.map TDef.row) ∧ e' 7 = .imm (s.map TDef.row) ∧ e' 8 = .int .i64 s.length ∧ e' 9 = .int .i64 pre.length) ∨ (pre.all (fun y => !(y.fName == c.fName)) = false ∧ x = .ret ∧ e' 2 = .int .i64 pre.length):= by
    intro pre0 c rest0 a0 e h b k0 k1 k2 k3 k4 k5 k6 k7 k8 k9 k10
    have hlt0:= a0.lt
    refine (wl_all (l:= pre0) (fun pre y => !(y.fName == c.fName)) (fun pre e h => e 0 = .imm (s.map TDef.row) ∧ e 7 = .imm (s.map TDef.row) ∧ e 8 = .int .i64 s.length ∧ e 9 = .int .i64 pre0.length ∧ e 3 = .int .i64 pre0.length ∧ e 4 = .ptr b 0 ∧ h.hp b = some c.row ∧ b < h.nx ∧ e 24 = .imm (pre0.map TDef.row) ∧ e 26 = .int .i64 pre.length ∧ e 25 = .int .i64 (pre0).length) (.exit 2) (fun e h => e 0 = .imm (s.map TDef.row) ∧ e 7 = .imm (s.map TDef.row) ∧ e 8 = .int .i64 s.length ∧ e 9 = .int .i64 pre0.length) (fun e h => e 2 = .int .i64 pre0.length) (by omega) ?_ ?_ ?_ (by simp) pre0 [] _ _ rfl ?_).mono ?_
    · rintro pre y rest e h a hp ⟨q0,q1,q2,q3,q4,q5,q6,q7,q8,ix,nx⟩
      have hne2 : ¬ b = h.nx:= by omega
      have hq : (y.fName == c.fName) = false:= by simpa using hp
      have hb1 : b < h.nx + 1:= by omega
      simp only [go_sem,kSt_ptr,Nat.reduceBEq,Nat.reduceAdd,s_impl_FirstBad_L0,q0,q1,q2,q3,q4,q5,q6,q7,q8,ix,nx,a.dl,a.ia (row:= TDef.row) (sz:= 4) rfl,a.hw,TDef.row,hq,hne2,hb1]
    · rintro pre y rest e h a hp ⟨q0,q1,q2,q3,q4,q5,q6,q7,q8,ix,nx⟩
      have hne2 : ¬ b = h.nx:= by omega
      have hq : (y.fName == c.fName) = true:= by simpa using hp
      simp only [go_sem,kSt_ptr,Nat.reduceBEq,Nat.reduceAdd,s_impl_FirstBad_L0,q4,q5,q6,q8,ix,nx,a.dl,a.ia (row:= TDef.row) (sz:= 4) rfl,a.hw,TDef.row,hq,hne2]
    · rintro e h ⟨q0,q1,q2,q3,q4,q5,q6,q7,q8,ix,nx⟩
      simp only [go_sem,Nat.reduceBEq,s_impl_FirstBad_L0,q0,q1,q2,q3,q8,ix,nx]
    · simp only [go_sem,k0,k1,k2,k3,k4,k5,k6,k7,k8,k9,k10]
    · rintro x e' h' (⟨hp,rfl,j⟩ | ⟨hp,rfl,j⟩)
      · rw [allP_all] at hp
        exact .inl ⟨hp,rfl,j⟩
      · rw [allP_all] at hp
        exact .inr ⟨hp,rfl,j⟩
  simp only [go_sem,Nat.reduceBEq,s_impl_FirstBad]
  refine (wl_early (l:= s) (fun pre d => firstF pre d) (fun pre e h => e 0 = .imm (s.map TDef.row) ∧ e 7 = .imm (s.map TDef.row) ∧ e 9 = .int .i64 pre.length ∧ e 8 = .int .i64 (s).length) (.exit 0) (fun e h => e 0 = .imm (s.map TDef.row) ∧ e 7 = .imm (s.map TDef.row)) (fun b e h => e 2 = .int .i64 b) (by omega) ?_ ?_ ?_ (by simp) s [] _ _ rfl ?_).mono ?_
  · rintro pre d rest e h a hp ⟨q0,q1,ix,nx⟩
    have hc : C_impl_CheckDef [.agg [.str d.fName,.imm (d.fCols.map TCol.row),.imm (d.fPrimary.map TBy.row),.imm (d.fIndexes.map TIndex.row)]] = some (.int .i64 (checkDef d)):= C_impl_CheckDef_eq d (n2 d a.mem)
    obtain ⟨f1,f2,f3⟩:= firstF_none hp
    have f2' : decide ((3 : Int) ≤ (pre.length : Int)) = false:= decide_eq_false (by omega)
    have f1' : (checkDef d != 0) = false:= by simp [f1]
    all_goals simp only [go_sem,kSt_ptr,Nat.reduceBEq,Nat.reduceAdd,s_impl_FirstBad_L1,q0,q1,ix,nx,a.dl,a.ia (row:= TDef.row) (sz:= 4) rfl,TDef.row,h1,hc,kSl_pre (row:= TDef.row) (sz:= 4) a.hl (fun _ => rfl) (by decide),f1',f2']
    refine (inner pre d rest a _ _ h.nx (by simp only [go_sem,Nat.reduceBEq,q0]) (by simp only [go_sem,Nat.reduceBEq,q1]) (by simp only [go_sem,Nat.reduceBEq,nx]) (by simp only [go_sem,Nat.reduceBEq,ix]) (by simp only [go_sem,Nat.reduceBEq]) (by simp only [go_sem,Nat.reduceBEq]) (by simp only [go_sem,TDef.row]) (by simp only [go_sem,Nat.lt_succ_self]) (by simp only [go_sem,Nat.reduceBEq]) (by simp only [go_sem,Nat.reduceBEq]) (by simp only [go_sem,Nat.reduceBEq])).mono ?_
    rintro x e' h' (⟨hq,rfl,k0,k1,k2,k3⟩ | ⟨hq,rfl,k⟩)
    · simp only [go_sem,Nat.reduceBEq,k0,k1,k2,k3,a.hw]
    · rw [f3] at hq;cases hq
  · rintro pre d rest b e h a hp ⟨q0,q1,ix,nx⟩
    have hc : C_impl_CheckDef [.agg [.str d.fName,.imm (d.fCols.map TCol.row),.imm (d.fPrimary.map TBy.row),.imm (d.fIndexes.map TIndex.row)]] = some (.int .i64 (checkDef d)):= C_impl_CheckDef_eq d (n2 d a.mem)
    obtain ⟨rfl,hcase⟩:= firstF_some hp
    cases f1 : (checkDef d != 0) <;> cases f2 : decide ((3 : Int) ≤ (pre.length : Int))
    all_goals simp only [go_sem,kSt_ptr,Nat.reduceBEq,Nat.reduceAdd,s_impl_FirstBad_L1,q0,q1,ix,nx,a.dl,a.ia (row:= TDef.row) (sz:= 4) rfl,TDef.row,h1,hc,kSl_pre (row:= TDef.row) (sz:= 4) a.hl (fun _ => rfl) (by decide),f1,f2]
    refine (inner pre d rest a _ _ h.nx (by simp only [go_sem,Nat.reduceBEq,q0]) (by simp only [go_sem,Nat.reduceBEq,q1]) (by simp only [go_sem,Nat.reduceBEq,nx]) (by simp only [go_sem,Nat.reduceBEq,ix]) (by simp only [go_sem,Nat.reduceBEq]) (by simp only [go_sem,Nat.reduceBEq]) (by simp only [go_sem,TDef.row]) (by simp only [go_sem,Nat.lt_succ_self]) (by simp only [go_sem,Nat.reduceBEq]) (by simp only [go_sem,Nat.reduceBEq]) (by simp only [go_sem,Nat.reduceBEq])).mono ?_
    have hc3:= hcase f1 (by have:= of_decide_eq_false f2;omega)
    rintro x e' h' (⟨hq,rfl,k0,k1⟩ | ⟨hq,rfl,k⟩)
    · rw [hc3] at hq;cases hq
    · simp only [go_sem,k]
  · rintro e h ⟨q0,q1,ix,nx⟩
    simp only [go_sem,Nat.reduceBEq,s_impl_FirstBad_L1,q0,q1,ix,nx]
  · simp only [go_sem,Nat.reduceBEq,and_self]
  · intro x e h hx
    cases he : earlyL firstF [] s with
    | none =>
      rw [he] at hx
      obtain ⟨rfl,j0⟩:= hx
      simp only [go_sem,firstBad,he,Option.getD_none]
    | some k =>
      rw [he] at hx
      obtain ⟨rfl,j⟩:= hx
      simp only [go_sem,j,firstBad,he]
theorem ok_impl_FirstBad {WI : World → Prop} (hs : Stable WI) (cs) (hT : TOK (EE cs) WI) (h1 : (EE cs).T 121 = some C_impl_CheckDef) : ReadOK Tryz.prog WI 66 C_impl_FirstBad:= ⟨okP_impl_FirstBad hs cs hT h1,fun ts t h => by unfold C_impl_FirstBad c1 at h;obtain ⟨a,_,_,rfl⟩:= ct_inv h;rfl⟩
theorem LK0_impl_ParseDefs (cs) {l : List TToken} (hl : l.length ≤ 1000) (htk : ∀ t ∈ l,tokOk t = true) {Q : QS} :
    ∀ (m : Nat) (acc : List TDef) (s : St) (v : AV) (e : Ps) (h : Hp),(l.length + 2 ≤ s.at_ + m ∨ (s.bad = true ∧ 1 ≤ m)) → s.at_ ≤ l.length → acc.length + m ≤ 2000 → e 6 = .ptr 0 0 → e 7 = v → e 4 = .imm (l.map TToken.row) → 1 ≤ h.nx → h.hp 0 = some (rdC l s) → OwS 2 tDef 1 h.nx acc v h →
    (∀ e' h' v',e' 6 = .ptr 0 0 → e' 7 = v' → h'.hp 0 = some (rdC l (defsF l (colI l) colLast (l.length + 2) m acc s).2) → OwS 2 tDef 1 h'.nx (defsF l (colI l) colLast (l.length + 2) m acc s).1 v' h' → Q (.exit 0) e' h') → WL (EE cs) s_impl_ParseDefs_L0 e h Q:= by
  intro m
  induction m with
  | zero =>
    intro acc s v e h hm hs
    omega
  | succ m ih =>
    intro acc s v e h hm hsl ha e6 e7 e4 hnx hr o hq
    have hr0:= hr
    unfold rdC at hr
    cases hbad : s.bad with
    | true =>
      rw [hbad] at hr
      have e1 : defsF l (colI l) colLast (l.length + 2) (m + 1) acc s = (acc,s):= by simp only [defsF,hbad,if_true]
      rw [e1] at hq
      refine .step (wp_sound _ _ _ _ ?_)
      simp only [go_sem,Nat.reduceBEq,Nat.reduceAdd,Nat.reduceLeDiff,s_impl_ParseDefs_L0,e6,hr]
      exact hq _ _ v (by simp only [go_sem,Nat.reduceBEq,e6]) (by simp only [go_sem,Nat.reduceBEq,e7]) hr0 o
    | false =>
      have hm' : l.length + 2 ≤ s.at_ + (m + 1):= by rcases hm with h | ⟨h,_⟩;exact h;rw [hbad] at h;cases h
      rw [hbad] at hr
      by_cases hlt : s.at_ < l.length
      · have hd : (s.at_ : Int) < (l.length : Int):= by omega
        have e1 : defsF l (colI l) colLast (l.length + 2) (m + 1) acc s = defsF l (colI l) colLast (l.length + 2) m (acc ++ [(defF l (colI l) colLast (l.length + 2) s).1]) (defF l (colI l) colLast (l.length + 2) s).2:= by simp only [defsF,hbad,Bool.false_eq_true,if_false,hlt,if_true]
        rw [e1] at hq
        obtain ⟨cells,h1,k1,kl,A,k2⟩:= rk_impl_tokens_def cs hl htk 0 s h hsl hr0 (by omega)
        obtain ⟨d0,d1,d2,d3,rfl⟩:= len4 kl
        obtain ⟨ds,dg⟩:= stp_def htk (colR_I htk) colLast (l.length + 2) s
        refine .step (wp_sound _ _ _ _ ?_)
        simp only [go_sem,Nat.reduceBEq,Nat.reduceAdd,Nat.reduceLeDiff,s_impl_ParseDefs_L0,e6,e4,hr,hd]
        refine hP_call k1 ?_
        have x1 : h.nx ≤ h1.nx:= k2.nx
        have z1:= A.cells
        simp only [List.any_cons,List.any_nil,Bool.or_false,Bool.or_eq_false_iff] at z1
        generalize (defF l (colI l) colLast (l.length + 2) s).1 = d at *
        generalize (defF l (colI l) colLast (l.length + 2) s).2 = s' at *
        have g0 : ¬ 0 = h1.nx:= by omega
        have g1 : ¬ h1.nx + 1 = h1.nx:= by omega
        have g2 : ¬ h1.nx = h1.nx + 1:= by omega
        have fr : fillR (List.replicate 1 [AV.str [],.snil,.snil,.snil]) 4 [(0,.agg [d0,d1,d2,d3])] = some [[d0,d1,d2,d3]]:= by simp [fillR,ag_agg,cl_agg]
        simp only [go_sem,kSt_ptr,Nat.reduceBEq,Nat.reduceAdd,e7,z1,fr]
        refine hP_growA (T:= tDef) (l:= acc) (lo:= 1) (hi:= h.nx) (lo':= h.nx) (hi':= h1.nx) d rfl (o.mono (by simp only [];omega) fun q q1 q2 => by
          have g : ¬ q = h1.nx + 1:= by omega
          have g' : ¬ q = h1.nx:= by omega
          simp only [g,g',if_false]
          exact k2.hp q q2 (by omega)) (rowsIn_sl1 (cs:= [d0,d1,d2,d3]) (by simp) rfl) (A.mono (by simp only [];omega) fun q q1 q2 => by
          have g : ¬ q = h1.nx + 1:= by omega
          have g' : ¬ q = h1.nx:= by omega
          simp only [g,g',if_false]) (Nat.le_refl _) (by unfold room;omega) ?_
        intro v' h3 w1 w2 w3 w4
        have x3 : h1.nx + 1 + 1 ≤ h3.nx:= w2
        simp only [go_sem,Nat.reduceBEq]
        refine ih (acc ++ [d]) s' v' _ h3 ?_ (ds.inn hsl) (by simp;omega) (by simp only [go_sem,Nat.reduceBEq,e6]) (by simp only [go_sem,Nat.reduceBEq]) (by simp only [go_sem,Nat.reduceBEq,e4]) (by omega) ?_ w1 hq
        · cases hb' : s'.bad with
          | true => exact .inr ⟨rfl,by omega⟩
          | false => have:= (dg hb').1;exact .inl (by omega)
        · rw [w3 0 (.inl (by decide)) (by simp only [];omega)]
          have g : ¬ 0 = h1.nx + 1:= by omega
          simp only [g,g0,if_false]
          exact k2.at_
      · have hd : ¬ (s.at_ : Int) < (l.length : Int):= by omega
        have e1 : defsF l (colI l) colLast (l.length + 2) (m + 1) acc s = (acc,s):= by simp only [defsF,hbad,Bool.false_eq_true,if_false,hlt]
        rw [e1] at hq
        refine .step (wp_sound _ _ _ _ ?_)
        simp only [go_sem,Nat.reduceBEq,Nat.reduceAdd,Nat.reduceLeDiff,s_impl_ParseDefs_L0,e6,e4,hr,hd]
        exact hq _ _ v (by simp only [go_sem,Nat.reduceBEq,e6]) (by simp only [go_sem,Nat.reduceBEq,e7]) hr0 o
noncomputable def C_impl_ParseDefs:= c1 strT (fun (s : List UInt8) => s.length ≤ 1048576) (fun x => .tup [.imm (x.1.map TDef.row),.bool x.2]) fun (s : List UInt8) => parseDefs s
theorem C_impl_ParseDefs_eq (s : List UInt8) (h : s.length ≤ 1048576) : C_impl_ParseDefs [.str s] = some (.tup [.imm (((parseDefs s).1).map TDef.row),.bool ((parseDefs s).2)]):= c1_eq strT h
theorem ok_impl_ParseDefs {WI : World → Prop} (hs : Stable WI) (cs) (hT : TOK (EE cs) WI) (h1 : (EE cs).T 64 = some C_impl_Lex) (h4 : (EE cs).T 66 = some C_impl_FirstBad) : OwnOK Tryz.prog WI 31 C_impl_ParseDefs:= by
  refine own1 (E:= EE cs) hT hs (by rw [st_impl_ParseDefs];rfl) fun s hp => outO_wp (st_impl_ParseDefs cs) ?_
  have hp' : s.length ≤ 1048576:= hp
  have c1:= C_impl_Lex_eq s hp'
  obtain ⟨l1,l2⟩:= lexP_ok s
  unfold parseDefs
  generalize lexP s = lx at *
  obtain ⟨l,p⟩:= lx
  simp only at c1 l1 l2 ⊢
  have nil : ∀ h : Hp,OwE h (.tup [.snil,.bool false]) (.tup [.imm ([] : List (List AV)),.bool false]):= fun h => ((OwS.nil 0 tDef (lo:= 0) (hi:= 0) (Nat.le_refl _) (Nat.zero_le _)).owI (h:= h)).owE_tb (by decide) false
  by_cases hp1 : p = -1
  · have b1 : (p != -1) = false:= by simp [hp1]
    rw [if_neg (fun h => h hp1),← parse_two l1]
    have fs : sFill [.snil,.int .i64 0,.bool false] [(0,1,.imm (l.map TToken.row))] = some [AV.imm (l.map TToken.row),.int .i64 0,.bool false]:= rfl
    simp only [go_sem,Nat.reduceBEq,s_impl_ParseDefs,h1,c1,b1,fs]
    refine LK0_impl_ParseDefs cs (by omega) l1 (l.length + 2) [] ⟨0,false⟩ .snil _ _ (.inl (by simp)) (Nat.zero_le _) (by simp only [List.length_nil];omega) (by simp only [go_sem,Nat.reduceBEq]) (by simp only [go_sem,Nat.reduceBEq]) (by simp only [go_sem,Nat.reduceBEq]) (by simp) (by simp [rdC]) (OwS.nil _ _ (by simp) (by simp)) ?_
    intro e' h' v' a6 a7 hr o
    have hps : defsF l (colI l) colLast (l.length + 2) (l.length + 2) [] ⟨0,false⟩ = parsedI l:= rfl
    have hcost:= parsed_cost l1 l2 (colR_I l1) colLast (l.length + 2) (l.length + 2)
    rw [hps] at hr o hcost
    generalize parsedI l = ps at *
    obtain ⟨ds,st⟩:= ps
    unfold rdC at hr
    unfold parseOut
    simp only at hr o hcost ⊢
    cases hb : st.bad with
    | true =>
      rw [hb] at hr
      rw [if_pos (.inl rfl)]
      simp only [go_sem,Nat.reduceBEq,Nat.reduceAdd,Nat.reduceLeDiff,a6,hr]
      exact nil _
    | false =>
      rw [hb] at hr
      have c4:= C_impl_FirstBad_eq ds (by have:= hcost hb;omega)
      simp only [go_sem,Nat.reduceBEq,Nat.reduceAdd,Nat.reduceLeDiff,a6,a7,hr,h4]
      refine hP_read (mapO1 (o.owI.frz (by decide))) c4 ?_
      by_cases hf : firstBad ds = -1
      · have b2 : (firstBad ds != -1) = false:= by simp [hf]
        rw [if_neg (fun h => h.elim (fun h => by cases h) fun h => h hf)]
        simp only [go_sem,Nat.reduceBEq,a7,b2]
        exact o.owI.owE_tb (by decide) true
      · have b2 : (firstBad ds != -1) = true:= by simp [hf]
        rw [if_pos (.inr hf)]
        simp only [go_sem,Nat.reduceBEq,a7,b2]
        exact nil _
  · have b1 : (p != -1) = true:= by simp [hp1]
    rw [if_pos hp1]
    simp only [go_sem,Nat.reduceBEq,s_impl_ParseDefs,h1,c1,b1]
    exact nil _
end Go.Proofs.YtpolhafmapekpaaGreatDoor.En
namespace Go.Proofs.YtpolhafmapekpaaGreatDoor.En
open Go Go.RowKit Go.Ev
set_option maxHeartbeats 1600000
noncomputable def C_impl_DiskOk:= c1 tDisk (fun (d : TDisk) => tDisk.cost d ≤ 4194304) (.bool) fun (d : TDisk) => diskOk d
theorem C_impl_DiskOk_eq (d : TDisk) (h : tDisk.cost d ≤ 4194304) : C_impl_DiskOk [.agg [.imm (d.fSecs.map (sliceT u8T).row),.imm (d.fCache.map TWrite.row),.int .i64 d.fOps,.imm (d.fFaults.map TFault.row),.bool d.fDown]] = some (.bool ((diskOk d))):= c1_eq tDisk h
theorem okP_impl_DiskOk {WI : World → Prop} (hs : Stable WI) (cs) (hT : TOK (EE cs) WI) (h1 : (EE cs).T 69 = some C_impl_in) : PureOK Tryz.prog WI 33 C_impl_DiskOk:= by
  refine pure1 (E:= EE cs) hT hs (by rw [st_impl_DiskOk];rfl) fun d hp => out_wp (n:= 0) (st_impl_DiskOk cs) ?_
  obtain ⟨n1,n2,n3,n4,n5⟩:= diskLens hp
  have hw : IntKind.wrap .i64 ((d.fSecs.length : Int) - 1) = (d.fSecs.length : Int) - 1:= wrapId (by omega) (by omega)
  unfold diskOk secsOk faultsOk
  cases a1 : inR d.fSecs.length 4 48 with
  | false => simp only [go_sem,Nat.reduceBEq,s_impl_DiskOk,TDisk.row,tDisk_enc,h1,C_impl_in_eq,a1,Bool.and_false]
  | true =>
  by_cases a2 : d.fCache.length ≤ 60
  rotate_left
  · have b2 : (60 : Int) < (d.fCache.length : Int):= by omega
    have b2' : decide (d.fCache.length ≤ 60) = false:= decide_eq_false a2
    simp only [go_sem,Nat.reduceBEq,Nat.reduceAdd,Nat.reduceLeDiff,s_impl_DiskOk,TDisk.row,tDisk_enc,h1,C_impl_in_eq,a1,b2,b2',Bool.and_false]
  have b2 : ¬ (60 : Int) < (d.fCache.length : Int):= by omega
  have b2' : decide (d.fCache.length ≤ 60) = true:= decide_eq_true a2
  cases a3 : inR d.fOps 0 100000 with
  | false => simp only [go_sem,Nat.reduceBEq,Nat.reduceAdd,Nat.reduceLeDiff,s_impl_DiskOk,TDisk.row,tDisk_enc,h1,C_impl_in_eq,a1,b2,b2',a3,Bool.and_false]
  | true =>
  by_cases a4 : d.fFaults.length ≤ 20
  rotate_left
  · have b4 : (20 : Int) < (d.fFaults.length : Int):= by omega
    have b4' : decide (d.fFaults.length ≤ 20) = false:= decide_eq_false a4
    simp only [go_sem,Nat.reduceBEq,Nat.reduceAdd,Nat.reduceLeDiff,s_impl_DiskOk,TDisk.row,tDisk_enc,h1,C_impl_in_eq,a1,b2,b2',a3,b4,b4',Bool.and_false]
  have b4 : ¬ (20 : Int) < (d.fFaults.length : Int):= by omega
  have b4' : decide (d.fFaults.length ≤ 20) = true:= decide_eq_true a4
  obtain ⟨dn,hdn⟩ : ∃ dn,d.fDown = dn:= ⟨_,rfl⟩
  obtain ⟨cl,hcl⟩ : ∃ cl,decide ((0 : Int) < (d.fCache.length : Int)) = cl:= ⟨_,rfl⟩
  have hcl' : decide (d.fCache.length = 0) = !cl:= by
    rw [← hcl]
    by_cases hx : d.fCache.length = 0 <;> simp [hx]
    omega
  cases hdc : (dn && cl) with
  | true =>
    simp only [Bool.and_eq_true] at hdc
    obtain ⟨rfl,rfl⟩:= hdc
    simp only [go_sem,Nat.reduceBEq,Nat.reduceAdd,Nat.reduceLeDiff,s_impl_DiskOk,TDisk.row,tDisk_enc,h1,C_impl_in_eq,a1,b2,b2',a3,b4,b4',hdn,hcl,hcl',Bool.and_false]
  | false =>
  have b5 : (!d.fDown || decide (d.fCache.length = 0)) = true:= by rw [hdn,hcl'];cases dn <;> cases cl <;> first | rfl | cases hdc
  rw [b5,b2',b4',Bool.and_true,Bool.and_true,Bool.true_and,Bool.true_and,Bool.true_and]
  cases dn <;> cases cl <;> first | (cases hdc;done) | skip
  all_goals
    simp only [go_sem,Nat.reduceBEq,Nat.reduceAdd,Nat.reduceLeDiff,s_impl_DiskOk,TDisk.row,tDisk_enc,h1,C_impl_in_eq,a1,b2,a3,b4,hdn,hcl]
    refine (wl_all (l:= d.fSecs) (fun _ b => decide (b.length ≤ 256)) (fun pre e h => e 1 = .ptr 0 0 ∧ e 43 = .imm (d.fSecs.map (sliceT u8T).row) ∧ h.hp 0 = some d.row ∧ 1 ≤ h.nx ∧ e 45 = .int .i64 pre.length ∧ e 44 = .int .i64 d.fSecs.length) (.exit 0) (fun e h => e 1 = .ptr 0 0 ∧ h.hp 0 = some d.row ∧ 1 ≤ h.nx) (fun e h => e 2 = .bool false) (by omega) ?_ ?_ ?_ (by simp) d.fSecs [] _ _ rfl ?_).mono ?_
    · rintro pre b rest e h a hp ⟨q0,q1,q2,q3,ix,nx⟩
      have hq : ¬ (256 : Int) < (b.length : Int):= by have:= of_decide_eq_true hp;omega
      simp only [go_sem,Nat.reduceBEq,s_impl_DiskOk_L0,q0,q1,q2,q3,ix,nx,a.dl,a.ia (row:= (sliceT u8T).row) (sz:= 1) rfl,sliceT_row,hq,a.hw]
    · rintro pre b rest e h a hp ⟨q0,q1,q2,q3,ix,nx⟩
      have hq : (256 : Int) < (b.length : Int):= by have:= of_decide_eq_false hp;omega
      simp only [go_sem,Nat.reduceBEq,s_impl_DiskOk_L0,q1,ix,nx,a.dl,a.ia (row:= (sliceT u8T).row) (sz:= 1) rfl,sliceT_row,hq]
    · rintro e h ⟨q0,q1,q2,q3,ix,nx⟩
      simp only [go_sem,Nat.reduceBEq,s_impl_DiskOk_L0,q0,q1,q2,q3,ix,nx]
    · simp only [go_sem,Nat.reduceBEq,TDisk.row,hdn]
    · rintro x e h (⟨hp1,rfl,j0,j1,j2⟩ | ⟨hp1,rfl,j⟩)
      · rw [allP_all] at hp1
        rw [hp1]
        unfold TDisk.row at j1
        simp only [go_sem,Nat.reduceBEq,Nat.reduceAdd,Nat.reduceLeDiff,j0,j1]
        refine (wl_all (l:= d.fCache) (fun _ w => writeP d.fSecs.length w) (fun pre e h => e 1 = .ptr 0 0 ∧ e 54 = .imm (d.fCache.map TWrite.row) ∧ h.hp 0 = some d.row ∧ 1 ≤ h.nx ∧ e 56 = .int .i64 pre.length ∧ e 55 = .int .i64 d.fCache.length) (.exit 2) (fun e h => e 1 = .ptr 0 0 ∧ h.hp 0 = some d.row ∧ 1 ≤ h.nx) (fun e h => e 2 = .bool false) (by omega) ?_ ?_ ?_ (by simp) d.fCache [] _ _ rfl ?_).mono ?_
        · rintro pre w rest e h a hp ⟨q0,q1,q2,q3,ix,nx⟩
          unfold writeP at hp
          simp only [Bool.and_eq_true] at hp
          obtain ⟨c1,c2⟩:= hp
          have hq : ¬ (256 : Int) < (w.fB.length : Int):= by have:= of_decide_eq_true c2;omega
          have g : ¬ 0 = h.nx:= by omega
          have g1 : 1 ≤ h.nx + 1:= by omega
          unfold TDisk.row at q2
          simp only [go_sem,kSt_ptr,Nat.reduceBEq,Nat.reduceAdd,Nat.reduceLeDiff,s_impl_DiskOk_L1,q0,q1,q2,q3,ix,nx,a.dl,a.ia (row:= TWrite.row) (sz:= 2) rfl,TWrite.row,h1,C_impl_in_eq,hw,c1,hq,a.hw,g,g1,TDisk.row]
        · rintro pre w rest e h a hp ⟨q0,q1,q2,q3,ix,nx⟩
          have g : ¬ 0 = h.nx:= by omega
          unfold TDisk.row at q2
          cases c1 : inR w.fN 0 ((d.fSecs.length : Int) - 1) with
          | false => simp only [go_sem,kSt_ptr,Nat.reduceBEq,Nat.reduceAdd,s_impl_DiskOk_L1,q0,q1,q2,ix,nx,a.dl,a.ia (row:= TWrite.row) (sz:= 2) rfl,TWrite.row,h1,C_impl_in_eq,hw,c1,g]
          | true =>
            have c2 : decide (w.fB.length ≤ 256) = false:= by
              unfold writeP at hp
              rw [c1] at hp
              simpa using hp
            have hq : (256 : Int) < (w.fB.length : Int):= by have:= of_decide_eq_false c2;omega
            simp only [go_sem,kSt_ptr,Nat.reduceBEq,Nat.reduceAdd,Nat.reduceLeDiff,s_impl_DiskOk_L1,q0,q1,q2,ix,nx,a.dl,a.ia (row:= TWrite.row) (sz:= 2) rfl,TWrite.row,h1,C_impl_in_eq,hw,c1,hq,g]
        · rintro e h ⟨q0,q1,q2,q3,ix,nx⟩
          simp only [go_sem,Nat.reduceBEq,s_impl_DiskOk_L1,q0,q1,q2,q3,ix,nx]
        · simp only [go_sem,Nat.reduceBEq,j0,j1,j2,TDisk.row]
        · rintro x e h (⟨hp2,rfl,j0,j1,j2⟩ | ⟨hp2,rfl,j⟩)
          · rw [allP_all] at hp2
            rw [show d.fCache.all (writeP d.fSecs.length) = true from hp2]
            unfold TDisk.row at j1
            simp only [go_sem,Nat.reduceBEq,Nat.reduceAdd,Nat.reduceLeDiff,j0,j1]
            refine (wl_all (l:= d.fFaults) (fun pre f => faultP pre f) (fun pre e h => e 1 = .ptr 0 0 ∧ e 76 = .imm (d.fFaults.map TFault.row) ∧ h.hp 0 = some d.row ∧ 1 ≤ h.nx ∧ e 78 = .int .i64 pre.length ∧ e 77 = .int .i64 d.fFaults.length) (.exit 4) (fun e h => True) (fun e h => e 2 = .bool false) (by omega) ?_ ?_ ?_ (by simp) d.fFaults [] _ _ rfl ?_).mono ?_
            · rintro pre f rest e h a hp ⟨q0,q1,q2,q3,ix,nx⟩
              have g : ¬ 0 = h.nx:= by omega
              have g1 : 1 ≤ h.nx + 1:= by omega
              have hlt:= a.lt
              unfold TDisk.row at q2
              unfold faultP at hp
              simp only [Bool.and_eq_true] at hp
              obtain ⟨c1,c2,c3,c4⟩:= hp
              rcases prev_cases a.hl with ⟨z0,z1⟩ | ⟨z0,z3,p,z1,z2⟩
              · simp only [go_sem,kSt_ptr,Nat.reduceBEq,Nat.reduceAdd,Nat.reduceLeDiff,s_impl_DiskOk_L2,q0,q1,q2,q3,ix,nx,a.dl,a.ia (row:= TFault.row) (sz:= 3) rfl,TFault.row,h1,C_impl_in_eq,c1,c2,c3,z0,a.hw,g,g1,TDisk.row]
              · have hw1 : IntKind.wrap .i64 ((pre.length : Int) - 1) = (pre.length : Int) - 1:= wrapId (by omega) (by omega)
                rw [z2] at c4
                have g4 : decide (f.fAt ≤ p.fAt) = false:= decide_eq_false (by have:= of_decide_eq_true c4;omega)
                simp only [go_sem,kSt_ptr,Nat.reduceBEq,Nat.reduceAdd,Nat.reduceLeDiff,s_impl_DiskOk_L2,q0,q1,q2,q3,ix,nx,a.dl,a.ia (row:= TFault.row) (sz:= 3) rfl,kIa_nth (row:= TFault.row) (sz:= 3) (by omega) z1 rfl,TFault.row,h1,C_impl_in_eq,c1,c2,c3,z0,hw1,g4,a.hw,g,g1,TDisk.row]
            · rintro pre f rest e h a hp ⟨q0,q1,q2,q3,ix,nx⟩
              have g : ¬ 0 = h.nx:= by omega
              have hlt:= a.lt
              unfold TDisk.row at q2
              cases c1 : inR f.fAt 0 100000 with
              | false => simp only [go_sem,kSt_ptr,Nat.reduceBEq,Nat.reduceAdd,s_impl_DiskOk_L2,q1,ix,nx,a.dl,a.ia (row:= TFault.row) (sz:= 3) rfl,TFault.row,h1,C_impl_in_eq,c1]
              | true =>
              cases c2 : inR f.fKeep 0 1048575 with
              | false => simp only [go_sem,kSt_ptr,Nat.reduceBEq,Nat.reduceAdd,Nat.reduceLeDiff,s_impl_DiskOk_L2,q1,ix,nx,a.dl,a.ia (row:= TFault.row) (sz:= 3) rfl,TFault.row,h1,C_impl_in_eq,c1,c2]
              | true =>
              cases c3 : inR f.fCut 0 256 with
              | false => simp only [go_sem,kSt_ptr,Nat.reduceBEq,Nat.reduceAdd,Nat.reduceLeDiff,s_impl_DiskOk_L2,q1,ix,nx,a.dl,a.ia (row:= TFault.row) (sz:= 3) rfl,TFault.row,h1,C_impl_in_eq,c1,c2,c3]
              | true =>
              have c4 : prevLt pre f = false:= by
                unfold faultP at hp
                rw [c1,c2,c3] at hp
                simpa using hp
              rcases prev_cases a.hl with ⟨z0,z1⟩ | ⟨z0,z3,p,z1,z2⟩
              · rw [z1] at c4;cases c4
              · have hw1 : IntKind.wrap .i64 ((pre.length : Int) - 1) = (pre.length : Int) - 1:= wrapId (by omega) (by omega)
                rw [z2] at c4
                have g4 : decide (f.fAt ≤ p.fAt) = true:= decide_eq_true (by have:= of_decide_eq_false c4;omega)
                simp only [go_sem,kSt_ptr,Nat.reduceBEq,Nat.reduceAdd,Nat.reduceLeDiff,s_impl_DiskOk_L2,q0,q1,q2,ix,nx,a.dl,a.ia (row:= TFault.row) (sz:= 3) rfl,kIa_nth (row:= TFault.row) (sz:= 3) (by omega) z1 rfl,TFault.row,h1,C_impl_in_eq,c1,c2,c3,z0,hw1,g4,g]
            · rintro e h ⟨q0,q1,q2,q3,ix,nx⟩
              simp only [go_sem,Nat.reduceBEq,s_impl_DiskOk_L2,q1,ix,nx]
            · simp only [go_sem,Nat.reduceBEq,j0,j1,j2,TDisk.row]
            · rintro x e h (⟨hp3,rfl,_⟩ | ⟨hp3,rfl,j⟩)
              · rw [show allP faultP [] d.fFaults = true from hp3]
                simp only [go_sem]
              · rw [show allP faultP [] d.fFaults = false from hp3]
                simp only [go_sem,j]
          · rw [allP_all] at hp2
            rw [show d.fCache.all (writeP d.fSecs.length) = false from hp2]
            simp only [go_sem,j]
      · rw [allP_all] at hp1
        rw [hp1]
        simp only [go_sem,j]
theorem ok_impl_DiskOk {WI : World → Prop} (hs : Stable WI) (cs) (hT : TOK (EE cs) WI) (h1 : (EE cs).T 69 = some C_impl_in) : ReadOK Tryz.prog WI 33 C_impl_DiskOk:= ⟨okP_impl_DiskOk hs cs hT h1,fun ts t h => by unfold C_impl_DiskOk c1 at h;obtain ⟨a,_,_,rfl⟩:= ct_inv h;rfl⟩
noncomputable def C_impl_DiskNew:= c2 intT (sliceT tFault) (fun (n : Int) (l : List (TFault)) => (sliceT tFault).cost l ≤ 1048576) (fun x => .agg (x).row) fun (n : Int) (l : List (TFault)) => diskNew n l
theorem C_impl_DiskNew_eq (n : Int) (l : List (TFault)) (h : (sliceT tFault).cost l ≤ 1048576) : C_impl_DiskNew [.int .i64 n,.imm (l.map TFault.row)] = some (.agg (((diskNew n l))).row):= c2_eq intT (sliceT tFault) h
theorem ok_impl_DiskNew {WI : World → Prop} (hs : Stable WI) (cs) (hT : TOK (EE cs) WI) (h1 : (EE cs).T 69 = some C_impl_in) (h2 : (EE cs).T 33 = some C_impl_DiskOk) : OwnOK Tryz.prog WI 67 C_impl_DiskNew:= by
  refine own2 (E:= EE cs) hT hs (by rw [st_impl_DiskNew];rfl) fun n l hp => outO_wp (st_impl_DiskNew cs) ?_
  have hcl : l.length + costL tFault l ≤ 1048576:= hp
  have fs0 : sFill [.snil,.snil,.int .i64 0,.snil,.bool false] [] = some [AV.snil,.snil,.int .i64 0,.snil,.bool false]:= rfl
  unfold diskNew
  cases hn : inR n 4 48 with
  | false =>
    rw [if_neg (fun h => by cases h.1)]
    simp only [go_sem,kSt_ptr,Nat.reduceBEq,Nat.reduceAdd,s_impl_DiskNew,h1,C_impl_in_eq,hn,fs0]
    exact own_noDisk _
  | true =>
    obtain ⟨n1,n2⟩:= inR_spec hn
    have c2:= C_impl_DiskOk_eq ⟨List.replicate n.toNat [],[],0,l,false⟩ (by have:= diskNew_cost (n:= n) (l:= l) (by show l.length + costL tFault l ≤ _;omega) hn;have e : tDisk.cost ⟨List.replicate n.toNat [],[],0,l,false⟩ = ((List.replicate n.toNat ([] : List UInt8)).length + costL (sliceT u8T) (List.replicate n.toNat ([] : List UInt8))) + 0 + (l.length + costL tFault l):= rfl;rw [costRep,List.length_replicate] at e;omega)
    rw [diskNew_ok n l hn] at c2
    have mk : ∀ h : Hp,sMake true 24 [.snil] (.int .i64 n) (.int .i64 n) h = some (.sl h.nx 0 n.toNat 1,h.new (List.replicate n.toNat AV.snil)):= fun h => by
      have e1 : (List.replicate n.toNat [AV.snil]).flatten = List.replicate n.toNat AV.snil:= by
        induction n.toNat with
        | zero => rfl
        | succ k ih => rw [List.replicate_succ,List.flatten_cons,ih];rfl
      unfold sMake
      simp only
      rw [if_pos ⟨by omega,Int.le_refl _,by omega,by unfold room;omega⟩]
      simp only [if_true,e1]
      rfl
    simp only [go_sem,Nat.reduceBEq,Nat.reduceAdd,s_impl_DiskNew,h1,C_impl_in_eq,hn,mk]
    refine hP_growL (T:= tFault) (l:= []) (lo:= 2) (hi:= 2) l rfl rfl (OwS.nil 0 tFault (Nat.le_refl _) (by simp)) (rowsIn_imm _ _ _) (by simp only [List.length_nil];unfold room;omega) ?_
    intro x h3 o3 p3 q3 a3
    rw [List.nil_append] at o3
    have m3 : 2 ≤ h3.nx:= p3
    obtain ⟨A3,cx,nx⟩:= o3.owA
    have b0 : h3.hp 0 = some [.snil,.snil,.int .i64 0,.snil,.bool false]:= (q3 0 (.inl (by decide)) (by simp)).trans (by simp)
    have b1 : h3.hp 1 = some (List.replicate n.toNat AV.snil):= (q3 1 (.inl (by decide)) (by simp)).trans (by simp)
    have oS : OwS 1 (sliceT u8T) 1 2 (List.replicate n.toNat []) (.sl 1 0 n.toNat 1) h3:= ⟨by decide,m3,.inr ⟨1,_,[],by rw [List.length_replicate];rfl,b1,by simp [sliceT],dfz_rep h3 n.toNat,by simp,fun q hq => by simp at hq;subst hq;exact ⟨Nat.le_refl _,Nat.lt_succ_self _⟩⟩⟩
    obtain ⟨A1,cS,nS⟩:= oS.owA
    have fs : sFill [.snil,.snil,.int .i64 0,.snil,.bool false] [(0,1,.sl 1 0 n.toNat 1),(3,1,x)] = some [.sl 1 0 n.toNat 1,.snil,.int .i64 0,x,.bool false]:= by simp [sFill,fillAt,nx,cx,nS,cS]
    have g0 : ¬ 0 = h3.nx:= by omega
    have g1 : ¬ 1 = h3.nx:= by omega
    simp only [go_sem,kSt_ptr,Nat.reduceBEq,Nat.reduceAdd,fs,nx,h2]
    have row : OwA 2 1 h3.nx ⟨fun q => if q = h3.nx then some [.sl 1 0 n.toNat 1,.snil,.int .i64 0,x,.bool false] else if q = h3.nx then some [.snil,.snil,.int .i64 0,.snil,.bool false] else h3.hp q,h3.ap,h3.nx + 1⟩ [.sl 1 0 n.toNat 1,.snil,.int .i64 0,x,.bool false] (TDisk.row ⟨List.replicate n.toNat [],[],0,l,false⟩):= by
      have M3:= (A3.up (m:= 2) (by decide)).cat (OwA.leaf (OwA.nil 2 h3.nx (h:= h3) (Nat.le_refl _)) (c:= .bool false) rfl) (Nat.le_refl _)
      have M2:= OwA.leaf M3 (c:= .int .i64 0) rfl
      have M1:= ((OwS.nil 0 u8T (h:= h3) (Nat.le_refl 2) m3).owA.1.up (m:= 2) (by decide)).cat M2 (Nat.le_refl _)
      exact (A1.cat M1 (Nat.le_refl _)).mono (by simp) fun q q1 q2 => by
        have g : ¬ q = h3.nx:= by omega
        simp only [g,if_false]
    refine hP_read (mapO1 (row.toI.frz (by decide))) c2 ?_
    cases hf : faultsOk l with
    | false =>
      simp only [Bool.false_eq_true,if_false]
      simp only [go_sem,kSt_ptr,Nat.reduceBEq,Nat.reduceAdd,b0,g0,fs0]
      exact own_noDisk _
    | true =>
      simp only [if_true]
      simp only [go_sem,kSt_ptr,Nat.reduceBEq,Nat.reduceAdd,b0,g0,nx]
      refine (row.mono (by simp) fun q q1 q2 => ?_).owE (by decide)
      have g : ¬ q = 0:= by omega
      simp only [g,if_false]
end Go.Proofs.YtpolhafmapekpaaGreatDoor.En
namespace Go.Proofs.YtpolhafmapekpaaGreatDoor.En
open Go Go.RowKit Go.Ev
set_option maxHeartbeats 1600000
noncomputable def C_impl_isSector:= c1 intT (fun (n : Int) => True) (.bool) fun (n : Int) => inR n 2 47
theorem C_impl_isSector_eq (n : Int) (h : True) : C_impl_isSector [.int .i64 n] = some (.bool ((inR n 2 47))):= c1_eq intT h
theorem ok_impl_isSector {WI : World → Prop} (hs : Stable WI) (cs) (hT : TOK (EE cs) WI) (h1 : (EE cs).T 69 = some C_impl_in) : PureOK Tryz.prog WI 168 C_impl_isSector:= by
  refine pure1 (E:= EE cs) hT hs (by rw [st_impl_isSector];rfl) fun n hp => out_wp (n:= 0) (st_impl_isSector cs) ?_
  have c1:= C_impl_in_eq n 2 47
  simp only [go_sem,Nat.reduceBEq,s_impl_isSector,h1,c1]
noncomputable def C_impl_MetaOk:= c1 tMeta (fun (m : TMeta) => True) (.bool) fun (m : TMeta) => metaOk m
theorem C_impl_MetaOk_eq (m : TMeta) (h : True) : C_impl_MetaOk [.agg [.int .i64 m.fGen,.int .i64 m.fRoot]] = some (.bool ((metaOk m))):= c1_eq tMeta h
theorem ok_impl_MetaOk {WI : World → Prop} (hs : Stable WI) (cs) (hT : TOK (EE cs) WI) (h1 : (EE cs).T 69 = some C_impl_in) (h2 : (EE cs).T 168 = some C_impl_isSector) : PureOK Tryz.prog WI 122 C_impl_MetaOk:= by
  refine pure1 (E:= EE cs) hT hs (by rw [st_impl_MetaOk];rfl) fun m hp => out_wp (n:= 0) (st_impl_MetaOk cs) ?_
  have c1:= C_impl_in_eq m.fGen 0 1000000
  have c2:= C_impl_isSector_eq m.fRoot trivial
  unfold metaOk
  cases e1 : inR m.fGen 0 1000000 with
  | false => simp only [go_sem,Nat.reduceBEq,s_impl_MetaOk,TMeta.row,tMeta_enc,h1,c1,e1]
  | true =>
    cases e2 : (m.fRoot == 0) <;> simp only [go_sem,Nat.reduceBEq,Nat.reduceAdd,Nat.reduceLeDiff,s_impl_MetaOk,TMeta.row,tMeta_enc,h1,c1,e1,e2,h2,c2,Bool.true_or,Bool.false_or]
noncomputable def C_impl_clamp:= c3 intT intT intT (fun (n : Int) (lo : Int) (hi : Int) => True) ((.int .i64)) fun (n : Int) (lo : Int) (hi : Int) => clampI n lo hi
theorem C_impl_clamp_eq (n : Int) (lo : Int) (hi : Int) (h : True) : C_impl_clamp [.int .i64 n,.int .i64 lo,.int .i64 hi] = some (.int .i64 ((clampI n lo hi))):= c3_eq intT intT intT h
theorem ok_impl_clamp {WI : World → Prop} (hs : Stable WI) (cs) (hT : TOK (EE cs) WI) : PureOK Tryz.prog WI 171 C_impl_clamp:= by
  refine pure3 (E:= EE cs) hT hs (by rw [st_impl_clamp];rfl) fun n lo hi hp => out_wp (n:= 0) (st_impl_clamp cs) ?_
  simp only [go_sem,Nat.reduceBEq,s_impl_clamp,clampI]
theorem clampI_N (n : Int) : clampI n 0 1000000 = (clampN n : Int):= by
  unfold clampI clampN
  split <;> split <;> (try split) <;> omega
theorem L_impl_addU (cs) {Q : QS} : ∀ (k m : Nat),m ≤ k → m ≤ 1000000 → ∀ (pre : List UInt8) (e : Ps) (h : Hp) (lo hi : Nat),e 1 = .int .i64 (m : Int) → OwS 0 u8T lo hi pre (e 0) h → pre.length + (uenc m).length ≤ 4194304 →
    (∀ e' h' (pre' : List UInt8) (m' : Nat),m' ≤ 127 → pre' ++ [UInt8.ofNat m'] = pre ++ uenc m → e' 1 = .int .i64 (m' : Int) → OwS 0 u8T lo h'.nx pre' (e' 0) h' → h.Down h' → (∀ q,q < lo → h'.hp q = h.hp q) → h'.ap = h.ap → Q (.exit 0) e' h') → WL (EE cs) s_impl_addU_L0 e h Q:= by
  intro k
  induction k with
  | zero =>
    intro m hm _ pre e h lo hi e1 o hb hq
    have : m = 0:= by omega
    subst this
    refine .step (wp_sound _ _ _ _ ?_)
    simp only [go_sem,Nat.reduceBEq,Int.reduceLT,s_impl_addU_L0,e1]
    exact hq _ _ pre 0 (by omega) (by rw [uenc_small (by omega)]) (by simp only [go_sem,Nat.reduceBEq,e1]) (o.wide (Nat.le_refl _) o.le (Nat.le_refl _)) (.refl _) (fun _ _ => rfl) rfl
  | succ k ih =>
    intro m hm hm2 pre e h lo hi e1 o hb hq
    by_cases h1 : m ≤ 127
    · refine .step (wp_sound _ _ _ _ ?_)
      have h2 : ¬ (127 : Int) < (m : Int):= by omega
      simp only [go_sem,Nat.reduceBEq,s_impl_addU_L0,e1,h2]
      exact hq _ _ pre m h1 (by rw [uenc_small h1]) (by simp only [go_sem,Nat.reduceBEq,e1]) (o.wide (Nat.le_refl _) o.le (Nat.le_refl _)) (.refl _) (fun _ _ => rfl) rfl
    · refine .step (wp_sound _ _ _ _ ?_)
      have h2 : (127 : Int) < (m : Int):= by omega
      have k1 : ∀ h,kBin .rem (.int .i64 (m : Int)) (.int .i64 128) h = some (.int .i64 ((m % 128 : Nat) : Int),h):= fun h => by rw [kBin_rem _ _ _ (by decide)];rfl
      have k2 : ∀ h,kBin .quo (.int .i64 (m : Int)) (.int .i64 128) h = some (.int .i64 ((m / 128 : Nat) : Int),h):= fun h => by
        rw [kBin_quo _ _ _ (by decide),show (m : Int).tdiv 128 = ((m / 128 : Nat) : Int) from rfl,wrapId (by omega) (by omega)]
      have k3 : IntKind.wrap .i64 (((m % 128 : Nat) : Int) + 128) = ((m % 128 + 128 : Nat) : Int):= by rw [wrapId (by omega) (by omega)];omega
      have hu : (uenc m).length = (uenc (m / 128)).length + 1:= by rw [uenc_big h1];rfl
      simp only [go_sem,Nat.reduceBEq,s_impl_addU_L0,e1,h2,k1,k3,u8W,u8fill]
      refine hP_push [UInt8.ofNat (m % 128 + 128)] rfl o (by simp only [List.length_cons,List.length_nil];omega) ?_
      intro v' h' g1 g2 g3 g4
      simp only [go_sem,Nat.reduceBEq,e1,k2]
      refine ih (m / 128) (by omega) (by omega) _ _ h' lo h'.nx (by simp only [go_sem,Nat.reduceBEq]) (by simp only [go_sem,Nat.reduceBEq];exact g1) (by simp only [List.length_append,List.length_cons,List.length_nil];omega) ?_
      intro e3 h3 pre' m' j1 j2 j3 j4 j5 j6 j7
      exact hq _ _ pre' m' j1 (by rw [j2,uenc_big h1];simp) j3 j4 (g2.trans j5) (fun q hq => (j6 q hq).trans (g3 q hq)) (j7.trans g4)
theorem ap_impl_addU (cs) (hc : (EE cs).T 171 = some C_impl_clamp) (n : Int) : AppO (EE cs) 124 [.int .i64 n] (uenc (clampN n)):= appO_of (st_impl_addU cs) fun l v h lo hi o hb => by
  have c1:= C_impl_clamp_eq n 0 1000000 trivial
  rw [clampI_N] at c1
  simp only [go_sem,Nat.reduceBEq,s_impl_addU,hc,c1]
  refine L_impl_addU cs (clampN n) (clampN n) (Nat.le_refl _) (clampN_le n) l _ _ lo hi (by simp only [go_sem,Nat.reduceBEq]) (by simp only [go_sem,Nat.reduceBEq];exact o) hb ?_
  intro e1 h1 pre' m' j1 j2 j3 j4 j5 j6 j7
  have hl:= congrArg List.length j2
  simp only [List.length_append,List.length_cons,List.length_nil] at hl
  simp only [go_sem,Nat.reduceBEq,j3,u8W,u8fill]
  refine hP_push [UInt8.ofNat m'] rfl j4 (by simp only [List.length_cons,List.length_nil];omega) ?_
  intro v' h' g1 g2 g3 g4
  rw [j2] at g1
  simp only [go_sem,Nat.reduceBEq]
  exact ⟨fun _ e => (by cases e),v',rfl,g1,j5.trans g2,fun q hq => (g3 q hq).trans (j6 q hq),g4.trans j7⟩
theorem ap_impl_addText (cs) (hc : (EE cs).T 171 = some C_impl_clamp) (s : List UInt8) (hs : s.length ≤ 1048576) : AppO (EE cs) 170 [.str s] (utext s):= appO_of (st_impl_addText cs) fun l v h lo hi o hb => by
  unfold utext at hb ⊢
  rw [List.length_append] at hb
  simp only [go_sem,Nat.reduceBEq,s_impl_addText]
  refine hP_appO (ap_impl_addU cs hc s.length) o (by omega) ?_
  intro v1 h1 o1 n1 f1 a1
  simp only [go_sem,Nat.reduceBEq]
  refine hP_pushX s o1 (rowsIn_str _ _) (by rw [List.length_append];omega) ?_
  intro v2 h2 o2 n2 f2 a2
  rw [List.append_assoc] at o2
  simp only [go_sem,Nat.reduceBEq]
  exact ⟨fun _ e => (by cases e),v2,rfl,o2,n1.trans n2,fun q hq => (f2 q hq).trans (f1 q hq),a2.trans a1⟩
noncomputable def C_impl_Crc:= c1 (sliceT u8T) (fun (b : List (UInt8)) => b.length ≤ 1048576) ((.int .i64)) fun (b : List (UInt8)) => (crc b : Int)
theorem C_impl_Crc_eq (b : List (UInt8)) (h : b.length ≤ 1048576) : C_impl_Crc [.imm (b.map u8T.row)] = some (.int .i64 (((crc b : Int)))):= c1_eq (sliceT u8T) h
theorem okP_impl_Crc {WI : World → Prop} (hs : Stable WI) (cs) (hT : TOK (EE cs) WI) : PureOK Tryz.prog WI 197 C_impl_Crc:= by
  refine pure1 (E:= EE cs) hT hs (by rw [st_impl_Crc];rfl) fun b hp => out_wp (n:= 0) (st_impl_Crc cs) ?_
  have hl : b.length ≤ 1048576:= hp
  have bits : ∀ (x0 : Nat) (i : Int) (e : Ps) (h : Hp),x0 < 4294967296 → e 7 = .imm (b.map u8T.row) → e 8 = .int .i64 b.length → e 9 = .int .i64 i → e 3 = .int .u32 (x0 : Int) → e 17 = .int .i64 0 → WL (EE cs) s_impl_Crc_L0 e h fun x e1 _ => x = .exit 2 ∧ e1 7 = .imm (b.map u8T.row) ∧ e1 8 = .int .i64 b.length ∧ e1 9 = .int .i64 i ∧ e1 3 = .int .u32 ((crcBits 8 x0 : Nat) : Int):= by
    intro x0 i e h hx0 h0 h8 h4 h3 h5
    refine wl_count 8 (fun k e _ => e 7 = .imm (b.map u8T.row) ∧ e 8 = .int .i64 b.length ∧ e 9 = .int .i64 i ∧ e 3 = .int .u32 ((crcBits k x0 : Nat) : Int) ∧ e 17 = .int .i64 ((k : Nat) : Int)) (.exit 2) (fun e _ => e 7 = .imm (b.map u8T.row) ∧ e 8 = .int .i64 b.length ∧ e 9 = .int .i64 i ∧ e 3 = .int .u32 ((crcBits 8 x0 : Nat) : Int)) ?_ ?_ (by simp) 8 0 e h rfl ⟨h0,h8,h4,h3,h5⟩
    · rintro k e h hk ⟨q0,q8,q1,q2,q3⟩
      have hk8 : (k : Int) < 8:= by omega
      have hlt : crcBits k x0 < 4294967296:= crcBits_lt k hx0
      have hs:= crcBits_succ k x0
      have k1:= kShr1 (k:= .u32) (by decide) (crcBits k x0)
      have hd : crcBits k x0 / 2 < 4294967296:= by omega
      by_cases hb : crcBits k x0 % 2 = 1
      · rw [crcBit1 hb] at hs
        have k2:= kXorCu hd
        simp only [go_sem,Nat.reduceBEq,s_impl_Crc_L0,q0,q8,q1,q2,q3,hk8,kAnd1u hlt,k1,kBeq1 hb,k2,w1N (Nat.le_trans (Nat.le_of_lt hk) (by decide)),hs]
      · rw [crcBit0 hb] at hs
        simp only [go_sem,Nat.reduceBEq,s_impl_Crc_L0,q0,q8,q1,q2,q3,hk8,kAnd1u hlt,k1,kBeq0 hb,w1N (Nat.le_trans (Nat.le_of_lt hk) (by decide)),hs]
    · rintro e h ⟨q0,q8,q1,q2,q3⟩
      simp only [go_sem,Nat.reduceBEq,s_impl_Crc_L0,q0,q8,q1,q2,q3,d8]
  simp only [go_sem,Nat.reduceBEq,s_impl_Crc]
  refine (wl_for (l:= b) (fun pre e h => e 7 = .imm (b.map u8T.row) ∧ e 3 = .int .u32 ((crcAll 4294967295 pre : Nat) : Int) ∧ e 9 = .int .i64 pre.length ∧ e 8 = .int .i64 (b).length) (.exit 0) (fun e h => e 7 = .imm (b.map u8T.row) ∧ e 3 = .int .u32 ((crcAll 4294967295 (b) : Nat) : Int)) (by omega) ?_ ?_ (by simp) b [] _ _ rfl ?_).mono ?_
  · rintro pre c rest e h a ⟨q0,q1,ix,nx⟩
    have hc : crcAll 4294967295 pre < 4294967296:= crcAll_lt pre (by decide)
    have k2:= fun h => kXor32 hc (u8lt c) h
    simp only [go_sem,Nat.reduceBEq,s_impl_Crc_L1,q0,q1,ix,nx,a.dl,a.ia (row:= u8T.row) (sz:= 1) rfl,u8T_row,u8u32,k2]
    refine (bits (crcAll 4294967295 pre ^^^ c.toNat) (pre.length : Int) _ _ (Nat.xor_lt_two_pow (n:= 32) hc (u8lt c)) (by simp only [go_sem,Nat.reduceBEq,q0]) (by simp only [go_sem,Nat.reduceBEq,nx]) (by simp only [go_sem,Nat.reduceBEq,ix]) (by simp only [go_sem,Nat.reduceBEq]) (by simp only [go_sem,Nat.reduceBEq])).mono ?_
    rintro x e1 h1 ⟨rfl,r0,r8,r4,r3⟩
    simp only [go_sem,Nat.reduceBEq,r0,r8,r4,r3,a.hw,crcAll_snoc]
  · rintro e h ⟨q0,q1,ix,nx⟩
    simp only [go_sem,Nat.reduceBEq,s_impl_Crc_L1,q0,q1,ix,nx]
  · exact ⟨rfl,rfl,rfl,rfl⟩
  · rintro x e h ⟨rfl,j0,j1⟩
    have k2:= fun h => kNotU (crcAll_lt b (x:= 4294967295) (by decide)) h
    simp only [go_sem,Nat.reduceBEq,j1,k2,crc]
    have:= i64N (crc_lt b)
    unfold crc at this
    simp only [go_sem,this]
theorem ok_impl_Crc {WI : World → Prop} (hs : Stable WI) (cs) (hT : TOK (EE cs) WI) : ReadOK Tryz.prog WI 197 C_impl_Crc:= ⟨okP_impl_Crc hs cs hT,fun ts t h => by unfold C_impl_Crc c1 at h;obtain ⟨a,_,_,rfl⟩:= ct_inv h;rfl⟩
theorem u8fill4 (a b c d : Int) : fillR (List.replicate 4 [.int .u8 0]) 1 [(0,.int .u8 a),(1,.int .u8 b),(2,.int .u8 c),(3,.int .u8 d)] = some [[.int .u8 a],[.int .u8 b],[.int .u8 c],[.int .u8 d]]:= rfl
theorem ap_impl_addSum (cs) (hc : (EE cs).T 197 = some C_impl_Crc) {l : List UInt8} {v : AV} {h : Hp} {lo hi : Nat} (o : OwS 0 u8T lo hi l v h) (hb : l.length ≤ 1048576) :
    ∃ v' h',RunF (EE cs) 169 [v] h (v',h') ∧ OwS 0 u8T lo h'.nx (withSum l) v' h' ∧ h.Down h' ∧ (∀ q,q < lo → h'.hp q = h.hp q) ∧ h'.ap = h.ap:= by
  have c1:= C_impl_Crc_eq l hb
  obtain ⟨⟨v',h'⟩,h1,h2⟩:= run_wp (R:= fun r => OwS 0 u8T lo r.2.nx (withSum l) r.1 r.2 ∧ h.Down r.2 ∧ (∀ q,q < lo → r.2.hp q = h.hp q) ∧ r.2.ap = h.ap) (args:= [v]) (h:= h) (st_impl_addSum cs) (by
    simp only [go_sem,Nat.reduceBEq,s_impl_addSum,hc]
    refine hP_read (mapO1 (o.owI.frz (by decide))) c1 ?_
    simp only [go_sem,Nat.reduceBEq,kShr24,kShr16,kShr8,u8W,u8fill4]
    refine hP_push (sum4 (crc l)) rfl o (by show _ + 4 ≤ _;omega) ?_
    intro v' h' g1 g2 g3 g4
    simp only [go_sem,Nat.reduceBEq]
    exact ⟨fun _ e => (by cases e),v',rfl,g1,g2,g3,g4⟩)
  exact ⟨v',h',h1,h2⟩
noncomputable def C_impl_PutPage:= c2 intT (sliceT u8T) (fun (k : Int) (b : List (UInt8)) => b.length ≤ 1048576) (fun x => .imm (x.map u8T.row)) fun (k : Int) (b : List (UInt8)) => putPage k b
theorem C_impl_PutPage_eq (k : Int) (b : List (UInt8)) (h : b.length ≤ 1048576) : C_impl_PutPage [.int .i64 k,.imm (b.map u8T.row)] = some (.imm (((putPage k b)).map u8T.row)):= c2_eq intT (sliceT u8T) h
theorem ok_impl_PutPage {WI : World → Prop} (hs : Stable WI) (cs) (hT : TOK (EE cs) WI) (h1 : (EE cs).T 69 = some C_impl_in) (h2 : (EE cs).T 171 = some C_impl_clamp) (h3 : (EE cs).T 197 = some C_impl_Crc) : OwnOK Tryz.prog WI 123 C_impl_PutPage:= by
  refine own2 (E:= EE cs) hT hs (by rw [st_impl_PutPage];rfl) fun k b hp => outO_wp (st_impl_PutPage cs) ?_
  have hl : b.length ≤ 1048576:= hp
  have c1:= C_impl_in_eq k 1 2
  unfold putPage
  cases hk : inR k 1 2 with
  | false =>
    simp only [go_sem,Nat.reduceBEq,s_impl_PutPage,h1,c1,hk]
    exact OwS.owE0 u8T
  | true =>
  by_cases hb : b.length ≤ 240
  · have hb1 : ¬ (240 : Int) < (b.length : Int):= by omega
    have hu1:= uenc_len (clampN k) (clampN_le _)
    have hu2:= uenc_len (clampN b.length) (clampN_le _)
    have hu3 : (utext b).length = (uenc (clampN b.length)).length + b.length:= by unfold utext;rw [List.length_append]
    rw [if_pos ⟨rfl,hb⟩]
    simp only [go_sem,Nat.reduceBEq,s_impl_PutPage,h1,c1,hk,hb1]
    refine hP_appO (ap_impl_addU cs h2 k) (OwS.nil 0 u8T (lo:= 0) (hi:= 0) (Nat.le_refl _) (Nat.zero_le _)) (by simp only [List.length_nil];omega) ?_
    intro v1 g1 o1 n1 f1 a1
    rw [List.nil_append] at o1
    simp only [go_sem,Nat.reduceBEq,nsI,asR_imm,rowsBytes_u8]
    refine hP_appO (ap_impl_addText cs h2 b hl) o1 (by omega) ?_
    intro v2 g2 o2 n2 f2 a2
    simp only [go_sem,Nat.reduceBEq]
    obtain ⟨v3,g3,r3,o3,n3,f3,a3⟩:= ap_impl_addSum cs h3 o2 (by rw [List.length_append];omega)
    refine hP_callK r3 n3 ?_
    simp only [go_sem,Nat.reduceBEq]
    exact o3.owI.owE (by decide)
  · have hb1 : (240 : Int) < (b.length : Int):= by omega
    rw [if_neg (fun h => hb h.2)]
    simp only [go_sem,Nat.reduceBEq,s_impl_PutPage,h1,c1,hk,hb1]
    exact OwS.owE0 u8T
noncomputable def C_impl_PutMeta:= c1 tMeta (fun (m : TMeta) => True) (fun x => .imm (x.map u8T.row)) fun (m : TMeta) => putMeta m
theorem C_impl_PutMeta_eq (m : TMeta) (h : True) : C_impl_PutMeta [.agg [.int .i64 m.fGen,.int .i64 m.fRoot]] = some (.imm (((putMeta m)).map u8T.row)):= c1_eq tMeta h
theorem ok_impl_PutMeta {WI : World → Prop} (hs : Stable WI) (cs) (hT : TOK (EE cs) WI) (h1 : (EE cs).T 122 = some C_impl_MetaOk) (h2 : (EE cs).T 171 = some C_impl_clamp) (h4 : (EE cs).T 123 = some C_impl_PutPage) : OwnOK Tryz.prog WI 68 C_impl_PutMeta:= by
  refine own1 (E:= EE cs) hT hs (by rw [st_impl_PutMeta];rfl) fun m hp => outO_wp (st_impl_PutMeta cs) ?_
  have c1:= C_impl_MetaOk_eq m trivial
  have u1:= (uenc_len (clampN m.fGen) (clampN_le _)).1
  have u2:= (uenc_len (clampN m.fRoot) (clampN_le _)).1
  unfold putMeta
  cases hk : metaOk m with
  | false =>
    rw [hk] at c1
    simp only [go_sem,Nat.reduceBEq,Nat.reduceAdd,s_impl_PutMeta,TMeta.row,tMeta_enc,h1,c1,Bool.false_eq_true]
    exact OwS.owE0 u8T
  | true =>
  rw [hk] at c1
  have hb : (metaBody m).length ≤ 6:= by unfold metaBody;rw [List.length_append];omega
  have c4:= C_impl_PutPage_eq 2 (metaBody m) (by omega)
  rw [if_pos rfl]
  simp only [go_sem,Nat.reduceBEq,Nat.reduceAdd,s_impl_PutMeta,TMeta.row,tMeta_enc,h1,c1]
  refine hP_appO (ap_impl_addU cs h2 m.fGen) (OwS.nil 0 u8T (lo:= 1) (hi:= 1) (Nat.le_refl _) (by simp)) (by simp only [List.length_nil];omega) ?_
  intro v1 g1 o1 n1 f1 a1
  rw [List.nil_append] at o1
  have b1 : g1.hp 0 = some [.int .i64 m.fGen,.int .i64 m.fRoot]:= (f1 0 (by decide)).trans (by simp)
  simp only [go_sem,Nat.reduceBEq,Nat.reduceAdd,Nat.reduceLeDiff,b1]
  refine hP_appO (ap_impl_addU cs h2 m.fRoot) o1 (by omega) ?_
  intro v2 g2 o2 n2 f2 a2
  simp only [go_sem,Nat.reduceBEq,h4]
  refine hP_own (n:= 1) (mapO2 (intT.frzT 8 g2 2) (o2.owI.frz (by decide))) c4 ((sliceT u8T).okT (putPage 2 (metaBody m)) (by decide)) (by decide) ?_
  intro x3 g3 o3 p3 q3 n3
  simp only [go_sem,Nat.reduceBEq]
  exact o3.owE (by decide)
end Go.Proofs.YtpolhafmapekpaaGreatDoor.En
namespace Go.Proofs.YtpolhafmapekpaaGreatDoor.En
open Go Go.RowKit Go.Ev
set_option maxHeartbeats 1600000
noncomputable def C_impl_Format:= c2 intT (sliceT tFault) (fun (n : Int) (l : List (TFault)) => (sliceT tFault).cost l ≤ 1048576) (fun x => .agg (x).row) fun (n : Int) (l : List (TFault)) => format n l
theorem C_impl_Format_eq (n : Int) (l : List (TFault)) (h : (sliceT tFault).cost l ≤ 1048576) : C_impl_Format [.int .i64 n,.imm (l.map TFault.row)] = some (.agg (((format n l))).row):= c2_eq intT (sliceT tFault) h
theorem ok_impl_Format {WI : World → Prop} (hs : Stable WI) (cs) (hT : TOK (EE cs) WI) (h1 : (EE cs).T 67 = some C_impl_DiskNew) (h2 : (EE cs).T 68 = some C_impl_PutMeta) : OwnOK Tryz.prog WI 32 C_impl_Format:= by
  refine own2 (E:= EE cs) hT hs (by rw [st_impl_Format];rfl) fun n l hp => outO_wp (st_impl_Format cs) ?_
  have c1:= C_impl_DiskNew_eq n l hp
  have c2:= C_impl_PutMeta_eq ⟨0,0⟩ trivial
  simp only [go_sem,Nat.reduceBEq,s_impl_Format,h1]
  refine hP_own (n:= 2) (mapO2 (intT.frzT 8 _ n) ((sliceT tFault).frzT 8 _ l)) c1 (tDisk.okT (diskNew n l) (by decide)) (by decide) ?_
  intro x g1 o k1 ka kn
  have kn1 : 1 ≤ g1.nx:= kn
  have b0 : g1.hp 0 = some [.snil,.snil,.int .i64 0,.snil,.bool false]:= (k1 0 (by simp)).trans (by simp)
  obtain ⟨cs0,rfl,hl,A⟩:= OwI.agg (row:= (diskNew n l).row) o kn
  obtain ⟨d0,d1,d2,d3,d4,rfl⟩:= len5 hl
  have z1:= A.cells
  simp only [List.any_cons,List.any_nil,Bool.or_false,Bool.or_eq_false_iff] at z1
  have g0 : ¬ 0 = g1.nx:= by omega
  unfold format
  cases hs : (diskNew n l).fSecs with
  | nil =>
    unfold TDisk.row at A
    rw [hs] at A
    have hl0 : ∀ h2,kLenL d0 h2 = some (.int .i64 0,h2):= by
      obtain ⟨R,a1,_,_⟩:= A.ex
      obtain ⟨R1,R2,a4,a5,rfl⟩:= dfzL_cons_inv a1
      rcases dfz_slice (T:= sliceT u8T) (l:= []) a4 with ⟨_,h⟩ | ⟨m,r,cs,R',hm,rfl,hr,hl,hd,rfl⟩
      · exact h
      · intro h2;rfl
    simp only [go_sem,kSt_ptr,Nat.reduceBEq,Nat.reduceAdd,Int.reduceLT,z1,hl0,b0,g0]
    refine (OwA.mono (h:= g1) (lo:= 1) (hi:= g1.nx) A (by simp) fun q q1 q2 => ?_).owE (by decide)
    have g : ¬ q = 0:= by omega
    have g' : ¬ q = g1.nx:= by omega
    simp only [g,g',if_false]
  | cons b0' bs =>
    unfold TDisk.row at A
    rw [hs] at A
    obtain ⟨r,c0,cs1,rfl,hr,hcl,r1,r2,st,_⟩:= own_secs A
    have r1' : 1 ≤ r:= r1
    have hlen : ∀ h2,kLenL (.sl r 0 (bs.length + 1) 1) h2 = some (.int .i64 ((bs.length : Int) + 1),h2):= fun h2 => rfl
    have hpos : (0 : Int) < (bs.length : Int) + 1:= by omega
    have fs2 : sFill [.int .i64 0,.int .i64 0] [] = some [AV.int .i64 0,.int .i64 0]:= rfl
    simp only [go_sem,kSt_ptr,Nat.reduceBEq,Nat.reduceAdd,z1,hlen,hpos,g0,fs2,h2]
    refine hP_own (n:= 1) (mapO1 (tMeta.frzT 8 _ ⟨0,0⟩)) c2 ((sliceT u8T).okT (putMeta ⟨0,0⟩) (by decide)) (by decide) ?_
    intro y g2 o2 p2 q2 n2
    have m2 : g1.nx + 1 ≤ g2.nx:= n2
    obtain ⟨A2,cy,ny⟩:= OwI.slice o2 n2
    have u0 : ¬ 0 = r:= by omega
    have u1 : ¬ r = g1.nx:= by omega
    have u2 : ¬ g1.nx = r:= by omega
    have hr2 : g2.hp r = some (c0 :: cs1):= (p2 r (by simp only [];omega)).trans (by simp only [u1,if_false];exact hr)
    have hP2 : g2.hp g1.nx = some [.sl r 0 (bs.length + 1) 1,d1,d2,d3,d4]:= (p2 g1.nx (by simp)).trans (by simp)
    have h02 : g2.hp 0 = some [.snil,.snil,.int .i64 0,.snil,.bool false]:= (p2 0 (by simp only [];omega)).trans (by simp only [g0,if_false];exact b0)
    have ia : kIa 1 (.sl r 0 (bs.length + 1) 1) (.int .i64 0) g2 = some (.ptr r 0,g2):= kIa_sl (Int.le_refl _) (Nat.succ_pos _)
    simp only [go_sem,kSt_ptr,Nat.reduceBEq,Nat.reduceAdd,Nat.reduceLeDiff,ia,hr2,cy,ny,hP2,u0,u2,h02,z1]
    refine OwA.owE (n:= 2) (lo:= 1) (hi:= g2.nx) (st _ y (putMeta ⟨0,0⟩) (g1.nx + 1) g2.nx (Nat.le_succ _) (A2.mono (Nat.le_refl _) fun q q1 q2 => ?_) ?_ fun q q1 q2 q3 => ?_) (by decide)
    · have q1' : g1.nx + 1 ≤ q:= q1
      have v0 : ¬ q = 0:= by omega
      have v1 : ¬ q = r:= by omega
      simp only [v0,v1,if_false]
    · have v0 : ¬ r = 0:= fun e => u0 e.symm
      simp only [v0,if_false,if_true]
    · have q1' : 1 ≤ q:= q1
      have v0 : ¬ q = 0:= by omega
      have v1 : ¬ q = g1.nx:= by omega
      simp only [v0,q3,if_false]
      rw [p2 q (by simp only [];omega)]
      simp only [v1,if_false]
noncomputable def C_impl_EngNew:= c3 strT intT (sliceT tFault) (fun (s : List UInt8) (n : Int) (l : List (TFault)) => s.length ≤ 1048576 ∧ (sliceT tFault).cost l ≤ 1048576) (fun x => .tup [.agg (x.1).row,.bool x.2]) fun (s : List UInt8) (n : Int) (l : List (TFault)) => engNew s n l
theorem C_impl_EngNew_eq (s : List UInt8) (n : Int) (l : List (TFault)) (h : s.length ≤ 1048576 ∧ (sliceT tFault).cost l ≤ 1048576) : C_impl_EngNew [.str s,.int .i64 n,.imm (l.map TFault.row)] = some (.tup [.agg (((engNew s n l).1)).row,.bool ((engNew s n l).2)]):= c3_eq strT intT (sliceT tFault) h
theorem ok_impl_EngNew {WI : World → Prop} (hs : Stable WI) (cs) (hT : TOK (EE cs) WI) (h1 : (EE cs).T 31 = some C_impl_ParseDefs) (h2 : (EE cs).T 32 = some C_impl_Format) (h3 : (EE cs).T 33 = some C_impl_DiskOk) : OwnOK Tryz.prog WI 8 C_impl_EngNew:= by
  refine own3 (E:= EE cs) hT hs (by rw [st_impl_EngNew];rfl) fun s n l hp => outO_wp (st_impl_EngNew cs) ?_
  obtain ⟨hp1,hp2⟩:= hp
  have c1:= C_impl_ParseDefs_eq s hp1
  have c2:= C_impl_Format_eq n l hp2
  have c3:= C_impl_DiskOk_eq (format n l) (by have:= format_cost n l;omega)
  unfold engNew engOut
  generalize parseDefs s = p at *
  generalize format n l = d at *
  obtain ⟨ds,ok⟩:= p
  have fs0 : sFill [.snil,.snil,.snil,.int .i64 0,.snil,.bool false] [] = some [AV.snil,.snil,.snil,.int .i64 0,.snil,.bool false]:= rfl
  have nil : ∀ h : Hp,OwE h (.tup [.agg [.snil,.snil,.snil,.int .i64 0,.snil,.bool false],.bool false]) (.tup [.agg (TEng.row ⟨[],noDisk⟩),.bool false]):= fun h => by
    have a : ∀ lo,lo ≤ h.nx → OwA 1 lo lo h [.snil] [.imm []]:= fun lo hl => (OwS.nil 0 u8T (h:= h) (Nat.le_refl lo) hl).owA.1
    have A3:= OwA.leaf (OwA.nil 1 0 (h:= h) (Nat.zero_le _)) (c:= .bool false) rfl
    have A2:= (a 0 (Nat.zero_le _)).cat A3 (Nat.le_refl _)
    have A1:= OwA.leaf A2 (c:= .int .i64 0) rfl
    exact ((a 0 (Nat.zero_le _)).cat ((a 0 (Nat.zero_le _)).cat ((a 0 (Nat.zero_le _)).cat A1 (Nat.le_refl _)) (Nat.le_refl _)) (Nat.le_refl _)).toI.owE_tb (by decide) false
  simp only [go_sem,Nat.reduceBEq,s_impl_EngNew,h1]
  refine hP_ownT (n:= 3) (mapO1 (frzT_str _)) c1 ((sliceT tDef).okT ds (by decide)) (by decide) rfl ?_
  intro x g1 o1 k1 ka1 kn1
  have m1 : 1 ≤ g1.nx:= kn1
  have b0 : g1.hp 0 = some [.snil,.snil,.snil,.int .i64 0,.snil,.bool false]:= (k1 0 (by simp)).trans (by simp)
  obtain ⟨A1,cx,zx⟩:= OwI.slice o1 kn1
  have hlen : ∀ h2,kLenL x h2 = some (.int .i64 ds.length,h2):= by
    obtain ⟨R,a1,_,_⟩:= A1.ex
    obtain ⟨R1,R2,a4,a5,rfl⟩:= dfzL_cons_inv a1
    rcases dfz_slice (T:= tDef) a4 with ⟨rfl,h⟩ | ⟨m,r,cs,R',hm,rfl,hr,hl,hd,rfl⟩
    · exact h
    · intro h2;rfl
  simp only [go_sem,Nat.reduceBEq,h2]
  refine hP_own (n:= 2) (mapO2 (intT.frzT 8 _ n) ((sliceT tFault).frzT 8 _ l)) c2 (tDisk.okT d (by decide)) (by decide) ?_
  intro y g2 o2 k2 ka2 kn2
  have m2 : g1.nx ≤ g2.nx:= kn2
  obtain ⟨cs0,rfl,hl,A2⟩:= OwI.agg (row:= d.row) o2 kn2
  obtain ⟨d0,d1,d2,d3,d4,rfl⟩:= len5 hl
  have z2:= A2.cells
  simp only [List.any_cons,List.any_nil,Bool.or_false,Bool.or_eq_false_iff] at z2
  have g0 : ¬ 0 = g2.nx:= by omega
  have b0' : g2.hp 0 = some [.snil,.snil,.snil,.int .i64 0,.snil,.bool false]:= (k2 0 (by omega)).trans b0
  cases ok with
  | false =>
    simp only [go_sem,kSt_ptr,Nat.reduceBEq,Nat.reduceAdd,z2,g0,b0',fs0]
    exact nil _
  | true =>
  by_cases h0 : ds.length = 0
  · have e0 : ((ds.length : Int) == 0) = true:= by simp [h0]
    rw [if_neg (fun h => h.2.1 h0)]
    simp only [go_sem,kSt_ptr,Nat.reduceBEq,Nat.reduceAdd,hlen,z2,g0,b0',fs0,e0]
    exact nil _
  · have e0 : ((ds.length : Int) == 0) = false:= by simp [h0]
    have fz : frzT 8 _ (.agg [d0,d1,d2,d3,d4]) = some (.agg d.row):= ((A2.mono (h':= ⟨fun q => if q = g2.nx then some [d0,d1,d2,d3,d4] else if q = g2.nx then some [.snil,.snil,.int .i64 0,.snil,.bool false] else g2.hp q,g2.ap,g2.nx + 1⟩) (Nat.le_succ _) fun q q1 q2 => by
      have g : ¬ q = g2.nx:= by omega
      simp only [g,if_false]).toI.frz (by decide))
    cases hd : diskOk d with
    | false =>
      rw [if_neg (fun h => by cases h.2.2)]
      rw [hd] at c3
      simp only [go_sem,kSt_ptr,Nat.reduceBEq,Nat.reduceAdd,hlen,z2,e0,h3]
      refine hP_read (mapO1 fz) c3 ?_
      simp only [go_sem,kSt_ptr,Nat.reduceBEq,Nat.reduceAdd,b0',g0,fs0]
      exact nil _
    | true =>
      rw [if_pos ⟨rfl,h0,rfl⟩]
      rw [hd] at c3
      have fs1 : sFill [.snil,.snil,.snil,.int .i64 0,.snil,.bool false] [(0,1,x),(1,5,.agg [d0,d1,d2,d3,d4])] = some [x,d0,d1,d2,d3,d4]:= by simp [sFill,fillAt,zx,cx,ag_agg,cl_agg]
      simp only [go_sem,kSt_ptr,Nat.reduceBEq,Nat.reduceAdd,hlen,z2,e0,h3]
      refine hP_read (mapO1 fz) c3 ?_
      simp only [go_sem,kSt_ptr,Nat.reduceBEq,Nat.reduceAdd,b0',g0,fs1,z2,zx]
      have row : OwA 3 1 g2.nx g2 (x :: [d0,d1,d2,d3,d4]) (.imm (ds.map tDef.row) :: d.row):= (A1.mono m2 fun q q1 q2 => k2 q q2).cat (A2.up (by decide)) (Nat.le_refl _)
      refine (row.mono (by simp) fun q q1 q2 => ?_).toI.owE_tb (by decide) true
      have g : ¬ q = 0:= by omega
      have g' : ¬ q = g2.nx:= by omega
      simp only [g,g',if_false]
theorem ok_laws_eqCol {WI : World → Prop} (hs : Stable WI) (cs) (hT : TOK (EE cs) WI)  : PureOK Tryz.prog WI 148 (eqC tCol):= by
  refine pureEq (E:= EE cs) hT hs (by rw [st_laws_eqCol];rfl) fun v hc => out_K (n:= 0) (st_laws_eqCol cs) ?_
  have hcost : tCol.cost v = v.fName.length:= rfl
  simp only [go_sem,Nat.reduceBEq,Nat.reduceAdd,Nat.reduceLeDiff,s_laws_eqCol,TCol.row]
theorem ok_laws_eqColS {WI : World → Prop} (hs : Stable WI) (cs) (hT : TOK (EE cs) WI) (h0 : (EE cs).T 148 = some (eqC tCol)) : PureOK Tryz.prog WI 93 (eqC (sliceT tCol)):= eqS_ok (E:= EE cs) (T:= tCol) hT hs h0 (st_laws_eqColS cs)
theorem ok_laws_eqBy {WI : World → Prop} (hs : Stable WI) (cs) (hT : TOK (EE cs) WI)  : PureOK Tryz.prog WI 149 (eqC tBy):= by
  refine pureEq (E:= EE cs) hT hs (by rw [st_laws_eqBy];rfl) fun v hc => out_K (n:= 0) (st_laws_eqBy cs) ?_
  have hcost : tBy.cost v = 0:= rfl
  simp only [go_sem,Nat.reduceBEq,Nat.reduceAdd,Nat.reduceLeDiff,s_laws_eqBy,TBy.row]
theorem ok_laws_eqByS {WI : World → Prop} (hs : Stable WI) (cs) (hT : TOK (EE cs) WI) (h0 : (EE cs).T 149 = some (eqC tBy)) : PureOK Tryz.prog WI 94 (eqC (sliceT tBy)):= eqS_ok (E:= EE cs) (T:= tBy) hT hs h0 (st_laws_eqByS cs)
theorem ok_laws_eqIndex {WI : World → Prop} (hs : Stable WI) (cs) (hT : TOK (EE cs) WI) (h0 : (EE cs).T 94 = some (eqC (sliceT tBy))) : PureOK Tryz.prog WI 150 (eqC tIndex):= by
  refine pureEq (E:= EE cs) hT hs (by rw [st_laws_eqIndex];rfl) fun v hc => out_K (n:= 0) (st_laws_eqIndex cs) ?_
  have hcost : tIndex.cost v = v.fName.length + (sliceT tBy).cost v.fParts:= rfl
  have c2 : eqC (sliceT tBy) [.imm (v.fParts.map TBy.row),.imm (v.fParts.map TBy.row)] = some (.bool true):= eqC_eq (sliceT tBy) (by omega)
  simp only [go_sem,Nat.reduceBEq,Nat.reduceAdd,Nat.reduceLeDiff,s_laws_eqIndex,TIndex.row,h0,c2]
theorem ok_laws_eqIndexS {WI : World → Prop} (hs : Stable WI) (cs) (hT : TOK (EE cs) WI) (h0 : (EE cs).T 150 = some (eqC tIndex)) : PureOK Tryz.prog WI 95 (eqC (sliceT tIndex)):= eqS_ok (E:= EE cs) (T:= tIndex) hT hs h0 (st_laws_eqIndexS cs)
theorem ok_laws_eqDef {WI : World → Prop} (hs : Stable WI) (cs) (hT : TOK (EE cs) WI) (h0 : (EE cs).T 93 = some (eqC (sliceT tCol))) (h1 : (EE cs).T 94 = some (eqC (sliceT tBy))) (h2 : (EE cs).T 95 = some (eqC (sliceT tIndex))) : PureOK Tryz.prog WI 48 (eqC tDef):= by
  refine pureEq (E:= EE cs) hT hs (by rw [st_laws_eqDef];rfl) fun v hc => out_K (n:= 0) (st_laws_eqDef cs) ?_
  have hcost : tDef.cost v = v.fName.length + (sliceT tCol).cost v.fCols + (sliceT tBy).cost v.fPrimary + (sliceT tIndex).cost v.fIndexes:= rfl
  have c1 : eqC (sliceT tCol) [.imm (v.fCols.map TCol.row),.imm (v.fCols.map TCol.row)] = some (.bool true):= eqC_eq (sliceT tCol) (by omega)
  have c2 : eqC (sliceT tBy) [.imm (v.fPrimary.map TBy.row),.imm (v.fPrimary.map TBy.row)] = some (.bool true):= eqC_eq (sliceT tBy) (by omega)
  have c3 : eqC (sliceT tIndex) [.imm (v.fIndexes.map TIndex.row),.imm (v.fIndexes.map TIndex.row)] = some (.bool true):= eqC_eq (sliceT tIndex) (by omega)
  simp only [go_sem,Nat.reduceBEq,Nat.reduceAdd,Nat.reduceLeDiff,s_laws_eqDef,TDef.row,h0,h1,h2,c1,c2,c3]
theorem ok_laws_eqDefS {WI : World → Prop} (hs : Stable WI) (cs) (hT : TOK (EE cs) WI) (h0 : (EE cs).T 48 = some (eqC tDef)) : PureOK Tryz.prog WI 21 (eqC (sliceT tDef)):= eqS_ok (E:= EE cs) (T:= tDef) hT hs h0 (st_laws_eqDefS cs)
theorem ok_laws_eqByteS {WI : World → Prop} (hs : Stable WI) (cs) (hT : TOK (EE cs) WI)  : PureOK Tryz.prog WI 125 (eqC (sliceT u8T)):= ecS_ok (E:= EE cs) (T:= u8T) hT hs rfl neq_u8 (st_laws_eqByteS cs)
theorem ok_laws_eqByteSS {WI : World → Prop} (hs : Stable WI) (cs) (hT : TOK (EE cs) WI) (h0 : (EE cs).T 125 = some (eqC (sliceT u8T))) : PureOK Tryz.prog WI 70 (eqC (sliceT (sliceT u8T))):= eqS_ok (E:= EE cs) (T:= (sliceT u8T)) hT hs h0 (st_laws_eqByteSS cs)
theorem ok_laws_eqWrite {WI : World → Prop} (hs : Stable WI) (cs) (hT : TOK (EE cs) WI) (h0 : (EE cs).T 125 = some (eqC (sliceT u8T))) : PureOK Tryz.prog WI 126 (eqC tWrite):= by
  refine pureEq (E:= EE cs) hT hs (by rw [st_laws_eqWrite];rfl) fun v hc => out_K (n:= 0) (st_laws_eqWrite cs) ?_
  have hcost : tWrite.cost v = (sliceT u8T).cost v.fB:= rfl
  have c1 : eqC (sliceT u8T) [.imm (v.fB.map u8T.row),.imm (v.fB.map u8T.row)] = some (.bool true):= eqC_eq (sliceT u8T) (by omega)
  simp only [go_sem,Nat.reduceBEq,Nat.reduceAdd,Nat.reduceLeDiff,s_laws_eqWrite,TWrite.row,h0,c1]
theorem ok_laws_eqWriteS {WI : World → Prop} (hs : Stable WI) (cs) (hT : TOK (EE cs) WI) (h0 : (EE cs).T 126 = some (eqC tWrite)) : PureOK Tryz.prog WI 71 (eqC (sliceT tWrite)):= eqS_ok (E:= EE cs) (T:= tWrite) hT hs h0 (st_laws_eqWriteS cs)
theorem ok_laws_eqFault {WI : World → Prop} (hs : Stable WI) (cs) (hT : TOK (EE cs) WI)  : PureOK Tryz.prog WI 35 (eqC tFault):= by
  refine pureEq (E:= EE cs) hT hs (by rw [st_laws_eqFault];rfl) fun v hc => out_K (n:= 0) (st_laws_eqFault cs) ?_
  have hcost : tFault.cost v = 0:= rfl
  simp only [go_sem,Nat.reduceBEq,Nat.reduceAdd,Nat.reduceLeDiff,s_laws_eqFault,TFault.row]
theorem ok_laws_eqFaultS {WI : World → Prop} (hs : Stable WI) (cs) (hT : TOK (EE cs) WI) (h0 : (EE cs).T 35 = some (eqC tFault)) : PureOK Tryz.prog WI 10 (eqC (sliceT tFault)):= eqS_ok (E:= EE cs) (T:= tFault) hT hs h0 (st_laws_eqFaultS cs)
theorem ok_laws_eqDisk {WI : World → Prop} (hs : Stable WI) (cs) (hT : TOK (EE cs) WI) (h0 : (EE cs).T 70 = some (eqC (sliceT (sliceT u8T)))) (h1 : (EE cs).T 71 = some (eqC (sliceT tWrite))) (h2 : (EE cs).T 10 = some (eqC (sliceT tFault))) : PureOK Tryz.prog WI 34 (eqC tDisk):= by
  refine pureEq (E:= EE cs) hT hs (by rw [st_laws_eqDisk];rfl) fun v hc => out_K (n:= 0) (st_laws_eqDisk cs) ?_
  have hcost : tDisk.cost v = (sliceT (sliceT u8T)).cost v.fSecs + (sliceT tWrite).cost v.fCache + (sliceT tFault).cost v.fFaults:= rfl
  have c0 : eqC (sliceT (sliceT u8T)) [.imm (v.fSecs.map (sliceT u8T).row),.imm (v.fSecs.map (sliceT u8T).row)] = some (.bool true):= eqC_eq (sliceT (sliceT u8T)) (by omega)
  have d0 : ∀ h,frzT 8 h (.imm (v.fSecs.map (sliceT u8T).row)) = some (.imm (v.fSecs.map (sliceT u8T).row)):= fun h => ((sliceT (sliceT u8T))).frzT 8 h v.fSecs
  have c1 : eqC (sliceT tWrite) [.imm (v.fCache.map TWrite.row),.imm (v.fCache.map TWrite.row)] = some (.bool true):= eqC_eq (sliceT tWrite) (by omega)
  have d1 : ∀ h,frzT 8 h (.imm (v.fCache.map TWrite.row)) = some (.imm (v.fCache.map TWrite.row)):= fun h => ((sliceT tWrite)).frzT 8 h v.fCache
  have c3 : eqC (sliceT tFault) [.imm (v.fFaults.map TFault.row),.imm (v.fFaults.map TFault.row)] = some (.bool true):= eqC_eq (sliceT tFault) (by omega)
  have d3 : ∀ h,frzT 8 h (.imm (v.fFaults.map TFault.row)) = some (.imm (v.fFaults.map TFault.row)):= fun h => ((sliceT tFault)).frzT 8 h v.fFaults
  simp only [go_sem,Nat.reduceBEq,Nat.reduceAdd,Nat.reduceLeDiff,s_laws_eqDisk,TDisk.row,h0,h1,h2,c0,deepC_false,c1,c3,d3]
end Go.Proofs.YtpolhafmapekpaaGreatDoor.En
namespace Go.Proofs.YtpolhafmapekpaaGreatDoor.En
open Go Go.RowKit Go.Ev
set_option maxHeartbeats 1600000
theorem ok_laws_eqEng {WI : World → Prop} (hs : Stable WI) (cs) (hT : TOK (EE cs) WI) (h0 : (EE cs).T 21 = some (eqC (sliceT tDef))) (h1 : (EE cs).T 34 = some (eqC tDisk)) : PureOK Tryz.prog WI 9 (eqC tEng):= by
  refine pureEq (E:= EE cs) hT hs (by rw [st_laws_eqEng];rfl) fun v hc => out_K (n:= 0) (st_laws_eqEng cs) ?_
  have hcost : tEng.cost v = (sliceT tDef).cost v.fS + tDisk.cost v.fD:= rfl
  have c0 : eqC (sliceT tDef) [.imm (v.fS.map TDef.row),.imm (v.fS.map TDef.row)] = some (.bool true):= eqC_eq (sliceT tDef) (by omega)
  have c1 : eqC tDisk [.agg [.imm (v.fD.fSecs.map (sliceT u8T).row),.imm (v.fD.fCache.map TWrite.row),.int .i64 v.fD.fOps,.imm (v.fD.fFaults.map TFault.row),.bool v.fD.fDown],.agg [.imm (v.fD.fSecs.map (sliceT u8T).row),.imm (v.fD.fCache.map TWrite.row),.int .i64 v.fD.fOps,.imm (v.fD.fFaults.map TFault.row),.bool v.fD.fDown]] = some (.bool true):= eqC_eq tDisk (by omega)
  simp only [go_sem,Nat.reduceBEq,Nat.reduceAdd,Nat.reduceLeDiff,s_laws_eqEng,TEng.row,h0,h1,c0,c1]
def digN (b : UInt8) : Bool:= decide (48 ≤ b.toNat) && decide (b.toNat ≤ 57)
def dstep (n : Nat) (b : UInt8) : Nat:= n * 10 + (b.toNat - 48)
def numD (n : Nat) (l : List UInt8) : Nat:= l.foldl dstep n
theorem numD_nil (n : Nat) : numD n [] = n:= rfl
theorem numD_cons (n : Nat) (b : UInt8) (r : List UInt8) : numD n (b :: r) = numD (dstep n b) r:= by unfold numD;rw [List.foldl_cons]
theorem numD_snoc (b : UInt8) (l : List UInt8) (n : Nat) : numD n (l ++ [b]) = numD n l * 10 + (b.toNat - 48):= by
  unfold numD
  rw [List.foldl_append,List.foldl_cons,List.foldl_nil,dstep]
theorem dig48 (d : Nat) (h : d < 10) : (UInt8.ofNat (48 + d)).toNat = 48 + d:= by
  rw [UInt8.toNat_ofNat']
  omega
theorem dec_spec : ∀ (u : Nat),numD 0 (Lib.decDigits u) = u ∧ (Lib.decDigits u).all digN = true ∧ Lib.decDigits u ≠ [] ∧ (1 ≤ u → (Lib.decDigits u).head? ≠ some 48):= by
  intro u
  induction u using Nat.strongRecOn with
  | _ u ih =>
    by_cases h : u < 10
    · rw [Lib.decDigits_one h]
      have hd:= dig48 u h
      refine ⟨by rw [numD_cons,numD_nil,dstep,hd];omega,by simp only [List.all_cons,List.all_nil,digN,hd,Bool.and_true,Bool.and_eq_true,decide_eq_true_eq];omega,by simp,fun h1 e => ?_⟩
      simp only [List.head?_cons,Option.some.injEq] at e
      have:= congrArg UInt8.toNat e
      rw [hd] at this
      have h48 : (48 : UInt8).toNat = 48:= rfl
      omega
    · have he : Lib.decDigits u = Lib.decDigits (u / 10) ++ [UInt8.ofNat (48 + u % 10)]:= by rw [Lib.decDigits,dif_neg h]
      obtain ⟨i1,i2,i3,i4⟩:= ih (u / 10) (by omega)
      have hd:= dig48 (u % 10) (by omega)
      rw [he]
      refine ⟨by rw [numD_snoc,i1,hd];omega,by rw [List.all_append,i2];simp only [List.all_cons,List.all_nil,digN,hd,Bool.and_true,Bool.true_and,Bool.and_eq_true,decide_eq_true_eq];omega,by simp,fun _ => ?_⟩
      obtain ⟨c,r,hc⟩:= List.exists_cons_of_ne_nil i3
      rw [hc] at i4 ⊢
      exact i4 (by omega)
end Go.Proofs.YtpolhafmapekpaaGreatDoor.En
namespace Go.Proofs.YtpolhafmapekpaaGreatDoor.En
open Go Go.RowKit Go.Ev
set_option maxHeartbeats 1600000
theorem u8dig (d : Nat) (h : d < 10) : rowsBytes [[.int .u8 (IntKind.wrap .u8 (IntKind.wrap .i64 (48 + (d : Int))))]] = some [UInt8.ofNat (48 + d)]:= by
  have h1 : IntKind.wrap .i64 (48 + (d : Int)) = 48 + (d : Int):= wrapId (by omega) (by omega)
  have h2 : IntKind.wrap .u8 (48 + (d : Int)) = 48 + (d : Int):= by
    simp [IntKind.wrap,IntKind.bits,IntKind.signed]
    omega
  rw [h1,h2]
  simp only [rowsBytes,rowByte,Option.bind_some,Option.map_some]
  congr 2
def mtext (k : Int) : List UInt8:= if k ≤ 0 then [109,48] else 109 :: Lib.decDigits k.toNat
def mbool (k : Int) : Bool:= k.tmod 3 == 0
def mbyte (k : Int) : UInt8:= UInt8.ofNat k.toNat
def mkE_byte (_v : UInt8) (k : Int) : UInt8:= mbyte k
def cnE_byte (_v : UInt8) : Nat:= 1
theorem u8mark (k : Int) (h : 0 ≤ k) : IntKind.wrap .u8 k = ((mbyte k).toNat : Int):= by
  unfold mbyte
  rw [UInt8.toNat_ofNat']
  simp [IntKind.wrap,IntKind.bits,IntKind.signed]
  omega
theorem krem3 (k : Int) (h : Hp) : kBin .rem (.int .i64 k) (.int .i64 3) h = some (.int .i64 (k.tmod 3),h):= kBin_rem _ _ _ (by decide)
theorem mb3 (k : Int) : (k.tmod 3 == 0) = mbool k:= rfl
def MkI {α : Type} (mk : α → Int → α) (cnt : α → Nat) : Prop:= ∀ v k,mk (mk v k) k = mk v k ∧ cnt (mk v k) = cnt v
theorem mkL_idem {α : Type} {mk : α → Int → α} {cnt : α → Nat} (h : MkI mk cnt) : MkI (mkL mk cnt) (cntL cnt):= by
  intro l
  induction l with
  | nil => intro k;exact ⟨rfl,rfl⟩
  | cons v l ih =>
    intro k
    obtain ⟨h1,h2⟩:= h v k
    obtain ⟨i1,i2⟩:= ih (k + cnt v)
    exact ⟨by simp only [mkL,h1,h2,i1],by simp only [mkL,cntL,h2,i2]⟩
def MkF {α : Type} (T : TD α) (mk : α → Int → α) (cnt : α → Nat) : Prop:= ∀ v k,T.fits v → 0 ≤ k → k + ((cnt v : Nat) : Int) ≤ 4611686018427387904 → T.fits (mk v k)
theorem mkL_fits {α : Type} {T : TD α} {mk : α → Int → α} {cnt : α → Nat} (h : MkF T mk cnt) : MkF (sliceT T) (mkL mk cnt) (cntL cnt):= by
  intro l k hf hk hk2
  refine ⟨by rw [mkL_len];exact hf.1,?_⟩
  have hf2:= hf.2
  clear hf
  induction l generalizing k with
  | nil => intro v hv;cases hv
  | cons v l ih =>
    simp only [cntL] at hk2
    intro u hu
    rcases List.mem_cons.1 hu with rfl | hu
    · exact h v k (hf2 v List.mem_cons_self) hk (by omega)
    · exact ih (k + cnt v) (by omega) (by omega) (fun w hw => hf2 w (List.mem_cons_of_mem _ hw)) u hu
theorem mtext_len (k : Int) (h0 : 0 ≤ k) (h1 : k ≤ 4611686018427387904) : (mtext k).length ≤ 9223372036854775807:= by
  unfold mtext
  split
  · decide
  · obtain ⟨u,rfl⟩ : ∃ u : Nat,k = (u : Int):= ⟨k.toNat,by omega⟩
    have:= Lib.itoa_length_le (u : Int) (by omega) (by omega)
    rw [Lib.itoa_nonneg] at this
    rw [Int.toNat_natCast,List.length_cons]
    omega
theorem mi_byte : MkI mkE_byte cnE_byte:= fun _ _ => ⟨rfl,rfl⟩
theorem mf_byte : MkF u8T mkE_byte cnE_byte:= fun _ _ _ _ _ => trivial
theorem cntL_le {α : Type} {T : TD α} {cnt : α → Nat} (h : ∀ v,cnt v ≤ 10 * (1 + T.cost v)) : ∀ l : List α,cntL cnt l ≤ 10 * (sliceT T).cost l:= by
  intro l
  induction l with
  | nil => exact Nat.zero_le _
  | cons v l ih =>
    have h1:= h v
    have h2 : (sliceT T).cost l = l.length + costL T l:= rfl
    have h3 : (sliceT T).cost (v :: l) = (l.length + 1) + (T.cost v + costL T l):= rfl
    simp only [cntL]
    omega
theorem cb_byte (v : UInt8) : cnE_byte v ≤ 10 * (1 + u8T.cost v):= by unfold cnE_byte;omega
def mkE_Fault (v : TFault) (k : Int) : TFault:= ⟨k,k + 1,k + 1 + 1⟩
def cnE_Fault (v : TFault) : Nat:= 3
theorem mi_Fault : MkI mkE_Fault cnE_Fault:= fun v k => by
  constructor
  · simp only [mkE_Fault]
  · simp only [cnE_Fault]
theorem mf_Fault : MkF tFault mkE_Fault cnE_Fault:= fun v k hf h0 h1 => by
  exact trivial
theorem cb_Fault (v : TFault) : cnE_Fault v ≤ 10 * (1 + tFault.cost v):= by
  have hcost : tFault.cost v = 0:= rfl
  unfold cnE_Fault
  omega
theorem mb_laws_markFaultS (cs)  : MkB (EE cs) b_laws_markFaultS tFault mkE_Fault cnE_Fault:= by
  intro m e h r len i k A c B v R e0 e5 e1 hr hA hi hc hd hnd hrR hlt hrn hf hk hk2
  obtain ⟨c0,c1,c2,rfl⟩:= len3 hc
  replace e0 : e 0 = .sl r 0 len 3:= e0
  replace hA : A.length = i * 3:= hA
  replace hr : h.hp r = some (A ++ c0 :: c1 :: c2 :: B):= hr
  replace hd : dfzL (dfz m h) [c0,c1,c2] = some ([.int .i64 v.fAt,.int .i64 v.fKeep,.int .i64 v.fCut],R):= hd
  obtain ⟨R0,S0,d0,hd0,rfl⟩:= dfzL_cons_inv hd
  obtain ⟨rfl,rfl⟩:= dfz_int d0
  obtain ⟨R1,S1,d1,hd1,rfl⟩:= dfzL_cons_inv hd0
  obtain ⟨rfl,rfl⟩:= dfz_int d1
  obtain ⟨R2,S2,d2,hd2,rfl⟩:= dfzL_cons_inv hd1
  obtain ⟨rfl,rfl⟩:= dfz_int d2
  obtain ⟨_,rfl⟩:= dfzL_nil_inv hd2
  simp only [List.append_nil] at hnd hrR hlt ⊢
  unfold cnE_Fault at hk2
  have hcn : k + ((cnE_Fault v : Nat) : Int) = k + 1 + 1 + 1:= by unfold cnE_Fault;omega
  have w0 : IntKind.wrap .i64 (k + 1) = k + 1:= wrapId (by omega) (by omega)
  have w1 : IntKind.wrap .i64 (k + 1 + 1) = k + 1 + 1:= wrapId (by omega) (by omega)
  have w2 : IntKind.wrap .i64 (k + 1 + 1 + 1) = k + 1 + 1 + 1:= wrapId (by omega) (by omega)
  have ia:= fun h => kIa_mid (r:= r) (h:= h) hA hi
  have dl : decide ((i : Int) < (len : Int)) = true:= decide_eq_true (by omega)
  simp only [go_sem,kSt_ptr,Nat.reduceBEq,b_laws_markFaultS,w0,w1,w2,e0,e5,e1,ia,hr]
  refine ⟨rfl,by rw [hcn],[.int .i64 (k),.int .i64 (k + 1),.int .i64 (k + 1 + 1)],rfl,rfl,?_,fun q hq hqr _ => by simp [hqr]⟩
  exact dfzL_leafs fun c hc => by
    simp only [List.mem_cons,List.not_mem_nil,or_false] at hc
    rcases hc with rfl | rfl | rfl <;> rfl
theorem mk_laws_markFaultS (cs)  : MkS (EE cs) 11 (sliceT tFault) (mkL mkE_Fault cnE_Fault) (cntL cnE_Fault):= mkS_ok (st_laws_markFaultS cs) (by decide) (mb_laws_markFaultS cs)
noncomputable def C_laws_markText:= c1 intT (fun (k : Int) => 0 ≤ k ∧ k ≤ 4611686018427387904) (.str) fun (k : Int) => mtext k
theorem C_laws_markText_eq (k : Int) (h : 0 ≤ k ∧ k ≤ 4611686018427387904) : C_laws_markText [.int .i64 k] = some (.str ((mtext k))):= c1_eq intT h
theorem L_laws_markText (cs) (K : Nat) (hK : K ≤ 4611686018427387904) : ∀ (fuel u : Nat) (out : List UInt8) (e : Ps) (h : Hp),u ≤ fuel → u ≤ K → (0 < u → out.length + (Lib.decDigits u).length ≤ 30) → (0 < u → Lib.decDigits u ++ out = Lib.decDigits K) → (u = 0 → out = Lib.decDigits K) → e 0 = .int .i64 (u : Int) → e 3 = .str out →
    WL (EE cs) s_laws_markText_L0 e h fun x e' h' => x = .exit 0 ∧ e' 3 = .str (Lib.decDigits K)
  | fuel,0,out,e,h,hf,huK,hl,h1,h2,h0,h3 => by
    refine .step (.sim ?_)
    have he:= h2 rfl
    subst he
    simp only [go_sem,Nat.reduceBEq,s_laws_markText_L0,h0,h3,Int.lt_irrefl]
  | 0,u + 1,out,e,h,hf,huK,hl,h1,h2,h0,h3 => by omega
  | fuel + 1,u + 1,out,e,h,hf,huK,hl,h1,h2,h0,h3 => by
    have hpos : (0 : Int) < ((u + 1 : Nat) : Int):= by omega
    have hd:= u8dig ((u + 1) % 10) (Nat.mod_lt _ (by omega))
    have eq : IntKind.wrap .i64 (((u + 1 : Nat) : Int).tdiv 10) = (((u + 1) / 10 : Nat) : Int):= by
      rw [show ((u + 1 : Nat) : Int).tdiv 10 = (((u + 1) / 10 : Nat) : Int) from rfl]
      exact wrapId (by omega) (by omega)
    have er : ((u + 1 : Nat) : Int).tmod 10 = (((u + 1) % 10 : Nat) : Int):= rfl
    have kq : ∀ h,kBin .quo (.int .i64 ((u + 1 : Nat) : Int)) (.int .i64 10) h = some (.int .i64 (((u + 1) / 10 : Nat) : Int),h):= fun h => by rw [kBin_quo _ _ _ (by decide),eq]
    have kr : ∀ h,kBin .rem (.int .i64 ((u + 1 : Nat) : Int)) (.int .i64 10) h = some (.int .i64 (((u + 1) % 10 : Nat) : Int),h):= fun h => by rw [kBin_rem _ _ _ (by decide),er]
    have hl:= hl (by omega)
    have hdl : 1 ≤ (Lib.decDigits (u + 1)).length:= List.length_pos_iff.2 (dec_spec _).2.2.1
    have hc : ∀ h,kBin .add (.str [UInt8.ofNat (48 + (u + 1) % 10)]) (.str out) h = some (.str (UInt8.ofNat (48 + (u + 1) % 10) :: out),h):= fun h => kCat (by simp;omega)
    refine .step (.mono (.sim (Q:= fun x e1 h1 => x = .norm ∧ e1 0 = .int .i64 (((u + 1) / 10 : Nat) : Int) ∧ e1 3 = .str (UInt8.ofNat (48 + (u + 1) % 10) :: out)) ?_) ?_)
    · simp only [go_sem,Nat.reduceBEq,s_laws_markText_L0,h0,h3,hpos,kq,kr,hc,hd,fillR,List.replicate,frzRows,notStr,rowsIn,isAggV,List.set,Bool.not_false,Bool.true_or]
    · rintro _ e1 h1' ⟨rfl,k0,k3⟩
      have hsplit : ∀ hq : 0 < (u + 1) / 10,Lib.decDigits (u + 1) = Lib.decDigits ((u + 1) / 10) ++ [UInt8.ofNat (48 + (u + 1) % 10)]:= fun hq => by rw [Lib.decDigits,dif_neg (by omega)]
      refine L_laws_markText cs K hK fuel ((u + 1) / 10) _ e1 h1' (by omega) (by omega) ?_ (fun hq => ?_) (fun hq => ?_) k0 k3
      · intro hq
        have:= congrArg List.length (hsplit hq)
        rw [List.length_append] at this
        simp at this ⊢
        omega
      · rw [← h1 (by omega),hsplit hq,List.append_assoc]
        rfl
      · rw [← h1 (by omega),Lib.decDigits_one (show u + 1 < 10 by omega),Nat.mod_eq_of_lt (by omega)]
        rfl
theorem ok_laws_markText {WI : World → Prop} (hs : Stable WI) (cs) (hT : TOK (EE cs) WI) : PureOK Tryz.prog WI 50 C_laws_markText:= by
  refine pure1 (E:= EE cs) hT hs (by rw [st_laws_markText];rfl) fun k hp => out_wp (n:= 0) (st_laws_markText cs) ?_
  obtain ⟨h0,h1⟩:= hp
  by_cases hz : k ≤ 0
  · have : k = 0:= by omega
    subst this
    simp only [go_sem,Nat.reduceBEq,Int.reduceLE,s_laws_markText,mtext]
  obtain ⟨u,rfl⟩ : ∃ u : Nat,k = (u : Int):= ⟨k.toNat,by omega⟩
  have hlen : (Lib.decDigits u).length ≤ 21:= by
    have:= Lib.itoa_length_le (u : Int) (by omega) (by omega)
    rwa [Lib.itoa_nonneg] at this
  simp only [go_sem,Nat.reduceBEq,s_laws_markText,hz]
  refine (L_laws_markText cs u (by omega) u u [] _ _ (Nat.le_refl _) (Nat.le_refl _) (fun _ => by simp;omega) (fun _ => by simp) (fun e => by omega) (by simp only [go_sem,Nat.reduceBEq]) (by simp only [go_sem,Nat.reduceBEq])).mono ?_
  rintro x e' h' ⟨rfl,j3⟩
  have hc : ∀ h,kBin .add (.str [109]) (.str (Lib.decDigits u)) h = some (.str (109 :: Lib.decDigits u),h):= fun h => kCat (by simp;omega)
  simp only [go_sem,Nat.reduceBEq,j3,hc,mtext,hz,Int.toNat_natCast]
def mkE_Col (v : TCol) (k : Int) : TCol:= ⟨mtext (k),k + 1,mbool (k + 1 + 1)⟩
def cnE_Col (v : TCol) : Nat:= 3
theorem mi_Col : MkI mkE_Col cnE_Col:= fun v k => by
  constructor
  · simp only [mkE_Col]
  · simp only [cnE_Col]
theorem mf_Col : MkF tCol mkE_Col cnE_Col:= fun v k hf h0 h1 => by
  unfold cnE_Col at h1
  exact mtext_len (k) (by omega) (by omega)
theorem cb_Col (v : TCol) : cnE_Col v ≤ 10 * (1 + tCol.cost v):= by
  have hcost : tCol.cost v = v.fName.length:= rfl
  unfold cnE_Col
  omega
theorem mb_laws_markColS (cs) (h_laws_markText : (EE cs).T 50 = some C_laws_markText) : MkB (EE cs) b_laws_markColS tCol mkE_Col cnE_Col:= by
  intro m e h r len i k A c B v R e0 e5 e1 hr hA hi hc hd hnd hrR hlt hrn hf hk hk2
  obtain ⟨c0,c1,c2,rfl⟩:= len3 hc
  replace e0 : e 0 = .sl r 0 len 3:= e0
  replace hA : A.length = i * 3:= hA
  replace hr : h.hp r = some (A ++ c0 :: c1 :: c2 :: B):= hr
  replace hd : dfzL (dfz m h) [c0,c1,c2] = some ([.str v.fName,.int .i64 v.fType,.bool v.fNull],R):= hd
  obtain ⟨R0,S0,d0,hd0,rfl⟩:= dfzL_cons_inv hd
  obtain ⟨rfl,rfl⟩:= dfz_str d0
  obtain ⟨R1,S1,d1,hd1,rfl⟩:= dfzL_cons_inv hd0
  obtain ⟨rfl,rfl⟩:= dfz_int d1
  obtain ⟨R2,S2,d2,hd2,rfl⟩:= dfzL_cons_inv hd1
  obtain ⟨rfl,rfl⟩:= dfz_bool d2
  obtain ⟨_,rfl⟩:= dfzL_nil_inv hd2
  simp only [List.append_nil] at hnd hrR hlt ⊢
  unfold cnE_Col at hk2
  have hcn : k + ((cnE_Col v : Nat) : Int) = k + 1 + 1 + 1:= by unfold cnE_Col;omega
  have w0 : IntKind.wrap .i64 (k + 1) = k + 1:= wrapId (by omega) (by omega)
  have x0:= C_laws_markText_eq (k) (by omega)
  have w1 : IntKind.wrap .i64 (k + 1 + 1) = k + 1 + 1:= wrapId (by omega) (by omega)
  have w2 : IntKind.wrap .i64 (k + 1 + 1 + 1) = k + 1 + 1 + 1:= wrapId (by omega) (by omega)
  have ia:= fun h => kIa_mid (r:= r) (h:= h) hA hi
  have dl : decide ((i : Int) < (len : Int)) = true:= decide_eq_true (by omega)
  simp only [go_sem,kSt_ptr,Nat.reduceBEq,b_laws_markColS,w0,x0,w1,w2,mb3,krem3,h_laws_markText,e0,e5,e1,ia,hr]
  refine ⟨rfl,by rw [hcn],[.str (mtext (k)),.int .i64 (k + 1),.bool (mbool (k + 1 + 1))],rfl,rfl,?_,fun q hq hqr _ => by simp [hqr]⟩
  exact dfzL_leafs fun c hc => by
    simp only [List.mem_cons,List.not_mem_nil,or_false] at hc
    rcases hc with rfl | rfl | rfl <;> rfl
theorem mk_laws_markColS (cs) (h_laws_markText : (EE cs).T 50 = some C_laws_markText) : MkS (EE cs) 51 (sliceT tCol) (mkL mkE_Col cnE_Col) (cntL cnE_Col):= mkS_ok (st_laws_markColS cs) (by decide) (mb_laws_markColS cs h_laws_markText)
def mkE_By (v : TBy) (k : Int) : TBy:= ⟨k,mbool (k + 1)⟩
def cnE_By (v : TBy) : Nat:= 2
theorem mi_By : MkI mkE_By cnE_By:= fun v k => by
  constructor
  · simp only [mkE_By]
  · simp only [cnE_By]
theorem mf_By : MkF tBy mkE_By cnE_By:= fun v k hf h0 h1 => by
  exact trivial
theorem cb_By (v : TBy) : cnE_By v ≤ 10 * (1 + tBy.cost v):= by
  have hcost : tBy.cost v = 0:= rfl
  unfold cnE_By
  omega
theorem mb_laws_markByS (cs)  : MkB (EE cs) b_laws_markByS tBy mkE_By cnE_By:= by
  intro m e h r len i k A c B v R e0 e5 e1 hr hA hi hc hd hnd hrR hlt hrn hf hk hk2
  obtain ⟨c0,c1,rfl⟩:= len2 hc
  replace e0 : e 0 = .sl r 0 len 2:= e0
  replace hA : A.length = i * 2:= hA
  replace hr : h.hp r = some (A ++ c0 :: c1 :: B):= hr
  replace hd : dfzL (dfz m h) [c0,c1] = some ([.int .i64 v.fCol,.bool v.fDesc],R):= hd
  obtain ⟨R0,S0,d0,hd0,rfl⟩:= dfzL_cons_inv hd
  obtain ⟨rfl,rfl⟩:= dfz_int d0
  obtain ⟨R1,S1,d1,hd1,rfl⟩:= dfzL_cons_inv hd0
  obtain ⟨rfl,rfl⟩:= dfz_bool d1
  obtain ⟨_,rfl⟩:= dfzL_nil_inv hd1
  simp only [List.append_nil] at hnd hrR hlt ⊢
  unfold cnE_By at hk2
  have hcn : k + ((cnE_By v : Nat) : Int) = k + 1 + 1:= by unfold cnE_By;omega
  have w0 : IntKind.wrap .i64 (k + 1) = k + 1:= wrapId (by omega) (by omega)
  have w1 : IntKind.wrap .i64 (k + 1 + 1) = k + 1 + 1:= wrapId (by omega) (by omega)
  have ia:= fun h => kIa_mid (r:= r) (h:= h) hA hi
  have dl : decide ((i : Int) < (len : Int)) = true:= decide_eq_true (by omega)
  simp only [go_sem,kSt_ptr,Nat.reduceBEq,b_laws_markByS,w0,w1,mb3,krem3,e0,e5,e1,ia,hr]
  refine ⟨rfl,by rw [hcn],[.int .i64 (k),.bool (mbool (k + 1))],rfl,rfl,?_,fun q hq hqr _ => by simp [hqr]⟩
  exact dfzL_leafs fun c hc => by
    simp only [List.mem_cons,List.not_mem_nil,or_false] at hc
    rcases hc with rfl | rfl <;> rfl
theorem mk_laws_markByS (cs)  : MkS (EE cs) 52 (sliceT tBy) (mkL mkE_By cnE_By) (cntL cnE_By):= mkS_ok (st_laws_markByS cs) (by decide) (mb_laws_markByS cs)
end Go.Proofs.YtpolhafmapekpaaGreatDoor.En
namespace Go.Proofs.YtpolhafmapekpaaGreatDoor.En
open Go Go.RowKit Go.Ev
set_option maxHeartbeats 1600000
def mkE_Index (v : TIndex) (k : Int) : TIndex:= ⟨mtext (k),mbool (k + 1),(mkL mkE_By cnE_By) v.fParts (k + 1 + 1)⟩
def cnE_Index (v : TIndex) : Nat:= 2 + (cntL cnE_By) v.fParts
theorem mi_Index : MkI mkE_Index cnE_Index:= fun v k => by
  constructor
  · simp only [mkE_Index,((mkL_idem mi_By) _ _).1]
  · simp only [mkE_Index,cnE_Index,((mkL_idem mi_By) _ _).2]
theorem mf_Index : MkF tIndex mkE_Index cnE_Index:= fun v k hf h0 h1 => by
  unfold cnE_Index at h1
  exact ⟨mtext_len (k) (by omega) (by omega),(mkL_fits mf_By) v.fParts (k + 1 + 1) (by exact hf.2) (by omega) (by omega)⟩
theorem cb_Index (v : TIndex) : cnE_Index v ≤ 10 * (1 + tIndex.cost v):= by
  have hcost : tIndex.cost v = v.fName.length + (sliceT tBy).cost v.fParts:= rfl
  have q_Parts:= cntL_le (T:= tBy) cb_By v.fParts
  unfold cnE_Index
  omega
theorem mb_laws_markIndexS (cs) (h_laws_markText : (EE cs).T 50 = some C_laws_markText) (m_laws_markByS : MkS (EE cs) 52 (sliceT tBy) (mkL mkE_By cnE_By) (cntL cnE_By)) : MkB (EE cs) b_laws_markIndexS tIndex mkE_Index cnE_Index:= by
  intro m e h r len i k A c B v R e0 e5 e1 hr hA hi hc hd hnd hrR hlt hrn hf hk hk2
  obtain ⟨c0,c1,c2,rfl⟩:= len3 hc
  replace e0 : e 0 = .sl r 0 len 3:= e0
  replace hA : A.length = i * 3:= hA
  replace hr : h.hp r = some (A ++ c0 :: c1 :: c2 :: B):= hr
  replace hd : dfzL (dfz m h) [c0,c1,c2] = some ([.str v.fName,.bool v.fUnique,.imm (v.fParts.map TBy.row)],R):= hd
  obtain ⟨R0,S0,d0,hd0,rfl⟩:= dfzL_cons_inv hd
  obtain ⟨rfl,rfl⟩:= dfz_str d0
  obtain ⟨R1,S1,d1,hd1,rfl⟩:= dfzL_cons_inv hd0
  obtain ⟨rfl,rfl⟩:= dfz_bool d1
  obtain ⟨R2,S2,d2,hd2,rfl⟩:= dfzL_cons_inv hd1
  obtain ⟨_,rfl⟩:= dfzL_nil_inv hd2
  simp only [List.nil_append,List.append_nil] at hnd hrR hlt ⊢
  unfold cnE_Index at hk2
  have hcn : k + ((cnE_Index v : Nat) : Int) = k + 1 + 1 + (((cntL cnE_By) v.fParts : Nat) : Int):= by unfold cnE_Index;omega
  have w0 : IntKind.wrap .i64 (k + 1) = k + 1:= wrapId (by omega) (by omega)
  have x0:= C_laws_markText_eq (k) (by omega)
  have w1 : IntKind.wrap .i64 (k + 1 + 1) = k + 1 + 1:= wrapId (by omega) (by omega)
  have ia:= fun h => kIa_mid (r:= r) (h:= h) hA hi
  have dl : decide ((i : Int) < (len : Int)) = true:= decide_eq_true (by omega)
  have hin : (∀ q ∈ R2,q < h.nx ∧ q ≠ r):= by
    exact fun q hq => ⟨hlt q hq,fun e => hrR (e ▸ hq)⟩
  have hin2:= hin
  have nd2:= hnd
  simp only [go_sem,kSt_ptr,Nat.reduceBEq,b_laws_markIndexS,w0,x0,w1,mb3,krem3,h_laws_markText,e0,e5,e1,ia,hr]
  refine hP_markC (m:= m) m_laws_markByS (by exact hf.2) (by omega) (by omega) (R:= R2) ?_ nd2 ?_ ?_
  · exact dfz_frame (S:= R2) (fun q hq => by simp [(hin2 q hq).2]) m d2 fun _ hq => hq
  · exact fun q hq => (hin2 q hq).1
  intro h2 z2 p2 n2
  have b2 : h2.hp r = some (A ++ .str (mtext (k)) :: .bool (mbool (k + 1)) :: c2 :: B):= (p2 r hrn fun hx => (hin2 r hx).2 rfl).trans (if_pos rfl)
  simp only [go_sem,Nat.reduceBEq,e0,e5,e1,b2]
  first
    | refine ⟨rfl,by rw [hcn],[.str (mtext (k)),.bool (mbool (k + 1)),c2],rfl,rfl,?_,fun q hq hqr hqR => ?_,n2⟩
    | refine ⟨[.str (mtext (k)),.bool (mbool (k + 1)),c2],rfl,rfl,?_,fun q hq hqr hqR => ?_,n2⟩
    | refine ⟨rfl,[.str (mtext (k)),.bool (mbool (k + 1)),c2],rfl,rfl,?_,fun q hq hqr hqR => ?_,n2⟩
  · have hz : dfzL (dfz m h2) [.str (mtext (k)),.bool (mbool (k + 1)),c2] = _:= (dfzL_cons (dfz_str' _) (dfzL_cons (dfz_bool' _) (dfzL_cons z2 rfl)))
    simp only [List.nil_append,List.append_nil] at hz
    exact hz
  · skip
    exact (p2 q hq hqR).trans (by simp [hqr])
theorem mk_laws_markIndexS (cs) (h_laws_markText : (EE cs).T 50 = some C_laws_markText) (m_laws_markByS : MkS (EE cs) 52 (sliceT tBy) (mkL mkE_By cnE_By) (cntL cnE_By)) : MkS (EE cs) 53 (sliceT tIndex) (mkL mkE_Index cnE_Index) (cntL cnE_Index):= mkS_ok (st_laws_markIndexS cs) (by decide) (mb_laws_markIndexS cs h_laws_markText m_laws_markByS)
def mkE_Def (v : TDef) (k : Int) : TDef:= ⟨mtext (k),(mkL mkE_Col cnE_Col) v.fCols (k + 1),(mkL mkE_By cnE_By) v.fPrimary (k + 1 + (((cntL cnE_Col) v.fCols : Nat) : Int)),(mkL mkE_Index cnE_Index) v.fIndexes (k + 1 + (((cntL cnE_Col) v.fCols : Nat) : Int) + (((cntL cnE_By) v.fPrimary : Nat) : Int))⟩
def cnE_Def (v : TDef) : Nat:= 1 + (cntL cnE_Col) v.fCols + (cntL cnE_By) v.fPrimary + (cntL cnE_Index) v.fIndexes
theorem mi_Def : MkI mkE_Def cnE_Def:= fun v k => by
  constructor
  · simp only [mkE_Def,((mkL_idem mi_Col) _ _).1,((mkL_idem mi_Col) _ _).2,((mkL_idem mi_By) _ _).1,((mkL_idem mi_By) _ _).2,((mkL_idem mi_Index) _ _).1]
  · simp only [mkE_Def,cnE_Def,((mkL_idem mi_Col) _ _).2,((mkL_idem mi_By) _ _).2,((mkL_idem mi_Index) _ _).2]
theorem mf_Def : MkF tDef mkE_Def cnE_Def:= fun v k hf h0 h1 => by
  unfold cnE_Def at h1
  exact ⟨mtext_len (k) (by omega) (by omega),(mkL_fits mf_Col) v.fCols (k + 1) (by exact hf.2.1) (by omega) (by omega),(mkL_fits mf_By) v.fPrimary (k + 1 + (((cntL cnE_Col) v.fCols : Nat) : Int)) (by exact hf.2.2.1) (by omega) (by omega),(mkL_fits mf_Index) v.fIndexes (k + 1 + (((cntL cnE_Col) v.fCols : Nat) : Int) + (((cntL cnE_By) v.fPrimary : Nat) : Int)) (by exact hf.2.2.2) (by omega) (by omega)⟩
theorem cb_Def (v : TDef) : cnE_Def v ≤ 10 * (1 + tDef.cost v):= by
  have hcost : tDef.cost v = v.fName.length + (sliceT tCol).cost v.fCols + (sliceT tBy).cost v.fPrimary + (sliceT tIndex).cost v.fIndexes:= rfl
  have q_Cols:= cntL_le (T:= tCol) cb_Col v.fCols
  have q_Primary:= cntL_le (T:= tBy) cb_By v.fPrimary
  have q_Indexes:= cntL_le (T:= tIndex) cb_Index v.fIndexes
  unfold cnE_Def
  omega
theorem mb_laws_markDefS (cs) (h_laws_markText : (EE cs).T 50 = some C_laws_markText) (m_laws_markColS : MkS (EE cs) 51 (sliceT tCol) (mkL mkE_Col cnE_Col) (cntL cnE_Col)) (m_laws_markByS : MkS (EE cs) 52 (sliceT tBy) (mkL mkE_By cnE_By) (cntL cnE_By)) (m_laws_markIndexS : MkS (EE cs) 53 (sliceT tIndex) (mkL mkE_Index cnE_Index) (cntL cnE_Index)) : MkB (EE cs) b_laws_markDefS tDef mkE_Def cnE_Def:= by
  intro m e h r len i k A c B v R e0 e5 e1 hr hA hi hc hd hnd hrR hlt hrn hf hk hk2
  obtain ⟨c0,c1,c2,c3,rfl⟩:= len4 hc
  replace e0 : e 0 = .sl r 0 len 4:= e0
  replace hA : A.length = i * 4:= hA
  replace hr : h.hp r = some (A ++ c0 :: c1 :: c2 :: c3 :: B):= hr
  replace hd : dfzL (dfz m h) [c0,c1,c2,c3] = some ([.str v.fName,.imm (v.fCols.map TCol.row),.imm (v.fPrimary.map TBy.row),.imm (v.fIndexes.map TIndex.row)],R):= hd
  obtain ⟨R0,S0,d0,hd0,rfl⟩:= dfzL_cons_inv hd
  obtain ⟨rfl,rfl⟩:= dfz_str d0
  obtain ⟨R1,S1,d1,hd1,rfl⟩:= dfzL_cons_inv hd0
  obtain ⟨R2,S2,d2,hd2,rfl⟩:= dfzL_cons_inv hd1
  obtain ⟨R3,S3,d3,hd3,rfl⟩:= dfzL_cons_inv hd2
  obtain ⟨_,rfl⟩:= dfzL_nil_inv hd3
  simp only [List.nil_append,List.append_nil] at hnd hrR hlt ⊢
  unfold cnE_Def at hk2
  have hcn : k + ((cnE_Def v : Nat) : Int) = k + 1 + (((cntL cnE_Col) v.fCols : Nat) : Int) + (((cntL cnE_By) v.fPrimary : Nat) : Int) + (((cntL cnE_Index) v.fIndexes : Nat) : Int):= by unfold cnE_Def;omega
  have w0 : IntKind.wrap .i64 (k + 1) = k + 1:= wrapId (by omega) (by omega)
  have x0:= C_laws_markText_eq (k) (by omega)
  have ia:= fun h => kIa_mid (r:= r) (h:= h) hA hi
  have dl : decide ((i : Int) < (len : Int)) = true:= decide_eq_true (by omega)
  have hin : (∀ q ∈ R1,q < h.nx ∧ q ≠ r) ∧ (∀ q ∈ R2,q < h.nx ∧ q ≠ r) ∧ (∀ q ∈ R3,q < h.nx ∧ q ≠ r):= by
    exact ⟨fun q hq => ⟨hlt q (List.mem_append.2 (.inl hq)),fun e => hrR (e ▸ (List.mem_append.2 (.inl hq)))⟩,fun q hq => ⟨hlt q (List.mem_append.2 (.inr (List.mem_append.2 (.inl hq)))),fun e => hrR (e ▸ (List.mem_append.2 (.inr (List.mem_append.2 (.inl hq)))))⟩,fun q hq => ⟨hlt q (List.mem_append.2 (.inr (List.mem_append.2 (.inr hq)))),fun e => hrR (e ▸ (List.mem_append.2 (.inr (List.mem_append.2 (.inr hq)))))⟩⟩
  obtain ⟨hin1,hin2,hin3⟩:= hin
  obtain ⟨nd1,ndr0,dj1⟩:= List.nodup_append.1 hnd
  obtain ⟨nd2,ndr1,dj2⟩:= List.nodup_append.1 ndr0
  have nd3:= ndr1
  simp only [go_sem,kSt_ptr,Nat.reduceBEq,b_laws_markDefS,w0,x0,h_laws_markText,e0,e5,e1,ia,hr]
  refine hP_markC (m:= m) m_laws_markColS (by exact hf.2.1) (by omega) (by omega) (R:= R1) ?_ nd1 ?_ ?_
  · exact dfz_frame (S:= R1) (fun q hq => by simp [(hin1 q hq).2]) m d1 fun _ hq => hq
  · exact fun q hq => (hin1 q hq).1
  intro h1 z1 p1 n1
  have b1 : h1.hp r = some (A ++ .str (mtext (k)) :: c1 :: c2 :: c3 :: B):= (p1 r hrn fun hx => (hin1 r hx).2 rfl).trans (if_pos rfl)
  simp only [go_sem,Nat.reduceBEq,e0,e5,e1,ia,b1]
  refine hP_markC (m:= m) m_laws_markByS (by exact hf.2.2.1) (by omega) (by omega) (R:= R2) ?_ nd2 ?_ ?_
  · refine dfz_frame (S:= R2) (fun q hq => ?_) m d2 fun _ hq => hq
    exact (p1 q (hin2 q hq).1 (fun hx => dj1 q hx q (List.mem_append.2 (.inl hq)) rfl)).trans (by simp [(hin2 q hq).2])
  · exact fun q hq => Nat.lt_of_lt_of_le (hin2 q hq).1 n1
  intro h2 z2 p2 n2
  have b2 : h2.hp r = some (A ++ .str (mtext (k)) :: c1 :: c2 :: c3 :: B):= (p2 r (Nat.lt_of_lt_of_le hrn n1) fun hx => (hin2 r hx).2 rfl).trans b1
  simp only [go_sem,Nat.reduceBEq,e0,e5,e1,ia,b2]
  refine hP_markC (m:= m) m_laws_markIndexS (by exact hf.2.2.2) (by omega) (by omega) (R:= R3) ?_ nd3 ?_ ?_
  · refine dfz_frame (S:= R3) (fun q hq => ?_) m d3 fun _ hq => hq
    exact ((p2 q (Nat.lt_of_lt_of_le (hin3 q hq).1 n1) (fun hx => dj2 q hx q hq rfl)).trans (p1 q (hin3 q hq).1 (fun hx => dj1 q hx q (List.mem_append.2 (.inr hq)) rfl))).trans (by simp [(hin3 q hq).2])
  · exact fun q hq => Nat.lt_of_lt_of_le (hin3 q hq).1 (Nat.le_trans n1 n2)
  intro h3 z3 p3 n3
  have b3 : h3.hp r = some (A ++ .str (mtext (k)) :: c1 :: c2 :: c3 :: B):= (p3 r (Nat.lt_of_lt_of_le hrn (Nat.le_trans n1 n2)) fun hx => (hin3 r hx).2 rfl).trans b2
  simp only [go_sem,Nat.reduceBEq,e0,e5,e1,b3]
  first
    | refine ⟨rfl,by rw [hcn],[.str (mtext (k)),c1,c2,c3],rfl,rfl,?_,fun q hq hqr hqR => ?_,(Nat.le_trans (Nat.le_trans n1 n2) n3)⟩
    | refine ⟨[.str (mtext (k)),c1,c2,c3],rfl,rfl,?_,fun q hq hqr hqR => ?_,(Nat.le_trans (Nat.le_trans n1 n2) n3)⟩
    | refine ⟨rfl,[.str (mtext (k)),c1,c2,c3],rfl,rfl,?_,fun q hq hqr hqR => ?_,(Nat.le_trans (Nat.le_trans n1 n2) n3)⟩
  · have hz : dfzL (dfz m h3) [.str (mtext (k)),c1,c2,c3] = _:= (dfzL_cons (dfz_str' _) (dfzL_cons (dfz_frame (S:= R1) (fun q hq => (p3 q (Nat.lt_of_lt_of_le (hin1 q hq).1 (Nat.le_trans n1 n2)) (fun hx => dj1 q hq q (List.mem_append.2 (.inr hx)) rfl)).trans (p2 q (Nat.lt_of_lt_of_le (hin1 q hq).1 n1) (fun hx => dj1 q hq q (List.mem_append.2 (.inl hx)) rfl))) m z1 fun _ hq => hq) (dfzL_cons (dfz_frame (S:= R2) (fun q hq => p3 q (Nat.lt_of_lt_of_le (hin2 q hq).1 (Nat.le_trans n1 n2)) (fun hx => dj2 q hq q hx rfl)) m z2 fun _ hq => hq) (dfzL_cons z3 rfl))))
    simp only [List.nil_append,List.append_nil] at hz
    exact hz
  · simp only [List.mem_append,not_or] at hqR
    exact (((p3 q (Nat.lt_of_lt_of_le hq (Nat.le_trans n1 n2)) hqR.2.2).trans (p2 q (Nat.lt_of_lt_of_le hq n1) hqR.2.1)).trans (p1 q hq hqR.1)).trans (by simp [hqr])
theorem mk_laws_markDefS (cs) (h_laws_markText : (EE cs).T 50 = some C_laws_markText) (m_laws_markColS : MkS (EE cs) 51 (sliceT tCol) (mkL mkE_Col cnE_Col) (cntL cnE_Col)) (m_laws_markByS : MkS (EE cs) 52 (sliceT tBy) (mkL mkE_By cnE_By) (cntL cnE_By)) (m_laws_markIndexS : MkS (EE cs) 53 (sliceT tIndex) (mkL mkE_Index cnE_Index) (cntL cnE_Index)) : MkS (EE cs) 23 (sliceT tDef) (mkL mkE_Def cnE_Def) (cntL cnE_Def):= mkS_ok (st_laws_markDefS cs) (by decide) (mb_laws_markDefS cs h_laws_markText m_laws_markColS m_laws_markByS m_laws_markIndexS)
theorem mb_laws_markByteS (cs)  : MkB (EE cs) b_laws_markByteS u8T mkE_byte cnE_byte:= by
  intro m e h r len i k A c B v R e0 e5 e1 hr hA hi hc hd hnd hrR hlt hrn hf hk hk2
  obtain ⟨c0,rfl⟩:= len1 hc
  replace e0 : e 0 = .sl r 0 len 1:= e0
  replace hA : A.length = i * 1:= hA
  replace hr : h.hp r = some (A ++ c0 :: B):= hr
  replace hd : dfzL (dfz m h) [c0] = some ([.int .u8 (v).toNat],R):= hd
  obtain ⟨R0,S0,d0,hd0,rfl⟩:= dfzL_cons_inv hd
  obtain ⟨rfl,rfl⟩:= dfz_int d0
  obtain ⟨_,rfl⟩:= dfzL_nil_inv hd0
  simp only [List.append_nil] at hnd hrR hlt ⊢
  unfold cnE_byte at hk2
  have hcn : k + ((cnE_byte v : Nat) : Int) = k + 1:= by unfold cnE_byte;omega
  have w0 : IntKind.wrap .i64 (k + 1) = k + 1:= wrapId (by omega) (by omega)
  have x0:= u8mark (k) (by omega)
  have ia:= fun h => kIa_mid (r:= r) (h:= h) hA hi
  have dl : decide ((i : Int) < (len : Int)) = true:= decide_eq_true (by omega)
  simp only [go_sem,kSt_ptr,Nat.reduceBEq,b_laws_markByteS,w0,x0,e0,e5,e1,ia,hr]
  refine ⟨rfl,by rw [hcn],[.int .u8 ((mbyte (k)).toNat : Int)],rfl,rfl,?_,fun q hq hqr _ => by simp [hqr]⟩
  exact dfzL_leafs fun c hc => by
    simp only [List.mem_cons,List.not_mem_nil,or_false] at hc
    subst hc
    rfl
theorem mk_laws_markByteS (cs)  : MkS (EE cs) 127 (sliceT u8T) (mkL mkE_byte cnE_byte) (cntL cnE_byte):= mkS_ok (st_laws_markByteS cs) (by decide) (mb_laws_markByteS cs)
theorem mb_laws_markByteSS (cs) (m_laws_markByteS : MkS (EE cs) 127 (sliceT u8T) (mkL mkE_byte cnE_byte) (cntL cnE_byte)) : MkB (EE cs) b_laws_markByteSS (sliceT u8T) (mkL mkE_byte cnE_byte) (cntL cnE_byte):= by
  intro m e h r len i k A c B v R e0 e5 e1 hr hA hi hc hd hnd hrR hlt hrn hf hk hk2
  obtain ⟨c0,rfl⟩:= len1 hc
  replace e0 : e 0 = .sl r 0 len 1:= e0
  replace hA : A.length = i * 1:= hA
  replace hr : h.hp r = some (A ++ c0 :: B):= hr
  replace hd : dfzL (dfz m h) [c0] = some ([.imm (v.map u8T.row)],R):= hd
  obtain ⟨R0,S0,d0,hd0,rfl⟩:= dfzL_cons_inv hd
  obtain ⟨_,rfl⟩:= dfzL_nil_inv hd0
  simp only [List.append_nil] at hnd hrR hlt ⊢
  have hcn : k + (((cntL cnE_byte) v : Nat) : Int) = k + (((cntL cnE_byte) v : Nat) : Int):= rfl
  have ia:= fun h => kIa_mid (r:= r) (h:= h) hA hi
  have dl : decide ((i : Int) < (len : Int)) = true:= decide_eq_true (by omega)
  have hin : (∀ q ∈ R0,q < h.nx ∧ q ≠ r):= by
    exact fun q hq => ⟨hlt q hq,fun e => hrR (e ▸ hq)⟩
  have hin0:= hin
  have nd0:= hnd
  simp only [go_sem,Nat.reduceBEq,b_laws_markByteSS,e0,e5,e1,ia,hr]
  refine hP_markC (m:= m) m_laws_markByteS (by exact hf) (by omega) (by omega) (R:= R0) ?_ nd0 ?_ ?_
  · exact dfz_frame (S:= R0) (fun q hq => rfl) m d0 fun _ hq => hq
  · exact fun q hq => (hin0 q hq).1
  intro h0 z0 p0 n0
  have b0 : h0.hp r = some (A ++ c0 :: B):= (p0 r hrn fun hx => (hin0 r hx).2 rfl).trans (hr)
  simp only [go_sem,Nat.reduceBEq,e0,e5,e1,b0]
  first
    | refine ⟨rfl,by rw [hcn],[c0],rfl,rfl,?_,fun q hq hqr hqR => ?_,n0⟩
    | refine ⟨[c0],rfl,rfl,?_,fun q hq hqr hqR => ?_,n0⟩
    | refine ⟨rfl,[c0],rfl,rfl,?_,fun q hq hqr hqR => ?_,n0⟩
  · have hz : dfzL (dfz m h0) [c0] = _:= (dfzL_cons z0 rfl)
    simp only [List.append_nil] at hz
    exact hz
  · skip
    exact (p0 q hq hqR).trans (rfl)
theorem mk_laws_markByteSS (cs) (m_laws_markByteS : MkS (EE cs) 127 (sliceT u8T) (mkL mkE_byte cnE_byte) (cntL cnE_byte)) : MkS (EE cs) 72 (sliceT (sliceT u8T)) (mkL (mkL mkE_byte cnE_byte) (cntL cnE_byte)) (cntL (cntL cnE_byte)):= mkS_ok (st_laws_markByteSS cs) (by decide) (mb_laws_markByteSS cs m_laws_markByteS)
end Go.Proofs.YtpolhafmapekpaaGreatDoor.En
namespace Go.Proofs.YtpolhafmapekpaaGreatDoor.En
open Go Go.RowKit Go.Ev
set_option maxHeartbeats 1600000
def mkE_Write (v : TWrite) (k : Int) : TWrite:= ⟨k,(mkL mkE_byte cnE_byte) v.fB (k + 1)⟩
def cnE_Write (v : TWrite) : Nat:= 1 + (cntL cnE_byte) v.fB
theorem mi_Write : MkI mkE_Write cnE_Write:= fun v k => by
  constructor
  · simp only [mkE_Write,((mkL_idem mi_byte) _ _).1]
  · simp only [mkE_Write,cnE_Write,((mkL_idem mi_byte) _ _).2]
theorem mf_Write : MkF tWrite mkE_Write cnE_Write:= fun v k hf h0 h1 => by
  unfold cnE_Write at h1
  exact (mkL_fits mf_byte) v.fB (k + 1) (by exact hf) (by omega) (by omega)
theorem cb_Write (v : TWrite) : cnE_Write v ≤ 10 * (1 + tWrite.cost v):= by
  have hcost : tWrite.cost v = (sliceT u8T).cost v.fB:= rfl
  have q_B:= cntL_le (T:= u8T) cb_byte v.fB
  unfold cnE_Write
  omega
theorem mb_laws_markWriteS (cs) (m_laws_markByteS : MkS (EE cs) 127 (sliceT u8T) (mkL mkE_byte cnE_byte) (cntL cnE_byte)) : MkB (EE cs) b_laws_markWriteS tWrite mkE_Write cnE_Write:= by
  intro m e h r len i k A c B v R e0 e5 e1 hr hA hi hc hd hnd hrR hlt hrn hf hk hk2
  obtain ⟨c0,c1,rfl⟩:= len2 hc
  replace e0 : e 0 = .sl r 0 len 2:= e0
  replace hA : A.length = i * 2:= hA
  replace hr : h.hp r = some (A ++ c0 :: c1 :: B):= hr
  replace hd : dfzL (dfz m h) [c0,c1] = some ([.int .i64 v.fN,.imm (v.fB.map u8T.row)],R):= hd
  obtain ⟨R0,S0,d0,hd0,rfl⟩:= dfzL_cons_inv hd
  obtain ⟨rfl,rfl⟩:= dfz_int d0
  obtain ⟨R1,S1,d1,hd1,rfl⟩:= dfzL_cons_inv hd0
  obtain ⟨_,rfl⟩:= dfzL_nil_inv hd1
  simp only [List.nil_append,List.append_nil] at hnd hrR hlt ⊢
  unfold cnE_Write at hk2
  have hcn : k + ((cnE_Write v : Nat) : Int) = k + 1 + (((cntL cnE_byte) v.fB : Nat) : Int):= by unfold cnE_Write;omega
  have w0 : IntKind.wrap .i64 (k + 1) = k + 1:= wrapId (by omega) (by omega)
  have ia:= fun h => kIa_mid (r:= r) (h:= h) hA hi
  have dl : decide ((i : Int) < (len : Int)) = true:= decide_eq_true (by omega)
  have hin : (∀ q ∈ R1,q < h.nx ∧ q ≠ r):= by
    exact fun q hq => ⟨hlt q hq,fun e => hrR (e ▸ hq)⟩
  have hin1:= hin
  have nd1:= hnd
  simp only [go_sem,kSt_ptr,Nat.reduceBEq,b_laws_markWriteS,w0,e0,e5,e1,ia,hr]
  refine hP_markC (m:= m) m_laws_markByteS (by exact hf) (by omega) (by omega) (R:= R1) ?_ nd1 ?_ ?_
  · exact dfz_frame (S:= R1) (fun q hq => by simp [(hin1 q hq).2]) m d1 fun _ hq => hq
  · exact fun q hq => (hin1 q hq).1
  intro h1 z1 p1 n1
  have b1 : h1.hp r = some (A ++ .int .i64 (k) :: c1 :: B):= (p1 r hrn fun hx => (hin1 r hx).2 rfl).trans (if_pos rfl)
  simp only [go_sem,Nat.reduceBEq,e0,e5,e1,b1]
  first
    | refine ⟨rfl,by rw [hcn],[.int .i64 (k),c1],rfl,rfl,?_,fun q hq hqr hqR => ?_,n1⟩
    | refine ⟨[.int .i64 (k),c1],rfl,rfl,?_,fun q hq hqr hqR => ?_,n1⟩
    | refine ⟨rfl,[.int .i64 (k),c1],rfl,rfl,?_,fun q hq hqr hqR => ?_,n1⟩
  · have hz : dfzL (dfz m h1) [.int .i64 (k),c1] = _:= (dfzL_cons (dfz_int' _ _) (dfzL_cons z1 rfl))
    simp only [List.nil_append,List.append_nil] at hz
    exact hz
  · skip
    exact (p1 q hq hqR).trans (by simp [hqr])
theorem mk_laws_markWriteS (cs) (m_laws_markByteS : MkS (EE cs) 127 (sliceT u8T) (mkL mkE_byte cnE_byte) (cntL cnE_byte)) : MkS (EE cs) 73 (sliceT tWrite) (mkL mkE_Write cnE_Write) (cntL cnE_Write):= mkS_ok (st_laws_markWriteS cs) (by decide) (mb_laws_markWriteS cs m_laws_markByteS)
def mkV_Disk (v : TDisk) (k : Int) : TDisk:= ⟨(mkL (mkL mkE_byte cnE_byte) (cntL cnE_byte)) v.fSecs (k),(mkL mkE_Write cnE_Write) v.fCache (k + (((cntL (cntL cnE_byte)) v.fSecs : Nat) : Int)),v.fOps,(mkL mkE_Fault cnE_Fault) v.fFaults (k + (((cntL (cntL cnE_byte)) v.fSecs : Nat) : Int) + (((cntL cnE_Write) v.fCache : Nat) : Int)),v.fDown⟩
def cnV_Disk (v : TDisk) : Nat:= (cntL (cntL cnE_byte)) v.fSecs + (cntL cnE_Write) v.fCache + (cntL cnE_Fault) v.fFaults
theorem miV_Disk : MkI mkV_Disk cnV_Disk:= fun v k => by
  constructor
  · simp only [mkV_Disk,((mkL_idem (mkL_idem mi_byte)) _ _).1,((mkL_idem (mkL_idem mi_byte)) _ _).2,((mkL_idem mi_Write) _ _).1,((mkL_idem mi_Write) _ _).2,((mkL_idem mi_Fault) _ _).1]
  · simp only [mkV_Disk,cnV_Disk,((mkL_idem (mkL_idem mi_byte)) _ _).2,((mkL_idem mi_Write) _ _).2,((mkL_idem mi_Fault) _ _).2]
theorem mfV_Disk : MkF tDisk mkV_Disk cnV_Disk:= fun v k hf h0 h1 => by
  unfold cnV_Disk at h1
  exact ⟨(mkL_fits (mkL_fits mf_byte)) v.fSecs (k) (by exact hf.1) (by omega) (by omega),(mkL_fits mf_Write) v.fCache (k + (((cntL (cntL cnE_byte)) v.fSecs : Nat) : Int)) (by exact hf.2.1) (by omega) (by omega),(mkL_fits mf_Fault) v.fFaults (k + (((cntL (cntL cnE_byte)) v.fSecs : Nat) : Int) + (((cntL cnE_Write) v.fCache : Nat) : Int)) (by exact hf.2.2) (by omega) (by omega)⟩
theorem cbV_Disk (v : TDisk) : cnV_Disk v ≤ 10 * tDisk.cost v:= by
  have hcost : tDisk.cost v = (sliceT (sliceT u8T)).cost v.fSecs + (sliceT tWrite).cost v.fCache + (sliceT tFault).cost v.fFaults:= rfl
  have q_Secs:= cntL_le (T:= (sliceT u8T)) (fun l => Nat.le_trans (cntL_le cb_byte l) (by omega)) v.fSecs
  have q_Cache:= cntL_le (T:= tWrite) cb_Write v.fCache
  have q_Faults:= cntL_le (T:= tFault) cb_Fault v.fFaults
  unfold cnV_Disk
  omega
theorem mk_laws_markDisk (cs) (m_laws_markByteSS : MkS (EE cs) 72 (sliceT (sliceT u8T)) (mkL (mkL mkE_byte cnE_byte) (cntL cnE_byte)) (cntL (cntL cnE_byte))) (m_laws_markWriteS : MkS (EE cs) 73 (sliceT tWrite) (mkL mkE_Write cnE_Write) (cntL cnE_Write)) (m_laws_markFaultS : MkS (EE cs) 11 (sliceT tFault) (mkL mkE_Fault cnE_Fault) (cntL cnE_Fault)) : MkS (EE cs) 36 tDisk mkV_Disk cnV_Disk:= by
  intro n v k x R h hf hk hk2 hd hnd hlt
  obtain ⟨cs0,rfl,hd1⟩:= dfzT_agg_inv (ts:= v.row) hd
  obtain ⟨c0,c1,c2,c3,c4,rfl⟩:= len5 (dfzL_spec hd1).symm
  replace hd : dfzL (dfz n h) [c0,c1,c2,c3,c4] = some ([.imm (v.fSecs.map (sliceT u8T).row),.imm (v.fCache.map TWrite.row),.int .i64 v.fOps,.imm (v.fFaults.map TFault.row),.bool v.fDown],R):= hd1
  obtain ⟨R0,S0,d0,hd_0,rfl⟩:= dfzL_cons_inv hd
  have D0 : dfzT n h c0 = some ((sliceT (sliceT u8T)).enc v.fSecs,R0):= dfzT_cell d0
  obtain ⟨R1,S1,d1,hd_1,rfl⟩:= dfzL_cons_inv hd_0
  have D1 : dfzT n h c1 = some ((sliceT tWrite).enc v.fCache,R1):= dfzT_cell d1
  obtain ⟨R2,S2,d2,hd_2,rfl⟩:= dfzL_cons_inv hd_1
  obtain ⟨rfl,rfl⟩:= dfz_int d2
  obtain ⟨R3,S3,d3,hd_3,rfl⟩:= dfzL_cons_inv hd_2
  have D3 : dfzT n h c3 = some ((sliceT tFault).enc v.fFaults,R3):= dfzT_cell d3
  obtain ⟨R4,S4,d4,hd_4,rfl⟩:= dfzL_cons_inv hd_3
  obtain ⟨rfl,rfl⟩:= dfz_bool d4
  obtain ⟨_,rfl⟩:= dfzL_nil_inv hd_4
  simp only [List.nil_append,List.append_nil] at hnd hlt ⊢
  unfold cnV_Disk at hk2
  have hcn : k + ((cnV_Disk v : Nat) : Int) = k + (((cntL (cntL cnE_byte)) v.fSecs : Nat) : Int) + (((cntL cnE_Write) v.fCache : Nat) : Int) + (((cntL cnE_Fault) v.fFaults : Nat) : Int):= by unfold cnV_Disk;omega
  have in0 : ∀ q ∈ R0,q < h.nx:= fun q hq => hlt q (List.mem_append.2 (.inl hq))
  have in1 : ∀ q ∈ R1,q < h.nx:= fun q hq => hlt q (List.mem_append.2 (.inr (List.mem_append.2 (.inl hq))))
  have in3 : ∀ q ∈ R3,q < h.nx:= fun q hq => hlt q (List.mem_append.2 (.inr (List.mem_append.2 (.inr hq))))
  obtain ⟨nd0,ndr0,dj0⟩:= List.nodup_append.1 hnd
  obtain ⟨nd1,ndr1,dj1⟩:= List.nodup_append.1 ndr0
  have nd3:= ndr1
  have ap0_1 : ∀ q,q ∈ R0 → q ∈ R1 → False:= fun q hx hq => dj0 q hx q (List.mem_append.2 (.inl hq)) rfl
  have ap1_0 : ∀ q,q ∈ R1 → q ∈ R0 → False:= fun q h1 h2 => ap0_1 q h2 h1
  have ap0_3 : ∀ q,q ∈ R0 → q ∈ R3 → False:= fun q hx hq => dj0 q hx q (List.mem_append.2 (.inr hq)) rfl
  have ap3_0 : ∀ q,q ∈ R3 → q ∈ R0 → False:= fun q h1 h2 => ap0_3 q h2 h1
  have ap1_3 : ∀ q,q ∈ R1 → q ∈ R3 → False:= fun q hx hq => dj1 q hx q hq rfl
  have ap3_1 : ∀ q,q ∈ R3 → q ∈ R1 → False:= fun q h1 h2 => ap1_3 q h2 h1
  have key : ∃ rr,RunF (EE cs) 36 [.agg [c0,c1,.int .i64 v.fOps,c3,.bool v.fDown],.int .i64 k] h rr ∧ ∃ h',rr = (.int .i64 (k + ((cnV_Disk v : Nat) : Int)),h') ∧ dfzL (dfz n h') [c0,c1,.int .i64 v.fOps,c3,.bool v.fDown] = some ((mkV_Disk v k).row,R0 ++ (R1 ++ (R3))) ∧ (∀ q,q < h.nx → q ∉ (R0 ++ (R1 ++ (R3))) → h'.hp q = h.hp q) ∧ h.nx ≤ h'.nx:= by
    refine run_wp (st_laws_markDisk cs) ?_
    replace D0:= dfzT_frame (h':= h.new [c0,c1,.int .i64 v.fOps,c3,.bool v.fDown]) (S:= R0) (fun q hq => by have:= in0 q hq;simp [Hp.new,show q ≠ h.nx by omega]) D0 fun _ hq => hq
    replace D1:= dfzT_frame (h':= h.new [c0,c1,.int .i64 v.fOps,c3,.bool v.fDown]) (S:= R1) (fun q hq => by have:= in1 q hq;simp [Hp.new,show q ≠ h.nx by omega]) D1 fun _ hq => hq
    replace D3:= dfzT_frame (h':= h.new [c0,c1,.int .i64 v.fOps,c3,.bool v.fDown]) (S:= R3) (fun q hq => by have:= in3 q hq;simp [Hp.new,show q ≠ h.nx by omega]) D3 fun _ hq => hq
    have bx : (h.new [c0,c1,.int .i64 v.fOps,c3,.bool v.fDown]).hp h.nx = some [c0,c1,.int .i64 v.fOps,c3,.bool v.fDown]:= by simp [Hp.new]
    have nx0 : h.nx + 1 ≤ (h.new [c0,c1,.int .i64 v.fOps,c3,.bool v.fDown]).nx:= Nat.le_refl _
    have fr : ∀ q,q < h.nx → (h.new [c0,c1,.int .i64 v.fOps,c3,.bool v.fDown]).hp q = h.hp q:= fun q hq => by simp [Hp.new,show q ≠ h.nx by omega]
    simp only [go_sem,Nat.reduceBEq,s_laws_markDisk]
    refine hP_mark (n:= n) m_laws_markByteSS (by exact hf.1) (by omega) (by omega) (R:= R0) D0 nd0 (fun q hq => Nat.lt_of_lt_of_le (in0 q hq) (by exact Nat.le_succ _)) ?_
    intro h0 z0 p0 n0
    have nx1 : h.nx + 1 ≤ h0.nx:= Nat.le_trans nx0 n0
    replace bx : h0.hp h.nx = some [c0,c1,.int .i64 v.fOps,c3,.bool v.fDown]:= (p0 h.nx (Nat.lt_of_lt_of_le (Nat.lt_succ_self _) nx0) fun hx => Nat.lt_irrefl _ (in0 _ hx)).trans bx
    replace D0:= z0
    replace D1:= dfzT_frame (h':= h0) (S:= R1) (fun q hq => p0 q (Nat.lt_of_lt_of_le (in1 q hq) (by exact Nat.le_succ _)) fun hx => ap1_0 q hq hx) D1 fun _ hq => hq
    replace D3:= dfzT_frame (h':= h0) (S:= R3) (fun q hq => p0 q (Nat.lt_of_lt_of_le (in3 q hq) (by exact Nat.le_succ _)) fun hx => ap3_0 q hq hx) D3 fun _ hq => hq
    simp only [go_sem,Nat.reduceBEq,Nat.reduceAdd,Nat.reduceLeDiff,bx]
    refine hP_mark (n:= n) m_laws_markWriteS (by exact hf.2.1) (by omega) (by omega) (R:= R1) D1 nd1 (fun q hq => Nat.lt_of_lt_of_le (in1 q hq) (by omega)) ?_
    intro h1 z1 p1 n1
    have nx2 : h.nx + 1 ≤ h1.nx:= Nat.le_trans nx1 n1
    replace bx : h1.hp h.nx = some [c0,c1,.int .i64 v.fOps,c3,.bool v.fDown]:= (p1 h.nx (Nat.lt_of_lt_of_le (Nat.lt_succ_self _) nx1) fun hx => Nat.lt_irrefl _ (in1 _ hx)).trans bx
    replace D0:= dfzT_frame (h':= h1) (S:= R0) (fun q hq => p1 q (Nat.lt_of_lt_of_le (in0 q hq) (by omega)) fun hx => ap0_1 q hq hx) D0 fun _ hq => hq
    replace D1:= z1
    replace D3:= dfzT_frame (h':= h1) (S:= R3) (fun q hq => p1 q (Nat.lt_of_lt_of_le (in3 q hq) (by omega)) fun hx => ap3_1 q hq hx) D3 fun _ hq => hq
    simp only [go_sem,Nat.reduceBEq,Nat.reduceAdd,Nat.reduceLeDiff,bx]
    refine hP_mark (n:= n) m_laws_markFaultS (by exact hf.2.2) (by omega) (by omega) (R:= R3) D3 nd3 (fun q hq => Nat.lt_of_lt_of_le (in3 q hq) (by omega)) ?_
    intro h3 z3 p3 n3
    have nx4 : h.nx + 1 ≤ h3.nx:= Nat.le_trans nx2 n3
    replace bx : h3.hp h.nx = some [c0,c1,.int .i64 v.fOps,c3,.bool v.fDown]:= (p3 h.nx (Nat.lt_of_lt_of_le (Nat.lt_succ_self _) nx2) fun hx => Nat.lt_irrefl _ (in3 _ hx)).trans bx
    replace D0:= dfzT_frame (h':= h3) (S:= R0) (fun q hq => p3 q (Nat.lt_of_lt_of_le (in0 q hq) (by omega)) fun hx => ap0_3 q hq hx) D0 fun _ hq => hq
    replace D1:= dfzT_frame (h':= h3) (S:= R1) (fun q hq => p3 q (Nat.lt_of_lt_of_le (in1 q hq) (by omega)) fun hx => ap1_3 q hq hx) D1 fun _ hq => hq
    replace D3:= z3
    simp only [go_sem,Nat.reduceBEq]
    refine ⟨fun i e => (by cases e),_,rfl,h3,by rw [hcn],?_,fun q hq hqR => ?_,by omega⟩
    · have hz : dfzL (dfz n h3) [c0,c1,.int .i64 v.fOps,c3,.bool v.fDown] = _:= (dfzL_cons (dfzT_cell_inv D0) (dfzL_cons (dfzT_cell_inv D1) (dfzL_cons (dfz_int' _ _) (dfzL_cons (dfzT_cell_inv D3) (dfzL_cons (dfz_bool' _) rfl)))))
      simp only [List.nil_append,List.append_nil] at hz
      exact hz
    · simp only [List.mem_append,not_or] at hqR
      exact (((p3 q (by omega) hqR.2.2).trans (p1 q (by omega) hqR.2.1)).trans (p0 q (by show q < h.nx + 1;omega) hqR.1)).trans (fr q hq)
  obtain ⟨rr,h1,h',rfl,z,p,nn⟩:= key
  exact ⟨h',h1,dfzT_agg z,p,nn⟩
def mkV_Eng (v : TEng) (k : Int) : TEng:= ⟨(mkL mkE_Def cnE_Def) v.fS (k),mkV_Disk v.fD (k + (((cntL cnE_Def) v.fS : Nat) : Int))⟩
def cnV_Eng (v : TEng) : Nat:= (cntL cnE_Def) v.fS + cnV_Disk v.fD
theorem miV_Eng : MkI mkV_Eng cnV_Eng:= fun v k => by
  constructor
  · simp only [mkV_Eng,((mkL_idem mi_Def) _ _).1,((mkL_idem mi_Def) _ _).2,(miV_Disk _ _).1]
  · simp only [mkV_Eng,cnV_Eng,((mkL_idem mi_Def) _ _).2,(miV_Disk _ _).2]
theorem mfV_Eng : MkF tEng mkV_Eng cnV_Eng:= fun v k hf h0 h1 => by
  unfold cnV_Eng at h1
  exact ⟨(mkL_fits mf_Def) v.fS (k) (by exact hf.1) (by omega) (by omega),mfV_Disk v.fD (k + (((cntL cnE_Def) v.fS : Nat) : Int)) (by exact hf.2) (by omega) (by omega)⟩
theorem cbV_Eng (v : TEng) : cnV_Eng v ≤ 10 * tEng.cost v:= by
  have hcost : tEng.cost v = (sliceT tDef).cost v.fS + tDisk.cost v.fD:= rfl
  have q_S:= cntL_le (T:= tDef) cb_Def v.fS
  have q_D:= cbV_Disk v.fD
  unfold cnV_Eng
  omega
theorem mk_laws_markEng (cs) (m_laws_markDefS : MkS (EE cs) 23 (sliceT tDef) (mkL mkE_Def cnE_Def) (cntL cnE_Def)) (m_laws_markDisk : MkS (EE cs) 36 tDisk mkV_Disk cnV_Disk) : MkS (EE cs) 12 tEng mkV_Eng cnV_Eng:= by
  intro n v k x R h hf hk hk2 hd hnd hlt
  obtain ⟨cs0,rfl,hd1⟩:= dfzT_agg_inv (ts:= v.row) hd
  obtain ⟨c0,c1,c2,c3,c4,c5,rfl⟩:= len6 (dfzL_spec hd1).symm
  replace hd : dfzL (dfz n h) [c0,c1,c2,c3,c4,c5] = some ([.imm (v.fS.map TDef.row),.imm (v.fD.fSecs.map (sliceT u8T).row),.imm (v.fD.fCache.map TWrite.row),.int .i64 v.fD.fOps,.imm (v.fD.fFaults.map TFault.row),.bool v.fD.fDown],R):= hd1
  obtain ⟨R0,S0,d0,hd_0,rfl⟩:= dfzL_cons_inv hd
  have D0 : dfzT n h c0 = some ((sliceT tDef).enc v.fS,R0):= dfzT_cell d0
  obtain ⟨us1,R1,ws1,S1,d1,hd_1,e1,rfl⟩:= dfzL_inv (l:= [c1,c2,c3,c4,c5]) (m:= []) hd_0
  obtain ⟨rfl,rfl⟩:= List.append_inj (s₁:= (v.fD).row) (t₁:= []) e1 (by rw [dfzL_spec d1];rfl)
  have D1 : dfzT n h (.agg [c1,c2,c3,c4,c5]) = some (tDisk.enc v.fD,R1):= dfzT_agg d1
  obtain ⟨_,rfl⟩:= dfzL_nil_inv hd_1
  simp only [List.append_nil] at hnd hlt ⊢
  unfold cnV_Eng at hk2
  have hcn : k + ((cnV_Eng v : Nat) : Int) = k + (((cntL cnE_Def) v.fS : Nat) : Int) + ((cnV_Disk v.fD : Nat) : Int):= by unfold cnV_Eng;omega
  have in0 : ∀ q ∈ R0,q < h.nx:= fun q hq => hlt q (List.mem_append.2 (.inl hq))
  have in1 : ∀ q ∈ R1,q < h.nx:= fun q hq => hlt q (List.mem_append.2 (.inr hq))
  obtain ⟨nd0,ndr0,dj0⟩:= List.nodup_append.1 hnd
  have nd1:= ndr0
  have ap0_1 : ∀ q,q ∈ R0 → q ∈ R1 → False:= fun q hx hq => dj0 q hx q hq rfl
  have ap1_0 : ∀ q,q ∈ R1 → q ∈ R0 → False:= fun q h1 h2 => ap0_1 q h2 h1
  have key : ∃ rr,RunF (EE cs) 12 [.agg [c0,c1,c2,c3,c4,c5],.int .i64 k] h rr ∧ ∃ h',rr = (.int .i64 (k + ((cnV_Eng v : Nat) : Int)),h') ∧ dfzL (dfz n h') [c0,c1,c2,c3,c4,c5] = some ((mkV_Eng v k).row,R0 ++ (R1)) ∧ (∀ q,q < h.nx → q ∉ (R0 ++ (R1)) → h'.hp q = h.hp q) ∧ h.nx ≤ h'.nx:= by
    refine run_wp (st_laws_markEng cs) ?_
    replace D0:= dfzT_frame (h':= h.new [c0,c1,c2,c3,c4,c5]) (S:= R0) (fun q hq => by have:= in0 q hq;simp [Hp.new,show q ≠ h.nx by omega]) D0 fun _ hq => hq
    replace D1:= dfzT_frame (h':= h.new [c0,c1,c2,c3,c4,c5]) (S:= R1) (fun q hq => by have:= in1 q hq;simp [Hp.new,show q ≠ h.nx by omega]) D1 fun _ hq => hq
    have bx : (h.new [c0,c1,c2,c3,c4,c5]).hp h.nx = some [c0,c1,c2,c3,c4,c5]:= by simp [Hp.new]
    have nx0 : h.nx + 1 ≤ (h.new [c0,c1,c2,c3,c4,c5]).nx:= Nat.le_refl _
    have fr : ∀ q,q < h.nx → (h.new [c0,c1,c2,c3,c4,c5]).hp q = h.hp q:= fun q hq => by simp [Hp.new,show q ≠ h.nx by omega]
    simp only [go_sem,Nat.reduceBEq,s_laws_markEng]
    refine hP_mark (n:= n) m_laws_markDefS (by exact hf.1) (by omega) (by omega) (R:= R0) D0 nd0 (fun q hq => Nat.lt_of_lt_of_le (in0 q hq) (by exact Nat.le_succ _)) ?_
    intro h0 z0 p0 n0
    have nx1 : h.nx + 1 ≤ h0.nx:= Nat.le_trans nx0 n0
    replace bx : h0.hp h.nx = some [c0,c1,c2,c3,c4,c5]:= (p0 h.nx (Nat.lt_of_lt_of_le (Nat.lt_succ_self _) nx0) fun hx => Nat.lt_irrefl _ (in0 _ hx)).trans bx
    replace D0:= z0
    replace D1:= dfzT_frame (h':= h0) (S:= R1) (fun q hq => p0 q (Nat.lt_of_lt_of_le (in1 q hq) (by exact Nat.le_succ _)) fun hx => ap1_0 q hq hx) D1 fun _ hq => hq
    simp only [go_sem,Nat.reduceBEq,Nat.reduceAdd,Nat.reduceLeDiff,bx]
    refine hP_mark (n:= n) m_laws_markDisk (by exact hf.2) (by omega) (by omega) (R:= R1) D1 nd1 (fun q hq => Nat.lt_of_lt_of_le (in1 q hq) (by omega)) ?_
    intro h1 z1 p1 n1
    have nx2 : h.nx + 1 ≤ h1.nx:= Nat.le_trans nx1 n1
    replace bx : h1.hp h.nx = some [c0,c1,c2,c3,c4,c5]:= (p1 h.nx (Nat.lt_of_lt_of_le (Nat.lt_succ_self _) nx1) fun hx => Nat.lt_irrefl _ (in1 _ hx)).trans bx
    replace D0:= dfzT_frame (h':= h1) (S:= R0) (fun q hq => p1 q (Nat.lt_of_lt_of_le (in0 q hq) (by omega)) fun hx => ap0_1 q hq hx) D0 fun _ hq => hq
    replace D1:= z1
    simp only [go_sem,Nat.reduceBEq]
    refine ⟨fun i e => (by cases e),_,rfl,h1,by rw [hcn],?_,fun q hq hqR => ?_,by omega⟩
    · have hz : dfzL (dfz n h1) [c0,c1,c2,c3,c4,c5] = _:= (dfzL_cons (dfzT_cell_inv D0) (dfzL_app (dfzT_agg_cells D1) rfl))
      simp only [List.append_nil] at hz
      exact hz
    · simp only [List.mem_append,not_or] at hqR
      exact ((p1 q (by omega) hqR.2).trans (p0 q (by show q < h.nx + 1;omega) hqR.1)).trans (fr q hq)
  obtain ⟨rr,h1,h',rfl,z,p,nn⟩:= key
  exact ⟨h',h1,dfzT_agg z,p,nn⟩
end Go.Proofs.YtpolhafmapekpaaGreatDoor.En
namespace Go.Proofs.YtpolhafmapekpaaGreatDoor.En
open Go Go.RowKit Go.Ev
set_option maxHeartbeats 1600000
theorem hb_laws_heldColS (cs) (h_laws_markText : (EE cs).T 50 = some C_laws_markText) : HdB (EE cs) b_laws_heldColS tCol mkE_Col cnE_Col:= by
  intro l pre v rest k e h a e0 e5 e1 hm hf hk hk2
  have g0 : mtext (k) = v.fName:= congrArg TCol.fName hm
  have g1 : k + 1 = v.fType:= congrArg TCol.fType hm
  have g2 : mbool (k + 1 + 1) = v.fNull:= congrArg TCol.fNull hm
  unfold cnE_Col at hk2
  have hcn : k + ((cnE_Col v : Nat) : Int) = k + 1 + 1 + 1:= by unfold cnE_Col;omega
  have w0 : IntKind.wrap .i64 (k + 1) = k + 1:= wrapId (by omega) (by omega)
  have x0:= C_laws_markText_eq (k) (by omega)
  have w1 : IntKind.wrap .i64 (k + 1 + 1) = k + 1 + 1:= wrapId (by omega) (by omega)
  have w2 : IntKind.wrap .i64 (k + 1 + 1 + 1) = k + 1 + 1 + 1:= wrapId (by omega) (by omega)
  simp only [go_sem,Nat.reduceBEq,b_laws_heldColS,e0,e5,e1,a.ia (row:= TCol.row) (sz:= 3) rfl,TCol.row,← g0,← g1,← g2,w0,x0,w1,w2,mb3,krem3,h_laws_markText,hcn]
theorem ok_laws_heldColS {WI : World → Prop} (hs : Stable WI) (cs) (hT : TOK (EE cs) WI) (h_laws_markText : (EE cs).T 50 = some C_laws_markText) : ReadOK Tryz.prog WI 74 (hdC (sliceT tCol) (mkL mkE_Col cnE_Col) (cntL cnE_Col)):= hdS_ok (E:= EE cs) hT hs (st_laws_heldColS cs) (by decide) (hb_laws_heldColS cs h_laws_markText)
theorem hb_laws_heldByS (cs)  : HdB (EE cs) b_laws_heldByS tBy mkE_By cnE_By:= by
  intro l pre v rest k e h a e0 e5 e1 hm hf hk hk2
  have g0 : k = v.fCol:= congrArg TBy.fCol hm
  have g1 : mbool (k + 1) = v.fDesc:= congrArg TBy.fDesc hm
  unfold cnE_By at hk2
  have hcn : k + ((cnE_By v : Nat) : Int) = k + 1 + 1:= by unfold cnE_By;omega
  have w0 : IntKind.wrap .i64 (k + 1) = k + 1:= wrapId (by omega) (by omega)
  have w1 : IntKind.wrap .i64 (k + 1 + 1) = k + 1 + 1:= wrapId (by omega) (by omega)
  simp only [go_sem,Nat.reduceBEq,b_laws_heldByS,e0,e5,e1,a.ia (row:= TBy.row) (sz:= 2) rfl,TBy.row,← g0,← g1,w0,w1,mb3,krem3,hcn]
theorem ok_laws_heldByS {WI : World → Prop} (hs : Stable WI) (cs) (hT : TOK (EE cs) WI)  : ReadOK Tryz.prog WI 75 (hdC (sliceT tBy) (mkL mkE_By cnE_By) (cntL cnE_By)):= hdS_ok (E:= EE cs) hT hs (st_laws_heldByS cs) (by decide) (hb_laws_heldByS cs)
theorem hb_laws_heldIndexS (cs) (h_laws_markText : (EE cs).T 50 = some C_laws_markText) (h_laws_heldByS : (EE cs).T 75 = some (hdC (sliceT tBy) (mkL mkE_By cnE_By) (cntL cnE_By))) : HdB (EE cs) b_laws_heldIndexS tIndex mkE_Index cnE_Index:= by
  intro l pre v rest k e h a e0 e5 e1 hm hf hk hk2
  have g0 : mtext (k) = v.fName:= congrArg TIndex.fName hm
  have g1 : mbool (k + 1) = v.fUnique:= congrArg TIndex.fUnique hm
  have g2 : (mkL mkE_By cnE_By) v.fParts (k + 1 + 1) = v.fParts:= congrArg TIndex.fParts hm
  unfold cnE_Index at hk2
  have hcn : k + ((cnE_Index v : Nat) : Int) = k + 1 + 1 + (((cntL cnE_By) v.fParts : Nat) : Int):= by unfold cnE_Index;omega
  have w0 : IntKind.wrap .i64 (k + 1) = k + 1:= wrapId (by omega) (by omega)
  have x0:= C_laws_markText_eq (k) (by omega)
  have w1 : IntKind.wrap .i64 (k + 1 + 1) = k + 1 + 1:= wrapId (by omega) (by omega)
  have y2 : (hdC (sliceT tBy) (mkL mkE_By cnE_By) (cntL cnE_By)) [.imm (v.fParts.map TBy.row),.int .i64 (k + 1 + 1)] = some (.int .i64 (k + 1 + 1 + (((cntL cnE_By) v.fParts : Nat) : Int))):= hdC_eq _ _ g2 hf.2 (by omega) (by omega)
  have q2 : decide (k + 1 + 1 + (((cntL cnE_By) v.fParts : Nat) : Int) < 0) = false:= decide_eq_false (by omega)
  simp only [go_sem,Nat.reduceBEq,b_laws_heldIndexS,e0,e5,e1,a.ia (row:= TIndex.row) (sz:= 3) rfl,TIndex.row,← g0,← g1,w0,x0,w1,mb3,krem3,h_laws_markText,h_laws_heldByS,y2,q2,hcn]
theorem ok_laws_heldIndexS {WI : World → Prop} (hs : Stable WI) (cs) (hT : TOK (EE cs) WI) (h_laws_markText : (EE cs).T 50 = some C_laws_markText) (h_laws_heldByS : (EE cs).T 75 = some (hdC (sliceT tBy) (mkL mkE_By cnE_By) (cntL cnE_By))) : ReadOK Tryz.prog WI 76 (hdC (sliceT tIndex) (mkL mkE_Index cnE_Index) (cntL cnE_Index)):= hdS_ok (E:= EE cs) hT hs (st_laws_heldIndexS cs) (by decide) (hb_laws_heldIndexS cs h_laws_markText h_laws_heldByS)
theorem hb_laws_heldDefS (cs) (h_laws_markText : (EE cs).T 50 = some C_laws_markText) (h_laws_heldColS : (EE cs).T 74 = some (hdC (sliceT tCol) (mkL mkE_Col cnE_Col) (cntL cnE_Col))) (h_laws_heldByS : (EE cs).T 75 = some (hdC (sliceT tBy) (mkL mkE_By cnE_By) (cntL cnE_By))) (h_laws_heldIndexS : (EE cs).T 76 = some (hdC (sliceT tIndex) (mkL mkE_Index cnE_Index) (cntL cnE_Index))) : HdB (EE cs) b_laws_heldDefS tDef mkE_Def cnE_Def:= by
  intro l pre v rest k e h a e0 e5 e1 hm hf hk hk2
  have g0 : mtext (k) = v.fName:= congrArg TDef.fName hm
  have g1 : (mkL mkE_Col cnE_Col) v.fCols (k + 1) = v.fCols:= congrArg TDef.fCols hm
  have g2 : (mkL mkE_By cnE_By) v.fPrimary (k + 1 + (((cntL cnE_Col) v.fCols : Nat) : Int)) = v.fPrimary:= congrArg TDef.fPrimary hm
  have g3 : (mkL mkE_Index cnE_Index) v.fIndexes (k + 1 + (((cntL cnE_Col) v.fCols : Nat) : Int) + (((cntL cnE_By) v.fPrimary : Nat) : Int)) = v.fIndexes:= congrArg TDef.fIndexes hm
  unfold cnE_Def at hk2
  have hcn : k + ((cnE_Def v : Nat) : Int) = k + 1 + (((cntL cnE_Col) v.fCols : Nat) : Int) + (((cntL cnE_By) v.fPrimary : Nat) : Int) + (((cntL cnE_Index) v.fIndexes : Nat) : Int):= by unfold cnE_Def;omega
  have w0 : IntKind.wrap .i64 (k + 1) = k + 1:= wrapId (by omega) (by omega)
  have x0:= C_laws_markText_eq (k) (by omega)
  have y1 : (hdC (sliceT tCol) (mkL mkE_Col cnE_Col) (cntL cnE_Col)) [.imm (v.fCols.map TCol.row),.int .i64 (k + 1)] = some (.int .i64 (k + 1 + (((cntL cnE_Col) v.fCols : Nat) : Int))):= hdC_eq _ _ g1 hf.2.1 (by omega) (by omega)
  have q1 : decide (k + 1 + (((cntL cnE_Col) v.fCols : Nat) : Int) < 0) = false:= decide_eq_false (by omega)
  have y2 : (hdC (sliceT tBy) (mkL mkE_By cnE_By) (cntL cnE_By)) [.imm (v.fPrimary.map TBy.row),.int .i64 (k + 1 + (((cntL cnE_Col) v.fCols : Nat) : Int))] = some (.int .i64 (k + 1 + (((cntL cnE_Col) v.fCols : Nat) : Int) + (((cntL cnE_By) v.fPrimary : Nat) : Int))):= hdC_eq _ _ g2 hf.2.2.1 (by omega) (by omega)
  have q2 : decide (k + 1 + (((cntL cnE_Col) v.fCols : Nat) : Int) + (((cntL cnE_By) v.fPrimary : Nat) : Int) < 0) = false:= decide_eq_false (by omega)
  have y3 : (hdC (sliceT tIndex) (mkL mkE_Index cnE_Index) (cntL cnE_Index)) [.imm (v.fIndexes.map TIndex.row),.int .i64 (k + 1 + (((cntL cnE_Col) v.fCols : Nat) : Int) + (((cntL cnE_By) v.fPrimary : Nat) : Int))] = some (.int .i64 (k + 1 + (((cntL cnE_Col) v.fCols : Nat) : Int) + (((cntL cnE_By) v.fPrimary : Nat) : Int) + (((cntL cnE_Index) v.fIndexes : Nat) : Int))):= hdC_eq _ _ g3 hf.2.2.2 (by omega) (by omega)
  have q3 : decide (k + 1 + (((cntL cnE_Col) v.fCols : Nat) : Int) + (((cntL cnE_By) v.fPrimary : Nat) : Int) + (((cntL cnE_Index) v.fIndexes : Nat) : Int) < 0) = false:= decide_eq_false (by omega)
  simp only [go_sem,Nat.reduceBEq,b_laws_heldDefS,e0,e5,e1,a.ia (row:= TDef.row) (sz:= 4) rfl,TDef.row,← g0,w0,x0,h_laws_markText,h_laws_heldColS,h_laws_heldByS,h_laws_heldIndexS,y1,q1,y2,q2,y3,q3,hcn]
theorem ok_laws_heldDefS {WI : World → Prop} (hs : Stable WI) (cs) (hT : TOK (EE cs) WI) (h_laws_markText : (EE cs).T 50 = some C_laws_markText) (h_laws_heldColS : (EE cs).T 74 = some (hdC (sliceT tCol) (mkL mkE_Col cnE_Col) (cntL cnE_Col))) (h_laws_heldByS : (EE cs).T 75 = some (hdC (sliceT tBy) (mkL mkE_By cnE_By) (cntL cnE_By))) (h_laws_heldIndexS : (EE cs).T 76 = some (hdC (sliceT tIndex) (mkL mkE_Index cnE_Index) (cntL cnE_Index))) : ReadOK Tryz.prog WI 37 (hdC (sliceT tDef) (mkL mkE_Def cnE_Def) (cntL cnE_Def)):= hdS_ok (E:= EE cs) hT hs (st_laws_heldDefS cs) (by decide) (hb_laws_heldDefS cs h_laws_markText h_laws_heldColS h_laws_heldByS h_laws_heldIndexS)
theorem hb_laws_heldByteS (cs)  : HdB (EE cs) b_laws_heldByteS u8T mkE_byte cnE_byte:= by
  intro l pre v rest k e h a e0 e5 e1 hm hf hk hk2
  have g0 : mbyte (k) = v:= hm
  unfold cnE_byte at hk2
  have hcn : k + ((cnE_byte v : Nat) : Int) = k + 1:= by unfold cnE_byte;omega
  have w0 : IntKind.wrap .i64 (k + 1) = k + 1:= wrapId (by omega) (by omega)
  have x0:= u8mark (k) (by omega)
  simp only [go_sem,Nat.reduceBEq,b_laws_heldByteS,e0,e5,e1,a.ia (row:= u8T.row) (sz:= 1) rfl,u8T_row,← g0,w0,x0]
  all_goals rfl
theorem ok_laws_heldByteS {WI : World → Prop} (hs : Stable WI) (cs) (hT : TOK (EE cs) WI)  : ReadOK Tryz.prog WI 128 (hdC (sliceT u8T) (mkL mkE_byte cnE_byte) (cntL cnE_byte)):= hdS_ok (E:= EE cs) hT hs (st_laws_heldByteS cs) (by decide) (hb_laws_heldByteS cs)
theorem hb_laws_heldByteSS (cs) (h_laws_heldByteS : (EE cs).T 128 = some (hdC (sliceT u8T) (mkL mkE_byte cnE_byte) (cntL cnE_byte))) : HdB (EE cs) b_laws_heldByteSS (sliceT u8T) (mkL mkE_byte cnE_byte) (cntL cnE_byte):= by
  intro l pre v rest k e h a e0 e5 e1 hm hf hk hk2
  have g0 : (mkL mkE_byte cnE_byte) v (k) = v:= hm
  have hcn : k + (((cntL cnE_byte) v : Nat) : Int) = k + (((cntL cnE_byte) v : Nat) : Int):= rfl
  have y0 : (hdC (sliceT u8T) (mkL mkE_byte cnE_byte) (cntL cnE_byte)) [.imm (v.map u8T.row),.int .i64 (k)] = some (.int .i64 (k + (((cntL cnE_byte) v : Nat) : Int))):= hdC_eq _ _ g0 hf (by omega) (by omega)
  have q0 : decide (k + (((cntL cnE_byte) v : Nat) : Int) < 0) = false:= decide_eq_false (by omega)
  simp only [go_sem,Nat.reduceBEq,b_laws_heldByteSS,e0,e5,e1,a.ia (row:= (sliceT u8T).row) (sz:= 1) rfl,sliceT_row,h_laws_heldByteS,y0,q0]
  all_goals rfl
theorem ok_laws_heldByteSS {WI : World → Prop} (hs : Stable WI) (cs) (hT : TOK (EE cs) WI) (h_laws_heldByteS : (EE cs).T 128 = some (hdC (sliceT u8T) (mkL mkE_byte cnE_byte) (cntL cnE_byte))) : ReadOK Tryz.prog WI 77 (hdC (sliceT (sliceT u8T)) (mkL (mkL mkE_byte cnE_byte) (cntL cnE_byte)) (cntL (cntL cnE_byte))):= hdS_ok (E:= EE cs) hT hs (st_laws_heldByteSS cs) (by decide) (hb_laws_heldByteSS cs h_laws_heldByteS)
theorem hb_laws_heldWriteS (cs) (h_laws_heldByteS : (EE cs).T 128 = some (hdC (sliceT u8T) (mkL mkE_byte cnE_byte) (cntL cnE_byte))) : HdB (EE cs) b_laws_heldWriteS tWrite mkE_Write cnE_Write:= by
  intro l pre v rest k e h a e0 e5 e1 hm hf hk hk2
  have g0 : k = v.fN:= congrArg TWrite.fN hm
  have g1 : (mkL mkE_byte cnE_byte) v.fB (k + 1) = v.fB:= congrArg TWrite.fB hm
  unfold cnE_Write at hk2
  have hcn : k + ((cnE_Write v : Nat) : Int) = k + 1 + (((cntL cnE_byte) v.fB : Nat) : Int):= by unfold cnE_Write;omega
  have w0 : IntKind.wrap .i64 (k + 1) = k + 1:= wrapId (by omega) (by omega)
  have y1 : (hdC (sliceT u8T) (mkL mkE_byte cnE_byte) (cntL cnE_byte)) [.imm (v.fB.map u8T.row),.int .i64 (k + 1)] = some (.int .i64 (k + 1 + (((cntL cnE_byte) v.fB : Nat) : Int))):= hdC_eq _ _ g1 hf (by omega) (by omega)
  have q1 : decide (k + 1 + (((cntL cnE_byte) v.fB : Nat) : Int) < 0) = false:= decide_eq_false (by omega)
  simp only [go_sem,Nat.reduceBEq,b_laws_heldWriteS,e0,e5,e1,a.ia (row:= TWrite.row) (sz:= 2) rfl,TWrite.row,← g0,w0,h_laws_heldByteS,y1,q1,hcn]
theorem ok_laws_heldWriteS {WI : World → Prop} (hs : Stable WI) (cs) (hT : TOK (EE cs) WI) (h_laws_heldByteS : (EE cs).T 128 = some (hdC (sliceT u8T) (mkL mkE_byte cnE_byte) (cntL cnE_byte))) : ReadOK Tryz.prog WI 78 (hdC (sliceT tWrite) (mkL mkE_Write cnE_Write) (cntL cnE_Write)):= hdS_ok (E:= EE cs) hT hs (st_laws_heldWriteS cs) (by decide) (hb_laws_heldWriteS cs h_laws_heldByteS)
theorem hb_laws_heldFaultS (cs)  : HdB (EE cs) b_laws_heldFaultS tFault mkE_Fault cnE_Fault:= by
  intro l pre v rest k e h a e0 e5 e1 hm hf hk hk2
  have g0 : k = v.fAt:= congrArg TFault.fAt hm
  have g1 : k + 1 = v.fKeep:= congrArg TFault.fKeep hm
  have g2 : k + 1 + 1 = v.fCut:= congrArg TFault.fCut hm
  unfold cnE_Fault at hk2
  have hcn : k + ((cnE_Fault v : Nat) : Int) = k + 1 + 1 + 1:= by unfold cnE_Fault;omega
  have w0 : IntKind.wrap .i64 (k + 1) = k + 1:= wrapId (by omega) (by omega)
  have w1 : IntKind.wrap .i64 (k + 1 + 1) = k + 1 + 1:= wrapId (by omega) (by omega)
  have w2 : IntKind.wrap .i64 (k + 1 + 1 + 1) = k + 1 + 1 + 1:= wrapId (by omega) (by omega)
  simp only [go_sem,Nat.reduceBEq,b_laws_heldFaultS,e0,e5,e1,a.ia (row:= TFault.row) (sz:= 3) rfl,TFault.row,← g0,← g1,← g2,w0,w1,w2,hcn]
theorem ok_laws_heldFaultS {WI : World → Prop} (hs : Stable WI) (cs) (hT : TOK (EE cs) WI)  : ReadOK Tryz.prog WI 79 (hdC (sliceT tFault) (mkL mkE_Fault cnE_Fault) (cntL cnE_Fault)):= hdS_ok (E:= EE cs) hT hs (st_laws_heldFaultS cs) (by decide) (hb_laws_heldFaultS cs)
theorem ok_laws_heldDisk {WI : World → Prop} (hs : Stable WI) (cs) (hT : TOK (EE cs) WI) (h_laws_heldByteSS : (EE cs).T 77 = some (hdC (sliceT (sliceT u8T)) (mkL (mkL mkE_byte cnE_byte) (cntL cnE_byte)) (cntL (cntL cnE_byte)))) (h_laws_heldWriteS : (EE cs).T 78 = some (hdC (sliceT tWrite) (mkL mkE_Write cnE_Write) (cntL cnE_Write))) (h_laws_heldFaultS : (EE cs).T 79 = some (hdC (sliceT tFault) (mkL mkE_Fault cnE_Fault) (cntL cnE_Fault))) : ReadOK Tryz.prog WI 38 (hdC tDisk mkV_Disk cnV_Disk):= by
  refine ⟨pure2 (E:= EE cs) hT hs (by rw [st_laws_heldDisk];rfl) fun v k hp => out_wp (n:= 0) (st_laws_heldDisk cs) ?_,hdC_leaf⟩
  obtain ⟨hm,hf,hk,hk2⟩:= hp
  unfold cnV_Disk at hk2
  have hcn : k + ((cnV_Disk v : Nat) : Int) = k + (((cntL (cntL cnE_byte)) v.fSecs : Nat) : Int) + (((cntL cnE_Write) v.fCache : Nat) : Int) + (((cntL cnE_Fault) v.fFaults : Nat) : Int):= by unfold cnV_Disk;omega
  have g_Secs : (mkL (mkL mkE_byte cnE_byte) (cntL cnE_byte)) v.fSecs (k) = v.fSecs:= congrArg TDisk.fSecs hm
  have y_Secs : (hdC (sliceT (sliceT u8T)) (mkL (mkL mkE_byte cnE_byte) (cntL cnE_byte)) (cntL (cntL cnE_byte))) [.imm (v.fSecs.map (sliceT u8T).row),.int .i64 (k)] = some (.int .i64 (k + (((cntL (cntL cnE_byte)) v.fSecs : Nat) : Int))):= hdC_eq _ _ g_Secs (by exact hf.1) (by omega) (by omega)
  have q_Secs : decide (k + (((cntL (cntL cnE_byte)) v.fSecs : Nat) : Int) < 0) = false:= decide_eq_false (by omega)
  have g_Cache : (mkL mkE_Write cnE_Write) v.fCache (k + (((cntL (cntL cnE_byte)) v.fSecs : Nat) : Int)) = v.fCache:= congrArg TDisk.fCache hm
  have y_Cache : (hdC (sliceT tWrite) (mkL mkE_Write cnE_Write) (cntL cnE_Write)) [.imm (v.fCache.map TWrite.row),.int .i64 (k + (((cntL (cntL cnE_byte)) v.fSecs : Nat) : Int))] = some (.int .i64 (k + (((cntL (cntL cnE_byte)) v.fSecs : Nat) : Int) + (((cntL cnE_Write) v.fCache : Nat) : Int))):= hdC_eq _ _ g_Cache (by exact hf.2.1) (by omega) (by omega)
  have q_Cache : decide (k + (((cntL (cntL cnE_byte)) v.fSecs : Nat) : Int) + (((cntL cnE_Write) v.fCache : Nat) : Int) < 0) = false:= decide_eq_false (by omega)
  have g_Faults : (mkL mkE_Fault cnE_Fault) v.fFaults (k + (((cntL (cntL cnE_byte)) v.fSecs : Nat) : Int) + (((cntL cnE_Write) v.fCache : Nat) : Int)) = v.fFaults:= congrArg TDisk.fFaults hm
  have y_Faults : (hdC (sliceT tFault) (mkL mkE_Fault cnE_Fault) (cntL cnE_Fault)) [.imm (v.fFaults.map TFault.row),.int .i64 (k + (((cntL (cntL cnE_byte)) v.fSecs : Nat) : Int) + (((cntL cnE_Write) v.fCache : Nat) : Int))] = some (.int .i64 (k + (((cntL (cntL cnE_byte)) v.fSecs : Nat) : Int) + (((cntL cnE_Write) v.fCache : Nat) : Int) + (((cntL cnE_Fault) v.fFaults : Nat) : Int))):= hdC_eq _ _ g_Faults (by exact hf.2.2) (by omega) (by omega)
  have q_Faults : decide (k + (((cntL (cntL cnE_byte)) v.fSecs : Nat) : Int) + (((cntL cnE_Write) v.fCache : Nat) : Int) + (((cntL cnE_Fault) v.fFaults : Nat) : Int) < 0) = false:= decide_eq_false (by omega)
  simp only [go_sem,Nat.reduceBEq,Nat.reduceAdd,Nat.reduceLeDiff,s_laws_heldDisk,TDisk.row,tDisk_enc,h_laws_heldByteSS,h_laws_heldWriteS,h_laws_heldFaultS,y_Secs,q_Secs,y_Cache,q_Cache,y_Faults,q_Faults,hcn]
end Go.Proofs.YtpolhafmapekpaaGreatDoor.En
namespace Go.Proofs.YtpolhafmapekpaaGreatDoor.En
open Go Go.RowKit Go.Ev
set_option maxHeartbeats 1600000
theorem ok_laws_heldEng {WI : World → Prop} (hs : Stable WI) (cs) (hT : TOK (EE cs) WI) (h_laws_heldDefS : (EE cs).T 37 = some (hdC (sliceT tDef) (mkL mkE_Def cnE_Def) (cntL cnE_Def))) (h_laws_heldDisk : (EE cs).T 38 = some (hdC tDisk mkV_Disk cnV_Disk)) : ReadOK Tryz.prog WI 13 (hdC tEng mkV_Eng cnV_Eng):= by
  refine ⟨pure2 (E:= EE cs) hT hs (by rw [st_laws_heldEng];rfl) fun v k hp => out_wp (n:= 0) (st_laws_heldEng cs) ?_,hdC_leaf⟩
  obtain ⟨hm,hf,hk,hk2⟩:= hp
  unfold cnV_Eng at hk2
  have hcn : k + ((cnV_Eng v : Nat) : Int) = k + (((cntL cnE_Def) v.fS : Nat) : Int) + ((cnV_Disk v.fD : Nat) : Int):= by unfold cnV_Eng;omega
  have g_S : (mkL mkE_Def cnE_Def) v.fS (k) = v.fS:= congrArg TEng.fS hm
  have y_S : (hdC (sliceT tDef) (mkL mkE_Def cnE_Def) (cntL cnE_Def)) [.imm (v.fS.map TDef.row),.int .i64 (k)] = some (.int .i64 (k + (((cntL cnE_Def) v.fS : Nat) : Int))):= hdC_eq _ _ g_S (by exact hf.1) (by omega) (by omega)
  have q_S : decide (k + (((cntL cnE_Def) v.fS : Nat) : Int) < 0) = false:= decide_eq_false (by omega)
  have g_D : mkV_Disk v.fD (k + (((cntL cnE_Def) v.fS : Nat) : Int)) = v.fD:= congrArg TEng.fD hm
  have y_D : (hdC tDisk mkV_Disk cnV_Disk) [.agg [.imm (v.fD.fSecs.map (sliceT u8T).row),.imm (v.fD.fCache.map TWrite.row),.int .i64 v.fD.fOps,.imm (v.fD.fFaults.map TFault.row),.bool v.fD.fDown],.int .i64 (k + (((cntL cnE_Def) v.fS : Nat) : Int))] = some (.int .i64 (k + (((cntL cnE_Def) v.fS : Nat) : Int) + ((cnV_Disk v.fD : Nat) : Int))):= hdC_eq _ _ g_D (by exact hf.2) (by omega) (by omega)
  have q_D : decide (k + (((cntL cnE_Def) v.fS : Nat) : Int) + ((cnV_Disk v.fD : Nat) : Int) < 0) = false:= decide_eq_false (by omega)
  simp only [go_sem,Nat.reduceBEq,Nat.reduceAdd,Nat.reduceLeDiff,s_laws_heldEng,TEng.row,tEng_enc,h_laws_heldDefS,h_laws_heldDisk,y_S,q_S,y_D,q_D,hcn]
end Go.Proofs.YtpolhafmapekpaaGreatDoor.En
namespace Go.Proofs.YtpolhafmapekpaaGreatDoor.En
open Go Go.RowKit Go.Ev
set_option maxHeartbeats 1600000
set_option maxRecDepth 100000
theorem ev_law (cs) (h_laws_szFaultS : (EE cs).T 5 = some (szC (sliceT tFault))) (h_laws_toFaultS : (EE cs).T 7 = some (toC (sliceT tFault))) (h_spec_EngNew : (EE cs).T 6 = some C_spec_EngNew) (h_impl_EngNew : (EE cs).T 8 = some C_impl_EngNew) (h_laws_eqEng : (EE cs).T 9 = some (eqC tEng)) (h_laws_eqFaultS : (EE cs).T 10 = some (eqC (sliceT tFault))) (m_laws_markFaultS : MkS (EE cs) 11 (sliceT tFault) (mkL mkE_Fault cnE_Fault) (cntL cnE_Fault)) (m_laws_markEng : MkS (EE cs) 12 tEng mkV_Eng cnV_Eng) (h_laws_heldEng : (EE cs).T 13 = some (hdC tEng mkV_Eng cnV_Eng)) (v0 : List UInt8) (v1 : Int) (v2 : List (TFault)) (f0 : strT.fits v0) (o0 : strT.ok v0) (f1 : intT.fits v1) (o1 : intT.ok v1) (f2 : (sliceT tFault).fits v2) (o2 : (sliceT tFault).ok v2) : ∃ k n,out (EE cs) k n 3 [strT.enc v0,intT.enc v1,(sliceT tFault).enc v2] = some (.bool true):= by
  refine out_wp (n:= 0) (st_laws_FnExactEngNew cs) ?_
  by_cases hl : (1048576 : Int) < v0.length
  · simp only [go_sem,Nat.reduceBEq,s_laws_FnExactEngNew,hl]
  have hv : v0.length ≤ 1048576:= by omega
  have cz : szC (sliceT tFault) [.imm (v2.map TFault.row),.int .i64 1048576] = some (.int .i64 (szR ((sliceT tFault).cost v2) 1048576)):= szC_eq (sliceT tFault) ⟨f2,by omega,by omega⟩
  by_cases n0 : szR ((sliceT tFault).cost v2) 1048576 < 0
  · obtain ⟨e0,e0'⟩:= szR_neg n0 (by omega)
    simp only [go_sem,Nat.reduceBEq,Int.reduceLT,s_laws_FnExactEngNew,hl,h_laws_szFaultS,cz,e0]
  obtain ⟨e0,n0'⟩:= szR_pos n0
  have hc : (sliceT tFault).cost v2 ≤ 1048576:= by omega
  have t0 : toC (sliceT tFault) [.imm (v2.map TFault.row)] = some (.imm (v2.map TFault.row)):= toC_eq (sliceT tFault) hc
  have hfz : ∀ h,frzT 8 h (.imm (v2.map TFault.row)) = some (.imm (v2.map TFault.row)):= fun h => (sliceT tFault).frzT 8 h v2
  have a0:= C_spec_EngNew_eq v0 v1 v2 ⟨hv,hc⟩
  have a1:= C_impl_EngNew_eq v0 v1 v2 ⟨hv,hc⟩
  have hcw:= engNew_cost v0 v1 v2
  generalize engNew v0 v1 v2 = wp at a0 a1 hcw
  obtain ⟨w,ok⟩:= wp
  simp only at a0 a1 hcw
  have hfw : ∀ h,frzT 8 h (.agg w.row) = some (.agg w.row):= fun h => tEng.frzT 8 h w
  have ew : eqC tEng [.agg w.row,.agg w.row] = some (.bool true):= eqC_eq tEng (by omega)
  have ev : eqC (sliceT tFault) [.imm (v2.map TFault.row),.imm (v2.map TFault.row)] = some (.bool true):= eqC_eq (sliceT tFault) hc
  have kv:= cntL_le cb_Fault v2
  have kw:= cbV_Eng w
  have fw:= tEng.fit w (by omega)
  have hne : (ok != ok) = false:= by simp
  have hnb : (!(ok == ok)) = false:= by simp
  simp only [go_sem,Nat.reduceBEq,s_laws_FnExactEngNew,hl,h_laws_szFaultS,cz,e0,n0',h_laws_toFaultS]
  refine hP_read (mapO1 (hfz _)) t0 ?_
  simp only [go_sem,kSt_ptr,Nat.reduceBEq,Nat.reduceAdd,h_spec_EngNew,a0,TEng.row,h_laws_toFaultS]
  refine hP_own (n:= 1) (mapO1 (hfz _)) t0 ((sliceT tFault).okT v2 (by decide)) (by decide) ?_
  intro x1 g1 o1 p1 q1 n1
  have m1 : 1 ≤ g1.nx:= n1
  have b0 : g1.hp 0 = some w.row:= (p1 0 (by simp)).trans (by simp [TEng.row])
  replace o1 : OwI 1 1 g1.nx g1 x1 (.imm (v2.map TFault.row)):= o1
  simp only [go_sem,Nat.reduceBEq,h_impl_EngNew]
  refine hP_ownT (n:= 3) (mapO3 (frzT_str _) (intT.frzT 8 _ v1) (o1.frz (by decide))) a1 (tEng.okT w (by decide)) (by decide) rfl ?_
  intro x2 g2 o2 p2 q2 n2
  have m2 : g1.nx ≤ g2.nx:= n2
  have c0 : g2.hp 0 = some w.row:= (p2 0 (by omega)).trans b0
  obtain ⟨rs,rfl,e2,A2⟩:= OwI.agg (row:= w.row) o2 n2
  obtain ⟨r0,r1,r2,r3,r4,r5,rfl⟩:= len6 e2
  have z2:= A2.cells
  simp only [List.any_cons,List.any_nil,Bool.or_false,Bool.or_eq_false_iff] at z2
  unfold TEng.row at c0
  have u0 : ¬ 0 = g2.nx:= by omega
  replace o1:= o1.mono m2 fun q _ h2 => p2 q h2
  simp only [go_sem,kSt_ptr,Nat.reduceBEq,Nat.reduceAdd,z2,c0,u0,h_laws_eqEng]
  refine hP_read (mapO2 ((A2.mono (by simp) fun q hq hq2 => by simp [show q ≠ g2.nx by omega]).toI.frz (by decide)) (hfw _)) ew ?_
  simp only [go_sem,Nat.reduceBEq,h_laws_toFaultS]
  refine hP_read (mapO1 (hfz _)) t0 ?_
  simp only [go_sem,Nat.reduceBEq,h_laws_eqFaultS]
  refine hP_read (mapO2 ((o1.mono (by simp) fun q hq hq2 => by simp [show q ≠ g2.nx by omega]).frz (by decide)) (hfz _)) ev ?_
  simp only [go_sem,Nat.reduceBEq]
  refine hP_markI m_laws_markFaultS f2 (by decide) (by omega) (o1.mono (by simp) fun q hq hq2 => by simp [show q ≠ g2.nx by omega]) ?_
  intro h3 o3 p3 n3
  have m3 : g2.nx + 1 ≤ h3.nx:= n3
  have f0' : h3.hp 0 = some [.imm (w.fS.map TDef.row),.imm (w.fD.fSecs.map (sliceT u8T).row),.imm (w.fD.fCache.map TWrite.row),.int .i64 w.fD.fOps,.imm (w.fD.fFaults.map TFault.row),.bool w.fD.fDown]:= (p3 0 (.inl (by decide)) (by simp only [];omega)).trans (by simp [u0,c0])
  have fy : h3.hp g2.nx = some [r0,r1,r2,r3,r4,r5]:= (p3 g2.nx (.inr (by omega)) (by simp)).trans (by simp)
  replace A2 : OwA 3 g1.nx g2.nx h3 [r0,r1,r2,r3,r4,r5] w.row:= A2.mono (h':= h3) (by omega) fun q hq hq2 => (p3 q (.inr (by omega)) (by simp only [];omega)).trans (by simp [show q ≠ g2.nx by omega])
  have l1 : decide ((1 : Int) + ((cntL cnE_Fault v2 : Nat) : Int) < 0) = false:= decide_eq_false (by omega)
  simp only [go_sem,Nat.reduceBEq,Nat.reduceAdd,f0',fy,l1,h_laws_eqEng]
  refine hP_read (mapO2 (A2.toI.frz (by decide)) (hfw _)) ew ?_
  simp only [go_sem,Nat.reduceBEq,Nat.reduceAdd,fy]
  refine hP_markI m_laws_markEng fw (by decide) (by omega) A2.toI ?_
  intro h4 o4 p4 n4
  have i0 : h4.hp 0 = some [.imm (w.fS.map TDef.row),.imm (w.fD.fSecs.map (sliceT u8T).row),.imm (w.fD.fCache.map TWrite.row),.int .i64 w.fD.fOps,.imm (w.fD.fFaults.map TFault.row),.bool w.fD.fDown]:= (p4 0 (.inl (by omega)) (by omega)).trans f0'
  have iy : h4.hp g2.nx = some [r0,r1,r2,r3,r4,r5]:= (p4 g2.nx (.inr (Nat.le_refl _)) (by omega)).trans fy
  have l2 : decide ((1 : Int) + ((cnV_Eng w : Nat) : Int) < 0) = false:= decide_eq_false (by omega)
  obtain ⟨j1,j2⟩:= miV_Eng w 1
  have hh : hdC tEng mkV_Eng cnV_Eng [tEng.enc (mkV_Eng w 1),.int .i64 1] = some (.int .i64 (1 + ((cnV_Eng w : Nat) : Int))):= by
    have:= hdC_eq (T:= tEng) (mk:= mkV_Eng) (cnt:= cnV_Eng) (mkV_Eng w 1) 1 j1 (mfV_Eng w 1 fw (by decide) (by omega)) (by decide) (by rw [j2];omega)
    rw [j2] at this
    exact this
  simp only [go_sem,Nat.reduceBEq,Nat.reduceAdd,iy,h_laws_heldEng]
  refine hP_read (mapO2 (o4.frz (by decide)) rfl) hh ?_
  simp only [go_sem,Nat.reduceBEq,l2,h_laws_toFaultS]
  refine hP_read (mapO1 (hfz _)) t0 ?_
  simp only [go_sem,Nat.reduceBEq,h_impl_EngNew]
  refine hP_read (mapO3 (frzT_str _) (intT.frzT 8 _ v1) (hfz _)) a1 ?_
  have u5 : ¬ 0 = h4.nx:= by omega
  have u8 : ¬ g2.nx = h4.nx:= by omega
  simp only [go_sem,kSt_ptr,Nat.reduceBEq,Nat.reduceAdd,i0,u5,TEng.row,h_laws_eqEng]
  refine hP_read (mapO2 (hfw _) (hfw _)) ew ?_
  simp only [go_sem,Nat.reduceBEq,Nat.reduceAdd,iy,u8,h_laws_heldEng]
  refine hP_read (mapO2 ((o4.mono (by simp) fun q hq hq2 => by simp [show q ≠ h4.nx by omega]).frz (by decide)) rfl) hh ?_
  simp only [go_sem,Nat.reduceBEq,l2]
noncomputable def C_law:= c3 strT intT (sliceT tFault) (fun v0 v1 v2 => (strT.fits v0 ∧ strT.ok v0) ∧ (intT.fits v1 ∧ intT.ok v1) ∧ ((sliceT tFault).fits v2 ∧ (sliceT tFault).ok v2)) .bool fun _ _ _ => true
theorem ok_law {WI : World → Prop} (hs : Stable WI) (cs) (hT : TOK (EE cs) WI) (h_laws_szFaultS : (EE cs).T 5 = some (szC (sliceT tFault))) (h_laws_toFaultS : (EE cs).T 7 = some (toC (sliceT tFault))) (h_spec_EngNew : (EE cs).T 6 = some C_spec_EngNew) (h_impl_EngNew : (EE cs).T 8 = some C_impl_EngNew) (h_laws_eqEng : (EE cs).T 9 = some (eqC tEng)) (h_laws_eqFaultS : (EE cs).T 10 = some (eqC (sliceT tFault))) (m_laws_markFaultS : MkS (EE cs) 11 (sliceT tFault) (mkL mkE_Fault cnE_Fault) (cntL cnE_Fault)) (m_laws_markEng : MkS (EE cs) 12 tEng mkV_Eng cnV_Eng) (h_laws_heldEng : (EE cs).T 13 = some (hdC tEng mkV_Eng cnV_Eng)) : PureOK Tryz.prog WI 3 C_law:=
  pure3 (E:= EE cs) hT hs (by rw [st_laws_FnExactEngNew];rfl) fun v0 v1 v2 ⟨⟨f0,o0⟩,⟨f1,o1⟩,⟨f2,o2⟩⟩ => ev_law cs  h_laws_szFaultS h_laws_toFaultS h_spec_EngNew h_impl_EngNew h_laws_eqEng h_laws_eqFaultS m_laws_markFaultS m_laws_markEng h_laws_heldEng v0 v1 v2 f0 o0 f1 o1 f2 o2
section
variable {WI : World → Prop} (hs : Stable WI)
include hs
theorem law_ok (p_strings_Split : PureOK Tryz.prog WI 219 C_strings_Split) : PureOK Tryz.prog WI 3 C_law:= by
  have t0 : TOK (EE []) WI:= tok_nil (entB_spec entered)
  have t1:= tok_cons rfl rfl (ok_laws_szFaultS hs _ t0) t0
  have t2:= tok_cons rfl rfl (ok_laws_toFault hs _ t1) t1
  have t3:= tok_consO rfl (ok_laws_toFaultS hs _ t2 rfl) t2
  have t4:= tok_cons rfl rfl (ok_spec_l9Type hs _ t3) t3
  have t5:= tok_cons rfl rfl (ok_spec_l9Col hs _ t4) t4
  have t6:= tok_cons rfl rfl (ok_spec_l1In hs _ t5) t5
  have t7:= tok_cons rfl rfl (ok_spec_l8Small hs _ t6 rfl) t6
  have t8:= tok_cons rfl rfl (ok_spec_l2Digit hs _ t7 rfl) t7
  have t9:= tok_cons rfl rfl (ok_spec_l8Name hs _ t8 rfl rfl rfl) t8
  have t10:= tok_cons rfl rfl (ok_spec_l8Mark hs _ t9) t9
  have t11:= tok_cons rfl rfl (ok_spec_TokenOk hs _ t10 rfl rfl) t10
  have t12:= tok_cons rfl rfl (ok_spec_Lex hs _ t11 rfl rfl rfl) t11
  have t13:= tok_cons rfl rfl (ok_spec_l9Has hs _ t12) t12
  have t14:= tok_cons rfl rfl (ok_spec_l9Word hs _ t13 rfl rfl) t13
  have t15:= tok_cons rfl rfl (ok_spec_l9Names hs _ t14 rfl) t14
  have t16:= tok_cons rfl rfl (ok_spec_l9Types hs _ t15 rfl) t15
  have t17:= tok_cons rfl rfl (ok_spec_l9Once hs _ t16 rfl) t16
  have t18:= tok_cons rfl rfl (ok_spec_l9Parts hs _ t17 rfl) t17
  have t19:= tok_cons rfl rfl (ok_spec_l9AllParts hs _ t18 rfl) t18
  have t20:= tok_cons rfl rfl (ok_spec_CheckDef hs _ t19 rfl rfl rfl rfl) t19
  have t21:= tok_cons rfl rfl (ok_spec_FirstBad hs _ t20 rfl) t20
  have t22:= tok_cons rfl rfl (ok_spec_ParseDefs hs _ t21 rfl rfl rfl rfl) t21
  have t23:= tok_cons rfl rfl (ok_spec_l12Faults hs _ t22 rfl) t22
  have t24:= tok_consO rfl (ok_spec_DiskNew hs _ t23 rfl rfl) t23
  have t25:= tok_cons rfl rfl (ok_spec_MetaOk hs _ t24 rfl) t24
  have t26:= tok_consF rfl rfl (ok_spec_PutU hs _ t25) t25
  have t27:= tok_consF rfl rfl (ok_spec_PutText hs _ t26 rfl) t26
  have t28:= tok_cons rfl rfl (ok_spec_Crc hs _ t27) t27
  have t29:= tok_cons rfl rfl (ok_spec_PutSum hs _ t28 rfl) t28
  have t30:= tok_cons rfl rfl (ok_spec_PutPage hs _ t29 rfl rfl rfl rfl) t29
  have t31:= tok_cons rfl rfl (ok_spec_PutMeta hs _ t30 rfl rfl rfl) t30
  have t32:= tok_cons rfl rfl (ok_spec_Format hs _ t31 rfl rfl) t31
  have t33:= tok_cons rfl rfl (ok_spec_DiskOk hs _ t32 rfl rfl) t32
  have t34:= tok_cons rfl rfl (ok_spec_EngNew hs _ t33 rfl rfl rfl) t33
  have t35:= tok_cons rfl rfl (ok_impl_isLetter hs _ t34) t34
  have t36:= tok_cons rfl rfl (ok_impl_isDigit hs _ t35) t35
  have t37:= tok_cons rfl rfl (ok_impl_in hs _ t36) t36
  have t38:= tok_cons rfl rfl (ok_impl_nameOk hs _ t37 rfl rfl rfl) t37
  have t39:= tok_cons rfl rfl (ok_impl_isMark hs _ t38) t38
  have t40:= tok_cons rfl rfl (ok_impl_TokenOk hs _ t39 rfl rfl) t39
  have t41:= tok_cons rfl rfl (ok_impl_Lex hs _ t40 rfl rfl rfl) t40
  have t42:= tok_cons rfl rfl (ok_impl_partsOk hs _ t41 rfl) t41
  have t43:= tok_cons rfl rfl p_strings_Split t42
  have t44:= tok_cons rfl rfl (ok_impl_isFree hs _ t43 rfl rfl) t43
  have t45:= tok_cons rfl rfl (ok_impl_namesOk hs _ t44 rfl) t44
  have t46:= tok_cons rfl rfl (ok_impl_twice hs _ t45) t45
  have t47:= tok_cons rfl rfl (ok_impl_CheckDef hs _ t46 rfl rfl rfl rfl) t46
  have t48:= tok_consR rfl (ok_impl_FirstBad hs _ t47 rfl) t47
  have t49:= tok_consO rfl (ok_impl_ParseDefs hs _ t48 rfl rfl) t48
  have t50:= tok_consR rfl (ok_impl_DiskOk hs _ t49 rfl) t49
  have t51:= tok_consO rfl (ok_impl_DiskNew hs _ t50 rfl rfl) t50
  have t52:= tok_cons rfl rfl (ok_impl_isSector hs _ t51 rfl) t51
  have t53:= tok_cons rfl rfl (ok_impl_MetaOk hs _ t52 rfl rfl) t52
  have t54:= tok_cons rfl rfl (ok_impl_clamp hs _ t53) t53
  have t55:= tok_consR rfl (ok_impl_Crc hs _ t54) t54
  have t56:= tok_consO rfl (ok_impl_PutPage hs _ t55 rfl rfl rfl) t55
  have t57:= tok_consO rfl (ok_impl_PutMeta hs _ t56 rfl rfl rfl) t56
  have t58:= tok_consO rfl (ok_impl_Format hs _ t57 rfl rfl) t57
  have t59:= tok_consO rfl (ok_impl_EngNew hs _ t58 rfl rfl rfl) t58
  have t60:= tok_cons rfl rfl (ok_laws_eqCol hs _ t59) t59
  have t61:= tok_cons rfl rfl (ok_laws_eqColS hs _ t60 rfl) t60
  have t62:= tok_cons rfl rfl (ok_laws_eqBy hs _ t61) t61
  have t63:= tok_cons rfl rfl (ok_laws_eqByS hs _ t62 rfl) t62
  have t64:= tok_cons rfl rfl (ok_laws_eqIndex hs _ t63 rfl) t63
  have t65:= tok_cons rfl rfl (ok_laws_eqIndexS hs _ t64 rfl) t64
  have t66:= tok_cons rfl rfl (ok_laws_eqDef hs _ t65 rfl rfl rfl) t65
  have t67:= tok_cons rfl rfl (ok_laws_eqDefS hs _ t66 rfl) t66
  have t68:= tok_cons rfl rfl (ok_laws_eqByteS hs _ t67) t67
  have t69:= tok_cons rfl rfl (ok_laws_eqByteSS hs _ t68 rfl) t68
  have t70:= tok_cons rfl rfl (ok_laws_eqWrite hs _ t69 rfl) t69
  have t71:= tok_cons rfl rfl (ok_laws_eqWriteS hs _ t70 rfl) t70
  have t72:= tok_cons rfl rfl (ok_laws_eqFault hs _ t71) t71
  have t73:= tok_consR rfl ⟨(ok_laws_eqFaultS hs _ t72 rfl),eqC_leaf⟩ t72
  have t74:= tok_cons rfl rfl (ok_laws_eqDisk hs _ t73 rfl rfl rfl) t73
  have t75:= tok_consR rfl ⟨(ok_laws_eqEng hs _ t74 rfl rfl),eqC_leaf⟩ t74
  have t76:= tok_cons rfl rfl (ok_laws_markText hs _ t75) t75
  have t77:= tok_cons rfl rfl (ok_laws_heldColS hs _ t76 rfl).1 t76
  have t78:= tok_cons rfl rfl (ok_laws_heldByS hs _ t77).1 t77
  have t79:= tok_cons rfl rfl (ok_laws_heldIndexS hs _ t78 rfl rfl).1 t78
  have t80:= tok_cons rfl rfl (ok_laws_heldDefS hs _ t79 rfl rfl rfl rfl).1 t79
  have t81:= tok_cons rfl rfl (ok_laws_heldByteS hs _ t80).1 t80
  have t82:= tok_cons rfl rfl (ok_laws_heldByteSS hs _ t81 rfl).1 t81
  have t83:= tok_cons rfl rfl (ok_laws_heldWriteS hs _ t82 rfl).1 t82
  have t84:= tok_cons rfl rfl (ok_laws_heldFaultS hs _ t83).1 t83
  have t85:= tok_cons rfl rfl (ok_laws_heldDisk hs _ t84 rfl rfl rfl).1 t84
  have t86:= tok_consR rfl (ok_laws_heldEng hs _ t85 rfl rfl) t85
  exact ok_law hs _ t86 rfl rfl rfl rfl rfl rfl (mk_laws_markFaultS _) (mk_laws_markEng _ (mk_laws_markDefS _ rfl (mk_laws_markColS _ rfl) (mk_laws_markByS _) (mk_laws_markIndexS _ rfl (mk_laws_markByS _))) (mk_laws_markDisk _ (mk_laws_markByteSS _ (mk_laws_markByteS _)) (mk_laws_markWriteS _ (mk_laws_markByteS _)) (mk_laws_markFaultS _))) rfl
end
theorem shp_Fault {n : Nat} {r : List AV} (h : shp Tryz.prog (n + 2) 65 r) : ∃ v : TFault,r = v.row ∧ tFault.fits v ∧ tFault.ok v:= by
  obtain ⟨_,_,rfl,z0,_,_,rfl,z1,_,_,rfl,z2,rfl⟩:= shp_struct Tryz.underlying65 h
  obtain ⟨x0,rfl,y0⟩:= shp_int Tryz.underlying3 z0
  obtain ⟨x1,rfl,y1⟩:= shp_int Tryz.underlying3 z1
  obtain ⟨x2,rfl,y2⟩:= shp_int Tryz.underlying3 z2
  exact ⟨⟨x0,x1,x2⟩,rfl,trivial,⟨wf_i64 y0,wf_i64 y1,wf_i64 y2⟩⟩
theorem shp_SFault {n : Nat} {r : List AV} (h : shp Tryz.prog (n + 3) 22 r) : ∃ l : List (TFault),r = (sliceT tFault).row l ∧ (sliceT tFault).fits l ∧ (sliceT tFault).ok l:= by
  obtain ⟨rows,rfl,hl,hr⟩:= shp_slice Tryz.underlying22 h
  obtain ⟨l,h1,h2,h3⟩:= rows_of (enc:= tFault.row) (p:= fun v => tFault.fits v ∧ tFault.ok v) fun r hr' => shp_Fault (n:= n) (hr r hr')
  subst h1
  exact ⟨l,rfl,⟨by simpa using hl,fun v hv => (h3 v hv).1⟩,fun v hv => (h3 v hv).2⟩
theorem hlaw (xs : List AV) (h : shpAs Tryz.prog 8 Tryz.f3.params.toList xs) : C_law xs = some (.bool true):= by
  rw [Tryz.params3] at h
  obtain ⟨y0,r0,rfl,z0,y1,r1,rfl,z1,y2,r2,rfl,z2,zend⟩:= h
  have hr : r2 = []:= zend
  subst hr
  obtain ⟨v0,e0,f0⟩:= shp_str Tryz.underlying9 (shpA_one (fun fs e => by rw [Tryz.underlying9] at e;cases e) z0)
  obtain rfl : y0 = strT.enc v0:= List.head_eq_of_cons_eq e0
  have o0 : strT.ok v0:= trivial
  obtain ⟨v1,e1,q1⟩:= shp_int Tryz.underlying3 (shpA_one (fun fs e => by rw [Tryz.underlying3] at e;cases e) z1)
  obtain rfl : y1 = intT.enc v1:= List.head_eq_of_cons_eq e1
  have f1 : intT.fits v1:= trivial
  have o1:= wf_i64 q1
  obtain ⟨v2,e2,f2,o2⟩:= shp_SFault (n:= 5) (shpA_one (fun fs e => by rw [Tryz.underlying22] at e;cases e) z2)
  obtain rfl : y2 = (sliceT tFault).enc v2:= List.head_eq_of_cons_eq e2
  exact c3_eq strT intT (sliceT tFault) ⟨⟨f0,o0⟩,⟨f1,o1⟩,⟨f2,o2⟩⟩
end Go.Proofs.YtpolhafmapekpaaGreatDoor.En
