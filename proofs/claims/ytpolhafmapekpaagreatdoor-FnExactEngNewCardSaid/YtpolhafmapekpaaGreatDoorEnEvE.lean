/- Marks, bytes, draws; contracts of the library: no condition on the input. -/
import Derived.Test.YtpolhafmapekpaaGreatDoorEnEvD
import Derived.Lib.Split
import Derived.Lib.SplitLaws
set_option linter.unusedVariables false
set_option linter.unusedSimpArgs false
set_option linter.unnecessarySimpa false
namespace Go.Ev
open Go Go.RowKit
structure OwA (n lo hi : Nat) (h : Hp) (cs ts : List AV) : Prop where
  lh : lo ≤ hi
  le : hi ≤ h.nx
  ex : ∃ R,dfzL (dfz n h) cs = some (ts,R) ∧ R.Nodup ∧ ∀ q ∈ R,lo ≤ q ∧ q < hi
section
variable {n lo hi : Nat} {h h' : Hp} {cs ts : List AV}
theorem OwA.nil (n lo : Nat) {h : Hp} (hl : lo ≤ h.nx) : OwA n lo lo h [] []:= ⟨Nat.le_refl _,hl,[],rfl,List.nodup_nil,fun q hq => (by cases hq)⟩
theorem OwA.leaf {c : AV} (o : OwA n lo hi h cs ts) (hc : leafV c = true) : OwA n lo hi h (c :: cs) (c :: ts):= by
  obtain ⟨R,h1,h2,h3⟩:= o.ex
  exact ⟨o.lh,o.le,R,by simpa using dfzL_cons (dfz_of_leaf (n:= n) (h:= h) hc) h1,h2,h3⟩
theorem OwA.cat {lo' hi' : Nat} {cs' ts' : List AV} (o : OwA n lo hi h cs ts) (o' : OwA n lo' hi' h cs' ts') (hl : hi ≤ lo') : OwA n lo hi' h (cs ++ cs') (ts ++ ts'):= by
  obtain ⟨R,h1,h2,h3⟩:= o.ex
  obtain ⟨R',k1,k2,k3⟩:= o'.ex
  have a1:= o.lh
  have a2:= o'.lh
  refine ⟨by omega,o'.le,R ++ R',dfzL_app h1 k1,List.nodup_append.2 ⟨h2,k2,fun a ha b hb e => ?_⟩,fun q hq => ?_⟩
  · subst e
    have:= h3 a ha
    have:= k3 a hb
    omega
  · rcases List.mem_append.1 hq with hq | hq
    · have:= h3 q hq;omega
    · have:= k3 q hq;omega
theorem OwA.wide {lo' hi' : Nat} (o : OwA n lo hi h cs ts) (h1 : lo' ≤ lo) (h2 : hi ≤ hi') (h3 : hi' ≤ h.nx) : OwA n lo' hi' h cs ts:= by
  obtain ⟨R,k1,k2,k3⟩:= o.ex
  have:= o.lh
  exact ⟨by omega,h3,R,k1,k2,fun q hq => by have:= k3 q hq;omega⟩
theorem OwA.mono (o : OwA n lo hi h cs ts) (hn : h.nx ≤ h'.nx) (hp : ∀ q,lo ≤ q → q < hi → h'.hp q = h.hp q) : OwA n lo hi h' cs ts:= by
  obtain ⟨R,k1,k2,k3⟩:= o.ex
  exact ⟨o.lh,Nat.le_trans o.le hn,R,dfzL_frame (S:= R) (fun hd hs => dfz_frame (S:= R) (fun q hq => hp q (k3 q hq).1 (k3 q hq).2) n hd hs) k1 fun _ hq => hq,k2,k3⟩
theorem OwA.up {m : Nat} (o : OwA n lo hi h cs ts) (hm : n ≤ m) : OwA m lo hi h cs ts:= by
  obtain ⟨R,k1,k2,k3⟩:= o.ex
  exact ⟨o.lh,o.le,R,Ev.dfzL_up (fun hd => dfz_up hm hd) k1,k2,k3⟩
theorem OwA.pre {cs' ts' : List AV} (o : OwA n lo hi h (cs ++ cs') (ts ++ ts')) (hl : ts.length = cs.length) : OwA n lo hi h cs ts:= by
  obtain ⟨R,k1,k2,k3⟩:= o.ex
  obtain ⟨ts1,R1,ts2,R2,d1,d2,d3,rfl⟩:= dfzL_inv k1
  obtain ⟨rfl,rfl⟩:= List.append_inj d3 (by rw [dfzL_spec d1,hl])
  exact ⟨o.lh,o.le,R1,d1,(List.nodup_append.1 k2).1,fun q hq => k3 q (List.mem_append.2 (.inl hq))⟩
theorem OwA.len (o : OwA n lo hi h cs ts) : ts.length = cs.length:= by
  obtain ⟨R,k1,_,_⟩:= o.ex
  exact dfzL_spec k1
theorem OwA.toI (o : OwA n lo hi h cs ts) : OwI n lo hi h (.agg cs) (.agg ts):= by
  obtain ⟨R,k1,k2,k3⟩:= o.ex
  exact ⟨⟨R,dfzT_agg k1,k2,k3⟩,o.le⟩
theorem OwA.owE (o : OwA n lo hi h cs ts) (hn : n ≤ 8) : OwE h (.agg cs) (.agg ts):= o.toI.owE hn
theorem dfz_cell {x t : AV} {R : List Nat} (hd : dfz n h x = some (t,R)) : notCell x = false:= by
  cases x <;> first
    | rfl
    | (cases n <;> simp [dfz,leafF] at hd)
theorem dfzL_cells : ∀ {cs ts : List AV} {R : List Nat},dfzL (dfz n h) cs = some (ts,R) → cs.any notCell = false
  | [],_,_,_ => rfl
  | c :: cs,ts,R,hd => by
    simp only [dfzL,Option.bind_eq_some_iff,Option.map_eq_some_iff] at hd
    obtain ⟨⟨p1,p2⟩,h1,⟨q1,q2⟩,h2,_⟩:= hd
    simp only [List.any_cons,dfz_cell h1,dfzL_cells h2,Bool.or_self]
theorem OwA.cells (o : OwA n lo hi h cs ts) : cs.any notCell = false:= by
  obtain ⟨R,k1,_,_⟩:= o.ex
  exact dfzL_cells k1
theorem OwI.slice {x : AV} {rows : List (List AV)} (o : OwI n lo hi h x (.imm rows)) (hl : lo ≤ hi) : OwA n lo hi h [x] [.imm rows] ∧ x.cells = [x] ∧ notCell x = false:= by
  obtain ⟨R,h1,h2,h3⟩:= o.ex
  have hd:= dfzT_cell_inv h1
  refine ⟨⟨hl,o.le,R,by simpa using dfzL_cons hd (f:= dfz n h) (cs:= []) (ts:= []) (R2:= []) rfl,h2,h3⟩,?_,dfz_cell hd⟩
  have:= dfz_cell hd
  cases x <;> first
    | rfl
    | simp [notCell] at this
theorem OwI.agg {x : AV} {row : List AV} (o : OwI n lo hi h x (.agg row)) (hl : lo ≤ hi) : ∃ cs,x = .agg cs ∧ cs.length = row.length ∧ OwA n lo hi h cs row:= by
  obtain ⟨R,h1,h2,h3⟩:= o.ex
  obtain ⟨cs,rfl,hd⟩:= dfzT_agg_inv h1
  exact ⟨cs,rfl,(dfzL_spec hd).symm,hl,o.le,R,hd,h2,h3⟩
end
section
variable {α : Type} {T : TD α} {n lo hi : Nat} {h h' : Hp}
theorem OwI.cells {x : AV} {v : α} (o : OwI n lo hi h x (T.enc v)) (hl : lo ≤ hi) : OwA n lo hi h x.cells (T.row v) ∧ x.cells.length = T.sz ∧ x.cells.any notCell = false:= by
  cases h1 : T.one
  · rw [T.encA h1] at o
    obtain ⟨cs,rfl,h2,h3⟩:= o.agg hl
    exact ⟨h3,by show cs.length = _;rw [h2,T.len],h3.cells⟩
  · obtain ⟨hs,hr⟩:= T.enc1 h1
    have hcell : notCell (T.enc v) = false:= (T.frz v _ (by rw [hr];exact List.mem_singleton.2 rfl)).2
    obtain ⟨R,k1,k2,k3⟩:= o.ex
    have hd : dfz n h x = some (T.enc v,R):= by
      unfold dfzT at k1
      split at k1
      · simp only [Option.map_eq_some_iff,Prod.mk.injEq] at k1
        obtain ⟨p,_,e,_⟩:= k1
        rw [← e] at hcell
        cases hcell
      · exact k1
    have hnc:= dfz_cell hd
    have hx : x.cells = [x]:= by
      cases x <;> first
        | rfl
        | simp [notCell] at hnc
    rw [hx,hr,hs]
    exact ⟨⟨hl,o.le,R,by simpa using dfzL_cons hd (f:= dfz n h) (cs:= []) (ts:= []) (R2:= []) rfl,k2,k3⟩,rfl,by simp [hnc]⟩
theorem set_same (h : Hp) (r : Nat) (cs : List AV) : (h.set r cs).hp r = some cs:= by
  show (if r = r then some cs else h.hp r) = _
  rw [if_pos rfl]
theorem splice_mid {cs1 old cs2 xs : List AV} (ho : old.length = xs.length) : splice (cs1 ++ (old ++ cs2)) cs1.length xs = cs1 ++ (xs ++ cs2):= by
  simp only [splice]
  rw [List.take_left',← List.drop_drop,List.drop_left' rfl,← ho,List.drop_left' rfl,List.append_assoc]
  rfl
theorem kSt_cells {m r off : Nat} {x : AV} {cs1 old cs2 : List AV} (hh : h.hp r = some (cs1 ++ (old ++ cs2))) (ho : off = cs1.length) (hx : x.cells.length = m) (hol : old.length = m) (hnc : x.cells.any notCell = false) :
    kSt m (.ptr r off) x h = some (.tup [],h.set r (cs1 ++ (x.cells ++ cs2))):= by
  subst ho
  rw [kSt_ptr,hh,Option.bind_some,if_pos ⟨hx.symm,by simp only [List.length_append];omega,by rw [hnc];rfl⟩,splice_mid (by rw [hol,hx])]
theorem OwA.block {r : Nat} {cs : List AV} {l : List α} (hr : h.hp r = some cs) (hrl : r < lo) (hl : cs.length = l.length * T.sz) (o : OwA n lo hi h cs (l.map T.row).flatten) : OwI (n + 1) r hi h (.sl r 0 l.length T.sz) (.imm (l.map T.row)):= by
  obtain ⟨R,h1,h2,h3⟩:= o.ex
  have h4:= o.lh
  refine ⟨⟨r :: R,dfzT_cell (dfz_block hr hl h1),List.nodup_cons.2 ⟨fun hm => by have:= (h3 r hm).1;omega,h2⟩,fun q hq => ?_⟩,o.le⟩
  rcases List.mem_cons.1 hq with rfl | hq
  · omega
  · have:= h3 q hq;omega
end
theorem dfzT_agg_cells {n : Nat} {h : Hp} {cs ts : List AV} {R : List Nat} (hd : dfzT n h (.agg cs) = some (.agg ts,R)) : dfzL (dfz n h) cs = some (ts,R):= by
  obtain ⟨xs,e,h2⟩:= dfzT_agg_inv hd
  injection e with e
  subst e
  exact h2
def SE (rows : List (List AV)) (c : AV) : Prop:= frzCell c = some (.imm rows) ∧ notCell c = false
theorem cell1 {c : AV} (h : notCell c = false) : c.cells = [c]:= by
  cases c <;> first
    | rfl
    | cases h
theorem cl_agg (cs : List AV) : (AV.agg cs).cells = cs:= rfl
theorem ag_agg (cs : List AV) : isAggV (.agg cs) = true:= rfl
theorem SE.fz {rows : List (List AV)} {c : AV} (s : SE rows c) (n : Nat) (h : Hp) : frzD n h c = some (.imm rows):= by
  cases n with
  | zero => exact s.1
  | succ n =>
    have h1:= s.1
    unfold frzD
    split
    · cases h1
    · exact h1
theorem grows.cell {α : Type} {T : TD α} {l : List α} {v : AV} {h : Hp} (g : grows T l v h) : SE (l.map T.row) v:= by
  rcases g with ⟨rfl,rfl⟩ | ⟨id,rfl,_,_⟩ <;> exact ⟨rfl,rfl⟩
section
variable {α : Type} {T : TD α} {E : Env} {WI : World → Prop} {f g : FuncId}
theorem sMake_len {bt : Nat} {z : List AV} {l : Nat} (hb : bt ≤ 1048576) (hlen : l ≤ 1048576) (h : Hp) : sMake true bt z (.int .i64 (l : Int)) (.int .i64 (l : Int)) h = some (.sl h.nx 0 l z.length,h.new (List.replicate l z).flatten):= by
  have hr : (bt : Int) * (l : Int) ≤ room:= by
    have : bt * l ≤ 1048576 * 1048576:= Nat.mul_le_mul hb hlen
    have h2 : ((bt * l : Nat) : Int) = (bt : Int) * (l : Int):= Int.natCast_mul _ _
    rw [← h2]
    unfold room
    omega
  have:= sMake_sl (bt:= bt) (z:= z) (k:= .i64) (k':= .i64) (l:= (l : Int)) (h:= h) (by omega) (by omega) hr
  simpa using this
theorem toSQ_ok (hTK : TOK E WI) (hS : Stable WI) (hT : E.T g = some (toC T)) (hd0 : T.dep = 0) {bt : Nat} {z : List AV} (hz : z.length = T.sz) (hb : bt ≤ 1048576) (hst : stF E f = some (toSF g T.sz T.one bt z)) : OwnOK E.P WI f (toC (sliceT T)):= by
  refine own1 (E:= E) hTK hS (by rw [hst];rfl) fun l hcost => outO_wp hst ?_
  have hlen : l.length ≤ 1048576:= by have : l.length + costL T l ≤ 1048576:= hcost;omega
  have hcv : ∀ v ∈ l,T.cost v ≤ 1048576:= fun v hv => by have h1:= costL_mem T hv;have : l.length + costL T l ≤ 1048576:= hcost;omega
  have hm:= fun h => sMake_len (z:= z) hb hlen h
  rw [hz] at hm
  simp only [go_sem,kSt_ptr,Nat.reduceBEq,Nat.reduceAdd,Nat.reduceEqDiff,Nat.reduceLeDiff,Nat.reduceSub,reduceIte,Int.reduceBEq,Int.reduceEq,Int.reduceLT,Int.reduceLE,Int.reduceGT,Int.reduceGE,Int.reduceNe,Int.reduceBNe,toSF,sliceT,hm]
  refine (wl_for (l:= l) (fun pre e h => e 0 = .imm (l.map T.row) ∧ e 3 = .sl 0 0 l.length T.sz ∧ (h.hp 0 = some ((pre.map T.row).flatten ++ (List.replicate (l.length - pre.length) z).flatten) ∧ 1 ≤ h.nx) ∧ e 4 = .int .i64 pre.length) (.exit 0) (fun e h => e 3 = .sl 0 0 l.length T.sz ∧ (h.hp 0 = some (l.map T.row).flatten ∧ 1 ≤ h.nx)) (by omega) ?_ ?_ (by simp) l [] _ _ rfl ?_).mono ?_
  · rintro pre v rest e h a ⟨q0,q3,⟨hh,hnx⟩,ix⟩
    have hc:= toC_eq T (hcv v a.mem)
    have hll : l.length = pre.length + (rest.length + 1):= by rw [a.hl];simp
    have hia : ∀ h : Hp,kIa T.sz (.sl 0 0 l.length T.sz) (.int .i64 (pre.length : Int)) h = some (.ptr 0 (pre.length * T.sz),h):= fun h => by rw [kIa_sl (by omega) (by simp only [Int.toNat_natCast];omega)];simp
    have hw:= a.hw
    have hfz:= T.frzEnc v
    have hrep : (List.replicate (l.length - pre.length) z).flatten = z ++ (List.replicate (l.length - (pre.length + 1)) z).flatten:= by
      have : l.length - pre.length = (l.length - (pre.length + 1)) + 1:= by omega
      rw [this,List.replicate_succ,List.flatten_cons]
    have hfl : ((pre.map T.row).flatten).length = pre.length * T.sz:= by
      have:= flat_len (sz:= T.sz) (T.rows_len pre)
      rw [this,List.length_map]
    have hcs : (T.enc v).cells = T.row v:= T.cells v
    have hst2:= kSt_cells (m:= T.sz) (r:= 0) (off:= pre.length * T.sz) (x:= T.enc v) (h:= h) (old:= z) (by rw [hh,hrep]) (by rw [hfl]) (by rw [hcs,T.len]) hz (by rw [hcs];exact T.notCells v)
    rw [hcs] at hst2
    have fin : (h.set 0 ((pre.map T.row).flatten ++ (T.row v ++ (List.replicate (l.length - (pre.length + 1)) z).flatten))).hp 0 = some (((pre ++ [v]).map T.row).flatten ++ (List.replicate (l.length - (pre ++ [v]).length) z).flatten):= by
      rw [set_same,List.length_append,List.length_singleton,List.map_append,List.flatten_append,List.append_assoc]
      simp
    cases h1' : T.one
    · have ht:= T.take v h1'
      simp only [go_sem,Nat.reduceBEq,Nat.reduceAdd,Nat.reduceEqDiff,Nat.reduceLeDiff,Nat.reduceSub,reduceIte,Int.reduceBEq,Int.reduceEq,Int.reduceLT,Int.reduceLE,Int.reduceGT,Int.reduceGE,Int.reduceNe,Int.reduceBNe,toLoopC,ldOp,h1',q0,q3,ix,a.dl,kIa_map (row:= T.row) (sz:= T.sz) a.hl (T.len v),ht,hfz,hT,hc,hia,hst2,hw,len_snoc]
      exact ⟨by simpa [Hp.set] using fin,hnx⟩
    · have ht:= T.head v h1'
      simp only [go_sem,Nat.reduceBEq,Nat.reduceAdd,Nat.reduceEqDiff,Nat.reduceLeDiff,Nat.reduceSub,reduceIte,Int.reduceBEq,Int.reduceEq,Int.reduceLT,Int.reduceLE,Int.reduceGT,Int.reduceGE,Int.reduceNe,Int.reduceBNe,toLoopC,ldOp,h1',q0,q3,ix,a.dl,kIa_map (row:= T.row) (sz:= T.sz) a.hl (T.len v),ht,hfz,hT,hc,hia,hst2,hw,len_snoc]
      exact ⟨by simpa [Hp.set] using fin,hnx⟩
  · rintro e h ⟨q0,q3,⟨hh,hnx⟩,ix⟩
    simp only [go_sem,kSt_ptr,Nat.reduceBEq,Nat.reduceAdd,Nat.reduceEqDiff,Nat.reduceLeDiff,Nat.reduceSub,reduceIte,Int.reduceBEq,Int.reduceEq,Int.reduceLT,Int.reduceLE,Int.reduceGT,Int.reduceGE,Int.reduceNe,Int.reduceBNe,toLoopC,q0,q3,ix]
    rw [Nat.sub_self,List.replicate_zero,List.flatten_nil,List.append_nil] at hh
    exact ⟨hh,hnx⟩
  · simp only [go_sem,kSt_ptr,Nat.reduceBEq,Nat.reduceAdd,Nat.reduceEqDiff,Nat.reduceLeDiff,Nat.reduceSub,reduceIte,Int.reduceBEq,Int.reduceEq,Int.reduceLT,Int.reduceLE,Int.reduceGT,Int.reduceGE,Int.reduceNe,Int.reduceBNe]
    simp [Hp.new,Hp.empty]
  · rintro _ e h ⟨rfl,q3,hh,hnx⟩
    simp only [go_sem,kSt_ptr,Nat.reduceBEq,Nat.reduceAdd,Nat.reduceEqDiff,Nat.reduceLeDiff,Nat.reduceSub,reduceIte,Int.reduceBEq,Int.reduceEq,Int.reduceLT,Int.reduceLE,Int.reduceGT,Int.reduceGE,Int.reduceNe,Int.reduceBNe,q3]
    have o:= OwA.block (T:= T) (n:= 0) (lo:= 1) (hi:= 1) (l:= l) hh (by omega) (by rw [flat_len (sz:= T.sz) (T.rows_len l),List.length_map]) ⟨Nat.le_refl _,hnx,[],TD.leafs hd0 l,List.nodup_nil,fun q hq => (by cases hq)⟩
    exact o.owE (by omega)
end
section
variable {α : Type} {T : TD α} {n lo hi : Nat} {l : List α} {x y : AV} {h h' : Hp}
theorem OwS.owA (o : OwS n T lo hi l x h) : OwA (n + 1) lo hi h [x] [.imm (l.map T.row)] ∧ x.cells = [x] ∧ notCell x = false:= by
  obtain ⟨R,h1,h2,h3⟩:= o.dfz
  have hc:= dfz_cell h1
  exact ⟨⟨o.lh,o.le,R,by simpa using dfzL_cons h1 (f:= Ev.dfz (n + 1) h) (cs:= []) (ts:= []) (R2:= []) rfl,h2,h3⟩,cell1 hc,hc⟩
theorem hP_growA {E : Env} {c : CallH} {bt s lo' hi' : Nat} {d : Option Nat} {os : List SOper} {e : Ps} {Q : QS} {row : List AV} (v : α) (hs : s = T.sz) (o : OwS n T lo hi l x h) (hx : rowsIn h T.sz y = some [row]) (oA : OwA n lo' hi' h row (T.row v)) (hlo : hi ≤ lo') (hb : (l.length + 1) * bt ≤ room)
    (hw : ∀ x' h',OwS n T lo h'.nx (l ++ [v]) x' h' → h.nx ≤ h'.nx → (∀ q,(q < lo ∨ hi ≤ q) → q < h.nx → h'.hp q = h.hp q) → h'.ap = h.ap → hP (kThen (some (upd? e d x',h')) E c os) Q) : hP (kThen (kOper d (some true) (sApp true bt s x y h) e h) E c os) Q:= by
  obtain ⟨R,k1,k2,k3⟩:= oA.ex
  have hle:= oA.le
  exact hP_growO v hs o hx (by rw [← oA.len,T.len]) k1 k2 (fun q hq => by have:= k3 q hq;omega) hb hw
end
end Go.Ev
namespace Go.Ev
open Go Go.RowKit
set_option maxHeartbeats 1600000
theorem wrapU8 {x : Int} (h0 : 0 ≤ x) : IntKind.wrap .u8 x = x % 256:= by simp [IntKind.wrap,IntKind.bits,IntKind.signed]
theorem wrapU32 {x : Int} (h0 : 0 ≤ x) (h1 : x < 4294967296) : IntKind.wrap .u32 x = x:= by
  simp [IntKind.wrap,IntKind.bits,IntKind.signed];omega
theorem bv64 {a : Nat} (h : a < 18446744073709551616) : (BitVec.ofInt 64 (a : Int)).toNat = a:= by
  rw [BitVec.toNat_ofInt];omega
theorem bv32 {a : Nat} (h : a < 4294967296) : (BitVec.ofInt 32 (a : Int)).toNat = a:= by
  rw [BitVec.toNat_ofInt];omega
theorem kXorN {a b : Nat} (ha : a < 4294967296) (hb : b < 4294967296) (h : Hp) : kBin .xor (.int .i64 (a : Int)) (.int .i64 (b : Int)) h = some (.int .i64 ((a ^^^ b : Nat) : Int),h):= by
  have hx : a ^^^ b < 4294967296:= Nat.xor_lt_two_pow (n:= 32) ha hb
  have : kBin .xor (.int .i64 (a : Int)) (.int .i64 (b : Int)) h = some (.int .i64 (IntKind.wrap .i64 ((BitVec.ofInt 64 (a : Int) ^^^ BitVec.ofInt 64 (b : Int)).toNat : Nat)),h):= rfl
  rw [this,BitVec.toNat_xor,bv64 (by omega),bv64 (by omega),wrapId (by omega) (by omega)]
theorem kXor32 {a b : Nat} (ha : a < 4294967296) (hb : b < 4294967296) (h : Hp) : kBin .xor (.int .u32 (a : Int)) (.int .u32 (b : Int)) h = some (.int .u32 ((a ^^^ b : Nat) : Int),h):= by
  have hx : a ^^^ b < 4294967296:= Nat.xor_lt_two_pow (n:= 32) ha hb
  have : kBin .xor (.int .u32 (a : Int)) (.int .u32 (b : Int)) h = some (.int .u32 (IntKind.wrap .u32 ((BitVec.ofInt 32 (a : Int) ^^^ BitVec.ofInt 32 (b : Int)).toNat : Nat)),h):= rfl
  rw [this,BitVec.toNat_xor,bv32 (by omega),bv32 (by omega),wrapU32 (by omega) (by omega)]
theorem kAnd1 {a : Nat} (ha : a < 4294967296) (h : Hp) : kBin .and (.int .i64 (a : Int)) (.int .i64 1) h = some (.int .i64 ((a % 2 : Nat) : Int),h):= by
  have : kBin .and (.int .i64 (a : Int)) (.int .i64 1) h = some (.int .i64 (IntKind.wrap .i64 ((BitVec.ofInt 64 (a : Int) &&& BitVec.ofInt 64 ((1 : Nat) : Int)).toNat : Nat)),h):= rfl
  rw [this,BitVec.toNat_and,bv64 (by omega),bv64 (by decide),Nat.and_one_is_mod,wrapId (by omega) (by omega)]
theorem kAnd1u {a : Nat} (ha : a < 4294967296) (h : Hp) : kBin .and (.int .u32 (a : Int)) (.int .u32 1) h = some (.int .u32 ((a % 2 : Nat) : Int),h):= by
  have : kBin .and (.int .u32 (a : Int)) (.int .u32 1) h = some (.int .u32 (IntKind.wrap .u32 ((BitVec.ofInt 32 (a : Int) &&& BitVec.ofInt 32 ((1 : Nat) : Int)).toNat : Nat)),h):= rfl
  rw [this,BitVec.toNat_and,bv32 (by omega),bv32 (by decide),Nat.and_one_is_mod,wrapU32 (by omega) (by omega)]
theorem kShr0 (k : IntKind) (a b : Int) (hb : ¬ b < 0) (h : Hp) : kBin .shr (.int k a) (.int .u64 b) h = some (.int k (a.fdiv (2 ^ (min b.toNat k.bits))),h):= by simp [kBin,sBin,evShift,hb]
theorem kShrN {k : IntKind} {a : Nat} {s : Nat} (hs : s ≤ k.bits) (h : Hp) : kBin .shr (.int k (a : Int)) (.int .u64 (s : Int)) h = some (.int k ((a / 2 ^ s : Nat) : Int),h):= by
  have : kBin .shr (.int k (a : Int)) (.int .u64 (s : Int)) h = some (.int k ((a : Int).fdiv (2 ^ (min (s : Int).toNat k.bits))),h):= kShr0 _ _ _ (by omega) _
  rw [this,Int.toNat_natCast,Nat.min_eq_left hs,Int.fdiv_eq_ediv_of_nonneg _ (by exact_mod_cast Nat.zero_le (2 ^ s))]
  congr 2
theorem u8cell (n : Nat) : (UInt8.ofNat n).toNat = n % 256:= by simp
def clampI (n lo hi : Int) : Int:= if lo < (if hi < n then hi else n) then (if hi < n then hi else n) else lo
def kMm (f : Int → Int → Int) (x y : AV) (h : Hp) : Option (AV × Hp):= match x,y with
  | .int k a,.int k' b => if k = k' then some (.int k (f a b),h) else none
  | _,_ => none
theorem sX_max2 (E : Env) (c : CallH) (ρ : Opd → AV) (x y : Opd) (h : Hp) : sX E c ρ (.max [x,y]) h = kMm (fun a b => if a < b then b else a) (ρ x) (ρ y) h:= by
  simp only [sX,List.map_cons,List.map_nil]
  cases ρ x <;> cases ρ y <;> first
    | rfl
    | (simp only [evMinMax,kMm];split <;> rfl)
theorem sX_min2 (E : Env) (c : CallH) (ρ : Opd → AV) (x y : Opd) (h : Hp) : sX E c ρ (.min [x,y]) h = kMm (fun a b => if b < a then b else a) (ρ x) (ρ y) h:= by
  simp only [sX,List.map_cons,List.map_nil]
  cases ρ x <;> cases ρ y <;> first
    | rfl
    | (simp only [evMinMax,kMm];split <;> rfl)
theorem kMm_int (f : Int → Int → Int) (a b : Int) (h : Hp) : kMm f (.int .i64 a) (.int .i64 b) h = some (.int .i64 (f a b),h):= rfl
attribute [go_sem] sX_max2 sX_min2 kMm_int
theorem rep0 {α : Type} (x : α) : List.replicate 0 x = []:= rfl
theorem fill0 (n : Nat) : fillR [] n [] = some []:= rfl
theorem frz0 : frzRows [] = some []:= rfl
theorem Hp.Down.refl (h : Hp) : h.Down h:= ⟨Nat.le_refl _,fun _ _ _ e => e⟩
theorem Hp.Down.trans {h k m : Hp} (a : h.Down k) (b : k.Down m) : h.Down m:= ⟨Nat.le_trans a.1 b.1,fun r cs hr e => a.2 r cs hr (b.2 r cs (Nat.lt_of_lt_of_le hr a.1) e)⟩
theorem sApp_down {bt s : Nat} {x y : AV} {h : Hp} {p : AV × Hp} (hx : sApp true bt s x y h = some p) : h.Down p.2:= by
  simp only [sApp,Option.bind_eq_some_iff] at hx
  obtain ⟨more,_,hx⟩:= hx
  split at hx
  case isFalse => cases hx
  split at hx
  · split at hx
    · injection hx with hx;subst hx;exact .refl _
    · split at hx
      · simp only [if_true] at hx
        injection hx with hx;subst hx
        exact ⟨Nat.le_succ _,fun r cs hr e => by rw [← e];exact (if_neg (by omega)).symm⟩
      · cases hx
  · simp at hx
  · split at hx
    · simp only [Option.bind_eq_some_iff] at hx
      obtain ⟨cs,_,hx⟩:= hx
      have fin : ∀ (r : Nat) (l : List AV),h.Down ((h.kill r).new l):= fun r l => by
        refine ⟨Nat.le_succ _,fun q cs' hq e => ?_⟩
        have e2 : (if q = h.nx then _ else (if q = _ then none else h.hp q)) = some cs':= e
        rw [if_neg (by omega)] at e2
        split at e2
        · cases e2
        · exact e2
      split at hx
      · injection hx with hx;subst hx
        exact fin _ _
      · split at hx
        · injection hx with hx;subst hx
          exact fin _ _
        · cases hx
    · cases hx
  · cases hx
theorem hP_growLd {E : Env} {c : CallH} {bt s n lo hi : Nat} {α : Type} {T : TD α} {l : List α} {x y : AV} {h : Hp} {d : Option Nat} {os : List SOper} {e : Ps} {Q : QS} (more : List α) (hs : s = T.sz) (hd0 : T.dep = 0) (o : OwS n T lo hi l x h) (hx : rowsIn h T.sz y = some (more.map T.row)) (hb : (l.length + more.length) * bt ≤ room)
    (hw : ∀ x' h',OwS n T lo h'.nx (l ++ more) x' h' → h.Down h' → (∀ q,(q < lo ∨ hi ≤ q) → q < h.nx → h'.hp q = h.hp q) → h'.ap = h.ap → hP (kThen (some (upd? e d x',h')) E c os) Q) : hP (kThen (kOper d (some true) (sApp true bt s x y h) e h) E c os) Q:= by
  subst hs
  obtain ⟨x',h',h1,h2,h3,h4,h5⟩:= owS_app (bt:= bt) (more:= more) o hx (by simp) (T.rows_len more) (TD.leafs hd0 more) List.nodup_nil (fun q hq => (by cases hq)) hb
  have hd:= sApp_down h1
  rw [h1,kOper_go]
  exact hw x' h' h2 hd h4 h5
def uenc (n : Nat) : List UInt8:= if n ≤ 127 then [UInt8.ofNat n] else UInt8.ofNat (n % 128 + 128) :: uenc (n / 128)
termination_by n
theorem uenc_small {n : Nat} (h : n ≤ 127) : uenc n = [UInt8.ofNat n]:= by rw [uenc,if_pos h]
theorem uenc_big {n : Nat} (h : ¬ n ≤ 127) : uenc n = UInt8.ofNat (n % 128 + 128) :: uenc (n / 128):= by rw [uenc,if_neg h]
def clampN (n : Int) : Nat:= if 1000000 < n then 1000000 else if n < 0 then 0 else n.toNat
theorem clampN_le (n : Int) : clampN n ≤ 1000000:= by unfold clampN;split;omega;split <;> omega
theorem uenc_len (n : Nat) (h : n ≤ 1000000) : (uenc n).length ≤ 3 ∧ 1 ≤ (uenc n).length:= by
  by_cases h1 : n ≤ 127
  · rw [uenc_small h1];simp
  rw [uenc_big h1]
  by_cases h2 : n / 128 ≤ 127
  · rw [uenc_small h2];simp
  rw [uenc_big h2,uenc_small (by omega)];simp
def utext (s : List UInt8) : List UInt8:= uenc (clampN s.length) ++ s
def sum4 (x : Nat) : List UInt8:= [UInt8.ofNat (x / 16777216),UInt8.ofNat (x / 65536),UInt8.ofNat (x / 256),UInt8.ofNat x]
def crcBit (x : Nat) : Nat:= if x % 2 = 1 then x / 2 ^^^ 2197175160 else x / 2
def crcBits : Nat → Nat → Nat
  | 0,x => x
  | n + 1,x => crcBits n (crcBit x)
def crcAll : Nat → List UInt8 → Nat
  | x,[] => x
  | x,b :: r => crcAll (crcBits 8 (x ^^^ b.toNat)) r
def crc (b : List UInt8) : Nat:= crcAll 4294967295 b ^^^ 4294967295
def withSum (b : List UInt8) : List UInt8:= b ++ sum4 (crc b)
theorem crcBit_lt {x : Nat} (h : x < 4294967296) : crcBit x < 4294967296:= by
  unfold crcBit
  split
  · exact Nat.xor_lt_two_pow (n:= 32) (by omega) (by omega)
  · omega
theorem crcBits_lt : ∀ (n : Nat) {x : Nat},x < 4294967296 → crcBits n x < 4294967296
  | 0,_,h => h
  | n + 1,_,h => crcBits_lt n (crcBit_lt h)
theorem u8lt (b : UInt8) : b.toNat < 4294967296:= Nat.lt_trans (UInt8.toNat_lt b) (by decide)
theorem crcAll_lt : ∀ (l : List UInt8) {x : Nat},x < 4294967296 → crcAll x l < 4294967296
  | [],_,h => h
  | b :: r,_,h => crcAll_lt r (crcBits_lt 8 (Nat.xor_lt_two_pow (n:= 32) h (u8lt b)))
theorem crc_lt (b : List UInt8) : crc b < 4294967296:= Nat.xor_lt_two_pow (n:= 32) (crcAll_lt b (by decide)) (by decide)
theorem crcAll_snoc (b : UInt8) : ∀ (l : List UInt8) (x : Nat),crcAll x (l ++ [b]) = crcBits 8 (crcAll x l ^^^ b.toNat)
  | [],_ => rfl
  | c :: l,x => by simp only [List.cons_append,crcAll,crcAll_snoc b l]
theorem crcBits_succ : ∀ (n x : Nat),crcBits (n + 1) x = crcBit (crcBits n x)
  | 0,_ => rfl
  | n + 1,x => by rw [crcBits,crcBits_succ n];rfl
theorem u8back (x : UInt8) : UInt8.ofNat x.toNat = x:= by simp
def AppO (E : Env) (g : FuncId) (args : List AV) (out : List UInt8) : Prop:= ∀ (l : List UInt8) (v : AV) (h : Hp) (lo hi : Nat),OwS 0 u8T lo hi l v h → l.length + out.length ≤ 4194304 →
  ∃ v' h',RunF E g (v :: args) h (v',h') ∧ OwS 0 u8T lo h'.nx (l ++ out) v' h' ∧ h.Down h' ∧ (∀ q,q < lo → h'.hp q = h.hp q) ∧ h'.ap = h.ap
theorem hP_appO {E : Env} {g : FuncId} {args : List AV} {out l : List UInt8} {v : AV} {h : Hp} {lo hi : Nat} {d : Option Nat} {os : List SOper} {e : Ps} {Q : QS} (ha : AppO E g args out) (o : OwS 0 u8T lo hi l v h) (hb : l.length + out.length ≤ 4194304)
    (hw : ∀ v' h',OwS 0 u8T lo h'.nx (l ++ out) v' h' → h.Down h' → (∀ q,q < lo → h'.hp q = h.hp q) → h'.ap = h.ap → hP (kThen (some (upd? e d v',h')) E (lim E) os) Q) : hP (kThen (kOper d (some true) (dnO h (lim E g (v :: args) h)) e h) E (lim E) os) Q:= by
  obtain ⟨v',h',h1,h2,h3,h4,h5⟩:= ha l v h lo hi o hb
  exact hP_callK h1 h3 (hw v' h' h2 h3 h4 h5)
theorem appO_of {E : Env} {g : FuncId} {f : SFn} {args : List AV} {out : List UInt8} (hf : stF E g = some f)
    (hw : ∀ (l : List UInt8) (v : AV) (h : Hp) (lo hi : Nat),OwS 0 u8T lo hi l v h → l.length + out.length ≤ 4194304 → wp E f.body (fun i => (v :: args).getD i (.tup [])) h fun x e' h' => (∀ i,x ≠ .exit i) ∧ ∃ v',(sRes e' h' f.res).map evResult = some v' ∧
      OwS 0 u8T lo h'.nx (l ++ out) v' h' ∧ h.Down h' ∧ (∀ q,q < lo → h'.hp q = h.hp q) ∧ h'.ap = h.ap) : AppO E g args out:= fun l v h lo hi o hb => by
  obtain ⟨⟨v',h'⟩,h1,h2⟩:= run_wp (R:= fun r => OwS 0 u8T lo r.2.nx (l ++ out) r.1 r.2 ∧ h.Down r.2 ∧ (∀ q,q < lo → r.2.hp q = h.hp q) ∧ r.2.ap = h.ap) hf (hw l v h lo hi o hb)
  exact ⟨v',h',h1,h2⟩
theorem hP_pushX {E : Env} {c : CallH} {l : List UInt8} {v x : AV} {h : Hp} {lo hi : Nat} {d : Option Nat} {os : List SOper} {e : Ps} {Q : QS} (bs : List UInt8) (o : OwS 0 u8T lo hi l v h) (hx : rowsIn h 1 x = some (bs.map u8T.row)) (hb : l.length + bs.length ≤ 8388608)
    (hw : ∀ v' h',OwS 0 u8T lo h'.nx (l ++ bs) v' h' → h.Down h' → (∀ q,q < lo → h'.hp q = h.hp q) → h'.ap = h.ap → hP (kThen (some (upd? e d v',h')) E c os) Q) : hP (kThen (kOper d (some true) (sApp true 1 1 v x h) e h) E c os) Q:= by
  have hlo:= o.lh
  have hle:= o.le
  refine hP_growLd bs rfl rfl o hx (by unfold room;omega) fun v' h' g1 g2 g3 g4 => hw v' h' g1 g2 (fun q hq => g3 q (.inl hq) (by omega)) g4
theorem hP_push {E : Env} {c : CallH} {l : List UInt8} {v : AV} {h : Hp} {lo hi n : Nat} {d : Option Nat} {os : List SOper} {e : Ps} {Q : QS} (bs : List UInt8) (hn : n = bs.length) (o : OwS 0 u8T lo hi l v h) (hb : l.length + bs.length ≤ 8388608)
    (hw : ∀ v' h',OwS 0 u8T lo h'.nx (l ++ bs) v' h' → h.Down h' → (∀ q,q < lo → h'.hp q = h.hp q) → h'.ap = h.ap → hP (kThen (some (upd? e d v',h')) E c os) Q) : hP (kThen (kOper d (some true) (sApp true 1 1 v (.sl h.nx 0 n 1) (h.new (bs.map u8T.row).flatten)) e (h.new (bs.map u8T.row).flatten)) E c os) Q:= by
  subst hn
  have hlo:= o.lh
  have hle:= o.le
  have o2 : OwS 0 u8T lo hi l v (h.new (bs.map u8T.row).flatten):= o.mono (Nat.le_succ _) fun q _ hq => if_neg (by omega)
  refine hP_pushX bs o2 ?_ hb fun v' h' g1 g2 g3 g4 => hw v' h' g1 (Hp.Down.trans ⟨Nat.le_succ _,fun r cs hr e => by rw [← e];exact (if_neg (by omega)).symm⟩ g2) (fun q hq => (g3 q hq).trans (if_neg (by omega))) g4
  have hl : (bs.map u8T.row).flatten.length = bs.length:= by rw [flat_len (sz:= 1) (fun r hr => by obtain ⟨b,_,rfl⟩:= List.mem_map.1 hr;rfl)];simp
  have hch:= chunk_of_flat (sz:= 1) (rows:= bs.map u8T.row) fun r hr => by obtain ⟨b,_,rfl⟩:= List.mem_map.1 hr;rfl
  rw [List.length_map] at hch
  show (if (1 : Nat) = 1 then ((if h.nx = h.nx then some (bs.map u8T.row).flatten else h.hp h.nx).bind fun cs => if 0 + bs.length * 1 ≤ cs.length then some (chunk 1 (cs.drop 0) bs.length) else none) else none) = _
  rw [if_pos rfl,if_pos rfl,Option.bind_some,if_pos (by omega),List.drop_zero,hch]
theorem u8W {x : Nat} : IntKind.wrap .u8 (x : Int) = ((UInt8.ofNat x).toNat : Int):= by rw [wrapU8 (by omega),u8cell];omega
theorem rowsIn_str (h : Hp) (s : List UInt8) : rowsIn h 1 (.str s) = some (s.map u8T.row):= rfl
theorem u8fill (x : Int) : fillR (List.replicate 1 [.int .u8 0]) 1 [(0,.int .u8 x)] = some [[.int .u8 x]]:= rfl
theorem u8i64 (b : UInt8) : IntKind.wrap .i64 (b.toNat : Int) = (b.toNat : Int):= wrapId (by omega) (by have:= UInt8.toNat_lt b;omega)
theorem u8u32 (b : UInt8) : IntKind.wrap .u32 (b.toNat : Int) = (b.toNat : Int):= wrapU32 (by omega) (by have:= UInt8.toNat_lt b;omega)
theorem kBeq1 {a : Nat} (h : a % 2 = 1) : (((a % 2 : Nat) : Int) == 1) = true:= by rw [h];rfl
theorem kBeq0 {a : Nat} (h : ¬ a % 2 = 1) : (((a % 2 : Nat) : Int) == 1) = false:= by
  have : a % 2 = 0:= by omega
  rw [this];rfl
theorem crcBit1 {a : Nat} (h : a % 2 = 1) : crcBit a = a / 2 ^^^ 2197175160:= by unfold crcBit;rw [if_pos h]
theorem crcBit0 {a : Nat} (h : ¬ a % 2 = 1) : crcBit a = a / 2:= by unfold crcBit;rw [if_neg h]
theorem i64N {x : Nat} (h : x < 4294967296) : IntKind.wrap .i64 (x : Int) = (x : Int):= wrapId (by omega) (by omega)
theorem kNotU {x : Nat} (hx : x < 4294967296) (h : Hp) : kUn .xor (.int .u32 (x : Int)) h = some (.int .u32 ((x ^^^ 4294967295 : Nat) : Int),h):= by
  have hy : x ^^^ 4294967295 < 4294967296:= Nat.xor_lt_two_pow (n:= 32) hx (by decide)
  have : kUn .xor (.int .u32 (x : Int)) h = some (.int .u32 (IntKind.wrap .u32 ((BitVec.ofInt 32 ((4294967295 : Nat) : Int) ^^^ BitVec.ofInt 32 (x : Int)).toNat : Nat)),h):= rfl
  rw [this,BitVec.toNat_xor,bv32 (by decide),bv32 hx,Nat.xor_comm,wrapU32 (by omega) (by omega)]
theorem wl_count {E : Env} {body : SCode} (n : Nat) (I : Nat → Ps → Hp → Prop) (x0 : Ex) (J : Ps → Hp → Prop)
    (hgo : ∀ k e h,k < n → I k e h → wp E body e h fun x e1 h1 => x = .norm ∧ I (k + 1) e1 h1)
    (hend : ∀ e h,I n e h → wp E body e h fun x e1 h1 => x = x0 ∧ J e1 h1) (hx0 : x0 ≠ .norm) : ∀ (m k : Nat) (e : Ps) (h : Hp),k + m = n → I k e h → WL E body e h fun x e1 h1 => x = x0 ∧ J e1 h1
  | 0,k,e,h,hk,hi => by
    have : k = n:= by omega
    subst this
    refine .step ((wp_sound _ _ _ _ (hend e h hi)).mono ?_)
    rintro x e' h' ⟨rfl,hj⟩
    cases x with
    | norm => exact absurd rfl hx0
    | exit i => exact ⟨rfl,hj⟩
    | ret => exact ⟨rfl,hj⟩
  | m + 1,k,e,h,hk,hi => by
    refine .step ((wp_sound _ _ _ _ (hgo k e h (by omega) hi)).mono ?_)
    rintro _ e1 h1 ⟨rfl,hq⟩
    exact wl_count n I x0 J hgo hend hx0 m (k + 1) e1 h1 (by omega) hq
theorem w1N {k : Nat} (h : k ≤ 8388608) : IntKind.wrap .i64 ((k : Int) + 1) = ((k + 1 : Nat) : Int):= by rw [wrapId (by omega) (by omega)];rfl
theorem kShr1 {k : IntKind} (hk : 1 ≤ k.bits) (a : Nat) (h : Hp) : kBin .shr (.int k (a : Int)) (.int .u64 1) h = some (.int k ((a / 2 : Nat) : Int),h):= kShrN (s:= 1) hk h
theorem kShr8 (a : Nat) (h : Hp) : kBin .shr (.int .i64 (a : Int)) (.int .u64 8) h = some (.int .i64 ((a / 256 : Nat) : Int),h):= kShrN (s:= 8) (by decide) h
theorem kShr16 (a : Nat) (h : Hp) : kBin .shr (.int .i64 (a : Int)) (.int .u64 16) h = some (.int .i64 ((a / 65536 : Nat) : Int),h):= kShrN (s:= 16) (by decide) h
theorem kShr24 (a : Nat) (h : Hp) : kBin .shr (.int .i64 (a : Int)) (.int .u64 24) h = some (.int .i64 ((a / 16777216 : Nat) : Int),h):= kShrN (s:= 24) (by decide) h
theorem kXorC {a : Nat} (ha : a < 4294967296) (h : Hp) : kBin .xor (.int .i64 (a : Int)) (.int .i64 2197175160) h = some (.int .i64 ((a ^^^ 2197175160 : Nat) : Int),h):= kXorN ha (by decide) h
theorem kXorCu {a : Nat} (ha : a < 4294967296) (h : Hp) : kBin .xor (.int .u32 (a : Int)) (.int .u32 2197175160) h = some (.int .u32 ((a ^^^ 2197175160 : Nat) : Int),h):= kXor32 ha (by decide) h
theorem kXorF {a : Nat} (ha : a < 4294967296) (h : Hp) : kBin .xor (.int .i64 (a : Int)) (.int .i64 4294967295) h = some (.int .i64 ((a ^^^ 4294967295 : Nat) : Int),h):= kXorN ha (by decide) h
theorem d2 : decide (((2 : Nat) : Int) < 2) = false:= rfl
theorem d8 : decide (((8 : Nat) : Int) < 8) = false:= rfl
theorem rowsBytes_u8 : ∀ l : List UInt8,rowsBytes (l.map u8T.row) = some l
  | [] => rfl
  | b :: l => by
    simp only [List.map_cons,rowsBytes,rowsBytes_u8 l,u8T_row,rowByte,Int.toNat_natCast,Option.bind_some,Option.map_some]
    congr 2
    exact u8back b
theorem nsI (r : List (List AV)) : notStr (.imm r) = true:= rfl
theorem OwS.notStr {α : Type} {T : TD α} {n lo hi : Nat} {l : List α} {x : AV} {h : Hp} (o : OwS n T lo hi l x h) : Ev.notStr x = true:= by
  rcases o.ex with ⟨rfl,_⟩ | ⟨r,cs,R,rfl,_⟩ <;> rfl
theorem u8frz (x : Int) : frzRows [[.int .u8 x]] = some [[.int .u8 x]]:= rfl
theorem kAndN127 {a : Nat} (ha : a < 4294967296) (h : Hp) : kBin .and (.int .i64 (a : Int)) (.int .i64 127) h = some (.int .i64 ((a % 128 : Nat) : Int),h):= by
  have : kBin .and (.int .i64 (a : Int)) (.int .i64 127) h = some (.int .i64 (IntKind.wrap .i64 ((BitVec.ofInt 64 (a : Int) &&& BitVec.ofInt 64 ((127 : Nat) : Int)).toNat : Nat)),h):= rfl
  rw [this,BitVec.toNat_and,bv64 (by omega),bv64 (by decide),show (127 : Nat) = 2 ^ 7 - 1 from rfl,Nat.and_two_pow_sub_one_eq_mod,wrapId (by omega) (by omega)]
theorem kOr128 {a : Nat} (ha : a < 128) (h : Hp) : kBin .or (.int .i64 (a : Int)) (.int .i64 128) h = some (.int .i64 ((a + 128 : Nat) : Int),h):= by
  have : kBin .or (.int .i64 (a : Int)) (.int .i64 128) h = some (.int .i64 (IntKind.wrap .i64 ((BitVec.ofInt 64 (a : Int) ||| BitVec.ofInt 64 ((128 : Nat) : Int)).toNat : Nat)),h):= rfl
  rw [this,BitVec.toNat_or,bv64 (by omega),bv64 (by decide),Nat.or_comm,show (128 : Nat) = 2 ^ 7 * 1 from rfl,← Nat.two_pow_add_eq_or_of_lt (by omega),show 2 ^ 7 * 1 + a = a + 128 by omega,wrapId (by omega) (by omega)]
theorem kShr7 (a : Nat) (h : Hp) : kBin .shr (.int .i64 (a : Int)) (.int .u64 7) h = some (.int .i64 ((a / 128 : Nat) : Int),h):= kShrN (s:= 7) (by decide) h
end Go.Ev
namespace Go.Ev
open Go Go.RowKit
variable {P : Program} {WI : World → Prop} {f : FuncId}
theorem pure_split {t : TypeId} (he : Enters P f) (h : ∀ (s sep : ByteArray) (w : World),WI w → s.size < 4294967281 → 1 ≤ sep.size → Calls P f #[.string s,.string sep] w fun e w' =>
      e = .returned (.slice (some ⟨w.heap.size,0,none⟩) (Lib.countB s sep + 1) (Lib.countB s sep + 1)) ∧ w' = w.alloc (.cells ((Lib.splitB sep 0 (Lib.countB s sep) s).map Value.string).toArray t)) :
    PureOK P WI f (c2 strT strT (fun s sep => s.length < 4294967281 ∧ 1 ≤ sep.length) (fun l => .imm (l.map strT.row)) fun s sep => Lib.split s sep):= by
  refine ⟨he,fun w C vs ts t' hwi hsz hargs ht => ?_⟩
  obtain ⟨⟨s,sep⟩,⟨hp1,hp2⟩,rfl,rfl⟩:= ct_inv ht
  obtain ⟨v,z,rfl,hv,hz⟩:= args2 hsz hargs
  obtain ⟨b,rfl,rfl⟩:= RV.str_inv (s:= s) hv
  obtain ⟨d,rfl,rfl⟩:= RV.str_inv (s:= sep) hz
  simp only at hp1 hp2
  have hb : b.size = b.data.toList.length:= by rw [ByteArray.size,Array.length_toList]
  have hd : d.size = d.data.toList.length:= by rw [ByteArray.size,Array.length_toList]
  refine (h b d w hwi (by omega) (by omega)).mono ?_
  rintro e w' ⟨rfl,rfl⟩
  have hlen : (Lib.splitB d 0 (Lib.countB b d) b).length = Lib.countB b d + 1:= Lib.splitB_all d (by omega) 0 _ b rfl
  have hdat : (Lib.splitB d 0 (Lib.countB b d) b).map (·.data.toList) = Lib.split b.data.toList d.data.toList:= by
    rw [Lib.splitB_data]
    rfl
  refine ⟨_,rfl,⟨rfl,rfl,rfl,?_,fun k hk => ?_⟩,.ri ?_⟩
  · show w.heap.size ≤ (w.heap.push _).size
    simp
  · show (w.heap.push _)[k]? = w.heap[k]?
    rw [Array.getElem?_push_lt hk]
    simp [hk]
  · show RI _ _ _ (.imm ((Lib.split b.data.toList d.data.toList).map strT.row))
    rw [← hdat]
    generalize hl : Lib.splitB d 0 (Lib.countB b d) b = l at hlen
    refine .sl w.heap.size 0 _ _ 1 _ (fun i _ => .string (l.getD i ByteArray.empty)) (by simp [hlen]) (Nat.le_refl _) (fun row hr => ?_) (fun i j hi hj => ⟨.inr (Nat.le_refl _),?_⟩) (fun i j row c hi hj => ?_)
    · simp only [List.map_map,List.mem_map] at hr
      obtain ⟨x,_,rfl⟩:= hr
      rfl
    · have hj0 : j = 0:= by omega
      subst hj0
      have hil : i < l.length:= by omega
      unfold World.cell?
      have hh : (w.alloc (.cells (l.map Value.string).toArray t)).heap[w.heap.size]? = some (.cells (l.map Value.string).toArray t):= by
        show (w.heap.push _)[w.heap.size]? = _
        simp
      simp only [Nat.zero_add,Nat.mul_one,Nat.add_zero,hh]
      simp [hil,List.getD]
    · simp only [List.getElem?_map,Option.map_eq_some_iff] at hi
      obtain ⟨x,⟨y,h1,rfl⟩,rfl⟩:= hi
      have hj0 : j = 0:= by
        have:= (List.getElem?_eq_some_iff.1 hj).1
        simp [strT_row] at this
        omega
      subst hj0
      simp only [strT_row,List.getElem?_cons_zero,Option.some.injEq] at hj
      subst hj
      simp only [List.getD,h1,Option.getD_some]
      exact .str y
end Go.Ev
namespace Go.Ev
open Go Go.RowKit
section
variable {h : Hp}
end
def Cur (code : List UInt8) (r : Nat) (h : Hp) : Prop:= r < h.nx ∧ ∃ i x : Int,h.hp r = some [.imm (code.map u8T.row),.int .i64 i,.int .i64 x] ∧ 0 ≤ i ∧ i ≤ code.length
structure CurS (code : List UInt8) (r : Nat) (h h' : Hp) : Prop where
  cur : Cur code r h'
  hp : ∀ q,q < h.nx → q ≠ r → h'.hp q = h.hp q
  ap : ∀ q,q < h.nx → h'.ap q = h.ap q
  nx : h.nx ≤ h'.nx
theorem CurS.trans {code : List UInt8} {r : Nat} {h h1 h2 : Hp} (a : CurS code r h h1) (b : CurS code r h1 h2) : CurS code r h h2:=
  ⟨b.cur,fun q hq hr => (b.hp q (Nat.lt_of_lt_of_le hq a.nx) hr).trans (a.hp q hq hr),fun q hq => (b.ap q (Nat.lt_of_lt_of_le hq a.nx)).trans (a.ap q hq),Nat.le_trans a.nx b.nx⟩
theorem Cur.isCu {code : List UInt8} {r : Nat} {h : Hp} (c : Cur code r h) : Ev.isCu (h.hp r) = true:= by
  obtain ⟨_,i,x,h2,_⟩:= c
  rw [h2]
  rfl
theorem CurS.cu {code : List UInt8} {r : Nat} {h h' : Hp} (c : Cur code r h) (s : CurS code r h h') : h.Cu h':=
  ⟨s.nx,fun q hq => ⟨fun hn => s.hp q hq fun e => (by rw [e,c.isCu] at hn;cases hn),fun ht => by
    by_cases e : q = r
    · rw [e];exact s.cur.isCu
    · rw [s.hp q hq e];exact ht⟩⟩
theorem CurS.low {code : List UInt8} {r : Nat} {h h' : Hp} (c : Cur code r h) (s : CurS code r h h') : CurS code r h (h'.lower h.nx):= by
  have hp : ∀ q,q < h.nx → (h'.lower h.nx).hp q = h'.hp q:= fun q hq => if_pos hq
  refine ⟨?_,fun q hq hr => (hp q hq).trans (s.hp q hq hr),s.ap,s.nx⟩
  obtain ⟨h1,i,x,h2,h3⟩:= s.cur
  exact ⟨h1,i,x,(hp r c.1).trans h2,h3⟩
theorem Cur.same {code : List UInt8} {r : Nat} {h h' : Hp} (c : Cur code r h) (hn : h.nx ≤ h'.nx) (hp : h'.hp r = h.hp r) : Cur code r h':= by
  obtain ⟨h1,i,x,h2,h3⟩:= c
  exact ⟨Nat.lt_of_lt_of_le h1 hn,i,x,by rw [hp,h2],h3⟩
theorem CurS.more {code : List UInt8} {r : Nat} {h h1 h2 : Hp} (a : CurS code r h h1) (hn : h1.nx ≤ h2.nx) (hp : ∀ q,q < h1.nx → h2.hp q = h1.hp q) (ha : ∀ q,q < h1.nx → h2.ap q = h1.ap q) : CurS code r h h2:=
  ⟨a.cur.same hn (hp r a.cur.1),fun q hq hr => (hp q (Nat.lt_of_lt_of_le hq a.nx)).trans (a.hp q hq hr),fun q hq => (ha q (Nat.lt_of_lt_of_le hq a.nx)).trans (a.ap q hq),Nat.le_trans a.nx hn⟩
theorem CurS.pre {code : List UInt8} {r : Nat} {h h1 h2 : Hp} (a : CurS code r h1 h2) (hn : h.nx ≤ h1.nx) (hp : ∀ q,q < h.nx → q ≠ r → h1.hp q = h.hp q) (ha : ∀ q,q < h.nx → h1.ap q = h.ap q) : CurS code r h h2:=
  ⟨a.cur,fun q hq hr => (a.hp q (Nat.lt_of_lt_of_le hq hn) hr).trans (hp q hq hr),fun q hq => (a.ap q (Nat.lt_of_lt_of_le hq hn)).trans (ha q hq),Nat.le_trans hn a.nx⟩
theorem CurS.put {code : List UInt8} {r b : Nat} {h h1 h2 : Hp} (a : CurS code r h h1) (hb : h.nx ≤ b) (hbr : b ≠ r) (hn : h1.nx ≤ h2.nx) (hp : ∀ q,q ≠ b → q < h1.nx → h2.hp q = h1.hp q) (ha : ∀ q,q < h1.nx → h2.ap q = h1.ap q) : CurS code r h h2:=
  ⟨a.cur.same hn (hp r (Ne.symm hbr) a.cur.1),fun q hq hr => (hp q (by omega) (Nat.lt_of_lt_of_le hq a.nx)).trans (a.hp q hq hr),fun q hq => (ha q (Nat.lt_of_lt_of_le hq a.nx)).trans (a.ap q hq),Nat.le_trans a.nx hn⟩
theorem hP_appI {α : Type} {T : TD α} {l : List α} {id bt n : Nat} {E : Env} {c : CallH} {d : Option Nat} {os : List SOper} {e : Ps} {Q : QS} {x : AV} {h : Hp} (more : List α) (hn : n = T.sz) (ha : h.ap id = some (l.length,T.sz)) (hx : rowsIn h T.sz x = some (more.map T.row)) (hb : (l.length + more.length) * bt ≤ room)
    (hw : hP (kThen (some (upd? e d (.app id ((l ++ more).map T.row)),h.setApp id (l.length + more.length) T.sz)) E c os) Q) : hP (kThen (kOper d (some true) (sApp false bt n (.app id (l.map T.row)) x h) e h) E c os) Q:= by
  subst hn
  rw [kApp_rows T l more hx ha hb,kOper_go]
  exact hw
end Go.Ev
