/- An interpreter of the resolved code is sound: what it answers, the program does; no condition on the input. First part. -/
import Derived.Orders
import Derived.Laws.Build
import Derived.Below
import Derived.Laws.AppendOwn
import Derived.Laws.StructEq
import Derived.Laws.Slices
import Derived.Laws.BytesString
import Derived.Laws.MakeOwn
import Derived.Lib.ConvBytes
set_option linter.unusedVariables false
set_option linter.unusedSimpArgs false
set_option linter.unnecessarySimpa false
namespace Go.Ev
open Go
inductive AV where
  | unk
  | bool (b : Bool)
  | int (k : IntKind) (n : Int)
  | str (s : List UInt8)
  | pnil
  | ptr (r off : Nat)
  | cptr (cs : List AV)
  | snil
  | semp
  | imm (rows : List (List AV))
  | app (id : Nat) (rows : List (List AV))
  | sl (r off len sz : Nat)
  | agg (cs : List AV)
  | tup (vs : List AV)
  | inil
  | ifc (t : TypeId) (v : AV)
  deriving Inhabited
def AV.cells : AV → List AV
  | .agg cs => cs
  | v => [v]
def notCell : AV → Bool
  | .agg _ | .tup _ | .unk => true
  | _ => false
def isAggV : AV → Bool
  | .agg _ => true
  | _ => false
structure Hp where
  hp : Nat → Option (List AV)
  ap : Nat → Option (Nat × Nat)
  nx : Nat
def Hp.empty : Hp:= ⟨fun _ => none,fun _ => none,0⟩
def Hp.new (h : Hp) (cs : List AV) : Hp:= ⟨fun r => if r = h.nx then some cs else h.hp r,h.ap,h.nx + 1⟩
def Hp.newApp (h : Hp) (n sz : Nat) : Hp:= ⟨h.hp,fun r => if r = h.nx then some (n,sz) else h.ap r,h.nx + 1⟩
def Hp.setApp (h : Hp) (id n sz : Nat) : Hp:= ⟨h.hp,fun r => if r = id then some (n,sz) else h.ap r,h.nx⟩
def Hp.set (h : Hp) (r : Nat) (cs : List AV) : Hp:= ⟨fun q => if q = r then some cs else h.hp q,h.ap,h.nx⟩
def Hp.kill (h : Hp) (r : Nat) : Hp:= ⟨fun q => if q = r then none else h.hp q,h.ap,h.nx⟩
def absS : Value → AV
  | .bool b => .bool b
  | .int k n => .int k n
  | .string s => .str s.data.toList
  | .pointer none => .pnil
  | .slice none 0 0 => .snil
  | .nilIface => .inil
  | _ => .unk
def absV : Value → AV
  | .agg cs => if (cs.toList.map absS).any notCell then .unk else .agg (cs.toList.map absS)
  | .tuple vs => if vs.isEmpty then .tup [] else .unk
  | v => absS v
def szT (P : Program) (t : TypeId) : Option Nat:= (P.info? t).map (·.size)
def byT (P : Program) (t : TypeId) : Nat:= ((P.info? t).map (·.bytes)).getD 0
def aggT (P : Program) (t : TypeId) : Option Bool:=
  (P.underlying t).map fun | .struct _ | .array _ _ => true | _ => false
def offT (P : Program) (s f : Nat) : Option Nat:=
  match P.underlying s with
  | some (.struct fs) => (fs[f]?).bind fun g => if ((szT P g.type).getD 0) = 0 then none else some g.offset
  | _ => none
def fldT (P : Program) (s f : Nat) : Option (Nat × TypeId):=
  match P.underlying s with
  | some (.struct fs) => (fs[f]?).map fun g => (g.offset,g.type)
  | _ => none
def elT (P : Program) (t : TypeId) : Option TypeId:=
  match P.underlying t with
  | some (.slice e) => some e
  | _ => none
def zeroT (P : Program) (t : TypeId) : Option (List AV):= ((P.info? t).bind (·.zero)).map fun z => (absV z).cells
def infoT (P : Program) (t : TypeId) : Bool:=
  match P.underlying t with
  | some (.struct fs) => fs.toList.all fun f => (P.info? f.type).isSome
  | _ => false
inductive TK where
  | bool | int (k : IntKind) | str | slice (e : TypeId) | iface | other
  deriving DecidableEq
def kindT (P : Program) (t : TypeId) : TK:=
  match P.underlying t with
  | some .bool => .bool
  | some (.int k) => .int k
  | some .string => .str
  | some (.slice e) => .slice e
  | some (.interface _) => .iface
  | _ => .other
def flatFs (P : Program) : Nat → List Field → Option (List TK)
  | _,[] => some []
  | i, f :: r => if f.offset = i ∧ f.name ≠ "_" then
      match kindT P f.type with
      | .bool => (flatFs P (i + 1) r).map (TK.bool :: ·)
      | .int k => (flatFs P (i + 1) r).map (TK.int k :: ·)
      | .str => (flatFs P (i + 1) r).map (TK.str :: ·)
      | _ => none
    else none
def flatT (P : Program) (t : TypeId) : Option (List TK):=
  match P.underlying t with
  | some (.struct fs) => if P.stoodInHeld t || P.eqGuardType P.depth t then none else flatFs P 0 fs.toList
  | _ => none
def asRows : AV → Option (List (List AV))
  | .snil => some []
  | .imm rows => some rows
  | .app _ rows => some rows
  | _ => none
def frzCell : AV → Option AV
  | .bool b => some (.bool b)
  | .int k n => some (.int k n)
  | .str s => some (.str s)
  | .snil => some (.imm [])
  | .semp => some (.imm [])
  | .imm rows => some (.imm rows)
  | .app _ rows => some (.imm rows)
  | .inil => some .inil
  | .pnil => some .pnil
  | _ => none
def frzCells : List AV → Option (List AV)
  | [] => some []
  | c :: r => (frzCell c).bind fun c' => (frzCells r).map fun r' => c' :: r'
def frz : AV → Option AV
  | .agg cs => (frzCells cs).map .agg
  | .tup _ => none
  | v => frzCell v
def frzAll : List AV → Option (List AV)
  | [] => some []
  | c :: r => (frz c).bind fun c' => (frzAll r).map fun r' => c' :: r'
def frzRows : List (List AV) → Option (List (List AV))
  | [] => some []
  | c :: r => (frzCells c).bind fun c' => (frzRows r).map fun r' => c' :: r'
def byteRow (b : UInt8) : List AV:= [.int .u8 b.toNat]
def rowByte : List AV → Option UInt8
  | [.int .u8 n] => some (UInt8.ofNat n.toNat)
  | _ => none
def rowsBytes : List (List AV) → Option (List UInt8)
  | [] => some []
  | c :: r => (rowByte c).bind fun c' => (rowsBytes r).map fun r' => c' :: r'
def eqK : TK → AV → AV → Option Bool
  | .bool,.bool a,.bool b => some (a == b)
  | .int _,.int k a,.int k' b => if k = k' then some (a == b) else none
  | .str,.str a,.str b => some (a == b)
  | _,_,_ => none
def eqCells : List TK → List AV → List AV → Option Bool
  | [],[],[] => some true
  | k :: l,a :: x,b :: y => (eqK k a b).bind fun e => if e then eqCells l x y else some false
  | _,_,_ => none
def evInt (op : BinOp) (k : IntKind) (a b : Int) : Option AV:=
  match op with
  | .add => some (.int k (k.wrap (a + b)))
  | .sub => some (.int k (k.wrap (a - b)))
  | .mul => some (.int k (k.wrap (a * b)))
  | .quo => if b = 0 then none else some (.int k (k.wrap (a.tdiv b)))
  | .rem => if b = 0 then none else some (.int k (a.tmod b))
  | .and => some (.int k (k.wrap ((BitVec.ofInt k.bits a &&& BitVec.ofInt k.bits b).toNat : Nat)))
  | .or => some (.int k (k.wrap ((BitVec.ofInt k.bits a ||| BitVec.ofInt k.bits b).toNat : Nat)))
  | .xor => some (.int k (k.wrap ((BitVec.ofInt k.bits a ^^^ BitVec.ofInt k.bits b).toNat : Nat)))
  | .andNot => some (.int k (k.wrap ((BitVec.ofInt k.bits a &&& ~~~ BitVec.ofInt k.bits b).toNat : Nat)))
  | .eql => some (.bool (a == b))
  | .neq => some (.bool (a != b))
  | .lss => some (.bool (a < b))
  | .leq => some (.bool (a ≤ b))
  | .gtr => some (.bool (a > b))
  | .geq => some (.bool (a ≥ b))
  | _ => none
def evShift (op : BinOp) (k : IntKind) (a b : Int) : Option AV:=
  if b < 0 then none else
  match op with
  | .shl => some (.int k (k.wrap (a * 2 ^ (min b.toNat k.bits))))
  | .shr => some (.int k (a.fdiv (2 ^ (min b.toNat k.bits))))
  | _ => none
def evStr (op : BinOp) (a b : List UInt8) : Option AV:=
  match op with
  | .add => if a.length + b.length ≤ 9223372036854775807 then some (.str (a ++ b)) else none
  | .eql => some (.bool (a == b))
  | .neq => some (.bool (!(a == b)))
  | .lss => some (.bool (Op.bytesLess a b))
  | .leq => some (.bool (Op.bytesLess a b || a == b))
  | .gtr => some (.bool (!(Op.bytesLess a b || a == b)))
  | .geq => some (.bool (!(Op.bytesLess a b)))
  | _ => none
def isK : Operand → Bool
  | .const _ => true
  | _ => false
def evBin (P : Program) (op : BinOp) (t : TypeId) (kk : Bool) (x y : AV) : Option AV:=
  match x,y with
  | .int k a,.int k' b =>
    match op with
    | .shl | .shr => evShift op k a b
    | _ => if k = k' then evInt op k a b else none
  | .str a,.str b => evStr op a b
  | .bool a,.bool b =>
    if kindT P t = .bool then
      match op with
      | .eql => some (.bool (a == b))
      | .neq => some (.bool (!(a == b)))
      | _ => none
    else none
  | .agg a,.agg b =>
    match flatT P t,op with
    | some ks,.eql => (eqCells ks a b).map .bool
    | some ks,.neq => (eqCells ks a b).map fun e => .bool (!e)
    | _,_ => none
  | .ifc _ _,.inil | .inil,.ifc _ _ =>
    if kindT P t = .iface then
      match op with
      | .eql => some (.bool false)
      | .neq => some (.bool true)
      | _ => none
    else none
  | .inil,.inil =>
    if kindT P t = .iface ∧ kk = true then
      match op with
      | .eql => some (.bool true)
      | .neq => some (.bool false)
      | _ => none
    else none
  | _,_ => none
def evUn (op : UnOp) (x : AV) : Option AV:=
  match op,x with
  | .neg,.int k n => some (.int k (k.wrap (0 - n)))
  | .xor,.int k n => some (.int k (k.wrap ((BitVec.ofInt k.bits (if k.signed then -1 else k.max) ^^^ BitVec.ofInt k.bits n).toNat : Nat)))
  | .not,.bool b => some (.bool !b)
  | _,_ => none
def fillAt (cs : List AV) (off : Nat) : List AV → List AV
  | [] => cs
  | v :: r => fillAt (cs.set off v) (off + 1) r
def fillF (P : Program) (t : TypeId) (cs : List AV) : List (Nat × AV) → Option (List AV)
  | [] => some cs
  | (i,v) :: rest =>
    match fldT P t i with
    | none => none
    | some (off,ft) => if (!notCell v || isAggV v) ∧ szT P ft = some v.cells.length ∧ off + v.cells.length ≤ cs.length then fillF P t (fillAt cs off v.cells) rest else none
def fillR (rows : List (List AV)) (sz : Nat) : List (Nat × AV) → Option (List (List AV))
  | [] => some rows
  | (i,v) :: rest => if (!notCell v || isAggV v) ∧ v.cells.length = sz ∧ i < rows.length then fillR (rows.set i v.cells) sz rest else none
def chunk (sz : Nat) (cs : List AV) : Nat → List (List AV)
  | 0 => []
  | n + 1 => cs.take sz :: chunk sz (cs.drop sz) n
def rowsIn (h : Hp) (sz : Nat) : AV → Option (List (List AV))
  | .snil => some []
  | .semp => some []
  | .imm rows => some rows
  | .app _ rows => some rows
  | .sl r off len s => if s = sz then (h.hp r).bind fun cs => if off + len * sz ≤ cs.length then some (chunk sz (cs.drop off) len) else none else none
  | .str s => some (s.map byteRow)
  | _ => none
def room : Nat:= 140737488355328
def headLen (sz : Nat) : List (List AV) → Bool
  | [] => true
  | r :: _ => r.length == sz
def evAppend (P : Program) (rw : Bool) (argTypes : Array TypeId) (s x : AV) (h : Hp) : Option (AV × Hp):=
  match (argTypes[0]?).bind (elT P),(argTypes[1]?).map (kindT P) with
  | some e,some xk =>
    match xk,szT P e with
    | .int _,_ => none
    | _,none => none
    | _,some sz =>
      if sz = 0 then none else
      (zeroT P e).bind fun z =>
      if argTypes.size = 2 ∧ ((argTypes[1]?).bind P.underlying).isSome = true ∧ z.length = sz ∧ (!z.any notCell) = true ∧ byT P e ≠ 0 then
      (rowsIn h sz x).bind fun more =>
      if headLen sz more then
      match s with
      | .snil =>
        if more.isEmpty then some (.snil,h) else
        if more.length * byT P e ≤ room then
          if rw then some (.sl h.nx 0 more.length sz,h.new more.flatten)
          else (frzRows more).bind fun more' => some (.app h.nx more',h.newApp more'.length sz)
        else none
      | .app id rows =>
        if rw then none else
        if h.ap id = some (rows.length,sz) ∧ (rows.length + more.length) * byT P e ≤ room then
          (frzRows more).bind fun more' => some (.app id (rows ++ more'),h.setApp id (rows.length + more'.length) sz)
        else none
      | .sl r off len s =>
        if rw ∧ off = 0 ∧ s = sz then (h.hp r).bind fun cs =>
          if cs.length = len * sz ∧ (len + more.length) * byT P e ≤ room then
            some (.sl h.nx 0 (len + more.length) sz,(h.kill r).new (cs ++ more.flatten))
          else if len * sz < cs.length ∧ (len + more.length) * byT P e ≤ room then
            some (.sl h.nx 0 (len + more.length) sz,(h.kill r).new (cs.take (len * sz) ++ more.flatten))
          else none
        else none
      | _ => none
      else none
      else none
  | _,_ => none
def asNat (lim : Nat) : Option AV → Nat → Option Nat
  | none,d => some d
  | some (.int _ i),_ => if 0 ≤ i ∧ i ≤ (lim : Int) then some i.toNat else none
  | some _,_ => none
def evSlice (P : Program) (t : TypeId) (x : AV) (lo hi : Option AV) : Option AV:=
  match kindT P t,x with
  | .str,.str s =>
    (asNat s.length hi s.length).bind fun h => (asNat h lo 0).bind fun l => some (.str ((s.take h).drop l))
  | .slice e,.snil => (szT P e).bind fun _ => (asNat 0 hi 0).bind fun h => (asNat h lo 0).bind fun _ => some (.imm [])
  | .slice e,.imm rows =>
    (szT P e).bind fun sz => if headLen sz rows then (asNat rows.length hi rows.length).bind fun h => (asNat h lo 0).bind fun l => some (.imm ((rows.take h).drop l)) else none
  | .slice e,.app _ rows =>
    (szT P e).bind fun sz => if headLen sz rows then (asNat rows.length hi rows.length).bind fun h => (asNat h lo 0).bind fun l => some (.imm ((rows.take h).drop l)) else none
  | .slice e,.sl r off len s =>
    (szT P e).bind fun sz => if s ≠ sz then none else (asNat len hi len).bind fun h => (asNat h lo 0).bind fun l => if l < len ∨ l = 0 then some (.sl r (off + l * sz) (h - l) sz) else none
  | _,_ => none
structure Env where
  P : Program
  T : FuncId → Option (List AV → Option AV)
  rw : FuncId → List Tmp
  fr : FuncId → Bool
  dp : FuncId → Nat
def mapO {α β : Type} (f : α → Option β) : List α → Option (List β)
  | [] => some []
  | a :: r => (f a).bind fun b => (mapO f r).map fun l => b :: l
def frzD : Nat → Hp → AV → Option AV
  | 0,_,v => frzCell v
  | n + 1,h,v => match v with
    | .sl r off len sz => (h.hp r).bind fun cs => if off + len * sz ≤ cs.length then (mapO (mapO (frzD n h)) (chunk sz (cs.drop off) len)).map .imm else none
    | v => frzCell v
def frzT (n : Nat) (h : Hp) : AV → Option AV
  | .agg cs => (mapO (frzD n h) cs).map .agg
  | v => frzD n h v
def frzE (n : Nat) (h : Hp) : AV → Option AV
  | .tup vs => (mapO (frzT n h) vs).map .tup
  | v => frzT n h v
def leafV : AV → Bool
  | .bool _ | .int _ _ | .str _ | .pnil | .inil | .imm [] => true
  | _ => false
def dthL (f : AV → Hp → Option (AV × Hp)) : List AV → Hp → Option (List AV × Hp)
  | [],h => some ([],h)
  | v :: r,h => (f v h).bind fun p => (dthL f r p.2).map fun q => (p.1 :: q.1,q.2)
def dth : Nat → AV → Hp → Option (AV × Hp)
  | 0,v,h => if leafV v then some (v,h) else none
  | n + 1,v,h => match v with
    | .imm (r0 :: rows) => if r0.length = 0 then none else (dthL (dth n) (r0 :: rows).flatten h).map fun p => (.sl p.2.nx 0 (rows.length + 1) r0.length,p.2.new p.1)
    | v => if leafV v then some (v,h) else none
def dthT (n : Nat) (v : AV) (h : Hp) : Option (AV × Hp):= match v with
  | .agg cs => (dthL (dth n) cs h).map fun p => (.agg p.1,p.2)
  | v => dth n v h
def dthE (n : Nat) (v : AV) (h : Hp) : Option (AV × Hp):= match v with
  | .tup vs => (dthL (dthT n) vs h).map fun p => (.tup p.1,p.2)
  | v => dthT n v h
def deepC (F : List AV → Option AV) (th : Bool) (args : List AV) (h : Hp) : Option (AV × Hp):=
  (mapO (frzT 8 h) args).bind fun ts => (F ts).bind fun t => if th then dthE 8 t h else some (t,h)
def thaw (b : Bool) (v : AV) (h : Hp) : AV × Hp:= if b then (match v with | .app sz rows => (.app h.nx rows,h.newApp rows.length sz) | v => (v,h)) else (v,h)
def rwOf (E : Env) (f : FuncId) (dst : Option Tmp) : Bool:= match dst with | some d => (E.rw f).contains d | none => false
def notStr : AV → Bool
  | .str _ => false
  | _ => true
def evMinMax (f : Int → Int → Int) (k : IntKind) (a : Int) : List AV → Option AV
  | [] => some (.int k a)
  | .int k' b :: r => if k = k' then evMinMax f k (f a b) r else none
  | _ => none
def evBuiltin (E : Env) (rw : Bool) (b : Builtin) (argTypes : Array TypeId) (args : List AV) (h : Hp) : Option (AV × Hp):=
  match b,args with
  | .len,[x] =>
    match (argTypes[0]?).map (kindT E.P),x with
    | some .str,.str s => some (.int .i64 s.length,h)
    | some (.slice _),.snil => some (.int .i64 0,h)
    | some (.slice _),.semp => some (.int .i64 0,h)
    | some (.slice _),.imm rows => some (.int .i64 rows.length,h)
    | some (.slice _),.app _ rows => some (.int .i64 rows.length,h)
    | some (.slice _),.sl _ _ len _ => some (.int .i64 len,h)
    | _,_ => none
  | .append,[s,x] => evAppend E.P rw argTypes s x h
  | .max,.int k a :: r => (evMinMax (fun a b => if b > a then b else a) k a r).map fun v => (v,h)
  | .min,.int k a :: r => (evMinMax (fun a b => if b < a then b else a) k a r).map fun v => (v,h)
  | _,_ => none
def imOf (E : Env) (f : FuncId) (dst : Option Tmp) : Bool:= match dst with | some d => (E.rw f).contains (d + 1000) | none => false
def isApp : Builtin → Bool
  | .append => true
  | _ => false
def evAppI (P : Program) (argTypes : Array TypeId) (args : List AV) (h : Hp) : Option (AV × Hp):=
  match args with
  | [.snil,x] => (evAppend P false argTypes .snil x h).bind fun p => match p.1 with
    | .snil => some (.snil,h)
    | .app _ rows => some (.imm rows,h)
    | _ => none
  | [.semp,x] => (evAppend P false argTypes .snil x h).bind fun p => match p.1 with
    | .snil => some (.semp,h)
    | .app _ rows => some (.imm rows,h)
    | _ => none
  | _ => none
def evLoad (P : Program) (t : TypeId) (cs : List AV) : Option AV:=
  match aggT P t,szT P t with
  | some true,some n => if n ≤ cs.length then some (.agg (cs.take n)) else none
  | some false,some _ => cs.head?
  | _,_ => none
def splice (cs : List AV) (off : Nat) (vs : List AV) : List AV:= cs.take off ++ vs ++ cs.drop (off + vs.length)
def sortI (zs : List Int) : List Int:= zs.mergeSort fun x y => decide (x ≤ y)
def intsOf : List AV → Option (List Int)
  | [] => some []
  | .int .i64 n :: r => (intsOf r).map (n :: ·)
  | _ => none
def sortC (F : List AV → Option AV) (args : List AV) (h : Hp) : Option (AV × Hp):= match args with
  | [.sl r off len sz] => if sz = 1 ∧ len ≤ 1048576 then (h.hp r).bind fun cs => if off + len ≤ cs.length then (intsOf ((cs.drop off).take len)).bind fun zs => (F []).map fun _ => (.tup [],h.set r (splice cs off ((sortI zs).map (.int .i64)))) else none else none
  | _ => none
def Hp.Down (h k : Hp) : Prop:= h.nx ≤ k.nx ∧ ∀ r cs,r < h.nx → k.hp r = some cs → h.hp r = some cs
open Classical in
noncomputable def dnO (h : Hp) (r : Option (AV × Hp)) : Option (AV × Hp):= r.bind fun p => if h.Down p.2 then some p else none
def Hp.Up (h k : Hp) : Prop:= h.nx ≤ k.nx ∧ ∀ r,r < h.nx → k.hp r = h.hp r
open Classical in
noncomputable def upO (h : Hp) (r : Option (AV × Hp)) : Option (AV × Hp):= r.bind fun p => if h.Up p.2 then some p else none
def isCuL : List AV → Bool
  | [.imm _,.int _ _,.int _ _] => true
  | [.imm _,.int _ _,.bool _] => true
  | _ => false
def isCu : Option (List AV) → Bool
  | some cs => isCuL cs
  | none => false
def Hp.Cu (h k : Hp) : Prop:= h.nx ≤ k.nx ∧ ∀ r,r < h.nx → (isCu (h.hp r) = false → k.hp r = h.hp r) ∧ (isCu (h.hp r) = true → isCu (k.hp r) = true)
open Classical in
noncomputable def cuO (h : Hp) (r : Option (AV × Hp)) : Option (AV × Hp):= r.bind fun p => if h.Cu p.2 then some p else none
def Hp.upper (h : Hp) (lo : Nat) : Hp:= ⟨fun q => if q < lo then none else h.hp q,h.ap,h.nx⟩
def Hp.lower (h : Hp) (lo : Nat) : Hp:= ⟨fun q => if q < lo then h.hp q else none,h.ap,h.nx⟩
def zfz (h : Hp) (r : Option (AV × Hp)) : Option (AV × Hp):= r.bind fun p => (frzE 8 (p.2.upper h.nx) p.1).map fun t => (t,p.2.lower h.nx)
def zfOf (E : Env) (f : FuncId) (dst : Option Tmp) : Bool:= match dst with | some d => (E.rw f).contains (d + 4000) | none => false
def glOf (E : Env) (f : FuncId) (dst : Option Tmp) : Bool:= match dst with | some d => (E.rw f).contains (d + 3000) | none => false
def cuP (a : AV) (h : Hp) : Bool:= match a with | .ptr r _ => isCu (h.hp r) | _ => false
def cvOf (E : Env) (f : FuncId) (dst : Option Tmp) : Bool:= match dst with | some d => (E.rw f).contains (d + 2000) | none => false
abbrev CallH:= FuncId → List AV → Hp → Option (AV × Hp)
def evMake (E : Env) (rw : Bool) (t : TypeId) (len cap : AV) (h : Hp) : Option (AV × Hp):=
  match elT E.P t,len,cap with
  | some e,.int _ l,.int _ c =>
    (szT E.P e).bind fun sz => (zeroT E.P e).bind fun z =>
    if 0 ≤ l ∧ l ≤ c ∧ c ≤ 9223372036854775807 ∧ (byT E.P e : Int) * c ≤ room ∧ z.length = sz ∧ sz ≠ 0 ∧ !z.any notCell then
      if rw then some (.sl h.nx 0 l.toNat sz,h.new (List.replicate l.toNat z).flatten)
      else (frzCells z).bind fun z' => some (.app h.nx (List.replicate l.toNat z'),h.newApp l.toNat sz)
    else none
  | _,_,_ => none
noncomputable def evX (E : Env) (call : CallH) (f : FuncId) (dst : Option Tmp) (ρ : Operand → AV) (op : Op) (h : Hp) : Option (AV × Hp):=
  let rw : Bool:= rwOf E f dst
  match op with
  | .move x => some (ρ x,h)
  | .assign x => some (ρ x,h)
  | .pick c a b => match ρ c with | .bool t => some (if t then ρ a else ρ b,h) | _ => none
  | .alloc t => (zeroT E.P t).bind fun z => if z.any notCell then none else some (.ptr h.nx 0,h.new z)
  | .box _ x => if notCell (ρ x) && !isAggV (ρ x) then none else some (.ptr h.nx 0,h.new (ρ x).cells)
  | .build t parts =>
    if infoT E.P t then (zeroT E.P t).bind fun z => if z.any notCell then none else (fillF E.P t z (parts.toList.map fun p => (p.1,ρ p.2))).map fun cs => (.agg cs,h)
    else none
  | .buildSlice t len parts =>
    (elT E.P t).bind fun e => (szT E.P e).bind fun sz => (zeroT E.P e).bind fun z =>
    if z.length = sz ∧ sz ≠ 0 ∧ len * sz ≤ 16777216 ∧ !z.any notCell then
      (fillR (List.replicate len z) sz (parts.toList.map fun p => (p.1,ρ p.2))).bind fun rows =>
      if imOf E f dst then (if len = 0 then some (.semp,h) else none)
      else if rw then some (.sl h.nx 0 len sz,h.new rows.flatten)
      else (frzRows rows).bind fun rows' => some (.app h.nx rows',h.newApp len sz)
    else none
  | .load t a =>
    if (glOf E f dst && cuP (ρ a) h) = true then none else
    match ρ a with
    | .ptr r off => (h.hp r).bind fun cs => if off ≤ cs.length then (evLoad E.P t (cs.drop off)).map fun v => (v,h) else none
    | .cptr cs => (evLoad E.P t cs).map fun v => (v,h)
    | _ => none
  | .store t a x =>
    match ρ a with
    | .ptr r off => (h.hp r).bind fun cs =>
      if szT E.P t = some (ρ x).cells.length ∧ off + (ρ x).cells.length ≤ cs.length ∧ !(ρ x).cells.any notCell then some (.tup [],h.set r (splice cs off (ρ x).cells)) else none
    | _ => none
  | .nilCheck x => match ρ x with | .ptr r off => some (.ptr r off,h) | .cptr cs => some (.cptr cs,h) | _ => none
  | .binOp op t x y _ => (evBin E.P op t (isK x || isK y) (ρ x) (ρ y)).map fun v => (v,h)
  | .unOp op _ x => (evUn op (ρ x)).map fun v => (v,h)
  | .convert src dt x =>
    match kindT E.P src,kindT E.P dt,ρ x with
    | .int _,.int k,.int _ n => some (.int k (k.wrap n),h)
    | .str,.str,.str s => some (.str s,h)
    | .str,.slice e,.str s => if kindT E.P e = .int .u8 then some (.imm (s.map byteRow),h) else none
    | .slice e,.str,v => if kindT E.P e = .int .u8 ∧ notStr v = true then (if cvOf E f dst then asRows v else rowsIn h 1 v).bind fun rows => (rowsBytes rows).map fun s => (.str s,h) else none
    | _,_,_ => none
  | .makeInterface t x => if E.P.concrete t then some (.ifc t (ρ x),h) else none
  | .makeSlice t l c => evMake E rw t (ρ l) (ρ c) h
  | .slice t x lo hi none => (evSlice E.P t (ρ x) (lo.map ρ) (hi.map ρ)).map fun v => (v,h)
  | .fieldAddr s x k =>
    (offT E.P s k).bind fun off => match ρ x with
      | .ptr r o => some (.ptr r (o + off),h)
      | .cptr cs => some (.cptr (cs.drop off),h)
      | _ => none
  | .field s x k =>
    (fldT E.P s k).bind fun p => match ρ x with
      | .agg cs => match aggT E.P p.2,szT E.P p.2 with
        | some true,some n => some (.agg ((cs.drop p.1).take n),h)
        | some false,_ => (cs[p.1]?).map fun v => (v,h)
        | _,_ => none
      | _ => none
  | .indexAddr t x i =>
    match kindT E.P t,ρ i with
    | .slice e,.int _ j => (szT E.P e).bind fun sz =>
      if 0 ≤ j then match ρ x with
        | .imm rows => (rows[j.toNat]?).bind fun row => if row.length = sz then some (.cptr row,h) else none
        | .app _ rows => (rows[j.toNat]?).bind fun row => if row.length = sz then some (.cptr row,h) else none
        | .sl r off len s => if j.toNat < len ∧ s = sz then some (.ptr r (off + j.toNat * sz),h) else none
        | _ => none
      else none
    | _,_ => none
  | .index t x i =>
    match kindT E.P t,ρ x,ρ i with
    | .str,.str s,.int _ j => if 0 ≤ j then (s[j.toNat]?).map fun b => (.int .u8 b.toNat,h) else none
    | _,_,_ => none
  | .extract x i => match ρ x with | .tup vs => (vs[i]?).map fun v => (v,h) | _ => none
  | .call c =>
    match c.callee with
    | .builtin b => if isApp b && imOf E f dst then evAppI E.P c.argTypes (c.args.toList.map ρ) h else evBuiltin E rw b c.argTypes (c.args.toList.map ρ) h
    | .value (.func g) =>
      match E.T g with
      | some F => if E.dp g = 0 then (frzAll (c.args.toList.map ρ)).bind fun args => (F args).map fun v => thaw (E.fr g) v h else if E.dp g = 3 then sortC F (c.args.toList.map ρ) h else deepC F (E.dp g == 1 && rw) (c.args.toList.map ρ) h
      | none => if E.dp g = 7 then dnO h (if zfOf E f dst = true then zfz h (call g (c.args.toList.map ρ) h) else call g (c.args.toList.map ρ) h) else if E.dp g = 8 then upO h (if zfOf E f dst = true then zfz h (call g (c.args.toList.map ρ) h) else call g (c.args.toList.map ρ) h) else if E.dp g = 9 then cuO h (if zfOf E f dst = true then zfz h (call g (c.args.toList.map ρ) h) else call g (c.args.toList.map ρ) h) else (if zfOf E f dst = true then zfz h (call g (c.args.toList.map ρ) h) else call g (c.args.toList.map ρ) h)
    | _ => none
  | _ => none
structure St where
  tm : List AV
  h : Hp
def St.eval (st : St) : Operand → AV
  | .tmp t => st.tm.getD t (.tup [])
  | .const v => absV v
  | _ => .unk
def St.put (st : St) (dst : Option Tmp) (v : AV) : St:=
  match dst with
  | some d => ⟨st.tm.set d v,st.h⟩
  | none => st
def evWanted (ops : Array Oper) (o : Oper) (st : St) : Option Bool:=
  match o.guard with
  | none => some true
  | some (j,want) => match (ops[j]?).bind (·.dst) with
    | some d => match st.tm.getD d (.tup []) with
      | .bool b => some (b == want)
      | .tup [] => some false
      | _ => none
    | none => none
noncomputable def evOper (E : Env) (call : CallH) (f : FuncId) (ops : Array Oper) (o : Oper) (st : St) : Option St:=
  (evWanted ops o st).bind fun w =>
    if w then (evX E call f o.dst st.eval o.op st.h).map fun p => (St.put ⟨st.tm,p.2⟩ o.dst p.1)
    else some (st.put o.dst (.tup []))
noncomputable def evOps (E : Env) (call : CallH) (f : FuncId) (ops : Array Oper) : List Oper → St → Option St
  | [],st => some st
  | o :: r,st => (evOper E call f ops o st).bind fun st' => evOps E call f ops r st'
inductive Ex where
  | norm | exit (id : Nat) | ret
  deriving DecidableEq
def fpOf (E : Env) (f : FuncId) (o : Oper) : Nat:=
  match o.op with
  | .move _ | .assign _ | .pick .. | .build .. | .nilCheck _ | .binOp .. | .unOp .. | .makeInterface .. | .slice .. | .fieldAddr .. | .field .. | .indexAddr .. | .index .. | .extract .. => 0
  | .load .. => if glOf E f o.dst then 7 else 5
  | .alloc .. => 4
  | .buildSlice .. => if imOf E f o.dst then 0 else if rwOf E f o.dst then 3 else 2
  | .makeSlice .. => if rwOf E f o.dst then 3 else 2
  | .convert src _ _ => match kindT E.P src with
    | .slice _ => if cvOf E f o.dst then 0 else 1
    | _ => 0
  | .call c => match c.callee with
    | .builtin .len | .builtin .max | .builtin .min => 0
    | .builtin .append => if imOf E f o.dst then 1 else 3
    | .value (.func g) => if (E.T g).isSome then (if E.dp g = 0 then (if E.fr g then 2 else 0) else if E.dp g = 3 then 3 else if (E.dp g == 1 && rwOf E f o.dst) = true then 4 else 1) else if E.dp g = 7 then 6 else if E.dp g = 8 then 4 else if E.dp g = 9 then 9 else 3
    | _ => 3
  | _ => 3
def fpClash (a b : Nat) : Bool:= !(a == 0 || b == 0 || ((a == 1 || a == 5 || a == 7) && (b == 1 || b == 5 || b == 7)) || ((a == 1 || a == 5 || a == 7) && b == 2) || (a == 2 && (b == 1 || b == 5 || b == 7)) || (a == 4 && (b == 1 || b == 5 || b == 7)) || ((a == 5 || a == 7) && b == 4) || ((a == 5 || a == 7) && b == 6) || (a == 7 && b == 9) || (a == 9 && b == 7))
def befores (ops : List Oper) : List Nat:=
  (ops.foldl (fun (acc : List Nat) o => acc ++ [o.after.toList.foldl (fun s e => if Region.binds .any e then s ||| (2 ^ e.on) ||| (acc.getD e.on 0) else s) 0]) [])
def isNilC : Operand → Bool
  | .const (.slice none 0 0) => true
  | _ => false
def isA (E : Env) (f : FuncId) (o : Oper) : Bool:= match o.op with
  | .alloc _ => true
  | .makeSlice .. => rwOf E f o.dst
  | .call c => match c.callee,c.args.toList with
    | .builtin .append,[s,_] => rwOf E f o.dst && !imOf E f o.dst && isNilC s
    | _,_ => false
  | _ => false
def isR (o : Oper) : Bool:= match o.op with
  | .move _ | .assign _ | .build .. | .nilCheck _ | .fieldAddr .. | .store .. => true
  | _ => false
def isAR (E : Env) (f : FuncId) (o : Oper) : Bool:= isA E f o || isR o
def drawOk (E : Env) (f : FuncId) (ops : Array Oper) : Bool:=
  Region.noSelect ops && E.P.follows .mixedOrders &&
  (let l:= ops.toList;let b:= befores l
   (List.range l.length).all fun i => match l[i]? with
    | none => false
    | some oi => (oi.after.all fun e => !Region.binds .any e || decide (e.on < i)) &&
      (List.range i).all fun j => (b.getD i 0).testBit j || match l[j]? with
        | none => false
        | some oj => oi.apart ops oj && (!fpClash (fpOf E f oi) (fpOf E f oj) || (l.all (isAR E f) && isA E f oi && isA E f oj)))
def seqX (r : Option (Ex × St)) (k : St → Option (Ex × St)) : Option (Ex × St):= r.bind fun p => match p.1 with
  | .norm => k p.2
  | e => some (e,p.2)
def blkX (id : Nat) (r : Option (Ex × St)) : Option (Ex × St):= r.bind fun p => match p.1 with
  | .exit j => if j = id then some (.norm,p.2) else some (.exit j,p.2)
  | e => some (e,p.2)
def asB : AV → Option Bool
  | .bool b => some b
  | _ => none
noncomputable def evC (E : Env) (call : CallH) (loop : FuncId → Code → St → Option (Ex × St)) (f : FuncId) : Code → St → Option (Ex × St)
  | .skip,st => some (.norm,st)
  | .region _ ops draw,st => if draw && !drawOk E f ops then none else (evOps E call f ops ops.toList st).bind fun st' => some (.norm,st')
  | .seq a b,st => seqX (evC E call loop f a st) fun st' => evC E call loop f b st'
  | .cond c a b,st => (asB (st.eval c)).bind fun t => if t then evC E call loop f a st else evC E call loop f b st
  | .block id a,st => blkX id (evC E call loop f a st)
  | .loop a,st => loop f a st
  | .exit id,st => some (.exit id,st)
  | .ret,st => some (.ret,st)
  | _,_ => none
def evRes (P : Program) (st : St) : List ResultVar → Option (List AV)
  | [] => some []
  | .tmp t :: r => (evRes P st r).map fun l => st.tm.getD t (.tup []) :: l
  | .cell a t :: r => match st.tm.getD a (.tup []) with
    | .ptr q off => (st.h.hp q).bind fun cs => if off ≤ cs.length then (evLoad P t (cs.drop off)).bind fun v => (evRes P st r).map fun l => v :: l else none
    | _ => none
def evResult : List AV → AV
  | [v] => v
  | l => .tup l
def retX (P : Program) (rs : List ResultVar) (r : Option (Ex × St)) : Option (AV × Hp):= r.bind fun p => match p.1 with
  | .exit _ => none
  | _ => (evRes P p.2 rs).bind fun l => some (evResult l,p.2.h)
noncomputable def evBody (E : Env) (call : CallH) (loop : FuncId → Code → St → Option (Ex × St)) (g : FuncId) (args : List AV) (h : Hp) : Option (AV × Hp):=
  match E.P.funcs[g]? with
  | some fn => match fn.body with
    | some c => if fn.name == "runtime.NumGoroutine" then none else
      retX E.P fn.results.toList (evC E call loop g c ⟨args ++ List.replicate (fn.ntmps - args.length) (.tup []),h⟩)
    | none => none
  | none => none
noncomputable def ev (E : Env) : Nat → CallH × (FuncId → Code → St → Option (Ex × St))
  | 0 => (fun _ _ _ => none,fun _ _ _ => none)
  | k + 1 =>
    (fun g args h => evBody E (ev E k).1 (ev E k).2 g args h,
     fun f body st => seqX (evC E (ev E k).1 (ev E k).2 f body st) fun st' => (ev E k).2 f body st')
end Go.Ev
namespace Go.Ev
open Go Go.RowKit
inductive Own where
  | no | blk (r : Nat) | app (id lim : Nat)
  deriving DecidableEq
structure Gh where
  bl : Nat → Nat
  sz : Nat → Nat
  ad : Nat → Option Nat × Nat
  ow : Nat → Own
def Gh.head (g : Gh) (id n : Nat) : Value:= .slice ((g.ad id).1.map fun b => ⟨b,0,none⟩) n (g.ad id).2
def wr (ow : Nat → Own) (b o : Nat) : Prop:= match ow b with
  | .no => False
  | .blk _ => True
  | .app _ lim => lim ≤ o
inductive RI (w : World) (C : Nat → Nat → Prop) : Value → AV → Prop
  | bool (b : Bool) : RI w C (.bool b) (.bool b)
  | int (k : IntKind) (n : Int) : RI w C (.int k n) (.int k n)
  | str (s : ByteArray) : RI w C (.string s) (.str s.data.toList)
  | pnil : RI w C (.pointer none) .pnil
  | inil : RI w C .nilIface .inil
  | slE (a : Option Addr) (cap : Nat) : RI w C (.slice a 0 cap) (.imm [])
  | sl (b off len cap sz : Nat) (rows : List (List AV)) (vals : Nat → Nat → Value) (hl : rows.length = len) (hc : len ≤ cap)
      (hsz : ∀ row ∈ rows,row.length = sz)
      (hcell : ∀ i j,i < len → j < sz → C b (off + i * sz + j) ∧ w.cell? ⟨b,off + i * sz + j,none⟩ = some (vals i j))
      (hval : ∀ (i j : Nat) row c,rows[i]? = some row → row[j]? = some c → RI w C (vals i j) c) :
      RI w C (.slice (some ⟨b,off,none⟩) len cap) (.imm rows)
theorem RI.mono {w w' : World} {C C' : Nat → Nat → Prop} (h : ∀ b o v,C b o → w.cell? ⟨b,o,none⟩ = some v → C' b o ∧ w'.cell? ⟨b,o,none⟩ = some v) {v : Value} {t : AV}
    (hr : RI w C v t) : RI w' C' v t:= by
  induction hr with
  | bool b => exact .bool b
  | int k n => exact .int k n
  | str s => exact .str s
  | pnil => exact .pnil
  | inil => exact .inil
  | slE a cap => exact .slE a cap
  | sl b off len cap sz rows vals hl hc hsz hcell _ ih =>
    exact .sl b off len cap sz rows vals hl hc hsz (fun i j hi hj => h _ _ _ (hcell i j hi hj).1 (hcell i j hi hj).2) ih
inductive RV (w : World) (C : Nat → Nat → Prop) (g : Gh) (h : Hp) : Value → AV → Prop
  | unk (v : Value) : RV w C g h v .unk
  | ri {v : Value} {t : AV} : RI w C v t → RV w C g h v t
  | snil : RV w C g h (.slice none 0 0) .snil
  | semp (b : Nat) : RV w C g h (.slice (some ⟨b,0,none⟩) 0 0) .semp
  | ptr (r off : Nat) (hr : r < h.nx) : RV w C g h (.pointer (some ⟨g.bl r,off,none⟩)) (.ptr r off)
  | cptr (b off : Nat) (cs : List AV) (vals : Nat → Value)
      (hcell : ∀ (j : Nat) c,cs[j]? = some c → C b (off + j) ∧ w.cell? ⟨b,off + j,none⟩ = some (vals j) ∧ RI w C (vals j) c) :
      RV w C g h (.pointer (some ⟨b,off,none⟩)) (.cptr cs)
  | app (id : Nat) (rows : List (List AV)) {v : Value} (hid : id < h.nx) (hri : RI w C v (.imm rows))
      (hap : ∀ n sz,h.ap id = some (n,sz) → (∀ row ∈ rows,row.length = sz) ∧ rows.length ≤ n ∧ (rows.length = n → v = g.head id n)) :
      RV w C g h v (.app id rows)
  | sl (r off len cap sz : Nat) (hr : r < h.nx) (hc : len ≤ cap) (hs : off + cap * sz ≤ g.sz r) : RV w C g h (.slice (some ⟨g.bl r,off,none⟩) len cap) (.sl r off len sz)
  | agg (arr : Array Value) (cs : List AV) (hl : arr.size = cs.length) (hc : ∀ c ∈ cs,notCell c = false)
      (hv : ∀ (i : Nat) v c,arr[i]? = some v → cs[i]? = some c → RV w C g h v c) : RV w C g h (.agg arr) (.agg cs)
  | tup (arr : Array Value) (vs : List AV) (hl : arr.size = vs.length)
      (hv : ∀ (i : Nat) v c,arr[i]? = some v → vs[i]? = some c → RV w C g h v c) : RV w C g h (.tuple arr) (.tup vs)
  | ifc (t : TypeId) (v : Value) (x : AV) (hv : RV w C g h v x) : RV w C g h (.iface t v) (.ifc t x)
def CC (N : Nat → Nat → Prop) (B0 : Nat) (g : Gh) (b o : Nat) : Prop:= ¬ wr g.ow b o ∧ (b < B0 → N b o)
section
variable (N : Nat → Nat → Prop) (B0 : Nat)
structure Ext (w : World) (g : Gh) (h : Hp) (w' : World) (g' : Gh) (h' : Hp) : Prop where
  nx : h.nx ≤ h'.nx
  bl : ∀ r,r < h.nx → g'.bl r = g.bl r
  sz : ∀ r,r < h.nx → g'.sz r = g.sz r
  ap : ∀ id,id < h.nx → ∀ n' sz,h'.ap id = some (n',sz) → ∃ n,h.ap id = some (n,sz) ∧ n ≤ n' ∧ (n = n' → g'.ad id = g.ad id)
  cell : ∀ b o v,CC N B0 g b o → w.cell? ⟨b,o,none⟩ = some v → CC N B0 g' b o ∧ w'.cell? ⟨b,o,none⟩ = some v
theorem Ext.refl (w : World) (g : Gh) (h : Hp) : Ext N B0 w g h w g h:=
  ⟨Nat.le_refl _,fun _ _ => rfl,fun _ _ => rfl,fun _ _ n sz hn => ⟨n,hn,Nat.le_refl _,fun _ => rfl⟩,fun _ _ _ a b => ⟨a,b⟩⟩
theorem Ext.trans {w : World} {g : Gh} {h : Hp} {w' : World} {g' : Gh} {h' : Hp} {w'' : World} {g'' : Gh} {h'' : Hp} (a : Ext N B0 w g h w' g' h') (b : Ext N B0 w' g' h' w'' g'' h'') :
    Ext N B0 w g h w'' g'' h'' where
  nx:= Nat.le_trans a.nx b.nx
  bl r hr:= (b.bl r (Nat.lt_of_lt_of_le hr a.nx)).trans (a.bl r hr)
  sz r hr:= (b.sz r (Nat.lt_of_lt_of_le hr a.nx)).trans (a.sz r hr)
  ap id hid n'' sz hn:= by
    obtain ⟨n',h1,h2,h3⟩:= b.ap id (Nat.lt_of_lt_of_le hid a.nx) n'' sz hn
    obtain ⟨n,k1,k2,k3⟩:= a.ap id hid n' sz h1
    exact ⟨n,k1,Nat.le_trans k2 h2,fun e => by
      have e1 : n' = n'':= Nat.le_antisymm h2 (e ▸ k2)
      have e2 : n = n':= e.trans e1.symm
      rw [h3 e1,k3 e2]⟩
  cell b' o v hc hv:= by
    obtain ⟨h1,h2⟩:= a.cell b' o v hc hv
    exact b.cell b' o v h1 h2
theorem RV.ext {w : World} {g : Gh} {h : Hp} {w' : World} {g' : Gh} {h' : Hp} (e : Ext N B0 w g h w' g' h') {v : Value} {t : AV}
    (hr : RV w (CC N B0 g) g h v t) : RV w' (CC N B0 g') g' h' v t:= by
  induction hr with
  | unk v => exact .unk v
  | ri hri => exact .ri (hri.mono e.cell)
  | snil => exact .snil
  | semp a => exact .semp a
  | ptr r off hr => rw [← e.bl r hr];exact .ptr r off (Nat.lt_of_lt_of_le hr e.nx)
  | cptr b off cs vals hcell =>
    exact .cptr b off cs vals fun j c hj => by
      obtain ⟨h1,h2,h3⟩:= hcell j c hj
      obtain ⟨k1,k2⟩:= e.cell _ _ _ h1 h2
      exact ⟨k1,k2,h3.mono e.cell⟩
  | app id rows hid hri hap =>
    refine .app id rows (Nat.lt_of_lt_of_le hid e.nx) (hri.mono e.cell) fun n' sz hn => ?_
    obtain ⟨n,h1,h2,h3⟩:= e.ap id hid n' sz hn
    obtain ⟨k1,k2,k3⟩:= hap n sz h1
    refine ⟨k1,Nat.le_trans k2 h2,fun en => ?_⟩
    have e1 : n = n':= Nat.le_antisymm h2 (en ▸ k2)
    rw [Gh.head,h3 e1,← e1]
    exact k3 (en.trans e1.symm)
  | sl r off len cap sz hr hc hs => rw [← e.bl r hr];exact .sl r off len cap sz (Nat.lt_of_lt_of_le hr e.nx) hc (by rw [e.sz r hr];exact hs)
  | agg arr cs hl hc _ ih => exact .agg arr cs hl hc ih
  | tup arr vs hl _ ih => exact .tup arr vs hl ih
  | ifc t v x _ ih => exact .ifc t v x ih
structure Rel (w0 w : World) (g : Gh) (h : Hp) : Prop where
  base : w0.heap.size = B0
  bel : Below B0 w0 w
  ow : ∀ b,g.ow b ≠ .no → B0 ≤ b ∧ b < w.heap.size
  blk : ∀ r cs,h.hp r = some cs → r < h.nx ∧ g.ow (g.bl r) = .blk r ∧ ∃ arr ty,w.heap[g.bl r]? = some (.cells arr ty (0,0)) ∧ arr.size = g.sz r ∧ cs.length ≤ arr.size ∧
    (∀ (i : Nat) v c,arr[i]? = some v → cs[i]? = some c → RV w (CC N B0 g) g h v c) ∧ ∀ c ∈ cs,notCell c = false
  app : ∀ id n sz,h.ap id = some (n,sz) → id < h.nx ∧ n ≤ (g.ad id).2 ∧ (n < (g.ad id).2 → ∃ b arr ty,(g.ad id).1 = some b ∧ g.ow b = .app id (n * sz) ∧
    w.heap[b]? = some (.cells arr ty (0,0)) ∧ (g.ad id).2 * sz ≤ arr.size)
end
structure Next (N : Nat → Nat → Prop) (B0 : Nat) (w0 w : World) (g : Gh) (h : Hp) (w' : World) (g' : Gh) (h' : Hp) : Prop where
  rel : Rel N B0 w0 w' g' h'
  ext : Ext N B0 w g h w' g' h'
theorem Rel.hB {N : Nat → Nat → Prop} {B0 : Nat} {w0 w : World} {g : Gh} {h : Hp} (r : Rel N B0 w0 w g h) : B0 ≤ w.heap.size:= by have:= r.bel.size;rw [r.base] at this;exact this
theorem Rel.drew {N : Nat → Nat → Prop} {B0 : Nat} {w0 w : World} {g : Gh} {h : Hp} (r : Rel N B0 w0 w g h) : Rel N B0 w0 w.drew g h ∧ Ext N B0 w g h w.drew g h:= by
  have e : Ext N B0 w g h w.drew g h:= ⟨Nat.le_refl _,fun _ _ => rfl,fun _ _ => rfl,fun _ _ n sz hn => ⟨n,hn,Nat.le_refl _,fun _ => rfl⟩,fun _ _ _ a b => ⟨a,b⟩⟩
  refine ⟨⟨r.base,r.bel.drew,r.ow,fun q cs hq => ?_,r.app⟩,e⟩
  obtain ⟨h1,h2,arr,ty,h3,hs,h4,h6,h7⟩:= r.blk q cs hq
  exact ⟨h1,h2,arr,ty,h3,hs,h4,fun i v c hi hc => (h6 i v c hi hc).ext N B0 e,h7⟩
end Go.Ev
namespace Go.Ev
open Go Go.RowKit
variable {N : Nat → Nat → Prop} {B0 : Nat} {w0 w : World} {g : Gh} {h : Hp}
theorem block_of_cell {b o : Nat} {v : Value} (hc : w.cell? ⟨b,o,none⟩ = some v) : b < w.heap.size:= block_lt_of_cell hc
def Gh.own (g : Gh) (w : World) (x : Own) : Gh:= { g with ow:= fun b => if b = w.heap.size then x else g.ow b }
theorem wr_new {g : Gh} {b o : Nat} {x : Own} (hb : b < w.heap.size) : wr (fun b => if b = w.heap.size then x else g.ow b) b o ↔ wr g.ow b o:= by
  have h1 : ¬ b = w.heap.size:= by omega
  simp [wr,h1]
theorem Ext.alloc (g' : Gh) (h' : Hp) (x : Own) (ob : Obj) (hnx : h.nx ≤ h'.nx) (hbl : ∀ r,r < h.nx → g'.bl r = g.bl r) (hsz : ∀ r,r < h.nx → g'.sz r = g.sz r)
    (hap : ∀ id,id < h.nx → h'.ap id = h.ap id ∧ g'.ad id = g.ad id) (how : g'.ow = fun b => if b = w.heap.size then x else g.ow b) : Ext N B0 w g h (w.alloc ob) g' h' where
  nx:= hnx
  bl:= hbl
  sz:= hsz
  ap id hid n' sz hn:= ⟨n',(hap id hid).1 ▸ hn,Nat.le_refl _,fun _ => (hap id hid).2⟩
  cell b o v hc hv:= by
    have hb:= block_of_cell hv
    refine ⟨⟨fun hw => hc.1 ?_,hc.2⟩,by rw [World.cell?_alloc_lt];exact hv;exact hb⟩
    rw [how] at hw
    exact (wr_new hb).1 hw
theorem Rel.new (r : Rel N B0 w0 w g h) (arr : Array Value) (ty : TypeId) (cs : List AV) (hs : cs.length ≤ arr.size)
    (hv : ∀ (i : Nat) v c,arr[i]? = some v → cs[i]? = some c → RV w (CC N B0 g) g h v c) (hn : ∀ c ∈ cs,notCell c = false) :
    ∃ g',Next N B0 w0 w g h (w.alloc (.cells arr ty)) g' (h.new cs) ∧ g'.bl h.nx = w.heap.size ∧ g'.sz h.nx = arr.size:= by
  let g' : Gh:= ⟨fun q => if q = h.nx then w.heap.size else g.bl q,fun q => if q = h.nx then arr.size else g.sz q,g.ad,fun b => if b = w.heap.size then .blk h.nx else g.ow b⟩
  have hbl : ∀ q,q < h.nx → g'.bl q = g.bl q:= fun q hq => by show (if q = h.nx then _ else _) = _;rw [if_neg (by omega)]
  have hsz : ∀ q,q < h.nx → g'.sz q = g.sz q:= fun q hq => by show (if q = h.nx then _ else _) = _;rw [if_neg (by omega)]
  have hsz0 : g'.sz h.nx = arr.size:= by show (if h.nx = h.nx then _ else _) = _;rw [if_pos rfl]
  have e : Ext N B0 w g h (w.alloc (.cells arr ty)) g' (h.new cs):= Ext.alloc g' (h.new cs) (.blk h.nx) _ (by simp [Hp.new]) hbl hsz (fun id _ => ⟨rfl,rfl⟩) rfl
  refine ⟨g',⟨⟨r.base,r.bel.alloc r.hB _,fun b hb => ?_,fun q qs hq => ?_,fun id n sz hid => ?_⟩,e⟩,by show (if h.nx = h.nx then _ else _) = _;rw [if_pos rfl],hsz0⟩
  · by_cases hbn : b = w.heap.size
    · subst hbn;exact ⟨r.hB,by simp⟩
    · have:= r.ow b (by simpa [g',hbn] using hb)
      exact ⟨this.1,by simp;omega⟩
  · by_cases hqn : q = h.nx
    · subst hqn
      have hq' : cs = qs:= by simpa [Hp.new] using hq
      subst hq'
      have hb0 : g'.bl h.nx = w.heap.size:= by show (if h.nx = h.nx then _ else _) = _;rw [if_pos rfl]
      refine ⟨by simp [Hp.new],by rw [hb0];show (if _ then _ else _) = _;rw [if_pos rfl],arr,ty,by rw [hb0];exact heap_alloc_new w _,hsz0.symm,hs,fun i v c hi hc => (hv i v c hi hc).ext N B0 e,hn⟩
    · have hq' : h.hp q = some qs:= by simpa [Hp.new,hqn] using hq
      obtain ⟨h1,h2,a2,t2,h3,hs3,h4,h5,h6⟩:= r.blk q qs hq'
      have hlt:= (r.ow (g.bl q) (by rw [h2];simp)).2
      refine ⟨by simp [Hp.new];omega,?_,a2,t2,?_,by rw [hsz q h1];exact hs3,h4,fun i v c hi hc => (h5 i v c hi hc).ext N B0 e,h6⟩
      · rw [hbl q h1];show (if _ then _ else _) = _;rw [if_neg (by omega)];exact h2
      · rw [hbl q h1,heap_alloc_old w _ _ hlt];exact h3
  · have hid' : h.ap id = some (n,sz):= hid
    obtain ⟨h1,h2,h3⟩:= r.app id n sz hid'
    refine ⟨by simp [Hp.new];omega,h2,fun hlt => ?_⟩
    obtain ⟨b,a2,t2,k1,k2,k3,k4⟩:= h3 hlt
    have hb:= (r.ow b (by rw [k2];simp)).2
    exact ⟨b,a2,t2,k1,by show (if _ then _ else _) = _;rw [if_neg (by omega)];exact k2,by rw [heap_alloc_old w _ _ hb];exact k3,k4⟩
theorem Rel.newApp (r : Rel N B0 w0 w g h) (arr : Array Value) (ty : TypeId) (rows : List (List AV)) (cap sz : Nat) (hc : rows.length ≤ cap) (hs : cap * sz ≤ arr.size)
    (hsz : ∀ row ∈ rows,row.length = sz)
    (hv : ∀ (i j : Nat) v row c,arr[i * sz + j]? = some v → rows[i]? = some row → row[j]? = some c → RI w (CC N B0 g) v c) :
    ∃ g',Next N B0 w0 w g h (w.alloc (.cells arr ty)) g' (h.newApp rows.length sz) ∧
      RV (w.alloc (.cells arr ty)) (CC N B0 g') g' (h.newApp rows.length sz) (.slice (some ⟨w.heap.size,0,none⟩) rows.length cap) (.app h.nx rows):= by
  let g' : Gh:= ⟨g.bl,g.sz,fun q => if q = h.nx then (some w.heap.size,cap) else g.ad q,fun b => if b = w.heap.size then .app h.nx (rows.length * sz) else g.ow b⟩
  have had : ∀ q,q < h.nx → g'.ad q = g.ad q:= fun q hq => by show (if q = h.nx then _ else _) = _;rw [if_neg (by omega)]
  have had0 : g'.ad h.nx = (some w.heap.size,cap):= by show (if h.nx = h.nx then _ else _) = _;rw [if_pos rfl]
  have hap : ∀ q,q < h.nx → (h.newApp rows.length sz).ap q = h.ap q:= fun q hq => by show (if q = h.nx then _ else _) = _;rw [if_neg (by omega)]
  have hap0 : (h.newApp rows.length sz).ap h.nx = some (rows.length,sz):= by show (if h.nx = h.nx then _ else _) = _;rw [if_pos rfl]
  have e : Ext N B0 w g h (w.alloc (.cells arr ty)) g' (h.newApp rows.length sz):=
    Ext.alloc g' (h.newApp rows.length sz) (.app h.nx (rows.length * sz)) _ (by simp [Hp.newApp]) (fun _ _ => rfl) (fun _ _ => rfl) (fun id hid => ⟨hap id hid,had id hid⟩) rfl
  have how0 : g'.ow w.heap.size = .app h.nx (rows.length * sz):= by show (if _ then _ else _) = _;rw [if_pos rfl]
  refine ⟨g',⟨⟨r.base,r.bel.alloc r.hB _,fun b hb => ?_,fun q qs hq => ?_,fun id n s hid => ?_⟩,e⟩,?_⟩
  · by_cases hbn : b = w.heap.size
    · subst hbn;exact ⟨r.hB,by simp⟩
    · have:= r.ow b (by simpa [g',hbn] using hb)
      exact ⟨this.1,by simp;omega⟩
  · have hq' : h.hp q = some qs:= hq
    obtain ⟨h1,h2,a2,t2,h3,hs3,h4,h5,h6⟩:= r.blk q qs hq'
    have hlt:= (r.ow (g.bl q) (by rw [h2];simp)).2
    refine ⟨by simp [Hp.newApp];omega,?_,a2,t2,?_,hs3,h4,fun i v c hi hc => (h5 i v c hi hc).ext N B0 e,h6⟩
    · show (if g.bl q = w.heap.size then _ else _) = _;rw [if_neg (by omega)];exact h2
    · rw [heap_alloc_old w _ _ hlt];exact h3
  · by_cases hidn : id = h.nx
    · subst hidn
      rw [hap0] at hid
      simp only [Option.some.injEq,Prod.mk.injEq] at hid
      obtain ⟨rfl,rfl⟩:= hid
      rw [had0]
      exact ⟨by simp [Hp.newApp],hc,fun _ => ⟨_,arr,ty,rfl,how0,heap_alloc_new w _,hs⟩⟩
    · have hid' : h.ap id = some (n,s):= by simpa [Hp.newApp,hidn] using hid
      obtain ⟨h1,h2,h3⟩:= r.app id n s hid'
      rw [had id h1]
      refine ⟨by simp [Hp.newApp];omega,h2,fun hlt => ?_⟩
      obtain ⟨b,a2,t2,k1,k2,k3,k4⟩:= h3 hlt
      have hb:= (r.ow b (by rw [k2];simp)).2
      exact ⟨b,a2,t2,k1,by show (if _ then _ else _) = _;rw [if_neg (by omega)];exact k2,by rw [heap_alloc_old w _ _ hb];exact k3,k4⟩
  · refine .app h.nx rows (by simp [Hp.newApp]) ?_ fun n s hn => ?_
    · by_cases h0 : rows = []
      · subst h0;exact .slE _ _
      refine .sl w.heap.size 0 rows.length cap sz rows (fun i j => arr.getD (i * sz + j) undef) rfl hc hsz (fun i j hi hj => ?_) fun i j row c hi hj => ?_
      · have hlt : i * sz + j < rows.length * sz:= by
          have : i * sz + sz ≤ rows.length * sz:= by rw [← Nat.succ_mul];exact Nat.mul_le_mul_right _ hi
          omega
        have hlt2 : i * sz + j < arr.size:= Nat.lt_of_lt_of_le hlt (Nat.le_trans (Nat.mul_le_mul_right _ hc) hs)
        refine ⟨⟨fun hw => ?_,fun hb => absurd hb (by have:= r.hB;omega)⟩,?_⟩
        · unfold wr at hw;rw [how0] at hw;simp only [Nat.zero_add] at hw;omega
        · simp only [Nat.zero_add]
          rw [cell_of_row _ _ _ _ _ _ (heap_alloc_new w _)]
          simp [Array.getD,hlt2]
      · have hi2 : i < rows.length:= (List.getElem?_eq_some_iff.1 hi).1
        have hrow:= hsz row (List.mem_of_getElem? hi)
        have hj2 : j < sz:= hrow ▸ (List.getElem?_eq_some_iff.1 hj).1
        have hlt : i * sz + j < rows.length * sz:= by
          have : i * sz + sz ≤ rows.length * sz:= by rw [← Nat.succ_mul];exact Nat.mul_le_mul_right _ hi2
          omega
        have hlt2 : i * sz + j < arr.size:= Nat.lt_of_lt_of_le hlt (Nat.le_trans (Nat.mul_le_mul_right _ hc) hs)
        refine (hv i j _ row c ?_ hi hj).mono e.cell
        simp [Array.getD,hlt2]
    · rw [hap0] at hn
      simp only [Option.some.injEq,Prod.mk.injEq] at hn
      obtain ⟨rfl,rfl⟩:= hn
      exact ⟨hsz,Nat.le_refl _,fun _ => by rw [Gh.head,had0];rfl⟩
end Go.Ev
namespace Go.Ev
open Go Go.RowKit
variable {N : Nat → Nat → Prop} {B0 : Nat} {w0 w : World} {g : Gh} {h : Hp}
theorem oneCell_of_RI {C : Nat → Nat → Prop} {v : Value} {c : AV} (hr : RI w C v c) : v.oneCell' = true:= by cases hr <;> rfl
theorem oneCell_of_RV {C : Nat → Nat → Prop} {v : Value} {c : AV} (hr : RV w C g h v c) (hn : notCell c = false) : v.oneCell' = true:= by
  cases hr with
  | unk => simp [notCell] at hn
  | ri hr => exact oneCell_of_RI hr
  | app id rows hid hri hap => exact oneCell_of_RI hri
  | agg => simp [notCell] at hn
  | tup => simp [notCell] at hn
  | _ => rfl
def over (arr : Array Value) (off : Nat) (us : List Value) : Array Value:= (arr.toList.take off ++ us ++ arr.toList.drop (off + us.length)).toArray
theorem over_size (arr : Array Value) (off : Nat) (us : List Value) (hl : off + us.length ≤ arr.size) : (over arr off us).size = arr.size:= by
  simp [over];omega
theorem over_get (arr : Array Value) (off : Nat) (us : List Value) (hl : off + us.length ≤ arr.size) (i : Nat) :
    (over arr off us)[i]? = if i < off then arr[i]? else if i < off + us.length then us[i - off]? else arr[i]?:= by
  simp only [over,List.getElem?_toArray]
  have h0 : (arr.toList.take off).length = off:= by simp;omega
  by_cases h1 : i < off
  · rw [if_pos h1,List.append_assoc,List.getElem?_append_left (by omega),List.getElem?_take,if_pos h1,Array.getElem?_toList]
  · rw [if_neg h1]
    by_cases h2 : i < off + us.length
    · rw [if_pos h2,List.append_assoc,List.getElem?_append_right (by omega),h0,List.getElem?_append_left (by omega)]
    · rw [if_neg h2,List.getElem?_append_right (by simp;omega),List.getElem?_drop,Array.getElem?_toList]
      congr 1
      simp;omega
theorem below_setRow {b : Nat} (hb : B0 ≤ b) (arr : Array Value) : Below B0 w (w.setRow b arr):=
  ⟨rfl,rfl,rfl,by simp,fun k hk => setRow_other w b k arr (by omega)⟩
theorem cell_setRow_other {b b' o : Nat} (arr : Array Value) (hb : b' ≠ b) : (w.setRow b arr).cell? ⟨b',o,none⟩ = w.cell? ⟨b',o,none⟩:=
  World.cell?_of_block (w:= w) (setRow_other w b b' arr hb)
theorem splice_get (cs : List AV) (off : Nat) (vs : List AV) (hl : off + vs.length ≤ cs.length) (i : Nat) :
    (splice cs off vs)[i]? = if i < off then cs[i]? else if i < off + vs.length then vs[i - off]? else cs[i]?:= by
  unfold splice
  have h0 : (cs.take off).length = off:= by simp;omega
  by_cases h1 : i < off
  · rw [if_pos h1,List.append_assoc,List.getElem?_append_left (by omega),List.getElem?_take,if_pos h1]
  · rw [if_neg h1]
    by_cases h2 : i < off + vs.length
    · rw [if_pos h2,List.append_assoc,List.getElem?_append_right (by omega),h0,List.getElem?_append_left (by omega)]
    · rw [if_neg h2,List.getElem?_append_right (by simp;omega),List.getElem?_drop]
      congr 1
      simp;omega
theorem Rel.store (r : Rel N B0 w0 w g h) {q : Nat} {cs : List AV} (hq : h.hp q = some cs) (off : Nat) (us : List Value) (vs : List AV) (hl : us.length = vs.length)
    (hs : off + vs.length ≤ cs.length) (hv : ∀ (i : Nat) v c,us[i]? = some v → vs[i]? = some c → RV w (CC N B0 g) g h v c) (hn : ∀ c ∈ vs,notCell c = false)
    {arr : Array Value} {ty : TypeId} (harr : w.heap[g.bl q]? = some (.cells arr ty (0,0))) :
    Next N B0 w0 w g h (w.setRow (g.bl q) (over arr off us)) g (h.set q (splice cs off vs)):= by
  obtain ⟨h1,h2,a2,t2,h3,hs3,h4,h5,h6⟩:= r.blk q cs hq
  obtain ⟨rfl,rfl⟩ : arr = a2 ∧ ty = t2:= by rw [harr] at h3;simpa using h3
  have hb:= r.ow (g.bl q) (by rw [h2];simp)
  have e : Ext N B0 w g h (w.setRow (g.bl q) (over arr off us)) g (h.set q (splice cs off vs)):=
    ⟨Nat.le_refl _,fun _ _ => rfl,fun _ _ => rfl,fun id _ n sz hid => ⟨n,hid,Nat.le_refl _,fun _ => rfl⟩,fun b o v hc hcell => ⟨hc,by
      rw [cell_setRow_other]
      · exact hcell
      · rintro rfl
        exact hc.1 (by unfold wr;rw [h2];trivial)⟩⟩
  refine ⟨⟨r.base,r.bel.trans (below_setRow hb.1 _),fun b hb => ?_,fun p ps hp => ?_,fun id n sz hid => ?_⟩,e⟩
  · have:= r.ow b hb;exact ⟨this.1,by simpa using this.2⟩
  · by_cases hpq : p = q
    · subst hpq
      have hps : splice cs off vs = ps:= by simpa [Hp.set] using hp
      subst hps
      refine ⟨h1,h2,_,ty,setRow_heap w _ arr _ ty _ harr,by rw [over_size _ _ _ (by omega)];exact hs3,?_,fun i v c hi hc => ?_,fun c hc => ?_⟩
      · rw [over_size _ _ _ (by omega)];simp [splice];omega
      · rw [over_get _ _ _ (by omega)] at hi
        rw [splice_get _ _ _ hs] at hc
        by_cases c1 : i < off
        · rw [if_pos c1] at hi hc;exact (h5 i v c hi hc).ext N B0 e
        · rw [if_neg c1] at hi hc
          by_cases c2 : i < off + vs.length
          · rw [if_pos (by omega)] at hi;rw [if_pos c2] at hc;exact (hv _ v c hi hc).ext N B0 e
          · rw [if_neg (by omega)] at hi;rw [if_neg c2] at hc;exact (h5 i v c hi hc).ext N B0 e
      · unfold splice at hc
        rcases List.mem_append.1 hc with hc | hc
        · rcases List.mem_append.1 hc with hc | hc
          · exact h6 c (List.mem_of_mem_take hc)
          · exact hn c hc
        · exact h6 c (List.mem_of_mem_drop hc)
    · have hp' : h.hp p = some ps:= by simpa [Hp.set,hpq] using hp
      obtain ⟨k1,k2,a3,t3,k3,ks3,k4,k5,k6⟩:= r.blk p ps hp'
      have hne : g.bl p ≠ g.bl q:= fun he => hpq (by rw [he,h2] at k2;injection k2 with k2;exact k2.symm)
      exact ⟨k1,k2,a3,t3,by rw [setRow_other _ _ _ _ hne];exact k3,ks3,k4,fun i v c hi hc => (k5 i v c hi hc).ext N B0 e,k6⟩
  · obtain ⟨k1,k2,k3⟩:= r.app id n sz hid
    refine ⟨k1,k2,fun hlt => ?_⟩
    obtain ⟨b,a3,t3,m1,m2,m3,m4⟩:= k3 hlt
    have hne : b ≠ g.bl q:= fun he => by rw [he,h2] at m2;cases m2
    exact ⟨b,a3,t3,m1,m2,by rw [setRow_other _ _ _ _ hne];exact m3,m4⟩
theorem idx_lt {i j n sz : Nat} (hi : i < n) (hj : j < sz) : i * sz + j < n * sz:= by
  have : i * sz + sz ≤ n * sz:= by rw [← Nat.succ_mul];exact Nat.mul_le_mul_right _ hi
  omega
theorem Rel.room (r : Rel N B0 w0 w g h) {id n sz : Nat} (hid : h.ap id = some (n,sz)) (rows more : List (List AV)) (hrows : rows.length = n) (hsz : ∀ row ∈ rows,row.length = sz)
    (hri : RI w (CC N B0 g) (g.head id n) (.imm rows)) (hm : more ≠ []) (hmsz : ∀ row ∈ more,row.length = sz) (us : List Value) (hul : us.length = more.length * sz)
    (hv : ∀ (i j : Nat) v row c,us[i * sz + j]? = some v → more[i]? = some row → row[j]? = some c → RI w (CC N B0 g) v c)
    (hroom : n + more.length ≤ (g.ad id).2) : ∃ b arr ty,(g.ad id).1 = some b ∧ w.heap[b]? = some (.cells arr ty (0,0)) ∧ n * sz + us.length ≤ arr.size ∧
      ∃ g',Next N B0 w0 w g h (w.setRow b (over arr (n * sz) us)) g' (h.setApp id (n + more.length) sz) ∧
        RV (w.setRow b (over arr (n * sz) us)) (CC N B0 g') g' (h.setApp id (n + more.length) sz) (.slice (some ⟨b,0,none⟩) (n + more.length) (g.ad id).2) (.app id (rows ++ more)):= by
  obtain ⟨k1,k2,k3⟩:= r.app id n sz hid
  have hml : 0 < more.length:= List.length_pos_iff.2 hm
  obtain ⟨b,arr,ty,m1,m2,m3,m4⟩:= k3 (by omega)
  have hfit : n * sz + us.length ≤ arr.size:= by
    rw [hul,← Nat.add_mul];exact Nat.le_trans (Nat.mul_le_mul_right _ hroom) m4
  refine ⟨b,arr,ty,m1,m3,hfit,?_⟩
  have hb:= r.ow b (by rw [m2];simp)
  let g' : Gh:= ⟨g.bl,g.sz,g.ad,fun x => if x = b then .app id ((n + more.length) * sz) else g.ow x⟩
  have how : g'.ow b = .app id ((n + more.length) * sz):= by show (if _ then _ else _) = _;rw [if_pos rfl]
  have how' : ∀ x,x ≠ b → g'.ow x = g.ow x:= fun x hx => by show (if _ then _ else _) = _;rw [if_neg hx]
  have hlim : n * sz ≤ (n + more.length) * sz:= Nat.mul_le_mul_right _ (by omega)
  have e : Ext N B0 w g h (w.setRow b (over arr (n * sz) us)) g' (h.setApp id (n + more.length) sz):= by
    refine ⟨Nat.le_refl _,fun _ _ => rfl,fun _ _ => rfl,fun i hi n' s hn => ?_,fun x o v hc hcell => ?_⟩
    · by_cases hii : i = id
      · subst hii
        have : n + more.length = n' ∧ sz = s:= by simpa [Hp.setApp] using hn
        obtain ⟨rfl,rfl⟩:= this
        exact ⟨n,hid,by omega,fun hh => by omega⟩
      · have hn' : h.ap i = some (n',s):= by simpa [Hp.setApp,hii] using hn
        exact ⟨n',hn',Nat.le_refl _,fun _ => rfl⟩
    · by_cases hx : x = b
      · subst hx
        have ho : o < n * sz:= by
          have:= hc.1
          unfold wr at this
          rw [m2] at this
          simpa using this
        refine ⟨⟨fun hw => ?_,fun hb' => absurd hb' (by omega)⟩,?_⟩
        · unfold wr at hw;rw [how] at hw;simp at hw;omega
        · rw [cell_of_row _ _ _ _ _ _ (setRow_heap w _ arr _ ty _ m3),over_get _ _ _ hfit,if_pos ho]
          rw [cell_of_row _ _ _ _ _ _ m3] at hcell
          exact hcell
      · refine ⟨⟨fun hw => hc.1 ?_,hc.2⟩,by rw [cell_setRow_other _ hx];exact hcell⟩
        unfold wr at hw ⊢
        rw [how' x hx] at hw
        exact hw
  refine ⟨g',⟨⟨r.base,r.bel.trans (below_setRow hb.1 _),fun x hx => ?_,fun p ps hp => ?_,fun i n' s hn => ?_⟩,e⟩,?_⟩
  · by_cases hxb : x = b
    · subst hxb;exact ⟨hb.1,by simpa using hb.2⟩
    · rw [how' x hxb] at hx
      have:= r.ow x hx
      exact ⟨this.1,by simpa using this.2⟩
  · have hp' : h.hp p = some ps:= hp
    obtain ⟨j1,j2,a3,t3,j3,js3,j4,j5,j6⟩:= r.blk p ps hp'
    have hne : g.bl p ≠ b:= fun he => by rw [he,m2] at j2;cases j2
    exact ⟨j1,by rw [how' _ hne];exact j2,a3,t3,by rw [setRow_other _ _ _ _ hne];exact j3,js3,j4,fun i v c hi hc => (j5 i v c hi hc).ext N B0 e,j6⟩
  · by_cases hii : i = id
    · subst hii
      have : n + more.length = n' ∧ sz = s:= by simpa [Hp.setApp] using hn
      obtain ⟨rfl,rfl⟩:= this
      refine ⟨k1,hroom,fun _ => ⟨b,_,ty,m1,how,setRow_heap w _ arr _ ty _ m3,by rw [over_size _ _ _ hfit];exact m4⟩⟩
    · have hn' : h.ap i = some (n',s):= by simpa [Hp.setApp,hii] using hn
      obtain ⟨j1,j2,j3⟩:= r.app i n' s hn'
      refine ⟨j1,j2,fun hlt => ?_⟩
      obtain ⟨x,a3,t3,q1,q2,q3,q4⟩:= j3 hlt
      have hne : x ≠ b:= fun he => by
        rw [he,m2] at q2
        injection q2 with q2 _
        exact hii q2.symm
      exact ⟨x,a3,t3,q1,by rw [how' _ hne];exact q2,by rw [setRow_other _ _ _ _ hne];exact q3,q4⟩
  · have hall : ∀ row ∈ rows ++ more,row.length = sz:= fun row hr => by
      rcases List.mem_append.1 hr with hr | hr
      · exact hsz row hr
      · exact hmsz row hr
    refine .app id (rows ++ more) k1 ?_ fun n' s hn => ?_
    · refine .sl b 0 (n + more.length) (g.ad id).2 sz (rows ++ more) (fun i j => (over arr (n * sz) us).getD (i * sz + j) undef) (by simp [hrows]) hroom hall (fun i j hi hj => ?_) fun i j row c hi hj => ?_
      · have hlt:= idx_lt hi hj
        have hlt2 : i * sz + j < (over arr (n * sz) us).size:= by
          rw [over_size _ _ _ hfit]
          exact Nat.lt_of_lt_of_le hlt (Nat.le_trans (Nat.mul_le_mul_right _ hroom) m4)
        refine ⟨⟨fun hw => ?_,fun hb' => absurd hb' (by omega)⟩,?_⟩
        · unfold wr at hw;rw [how] at hw;simp only [Nat.zero_add] at hw;omega
        · simp only [Nat.zero_add]
          rw [cell_of_row _ _ _ _ _ _ (setRow_heap w _ arr _ ty _ m3)]
          simp [Array.getD,hlt2]
      · have hrow:= hall row (List.mem_of_getElem? hi)
        have hj2 : j < sz:= hrow ▸ (List.getElem?_eq_some_iff.1 hj).1
        have hi2 : i < (rows ++ more).length:= (List.getElem?_eq_some_iff.1 hi).1
        have hlt:= idx_lt (n:= n + more.length) (by simpa [hrows] using hi2) hj2
        have hlt2 : i * sz + j < (over arr (n * sz) us).size:= by
          rw [over_size _ _ _ hfit]
          exact Nat.lt_of_lt_of_le hlt (Nat.le_trans (Nat.mul_le_mul_right _ hroom) m4)
        have hget : (over arr (n * sz) us)[i * sz + j]? = some ((over arr (n * sz) us).getD (i * sz + j) undef):= by simp [Array.getD,hlt2]
        by_cases hin : i < n
        · have hi' : rows[i]? = some row:= by rwa [List.getElem?_append_left (by omega)] at hi
          have hix:= idx_lt hin hj2
          rw [over_get _ _ _ hfit,if_pos hix] at hget
          have hne : rows ≠ []:= fun e0 => by rw [e0] at hrows;simp at hrows;omega
          have hh : g.head id n = .slice (some ⟨b,0,none⟩) n (g.ad id).2:= by simp [Gh.head,m1]
          rw [hh] at hri
          generalize hvv : Value.slice (some ⟨b,0,none⟩) n (g.ad id).2 = vv at hri
          generalize htt : AV.imm rows = tt at hri
          cases hri with
          | slE a cap => injection htt with htt;exact absurd htt hne
          | sl b' off' len' cap' sz' rows' vals' hl' hc' hsz' hcell' hval' =>
            injection htt with htt
            injection hvv with hv1 hv2 hv3
            subst htt
            injection hv1 with hv1
            injection hv1 with hv1 hv4 _
            subst hv1;subst hv4
            have hz : sz' = sz:= by rw [← hsz' row (List.mem_of_getElem? hi'),hrow]
            subst hz
            have hc2:= (hcell' i j (by omega) hj2).2
            simp only [Nat.zero_add] at hc2
            rw [cell_of_row _ _ _ _ _ _ m3,hget] at hc2
            injection hc2 with hc2
            rw [hc2]
            exact (hval' i j row c hi' hj).mono e.cell
          | _ => cases htt
        · have hi' : more[i - n]? = some row:= by rwa [List.getElem?_append_right (by omega),hrows] at hi
          have hge : n * sz ≤ i * sz:= Nat.mul_le_mul_right _ (by omega)
          rw [over_get _ _ _ hfit,if_neg (by omega),if_pos (by rw [hul,← Nat.add_mul];exact hlt)] at hget
          refine (hv (i - n) j _ row c ?_ hi' hj).mono e.cell
          rw [← hget]
          congr 1
          rw [Nat.sub_mul];omega
    · have : n + more.length = n' ∧ sz = s:= by simpa [Hp.setApp] using hn
      obtain ⟨rfl,rfl⟩:= this
      exact ⟨hall,by simp [hrows],fun _ => by simp [Gh.head,g',m1]⟩
theorem Rel.grow (r : Rel N B0 w0 w g h) {id n sz : Nat} (hid : h.ap id = some (n,sz)) (rows : List (List AV)) (hn : n < rows.length) (hsz : ∀ row ∈ rows,row.length = sz)
    (arr : Array Value) (ty : TypeId) (cap : Nat) (hc : rows.length ≤ cap) (hs : cap * sz ≤ arr.size)
    (hv : ∀ (i j : Nat) v row c,arr[i * sz + j]? = some v → rows[i]? = some row → row[j]? = some c → RI w (CC N B0 g) v c) :
    ∃ g',Next N B0 w0 w g h (w.alloc (.cells arr ty)) g' (h.setApp id rows.length sz) ∧
      RV (w.alloc (.cells arr ty)) (CC N B0 g') g' (h.setApp id rows.length sz) (.slice (some ⟨w.heap.size,0,none⟩) rows.length cap) (.app id rows):= by
  obtain ⟨k1,k2,_⟩:= r.app id n sz hid
  let g' : Gh:= ⟨g.bl,g.sz,fun q => if q = id then (some w.heap.size,cap) else g.ad q,fun b => if b = w.heap.size then .app id (rows.length * sz) else g.ow b⟩
  have had : ∀ q,q ≠ id → g'.ad q = g.ad q:= fun q hq => by show (if _ then _ else _) = _;rw [if_neg hq]
  have had0 : g'.ad id = (some w.heap.size,cap):= by show (if _ then _ else _) = _;rw [if_pos rfl]
  have how0 : g'.ow w.heap.size = .app id (rows.length * sz):= by show (if _ then _ else _) = _;rw [if_pos rfl]
  have how' : ∀ x,x ≠ w.heap.size → g'.ow x = g.ow x:= fun x hx => by show (if _ then _ else _) = _;rw [if_neg hx]
  have e : Ext N B0 w g h (w.alloc (.cells arr ty)) g' (h.setApp id rows.length sz):= by
    refine ⟨Nat.le_refl _,fun _ _ => rfl,fun _ _ => rfl,fun i hi n' s hn' => ?_,fun x o v hc' hcell => ?_⟩
    · by_cases hii : i = id
      · subst hii
        have : rows.length = n' ∧ sz = s:= by simpa [Hp.setApp] using hn'
        obtain ⟨rfl,rfl⟩:= this
        exact ⟨n,hid,by omega,fun hh => by omega⟩
      · have hn'' : h.ap i = some (n',s):= by simpa [Hp.setApp,hii] using hn'
        exact ⟨n',hn'',Nat.le_refl _,fun _ => had i hii⟩
    · have hb:= block_of_cell hcell
      refine ⟨⟨fun hw => hc'.1 ?_,hc'.2⟩,by rw [World.cell?_alloc_lt];exact hcell;exact hb⟩
      unfold wr at hw ⊢
      rw [how' x (by omega)] at hw
      exact hw
  refine ⟨g',⟨⟨r.base,r.bel.alloc r.hB _,fun b hb => ?_,fun q qs hq => ?_,fun i n' s hn' => ?_⟩,e⟩,?_⟩
  · by_cases hbn : b = w.heap.size
    · subst hbn;exact ⟨r.hB,by simp⟩
    · rw [how' b hbn] at hb
      have:= r.ow b hb
      exact ⟨this.1,by simp;omega⟩
  · have hq' : h.hp q = some qs:= hq
    obtain ⟨h1,h2,a2,t2,h3,hs3,h4,h5,h6⟩:= r.blk q qs hq'
    have hlt:= (r.ow (g.bl q) (by rw [h2];simp)).2
    refine ⟨h1,by rw [how' (g.bl q) (by omega)];exact h2,a2,t2,by rw [heap_alloc_old w _ _ hlt];exact h3,hs3,h4,fun i v c hi hc => (h5 i v c hi hc).ext N B0 e,h6⟩
  · by_cases hii : i = id
    · subst hii
      have : rows.length = n' ∧ sz = s:= by simpa [Hp.setApp] using hn'
      obtain ⟨rfl,rfl⟩:= this
      rw [had0]
      exact ⟨k1,hc,fun _ => ⟨_,arr,ty,rfl,how0,heap_alloc_new w _,hs⟩⟩
    · have hn'' : h.ap i = some (n',s):= by simpa [Hp.setApp,hii] using hn'
      obtain ⟨h1,h2,h3⟩:= r.app i n' s hn''
      rw [had i hii]
      refine ⟨h1,h2,fun hlt => ?_⟩
      obtain ⟨b,a2,t2,j1,j2,j3,j4⟩:= h3 hlt
      have hb:= (r.ow b (by rw [j2];simp)).2
      exact ⟨b,a2,t2,j1,by rw [how' b (by omega)];exact j2,by rw [heap_alloc_old w _ _ hb];exact j3,j4⟩
  · refine .app id rows k1 ?_ fun n' s hn' => ?_
    · refine .sl w.heap.size 0 rows.length cap sz rows (fun i j => arr.getD (i * sz + j) undef) rfl hc hsz (fun i j hi hj => ?_) fun i j row c hi hj => ?_
      · have hlt:= idx_lt hi hj
        have hlt2 : i * sz + j < arr.size:= Nat.lt_of_lt_of_le hlt (Nat.le_trans (Nat.mul_le_mul_right _ hc) hs)
        refine ⟨⟨fun hw => ?_,fun hb => absurd hb (by have:= r.hB;omega)⟩,?_⟩
        · unfold wr at hw;rw [how0] at hw;simp only [Nat.zero_add] at hw;omega
        · simp only [Nat.zero_add]
          rw [cell_of_row _ _ _ _ _ _ (heap_alloc_new w _)]
          simp [Array.getD,hlt2]
      · have hi2 : i < rows.length:= (List.getElem?_eq_some_iff.1 hi).1
        have hrow:= hsz row (List.mem_of_getElem? hi)
        have hj2 : j < sz:= hrow ▸ (List.getElem?_eq_some_iff.1 hj).1
        have hlt2 : i * sz + j < arr.size:= Nat.lt_of_lt_of_le (idx_lt hi2 hj2) (Nat.le_trans (Nat.mul_le_mul_right _ hc) hs)
        refine (hv i j _ row c ?_ hi hj).mono e.cell
        simp [Array.getD,hlt2]
    · have : rows.length = n' ∧ sz = s:= by simpa [Hp.setApp] using hn'
      obtain ⟨rfl,rfl⟩:= this
      exact ⟨hsz,Nat.le_refl _,fun _ => by rw [Gh.head,had0];rfl⟩
theorem Rel.below (r : Rel N B0 w0 w g h) {w' : World} (hb : Below w.heap.size w w') : Next N B0 w0 w g h w' g h:= by
  have hB:= r.hB
  have e : Ext N B0 w g h w' g h:= ⟨Nat.le_refl _,fun _ _ => rfl,fun _ _ => rfl,fun _ _ n sz hn => ⟨n,hn,Nat.le_refl _,fun _ => rfl⟩,fun b o v hc hv => ⟨hc,by
    rw [hb.cell (p:= ⟨b,o,none⟩) (block_of_cell hv)];exact hv⟩⟩
  refine ⟨⟨r.base,r.bel.trans (hb.mono hB),fun b hb' => ?_,fun q qs hq => ?_,fun id n s hid => ?_⟩,e⟩
  · have:= r.ow b hb'
    exact ⟨this.1,Nat.lt_of_lt_of_le this.2 hb.size⟩
  · obtain ⟨h1,h2,arr,ty,h3,hs,h4,h5,h6⟩:= r.blk q qs hq
    have hlt:= (r.ow (g.bl q) (by rw [h2];simp)).2
    exact ⟨h1,h2,arr,ty,by rw [hb.block _ hlt];exact h3,hs,h4,fun i v c hi hc => (h5 i v c hi hc).ext N B0 e,h6⟩
  · obtain ⟨h1,h2,h3⟩:= r.app id n s hid
    refine ⟨h1,h2,fun hlt => ?_⟩
    obtain ⟨b,arr,ty,k1,k2,k3,k4⟩:= h3 hlt
    have hb':= (r.ow b (by rw [k2];simp)).2
    exact ⟨b,arr,ty,k1,k2,by rw [hb.block _ hb'];exact k3,k4⟩
end Go.Ev
namespace Go.Ev
open Go Go.RowKit
variable {N : Nat → Nat → Prop} {B0 : Nat} {w0 w : World} {g : Gh} {h : Hp} {P : Program} {C : Nat → Nat → Prop}
theorem RV.bool_inv {v : Value} {b : Bool} (hr : RV w C g h v (.bool b)) : v = .bool b:= by
  generalize ht : AV.bool b = t at hr
  cases hr with
  | ri hr => subst ht;cases hr;rfl
  | _ => cases ht
theorem RV.int_inv {v : Value} {k : IntKind} {n : Int} (hr : RV w C g h v (.int k n)) : v = .int k n:= by
  generalize ht : AV.int k n = t at hr
  cases hr with
  | ri hr => subst ht;cases hr;rfl
  | _ => cases ht
theorem RI.str_inv {v : Value} {s : List UInt8} (hr : RI w C v (.str s)) : ∃ b : ByteArray,v = .string b ∧ b.data.toList = s:= by
  generalize ht : AV.str s = t at hr
  cases hr with
  | str b => injection ht with ht;exact ⟨b,rfl,ht.symm⟩
  | _ => cases ht
theorem RV.str_inv {v : Value} {s : List UInt8} (hr : RV w C g h v (.str s)) : ∃ b : ByteArray,v = .string b ∧ b.data.toList = s:= by
  generalize ht : AV.str s = t at hr
  cases hr with
  | ri hr => subst ht;exact hr.str_inv
  | _ => cases ht
theorem RV.ptr_inv {v : Value} {r off : Nat} (hr : RV w C g h v (.ptr r off)) : r < h.nx ∧ v = .pointer (some ⟨g.bl r,off,none⟩):= by
  generalize ht : AV.ptr r off = t at hr
  cases hr with
  | ri hr => subst ht;cases hr
  | ptr r' off' hr => injection ht with h1 h2;subst h1;subst h2;exact ⟨hr,rfl⟩
  | _ => cases ht
theorem RV.cptr_inv {v : Value} {cs : List AV} (hr : RV w C g h v (.cptr cs)) : ∃ b off,v = .pointer (some ⟨b,off,none⟩) ∧
    ∃ vals : Nat → Value,∀ (j : Nat) c,cs[j]? = some c → C b (off + j) ∧ w.cell? ⟨b,off + j,none⟩ = some (vals j) ∧ RI w C (vals j) c:= by
  generalize ht : AV.cptr cs = t at hr
  cases hr with
  | ri hr => subst ht;cases hr
  | cptr b off cs' vals hc => injection ht with h1;subst h1;exact ⟨b,off,rfl,vals,hc⟩
  | _ => cases ht
theorem RV.snil_inv {v : Value} (hr : RV w C g h v .snil) : v = .slice none 0 0:= by
  generalize ht : AV.snil = t at hr
  cases hr with
  | ri hr => subst ht;cases hr
  | snil => rfl
  | _ => cases ht
theorem RV.semp_inv {v : Value} (hr : RV w C g h v .semp) : ∃ b,v = .slice (some ⟨b,0,none⟩) 0 0:= by
  generalize ht : AV.semp = t at hr
  cases hr with
  | ri hr => subst ht;cases hr
  | semp a => exact ⟨a,rfl⟩
  | _ => cases ht
theorem RV.imm_inv {v : Value} {rows : List (List AV)} (hr : RV w C g h v (.imm rows)) : RI w C v (.imm rows):= by
  generalize ht : AV.imm rows = t at hr
  cases hr with
  | ri hr => subst ht;exact hr
  | _ => cases ht
theorem RV.app_inv {v : Value} {id : Nat} {rows : List (List AV)} (hr : RV w C g h v (.app id rows)) : id < h.nx ∧ RI w C v (.imm rows) ∧
    ∀ n sz,h.ap id = some (n,sz) → (∀ row ∈ rows,row.length = sz) ∧ rows.length ≤ n ∧ (rows.length = n → v = g.head id n):= by
  generalize ht : AV.app id rows = t at hr
  cases hr with
  | ri hr => subst ht;cases hr
  | app id' rows' h1 h2 h3 => injection ht with e1 e2;subst e1;subst e2;exact ⟨h1,h2,h3⟩
  | _ => cases ht
theorem RV.sl_inv {v : Value} {r off len sz : Nat} (hr : RV w C g h v (.sl r off len sz)) : r < h.nx ∧ ∃ cap,len ≤ cap ∧ v = .slice (some ⟨g.bl r,off,none⟩) len cap ∧ off + cap * sz ≤ g.sz r:= by
  generalize ht : AV.sl r off len sz = t at hr
  cases hr with
  | ri hr => subst ht;cases hr
  | sl r' off' len' cap sz' h1 h2 h3 => injection ht with e1 e2 e3 e4;subst e1;subst e2;subst e3;subst e4;exact ⟨h1,cap,h2,rfl,h3⟩
  | _ => cases ht
theorem RV.agg_inv {v : Value} {cs : List AV} (hr : RV w C g h v (.agg cs)) : ∃ arr,v = .agg arr ∧ arr.size = cs.length ∧ (∀ c ∈ cs,notCell c = false) ∧
    ∀ (i : Nat) v c,arr[i]? = some v → cs[i]? = some c → RV w C g h v c:= by
  generalize ht : AV.agg cs = t at hr
  cases hr with
  | ri hr => subst ht;cases hr
  | agg arr cs' h1 h2 h3 => injection ht with e1;subst e1;exact ⟨arr,rfl,h1,h2,h3⟩
  | _ => cases ht
theorem RV.tup_inv {v : Value} {vs : List AV} (hr : RV w C g h v (.tup vs)) : ∃ arr,v = .tuple arr ∧ arr.size = vs.length ∧
    ∀ (i : Nat) v c,arr[i]? = some v → vs[i]? = some c → RV w C g h v c:= by
  generalize ht : AV.tup vs = t at hr
  cases hr with
  | ri hr => subst ht;cases hr
  | tup arr vs' h1 h3 => injection ht with e1;subst e1;exact ⟨arr,rfl,h1,h3⟩
  | _ => cases ht
theorem RV.inil_inv {v : Value} (hr : RV w C g h v .inil) : v = .nilIface:= by
  generalize ht : AV.inil = t at hr
  cases hr with
  | ri hr => subst ht;cases hr;rfl
  | _ => cases ht
theorem RV.ifc_inv {v : Value} {t : TypeId} {x : AV} (hr : RV w C g h v (.ifc t x)) : ∃ u,v = .iface t u ∧ RV w C g h u x:= by
  generalize ht : AV.ifc t x = y at hr
  cases hr with
  | ri hr => subst ht;cases hr
  | ifc t' v' x' h1 => injection ht with e1 e2;subst e1;subst e2;exact ⟨v',rfl,h1⟩
  | _ => cases ht
theorem RI.bool' (b : Bool) : RV w C g h (.bool b) (.bool b):= .ri (.bool b)
theorem RI.int' (k : IntKind) (n : Int) : RV w C g h (.int k n) (.int k n):= .ri (.int k n)
theorem RI.str' {b : ByteArray} {s : List UInt8} (e : b.data.toList = s) : RV w C g h (.string b) (.str s):= e ▸ .ri (.str b)
theorem RV.undef : RV w C g h undef (.tup []):= .tup #[] [] rfl fun i v c hi => by simp at hi
theorem RV_absS (v : Value) : RV w C g h v (absS v):= by
  unfold absS
  split
  · exact .ri (.bool _)
  · exact .ri (.int _ _)
  · exact .ri (.str _)
  · exact .ri .pnil
  · exact .snil
  · exact .ri .inil
  · exact .unk _
def OpOk (P : Program) (N : Nat → Nat → Prop) (B0 : Nat) (w0 w : World) (g : Gh) (h : Hp) (a : Act) (o : Oper) (v : AV) (h' : Hp) : Prop:=
  ∀ (K : Act → World → Prop) (Q : Exit → Act → World → Prop),
    (∀ v' w' g',Next N B0 w0 w g h w' g' h' → RV w' (CC N B0 g') g' h' v' v → K (a.put o.dst v') w') → o.wp P a w K Q
theorem opOk_run {a : Act} {o : Oper} {v : AV} {h' : Hp} {v' : Value} {w' : World} {g' : Gh} (hrun : (execOp a.eval o).run P w = .ok (.value v') w')
    (hn : Next N B0 w0 w g h w' g' h') (hv : RV w' (CC N B0 g') g' h' v' v) : OpOk P N B0 w0 w g h a o v h':= by
  intro K Q hk
  unfold Oper.wp
  rw [hrun]
  exact hk v' w' g' hn hv
theorem opOk_skip {a : Act} {o : Oper} {h' : Hp} {w' : World} {g' : Gh} (hrun : (execOp a.eval o).run P w = .ok .skip w')
    (hn : Next N B0 w0 w g h w' g' h') : OpOk P N B0 w0 w g h a o (.tup []) h':= by
  intro K Q hk
  unfold Oper.wp
  rw [hrun]
  exact hk undef w' g' hn RV.undef
theorem opOk_pure {a : Act} {o : Oper} {v : AV} {v' : Value} (r : Rel N B0 w0 w g h) (hrun : (execOp a.eval o).run P w = .ok (.value v') w)
    (hv : RV w (CC N B0 g) g h v' v) : OpOk P N B0 w0 w g h a o v h:= opOk_run hrun ⟨r,Ext.refl N B0 w g h⟩ hv
theorem underlying_bool {t : TypeId} (hk : kindT P t = .bool) : P.underlying t = some .bool:= by
  unfold kindT at hk
  split at hk <;> first | assumption | cases hk
theorem underlying_str {t : TypeId} (hk : kindT P t = .str) : P.underlying t = some .string:= by
  unfold kindT at hk
  split at hk <;> first | assumption | cases hk
theorem underlying_slice {t e : TypeId} (hk : kindT P t = .slice e) : P.underlying t = some (.slice e):= by
  unfold kindT at hk
  split at hk <;> first | (injection hk with hk;subst hk;assumption) | cases hk
theorem underlying_int {t : TypeId} {k : IntKind} (hk : kindT P t = .int k) : P.underlying t = some (.int k):= by
  unfold kindT at hk
  split at hk <;> first | (injection hk with hk;subst hk;assumption) | cases hk
theorem underlying_iface {t : TypeId} (hk : kindT P t = .iface) : ∃ ms,P.underlying t = some (.interface ms):= by
  unfold kindT at hk
  split at hk <;> first | exact ⟨_,by assumption⟩ | cases hk
theorem beq_bytes {a b : ByteArray} : (a.toList == b.toList) = (a.data.toList == b.data.toList):= by rw [ByteArray.toList_eq,ByteArray.toList_eq]
theorem eqFields_run {d : Nat} (xs ys : Array Value) : ∀ (fs : List Field) (i : Nat) (ks : List TK) (cs ds : List AV),flatFs P i fs = some ks →
    (∀ (j : Nat) v c,xs[i + j]? = some v → cs[j]? = some c → RV w C g h v c) → (∀ (j : Nat) v c,ys[i + j]? = some v → ds[j]? = some c → RV w C g h v c) →
    (∀ j,j < cs.length → i + j < xs.size) → (∀ j,j < ds.length → i + j < ys.size) → ∀ e,eqCells ks cs ds = some e → (Op.eqFields (d + 1) xs ys fs).run P w = .ok e w:= by
  intro fs
  induction fs with
  | nil =>
    intro i ks cs ds hf hx hy hxs hys e he
    simp only [flatFs,Option.some.injEq] at hf
    subst hf
    cases cs with
    | nil => cases ds with
      | nil => simp only [eqCells,Option.some.injEq] at he;subst he;simp [Op.eqFields]
      | cons => simp [eqCells] at he
    | cons => simp [eqCells] at he
  | cons f fs ih =>
    intro i ks cs ds hf hx hy hxs hys e he
    simp only [flatFs] at hf
    split at hf
    case isFalse => cases hf
    case isTrue hfo =>
    obtain ⟨ho,hn⟩:= hfo
    have key : ∀ k,flatFs P (i + 1) fs = some k → ∀ kk,ks = kk :: k → ∃ c cs' d' ds',cs = c :: cs' ∧ ds = d' :: ds' ∧ ∃ q,eqK kk c d' = some q ∧ (if q then eqCells k cs' ds' else some false) = some e:= by
      intro k _ kk hkk
      subst hkk
      cases cs with
      | nil => simp [eqCells] at he
      | cons c cs' => cases ds with
        | nil => simp [eqCells] at he
        | cons d' ds' =>
          simp only [eqCells,Option.bind_eq_some_iff] at he
          obtain ⟨q,h1,h2⟩:= he
          exact ⟨c,cs',d',ds',rfl,rfl,q,h1,h2⟩
    have main : ∀ kk k,flatFs P (i + 1) fs = some k → ks = kk :: k →
        (∀ c d' q u v,RV w C g h u c → RV w C g h v d' → eqK kk c d' = some q → (part f.type xs f.offset).run P w = .ok u w → (part f.type ys f.offset).run P w = .ok v w →
          (Op.equalIn (d + 1) f.type u v).run P w = .ok q w) → (∀ v,xs[i]? = some v → (part f.type xs f.offset).run P w = .ok v w) → (∀ v,ys[i]? = some v → (part f.type ys f.offset).run P w = .ok v w) →
        (Op.eqFields (d + 1) xs ys (f :: fs)).run P w = .ok e w:= by
      intro kk k hk hkk heq hpx hpy
      obtain ⟨c,cs',d',ds',rfl,rfl,q,h1,h2⟩:= key k hk kk hkk
      have lx:= hxs 0 (by simp)
      have ly:= hys 0 (by simp)
      have gx : xs[i]? = some xs[i]:= by simp at lx ⊢
      have gy : ys[i]? = some ys[i]:= by simp at ly ⊢
      have px:= hpx _ gx
      have py:= hpy _ gy
      have hq:= heq c d' q _ _ (hx 0 _ c (by simp) (by simp)) (hy 0 _ d' (by simp) (by simp)) h1 px py
      simp only [Op.eqFields,hn,ne_eq,not_false_eq_true,if_true,Sem.run_bind,px,py,hq,Result.andThen_ok,Sem.run_ite]
      cases q with
      | false => simp at h2;subst h2;simp
      | true =>
        simp only [if_true] at h2
        simp only [Bool.not_true,Bool.false_eq_true,if_false]
        exact ih (i + 1) k cs' ds' hk (fun j v c h3 h4 => hx (j + 1) v c (by rw [← h3];congr 1;omega) (by simpa using h4)) (fun j v c h3 h4 => hy (j + 1) v c (by rw [← h3];congr 1;omega) (by simpa using h4))
          (fun j hj => by have:= hxs (j + 1) (by simpa using hj);omega) (fun j hj => by have:= hys (j + 1) (by simpa using hj);omega) e h2
    have partOf : ∀ (zs : Array Value) v,(∀ a,P.underlying f.type ≠ some (.struct a)) → (∀ a b,P.underlying f.type ≠ some (.array a b)) → (∃ dd,P.underlying f.type = some dd) → zs[i]? = some v → (part f.type zs f.offset).run P w = .ok v w:= by
      intro zs v hns hna ⟨dd,hdd⟩ hz
      have ha : (isAgg f.type).run P w = .ok false w:= by
        unfold isAgg
        simp only [Sem.run_bind,run_underlying hdd,Result.andThen_ok]
        cases dd <;> first | rfl | exact absurd hdd (hns _) | exact absurd hdd (hna _ _)
      simp [part,ha,ho,hz]
    split at hf
    · rename_i hk
      have hu:= underlying_bool hk
      simp only [Option.map_eq_some_iff] at hf
      obtain ⟨k,h1,h2⟩:= hf
      refine main .bool k h1 h2.symm (fun c d' q u v hu1 hv1 he1 _ _ => ?_) (fun v hv => partOf xs v (by simp [hu]) (by simp [hu]) ⟨_,hu⟩ hv) (fun v hv => partOf ys v (by simp [hu]) (by simp [hu]) ⟨_,hu⟩ hv)
      cases c <;> cases d' <;> simp only [eqK] at he1 <;> try (simp at he1;done)
      obtain rfl:= hu1.bool_inv
      obtain rfl:= hv1.bool_inv
      simp only [Option.some.injEq] at he1
      rw [run_equalIn_bool' w d _ _ _ hu,he1]
    · rename_i kk hk
      have hu:= underlying_int hk
      simp only [Option.map_eq_some_iff] at hf
      obtain ⟨k,h1,h2⟩:= hf
      refine main (.int kk) k h1 h2.symm (fun c d' q u v hu1 hv1 he1 _ _ => ?_) (fun v hv => partOf xs v (by simp [hu]) (by simp [hu]) ⟨_,hu⟩ hv) (fun v hv => partOf ys v (by simp [hu]) (by simp [hu]) ⟨_,hu⟩ hv)
      cases c <;> cases d' <;> simp only [eqK] at he1 <;> try (simp at he1;done)
      obtain rfl:= hu1.int_inv
      obtain rfl:= hv1.int_inv
      split at he1
      · rename_i hkk
        subst hkk
        simp only [Option.some.injEq] at he1
        rw [run_equalIn_int w d _ _ _ _ _ hu,he1]
      · cases he1
    · rename_i hk
      have hu:= underlying_str hk
      simp only [Option.map_eq_some_iff] at hf
      obtain ⟨k,h1,h2⟩:= hf
      refine main .str k h1 h2.symm (fun c d' q u v hu1 hv1 he1 _ _ => ?_) (fun v hv => partOf xs v (by simp [hu]) (by simp [hu]) ⟨_,hu⟩ hv) (fun v hv => partOf ys v (by simp [hu]) (by simp [hu]) ⟨_,hu⟩ hv)
      cases c <;> cases d' <;> simp only [eqK] at he1 <;> try (simp at he1;done)
      obtain ⟨b1,rfl,rfl⟩:= hu1.str_inv
      obtain ⟨b2,rfl,rfl⟩:= hv1.str_inv
      simp only [Option.some.injEq] at he1
      rw [run_equalIn_string w d _ _ _ hu,beq_bytes,he1]
    · cases hf
end Go.Ev
namespace Go.Ev
open Go Go.RowKit
variable {N : Nat → Nat → Prop} {B0 : Nat} {w0 w : World} {g : Gh} {h : Hp} {P : Program} {C : Nat → Nat → Prop}
theorem cells_one {v : Value} (h : v.oneCell' = true) : v.cells = #[v]:= by cases v <;> first | rfl | cases h
theorem RV.cells {v : Value} {x : AV} (hr : RV w C g h v x) (hx : (!notCell x || isAggV x) = true) : v.cells.size = x.cells.length ∧
    (∀ (i : Nat) u c,v.cells[i]? = some u → x.cells[i]? = some c → RV w C g h u c) ∧ ∀ c ∈ x.cells,notCell c = false:= by
  by_cases ha : ∃ cs,x = .agg cs
  · obtain ⟨cs,rfl⟩:= ha
    obtain ⟨arr,rfl,h1,h2,h3⟩:= hr.agg_inv
    exact ⟨h1,h3,h2⟩
  · have hn : notCell x = false:= by
      cases x <;> first | rfl | exact absurd ⟨_,rfl⟩ ha | simp [notCell,isAggV] at hx
    have hc : x.cells = [x]:= by cases x <;> first | rfl | exact absurd ⟨_,rfl⟩ ha
    have h1:= cells_one (oneCell_of_RV hr hn)
    rw [h1,hc]
    refine ⟨rfl,fun i u c hi hj => ?_,fun c hc' => by simpa using (by simpa using hc' : c = x) ▸ hn⟩
    cases i with
    | zero => simp at hi hj;subst hi;subst hj;exact hr
    | succ i => simp at hj
theorem zero_cells {t : TypeId} {z : List AV} (hz : zeroT P t = some z) (hn : z.any notCell = false) : ∃ i v,P.info? t = some i ∧ i.zero = some v ∧ v.cells.size = z.length ∧
    ∀ (j : Nat) u c,v.cells[j]? = some u → z[j]? = some c → RV w C g h u c:= by
  simp only [zeroT,Option.map_eq_some_iff,Option.bind_eq_some_iff] at hz
  obtain ⟨v,⟨i,h1,h2⟩,h3⟩:= hz
  have single : ∀ u : Value,u.cells = #[u] → absV u = absS u → (absS u).cells = [absS u] → (absV u).cells = z → u.cells.size = z.length ∧ ∀ (j : Nat) x c,u.cells[j]? = some x → z[j]? = some c → RV w C g h x c:= by
    intro u e1 e2 e3 e4
    rw [e2,e3] at e4
    subst e4
    rw [e1]
    refine ⟨rfl,fun j x c hj hc => ?_⟩
    cases j with
    | zero => simp at hj hc;subst hj;subst hc;exact RV_absS _
    | succ j => simp at hc
  refine ⟨i,v,h1,h2,?_⟩
  cases v with
  | agg cs =>
    simp only [absV] at h3
    split at h3
    · subst h3;simp [AV.cells,notCell] at hn
    have : (cs.toList.map absS) = z:= h3
    subst this
    refine ⟨by simp [Value.cells],fun j u c hj hc => ?_⟩
    have hj' : cs[j]? = some u:= hj
    simp only [List.getElem?_map,Array.getElem?_toList,hj',Option.map_some,Option.some.injEq] at hc
    subst hc
    exact RV_absS u
  | tuple vs =>
    simp only [absV] at h3
    split at h3
    · subst h3;simp [AV.cells,notCell] at hn
    · subst h3;simp [AV.cells,notCell] at hn
  | slice a l c => exact single _ rfl rfl (by unfold absS;split <;> rfl) h3
  | pointer a => exact single _ rfl rfl (by unfold absS;split <;> rfl) h3
  | map a => exact single _ rfl rfl (by unfold absS;split <;> rfl) h3
  | chan a => exact single _ rfl rfl (by unfold absS;split <;> rfl) h3
  | _ => exact single _ rfl rfl rfl h3
theorem run_typeInfo {t : TypeId} {i : TypeInfo} (hi : P.info? t = some i) (w : World) : (typeInfo t).run P w = .ok i w:= by simp [typeInfo,hi]
theorem run_sizeOf {t : TypeId} {n : Nat} (hi : szT P t = some n) (w : World) : (sizeOf t).run P w = .ok n w:= by
  simp only [szT,Option.map_eq_some_iff] at hi
  obtain ⟨i,h1,h2⟩:= hi
  simp [sizeOf,run_typeInfo h1,h2]
theorem run_isAgg {t : TypeId} {b : Bool} (hi : aggT P t = some b) (w : World) : (isAgg t).run P w = .ok b w:= by
  simp only [aggT,Option.map_eq_some_iff] at hi
  obtain ⟨d,h1,h2⟩:= hi
  unfold isAgg
  simp only [Sem.run_bind,run_underlying h1,Result.andThen_ok]
  cases d <;> simp at h2 <;> subst h2 <;> rfl
theorem op_move {a : Act} {o : Oper} {x : Operand} (r : Rel N B0 w0 w g h) (ho : o.op = .move x ∨ o.op = .assign x) {X : AV} (hx : RV w (CC N B0 g) g h (a.eval x) X) : OpOk P N B0 w0 w g h a o X h:= by
  refine opOk_pure r (v':= a.eval x) ?_ hx
  rcases ho with ho | ho <;> simp [execOp,ho]
theorem op_pick {a : Act} {o : Oper} {c x y : Operand} (r : Rel N B0 w0 w g h) (ho : o.op = .pick c x y) {t : Bool} {X Y : AV} (hc : RV w (CC N B0 g) g h (a.eval c) (.bool t))
    (hx : RV w (CC N B0 g) g h (a.eval x) X) (hy : RV w (CC N B0 g) g h (a.eval y) Y) : OpOk P N B0 w0 w g h a o (if t then X else Y) h:= by
  have hb:= hc.bool_inv
  refine opOk_pure r (v':= if t then a.eval x else a.eval y) ?_ (by cases t <;> assumption)
  simp [execOp,ho,hb,asBool]
theorem op_alloc {a : Act} {o : Oper} {t : TypeId} {z : List AV} (r : Rel N B0 w0 w g h) (ho : o.op = .alloc t) (hz : zeroT P t = some z) (hn : z.any notCell = false) :
    OpOk P N B0 w0 w g h a o (.ptr h.nx 0) (h.new z):= by
  obtain ⟨i,v,h1,h2,h3,h4⟩:= zero_cells (w:= w) (C:= CC N B0 g) (g:= g) (h:= h) hz hn
  obtain ⟨g',hn',hb,_⟩:= r.new v.cells t z (by omega) h4 (fun c hc => by simpa using (List.any_eq_false.1 hn) c hc)
  refine opOk_run (v':= .pointer (some ⟨w.heap.size,0,none⟩)) (w':= w.alloc (.cells v.cells t)) ?_ hn' ?_
  · simp [execOp,ho,Instr.alloc,zeroValue,run_typeInfo h1,h2,newVar,newRow]
  · rw [← hb];exact .ptr _ _ (by simp [Hp.new])
theorem op_box {a : Act} {o : Oper} {t : TypeId} {x : Operand} {X : AV} (r : Rel N B0 w0 w g h) (ho : o.op = .box t x) (hx : RV w (CC N B0 g) g h (a.eval x) X) (hX : (!notCell X || isAggV X) = true) :
    OpOk P N B0 w0 w g h a o (.ptr h.nx 0) (h.new X.cells):= by
  obtain ⟨h1,h2,h3⟩:= hx.cells hX
  obtain ⟨g',hn',hb,_⟩:= r.new (a.eval x).cells t X.cells (by omega) h2 h3
  refine opOk_run (v':= .pointer (some ⟨w.heap.size,0,none⟩)) (w':= w.alloc (.cells (a.eval x).cells t)) ?_ hn' ?_
  · simp [execOp,ho,Instr.box,newVar,newRow]
  · rw [← hb];exact .ptr _ _ (by simp [Hp.new])
theorem run_loadVar {t : TypeId} {b off : Nat} {cs : List AV} {v : AV} (hv : evLoad P t cs = some v) (f : Nat → Value)
    (hc : ∀ (j : Nat) c,cs[j]? = some c → w.cell? ⟨b,off + j,none⟩ = some (f j) ∧ RV w C g h (f j) c ∧ notCell c = false) :
    ∃ u,(loadVar t ⟨b,off,none⟩).run P w = .ok u w ∧ RV w C g h u v:= by
  unfold evLoad at hv
  split at hv
  · rename_i n ha hs
    split at hv
    case isFalse => cases hv
    rename_i hle
    injection hv with hv
    subst hv
    refine ⟨.agg ((List.range n).map f).toArray,?_,?_⟩
    · have:= run_loadCells (P:= P) w ⟨b,off,none⟩ n f (fun j hj => by
        rw [Addr.add_lit];exact (hc j cs[j] (by simp)).1)
      simp [loadVar,run_isAgg ha,run_sizeOf hs,this]
    · refine .agg _ _ (by simp;omega) (fun c hc' => ?_) fun i u c hi hj => ?_
      · obtain ⟨j,hj⟩:= List.getElem?_of_mem (List.mem_of_mem_take hc')
        exact (hc j c hj).2.2
      · rw [List.getElem?_take] at hj
        split at hj
        · rename_i hin
          simp [hin] at hi
          subst hi
          exact (hc i c hj).2.1
        · cases hj
  · rename_i n ha hs
    cases cs with
    | nil => cases hv
    | cons c cs =>
      simp only [List.head?_cons,Option.some.injEq] at hv
      subst hv
      obtain ⟨h1,h2,_⟩:= hc 0 c rfl
      simp only [Nat.add_zero] at h1
      exact ⟨f 0,by simp [loadVar,run_isAgg ha,h1],h2⟩
  · cases hv
theorem notCell_of_RI {v : Value} {c : AV} (hr : RI w C v c) : notCell c = false:= by cases hr <;> rfl
theorem op_load_ptr {a : Act} {o : Oper} {t : TypeId} {x : Operand} {q off : Nat} {cs : List AV} {v : AV} (r : Rel N B0 w0 w g h) (ho : o.op = .load t x) (hx : RV w (CC N B0 g) g h (a.eval x) (.ptr q off))
    (hq : h.hp q = some cs) (hv : evLoad P t (cs.drop off) = some v) : OpOk P N B0 w0 w g h a o v h:= by
  obtain ⟨_,hp⟩:= hx.ptr_inv
  obtain ⟨h1,h2,arr,ty,h3,_,h4,h5,h6⟩:= r.blk q cs hq
  obtain ⟨u,hu,hr⟩:= run_loadVar (w:= w) (C:= CC N B0 g) (g:= g) (h:= h) (b:= g.bl q) (off:= off) hv (fun j => arr.getD (off + j) undef) (fun j c hj => by
    rw [List.getElem?_drop] at hj
    have hlt : off + j < arr.size:= Nat.lt_of_lt_of_le (List.getElem?_eq_some_iff.1 hj).1 h4
    have hg : arr[off + j]? = some (arr.getD (off + j) undef):= by simp [Array.getD,hlt]
    exact ⟨by rw [cell_of_row _ _ _ _ _ _ h3];exact hg,h5 _ _ _ hg hj,h6 c (List.mem_of_getElem? hj)⟩)
  refine opOk_pure r (v':= u) ?_ hr
  simp [execOp,ho,Instr.loadAt,hp,Instr.sureAddr,hu]
theorem op_load_cptr {a : Act} {o : Oper} {t : TypeId} {x : Operand} {cs : List AV} {v : AV} (r : Rel N B0 w0 w g h) (ho : o.op = .load t x) (hx : RV w (CC N B0 g) g h (a.eval x) (.cptr cs))
    (hv : evLoad P t cs = some v) : OpOk P N B0 w0 w g h a o v h:= by
  obtain ⟨b,off,hp,vals,hc⟩:= hx.cptr_inv
  obtain ⟨u,hu,hr⟩:= run_loadVar (w:= w) (C:= CC N B0 g) (g:= g) (h:= h) (b:= b) (off:= off) hv vals (fun j c hj => by
    obtain ⟨_,k2,k3⟩:= hc j c hj
    exact ⟨k2,.ri k3,notCell_of_RI k3⟩)
  refine opOk_pure r (v':= u) ?_ hr
  simp [execOp,ho,Instr.loadAt,hp,Instr.sureAddr,hu]
theorem op_store {a : Act} {o : Oper} {t : TypeId} {x y : Operand} {q off : Nat} {cs : List AV} {Y : AV} (r : Rel N B0 w0 w g h) (ho : o.op = .store t x y) (hx : RV w (CC N B0 g) g h (a.eval x) (.ptr q off))
    (hq : h.hp q = some cs) (hy : RV w (CC N B0 g) g h (a.eval y) Y) (hs : szT P t = some Y.cells.length) (hfit : off + Y.cells.length ≤ cs.length) (hn : Y.cells.any notCell = false) :
    OpOk P N B0 w0 w g h a o (.tup []) (h.set q (splice cs off Y.cells)):= by
  obtain ⟨_,hp⟩:= hx.ptr_inv
  obtain ⟨h1,h2,arr,ty,h3,_,h4,h5,h6⟩:= r.blk q cs hq
  have hY : (!notCell Y || isAggV Y) = true:= by
    cases Y <;> first | rfl | simp [AV.cells,notCell] at hn
  obtain ⟨k1,k2,k3⟩:= hy.cells hY
  have one : ∀ u ∈ (a.eval y).cells.toList,u.oneCell' = true:= fun u hu => by
    obtain ⟨j,hj⟩:= List.getElem?_of_mem hu
    have hlt : j < Y.cells.length:= by
      have:= (List.getElem?_eq_some_iff.1 hj).1
      simp at this;omega
    exact oneCell_of_RV (k2 j u Y.cells[j] (by simpa using hj) (by simp)) (k3 _ (List.getElem_mem _))
  have hst:= run_storeCells_at P (g.bl q) off ty (a.eval y).cells.toList 0 arr w h3 (by simp;omega) one
  simp only [Nat.add_zero] at hst
  refine opOk_skip (w':= w.setRow (g.bl q) (over arr off (a.eval y).cells.toList)) ?_ (r.store hq off (a.eval y).cells.toList Y.cells (by simp [k1]) hfit (fun i v c hi hc => k2 i v c (by simpa using hi) hc) k3 h3)
  simp [execOp,ho,Instr.storeAt,hp,Instr.sureAddr,storeVar,run_sizeOf hs,k1,hst,over]
theorem op_nilCheck {a : Act} {o : Oper} {x : Operand} {X : AV} (r : Rel N B0 w0 w g h) (ho : o.op = .nilCheck x) (hx : RV w (CC N B0 g) g h (a.eval x) X) (hX : (∃ q off,X = .ptr q off) ∨ ∃ cs,X = .cptr cs) :
    OpOk P N B0 w0 w g h a o X h:= by
  refine opOk_pure r (v':= a.eval x) ?_ hx
  rcases hX with ⟨q,off,rfl⟩ | ⟨cs,rfl⟩
  · obtain ⟨_,hp⟩:= hx.ptr_inv
    simp [execOp,ho,hp]
  · obtain ⟨b,off,hp,_⟩:= hx.cptr_inv
    simp [execOp,ho,hp]
theorem run_fieldAt {s k off : Nat} (hoff : offT P s k = some off) (b o : Nat) : (Instr.fieldAt s (.pointer (some ⟨b,o,none⟩)) k).run P w = .ok (.pointer (some ⟨b,o + off,none⟩)) w:= by
  unfold offT at hoff
  split at hoff
  case h_2 => cases hoff
  rename_i fs hfs
  simp only [Option.bind_eq_some_iff] at hoff
  obtain ⟨f,h1,h2⟩:= hoff
  split at h2
  case isTrue => cases h2
  rename_i hne
  injection h2 with h2
  cases hi : szT P f.type with
  | none => rw [hi] at hne;simp at hne
  | some n =>
    rw [hi] at hne
    simp only [Option.getD_some] at hne
    simp [Instr.fieldAt,run_underlying hfs,h1,Instr.sureAddr,fieldPlace,run_sizeOf hi,hne,Addr.add_lit,h2]
theorem op_fieldAddr {a : Act} {o : Oper} {s k off : Nat} {x : Operand} (r : Rel N B0 w0 w g h) (ho : o.op = .fieldAddr s x k) (hoff : offT P s k = some off) {X Y : AV} (hx : RV w (CC N B0 g) g h (a.eval x) X)
    (hY : (∃ q p,X = .ptr q p ∧ Y = .ptr q (p + off)) ∨ ∃ cs,X = .cptr cs ∧ Y = .cptr (cs.drop off)) : OpOk P N B0 w0 w g h a o Y h:= by
  rcases hY with ⟨q,p,rfl,rfl⟩ | ⟨cs,rfl,rfl⟩
  · obtain ⟨hq,hp⟩:= hx.ptr_inv
    refine opOk_pure r (v':= .pointer (some ⟨g.bl q,p + off,none⟩)) ?_ (.ptr _ _ hq)
    simp [execOp,ho,hp,run_fieldAt hoff]
  · obtain ⟨b,p,hp,vals,hc⟩:= hx.cptr_inv
    refine opOk_pure r (v':= .pointer (some ⟨b,p + off,none⟩)) ?_ (.cptr _ _ _ (fun j => vals (off + j)) fun j c hj => ?_)
    · simp [execOp,ho,hp,run_fieldAt hoff]
    · rw [List.getElem?_drop] at hj
      have:= hc _ c hj
      rwa [show p + (off + j) = p + off + j by omega] at this
theorem op_field {a : Act} {o : Oper} {s k : Nat} {x : Operand} {p : Nat × TypeId} (r : Rel N B0 w0 w g h) (ho : o.op = .field s x k) (hf : fldT P s k = some p) {cs : List AV} (hx : RV w (CC N B0 g) g h (a.eval x) (.agg cs))
    {v : AV} (hv : (∃ n,aggT P p.2 = some true ∧ szT P p.2 = some n ∧ v = .agg ((cs.drop p.1).take n)) ∨ (aggT P p.2 = some false ∧ cs[p.1]? = some v)) : OpOk P N B0 w0 w g h a o v h:= by
  obtain ⟨arr,ha,h1,h2,h3⟩:= hx.agg_inv
  unfold fldT at hf
  split at hf
  case h_2 => cases hf
  rename_i fs hfs
  simp only [Option.map_eq_some_iff] at hf
  obtain ⟨f,hf1,rfl⟩:= hf
  rcases hv with ⟨n,hag,hs,rfl⟩ | ⟨hag,hv⟩
  · refine opOk_pure r (v':= .agg (arr.extract f.offset (f.offset + n))) ?_ (.agg _ _ ?_ (fun c hc => h2 c (List.mem_of_mem_drop (List.mem_of_mem_take hc))) fun i u c hi hj => ?_)
    · simp [execOp,ho,ha,Instr.field,run_underlying hfs,hf1,asAgg,part,run_isAgg hag,run_sizeOf hs]
    · simp;omega
    · rw [List.getElem?_take] at hj
      split at hj
      case isFalse => cases hj
      rw [List.getElem?_drop] at hj
      rw [Array.getElem?_extract] at hi
      split at hi
      · exact h3 _ u c hi hj
      · cases hi
  · have hlt : f.offset < arr.size:= by rw [h1];exact (List.getElem?_eq_some_iff.1 hv).1
    refine opOk_pure r (v':= arr[f.offset]) ?_ (h3 f.offset _ v (by simp) hv)
    simp [execOp,ho,ha,Instr.field,run_underlying hfs,hf1,asAgg,part,run_isAgg hag,hlt]
theorem op_extract {a : Act} {o : Oper} {x : Operand} {i : Nat} {vs : List AV} {v : AV} (r : Rel N B0 w0 w g h) (ho : o.op = .extract x i) (hx : RV w (CC N B0 g) g h (a.eval x) (.tup vs)) (hv : vs[i]? = some v) :
    OpOk P N B0 w0 w g h a o v h:= by
  obtain ⟨arr,ha,h1,h2⟩:= hx.tup_inv
  have hlt : i < arr.size:= by rw [h1];exact (List.getElem?_eq_some_iff.1 hv).1
  refine opOk_pure r (v':= arr[i]) ?_ (h2 i _ v (by simp) hv)
  simp [execOp,ho,ha,Instr.extract,hlt]
theorem op_makeInterface {a : Act} {o : Oper} {x : Operand} {t : TypeId} {X : AV} (r : Rel N B0 w0 w g h) (ho : o.op = .makeInterface t x) (hc : P.concrete t = true) (hx : RV w (CC N B0 g) g h (a.eval x) X) :
    OpOk P N B0 w0 w g h a o (.ifc t X) h:= by
  refine opOk_pure r (v':= .iface t (a.eval x)) ?_ (.ifc t _ _ hx)
  simp [execOp,ho,run_makeInterface w t _ hc]
theorem op_unOp {a : Act} {o : Oper} {op : UnOp} {x : Operand} {t : TypeId} {X v : AV} (r : Rel N B0 w0 w g h) (ho : o.op = .unOp op t x) (hx : RV w (CC N B0 g) g h (a.eval x) X) (hv : evUn op X = some v) :
    OpOk P N B0 w0 w g h a o v h:= by
  unfold evUn at hv
  split at hv
  · have hi:= hx.int_inv
    injection hv with hv;subst hv
    refine opOk_pure r ?_ (RI.int' _ _)
    simp [execOp,ho,hi,Op.unary,Op.intArith]
  · have hi:= hx.int_inv
    injection hv with hv;subst hv
    refine opOk_pure r ?_ (RI.int' _ _)
    simp [execOp,ho,hi,Op.unary,Op.intBits]
  · have hi:= hx.bool_inv
    injection hv with hv;subst hv
    refine opOk_pure r ?_ (RI.bool' _)
    simp [execOp,ho,hi,Op.unary]
  · cases hv
end Go.Ev
namespace Go.Ev
open Go Go.RowKit
variable {N : Nat → Nat → Prop} {B0 : Nat} {w0 w : World} {g : Gh} {h : Hp} {P : Program} {C : Nat → Nat → Prop}
theorem run_eqGuard_plain (op : BinOp) (t : TypeId) (x y : Operand) (a b : Value) (h1 : a ≠ .nilIface ∨ b ≠ .nilIface) (h2 : (∀ c,a ≠ .agg c) ∨ ∀ c,b ≠ .agg c) : (eqGuard op t x y a b).run P w = .ok () w:= by
  cases op <;> (first | rfl | (cases a <;> first | rfl | (cases b <;> first | rfl | (simp at h1;done) | (simp at h2;done))))
theorem run_intOps {op : BinOp} {k : IntKind} {x y : Int} {t : TypeId} {v : AV} (hv : evInt op k x y = some v) : ∃ u,(binOp op t (.int k x) (.int k y)).run P w = .ok u w ∧ RV w C g h u v:= by
  unfold evInt at hv
  split at hv
  case h_1 => injection hv with hv;subst hv;exact ⟨_,by simp [binOp,Op.intArith],RI.int' _ _⟩
  case h_2 => injection hv with hv;subst hv;exact ⟨_,by simp [binOp,Op.intArith],RI.int' _ _⟩
  case h_3 => injection hv with hv;subst hv;exact ⟨_,by simp [binOp,Op.intArith],RI.int' _ _⟩
  case h_4 =>
    split at hv
    · cases hv
    · rename_i hy;injection hv with hv;subst hv;exact ⟨_,by simp [binOp,Op.intDiv,hy],RI.int' _ _⟩
  case h_5 =>
    split at hv
    · cases hv
    · rename_i hy;injection hv with hv;subst hv;exact ⟨_,by simp [binOp,Op.intDiv,hy],RI.int' _ _⟩
  case h_6 => injection hv with hv;subst hv;exact ⟨_,by simp [binOp,Op.intBits],RI.int' _ _⟩
  case h_7 => injection hv with hv;subst hv;exact ⟨_,by simp [binOp,Op.intBits],RI.int' _ _⟩
  case h_8 => injection hv with hv;subst hv;exact ⟨_,by simp [binOp,Op.intBits],RI.int' _ _⟩
  case h_9 => injection hv with hv;subst hv;exact ⟨_,by simp [binOp,Op.intBits],RI.int' _ _⟩
  case h_10 => injection hv with hv;subst hv;exact ⟨_,by simp [binOp,Op.intCmp],RI.bool' _⟩
  case h_11 => injection hv with hv;subst hv;exact ⟨_,by simp [binOp,Op.intCmp],RI.bool' _⟩
  case h_12 => injection hv with hv;subst hv;exact ⟨_,by simp [binOp,Op.intCmp],RI.bool' _⟩
  case h_13 => injection hv with hv;subst hv;exact ⟨_,by simp [binOp,Op.intCmp],RI.bool' _⟩
  case h_14 => injection hv with hv;subst hv;exact ⟨_,by simp [binOp,Op.intCmp],RI.bool' _⟩
  case h_15 => injection hv with hv;subst hv;exact ⟨_,by simp [binOp,Op.intCmp],RI.bool' _⟩
  case h_16 => cases hv
theorem run_shiftOps {op : BinOp} {k k' : IntKind} {x y : Int} {t : TypeId} {v : AV} (hop : op = .shl ∨ op = .shr) (hv : evShift op k x y = some v) : ∃ u,(binOp op t (.int k x) (.int k' y)).run P w = .ok u w ∧ RV w C g h u v:= by
  unfold evShift at hv
  split at hv
  · cases hv
  · rename_i hy
    rcases hop with rfl | rfl
    · injection hv with hv;subst hv;exact ⟨_,by simp [binOp,Op.shift,hy],RI.int' _ _⟩
    · injection hv with hv;subst hv;exact ⟨_,by simp [binOp,Op.shift,hy],RI.int' _ _⟩
theorem run_strOps {op : BinOp} {x y : ByteArray} {t : TypeId} {v : AV} (hv : evStr op x.data.toList y.data.toList = some v) : ∃ u,(binOp op t (.string x) (.string y)).run P w = .ok u w ∧ RV w C g h u v:= by
  have ex : x.toList = x.data.toList:= ByteArray.toList_eq _
  have ey : y.toList = y.data.toList:= ByteArray.toList_eq _
  unfold evStr at hv
  split at hv
  case h_1 =>
    split at hv
    · rename_i hl
      injection hv with hv;subst hv
      have hl' : ¬ (((x.size + y.size : Nat) : Int) > IntKind.i64.max):= by
        have e1 : x.size = x.data.toList.length:= by simp
        have e2 : y.size = y.data.toList.length:= by simp
        have e3 : IntKind.i64.max = 9223372036854775807:= by decide
        rw [e3];omega
      refine ⟨.string (x ++ y),?_,RI.str' ?_⟩
      · simp only [binOp,Op.stringOp,if_neg hl',Sem.run_pure]
      · simp
    · cases hv
  case h_2 => injection hv with hv;subst hv;exact ⟨.bool _,by simp only [binOp,Op.stringOp,Sem.run_pure,ex,ey],RI.bool' _⟩
  case h_3 => injection hv with hv;subst hv;exact ⟨.bool _,by simp only [binOp,Op.stringOp,Sem.run_pure,ex,ey],RI.bool' _⟩
  case h_4 => injection hv with hv;subst hv;exact ⟨.bool _,by simp only [binOp,Op.stringOp,Sem.run_pure,ex,ey],RI.bool' _⟩
  case h_5 => injection hv with hv;subst hv;exact ⟨.bool _,by simp only [binOp,Op.stringOp,Sem.run_pure,ex,ey],RI.bool' _⟩
  case h_6 => injection hv with hv;subst hv;exact ⟨.bool _,by simp only [binOp,Op.stringOp,Sem.run_pure,ex,ey],RI.bool' _⟩
  case h_7 => injection hv with hv;subst hv;exact ⟨.bool _,by simp only [binOp,Op.stringOp,Sem.run_pure,ex,ey],RI.bool' _⟩
  case h_8 => cases hv
theorem flatT_spec {t : TypeId} {ks : List TK} (hf : flatT P t = some ks) : P.underlying t = some (.struct (P.fieldsOf t)) ∧ P.stoodInHeld t = false ∧ P.eqGuardType P.depth t = false ∧ flatFs P 0 (P.fieldsOf t).toList = some ks:= by
  unfold flatT at hf
  split at hf
  case h_2 => cases hf
  rename_i fs hfs
  have e : P.fieldsOf t = fs:= by simp [Program.fieldsOf,hfs]
  split at hf
  · cases hf
  · rename_i hn
    simp only [Bool.or_eq_true,not_or,Bool.not_eq_true] at hn
    rw [e]
    exact ⟨hfs,hn.1,hn.2,hf⟩
theorem run_equalAgg {t : TypeId} {ks : List TK} {xs ys : Array Value} {cs ds : List AV} {e : Bool} (hf : flatT P t = some ks) (hx : RV w C g h (.agg xs) (.agg cs)) (hy : RV w C g h (.agg ys) (.agg ds)) (he : eqCells ks cs ds = some e) :
    (Op.equal t (.agg xs) (.agg ys)).run P w = .ok e w:= by
  obtain ⟨h1,h2,_,h3⟩:= flatT_spec hf
  obtain ⟨a1,e1,k1,_,k2⟩:= hx.agg_inv
  obtain ⟨a2,e2,l1,_,l2⟩:= hy.agg_inv
  injection e1 with e1;subst e1
  injection e2 with e2;subst e2
  show (Op.equalIn (9999 + 1) t (.agg xs) (.agg ys)).run P w = _
  rw [run_equalIn_struct w 9999 t xs ys h1 h2]
  exact eqFields_run (d:= 9998) xs ys _ 0 ks cs ds h3 (fun j v c h3 h4 => k2 j v c (by simpa using h3) h4) (fun j v c h3 h4 => l2 j v c (by simpa using h3) h4) (fun j hj => by omega) (fun j hj => by omega) e he
theorem run_eqIn_nil {t : TypeId} {ms : Array (String × TypeId)} (d : Nat) (hu : P.underlying t = some (.interface ms)) (tt : TypeId) (u : Value) : (Op.equalIn (d + 1) t (.iface tt u) .nilIface).run P w = .ok false w:= by
  simp only [Op.equalIn,Sem.run_bind,run_underlying hu,Result.andThen_ok]
  rfl
theorem run_eqIn_nil' {t : TypeId} {ms : Array (String × TypeId)} (d : Nat) (hu : P.underlying t = some (.interface ms)) (tt : TypeId) (u : Value) : (Op.equalIn (d + 1) t .nilIface (.iface tt u)).run P w = .ok false w:= by
  simp only [Op.equalIn,Sem.run_bind,run_underlying hu,Result.andThen_ok]
  rfl
theorem run_eqIn_nilnil {t : TypeId} {ms : Array (String × TypeId)} (d : Nat) (hu : P.underlying t = some (.interface ms)) : (Op.equalIn (d + 1) t .nilIface .nilIface).run P w = .ok true w:= by
  simp only [Op.equalIn,Sem.run_bind,run_underlying hu,Result.andThen_ok]
  rfl
theorem run_eq_nilnil {t : TypeId} {ms : Array (String × TypeId)} (hu : P.underlying t = some (.interface ms)) : (Op.equal t .nilIface .nilIface).run P w = .ok true w:= run_eqIn_nilnil 9999 hu
theorem run_eqGuard_nil (op : BinOp) (t : TypeId) (x y : Operand) (h : (isK x || isK y) = true) : (eqGuard op t x y .nilIface .nilIface).run P w = .ok () w:= by
  cases x <;> cases y <;> first | (simp [isK] at h;done) | (cases op <;> rfl)
theorem run_eq_nil {t : TypeId} {ms : Array (String × TypeId)} (hu : P.underlying t = some (.interface ms)) (tt : TypeId) (u : Value) : (Op.equal t (.iface tt u) .nilIface).run P w = .ok false w:= run_eqIn_nil 9999 hu tt u
theorem run_eq_nil' {t : TypeId} {ms : Array (String × TypeId)} (hu : P.underlying t = some (.interface ms)) (tt : TypeId) (u : Value) : (Op.equal t .nilIface (.iface tt u)).run P w = .ok false w:= run_eqIn_nil' 9999 hu tt u
theorem op_binOp {a : Act} {o : Oper} {op : BinOp} {x y : Operand} {t u : TypeId} {X Y v : AV} (r : Rel N B0 w0 w g h) (ho : o.op = .binOp op t x y u) (hx : RV w (CC N B0 g) g h (a.eval x) X) (hy : RV w (CC N B0 g) g h (a.eval y) Y)
    (hv : evBin P op t (isK x || isK y) X Y = some v) : OpOk P N B0 w0 w g h a o v h:= by
  have fin : ∀ (q : Value),(eqGuard op t x y (a.eval x) (a.eval y)).run P w = .ok () w → (binOp op t (a.eval x) (a.eval y)).run P w = .ok q w → RV w (CC N B0 g) g h q v → OpOk P N B0 w0 w g h a o v h:=
    fun q h1 h2 h3 => opOk_pure r (v':= q) (by simp [execOp,ho,h1,h2]) h3
  unfold evBin at hv
  split at hv
  · rename_i k p k' q
    have e1:= hx.int_inv
    have e2:= hy.int_inv
    have hg : (eqGuard op t x y (a.eval x) (a.eval y)).run P w = .ok () w:= by rw [e1,e2];exact run_eqGuard_plain _ _ _ _ _ _ (.inl (by simp)) (.inl (by simp))
    split at hv
    · obtain ⟨u,h1,h2⟩:= run_shiftOps (P:= P) (w:= w) (t:= t) (k':= k') (C:= CC N B0 g) (g:= g) (h:= h) (.inl rfl) hv
      exact fin u hg (by rw [e1,e2];exact h1) h2
    · obtain ⟨u,h1,h2⟩:= run_shiftOps (P:= P) (w:= w) (t:= t) (k':= k') (C:= CC N B0 g) (g:= g) (h:= h) (.inr rfl) hv
      exact fin u hg (by rw [e1,e2];exact h1) h2
    · split at hv
      · rename_i hk;subst hk
        obtain ⟨u,h1,h2⟩:= run_intOps (P:= P) (w:= w) (t:= t) (C:= CC N B0 g) (g:= g) (h:= h) hv
        exact fin u hg (by rw [e1,e2];exact h1) h2
      · cases hv
  · obtain ⟨b1,e1,rfl⟩:= hx.str_inv
    obtain ⟨b2,e2,rfl⟩:= hy.str_inv
    obtain ⟨u,h1,h2⟩:= run_strOps (P:= P) (w:= w) (t:= t) (C:= CC N B0 g) (g:= g) (h:= h) hv
    exact fin u (by rw [e1,e2];exact run_eqGuard_plain _ _ _ _ _ _ (.inl (by simp)) (.inl (by simp))) (by rw [e1,e2];exact h1) h2
  · have e1:= hx.bool_inv
    have e2:= hy.bool_inv
    have hg : (eqGuard op t x y (a.eval x) (a.eval y)).run P w = .ok () w:= by rw [e1,e2];exact run_eqGuard_plain _ _ _ _ _ _ (.inl (by simp)) (.inl (by simp))
    split at hv
    case isFalse => cases hv
    rename_i hk
    have hu:= underlying_bool hk
    split at hv
    · injection hv with hv;subst hv
      exact fin _ hg (by rw [e1,e2];simp [binOp,Op.equal,Op.maxDepth,run_equalIn_bool' w _ _ _ _ hu]) (RI.bool' _)
    · injection hv with hv;subst hv
      exact fin _ hg (by rw [e1,e2];simp [binOp,Op.equal,Op.maxDepth,run_equalIn_bool' w _ _ _ _ hu]) (RI.bool' _)
    · cases hv
  · obtain ⟨xs,e1,_⟩:= hx.agg_inv
    obtain ⟨ys,e2,_⟩:= hy.agg_inv
    rw [e1] at hx
    rw [e2] at hy
    have hgd : ∀ ks,flatT P t = some ks → (eqGuard op t x y (a.eval x) (a.eval y)).run P w = .ok () w:= fun ks hf => by
      have:= (flatT_spec hf).2.2.1
      rw [e1,e2]
      cases op <;> first | rfl | simp [eqGuard,this]
    split at hv
    · rename_i ks hf
      simp only [Option.map_eq_some_iff] at hv
      obtain ⟨e,he,rfl⟩:= hv
      exact fin _ (hgd ks hf) (by rw [e1,e2];simp [binOp,run_equalAgg hf hx hy he]) (RI.bool' _)
    · rename_i ks hf
      simp only [Option.map_eq_some_iff] at hv
      obtain ⟨e,he,rfl⟩:= hv
      exact fin _ (hgd ks hf) (by rw [e1,e2];simp [binOp,run_equalAgg hf hx hy he]) (RI.bool' _)
    · cases hv
  · obtain ⟨u1,e1,_⟩:= hx.ifc_inv
    have e2:= hy.inil_inv
    have hg : (eqGuard op t x y (a.eval x) (a.eval y)).run P w = .ok () w:= by rw [e1,e2];exact run_eqGuard_plain _ _ _ _ _ _ (.inl (by simp)) (.inl (by simp))
    split at hv
    case isFalse => cases hv
    rename_i hk
    obtain ⟨ms,hu⟩:= underlying_iface hk
    have he : ∀ tt,(Op.equal t (.iface tt u1) .nilIface).run P w = .ok false w:= fun tt => run_eq_nil hu tt u1
    split at hv
    · injection hv with hv;subst hv
      exact fin _ hg (by rw [e1,e2];simp [binOp,he]) (RI.bool' _)
    · injection hv with hv;subst hv
      exact fin _ hg (by rw [e1,e2];simp [binOp,he]) (RI.bool' _)
    · cases hv
  · obtain ⟨u1,e1,_⟩:= hy.ifc_inv
    have e2:= hx.inil_inv
    have hg : (eqGuard op t x y (a.eval x) (a.eval y)).run P w = .ok () w:= by rw [e1,e2];exact run_eqGuard_plain _ _ _ _ _ _ (.inr (by simp)) (.inl (by simp))
    split at hv
    case isFalse => cases hv
    rename_i hk
    obtain ⟨ms,hu⟩:= underlying_iface hk
    have he : ∀ tt,(Op.equal t .nilIface (.iface tt u1)).run P w = .ok false w:= fun tt => run_eq_nil' hu tt u1
    split at hv
    · injection hv with hv;subst hv
      exact fin _ hg (by rw [e1,e2];simp [binOp,he]) (RI.bool' _)
    · injection hv with hv;subst hv
      exact fin _ hg (by rw [e1,e2];simp [binOp,he]) (RI.bool' _)
    · cases hv
  · have e1:= hx.inil_inv
    have e2:= hy.inil_inv
    split at hv
    case isFalse => cases hv
    rename_i hk
    obtain ⟨hk,hkk⟩:= hk
    have hg : (eqGuard op t x y (a.eval x) (a.eval y)).run P w = .ok () w:= by rw [e1,e2];exact run_eqGuard_nil _ _ _ _ hkk
    obtain ⟨ms,hu⟩:= underlying_iface hk
    have he : (Op.equal t .nilIface .nilIface).run P w = .ok true w:= run_eq_nilnil hu
    split at hv
    · injection hv with hv;subst hv
      exact fin _ hg (by rw [e1,e2];simp [binOp,he]) (RI.bool' _)
    · injection hv with hv;subst hv
      exact fin _ hg (by rw [e1,e2];simp [binOp,he]) (RI.bool' _)
    · cases hv
  · cases hv
theorem RI.imm_at {v : Value} {rows : List (List AV)} {i sz : Nat} {row : List AV} (hr : RI w C v (.imm rows)) (hi : rows[i]? = some row) (hs : row.length = sz) :
    ∃ b off cap,∃ vals : Nat → Nat → Value,v = .slice (some ⟨b,off,none⟩) rows.length cap ∧ rows.length ≤ cap ∧ (∀ r ∈ rows,r.length = sz) ∧
      (∀ i j,i < rows.length → j < sz → C b (off + i * sz + j) ∧ w.cell? ⟨b,off + i * sz + j,none⟩ = some (vals i j)) ∧
      ∀ (i j : Nat) row c,rows[i]? = some row → row[j]? = some c → RI w C (vals i j) c:= by
  generalize ht : AV.imm rows = t at hr
  cases hr with
  | slE a cap => injection ht with ht;subst ht;simp at hi
  | sl b off len cap sz' rows' vals hl hc hsz hcell hval =>
    injection ht with ht
    subst ht
    have : sz' = sz:= by rw [← hsz row (List.mem_of_getElem? hi),hs]
    subst this
    subst hl
    exact ⟨b,off,cap,vals,rfl,hc,hsz,hcell,hval⟩
  | _ => cases ht
theorem RI.imm_len {v : Value} {rows : List (List AV)} (hr : RI w C v (.imm rows)) : ∃ a cap,v = .slice a rows.length cap ∧ rows.length ≤ cap:= by
  generalize ht : AV.imm rows = t at hr
  cases hr with
  | slE a cap => injection ht with ht;subst ht;exact ⟨a,cap,rfl,by simp⟩
  | sl b off len cap sz' rows' vals hl hc hsz hcell hval =>
    injection ht with ht
    subst ht
    subst hl
    exact ⟨_,cap,rfl,hc⟩
  | _ => cases ht
theorem run_indexAt {t e : TypeId} {sz : Nat} (ht : kindT P t = .slice e) (hs : szT P e = some sz) (b off len cap : Nat) (k : IntKind) (j : Int) (h0 : 0 ≤ j) (h1 : j.toNat < len) :
    (Instr.indexAt t (.slice (some ⟨b,off,none⟩) len cap) (.int k j)).run P w = .ok (.pointer (some ⟨b,off + j.toNat * sz,none⟩)) w:= by
  have hu:= underlying_slice ht
  have h2 : j < (len : Int):= by omega
  simp [Instr.indexAt,run_underlying hu,asIntOf,h0,h2,run_sizeOf hs,Addr.add_lit]
theorem op_indexAddr_imm {a : Act} {o : Oper} {t e : TypeId} {x i : Operand} {sz : Nat} {k : IntKind} {j : Int} {rows : List (List AV)} {row : List AV} (r : Rel N B0 w0 w g h) (ho : o.op = .indexAddr t x i) (ht : kindT P t = .slice e)
    (hs : szT P e = some sz) (hi : RV w (CC N B0 g) g h (a.eval i) (.int k j)) (h0 : 0 ≤ j) (hx : RI w (CC N B0 g) (a.eval x) (.imm rows)) (hrow : rows[j.toNat]? = some row) (hl : row.length = sz) :
    OpOk P N B0 w0 w g h a o (.cptr row) h:= by
  have ei:= hi.int_inv
  obtain ⟨b,off,cap,vals,ev,_,hsz,hcell,hval⟩:= hx.imm_at hrow hl
  have hlt : j.toNat < rows.length:= (List.getElem?_eq_some_iff.1 hrow).1
  refine opOk_pure r (v':= .pointer (some ⟨b,off + j.toNat * sz,none⟩)) ?_ (.cptr _ _ _ (vals j.toNat) fun q c hq => ?_)
  · simp [execOp,ho,ei,ev,run_indexAt ht hs b off rows.length cap k j h0 hlt]
  · have hq' : q < sz:= hl ▸ (List.getElem?_eq_some_iff.1 hq).1
    obtain ⟨k1,k2⟩:= hcell j.toNat q hlt hq'
    exact ⟨k1,k2,hval _ _ _ _ hrow hq⟩
theorem op_indexAddr_sl {a : Act} {o : Oper} {t e : TypeId} {x i : Operand} {sz q off len : Nat} {k : IntKind} {j : Int} (r : Rel N B0 w0 w g h) (ho : o.op = .indexAddr t x i) (ht : kindT P t = .slice e)
    (hs : szT P e = some sz) (hi : RV w (CC N B0 g) g h (a.eval i) (.int k j)) (h0 : 0 ≤ j) (hx : RV w (CC N B0 g) g h (a.eval x) (.sl q off len sz)) (hlt : j.toNat < len) :
    OpOk P N B0 w0 w g h a o (.ptr q (off + j.toNat * sz)) h:= by
  have ei:= hi.int_inv
  obtain ⟨hq,cap,_,ev,_⟩:= hx.sl_inv
  refine opOk_pure r (v':= .pointer (some ⟨g.bl q,off + j.toNat * sz,none⟩)) ?_ (.ptr _ _ hq)
  simp [execOp,ho,ei,ev,run_indexAt ht hs _ off len cap k j h0 hlt]
theorem ba_get {q : ByteArray} {i : Nat} {b : UInt8} (h : q.data.toList[i]? = some b) : q[i]? = some b:= by
  obtain ⟨h1,h2⟩:= List.getElem?_eq_some_iff.1 h
  have hlt : i < q.size:= by simpa using h1
  rw [getElem?_pos q i hlt,← h2]
  rfl
theorem op_index_str {a : Act} {o : Oper} {t : TypeId} {x i : Operand} {k : IntKind} {j : Int} {s : List UInt8} {b : UInt8} (r : Rel N B0 w0 w g h) (ho : o.op = .index t x i) (ht : kindT P t = .str)
    (hi : RV w (CC N B0 g) g h (a.eval i) (.int k j)) (h0 : 0 ≤ j) (hx : RV w (CC N B0 g) g h (a.eval x) (.str s)) (hb : s[j.toNat]? = some b) : OpOk P N B0 w0 w g h a o (.int .u8 b.toNat) h:= by
  have ei:= hi.int_inv
  obtain ⟨q,ev,rfl⟩:= hx.str_inv
  have hu:= underlying_str ht
  have hg : q[j.toNat]? = some b:= by
    exact ba_get hb
  refine opOk_pure r (v':= .int .u8 b.toNat) ?_ (RI.int' _ _)
  simp [execOp,ho,ei,ev,Instr.index,run_underlying hu,asIntOf,h0,hg]
theorem op_convert_int {a : Act} {o : Oper} {s d : TypeId} {x : Operand} {ks kd k : IntKind} {n : Int} (r : Rel N B0 w0 w g h) (ho : o.op = .convert s d x) (h1 : kindT P s = .int ks) (h2 : kindT P d = .int kd)
    (hx : RV w (CC N B0 g) g h (a.eval x) (.int k n)) : OpOk P N B0 w0 w g h a o (.int kd (kd.wrap n)) h:= by
  have e1:= hx.int_inv
  refine opOk_pure r (v':= .int kd (kd.wrap n)) ?_ (RI.int' _ _)
  simp [execOp,ho,e1,convert,run_underlying (underlying_int h1),run_underlying (underlying_int h2),Conv.intToInt]
theorem op_convert_str {a : Act} {o : Oper} {s d : TypeId} {x : Operand} {l : List UInt8} (r : Rel N B0 w0 w g h) (ho : o.op = .convert s d x) (h1 : kindT P s = .str) (h2 : kindT P d = .str)
    (hx : RV w (CC N B0 g) g h (a.eval x) (.str l)) : OpOk P N B0 w0 w g h a o (.str l) h:= by
  obtain ⟨q,ev,_⟩:= hx.str_inv
  refine opOk_pure r (v':= a.eval x) ?_ hx
  simp [execOp,ho,ev,convert,run_underlying (underlying_str h1),run_underlying (underlying_str h2)]
theorem asNat_spec {lim d n : Nat} {f : Option Operand} {a : Act} {st : Operand → AV} (hr : ∀ o,RV w C g h (a.eval o) (st o)) (hx : asNat lim (f.map st) d = some n) :
    (f = none ∧ n = d) ∨ ∃ o k i,f = some o ∧ a.eval o = .int k i ∧ 0 ≤ i ∧ i ≤ (lim : Int) ∧ n = i.toNat:= by
  cases f with
  | none => simp only [Option.map_none,asNat,Option.some.injEq] at hx;exact .inl ⟨rfl,hx.symm⟩
  | some o =>
    refine .inr ⟨o,?_⟩
    have h1:= hr o
    simp only [Option.map_some] at hx
    cases hs : st o <;> rw [hs] at hx <;> simp only [asNat] at hx <;> try (simp at hx;done)
    rename_i k i
    rw [hs] at h1
    split at hx
    · rename_i hb
      injection hx with hx
      exact ⟨k,i,rfl,h1.int_inv,hb.1,hb.2,hx.symm⟩
    · cases hx
theorem run_bounds {isSlice : Bool} {len cap : Nat} {lo hi : Option Operand} {a : Act} {hN l : Nat} (hlen : len ≤ cap)
    (h1 : (hi = none ∧ hN = len) ∨ ∃ o k i,hi = some o ∧ a.eval o = .int k i ∧ 0 ≤ i ∧ i ≤ (len : Int) ∧ hN = i.toNat)
    (h2 : (lo = none ∧ l = 0) ∨ ∃ o k i,lo = some o ∧ a.eval o = .int k i ∧ 0 ≤ i ∧ i ≤ (hN : Int) ∧ l = i.toNat) :
    (Instr.sliceBounds isSlice len cap (lo.map a.eval) (hi.map a.eval) none).run P w = .ok (l,hN,cap) w:= by
  unfold Instr.sliceBounds
  rcases h1 with ⟨rfl,rfl⟩ | ⟨o,k,i,rfl,ho,h3,h4,rfl⟩ <;> rcases h2 with ⟨rfl,rfl⟩ | ⟨o',k',i',rfl,ho',h3',h4',rfl⟩
  · simp
  · simp [ho',Instr.sliceBound,asIntOf,h3',h4']
  · have h5 : i ≤ (cap : Int):= by omega
    simp [ho,Instr.sliceBound,asIntOf,h3,h5]
  · have h5 : i ≤ (cap : Int):= by omega
    have h6 : (i.toNat : Int) = i:= Int.toNat_of_nonneg h3
    simp only [Option.map_some,ho,ho',Instr.sliceBound,asIntOf,Sem.run_bind,Sem.run_pure,Result.andThen_ok,h3,h5,and_self,if_true,h3',h4',Option.isSome_none]
theorem op_slice_str {a : Act} {o : Oper} {t : TypeId} {x : Operand} {lo hi : Option Operand} {s : List UInt8} {l hN : Nat} {st : Operand → AV} (r : Rel N B0 w0 w g h) (ho : o.op = .slice t x lo hi none) (ht : kindT P t = .str)
    (hst : ∀ o,RV w (CC N B0 g) g h (a.eval o) (st o)) (hx : RV w (CC N B0 g) g h (a.eval x) (.str s)) (h1 : asNat s.length (hi.map st) s.length = some hN) (h2 : asNat hN (lo.map st) 0 = some l) :
    OpOk P N B0 w0 w g h a o (.str ((s.take hN).drop l)) h:= by
  obtain ⟨q,ev,rfl⟩:= hx.str_inv
  have hu:= underlying_str ht
  have e : q.data.toList.length = q.size:= by simp
  rw [e] at h1
  have hb:= run_bounds (P:= P) (w:= w) (isSlice:= false) (Nat.le_refl q.size) (asNat_spec hst h1) (asNat_spec hst h2)
  refine opOk_pure r (v':= .string (q.extract l hN)) ?_ (RI.str' (by simp [List.drop_take]))
  simp [execOp,ho,ev,Instr.sliceAt,Instr.slice,run_underlying hu,hb]
theorem op_slice_imm {a : Act} {o : Oper} {t e : TypeId} {x : Operand} {lo hi : Option Operand} {rows : List (List AV)} {sz l hN : Nat} {st : Operand → AV} (r : Rel N B0 w0 w g h) (ho : o.op = .slice t x lo hi none) (ht : kindT P t = .slice e) (hs : szT P e = some sz)
    (hst : ∀ o,RV w (CC N B0 g) g h (a.eval o) (st o)) (hx : RI w (CC N B0 g) (a.eval x) (.imm rows)) (hh : headLen sz rows = true) (h1 : asNat rows.length (hi.map st) rows.length = some hN) (h2 : asNat hN (lo.map st) 0 = some l) :
    OpOk P N B0 w0 w g h a o (.imm ((rows.take hN).drop l)) h:= by
  have hu:= underlying_slice ht
  obtain ⟨ad,cap,ev,hcap⟩:= hx.imm_len
  have s1:= asNat_spec hst h1
  have s2:= asNat_spec hst h2
  have hb:= run_bounds (P:= P) (w:= w) (isSlice:= true) hcap s1 s2
  have hNle : hN ≤ rows.length:= by rcases s1 with ⟨_,rfl⟩ | ⟨_,_,i,_,_,h3,h4,rfl⟩ <;> omega
  have hlle : l ≤ hN:= by rcases s2 with ⟨_,rfl⟩ | ⟨_,_,i,_,_,h3,h4,rfl⟩ <;> omega
  refine opOk_pure r (v':= .slice (if cap = l then ad else ad.map (·.add (l * sz))) (hN - l) (cap - l)) ?_ (.ri ?_)
  · simp [execOp,ho,ev,Instr.sliceAt,Instr.slice,run_underlying hu,hb,run_sizeOf hs]
  · have hlen : ((rows.take hN).drop l).length = hN - l:= by simp;omega
    by_cases hz : hN - l = 0
    · have : (rows.take hN).drop l = []:= List.eq_nil_of_length_eq_zero (by rw [hlen,hz])
      rw [this,hz]
      exact .slE _ _
    · have hne : cap ≠ l:= by omega
      cases rows with
      | nil => simp at hNle;omega
      | cons row rest =>
        have hrow : (row :: rest)[0]? = some row:= rfl
        have hl0 : row.length = sz:= by simpa [headLen] using hh
        obtain ⟨b,off,cap',vals,ev',_,hsz,hcell,hval⟩:= hx.imm_at hrow hl0
        rw [ev] at ev'
        injection ev' with e1 _ e3
        subst e1;subst e3
        rw [if_neg hne]
        simp only [Option.map_some,Addr.add_lit]
        refine .sl b (off + l * sz) (hN - l) (cap - l) sz _ (fun i j => vals (l + i) j) hlen (by omega) (fun r hr => hsz r (List.mem_of_mem_take (List.mem_of_mem_drop hr))) (fun i j hi hj => ?_) fun i j row' c hi hj => ?_
        · have:= hcell (l + i) j (by omega) hj
          rwa [show off + (l + i) * sz + j = off + l * sz + i * sz + j by rw [Nat.add_mul];omega] at this
        · rw [List.getElem?_drop,List.getElem?_take] at hi
          split at hi
          · exact hval (l + i) j row' c hi hj
          · cases hi
theorem op_slice_snil {a : Act} {o : Oper} {t e : TypeId} {x : Operand} {lo hi : Option Operand} {l hN : Nat} {st : Operand → AV} (r : Rel N B0 w0 w g h) (ho : o.op = .slice t x lo hi none) (ht : kindT P t = .slice e) {sz : Nat} (hs : szT P e = some sz)
    (hst : ∀ o,RV w (CC N B0 g) g h (a.eval o) (st o)) (hx : RV w (CC N B0 g) g h (a.eval x) .snil) (h1 : asNat 0 (hi.map st) 0 = some hN) (h2 : asNat hN (lo.map st) 0 = some l) :
    OpOk P N B0 w0 w g h a o (.imm []) h:= by
  have hu:= underlying_slice ht
  have ev:= hx.snil_inv
  have s1:= asNat_spec hst h1
  have s2:= asNat_spec hst h2
  have hb:= run_bounds (P:= P) (w:= w) (isSlice:= true) (Nat.le_refl 0) s1 s2
  have hN0 : hN = 0:= by rcases s1 with ⟨_,rfl⟩ | ⟨_,_,i,_,_,h3,h4,rfl⟩ <;> omega
  subst hN0
  have hl0 : l = 0:= by rcases s2 with ⟨_,rfl⟩ | ⟨_,_,i,_,_,h3,h4,rfl⟩ <;> omega
  subst hl0
  refine opOk_pure r (v':= .slice none 0 0) ?_ (.ri (.slE _ _))
  simp [execOp,ho,ev,Instr.sliceAt,Instr.slice,run_underlying hu,hb,run_sizeOf hs]
theorem op_slice_sl {a : Act} {o : Oper} {t e : TypeId} {x : Operand} {lo hi : Option Operand} {q off len sz l hN : Nat} {st : Operand → AV} (r : Rel N B0 w0 w g h) (ho : o.op = .slice t x lo hi none) (ht : kindT P t = .slice e) (hs : szT P e = some sz)
    (hst : ∀ o,RV w (CC N B0 g) g h (a.eval o) (st o)) (hx : RV w (CC N B0 g) g h (a.eval x) (.sl q off len sz)) (h1 : asNat len (hi.map st) len = some hN) (h2 : asNat hN (lo.map st) 0 = some l) (hne : l < len ∨ l = 0) :
    OpOk P N B0 w0 w g h a o (.sl q (off + l * sz) (hN - l) sz) h:= by
  have hu:= underlying_slice ht
  obtain ⟨hq,cap,hcap,ev,hsz⟩:= hx.sl_inv
  have s1:= asNat_spec hst h1
  have s2:= asNat_spec hst h2
  have hb:= run_bounds (P:= P) (w:= w) (isSlice:= true) hcap s1 s2
  have hNle : hN ≤ len:= by rcases s1 with ⟨_,rfl⟩ | ⟨_,_,i,_,_,h3,h4,rfl⟩ <;> omega
  have hlle : l ≤ hN:= by rcases s2 with ⟨_,rfl⟩ | ⟨_,_,i,_,_,h3,h4,rfl⟩ <;> omega
  have hmul : l * sz + (cap - l) * sz = cap * sz:= by rw [← Nat.add_mul];congr 1;omega
  refine opOk_pure r (v':= .slice (some ⟨g.bl q,off + l * sz,none⟩) (hN - l) (cap - l)) ?_ (.sl _ _ _ _ _ hq (by omega) (by omega))
  simp only [execOp,ho,ev,Instr.sliceAt,Instr.slice,run_underlying hu,hb,run_sizeOf hs,Sem.run_bind,Result.andThen_ok,Sem.run_pure,Option.map_none,Option.map_some,Addr.add_lit]
  congr 2
  rcases hne with hne | rfl
  · rw [if_neg (by omega)]
  · simp
end Go.Ev
namespace Go.Ev
open Go Go.RowKit
variable {N : Nat → Nat → Prop} {B0 : Nat} {w0 w : World} {g : Gh} {h : Hp} {P : Program} {C : Nat → Nat → Prop}
theorem RV.frz {v : Value} {c c' : AV} (hr : RV w C g h v c) (hf : frzCell c = some c') : RI w C v c':= by
  cases c <;> simp only [frzCell] at hf <;> first | (simp at hf;done) | (injection hf with hf;subst hf)
  · obtain rfl:= hr.bool_inv;exact .bool _
  · obtain rfl:= hr.int_inv;exact .int _ _
  · obtain ⟨b,rfl,rfl⟩:= hr.str_inv;exact .str _
  · generalize ht : AV.pnil = t at hr
    cases hr with
    | ri hr => subst ht;exact hr
    | _ => cases ht
  · obtain rfl:= hr.snil_inv;exact .slE _ _
  · obtain ⟨a,rfl⟩:= hr.semp_inv;exact .slE _ _
  · exact hr.imm_inv
  · exact hr.app_inv.2.1
  · obtain rfl:= hr.inil_inv;exact .inil
theorem frzCells_spec : ∀ {l l' : List AV},frzCells l = some l' → l'.length = l.length ∧ ∀ (j : Nat) c',l'[j]? = some c' → ∃ c,l[j]? = some c ∧ frzCell c = some c'
  | [],l',h => by simp [frzCells] at h;subst h;exact ⟨rfl,fun j c' hj => by simp at hj⟩
  | c :: r,l',h => by
    simp only [frzCells,Option.bind_eq_some_iff,Option.map_eq_some_iff] at h
    obtain ⟨c',h1,r',h2,rfl⟩:= h
    obtain ⟨k1,k2⟩:= frzCells_spec h2
    refine ⟨by simp [k1],fun j d hj => ?_⟩
    cases j with
    | zero => simp at hj;subst hj;exact ⟨c,rfl,h1⟩
    | succ j => simpa using k2 j d (by simpa using hj)
theorem frzRows_spec : ∀ {l l' : List (List AV)},frzRows l = some l' → l'.length = l.length ∧ ∀ (j : Nat) c',l'[j]? = some c' → ∃ c,l[j]? = some c ∧ frzCells c = some c'
  | [],l',h => by simp [frzRows] at h;subst h;exact ⟨rfl,fun j c' hj => by simp at hj⟩
  | c :: r,l',h => by
    simp only [frzRows,Option.bind_eq_some_iff,Option.map_eq_some_iff] at h
    obtain ⟨c',h1,r',h2,rfl⟩:= h
    obtain ⟨k1,k2⟩:= frzRows_spec h2
    refine ⟨by simp [k1],fun j d hj => ?_⟩
    cases j with
    | zero => simp at hj;subst hj;exact ⟨c,rfl,h1⟩
    | succ j => simpa using k2 j d (by simpa using hj)
theorem flatten_spec {sz : Nat} : ∀ {rows : List (List AV)},(∀ r ∈ rows,r.length = sz) → rows.flatten.length = rows.length * sz ∧
    ∀ (i j : Nat) c,j < sz → rows.flatten[i * sz + j]? = some c → ∃ row,rows[i]? = some row ∧ row[j]? = some c
  | [],_ => ⟨by simp,fun i j c _ hc => by simp at hc⟩
  | r :: rows,h => by
    have hr:= h r (by simp)
    obtain ⟨h1,h2⟩:= flatten_spec (rows:= rows) (fun x hx => h x (by simp [hx]))
    refine ⟨by simp only [List.flatten_cons,List.length_append,h1,hr,List.length_cons,Nat.succ_mul];omega,fun i j c hj hc => ?_⟩
    cases i with
    | zero =>
      refine ⟨r,rfl,?_⟩
      simp only [List.flatten_cons,Nat.zero_mul,Nat.zero_add] at hc
      rwa [List.getElem?_append_left (by omega)] at hc
    | succ i =>
      simp only [List.flatten_cons] at hc
      rw [List.getElem?_append_right (by rw [hr,Nat.succ_mul];omega)] at hc
      have e : (i + 1) * sz + j - r.length = i * sz + j:= by rw [hr,Nat.succ_mul];omega
      rw [e] at hc
      obtain ⟨row,k1,k2⟩:= h2 i j c hj hc
      exact ⟨row,by simpa using k1,k2⟩
theorem split_idx {sz k : Nat} (hsz : 0 < sz) : k = k / sz * sz + k % sz ∧ k % sz < sz:= ⟨by rw [Nat.mul_comm];exact (Nat.div_add_mod k sz).symm,Nat.mod_lt _ hsz⟩
theorem fillAt_get : ∀ (vs cs : List AV) (off : Nat),off + vs.length ≤ cs.length → (fillAt cs off vs).length = cs.length ∧
    ∀ i,(fillAt cs off vs)[i]? = if off ≤ i ∧ i < off + vs.length then vs[i - off]? else cs[i]?
  | [],cs,off,_ => ⟨rfl,fun i => by rw [if_neg (by simp only [List.length_nil];omega)];rfl⟩
  | v :: r,cs,off,h => by
    simp only [List.length_cons] at h
    obtain ⟨h1,h2⟩:= fillAt_get r (cs.set off v) (off + 1) (by simp;omega)
    refine ⟨by rw [show fillAt cs off (v :: r) = fillAt (cs.set off v) (off + 1) r from rfl,h1];simp,fun i => ?_⟩
    show (fillAt (cs.set off v) (off + 1) r)[i]? = _
    rw [h2 i]
    by_cases c1 : i = off
    · subst c1
      rw [if_neg (by omega),if_pos (by simp)]
      rw [List.getElem?_set_self (by omega)]
      simp
    · by_cases c2 : off + 1 ≤ i ∧ i < off + 1 + r.length
      · rw [if_pos c2,if_pos (by simp;omega)]
        rw [show i - off = (i - (off + 1)) + 1 by omega]
        simp
      · rw [if_neg c2,if_neg (by simp;omega),List.getElem?_set_ne (by omega)]
def fillArr (off : Nat) (l : List (Value × Nat)) (cells : Array Value) : Array Value:= l.foldl (fun cs p => cs.setIfInBounds (off + p.2) p.1) cells
theorem fillArr_get (off : Nat) : ∀ (vs : List Value) (k : Nat) (cells : Array Value),off + k + vs.length ≤ cells.size → (fillArr off (vs.zipIdx k) cells).size = cells.size ∧
    ∀ i,(fillArr off (vs.zipIdx k) cells)[i]? = if off + k ≤ i ∧ i < off + k + vs.length then vs[i - (off + k)]? else cells[i]?
  | [],k,cells,_ => ⟨rfl,fun i => by rw [if_neg (by simp only [List.length_nil];omega)];rfl⟩
  | v :: r,k,cells,h => by
    simp only [List.length_cons] at h
    obtain ⟨h1,h2⟩:= fillArr_get off r (k + 1) (cells.setIfInBounds (off + k) v) (by simp;omega)
    refine ⟨by rw [show fillArr off ((v :: r).zipIdx k) cells = fillArr off (r.zipIdx (k + 1)) (cells.setIfInBounds (off + k) v) from rfl,h1];simp,fun i => ?_⟩
    show (fillArr off (r.zipIdx (k + 1)) (cells.setIfInBounds (off + k) v))[i]? = _
    rw [h2 i]
    by_cases c1 : i = off + k
    · subst c1
      rw [if_neg (by omega),if_pos (by simp)]
      rw [Array.getElem?_setIfInBounds_self_of_lt (by omega)]
      simp
    · by_cases c2 : off + (k + 1) ≤ i ∧ i < off + (k + 1) + r.length
      · rw [if_pos c2,if_pos (by simp;omega)]
        rw [show i - (off + k) = (i - (off + (k + 1))) + 1 by omega]
        simp
      · rw [if_neg c2,if_neg (by simp;omega),Array.getElem?_setIfInBounds_ne (by omega)]
theorem foldl_zipIdx (off : Nat) (v cells : Array Value) : v.zipIdx.foldl (fun cs (p : Value × Nat) => cs.setIfInBounds (off + p.2) p.1) cells = fillArr off (v.toList.zipIdx 0) cells:= by
  rw [← Array.foldl_toList]
  simp [fillArr]
theorem fill_struct {t : TypeId} (place : Nat → Option (Nat × Nat)) (hpl : ∀ i off ft,fldT P t i = some (off,ft) → ∀ n,szT P ft = some n → place i = some (off,n)) {a : Act} {st : Operand → AV} (hst : ∀ o,RV w C g h (a.eval o) (st o)) :
    ∀ (parts : List (Nat × Operand)) (cells : Array Value) (cs cs' : List AV),fillF P t cs (parts.map fun p => (p.1,st p.2)) = some cs' → cells.size = cs.length →
      (∀ (i : Nat) v c,cells[i]? = some v → cs[i]? = some c → RV w C g h v c) → (∀ c ∈ cs,notCell c = false) →
      ∃ cells',Instr.fill place cells (parts.map fun p => (p.1,a.eval p.2)) = some cells' ∧ cells'.size = cs'.length ∧ (∀ (i : Nat) v c,cells'[i]? = some v → cs'[i]? = some c → RV w C g h v c) ∧ ∀ c ∈ cs',notCell c = false:= by
  intro parts
  induction parts with
  | nil => intro cells cs cs' hf hs hv hn;simp [fillF] at hf;subst hf;exact ⟨cells,rfl,hs,hv,hn⟩
  | cons p parts ih =>
    intro cells cs cs' hf hs hv hn
    simp only [List.map_cons,fillF] at hf
    split at hf
    · cases hf
    · rename_i off ft hft
      split at hf
      case isFalse => cases hf
      rename_i hc
      obtain ⟨c1,c2,c3⟩:= hc
      obtain ⟨k1,k2,k3⟩:= (hst p.2).cells c1
      have hp:= hpl p.1 off ft hft _ c2
      obtain ⟨l1,l2⟩:= fillAt_get (st p.2).cells cs off c3
      obtain ⟨m1,m2⟩:= fillArr_get off (a.eval p.2).cells.toList 0 cells (by simp [k1];omega)
      obtain ⟨cells',e1,e2,e3,e4⟩:= ih (fillArr off ((a.eval p.2).cells.toList.zipIdx 0) cells) (fillAt cs off (st p.2).cells) cs' hf (by rw [m1,l1,hs])
        (fun i v c hi hc => by
          rw [m2] at hi
          rw [l2] at hc
          simp only [Nat.add_zero,Array.length_toList,k1] at hi
          by_cases c4 : off ≤ i ∧ i < off + (st p.2).cells.length
          · rw [if_pos c4] at hi hc
            exact k2 _ v c (by simpa using hi) hc
          · rw [if_neg c4] at hi hc
            exact hv i v c hi hc)
        (fun c hc => by
          obtain ⟨i,hi⟩:= List.getElem?_of_mem hc
          rw [l2] at hi
          by_cases c4 : off ≤ i ∧ i < off + (st p.2).cells.length
          · rw [if_pos c4] at hi;exact k3 c (List.mem_of_getElem? hi)
          · rw [if_neg c4] at hi;exact hn c (List.mem_of_getElem? hi))
      refine ⟨cells',?_,e2,e3,e4⟩
      simp only [List.map_cons,Instr.fill,hp]
      rw [if_neg (by simp [k1];omega)]
      rw [foldl_zipIdx]
      exact e1
theorem run_mapM_list {α β : Type} (f : α → Sem β) (y : α → β) : ∀ (l : List α),(∀ x ∈ l,(f x).run P w = .ok (y x) w) → (l.mapM f).run P w = .ok (l.map y) w
  | [],_ => by simp
  | x :: l,h => by
    rw [List.mapM_cons]
    simp [h x (by simp),run_mapM_list f y l (fun z hz => h z (by simp [hz]))]
theorem run_mapM_array {α β : Type} (f : α → Sem β) (y : α → β) (l : Array α) (h : ∀ x ∈ l.toList,(f x).run P w = .ok (y x) w) : (l.mapM f).run P w = .ok (l.toList.map y).toArray w:= by
  rw [Array.mapM_eq_mapM_toList]
  simp [run_mapM_list f y l.toList h]
theorem op_build {a : Act} {o : Oper} {t : TypeId} {parts : Array (Nat × Operand)} {z cs : List AV} {st : Operand → AV} (r : Rel N B0 w0 w g h) (ho : o.op = .build t parts) (hst : ∀ o,RV w (CC N B0 g) g h (a.eval o) (st o))
    (hinfo : infoT P t = true) (hz : zeroT P t = some z) (hn : z.any notCell = false) (hf : fillF P t z (parts.toList.map fun p => (p.1,st p.2)) = some cs) : OpOk P N B0 w0 w g h a o (.agg cs) h:= by
  obtain ⟨i,v,h1,h2,h3,h4⟩:= zero_cells (w:= w) (C:= CC N B0 g) (g:= g) (h:= h) hz hn
  unfold infoT at hinfo
  split at hinfo
  case h_2 => cases hinfo
  rename_i fs hfs
  have hpl : ∀ i off ft,fldT P t i = some (off,ft) → ∀ n,szT P ft = some n → ((fs.toList.map fun f => (f.offset,(szT P f.type).getD 0)).toArray[i]?) = some (off,n):= by
    intro i off ft hft n hn'
    simp only [fldT,hfs,Option.map_eq_some_iff,Prod.mk.injEq] at hft
    obtain ⟨f,hf1,rfl,rfl⟩:= hft
    simp [hf1,hn']
  obtain ⟨cells',e1,e2,e3,e4⟩:= fill_struct (w:= w) (C:= CC N B0 g) (g:= g) (h:= h) _ hpl hst parts.toList v.cells z cs hf h3 h4 (fun c hc => by simpa using (List.any_eq_false.1 hn) c hc)
  refine opOk_pure r (v':= .agg cells') ?_ (.agg _ _ e2 e4 e3)
  have hm : (fs.mapM fun f => do pure (f.offset,← sizeOf f.type) : Sem (Array (Nat × Nat))).run P w = .ok (fs.toList.map fun f => (f.offset,(szT P f.type).getD 0)).toArray w:=
    run_mapM_array _ _ fs fun f hf => by
      have:= List.all_eq_true.1 hinfo f hf
      obtain ⟨ti,hti⟩:= Option.isSome_iff_exists.1 this
      have hsz : szT P f.type = some ti.size:= by simp [szT,hti]
      simp [run_sizeOf hsz,hsz]
  have hpe : ((parts.map fun (p : Nat × Operand) => (p.1,a.eval p.2)).toList) = parts.toList.map fun p => (p.1,a.eval p.2):= by simp
  simp only [execOp,ho,Instr.build,Sem.run_bind,zeroValue,run_typeInfo h1,h2,Result.andThen_ok,Sem.run_pure,run_underlying hfs,hm]
  have e1' : Instr.fill (fun x => (fs.toList.map fun f => (f.offset,(szT P f.type).getD 0)).toArray[x]?) v.cells (parts.map fun (p : Nat × Operand) => (p.1,a.eval p.2)).toList = some cells':= by rw [hpe];exact e1
  simp only [e1',Sem.run_pure,Result.andThen_ok]
end Go.Ev
namespace Go.Ev
open Go Go.RowKit
variable {N : Nat → Nat → Prop} {B0 : Nat} {w0 w : World} {g : Gh} {h : Hp} {P : Program} {C : Nat → Nat → Prop}
structure RowsOk (w : World) (C : Nat → Nat → Prop) (g : Gh) (h : Hp) (arr : Array Value) (rows : List (List AV)) (sz : Nat) : Prop where
  len : ∀ r ∈ rows,r.length = sz
  cell : ∀ (i j : Nat) v row c,arr[i * sz + j]? = some v → rows[i]? = some row → row[j]? = some c → RV w C g h v c
  nc : ∀ r ∈ rows,∀ c ∈ r,notCell c = false
theorem made_rows {z : Array Value} {zs : List AV} {sz n l : Nat} (h1 : z.size = zs.length) (h2 : zs.length = sz) (h3 : ∀ (j : Nat) u c,z[j]? = some u → zs[j]? = some c → RV w C g h u c) (h4 : zs.any notCell = false) (hn : l * sz ≤ n) :
    RowsOk w C g h (madeCells z n) (List.replicate l zs) sz where
  len r hr:= by rw [List.eq_of_mem_replicate hr];exact h2
  cell i j v row c hv hrow hc:= by
    have hi : i < l:= by have:= (List.getElem?_eq_some_iff.1 hrow).1;simpa using this
    have hrow' : row = zs:= by rw [List.getElem?_replicate,if_pos hi] at hrow;exact (Option.some.inj hrow).symm
    subst hrow'
    have hj : j < sz:= h2 ▸ (List.getElem?_eq_some_iff.1 hc).1
    have hlt:= idx_lt hi hj
    have hm : (i * sz + j) % sz = j:= by rw [Nat.add_comm,Nat.add_mul_mod_self_right];exact Nat.mod_eq_of_lt hj
    have hzs : z.size = sz:= by omega
    simp only [madeCells,Array.getElem?_map,Array.getElem?_range,show i * sz + j < n by omega,if_true,Option.map_some,Option.some.injEq,hzs,hm] at hv
    have hjz : j < z.size:= by omega
    exact h3 j v c (by rw [← hv];simp [hjz]) hc
  nc r hr c hc:= by
    rw [List.eq_of_mem_replicate hr] at hc
    simpa using (List.any_eq_false.1 h4) c hc
theorem mul_range {i i' j sz : Nat} (hj : j < sz) : (i * sz ≤ i' * sz + j ∧ i' * sz + j < i * sz + sz) ↔ i' = i:= by
  constructor
  · rintro ⟨h1,h2⟩
    rcases Nat.lt_trichotomy i' i with h | h | h
    · have:= idx_lt (n:= i) h hj;omega
    · exact h
    · have : (i + 1) * sz ≤ i' * sz:= Nat.mul_le_mul_right _ h
      rw [Nat.succ_mul] at this;omega
  · rintro rfl;omega
theorem fill_rows {sz : Nat} {a : Act} {st : Operand → AV} (hst : ∀ o,RV w C g h (a.eval o) (st o)) :
    ∀ (parts : List (Nat × Operand)) (arr : Array Value) (rows rows' : List (List AV)),fillR rows sz (parts.map fun p => (p.1,st p.2)) = some rows' → arr.size = rows.length * sz → RowsOk w C g h arr rows sz →
      ∃ arr',Instr.fill (fun i => some (i * sz,sz)) arr (parts.map fun p => (p.1,a.eval p.2)) = some arr' ∧ arr'.size = rows'.length * sz ∧ rows'.length = rows.length ∧ RowsOk w C g h arr' rows' sz:= by
  intro parts
  induction parts with
  | nil => intro arr rows rows' hf hs hv;simp [fillR] at hf;subst hf;exact ⟨arr,rfl,hs,rfl,hv⟩
  | cons p parts ih =>
    intro arr rows rows' hf hs hv
    simp only [List.map_cons,fillR] at hf
    split at hf
    case isFalse => cases hf
    rename_i hc
    obtain ⟨c1,c2,c3⟩:= hc
    obtain ⟨k1,k2,k3⟩:= (hst p.2).cells c1
    have hfit : p.1 * sz + sz ≤ rows.length * sz:= by rw [← Nat.succ_mul];exact Nat.mul_le_mul_right _ c3
    obtain ⟨m1,m2⟩:= fillArr_get (p.1 * sz) (a.eval p.2).cells.toList 0 arr (by simp [k1,c2];omega)
    have hok : RowsOk w C g h (fillArr (p.1 * sz) ((a.eval p.2).cells.toList.zipIdx 0) arr) (rows.set p.1 (st p.2).cells) sz:= by
      refine ⟨fun r hr => ?_,fun i j v row c hi hrow hcc => ?_,fun r hr => ?_⟩
      · rcases List.mem_or_eq_of_mem_set hr with hr | hr
        · exact hv.len r hr
        · rw [hr];exact c2
      · have hj : j < sz:= by
          have:= (List.getElem?_eq_some_iff.1 hcc).1
          rcases List.mem_or_eq_of_mem_set (List.mem_of_getElem? hrow) with hr | hr
          · rw [hv.len row hr] at this;exact this
          · rw [hr,c2] at this;exact this
        rw [m2] at hi
        simp only [Nat.add_zero,Array.length_toList,k1,c2] at hi
        by_cases c4 : i = p.1
        · subst c4
          rw [if_pos ((mul_range hj).2 rfl)] at hi
          rw [List.getElem?_set_self c3] at hrow
          injection hrow with hrow
          subst hrow
          exact k2 j v c (by simpa [Nat.add_sub_cancel_left] using hi) hcc
        · rw [if_neg (fun hh => c4 ((mul_range hj).1 hh))] at hi
          rw [List.getElem?_set_ne (Ne.symm c4)] at hrow
          exact hv.cell i j v row c hi hrow hcc
      · rcases List.mem_or_eq_of_mem_set hr with hr | hr
        · exact hv.nc r hr
        · rw [hr];exact k3
    obtain ⟨arr',e1,e2,e3,e4⟩:= ih _ _ rows' hf (by rw [m1,hs];simp) hok
    refine ⟨arr',?_,e2,by rw [e3];simp,e4⟩
    simp only [List.map_cons,Instr.fill]
    rw [if_neg (by simp [k1,c2,hs];omega),foldl_zipIdx]
    exact e1
theorem RowsOk.sl {rows : List (List AV)} {sz cap : Nat} {arr : Array Value} (r : Rel N B0 w0 w g h) (ok : RowsOk w (CC N B0 g) g h arr rows sz) (ty : TypeId) (hsz : 0 < sz) (hs : cap * sz ≤ arr.size) (hc : rows.length ≤ cap) :
    ∃ g',Next N B0 w0 w g h (w.alloc (.cells arr ty)) g' (h.new rows.flatten) ∧ RV (w.alloc (.cells arr ty)) (CC N B0 g') g' (h.new rows.flatten) (.slice (some ⟨w.heap.size,0,none⟩) rows.length cap) (.sl h.nx 0 rows.length sz):= by
  obtain ⟨f1,f2⟩:= flatten_spec ok.len
  obtain ⟨g',hn,hb,hbs⟩:= r.new arr ty rows.flatten (by rw [f1];exact Nat.le_trans (Nat.mul_le_mul_right _ hc) hs) (fun k v c hk hcc => by
    obtain ⟨e,hlt⟩:= split_idx (k:= k) hsz
    rw [e] at hk hcc
    obtain ⟨row,k1,k2⟩:= f2 _ _ c hlt hcc
    exact ok.cell _ _ v row c hk k1 k2) (fun c hcc => by
    obtain ⟨row,k1,k2⟩:= List.mem_flatten.1 hcc
    exact ok.nc row k1 c k2)
  refine ⟨g',hn,?_⟩
  rw [← hb]
  exact .sl _ _ _ _ _ (by simp [Hp.new]) hc (by rw [hbs];omega)
theorem RowsOk.app {rows rows' : List (List AV)} {sz cap : Nat} {arr : Array Value} (r : Rel N B0 w0 w g h) (ok : RowsOk w (CC N B0 g) g h arr rows sz) (hf : frzRows rows = some rows') (ty : TypeId) (hs : cap * sz ≤ arr.size) (hc : rows.length ≤ cap) :
    ∃ g',Next N B0 w0 w g h (w.alloc (.cells arr ty)) g' (h.newApp rows.length sz) ∧ RV (w.alloc (.cells arr ty)) (CC N B0 g') g' (h.newApp rows.length sz) (.slice (some ⟨w.heap.size,0,none⟩) rows.length cap) (.app h.nx rows'):= by
  obtain ⟨f1,f2⟩:= frzRows_spec hf
  have:= r.newApp arr ty rows' cap sz (by omega) hs (fun row hrow => by
    obtain ⟨i,hi⟩:= List.getElem?_of_mem hrow
    obtain ⟨q,q1,q2⟩:= f2 i row hi
    rw [(frzCells_spec q2).1]
    exact ok.len q (List.mem_of_getElem? q1)) (fun i j v row c hv hrow hcc => by
    obtain ⟨q,q1,q2⟩:= f2 i row hrow
    obtain ⟨d,d1,d2⟩:= (frzCells_spec q2).2 j c hcc
    exact (ok.cell i j v q d hv q1 d1).frz d2)
  rwa [f1] at this
theorem run_buildSlice {a : Act} {o : Oper} {t e : TypeId} {len sz : Nat} {parts : Array (Nat × Operand)} {z : List AV} {rows : List (List AV)} {st : Operand → AV} (ho : o.op = .buildSlice t len parts) (hst : ∀ o,RV w C g h (a.eval o) (st o))
    (he : elT P t = some e) (hs : szT P e = some sz) (hz : zeroT P e = some z) (hzl : z.length = sz) (hs0 : sz ≠ 0) (hbig : len * sz ≤ 16777216) (hn : z.any notCell = false)
    (hf : fillR (List.replicate len z) sz (parts.toList.map fun p => (p.1,st p.2)) = some rows) :
    ∃ arr,(execOp a.eval o).run P w = .ok (.value (.slice (some ⟨w.heap.size,0,none⟩) len len)) (w.alloc (.cells arr e)) ∧ arr.size = len * sz ∧ rows.length = len ∧ RowsOk w C g h arr rows sz:= by
  obtain ⟨i,v,h1,h2,h3,h4⟩:= zero_cells (w:= w) (C:= C) (g:= g) (h:= h) hz hn
  have hu : P.underlying t = some (.slice e):= by
    unfold elT at he
    split at he
    · injection he with he;subst he;assumption
    · cases he
  obtain ⟨arr',e1,e2,e3,e4⟩:= fill_rows (w:= w) (C:= C) (g:= g) (h:= h) hst parts.toList (madeCells v.cells (len * sz)) (List.replicate len z) rows hf (by rw [size_madeCells];simp) (made_rows h3 hzl h4 hn (Nat.le_refl _))
  simp only [List.length_replicate] at e3
  refine ⟨arr',?_,by rw [e2,e3],e3,e4⟩
  have hpe : ((parts.map fun (p : Nat × Operand) => (p.1,a.eval p.2)).toList) = parts.toList.map fun p => (p.1,a.eval p.2):= by simp
  have hb : ¬ (len * sz > 2 ^ 24):= by simp;omega
  by_cases h0 : len * sz = 0
  · have hm : madeCells v.cells (len * sz) = (Array.range (len * sz)).map ((#[] : Array Value)[· % (#[] : Array Value).size]!):= by rw [h0];simp [madeCells]
    rw [hm] at e1
    simp only [execOp,ho,Instr.buildSlice,Sem.run_bind,run_underlying hu,Result.andThen_ok,run_sizeOf hs,Sem.run_ite,Sem.run_pure,h0,if_true]
    rw [h0] at e1
    simp only [hpe,e1]
    simp [newRow]
  · simp only [execOp,ho,Instr.buildSlice,Sem.run_bind,run_underlying hu,Result.andThen_ok,run_sizeOf hs,Sem.run_ite,if_neg hb,Sem.run_pure,h0,if_false,zeroValue,run_typeInfo h1,h2]
    have e1' : Instr.fill (fun i => some (i * sz,sz)) ((Array.range (len * sz)).map (v.cells[· % v.cells.size]!)) (parts.toList.map fun p => (p.1,a.eval p.2)) = some arr':= e1
    simp only [hpe,e1']
    simp [newRow]
theorem run_makeS {a : Act} {o : Oper} {t e : TypeId} {x y : Operand} {k k' : IntKind} {l c : Int} {sz : Nat} {z : List AV} (ho : o.op = .makeSlice t x y) (he : elT P t = some e) (hs : szT P e = some sz) (hz : zeroT P e = some z)
    (hx : RV w C g h (a.eval x) (.int k l)) (hy : RV w C g h (a.eval y) (.int k' c)) (h0 : 0 ≤ l) (hlc : l ≤ c) (h63 : c ≤ 9223372036854775807) (hroom : (byT P e : Int) * c ≤ room) (hzl : z.length = sz) (hn : z.any notCell = false) :
    ∃ arr,(execOp a.eval o).run P w = .ok (.value (.slice (some ⟨w.heap.size,0,none⟩) l.toNat c.toNat)) (w.alloc (.cells arr e)) ∧ arr.size = c.toNat * sz ∧ RowsOk w C g h arr (List.replicate l.toNat z) sz:= by
  obtain ⟨i,v,h1,h2,h3,h4⟩:= zero_cells (w:= w) (C:= C) (g:= g) (h:= h) hz hn
  have hu : P.underlying t = some (.slice e):= by
    unfold elT at he
    split at he
    · injection he with he;subst he;assumption
    · cases he
  have hsz : i.size = sz:= by simpa [szT,h1] using hs
  have hby : (i.bytes : Int) * c ≤ 281474976710656:= by
    have : byT P e = i.bytes:= by simp [byT,h1]
    rw [this] at hroom
    simp only [room] at hroom
    omega
  have hr:= run_make (P:= P) w t e i v hu h1 h2 k k' l c h0 hlc hby h63
  refine ⟨madeCells v.cells (c.toNat * i.size),?_,by rw [size_madeCells,hsz],made_rows h3 hzl h4 hn (by rw [hsz];exact Nat.mul_le_mul_right _ (by omega))⟩
  simp [execOp,ho,hx.int_inv,hy.int_inv,hr]
end Go.Ev
namespace Go.Ev
open Go Go.RowKit
variable {N : Nat → Nat → Prop} {B0 : Nat} {w0 w : World} {g : Gh} {h : Hp} {P : Program} {C : Nat → Nat → Prop}
theorem chunk_spec (sz : Nat) : ∀ (n : Nat) (cs : List AV),n * sz ≤ cs.length → (chunk sz cs n).length = n ∧ (∀ r ∈ chunk sz cs n,r.length = sz) ∧
    ∀ (i j : Nat) row c,(chunk sz cs n)[i]? = some row → row[j]? = some c → cs[i * sz + j]? = some c
  | 0,cs,_ => ⟨rfl,fun r hr => by simp [chunk] at hr,fun i j row c hi => by simp [chunk] at hi⟩
  | n + 1,cs,h => by
    rw [Nat.succ_mul] at h
    obtain ⟨h1,h2,h3⟩:= chunk_spec sz n (cs.drop sz) (by simp;omega)
    refine ⟨by simp [chunk,h1],fun r hr => ?_,fun i j row c hi hj => ?_⟩
    · simp only [chunk,List.mem_cons] at hr
      rcases hr with rfl | hr
      · simp;omega
      · exact h2 r hr
    · cases i with
      | zero =>
        simp only [chunk,List.getElem?_cons_zero,Option.some.injEq] at hi
        subst hi
        rw [List.getElem?_take] at hj
        split at hj
        · simpa using hj
        · cases hj
      | succ i =>
        have:= h3 i j row c (by simpa [chunk] using hi) hj
        rw [List.getElem?_drop] at this
        rw [show (i + 1) * sz + j = sz + (i * sz + j) by rw [Nat.succ_mul];omega]
        exact this
theorem rowsOk_imm {b off sz : Nat} {rows : List (List AV)} {vals : Nat → Nat → Value} (hsz0 : 0 < sz) (hsz : ∀ r ∈ rows,r.length = sz) (hcell : ∀ i j,i < rows.length → j < sz → C b (off + i * sz + j) ∧ w.cell? ⟨b,off + i * sz + j,none⟩ = some (vals i j))
    (hval : ∀ (i j : Nat) row c,rows[i]? = some row → row[j]? = some c → RI w C (vals i j) c) :
    ∃ news : List Value,news.length = rows.length * sz ∧ (∀ (j : Nat) u,news[j]? = some u → w.cell? (Addr.add ⟨b,off,none⟩ j) = some u) ∧ RowsOk w C g h news.toArray rows sz ∧
      ∀ (i j : Nat) v row c,news[i * sz + j]? = some v → rows[i]? = some row → row[j]? = some c → RI w C v c:= by
  have key : ∀ (i j : Nat) v row c,((List.range (rows.length * sz)).map (fun k => vals (k / sz) (k % sz)))[i * sz + j]? = some v → rows[i]? = some row → row[j]? = some c → RI w C v c:= by
    intro i j v row c hv hrow hc
    have hi : i < rows.length:= (List.getElem?_eq_some_iff.1 hrow).1
    have hj : j < sz:= hsz row (List.mem_of_getElem? hrow) ▸ (List.getElem?_eq_some_iff.1 hc).1
    have hlt:= idx_lt hi hj
    simp only [List.getElem?_map,List.getElem?_range hlt,Option.map_some,Option.some.injEq] at hv
    have e1 : (i * sz + j) / sz = i:= by rw [Nat.mul_comm,Nat.mul_add_div hsz0,Nat.div_eq_of_lt hj];omega
    have e2 : (i * sz + j) % sz = j:= by rw [Nat.mul_comm,Nat.mul_add_mod,Nat.mod_eq_of_lt hj]
    rw [e1,e2] at hv
    rw [← hv]
    exact hval i j row c hrow hc
  refine ⟨(List.range (rows.length * sz)).map (fun k => vals (k / sz) (k % sz)),by simp,fun j u hj => ?_,⟨hsz,fun i j v row c hv hrow hc => .ri (key i j v row c (by simpa using hv) hrow hc),fun r hr c hc => ?_⟩,key⟩
  · simp only [List.getElem?_map,Option.map_eq_some_iff] at hj
    obtain ⟨k,hk,rfl⟩:= hj
    have hlt : j < rows.length * sz:= by have:= (List.getElem?_eq_some_iff.1 hk).1;simpa using this
    have hkj : k = j:= by rw [List.getElem?_range hlt] at hk;exact (Option.some.inj hk).symm
    subst hkj
    obtain ⟨e,hm⟩:= split_idx (k:= k) hsz0
    have hd : k / sz < rows.length:= Nat.div_lt_of_lt_mul (by rw [Nat.mul_comm];exact hlt)
    rw [Addr.add_lit]
    have:= (hcell (k / sz) (k % sz) hd hm).2
    rwa [show off + k / sz * sz + k % sz = off + k by omega] at this
  · obtain ⟨i,hi⟩:= List.getElem?_of_mem hr
    obtain ⟨j,hj⟩:= List.getElem?_of_mem hc
    exact notCell_of_RI (hval i j r c hi hj)
structure Src (P : Program) (w : World) (C : Nat → Nat → Prop) (g : Gh) (h : Hp) (v : Value) (rows : List (List AV)) (sz : Nat) (news : List Value) : Prop where
  lenOf : ∀ w',(Builtin.lenOf v).run P w' = .ok rows.length w'
  first : ∀ w' : World,(∀ a,w'.cell? a = w.cell? a) → (Builtin.firstCells sz rows.length v).run P w' = .ok news.toArray w'
  len : news.length = rows.length * sz
  ok : RowsOk w C g h news.toArray rows sz
theorem src_imm {v : Value} {rows : List (List AV)} {sz : Nat} (hsz0 : 0 < sz) (hr : RI w C v (.imm rows)) (hh : headLen sz rows = true) : ∃ news,Src P w C g h v rows sz news ∧ ∀ (i j : Nat) v row c,news[i * sz + j]? = some v → rows[i]? = some row → row[j]? = some c → RI w C v c:= by
  cases rows with
  | nil =>
    obtain ⟨a,cap,rfl,_⟩:= hr.imm_len
    refine ⟨[],⟨fun w' => by simp [Builtin.lenOf],fun w' _ => ?_,by simp,⟨fun r hr => by simp at hr,fun i j v row c _ hi => by simp at hi,fun r hr => by simp at hr⟩⟩,fun i j v row c _ hi => by simp at hi⟩
    cases a with
    | none => simp [Builtin.firstCells]
    | some a => simp [Builtin.firstCells,loadCells,loadCellsFrom]
  | cons row rest =>
    have hl0 : row.length = sz:= by simpa [headLen] using hh
    obtain ⟨b,off,cap,vals,rfl,_,hsz,hcell,hval⟩:= hr.imm_at (i:= 0) rfl hl0
    obtain ⟨news,n1,n2,n3,n4⟩:= rowsOk_imm (g:= g) (h:= h) hsz0 hsz hcell hval
    exact ⟨news,⟨fun w' => by simp [Builtin.lenOf],fun w' hw => run_firstCells_some w' sz _ _ _ _ news n1 (fun j v hj => by rw [hw];exact n2 j v hj),n1,n3⟩,n4⟩
theorem src_of {v : Value} {x : AV} {more : List (List AV)} {sz : Nat} (r : Rel N B0 w0 w g h) (hsz0 : 0 < sz) (hx : RV w (CC N B0 g) g h v x) (hr : rowsIn h sz x = some more) (hh : headLen sz more = true) :
    ∃ news,Src P w (CC N B0 g) g h v more sz news:= by
  cases x <;> simp only [rowsIn] at hr <;> try (simp at hr;done)
  · -- a string
    rename_i s
    injection hr with hr;subst hr
    obtain ⟨b,rfl,rfl⟩:= hx.str_inv
    cases hb : b.data.toList with
    | nil =>
      have h0 : b.size = 0:= by
        have : b.data.toList.length = 0:= by rw [hb];rfl
        simpa using this
      refine ⟨[],⟨fun w' => by simp [Builtin.lenOf,h0],fun w' _ => ?_,by simp,⟨fun r hr => by simp at hr,fun i j v row c _ hi => by simp at hi,fun r hr => by simp at hr⟩⟩⟩
      simp only [Builtin.firstCells,List.map_nil,List.length_nil,Sem.run_pure]
      congr 1
      apply Array.ext'
      simp
    | cons c0 rest =>
      rw [hb] at hh
      have hs1 : sz = 1:= by simp [headLen,byteRow] at hh;exact hh.symm
      subst hs1
      rw [← hb]
      have hlen : b.data.toList.length = b.size:= by simp
      refine ⟨b.data.toList.map fun q => Value.int .u8 q.toNat,⟨fun w' => by simp [Builtin.lenOf],fun w' _ => ?_,by simp,⟨fun r hr => ?_,fun i j v row c hv hi hj => ?_,fun r hr c hc => ?_⟩⟩⟩
      · simp only [Builtin.firstCells,List.length_map,hlen,Sem.run_pure]
        congr 1
        apply Array.ext'
        simp
      · simp only [List.mem_map] at hr
        obtain ⟨q,_,rfl⟩:= hr
        rfl
      · simp only [List.getElem?_map,Option.map_eq_some_iff] at hi
        obtain ⟨q,hq,rfl⟩:= hi
        cases j with
        | zero =>
          simp only [byteRow,List.getElem?_cons_zero,Option.some.injEq] at hj
          subst hj
          simp only [Nat.mul_one,Nat.add_zero,List.getElem?_toArray,List.getElem?_map,hq,Option.map_some,Option.some.injEq] at hv
          subst hv
          exact RI.int' _ _
        | succ j => simp [byteRow] at hj
      · simp only [List.mem_map] at hr
        obtain ⟨q,_,rfl⟩:= hr
        simp only [byteRow,List.mem_singleton] at hc
        subst hc
        rfl
  · -- nil
    injection hr with hr;subst hr
    obtain rfl:= hx.snil_inv
    exact ⟨[],⟨fun w' => by simp [Builtin.lenOf],fun w' _ => by simp [Builtin.firstCells],by simp,⟨fun r hr => by simp at hr,fun i j v row c _ hi => by simp at hi,fun r hr => by simp at hr⟩⟩⟩
  · injection hr with hr;subst hr
    obtain ⟨ad,rfl⟩:= hx.semp_inv
    exact ⟨[],⟨fun w' => by simp [Builtin.lenOf],fun w' _ => by simp [Builtin.firstCells,loadCells,loadCellsFrom],by simp,⟨fun r hr => by simp at hr,fun i j v row c _ hi => by simp at hi,fun r hr => by simp at hr⟩⟩⟩
  · injection hr with hr;subst hr
    obtain ⟨news,S,_⟩:= src_imm (P:= P) (g:= g) (h:= h) hsz0 hx.imm_inv hh
    exact ⟨news,S⟩
  · injection hr with hr;subst hr
    obtain ⟨news,S,_⟩:= src_imm (P:= P) (g:= g) (h:= h) hsz0 hx.app_inv.2.1 hh
    exact ⟨news,S⟩
  · rename_i q off len s
    split at hr
    case isFalse => cases hr
    rename_i hss
    subst hss
    simp only [Option.bind_eq_some_iff] at hr
    obtain ⟨cs,hq,hr⟩:= hr
    split at hr
    case isFalse => cases hr
    rename_i hfit
    injection hr with hr;subst hr
    obtain ⟨_,cap,hcap,rfl,_⟩:= hx.sl_inv
    obtain ⟨h1,h2,arr,ty,h3,_,h4,h5,h6⟩:= r.blk q cs hq
    obtain ⟨k1,k2,k3⟩:= chunk_spec s len (cs.drop off) (by simp;omega)
    have hle : off + len * s ≤ arr.size:= by omega
    have hnl : ((arr.toList.drop off).take (len * s)).length = len * s:= by simp;omega
    refine ⟨(arr.toList.drop off).take (len * s),⟨fun w' => by simp [Builtin.lenOf,k1],fun w' hw => ?_,by rw [hnl,k1],⟨k2,fun i j v row c hv hi hj => ?_,fun r hr c hc => ?_⟩⟩⟩
    · rw [k1]
      refine run_firstCells_some w' s len _ _ _ _ hnl fun j v hj => ?_
      rw [hw,Addr.add_lit,cell_of_row _ _ _ _ _ _ h3]
      rw [List.getElem?_take] at hj
      split at hj
      · simpa using hj
      · cases hj
    · have hcs:= k3 i j row c hi hj
      rw [List.getElem?_drop] at hcs
      simp only [List.getElem?_toArray,List.getElem?_take] at hv
      split at hv
      · rw [List.getElem?_drop,Array.getElem?_toList] at hv
        exact h5 _ v c hv hcs
      · cases hv
    · obtain ⟨i,hi⟩:= List.getElem?_of_mem hr
      obtain ⟨j,hj⟩:= List.getElem?_of_mem hc
      have hcs:= k3 i j r c hi hj
      rw [List.getElem?_drop] at hcs
      exact h6 c (List.mem_of_getElem? hcs)
theorem one_of_rowsOk {news : List Value} {rows : List (List AV)} {sz : Nat} (hsz0 : 0 < sz) (hl : news.length = rows.length * sz) (ok : RowsOk w C g h news.toArray rows sz) : ∀ u ∈ news,u.oneCell' = true:= by
  intro u hu
  obtain ⟨k,hk⟩:= List.getElem?_of_mem hu
  have hlt : k < rows.length * sz:= by rw [← hl];exact (List.getElem?_eq_some_iff.1 hk).1
  obtain ⟨e,hm⟩:= split_idx (k:= k) hsz0
  have hd : k / sz < rows.length:= Nat.div_lt_of_lt_mul (by rw [Nat.mul_comm];exact hlt)
  have hrow : rows[k / sz]? = some rows[k / sz]:= by simp
  have hrl:= ok.len _ (List.mem_of_getElem? hrow)
  have hc : (rows[k / sz])[k % sz]? = some ((rows[k / sz])[k % sz]'(by omega)):= by simp
  rw [e] at hk
  have h1:= ok.cell (k / sz) (k % sz) u _ _ (by simpa using hk) hrow hc
  exact oneCell_of_RV h1 (ok.nc _ (List.mem_of_getElem? hrow) _ (List.mem_of_getElem? hc))
section
variable {t u ty e : TypeId} {i : TypeInfo} {z : Value}
theorem run_appendRoom (ht : P.underlying t = some (.slice e)) (hu : ∃ d,P.underlying u = some d ∧ ∀ k,d ≠ .int k) (hi : P.info? e = some i) {sLen sCap n : Nat} {x : Value} {news : List Value}
    (hlen : (Builtin.lenOf x).run P w = .ok n w) (hfirst : (Builtin.firstCells i.size n x).run P w = .ok news.toArray w) (b : Option Nat) (hroom : sLen + n ≤ sCap)
    (w' : World) (hst : ∀ b',b = some b' → (storeCells (Addr.add ⟨b',0,none⟩ (sLen * i.size)) news).run P w = .ok () w') (hnone : b = none → w' = w) :
    (Builtin.append_ #[t,u] ty #[.slice (b.map fun b => ⟨b,0,none⟩) sLen sCap,x]).run P w = .ok (.slice (b.map fun b => ⟨b,0,none⟩) (sLen + n) sCap) w':= by
  obtain ⟨d,hd,hnd⟩:= hu
  cases b with
  | none =>
    have:= hnone rfl
    subst this
    simp [Builtin.append_,run_underlying ht,run_underlying hd,sizeOf,typeInfo,hi,hlen,hfirst,hroom]
  | some b =>
    have:= hst b rfl
    simp [Builtin.append_,run_underlying ht,run_underlying hd,sizeOf,typeInfo,hi,hlen,hfirst,hroom,this]
theorem run_appendGrow (ht : P.underlying t = some (.slice e)) (hu : ∃ d,P.underlying u = some d ∧ ∀ k,d ≠ .int k) (hi : P.info? e = some i) (hz : i.zero = some z) {sLen sCap n : Nat} {x : Value} {news olds : List Value} {a : Option Addr}
    (hlen : (Builtin.lenOf x).run P w = .ok n w) (hfirst : (Builtin.firstCells i.size n x).run P w.drew = .ok news.toArray w.drew) (hold : (Builtin.firstCells i.size sLen (.slice a sLen sCap)).run P w.drew = .ok olds.toArray w.drew)
    (hg : sCap < sLen + n) (hby : (sLen + n) * i.bytes ≤ room) (hb : i.bytes ≠ 0) :
    (Builtin.append_ #[t,u] ty #[.slice a sLen sCap,x]).run P w = .ok (.slice (some ⟨w.heap.size,0,none⟩) (sLen + n) (grownCap w (sLen + n) sCap e))
      (w.drew.alloc (.cells (olds.toArray ++ news.toArray ++ Builtin.zeroCells z.cells (grownCap w (sLen + n) sCap e - (sLen + n))) e)):= by
  obtain ⟨d,hd,hnd⟩:= hu
  have hn : ¬ (sLen + n ≤ sCap):= by omega
  have h48' : ¬ (281474976710656 < Builtin.nextslicecap (sLen + n) sCap * i.bytes):= by
    have:= growslice_fits (need:= sLen + n) (old:= sCap) (bytes:= i.bytes) (by omega) hby
    omega
  simp [Builtin.append_,run_underlying ht,run_underlying hd,sizeOf,typeInfo,zeroValue,hi,hz,hlen,hn,h48',hb,Question.forced,hfirst,hold,newRow,grownCap]
  congr 2
  apply Array.ext'
  simp [List.append_assoc]
end
end Go.Ev
namespace Go.Ev
open Go Go.RowKit
variable {N : Nat → Nat → Prop} {B0 : Nat} {w0 w : World} {g : Gh} {h : Hp} {P : Program} {C : Nat → Nat → Prop}
theorem RowsOk.ext {w' : World} {g' : Gh} {h' : Hp} {arr : Array Value} {rows : List (List AV)} {sz : Nat} (ok : RowsOk w (CC N B0 g) g h arr rows sz) (e : Ext N B0 w g h w' g' h') : RowsOk w' (CC N B0 g') g' h' arr rows sz:=
  ⟨ok.len,fun i j v row c hv hi hj => (ok.cell i j v row c hv hi hj).ext N B0 e,ok.nc⟩
theorem RowsOk.append {xs ys zs : List Value} {rows more : List (List AV)} {sz : Nat} (h1 : RowsOk w C g h xs.toArray rows sz) (h2 : RowsOk w C g h ys.toArray more sz) (hx : xs.length = rows.length * sz) (hy : ys.length = more.length * sz) :
    RowsOk w C g h (xs ++ ys ++ zs).toArray (rows ++ more) sz:= by
  refine ⟨fun r hr => ?_,fun i j v row c hv hi hj => ?_,fun r hr => ?_⟩
  · rcases List.mem_append.1 hr with hr | hr
    · exact h1.len r hr
    · exact h2.len r hr
  · simp only [List.getElem?_toArray] at hv
    by_cases hin : i < rows.length
    · rw [List.getElem?_append_left hin] at hi
      have hjs : j < sz:= h1.len row (List.mem_of_getElem? hi) ▸ (List.getElem?_eq_some_iff.1 hj).1
      have:= idx_lt hin hjs
      rw [List.append_assoc,List.getElem?_append_left (by omega)] at hv
      exact h1.cell i j v row c (by simpa using hv) hi hj
    · rw [List.getElem?_append_right (by omega)] at hi
      have hjs : j < sz:= h2.len row (List.mem_of_getElem? hi) ▸ (List.getElem?_eq_some_iff.1 hj).1
      have hi2 : i - rows.length < more.length:= (List.getElem?_eq_some_iff.1 hi).1
      have hlt:= idx_lt hi2 hjs
      have hge : rows.length * sz ≤ i * sz:= Nat.mul_le_mul_right _ (by omega)
      rw [Nat.sub_mul] at hlt
      rw [List.append_assoc,List.getElem?_append_right (by omega),List.getElem?_append_left (by omega)] at hv
      refine h2.cell (i - rows.length) j v row c ?_ hi hj
      rw [List.getElem?_toArray,← hv]
      congr 1
      rw [Nat.sub_mul];omega
  · rcases List.mem_append.1 hr with hr | hr
    · exact h1.nc r hr
    · exact h2.nc r hr
theorem not_int {u : TypeId} {k : TK} (hk : (P.underlying u).isSome = true) (h : kindT P u = k) (hn : ∀ i,k ≠ .int i) : ∃ d,P.underlying u = some d ∧ ∀ i,d ≠ .int i:= by
  obtain ⟨d,hd⟩:= Option.isSome_iff_exists.1 hk
  refine ⟨d,hd,fun i hi => ?_⟩
  subst hi
  simp only [kindT,hd] at h
  exact hn i h.symm
theorem elT_spec {t e : TypeId} (he : elT P t = some e) : P.underlying t = some (.slice e):= by
  unfold elT at he
  split at he
  · injection he with he;subst he;assumption
  · cases he
theorem exec_append {a : Act} {o : Oper} {c : Call} {x y : Operand} {v : Value} {w' : World} (ho : o.op = .call c) (hb : c.callee = .builtin .append) (ha : c.args = #[x,y])
    (hr : (Builtin.append_ c.argTypes o.type #[a.eval x,a.eval y]).run P w = .ok v w') : (execOp a.eval o).run P w = .ok (.value v) w':= by
  unfold execOp
  simp only [ho,resolve,hb,ha,invoke,builtin,Sem.run_bind,Sem.run_pure,Result.andThen_ok,List.map_toArray,List.map_cons,List.map_nil,hr]
structure AppT (P : Program) (argTypes : Array TypeId) (t u e : TypeId) (i : TypeInfo) (z : Value) (sz : Nat) : Prop where
  args : argTypes = #[t,u]
  ht : P.underlying t = some (.slice e)
  hu : ∃ d,P.underlying u = some d ∧ ∀ k,d ≠ .int k
  hi : P.info? e = some i
  hz : i.zero = some z
  hsz : i.size = sz
  hsz0 : 0 < sz
  hzs : z.cells.size = sz
  hby : i.bytes ≠ 0
theorem zeroCells_size (z : Array Value) (n : Nat) : (Builtin.zeroCells z n).size = n * z.size:= size_zeroCells z n
theorem op_append_nil {a : Act} {o : Oper} {c : Call} {x y : Operand} {t u e : TypeId} {i : TypeInfo} {z : Value} {sz : Nat} {X : AV} {more : List (List AV)} (r : Rel N B0 w0 w g h) (ho : o.op = .call c) (hb : c.callee = .builtin .append) (ha : c.args = #[x,y])
    (T : AppT P c.argTypes t u e i z sz) (hx : RV w (CC N B0 g) g h (a.eval x) .snil) (hy : RV w (CC N B0 g) g h (a.eval y) X) (hr : rowsIn h sz X = some more) (hh : headLen sz more = true) (hroom : more.length * i.bytes ≤ room) :
    (more = [] → OpOk P N B0 w0 w g h a o .snil h) ∧ (more ≠ [] → OpOk P N B0 w0 w g h a o (.sl h.nx 0 more.length sz) (h.new more.flatten)) ∧
      ∀ more',more ≠ [] → frzRows more = some more' → OpOk P N B0 w0 w g h a o (.app h.nx more') (h.newApp more'.length sz):= by
  obtain ⟨news,S⟩:= src_of r T.hsz0 hy hr hh
  have ev:= hx.snil_inv
  have hl63 : more.length ≤ 9223372036854775807:= by
    have:= T.hby
    have h1 : more.length * 1 ≤ more.length * i.bytes:= Nat.mul_le_mul_left _ (by omega)
    simp only [room] at hroom;omega
  refine ⟨fun hm => ?_,?_⟩
  · subst hm
    have hn : news = []:= List.eq_nil_of_length_eq_zero (by simpa using S.len)
    subst hn
    refine opOk_pure r (v':= .slice none 0 0) (exec_append ho hb ha ?_) .snil
    rw [ev,T.args]
    have:= run_appendRoom (P:= P) (w:= w) (ty:= o.type) (sLen:= 0) (sCap:= 0) T.ht T.hu T.hi (S.lenOf w) (by rw [T.hsz];exact S.first w (fun _ => rfl)) none (by simp) w (fun b' hb' => by cases hb') (fun _ => rfl)
    simpa using this
  · have hg : ∀ hm : more ≠ [],∃ arr cap,(execOp a.eval o).run P w = .ok (.value (.slice (some ⟨w.heap.size,0,none⟩) more.length cap)) (w.drew.alloc (.cells arr e)) ∧ more.length ≤ cap ∧ cap * sz ≤ arr.size ∧ RowsOk w (CC N B0 g) g h arr more sz:= by
      intro hm
      have hml : 0 < more.length:= List.length_pos_iff.2 hm
      have hrun:= run_appendGrow (P:= P) (w:= w) (ty:= o.type) (olds:= []) (a:= none) (sLen:= 0) (sCap:= 0) T.ht T.hu T.hi T.hz (S.lenOf w) (by rw [T.hsz];exact S.first w.drew (fun _ => rfl)) (by simp [Builtin.firstCells]) (by omega) (by simpa using hroom) T.hby
      simp only [Nat.zero_add] at hrun
      have hge:= grownCap_ge w more.length 0 e
      refine ⟨_,_,exec_append ho hb ha (by rw [ev,T.args];exact hrun),hge,?_,?_⟩
      · simp only [Array.size_append,List.size_toArray,List.length_nil,zeroCells_size,T.hzs,S.len]
        rw [Nat.zero_add,← Nat.add_mul]
        exact Nat.mul_le_mul_right _ (by omega)
      · have e0 : (([] : List Value).toArray ++ news.toArray ++ Builtin.zeroCells z.cells (grownCap w more.length 0 e - more.length)) = ([] ++ news ++ (Builtin.zeroCells z.cells (grownCap w more.length 0 e - more.length)).toList).toArray:= by
          apply Array.ext';simp
        rw [e0]
        have:= RowsOk.append (zs:= (Builtin.zeroCells z.cells (grownCap w more.length 0 e - more.length)).toList) (xs:= []) (rows:= []) (w:= w) (C:= CC N B0 g) (g:= g) (h:= h) (sz:= sz)
          ⟨fun r hr => by simp at hr,fun i j v row c _ hi => by simp at hi,fun r hr => by simp at hr⟩ S.ok (by simp) S.len
        rw [List.nil_append] at this
        exact this
    refine ⟨fun hm => ?_,fun more' hm hf => ?_⟩
    · obtain ⟨arr,cap,h1,h2,h3,h4⟩:= hg hm
      obtain ⟨rd,ed⟩:= r.drew
      obtain ⟨g',hn,hv⟩:= (h4.ext ed).sl rd e T.hsz0 h3 h2
      exact opOk_run h1 ⟨hn.rel,ed.trans N B0 hn.ext⟩ hv
    · obtain ⟨arr,cap,h1,h2,h3,h4⟩:= hg hm
      obtain ⟨rd,ed⟩:= r.drew
      obtain ⟨g',hn,hv⟩:= (h4.ext ed).app rd hf e h3 h2
      rw [(frzRows_spec hf).1]
      exact opOk_run h1 ⟨hn.rel,ed.trans N B0 hn.ext⟩ hv
theorem RowsOk.frz {rows rows' : List (List AV)} {sz : Nat} {arr : Array Value} (ok : RowsOk w C g h arr rows sz) (hf : frzRows rows = some rows') :
    (∀ row ∈ rows',row.length = sz) ∧ ∀ (i j : Nat) v row c,arr[i * sz + j]? = some v → rows'[i]? = some row → row[j]? = some c → RI w C v c:= by
  obtain ⟨f1,f2⟩:= frzRows_spec hf
  refine ⟨fun row hrow => ?_,fun i j v row c hv hrow hcc => ?_⟩
  · obtain ⟨i,hi⟩:= List.getElem?_of_mem hrow
    obtain ⟨q,q1,q2⟩:= f2 i row hi
    rw [(frzCells_spec q2).1]
    exact ok.len q (List.mem_of_getElem? q1)
  · obtain ⟨q,q1,q2⟩:= f2 i row hrow
    obtain ⟨d,d1,d2⟩:= (frzCells_spec q2).2 j c hcc
    exact (ok.cell i j v q d hv q1 d1).frz d2
theorem op_append_imm {ob : Option Nat} {a : Act} {o : Oper} {c : Call} {x y : Operand} {t u e : TypeId} {i : TypeInfo} {z : Value} {sz : Nat} {X : AV} {more : List (List AV)} (r : Rel N B0 w0 w g h) (ho : o.op = .call c) (hb : c.callee = .builtin .append) (ha : c.args = #[x,y])
    (T : AppT P c.argTypes t u e i z sz) (hx : a.eval x = .slice (ob.map fun b => ⟨b,0,none⟩) 0 0) (hy : RV w (CC N B0 g) g h (a.eval y) X) (hr : rowsIn h sz X = some more) (hh : headLen sz more = true) (hroom : more.length * i.bytes ≤ room) :
    (∀ s,more = [] → RV w (CC N B0 g) g h (.slice (ob.map fun b => ⟨b,0,none⟩) 0 0) s → OpOk P N B0 w0 w g h a o s h) ∧
      ∀ more',more ≠ [] → frzRows more = some more' → OpOk P N B0 w0 w g h a o (.imm more') h:= by
  obtain ⟨news,S⟩:= src_of r T.hsz0 hy hr hh
  have ev:= hx
  have hl63 : more.length ≤ 9223372036854775807:= by
    have:= T.hby
    have h1 : more.length * 1 ≤ more.length * i.bytes:= Nat.mul_le_mul_left _ (by omega)
    simp only [room] at hroom;omega
  refine ⟨fun s hm hs => ?_,?_⟩
  · subst hm
    have hn : news = []:= List.eq_nil_of_length_eq_zero (by simpa using S.len)
    subst hn
    refine opOk_pure r (v':= .slice (ob.map fun b => ⟨b,0,none⟩) 0 0) (exec_append ho hb ha ?_) hs
    rw [ev,T.args]
    have:= run_appendRoom (P:= P) (w:= w) (ty:= o.type) (sLen:= 0) (sCap:= 0) T.ht T.hu T.hi (S.lenOf w) (by rw [T.hsz];exact S.first w (fun _ => rfl)) ob (by simp) w (fun b' _ => by simp [storeCells]) (fun _ => rfl)
    simpa using this
  · have hg : ∀ hm : more ≠ [],∃ arr cap,(execOp a.eval o).run P w = .ok (.value (.slice (some ⟨w.heap.size,0,none⟩) more.length cap)) (w.drew.alloc (.cells arr e)) ∧ more.length ≤ cap ∧ cap * sz ≤ arr.size ∧ RowsOk w (CC N B0 g) g h arr more sz:= by
      intro hm
      have hml : 0 < more.length:= List.length_pos_iff.2 hm
      have hrun:= run_appendGrow (P:= P) (w:= w) (ty:= o.type) (olds:= []) (a:= ob.map fun b => ⟨b,0,none⟩) (sLen:= 0) (sCap:= 0) T.ht T.hu T.hi T.hz (S.lenOf w) (by rw [T.hsz];exact S.first w.drew (fun _ => rfl)) (by cases ob <;> simp [Builtin.firstCells,loadCells,loadCellsFrom]) (by omega) (by simpa using hroom) T.hby
      simp only [Nat.zero_add] at hrun
      have hge:= grownCap_ge w more.length 0 e
      refine ⟨_,_,exec_append ho hb ha (by rw [ev,T.args];exact hrun),hge,?_,?_⟩
      · simp only [Array.size_append,List.size_toArray,List.length_nil,zeroCells_size,T.hzs,S.len]
        rw [Nat.zero_add,← Nat.add_mul]
        exact Nat.mul_le_mul_right _ (by omega)
      · have e0 : (([] : List Value).toArray ++ news.toArray ++ Builtin.zeroCells z.cells (grownCap w more.length 0 e - more.length)) = ([] ++ news ++ (Builtin.zeroCells z.cells (grownCap w more.length 0 e - more.length)).toList).toArray:= by
          apply Array.ext';simp
        rw [e0]
        have:= RowsOk.append (zs:= (Builtin.zeroCells z.cells (grownCap w more.length 0 e - more.length)).toList) (xs:= []) (rows:= []) (w:= w) (C:= CC N B0 g) (g:= g) (h:= h) (sz:= sz)
          ⟨fun r hr => by simp at hr,fun i j v row c _ hi => by simp at hi,fun r hr => by simp at hr⟩ S.ok (by simp) S.len
        rw [List.nil_append] at this
        exact this
    refine fun more' hm hf => ?_
    obtain ⟨arr,cap,h1,h2,h3,h4⟩:= hg hm
    obtain ⟨rd,ed⟩:= r.drew
    obtain ⟨k1,k2⟩:= (h4.ext ed).frz hf
    have hlen:= (frzRows_spec hf).1
    have hbe : Below w.drew.heap.size w.drew (w.drew.alloc (.cells arr e)):= (Below.refl _ _).alloc (Nat.le_refl _) _
    have hnx:= rd.below hbe
    refine opOk_run h1 ⟨hnx.rel,ed.trans N B0 hnx.ext⟩ (.ri ?_)
    by_cases h0 : more' = []
    · subst h0
      exact absurd (List.eq_nil_of_length_eq_zero hlen.symm) hm
    rw [← hlen] at h2 ⊢
    refine .sl w.drew.heap.size 0 more'.length cap sz more' (fun i j => arr.getD (i * sz + j) undef) rfl h2 k1 (fun i j hi hj => ?_) fun i j row c hi hj => ?_
    · have hlt2 : i * sz + j < arr.size:= by
        have : i * sz + sz ≤ more'.length * sz:= by rw [← Nat.succ_mul];exact Nat.mul_le_mul_right _ hi
        have:= Nat.mul_le_mul_right sz h2
        omega
      refine ⟨⟨fun hw => ?_,fun hb => absurd hb (by have:= rd.hB;omega)⟩,?_⟩
      · have hno : g.ow w.drew.heap.size = .no:= by
          cases hq : g.ow w.drew.heap.size with
          | no => rfl
          | _ =>
            have:= (rd.ow w.drew.heap.size (by rw [hq];simp)).2
            omega
        unfold wr at hw
        rw [hno] at hw
        exact hw
      · simp only [Nat.zero_add]
        rw [cell_of_row _ _ _ _ _ _ (heap_alloc_new w.drew _)]
        simp [Array.getD,hlt2]
    · have hi2 : i < more'.length:= (List.getElem?_eq_some_iff.1 hi).1
      have hrow:= k1 row (List.mem_of_getElem? hi)
      have hj2 : j < sz:= hrow ▸ (List.getElem?_eq_some_iff.1 hj).1
      have hlt2 : i * sz + j < arr.size:= by
        have : i * sz + sz ≤ more'.length * sz:= by rw [← Nat.succ_mul];exact Nat.mul_le_mul_right _ hi2
        have:= Nat.mul_le_mul_right sz h2
        omega
      refine (k2 i j _ row c ?_ hi hj).mono hnx.ext.cell
      simp [Array.getD,hlt2]
theorem op_append_app {a : Act} {o : Oper} {c : Call} {x y : Operand} {t u e : TypeId} {i : TypeInfo} {z : Value} {sz id : Nat} {X : AV} {rows more more' : List (List AV)} (r : Rel N B0 w0 w g h) (ho : o.op = .call c) (hb : c.callee = .builtin .append) (ha : c.args = #[x,y])
    (T : AppT P c.argTypes t u e i z sz) (hx : RV w (CC N B0 g) g h (a.eval x) (.app id rows)) (hid : h.ap id = some (rows.length,sz)) (hy : RV w (CC N B0 g) g h (a.eval y) X) (hr : rowsIn h sz X = some more) (hh : headLen sz more = true) (hroom : (rows.length + more.length) * i.bytes ≤ room)
    (hf : frzRows more = some more') : OpOk P N B0 w0 w g h a o (.app id (rows ++ more')) (h.setApp id (rows.length + more'.length) sz):= by
  obtain ⟨news,S⟩:= src_of r T.hsz0 hy hr hh
  obtain ⟨hidn,hri,hap⟩:= hx.app_inv
  obtain ⟨hrs,_,hhead⟩:= hap _ _ hid
  have ev:= hhead rfl
  obtain ⟨k1,k2,k3⟩:= r.app id _ _ hid
  have f1:= (frzRows_spec hf).1
  obtain ⟨m1,m2⟩:= S.ok.frz hf
  have hl63 : rows.length + more.length ≤ 9223372036854775807:= by
    have:= T.hby
    have h1 : (rows.length + more.length) * 1 ≤ (rows.length + more.length) * i.bytes:= Nat.mul_le_mul_left _ (by omega)
    simp only [room] at hroom;omega
  have hsz:= T.hsz
  rw [f1]
  by_cases hm : more = []
  · subst hm
    have hn : news = []:= List.eq_nil_of_length_eq_zero (by simpa using S.len)
    subst hn
    have hm' : more' = []:= List.eq_nil_of_length_eq_zero (by rw [f1];rfl)
    subst hm'
    have hset : h.setApp id (rows.length + 0) sz = h:= by
      have : (fun q => if q = id then some (rows.length + 0,sz) else h.ap q) = h.ap:= by
        funext q
        split
        · rename_i hq;subst hq;exact hid.symm
        · rfl
      unfold Hp.setApp
      rw [this]
    simp only [List.length_nil,List.append_nil]
    rw [hset]
    refine opOk_pure r (v':= a.eval x) (exec_append ho hb ha ?_) hx
    rw [ev,T.args,Gh.head]
    have:= run_appendRoom (P:= P) (w:= w) (ty:= o.type) T.ht T.hu T.hi (S.lenOf w) (by rw [T.hsz];exact S.first w (fun _ => rfl)) (g.ad id).1 (sLen:= rows.length) (sCap:= (g.ad id).2) (by simpa using k2) w (fun b' _ => by simp [storeCells]) (fun _ => rfl)
    simpa using this
  · have hml : 0 < more.length:= List.length_pos_iff.2 hm
    have hm' : more' ≠ []:= fun e0 => by rw [e0] at f1;exact hm (List.eq_nil_of_length_eq_zero f1.symm)
    by_cases hrm : rows.length + more.length ≤ (g.ad id).2
    · rw [ev] at hri
      obtain ⟨b,arr,ty',b1,b2,b3,g',hn,hv⟩:= r.room hid rows more' rfl hrs hri hm' m1 news (by rw [S.len,f1]) (fun i j v row c hv => m2 i j v row c (by simpa using hv)) (by rw [f1];exact hrm)
      rw [f1] at hn hv
      refine opOk_run (exec_append ho hb ha ?_) hn hv
      rw [ev,T.args,Gh.head]
      have one:= one_of_rowsOk T.hsz0 S.len S.ok
      have hst:= run_storeCells_at P b (rows.length * sz) ty' news 0 arr w b2 (by simpa using b3) one
      simp only [Nat.add_zero] at hst
      have:= run_appendRoom (P:= P) (w:= w) (ty:= o.type) T.ht T.hu T.hi (S.lenOf w) (by rw [T.hsz];exact S.first w (fun _ => rfl)) (g.ad id).1 (sLen:= rows.length) (sCap:= (g.ad id).2) hrm (w.setRow b (over arr (rows.length * sz) news))
        (fun b' hb' => by
          rw [b1] at hb'
          injection hb' with hb'
          subst hb'
          rw [Addr.add_lit,hsz,Nat.zero_add]
          exact hst) (fun hb' => by rw [b1] at hb';cases hb')
      rw [this,b1]
      rfl
    · obtain ⟨rd,ed⟩:= r.drew
      -- the rows that were there,as the machine reads them
      have hold : ∃ olds : List Value,olds.length = rows.length * sz ∧ (Builtin.firstCells i.size rows.length (g.head id rows.length)).run P w.drew = .ok olds.toArray w.drew ∧ RowsOk w (CC N B0 g) g h olds.toArray rows sz ∧
          ∀ (i j : Nat) v row c,olds[i * sz + j]? = some v → rows[i]? = some row → row[j]? = some c → RI w (CC N B0 g) v c:= by
        rw [hsz]
        cases rows with
        | nil =>
          refine ⟨[],by simp,?_,⟨fun r hr => by simp at hr,fun i j v row c _ hi => by simp at hi,fun r hr => by simp at hr⟩,fun i j v row c _ hi => by simp at hi⟩
          simp only [Gh.head,List.length_nil]
          cases (g.ad id).1 <;> simp [Builtin.firstCells,loadCells,loadCellsFrom]
        | cons row rest =>
          rw [ev] at hri
          obtain ⟨news',S',R'⟩:= src_imm (P:= P) (g:= g) (h:= h) T.hsz0 hri (by simp [headLen,hrs row])
          exact ⟨news',S'.len,S'.first w.drew (fun _ => rfl),S'.ok,R'⟩
      obtain ⟨olds,o1,o2,o3,o4⟩:= hold
      rw [Gh.head] at o2
      have hrun:= run_appendGrow (P:= P) (w:= w) (ty:= o.type) (olds:= olds) T.ht T.hu T.hi T.hz (S.lenOf w) (by rw [T.hsz];exact S.first w.drew (fun _ => rfl)) o2 (by omega) hroom T.hby
      have hge:= grownCap_ge w (rows.length + more.length) (g.ad id).2 e
      have hcell : ∀ (i j : Nat) v row c,(olds.toArray ++ news.toArray ++ Builtin.zeroCells z.cells (grownCap w (rows.length + more.length) (g.ad id).2 e - (rows.length + more.length)))[i * sz + j]? = some v → (rows ++ more')[i]? = some row → row[j]? = some c → RI w (CC N B0 g) v c:= by
        intro i j v row c hv hrow hc
        by_cases hin : i < rows.length
        · rw [List.getElem?_append_left hin] at hrow
          have hjs : j < sz:= hrs row (List.mem_of_getElem? hrow) ▸ (List.getElem?_eq_some_iff.1 hc).1
          have hlt:= idx_lt hin hjs
          rw [Array.getElem?_append_left (by simp;omega),Array.getElem?_append_left (by simp;omega)] at hv
          exact o4 i j v row c (by simpa using hv) hrow hc
        · rw [List.getElem?_append_right (by omega)] at hrow
          have hjs : j < sz:= m1 row (List.mem_of_getElem? hrow) ▸ (List.getElem?_eq_some_iff.1 hc).1
          have hi2 : i - rows.length < more'.length:= (List.getElem?_eq_some_iff.1 hrow).1
          have hlt:= idx_lt hi2 hjs
          have hge2 : rows.length * sz ≤ i * sz:= Nat.mul_le_mul_right _ (by omega)
          rw [Nat.sub_mul] at hlt
          refine m2 (i - rows.length) j v row c ?_ hrow hc
          have hnl : news.length = more'.length * sz:= by rw [S.len,f1]
          rw [Array.getElem?_append_left (by simp;omega),Array.getElem?_append_right (by simp;omega)] at hv
          rw [← hv]
          congr 1
          simp only [List.size_toArray,o1]
          rw [Nat.sub_mul];omega
      have hall' : ∀ row ∈ rows ++ more',row.length = sz:= fun row hr => by
        rcases List.mem_append.1 hr with hr | hr
        · exact hrs row hr
        · exact m1 row hr
      obtain ⟨g',hn,hv⟩:= rd.grow hid (rows ++ more') (by simp;omega) hall' _ e (grownCap w (rows.length + more.length) (g.ad id).2 e) (by simp [f1];omega)
        (by simp only [Array.size_append,List.size_toArray,zeroCells_size,T.hzs,S.len,o1,← Nat.add_mul];exact Nat.mul_le_mul_right _ (by omega)) (fun i j v row c h1 h2 h3 => (hcell i j v row c h1 h2 h3).mono ed.cell)
      simp only [List.length_append,f1] at hn hv
      refine opOk_run (exec_append ho hb ha ?_) ⟨hn.rel,ed.trans N B0 hn.ext⟩ hv
      rw [ev,T.args,Gh.head]
      exact hrun
end Go.Ev
namespace Go.Ev
open Go Go.RowKit
variable {N : Nat → Nat → Prop} {B0 : Nat} {w0 w : World} {g : Gh} {h : Hp} {P : Program} {C : Nat → Nat → Prop}
theorem Rel.kill (r : Rel N B0 w0 w g h) (q : Nat) : Next N B0 w0 w g h w g (h.kill q):= by
  have e : Ext N B0 w g h w g (h.kill q):= ⟨Nat.le_refl _,fun _ _ => rfl,fun _ _ => rfl,fun _ _ n sz hn => ⟨n,hn,Nat.le_refl _,fun _ => rfl⟩,fun _ _ _ a b => ⟨a,b⟩⟩
  refine ⟨⟨r.base,r.bel,r.ow,fun p ps hp => ?_,r.app⟩,e⟩
  have hp' : h.hp p = some ps:= by
    simp only [Hp.kill] at hp
    split at hp
    · cases hp
    · exact hp
  obtain ⟨h1,h2,arr,ty,h3,hs,h4,h5,h6⟩:= r.blk p ps hp'
  exact ⟨h1,h2,arr,ty,h3,hs,h4,fun i v c hi hc => (h5 i v c hi hc).ext N B0 e,h6⟩
theorem Rel.reown (r : Rel N B0 w0 w g h) {b q : Nat} (hq : g.ow b = .blk q) (hd : h.hp q = none) {arr arr' : Array Value} {ty : TypeId} (harr : w.heap[b]? = some (.cells arr ty (0,0))) (hsz : arr'.size = arr.size) (cs : List AV) (hs : cs.length ≤ arr.size)
    (hv : ∀ (i : Nat) v c,arr'[i]? = some v → cs[i]? = some c → RV w (CC N B0 g) g h v c) (hn : ∀ c ∈ cs,notCell c = false) :
    ∃ g',Next N B0 w0 w g h (w.setRow b arr') g' (h.new cs) ∧ g'.bl h.nx = b ∧ g'.sz h.nx = arr.size:= by
  let g' : Gh:= ⟨fun x => if x = h.nx then b else g.bl x,fun x => if x = h.nx then arr.size else g.sz x,g.ad,fun x => if x = b then .blk h.nx else g.ow x⟩
  have hbl : ∀ x,x < h.nx → g'.bl x = g.bl x:= fun x hx => by show (if _ then _ else _) = _;rw [if_neg (by omega)]
  have hszl : ∀ x,x < h.nx → g'.sz x = g.sz x:= fun x hx => by show (if _ then _ else _) = _;rw [if_neg (by omega)]
  have hbl0 : g'.bl h.nx = b:= by show (if _ then _ else _) = _;rw [if_pos rfl]
  have hsz0 : g'.sz h.nx = arr.size:= by show (if _ then _ else _) = _;rw [if_pos rfl]
  have how : g'.ow b = .blk h.nx:= by show (if _ then _ else _) = _;rw [if_pos rfl]
  have how' : ∀ x,x ≠ b → g'.ow x = g.ow x:= fun x hx => by show (if _ then _ else _) = _;rw [if_neg hx]
  have hb:= r.ow b (by rw [hq];simp)
  have e : Ext N B0 w g h (w.setRow b arr') g' (h.new cs):= by
    refine ⟨by simp [Hp.new],hbl,hszl,fun i hi n' s hn' => ⟨n',hn',Nat.le_refl _,fun _ => rfl⟩,fun x o v hc hcell => ?_⟩
    have hx : x ≠ b:= by
      rintro rfl
      exact hc.1 (by unfold wr;rw [hq];trivial)
    refine ⟨⟨fun hw => hc.1 ?_,hc.2⟩,by rw [cell_setRow_other _ hx];exact hcell⟩
    unfold wr at hw ⊢
    rw [how' x hx] at hw
    exact hw
  refine ⟨g',⟨⟨r.base,r.bel.trans (below_setRow hb.1 _),fun x hx => ?_,fun p ps hp => ?_,fun i n' s hn' => ?_⟩,e⟩,hbl0,hsz0⟩
  · by_cases hxb : x = b
    · subst hxb;exact ⟨hb.1,by simpa using hb.2⟩
    · rw [how' x hxb] at hx
      have:= r.ow x hx
      exact ⟨this.1,by simpa using this.2⟩
  · by_cases hpn : p = h.nx
    · subst hpn
      have hps : cs = ps:= by simpa [Hp.new] using hp
      subst hps
      rw [hbl0,hsz0]
      exact ⟨by simp [Hp.new],how,arr',ty,setRow_heap w _ arr _ ty _ harr,hsz,by omega,fun i v c hi hc => (hv i v c hi hc).ext N B0 e,hn⟩
    · have hp' : h.hp p = some ps:= by simpa [Hp.new,hpn] using hp
      obtain ⟨k1,k2,a3,t3,k3,ks3,k4,k5,k6⟩:= r.blk p ps hp'
      have hne : g.bl p ≠ b:= fun he => by
        rw [he,hq] at k2
        injection k2 with k2
        rw [← k2,hd] at hp'
        cases hp'
      exact ⟨by simp [Hp.new];omega,by rw [hbl p k1,how' _ hne];exact k2,a3,t3,by rw [hbl p k1,setRow_other _ _ _ _ hne];exact k3,by rw [hszl p k1];exact ks3,k4,fun i v c hi hc => (k5 i v c hi hc).ext N B0 e,k6⟩
  · have hn'' : h.ap i = some (n',s):= hn'
    obtain ⟨j1,j2,j3⟩:= r.app i n' s hn''
    refine ⟨by simp [Hp.new];omega,j2,fun hlt => ?_⟩
    obtain ⟨x,a3,t3,q1,q2,q3,q4⟩:= j3 hlt
    have hne : x ≠ b:= fun he => by rw [he,hq] at q2;cases q2
    exact ⟨x,a3,t3,q1,by rw [how' _ hne];exact q2,by rw [setRow_other _ _ _ _ hne];exact q3,q4⟩
theorem RowsOk.flat {xs news zs : List Value} {cs : List AV} {more : List (List AV)} {sz : Nat} (hsz0 : 0 < sz) (hx : xs.length = cs.length) (hv : ∀ (i : Nat) v c,xs[i]? = some v → cs[i]? = some c → RV w C g h v c)
    (hl : news.length = more.length * sz) (ok : RowsOk w C g h news.toArray more sz) : ∀ (i : Nat) v c,(xs ++ news ++ zs)[i]? = some v → (cs ++ more.flatten)[i]? = some c → RV w C g h v c:= by
  intro i v c hi hc
  obtain ⟨f1,f2⟩:= flatten_spec ok.len
  by_cases h1 : i < cs.length
  · rw [List.getElem?_append_left h1] at hc
    rw [List.append_assoc,List.getElem?_append_left (by omega)] at hi
    exact hv i v c hi hc
  · rw [List.getElem?_append_right (by omega)] at hc
    have h2 : i - cs.length < more.length * sz:= f1 ▸ (List.getElem?_eq_some_iff.1 hc).1
    rw [List.append_assoc,List.getElem?_append_right (by omega),List.getElem?_append_left (by omega)] at hi
    obtain ⟨e,hlt⟩:= split_idx (k:= i - cs.length) hsz0
    rw [hx] at hi
    rw [e] at hi hc
    obtain ⟨row,k1,k2⟩:= f2 _ _ c hlt hc
    exact ok.cell _ _ v row c (by simpa using hi) k1 k2
theorem RowsOk.flat_nc {news : List Value} {cs : List AV} {more : List (List AV)} {sz : Nat} (hn : ∀ c ∈ cs,notCell c = false) (ok : RowsOk w C g h news.toArray more sz) : ∀ c ∈ cs ++ more.flatten,notCell c = false:= by
  intro c hc
  rcases List.mem_append.1 hc with hc | hc
  · exact hn c hc
  · obtain ⟨row,k1,k2⟩:= List.mem_flatten.1 hc
    exact ok.nc row k1 c k2
theorem op_append_sl {a : Act} {o : Oper} {c : Call} {x y : Operand} {t u e : TypeId} {i : TypeInfo} {z : Value} {sz q len : Nat} {X : AV} {cs0 cs : List AV} {more : List (List AV)} (r : Rel N B0 w0 w g h) (ho : o.op = .call c) (hb : c.callee = .builtin .append) (ha : c.args = #[x,y])
    (T : AppT P c.argTypes t u e i z sz) (hx : RV w (CC N B0 g) g h (a.eval x) (.sl q 0 len sz)) (hq : h.hp q = some cs0) (hct : cs = cs0.take (len * sz)) (hcl : cs.length = len * sz) (hy : RV w (CC N B0 g) g h (a.eval y) X) (hr : rowsIn h sz X = some more) (hh : headLen sz more = true) (hroom : (len + more.length) * i.bytes ≤ room) :
    OpOk P N B0 w0 w g h a o (.sl h.nx 0 (len + more.length) sz) ((h.kill q).new (cs ++ more.flatten)):= by
  obtain ⟨news,S⟩:= src_of (P:= P) r T.hsz0 hy hr hh
  obtain ⟨hqn,cap,hcap,ev,hsz⟩:= hx.sl_inv
  obtain ⟨h1,h2,arr,ty,h3,hs3,h40,h50,h60⟩:= r.blk q cs0 hq
  have h4 : cs.length ≤ arr.size:= by rw [hct,List.length_take];omega
  have h5 : ∀ (i : Nat) v c,arr[i]? = some v → cs[i]? = some c → RV w (CC N B0 g) g h v c:= fun i v c hi hc => h50 i v c hi (by
    rw [hct,List.getElem?_take] at hc
    split at hc
    · exact hc
    · cases hc)
  have h6 : ∀ c ∈ cs,notCell c = false:= fun c hc => h60 c (List.mem_of_mem_take (by rw [hct] at hc;exact hc))
  obtain ⟨rk,ek⟩:= r.kill q
  have hkd : (h.kill q).hp q = none:= by simp [Hp.kill]
  have f1:= (flatten_spec S.ok.len).1
  have hnx : (h.kill q).nx = h.nx:= rfl
  have hold : ∀ (i : Nat) v c,(arr.toList.take (len * sz))[i]? = some v → cs[i]? = some c → RV w (CC N B0 g) g h v c:= fun i v c hi hc => by
    rw [List.getElem?_take] at hi
    split at hi
    · exact h5 i v c (by simpa using hi) hc
    · cases hi
  have htl : (arr.toList.take (len * sz)).length = cs.length:= by simp;omega
  by_cases hrm : len + more.length ≤ cap
  · have hfit : len * sz + news.length ≤ arr.size:= by
      rw [S.len,← Nat.add_mul,hs3]
      have : (len + more.length) * sz ≤ cap * sz:= Nat.mul_le_mul_right _ hrm
      omega
    obtain ⟨g',hn,hb1,hb2⟩:= rk.reown (arr':= over arr (len * sz) news) h2 hkd h3 (over_size _ _ _ hfit) (cs ++ more.flatten) (by rw [List.length_append,f1,hcl,← S.len];exact hfit)
      (fun i v c hi hc => (RowsOk.flat (zs:= arr.toList.drop (len * sz + news.length)) T.hsz0 htl hold S.len S.ok i v c (by simpa [over] using hi) hc).ext N B0 ek) (RowsOk.flat_nc h6 S.ok)
    refine opOk_run (v':= .slice (some ⟨g.bl q,0,none⟩) (len + more.length) cap) (exec_append ho hb ha ?_) ⟨hn.rel,ek.trans N B0 hn.ext⟩ ?_
    · rw [ev,T.args]
      have one:= one_of_rowsOk T.hsz0 S.len S.ok
      have hst:= run_storeCells_at P (g.bl q) (len * sz) ty news 0 arr w h3 (by simpa using hfit) one
      simp only [Nat.add_zero] at hst
      have:= run_appendRoom (P:= P) (w:= w) (ty:= o.type) T.ht T.hu T.hi (S.lenOf w) (by rw [T.hsz];exact S.first w (fun _ => rfl)) (some (g.bl q)) (sLen:= len) (sCap:= cap) hrm (w.setRow (g.bl q) (over arr (len * sz) news))
        (fun b' hb' => by
          injection hb' with hb'
          subst hb'
          rw [Addr.add_lit,T.hsz,Nat.zero_add]
          exact hst) (fun hb' => by cases hb')
      exact this
    · rw [← hb1,← hnx]
      exact .sl _ _ _ _ _ (by simp [Hp.new]) hrm (by rw [hb2,hs3];exact hsz)
  · obtain ⟨rd,ed⟩:= rk.drew
    have hl0 : len * sz ≤ arr.size:= by omega
    have hrun:= run_appendGrow (P:= P) (w:= w) (ty:= o.type) (olds:= arr.toList.take (len * sz)) (a:= some ⟨g.bl q,0,none⟩) (sLen:= len) (sCap:= cap) T.ht T.hu T.hi T.hz (S.lenOf w) (by rw [T.hsz];exact S.first w.drew (fun _ => rfl))
      (by
        rw [T.hsz]
        refine run_firstCells_some w.drew sz len _ _ _ _ (by rw [htl,hcl]) fun j v hj => ?_
        rw [Addr.add_lit,World.cell?_drew,cell_of_row _ _ _ _ _ _ h3]
        rw [List.getElem?_take] at hj
        split at hj
        · simpa using hj
        · cases hj) (by omega) hroom T.hby
    have hge:= grownCap_ge w (len + more.length) cap e
    have hsize : (len + more.length) * sz ≤ ((arr.toList.take (len * sz)).toArray ++ news.toArray ++ Builtin.zeroCells z.cells (grownCap w (len + more.length) cap e - (len + more.length))).size:= by
      simp only [Array.size_append,List.size_toArray,htl,hcl,S.len,Nat.add_mul];omega
    have hfull : (grownCap w (len + more.length) cap e) * sz ≤ ((arr.toList.take (len * sz)).toArray ++ news.toArray ++ Builtin.zeroCells z.cells (grownCap w (len + more.length) cap e - (len + more.length))).size:= by
      simp only [Array.size_append,List.size_toArray,htl,hcl,S.len,zeroCells_size,T.hzs,← Nat.add_mul]
      exact Nat.mul_le_mul_right _ (by omega)
    have earr : ((arr.toList.take (len * sz)).toArray ++ news.toArray ++ Builtin.zeroCells z.cells (grownCap w (len + more.length) cap e - (len + more.length))) = (arr.toList.take (len * sz) ++ news ++ (Builtin.zeroCells z.cells (grownCap w (len + more.length) cap e - (len + more.length))).toList).toArray:= by
      apply Array.ext';simp
    obtain ⟨g',hn,hb1,hb2⟩:= rd.new _ e (cs ++ more.flatten) (by rw [List.length_append,f1,hcl,← Nat.add_mul];exact hsize)
      (fun i v c hi hc => ((RowsOk.flat (zs:= (Builtin.zeroCells z.cells (grownCap w (len + more.length) cap e - (len + more.length))).toList) T.hsz0 htl hold S.len S.ok i v c (by rw [earr] at hi;simpa using hi) hc).ext N B0 ek).ext N B0 ed) (RowsOk.flat_nc h6 S.ok)
    refine opOk_run (exec_append ho hb ha (by rw [ev,T.args];exact hrun)) ⟨hn.rel,(ek.trans N B0 ed).trans N B0 hn.ext⟩ ?_
    rw [← hnx]
    have : w.heap.size = g'.bl (h.kill q).nx:= hb1.symm
    rw [this]
    exact .sl _ _ _ _ _ (by simp [Hp.new]) hge (by rw [hb2];omega)
theorem exec_builtin {a : Act} {o : Oper} {c : Call} {b : Builtin} {v : Value} (ho : o.op = .call c) (hb : c.callee = .builtin b)
    (hr : ∀ q,(builtin b c.argTypes o.type q (c.args.map a.eval)).run P w = .ok (.value v) w) : (execOp a.eval o).run P w = .ok (.value v) w:= by
  unfold execOp
  simp only [ho,resolve,hb,invoke,Sem.run_bind,Sem.run_pure,Result.andThen_ok]
  exact hr _
theorem op_len {a : Act} {o : Oper} {c : Call} {x : Operand} {t : TypeId} {v : Value} {n : Nat} (r : Rel N B0 w0 w g h) (ho : o.op = .call c) (hb : c.callee = .builtin .len) (ha : c.args = #[x]) (ht : c.argTypes[0]? = some t)
    (hx : a.eval x = v) (hk : (∃ s,kindT P t = .str ∧ v = .string s ∧ s.size = n) ∨ ∃ e ad cap,kindT P t = .slice e ∧ v = .slice ad n cap) : OpOk P N B0 w0 w g h a o (.int .i64 n) h:= by
  refine opOk_pure r (exec_builtin ho hb fun q => ?_) (RI.int' _ _)
  subst hx
  rw [ha]
  rcases hk with ⟨s,h1,h2,rfl⟩ | ⟨e,ad,cap,h1,h2⟩
  · simp [builtin,Builtin.len_,ht,h2,run_underlying (underlying_str h1),goInt]
  · simp [builtin,Builtin.len_,ht,h2,run_underlying (underlying_slice h1),goInt]
theorem run_max (k : IntKind) : ∀ (l : List AV) (vs : List Value) (n : Int) (v : AV),evMinMax (fun a b => if b > a then b else a) k n l = some v → vs.length = l.length → (∀ (i : Nat) u c,vs[i]? = some u → l[i]? = some c → RV w C g h u c) →
    ∃ m,v = .int k m ∧ (vs.foldlM Builtin.max2 (.int k n) : Sem Value).run P w = .ok (.int k m) w
  | [],[],n,v,hv,_,_ => by simp [evMinMax] at hv;exact ⟨n,hv.symm,by simp⟩
  | [],_ :: _,_,_,_,hl,_ => by simp at hl
  | _ :: _,[],_,_,_,hl,_ => by simp at hl
  | c :: l,u :: vs,n,v,hv,hl,hr => by
    have h0:= hr 0 u c rfl rfl
    cases c <;> simp only [evMinMax] at hv <;> try (simp at hv;done)
    rename_i k' m
    split at hv
    · rename_i hk;subst hk
      obtain rfl:= h0.int_inv
      obtain ⟨q,q1,q2⟩:= run_max k l vs _ v hv (by simpa using hl) (fun i u c h1 h2 => hr (i + 1) u c (by simpa using h1) (by simpa using h2))
      exact ⟨q,q1,by simp only [List.foldlM_cons,Builtin.max2,Sem.run_bind,Sem.run_pure,Result.andThen_ok];exact q2⟩
    · cases hv
theorem run_min (k : IntKind) : ∀ (l : List AV) (vs : List Value) (n : Int) (v : AV),evMinMax (fun a b => if b < a then b else a) k n l = some v → vs.length = l.length → (∀ (i : Nat) u c,vs[i]? = some u → l[i]? = some c → RV w C g h u c) →
    ∃ m,v = .int k m ∧ (vs.foldlM Builtin.min2 (.int k n) : Sem Value).run P w = .ok (.int k m) w
  | [],[],n,v,hv,_,_ => by simp [evMinMax] at hv;exact ⟨n,hv.symm,by simp⟩
  | [],_ :: _,_,_,_,hl,_ => by simp at hl
  | _ :: _,[],_,_,_,hl,_ => by simp at hl
  | c :: l,u :: vs,n,v,hv,hl,hr => by
    have h0:= hr 0 u c rfl rfl
    cases c <;> simp only [evMinMax] at hv <;> try (simp at hv;done)
    rename_i k' m
    split at hv
    · rename_i hk;subst hk
      obtain rfl:= h0.int_inv
      obtain ⟨q,q1,q2⟩:= run_min k l vs _ v hv (by simpa using hl) (fun i u c h1 h2 => hr (i + 1) u c (by simpa using h1) (by simpa using h2))
      exact ⟨q,q1,by simp only [List.foldlM_cons,Builtin.min2,Sem.run_bind,Sem.run_pure,Result.andThen_ok];exact q2⟩
    · cases hv
theorem op_minmax {a : Act} {o : Oper} {c : Call} {x : Operand} {xs : List Operand} {k : IntKind} {n : Int} {l : List AV} {v : AV} {st : Operand → AV} (r : Rel N B0 w0 w g h) (ho : o.op = .call c) (ha : c.args.toList = x :: xs) (hst : ∀ o,RV w (CC N B0 g) g h (a.eval o) (st o))
    (hx : st x = .int k n) (hl : xs.map st = l)
    (hv : (c.callee = .builtin .max ∧ evMinMax (fun a b => if b > a then b else a) k n l = some v) ∨ (c.callee = .builtin .min ∧ evMinMax (fun a b => if b < a then b else a) k n l = some v)) : OpOk P N B0 w0 w g h a o v h:= by
  have e0 : a.eval x = .int k n:= by have:= hst x;rw [hx] at this;exact this.int_inv
  have eargs : (c.args.map a.eval).toList = a.eval x :: xs.map a.eval:= by rw [Array.toList_map,ha];rfl
  have hrel : ∀ (i : Nat) u c,(xs.map a.eval)[i]? = some u → l[i]? = some c → RV w (CC N B0 g) g h u c:= fun i u c h1 h2 => by
    subst hl
    simp only [List.getElem?_map,Option.map_eq_some_iff] at h1 h2
    obtain ⟨q,q1,rfl⟩:= h1
    obtain ⟨q',q2,rfl⟩:= h2
    rw [q1] at q2;injection q2 with q2;subst q2
    exact hst q
  rcases hv with ⟨hb,hv⟩ | ⟨hb,hv⟩
  · obtain ⟨m,rfl,hm⟩:= run_max (P:= P) (w:= w) (C:= CC N B0 g) (g:= g) (h:= h) k l (xs.map a.eval) n v hv (by subst hl;simp) hrel
    refine opOk_pure r (exec_builtin ho hb fun q => ?_) (RI.int' _ _)
    simp only [builtin,Builtin.max_,eargs,e0,Sem.run_bind,hm,Result.andThen_ok,Sem.run_pure]
  · obtain ⟨m,rfl,hm⟩:= run_min (P:= P) (w:= w) (C:= CC N B0 g) (g:= g) (h:= h) k l (xs.map a.eval) n v hv (by subst hl;simp) hrel
    refine opOk_pure r (exec_builtin ho hb fun q => ?_) (RI.int' _ _)
    simp only [builtin,Builtin.min_,eargs,e0,Sem.run_bind,hm,Result.andThen_ok,Sem.run_pure]
end Go.Ev
namespace Go.Ev
open Go Go.RowKit
variable {N : Nat → Nat → Prop} {B0 : Nat} {w0 w : World} {g : Gh} {h : Hp} {P : Program} {C : Nat → Nat → Prop}
theorem foldl_push (ns : List Int) : ∀ s : ByteArray,(ns.foldl (fun r n => r.push (UInt8.ofNat n.toNat)) s).data.toList = s.data.toList ++ ns.map (fun n => UInt8.ofNat n.toNat):= by
  induction ns with
  | nil => intro s;simp
  | cons n ns ih => intro s;rw [List.foldl_cons,ih];simp
theorem rowsBytes_spec : ∀ {rows : List (List AV)} {s : List UInt8},rowsBytes rows = some s → ∃ ns : List Int,rows = ns.map (fun n => [AV.int .u8 n]) ∧ s = ns.map (fun n => UInt8.ofNat n.toNat)
  | [],s,h => by simp [rowsBytes] at h;subst h;exact ⟨[],rfl,rfl⟩
  | r :: rows,s,h => by
    simp only [rowsBytes,Option.bind_eq_some_iff,Option.map_eq_some_iff] at h
    obtain ⟨c,h1,l,h2,rfl⟩:= h
    obtain ⟨ns,rfl,rfl⟩:= rowsBytes_spec h2
    unfold rowByte at h1
    split at h1
    · rename_i n
      injection h1 with h1
      subst h1
      exact ⟨n :: ns,rfl,rfl⟩
    · cases h1
theorem op_convert_b2s {a : Act} {o : Oper} {s d e : TypeId} {x : Operand} {X : AV} {rows : List (List AV)} {l : List UInt8} (r : Rel N B0 w0 w g h) (ho : o.op = .convert s d x) (h1 : kindT P s = .slice e) (he : kindT P e = .int .u8) (h2 : kindT P d = .str)
    (hx : RV w (CC N B0 g) g h (a.eval x) X) (hv : ∃ ad len cap,a.eval x = .slice ad len cap) (hr : rowsIn h 1 X = some rows) (hl : rowsBytes rows = some l) : OpOk P N B0 w0 w g h a o (.str l) h:= by
  obtain ⟨ns,rfl,rfl⟩:= rowsBytes_spec hl
  obtain ⟨news,S⟩:= src_of (P:= P) r (by decide : 0 < 1) hx hr (by cases ns <;> rfl)
  obtain ⟨ad,len,cap,ev⟩:= hv
  have hlen : len = ns.length:= by
    have:= S.lenOf w
    rw [ev] at this
    simpa [Builtin.lenOf] using this
  subst hlen
  have hnews : news = ns.map (Value.int .u8):= by
    apply List.ext_getElem?
    intro i
    by_cases hi : i < ns.length
    · have hi2 : i < news.length:= by rw [S.len];simpa using hi
      have:= S.ok.cell i 0 news[i] [.int .u8 ns[i]] (.int .u8 ns[i]) (by simp) (by simp [hi]) rfl
      rw [List.getElem?_eq_getElem hi2,this.int_inv]
      simp [hi]
    · rw [List.getElem?_eq_none (by rw [S.len];simp;omega),List.getElem?_eq_none (by simp;omega)]
  have hconv:= run_convert_bytes_string (P:= P) w s d e ad ns.length cap (underlying_slice h1) (underlying_int he) (underlying_str h2)
  cases ad with
  | none =>
    have h0 : ns = []:= by
      have:= S.first w (fun _ => rfl)
      rw [ev] at this
      have hz : news = []:= by simpa [Builtin.firstCells] using this
      rw [hnews] at hz
      simpa using hz
    subst h0
    refine opOk_pure r (v':= .string .empty) ?_ (RI.str' (by simp))
    simp [execOp,ho,ev] at hconv ⊢
    simp [hconv,Conv.bytesToString]
  | some ad =>
    have hload : (loadCells ad ns.length).run P w = .ok (ns.map (Value.int .u8)).toArray w:= by
      have:= S.first w (fun _ => rfl)
      rw [ev,hnews] at this
      simpa [Builtin.firstCells] using this
    have hb:= run_bytesToString (P:= P) w ad ns.length cap ns hload
    refine opOk_pure r (v':= .string (ns.foldl (fun r n => r.push (UInt8.ofNat n.toNat)) ByteArray.empty)) ?_ (RI.str' (by rw [foldl_push];simp))
    simp [execOp,ho,ev,hconv,hb]
theorem op_convert_s2b {a : Act} {o : Oper} {s d e : TypeId} {x : Operand} {l : List UInt8} (r : Rel N B0 w0 w g h) (ho : o.op = .convert s d x) (h1 : kindT P s = .str) (h2 : kindT P d = .slice e) (he : kindT P e = .int .u8)
    (hx : RV w (CC N B0 g) g h (a.eval x) (.str l)) : OpOk P N B0 w0 w g h a o (.imm (l.map byteRow)) h:= by
  obtain ⟨b,ev,rfl⟩:= hx.str_inv
  have hrun:= Lib.run_convert_string_bytes (P:= P) w s d e b (underlying_str h1) (underlying_slice h2) (underlying_int he)
  have hbel : Below w.heap.size w (Lib.bytesWorld w e b):= ⟨rfl,rfl,rfl,by rw [Lib.bytesWorld_size];omega,fun k hk => Lib.bytesWorld_at_old w e b k hk⟩
  refine opOk_run (v':= .slice (some ⟨w.heap.size,0,none⟩) b.size (grownCap w b.size 0 e)) (by simp [execOp,ho,ev,hrun]) (r.below hbel) (.ri ?_)
  have hlen : b.data.toList.length = b.size:= by simp
  by_cases h0 : b.size = 0
  · have : b.data.toList = []:= List.eq_nil_of_length_eq_zero (by rw [hlen,h0])
    rw [this,h0]
    exact .slE _ _
  · refine .sl w.heap.size 0 b.size _ 1 _ (fun i _ => .int .u8 (b.data.toList.getD i 0).toNat) (by simp) (grownCap_ge w b.size 0 e) (fun row hr => ?_) (fun i j hi hj => ?_) fun i j row c hi hj => ?_
    · simp only [List.mem_map] at hr
      obtain ⟨q,_,rfl⟩:= hr
      rfl
    · obtain rfl : j = 0:= by omega
      refine ⟨⟨fun hw => ?_,fun hb => absurd hb (by have:= r.hB;omega)⟩,?_⟩
      · have : g.ow w.heap.size = .no:= by
          cases hh : g.ow w.heap.size with
          | no => rfl
          | _ => exact absurd (r.ow w.heap.size (by rw [hh];simp)).2 (by omega)
        unfold wr at hw
        rw [this] at hw
        exact hw
      · simp only [Nat.mul_one,Nat.zero_add,Nat.add_zero]
        exact Lib.bytesWorld_cell w e b i hi
    · simp only [List.getElem?_map,Option.map_eq_some_iff] at hi
      obtain ⟨q,hq,rfl⟩:= hi
      cases j with
      | zero =>
        simp only [byteRow,List.getElem?_cons_zero,Option.some.injEq] at hj
        subst hj
        rw [show b.data.toList.getD i 0 = q by simp [List.getD,hq]]
        exact .int _ _
      | succ j => simp [byteRow] at hj
def Enters (P : Program) (f : FuncId) : Prop:= ∀ (args : Array Value) (w : World),(callFunc f args).run P w = .ok (.enter f args) w
theorem enters_of {f : FuncId} {fn : Func} (hf : P.funcs[f]? = some fn) (hn : (fn.name == "runtime.NumGoroutine") = false) (hb : fn.body.isSome = true) : Enters P f := by
  intro args w
  have hn' : fn.name ≠ "runtime.NumGoroutine" := by simpa using hn
  have hb' : fn.body ≠ none:= fun e => by rw [e] at hb;cases hb
  simp [callFunc,hf,hn',hb']
theorem exec_call {a : Act} {o : Oper} {c : Call} {f : FuncId} (ho : o.op = .call c) (hc : c.callee = .value (.func f)) (hf : Enters P f) : (execOp a.eval o).run P w = .ok (.enter f (c.args.map a.eval)) w:= by
  unfold execOp
  simp only [ho,resolve,hc,Act.eval,Deferred.ofValue,invoke,Sem.run_bind,Sem.run_pure,Result.andThen_ok,Array.empty_append,Array.append_empty]
  exact hf _ w
def RA (w : World) (C : Nat → Nat → Prop) (v : Value) (t : AV) : Prop:= RV w C ⟨fun _ => 0,fun _ => 0,fun _ => (none,0),fun _ => .no⟩ Hp.empty v t
theorem RA.up {v : Value} {t : AV} {w' : World} {C' : Nat → Nat → Prop} (hC : ∀ b o v,C b o → w.cell? ⟨b,o,none⟩ = some v → C' b o ∧ w'.cell? ⟨b,o,none⟩ = some v) (hr : RA w C v t) : RV w' C' g h v t:= by
  unfold RA at hr
  induction hr with
  | unk v => exact .unk v
  | ri hr => exact .ri (hr.mono hC)
  | snil => exact .snil
  | semp a => exact .semp a
  | ptr r off hr => exact absurd hr (by simp [Hp.empty])
  | cptr b off cs vals hcell =>
    exact .cptr b off cs vals fun j c hj => by
      obtain ⟨h1,h2,h3⟩:= hcell j c hj
      obtain ⟨k1,k2⟩:= hC _ _ _ h1 h2
      exact ⟨k1,k2,h3.mono hC⟩
  | app id rows hid => exact absurd hid (by simp [Hp.empty])
  | sl r off len cap sz hr => exact absurd hr (by simp [Hp.empty])
  | agg arr cs hl hc _ ih => exact .agg arr cs hl hc ih
  | tup arr vs hl _ ih => exact .tup arr vs hl ih
  | ifc t v x _ ih => exact .ifc t v x ih
theorem notCell_frz {c c' : AV} (hf : frzCell c = some c') : notCell c' = false:= by
  cases c <;> simp only [frzCell] at hf <;> first | (simp at hf;done) | (injection hf with hf;subst hf;rfl)
theorem RV.frzA {v : Value} {x x' : AV} (hr : RV w C g h v x) (hf : Ev.frz x = some x') : RA w C v x':= by
  cases x with
  | agg cs =>
    simp only [Ev.frz,Option.map_eq_some_iff] at hf
    obtain ⟨cs',h1,rfl⟩:= hf
    obtain ⟨arr,rfl,k1,_,k3⟩:= hr.agg_inv
    obtain ⟨f1,f2⟩:= frzCells_spec h1
    refine .agg arr cs' (by omega) (fun c hc => ?_) fun i v c hi hc => ?_
    · obtain ⟨j,hj⟩:= List.getElem?_of_mem hc
      obtain ⟨d,_,d2⟩:= f2 j c hj
      exact notCell_frz d2
    · obtain ⟨d,d1,d2⟩:= f2 i c hc
      exact .ri ((k3 i v d hi d1).frz d2)
  | tup vs => simp [Ev.frz] at hf
  | _ => exact .ri (hr.frz hf)
def Stable (WI : World → Prop) : Prop:= ∀ w w' : World,Below w.heap.size w w' → WI w → WI w'
def PureOK (P : Program) (WI : World → Prop) (f : FuncId) (F : List AV → Option AV) : Prop:=
  Enters P f ∧ ∀ (w : World) (C : Nat → Nat → Prop) (vs : Array Value) (ts : List AV) (t : AV),WI w → vs.size = ts.length → (∀ (i : Nat) v c,vs[i]? = some v → ts[i]? = some c → RA w C v c) → F ts = some t →
    Calls P f vs w fun e w' => ∃ v,e = .returned v ∧ Below w.heap.size w w' ∧ RA w' (fun b o => C b o ∨ w.heap.size ≤ b) v t
theorem frzAll_spec : ∀ {l l' : List AV},frzAll l = some l' → l'.length = l.length ∧ ∀ (j : Nat) c',l'[j]? = some c' → ∃ c,l[j]? = some c ∧ frz c = some c'
  | [],l',h => by simp [frzAll] at h;subst h;exact ⟨rfl,fun j c' hj => by simp at hj⟩
  | c :: r,l',h => by
    simp only [frzAll,Option.bind_eq_some_iff,Option.map_eq_some_iff] at h
    obtain ⟨c',h1,r',h2,rfl⟩:= h
    obtain ⟨k1,k2⟩:= frzAll_spec h2
    refine ⟨by simp [k1],fun j d hj => ?_⟩
    cases j with
    | zero => simp at hj;subst hj;exact ⟨c,rfl,h1⟩
    | succ j => simpa using k2 j d (by simpa using hj)
theorem ow_new (r : Rel N B0 w0 w g h) {b : Nat} (hb : w.heap.size ≤ b) : g.ow b = .no:= by
  cases hh : g.ow b with
  | no => rfl
  | _ => exact absurd (r.ow b (by rw [hh];simp)).2 (by omega)
def FrV (w w' : World) (C : Nat → Nat → Prop) (sz : Nat) (rows : List (List AV)) (v : Value) : Prop:=
  (∀ row ∈ rows,row.length = sz) ∧ ∃ (a : Option Nat) (cap : Nat),v = .slice (a.map fun b => ⟨b,0,none⟩) rows.length cap ∧ rows.length ≤ cap ∧
    (rows.length < cap → ∃ b arr ty,a = some b ∧ w.heap.size ≤ b ∧ w'.heap[b]? = some (.cells arr ty (0,0)) ∧ cap * sz ≤ arr.size) ∧
    RI w' (fun b o => (C b o ∨ w.heap.size ≤ b) ∧ (rows.length < cap → a = some b → o < rows.length * sz)) v (.imm rows)
def FreshOK (P : Program) (WI : World → Prop) (f : FuncId) (F : List AV → Option AV) : Prop:=
  Enters P f ∧ ∀ (w : World) (C : Nat → Nat → Prop) (vs : Array Value) (ts : List AV) (t : AV),WI w → vs.size = ts.length → (∀ (i : Nat) v c,vs[i]? = some v → ts[i]? = some c → RA w C v c) → F ts = some t →
    Calls P f vs w fun e w' => ∃ v sz rows,e = .returned v ∧ Below w.heap.size w w' ∧ t = .app sz rows ∧ FrV w w' C sz rows v
def PureB (P : Program) (WI : World → Prop) (b : Bool) (f : FuncId) (F : List AV → Option AV) : Prop:= if b then FreshOK P WI f F else PureOK P WI f F
theorem Rel.adopt (r : Rel N B0 w0 w g h) {w' : World} (hb : Below w.heap.size w w') {sz : Nat} {rows : List (List AV)} {v : Value} (hv : FrV w w' (CC N B0 g) sz rows v) :
    ∃ g',Next N B0 w0 w g h w' g' (h.newApp rows.length sz) ∧ RV w' (CC N B0 g') g' (h.newApp rows.length sz) v (.app h.nx rows):= by
  obtain ⟨hsz,a,cap,rfl,hc,hcap,hri⟩:= hv
  have hB:= r.hB
  let x : Own:= if rows.length < cap then .app h.nx (rows.length * sz) else .no
  let g' : Gh:= ⟨g.bl,g.sz,fun q => if q = h.nx then (a,cap) else g.ad q,fun b => if rows.length < cap ∧ a = some b then .app h.nx (rows.length * sz) else g.ow b⟩
  have had : ∀ q,q < h.nx → g'.ad q = g.ad q:= fun q hq => by show (if q = h.nx then _ else _) = _;rw [if_neg (by omega)]
  have had0 : g'.ad h.nx = (a,cap):= by show (if h.nx = h.nx then _ else _) = _;rw [if_pos rfl]
  have hap : ∀ q,q < h.nx → (h.newApp rows.length sz).ap q = h.ap q:= fun q hq => by show (if q = h.nx then _ else _) = _;rw [if_neg (by omega)]
  have hap0 : (h.newApp rows.length sz).ap h.nx = some (rows.length,sz):= by show (if h.nx = h.nx then _ else _) = _;rw [if_pos rfl]
  have hbig : ∀ b,rows.length < cap → a = some b → w.heap.size ≤ b:= fun b h1 h2 => by
    obtain ⟨b',_,_,k1,k2,_⟩:= hcap h1
    rw [h2] at k1
    injection k1 with k1
    omega
  have how : ∀ b,b < w.heap.size → g'.ow b = g.ow b:= fun b hb' => by
    show (if _ then _ else _) = _
    rw [if_neg]
    rintro ⟨h1,h2⟩
    have:= hbig b h1 h2
    omega
  have hwr : ∀ b o,b < w.heap.size → (wr g'.ow b o ↔ wr g.ow b o):= fun b o hb' => by unfold wr;rw [how b hb']
  have e : Ext N B0 w g h w' g' (h.newApp rows.length sz):= by
    refine ⟨by simp [Hp.newApp],fun _ _ => rfl,fun _ _ => rfl,fun id hid n' s hn => ⟨n',(hap id hid) ▸ hn,Nat.le_refl _,fun _ => had id hid⟩,fun b o v hcc hcell => ?_⟩
    have hlt:= block_of_cell hcell
    exact ⟨⟨fun hw => hcc.1 ((hwr b o hlt).1 hw),hcc.2⟩,by rw [hb.cell (p:= ⟨b,o,none⟩) hlt];exact hcell⟩
  have hC : ∀ b o,((CC N B0 g b o ∨ w.heap.size ≤ b) ∧ (rows.length < cap → a = some b → o < rows.length * sz)) → CC N B0 g' b o:= fun b o ⟨h1,h2⟩ => by
    refine ⟨fun hw => ?_,fun hb' => ?_⟩
    · by_cases hq : rows.length < cap ∧ a = some b
      · have hob : g'.ow b = .app h.nx (rows.length * sz):= by show (if _ then _ else _) = _;rw [if_pos hq]
        unfold wr at hw
        rw [hob] at hw
        have:= h2 hq.1 hq.2
        simp only at hw
        omega
      · have hob : g'.ow b = g.ow b:= by show (if _ then _ else _) = _;rw [if_neg hq]
        rcases h1 with h1 | h1
        · exact h1.1 (by unfold wr at hw ⊢;rw [hob] at hw;exact hw)
        · unfold wr at hw
          rw [hob,ow_new r h1] at hw
          exact hw
    · rcases h1 with h1 | h1
      · exact h1.2 hb'
      · omega
  have hn:= r.below hb
  refine ⟨g',⟨⟨r.base,hn.rel.bel,fun b hb' => ?_,fun q qs hq => ?_,fun id n s hid => ?_⟩,e⟩,?_⟩
  · by_cases hq : rows.length < cap ∧ a = some b
    · obtain ⟨b',arr,ty,k1,k2,k3,_⟩:= hcap hq.1
      rw [hq.2] at k1
      injection k1 with k1
      subst k1
      exact ⟨by omega,(Array.getElem?_eq_some_iff.1 k3).1⟩
    · have hob : g'.ow b = g.ow b:= by show (if _ then _ else _) = _;rw [if_neg hq]
      exact hn.rel.ow b (by rw [← hob];exact hb')
  · have hq' : h.hp q = some qs:= hq
    obtain ⟨h1,h2,arr,ty,h3,hs3,h4,h5,h6⟩:= r.blk q qs hq'
    have hlt:= (r.ow (g.bl q) (by rw [h2];simp)).2
    exact ⟨by simp [Hp.newApp];omega,by show g'.ow (g.bl q) = _;rw [how _ hlt];exact h2,arr,ty,by show w'.heap[g.bl q]? = _;rw [hb.block _ hlt];exact h3,hs3,h4,fun i v c hi hc => (h5 i v c hi hc).ext N B0 e,h6⟩
  · by_cases hidn : id = h.nx
    · subst hidn
      rw [hap0] at hid
      simp only [Option.some.injEq,Prod.mk.injEq] at hid
      obtain ⟨rfl,rfl⟩:= hid
      rw [had0]
      refine ⟨by simp [Hp.newApp],hc,fun hlt => ?_⟩
      obtain ⟨b,arr,ty,k1,k2,k3,k4⟩:= hcap hlt
      exact ⟨b,arr,ty,k1,by show (if _ then _ else _) = _;rw [if_pos ⟨hlt,k1⟩],k3,k4⟩
    · have hid' : h.ap id = some (n,s):= by simpa [Hp.newApp,hidn] using hid
      obtain ⟨h1,h2,h3⟩:= r.app id n s hid'
      rw [had id h1]
      refine ⟨by simp [Hp.newApp];omega,h2,fun hlt => ?_⟩
      obtain ⟨b,arr,ty,k1,k2,k3,k4⟩:= h3 hlt
      have hb':= (r.ow b (by rw [k2];simp)).2
      exact ⟨b,arr,ty,k1,by rw [how b hb'];exact k2,by rw [hb.block _ hb'];exact k3,k4⟩
  · refine .app h.nx rows (by simp [Hp.newApp]) (hri.mono fun b o v h1 h2 => ⟨hC b o h1,h2⟩) fun n s hn' => ?_
    rw [hap0] at hn'
    simp only [Option.some.injEq,Prod.mk.injEq] at hn'
    obtain ⟨rfl,rfl⟩:= hn'
    exact ⟨hsz,Nat.le_refl _,fun _ => by rw [Gh.head,had0]⟩
theorem op_call_pure {WI : World → Prop} {a : Act} {o : Oper} {c : Call} {f : FuncId} {F : List AV → Option AV} {ts : List AV} {t : AV} {st : Operand → AV} (r : Rel N B0 w0 w g h) (ho : o.op = .call c) (hc : c.callee = .value (.func f))
    (hF : PureOK P WI f F) (hwi : WI w) (hst : ∀ o,RV w (CC N B0 g) g h (a.eval o) (st o)) (hf : frzAll (c.args.toList.map st) = some ts) (ht : F ts = some t) : OpOk P N B0 w0 w g h a o t h:= by
  obtain ⟨f1,f2⟩:= frzAll_spec hf
  have hargs : ∀ (i : Nat) v x,(c.args.map a.eval)[i]? = some v → ts[i]? = some x → RA w (CC N B0 g) v x:= fun i v x hi hx => by
    obtain ⟨d,d1,d2⟩:= f2 i x hx
    simp only [List.getElem?_map,Option.map_eq_some_iff,Array.getElem?_toList] at d1
    obtain ⟨q,q1,rfl⟩:= d1
    simp only [Array.getElem?_map,q1,Option.map_some,Option.some.injEq] at hi
    subst hi
    exact (hst q).frzA d2
  have hcalls:= hF.2 w (CC N B0 g) (c.args.map a.eval) ts t hwi (by simp [f1]) hargs ht
  intro K Q hk
  unfold Oper.wp
  rw [exec_call ho hc hF.1]
  refine hcalls.mono ?_
  rintro e w' ⟨v,rfl,hb,hv⟩
  have hn:= r.below hb
  refine hk v w' g hn (hv.up fun b o u hcc hcell => ⟨?_,hcell⟩)
  rcases hcc with hcc | hcc
  · exact hcc
  · exact ⟨fun hw => by unfold wr at hw;rw [ow_new r hcc] at hw;exact hw,fun hb' => absurd hb' (by have:= r.hB;omega)⟩
theorem op_call_fresh {WI : World → Prop} {a : Act} {o : Oper} {c : Call} {f : FuncId} {F : List AV → Option AV} {ts : List AV} {t : AV} {st : Operand → AV} (r : Rel N B0 w0 w g h) (ho : o.op = .call c) (hc : c.callee = .value (.func f))
    (hF : FreshOK P WI f F) (hwi : WI w) (hst : ∀ o,RV w (CC N B0 g) g h (a.eval o) (st o)) (hf : frzAll (c.args.toList.map st) = some ts) (ht : F ts = some t) : OpOk P N B0 w0 w g h a o (thaw true t h).1 (thaw true t h).2:= by
  obtain ⟨f1,f2⟩:= frzAll_spec hf
  have hargs : ∀ (i : Nat) v x,(c.args.map a.eval)[i]? = some v → ts[i]? = some x → RA w (CC N B0 g) v x:= fun i v x hi hx => by
    obtain ⟨d,d1,d2⟩:= f2 i x hx
    simp only [List.getElem?_map,Option.map_eq_some_iff,Array.getElem?_toList] at d1
    obtain ⟨q,q1,rfl⟩:= d1
    simp only [Array.getElem?_map,q1,Option.map_some,Option.some.injEq] at hi
    subst hi
    exact (hst q).frzA d2
  have hcalls:= hF.2 w (CC N B0 g) (c.args.map a.eval) ts t hwi (by simp [f1]) hargs ht
  intro K Q hk
  unfold Oper.wp
  rw [exec_call ho hc hF.1]
  refine hcalls.mono ?_
  rintro e w' ⟨v,sz,rows,rfl,hb,rfl,hv⟩
  obtain ⟨g',hn,hr⟩:= r.adopt hb hv
  exact hk v w' g' hn hr
theorem op_call_b {WI : World → Prop} {b : Bool} {a : Act} {o : Oper} {c : Call} {f : FuncId} {F : List AV → Option AV} {ts : List AV} {t : AV} {st : Operand → AV} (r : Rel N B0 w0 w g h) (ho : o.op = .call c) (hc : c.callee = .value (.func f))
    (hF : PureB P WI b f F) (hwi : WI w) (hst : ∀ o,RV w (CC N B0 g) g h (a.eval o) (st o)) (hf : frzAll (c.args.toList.map st) = some ts) (ht : F ts = some t) : OpOk P N B0 w0 w g h a o (thaw b t h).1 (thaw b t h).2:= by
  cases b with
  | true => exact op_call_fresh r ho hc hF hwi hst hf ht
  | false => exact op_call_pure r ho hc hF hwi hst hf ht
end Go.Ev
