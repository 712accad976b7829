/- A symbolic executor for the walk: an intermediate form of the code (types resolved), symbolic values, states, and the executor 'run', a function into Prop that dsimp evaluates. Its soundness stands in the next text. -/
import Derived.WalkKit
set_option linter.all false
namespace Go.Vx

/-- Symbolic values. -/
inductive SV where
  | int (k : IntKind) (n : Int)
  | bool (b : Bool)
  | val (v : Value)
  | nil
  | agg (cs : List SV)
  | tup (cs : List SV)
  | vs (t z : Bool) (n size : Nat) (get : Nat → List SV)
  | xp (t : Bool) (cells : List SV)
  | ptr (i off : Nat)
  | own (i lo n size : Nat)
  | elem (i k off size : Nat)
  | fn (f : Fn) (first cap : List SV)
  | iface (t : TypeId) (v : SV)
  | opt (b : Bool) (v : SV)
  | junk
  deriving Inhabited

/-- What a block of the call's own holds. -/
inductive HO where
  | box (cells : List SV)
  | own (z : Bool) (size n : Nat) (get : Nat → List SV)
  | gone

/-- Operands. -/
inductive X where
  | tm (n : Nat)
  | cn (v : SV)

inductive Cmp where
  | eql | neq | lss | leq | gtr | geq
inductive Ari where
  | add | sub | mul
inductive Bit where
  | and | or | xor | andNot

/-- Operations, without their operands. -/
inductive VO where
  | mov
  | and | or
  | alloc (cells : List SV)
  | allocArr (n size : Nat) (cells : List SV)
  | box
  | build (zero : List SV) (parts : List (Nat × Nat))
  | buildSlice (size len : Nat) (zero : List SV) (parts : List (Nat × Nat))
  | load (agg : Bool) (size : Nat)
  | store (size : Nat)
  | ari (o : Ari)
  | cmp (o : Cmp)
  | bit (o : Bit)
  | quo | rem | shl | shr
  | not | neg
  | conv (k : IntKind)
  | len | lenStr | lenArr (n : Nat) | min | max
  | append (size bytes : Nat) (zero : List SV)
  | fieldAddr (off : Nat)
  | field (agg : Bool) (off size : Nat)
  | idxAddr (size : Nat)
  | idxArr (n size : Nat)
  | index (agg : Bool) (n size : Nat)
  | slice (size : Nat) (lo hi : Bool)
  | sliceArr (n size : Nat) (lo hi : Bool)
  | make (size bytes : Nat) (zero : List SV)
  | call (f : FuncId)
  | callv
  | mkfn (fn : Fn) (nfirst : Nat)
  | ext (i : Nat)
  | iface (t : TypeId)
  | invoke (name : String)
  | eqb (neg : Bool)
  | eqv (neg : Bool) (ks : List Bool)
  | isNil (neg : Bool)
  | addc

structure VOp where
  dst : Option Nat
  g : Option (Nat × Bool)
  op : VO
  xs : List X

/-- An alloc that a region's run begins with. -/
inductive AL where
  | box (z : List SV)
  | arr (n size : Nat) (z : List SV)

structure DOp where
  op : VOp
  chk : List X

inductive VC where
  | region (l : List VOp)
  | draw (al : List (Nat × AL)) (l : List DOp)
  | rangeFn (g : X) (ps : List Nat) (a b : VC)
  | seq (a b : VC)
  | cond (x : X) (a b : VC)
  | block (id : Nat) (c : VC)
  | loop (c : VC)
  | exit (id : Nat)
  | ret
  | skip
  | stuck

inductive VR where
  | tmp (t : Nat)
  | cell (t : Nat) (agg : Bool) (size : Nat)

structure VF where
  ntmps : Nat
  res : List VR
  body : VC

/-! ### The translation -/

def cellOf : Value → SV
  | .int k n => .int k n
  | .bool b => .bool b
  | .slice none 0 0 => .nil
  | v => .val v

def svOf : Value → SV
  | .agg cs => .agg (cs.toList.map cellOf)
  | v => cellOf v

def X.of : Operand → Option X
  | .tmp t => some (.tm t)
  | .const v => some (.cn (svOf v))
  | .func f => some (.cn (.fn (.func f) [] []))
  | .global _ => none

def X.ofs : List Operand → Option (List X)
  | [] => some []
  | x :: l => (X.of x).bind fun y => (X.ofs l).map (y :: ·)

def zeroOf (P : Program) (t : TypeId) : Option (List SV) :=
  (P.info? t).bind fun i => i.zero.map fun v => v.cells.toList.map cellOf

def aggOf (P : Program) (t : TypeId) : Option Bool :=
  (P.underlying t).map fun | .struct _ => true | .array _ _ => true | _ => false

def sizeOf? (P : Program) (t : TypeId) : Option Nat := (P.info? t).map (·.size)
def bytesOf? (P : Program) (t : TypeId) : Option Nat := (P.info? t).map (·.bytes)

/-- A type whose values are one cell that '==' compares as it is: an integer or a bool. -/
def plainType (P : Program) (t : TypeId) : Bool :=
  match P.underlying t with
  | some (.int _) => true
  | some .bool => true
  | _ => false

def sizeIs1 (P : Program) (t : TypeId) : Bool :=
  match P.info? t with
  | some i => i.size == 1
  | none => false

def intType (P : Program) (t : TypeId) : Bool :=
  match P.underlying t with
  | some (.int _) => true
  | _ => false

def boolType (P : Program) (t : TypeId) : Bool :=
  match P.underlying t with
  | some .bool => true
  | _ => false

def sliceType (P : Program) (t : TypeId) : Bool :=
  match P.underlying t with
  | some (.slice _) => true
  | _ => false

def kindOf (P : Program) (t : TypeId) : Option Bool :=
  match P.underlying t with
  | some (.int _) => some true
  | some .bool => some false
  | _ => none

def kindsOf (P : Program) : Nat → List Field → Option (List Bool)
  | _, [] => some []
  | k, f :: fs => if sizeIs1 P f.type && f.offset == k && f.name != "_" then (kindOf P f.type).bind fun b => (kindsOf P (k + 1) fs).map (b :: ·) else none

def plainAgg (P : Program) (t : TypeId) : Option (List Bool) :=
  match P.underlying t with
  | some (.struct fs) => if !P.stoodInHeld t && !P.eqGuardType P.depth t then kindsOf P 0 fs.toList else none
  | _ => none

def fieldsOf (P : Program) (t : TypeId) : Option (List Field) :=
  match P.underlying t with
  | some (.struct fs) => some fs.toList
  | _ => none

def placesOf (P : Program) (t : TypeId) : Option (List (Nat × Nat)) :=
  match P.underlying t with
  | some (.struct fs) => fs.toList.mapM fun f => (sizeOf? P f.type).map fun s => (f.offset, s)
  | some (.array n e) => (sizeOf? P e).map fun s => (List.range n).map fun i => (i * s, s)
  | _ => none

def vcmp : BinOp → Option Cmp
  | .eql => some .eql | .neq => some .neq | .lss => some .lss | .leq => some .leq | .gtr => some .gtr | .geq => some .geq
  | _ => none

def vbin (P : Program) (op : BinOp) (t : TypeId) : Option VO :=
  match op with
  | .add => if plainType P t then some (.ari .add) else none
  | .sub => if plainType P t then some (.ari .sub) else none
  | .mul => some (.ari .mul)
  | .quo => some .quo
  | .rem => some .rem
  | .and => some (.bit .and)
  | .or => some (.bit .or)
  | .xor => some (.bit .xor)
  | .andNot => some (.bit .andNot)
  | .shl => some .shl
  | .shr => some .shr
  | .eql => if intType P t then some (.cmp .eql) else if boolType P t then some (.eqb false) else (plainAgg P t).map (.eqv false)
  | .neq => if intType P t then some (.cmp .neq) else if boolType P t then some (.eqb true) else (plainAgg P t).map (.eqv true)
  | .lss => some (.cmp .lss)
  | .leq => some (.cmp .leq)
  | .gtr => some (.cmp .gtr)
  | .geq => some (.cmp .geq)


/-- math/bits.Add64, for which the model stands in. -/
def isAddc (P : Program) (f : FuncId) : Bool :=
  match P.funcs[f]? with
  | some fn => fn.body.isNone && fn.name == "math/bits.Add64" && fn.origin == ""
  | none => false

def chk (g : Bool) (s : Nat) : Bool := g || s == 1

def vop (P : Program) (o : Oper) : Option (VO × List Operand) :=
  match o.op with
  | .move x | .assign x => some (.mov, [x])
  | .pick c a (.const (.bool false)) => some (.and, [c, a])
  | .pick c (.const (.bool true)) b => some (.or, [c, b])
  | .alloc e =>
    match P.underlying e with
    | some (.array n t) => (zeroOf P e).bind fun z => (sizeOf? P t).map fun s => (.allocArr n s z, [])
    | _ => (zeroOf P e).map fun z => (.alloc z, [])
  | .box _ x => some (.box, [x])
  | .build t parts => (zeroOf P t).bind fun z => (placesOf P t).bind fun pl => if parts.toList.all (fun x => decide (x.1 < pl.length)) then some (.build z (parts.toList.map fun p => pl.getD p.1 (0, 0)), parts.toList.map (·.2)) else none
  | .load t a => (aggOf P t).bind fun g => (sizeOf? P t).bind fun s => if chk g s then some (.load g s, [a]) else none
  | .store t a x => (sizeOf? P t).map fun s => (.store s, [a, x])
  | .binOp .eql t x (.const (.slice none 0 0)) _ => if sliceType P t then some (.isNil false, [x, .const (.slice none 0 0)]) else none
  | .binOp .neq t x (.const (.slice none 0 0)) _ => if sliceType P t then some (.isNil true, [x, .const (.slice none 0 0)]) else none
  | .binOp op t x y _ => (vbin P op t).map fun v => (v, [x, y])
  | .unOp .not _ x => some (.not, [x])
  | .unOp .neg _ x => some (.neg, [x])
  | .convert s d x => match P.underlying s, P.underlying d with
    | some _, some (.int k) => some (.conv k, [x])
    | _, _ => none
  | .fieldAddr s x f => (fieldsOf P s).bind fun fs => (fs[f]?).bind fun fd => (sizeOf? P fd.type).bind fun z => if z = 0 then none else some (.fieldAddr fd.offset, [x])
  | .field s x f => (fieldsOf P s).bind fun fs => (fs[f]?).bind fun fd => (sizeOf? P fd.type).bind fun z => (aggOf P fd.type).bind fun g => if chk g z then some (.field g fd.offset z, [x]) else none
  | .indexAddr t x i => match P.underlying t with
    | some (.slice e) => (sizeOf? P e).map fun s => (.idxAddr s, [x, i])
    | some (.array n e) => (sizeOf? P e).map fun s => (.idxArr n s, [x, i])
    | _ => none
  | .index t x i => match P.underlying t with
    | some (.array n e) => (sizeOf? P e).bind fun s => (aggOf P e).bind fun g => if chk g s then some (.index g n s, [x, i]) else none
    | _ => none
  | .slice t x lo hi none => match P.underlying t with
    | some (.slice e) => (sizeOf? P e).map fun s => (.slice s lo.isSome hi.isSome, x :: (lo.toList ++ hi.toList))
    | some (.array n e) => (sizeOf? P e).map fun s => (.sliceArr n s lo.isSome hi.isSome, x :: (lo.toList ++ hi.toList))
    | _ => none
  | .makeSlice t l c => match P.underlying t with
    | some (.slice e) => (sizeOf? P e).bind fun s => (bytesOf? P e).bind fun b => (zeroOf P e).bind fun z => if 0 < b ∧ 0 < s then some (.make s b z, [l, c]) else none
    | _ => none
  | .buildSlice t n parts => match P.underlying t with
    | some (.slice e) => (sizeOf? P e).bind fun s => (zeroOf P e).bind fun z => if n * s ≤ 16777216 then some (.buildSlice s n z (parts.toList.map fun p => (p.1 * s, s)), parts.toList.map (·.2)) else none
    | _ => none
  | .makeFunc fn first cap => some (.mkfn fn first.size, first.toList ++ cap.toList)
  | .extract x i => some (.ext i, [x])
  | .call c => match c.callee with
    | .value (.func f) => if isAddc P f then some (.addc, c.args.toList) else some (.call f, c.args.toList)
    | .value x => some (.callv, x :: c.args.toList)
    | .invoke x name => some (.invoke name, x :: c.args.toList)
    | .builtin .len => match c.argTypes[0]?.bind P.underlying with
      | some (.slice _) => some (.len, c.args.toList)
      | some (.string) => some (.lenStr, c.args.toList)
      | some (.array n _) => some (.lenArr n, c.args.toList)
      | _ => none
    | .builtin .min => some (.min, c.args.toList)
    | .builtin .max => some (.max, c.args.toList)
    | .builtin .append => match c.argTypes[0]?.bind P.underlying, c.argTypes[1]?.bind P.underlying with
      | some (.slice e), some (.slice _) => (sizeOf? P e).bind fun s => (bytesOf? P e).bind fun b => (zeroOf P e).bind fun z => if 0 < b ∧ 0 < s ∧ z.length = s then some (.append s b z, c.args.toList) else none
      | _, _ => none
    | .builtin _ => none
  | _ => none

def VO.isCall : VO → Bool
  | .call _ | .callv | .invoke _ => true
  | _ => false

def opIsCall : Op → Bool
  | .call c => match c.callee with
    | .builtin _ => false
    | _ => true
  | _ => false

def slotOf (ops : Array Oper) (j : Nat) : Option Nat := (ops[j]?).bind (·.dst)

def vopOf (P : Program) (ops : Array Oper) (o : Oper) : Option VOp :=
  (vop P o).bind fun (v, xs) => (X.ofs xs).bind fun ys =>
    if v.isCall && !opIsCall o.op then none else
    match o.guard with
    | none => some { dst := o.dst, g := none, op := v, xs := ys }
    | some (j, b) => (slotOf ops j).map fun s => { dst := o.dst, g := some (s, b), op := v, xs := ys }

def vopsOf (P : Program) (ops : Array Oper) : List Oper → Option (List VOp)
  | [] => some []
  | o :: l => (vopOf P ops o).bind fun v => (vopsOf P ops l).map (v :: ·)

/-! ### Regions that draw their order -/

def X.slot : X → List Nat
  | .tm n => [n]
  | .cn _ => []

def slots : List X → List Nat
  | [] => []
  | x :: l => x.slot ++ slots l

/-- The slots that an operation reads. -/
def VOp.reads (v : VOp) : List Nat := slots v.xs ++ (match v.g with | some (g, _) => [g] | none => [])

def VO.readsHp : VO → Bool
  | .load _ _ | .idxArr _ _ | .sliceArr _ _ _ _ | .isNil _ => true
  | _ => false

def VO.isStore : VO → Bool
  | .store _ => true
  | _ => false

def VO.isAppend : VO → Bool
  | .append _ _ _ => true
  | _ => false

def headX : List X → X
  | [] => .cn .junk
  | x :: _ => x

/-- An operation that leaves the state as it is. -/
def VO.quiet : VO → Bool
  | .alloc _ | .allocArr _ _ _ | .box | .buildSlice _ _ _ _ | .store _ | .make _ _ _ | .append _ _ _ | .call _ | .callv | .invoke _ => false
  | _ => true

/-- An operation of such a region. 'silent': an alloc that was run before the others; 'chk' (of a store): reads that do not wait for it, nor it for them. -/
inductive DT where
  | silent (d : Nat)
  | op (v : VOp) (chk : List (Nat × X))

def disj (d : Option Nat) (l : List Nat) : Bool :=
  match d with
  | some n => !l.contains n
  | none => true

def xeq : X → X → Bool
  | .tm n, .tm m => Nat.beq n m
  | _, _ => false

/-- What makes operation i (quiet) exchange with operation j. -/
def commB (clo : Nat → Nat → Bool) (i : Nat) (v : VOp) (j : Nat) (t : DT) : Bool :=
  Nat.beq i j || clo j i || clo i j ||
  match t with
  | .silent _ => true
  | .op u chk => disj v.dst u.reads && disj v.dst u.dst.toList && disj u.dst v.reads && !u.op.isAppend &&
      chk.all (fun c => disj v.dst c.2.slot || clo c.1 i) &&
      (!u.op.isStore || !v.op.readsHp || (disj v.dst (headX v.xs).slot && chk.any fun c => Nat.beq c.1 i && xeq c.2 (headX v.xs)))

def maskL (md : Region.Mode) : List Edge → Nat
  | [] => 0
  | e :: l => bif Region.binds md e then 2 ^ e.on ||| maskL md l else maskL md l

def directs (md : Region.Mode) (ops : Array Oper) : List Nat := ops.toList.map fun o => maskL md o.after.toList

def orBelow (cl : List Nat) (m : Nat) : Nat → Nat
  | 0 => 0
  | k + 1 => bif m.testBit k then cl.getD k 0 ||| orBelow cl m k else orBelow cl m k

def closAux : List Nat → Nat → List Nat → List Nat
  | [], _, cl => cl
  | m :: l, j, cl => closAux l (j + 1) (cl ++ [m ||| orBelow cl m j])

/-- What comes before each operation, as masks. -/
def clos (dm : List Nat) : List Nat := closAux dm 0 []

def closOk (dm cl : List Nat) : Nat → Bool
  | 0 => true
  | j + 1 => Nat.beq (cl.getD j 0) (dm.getD j 0 ||| orBelow cl (dm.getD j 0) j) && closOk dm cl j

def readyB (dm : List Nat) (m i : Nat) : Bool := !m.testBit i && Nat.beq (dm.getD i 0 &&& m) (dm.getD i 0)

def noneReady (dm : List Nat) (m : Nat) : Nat → Bool
  | 0 => true
  | k + 1 => !readyB dm m k && noneReady dm m k

def onlyReady (dm : List Nat) (m i : Nat) : Nat → Bool
  | 0 => true
  | k + 1 => (Nat.beq k i || !readyB dm m k) && onlyReady dm m i k

def seqB (free : Nat → Bool) (dm : List Nat) (n : Nat) : List Nat → Nat → Bool
  | [], m => noneReady dm m n
  | i :: l, m => Nat.ble (i + 1) n && readyB dm m i && (free i || onlyReady dm m i n) && seqB free dm n l (m ||| 2 ^ i)

def cloOf (cl : List Nat) (j i : Nat) : Bool := (cl.getD j 0).testBit i

/-- The alloc of constant cells that is run before the others. -/
def lenE : List SV → Nat
  | [] => 0
  | _ :: l => lenE l + 1

def silentOf (v : VOp) : Option (Nat × AL) :=
  match v with
  | ⟨some d, none, .alloc z, _⟩ => some (d, .box z)
  | ⟨some d, none, .allocArr n size z, _⟩ => bif Nat.beq (lenE z) (n * size) then some (d, .arr n size z) else none
  | _ => none

/-- The reads that a store is to be apart from. -/
def chkOf (clo : Nat → Nat → Bool) (j : Nat) : List VOp → Nat → List (Nat × X)
  | [], _ => []
  | v :: l, i => bif v.op.quiet && v.op.readsHp && !clo i j && !clo j i then (i, headX v.xs) :: chkOf clo j l (i + 1) else chkOf clo j l (i + 1)

def tabOf (clo : Nat → Nat → Bool) (all : List VOp) : List VOp → Nat → List DT
  | [], _ => []
  | v :: l, j => (match silentOf v with
    | some (d, _) => .silent d
    | none => .op v (bif v.op.isStore then chkOf clo j all 0 else [])) :: tabOf clo all l (j + 1)

def silOf : List VOp → Nat → List (Nat × Nat × AL)
  | [], _ => []
  | v :: l, j => match silentOf v with
    | some (d, z) => (j, d, z) :: silOf l (j + 1)
    | none => silOf l (j + 1)

def commAll (clo : Nat → Nat → Bool) (i : Nat) (v : VOp) : List DT → Nat → Bool
  | [], _ => true
  | t :: l, j => commB clo i v j t && commAll clo i v l (j + 1)

def freeB (clo : Nat → Nat → Bool) (tab : List DT) (i : Nat) : Bool :=
  match tab[i]? with
  | some (.silent _) => true
  | some (.op v []) => v.op.quiet && commAll clo i v tab 0
  | _ => false

def frees (clo : Nat → Nat → Bool) (tab : List DT) : Nat → Nat → List Bool
  | 0, _ => []
  | n + 1, i => freeB clo tab i :: frees clo tab n (i + 1)

def belowOk : List Nat → Nat → Bool
  | [], _ => true
  | m :: l, j => Nat.blt m (2 ^ j) && belowOk l (j + 1)

def pick (ok : Nat → Bool) : Nat → Nat → Option Nat
  | 0, _ => none
  | n + 1, i => bif ok i then some i else pick ok n (i + 1)

/-- The canonical order: what exchanges first, else what is ready. -/
def orderOf (fr : List Bool) (dm : List Nat) (n : Nat) : Nat → Nat → List Nat
  | 0, _ => []
  | k + 1, m => match pick (fun i => fr.getD i false && readyB dm m i) n 0 with
    | some i => i :: orderOf fr dm n k (m ||| 2 ^ i)
    | none => match pick (readyB dm m) n 0 with
      | some i => i :: orderOf fr dm n k (m ||| 2 ^ i)
      | none => []

/-- Slots of allocs told ahead: no other operation writes them; who reads them comes after. -/
def silOk (clo : Nat → Nat → Bool) (sil : List (Nat × Nat × AL)) : List DT → Nat → Bool
  | [], _ => true
  | .silent _ :: l, j => silOk clo sil l (j + 1)
  | .op v _ :: l, j => sil.all (fun x => (clo j x.1 || (!v.reads.contains x.2.1 && !v.op.isAppend)) && !(v.dst.toList.contains x.2.1)) && silOk clo sil l (j + 1)

def distinctB : List Nat → Bool
  | [] => true
  | d :: l => !l.contains d && distinctB l

def dopOf (tab : List DT) : List Nat → List DOp
  | [] => []
  | i :: l => match tab[i]? with
    | some (.op v chk) => ⟨v, chk.map (·.2)⟩ :: dopOf tab l
    | _ => dopOf tab l

/-- What is told as an alloc ahead is an alloc in the program. -/
def allocOk : List Oper → List VOp → Bool
  | o :: os, v :: vs => (match silentOf v with
    | some _ => match o.op with
      | .alloc _ => true
      | _ => false
    | none => true) && allocOk os vs
  | _, _ => true

def drawOf (P : Program) (ops : Array Oper) : Option (List (Nat × AL) × List DOp) :=
  (vopsOf P ops ops.toList).bind fun vs =>
    let dm := directs .any ops
    let cl := clos dm
    let tab := tabOf (cloOf cl) vs vs 0
    let sil := silOf vs 0
    let fr := frees (cloOf cl) tab ops.size 0
    let order := orderOf fr dm ops.size ops.size 0
    if allocOk ops.toList vs && Nat.beq cl.length ops.size && closOk dm cl ops.size && belowOk dm 0 && silOk (cloOf cl) sil tab 0 && distinctB (sil.map (·.2.1)) && Nat.beq order.length ops.size && seqB (fun i => fr.getD i false) dm ops.size order 0 then
      some (sil.map (·.2), dopOf tab order)
    else none

def vcode (P : Program) : Code → Option VC
  | .skip => some .skip
  | .region _ ops draw => if draw then match drawOf P ops with | some r => some (.draw r.1 r.2) | none => some .stuck else match vopsOf P ops ops.toList with | some l => some (.region l) | none => some .stuck
  | .rangeFunc g ps a b => (X.of g).bind fun z => (vcode P a).bind fun x => (vcode P b).map fun y => .rangeFn z ps.toList x y
  | .seq a b => (vcode P a).bind fun x => (vcode P b).map fun y => .seq x y
  | .cond c a b => (X.of c).bind fun z => (vcode P a).bind fun x => (vcode P b).map fun y => .cond z x y
  | .block i c => (vcode P c).map (.block i)
  | .loop c => (vcode P c).map .loop
  | .exit i => some (.exit i)
  | .ret => some .ret
  | _ => some .stuck

def vres (P : Program) : ResultVar → Option VR
  | .tmp t => some (.tmp t)
  | .cell a t => (aggOf P t).bind fun g => (sizeOf? P t).bind fun s => if chk g s then some (.cell a g s) else none

def vress (P : Program) : List ResultVar → Option (List VR)
  | [] => some []
  | r :: l => (vres P r).bind fun x => (vress P l).map (x :: ·)

def vfunc (P : Program) (fn : Func) : Option VF :=
  fn.body.bind fun c => (vcode P c).bind fun b => (vress P fn.results.toList).map fun r => { ntmps := fn.ntmps, res := r, body := b }


/-! ### States -/

structure S where
  fr : List SV
  saved : List (List SV)
  hp : List HO

def getL : List SV → Nat → SV
  | [], _ => .junk
  | x :: _, 0 => x
  | _ :: l, n + 1 => getL l n

def setL : List SV → Nat → SV → List SV
  | [], _, _ => []
  | _ :: l, 0, v => v :: l
  | x :: l, n + 1, v => x :: setL l n v

def getH : List HO → Nat → HO
  | [], _ => .gone
  | x :: _, 0 => x
  | _ :: l, n + 1 => getH l n

def setH : List HO → Nat → HO → List HO
  | [], _, _ => []
  | _ :: l, 0, v => v :: l
  | x :: l, n + 1, v => x :: setH l n v

def lenH : List HO → Nat
  | [] => 0
  | _ :: l => lenH l + 1

def snocH : List HO → HO → List HO
  | [], x => [x]
  | y :: l, x => y :: snocH l x

def S.put (s : S) (d : Option Nat) (v : SV) : S :=
  match d with
  | some d => { s with fr := setL s.fr d v }
  | none => s

def S.x (s : S) : X → SV
  | .tm n => getL s.fr n
  | .cn v => v

/-- An operand under a guard: what was made under a guard is there if that guard held. -/
def unopt (gb : Bool) : SV → Prop × SV
  | .opt b v => (gb = true → b = true, v)
  | v => (True, v)

def S.args (s : S) : List X → List SV
  | [] => []
  | x :: l => s.x x :: s.args l

def unopts (gb : Bool) : List SV → Prop × List SV
  | [] => (True, [])
  | v :: l => ((unopt gb v).1 ∧ (unopts gb l).1, (unopt gb v).2 :: (unopts gb l).2)

/-- The second operand is read only if the first one asks for it. -/
def lazyO : VO → Bool
  | .and | .or => true
  | _ => false

def unoptsB (lz : Bool) (gb : Bool) (l : List SV) : Prop × List SV :=
  match lz with
  | false => unopts gb l
  | true => match l with
    | [x, y] => ((unopt gb x).1, [(unopt gb x).2, y])
    | l => unopts gb l

def unoptsO (o : VO) (gb : Bool) (l : List SV) : Prop × List SV := unoptsB (lazyO o) gb l

def asCells : SV → List SV
  | .agg cs => cs
  | v => [v]

def spliceL : List SV → Nat → List SV → List SV
  | cs, 0, [] => cs
  | [], _, _ => []
  | _ :: cs, 0, v :: vs => v :: spliceL cs 0 vs
  | c :: cs, n + 1, vs => c :: spliceL cs n vs

def addLo : Nat → Nat → Nat
  | 0, k => k
  | n + 1, k => n + 1 + k

def takeL : Nat → List SV → List SV
  | 0, _ => []
  | _ + 1, [] => []
  | n + 1, x :: l => x :: takeL n l

def dropL : Nat → List SV → List SV
  | 0, l => l
  | _ + 1, [] => []
  | n + 1, _ :: l => dropL n l

def lenL : List SV → Nat
  | [] => 0
  | _ :: l => lenL l + 1

def repL : Nat → List SV → List SV
  | 0, _ => []
  | n + 1, z => z ++ repL n z

/-- What an operation does to the blocks of the call's own. -/
inductive Upd where
  | no
  | new (ho : HO)
  | set (i : Nat) (ho : HO)
  | app (i : Nat) (ho : HO)

/-- What an operation comes to: what is asked, the value, what becomes of the blocks. -/
structure Ef where
  pre : Prop
  val : SV
  upd : Upd

def mkAgg (agg : Bool) (cs : List SV) : SV :=
  match agg with
  | true => .agg cs
  | false => match cs with
    | [x] => x
    | _ => .junk

/-- A single cell's value. -/
def one : SV → Prop
  | .agg _ => False
  | .tup _ => False
  | .opt _ _ => False
  | .junk => False
  | .val v => v.oneCell' = true
  | _ => True

def ones : List SV → Prop
  | [] => True
  | x :: l => one x ∧ ones l

mutual
/-- Does a value speak of block i of the call's own? -/
def refs (i : Nat) : SV → Bool
  | .agg cs => refsL i cs
  | .tup cs => refsL i cs
  | .ptr j _ => Nat.beq j i
  | .own j _ _ _ => Nat.beq j i
  | .elem j _ _ _ => Nat.beq j i
  | .fn _ a b => refsL i a || refsL i b
  | .iface _ v => refs i v
  | .opt _ v => refs i v
  | _ => false
def refsL (i : Nat) : List SV → Bool
  | [] => false
  | x :: l => refs i x || refsL i l
end

def purge (i : Nat) (v : SV) : SV := bif refs i v then .junk else v

def purgeL (i : Nat) : List SV → List SV
  | [] => []
  | x :: l => purge i x :: purgeL i l

def purgeLL (i : Nat) : List (List SV) → List (List SV)
  | [] => []
  | x :: l => purgeL i x :: purgeLL i l

def purgeH (i : Nat) : List HO → List HO
  | [] => []
  | .box cs :: l => .box (purgeL i cs) :: purgeH i l
  | .own z sz n get :: l => .own z sz n (fun k => purgeL i (get k)) :: purgeH i l
  | .gone :: l => .gone :: purgeH i l

def S.upd (s : S) (u : Upd) : S :=
  match u with
  | .no => s
  | .new ho => { s with hp := snocH s.hp ho }
  | .set i ho => { s with hp := setH s.hp i ho }
  | .app i ho => { fr := purgeL i s.fr, saved := purgeLL i s.saved, hp := setH (purgeH i s.hp) i ho }

def cmpB (o : Cmp) (x y : Int) : Bool :=
  match o with
  | .eql => decide (x = y)
  | .neq => !decide (x = y)
  | .lss => decide (x < y)
  | .leq => decide (x ≤ y)
  | .gtr => decide (y < x)
  | .geq => decide (y ≤ x)

def ari (o : Ari) (x y : Int) : Int :=
  match o with
  | .add => x + y
  | .sub => x - y
  | .mul => x * y

def bitI (o : Bit) (k : IntKind) (x y : Int) : Int :=
  match o with
  | .and => k.wrap (BitVec.ofInt k.bits x &&& BitVec.ofInt k.bits y).toNat
  | .or => k.wrap (BitVec.ofInt k.bits x ||| BitVec.ofInt k.bits y).toNat
  | .xor => k.wrap (BitVec.ofInt k.bits x ^^^ BitVec.ofInt k.bits y).toNat
  | .andNot => k.wrap (BitVec.ofInt k.bits x &&& ~~~BitVec.ofInt k.bits y).toNat

def kEq : IntKind → IntKind → Bool
  | .i8, .i8 | .i16, .i16 | .i32, .i32 | .i64, .i64 | .u8, .u8 | .u16, .u16 | .u32, .u32 | .u64, .u64 => true
  | _, _ => false

def foldMax : IntKind → Int → List SV → Option Int
  | _, m, [] => some m
  | k, m, .int k' y :: l => bif kEq k k' then foldMax k (max m y) l else none
  | _, _, _ => none
def foldMin : IntKind → Int → List SV → Option Int
  | _, m, [] => some m
  | k, m, .int k' y :: l => bif kEq k k' then foldMin k (min m y) l else none
  | _, _, _ => none

def allEq : List Bool → List SV → List SV → Option (Prop × Bool)
  | [], [], [] => some (True, true)
  | true :: ks, .int k x :: l, .int k' y :: r => (allEq ks l r).map fun (p, b) => (k = k' ∧ p, decide (x = y) && b)
  | false :: ks, .bool x :: l, .bool y :: r => (allEq ks l r).map fun (p, b) => (p, (x == y) && b)
  | _, _, _ => none

/-- The list that a slice reads as: length, cells. -/
def readS (hp : List HO) : SV → Option (Nat × (Nat → List SV))
  | .nil => some (0, fun _ => [])
  | .vs _ _ n _ get => some (n, get)
  | .own i lo n sz => match getH hp i with
    | .own _ sz' _ get => bif Nat.beq sz sz' then some (n, fun k => get (addLo lo k)) else none
    | _ => none
  | _ => none

def lenS : SV → Option Nat
  | .nil => some 0
  | .vs _ _ n _ _ => some n
  | .own _ _ n _ => some n
  | _ => none

/-- The cells from an address on, what is asked. -/
def cellsAt (hp : List HO) : SV → Option (Prop × List SV)
  | .xp _ cs => some (True, cs)
  | .ptr i off => match getH hp i with
    | .box cs => some (True, dropL off cs)
    | _ => none
  | .elem i k off sz => match getH hp i with
    | .own _ size n get => some (k < n ∧ sz = size, dropL off (get k))
    | _ => none
  | _ => none

def chunk (size : Nat) (cs : List SV) (k : Nat) : List SV := takeL size (dropL (k * size) cs)

def storeAt (hp : List HO) (size : Nat) (vals : List SV) : SV → Option Ef
  | .ptr i off => match getH hp i with
    | .box cs => some { pre := off + size ≤ lenL cs, val := .junk, upd := .set i (.box (spliceL cs off vals)) }
    | .own z sz n _ => match off with
      | 0 => some { pre := size = n * sz ∧ 0 < sz, val := .junk, upd := .set i (.own z sz n (chunk sz vals)) }
      | _ => none
    | .gone => none
  | .elem i k off sz => match getH hp i with
    | .own z size' n get => some { pre := k < n ∧ sz = size' ∧ off + size ≤ sz, val := .junk, upd := .set i (.own z size' n fun j => if j = k then spliceL (get k) off vals else get j) }
    | _ => none
  | _ => none

def buildCells : List SV → List (Nat × Nat) → List SV → Option (Prop × List SV)
  | cs, [], [] => some (True, cs)
  | cs, (off, size) :: pl, v :: vs => (buildCells (spliceL cs off (asCells v)) pl vs).map fun (p, r) => (lenL (asCells v) = size ∧ ones (asCells v) ∧ off + size ≤ lenL cs ∧ p, r)
  | _, _, _ => none

def capOk (n bytes : Nat) : Prop := n * bytes ≤ 140737488355328

def pure1 (p : Prop) (v : SV) : Option Ef := some { pre := p, val := v, upd := .no }

def eBool2 (o : VO) (xs : List SV) : Option Ef :=
  match xs with
  | [.bool c, y] => match o, y with
    | .and, .opt b (.bool x) => pure1 (c = true → b = true) (.bool (c && x))
    | .or, .opt b (.bool x) => pure1 (c = false → b = true) (.bool (c || x))
    | .and, .bool x => pure1 True (.bool (c && x))
    | .or, .bool x => pure1 True (.bool (c || x))
    | _, _ => none
  | _ => none

def eNew (ho : HO) (v : SV) (p : Prop) : Option Ef := some { pre := p, val := v, upd := .new ho }

def eAri (o : Ari) (xs : List SV) : Option Ef :=
  match xs with
  | [.int k x, .int k' y] => pure1 (k = k') (.int k (k.wrap (ari o x y)))
  | _ => none

def eCmp (o : Cmp) (xs : List SV) : Option Ef :=
  match xs with
  | [.int k x, .int k' y] => pure1 (k = k') (.bool (cmpB o x y))
  | _ => none

def eEqb (neg : Bool) (xs : List SV) : Option Ef :=
  match xs with
  | [.bool x, .bool y] => pure1 True (.bool (match neg with | true => !(x == y) | false => x == y))
  | _ => none

def negIf (neg : Bool) (z : Bool) : Bool :=
  match neg with
  | true => !z
  | false => z

/-- Is a slice nil? The second operand is the literal. -/
def eNil (hp : List HO) (neg : Bool) (xs : List SV) : Option Ef :=
  match xs with
  | [x, .nil] => match x with
    | .nil => pure1 True (.bool (negIf neg true))
    | .vs _ z _ _ _ => pure1 True (.bool (negIf neg z))
    | .own i _ _ _ => match getH hp i with
      | .own z _ _ _ => pure1 True (.bool (negIf neg z))
      | _ => none
    | _ => none
  | _ => none

def eBit (o : Bit) (xs : List SV) : Option Ef :=
  match xs with
  | [.int k x, .int k' y] => pure1 (k = k') (.int k (bitI o k x y))
  | _ => none

def eDiv (rem : Bool) (xs : List SV) : Option Ef :=
  match xs with
  | [.int k x, .int k' y] => pure1 (k = k' ∧ y ≠ 0) (.int k (match rem with | true => x.tmod y | false => k.wrap (x.tdiv y)))
  | _ => none

def eSh (left : Bool) (xs : List SV) : Option Ef :=
  match xs with
  | [.int k x, .int _ y] => pure1 (0 ≤ y) (.int k (match left with | true => k.wrap (x * 2 ^ min y.toNat k.bits) | false => x.fdiv (2 ^ min y.toNat k.bits)))
  | _ => none

def eMov (xs : List SV) : Option Ef :=
  match xs with
  | [x] => pure1 True x
  | _ => none
def eNot (xs : List SV) : Option Ef :=
  match xs with
  | [.bool x] => pure1 True (.bool (!x))
  | _ => none
def eNeg (xs : List SV) : Option Ef :=
  match xs with
  | [.int k x] => pure1 True (.int k (k.wrap (0 - x)))
  | _ => none
def eConv (k : IntKind) (xs : List SV) : Option Ef :=
  match xs with
  | [.int _ x] => pure1 True (.int k (k.wrap x))
  | _ => none
def eExt (i : Nat) (xs : List SV) : Option Ef :=
  match xs with
  | [.tup l] => pure1 (i < lenL l) (getL l i)
  | _ => none
def eIface (t : TypeId) (xs : List SV) : Option Ef :=
  match xs with
  | [x] => pure1 True (.iface t x)
  | _ => none
def eLenArr (n : Nat) (xs : List SV) : Option Ef :=
  match xs with
  | [_] => pure1 True (.int .i64 n)
  | _ => none

def eLen (xs : List SV) : Option Ef :=
  match xs with
  | [x] => (lenS x).bind fun n => pure1 True (.int .i64 n)
  | _ => none

def eLenStr (xs : List SV) : Option Ef :=
  match xs with
  | [.val (.string b)] => pure1 True (.int .i64 b.size)
  | _ => none

def eMinMax (mx : Bool) (xs : List SV) : Option Ef :=
  match xs with
  | .int k x :: l => (match mx with | true => foldMax k x l | false => foldMin k x l).bind fun m => pure1 True (.int k m)
  | _ => none

def eFieldAddr (off : Nat) (xs : List SV) : Option Ef :=
  match xs with
  | [x] => match x with
    | .ptr i o => pure1 True (.ptr i (o + off))
    | .xp t cs => pure1 True (.xp t (dropL off cs))
    | .elem i k o sz => pure1 True (.elem i k (o + off) sz)
    | _ => none
  | _ => none

def eField (agg : Bool) (off size : Nat) (xs : List SV) : Option Ef :=
  match xs with
  | [.agg cs] => pure1 (off + size ≤ lenL cs) (mkAgg agg (takeL size (dropL off cs)))
  | _ => none

def eIdxAddr (size : Nat) (xs : List SV) : Option Ef :=
  match xs with
  | [x, .int _ i] => match x with
    | .vs t _ n sz get => pure1 (sz = size ∧ 0 ≤ i ∧ i < n) (.xp t (get i.toNat))
    | .own j lo n sz => pure1 (sz = size ∧ 0 ≤ i ∧ i < n) (.elem j (addLo lo i.toNat) 0 size)
    | _ => none
  | _ => none

/-- Where an element of an array that lies in a box begins. -/
def idxN (i : Int) (size : Nat) : Nat := i.toNat * size
theorem idxN_0 (size : Nat) : idxN 0 size = 0 := Nat.zero_mul size
theorem idxN_1 : idxN 1 1 = 1 := rfl
theorem idxN_2 : idxN 2 1 = 2 := rfl
theorem idxN_3 : idxN 3 1 = 3 := rfl
def eIdxArr (hp : List HO) (n size : Nat) (xs : List SV) : Option Ef :=
  match xs with
  | [.ptr j 0, .int _ i] => match getH hp j with
    | .own _ sz m _ => pure1 (0 ≤ i ∧ i < n ∧ sz = size ∧ m = n) (.elem j i.toNat 0 size)
    | .box _ => pure1 (0 ≤ i ∧ i < n) (.ptr j (idxN i size))
    | _ => none
  | _ => none

def eIndex (agg : Bool) (n size : Nat) (xs : List SV) : Option Ef :=
  match xs with
  | [.agg cs, .int _ i] => pure1 (0 ≤ i ∧ i < n ∧ lenL cs = n * size) (mkAgg agg (chunk size cs i.toNat))
  | _ => none

/-- The bounds of a slice expression: what is asked, the lower one, the upper one. -/
def bounds (n : Nat) (lo hi : Bool) (l : List SV) : Option (Prop × Nat × Nat) :=
  match lo, hi, l with
  | false, false, [] => some (True, 0, n)
  | true, false, [.int _ a] => some (0 ≤ a ∧ a ≤ n, a.toNat, n)
  | false, true, [.int _ b] => some (0 ≤ b ∧ b ≤ n, 0, b.toNat)
  | true, true, [.int _ a, .int _ b] => some (0 ≤ a ∧ a ≤ b ∧ b ≤ n, a.toNat, b.toNat)
  | _, _, _ => none

def subLo : Nat → Nat → Nat
  | n, 0 => n
  | n, k + 1 => n - (k + 1)

def eSlice (size : Nat) (lo hi : Bool) (xs : List SV) : Option Ef :=
  match xs with
  | x :: l => match x with
    | .vs t z n sz get => (bounds n lo hi l).bind fun (p, a, b) => pure1 (sz = size ∧ p) (.vs t z (subLo b a) sz fun k => get (addLo a k))
    | .own j o n sz => (bounds n lo hi l).bind fun (p, a, b) => pure1 (sz = size ∧ p) (.own j (addLo o a) (subLo b a) sz)
    | _ => none
  | _ => none

def eSliceArr (hp : List HO) (n size : Nat) (lo hi : Bool) (xs : List SV) : Option Ef :=
  match lo, hi, xs with
  | false, false, [.ptr j 0] => match getH hp j with
    | .own _ sz m _ => pure1 (sz = size ∧ m = n) (.own j 0 n size)
    | _ => none
  | _, _, _ => none

def eMake (nx : Nat) (size bytes : Nat) (zero : List SV) (xs : List SV) : Option Ef :=
  match xs with
  | [.int _ l, .int _ c] => eNew (.own false size l.toNat fun _ => zero) (.own (nx) 0 l.toNat size) (lenL zero = size ∧ 0 < size ∧ 0 ≤ l ∧ l ≤ c ∧ capOk c.toNat bytes)
  | _ => none

def eAppend (nx : Nat) (hp : List HO) (size bytes : Nat) (xs : List SV) : Option Ef :=
  match xs with
  | [a, x] => match a with
    | .nil => (readS hp x).bind fun (m, gx) => eNew (.own (decide (m = 0)) size m gx) (.own (nx) 0 m size) (capOk m bytes ∧ ∀ k, k < m → lenL (gx k) = size ∧ ones (gx k))
    | .own i 0 n sz => match getH hp i with
      | .own z s' _ get => (readS hp x).map fun (m, gx) =>
        { pre := sz = size ∧ s' = size ∧ capOk (n + m) bytes ∧ ∀ k, k < m → lenL (gx k) = size ∧ ones (gx k), val := .own i 0 (n + m) size,
          upd := .app i (.own (z && decide (m = 0)) size (n + m) fun k => if k < n then purgeL i (get k) else purgeL i (gx (k - n))) }
      | _ => none
    | _ => none
  | _ => none

def eLoad (hp : List HO) (agg : Bool) (size : Nat) (xs : List SV) : Option Ef :=
  match xs with
  | [a] => (cellsAt hp a).bind fun (p, cs) => pure1 (p ∧ size ≤ lenL cs) (mkAgg agg (takeL size cs))
  | _ => none

def eStore (hp : List HO) (size : Nat) (xs : List SV) : Option Ef :=
  match xs with
  | [a, v] => (storeAt hp size (asCells v) a).map fun e => { e with pre := lenL (asCells v) = size ∧ ones (asCells v) ∧ e.pre }
  | _ => none

def eBox (nx : Nat) (xs : List SV) : Option Ef :=
  match xs with
  | [x] => eNew (.box (asCells x)) (.ptr (nx) 0) (ones (asCells x))
  | _ => none

def eAddc (xs : List SV) : Option Ef :=
  match xs with
  | [.int .u64 x, .int .u64 y, .int .u64 c] => pure1 (0 ≤ x ∧ 0 ≤ y ∧ 0 ≤ c ∧ c ≤ 1) (.tup [.int .u64 ((x + y + c) % 18446744073709551616), .int .u64 ((x + y + c) / 18446744073709551616)])
  | _ => none

def eEqv (neg : Bool) (ks : List Bool) (xs : List SV) : Option Ef :=
  match xs with
  | [.agg xs, .agg ys] => (allEq ks xs ys).bind fun (p, b) => pure1 p (.bool (match neg with | true => !b | false => b))
  | _ => none

/-- An operation's run: what the blocks hold, the number of the next one. -/
def eff (hp : List HO) (nx : Nat) (o : VO) (xs : List SV) : Option Ef :=
  match o with
  | .mov => eMov xs
  | .not => eNot xs
  | .neg => eNeg xs
  | .conv k => eConv k xs
  | .ext i => eExt i xs
  | .iface t => eIface t xs
  | .lenArr n => eLenArr n xs
  | .and => eBool2 .and xs
  | .or => eBool2 .or xs
  | .alloc cs => eNew (.box cs) (.ptr (nx) 0) True
  | .allocArr n size cs => eNew (.own false size n (chunk size cs)) (.ptr (nx) 0) (lenL cs = n * size)
  | .box => eBox nx xs
  | .build zero pl => (buildCells zero pl xs).bind fun (p, cs) => pure1 p (.agg cs)
  | .buildSlice size len zero pl => (buildCells (repL len zero) pl xs).bind fun (p, cs) =>
      eNew (.own false size len (chunk size cs)) (.own (nx) 0 len size) (p ∧ lenL zero = size ∧ 0 < size)
  | .load agg size => eLoad hp agg size xs
  | .store size => eStore hp size xs
  | .ari o => eAri o xs
  | .cmp o => eCmp o xs
  | .bit o => eBit o xs
  | .quo => eDiv false xs
  | .rem => eDiv true xs
  | .shl => eSh true xs
  | .shr => eSh false xs
  | .len => eLen xs
  | .lenStr => eLenStr xs
  | .min => eMinMax false xs
  | .max => eMinMax true xs
  | .fieldAddr off => eFieldAddr off xs
  | .field agg off size => eField agg off size xs
  | .idxAddr size => eIdxAddr size xs
  | .idxArr n size => eIdxArr hp n size xs
  | .index agg n size => eIndex agg n size xs
  | .slice size lo hi => eSlice size lo hi xs
  | .sliceArr n size lo hi => eSliceArr hp n size lo hi xs
  | .make size bytes zero => eMake nx size bytes zero xs
  | .append size bytes _ => eAppend nx hp size bytes xs
  | .mkfn fn nf => pure1 True (.fn fn (takeL nf xs) (dropL nf xs))
  | .eqv neg ks => eEqv neg ks xs
  | .eqb neg => eEqb neg xs
  | .isNil neg => eNil hp neg xs
  | .addc => eAddc xs
  | _ => none

/-! ### What a callee sees of the caller's own memory; results -/

def junks : List SV → List SV
  | [] => []
  | _ :: l => .junk :: junks l

def andT (t0 t : Bool) : Bool :=
  match t0 with
  | true => t
  | false => false

mutual
/-- 'r': how what a block of the call's own holds is seen; 't0': is it told that memory is new? -/
def view (t0 : Bool) (hp : List HO) (r : List SV → List SV) : SV → SV
  | .agg cs => .agg (viewL t0 hp r cs)
  | .tup cs => .tup (viewL t0 hp r cs)
  | .iface t v => .iface t (view t0 hp r v)
  | .fn f a b => .fn f (viewL t0 hp r a) (viewL t0 hp r b)
  | .vs t z m sz get => .vs (andT t0 t) z m sz fun k => viewL t0 hp r (get k)
  | .xp t cs => .xp (andT t0 t) (viewL t0 hp r cs)
  | .ptr i off => match getH hp i with
    | .box cs => .xp t0 (r (dropL off cs))
    | _ => .junk
  | .own i lo m sz => match getH hp i with
    | .own z sz' _ get => bif Nat.beq sz sz' then .vs t0 z m sz fun k => r (get (addLo lo k)) else .junk
    | _ => .junk
  | .elem i k off sz => match getH hp i with
    | .own _ sz' _ get => bif Nat.beq sz sz' then .xp t0 (r (dropL off (get k))) else .junk
    | _ => .junk
  | .opt _ _ => .junk
  | v => v
def viewL (t0 : Bool) (hp : List HO) (r : List SV → List SV) : List SV → List SV
  | [] => []
  | x :: l => view t0 hp r x :: viewL t0 hp r l
end

def viewN (t0 : Bool) (hp : List HO) : Nat → List SV → List SV
  | 0, l => junks l
  | n + 1, l => viewL t0 hp (viewN t0 hp n) l

/-- A result, as the caller is to see it. -/
def expo (hp : List HO) (r : SV) : SV := view true hp (viewN true hp 2) r

mutual
/-- The blocks of a result, told by other numbers. -/
def shift (d : Nat) : SV → SV
  | .agg cs => .agg (shiftL d cs)
  | .tup cs => .tup (shiftL d cs)
  | .iface t v => .iface t (shift d v)
  | .fn f a b => .fn f (shiftL d a) (shiftL d b)
  | .ptr i off => .ptr (d + i) off
  | .own i lo m sz => .own (d + i) lo m sz
  | .elem i k off sz => .elem (d + i) k off sz
  | .opt b v => .opt b (shift d v)
  | v => v
def shiftL (d : Nat) : List SV → List SV
  | [] => []
  | x :: l => shift d x :: shiftL d l
end

def shiftH (d : Nat) : List HO → List HO
  | [] => []
  | .box cs :: l => .box (shiftL d cs) :: shiftH d l
  | .own z sz n get :: l => .own z sz n (fun k => shiftL d (get k)) :: shiftH d l
  | .gone :: l => .gone :: shiftH d l

/-- What a contract says of a call: what is asked, what is given, in steps; at the end the result, and the blocks that came with it. -/
inductive CRes : Type 1 where
  | fin (r : SV) (hs : List HO)
  | pre (p : Prop) (c : CRes)
  | imp (p : Prop) (c : CRes)
  | all (α : Type) (c : α → CRes)
  | ex (α : Type) (c : α → CRes)

/-- A contract: of its arguments, as the callee sees them; whether the result may lead into the arguments' memory. -/
structure Ctr where
  alias : Bool
  of : List SV → CRes

/-- What there is to know of the program: contracts; functions that are entered in place. -/
structure Env where
  ct : FuncId → Option Ctr
  fn : FuncId → Option VF
  meth : TypeId → String → Option FuncId

inductive It : Type 1 where
  | code (c : VC)
  | ops (l : List VOp)
  | dops (l : List DOp)
  | inBlock (id : Nat)
  | inLoop (I : S → Prop)
  | frame (dst : Option Nat) (res : List VR)
  | rfrm (res : List VR) (l : Nat) (ps : List Nat) (a b : VC) (j : Option VC)
  | rbeg
  | rend (dst : Option Nat)
  | res (g : Option Bool) (al : Bool) (dst : Option Nat) (c : CRes)

/-- Where a jump leads: to what is left; out of a round of a range over a function (the iterator goes on, yield's answer is false); nowhere. -/
inductive PT : Type 1 where
  | go (K : List It)
  | jump (d : Option Nat) (K : List It)
  | no

/-- A jump is left for the end of the loop. -/
def jumpK (c : VC) : List It → List It
  | [] => []
  | .inLoop _ :: k => .inLoop (fun _ => False) :: jumpK c k
  | .rfrm res l ps a b _ :: k => .rfrm res l ps a b (some c) :: k
  | x :: k => x :: jumpK c k

/-- The loop whose iterator the frame on top runs. -/
def findR : List It → Option (Nat × List Nat × VC × VC)
  | .rfrm _ l ps a b none :: _ => some (l, ps, a, b)
  | .inBlock _ :: k => findR k
  | .inLoop _ :: k => findR k
  | .code _ :: k => findR k
  | .ops _ :: k => findR k
  | _ => none

/-- The frame on top is no round's. -/
def notRound : List It → Bool
  | .inBlock _ :: k => notRound k
  | .inLoop _ :: k => notRound k
  | .code _ :: k => notRound k
  | .ops _ :: k => notRound k
  | .rbeg :: _ => false
  | .rend _ :: _ => false
  | _ => true

def jumpPT (d : Option Nat) (K : List It) : Option (Nat × List Nat × VC × VC) → PT
  | some _ => .jump d K
  | none => .no

def popTo (id : Nat) : List It → PT
  | [] => .no
  | .inBlock j :: k => bif Nat.beq j id then .go k else popTo id k
  | .inLoop _ :: k => popTo id k
  | .code _ :: k => popTo id k
  | .ops _ :: k => popTo id k
  | .rend d :: k => jumpPT d (jumpK (.exit id) k) (findR k)
  | _ :: _ => .no

def popRet : List It → PT
  | [] => .go []
  | .inBlock _ :: k => popRet k
  | .inLoop _ :: k => popRet k
  | .code _ :: k => popRet k
  | .ops _ :: k => popRet k
  | .frame d r :: k => .go (.frame d r :: k)
  | .rfrm res l ps a b j :: k => .go (.rfrm res l ps a b j :: k)
  | .rend d :: k => jumpPT d (jumpK .ret k) (findR k)
  | _ :: _ => .no

def resVal (s : S) : VR → Option (Prop × SV)
  | .tmp t => some (True, getL s.fr t)
  | .cell t agg size => (eLoad s.hp agg size [getL s.fr t]).map fun e => (e.pre, e.val)

def resVals (s : S) : List VR → Option (Prop × List SV)
  | [] => some (True, [])
  | r :: l => (resVal s r).bind fun (p, v) => (resVals s l).map fun (q, vs) => (p ∧ q, v :: vs)

def tupled : List SV → SV
  | [x] => x
  | l => .tup l

def gbool (b : Bool) (pol : Bool) : Bool := match pol with | true => b | false => !b

/-- The guard of an operation: none: it is a value that no guard can be. -/
def guardOf (v : SV) (pol : Bool) : Option Bool :=
  match v with
  | .bool b => some (gbool b pol)
  | .opt c (.bool b) => some (c && gbool b pol)
  | _ => none

/-- A loop: what holds at its head, as a family of states. -/
def Loop (r : List It → S → Prop) (body : VC) (K : List It) (s : S) (le : S → S → Prop) : Prop :=
  ∃ (σ : Type) (head : σ → S) (inv : σ → Prop) (μ : σ → Nat),
    (∃ x, inv x ∧ le s (head x)) ∧ ∀ x, inv x → r (.code body :: .inLoop (fun s' => ∃ y, inv y ∧ μ y < μ x ∧ le s' (head y)) :: K) (head x)

/-! ### One state covers another one -/

mutual
/-- A value speaks of the first n blocks of the call's own alone. -/
def bnd (n : Nat) : SV → Prop
  | .agg cs => bndL n cs
  | .tup cs => bndL n cs
  | .ptr i _ => i < n
  | .own i _ _ _ => i < n
  | .elem i _ _ _ => i < n
  | .fn _ a b => bndL n a ∧ bndL n b
  | .iface _ v => bnd n v
  | .opt _ v => bnd n v
  | _ => True
def bndL (n : Nat) : List SV → Prop
  | [] => True
  | x :: l => bnd n x ∧ bndL n l
end

mutual
/-- Of values that speak of no block of the call's own. -/
def leX : SV → SV → Prop
  | _, .junk => True
  | .int k x, .int k' y => k = k' ∧ x = y
  | .bool a, .bool b => a = b
  | .nil, .vs _ z l _ _ => z = true ∧ l = 0
  | .agg cs, .agg ds => leXL cs ds
  | .tup cs, .tup ds => leXL cs ds
  | .vs t z l sz get, .vs t' z' l' sz' get' => (t' = true → t = true) ∧ z = z' ∧ l = l' ∧ sz = sz' ∧ ∀ k, k < l → leXL (get k) (get' k)
  | .xp t cs, .xp t' ds => (t' = true → t = true) ∧ leXL cs ds
  | a, b => a = b
def leXL : List SV → List SV → Prop
  | [], [] => True
  | x :: l, y :: r => leX x y ∧ leXL l r
  | _, _ => False
end

mutual
/-- 'm': how many blocks there are now; 'n': how many there are to be: the further ones are nil slices. -/
def le (m n : Nat) : SV → SV → Prop
  | _, .junk => True
  | .int k x, .int k' y => k = k' ∧ x = y
  | .bool a, .bool b => a = b
  | .nil, .own i lo l _ => m ≤ i ∧ i < n ∧ lo = 0 ∧ l = 0
  | .nil, .vs _ z l _ _ => z = true ∧ l = 0
  | .agg cs, .agg ds => leL m n cs ds
  | .tup cs, .tup ds => leL m n cs ds
  | .vs t z l sz get, .vs t' z' l' sz' get' => (t' = true → t = true) ∧ z = z' ∧ l = l' ∧ sz = sz' ∧ ∀ k, k < l → leXL (get k) (get' k)
  | .own i lo l sz, .own i' lo' l' sz' => i = i' ∧ lo = lo' ∧ l = l' ∧ sz = sz' ∧ i < n
  | .xp t cs, .xp t' ds => (t' = true → t = true) ∧ leXL cs ds
  | a, b => a = b ∧ bnd n b
def leL (m n : Nat) : List SV → List SV → Prop
  | [], [] => True
  | x :: l, y :: r => le m n x y ∧ leL m n l r
  | _, _ => False
end

def leLL (m n : Nat) : List (List SV) → List (List SV) → Prop
  | [], [] => True
  | x :: l, y :: r => leL m n x y ∧ leLL m n l r
  | _, _ => False

def leH1 (m n : Nat) : HO → HO → Prop
  | .box cs, .box ds => leL m n cs ds
  | .own z sz l get, .own z' sz' l' get' => z = z' ∧ sz = sz' ∧ l = l' ∧ ∀ k, k < l → leL m n (get k) (get' k)
  | .gone, .gone => True
  | _, _ => False

def leH (m n : Nat) : List HO → List HO → Prop
  | _, [] => True
  | [], .own z _ l _ :: r => z = true ∧ l = 0 ∧ leH m n [] r
  | [], _ :: _ => False
  | x :: l, y :: r => leH1 m n x y ∧ leH m n l r

def leS (s s' : S) : Prop :=
  leL (lenH s.hp) (lenH s'.hp) s.fr s'.fr ∧ leLL (lenH s.hp) (lenH s'.hp) s.saved s'.saved ∧ leH (lenH s.hp) (lenH s'.hp) s.hp s'.hp

def blankL : Nat → List SV
  | 0 => []
  | n + 1 => .junk :: blankL n

def padL : Nat → List SV → List SV
  | n, [] => blankL n
  | 0, l => l
  | n + 1, x :: l => x :: padL n l

def callArgs (f : SV) (xs : List SV) : Option (FuncId × List SV) :=
  match f with
  | .fn (.func g) a b => some (g, a ++ (xs ++ b))
  | _ => none

/-- Which function a call comes to, and with which arguments. -/
def callee (E : Env) (o : VO) (xs : List SV) : Option (FuncId × List SV) :=
  match o with
  | .call f => some (f, xs)
  | .callv => match xs with
    | f :: l => callArgs f l
    | [] => none
  | .invoke m => match xs with
    | .iface t v :: l => (E.meth t m).map fun f => (f, v :: l)
    | _ => none
  | _ => none

/-! The executor's parts that go on: each takes what it looks at as an argument, so that a rule for each form of it serves as a rewrite rule. -/

def inlK (r : List It → S → Prop) (d : Option Nat) (xs : List SV) (K : List It) (s : S) (o : Option VF) : Prop :=
  match o with
  | some vf => r (.code vf.body :: .frame d vf.res :: K) { fr := padL vf.ntmps xs, saved := s.fr :: s.saved, hp := s.hp }
  | none => False

def callK (E : Env) (r : List It → S → Prop) (d : Option Nat) (f : FuncId) (xs : List SV) (K : List It) (s : S) (o : Option Ctr) : Prop :=
  match o with
  | some c => r (.res none c.alias d (c.of (viewN false s.hp 3 xs)) :: K) s
  | none => inlK r d xs K s (E.fn f)

def effK (r : List It → S → Prop) (d : Option Nat) (K : List It) (s : S) (o : Option Ef) : Prop :=
  match o with
  | some e => e.pre ∧ r K ((s.upd e.upd).put d e.val)
  | none => False

/-- A call of yield: the loop's number, what is handed over. -/
def yld (o : VO) (xs : List SV) : Option (Nat × List SV) :=
  match o with
  | .callv => match xs with
    | .fn (.yield l) [] [] :: ys => some (l, ys)
    | _ => none
  | _ => none

def putPs : List SV → List Nat → List SV → List SV
  | fr, p :: ps, y :: ys => putPs (setL fr p y) ps ys
  | fr, _, _ => fr

def lenN : List Nat → Nat
  | [] => 0
  | _ :: l => lenN l + 1

/-- A round. -/
def yK (r : List It → S → Prop) (d : Option Nat) (l : Nat) (ys : List SV) (K : List It) (s : S) (o : Option (Nat × List Nat × VC × VC)) (sv : List (List SV)) : Prop :=
  match o, sv with
  | some (l', ps, a, b), fr :: _ => (l = l' ∧ lenL ys = lenN ps) ∧ r (.code a :: .rbeg :: .code b :: .rend d :: K) { fr := putPs fr ps ys, saved := s.fr :: s.saved, hp := s.hp }
  | _, _ => False

def yldK (r : List It → S → Prop) (d : Option Nat) (o : VO) (xs : List SV) (K : List It) (s : S) (y : Option (Nat × List SV)) : Prop :=
  match y with
  | some (l, ys) => yK r d l ys K s (findR K) s.saved
  | none => effK r d K s (eff s.hp (lenH s.hp) o xs)

/-- One operation, no guard. -/
def opK (E : Env) (r : List It → S → Prop) (d : Option Nat) (o : VO) (xs : List SV) (K : List It) (s : S) (c : Option (FuncId × List SV)) : Prop :=
  match c with
  | some (f, ys) => callK E r d f ys K s (E.ct f)
  | none => yldK r d o xs K s (yld o xs)

def runOp (E : Env) (r : List It → S → Prop) (d : Option Nat) (o : VO) (xs : List SV) (K : List It) (s : S) : Prop :=
  opK E r d o xs K s (callee E o xs)

def effG (r : List It → S → Prop) (gb : Bool) (d : Option Nat) (p : Prop) (K : List It) (s : S) (o : Option Ef) : Prop :=
  match o with
  | some ⟨q, v, .no⟩ => p ∧ (gb = true → q) ∧ r K (s.put d (.opt gb v))
  | _ => False

def callG (E : Env) (r : List It → S → Prop) (gb : Bool) (d : Option Nat) (o : VO) (p : Prop) (xs : List SV) (K : List It) (s : S) (c : Option Ctr) : Prop :=
  match c with
  | some c => p ∧ r (.res (some gb) c.alias d (c.of (viewN false s.hp 3 xs)) :: K) s
  | none => p ∧ (gb = true → runOp E r d o xs K s) ∧ (gb = false → r K (s.put d .junk))

/-- The contract of a guarded operation, if it is a call of a named function. -/
def ctOf (E : Env) (o : VO) : Option Ctr :=
  match o with
  | .call f => E.ct f
  | _ => none

/-- One operation under a guard. -/
def gK (E : Env) (r : List It → S → Prop) (gb : Bool) (d : Option Nat) (o : VO) (xs : Prop × List SV) (K : List It) (s : S) (q : Bool) : Prop :=
  match q with
  | true => effG r gb d xs.1 K s (eff s.hp (lenH s.hp) o xs.2)
  | false => callG E r gb d o xs.1 xs.2 K s (ctOf E o)

def guardK (E : Env) (r : List It → S → Prop) (d : Option Nat) (o : VO) (xs : List X) (K : List It) (s : S) (g : Option Bool) : Prop :=
  match g with
  | some gb => gK E r gb d o (unoptsO o gb (s.args xs)) K s o.quiet
  | none => False

def stepRes (r : List It → S → Prop) (al : Bool) (d : Option Nat) (K : List It) (s : S) (c : CRes) : Prop :=
  match c with
  | .fin v hs => (al = true → lenH s.hp = 0) ∧ r K (S.put { fr := s.fr, saved := s.saved, hp := s.hp ++ shiftH (lenH s.hp) hs } d (shift (lenH s.hp) v))
  | .pre p c => p ∧ r (.res none al d c :: K) s
  | .imp p c => p → r (.res none al d c :: K) s
  | .all α c => ∀ x : α, r (.res none al d (c x) :: K) s
  | .ex α c => ∃ x : α, r (.res none al d (c x) :: K) s

def stepResG (r : List It → S → Prop) (gb : Bool) (al : Bool) (d : Option Nat) (K : List It) (s : S) (c : CRes) : Prop :=
  match c with
  | .fin v [] => (al = true → lenH s.hp = 0) ∧ r K (s.put d (.opt gb (shift (lenH s.hp) v)))
  | .pre p c => (gb = true → p) ∧ r (.res (some gb) al d c :: K) s
  | .ex α c => ∃ x : α, r (.res (some gb) al d (c x) :: K) s
  | _ => False

def frameK (r : List It → S → Prop) (d : Option Nat) (K : List It) (hp : List HO) (v : Option (Prop × List SV)) (sv : List (List SV)) : Prop :=
  match v, sv with
  | some (p, vs), fr :: sv => p ∧ r K (S.put { fr := fr, saved := sv, hp := hp } d (tupled vs))
  | _, _ => False

def condK (r : List It → S → Prop) (a b : VC) (K : List It) (s : S) (v : SV) : Prop :=
  match v with
  | .bool c => (c = true → r (.code a :: K) s) ∧ (c = false → r (.code b :: K) s)
  | _ => False

/-- The end of a round. -/
def rendK (r : List It → S → Prop) (d : Option Nat) (b : Bool) (K : List It) (hp : List HO) (sv : List (List SV)) : Prop :=
  match sv with
  | fr :: sv => r K (S.put { fr := fr, saved := sv, hp := hp } d (.bool b))
  | [] => False

def jcode (j : Option VC) (K : List It) : List It :=
  match j with
  | some c => .code c :: K
  | none => K

/-- The end of an iterator. -/
def rfrmK (r : List It → S → Prop) (j : Option VC) (K : List It) (hp : List HO) (v : Option (Prop × List SV)) (sv : List (List SV)) : Prop :=
  match v, sv with
  | some (p, _), fr :: sv => p ∧ r (jcode j K) { fr := fr, saved := sv, hp := hp }
  | _, _ => False

def exitK (r : List It → S → Prop) (s : S) (K : PT) : Prop :=
  match K with
  | .go K' => r K' s
  | .jump d K' => rendK r d false K' s.hp s.saved
  | .no => False

def rangeE (r : List It → S → Prop) (ps : List Nat) (a b : VC) (K : List It) (s : S) (us cs : List SV) (o : Option VF) : Prop :=
  match o with
  | some vf => notRound K = true ∧ ∀ l : Nat, r (.code vf.body :: .rfrm vf.res l ps a b none :: K) { fr := padL vf.ntmps (us ++ (.fn (.yield l) [] [] :: cs)), saved := s.fr :: s.saved, hp := s.hp }
  | none => False

def rangeK (E : Env) (r : List It → S → Prop) (ps : List Nat) (a b : VC) (K : List It) (s : S) (f : SV) : Prop :=
  match f with
  | .fn (.func g) us cs => rangeE r ps a b K s us cs (E.fn g)
  | _ => False

/-! A region that draws its order. -/

def blk : SV → Option Nat
  | .ptr i _ => some i
  | .elem i _ _ _ => some i
  | .own i _ _ _ => some i
  | _ => none

def strip : SV → SV
  | .opt _ v => v
  | v => v

def apartB (a b : Option Nat) : Prop :=
  match a with
  | some i => match b with
    | some j => i ≠ j
    | none => True
  | none => True

def apartP (x y : SV) : Prop := apartB (blk (strip x)) (blk y)

def chkP (s : S) (y : SV) : List X → Prop
  | [] => True
  | x :: l => apartP (s.x x) y ∧ chkP s y l

/-- The block that it makes. -/
def AL.ho : AL → HO
  | .box z => .box z
  | .arr n size z => .own false size n (chunk size z)

/-- The state after the allocs. -/
def runAl : S → List (Nat × AL) → S
  | s, [] => s
  | s, (d, z) :: l => runAl ((s.upd (.new z.ho)).put (some d) (.ptr (lenH s.hp) 0)) l

def dq (r : List It → S → Prop) (d : Option Nat) (K : List It) (s : S) (o : Option Ef) : Prop :=
  match o with
  | some ⟨p, v, .no⟩ => p ∧ r K (s.put d v)
  | _ => False

def dct (r : List It → S → Prop) (d : Option Nat) (ys : List SV) (K : List It) (s : S) (o : Option Ctr) : Prop :=
  match o with
  | some c => r (.res none c.alias d (c.of (viewN false s.hp 3 ys)) :: K) s
  | none => False

def dcl (E : Env) (r : List It → S → Prop) (d : Option Nat) (o : VO) (xs : List SV) (K : List It) (s : S) (c : Option (FuncId × List SV)) : Prop :=
  match c with
  | some (f, ys) => dct r d ys K s (E.ct f)
  | none => effK r d K s (eff s.hp (lenH s.hp) o xs)

def dpl (E : Env) (r : List It → S → Prop) (d : Option Nat) (o : VO) (xs : List SV) (K : List It) (s : S) (q : Bool) : Prop :=
  match q with
  | true => dq r d K s (eff s.hp (lenH s.hp) o xs)
  | false => dcl E r d o xs K s (callee E o xs)

def dctG (r : List It → S → Prop) (gb : Bool) (d : Option Nat) (p : Prop) (xs : List SV) (K : List It) (s : S) (c : Option Ctr) : Prop :=
  match c with
  | some c => p ∧ r (.res (some gb) c.alias d (c.of (viewN false s.hp 3 xs)) :: K) s
  | none => False

def dgq (E : Env) (r : List It → S → Prop) (gb : Bool) (d : Option Nat) (o : VO) (xs : Prop × List SV) (K : List It) (s : S) (q : Bool) : Prop :=
  match q with
  | true => effG r gb d xs.1 K s (eff s.hp (lenH s.hp) o xs.2)
  | false => dctG r gb d xs.1 xs.2 K s (ctOf E o)

def dgd (E : Env) (r : List It → S → Prop) (d : Option Nat) (o : VO) (xs : List X) (K : List It) (s : S) (g : Option Bool) : Prop :=
  match g with
  | some gb => dgq E r gb d o (unoptsO o gb (s.args xs)) K s o.quiet
  | none => False

def dop (E : Env) (r : List It → S → Prop) (v : VOp) (K : List It) (s : S) : Prop :=
  match v.g with
  | none => dpl E r v.dst v.op (s.args v.xs) K s v.op.quiet
  | some (g, pol) => dgd E r v.dst v.op v.xs K s (guardOf (getL s.fr g) pol)

def stepDops (E : Env) (r : List It → S → Prop) (l : List DOp) (K : List It) (s : S) : Prop :=
  match l with
  | [] => r K s
  | ⟨v, chk⟩ :: l => chkP s (s.x (headX v.xs)) chk ∧ dop E r v (.dops l :: K) s

def endK (Q : SV → List HO → Prop) (hp : List HO) (v : Option (Prop × List SV)) : Prop :=
  match v with
  | some (p, vs) => p ∧ Q (tupled vs) hp
  | none => False

def stepOps (E : Env) (r : List It → S → Prop) (l : List VOp) (K : List It) (s : S) : Prop :=
  match l with
  | [] => r K s
  | o :: l => match o.g with
    | none => runOp E r o.dst o.op (s.args o.xs) (.ops l :: K) s
    | some (g, pol) => guardK E r o.dst o.op o.xs (.ops l :: K) s (guardOf (getL s.fr g) pol)

def stepCode (E : Env) (r : List It → S → Prop) (c : VC) (K : List It) (s : S) : Prop :=
  match c with
  | .skip => r K s
  | .region l => r (.ops l :: K) s
  | .draw al l => r (.dops l :: K) (runAl s al)
  | .rangeFn g ps a b => rangeK E r ps a b K s (s.x g)
  | .seq a b => r (.code a :: .code b :: K) s
  | .cond x a b => condK r a b K s (s.x x)
  | .block i c => r (.code c :: .inBlock i :: K) s
  | .loop c => Loop r c K s leS
  | .exit i => exitK r s (popTo i K)
  | .ret => exitK r s (popRet K)
  | .stuck => False

def step (E : Env) (Q : SV → List HO → Prop) (vres : List VR) (r : List It → S → Prop) (K : List It) (s : S) : Prop :=
  match K with
  | [] => endK Q s.hp (resVals s vres)
  | x :: K => match x with
    | .ops l => stepOps E r l K s
    | .dops l => stepDops E r l K s
    | .rfrm res _ _ _ _ j => rfrmK r j K s.hp (resVals s res) s.saved
    | .rbeg => r K s
    | .rend d => rendK r d true K s.hp s.saved
    | .inBlock _ => r K s
    | .inLoop I => I s
    | .frame d res => frameK r d K s.hp (resVals s res) s.saved
    | .res none al d c => stepRes r al d K s c
    | .res (some gb) al d c => stepResG r gb al d K s c
    | .code c => stepCode E r c K s

/-- THE EXECUTOR. 'Q': what is asked of the result, and of the blocks of the call's own; 'vres': where the result lies. -/
def run (E : Env) (Q : SV → List HO → Prop) (vres : List VR) : Nat → List It → S → Prop
  | 0, _, _ => False
  | n + 1, K, s => step E Q vres (run E Q vres n) K s

/-! ### The executor's rules, for dsimp -/
section rules
variable (E : Env) (Q : SV → List HO → Prop) (vr : List VR) (n : Nat) (K : List It) (s : S) (r : List It → S → Prop)

theorem r_end : run E Q vr (n + 1) [] s = endK Q s.hp (resVals s vr) := rfl
theorem r_end1 (hp : List HO) (p : Prop) (vs : List SV) : endK Q hp (some (p, vs)) = (p ∧ Q (tupled vs) hp) := rfl
theorem r_nil : run E Q vr (n + 1) (.ops [] :: K) s = run E Q vr n K s := rfl
theorem r_op (d : Option Nat) (o : VO) (xs : List X) (l : List VOp) : run E Q vr (n + 1) (.ops (⟨d, none, o, xs⟩ :: l) :: K) s = opK E (run E Q vr n) d o (s.args xs) (.ops l :: K) s (callee E o (s.args xs)) := rfl
theorem r_opg (d : Option Nat) (g : Nat) (pol : Bool) (o : VO) (xs : List X) (l : List VOp) : run E Q vr (n + 1) (.ops (⟨d, some (g, pol), o, xs⟩ :: l) :: K) s = guardK E (run E Q vr n) d o xs (.ops l :: K) s (guardOf (getL s.fr g) pol) := rfl
theorem r_runOp (d : Option Nat) (o : VO) (xs : List SV) : runOp E r d o xs K s = opK E r d o xs K s (callee E o xs) := rfl
theorem r_op0 (d : Option Nat) (o : VO) (xs : List SV) : opK E r d o xs K s none = yldK r d o xs K s (yld o xs) := rfl
theorem r_yld0 (d : Option Nat) (o : VO) (xs : List SV) : yldK r d o xs K s none = effK r d K s (eff s.hp (lenH s.hp) o xs) := rfl
theorem r_yld1 (d : Option Nat) (o : VO) (xs ys : List SV) (l : Nat) : yldK r d o xs K s (some (l, ys)) = yK r d l ys K s (findR K) s.saved := rfl
theorem r_y (d : Option Nat) (l l' : Nat) (ys fr : List SV) (ps : List Nat) (a b : VC) (sv : List (List SV)) : yK r d l ys K s (some (l', ps, a, b)) (fr :: sv) = ((l = l' ∧ lenL ys = lenN ps) ∧ r (.code a :: .rbeg :: .code b :: .rend d :: K) { fr := putPs fr ps ys, saved := s.fr :: s.saved, hp := s.hp }) := rfl
theorem r_rbeg : run E Q vr (n + 1) (.rbeg :: K) s = run E Q vr n K s := rfl
theorem r_rend (d : Option Nat) : run E Q vr (n + 1) (.rend d :: K) s = rendK (run E Q vr n) d true K s.hp s.saved := rfl
theorem r_rend1 (d : Option Nat) (b : Bool) (hp : List HO) (fr : List SV) (sv : List (List SV)) : rendK r d b K hp (fr :: sv) = r K (S.put { fr := fr, saved := sv, hp := hp } d (.bool b)) := rfl
theorem r_rfrm (res : List VR) (l : Nat) (ps : List Nat) (a b : VC) (j : Option VC) : run E Q vr (n + 1) (.rfrm res l ps a b j :: K) s = rfrmK (run E Q vr n) j K s.hp (resVals s res) s.saved := rfl
theorem r_rfrm1 (j : Option VC) (hp : List HO) (p : Prop) (vs fr : List SV) (sv : List (List SV)) : rfrmK r j K hp (some (p, vs)) (fr :: sv) = (p ∧ r (jcode j K) { fr := fr, saved := sv, hp := hp }) := rfl
theorem r_range (g : X) (ps : List Nat) (a b : VC) : run E Q vr (n + 1) (.code (.rangeFn g ps a b) :: K) s = rangeK E (run E Q vr n) ps a b K s (s.x g) := rfl
theorem r_rangeK (ps : List Nat) (a b : VC) (g : FuncId) (us cs : List SV) : rangeK E r ps a b K s (.fn (.func g) us cs) = rangeE r ps a b K s us cs (E.fn g) := rfl
theorem r_rangeE (ps : List Nat) (a b : VC) (us cs : List SV) (nt : Nat) (res : List VR) (body : VC) : rangeE r ps a b K s us cs (some ⟨nt, res, body⟩) = (notRound K = true ∧ ∀ l : Nat, r (.code body :: .rfrm res l ps a b none :: K) { fr := padL nt (us ++ (.fn (.yield l) [] [] :: cs)), saved := s.fr :: s.saved, hp := s.hp }) := rfl
theorem r_draw (al : List (Nat × AL)) (l : List DOp) : run E Q vr (n + 1) (.code (.draw al l) :: K) s = run E Q vr n (.dops l :: K) (runAl s al) := rfl
theorem r_dnil : run E Q vr (n + 1) (.dops [] :: K) s = run E Q vr n K s := rfl
theorem r_dop (d : Option Nat) (o : VO) (xs : List X) (chk : List X) (l : List DOp) : run E Q vr (n + 1) (.dops (⟨⟨d, none, o, xs⟩, chk⟩ :: l) :: K) s = (chkP s (s.x (headX xs)) chk ∧ dpl E (run E Q vr n) d o (s.args xs) (.dops l :: K) s o.quiet) := rfl
theorem r_dopg (d : Option Nat) (g : Nat) (pol : Bool) (o : VO) (xs : List X) (chk : List X) (l : List DOp) : run E Q vr (n + 1) (.dops (⟨⟨d, some (g, pol), o, xs⟩, chk⟩ :: l) :: K) s = (chkP s (s.x (headX xs)) chk ∧ dgd E (run E Q vr n) d o xs (.dops l :: K) s (guardOf (getL s.fr g) pol)) := rfl
theorem r_dplq (d : Option Nat) (o : VO) (xs : List SV) : dpl E r d o xs K s true = dq r d K s (eff s.hp (lenH s.hp) o xs) := rfl
theorem r_dplh (d : Option Nat) (o : VO) (xs : List SV) : dpl E r d o xs K s false = dcl E r d o xs K s (callee E o xs) := rfl
theorem r_dq (d : Option Nat) (p : Prop) (v : SV) : dq r d K s (some ⟨p, v, .no⟩) = (p ∧ r K (s.put d v)) := rfl
theorem r_dq0 (d : Option Nat) : dq r d K s none = False := rfl
theorem r_dcl1 (d : Option Nat) (o : VO) (xs ys : List SV) (f : FuncId) : dcl E r d o xs K s (some (f, ys)) = dct r d ys K s (E.ct f) := rfl
theorem r_dcl0 (d : Option Nat) (o : VO) (xs : List SV) : dcl E r d o xs K s none = effK r d K s (eff s.hp (lenH s.hp) o xs) := rfl
theorem r_dct1 (d : Option Nat) (ys : List SV) (al : Bool) (c : List SV → CRes) : dct r d ys K s (some ⟨al, c⟩) = r (.res none al d (c (viewN false s.hp 3 ys)) :: K) s := rfl
theorem r_dct0 (d : Option Nat) (ys : List SV) : dct r d ys K s none = False := rfl
theorem r_dgd (d : Option Nat) (o : VO) (xs : List X) (gb : Bool) : dgd E r d o xs K s (some gb) = dgq E r gb d o (unoptsO o gb (s.args xs)) K s o.quiet := rfl
theorem r_dgq1 (gb : Bool) (d : Option Nat) (o : VO) (p : Prop) (xs : List SV) : dgq E r gb d o (p, xs) K s true = effG r gb d p K s (eff s.hp (lenH s.hp) o xs) := rfl
theorem r_dgq0 (gb : Bool) (d : Option Nat) (o : VO) (p : Prop) (xs : List SV) : dgq E r gb d o (p, xs) K s false = dctG r gb d p xs K s (ctOf E o) := rfl
theorem r_dctG (gb : Bool) (d : Option Nat) (p : Prop) (xs : List SV) (al : Bool) (c : List SV → CRes) : dctG r gb d p xs K s (some ⟨al, c⟩) = (p ∧ r (.res (some gb) al d (c (viewN false s.hp 3 xs)) :: K) s) := rfl
theorem r_op1 (d : Option Nat) (o : VO) (xs ys : List SV) (f : FuncId) : opK E r d o xs K s (some (f, ys)) = callK E r d f ys K s (E.ct f) := rfl
theorem r_eff (d : Option Nat) (p : Prop) (v : SV) (u : Upd) : effK r d K s (some ⟨p, v, u⟩) = (p ∧ r K ((s.upd u).put d v)) := rfl
theorem r_eff0 (d : Option Nat) : effK r d K s none = False := rfl
theorem r_call (d : Option Nat) (f : FuncId) (xs : List SV) (al : Bool) (c : List SV → CRes) : callK E r d f xs K s (some ⟨al, c⟩) = r (.res none al d (c (viewN false s.hp 3 xs)) :: K) s := rfl
theorem r_call0 (d : Option Nat) (f : FuncId) (xs : List SV) : callK E r d f xs K s none = inlK r d xs K s (E.fn f) := rfl
theorem r_inl (d : Option Nat) (xs : List SV) (nt : Nat) (res : List VR) (b : VC) : inlK r d xs K s (some ⟨nt, res, b⟩) = r (.code b :: .frame d res :: K) { fr := padL nt xs, saved := s.fr :: s.saved, hp := s.hp } := rfl
theorem r_g (d : Option Nat) (o : VO) (xs : List X) (gb : Bool) : guardK E r d o xs K s (some gb) = gK E r gb d o (unoptsO o gb (s.args xs)) K s o.quiet := rfl
theorem r_gq (gb : Bool) (d : Option Nat) (o : VO) (p : Prop) (xs : List SV) : gK E r gb d o (p, xs) K s true = effG r gb d p K s (eff s.hp (lenH s.hp) o xs) := rfl
theorem r_gc (gb : Bool) (d : Option Nat) (o : VO) (p : Prop) (xs : List SV) : gK E r gb d o (p, xs) K s false = callG E r gb d o p xs K s (ctOf E o) := rfl
theorem r_effg (gb : Bool) (d : Option Nat) (p q : Prop) (v : SV) : effG r gb d p K s (some ⟨q, v, .no⟩) = (p ∧ (gb = true → q) ∧ r K (s.put d (.opt gb v))) := rfl
theorem r_effg0 (gb : Bool) (d : Option Nat) (p : Prop) : effG r gb d p K s none = False := rfl
theorem r_callg (gb : Bool) (d : Option Nat) (o : VO) (p : Prop) (xs : List SV) (al : Bool) (c : List SV → CRes) : callG E r gb d o p xs K s (some ⟨al, c⟩) = (p ∧ r (.res (some gb) al d (c (viewN false s.hp 3 xs)) :: K) s) := rfl
theorem r_callg0 (gb : Bool) (d : Option Nat) (o : VO) (p : Prop) (xs : List SV) : callG E r gb d o p xs K s none = (p ∧ (gb = true → runOp E r d o xs K s) ∧ (gb = false → r K (s.put d .junk))) := rfl
theorem r_fin (al : Bool) (d : Option Nat) (v : SV) (hs : List HO) : run E Q vr (n + 1) (.res none al d (.fin v hs) :: K) s = ((al = true → lenH s.hp = 0) ∧ run E Q vr n K (S.put { fr := s.fr, saved := s.saved, hp := s.hp ++ shiftH (lenH s.hp) hs } d (shift (lenH s.hp) v))) := rfl
theorem r_pre (al : Bool) (d : Option Nat) (p : Prop) (c : CRes) : run E Q vr (n + 1) (.res none al d (.pre p c) :: K) s = (p ∧ run E Q vr n (.res none al d c :: K) s) := rfl
theorem r_imp (al : Bool) (d : Option Nat) (p : Prop) (c : CRes) : run E Q vr (n + 1) (.res none al d (.imp p c) :: K) s = (p → run E Q vr n (.res none al d c :: K) s) := rfl
theorem r_all (al : Bool) (d : Option Nat) (α : Type) (c : α → CRes) : run E Q vr (n + 1) (.res none al d (.all α c) :: K) s = (∀ x : α, run E Q vr n (.res none al d (c x) :: K) s) := rfl
theorem r_ex (al : Bool) (d : Option Nat) (α : Type) (c : α → CRes) : run E Q vr (n + 1) (.res none al d (.ex α c) :: K) s = (∃ x : α, run E Q vr n (.res none al d (c x) :: K) s) := rfl
theorem r_fing (gb al : Bool) (d : Option Nat) (v : SV) : run E Q vr (n + 1) (.res (some gb) al d (.fin v []) :: K) s = ((al = true → lenH s.hp = 0) ∧ run E Q vr n K (s.put d (.opt gb (shift (lenH s.hp) v)))) := rfl
theorem r_preg (gb al : Bool) (d : Option Nat) (p : Prop) (c : CRes) : run E Q vr (n + 1) (.res (some gb) al d (.pre p c) :: K) s = ((gb = true → p) ∧ run E Q vr n (.res (some gb) al d c :: K) s) := rfl
theorem r_exg (gb al : Bool) (d : Option Nat) (α : Type) (c : α → CRes) : run E Q vr (n + 1) (.res (some gb) al d (.ex α c) :: K) s = (∃ x : α, run E Q vr n (.res (some gb) al d (c x) :: K) s) := rfl
theorem r_inBlock (i : Nat) : run E Q vr (n + 1) (.inBlock i :: K) s = run E Q vr n K s := rfl
theorem r_inLoop (I : S → Prop) : run E Q vr (n + 1) (.inLoop I :: K) s = I s := rfl
theorem r_frame (d : Option Nat) (res : List VR) : run E Q vr (n + 1) (.frame d res :: K) s = frameK (run E Q vr n) d K s.hp (resVals s res) s.saved := rfl
theorem r_frame1 (d : Option Nat) (hp : List HO) (p : Prop) (vs fr : List SV) (sv : List (List SV)) : frameK r d K hp (some (p, vs)) (fr :: sv) = (p ∧ r K (S.put { fr := fr, saved := sv, hp := hp } d (tupled vs))) := rfl
theorem r_skip : run E Q vr (n + 1) (.code .skip :: K) s = run E Q vr n K s := rfl
theorem r_stuck : run E Q vr (n + 1) (.code .stuck :: K) s = False := rfl
theorem r_region (l : List VOp) : run E Q vr (n + 1) (.code (.region l) :: K) s = run E Q vr n (.ops l :: K) s := rfl
theorem r_seq (a b : VC) : run E Q vr (n + 1) (.code (.seq a b) :: K) s = run E Q vr n (.code a :: .code b :: K) s := rfl
theorem r_cond (x : X) (a b : VC) : run E Q vr (n + 1) (.code (.cond x a b) :: K) s = condK (run E Q vr n) a b K s (s.x x) := rfl
theorem r_cond1 (a b : VC) (c : Bool) : condK r a b K s (.bool c) = ((c = true → r (.code a :: K) s) ∧ (c = false → r (.code b :: K) s)) := rfl
theorem r_block (i : Nat) (c : VC) : run E Q vr (n + 1) (.code (.block i c) :: K) s = run E Q vr n (.code c :: .inBlock i :: K) s := rfl
theorem r_exit (i : Nat) : run E Q vr (n + 1) (.code (.exit i) :: K) s = exitK (run E Q vr n) s (popTo i K) := rfl
theorem r_exit1 (K' : List It) : exitK r s (.go K') = r K' s := rfl
theorem r_exit2 (d : Option Nat) (K' : List It) : exitK r s (.jump d K') = rendK r d false K' s.hp s.saved := rfl
theorem r_ret : run E Q vr (n + 1) (.code .ret :: K) s = exitK (run E Q vr n) s (popRet K) := rfl
theorem r_loop (c : VC) : run E Q vr (n + 1) (.code (.loop c) :: K) s = Loop (run E Q vr n) c K s leS := rfl
theorem s_args0 : s.args [] = [] := rfl
theorem s_args1 (x : X) (l : List X) : s.args (x :: l) = s.x x :: s.args l := rfl
theorem s_xt (i : Nat) : s.x (.tm i) = getL s.fr i := rfl
theorem s_xc (v : SV) : s.x (.cn v) = v := rfl
end rules

end Go.Vx
