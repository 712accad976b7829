/- A symbolic executor for the walk: an intermediate form of the code (types resolved), symbolic values, states, and the executor 'run', a function into Prop that dsimp evaluates. Its soundness stands in the next text. -/
import Derived.WalkKit
import Derived.ChangeKeysEq
open Array renaming getElem?_eq_some_iff->YGX
open Bool renaming and_eq_true->YGi,eq_iff_iff->YHz,false_eq_true->YGC,not_eq_true'->YGA
open List renaming getD_eq_getElem?_getD->YGl,getElem?_append->YHs,getElem?_append_left->YGR,getElem?_take->YHl,length_append->YHg,length_cons->YHf,length_take->YHb,map_cons->YGY,mem_append->YGT,mem_cons->YGK
open Nat renaming add_mul->YGG,add_zero->YHi,beq->YGS,ble->YHG,div_add_mod->YGP,eq_of_beq_eq_true->YGD,le_of_eq->YGu,le_of_lt->YHn,le_refl->YGr,le_trans->YGg,lt_or_ge->YGz,mul_comm->YGj,mul_le_mul_right->YGf,mul_one->YHj,succ_mul->YHD,zero_add->YHu
open Option renaming bind_eq_some_iff->YGe,map_eq_some_iff->YGh
set_option linter.all false
namespace Go.Vx
inductive IK where
 |ints (n:Nat) (C:Nat->Int->Prop)
 |map (kk:List IntKind) (C:List Int->Int->Prop)
inductive SV where
 |int (k:IntKind) (n:Int)
 |bool (b:Bool)
 |val (v:Value)
 |nil
 |agg (cs:List SV)
 |tup (cs:List SV)
 |vs (t z:Bool) (n size:Nat) (get:Nat->List SV)
 |xp (t:Bool) (cells:List SV)
 |ptr (i off:Nat)
 |own (i lo n size:Nat)
 |elem (i k off size:Nat)
 |fn (f:Fn) (first cap:List SV)
 |iface (t:TypeId) (v:SV)
 |opt (b:Bool) (v:SV)
 |cut (v:SV)
 |row (n:Nat) (C:Nat->Int->Prop)
 |rcell (C:Int->Prop)
 |imap (kk:List IntKind) (C:List Int->Int->Prop)
 |smp (i:Nat)
 |junk
 deriving Inhabited
inductive HO where
 |box (cells:List SV)
 |own (z:Bool) (size n:Nat) (get:Nat->List SV)
 |smap (l:List (List UInt8))
 |gone
inductive X where
 |tm (n:Nat)
 |cn (v:SV)
inductive Cmp where
 |eql|neq|lss|leq|gtr|geq
inductive Ari where
 |add|sub|mul
inductive Bit where
 |and|or|xor|andNot
inductive VO where
 |mov
 |and|or
 |alloc (cells:List SV)
 |allocArr (n size:Nat) (cells:List SV)
 |box
 |build (zero:List SV) (parts:List (Nat×Nat))
 |buildSlice (size len:Nat) (zero:List SV) (parts:List (Nat×Nat))
 |load (agg:Bool) (size:Nat)
 |store (size:Nat)
 |ari (o:Ari)
 |cmp (o:Cmp)
 |bit (o:Bit)
 |quo|rem|shl|shr
 |not|neg
 |conv (k:IntKind)
 |len|lenStr|lenArr (n:Nat) |min|max
 |append (size bytes:Nat) (zero:List SV)
 |fieldAddr (off:Nat)
 |field (agg:Bool) (off size:Nat)
 |idxAddr (size:Nat)
 |idxArr (n size:Nat)
 |index (agg:Bool) (n size:Nat)
 |slice (size:Nat) (lo hi:Bool)
 |slice3 (size:Nat)
 |sliceArr (n size:Nat) (lo hi:Bool)
 |make (size bytes:Nat) (zero:List SV)
 |call (f:FuncId)
 |callv
 |mkfn (fn:Fn) (nfirst:Nat)
 |ext (i:Nat)
 |iface (t:TypeId)
 |invoke (name:String)
 |eqb (neg:Bool)
 |eqv (neg:Bool) (ks:List Bool)
 |isNil (neg:Bool)
 |addc
 |nilCheck
 |idxStr
 |eqStr (neg:Bool)
 |mkSet
 |setAdd
 |lenSet
 |mkMap (kk:List IntKind)
 |mapGet (kk:List IntKind)
 |mapPut (kk:List IntKind)
structure VOp where
 dst:Option Nat
 g:Option (Nat×Bool)
 op:VO
 xs:List X
@[reducible] def u0 (o:VO) (x:List X):VOp:=⟨none,none,o,x⟩
@[reducible] def u1 (d:Nat) (o:VO) (x:List X):VOp:=⟨some d,none,o,x⟩
@[reducible] def u2 (d g:Nat) (b:Bool) (o:VO) (x:List X):VOp:=⟨some d,some (g,b),o,x⟩
inductive AL where
 |box (z:List SV)
 |arr (n size:Nat) (z:List SV)
structure DOp where
 op:VOp
 chk:List X
@[reducible] def w0 (o:VO) (x:List X):DOp:=⟨⟨none,none,o,x⟩,[]⟩
@[reducible] def w1 (d:Nat) (o:VO) (x:List X):DOp:=⟨⟨some d,none,o,x⟩,[]⟩
inductive DTr where
 |leaf
 |ops (l:List DOp) (t:DTr)
 |br (a b:DTr)
inductive VC where
 |region (l:List VOp)
 |draw (al:List (Nat×AL)) (l:List DOp)
 |drawT (al:List (Nat×AL)) (t:DTr)
 |rangeFn (g:X) (ps:List Nat) (a b:VC)
 |seq (a b:VC)
 |cond (x:X) (a b:VC)
 |block (id:Nat) (c:VC)
 |scope (c:VC)
 |loop (c:VC)
 |exit (id:Nat)
 |ret
 |skip
 |stuck
inductive VR where
 |tmp (t:Nat)
 |cell (t:Nat) (agg:Bool) (size:Nat)
structure VF where
 ntmps:Nat
 res:List VR
 body:VC
def YfN:Value->SV
 | .int k n=> .int k n
 | .bool b=> .bool b
 | .slice none 0 0=> .nil
 |v=> .val v
def svOf:Value->SV
 | .agg cs=> .agg (cs.toList.map YfN)
 |v=>YfN v
def X.of:Operand->Option X
 | .tmp t=>some (.tm t)
 | .const v=>some (.cn (svOf v))
 | .func f=>some (.cn (.fn (.func f) [] []))
 | .global _=>none
def X.ofs:List Operand->Option (List X)
 | []=>some []
 |x::l=>(X.of x).bind fun y=>(X.ofs l).map (y::·)
def Yah(P:Program)(t:TypeId):Option (List SV):=
 (P.info? t).bind fun i=>i.zero.map fun v=>v.cells.toList.map YfN
def Yeu(P:Program)(t:TypeId):Option Bool:=
 (P.underlying t).map fun| .struct _=>true| .array _ _=>true|_=>false
def sizeOf?(P:Program)(t:TypeId):Option Nat:=(P.info? t).map (·.size)
def bytesOf?(P:Program)(t:TypeId):Option Nat:=(P.info? t).map (·.bytes)
def YkZ(P:Program)(t:TypeId):Bool:=
 match P.underlying t with
 |some (.int _)=>true
 |some .bool=>true
 |_=>false
def YjF(P:Program)(t:TypeId):Bool:=
 match P.info? t with
 |some i=>i.size==1
 |none=>false
def Yrd(P:Program)(t:TypeId):Bool:=
 match P.underlying t with
 |some (.int _)=>true
 |_=>false
def Ygf(P:Program)(t:TypeId):Bool:=
 match P.underlying t with
 |some .bool=>true
 |_=>false
def Yfh(P:Program)(t:TypeId):Bool:=
 match P.underlying t with
 |some (.slice _)=>true
 |_=>false
def YfV(P:Program)(t:TypeId):Option Bool:=
 match P.underlying t with
 |some (.int _)=>some true
 |some .bool=>some false
 |_=>none
def YeH(P:Program):Nat->List Field->Option (List Bool)
 |_,[]=>some []
 |k,f::fs=>if YjF P f.type&&f.offset==k&&f.name != "_" then(YfV P f.type).bind fun b=>(YeH P (k+1) fs).map (b::·)else none
def repK:Nat->Bool->List Bool
 |0,_=>[]
 |n+1,b=>b::repK n b
def Ygo(P:Program)(t:TypeId):Option (List Bool):=
 match P.underlying t with
 |some (.array n e)=>if !P.eqGuardType P.depth t&&YjF P e then(YfV P e).map (repK n)else none
 |some (.struct fs)=>if !P.stoodInHeld t&& !P.eqGuardType P.depth t then YeH P 0 fs.toList else none
 |_=>none
def YjJ(P:Program)(t:TypeId):Bool:=
 match P.underlying t with
 |some .string=>true
 |_=>false
def YfG(P:Program)(t:TypeId):Bool:=
 match P.underlying t with
 |some (.map k e)=>YjJ P k&&(match P.underlying e with|some (.struct fs)=>fs.isEmpty|_=>false)
 |_=>false
def Ydi(P:Program):Nat->List Field->Option (List IntKind)
 |_,[]=>some []
 |k,f::fs=>if YjF P f.type&&f.offset==k&&f.name != "_" then
   match P.underlying f.type with
   |some (.int kd)=>(Ydi P (k+1) fs).map (kd::·)
   |_=>none
  else none
def Ywx(P:Program)(t:TypeId):Bool:=
 match P.info? t with
 |some i=>match i.zero with
  |some (.int .i64 0)=>true
  |_=>false
 |none=>false
def Ycc(P:Program)(t:TypeId):Option (List IntKind):=
 match P.underlying t with
 |some (.map k e)=>match P.underlying k with
  |some (.struct fs)=>if Ywx P e&& !P.stoodInHeld k then Ydi P 0 fs.toList else none
  |_=>none
 |_=>none
def fieldsOf(P:Program)(t:TypeId):Option (List Field):=
 match P.underlying t with
 |some (.struct fs)=>some fs.toList
 |_=>none
def Ye5(P:Program)(t:TypeId):Option (List (Nat×Nat)):=
 match P.underlying t with
 |some (.struct fs)=>fs.toList.mapM fun f=>(sizeOf? P f.type).map fun s=>(f.offset,s)
 |some (.array n e)=>(sizeOf? P e).map fun s=>(List.range n).map fun i=>(i*s,s)
 |_=>none
def vcmp:BinOp->Option Cmp
 | .eql=>some .eql| .neq=>some .neq| .lss=>some .lss| .leq=>some .leq| .gtr=>some .gtr| .geq=>some .geq
 |_=>none
def vbin(P:Program)(op:BinOp)(t:TypeId):Option VO:=
 match op with
 | .add=>if YkZ P t then some (.ari .add)else none
 | .sub=>if YkZ P t then some (.ari .sub)else none
 | .mul=>some (.ari .mul)
 | .quo=>some .quo
 | .rem=>some .rem
 | .and=>some (.bit .and)
 | .or=>some (.bit .or)
 | .xor=>some (.bit .xor)
 | .andNot=>some (.bit .andNot)
 | .shl=>some .shl
 | .shr=>some .shr
 | .eql=>if Yrd P t then some (.cmp .eql)else if Ygf P t then some (.eqb false)else if YjJ P t then some (.eqStr false)else(Ygo P t).map (.eqv false)
 | .neq=>if Yrd P t then some (.cmp .neq)else if Ygf P t then some (.eqb true)else if YjJ P t then some (.eqStr true)else(Ygo P t).map (.eqv true)
 | .lss=>some (.cmp .lss)
 | .leq=>some (.cmp .leq)
 | .gtr=>some (.cmp .gtr)
 | .geq=>some (.cmp .geq)
def Yre(P:Program)(f:FuncId):Bool:=
 match P.funcs[f]? with
 |some fn=>fn.body.isNone&&fn.name== "math/bits.Add64" &&fn.origin== ""
 |none=>false
def chk(g:Bool)(s:Nat):Bool:=g|| s==1
def vop(P:Program)(o:Oper):Option (VO×List Operand):=
 match o.op with
 | .move x| .assign x=>some (.mov,[x])
 | .nilCheck x=>some (.nilCheck,[x])
 | .makeMap t r=>match r with
   |none=>(Ycc P t).map fun kk=>(.mkMap kk,[])
   |some h=>if YfG P t then some (.mkSet,[h])else none
 | .mapUpdate t m k x=>if YfG P t then some (.setAdd,[m,k,x])else(Ycc P t).map fun kk=>(.mapPut kk,[m,k,x])
 | .lookup t m k true=>(Ycc P t).map fun kk=>(.mapGet kk,[m,k])
 | .pick c a (.const (.bool false))=>some (.and,[c,a])
 | .pick c (.const (.bool true)) b=>some (.or,[c,b])
 | .alloc e=>
   match P.underlying e with
   |some (.array n t)=>(Yah P e).bind fun z=>(sizeOf? P t).map fun s=>(.allocArr n s z,[])
   |_=>(Yah P e).map fun z=>(.alloc z,[])
 | .box _ x=>some (.box,[x])
 | .build t parts=>(Yah P t).bind fun z=>(Ye5 P t).bind fun pl=>if parts.toList.all (fun x=>decide (x.1<pl.length))then some (.build z (parts.toList.map fun p=>pl.getD p.1 (0,0)),parts.toList.map (·.2))else none
 | .load t a=>(Yeu P t).bind fun g=>(sizeOf? P t).bind fun s=>if chk g s then some (.load g s,[a])else none
 | .store t a x=>(sizeOf? P t).map fun s=>(.store s,[a,x])
 | .binOp .eql t x (.const (.slice none 0 0)) _=>if Yfh P t then some (.isNil false,[x,.const (.slice none 0 0)])else none
 | .binOp .neq t x (.const (.slice none 0 0)) _=>if Yfh P t then some (.isNil true,[x,.const (.slice none 0 0)])else none
 | .binOp op t x y _=>(vbin P op t).map fun v=>(v,[x,y])
 | .unOp .not _ x=>some (.not,[x])
 | .unOp .neg _ x=>some (.neg,[x])
 | .convert s d x=>match P.underlying s,P.underlying d with
   |some _,some (.int k)=>some (.conv k,[x])
   |_,_=>none
 | .fieldAddr s x f=>(fieldsOf P s).bind fun fs=>(fs[f]?).bind fun fd=>(sizeOf? P fd.type).bind fun z=>if z=0 then none else some (.fieldAddr fd.offset,[x])
 | .field s x f=>(fieldsOf P s).bind fun fs=>(fs[f]?).bind fun fd=>(sizeOf? P fd.type).bind fun z=>(Yeu P fd.type).bind fun g=>if chk g z then some (.field g fd.offset z,[x])else none
 | .indexAddr t x i=>match P.underlying t with
   |some (.slice e)=>(sizeOf? P e).map fun s=>(.idxAddr s,[x,i])
   |some (.array n e)=>(sizeOf? P e).map fun s=>(.idxArr n s,[x,i])
   |_=>none
 | .index t x i=>match P.underlying t with
   |some (.array n e)=>(sizeOf? P e).bind fun s=>(Yeu P e).bind fun g=>if chk g s then some (.index g n s,[x,i])else none
   |some .string=>some (.idxStr,[x,i])
   |_=>none
 | .slice t x lo hi none=>match P.underlying t with
   |some (.slice e)=>(sizeOf? P e).map fun s=>(.slice s lo.isSome hi.isSome,x::(lo.toList++hi.toList))
   |some (.array n e)=>(sizeOf? P e).map fun s=>(.sliceArr n s lo.isSome hi.isSome,x::(lo.toList++hi.toList))
   |_=>none
 | .slice t x none (some hi) (some mx)=>match P.underlying t with
   |some (.slice e)=>(sizeOf? P e).map fun s=>(.slice3 s,[x,hi,mx])
   |_=>none
 | .makeSlice t l c=>match P.underlying t with
   |some (.slice e)=>(sizeOf? P e).bind fun s=>(bytesOf? P e).bind fun b=>(Yah P e).bind fun z=>if 0<b/\0<s then some (.make s b z,[l,c])else none
   |_=>none
 | .buildSlice t n parts=>match P.underlying t with
   |some (.slice e)=>(sizeOf? P e).bind fun s=>(Yah P e).bind fun z=>if n*s<=16777216 then some (.buildSlice s n z (parts.toList.map fun p=>(p.1*s,s)),parts.toList.map (·.2))else none
   |_=>none
 | .makeFunc fn first cap=>some (.mkfn fn first.size,first.toList++cap.toList)
 | .makeInterface t x=>match P.underlying t with
   |some (.interface _)=>none
   |some _=>some (.iface t,[x])
   |none=>none
 | .extract x i=>some (.ext i,[x])
 | .call c=>match c.callee with
   | .value (.func f)=>if Yre P f then some (.addc,c.args.toList)else some (.call f,c.args.toList)
   | .value x=>some (.callv,x::c.args.toList)
   | .invoke x name=>some (.invoke name,x::c.args.toList)
   | .builtin .len=>match c.argTypes[0]?.bind P.underlying with
     |some (.slice _)=>some (.len,c.args.toList)
     |some (.string)=>some (.lenStr,c.args.toList)
     |some (.array n _)=>some (.lenArr n,c.args.toList)
     |some (.map _ _)=>some (.lenSet,c.args.toList)
     |_=>none
   | .builtin .min=>some (.min,c.args.toList)
   | .builtin .max=>some (.max,c.args.toList)
   | .builtin .append=>match c.argTypes[0]?.bind P.underlying,c.argTypes[1]?.bind P.underlying with
     |some (.slice e),some (.slice _)=>(sizeOf? P e).bind fun s=>(bytesOf? P e).bind fun b=>(Yah P e).bind fun z=>if 0<b/\0<s/\z.length=s then some (.append s b z,c.args.toList)else none
     |_,_=>none
   | .builtin _=>none
 |_=>none
def VO.isCall:VO->Bool
 | .call _| .callv| .invoke _=>true
 |_=>false
def Ybr:Op->Bool
 | .call c=>match c.callee with
   | .builtin _=>false
   |_=>true
 |_=>false
def Ylf(ops:Array Oper)(j:Nat):Option Nat:=(ops[j]?).bind (·.dst)
def Ygc(P:Program)(ops:Array Oper)(o:Oper):Option VOp:=
 (vop P o).bind fun(v,xs)=>(X.ofs xs).bind fun ys=>
   if v.isCall&& !Ybr o.op then none else
   match o.guard with
   |none=>some { dst:=o.dst,g:=none,op:=v,xs:=ys}
   |some (j,b)=>(Ylf ops j).map fun s=>{ dst:=o.dst,g:=some (s,b),op:=v,xs:=ys}
def YaM(P:Program)(ops:Array Oper):List Oper->Option (List VOp)
 | []=>some []
 |o::l=>(Ygc P ops o).bind fun v=>(YaM P ops l).map (v::·)
def X.slot:X->List Nat
 | .tm n=>[n]
 | .cn _=>[]
def YY:List X->List Nat
 | []=>[]
 |x::l=>x.slot++YY l
def VOp.reads(v:VOp):List Nat:=YY v.xs++(match v.g with|some (g,_)=>[g] |none=>[])
def VO.readsHp:VO->Bool
 | .load _ _| .idxArr _ _| .sliceArr _ _ _ _| .isNil _=>true
 |_=>false
def VO.isStore:VO->Bool
 | .store _=>true
 |_=>false
def VO.isAppend:VO->Bool
 | .append _ _ _=>true
 |_=>false
def YcN:List X->X
 | []=> .cn .junk
 |x::_=>x
def VO.quiet:VO->Bool
 | .alloc _| .allocArr _ _ _| .box| .buildSlice _ _ _ _| .store _| .make _ _ _| .append _ _ _| .call _| .callv| .invoke _| .mkSet| .setAdd| .lenSet| .mkMap _| .mapGet _| .mapPut _=>false
 |_=>true
inductive DT where
 |silent (d:Nat)
 |op (v:VOp) (chk:List (Nat×X))
 |loud (v:VOp)
def disj(d:Option Nat)(l:List Nat):Bool:=
 match d with
 |some n=>!l.contains n
 |none=>true
def xeq:X->X->Bool
 | .tm n,.tm m=>YGS n m
 |_,_=>false
def Yqs:SV->Bool
 | .int _ _=>true
 | .bool _=>true
 | .nil=>true
 | .val _=>true
 |_=>false
def YgI:List SV->Bool
 | []=>true
 |x::l=>Yqs x&&YgI l
def YvW(i:Nat)(chk:List (Nat×X))(x:X):Bool:=chk.any fun c=>YGS c.1 i&&xeq c.2 x
def covX(i:Nat)(chk:List (Nat×X)):X->Bool
 | .tm n=>YvW i chk (.tm n)
 | .cn v=>Yqs v
def YB2(i:Nat)(v:VOp)(chk:List (Nat×X)):Bool:=
 disj v.dst v.reads&&v.xs.all (covX i chk)&&(match v.g with|some (g,_)=>covX i chk (.tm g) |none=>true)&&(match v.dst with|some d=>covX i chk (.tm d) |none=>false)
def Yqu(clo:Nat->Nat->Bool)(i:Nat)(v:VOp)(j:Nat)(t:DT):Bool:=
 YGS i j|| clo j i|| clo i j||
 match t with
 | .silent _=>true
 | .loud _=>false
 | .op u chk=>disj v.dst u.reads&&disj v.dst u.dst.toList&&disj u.dst v.reads&&(!u.op.isAppend|| YB2 i v chk)&&
     chk.all (fun c=>disj v.dst c.2.slot|| clo c.1 i|| YGS c.1 i)&&
     (!u.op.isStore|| !v.op.readsHp|| (disj v.dst (YcN v.xs).slot&&chk.any fun c=>YGS c.1 i&&xeq c.2 (YcN v.xs)))
def YkH(md:Region.Mode):List Edge->Nat
 | []=>0
 |e::l=>bif Region.binds md e then 2^e.on||| YkH md l else YkH md l
def YE(md:Region.Mode)(ops:Array Oper):List Nat:=ops.toList.map fun o=>YkH md o.after.toList
def Ydq(cl:List Nat)(m:Nat):Nat->Nat
 |0=>0
 |k+1=>bif m.testBit k then cl.getD k 0||| Ydq cl m k else Ydq cl m k
def Yqt:List Nat->Nat->List Nat->List Nat
 | [],_,cl=>cl
 |m::l,j,cl=>Yqt l (j+1) (cl++[m||| Ydq cl m j])
def clos(dm:List Nat):List Nat:=Yqt dm 0 []
def YfO(dm cl:List Nat):Nat->Bool
 |0=>true
 |j+1=>YGS (cl.getD j 0) (dm.getD j 0||| Ydq cl (dm.getD j 0) j)&&YfO dm cl j
def Ybl(dm:List Nat)(m i:Nat):Bool:=!m.testBit i&&YGS (dm.getD i 0&&&m) (dm.getD i 0)
def Ydl(dm:List Nat)(m:Nat):Nat->Bool
 |0=>true
 |k+1=>!Ybl dm m k&&Ydl dm m k
def Ydo(dm:List Nat)(m i:Nat):Nat->Bool
 |0=>true
 |k+1=>(YGS k i|| !Ybl dm m k)&&Ydo dm m i k
def seqB(free:Nat->Bool)(dm:List Nat)(n:Nat):List Nat->Nat->Bool
 | [],m=>Ydl dm m n
 |i::l,m=>YHG (i+1) n&&Ybl dm m i&&(free i|| Ydo dm m i n)&&seqB free dm n l (m||| 2^i)
def YaA(cl:List Nat)(j i:Nat):Bool:=(cl.getD j 0).testBit i
def lenE:List SV->Nat
 | []=>0
 |_::l=>lenE l+1
def Y0(v:VOp):Option (Nat×AL):=
 match v with
 | ⟨some d,none,.alloc z,_⟩=>some (d,.box z)
 | ⟨some d,none,.allocArr n size z,_⟩=>bif YGS (lenE z) (n*size)then some (d,.arr n size z)else none
 |_=>none
def Yuj(clo:Nat->Nat->Bool)(j:Nat):List VOp->Nat->List (Nat×X)
 | [],_=>[]
 |v::l,i=>bif v.op.quiet&&v.op.readsHp&& !clo i j&& !clo j i then(i,YcN v.xs)::Yuj clo j l (i+1)else Yuj clo j l (i+1)
def tms(i:Nat):List X->List (Nat×X)
 | []=>[]
 | .tm n::l=>(i,.tm n)::tms i l
 | .cn _::l=>tms i l
def apcOf(i:Nat)(v:VOp):List (Nat×X):=
 tms i v.xs++(match v.g with|some (g,_)=>[(i,.tm g)] |none=>[])++(match v.dst with|some d=>[(i,.tm d)] |none=>[])
def Yt9(clo:Nat->Nat->Bool)(j:Nat):List VOp->Nat->List (Nat×X)
 | [],_=>[]
 |v::l,i=>bif v.op.quiet&& !clo i j&& !clo j i then apcOf i v++Yt9 clo j l (i+1)else Yt9 clo j l (i+1)
def Ybp(P:Program)(f:FuncId):Bool:=
 match P.funcs[f]? with
 |some fn=>match fn.params[0]?,fn.resultTypes[0]? with
  |some t,some u=>YGS t u&&(match P.underlying t with|some (.pointer _)=>true|_=>false)
  |_,_=>false
 |none=>false
def Yg0(lf:FuncId->Bool)(v:VOp):Bool:=
 match v with
 | ⟨_,none,.call f,_⟩=>lf f
 |_=>false
def Ybi(lf:FuncId->Bool)(clo:Nat->Nat->Bool)(all:List VOp):List VOp->Nat->List DT
 | [],_=>[]
 |v::l,j=>(match Y0 v with
  |some (d,_)=> .silent d
  |none=>bif Yg0 lf v then .loud v else .op v (bif v.op.isStore then Yuj clo j all 0 else bif v.op.isAppend then Yt9 clo j all 0 else []))::Ybi lf clo all l (j+1)
def Yc5:List VOp->Nat->List (Nat×Nat×AL)
 | [],_=>[]
 |v::l,j=>match Y0 v with
  |some (d,z)=>(j,d,z)::Yc5 l (j+1)
  |none=>Yc5 l (j+1)
def YgJ(clo:Nat->Nat->Bool)(i:Nat)(v:VOp):List DT->Nat->Bool
 | [],_=>true
 |t::l,j=>Yqu clo i v j t&&YgJ clo i v l (j+1)
def Yyh(clo:Nat->Nat->Bool)(tab:List DT)(i:Nat):Bool:=
 match tab[i]? with
 |some (.silent _)=>true
 |some (.op v [])=>v.op.quiet&&YgJ clo i v tab 0
 |_=>false
def Yhz(clo:Nat->Nat->Bool)(tab:List DT):Nat->Nat->List Bool
 |0,_=>[]
 |n+1,i=>Yyh clo tab i::Yhz clo tab n (i+1)
def Yey:List Nat->Nat->Bool
 | [],_=>true
 |m::l,j=>Nat.blt m (2^j)&&Yey l (j+1)
def pick(ok:Nat->Bool):Nat->Nat->Option Nat
 |0,_=>none
 |n+1,i=>bif ok i then some i else pick ok n (i+1)
def Yl1(fr:List Bool)(dm:List Nat)(n:Nat):Nat->Nat->List Nat
 |0,_=>[]
 |k+1,m=>match pick (fun i=>fr.getD i false&&Ybl dm m i) n 0 with
  |some i=>i::Yl1 fr dm n k (m||| 2^i)
  |none=>match pick (Ybl dm m) n 0 with
   |some i=>i::Yl1 fr dm n k (m||| 2^i)
   |none=>[]
def AL.clean:AL->Bool
 | .box z=>YgI z
 | .arr _ _ z=>YgI z
def Yfg(clo:Nat->Nat->Bool)(sil:List (Nat×Nat×AL)):List DT->Nat->Bool
 | [],_=>true
 | .silent _::l,j=>Yfg clo sil l (j+1)
 | .loud _::l,j=>(match sil with| []=>true|_=>false)&&Yfg clo sil l (j+1)
 | .op v _::l,j=>sil.all (fun x=>(clo j x.1|| (!v.reads.contains x.2.1&&(!v.op.isAppend|| x.2.2.clean)))&& !(v.dst.toList.contains x.2.1))&&Yfg clo sil l (j+1)
inductive OT where
 |nil
 |op (i:Nat) (t:OT)
 |br (a b:OT)
def OT.heads:OT->List Nat
 | .nil=>[]
 | .op i _=>[i]
 | .br a b=>a.heads++b.heads
def OT.len:OT->Nat
 | .nil=>0
 | .op _ t=>t.len+1
 | .br a _=>a.len
def Ym7(dm:List Nat)(m:Nat)(hs:List Nat):Nat->Bool
 |0=>true
 |k+1=>(hs.contains k|| !Ybl dm m k)&&Ym7 dm m hs k
def Ycy(free:Nat->Bool)(dm:List Nat)(n:Nat):OT->Nat->Bool->Bool
 | .nil,m,ex=>!ex&&Ydl dm m n
 | .op i t,m,ex=>YHG (i+1) n&&Ybl dm m i&&(ex|| free i|| Ydo dm m i n)&&Ycy free dm n t (m||| 2^i) false
 | .br a b,m,ex=>(ex|| Ym7 dm m (a.heads++b.heads) n)&&YGS a.len b.len&&Ycy free dm n a m true&&Ycy free dm n b m true
def Ywk(dm:List Nat)(m:Nat):Nat->List Nat
 |0=>[]
 |k+1=>Ywk dm m k++(bif Ybl dm m k then [k]else [])
def brs:List OT->OT
 | []=> .nil
 | [t]=>t
 |t::l=> .br t (brs l)
def YsR(fr:List Bool)(dm:List Nat)(n:Nat):Nat->Nat->OT
 |0,_=> .nil
 |k+1,m=>match pick (fun i=>fr.getD i false&&Ybl dm m i) n 0 with
  |some i=> .op i (YsR fr dm n k (m||| 2^i))
  |none=>brs ((Ywk dm m n).map fun i=> .op i (YsR fr dm n k (m||| 2^i)))
def Ych:List Nat->Bool
 | []=>true
 |d::l=>!l.contains d&&Ych l
def Ykn(tab:List DT):List Nat->List DOp
 | []=>[]
 |i::l=>match tab[i]? with
  |some (.op v chk)=>⟨v,chk.map (·.2)⟩::Ykn tab l
  |some (.loud v)=>⟨v,[]⟩::Ykn tab l
  |_=>Ykn tab l
def Yev:List Oper->List VOp->Bool
 |o::os,v::vs=>(match Y0 v with
  |some _=>match o.op with
   | .alloc _=>true
   |_=>false
  |none=>true)&&Yev os vs
 |_,_=>true
def Ynb(P:Program)(ops:Array Oper):Option (List (Nat×AL)×List DOp):=
 (YaM P ops ops.toList).bind fun vs=>
   let dm:=YE .any ops
   let cl:=clos dm
   let tab:=Ybi (Ybp P) (YaA cl) vs vs 0
   let sil:=Yc5 vs 0
   let fr:=Yhz (YaA cl) tab ops.size 0
   let order:=Yl1 fr dm ops.size ops.size 0
   if Yev ops.toList vs&&YGS cl.length ops.size&&YfO dm cl ops.size&&Yey dm 0&&Yfg (YaA cl) sil tab 0&&Ych (sil.map (·.2.1))&&YGS order.length ops.size&&seqB (fun i=>fr.getD i false) dm ops.size order 0 then
    some (sil.map (·.2),Ykn tab order)
   else none
def Yop(tab:List DT):OT->DTr
 | .nil=> .leaf
 | .op i t=> .ops (Ykn tab [i]) (Yop tab t)
 | .br a b=> .br (Yop tab a) (Yop tab b)
def YiS(P:Program)(ops:Array Oper):Option (List (Nat×AL)×DTr):=
 (YaM P ops ops.toList).bind fun vs=>
   let dm:=YE .any ops
   let cl:=clos dm
   let tab:=Ybi (Ybp P) (YaA cl) vs vs 0
   let sil:=Yc5 vs 0
   let fr:=Yhz (YaA cl) tab ops.size 0
   let t:=YsR fr dm ops.size ops.size 0
   if Yev ops.toList vs&&YGS cl.length ops.size&&YfO dm cl ops.size&&Yey dm 0&&Yfg (YaA cl) sil tab 0&&Ych (sil.map (·.2.1))&&YGS t.len ops.size&&Ycy (fun i=>fr.getD i false) dm ops.size t 0 false then
    some (sil.map (·.2),Yop tab t)
   else none
def YCs(P:Program)(ops:Array Oper):VC:=
 match Ynb P ops with
 |some r=> .draw r.1 r.2
 |none=>match YiS P ops with
  |some r=> .drawT r.1 r.2
  |none=> .stuck
def YcB(P:Program):Code->Option VC
 | .skip=>some .skip
 | .region _ ops draw=>if draw then some (YCs P ops)else match YaM P ops ops.toList with|some l=>some (.region l) |none=>some .stuck
 | .rangeFunc g ps a b=>(X.of g).bind fun z=>(YcB P a).bind fun x=>(YcB P b).map fun y=> .rangeFn z ps.toList x y
 | .seq a b=>(YcB P a).bind fun x=>(YcB P b).map fun y=> .seq x y
 | .cond c a b=>(X.of c).bind fun z=>(YcB P a).bind fun x=>(YcB P b).map fun y=> .cond z x y
 | .block i c=>(YcB P c).map (.block i)
 | .scope c=>(YcB P c).map .scope
 | .label _=>some .skip
 | .loop c=>(YcB P c).map .loop
 | .exit i=>some (.exit i)
 | .ret=>some .ret
 |_=>some .stuck
def vres(P:Program):ResultVar->Option VR
 | .tmp t=>some (.tmp t)
 | .cell a t=>(Yeu P t).bind fun g=>(sizeOf? P t).bind fun s=>if chk g s then some (.cell a g s)else none
def YhF(P:Program):List ResultVar->Option (List VR)
 | []=>some []
 |r::l=>(vres P r).bind fun x=>(YhF P l).map (x::·)
def Yg(P:Program)(fn:Func):Option VF:=
 fn.body.bind fun c=>(YcB P c).bind fun b=>(YhF P fn.results.toList).map fun r=>{ ntmps:=fn.ntmps,res:=r,body:=b}
structure S where
 fr:List SV
 saved:List (List SV)
 hp:List HO
def getL:List SV->Nat->SV
 | [],_=> .junk
 |x::_,0=>x
 |_::l,n+1=>getL l n
def setL:List SV->Nat->SV->List SV
 | [],_,_=>[]
 |_::l,0,v=>v::l
 |x::l,n+1,v=>x::setL l n v
def getH:List HO->Nat->HO
 | [],_=> .gone
 |x::_,0=>x
 |_::l,n+1=>getH l n
def setH:List HO->Nat->HO->List HO
 | [],_,_=>[]
 |_::l,0,v=>v::l
 |x::l,n+1,v=>x::setH l n v
def lenH:List HO->Nat
 | []=>0
 |_::l=>lenH l+1
def Ybt:List HO->HO->List HO
 | [],x=>[x]
 |y::l,x=>y::Ybt l x
def S.put(s:S)(d:Option Nat)(v:SV):S:=
 match d with
 |some d=>{ s with fr:=setL s.fr d v}
 |none=>s
def S.x(s:S):X->SV
 | .tm n=>getL s.fr n
 | .cn v=>v
def Ymk(gb:Bool):SV->Prop×SV
 | .opt b v=>(gb=true->b=true,v)
 |v=>(True,v)
def S.args(s:S):List X->List SV
 | []=>[]
 |x::l=>s.x x::s.args l
def Yf5(gb:Bool):List SV->Prop×List SV
 | []=>(True,[])
 |v::l=>((Ymk gb v).1/\(Yf5 gb l).1,(Ymk gb v).2::(Yf5 gb l).2)
def YCU:VO->Bool
 | .and| .or=>true
 |_=>false
def YjL(lz:Bool)(gb:Bool)(l:List SV):Prop×List SV:=
 match lz with
 |false=>Yf5 gb l
 |true=>match l with
  | [x,y]=>((Ymk gb x).1,[(Ymk gb x).2,y])
  |l=>Yf5 gb l
def YU(o:VO)(gb:Bool)(l:List SV):Prop×List SV:=YjL (YCU o) gb l
def YaE:SV->List SV
 | .agg cs=>cs
 |v=>[v]
def Yaf:List SV->Nat->List SV->List SV
 |cs,0,[]=>cs
 | [],_,_=>[]
 |_::cs,0,v::vs=>v::Yaf cs 0 vs
 |c::cs,n+1,vs=>c::Yaf cs n vs
def Yb9:Nat->Nat->Nat
 |0,k=>k
 |n+1,k=>n+1+k
def YL:Nat->List SV->List SV
 |0,_=>[]
 |_+1,[]=>[]
 |n+1,x::l=>x::YL n l
def YG:Nat->List SV->List SV
 |0,l=>l
 |_+1,[]=>[]
 |n+1,_::l=>YG n l
def lenL:List SV->Nat
 | []=>0
 |_::l=>lenL l+1
def repL:Nat->List SV->List SV
 |0,_=>[]
 |n+1,z=>z++repL n z
inductive Upd where
 |no
 |new (ho:HO)
 |set (i:Nat) (ho:HO)
 |app (i:Nat) (ho:HO)
structure Ef where
 pre:Prop
 val:SV
 upd:Upd
def Yf9(agg:Bool)(cs:List SV):SV:=
 match agg with
 |true=> .agg cs
 |false=>match cs with
  | [x]=>x
  |_=> .junk
def one:SV->Prop
 | .agg _=>False
 | .tup _=>False
 | .opt _ _=>False
 | .cut _=>False
 | .junk=>False
 | .val v=>v.oneCell'=true
 |_=>True
def ones:List SV->Prop
 | []=>True
 |x::l=>one x/\ones l
mutual
def refs(i:Nat):SV->Bool
 | .agg cs=>Yhg i cs
 | .tup cs=>Yhg i cs
 | .ptr j _=>YGS j i
 | .own j _ _ _=>YGS j i
 | .elem j _ _ _=>YGS j i
 | .smp j=>YGS j i
 | .fn _ a b=>Yhg i a|| Yhg i b
 | .iface _ v=>refs i v
 | .opt _ v=>refs i v
 | .cut v=>refs i v
 |_=>false
def Yhg(i:Nat):List SV->Bool
 | []=>false
 |x::l=>refs i x|| Yhg i l
end
mutual
def noOwn:SV->Bool
 | .agg cs=>YaD cs
 | .tup cs=>YaD cs
 | .ptr _ _=>false
 | .own _ _ _ _=>false
 | .elem _ _ _ _=>false
 | .smp _=>false
 | .fn _ a b=>YaD a&&YaD b
 | .iface _ v=>noOwn v
 | .opt _ _=>false
 | .cut _=>false
 |_=>true
def YaD:List SV->Bool
 | []=>true
 |x::l=>noOwn x&&YaD l
end
def Yd7(i:Nat)(v:SV):SV:=bif refs i v then .junk else v
def Yj(i:Nat):List SV->List SV
 | []=>[]
 |x::l=>Yd7 i x::Yj i l
def Yhc(i:Nat):List (List SV)->List (List SV)
 | []=>[]
 |x::l=>Yj i x::Yhc i l
def YaI(i:Nat):List HO->List HO
 | []=>[]
 | .box cs::l=> .box (Yj i cs)::YaI i l
 | .own z sz n get::l=> .own z sz n (fun k=>Yj i (get k))::YaI i l
 | .smap m::l=> .smap m::YaI i l
 | .gone::l=> .gone::YaI i l
def S.upd(s:S)(u:Upd):S:=
 match u with
 | .no=>s
 | .new ho=>{ s with hp:=Ybt s.hp ho}
 | .set i ho=>{ s with hp:=setH s.hp i ho}
 | .app i ho=>{ fr:=Yj i s.fr,saved:=Yhc i s.saved,hp:=setH (YaI i s.hp) i ho}
def cmpB(o:Cmp)(x y:Int):Bool:=
 match o with
 | .eql=>decide (x=y)
 | .neq=>!decide (x=y)
 | .lss=>decide (x<y)
 | .leq=>decide (x<=y)
 | .gtr=>decide (y<x)
 | .geq=>decide (y<=x)
def ari(o:Ari)(x y:Int):Int:=
 match o with
 | .add=>x+y
 | .sub=>x-y
 | .mul=>x*y
def bitI(o:Bit)(k:IntKind)(x y:Int):Int:=
 match o with
 | .and=>k.wrap (BitVec.ofInt k.bits x&&&BitVec.ofInt k.bits y).toNat
 | .or=>k.wrap (BitVec.ofInt k.bits x||| BitVec.ofInt k.bits y).toNat
 | .xor=>k.wrap (BitVec.ofInt k.bits x^^^BitVec.ofInt k.bits y).toNat
 | .andNot=>k.wrap (BitVec.ofInt k.bits x&&&~~~BitVec.ofInt k.bits y).toNat
def kEq:IntKind->IntKind->Bool
 | .i8,.i8| .i16,.i16| .i32,.i32| .i64,.i64| .u8,.u8| .u16,.u16| .u32,.u32| .u64,.u64=>true
 |_,_=>false
def Yfu:IntKind->Int->List SV->Option Int
 |_,m,[]=>some m
 |k,m,.int k' y::l=>bif kEq k k' then Yfu k (max m y) l else none
 |_,_,_=>none
def Yfv:IntKind->Int->List SV->Option Int
 |_,m,[]=>some m
 |k,m,.int k' y::l=>bif kEq k k' then Yfv k (min m y) l else none
 |_,_,_=>none
def YbM:List Bool->List SV->List SV->Option (Prop×Bool)
 | [],[],[]=>some (True,true)
 |true::ks,.int k x::l,.int k' y::r=>(YbM ks l r).map fun(p,b)=>(k=k'/\p,decide (x=y)&&b)
 |false::ks,.bool x::l,.bool y::r=>(YbM ks l r).map fun(p,b)=>(p,(x==y)&&b)
 |_,_,_=>none
def Yc4(hp:List HO):SV->Option (Nat×(Nat->List SV))
 | .nil=>some (0,fun _=>[])
 | .vs _ _ n _ get=>some (n,get)
 | .own i lo n sz=>match getH hp i with
   | .own _ sz' _ get=>bif YGS sz sz' then some (n,fun k=>get (Yb9 lo k))else none
   |_=>none
 |_=>none
def lenS:SV->Option Nat
 | .nil=>some 0
 | .vs _ _ n _ _=>some n
 | .own _ _ n _=>some n
 | .row n _=>some n
 |_=>none
def YgS:Nat->Nat->(Nat->List SV)->List SV
 |0,_,_=>[]
 |n+1,k,get=>get k++YgS n (k+1) get
def Yjt(off n:Nat)(get:Nat->List SV):Option (Prop×List SV):=
 match off with
 |0=>some (True,YgS n 0 get)
 |_=>none
def Yaz(hp:List HO):SV->Option (Prop×List SV)
 | .xp _ cs=>some (True,cs)
 | .ptr i off=>match getH hp i with
   | .box cs=>some (True,YG off cs)
   | .own _ _ n get=>Yjt off n get
   |_=>none
 | .elem i k off sz=>match getH hp i with
   | .own _ size n get=>some (k<n/\sz=size,YG off (get k))
   |_=>none
 |_=>none
def YaN(size:Nat)(cs:List SV)(k:Nat):List SV:=YL size (YG (k*size) cs)
def storeAt(hp:List HO)(size:Nat)(vals:List SV):SV->Option Ef
 | .ptr i off=>match getH hp i with
   | .box cs=>some { pre:=off+size<=lenL cs,val:= .junk,upd:= .set i (.box (Yaf cs off vals))}
   | .own z sz n _=>match off with
     |0=>some { pre:=size=n*sz/\0<sz,val:= .junk,upd:= .set i (.own z sz n (YaN sz vals))}
     |_=>none
   | .smap _=>none
   | .gone=>none
 | .elem i k off sz=>match getH hp i with
   | .own z size' n get=>some { pre:=k<n/\sz=size'/\off+size<=sz,val:= .junk,upd:= .set i (.own z size' n fun j=>if j=k then Yaf (get k) off vals else get j)}
   |_=>none
 |_=>none
def YQ:List SV->List (Nat×Nat)->List SV->Option (Prop×List SV)
 |cs,[],[]=>some (True,cs)
 |cs,(off,size)::pl,v::vs=>(YQ (Yaf cs off (YaE v)) pl vs).map fun(p,r)=>(lenL (YaE v)=size/\ones (YaE v)/\off+size<=lenL cs/\p,r)
 |_,_,_=>none
def YP(n bytes:Nat):Prop:=n*bytes<=140737488355328
def YI(p:Prop)(v:SV):Option Ef:=some { pre:=p,val:=v,upd:= .no}
def Ykp(o:VO)(xs:List SV):Option Ef:=
 match xs with
 | [.bool c,y]=>match o,y with
   | .and,.opt b (.bool x)=>YI (c=true->b=true) (.bool (c&&x))
   | .or,.opt b (.bool x)=>YI (c=false->b=true) (.bool (c|| x))
   | .and,.bool x=>YI True (.bool (c&&x))
   | .or,.bool x=>YI True (.bool (c|| x))
   |_,_=>none
 |_=>none
def eNew(ho:HO)(v:SV)(p:Prop):Option Ef:=some { pre:=p,val:=v,upd:= .new ho}
def eAri(o:Ari)(xs:List SV):Option Ef:=
 match xs with
 | [.int k x,.int k' y]=>YI (k=k') (.int k (k.wrap (ari o x y)))
 |_=>none
def eCmp(o:Cmp)(xs:List SV):Option Ef:=
 match xs with
 | [.int k x,.int k' y]=>YI (k=k') (.bool (cmpB o x y))
 |_=>none
def eEqb(neg:Bool)(xs:List SV):Option Ef:=
 match xs with
 | [.bool x,.bool y]=>YI True (.bool (match neg with|true=>!(x==y) |false=>x==y))
 |_=>none
def Yg4(neg:Bool)(z:Bool):Bool:=
 match neg with
 |true=>!z
 |false=>z
def eNil(hp:List HO)(neg:Bool)(xs:List SV):Option Ef:=
 match xs with
 | [x,.nil]=>match x with
   | .nil=>YI True (.bool (Yg4 neg true))
   | .vs _ z _ _ _=>YI True (.bool (Yg4 neg z))
   | .own i _ _ _=>match getH hp i with
     | .own z _ _ _=>YI True (.bool (Yg4 neg z))
     |_=>none
   |_=>none
 |_=>none
def eBit(o:Bit)(xs:List SV):Option Ef:=
 match xs with
 | [.int k x,.int k' y]=>YI (k=k') (.int k (bitI o k x y))
 |_=>none
def eDiv(rem:Bool)(xs:List SV):Option Ef:=
 match xs with
 | [.int k x,.int k' y]=>YI (k=k'/\y≠0) (.int k (match rem with|true=>x.tmod y|false=>k.wrap (x.tdiv y)))
 |_=>none
def eSh(left:Bool)(xs:List SV):Option Ef:=
 match xs with
 | [.int k x,.int _ y]=>YI (0<=y) (.int k (match left with|true=>k.wrap (x*2^min y.toNat k.bits) |false=>x.fdiv (2^min y.toNat k.bits)))
 |_=>none
def eMov(xs:List SV):Option Ef:=
 match xs with
 | [x]=>YI True x
 |_=>none
def eNot(xs:List SV):Option Ef:=
 match xs with
 | [.bool x]=>YI True (.bool (!x))
 |_=>none
def eNeg(xs:List SV):Option Ef:=
 match xs with
 | [.int k x]=>YI True (.int k (k.wrap (0-x)))
 |_=>none
def Yun(k:IntKind)(xs:List SV):Option Ef:=
 match xs with
 | [.int _ x]=>YI True (.int k (k.wrap x))
 |_=>none
def eExt(i:Nat)(xs:List SV):Option Ef:=
 match xs with
 | [.tup l]=>YI (i<lenL l) (getL l i)
 |_=>none
def Yng(t:TypeId)(xs:List SV):Option Ef:=
 match xs with
 | [x]=>YI True (.iface t x)
 |_=>none
def YiV(n:Nat)(xs:List SV):Option Ef:=
 match xs with
 | [_]=>YI True (.int .i64 n)
 |_=>none
def eLen(xs:List SV):Option Ef:=
 match xs with
 | [x]=>(lenS x).bind fun n=>YI True (.int .i64 n)
 |_=>none
def YiX(xs:List SV):Option Ef:=
 match xs with
 | [.val (.string b)]=>YI True (.int .i64 b.size)
 |_=>none
def YgQ(mx:Bool)(xs:List SV):Option Ef:=
 match xs with
 | .int k x::l=>(match mx with|true=>Yfu k x l|false=>Yfv k x l).bind fun m=>YI True (.int k m)
 |_=>none
def YdK(off:Nat)(xs:List SV):Option Ef:=
 match xs with
 | [x]=>match x with
   | .ptr i o=>YI True (.ptr i (o+off))
   | .xp t cs=>YI True (.xp t (YG off cs))
   | .elem i k o sz=>YI True (.elem i k (o+off) sz)
   |_=>none
 |_=>none
def Yne(agg:Bool)(off size:Nat)(xs:List SV):Option Ef:=
 match xs with
 | [.agg cs]=>YI (off+size<=lenL cs) (Yf9 agg (YL size (YG off cs)))
 |_=>none
def Ygj(size:Nat)(xs:List SV):Option Ef:=
 match xs with
 | [x,.int _ i]=>match x with
   | .vs t _ n sz get=>YI (sz=size/\0<=i/\i<n) (.xp t (get i.toNat))
   | .own j lo n sz=>YI (sz=size/\0<=i/\i<n) (.elem j (Yb9 lo i.toNat) 0 size)
   | .row n C=>YI (size=1/\0<=i/\i<n) (.rcell (C i.toNat))
   |_=>none
 |_=>none
def idxN(i:Int)(size:Nat):Nat:=i.toNat*size
theorem YCK(size:Nat):idxN 0 size=0:=Nat.zero_mul size
theorem YCL:idxN 1 1=1:=rfl
theorem YCM:idxN 2 1=2:=rfl
theorem YCN:idxN 3 1=3:=rfl
def YeB(hp:List HO)(n size:Nat)(xs:List SV):Option Ef:=
 match xs with
 | [.ptr j 0,.int _ i]=>match getH hp j with
   | .own _ sz m _=>YI (0<=i/\i<n/\sz=size/\m=n) (.elem j i.toNat 0 size)
   | .box _=>YI (0<=i/\i<n) (.ptr j (idxN i size))
   |_=>none
 |_=>none
def Ynh(agg:Bool)(n size:Nat)(xs:List SV):Option Ef:=
 match xs with
 | [.agg cs,.int _ i]=>YI (0<=i/\i<n/\lenL cs=n*size) (Yf9 agg (YaN size cs i.toNat))
 |_=>none
def YhQ(n:Nat)(lo hi:Bool)(l:List SV):Option (Prop×Nat×Nat):=
 match lo,hi,l with
 |false,false,[]=>some (True,0,n)
 |true,false,[.int _ a]=>some (0<=a/\a<=n,a.toNat,n)
 |false,true,[.int _ b]=>some (0<=b/\b<=n,0,b.toNat)
 |true,true,[.int _ a,.int _ b]=>some (0<=a/\a<=b/\b<=n,a.toNat,b.toNat)
 |_,_,_=>none
def Yhm:Nat->Nat->Nat
 |n,0=>n
 |n,k+1=>n-(k+1)
def Ynj(size:Nat)(lo hi:Bool)(xs:List SV):Option Ef:=
 match xs with
 |x::l=>match x with
  | .vs t z n sz get=>(YhQ n lo hi l).bind fun(p,a,b)=>YI (sz=size/\p) (.vs t z (Yhm b a) sz fun k=>get (Yb9 a k))
  | .own j o n sz=>(YhQ n lo hi l).bind fun(p,a,b)=>YI (sz=size/\p) (.own j (Yb9 o a) (Yhm b a) sz)
  |_=>none
 |_=>none
def YiZ(size:Nat)(xs:List SV):Option Ef:=
 match xs with
 | [x,.int _ b,.int _ c]=>match x with
   | .nil=>YI (b=0/\c=0) .nil
   | .vs t z n sz get=>YI (sz=size/\0<=b/\b<=n/\c=b) (.cut (.vs t z b.toNat sz get))
   | .own j o n sz=>YI (sz=size/\0<=b/\b<=n/\c=b) (.cut (.own j o b.toNat sz))
   |_=>none
 |_=>none
def YbC(hp:List HO)(n size:Nat)(lo hi:Bool)(xs:List SV):Option Ef:=
 match lo,hi,xs with
 |false,false,[.ptr j 0]=>match getH hp j with
  | .own _ sz m _=>YI (sz=size/\m=n) (.own j 0 n size)
  |_=>none
 |_,_,_=>none
def YqL(nx:Nat)(size bytes:Nat)(zero:List SV)(xs:List SV):Option Ef:=
 match xs with
 | [.int _ l,.int _ c]=>eNew (.own false size l.toNat fun _=>zero) (.own (nx) 0 l.toNat size) (lenL zero=size/\0<size/\0<=l/\l<=c/\YP c.toNat bytes)
 |_=>none
def YbB(nx:Nat)(hp:List HO)(size bytes:Nat)(xs:List SV):Option Ef:=
 match xs with
 | [a,x]=>match a with
   | .nil=>(Yc4 hp x).bind fun(m,gx)=>eNew (.own (decide (m=0)) size m gx) (.own (nx) 0 m size) (YP m bytes/\∀k,k<m->lenL (gx k)=size/\ones (gx k))
   | .own i 0 n sz=>match getH hp i with
     | .own z s' _ get=>(Yc4 hp x).map fun(m,gx)=>
       {pre:=sz=size/\s'=size/\YP (n+m) bytes/\∀k,k<m->lenL (gx k)=size/\ones (gx k),val:= .own i 0 (n+m) size,
        upd:= .app i (.own (z&&decide (m=0)) size (n+m) fun k=>if k<n then Yj i (get k)else Yj i (gx (k-n)))}
     |_=>none
   | .cut y=>(Yc4 hp y).bind fun(n,gy)=>(Yc4 hp x).bind fun(m,gx)=>eNew (.own false size (n+m) fun k=>if k<n then gy k else gx (k-n)) (.own (nx) 0 (n+m) size)
       (0<m/\YP (n+m) bytes/\(∀k,k<n->lenL (gy k)=size/\ones (gy k))/\∀k,k<m->lenL (gx k)=size/\ones (gx k))
   |_=>none
 |_=>none
def Yhw(hp:List HO)(agg:Bool)(size:Nat)(xs:List SV):Option Ef:=
 match xs with
 | [a]=>(Yaz hp a).bind fun(p,cs)=>YI (p/\size<=lenL cs) (Yf9 agg (YL size cs))
 |_=>none
def YhU(hp:List HO)(size:Nat)(xs:List SV):Option Ef:=
 match xs with
 | [a,v]=>(storeAt hp size (YaE v) a).map fun e=>{ e with pre:=lenL (YaE v)=size/\ones (YaE v)/\e.pre}
 |_=>none
def eBox(nx:Nat)(xs:List SV):Option Ef:=
 match xs with
 | [x]=>eNew (.box (YaE x)) (.ptr (nx) 0) (ones (YaE x))
 |_=>none
def YeT(xs:List SV):Option Ef:=
 match xs with
 | [x]=>match x with
   | .ptr i o=>YI True (.ptr i o)
   | .xp t cs=>YI True (.xp t cs)
   | .elem i k o sz=>YI True (.elem i k o sz)
   |_=>none
 |_=>none
def Ym5(b:ByteArray)(i:Nat):Int:=(b.data.toList.getD i 0).toNat
def YiU(xs:List SV):Option Ef:=
 match xs with
 | [.val (.string b),.int _ i]=>YI (0<=i/\i<b.size) (.int .u8 (Ym5 b i.toNat))
 |_=>none
def Ynd(neg:Bool)(xs:List SV):Option Ef:=
 match xs with
 | [.val (.string a),.val (.string b)]=>YI True (.bool (Yg4 neg (a.toList==b.toList)))
 |_=>none
def addK(l:List (List UInt8))(s:List UInt8):List (List UInt8):=if s∈l then l else l++[s]
def YiY(hp:List HO)(xs:List SV):Option Ef:=
 match xs with
 | [.smp i,.val (.string s),.agg []]=>match getH hp i with
   | .smap l=>some { pre:=True,val:= .junk,upd:= .set i (.smap (addK l s.data.toList))}
   |_=>none
 |_=>none
def YiW(hp:List HO)(xs:List SV):Option Ef:=
 match xs with
 | [.smp i]=>match getH hp i with
   | .smap l=>YI True (.int .i64 l.length)
   |_=>none
 |_=>none
def Yje:List IntKind->List SV->Option (Prop×List Int)
 | [],[]=>some (True,[])
 |k::ks,.int k' x::l=>(Yje ks l).map fun(p,r)=>(k=k'/\p,x::r)
 |_,_=>none
def YxX(xs:List SV):Option Ef:=
 match xs with
 | [.int .u64 x,.int .u64 y,.int .u64 c]=>YI (0<=x/\0<=y/\0<=c/\c<=1) (.tup [.int .u64 ((x+y+c)%18446744073709551616),.int .u64 ((x+y+c)/18446744073709551616)])
 |_=>none
def eEqv(neg:Bool)(ks:List Bool)(xs:List SV):Option Ef:=
 match xs with
 | [.agg xs,.agg ys]=>(YbM ks xs ys).bind fun(p,b)=>YI p (.bool (match neg with|true=>!b|false=>b))
 |_=>none
def eff(hp:List HO)(nx:Nat)(o:VO)(xs:List SV):Option Ef:=
 match o with
 | .mov=>eMov xs
 | .not=>eNot xs
 | .neg=>eNeg xs
 | .conv k=>Yun k xs
 | .ext i=>eExt i xs
 | .iface t=>Yng t xs
 | .lenArr n=>YiV n xs
 | .and=>Ykp .and xs
 | .or=>Ykp .or xs
 | .alloc cs=>eNew (.box cs) (.ptr (nx) 0) True
 | .allocArr n size cs=>eNew (.own false size n (YaN size cs)) (.ptr (nx) 0) (lenL cs=n*size)
 | .box=>eBox nx xs
 | .build zero pl=>(YQ zero pl xs).bind fun(p,cs)=>YI p (.agg cs)
 | .buildSlice size len zero pl=>(YQ (repL len zero) pl xs).bind fun(p,cs)=>
     eNew (.own false size len (YaN size cs)) (.own (nx) 0 len size) (p/\lenL zero=size/\0<size)
 | .load agg size=>Yhw hp agg size xs
 | .store size=>YhU hp size xs
 | .ari o=>eAri o xs
 | .cmp o=>eCmp o xs
 | .bit o=>eBit o xs
 | .quo=>eDiv false xs
 | .rem=>eDiv true xs
 | .shl=>eSh true xs
 | .shr=>eSh false xs
 | .len=>eLen xs
 | .lenStr=>YiX xs
 | .min=>YgQ false xs
 | .max=>YgQ true xs
 | .fieldAddr off=>YdK off xs
 | .field agg off size=>Yne agg off size xs
 | .idxAddr size=>Ygj size xs
 | .idxArr n size=>YeB hp n size xs
 | .index agg n size=>Ynh agg n size xs
 | .slice size lo hi=>Ynj size lo hi xs
 | .slice3 size=>YiZ size xs
 | .sliceArr n size lo hi=>YbC hp n size lo hi xs
 | .make size bytes zero=>YqL nx size bytes zero xs
 | .append size bytes _=>YbB nx hp size bytes xs
 | .mkfn fn nf=>YI True (.fn fn (YL nf xs) (YG nf xs))
 | .eqv neg ks=>eEqv neg ks xs
 | .eqb neg=>eEqb neg xs
 | .isNil neg=>eNil hp neg xs
 | .addc=>YxX xs
 | .nilCheck=>YeT xs
 | .idxStr=>YiU xs
 | .eqStr neg=>Ynd neg xs
 | .mkSet=>match xs with
   | [.int _ _]=>eNew (.smap []) (.smp nx) True
   |_=>none
 | .setAdd=>YiY hp xs
 | .lenSet=>YiW hp xs
 |_=>none
def Yow:List SV->List SV
 | []=>[]
 |_::l=> .junk::Yow l
def andT(t0 t:Bool):Bool:=
 match t0 with
 |true=>t
 |false=>false
mutual
def view(t0:Bool)(hp:List HO)(r:List SV->List SV):SV->SV
 | .agg cs=> .agg (Ybu t0 hp r cs)
 | .tup cs=> .tup (Ybu t0 hp r cs)
 | .iface t v=> .iface t (view t0 hp r v)
 | .fn f a b=> .fn f (Ybu t0 hp r a) (Ybu t0 hp r b)
 | .vs t z m sz get=> .vs (andT t0 t) z m sz fun k=>Ybu t0 hp r (get k)
 | .xp t cs=> .xp (andT t0 t) (Ybu t0 hp r cs)
 | .ptr i off=>match getH hp i with
   | .box cs=> .xp t0 (r (YG off cs))
   |_=> .junk
 | .own i lo m sz=>match getH hp i with
   | .own z sz' _ get=>bif YGS sz sz' then .vs t0 z m sz fun k=>r (get (Yb9 lo k))else .junk
   |_=> .junk
 | .elem i k off sz=>match getH hp i with
   | .own _ sz' _ get=>bif YGS sz sz' then .xp t0 (r (YG off (get k)))else .junk
   |_=> .junk
 | .opt _ _=> .junk
 | .cut _=> .junk
 | .smp _=> .junk
 |v=>v
def Ybu(t0:Bool)(hp:List HO)(r:List SV->List SV):List SV->List SV
 | []=>[]
 |x::l=>view t0 hp r x::Ybu t0 hp r l
end
def viewN(t0:Bool)(hp:List HO):Nat->List SV->List SV
 |0,l=>Yow l
 |n+1,l=>Ybu t0 hp (viewN t0 hp n) l
def expo(hp:List HO)(r:SV):SV:=view true hp (viewN true hp 2) r
mutual
def shift(d:Nat):SV->SV
 | .agg cs=> .agg (Yc2 d cs)
 | .tup cs=> .tup (Yc2 d cs)
 | .iface t v=> .iface t (shift d v)
 | .fn f a b=> .fn f (Yc2 d a) (Yc2 d b)
 | .ptr i off=> .ptr (d+i) off
 | .own i lo m sz=> .own (d+i) lo m sz
 | .elem i k off sz=> .elem (d+i) k off sz
 | .smp i=> .smp (d+i)
 | .opt b v=> .opt b (shift d v)
 | .cut v=> .cut (shift d v)
 |v=>v
def Yc2(d:Nat):List SV->List SV
 | []=>[]
 |x::l=>shift d x::Yc2 d l
end
def YW(d:Nat):List HO->List HO
 | []=>[]
 | .box cs::l=> .box (Yc2 d cs)::YW d l
 | .own z sz n get::l=> .own z sz n (fun k=>Yc2 d (get k))::YW d l
 | .smap m::l=> .smap m::YW d l
 | .gone::l=> .gone::YW d l
inductive CRes:Type 1 where
 |fin (r:SV) (hs:List HO)
 |pre (p:Prop) (c:CRes)
 |imp (p:Prop) (c:CRes)
 |all (α:Type) (c:α->CRes)
 |ex (α:Type) (c:α->CRes)
def psd(o:VO)(xs:List SV):Option CRes:=
 match o with
 | .load false _=>match xs with
   | [.rcell C]=>some (.all Int fun v=> .imp (C v) (.fin (.int .i64 v) []))
   |_=>none
 | .store n=>match xs with
   | [.rcell C,.int .i64 v]=>some (.pre (n=1/\C v) (.fin .junk []))
   |_=>none
 | .mkMap kk=>match xs with
   | []=>some (.ex (List Int->Int->Prop) fun C=> .fin (.imap kk C) [])
   |_=>none
 | .mapGet kk=>match xs with
   | [.imap ks C,.agg cs]=>(Yje kk cs).map fun(p,l)=> .pre (ks=kk/\p) (.all (Option Int) fun r=> .imp (∀v,r=some v->C l v) (.fin (.tup [.int .i64 (r.getD 0),.bool r.isSome]) []))
   |_=>none
 | .mapPut kk=>match xs with
   | [.imap ks C,.agg cs,.int .i64 v]=>(Yje kk cs).map fun(p,l)=> .pre ((ks=kk/\p)/\C l v) (.fin .junk [])
   |_=>none
 |_=>none
structure Ctr where
 alias:Bool
 of:List SV->CRes
structure Env where
 ct:FuncId->Option Ctr
 fn:FuncId->Option VF
 meth:TypeId->String->Option FuncId
 lo:FuncId->Bool:=fun _=>false
inductive It:Type 1 where
 |code (c:VC)
 |ops (l:List VOp)
 |dops (l:List DOp)
 |dtr (t:DTr)
 |inBlock (id:Nat)
 |inScope
 |inLoop (I:S->Prop)
 |frame (dst:Option Nat) (res:List VR)
 |rfrm (res:List VR) (l:Nat) (ps:List Nat) (a b:VC) (j:Option VC)
 |rbeg
 |rend (dst:Option Nat)
 |res (g:Option Bool) (al:Bool) (dst:Option Nat) (c:CRes)
inductive PT:Type 1 where
 |go (K:List It)
 |jump (d:Option Nat) (K:List It)
 |no
def You(c:VC):List It->List It
 | []=>[]
 | .inLoop _::k=> .inLoop (fun _=>False)::You c k
 | .rfrm res l ps a b _::k=> .rfrm res l ps a b (some c)::k
 |x::k=>x::You c k
def YeE:List It->Option (Nat×List Nat×VC×VC)
 | .rfrm _ l ps a b none::_=>some (l,ps,a,b)
 | .inBlock _::k=>YeE k
 | .inScope::k=>YeE k
 | .inLoop _::k=>YeE k
 | .code _::k=>YeE k
 | .ops _::k=>YeE k
 |_=>none
def Ybq:List It->Bool
 | .inBlock _::k=>Ybq k
 | .inScope::k=>Ybq k
 | .inLoop _::k=>Ybq k
 | .code _::k=>Ybq k
 | .ops _::k=>Ybq k
 | .rbeg::_=>false
 | .rend _::_=>false
 |_=>true
def YkC(d:Option Nat)(K:List It):Option (Nat×List Nat×VC×VC)->PT
 |some _=> .jump d K
 |none=> .no
def YbG(id:Nat):List It->PT
 | []=> .no
 | .inBlock j::k=>bif YGS j id then .go k else YbG id k
 | .inScope::k=>YbG id k
 | .inLoop _::k=>YbG id k
 | .code _::k=>YbG id k
 | .ops _::k=>YbG id k
 | .rend d::k=>YkC d (You (.exit id) k) (YeE k)
 |_::_=> .no
def Yad:List It->PT
 | []=> .go []
 | .inBlock _::k=>Yad k
 | .inScope::k=>Yad k
 | .inLoop _::k=>Yad k
 | .code _::k=>Yad k
 | .ops _::k=>Yad k
 | .frame d r::k=> .go (.frame d r::k)
 | .rfrm res l ps a b j::k=> .go (.rfrm res l ps a b j::k)
 | .rend d::k=>YkC d (You .ret k) (YeE k)
 |_::_=> .no
def YnU(s:S):VR->Option (Prop×SV)
 | .tmp t=>some (True,getL s.fr t)
 | .cell t agg size=>(Yhw s.hp agg size [getL s.fr t]).map fun e=>(e.pre,e.val)
def YaB(s:S):List VR->Option (Prop×List SV)
 | []=>some (True,[])
 |r::l=>(YnU s r).bind fun(p,v)=>(YaB s l).map fun(q,vs)=>(p/\q,v::vs)
def Yf3:List SV->SV
 | [x]=>x
 |l=> .tup l
def Yyk(b:Bool)(pol:Bool):Bool:=match pol with|true=>b|false=>!b
def Yab(v:SV)(pol:Bool):Option Bool:=
 match v with
 | .bool b=>some (Yyk b pol)
 | .opt c (.bool b)=>some (c&&Yyk b pol)
 |_=>none
def YkJ(P:Program)(t:TypeId)(m:String):Option FuncId:=
 (P.info? t).bind fun i=>(i.methods.find? (·.name==m)).bind fun r=>if r.path.isEmpty then match r.func with
   |some (f,false)=>match P.underlying t with
    |some (.pointer _)=>none
    |some _=>some f
    |none=>none
   |_=>none else none
mutual
def frzV(i:Nat)(z:Bool)(sz:Nat)(get:Nat->List SV):SV->SV
 | .agg cs=> .agg (frzL i z sz get cs)
 | .tup cs=> .tup (frzL i z sz get cs)
 | .ptr j o=>bif YGS j i then .junk else .ptr j o
 | .own j lo n s=>bif YGS j i then(bif YGS s sz then .vs true z n s (fun k=>get (Yb9 lo k))else .junk)else .own j lo n s
 | .elem j k o s=>bif YGS j i then .junk else .elem j k o s
 | .smp j=>bif YGS j i then .junk else .smp j
 | .fn f a b=> .fn f (frzL i z sz get a) (frzL i z sz get b)
 | .iface t v=> .iface t (frzV i z sz get v)
 | .opt b v=> .opt b (frzV i z sz get v)
 | .cut v=> .cut (frzV i z sz get v)
 |v=>v
def frzL(i:Nat)(z:Bool)(sz:Nat)(get:Nat->List SV):List SV->List SV
 | []=>[]
 |x::l=>frzV i z sz get x::frzL i z sz get l
end
def Yuv(i:Nat)(z:Bool)(sz:Nat)(get:Nat->List SV):List (List SV)->List (List SV)
 | []=>[]
 |x::l=>frzL i z sz get x::Yuv i z sz get l
def Yf7(i:Nat)(z:Bool)(sz:Nat)(get:Nat->List SV):List HO->List HO
 | []=>[]
 | .box cs::l=> .box (frzL i z sz get cs)::Yf7 i z sz get l
 | .own z' s n g::l=> .own z' s n (fun k=>frzL i z sz get (g k))::Yf7 i z sz get l
 | .smap m::l=> .smap m::Yf7 i z sz get l
 | .gone::l=> .gone::Yf7 i z sz get l
def frz1(s:S)(i:Nat)(h:HO):S:=
 match h with
 | .own z sz _ get=>{ fr:=frzL i z sz get s.fr,saved:=Yuv i z sz get s.saved,hp:=setH (Yf7 i z sz get s.hp) i .gone}
 |_=>s
def Yyj(h:HO):Prop:=
 match h with
 | .own _ _ n get=> ∀k,k<n->YaD (get k)=true
 |_=>True
def frzS:List Nat->S->S
 | [],s=>s
 |i::l,s=>frzS l (frz1 s i (getH s.hp i))
def frzP:List Nat->S->Prop
 | [],_=>True
 |i::l,s=>Yyj (getH s.hp i)/\frzP l (frz1 s i (getH s.hp i))
mutual
def bnd(n:Nat):SV->Prop
 | .agg cs=>bndL n cs
 | .tup cs=>bndL n cs
 | .ptr i _=>i<n
 | .own i _ _ _=>i<n
 | .elem i _ _ _=>i<n
 | .smp i=>i<n
 | .fn _ a b=>bndL n a/\bndL n b
 | .iface _ v=>bnd n v
 | .opt _ v=>bnd n v
 | .cut v=>bnd n v
 |_=>True
def bndL(n:Nat):List SV->Prop
 | []=>True
 |x::l=>bnd n x/\bndL n l
end
mutual
def leX:SV->SV->Prop
 |_,.junk=>True
 | .int k x,.int k' y=>k=k'/\x=y
 | .bool a,.bool b=>a=b
 | .nil,.vs _ z l _ _=>z=true/\l=0
 | .agg cs,.agg ds=>leXL cs ds
 | .tup cs,.tup ds=>leXL cs ds
 | .vs t z l sz get,.vs t' z' l' sz' get'=>(t'=true->t=true)/\z=z'/\l=l'/\sz=sz'/\∀k,k<l->leXL (get k) (get' k)
 | .xp t cs,.xp t' ds=>(t'=true->t=true)/\leXL cs ds
 |a,b=>a=b
def leXL:List SV->List SV->Prop
 | [],[]=>True
 |x::l,y::r=>leX x y/\leXL l r
 |_,_=>False
end
mutual
def le(m n:Nat):SV->SV->Prop
 |_,.junk=>True
 | .int k x,.int k' y=>k=k'/\x=y
 | .bool a,.bool b=>a=b
 | .nil,.own i lo l _=>m<=i/\i<n/\lo=0/\l=0
 | .nil,.vs _ z l _ _=>z=true/\l=0
 | .agg cs,.agg ds=>leL m n cs ds
 | .tup cs,.tup ds=>leL m n cs ds
 | .vs t z l sz get,.vs t' z' l' sz' get'=>(t'=true->t=true)/\z=z'/\l=l'/\sz=sz'/\∀k,k<l->leXL (get k) (get' k)
 | .own i lo l sz,.own i' lo' l' sz'=>i=i'/\lo=lo'/\l=l'/\sz=sz'/\i<n
 | .xp t cs,.xp t' ds=>(t'=true->t=true)/\leXL cs ds
 |a,b=>a=b/\bnd n b
def leL(m n:Nat):List SV->List SV->Prop
 | [],[]=>True
 |x::l,y::r=>le m n x y/\leL m n l r
 |_,_=>False
end
def leLL(m n:Nat):List (List SV)->List (List SV)->Prop
 | [],[]=>True
 |x::l,y::r=>leL m n x y/\leLL m n l r
 |_,_=>False
def leH1(m n:Nat):HO->HO->Prop
 | .box cs,.box ds=>leL m n cs ds
 | .own z sz l get,.own z' sz' l' get'=>z=z'/\sz=sz'/\l=l'/\∀k,k<l->leL m n (get k) (get' k)
 | .smap l,.smap l'=>l=l'
 | .gone,.gone=>True
 |_,_=>False
def leH(m n:Nat):List HO->List HO->Prop
 |_,[]=>True
 | [],.own z _ l _::r=>z=true/\l=0/\leH m n [] r
 | [],_::_=>False
 |x::l,y::r=>leH1 m n x y/\leH m n l r
def leS(s s':S):Prop:=
 leL (lenH s.hp) (lenH s'.hp) s.fr s'.fr/\leLL (lenH s.hp) (lenH s'.hp) s.saved s'.saved/\leH (lenH s.hp) (lenH s'.hp) s.hp s'.hp
def leF(s s':S):Prop:=∃l,frzP l s/\leS (frzS l s) s'
mutual
def pubV(i n:Nat)(C:Nat->Int->Prop):SV->SV
 | .agg cs=> .agg (pubL i n C cs)
 | .tup cs=> .tup (pubL i n C cs)
 | .ptr j o=>bif YGS j i then .junk else .ptr j o
 | .own j lo m s=>bif YGS j i then(bif YGS lo 0&&(YGS m n&&YGS s 1)then .row n C else .junk)else .own j lo m s
 | .elem j k o s=>bif YGS j i then .junk else .elem j k o s
 | .smp j=>bif YGS j i then .junk else .smp j
 | .fn f a b=> .fn f (pubL i n C a) (pubL i n C b)
 | .iface t v=> .iface t (pubV i n C v)
 | .opt b v=> .opt b (pubV i n C v)
 | .cut v=> .cut (pubV i n C v)
 |v=>v
def pubL(i n:Nat)(C:Nat->Int->Prop):List SV->List SV
 | []=>[]
 |x::l=>pubV i n C x::pubL i n C l
end
def Yu2(i n:Nat)(C:Nat->Int->Prop):List (List SV)->List (List SV)
 | []=>[]
 |x::l=>pubL i n C x::Yu2 i n C l
def Yga(i n:Nat)(C:Nat->Int->Prop):List HO->List HO
 | []=>[]
 | .box cs::l=> .box (pubL i n C cs)::Yga i n C l
 | .own z' s m g::l=> .own z' s m (fun k=>pubL i n C (g k))::Yga i n C l
 | .smap m::l=> .smap m::Yga i n C l
 | .gone::l=> .gone::Yga i n C l
def pub1(s:S)(i n:Nat)(C:Nat->Int->Prop):S:=
 {fr:=pubL i n C s.fr,saved:=Yu2 i n C s.saved,hp:=setH (Yga i n C s.hp) i .gone}
def pubC(D:Int->Prop)(l:List SV):Prop:=
 match l with
 | [.int .i64 v]=>D v
 |_=>False
def Yze(n:Nat)(C:Nat->Int->Prop)(h:HO):Prop:=
 match h with
 | .own _ sz m get=>(sz=1/\m=n/\0<n)/\∀k,k<n->pubC (C k) (get k)
 |_=>False
def pubS:List (Nat×Nat×(Nat->Int->Prop))->S->S
 | [],s=>s
 | (i,n,C)::l,s=>pubS l (pub1 s i n C)
def pubP:List (Nat×Nat×(Nat->Int->Prop))->S->Prop
 | [],_=>True
 | (i,n,C)::l,s=>Yze n C (getH s.hp i)/\pubP l (pub1 s i n C)
def leP(s s':S):Prop:=∃l,pubP l s/\leF (pubS l s) s'
def Loop(r:List It->S->Prop)(body:VC)(K:List It)(s:S)(le:S->S->Prop):Prop:=
 ∃(σ:Type) (head:σ->S) (inv:σ->Prop) (μ:σ->Nat) (lf:S->S->Prop),(∀a b,lf a b->le a b)/\
  (∃x,inv x/\lf s (head x))/\∀x,inv x->r (.code body:: .inLoop (fun s'=> ∃y,inv y/\μ y<μ x/\lf s' (head y))::K) (head x)
def Ykc:Nat->List SV
 |0=>[]
 |n+1=> .junk::Ykc n
def padL:Nat->List SV->List SV
 |n,[]=>Ykc n
 |0,l=>l
 |n+1,x::l=>x::padL n l
def YiJ(f:SV)(xs:List SV):Option (FuncId×List SV):=
 match f with
 | .fn (.func g) a b=>some (g,a++(xs++b))
 |_=>none
def YlD(v:SV)(l:List SV):Option FuncId->Option (FuncId×List SV)
 |some f=>some (f,v::l)
 |none=>none
def callee(E:Env)(o:VO)(xs:List SV):Option (FuncId×List SV):=
 match o with
 | .call f=>some (f,xs)
 | .callv=>match xs with
   |f::l=>YiJ f l
   | []=>none
 | .invoke m=>match xs with
   | .iface t v::l=>YlD v l (E.meth t m)
   |_=>none
 |_=>none
def inlK(r:List It->S->Prop)(d:Option Nat)(xs:List SV)(K:List It)(s:S)(o:Option VF):Prop:=
 match o with
 |some vf=>r (.code vf.body:: .frame d vf.res::K) { fr:=padL vf.ntmps xs,saved:=s.fr::s.saved,hp:=s.hp}
 |none=>False
def Yqk(E:Env)(r:List It->S->Prop)(d:Option Nat)(f:FuncId)(xs:List SV)(K:List It)(s:S)(o:Option Ctr):Prop:=
 match o with
 |some c=>(c.alias=true->YaD xs=true)/\r (.res none c.alias d (c.of (viewN false s.hp 3 xs))::K) s
 |none=>inlK r d xs K s (E.fn f)
def effK(r:List It->S->Prop)(d:Option Nat)(K:List It)(s:S)(o:Option Ef):Prop:=
 match o with
 |some e=>e.pre/\r K ((s.upd e.upd).put d e.val)
 |none=>False
def psdK(r:List It->S->Prop)(d:Option Nat)(o:VO)(xs:List SV)(K:List It)(s:S)(c:Option CRes):Prop:=
 match c with
 |some c=>r (.res none false d c::K) s
 |none=>effK r d K s (eff s.hp (lenH s.hp) o xs)
def VO.bad:VO->Bool
 | .mkSet| .setAdd| .lenSet=>true
 |_=>false
def effD(r:List It->S->Prop)(d:Option Nat)(b:Bool)(K:List It)(s:S)(o:Option Ef):Prop:=
 match b with
 |true=>False
 |false=>effK r d K s o
def psdD(r:List It->S->Prop)(d:Option Nat)(o:VO)(xs:List SV)(K:List It)(s:S)(c:Option CRes):Prop:=
 match c with
 |some c=>r (.res none false d c::K) s
 |none=>effD r d o.bad K s (eff s.hp (lenH s.hp) o xs)
def yld(o:VO)(xs:List SV):Option (Nat×List SV):=
 match o with
 | .callv=>match xs with
   | .fn (.yield l) [] []::ys=>some (l,ys)
   |_=>none
 |_=>none
def Yk3:List SV->List Nat->List SV->List SV
 |fr,p::ps,y::ys=>Yk3 (setL fr p y) ps ys
 |fr,_,_=>fr
def lenN:List Nat->Nat
 | []=>0
 |_::l=>lenN l+1
def yK(r:List It->S->Prop)(d:Option Nat)(l:Nat)(ys:List SV)(K:List It)(s:S)(o:Option (Nat×List Nat×VC×VC))(sv:List (List SV)):Prop:=
 match o,sv with
 |some (l',ps,a,b),fr::_=>(l=l'/\lenL ys=lenN ps)/\r (.code a:: .rbeg:: .code b:: .rend d::K) { fr:=Yk3 fr ps ys,saved:=s.fr::s.saved,hp:=s.hp}
 |_,_=>False
def yldK(r:List It->S->Prop)(d:Option Nat)(o:VO)(xs:List SV)(K:List It)(s:S)(y:Option (Nat×List SV)):Prop:=
 match y with
 |some (l,ys)=>yK r d l ys K s (YeE K) s.saved
 |none=>psdK r d o xs K s (psd o xs)
def opK(E:Env)(r:List It->S->Prop)(d:Option Nat)(o:VO)(xs:List SV)(K:List It)(s:S)(c:Option (FuncId×List SV)):Prop:=
 match c with
 |some (f,ys)=>Yqk E r d f ys K s (E.ct f)
 |none=>yldK r d o xs K s (yld o xs)
def YoI(E:Env)(r:List It->S->Prop)(d:Option Nat)(o:VO)(xs:List SV)(K:List It)(s:S):Prop:=
 opK E r d o xs K s (callee E o xs)
def effG(r:List It->S->Prop)(gb:Bool)(d:Option Nat)(p:Prop)(K:List It)(s:S)(o:Option Ef):Prop:=
 match o with
 |some ⟨q,v,.no⟩=>p/\(gb=true->q)/\r K (s.put d (.opt gb v))
 |_=>False
def effH(r:List It->S->Prop)(gb:Bool)(d:Option Nat)(p:Prop)(K:List It)(s:S)(o:Option Ef):Prop:=
 match o with
 |some ⟨q,v,.no⟩=>p/\(gb=true->q)/\r K (s.put d (.opt gb v))
 |none=>gb=false/\∃v:SV,r K (s.put d (.opt gb v))
 |_=>False
def Yqj(E:Env)(r:List It->S->Prop)(gb:Bool)(d:Option Nat)(o:VO)(p:Prop)(xs:List SV)(K:List It)(s:S)(c:Option (Ctr×List SV)):Prop:=
 match c with
 |some (c,ys)=>p/\(c.alias=true->YaD ys=true)/\r (.res (some gb) c.alias d (c.of (viewN false s.hp 3 ys))::K) s
 |none=>p/\(gb=true->YoI E r d o xs K s)/\(gb=false->r K (s.put d .junk))
def ctM(ys:List SV):Option Ctr->Option (Ctr×List SV)
 |some c=>some (c,ys)
 |none=>none
def ctI(E:Env)(v:SV)(l:List SV):Option FuncId->Option (Ctr×List SV)
 |some f=>ctM (v::l) (E.ct f)
 |none=>none
def ctOf(E:Env)(o:VO)(xs:List SV):Option (Ctr×List SV):=
 match o with
 | .call f=>ctM xs (E.ct f)
 | .invoke m=>match xs with
   | .iface t v::l=>ctI E v l (E.meth t m)
   |_=>none
 |_=>none
def gK(E:Env)(r:List It->S->Prop)(gb:Bool)(d:Option Nat)(o:VO)(xs:Prop×List SV)(K:List It)(s:S)(q:Bool):Prop:=
 match q with
 |true=>effH r gb d xs.1 K s (eff s.hp (lenH s.hp) o xs.2)
 |false=>Yqj E r gb d o xs.1 xs.2 K s (ctOf E o xs.2)
def Yq4(E:Env)(r:List It->S->Prop)(d:Option Nat)(o:VO)(xs:List X)(K:List It)(s:S)(g:Option Bool):Prop:=
 match g with
 |some gb=>gK E r gb d o (YU o gb (s.args xs)) K s o.quiet
 |none=>False
def Yz1(r:List It->S->Prop)(al:Bool)(d:Option Nat)(K:List It)(s:S)(c:CRes):Prop:=
 match c with
 | .fin v hs=>r K (S.put { fr:=s.fr,saved:=s.saved,hp:=s.hp++YW (lenH s.hp) hs} d (shift (lenH s.hp) v))
 | .pre p c=>p/\r (.res none al d c::K) s
 | .imp p c=>p->r (.res none al d c::K) s
 | .all α c=> ∀x:α,r (.res none al d (c x)::K) s
 | .ex α c=> ∃x:α,r (.res none al d (c x)::K) s
def Yvr(r:List It->S->Prop)(gb:Bool)(al:Bool)(d:Option Nat)(K:List It)(s:S)(c:CRes):Prop:=
 match c with
 | .fin v []=>r K (s.put d (.opt gb (shift (lenH s.hp) v)))
 | .pre p c=>(gb=true->p)/\r (.res (some gb) al d c::K) s
 | .ex α c=> ∃x:α,r (.res (some gb) al d (c x)::K) s
 |_=>False
def YqY(r:List It->S->Prop)(d:Option Nat)(K:List It)(hp:List HO)(v:Option (Prop×List SV))(sv:List (List SV)):Prop:=
 match v,sv with
 |some (p,vs),fr::sv=>p/\r K (S.put { fr:=fr,saved:=sv,hp:=hp} d (Yf3 vs))
 |_,_=>False
def YxL(r:List It->S->Prop)(a b:VC)(K:List It)(s:S)(v:SV):Prop:=
 match v with
 | .bool c=>(c=true->r (.code a::K) s)/\(c=false->r (.code b::K) s)
 |_=>False
def YoG(r:List It->S->Prop)(d:Option Nat)(b:Bool)(K:List It)(hp:List HO)(sv:List (List SV)):Prop:=
 match sv with
 |fr::sv=>r K (S.put { fr:=fr,saved:=sv,hp:=hp} d (.bool b))
 | []=>False
def YyA(j:Option VC)(K:List It):List It:=
 match j with
 |some c=> .code c::K
 |none=>K
def YzK(r:List It->S->Prop)(j:Option VC)(K:List It)(hp:List HO)(v:Option (Prop×List SV))(sv:List (List SV)):Prop:=
 match v,sv with
 |some (p,_),fr::sv=>p/\r (YyA j K) { fr:=fr,saved:=sv,hp:=hp}
 |_,_=>False
def Yoq(r:List It->S->Prop)(s:S)(K:PT):Prop:=
 match K with
 | .go K'=>r K' s
 | .jump d K'=>YoG r d false K' s.hp s.saved
 | .no=>False
def YnR(r:List It->S->Prop)(ps:List Nat)(a b:VC)(K:List It)(s:S)(us cs:List SV)(o:Option VF):Prop:=
 match o with
 |some vf=>Ybq K=true/\∀l:Nat,r (.code vf.body:: .rfrm vf.res l ps a b none::K) { fr:=padL vf.ntmps (us++(.fn (.yield l) [] []::cs)),saved:=s.fr::s.saved,hp:=s.hp}
 |none=>False
def YnS(E:Env)(r:List It->S->Prop)(ps:List Nat)(a b:VC)(K:List It)(s:S)(f:SV):Prop:=
 match f with
 | .fn (.func g) us cs=>YnR r ps a b K s us cs (E.fn g)
 |_=>False
def blk:SV->Option Nat
 | .ptr i _=>some i
 | .elem i _ _ _=>some i
 | .own i _ _ _=>some i
 | .cut v=>blk v
 |_=>none
def YoO:SV->SV
 | .opt _ v=>v
 |v=>v
def Yp3(a b:Option Nat):Prop:=
 match a with
 |some i=>match b with
  |some j=>i≠j
  |none=>True
 |none=>True
def YhL(x y:SV):Prop:=Yp3 (blk (YoO x)) (blk y)
def chkP(s:S)(y:SV):List X->Prop
 | []=>True
 |x::l=>YhL (s.x x) y/\chkP s y l
def Yz6:SV->Bool
 | .junk=>false
 |_=>true
def napB(x:SV)(b:Option Nat):Prop:=
 match b with
 |some i=>refs i x=false/\Yz6 x=true
 |none=>True
def napP(x y:SV):Prop:=napB x (blk y)
def chkA(s:S)(y:SV):List X->Prop
 | []=>True
 |x::l=>napP (s.x x) y/\chkA s y l
def chkG(ap:Bool)(s:S)(y:SV)(l:List X):Prop:=
 match ap with
 |false=>chkP s y l
 |true=>chkA s y l
def AL.ho:AL->HO
 | .box z=> .box z
 | .arr n size z=> .own false size n (YaN size z)
def YhC:S->List (Nat×AL)->S
 |s,[]=>s
 |s,(d,z)::l=>YhC ((s.upd (.new z.ho)).put (some d) (.ptr (lenH s.hp) 0)) l
def dq(r:List It->S->Prop)(d:Option Nat)(K:List It)(s:S)(o:Option Ef):Prop:=
 match o with
 |some ⟨p,v,.no⟩=>p/\r K (s.put d v)
 |_=>False
def Yf2:List It->List It
 | .dops _::K=>Yf2 K
 | .dtr _::K=>Yf2 K
 |K=>K
def YqT(r:List It->S->Prop)(body:VC)(d:Option Nat)(res:List VR)(s1:S)(K:List It):Prop:=
 ∃B:S->Prop,r (.code body:: .frame d res:: .inLoop B::Yf2 K) s1/\∀s',B s'->r K s'
def dinl(r:List It->S->Prop)(d:Option Nat)(ys:List SV)(K:List It)(s:S)(o:VO)(b:Bool)(v:Option VF):Prop:=
 match o with
 | .call _=>match b with
   |true=>match v with
    |some vf=>YqT r vf.body d vf.res { fr:=padL vf.ntmps ys,saved:=s.fr::s.saved,hp:=s.hp} K
    |none=>False
   |false=>False
 |_=>False
def dct(E:Env)(r:List It->S->Prop)(d:Option Nat)(f:FuncId)(o:VO)(ys:List SV)(K:List It)(s:S)(c:Option Ctr):Prop:=
 match c with
 |some c=>(c.alias=true->YaD ys=true)/\r (.res none c.alias d (c.of (viewN false s.hp 3 ys))::K) s
 |none=>dinl r d ys K s o (E.lo f) (E.fn f)
def dcl(E:Env)(r:List It->S->Prop)(d:Option Nat)(o:VO)(xs:List SV)(K:List It)(s:S)(c:Option (FuncId×List SV)):Prop:=
 match c with
 |some (f,ys)=>dct E r d f o ys K s (E.ct f)
 |none=>psdD r d o xs K s (psd o xs)
def dpl(E:Env)(r:List It->S->Prop)(d:Option Nat)(o:VO)(xs:List SV)(K:List It)(s:S)(q:Bool):Prop:=
 match q with
 |true=>dq r d K s (eff s.hp (lenH s.hp) o xs)
 |false=>dcl E r d o xs K s (callee E o xs)
def dctG(r:List It->S->Prop)(gb:Bool)(d:Option Nat)(p:Prop)(K:List It)(s:S)(c:Option (Ctr×List SV)):Prop:=
 match c with
 |some (c,ys)=>p/\(c.alias=true->YaD ys=true)/\r (.res (some gb) c.alias d (c.of (viewN false s.hp 3 ys))::K) s
 |none=>False
def dgq(E:Env)(r:List It->S->Prop)(gb:Bool)(d:Option Nat)(o:VO)(xs:Prop×List SV)(K:List It)(s:S)(q:Bool):Prop:=
 match q with
 |true=>effG r gb d xs.1 K s (eff s.hp (lenH s.hp) o xs.2)
 |false=>dctG r gb d xs.1 K s (ctOf E o xs.2)
def dgd(E:Env)(r:List It->S->Prop)(d:Option Nat)(o:VO)(xs:List X)(K:List It)(s:S)(g:Option Bool):Prop:=
 match g with
 |some gb=>dgq E r gb d o (YU o gb (s.args xs)) K s o.quiet
 |none=>False
def dop(E:Env)(r:List It->S->Prop)(v:VOp)(K:List It)(s:S):Prop:=
 match v.g with
 |none=>dpl E r v.dst v.op (s.args v.xs) K s v.op.quiet
 |some (g,pol)=>dgd E r v.dst v.op v.xs K s (Yab (getL s.fr g) pol)
def Yvq(E:Env)(r:List It->S->Prop)(l:List DOp)(K:List It)(s:S):Prop:=
 match l with
 | []=>r K s
 | ⟨v,chk⟩::l=>chkG v.op.isAppend s (s.x (YcN v.xs)) chk/\dop E r v (.dops l::K) s
def YzZ(r:List It->S->Prop)(t:DTr)(K:List It)(s:S):Prop:=
 match t with
 | .leaf=>r K s
 | .ops l t=>r (.dops l:: .dtr t::K) s
 | .br a b=>r (.dtr a::K) s/\r (.dtr b::K) s
def endK(Q:SV->List HO->Prop)(hp:List HO)(v:Option (Prop×List SV)):Prop:=
 match v with
 |some (p,vs)=>p/\Q (Yf3 vs) hp
 |none=>False
def Yz0(E:Env)(r:List It->S->Prop)(l:List VOp)(K:List It)(s:S):Prop:=
 match l with
 | []=>r K s
 |o::l=>match o.g with
  |none=>YoI E r o.dst o.op (s.args o.xs) (.ops l::K) s
  |some (g,pol)=>Yq4 E r o.dst o.op o.xs (.ops l::K) s (Yab (getL s.fr g) pol)
def Yvp(E:Env)(r:List It->S->Prop)(c:VC)(K:List It)(s:S):Prop:=
 match c with
 | .skip=>r K s
 | .region l=>r (.ops l::K) s
 | .draw al l=>r (.dops l::K) (YhC s al)
 | .drawT al t=>r (.dtr t::K) (YhC s al)
 | .rangeFn g ps a b=>YnS E r ps a b K s (s.x g)
 | .seq a b=>r (.code a:: .code b::K) s
 | .cond x a b=>YxL r a b K s (s.x x)
 | .block i c=>r (.code c:: .inBlock i::K) s
 | .scope c=>r (.code c:: .inScope::K) s
 | .loop c=>Loop r c K s leP
 | .exit i=>Yoq r s (YbG i K)
 | .ret=>Yoq r s (Yad K)
 | .stuck=>False
def step(E:Env)(Q:SV->List HO->Prop)(vres:List VR)(r:List It->S->Prop)(K:List It)(s:S):Prop:=
 match K with
 | []=>endK Q s.hp (YaB s vres)
 |x::K=>match x with
  | .ops l=>Yz0 E r l K s
  | .dops l=>Yvq E r l K s
  | .dtr t=>YzZ r t K s
  | .rfrm res _ _ _ _ j=>YzK r j K s.hp (YaB s res) s.saved
  | .rbeg=>r K s
  | .rend d=>YoG r d true K s.hp s.saved
  | .inBlock _=>r K s
  | .inScope=>r K s
  | .inLoop I=>I s
  | .frame d res=>YqY r d K s.hp (YaB s res) s.saved
  | .res none al d c=>Yz1 r al d K s c
  | .res (some gb) al d c=>Yvr r gb al d K s c
  | .code c=>Yvp E r c K s
def run(E:Env)(Q:SV->List HO->Prop)(vres:List VR):Nat->List It->S->Prop
 |0,_,_=>False
 |n+1,K,s=>step E Q vres (run E Q vres n) K s
section rules
variable (E:Env) (Q:SV->List HO->Prop) (vr:List VR) (n:Nat) (K:List It) (s:S) (r:List It->S->Prop)
theorem YD7:run E Q vr (n+1) [] s=endK Q s.hp (YaB s vr):=rfl
theorem YD8(hp:List HO)(p:Prop)(vs:List SV):endK Q hp (some (p,vs))=(p/\Q (Yf3 vs) hp):=rfl
theorem r_nil:run E Q vr (n+1) (.ops []::K) s=run E Q vr n K s:=rfl
theorem r_op(d:Option Nat)(o:VO)(xs:List X)(l:List VOp):run E Q vr (n+1) (.ops (⟨d,none,o,xs⟩::l)::K) s=opK E (run E Q vr n) d o (s.args xs) (.ops l::K) s (callee E o (s.args xs)):=rfl
theorem YEb(d:Option Nat)(g:Nat)(pol:Bool)(o:VO)(xs:List X)(l:List VOp):run E Q vr (n+1) (.ops (⟨d,some (g,pol),o,xs⟩::l)::K) s=Yq4 E (run E Q vr n) d o xs (.ops l::K) s (Yab (getL s.fr g) pol):=rfl
theorem Yzz(d:Option Nat)(o:VO)(xs:List SV):YoI E r d o xs K s=opK E r d o xs K s (callee E o xs):=rfl
theorem r_op0(d:Option Nat)(o:VO)(xs:List SV):opK E r d o xs K s none=yldK r d o xs K s (yld o xs):=rfl
theorem YEj(d:Option Nat)(o:VO)(xs:List SV):yldK r d o xs K s none=psdK r d o xs K s (psd o xs):=rfl
theorem YEd(d:Option Nat)(o:VO)(xs:List SV):psdK r d o xs K s none=effK r d K s (eff s.hp (lenH s.hp) o xs):=rfl
theorem YEe(d:Option Nat)(o:VO)(xs:List SV)(c:CRes):psdK r d o xs K s (some c)=r (.res none false d c::K) s:=rfl
theorem YEk(d:Option Nat)(o:VO)(xs ys:List SV)(l:Nat):yldK r d o xs K s (some (l,ys))=yK r d l ys K s (YeE K) s.saved:=rfl
theorem r_y(d:Option Nat)(l l':Nat)(ys fr:List SV)(ps:List Nat)(a b:VC)(sv:List (List SV)):yK r d l ys K s (some (l',ps,a,b)) (fr::sv)=((l=l'/\lenL ys=lenN ps)/\r (.code a:: .rbeg:: .code b:: .rend d::K) { fr:=Yk3 fr ps ys,saved:=s.fr::s.saved,hp:=s.hp}):=rfl
theorem YEf:run E Q vr (n+1) (.rbeg::K) s=run E Q vr n K s:=rfl
theorem Ywi(d:Option Nat):run E Q vr (n+1) (.rend d::K) s=YoG (run E Q vr n) d true K s.hp s.saved:=rfl
theorem Yzx(d:Option Nat)(b:Bool)(hp:List HO)(fr:List SV)(sv:List (List SV)):YoG r d b K hp (fr::sv)=r K (S.put { fr:=fr,saved:=sv,hp:=hp} d (.bool b)):=rfl
theorem Ywj(res:List VR)(l:Nat)(ps:List Nat)(a b:VC)(j:Option VC):run E Q vr (n+1) (.rfrm res l ps a b j::K) s=YzK (run E Q vr n) j K s.hp (YaB s res) s.saved:=rfl
theorem Yzy(j:Option VC)(hp:List HO)(p:Prop)(vs fr:List SV)(sv:List (List SV)):YzK r j K hp (some (p,vs)) (fr::sv)=(p/\r (YyA j K) { fr:=fr,saved:=sv,hp:=hp}):=rfl
theorem Yso(g:X)(ps:List Nat)(a b:VC):run E Q vr (n+1) (.code (.rangeFn g ps a b)::K) s=YnS E (run E Q vr n) ps a b K s (s.x g):=rfl
theorem Yu8(ps:List Nat)(a b:VC)(g:FuncId)(us cs:List SV):YnS E r ps a b K s (.fn (.func g) us cs)=YnR r ps a b K s us cs (E.fn g):=rfl
theorem Yu7(ps:List Nat)(a b:VC)(us cs:List SV)(nt:Nat)(res:List VR)(body:VC):YnR r ps a b K s us cs (some ⟨nt,res,body⟩)=(Ybq K=true/\∀l:Nat,r (.code body:: .rfrm res l ps a b none::K) { fr:=padL nt (us++(.fn (.yield l) [] []::cs)),saved:=s.fr::s.saved,hp:=s.hp}):=rfl
theorem YD2(al:List (Nat×AL))(l:List DOp):run E Q vr (n+1) (.code (.draw al l)::K) s=run E Q vr n (.dops l::K) (YhC s al):=rfl
theorem Yzq(al:List (Nat×AL))(t:DTr):run E Q vr (n+1) (.code (.drawT al t)::K) s=run E Q vr n (.dtr t::K) (YhC s al):=rfl
theorem YzC:run E Q vr (n+1) (.dtr .leaf::K) s=run E Q vr n K s:=rfl
theorem YEi(l:List DOp)(t:DTr):run E Q vr (n+1) (.dtr (.ops l t)::K) s=run E Q vr n (.dops l:: .dtr t::K) s:=rfl
theorem r_tbr(a b:DTr):run E Q vr (n+1) (.dtr (.br a b)::K) s=(run E Q vr n (.dtr a::K) s/\run E Q vr n (.dtr b::K) s):=rfl
theorem YEw(y:SV)(l:List X):chkG false s y l=chkP s y l:=rfl
theorem YEx(y:SV)(l:List X):chkG true s y l=chkA s y l:=rfl
theorem YDY:run E Q vr (n+1) (.dops []::K) s=run E Q vr n K s:=rfl
theorem r_dop(d:Option Nat)(o:VO)(xs:List X)(chk:List X)(l:List DOp):run E Q vr (n+1) (.dops (⟨⟨d,none,o,xs⟩,chk⟩::l)::K) s=(chkG o.isAppend s (s.x (YcN xs)) chk/\dpl E (run E Q vr n) d o (s.args xs) (.dops l::K) s o.quiet):=rfl
theorem YDZ(d:Option Nat)(g:Nat)(pol:Bool)(o:VO)(xs:List X)(chk:List X)(l:List DOp):run E Q vr (n+1) (.dops (⟨⟨d,some (g,pol),o,xs⟩,chk⟩::l)::K) s=(chkG o.isAppend s (s.x (YcN xs)) chk/\dgd E (run E Q vr n) d o xs (.dops l::K) s (Yab (getL s.fr g) pol)):=rfl
theorem YD1(d:Option Nat)(o:VO)(xs:List SV):dpl E r d o xs K s true=dq r d K s (eff s.hp (lenH s.hp) o xs):=rfl
theorem YD0(d:Option Nat)(o:VO)(xs:List SV):dpl E r d o xs K s false=dcl E r d o xs K s (callee E o xs):=rfl
theorem r_dq(d:Option Nat)(p:Prop)(v:SV):dq r d K s (some ⟨p,v,.no⟩)=(p/\r K (s.put d v)):=rfl
theorem r_dq0(d:Option Nat):dq r d K s none=False:=rfl
theorem YDR(d:Option Nat)(o:VO)(xs ys:List SV)(f:FuncId):dcl E r d o xs K s (some (f,ys))=dct E r d f o ys K s (E.ct f):=rfl
theorem YDQ(d:Option Nat)(o:VO)(xs:List SV):dcl E r d o xs K s none=psdD r d o xs K s (psd o xs):=rfl
theorem Yzv(d:Option Nat)(o:VO)(xs:List SV):psdD r d o xs K s none=effD r d o.bad K s (eff s.hp (lenH s.hp) o xs):=rfl
theorem Yzw(d:Option Nat)(o:VO)(xs:List SV)(c:CRes):psdD r d o xs K s (some c)=r (.res none false d c::K) s:=rfl
theorem YD4(d:Option Nat)(o:Option Ef):effD r d false K s o=effK r d K s o:=rfl
theorem YDT(d:Option Nat)(f:FuncId)(o:VO)(ys:List SV)(al:Bool)(c:List SV->CRes):dct E r d f o ys K s (some ⟨al,c⟩)=((al=true->YaD ys=true)/\r (.res none al d (c (viewN false s.hp 3 ys))::K) s):=rfl
theorem YDS(d:Option Nat)(f:FuncId)(o:VO)(ys:List SV):dct E r d f o ys K s none=dinl r d ys K s o (E.lo f) (E.fn f):=rfl
theorem YDX(d:Option Nat)(f:FuncId)(ys:List SV)(nt:Nat)(res:List VR)(body:VC):dinl r d ys K s (.call f) true (some ⟨nt,res,body⟩)=YqT r body d res { fr:=padL nt ys,saved:=s.fr::s.saved,hp:=s.hp} K:=rfl
theorem Yzp(d:Option Nat)(f:FuncId)(ys:List SV)(v:Option VF):dinl r d ys K s (.call f) false v=False:=rfl
theorem r_dgd(d:Option Nat)(o:VO)(xs:List X)(gb:Bool):dgd E r d o xs K s (some gb)=dgq E r gb d o (YU o gb (s.args xs)) K s o.quiet:=rfl
theorem YDW(gb:Bool)(d:Option Nat)(o:VO)(p:Prop)(xs:List SV):dgq E r gb d o (p,xs) K s true=effG r gb d p K s (eff s.hp (lenH s.hp) o xs):=rfl
theorem YDV(gb:Bool)(d:Option Nat)(o:VO)(p:Prop)(xs:List SV):dgq E r gb d o (p,xs) K s false=dctG r gb d p K s (ctOf E o xs):=rfl
theorem YDU(gb:Bool)(d:Option Nat)(p:Prop)(xs:List SV)(al:Bool)(c:List SV->CRes):dctG r gb d p K s (some (⟨al,c⟩,xs))=(p/\(al=true->YaD xs=true)/\r (.res (some gb) al d (c (viewN false s.hp 3 xs))::K) s):=rfl
theorem r_op1(d:Option Nat)(o:VO)(xs ys:List SV)(f:FuncId):opK E r d o xs K s (some (f,ys))=Yqk E r d f ys K s (E.ct f):=rfl
theorem r_eff(d:Option Nat)(p:Prop)(v:SV)(u:Upd):effK r d K s (some ⟨p,v,u⟩)=(p/\r K ((s.upd u).put d v)):=rfl
theorem YD3(d:Option Nat):effK r d K s none=False:=rfl
theorem YDP(d:Option Nat)(f:FuncId)(xs:List SV)(al:Bool)(c:List SV->CRes):Yqk E r d f xs K s (some ⟨al,c⟩)=((al=true->YaD xs=true)/\r (.res none al d (c (viewN false s.hp 3 xs))::K) s):=rfl
theorem Yzm(d:Option Nat)(f:FuncId)(xs:List SV):Yqk E r d f xs K s none=inlK r d xs K s (E.fn f):=rfl
theorem r_inl(d:Option Nat)(xs:List SV)(nt:Nat)(res:List VR)(b:VC):inlK r d xs K s (some ⟨nt,res,b⟩)=r (.code b:: .frame d res::K) { fr:=padL nt xs,saved:=s.fr::s.saved,hp:=s.hp}:=rfl
theorem r_g(d:Option Nat)(o:VO)(xs:List X)(gb:Bool):Yq4 E r d o xs K s (some gb)=gK E r gb d o (YU o gb (s.args xs)) K s o.quiet:=rfl
theorem r_gq(gb:Bool)(d:Option Nat)(o:VO)(p:Prop)(xs:List SV):gK E r gb d o (p,xs) K s true=effH r gb d p K s (eff s.hp (lenH s.hp) o xs):=rfl
theorem r_gc(gb:Bool)(d:Option Nat)(o:VO)(p:Prop)(xs:List SV):gK E r gb d o (p,xs) K s false=Yqj E r gb d o p xs K s (ctOf E o xs):=rfl
theorem YD5(gb:Bool)(d:Option Nat)(p q:Prop)(v:SV):effG r gb d p K s (some ⟨q,v,.no⟩)=(p/\(gb=true->q)/\r K (s.put d (.opt gb v))):=rfl
theorem YD6(gb:Bool)(d:Option Nat)(p q:Prop)(v:SV):effH r gb d p K s (some ⟨q,v,.no⟩)=(p/\(gb=true->q)/\r K (s.put d (.opt gb v))):=rfl
theorem Yzs(gb:Bool)(d:Option Nat)(p:Prop):effH r gb d p K s none=(gb=false/\∃v:SV,r K (s.put d (.opt gb v))):=rfl
theorem Yzr(gb:Bool)(d:Option Nat)(p:Prop):effG r gb d p K s none=False:=rfl
theorem Yzn(gb:Bool)(d:Option Nat)(o:VO)(p:Prop)(xs ys:List SV)(al:Bool)(c:List SV->CRes):Yqj E r gb d o p xs K s (some (⟨al,c⟩,ys))=(p/\(al=true->YaD ys=true)/\r (.res (some gb) al d (c (viewN false s.hp 3 ys))::K) s):=rfl
theorem Yu4(gb:Bool)(d:Option Nat)(o:VO)(p:Prop)(xs:List SV):Yqj E r gb d o p xs K s none=(p/\(gb=true->YoI E r d o xs K s)/\(gb=false->r K (s.put d .junk))):=rfl
theorem r_fin(al:Bool)(d:Option Nat)(v:SV)(hs:List HO):run E Q vr (n+1) (.res none al d (.fin v hs)::K) s=(run E Q vr n K (S.put { fr:=s.fr,saved:=s.saved,hp:=s.hp++YW (lenH s.hp) hs} d (shift (lenH s.hp) v))):=rfl
theorem r_pre(al:Bool)(d:Option Nat)(p:Prop)(c:CRes):run E Q vr (n+1) (.res none al d (.pre p c)::K) s=(p/\run E Q vr n (.res none al d c::K) s):=rfl
theorem r_imp(al:Bool)(d:Option Nat)(p:Prop)(c:CRes):run E Q vr (n+1) (.res none al d (.imp p c)::K) s=(p->run E Q vr n (.res none al d c::K) s):=rfl
theorem r_all(al:Bool)(d:Option Nat)(α:Type)(c:α->CRes):run E Q vr (n+1) (.res none al d (.all α c)::K) s=(∀x:α,run E Q vr n (.res none al d (c x)::K) s):=rfl
theorem r_ex(al:Bool)(d:Option Nat)(α:Type)(c:α->CRes):run E Q vr (n+1) (.res none al d (.ex α c)::K) s=(∃x:α,run E Q vr n (.res none al d (c x)::K) s):=rfl
theorem YD9(gb al:Bool)(d:Option Nat)(v:SV):run E Q vr (n+1) (.res (some gb) al d (.fin v [])::K) s=(run E Q vr n K (s.put d (.opt gb (shift (lenH s.hp) v)))):=rfl
theorem YEc(gb al:Bool)(d:Option Nat)(p:Prop)(c:CRes):run E Q vr (n+1) (.res (some gb) al d (.pre p c)::K) s=((gb=true->p)/\run E Q vr n (.res (some gb) al d c::K) s):=rfl
theorem r_exg(gb al:Bool)(d:Option Nat)(α:Type)(c:α->CRes):run E Q vr (n+1) (.res (some gb) al d (.ex α c)::K) s=(∃x:α,run E Q vr n (.res (some gb) al d (c x)::K) s):=rfl
theorem Ysm(i:Nat):run E Q vr (n+1) (.inBlock i::K) s=run E Q vr n K s:=rfl
theorem Ysn:run E Q vr (n+1) (.inScope::K) s=run E Q vr n K s:=rfl
theorem YzA(c:VC):run E Q vr (n+1) (.code (.scope c)::K) s=run E Q vr n (.code c:: .inScope::K) s:=rfl
theorem Yu6(I:S->Prop):run E Q vr (n+1) (.inLoop I::K) s=I s:=rfl
theorem Ysl(d:Option Nat)(res:List VR):run E Q vr (n+1) (.frame d res::K) s=YqY (run E Q vr n) d K s.hp (YaB s res) s.saved:=rfl
theorem Yu5(d:Option Nat)(hp:List HO)(p:Prop)(vs fr:List SV)(sv:List (List SV)):YqY r d K hp (some (p,vs)) (fr::sv)=(p/\r K (S.put { fr:=fr,saved:=sv,hp:=hp} d (Yf3 vs))):=rfl
theorem YEh:run E Q vr (n+1) (.code .skip::K) s=run E Q vr n K s:=rfl
theorem YzB:run E Q vr (n+1) (.code .stuck::K) s=False:=rfl
theorem Yu9(l:List VOp):run E Q vr (n+1) (.code (.region l)::K) s=run E Q vr n (.ops l::K) s:=rfl
theorem r_seq(a b:VC):run E Q vr (n+1) (.code (.seq a b)::K) s=run E Q vr n (.code a:: .code b::K) s:=rfl
theorem Ywg(x:X)(a b:VC):run E Q vr (n+1) (.code (.cond x a b)::K) s=YxL (run E Q vr n) a b K s (s.x x):=rfl
theorem Yzo(a b:VC)(c:Bool):YxL r a b K s (.bool c)=((c=true->r (.code a::K) s)/\(c=false->r (.code b::K) s)):=rfl
theorem Yzl(i:Nat)(c:VC):run E Q vr (n+1) (.code (.block i c)::K) s=run E Q vr n (.code c:: .inBlock i::K) s:=rfl
theorem Ywh(i:Nat):run E Q vr (n+1) (.code (.exit i)::K) s=Yoq (run E Q vr n) s (YbG i K):=rfl
theorem Yzt(K':List It):Yoq r s (.go K')=r K' s:=rfl
theorem Yzu(d:Option Nat)(K':List It):Yoq r s (.jump d K')=YoG r d false K' s.hp s.saved:=rfl
theorem YEg:run E Q vr (n+1) (.code .ret::K) s=Yoq (run E Q vr n) s (Yad K):=rfl
theorem YEa(c:VC):run E Q vr (n+1) (.code (.loop c)::K) s=Loop (run E Q vr n) c K s leP:=rfl
theorem YzR:s.args []=[]:=rfl
theorem YzS(x:X)(l:List X):s.args (x::l)=s.x x::s.args l:=rfl
theorem s_xt(i:Nat):s.x (.tm i)=getL s.fr i:=rfl
theorem s_xc(v:SV):s.x (.cn v)=v:=rfl
end rules
end Go.Vx
namespace Go.Vx
open Go.RowKit
inductive BK where
 |gone|nil|blk (b cap n:Nat)
def Free(bs:List BK)(b:Nat):Prop:=∀(i b' c n:Nat),bs[i]? =some (.blk b' c n)->b'≠b
def keyV(kk:List IntKind)(l:List Int):Value:= .agg ((kk.zip l).map fun p=> .int p.1 p.2).toArray
def IK.ok:IK->Obj->Prop
 | .ints n C,o=> ∃vs T,o= .cells vs T (0,0)/\n<=vs.size/\∀k,k<n->∃v,vs[k]? =some (.int .i64 v)/\C k v
 | .map kk C,o=> ∃es clock,o= .map es clock/\∀e∈es.toList,∃l v,l.length=kk.length/\e.key=keyV kk l/\e.val= .int .i64 v/\C l v
structure Bd where
 n:Nat
 F:Nat->Prop
 I:Nat->Option IK
 up:∀b,n<=b->I b=none->F b
 ex:∀b,F b->I b=none
instance :Coe Bd Nat:=⟨Bd.n⟩
def Fr(B:Bd)(bs:List BK)(b:Nat):Prop:=Free bs b/\B.F b
theorem Ybn{b:Nat}:Free [] b:=fun _ _ _ _ h=>by simp at h
def Cells(w:World)(b off:Nat)(l:List Value):Prop:=
 ∃cs T fz,w.heap[b]? =some (.cells cs T fz)/\∀(j:Nat)(v:Value),l[j]? =some v->cs[off+j]? =some v
mutual
inductive XRep (w:World) (bs:List BK) (B:Bd):SV->Value->Prop where
 |int (k:IntKind) (n:Int):XRep w bs B (.int k n) (.int k n)
 |bool (b:Bool):XRep w bs B (.bool b) (.bool b)
 |val (v:Value):XRep w bs B (.val v) v
 |nil:XRep w bs B .nil (.slice none 0 0)
 |junk (v:Value):XRep w bs B .junk v
 |agg (cs:List SV) (vs:List Value) (h:XRepL w bs B cs vs):XRep w bs B (.agg cs) (.agg vs.toArray)
 |tup (cs:List SV) (vs:List Value) (h:XRepL w bs B cs vs):XRep w bs B (.tup cs) (.tuple vs.toArray)
 |fn (f:Fn) (fs cs:List SV) (us vs:List Value) (h:XRepL w bs B fs us) (h':XRepL w bs B cs vs):XRep w bs B (.fn f fs cs) (.func f us.toArray vs.toArray)
 |iface (t:TypeId) (x:SV) (v:Value) (h:XRep w bs B x v):XRep w bs B (.iface t x) (.iface t v)
 |vs (t z:Bool) (n size:Nat) (get:Nat->List SV) (a:Option Addr) (cap:Nat) (vals:Nat->List Value) (hz:z=a.isNone) (hc:n<=cap) (hn:a=none->n=0/\cap=0)
   (hcell:∀k,k<n->∃ad,a=some ad/\ad.spot=none/\Fr B bs ad.block/\(t=true->B<=ad.block)/\(vals k).length=size/\Cells w ad.block (ad.off+k*size) (vals k))
   (h:∀k,k<n->XRepL w bs B (get k) (vals k)):XRep w bs B (.vs t z n size get) (.slice a n cap)
 |xp (t:Bool) (cs:List SV) (ad:Addr) (vals:List Value) (hs:ad.spot=none) (hf:Fr B bs ad.block) (ht:t=true->B<=ad.block) (hc:Cells w ad.block ad.off vals)
   (h:XRepL w bs B cs vals):XRep w bs B (.xp t cs) (.pointer (some ad))
 |row (n:Nat) (C:Nat->Int->Prop) (b cap:Nat) (h:B.I b=some (.ints n C)) (hc:n<=cap):XRep w bs B (.row n C) (.slice (some ⟨b,0,none⟩) n cap)
 |rcell (D:Int->Prop) (n:Nat) (C:Nat->Int->Prop) (k b:Nat) (hD:D=C k) (h:B.I b=some (.ints n C)) (hk:k<n):XRep w bs B (.rcell D) (.pointer (some ⟨b,k,none⟩))
 |imap (kk:List IntKind) (C:List Int->Int->Prop) (b:Nat) (h:B.I b=some (.map kk C)):XRep w bs B (.imap kk C) (.map (some b))
inductive XRepL (w:World) (bs:List BK) (B:Bd):List SV->List Value->Prop where
 |nil:XRepL w bs B [] []
 |cons (x:SV) (v:Value) (l:List SV) (vs:List Value) (h:XRep w bs B x v) (h':XRepL w bs B l vs):XRepL w bs B (x::l) (v::vs)
end
mutual
inductive Rep (w:World) (bs:List BK) (B:Bd):SV->Value->Prop where
 |x (s:SV) (v:Value) (h:XRep w bs B s v):Rep w bs B s v
 |agg (cs:List SV) (vs:List Value) (h:RepL w bs B cs vs):Rep w bs B (.agg cs) (.agg vs.toArray)
 |tup (cs:List SV) (vs:List Value) (h:RepL w bs B cs vs):Rep w bs B (.tup cs) (.tuple vs.toArray)
 |fn (f:Fn) (fs cs:List SV) (us vs:List Value) (h:RepL w bs B fs us) (h':RepL w bs B cs vs):Rep w bs B (.fn f fs cs) (.func f us.toArray vs.toArray)
 |iface (t:TypeId) (x:SV) (v:Value) (h:Rep w bs B x v):Rep w bs B (.iface t x) (.iface t v)
 |ptr (i off b n:Nat) (h:bs[i]? =some (.blk b n n)):Rep w bs B (.ptr i off) (.pointer (some ⟨b,off,none⟩))
 |own (i lo n size b cap m:Nat) (ad:Addr) (h:bs[i]? =some (.blk b cap m)) (hl:lo+n<=m) (ha:ad=⟨b,lo*size,none⟩\/(cap=lo/\0<lo)):Rep w bs B (.own i lo n size) (.slice (some ad) n (cap-lo))
 |ownNil (i size:Nat) (h:bs[i]? =some .nil):Rep w bs B (.own i 0 0 size) (.slice none 0 0)
 |elem (i k off size b cap m:Nat) (h:bs[i]? =some (.blk b cap m)) (hk:k<m):Rep w bs B (.elem i k off size) (.pointer (some ⟨b,k*size+off,none⟩))
 |smp (i b:Nat) (h:bs[i]? =some (.blk b 0 0)):Rep w bs B (.smp i) (.map (some b))
 |optT (x:SV) (v:Value) (h:Rep w bs B x v):Rep w bs B (.opt true x) v
 |optF (x:SV):Rep w bs B (.opt false x) undef
 |cut (x:SV) (a:Option Addr) (n cap:Nat) (h:Rep w bs B x (.slice a n cap)):Rep w bs B (.cut x) (.slice a n n)
inductive RepL (w:World) (bs:List BK) (B:Bd):List SV->List Value->Prop where
 |nil:RepL w bs B [] []
 |cons (x:SV) (v:Value) (l:List SV) (vs:List Value) (h:Rep w bs B x v) (h':RepL w bs B l vs):RepL w bs B (x::l) (v::vs)
end
inductive RepLL (w:World) (bs:List BK) (B:Bd):List (List SV)->List (List Value)->Prop where
 |nil:RepLL w bs B [] []
 |cons (x:List SV) (v:List Value) (l:List (List SV)) (vs:List (List Value)) (h:RepL w bs B x v) (h':RepLL w bs B l vs):RepLL w bs B (x::l) (v::vs)
def HRep(w:World)(bs:List BK)(B:Bd)(i:Nat):HO->Prop
 | .gone=>bs[i]? =some .gone\/bs[i]? =none
 | .box cs=> ∃b vs T,bs[i]? =some (.blk b 0 0)/\w.heap[b]? =some (.cells vs T (0,0))/\RepL w bs B cs vs.toList
 | .smap l=> ∃b es clock,bs[i]? =some (.blk b 0 0)/\w.heap[b]? =some (.map es clock)/\∃ks:List ByteArray,es.toList.map (·.key)=ks.map .string/\ks.map (·.data.toList)=l/\l.Nodup
 | .own z size n get=>(bs[i]? =some .nil/\z=true/\n=0)\/
     ∃b cap vs T,bs[i]? =some (.blk b cap n)/\z=false/\w.heap[b]? =some (.cells vs T (0,0))/\vs.size=cap*size/\n<=cap/\
      ∀k,k<n->RepL w bs B (get k) ((vs.toList.drop (k*size)).take size)
structure Hp (w:World) (bs:List BK) (B:Bd) (hp:List HO):Prop where
 len:bs.length=lenH hp
 ent:∀i,HRep w bs B i (getH hp i)
 inj:∀(i j b c n c' n':Nat),bs[i]? =some (.blk b c n)->bs[j]? =some (.blk b c' n')->i=j
 lo:∀(i b c n:Nat),bs[i]? =some (.blk b c n)->B<=b/\b<w.heap.size
 reg:∀(b:Nat)(K:IK),B.I b=some K->Free bs b/\∃o,w.heap[b]? =some o/\K.ok o
theorem Hp.un{w:World}{bs:List BK}{B:Bd}{hp:List HO}(h:Hp w bs B hp){i b c n:Nat}(hb:bs[i]? =some (.blk b c n)):B.I b=none:=by
 cases hI:B.I b with
 |none=>rfl
 |some K=>exact absurd rfl ((h.reg b K hI).1 i b c n hb)
structure BelowI (B:Bd) (w w':World):Prop where
 os:w'.os=w.os
 tape:w'.tape=w.tape
 output:w'.output=w.output
 size:w.heap.size<=w'.heap.size
 block:∀k,k<B.n->B.I k=none->w'.heap[k]? =w.heap[k]?
structure Cx0 extends World where
 F:Nat->Prop
 I:Nat->Option IK
 up:∀b,heap.size<=b->I b=none->F b
 ex:∀b,F b->I b=none
def Cx0.bd(c:Cx0):Bd:=⟨c.heap.size,c.F,c.I,c.up,c.ex⟩
structure Ext (c:Cx0) (J:Nat->Option IK):Prop where
 old:∀b,b<c.heap.size->J b=c.I b
 sub:∀b K,c.I b=some K->J b=some K
def Cx0.wI(c:Cx0)(J:Nat->Option IK)(h:Ext c J):Cx0:=
 {toWorld:=c.toWorld,F:=fun b=>c.F b/\J b=none,I:=J,ex:=fun _ hb=>hb.2,
  up:=fun b hb hJ=>⟨c.up b hb (by cases hI:c.I b with|none=>rfl|some K=>rw[h.sub b K hI]at hJ;cases hJ),hJ⟩}
structure Cx extends Cx0 where
 ks:List (Nat×Obj)
def mark(D:Nat):Deferred:={ target:= .collected D,args:= #[]}
def isLp:Obj->Bool
 | .loop _=>true
 |_=>false
structure Oth (w:World) (bs:List BK) (B:Bd) (ks:List (Nat×Obj)) (as:List (List Deferred)):Prop where
 kn:∀x∈ks,B<=x.1/\Free bs x.1/\w.heap[x.1]? =some x.2/\isLp x.2=true
 nd:(ks.map (·.1)).Nodup
 ms:∃mss:List (List Nat),as=mss.map (·.map mark)/\mss.flatten.Nodup/\∀D∈mss.flatten,B<=D/\Free bs D/\w.heap[D]? =some (.deferred (some []))
def Rel(w0:Cx)(as:List (List Deferred))(s:S)(tmps:List Value)(saved:List (List Value))(w:World):Prop:=
 ∃bs,RepL w bs w0.bd s.fr tmps/\RepLL w bs w0.bd s.saved saved/\Hp w bs w0.bd s.hp/\BelowI w0.bd w0.toWorld w/\Oth w bs w0.bd w0.ks as
def Keeps(w:World)(bs:List BK)(w':World)(bs':List BK):Prop:=
 ∀b,Free bs b->∀o,w.heap[b]? =some o->w'.heap[b]? =some o/\Free bs' b
section
variable {w w':World} {bs bs':List BK} {B:Bd}
def KeepsC(w:World)(bs:List BK)(w':World)(bs':List BK):Prop:=
 ∀b,Free bs b->∀cs T fz,w.heap[b]? =some (.cells cs T fz)->w'.heap[b]? =some (.cells cs T fz)/\Free bs' b
theorem Keeps.c(h:Keeps w bs w' bs'):KeepsC w bs w' bs':=fun b hf _ _ _ ho=>h b hf _ ho
theorem Oth.keep{ks:List (Nat×Obj)}{as:List (List Deferred)}(hk:Keeps w bs w' bs')(h:Oth w bs B ks as):Oth w' bs' B ks as:=by
 refine⟨fun x hx=>?_,h.nd,?_⟩
 ·obtain⟨h1,h2,h3,h4⟩:=h.kn x hx
  exact⟨h1,(hk _ h2 _ h3).2,(hk _ h2 _ h3).1,h4⟩
 ·obtain⟨mss,h1,h2,h3⟩:=h.ms
  refine⟨mss,h1,h2,fun D hD=>?_⟩
  obtain⟨k1,k2,k3⟩:=h3 D hD
  exact⟨k1,(hk _ k2 _ k3).2,(hk _ k2 _ k3).1⟩
theorem Cells.keep{b off:Nat}{l:List Value}(hk:KeepsC w bs w' bs')(hf:Free bs b)(h:Cells w b off l):Cells w' b off l/\Free bs' b:=by
 obtain⟨cs,T,fz,h1,h2⟩:=h
 obtain⟨h3,h4⟩:=hk b hf _ _ _ h1
 exact⟨⟨cs,T,fz,h3,h2⟩,h4⟩
structure YbP (w:World) (bs:List BK) (B:Bd) (w':World) (bs':List BK) (B':Bd):Prop where
 n:B'.n=B.n
 I:∀b K,B.I b=some K->B'.I b=some K
 c:∀b,Fr B bs b->∀cs T fz,w.heap[b]? =some (.cells cs T fz)->w'.heap[b]? =some (.cells cs T fz)/\Fr B' bs' b
theorem KeepsC.g(h:KeepsC w bs w' bs'):YbP w bs B w' bs' B:=⟨rfl,fun _ _ h=>h,fun b hf cs T fz ho=>⟨(h b hf.1 cs T fz ho).1,(h b hf.1 cs T fz ho).2,hf.2⟩⟩
theorem Cells.keepG{B B':Bd}{b off:Nat}{l:List Value}(hk:YbP w bs B w' bs' B')(hf:Fr B bs b)(h:Cells w b off l):Cells w' b off l/\Fr B' bs' b:=by
 obtain⟨cs,T,fz,h1,h2⟩:=h
 obtain⟨h3,h4⟩:=hk.c b hf _ _ _ h1
 exact⟨⟨cs,T,fz,h3,h2⟩,h4⟩
mutual
theorem XRep.keepG{B B':Bd}(hk:YbP w bs B w' bs' B'):∀{s:SV}{v:Value},XRep w bs B s v->XRep w' bs' B' s v
 |_,_,.int k n=> .int k n
 |_,_,.bool b=> .bool b
 |_,_,.val v=> .val v
 |_,_,.nil=> .nil
 |_,_,.junk v=> .junk v
 |_,_,.agg cs vs h=> .agg cs vs (XRepL.keepG hk h)
 |_,_,.tup cs vs h=> .tup cs vs (XRepL.keepG hk h)
 |_,_,.fn f fs cs us vs h h'=> .fn f fs cs us vs (XRepL.keepG hk h) (XRepL.keepG hk h')
 |_,_,.iface t x v h=> .iface t x v (XRep.keepG hk h)
 |_,_,.vs t z n size get a cap vals hz hc hn hcell h=> .vs t z n size get a cap vals hz hc hn
   (fun k hkn=>by
     obtain⟨ad,h1,h2,h3,h4,h5,h6⟩:=hcell k hkn
     obtain⟨h7,h8⟩:=h6.keepG hk h3
     exact⟨ad,h1,h2,h8,fun ht=>by rw[hk.n];exact h4 ht,h5,h7⟩)
   (fun k hkn=>XRepL.keepG hk (h k hkn))
 |_,_,.xp t cs ad vals hs hf ht hc h=> .xp t cs ad vals hs (hc.keepG hk hf).2 (fun h=>by rw[hk.n];exact ht h) (hc.keepG hk hf).1 (XRepL.keepG hk h)
 |_,_,.row n C b cap h hc=> .row n C b cap (hk.I _ _ h) hc
 |_,_,.rcell D n C k b hD h hkn=> .rcell D n C k b hD (hk.I _ _ h) hkn
 |_,_,.imap kk C b h=> .imap kk C b (hk.I _ _ h)
theorem XRepL.keepG{B B':Bd}(hk:YbP w bs B w' bs' B'):∀{l:List SV}{vs:List Value},XRepL w bs B l vs->XRepL w' bs' B' l vs
 |_,_,.nil=> .nil
 |_,_,.cons x v l vs h h'=> .cons x v l vs (XRep.keepG hk h) (XRepL.keepG hk h')
end
theorem XRep.keepC(hk:KeepsC w bs w' bs'){s:SV}{v:Value}(h:XRep w bs B s v):XRep w' bs' B s v:=h.keepG hk.g
theorem XRepL.keepC(hk:KeepsC w bs w' bs'){l:List SV}{vs:List Value}(h:XRepL w bs B l vs):XRepL w' bs' B l vs:=XRepL.keepG hk.g h
theorem YaJ(hk:Keeps w bs w' bs')(h:∀(b:Nat) (K:IK),B.I b=some K->Free bs b/\∃o,w.heap[b]? =some o/\K.ok o):∀(b:Nat)(K:IK),B.I b=some K->Free bs' b/\∃o,w'.heap[b]? =some o/\K.ok o:=by
 intro b K hI
 obtain⟨h1,o,h2,h3⟩:=h b K hI
 exact⟨(hk b h1 o h2).2,o,(hk b h1 o h2).1,h3⟩
theorem BelowI.refl(B:Bd)(w:World):BelowI B w w:=⟨rfl,rfl,rfl,YGr _,fun _ _ _=>rfl⟩
theorem BelowI.trans{B:Bd}{a b c:World}(h:BelowI B a b)(k:BelowI B b c):BelowI B a c:=
 ⟨k.os.trans h.os,k.tape.trans h.tape,k.output.trans h.output,YGg h.size k.size,fun i hi hI=>(k.block i hi hI).trans (h.block i hi hI)⟩
theorem BelowI.of{B:Bd}{w w':World}(h:Below B.n w w'):BelowI B w w':=⟨h.os,h.tape,h.output,h.size,fun k hk _=>h.block k hk⟩
def Stays(e:Option Nat)(bs bs':List BK):Prop:=∀(i:Nat)(x:BK),e≠some i->bs[i]? =some x->x≠ .gone->bs'[i]? =some x
def YuU(e:Option Nat)(s:SV):Prop:=∀i,e=some i->refs i s=false
def YnE(e:Option Nat)(s:List SV):Prop:=∀i,e=some i->Yhg i s=false
theorem YN{i j:Nat}(h:YGS i j=false):i≠j:=Nat.ne_of_beq_eq_false h
mutual
theorem Rep.keepG{e:Option Nat}{B B':Bd}(hk:YbP w bs B w' bs' B')(hb:Stays e bs bs'):∀{s:SV}{v:Value},Rep w bs B s v->YuU e s->Rep w' bs' B' s v
 |_,_,.x s v h,_=> .x s v (h.keepG hk)
 |_,_,.agg cs vs h,hn=> .agg cs vs (RepL.keepG hk hb h (fun i hi=>by have:=hn i hi;simpa [refs]using this))
 |_,_,.tup cs vs h,hn=> .tup cs vs (RepL.keepG hk hb h (fun i hi=>by have:=hn i hi;simpa [refs]using this))
 |_,_,.fn f fs cs us vs h h',hn=> .fn f fs cs us vs (RepL.keepG hk hb h (fun i hi=>by have:=hn i hi;simp [refs]at this;exact this.1))
   (RepL.keepG hk hb h' (fun i hi=>by have:=hn i hi;simp [refs]at this;exact this.2))
 |_,_,.iface t x v h,hn=> .iface t x v (Rep.keepG hk hb h (fun i hi=>by have:=hn i hi;simpa [refs]using this))
 |_,_,.ptr i off b n h,hn=> .ptr i off b n (hb i _ (fun he=>by have:=YN (hn i he);exact this rfl) h (by simp))
 |_,_,.own i lo n size b cap m ad h hl ha,hn=> .own i lo n size b cap m ad (hb i _ (fun he=>by have:=YN (hn i he);exact this rfl) h (by simp)) hl ha
 |_,_,.ownNil i size h,hn=> .ownNil i size (hb i _ (fun he=>by have:=YN (hn i he);exact this rfl) h (by simp))
 |_,_,.elem i k off size b cap m h hkm,hn=> .elem i k off size b cap m (hb i _ (fun he=>by have:=YN (hn i he);exact this rfl) h (by simp)) hkm
 |_,_,.smp i b h,hn=> .smp i b (hb i _ (fun he=>by have:=YN (hn i he);exact this rfl) h (by simp))
 |_,_,.optT x v h,hn=> .optT x v (Rep.keepG hk hb h (fun i hi=>by have:=hn i hi;simpa [refs]using this))
 |_,_,.optF x,_=> .optF x
 |_,_,.cut x a n cap h,hn=> .cut x a n cap (Rep.keepG hk hb h (fun i hi=>by have:=hn i hi;simpa [refs]using this))
theorem RepL.keepG{e:Option Nat}{B B':Bd}(hk:YbP w bs B w' bs' B')(hb:Stays e bs bs'):∀{l:List SV}{vs:List Value},RepL w bs B l vs->YnE e l->RepL w' bs' B' l vs
 |_,_,.nil,_=> .nil
 |_,_,.cons x v l vs h h',hn=> .cons x v l vs (Rep.keepG hk hb h (fun i hi=>by have:=hn i hi;simp [Yhg]at this;exact this.1))
   (RepL.keepG hk hb h' (fun i hi=>by have:=hn i hi;simp [Yhg]at this;exact this.2))
end
theorem Rep.keepC{e:Option Nat}(hk:KeepsC w bs w' bs')(hb:Stays e bs bs'){s:SV}{v:Value}(h:Rep w bs B s v)(hn:YuU e s):Rep w' bs' B s v:=h.keepG hk.g hb hn
theorem RepL.keepC{e:Option Nat}(hk:KeepsC w bs w' bs')(hb:Stays e bs bs'){l:List SV}{vs:List Value}(h:RepL w bs B l vs)(hn:YnE e l):RepL w' bs' B l vs:=RepL.keepG hk.g hb h hn
theorem YdQ{s:SV}:YuU none s:=fun _ h=>by cases h
theorem Yi{s:List SV}:YnE none s:=fun _ h=>by cases h
theorem RepLL.keepG{B B':Bd}(hk:YbP w bs B w' bs' B')(hb:Stays none bs bs'):∀{l:List (List SV)}{vs:List (List Value)},RepLL w bs B l vs->RepLL w' bs' B' l vs
 |_,_,.nil=> .nil
 |_,_,.cons x v l vs h h'=> .cons x v l vs (h.keepG hk hb Yi) (RepLL.keepG hk hb h')
theorem RepLL.keepC(hk:KeepsC w bs w' bs')(hb:Stays none bs bs'){l:List (List SV)}{vs:List (List Value)}(h:RepLL w bs B l vs):RepLL w' bs' B l vs:=RepLL.keepG hk.g hb h
theorem XRep.keep(hk:Keeps w bs w' bs'){s:SV}{v:Value}(h:XRep w bs B s v):XRep w' bs' B s v:=h.keepC hk.c
theorem XRepL.keep(hk:Keeps w bs w' bs'){l:List SV}{vs:List Value}(h:XRepL w bs B l vs):XRepL w' bs' B l vs:=XRepL.keepC hk.c h
theorem Rep.keep{e:Option Nat}(hk:Keeps w bs w' bs')(hb:Stays e bs bs'){s:SV}{v:Value}(h:Rep w bs B s v)(hn:YuU e s):Rep w' bs' B s v:=h.keepC hk.c hb hn
theorem RepL.keep{e:Option Nat}(hk:Keeps w bs w' bs')(hb:Stays e bs bs'){l:List SV}{vs:List Value}(h:RepL w bs B l vs)(hn:YnE e l):RepL w' bs' B l vs:=RepL.keepC hk.c hb h hn
theorem RepLL.keep(hk:Keeps w bs w' bs')(hb:Stays none bs bs'){l:List (List SV)}{vs:List (List Value)}(h:RepLL w bs B l vs):RepLL w' bs' B l vs:=RepLL.keepC hk.c hb h
theorem XRep.int_inv{k:IntKind}{n:Int}{v:Value}(h:XRep w bs B (.int k n) v):v= .int k n:=by cases h;rfl
theorem Rep.int_inv{k:IntKind}{n:Int}{v:Value}(h:Rep w bs B (.int k n) v):v= .int k n:=by cases h with|x _ _ h=>cases h;rfl
theorem Rep.bool_inv{b:Bool}{v:Value}(h:Rep w bs B (.bool b) v):v= .bool b:=by cases h with|x _ _ h=>cases h;rfl
theorem Rep.val_inv{u v:Value}(h:Rep w bs B (.val u) v):v=u:=by cases h with|x _ _ h=>cases h;rfl
theorem Rep.nil_inv{v:Value}(h:Rep w bs B .nil v):v= .slice none 0 0:=by cases h with|x _ _ h=>cases h;rfl
mutual
theorem XRepL.rep:∀{l:List SV}{vs:List Value},XRepL w bs B l vs->RepL w bs B l vs
 |_,_,.nil=> .nil
 |_,_,.cons x v l vs h h'=> .cons x v l vs (.x x v h) (XRepL.rep h')
end
theorem Rep.agg_inv{cs:List SV}{v:Value}(h:Rep w bs B (.agg cs) v):∃vs:List Value,v= .agg vs.toArray/\RepL w bs B cs vs:=by
 cases h with
 |x _ _ h=>cases h with|agg _ vs h=>exact⟨vs,rfl,h.rep⟩
 |agg _ vs h=>exact⟨vs,rfl,h⟩
theorem Rep.tup_inv{cs:List SV}{v:Value}(h:Rep w bs B (.tup cs) v):∃vs:List Value,v= .tuple vs.toArray/\RepL w bs B cs vs:=by
 cases h with
 |x _ _ h=>cases h with|tup _ vs h=>exact⟨vs,rfl,h.rep⟩
 |tup _ vs h=>exact⟨vs,rfl,h⟩
theorem Rep.fn_inv{f:Fn}{a c:List SV}{v:Value}(h:Rep w bs B (.fn f a c) v):∃us vs:List Value,v= .func f us.toArray vs.toArray/\RepL w bs B a us/\RepL w bs B c vs:=by
 cases h with
 |x _ _ h=>cases h with|fn _ _ _ us vs h h'=>exact⟨us,vs,rfl,h.rep,h'.rep⟩
 |fn _ _ _ us vs h h'=>exact⟨us,vs,rfl,h,h'⟩
theorem Rep.iface_inv{t:TypeId}{x:SV}{v:Value}(h:Rep w bs B (.iface t x) v):∃u,v= .iface t u/\Rep w bs B x u:=by
 cases h with
 |x _ _ h=>cases h with|iface _ _ u h=>exact⟨u,rfl,.x _ _ h⟩
 |iface _ _ u h=>exact⟨u,rfl,h⟩
theorem Rep.ptr_inv{i off:Nat}{v:Value}(h:Rep w bs B (.ptr i off) v):∃b n,bs[i]? =some (.blk b n n)/\v= .pointer (some ⟨b,off,none⟩):=by
 cases h with
 |x _ _ h=>cases h
 |ptr _ _ b n h=>exact⟨b,n,h,rfl⟩
theorem Rep.smp_inv{i:Nat}{v:Value}(h:Rep w bs B (.smp i) v):∃b,bs[i]? =some (.blk b 0 0)/\v= .map (some b):=by
 cases h with
 |x _ _ h=>cases h
 |smp _ b h=>exact⟨b,h,rfl⟩
theorem Rep.rcell_inv{D:Int->Prop}{v:Value}(h:Rep w bs B (.rcell D) v):∃n C k b,D=C k/\B.I b=some (.ints n C)/\k<n/\v= .pointer (some ⟨b,k,none⟩):=by
 cases h with
 |x _ _ h=>cases h with|rcell _ n C k b hD h hk=>exact⟨n,C,k,b,hD,h,hk,rfl⟩
theorem Rep.imap_inv{kk:List IntKind}{C:List Int->Int->Prop}{v:Value}(h:Rep w bs B (.imap kk C) v):∃b,B.I b=some (.map kk C)/\v= .map (some b):=by
 cases h with
 |x _ _ h=>cases h with|imap _ _ b h=>exact⟨b,h,rfl⟩
theorem Rep.elem_inv{i k off size:Nat}{v:Value}(h:Rep w bs B (.elem i k off size) v):∃b c n,bs[i]? =some (.blk b c n)/\v= .pointer (some ⟨b,k*size+off,none⟩)/\k<n:=by
 cases h with
 |x _ _ h=>cases h
 |elem _ _ _ _ b c n h hk=>exact⟨b,c,n,h,rfl,hk⟩
theorem RepL.cons_inv{x:SV}{l:List SV}{vs:List Value}(h:RepL w bs B (x::l) vs):∃v vs',vs=v::vs'/\Rep w bs B x v/\RepL w bs B l vs':=by
 cases h with|cons _ v _ vs h h'=>exact⟨v,vs,rfl,h,h'⟩
theorem RepL.nil_inv{vs:List Value}(h:RepL w bs B [] vs):vs=[]:=by cases h;rfl
theorem RepL.length:∀{l:List SV}{vs:List Value},RepL w bs B l vs->lenL l=vs.length
 |_,_,.nil=>rfl
 |_,_,.cons x v l vs h h'=>by simp [lenL,RepL.length h']
theorem RepL.get:∀{l:List SV}{vs:List Value}(_:RepL w bs B l vs)(n:Nat){d:Value},Rep w bs B (getL l n) (vs.getD n d)
 |_,_,.nil,n,d=>by cases n <;> exact .x _ _ (.junk _)
 |_,_,.cons x v l vs h h',0,d=>by simpa [getL]using h
 |_,_,.cons x v l vs h h',n+1,d=>by simpa [getL]using RepL.get h' n (d:=d)
theorem RepL.get?:∀{l:List SV}{vs:List Value}(_:RepL w bs B l vs)(n:Nat),n<lenL l->∃v,vs[n]? =some v/\Rep w bs B (getL l n) v
 |_,_,.nil,n,h=>by simp [lenL]at h
 |_,_,.cons x v l vs h h',0,_=>⟨v,rfl,h⟩
 |_,_,.cons x v l vs h h',n+1,hn=>by
  obtain⟨u,h1,h2⟩:=RepL.get? h' n (by simpa [lenL]using hn)
  exact⟨u,by simpa using h1,h2⟩
theorem RepL.set:∀{l:List SV}{vs:List Value}(_:RepL w bs B l vs)(n:Nat){x:SV}{v:Value},Rep w bs B x v->RepL w bs B (setL l n x) (vs.set n v)
 |_,_,.nil,n,x,v,_=>by cases n <;> exact .nil
 |_,_,.cons _ _ l vs _ h',0,x,v,hx=> .cons _ _ _ _ hx h'
 |_,_,.cons y u l vs h h',n+1,x,v,hx=> .cons _ _ _ _ h (RepL.set h' n hx)
theorem RepL.take:∀{l:List SV}{vs:List Value}(_:RepL w bs B l vs)(n:Nat),RepL w bs B (YL n l) (vs.take n)
 |_,_,_,0=>by simp only[YL,List.take_zero];exact .nil
 |_,_,.nil,n+1=>by simp only[YL,List.take_nil];exact .nil
 |_,_,.cons x v l vs h h',n+1=>by simp only[YL,List.take_succ_cons];exact .cons _ _ _ _ h (RepL.take h' n)
theorem RepL.drop:∀{l:List SV}{vs:List Value}(_:RepL w bs B l vs)(n:Nat),RepL w bs B (YG n l) (vs.drop n)
 |_,_,h,0=>by simpa only[YG,List.drop_zero]using h
 |_,_,.nil,n+1=>by simp only[YG,List.drop_nil];exact .nil
 |_,_,.cons x v l vs h h',n+1=>by simp only[YG,List.drop_succ_cons];exact RepL.drop h' n
theorem RepL.append:∀{l r:List SV}{vs us:List Value},RepL w bs B l vs->RepL w bs B r us->RepL w bs B (l++r) (vs++us)
 |_,_,_,_,.nil,h=>h
 |_,_,_,_,.cons x v l vs h h',hr=> .cons _ _ _ _ h (RepL.append h' hr)
def YJ(cs:List Value)(off:Nat)(vs:List Value):List Value:=cs.take off++vs++cs.drop (off+vs.length)
theorem RepL.splice:∀{l:List SV}{cs:List Value}(_:RepL w bs B l cs)(off:Nat){xs:List SV}{vs:List Value}(_:RepL w bs B xs vs),off+lenL xs<=lenL l->
 RepL w bs B (Yaf l off xs) (YJ cs off vs)
 |l,_,h,0,_,_,.nil,_=>by cases l <;> simpa [Yaf,YJ]using h
 |_,_,.nil,0,_,_,.cons ..,hl=>by simp [lenL]at hl
 |_,_,.cons x v l cs h h',0,_,_,.cons y u xs vs hy hx,hl=>by
  have:=RepL.splice h' 0 hx (by simpa [lenL]using hl)
  simpa [Yaf,YJ]using RepL.cons y u _ _ hy (by simpa [YJ]using this)
 |_,_,.nil,n+1,_,_,hx,hl=>by simp [lenL]at hl
 |_,_,.cons x v l cs h h',n+1,xs,vs,hx,hl=>by
  have:=RepL.splice h' n hx (by simp [lenL]at hl⊢;omega)
  have e:n+1+vs.length=(n+vs.length)+1:=by omega
  simpa [Yaf,YJ,e]using RepL.cons x v _ _ h (by simpa [YJ]using this)
theorem XRepL.length:∀{l:List SV}{vs:List Value},XRepL w bs B l vs->lenL l=vs.length
 |_,_,.nil=>rfl
 |_,_,.cons x v l vs h h'=>by simp [lenL,XRepL.length h']
theorem XRepL.drop:∀{l:List SV}{vs:List Value}(_:XRepL w bs B l vs)(n:Nat),XRepL w bs B (YG n l) (vs.drop n)
 |_,_,h,0=>by simpa only[YG,List.drop_zero]using h
 |_,_,.nil,n+1=>by simp only[YG,List.drop_nil];exact .nil
 |_,_,.cons x v l vs h h',n+1=>by simp only[YG,List.drop_succ_cons];exact XRepL.drop h' n
theorem Hp.le{hp:List HO}{i b cap m:Nat}(h:Hp w bs B hp)(hb:bs[i]? =some (.blk b cap m)):m<=cap:=by
 have hent:=h.ent i
 cases hg:getH hp i with
 |gone=>rw[hg]at hent;rcases hent with h|h <;> rw[hb]at h <;> cases h
 |box cs=>rw[hg]at hent;obtain⟨_,_,_,h,_⟩:=hent;rw[hb]at h;cases h;exact YGr _
 |smap l=>rw[hg]at hent;obtain⟨_,_,_,h,_⟩:=hent;rw[hb]at h;cases h;exact YGr _
 |own z s n' g=>
  rw[hg]at hent
  rcases hent with⟨h,_⟩ | ⟨_,_,_,_,h,_,_,_,h5,_⟩
  ·rw[hb]at h;cases h
  ·rw[hb]at h;cases h;exact h5
end
end Go.Vx
namespace Go.Vx
open Go.RowKit
section
variable {P:Program} {ρ:Operand->Value} {w:World} {bs:List BK} {B:Bd} {hp:List HO} {nx:Nat}
def QOk(P:Program)(ρ:Operand->Value)(op:Op)(w:World)(bs:List BK)(B:Bd)(e:Ef):Prop:=
 e.upd= .no/\∃v,(∀dst type pos after guard,(execOp ρ ⟨dst,op,type,pos,after,guard⟩).run P w= .ok (.value v) w)/\Rep w bs B e.val v
theorem Yh{p:Prop}{v:SV}{e:Ef}(h:YI p v=some e):e=⟨p,v,.no⟩:=by
 simp only[YI,Option.some.injEq]at h;exact h.symm
theorem two{f:Operand->Value}{x y:Operand}{a b:SV}(h:RepL w bs B [a,b] ([x,y].map f)):Rep w bs B a (f x)/\Rep w bs B b (f y):=by
 obtain⟨v,vs,h1,h2,h3⟩:=h.cons_inv
 obtain⟨v',vs',h4,h5,h6⟩:=h3.cons_inv
 simp only[YGY,List.map_nil,List.cons.injEq]at h1
 obtain⟨rfl,rfl⟩:=h1
 simp only[List.cons.injEq]at h4
 obtain⟨rfl,_⟩:=h4
 exact⟨h2,h5⟩
theorem one1{f:Operand->Value}{x:Operand}{a:SV}(h:RepL w bs B [a] ([x].map f)):Rep w bs B a (f x):=by
 obtain⟨v,vs,h1,h2,h3⟩:=h.cons_inv
 simp only[YGY,List.map_nil,List.cons.injEq]at h1
 obtain⟨rfl,rfl⟩:=h1
 exact h2
theorem Yp7{o:Ari}{t yt:TypeId}{x y:Operand}{op:BinOp}{xs:List SV}{e:Ef}(hop:op=match o with| .add=> .add| .sub=> .sub| .mul=> .mul)
 (he:eAri o xs=some e)(hp:e.pre)(hx:RepL w bs B xs ([x,y].map ρ)):QOk P ρ (.binOp op t x y yt) w bs B e:=by
 unfold eAri at he
 split at he
 ·rename_i k a k' b
  cases Yh he
  obtain⟨h1,h2⟩:=two hx
  have h1:=h1.int_inv;have h2:=h2.int_inv
  dsimp only at hp;subst hp
  refine⟨rfl,.int k (k.wrap (ari o a b)),?_,.x _ _ (.int _ _)⟩
  intro dst type pos after guard
  subst hop
  cases o <;> simp [execOp,h1,h2,eqGuard,binOp,Op.intArith,ari]
 ·cases he
theorem YeQ{o:Cmp}{t yt:TypeId}{x y:Operand}{op:BinOp}{xs:List SV}{e:Ef}(hop:vcmp op=some o)
 (he:eCmp o xs=some e)(hp:e.pre)(hx:RepL w bs B xs ([x,y].map ρ)):QOk P ρ (.binOp op t x y yt) w bs B e:=by
 unfold eCmp at he
 split at he
 ·rename_i k a k' b
  cases Yh he
  obtain⟨h1,h2⟩:=two hx
  have h1:=h1.int_inv;have h2:=h2.int_inv
  dsimp only at hp;subst hp
  refine⟨rfl,.bool (cmpB o a b),?_,.x _ _ (.bool _)⟩
  intro dst type pos after guard
  cases op <;> simp [vcmp]at hop <;> subst hop <;> simp [execOp,h1,h2,eqGuard,binOp,Op.intCmp,cmpB]
  ·rw[YHz];simp
  ·rw[YHz];simp
 ·cases he
theorem YvS{neg:Bool}{t yt:TypeId}{x y:Operand}{op:BinOp}{xs:List SV}{e:Ef}(hop:op=if neg then .neq else .eql)(ht:Ygf P t=true)
 (he:eEqb neg xs=some e)(hx:RepL w bs B xs ([x,y].map ρ)):QOk P ρ (.binOp op t x y yt) w bs B e:=by
 unfold eEqb at he
 split at he
 ·rename_i a b
  cases Yh he
  obtain⟨h1,h2⟩:=two hx
  have h1:=h1.bool_inv;have h2:=h2.bool_inv
  have ht':P.underlying t=some .bool:=by unfold Ygf at ht;split at ht <;> first|assumption|cases ht
  have hr:=run_equal_bool (P:=P) (w:=w) t a b ht'
  cases neg <;> subst hop
  ·refine⟨rfl,.bool (a==b),?_,.x _ _ (.bool _)⟩
   intro dst type pos after guard
   simp [execOp,h1,h2,eqGuard,binOp,hr]
  ·refine⟨rfl,.bool (!(a==b)),?_,.x _ _ (.bool _)⟩
   intro dst type pos after guard
   simp [execOp,h1,h2,eqGuard,binOp,hr]
 ·cases he
theorem YhN{o:Bit}{t yt:TypeId}{x y:Operand}{op:BinOp}{xs:List SV}{e:Ef}(hop:op=match o with| .and=> .and| .or=> .or| .xor=> .xor| .andNot=> .andNot)
 (he:eBit o xs=some e)(hp:e.pre)(hx:RepL w bs B xs ([x,y].map ρ)):QOk P ρ (.binOp op t x y yt) w bs B e:=by
 unfold eBit at he
 split at he
 ·rename_i k a k' b
  cases Yh he
  obtain⟨h1,h2⟩:=two hx
  have h1:=h1.int_inv;have h2:=h2.int_inv
  dsimp only at hp;subst hp
  refine⟨rfl,.int k (bitI o k a b),?_,.x _ _ (.int _ _)⟩
  intro dst type pos after guard
  subst hop
  cases o <;> simp [execOp,h1,h2,eqGuard,binOp,Op.intBits,bitI]
 ·cases he
theorem YvN{rem:Bool}{t yt:TypeId}{x y:Operand}{op:BinOp}{xs:List SV}{e:Ef}(hop:op=if rem then .rem else .quo)
 (he:eDiv rem xs=some e)(hp:e.pre)(hx:RepL w bs B xs ([x,y].map ρ)):QOk P ρ (.binOp op t x y yt) w bs B e:=by
 unfold eDiv at he
 split at he
 ·rename_i k a k' b
  cases Yh he
  obtain⟨h1,h2⟩:=two hx
  have h1:=h1.int_inv;have h2:=h2.int_inv
  dsimp only at hp;obtain⟨rfl,hb⟩:=hp
  cases rem <;> subst hop
  ·refine⟨rfl,.int k (k.wrap (a.tdiv b)),?_,.x _ _ (.int _ _)⟩
   intro dst type pos after guard
   simp [execOp,h1,h2,eqGuard,binOp,Op.intDiv,hb]
  ·refine⟨rfl,.int k (a.tmod b),?_,.x _ _ (.int _ _)⟩
   intro dst type pos after guard
   simp [execOp,h1,h2,eqGuard,binOp,Op.intDiv,hb]
 ·cases he
theorem YEA{left:Bool}{t yt:TypeId}{x y:Operand}{op:BinOp}{xs:List SV}{e:Ef}(hop:op=if left then .shl else .shr)
 (he:eSh left xs=some e)(hp:e.pre)(hx:RepL w bs B xs ([x,y].map ρ)):QOk P ρ (.binOp op t x y yt) w bs B e:=by
 unfold eSh at he
 split at he
 ·rename_i k a k' b
  cases Yh he
  obtain⟨h1,h2⟩:=two hx
  have h1:=h1.int_inv;have h2:=h2.int_inv
  dsimp only at hp
  have hb:¬b<0:=by omega
  cases left <;> subst hop
  ·refine⟨rfl,.int k (a.fdiv (2^min b.toNat k.bits)),?_,.x _ _ (.int _ _)⟩
   intro dst type pos after guard
   simp [execOp,h1,h2,eqGuard,binOp,Op.shift,hb]
  ·refine⟨rfl,.int k (k.wrap (a*2^min b.toNat k.bits)),?_,.x _ _ (.int _ _)⟩
   intro dst type pos after guard
   simp [execOp,h1,h2,eqGuard,binOp,Op.shift,hb]
 ·cases he
theorem Yv3{x:Operand}{op:Op}{xs:List SV}{e:Ef}(hop:op= .move x\/op= .assign x)
 (he:eMov xs=some e)(hx:RepL w bs B xs ([x].map ρ)):QOk P ρ op w bs B e:=by
 unfold eMov at he
 split at he
 ·rename_i a
  cases Yh he
  refine⟨rfl,ρ x,?_,one1 hx⟩
  intro dst type pos after guard
  rcases hop with rfl|rfl <;> simp [execOp]
 ·cases he
theorem YDj{x:Operand}{t:TypeId}{xs:List SV}{e:Ef}
 (he:eNot xs=some e)(hx:RepL w bs B xs ([x].map ρ)):QOk P ρ (.unOp .not t x) w bs B e:=by
 unfold eNot at he
 split at he
 ·cases Yh he
  have h:=(one1 hx).bool_inv
  exact⟨rfl,_,fun dst type pos after guard=>by simp [execOp,h,Op.unary],.x _ _ (.bool _)⟩
 ·cases he
theorem YDi{x:Operand}{t:TypeId}{xs:List SV}{e:Ef}
 (he:eNeg xs=some e)(hx:RepL w bs B xs ([x].map ρ)):QOk P ρ (.unOp .neg t x) w bs B e:=by
 unfold eNeg at he
 split at he
 ·cases Yh he
  have h:=(one1 hx).int_inv
  exact⟨rfl,_,fun dst type pos after guard=>by simp only[execOp,h,Op.unary,Op.intArith];simp,.x _ _ (.int _ _)⟩
 ·cases he
theorem YxM{x:Operand}{s d:TypeId}{k:IntKind}{xs:List SV}{e:Ef}(hs:(P.underlying s).isSome=true)(hd:P.underlying d=some (.int k))
 (he:Yun k xs=some e)(hx:RepL w bs B xs ([x].map ρ)):QOk P ρ (.convert s d x) w bs B e:=by
 unfold Yun at he
 split at he
 ·cases Yh he
  have h:=(one1 hx).int_inv
  obtain⟨u,hu⟩:=Option.isSome_iff_exists.1 hs
  refine⟨rfl,_,fun dst type pos after guard=>?_,.x _ _ (.int _ _)⟩
  simp [execOp,h,convert,run_underlying hu,run_underlying hd,Conv.intToInt]
 ·cases he
theorem YCC{x:Operand}{i:Nat}{xs:List SV}{e:Ef}
 (he:eExt i xs=some e)(hp:e.pre)(hx:RepL w bs B xs ([x].map ρ)):QOk P ρ (.extract x i) w bs B e:=by
 unfold eExt at he
 split at he
 ·cases Yh he
  obtain⟨vs,h,hr⟩:=(one1 hx).tup_inv
  obtain⟨v,h1,h2⟩:=hr.get? i hp
  refine⟨rfl,v,fun dst type pos after guard=>?_,h2⟩
  simp [execOp,h,Instr.extract,h1]
 ·cases he
theorem Yrc{t:TypeId}{u:TypeDesc}(hu:P.underlying t=some u)(hn:∀m,u≠ .interface m)(v:Value)(w:World):(Instr.makeInterface t v).run P w= .ok (.iface t v) w:=by
 simp only[Instr.makeInterface,Sem.run_bind,run_underlying hu,Result.andThen_ok]
 cases u <;> first|rfl| (exact absurd rfl (hn _))
theorem YuC{x:Operand}{t:TypeId}{xs:List SV}{e:Ef}(ht:∀v w,(Instr.makeInterface t v).run P w= .ok (.iface t v) w)
 (he:Yng t xs=some e)(hx:RepL w bs B xs ([x].map ρ)):QOk P ρ (.makeInterface t x) w bs B e:=by
 unfold Yng at he
 split at he
 ·cases Yh he
  exact⟨rfl,_,fun dst type pos after guard=>by simp [execOp,ht],.iface _ _ _ (one1 hx)⟩
 ·cases he
theorem Ym4{c a:Operand}{op:Op}{o:VO}{xs:List SV}{e:Ef}(hop:(o= .and/\op= .pick c a (.const (.bool false)))\/(o= .or/\op= .pick c (.const (.bool true)) a))
 (hρ:∀v,ρ (.const v)=v)(he:Ykp o xs=some e)(hp:e.pre)(hx:RepL w bs B xs ([c,a].map ρ)):QOk P ρ op w bs B e:=by
 unfold Ykp at he
 split at he
 ·rename_i b y
  obtain⟨h1,h2⟩:=two hx
  have h1:=h1.bool_inv
  rcases hop with⟨rfl,rfl⟩ | ⟨rfl,rfl⟩
  ·cases y <;> try (cases he;done)
   ·rename_i b'
    simp only at he
    cases Yh he
    have h2:=h2.bool_inv
    refine⟨rfl,.bool (b&&b'),fun dst type pos after guard=>?_,.x _ _ (.bool _)⟩
    cases b <;> simp [execOp,h1,h2,asBool,hρ]
   ·rename_i g y
    cases y <;> try (cases he;done)
    rename_i b'
    simp only at he
    cases Yh he
    refine⟨rfl,.bool (b&&b'),fun dst type pos after guard=>?_,.x _ _ (.bool _)⟩
    cases b
    ·simp [execOp,h1,asBool,hρ]
    ·have hg:=hp rfl
     subst hg
     cases h2 with
     |x _ _ h=>cases h
     |optT _ _ h=>have h2:=h.bool_inv;simp [execOp,h1,h2,asBool,hρ]
  ·cases y <;> try (cases he;done)
   ·rename_i b'
    simp only at he
    cases Yh he
    have h2:=h2.bool_inv
    refine⟨rfl,.bool (b|| b'),fun dst type pos after guard=>?_,.x _ _ (.bool _)⟩
    cases b <;> simp [execOp,h1,h2,asBool,hρ]
   ·rename_i g y
    cases y <;> try (cases he;done)
    rename_i b'
    simp only at he
    cases Yh he
    refine⟨rfl,.bool (b|| b'),fun dst type pos after guard=>?_,.x _ _ (.bool _)⟩
    cases b
    ·have hg:=hp rfl
     subst hg
     cases h2 with
     |x _ _ h=>cases h
     |optT _ _ h=>have h2:=h.bool_inv;simp [execOp,h1,h2,asBool,hρ]
    ·simp [execOp,h1,asBool,hρ]
 ·cases he
theorem YyJ{x:SV}{v:Value}{n:Nat}(h:lenS x=some n)(hx:Rep w bs B x v):∃a c,v= .slice a n c:=by
 unfold lenS at h
 split at h <;> cases h
 ·exact⟨_,_,hx.nil_inv⟩
 ·cases hx with|x _ _ h=>cases h;exact⟨_,_,rfl⟩
 ·cases hx with
  |x _ _ h=>cases h
  |own=>exact⟨_,_,rfl⟩
  |ownNil=>exact⟨_,_,rfl⟩
 ·cases hx with|x _ _ h=>cases h;exact⟨_,_,rfl⟩
theorem Yua{c:Call}{a:SV}(h:RepL w bs B [a] (c.args.toList.map ρ)):∃v,c.args.map ρ= #[v]/\Rep w bs B a v:=by
 obtain⟨v,vs,h1,h2,h3⟩:=h.cons_inv
 cases h3
 exact⟨v,by apply Array.ext';rw[Array.toList_map,h1],h2⟩
theorem YDa{c:Call}{xs:List SV}{e:Ef}{el:TypeId}(hc:c.callee= .builtin .len)(ht:c.argTypes[0]?.bind P.underlying=some (.slice el))
 (he:eLen xs=some e)(hx:RepL w bs B xs (c.args.toList.map ρ)):QOk P ρ (.call c) w bs B e:=by
 unfold eLen at he
 split at he
 ·rename_i a
  obtain⟨n,hn,he⟩:=YGe.1 he
  cases Yh he
  obtain⟨t,h1,h2⟩:=YGe.1 ht
  obtain⟨v,hv,h3⟩:=Yua hx
  obtain⟨a',cc,rfl⟩:=YyJ hn h3
  refine⟨rfl,.int .i64 n,fun dst type pos after guard=>?_,.x _ _ (.int _ _)⟩
  simp [execOp,resolve,hc,invoke,builtin,Builtin.len_,h1,run_underlying h2,hv,goInt]
 ·cases he
theorem Yrw{c:Call}{xs:List SV}{e:Ef}(hc:c.callee= .builtin .len)(ht:c.argTypes[0]?.bind P.underlying=some .string)
 (he:YiX xs=some e)(hx:RepL w bs B xs (c.args.toList.map ρ)):QOk P ρ (.call c) w bs B e:=by
 unfold YiX at he
 split at he
 ·cases Yh he
  obtain⟨t,h1,h2⟩:=YGe.1 ht
  obtain⟨v,hv,h3⟩:=Yua hx
  have h4:=h3.val_inv;subst h4
  refine⟨rfl,_,fun dst type pos after guard=>?_,.x _ _ (.int _ _)⟩
  simp [execOp,resolve,hc,invoke,builtin,Builtin.len_,h1,run_underlying h2,hv,goInt]
 ·cases he
theorem Yrs{c:Call}{xs:List SV}{e:Ef}{el:TypeId}{n:Nat}(hc:c.callee= .builtin .len)(ht:c.argTypes[0]?.bind P.underlying=some (.array n el))
 (he:YiV n xs=some e)(hx:RepL w bs B xs (c.args.toList.map ρ)):QOk P ρ (.call c) w bs B e:=by
 unfold YiV at he
 split at he
 ·cases Yh he
  obtain⟨t,h1,h2⟩:=YGe.1 ht
  obtain⟨v,hv,h3⟩:=Yua hx
  refine⟨rfl,.int .i64 n,fun dst type pos after guard=>?_,.x _ _ (.int _ _)⟩
  simp [execOp,resolve,hc,invoke,builtin,Builtin.len_,h1,run_underlying h2,hv,goInt]
 ·cases he
theorem YDf(y m:Int):(if y>m then y else m)=max m y:=by rw[Int.max_def];split <;> split <;> omega
theorem YDg(y m:Int):(if y<m then y else m)=min m y:=by rw[Int.min_def];split <;> split <;> omega
theorem YmY{α:Type}{b:Bool}{o:Option α}{r:α}(h:(bif b then o else none)=some r):b=true/\o=some r:=by
 cases b with
 |true=>exact⟨rfl,h⟩
 |false=>cases h
theorem YvZ{k k':IntKind}(h:kEq k k'=true):k=k':=by cases k <;> cases k' <;> first|rfl|cases h
theorem YhX{k:IntKind}:∀{l:List SV}{m r:Int}{vs:List Value},Yfu k m l=some r->RepL w bs B l vs->
 (vs.foldlM Builtin.max2 (.int k m)).run P w= .ok (.int k r) w
 | [],m,r,vs,h,hl=>by cases hl;simp only[Yfu,Option.some.injEq]at h;subst h;rfl
 |x::l,m,r,vs,h,hl=>by
  obtain⟨v,vs',rfl,hv,hl2⟩:=hl.cons_inv
  unfold Yfu at h
  split at h
  ·cases‹_::_=[]›
  ·rename_i k' y l' heq
   cases heq
   obtain⟨hkq,hfold⟩:=YmY h
   ·have hk:=YvZ hkq;subst hk
    have hv:=hv.int_inv;subst hv
    have:=YhX hfold hl2
    simp only[List.foldlM_cons,Sem.run_bind,Builtin.max2,Sem.run_pure,Result.andThen_ok]
    rw[YDf];exact this
  ·cases h
theorem YhY{k:IntKind}:∀{l:List SV}{m r:Int}{vs:List Value},Yfv k m l=some r->RepL w bs B l vs->
 (vs.foldlM Builtin.min2 (.int k m)).run P w= .ok (.int k r) w
 | [],m,r,vs,h,hl=>by cases hl;simp only[Yfv,Option.some.injEq]at h;subst h;rfl
 |x::l,m,r,vs,h,hl=>by
  obtain⟨v,vs',rfl,hv,hl2⟩:=hl.cons_inv
  unfold Yfv at h
  split at h
  ·cases‹_::_=[]›
  ·rename_i k' y l' heq
   cases heq
   obtain⟨hkq,hfold⟩:=YmY h
   ·have hk:=YvZ hkq;subst hk
    have hv:=hv.int_inv;subst hv
    have:=YhY hfold hl2
    simp only[List.foldlM_cons,Sem.run_bind,Builtin.min2,Sem.run_pure,Result.andThen_ok]
    rw[YDg];exact this
  ·cases h
theorem YkK{mx:Bool}{c:Call}{xs:List SV}{e:Ef}(hc:c.callee= .builtin (if mx then .max else .min))
 (he:YgQ mx xs=some e)(hx:RepL w bs B xs (c.args.toList.map ρ)):QOk P ρ (.call c) w bs B e:=by
 unfold YgQ at he
 split at he
 ·rename_i k x l
  obtain⟨v,vs,hvs,hv,hl⟩:=hx.cons_inv
  have hv:=hv.int_inv;subst hv
  cases mx
  ·obtain⟨m,hm,he⟩:=YGe.1 he
   cases Yh he
   refine⟨rfl,.int k m,fun dst type pos after guard=>?_,.x _ _ (.int _ _)⟩
   simp only[YGC,if_false]at hc
   simp [execOp,resolve,hc,invoke,builtin,Builtin.min_,hvs,YhY hm hl]
  ·obtain⟨m,hm,he⟩:=YGe.1 he
   cases Yh he
   refine⟨rfl,.int k m,fun dst type pos after guard=>?_,.x _ _ (.int _ _)⟩
   simp only[if_true]at hc
   simp [execOp,resolve,hc,invoke,builtin,Builtin.max_,hvs,YhX hm hl]
 ·cases he
theorem YA{t:TypeId}{n:Nat}(h:sizeOf? P t=some n):(sizeOf t).run P w= .ok n w:=by
 unfold sizeOf? at h
 obtain⟨i,h1,h2⟩:=YGh.1 h
 simp [sizeOf,typeInfo,h1,h2]
theorem Ycu{t:TypeId}{b:Bool}(h:Yeu P t=some b):(isAgg t).run P w= .ok b w:=by
 unfold Yeu at h
 obtain⟨u,h1,h2⟩:=YGh.1 h
 unfold isAgg
 simp only[Sem.run_bind,run_underlying h1,Result.andThen_ok]
 subst h2
 split <;> simp_all
theorem Yai{b off n:Nat}:(Addr.add ⟨b,off,none⟩ n)=⟨b,off+n,none⟩:=by
 unfold Addr.add;split <;> simp_all
theorem Yge{a:Addr}(h:a.spot=none)(n:Nat):a.add n=⟨a.block,a.off+n,none⟩:=by
 obtain⟨b,o,s⟩:=a;simp only at h;subst h;exact Yai
theorem Cells.cell{b off j:Nat}{l:List Value}{v:Value}(h:Cells w b off l)(hj:l[j]? =some v):w.cell? ⟨b,off+j,none⟩=some v:=by
 obtain⟨cs,T,fz,h1,h2⟩:=h
 simp [World.cell?,h1,h2 j v hj]
theorem Cells.drop{b off n:Nat}{l:List Value}(h:Cells w b off l):Cells w b (off+n) (l.drop n):=by
 obtain⟨cs,T,fz,h1,h2⟩:=h
 refine⟨cs,T,fz,h1,fun j v hj=>?_⟩
 rw[Nat.add_assoc]
 exact h2 _ v (by simpa using hj)
theorem Cells.take{b off n:Nat}{l:List Value}(h:Cells w b off l):Cells w b off (l.take n):=by
 obtain⟨cs,T,fz,h1,h2⟩:=h
 refine⟨cs,T,fz,h1,fun j v hj=>h2 _ v ?_⟩
 rw[YHl]at hj
 split at hj
 ·exact hj
 ·cases hj
theorem Ykt{vs:List Value}{size m:Nat}{get:Nat->List SV}(hl:vs.length=m*size)(h:∀k,k<m->RepL w bs B (get k) ((vs.drop (k*size)).take size)):
 ∀(j k:Nat),k+j=m->RepL w bs B (YgS j k get) (vs.drop (k*size))
 |0,k,e=>by
  have e:k=m:=e
  subst e
  rw[List.drop_of_length_le (by omega)];exact .nil
 |j+1,k,e=>by
  have ih:=Ykt hl h j (k+1) (by omega)
  have hk:=h k (by omega)
  have:=hk.append ih
  rw[YHD,<-List.drop_drop,List.take_append_drop]at this
  exact this
theorem YhS{x:SV}{v:Value}{p:Prop}{cs:List SV}(h:Yaz hp x=some (p,cs))(hpp:p)(hx:Rep w bs B x v)(hH:Hp w bs B hp):
 ∃ad vals,v= .pointer (some ad)/\ad.spot=none/\RepL w bs B cs vals/\Cells w ad.block ad.off vals:=by
 unfold Yaz at h
 split at h
 ·cases h
  cases hx with
  |x _ _ h=>cases h with|xp _ _ ad vals hs hf ht hc h=>exact⟨ad,vals,rfl,hs,h.rep,hc⟩
 ·rename_i i off
  obtain⟨b,n,hb,rfl⟩:=hx.ptr_inv
  have he:=hH.ent i
  split at h
  ·rename_i cs' hg
   cases h
   rw[hg]at he
   obtain⟨b',vs,T,h1,h2,h3⟩:=he
   rw[hb]at h1;cases h1
   refine⟨_,vs.toList.drop off,rfl,rfl,h3.drop off,vs,T,_,h2,fun j v hj=>?_⟩
   simpa using hj
  ·rename_i z sz m get hg
   unfold Yjt at h
   split at h
   ·cases h
    rw[hg]at he
    rcases he with⟨h1,_⟩ | ⟨b',cap,vs,T,h1,h2,h3,h4,h5,h6⟩
    ·rw[hb]at h1;cases h1
    rw[hb]at h1;cases h1
    refine⟨_,vs.toList,rfl,rfl,?_,vs,T,_,h3,fun j v hj=>by simpa using hj⟩
    simpa using Ykt (by simpa using h4) h6 _ 0 (YHu _)
   ·cases h
  ·cases h
 ·rename_i i k off sz
  obtain⟨b,c,n,hb,rfl,hkn⟩:=hx.elem_inv
  have he:=hH.ent i
  split at h
  ·rename_i z size m get hg
   cases h
   obtain⟨hk,rfl⟩:=hpp
   rw[hg]at he
   rcases he with⟨_,_,rfl⟩ | ⟨b',cap,vs,T,h1,h2,h3,h4,h5,h6⟩
   ·omega
   rw[hb]at h1;cases h1
   refine⟨_,((vs.toList.drop (k*sz)).take sz).drop off,rfl,rfl,(h6 k hk).drop off,vs,T,_,h3,fun j v hj=>?_⟩
   rw[List.getElem?_drop,YHl]at hj
   split at hj
   ·rw[List.getElem?_drop]at hj
    rw[Nat.add_assoc]
    simpa using hj
   ·cases hj
  ·cases h
 ·cases h
theorem YaT{a:Addr}(ha:a.spot=none):∀{l:List Value}{i:Nat}{acc:Array Value},(∀(j:Nat)(v:Value),l[j]? =some v->w.cell? ⟨a.block,a.off+(i+j),none⟩=some v)->
 (loadCellsFrom a i l.length acc).run P w= .ok (acc++l.toArray) w
 | [],i,acc,h=>by simp [loadCellsFrom]
 |x::l,i,acc,h=>by
  have h0:=h 0 x rfl
  have ih:=YaT ha (l:=l) (i:=i+1) (acc:=acc.push x) (fun j v hj=>by
   have:=h (j+1) v (by simpa using hj)
   rwa [show i+1+j=i+(j+1)by omega])
  simp only[YHf,loadCellsFrom,Sem.run_bind,Yge ha,run_load]
  rw[show a.off+i=a.off+(i+0)by rfl,h0]
  simp only[Result.andThen_ok]
  rw[ih]
  simp
theorem Yfd{a:Addr}(ha:a.spot=none){l:List Value}(h:Cells w a.block a.off l):(loadCells a l.length).run P w= .ok l.toArray w:=by
 unfold loadCells
 rw[YaT ha (fun j v hj=>by rw[YHu];exact h.cell hj)]
 simp
theorem YrE{x:Operand}{t:TypeId}{agg:Bool}{size:Nat}{xs:List SV}{e:Ef}(ha:Yeu P t=some agg)(hs:sizeOf? P t=some size)
 (h1:agg=false->size=1)(he:Yhw hp agg size xs=some e)(hpre:e.pre)(hx:RepL w bs B xs ([x].map ρ))(hH:Hp w bs B hp):QOk P ρ (.load t x) w bs B e:=by
 unfold Yhw at he
 split at he
 ·obtain⟨⟨p,cs⟩,hc,he⟩:=YGe.1 he
  cases Yh he
  obtain⟨hp1,hp2⟩:=hpre
  obtain⟨ad,vals,hv,hsp,hr,hcl⟩:=YhS hc hp1 (one1 hx) hH
  have hlen:size<=vals.length:=by rw[<-hr.length];exact hp2
  have hr':=hr.take size
  cases agg
  ·have:=h1 rfl;subst this
   cases hr with
   |nil=>simp at hlen
   |cons y u l us hy hl=>
    refine⟨rfl,u,fun dst type pos after guard=>?_,by simpa [Yf9,YL]using hy⟩
    have:=hcl.cell (j:=0) (v:=u) rfl
    simp only[YHi]at this
    have had:ad=⟨ad.block,ad.off,none⟩:=by cases ad;simp_all
    simp only[execOp,Instr.loadAt,hv,Instr.sureAddr,loadVar,Sem.run_bind,Sem.run_pure,Result.andThen_ok,Ycu ha,YGC,if_false,run_load]
    rw[had,this];rfl
  ·refine⟨rfl,.agg (vals.take size).toArray,fun dst type pos after guard=>?_,.agg _ _ hr'⟩
   have hl:=Yfd (P:=P) (w:=w) hsp (l:=vals.take size) hcl.take
   rw[YHb,Nat.min_eq_left hlen]at hl
   simp only[execOp,Instr.loadAt,hv,Instr.sureAddr,loadVar,Sem.run_bind,Sem.run_pure,Result.andThen_ok,Ycu ha,if_true,YA hs,hl]
 ·cases he
theorem YnY{t:TypeId}{agg:Bool}{off size:Nat}{l:List Value}{cs:List SV}(ha:Yeu P t=some agg)(hs:sizeOf? P t=some size)
 (h1:agg=false->size=1)(hr:RepL w bs B cs l)(hl:off+size<=l.length):
 ∃v,(part t l.toArray off).run P w= .ok v w/\Rep w bs B (Yf9 agg (YL size (YG off cs))) v:=by
 have hr':=(hr.drop off).take size
 cases agg
 ·have:=h1 rfl;subst this
  obtain⟨v,hv⟩:∃v,l[off]? =some v:=⟨l[off]'(by omega),by simp⟩
  refine⟨v,?_,?_⟩
  ·simp [part,Ycu ha,hv]
  ·have hd:l.drop off=v::l.drop (off+1):=by
    have h:=List.drop_eq_getElem_cons (l:=l) (i:=off) (by omega)
    rw[h];rw[List.getElem?_eq_getElem (by omega)]at hv;cases hv;rfl
   rw[hd]at hr'
   cases hc:YG off cs with
   |nil=>have:=(hr.drop off).length;rw[hc,hd]at this;simp [lenL]at this
   |cons y ys=>
    rw[hc]at hr'
    simp only[YL,List.take_succ_cons,List.take_zero]at hr'
    obtain⟨_,_,h3,h4,_⟩:=hr'.cons_inv
    cases h3
    simpa [Yf9,YL]using h4
 ·refine⟨.agg ((l.drop off).take size).toArray,?_,.agg _ _ hr'⟩
  simp only[part,Sem.run_bind,Ycu ha,Result.andThen_ok,if_true,YA hs,Sem.run_pure]
  congr 2
  apply Array.ext'
  simp
theorem Yuu{x:Operand}{s:TypeId}{f:Nat}{fs:Array Field}{fd:Field}{agg:Bool}{size:Nat}{xs:List SV}{e:Ef}
 (hu:P.underlying s=some (.struct fs))(hf:fs[f]? =some fd)(ha:Yeu P fd.type=some agg)(hs:sizeOf? P fd.type=some size)(h1:agg=false->size=1)
 (he:Yne agg fd.offset size xs=some e)(hpre:e.pre)(hx:RepL w bs B xs ([x].map ρ)):QOk P ρ (.field s x f) w bs B e:=by
 unfold Yne at he
 split at he
 ·cases Yh he
  obtain⟨vs,hv,hr⟩:=(one1 hx).agg_inv
  dsimp only at hpre
  rw[hr.length]at hpre
  obtain⟨v,hrun,hrep⟩:=YnY (off:=fd.offset) ha hs h1 hr hpre
  refine⟨rfl,v,fun dst type pos after guard=>?_,hrep⟩
  simp [execOp,Instr.field,run_underlying hu,hf,hv,asAgg,hrun]
 ·cases he
theorem Yks{x:Operand}{s:TypeId}{f:Nat}{fs:Array Field}{fd:Field}{size:Nat}{xs:List SV}{e:Ef}
 (hu:P.underlying s=some (.struct fs))(hf:fs[f]? =some fd)(hs:sizeOf? P fd.type=some size)(h1:size≠0)
 (he:YdK fd.offset xs=some e)(hx:RepL w bs B xs ([x].map ρ)):QOk P ρ (.fieldAddr s x f) w bs B e:=by
 have run (ad:Addr) (h:ρ x= .pointer (some ad)) (dst type pos after guard):(execOp ρ ⟨dst,.fieldAddr s x f,type,pos,after,guard⟩).run P w= .ok (.value (.pointer (some (ad.add fd.offset)))) w:=by
  simp [execOp,Instr.fieldAt,run_underlying hu,hf,h,Instr.sureAddr,fieldPlace,YA hs,h1]
 unfold YdK at he
 split at he
 ·have h:=one1 hx
  split at he
  ·cases Yh he
   obtain⟨b,n,hb,hv⟩:=h.ptr_inv
   refine⟨rfl,_,fun dst type pos after guard=>run _ hv ..,?_⟩
   rw[Yai];exact .ptr _ _ b n hb
  ·cases Yh he
   cases h with
   |x _ _ h=>
    generalize hρ:ρ x=v at h
    cases h with
    |xp _ _ ad vals hs hf ht hc h=>
     refine⟨rfl,_,fun dst type pos after guard=>run _ hρ ..,?_⟩
     rw[Yge hs]
     exact .x _ _ (.xp _ _ _ _ rfl hf ht hc.drop (h.drop _))
  ·cases Yh he
   obtain⟨b,c,n,hb,hv,hkn⟩:=h.elem_inv
   refine⟨rfl,_,fun dst type pos after guard=>run _ hv ..,?_⟩
   rw[Yai,Nat.add_assoc];exact .elem _ _ _ _ b c n hb hkn
  ·cases he
 ·cases he
theorem Yae(k:IntKind)(n:Int):(asIntOf (.int k n)).run P w= .ok (k,n) w:=rfl
theorem YdF(a k:Nat):Yb9 a k=a+k:=by cases a <;> simp [Yb9]
theorem Yoa(a k:Nat):Yhm a k=a-k:=by cases k <;> simp [Yhm]
theorem Yos{x i:Operand}{t el:TypeId}{size:Nat}{xs:List SV}{e:Ef}(hu:P.underlying t=some (.slice el))(hs:sizeOf? P el=some size)
 (he:Ygj size xs=some e)(hpre:e.pre)(hx:RepL w bs B xs ([x,i].map ρ))(hH:Hp w bs B hp):QOk P ρ (.indexAddr t x i) w bs B e:=by
 have run (ad:Addr) (n c:Nat) (k:IntKind) (j:Int) (h:ρ x= .slice (some ad) n c) (hi:ρ i= .int k j) (hb:0<=j/\j<n) (dst type pos after guard):
  (execOp ρ ⟨dst,.indexAddr t x i,type,pos,after,guard⟩).run P w= .ok (.value (.pointer (some (ad.add (j.toNat*size))))) w:=by
  simp [execOp,Instr.indexAt,run_underlying hu,h,hi,Yae,YA hs,hb]
 unfold Ygj at he
 split at he
 ·rename_i y k j
  obtain⟨h1,h2⟩:=two hx
  have h2:=h2.int_inv
  split at he
  ·rename_i t' z' n sz' get'
   cases Yh he
   obtain⟨rfl,hb⟩:=hpre
   cases h1 with
   |x _ _ h1=>
    generalize hρ:ρ x=v at h1
    cases h1 with
    |vs _ _ _ _ _ a cap vals hz hc hn hcell h=>
     have hj:j.toNat<n:=by omega
     obtain⟨ad,rfl,h3,h4,h5,h6,h7⟩:=hcell _ hj
     refine⟨rfl,_,fun dst type pos after guard=>run _ _ _ _ _ hρ h2 hb ..,?_⟩
     rw[Yge h3]
     exact .x _ _ (.xp _ _ _ _ rfl h4 h5 h7 (h _ hj))
  ·rename_i jj lo n sz
   cases Yh he
   obtain⟨rfl,hb⟩:=hpre
   generalize hρ:ρ x=v at h1
   cases h1 with
   |x _ _ h1=>cases h1
   |own _ _ _ _ b cap m ad hbs hl ha=>
    refine⟨rfl,_,fun dst type pos after guard=>run _ _ _ _ _ hρ h2 hb ..,?_⟩
    have had:ad=⟨b,lo*sz,none⟩:=by
     rcases ha with ha|ha
     ·exact ha
     ·exfalso
      have hm:=hH.le hbs
      have hb2:=hb.2
      have hb1:=hb.1
      omega
    rw[had,Yai,YdF]
    have:=Rep.elem (w:=w) (bs:=bs) (B:=B) jj (lo+j.toNat) 0 sz b cap m hbs (by omega)
    rw[YHi,YGG]at this
    exact this
   |ownNil=>exfalso;have hb2:=hb.2;have hb1:=hb.1;omega
  ·rename_i n C
   cases Yh he
   obtain⟨rfl,hb⟩:=hpre
   cases h1 with
   |x _ _ h1=>
    generalize hρ:ρ x=v at h1
    cases h1 with
    |row _ _ b cap hI hc=>
     refine⟨rfl,_,fun dst type pos after guard=>run _ _ _ _ _ hρ h2 hb ..,?_⟩
     rw[Yai,YHu,YHj]
     exact .x _ _ (.rcell _ n C j.toNat b rfl hI (by omega))
  ·cases he
 ·cases he
theorem YlX{x:Operand}{xs:List SV}{e:Ef}(he:YeT xs=some e)(hx:RepL w bs B xs ([x].map ρ)):QOk P ρ (.nilCheck x) w bs B e:=by
 unfold YeT at he
 split at he
 ·rename_i y
  obtain⟨v,vs,hv,h1,_⟩:=hx.cons_inv
  simp only[YGY,List.map_nil,List.cons.injEq]at hv
  obtain⟨hρ,_⟩:=hv
  have go:∀ad,v= .pointer (some ad)->∀dst type pos after guard,(execOp ρ ⟨dst,.nilCheck x,type,pos,after,guard⟩).run P w= .ok (.value v) w:=by
   intro ad hv dst type pos after guard
   subst hv
   simp [execOp,hρ]
  split at he <;> cases he
  ·obtain⟨b,n,hb,h⟩:=h1.ptr_inv
   exact⟨rfl,v,go _ h,h1⟩
  ·refine⟨rfl,v,?_,h1⟩
   cases h1 with|x _ _ h=>cases h;exact go _ rfl
  ·obtain⟨b,c,n,hb,h,_⟩:=h1.elem_inv
   exact⟨rfl,v,go _ h,h1⟩
 ·cases he
theorem Yrb{x i:Operand}{t:TypeId}{xs:List SV}{e:Ef}(hu:P.underlying t=some .string)(he:YiU xs=some e)(hpre:e.pre)(hx:RepL w bs B xs ([x,i].map ρ)):QOk P ρ (.index t x i) w bs B e:=by
 unfold YiU at he
 split at he
 ·rename_i b k j
  cases Yh he
  obtain⟨h1,h2⟩:=two hx
  have h1:=h1.val_inv;have h2:=h2.int_inv
  obtain⟨h3,h4⟩:=hpre
  have hj:j.toNat<b.size:=by omega
  have hg:b[j.toNat]? =some b[j.toNat]:=getElem?_pos b j.toNat hj
  refine⟨rfl,.int .u8 (Ym5 b j.toNat),fun dst type pos after guard=>?_,.x _ _ (.int _ _)⟩
  have hb:Ym5 b j.toNat=(b[j.toNat].toNat:Int):=by
   unfold Ym5
   congr 2
   rw[YGl,Array.getElem?_toList,Array.getElem?_eq_getElem (by simpa using hj)]
   rfl
  rw[hb]
  simp [execOp,Instr.index,run_underlying hu,h1,h2,Yae,h3,hg]
 ·cases he
theorem Ynl{neg:Bool}{t yt:TypeId}{x y:Operand}{op:BinOp}{xs:List SV}{e:Ef}(hop:op=if neg then .neq else .eql)
 (he:Ynd neg xs=some e)(hx:RepL w bs B xs ([x,y].map ρ)):QOk P ρ (.binOp op t x y yt) w bs B e:=by
 unfold Ynd at he
 split at he
 ·rename_i a b
  cases Yh he
  obtain⟨h1,h2⟩:=two hx
  have h1:=h1.val_inv;have h2:=h2.val_inv
  cases neg <;> subst hop
  ·refine⟨rfl,.bool (Yg4 false (a.toList==b.toList)),?_,.x _ _ (.bool _)⟩
   intro dst type pos after guard
   simp [execOp,h1,h2,eqGuard,binOp,Op.stringOp,Yg4]
  ·refine⟨rfl,.bool (Yg4 true (a.toList==b.toList)),?_,.x _ _ (.bool _)⟩
   intro dst type pos after guard
   simp [execOp,h1,h2,eqGuard,binOp,Op.stringOp,Yg4]
 ·cases he
theorem Yra{x i:Operand}{t el:TypeId}{n size:Nat}{xs:List SV}{e:Ef}(hu:P.underlying t=some (.array n el))(hs:sizeOf? P el=some size)
 (he:YeB hp n size xs=some e)(hpre:e.pre)(hx:RepL w bs B xs ([x,i].map ρ))(hH:Hp w bs B hp):QOk P ρ (.indexAddr t x i) w bs B e:=by
 unfold YeB at he
 split at he
 ·rename_i jj k j
  obtain⟨h1,h2⟩:=two hx
  have h2:=h2.int_inv
  obtain⟨b,m,hb,hv⟩:=h1.ptr_inv
  split at he
  ·rename_i hg
   cases Yh he
   obtain⟨h0,h3,hsz,hm⟩:=hpre
   have hent:=hH.ent jj
   rw[hg]at hent
   have hmm:n=m:=by
    rcases hent with⟨h,_⟩ | ⟨_,_,_,_,h,_⟩
    ·rw[hb]at h;cases h
    ·rw[hb]at h;cases h;exact hm.symm
   refine⟨rfl,.pointer (some ⟨b,j.toNat*size+0,none⟩),fun dst type pos after guard=>?_,.elem _ _ _ _ b m m hb (by omega)⟩
   simp [execOp,Instr.indexAt,run_underlying hu,hv,h2,Yae,YA hs,h0,h3,Instr.sureAddr,Yai]
  ·cases Yh he
   obtain⟨h0,h3⟩:=hpre
   refine⟨rfl,.pointer (some ⟨b,j.toNat*size,none⟩),fun dst type pos after guard=>?_,.ptr _ _ b m hb⟩
   simp [execOp,Instr.indexAt,run_underlying hu,hv,h2,Yae,YA hs,h0,h3,Instr.sureAddr,Yai]
  ·cases he
 ·cases he
theorem YuD{x i:Operand}{t el:TypeId}{agg:Bool}{n size:Nat}{xs:List SV}{e:Ef}(hu:P.underlying t=some (.array n el))(ha:Yeu P el=some agg)(hs:sizeOf? P el=some size)
 (h1:agg=false->size=1)(he:Ynh agg n size xs=some e)(hpre:e.pre)(hx:RepL w bs B xs ([x,i].map ρ)):QOk P ρ (.index t x i) w bs B e:=by
 unfold Ynh at he
 split at he
 ·rename_i cs k j
  cases Yh he
  obtain⟨h3,h2⟩:=two hx
  have h2:=h2.int_inv
  obtain⟨vs,hv,hr⟩:=h3.agg_inv
  obtain⟨h4,h5,h6⟩:=hpre
  rw[hr.length]at h6
  have hl:j.toNat*size+size<=vs.length:=by
   rw[h6,<-YHD];exact YGf _ (by omega)
  obtain⟨v,hrun,hrep⟩:=YnY (P:=P) (off:=j.toNat*size) ha hs h1 hr hl
  refine⟨rfl,v,fun dst type pos after guard=>?_,hrep⟩
  simp [execOp,Instr.index,run_underlying hu,hv,h2,Yae,YA hs,h4,h5,hrun]
 ·cases he
theorem Y9{k:IntKind}{j:Int}{y:Nat}{code:BoundsCode}(h:0<=j/\j<=y):(Instr.sliceBound (.int k j) y code).run P w= .ok j.toNat w:=by
 simp [Instr.sliceBound,Yae,h]
theorem YgG{n len cap:Nat}{lo hi:Bool}{l:List SV}{p:Prop}{a b:Nat}{lov hiv:Option Operand}{isSlice:Bool}(h:YhQ n lo hi l=some (p,a,b))(hpp:p)(hn:n=len)(hc:len<=cap)
 (hlo:lov.isSome=lo)(hhi:hiv.isSome=hi)(hx:RepL w bs B l ((lov.toList++hiv.toList).map ρ)):
 (Instr.sliceBounds isSlice len cap (lov.map ρ) (hiv.map ρ) none).run P w= .ok (a,b,cap) w/\a<=b/\b<=len:=by
 subst hn
 unfold YhQ at h
 split at h <;> cases h
 ·cases lov <;> simp at hlo
  cases hiv <;> simp at hhi
  simp [Instr.sliceBounds]
 ·cases lov <;> simp at hlo
  cases hiv <;> simp at hhi
  rename_i o
  have hv:=(one1 (x:=o) (by simpa using hx)).int_inv
  simp [Instr.sliceBounds,hv,Y9 hpp]
  omega
 ·cases lov <;> simp at hlo
  cases hiv <;> simp at hhi
  rename_i o
  have hv:=(one1 (x:=o) (by simpa using hx)).int_inv
  have:0<=‹Int›/\‹Int›<=(cap:Int):=by omega
  simp [Instr.sliceBounds,hv,Y9 this]
  omega
 ·cases lov <;> simp at hlo
  cases hiv <;> simp at hhi
  rename_i k x k' y o o'
  obtain⟨hv,hv'⟩:=two (x:=o) (y:=o') (by simpa using hx)
  have hv:=hv.int_inv;have hv':=hv'.int_inv
  have h1:0<=y/\y<=(cap:Int):=by omega
  have h2:0<=x/\x<=(y.toNat:Int):=by omega
  simp [Instr.sliceBounds,hv,hv',Y9 h1,Y9 h2]
  omega
theorem Yvl{x:Operand}{t el:TypeId}{size:Nat}{lov hiv:Option Operand}{xs:List SV}{e:Ef}(hu:P.underlying t=some (.slice el))(hs:sizeOf? P el=some size)
 (he:Ynj size lov.isSome hiv.isSome xs=some e)(hpre:e.pre)(hx:RepL w bs B xs ((x::(lov.toList++hiv.toList)).map ρ))(hH:Hp w bs B hp):QOk P ρ (.slice t x lov hiv none) w bs B e:=by
 have run (a:Option Addr) (n c l h:Nat) (hv:ρ x= .slice a n c) (hb:(Instr.sliceBounds true n c (lov.map ρ) (hiv.map ρ) none).run P w= .ok (l,h,c) w) (dst type pos after guard):
  (execOp ρ ⟨dst,.slice t x lov hiv none,type,pos,after,guard⟩).run P w= .ok (.value (.slice (if c=l then a else a.map (·.add (l*size))) (h-l) (c-l))) w:=by
  simp [execOp,Instr.sliceAt,Instr.slice,run_underlying hu,hv,hb,YA hs]
 unfold Ynj at he
 split at he
 ·rename_i y l
  obtain⟨v,vs,hvs,h1,h2⟩:=hx.cons_inv
  simp only[YGY,List.cons.injEq]at hvs
  obtain⟨hρ,rfl⟩:=hvs
  split at he
  ·rename_i t' z n sz get
   obtain⟨⟨p,a,b⟩,hb,he⟩:=YGe.1 he
   cases Yh he
   obtain⟨rfl,hpp⟩:=hpre
   cases h1 with
   |x _ _ h1=>
    cases h1 with
    |vs _ _ _ _ _ ad cap vals hz hc hn hcell h=>
     obtain⟨hrun,hab,hbn⟩:=YgG (P:=P) (isSlice:=true) hb hpp rfl hc rfl rfl h2
     refine⟨rfl,_,fun dst type pos after guard=>run _ _ _ _ _ hρ hrun ..,?_⟩
     rw[Yoa]
     refine .x _ _ (.vs _ _ _ _ _ _ _ (fun k=>vals (a+k)) ?_ (by omega) ?_ ?_ ?_)
     ·split
      ·exact hz
      ·cases ad <;> simpa using hz
     ·intro hnone
      split at hnone
      ·have:=hn hnone;omega
      ·cases ad with
       |none=>have:=hn rfl;omega
       |some _=>simp at hnone
     ·intro k hk
      obtain⟨ad',had,h3,h4,h5,h6,h7⟩:=hcell (a+k) (by omega)
      subst had
      rw[if_neg (by omega)]
      refine⟨ad'.add (a*sz),rfl,?_,?_,?_,h6,?_⟩ <;> rw[Yge h3]
      ·exact h4
      ·exact h5
      ·show Cells w ad'.block (ad'.off+a*sz+k*sz) _
       rw[Nat.add_assoc,<-YGG];exact h7
     ·intro k hk
      rw[YdF]
      exact h (a+k) (by omega)
  ·rename_i j o n sz
   obtain⟨⟨p,a,b⟩,hb,he⟩:=YGe.1 he
   cases Yh he
   obtain⟨rfl,hpp⟩:=hpre
   cases h1 with
   |x _ _ h1=>cases h1
   |own _ _ _ _ bb cap m ad hbs hl ha=>
    have hm:=hH.le hbs
    obtain⟨hrun,hab,hbn⟩:=YgG (P:=P) (isSlice:=true) (cap:=cap-o) hb hpp rfl (by omega) rfl rfl h2
    refine⟨rfl,_,fun dst type pos after guard=>run _ _ _ _ _ hρ hrun ..,?_⟩
    rw[Yoa,YdF,Nat.sub_sub]
    by_cases hca:cap-o=a
    ·rw[if_pos hca]
     refine .own _ _ _ _ bb cap m ad hbs (by omega) ?_
     by_cases ha0:a=0
     ·subst ha0;simpa using ha
     ·right;omega
    ·rw[if_neg hca]
     refine .own _ _ _ _ bb cap m _ hbs (by omega) ?_
     rcases ha with rfl|ha
     ·left;simp [Yai,YGG]
     ·right;omega
   |ownNil _ _ hbs=>
    obtain⟨hrun,hab,hbn⟩:=YgG (P:=P) (isSlice:=true) (cap:=0) hb hpp rfl (YGr _) rfl rfl h2
    have ha0:a=0:=by omega
    have hb0:b=0:=by omega
    subst ha0;subst hb0
    refine⟨rfl,_,fun dst type pos after guard=>run _ _ _ _ _ hρ hrun ..,?_⟩
    simpa [Yhm,Yb9]using Rep.ownNil (w:=w) (B:=B) _ _ hbs
  ·cases he
 ·cases he
theorem YsG{x hi mx:Operand}{t el:TypeId}{size:Nat}{xs:List SV}{e:Ef}(hu:P.underlying t=some (.slice el))(hs:sizeOf? P el=some size)
 (he:YiZ size xs=some e)(hpre:e.pre)(hx:RepL w bs B xs ([x,hi,mx].map ρ))(hH:Hp w bs B hp):QOk P ρ (.slice t x none (some hi) (some mx)) w bs B e:=by
 unfold YiZ at he
 split at he
 ·rename_i y k b k' c'
  obtain⟨v,vs,hvs,h1,hx2⟩:=hx.cons_inv
  simp only[YGY,List.cons.injEq,List.map_nil]at hvs
  obtain⟨hρ,rfl⟩:=hvs
  obtain⟨h2,h3⟩:=two (x:=hi) (y:=mx) hx2
  have h2:=h2.int_inv;have h3:=h3.int_inv
  have run (a:Option Addr) (n cap bb:Nat) (hv:ρ x= .slice a n cap) (hb:b=bb) (hc:c'=bb) (hbn:bb<=cap) (dst type pos after guard):
   (execOp ρ ⟨dst,.slice t x none (some hi) (some mx),type,pos,after,guard⟩).run P w= .ok (.value (.slice (if bb=0 then a else a.map (·.add 0)) bb bb)) w:=by
   subst hb hc
   have r1:0<=(bb:Int)/\(bb:Int)<=(cap:Int):=by omega
   have r2:0<=(bb:Int)/\(bb:Int)<=((bb:Nat):Int):=by omega
   simp [execOp,Instr.sliceAt,Instr.slice,Instr.sliceBounds,run_underlying hu,hv,h2,h3,Y9 r1,Y9 r2,YA hs]
  split at he
  ·cases Yh he
   obtain⟨hb,hc⟩:=hpre
   refine⟨rfl,_,fun dst type pos after guard=>run none 0 0 0 (hρ.trans h1.nil_inv) (by simpa using hb) (by simpa using hc) (YGr _) ..,?_⟩
   exact .x _ _ .nil
  ·rename_i t' z n sz get
   cases Yh he
   obtain⟨rfl,h0,hbn,hc⟩:=hpre
   cases h1 with
   |x _ _ h1=>
    cases h1 with
    |vs _ _ _ _ _ ad cap vals hz hcap hn hcell h=>
     refine⟨rfl,_,fun dst type pos after guard=>run ad n cap b.toNat hρ (by omega) (by omega) (by omega) ..,?_⟩
     have e:(if b.toNat=0 then ad else ad.map (·.add 0))=ad:=by
      split
      ·rfl
      ·obtain⟨ad',rfl,h4,_⟩:=hcell 0 (by omega)
       obtain⟨bl,of,sp⟩:=ad'
       simp only at h4
       subst h4
       simp [Yai]
     rw[e]
     refine .cut _ ad b.toNat cap (.x _ _ (.vs _ _ _ _ _ ad cap vals hz (by omega) (fun hnone=>?_) (fun k hk=>hcell k (by omega)) (fun k hk=>h k (by omega))))
     have:=hn hnone
     omega
  ·rename_i j o n sz
   cases Yh he
   obtain⟨rfl,h0,hbn,hc⟩:=hpre
   cases h1 with
   |x _ _ h1=>cases h1
   |own _ _ _ _ bb cap m ad hbs hl ha=>
    have hm:=hH.le hbs
    refine⟨rfl,_,fun dst type pos after guard=>run (some ad) n (cap-o) b.toNat hρ (by omega) (by omega) (by omega) ..,?_⟩
    have e:(if b.toNat=0 then some ad else(some ad).map (·.add 0))=some ad:=by
     split
     ·rfl
     ·rcases ha with rfl|ha
      ·simp [Yai]
      ·omega
    rw[e]
    exact .cut _ (some ad) b.toNat (cap-o) (.own _ _ _ _ bb cap m ad hbs (by omega) ha)
   |ownNil _ _ hbs=>
    have hb0:b.toNat=0:=by omega
    refine⟨rfl,_,fun dst type pos after guard=>run none 0 0 0 hρ (by omega) (by omega) (YGr _) ..,?_⟩
    rw[hb0]
    exact .cut _ none 0 0 (.ownNil _ _ hbs)
  ·cases he
 ·cases he
theorem Yma{x:Operand}{t el:TypeId}{n size:Nat}{lov hiv:Option Operand}{xs:List SV}{e:Ef}(hu:P.underlying t=some (.array n el))(hs:sizeOf? P el=some size)
 (he:YbC hp n size lov.isSome hiv.isSome xs=some e)(hpre:e.pre)(hx:RepL w bs B xs ((x::(lov.toList++hiv.toList)).map ρ))(hH:Hp w bs B hp):QOk P ρ (.slice t x lov hiv none) w bs B e:=by
 unfold YbC at he
 split at he
 ·rename_i jj hl1 hl2
  cases lov with
  |some _=>simp at hl1
  |none=>
  cases hiv with
  |some _=>simp at hl2
  |none=>
  have h3:=one1 (x:=x) (by simpa using hx)
  obtain⟨b,m,hb,hv⟩:=h3.ptr_inv
  split at he
  ·rename_i hg
   cases Yh he
   obtain⟨rfl,rfl⟩:=hpre
   have hent:=hH.ent jj
   rw[hg]at hent
   rcases hent with⟨h,_⟩ | ⟨b',cap,vs,T,h4,h5,h6,h7,h8,h9⟩
   ·rw[hb]at h;cases h
   ·rw[hb]at h4;cases h4
    refine⟨rfl,_,fun dst type pos after guard=>?_,Rep.own _ 0 _ _ b _ _ ⟨b,0,none⟩ hb (by omega) (.inl (by simp))⟩
    simp [execOp,Instr.sliceAt,run_underlying hu,hv,Instr.sureAddr,Instr.sliceBounds,YA hs,Yai]
  ·cases he
 ·cases he
theorem YyW{fn:Fn}{fs cs:Array Operand}{xs:List SV}(hx:RepL w bs B xs ((fs.toList++cs.toList).map ρ)):
 QOk P ρ (.makeFunc fn fs cs) w bs B ⟨True,.fn fn (YL fs.size xs) (YG fs.size xs),.no⟩:=by
 refine⟨rfl,.func fn (fs.map ρ) (cs.map ρ),fun dst type pos after guard=>?_,?_⟩
 ·simp [execOp,Instr.makeFunc]
 ·have h1:=hx.take fs.size
  have h2:=hx.drop fs.size
  rw[List.map_append]at h1 h2
  have e1:((fs.toList.map ρ)++(cs.toList.map ρ)).take fs.size=fs.toList.map ρ:=by simp
  have e2:((fs.toList.map ρ)++(cs.toList.map ρ)).drop fs.size=cs.toList.map ρ:=by simp
  rw[e1]at h1;rw[e2]at h2
  have:=Rep.fn fn _ _ _ _ h1 h2
  have e3:(fs.toList.map ρ).toArray=fs.map ρ:=by apply Array.ext';simp
  have e4:(cs.toList.map ρ).toArray=cs.map ρ:=by apply Array.ext';simp
  rw[e3,e4]at this
  exact this
theorem YnH(y:SV)(u:Value)(hy:one y)(hr:Rep w bs B y u):u.oneCell'=true:=by
 cases hr with
 |x _ _ h=>cases h <;> first|rfl|exact hy|exact hy.elim
 |optT _ _ _=>exact hy.elim
 |optF _=>exact hy.elim
 |cut=>exact hy.elim
 |agg _ _ _=>exact hy.elim
 |tup _ _ _=>exact hy.elim
 |_=>rfl
theorem YkU:∀(l:List SV)(us:List Value),ones l->RepL w bs B l us->∀u∈us,u.oneCell'=true:=by
 intro l
 induction l with
 |nil=>intro us _ hr;cases hr;simp
 |cons y l ih=>
  intro us ho hr
  obtain⟨u,us',rfl,h1,h2⟩:=hr.cons_inv
  intro a ha
  rcases YGK.1 ha with rfl|ha
  ·exact YnH _ _ ho.1 h1
  ·exact ih _ ho.2 h2 a ha
theorem Yfo{x:SV}{v:Value}(h:ones (YaE x))(hx:Rep w bs B x v):RepL w bs B (YaE x) v.cells.toList/\∀u∈v.cells.toList,u.oneCell'=true:=by
 unfold YaE at h⊢
 split at h
 ·rename_i cs
  obtain⟨vs,rfl,hr⟩:=hx.agg_inv
  exact⟨by simpa [Value.cells]using hr,by simpa [Value.cells]using YkU _ _ h hr⟩
 ·rename_i hna
  have h1:=YnH _ _ h.1 hx
  have hc:v.cells= #[v]:=by cases v <;> simp_all [Value.cells,Value.oneCell']
  rw[hc]
  refine⟨.cons _ _ _ _ hx .nil,by simpa using h1⟩
theorem YfS:∀(vs:List Value)(cs:Array Value)(off n:Nat),off+n+vs.length<=cs.size->
 ((vs.zipIdx n).foldl (fun(cs:Array Value) (x:Value×Nat)=>cs.setIfInBounds (off+x.2) x.1) cs).toList=YJ cs.toList (off+n) vs
 | [],cs,off,n,h=>by simp [YJ]
 |v::vs,cs,off,n,h=>by
  have ih:=YfS vs (cs.setIfInBounds (off+n) v) off (n+1) (by simp at h⊢;omega)
  simp only[List.zipIdx_cons,List.foldl_cons]
  rw[ih]
  simp only[YHf]at h
  have hk:off+n<cs.toList.length:=by simp;omega
  rw[Array.toList_setIfInBounds,show off+(n+1)=off+n+1 by omega]
  generalize off+n=k at hk h
  generalize cs.toList=l at hk
  have e1:(l.set k v).take (k+1)=l.take k++[v]:=by
   rw[List.set_eq_take_append_cons_drop,if_pos hk,List.take_append]
   simp [YHb,Nat.min_eq_left (YHn hk)]
   exact List.take_of_length_le (by simp;omega)
  have e2:(l.set k v).drop (k+1+vs.length)=l.drop (k+(vs.length+1)):=by
   rw[List.set_eq_take_append_cons_drop,if_pos hk,List.drop_append]
   simp [YHb,Nat.min_eq_left (YHn hk)]
   rw[show k+1+vs.length-k=vs.length+1 by omega]
   simp only[List.drop_succ_cons,List.drop_drop]
   rw[List.drop_of_length_le (by simp;omega),List.nil_append]
   congr 1;omega
  simp [YJ,e1,e2]
theorem Yij{cs:List Value}{off:Nat}{vs:List Value}(h:off+vs.length<=cs.length):(YJ cs off vs).length=cs.length:=by
 simp [YJ];omega
theorem YeJ:∀(cs:List SV)(off:Nat)(vs:List SV),lenL (Yaf cs off vs)=lenL cs
 |cs,0,[]=>by cases cs <;> rfl
 | [],0,_::_=>rfl
 | [],_+1,_=>rfl
 |c::cs,0,v::vs=>by simp [Yaf,lenL,YeJ cs 0 vs]
 |c::cs,n+1,vs=>by simp [Yaf,lenL,YeJ cs n vs]
theorem Yi3{place:Nat->Option (Nat×Nat)}:∀{parts:List (Nat×Operand)}{pl:List (Nat×Nat)}{xs:List SV}{cs r:List SV}{cells:Array Value}{p:Prop},
 YQ cs pl xs=some (p,r)->p->pl=parts.map (fun x=>(place x.1).getD (0,0))->(∀x∈parts,(place x.1).isSome=true)->
 RepL w bs B cs cells.toList->RepL w bs B xs (parts.map fun x=>ρ x.2)->
 ∃out,Instr.fill place cells (parts.map fun x=>(x.1,ρ x.2))=some out/\RepL w bs B r out.toList
 | [],pl,xs,cs,r,cells,p,h,hpp,hpl,_,hc,hx=>by
   subst hpl;cases hx
   simp only[List.map_nil,YQ,Option.some.injEq,Prod.mk.injEq]at h
   obtain⟨_,rfl⟩:=h
   exact⟨cells,rfl,hc⟩
 | (i,o)::parts,pl,xs,cs,r,cells,p,h,hpp,hpl,hs,hc,hx=>by
   subst hpl
   simp only[YGY]at hx h⊢
   cases hx with
   |cons x v l vs h1 h2=>
   simp only[YQ]at h
   obtain⟨⟨q,r'⟩,hq,heq⟩:=YGh.1 h
   simp only[Prod.mk.injEq]at heq
   obtain⟨rfl,rfl⟩:=heq
   obtain⟨hsz,hones,hoff,hqq⟩:=hpp
   have hplace:=hs (i,o) (by simp)
   obtain⟨⟨off,size⟩,hpl⟩:=Option.isSome_iff_exists.1 hplace
   simp only at hpl
   simp only[hpl,Option.getD_some]at hq hsz hoff
   obtain⟨hcl,_⟩:=Yfo hones h1
   have hl1:(ρ o).cells.size=size:=by rw[<-hsz,hcl.length];simp
   have hl2:off+(ρ o).cells.size<=cells.size:=by rw[hl1];rw[hc.length]at hoff;simpa using hoff
   have hsp:=hc.splice off hcl (by rw[hsz];exact hoff)
   let cells':Array Value:=(ρ o).cells.zipIdx.foldl (fun cs (c,j)=>cs.setIfInBounds (off+j) c) cells
   have hf:cells'.toList=YJ cells.toList off (ρ o).cells.toList:=by
    have:=YfS (ρ o).cells.toList cells off 0 (by simpa using hl2)
    simp only[YHi]at this
    rw[<-this]
    simp only[cells',<-Array.foldl_toList,Array.toList_zipIdx]
   rw[<-hf]at hsp
   obtain⟨out,ho,hr⟩:=Yi3 (parts:=parts) (cells:=cells') hq hqq rfl (fun x hx=>hs x (by simp [hx])) hsp h2
   refine⟨out,?_,hr⟩
   simp only[Instr.fill,hpl]
   rw[if_neg (by simp [hl1];omega)]
   exact ho
theorem Y5{t:TypeId}{z:List SV}(h:Yah P t=some z):∃v,(zeroValue t).run P w= .ok v w/\RepL w bs B z v.cells.toList:=by
 unfold Yah at h
 obtain⟨i,h1,h2⟩:=YGe.1 h
 obtain⟨v,h3,h4⟩:=YGh.1 h2
 refine⟨v,by simp [zeroValue,typeInfo,h1,h3],?_⟩
 subst h4
 have:∀(l:List Value),RepL w bs B (l.map YfN) l:=by
  intro l
  induction l with
  |nil=>exact .nil
  |cons x l ih=>
   refine .cons _ _ _ _ (.x _ _ ?_) ih
   unfold YfN
   split <;> constructor
 exact this _
theorem YoK{fs:List Field}{pl:List (Nat×Nat)}(h:(fs.mapM fun f=>(sizeOf? P f.type).map fun s=>(f.offset,s))=some pl):
 ((fs.mapM fun(f:Field)=>Functor.map (Prod.mk f.offset) (sizeOf f.type):Sem (List (Nat×Nat)))).run P w= .ok pl w:=by
 induction fs generalizing pl with
 |nil=>simp at h;subst h;simp
 |cons f fs ih=>
  simp only[List.mapM_cons,Option.bind_eq_bind,Option.pure_def]at h
  obtain⟨a,h1,h2⟩:=YGe.1 h
  obtain⟨s,h3,h4⟩:=YGh.1 h1
  obtain⟨pl',h5,h6⟩:=YGe.1 h2
  simp only[Option.some.injEq]at h6
  subst h6;subst h4
  have ih':=ih h5
  simp [List.mapM_cons,YA h3,ih']
theorem Yuh{t:TypeId}{parts:Array (Nat×Operand)}{z:List SV}{fs:Array Field}{pl:List (Nat×Nat)}{xs:List SV}{p:Prop}{cs:List SV}
 (hz:Yah P t=some z)(hu:P.underlying t=some (.struct fs))(hpl:Ye5 P t=some pl)(hin:∀x∈parts.toList,x.1<pl.length)
 (he:YQ z (parts.toList.map fun p=>pl.getD p.1 (0,0)) xs=some (p,cs))(hpre:p)(hx:RepL w bs B xs ((parts.toList.map (·.2)).map ρ)):
 QOk P ρ (.build t parts) w bs B ⟨p,.agg cs,.no⟩:=by
 obtain⟨v,hv,hr⟩:=Y5 (P:=P) (w:=w) (bs:=bs) (B:=B) hz
 unfold Ye5 at hpl
 simp only[hu]at hpl
 have hplaces:=YoK (P:=P) (w:=w) hpl
 obtain⟨out,ho,hro⟩:=Yi3 (ρ:=ρ) (place:=(pl.toArray[·]?)) (parts:=parts.toList) (cells:=v.cells) he hpre (by
  apply List.map_congr_left
  intro x hx
  simp [List.getD]) (fun x hx=>by simp [hin x hx]) hr (by rw[List.map_map]at hx;exact hx)
 refine⟨rfl,.agg out,fun dst type pos after guard=>?_,?_⟩
 ·have hm:(fs.mapM fun(f:Field)=>Functor.map (Prod.mk f.offset) (sizeOf f.type):Sem (Array (Nat×Nat))).run P w= .ok pl.toArray w:=by
   rw[Array.mapM_eq_mapM_toList]
   simp [hplaces]
  have ho':Instr.fill (fun x=>pl.toArray[x]?) v.cells (Array.map (fun x=>(x.fst,ρ x.snd)) parts).toList=some out:=by
   rw[Array.toList_map];exact ho
  simp only[execOp,Instr.build,bind_pure_comp,Sem.run_map,Sem.run_bind,hv,Result.andThen_ok,run_underlying hu,hm,ho',Sem.run_pure]
 ·have:=Rep.agg (w:=w) (bs:=bs) (B:=B) cs out.toList hro
  simpa using this
theorem YlC{t e n s:Nat}{parts:Array (Nat×Operand)}{z:List SV}{xs:List SV}{p:Prop}{cs:List SV}
 (hz:Yah P t=some z)(hu:P.underlying t=some (.array n e))(hs:sizeOf? P e=some s)(hin:∀x∈parts.toList,x.1<((List.range n).map fun i=>(i*s,s)).length)
 (he:YQ z (parts.toList.map fun p=>((List.range n).map fun i=>(i*s,s)).getD p.1 (0,0)) xs=some (p,cs))(hpre:p)(hx:RepL w bs B xs ((parts.toList.map (·.2)).map ρ)):
 QOk P ρ (.build t parts) w bs B ⟨p,.agg cs,.no⟩:=by
 obtain⟨v,hv,hr⟩:=Y5 (P:=P) (w:=w) (bs:=bs) (B:=B) hz
 obtain⟨out,ho,hro⟩:=Yi3 (ρ:=ρ) (place:=fun i=>some (i*s,s)) (parts:=parts.toList) (cells:=v.cells) he hpre (by
  apply List.map_congr_left
  intro x hx
  have:=hin x hx
  simp only[List.length_map,List.length_range]at this
  simp [List.getD,this]) (fun x hx=>rfl) hr (by rw[List.map_map]at hx;exact hx)
 refine⟨rfl,.agg out,fun dst type pos after guard=>?_,?_⟩
 ·have ho':Instr.fill (fun i=>some (i*s,s)) v.cells (Array.map (fun x=>(x.fst,ρ x.snd)) parts).toList=some out:=by
   rw[Array.toList_map];exact ho
  simp only[execOp,Instr.build,bind_pure_comp,Sem.run_map,Sem.run_bind,hv,Result.andThen_ok,run_underlying hu,YA hs,ho',Sem.run_pure]
 ·have:=Rep.agg (w:=w) (bs:=bs) (B:=B) cs out.toList hro
  simpa using this
theorem YaF{α:Type}{l:List α}{k:Nat}{x:α}{r:List α}(h:l.drop k=x::r):l[k]? =some x/\l.drop (k+1)=r:=by
 constructor
 ·have:(l.drop k)[0]? =some x:=by rw[h];rfl
  simpa using this
 ·rw[<-List.drop_drop,h];rfl
theorem Yfx{t:TypeId}{b:Bool}(hk:YfV P t=some b):(b=true/\∃k,P.underlying t=some (.int k))\/(b=false/\P.underlying t=some .bool):=by
 unfold YfV at hk
 split at hk
 ·cases hk;exact .inl ⟨rfl,_,‹_›⟩
 ·cases hk;exact .inr ⟨rfl,‹_›⟩
 ·cases hk
theorem Ydy{t:TypeId}{l:List Value}{k:Nat}{v:Value}{b:Bool}(hk:YfV P t=some b)(hv:l[k]? =some v):(part t l.toArray k).run P w= .ok v w:=by
 have ha:Yeu P t=some false:=by
  unfold Yeu
  rcases Yfx hk with⟨_,_,h⟩ | ⟨_,h⟩ <;> simp [h]
 simp [part,Ycu ha,hv]
theorem YeD{d:Nat}{X Y:List Value}:∀{fs:List Field}{k:Nat}{ks:List Bool}{cs ds:List SV}{p:Prop}{b:Bool},YeH P k fs=some ks->YbM ks cs ds=some (p,b)->p->
 RepL w bs B cs (X.drop k)->RepL w bs B ds (Y.drop k)->(Op.eqFields (d+1) X.toArray Y.toArray fs).run P w= .ok b w
 | [],k,ks,cs,ds,p,b,hk,he,hp,_,_=>by
   simp only[YeH,Option.some.injEq]at hk;subst hk
   cases cs <;> cases ds <;> simp [YbM]at he
   simp [Op.eqFields,he.2]
 |f::fs,k,ks,cs,ds,p,b,hk,he,hp,hc,hd=>by
  simp only[YeH]at hk
  split at hk
  ·rename_i hcond
   simp only[YGi,beq_iff_eq,bne_iff_ne,ne_eq]at hcond
   obtain⟨⟨h1,h2⟩,h3⟩:=hcond
   obtain⟨kb,hkb,hk⟩:=YGe.1 hk
   obtain⟨ks',hks,rfl⟩:=YGh.1 hk
   have key:∀(vx vy:Value)(l r:List SV)(c b':Bool)(q:Prop),YbM ks' l r=some (q,b')->q->b=(c&&b')->X.drop k=vx::X.drop (k+1)->Y.drop k=vy::Y.drop (k+1)->
    RepL w bs B l (X.drop (k+1))->RepL w bs B r (Y.drop (k+1))->(Op.equalIn (d+1) f.type vx vy).run P w= .ok c w->
    (Op.eqFields (d+1) X.toArray Y.toArray (f::fs)).run P w= .ok b w:=by
    intro vx vy l r c b' q hq hqq hb hX hY hl hr hrun
    have ih:=YeD (d:=d) hks hq hqq hl hr
    have hX1:=(YaF hX).1
    have hY1:=(YaF hY).1
    subst hb
    simp only[Op.eqFields,ne_eq,h3,not_false_eq_true,if_true,h2,Sem.run_bind,Ydy hkb hX1,Ydy hkb hY1,Result.andThen_ok,hrun,Sem.run_ite,ih]
    cases c <;> simp
   cases cs with
   |nil=>exact absurd he (by cases kb <;> simp [YbM])
   |cons x l=>
   cases ds with
   |nil=>exact absurd he (by cases kb <;> cases x <;> simp [YbM])
   |cons y r=>
   obtain⟨vx,l1,hX,hvx,hl1⟩:=hc.cons_inv
   obtain⟨vy,l2,hY,hvy,hl2⟩:=hd.cons_inv
   obtain⟨_,rfl⟩:=YaF hX
   obtain⟨_,rfl⟩:=YaF hY
   rcases Yfx hkb with⟨rfl,ik,hu⟩ | ⟨rfl,hu⟩
   ·cases x <;> cases y <;> simp only[YbM,reduceCtorEq]at he
    obtain⟨⟨q,b'⟩,hq,he⟩:=YGh.1 he
    simp only[Prod.mk.injEq]at he
    obtain⟨rfl,rfl⟩:=he
    obtain⟨rfl,hp⟩:=hp
    have hvx:=hvx.int_inv;have hvy:=hvy.int_inv;subst hvx;subst hvy
    refine key _ _ _ _ _ _ _ hq hp rfl hX hY hl1 hl2 ?_
    rw[run_equalIn_int w d f.type _ ik _ _ hu]
    congr 1
   ·cases x <;> cases y <;> simp only[YbM,reduceCtorEq]at he
    obtain⟨⟨q,b'⟩,hq,he⟩:=YGh.1 he
    simp only[Prod.mk.injEq]at he
    obtain⟨rfl,rfl⟩:=he
    have hvx:=hvx.bool_inv;have hvy:=hvy.bool_inv;subst hvx;subst hvy
    exact key _ _ _ _ _ _ _ hq hp rfl hX hY hl1 hl2 (run_equalIn_bool w d f.type _ _ hu)
  ·cases hk
theorem YhV{d:Nat}{X Y:List Value}{e:TypeId}{kb:Bool}(hkb:YfV P e=some kb):∀{n k:Nat}{cs ds:List SV}{p:Prop}{b:Bool},YbM (repK n kb) cs ds=some (p,b)->p->
 RepL w bs B cs (X.drop k)->RepL w bs B ds (Y.drop k)->(Op.eqItems (d+1) e 1 X.toArray Y.toArray (List.range' k n)).run P w= .ok b w
 |0,k,cs,ds,p,b,he,hp,_,_=>by
  simp only[repK]at he
  cases cs <;> cases ds <;> simp [YbM]at he
  simp [Op.eqItems,he.2]
 |n+1,k,cs,ds,p,b,he,hp,hc,hd=>by
  simp only[repK]at he
  have key:∀(vx vy:Value)(l r:List SV)(c b':Bool)(q:Prop),YbM (repK n kb) l r=some (q,b')->q->b=(c&&b')->X.drop k=vx::X.drop (k+1)->Y.drop k=vy::Y.drop (k+1)->
   RepL w bs B l (X.drop (k+1))->RepL w bs B r (Y.drop (k+1))->(Op.equalIn (d+1) e vx vy).run P w= .ok c w->
   (Op.eqItems (d+1) e 1 X.toArray Y.toArray (List.range' k (n+1))).run P w= .ok b w:=by
   intro vx vy l r c b' q hq hqq hb hX hY hl hr hrun
   have ih:=YhV (d:=d) hkb hq hqq hl hr
   have hX1:=(YaF hX).1
   have hY1:=(YaF hY).1
   subst hb
   simp only[List.range'_succ,Op.eqItems,YHj,Sem.run_bind,Ydy hkb hX1,Ydy hkb hY1,Result.andThen_ok,hrun,Sem.run_ite,ih]
   cases c <;> simp
  cases cs with
  |nil=>exact absurd he (by cases kb <;> simp [YbM])
  |cons x l=>
  cases ds with
  |nil=>exact absurd he (by cases kb <;> cases x <;> simp [YbM])
  |cons y r=>
  obtain⟨vx,l1,hX,hvx,hl1⟩:=hc.cons_inv
  obtain⟨vy,l2,hY,hvy,hl2⟩:=hd.cons_inv
  obtain⟨_,rfl⟩:=YaF hX
  obtain⟨_,rfl⟩:=YaF hY
  rcases Yfx hkb with⟨rfl,ik,hu⟩ | ⟨rfl,hu⟩
  ·cases x <;> cases y <;> simp only[YbM,reduceCtorEq]at he
   obtain⟨⟨q,b'⟩,hq,he⟩:=YGh.1 he
   simp only[Prod.mk.injEq]at he
   obtain⟨rfl,rfl⟩:=he
   obtain⟨rfl,hp⟩:=hp
   have hvx:=hvx.int_inv;have hvy:=hvy.int_inv;subst hvx;subst hvy
   refine key _ _ _ _ _ _ _ hq hp rfl hX hY hl1 hl2 ?_
   rw[run_equalIn_int w d e _ ik _ _ hu]
   congr 1
  ·cases x <;> cases y <;> simp only[YbM,reduceCtorEq]at he
   obtain⟨⟨q,b'⟩,hq,he⟩:=YGh.1 he
   simp only[Prod.mk.injEq]at he
   obtain⟨rfl,rfl⟩:=he
   have hvx:=hvx.bool_inv;have hvy:=hvy.bool_inv;subst hvx;subst hvy
   exact key _ _ _ _ _ _ _ hq hp rfl hX hY hl1 hl2 (run_equalIn_bool w d e _ _ hu)
theorem YvT{neg:Bool}{t yt:TypeId}{x y:Operand}{op:BinOp}{ks:List Bool}{xs:List SV}{e:Ef}(hop:op=if neg then .neq else .eql)(ht:Ygo P t=some ks)
 (he:eEqv neg ks xs=some e)(hpre:e.pre)(hx:RepL w bs B xs ([x,y].map ρ)):QOk P ρ (.binOp op t x y yt) w bs B e:=by
 unfold eEqv at he
 split at he
 ·rename_i cs ds
  obtain⟨⟨p,b⟩,hb,he⟩:=YGe.1 he
  cases Yh he
  obtain⟨h1,h2⟩:=two hx
  obtain⟨X,h1,hr1⟩:=h1.agg_inv
  obtain⟨Y,h2,hr2⟩:=h2.agg_inv
  unfold Ygo at ht
  split at ht
  ·rename_i n e hu
   split at ht
   ·rename_i hc
    simp only[YGi,YGA]at hc
    obtain⟨kb,hkb,rfl⟩:=YGh.1 ht
    obtain⟨i,hi,hsz⟩:∃i,P.info? e=some i/\i.size=1:=by
     have:=hc.2
     unfold YjF at this
     split at this
     ·exact⟨_,‹_›,by simpa using this⟩
     ·cases this
    have hco:P.cellsOf e=1:=by simp [Program.cellsOf,hi,hsz]
    have hrun:=run_equalIn_array (P:=P) (w:=w) 9999 X.toArray Y.toArray hu hi
    rw[hco,List.range_eq_range',YhV (d:=9998) (X:=X) (Y:=Y) hkb hb hpre (by simpa using hr1) (by simpa using hr2)]at hrun
    have hg:=run_eqGuard_agg (P:=P) w op t x y X.toArray Y.toArray hc.1
    cases neg <;> subst hop
    ·refine⟨rfl,.bool b,fun dst type pos after guard=>?_,.x _ _ (.bool _)⟩
     simp only[if_false,YGC]at hg⊢
     simp [execOp,h1,h2,hg,run_eql_struct,hrun]
    ·refine⟨rfl,.bool (!b),fun dst type pos after guard=>?_,.x _ _ (.bool _)⟩
     simp only[if_true]at hg⊢
     simp [execOp,h1,h2,hg,run_neq_struct,hrun]
   ·cases ht
  ·rename_i fs hu
   split at ht
   ·rename_i hc
    simp only[YGi,YGA]at hc
    have hu':P.underlying t=some (.struct (P.fieldsOf t)):=by simp [Program.fieldsOf,hu]
    have hf:(P.fieldsOf t).toList=fs.toList:=by simp [Program.fieldsOf,hu]
    have hrun:=run_equalIn_struct (P:=P) w 9999 t X.toArray Y.toArray hu' hc.1
    rw[hf,YeD (d:=9998) (X:=X) (Y:=Y) ht hb hpre (by simpa using hr1) (by simpa using hr2)]at hrun
    have hg:=run_eqGuard_agg (P:=P) w op t x y X.toArray Y.toArray hc.2
    cases neg <;> subst hop
    ·refine⟨rfl,.bool b,fun dst type pos after guard=>?_,.x _ _ (.bool _)⟩
     simp only[if_false,YGC]at hg⊢
     simp [execOp,h1,h2,hg,run_eql_struct,hrun]
    ·refine⟨rfl,.bool (!b),fun dst type pos after guard=>?_,.x _ _ (.bool _)⟩
     simp only[if_true]at hg⊢
     simp [execOp,h1,h2,hg,run_neq_struct,hrun]
   ·cases ht
  ·cases ht
 ·cases he
theorem Ygb(d:Nat)(t el:TypeId)(a:Option Addr)(l c:Nat)(h:P.underlying t=some (.slice el)):(Op.equalIn (d+1) t (.slice a l c) (.slice none 0 0)).run P w= .ok a.isNone w:=by
 cases a <;> simp [Op.equalIn,run_underlying h]
theorem YhE(t el:TypeId)(a:Option Addr)(l c:Nat)(h:P.underlying t=some (.slice el)):(Op.equal t (.slice a l c) (.slice none 0 0)).run P w= .ok a.isNone w:=Ygb 9999 t el a l c h
theorem Yv5{neg:Bool}{t yt:TypeId}{x:Operand}{op:BinOp}{xs:List SV}{e:Ef}(hop:op=if neg then .neq else .eql)(ht:Yfh P t=true)
 (he:eNil hp neg xs=some e)(hρ:∀v,ρ (.const v)=v)(hx:RepL w bs B xs ([x,.const (.slice none 0 0)].map ρ))(hH:Hp w bs B hp):QOk P ρ (.binOp op t x (.const (.slice none 0 0)) yt) w bs B e:=by
 have hu:∃el,P.underlying t=some (.slice el):=by
  unfold Yfh at ht;split at ht
  ·exact⟨_,‹_›⟩
  ·cases ht
 obtain⟨el,hu⟩:=hu
 have run (a:Option Addr) (n c:Nat) (h:ρ x= .slice a n c):∀dst type pos after guard,(execOp ρ ⟨dst,.binOp op t x (.const (.slice none 0 0)) yt,type,pos,after,guard⟩).run P w=
  .ok (.value (.bool (Yg4 neg a.isNone))) w:=by
  intro dst type pos after guard
  have hr:=YhE (P:=P) (w:=w) t el a n c hu
  cases neg <;> subst hop <;> simp [execOp,h,hρ,eqGuard,binOp,hr,Yg4]
 unfold eNil at he
 split at he
 ·rename_i y
  obtain⟨h1,_⟩:=two hx
  split at he
  ·cases Yh he
   exact⟨rfl,_,run _ _ _ h1.nil_inv,.x _ _ (.bool _)⟩
  ·cases Yh he
   cases h1 with
   |x _ _ h1=>
    generalize hv:ρ x=v at h1
    cases h1 with
    |vs _ _ _ _ _ a cap vals hz hc hn hcell h=>
     subst hz
     exact⟨rfl,_,run _ _ _ hv,.x _ _ (.bool _)⟩
  ·rename_i i lo n sz
   split at he
   ·rename_i z s' n' g hg
    cases Yh he
    have hent:=hH.ent i
    rw[hg]at hent
    generalize hv:ρ x=v at h1
    cases h1 with
    |x _ _ h1=>cases h1
    |own _ _ _ _ b cap m ad hbs hl ha=>
     rcases hent with⟨h,_⟩ | ⟨_,_,_,_,_,hz,_⟩
     ·rw[hbs]at h;cases h
     ·subst hz
      exact⟨rfl,_,run _ _ _ hv,.x _ _ (.bool _)⟩
    |ownNil _ _ hbs=>
     rcases hent with⟨_,hz,_⟩ | ⟨_,_,_,_,h,_⟩
     ·subst hz
      exact⟨rfl,_,run _ _ _ hv,.x _ _ (.bool _)⟩
     ·rw[hbs]at h;cases h
   ·cases he
  ·cases he
 ·cases he
end
end Go.Vx
namespace Go.Vx
open Go.RowKit
def updH(hp:List HO):Upd->List HO
 | .no=>hp
 | .new ho=>Ybt hp ho
 | .set i ho=>setH hp i ho
 | .app i ho=>setH (YaI i hp) i ho
def updE:Upd->Option Nat
 | .app i _=>some i
 |_=>none
section
variable {P:Program} {ρ:Operand->Value} {w w':World} {bs bs':List BK} {B:Bd} {hp:List HO}
def MOk(P:Program)(ρ:Operand->Value)(op:Op)(w:World)(bs:List BK)(B:Bd)(hp:List HO)(e:Ef):Prop:=
 ∃r v w' bs',(∀dst type pos after guard,(execOp ρ ⟨dst,op,type,pos,after,guard⟩).run P w= .ok r w')/\(r= .value v\/(r= .skip/\v=undef))/\
  Rep w' bs' B e.val v/\Hp w' bs' B (updH hp e.upd)/\Keeps w bs w' bs'/\Stays (updE e.upd) bs bs'/\Below B w w'
theorem Keeps.refl:Keeps w bs w bs:=fun _ hf _ h=>⟨h,hf⟩
theorem Stays.refl{e:Option Nat}:Stays e bs bs:=fun _ _ _ h _=>h
theorem QOk.mok{op:Op}{e:Ef}(h:QOk P ρ op w bs B e)(hH:Hp w bs B hp):MOk P ρ op w bs B hp e:=by
 obtain⟨hu,v,hrun,hr⟩:=h
 exact⟨.value v,v,w,bs,hrun,.inl rfl,hr,by rw[hu];exact hH,Keeps.refl,Stays.refl,Below.refl _ _⟩
theorem Ya3:∀(hp:List HO)(x:HO),lenH (Ybt hp x)=lenH hp+1
 | [],_=>rfl
 |_::l,x=>by simp [Ybt,lenH,Ya3 l x]
theorem Y2:∀(hp:List HO)(x:HO)(i:Nat),i<lenH hp->getH (Ybt hp x) i=getH hp i
 | [],_,_,h=>by simp [lenH]at h
 |_::_,_,0,_=>rfl
 |_::l,x,i+1,h=>by simpa [Ybt,getH]using Y2 l x i (by simpa [lenH]using h)
theorem Ya1:∀(hp:List HO)(x:HO),getH (Ybt hp x) (lenH hp)=x
 | [],_=>rfl
 |_::l,x=>by simpa [Ybt,lenH,getH]using Ya1 l x
theorem Ybb:∀(hp:List HO)(i:Nat),lenH hp<=i->getH hp i= .gone
 | [],i,_=>by cases i <;> rfl
 |_::l,0,h=>by simp [lenH]at h
 |_::l,i+1,h=>by simpa [getH]using Ybb l i (by simpa [lenH]using h)
theorem YcQ:∀(hp:List HO)(i:Nat)(x:HO),lenH (setH hp i x)=lenH hp
 | [],i,_=>by cases i <;> rfl
 |_::_,0,_=>rfl
 |_::l,i+1,x=>by simp [setH,lenH,YcQ l i x]
theorem YaQ:∀(hp:List HO)(i:Nat)(x:HO),i<lenH hp->getH (setH hp i x) i=x
 | [],_,_,h=>by simp [lenH]at h
 |_::_,0,_,_=>rfl
 |_::l,i+1,x,h=>by simpa [setH,getH]using YaQ l i x (by simpa [lenH]using h)
theorem YR:∀(hp:List HO)(i j:Nat)(x:HO),i≠j->getH (setH hp i x) j=getH hp j
 | [],i,j,_,_=>by cases i <;> rfl
 |_::_,0,0,_,h=>absurd rfl h
 |_::_,0,j+1,_,_=>rfl
 |_::_,i+1,0,_,_=>rfl
 |_::l,i+1,j+1,x,h=>by simpa [setH,getH]using YR l i j x (by omega)
theorem HRep.keepG{B':Bd}{i:Nat}{ho:HO}(hk:YbP w bs B w' bs' B')(hb:Stays none bs bs')(hi:bs'[i]? =bs[i]?)
 (hblk:∀b c n,bs[i]? =some (.blk b c n)->w'.heap[b]? =w.heap[b]?)(h:HRep w bs B i ho):HRep w' bs' B' i ho:=by
 cases ho with
 |gone=>simpa [HRep,hi]using h
 |box cs=>
  obtain⟨b,vs,T,h1,h2,h3⟩:=h
  exact⟨b,vs,T,by rw[hi];exact h1,by rw[hblk _ _ _ h1];exact h2,h3.keepG hk hb Yi⟩
 |smap l=>
  obtain⟨b,es,c,h1,h2,h3⟩:=h
  exact⟨b,es,c,by rw[hi];exact h1,by rw[hblk _ _ _ h1];exact h2,h3⟩
 |own z size n get=>
  rcases h with⟨h1,h2,h3⟩ | ⟨b,cap,vs,T,h1,h2,h3,h4,h5,h6⟩
  ·exact .inl ⟨by rw[hi];exact h1,h2,h3⟩
  ·exact .inr ⟨b,cap,vs,T,by rw[hi];exact h1,h2,by rw[hblk _ _ _ h1];exact h3,h4,h5,fun k hk'=>(h6 k hk').keepG hk hb Yi⟩
theorem HRep.keepC{i:Nat}{ho:HO}(hk:KeepsC w bs w' bs')(hb:Stays none bs bs')(hi:bs'[i]? =bs[i]?)
 (hblk:∀b c n,bs[i]? =some (.blk b c n)->w'.heap[b]? =w.heap[b]?)(h:HRep w bs B i ho):HRep w' bs' B i ho:=h.keepG hk.g hb hi hblk
theorem HRep.keep{i:Nat}{ho:HO}(hk:Keeps w bs w' bs')(hb:Stays none bs bs')(hi:bs'[i]? =bs[i]?)
 (hblk:∀b c n,bs[i]? =some (.blk b c n)->w'.heap[b]? =w.heap[b]?)(h:HRep w bs B i ho):HRep w' bs' B i ho:=h.keepC hk.c hb hi hblk
def World.push(w:World)(o:Obj):World:={ w with heap:=w.heap.push o}
theorem Ygq{b:Nat}{o o':Obj}(h:w.heap[b]? =some o'):(World.push w o).heap[b]? =some o':=by
 have hb:b<w.heap.size:=(YGX.1 h).1
 simp only[World.push,Array.getElem?_push]
 rw[if_neg (by omega)];exact h
theorem YaX{o:Obj}:(World.push w o).heap[w.heap.size]? =some o:=by
 show(w.heap.push o)[w.heap.size]? =some o
 exact Array.getElem?_push_size
theorem Y1(o:Obj)(hB:B<=w.heap.size):Below B w (World.push w o):=(Below.refl B w).alloc hB o
theorem YcV(oo:Obj)(cap n:Nat):Keeps w bs (World.push w oo) (bs++[.blk w.heap.size cap n]):=by
 intro b hf o ho
 refine⟨Ygq ho,fun i b' c m h=>?_⟩
 rw[YHs]at h
 split at h
 ·exact hf i b' c m h
 ·have hb:b<w.heap.size:=(YGX.1 ho).1
  rw[List.getElem?_singleton]at h
  split at h
  ·cases h;omega
  ·cases h
theorem Y8(cs:Array Value)(T:TypeId)(cap n:Nat):Keeps w bs (World.push w (.cells cs T (0,0))) (bs++[.blk w.heap.size cap n]):=YcV _ cap n
theorem Yw(x:BK)(e:Option Nat):Stays e bs (bs++[x]):=by
 intro i y _ h _
 rw[YGR (List.getElem?_eq_some_iff.1 h).1];exact h
theorem YrR(hH:Hp w bs B hp)(hB:B<=w.heap.size){oo:Obj}{cap n:Nat}{ho:HO}
 (h:HRep (World.push w oo) (bs++[.blk w.heap.size cap n]) B (lenH hp) ho):
 Hp (World.push w oo) (bs++[.blk w.heap.size cap n]) B (Ybt hp ho):=by
 have hlt:∀(i b c m:Nat),bs[i]? =some (.blk b c m)->b<w.heap.size:=fun i b c m h=>(hH.lo i b c m h).2
 refine⟨by simp [hH.len,Ya3],fun i=>?_,fun i j b c m c' m' h1 h2=>?_,fun i b c m h1=>?_,YaJ (YcV oo cap n) hH.reg⟩
 ·rcases Nat.lt_trichotomy i (lenH hp)with hi|hi|hi
  ·rw[Y2 _ _ _ hi]
   refine(hH.ent i).keep (YcV oo cap n) (Yw _ _) ?_ ?_
   ·rw[YGR (by rw[hH.len];exact hi)]
   ·intro b c m hb
    have:=hlt i b c m hb
    simp only[World.push,Array.getElem?_push]
    rw[if_neg (by omega)]
  ·subst hi;rw[Ya1];exact h
  ·rw[Ybb _ _ (by rw[Ya3];omega)]
   right
   rw[List.getElem?_eq_none];simp [hH.len];omega
 ·rw[YHs]at h1 h2
  split at h1 <;> split at h2
  ·exact hH.inj i j b c m c' m' h1 h2
  ·have:=hlt i b c m h1
   rw[List.getElem?_singleton]at h2;split at h2 <;> cases h2;omega
  ·have:=hlt j b c' m' h2
   rw[List.getElem?_singleton]at h1;split at h1 <;> cases h1;omega
  ·rw[List.getElem?_singleton]at h1 h2
   split at h1 <;> split at h2 <;> first|omega| (cases h1;done) | (cases h2;done)
 ·rw[YHs]at h1
  have hs:(World.push w oo).heap.size=w.heap.size+1:=by simp [World.push]
  split at h1
  ·have:=hH.lo i b c m h1;omega
  ·rw[List.getElem?_singleton]at h1
   split at h1 <;> cases h1
   omega
theorem Yg5(hH:Hp w bs B hp)(hB:B<=w.heap.size){cs:Array Value}{T:TypeId}{cap n:Nat}{ho:HO}
 (h:HRep (World.push w (.cells cs T (0,0))) (bs++[.blk w.heap.size cap n]) B (lenH hp) ho):
 Hp (World.push w (.cells cs T (0,0))) (bs++[.blk w.heap.size cap n]) B (Ybt hp ho):=YrR hH hB h
theorem Y4{x:BK}(hH:Hp w bs B hp):(bs++[x])[lenH hp]? =some x:=by rw[<-hH.len];simp
theorem YCg{elem:TypeId}{x:Operand}{xs:List SV}{e:Ef}(he:eBox (lenH hp) xs=some e)(hpre:e.pre)(hx:RepL w bs B xs ([x].map ρ))(hH:Hp w bs B hp)(hB:B<=w.heap.size):
 MOk P ρ (.box elem x) w bs B hp e:=by
 unfold eBox at he
 split at he
 ·simp only[eNew,Option.some.injEq]at he
  subst he
  obtain⟨hcl,_⟩:=Yfo hpre (one1 hx)
  refine⟨.value (.pointer (some ⟨w.heap.size,0,none⟩)),_,World.push w (.cells (ρ x).cells elem (0,0)),bs++[.blk w.heap.size 0 0],fun dst type pos after guard=>?_,.inl rfl,?_,?_,Y8 _ _ _ _,Yw _ _,Y1 _ hB⟩
  ·simp [execOp,Instr.box,newVar,newRow,World.push]
  ·exact .ptr _ _ _ _ (Y4 hH)
  ·exact Yg5 hH hB ⟨_,_,_,Y4 hH,YaX,hcl.keep (Y8 _ _ _ _) (Yw _ _) Yi⟩
 ·cases he
theorem Yt6{elem:TypeId}{z:List SV}(hz:Yah P elem=some z)(hH:Hp w bs B hp)(hB:B<=w.heap.size):
 MOk P ρ (.alloc elem) w bs B hp ⟨True,.ptr (lenH hp) 0,.new (.box z)⟩:=by
 obtain⟨v,hv,hr⟩:=Y5 (P:=P) (w:=w) (bs:=bs) (B:=B) hz
 refine⟨.value (.pointer (some ⟨w.heap.size,0,none⟩)),_,World.push w (.cells v.cells elem (0,0)),bs++[.blk w.heap.size 0 0],fun dst type pos after guard=>?_,.inl rfl,?_,?_,Y8 _ _ _ _,Yw _ _,Y1 _ hB⟩
 ·simp [execOp,Instr.alloc,hv,newVar,newRow,World.push]
 ·exact .ptr _ _ _ _ (Y4 hH)
 ·exact Yg5 hH hB ⟨_,_,_,Y4 hH,YaX,hr.keep (Y8 _ _ _ _) (Yw _ _) Yi⟩
theorem Ygg{cs:List SV}{vs:List Value}(h:RepL w bs B cs vs)(size k:Nat):RepL w bs B (YaN size cs k) ((vs.drop (k*size)).take size):=(h.drop _).take _
theorem Ylx{elem t:TypeId}{n size:Nat}{z:List SV}(hz:Yah P elem=some z)(hl:lenL z=n*size)(hH:Hp w bs B hp)(hB:B<=w.heap.size):
 MOk P ρ (.alloc elem) w bs B hp ⟨lenL z=n*size,.ptr (lenH hp) 0,.new (.own false size n (YaN size z))⟩:=by
 obtain⟨v,hv,hr⟩:=Y5 (P:=P) (w:=w) (bs:=bs) (B:=B) hz
 refine⟨.value (.pointer (some ⟨w.heap.size,0,none⟩)),_,World.push w (.cells v.cells elem (0,0)),bs++[.blk w.heap.size n n],fun dst type pos after guard=>?_,.inl rfl,?_,?_,Y8 _ _ _ _,Yw _ _,Y1 _ hB⟩
 ·simp [execOp,Instr.alloc,hv,newVar,newRow,World.push]
 ·exact .ptr _ _ _ _ (Y4 hH)
 ·refine Yg5 hH hB (.inr ⟨_,n,_,_,Y4 hH,rfl,YaX,?_,YGr _,fun k _=>Ygg (hr.keep (Y8 _ _ _ _) (Yw _ _) Yi) size k⟩)
  rw[<-hl,hr.length];simp
structure Wrote (w w':World) (b:Nat) (o:Obj):Prop where
 os:w'.os=w.os
 tape:w'.tape=w.tape
 output:w'.output=w.output
 size:w'.heap.size=w.heap.size
 at_:w'.heap[b]? =some o
 other:∀k,k≠b->w'.heap[k]? =w.heap[k]?
theorem Yli{cs:List Value}{off:Nat}{v:Value}{vs:List Value}(h:off<cs.length):YJ (cs.set off v) (off+1) vs=YJ cs off (v::vs):=by
 have e1:(cs.set off v).take (off+1)=cs.take off++[v]:=by
  rw[List.set_eq_take_append_cons_drop,if_pos h,List.take_append]
  simp [YHb,Nat.min_eq_left (YHn h)]
  exact List.take_of_length_le (by simp;omega)
 have e2:(cs.set off v).drop (off+1+vs.length)=cs.drop (off+(vs.length+1)):=by
  rw[List.set_eq_take_append_cons_drop,if_pos h,List.drop_append]
  simp [YHb,Nat.min_eq_left (YHn h)]
  rw[show off+1+vs.length-off=vs.length+1 by omega]
  simp only[List.drop_succ_cons,List.drop_drop]
  rw[List.drop_of_length_le (by simp;omega),List.nil_append]
  congr 1;omega
 simp [YJ,e1,e2]
theorem YjC{b off:Nat}{cs:Array Value}{T:TypeId}{v:Value}(hb:w.heap[b]? =some (.cells cs T (0,0))):
 Wrote w (w.setCell ⟨b,off,none⟩ v) b (.cells (cs.setIfInBounds off v) T (0,0)):=by
 refine⟨rfl,rfl,rfl,by simp [World.setCell],?_,fun k hk=>?_⟩
 ·simp [World.setCell,Array.getElem?_modify,hb]
 ·simp only[World.setCell,Array.getElem?_modify]
  rw[if_neg (by omega)]
theorem Wrote.trans{w1 w2:World}{b:Nat}{o o':Obj}(h:Wrote w w1 b o)(h':Wrote w1 w2 b o'):Wrote w w2 b o':=
 ⟨h'.os.trans h.os,h'.tape.trans h.tape,h'.output.trans h.output,h'.size.trans h.size,h'.at_,fun k hk=>(h'.other k hk).trans (h.other k hk)⟩
theorem Yce{b off T:Nat}:∀{vs:List Value}{cs:Array Value}{w:World}{i:Nat},w.heap[b]? =some (.cells cs T (0,0))->off+i+vs.length<=cs.size->(∀u∈vs,u.oneCell'=true)->
 ∃w' cs',(storeCells ⟨b,off,none⟩ vs i).run P w= .ok () w'/\Wrote w w' b (.cells cs' T (0,0))/\cs'.toList=YJ cs.toList (off+i) vs
 | [],cs,w,i,hb,hl,ho=>⟨w,cs,rfl,⟨rfl,rfl,rfl,rfl,hb,fun _ _=>rfl⟩,by simp [YJ]⟩
 |v::vs,cs,w,i,hb,hl,ho=>by
  simp only[YHf]at hl
  have hw:=YjC (off:=off+i) (v:=v) hb
  obtain⟨w',cs',hrun,hw',hcs⟩:=Yce (off:=off) (vs:=vs) (cs:=cs.setIfInBounds (off+i) v) (w:=w.setCell ⟨b,off+i,none⟩ v) (i:=i+1) hw.at_ (by simp;omega) (fun u hu=>ho u (by simp [hu]))
  refine⟨w',cs',?_,hw.trans hw',?_⟩
  ·have hc:w.cell? ⟨b,off+i,none⟩=some (cs[off+i]'(by omega)):=by simp [World.cell?,hb]
   have hf:w.frozen? ⟨b,off+i,none⟩=false:=by simp [World.frozen?,hb]
   simp only[storeCells,Sem.run_bind,Yai,run_store _ _ _ _ _ (ho v (by simp)),hc,hf,YGC,if_false,Result.andThen_ok,hrun]
  ·rw[hcs,Array.toList_setIfInBounds,show off+(i+1)=off+i+1 by omega,Yli (by simp;omega)]
theorem spliceV_get?{cs vs:List Value}{off:Nat}(h:off+vs.length<=cs.length)(i:Nat):
 (YJ cs off vs)[i]? =if i<off then cs[i]? else if i<off+vs.length then vs[i-off]? else cs[i]? :=by
 unfold YJ
 rw[List.append_assoc,YHs]
 simp only[YHb,Nat.min_eq_left (show off<=cs.length by omega)]
 split
 ·rw[YHl,if_pos ‹_›]
 ·rw[YHs]
  split
  ·rw[if_pos (by omega)]
  ·rw[if_neg (by omega),List.getElem?_drop];congr 1;omega
theorem YsI{vs u:List Value}{p off sz:Nat}(h1:off+u.length<=sz)(h2:p+sz<=vs.length):
 YJ ((vs.drop p).take sz) off u=((YJ vs (p+off) u).drop p).take sz:=by
 apply List.ext_getElem?
 intro i
 rw[spliceV_get? (by simp;omega),YHl,YHl,List.getElem?_drop,List.getElem?_drop,spliceV_get? (by omega)]
 by_cases hi:i<sz
 ·simp only[hi,if_true]
  by_cases ha:i<off
  ·simp only[ha,if_true,show p+i<p+off by omega]
  ·simp only[ha,if_false,show¬p+i<p+off by omega]
   by_cases hb:i<off+u.length
   ·simp only[hb,if_true,show p+i<p+off+u.length by omega];congr 1;omega
   ·simp only[hb,if_false,show¬p+i<p+off+u.length by omega]
 ·simp only[hi,if_false]
  simp only[show¬i<off by omega,if_false,show¬i<off+u.length by omega]
theorem YoM{vs u:List Value}{p q off sz:Nat}(h1:off+u.length<=sz)(h2:p+sz<=vs.length)(h:q+sz<=p\/p+sz<=q):
 (vs.drop q).take sz=((YJ vs (p+off) u).drop q).take sz:=by
 apply List.ext_getElem?
 intro i
 rw[YHl,YHl,List.getElem?_drop,List.getElem?_drop,spliceV_get? (by omega)]
 by_cases hi:i<sz
 ·simp only[hi,if_true]
  by_cases ha:q+i<p+off
  ·rw[if_pos ha]
  ·rw[if_neg ha,if_neg (by omega)]
 ·simp only[hi,if_false]
theorem Wrote.below{b:Nat}{o:Obj}(h:Wrote w w' b o)(hB:B<=b):Below B w w':=
 ⟨h.os,h.tape,h.output,YGu h.size.symm,fun k hk=>h.other k (by omega)⟩
theorem Wrote.keeps{b i c n:Nat}{o:Obj}(h:Wrote w w' b o)(hb:bs[i]? =some (.blk b c n)):Keeps w bs w' bs:=by
 intro k hf o' ho
 have:b≠k:=hf i b c n hb
 exact⟨by rw[h.other k (by omega)];exact ho,hf⟩
theorem Yn2{b i c n:Nat}{o:Obj}{ho:HO}(hH:Hp w bs B hp)(hw:Wrote w w' b o)(hb:bs[i]? =some (.blk b c n))(hi:i<lenH hp)(h:HRep w' bs B i ho):
 Hp w' bs B (setH hp i ho):=by
 refine⟨by rw[YcQ];exact hH.len,fun j=>?_,hH.inj,fun j b' c' n' h1=>by rw[hw.size];exact hH.lo j b' c' n' h1,YaJ (hw.keeps hb) hH.reg⟩
 by_cases hij:i=j
 ·subst hij;rw[YaQ _ _ _ hi];exact h
 ·rw[YR _ _ _ _ hij]
  refine(hH.ent j).keep (hw.keeps hb) Stays.refl rfl ?_
  intro b' c' n' hb'
  refine hw.other b' fun he=>hij ?_
  subst he
  exact hH.inj i j _ _ _ _ _ hb hb'
theorem Yjn{i:Nat}{x:BK}(hH:Hp w bs B hp)(h:bs[i]? =some x):i<lenH hp:=by
 rw[<-hH.len];exact(List.getElem?_eq_some_iff.1 h).1
theorem YcX{x y:Operand}{t:TypeId}{size b off:Nat}{T:TypeId}{cs:Array Value}(hs:sizeOf? P t=some size)(hx:ρ x= .pointer (some ⟨b,off,none⟩))(hb:w.heap[b]? =some (.cells cs T (0,0)))
 (hl:(ρ y).cells.size=size)(hc:off+size<=cs.size)(ho:∀u∈(ρ y).cells.toList,u.oneCell'=true):
 ∃w' cs',(∀dst type pos after guard,(execOp ρ ⟨dst,.store t x y,type,pos,after,guard⟩).run P w= .ok .skip w')/\Wrote w w' b (.cells cs' T (0,0))/\cs'.toList=YJ cs.toList off (ρ y).cells.toList:=by
 obtain⟨w',cs',hrun,hw,hcs⟩:=Yce (P:=P) (off:=off) (i:=0) (vs:=(ρ y).cells.toList) hb (by simp [hl];exact hc) ho
 refine⟨w',cs',fun dst type pos after guard=>?_,hw,hcs⟩
 simp [execOp,Instr.storeAt,hx,Instr.sureAddr,storeVar,YA hs,hl,hrun]
theorem Yvs{x y:Operand}{t:TypeId}{size:Nat}{xs:List SV}{e:Ef}(hs:sizeOf? P t=some size)(he:YhU hp size xs=some e)(hpre:e.pre)
 (hx:RepL w bs B xs ([x,y].map ρ))(hH:Hp w bs B hp):MOk P ρ (.store t x y) w bs B hp e:=by
 unfold YhU at he
 split at he
 ·rename_i a v
  obtain⟨e',he',rfl⟩:=YGh.1 he
  obtain⟨hl,hone,hpre⟩:=hpre
  obtain⟨ha,hv⟩:=two hx
  obtain⟨hcl,hoc⟩:=Yfo hone hv
  have hsz:(ρ y).cells.size=size:=by rw[<-hl,hcl.length];simp
  unfold storeAt at he'
  split at he'
  ·rename_i i off
   obtain⟨b,n,hb,hρ⟩:=ha.ptr_inv
   have hi:=Yjn hH hb
   have hent:=hH.ent i
   split at he'
   ·rename_i cs hg
    cases he'
    rw[hg]at hent
    obtain⟨b',vs,T,h1,h2,h3⟩:=hent
    rw[hb]at h1;cases h1
    obtain⟨w',cs',hrun,hw,hcs⟩:=YcX hs hρ h2 hsz (by rw[h3.length]at hpre;simpa using hpre) hoc
    refine⟨.skip,undef,w',bs,hrun,.inr ⟨rfl,rfl⟩,.x _ _ (.junk _),?_,hw.keeps hb,Stays.refl,hw.below (hH.lo _ _ _ _ hb).1⟩
    refine Yn2 hH hw hb hi ⟨b,cs',T,hb,hw.at_,?_⟩
    rw[hcs]
    exact(h3.splice off hcl (by rw[hl];exact hpre)).keep (hw.keeps hb) Stays.refl Yi
   ·rename_i z sz m get hg
    split at he'
    ·cases he'
     obtain⟨hp1,hp2⟩:=hpre
     rw[hg]at hent
     rcases hent with⟨h,_⟩ | ⟨b',cap,vs,T,h1,h2,h3,h4,h5,h6⟩
     ·rw[hb]at h;cases h
     rw[hb]at h1;cases h1
     obtain⟨w',cs',hrun,hw,hcs⟩:=YcX hs hρ h3 hsz (by rw[h4,hp1];omega) hoc
     refine⟨.skip,undef,w',bs,hrun,.inr ⟨rfl,rfl⟩,.x _ _ (.junk _),?_,hw.keeps hb,Stays.refl,hw.below (hH.lo _ _ _ _ hb).1⟩
     have hcs':cs'.toList=(ρ y).cells.toList:=by
      rw[hcs];simp only[YJ,List.take_zero,List.nil_append,YHu]
      rw[List.drop_of_length_le (by simp [hsz,h4,hp1])];simp
     refine Yn2 hH hw hb hi (.inr ⟨b,_,cs',T,hb,h2,hw.at_,?_,YGr _,fun k hk=>?_⟩)
     ·have:=congrArg List.length hcs';simp at this;rw[this,hsz,hp1]
     ·rw[hcs']
      exact(Ygg hcl _ k).keep (hw.keeps hb) Stays.refl Yi
    ·cases he'
   ·cases he'
   ·cases he'
  ·rename_i i k off sz
   obtain⟨b,c,n,hb,hρ,hkn⟩:=ha.elem_inv
   have hi:=Yjn hH hb
   have hent:=hH.ent i
   split at he'
   ·rename_i z size' m get hg
    cases he'
    obtain⟨hk,rfl,hoff⟩:=hpre
    rw[hg]at hent
    rcases hent with⟨h,_⟩ | ⟨b',cap,vs,T,h1,h2,h3,h4,h5,h6⟩
    ·rw[hb]at h;cases h
    rw[hb]at h1;cases h1
    have hkc:k*sz+sz<=c*sz:=by rw[<-YHD];exact YGf _ (by omega)
    obtain⟨w',cs',hrun,hw,hcs⟩:=YcX hs hρ h3 hsz (by rw[h4];omega) hoc
    refine⟨.skip,undef,w',bs,hrun,.inr ⟨rfl,rfl⟩,.x _ _ (.junk _),?_,hw.keeps hb,Stays.refl,hw.below (hH.lo _ _ _ _ hb).1⟩
    have hlen:cs'.size=vs.size:=by
     have:=congrArg List.length hcs
     rw[Yij (by simp [hsz,h4];omega)]at this
     simpa using this
    refine Yn2 hH hw hb hi (.inr ⟨b,c,cs',T,hb,h2,hw.at_,by rw[hlen,h4],h5,fun j hj=>?_⟩)
    by_cases hjk:j=k
    ·subst hjk
     simp only[if_true]
     have hsp:=((h6 j hj).splice off hcl (by rw[(h6 j hj).length,hl];simp [h4];omega)).keep (hw.keeps hb) Stays.refl Yi
     have heq:YJ ((vs.toList.drop (j*sz)).take sz) off (ρ y).cells.toList=(cs'.toList.drop (j*sz)).take sz:=by
      rw[hcs]
      exact YsI (by simpa [hsz]using hoff) (by simp [h4];omega)
     rw[<-heq];exact hsp
    ·simp only[if_neg hjk]
     have heq:(vs.toList.drop (j*sz)).take sz=(cs'.toList.drop (j*sz)).take sz:=by
      rw[hcs]
      refine YoM (by simpa [hsz]using hoff) (by simp [h4];omega) ?_
      rcases Nat.lt_or_gt_of_ne hjk with h|h
      ·left;rw[<-YHD];exact YGf _ h
      ·right;rw[<-YHD];exact YGf _ h
     rw[<-heq];exact(h6 j hj).keep (hw.keeps hb) Stays.refl Yi
   ·cases he'
  ·cases he'
 ·cases he
def rowV(f:Nat->List Value):Nat->List Value
 |0=>[]
 |n+1=>rowV f n++f n
theorem YaK{f:Nat->List Value}{size:Nat}:∀{n:Nat},(∀k,k<n->(f k).length=size)->(rowV f n).length=n*size
 |0,_=>by simp [rowV]
 |n+1,h=>by
  simp only[rowV,YHg,h n (by omega),YaK (n:=n) (fun k hk=>h k (by omega))]
  rw[YHD]
theorem YdX{f:Nat->List Value}{size:Nat}:∀{n:Nat},(∀k,k<n->(f k).length=size)->∀k,k<n->((rowV f n).drop (k*size)).take size=f k
 |0,_,k,hk=>by omega
 |n+1,h,k,hk=>by
  have hl:=YaK (f:=f) (size:=size) (n:=n) (fun k hk=>h k (by omega))
  simp only[rowV]
  rcases YGz k n with h1|h1
  ·have ih:=YdX (f:=f) (size:=size) (n:=n) (fun k hk=>h k (by omega)) k h1
   have:k*size+size<=n*size:=by rw[<-YHD];exact YGf _ h1
   rw[List.drop_append_of_le_length (by omega),List.take_append_of_le_length (by simp;omega),ih]
  ·have:k=n:=by omega
   subst this
   rw[List.drop_append,List.drop_of_length_le (by omega),hl,Nat.sub_self]
   simp [List.take_of_length_le (YGu (h k (by omega)))]
theorem YjA{f:Nat->List Value}{size:Nat}(hs:0<size):∀{n:Nat},(∀k,k<n->(f k).length=size)->∀j v,(rowV f n)[j]? =some v->j/size<n/\(f (j/size))[j%size]? =some v
 |0,_,j,v,h=>by simp [rowV]at h
 |n+1,h,j,v,hv=>by
  have hl:=YaK (f:=f) (size:=size) (n:=n) (fun k hk=>h k (by omega))
  simp only[rowV,YHs]at hv
  split at hv
  ·obtain⟨h1,h2⟩:=YjA hs (n:=n) (fun k hk=>h k (by omega)) j v hv
   exact⟨by omega,h2⟩
  ·rename_i hj
   rw[hl]at hj hv
   have hlt:j-n*size<size:=by
    have:=(List.getElem?_eq_some_iff.1 hv).1
    rw[h n (by omega)]at this;exact this
   have hd:j/size=n:=by
    rw[Nat.div_eq_iff hs]
    constructor
    ·omega
    ·omega
   have hm:j%size=j-n*size:=by rw[Nat.mod_eq_sub,hd,YGj]
   rw[hd,hm]
   exact⟨by omega,hv⟩
theorem YnW{f:Nat->List Value}:∀{n:Nat}{u:Value},u∈rowV f n->∃k,k<n/\u∈f k
 |0,u,h=>by simp [rowV]at h
 |n+1,u,h=>by
  simp only[rowV,YGT]at h
  rcases h with h|h
  ·obtain⟨k,h1,h2⟩:=YnW h;exact⟨k,by omega,h2⟩
  ·exact⟨n,by omega,h⟩
theorem YdW{x:SV}{v:Value}{m size:Nat}{gx:Nat->List SV}(h:Yc4 hp x=some (m,gx))(hs:0<size)(hl:∀k,k<m->lenL (gx k)=size/\ones (gx k))(hx:Rep w bs B x v)(hH:Hp w bs B hp):
 ∃a c f,v= .slice a m c/\(∀k,k<m->(f k).length=size)/\(∀k,k<m->RepL w bs B (gx k) (f k))/\(∀u∈rowV f m,u.oneCell'=true)/\
  (∃arr,(Builtin.firstCells size m v).run P w= .ok arr w/\arr.toList=rowV f m):=by
 have fin:∀(f:Nat->List Value),(∀k,k<m->RepL w bs B (gx k) (f k))->∀u∈rowV f m,u.oneCell'=true:=by
  intro f hf u hu
  obtain⟨k,hk,hu⟩:=YnW hu
  exact YkU _ _ (hl k hk).2 (hf k hk) u hu
 have flen:∀(f:Nat->List Value),(∀k,k<m->RepL w bs B (gx k) (f k))->∀k,k<m->(f k).length=size:=by
  intro f hf k hk
  rw[<-(hf k hk).length];exact(hl k hk).1
 have load:∀(ad:Addr)(f:Nat->List Value),ad.spot=none->(∀k,k<m->RepL w bs B (gx k) (f k))->(∀k,k<m->Cells w ad.block (ad.off+k*size) (f k))->
  ∃arr,(loadCells ad (m*size)).run P w= .ok arr w/\arr.toList=rowV f m:=by
  intro ad f hsp hf hc
  refine⟨(rowV f m).toArray,?_,by simp⟩
  unfold loadCells
  rw[<-YaK (flen f hf),YaT hsp (fun j v hj=>?_)]
  ·simp
  ·obtain⟨h1,h2⟩:=YjA hs (flen f hf) j v hj
   have:=(hc _ h1).cell h2
   rw[YHu]
   have he:ad.off+j/size*size+j%size=ad.off+j:=by
    have:=YGP j size
    rw[YGj]at this;omega
   rwa [he]at this
 unfold Yc4 at h
 split at h
 ·cases h
  have:=hx.nil_inv;subst this
  exact⟨none,0,fun _=>[],rfl,fun k hk=>by omega,fun k hk=>by omega,by simp [rowV], #[],rfl,by simp [rowV]⟩
 ·cases h
  cases hx with
  |x _ _ hx=>
   cases hx with
   |vs t z n sz get a cap vals hz hc hn hcell h=>
    refine⟨a,cap,vals,rfl,flen vals (fun k hk=>(h k hk).rep),fun k hk=>(h k hk).rep,fin vals (fun k hk=>(h k hk).rep),?_⟩
    by_cases hm:m=0
    ·subst hm
     cases a with
     |none=>exact⟨#[],rfl,by simp [rowV]⟩
     |some ad=>exact⟨#[],by simp [Builtin.firstCells,loadCells,loadCellsFrom],by simp [rowV]⟩
    ·obtain⟨ad,rfl,hsp,_⟩:=hcell 0 (by omega)
     refine load ad vals hsp (fun k hk=>(h k hk).rep) (fun k hk=>?_)
     obtain⟨ad',had,_,_,_,hlen,hc'⟩:=hcell k hk
     cases had
     have hsz:=hlen.symm.trans (flen vals (fun k hk=>(h k hk).rep) k hk)
     rw[hsz]at hc';exact hc'
 ·rename_i i lo n sz
  split at h
  ·rename_i z s' n' get hg
   cases hbq:YGS sz s' with
   |false=>rw[hbq]at h;cases h
   |true=>
   rw[hbq]at h
   cases h
   have hss:=YGD hbq
   subst hss
   have hent:=hH.ent i
   rw[hg]at hent
   cases hx with
   |x _ _ hx=>cases hx
   |ownNil _ _ hbs=>exact⟨none,0,fun _=>[],rfl,fun k hk=>by omega,fun k hk=>by omega,by simp [rowV], #[],rfl,by simp [rowV]⟩
   |own _ _ _ _ b cap mm ad hbs hlm ha=>
    rcases hent with⟨h,_⟩ | ⟨b',cap',vs,T,h1,h2,h3,h4,h5,h6⟩
    ·rw[hbs]at h;cases h
    rw[hbs]at h1;cases h1
    have hf:∀k,k<m->RepL w bs B (get (Yb9 lo k)) ((vs.toList.drop ((lo+k)*sz)).take sz):=by
     intro k hk;rw[YdF];exact h6 (lo+k) (by omega)
    refine⟨some ad,cap-lo,fun k=>(vs.toList.drop ((lo+k)*sz)).take sz,rfl,flen _ hf,hf,fin _ hf,?_⟩
    by_cases hm:m=0
    ·subst hm
     exact⟨#[],by simp [Builtin.firstCells,loadCells,loadCellsFrom],by simp [rowV]⟩
    ·have hs':sz=size:=by
      have h0:=flen _ hf 0 (by omega)
      simp only[YHi,YHb,List.length_drop,Array.length_toList,h4]at h0
      have:lo*sz+sz<=cap*sz:=by rw[<-YHD];exact YGf _ (by omega)
      omega
     subst hs'
     have had:ad=⟨b,lo*sz,none⟩:=by
      rcases ha with ha|ha
      ·exact ha
      ·omega
     subst had
     refine load _ _ rfl hf (fun k hk=>⟨vs,T,_,h3,fun j v hj=>?_⟩)
     rw[YHl]at hj
     split at hj
     ·rw[List.getElem?_drop]at hj
      simp only[<-YGG]
      simpa using hj
     ·cases hj
  ·cases h
 ·cases h
theorem Yex{c:Call}{ty:TypeId}{t1 t2 el el2:TypeId}{size bytes:Nat}{z:List SV}{va vx:Value}{a:Option Addr}{n cap m cx:Nat}{ax:Option Addr}{old new:Array Value}
 (hc:c.callee= .builtin .append)(ht1:c.argTypes[0]? =some t1)(ht2:c.argTypes[1]? =some t2)(hu1:P.underlying t1=some (.slice el))(hu2:P.underlying t2=some (.slice el2))
 (hs:sizeOf? P el=some size)(hby:bytesOf? P el=some bytes)(hz:Yah P el=some z)(hzl:z.length=size)(hb0:0<bytes)(hs0:0<size)
 (hargs:c.args.map ρ= #[.slice a n cap,.slice ax m cx]) (hcap:YP (n+m) bytes) (hgrow:cap<n+m)
 (ho:(Builtin.firstCells size n (.slice a n cap)).run P w.drew= .ok old w.drew) (hn:(Builtin.firstCells size m (.slice ax m cx)).run P w.drew= .ok new w.drew):
 ∃nc rest,n+m<=nc/\(∀dst type pos after guard,(execOp ρ ⟨dst,.call c,type,pos,after,guard⟩).run P w=
  .ok (.value (.slice (some ⟨w.heap.size,0,none⟩) (n+m) nc)) (World.push w.drew (.cells (old++new++rest) el (0,0))))/\rest.size=(nc-(n+m))*size:=by
 unfold sizeOf? at hs
 obtain⟨i,hi,his⟩:=YGh.1 hs
 unfold bytesOf? at hby
 rw[hi]at hby
 simp only[Option.map_some,Option.some.injEq]at hby
 unfold Yah at hz
 rw[hi]at hz
 simp only[Option.bind_some]at hz
 obtain⟨zv,hzv,hzm⟩:=YGh.1 hz
 have hzs:zv.cells.size=size:=by rw[<-hzl,<-hzm];simp
 have hfit:=growslice_fits (bytes:=i.bytes) hgrow (by rw[hby];exact hcap)
 let nc:=(n+m)+w.tape w.drawn (.appendCap (n+m) cap el)%(2^63-(n+m))
 refine⟨nc,Builtin.zeroCells zv.cells (nc-(n+m)),Nat.le_add_right _ _,fun dst type pos after guard=>?_,by simp [Builtin.zeroCells,hzs]⟩
 have hty:(typeInfo el).run P w= .ok i w:=by simp [typeInfo,hi]
 have hty2:(typeInfo el).run P w.drew= .ok i w.drew:=by simp [typeInfo,hi]
 have hzr:(zeroValue el).run P w.drew= .ok zv w.drew:=by simp [zeroValue,typeInfo,hi,hzv]
 have hsz:(sizeOf el).run P w= .ok size w:=YA (by unfold sizeOf?;exact hs)
 have hng:¬(n+m<=cap):=by omega
 have hch:(choose (.appendCap (n+m) cap el)).run P w= .ok nc w.drew:=by
  rw[run_choose];simp only[Question.forced,YGC,if_false];rfl
 have hf1:¬((((n+m:Nat):Int)>IntKind.i64.max)/\(False\/i.bytes=0)):=by
  rintro⟨_,h|h⟩
  ·exact h
  ·omega
 have hf2:¬(Builtin.nextslicecap (n+m) cap*i.bytes>2^48):=by
  have:(2:Nat)^48=281474976710656:=by decide
  rw[this];omega
 have key:(Builtin.append_ c.argTypes type #[.slice a n cap,.slice ax m cx]).run P w= .ok (.slice (some ⟨w.heap.size,0,none⟩) (n+m) nc) (World.push w.drew (.cells (old++new++Builtin.zeroCells zv.cells (nc-(n+m))) el (0,0))):=by
  unfold Builtin.append_
  simp only[ht1,ht2,List.getElem?_toArray,List.getElem?_cons_zero,List.getElem?_cons_succ,Sem.run_bind,run_underlying hu1,run_underlying hu2,Result.andThen_ok,hsz,Sem.run_pure,YGC,if_false,Builtin.lenOf,hng,hf1,hty,hf2,hch,run_askRoom,ho,hn,hzr,newRow,run_newObj,Bool.not_false,if_true,Nat.add_eq]
  simp only[hf1,if_false,Sem.run_bind,hty,Result.andThen_ok,hf2,hch,hty2,run_askRoom,ho,hn,hzr,run_newObj,Sem.run_pure]
  rfl
 simp only[execOp,resolve,hc,Sem.run_bind,Sem.run_pure,Result.andThen_ok,invoke,builtin,hargs,key]
theorem Yok{c:Call}{t1 t2 el el2:TypeId}{size n cap m cx b off:Nat}{T:TypeId}{cs:Array Value}{ax:Option Addr}{new:Array Value}
 (hc:c.callee= .builtin .append)(ht1:c.argTypes[0]? =some t1)(ht2:c.argTypes[1]? =some t2)(hu1:P.underlying t1=some (.slice el))(hu2:P.underlying t2=some (.slice el2))
 (hs:sizeOf? P el=some size)(hargs:c.args.map ρ= #[.slice (some ⟨b,off,none⟩) n cap,.slice ax m cx]) (hgrow:n+m<=cap)
 (hn:(Builtin.firstCells size m (.slice ax m cx)).run P w= .ok new w) (hb:w.heap[b]? =some (.cells cs T (0,0))) (hl:off+n*size+new.size<=cs.size) (ho:∀u∈new.toList,u.oneCell'=true):
 ∃w' cs',(∀dst type pos after guard,(execOp ρ ⟨dst,.call c,type,pos,after,guard⟩).run P w= .ok (.value (.slice (some ⟨b,off,none⟩) (n+m) cap)) w')/\
  Wrote w w' b (.cells cs' T (0,0))/\cs'.toList=YJ cs.toList (off+n*size) new.toList:=by
 obtain⟨w',cs',hrun,hw,hcs⟩:=Yce (P:=P) (off:=off+n*size) (i:=0) (vs:=new.toList) hb (by simpa using hl) ho
 refine⟨w',cs',fun dst type pos after guard=>?_,hw,by simpa using hcs⟩
 have hsz:(sizeOf el).run P w= .ok size w:=YA hs
 have key:(Builtin.append_ c.argTypes type #[.slice (some ⟨b,off,none⟩) n cap,.slice ax m cx]).run P w= .ok (.slice (some ⟨b,off,none⟩) (n+m) cap) w':=by
  unfold Builtin.append_
  simp only[ht1,ht2,List.getElem?_toArray,List.getElem?_cons_zero,List.getElem?_cons_succ,Sem.run_bind,run_underlying hu1,run_underlying hu2,Result.andThen_ok,hsz,Sem.run_pure,YGC,if_false,Builtin.lenOf,hgrow,if_true,Bool.not_false,hn,Yai,hrun]
 simp only[execOp,resolve,hc,Sem.run_bind,Sem.run_pure,Result.andThen_ok,invoke,builtin,hargs,key]
theorem YgC{c:Call}{t1 t2 el el2:TypeId}{size cx:Nat}{ax:Option Addr}
 (hc:c.callee= .builtin .append)(ht1:c.argTypes[0]? =some t1)(ht2:c.argTypes[1]? =some t2)(hu1:P.underlying t1=some (.slice el))(hu2:P.underlying t2=some (.slice el2))
 (hs:sizeOf? P el=some size)(hargs:c.args.map ρ= #[.slice none 0 0,.slice ax 0 cx]):
 (∀dst type pos after guard,(execOp ρ ⟨dst,.call c,type,pos,after,guard⟩).run P w= .ok (.value (.slice none 0 0)) w):=by
 intro dst type pos after guard
 have hsz:(sizeOf el).run P w= .ok size w:=YA hs
 have hn:(Builtin.firstCells size 0 (.slice ax 0 cx)).run P w= .ok #[] w:=by cases ax <;> simp [Builtin.firstCells,loadCells,loadCellsFrom]
 have key:(Builtin.append_ c.argTypes type #[.slice none 0 0,.slice ax 0 cx]).run P w= .ok (.slice none 0 0) w:=by
  unfold Builtin.append_
  simp only[ht1,ht2,List.getElem?_toArray,List.getElem?_cons_zero,List.getElem?_cons_succ,Sem.run_bind,run_underlying hu1,run_underlying hu2,Result.andThen_ok,hsz,Sem.run_pure,YGC,if_false,Builtin.lenOf,if_true,Bool.not_false,hn,YHi,YGr]
 simp only[execOp,resolve,hc,Sem.run_bind,Sem.run_pure,Result.andThen_ok,invoke,builtin,hargs,key]
theorem Keeps.heap(h:w'.heap=w.heap):Keeps w bs w' bs:=fun b hf o ho=>⟨by rw[h];exact ho,hf⟩
theorem Hp.heap_eq(h:w'.heap=w.heap)(hH:Hp w bs B hp):Hp w' bs B hp:=
 ⟨hH.len,fun i=>(hH.ent i).keep (Keeps.heap h) Stays.refl rfl (fun _ _ _ _=>by rw[h]),hH.inj,fun i b c n hb=>by rw[h];exact hH.lo i b c n hb,YaJ (Keeps.heap h) hH.reg⟩
theorem Ysf{i:Nat}{s:SV}{v:Value}(hk:Keeps w bs w' bs')(hb:Stays (some i) bs bs')(h:Rep w bs B s v):Rep w' bs' B (Yd7 i s) v:=by
 unfold Yd7
 cases hr:refs i s with
 |true=>exact .x _ _ (.junk _)
 |false=>exact h.keep hk hb (fun j hj=>by cases hj;exact hr)
theorem Yak{i:Nat}(hk:Keeps w bs w' bs')(hb:Stays (some i) bs bs'):∀{l:List SV}{vs:List Value},RepL w bs B l vs->RepL w' bs' B (Yj i l) vs
 |_,_,.nil=> .nil
 |_,_,.cons x v l vs h h'=> .cons _ _ _ _ (Ysf hk hb h) (Yak hk hb h')
theorem Yhd{i:Nat}(hk:Keeps w bs w' bs')(hb:Stays (some i) bs bs'):∀{l:List (List SV)}{vs:List (List Value)},RepLL w bs B l vs->RepLL w' bs' B (Yhc i l) vs
 |_,_,.nil=> .nil
 |_,_,.cons x v l vs h h'=> .cons _ _ _ _ (Yak hk hb h) (Yhd hk hb h')
def Ye9(i:Nat):HO->HO
 | .box cs=> .box (Yj i cs)
 | .own z sz n get=> .own z sz n fun k=>Yj i (get k)
 | .smap l=> .smap l
 | .gone=> .gone
theorem YdO(i:Nat):∀(hp:List HO)(j:Nat),getH (YaI i hp) j=Ye9 i (getH hp j)
 | [],j=>by cases j <;> rfl
 |h::l,0=>by cases h <;> rfl
 |h::l,j+1=>by cases h <;> simpa [YaI,getH]using YdO i l j
theorem Yfy(i:Nat):∀(hp:List HO),lenH (YaI i hp)=lenH hp
 | []=>rfl
 |h::l=>by cases h <;> simp [YaI,lenH,Yfy i l]
theorem Yp4{i:Nat}{x:BK}{ho:HO}(hH:Hp w bs B hp)(hi:i<lenH hp)(hk:Keeps w bs w' (bs.set i x))(hsz:w.heap.size<=w'.heap.size)
 (hblk:∀j b c n,j≠i->bs[j]? =some (.blk b c n)->w'.heap[b]? =w.heap[b]?)
 (hx:∀b c n,x= .blk b c n->(B<=b/\b<w'.heap.size)/\∀j c' n',j≠i->bs[j]? ≠some (.blk b c' n'))
 (h:HRep w' (bs.set i x) B i ho):Hp w' (bs.set i x) B (setH (YaI i hp) i ho):=by
 have hl:=hH.len
 have hst:Stays (some i) bs (bs.set i x):=fun j y hj hy _=>by rw[List.getElem?_set_ne (fun he=>hj (by rw[he]))];exact hy
 have get_i:(bs.set i x)[i]? =some x:=by rw[List.getElem?_set_self (by omega)]
 have get_j:∀j,j≠i->(bs.set i x)[j]? =bs[j]? :=fun j hj=>List.getElem?_set_ne (fun he=>hj he.symm)
 refine⟨by rw[YcQ,Yfy];simpa using hl,fun j=>?_,fun j k b c n c' n' h1 h2=>?_,fun j b c n h1=>?_,YaJ hk hH.reg⟩
 ·by_cases hij:j=i
  ·subst hij;rw[YaQ _ _ _ (by rw[Yfy];exact hi)];exact h
  ·rw[YR _ _ _ _ (fun he=>hij he.symm),YdO]
   have hent:=hH.ent j
   cases hg:getH hp j with
   |gone=>rw[hg]at hent;simpa [Ye9,HRep,get_j j hij]using hent
   |box cs=>
    rw[hg]at hent
    obtain⟨b,vs,T,h1,h2,h3⟩:=hent
    exact⟨b,vs,T,by rw[get_j j hij];exact h1,by rw[hblk j _ _ _ hij h1];exact h2,Yak hk hst h3⟩
   |smap l=>
    rw[hg]at hent
    obtain⟨b,es,c,h1,h2,h3⟩:=hent
    exact⟨b,es,c,by rw[get_j j hij];exact h1,by rw[hblk j _ _ _ hij h1];exact h2,h3⟩
   |own z sz n get=>
    rw[hg]at hent
    rcases hent with⟨h1,h2,h3⟩ | ⟨b,cap,vs,T,h1,h2,h3,h4,h5,h6⟩
    ·exact .inl ⟨by rw[get_j j hij];exact h1,h2,h3⟩
    ·exact .inr ⟨b,cap,vs,T,by rw[get_j j hij];exact h1,h2,by rw[hblk j _ _ _ hij h1];exact h3,h4,h5,fun k hk'=>Yak hk hst (h6 k hk')⟩
 ·by_cases hj:j=i <;> by_cases hk':k=i
  ·omega
  ·subst hj
   rw[get_i]at h1;cases h1
   rw[get_j k hk']at h2
   exact absurd h2 ((hx b c n rfl).2 k c' n' hk')
  ·subst hk'
   rw[get_i]at h2;cases h2
   rw[get_j j hj]at h1
   exact absurd h1 ((hx b c' n' rfl).2 j c n hj)
  ·rw[get_j j hj]at h1;rw[get_j k hk']at h2
   exact hH.inj j k b c n c' n' h1 h2
 ·by_cases hj:j=i
  ·subst hj
   rw[get_i]at h1;cases h1
   exact(hx b c n rfl).1
  ·rw[get_j j hj]at h1
   have:=hH.lo j b c n h1
   exact⟨this.1,by omega⟩
theorem YoB(hH:Hp w bs B hp){z:Bool}{size n:Nat}{get:Nat->List SV}(hz:z=true)(hn:n=0):Hp w (bs++[.nil]) B (Ybt hp (.own z size n get)):=by
 have hst:∀e,Stays e bs (bs++[.nil]):=fun e=>Yw _ _
 have hk:Keeps w bs w (bs++[.nil]):=by
  intro b hf o ho
  refine⟨ho,fun i b' c m h=>?_⟩
  rw[YHs]at h
  split at h
  ·exact hf i b' c m h
  ·rw[List.getElem?_singleton]at h;split at h <;> cases h
 have hget:∀(i b c m:Nat),(bs++[BK.nil])[i]? =some (.blk b c m)->bs[i]? =some (.blk b c m):=by
  intro i b c m h
  rw[YHs]at h
  split at h
  ·exact h
  ·rw[List.getElem?_singleton]at h;split at h <;> cases h
 refine⟨by simp [hH.len,Ya3],fun i=>?_,fun i j b c m c' m' h1 h2=>hH.inj i j b c m c' m' (hget _ _ _ _ h1) (hget _ _ _ _ h2),fun i b c m h1=>hH.lo i b c m (hget _ _ _ _ h1),YaJ hk hH.reg⟩
 rcases Nat.lt_trichotomy i (lenH hp)with hi|hi|hi
 ·rw[Y2 _ _ _ hi]
  exact(hH.ent i).keep hk (hst _) (by rw[YGR (by rw[hH.len];exact hi)]) (fun _ _ _ _=>rfl)
 ·subst hi;rw[Ya1];exact .inl ⟨Y4 hH,hz,hn⟩
 ·rw[Ybb _ _ (by rw[Ya3];omega)]
  right
  rw[List.getElem?_eq_none];simp [hH.len];omega
theorem Yrg:Keeps w bs w (bs++[.nil]):=by
 intro b hf o ho
 refine⟨ho,fun i b' c m h=>?_⟩
 rw[YHs]at h
 split at h
 ·exact hf i b' c m h
 ·rw[List.getElem?_singleton]at h;split at h <;> cases h
end
end Go.Vx
