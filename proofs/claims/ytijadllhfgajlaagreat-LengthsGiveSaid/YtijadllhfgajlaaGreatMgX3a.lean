/- A symbolic executor for the walk: an intermediate form of the code (types resolved), symbolic values, states, and the executor 'run', a function into Prop that dsimp evaluates. Its soundness stands in the next text. -/
import Derived.WalkKit
import Derived.ChangeKeysEq
open Array renaming getElem?_eq_some_iff->YG5
open Bool renaming and_eq_true->YGA,eq_iff_iff->YHK,false_eq_true->YGM,not_eq_true'->YGP
open List renaming getD_eq_getElem?_getD->YGB,getElem?_append->YHB,getElem?_append_left->YG4,getElem?_take->YHt,length_append->YHo,length_cons->YHF,length_take->YHi,map_cons->YG6,mem_append->YG2,mem_cons->YGQ
open Nat renaming add_mul->YG8,add_zero->YHw,beq->YHf,div_add_mod->YG3,eq_of_beq_eq_true->YGW,le_of_eq->YHM,le_of_lt->YHp,le_refl->YGH,le_trans->YGF,lt_or_ge->YGN,mul_comm->YGC,mul_le_mul_right->YGD,succ_mul->YHN,zero_add->YHC
open Option renaming bind_eq_some_iff->YGx,map_eq_some_iff->YGz
set_option linter.all false
namespace Go.Vx
inductive IK where
 |ints (n:Nat) (C:Nat->Int->Prop)
 |map (kk:List IntKind) (C:List Int->Int->Prop)
inductive SV where
 |int (k:IntKind) (n:Int)
 |bool (b:Bool)
 |val (v:Value)
 |nil
 |agg (cs:List SV)
 |tup (cs:List SV)
 |vs (t z:Bool) (n size:Nat) (get:Nat->List SV)
 |xp (t:Bool) (cells:List SV)
 |ptr (i off:Nat)
 |own (i lo n size:Nat)
 |elem (i k off size:Nat)
 |fn (f:Fn) (first cap:List SV)
 |iface (t:TypeId) (v:SV)
 |opt (b:Bool) (v:SV)
 |cut (v:SV)
 |row (n:Nat) (C:Nat->Int->Prop)
 |rcell (C:Int->Prop)
 |imap (kk:List IntKind) (C:List Int->Int->Prop)
 |smp (i:Nat)
 |junk
 deriving Inhabited
inductive HO where
 |box (cells:List SV)
 |own (z:Bool) (size n:Nat) (get:Nat->List SV)
 |smap (l:List (List UInt8))
 |gone
inductive X where
 |tm (n:Nat)
 |cn (v:SV)
inductive Cmp where
 |eql|neq|lss|leq|gtr|geq
inductive Ari where
 |add|sub|mul
inductive Bit where
 |and|or|xor|andNot
inductive VO where
 |mov
 |and|or
 |alloc (cells:List SV)
 |allocArr (n size:Nat) (cells:List SV)
 |box
 |build (zero:List SV) (parts:List (Nat×Nat))
 |buildSlice (size len:Nat) (zero:List SV) (parts:List (Nat×Nat))
 |load (agg:Bool) (size:Nat)
 |store (size:Nat)
 |ari (o:Ari)
 |cmp (o:Cmp)
 |bit (o:Bit)
 |quo|rem|shl|shr
 |not|neg
 |conv (k:IntKind)
 |len|lenStr|lenArr (n:Nat) |min|max
 |append (size bytes:Nat) (zero:List SV)
 |fieldAddr (off:Nat)
 |field (agg:Bool) (off size:Nat)
 |idxAddr (size:Nat)
 |idxArr (n size:Nat)
 |index (agg:Bool) (n size:Nat)
 |slice (size:Nat) (lo hi:Bool)
 |slice3 (size:Nat)
 |sliceArr (n size:Nat) (lo hi:Bool)
 |make (size bytes:Nat) (zero:List SV)
 |call (f:FuncId)
 |callv
 |mkfn (fn:Fn) (nfirst:Nat)
 |ext (i:Nat)
 |iface (t:TypeId)
 |invoke (name:String)
 |eqb (neg:Bool)
 |eqv (neg:Bool) (ks:List Bool)
 |isNil (neg:Bool)
 |addc
 |nilCheck
 |idxStr
 |eqStr (neg:Bool)
 |mkSet
 |setAdd
 |lenSet
 |mkMap (kk:List IntKind)
 |mapGet (kk:List IntKind)
 |mapPut (kk:List IntKind)
structure VOp where
 dst:Option Nat
 g:Option (Nat×Bool)
 op:VO
 xs:List X
@[reducible] def u0 (o:VO) (x:List X):VOp:=⟨none,none,o,x⟩
@[reducible] def u1 (d:Nat) (o:VO) (x:List X):VOp:=⟨some d,none,o,x⟩
@[reducible] def u2 (d g:Nat) (b:Bool) (o:VO) (x:List X):VOp:=⟨some d,some (g,b),o,x⟩
inductive AL where
 |box (z:List SV)
 |arr (n size:Nat) (z:List SV)
structure DOp where
 op:VOp
 chk:List X
@[reducible] def w0 (o:VO) (x:List X):DOp:=⟨⟨none,none,o,x⟩,[]⟩
@[reducible] def w1 (d:Nat) (o:VO) (x:List X):DOp:=⟨⟨some d,none,o,x⟩,[]⟩
inductive DTr where
 |leaf
 |ops (l:List DOp) (t:DTr)
 |br (a b:DTr)
inductive VC where
 |region (l:List VOp)
 |draw (al:List (Nat×AL)) (l:List DOp)
 |drawT (al:List (Nat×AL)) (t:DTr)
 |rangeFn (g:X) (ps:List Nat) (a b:VC)
 |seq (a b:VC)
 |cond (x:X) (a b:VC)
 |block (id:Nat) (c:VC)
 |scope (c:VC)
 |loop (c:VC)
 |exit (id:Nat)
 |ret
 |skip
 |stuck
inductive VR where
 |tmp (t:Nat)
 |cell (t:Nat) (agg:Bool) (size:Nat)
structure VF where
 ntmps:Nat
 res:List VR
 body:VC
def Yf7:Value->SV
 | .int k n=> .int k n
 | .bool b=> .bool b
 | .slice none 0 0=> .nil
 |v=> .val v
def svOf:Value->SV
 | .agg cs=> .agg (cs.toList.map Yf7)
 |v=>Yf7 v
def X.of:Operand->Option X
 | .tmp t=>some (.tm t)
 | .const v=>some (.cn (svOf v))
 | .func f=>some (.cn (.fn (.func f) [] []))
 | .global _=>none
def X.ofs:List Operand->Option (List X)
 | []=>some []
 |x::l=>(X.of x).bind fun y=>(X.ofs l).map (y::·)
def Yaj(P:Program)(t:TypeId):Option (List SV):=
 (P.info? t).bind fun i=>i.zero.map fun v=>v.cells.toList.map Yf7
def Yet(P:Program)(t:TypeId):Option Bool:=
 (P.underlying t).map fun| .struct _=>true| .array _ _=>true|_=>false
def sizeOf?(P:Program)(t:TypeId):Option Nat:=(P.info? t).map (·.size)
def bytesOf?(P:Program)(t:TypeId):Option Nat:=(P.info? t).map (·.bytes)
def Ylr(P:Program)(t:TypeId):Bool:=
 match P.underlying t with
 |some (.int _)=>true
 |some .bool=>true
 |_=>false
def Yj5(P:Program)(t:TypeId):Bool:=
 match P.info? t with
 |some i=>i.size==1
 |none=>false
def Yra(P:Program)(t:TypeId):Bool:=
 match P.underlying t with
 |some (.int _)=>true
 |_=>false
def Ygy(P:Program)(t:TypeId):Bool:=
 match P.underlying t with
 |some .bool=>true
 |_=>false
def Yfo(P:Program)(t:TypeId):Bool:=
 match P.underlying t with
 |some (.slice _)=>true
 |_=>false
def Ygd(P:Program)(t:TypeId):Option Bool:=
 match P.underlying t with
 |some (.int _)=>some true
 |some .bool=>some false
 |_=>none
def YeH(P:Program):Nat->List Field->Option (List Bool)
 |_,[]=>some []
 |k,f::fs=>if Yj5 P f.type&&f.offset==k&&f.name != "_" then(Ygd P f.type).bind fun b=>(YeH P (k+1) fs).map (b::·)else none
def repK:Nat->Bool->List Bool
 |0,_=>[]
 |n+1,b=>b::repK n b
def YgJ(P:Program)(t:TypeId):Option (List Bool):=
 match P.underlying t with
 |some (.array n e)=>if !P.eqGuardType P.depth t&&Yj5 P e then(Ygd P e).map (repK n)else none
 |some (.struct fs)=>if !P.stoodInHeld t&& !P.eqGuardType P.depth t then YeH P 0 fs.toList else none
 |_=>none
def Yj8(P:Program)(t:TypeId):Bool:=
 match P.underlying t with
 |some .string=>true
 |_=>false
def Yf0(P:Program)(t:TypeId):Bool:=
 match P.underlying t with
 |some (.map k e)=>Yj8 P k&&(match P.underlying e with|some (.struct fs)=>fs.isEmpty|_=>false)
 |_=>false
def Ydj(P:Program):Nat->List Field->Option (List IntKind)
 |_,[]=>some []
 |k,f::fs=>if Yj5 P f.type&&f.offset==k&&f.name != "_" then
     match P.underlying f.type with
     |some (.int kd)=>(Ydj P (k+1) fs).map (kd::·)
     |_=>none
   else none
def YwN(P:Program)(t:TypeId):Bool:=
 match P.info? t with
 |some i=>match i.zero with
   |some (.int .i64 0)=>true
   |_=>false
 |none=>false
def Ycf(P:Program)(t:TypeId):Option (List IntKind):=
 match P.underlying t with
 |some (.map k e)=>match P.underlying k with
   |some (.struct fs)=>if YwN P e&& !P.stoodInHeld k then Ydj P 0 fs.toList else none
   |_=>none
 |_=>none
def fieldsOf(P:Program)(t:TypeId):Option (List Field):=
 match P.underlying t with
 |some (.struct fs)=>some fs.toList
 |_=>none
def Yfc(P:Program)(t:TypeId):Option (List (Nat×Nat)):=
 match P.underlying t with
 |some (.struct fs)=>fs.toList.mapM fun f=>(sizeOf? P f.type).map fun s=>(f.offset,s)
 |some (.array n e)=>(sizeOf? P e).map fun s=>(List.range n).map fun i=>(i*s,s)
 |_=>none
def vcmp:BinOp->Option Cmp
 | .eql=>some .eql| .neq=>some .neq| .lss=>some .lss| .leq=>some .leq| .gtr=>some .gtr| .geq=>some .geq
 |_=>none
def vbin(P:Program)(op:BinOp)(t:TypeId):Option VO:=
 match op with
 | .add=>if Ylr P t then some (.ari .add)else none
 | .sub=>if Ylr P t then some (.ari .sub)else none
 | .mul=>some (.ari .mul)
 | .quo=>some .quo
 | .rem=>some .rem
 | .and=>some (.bit .and)
 | .or=>some (.bit .or)
 | .xor=>some (.bit .xor)
 | .andNot=>some (.bit .andNot)
 | .shl=>some .shl
 | .shr=>some .shr
 | .eql=>if Yra P t then some (.cmp .eql)else if Ygy P t then some (.eqb false)else if Yj8 P t then some (.eqStr false)else(YgJ P t).map (.eqv false)
 | .neq=>if Yra P t then some (.cmp .neq)else if Ygy P t then some (.eqb true)else if Yj8 P t then some (.eqStr true)else(YgJ P t).map (.eqv true)
 | .lss=>some (.cmp .lss)
 | .leq=>some (.cmp .leq)
 | .gtr=>some (.cmp .gtr)
 | .geq=>some (.cmp .geq)
def Yrb(P:Program)(f:FuncId):Bool:=
 match P.funcs[f]? with
 |some fn=>fn.body.isNone&&fn.name== "math/bits.Add64" &&fn.origin== ""
 |none=>false
def chk(g:Bool)(s:Nat):Bool:=g|| s==1
def vop(P:Program)(o:Oper):Option (VO×List Operand):=
 match o.op with
 | .move x| .assign x=>some (.mov,[x])
 | .nilCheck x=>some (.nilCheck,[x])
 | .makeMap t r=>match r with
   |none=>(Ycf P t).map fun kk=>(.mkMap kk,[])
   |some h=>if Yf0 P t then some (.mkSet,[h])else none
 | .mapUpdate t m k x=>if Yf0 P t then some (.setAdd,[m,k,x])else(Ycf P t).map fun kk=>(.mapPut kk,[m,k,x])
 | .lookup t m k true=>(Ycf P t).map fun kk=>(.mapGet kk,[m,k])
 | .pick c a (.const (.bool false))=>some (.and,[c,a])
 | .pick c (.const (.bool true)) b=>some (.or,[c,b])
 | .alloc e=>
   match P.underlying e with
   |some (.array n t)=>(Yaj P e).bind fun z=>(sizeOf? P t).map fun s=>(.allocArr n s z,[])
   |_=>(Yaj P e).map fun z=>(.alloc z,[])
 | .box _ x=>some (.box,[x])
 | .build t parts=>(Yaj P t).bind fun z=>(Yfc P t).bind fun pl=>if parts.toList.all (fun x=>decide (x.1<pl.length))then some (.build z (parts.toList.map fun p=>pl.getD p.1 (0,0)),parts.toList.map (·.2))else none
 | .load t a=>(Yet P t).bind fun g=>(sizeOf? P t).bind fun s=>if chk g s then some (.load g s,[a])else none
 | .store t a x=>(sizeOf? P t).map fun s=>(.store s,[a,x])
 | .binOp .eql t x (.const (.slice none 0 0)) _=>if Yfo P t then some (.isNil false,[x,.const (.slice none 0 0)])else none
 | .binOp .neq t x (.const (.slice none 0 0)) _=>if Yfo P t then some (.isNil true,[x,.const (.slice none 0 0)])else none
 | .binOp op t x y _=>(vbin P op t).map fun v=>(v,[x,y])
 | .unOp .not _ x=>some (.not,[x])
 | .unOp .neg _ x=>some (.neg,[x])
 | .convert s d x=>match P.underlying s,P.underlying d with
   |some _,some (.int k)=>some (.conv k,[x])
   |_,_=>none
 | .fieldAddr s x f=>(fieldsOf P s).bind fun fs=>(fs[f]?).bind fun fd=>(sizeOf? P fd.type).bind fun z=>if z=0 then none else some (.fieldAddr fd.offset,[x])
 | .field s x f=>(fieldsOf P s).bind fun fs=>(fs[f]?).bind fun fd=>(sizeOf? P fd.type).bind fun z=>(Yet P fd.type).bind fun g=>if chk g z then some (.field g fd.offset z,[x])else none
 | .indexAddr t x i=>match P.underlying t with
   |some (.slice e)=>(sizeOf? P e).map fun s=>(.idxAddr s,[x,i])
   |some (.array n e)=>(sizeOf? P e).map fun s=>(.idxArr n s,[x,i])
   |_=>none
 | .index t x i=>match P.underlying t with
   |some (.array n e)=>(sizeOf? P e).bind fun s=>(Yet P e).bind fun g=>if chk g s then some (.index g n s,[x,i])else none
   |some .string=>some (.idxStr,[x,i])
   |_=>none
 | .slice t x lo hi none=>match P.underlying t with
   |some (.slice e)=>(sizeOf? P e).map fun s=>(.slice s lo.isSome hi.isSome,x::(lo.toList++hi.toList))
   |some (.array n e)=>(sizeOf? P e).map fun s=>(.sliceArr n s lo.isSome hi.isSome,x::(lo.toList++hi.toList))
   |_=>none
 | .slice t x none (some hi) (some mx)=>match P.underlying t with
   |some (.slice e)=>(sizeOf? P e).map fun s=>(.slice3 s,[x,hi,mx])
   |_=>none
 | .makeSlice t l c=>match P.underlying t with
   |some (.slice e)=>(sizeOf? P e).bind fun s=>(bytesOf? P e).bind fun b=>(Yaj P e).bind fun z=>if 0<b/\0<s then some (.make s b z,[l,c])else none
   |_=>none
 | .buildSlice t n parts=>match P.underlying t with
   |some (.slice e)=>(sizeOf? P e).bind fun s=>(Yaj P e).bind fun z=>if n*s<=16777216 then some (.buildSlice s n z (parts.toList.map fun p=>(p.1*s,s)),parts.toList.map (·.2))else none
   |_=>none
 | .makeFunc fn first cap=>some (.mkfn fn first.size,first.toList++cap.toList)
 | .makeInterface t x=>match P.underlying t with
   |some (.interface _)=>none
   |some _=>some (.iface t,[x])
   |none=>none
 | .extract x i=>some (.ext i,[x])
 | .call c=>match c.callee with
   | .value (.func f)=>if Yrb P f then some (.addc,c.args.toList)else some (.call f,c.args.toList)
   | .value x=>some (.callv,x::c.args.toList)
   | .invoke x name=>some (.invoke name,x::c.args.toList)
   | .builtin .len=>match c.argTypes[0]?.bind P.underlying with
     |some (.slice _)=>some (.len,c.args.toList)
     |some (.string)=>some (.lenStr,c.args.toList)
     |some (.array n _)=>some (.lenArr n,c.args.toList)
     |some (.map _ _)=>some (.lenSet,c.args.toList)
     |_=>none
   | .builtin .min=>some (.min,c.args.toList)
   | .builtin .max=>some (.max,c.args.toList)
   | .builtin .append=>match c.argTypes[0]?.bind P.underlying,c.argTypes[1]?.bind P.underlying with
     |some (.slice e),some (.slice _)=>(sizeOf? P e).bind fun s=>(bytesOf? P e).bind fun b=>(Yaj P e).bind fun z=>if 0<b/\0<s/\z.length=s then some (.append s b z,c.args.toList)else none
     |_,_=>none
   | .builtin _=>none
 |_=>none
def VO.isCall:VO->Bool
 | .call _| .callv| .invoke _=>true
 |_=>false
def Ybv:Op->Bool
 | .call c=>match c.callee with
   | .builtin _=>false
   |_=>true
 |_=>false
def YlI(ops:Array Oper)(j:Nat):Option Nat:=(ops[j]?).bind (·.dst)
def Ygu(P:Program)(ops:Array Oper)(o:Oper):Option VOp:=
 (vop P o).bind fun(v,xs)=>(X.ofs xs).bind fun ys=>
   if v.isCall&& !Ybv o.op then none else
   match o.guard with
   |none=>some { dst:=o.dst,g:=none,op:=v,xs:=ys}
   |some (j,b)=>(YlI ops j).map fun s=>{ dst:=o.dst,g:=some (s,b),op:=v,xs:=ys}
def YaR(P:Program)(ops:Array Oper):List Oper->Option (List VOp)
 | []=>some []
 |o::l=>(Ygu P ops o).bind fun v=>(YaR P ops l).map (v::·)
def X.slot:X->List Nat
 | .tm n=>[n]
 | .cn _=>[]
def YX:List X->List Nat
 | []=>[]
 |x::l=>x.slot++YX l
def VOp.reads(v:VOp):List Nat:=YX v.xs++(match v.g with|some (g,_)=>[g] |none=>[])
def VO.readsHp:VO->Bool
 | .load _ _| .idxArr _ _| .sliceArr _ _ _ _| .isNil _=>true
 |_=>false
def VO.isStore:VO->Bool
 | .store _=>true
 |_=>false
def VO.isAppend:VO->Bool
 | .append _ _ _=>true
 |_=>false
def YcI:List X->X
 | []=> .cn .junk
 |x::_=>x
def VO.quiet:VO->Bool
 | .alloc _| .allocArr _ _ _| .box| .buildSlice _ _ _ _| .store _| .make _ _ _| .append _ _ _| .call _| .callv| .invoke _| .mkSet| .setAdd| .lenSet| .mkMap _| .mapGet _| .mapPut _=>false
 |_=>true
inductive DT where
 |silent (d:Nat)
 |op (v:VOp) (chk:List (Nat×X))
 |loud (v:VOp)
def disj(d:Option Nat)(l:List Nat):Bool:=
 match d with
 |some n=>!l.contains n
 |none=>true
def xeq:X->X->Bool
 | .tm n,.tm m=>YHf n m
 |_,_=>false
def YqC:SV->Bool
 | .int _ _=>true
 | .bool _=>true
 | .nil=>true
 | .val _=>true
 |_=>false
def Yg4:List SV->Bool
 | []=>true
 |x::l=>YqC x&&Yg4 l
def Ywc(i:Nat)(chk:List (Nat×X))(x:X):Bool:=chk.any fun c=>YHf c.1 i&&xeq c.2 x
def covX(i:Nat)(chk:List (Nat×X)):X->Bool
 | .tm n=>Ywc i chk (.tm n)
 | .cn v=>YqC v
def YCH(i:Nat)(v:VOp)(chk:List (Nat×X)):Bool:=
 disj v.dst v.reads&&v.xs.all (covX i chk)&&(match v.g with|some (g,_)=>covX i chk (.tm g) |none=>true)&&(match v.dst with|some d=>covX i chk (.tm d) |none=>false)
def YqG(clo:Nat->Nat->Bool)(i:Nat)(v:VOp)(j:Nat)(t:DT):Bool:=
 YHf i j|| clo j i|| clo i j||
 match t with
 | .silent _=>true
 | .loud _=>false
 | .op u chk=>disj v.dst u.reads&&disj v.dst u.dst.toList&&disj u.dst v.reads&&(!u.op.isAppend|| YCH i v chk)&&
     chk.all (fun c=>disj v.dst c.2.slot|| clo c.1 i|| YHf c.1 i)&&
     (!u.op.isStore|| !v.op.readsHp|| (disj v.dst (YcI v.xs).slot&&chk.any fun c=>YHf c.1 i&&xeq c.2 (YcI v.xs)))
def Yk9(md:Region.Mode):List Edge->Nat
 | []=>0
 |e::l=>bif Region.binds md e then 2^e.on||| Yk9 md l else Yk9 md l
def YG(md:Region.Mode)(ops:Array Oper):List Nat:=ops.toList.map fun o=>Yk9 md o.after.toList
def Ydp(cl:List Nat)(m:Nat):Nat->Nat
 |0=>0
 |k+1=>bif m.testBit k then cl.getD k 0||| Ydp cl m k else Ydp cl m k
def YqD:List Nat->Nat->List Nat->List Nat
 | [],_,cl=>cl
 |m::l,j,cl=>YqD l (j+1) (cl++[m||| Ydp cl m j])
def clos(dm:List Nat):List Nat:=YqD dm 0 []
def Yf8(dm cl:List Nat):Nat->Bool
 |0=>true
 |j+1=>YHf (cl.getD j 0) (dm.getD j 0||| Ydp cl (dm.getD j 0) j)&&Yf8 dm cl j
def Ybn(dm:List Nat)(m i:Nat):Bool:=!m.testBit i&&YHf (dm.getD i 0&&&m) (dm.getD i 0)
def Ydk(dm:List Nat)(m:Nat):Nat->Bool
 |0=>true
 |k+1=>!Ybn dm m k&&Ydk dm m k
def Ydn(dm:List Nat)(m i:Nat):Nat->Bool
 |0=>true
 |k+1=>(YHf k i|| !Ybn dm m k)&&Ydn dm m i k
def seqB(free:Nat->Bool)(dm:List Nat)(n:Nat):List Nat->Nat->Bool
 | [],m=>Ydk dm m n
 |i::l,m=>Nat.ble (i+1) n&&Ybn dm m i&&(free i|| Ydn dm m i n)&&seqB free dm n l (m||| 2^i)
def YaD(cl:List Nat)(j i:Nat):Bool:=(cl.getD j 0).testBit i
def lenE:List SV->Nat
 | []=>0
 |_::l=>lenE l+1
def Y0(v:VOp):Option (Nat×AL):=
 match v with
 | ⟨some d,none,.alloc z,_⟩=>some (d,.box z)
 | ⟨some d,none,.allocArr n size z,_⟩=>bif YHf (lenE z) (n*size)then some (d,.arr n size z)else none
 |_=>none
def YuA(clo:Nat->Nat->Bool)(j:Nat):List VOp->Nat->List (Nat×X)
 | [],_=>[]
 |v::l,i=>bif v.op.quiet&&v.op.readsHp&& !clo i j&& !clo j i then(i,YcI v.xs)::YuA clo j l (i+1)else YuA clo j l (i+1)
def tms(i:Nat):List X->List (Nat×X)
 | []=>[]
 | .tm n::l=>(i,.tm n)::tms i l
 | .cn _::l=>tms i l
def apcOf(i:Nat)(v:VOp):List (Nat×X):=
 tms i v.xs++(match v.g with|some (g,_)=>[(i,.tm g)] |none=>[])++(match v.dst with|some d=>[(i,.tm d)] |none=>[])
def Yun(clo:Nat->Nat->Bool)(j:Nat):List VOp->Nat->List (Nat×X)
 | [],_=>[]
 |v::l,i=>bif v.op.quiet&& !clo i j&& !clo j i then apcOf i v++Yun clo j l (i+1)else Yun clo j l (i+1)
def Ybt(P:Program)(f:FuncId):Bool:=
 match P.funcs[f]? with
 |some fn=>match fn.params[0]?,fn.resultTypes[0]? with
   |some t,some u=>YHf t u&&(match P.underlying t with|some (.pointer _)=>true|_=>false)
   |_,_=>false
 |none=>false
def Yhl(lf:FuncId->Bool)(v:VOp):Bool:=
 match v with
 | ⟨_,none,.call f,_⟩=>lf f
 |_=>false
def Ybk(lf:FuncId->Bool)(clo:Nat->Nat->Bool)(all:List VOp):List VOp->Nat->List DT
 | [],_=>[]
 |v::l,j=>(match Y0 v with
   |some (d,_)=> .silent d
   |none=>bif Yhl lf v then .loud v else .op v (bif v.op.isStore then YuA clo j all 0 else bif v.op.isAppend then Yun clo j all 0 else []))::Ybk lf clo all l (j+1)
def Yc3:List VOp->Nat->List (Nat×Nat×AL)
 | [],_=>[]
 |v::l,j=>match Y0 v with
   |some (d,z)=>(j,d,z)::Yc3 l (j+1)
   |none=>Yc3 l (j+1)
def Yg5(clo:Nat->Nat->Bool)(i:Nat)(v:VOp):List DT->Nat->Bool
 | [],_=>true
 |t::l,j=>YqG clo i v j t&&Yg5 clo i v l (j+1)
def YyF(clo:Nat->Nat->Bool)(tab:List DT)(i:Nat):Bool:=
 match tab[i]? with
 |some (.silent _)=>true
 |some (.op v [])=>v.op.quiet&&Yg5 clo i v tab 0
 |_=>false
def YhT(clo:Nat->Nat->Bool)(tab:List DT):Nat->Nat->List Bool
 |0,_=>[]
 |n+1,i=>YyF clo tab i::YhT clo tab n (i+1)
def Yex:List Nat->Nat->Bool
 | [],_=>true
 |m::l,j=>Nat.blt m (2^j)&&Yex l (j+1)
def pick(ok:Nat->Bool):Nat->Nat->Option Nat
 |0,_=>none
 |n+1,i=>bif ok i then some i else pick ok n (i+1)
def Ymt(fr:List Bool)(dm:List Nat)(n:Nat):Nat->Nat->List Nat
 |0,_=>[]
 |k+1,m=>match pick (fun i=>fr.getD i false&&Ybn dm m i) n 0 with
   |some i=>i::Ymt fr dm n k (m||| 2^i)
   |none=>match pick (Ybn dm m) n 0 with
     |some i=>i::Ymt fr dm n k (m||| 2^i)
     |none=>[]
def AL.clean:AL->Bool
 | .box z=>Yg4 z
 | .arr _ _ z=>Yg4 z
def Yfn(clo:Nat->Nat->Bool)(sil:List (Nat×Nat×AL)):List DT->Nat->Bool
 | [],_=>true
 | .silent _::l,j=>Yfn clo sil l (j+1)
 | .loud _::l,j=>(match sil with| []=>true|_=>false)&&Yfn clo sil l (j+1)
 | .op v _::l,j=>sil.all (fun x=>(clo j x.1|| (!v.reads.contains x.2.1&&(!v.op.isAppend|| x.2.2.clean)))&& !(v.dst.toList.contains x.2.1))&&Yfn clo sil l (j+1)
inductive OT where
 |nil
 |op (i:Nat) (t:OT)
 |br (a b:OT)
def OT.heads:OT->List Nat
 | .nil=>[]
 | .op i _=>[i]
 | .br a b=>a.heads++b.heads
def OT.len:OT->Nat
 | .nil=>0
 | .op _ t=>t.len+1
 | .br a _=>a.len
def Ynm(dm:List Nat)(m:Nat)(hs:List Nat):Nat->Bool
 |0=>true
 |k+1=>(hs.contains k|| !Ybn dm m k)&&Ynm dm m hs k
def Ycx(free:Nat->Bool)(dm:List Nat)(n:Nat):OT->Nat->Bool->Bool
 | .nil,m,ex=>!ex&&Ydk dm m n
 | .op i t,m,ex=>Nat.ble (i+1) n&&Ybn dm m i&&(ex|| free i|| Ydn dm m i n)&&Ycx free dm n t (m||| 2^i) false
 | .br a b,m,ex=>(ex|| Ynm dm m (a.heads++b.heads) n)&&YHf a.len b.len&&Ycx free dm n a m true&&Ycx free dm n b m true
def Ywz(dm:List Nat)(m:Nat):Nat->List Nat
 |0=>[]
 |k+1=>Ywz dm m k++(bif Ybn dm m k then [k]else [])
def brs:List OT->OT
 | []=> .nil
 | [t]=>t
 |t::l=> .br t (brs l)
def YsO(fr:List Bool)(dm:List Nat)(n:Nat):Nat->Nat->OT
 |0,_=> .nil
 |k+1,m=>match pick (fun i=>fr.getD i false&&Ybn dm m i) n 0 with
   |some i=> .op i (YsO fr dm n k (m||| 2^i))
   |none=>brs ((Ywz dm m n).map fun i=> .op i (YsO fr dm n k (m||| 2^i)))
def Yci:List Nat->Bool
 | []=>true
 |d::l=>!l.contains d&&Yci l
def YkQ(tab:List DT):List Nat->List DOp
 | []=>[]
 |i::l=>match tab[i]? with
   |some (.op v chk)=>⟨v,chk.map (·.2)⟩::YkQ tab l
   |some (.loud v)=>⟨v,[]⟩::YkQ tab l
   |_=>YkQ tab l
def Yeu:List Oper->List VOp->Bool
 |o::os,v::vs=>(match Y0 v with
   |some _=>match o.op with
     | .alloc _=>true
     |_=>false
   |none=>true)&&Yeu os vs
 |_,_=>true
def Ynq(P:Program)(ops:Array Oper):Option (List (Nat×AL)×List DOp):=
 (YaR P ops ops.toList).bind fun vs=>
   let dm:=YG .any ops
   let cl:=clos dm
   let tab:=Ybk (Ybt P) (YaD cl) vs vs 0
   let sil:=Yc3 vs 0
   let fr:=YhT (YaD cl) tab ops.size 0
   let order:=Ymt fr dm ops.size ops.size 0
   if Yeu ops.toList vs&&YHf cl.length ops.size&&Yf8 dm cl ops.size&&Yex dm 0&&Yfn (YaD cl) sil tab 0&&Yci (sil.map (·.2.1))&&YHf order.length ops.size&&seqB (fun i=>fr.getD i false) dm ops.size order 0 then
     some (sil.map (·.2),YkQ tab order)
   else none
def YoD(tab:List DT):OT->DTr
 | .nil=> .leaf
 | .op i t=> .ops (YkQ tab [i]) (YoD tab t)
 | .br a b=> .br (YoD tab a) (YoD tab b)
def Yjm(P:Program)(ops:Array Oper):Option (List (Nat×AL)×DTr):=
 (YaR P ops ops.toList).bind fun vs=>
   let dm:=YG .any ops
   let cl:=clos dm
   let tab:=Ybk (Ybt P) (YaD cl) vs vs 0
   let sil:=Yc3 vs 0
   let fr:=YhT (YaD cl) tab ops.size 0
   let t:=YsO fr dm ops.size ops.size 0
   if Yeu ops.toList vs&&YHf cl.length ops.size&&Yf8 dm cl ops.size&&Yex dm 0&&Yfn (YaD cl) sil tab 0&&Yci (sil.map (·.2.1))&&YHf t.len ops.size&&Ycx (fun i=>fr.getD i false) dm ops.size t 0 false then
     some (sil.map (·.2),YoD tab t)
   else none
def YC7(P:Program)(ops:Array Oper):VC:=
 match Ynq P ops with
 |some r=> .draw r.1 r.2
 |none=>match Yjm P ops with
   |some r=> .drawT r.1 r.2
   |none=> .stuck
def YcA(P:Program):Code->Option VC
 | .skip=>some .skip
 | .region _ ops draw=>if draw then some (YC7 P ops)else match YaR P ops ops.toList with|some l=>some (.region l) |none=>some .stuck
 | .rangeFunc g ps a b=>(X.of g).bind fun z=>(YcA P a).bind fun x=>(YcA P b).map fun y=> .rangeFn z ps.toList x y
 | .seq a b=>(YcA P a).bind fun x=>(YcA P b).map fun y=> .seq x y
 | .cond c a b=>(X.of c).bind fun z=>(YcA P a).bind fun x=>(YcA P b).map fun y=> .cond z x y
 | .block i c=>(YcA P c).map (.block i)
 | .scope c=>(YcA P c).map .scope
 | .label _=>some .skip
 | .loop c=>(YcA P c).map .loop
 | .exit i=>some (.exit i)
 | .ret=>some .ret
 |_=>some .stuck
def vres(P:Program):ResultVar->Option VR
 | .tmp t=>some (.tmp t)
 | .cell a t=>(Yet P t).bind fun g=>(sizeOf? P t).bind fun s=>if chk g s then some (.cell a g s)else none
def YhZ(P:Program):List ResultVar->Option (List VR)
 | []=>some []
 |r::l=>(vres P r).bind fun x=>(YhZ P l).map (x::·)
def Yf(P:Program)(fn:Func):Option VF:=
 fn.body.bind fun c=>(YcA P c).bind fun b=>(YhZ P fn.results.toList).map fun r=>{ ntmps:=fn.ntmps,res:=r,body:=b}
structure S where
 fr:List SV
 saved:List (List SV)
 hp:List HO
def getL:List SV->Nat->SV
 | [],_=> .junk
 |x::_,0=>x
 |_::l,n+1=>getL l n
def setL:List SV->Nat->SV->List SV
 | [],_,_=>[]
 |_::l,0,v=>v::l
 |x::l,n+1,v=>x::setL l n v
def getH:List HO->Nat->HO
 | [],_=> .gone
 |x::_,0=>x
 |_::l,n+1=>getH l n
def setH:List HO->Nat->HO->List HO
 | [],_,_=>[]
 |_::l,0,v=>v::l
 |x::l,n+1,v=>x::setH l n v
def lenH:List HO->Nat
 | []=>0
 |_::l=>lenH l+1
def Ybx:List HO->HO->List HO
 | [],x=>[x]
 |y::l,x=>y::Ybx l x
def S.put(s:S)(d:Option Nat)(v:SV):S:=
 match d with
 |some d=>{ s with fr:=setL s.fr d v}
 |none=>s
def S.x(s:S):X->SV
 | .tm n=>getL s.fr n
 | .cn v=>v
def YmR(gb:Bool):SV->Prop×SV
 | .opt b v=>(gb=true->b=true,v)
 |v=>(True,v)
def S.args(s:S):List X->List SV
 | []=>[]
 |x::l=>s.x x::s.args l
def Ygl(gb:Bool):List SV->Prop×List SV
 | []=>(True,[])
 |v::l=>((YmR gb v).1/\(Ygl gb l).1,(YmR gb v).2::(Ygl gb l).2)
def YDu:VO->Bool
 | .and| .or=>true
 |_=>false
def Ykc(lz:Bool)(gb:Bool)(l:List SV):Prop×List SV:=
 match lz with
 |false=>Ygl gb l
 |true=>match l with
   | [x,y]=>((YmR gb x).1,[(YmR gb x).2,y])
   |l=>Ygl gb l
def YT(o:VO)(gb:Bool)(l:List SV):Prop×List SV:=Ykc (YDu o) gb l
def YaI:SV->List SV
 | .agg cs=>cs
 |v=>[v]
def Yah:List SV->Nat->List SV->List SV
 |cs,0,[]=>cs
 | [],_,_=>[]
 |_::cs,0,v::vs=>v::Yah cs 0 vs
 |c::cs,n+1,vs=>c::Yah cs n vs
def Yca:Nat->Nat->Nat
 |0,k=>k
 |n+1,k=>n+1+k
def YO:Nat->List SV->List SV
 |0,_=>[]
 |_+1,[]=>[]
 |n+1,x::l=>x::YO n l
def YJ:Nat->List SV->List SV
 |0,l=>l
 |_+1,[]=>[]
 |n+1,_::l=>YJ n l
def lenL:List SV->Nat
 | []=>0
 |_::l=>lenL l+1
def repL:Nat->List SV->List SV
 |0,_=>[]
 |n+1,z=>z++repL n z
inductive Upd where
 |no
 |new (ho:HO)
 |set (i:Nat) (ho:HO)
 |app (i:Nat) (ho:HO)
structure Ef where
 pre:Prop
 val:SV
 upd:Upd
def Ygr(agg:Bool)(cs:List SV):SV:=
 match agg with
 |true=> .agg cs
 |false=>match cs with
   | [x]=>x
   |_=> .junk
def one:SV->Prop
 | .agg _=>False
 | .tup _=>False
 | .opt _ _=>False
 | .cut _=>False
 | .junk=>False
 | .val v=>v.oneCell'=true
 |_=>True
def ones:List SV->Prop
 | []=>True
 |x::l=>one x/\ones l
mutual
def refs(i:Nat):SV->Bool
 | .agg cs=>YhA i cs
 | .tup cs=>YhA i cs
 | .ptr j _=>YHf j i
 | .own j _ _ _=>YHf j i
 | .elem j _ _ _=>YHf j i
 | .smp j=>YHf j i
 | .fn _ a b=>YhA i a|| YhA i b
 | .iface _ v=>refs i v
 | .opt _ v=>refs i v
 | .cut v=>refs i v
 |_=>false
def YhA(i:Nat):List SV->Bool
 | []=>false
 |x::l=>refs i x|| YhA i l
end
mutual
def noOwn:SV->Bool
 | .agg cs=>YaG cs
 | .tup cs=>YaG cs
 | .ptr _ _=>false
 | .own _ _ _ _=>false
 | .elem _ _ _ _=>false
 | .smp _=>false
 | .fn _ a b=>YaG a&&YaG b
 | .iface _ v=>noOwn v
 | .opt _ _=>false
 | .cut _=>false
 |_=>true
def YaG:List SV->Bool
 | []=>true
 |x::l=>noOwn x&&YaG l
end
def Yd3(i:Nat)(v:SV):SV:=bif refs i v then .junk else v
def Yk(i:Nat):List SV->List SV
 | []=>[]
 |x::l=>Yd3 i x::Yk i l
def Yhw(i:Nat):List (List SV)->List (List SV)
 | []=>[]
 |x::l=>Yk i x::Yhw i l
def YaN(i:Nat):List HO->List HO
 | []=>[]
 | .box cs::l=> .box (Yk i cs)::YaN i l
 | .own z sz n get::l=> .own z sz n (fun k=>Yk i (get k))::YaN i l
 | .smap m::l=> .smap m::YaN i l
 | .gone::l=> .gone::YaN i l
def S.upd(s:S)(u:Upd):S:=
 match u with
 | .no=>s
 | .new ho=>{ s with hp:=Ybx s.hp ho}
 | .set i ho=>{ s with hp:=setH s.hp i ho}
 | .app i ho=>{ fr:=Yk i s.fr,saved:=Yhw i s.saved,hp:=setH (YaN i s.hp) i ho}
def cmpB(o:Cmp)(x y:Int):Bool:=
 match o with
 | .eql=>decide (x=y)
 | .neq=>!decide (x=y)
 | .lss=>decide (x<y)
 | .leq=>decide (x<=y)
 | .gtr=>decide (y<x)
 | .geq=>decide (y<=x)
def ari(o:Ari)(x y:Int):Int:=
 match o with
 | .add=>x+y
 | .sub=>x-y
 | .mul=>x*y
def bitI(o:Bit)(k:IntKind)(x y:Int):Int:=
 match o with
 | .and=>k.wrap (BitVec.ofInt k.bits x&&&BitVec.ofInt k.bits y).toNat
 | .or=>k.wrap (BitVec.ofInt k.bits x||| BitVec.ofInt k.bits y).toNat
 | .xor=>k.wrap (BitVec.ofInt k.bits x^^^BitVec.ofInt k.bits y).toNat
 | .andNot=>k.wrap (BitVec.ofInt k.bits x&&&~~~BitVec.ofInt k.bits y).toNat
def kEq:IntKind->IntKind->Bool
 | .i8,.i8| .i16,.i16| .i32,.i32| .i64,.i64| .u8,.u8| .u16,.u16| .u32,.u32| .u64,.u64=>true
 |_,_=>false
def YfK:IntKind->Int->List SV->Option Int
 |_,m,[]=>some m
 |k,m,.int k' y::l=>bif kEq k k' then YfK k (max m y) l else none
 |_,_,_=>none
def YfL:IntKind->Int->List SV->Option Int
 |_,m,[]=>some m
 |k,m,.int k' y::l=>bif kEq k k' then YfL k (min m y) l else none
 |_,_,_=>none
def YbP:List Bool->List SV->List SV->Option (Prop×Bool)
 | [],[],[]=>some (True,true)
 |true::ks,.int k x::l,.int k' y::r=>(YbP ks l r).map fun(p,b)=>(k=k'/\p,decide (x=y)&&b)
 |false::ks,.bool x::l,.bool y::r=>(YbP ks l r).map fun(p,b)=>(p,(x==y)&&b)
 |_,_,_=>none
def Yc1(hp:List HO):SV->Option (Nat×(Nat->List SV))
 | .nil=>some (0,fun _=>[])
 | .vs _ _ n _ get=>some (n,get)
 | .own i lo n sz=>match getH hp i with
   | .own _ sz' _ get=>bif YHf sz sz' then some (n,fun k=>get (Yca lo k))else none
   |_=>none
 |_=>none
def lenS:SV->Option Nat
 | .nil=>some 0
 | .vs _ _ n _ _=>some n
 | .own _ _ n _=>some n
 | .row n _=>some n
 |_=>none
def Yhd:Nat->Nat->(Nat->List SV)->List SV
 |0,_,_=>[]
 |n+1,k,get=>get k++Yhd n (k+1) get
def YjS(off n:Nat)(get:Nat->List SV):Option (Prop×List SV):=
 match off with
 |0=>some (True,Yhd n 0 get)
 |_=>none
def YaC(hp:List HO):SV->Option (Prop×List SV)
 | .xp _ cs=>some (True,cs)
 | .ptr i off=>match getH hp i with
   | .box cs=>some (True,YJ off cs)
   | .own _ _ n get=>YjS off n get
   |_=>none
 | .elem i k off sz=>match getH hp i with
   | .own _ size n get=>some (k<n/\sz=size,YJ off (get k))
   |_=>none
 |_=>none
def YaS(size:Nat)(cs:List SV)(k:Nat):List SV:=YO size (YJ (k*size) cs)
def storeAt(hp:List HO)(size:Nat)(vals:List SV):SV->Option Ef
 | .ptr i off=>match getH hp i with
   | .box cs=>some { pre:=off+size<=lenL cs,val:= .junk,upd:= .set i (.box (Yah cs off vals))}
   | .own z sz n _=>match off with
     |0=>some { pre:=size=n*sz/\0<sz,val:= .junk,upd:= .set i (.own z sz n (YaS sz vals))}
     |_=>none
   | .smap _=>none
   | .gone=>none
 | .elem i k off sz=>match getH hp i with
   | .own z size' n get=>some { pre:=k<n/\sz=size'/\off+size<=sz,val:= .junk,upd:= .set i (.own z size' n fun j=>if j=k then Yah (get k) off vals else get j)}
   |_=>none
 |_=>none
def YR:List SV->List (Nat×Nat)->List SV->Option (Prop×List SV)
 |cs,[],[]=>some (True,cs)
 |cs,(off,size)::pl,v::vs=>(YR (Yah cs off (YaI v)) pl vs).map fun(p,r)=>(lenL (YaI v)=size/\ones (YaI v)/\off+size<=lenL cs/\p,r)
 |_,_,_=>none
def YN(n bytes:Nat):Prop:=n*bytes<=140737488355328
def YL(p:Prop)(v:SV):Option Ef:=some { pre:=p,val:=v,upd:= .no}
def YkS(o:VO)(xs:List SV):Option Ef:=
 match xs with
 | [.bool c,y]=>match o,y with
   | .and,.opt b (.bool x)=>YL (c=true->b=true) (.bool (c&&x))
   | .or,.opt b (.bool x)=>YL (c=false->b=true) (.bool (c|| x))
   | .and,.bool x=>YL True (.bool (c&&x))
   | .or,.bool x=>YL True (.bool (c|| x))
   |_,_=>none
 |_=>none
def eNew(ho:HO)(v:SV)(p:Prop):Option Ef:=some { pre:=p,val:=v,upd:= .new ho}
def eAri(o:Ari)(xs:List SV):Option Ef:=
 match xs with
 | [.int k x,.int k' y]=>YL (k=k') (.int k (k.wrap (ari o x y)))
 |_=>none
def eCmp(o:Cmp)(xs:List SV):Option Ef:=
 match xs with
 | [.int k x,.int k' y]=>YL (k=k') (.bool (cmpB o x y))
 |_=>none
def eEqb(neg:Bool)(xs:List SV):Option Ef:=
 match xs with
 | [.bool x,.bool y]=>YL True (.bool (match neg with|true=>!(x==y) |false=>x==y))
 |_=>none
def Yhr(neg:Bool)(z:Bool):Bool:=
 match neg with
 |true=>!z
 |false=>z
def eNil(hp:List HO)(neg:Bool)(xs:List SV):Option Ef:=
 match xs with
 | [x,.nil]=>match x with
   | .nil=>YL True (.bool (Yhr neg true))
   | .vs _ z _ _ _=>YL True (.bool (Yhr neg z))
   | .own i _ _ _=>match getH hp i with
     | .own z _ _ _=>YL True (.bool (Yhr neg z))
     |_=>none
   |_=>none
 |_=>none
def eBit(o:Bit)(xs:List SV):Option Ef:=
 match xs with
 | [.int k x,.int k' y]=>YL (k=k') (.int k (bitI o k x y))
 |_=>none
def eDiv(rem:Bool)(xs:List SV):Option Ef:=
 match xs with
 | [.int k x,.int k' y]=>YL (k=k'/\y≠0) (.int k (match rem with|true=>x.tmod y|false=>k.wrap (x.tdiv y)))
 |_=>none
def eSh(left:Bool)(xs:List SV):Option Ef:=
 match xs with
 | [.int k x,.int _ y]=>YL (0<=y) (.int k (match left with|true=>k.wrap (x*2^min y.toNat k.bits) |false=>x.fdiv (2^min y.toNat k.bits)))
 |_=>none
def eMov(xs:List SV):Option Ef:=
 match xs with
 | [x]=>YL True x
 |_=>none
def eNot(xs:List SV):Option Ef:=
 match xs with
 | [.bool x]=>YL True (.bool (!x))
 |_=>none
def eNeg(xs:List SV):Option Ef:=
 match xs with
 | [.int k x]=>YL True (.int k (k.wrap (0-x)))
 |_=>none
def YuD(k:IntKind)(xs:List SV):Option Ef:=
 match xs with
 | [.int _ x]=>YL True (.int k (k.wrap x))
 |_=>none
def eExt(i:Nat)(xs:List SV):Option Ef:=
 match xs with
 | [.tup l]=>YL (i<lenL l) (getL l i)
 |_=>none
def Ynu(t:TypeId)(xs:List SV):Option Ef:=
 match xs with
 | [x]=>YL True (.iface t x)
 |_=>none
def Yjp(n:Nat)(xs:List SV):Option Ef:=
 match xs with
 | [_]=>YL True (.int .i64 n)
 |_=>none
def eLen(xs:List SV):Option Ef:=
 match xs with
 | [x]=>(lenS x).bind fun n=>YL True (.int .i64 n)
 |_=>none
def Yjr(xs:List SV):Option Ef:=
 match xs with
 | [.val (.string b)]=>YL True (.int .i64 b.size)
 |_=>none
def Yhb(mx:Bool)(xs:List SV):Option Ef:=
 match xs with
 | .int k x::l=>(match mx with|true=>YfK k x l|false=>YfL k x l).bind fun m=>YL True (.int k m)
 |_=>none
def YdJ(off:Nat)(xs:List SV):Option Ef:=
 match xs with
 | [x]=>match x with
   | .ptr i o=>YL True (.ptr i (o+off))
   | .xp t cs=>YL True (.xp t (YJ off cs))
   | .elem i k o sz=>YL True (.elem i k (o+off) sz)
   |_=>none
 |_=>none
def Ynt(agg:Bool)(off size:Nat)(xs:List SV):Option Ef:=
 match xs with
 | [.agg cs]=>YL (off+size<=lenL cs) (Ygr agg (YO size (YJ off cs)))
 |_=>none
def YgC(size:Nat)(xs:List SV):Option Ef:=
 match xs with
 | [x,.int _ i]=>match x with
   | .vs t _ n sz get=>YL (sz=size/\0<=i/\i<n) (.xp t (get i.toNat))
   | .own j lo n sz=>YL (sz=size/\0<=i/\i<n) (.elem j (Yca lo i.toNat) 0 size)
   | .row n C=>YL (size=1/\0<=i/\i<n) (.rcell (C i.toNat))
   |_=>none
 |_=>none
def idxN(i:Int)(size:Nat):Nat:=i.toNat*size
theorem YDl(size:Nat):idxN 0 size=0:=Nat.zero_mul size
theorem YDm:idxN 1 1=1:=rfl
theorem YDn:idxN 2 1=2:=rfl
theorem YDo:idxN 3 1=3:=rfl
def YeB(hp:List HO)(n size:Nat)(xs:List SV):Option Ef:=
 match xs with
 | [.ptr j 0,.int _ i]=>match getH hp j with
   | .own _ sz m _=>YL (0<=i/\i<n/\sz=size/\m=n) (.elem j i.toNat 0 size)
   | .box _=>YL (0<=i/\i<n) (.ptr j (idxN i size))
   |_=>none
 |_=>none
def Ynv(agg:Bool)(n size:Nat)(xs:List SV):Option Ef:=
 match xs with
 | [.agg cs,.int _ i]=>YL (0<=i/\i<n/\lenL cs=n*size) (Ygr agg (YaS size cs i.toNat))
 |_=>none
def YkI(n:Nat)(lo hi:Bool)(l:List SV):Option (Prop×Nat×Nat):=
 match lo,hi,l with
 |false,false,[]=>some (True,0,n)
 |true,false,[.int _ a]=>some (0<=a/\a<=n,a.toNat,n)
 |false,true,[.int _ b]=>some (0<=b/\b<=n,0,b.toNat)
 |true,true,[.int _ a,.int _ b]=>some (0<=a/\a<=b/\b<=n,a.toNat,b.toNat)
 |_,_,_=>none
def YhH:Nat->Nat->Nat
 |n,0=>n
 |n,k+1=>n-(k+1)
def Ynw(size:Nat)(lo hi:Bool)(xs:List SV):Option Ef:=
 match xs with
 |x::l=>match x with
   | .vs t z n sz get=>(YkI n lo hi l).bind fun(p,a,b)=>YL (sz=size/\p) (.vs t z (YhH b a) sz fun k=>get (Yca a k))
   | .own j o n sz=>(YkI n lo hi l).bind fun(p,a,b)=>YL (sz=size/\p) (.own j (Yca o a) (YhH b a) sz)
   |_=>none
 |_=>none
def Yjt(size:Nat)(xs:List SV):Option Ef:=
 match xs with
 | [x,.int _ b,.int _ c]=>match x with
   | .nil=>YL (b=0/\c=0) .nil
   | .vs t z n sz get=>YL (sz=size/\0<=b/\b<=n/\c=b) (.cut (.vs t z b.toNat sz get))
   | .own j o n sz=>YL (sz=size/\0<=b/\b<=n/\c=b) (.cut (.own j o b.toNat sz))
   |_=>none
 |_=>none
def YbF(hp:List HO)(n size:Nat)(lo hi:Bool)(xs:List SV):Option Ef:=
 match lo,hi,xs with
 |false,false,[.ptr j 0]=>match getH hp j with
   | .own _ sz m _=>YL (sz=size/\m=n) (.own j 0 n size)
   |_=>none
 |_,_,_=>none
def YqS(nx:Nat)(size bytes:Nat)(zero:List SV)(xs:List SV):Option Ef:=
 match xs with
 | [.int _ l,.int _ c]=>eNew (.own false size l.toNat fun _=>zero) (.own (nx) 0 l.toNat size) (lenL zero=size/\0<size/\0<=l/\l<=c/\YN c.toNat bytes)
 |_=>none
def YbE(nx:Nat)(hp:List HO)(size bytes:Nat)(xs:List SV):Option Ef:=
 match xs with
 | [a,x]=>match a with
   | .nil=>(Yc1 hp x).bind fun(m,gx)=>eNew (.own (decide (m=0)) size m gx) (.own (nx) 0 m size) (YN m bytes/\∀k,k<m->lenL (gx k)=size/\ones (gx k))
   | .own i 0 n sz=>match getH hp i with
     | .own z s' _ get=>(Yc1 hp x).map fun(m,gx)=>
       { pre:=sz=size/\s'=size/\YN (n+m) bytes/\∀k,k<m->lenL (gx k)=size/\ones (gx k),val:= .own i 0 (n+m) size,
         upd:= .app i (.own (z&&decide (m=0)) size (n+m) fun k=>if k<n then Yk i (get k)else Yk i (gx (k-n)))}
     |_=>none
   | .cut y=>(Yc1 hp y).bind fun(n,gy)=>(Yc1 hp x).bind fun(m,gx)=>eNew (.own false size (n+m) fun k=>if k<n then gy k else gx (k-n)) (.own (nx) 0 (n+m) size)
       (0<m/\YN (n+m) bytes/\(∀k,k<n->lenL (gy k)=size/\ones (gy k))/\∀k,k<m->lenL (gx k)=size/\ones (gx k))
   |_=>none
 |_=>none
def YhR(hp:List HO)(agg:Bool)(size:Nat)(xs:List SV):Option Ef:=
 match xs with
 | [a]=>(YaC hp a).bind fun(p,cs)=>YL (p/\size<=lenL cs) (Ygr agg (YO size cs))
 |_=>none
def Yii(hp:List HO)(size:Nat)(xs:List SV):Option Ef:=
 match xs with
 | [a,v]=>(storeAt hp size (YaI v) a).map fun e=>{ e with pre:=lenL (YaI v)=size/\ones (YaI v)/\e.pre}
 |_=>none
def eBox(nx:Nat)(xs:List SV):Option Ef:=
 match xs with
 | [x]=>eNew (.box (YaI x)) (.ptr (nx) 0) (ones (YaI x))
 |_=>none
def YeV(xs:List SV):Option Ef:=
 match xs with
 | [x]=>match x with
   | .ptr i o=>YL True (.ptr i o)
   | .xp t cs=>YL True (.xp t cs)
   | .elem i k o sz=>YL True (.elem i k o sz)
   |_=>none
 |_=>none
def Ynk(b:ByteArray)(i:Nat):Int:=(b.data.toList.getD i 0).toNat
def Yjo(xs:List SV):Option Ef:=
 match xs with
 | [.val (.string b),.int _ i]=>YL (0<=i/\i<b.size) (.int .u8 (Ynk b i.toNat))
 |_=>none
def Yns(neg:Bool)(xs:List SV):Option Ef:=
 match xs with
 | [.val (.string a),.val (.string b)]=>YL True (.bool (Yhr neg (a.toList==b.toList)))
 |_=>none
def addK(l:List (List UInt8))(s:List UInt8):List (List UInt8):=if s∈l then l else l++[s]
def Yjs(hp:List HO)(xs:List SV):Option Ef:=
 match xs with
 | [.smp i,.val (.string s),.agg []]=>match getH hp i with
   | .smap l=>some { pre:=True,val:= .junk,upd:= .set i (.smap (addK l s.data.toList))}
   |_=>none
 |_=>none
def Yjq(hp:List HO)(xs:List SV):Option Ef:=
 match xs with
 | [.smp i]=>match getH hp i with
   | .smap l=>YL True (.int .i64 l.length)
   |_=>none
 |_=>none
def YjE:List IntKind->List SV->Option (Prop×List Int)
 | [],[]=>some (True,[])
 |k::ks,.int k' x::l=>(YjE ks l).map fun(p,r)=>(k=k'/\p,x::r)
 |_,_=>none
def Yyv(xs:List SV):Option Ef:=
 match xs with
 | [.int .u64 x,.int .u64 y,.int .u64 c]=>YL (0<=x/\0<=y/\0<=c/\c<=1) (.tup [.int .u64 ((x+y+c)%18446744073709551616),.int .u64 ((x+y+c)/18446744073709551616)])
 |_=>none
def eEqv(neg:Bool)(ks:List Bool)(xs:List SV):Option Ef:=
 match xs with
 | [.agg xs,.agg ys]=>(YbP ks xs ys).bind fun(p,b)=>YL p (.bool (match neg with|true=>!b|false=>b))
 |_=>none
def eff(hp:List HO)(nx:Nat)(o:VO)(xs:List SV):Option Ef:=
 match o with
 | .mov=>eMov xs
 | .not=>eNot xs
 | .neg=>eNeg xs
 | .conv k=>YuD k xs
 | .ext i=>eExt i xs
 | .iface t=>Ynu t xs
 | .lenArr n=>Yjp n xs
 | .and=>YkS .and xs
 | .or=>YkS .or xs
 | .alloc cs=>eNew (.box cs) (.ptr (nx) 0) True
 | .allocArr n size cs=>eNew (.own false size n (YaS size cs)) (.ptr (nx) 0) (lenL cs=n*size)
 | .box=>eBox nx xs
 | .build zero pl=>(YR zero pl xs).bind fun(p,cs)=>YL p (.agg cs)
 | .buildSlice size len zero pl=>(YR (repL len zero) pl xs).bind fun(p,cs)=>
     eNew (.own false size len (YaS size cs)) (.own (nx) 0 len size) (p/\lenL zero=size/\0<size)
 | .load agg size=>YhR hp agg size xs
 | .store size=>Yii hp size xs
 | .ari o=>eAri o xs
 | .cmp o=>eCmp o xs
 | .bit o=>eBit o xs
 | .quo=>eDiv false xs
 | .rem=>eDiv true xs
 | .shl=>eSh true xs
 | .shr=>eSh false xs
 | .len=>eLen xs
 | .lenStr=>Yjr xs
 | .min=>Yhb false xs
 | .max=>Yhb true xs
 | .fieldAddr off=>YdJ off xs
 | .field agg off size=>Ynt agg off size xs
 | .idxAddr size=>YgC size xs
 | .idxArr n size=>YeB hp n size xs
 | .index agg n size=>Ynv agg n size xs
 | .slice size lo hi=>Ynw size lo hi xs
 | .slice3 size=>Yjt size xs
 | .sliceArr n size lo hi=>YbF hp n size lo hi xs
 | .make size bytes zero=>YqS nx size bytes zero xs
 | .append size bytes _=>YbE nx hp size bytes xs
 | .mkfn fn nf=>YL True (.fn fn (YO nf xs) (YJ nf xs))
 | .eqv neg ks=>eEqv neg ks xs
 | .eqb neg=>eEqb neg xs
 | .isNil neg=>eNil hp neg xs
 | .addc=>Yyv xs
 | .nilCheck=>YeV xs
 | .idxStr=>Yjo xs
 | .eqStr neg=>Yns neg xs
 | .mkSet=>match xs with
   | [.int _ _]=>eNew (.smap []) (.smp nx) True
   |_=>none
 | .setAdd=>Yjs hp xs
 | .lenSet=>Yjq hp xs
 |_=>none
def YoK:List SV->List SV
 | []=>[]
 |_::l=> .junk::YoK l
def andT(t0 t:Bool):Bool:=
 match t0 with
 |true=>t
 |false=>false
mutual
def view(t0:Bool)(hp:List HO)(r:List SV->List SV):SV->SV
 | .agg cs=> .agg (Yby t0 hp r cs)
 | .tup cs=> .tup (Yby t0 hp r cs)
 | .iface t v=> .iface t (view t0 hp r v)
 | .fn f a b=> .fn f (Yby t0 hp r a) (Yby t0 hp r b)
 | .vs t z m sz get=> .vs (andT t0 t) z m sz fun k=>Yby t0 hp r (get k)
 | .xp t cs=> .xp (andT t0 t) (Yby t0 hp r cs)
 | .ptr i off=>match getH hp i with
   | .box cs=> .xp t0 (r (YJ off cs))
   |_=> .junk
 | .own i lo m sz=>match getH hp i with
   | .own z sz' _ get=>bif YHf sz sz' then .vs t0 z m sz fun k=>r (get (Yca lo k))else .junk
   |_=> .junk
 | .elem i k off sz=>match getH hp i with
   | .own _ sz' _ get=>bif YHf sz sz' then .xp t0 (r (YJ off (get k)))else .junk
   |_=> .junk
 | .opt _ _=> .junk
 | .cut _=> .junk
 | .smp _=> .junk
 |v=>v
def Yby(t0:Bool)(hp:List HO)(r:List SV->List SV):List SV->List SV
 | []=>[]
 |x::l=>view t0 hp r x::Yby t0 hp r l
end
def viewN(t0:Bool)(hp:List HO):Nat->List SV->List SV
 |0,l=>YoK l
 |n+1,l=>Yby t0 hp (viewN t0 hp n) l
def expo(hp:List HO)(r:SV):SV:=view true hp (viewN true hp 2) r
mutual
def shift(d:Nat):SV->SV
 | .agg cs=> .agg (YcZ d cs)
 | .tup cs=> .tup (YcZ d cs)
 | .iface t v=> .iface t (shift d v)
 | .fn f a b=> .fn f (YcZ d a) (YcZ d b)
 | .ptr i off=> .ptr (d+i) off
 | .own i lo m sz=> .own (d+i) lo m sz
 | .elem i k off sz=> .elem (d+i) k off sz
 | .smp i=> .smp (d+i)
 | .opt b v=> .opt b (shift d v)
 | .cut v=> .cut (shift d v)
 |v=>v
def YcZ(d:Nat):List SV->List SV
 | []=>[]
 |x::l=>shift d x::YcZ d l
end
def YV(d:Nat):List HO->List HO
 | []=>[]
 | .box cs::l=> .box (YcZ d cs)::YV d l
 | .own z sz n get::l=> .own z sz n (fun k=>YcZ d (get k))::YV d l
 | .smap m::l=> .smap m::YV d l
 | .gone::l=> .gone::YV d l
inductive CRes:Type 1 where
 |fin (r:SV) (hs:List HO)
 |pre (p:Prop) (c:CRes)
 |imp (p:Prop) (c:CRes)
 |all (α:Type) (c:α->CRes)
 |ex (α:Type) (c:α->CRes)
def psd(o:VO)(xs:List SV):Option CRes:=
 match o with
 | .load false _=>match xs with
   | [.rcell C]=>some (.all Int fun v=> .imp (C v) (.fin (.int .i64 v) []))
   |_=>none
 | .store n=>match xs with
   | [.rcell C,.int .i64 v]=>some (.pre (n=1/\C v) (.fin .junk []))
   |_=>none
 | .mkMap kk=>match xs with
   | []=>some (.ex (List Int->Int->Prop) fun C=> .fin (.imap kk C) [])
   |_=>none
 | .mapGet kk=>match xs with
   | [.imap ks C,.agg cs]=>(YjE kk cs).map fun(p,l)=> .pre (ks=kk/\p) (.all (Option Int) fun r=> .imp (∀v,r=some v->C l v) (.fin (.tup [.int .i64 (r.getD 0),.bool r.isSome]) []))
   |_=>none
 | .mapPut kk=>match xs with
   | [.imap ks C,.agg cs,.int .i64 v]=>(YjE kk cs).map fun(p,l)=> .pre ((ks=kk/\p)/\C l v) (.fin .junk [])
   |_=>none
 |_=>none
structure Ctr where
 alias:Bool
 of:List SV->CRes
structure Env where
 ct:FuncId->Option Ctr
 fn:FuncId->Option VF
 meth:TypeId->String->Option FuncId
 lo:FuncId->Bool:=fun _=>false
inductive It:Type 1 where
 |code (c:VC)
 |ops (l:List VOp)
 |dops (l:List DOp)
 |dtr (t:DTr)
 |inBlock (id:Nat)
 |inScope
 |inLoop (I:S->Prop)
 |frame (dst:Option Nat) (res:List VR)
 |rfrm (res:List VR) (l:Nat) (ps:List Nat) (a b:VC) (j:Option VC)
 |rbeg
 |rend (dst:Option Nat)
 |res (g:Option Bool) (al:Bool) (dst:Option Nat) (c:CRes)
inductive PT:Type 1 where
 |go (K:List It)
 |jump (d:Option Nat) (K:List It)
 |no
def YoI(c:VC):List It->List It
 | []=>[]
 | .inLoop _::k=> .inLoop (fun _=>False)::YoI c k
 | .rfrm res l ps a b _::k=> .rfrm res l ps a b (some c)::k
 |x::k=>x::YoI c k
def YeE:List It->Option (Nat×List Nat×VC×VC)
 | .rfrm _ l ps a b none::_=>some (l,ps,a,b)
 | .inBlock _::k=>YeE k
 | .inScope::k=>YeE k
 | .inLoop _::k=>YeE k
 | .code _::k=>YeE k
 | .ops _::k=>YeE k
 |_=>none
def Ybu:List It->Bool
 | .inBlock _::k=>Ybu k
 | .inScope::k=>Ybu k
 | .inLoop _::k=>Ybu k
 | .code _::k=>Ybu k
 | .ops _::k=>Ybu k
 | .rbeg::_=>false
 | .rend _::_=>false
 |_=>true
def Yk4(d:Option Nat)(K:List It):Option (Nat×List Nat×VC×VC)->PT
 |some _=> .jump d K
 |none=> .no
def YbI(id:Nat):List It->PT
 | []=> .no
 | .inBlock j::k=>bif YHf j id then .go k else YbI id k
 | .inScope::k=>YbI id k
 | .inLoop _::k=>YbI id k
 | .code _::k=>YbI id k
 | .ops _::k=>YbI id k
 | .rend d::k=>Yk4 d (YoI (.exit id) k) (YeE k)
 |_::_=> .no
def Yaf:List It->PT
 | []=> .go []
 | .inBlock _::k=>Yaf k
 | .inScope::k=>Yaf k
 | .inLoop _::k=>Yaf k
 | .code _::k=>Yaf k
 | .ops _::k=>Yaf k
 | .frame d r::k=> .go (.frame d r::k)
 | .rfrm res l ps a b j::k=> .go (.rfrm res l ps a b j::k)
 | .rend d::k=>Yk4 d (YoI .ret k) (YeE k)
 |_::_=> .no
def Yob(s:S):VR->Option (Prop×SV)
 | .tmp t=>some (True,getL s.fr t)
 | .cell t agg size=>(YhR s.hp agg size [getL s.fr t]).map fun e=>(e.pre,e.val)
def YaE(s:S):List VR->Option (Prop×List SV)
 | []=>some (True,[])
 |r::l=>(Yob s r).bind fun(p,v)=>(YaE s l).map fun(q,vs)=>(p/\q,v::vs)
def Ygk:List SV->SV
 | [x]=>x
 |l=> .tup l
def YyI(b:Bool)(pol:Bool):Bool:=match pol with|true=>b|false=>!b
def Yad(v:SV)(pol:Bool):Option Bool:=
 match v with
 | .bool b=>some (YyI b pol)
 | .opt c (.bool b)=>some (c&&YyI b pol)
 |_=>none
def Ylb(P:Program)(t:TypeId)(m:String):Option FuncId:=
 (P.info? t).bind fun i=>(i.methods.find? (·.name==m)).bind fun r=>if r.path.isEmpty then match r.func with
   |some (f,false)=>match P.underlying t with
     |some (.pointer _)=>none
     |some _=>some f
     |none=>none
   |_=>none else none
mutual
def frzV(i:Nat)(z:Bool)(sz:Nat)(get:Nat->List SV):SV->SV
 | .agg cs=> .agg (frzL i z sz get cs)
 | .tup cs=> .tup (frzL i z sz get cs)
 | .ptr j o=>bif YHf j i then .junk else .ptr j o
 | .own j lo n s=>bif YHf j i then(bif YHf s sz then .vs true z n s (fun k=>get (Yca lo k))else .junk)else .own j lo n s
 | .elem j k o s=>bif YHf j i then .junk else .elem j k o s
 | .smp j=>bif YHf j i then .junk else .smp j
 | .fn f a b=> .fn f (frzL i z sz get a) (frzL i z sz get b)
 | .iface t v=> .iface t (frzV i z sz get v)
 | .opt b v=> .opt b (frzV i z sz get v)
 | .cut v=> .cut (frzV i z sz get v)
 |v=>v
def frzL(i:Nat)(z:Bool)(sz:Nat)(get:Nat->List SV):List SV->List SV
 | []=>[]
 |x::l=>frzV i z sz get x::frzL i z sz get l
end
def YuH(i:Nat)(z:Bool)(sz:Nat)(get:Nat->List SV):List (List SV)->List (List SV)
 | []=>[]
 |x::l=>frzL i z sz get x::YuH i z sz get l
def Ygo(i:Nat)(z:Bool)(sz:Nat)(get:Nat->List SV):List HO->List HO
 | []=>[]
 | .box cs::l=> .box (frzL i z sz get cs)::Ygo i z sz get l
 | .own z' s n g::l=> .own z' s n (fun k=>frzL i z sz get (g k))::Ygo i z sz get l
 | .smap m::l=> .smap m::Ygo i z sz get l
 | .gone::l=> .gone::Ygo i z sz get l
def frz1(s:S)(i:Nat)(h:HO):S:=
 match h with
 | .own z sz _ get=>{ fr:=frzL i z sz get s.fr,saved:=YuH i z sz get s.saved,hp:=setH (Ygo i z sz get s.hp) i .gone}
 |_=>s
def YyH(h:HO):Prop:=
 match h with
 | .own _ _ n get=> ∀k,k<n->YaG (get k)=true
 |_=>True
def frzS:List Nat->S->S
 | [],s=>s
 |i::l,s=>frzS l (frz1 s i (getH s.hp i))
def frzP:List Nat->S->Prop
 | [],_=>True
 |i::l,s=>YyH (getH s.hp i)/\frzP l (frz1 s i (getH s.hp i))
mutual
def bnd(n:Nat):SV->Prop
 | .agg cs=>bndL n cs
 | .tup cs=>bndL n cs
 | .ptr i _=>i<n
 | .own i _ _ _=>i<n
 | .elem i _ _ _=>i<n
 | .smp i=>i<n
 | .fn _ a b=>bndL n a/\bndL n b
 | .iface _ v=>bnd n v
 | .opt _ v=>bnd n v
 | .cut v=>bnd n v
 |_=>True
def bndL(n:Nat):List SV->Prop
 | []=>True
 |x::l=>bnd n x/\bndL n l
end
mutual
def leX:SV->SV->Prop
 |_,.junk=>True
 | .int k x,.int k' y=>k=k'/\x=y
 | .bool a,.bool b=>a=b
 | .nil,.vs _ z l _ _=>z=true/\l=0
 | .agg cs,.agg ds=>leXL cs ds
 | .tup cs,.tup ds=>leXL cs ds
 | .vs t z l sz get,.vs t' z' l' sz' get'=>(t'=true->t=true)/\z=z'/\l=l'/\sz=sz'/\∀k,k<l->leXL (get k) (get' k)
 | .xp t cs,.xp t' ds=>(t'=true->t=true)/\leXL cs ds
 |a,b=>a=b
def leXL:List SV->List SV->Prop
 | [],[]=>True
 |x::l,y::r=>leX x y/\leXL l r
 |_,_=>False
end
mutual
def le(m n:Nat):SV->SV->Prop
 |_,.junk=>True
 | .int k x,.int k' y=>k=k'/\x=y
 | .bool a,.bool b=>a=b
 | .nil,.own i lo l _=>m<=i/\i<n/\lo=0/\l=0
 | .nil,.vs _ z l _ _=>z=true/\l=0
 | .agg cs,.agg ds=>leL m n cs ds
 | .tup cs,.tup ds=>leL m n cs ds
 | .vs t z l sz get,.vs t' z' l' sz' get'=>(t'=true->t=true)/\z=z'/\l=l'/\sz=sz'/\∀k,k<l->leXL (get k) (get' k)
 | .own i lo l sz,.own i' lo' l' sz'=>i=i'/\lo=lo'/\l=l'/\sz=sz'/\i<n
 | .xp t cs,.xp t' ds=>(t'=true->t=true)/\leXL cs ds
 |a,b=>a=b/\bnd n b
def leL(m n:Nat):List SV->List SV->Prop
 | [],[]=>True
 |x::l,y::r=>le m n x y/\leL m n l r
 |_,_=>False
end
def leLL(m n:Nat):List (List SV)->List (List SV)->Prop
 | [],[]=>True
 |x::l,y::r=>leL m n x y/\leLL m n l r
 |_,_=>False
def leH1(m n:Nat):HO->HO->Prop
 | .box cs,.box ds=>leL m n cs ds
 | .own z sz l get,.own z' sz' l' get'=>z=z'/\sz=sz'/\l=l'/\∀k,k<l->leL m n (get k) (get' k)
 | .smap l,.smap l'=>l=l'
 | .gone,.gone=>True
 |_,_=>False
def leH(m n:Nat):List HO->List HO->Prop
 |_,[]=>True
 | [],.own z _ l _::r=>z=true/\l=0/\leH m n [] r
 | [],_::_=>False
 |x::l,y::r=>leH1 m n x y/\leH m n l r
def leS(s s':S):Prop:=
 leL (lenH s.hp) (lenH s'.hp) s.fr s'.fr/\leLL (lenH s.hp) (lenH s'.hp) s.saved s'.saved/\leH (lenH s.hp) (lenH s'.hp) s.hp s'.hp
def leF(s s':S):Prop:=∃l,frzP l s/\leS (frzS l s) s'
mutual
def pubV(i n:Nat)(C:Nat->Int->Prop):SV->SV
 | .agg cs=> .agg (pubL i n C cs)
 | .tup cs=> .tup (pubL i n C cs)
 | .ptr j o=>bif YHf j i then .junk else .ptr j o
 | .own j lo m s=>bif YHf j i then(bif YHf lo 0&&(YHf m n&&YHf s 1)then .row n C else .junk)else .own j lo m s
 | .elem j k o s=>bif YHf j i then .junk else .elem j k o s
 | .smp j=>bif YHf j i then .junk else .smp j
 | .fn f a b=> .fn f (pubL i n C a) (pubL i n C b)
 | .iface t v=> .iface t (pubV i n C v)
 | .opt b v=> .opt b (pubV i n C v)
 | .cut v=> .cut (pubV i n C v)
 |v=>v
def pubL(i n:Nat)(C:Nat->Int->Prop):List SV->List SV
 | []=>[]
 |x::l=>pubV i n C x::pubL i n C l
end
def Yvk(i n:Nat)(C:Nat->Int->Prop):List (List SV)->List (List SV)
 | []=>[]
 |x::l=>pubL i n C x::Yvk i n C l
def Ygs(i n:Nat)(C:Nat->Int->Prop):List HO->List HO
 | []=>[]
 | .box cs::l=> .box (pubL i n C cs)::Ygs i n C l
 | .own z' s m g::l=> .own z' s m (fun k=>pubL i n C (g k))::Ygs i n C l
 | .smap m::l=> .smap m::Ygs i n C l
 | .gone::l=> .gone::Ygs i n C l
def pub1(s:S)(i n:Nat)(C:Nat->Int->Prop):S:=
 { fr:=pubL i n C s.fr,saved:=Yvk i n C s.saved,hp:=setH (Ygs i n C s.hp) i .gone}
def pubC(D:Int->Prop)(l:List SV):Prop:=
 match l with
 | [.int .i64 v]=>D v
 |_=>False
def YzC(n:Nat)(C:Nat->Int->Prop)(h:HO):Prop:=
 match h with
 | .own _ sz m get=>(sz=1/\m=n/\0<n)/\∀k,k<n->pubC (C k) (get k)
 |_=>False
def pubS:List (Nat×Nat×(Nat->Int->Prop))->S->S
 | [],s=>s
 | (i,n,C)::l,s=>pubS l (pub1 s i n C)
def pubP:List (Nat×Nat×(Nat->Int->Prop))->S->Prop
 | [],_=>True
 | (i,n,C)::l,s=>YzC n C (getH s.hp i)/\pubP l (pub1 s i n C)
def leP(s s':S):Prop:=∃l,pubP l s/\leF (pubS l s) s'
def Loop(r:List It->S->Prop)(body:VC)(K:List It)(s:S)(le:S->S->Prop):Prop:=
 ∃(σ:Type) (head:σ->S) (inv:σ->Prop) (μ:σ->Nat) (lf:S->S->Prop),(∀a b,lf a b->le a b)/\
   (∃x,inv x/\lf s (head x))/\∀x,inv x->r (.code body:: .inLoop (fun s'=> ∃y,inv y/\μ y<μ x/\lf s' (head y))::K) (head x)
def YkF:Nat->List SV
 |0=>[]
 |n+1=> .junk::YkF n
def padL:Nat->List SV->List SV
 |n,[]=>YkF n
 |0,l=>l
 |n+1,x::l=>x::padL n l
def Yjb(f:SV)(xs:List SV):Option (FuncId×List SV):=
 match f with
 | .fn (.func g) a b=>some (g,a++(xs++b))
 |_=>none
def Yl6(v:SV)(l:List SV):Option FuncId->Option (FuncId×List SV)
 |some f=>some (f,v::l)
 |none=>none
def callee(E:Env)(o:VO)(xs:List SV):Option (FuncId×List SV):=
 match o with
 | .call f=>some (f,xs)
 | .callv=>match xs with
   |f::l=>Yjb f l
   | []=>none
 | .invoke m=>match xs with
   | .iface t v::l=>Yl6 v l (E.meth t m)
   |_=>none
 |_=>none
def inlK(r:List It->S->Prop)(d:Option Nat)(xs:List SV)(K:List It)(s:S)(o:Option VF):Prop:=
 match o with
 |some vf=>r (.code vf.body:: .frame d vf.res::K) { fr:=padL vf.ntmps xs,saved:=s.fr::s.saved,hp:=s.hp}
 |none=>False
def Yqu(E:Env)(r:List It->S->Prop)(d:Option Nat)(f:FuncId)(xs:List SV)(K:List It)(s:S)(o:Option Ctr):Prop:=
 match o with
 |some c=>(c.alias=true->YaG xs=true)/\r (.res none c.alias d (c.of (viewN false s.hp 3 xs))::K) s
 |none=>inlK r d xs K s (E.fn f)
def effK(r:List It->S->Prop)(d:Option Nat)(K:List It)(s:S)(o:Option Ef):Prop:=
 match o with
 |some e=>e.pre/\r K ((s.upd e.upd).put d e.val)
 |none=>False
def psdK(r:List It->S->Prop)(d:Option Nat)(o:VO)(xs:List SV)(K:List It)(s:S)(c:Option CRes):Prop:=
 match c with
 |some c=>r (.res none false d c::K) s
 |none=>effK r d K s (eff s.hp (lenH s.hp) o xs)
def VO.bad:VO->Bool
 | .mkSet| .setAdd| .lenSet=>true
 |_=>false
def effD(r:List It->S->Prop)(d:Option Nat)(b:Bool)(K:List It)(s:S)(o:Option Ef):Prop:=
 match b with
 |true=>False
 |false=>effK r d K s o
def psdD(r:List It->S->Prop)(d:Option Nat)(o:VO)(xs:List SV)(K:List It)(s:S)(c:Option CRes):Prop:=
 match c with
 |some c=>r (.res none false d c::K) s
 |none=>effD r d o.bad K s (eff s.hp (lenH s.hp) o xs)
def yld(o:VO)(xs:List SV):Option (Nat×List SV):=
 match o with
 | .callv=>match xs with
   | .fn (.yield l) [] []::ys=>some (l,ys)
   |_=>none
 |_=>none
def Ylv:List SV->List Nat->List SV->List SV
 |fr,p::ps,y::ys=>Ylv (setL fr p y) ps ys
 |fr,_,_=>fr
def lenN:List Nat->Nat
 | []=>0
 |_::l=>lenN l+1
def yK(r:List It->S->Prop)(d:Option Nat)(l:Nat)(ys:List SV)(K:List It)(s:S)(o:Option (Nat×List Nat×VC×VC))(sv:List (List SV)):Prop:=
 match o,sv with
 |some (l',ps,a,b),fr::_=>(l=l'/\lenL ys=lenN ps)/\r (.code a:: .rbeg:: .code b:: .rend d::K) { fr:=Ylv fr ps ys,saved:=s.fr::s.saved,hp:=s.hp}
 |_,_=>False
def yldK(r:List It->S->Prop)(d:Option Nat)(o:VO)(xs:List SV)(K:List It)(s:S)(y:Option (Nat×List SV)):Prop:=
 match y with
 |some (l,ys)=>yK r d l ys K s (YeE K) s.saved
 |none=>psdK r d o xs K s (psd o xs)
def opK(E:Env)(r:List It->S->Prop)(d:Option Nat)(o:VO)(xs:List SV)(K:List It)(s:S)(c:Option (FuncId×List SV)):Prop:=
 match c with
 |some (f,ys)=>Yqu E r d f ys K s (E.ct f)
 |none=>yldK r d o xs K s (yld o xs)
def YoX(E:Env)(r:List It->S->Prop)(d:Option Nat)(o:VO)(xs:List SV)(K:List It)(s:S):Prop:=
 opK E r d o xs K s (callee E o xs)
def effG(r:List It->S->Prop)(gb:Bool)(d:Option Nat)(p:Prop)(K:List It)(s:S)(o:Option Ef):Prop:=
 match o with
 |some ⟨q,v,.no⟩=>p/\(gb=true->q)/\r K (s.put d (.opt gb v))
 |_=>False
def effH(r:List It->S->Prop)(gb:Bool)(d:Option Nat)(p:Prop)(K:List It)(s:S)(o:Option Ef):Prop:=
 match o with
 |some ⟨q,v,.no⟩=>p/\(gb=true->q)/\r K (s.put d (.opt gb v))
 |none=>gb=false/\∃v:SV,r K (s.put d (.opt gb v))
 |_=>False
def Yqt(E:Env)(r:List It->S->Prop)(gb:Bool)(d:Option Nat)(o:VO)(p:Prop)(xs:List SV)(K:List It)(s:S)(c:Option (Ctr×List SV)):Prop:=
 match c with
 |some (c,ys)=>p/\(c.alias=true->YaG ys=true)/\r (.res (some gb) c.alias d (c.of (viewN false s.hp 3 ys))::K) s
 |none=>p/\(gb=true->YoX E r d o xs K s)/\(gb=false->r K (s.put d .junk))
def ctM(ys:List SV):Option Ctr->Option (Ctr×List SV)
 |some c=>some (c,ys)
 |none=>none
def ctI(E:Env)(v:SV)(l:List SV):Option FuncId->Option (Ctr×List SV)
 |some f=>ctM (v::l) (E.ct f)
 |none=>none
def ctOf(E:Env)(o:VO)(xs:List SV):Option (Ctr×List SV):=
 match o with
 | .call f=>ctM xs (E.ct f)
 | .invoke m=>match xs with
   | .iface t v::l=>ctI E v l (E.meth t m)
   |_=>none
 |_=>none
def gK(E:Env)(r:List It->S->Prop)(gb:Bool)(d:Option Nat)(o:VO)(xs:Prop×List SV)(K:List It)(s:S)(q:Bool):Prop:=
 match q with
 |true=>effH r gb d xs.1 K s (eff s.hp (lenH s.hp) o xs.2)
 |false=>Yqt E r gb d o xs.1 xs.2 K s (ctOf E o xs.2)
def Yq1(E:Env)(r:List It->S->Prop)(d:Option Nat)(o:VO)(xs:List X)(K:List It)(s:S)(g:Option Bool):Prop:=
 match g with
 |some gb=>gK E r gb d o (YT o gb (s.args xs)) K s o.quiet
 |none=>False
def YAt(r:List It->S->Prop)(al:Bool)(d:Option Nat)(K:List It)(s:S)(c:CRes):Prop:=
 match c with
 | .fin v hs=>r K (S.put { fr:=s.fr,saved:=s.saved,hp:=s.hp++YV (lenH s.hp) hs} d (shift (lenH s.hp) v))
 | .pre p c=>p/\r (.res none al d c::K) s
 | .imp p c=>p->r (.res none al d c::K) s
 | .all α c=> ∀x:α,r (.res none al d (c x)::K) s
 | .ex α c=> ∃x:α,r (.res none al d (c x)::K) s
def YvK(r:List It->S->Prop)(gb:Bool)(al:Bool)(d:Option Nat)(K:List It)(s:S)(c:CRes):Prop:=
 match c with
 | .fin v []=>r K (s.put d (.opt gb (shift (lenH s.hp) v)))
 | .pre p c=>(gb=true->p)/\r (.res (some gb) al d c::K) s
 | .ex α c=> ∃x:α,r (.res (some gb) al d (c x)::K) s
 |_=>False
def YqW(r:List It->S->Prop)(d:Option Nat)(K:List It)(hp:List HO)(v:Option (Prop×List SV))(sv:List (List SV)):Prop:=
 match v,sv with
 |some (p,vs),fr::sv=>p/\r K (S.put { fr:=fr,saved:=sv,hp:=hp} d (Ygk vs))
 |_,_=>False
def Yyi(r:List It->S->Prop)(a b:VC)(K:List It)(s:S)(v:SV):Prop:=
 match v with
 | .bool c=>(c=true->r (.code a::K) s)/\(c=false->r (.code b::K) s)
 |_=>False
def YoV(r:List It->S->Prop)(d:Option Nat)(b:Bool)(K:List It)(hp:List HO)(sv:List (List SV)):Prop:=
 match sv with
 |fr::sv=>r K (S.put { fr:=fr,saved:=sv,hp:=hp} d (.bool b))
 | []=>False
def Yy1(j:Option VC)(K:List It):List It:=
 match j with
 |some c=> .code c::K
 |none=>K
def Yz8(r:List It->S->Prop)(j:Option VC)(K:List It)(hp:List HO)(v:Option (Prop×List SV))(sv:List (List SV)):Prop:=
 match v,sv with
 |some (p,_),fr::sv=>p/\r (Yy1 j K) { fr:=fr,saved:=sv,hp:=hp}
 |_,_=>False
def YoF(r:List It->S->Prop)(s:S)(K:PT):Prop:=
 match K with
 | .go K'=>r K' s
 | .jump d K'=>YoV r d false K' s.hp s.saved
 | .no=>False
def Yn8(r:List It->S->Prop)(ps:List Nat)(a b:VC)(K:List It)(s:S)(us cs:List SV)(o:Option VF):Prop:=
 match o with
 |some vf=>Ybu K=true/\∀l:Nat,r (.code vf.body:: .rfrm vf.res l ps a b none::K) { fr:=padL vf.ntmps (us++(.fn (.yield l) [] []::cs)),saved:=s.fr::s.saved,hp:=s.hp}
 |none=>False
def Yn9(E:Env)(r:List It->S->Prop)(ps:List Nat)(a b:VC)(K:List It)(s:S)(f:SV):Prop:=
 match f with
 | .fn (.func g) us cs=>Yn8 r ps a b K s us cs (E.fn g)
 |_=>False
def blk:SV->Option Nat
 | .ptr i _=>some i
 | .elem i _ _ _=>some i
 | .own i _ _ _=>some i
 | .cut v=>blk v
 |_=>none
def Yo3:SV->SV
 | .opt _ v=>v
 |v=>v
def Yqa(a b:Option Nat):Prop:=
 match a with
 |some i=>match b with
   |some j=>i≠j
   |none=>True
 |none=>True
def Yib(x y:SV):Prop:=Yqa (blk (Yo3 x)) (blk y)
def chkP(s:S)(y:SV):List X->Prop
 | []=>True
 |x::l=>Yib (s.x x) y/\chkP s y l
def YAx:SV->Bool
 | .junk=>false
 |_=>true
def napB(x:SV)(b:Option Nat):Prop:=
 match b with
 |some i=>refs i x=false/\YAx x=true
 |none=>True
def napP(x y:SV):Prop:=napB x (blk y)
def chkA(s:S)(y:SV):List X->Prop
 | []=>True
 |x::l=>napP (s.x x) y/\chkA s y l
def chkG(ap:Bool)(s:S)(y:SV)(l:List X):Prop:=
 match ap with
 |false=>chkP s y l
 |true=>chkA s y l
def AL.ho:AL->HO
 | .box z=> .box z
 | .arr n size z=> .own false size n (YaS size z)
def YhV:S->List (Nat×AL)->S
 |s,[]=>s
 |s,(d,z)::l=>YhV ((s.upd (.new z.ho)).put (some d) (.ptr (lenH s.hp) 0)) l
def dq(r:List It->S->Prop)(d:Option Nat)(K:List It)(s:S)(o:Option Ef):Prop:=
 match o with
 |some ⟨p,v,.no⟩=>p/\r K (s.put d v)
 |_=>False
def Ygj:List It->List It
 | .dops _::K=>Ygj K
 | .dtr _::K=>Ygj K
 |K=>K
def YqU(r:List It->S->Prop)(body:VC)(d:Option Nat)(res:List VR)(s1:S)(K:List It):Prop:=
 ∃B:S->Prop,r (.code body:: .frame d res:: .inLoop B::Ygj K) s1/\∀s',B s'->r K s'
def dinl(r:List It->S->Prop)(d:Option Nat)(ys:List SV)(K:List It)(s:S)(o:VO)(b:Bool)(v:Option VF):Prop:=
 match o with
 | .call _=>match b with
   |true=>match v with
     |some vf=>YqU r vf.body d vf.res { fr:=padL vf.ntmps ys,saved:=s.fr::s.saved,hp:=s.hp} K
     |none=>False
   |false=>False
 |_=>False
def dct(E:Env)(r:List It->S->Prop)(d:Option Nat)(f:FuncId)(o:VO)(ys:List SV)(K:List It)(s:S)(c:Option Ctr):Prop:=
 match c with
 |some c=>(c.alias=true->YaG ys=true)/\r (.res none c.alias d (c.of (viewN false s.hp 3 ys))::K) s
 |none=>dinl r d ys K s o (E.lo f) (E.fn f)
def dcl(E:Env)(r:List It->S->Prop)(d:Option Nat)(o:VO)(xs:List SV)(K:List It)(s:S)(c:Option (FuncId×List SV)):Prop:=
 match c with
 |some (f,ys)=>dct E r d f o ys K s (E.ct f)
 |none=>psdD r d o xs K s (psd o xs)
def dpl(E:Env)(r:List It->S->Prop)(d:Option Nat)(o:VO)(xs:List SV)(K:List It)(s:S)(q:Bool):Prop:=
 match q with
 |true=>dq r d K s (eff s.hp (lenH s.hp) o xs)
 |false=>dcl E r d o xs K s (callee E o xs)
def dctG(r:List It->S->Prop)(gb:Bool)(d:Option Nat)(p:Prop)(K:List It)(s:S)(c:Option (Ctr×List SV)):Prop:=
 match c with
 |some (c,ys)=>p/\(c.alias=true->YaG ys=true)/\r (.res (some gb) c.alias d (c.of (viewN false s.hp 3 ys))::K) s
 |none=>False
def dgq(E:Env)(r:List It->S->Prop)(gb:Bool)(d:Option Nat)(o:VO)(xs:Prop×List SV)(K:List It)(s:S)(q:Bool):Prop:=
 match q with
 |true=>effG r gb d xs.1 K s (eff s.hp (lenH s.hp) o xs.2)
 |false=>dctG r gb d xs.1 K s (ctOf E o xs.2)
def dgd(E:Env)(r:List It->S->Prop)(d:Option Nat)(o:VO)(xs:List X)(K:List It)(s:S)(g:Option Bool):Prop:=
 match g with
 |some gb=>dgq E r gb d o (YT o gb (s.args xs)) K s o.quiet
 |none=>False
def dop(E:Env)(r:List It->S->Prop)(v:VOp)(K:List It)(s:S):Prop:=
 match v.g with
 |none=>dpl E r v.dst v.op (s.args v.xs) K s v.op.quiet
 |some (g,pol)=>dgd E r v.dst v.op v.xs K s (Yad (getL s.fr g) pol)
def YvJ(E:Env)(r:List It->S->Prop)(l:List DOp)(K:List It)(s:S):Prop:=
 match l with
 | []=>r K s
 | ⟨v,chk⟩::l=>chkG v.op.isAppend s (s.x (YcI v.xs)) chk/\dop E r v (.dops l::K) s
def YAr(r:List It->S->Prop)(t:DTr)(K:List It)(s:S):Prop:=
 match t with
 | .leaf=>r K s
 | .ops l t=>r (.dops l:: .dtr t::K) s
 | .br a b=>r (.dtr a::K) s/\r (.dtr b::K) s
def endK(Q:SV->List HO->Prop)(hp:List HO)(v:Option (Prop×List SV)):Prop:=
 match v with
 |some (p,vs)=>p/\Q (Ygk vs) hp
 |none=>False
def YAs(E:Env)(r:List It->S->Prop)(l:List VOp)(K:List It)(s:S):Prop:=
 match l with
 | []=>r K s
 |o::l=>match o.g with
   |none=>YoX E r o.dst o.op (s.args o.xs) (.ops l::K) s
   |some (g,pol)=>Yq1 E r o.dst o.op o.xs (.ops l::K) s (Yad (getL s.fr g) pol)
def YvI(E:Env)(r:List It->S->Prop)(c:VC)(K:List It)(s:S):Prop:=
 match c with
 | .skip=>r K s
 | .region l=>r (.ops l::K) s
 | .draw al l=>r (.dops l::K) (YhV s al)
 | .drawT al t=>r (.dtr t::K) (YhV s al)
 | .rangeFn g ps a b=>Yn9 E r ps a b K s (s.x g)
 | .seq a b=>r (.code a:: .code b::K) s
 | .cond x a b=>Yyi r a b K s (s.x x)
 | .block i c=>r (.code c:: .inBlock i::K) s
 | .scope c=>r (.code c:: .inScope::K) s
 | .loop c=>Loop r c K s leP
 | .exit i=>YoF r s (YbI i K)
 | .ret=>YoF r s (Yaf K)
 | .stuck=>False
def step(E:Env)(Q:SV->List HO->Prop)(vres:List VR)(r:List It->S->Prop)(K:List It)(s:S):Prop:=
 match K with
 | []=>endK Q s.hp (YaE s vres)
 |x::K=>match x with
   | .ops l=>YAs E r l K s
   | .dops l=>YvJ E r l K s
   | .dtr t=>YAr r t K s
   | .rfrm res _ _ _ _ j=>Yz8 r j K s.hp (YaE s res) s.saved
   | .rbeg=>r K s
   | .rend d=>YoV r d true K s.hp s.saved
   | .inBlock _=>r K s
   | .inScope=>r K s
   | .inLoop I=>I s
   | .frame d res=>YqW r d K s.hp (YaE s res) s.saved
   | .res none al d c=>YAt r al d K s c
   | .res (some gb) al d c=>YvK r gb al d K s c
   | .code c=>YvI E r c K s
def run(E:Env)(Q:SV->List HO->Prop)(vres:List VR):Nat->List It->S->Prop
 |0,_,_=>False
 |n+1,K,s=>step E Q vres (run E Q vres n) K s
section rules
variable (E:Env) (Q:SV->List HO->Prop) (vr:List VR) (n:Nat) (K:List It) (s:S) (r:List It->S->Prop)
theorem YEE:run E Q vr (n+1) [] s=endK Q s.hp (YaE s vr):=rfl
theorem YEF(hp:List HO)(p:Prop)(vs:List SV):endK Q hp (some (p,vs))=(p/\Q (Ygk vs) hp):=rfl
theorem r_nil:run E Q vr (n+1) (.ops []::K) s=run E Q vr n K s:=rfl
theorem r_op(d:Option Nat)(o:VO)(xs:List X)(l:List VOp):run E Q vr (n+1) (.ops (⟨d,none,o,xs⟩::l)::K) s=opK E (run E Q vr n) d o (s.args xs) (.ops l::K) s (callee E o (s.args xs)):=rfl
theorem YEI(d:Option Nat)(g:Nat)(pol:Bool)(o:VO)(xs:List X)(l:List VOp):run E Q vr (n+1) (.ops (⟨d,some (g,pol),o,xs⟩::l)::K) s=Yq1 E (run E Q vr n) d o xs (.ops l::K) s (Yad (getL s.fr g) pol):=rfl
theorem Yz1(d:Option Nat)(o:VO)(xs:List SV):YoX E r d o xs K s=opK E r d o xs K s (callee E o xs):=rfl
theorem r_op0(d:Option Nat)(o:VO)(xs:List SV):opK E r d o xs K s none=yldK r d o xs K s (yld o xs):=rfl
theorem YEQ(d:Option Nat)(o:VO)(xs:List SV):yldK r d o xs K s none=psdK r d o xs K s (psd o xs):=rfl
theorem YEK(d:Option Nat)(o:VO)(xs:List SV):psdK r d o xs K s none=effK r d K s (eff s.hp (lenH s.hp) o xs):=rfl
theorem YEL(d:Option Nat)(o:VO)(xs:List SV)(c:CRes):psdK r d o xs K s (some c)=r (.res none false d c::K) s:=rfl
theorem YER(d:Option Nat)(o:VO)(xs ys:List SV)(l:Nat):yldK r d o xs K s (some (l,ys))=yK r d l ys K s (YeE K) s.saved:=rfl
theorem r_y(d:Option Nat)(l l':Nat)(ys fr:List SV)(ps:List Nat)(a b:VC)(sv:List (List SV)):yK r d l ys K s (some (l',ps,a,b)) (fr::sv)=((l=l'/\lenL ys=lenN ps)/\r (.code a:: .rbeg:: .code b:: .rend d::K) { fr:=Ylv fr ps ys,saved:=s.fr::s.saved,hp:=s.hp}):=rfl
theorem YEM:run E Q vr (n+1) (.rbeg::K) s=run E Q vr n K s:=rfl
theorem Ywv(d:Option Nat):run E Q vr (n+1) (.rend d::K) s=YoV (run E Q vr n) d true K s.hp s.saved:=rfl
theorem YzZ(d:Option Nat)(b:Bool)(hp:List HO)(fr:List SV)(sv:List (List SV)):YoV r d b K hp (fr::sv)=r K (S.put { fr:=fr,saved:=sv,hp:=hp} d (.bool b)):=rfl
theorem Yww(res:List VR)(l:Nat)(ps:List Nat)(a b:VC)(j:Option VC):run E Q vr (n+1) (.rfrm res l ps a b j::K) s=Yz8 (run E Q vr n) j K s.hp (YaE s res) s.saved:=rfl
theorem Yz0(j:Option VC)(hp:List HO)(p:Prop)(vs fr:List SV)(sv:List (List SV)):Yz8 r j K hp (some (p,vs)) (fr::sv)=(p/\r (Yy1 j K) { fr:=fr,saved:=sv,hp:=hp}):=rfl
theorem Ysi(g:X)(ps:List Nat)(a b:VC):run E Q vr (n+1) (.code (.rangeFn g ps a b)::K) s=Yn9 E (run E Q vr n) ps a b K s (s.x g):=rfl
theorem Yvr(ps:List Nat)(a b:VC)(g:FuncId)(us cs:List SV):Yn9 E r ps a b K s (.fn (.func g) us cs)=Yn8 r ps a b K s us cs (E.fn g):=rfl
theorem Yvq(ps:List Nat)(a b:VC)(us cs:List SV)(nt:Nat)(res:List VR)(body:VC):Yn8 r ps a b K s us cs (some ⟨nt,res,body⟩)=(Ybu K=true/\∀l:Nat,r (.code body:: .rfrm res l ps a b none::K) { fr:=padL nt (us++(.fn (.yield l) [] []::cs)),saved:=s.fr::s.saved,hp:=s.hp}):=rfl
theorem YEz(al:List (Nat×AL))(l:List DOp):run E Q vr (n+1) (.code (.draw al l)::K) s=run E Q vr n (.dops l::K) (YhV s al):=rfl
theorem YzS(al:List (Nat×AL))(t:DTr):run E Q vr (n+1) (.code (.drawT al t)::K) s=run E Q vr n (.dtr t::K) (YhV s al):=rfl
theorem Yz4:run E Q vr (n+1) (.dtr .leaf::K) s=run E Q vr n K s:=rfl
theorem YEP(l:List DOp)(t:DTr):run E Q vr (n+1) (.dtr (.ops l t)::K) s=run E Q vr n (.dops l:: .dtr t::K) s:=rfl
theorem r_tbr(a b:DTr):run E Q vr (n+1) (.dtr (.br a b)::K) s=(run E Q vr n (.dtr a::K) s/\run E Q vr n (.dtr b::K) s):=rfl
theorem YE0(y:SV)(l:List X):chkG false s y l=chkP s y l:=rfl
theorem YE1(y:SV)(l:List X):chkG true s y l=chkA s y l:=rfl
theorem YEv:run E Q vr (n+1) (.dops []::K) s=run E Q vr n K s:=rfl
theorem r_dop(d:Option Nat)(o:VO)(xs:List X)(chk:List X)(l:List DOp):run E Q vr (n+1) (.dops (⟨⟨d,none,o,xs⟩,chk⟩::l)::K) s=(chkG o.isAppend s (s.x (YcI xs)) chk/\dpl E (run E Q vr n) d o (s.args xs) (.dops l::K) s o.quiet):=rfl
theorem YEw(d:Option Nat)(g:Nat)(pol:Bool)(o:VO)(xs:List X)(chk:List X)(l:List DOp):run E Q vr (n+1) (.dops (⟨⟨d,some (g,pol),o,xs⟩,chk⟩::l)::K) s=(chkG o.isAppend s (s.x (YcI xs)) chk/\dgd E (run E Q vr n) d o xs (.dops l::K) s (Yad (getL s.fr g) pol)):=rfl
theorem YEy(d:Option Nat)(o:VO)(xs:List SV):dpl E r d o xs K s true=dq r d K s (eff s.hp (lenH s.hp) o xs):=rfl
theorem YEx(d:Option Nat)(o:VO)(xs:List SV):dpl E r d o xs K s false=dcl E r d o xs K s (callee E o xs):=rfl
theorem r_dq(d:Option Nat)(p:Prop)(v:SV):dq r d K s (some ⟨p,v,.no⟩)=(p/\r K (s.put d v)):=rfl
theorem r_dq0(d:Option Nat):dq r d K s none=False:=rfl
theorem YEo(d:Option Nat)(o:VO)(xs ys:List SV)(f:FuncId):dcl E r d o xs K s (some (f,ys))=dct E r d f o ys K s (E.ct f):=rfl
theorem YEn(d:Option Nat)(o:VO)(xs:List SV):dcl E r d o xs K s none=psdD r d o xs K s (psd o xs):=rfl
theorem YzX(d:Option Nat)(o:VO)(xs:List SV):psdD r d o xs K s none=effD r d o.bad K s (eff s.hp (lenH s.hp) o xs):=rfl
theorem YzY(d:Option Nat)(o:VO)(xs:List SV)(c:CRes):psdD r d o xs K s (some c)=r (.res none false d c::K) s:=rfl
theorem YEB(d:Option Nat)(o:Option Ef):effD r d false K s o=effK r d K s o:=rfl
theorem YEq(d:Option Nat)(f:FuncId)(o:VO)(ys:List SV)(al:Bool)(c:List SV->CRes):dct E r d f o ys K s (some ⟨al,c⟩)=((al=true->YaG ys=true)/\r (.res none al d (c (viewN false s.hp 3 ys))::K) s):=rfl
theorem YEp(d:Option Nat)(f:FuncId)(o:VO)(ys:List SV):dct E r d f o ys K s none=dinl r d ys K s o (E.lo f) (E.fn f):=rfl
theorem YEu(d:Option Nat)(f:FuncId)(ys:List SV)(nt:Nat)(res:List VR)(body:VC):dinl r d ys K s (.call f) true (some ⟨nt,res,body⟩)=YqU r body d res { fr:=padL nt ys,saved:=s.fr::s.saved,hp:=s.hp} K:=rfl
theorem YzR(d:Option Nat)(f:FuncId)(ys:List SV)(v:Option VF):dinl r d ys K s (.call f) false v=False:=rfl
theorem r_dgd(d:Option Nat)(o:VO)(xs:List X)(gb:Bool):dgd E r d o xs K s (some gb)=dgq E r gb d o (YT o gb (s.args xs)) K s o.quiet:=rfl
theorem YEt(gb:Bool)(d:Option Nat)(o:VO)(p:Prop)(xs:List SV):dgq E r gb d o (p,xs) K s true=effG r gb d p K s (eff s.hp (lenH s.hp) o xs):=rfl
theorem YEs(gb:Bool)(d:Option Nat)(o:VO)(p:Prop)(xs:List SV):dgq E r gb d o (p,xs) K s false=dctG r gb d p K s (ctOf E o xs):=rfl
theorem YEr(gb:Bool)(d:Option Nat)(p:Prop)(xs:List SV)(al:Bool)(c:List SV->CRes):dctG r gb d p K s (some (⟨al,c⟩,xs))=(p/\(al=true->YaG xs=true)/\r (.res (some gb) al d (c (viewN false s.hp 3 xs))::K) s):=rfl
theorem r_op1(d:Option Nat)(o:VO)(xs ys:List SV)(f:FuncId):opK E r d o xs K s (some (f,ys))=Yqu E r d f ys K s (E.ct f):=rfl
theorem r_eff(d:Option Nat)(p:Prop)(v:SV)(u:Upd):effK r d K s (some ⟨p,v,u⟩)=(p/\r K ((s.upd u).put d v)):=rfl
theorem YEA(d:Option Nat):effK r d K s none=False:=rfl
theorem YEm(d:Option Nat)(f:FuncId)(xs:List SV)(al:Bool)(c:List SV->CRes):Yqu E r d f xs K s (some ⟨al,c⟩)=((al=true->YaG xs=true)/\r (.res none al d (c (viewN false s.hp 3 xs))::K) s):=rfl
theorem YzO(d:Option Nat)(f:FuncId)(xs:List SV):Yqu E r d f xs K s none=inlK r d xs K s (E.fn f):=rfl
theorem r_inl(d:Option Nat)(xs:List SV)(nt:Nat)(res:List VR)(b:VC):inlK r d xs K s (some ⟨nt,res,b⟩)=r (.code b:: .frame d res::K) { fr:=padL nt xs,saved:=s.fr::s.saved,hp:=s.hp}:=rfl
theorem r_g(d:Option Nat)(o:VO)(xs:List X)(gb:Bool):Yq1 E r d o xs K s (some gb)=gK E r gb d o (YT o gb (s.args xs)) K s o.quiet:=rfl
theorem r_gq(gb:Bool)(d:Option Nat)(o:VO)(p:Prop)(xs:List SV):gK E r gb d o (p,xs) K s true=effH r gb d p K s (eff s.hp (lenH s.hp) o xs):=rfl
theorem r_gc(gb:Bool)(d:Option Nat)(o:VO)(p:Prop)(xs:List SV):gK E r gb d o (p,xs) K s false=Yqt E r gb d o p xs K s (ctOf E o xs):=rfl
theorem YEC(gb:Bool)(d:Option Nat)(p q:Prop)(v:SV):effG r gb d p K s (some ⟨q,v,.no⟩)=(p/\(gb=true->q)/\r K (s.put d (.opt gb v))):=rfl
theorem YED(gb:Bool)(d:Option Nat)(p q:Prop)(v:SV):effH r gb d p K s (some ⟨q,v,.no⟩)=(p/\(gb=true->q)/\r K (s.put d (.opt gb v))):=rfl
theorem YzU(gb:Bool)(d:Option Nat)(p:Prop):effH r gb d p K s none=(gb=false/\∃v:SV,r K (s.put d (.opt gb v))):=rfl
theorem YzT(gb:Bool)(d:Option Nat)(p:Prop):effG r gb d p K s none=False:=rfl
theorem YzP(gb:Bool)(d:Option Nat)(o:VO)(p:Prop)(xs ys:List SV)(al:Bool)(c:List SV->CRes):Yqt E r gb d o p xs K s (some (⟨al,c⟩,ys))=(p/\(al=true->YaG ys=true)/\r (.res (some gb) al d (c (viewN false s.hp 3 ys))::K) s):=rfl
theorem Yvn(gb:Bool)(d:Option Nat)(o:VO)(p:Prop)(xs:List SV):Yqt E r gb d o p xs K s none=(p/\(gb=true->YoX E r d o xs K s)/\(gb=false->r K (s.put d .junk))):=rfl
theorem r_fin(al:Bool)(d:Option Nat)(v:SV)(hs:List HO):run E Q vr (n+1) (.res none al d (.fin v hs)::K) s=(run E Q vr n K (S.put { fr:=s.fr,saved:=s.saved,hp:=s.hp++YV (lenH s.hp) hs} d (shift (lenH s.hp) v))):=rfl
theorem r_pre(al:Bool)(d:Option Nat)(p:Prop)(c:CRes):run E Q vr (n+1) (.res none al d (.pre p c)::K) s=(p/\run E Q vr n (.res none al d c::K) s):=rfl
theorem r_imp(al:Bool)(d:Option Nat)(p:Prop)(c:CRes):run E Q vr (n+1) (.res none al d (.imp p c)::K) s=(p->run E Q vr n (.res none al d c::K) s):=rfl
theorem r_all(al:Bool)(d:Option Nat)(α:Type)(c:α->CRes):run E Q vr (n+1) (.res none al d (.all α c)::K) s=(∀x:α,run E Q vr n (.res none al d (c x)::K) s):=rfl
theorem r_ex(al:Bool)(d:Option Nat)(α:Type)(c:α->CRes):run E Q vr (n+1) (.res none al d (.ex α c)::K) s=(∃x:α,run E Q vr n (.res none al d (c x)::K) s):=rfl
theorem YEG(gb al:Bool)(d:Option Nat)(v:SV):run E Q vr (n+1) (.res (some gb) al d (.fin v [])::K) s=(run E Q vr n K (s.put d (.opt gb (shift (lenH s.hp) v)))):=rfl
theorem YEJ(gb al:Bool)(d:Option Nat)(p:Prop)(c:CRes):run E Q vr (n+1) (.res (some gb) al d (.pre p c)::K) s=((gb=true->p)/\run E Q vr n (.res (some gb) al d c::K) s):=rfl
theorem r_exg(gb al:Bool)(d:Option Nat)(α:Type)(c:α->CRes):run E Q vr (n+1) (.res (some gb) al d (.ex α c)::K) s=(∃x:α,run E Q vr n (.res (some gb) al d (c x)::K) s):=rfl
theorem Ysg(i:Nat):run E Q vr (n+1) (.inBlock i::K) s=run E Q vr n K s:=rfl
theorem Ysh:run E Q vr (n+1) (.inScope::K) s=run E Q vr n K s:=rfl
theorem Yz2(c:VC):run E Q vr (n+1) (.code (.scope c)::K) s=run E Q vr n (.code c:: .inScope::K) s:=rfl
theorem Yvp(I:S->Prop):run E Q vr (n+1) (.inLoop I::K) s=I s:=rfl
theorem Ysf(d:Option Nat)(res:List VR):run E Q vr (n+1) (.frame d res::K) s=YqW (run E Q vr n) d K s.hp (YaE s res) s.saved:=rfl
theorem Yvo(d:Option Nat)(hp:List HO)(p:Prop)(vs fr:List SV)(sv:List (List SV)):YqW r d K hp (some (p,vs)) (fr::sv)=(p/\r K (S.put { fr:=fr,saved:=sv,hp:=hp} d (Ygk vs))):=rfl
theorem YEO:run E Q vr (n+1) (.code .skip::K) s=run E Q vr n K s:=rfl
theorem Yz3:run E Q vr (n+1) (.code .stuck::K) s=False:=rfl
theorem Yvs(l:List VOp):run E Q vr (n+1) (.code (.region l)::K) s=run E Q vr n (.ops l::K) s:=rfl
theorem r_seq(a b:VC):run E Q vr (n+1) (.code (.seq a b)::K) s=run E Q vr n (.code a:: .code b::K) s:=rfl
theorem Ywt(x:X)(a b:VC):run E Q vr (n+1) (.code (.cond x a b)::K) s=Yyi (run E Q vr n) a b K s (s.x x):=rfl
theorem YzQ(a b:VC)(c:Bool):Yyi r a b K s (.bool c)=((c=true->r (.code a::K) s)/\(c=false->r (.code b::K) s)):=rfl
theorem YzN(i:Nat)(c:VC):run E Q vr (n+1) (.code (.block i c)::K) s=run E Q vr n (.code c:: .inBlock i::K) s:=rfl
theorem Ywu(i:Nat):run E Q vr (n+1) (.code (.exit i)::K) s=YoF (run E Q vr n) s (YbI i K):=rfl
theorem YzV(K':List It):YoF r s (.go K')=r K' s:=rfl
theorem YzW(d:Option Nat)(K':List It):YoF r s (.jump d K')=YoV r d false K' s.hp s.saved:=rfl
theorem YEN:run E Q vr (n+1) (.code .ret::K) s=YoF (run E Q vr n) s (Yaf K):=rfl
theorem YEH(c:VC):run E Q vr (n+1) (.code (.loop c)::K) s=Loop (run E Q vr n) c K s leP:=rfl
theorem YAg:s.args []=[]:=rfl
theorem YAh(x:X)(l:List X):s.args (x::l)=s.x x::s.args l:=rfl
theorem s_xt(i:Nat):s.x (.tm i)=getL s.fr i:=rfl
theorem s_xc(v:SV):s.x (.cn v)=v:=rfl
end rules
end Go.Vx
namespace Go.Vx
open Go.RowKit
inductive BK where
 |gone|nil|blk (b cap n:Nat)
def Free(bs:List BK)(b:Nat):Prop:=∀(i b' c n:Nat),bs[i]? =some (.blk b' c n)->b'≠b
def keyV(kk:List IntKind)(l:List Int):Value:= .agg ((kk.zip l).map fun p=> .int p.1 p.2).toArray
def IK.ok:IK->Obj->Prop
 | .ints n C,o=> ∃vs T,o= .cells vs T (0,0)/\n<=vs.size/\∀k,k<n->∃v,vs[k]? =some (.int .i64 v)/\C k v
 | .map kk C,o=> ∃es clock,o= .map es clock/\∀e∈es.toList,∃l v,l.length=kk.length/\e.key=keyV kk l/\e.val= .int .i64 v/\C l v
structure Bd where
 n:Nat
 F:Nat->Prop
 I:Nat->Option IK
 up:∀b,n<=b->I b=none->F b
 ex:∀b,F b->I b=none
instance :Coe Bd Nat:=⟨Bd.n⟩
def Fr(B:Bd)(bs:List BK)(b:Nat):Prop:=Free bs b/\B.F b
theorem Ybq{b:Nat}:Free [] b:=fun _ _ _ _ h=>by simp at h
def Cells(w:World)(b off:Nat)(l:List Value):Prop:=
 ∃cs T fz,w.heap[b]? =some (.cells cs T fz)/\∀(j:Nat)(v:Value),l[j]? =some v->cs[off+j]? =some v
mutual
inductive XRep (w:World) (bs:List BK) (B:Bd):SV->Value->Prop where
 |int (k:IntKind) (n:Int):XRep w bs B (.int k n) (.int k n)
 |bool (b:Bool):XRep w bs B (.bool b) (.bool b)
 |val (v:Value):XRep w bs B (.val v) v
 |nil:XRep w bs B .nil (.slice none 0 0)
 |junk (v:Value):XRep w bs B .junk v
 |agg (cs:List SV) (vs:List Value) (h:XRepL w bs B cs vs):XRep w bs B (.agg cs) (.agg vs.toArray)
 |tup (cs:List SV) (vs:List Value) (h:XRepL w bs B cs vs):XRep w bs B (.tup cs) (.tuple vs.toArray)
 |fn (f:Fn) (fs cs:List SV) (us vs:List Value) (h:XRepL w bs B fs us) (h':XRepL w bs B cs vs):XRep w bs B (.fn f fs cs) (.func f us.toArray vs.toArray)
 |iface (t:TypeId) (x:SV) (v:Value) (h:XRep w bs B x v):XRep w bs B (.iface t x) (.iface t v)
 |vs (t z:Bool) (n size:Nat) (get:Nat->List SV) (a:Option Addr) (cap:Nat) (vals:Nat->List Value) (hz:z=a.isNone) (hc:n<=cap) (hn:a=none->n=0/\cap=0)
     (hcell:∀k,k<n->∃ad,a=some ad/\ad.spot=none/\Fr B bs ad.block/\(t=true->B<=ad.block)/\(vals k).length=size/\Cells w ad.block (ad.off+k*size) (vals k))
     (h:∀k,k<n->XRepL w bs B (get k) (vals k)):XRep w bs B (.vs t z n size get) (.slice a n cap)
 |xp (t:Bool) (cs:List SV) (ad:Addr) (vals:List Value) (hs:ad.spot=none) (hf:Fr B bs ad.block) (ht:t=true->B<=ad.block) (hc:Cells w ad.block ad.off vals)
     (h:XRepL w bs B cs vals):XRep w bs B (.xp t cs) (.pointer (some ad))
 |row (n:Nat) (C:Nat->Int->Prop) (b cap:Nat) (h:B.I b=some (.ints n C)) (hc:n<=cap):XRep w bs B (.row n C) (.slice (some ⟨b,0,none⟩) n cap)
 |rcell (D:Int->Prop) (n:Nat) (C:Nat->Int->Prop) (k b:Nat) (hD:D=C k) (h:B.I b=some (.ints n C)) (hk:k<n):XRep w bs B (.rcell D) (.pointer (some ⟨b,k,none⟩))
 |imap (kk:List IntKind) (C:List Int->Int->Prop) (b:Nat) (h:B.I b=some (.map kk C)):XRep w bs B (.imap kk C) (.map (some b))
inductive XRepL (w:World) (bs:List BK) (B:Bd):List SV->List Value->Prop where
 |nil:XRepL w bs B [] []
 |cons (x:SV) (v:Value) (l:List SV) (vs:List Value) (h:XRep w bs B x v) (h':XRepL w bs B l vs):XRepL w bs B (x::l) (v::vs)
end
mutual
inductive Rep (w:World) (bs:List BK) (B:Bd):SV->Value->Prop where
 |x (s:SV) (v:Value) (h:XRep w bs B s v):Rep w bs B s v
 |agg (cs:List SV) (vs:List Value) (h:RepL w bs B cs vs):Rep w bs B (.agg cs) (.agg vs.toArray)
 |tup (cs:List SV) (vs:List Value) (h:RepL w bs B cs vs):Rep w bs B (.tup cs) (.tuple vs.toArray)
 |fn (f:Fn) (fs cs:List SV) (us vs:List Value) (h:RepL w bs B fs us) (h':RepL w bs B cs vs):Rep w bs B (.fn f fs cs) (.func f us.toArray vs.toArray)
 |iface (t:TypeId) (x:SV) (v:Value) (h:Rep w bs B x v):Rep w bs B (.iface t x) (.iface t v)
 |ptr (i off b n:Nat) (h:bs[i]? =some (.blk b n n)):Rep w bs B (.ptr i off) (.pointer (some ⟨b,off,none⟩))
 |own (i lo n size b cap m:Nat) (ad:Addr) (h:bs[i]? =some (.blk b cap m)) (hl:lo+n<=m) (ha:ad=⟨b,lo*size,none⟩\/(cap=lo/\0<lo)):Rep w bs B (.own i lo n size) (.slice (some ad) n (cap-lo))
 |ownNil (i size:Nat) (h:bs[i]? =some .nil):Rep w bs B (.own i 0 0 size) (.slice none 0 0)
 |elem (i k off size b cap m:Nat) (h:bs[i]? =some (.blk b cap m)) (hk:k<m):Rep w bs B (.elem i k off size) (.pointer (some ⟨b,k*size+off,none⟩))
 |smp (i b:Nat) (h:bs[i]? =some (.blk b 0 0)):Rep w bs B (.smp i) (.map (some b))
 |optT (x:SV) (v:Value) (h:Rep w bs B x v):Rep w bs B (.opt true x) v
 |optF (x:SV):Rep w bs B (.opt false x) undef
 |cut (x:SV) (a:Option Addr) (n cap:Nat) (h:Rep w bs B x (.slice a n cap)):Rep w bs B (.cut x) (.slice a n n)
inductive RepL (w:World) (bs:List BK) (B:Bd):List SV->List Value->Prop where
 |nil:RepL w bs B [] []
 |cons (x:SV) (v:Value) (l:List SV) (vs:List Value) (h:Rep w bs B x v) (h':RepL w bs B l vs):RepL w bs B (x::l) (v::vs)
end
inductive RepLL (w:World) (bs:List BK) (B:Bd):List (List SV)->List (List Value)->Prop where
 |nil:RepLL w bs B [] []
 |cons (x:List SV) (v:List Value) (l:List (List SV)) (vs:List (List Value)) (h:RepL w bs B x v) (h':RepLL w bs B l vs):RepLL w bs B (x::l) (v::vs)
def HRep(w:World)(bs:List BK)(B:Bd)(i:Nat):HO->Prop
 | .gone=>bs[i]? =some .gone\/bs[i]? =none
 | .box cs=> ∃b vs T,bs[i]? =some (.blk b 0 0)/\w.heap[b]? =some (.cells vs T (0,0))/\RepL w bs B cs vs.toList
 | .smap l=> ∃b es clock,bs[i]? =some (.blk b 0 0)/\w.heap[b]? =some (.map es clock)/\∃ks:List ByteArray,es.toList.map (·.key)=ks.map .string/\ks.map (·.data.toList)=l/\l.Nodup
 | .own z size n get=>(bs[i]? =some .nil/\z=true/\n=0)\/
     ∃b cap vs T,bs[i]? =some (.blk b cap n)/\z=false/\w.heap[b]? =some (.cells vs T (0,0))/\vs.size=cap*size/\n<=cap/\
       ∀k,k<n->RepL w bs B (get k) ((vs.toList.drop (k*size)).take size)
structure Hp (w:World) (bs:List BK) (B:Bd) (hp:List HO):Prop where
 len:bs.length=lenH hp
 ent:∀i,HRep w bs B i (getH hp i)
 inj:∀(i j b c n c' n':Nat),bs[i]? =some (.blk b c n)->bs[j]? =some (.blk b c' n')->i=j
 lo:∀(i b c n:Nat),bs[i]? =some (.blk b c n)->B<=b/\b<w.heap.size
 reg:∀(b:Nat)(K:IK),B.I b=some K->Free bs b/\∃o,w.heap[b]? =some o/\K.ok o
theorem Hp.un{w:World}{bs:List BK}{B:Bd}{hp:List HO}(h:Hp w bs B hp){i b c n:Nat}(hb:bs[i]? =some (.blk b c n)):B.I b=none:=by
 cases hI:B.I b with
 |none=>rfl
 |some K=>exact absurd rfl ((h.reg b K hI).1 i b c n hb)
structure BelowI (B:Bd) (w w':World):Prop where
 os:w'.os=w.os
 tape:w'.tape=w.tape
 output:w'.output=w.output
 size:w.heap.size<=w'.heap.size
 block:∀k,k<B.n->B.I k=none->w'.heap[k]? =w.heap[k]?
structure Cx0 extends World where
 F:Nat->Prop
 I:Nat->Option IK
 up:∀b,heap.size<=b->I b=none->F b
 ex:∀b,F b->I b=none
def Cx0.bd(c:Cx0):Bd:=⟨c.heap.size,c.F,c.I,c.up,c.ex⟩
structure Ext (c:Cx0) (J:Nat->Option IK):Prop where
 old:∀b,b<c.heap.size->J b=c.I b
 sub:∀b K,c.I b=some K->J b=some K
def Cx0.wI(c:Cx0)(J:Nat->Option IK)(h:Ext c J):Cx0:=
 { toWorld:=c.toWorld,F:=fun b=>c.F b/\J b=none,I:=J,ex:=fun _ hb=>hb.2,
   up:=fun b hb hJ=>⟨c.up b hb (by cases hI:c.I b with|none=>rfl|some K=>rw[h.sub b K hI]at hJ;cases hJ),hJ⟩}
structure Cx extends Cx0 where
 ks:List (Nat×Obj)
def mark(D:Nat):Deferred:={ target:= .collected D,args:= #[]}
def isLp:Obj->Bool
 | .loop _=>true
 |_=>false
structure Oth (w:World) (bs:List BK) (B:Bd) (ks:List (Nat×Obj)) (as:List (List Deferred)):Prop where
 kn:∀x∈ks,B<=x.1/\Free bs x.1/\w.heap[x.1]? =some x.2/\isLp x.2=true
 nd:(ks.map (·.1)).Nodup
 ms:∃mss:List (List Nat),as=mss.map (·.map mark)/\mss.flatten.Nodup/\∀D∈mss.flatten,B<=D/\Free bs D/\w.heap[D]? =some (.deferred (some []))
def Rel(w0:Cx)(as:List (List Deferred))(s:S)(tmps:List Value)(saved:List (List Value))(w:World):Prop:=
 ∃bs,RepL w bs w0.bd s.fr tmps/\RepLL w bs w0.bd s.saved saved/\Hp w bs w0.bd s.hp/\BelowI w0.bd w0.toWorld w/\Oth w bs w0.bd w0.ks as
def Keeps(w:World)(bs:List BK)(w':World)(bs':List BK):Prop:=
 ∀b,Free bs b->∀o,w.heap[b]? =some o->w'.heap[b]? =some o/\Free bs' b
section
variable {w w':World} {bs bs':List BK} {B:Bd}
def KeepsC(w:World)(bs:List BK)(w':World)(bs':List BK):Prop:=
 ∀b,Free bs b->∀cs T fz,w.heap[b]? =some (.cells cs T fz)->w'.heap[b]? =some (.cells cs T fz)/\Free bs' b
theorem Keeps.c(h:Keeps w bs w' bs'):KeepsC w bs w' bs':=fun b hf _ _ _ ho=>h b hf _ ho
theorem Oth.keep{ks:List (Nat×Obj)}{as:List (List Deferred)}(hk:Keeps w bs w' bs')(h:Oth w bs B ks as):Oth w' bs' B ks as:=by
 refine⟨fun x hx=>?_,h.nd,?_⟩
 . obtain⟨h1,h2,h3,h4⟩:=h.kn x hx
   exact⟨h1,(hk _ h2 _ h3).2,(hk _ h2 _ h3).1,h4⟩
 . obtain⟨mss,h1,h2,h3⟩:=h.ms
   refine⟨mss,h1,h2,fun D hD=>?_⟩
   obtain⟨k1,k2,k3⟩:=h3 D hD
   exact⟨k1,(hk _ k2 _ k3).2,(hk _ k2 _ k3).1⟩
theorem Cells.keep{b off:Nat}{l:List Value}(hk:KeepsC w bs w' bs')(hf:Free bs b)(h:Cells w b off l):Cells w' b off l/\Free bs' b:=by
 obtain⟨cs,T,fz,h1,h2⟩:=h
 obtain⟨h3,h4⟩:=hk b hf _ _ _ h1
 exact⟨⟨cs,T,fz,h3,h2⟩,h4⟩
structure YbS (w:World) (bs:List BK) (B:Bd) (w':World) (bs':List BK) (B':Bd):Prop where
 n:B'.n=B.n
 I:∀b K,B.I b=some K->B'.I b=some K
 c:∀b,Fr B bs b->∀cs T fz,w.heap[b]? =some (.cells cs T fz)->w'.heap[b]? =some (.cells cs T fz)/\Fr B' bs' b
theorem KeepsC.g(h:KeepsC w bs w' bs'):YbS w bs B w' bs' B:=⟨rfl,fun _ _ h=>h,fun b hf cs T fz ho=>⟨(h b hf.1 cs T fz ho).1,(h b hf.1 cs T fz ho).2,hf.2⟩⟩
theorem Cells.keepG{B B':Bd}{b off:Nat}{l:List Value}(hk:YbS w bs B w' bs' B')(hf:Fr B bs b)(h:Cells w b off l):Cells w' b off l/\Fr B' bs' b:=by
 obtain⟨cs,T,fz,h1,h2⟩:=h
 obtain⟨h3,h4⟩:=hk.c b hf _ _ _ h1
 exact⟨⟨cs,T,fz,h3,h2⟩,h4⟩
mutual
theorem XRep.keepG{B B':Bd}(hk:YbS w bs B w' bs' B'):∀{s:SV}{v:Value},XRep w bs B s v->XRep w' bs' B' s v
 |_,_,.int k n=> .int k n
 |_,_,.bool b=> .bool b
 |_,_,.val v=> .val v
 |_,_,.nil=> .nil
 |_,_,.junk v=> .junk v
 |_,_,.agg cs vs h=> .agg cs vs (XRepL.keepG hk h)
 |_,_,.tup cs vs h=> .tup cs vs (XRepL.keepG hk h)
 |_,_,.fn f fs cs us vs h h'=> .fn f fs cs us vs (XRepL.keepG hk h) (XRepL.keepG hk h')
 |_,_,.iface t x v h=> .iface t x v (XRep.keepG hk h)
 |_,_,.vs t z n size get a cap vals hz hc hn hcell h=> .vs t z n size get a cap vals hz hc hn
     (fun k hkn=>by
       obtain⟨ad,h1,h2,h3,h4,h5,h6⟩:=hcell k hkn
       obtain⟨h7,h8⟩:=h6.keepG hk h3
       exact⟨ad,h1,h2,h8,fun ht=>by rw[hk.n];exact h4 ht,h5,h7⟩)
     (fun k hkn=>XRepL.keepG hk (h k hkn))
 |_,_,.xp t cs ad vals hs hf ht hc h=> .xp t cs ad vals hs (hc.keepG hk hf).2 (fun h=>by rw[hk.n];exact ht h) (hc.keepG hk hf).1 (XRepL.keepG hk h)
 |_,_,.row n C b cap h hc=> .row n C b cap (hk.I _ _ h) hc
 |_,_,.rcell D n C k b hD h hkn=> .rcell D n C k b hD (hk.I _ _ h) hkn
 |_,_,.imap kk C b h=> .imap kk C b (hk.I _ _ h)
theorem XRepL.keepG{B B':Bd}(hk:YbS w bs B w' bs' B'):∀{l:List SV}{vs:List Value},XRepL w bs B l vs->XRepL w' bs' B' l vs
 |_,_,.nil=> .nil
 |_,_,.cons x v l vs h h'=> .cons x v l vs (XRep.keepG hk h) (XRepL.keepG hk h')
end
theorem XRep.keepC(hk:KeepsC w bs w' bs'){s:SV}{v:Value}(h:XRep w bs B s v):XRep w' bs' B s v:=h.keepG hk.g
theorem XRepL.keepC(hk:KeepsC w bs w' bs'){l:List SV}{vs:List Value}(h:XRepL w bs B l vs):XRepL w' bs' B l vs:=XRepL.keepG hk.g h
theorem YaO(hk:Keeps w bs w' bs')(h:∀(b:Nat) (K:IK),B.I b=some K->Free bs b/\∃o,w.heap[b]? =some o/\K.ok o):∀(b:Nat)(K:IK),B.I b=some K->Free bs' b/\∃o,w'.heap[b]? =some o/\K.ok o:=by
 intro b K hI
 obtain⟨h1,o,h2,h3⟩:=h b K hI
 exact⟨(hk b h1 o h2).2,o,(hk b h1 o h2).1,h3⟩
theorem BelowI.refl(B:Bd)(w:World):BelowI B w w:=⟨rfl,rfl,rfl,YGH _,fun _ _ _=>rfl⟩
theorem BelowI.trans{B:Bd}{a b c:World}(h:BelowI B a b)(k:BelowI B b c):BelowI B a c:=
 ⟨k.os.trans h.os,k.tape.trans h.tape,k.output.trans h.output,YGF h.size k.size,fun i hi hI=>(k.block i hi hI).trans (h.block i hi hI)⟩
theorem BelowI.of{B:Bd}{w w':World}(h:Below B.n w w'):BelowI B w w':=⟨h.os,h.tape,h.output,h.size,fun k hk _=>h.block k hk⟩
def Stays(e:Option Nat)(bs bs':List BK):Prop:=∀(i:Nat)(x:BK),e≠some i->bs[i]? =some x->x≠ .gone->bs'[i]? =some x
def Yvc(e:Option Nat)(s:SV):Prop:=∀i,e=some i->refs i s=false
def YnV(e:Option Nat)(s:List SV):Prop:=∀i,e=some i->YhA i s=false
theorem YP{i j:Nat}(h:YHf i j=false):i≠j:=Nat.ne_of_beq_eq_false h
mutual
theorem Rep.keepG{e:Option Nat}{B B':Bd}(hk:YbS w bs B w' bs' B')(hb:Stays e bs bs'):∀{s:SV}{v:Value},Rep w bs B s v->Yvc e s->Rep w' bs' B' s v
 |_,_,.x s v h,_=> .x s v (h.keepG hk)
 |_,_,.agg cs vs h,hn=> .agg cs vs (RepL.keepG hk hb h (fun i hi=>by have:=hn i hi;simpa [refs]using this))
 |_,_,.tup cs vs h,hn=> .tup cs vs (RepL.keepG hk hb h (fun i hi=>by have:=hn i hi;simpa [refs]using this))
 |_,_,.fn f fs cs us vs h h',hn=> .fn f fs cs us vs (RepL.keepG hk hb h (fun i hi=>by have:=hn i hi;simp [refs]at this;exact this.1))
     (RepL.keepG hk hb h' (fun i hi=>by have:=hn i hi;simp [refs]at this;exact this.2))
 |_,_,.iface t x v h,hn=> .iface t x v (Rep.keepG hk hb h (fun i hi=>by have:=hn i hi;simpa [refs]using this))
 |_,_,.ptr i off b n h,hn=> .ptr i off b n (hb i _ (fun he=>by have:=YP (hn i he);exact this rfl) h (by simp))
 |_,_,.own i lo n size b cap m ad h hl ha,hn=> .own i lo n size b cap m ad (hb i _ (fun he=>by have:=YP (hn i he);exact this rfl) h (by simp)) hl ha
 |_,_,.ownNil i size h,hn=> .ownNil i size (hb i _ (fun he=>by have:=YP (hn i he);exact this rfl) h (by simp))
 |_,_,.elem i k off size b cap m h hkm,hn=> .elem i k off size b cap m (hb i _ (fun he=>by have:=YP (hn i he);exact this rfl) h (by simp)) hkm
 |_,_,.smp i b h,hn=> .smp i b (hb i _ (fun he=>by have:=YP (hn i he);exact this rfl) h (by simp))
 |_,_,.optT x v h,hn=> .optT x v (Rep.keepG hk hb h (fun i hi=>by have:=hn i hi;simpa [refs]using this))
 |_,_,.optF x,_=> .optF x
 |_,_,.cut x a n cap h,hn=> .cut x a n cap (Rep.keepG hk hb h (fun i hi=>by have:=hn i hi;simpa [refs]using this))
theorem RepL.keepG{e:Option Nat}{B B':Bd}(hk:YbS w bs B w' bs' B')(hb:Stays e bs bs'):∀{l:List SV}{vs:List Value},RepL w bs B l vs->YnV e l->RepL w' bs' B' l vs
 |_,_,.nil,_=> .nil
 |_,_,.cons x v l vs h h',hn=> .cons x v l vs (Rep.keepG hk hb h (fun i hi=>by have:=hn i hi;simp [YhA]at this;exact this.1))
     (RepL.keepG hk hb h' (fun i hi=>by have:=hn i hi;simp [YhA]at this;exact this.2))
end
theorem Rep.keepC{e:Option Nat}(hk:KeepsC w bs w' bs')(hb:Stays e bs bs'){s:SV}{v:Value}(h:Rep w bs B s v)(hn:Yvc e s):Rep w' bs' B s v:=h.keepG hk.g hb hn
theorem RepL.keepC{e:Option Nat}(hk:KeepsC w bs w' bs')(hb:Stays e bs bs'){l:List SV}{vs:List Value}(h:RepL w bs B l vs)(hn:YnV e l):RepL w' bs' B l vs:=RepL.keepG hk.g hb h hn
theorem YdN{s:SV}:Yvc none s:=fun _ h=>by cases h
theorem Yj{s:List SV}:YnV none s:=fun _ h=>by cases h
theorem RepLL.keepG{B B':Bd}(hk:YbS w bs B w' bs' B')(hb:Stays none bs bs'):∀{l:List (List SV)}{vs:List (List Value)},RepLL w bs B l vs->RepLL w' bs' B' l vs
 |_,_,.nil=> .nil
 |_,_,.cons x v l vs h h'=> .cons x v l vs (h.keepG hk hb Yj) (RepLL.keepG hk hb h')
theorem RepLL.keepC(hk:KeepsC w bs w' bs')(hb:Stays none bs bs'){l:List (List SV)}{vs:List (List Value)}(h:RepLL w bs B l vs):RepLL w' bs' B l vs:=RepLL.keepG hk.g hb h
theorem XRep.keep(hk:Keeps w bs w' bs'){s:SV}{v:Value}(h:XRep w bs B s v):XRep w' bs' B s v:=h.keepC hk.c
theorem XRepL.keep(hk:Keeps w bs w' bs'){l:List SV}{vs:List Value}(h:XRepL w bs B l vs):XRepL w' bs' B l vs:=XRepL.keepC hk.c h
theorem Rep.keep{e:Option Nat}(hk:Keeps w bs w' bs')(hb:Stays e bs bs'){s:SV}{v:Value}(h:Rep w bs B s v)(hn:Yvc e s):Rep w' bs' B s v:=h.keepC hk.c hb hn
theorem RepL.keep{e:Option Nat}(hk:Keeps w bs w' bs')(hb:Stays e bs bs'){l:List SV}{vs:List Value}(h:RepL w bs B l vs)(hn:YnV e l):RepL w' bs' B l vs:=RepL.keepC hk.c hb h hn
theorem RepLL.keep(hk:Keeps w bs w' bs')(hb:Stays none bs bs'){l:List (List SV)}{vs:List (List Value)}(h:RepLL w bs B l vs):RepLL w' bs' B l vs:=RepLL.keepC hk.c hb h
theorem XRep.int_inv{k:IntKind}{n:Int}{v:Value}(h:XRep w bs B (.int k n) v):v= .int k n:=by cases h;rfl
theorem Rep.int_inv{k:IntKind}{n:Int}{v:Value}(h:Rep w bs B (.int k n) v):v= .int k n:=by cases h with|x _ _ h=>cases h;rfl
theorem Rep.bool_inv{b:Bool}{v:Value}(h:Rep w bs B (.bool b) v):v= .bool b:=by cases h with|x _ _ h=>cases h;rfl
theorem Rep.val_inv{u v:Value}(h:Rep w bs B (.val u) v):v=u:=by cases h with|x _ _ h=>cases h;rfl
theorem Rep.nil_inv{v:Value}(h:Rep w bs B .nil v):v= .slice none 0 0:=by cases h with|x _ _ h=>cases h;rfl
mutual
theorem XRepL.rep:∀{l:List SV}{vs:List Value},XRepL w bs B l vs->RepL w bs B l vs
 |_,_,.nil=> .nil
 |_,_,.cons x v l vs h h'=> .cons x v l vs (.x x v h) (XRepL.rep h')
end
theorem Rep.agg_inv{cs:List SV}{v:Value}(h:Rep w bs B (.agg cs) v):∃vs:List Value,v= .agg vs.toArray/\RepL w bs B cs vs:=by
 cases h with
 |x _ _ h=>cases h with|agg _ vs h=>exact⟨vs,rfl,h.rep⟩
 |agg _ vs h=>exact⟨vs,rfl,h⟩
theorem Rep.tup_inv{cs:List SV}{v:Value}(h:Rep w bs B (.tup cs) v):∃vs:List Value,v= .tuple vs.toArray/\RepL w bs B cs vs:=by
 cases h with
 |x _ _ h=>cases h with|tup _ vs h=>exact⟨vs,rfl,h.rep⟩
 |tup _ vs h=>exact⟨vs,rfl,h⟩
theorem Rep.fn_inv{f:Fn}{a c:List SV}{v:Value}(h:Rep w bs B (.fn f a c) v):∃us vs:List Value,v= .func f us.toArray vs.toArray/\RepL w bs B a us/\RepL w bs B c vs:=by
 cases h with
 |x _ _ h=>cases h with|fn _ _ _ us vs h h'=>exact⟨us,vs,rfl,h.rep,h'.rep⟩
 |fn _ _ _ us vs h h'=>exact⟨us,vs,rfl,h,h'⟩
theorem Rep.iface_inv{t:TypeId}{x:SV}{v:Value}(h:Rep w bs B (.iface t x) v):∃u,v= .iface t u/\Rep w bs B x u:=by
 cases h with
 |x _ _ h=>cases h with|iface _ _ u h=>exact⟨u,rfl,.x _ _ h⟩
 |iface _ _ u h=>exact⟨u,rfl,h⟩
theorem Rep.ptr_inv{i off:Nat}{v:Value}(h:Rep w bs B (.ptr i off) v):∃b n,bs[i]? =some (.blk b n n)/\v= .pointer (some ⟨b,off,none⟩):=by
 cases h with
 |x _ _ h=>cases h
 |ptr _ _ b n h=>exact⟨b,n,h,rfl⟩
theorem Rep.smp_inv{i:Nat}{v:Value}(h:Rep w bs B (.smp i) v):∃b,bs[i]? =some (.blk b 0 0)/\v= .map (some b):=by
 cases h with
 |x _ _ h=>cases h
 |smp _ b h=>exact⟨b,h,rfl⟩
theorem Rep.rcell_inv{D:Int->Prop}{v:Value}(h:Rep w bs B (.rcell D) v):∃n C k b,D=C k/\B.I b=some (.ints n C)/\k<n/\v= .pointer (some ⟨b,k,none⟩):=by
 cases h with
 |x _ _ h=>cases h with|rcell _ n C k b hD h hk=>exact⟨n,C,k,b,hD,h,hk,rfl⟩
theorem Rep.imap_inv{kk:List IntKind}{C:List Int->Int->Prop}{v:Value}(h:Rep w bs B (.imap kk C) v):∃b,B.I b=some (.map kk C)/\v= .map (some b):=by
 cases h with
 |x _ _ h=>cases h with|imap _ _ b h=>exact⟨b,h,rfl⟩
theorem Rep.elem_inv{i k off size:Nat}{v:Value}(h:Rep w bs B (.elem i k off size) v):∃b c n,bs[i]? =some (.blk b c n)/\v= .pointer (some ⟨b,k*size+off,none⟩)/\k<n:=by
 cases h with
 |x _ _ h=>cases h
 |elem _ _ _ _ b c n h hk=>exact⟨b,c,n,h,rfl,hk⟩
theorem RepL.cons_inv{x:SV}{l:List SV}{vs:List Value}(h:RepL w bs B (x::l) vs):∃v vs',vs=v::vs'/\Rep w bs B x v/\RepL w bs B l vs':=by
 cases h with|cons _ v _ vs h h'=>exact⟨v,vs,rfl,h,h'⟩
theorem RepL.nil_inv{vs:List Value}(h:RepL w bs B [] vs):vs=[]:=by cases h;rfl
theorem RepL.length:∀{l:List SV}{vs:List Value},RepL w bs B l vs->lenL l=vs.length
 |_,_,.nil=>rfl
 |_,_,.cons x v l vs h h'=>by simp [lenL,RepL.length h']
theorem RepL.get:∀{l:List SV}{vs:List Value}(_:RepL w bs B l vs)(n:Nat){d:Value},Rep w bs B (getL l n) (vs.getD n d)
 |_,_,.nil,n,d=>by cases n <;> exact .x _ _ (.junk _)
 |_,_,.cons x v l vs h h',0,d=>by simpa [getL]using h
 |_,_,.cons x v l vs h h',n+1,d=>by simpa [getL]using RepL.get h' n (d:=d)
theorem RepL.get?:∀{l:List SV}{vs:List Value}(_:RepL w bs B l vs)(n:Nat),n<lenL l->∃v,vs[n]? =some v/\Rep w bs B (getL l n) v
 |_,_,.nil,n,h=>by simp [lenL]at h
 |_,_,.cons x v l vs h h',0,_=>⟨v,rfl,h⟩
 |_,_,.cons x v l vs h h',n+1,hn=>by
   obtain⟨u,h1,h2⟩:=RepL.get? h' n (by simpa [lenL]using hn)
   exact⟨u,by simpa using h1,h2⟩
theorem RepL.set:∀{l:List SV}{vs:List Value}(_:RepL w bs B l vs)(n:Nat){x:SV}{v:Value},Rep w bs B x v->RepL w bs B (setL l n x) (vs.set n v)
 |_,_,.nil,n,x,v,_=>by cases n <;> exact .nil
 |_,_,.cons _ _ l vs _ h',0,x,v,hx=> .cons _ _ _ _ hx h'
 |_,_,.cons y u l vs h h',n+1,x,v,hx=> .cons _ _ _ _ h (RepL.set h' n hx)
theorem RepL.take:∀{l:List SV}{vs:List Value}(_:RepL w bs B l vs)(n:Nat),RepL w bs B (YO n l) (vs.take n)
 |_,_,_,0=>by simp only[YO,List.take_zero];exact .nil
 |_,_,.nil,n+1=>by simp only[YO,List.take_nil];exact .nil
 |_,_,.cons x v l vs h h',n+1=>by simp only[YO,List.take_succ_cons];exact .cons _ _ _ _ h (RepL.take h' n)
theorem RepL.drop:∀{l:List SV}{vs:List Value}(_:RepL w bs B l vs)(n:Nat),RepL w bs B (YJ n l) (vs.drop n)
 |_,_,h,0=>by simpa only[YJ,List.drop_zero]using h
 |_,_,.nil,n+1=>by simp only[YJ,List.drop_nil];exact .nil
 |_,_,.cons x v l vs h h',n+1=>by simp only[YJ,List.drop_succ_cons];exact RepL.drop h' n
theorem RepL.append:∀{l r:List SV}{vs us:List Value},RepL w bs B l vs->RepL w bs B r us->RepL w bs B (l++r) (vs++us)
 |_,_,_,_,.nil,h=>h
 |_,_,_,_,.cons x v l vs h h',hr=> .cons _ _ _ _ h (RepL.append h' hr)
def YM(cs:List Value)(off:Nat)(vs:List Value):List Value:=cs.take off++vs++cs.drop (off+vs.length)
theorem RepL.splice:∀{l:List SV}{cs:List Value}(_:RepL w bs B l cs)(off:Nat){xs:List SV}{vs:List Value}(_:RepL w bs B xs vs),off+lenL xs<=lenL l->
   RepL w bs B (Yah l off xs) (YM cs off vs)
 |l,_,h,0,_,_,.nil,_=>by cases l <;> simpa [Yah,YM]using h
 |_,_,.nil,0,_,_,.cons ..,hl=>by simp [lenL]at hl
 |_,_,.cons x v l cs h h',0,_,_,.cons y u xs vs hy hx,hl=>by
   have:=RepL.splice h' 0 hx (by simpa [lenL]using hl)
   simpa [Yah,YM]using RepL.cons y u _ _ hy (by simpa [YM]using this)
 |_,_,.nil,n+1,_,_,hx,hl=>by simp [lenL]at hl
 |_,_,.cons x v l cs h h',n+1,xs,vs,hx,hl=>by
   have:=RepL.splice h' n hx (by simp [lenL]at hl⊢;omega)
   have e:n+1+vs.length=(n+vs.length)+1:=by omega
   simpa [Yah,YM,e]using RepL.cons x v _ _ h (by simpa [YM]using this)
theorem XRepL.length:∀{l:List SV}{vs:List Value},XRepL w bs B l vs->lenL l=vs.length
 |_,_,.nil=>rfl
 |_,_,.cons x v l vs h h'=>by simp [lenL,XRepL.length h']
theorem XRepL.drop:∀{l:List SV}{vs:List Value}(_:XRepL w bs B l vs)(n:Nat),XRepL w bs B (YJ n l) (vs.drop n)
 |_,_,h,0=>by simpa only[YJ,List.drop_zero]using h
 |_,_,.nil,n+1=>by simp only[YJ,List.drop_nil];exact .nil
 |_,_,.cons x v l vs h h',n+1=>by simp only[YJ,List.drop_succ_cons];exact XRepL.drop h' n
theorem Hp.le{hp:List HO}{i b cap m:Nat}(h:Hp w bs B hp)(hb:bs[i]? =some (.blk b cap m)):m<=cap:=by
 have hent:=h.ent i
 cases hg:getH hp i with
 |gone=>rw[hg]at hent;rcases hent with h|h <;> rw[hb]at h <;> cases h
 |box cs=>rw[hg]at hent;obtain⟨_,_,_,h,_⟩:=hent;rw[hb]at h;cases h;exact YGH _
 |smap l=>rw[hg]at hent;obtain⟨_,_,_,h,_⟩:=hent;rw[hb]at h;cases h;exact YGH _
 |own z s n' g=>
   rw[hg]at hent
   rcases hent with⟨h,_⟩ | ⟨_,_,_,_,h,_,_,_,h5,_⟩
   . rw[hb]at h;cases h
   . rw[hb]at h;cases h;exact h5
end
end Go.Vx
namespace Go.Vx
open Go.RowKit
section
variable {P:Program} {ρ:Operand->Value} {w:World} {bs:List BK} {B:Bd} {hp:List HO} {nx:Nat}
def QOk(P:Program)(ρ:Operand->Value)(op:Op)(w:World)(bs:List BK)(B:Bd)(e:Ef):Prop:=
 e.upd= .no/\∃v,(∀dst type pos after guard,(execOp ρ ⟨dst,op,type,pos,after,guard⟩).run P w= .ok (.value v) w)/\Rep w bs B e.val v
theorem Yg{p:Prop}{v:SV}{e:Ef}(h:YL p v=some e):e=⟨p,v,.no⟩:=by
 simp only[YL,Option.some.injEq]at h;exact h.symm
theorem two{f:Operand->Value}{x y:Operand}{a b:SV}(h:RepL w bs B [a,b] ([x,y].map f)):Rep w bs B a (f x)/\Rep w bs B b (f y):=by
 obtain⟨v,vs,h1,h2,h3⟩:=h.cons_inv
 obtain⟨v',vs',h4,h5,h6⟩:=h3.cons_inv
 simp only[YG6,List.map_nil,List.cons.injEq]at h1
 obtain⟨rfl,rfl⟩:=h1
 simp only[List.cons.injEq]at h4
 obtain⟨rfl,_⟩:=h4
 exact⟨h2,h5⟩
theorem one1{f:Operand->Value}{x:Operand}{a:SV}(h:RepL w bs B [a] ([x].map f)):Rep w bs B a (f x):=by
 obtain⟨v,vs,h1,h2,h3⟩:=h.cons_inv
 simp only[YG6,List.map_nil,List.cons.injEq]at h1
 obtain⟨rfl,rfl⟩:=h1
 exact h2
theorem Yqe{o:Ari}{t yt:TypeId}{x y:Operand}{op:BinOp}{xs:List SV}{e:Ef}(hop:op=match o with| .add=> .add| .sub=> .sub| .mul=> .mul)
   (he:eAri o xs=some e)(hp:e.pre)(hx:RepL w bs B xs ([x,y].map ρ)):QOk P ρ (.binOp op t x y yt) w bs B e:=by
 unfold eAri at he
 split at he
 . rename_i k a k' b
   cases Yg he
   obtain⟨h1,h2⟩:=two hx
   have h1:=h1.int_inv;have h2:=h2.int_inv
   dsimp only at hp;subst hp
   refine⟨rfl,.int k (k.wrap (ari o a b)),?_,.x _ _ (.int _ _)⟩
   intro dst type pos after guard
   subst hop
   cases o <;> simp [execOp,h1,h2,eqGuard,binOp,Op.intArith,ari]
 . cases he
theorem YeR{o:Cmp}{t yt:TypeId}{x y:Operand}{op:BinOp}{xs:List SV}{e:Ef}(hop:vcmp op=some o)
   (he:eCmp o xs=some e)(hp:e.pre)(hx:RepL w bs B xs ([x,y].map ρ)):QOk P ρ (.binOp op t x y yt) w bs B e:=by
 unfold eCmp at he
 split at he
 . rename_i k a k' b
   cases Yg he
   obtain⟨h1,h2⟩:=two hx
   have h1:=h1.int_inv;have h2:=h2.int_inv
   dsimp only at hp;subst hp
   refine⟨rfl,.bool (cmpB o a b),?_,.x _ _ (.bool _)⟩
   intro dst type pos after guard
   cases op <;> simp [vcmp]at hop <;> subst hop <;> simp [execOp,h1,h2,eqGuard,binOp,Op.intCmp,cmpB]
   . rw[YHK];simp
   . rw[YHK];simp
 . cases he
theorem Yv5{neg:Bool}{t yt:TypeId}{x y:Operand}{op:BinOp}{xs:List SV}{e:Ef}(hop:op=if neg then .neq else .eql)(ht:Ygy P t=true)
   (he:eEqb neg xs=some e)(hx:RepL w bs B xs ([x,y].map ρ)):QOk P ρ (.binOp op t x y yt) w bs B e:=by
 unfold eEqb at he
 split at he
 . rename_i a b
   cases Yg he
   obtain⟨h1,h2⟩:=two hx
   have h1:=h1.bool_inv;have h2:=h2.bool_inv
   have ht':P.underlying t=some .bool:=by unfold Ygy at ht;split at ht <;> first|assumption|cases ht
   have hr:=run_equal_bool (P:=P) (w:=w) t a b ht'
   cases neg <;> subst hop
   . refine⟨rfl,.bool (a==b),?_,.x _ _ (.bool _)⟩
     intro dst type pos after guard
     simp [execOp,h1,h2,eqGuard,binOp,hr]
   . refine⟨rfl,.bool (!(a==b)),?_,.x _ _ (.bool _)⟩
     intro dst type pos after guard
     simp [execOp,h1,h2,eqGuard,binOp,hr]
 . cases he
theorem Yg0{o:Bit}{t yt:TypeId}{x y:Operand}{op:BinOp}{xs:List SV}{e:Ef}(hop:op=match o with| .and=> .and| .or=> .or| .xor=> .xor| .andNot=> .andNot)
   (he:eBit o xs=some e)(hp:e.pre)(hx:RepL w bs B xs ([x,y].map ρ)):QOk P ρ (.binOp op t x y yt) w bs B e:=by
 unfold eBit at he
 split at he
 . rename_i k a k' b
   cases Yg he
   obtain⟨h1,h2⟩:=two hx
   have h1:=h1.int_inv;have h2:=h2.int_inv
   dsimp only at hp;subst hp
   refine⟨rfl,.int k (bitI o k a b),?_,.x _ _ (.int _ _)⟩
   intro dst type pos after guard
   subst hop
   cases o <;> simp [execOp,h1,h2,eqGuard,binOp,Op.intBits,bitI]
 . cases he
theorem Yv4{rem:Bool}{t yt:TypeId}{x y:Operand}{op:BinOp}{xs:List SV}{e:Ef}(hop:op=if rem then .rem else .quo)
   (he:eDiv rem xs=some e)(hp:e.pre)(hx:RepL w bs B xs ([x,y].map ρ)):QOk P ρ (.binOp op t x y yt) w bs B e:=by
 unfold eDiv at he
 split at he
 . rename_i k a k' b
   cases Yg he
   obtain⟨h1,h2⟩:=two hx
   have h1:=h1.int_inv;have h2:=h2.int_inv
   dsimp only at hp;obtain⟨rfl,hb⟩:=hp
   cases rem <;> subst hop
   . refine⟨rfl,.int k (k.wrap (a.tdiv b)),?_,.x _ _ (.int _ _)⟩
     intro dst type pos after guard
     simp [execOp,h1,h2,eqGuard,binOp,Op.intDiv,hb]
   . refine⟨rfl,.int k (a.tmod b),?_,.x _ _ (.int _ _)⟩
     intro dst type pos after guard
     simp [execOp,h1,h2,eqGuard,binOp,Op.intDiv,hb]
 . cases he
theorem YE3{left:Bool}{t yt:TypeId}{x y:Operand}{op:BinOp}{xs:List SV}{e:Ef}(hop:op=if left then .shl else .shr)
   (he:eSh left xs=some e)(hp:e.pre)(hx:RepL w bs B xs ([x,y].map ρ)):QOk P ρ (.binOp op t x y yt) w bs B e:=by
 unfold eSh at he
 split at he
 . rename_i k a k' b
   cases Yg he
   obtain⟨h1,h2⟩:=two hx
   have h1:=h1.int_inv;have h2:=h2.int_inv
   dsimp only at hp
   have hb:¬b<0:=by omega
   cases left <;> subst hop
   . refine⟨rfl,.int k (a.fdiv (2^min b.toNat k.bits)),?_,.x _ _ (.int _ _)⟩
     intro dst type pos after guard
     simp [execOp,h1,h2,eqGuard,binOp,Op.shift,hb]
   . refine⟨rfl,.int k (k.wrap (a*2^min b.toNat k.bits)),?_,.x _ _ (.int _ _)⟩
     intro dst type pos after guard
     simp [execOp,h1,h2,eqGuard,binOp,Op.shift,hb]
 . cases he
theorem Ywi{x:Operand}{op:Op}{xs:List SV}{e:Ef}(hop:op= .move x\/op= .assign x)
   (he:eMov xs=some e)(hx:RepL w bs B xs ([x].map ρ)):QOk P ρ op w bs B e:=by
 unfold eMov at he
 split at he
 . rename_i a
   cases Yg he
   refine⟨rfl,ρ x,?_,one1 hx⟩
   intro dst type pos after guard
   rcases hop with rfl|rfl <;> simp [execOp]
 . cases he
theorem YDR{x:Operand}{t:TypeId}{xs:List SV}{e:Ef}
   (he:eNot xs=some e)(hx:RepL w bs B xs ([x].map ρ)):QOk P ρ (.unOp .not t x) w bs B e:=by
 unfold eNot at he
 split at he
 . cases Yg he
   have h:=(one1 hx).bool_inv
   exact⟨rfl,_,fun dst type pos after guard=>by simp [execOp,h,Op.unary],.x _ _ (.bool _)⟩
 . cases he
theorem YDP{x:Operand}{t:TypeId}{xs:List SV}{e:Ef}
   (he:eNeg xs=some e)(hx:RepL w bs B xs ([x].map ρ)):QOk P ρ (.unOp .neg t x) w bs B e:=by
 unfold eNeg at he
 split at he
 . cases Yg he
   have h:=(one1 hx).int_inv
   exact⟨rfl,_,fun dst type pos after guard=>by simp only[execOp,h,Op.unary,Op.intArith];simp,.x _ _ (.int _ _)⟩
 . cases he
theorem Yyj{x:Operand}{s d:TypeId}{k:IntKind}{xs:List SV}{e:Ef}(hs:(P.underlying s).isSome=true)(hd:P.underlying d=some (.int k))
   (he:YuD k xs=some e)(hx:RepL w bs B xs ([x].map ρ)):QOk P ρ (.convert s d x) w bs B e:=by
 unfold YuD at he
 split at he
 . cases Yg he
   have h:=(one1 hx).int_inv
   obtain⟨u,hu⟩:=Option.isSome_iff_exists.1 hs
   refine⟨rfl,_,fun dst type pos after guard=>?_,.x _ _ (.int _ _)⟩
   simp [execOp,h,convert,run_underlying hu,run_underlying hd,Conv.intToInt]
 . cases he
theorem YDb{x:Operand}{i:Nat}{xs:List SV}{e:Ef}
   (he:eExt i xs=some e)(hp:e.pre)(hx:RepL w bs B xs ([x].map ρ)):QOk P ρ (.extract x i) w bs B e:=by
 unfold eExt at he
 split at he
 . cases Yg he
   obtain⟨vs,h,hr⟩:=(one1 hx).tup_inv
   obtain⟨v,h1,h2⟩:=hr.get? i hp
   refine⟨rfl,v,fun dst type pos after guard=>?_,h2⟩
   simp [execOp,h,Instr.extract,h1]
 . cases he
theorem Yq9{t:TypeId}{u:TypeDesc}(hu:P.underlying t=some u)(hn:∀m,u≠ .interface m)(v:Value)(w:World):(Instr.makeInterface t v).run P w= .ok (.iface t v) w:=by
 simp only[Instr.makeInterface,Sem.run_bind,run_underlying hu,Result.andThen_ok]
 cases u <;> first|rfl| (exact absurd rfl (hn _))
theorem YuO{x:Operand}{t:TypeId}{xs:List SV}{e:Ef}(ht:∀v w,(Instr.makeInterface t v).run P w= .ok (.iface t v) w)
   (he:Ynu t xs=some e)(hx:RepL w bs B xs ([x].map ρ)):QOk P ρ (.makeInterface t x) w bs B e:=by
 unfold Ynu at he
 split at he
 . cases Yg he
   exact⟨rfl,_,fun dst type pos after guard=>by simp [execOp,ht],.iface _ _ _ (one1 hx)⟩
 . cases he
theorem Ynj{c a:Operand}{op:Op}{o:VO}{xs:List SV}{e:Ef}(hop:(o= .and/\op= .pick c a (.const (.bool false)))\/(o= .or/\op= .pick c (.const (.bool true)) a))
   (hρ:∀v,ρ (.const v)=v)(he:YkS o xs=some e)(hp:e.pre)(hx:RepL w bs B xs ([c,a].map ρ)):QOk P ρ op w bs B e:=by
 unfold YkS at he
 split at he
 . rename_i b y
   obtain⟨h1,h2⟩:=two hx
   have h1:=h1.bool_inv
   rcases hop with⟨rfl,rfl⟩ | ⟨rfl,rfl⟩
   . cases y <;> try (cases he;done)
     . rename_i b'
       simp only at he
       cases Yg he
       have h2:=h2.bool_inv
       refine⟨rfl,.bool (b&&b'),fun dst type pos after guard=>?_,.x _ _ (.bool _)⟩
       cases b <;> simp [execOp,h1,h2,asBool,hρ]
     . rename_i g y
       cases y <;> try (cases he;done)
       rename_i b'
       simp only at he
       cases Yg he
       refine⟨rfl,.bool (b&&b'),fun dst type pos after guard=>?_,.x _ _ (.bool _)⟩
       cases b
       . simp [execOp,h1,asBool,hρ]
       . have hg:=hp rfl
         subst hg
         cases h2 with
         |x _ _ h=>cases h
         |optT _ _ h=>have h2:=h.bool_inv;simp [execOp,h1,h2,asBool,hρ]
   . cases y <;> try (cases he;done)
     . rename_i b'
       simp only at he
       cases Yg he
       have h2:=h2.bool_inv
       refine⟨rfl,.bool (b|| b'),fun dst type pos after guard=>?_,.x _ _ (.bool _)⟩
       cases b <;> simp [execOp,h1,h2,asBool,hρ]
     . rename_i g y
       cases y <;> try (cases he;done)
       rename_i b'
       simp only at he
       cases Yg he
       refine⟨rfl,.bool (b|| b'),fun dst type pos after guard=>?_,.x _ _ (.bool _)⟩
       cases b
       . have hg:=hp rfl
         subst hg
         cases h2 with
         |x _ _ h=>cases h
         |optT _ _ h=>have h2:=h.bool_inv;simp [execOp,h1,h2,asBool,hρ]
       . simp [execOp,h1,asBool,hρ]
 . cases he
theorem Yza{x:SV}{v:Value}{n:Nat}(h:lenS x=some n)(hx:Rep w bs B x v):∃a c,v= .slice a n c:=by
 unfold lenS at h
 split at h <;> cases h
 . exact⟨_,_,hx.nil_inv⟩
 . cases hx with|x _ _ h=>cases h;exact⟨_,_,rfl⟩
 . cases hx with
   |x _ _ h=>cases h
   |own=>exact⟨_,_,rfl⟩
   |ownNil=>exact⟨_,_,rfl⟩
 . cases hx with|x _ _ h=>cases h;exact⟨_,_,rfl⟩
theorem Yuo{c:Call}{a:SV}(h:RepL w bs B [a] (c.args.toList.map ρ)):∃v,c.args.map ρ= #[v]/\Rep w bs B a v:=by
 obtain⟨v,vs,h1,h2,h3⟩:=h.cons_inv
 cases h3
 exact⟨v,by apply Array.ext';rw[Array.toList_map,h1],h2⟩
theorem YDJ{c:Call}{xs:List SV}{e:Ef}{el:TypeId}(hc:c.callee= .builtin .len)(ht:c.argTypes[0]?.bind P.underlying=some (.slice el))
   (he:eLen xs=some e)(hx:RepL w bs B xs (c.args.toList.map ρ)):QOk P ρ (.call c) w bs B e:=by
 unfold eLen at he
 split at he
 . rename_i a
   obtain⟨n,hn,he⟩:=YGx.1 he
   cases Yg he
   obtain⟨t,h1,h2⟩:=YGx.1 ht
   obtain⟨v,hv,h3⟩:=Yuo hx
   obtain⟨a',cc,rfl⟩:=Yza hn h3
   refine⟨rfl,.int .i64 n,fun dst type pos after guard=>?_,.x _ _ (.int _ _)⟩
   simp [execOp,resolve,hc,invoke,builtin,Builtin.len_,h1,run_underlying h2,hv,goInt]
 . cases he
theorem Yrs{c:Call}{xs:List SV}{e:Ef}(hc:c.callee= .builtin .len)(ht:c.argTypes[0]?.bind P.underlying=some .string)
   (he:Yjr xs=some e)(hx:RepL w bs B xs (c.args.toList.map ρ)):QOk P ρ (.call c) w bs B e:=by
 unfold Yjr at he
 split at he
 . cases Yg he
   obtain⟨t,h1,h2⟩:=YGx.1 ht
   obtain⟨v,hv,h3⟩:=Yuo hx
   have h4:=h3.val_inv;subst h4
   refine⟨rfl,_,fun dst type pos after guard=>?_,.x _ _ (.int _ _)⟩
   simp [execOp,resolve,hc,invoke,builtin,Builtin.len_,h1,run_underlying h2,hv,goInt]
 . cases he
theorem Yro{c:Call}{xs:List SV}{e:Ef}{el:TypeId}{n:Nat}(hc:c.callee= .builtin .len)(ht:c.argTypes[0]?.bind P.underlying=some (.array n el))
   (he:Yjp n xs=some e)(hx:RepL w bs B xs (c.args.toList.map ρ)):QOk P ρ (.call c) w bs B e:=by
 unfold Yjp at he
 split at he
 . cases Yg he
   obtain⟨t,h1,h2⟩:=YGx.1 ht
   obtain⟨v,hv,h3⟩:=Yuo hx
   refine⟨rfl,.int .i64 n,fun dst type pos after guard=>?_,.x _ _ (.int _ _)⟩
   simp [execOp,resolve,hc,invoke,builtin,Builtin.len_,h1,run_underlying h2,hv,goInt]
 . cases he
theorem YDM(y m:Int):(if y>m then y else m)=max m y:=by rw[Int.max_def];split <;> split <;> omega
theorem YDN(y m:Int):(if y<m then y else m)=min m y:=by rw[Int.min_def];split <;> split <;> omega
theorem Ynf{α:Type}{b:Bool}{o:Option α}{r:α}(h:(bif b then o else none)=some r):b=true/\o=some r:=by
 cases b with
 |true=>exact⟨rfl,h⟩
 |false=>cases h
theorem Ywe{k k':IntKind}(h:kEq k k'=true):k=k':=by cases k <;> cases k' <;> first|rfl|cases h
theorem Yik{k:IntKind}:∀{l:List SV}{m r:Int}{vs:List Value},YfK k m l=some r->RepL w bs B l vs->
   (vs.foldlM Builtin.max2 (.int k m)).run P w= .ok (.int k r) w
 | [],m,r,vs,h,hl=>by cases hl;simp only[YfK,Option.some.injEq]at h;subst h;rfl
 |x::l,m,r,vs,h,hl=>by
   obtain⟨v,vs',rfl,hv,hl2⟩:=hl.cons_inv
   unfold YfK at h
   split at h
   . cases‹_::_=[]›
   . rename_i k' y l' heq
     cases heq
     obtain⟨hkq,hfold⟩:=Ynf h
     . have hk:=Ywe hkq;subst hk
       have hv:=hv.int_inv;subst hv
       have:=Yik hfold hl2
       simp only[List.foldlM_cons,Sem.run_bind,Builtin.max2,Sem.run_pure,Result.andThen_ok]
       rw[YDM];exact this
   . cases h
theorem Yil{k:IntKind}:∀{l:List SV}{m r:Int}{vs:List Value},YfL k m l=some r->RepL w bs B l vs->
   (vs.foldlM Builtin.min2 (.int k m)).run P w= .ok (.int k r) w
 | [],m,r,vs,h,hl=>by cases hl;simp only[YfL,Option.some.injEq]at h;subst h;rfl
 |x::l,m,r,vs,h,hl=>by
   obtain⟨v,vs',rfl,hv,hl2⟩:=hl.cons_inv
   unfold YfL at h
   split at h
   . cases‹_::_=[]›
   . rename_i k' y l' heq
     cases heq
     obtain⟨hkq,hfold⟩:=Ynf h
     . have hk:=Ywe hkq;subst hk
       have hv:=hv.int_inv;subst hv
       have:=Yil hfold hl2
       simp only[List.foldlM_cons,Sem.run_bind,Builtin.min2,Sem.run_pure,Result.andThen_ok]
       rw[YDN];exact this
   . cases h
theorem Ylc{mx:Bool}{c:Call}{xs:List SV}{e:Ef}(hc:c.callee= .builtin (if mx then .max else .min))
   (he:Yhb mx xs=some e)(hx:RepL w bs B xs (c.args.toList.map ρ)):QOk P ρ (.call c) w bs B e:=by
 unfold Yhb at he
 split at he
 . rename_i k x l
   obtain⟨v,vs,hvs,hv,hl⟩:=hx.cons_inv
   have hv:=hv.int_inv;subst hv
   cases mx
   . obtain⟨m,hm,he⟩:=YGx.1 he
     cases Yg he
     refine⟨rfl,.int k m,fun dst type pos after guard=>?_,.x _ _ (.int _ _)⟩
     simp only[YGM,if_false]at hc
     simp [execOp,resolve,hc,invoke,builtin,Builtin.min_,hvs,Yil hm hl]
   . obtain⟨m,hm,he⟩:=YGx.1 he
     cases Yg he
     refine⟨rfl,.int k m,fun dst type pos after guard=>?_,.x _ _ (.int _ _)⟩
     simp only[if_true]at hc
     simp [execOp,resolve,hc,invoke,builtin,Builtin.max_,hvs,Yik hm hl]
 . cases he
theorem YC{t:TypeId}{n:Nat}(h:sizeOf? P t=some n):(sizeOf t).run P w= .ok n w:=by
 unfold sizeOf? at h
 obtain⟨i,h1,h2⟩:=YGz.1 h
 simp [sizeOf,typeInfo,h1,h2]
theorem Yct{t:TypeId}{b:Bool}(h:Yet P t=some b):(isAgg t).run P w= .ok b w:=by
 unfold Yet at h
 obtain⟨u,h1,h2⟩:=YGz.1 h
 unfold isAgg
 simp only[Sem.run_bind,run_underlying h1,Result.andThen_ok]
 subst h2
 split <;> simp_all
theorem Yak{b off n:Nat}:(Addr.add ⟨b,off,none⟩ n)=⟨b,off+n,none⟩:=by
 unfold Addr.add;split <;> simp_all
theorem Ygx{a:Addr}(h:a.spot=none)(n:Nat):a.add n=⟨a.block,a.off+n,none⟩:=by
 obtain⟨b,o,s⟩:=a;simp only at h;subst h;exact Yak
theorem Cells.cell{b off j:Nat}{l:List Value}{v:Value}(h:Cells w b off l)(hj:l[j]? =some v):w.cell? ⟨b,off+j,none⟩=some v:=by
 obtain⟨cs,T,fz,h1,h2⟩:=h
 simp [World.cell?,h1,h2 j v hj]
theorem Cells.drop{b off n:Nat}{l:List Value}(h:Cells w b off l):Cells w b (off+n) (l.drop n):=by
 obtain⟨cs,T,fz,h1,h2⟩:=h
 refine⟨cs,T,fz,h1,fun j v hj=>?_⟩
 rw[Nat.add_assoc]
 exact h2 _ v (by simpa using hj)
theorem Cells.take{b off n:Nat}{l:List Value}(h:Cells w b off l):Cells w b off (l.take n):=by
 obtain⟨cs,T,fz,h1,h2⟩:=h
 refine⟨cs,T,fz,h1,fun j v hj=>h2 _ v ?_⟩
 rw[YHt]at hj
 split at hj
 . exact hj
 . cases hj
theorem YkV{vs:List Value}{size m:Nat}{get:Nat->List SV}(hl:vs.length=m*size)(h:∀k,k<m->RepL w bs B (get k) ((vs.drop (k*size)).take size)):
   ∀(j k:Nat),k+j=m->RepL w bs B (Yhd j k get) (vs.drop (k*size))
 |0,k,e=>by
   have e:k=m:=e
   subst e
   rw[List.drop_of_length_le (by omega)];exact .nil
 |j+1,k,e=>by
   have ih:=YkV hl h j (k+1) (by omega)
   have hk:=h k (by omega)
   have:=hk.append ih
   rw[YHN,<-List.drop_drop,List.take_append_drop]at this
   exact this
theorem Yig{x:SV}{v:Value}{p:Prop}{cs:List SV}(h:YaC hp x=some (p,cs))(hpp:p)(hx:Rep w bs B x v)(hH:Hp w bs B hp):
   ∃ad vals,v= .pointer (some ad)/\ad.spot=none/\RepL w bs B cs vals/\Cells w ad.block ad.off vals:=by
 unfold YaC at h
 split at h
 . cases h
   cases hx with
   |x _ _ h=>cases h with|xp _ _ ad vals hs hf ht hc h=>exact⟨ad,vals,rfl,hs,h.rep,hc⟩
 . rename_i i off
   obtain⟨b,n,hb,rfl⟩:=hx.ptr_inv
   have he:=hH.ent i
   split at h
   . rename_i cs' hg
     cases h
     rw[hg]at he
     obtain⟨b',vs,T,h1,h2,h3⟩:=he
     rw[hb]at h1;cases h1
     refine⟨_,vs.toList.drop off,rfl,rfl,h3.drop off,vs,T,_,h2,fun j v hj=>?_⟩
     simpa using hj
   . rename_i z sz m get hg
     unfold YjS at h
     split at h
     . cases h
       rw[hg]at he
       rcases he with⟨h1,_⟩ | ⟨b',cap,vs,T,h1,h2,h3,h4,h5,h6⟩
       . rw[hb]at h1;cases h1
       rw[hb]at h1;cases h1
       refine⟨_,vs.toList,rfl,rfl,?_,vs,T,_,h3,fun j v hj=>by simpa using hj⟩
       simpa using YkV (by simpa using h4) h6 _ 0 (YHC _)
     . cases h
   . cases h
 . rename_i i k off sz
   obtain⟨b,c,n,hb,rfl,hkn⟩:=hx.elem_inv
   have he:=hH.ent i
   split at h
   . rename_i z size m get hg
     cases h
     obtain⟨hk,rfl⟩:=hpp
     rw[hg]at he
     rcases he with⟨_,_,rfl⟩ | ⟨b',cap,vs,T,h1,h2,h3,h4,h5,h6⟩
     . omega
     rw[hb]at h1;cases h1
     refine⟨_,((vs.toList.drop (k*sz)).take sz).drop off,rfl,rfl,(h6 k hk).drop off,vs,T,_,h3,fun j v hj=>?_⟩
     rw[List.getElem?_drop,YHt]at hj
     split at hj
     . rw[List.getElem?_drop]at hj
       rw[Nat.add_assoc]
       simpa using hj
     . cases hj
   . cases h
 . cases h
theorem YaZ{a:Addr}(ha:a.spot=none):∀{l:List Value}{i:Nat}{acc:Array Value},(∀(j:Nat)(v:Value),l[j]? =some v->w.cell? ⟨a.block,a.off+(i+j),none⟩=some v)->
   (loadCellsFrom a i l.length acc).run P w= .ok (acc++l.toArray) w
 | [],i,acc,h=>by simp [loadCellsFrom]
 |x::l,i,acc,h=>by
   have h0:=h 0 x rfl
   have ih:=YaZ ha (l:=l) (i:=i+1) (acc:=acc.push x) (fun j v hj=>by
     have:=h (j+1) v (by simpa using hj)
     rwa [show i+1+j=i+(j+1)by omega])
   simp only[YHF,loadCellsFrom,Sem.run_bind,Ygx ha,run_load]
   rw[show a.off+i=a.off+(i+0)by rfl,h0]
   simp only[Result.andThen_ok]
   rw[ih]
   simp
theorem Yfk{a:Addr}(ha:a.spot=none){l:List Value}(h:Cells w a.block a.off l):(loadCells a l.length).run P w= .ok l.toArray w:=by
 unfold loadCells
 rw[YaZ ha (fun j v hj=>by rw[YHC];exact h.cell hj)]
 simp
theorem Yrx{x:Operand}{t:TypeId}{agg:Bool}{size:Nat}{xs:List SV}{e:Ef}(ha:Yet P t=some agg)(hs:sizeOf? P t=some size)
   (h1:agg=false->size=1)(he:YhR hp agg size xs=some e)(hpre:e.pre)(hx:RepL w bs B xs ([x].map ρ))(hH:Hp w bs B hp):QOk P ρ (.load t x) w bs B e:=by
 unfold YhR at he
 split at he
 . obtain⟨⟨p,cs⟩,hc,he⟩:=YGx.1 he
   cases Yg he
   obtain⟨hp1,hp2⟩:=hpre
   obtain⟨ad,vals,hv,hsp,hr,hcl⟩:=Yig hc hp1 (one1 hx) hH
   have hlen:size<=vals.length:=by rw[<-hr.length];exact hp2
   have hr':=hr.take size
   cases agg
   . have:=h1 rfl;subst this
     cases hr with
     |nil=>simp at hlen
     |cons y u l us hy hl=>
       refine⟨rfl,u,fun dst type pos after guard=>?_,by simpa [Ygr,YO]using hy⟩
       have:=hcl.cell (j:=0) (v:=u) rfl
       simp only[YHw]at this
       have had:ad=⟨ad.block,ad.off,none⟩:=by cases ad;simp_all
       simp only[execOp,Instr.loadAt,hv,Instr.sureAddr,loadVar,Sem.run_bind,Sem.run_pure,Result.andThen_ok,Yct ha,YGM,if_false,run_load]
       rw[had,this];rfl
   . refine⟨rfl,.agg (vals.take size).toArray,fun dst type pos after guard=>?_,.agg _ _ hr'⟩
     have hl:=Yfk (P:=P) (w:=w) hsp (l:=vals.take size) hcl.take
     rw[YHi,Nat.min_eq_left hlen]at hl
     simp only[execOp,Instr.loadAt,hv,Instr.sureAddr,loadVar,Sem.run_bind,Sem.run_pure,Result.andThen_ok,Yct ha,if_true,YC hs,hl]
 . cases he
theorem Yof{t:TypeId}{agg:Bool}{off size:Nat}{l:List Value}{cs:List SV}(ha:Yet P t=some agg)(hs:sizeOf? P t=some size)
   (h1:agg=false->size=1)(hr:RepL w bs B cs l)(hl:off+size<=l.length):
   ∃v,(part t l.toArray off).run P w= .ok v w/\Rep w bs B (Ygr agg (YO size (YJ off cs))) v:=by
 have hr':=(hr.drop off).take size
 cases agg
 . have:=h1 rfl;subst this
   obtain⟨v,hv⟩:∃v,l[off]? =some v:=⟨l[off]'(by omega),by simp⟩
   refine⟨v,?_,?_⟩
   . simp [part,Yct ha,hv]
   . have hd:l.drop off=v::l.drop (off+1):=by
       have h:=List.drop_eq_getElem_cons (l:=l) (i:=off) (by omega)
       rw[h];rw[List.getElem?_eq_getElem (by omega)]at hv;cases hv;rfl
     rw[hd]at hr'
     cases hc:YJ off cs with
     |nil=>have:=(hr.drop off).length;rw[hc,hd]at this;simp [lenL]at this
     |cons y ys=>
       rw[hc]at hr'
       simp only[YO,List.take_succ_cons,List.take_zero]at hr'
       obtain⟨_,_,h3,h4,_⟩:=hr'.cons_inv
       cases h3
       simpa [Ygr,YO]using h4
 . refine⟨.agg ((l.drop off).take size).toArray,?_,.agg _ _ hr'⟩
   simp only[part,Sem.run_bind,Yct ha,Result.andThen_ok,if_true,YC hs,Sem.run_pure]
   congr 2
   apply Array.ext'
   simp
theorem YuG{x:Operand}{s:TypeId}{f:Nat}{fs:Array Field}{fd:Field}{agg:Bool}{size:Nat}{xs:List SV}{e:Ef}
   (hu:P.underlying s=some (.struct fs))(hf:fs[f]? =some fd)(ha:Yet P fd.type=some agg)(hs:sizeOf? P fd.type=some size)(h1:agg=false->size=1)
   (he:Ynt agg fd.offset size xs=some e)(hpre:e.pre)(hx:RepL w bs B xs ([x].map ρ)):QOk P ρ (.field s x f) w bs B e:=by
 unfold Ynt at he
 split at he
 . cases Yg he
   obtain⟨vs,hv,hr⟩:=(one1 hx).agg_inv
   dsimp only at hpre
   rw[hr.length]at hpre
   obtain⟨v,hrun,hrep⟩:=Yof (off:=fd.offset) ha hs h1 hr hpre
   refine⟨rfl,v,fun dst type pos after guard=>?_,hrep⟩
   simp [execOp,Instr.field,run_underlying hu,hf,hv,asAgg,hrun]
 . cases he
theorem YkU{x:Operand}{s:TypeId}{f:Nat}{fs:Array Field}{fd:Field}{size:Nat}{xs:List SV}{e:Ef}
   (hu:P.underlying s=some (.struct fs))(hf:fs[f]? =some fd)(hs:sizeOf? P fd.type=some size)(h1:size≠0)
   (he:YdJ fd.offset xs=some e)(hx:RepL w bs B xs ([x].map ρ)):QOk P ρ (.fieldAddr s x f) w bs B e:=by
 have run (ad:Addr) (h:ρ x= .pointer (some ad)) (dst type pos after guard):(execOp ρ ⟨dst,.fieldAddr s x f,type,pos,after,guard⟩).run P w= .ok (.value (.pointer (some (ad.add fd.offset)))) w:=by
   simp [execOp,Instr.fieldAt,run_underlying hu,hf,h,Instr.sureAddr,fieldPlace,YC hs,h1]
 unfold YdJ at he
 split at he
 . have h:=one1 hx
   split at he
   . cases Yg he
     obtain⟨b,n,hb,hv⟩:=h.ptr_inv
     refine⟨rfl,_,fun dst type pos after guard=>run _ hv ..,?_⟩
     rw[Yak];exact .ptr _ _ b n hb
   . cases Yg he
     cases h with
     |x _ _ h=>
       generalize hρ:ρ x=v at h
       cases h with
       |xp _ _ ad vals hs hf ht hc h=>
         refine⟨rfl,_,fun dst type pos after guard=>run _ hρ ..,?_⟩
         rw[Ygx hs]
         exact .x _ _ (.xp _ _ _ _ rfl hf ht hc.drop (h.drop _))
   . cases Yg he
     obtain⟨b,c,n,hb,hv,hkn⟩:=h.elem_inv
     refine⟨rfl,_,fun dst type pos after guard=>run _ hv ..,?_⟩
     rw[Yak,Nat.add_assoc];exact .elem _ _ _ _ b c n hb hkn
   . cases he
 . cases he
theorem Yag(k:IntKind)(n:Int):(asIntOf (.int k n)).run P w= .ok (k,n) w:=rfl
theorem YdE(a k:Nat):Yca a k=a+k:=by cases a <;> simp [Yca]
theorem Yor(a k:Nat):YhH a k=a-k:=by cases k <;> simp [YhH]
theorem YoG{x i:Operand}{t el:TypeId}{size:Nat}{xs:List SV}{e:Ef}(hu:P.underlying t=some (.slice el))(hs:sizeOf? P el=some size)
   (he:YgC size xs=some e)(hpre:e.pre)(hx:RepL w bs B xs ([x,i].map ρ))(hH:Hp w bs B hp):QOk P ρ (.indexAddr t x i) w bs B e:=by
 have run (ad:Addr) (n c:Nat) (k:IntKind) (j:Int) (h:ρ x= .slice (some ad) n c) (hi:ρ i= .int k j) (hb:0<=j/\j<n) (dst type pos after guard):
     (execOp ρ ⟨dst,.indexAddr t x i,type,pos,after,guard⟩).run P w= .ok (.value (.pointer (some (ad.add (j.toNat*size))))) w:=by
   simp [execOp,Instr.indexAt,run_underlying hu,h,hi,Yag,YC hs,hb]
 unfold YgC at he
 split at he
 . rename_i y k j
   obtain⟨h1,h2⟩:=two hx
   have h2:=h2.int_inv
   split at he
   . rename_i t' z' n sz' get'
     cases Yg he
     obtain⟨rfl,hb⟩:=hpre
     cases h1 with
     |x _ _ h1=>
       generalize hρ:ρ x=v at h1
       cases h1 with
       |vs _ _ _ _ _ a cap vals hz hc hn hcell h=>
         have hj:j.toNat<n:=by omega
         obtain⟨ad,rfl,h3,h4,h5,h6,h7⟩:=hcell _ hj
         refine⟨rfl,_,fun dst type pos after guard=>run _ _ _ _ _ hρ h2 hb ..,?_⟩
         rw[Ygx h3]
         exact .x _ _ (.xp _ _ _ _ rfl h4 h5 h7 (h _ hj))
   . rename_i jj lo n sz
     cases Yg he
     obtain⟨rfl,hb⟩:=hpre
     generalize hρ:ρ x=v at h1
     cases h1 with
     |x _ _ h1=>cases h1
     |own _ _ _ _ b cap m ad hbs hl ha=>
       refine⟨rfl,_,fun dst type pos after guard=>run _ _ _ _ _ hρ h2 hb ..,?_⟩
       have had:ad=⟨b,lo*sz,none⟩:=by
         rcases ha with ha|ha
         . exact ha
         . exfalso
           have hm:=hH.le hbs
           have hb2:=hb.2
           have hb1:=hb.1
           omega
       rw[had,Yak,YdE]
       have:=Rep.elem (w:=w) (bs:=bs) (B:=B) jj (lo+j.toNat) 0 sz b cap m hbs (by omega)
       rw[YHw,YG8]at this
       exact this
     |ownNil=>exfalso;have hb2:=hb.2;have hb1:=hb.1;omega
   . rename_i n C
     cases Yg he
     obtain⟨rfl,hb⟩:=hpre
     cases h1 with
     |x _ _ h1=>
       generalize hρ:ρ x=v at h1
       cases h1 with
       |row _ _ b cap hI hc=>
         refine⟨rfl,_,fun dst type pos after guard=>run _ _ _ _ _ hρ h2 hb ..,?_⟩
         rw[Yak,YHC,Nat.mul_one]
         exact .x _ _ (.rcell _ n C j.toNat b rfl hI (by omega))
   . cases he
 . cases he
theorem Ymp{x:Operand}{xs:List SV}{e:Ef}(he:YeV xs=some e)(hx:RepL w bs B xs ([x].map ρ)):QOk P ρ (.nilCheck x) w bs B e:=by
 unfold YeV at he
 split at he
 . rename_i y
   obtain⟨v,vs,hv,h1,_⟩:=hx.cons_inv
   simp only[YG6,List.map_nil,List.cons.injEq]at hv
   obtain⟨hρ,_⟩:=hv
   have go:∀ad,v= .pointer (some ad)->∀dst type pos after guard,(execOp ρ ⟨dst,.nilCheck x,type,pos,after,guard⟩).run P w= .ok (.value v) w:=by
     intro ad hv dst type pos after guard
     subst hv
     simp [execOp,hρ]
   split at he <;> cases he
   . obtain⟨b,n,hb,h⟩:=h1.ptr_inv
     exact⟨rfl,v,go _ h,h1⟩
   . refine⟨rfl,v,?_,h1⟩
     cases h1 with|x _ _ h=>cases h;exact go _ rfl
   . obtain⟨b,c,n,hb,h,_⟩:=h1.elem_inv
     exact⟨rfl,v,go _ h,h1⟩
 . cases he
theorem Yq8{x i:Operand}{t:TypeId}{xs:List SV}{e:Ef}(hu:P.underlying t=some .string)(he:Yjo xs=some e)(hpre:e.pre)(hx:RepL w bs B xs ([x,i].map ρ)):QOk P ρ (.index t x i) w bs B e:=by
 unfold Yjo at he
 split at he
 . rename_i b k j
   cases Yg he
   obtain⟨h1,h2⟩:=two hx
   have h1:=h1.val_inv;have h2:=h2.int_inv
   obtain⟨h3,h4⟩:=hpre
   have hj:j.toNat<b.size:=by omega
   have hg:b[j.toNat]? =some b[j.toNat]:=getElem?_pos b j.toNat hj
   refine⟨rfl,.int .u8 (Ynk b j.toNat),fun dst type pos after guard=>?_,.x _ _ (.int _ _)⟩
   have hb:Ynk b j.toNat=(b[j.toNat].toNat:Int):=by
     unfold Ynk
     congr 2
     rw[YGB,Array.getElem?_toList,Array.getElem?_eq_getElem (by simpa using hj)]
     rfl
   rw[hb]
   simp [execOp,Instr.index,run_underlying hu,h1,h2,Yag,h3,hg]
 . cases he
theorem Yny{neg:Bool}{t yt:TypeId}{x y:Operand}{op:BinOp}{xs:List SV}{e:Ef}(hop:op=if neg then .neq else .eql)
   (he:Yns neg xs=some e)(hx:RepL w bs B xs ([x,y].map ρ)):QOk P ρ (.binOp op t x y yt) w bs B e:=by
 unfold Yns at he
 split at he
 . rename_i a b
   cases Yg he
   obtain⟨h1,h2⟩:=two hx
   have h1:=h1.val_inv;have h2:=h2.val_inv
   cases neg <;> subst hop
   . refine⟨rfl,.bool (Yhr false (a.toList==b.toList)),?_,.x _ _ (.bool _)⟩
     intro dst type pos after guard
     simp [execOp,h1,h2,eqGuard,binOp,Op.stringOp,Yhr]
   . refine⟨rfl,.bool (Yhr true (a.toList==b.toList)),?_,.x _ _ (.bool _)⟩
     intro dst type pos after guard
     simp [execOp,h1,h2,eqGuard,binOp,Op.stringOp,Yhr]
 . cases he
theorem Yq7{x i:Operand}{t el:TypeId}{n size:Nat}{xs:List SV}{e:Ef}(hu:P.underlying t=some (.array n el))(hs:sizeOf? P el=some size)
   (he:YeB hp n size xs=some e)(hpre:e.pre)(hx:RepL w bs B xs ([x,i].map ρ))(hH:Hp w bs B hp):QOk P ρ (.indexAddr t x i) w bs B e:=by
 unfold YeB at he
 split at he
 . rename_i jj k j
   obtain⟨h1,h2⟩:=two hx
   have h2:=h2.int_inv
   obtain⟨b,m,hb,hv⟩:=h1.ptr_inv
   split at he
   . rename_i hg
     cases Yg he
     obtain⟨h0,h3,hsz,hm⟩:=hpre
     have hent:=hH.ent jj
     rw[hg]at hent
     have hmm:n=m:=by
       rcases hent with⟨h,_⟩ | ⟨_,_,_,_,h,_⟩
       . rw[hb]at h;cases h
       . rw[hb]at h;cases h;exact hm.symm
     refine⟨rfl,.pointer (some ⟨b,j.toNat*size+0,none⟩),fun dst type pos after guard=>?_,.elem _ _ _ _ b m m hb (by omega)⟩
     simp [execOp,Instr.indexAt,run_underlying hu,hv,h2,Yag,YC hs,h0,h3,Instr.sureAddr,Yak]
   . cases Yg he
     obtain⟨h0,h3⟩:=hpre
     refine⟨rfl,.pointer (some ⟨b,j.toNat*size,none⟩),fun dst type pos after guard=>?_,.ptr _ _ b m hb⟩
     simp [execOp,Instr.indexAt,run_underlying hu,hv,h2,Yag,YC hs,h0,h3,Instr.sureAddr,Yak]
   . cases he
 . cases he
theorem YuP{x i:Operand}{t el:TypeId}{agg:Bool}{n size:Nat}{xs:List SV}{e:Ef}(hu:P.underlying t=some (.array n el))(ha:Yet P el=some agg)(hs:sizeOf? P el=some size)
   (h1:agg=false->size=1)(he:Ynv agg n size xs=some e)(hpre:e.pre)(hx:RepL w bs B xs ([x,i].map ρ)):QOk P ρ (.index t x i) w bs B e:=by
 unfold Ynv at he
 split at he
 . rename_i cs k j
   cases Yg he
   obtain⟨h3,h2⟩:=two hx
   have h2:=h2.int_inv
   obtain⟨vs,hv,hr⟩:=h3.agg_inv
   obtain⟨h4,h5,h6⟩:=hpre
   rw[hr.length]at h6
   have hl:j.toNat*size+size<=vs.length:=by
     rw[h6,<-YHN];exact YGD _ (by omega)
   obtain⟨v,hrun,hrep⟩:=Yof (P:=P) (off:=j.toNat*size) ha hs h1 hr hl
   refine⟨rfl,v,fun dst type pos after guard=>?_,hrep⟩
   simp [execOp,Instr.index,run_underlying hu,hv,h2,Yag,YC hs,h4,h5,hrun]
 . cases he
theorem Yab{k:IntKind}{j:Int}{y:Nat}{code:BoundsCode}(h:0<=j/\j<=y):(Instr.sliceBound (.int k j) y code).run P w= .ok j.toNat w:=by
 simp [Instr.sliceBound,Yag,h]
theorem Yg2{n len cap:Nat}{lo hi:Bool}{l:List SV}{p:Prop}{a b:Nat}{lov hiv:Option Operand}{isSlice:Bool}(h:YkI n lo hi l=some (p,a,b))(hpp:p)(hn:n=len)(hc:len<=cap)
   (hlo:lov.isSome=lo)(hhi:hiv.isSome=hi)(hx:RepL w bs B l ((lov.toList++hiv.toList).map ρ)):
   (Instr.sliceBounds isSlice len cap (lov.map ρ) (hiv.map ρ) none).run P w= .ok (a,b,cap) w/\a<=b/\b<=len:=by
 subst hn
 unfold YkI at h
 split at h <;> cases h
 . cases lov <;> simp at hlo
   cases hiv <;> simp at hhi
   simp [Instr.sliceBounds]
 . cases lov <;> simp at hlo
   cases hiv <;> simp at hhi
   rename_i o
   have hv:=(one1 (x:=o) (by simpa using hx)).int_inv
   simp [Instr.sliceBounds,hv,Yab hpp]
   omega
 . cases lov <;> simp at hlo
   cases hiv <;> simp at hhi
   rename_i o
   have hv:=(one1 (x:=o) (by simpa using hx)).int_inv
   have:0<=‹Int›/\‹Int›<=(cap:Int):=by omega
   simp [Instr.sliceBounds,hv,Yab this]
   omega
 . cases lov <;> simp at hlo
   cases hiv <;> simp at hhi
   rename_i k x k' y o o'
   obtain⟨hv,hv'⟩:=two (x:=o) (y:=o') (by simpa using hx)
   have hv:=hv.int_inv;have hv':=hv'.int_inv
   have h1:0<=y/\y<=(cap:Int):=by omega
   have h2:0<=x/\x<=(y.toNat:Int):=by omega
   simp [Instr.sliceBounds,hv,hv',Yab h1,Yab h2]
   omega
theorem YvE{x:Operand}{t el:TypeId}{size:Nat}{lov hiv:Option Operand}{xs:List SV}{e:Ef}(hu:P.underlying t=some (.slice el))(hs:sizeOf? P el=some size)
   (he:Ynw size lov.isSome hiv.isSome xs=some e)(hpre:e.pre)(hx:RepL w bs B xs ((x::(lov.toList++hiv.toList)).map ρ))(hH:Hp w bs B hp):QOk P ρ (.slice t x lov hiv none) w bs B e:=by
 have run (a:Option Addr) (n c l h:Nat) (hv:ρ x= .slice a n c) (hb:(Instr.sliceBounds true n c (lov.map ρ) (hiv.map ρ) none).run P w= .ok (l,h,c) w) (dst type pos after guard):
     (execOp ρ ⟨dst,.slice t x lov hiv none,type,pos,after,guard⟩).run P w= .ok (.value (.slice (if c=l then a else a.map (·.add (l*size))) (h-l) (c-l))) w:=by
   simp [execOp,Instr.sliceAt,Instr.slice,run_underlying hu,hv,hb,YC hs]
 unfold Ynw at he
 split at he
 . rename_i y l
   obtain⟨v,vs,hvs,h1,h2⟩:=hx.cons_inv
   simp only[YG6,List.cons.injEq]at hvs
   obtain⟨hρ,rfl⟩:=hvs
   split at he
   . rename_i t' z n sz get
     obtain⟨⟨p,a,b⟩,hb,he⟩:=YGx.1 he
     cases Yg he
     obtain⟨rfl,hpp⟩:=hpre
     cases h1 with
     |x _ _ h1=>
       cases h1 with
       |vs _ _ _ _ _ ad cap vals hz hc hn hcell h=>
         obtain⟨hrun,hab,hbn⟩:=Yg2 (P:=P) (isSlice:=true) hb hpp rfl hc rfl rfl h2
         refine⟨rfl,_,fun dst type pos after guard=>run _ _ _ _ _ hρ hrun ..,?_⟩
         rw[Yor]
         refine .x _ _ (.vs _ _ _ _ _ _ _ (fun k=>vals (a+k)) ?_ (by omega) ?_ ?_ ?_)
         . split
           . exact hz
           . cases ad <;> simpa using hz
         . intro hnone
           split at hnone
           . have:=hn hnone;omega
           . cases ad with
             |none=>have:=hn rfl;omega
             |some _=>simp at hnone
         . intro k hk
           obtain⟨ad',had,h3,h4,h5,h6,h7⟩:=hcell (a+k) (by omega)
           subst had
           rw[if_neg (by omega)]
           refine⟨ad'.add (a*sz),rfl,?_,?_,?_,h6,?_⟩ <;> rw[Ygx h3]
           . exact h4
           . exact h5
           . show Cells w ad'.block (ad'.off+a*sz+k*sz) _
             rw[Nat.add_assoc,<-YG8];exact h7
         . intro k hk
           rw[YdE]
           exact h (a+k) (by omega)
   . rename_i j o n sz
     obtain⟨⟨p,a,b⟩,hb,he⟩:=YGx.1 he
     cases Yg he
     obtain⟨rfl,hpp⟩:=hpre
     cases h1 with
     |x _ _ h1=>cases h1
     |own _ _ _ _ bb cap m ad hbs hl ha=>
       have hm:=hH.le hbs
       obtain⟨hrun,hab,hbn⟩:=Yg2 (P:=P) (isSlice:=true) (cap:=cap-o) hb hpp rfl (by omega) rfl rfl h2
       refine⟨rfl,_,fun dst type pos after guard=>run _ _ _ _ _ hρ hrun ..,?_⟩
       rw[Yor,YdE,Nat.sub_sub]
       by_cases hca:cap-o=a
       . rw[if_pos hca]
         refine .own _ _ _ _ bb cap m ad hbs (by omega) ?_
         by_cases ha0:a=0
         . subst ha0;simpa using ha
         . right;omega
       . rw[if_neg hca]
         refine .own _ _ _ _ bb cap m _ hbs (by omega) ?_
         rcases ha with rfl|ha
         . left;simp [Yak,YG8]
         . right;omega
     |ownNil _ _ hbs=>
       obtain⟨hrun,hab,hbn⟩:=Yg2 (P:=P) (isSlice:=true) (cap:=0) hb hpp rfl (YGH _) rfl rfl h2
       have ha0:a=0:=by omega
       have hb0:b=0:=by omega
       subst ha0;subst hb0
       refine⟨rfl,_,fun dst type pos after guard=>run _ _ _ _ _ hρ hrun ..,?_⟩
       simpa [YhH,Yca]using Rep.ownNil (w:=w) (B:=B) _ _ hbs
   . cases he
 . cases he
theorem YsB{x hi mx:Operand}{t el:TypeId}{size:Nat}{xs:List SV}{e:Ef}(hu:P.underlying t=some (.slice el))(hs:sizeOf? P el=some size)
   (he:Yjt size xs=some e)(hpre:e.pre)(hx:RepL w bs B xs ([x,hi,mx].map ρ))(hH:Hp w bs B hp):QOk P ρ (.slice t x none (some hi) (some mx)) w bs B e:=by
 unfold Yjt at he
 split at he
 . rename_i y k b k' c'
   obtain⟨v,vs,hvs,h1,hx2⟩:=hx.cons_inv
   simp only[YG6,List.cons.injEq,List.map_nil]at hvs
   obtain⟨hρ,rfl⟩:=hvs
   obtain⟨h2,h3⟩:=two (x:=hi) (y:=mx) hx2
   have h2:=h2.int_inv;have h3:=h3.int_inv
   have run (a:Option Addr) (n cap bb:Nat) (hv:ρ x= .slice a n cap) (hb:b=bb) (hc:c'=bb) (hbn:bb<=cap) (dst type pos after guard):
       (execOp ρ ⟨dst,.slice t x none (some hi) (some mx),type,pos,after,guard⟩).run P w= .ok (.value (.slice (if bb=0 then a else a.map (·.add 0)) bb bb)) w:=by
     subst hb hc
     have r1:0<=(bb:Int)/\(bb:Int)<=(cap:Int):=by omega
     have r2:0<=(bb:Int)/\(bb:Int)<=((bb:Nat):Int):=by omega
     simp [execOp,Instr.sliceAt,Instr.slice,Instr.sliceBounds,run_underlying hu,hv,h2,h3,Yab r1,Yab r2,YC hs]
   split at he
   . cases Yg he
     obtain⟨hb,hc⟩:=hpre
     refine⟨rfl,_,fun dst type pos after guard=>run none 0 0 0 (hρ.trans h1.nil_inv) (by simpa using hb) (by simpa using hc) (YGH _) ..,?_⟩
     exact .x _ _ .nil
   . rename_i t' z n sz get
     cases Yg he
     obtain⟨rfl,h0,hbn,hc⟩:=hpre
     cases h1 with
     |x _ _ h1=>
       cases h1 with
       |vs _ _ _ _ _ ad cap vals hz hcap hn hcell h=>
         refine⟨rfl,_,fun dst type pos after guard=>run ad n cap b.toNat hρ (by omega) (by omega) (by omega) ..,?_⟩
         have e:(if b.toNat=0 then ad else ad.map (·.add 0))=ad:=by
           split
           . rfl
           . obtain⟨ad',rfl,h4,_⟩:=hcell 0 (by omega)
             obtain⟨bl,of,sp⟩:=ad'
             simp only at h4
             subst h4
             simp [Yak]
         rw[e]
         refine .cut _ ad b.toNat cap (.x _ _ (.vs _ _ _ _ _ ad cap vals hz (by omega) (fun hnone=>?_) (fun k hk=>hcell k (by omega)) (fun k hk=>h k (by omega))))
         have:=hn hnone
         omega
   . rename_i j o n sz
     cases Yg he
     obtain⟨rfl,h0,hbn,hc⟩:=hpre
     cases h1 with
     |x _ _ h1=>cases h1
     |own _ _ _ _ bb cap m ad hbs hl ha=>
       have hm:=hH.le hbs
       refine⟨rfl,_,fun dst type pos after guard=>run (some ad) n (cap-o) b.toNat hρ (by omega) (by omega) (by omega) ..,?_⟩
       have e:(if b.toNat=0 then some ad else(some ad).map (·.add 0))=some ad:=by
         split
         . rfl
         . rcases ha with rfl|ha
           . simp [Yak]
           . omega
       rw[e]
       exact .cut _ (some ad) b.toNat (cap-o) (.own _ _ _ _ bb cap m ad hbs (by omega) ha)
     |ownNil _ _ hbs=>
       have hb0:b.toNat=0:=by omega
       refine⟨rfl,_,fun dst type pos after guard=>run none 0 0 0 hρ (by omega) (by omega) (YGH _) ..,?_⟩
       rw[hb0]
       exact .cut _ none 0 0 (.ownNil _ _ hbs)
   . cases he
 . cases he
theorem YmF{x:Operand}{t el:TypeId}{n size:Nat}{lov hiv:Option Operand}{xs:List SV}{e:Ef}(hu:P.underlying t=some (.array n el))(hs:sizeOf? P el=some size)
   (he:YbF hp n size lov.isSome hiv.isSome xs=some e)(hpre:e.pre)(hx:RepL w bs B xs ((x::(lov.toList++hiv.toList)).map ρ))(hH:Hp w bs B hp):QOk P ρ (.slice t x lov hiv none) w bs B e:=by
 unfold YbF at he
 split at he
 . rename_i jj hl1 hl2
   cases lov with
   |some _=>simp at hl1
   |none=>
   cases hiv with
   |some _=>simp at hl2
   |none=>
   have h3:=one1 (x:=x) (by simpa using hx)
   obtain⟨b,m,hb,hv⟩:=h3.ptr_inv
   split at he
   . rename_i hg
     cases Yg he
     obtain⟨rfl,rfl⟩:=hpre
     have hent:=hH.ent jj
     rw[hg]at hent
     rcases hent with⟨h,_⟩ | ⟨b',cap,vs,T,h4,h5,h6,h7,h8,h9⟩
     . rw[hb]at h;cases h
     . rw[hb]at h4;cases h4
       refine⟨rfl,_,fun dst type pos after guard=>?_,Rep.own _ 0 _ _ b _ _ ⟨b,0,none⟩ hb (by omega) (.inl (by simp))⟩
       simp [execOp,Instr.sliceAt,run_underlying hu,hv,Instr.sureAddr,Instr.sliceBounds,YC hs,Yak]
   . cases he
 . cases he
theorem Yzl{fn:Fn}{fs cs:Array Operand}{xs:List SV}(hx:RepL w bs B xs ((fs.toList++cs.toList).map ρ)):
   QOk P ρ (.makeFunc fn fs cs) w bs B ⟨True,.fn fn (YO fs.size xs) (YJ fs.size xs),.no⟩:=by
 refine⟨rfl,.func fn (fs.map ρ) (cs.map ρ),fun dst type pos after guard=>?_,?_⟩
 . simp [execOp,Instr.makeFunc]
 . have h1:=hx.take fs.size
   have h2:=hx.drop fs.size
   rw[List.map_append]at h1 h2
   have e1:((fs.toList.map ρ)++(cs.toList.map ρ)).take fs.size=fs.toList.map ρ:=by simp
   have e2:((fs.toList.map ρ)++(cs.toList.map ρ)).drop fs.size=cs.toList.map ρ:=by simp
   rw[e1]at h1;rw[e2]at h2
   have:=Rep.fn fn _ _ _ _ h1 h2
   have e3:(fs.toList.map ρ).toArray=fs.map ρ:=by apply Array.ext';simp
   have e4:(cs.toList.map ρ).toArray=cs.map ρ:=by apply Array.ext';simp
   rw[e3,e4]at this
   exact this
theorem YnY(y:SV)(u:Value)(hy:one y)(hr:Rep w bs B y u):u.oneCell'=true:=by
 cases hr with
 |x _ _ h=>cases h <;> first|rfl|exact hy|exact hy.elim
 |optT _ _ _=>exact hy.elim
 |optF _=>exact hy.elim
 |cut=>exact hy.elim
 |agg _ _ _=>exact hy.elim
 |tup _ _ _=>exact hy.elim
 |_=>rfl
theorem Yll:∀(l:List SV)(us:List Value),ones l->RepL w bs B l us->∀u∈us,u.oneCell'=true:=by
 intro l
 induction l with
 |nil=>intro us _ hr;cases hr;simp
 |cons y l ih=>
   intro us ho hr
   obtain⟨u,us',rfl,h1,h2⟩:=hr.cons_inv
   intro a ha
   rcases YGQ.1 ha with rfl|ha
   . exact YnY _ _ ho.1 h1
   . exact ih _ ho.2 h2 a ha
theorem YfD{x:SV}{v:Value}(h:ones (YaI x))(hx:Rep w bs B x v):RepL w bs B (YaI x) v.cells.toList/\∀u∈v.cells.toList,u.oneCell'=true:=by
 unfold YaI at h⊢
 split at h
 . rename_i cs
   obtain⟨vs,rfl,hr⟩:=hx.agg_inv
   exact⟨by simpa [Value.cells]using hr,by simpa [Value.cells]using Yll _ _ h hr⟩
 . rename_i hna
   have h1:=YnY _ _ h.1 hx
   have hc:v.cells= #[v]:=by cases v <;> simp_all [Value.cells,Value.oneCell']
   rw[hc]
   refine⟨.cons _ _ _ _ hx .nil,by simpa using h1⟩
theorem Ygb:∀(vs:List Value)(cs:Array Value)(off n:Nat),off+n+vs.length<=cs.size->
   ((vs.zipIdx n).foldl (fun(cs:Array Value) (x:Value×Nat)=>cs.setIfInBounds (off+x.2) x.1) cs).toList=YM cs.toList (off+n) vs
 | [],cs,off,n,h=>by simp [YM]
 |v::vs,cs,off,n,h=>by
   have ih:=Ygb vs (cs.setIfInBounds (off+n) v) off (n+1) (by simp at h⊢;omega)
   simp only[List.zipIdx_cons,List.foldl_cons]
   rw[ih]
   simp only[YHF]at h
   have hk:off+n<cs.toList.length:=by simp;omega
   rw[Array.toList_setIfInBounds,show off+(n+1)=off+n+1 by omega]
   generalize off+n=k at hk h
   generalize cs.toList=l at hk
   have e1:(l.set k v).take (k+1)=l.take k++[v]:=by
     rw[List.set_eq_take_append_cons_drop,if_pos hk,List.take_append]
     simp [YHi,Nat.min_eq_left (YHp hk)]
     exact List.take_of_length_le (by simp;omega)
   have e2:(l.set k v).drop (k+1+vs.length)=l.drop (k+(vs.length+1)):=by
     rw[List.set_eq_take_append_cons_drop,if_pos hk,List.drop_append]
     simp [YHi,Nat.min_eq_left (YHp hk)]
     rw[show k+1+vs.length-k=vs.length+1 by omega]
     simp only[List.drop_succ_cons,List.drop_drop]
     rw[List.drop_of_length_le (by simp;omega),List.nil_append]
     congr 1;omega
   simp [YM,e1,e2]
theorem YiF{cs:List Value}{off:Nat}{vs:List Value}(h:off+vs.length<=cs.length):(YM cs off vs).length=cs.length:=by
 simp [YM];omega
theorem YeJ:∀(cs:List SV)(off:Nat)(vs:List SV),lenL (Yah cs off vs)=lenL cs
 |cs,0,[]=>by cases cs <;> rfl
 | [],0,_::_=>rfl
 | [],_+1,_=>rfl
 |c::cs,0,v::vs=>by simp [Yah,lenL,YeJ cs 0 vs]
 |c::cs,n+1,vs=>by simp [Yah,lenL,YeJ cs n vs]
theorem Yjv{place:Nat->Option (Nat×Nat)}:∀{parts:List (Nat×Operand)}{pl:List (Nat×Nat)}{xs:List SV}{cs r:List SV}{cells:Array Value}{p:Prop},
   YR cs pl xs=some (p,r)->p->pl=parts.map (fun x=>(place x.1).getD (0,0))->(∀x∈parts,(place x.1).isSome=true)->
   RepL w bs B cs cells.toList->RepL w bs B xs (parts.map fun x=>ρ x.2)->
   ∃out,Instr.fill place cells (parts.map fun x=>(x.1,ρ x.2))=some out/\RepL w bs B r out.toList
 | [],pl,xs,cs,r,cells,p,h,hpp,hpl,_,hc,hx=>by
   subst hpl;cases hx
   simp only[List.map_nil,YR,Option.some.injEq,Prod.mk.injEq]at h
   obtain⟨_,rfl⟩:=h
   exact⟨cells,rfl,hc⟩
 | (i,o)::parts,pl,xs,cs,r,cells,p,h,hpp,hpl,hs,hc,hx=>by
   subst hpl
   simp only[YG6]at hx h⊢
   cases hx with
   |cons x v l vs h1 h2=>
   simp only[YR]at h
   obtain⟨⟨q,r'⟩,hq,heq⟩:=YGz.1 h
   simp only[Prod.mk.injEq]at heq
   obtain⟨rfl,rfl⟩:=heq
   obtain⟨hsz,hones,hoff,hqq⟩:=hpp
   have hplace:=hs (i,o) (by simp)
   obtain⟨⟨off,size⟩,hpl⟩:=Option.isSome_iff_exists.1 hplace
   simp only at hpl
   simp only[hpl,Option.getD_some]at hq hsz hoff
   obtain⟨hcl,_⟩:=YfD hones h1
   have hl1:(ρ o).cells.size=size:=by rw[<-hsz,hcl.length];simp
   have hl2:off+(ρ o).cells.size<=cells.size:=by rw[hl1];rw[hc.length]at hoff;simpa using hoff
   have hsp:=hc.splice off hcl (by rw[hsz];exact hoff)
   let cells':Array Value:=(ρ o).cells.zipIdx.foldl (fun cs (c,j)=>cs.setIfInBounds (off+j) c) cells
   have hf:cells'.toList=YM cells.toList off (ρ o).cells.toList:=by
     have:=Ygb (ρ o).cells.toList cells off 0 (by simpa using hl2)
     simp only[YHw]at this
     rw[<-this]
     simp only[cells',<-Array.foldl_toList,Array.toList_zipIdx]
   rw[<-hf]at hsp
   obtain⟨out,ho,hr⟩:=Yjv (parts:=parts) (cells:=cells') hq hqq rfl (fun x hx=>hs x (by simp [hx])) hsp h2
   refine⟨out,?_,hr⟩
   simp only[Instr.fill,hpl]
   rw[if_neg (by simp [hl1];omega)]
   exact ho
theorem Y7{t:TypeId}{z:List SV}(h:Yaj P t=some z):∃v,(zeroValue t).run P w= .ok v w/\RepL w bs B z v.cells.toList:=by
 unfold Yaj at h
 obtain⟨i,h1,h2⟩:=YGx.1 h
 obtain⟨v,h3,h4⟩:=YGz.1 h2
 refine⟨v,by simp [zeroValue,typeInfo,h1,h3],?_⟩
 subst h4
 have:∀(l:List Value),RepL w bs B (l.map Yf7) l:=by
   intro l
   induction l with
   |nil=>exact .nil
   |cons x l ih=>
     refine .cons _ _ _ _ (.x _ _ ?_) ih
     unfold Yf7
     split <;> constructor
 exact this _
theorem YoZ{fs:List Field}{pl:List (Nat×Nat)}(h:(fs.mapM fun f=>(sizeOf? P f.type).map fun s=>(f.offset,s))=some pl):
   ((fs.mapM fun(f:Field)=>Functor.map (Prod.mk f.offset) (sizeOf f.type):Sem (List (Nat×Nat)))).run P w= .ok pl w:=by
 induction fs generalizing pl with
 |nil=>simp at h;subst h;simp
 |cons f fs ih=>
   simp only[List.mapM_cons,Option.bind_eq_bind,Option.pure_def]at h
   obtain⟨a,h1,h2⟩:=YGx.1 h
   obtain⟨s,h3,h4⟩:=YGz.1 h1
   obtain⟨pl',h5,h6⟩:=YGx.1 h2
   simp only[Option.some.injEq]at h6
   subst h6;subst h4
   have ih':=ih h5
   simp [List.mapM_cons,YC h3,ih']
theorem Yuy{t:TypeId}{parts:Array (Nat×Operand)}{z:List SV}{fs:Array Field}{pl:List (Nat×Nat)}{xs:List SV}{p:Prop}{cs:List SV}
   (hz:Yaj P t=some z)(hu:P.underlying t=some (.struct fs))(hpl:Yfc P t=some pl)(hin:∀x∈parts.toList,x.1<pl.length)
   (he:YR z (parts.toList.map fun p=>pl.getD p.1 (0,0)) xs=some (p,cs))(hpre:p)(hx:RepL w bs B xs ((parts.toList.map (·.2)).map ρ)):
   QOk P ρ (.build t parts) w bs B ⟨p,.agg cs,.no⟩:=by
 obtain⟨v,hv,hr⟩:=Y7 (P:=P) (w:=w) (bs:=bs) (B:=B) hz
 unfold Yfc at hpl
 simp only[hu]at hpl
 have hplaces:=YoZ (P:=P) (w:=w) hpl
 obtain⟨out,ho,hro⟩:=Yjv (ρ:=ρ) (place:=(pl.toArray[·]?)) (parts:=parts.toList) (cells:=v.cells) he hpre (by
     apply List.map_congr_left
     intro x hx
     simp [List.getD]) (fun x hx=>by simp [hin x hx]) hr (by rw[List.map_map]at hx;exact hx)
 refine⟨rfl,.agg out,fun dst type pos after guard=>?_,?_⟩
 . have hm:(fs.mapM fun(f:Field)=>Functor.map (Prod.mk f.offset) (sizeOf f.type):Sem (Array (Nat×Nat))).run P w= .ok pl.toArray w:=by
     rw[Array.mapM_eq_mapM_toList]
     simp [hplaces]
   have ho':Instr.fill (fun x=>pl.toArray[x]?) v.cells (Array.map (fun x=>(x.fst,ρ x.snd)) parts).toList=some out:=by
     rw[Array.toList_map];exact ho
   simp only[execOp,Instr.build,bind_pure_comp,Sem.run_map,Sem.run_bind,hv,Result.andThen_ok,run_underlying hu,hm,ho',Sem.run_pure]
 . have:=Rep.agg (w:=w) (bs:=bs) (B:=B) cs out.toList hro
   simpa using this
theorem Yl5{t e n s:Nat}{parts:Array (Nat×Operand)}{z:List SV}{xs:List SV}{p:Prop}{cs:List SV}
   (hz:Yaj P t=some z)(hu:P.underlying t=some (.array n e))(hs:sizeOf? P e=some s)(hin:∀x∈parts.toList,x.1<((List.range n).map fun i=>(i*s,s)).length)
   (he:YR z (parts.toList.map fun p=>((List.range n).map fun i=>(i*s,s)).getD p.1 (0,0)) xs=some (p,cs))(hpre:p)(hx:RepL w bs B xs ((parts.toList.map (·.2)).map ρ)):
   QOk P ρ (.build t parts) w bs B ⟨p,.agg cs,.no⟩:=by
 obtain⟨v,hv,hr⟩:=Y7 (P:=P) (w:=w) (bs:=bs) (B:=B) hz
 obtain⟨out,ho,hro⟩:=Yjv (ρ:=ρ) (place:=fun i=>some (i*s,s)) (parts:=parts.toList) (cells:=v.cells) he hpre (by
     apply List.map_congr_left
     intro x hx
     have:=hin x hx
     simp only[List.length_map,List.length_range]at this
     simp [List.getD,this]) (fun x hx=>rfl) hr (by rw[List.map_map]at hx;exact hx)
 refine⟨rfl,.agg out,fun dst type pos after guard=>?_,?_⟩
 . have ho':Instr.fill (fun i=>some (i*s,s)) v.cells (Array.map (fun x=>(x.fst,ρ x.snd)) parts).toList=some out:=by
     rw[Array.toList_map];exact ho
   simp only[execOp,Instr.build,bind_pure_comp,Sem.run_map,Sem.run_bind,hv,Result.andThen_ok,run_underlying hu,YC hs,ho',Sem.run_pure]
 . have:=Rep.agg (w:=w) (bs:=bs) (B:=B) cs out.toList hro
   simpa using this
theorem YaJ{α:Type}{l:List α}{k:Nat}{x:α}{r:List α}(h:l.drop k=x::r):l[k]? =some x/\l.drop (k+1)=r:=by
 constructor
 . have:(l.drop k)[0]? =some x:=by rw[h];rfl
   simpa using this
 . rw[<-List.drop_drop,h];rfl
theorem YfO{t:TypeId}{b:Bool}(hk:Ygd P t=some b):(b=true/\∃k,P.underlying t=some (.int k))\/(b=false/\P.underlying t=some .bool):=by
 unfold Ygd at hk
 split at hk
 . cases hk;exact .inl ⟨rfl,_,‹_›⟩
 . cases hk;exact .inr ⟨rfl,‹_›⟩
 . cases hk
theorem Ydx{t:TypeId}{l:List Value}{k:Nat}{v:Value}{b:Bool}(hk:Ygd P t=some b)(hv:l[k]? =some v):(part t l.toArray k).run P w= .ok v w:=by
 have ha:Yet P t=some false:=by
   unfold Yet
   rcases YfO hk with⟨_,_,h⟩ | ⟨_,h⟩ <;> simp [h]
 simp [part,Yct ha,hv]
theorem YeD{d:Nat}{X Y:List Value}:∀{fs:List Field}{k:Nat}{ks:List Bool}{cs ds:List SV}{p:Prop}{b:Bool},YeH P k fs=some ks->YbP ks cs ds=some (p,b)->p->
   RepL w bs B cs (X.drop k)->RepL w bs B ds (Y.drop k)->(Op.eqFields (d+1) X.toArray Y.toArray fs).run P w= .ok b w
 | [],k,ks,cs,ds,p,b,hk,he,hp,_,_=>by
   simp only[YeH,Option.some.injEq]at hk;subst hk
   cases cs <;> cases ds <;> simp [YbP]at he
   simp [Op.eqFields,he.2]
 |f::fs,k,ks,cs,ds,p,b,hk,he,hp,hc,hd=>by
   simp only[YeH]at hk
   split at hk
   . rename_i hcond
     simp only[YGA,beq_iff_eq,bne_iff_ne,ne_eq]at hcond
     obtain⟨⟨h1,h2⟩,h3⟩:=hcond
     obtain⟨kb,hkb,hk⟩:=YGx.1 hk
     obtain⟨ks',hks,rfl⟩:=YGz.1 hk
     have key:∀(vx vy:Value)(l r:List SV)(c b':Bool)(q:Prop),YbP ks' l r=some (q,b')->q->b=(c&&b')->X.drop k=vx::X.drop (k+1)->Y.drop k=vy::Y.drop (k+1)->
         RepL w bs B l (X.drop (k+1))->RepL w bs B r (Y.drop (k+1))->(Op.equalIn (d+1) f.type vx vy).run P w= .ok c w->
         (Op.eqFields (d+1) X.toArray Y.toArray (f::fs)).run P w= .ok b w:=by
       intro vx vy l r c b' q hq hqq hb hX hY hl hr hrun
       have ih:=YeD (d:=d) hks hq hqq hl hr
       have hX1:=(YaJ hX).1
       have hY1:=(YaJ hY).1
       subst hb
       simp only[Op.eqFields,ne_eq,h3,not_false_eq_true,if_true,h2,Sem.run_bind,Ydx hkb hX1,Ydx hkb hY1,Result.andThen_ok,hrun,Sem.run_ite,ih]
       cases c <;> simp
     cases cs with
     |nil=>exact absurd he (by cases kb <;> simp [YbP])
     |cons x l=>
     cases ds with
     |nil=>exact absurd he (by cases kb <;> cases x <;> simp [YbP])
     |cons y r=>
     obtain⟨vx,l1,hX,hvx,hl1⟩:=hc.cons_inv
     obtain⟨vy,l2,hY,hvy,hl2⟩:=hd.cons_inv
     obtain⟨_,rfl⟩:=YaJ hX
     obtain⟨_,rfl⟩:=YaJ hY
     rcases YfO hkb with⟨rfl,ik,hu⟩ | ⟨rfl,hu⟩
     . cases x <;> cases y <;> simp only[YbP,reduceCtorEq]at he
       obtain⟨⟨q,b'⟩,hq,he⟩:=YGz.1 he
       simp only[Prod.mk.injEq]at he
       obtain⟨rfl,rfl⟩:=he
       obtain⟨rfl,hp⟩:=hp
       have hvx:=hvx.int_inv;have hvy:=hvy.int_inv;subst hvx;subst hvy
       refine key _ _ _ _ _ _ _ hq hp rfl hX hY hl1 hl2 ?_
       rw[run_equalIn_int w d f.type _ ik _ _ hu]
       congr 1
     . cases x <;> cases y <;> simp only[YbP,reduceCtorEq]at he
       obtain⟨⟨q,b'⟩,hq,he⟩:=YGz.1 he
       simp only[Prod.mk.injEq]at he
       obtain⟨rfl,rfl⟩:=he
       have hvx:=hvx.bool_inv;have hvy:=hvy.bool_inv;subst hvx;subst hvy
       exact key _ _ _ _ _ _ _ hq hp rfl hX hY hl1 hl2 (run_equalIn_bool w d f.type _ _ hu)
   . cases hk
theorem Yij{d:Nat}{X Y:List Value}{e:TypeId}{kb:Bool}(hkb:Ygd P e=some kb):∀{n k:Nat}{cs ds:List SV}{p:Prop}{b:Bool},YbP (repK n kb) cs ds=some (p,b)->p->
   RepL w bs B cs (X.drop k)->RepL w bs B ds (Y.drop k)->(Op.eqItems (d+1) e 1 X.toArray Y.toArray (List.range' k n)).run P w= .ok b w
 |0,k,cs,ds,p,b,he,hp,_,_=>by
   simp only[repK]at he
   cases cs <;> cases ds <;> simp [YbP]at he
   simp [Op.eqItems,he.2]
 |n+1,k,cs,ds,p,b,he,hp,hc,hd=>by
   simp only[repK]at he
   have key:∀(vx vy:Value)(l r:List SV)(c b':Bool)(q:Prop),YbP (repK n kb) l r=some (q,b')->q->b=(c&&b')->X.drop k=vx::X.drop (k+1)->Y.drop k=vy::Y.drop (k+1)->
       RepL w bs B l (X.drop (k+1))->RepL w bs B r (Y.drop (k+1))->(Op.equalIn (d+1) e vx vy).run P w= .ok c w->
       (Op.eqItems (d+1) e 1 X.toArray Y.toArray (List.range' k (n+1))).run P w= .ok b w:=by
     intro vx vy l r c b' q hq hqq hb hX hY hl hr hrun
     have ih:=Yij (d:=d) hkb hq hqq hl hr
     have hX1:=(YaJ hX).1
     have hY1:=(YaJ hY).1
     subst hb
     simp only[List.range'_succ,Op.eqItems,Nat.mul_one,Sem.run_bind,Ydx hkb hX1,Ydx hkb hY1,Result.andThen_ok,hrun,Sem.run_ite,ih]
     cases c <;> simp
   cases cs with
   |nil=>exact absurd he (by cases kb <;> simp [YbP])
   |cons x l=>
   cases ds with
   |nil=>exact absurd he (by cases kb <;> cases x <;> simp [YbP])
   |cons y r=>
   obtain⟨vx,l1,hX,hvx,hl1⟩:=hc.cons_inv
   obtain⟨vy,l2,hY,hvy,hl2⟩:=hd.cons_inv
   obtain⟨_,rfl⟩:=YaJ hX
   obtain⟨_,rfl⟩:=YaJ hY
   rcases YfO hkb with⟨rfl,ik,hu⟩ | ⟨rfl,hu⟩
   . cases x <;> cases y <;> simp only[YbP,reduceCtorEq]at he
     obtain⟨⟨q,b'⟩,hq,he⟩:=YGz.1 he
     simp only[Prod.mk.injEq]at he
     obtain⟨rfl,rfl⟩:=he
     obtain⟨rfl,hp⟩:=hp
     have hvx:=hvx.int_inv;have hvy:=hvy.int_inv;subst hvx;subst hvy
     refine key _ _ _ _ _ _ _ hq hp rfl hX hY hl1 hl2 ?_
     rw[run_equalIn_int w d e _ ik _ _ hu]
     congr 1
   . cases x <;> cases y <;> simp only[YbP,reduceCtorEq]at he
     obtain⟨⟨q,b'⟩,hq,he⟩:=YGz.1 he
     simp only[Prod.mk.injEq]at he
     obtain⟨rfl,rfl⟩:=he
     have hvx:=hvx.bool_inv;have hvy:=hvy.bool_inv;subst hvx;subst hvy
     exact key _ _ _ _ _ _ _ hq hp rfl hX hY hl1 hl2 (run_equalIn_bool w d e _ _ hu)
theorem Yv6{neg:Bool}{t yt:TypeId}{x y:Operand}{op:BinOp}{ks:List Bool}{xs:List SV}{e:Ef}(hop:op=if neg then .neq else .eql)(ht:YgJ P t=some ks)
   (he:eEqv neg ks xs=some e)(hpre:e.pre)(hx:RepL w bs B xs ([x,y].map ρ)):QOk P ρ (.binOp op t x y yt) w bs B e:=by
 unfold eEqv at he
 split at he
 . rename_i cs ds
   obtain⟨⟨p,b⟩,hb,he⟩:=YGx.1 he
   cases Yg he
   obtain⟨h1,h2⟩:=two hx
   obtain⟨X,h1,hr1⟩:=h1.agg_inv
   obtain⟨Y,h2,hr2⟩:=h2.agg_inv
   unfold YgJ at ht
   split at ht
   . rename_i n e hu
     split at ht
     . rename_i hc
       simp only[YGA,YGP]at hc
       obtain⟨kb,hkb,rfl⟩:=YGz.1 ht
       obtain⟨i,hi,hsz⟩:∃i,P.info? e=some i/\i.size=1:=by
         have:=hc.2
         unfold Yj5 at this
         split at this
         . exact⟨_,‹_›,by simpa using this⟩
         . cases this
       have hco:P.cellsOf e=1:=by simp [Program.cellsOf,hi,hsz]
       have hrun:=run_equalIn_array (P:=P) (w:=w) 9999 X.toArray Y.toArray hu hi
       rw[hco,List.range_eq_range',Yij (d:=9998) (X:=X) (Y:=Y) hkb hb hpre (by simpa using hr1) (by simpa using hr2)]at hrun
       have hg:=run_eqGuard_agg (P:=P) w op t x y X.toArray Y.toArray hc.1
       cases neg <;> subst hop
       . refine⟨rfl,.bool b,fun dst type pos after guard=>?_,.x _ _ (.bool _)⟩
         simp only[if_false,YGM]at hg⊢
         simp [execOp,h1,h2,hg,run_eql_struct,hrun]
       . refine⟨rfl,.bool (!b),fun dst type pos after guard=>?_,.x _ _ (.bool _)⟩
         simp only[if_true]at hg⊢
         simp [execOp,h1,h2,hg,run_neq_struct,hrun]
     . cases ht
   . rename_i fs hu
     split at ht
     . rename_i hc
       simp only[YGA,YGP]at hc
       have hu':P.underlying t=some (.struct (P.fieldsOf t)):=by simp [Program.fieldsOf,hu]
       have hf:(P.fieldsOf t).toList=fs.toList:=by simp [Program.fieldsOf,hu]
       have hrun:=run_equalIn_struct (P:=P) w 9999 t X.toArray Y.toArray hu' hc.1
       rw[hf,YeD (d:=9998) (X:=X) (Y:=Y) ht hb hpre (by simpa using hr1) (by simpa using hr2)]at hrun
       have hg:=run_eqGuard_agg (P:=P) w op t x y X.toArray Y.toArray hc.2
       cases neg <;> subst hop
       . refine⟨rfl,.bool b,fun dst type pos after guard=>?_,.x _ _ (.bool _)⟩
         simp only[if_false,YGM]at hg⊢
         simp [execOp,h1,h2,hg,run_eql_struct,hrun]
       . refine⟨rfl,.bool (!b),fun dst type pos after guard=>?_,.x _ _ (.bool _)⟩
         simp only[if_true]at hg⊢
         simp [execOp,h1,h2,hg,run_neq_struct,hrun]
     . cases ht
   . cases ht
 . cases he
theorem Ygt(d:Nat)(t el:TypeId)(a:Option Addr)(l c:Nat)(h:P.underlying t=some (.slice el)):(Op.equalIn (d+1) t (.slice a l c) (.slice none 0 0)).run P w= .ok a.isNone w:=by
 cases a <;> simp [Op.equalIn,run_underlying h]
theorem YhX(t el:TypeId)(a:Option Addr)(l c:Nat)(h:P.underlying t=some (.slice el)):(Op.equal t (.slice a l c) (.slice none 0 0)).run P w= .ok a.isNone w:=Ygt 9999 t el a l c h
theorem Ywk{neg:Bool}{t yt:TypeId}{x:Operand}{op:BinOp}{xs:List SV}{e:Ef}(hop:op=if neg then .neq else .eql)(ht:Yfo P t=true)
   (he:eNil hp neg xs=some e)(hρ:∀v,ρ (.const v)=v)(hx:RepL w bs B xs ([x,.const (.slice none 0 0)].map ρ))(hH:Hp w bs B hp):QOk P ρ (.binOp op t x (.const (.slice none 0 0)) yt) w bs B e:=by
 have hu:∃el,P.underlying t=some (.slice el):=by
   unfold Yfo at ht;split at ht
   . exact⟨_,‹_›⟩
   . cases ht
 obtain⟨el,hu⟩:=hu
 have run (a:Option Addr) (n c:Nat) (h:ρ x= .slice a n c):∀dst type pos after guard,(execOp ρ ⟨dst,.binOp op t x (.const (.slice none 0 0)) yt,type,pos,after,guard⟩).run P w=
     .ok (.value (.bool (Yhr neg a.isNone))) w:=by
   intro dst type pos after guard
   have hr:=YhX (P:=P) (w:=w) t el a n c hu
   cases neg <;> subst hop <;> simp [execOp,h,hρ,eqGuard,binOp,hr,Yhr]
 unfold eNil at he
 split at he
 . rename_i y
   obtain⟨h1,_⟩:=two hx
   split at he
   . cases Yg he
     exact⟨rfl,_,run _ _ _ h1.nil_inv,.x _ _ (.bool _)⟩
   . cases Yg he
     cases h1 with
     |x _ _ h1=>
       generalize hv:ρ x=v at h1
       cases h1 with
       |vs _ _ _ _ _ a cap vals hz hc hn hcell h=>
         subst hz
         exact⟨rfl,_,run _ _ _ hv,.x _ _ (.bool _)⟩
   . rename_i i lo n sz
     split at he
     . rename_i z s' n' g hg
       cases Yg he
       have hent:=hH.ent i
       rw[hg]at hent
       generalize hv:ρ x=v at h1
       cases h1 with
       |x _ _ h1=>cases h1
       |own _ _ _ _ b cap m ad hbs hl ha=>
         rcases hent with⟨h,_⟩ | ⟨_,_,_,_,_,hz,_⟩
         . rw[hbs]at h;cases h
         . subst hz
           exact⟨rfl,_,run _ _ _ hv,.x _ _ (.bool _)⟩
       |ownNil _ _ hbs=>
         rcases hent with⟨_,hz,_⟩ | ⟨_,_,_,_,h,_⟩
         . subst hz
           exact⟨rfl,_,run _ _ _ hv,.x _ _ (.bool _)⟩
         . rw[hbs]at h;cases h
     . cases he
   . cases he
 . cases he
end
end Go.Vx
namespace Go.Vx
open Go.RowKit
def updH(hp:List HO):Upd->List HO
 | .no=>hp
 | .new ho=>Ybx hp ho
 | .set i ho=>setH hp i ho
 | .app i ho=>setH (YaN i hp) i ho
def updE:Upd->Option Nat
 | .app i _=>some i
 |_=>none
section
variable {P:Program} {ρ:Operand->Value} {w w':World} {bs bs':List BK} {B:Bd} {hp:List HO}
def MOk(P:Program)(ρ:Operand->Value)(op:Op)(w:World)(bs:List BK)(B:Bd)(hp:List HO)(e:Ef):Prop:=
 ∃r v w' bs',(∀dst type pos after guard,(execOp ρ ⟨dst,op,type,pos,after,guard⟩).run P w= .ok r w')/\(r= .value v\/(r= .skip/\v=undef))/\
   Rep w' bs' B e.val v/\Hp w' bs' B (updH hp e.upd)/\Keeps w bs w' bs'/\Stays (updE e.upd) bs bs'/\Below B w w'
theorem Keeps.refl:Keeps w bs w bs:=fun _ hf _ h=>⟨h,hf⟩
theorem Stays.refl{e:Option Nat}:Stays e bs bs:=fun _ _ _ h _=>h
theorem QOk.mok{op:Op}{e:Ef}(h:QOk P ρ op w bs B e)(hH:Hp w bs B hp):MOk P ρ op w bs B hp e:=by
 obtain⟨hu,v,hrun,hr⟩:=h
 exact⟨.value v,v,w,bs,hrun,.inl rfl,hr,by rw[hu];exact hH,Keeps.refl,Stays.refl,Below.refl _ _⟩
theorem Ya9:∀(hp:List HO)(x:HO),lenH (Ybx hp x)=lenH hp+1
 | [],_=>rfl
 |_::l,x=>by simp [Ybx,lenH,Ya9 l x]
theorem Y3:∀(hp:List HO)(x:HO)(i:Nat),i<lenH hp->getH (Ybx hp x) i=getH hp i
 | [],_,_,h=>by simp [lenH]at h
 |_::_,_,0,_=>rfl
 |_::l,x,i+1,h=>by simpa [Ybx,getH]using Y3 l x i (by simpa [lenH]using h)
theorem Ya7:∀(hp:List HO)(x:HO),getH (Ybx hp x) (lenH hp)=x
 | [],_=>rfl
 |_::l,x=>by simpa [Ybx,lenH,getH]using Ya7 l x
theorem Ybh:∀(hp:List HO)(i:Nat),lenH hp<=i->getH hp i= .gone
 | [],i,_=>by cases i <;> rfl
 |_::l,0,h=>by simp [lenH]at h
 |_::l,i+1,h=>by simpa [getH]using Ybh l i (by simpa [lenH]using h)
theorem YcL:∀(hp:List HO)(i:Nat)(x:HO),lenH (setH hp i x)=lenH hp
 | [],i,_=>by cases i <;> rfl
 |_::_,0,_=>rfl
 |_::l,i+1,x=>by simp [setH,lenH,YcL l i x]
theorem YaW:∀(hp:List HO)(i:Nat)(x:HO),i<lenH hp->getH (setH hp i x) i=x
 | [],_,_,h=>by simp [lenH]at h
 |_::_,0,_,_=>rfl
 |_::l,i+1,x,h=>by simpa [setH,getH]using YaW l i x (by simpa [lenH]using h)
theorem YS:∀(hp:List HO)(i j:Nat)(x:HO),i≠j->getH (setH hp i x) j=getH hp j
 | [],i,j,_,_=>by cases i <;> rfl
 |_::_,0,0,_,h=>absurd rfl h
 |_::_,0,j+1,_,_=>rfl
 |_::_,i+1,0,_,_=>rfl
 |_::l,i+1,j+1,x,h=>by simpa [setH,getH]using YS l i j x (by omega)
theorem HRep.keepG{B':Bd}{i:Nat}{ho:HO}(hk:YbS w bs B w' bs' B')(hb:Stays none bs bs')(hi:bs'[i]? =bs[i]?)
   (hblk:∀b c n,bs[i]? =some (.blk b c n)->w'.heap[b]? =w.heap[b]?)(h:HRep w bs B i ho):HRep w' bs' B' i ho:=by
 cases ho with
 |gone=>simpa [HRep,hi]using h
 |box cs=>
   obtain⟨b,vs,T,h1,h2,h3⟩:=h
   exact⟨b,vs,T,by rw[hi];exact h1,by rw[hblk _ _ _ h1];exact h2,h3.keepG hk hb Yj⟩
 |smap l=>
   obtain⟨b,es,c,h1,h2,h3⟩:=h
   exact⟨b,es,c,by rw[hi];exact h1,by rw[hblk _ _ _ h1];exact h2,h3⟩
 |own z size n get=>
   rcases h with⟨h1,h2,h3⟩ | ⟨b,cap,vs,T,h1,h2,h3,h4,h5,h6⟩
   . exact .inl ⟨by rw[hi];exact h1,h2,h3⟩
   . exact .inr ⟨b,cap,vs,T,by rw[hi];exact h1,h2,by rw[hblk _ _ _ h1];exact h3,h4,h5,fun k hk'=>(h6 k hk').keepG hk hb Yj⟩
theorem HRep.keepC{i:Nat}{ho:HO}(hk:KeepsC w bs w' bs')(hb:Stays none bs bs')(hi:bs'[i]? =bs[i]?)
   (hblk:∀b c n,bs[i]? =some (.blk b c n)->w'.heap[b]? =w.heap[b]?)(h:HRep w bs B i ho):HRep w' bs' B i ho:=h.keepG hk.g hb hi hblk
theorem HRep.keep{i:Nat}{ho:HO}(hk:Keeps w bs w' bs')(hb:Stays none bs bs')(hi:bs'[i]? =bs[i]?)
   (hblk:∀b c n,bs[i]? =some (.blk b c n)->w'.heap[b]? =w.heap[b]?)(h:HRep w bs B i ho):HRep w' bs' B i ho:=h.keepC hk.c hb hi hblk
def World.push(w:World)(o:Obj):World:={ w with heap:=w.heap.push o}
theorem YgM{b:Nat}{o o':Obj}(h:w.heap[b]? =some o'):(World.push w o).heap[b]? =some o':=by
 have hb:b<w.heap.size:=(YG5.1 h).1
 simp only[World.push,Array.getElem?_push]
 rw[if_neg (by omega)];exact h
theorem Ya4{o:Obj}:(World.push w o).heap[w.heap.size]? =some o:=by
 show(w.heap.push o)[w.heap.size]? =some o
 exact Array.getElem?_push_size
theorem Y2(o:Obj)(hB:B<=w.heap.size):Below B w (World.push w o):=(Below.refl B w).alloc hB o
theorem YcP(oo:Obj)(cap n:Nat):Keeps w bs (World.push w oo) (bs++[.blk w.heap.size cap n]):=by
 intro b hf o ho
 refine⟨YgM ho,fun i b' c m h=>?_⟩
 rw[YHB]at h
 split at h
 . exact hf i b' c m h
 . have hb:b<w.heap.size:=(YG5.1 ho).1
   rw[List.getElem?_singleton]at h
   split at h
   . cases h;omega
   . cases h
theorem Yaa(cs:Array Value)(T:TypeId)(cap n:Nat):Keeps w bs (World.push w (.cells cs T (0,0))) (bs++[.blk w.heap.size cap n]):=YcP _ cap n
theorem YA(x:BK)(e:Option Nat):Stays e bs (bs++[x]):=by
 intro i y _ h _
 rw[YG4 (List.getElem?_eq_some_iff.1 h).1];exact h
theorem YrK(hH:Hp w bs B hp)(hB:B<=w.heap.size){oo:Obj}{cap n:Nat}{ho:HO}
   (h:HRep (World.push w oo) (bs++[.blk w.heap.size cap n]) B (lenH hp) ho):
   Hp (World.push w oo) (bs++[.blk w.heap.size cap n]) B (Ybx hp ho):=by
 have hlt:∀(i b c m:Nat),bs[i]? =some (.blk b c m)->b<w.heap.size:=fun i b c m h=>(hH.lo i b c m h).2
 refine⟨by simp [hH.len,Ya9],fun i=>?_,fun i j b c m c' m' h1 h2=>?_,fun i b c m h1=>?_,YaO (YcP oo cap n) hH.reg⟩
 . rcases Nat.lt_trichotomy i (lenH hp)with hi|hi|hi
   . rw[Y3 _ _ _ hi]
     refine(hH.ent i).keep (YcP oo cap n) (YA _ _) ?_ ?_
     . rw[YG4 (by rw[hH.len];exact hi)]
     . intro b c m hb
       have:=hlt i b c m hb
       simp only[World.push,Array.getElem?_push]
       rw[if_neg (by omega)]
   . subst hi;rw[Ya7];exact h
   . rw[Ybh _ _ (by rw[Ya9];omega)]
     right
     rw[List.getElem?_eq_none];simp [hH.len];omega
 . rw[YHB]at h1 h2
   split at h1 <;> split at h2
   . exact hH.inj i j b c m c' m' h1 h2
   . have:=hlt i b c m h1
     rw[List.getElem?_singleton]at h2;split at h2 <;> cases h2;omega
   . have:=hlt j b c' m' h2
     rw[List.getElem?_singleton]at h1;split at h1 <;> cases h1;omega
   . rw[List.getElem?_singleton]at h1 h2
     split at h1 <;> split at h2 <;> first|omega| (cases h1;done) | (cases h2;done)
 . rw[YHB]at h1
   have hs:(World.push w oo).heap.size=w.heap.size+1:=by simp [World.push]
   split at h1
   . have:=hH.lo i b c m h1;omega
   . rw[List.getElem?_singleton]at h1
     split at h1 <;> cases h1
     omega
theorem Yhs(hH:Hp w bs B hp)(hB:B<=w.heap.size){cs:Array Value}{T:TypeId}{cap n:Nat}{ho:HO}
   (h:HRep (World.push w (.cells cs T (0,0))) (bs++[.blk w.heap.size cap n]) B (lenH hp) ho):
   Hp (World.push w (.cells cs T (0,0))) (bs++[.blk w.heap.size cap n]) B (Ybx hp ho):=YrK hH hB h
theorem Y5{x:BK}(hH:Hp w bs B hp):(bs++[x])[lenH hp]? =some x:=by rw[<-hH.len];simp
theorem YCX{elem:TypeId}{x:Operand}{xs:List SV}{e:Ef}(he:eBox (lenH hp) xs=some e)(hpre:e.pre)(hx:RepL w bs B xs ([x].map ρ))(hH:Hp w bs B hp)(hB:B<=w.heap.size):
   MOk P ρ (.box elem x) w bs B hp e:=by
 unfold eBox at he
 split at he
 . simp only[eNew,Option.some.injEq]at he
   subst he
   obtain⟨hcl,_⟩:=YfD hpre (one1 hx)
   refine⟨.value (.pointer (some ⟨w.heap.size,0,none⟩)),_,World.push w (.cells (ρ x).cells elem (0,0)),bs++[.blk w.heap.size 0 0],fun dst type pos after guard=>?_,.inl rfl,?_,?_,Yaa _ _ _ _,YA _ _,Y2 _ hB⟩
   . simp [execOp,Instr.box,newVar,newRow,World.push]
   . exact .ptr _ _ _ _ (Y5 hH)
   . exact Yhs hH hB ⟨_,_,_,Y5 hH,Ya4,hcl.keep (Yaa _ _ _ _) (YA _ _) Yj⟩
 . cases he
theorem Yul{elem:TypeId}{z:List SV}(hz:Yaj P elem=some z)(hH:Hp w bs B hp)(hB:B<=w.heap.size):
   MOk P ρ (.alloc elem) w bs B hp ⟨True,.ptr (lenH hp) 0,.new (.box z)⟩:=by
 obtain⟨v,hv,hr⟩:=Y7 (P:=P) (w:=w) (bs:=bs) (B:=B) hz
 refine⟨.value (.pointer (some ⟨w.heap.size,0,none⟩)),_,World.push w (.cells v.cells elem (0,0)),bs++[.blk w.heap.size 0 0],fun dst type pos after guard=>?_,.inl rfl,?_,?_,Yaa _ _ _ _,YA _ _,Y2 _ hB⟩
 . simp [execOp,Instr.alloc,hv,newVar,newRow,World.push]
 . exact .ptr _ _ _ _ (Y5 hH)
 . exact Yhs hH hB ⟨_,_,_,Y5 hH,Ya4,hr.keep (Yaa _ _ _ _) (YA _ _) Yj⟩
theorem Ygz{cs:List SV}{vs:List Value}(h:RepL w bs B cs vs)(size k:Nat):RepL w bs B (YaS size cs k) ((vs.drop (k*size)).take size):=(h.drop _).take _
theorem YlZ{elem t:TypeId}{n size:Nat}{z:List SV}(hz:Yaj P elem=some z)(hl:lenL z=n*size)(hH:Hp w bs B hp)(hB:B<=w.heap.size):
   MOk P ρ (.alloc elem) w bs B hp ⟨lenL z=n*size,.ptr (lenH hp) 0,.new (.own false size n (YaS size z))⟩:=by
 obtain⟨v,hv,hr⟩:=Y7 (P:=P) (w:=w) (bs:=bs) (B:=B) hz
 refine⟨.value (.pointer (some ⟨w.heap.size,0,none⟩)),_,World.push w (.cells v.cells elem (0,0)),bs++[.blk w.heap.size n n],fun dst type pos after guard=>?_,.inl rfl,?_,?_,Yaa _ _ _ _,YA _ _,Y2 _ hB⟩
 . simp [execOp,Instr.alloc,hv,newVar,newRow,World.push]
 . exact .ptr _ _ _ _ (Y5 hH)
 . refine Yhs hH hB (.inr ⟨_,n,_,_,Y5 hH,rfl,Ya4,?_,YGH _,fun k _=>Ygz (hr.keep (Yaa _ _ _ _) (YA _ _) Yj) size k⟩)
   rw[<-hl,hr.length];simp
structure Wrote (w w':World) (b:Nat) (o:Obj):Prop where
 os:w'.os=w.os
 tape:w'.tape=w.tape
 output:w'.output=w.output
 size:w'.heap.size=w.heap.size
 at_:w'.heap[b]? =some o
 other:∀k,k≠b->w'.heap[k]? =w.heap[k]?
theorem YlK{cs:List Value}{off:Nat}{v:Value}{vs:List Value}(h:off<cs.length):YM (cs.set off v) (off+1) vs=YM cs off (v::vs):=by
 have e1:(cs.set off v).take (off+1)=cs.take off++[v]:=by
   rw[List.set_eq_take_append_cons_drop,if_pos h,List.take_append]
   simp [YHi,Nat.min_eq_left (YHp h)]
   exact List.take_of_length_le (by simp;omega)
 have e2:(cs.set off v).drop (off+1+vs.length)=cs.drop (off+(vs.length+1)):=by
   rw[List.set_eq_take_append_cons_drop,if_pos h,List.drop_append]
   simp [YHi,Nat.min_eq_left (YHp h)]
   rw[show off+1+vs.length-off=vs.length+1 by omega]
   simp only[List.drop_succ_cons,List.drop_drop]
   rw[List.drop_of_length_le (by simp;omega),List.nil_append]
   congr 1;omega
 simp [YM,e1,e2]
theorem Yj2{b off:Nat}{cs:Array Value}{T:TypeId}{v:Value}(hb:w.heap[b]? =some (.cells cs T (0,0))):
   Wrote w (w.setCell ⟨b,off,none⟩ v) b (.cells (cs.setIfInBounds off v) T (0,0)):=by
 refine⟨rfl,rfl,rfl,by simp [World.setCell],?_,fun k hk=>?_⟩
 . simp [World.setCell,Array.getElem?_modify,hb]
 . simp only[World.setCell,Array.getElem?_modify]
   rw[if_neg (by omega)]
theorem Wrote.trans{w1 w2:World}{b:Nat}{o o':Obj}(h:Wrote w w1 b o)(h':Wrote w1 w2 b o'):Wrote w w2 b o':=
 ⟨h'.os.trans h.os,h'.tape.trans h.tape,h'.output.trans h.output,h'.size.trans h.size,h'.at_,fun k hk=>(h'.other k hk).trans (h.other k hk)⟩
theorem Ycg{b off T:Nat}:∀{vs:List Value}{cs:Array Value}{w:World}{i:Nat},w.heap[b]? =some (.cells cs T (0,0))->off+i+vs.length<=cs.size->(∀u∈vs,u.oneCell'=true)->
   ∃w' cs',(storeCells ⟨b,off,none⟩ vs i).run P w= .ok () w'/\Wrote w w' b (.cells cs' T (0,0))/\cs'.toList=YM cs.toList (off+i) vs
 | [],cs,w,i,hb,hl,ho=>⟨w,cs,rfl,⟨rfl,rfl,rfl,rfl,hb,fun _ _=>rfl⟩,by simp [YM]⟩
 |v::vs,cs,w,i,hb,hl,ho=>by
   simp only[YHF]at hl
   have hw:=Yj2 (off:=off+i) (v:=v) hb
   obtain⟨w',cs',hrun,hw',hcs⟩:=Ycg (off:=off) (vs:=vs) (cs:=cs.setIfInBounds (off+i) v) (w:=w.setCell ⟨b,off+i,none⟩ v) (i:=i+1) hw.at_ (by simp;omega) (fun u hu=>ho u (by simp [hu]))
   refine⟨w',cs',?_,hw.trans hw',?_⟩
   . have hc:w.cell? ⟨b,off+i,none⟩=some (cs[off+i]'(by omega)):=by simp [World.cell?,hb]
     have hf:w.frozen? ⟨b,off+i,none⟩=false:=by simp [World.frozen?,hb]
     simp only[storeCells,Sem.run_bind,Yak,run_store _ _ _ _ _ (ho v (by simp)),hc,hf,YGM,if_false,Result.andThen_ok,hrun]
   . rw[hcs,Array.toList_setIfInBounds,show off+(i+1)=off+i+1 by omega,YlK (by simp;omega)]
theorem spliceV_get?{cs vs:List Value}{off:Nat}(h:off+vs.length<=cs.length)(i:Nat):
   (YM cs off vs)[i]? =if i<off then cs[i]? else if i<off+vs.length then vs[i-off]? else cs[i]? :=by
 unfold YM
 rw[List.append_assoc,YHB]
 simp only[YHi,Nat.min_eq_left (show off<=cs.length by omega)]
 split
 . rw[YHt,if_pos ‹_›]
 . rw[YHB]
   split
   . rw[if_pos (by omega)]
   . rw[if_neg (by omega),List.getElem?_drop];congr 1;omega
theorem YsF{vs u:List Value}{p off sz:Nat}(h1:off+u.length<=sz)(h2:p+sz<=vs.length):
   YM ((vs.drop p).take sz) off u=((YM vs (p+off) u).drop p).take sz:=by
 apply List.ext_getElem?
 intro i
 rw[spliceV_get? (by simp;omega),YHt,YHt,List.getElem?_drop,List.getElem?_drop,spliceV_get? (by omega)]
 by_cases hi:i<sz
 . simp only[hi,if_true]
   by_cases ha:i<off
   . simp only[ha,if_true,show p+i<p+off by omega]
   . simp only[ha,if_false,show¬p+i<p+off by omega]
     by_cases hb:i<off+u.length
     . simp only[hb,if_true,show p+i<p+off+u.length by omega];congr 1;omega
     . simp only[hb,if_false,show¬p+i<p+off+u.length by omega]
 . simp only[hi,if_false]
   simp only[show¬i<off by omega,if_false,show¬i<off+u.length by omega]
theorem Yo1{vs u:List Value}{p q off sz:Nat}(h1:off+u.length<=sz)(h2:p+sz<=vs.length)(h:q+sz<=p\/p+sz<=q):
   (vs.drop q).take sz=((YM vs (p+off) u).drop q).take sz:=by
 apply List.ext_getElem?
 intro i
 rw[YHt,YHt,List.getElem?_drop,List.getElem?_drop,spliceV_get? (by omega)]
 by_cases hi:i<sz
 . simp only[hi,if_true]
   by_cases ha:q+i<p+off
   . rw[if_pos ha]
   . rw[if_neg ha,if_neg (by omega)]
 . simp only[hi,if_false]
theorem Wrote.below{b:Nat}{o:Obj}(h:Wrote w w' b o)(hB:B<=b):Below B w w':=
 ⟨h.os,h.tape,h.output,YHM h.size.symm,fun k hk=>h.other k (by omega)⟩
theorem Wrote.keeps{b i c n:Nat}{o:Obj}(h:Wrote w w' b o)(hb:bs[i]? =some (.blk b c n)):Keeps w bs w' bs:=by
 intro k hf o' ho
 have:b≠k:=hf i b c n hb
 exact⟨by rw[h.other k (by omega)];exact ho,hf⟩
theorem Yoi{b i c n:Nat}{o:Obj}{ho:HO}(hH:Hp w bs B hp)(hw:Wrote w w' b o)(hb:bs[i]? =some (.blk b c n))(hi:i<lenH hp)(h:HRep w' bs B i ho):
   Hp w' bs B (setH hp i ho):=by
 refine⟨by rw[YcL];exact hH.len,fun j=>?_,hH.inj,fun j b' c' n' h1=>by rw[hw.size];exact hH.lo j b' c' n' h1,YaO (hw.keeps hb) hH.reg⟩
 by_cases hij:i=j
 . subst hij;rw[YaW _ _ _ hi];exact h
 . rw[YS _ _ _ _ hij]
   refine(hH.ent j).keep (hw.keeps hb) Stays.refl rfl ?_
   intro b' c' n' hb'
   refine hw.other b' fun he=>hij ?_
   subst he
   exact hH.inj i j _ _ _ _ _ hb hb'
theorem YjM{i:Nat}{x:BK}(hH:Hp w bs B hp)(h:bs[i]? =some x):i<lenH hp:=by
 rw[<-hH.len];exact(List.getElem?_eq_some_iff.1 h).1
theorem YcS{x y:Operand}{t:TypeId}{size b off:Nat}{T:TypeId}{cs:Array Value}(hs:sizeOf? P t=some size)(hx:ρ x= .pointer (some ⟨b,off,none⟩))(hb:w.heap[b]? =some (.cells cs T (0,0)))
   (hl:(ρ y).cells.size=size)(hc:off+size<=cs.size)(ho:∀u∈(ρ y).cells.toList,u.oneCell'=true):
   ∃w' cs',(∀dst type pos after guard,(execOp ρ ⟨dst,.store t x y,type,pos,after,guard⟩).run P w= .ok .skip w')/\Wrote w w' b (.cells cs' T (0,0))/\cs'.toList=YM cs.toList off (ρ y).cells.toList:=by
 obtain⟨w',cs',hrun,hw,hcs⟩:=Ycg (P:=P) (off:=off) (i:=0) (vs:=(ρ y).cells.toList) hb (by simp [hl];exact hc) ho
 refine⟨w',cs',fun dst type pos after guard=>?_,hw,hcs⟩
 simp [execOp,Instr.storeAt,hx,Instr.sureAddr,storeVar,YC hs,hl,hrun]
theorem YvL{x y:Operand}{t:TypeId}{size:Nat}{xs:List SV}{e:Ef}(hs:sizeOf? P t=some size)(he:Yii hp size xs=some e)(hpre:e.pre)
   (hx:RepL w bs B xs ([x,y].map ρ))(hH:Hp w bs B hp):MOk P ρ (.store t x y) w bs B hp e:=by
 unfold Yii at he
 split at he
 . rename_i a v
   obtain⟨e',he',rfl⟩:=YGz.1 he
   obtain⟨hl,hone,hpre⟩:=hpre
   obtain⟨ha,hv⟩:=two hx
   obtain⟨hcl,hoc⟩:=YfD hone hv
   have hsz:(ρ y).cells.size=size:=by rw[<-hl,hcl.length];simp
   unfold storeAt at he'
   split at he'
   . rename_i i off
     obtain⟨b,n,hb,hρ⟩:=ha.ptr_inv
     have hi:=YjM hH hb
     have hent:=hH.ent i
     split at he'
     . rename_i cs hg
       cases he'
       rw[hg]at hent
       obtain⟨b',vs,T,h1,h2,h3⟩:=hent
       rw[hb]at h1;cases h1
       obtain⟨w',cs',hrun,hw,hcs⟩:=YcS hs hρ h2 hsz (by rw[h3.length]at hpre;simpa using hpre) hoc
       refine⟨.skip,undef,w',bs,hrun,.inr ⟨rfl,rfl⟩,.x _ _ (.junk _),?_,hw.keeps hb,Stays.refl,hw.below (hH.lo _ _ _ _ hb).1⟩
       refine Yoi hH hw hb hi ⟨b,cs',T,hb,hw.at_,?_⟩
       rw[hcs]
       exact(h3.splice off hcl (by rw[hl];exact hpre)).keep (hw.keeps hb) Stays.refl Yj
     . rename_i z sz m get hg
       split at he'
       . cases he'
         obtain⟨hp1,hp2⟩:=hpre
         rw[hg]at hent
         rcases hent with⟨h,_⟩ | ⟨b',cap,vs,T,h1,h2,h3,h4,h5,h6⟩
         . rw[hb]at h;cases h
         rw[hb]at h1;cases h1
         obtain⟨w',cs',hrun,hw,hcs⟩:=YcS hs hρ h3 hsz (by rw[h4,hp1];omega) hoc
         refine⟨.skip,undef,w',bs,hrun,.inr ⟨rfl,rfl⟩,.x _ _ (.junk _),?_,hw.keeps hb,Stays.refl,hw.below (hH.lo _ _ _ _ hb).1⟩
         have hcs':cs'.toList=(ρ y).cells.toList:=by
           rw[hcs];simp only[YM,List.take_zero,List.nil_append,YHC]
           rw[List.drop_of_length_le (by simp [hsz,h4,hp1])];simp
         refine Yoi hH hw hb hi (.inr ⟨b,_,cs',T,hb,h2,hw.at_,?_,YGH _,fun k hk=>?_⟩)
         . have:=congrArg List.length hcs';simp at this;rw[this,hsz,hp1]
         . rw[hcs']
           exact(Ygz hcl _ k).keep (hw.keeps hb) Stays.refl Yj
       . cases he'
     . cases he'
     . cases he'
   . rename_i i k off sz
     obtain⟨b,c,n,hb,hρ,hkn⟩:=ha.elem_inv
     have hi:=YjM hH hb
     have hent:=hH.ent i
     split at he'
     . rename_i z size' m get hg
       cases he'
       obtain⟨hk,rfl,hoff⟩:=hpre
       rw[hg]at hent
       rcases hent with⟨h,_⟩ | ⟨b',cap,vs,T,h1,h2,h3,h4,h5,h6⟩
       . rw[hb]at h;cases h
       rw[hb]at h1;cases h1
       have hkc:k*sz+sz<=c*sz:=by rw[<-YHN];exact YGD _ (by omega)
       obtain⟨w',cs',hrun,hw,hcs⟩:=YcS hs hρ h3 hsz (by rw[h4];omega) hoc
       refine⟨.skip,undef,w',bs,hrun,.inr ⟨rfl,rfl⟩,.x _ _ (.junk _),?_,hw.keeps hb,Stays.refl,hw.below (hH.lo _ _ _ _ hb).1⟩
       have hlen:cs'.size=vs.size:=by
         have:=congrArg List.length hcs
         rw[YiF (by simp [hsz,h4];omega)]at this
         simpa using this
       refine Yoi hH hw hb hi (.inr ⟨b,c,cs',T,hb,h2,hw.at_,by rw[hlen,h4],h5,fun j hj=>?_⟩)
       by_cases hjk:j=k
       . subst hjk
         simp only[if_true]
         have hsp:=((h6 j hj).splice off hcl (by rw[(h6 j hj).length,hl];simp [h4];omega)).keep (hw.keeps hb) Stays.refl Yj
         have heq:YM ((vs.toList.drop (j*sz)).take sz) off (ρ y).cells.toList=(cs'.toList.drop (j*sz)).take sz:=by
           rw[hcs]
           exact YsF (by simpa [hsz]using hoff) (by simp [h4];omega)
         rw[<-heq];exact hsp
       . simp only[if_neg hjk]
         have heq:(vs.toList.drop (j*sz)).take sz=(cs'.toList.drop (j*sz)).take sz:=by
           rw[hcs]
           refine Yo1 (by simpa [hsz]using hoff) (by simp [h4];omega) ?_
           rcases Nat.lt_or_gt_of_ne hjk with h|h
           . left;rw[<-YHN];exact YGD _ h
           . right;rw[<-YHN];exact YGD _ h
         rw[<-heq];exact(h6 j hj).keep (hw.keeps hb) Stays.refl Yj
     . cases he'
   . cases he'
 . cases he
def rowV(f:Nat->List Value):Nat->List Value
 |0=>[]
 |n+1=>rowV f n++f n
theorem YaP{f:Nat->List Value}{size:Nat}:∀{n:Nat},(∀k,k<n->(f k).length=size)->(rowV f n).length=n*size
 |0,_=>by simp [rowV]
 |n+1,h=>by
   simp only[rowV,YHo,h n (by omega),YaP (n:=n) (fun k hk=>h k (by omega))]
   rw[YHN]
theorem YdU{f:Nat->List Value}{size:Nat}:∀{n:Nat},(∀k,k<n->(f k).length=size)->∀k,k<n->((rowV f n).drop (k*size)).take size=f k
 |0,_,k,hk=>by omega
 |n+1,h,k,hk=>by
   have hl:=YaP (f:=f) (size:=size) (n:=n) (fun k hk=>h k (by omega))
   simp only[rowV]
   rcases YGN k n with h1|h1
   . have ih:=YdU (f:=f) (size:=size) (n:=n) (fun k hk=>h k (by omega)) k h1
     have:k*size+size<=n*size:=by rw[<-YHN];exact YGD _ h1
     rw[List.drop_append_of_le_length (by omega),List.take_append_of_le_length (by simp;omega),ih]
   . have:k=n:=by omega
     subst this
     rw[List.drop_append,List.drop_of_length_le (by omega),hl,Nat.sub_self]
     simp [List.take_of_length_le (YHM (h k (by omega)))]
theorem Yj0{f:Nat->List Value}{size:Nat}(hs:0<size):∀{n:Nat},(∀k,k<n->(f k).length=size)->∀j v,(rowV f n)[j]? =some v->j/size<n/\(f (j/size))[j%size]? =some v
 |0,_,j,v,h=>by simp [rowV]at h
 |n+1,h,j,v,hv=>by
   have hl:=YaP (f:=f) (size:=size) (n:=n) (fun k hk=>h k (by omega))
   simp only[rowV,YHB]at hv
   split at hv
   . obtain⟨h1,h2⟩:=Yj0 hs (n:=n) (fun k hk=>h k (by omega)) j v hv
     exact⟨by omega,h2⟩
   . rename_i hj
     rw[hl]at hj hv
     have hlt:j-n*size<size:=by
       have:=(List.getElem?_eq_some_iff.1 hv).1
       rw[h n (by omega)]at this;exact this
     have hd:j/size=n:=by
       rw[Nat.div_eq_iff hs]
       constructor
       . omega
       . omega
     have hm:j%size=j-n*size:=by rw[Nat.mod_eq_sub,hd,YGC]
     rw[hd,hm]
     exact⟨by omega,hv⟩
theorem Yoe{f:Nat->List Value}:∀{n:Nat}{u:Value},u∈rowV f n->∃k,k<n/\u∈f k
 |0,u,h=>by simp [rowV]at h
 |n+1,u,h=>by
   simp only[rowV,YG2]at h
   rcases h with h|h
   . obtain⟨k,h1,h2⟩:=Yoe h;exact⟨k,by omega,h2⟩
   . exact⟨n,by omega,h⟩
theorem YdT{x:SV}{v:Value}{m size:Nat}{gx:Nat->List SV}(h:Yc1 hp x=some (m,gx))(hs:0<size)(hl:∀k,k<m->lenL (gx k)=size/\ones (gx k))(hx:Rep w bs B x v)(hH:Hp w bs B hp):
   ∃a c f,v= .slice a m c/\(∀k,k<m->(f k).length=size)/\(∀k,k<m->RepL w bs B (gx k) (f k))/\(∀u∈rowV f m,u.oneCell'=true)/\
     (∃arr,(Builtin.firstCells size m v).run P w= .ok arr w/\arr.toList=rowV f m):=by
 have fin:∀(f:Nat->List Value),(∀k,k<m->RepL w bs B (gx k) (f k))->∀u∈rowV f m,u.oneCell'=true:=by
   intro f hf u hu
   obtain⟨k,hk,hu⟩:=Yoe hu
   exact Yll _ _ (hl k hk).2 (hf k hk) u hu
 have flen:∀(f:Nat->List Value),(∀k,k<m->RepL w bs B (gx k) (f k))->∀k,k<m->(f k).length=size:=by
   intro f hf k hk
   rw[<-(hf k hk).length];exact(hl k hk).1
 have load:∀(ad:Addr)(f:Nat->List Value),ad.spot=none->(∀k,k<m->RepL w bs B (gx k) (f k))->(∀k,k<m->Cells w ad.block (ad.off+k*size) (f k))->
     ∃arr,(loadCells ad (m*size)).run P w= .ok arr w/\arr.toList=rowV f m:=by
   intro ad f hsp hf hc
   refine⟨(rowV f m).toArray,?_,by simp⟩
   unfold loadCells
   rw[<-YaP (flen f hf),YaZ hsp (fun j v hj=>?_)]
   . simp
   . obtain⟨h1,h2⟩:=Yj0 hs (flen f hf) j v hj
     have:=(hc _ h1).cell h2
     rw[YHC]
     have he:ad.off+j/size*size+j%size=ad.off+j:=by
       have:=YG3 j size
       rw[YGC]at this;omega
     rwa [he]at this
 unfold Yc1 at h
 split at h
 . cases h
   have:=hx.nil_inv;subst this
   exact⟨none,0,fun _=>[],rfl,fun k hk=>by omega,fun k hk=>by omega,by simp [rowV], #[],rfl,by simp [rowV]⟩
 . cases h
   cases hx with
   |x _ _ hx=>
     cases hx with
     |vs t z n sz get a cap vals hz hc hn hcell h=>
       refine⟨a,cap,vals,rfl,flen vals (fun k hk=>(h k hk).rep),fun k hk=>(h k hk).rep,fin vals (fun k hk=>(h k hk).rep),?_⟩
       by_cases hm:m=0
       . subst hm
         cases a with
         |none=>exact⟨#[],rfl,by simp [rowV]⟩
         |some ad=>exact⟨#[],by simp [Builtin.firstCells,loadCells,loadCellsFrom],by simp [rowV]⟩
       . obtain⟨ad,rfl,hsp,_⟩:=hcell 0 (by omega)
         refine load ad vals hsp (fun k hk=>(h k hk).rep) (fun k hk=>?_)
         obtain⟨ad',had,_,_,_,hlen,hc'⟩:=hcell k hk
         cases had
         have hsz:=hlen.symm.trans (flen vals (fun k hk=>(h k hk).rep) k hk)
         rw[hsz]at hc';exact hc'
 . rename_i i lo n sz
   split at h
   . rename_i z s' n' get hg
     cases hbq:YHf sz s' with
     |false=>rw[hbq]at h;cases h
     |true=>
     rw[hbq]at h
     cases h
     have hss:=YGW hbq
     subst hss
     have hent:=hH.ent i
     rw[hg]at hent
     cases hx with
     |x _ _ hx=>cases hx
     |ownNil _ _ hbs=>exact⟨none,0,fun _=>[],rfl,fun k hk=>by omega,fun k hk=>by omega,by simp [rowV], #[],rfl,by simp [rowV]⟩
     |own _ _ _ _ b cap mm ad hbs hlm ha=>
       rcases hent with⟨h,_⟩ | ⟨b',cap',vs,T,h1,h2,h3,h4,h5,h6⟩
       . rw[hbs]at h;cases h
       rw[hbs]at h1;cases h1
       have hf:∀k,k<m->RepL w bs B (get (Yca lo k)) ((vs.toList.drop ((lo+k)*sz)).take sz):=by
         intro k hk;rw[YdE];exact h6 (lo+k) (by omega)
       refine⟨some ad,cap-lo,fun k=>(vs.toList.drop ((lo+k)*sz)).take sz,rfl,flen _ hf,hf,fin _ hf,?_⟩
       by_cases hm:m=0
       . subst hm
         exact⟨#[],by simp [Builtin.firstCells,loadCells,loadCellsFrom],by simp [rowV]⟩
       . have hs':sz=size:=by
           have h0:=flen _ hf 0 (by omega)
           simp only[YHw,YHi,List.length_drop,Array.length_toList,h4]at h0
           have:lo*sz+sz<=cap*sz:=by rw[<-YHN];exact YGD _ (by omega)
           omega
         subst hs'
         have had:ad=⟨b,lo*sz,none⟩:=by
           rcases ha with ha|ha
           . exact ha
           . omega
         subst had
         refine load _ _ rfl hf (fun k hk=>⟨vs,T,_,h3,fun j v hj=>?_⟩)
         rw[YHt]at hj
         split at hj
         . rw[List.getElem?_drop]at hj
           simp only[<-YG8]
           simpa using hj
         . cases hj
   . cases h
 . cases h
theorem Yew{c:Call}{ty:TypeId}{t1 t2 el el2:TypeId}{size bytes:Nat}{z:List SV}{va vx:Value}{a:Option Addr}{n cap m cx:Nat}{ax:Option Addr}{old new:Array Value}
   (hc:c.callee= .builtin .append)(ht1:c.argTypes[0]? =some t1)(ht2:c.argTypes[1]? =some t2)(hu1:P.underlying t1=some (.slice el))(hu2:P.underlying t2=some (.slice el2))
   (hs:sizeOf? P el=some size)(hby:bytesOf? P el=some bytes)(hz:Yaj P el=some z)(hzl:z.length=size)(hb0:0<bytes)(hs0:0<size)
   (hargs:c.args.map ρ= #[.slice a n cap,.slice ax m cx]) (hcap:YN (n+m) bytes) (hgrow:cap<n+m)
   (ho:(Builtin.firstCells size n (.slice a n cap)).run P w.drew= .ok old w.drew) (hn:(Builtin.firstCells size m (.slice ax m cx)).run P w.drew= .ok new w.drew):
   ∃nc rest,n+m<=nc/\(∀dst type pos after guard,(execOp ρ ⟨dst,.call c,type,pos,after,guard⟩).run P w=
     .ok (.value (.slice (some ⟨w.heap.size,0,none⟩) (n+m) nc)) (World.push w.drew (.cells (old++new++rest) el (0,0))))/\rest.size=(nc-(n+m))*size:=by
 unfold sizeOf? at hs
 obtain⟨i,hi,his⟩:=YGz.1 hs
 unfold bytesOf? at hby
 rw[hi]at hby
 simp only[Option.map_some,Option.some.injEq]at hby
 unfold Yaj at hz
 rw[hi]at hz
 simp only[Option.bind_some]at hz
 obtain⟨zv,hzv,hzm⟩:=YGz.1 hz
 have hzs:zv.cells.size=size:=by rw[<-hzl,<-hzm];simp
 have hfit:=growslice_fits (bytes:=i.bytes) hgrow (by rw[hby];exact hcap)
 let nc:=(n+m)+w.tape w.drawn (.appendCap (n+m) cap el)%(2^63-(n+m))
 refine⟨nc,Builtin.zeroCells zv.cells (nc-(n+m)),Nat.le_add_right _ _,fun dst type pos after guard=>?_,by simp [Builtin.zeroCells,hzs]⟩
 have hty:(typeInfo el).run P w= .ok i w:=by simp [typeInfo,hi]
 have hty2:(typeInfo el).run P w.drew= .ok i w.drew:=by simp [typeInfo,hi]
 have hzr:(zeroValue el).run P w.drew= .ok zv w.drew:=by simp [zeroValue,typeInfo,hi,hzv]
 have hsz:(sizeOf el).run P w= .ok size w:=YC (by unfold sizeOf?;exact hs)
 have hng:¬(n+m<=cap):=by omega
 have hch:(choose (.appendCap (n+m) cap el)).run P w= .ok nc w.drew:=by
   rw[run_choose];simp only[Question.forced,YGM,if_false];rfl
 have hf1:¬((((n+m:Nat):Int)>IntKind.i64.max)/\(False\/i.bytes=0)):=by
   rintro⟨_,h|h⟩
   . exact h
   . omega
 have hf2:¬(Builtin.nextslicecap (n+m) cap*i.bytes>2^48):=by
   have:(2:Nat)^48=281474976710656:=by decide
   rw[this];omega
 have key:(Builtin.append_ c.argTypes type #[.slice a n cap,.slice ax m cx]).run P w= .ok (.slice (some ⟨w.heap.size,0,none⟩) (n+m) nc) (World.push w.drew (.cells (old++new++Builtin.zeroCells zv.cells (nc-(n+m))) el (0,0))):=by
   unfold Builtin.append_
   simp only[ht1,ht2,List.getElem?_toArray,List.getElem?_cons_zero,List.getElem?_cons_succ,Sem.run_bind,run_underlying hu1,run_underlying hu2,Result.andThen_ok,hsz,Sem.run_pure,YGM,if_false,Builtin.lenOf,hng,hf1,hty,hf2,hch,run_askRoom,ho,hn,hzr,newRow,run_newObj,Bool.not_false,if_true,Nat.add_eq]
   simp only[hf1,if_false,Sem.run_bind,hty,Result.andThen_ok,hf2,hch,hty2,run_askRoom,ho,hn,hzr,run_newObj,Sem.run_pure]
   rfl
 simp only[execOp,resolve,hc,Sem.run_bind,Sem.run_pure,Result.andThen_ok,invoke,builtin,hargs,key]
theorem Yoz{c:Call}{t1 t2 el el2:TypeId}{size n cap m cx b off:Nat}{T:TypeId}{cs:Array Value}{ax:Option Addr}{new:Array Value}
   (hc:c.callee= .builtin .append)(ht1:c.argTypes[0]? =some t1)(ht2:c.argTypes[1]? =some t2)(hu1:P.underlying t1=some (.slice el))(hu2:P.underlying t2=some (.slice el2))
   (hs:sizeOf? P el=some size)(hargs:c.args.map ρ= #[.slice (some ⟨b,off,none⟩) n cap,.slice ax m cx]) (hgrow:n+m<=cap)
   (hn:(Builtin.firstCells size m (.slice ax m cx)).run P w= .ok new w) (hb:w.heap[b]? =some (.cells cs T (0,0))) (hl:off+n*size+new.size<=cs.size) (ho:∀u∈new.toList,u.oneCell'=true):
   ∃w' cs',(∀dst type pos after guard,(execOp ρ ⟨dst,.call c,type,pos,after,guard⟩).run P w= .ok (.value (.slice (some ⟨b,off,none⟩) (n+m) cap)) w')/\
     Wrote w w' b (.cells cs' T (0,0))/\cs'.toList=YM cs.toList (off+n*size) new.toList:=by
 obtain⟨w',cs',hrun,hw,hcs⟩:=Ycg (P:=P) (off:=off+n*size) (i:=0) (vs:=new.toList) hb (by simpa using hl) ho
 refine⟨w',cs',fun dst type pos after guard=>?_,hw,by simpa using hcs⟩
 have hsz:(sizeOf el).run P w= .ok size w:=YC hs
 have key:(Builtin.append_ c.argTypes type #[.slice (some ⟨b,off,none⟩) n cap,.slice ax m cx]).run P w= .ok (.slice (some ⟨b,off,none⟩) (n+m) cap) w':=by
   unfold Builtin.append_
   simp only[ht1,ht2,List.getElem?_toArray,List.getElem?_cons_zero,List.getElem?_cons_succ,Sem.run_bind,run_underlying hu1,run_underlying hu2,Result.andThen_ok,hsz,Sem.run_pure,YGM,if_false,Builtin.lenOf,hgrow,if_true,Bool.not_false,hn,Yak,hrun]
 simp only[execOp,resolve,hc,Sem.run_bind,Sem.run_pure,Result.andThen_ok,invoke,builtin,hargs,key]
theorem YgY{c:Call}{t1 t2 el el2:TypeId}{size cx:Nat}{ax:Option Addr}
   (hc:c.callee= .builtin .append)(ht1:c.argTypes[0]? =some t1)(ht2:c.argTypes[1]? =some t2)(hu1:P.underlying t1=some (.slice el))(hu2:P.underlying t2=some (.slice el2))
   (hs:sizeOf? P el=some size)(hargs:c.args.map ρ= #[.slice none 0 0,.slice ax 0 cx]):
   (∀dst type pos after guard,(execOp ρ ⟨dst,.call c,type,pos,after,guard⟩).run P w= .ok (.value (.slice none 0 0)) w):=by
 intro dst type pos after guard
 have hsz:(sizeOf el).run P w= .ok size w:=YC hs
 have hn:(Builtin.firstCells size 0 (.slice ax 0 cx)).run P w= .ok #[] w:=by cases ax <;> simp [Builtin.firstCells,loadCells,loadCellsFrom]
 have key:(Builtin.append_ c.argTypes type #[.slice none 0 0,.slice ax 0 cx]).run P w= .ok (.slice none 0 0) w:=by
   unfold Builtin.append_
   simp only[ht1,ht2,List.getElem?_toArray,List.getElem?_cons_zero,List.getElem?_cons_succ,Sem.run_bind,run_underlying hu1,run_underlying hu2,Result.andThen_ok,hsz,Sem.run_pure,YGM,if_false,Builtin.lenOf,if_true,Bool.not_false,hn,YHw,YGH]
 simp only[execOp,resolve,hc,Sem.run_bind,Sem.run_pure,Result.andThen_ok,invoke,builtin,hargs,key]
theorem Keeps.heap(h:w'.heap=w.heap):Keeps w bs w' bs:=fun b hf o ho=>⟨by rw[h];exact ho,hf⟩
theorem Hp.heap_eq(h:w'.heap=w.heap)(hH:Hp w bs B hp):Hp w' bs B hp:=
 ⟨hH.len,fun i=>(hH.ent i).keep (Keeps.heap h) Stays.refl rfl (fun _ _ _ _=>by rw[h]),hH.inj,fun i b c n hb=>by rw[h];exact hH.lo i b c n hb,YaO (Keeps.heap h) hH.reg⟩
theorem Yr5{i:Nat}{s:SV}{v:Value}(hk:Keeps w bs w' bs')(hb:Stays (some i) bs bs')(h:Rep w bs B s v):Rep w' bs' B (Yd3 i s) v:=by
 unfold Yd3
 cases hr:refs i s with
 |true=>exact .x _ _ (.junk _)
 |false=>exact h.keep hk hb (fun j hj=>by cases hj;exact hr)
theorem Yam{i:Nat}(hk:Keeps w bs w' bs')(hb:Stays (some i) bs bs'):∀{l:List SV}{vs:List Value},RepL w bs B l vs->RepL w' bs' B (Yk i l) vs
 |_,_,.nil=> .nil
 |_,_,.cons x v l vs h h'=> .cons _ _ _ _ (Yr5 hk hb h) (Yam hk hb h')
theorem Yhx{i:Nat}(hk:Keeps w bs w' bs')(hb:Stays (some i) bs bs'):∀{l:List (List SV)}{vs:List (List Value)},RepLL w bs B l vs->RepLL w' bs' B (Yhw i l) vs
 |_,_,.nil=> .nil
 |_,_,.cons x v l vs h h'=> .cons _ _ _ _ (Yam hk hb h) (Yhx hk hb h')
def Yfg(i:Nat):HO->HO
 | .box cs=> .box (Yk i cs)
 | .own z sz n get=> .own z sz n fun k=>Yk i (get k)
 | .smap l=> .smap l
 | .gone=> .gone
theorem YdM(i:Nat):∀(hp:List HO)(j:Nat),getH (YaN i hp) j=Yfg i (getH hp j)
 | [],j=>by cases j <;> rfl
 |h::l,0=>by cases h <;> rfl
 |h::l,j+1=>by cases h <;> simpa [YaN,getH]using YdM i l j
theorem YfP(i:Nat):∀(hp:List HO),lenH (YaN i hp)=lenH hp
 | []=>rfl
 |h::l=>by cases h <;> simp [YaN,lenH,YfP i l]
theorem Yqb{i:Nat}{x:BK}{ho:HO}(hH:Hp w bs B hp)(hi:i<lenH hp)(hk:Keeps w bs w' (bs.set i x))(hsz:w.heap.size<=w'.heap.size)
   (hblk:∀j b c n,j≠i->bs[j]? =some (.blk b c n)->w'.heap[b]? =w.heap[b]?)
   (hx:∀b c n,x= .blk b c n->(B<=b/\b<w'.heap.size)/\∀j c' n',j≠i->bs[j]? ≠some (.blk b c' n'))
   (h:HRep w' (bs.set i x) B i ho):Hp w' (bs.set i x) B (setH (YaN i hp) i ho):=by
 have hl:=hH.len
 have hst:Stays (some i) bs (bs.set i x):=fun j y hj hy _=>by rw[List.getElem?_set_ne (fun he=>hj (by rw[he]))];exact hy
 have get_i:(bs.set i x)[i]? =some x:=by rw[List.getElem?_set_self (by omega)]
 have get_j:∀j,j≠i->(bs.set i x)[j]? =bs[j]? :=fun j hj=>List.getElem?_set_ne (fun he=>hj he.symm)
 refine⟨by rw[YcL,YfP];simpa using hl,fun j=>?_,fun j k b c n c' n' h1 h2=>?_,fun j b c n h1=>?_,YaO hk hH.reg⟩
 . by_cases hij:j=i
   . subst hij;rw[YaW _ _ _ (by rw[YfP];exact hi)];exact h
   . rw[YS _ _ _ _ (fun he=>hij he.symm),YdM]
     have hent:=hH.ent j
     cases hg:getH hp j with
     |gone=>rw[hg]at hent;simpa [Yfg,HRep,get_j j hij]using hent
     |box cs=>
       rw[hg]at hent
       obtain⟨b,vs,T,h1,h2,h3⟩:=hent
       exact⟨b,vs,T,by rw[get_j j hij];exact h1,by rw[hblk j _ _ _ hij h1];exact h2,Yam hk hst h3⟩
     |smap l=>
       rw[hg]at hent
       obtain⟨b,es,c,h1,h2,h3⟩:=hent
       exact⟨b,es,c,by rw[get_j j hij];exact h1,by rw[hblk j _ _ _ hij h1];exact h2,h3⟩
     |own z sz n get=>
       rw[hg]at hent
       rcases hent with⟨h1,h2,h3⟩ | ⟨b,cap,vs,T,h1,h2,h3,h4,h5,h6⟩
       . exact .inl ⟨by rw[get_j j hij];exact h1,h2,h3⟩
       . exact .inr ⟨b,cap,vs,T,by rw[get_j j hij];exact h1,h2,by rw[hblk j _ _ _ hij h1];exact h3,h4,h5,fun k hk'=>Yam hk hst (h6 k hk')⟩
 . by_cases hj:j=i <;> by_cases hk':k=i
   . omega
   . subst hj
     rw[get_i]at h1;cases h1
     rw[get_j k hk']at h2
     exact absurd h2 ((hx b c n rfl).2 k c' n' hk')
   . subst hk'
     rw[get_i]at h2;cases h2
     rw[get_j j hj]at h1
     exact absurd h1 ((hx b c' n' rfl).2 j c n hj)
   . rw[get_j j hj]at h1;rw[get_j k hk']at h2
     exact hH.inj j k b c n c' n' h1 h2
 . by_cases hj:j=i
   . subst hj
     rw[get_i]at h1;cases h1
     exact(hx b c n rfl).1
   . rw[get_j j hj]at h1
     have:=hH.lo j b c n h1
     exact⟨this.1,by omega⟩
theorem YoP(hH:Hp w bs B hp){z:Bool}{size n:Nat}{get:Nat->List SV}(hz:z=true)(hn:n=0):Hp w (bs++[.nil]) B (Ybx hp (.own z size n get)):=by
 have hst:∀e,Stays e bs (bs++[.nil]):=fun e=>YA _ _
 have hk:Keeps w bs w (bs++[.nil]):=by
   intro b hf o ho
   refine⟨ho,fun i b' c m h=>?_⟩
   rw[YHB]at h
   split at h
   . exact hf i b' c m h
   . rw[List.getElem?_singleton]at h;split at h <;> cases h
 have hget:∀(i b c m:Nat),(bs++[BK.nil])[i]? =some (.blk b c m)->bs[i]? =some (.blk b c m):=by
   intro i b c m h
   rw[YHB]at h
   split at h
   . exact h
   . rw[List.getElem?_singleton]at h;split at h <;> cases h
 refine⟨by simp [hH.len,Ya9],fun i=>?_,fun i j b c m c' m' h1 h2=>hH.inj i j b c m c' m' (hget _ _ _ _ h1) (hget _ _ _ _ h2),fun i b c m h1=>hH.lo i b c m (hget _ _ _ _ h1),YaO hk hH.reg⟩
 rcases Nat.lt_trichotomy i (lenH hp)with hi|hi|hi
 . rw[Y3 _ _ _ hi]
   exact(hH.ent i).keep hk (hst _) (by rw[YG4 (by rw[hH.len];exact hi)]) (fun _ _ _ _=>rfl)
 . subst hi;rw[Ya7];exact .inl ⟨Y5 hH,hz,hn⟩
 . rw[Ybh _ _ (by rw[Ya9];omega)]
   right
   rw[List.getElem?_eq_none];simp [hH.len];omega
theorem Yrd:Keeps w bs w (bs++[.nil]):=by
 intro b hf o ho
 refine⟨ho,fun i b' c m h=>?_⟩
 rw[YHB]at h
 split at h
 . exact hf i b' c m h
 . rw[List.getElem?_singleton]at h;split at h <;> cases h
end
end Go.Vx
