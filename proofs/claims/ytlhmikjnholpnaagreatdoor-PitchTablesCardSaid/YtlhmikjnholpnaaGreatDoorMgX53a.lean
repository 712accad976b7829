/- A symbolic executor for the walk: an intermediate form of the code (types resolved), symbolic values, states, and the executor 'run', a function into Prop that dsimp evaluates. Its soundness stands in the next text. -/
import Derived.WalkKit
import Derived.ChangeKeysEq
open Bool renaming and_eq_true->YS,false_eq_true->XQ,not_eq_true'->ZY
open List renaming getD_eq_getElem?_getD->Kh,getElem?_drop->Wu,getElem?_eq_getElem->VL,getElem?_take->XR,length_cons->XS,length_map->VN,length_take->Qs,map_cons->KH,map_nil->Vf,mem_cons->Kz,nil_append->VP
open Nat renaming add_assoc->Zk,add_mul->YM,add_zero->KO,beq->YJ,ble->Y7,le_of_lt->JZ,le_refl->Yt,le_trans->Yh,mul_le_mul_right->Yp,mul_one->Y0,succ_mul->XT,zero_add->KJ,zero_mul->JP
open Option renaming bind_eq_some_iff->YE,map_eq_some_iff->YQ
set_option linter.all false
namespace Go.Vx
inductive IK where
 |ints (n:Nat) (C:Nat->Int->Prop)
 |map (kk:List IntKind) (C:List Int->Int->Prop)
inductive SV where
 |int (k:IntKind) (n:Int)
 |bool (b:Bool)
 |val (v:Value)
 |nil
 |agg (cs:List SV)
 |tup (cs:List SV)
 |vs (t z:Bool) (n size:Nat) (get:Nat->List SV)
 |xp (t:Bool) (cells:List SV)
 |ptr (i off:Nat)
 |own (i lo n size:Nat)
 |elem (i k off size:Nat)
 |fn (f:Fn) (first cap:List SV)
 |iface (t:TypeId) (v:SV)
 |opt (b:Bool) (v:SV)
 |cut (v:SV)
 |row (n:Nat) (C:Nat->Int->Prop)
 |rcell (C:Int->Prop)
 |imap (kk:List IntKind) (C:List Int->Int->Prop)
 |smp (i:Nat)
 |junk
 deriving Inhabited
inductive HO where
 |box (cells:List SV)
 |own (z:Bool) (size n:Nat) (get:Nat->List SV)
 |smap (l:List (List UInt8))
 |gone
inductive X where
 |tm (n:Nat)
 |cn (v:SV)
inductive Cmp where
 |eql|neq|lss|leq|gtr|geq
inductive Ari where
 |add|sub|mul
inductive Bit where
 |and|or|xor|andNot
inductive VO where
 |mov
 |and|or
 |alloc (cells:List SV)
 |allocArr (n size:Nat) (cells:List SV)
 |box
 |build (zero:List SV) (parts:List (Nat×Nat))
 |buildSlice (size len:Nat) (zero:List SV) (parts:List (Nat×Nat))
 |load (agg:Bool) (size:Nat)
 |store (size:Nat)
 |ari (o:Ari)
 |cmp (o:Cmp)
 |bit (o:Bit)
 |quo|rem|shl|shr
 |not|neg
 |conv (k:IntKind)
 |len|lenStr|lenArr (n:Nat) |min|max
 |append (size bytes:Nat) (zero:List SV)
 |fieldAddr (off:Nat)
 |field (agg:Bool) (off size:Nat)
 |idxAddr (size:Nat)
 |idxArr (n size:Nat)
 |index (agg:Bool) (n size:Nat)
 |slice (size:Nat) (lo hi:Bool)
 |slice3 (size:Nat)
 |sliceArr (n size:Nat) (lo hi:Bool)
 |make (size bytes:Nat) (zero:List SV)
 |call (f:FuncId)
 |callv
 |mkfn (fn:Fn) (nfirst:Nat)
 |ext (i:Nat)
 |iface (t:TypeId)
 |invoke (name:String)
 |eqb (neg:Bool)
 |eqv (neg:Bool) (ks:List Bool)
 |isNil (neg:Bool)
 |addc
 |nilCheck
 |idxStr
 |eqStr (neg:Bool)
 |mkSet
 |setAdd
 |lenSet
 |mkMap (kk:List IntKind)
 |mapGet (kk:List IntKind)
 |mapPut (kk:List IntKind)
structure VOp where
 dst:Option Nat
 g:Option (Nat×Bool)
 op:VO
 xs:List X
@[reducible] def u0 (o:VO) (x:List X):VOp:=⟨none,none,o,x⟩
@[reducible] def u1 (d:Nat) (o:VO) (x:List X):VOp:=⟨some d,none,o,x⟩
@[reducible] def u2 (d g:Nat) (b:Bool) (o:VO) (x:List X):VOp:=⟨some d,some (g,b),o,x⟩
inductive AL where
 |box (z:List SV)
 |arr (n size:Nat) (z:List SV)
structure DOp where
 op:VOp
 chk:List X
@[reducible] def w0 (o:VO) (x:List X):DOp:=⟨⟨none,none,o,x⟩,[]⟩
@[reducible] def w1 (d:Nat) (o:VO) (x:List X):DOp:=⟨⟨some d,none,o,x⟩,[]⟩
inductive DTr where
 |leaf
 |ops (l:List DOp) (t:DTr)
 |br (a b:DTr)
inductive VC where
 |region (l:List VOp)
 |draw (al:List (Nat×AL)) (l:List DOp)
 |drawT (al:List (Nat×AL)) (t:DTr)
 |rangeFn (g:X) (ps:List Nat) (a b:VC)
 |seq (a b:VC)
 |cond (x:X) (a b:VC)
 |block (id:Nat) (c:VC)
 |scope (c:VC)
 |loop (c:VC)
 |exit (id:Nat)
 |ret
 |skip
 |stuck
inductive VR where
 |tmp (t:Nat)
 |cell (t:Nat) (agg:Bool) (size:Nat)
structure VF where
 ntmps:Nat
 res:List VR
 body:VC
def U8:Value->SV
 | .int k n=> .int k n
 | .bool b=> .bool b
 | .slice none 0 0=> .nil
 |v=> .val v
def PS:Value->SV
 | .agg cs=> .agg (cs.toList.map U8)
 |v=>U8 v
def BA(P:Program)(g:Nat):Option (List Int):=if P.globalNamed "quintadena/ratios.primes" =some g then some [2,3,5,7,11,13]else none
def EV:List Int->List SV
 | []=>[]
 |v::l=> .int .i64 v::EV l
def X.of(P:Program):Operand->Option X
 | .tmp t=>some (.tm t)
 | .const v=>some (.cn (PS v))
 | .func f=>some (.cn (.fn (.func f) [] []))
 | .global g=>(BA P g).map fun l=> .cn (.xp false (EV l))
def X.ofs(P:Program):List Operand->Option (List X)
 | []=>some []
 |x::l=>(X.of P x).bind fun y=>(X.ofs P l).map (y::·)
def Qq(P:Program)(t:TypeId):Option (List SV):=
 (P.info? t).bind fun i=>i.zero.map fun v=>v.cells.toList.map U8
def ZI(P:Program)(t:TypeId):Option Bool:=
 (P.underlying t).map fun| .struct _=>true| .array _ _=>true|_=>false
def sizeOf?(P:Program)(t:TypeId):Option Nat:=(P.info? t).map (·.size)
def bytesOf?(P:Program)(t:TypeId):Option Nat:=(P.info? t).map (·.bytes)
def Yao(P:Program)(t:TypeId):Bool:=
 match P.underlying t with
 |some (.int _)=>true
 |some .bool=>true
 |_=>false
def AW(P:Program)(t:TypeId):Bool:=
 match P.info? t with
 |some i=>i.size==1
 |none=>false
def IE(P:Program)(t:TypeId):Bool:=
 match P.underlying t with
 |some (.int _)=>true
 |_=>false
def Dk(P:Program)(t:TypeId):Bool:=
 match P.underlying t with
 |some .bool=>true
 |_=>false
def AX(P:Program)(t:TypeId):Bool:=
 match P.underlying t with
 |some (.slice _)=>true
 |_=>false
def Gn(P:Program)(t:TypeId):Option Bool:=
 match P.underlying t with
 |some (.int _)=>some true
 |some .bool=>some false
 |_=>none
def Hl(P:Program):Nat->List Field->Option (List Bool)
 |_,[]=>some []
 |k,f::fs=>if AW P f.type&&f.offset==k&&f.name != "_" then(Gn P f.type).bind fun b=>(Hl P (k+1) fs).map (b::·)else none
def Fx:Nat->Bool->List Bool
 |0,_=>[]
 |n+1,b=>b::Fx n b
def Ac(P:Program)(t:TypeId):Option (List Bool):=
 match P.underlying t with
 |some (.array n e)=>if !P.eqGuardType P.depth t&&AW P e then(Gn P e).map (Fx n)else none
 |some (.struct fs)=>if !P.stoodInHeld t&& !P.eqGuardType P.depth t then Hl P 0 fs.toList else none
 |_=>none
def AZ(P:Program)(t:TypeId):Bool:=
 match P.underlying t with
 |some .string=>true
 |_=>false
def FH(P:Program)(t:TypeId):Bool:=
 match P.underlying t with
 |some (.map k e)=>AZ P k&&(match P.underlying e with|some (.struct fs)=>fs.isEmpty|_=>false)
 |_=>false
def Vn(P:Program):Nat->List Field->Option (List IntKind)
 |_,[]=>some []
 |k,f::fs=>if AW P f.type&&f.offset==k&&f.name != "_" then
   match P.underlying f.type with
   |some (.int kd)=>(Vn P (k+1) fs).map (kd::·)
   |_=>none
  else none
def YdG(P:Program)(t:TypeId):Bool:=
 match P.info? t with
 |some i=>match i.zero with
  |some (.int .i64 0)=>true
  |_=>false
 |none=>false
def V9(P:Program)(t:TypeId):Option (List IntKind):=
 match P.underlying t with
 |some (.map k e)=>match P.underlying k with
  |some (.struct fs)=>if YdG P e&& !P.stoodInHeld k then Vn P 0 fs.toList else none
  |_=>none
 |_=>none
def fieldsOf(P:Program)(t:TypeId):Option (List Field):=
 match P.underlying t with
 |some (.struct fs)=>some fs.toList
 |_=>none
def Nf(P:Program)(t:TypeId):Option (List (Nat×Nat)):=
 match P.underlying t with
 |some (.struct fs)=>fs.toList.mapM fun f=>(sizeOf? P f.type).map fun s=>(f.offset,s)
 |some (.array n e)=>(sizeOf? P e).map fun s=>(List.range n).map fun i=>(i*s,s)
 |_=>none
def Yds:BinOp->Option Cmp
 | .eql=>some .eql| .neq=>some .neq| .lss=>some .lss| .leq=>some .leq| .gtr=>some .gtr| .geq=>some .geq
 |_=>none
def NP(P:Program)(op:BinOp)(t:TypeId):Option VO:=
 match op with
 | .add=>if Yao P t then some (.ari .add)else none
 | .sub=>if Yao P t then some (.ari .sub)else none
 | .mul=>some (.ari .mul)
 | .quo=>some .quo
 | .rem=>some .rem
 | .and=>some (.bit .and)
 | .or=>some (.bit .or)
 | .xor=>some (.bit .xor)
 | .andNot=>some (.bit .andNot)
 | .shl=>some .shl
 | .shr=>some .shr
 | .eql=>if IE P t then some (.cmp .eql)else if Dk P t then some (.eqb false)else if AZ P t then some (.eqStr false)else(Ac P t).map (.eqv false)
 | .neq=>if IE P t then some (.cmp .neq)else if Dk P t then some (.eqb true)else if AZ P t then some (.eqStr true)else(Ac P t).map (.eqv true)
 | .lss=>some (.cmp .lss)
 | .leq=>some (.cmp .leq)
 | .gtr=>some (.cmp .gtr)
 | .geq=>some (.cmp .geq)
def E4(P:Program)(f:FuncId):Bool:=
 match P.funcs[f]? with
 |some fn=>fn.body.isNone&&fn.name== "math/bits.Add64" &&fn.origin== ""
 |none=>false
def chk(g:Bool)(s:Nat):Bool:=g|| s==1
def vop(P:Program)(o:Oper):Option (VO×List Operand):=
 match o.op with
 | .move x| .assign x=>some (.mov,[x])
 | .nilCheck x=>some (.nilCheck,[x])
 | .makeMap t r=>match r with
   |none=>(V9 P t).map fun kk=>(.mkMap kk,[])
   |some h=>if FH P t then some (.mkSet,[h])else none
 | .mapUpdate t m k x=>if FH P t then some (.setAdd,[m,k,x])else(V9 P t).map fun kk=>(.mapPut kk,[m,k,x])
 | .lookup t m k true=>(V9 P t).map fun kk=>(.mapGet kk,[m,k])
 | .pick c a (.const (.bool false))=>some (.and,[c,a])
 | .pick c (.const (.bool true)) b=>some (.or,[c,b])
 | .alloc e=>
   match P.underlying e with
   |some (.array n t)=>(Qq P e).bind fun z=>(sizeOf? P t).map fun s=>(.allocArr n s z,[])
   |_=>(Qq P e).map fun z=>(.alloc z,[])
 | .box _ x=>some (.box,[x])
 | .build t parts=>(Qq P t).bind fun z=>(Nf P t).bind fun pl=>if parts.toList.all (fun x=>decide (x.1<pl.length))then some (.build z (parts.toList.map fun p=>pl.getD p.1 (0,0)),parts.toList.map (·.2))else none
 | .load t a=>(ZI P t).bind fun g=>(sizeOf? P t).bind fun s=>if chk g s then some (.load g s,[a])else none
 | .store t a x=>(sizeOf? P t).map fun s=>(.store s,[a,x])
 | .binOp .eql t x (.const (.slice none 0 0)) _=>if AX P t then some (.isNil false,[x,.const (.slice none 0 0)])else none
 | .binOp .neq t x (.const (.slice none 0 0)) _=>if AX P t then some (.isNil true,[x,.const (.slice none 0 0)])else none
 | .binOp op t x y _=>(NP P op t).map fun v=>(v,[x,y])
 | .unOp .not _ x=>some (.not,[x])
 | .unOp .neg _ x=>some (.neg,[x])
 | .convert s d x=>match P.underlying s,P.underlying d with
   |some _,some (.int k)=>some (.conv k,[x])
   |_,_=>none
 | .fieldAddr s x f=>(fieldsOf P s).bind fun fs=>(fs[f]?).bind fun fd=>(sizeOf? P fd.type).bind fun z=>if z=0 then none else some (.fieldAddr fd.offset,[x])
 | .field s x f=>(fieldsOf P s).bind fun fs=>(fs[f]?).bind fun fd=>(sizeOf? P fd.type).bind fun z=>(ZI P fd.type).bind fun g=>if chk g z then some (.field g fd.offset z,[x])else none
 | .indexAddr t x i=>match P.underlying t with
   |some (.slice e)=>(sizeOf? P e).map fun s=>(.idxAddr s,[x,i])
   |some (.array n e)=>(sizeOf? P e).map fun s=>(.idxArr n s,[x,i])
   |_=>none
 | .index t x i=>match P.underlying t with
   |some (.array n e)=>(sizeOf? P e).bind fun s=>(ZI P e).bind fun g=>if chk g s then some (.index g n s,[x,i])else none
   |some .string=>some (.idxStr,[x,i])
   |_=>none
 | .slice t x lo hi none=>match P.underlying t with
   |some (.slice e)=>(sizeOf? P e).map fun s=>(.slice s lo.isSome hi.isSome,x::(lo.toList++hi.toList))
   |some (.array n e)=>(sizeOf? P e).map fun s=>(.sliceArr n s lo.isSome hi.isSome,x::(lo.toList++hi.toList))
   |_=>none
 | .slice t x none (some hi) (some mx)=>match P.underlying t with
   |some (.slice e)=>(sizeOf? P e).map fun s=>(.slice3 s,[x,hi,mx])
   |_=>none
 | .makeSlice t l c=>match P.underlying t with
   |some (.slice e)=>(sizeOf? P e).bind fun s=>(bytesOf? P e).bind fun b=>(Qq P e).bind fun z=>if 0<b/\0<s then some (.make s b z,[l,c])else none
   |_=>none
 | .buildSlice t n parts=>match P.underlying t with
   |some (.slice e)=>(sizeOf? P e).bind fun s=>(Qq P e).bind fun z=>if n*s<=16777216 then some (.buildSlice s n z (parts.toList.map fun p=>(p.1*s,s)),parts.toList.map (·.2))else none
   |_=>none
 | .makeFunc fn first cap=>some (.mkfn fn first.size,first.toList++cap.toList)
 | .makeInterface t x=>match P.underlying t with
   |some (.interface _)=>none
   |some _=>some (.iface t,[x])
   |none=>none
 | .extract x i=>some (.ext i,[x])
 | .call c=>match c.callee with
   | .value (.func f)=>if E4 P f then some (.addc,c.args.toList)else some (.call f,c.args.toList)
   | .value x=>some (.callv,x::c.args.toList)
   | .invoke x name=>some (.invoke name,x::c.args.toList)
   | .builtin .len=>match c.argTypes[0]?.bind P.underlying with
     |some (.slice _)=>some (.len,c.args.toList)
     |some (.string)=>some (.lenStr,c.args.toList)
     |some (.array n _)=>some (.lenArr n,c.args.toList)
     |some (.map _ _)=>some (.lenSet,c.args.toList)
     |_=>none
   | .builtin .min=>some (.min,c.args.toList)
   | .builtin .max=>some (.max,c.args.toList)
   | .builtin .append=>match c.argTypes[0]?.bind P.underlying,c.argTypes[1]?.bind P.underlying with
     |some (.slice e),some (.slice _)=>(sizeOf? P e).bind fun s=>(bytesOf? P e).bind fun b=>(Qq P e).bind fun z=>if 0<b/\0<s/\z.length=s then some (.append s b z,c.args.toList)else none
     |_,_=>none
   | .builtin _=>none
 |_=>none
def VO.isCall:VO->Bool
 | .call _| .callv| .invoke _=>true
 |_=>false
def UK:Op->Bool
 | .call c=>match c.callee with
   | .builtin _=>false
   |_=>true
 |_=>false
def NI(ops:Array Oper)(j:Nat):Option Nat:=(ops[j]?).bind (·.dst)
def Vd(P:Program)(ops:Array Oper)(o:Oper):Option VOp:=
 (vop P o).bind fun(v,xs)=>(X.ofs P xs).bind fun ys=>
   if v.isCall&& !UK o.op then none else
   match o.guard with
   |none=>some { dst:=o.dst,g:=none,op:=v,xs:=ys}
   |some (j,b)=>(NI ops j).map fun s=>{ dst:=o.dst,g:=some (s,b),op:=v,xs:=ys}
def Xq(P:Program)(ops:Array Oper):List Oper->Option (List VOp)
 | []=>some []
 |o::l=>(Vd P ops o).bind fun v=>(Xq P ops l).map (v::·)
def X.slot:X->List Nat
 | .tm n=>[n]
 | .cn _=>[]
def KA:List X->List Nat
 | []=>[]
 |x::l=>x.slot++KA l
def VOp.reads(v:VOp):List Nat:=KA v.xs++(match v.g with|some (g,_)=>[g] |none=>[])
def VO.readsHp:VO->Bool
 | .load _ _| .idxArr _ _| .sliceArr _ _ _ _| .isNil _=>true
 |_=>false
def VO.isStore:VO->Bool
 | .store _=>true
 |_=>false
def VO.isAppend:VO->Bool
 | .append _ _ _=>true
 |_=>false
def Xh:List X->X
 | []=> .cn .junk
 |x::_=>x
def VO.quiet:VO->Bool
 | .alloc _| .allocArr _ _ _| .box| .buildSlice _ _ _ _| .store _| .make _ _ _| .append _ _ _| .call _| .callv| .invoke _| .mkSet| .setAdd| .lenSet| .mkMap _| .mapGet _| .mapPut _=>false
 |_=>true
inductive DT where
 |silent (d:Nat)
 |op (v:VOp) (chk:List (Nat×X))
 |loud (v:VOp)
def Gd(d:Option Nat)(l:List Nat):Bool:=
 match d with
 |some n=>!l.contains n
 |none=>true
def xeq:X->X->Bool
 | .tm n,.tm m=>YJ n m
 |_,_=>false
def Ed:SV->Bool
 | .int _ _=>true
 | .bool _=>true
 | .nil=>true
 | .val _=>true
 |_=>false
def Hc:List SV->Bool
 | []=>true
 |x::l=>Ed x&&Hc l
def Is(i:Nat)(chk:List (Nat×X))(x:X):Bool:=chk.any fun c=>YJ c.1 i&&xeq c.2 x
def Eh(i:Nat)(chk:List (Nat×X)):X->Bool
 | .tm n=>Is i chk (.tm n)
 | .cn v=>Ed v
def R7(i:Nat)(v:VOp)(chk:List (Nat×X)):Bool:=
 Gd v.dst v.reads&&v.xs.all (Eh i chk)&&(match v.g with|some (g,_)=>Eh i chk (.tm g) |none=>true)&&(match v.dst with|some d=>Eh i chk (.tm d) |none=>false)
def Me(clo:Nat->Nat->Bool)(i:Nat)(v:VOp)(j:Nat)(t:DT):Bool:=
 YJ i j|| clo j i|| clo i j||
 match t with
 | .silent _=>true
 | .loud _=>false
 | .op u chk=>Gd v.dst u.reads&&Gd v.dst u.dst.toList&&Gd u.dst v.reads&&(!u.op.isAppend|| R7 i v chk)&&
     chk.all (fun c=>Gd v.dst c.2.slot|| clo c.1 i|| YJ c.1 i)&&
     (!u.op.isStore|| !v.op.readsHp|| (Gd v.dst (Xh v.xs).slot&&chk.any fun c=>YJ c.1 i&&xeq c.2 (Xh v.xs)))
def Gy(md:Region.Mode):List Edge->Nat
 | []=>0
 |e::l=>bif Region.binds md e then 2^e.on||| Gy md l else Gy md l
def Je(md:Region.Mode)(ops:Array Oper):List Nat:=ops.toList.map fun o=>Gy md o.after.toList
def GE(cl:List Nat)(m:Nat):Nat->Nat
 |0=>0
 |k+1=>bif m.testBit k then cl.getD k 0||| GE cl m k else GE cl m k
def SW:List Nat->Nat->List Nat->List Nat
 | [],_,cl=>cl
 |m::l,j,cl=>SW l (j+1) (cl++[m||| GE cl m j])
def Qv(dm:List Nat):List Nat:=SW dm 0 []
def Ga(dm cl:List Nat):Nat->Bool
 |0=>true
 |j+1=>YJ (cl.getD j 0) (dm.getD j 0||| GE cl (dm.getD j 0) j)&&Ga dm cl j
def X4(dm:List Nat)(m i:Nat):Bool:=!m.testBit i&&YJ (dm.getD i 0&&&m) (dm.getD i 0)
def M2(dm:List Nat)(m:Nat):Nat->Bool
 |0=>true
 |k+1=>!X4 dm m k&&M2 dm m k
def M4(dm:List Nat)(m i:Nat):Nat->Bool
 |0=>true
 |k+1=>(YJ k i|| !X4 dm m k)&&M4 dm m i k
def FF(free:Nat->Bool)(dm:List Nat)(n:Nat):List Nat->Nat->Bool
 | [],m=>M2 dm m n
 |i::l,m=>Y7 (i+1) n&&X4 dm m i&&(free i|| M4 dm m i n)&&FF free dm n l (m||| 2^i)
def Jn(cl:List Nat)(j i:Nat):Bool:=(cl.getD j 0).testBit i
def BR:List SV->Nat
 | []=>0
 |_::l=>BR l+1
def X7(v:VOp):Option (Nat×AL):=
 match v with
 | ⟨some d,none,.alloc z,_⟩=>some (d,.box z)
 | ⟨some d,none,.allocArr n size z,_⟩=>bif YJ (BR z) (n*size)then some (d,.arr n size z)else none
 |_=>none
def Dq(clo:Nat->Nat->Bool)(j:Nat):List VOp->Nat->List (Nat×X)
 | [],_=>[]
 |v::l,i=>bif v.op.quiet&&v.op.readsHp&& !clo i j&& !clo j i then(i,Xh v.xs)::Dq clo j l (i+1)else Dq clo j l (i+1)
def tms(i:Nat):List X->List (Nat×X)
 | []=>[]
 | .tm n::l=>(i,.tm n)::tms i l
 | .cn _::l=>tms i l
def Yfa(i:Nat)(v:VOp):List (Nat×X):=
 tms i v.xs++(match v.g with|some (g,_)=>[(i,.tm g)] |none=>[])++(match v.dst with|some d=>[(i,.tm d)] |none=>[])
def Dc(clo:Nat->Nat->Bool)(j:Nat):List VOp->Nat->List (Nat×X)
 | [],_=>[]
 |v::l,i=>bif v.op.quiet&& !clo i j&& !clo j i then Yfa i v++Dc clo j l (i+1)else Dc clo j l (i+1)
def Qd(P:Program)(f:FuncId):Bool:=
 match P.funcs[f]? with
 |some fn=>match fn.params[0]?,fn.resultTypes[0]? with
  |some t,some u=>YJ t u&&(match P.underlying t with|some (.pointer _)=>true|_=>false)
  |_,_=>false
 |none=>false
def Vo(lf:FuncId->Bool)(v:VOp):Bool:=
 match v with
 | ⟨_,none,.call f,_⟩=>lf f
 |_=>false
def J7(lf:FuncId->Bool)(clo:Nat->Nat->Bool)(all:List VOp):List VOp->Nat->List DT
 | [],_=>[]
 |v::l,j=>(match X7 v with
  |some (d,_)=> .silent d
  |none=>bif Vo lf v then .loud v else .op v (bif v.op.isStore then Dq clo j all 0 else bif v.op.isAppend then Dc clo j all 0 else []))::J7 lf clo all l (j+1)
def XB:List VOp->Nat->List (Nat×Nat×AL)
 | [],_=>[]
 |v::l,j=>match X7 v with
  |some (d,z)=>(j,d,z)::XB l (j+1)
  |none=>XB l (j+1)
def Md(clo:Nat->Nat->Bool)(i:Nat)(v:VOp):List DT->Nat->Bool
 | [],_=>true
 |t::l,j=>Me clo i v j t&&Md clo i v l (j+1)
def EF(clo:Nat->Nat->Bool)(tab:List DT)(i:Nat):Bool:=
 match tab[i]? with
 |some (.silent _)=>true
 |some (.op v [])=>v.op.quiet&&Md clo i v tab 0
 |_=>false
def V5(clo:Nat->Nat->Bool)(tab:List DT):Nat->Nat->List Bool
 |0,_=>[]
 |n+1,i=>EF clo tab i::V5 clo tab n (i+1)
def G9:List Nat->Nat->Bool
 | [],_=>true
 |m::l,j=>Nat.blt m (2^j)&&G9 l (j+1)
def pick(ok:Nat->Bool):Nat->Nat->Option Nat
 |0,_=>none
 |n+1,i=>bif ok i then some i else pick ok n (i+1)
def L1(fr:List Bool)(dm:List Nat)(n:Nat):Nat->Nat->List Nat
 |0,_=>[]
 |k+1,m=>match pick (fun i=>fr.getD i false&&X4 dm m i) n 0 with
  |some i=>i::L1 fr dm n k (m||| 2^i)
  |none=>match pick (X4 dm m) n 0 with
   |some i=>i::L1 fr dm n k (m||| 2^i)
   |none=>[]
def AL.clean:AL->Bool
 | .box z=>Hc z
 | .arr _ _ z=>Hc z
def Wl(clo:Nat->Nat->Bool)(sil:List (Nat×Nat×AL)):List DT->Nat->Bool
 | [],_=>true
 | .silent _::l,j=>Wl clo sil l (j+1)
 | .loud _::l,j=>(match sil with| []=>true|_=>false)&&Wl clo sil l (j+1)
 | .op v _::l,j=>sil.all (fun x=>(clo j x.1|| (!v.reads.contains x.2.1&&(!v.op.isAppend|| x.2.2.clean)))&& !(v.dst.toList.contains x.2.1))&&Wl clo sil l (j+1)
inductive OT where
 |nil
 |op (i:Nat) (t:OT)
 |br (a b:OT)
def OT.heads:OT->List Nat
 | .nil=>[]
 | .op i _=>[i]
 | .br a b=>a.heads++b.heads
def OT.len:OT->Nat
 | .nil=>0
 | .op _ t=>t.len+1
 | .br a _=>a.len
def Dw(dm:List Nat)(m:Nat)(hs:List Nat):Nat->Bool
 |0=>true
 |k+1=>(hs.contains k|| !X4 dm m k)&&Dw dm m hs k
def QW(free:Nat->Bool)(dm:List Nat)(n:Nat):OT->Nat->Bool->Bool
 | .nil,m,ex=>!ex&&M2 dm m n
 | .op i t,m,ex=>Y7 (i+1) n&&X4 dm m i&&(ex|| free i|| M4 dm m i n)&&QW free dm n t (m||| 2^i) false
 | .br a b,m,ex=>(ex|| Dw dm m (a.heads++b.heads) n)&&YJ a.len b.len&&QW free dm n a m true&&QW free dm n b m true
def Ybj(dm:List Nat)(m:Nat):Nat->List Nat
 |0=>[]
 |k+1=>Ybj dm m k++(bif X4 dm m k then [k]else [])
def brs:List OT->OT
 | []=> .nil
 | [t]=>t
 |t::l=> .br t (brs l)
def P3(fr:List Bool)(dm:List Nat)(n:Nat):Nat->Nat->OT
 |0,_=> .nil
 |k+1,m=>match pick (fun i=>fr.getD i false&&X4 dm m i) n 0 with
  |some i=> .op i (P3 fr dm n k (m||| 2^i))
  |none=>brs ((Ybj dm m n).map fun i=> .op i (P3 fr dm n k (m||| 2^i)))
def HX:List Nat->Bool
 | []=>true
 |d::l=>!l.contains d&&HX l
def Ge(tab:List DT):List Nat->List DOp
 | []=>[]
 |i::l=>match tab[i]? with
  |some (.op v chk)=>⟨v,chk.map (·.2)⟩::Ge tab l
  |some (.loud v)=>⟨v,[]⟩::Ge tab l
  |_=>Ge tab l
def G5:List Oper->List VOp->Bool
 |o::os,v::vs=>(match X7 v with
  |some _=>match o.op with
   | .alloc _=>true
   |_=>false
  |none=>true)&&G5 os vs
 |_,_=>true
def DE(P:Program)(ops:Array Oper):Option (List (Nat×AL)×List DOp):=
 (Xq P ops ops.toList).bind fun vs=>
   let dm:=Je .any ops
   let cl:=Qv dm
   let tab:=J7 (Qd P) (Jn cl) vs vs 0
   let sil:=XB vs 0
   let fr:=V5 (Jn cl) tab ops.size 0
   let order:=L1 fr dm ops.size ops.size 0
   if G5 ops.toList vs&&YJ cl.length ops.size&&Ga dm cl ops.size&&G9 dm 0&&Wl (Jn cl) sil tab 0&&HX (sil.map (·.2.1))&&YJ order.length ops.size&&FF (fun i=>fr.getD i false) dm ops.size order 0 then
    some (sil.map (·.2),Ge tab order)
   else none
def HZ(tab:List DT):OT->DTr
 | .nil=> .leaf
 | .op i t=> .ops (Ge tab [i]) (HZ tab t)
 | .br a b=> .br (HZ tab a) (HZ tab b)
def DF(P:Program)(ops:Array Oper):Option (List (Nat×AL)×DTr):=
 (Xq P ops ops.toList).bind fun vs=>
   let dm:=Je .any ops
   let cl:=Qv dm
   let tab:=J7 (Qd P) (Jn cl) vs vs 0
   let sil:=XB vs 0
   let fr:=V5 (Jn cl) tab ops.size 0
   let t:=P3 fr dm ops.size ops.size 0
   if G5 ops.toList vs&&YJ cl.length ops.size&&Ga dm cl ops.size&&G9 dm 0&&Wl (Jn cl) sil tab 0&&HX (sil.map (·.2.1))&&YJ t.len ops.size&&QW (fun i=>fr.getD i false) dm ops.size t 0 false then
    some (sil.map (·.2),HZ tab t)
   else none
def Tn(P:Program)(ops:Array Oper):VC:=
 match DE P ops with
 |some r=> .draw r.1 r.2
 |none=>match DF P ops with
  |some r=> .drawT r.1 r.2
  |none=> .stuck
def QX(P:Program):Code->Option VC
 | .skip=>some .skip
 | .region _ ops draw=>if draw then some (Tn P ops)else match Xq P ops ops.toList with|some l=>some (.region l) |none=>some .stuck
 | .rangeFunc g ps a b=>(X.of P g).bind fun z=>(QX P a).bind fun x=>(QX P b).map fun y=> .rangeFn z ps.toList x y
 | .seq a b=>(QX P a).bind fun x=>(QX P b).map fun y=> .seq x y
 | .cond c a b=>(X.of P c).bind fun z=>(QX P a).bind fun x=>(QX P b).map fun y=> .cond z x y
 | .block i c=>(QX P c).map (.block i)
 | .scope c=>(QX P c).map .scope
 | .label _=>some .skip
 | .loop c=>(QX P c).map .loop
 | .exit i=>some (.exit i)
 | .ret=>some .ret
 |_=>some .stuck
def GU(P:Program):ResultVar->Option VR
 | .tmp t=>some (.tmp t)
 | .cell a t=>(ZI P t).bind fun g=>(sizeOf? P t).bind fun s=>if chk g s then some (.cell a g s)else none
def Ul(P:Program):List ResultVar->Option (List VR)
 | []=>some []
 |r::l=>(GU P r).bind fun x=>(Ul P l).map (x::·)
def Yn(P:Program)(fn:Func):Option VF:=
 fn.body.bind fun c=>(QX P c).bind fun b=>(Ul P fn.results.toList).map fun r=>{ ntmps:=fn.ntmps,res:=r,body:=b}
structure S where
 fr:List SV
 saved:List (List SV)
 hp:List HO
def Kr:List SV->Nat->SV
 | [],_=> .junk
 |x::_,0=>x
 |_::l,n+1=>Kr l n
def Kq:List SV->Nat->SV->List SV
 | [],_,_=>[]
 |_::l,0,v=>v::l
 |x::l,n+1,v=>x::Kq l n v
def Ys:List HO->Nat->HO
 | [],_=> .gone
 |x::_,0=>x
 |_::l,n+1=>Ys l n
def KL:List HO->Nat->HO->List HO
 | [],_,_=>[]
 |_::l,0,v=>v::l
 |x::l,n+1,v=>x::KL l n v
def Yi:List HO->Nat
 | []=>0
 |_::l=>Yi l+1
def Qg:List HO->HO->List HO
 | [],x=>[x]
 |y::l,x=>y::Qg l x
def S.put(s:S)(d:Option Nat)(v:SV):S:=
 match d with
 |some d=>{ s with fr:=Kq s.fr d v}
 |none=>s
def S.x(s:S):X->SV
 | .tm n=>Kr s.fr n
 | .cn v=>v
def HC(gb:Bool):SV->Prop×SV
 | .opt b v=>(gb=true->b=true,v)
 |v=>(True,v)
def S.args(s:S):List X->List SV
 | []=>[]
 |x::l=>s.x x::s.args l
def GS(gb:Bool):List SV->Prop×List SV
 | []=>(True,[])
 |v::l=>((HC gb v).1/\(GS gb l).1,(HC gb v).2::(GS gb l).2)
def I2:VO->Bool
 | .and| .or=>true
 |_=>false
def A9(lz:Bool)(gb:Bool)(l:List SV):Prop×List SV:=
 match lz with
 |false=>GS gb l
 |true=>match l with
  | [x,y]=>((HC gb x).1,[(HC gb x).2,y])
  |l=>GS gb l
def Qh(o:VO)(gb:Bool)(l:List SV):Prop×List SV:=A9 (I2 o) gb l
def Z5:SV->List SV
 | .agg cs=>cs
 |v=>[v]
def J6:List SV->Nat->List SV->List SV
 |cs,0,[]=>cs
 | [],_,_=>[]
 |_::cs,0,v::vs=>v::J6 cs 0 vs
 |c::cs,n+1,vs=>c::J6 cs n vs
def QE:Nat->Nat->Nat
 |0,k=>k
 |n+1,k=>n+1+k
def YP:Nat->List SV->List SV
 |0,_=>[]
 |_+1,[]=>[]
 |n+1,x::l=>x::YP n l
def YF:Nat->List SV->List SV
 |0,l=>l
 |_+1,[]=>[]
 |n+1,_::l=>YF n l
def YK:List SV->Nat
 | []=>0
 |_::l=>YK l+1
def Fy:Nat->List SV->List SV
 |0,_=>[]
 |n+1,z=>z++Fy n z
inductive Upd where
 |no
 |new (ho:HO)
 |set (i:Nat) (ho:HO)
 |app (i:Nat) (ho:HO)
structure Ef where
 pre:Prop
 val:SV
 upd:Upd
def W4(agg:Bool)(cs:List SV):SV:=
 match agg with
 |true=> .agg cs
 |false=>match cs with
  | [x]=>x
  |_=> .junk
def one:SV->Prop
 | .agg _=>False
 | .tup _=>False
 | .opt _ _=>False
 | .cut _=>False
 | .junk=>False
 | .val v=>v.oneCell'=true
 |_=>True
def Jg:List SV->Prop
 | []=>True
 |x::l=>one x/\Jg l
mutual
def Ku(i:Nat):SV->Bool
 | .agg cs=>Vy i cs
 | .tup cs=>Vy i cs
 | .ptr j _=>YJ j i
 | .own j _ _ _=>YJ j i
 | .elem j _ _ _=>YJ j i
 | .smp j=>YJ j i
 | .fn _ a b=>Vy i a|| Vy i b
 | .iface _ v=>Ku i v
 | .opt _ v=>Ku i v
 | .cut v=>Ku i v
 |_=>false
def Vy(i:Nat):List SV->Bool
 | []=>false
 |x::l=>Ku i x|| Vy i l
end
mutual
def noOwn:SV->Bool
 | .agg cs=>QR cs
 | .tup cs=>QR cs
 | .ptr _ _=>false
 | .own _ _ _ _=>false
 | .elem _ _ _ _=>false
 | .smp _=>false
 | .fn _ a b=>QR a&&QR b
 | .iface _ v=>noOwn v
 | .opt _ _=>false
 | .cut _=>false
 |_=>true
def QR:List SV->Bool
 | []=>true
 |x::l=>noOwn x&&QR l
end
def Wi(i:Nat)(v:SV):SV:=bif Ku i v then .junk else v
def YU(i:Nat):List SV->List SV
 | []=>[]
 |x::l=>Wi i x::YU i l
def Nm(i:Nat):List (List SV)->List (List SV)
 | []=>[]
 |x::l=>YU i x::Nm i l
def Xl(i:Nat):List HO->List HO
 | []=>[]
 | .box cs::l=> .box (YU i cs)::Xl i l
 | .own z sz n get::l=> .own z sz n (fun k=>YU i (get k))::Xl i l
 | .smap m::l=> .smap m::Xl i l
 | .gone::l=> .gone::Xl i l
def S.upd(s:S)(u:Upd):S:=
 match u with
 | .no=>s
 | .new ho=>{ s with hp:=Qg s.hp ho}
 | .set i ho=>{ s with hp:=KL s.hp i ho}
 | .app i ho=>{ fr:=YU i s.fr,saved:=Nm i s.saved,hp:=KL (Xl i s.hp) i ho}
def Dv(o:Cmp)(x y:Int):Bool:=
 match o with
 | .eql=>decide (x=y)
 | .neq=>!decide (x=y)
 | .lss=>decide (x<y)
 | .leq=>decide (x<=y)
 | .gtr=>decide (y<x)
 | .geq=>decide (y<=x)
def ari(o:Ari)(x y:Int):Int:=
 match o with
 | .add=>x+y
 | .sub=>x-y
 | .mul=>x*y
def JR(o:Bit)(k:IntKind)(x y:Int):Int:=
 match o with
 | .and=>k.wrap (BitVec.ofInt k.bits x&&&BitVec.ofInt k.bits y).toNat
 | .or=>k.wrap (BitVec.ofInt k.bits x||| BitVec.ofInt k.bits y).toNat
 | .xor=>k.wrap (BitVec.ofInt k.bits x^^^BitVec.ofInt k.bits y).toNat
 | .andNot=>k.wrap (BitVec.ofInt k.bits x&&&~~~BitVec.ofInt k.bits y).toNat
def kEq:IntKind->IntKind->Bool
 | .i8,.i8| .i16,.i16| .i32,.i32| .i64,.i64| .u8,.u8| .u16,.u16| .u32,.u32| .u64,.u64=>true
 |_,_=>false
def H5:IntKind->Int->List SV->Option Int
 |_,m,[]=>some m
 |k,m,.int k' y::l=>bif kEq k k' then H5 k (max m y) l else none
 |_,_,_=>none
def H6:IntKind->Int->List SV->Option Int
 |_,m,[]=>some m
 |k,m,.int k' y::l=>bif kEq k k' then H6 k (min m y) l else none
 |_,_,_=>none
def Qu:List Bool->List SV->List SV->Option (Prop×Bool)
 | [],[],[]=>some (True,true)
 |true::ks,.int k x::l,.int k' y::r=>(Qu ks l r).map fun(p,b)=>(k=k'/\p,decide (x=y)&&b)
 |false::ks,.bool x::l,.bool y::r=>(Qu ks l r).map fun(p,b)=>(p,(x==y)&&b)
 |_,_,_=>none
def XA(hp:List HO):SV->Option (Nat×(Nat->List SV))
 | .nil=>some (0,fun _=>[])
 | .vs _ _ n _ get=>some (n,get)
 | .own i lo n sz=>match Ys hp i with
   | .own _ sz' _ get=>bif YJ sz sz' then some (n,fun k=>get (QE lo k))else none
   |_=>none
 |_=>none
def BS:SV->Option Nat
 | .nil=>some 0
 | .vs _ _ n _ _=>some n
 | .own _ _ n _=>some n
 | .row n _=>some n
 |_=>none
def WA:Nat->Nat->(Nat->List SV)->List SV
 |0,_,_=>[]
 |n+1,k,get=>get k++WA n (k+1) get
def L2(off n:Nat)(get:Nat->List SV):Option (Prop×List SV):=
 match off with
 |0=>some (True,WA n 0 get)
 |_=>none
def ZL(hp:List HO):SV->Option (Prop×List SV)
 | .xp _ cs=>some (True,cs)
 | .ptr i off=>match Ys hp i with
   | .box cs=>some (True,YF off cs)
   | .own _ _ n get=>L2 off n get
   |_=>none
 | .elem i k off sz=>match Ys hp i with
   | .own _ size n get=>some (k<n/\sz=size,YF off (get k))
   |_=>none
 |_=>none
def Jt(size:Nat)(cs:List SV)(k:Nat):List SV:=YP size (YF (k*size) cs)
def storeAt(hp:List HO)(size:Nat)(vals:List SV):SV->Option Ef
 | .ptr i off=>match Ys hp i with
   | .box cs=>some { pre:=off+size<=YK cs,val:= .junk,upd:= .set i (.box (J6 cs off vals))}
   | .own z sz n _=>match off with
     |0=>some { pre:=size=n*sz/\0<sz,val:= .junk,upd:= .set i (.own z sz n (Jt sz vals))}
     |_=>none
   | .smap _=>none
   | .gone=>none
 | .elem i k off sz=>match Ys hp i with
   | .own z size' n get=>some { pre:=k<n/\sz=size'/\off+size<=sz,val:= .junk,upd:= .set i (.own z size' n fun j=>if j=k then J6 (get k) off vals else get j)}
   |_=>none
 |_=>none
def Z8:List SV->List (Nat×Nat)->List SV->Option (Prop×List SV)
 |cs,[],[]=>some (True,cs)
 |cs,(off,size)::pl,v::vs=>(Z8 (J6 cs off (Z5 v)) pl vs).map fun(p,r)=>(YK (Z5 v)=size/\Jg (Z5 v)/\off+size<=YK cs/\p,r)
 |_,_,_=>none
def Y8(n bytes:Nat):Prop:=n*bytes<=140737488355328
def Kc(p:Prop)(v:SV):Option Ef:=some { pre:=p,val:=v,upd:= .no}
def Mq(o:VO)(xs:List SV):Option Ef:=
 match xs with
 | [.bool c,y]=>match o,y with
   | .and,.opt b (.bool x)=>Kc (c=true->b=true) (.bool (c&&x))
   | .or,.opt b (.bool x)=>Kc (c=false->b=true) (.bool (c|| x))
   | .and,.bool x=>Kc True (.bool (c&&x))
   | .or,.bool x=>Kc True (.bool (c|| x))
   |_,_=>none
 |_=>none
def Xe(ho:HO)(v:SV)(p:Prop):Option Ef:=some { pre:=p,val:=v,upd:= .new ho}
def DJ(o:Ari)(xs:List SV):Option Ef:=
 match xs with
 | [.int k x,.int k' y]=>Kc (k=k') (.int k (k.wrap (ari o x y)))
 |_=>none
def DL(o:Cmp)(xs:List SV):Option Ef:=
 match xs with
 | [.int k x,.int k' y]=>Kc (k=k') (.bool (Dv o x y))
 |_=>none
def DP(neg:Bool)(xs:List SV):Option Ef:=
 match xs with
 | [.bool x,.bool y]=>Kc True (.bool (match neg with|true=>!(x==y) |false=>x==y))
 |_=>none
def Vs(neg:Bool)(z:Bool):Bool:=
 match neg with
 |true=>!z
 |false=>z
def He(hp:List HO)(neg:Bool)(xs:List SV):Option Ef:=
 match xs with
 | [x,.nil]=>match x with
   | .nil=>Kc True (.bool (Vs neg true))
   | .vs _ z _ _ _=>Kc True (.bool (Vs neg z))
   | .own i _ _ _=>match Ys hp i with
     | .own z _ _ _=>Kc True (.bool (Vs neg z))
     |_=>none
   |_=>none
 |_=>none
def DK(o:Bit)(xs:List SV):Option Ef:=
 match xs with
 | [.int k x,.int k' y]=>Kc (k=k') (.int k (JR o k x y))
 |_=>none
def Ms(rem:Bool)(xs:List SV):Option Ef:=
 match xs with
 | [.int k x,.int k' y]=>Kc (k=k'/\y≠0) (.int k (match rem with|true=>x.tmod y|false=>k.wrap (x.tdiv y)))
 |_=>none
def eSh(left:Bool)(xs:List SV):Option Ef:=
 match xs with
 | [.int k x,.int _ y]=>Kc (0<=y) (.int k (match left with|true=>k.wrap (x*2^min y.toNat k.bits) |false=>x.fdiv (2^min y.toNat k.bits)))
 |_=>none
def D6(xs:List SV):Option Ef:=
 match xs with
 | [x]=>Kc True x
 |_=>none
def D9(xs:List SV):Option Ef:=
 match xs with
 | [.bool x]=>Kc True (.bool (!x))
 |_=>none
def D7(xs:List SV):Option Ef:=
 match xs with
 | [.int k x]=>Kc True (.int k (k.wrap (0-x)))
 |_=>none
def DM(k:IntKind)(xs:List SV):Option Ef:=
 match xs with
 | [.int _ x]=>Kc True (.int k (k.wrap x))
 |_=>none
def DR(i:Nat)(xs:List SV):Option Ef:=
 match xs with
 | [.tup l]=>Kc (i<YK l) (Kr l i)
 |_=>none
def DX(t:TypeId)(xs:List SV):Option Ef:=
 match xs with
 | [x]=>Kc True (.iface t x)
 |_=>none
def D3(n:Nat)(xs:List SV):Option Ef:=
 match xs with
 | [_]=>Kc True (.int .i64 n)
 |_=>none
def DZ(xs:List SV):Option Ef:=
 match xs with
 | [x]=>(BS x).bind fun n=>Kc True (.int .i64 n)
 |_=>none
def D5(xs:List SV):Option Ef:=
 match xs with
 | [.val (.string b)]=>Kc True (.int .i64 b.size)
 |_=>none
def Mu(mx:Bool)(xs:List SV):Option Ef:=
 match xs with
 | .int k x::l=>(match mx with|true=>H5 k x l|false=>H6 k x l).bind fun m=>Kc True (.int k m)
 |_=>none
def DU(off:Nat)(xs:List SV):Option Ef:=
 match xs with
 | [x]=>match x with
   | .ptr i o=>Kc True (.ptr i (o+off))
   | .xp t cs=>Kc True (.xp t (YF off cs))
   | .elem i k o sz=>Kc True (.elem i k (o+off) sz)
   |_=>none
 |_=>none
def DS(agg:Bool)(off size:Nat)(xs:List SV):Option Ef:=
 match xs with
 | [.agg cs]=>Kc (off+size<=YK cs) (W4 agg (YP size (YF off cs)))
 |_=>none
def DV(size:Nat)(xs:List SV):Option Ef:=
 match xs with
 | [x,.int _ i]=>match x with
   | .vs t _ n sz get=>Kc (sz=size/\0<=i/\i<n) (.xp t (get i.toNat))
   | .own j lo n sz=>Kc (sz=size/\0<=i/\i<n) (.elem j (QE lo i.toNat) 0 size)
   | .row n C=>Kc (size=1/\0<=i/\i<n) (.rcell (C i.toNat))
   |_=>none
 |_=>none
def Kw(i:Int)(size:Nat):Nat:=i.toNat*size
theorem YhH(size:Nat):Kw 0 size=0:=JP size
theorem YhM:Kw 1 1=1:=rfl
theorem YhQ:Kw 2 1=2:=rfl
theorem YhS:Kw 3 1=3:=rfl
def Vk(hp:List HO)(n size:Nat)(xs:List SV):Option Ef:=
 match xs with
 | [.ptr j 0,.int _ i]=>match Ys hp j with
   | .own _ sz m _=>Kc (0<=i/\i<n/\sz=size/\m=n) (.elem j i.toNat 0 size)
   | .box _=>Kc (0<=i/\i<n) (.ptr j (Kw i size))
   |_=>none
 | [.ptr j (o+1),.int _ i]=>match Ys hp j with
   | .box _=>Kc (0<=i/\i<n) (.ptr j (o+1+Kw i size))
   |_=>none
 | [.xp t cs,.int _ i]=>Kc (0<=i/\i<n/\n*size<=YK cs) (.xp t (YF (i.toNat*size) cs))
 |_=>none
def DY(agg:Bool)(n size:Nat)(xs:List SV):Option Ef:=
 match xs with
 | [.agg cs,.int _ i]=>Kc (0<=i/\i<n/\YK cs=n*size) (W4 agg (Jt size cs i.toNat))
 |_=>none
def F6(n:Nat)(lo hi:Bool)(l:List SV):Option (Prop×Nat×Nat):=
 match lo,hi,l with
 |false,false,[]=>some (True,0,n)
 |true,false,[.int _ a]=>some (0<=a/\a<=n,a.toNat,n)
 |false,true,[.int _ b]=>some (0<=b/\b<=n,0,b.toNat)
 |true,true,[.int _ a,.int _ b]=>some (0<=a/\a<=b/\b<=n,a.toNat,b.toNat)
 |_,_,_=>none
def VE:Nat->Nat->Nat
 |n,0=>n
 |n,k+1=>n-(k+1)
def Bb(size:Nat)(lo hi:Bool)(xs:List SV):Option Ef:=
 match xs with
 |x::l=>match x with
  | .vs t z n sz get=>(F6 n lo hi l).bind fun(p,a,b)=>Kc (sz=size/\p) (.vs t z (VE b a) sz fun k=>get (QE a k))
  | .own j o n sz=>(F6 n lo hi l).bind fun(p,a,b)=>Kc (sz=size/\p) (.own j (QE o a) (VE b a) sz)
  |_=>none
 |_=>none
def Bc(size:Nat)(xs:List SV):Option Ef:=
 match xs with
 | [x,.int _ b,.int _ c]=>match x with
   | .nil=>Kc (b=0/\c=0) .nil
   | .vs t z n sz get=>Kc (sz=size/\0<=b/\b<=n/\c=b) (.cut (.vs t z b.toNat sz get))
   | .own j o n sz=>Kc (sz=size/\0<=b/\b<=n/\c=b) (.cut (.own j o b.toNat sz))
   |_=>none
 |_=>none
def Hf(hp:List HO)(n size:Nat)(lo hi:Bool)(xs:List SV):Option Ef:=
 match lo,hi,xs with
 |false,false,[.ptr j 0]=>match Ys hp j with
  | .own _ sz m _=>Kc (sz=size/\m=n) (.own j 0 n size)
  |_=>none
 |_,_,_=>none
def Mt(nx:Nat)(size bytes:Nat)(zero:List SV)(xs:List SV):Option Ef:=
 match xs with
 | [.int _ l,.int _ c]=>Xe (.own false size l.toNat fun _=>zero) (.own (nx) 0 l.toNat size) (YK zero=size/\0<size/\0<=l/\l<=c/\Y8 c.toNat bytes)
 |_=>none
def Vj(nx:Nat)(hp:List HO)(size bytes:Nat)(xs:List SV):Option Ef:=
 match xs with
 | [a,x]=>match a with
   | .nil=>(XA hp x).bind fun(m,gx)=>Xe (.own (decide (m=0)) size m gx) (.own (nx) 0 m size) (Y8 m bytes/\∀k,k<m->YK (gx k)=size/\Jg (gx k))
   | .own i 0 n sz=>match Ys hp i with
     | .own z s' _ get=>(XA hp x).map fun(m,gx)=>
       {pre:=sz=size/\s'=size/\Y8 (n+m) bytes/\∀k,k<m->YK (gx k)=size/\Jg (gx k),val:= .own i 0 (n+m) size,
        upd:= .app i (.own (z&&decide (m=0)) size (n+m) fun k=>if k<n then YU i (get k)else YU i (gx (k-n)))}
     |_=>none
   | .cut y=>(XA hp y).bind fun(n,gy)=>(XA hp x).bind fun(m,gx)=>Xe (.own false size (n+m) fun k=>if k<n then gy k else gx (k-n)) (.own (nx) 0 (n+m) size)
       (0<m/\Y8 (n+m) bytes/\(∀k,k<n->YK (gy k)=size/\Jg (gy k))/\∀k,k<m->YK (gx k)=size/\Jg (gx k))
   |_=>none
 |_=>none
def V2(hp:List HO)(agg:Bool)(size:Nat)(xs:List SV):Option Ef:=
 match xs with
 | [a]=>(ZL hp a).bind fun(p,cs)=>Kc (p/\size<=YK cs) (W4 agg (YP size cs))
 |_=>none
def H1(hp:List HO)(size:Nat)(xs:List SV):Option Ef:=
 match xs with
 | [a,v]=>(storeAt hp size (Z5 v) a).map fun e=>{ e with pre:=YK (Z5 v)=size/\Jg (Z5 v)/\e.pre}
 |_=>none
def Mr(nx:Nat)(xs:List SV):Option Ef:=
 match xs with
 | [x]=>Xe (.box (Z5 x)) (.ptr (nx) 0) (Jg (Z5 x))
 |_=>none
def D8(xs:List SV):Option Ef:=
 match xs with
 | [x]=>match x with
   | .ptr i o=>Kc True (.ptr i o)
   | .xp t cs=>Kc True (.xp t cs)
   | .elem i k o sz=>Kc True (.elem i k o sz)
   |_=>none
 |_=>none
def Jm(b:ByteArray)(i:Nat):Int:=(b.data.toList.getD i 0).toNat
def DW(xs:List SV):Option Ef:=
 match xs with
 | [.val (.string b),.int _ i]=>Kc (0<=i/\i<b.size) (.int .u8 (Jm b i.toNat))
 |_=>none
def DO(neg:Bool)(xs:List SV):Option Ef:=
 match xs with
 | [.val (.string a),.val (.string b)]=>Kc True (.bool (Vs neg (a.toList==b.toList)))
 |_=>none
def U3(l:List (List UInt8))(s:List UInt8):List (List UInt8):=if s∈l then l else l++[s]
def Ba(hp:List HO)(xs:List SV):Option Ef:=
 match xs with
 | [.smp i,.val (.string s),.agg []]=>match Ys hp i with
   | .smap l=>some { pre:=True,val:= .junk,upd:= .set i (.smap (U3 l s.data.toList))}
   |_=>none
 |_=>none
def D4(hp:List HO)(xs:List SV):Option Ef:=
 match xs with
 | [.smp i]=>match Ys hp i with
   | .smap l=>Kc True (.int .i64 l.length)
   |_=>none
 |_=>none
def UH:List IntKind->List SV->Option (Prop×List Int)
 | [],[]=>some (True,[])
 |k::ks,.int k' x::l=>(UH ks l).map fun(p,r)=>(k=k'/\p,x::r)
 |_,_=>none
def Es(xs:List SV):Option Ef:=
 match xs with
 | [.int .u64 x,.int .u64 y,.int .u64 c]=>Kc (0<=x/\0<=y/\0<=c/\c<=1) (.tup [.int .u64 ((x+y+c)%18446744073709551616),.int .u64 ((x+y+c)/18446744073709551616)])
 |_=>none
def DQ(neg:Bool)(ks:List Bool)(xs:List SV):Option Ef:=
 match xs with
 | [.agg xs,.agg ys]=>(Qu ks xs ys).bind fun(p,b)=>Kc p (.bool (match neg with|true=>!b|false=>b))
 |_=>none
def eff(hp:List HO)(nx:Nat)(o:VO)(xs:List SV):Option Ef:=
 match o with
 | .mov=>D6 xs
 | .not=>D9 xs
 | .neg=>D7 xs
 | .conv k=>DM k xs
 | .ext i=>DR i xs
 | .iface t=>DX t xs
 | .lenArr n=>D3 n xs
 | .and=>Mq .and xs
 | .or=>Mq .or xs
 | .alloc cs=>Xe (.box cs) (.ptr (nx) 0) True
 | .allocArr n size cs=>Xe (.own false size n (Jt size cs)) (.ptr (nx) 0) (YK cs=n*size)
 | .box=>Mr nx xs
 | .build zero pl=>(Z8 zero pl xs).bind fun(p,cs)=>Kc p (.agg cs)
 | .buildSlice size len zero pl=>(Z8 (Fy len zero) pl xs).bind fun(p,cs)=>
     Xe (.own false size len (Jt size cs)) (.own (nx) 0 len size) (p/\YK zero=size/\0<size)
 | .load agg size=>V2 hp agg size xs
 | .store size=>H1 hp size xs
 | .ari o=>DJ o xs
 | .cmp o=>DL o xs
 | .bit o=>DK o xs
 | .quo=>Ms false xs
 | .rem=>Ms true xs
 | .shl=>eSh true xs
 | .shr=>eSh false xs
 | .len=>DZ xs
 | .lenStr=>D5 xs
 | .min=>Mu false xs
 | .max=>Mu true xs
 | .fieldAddr off=>DU off xs
 | .field agg off size=>DS agg off size xs
 | .idxAddr size=>DV size xs
 | .idxArr n size=>Vk hp n size xs
 | .index agg n size=>DY agg n size xs
 | .slice size lo hi=>Bb size lo hi xs
 | .slice3 size=>Bc size xs
 | .sliceArr n size lo hi=>Hf hp n size lo hi xs
 | .make size bytes zero=>Mt nx size bytes zero xs
 | .append size bytes _=>Vj nx hp size bytes xs
 | .mkfn fn nf=>Kc True (.fn fn (YP nf xs) (YF nf xs))
 | .eqv neg ks=>DQ neg ks xs
 | .eqb neg=>DP neg xs
 | .isNil neg=>He hp neg xs
 | .addc=>Es xs
 | .nilCheck=>D8 xs
 | .idxStr=>DW xs
 | .eqStr neg=>DO neg xs
 | .mkSet=>match xs with
   | [.int _ _]=>Xe (.smap []) (.smp nx) True
   |_=>none
 | .setAdd=>Ba hp xs
 | .lenSet=>D4 hp xs
 |_=>none
def MP:List SV->List SV
 | []=>[]
 |_::l=> .junk::MP l
def G6(t0 t:Bool):Bool:=
 match t0 with
 |true=>t
 |false=>false
mutual
def JX(t0:Bool)(hp:List HO)(r:List SV->List SV):SV->SV
 | .agg cs=> .agg (Jw t0 hp r cs)
 | .tup cs=> .tup (Jw t0 hp r cs)
 | .iface t v=> .iface t (JX t0 hp r v)
 | .fn f a b=> .fn f (Jw t0 hp r a) (Jw t0 hp r b)
 | .vs t z m sz get=> .vs (G6 t0 t) z m sz fun k=>Jw t0 hp r (get k)
 | .xp t cs=> .xp (G6 t0 t) (Jw t0 hp r cs)
 | .ptr i off=>match Ys hp i with
   | .box cs=> .xp t0 (r (YF off cs))
   |_=> .junk
 | .own i lo m sz=>match Ys hp i with
   | .own z sz' _ get=>bif YJ sz sz' then .vs t0 z m sz fun k=>r (get (QE lo k))else .junk
   |_=> .junk
 | .elem i k off sz=>match Ys hp i with
   | .own _ sz' _ get=>bif YJ sz sz' then .xp t0 (r (YF off (get k)))else .junk
   |_=> .junk
 | .opt _ _=> .junk
 | .cut _=> .junk
 | .smp _=> .junk
 |v=>v
def Jw(t0:Bool)(hp:List HO)(r:List SV->List SV):List SV->List SV
 | []=>[]
 |x::l=>JX t0 hp r x::Jw t0 hp r l
end
def viewN(t0:Bool)(hp:List HO):Nat->List SV->List SV
 |0,l=>MP l
 |n+1,l=>Jw t0 hp (viewN t0 hp n) l
def JT(hp:List HO)(r:SV):SV:=JX true hp (viewN true hp 2) r
mutual
def shift(d:Nat):SV->SV
 | .agg cs=> .agg (X6 d cs)
 | .tup cs=> .tup (X6 d cs)
 | .iface t v=> .iface t (shift d v)
 | .fn f a b=> .fn f (X6 d a) (X6 d b)
 | .ptr i off=> .ptr (d+i) off
 | .own i lo m sz=> .own (d+i) lo m sz
 | .elem i k off sz=> .elem (d+i) k off sz
 | .smp i=> .smp (d+i)
 | .opt b v=> .opt b (shift d v)
 | .cut v=> .cut (shift d v)
 |v=>v
def X6(d:Nat):List SV->List SV
 | []=>[]
 |x::l=>shift d x::X6 d l
end
def Js(d:Nat):List HO->List HO
 | []=>[]
 | .box cs::l=> .box (X6 d cs)::Js d l
 | .own z sz n get::l=> .own z sz n (fun k=>X6 d (get k))::Js d l
 | .smap m::l=> .smap m::Js d l
 | .gone::l=> .gone::Js d l
inductive CRes:Type 1 where
 |fin (r:SV) (hs:List HO)
 |pre (p:Prop) (c:CRes)
 |imp (p:Prop) (c:CRes)
 |all (α:Type) (c:α->CRes)
 |ex (α:Type) (c:α->CRes)
def psd(o:VO)(xs:List SV):Option CRes:=
 match o with
 | .load false _=>match xs with
   | [.rcell C]=>some (.all Int fun v=> .imp (C v) (.fin (.int .i64 v) []))
   |_=>none
 | .store n=>match xs with
   | [.rcell C,.int .i64 v]=>some (.pre (n=1/\C v) (.fin .junk []))
   |_=>none
 | .mkMap kk=>match xs with
   | []=>some (.ex (List Int->Int->Prop) fun C=> .fin (.imap kk C) [])
   |_=>none
 | .mapGet kk=>match xs with
   | [.imap ks C,.agg cs]=>(UH kk cs).map fun(p,l)=> .pre (ks=kk/\p) (.all (Option Int) fun r=> .imp (∀v,r=some v->C l v) (.fin (.tup [.int .i64 (r.getD 0),.bool r.isSome]) []))
   |_=>none
 | .mapPut kk=>match xs with
   | [.imap ks C,.agg cs,.int .i64 v]=>(UH kk cs).map fun(p,l)=> .pre ((ks=kk/\p)/\C l v) (.fin .junk [])
   |_=>none
 |_=>none
structure Ctr where
 alias:Bool
 of:List SV->CRes
structure Env where
 ct:FuncId->Option Ctr
 fn:FuncId->Option VF
 meth:TypeId->String->Option FuncId
 lo:FuncId->Bool:=fun _=>false
inductive It:Type 1 where
 |code (c:VC)
 |ops (l:List VOp)
 |dops (l:List DOp)
 |dtr (t:DTr)
 |inBlock (id:Nat)
 |inScope
 |inLoop (I:S->Prop)
 |frame (dst:Option Nat) (res:List VR)
 |rfrm (res:List VR) (l:Nat) (ps:List Nat) (a b:VC) (j:Option VC)
 |rbeg
 |rend (dst:Option Nat)
 |res (g:Option Bool) (al:Bool) (dst:Option Nat) (c:CRes)
inductive PT:Type 1 where
 |go (K:List It)
 |jump (d:Option Nat) (K:List It)
 |no
def Fc(c:VC):List It->List It
 | []=>[]
 | .inLoop _::k=> .inLoop (fun _=>False)::Fc c k
 | .rfrm res l ps a b _::k=> .rfrm res l ps a b (some c)::k
 |x::k=>x::Fc c k
def ZO:List It->Option (Nat×List Nat×VC×VC)
 | .rfrm _ l ps a b none::_=>some (l,ps,a,b)
 | .inBlock _::k=>ZO k
 | .inScope::k=>ZO k
 | .inLoop _::k=>ZO k
 | .code _::k=>ZO k
 | .ops _::k=>ZO k
 |_=>none
def UJ:List It->Bool
 | .inBlock _::k=>UJ k
 | .inScope::k=>UJ k
 | .inLoop _::k=>UJ k
 | .code _::k=>UJ k
 | .ops _::k=>UJ k
 | .rbeg::_=>false
 | .rend _::_=>false
 |_=>true
def MO(d:Option Nat)(K:List It):Option (Nat×List Nat×VC×VC)->PT
 |some _=> .jump d K
 |none=> .no
def Qo(id:Nat):List It->PT
 | []=> .no
 | .inBlock j::k=>bif YJ j id then .go k else Qo id k
 | .inScope::k=>Qo id k
 | .inLoop _::k=>Qo id k
 | .code _::k=>Qo id k
 | .ops _::k=>Qo id k
 | .rend d::k=>MO d (Fc (.exit id) k) (ZO k)
 |_::_=> .no
def Qn:List It->PT
 | []=> .go []
 | .inBlock _::k=>Qn k
 | .inScope::k=>Qn k
 | .inLoop _::k=>Qn k
 | .code _::k=>Qn k
 | .ops _::k=>Qn k
 | .frame d r::k=> .go (.frame d r::k)
 | .rfrm res l ps a b j::k=> .go (.rfrm res l ps a b j::k)
 | .rend d::k=>MO d (Fc .ret k) (ZO k)
 |_::_=> .no
def AB(s:S):VR->Option (Prop×SV)
 | .tmp t=>some (True,Kr s.fr t)
 | .cell t agg size=>(V2 s.hp agg size [Kr s.fr t]).map fun e=>(e.pre,e.val)
def ZV(s:S):List VR->Option (Prop×List SV)
 | []=>some (True,[])
 |r::l=>(AB s r).bind fun(p,v)=>(ZV s l).map fun(q,vs)=>(p/\q,v::vs)
def GR:List SV->SV
 | [x]=>x
 |l=> .tup l
def EL(b:Bool)(pol:Bool):Bool:=match pol with|true=>b|false=>!b
def XK(v:SV)(pol:Bool):Option Bool:=
 match v with
 | .bool b=>some (EL b pol)
 | .opt c (.bool b)=>some (c&&EL b pol)
 |_=>none
def MV(P:Program)(t:TypeId)(m:String):Option FuncId:=
 (P.info? t).bind fun i=>(i.methods.find? (·.name==m)).bind fun r=>if r.path.isEmpty then match r.func with
   |some (f,false)=>match P.underlying t with
    |some (.pointer _)=>none
    |some _=>some f
    |none=>none
   |_=>none else none
mutual
def WT(i:Nat)(z:Bool)(sz:Nat)(get:Nat->List SV):SV->SV
 | .agg cs=> .agg (Wc i z sz get cs)
 | .tup cs=> .tup (Wc i z sz get cs)
 | .ptr j o=>bif YJ j i then .junk else .ptr j o
 | .own j lo n s=>bif YJ j i then(bif YJ s sz then .vs true z n s (fun k=>get (QE lo k))else .junk)else .own j lo n s
 | .elem j k o s=>bif YJ j i then .junk else .elem j k o s
 | .smp j=>bif YJ j i then .junk else .smp j
 | .fn f a b=> .fn f (Wc i z sz get a) (Wc i z sz get b)
 | .iface t v=> .iface t (WT i z sz get v)
 | .opt b v=> .opt b (WT i z sz get v)
 | .cut v=> .cut (WT i z sz get v)
 |v=>v
def Wc(i:Nat)(z:Bool)(sz:Nat)(get:Nat->List SV):List SV->List SV
 | []=>[]
 |x::l=>WT i z sz get x::Wc i z sz get l
end
def Bp(i:Nat)(z:Bool)(sz:Nat)(get:Nat->List SV):List (List SV)->List (List SV)
 | []=>[]
 |x::l=>Wc i z sz get x::Bp i z sz get l
def WS(i:Nat)(z:Bool)(sz:Nat)(get:Nat->List SV):List HO->List HO
 | []=>[]
 | .box cs::l=> .box (Wc i z sz get cs)::WS i z sz get l
 | .own z' s n g::l=> .own z' s n (fun k=>Wc i z sz get (g k))::WS i z sz get l
 | .smap m::l=> .smap m::WS i z sz get l
 | .gone::l=> .gone::WS i z sz get l
def MA(s:S)(i:Nat)(h:HO):S:=
 match h with
 | .own z sz _ get=>{ fr:=Wc i z sz get s.fr,saved:=Bp i z sz get s.saved,hp:=KL (WS i z sz get s.hp) i .gone}
 |_=>s
def EG(h:HO):Prop:=
 match h with
 | .own _ _ n get=> ∀k,k<n->QR (get k)=true
 |_=>True
def Br:List Nat->S->S
 | [],s=>s
 |i::l,s=>Br l (MA s i (Ys s.hp i))
def Bq:List Nat->S->Prop
 | [],_=>True
 |i::l,s=>EG (Ys s.hp i)/\Bq l (MA s i (Ys s.hp i))
mutual
def bnd(n:Nat):SV->Prop
 | .agg cs=>Jl n cs
 | .tup cs=>Jl n cs
 | .ptr i _=>i<n
 | .own i _ _ _=>i<n
 | .elem i _ _ _=>i<n
 | .smp i=>i<n
 | .fn _ a b=>Jl n a/\Jl n b
 | .iface _ v=>bnd n v
 | .opt _ v=>bnd n v
 | .cut v=>bnd n v
 |_=>True
def Jl(n:Nat):List SV->Prop
 | []=>True
 |x::l=>bnd n x/\Jl n l
end
mutual
def leX:SV->SV->Prop
 |_,.junk=>True
 | .int k x,.int k' y=>k=k'/\x=y
 | .bool a,.bool b=>a=b
 | .nil,.vs _ z l _ _=>z=true/\l=0
 | .agg cs,.agg ds=>QK cs ds
 | .tup cs,.tup ds=>QK cs ds
 | .vs t z l sz get,.vs t' z' l' sz' get'=>(t'=true->t=true)/\z=z'/\l=l'/\sz=sz'/\∀k,k<l->QK (get k) (get' k)
 | .xp t cs,.xp t' ds=>(t'=true->t=true)/\QK cs ds
 |a,b=>a=b
def QK:List SV->List SV->Prop
 | [],[]=>True
 |x::l,y::r=>leX x y/\QK l r
 |_,_=>False
end
mutual
def le(m n:Nat):SV->SV->Prop
 |_,.junk=>True
 | .int k x,.int k' y=>k=k'/\x=y
 | .bool a,.bool b=>a=b
 | .nil,.own i lo l _=>m<=i/\i<n/\lo=0/\l=0
 | .nil,.vs _ z l _ _=>z=true/\l=0
 | .agg cs,.agg ds=>leL m n cs ds
 | .tup cs,.tup ds=>leL m n cs ds
 | .vs t z l sz get,.vs t' z' l' sz' get'=>(t'=true->t=true)/\z=z'/\l=l'/\sz=sz'/\∀k,k<l->QK (get k) (get' k)
 | .own i lo l sz,.own i' lo' l' sz'=>i=i'/\lo=lo'/\l=l'/\sz=sz'/\i<n
 | .xp t cs,.xp t' ds=>(t'=true->t=true)/\QK cs ds
 |a,b=>a=b/\bnd n b
def leL(m n:Nat):List SV->List SV->Prop
 | [],[]=>True
 |x::l,y::r=>le m n x y/\leL m n l r
 |_,_=>False
end
def UI(m n:Nat):List (List SV)->List (List SV)->Prop
 | [],[]=>True
 |x::l,y::r=>leL m n x y/\UI m n l r
 |_,_=>False
def WC(m n:Nat):HO->HO->Prop
 | .box cs,.box ds=>leL m n cs ds
 | .own z sz l get,.own z' sz' l' get'=>z=z'/\sz=sz'/\l=l'/\∀k,k<l->leL m n (get k) (get' k)
 | .smap l,.smap l'=>l=l'
 | .gone,.gone=>True
 |_,_=>False
def leH(m n:Nat):List HO->List HO->Prop
 |_,[]=>True
 | [],.own z _ l _::r=>z=true/\l=0/\leH m n [] r
 | [],_::_=>False
 |x::l,y::r=>WC m n x y/\leH m n l r
def leS(s s':S):Prop:=
 leL (Yi s.hp) (Yi s'.hp) s.fr s'.fr/\UI (Yi s.hp) (Yi s'.hp) s.saved s'.saved/\leH (Yi s.hp) (Yi s'.hp) s.hp s'.hp
def leF(s s':S):Prop:=∃l,Bq l s/\leS (Br l s) s'
mutual
def Va(i n:Nat)(C:Nat->Int->Prop):SV->SV
 | .agg cs=> .agg (Wh i n C cs)
 | .tup cs=> .tup (Wh i n C cs)
 | .ptr j o=>bif YJ j i then .junk else .ptr j o
 | .own j lo m s=>bif YJ j i then(bif YJ lo 0&&(YJ m n&&YJ s 1)then .row n C else .junk)else .own j lo m s
 | .elem j k o s=>bif YJ j i then .junk else .elem j k o s
 | .smp j=>bif YJ j i then .junk else .smp j
 | .fn f a b=> .fn f (Wh i n C a) (Wh i n C b)
 | .iface t v=> .iface t (Va i n C v)
 | .opt b v=> .opt b (Va i n C v)
 | .cut v=> .cut (Va i n C v)
 |v=>v
def Wh(i n:Nat)(C:Nat->Int->Prop):List SV->List SV
 | []=>[]
 |x::l=>Va i n C x::Wh i n C l
end
def Am(i n:Nat)(C:Nat->Int->Prop):List (List SV)->List (List SV)
 | []=>[]
 |x::l=>Wh i n C x::Am i n C l
def W9(i n:Nat)(C:Nat->Int->Prop):List HO->List HO
 | []=>[]
 | .box cs::l=> .box (Wh i n C cs)::W9 i n C l
 | .own z' s m g::l=> .own z' s m (fun k=>Wh i n C (g k))::W9 i n C l
 | .smap m::l=> .smap m::W9 i n C l
 | .gone::l=> .gone::W9 i n C l
def Nk(s:S)(i n:Nat)(C:Nat->Int->Prop):S:=
 {fr:=Wh i n C s.fr,saved:=Am i n C s.saved,hp:=KL (W9 i n C s.hp) i .gone}
def Al(D:Int->Prop)(l:List SV):Prop:=
 match l with
 | [.int .i64 v]=>D v
 |_=>False
def Pe(n:Nat)(C:Nat->Int->Prop)(h:HO):Prop:=
 match h with
 | .own _ sz m get=>(sz=1/\m=n/\0<n)/\∀k,k<n->Al (C k) (get k)
 |_=>False
def Ao:List (Nat×Nat×(Nat->Int->Prop))->S->S
 | [],s=>s
 | (i,n,C)::l,s=>Ao l (Nk s i n C)
def An:List (Nat×Nat×(Nat->Int->Prop))->S->Prop
 | [],_=>True
 | (i,n,C)::l,s=>Pe n C (Ys s.hp i)/\An l (Nk s i n C)
def leP(s s':S):Prop:=∃l,An l s/\leF (Ao l s) s'
def Loop(r:List It->S->Prop)(body:VC)(K:List It)(s:S)(le:S->S->Prop):Prop:=
 ∃(σ:Type) (head:σ->S) (inv:σ->Prop) (μ:σ->Nat) (lf:S->S->Prop),(∀a b,lf a b->le a b)/\
  (∃x,inv x/\lf s (head x))/\∀x,inv x->r (.code body:: .inLoop (fun s'=> ∃y,inv y/\μ y<μ x/\lf s' (head y))::K) (head x)
def F4:Nat->List SV
 |0=>[]
 |n+1=> .junk::F4 n
def X1:Nat->List SV->List SV
 |n,[]=>F4 n
 |0,l=>l
 |n+1,x::l=>x::X1 n l
def C1(f:SV)(xs:List SV):Option (FuncId×List SV):=
 match f with
 | .fn (.func g) a b=>some (g,a++(xs++b))
 |_=>none
def C2(v:SV)(l:List SV):Option FuncId->Option (FuncId×List SV)
 |some f=>some (f,v::l)
 |none=>none
def callee(E:Env)(o:VO)(xs:List SV):Option (FuncId×List SV):=
 match o with
 | .call f=>some (f,xs)
 | .callv=>match xs with
   |f::l=>C1 f l
   | []=>none
 | .invoke m=>match xs with
   | .iface t v::l=>C2 v l (E.meth t m)
   |_=>none
 |_=>none
def BF(r:List It->S->Prop)(d:Option Nat)(xs:List SV)(K:List It)(s:S)(o:Option VF):Prop:=
 match o with
 |some vf=>r (.code vf.body:: .frame d vf.res::K) { fr:=X1 vf.ntmps xs,saved:=s.fr::s.saved,hp:=s.hp}
 |none=>False
def F8(E:Env)(r:List It->S->Prop)(d:Option Nat)(f:FuncId)(xs:List SV)(K:List It)(s:S)(o:Option Ctr):Prop:=
 match o with
 |some c=>(c.alias=true->QR xs=true)/\r (.res none c.alias d (c.of (viewN false s.hp 3 xs))::K) s
 |none=>BF r d xs K s (E.fn f)
def Gf(r:List It->S->Prop)(d:Option Nat)(K:List It)(s:S)(o:Option Ef):Prop:=
 match o with
 |some e=>e.pre/\r K ((s.upd e.upd).put d e.val)
 |none=>False
def Ni(r:List It->S->Prop)(d:Option Nat)(o:VO)(xs:List SV)(K:List It)(s:S)(c:Option CRes):Prop:=
 match c with
 |some c=>r (.res none false d c::K) s
 |none=>Gf r d K s (eff s.hp (Yi s.hp) o xs)
def VO.bad:VO->Bool
 | .mkSet| .setAdd| .lenSet=>true
 |_=>false
def Bg(r:List It->S->Prop)(d:Option Nat)(b:Bool)(K:List It)(s:S)(o:Option Ef):Prop:=
 match b with
 |true=>False
 |false=>Gf r d K s o
def Nh(r:List It->S->Prop)(d:Option Nat)(o:VO)(xs:List SV)(K:List It)(s:S)(c:Option CRes):Prop:=
 match c with
 |some c=>r (.res none false d c::K) s
 |none=>Bg r d o.bad K s (eff s.hp (Yi s.hp) o xs)
def yld(o:VO)(xs:List SV):Option (Nat×List SV):=
 match o with
 | .callv=>match xs with
   | .fn (.yield l) [] []::ys=>some (l,ys)
   |_=>none
 |_=>none
def GJ:List SV->List Nat->List SV->List SV
 |fr,p::ps,y::ys=>GJ (Kq fr p y) ps ys
 |fr,_,_=>fr
def Fd:List Nat->Nat
 | []=>0
 |_::l=>Fd l+1
def yK(r:List It->S->Prop)(d:Option Nat)(l:Nat)(ys:List SV)(K:List It)(s:S)(o:Option (Nat×List Nat×VC×VC))(sv:List (List SV)):Prop:=
 match o,sv with
 |some (l',ps,a,b),fr::_=>(l=l'/\YK ys=Fd ps)/\r (.code a:: .rbeg:: .code b:: .rend d::K) { fr:=GJ fr ps ys,saved:=s.fr::s.saved,hp:=s.hp}
 |_,_=>False
def FV(r:List It->S->Prop)(d:Option Nat)(o:VO)(xs:List SV)(K:List It)(s:S)(y:Option (Nat×List SV)):Prop:=
 match y with
 |some (l,ys)=>yK r d l ys K s (ZO K) s.saved
 |none=>Ni r d o xs K s (psd o xs)
def opK(E:Env)(r:List It->S->Prop)(d:Option Nat)(o:VO)(xs:List SV)(K:List It)(s:S)(c:Option (FuncId×List SV)):Prop:=
 match c with
 |some (f,ys)=>F8 E r d f ys K s (E.ct f)
 |none=>FV r d o xs K s (yld o xs)
def FB(E:Env)(r:List It->S->Prop)(d:Option Nat)(o:VO)(xs:List SV)(K:List It)(s:S):Prop:=
 opK E r d o xs K s (callee E o xs)
def Mw(r:List It->S->Prop)(gb:Bool)(d:Option Nat)(p:Prop)(K:List It)(s:S)(o:Option Ef):Prop:=
 match o with
 |some ⟨q,v,.no⟩=>p/\(gb=true->q)/\r K (s.put d (.opt gb v))
 |_=>False
def Bh(r:List It->S->Prop)(gb:Bool)(d:Option Nat)(p:Prop)(K:List It)(s:S)(o:Option Ef):Prop:=
 match o with
 |some ⟨q,v,.no⟩=>p/\(gb=true->q)/\r K (s.put d (.opt gb v))
 |none=>gb=false/\∃v:SV,r K (s.put d (.opt gb v))
 |_=>False
def F7(E:Env)(r:List It->S->Prop)(gb:Bool)(d:Option Nat)(o:VO)(p:Prop)(xs:List SV)(K:List It)(s:S)(c:Option (Ctr×List SV)):Prop:=
 match c with
 |some (c,ys)=>p/\(c.alias=true->QR ys=true)/\r (.res (some gb) c.alias d (c.of (viewN false s.hp 3 ys))::K) s
 |none=>p/\(gb=true->FB E r d o xs K s)/\(gb=false->r K (s.put d .junk))
def ctM(ys:List SV):Option Ctr->Option (Ctr×List SV)
 |some c=>some (c,ys)
 |none=>none
def ctI(E:Env)(v:SV)(l:List SV):Option FuncId->Option (Ctr×List SV)
 |some f=>ctM (v::l) (E.ct f)
 |none=>none
def Wy(E:Env)(o:VO)(xs:List SV):Option (Ctr×List SV):=
 match o with
 | .call f=>ctM xs (E.ct f)
 | .invoke m=>match xs with
   | .iface t v::l=>ctI E v l (E.meth t m)
   |_=>none
 |_=>none
def gK(E:Env)(r:List It->S->Prop)(gb:Bool)(d:Option Nat)(o:VO)(xs:Prop×List SV)(K:List It)(s:S)(q:Bool):Prop:=
 match q with
 |true=>Bh r gb d xs.1 K s (eff s.hp (Yi s.hp) o xs.2)
 |false=>F7 E r gb d o xs.1 xs.2 K s (Wy E o xs.2)
def EZ(E:Env)(r:List It->S->Prop)(d:Option Nat)(o:VO)(xs:List X)(K:List It)(s:S)(g:Option Bool):Prop:=
 match g with
 |some gb=>gK E r gb d o (Qh o gb (s.args xs)) K s o.quiet
 |none=>False
def Yol(r:List It->S->Prop)(al:Bool)(d:Option Nat)(K:List It)(s:S)(c:CRes):Prop:=
 match c with
 | .fin v hs=>r K (S.put { fr:=s.fr,saved:=s.saved,hp:=s.hp++Js (Yi s.hp) hs} d (shift (Yi s.hp) v))
 | .pre p c=>p/\r (.res none al d c::K) s
 | .imp p c=>p->r (.res none al d c::K) s
 | .all α c=> ∀x:α,r (.res none al d (c x)::K) s
 | .ex α c=> ∃x:α,r (.res none al d (c x)::K) s
def Yom(r:List It->S->Prop)(gb:Bool)(al:Bool)(d:Option Nat)(K:List It)(s:S)(c:CRes):Prop:=
 match c with
 | .fin v []=>r K (s.put d (.opt gb (shift (Yi s.hp) v)))
 | .pre p c=>(gb=true->p)/\r (.res (some gb) al d c::K) s
 | .ex α c=> ∃x:α,r (.res (some gb) al d (c x)::K) s
 |_=>False
def ED(r:List It->S->Prop)(d:Option Nat)(K:List It)(hp:List HO)(v:Option (Prop×List SV))(sv:List (List SV)):Prop:=
 match v,sv with
 |some (p,vs),fr::sv=>p/\r K (S.put { fr:=fr,saved:=sv,hp:=hp} d (GR vs))
 |_,_=>False
def Ee(r:List It->S->Prop)(a b:VC)(K:List It)(s:S)(v:SV):Prop:=
 match v with
 | .bool c=>(c=true->r (.code a::K) s)/\(c=false->r (.code b::K) s)
 |_=>False
def Fw(r:List It->S->Prop)(d:Option Nat)(b:Bool)(K:List It)(hp:List HO)(sv:List (List SV)):Prop:=
 match sv with
 |fr::sv=>r K (S.put { fr:=fr,saved:=sv,hp:=hp} d (.bool b))
 | []=>False
def E6(j:Option VC)(K:List It):List It:=
 match j with
 |some c=> .code c::K
 |none=>K
def Pr(r:List It->S->Prop)(j:Option VC)(K:List It)(hp:List HO)(v:Option (Prop×List SV))(sv:List (List SV)):Prop:=
 match v,sv with
 |some (p,_),fr::sv=>p/\r (E6 j K) { fr:=fr,saved:=sv,hp:=hp}
 |_,_=>False
def H2(r:List It->S->Prop)(s:S)(K:PT):Prop:=
 match K with
 | .go K'=>r K' s
 | .jump d K'=>Fw r d false K' s.hp s.saved
 | .no=>False
def Ax(r:List It->S->Prop)(ps:List Nat)(a b:VC)(K:List It)(s:S)(us cs:List SV)(o:Option VF):Prop:=
 match o with
 |some vf=>UJ K=true/\∀l:Nat,r (.code vf.body:: .rfrm vf.res l ps a b none::K) { fr:=X1 vf.ntmps (us++(.fn (.yield l) [] []::cs)),saved:=s.fr::s.saved,hp:=s.hp}
 |none=>False
def Ay(E:Env)(r:List It->S->Prop)(ps:List Nat)(a b:VC)(K:List It)(s:S)(f:SV):Prop:=
 match f with
 | .fn (.func g) us cs=>Ax r ps a b K s us cs (E.fn g)
 |_=>False
def blk:SV->Option Nat
 | .ptr i _=>some i
 | .elem i _ _ _=>some i
 | .own i _ _ _=>some i
 | .cut v=>blk v
 |_=>none
def FI:SV->SV
 | .opt _ v=>v
 |v=>v
def CG(a b:Option Nat):Prop:=
 match a with
 |some i=>match b with
  |some j=>i≠j
  |none=>True
 |none=>True
def HM(x y:SV):Prop:=CG (blk (FI x)) (blk y)
def Mc(s:S)(y:SV):List X->Prop
 | []=>True
 |x::l=>HM (s.x x) y/\Mc s y l
def P2:SV->Bool
 | .junk=>false
 |_=>true
def LC(x:SV)(b:Option Nat):Prop:=
 match b with
 |some i=>Ku i x=false/\P2 x=true
 |none=>True
def MY(x y:SV):Prop:=LC x (blk y)
def Mb(s:S)(y:SV):List X->Prop
 | []=>True
 |x::l=>MY (s.x x) y/\Mb s y l
def U9(ap:Bool)(s:S)(y:SV)(l:List X):Prop:=
 match ap with
 |false=>Mc s y l
 |true=>Mb s y l
def AL.ho:AL->HO
 | .box z=> .box z
 | .arr n size z=> .own false size n (Jt size z)
def Ug:S->List (Nat×AL)->S
 |s,[]=>s
 |s,(d,z)::l=>Ug ((s.upd (.new z.ho)).put (some d) (.ptr (Yi s.hp) 0)) l
def dq(r:List It->S->Prop)(d:Option Nat)(K:List It)(s:S)(o:Option Ef):Prop:=
 match o with
 |some ⟨p,v,.no⟩=>p/\r K (s.put d v)
 |_=>False
def Hx:List It->List It
 | .dops _::K=>Hx K
 | .dtr _::K=>Hx K
 |K=>K
def TG(r:List It->S->Prop)(body:VC)(d:Option Nat)(res:List VR)(s1:S)(K:List It):Prop:=
 ∃B:S->Prop,r (.code body:: .frame d res:: .inLoop B::Hx K) s1/\∀s',B s'->r K s'
def Mm(r:List It->S->Prop)(d:Option Nat)(ys:List SV)(K:List It)(s:S)(o:VO)(b:Bool)(v:Option VF):Prop:=
 match o with
 | .call _=>match b with
   |true=>match v with
    |some vf=>TG r vf.body d vf.res { fr:=X1 vf.ntmps ys,saved:=s.fr::s.saved,hp:=s.hp} K
    |none=>False
   |false=>False
 |_=>False
def dct(E:Env)(r:List It->S->Prop)(d:Option Nat)(f:FuncId)(o:VO)(ys:List SV)(K:List It)(s:S)(c:Option Ctr):Prop:=
 match c with
 |some c=>(c.alias=true->QR ys=true)/\r (.res none c.alias d (c.of (viewN false s.hp 3 ys))::K) s
 |none=>Mm r d ys K s o (E.lo f) (E.fn f)
def dcl(E:Env)(r:List It->S->Prop)(d:Option Nat)(o:VO)(xs:List SV)(K:List It)(s:S)(c:Option (FuncId×List SV)):Prop:=
 match c with
 |some (f,ys)=>dct E r d f o ys K s (E.ct f)
 |none=>Nh r d o xs K s (psd o xs)
def dpl(E:Env)(r:List It->S->Prop)(d:Option Nat)(o:VO)(xs:List SV)(K:List It)(s:S)(q:Bool):Prop:=
 match q with
 |true=>dq r d K s (eff s.hp (Yi s.hp) o xs)
 |false=>dcl E r d o xs K s (callee E o xs)
def DA(r:List It->S->Prop)(gb:Bool)(d:Option Nat)(p:Prop)(K:List It)(s:S)(c:Option (Ctr×List SV)):Prop:=
 match c with
 |some (c,ys)=>p/\(c.alias=true->QR ys=true)/\r (.res (some gb) c.alias d (c.of (viewN false s.hp 3 ys))::K) s
 |none=>False
def dgq(E:Env)(r:List It->S->Prop)(gb:Bool)(d:Option Nat)(o:VO)(xs:Prop×List SV)(K:List It)(s:S)(q:Bool):Prop:=
 match q with
 |true=>Mw r gb d xs.1 K s (eff s.hp (Yi s.hp) o xs.2)
 |false=>DA r gb d xs.1 K s (Wy E o xs.2)
def dgd(E:Env)(r:List It->S->Prop)(d:Option Nat)(o:VO)(xs:List X)(K:List It)(s:S)(g:Option Bool):Prop:=
 match g with
 |some gb=>dgq E r gb d o (Qh o gb (s.args xs)) K s o.quiet
 |none=>False
def dop(E:Env)(r:List It->S->Prop)(v:VOp)(K:List It)(s:S):Prop:=
 match v.g with
 |none=>dpl E r v.dst v.op (s.args v.xs) K s v.op.quiet
 |some (g,pol)=>dgd E r v.dst v.op v.xs K s (XK (Kr s.fr g) pol)
def Yoi(E:Env)(r:List It->S->Prop)(l:List DOp)(K:List It)(s:S):Prop:=
 match l with
 | []=>r K s
 | ⟨v,chk⟩::l=>U9 v.op.isAppend s (s.x (Xh v.xs)) chk/\dop E r v (.dops l::K) s
def Yoj(r:List It->S->Prop)(t:DTr)(K:List It)(s:S):Prop:=
 match t with
 | .leaf=>r K s
 | .ops l t=>r (.dops l:: .dtr t::K) s
 | .br a b=>r (.dtr a::K) s/\r (.dtr b::K) s
def Ex(Q:SV->List HO->Prop)(hp:List HO)(v:Option (Prop×List SV)):Prop:=
 match v with
 |some (p,vs)=>p/\Q (GR vs) hp
 |none=>False
def Yok(E:Env)(r:List It->S->Prop)(l:List VOp)(K:List It)(s:S):Prop:=
 match l with
 | []=>r K s
 |o::l=>match o.g with
  |none=>FB E r o.dst o.op (s.args o.xs) (.ops l::K) s
  |some (g,pol)=>EZ E r o.dst o.op o.xs (.ops l::K) s (XK (Kr s.fr g) pol)
def Yog(E:Env)(r:List It->S->Prop)(c:VC)(K:List It)(s:S):Prop:=
 match c with
 | .skip=>r K s
 | .region l=>r (.ops l::K) s
 | .draw al l=>r (.dops l::K) (Ug s al)
 | .drawT al t=>r (.dtr t::K) (Ug s al)
 | .rangeFn g ps a b=>Ay E r ps a b K s (s.x g)
 | .seq a b=>r (.code a:: .code b::K) s
 | .cond x a b=>Ee r a b K s (s.x x)
 | .block i c=>r (.code c:: .inBlock i::K) s
 | .scope c=>r (.code c:: .inScope::K) s
 | .loop c=>Loop r c K s leP
 | .exit i=>H2 r s (Qo i K)
 | .ret=>H2 r s (Qn K)
 | .stuck=>False
def step(E:Env)(Q:SV->List HO->Prop)(GU:List VR)(r:List It->S->Prop)(K:List It)(s:S):Prop:=
 match K with
 | []=>Ex Q s.hp (ZV s GU)
 |x::K=>match x with
  | .ops l=>Yok E r l K s
  | .dops l=>Yoi E r l K s
  | .dtr t=>Yoj r t K s
  | .rfrm res _ _ _ _ j=>Pr r j K s.hp (ZV s res) s.saved
  | .rbeg=>r K s
  | .rend d=>Fw r d true K s.hp s.saved
  | .inBlock _=>r K s
  | .inScope=>r K s
  | .inLoop I=>I s
  | .frame d res=>ED r d K s.hp (ZV s res) s.saved
  | .res none al d c=>Yol r al d K s c
  | .res (some gb) al d c=>Yom r gb al d K s c
  | .code c=>Yog E r c K s
def run(E:Env)(Q:SV->List HO->Prop)(GU:List VR):Nat->List It->S->Prop
 |0,_,_=>False
 |n+1,K,s=>step E Q GU (run E Q GU n) K s
section rules
variable (E:Env) (Q:SV->List HO->Prop) (vr:List VR) (n:Nat) (K:List It) (s:S) (r:List It->S->Prop)
theorem Ya9:run E Q vr (n+1) [] s=Ex Q s.hp (ZV s vr):=rfl
theorem Ymf(hp:List HO)(p:Prop)(vs:List SV):Ex Q hp (some (p,vs))=(p/\Q (GR vs) hp):=rfl
theorem Yms:run E Q vr (n+1) (.ops []::K) s=run E Q vr n K s:=rfl
theorem Ybc(d:Option Nat)(o:VO)(xs:List X)(l:List VOp):run E Q vr (n+1) (.ops (⟨d,none,o,xs⟩::l)::K) s=opK E (run E Q vr n) d o (s.args xs) (.ops l::K) s (callee E o (s.args xs)):=rfl
theorem Ybd(d:Option Nat)(g:Nat)(pol:Bool)(o:VO)(xs:List X)(l:List VOp):run E Q vr (n+1) (.ops (⟨d,some (g,pol),o,xs⟩::l)::K) s=EZ E (run E Q vr n) d o xs (.ops l::K) s (XK (Kr s.fr g) pol):=rfl
theorem YmH(d:Option Nat)(o:VO)(xs:List SV):FB E r d o xs K s=opK E r d o xs K s (callee E o xs):=rfl
theorem Ymt(d:Option Nat)(o:VO)(xs:List SV):opK E r d o xs K s none=FV r d o xs K s (yld o xs):=rfl
theorem YmP(d:Option Nat)(o:VO)(xs:List SV):FV r d o xs K s none=Ni r d o xs K s (psd o xs):=rfl
theorem Ymx(d:Option Nat)(o:VO)(xs:List SV):Ni r d o xs K s none=Gf r d K s (eff s.hp (Yi s.hp) o xs):=rfl
theorem Ymy(d:Option Nat)(o:VO)(xs:List SV)(c:CRes):Ni r d o xs K s (some c)=r (.res none false d c::K) s:=rfl
theorem YmQ(d:Option Nat)(o:VO)(xs ys:List SV)(l:Nat):FV r d o xs K s (some (l,ys))=yK r d l ys K s (ZO K) s.saved:=rfl
theorem r_y(d:Option Nat)(l l':Nat)(ys fr:List SV)(ps:List Nat)(a b:VC)(sv:List (List SV)):yK r d l ys K s (some (l',ps,a,b)) (fr::sv)=((l=l'/\YK ys=Fd ps)/\r (.code a:: .rbeg:: .code b:: .rend d::K) { fr:=GJ fr ps ys,saved:=s.fr::s.saved,hp:=s.hp}):=rfl
theorem YmD:run E Q vr (n+1) (.rbeg::K) s=run E Q vr n K s:=rfl
theorem Ybf(d:Option Nat):run E Q vr (n+1) (.rend d::K) s=Fw (run E Q vr n) d true K s.hp s.saved:=rfl
theorem YmF(d:Option Nat)(b:Bool)(hp:List HO)(fr:List SV)(sv:List (List SV)):Fw r d b K hp (fr::sv)=r K (S.put { fr:=fr,saved:=sv,hp:=hp} d (.bool b)):=rfl
theorem Ybh(res:List VR)(l:Nat)(ps:List Nat)(a b:VC)(j:Option VC):run E Q vr (n+1) (.rfrm res l ps a b j::K) s=Pr (run E Q vr n) j K s.hp (ZV s res) s.saved:=rfl
theorem YmG(j:Option VC)(hp:List HO)(p:Prop)(vs fr:List SV)(sv:List (List SV)):Pr r j K hp (some (p,vs)) (fr::sv)=(p/\r (E6 j K) { fr:=fr,saved:=sv,hp:=hp}):=rfl
theorem Ybe(g:X)(ps:List Nat)(a b:VC):run E Q vr (n+1) (.code (.rangeFn g ps a b)::K) s=Ay E (run E Q vr n) ps a b K s (s.x g):=rfl
theorem YmC(ps:List Nat)(a b:VC)(g:FuncId)(us cs:List SV):Ay E r ps a b K s (.fn (.func g) us cs)=Ax r ps a b K s us cs (E.fn g):=rfl
theorem YmB(ps:List Nat)(a b:VC)(us cs:List SV)(nt:Nat)(res:List VR)(body:VC):Ax r ps a b K s us cs (some ⟨nt,res,body⟩)=(UJ K=true/\∀l:Nat,r (.code body:: .rfrm res l ps a b none::K) { fr:=X1 nt (us++(.fn (.yield l) [] []::cs)),saved:=s.fr::s.saved,hp:=s.hp}):=rfl
theorem Yl6(al:List (Nat×AL))(l:List DOp):run E Q vr (n+1) (.code (.draw al l)::K) s=run E Q vr n (.dops l::K) (Ug s al):=rfl
theorem Yl7(al:List (Nat×AL))(t:DTr):run E Q vr (n+1) (.code (.drawT al t)::K) s=run E Q vr n (.dtr t::K) (Ug s al):=rfl
theorem YmN:run E Q vr (n+1) (.dtr .leaf::K) s=run E Q vr n K s:=rfl
theorem YmO(l:List DOp)(t:DTr):run E Q vr (n+1) (.dtr (.ops l t)::K) s=run E Q vr n (.dops l:: .dtr t::K) s:=rfl
theorem YmM(a b:DTr):run E Q vr (n+1) (.dtr (.br a b)::K) s=(run E Q vr n (.dtr a::K) s/\run E Q vr n (.dtr b::K) s):=rfl
theorem YnF(y:SV)(l:List X):U9 false s y l=Mc s y l:=rfl
theorem YnG(y:SV)(l:List X):U9 true s y l=Mb s y l:=rfl
theorem Yl0:run E Q vr (n+1) (.dops []::K) s=run E Q vr n K s:=rfl
theorem Yl1(d:Option Nat)(o:VO)(xs:List X)(chk:List X)(l:List DOp):run E Q vr (n+1) (.dops (⟨⟨d,none,o,xs⟩,chk⟩::l)::K) s=(U9 o.isAppend s (s.x (Xh xs)) chk/\dpl E (run E Q vr n) d o (s.args xs) (.dops l::K) s o.quiet):=rfl
theorem Yl2(d:Option Nat)(g:Nat)(pol:Bool)(o:VO)(xs:List X)(chk:List X)(l:List DOp):run E Q vr (n+1) (.dops (⟨⟨d,some (g,pol),o,xs⟩,chk⟩::l)::K) s=(U9 o.isAppend s (s.x (Xh xs)) chk/\dgd E (run E Q vr n) d o xs (.dops l::K) s (XK (Kr s.fr g) pol)):=rfl
theorem Yl4(d:Option Nat)(o:VO)(xs:List SV):dpl E r d o xs K s true=dq r d K s (eff s.hp (Yi s.hp) o xs):=rfl
theorem Yl3(d:Option Nat)(o:VO)(xs:List SV):dpl E r d o xs K s false=dcl E r d o xs K s (callee E o xs):=rfl
theorem r_dq(d:Option Nat)(p:Prop)(v:SV):dq r d K s (some ⟨p,v,.no⟩)=(p/\r K (s.put d v)):=rfl
theorem Yl5(d:Option Nat):dq r d K s none=False:=rfl
theorem YlR(d:Option Nat)(o:VO)(xs ys:List SV)(f:FuncId):dcl E r d o xs K s (some (f,ys))=dct E r d f o ys K s (E.ct f):=rfl
theorem YlQ(d:Option Nat)(o:VO)(xs:List SV):dcl E r d o xs K s none=Nh r d o xs K s (psd o xs):=rfl
theorem Ymz(d:Option Nat)(o:VO)(xs:List SV):Nh r d o xs K s none=Bg r d o.bad K s (eff s.hp (Yi s.hp) o xs):=rfl
theorem YmA(d:Option Nat)(o:VO)(xs:List SV)(c:CRes):Nh r d o xs K s (some c)=r (.res none false d c::K) s:=rfl
theorem Yma(d:Option Nat)(o:Option Ef):Bg r d false K s o=Gf r d K s o:=rfl
theorem YlT(d:Option Nat)(f:FuncId)(o:VO)(ys:List SV)(al:Bool)(c:List SV->CRes):dct E r d f o ys K s (some ⟨al,c⟩)=((al=true->QR ys=true)/\r (.res none al d (c (viewN false s.hp 3 ys))::K) s):=rfl
theorem YlS(d:Option Nat)(f:FuncId)(o:VO)(ys:List SV):dct E r d f o ys K s none=Mm r d ys K s o (E.lo f) (E.fn f):=rfl
theorem YlY(d:Option Nat)(f:FuncId)(ys:List SV)(nt:Nat)(res:List VR)(body:VC):Mm r d ys K s (.call f) true (some ⟨nt,res,body⟩)=TG r body d res { fr:=X1 nt ys,saved:=s.fr::s.saved,hp:=s.hp} K:=rfl
theorem YlZ(d:Option Nat)(f:FuncId)(ys:List SV)(v:Option VF):Mm r d ys K s (.call f) false v=False:=rfl
theorem YlV(d:Option Nat)(o:VO)(xs:List X)(gb:Bool):dgd E r d o xs K s (some gb)=dgq E r gb d o (Qh o gb (s.args xs)) K s o.quiet:=rfl
theorem YlX(gb:Bool)(d:Option Nat)(o:VO)(p:Prop)(xs:List SV):dgq E r gb d o (p,xs) K s true=Mw r gb d p K s (eff s.hp (Yi s.hp) o xs):=rfl
theorem YlW(gb:Bool)(d:Option Nat)(o:VO)(p:Prop)(xs:List SV):dgq E r gb d o (p,xs) K s false=DA r gb d p K s (Wy E o xs):=rfl
theorem YlU(gb:Bool)(d:Option Nat)(p:Prop)(xs:List SV)(al:Bool)(c:List SV->CRes):DA r gb d p K s (some (⟨al,c⟩,xs))=(p/\(al=true->QR xs=true)/\r (.res (some gb) al d (c (viewN false s.hp 3 xs))::K) s):=rfl
theorem Ymu(d:Option Nat)(o:VO)(xs ys:List SV)(f:FuncId):opK E r d o xs K s (some (f,ys))=F8 E r d f ys K s (E.ct f):=rfl
theorem Yl8(d:Option Nat)(p:Prop)(v:SV)(u:Upd):Gf r d K s (some ⟨p,v,u⟩)=(p/\r K ((s.upd u).put d v)):=rfl
theorem Yl9(d:Option Nat):Gf r d K s none=False:=rfl
theorem YlL(d:Option Nat)(f:FuncId)(xs:List SV)(al:Bool)(c:List SV->CRes):F8 E r d f xs K s (some ⟨al,c⟩)=((al=true->QR xs=true)/\r (.res none al d (c (viewN false s.hp 3 xs))::K) s):=rfl
theorem YlM(d:Option Nat)(f:FuncId)(xs:List SV):F8 E r d f xs K s none=BF r d xs K s (E.fn f):=rfl
theorem Ymq(d:Option Nat)(xs:List SV)(nt:Nat)(res:List VR)(b:VC):BF r d xs K s (some ⟨nt,res,b⟩)=r (.code b:: .frame d res::K) { fr:=X1 nt xs,saved:=s.fr::s.saved,hp:=s.hp}:=rfl
theorem r_g(d:Option Nat)(o:VO)(xs:List X)(gb:Bool):EZ E r d o xs K s (some gb)=gK E r gb d o (Qh o gb (s.args xs)) K s o.quiet:=rfl
theorem r_gq(gb:Bool)(d:Option Nat)(o:VO)(p:Prop)(xs:List SV):gK E r gb d o (p,xs) K s true=Bh r gb d p K s (eff s.hp (Yi s.hp) o xs):=rfl
theorem r_gc(gb:Bool)(d:Option Nat)(o:VO)(p:Prop)(xs:List SV):gK E r gb d o (p,xs) K s false=F7 E r gb d o p xs K s (Wy E o xs):=rfl
theorem Ymb(gb:Bool)(d:Option Nat)(p q:Prop)(v:SV):Mw r gb d p K s (some ⟨q,v,.no⟩)=(p/\(gb=true->q)/\r K (s.put d (.opt gb v))):=rfl
theorem Ymd(gb:Bool)(d:Option Nat)(p q:Prop)(v:SV):Bh r gb d p K s (some ⟨q,v,.no⟩)=(p/\(gb=true->q)/\r K (s.put d (.opt gb v))):=rfl
theorem Yme(gb:Bool)(d:Option Nat)(p:Prop):Bh r gb d p K s none=(gb=false/\∃v:SV,r K (s.put d (.opt gb v))):=rfl
theorem Ymc(gb:Bool)(d:Option Nat)(p:Prop):Mw r gb d p K s none=False:=rfl
theorem YlN(gb:Bool)(d:Option Nat)(o:VO)(p:Prop)(xs ys:List SV)(al:Bool)(c:List SV->CRes):F7 E r gb d o p xs K s (some (⟨al,c⟩,ys))=(p/\(al=true->QR ys=true)/\r (.res (some gb) al d (c (viewN false s.hp 3 ys))::K) s):=rfl
theorem YlO(gb:Bool)(d:Option Nat)(o:VO)(p:Prop)(xs:List SV):F7 E r gb d o p xs K s none=(p/\(gb=true->FB E r d o xs K s)/\(gb=false->r K (s.put d .junk))):=rfl
theorem Ymj(al:Bool)(d:Option Nat)(v:SV)(hs:List HO):run E Q vr (n+1) (.res none al d (.fin v hs)::K) s=(run E Q vr n K (S.put { fr:=s.fr,saved:=s.saved,hp:=s.hp++Js (Yi s.hp) hs} d (shift (Yi s.hp) v))):=rfl
theorem Ymv(al:Bool)(d:Option Nat)(p:Prop)(c:CRes):run E Q vr (n+1) (.res none al d (.pre p c)::K) s=(p/\run E Q vr n (.res none al d c::K) s):=rfl
theorem Ymm(al:Bool)(d:Option Nat)(p:Prop)(c:CRes):run E Q vr (n+1) (.res none al d (.imp p c)::K) s=(p->run E Q vr n (.res none al d c::K) s):=rfl
theorem YlJ(al:Bool)(d:Option Nat)(α:Type)(c:α->CRes):run E Q vr (n+1) (.res none al d (.all α c)::K) s=(∀x:α,run E Q vr n (.res none al d (c x)::K) s):=rfl
theorem r_ex(al:Bool)(d:Option Nat)(α:Type)(c:α->CRes):run E Q vr (n+1) (.res none al d (.ex α c)::K) s=(∃x:α,run E Q vr n (.res none al d (c x)::K) s):=rfl
theorem Ymk(gb al:Bool)(d:Option Nat)(v:SV):run E Q vr (n+1) (.res (some gb) al d (.fin v [])::K) s=(run E Q vr n K (s.put d (.opt gb (shift (Yi s.hp) v)))):=rfl
theorem Ymw(gb al:Bool)(d:Option Nat)(p:Prop)(c:CRes):run E Q vr (n+1) (.res (some gb) al d (.pre p c)::K) s=((gb=true->p)/\run E Q vr n (.res (some gb) al d c::K) s):=rfl
theorem Ymg(gb al:Bool)(d:Option Nat)(α:Type)(c:α->CRes):run E Q vr (n+1) (.res (some gb) al d (.ex α c)::K) s=(∃x:α,run E Q vr n (.res (some gb) al d (c x)::K) s):=rfl
theorem Ymn(i:Nat):run E Q vr (n+1) (.inBlock i::K) s=run E Q vr n K s:=rfl
theorem Ymp:run E Q vr (n+1) (.inScope::K) s=run E Q vr n K s:=rfl
theorem YmI(c:VC):run E Q vr (n+1) (.code (.scope c)::K) s=run E Q vr n (.code c:: .inScope::K) s:=rfl
theorem Ymo(I:S->Prop):run E Q vr (n+1) (.inLoop I::K) s=I s:=rfl
theorem Ybb(d:Option Nat)(res:List VR):run E Q vr (n+1) (.frame d res::K) s=ED (run E Q vr n) d K s.hp (ZV s res) s.saved:=rfl
theorem Yml(d:Option Nat)(hp:List HO)(p:Prop)(vs fr:List SV)(sv:List (List SV)):ED r d K hp (some (p,vs)) (fr::sv)=(p/\r K (S.put { fr:=fr,saved:=sv,hp:=hp} d (GR vs))):=rfl
theorem YmK:run E Q vr (n+1) (.code .skip::K) s=run E Q vr n K s:=rfl
theorem YmL:run E Q vr (n+1) (.code .stuck::K) s=False:=rfl
theorem YmE(l:List VOp):run E Q vr (n+1) (.code (.region l)::K) s=run E Q vr n (.ops l::K) s:=rfl
theorem YmJ(a b:VC):run E Q vr (n+1) (.code (.seq a b)::K) s=run E Q vr n (.code a:: .code b::K) s:=rfl
theorem Ya8(x:X)(a b:VC):run E Q vr (n+1) (.code (.cond x a b)::K) s=Ee (run E Q vr n) a b K s (s.x x):=rfl
theorem YlP(a b:VC)(c:Bool):Ee r a b K s (.bool c)=((c=true->r (.code a::K) s)/\(c=false->r (.code b::K) s)):=rfl
theorem YlK(i:Nat)(c:VC):run E Q vr (n+1) (.code (.block i c)::K) s=run E Q vr n (.code c:: .inBlock i::K) s:=rfl
theorem Yba(i:Nat):run E Q vr (n+1) (.code (.exit i)::K) s=H2 (run E Q vr n) s (Qo i K):=rfl
theorem Ymh(K':List It):H2 r s (.go K')=r K' s:=rfl
theorem Ymi(d:Option Nat)(K':List It):H2 r s (.jump d K')=Fw r d false K' s.hp s.saved:=rfl
theorem Ybg:run E Q vr (n+1) (.code .ret::K) s=H2 (run E Q vr n) s (Qn K):=rfl
theorem Ymr(c:VC):run E Q vr (n+1) (.code (.loop c)::K) s=Loop (run E Q vr n) c K s leP:=rfl
theorem YnD:s.args []=[]:=rfl
theorem YnE(x:X)(l:List X):s.args (x::l)=s.x x::s.args l:=rfl
theorem s_xt(i:Nat):s.x (.tm i)=Kr s.fr i:=rfl
theorem s_xc(v:SV):s.x (.cn v)=v:=rfl
end rules
end Go.Vx
namespace Go.Vx
open Go.RowKit
inductive BK where
 |gone|nil|blk (b cap n:Nat)
def JD(bs:List BK)(b:Nat):Prop:=∀(i b' c n:Nat),bs[i]? =some (.blk b' c n)->b'≠b
def Jo(kk:List IntKind)(l:List Int):Value:= .agg ((kk.zip l).map fun p=> .int p.1 p.2).toArray
def IK.ok:IK->Obj->Prop
 | .ints n C,o=> ∃vs T,o= .cells vs T (0,0)/\n<=vs.size/\∀k,k<n->∃v,vs[k]? =some (.int .i64 v)/\C k v
 | .map kk C,o=> ∃es clock,o= .map es clock/\∀e∈es.toList,∃l v,l.length=kk.length/\e.key=Jo kk l/\e.val= .int .i64 v/\C l v
structure Bd where
 n:Nat
 F:Nat->Prop
 I:Nat->Option IK
 up:∀b,n<=b->I b=none->F b
 ex:∀b,F b->I b=none
instance :Coe Bd Nat:=⟨Bd.n⟩
def Fr(B:Bd)(bs:List BK)(b:Nat):Prop:=JD bs b/\B.F b
theorem V4{b:Nat}:JD [] b:=fun _ _ _ _ h=>by simp at h
def Cells(w:World)(b off:Nat)(l:List Value):Prop:=
 ∃cs T fz,w.heap[b]? =some (.cells cs T fz)/\∀(j:Nat)(v:Value),l[j]? =some v->cs[off+j]? =some v
mutual
inductive XRep (w:World) (bs:List BK) (B:Bd):SV->Value->Prop where
 |int (k:IntKind) (n:Int):XRep w bs B (.int k n) (.int k n)
 |bool (b:Bool):XRep w bs B (.bool b) (.bool b)
 |val (v:Value):XRep w bs B (.val v) v
 |nil:XRep w bs B .nil (.slice none 0 0)
 |junk (v:Value):XRep w bs B .junk v
 |agg (cs:List SV) (vs:List Value) (h:XRepL w bs B cs vs):XRep w bs B (.agg cs) (.agg vs.toArray)
 |tup (cs:List SV) (vs:List Value) (h:XRepL w bs B cs vs):XRep w bs B (.tup cs) (.tuple vs.toArray)
 |fn (f:Fn) (fs cs:List SV) (us vs:List Value) (h:XRepL w bs B fs us) (h':XRepL w bs B cs vs):XRep w bs B (.fn f fs cs) (.func f us.toArray vs.toArray)
 |iface (t:TypeId) (x:SV) (v:Value) (h:XRep w bs B x v):XRep w bs B (.iface t x) (.iface t v)
 |vs (t z:Bool) (n size:Nat) (get:Nat->List SV) (a:Option Addr) (cap:Nat) (vals:Nat->List Value) (hz:z=a.isNone) (hc:n<=cap) (hn:a=none->n=0/\cap=0)
   (hcell:∀k,k<n->∃ad,a=some ad/\ad.spot=none/\Fr B bs ad.block/\(t=true->B<=ad.block)/\(vals k).length=size/\Cells w ad.block (ad.off+k*size) (vals k))
   (h:∀k,k<n->XRepL w bs B (get k) (vals k)):XRep w bs B (.vs t z n size get) (.slice a n cap)
 |xp (t:Bool) (cs:List SV) (ad:Addr) (vals:List Value) (hs:ad.spot=none) (hf:Fr B bs ad.block) (ht:t=true->B<=ad.block) (hc:Cells w ad.block ad.off vals)
   (h:XRepL w bs B cs vals):XRep w bs B (.xp t cs) (.pointer (some ad))
 |row (n:Nat) (C:Nat->Int->Prop) (b cap:Nat) (h:B.I b=some (.ints n C)) (hc:n<=cap):XRep w bs B (.row n C) (.slice (some ⟨b,0,none⟩) n cap)
 |rcell (D:Int->Prop) (n:Nat) (C:Nat->Int->Prop) (k b:Nat) (hD:D=C k) (h:B.I b=some (.ints n C)) (hk:k<n):XRep w bs B (.rcell D) (.pointer (some ⟨b,k,none⟩))
 |imap (kk:List IntKind) (C:List Int->Int->Prop) (b:Nat) (h:B.I b=some (.map kk C)):XRep w bs B (.imap kk C) (.map (some b))
inductive XRepL (w:World) (bs:List BK) (B:Bd):List SV->List Value->Prop where
 |nil:XRepL w bs B [] []
 |cons (x:SV) (v:Value) (l:List SV) (vs:List Value) (h:XRep w bs B x v) (h':XRepL w bs B l vs):XRepL w bs B (x::l) (v::vs)
end
mutual
inductive Rep (w:World) (bs:List BK) (B:Bd):SV->Value->Prop where
 |x (s:SV) (v:Value) (h:XRep w bs B s v):Rep w bs B s v
 |agg (cs:List SV) (vs:List Value) (h:RepL w bs B cs vs):Rep w bs B (.agg cs) (.agg vs.toArray)
 |tup (cs:List SV) (vs:List Value) (h:RepL w bs B cs vs):Rep w bs B (.tup cs) (.tuple vs.toArray)
 |fn (f:Fn) (fs cs:List SV) (us vs:List Value) (h:RepL w bs B fs us) (h':RepL w bs B cs vs):Rep w bs B (.fn f fs cs) (.func f us.toArray vs.toArray)
 |iface (t:TypeId) (x:SV) (v:Value) (h:Rep w bs B x v):Rep w bs B (.iface t x) (.iface t v)
 |ptr (i off b n:Nat) (h:bs[i]? =some (.blk b n n)):Rep w bs B (.ptr i off) (.pointer (some ⟨b,off,none⟩))
 |own (i lo n size b cap m:Nat) (ad:Addr) (h:bs[i]? =some (.blk b cap m)) (hl:lo+n<=m) (ha:ad=⟨b,lo*size,none⟩\/(cap=lo/\0<lo)):Rep w bs B (.own i lo n size) (.slice (some ad) n (cap-lo))
 |ownNil (i size:Nat) (h:bs[i]? =some .nil):Rep w bs B (.own i 0 0 size) (.slice none 0 0)
 |elem (i k off size b cap m:Nat) (h:bs[i]? =some (.blk b cap m)) (hk:k<m):Rep w bs B (.elem i k off size) (.pointer (some ⟨b,k*size+off,none⟩))
 |smp (i b:Nat) (h:bs[i]? =some (.blk b 0 0)):Rep w bs B (.smp i) (.map (some b))
 |optT (x:SV) (v:Value) (h:Rep w bs B x v):Rep w bs B (.opt true x) v
 |optF (x:SV):Rep w bs B (.opt false x) undef
 |cut (x:SV) (a:Option Addr) (n cap:Nat) (h:Rep w bs B x (.slice a n cap)):Rep w bs B (.cut x) (.slice a n n)
inductive RepL (w:World) (bs:List BK) (B:Bd):List SV->List Value->Prop where
 |nil:RepL w bs B [] []
 |cons (x:SV) (v:Value) (l:List SV) (vs:List Value) (h:Rep w bs B x v) (h':RepL w bs B l vs):RepL w bs B (x::l) (v::vs)
end
inductive RepLL (w:World) (bs:List BK) (B:Bd):List (List SV)->List (List Value)->Prop where
 |nil:RepLL w bs B [] []
 |cons (x:List SV) (v:List Value) (l:List (List SV)) (vs:List (List Value)) (h:RepL w bs B x v) (h':RepLL w bs B l vs):RepLL w bs B (x::l) (v::vs)
def HRep(w:World)(bs:List BK)(B:Bd)(i:Nat):HO->Prop
 | .gone=>bs[i]? =some .gone\/bs[i]? =none
 | .box cs=> ∃b vs T,bs[i]? =some (.blk b 0 0)/\w.heap[b]? =some (.cells vs T (0,0))/\RepL w bs B cs vs.toList
 | .smap l=> ∃b es clock,bs[i]? =some (.blk b 0 0)/\w.heap[b]? =some (.map es clock)/\∃ks:List ByteArray,es.toList.map (·.key)=ks.map .string/\ks.map (·.data.toList)=l/\l.Nodup
 | .own z size n get=>(bs[i]? =some .nil/\z=true/\n=0)\/
     ∃b cap vs T,bs[i]? =some (.blk b cap n)/\z=false/\w.heap[b]? =some (.cells vs T (0,0))/\vs.size=cap*size/\n<=cap/\
      ∀k,k<n->RepL w bs B (get k) ((vs.toList.drop (k*size)).take size)
structure Hp (w:World) (bs:List BK) (B:Bd) (hp:List HO):Prop where
 len:bs.length=Yi hp
 ent:∀i,HRep w bs B i (Ys hp i)
 inj:∀(i j b c n c' n':Nat),bs[i]? =some (.blk b c n)->bs[j]? =some (.blk b c' n')->i=j
 lo:∀(i b c n:Nat),bs[i]? =some (.blk b c n)->B<=b/\b<w.heap.size
 reg:∀(b:Nat)(K:IK),B.I b=some K->JD bs b/\∃o,w.heap[b]? =some o/\K.ok o
theorem Hp.un{w:World}{bs:List BK}{B:Bd}{hp:List HO}(h:Hp w bs B hp){i b c n:Nat}(hb:bs[i]? =some (.blk b c n)):B.I b=none:=by
 cases hI:B.I b with
 |none=>rfl
 |some K=>exact absurd rfl ((h.reg b K hI).1 i b c n hb)
structure BelowI (B:Bd) (w w':World):Prop where
 os:w'.os=w.os
 tape:w'.tape=w.tape
 output:w'.output=w.output
 size:w.heap.size<=w'.heap.size
 block:∀k,k<B.n->B.I k=none->w'.heap[k]? =w.heap[k]?
structure Cx0 extends World where
 F:Nat->Prop
 I:Nat->Option IK
 up:∀b,heap.size<=b->I b=none->F b
 ex:∀b,F b->I b=none
def Cx0.bd(c:Cx0):Bd:=⟨c.heap.size,c.F,c.I,c.up,c.ex⟩
structure Ext (c:Cx0) (J:Nat->Option IK):Prop where
 old:∀b,b<c.heap.size->J b=c.I b
 sub:∀b K,c.I b=some K->J b=some K
def Cx0.wI(c:Cx0)(J:Nat->Option IK)(h:Ext c J):Cx0:=
 {toWorld:=c.toWorld,F:=fun b=>c.F b/\J b=none,I:=J,ex:=fun _ hb=>hb.2,
  up:=fun b hb hJ=>⟨c.up b hb (by cases hI:c.I b with|none=>rfl|some K=>rw[h.sub b K hI]at hJ;cases hJ),hJ⟩}
structure Cx extends Cx0 where
 ks:List (Nat×Obj)
def W3(D:Nat):Deferred:={ target:= .collected D,args:= #[]}
def isLp:Obj->Bool
 | .loop _=>true
 |_=>false
structure Oth (w:World) (bs:List BK) (B:Bd) (ks:List (Nat×Obj)) (as:List (List Deferred)):Prop where
 kn:∀x∈ks,B<=x.1/\JD bs x.1/\w.heap[x.1]? =some x.2/\isLp x.2=true
 nd:(ks.map (·.1)).Nodup
 ms:∃mss:List (List Nat),as=mss.map (·.map W3)/\mss.flatten.Nodup/\∀D∈mss.flatten,B<=D/\JD bs D/\w.heap[D]? =some (.deferred (some []))
def Rel(w0:Cx)(as:List (List Deferred))(s:S)(tmps:List Value)(saved:List (List Value))(w:World):Prop:=
 ∃bs,RepL w bs w0.bd s.fr tmps/\RepLL w bs w0.bd s.saved saved/\Hp w bs w0.bd s.hp/\BelowI w0.bd w0.toWorld w/\Oth w bs w0.bd w0.ks as
def Keeps(w:World)(bs:List BK)(w':World)(bs':List BK):Prop:=
 ∀b,JD bs b->∀o,w.heap[b]? =some o->w'.heap[b]? =some o/\JD bs' b
section
variable {w w':World} {bs bs':List BK} {B:Bd}
def KeepsC(w:World)(bs:List BK)(w':World)(bs':List BK):Prop:=
 ∀b,JD bs b->∀cs T fz,w.heap[b]? =some (.cells cs T fz)->w'.heap[b]? =some (.cells cs T fz)/\JD bs' b
theorem Keeps.c(h:Keeps w bs w' bs'):KeepsC w bs w' bs':=fun b hf _ _ _ ho=>h b hf _ ho
theorem Oth.keep{ks:List (Nat×Obj)}{as:List (List Deferred)}(hk:Keeps w bs w' bs')(h:Oth w bs B ks as):Oth w' bs' B ks as:=by
 refine⟨fun x hx=>?_,h.nd,?_⟩
 ·obtain⟨h1,h2,h3,h4⟩:=h.kn x hx
  exact⟨h1,(hk _ h2 _ h3).2,(hk _ h2 _ h3).1,h4⟩
 ·obtain⟨mss,h1,h2,h3⟩:=h.ms
  refine⟨mss,h1,h2,fun D hD=>?_⟩
  obtain⟨k1,k2,k3⟩:=h3 D hD
  exact⟨k1,(hk _ k2 _ k3).2,(hk _ k2 _ k3).1⟩
theorem Cells.keep{b off:Nat}{l:List Value}(hk:KeepsC w bs w' bs')(hf:JD bs b)(h:Cells w b off l):Cells w' b off l/\JD bs' b:=by
 obtain⟨cs,T,fz,h1,h2⟩:=h
 obtain⟨h3,h4⟩:=hk b hf _ _ _ h1
 exact⟨⟨cs,T,fz,h3,h2⟩,h4⟩
structure ZG (w:World) (bs:List BK) (B:Bd) (w':World) (bs':List BK) (B':Bd):Prop where
 n:B'.n=B.n
 I:∀b K,B.I b=some K->B'.I b=some K
 c:∀b,Fr B bs b->∀cs T fz,w.heap[b]? =some (.cells cs T fz)->w'.heap[b]? =some (.cells cs T fz)/\Fr B' bs' b
theorem KeepsC.g(h:KeepsC w bs w' bs'):ZG w bs B w' bs' B:=⟨rfl,fun _ _ h=>h,fun b hf cs T fz ho=>⟨(h b hf.1 cs T fz ho).1,(h b hf.1 cs T fz ho).2,hf.2⟩⟩
theorem Cells.keepG{B B':Bd}{b off:Nat}{l:List Value}(hk:ZG w bs B w' bs' B')(hf:Fr B bs b)(h:Cells w b off l):Cells w' b off l/\Fr B' bs' b:=by
 obtain⟨cs,T,fz,h1,h2⟩:=h
 obtain⟨h3,h4⟩:=hk.c b hf _ _ _ h1
 exact⟨⟨cs,T,fz,h3,h2⟩,h4⟩
mutual
theorem XRep.keepG{B B':Bd}(hk:ZG w bs B w' bs' B'):∀{s:SV}{v:Value},XRep w bs B s v->XRep w' bs' B' s v
 |_,_,.int k n=> .int k n
 |_,_,.bool b=> .bool b
 |_,_,.val v=> .val v
 |_,_,.nil=> .nil
 |_,_,.junk v=> .junk v
 |_,_,.agg cs vs h=> .agg cs vs (XRepL.keepG hk h)
 |_,_,.tup cs vs h=> .tup cs vs (XRepL.keepG hk h)
 |_,_,.fn f fs cs us vs h h'=> .fn f fs cs us vs (XRepL.keepG hk h) (XRepL.keepG hk h')
 |_,_,.iface t x v h=> .iface t x v (XRep.keepG hk h)
 |_,_,.vs t z n size get a cap vals hz hc hn hcell h=> .vs t z n size get a cap vals hz hc hn
   (fun k hkn=>by
     obtain⟨ad,h1,h2,h3,h4,h5,h6⟩:=hcell k hkn
     obtain⟨h7,h8⟩:=h6.keepG hk h3
     exact⟨ad,h1,h2,h8,fun ht=>by rw[hk.n];exact h4 ht,h5,h7⟩)
   (fun k hkn=>XRepL.keepG hk (h k hkn))
 |_,_,.xp t cs ad vals hs hf ht hc h=> .xp t cs ad vals hs (hc.keepG hk hf).2 (fun h=>by rw[hk.n];exact ht h) (hc.keepG hk hf).1 (XRepL.keepG hk h)
 |_,_,.row n C b cap h hc=> .row n C b cap (hk.I _ _ h) hc
 |_,_,.rcell D n C k b hD h hkn=> .rcell D n C k b hD (hk.I _ _ h) hkn
 |_,_,.imap kk C b h=> .imap kk C b (hk.I _ _ h)
theorem XRepL.keepG{B B':Bd}(hk:ZG w bs B w' bs' B'):∀{l:List SV}{vs:List Value},XRepL w bs B l vs->XRepL w' bs' B' l vs
 |_,_,.nil=> .nil
 |_,_,.cons x v l vs h h'=> .cons x v l vs (XRep.keepG hk h) (XRepL.keepG hk h')
end
theorem XRep.keepC(hk:KeepsC w bs w' bs'){s:SV}{v:Value}(h:XRep w bs B s v):XRep w' bs' B s v:=h.keepG hk.g
theorem XRepL.keepC(hk:KeepsC w bs w' bs'){l:List SV}{vs:List Value}(h:XRepL w bs B l vs):XRepL w' bs' B l vs:=XRepL.keepG hk.g h
theorem Vz(hk:Keeps w bs w' bs')(h:∀(b:Nat) (K:IK),B.I b=some K->JD bs b/\∃o,w.heap[b]? =some o/\K.ok o):∀(b:Nat)(K:IK),B.I b=some K->JD bs' b/\∃o,w'.heap[b]? =some o/\K.ok o:=by
 intro b K hI
 obtain⟨h1,o,h2,h3⟩:=h b K hI
 exact⟨(hk b h1 o h2).2,o,(hk b h1 o h2).1,h3⟩
theorem BelowI.refl(B:Bd)(w:World):BelowI B w w:=⟨rfl,rfl,rfl,Yt _,fun _ _ _=>rfl⟩
theorem BelowI.trans{B:Bd}{a b c:World}(h:BelowI B a b)(k:BelowI B b c):BelowI B a c:=
 ⟨k.os.trans h.os,k.tape.trans h.tape,k.output.trans h.output,Yh h.size k.size,fun i hi hI=>(k.block i hi hI).trans (h.block i hi hI)⟩
theorem BelowI.of{B:Bd}{w w':World}(h:Below B.n w w'):BelowI B w w':=⟨h.os,h.tape,h.output,h.size,fun k hk _=>h.block k hk⟩
def Stays(e:Option Nat)(bs bs':List BK):Prop:=∀(i:Nat)(x:BK),e≠some i->bs[i]? =some x->x≠ .gone->bs'[i]? =some x
def BY(e:Option Nat)(s:SV):Prop:=∀i,e=some i->Ku i s=false
def BZ(e:Option Nat)(s:List SV):Prop:=∀i,e=some i->Vy i s=false
theorem XG{i j:Nat}(h:YJ i j=false):i≠j:=Nat.ne_of_beq_eq_false h
mutual
theorem Rep.keepG{e:Option Nat}{B B':Bd}(hk:ZG w bs B w' bs' B')(hb:Stays e bs bs'):∀{s:SV}{v:Value},Rep w bs B s v->BY e s->Rep w' bs' B' s v
 |_,_,.x s v h,_=> .x s v (h.keepG hk)
 |_,_,.agg cs vs h,hn=> .agg cs vs (RepL.keepG hk hb h (fun i hi=>by have:=hn i hi;simpa [Ku]using this))
 |_,_,.tup cs vs h,hn=> .tup cs vs (RepL.keepG hk hb h (fun i hi=>by have:=hn i hi;simpa [Ku]using this))
 |_,_,.fn f fs cs us vs h h',hn=> .fn f fs cs us vs (RepL.keepG hk hb h (fun i hi=>by have:=hn i hi;simp [Ku]at this;exact this.1))
   (RepL.keepG hk hb h' (fun i hi=>by have:=hn i hi;simp [Ku]at this;exact this.2))
 |_,_,.iface t x v h,hn=> .iface t x v (Rep.keepG hk hb h (fun i hi=>by have:=hn i hi;simpa [Ku]using this))
 |_,_,.ptr i off b n h,hn=> .ptr i off b n (hb i _ (fun he=>by have:=XG (hn i he);exact this rfl) h (by simp))
 |_,_,.own i lo n size b cap m ad h hl ha,hn=> .own i lo n size b cap m ad (hb i _ (fun he=>by have:=XG (hn i he);exact this rfl) h (by simp)) hl ha
 |_,_,.ownNil i size h,hn=> .ownNil i size (hb i _ (fun he=>by have:=XG (hn i he);exact this rfl) h (by simp))
 |_,_,.elem i k off size b cap m h hkm,hn=> .elem i k off size b cap m (hb i _ (fun he=>by have:=XG (hn i he);exact this rfl) h (by simp)) hkm
 |_,_,.smp i b h,hn=> .smp i b (hb i _ (fun he=>by have:=XG (hn i he);exact this rfl) h (by simp))
 |_,_,.optT x v h,hn=> .optT x v (Rep.keepG hk hb h (fun i hi=>by have:=hn i hi;simpa [Ku]using this))
 |_,_,.optF x,_=> .optF x
 |_,_,.cut x a n cap h,hn=> .cut x a n cap (Rep.keepG hk hb h (fun i hi=>by have:=hn i hi;simpa [Ku]using this))
theorem RepL.keepG{e:Option Nat}{B B':Bd}(hk:ZG w bs B w' bs' B')(hb:Stays e bs bs'):∀{l:List SV}{vs:List Value},RepL w bs B l vs->BZ e l->RepL w' bs' B' l vs
 |_,_,.nil,_=> .nil
 |_,_,.cons x v l vs h h',hn=> .cons x v l vs (Rep.keepG hk hb h (fun i hi=>by have:=hn i hi;simp [Vy]at this;exact this.1))
   (RepL.keepG hk hb h' (fun i hi=>by have:=hn i hi;simp [Vy]at this;exact this.2))
end
theorem Rep.keepC{e:Option Nat}(hk:KeepsC w bs w' bs')(hb:Stays e bs bs'){s:SV}{v:Value}(h:Rep w bs B s v)(hn:BY e s):Rep w' bs' B s v:=h.keepG hk.g hb hn
theorem RepL.keepC{e:Option Nat}(hk:KeepsC w bs w' bs')(hb:Stays e bs bs'){l:List SV}{vs:List Value}(h:RepL w bs B l vs)(hn:BZ e l):RepL w' bs' B l vs:=RepL.keepG hk.g hb h hn
theorem B3{s:SV}:BY none s:=fun _ h=>by cases h
theorem JA{s:List SV}:BZ none s:=fun _ h=>by cases h
theorem RepLL.keepG{B B':Bd}(hk:ZG w bs B w' bs' B')(hb:Stays none bs bs'):∀{l:List (List SV)}{vs:List (List Value)},RepLL w bs B l vs->RepLL w' bs' B' l vs
 |_,_,.nil=> .nil
 |_,_,.cons x v l vs h h'=> .cons x v l vs (h.keepG hk hb JA) (RepLL.keepG hk hb h')
theorem RepLL.keepC(hk:KeepsC w bs w' bs')(hb:Stays none bs bs'){l:List (List SV)}{vs:List (List Value)}(h:RepLL w bs B l vs):RepLL w' bs' B l vs:=RepLL.keepG hk.g hb h
theorem XRep.keep(hk:Keeps w bs w' bs'){s:SV}{v:Value}(h:XRep w bs B s v):XRep w' bs' B s v:=h.keepC hk.c
theorem XRepL.keep(hk:Keeps w bs w' bs'){l:List SV}{vs:List Value}(h:XRepL w bs B l vs):XRepL w' bs' B l vs:=XRepL.keepC hk.c h
theorem Rep.keep{e:Option Nat}(hk:Keeps w bs w' bs')(hb:Stays e bs bs'){s:SV}{v:Value}(h:Rep w bs B s v)(hn:BY e s):Rep w' bs' B s v:=h.keepC hk.c hb hn
theorem RepL.keep{e:Option Nat}(hk:Keeps w bs w' bs')(hb:Stays e bs bs'){l:List SV}{vs:List Value}(h:RepL w bs B l vs)(hn:BZ e l):RepL w' bs' B l vs:=RepL.keepC hk.c hb h hn
theorem RepLL.keep(hk:Keeps w bs w' bs')(hb:Stays none bs bs'){l:List (List SV)}{vs:List (List Value)}(h:RepLL w bs B l vs):RepLL w' bs' B l vs:=RepLL.keepC hk.c hb h
theorem XRep.int_inv{k:IntKind}{n:Int}{v:Value}(h:XRep w bs B (.int k n) v):v= .int k n:=by cases h;rfl
theorem Rep.int_inv{k:IntKind}{n:Int}{v:Value}(h:Rep w bs B (.int k n) v):v= .int k n:=by cases h with|x _ _ h=>cases h;rfl
theorem Rep.bool_inv{b:Bool}{v:Value}(h:Rep w bs B (.bool b) v):v= .bool b:=by cases h with|x _ _ h=>cases h;rfl
theorem Rep.val_inv{u v:Value}(h:Rep w bs B (.val u) v):v=u:=by cases h with|x _ _ h=>cases h;rfl
theorem Rep.nil_inv{v:Value}(h:Rep w bs B .nil v):v= .slice none 0 0:=by cases h with|x _ _ h=>cases h;rfl
mutual
theorem XRepL.rep:∀{l:List SV}{vs:List Value},XRepL w bs B l vs->RepL w bs B l vs
 |_,_,.nil=> .nil
 |_,_,.cons x v l vs h h'=> .cons x v l vs (.x x v h) (XRepL.rep h')
end
theorem Rep.agg_inv{cs:List SV}{v:Value}(h:Rep w bs B (.agg cs) v):∃vs:List Value,v= .agg vs.toArray/\RepL w bs B cs vs:=by
 cases h with
 |x _ _ h=>cases h with|agg _ vs h=>exact⟨vs,rfl,h.rep⟩
 |agg _ vs h=>exact⟨vs,rfl,h⟩
theorem Rep.tup_inv{cs:List SV}{v:Value}(h:Rep w bs B (.tup cs) v):∃vs:List Value,v= .tuple vs.toArray/\RepL w bs B cs vs:=by
 cases h with
 |x _ _ h=>cases h with|tup _ vs h=>exact⟨vs,rfl,h.rep⟩
 |tup _ vs h=>exact⟨vs,rfl,h⟩
theorem Rep.fn_inv{f:Fn}{a c:List SV}{v:Value}(h:Rep w bs B (.fn f a c) v):∃us vs:List Value,v= .func f us.toArray vs.toArray/\RepL w bs B a us/\RepL w bs B c vs:=by
 cases h with
 |x _ _ h=>cases h with|fn _ _ _ us vs h h'=>exact⟨us,vs,rfl,h.rep,h'.rep⟩
 |fn _ _ _ us vs h h'=>exact⟨us,vs,rfl,h,h'⟩
theorem Rep.iface_inv{t:TypeId}{x:SV}{v:Value}(h:Rep w bs B (.iface t x) v):∃u,v= .iface t u/\Rep w bs B x u:=by
 cases h with
 |x _ _ h=>cases h with|iface _ _ u h=>exact⟨u,rfl,.x _ _ h⟩
 |iface _ _ u h=>exact⟨u,rfl,h⟩
theorem Rep.ptr_inv{i off:Nat}{v:Value}(h:Rep w bs B (.ptr i off) v):∃b n,bs[i]? =some (.blk b n n)/\v= .pointer (some ⟨b,off,none⟩):=by
 cases h with
 |x _ _ h=>cases h
 |ptr _ _ b n h=>exact⟨b,n,h,rfl⟩
theorem Rep.smp_inv{i:Nat}{v:Value}(h:Rep w bs B (.smp i) v):∃b,bs[i]? =some (.blk b 0 0)/\v= .map (some b):=by
 cases h with
 |x _ _ h=>cases h
 |smp _ b h=>exact⟨b,h,rfl⟩
theorem Rep.rcell_inv{D:Int->Prop}{v:Value}(h:Rep w bs B (.rcell D) v):∃n C k b,D=C k/\B.I b=some (.ints n C)/\k<n/\v= .pointer (some ⟨b,k,none⟩):=by
 cases h with
 |x _ _ h=>cases h with|rcell _ n C k b hD h hk=>exact⟨n,C,k,b,hD,h,hk,rfl⟩
theorem Rep.imap_inv{kk:List IntKind}{C:List Int->Int->Prop}{v:Value}(h:Rep w bs B (.imap kk C) v):∃b,B.I b=some (.map kk C)/\v= .map (some b):=by
 cases h with
 |x _ _ h=>cases h with|imap _ _ b h=>exact⟨b,h,rfl⟩
theorem Rep.elem_inv{i k off size:Nat}{v:Value}(h:Rep w bs B (.elem i k off size) v):∃b c n,bs[i]? =some (.blk b c n)/\v= .pointer (some ⟨b,k*size+off,none⟩)/\k<n:=by
 cases h with
 |x _ _ h=>cases h
 |elem _ _ _ _ b c n h hk=>exact⟨b,c,n,h,rfl,hk⟩
theorem RepL.cons_inv{x:SV}{l:List SV}{vs:List Value}(h:RepL w bs B (x::l) vs):∃v vs',vs=v::vs'/\Rep w bs B x v/\RepL w bs B l vs':=by
 cases h with|cons _ v _ vs h h'=>exact⟨v,vs,rfl,h,h'⟩
theorem RepL.nil_inv{vs:List Value}(h:RepL w bs B [] vs):vs=[]:=by cases h;rfl
theorem RepL.length:∀{l:List SV}{vs:List Value},RepL w bs B l vs->YK l=vs.length
 |_,_,.nil=>rfl
 |_,_,.cons x v l vs h h'=>by simp [YK,RepL.length h']
theorem RepL.get:∀{l:List SV}{vs:List Value}(_:RepL w bs B l vs)(n:Nat){d:Value},Rep w bs B (Kr l n) (vs.getD n d)
 |_,_,.nil,n,d=>by cases n <;> exact .x _ _ (.junk _)
 |_,_,.cons x v l vs h h',0,d=>by simpa [Kr]using h
 |_,_,.cons x v l vs h h',n+1,d=>by simpa [Kr]using RepL.get h' n (d:=d)
theorem RepL.get?:∀{l:List SV}{vs:List Value}(_:RepL w bs B l vs)(n:Nat),n<YK l->∃v,vs[n]? =some v/\Rep w bs B (Kr l n) v
 |_,_,.nil,n,h=>by simp [YK]at h
 |_,_,.cons x v l vs h h',0,_=>⟨v,rfl,h⟩
 |_,_,.cons x v l vs h h',n+1,hn=>by
  obtain⟨u,h1,h2⟩:=RepL.get? h' n (by simpa [YK]using hn)
  exact⟨u,by simpa using h1,h2⟩
theorem RepL.set:∀{l:List SV}{vs:List Value}(_:RepL w bs B l vs)(n:Nat){x:SV}{v:Value},Rep w bs B x v->RepL w bs B (Kq l n x) (vs.set n v)
 |_,_,.nil,n,x,v,_=>by cases n <;> exact .nil
 |_,_,.cons _ _ l vs _ h',0,x,v,hx=> .cons _ _ _ _ hx h'
 |_,_,.cons y u l vs h h',n+1,x,v,hx=> .cons _ _ _ _ h (RepL.set h' n hx)
theorem RepL.take:∀{l:List SV}{vs:List Value}(_:RepL w bs B l vs)(n:Nat),RepL w bs B (YP n l) (vs.take n)
 |_,_,_,0=>by simp only[YP,List.take_zero];exact .nil
 |_,_,.nil,n+1=>by simp only[YP,List.take_nil];exact .nil
 |_,_,.cons x v l vs h h',n+1=>by simp only[YP,List.take_succ_cons];exact .cons _ _ _ _ h (RepL.take h' n)
theorem RepL.drop:∀{l:List SV}{vs:List Value}(_:RepL w bs B l vs)(n:Nat),RepL w bs B (YF n l) (vs.drop n)
 |_,_,h,0=>by simpa only[YF,List.drop_zero]using h
 |_,_,.nil,n+1=>by simp only[YF,List.drop_nil];exact .nil
 |_,_,.cons x v l vs h h',n+1=>by simp only[YF,List.drop_succ_cons];exact RepL.drop h' n
theorem RepL.append:∀{l r:List SV}{vs us:List Value},RepL w bs B l vs->RepL w bs B r us->RepL w bs B (l++r) (vs++us)
 |_,_,_,_,.nil,h=>h
 |_,_,_,_,.cons x v l vs h h',hr=> .cons _ _ _ _ h (RepL.append h' hr)
def JH(cs:List Value)(off:Nat)(vs:List Value):List Value:=cs.take off++vs++cs.drop (off+vs.length)
theorem RepL.splice:∀{l:List SV}{cs:List Value}(_:RepL w bs B l cs)(off:Nat){xs:List SV}{vs:List Value}(_:RepL w bs B xs vs),off+YK xs<=YK l->
 RepL w bs B (J6 l off xs) (JH cs off vs)
 |l,_,h,0,_,_,.nil,_=>by cases l <;> simpa [J6,JH]using h
 |_,_,.nil,0,_,_,.cons ..,hl=>by simp [YK]at hl
 |_,_,.cons x v l cs h h',0,_,_,.cons y u xs vs hy hx,hl=>by
  have:=RepL.splice h' 0 hx (by simpa [YK]using hl)
  simpa [J6,JH]using RepL.cons y u _ _ hy (by simpa [JH]using this)
 |_,_,.nil,n+1,_,_,hx,hl=>by simp [YK]at hl
 |_,_,.cons x v l cs h h',n+1,xs,vs,hx,hl=>by
  have:=RepL.splice h' n hx (by simp [YK]at hl⊢;omega)
  have e:n+1+vs.length=(n+vs.length)+1:=by omega
  simpa [J6,JH,e]using RepL.cons x v _ _ h (by simpa [JH]using this)
theorem XRepL.length:∀{l:List SV}{vs:List Value},XRepL w bs B l vs->YK l=vs.length
 |_,_,.nil=>rfl
 |_,_,.cons x v l vs h h'=>by simp [YK,XRepL.length h']
theorem XRepL.drop:∀{l:List SV}{vs:List Value}(_:XRepL w bs B l vs)(n:Nat),XRepL w bs B (YF n l) (vs.drop n)
 |_,_,h,0=>by simpa only[YF,List.drop_zero]using h
 |_,_,.nil,n+1=>by simp only[YF,List.drop_nil];exact .nil
 |_,_,.cons x v l vs h h',n+1=>by simp only[YF,List.drop_succ_cons];exact XRepL.drop h' n
theorem Hp.le{hp:List HO}{i b cap m:Nat}(h:Hp w bs B hp)(hb:bs[i]? =some (.blk b cap m)):m<=cap:=by
 have hent:=h.ent i
 cases hg:Ys hp i with
 |gone=>rw[hg]at hent;rcases hent with h|h <;> rw[hb]at h <;> cases h
 |box cs=>rw[hg]at hent;obtain⟨_,_,_,h,_⟩:=hent;rw[hb]at h;cases h;exact Yt _
 |smap l=>rw[hg]at hent;obtain⟨_,_,_,h,_⟩:=hent;rw[hb]at h;cases h;exact Yt _
 |own z s n' g=>
  rw[hg]at hent
  rcases hent with⟨h,_⟩ | ⟨_,_,_,_,h,_,_,_,h5,_⟩
  ·rw[hb]at h;cases h
  ·rw[hb]at h;cases h;exact h5
end
end Go.Vx
namespace Go.Vx
open Go.RowKit
section
variable {P:Program} {ρ:Operand->Value} {w:World} {bs:List BK} {B:Bd} {hp:List HO} {nx:Nat}
def QOk(P:Program)(ρ:Operand->Value)(op:Op)(w:World)(bs:List BK)(B:Bd)(e:Ef):Prop:=
 e.upd= .no/\∃v,(∀dst type pos after guard,(execOp ρ ⟨dst,op,type,pos,after,guard⟩).run P w= .ok (.value v) w)/\Rep w bs B e.val v
theorem Ko{p:Prop}{v:SV}{e:Ef}(h:Kc p v=some e):e=⟨p,v,.no⟩:=by
 simp only[Kc,Option.some.injEq]at h;exact h.symm
theorem two{f:Operand->Value}{x y:Operand}{a b:SV}(h:RepL w bs B [a,b] ([x,y].map f)):Rep w bs B a (f x)/\Rep w bs B b (f y):=by
 obtain⟨v,vs,h1,h2,h3⟩:=h.cons_inv
 obtain⟨v',vs',h4,h5,h6⟩:=h3.cons_inv
 simp only[KH,Vf,List.cons.injEq]at h1
 obtain⟨rfl,rfl⟩:=h1
 simp only[List.cons.injEq]at h4
 obtain⟨rfl,_⟩:=h4
 exact⟨h2,h5⟩
theorem Wf{f:Operand->Value}{x:Operand}{a:SV}(h:RepL w bs B [a] ([x].map f)):Rep w bs B a (f x):=by
 obtain⟨v,vs,h1,h2,h3⟩:=h.cons_inv
 simp only[KH,Vf,List.cons.injEq]at h1
 obtain⟨rfl,rfl⟩:=h1
 exact h2
theorem CM{o:Ari}{t yt:TypeId}{x y:Operand}{op:BinOp}{xs:List SV}{e:Ef}(hop:op=match o with| .add=> .add| .sub=> .sub| .mul=> .mul)
 (he:DJ o xs=some e)(hp:e.pre)(hx:RepL w bs B xs ([x,y].map ρ)):QOk P ρ (.binOp op t x y yt) w bs B e:=by
 unfold DJ at he
 split at he
 ·rename_i k a k' b
  cases Ko he
  obtain⟨h1,h2⟩:=two hx
  have h1:=h1.int_inv;have h2:=h2.int_inv
  dsimp only at hp;subst hp
  refine⟨rfl,.int k (k.wrap (ari o a b)),?_,.x _ _ (.int _ _)⟩
  intro dst type pos after guard
  subst hop
  cases o <;> simp [execOp,h1,h2,eqGuard,binOp,Op.intArith,ari]
 ·cases he
theorem HT{o:Cmp}{t yt:TypeId}{x y:Operand}{op:BinOp}{xs:List SV}{e:Ef}(hop:Yds op=some o)
 (he:DL o xs=some e)(hp:e.pre)(hx:RepL w bs B xs ([x,y].map ρ)):QOk P ρ (.binOp op t x y yt) w bs B e:=by
 unfold DL at he
 split at he
 ·rename_i k a k' b
  cases Ko he
  obtain⟨h1,h2⟩:=two hx
  have h1:=h1.int_inv;have h2:=h2.int_inv
  dsimp only at hp;subst hp
  refine⟨rfl,.bool (Dv o a b),?_,.x _ _ (.bool _)⟩
  intro dst type pos after guard
  cases op <;> simp [Yds]at hop <;> subst hop <;> simp [execOp,h1,h2,eqGuard,binOp,Op.intCmp,Dv]
  ·rw[Bool.eq_iff_iff];simp
  ·rw[Bool.eq_iff_iff];simp
 ·cases he
theorem TJ{neg:Bool}{t yt:TypeId}{x y:Operand}{op:BinOp}{xs:List SV}{e:Ef}(hop:op=if neg then .neq else .eql)(ht:Dk P t=true)
 (he:DP neg xs=some e)(hx:RepL w bs B xs ([x,y].map ρ)):QOk P ρ (.binOp op t x y yt) w bs B e:=by
 unfold DP at he
 split at he
 ·rename_i a b
  cases Ko he
  obtain⟨h1,h2⟩:=two hx
  have h1:=h1.bool_inv;have h2:=h2.bool_inv
  have ht':P.underlying t=some .bool:=by unfold Dk at ht;split at ht <;> first|assumption|cases ht
  have hr:=run_equal_bool (P:=P) (w:=w) t a b ht'
  cases neg <;> subst hop
  ·refine⟨rfl,.bool (a==b),?_,.x _ _ (.bool _)⟩
   intro dst type pos after guard
   simp [execOp,h1,h2,eqGuard,binOp,hr]
  ·refine⟨rfl,.bool (!(a==b)),?_,.x _ _ (.bool _)⟩
   intro dst type pos after guard
   simp [execOp,h1,h2,eqGuard,binOp,hr]
 ·cases he
theorem Dj{o:Bit}{t yt:TypeId}{x y:Operand}{op:BinOp}{xs:List SV}{e:Ef}(hop:op=match o with| .and=> .and| .or=> .or| .xor=> .xor| .andNot=> .andNot)
 (he:DK o xs=some e)(hp:e.pre)(hx:RepL w bs B xs ([x,y].map ρ)):QOk P ρ (.binOp op t x y yt) w bs B e:=by
 unfold DK at he
 split at he
 ·rename_i k a k' b
  cases Ko he
  obtain⟨h1,h2⟩:=two hx
  have h1:=h1.int_inv;have h2:=h2.int_inv
  dsimp only at hp;subst hp
  refine⟨rfl,.int k (JR o k a b),?_,.x _ _ (.int _ _)⟩
  intro dst type pos after guard
  subst hop
  cases o <;> simp [execOp,h1,h2,eqGuard,binOp,Op.intBits,JR]
 ·cases he
theorem Th{rem:Bool}{t yt:TypeId}{x y:Operand}{op:BinOp}{xs:List SV}{e:Ef}(hop:op=if rem then .rem else .quo)
 (he:Ms rem xs=some e)(hp:e.pre)(hx:RepL w bs B xs ([x,y].map ρ)):QOk P ρ (.binOp op t x y yt) w bs B e:=by
 unfold Ms at he
 split at he
 ·rename_i k a k' b
  cases Ko he
  obtain⟨h1,h2⟩:=two hx
  have h1:=h1.int_inv;have h2:=h2.int_inv
  dsimp only at hp;obtain⟨rfl,hb⟩:=hp
  cases rem <;> subst hop
  ·refine⟨rfl,.int k (k.wrap (a.tdiv b)),?_,.x _ _ (.int _ _)⟩
   intro dst type pos after guard
   simp [execOp,h1,h2,eqGuard,binOp,Op.intDiv,hb]
  ·refine⟨rfl,.int k (a.tmod b),?_,.x _ _ (.int _ _)⟩
   intro dst type pos after guard
   simp [execOp,h1,h2,eqGuard,binOp,Op.intDiv,hb]
 ·cases he
theorem YbW{left:Bool}{t yt:TypeId}{x y:Operand}{op:BinOp}{xs:List SV}{e:Ef}(hop:op=if left then .shl else .shr)
 (he:eSh left xs=some e)(hp:e.pre)(hx:RepL w bs B xs ([x,y].map ρ)):QOk P ρ (.binOp op t x y yt) w bs B e:=by
 unfold eSh at he
 split at he
 ·rename_i k a k' b
  cases Ko he
  obtain⟨h1,h2⟩:=two hx
  have h1:=h1.int_inv;have h2:=h2.int_inv
  dsimp only at hp
  have hb:¬b<0:=by omega
  cases left <;> subst hop
  ·refine⟨rfl,.int k (a.fdiv (2^min b.toNat k.bits)),?_,.x _ _ (.int _ _)⟩
   intro dst type pos after guard
   simp [execOp,h1,h2,eqGuard,binOp,Op.shift,hb]
  ·refine⟨rfl,.int k (k.wrap (a*2^min b.toNat k.bits)),?_,.x _ _ (.int _ _)⟩
   intro dst type pos after guard
   simp [execOp,h1,h2,eqGuard,binOp,Op.shift,hb]
 ·cases he
theorem OB{x:Operand}{op:Op}{xs:List SV}{e:Ef}(hop:op= .move x\/op= .assign x)
 (he:D6 xs=some e)(hx:RepL w bs B xs ([x].map ρ)):QOk P ρ op w bs B e:=by
 unfold D6 at he
 split at he
 ·rename_i a
  cases Ko he
  refine⟨rfl,ρ x,?_,Wf hx⟩
  intro dst type pos after guard
  rcases hop with rfl|rfl <;> simp [execOp]
 ·cases he
theorem Ykm{x:Operand}{t:TypeId}{xs:List SV}{e:Ef}
 (he:D9 xs=some e)(hx:RepL w bs B xs ([x].map ρ)):QOk P ρ (.unOp .not t x) w bs B e:=by
 unfold D9 at he
 split at he
 ·cases Ko he
  have h:=(Wf hx).bool_inv
  exact⟨rfl,_,fun dst type pos after guard=>by simp [execOp,h,Op.unary],.x _ _ (.bool _)⟩
 ·cases he
theorem Ykd{x:Operand}{t:TypeId}{xs:List SV}{e:Ef}
 (he:D7 xs=some e)(hx:RepL w bs B xs ([x].map ρ)):QOk P ρ (.unOp .neg t x) w bs B e:=by
 unfold D7 at he
 split at he
 ·cases Ko he
  have h:=(Wf hx).int_inv
  exact⟨rfl,_,fun dst type pos after guard=>by simp only[execOp,h,Op.unary,Op.intArith];simp,.x _ _ (.int _ _)⟩
 ·cases he
theorem Yf8{x:Operand}{s d:TypeId}{k:IntKind}{xs:List SV}{e:Ef}(hs:(P.underlying s).isSome=true)(hd:P.underlying d=some (.int k))
 (he:DM k xs=some e)(hx:RepL w bs B xs ([x].map ρ)):QOk P ρ (.convert s d x) w bs B e:=by
 unfold DM at he
 split at he
 ·cases Ko he
  have h:=(Wf hx).int_inv
  obtain⟨u,hu⟩:=Option.isSome_iff_exists.1 hs
  refine⟨rfl,_,fun dst type pos after guard=>?_,.x _ _ (.int _ _)⟩
  simp [execOp,h,convert,run_underlying hu,run_underlying hd,Conv.intToInt]
 ·cases he
theorem YgU{x:Operand}{i:Nat}{xs:List SV}{e:Ef}
 (he:DR i xs=some e)(hp:e.pre)(hx:RepL w bs B xs ([x].map ρ)):QOk P ρ (.extract x i) w bs B e:=by
 unfold DR at he
 split at he
 ·cases Ko he
  obtain⟨vs,h,hr⟩:=(Wf hx).tup_inv
  obtain⟨v,h1,h2⟩:=hr.get? i hp
  refine⟨rfl,v,fun dst type pos after guard=>?_,h2⟩
  simp [execOp,h,Instr.extract,h1]
 ·cases he
theorem YhV{t:TypeId}{u:TypeDesc}(hu:P.underlying t=some u)(hn:∀m,u≠ .interface m)(v:Value)(w:World):(Instr.makeInterface t v).run P w= .ok (.iface t v) w:=by
 simp only[Instr.makeInterface,Sem.run_bind,run_underlying hu,Result.andThen_ok]
 cases u <;> first|rfl| (exact absurd rfl (hn _))
theorem YhU{x:Operand}{t:TypeId}{xs:List SV}{e:Ef}(ht:∀v w,(Instr.makeInterface t v).run P w= .ok (.iface t v) w)
 (he:DX t xs=some e)(hx:RepL w bs B xs ([x].map ρ)):QOk P ρ (.makeInterface t x) w bs B e:=by
 unfold DX at he
 split at he
 ·cases Ko he
  exact⟨rfl,_,fun dst type pos after guard=>by simp [execOp,ht],.iface _ _ _ (Wf hx)⟩
 ·cases he
theorem SA{c a:Operand}{op:Op}{o:VO}{xs:List SV}{e:Ef}(hop:(o= .and/\op= .pick c a (.const (.bool false)))\/(o= .or/\op= .pick c (.const (.bool true)) a))
 (hρ:∀v,ρ (.const v)=v)(he:Mq o xs=some e)(hp:e.pre)(hx:RepL w bs B xs ([c,a].map ρ)):QOk P ρ op w bs B e:=by
 unfold Mq at he
 split at he
 ·rename_i b y
  obtain⟨h1,h2⟩:=two hx
  have h1:=h1.bool_inv
  rcases hop with⟨rfl,rfl⟩ | ⟨rfl,rfl⟩
  ·cases y <;> try (cases he;done)
   ·rename_i b'
    simp only at he
    cases Ko he
    have h2:=h2.bool_inv
    refine⟨rfl,.bool (b&&b'),fun dst type pos after guard=>?_,.x _ _ (.bool _)⟩
    cases b <;> simp [execOp,h1,h2,asBool,hρ]
   ·rename_i g y
    cases y <;> try (cases he;done)
    rename_i b'
    simp only at he
    cases Ko he
    refine⟨rfl,.bool (b&&b'),fun dst type pos after guard=>?_,.x _ _ (.bool _)⟩
    cases b
    ·simp [execOp,h1,asBool,hρ]
    ·have hg:=hp rfl
     subst hg
     cases h2 with
     |x _ _ h=>cases h
     |optT _ _ h=>have h2:=h.bool_inv;simp [execOp,h1,h2,asBool,hρ]
  ·cases y <;> try (cases he;done)
   ·rename_i b'
    simp only at he
    cases Ko he
    have h2:=h2.bool_inv
    refine⟨rfl,.bool (b|| b'),fun dst type pos after guard=>?_,.x _ _ (.bool _)⟩
    cases b <;> simp [execOp,h1,h2,asBool,hρ]
   ·rename_i g y
    cases y <;> try (cases he;done)
    rename_i b'
    simp only at he
    cases Ko he
    refine⟨rfl,.bool (b|| b'),fun dst type pos after guard=>?_,.x _ _ (.bool _)⟩
    cases b
    ·have hg:=hp rfl
     subst hg
     cases h2 with
     |x _ _ h=>cases h
     |optT _ _ h=>have h2:=h.bool_inv;simp [execOp,h1,h2,asBool,hρ]
    ·simp [execOp,h1,asBool,hρ]
 ·cases he
theorem Yjc{x:SV}{v:Value}{n:Nat}(h:BS x=some n)(hx:Rep w bs B x v):∃a c,v= .slice a n c:=by
 unfold BS at h
 split at h <;> cases h
 ·exact⟨_,_,hx.nil_inv⟩
 ·cases hx with|x _ _ h=>cases h;exact⟨_,_,rfl⟩
 ·cases hx with
  |x _ _ h=>cases h
  |own=>exact⟨_,_,rfl⟩
  |ownNil=>exact⟨_,_,rfl⟩
 ·cases hx with|x _ _ h=>cases h;exact⟨_,_,rfl⟩
theorem Dd{c:Call}{a:SV}(h:RepL w bs B [a] (c.args.toList.map ρ)):∃v,c.args.map ρ= #[v]/\Rep w bs B a v:=by
 obtain⟨v,vs,h1,h2,h3⟩:=h.cons_inv
 cases h3
 exact⟨v,by apply Array.ext';rw[Array.toList_map,h1],h2⟩
theorem Yjf{c:Call}{xs:List SV}{e:Ef}{el:TypeId}(hc:c.callee= .builtin .len)(ht:c.argTypes[0]?.bind P.underlying=some (.slice el))
 (he:DZ xs=some e)(hx:RepL w bs B xs (c.args.toList.map ρ)):QOk P ρ (.call c) w bs B e:=by
 unfold DZ at he
 split at he
 ·rename_i a
  obtain⟨n,hn,he⟩:=YE.1 he
  cases Ko he
  obtain⟨t,h1,h2⟩:=YE.1 ht
  obtain⟨v,hv,h3⟩:=Dd hx
  obtain⟨a',cc,rfl⟩:=Yjc hn h3
  refine⟨rfl,.int .i64 n,fun dst type pos after guard=>?_,.x _ _ (.int _ _)⟩
  simp [execOp,resolve,hc,invoke,builtin,Builtin.len_,h1,run_underlying h2,hv,goInt]
 ·cases he
theorem Yje{c:Call}{xs:List SV}{e:Ef}(hc:c.callee= .builtin .len)(ht:c.argTypes[0]?.bind P.underlying=some .string)
 (he:D5 xs=some e)(hx:RepL w bs B xs (c.args.toList.map ρ)):QOk P ρ (.call c) w bs B e:=by
 unfold D5 at he
 split at he
 ·cases Ko he
  obtain⟨t,h1,h2⟩:=YE.1 ht
  obtain⟨v,hv,h3⟩:=Dd hx
  have h4:=h3.val_inv;subst h4
  refine⟨rfl,_,fun dst type pos after guard=>?_,.x _ _ (.int _ _)⟩
  simp [execOp,resolve,hc,invoke,builtin,Builtin.len_,h1,run_underlying h2,hv,goInt]
 ·cases he
theorem Yi9{c:Call}{xs:List SV}{e:Ef}{el:TypeId}{n:Nat}(hc:c.callee= .builtin .len)(ht:c.argTypes[0]?.bind P.underlying=some (.array n el))
 (he:D3 n xs=some e)(hx:RepL w bs B xs (c.args.toList.map ρ)):QOk P ρ (.call c) w bs B e:=by
 unfold D3 at he
 split at he
 ·cases Ko he
  obtain⟨t,h1,h2⟩:=YE.1 ht
  obtain⟨v,hv,h3⟩:=Dd hx
  refine⟨rfl,.int .i64 n,fun dst type pos after guard=>?_,.x _ _ (.int _ _)⟩
  simp [execOp,resolve,hc,invoke,builtin,Builtin.len_,h1,run_underlying h2,hv,goInt]
 ·cases he
theorem YjH(y m:Int):(if y>m then y else m)=max m y:=by rw[Int.max_def];split <;> split <;> omega
theorem YjI(y m:Int):(if y<m then y else m)=min m y:=by rw[Int.min_def];split <;> split <;> omega
theorem So{α:Type}{b:Bool}{o:Option α}{r:α}(h:(bif b then o else none)=some r):b=true/\o=some r:=by
 cases b with
 |true=>exact⟨rfl,h⟩
 |false=>cases h
theorem IV{k k':IntKind}(h:kEq k k'=true):k=k':=by cases k <;> cases k' <;> first|rfl|cases h
theorem TZ{k:IntKind}:∀{l:List SV}{m r:Int}{vs:List Value},H5 k m l=some r->RepL w bs B l vs->
 (vs.foldlM Builtin.max2 (.int k m)).run P w= .ok (.int k r) w
 | [],m,r,vs,h,hl=>by cases hl;simp only[H5,Option.some.injEq]at h;subst h;rfl
 |x::l,m,r,vs,h,hl=>by
  obtain⟨v,vs',rfl,hv,hl2⟩:=hl.cons_inv
  unfold H5 at h
  split at h
  ·cases‹_::_=[]›
  ·rename_i k' y l' heq
   cases heq
   obtain⟨hkq,hfold⟩:=So h
   ·have hk:=IV hkq;subst hk
    have hv:=hv.int_inv;subst hv
    have:=TZ hfold hl2
    simp only[List.foldlM_cons,Sem.run_bind,Builtin.max2,Sem.run_pure,Result.andThen_ok]
    rw[YjH];exact this
  ·cases h
theorem T0{k:IntKind}:∀{l:List SV}{m r:Int}{vs:List Value},H6 k m l=some r->RepL w bs B l vs->
 (vs.foldlM Builtin.min2 (.int k m)).run P w= .ok (.int k r) w
 | [],m,r,vs,h,hl=>by cases hl;simp only[H6,Option.some.injEq]at h;subst h;rfl
 |x::l,m,r,vs,h,hl=>by
  obtain⟨v,vs',rfl,hv,hl2⟩:=hl.cons_inv
  unfold H6 at h
  split at h
  ·cases‹_::_=[]›
  ·rename_i k' y l' heq
   cases heq
   obtain⟨hkq,hfold⟩:=So h
   ·have hk:=IV hkq;subst hk
    have hv:=hv.int_inv;subst hv
    have:=T0 hfold hl2
    simp only[List.foldlM_cons,Sem.run_bind,Builtin.min2,Sem.run_pure,Result.andThen_ok]
    rw[YjI];exact this
  ·cases h
theorem Oy{mx:Bool}{c:Call}{xs:List SV}{e:Ef}(hc:c.callee= .builtin (if mx then .max else .min))
 (he:Mu mx xs=some e)(hx:RepL w bs B xs (c.args.toList.map ρ)):QOk P ρ (.call c) w bs B e:=by
 unfold Mu at he
 split at he
 ·rename_i k x l
  obtain⟨v,vs,hvs,hv,hl⟩:=hx.cons_inv
  have hv:=hv.int_inv;subst hv
  cases mx
  ·obtain⟨m,hm,he⟩:=YE.1 he
   cases Ko he
   refine⟨rfl,.int k m,fun dst type pos after guard=>?_,.x _ _ (.int _ _)⟩
   simp only[XQ,if_false]at hc
   simp [execOp,resolve,hc,invoke,builtin,Builtin.min_,hvs,T0 hm hl]
  ·obtain⟨m,hm,he⟩:=YE.1 he
   cases Ko he
   refine⟨rfl,.int k m,fun dst type pos after guard=>?_,.x _ _ (.int _ _)⟩
   simp only[if_true]at hc
   simp [execOp,resolve,hc,invoke,builtin,Builtin.max_,hvs,TZ hm hl]
 ·cases he
theorem Qy{t:TypeId}{n:Nat}(h:sizeOf? P t=some n):(sizeOf t).run P w= .ok n w:=by
 unfold sizeOf? at h
 obtain⟨i,h1,h2⟩:=YQ.1 h
 simp [sizeOf,typeInfo,h1,h2]
theorem FC{t:TypeId}{b:Bool}(h:ZI P t=some b):(isAgg t).run P w= .ok b w:=by
 unfold ZI at h
 obtain⟨u,h1,h2⟩:=YQ.1 h
 unfold isAgg
 simp only[Sem.run_bind,run_underlying h1,Result.andThen_ok]
 subst h2
 split <;> simp_all
theorem ZH{b off n:Nat}:(Addr.add ⟨b,off,none⟩ n)=⟨b,off+n,none⟩:=by
 unfold Addr.add;split <;> simp_all
theorem Da{a:Addr}(h:a.spot=none)(n:Nat):a.add n=⟨a.block,a.off+n,none⟩:=by
 obtain⟨b,o,s⟩:=a;simp only at h;subst h;exact ZH
theorem Cells.cell{b off j:Nat}{l:List Value}{v:Value}(h:Cells w b off l)(hj:l[j]? =some v):w.cell? ⟨b,off+j,none⟩=some v:=by
 obtain⟨cs,T,fz,h1,h2⟩:=h
 simp [World.cell?,h1,h2 j v hj]
theorem Cells.drop{b off n:Nat}{l:List Value}(h:Cells w b off l):Cells w b (off+n) (l.drop n):=by
 obtain⟨cs,T,fz,h1,h2⟩:=h
 refine⟨cs,T,fz,h1,fun j v hj=>?_⟩
 rw[Zk]
 exact h2 _ v (by simpa using hj)
theorem Cells.take{b off n:Nat}{l:List Value}(h:Cells w b off l):Cells w b off (l.take n):=by
 obtain⟨cs,T,fz,h1,h2⟩:=h
 refine⟨cs,T,fz,h1,fun j v hj=>h2 _ v ?_⟩
 rw[XR]at hj
 split at hj
 ·exact hj
 ·cases hj
theorem TU{vs:List Value}{size m:Nat}{get:Nat->List SV}(hl:vs.length=m*size)(h:∀k,k<m->RepL w bs B (get k) ((vs.drop (k*size)).take size)):
 ∀(j k:Nat),k+j=m->RepL w bs B (WA j k get) (vs.drop (k*size))
 |0,k,e=>by
  have e:k=m:=e
  subst e
  rw[List.drop_of_length_le (by omega)];exact .nil
 |j+1,k,e=>by
  have ih:=TU hl h j (k+1) (by omega)
  have hk:=h k (by omega)
  have:=hk.append ih
  rw[XT,<-List.drop_drop,List.take_append_drop]at this
  exact this
theorem SM{x:SV}{v:Value}{p:Prop}{cs:List SV}(h:ZL hp x=some (p,cs))(hpp:p)(hx:Rep w bs B x v)(hH:Hp w bs B hp):
 ∃ad vals,v= .pointer (some ad)/\ad.spot=none/\RepL w bs B cs vals/\Cells w ad.block ad.off vals:=by
 unfold ZL at h
 split at h
 ·cases h
  cases hx with
  |x _ _ h=>cases h with|xp _ _ ad vals hs hf ht hc h=>exact⟨ad,vals,rfl,hs,h.rep,hc⟩
 ·rename_i i off
  obtain⟨b,n,hb,rfl⟩:=hx.ptr_inv
  have he:=hH.ent i
  split at h
  ·rename_i cs' hg
   cases h
   rw[hg]at he
   obtain⟨b',vs,T,h1,h2,h3⟩:=he
   rw[hb]at h1;cases h1
   refine⟨_,vs.toList.drop off,rfl,rfl,h3.drop off,vs,T,_,h2,fun j v hj=>?_⟩
   simpa using hj
  ·rename_i z sz m get hg
   unfold L2 at h
   split at h
   ·cases h
    rw[hg]at he
    rcases he with⟨h1,_⟩ | ⟨b',cap,vs,T,h1,h2,h3,h4,h5,h6⟩
    ·rw[hb]at h1;cases h1
    rw[hb]at h1;cases h1
    refine⟨_,vs.toList,rfl,rfl,?_,vs,T,_,h3,fun j v hj=>by simpa using hj⟩
    simpa using TU (by simpa using h4) h6 _ 0 (KJ _)
   ·cases h
  ·cases h
 ·rename_i i k off sz
  obtain⟨b,c,n,hb,rfl,hkn⟩:=hx.elem_inv
  have he:=hH.ent i
  split at h
  ·rename_i z size m get hg
   cases h
   obtain⟨hk,rfl⟩:=hpp
   rw[hg]at he
   rcases he with⟨_,_,rfl⟩ | ⟨b',cap,vs,T,h1,h2,h3,h4,h5,h6⟩
   ·omega
   rw[hb]at h1;cases h1
   refine⟨_,((vs.toList.drop (k*sz)).take sz).drop off,rfl,rfl,(h6 k hk).drop off,vs,T,_,h3,fun j v hj=>?_⟩
   rw[Wu,XR]at hj
   split at hj
   ·rw[Wu]at hj
    rw[Zk]
    simpa using hj
   ·cases hj
  ·cases h
 ·cases h
theorem Px{a:Addr}(ha:a.spot=none):∀{l:List Value}{i:Nat}{acc:Array Value},(∀(j:Nat)(v:Value),l[j]? =some v->w.cell? ⟨a.block,a.off+(i+j),none⟩=some v)->
 (loadCellsFrom a i l.length acc).run P w= .ok (acc++l.toArray) w
 | [],i,acc,h=>by simp [loadCellsFrom]
 |x::l,i,acc,h=>by
  have h0:=h 0 x rfl
  have ih:=Px ha (l:=l) (i:=i+1) (acc:=acc.push x) (fun j v hj=>by
   have:=h (j+1) v (by simpa using hj)
   rwa [show i+1+j=i+(j+1)by omega])
  simp only[XS,loadCellsFrom,Sem.run_bind,Da ha,run_load]
  rw[show a.off+i=a.off+(i+0)by rfl,h0]
  simp only[Result.andThen_ok]
  rw[ih]
  simp
theorem YbD{a:Addr}(ha:a.spot=none){l:List Value}(h:Cells w a.block a.off l):(loadCells a l.length).run P w= .ok l.toArray w:=by
 unfold loadCells
 rw[Px ha (fun j v hj=>by rw[KJ];exact h.cell hj)]
 simp
theorem Oi{x:Operand}{t:TypeId}{agg:Bool}{size:Nat}{xs:List SV}{e:Ef}(ha:ZI P t=some agg)(hs:sizeOf? P t=some size)
 (h1:agg=false->size=1)(he:V2 hp agg size xs=some e)(hpre:e.pre)(hx:RepL w bs B xs ([x].map ρ))(hH:Hp w bs B hp):QOk P ρ (.load t x) w bs B e:=by
 unfold V2 at he
 split at he
 ·obtain⟨⟨p,cs⟩,hc,he⟩:=YE.1 he
  cases Ko he
  obtain⟨hp1,hp2⟩:=hpre
  obtain⟨ad,vals,hv,hsp,hr,hcl⟩:=SM hc hp1 (Wf hx) hH
  have hlen:size<=vals.length:=by rw[<-hr.length];exact hp2
  have hr':=hr.take size
  cases agg
  ·have:=h1 rfl;subst this
   cases hr with
   |nil=>simp at hlen
   |cons y u l us hy hl=>
    refine⟨rfl,u,fun dst type pos after guard=>?_,by simpa [W4,YP]using hy⟩
    have:=hcl.cell (j:=0) (v:=u) rfl
    simp only[KO]at this
    have had:ad=⟨ad.block,ad.off,none⟩:=by cases ad;simp_all
    simp only[execOp,Instr.loadAt,hv,Instr.sureAddr,loadVar,Sem.run_bind,Sem.run_pure,Result.andThen_ok,FC ha,XQ,if_false,run_load]
    rw[had,this];rfl
  ·refine⟨rfl,.agg (vals.take size).toArray,fun dst type pos after guard=>?_,.agg _ _ hr'⟩
   have hl:=YbD (P:=P) (w:=w) hsp (l:=vals.take size) hcl.take
   rw[Qs,Nat.min_eq_left hlen]at hl
   simp only[execOp,Instr.loadAt,hv,Instr.sureAddr,loadVar,Sem.run_bind,Sem.run_pure,Result.andThen_ok,FC ha,if_true,Qy hs,hl]
 ·cases he
theorem YbE{t:TypeId}{agg:Bool}{off size:Nat}{l:List Value}{cs:List SV}(ha:ZI P t=some agg)(hs:sizeOf? P t=some size)
 (h1:agg=false->size=1)(hr:RepL w bs B cs l)(hl:off+size<=l.length):
 ∃v,(part t l.toArray off).run P w= .ok v w/\Rep w bs B (W4 agg (YP size (YF off cs))) v:=by
 have hr':=(hr.drop off).take size
 cases agg
 ·have:=h1 rfl;subst this
  obtain⟨v,hv⟩:∃v,l[off]? =some v:=⟨l[off]'(by omega),by simp⟩
  refine⟨v,?_,?_⟩
  ·simp [part,FC ha,hv]
  ·have hd:l.drop off=v::l.drop (off+1):=by
    have h:=List.drop_eq_getElem_cons (l:=l) (i:=off) (by omega)
    rw[h];rw[VL (by omega)]at hv;cases hv;rfl
   rw[hd]at hr'
   cases hc:YF off cs with
   |nil=>have:=(hr.drop off).length;rw[hc,hd]at this;simp [YK]at this
   |cons y ys=>
    rw[hc]at hr'
    simp only[YP,List.take_succ_cons,List.take_zero]at hr'
    obtain⟨_,_,h3,h4,_⟩:=hr'.cons_inv
    cases h3
    simpa [W4,YP]using h4
 ·refine⟨.agg ((l.drop off).take size).toArray,?_,.agg _ _ hr'⟩
  simp only[part,Sem.run_bind,FC ha,Result.andThen_ok,if_true,Qy hs,Sem.run_pure]
  congr 2
  apply Array.ext'
  simp
theorem Yg4{x:Operand}{s:TypeId}{f:Nat}{fs:Array Field}{fd:Field}{agg:Bool}{size:Nat}{xs:List SV}{e:Ef}
 (hu:P.underlying s=some (.struct fs))(hf:fs[f]? =some fd)(ha:ZI P fd.type=some agg)(hs:sizeOf? P fd.type=some size)(h1:agg=false->size=1)
 (he:DS agg fd.offset size xs=some e)(hpre:e.pre)(hx:RepL w bs B xs ([x].map ρ)):QOk P ρ (.field s x f) w bs B e:=by
 unfold DS at he
 split at he
 ·cases Ko he
  obtain⟨vs,hv,hr⟩:=(Wf hx).agg_inv
  dsimp only at hpre
  rw[hr.length]at hpre
  obtain⟨v,hrun,hrep⟩:=YbE (off:=fd.offset) ha hs h1 hr hpre
  refine⟨rfl,v,fun dst type pos after guard=>?_,hrep⟩
  simp [execOp,Instr.field,run_underlying hu,hf,hv,asAgg,hrun]
 ·cases he
theorem Yg3{x:Operand}{s:TypeId}{f:Nat}{fs:Array Field}{fd:Field}{size:Nat}{xs:List SV}{e:Ef}
 (hu:P.underlying s=some (.struct fs))(hf:fs[f]? =some fd)(hs:sizeOf? P fd.type=some size)(h1:size≠0)
 (he:DU fd.offset xs=some e)(hx:RepL w bs B xs ([x].map ρ)):QOk P ρ (.fieldAddr s x f) w bs B e:=by
 have run (ad:Addr) (h:ρ x= .pointer (some ad)) (dst type pos after guard):(execOp ρ ⟨dst,.fieldAddr s x f,type,pos,after,guard⟩).run P w= .ok (.value (.pointer (some (ad.add fd.offset)))) w:=by
  simp [execOp,Instr.fieldAt,run_underlying hu,hf,h,Instr.sureAddr,fieldPlace,Qy hs,h1]
 unfold DU at he
 split at he
 ·have h:=Wf hx
  split at he
  ·cases Ko he
   obtain⟨b,n,hb,hv⟩:=h.ptr_inv
   refine⟨rfl,_,fun dst type pos after guard=>run _ hv ..,?_⟩
   rw[ZH];exact .ptr _ _ b n hb
  ·cases Ko he
   cases h with
   |x _ _ h=>
    generalize hρ:ρ x=v at h
    cases h with
    |xp _ _ ad vals hs hf ht hc h=>
     refine⟨rfl,_,fun dst type pos after guard=>run _ hρ ..,?_⟩
     rw[Da hs]
     exact .x _ _ (.xp _ _ _ _ rfl hf ht hc.drop (h.drop _))
  ·cases Ko he
   obtain⟨b,c,n,hb,hv,hkn⟩:=h.elem_inv
   refine⟨rfl,_,fun dst type pos after guard=>run _ hv ..,?_⟩
   rw[ZH,Zk];exact .elem _ _ _ _ b c n hb hkn
  ·cases he
 ·cases he
theorem Uh(k:IntKind)(n:Int):(asIntOf (.int k n)).run P w= .ok (k,n) w:=rfl
theorem HI(a k:Nat):QE a k=a+k:=by cases a <;> simp [QE]
theorem Ych(a k:Nat):VE a k=a-k:=by cases k <;> simp [VE]
theorem YhF{x i:Operand}{t el:TypeId}{size:Nat}{xs:List SV}{e:Ef}(hu:P.underlying t=some (.slice el))(hs:sizeOf? P el=some size)
 (he:DV size xs=some e)(hpre:e.pre)(hx:RepL w bs B xs ([x,i].map ρ))(hH:Hp w bs B hp):QOk P ρ (.indexAddr t x i) w bs B e:=by
 have run (ad:Addr) (n c:Nat) (k:IntKind) (j:Int) (h:ρ x= .slice (some ad) n c) (hi:ρ i= .int k j) (hb:0<=j/\j<n) (dst type pos after guard):
  (execOp ρ ⟨dst,.indexAddr t x i,type,pos,after,guard⟩).run P w= .ok (.value (.pointer (some (ad.add (j.toNat*size))))) w:=by
  simp [execOp,Instr.indexAt,run_underlying hu,h,hi,Uh,Qy hs,hb]
 unfold DV at he
 split at he
 ·rename_i y k j
  obtain⟨h1,h2⟩:=two hx
  have h2:=h2.int_inv
  split at he
  ·rename_i t' z' n sz' get'
   cases Ko he
   obtain⟨rfl,hb⟩:=hpre
   cases h1 with
   |x _ _ h1=>
    generalize hρ:ρ x=v at h1
    cases h1 with
    |vs _ _ _ _ _ a cap vals hz hc hn hcell h=>
     have hj:j.toNat<n:=by omega
     obtain⟨ad,rfl,h3,h4,h5,h6,h7⟩:=hcell _ hj
     refine⟨rfl,_,fun dst type pos after guard=>run _ _ _ _ _ hρ h2 hb ..,?_⟩
     rw[Da h3]
     exact .x _ _ (.xp _ _ _ _ rfl h4 h5 h7 (h _ hj))
  ·rename_i jj lo n sz
   cases Ko he
   obtain⟨rfl,hb⟩:=hpre
   generalize hρ:ρ x=v at h1
   cases h1 with
   |x _ _ h1=>cases h1
   |own _ _ _ _ b cap m ad hbs hl ha=>
    refine⟨rfl,_,fun dst type pos after guard=>run _ _ _ _ _ hρ h2 hb ..,?_⟩
    have had:ad=⟨b,lo*sz,none⟩:=by
     rcases ha with ha|ha
     ·exact ha
     ·exfalso
      have hm:=hH.le hbs
      have hb2:=hb.2
      have hb1:=hb.1
      omega
    rw[had,ZH,HI]
    have:=Rep.elem (w:=w) (bs:=bs) (B:=B) jj (lo+j.toNat) 0 sz b cap m hbs (by omega)
    rw[KO,YM]at this
    exact this
   |ownNil=>exfalso;have hb2:=hb.2;have hb1:=hb.1;omega
  ·rename_i n C
   cases Ko he
   obtain⟨rfl,hb⟩:=hpre
   cases h1 with
   |x _ _ h1=>
    generalize hρ:ρ x=v at h1
    cases h1 with
    |row _ _ b cap hI hc=>
     refine⟨rfl,_,fun dst type pos after guard=>run _ _ _ _ _ hρ h2 hb ..,?_⟩
     rw[ZH,KJ,Y0]
     exact .x _ _ (.rcell _ n C j.toNat b rfl hI (by omega))
  ·cases he
 ·cases he
theorem Ykf{x:Operand}{xs:List SV}{e:Ef}(he:D8 xs=some e)(hx:RepL w bs B xs ([x].map ρ)):QOk P ρ (.nilCheck x) w bs B e:=by
 unfold D8 at he
 split at he
 ·rename_i y
  obtain⟨v,vs,hv,h1,_⟩:=hx.cons_inv
  simp only[KH,Vf,List.cons.injEq]at hv
  obtain⟨hρ,_⟩:=hv
  have go:∀ad,v= .pointer (some ad)->∀dst type pos after guard,(execOp ρ ⟨dst,.nilCheck x,type,pos,after,guard⟩).run P w= .ok (.value v) w:=by
   intro ad hv dst type pos after guard
   subst hv
   simp [execOp,hρ]
  split at he <;> cases he
  ·obtain⟨b,n,hb,h⟩:=h1.ptr_inv
   exact⟨rfl,v,go _ h,h1⟩
  ·refine⟨rfl,v,?_,h1⟩
   cases h1 with|x _ _ h=>cases h;exact go _ rfl
  ·obtain⟨b,c,n,hb,h,_⟩:=h1.elem_inv
   exact⟨rfl,v,go _ h,h1⟩
 ·cases he
theorem YhT{x i:Operand}{t:TypeId}{xs:List SV}{e:Ef}(hu:P.underlying t=some .string)(he:DW xs=some e)(hpre:e.pre)(hx:RepL w bs B xs ([x,i].map ρ)):QOk P ρ (.index t x i) w bs B e:=by
 unfold DW at he
 split at he
 ·rename_i b k j
  cases Ko he
  obtain⟨h1,h2⟩:=two hx
  have h1:=h1.val_inv;have h2:=h2.int_inv
  obtain⟨h3,h4⟩:=hpre
  have hj:j.toNat<b.size:=by omega
  have hg:b[j.toNat]? =some b[j.toNat]:=getElem?_pos b j.toNat hj
  refine⟨rfl,.int .u8 (Jm b j.toNat),fun dst type pos after guard=>?_,.x _ _ (.int _ _)⟩
  have hb:Jm b j.toNat=(b[j.toNat].toNat:Int):=by
   unfold Jm
   congr 2
   rw[Kh,Array.getElem?_toList,Array.getElem?_eq_getElem (by simpa using hj)]
   rfl
  rw[hb]
  simp [execOp,Instr.index,run_underlying hu,h1,h2,Uh,h3,hg]
 ·cases he
theorem TI{neg:Bool}{t yt:TypeId}{x y:Operand}{op:BinOp}{xs:List SV}{e:Ef}(hop:op=if neg then .neq else .eql)
 (he:DO neg xs=some e)(hx:RepL w bs B xs ([x,y].map ρ)):QOk P ρ (.binOp op t x y yt) w bs B e:=by
 unfold DO at he
 split at he
 ·rename_i a b
  cases Ko he
  obtain⟨h1,h2⟩:=two hx
  have h1:=h1.val_inv;have h2:=h2.val_inv
  cases neg <;> subst hop
  ·refine⟨rfl,.bool (Vs false (a.toList==b.toList)),?_,.x _ _ (.bool _)⟩
   intro dst type pos after guard
   simp [execOp,h1,h2,eqGuard,binOp,Op.stringOp,Vs]
  ·refine⟨rfl,.bool (Vs true (a.toList==b.toList)),?_,.x _ _ (.bool _)⟩
   intro dst type pos after guard
   simp [execOp,h1,h2,eqGuard,binOp,Op.stringOp,Vs]
 ·cases he
theorem YhG{x i:Operand}{t el:TypeId}{n size:Nat}{xs:List SV}{e:Ef}(hu:P.underlying t=some (.array n el))(hs:sizeOf? P el=some size)
 (he:Vk hp n size xs=some e)(hpre:e.pre)(hx:RepL w bs B xs ([x,i].map ρ))(hH:Hp w bs B hp):QOk P ρ (.indexAddr t x i) w bs B e:=by
 unfold Vk at he
 split at he
 ·rename_i jj k j
  obtain⟨h1,h2⟩:=two hx
  have h2:=h2.int_inv
  obtain⟨b,m,hb,hv⟩:=h1.ptr_inv
  split at he
  ·rename_i hg
   cases Ko he
   obtain⟨h0,h3,hsz,hm⟩:=hpre
   have hent:=hH.ent jj
   rw[hg]at hent
   have hmm:n=m:=by
    rcases hent with⟨h,_⟩ | ⟨_,_,_,_,h,_⟩
    ·rw[hb]at h;cases h
    ·rw[hb]at h;cases h;exact hm.symm
   refine⟨rfl,.pointer (some ⟨b,j.toNat*size+0,none⟩),fun dst type pos after guard=>?_,.elem _ _ _ _ b m m hb (by omega)⟩
   simp [execOp,Instr.indexAt,run_underlying hu,hv,h2,Uh,Qy hs,h0,h3,Instr.sureAddr,ZH]
  ·cases Ko he
   obtain⟨h0,h3⟩:=hpre
   refine⟨rfl,.pointer (some ⟨b,j.toNat*size,none⟩),fun dst type pos after guard=>?_,.ptr _ _ b m hb⟩
   simp [execOp,Instr.indexAt,run_underlying hu,hv,h2,Uh,Qy hs,h0,h3,Instr.sureAddr,ZH]
  ·cases he
 ·rename_i jj oo k j
  obtain⟨h1,h2⟩:=two hx
  have h2:=h2.int_inv
  obtain⟨b,m,hb,hv⟩:=h1.ptr_inv
  split at he
  ·cases Ko he
   obtain⟨h0,h3⟩:=hpre
   refine⟨rfl,.pointer (some ⟨b,oo+1+j.toNat*size,none⟩),fun dst type pos after guard=>?_,.ptr _ _ b m hb⟩
   simp [execOp,Instr.indexAt,run_underlying hu,hv,h2,Uh,Qy hs,h0,h3,Instr.sureAddr,ZH,Nat.add_comm]
  ·cases he
 ·rename_i t cs k j
  obtain⟨h1,h2⟩:=two hx
  have h2:=h2.int_inv
  cases Ko he
  obtain⟨h0,h3,h4⟩:=hpre
  cases h1 with
  |x _ _ h1=>
   generalize hv:ρ x=v at h1
   cases h1 with
   |xp _ _ ad vals hsp hf ht hcl hr=>
    obtain⟨b,off,sp⟩:=ad
    simp only at hsp
    subst hsp
    refine⟨rfl,.pointer (some ⟨b,off+j.toNat*size,none⟩),fun dst type pos after guard=>?_,?_⟩
    ·simp [execOp,Instr.indexAt,run_underlying hu,hv,h2,Uh,Qy hs,h0,h3,Instr.sureAddr,ZH,Nat.add_comm]
    ·obtain⟨cs',T,fz,g1,g2⟩:=hcl
     refine .x _ _ (.xp _ _ _ (vals.drop (j.toNat*size)) rfl hf ht ⟨cs',T,fz,g1,fun q u hq=>?_⟩ (hr.drop _))
     rw[Wu]at hq
     have:=g2 _ _ hq
     rw[<-Zk]at this
     exact this
 ·cases he
theorem YhW{x i:Operand}{t el:TypeId}{agg:Bool}{n size:Nat}{xs:List SV}{e:Ef}(hu:P.underlying t=some (.array n el))(ha:ZI P el=some agg)(hs:sizeOf? P el=some size)
 (h1:agg=false->size=1)(he:DY agg n size xs=some e)(hpre:e.pre)(hx:RepL w bs B xs ([x,i].map ρ)):QOk P ρ (.index t x i) w bs B e:=by
 unfold DY at he
 split at he
 ·rename_i cs k j
  cases Ko he
  obtain⟨h3,h2⟩:=two hx
  have h2:=h2.int_inv
  obtain⟨vs,hv,hr⟩:=h3.agg_inv
  obtain⟨h4,h5,h6⟩:=hpre
  rw[hr.length]at h6
  have hl:j.toNat*size+size<=vs.length:=by
   rw[h6,<-XT];exact Yp _ (by omega)
  obtain⟨v,hrun,hrep⟩:=YbE (P:=P) (off:=j.toNat*size) ha hs h1 hr hl
  refine⟨rfl,v,fun dst type pos after guard=>?_,hrep⟩
  simp [execOp,Instr.index,run_underlying hu,hv,h2,Uh,Qy hs,h4,h5,hrun]
 ·cases he
theorem FD{k:IntKind}{j:Int}{y:Nat}{code:BoundsCode}(h:0<=j/\j<=y):(Instr.sliceBound (.int k j) y code).run P w= .ok j.toNat w:=by
 simp [Instr.sliceBound,Uh,h]
theorem CZ{n len cap:Nat}{lo hi:Bool}{l:List SV}{p:Prop}{a b:Nat}{lov hiv:Option Operand}{isSlice:Bool}(h:F6 n lo hi l=some (p,a,b))(hpp:p)(hn:n=len)(hc:len<=cap)
 (hlo:lov.isSome=lo)(hhi:hiv.isSome=hi)(hx:RepL w bs B l ((lov.toList++hiv.toList).map ρ)):
 (Instr.sliceBounds isSlice len cap (lov.map ρ) (hiv.map ρ) none).run P w= .ok (a,b,cap) w/\a<=b/\b<=len:=by
 subst hn
 unfold F6 at h
 split at h <;> cases h
 ·cases lov <;> simp at hlo
  cases hiv <;> simp at hhi
  simp [Instr.sliceBounds]
 ·cases lov <;> simp at hlo
  cases hiv <;> simp at hhi
  rename_i o
  have hv:=(Wf (x:=o) (by simpa using hx)).int_inv
  simp [Instr.sliceBounds,hv,FD hpp]
  omega
 ·cases lov <;> simp at hlo
  cases hiv <;> simp at hhi
  rename_i o
  have hv:=(Wf (x:=o) (by simpa using hx)).int_inv
  have:0<=‹Int›/\‹Int›<=(cap:Int):=by omega
  simp [Instr.sliceBounds,hv,FD this]
  omega
 ·cases lov <;> simp at hlo
  cases hiv <;> simp at hhi
  rename_i k x k' y o o'
  obtain⟨hv,hv'⟩:=two (x:=o) (y:=o') (by simpa using hx)
  have hv:=hv.int_inv;have hv':=hv'.int_inv
  have h1:0<=y/\y<=(cap:Int):=by omega
  have h2:0<=x/\x<=(y.toNat:Int):=by omega
  simp [Instr.sliceBounds,hv,hv',FD h1,FD h2]
  omega
theorem Yn0{x:Operand}{t el:TypeId}{size:Nat}{lov hiv:Option Operand}{xs:List SV}{e:Ef}(hu:P.underlying t=some (.slice el))(hs:sizeOf? P el=some size)
 (he:Bb size lov.isSome hiv.isSome xs=some e)(hpre:e.pre)(hx:RepL w bs B xs ((x::(lov.toList++hiv.toList)).map ρ))(hH:Hp w bs B hp):QOk P ρ (.slice t x lov hiv none) w bs B e:=by
 have run (a:Option Addr) (n c l h:Nat) (hv:ρ x= .slice a n c) (hb:(Instr.sliceBounds true n c (lov.map ρ) (hiv.map ρ) none).run P w= .ok (l,h,c) w) (dst type pos after guard):
  (execOp ρ ⟨dst,.slice t x lov hiv none,type,pos,after,guard⟩).run P w= .ok (.value (.slice (if c=l then a else a.map (·.add (l*size))) (h-l) (c-l))) w:=by
  simp [execOp,Instr.sliceAt,Instr.slice,run_underlying hu,hv,hb,Qy hs]
 unfold Bb at he
 split at he
 ·rename_i y l
  obtain⟨v,vs,hvs,h1,h2⟩:=hx.cons_inv
  simp only[KH,List.cons.injEq]at hvs
  obtain⟨hρ,rfl⟩:=hvs
  split at he
  ·rename_i t' z n sz get
   obtain⟨⟨p,a,b⟩,hb,he⟩:=YE.1 he
   cases Ko he
   obtain⟨rfl,hpp⟩:=hpre
   cases h1 with
   |x _ _ h1=>
    cases h1 with
    |vs _ _ _ _ _ ad cap vals hz hc hn hcell h=>
     obtain⟨hrun,hab,hbn⟩:=CZ (P:=P) (isSlice:=true) hb hpp rfl hc rfl rfl h2
     refine⟨rfl,_,fun dst type pos after guard=>run _ _ _ _ _ hρ hrun ..,?_⟩
     rw[Ych]
     refine .x _ _ (.vs _ _ _ _ _ _ _ (fun k=>vals (a+k)) ?_ (by omega) ?_ ?_ ?_)
     ·split
      ·exact hz
      ·cases ad <;> simpa using hz
     ·intro hnone
      split at hnone
      ·have:=hn hnone;omega
      ·cases ad with
       |none=>have:=hn rfl;omega
       |some _=>simp at hnone
     ·intro k hk
      obtain⟨ad',had,h3,h4,h5,h6,h7⟩:=hcell (a+k) (by omega)
      subst had
      rw[if_neg (by omega)]
      refine⟨ad'.add (a*sz),rfl,?_,?_,?_,h6,?_⟩ <;> rw[Da h3]
      ·exact h4
      ·exact h5
      ·show Cells w ad'.block (ad'.off+a*sz+k*sz) _
       rw[Zk,<-YM];exact h7
     ·intro k hk
      rw[HI]
      exact h (a+k) (by omega)
  ·rename_i j o n sz
   obtain⟨⟨p,a,b⟩,hb,he⟩:=YE.1 he
   cases Ko he
   obtain⟨rfl,hpp⟩:=hpre
   cases h1 with
   |x _ _ h1=>cases h1
   |own _ _ _ _ bb cap m ad hbs hl ha=>
    have hm:=hH.le hbs
    obtain⟨hrun,hab,hbn⟩:=CZ (P:=P) (isSlice:=true) (cap:=cap-o) hb hpp rfl (by omega) rfl rfl h2
    refine⟨rfl,_,fun dst type pos after guard=>run _ _ _ _ _ hρ hrun ..,?_⟩
    rw[Ych,HI,Nat.sub_sub]
    by_cases hca:cap-o=a
    ·rw[if_pos hca]
     refine .own _ _ _ _ bb cap m ad hbs (by omega) ?_
     by_cases ha0:a=0
     ·subst ha0;simpa using ha
     ·right;omega
    ·rw[if_neg hca]
     refine .own _ _ _ _ bb cap m _ hbs (by omega) ?_
     rcases ha with rfl|ha
     ·left;simp [ZH,YM]
     ·right;omega
   |ownNil _ _ hbs=>
    obtain⟨hrun,hab,hbn⟩:=CZ (P:=P) (isSlice:=true) (cap:=0) hb hpp rfl (Yt _) rfl rfl h2
    have ha0:a=0:=by omega
    have hb0:b=0:=by omega
    subst ha0;subst hb0
    refine⟨rfl,_,fun dst type pos after guard=>run _ _ _ _ _ hρ hrun ..,?_⟩
    simpa [VE,QE]using Rep.ownNil (w:=w) (B:=B) _ _ hbs
  ·cases he
 ·cases he
theorem YnY{x hi mx:Operand}{t el:TypeId}{size:Nat}{xs:List SV}{e:Ef}(hu:P.underlying t=some (.slice el))(hs:sizeOf? P el=some size)
 (he:Bc size xs=some e)(hpre:e.pre)(hx:RepL w bs B xs ([x,hi,mx].map ρ))(hH:Hp w bs B hp):QOk P ρ (.slice t x none (some hi) (some mx)) w bs B e:=by
 unfold Bc at he
 split at he
 ·rename_i y k b k' c'
  obtain⟨v,vs,hvs,h1,hx2⟩:=hx.cons_inv
  simp only[KH,List.cons.injEq,Vf]at hvs
  obtain⟨hρ,rfl⟩:=hvs
  obtain⟨h2,h3⟩:=two (x:=hi) (y:=mx) hx2
  have h2:=h2.int_inv;have h3:=h3.int_inv
  have run (a:Option Addr) (n cap bb:Nat) (hv:ρ x= .slice a n cap) (hb:b=bb) (hc:c'=bb) (hbn:bb<=cap) (dst type pos after guard):
   (execOp ρ ⟨dst,.slice t x none (some hi) (some mx),type,pos,after,guard⟩).run P w= .ok (.value (.slice (if bb=0 then a else a.map (·.add 0)) bb bb)) w:=by
   subst hb hc
   have r1:0<=(bb:Int)/\(bb:Int)<=(cap:Int):=by omega
   have r2:0<=(bb:Int)/\(bb:Int)<=((bb:Nat):Int):=by omega
   simp [execOp,Instr.sliceAt,Instr.slice,Instr.sliceBounds,run_underlying hu,hv,h2,h3,FD r1,FD r2,Qy hs]
  split at he
  ·cases Ko he
   obtain⟨hb,hc⟩:=hpre
   refine⟨rfl,_,fun dst type pos after guard=>run none 0 0 0 (hρ.trans h1.nil_inv) (by simpa using hb) (by simpa using hc) (Yt _) ..,?_⟩
   exact .x _ _ .nil
  ·rename_i t' z n sz get
   cases Ko he
   obtain⟨rfl,h0,hbn,hc⟩:=hpre
   cases h1 with
   |x _ _ h1=>
    cases h1 with
    |vs _ _ _ _ _ ad cap vals hz hcap hn hcell h=>
     refine⟨rfl,_,fun dst type pos after guard=>run ad n cap b.toNat hρ (by omega) (by omega) (by omega) ..,?_⟩
     have e:(if b.toNat=0 then ad else ad.map (·.add 0))=ad:=by
      split
      ·rfl
      ·obtain⟨ad',rfl,h4,_⟩:=hcell 0 (by omega)
       obtain⟨bl,of,sp⟩:=ad'
       simp only at h4
       subst h4
       simp [ZH]
     rw[e]
     refine .cut _ ad b.toNat cap (.x _ _ (.vs _ _ _ _ _ ad cap vals hz (by omega) (fun hnone=>?_) (fun k hk=>hcell k (by omega)) (fun k hk=>h k (by omega))))
     have:=hn hnone
     omega
  ·rename_i j o n sz
   cases Ko he
   obtain⟨rfl,h0,hbn,hc⟩:=hpre
   cases h1 with
   |x _ _ h1=>cases h1
   |own _ _ _ _ bb cap m ad hbs hl ha=>
    have hm:=hH.le hbs
    refine⟨rfl,_,fun dst type pos after guard=>run (some ad) n (cap-o) b.toNat hρ (by omega) (by omega) (by omega) ..,?_⟩
    have e:(if b.toNat=0 then some ad else(some ad).map (·.add 0))=some ad:=by
     split
     ·rfl
     ·rcases ha with rfl|ha
      ·simp [ZH]
      ·omega
    rw[e]
    exact .cut _ (some ad) b.toNat (cap-o) (.own _ _ _ _ bb cap m ad hbs (by omega) ha)
   |ownNil _ _ hbs=>
    have hb0:b.toNat=0:=by omega
    refine⟨rfl,_,fun dst type pos after guard=>run none 0 0 0 hρ (by omega) (by omega) (Yt _) ..,?_⟩
    rw[hb0]
    exact .cut _ none 0 0 (.ownNil _ _ hbs)
  ·cases he
 ·cases he
theorem YnZ{x:Operand}{t el:TypeId}{n size:Nat}{lov hiv:Option Operand}{xs:List SV}{e:Ef}(hu:P.underlying t=some (.array n el))(hs:sizeOf? P el=some size)
 (he:Hf hp n size lov.isSome hiv.isSome xs=some e)(hpre:e.pre)(hx:RepL w bs B xs ((x::(lov.toList++hiv.toList)).map ρ))(hH:Hp w bs B hp):QOk P ρ (.slice t x lov hiv none) w bs B e:=by
 unfold Hf at he
 split at he
 ·rename_i jj hl1 hl2
  cases lov with
  |some _=>simp at hl1
  |none=>
  cases hiv with
  |some _=>simp at hl2
  |none=>
  have h3:=Wf (x:=x) (by simpa using hx)
  obtain⟨b,m,hb,hv⟩:=h3.ptr_inv
  split at he
  ·rename_i hg
   cases Ko he
   obtain⟨rfl,rfl⟩:=hpre
   have hent:=hH.ent jj
   rw[hg]at hent
   rcases hent with⟨h,_⟩ | ⟨b',cap,vs,T,h4,h5,h6,h7,h8,h9⟩
   ·rw[hb]at h;cases h
   ·rw[hb]at h4;cases h4
    refine⟨rfl,_,fun dst type pos after guard=>?_,Rep.own _ 0 _ _ b _ _ ⟨b,0,none⟩ hb (by omega) (.inl (by simp))⟩
    simp [execOp,Instr.sliceAt,run_underlying hu,hv,Instr.sureAddr,Instr.sliceBounds,Qy hs,ZH]
  ·cases he
 ·cases he
theorem YjO{fn:Fn}{fs cs:Array Operand}{xs:List SV}(hx:RepL w bs B xs ((fs.toList++cs.toList).map ρ)):
 QOk P ρ (.makeFunc fn fs cs) w bs B ⟨True,.fn fn (YP fs.size xs) (YF fs.size xs),.no⟩:=by
 refine⟨rfl,.func fn (fs.map ρ) (cs.map ρ),fun dst type pos after guard=>?_,?_⟩
 ·simp [execOp,Instr.makeFunc]
 ·have h1:=hx.take fs.size
  have h2:=hx.drop fs.size
  rw[List.map_append]at h1 h2
  have e1:((fs.toList.map ρ)++(cs.toList.map ρ)).take fs.size=fs.toList.map ρ:=by simp
  have e2:((fs.toList.map ρ)++(cs.toList.map ρ)).drop fs.size=cs.toList.map ρ:=by simp
  rw[e1]at h1;rw[e2]at h2
  have:=Rep.fn fn _ _ _ _ h1 h2
  have e3:(fs.toList.map ρ).toArray=fs.map ρ:=by apply Array.ext';simp
  have e4:(cs.toList.map ρ).toArray=cs.map ρ:=by apply Array.ext';simp
  rw[e3,e4]at this
  exact this
theorem O9(y:SV)(u:Value)(hy:one y)(hr:Rep w bs B y u):u.oneCell'=true:=by
 cases hr with
 |x _ _ h=>cases h <;> first|rfl|exact hy|exact hy.elim
 |optT _ _ _=>exact hy.elim
 |optF _=>exact hy.elim
 |cut=>exact hy.elim
 |agg _ _ _=>exact hy.elim
 |tup _ _ _=>exact hy.elim
 |_=>rfl
theorem Yaa:∀(l:List SV)(us:List Value),Jg l->RepL w bs B l us->∀u∈us,u.oneCell'=true:=by
 intro l
 induction l with
 |nil=>intro us _ hr;cases hr;simp
 |cons y l ih=>
  intro us ho hr
  obtain⟨u,us',rfl,h1,h2⟩:=hr.cons_inv
  intro a ha
  rcases Kz.1 ha with rfl|ha
  ·exact O9 _ _ ho.1 h1
  ·exact ih _ ho.2 h2 a ha
theorem CN{x:SV}{v:Value}(h:Jg (Z5 x))(hx:Rep w bs B x v):RepL w bs B (Z5 x) v.cells.toList/\∀u∈v.cells.toList,u.oneCell'=true:=by
 unfold Z5 at h⊢
 split at h
 ·rename_i cs
  obtain⟨vs,rfl,hr⟩:=hx.agg_inv
  exact⟨by simpa [Value.cells]using hr,by simpa [Value.cells]using Yaa _ _ h hr⟩
 ·rename_i hna
  have h1:=O9 _ _ h.1 hx
  have hc:v.cells= #[v]:=by cases v <;> simp_all [Value.cells,Value.oneCell']
  rw[hc]
  refine⟨.cons _ _ _ _ hx .nil,by simpa using h1⟩
theorem T1:∀(vs:List Value)(cs:Array Value)(off n:Nat),off+n+vs.length<=cs.size->
 ((vs.zipIdx n).foldl (fun(cs:Array Value) (x:Value×Nat)=>cs.setIfInBounds (off+x.2) x.1) cs).toList=JH cs.toList (off+n) vs
 | [],cs,off,n,h=>by simp [JH]
 |v::vs,cs,off,n,h=>by
  have ih:=T1 vs (cs.setIfInBounds (off+n) v) off (n+1) (by simp at h⊢;omega)
  simp only[List.zipIdx_cons,List.foldl_cons]
  rw[ih]
  simp only[XS]at h
  have hk:off+n<cs.toList.length:=by simp;omega
  rw[Array.toList_setIfInBounds,show off+(n+1)=off+n+1 by omega]
  generalize off+n=k at hk h
  generalize cs.toList=l at hk
  have e1:(l.set k v).take (k+1)=l.take k++[v]:=by
   rw[List.set_eq_take_append_cons_drop,if_pos hk,List.take_append]
   simp [Qs,Nat.min_eq_left (JZ hk)]
   exact List.take_of_length_le (by simp;omega)
  have e2:(l.set k v).drop (k+1+vs.length)=l.drop (k+(vs.length+1)):=by
   rw[List.set_eq_take_append_cons_drop,if_pos hk,List.drop_append]
   simp [Qs,Nat.min_eq_left (JZ hk)]
   rw[show k+1+vs.length-k=vs.length+1 by omega]
   simp only[List.drop_succ_cons,List.drop_drop]
   rw[List.drop_of_length_le (by simp;omega),VP]
   congr 1;omega
  simp [JH,e1,e2]
theorem Yb8{cs:List Value}{off:Nat}{vs:List Value}(h:off+vs.length<=cs.length):(JH cs off vs).length=cs.length:=by
 simp [JH];omega
theorem Lq:∀(cs:List SV)(off:Nat)(vs:List SV),YK (J6 cs off vs)=YK cs
 |cs,0,[]=>by cases cs <;> rfl
 | [],0,_::_=>rfl
 | [],_+1,_=>rfl
 |c::cs,0,v::vs=>by simp [J6,YK,Lq cs 0 vs]
 |c::cs,n+1,vs=>by simp [J6,YK,Lq cs n vs]
theorem Bm{place:Nat->Option (Nat×Nat)}:∀{parts:List (Nat×Operand)}{pl:List (Nat×Nat)}{xs:List SV}{cs r:List SV}{cells:Array Value}{p:Prop},
 Z8 cs pl xs=some (p,r)->p->pl=parts.map (fun x=>(place x.1).getD (0,0))->(∀x∈parts,(place x.1).isSome=true)->
 RepL w bs B cs cells.toList->RepL w bs B xs (parts.map fun x=>ρ x.2)->
 ∃out,Instr.fill place cells (parts.map fun x=>(x.1,ρ x.2))=some out/\RepL w bs B r out.toList
 | [],pl,xs,cs,r,cells,p,h,hpp,hpl,_,hc,hx=>by
   subst hpl;cases hx
   simp only[Vf,Z8,Option.some.injEq,Prod.mk.injEq]at h
   obtain⟨_,rfl⟩:=h
   exact⟨cells,rfl,hc⟩
 | (i,o)::parts,pl,xs,cs,r,cells,p,h,hpp,hpl,hs,hc,hx=>by
   subst hpl
   simp only[KH]at hx h⊢
   cases hx with
   |cons x v l vs h1 h2=>
   simp only[Z8]at h
   obtain⟨⟨q,r'⟩,hq,heq⟩:=YQ.1 h
   simp only[Prod.mk.injEq]at heq
   obtain⟨rfl,rfl⟩:=heq
   obtain⟨hsz,hones,hoff,hqq⟩:=hpp
   have hplace:=hs (i,o) (by simp)
   obtain⟨⟨off,size⟩,hpl⟩:=Option.isSome_iff_exists.1 hplace
   simp only at hpl
   simp only[hpl,Option.getD_some]at hq hsz hoff
   obtain⟨hcl,_⟩:=CN hones h1
   have hl1:(ρ o).cells.size=size:=by rw[<-hsz,hcl.length];simp
   have hl2:off+(ρ o).cells.size<=cells.size:=by rw[hl1];rw[hc.length]at hoff;simpa using hoff
   have hsp:=hc.splice off hcl (by rw[hsz];exact hoff)
   let cells':Array Value:=(ρ o).cells.zipIdx.foldl (fun cs (c,j)=>cs.setIfInBounds (off+j) c) cells
   have hf:cells'.toList=JH cells.toList off (ρ o).cells.toList:=by
    have:=T1 (ρ o).cells.toList cells off 0 (by simpa using hl2)
    simp only[KO]at this
    rw[<-this]
    simp only[cells',<-Array.foldl_toList,Array.toList_zipIdx]
   rw[<-hf]at hsp
   obtain⟨out,ho,hr⟩:=Bm (parts:=parts) (cells:=cells') hq hqq rfl (fun x hx=>hs x (by simp [hx])) hsp h2
   refine⟨out,?_,hr⟩
   simp only[Instr.fill,hpl]
   rw[if_neg (by simp [hl1];omega)]
   exact ho
theorem Hu{t:TypeId}{z:List SV}(h:Qq P t=some z):∃v,(zeroValue t).run P w= .ok v w/\RepL w bs B z v.cells.toList:=by
 unfold Qq at h
 obtain⟨i,h1,h2⟩:=YE.1 h
 obtain⟨v,h3,h4⟩:=YQ.1 h2
 refine⟨v,by simp [zeroValue,typeInfo,h1,h3],?_⟩
 subst h4
 have:∀(l:List Value),RepL w bs B (l.map U8) l:=by
  intro l
  induction l with
  |nil=>exact .nil
  |cons x l ih=>
   refine .cons _ _ _ _ (.x _ _ ?_) ih
   unfold U8
   split <;> constructor
 exact this _
theorem YnC{fs:List Field}{pl:List (Nat×Nat)}(h:(fs.mapM fun f=>(sizeOf? P f.type).map fun s=>(f.offset,s))=some pl):
 ((fs.mapM fun(f:Field)=>Functor.map (Prod.mk f.offset) (sizeOf f.type):Sem (List (Nat×Nat)))).run P w= .ok pl w:=by
 induction fs generalizing pl with
 |nil=>simp at h;subst h;simp
 |cons f fs ih=>
  simp only[List.mapM_cons,Option.bind_eq_bind,Option.pure_def]at h
  obtain⟨a,h1,h2⟩:=YE.1 h
  obtain⟨s,h3,h4⟩:=YQ.1 h1
  obtain⟨pl',h5,h6⟩:=YE.1 h2
  simp only[Option.some.injEq]at h6
  subst h6;subst h4
  have ih':=ih h5
  simp [List.mapM_cons,Qy h3,ih']
theorem YfR{t:TypeId}{parts:Array (Nat×Operand)}{z:List SV}{fs:Array Field}{pl:List (Nat×Nat)}{xs:List SV}{p:Prop}{cs:List SV}
 (hz:Qq P t=some z)(hu:P.underlying t=some (.struct fs))(hpl:Nf P t=some pl)(hin:∀x∈parts.toList,x.1<pl.length)
 (he:Z8 z (parts.toList.map fun p=>pl.getD p.1 (0,0)) xs=some (p,cs))(hpre:p)(hx:RepL w bs B xs ((parts.toList.map (·.2)).map ρ)):
 QOk P ρ (.build t parts) w bs B ⟨p,.agg cs,.no⟩:=by
 obtain⟨v,hv,hr⟩:=Hu (P:=P) (w:=w) (bs:=bs) (B:=B) hz
 unfold Nf at hpl
 simp only[hu]at hpl
 have hplaces:=YnC (P:=P) (w:=w) hpl
 obtain⟨out,ho,hro⟩:=Bm (ρ:=ρ) (place:=(pl.toArray[·]?)) (parts:=parts.toList) (cells:=v.cells) he hpre (by
  apply List.map_congr_left
  intro x hx
  simp [List.getD]) (fun x hx=>by simp [hin x hx]) hr (by rw[List.map_map]at hx;exact hx)
 refine⟨rfl,.agg out,fun dst type pos after guard=>?_,?_⟩
 ·have hm:(fs.mapM fun(f:Field)=>Functor.map (Prod.mk f.offset) (sizeOf f.type):Sem (Array (Nat×Nat))).run P w= .ok pl.toArray w:=by
   rw[Array.mapM_eq_mapM_toList]
   simp [hplaces]
  have ho':Instr.fill (fun x=>pl.toArray[x]?) v.cells (Array.map (fun x=>(x.fst,ρ x.snd)) parts).toList=some out:=by
   rw[Array.toList_map];exact ho
  simp only[execOp,Instr.build,bind_pure_comp,Sem.run_map,Sem.run_bind,hv,Result.andThen_ok,run_underlying hu,hm,ho',Sem.run_pure]
 ·have:=Rep.agg (w:=w) (bs:=bs) (B:=B) cs out.toList hro
  simpa using this
theorem YfP{t e n s:Nat}{parts:Array (Nat×Operand)}{z:List SV}{xs:List SV}{p:Prop}{cs:List SV}
 (hz:Qq P t=some z)(hu:P.underlying t=some (.array n e))(hs:sizeOf? P e=some s)(hin:∀x∈parts.toList,x.1<((List.range n).map fun i=>(i*s,s)).length)
 (he:Z8 z (parts.toList.map fun p=>((List.range n).map fun i=>(i*s,s)).getD p.1 (0,0)) xs=some (p,cs))(hpre:p)(hx:RepL w bs B xs ((parts.toList.map (·.2)).map ρ)):
 QOk P ρ (.build t parts) w bs B ⟨p,.agg cs,.no⟩:=by
 obtain⟨v,hv,hr⟩:=Hu (P:=P) (w:=w) (bs:=bs) (B:=B) hz
 obtain⟨out,ho,hro⟩:=Bm (ρ:=ρ) (place:=fun i=>some (i*s,s)) (parts:=parts.toList) (cells:=v.cells) he hpre (by
  apply List.map_congr_left
  intro x hx
  have:=hin x hx
  simp only[VN,List.length_range]at this
  simp [List.getD,this]) (fun x hx=>rfl) hr (by rw[List.map_map]at hx;exact hx)
 refine⟨rfl,.agg out,fun dst type pos after guard=>?_,?_⟩
 ·have ho':Instr.fill (fun i=>some (i*s,s)) v.cells (Array.map (fun x=>(x.fst,ρ x.snd)) parts).toList=some out:=by
   rw[Array.toList_map];exact ho
  simp only[execOp,Instr.build,bind_pure_comp,Sem.run_map,Sem.run_bind,hv,Result.andThen_ok,run_underlying hu,Qy hs,ho',Sem.run_pure]
 ·have:=Rep.agg (w:=w) (bs:=bs) (B:=B) cs out.toList hro
  simpa using this
theorem Uy{α:Type}{l:List α}{k:Nat}{x:α}{r:List α}(h:l.drop k=x::r):l[k]? =some x/\l.drop (k+1)=r:=by
 constructor
 ·have:(l.drop k)[0]? =some x:=by rw[h];rfl
  simpa using this
 ·rw[<-List.drop_drop,h];rfl
theorem Lb{t:TypeId}{b:Bool}(hk:Gn P t=some b):(b=true/\∃k,P.underlying t=some (.int k))\/(b=false/\P.underlying t=some .bool):=by
 unfold Gn at hk
 split at hk
 ·cases hk;exact .inl ⟨rfl,_,‹_›⟩
 ·cases hk;exact .inr ⟨rfl,‹_›⟩
 ·cases hk
theorem Ny{t:TypeId}{l:List Value}{k:Nat}{v:Value}{b:Bool}(hk:Gn P t=some b)(hv:l[k]? =some v):(part t l.toArray k).run P w= .ok v w:=by
 have ha:ZI P t=some false:=by
  unfold ZI
  rcases Lb hk with⟨_,_,h⟩ | ⟨_,h⟩ <;> simp [h]
 simp [part,FC ha,hv]
theorem Ey{d:Nat}{X Y:List Value}:∀{fs:List Field}{k:Nat}{ks:List Bool}{cs ds:List SV}{p:Prop}{b:Bool},Hl P k fs=some ks->Qu ks cs ds=some (p,b)->p->
 RepL w bs B cs (X.drop k)->RepL w bs B ds (Y.drop k)->(Op.eqFields (d+1) X.toArray Y.toArray fs).run P w= .ok b w
 | [],k,ks,cs,ds,p,b,hk,he,hp,_,_=>by
   simp only[Hl,Option.some.injEq]at hk;subst hk
   cases cs <;> cases ds <;> simp [Qu]at he
   simp [Op.eqFields,he.2]
 |f::fs,k,ks,cs,ds,p,b,hk,he,hp,hc,hd=>by
  simp only[Hl]at hk
  split at hk
  ·rename_i hcond
   simp only[YS,beq_iff_eq,bne_iff_ne,ne_eq]at hcond
   obtain⟨⟨h1,h2⟩,h3⟩:=hcond
   obtain⟨kb,hkb,hk⟩:=YE.1 hk
   obtain⟨ks',hks,rfl⟩:=YQ.1 hk
   have key:∀(vx vy:Value)(l r:List SV)(c b':Bool)(q:Prop),Qu ks' l r=some (q,b')->q->b=(c&&b')->X.drop k=vx::X.drop (k+1)->Y.drop k=vy::Y.drop (k+1)->
    RepL w bs B l (X.drop (k+1))->RepL w bs B r (Y.drop (k+1))->(Op.equalIn (d+1) f.type vx vy).run P w= .ok c w->
    (Op.eqFields (d+1) X.toArray Y.toArray (f::fs)).run P w= .ok b w:=by
    intro vx vy l r c b' q hq hqq hb hX hY hl hr hrun
    have ih:=Ey (d:=d) hks hq hqq hl hr
    have hX1:=(Uy hX).1
    have hY1:=(Uy hY).1
    subst hb
    simp only[Op.eqFields,ne_eq,h3,not_false_eq_true,if_true,h2,Sem.run_bind,Ny hkb hX1,Ny hkb hY1,Result.andThen_ok,hrun,Sem.run_ite,ih]
    cases c <;> simp
   cases cs with
   |nil=>exact absurd he (by cases kb <;> simp [Qu])
   |cons x l=>
   cases ds with
   |nil=>exact absurd he (by cases kb <;> cases x <;> simp [Qu])
   |cons y r=>
   obtain⟨vx,l1,hX,hvx,hl1⟩:=hc.cons_inv
   obtain⟨vy,l2,hY,hvy,hl2⟩:=hd.cons_inv
   obtain⟨_,rfl⟩:=Uy hX
   obtain⟨_,rfl⟩:=Uy hY
   rcases Lb hkb with⟨rfl,ik,hu⟩ | ⟨rfl,hu⟩
   ·cases x <;> cases y <;> simp only[Qu,reduceCtorEq]at he
    obtain⟨⟨q,b'⟩,hq,he⟩:=YQ.1 he
    simp only[Prod.mk.injEq]at he
    obtain⟨rfl,rfl⟩:=he
    obtain⟨rfl,hp⟩:=hp
    have hvx:=hvx.int_inv;have hvy:=hvy.int_inv;subst hvx;subst hvy
    refine key _ _ _ _ _ _ _ hq hp rfl hX hY hl1 hl2 ?_
    rw[run_equalIn_int w d f.type _ ik _ _ hu]
    congr 1
   ·cases x <;> cases y <;> simp only[Qu,reduceCtorEq]at he
    obtain⟨⟨q,b'⟩,hq,he⟩:=YQ.1 he
    simp only[Prod.mk.injEq]at he
    obtain⟨rfl,rfl⟩:=he
    have hvx:=hvx.bool_inv;have hvy:=hvy.bool_inv;subst hvx;subst hvy
    exact key _ _ _ _ _ _ _ hq hp rfl hX hY hl1 hl2 (run_equalIn_bool w d f.type _ _ hu)
  ·cases hk
theorem TH{d:Nat}{X Y:List Value}{e:TypeId}{kb:Bool}(hkb:Gn P e=some kb):∀{n k:Nat}{cs ds:List SV}{p:Prop}{b:Bool},Qu (Fx n kb) cs ds=some (p,b)->p->
 RepL w bs B cs (X.drop k)->RepL w bs B ds (Y.drop k)->(Op.eqItems (d+1) e 1 X.toArray Y.toArray (List.range' k n)).run P w= .ok b w
 |0,k,cs,ds,p,b,he,hp,_,_=>by
  simp only[Fx]at he
  cases cs <;> cases ds <;> simp [Qu]at he
  simp [Op.eqItems,he.2]
 |n+1,k,cs,ds,p,b,he,hp,hc,hd=>by
  simp only[Fx]at he
  have key:∀(vx vy:Value)(l r:List SV)(c b':Bool)(q:Prop),Qu (Fx n kb) l r=some (q,b')->q->b=(c&&b')->X.drop k=vx::X.drop (k+1)->Y.drop k=vy::Y.drop (k+1)->
   RepL w bs B l (X.drop (k+1))->RepL w bs B r (Y.drop (k+1))->(Op.equalIn (d+1) e vx vy).run P w= .ok c w->
   (Op.eqItems (d+1) e 1 X.toArray Y.toArray (List.range' k (n+1))).run P w= .ok b w:=by
   intro vx vy l r c b' q hq hqq hb hX hY hl hr hrun
   have ih:=TH (d:=d) hkb hq hqq hl hr
   have hX1:=(Uy hX).1
   have hY1:=(Uy hY).1
   subst hb
   simp only[List.range'_succ,Op.eqItems,Y0,Sem.run_bind,Ny hkb hX1,Ny hkb hY1,Result.andThen_ok,hrun,Sem.run_ite,ih]
   cases c <;> simp
  cases cs with
  |nil=>exact absurd he (by cases kb <;> simp [Qu])
  |cons x l=>
  cases ds with
  |nil=>exact absurd he (by cases kb <;> cases x <;> simp [Qu])
  |cons y r=>
  obtain⟨vx,l1,hX,hvx,hl1⟩:=hc.cons_inv
  obtain⟨vy,l2,hY,hvy,hl2⟩:=hd.cons_inv
  obtain⟨_,rfl⟩:=Uy hX
  obtain⟨_,rfl⟩:=Uy hY
  rcases Lb hkb with⟨rfl,ik,hu⟩ | ⟨rfl,hu⟩
  ·cases x <;> cases y <;> simp only[Qu,reduceCtorEq]at he
   obtain⟨⟨q,b'⟩,hq,he⟩:=YQ.1 he
   simp only[Prod.mk.injEq]at he
   obtain⟨rfl,rfl⟩:=he
   obtain⟨rfl,hp⟩:=hp
   have hvx:=hvx.int_inv;have hvy:=hvy.int_inv;subst hvx;subst hvy
   refine key _ _ _ _ _ _ _ hq hp rfl hX hY hl1 hl2 ?_
   rw[run_equalIn_int w d e _ ik _ _ hu]
   congr 1
  ·cases x <;> cases y <;> simp only[Qu,reduceCtorEq]at he
   obtain⟨⟨q,b'⟩,hq,he⟩:=YQ.1 he
   simp only[Prod.mk.injEq]at he
   obtain⟨rfl,rfl⟩:=he
   have hvx:=hvx.bool_inv;have hvy:=hvy.bool_inv;subst hvx;subst hvy
   exact key _ _ _ _ _ _ _ hq hp rfl hX hY hl1 hl2 (run_equalIn_bool w d e _ _ hu)
theorem TK{neg:Bool}{t yt:TypeId}{x y:Operand}{op:BinOp}{ks:List Bool}{xs:List SV}{e:Ef}(hop:op=if neg then .neq else .eql)(ht:Ac P t=some ks)
 (he:DQ neg ks xs=some e)(hpre:e.pre)(hx:RepL w bs B xs ([x,y].map ρ)):QOk P ρ (.binOp op t x y yt) w bs B e:=by
 unfold DQ at he
 split at he
 ·rename_i cs ds
  obtain⟨⟨p,b⟩,hb,he⟩:=YE.1 he
  cases Ko he
  obtain⟨h1,h2⟩:=two hx
  obtain⟨X,h1,hr1⟩:=h1.agg_inv
  obtain⟨Y,h2,hr2⟩:=h2.agg_inv
  unfold Ac at ht
  split at ht
  ·rename_i n e hu
   split at ht
   ·rename_i hc
    simp only[YS,ZY]at hc
    obtain⟨kb,hkb,rfl⟩:=YQ.1 ht
    obtain⟨i,hi,hsz⟩:∃i,P.info? e=some i/\i.size=1:=by
     have:=hc.2
     unfold AW at this
     split at this
     ·exact⟨_,‹_›,by simpa using this⟩
     ·cases this
    have hco:P.cellsOf e=1:=by simp [Program.cellsOf,hi,hsz]
    have hrun:=run_equalIn_array (P:=P) (w:=w) 9999 X.toArray Y.toArray hu hi
    rw[hco,List.range_eq_range',TH (d:=9998) (X:=X) (Y:=Y) hkb hb hpre (by simpa using hr1) (by simpa using hr2)]at hrun
    have hg:=run_eqGuard_agg (P:=P) w op t x y X.toArray Y.toArray hc.1
    cases neg <;> subst hop
    ·refine⟨rfl,.bool b,fun dst type pos after guard=>?_,.x _ _ (.bool _)⟩
     simp only[if_false,XQ]at hg⊢
     simp [execOp,h1,h2,hg,run_eql_struct,hrun]
    ·refine⟨rfl,.bool (!b),fun dst type pos after guard=>?_,.x _ _ (.bool _)⟩
     simp only[if_true]at hg⊢
     simp [execOp,h1,h2,hg,run_neq_struct,hrun]
   ·cases ht
  ·rename_i fs hu
   split at ht
   ·rename_i hc
    simp only[YS,ZY]at hc
    have hu':P.underlying t=some (.struct (P.fieldsOf t)):=by simp [Program.fieldsOf,hu]
    have hf:(P.fieldsOf t).toList=fs.toList:=by simp [Program.fieldsOf,hu]
    have hrun:=run_equalIn_struct (P:=P) w 9999 t X.toArray Y.toArray hu' hc.1
    rw[hf,Ey (d:=9998) (X:=X) (Y:=Y) ht hb hpre (by simpa using hr1) (by simpa using hr2)]at hrun
    have hg:=run_eqGuard_agg (P:=P) w op t x y X.toArray Y.toArray hc.2
    cases neg <;> subst hop
    ·refine⟨rfl,.bool b,fun dst type pos after guard=>?_,.x _ _ (.bool _)⟩
     simp only[if_false,XQ]at hg⊢
     simp [execOp,h1,h2,hg,run_eql_struct,hrun]
    ·refine⟨rfl,.bool (!b),fun dst type pos after guard=>?_,.x _ _ (.bool _)⟩
     simp only[if_true]at hg⊢
     simp [execOp,h1,h2,hg,run_neq_struct,hrun]
   ·cases ht
  ·cases ht
 ·cases he
theorem Ynx(d:Nat)(t el:TypeId)(a:Option Addr)(l c:Nat)(h:P.underlying t=some (.slice el)):(Op.equalIn (d+1) t (.slice a l c) (.slice none 0 0)).run P w= .ok a.isNone w:=by
 cases a <;> simp [Op.equalIn,run_underlying h]
theorem Yny(t el:TypeId)(a:Option Addr)(l c:Nat)(h:P.underlying t=some (.slice el)):(Op.equal t (.slice a l c) (.slice none 0 0)).run P w= .ok a.isNone w:=Ynx 9999 t el a l c h
theorem OO{neg:Bool}{t yt:TypeId}{x:Operand}{op:BinOp}{xs:List SV}{e:Ef}(hop:op=if neg then .neq else .eql)(ht:AX P t=true)
 (he:He hp neg xs=some e)(hρ:∀v,ρ (.const v)=v)(hx:RepL w bs B xs ([x,.const (.slice none 0 0)].map ρ))(hH:Hp w bs B hp):QOk P ρ (.binOp op t x (.const (.slice none 0 0)) yt) w bs B e:=by
 have hu:∃el,P.underlying t=some (.slice el):=by
  unfold AX at ht;split at ht
  ·exact⟨_,‹_›⟩
  ·cases ht
 obtain⟨el,hu⟩:=hu
 have run (a:Option Addr) (n c:Nat) (h:ρ x= .slice a n c):∀dst type pos after guard,(execOp ρ ⟨dst,.binOp op t x (.const (.slice none 0 0)) yt,type,pos,after,guard⟩).run P w=
  .ok (.value (.bool (Vs neg a.isNone))) w:=by
  intro dst type pos after guard
  have hr:=Yny (P:=P) (w:=w) t el a n c hu
  cases neg <;> subst hop <;> simp [execOp,h,hρ,eqGuard,binOp,hr,Vs]
 unfold He at he
 split at he
 ·rename_i y
  obtain⟨h1,_⟩:=two hx
  split at he
  ·cases Ko he
   exact⟨rfl,_,run _ _ _ h1.nil_inv,.x _ _ (.bool _)⟩
  ·cases Ko he
   cases h1 with
   |x _ _ h1=>
    generalize hv:ρ x=v at h1
    cases h1 with
    |vs _ _ _ _ _ a cap vals hz hc hn hcell h=>
     subst hz
     exact⟨rfl,_,run _ _ _ hv,.x _ _ (.bool _)⟩
  ·rename_i i lo n sz
   split at he
   ·rename_i z s' n' g hg
    cases Ko he
    have hent:=hH.ent i
    rw[hg]at hent
    generalize hv:ρ x=v at h1
    cases h1 with
    |x _ _ h1=>cases h1
    |own _ _ _ _ b cap m ad hbs hl ha=>
     rcases hent with⟨h,_⟩ | ⟨_,_,_,_,_,hz,_⟩
     ·rw[hbs]at h;cases h
     ·subst hz
      exact⟨rfl,_,run _ _ _ hv,.x _ _ (.bool _)⟩
    |ownNil _ _ hbs=>
     rcases hent with⟨_,hz,_⟩ | ⟨_,_,_,_,h,_⟩
     ·subst hz
      exact⟨rfl,_,run _ _ _ hv,.x _ _ (.bool _)⟩
     ·rw[hbs]at h;cases h
   ·cases he
  ·cases he
 ·cases he
end
end Go.Vx
