/- Intervals, in plain Lean: what spans and its reference compute. -/
import Derived.Test.YtlfhmpkopcnheaaGreatMgX40d
import Derived.Test.YtlfhmpkopcnheaaGreatMgX40e
import Derived.Test.YtlfhmpkopcnheaaGreatProg
import Derived.Sort.AssemblyPlain
open And renaming intro->YHB
open Array renaming getElem?_eq_some_iff->YHy
open Bool renaming and_eq_true->YHn,false_eq_true->YHG,not_eq_true->YIp,not_eq_true'->YHD,or_eq_false_iff->YHp,or_eq_true->YHS
open Int renaming eq_ofNat_of_zero_le->YHv,le_refl->YIs,mul_le_mul_of_nonneg_left->YHU,mul_nonneg->YIe,natCast_mul->YIj,toNat->YH0,toNat_natCast->YHj
open Go.IntWalk renaming i64_in->YHi,u64_in->YHJ
open List renaming any_eq_false->YHP,any_eq_true->YIt,foldl_cons->YHX,getD_eq_getElem?_getD->YHo,getElem?_append_left->YH6,getElem?_cons_zero->YH9,getElem?_eq_getElem->YH2,length_append->YHM,length_cons->YH8,map_cons->YHH,mem_append->YHO,mem_cons->YHI,mem_cons_of_mem->YHu,mem_cons_self->YHw,mem_map->YIr,mem_singleton->YHZ,range->YIc,take_length->YIq
open Nat renaming add_mul->YHT,div_add_mod->YH5,div_lt_iff_lt_mul->YHW,eq_zero_or_pos->YH4,le_div_iff_mul_le->YH7,le_refl->YHr,le_trans->YHC,lt_of_lt_of_le->YIa,lt_or_ge->YHA,mod_lt->YIk,mul_assoc->YHt,mul_comm->YHq,mul_le_mul->YHE,mul_le_mul_left->YHx,mul_le_mul_right->YHs,mul_pow->YIl,not_lt_zero->YIf,one_mul->YIu,pow_add->YHz,pow_le_pow_left->YHN,pow_mul->YHQ,pow_pos->YIv,reduceAdd->YHf,reduceEqDiff->YHg,reduceLeDiff->YHh,zero_add->YIb,zero_le->YHK
open Go.Proofs.Tryz renaming prog->YHk
set_option linter.all false
namespace Go.Proofs.YtlfhmpkopcnheaaGreat
open Go Go.Vx
abbrev Iv:=Int×Int
def YcD(x:Int):Bool:=decide (-4611686018427387904<=x)&&decide (x<=4611686018427387904)
def ivE(l:List Iv):Int:=if l.all (fun a=>YcD a.1&&YcD a.2)then(if l.all (fun a=>decide (a.1<=a.2))then 0 else 2)else 7
theorem YzQ{l:List Iv}{i:Nat}(h:i<l.length)(hb:(YcD (l.getD i default).1&&YcD (l.getD i default).2)=false):ivE l=7:=by
 rw[ivE,if_neg]
 intro hall
 have:=List.all_eq_true.1 hall _ (Yh h)
 rw[hb]at this;cases this
theorem ivE_2{l:List Iv}(ha:∀j,j<l.length->(YcD (l.getD j default).1&&YcD (l.getD j default).2)=true){i:Nat}(h:i<l.length)(hb:(l.getD i default).2<(l.getD i default).1):ivE l=2:=by
 rw[ivE,if_pos,if_neg]
 ·intro hall
  have:=List.all_eq_true.1 hall _ (Yh h)
  simp only[decide_eq_true_eq]at this;omega
 ·refine List.all_eq_true.2 fun x hx=>?_
  obtain⟨j,hj,rfl⟩:=YQ hx
  exact ha j hj
theorem ivE_0{l:List Iv}(ha:∀j,j<l.length->(YcD (l.getD j default).1&&YcD (l.getD j default).2)=true)(hb:∀j,j<l.length->(l.getD j default).1<=(l.getD j default).2):ivE l=0:=by
 rw[ivE,if_pos,if_pos]
 ·refine List.all_eq_true.2 fun x hx=>?_
  obtain⟨j,hj,rfl⟩:=YQ hx
  simpa using hb j hj
 ·refine List.all_eq_true.2 fun x hx=>?_
  obtain⟨j,hj,rfl⟩:=YQ hx
  exact ha j hj
theorem numOk_iff{x:Int}:YcD x=true↔ -4611686018427387904<=x/\x<=4611686018427387904:=by
 simp [YcD]
theorem ivE1{a:Iv}(h:ivE [a]=0):(-4611686018427387904<=a.1/\a.1<=4611686018427387904)/\(-4611686018427387904<=a.2/\a.2<=4611686018427387904)/\a.1<=a.2:=by
 unfold ivE at h
 split at h
 ·rename_i h1
  split at h
  ·rename_i h2
   simp only[List.all_cons,List.all_nil,Bool.and_true,YHn,decide_eq_true_eq]at h1 h2
   exact⟨numOk_iff.1 h1.1,numOk_iff.1 h1.2,h2⟩
  ·cases h
 ·cases h
def rndT(up:Bool)(x d:Int):Int:=if up then -((-x)/d)else x/d
def rndB(t:Int):Int×Bool:=if -4611686018427387904<=t/\t<=4611686018427387904 then(t,true)else(0,false)
def rndF(up:Bool)(x d:Int):Int×Bool:=rndB (rndT up x d)
def YhM(a b:Int×Bool):Iv×Int:=if a.2&&b.2 then((a.1,b.1),0)else((0,0),7)
def lowI(x:Int)(r:List Int):Int:=r.foldl (fun low y=>if y<low then y else low) x
def YbT(x:Int)(r:List Int):Int:=r.foldl (fun high y=>if high<y then y else high) x
def Yho(d:Int)(x:Int)(r:List Int):Iv×Int:=YhM (rndF false (lowI x r) d) (rndF true (YbT x r) d)
theorem Ysu(x:Int):∀(r:List Int),lowI x r∈x::r/\∀y∈x::r,lowI x r<=y:=by
 intro r
 induction r generalizing x with
 |nil=>exact⟨YHw,fun y hy=>by simp at hy;subst hy;exact YIs _⟩
 |cons a r ih=>
  have e:lowI x (a::r)=lowI (if a<x then a else x) r:=rfl
  rw[e]
  obtain⟨h1,h2⟩:=ih (if a<x then a else x)
  have h3:=h2 _ YHw
  generalize lowI (if a<x then a else x) r=L at*
  refine⟨?_,fun y hy=>?_⟩
  ·rcases YHI.1 h1 with h|h
   ·rw[h];split <;> simp
   ·simp [h]
  ·rcases YHI.1 hy with rfl|hy
   ·split at h3 <;> omega
   ·rcases YHI.1 hy with rfl|hy
    ·split at h3 <;> omega
    ·exact h2 _ (YHu _ hy)
theorem Yo4(x:Int):∀(r:List Int),YbT x r∈x::r/\∀y∈x::r,y<=YbT x r:=by
 intro r
 induction r generalizing x with
 |nil=>exact⟨YHw,fun y hy=>by simp at hy;subst hy;exact YIs _⟩
 |cons a r ih=>
  have e:YbT x (a::r)=YbT (if x<a then a else x) r:=rfl
  rw[e]
  obtain⟨h1,h2⟩:=ih (if x<a then a else x)
  have h3:=h2 _ YHw
  generalize YbT (if x<a then a else x) r=L at*
  refine⟨?_,fun y hy=>?_⟩
  ·rcases YHI.1 h1 with h|h
   ·rw[h];split <;> simp
   ·simp [h]
  ·rcases YHI.1 hy with rfl|hy
   ·split at h3 <;> omega
   ·rcases YHI.1 hy with rfl|hy
    ·split at h3 <;> omega
    ·exact h2 _ (YHu _ hy)
def bump(up neg:Bool)(r:Nat):Nat:=if decide (r≠0)&&(up !=neg)then 1 else 0
theorem Ymk{up:Bool}{x:Int}{d:Nat}(hd:0<d):rndT up x d=nsg (decide (x<0)) (x.natAbs/d+bump up (decide (x<0)) (x.natAbs%d)):=by
 have hm:=YIk x.natAbs hd
 have e:=YH5 x.natAbs d
 have pos:∀n:Nat,(n:Int)/(d:Int)=((n/d:Nat):Int):=fun n=>(Int.natCast_ediv n d).symm
 have neg:∀n:Nat,(-(n:Int))/(d:Int)= -(((n/d+if n%d=0 then 0 else 1:Nat)):Int):=fun n=>by
  have e:=YH5 n d
  have hm:=YIk n hd
  by_cases h0:n%d=0
  ·rw[if_pos h0]
   have:(n:Int)=((n/d:Nat):Int)*(d:Int):=by
    have:n=n/d*d:=by rw[YHq];omega
    exact_mod_cast this
   conv=>lhs;rw[this,<-Int.neg_mul]
   rw[Int.mul_ediv_cancel _ (by omega)];simp
  ·rw[if_neg h0]
   have hq:(n:Int)=(d:Int)*((n/d:Nat):Int)+((n%d:Nat):Int):=by exact_mod_cast e.symm
   apply Int.le_antisymm
   ·apply Int.le_of_lt_add_one
    rw[Int.ediv_lt_iff_lt_mul (by omega)]
    conv=>lhs;rw[hq]
    have hm:((n%d:Nat):Int)>0:=by omega
    generalize n%d=m at*
    generalize n/d=q at*
    push_cast
    grind
   ·rw[Int.le_ediv_iff_mul_le (by omega)]
    conv=>rhs;rw[hq]
    have hm:((n%d:Nat):Int)<d:=by omega
    generalize n%d=m at*
    generalize n/d=q at*
    push_cast
    grind
 obtain⟨n,hn⟩:∃n:Nat,n=x.natAbs:=⟨_,rfl⟩
 rw[<-hn]
 unfold rndT bump nsg
 by_cases hx:x<0
 ·have ex:x= -(n:Int):=by omega
  cases up
  ·simp only[hx,decide_true,if_true,YHG,if_false]
   rw[ex,neg n]
   by_cases h0:n%d=0 <;> simp [h0]
  ·simp only[hx,decide_true,if_true,bne_self_eq_false,Bool.and_false,YHG,if_false]
   rw[ex,Int.neg_neg,pos n];simp
 ·have ex:x=(n:Int):=by omega
  cases up
  ·simp only[hx,decide_false,YHG,if_false,bne_self_eq_false,Bool.and_false]
   rw[ex,pos n];simp
  ·simp only[hx,decide_false,YHG,if_false,if_true]
   rw[ex,neg n]
   by_cases h0:n%d=0 <;> simp [h0]
def YfH(v:Int):List SV:=[.bool (decide (v<0)),.int .u64 ((v.natAbs/18446744073709551616:Nat):Int),.int .u64 ((v.natAbs%18446744073709551616:Nat):Int)]
def Yv1(x:Int)(n:Bool)(h l:Int):Prop:=n=decide (x<0)/\h=((x.natAbs/18446744073709551616:Nat):Int)/\l=((x.natAbs%18446744073709551616:Nat):Int)
theorem Yaz(x:Int):Yv1 x (decide (x<0)) ((x.natAbs/18446744073709551616:Nat):Int) ((x.natAbs%18446744073709551616:Nat):Int):=⟨rfl,rfl,rfl⟩
def big(x:Int):Prop:=x.natAbs<340282366920938463463374607431768211456
def errI(e:Int):Iv×Int:=((0,0),e)
def sclF(a:Iv)(num den:Int):Iv×Int:=if ivE [a]≠0 then errI (ivE [a])else if den<1\/4611686018427387904<den\/num< -4611686018427387904\/4611686018427387904<num then errI 2 else Yho den (a.1*num) [a.2*num]
def piF(a:Iv):Iv×Int:=if ivE [a]≠0 then errI (ivE [a])else Yho 1000000000000000000 (a.1*3141592653589793238) [a.1*3141592653589793239,a.2*3141592653589793238,a.2*3141592653589793239]
def Ybi(up:Bool)(n:Int):Int×Bool:=rndF up (n*n*(if up then 3141592653589793239 else 3141592653589793238)) 4000000000000000000
def YhE(a:Iv):Iv×Int:=if ivE [a]≠0 then errI (ivE [a])else if a.1<0 then errI 9 else YhM (Ybi false a.1) (Ybi true a.2)
set_option maxRecDepth 100000
structure Scl where
 d:Int
 c:Int
 bs:List (Int×Int)
 mn:Int
 md:Int
 cn:Int
 cd:Int
def inS(n a b:Int):Bool:=decide (a<=n)&&decide (n<=b)
def benL:List (Int×Int)->Int->Bool
 | [],_=>true
 |b::r,last=>decide (last<b.1)&&decide (b.1<=139)&&inS b.2 8 64&&benL r b.1
def YcE(n:Int):Bool:=inS n 1 20
def okS(s:Scl):Bool:=
 decide (s.bs≠ [])&&inS s.d 1000 500000&&inS s.c 0 (min 50000 (s.d-1))&&YcE s.mn&&YcE s.md&&YcE s.cn&&YcE s.cd&&benL s.bs (-1)&&decide (s.mn<s.md)
def chkL(s:Scl):Int:=if 3<s.bs.length then 3 else if okS s=true then 0 else 2
structure Exn where
 f:Int
 h:Int
 n:Int
 d:Int
def addE(e:Exn)(to:Int):Int×Int:=if 0<e.h then(IntKind.i64.wrap (IntKind.i64.wrap (e.n*e.h)+IntKind.i64.wrap (IntKind.i64.wrap (to-e.f)*e.d)),IntKind.i64.wrap (e.d*e.h))else(e.n,e.d)
def expL(note:Int):List (Int×Int)->Exn->Int×Int
 | [],e=>addE e note
 |b::r,e=>if note<=b.1 then addE e note else expL note r ⟨b.1,b.2,(addE e b.1).1,(addE e b.1).2⟩
def expF(bs:List (Int×Int))(note:Int):Int×Int:=expL note bs ⟨0,0,0,1⟩
def Ybo(m num den:Int):Int×Bool:=((Yfd m [(2, -num)] den).1,(Yfd m [(2, -num)] den).2.1)
def diaS(s:Scl)(note:Int):Iv:=
 let r:=Ybo (s.d-s.c) (expF s.bs note).1 (expF s.bs note).2
 (s.c+r.1,if r.2=true then s.c+r.1 else s.c+r.1+1)
def Yeu(s:Scl):Int:=(s.bs.getD 0 default).1
def hasS(s:Scl)(note:Int):Bool:=decide (Yeu s<=note)&&decide (note<=139)
def askS(s:Scl)(low high:Int):Int:=if chkL s≠0 then chkL s else if(!hasS s low|| !hasS s high|| decide (high<low))=true then 2 else 0
def Exn.ok(e:Exn)(k:Nat):Prop:=(0<=e.f/\e.f<=139)/\(0<=e.h/\e.h<=64)/\(0<=e.n/\e.n<=e.f*e.d)/\1<=e.d/\e.d*64^(k+if e.h=0 then 0 else 1)<=262144
def Exn.add(e:Exn)(to:Int):Int×Int:=if 0<e.h then(e.n*e.h+(to-e.f)*e.d,e.d*e.h)else(e.n,e.d)
def exE(note:Int):List (Int×Int)->Exn->Int×Int
 | [],e=>e.add note
 |b::r,e=>if note<=b.1 then e.add note else exE note r ⟨b.1,b.2,(e.add b.1).1,(e.add b.1).2⟩
theorem p64(k:Nat):(1:Int)<=64^k:=Int.pow_pos (by decide)
theorem Exn.ok_d{e:Exn}{k:Nat}(h:e.ok k):e.d<=262144/\(e.h≠0->e.d*64<=262144):=by
 obtain⟨_,_,_,h4,h5⟩:=h
 have h6:=p64 k
 constructor
 ·have h7:=p64 (k+if e.h=0 then 0 else 1)
  have:e.d*1<=e.d*64^(k+if e.h=0 then 0 else 1):=YHU h7 (by omega)
  omega
 ·intro hh
  rw[if_neg hh,Int.pow_succ,<-Int.mul_assoc,Int.mul_right_comm]at h5
  have:e.d*64*1<=e.d*64*64^k:=YHU h6 (by omega)
  omega
theorem Exn.add_rng{e:Exn}{k:Nat}(h:e.ok k){to:Int}(ht:to<=139)(hf:e.h≠0->e.f<=to)(h0:e.h=0->0<=to/\e.n=0):
 addE e to=e.add to/\0<=(e.add to).1/\(e.add to).1<=to*(e.add to).2/\1<=(e.add to).2/\(e.add to).2<=262144/\(e.add to).2<=e.d*(if e.h=0 then 1 else 64):=by
 obtain⟨hd1,hd2⟩:=Exn.ok_d h
 obtain⟨⟨f0,f1⟩,⟨g0,g1⟩,⟨n0,n1⟩,d0,_⟩:=h
 unfold addE Exn.add
 by_cases c:0<e.h
 ·rw[if_pos c,if_pos c,if_neg (by omega)]
  have hf:=hf (by omega)
  have hd2:=hd2 (by omega)
  have k1:e.f*e.d<=139*262144:=YO f1 (by omega) (by omega) (by omega)
  have k2:e.n*e.h<=139*262144*64:=YO (by omega) g1 n0 (by omega)
  have k3:(to-e.f)*e.d<=139*262144:=YO (by omega) (by omega) (by omega) (by omega)
  have k4:e.d*e.h<=e.d*64:=YHU g1 (by omega)
  have k5:0<=e.n*e.h:=YIe n0 g0
  have k6:0<=(to-e.f)*e.d:=YIe (by omega) (by omega)
  have k7:e.d*1<=e.d*e.h:=YHU (by omega) (by omega)
  rw[YHi (e.n*e.h) (by omega),YHi (to-e.f) (by omega),YHi ((to-e.f)*e.d) (by omega),YHi (e.n*e.h+_) (by omega),YHi (e.d*e.h) (by omega)]
  refine⟨rfl,by simp only;omega,?_,by simp only;omega,by simp only;omega,k4⟩
  simp only
  have q1:e.n*e.h<=e.f*e.d*e.h:=Int.mul_le_mul_of_nonneg_right n1 g0
  have q2:(to-e.f)*e.d*1<=(to-e.f)*e.d*e.h:=YHU (by omega) k6
  have q3:to*(e.d*e.h)=e.f*e.d*e.h+(to-e.f)*e.d*e.h:=by
   rw[<-Int.add_mul,<-Int.add_mul,show e.f+(to-e.f)=to by omega,Int.mul_assoc]
  omega
 ·rw[if_neg c,if_neg c,if_pos (by omega)]
  obtain⟨h1,h2⟩:=h0 (by omega)
  refine⟨rfl,n0,?_,d0,hd1,by omega⟩
  simp only
  rw[h2]
  exact YIe h1 (by omega)
theorem Exn.next{e:Exn}{k:Nat}(h:e.ok (k+1)){b:Int×Int}(hb:(0<=b.1/\b.1<=139)/\8<=b.2/\b.2<=64)(hf:e.h≠0->e.f<=b.1)(h0:e.h=0->e.n=0):(⟨b.1,b.2,(e.add b.1).1,(e.add b.1).2⟩:Exn).ok k:=by
 obtain⟨_,r1,r2,r3,r4,r5⟩:=Exn.add_rng h (to:=b.1) hb.1.2 hf fun hh=>⟨hb.1.1,h0 hh⟩
 refine⟨hb.1,⟨by simp only;omega,hb.2.2⟩,⟨r1,r2⟩,r3,?_⟩
 obtain⟨_,_,_,_,h5⟩:=h
 rw[if_neg (show¬b.2=0 by omega)]
 refine Int.le_trans (Int.mul_le_mul_of_nonneg_right r5 (Int.le_of_lt (Int.pow_pos (by decide)))) ?_
 by_cases c:e.h=0
 ·rw[if_pos c]at h5⊢
  rw[Int.mul_one];exact h5
 ·rw[if_neg c]at h5⊢
  rw[Int.mul_assoc,show(64:Int)*64^(k+1)=64^(k+1+1)by rw[Int.pow_succ 64 (k+1),Int.mul_comm]]
  exact h5
theorem Ygn{b:Int×Int}{r:List (Int×Int)}{last:Int}(h:benL (b::r) last=true)(hl: -1<=last):(last<b.1/\(0<=b.1/\b.1<=139)/\8<=b.2/\b.2<=64)/\benL r b.1=true:=by
 simp only[benL,inS,YHn,decide_eq_true_eq]at h
 exact⟨by omega,h.2⟩
theorem YrK{note:Int}(hn:0<=note/\note<=139):∀(r:List (Int×Int))(e:Exn)(last:Int), -1<=last->benL r last=true->e.ok r.length->(e.h≠0->e.f<=last/\e.f<=note)->(e.h=0->e.n=0)->
 expL note r e=exE note r e/\0<=(exE note r e).1/\(exE note r e).1<=note*(exE note r e).2/\1<=(exE note r e).2/\(exE note r e).2<=262144
 | [],e,last,_,_,hok,hf,h0=>by
   obtain⟨a,b,c,d,g,_⟩:=Exn.add_rng hok (to:=note) hn.2 (fun h=>(hf h).2) fun h=>⟨hn.1,h0 h⟩
   exact⟨a,b,c,d,g⟩
 |b::r,e,last,hl,hb,hok,hf,h0=>by
  obtain⟨⟨b1,b2⟩,b3⟩:=Ygn hb hl
  rw[expL,exE]
  split
  ·obtain⟨a,b,c,d,g,_⟩:=Exn.add_rng hok (to:=note) hn.2 (fun h=>(hf h).2) fun h=>⟨hn.1,h0 h⟩
   exact⟨a,b,c,d,g⟩
  ·obtain⟨a,_⟩:=Exn.add_rng hok (to:=b.1) b2.1.2 (fun h=>by have:=hf h;omega) fun h=>⟨b2.1.1,h0 h⟩
   rw[a]
   exact YrK hn r _ b.1 (by omega) b3 (Exn.next hok b2 (fun h=>by have:=hf h;omega) h0) (fun _=>⟨YIs _,by simp only;omega⟩) (fun h=>by simp only at h;omega)
theorem YyI(n h d x:Int)(hd:0<=d)(h0:0<=h)(h1:h<=64):d*h*(d*h)<=((n*h+(x+1)*d)*(d*h)-(n*h+x*d)*(d*h))*64:=by
 have e1:(n*h+(x+1)*d)*(d*h)-(n*h+x*d)*(d*h)=d*(d*h):=by
  rw[<-Int.sub_mul,Int.add_mul x 1 d,Int.one_mul];congr 1;omega
 rw[e1]
 have k:d*(d*h)*h<=d*(d*h)*64:=YHU h1 (YIe hd (YIe hd h0))
 have e2:d*h*(d*h)=d*(d*h)*h:=by rw[Int.mul_right_comm]
 omega
theorem YvC{note:Int}:∀(r:List (Int×Int))(e:Exn)(last:Int), -1<=last->benL r last=true->1<=e.d->(0<=e.h/\e.h<=64)->(e.h=0->∃b t,r=b::t/\b.1<=note)->
 (exE note r e).2*(exE (note+1) r e).2<=((exE (note+1) r e).1*(exE note r e).2-(exE note r e).1*(exE (note+1) r e).2)*64:=by
 have brk:∀e:Exn,1<=e.d->(0<=e.h/\e.h<=64)->e.h≠0->(e.add note).2*(e.add (note+1)).2<=((e.add (note+1)).1*(e.add note).2-(e.add note).1*(e.add (note+1)).2)*64:=fun e hd hh h0=>by
  unfold Exn.add
  rw[if_pos (by omega),if_pos (by omega)]
  simp only
  rw[show note+1-e.f=note-e.f+1 by omega]
  exact YyI e.n e.h e.d (note-e.f) (by omega) hh.1 hh.2
 intro r
 induction r with
 |nil=>
  intro e last _ _ hd hh h0
  refine brk e hd hh fun h=>?_
  obtain⟨_,_,hb,_⟩:=h0 h
  cases hb
 |cons b r ih=>
  intro e last hl hb hd hh h0
  obtain⟨⟨b1,b2⟩,b3⟩:=Ygn hb hl
  have hd2:1<=(e.add b.1).2:=by
   unfold Exn.add
   split
   ·rename_i c
    have:1*1<=e.d*e.h:=YO hd c (by decide) (by omega)
    exact this
   ·exact hd
  rw[exE,exE]
  by_cases c1:note+1<=b.1
  ·rw[if_pos (by omega),if_pos c1]
   refine brk e hd hh fun h=>?_
   obtain⟨b',t,hb',hle⟩:=h0 h
   cases hb'
   omega
  ·by_cases c2:note<=b.1
   ·obtain rfl:note=b.1:=by omega
    rw[if_pos c2,if_neg c1]
    have key:exE (b.1+1) r ⟨b.1,b.2,(e.add b.1).1,(e.add b.1).2⟩=((e.add b.1).1*b.2+(e.add b.1).2,(e.add b.1).2*b.2):=by
     have hadd:(⟨b.1,b.2,(e.add b.1).1,(e.add b.1).2⟩:Exn).add (b.1+1)=((e.add b.1).1*b.2+(e.add b.1).2,(e.add b.1).2*b.2):=by
      rw[Exn.add,if_pos (by simp only;omega)]
      simp only
      rw[show b.1+1-b.1=1 by omega,Int.one_mul]
     cases r with
     |nil=>rw[exE];exact hadd
     |cons b' t=>
      obtain⟨⟨g1,_⟩,_⟩:=Ygn b3 (by omega)
      rw[exE,if_pos (by omega)];exact hadd
    rw[key]
    generalize e.add b.1=A at*
    obtain⟨N,D⟩:=A
    simp only at hd2⊢
    have e1:(N*b.2+D)*D-N*(D*b.2)=D*D:=by
     rw[Int.add_mul]
     have:N*b.2*D=N*(D*b.2):=by rw[Int.mul_assoc,Int.mul_comm b.2]
     omega
    rw[e1,<-Int.mul_assoc]
    exact YHU b2.2.2 (YIe (by omega) (by omega))
   ·rw[if_neg c2,if_neg c1]
    exact ih _ b.1 (by omega) b3 hd2 ⟨by simp only;omega,b2.2.2⟩ fun h=>by simp only at h;omega
theorem YFo{num:Nat}(hn:num<=1000000000):YhD [((2:Int), -(num:Int))]=0/\(∀x,x∈ [((2:Int), -(num:Int))]->okU x)/\upP [((2:Int), -(num:Int))]=1/\dnP [((2:Int), -(num:Int))]=2^num/\upS wP [((2:Int), -(num:Int))]=0/\dnS wP [((2:Int), -(num:Int))]=0:=by
 have hmem:∀x,x∈ [((2:Int), -(num:Int))]->x=((2:Int), -(num:Int)):=fun x hx=>YHZ.1 hx
 refine⟨?_,fun x hx=>?_,?_,?_,?_,?_⟩
 ·have h0:okT0 ((2:Int), -(num:Int))=false:=by
   simp only[okT0,YHp,decide_eq_false_iff_not];omega
  unfold YhD
  simp [h0]
 ·rw[hmem x hx];unfold okU;simp only;omega
 ·unfold upP upP;simp only
  split
  ·rfl
  ·rw[show(-(num:Int)).toNat=0 by omega];rfl
 ·unfold dnP dnP;simp only
  split
  ·rw[Int.neg_neg,YHj];exact Nat.mul_one _
  ·rw[show num=0 by omega]
 ·unfold upS upS;simp only
  rw[show wP (YH0 2)=0 from rfl]
  split <;> simp
 ·unfold dnS dnS;simp only
  rw[show wP (YH0 2)=0 from rfl]
  split <;> simp
theorem YwS{m:Nat}(h:m<600000):wP m<=2^52:=by
 unfold wP
 split
 ·decide
 ·exact YHr _
theorem YeM{m num den:Nat}(hm:1<=m/\m<=500000)(hn:num<=1000000000)(hd:1<=den/\den<=1000000):∃k:Nat,k<=2000000/\(Ybo (m:Int) (num:Int) (den:Int)).1=(k:Int)/\
 (1<=k->(2^num*k^den)^QJ<=(m^den)^QJ*2^(2^55*den))/\m^den<2^num*(k+1)^den/\((Ybo (m:Int) (num:Int) (den:Int)).2=true->1<=k/\m^den=2^num*k^den):=by
 obtain⟨h1,h2,h3,h4,h5,h6⟩:=YFo hn
 have hB:upP [((2:Int), -(num:Int))]*m^den<dnP [((2:Int), -(num:Int))]*500001^den:=by
  rw[h3,h4,YIu]
  refine YIa ((Nat.pow_lt_pow_iff_left (by omega)).2 (show m<500001 by omega)) (Nat.le_mul_of_pos_left _ (YIv (by decide)))
 obtain⟨r,e1,p⟩:=YAq (s:=m) (den:=den) (B:=500001) h1 h2 ⟨hm.1,by omega⟩ hd (by
  unfold wide
  rw[h5,h6]
  have:=YHs den (YwS (m:=m) (by omega))
  omega) (by rw[h4];exact YIv (by decide)) hB (by decide)
 have q:=p.near
 have u:=p.up
 have x:=p.ex_iff
 rw[h3,h4,YIu]at q u x
 refine⟨r,YHC p.leB (by decide),e1,fun hk=>?_,u,fun hx=>?_⟩
 ·rw[YHq (2^55)];exact q hk
 ·exact x.1 hx
theorem Yw2:QJ=1267650600228229401496703205376:=rfl
theorem YA2{m k Q W n1 d1 n2 d2:Nat}(hk:1<=k)(hB:m^d1<=2^n1*k^d1)(hA:(2^n2*k^d2)^Q<=(m^d2)^Q*2^(W*d2)):n2*d1*Q<=n1*d2*Q+W*(d1*d2):=by
 have a:=YHN hB (d2*Q)
 have b:=YHN hA d1
 have em:(m^d1)^(d2*Q)=m^(d1*d2*Q):=by rw[<-YHQ,YHt]
 have ek:(2^n1*k^d1)^(d2*Q)=2^(n1*d2*Q)*k^(d1*d2*Q):=by rw[YIl,<-YHQ,<-YHQ,YHt,YHt]
 have fk:((2^n2*k^d2)^Q)^d1=2^(n2*d1*Q)*k^(d1*d2*Q):=by
  rw[<-YHQ,YIl,<-YHQ,<-YHQ]
  congr 2
  ·rw[YHq Q,YHt]
  ·rw[YHq d1 d2,YHq Q,YHt]
 have fm:((m^d2)^Q*2^(W*d2))^d1=m^(d1*d2*Q)*2^(W*(d1*d2)):=by
  rw[YIl,<-YHQ,<-YHQ,<-YHQ]
  congr 2
  ·rw[YHq d1 d2,Nat.mul_right_comm,YHt]
  ·rw[YHt,YHq d2]
 rw[em,ek]at a
 rw[fk,fm]at b
 have c:=YHC b (YHs (2^(W*(d1*d2))) a)
 have hk0:0<k^(d1*d2*Q):=YIv hk
 have e:2^(n1*d2*Q)*k^(d1*d2*Q)*2^(W*(d1*d2))=2^(n1*d2*Q+W*(d1*d2))*k^(d1*d2*Q):=by rw[YHz,Nat.mul_right_comm]
 rw[e]at c
 exact(Nat.pow_le_pow_iff_right (by decide)).1 (Nat.le_of_mul_le_mul_right c hk0)
theorem Ypm{m n1 d1 n2 d2:Nat}(hm:1<=m/\m<=500000)(hn1:n1<=1000000000)(hd1:1<=d1/\d1<=1000000)(hn2:n2<=1000000000)(hd2:1<=d2/\d2<=1000000)(h:d1*d2+n1*d2*4096<=n2*d1*4096):
 (Ybo (m:Int) (n2:Int) (d2:Int)).1<=(Ybo (m:Int) (n1:Int) (d1:Int)).1/\((Ybo (m:Int) (n2:Int) (d2:Int)).1=(Ybo (m:Int) (n1:Int) (d1:Int)).1->(Ybo (m:Int) (n1:Int) (d1:Int)).2=false):=by
 obtain⟨k,k1,k2,k3,k4,k5⟩:=YeM hm hn1 hd1
 obtain⟨j,j1,j2,j3,j4,j5⟩:=YeM hm hn2 hd2
 rw[k2,j2]
 have hpos:1*1<=d1*d2:=YHE hd1.1 hd2.1
 have no:∀x:Nat,1<=x->m^d1<=2^n1*x^d1->¬(2^n2*x^d2)^QJ<=(m^d2)^QJ*2^(2^55*d2):=fun x hx hb ha=>by
  have:=YA2 hx hb ha
  rw[Yw2]at this
  omega
 have hle:j<=k:=by
  refine Nat.le_of_not_lt fun hh=>?_
  refine no j (by omega) ?_ (j3 (by omega))
  exact YHC (Nat.le_of_lt k4) (YHx _ (YHN (by omega) _))
 refine⟨by omega,fun he=>?_⟩
 cases hx:(Ybo (m:Int) (n1:Int) (d1:Int)).2 with
 |false=>rfl
 |true=>
  exfalso
  obtain⟨h1,h2⟩:=k5 hx
  obtain rfl:j=k:=by omega
  exact no j h1 (Nat.le_of_eq h2) (j3 h1)
theorem YDC{d c n1 d1 n2 d2:Int}(hd:d<=500000/\0<=c/\c<d)(h1:0<=n1/\n1<=139*262144/\1<=d1/\d1<=262144)(h2:0<=n2/\n2<=139*262144/\1<=d2/\d2<=262144)(h:d1*d2<=(n2*d1-n1*d2)*4096):
 (Ybo (d-c) n2 d2).1<=(Ybo (d-c) n1 d1).1/\(if(Ybo (d-c) n2 d2).2=true then c+(Ybo (d-c) n2 d2).1 else c+(Ybo (d-c) n2 d2).1+1)<=(if(Ybo (d-c) n1 d1).2=true then c+(Ybo (d-c) n1 d1).1 else c+(Ybo (d-c) n1 d1).1+1):=by
 obtain⟨m,rfl⟩:∃m:Nat,d=c+m:=⟨(d-c).toNat,by omega⟩
 obtain⟨a1,rfl⟩:∃a:Nat,n1=a:=⟨n1.toNat,by omega⟩
 obtain⟨b1,rfl⟩:∃a:Nat,d1=a:=⟨d1.toNat,by omega⟩
 obtain⟨a2,rfl⟩:∃a:Nat,n2=a:=⟨n2.toNat,by omega⟩
 obtain⟨b2,rfl⟩:∃a:Nat,d2=a:=⟨d2.toNat,by omega⟩
 rw[show c+(m:Int)-c=m by omega]
 have h':b1*b2+a1*b2*4096<=a2*b1*4096:=by
  rw[Int.sub_mul]at h
  have e:((b1*b2+a1*b2*4096:Nat):Int)<=((a2*b1*4096:Nat):Int):=by
   simp only[Int.natCast_add,YIj]
   have:((4096:Nat):Int)=4096:=rfl
   rw[this];omega
  exact Int.ofNat_le.1 e
 obtain⟨f1,f2⟩:=Ypm (m:=m) (n1:=a1) (d1:=b1) (n2:=a2) (d2:=b2) (by omega) (by omega) (by omega) (by omega) (by omega) h'
 refine⟨f1,?_⟩
 generalize Ybo (m:Int) (a1:Int) (b1:Int)=R at*
 generalize Ybo (m:Int) (a2:Int) (b2:Int)=T at*
 rcases Int.lt_or_eq_of_le f1 with hlt|heq
 ·split <;> split <;> omega
 ·simp only[f2 heq,YHG,if_false]
  split <;> omega
theorem Yd7{s:Scl}(h:chkL s=0):0<s.bs.length/\s.bs.length<=3/\okS s=true:=by
 unfold chkL at h
 split at h
 ·cases h
 ·split at h
  ·rename_i h1 h2
   refine⟨?_,by omega,h2⟩
   simp only[okS,YHn,decide_eq_true_eq]at h2
   exact List.length_pos_iff.2 h2.1.1.1.1.1.1.1.1
  ·cases h
theorem Ync:∀(r:List (Int×Int))(last:Int),benL r last=true↔∀j,j<r.length->((r.getD j default).1<=139/\8<=(r.getD j default).2/\(r.getD j default).2<=64)/\(if j=0 then last else(r.getD (j-1) default).1)<(r.getD j default).1
 | [],last=>by simp [benL]
 |b::r,last=>by
  have ih:=Ync r b.1
  simp only[benL,inS,YHn,decide_eq_true_eq]
  constructor
  ·rintro⟨⟨⟨h1,h2⟩,h3,h4⟩,h5⟩ j hj
   cases j with
   |zero=>exact⟨⟨h2,h3,h4⟩,h1⟩
   |succ j=>
    have:=ih.1 h5 j (by simpa using hj)
    refine⟨this.1,?_⟩
    cases j with
    |zero=>exact this.2
    |succ j=>exact this.2
  ·intro h
   have h0:=h 0 (by simp)
   refine⟨⟨⟨h0.2,h0.1.1⟩,h0.1.2⟩,ih.2 fun j hj=>?_⟩
   have:=h (j+1) (by simpa using hj)
   refine⟨this.1,?_⟩
   cases j with
   |zero=>exact this.2
   |succ j=>exact this.2
theorem YDo(r:List (Int×Int)):benL r (-1)=true↔∀j,j<r.length->(0<=(r.getD j default).1/\(r.getD j default).1<=139/\8<=(r.getD j default).2/\(r.getD j default).2<=64)/\(0<j->(r.getD (j-1) default).1<(r.getD j default).1):=by
 rw[Ync]
 constructor
 ·intro h j
  induction j with
  |zero=>
   intro hj
   have:=h 0 hj
   simp only[if_pos]at this
   exact⟨by omega,fun hh=>absurd hh (by decide)⟩
  |succ j ih=>
   intro hj
   have h1:=h (j+1) hj
   have h2:=ih (by omega)
   rw[if_neg (by omega)]at h1
   simp only[Nat.add_sub_cancel]at h1⊢
   exact⟨by omega,fun _=>h1.2⟩
 ·intro h j hj
  have h1:=h j hj
  refine⟨h1.1.2,?_⟩
  by_cases c:j=0
  ·rw[if_pos c];omega
  ·rw[if_neg c];exact h1.2 (by omega)
theorem Yi5{s:Scl}(hs:chkL s=0){note:Int}(hn:0<=note/\note<=139):expF s.bs note=exE note s.bs ⟨0,0,0,1⟩/\0<=(expF s.bs note).1/\(expF s.bs note).1<=note*(expF s.bs note).2/\1<=(expF s.bs note).2/\(expF s.bs note).2<=262144:=by
 obtain⟨h1,h2,h3⟩:=Yd7 hs
 simp only[okS,YHn]at h3
 have hok:(⟨0,0,0,1⟩:Exn).ok s.bs.length:=by
  refine⟨⟨by decide,by decide⟩,⟨by decide,by decide⟩,⟨by decide,by decide⟩,by decide,?_⟩
  rw[if_pos rfl,Nat.add_zero,Int.one_mul]
  rcases(by omega:s.bs.length=1\/s.bs.length=2\/s.bs.length=3)with e|e|e <;> rw[e] <;> decide
 obtain⟨a,b,c,d,g⟩:=YrK hn s.bs ⟨0,0,0,1⟩ (-1) (by decide) h3.1.2 hok (fun h=>absurd rfl h) (fun _=>rfl)
 rw[show expF s.bs note=expL note s.bs ⟨0,0,0,1⟩from rfl,a]
 exact⟨rfl,b,c,d,g⟩
theorem Yjt{s:Scl}(h:chkL s=0):(1000<=s.d/\s.d<=500000)/\0<=s.c/\s.c<s.d:=by
 have h3:=(Yd7 h).2.2
 simp only[okS,inS,YHn,decide_eq_true_eq]at h3
 omega
theorem YyX{s:Scl}{low high:Int}(h:askS s low high=0):chkL s=0/\(Yeu s<=low/\low<=139)/\(Yeu s<=high/\high<=139)/\low<=high:=by
 unfold askS at h
 split at h
 ·rename_i h1;exact absurd h h1
 ·rename_i h1
  split at h
  ·cases h
  ·rename_i h2
   simp only[YHS,YHD,hasS,Bool.and_eq_false_iff,decide_eq_false_iff_not,decide_eq_true_eq,not_or,Decidable.not_not]at h2
   exact⟨by simpa using h1,by omega⟩
theorem Yev{s:Scl}(h:chkL s=0):0<=Yeu s/\Yeu s<=139:=by
 obtain⟨h1,_,h3⟩:=Yd7 h
 simp only[okS,YHn]at h3
 have:=((YDo s.bs).1 h3.1.2 0 h1).1
 unfold Yeu;omega
theorem Yi4{s:Scl}(hs:chkL s=0){note:Int}(hn:0<=note/\note<=139):0<=(expF s.bs note).1/\(expF s.bs note).1<=139*262144/\1<=(expF s.bs note).2/\(expF s.bs note).2<=262144:=by
 obtain⟨_,h1,h2,h3,h4⟩:=Yi5 hs hn
 have:note*(expF s.bs note).2<=139*262144:=YO hn.2 h4 hn.1 (by decide)
 omega
theorem Ynq{s:Scl}(hs:chkL s=0){note:Int}(h0:Yeu s<=note)(h1:note<139):(diaS s (note+1)).1<=(diaS s note).1/\(diaS s (note+1)).2<=(diaS s note).2:=by
 have hf:=Yev hs
 have hr:=Yjt hs
 obtain⟨l1,l2,l3⟩:=Yd7 hs
 simp only[okS,YHn]at l3
 have e1:=(Yi5 hs (note:=note) (by omega)).1
 have e2:=(Yi5 hs (note:=note+1) (by omega)).1
 have st:=YvC (note:=note) s.bs ⟨0,0,0,1⟩ (-1) (by decide) l3.1.2 (by decide) (by decide) fun _=>by
  unfold Yeu at h0
  cases hb:s.bs with
  |nil=>rw[hb]at l1;exact absurd l1 (by decide)
  |cons b t=>rw[hb]at h0;exact⟨b,t,rfl,h0⟩
 rw[<-e1,<-e2]at st
 have hp1:=Yi4 hs (note:=note) (by omega)
 have hp2:=Yi4 hs (note:=note+1) (by omega)
 have hpos:1*1<=(expF s.bs note).2*(expF s.bs (note+1)).2:=YO hp1.2.2.1 hp2.2.2.1 (by decide) (by omega)
 obtain⟨k1,k2⟩:=YDC (d:=s.d) (c:=s.c) ⟨hr.1.2,hr.2.1,hr.2.2⟩ hp1 hp2 (by omega)
 unfold diaS
 simp only
 exact⟨by omega,k2⟩
theorem YdZ{s:Scl}(hs:chkL s=0){note:Int}(hn:0<=note/\note<=139):0<=(diaS s note).1/\(diaS s note).1<=(diaS s note).2/\1<=(diaS s note).2/\(diaS s note).2<=3000000:=by
 have hr:=Yjt hs
 have hb:=Yi4 hs hn
 obtain⟨K,g1,g2,_,_,g5⟩:=YeM (m:=(s.d-s.c).toNat) (num:=(expF s.bs note).1.toNat) (den:=(expF s.bs note).2.toNat) (by omega) (by omega) (by omega)
 rw[Int.toNat_of_nonneg (by omega),Int.toNat_of_nonneg (by omega),Int.toNat_of_nonneg (by omega)]at g2 g5
 unfold diaS
 simp only
 rw[g2]
 split
 ·rename_i hx
  have:=(g5 hx).1
  omega
 ·omega
set_option maxHeartbeats 4000000
def v65:VF:=⟨15,[.tmp 6],(ZR [u1 6 .mov [.cn (.bool false)]] (ZR [Zm 7 0,Zm 8 1,Zr 9 .geq 7 8,Zm 10 9,Zg 11 10 true 0,Zg 12 10 true 2,u2 13 10 true (.cmp .leq) [.tm 11,.tm 12],u1 14 .and [.tm 10,.tm 13],Zm 6 14] .ret))⟩
theorem YGz:Ye YHk Tryz.f65=some v65:=by kernel_rfl
def v31:VF:=⟨16,[.tmp 4],(ZR [u1 2 .box [.tm 0],u1 4 .mov [.cn (.bool false)]] (ZR [Zm 5 1,Za 6 2 2,Zf 7 1 6,u1 8 (.idxAddr 2) [.tm 7,.cn (.int .i64 0)],Za 9 0 8,Zf 10 1 9,Zr 11 .geq 5 10,Zm 12 11,Zg 13 12 true 1,u2 14 12 true (.cmp .leq) [.tm 13,.cn (.int .i64 139)],u1 15 .and [.tm 12,.tm 14],Zm 4 15] .ret))⟩
theorem YF1:Ye YHk Tryz.f31=some v31:=by kernel_rfl
def v30:VF:=⟨87,[.tmp 2],(ZR [u1 1 .box [.tm 0],Zi 2 0] (.seq (ZR [Za 9 2 1,Zf 10 1 9,Zl 11 10,Zq 12 .gtr 11 3] (ZC 12 (ZR [Zi 2 3] .ret) .skip)) (ZR [Za 13 2 1,Zf 14 1 13,Zl 15 14,Zq 16 .gtr 15 0,Zm 17 16,Zj 18 17 true 0 1,Zh 19 17 true 1 18,u2 20 17 true (.call 65) [.tm 19,.cn (.int .i64 1000),.cn (.int .i64 500000)],u1 21 .and [.tm 17,.tm 20],Zm 22 21,Zj 23 22 true 1 1,Zh 24 22 true 1 23,Zj 25 22 true 0 1,Zh 26 22 true 1 25,u2 27 22 true (.ari .sub) [.tm 26,.cn (.int .i64 1)],u2 28 22 true .min [.cn (.int .i64 50000),.tm 27],u2 29 22 true (.call 65) [.tm 24,.cn (.int .i64 0),.tm 28],u1 30 .and [.tm 22,.tm 29],Zm 3 30] (.seq (ZR [Za 31 3 1,Zf 32 1 31,Za 33 4 1,Zf 34 1 33,Za 35 5 1,Zf 36 1 35,Za 37 6 1,Zf 38 1 37,u1 39 (.build [(.int .i64 0),(.int .i64 0),(.int .i64 0),(.int .i64 0)] [(0,1),(1,1),(2,1),(3,1)]) [.tm 32,.tm 34,.tm 36,.tm 38],Zi 40 0] (.block 0 (.loop (ZR [Zq 41 .lss 40 4] (.seq (ZC 41 .skip (.exit 0)) (.seq (.block 1 (ZR [u1 42 (.index false 4 1) [.tm 39,.tm 40],Zm 5 42] (.region [Zm 43 3,Zm 44 43,Zg 45 44 true 5,u2 46 44 true (.call 65) [.tm 45,.cn (.int .i64 1),.cn (.int .i64 20)],u1 47 .and [.tm 44,.tm 46],Zm 3 47]))) (.region [Zp 48 40 1,Zm 40 48]))))))) (ZR [Zi 6 (-1)] (.seq (ZR [Za 49 2 1,Zf 50 1 49,Zl 51 50,Zi 52 0] (.block 2 (.loop (ZR [Zr 53 .lss 52 51] (.seq (ZC 53 .skip (.exit 2)) (.seq (.block 3 (ZR [Zx 54 2 50 52,Zt 55 2 54,Zn 8,Zs 2 8 55] (ZR [Zm 56 3,Zm 57 56,Zj 58 57 true 0 8,Zh 59 57 true 1 58,Zg 60 57 true 6,u2 61 57 true (.cmp .gtr) [.tm 59,.tm 60],u1 62 .and [.tm 57,.tm 61],Zm 63 62,Zj 64 63 true 0 8,Zh 65 63 true 1 64,u2 66 63 true (.cmp .leq) [.tm 65,.cn (.int .i64 139)],u1 67 .and [.tm 63,.tm 66],Zm 68 67,Zj 69 68 true 1 8,Zh 70 68 true 1 69,u2 71 68 true (.call 65) [.tm 70,.cn (.int .i64 8),.cn (.int .i64 64)],u1 72 .and [.tm 68,.tm 71],Zm 3 72] (.region [Zm 73 6,Za 74 0 8,Zf 75 1 74,u1 76 .max [.tm 73,.tm 75],Zm 6 76])))) (.region [Zp 77 52 1,Zm 52 77]))))))) (.seq (ZR [Zm 78 3,u1 79 .not [.tm 78],Zm 80 79,Zj 81 80 false 3 1,Zh 82 80 false 1 81,Zj 83 80 false 4 1,Zh 84 80 false 1 83,u2 85 80 false (.cmp .geq) [.tm 82,.tm 84],u1 86 .or [.tm 80,.tm 85]] (ZC 86 (ZR [Zi 2 2] .ret) .skip)) (ZR [Zi 2 0] .ret))))))))⟩
theorem YF0:Ye YHk Tryz.f30=some v30:=by kernel_rfl
def v11:VF:=⟨28,[.tmp 6],(ZR [u1 3 .box [.tm 0],Zi 6 0] (.seq (ZR [Zt 8 7 3,Zc 9 30 8,Zm 7 9] (ZR [Zm 10 7,Zq 11 .neq 10 0] (ZC 11 (ZR [Zm 12 7,Zm 6 12] .ret) .skip))) (.seq (ZR [Zt 13 7 3,Zm 14 1,Zd 15 31 13 14,u1 16 .not [.tm 15],Zm 17 16,u2 18 17 false (.load true 7) [.tm 3],Zg 19 17 false 2,u2 20 17 false (.call 31) [.tm 18,.tm 19],u2 21 17 false .not [.tm 20],u1 22 .or [.tm 17,.tm 21],Zm 23 22,Zg 24 23 false 1,Zg 25 23 false 2,u2 26 23 false (.cmp .gtr) [.tm 24,.tm 25],u1 27 .or [.tm 23,.tm 26]] (ZC 27 (ZR [Zi 6 2] .ret) .skip)) (ZR [Zi 6 0] .ret))))⟩
theorem YFH:Ye YHk Tryz.f11=some v11:=by kernel_rfl
def inSC:Ctr:={ alias:=false,of:=fun l=>match l with
 | [.int .i64 n,.int .i64 a,.int .i64 b]=> .fin (.bool (inS n a b)) []
 |_=> .pre False (.fin (.bool false) [])}
def UK00:Env:={ ct:=fun _=>none,fn:=fun _=>none,meth:=fun _ _=>none}
theorem Yqt:Yn YHk UK00:=by
 refine⟨fun f c h=>?_,fun f vf h=>?_,(fun _ _ _ h=>by cases h),by kernel_rfl,(fun _ h=>by cases h),(fun _ _ h=>by cases h)⟩
 ·cases h
 ·cases h
theorem inS_c:inSC.ok YHk 65:=by
 refine Yb Tryz.func65 YGz Yqt 100 inSC fun args k h=>?_
 simp only[inSC]at h
 split at h
 ·rename_i n a b
  refine⟨[.int .i64 n,.int .i64 a,.int .i64 b],by simp [leL,le],?_⟩
  dsimp only[v65,go_sem,reduceIte,YHf]
  simp only[Yc,YHf,YHh,reduceCtorEq,YHg]
  exact Yi h
 ·exact h.1.elim
def hasC:Ctr:={ alias:=false,of:=fun l=>match l with
 | [.agg [.int .i64 d,.int .i64 c,.vs _ _ n sz get,.int .i64 mn,.int .i64 md,.int .i64 cn,.int .i64 cd],.int .i64 note]=>
   .ex (List (Int×Int)) fun bs=> .pre (lsP 2 enc2 n sz get bs/\0<n/\n<=9223372036854775807) (.fin (.bool (hasS ⟨d,c,bs,mn,md,cn,cd⟩ note)) [])
 |_=> .pre False (.fin (.bool false) [])}
theorem YDN:hasC.ok YHk 31:=by
 refine Yb Tryz.func31 YF1 Yqt 100 hasC fun args k h=>?_
 simp only[hasC]at h
 split at h
 ·rename_i d c tt z n sz get mn md cn cd note
  obtain⟨bs,⟨⟨rfl,rfl,hg⟩,hn0,hn⟩,h⟩:=h
  refine⟨[.agg [.int .i64 d,.int .i64 c,.vs tt z bs.length 2 (fun k=>enc2 (bs.getD k default)),.int .i64 mn,.int .i64 md,.int .i64 cn,.int .i64 cd],.int .i64 note],⟨⟨⟨rfl,rfl⟩,⟨rfl,rfl⟩,⟨id,rfl,rfl,rfl,hg⟩,⟨rfl,rfl⟩,⟨rfl,rfl⟩,⟨rfl,rfl⟩,⟨rfl,rfl⟩,trivial⟩,⟨rfl,rfl⟩,trivial⟩,?_⟩
  dsimp only[v31,enc2,Int.toNat_zero,go_sem,reduceIte,YHf]
  simp only[Yc,YHf,YHh,reduceCtorEq,YHg]
  refine⟨⟨by omega,by omega⟩,Yi h⟩
 ·exact h.1.elim
def ptB(g:Bool)(mn md cn cd:Int):Nat->Bool
 |0=>g
 |1=>g&&YcE mn
 |2=>g&&YcE mn&&YcE md
 |3=>g&&YcE mn&&YcE md&&YcE cn
 |_=>g&&YcE mn&&YcE md&&YcE cn&&YcE cd
def stepG(g:Bool×Int)(b:Int×Int):Bool×Int:=(g.1&&decide (g.2<b.1)&&decide (b.1<=139)&&inS b.2 8 64,max g.2 b.1)
theorem Yon:∀(r:List (Int×Int))(g:Bool)(last:Int),(r.foldl stepG (g,last)).1=(g&&benL r last)
 | [],g,last=>by rw[benL,Bool.and_true];rfl
 |b::r,g,last=>by
  rw[YHX,stepG,Yon r,benL]
  simp only
  by_cases c:last<b.1
  ·rw[decide_eq_true c,show max last b.1=b.1 by omega]
   simp only[Bool.and_true,Bool.true_and,Bool.and_assoc]
  ·rw[decide_eq_false c]
   simp only[Bool.and_false,Bool.false_and]
def chkLC:Ctr:={ alias:=false,of:=fun l=>match l with
 | [.agg [.int .i64 d,.int .i64 c,.vs _ _ n sz get,.int .i64 mn,.int .i64 md,.int .i64 cn,.int .i64 cd]]=>
   .ex (List (Int×Int)) fun bs=> .pre (lsP 2 enc2 n sz get bs/\n<=9223372036854775807) (.fin (.int .i64 (chkL ⟨d,c,bs,mn,md,cn,cd⟩)) [])
 |_=>noC}
def UK01:Env:={ ct:=fun n=>match n with|65=>some inSC|_=>none,fn:=fun _=>none,meth:=fun _ _=>none}
theorem Ybt:UK01.ct 65=some inSC:=rfl
theorem YyE:Yn YHk UK01:=by
 refine⟨fun f c h=>?_,fun f vf h=>?_,(fun _ _ _ h=>by cases h),by kernel_rfl,(fun _ h=>by cases h),(fun _ _ h=>by cases h)⟩
 ·simp only[UK01]at h
  split at h
  ·cases h;exact⟨inS_c,Tryz.f65,Tryz.func65,by kernel_rfl,by kernel_rfl⟩
  ·cases h
 ·cases h
theorem YDy:chkLC.ok YHk 30:=by
 refine Yb Tryz.func30 YF0 YyE 400 chkLC fun args k h=>?_
 simp only[chkLC]at h
 split at h
 ·rename_i d c tt z n sz get mn md cn cd
  obtain⟨bs,⟨⟨rfl,rfl,hg⟩,hn⟩,h⟩:=h
  refine⟨[.agg [.int .i64 d,.int .i64 c,.vs tt z bs.length 2 (fun k=>enc2 (bs.getD k default)),.int .i64 mn,.int .i64 md,.int .i64 cn,.int .i64 cd]],⟨⟨⟨rfl,rfl⟩,⟨rfl,rfl⟩,⟨id,rfl,rfl,rfl,hg⟩,⟨rfl,rfl⟩,⟨rfl,rfl⟩,⟨rfl,rfl⟩,⟨rfl,rfl⟩,trivial⟩,trivial⟩,?_⟩
  dsimp only[v30,Ybt,inSC,enc2,go_sem,reduceIte,YHf]
  simp only[Yc,YHf,YHh,reduceCtorEq,YHg]
  refine⟨fun hc=>?_,fun hc=>?_⟩
  ·rw[chkL,if_pos (by simp only;omega)]at h;exact Yj h
  ·rw[chkL,if_neg (by simp only;omega)]at h
   obtain⟨G,hG⟩:∃G,G=(decide (0<(bs.length:Int))&&inS d 1000 500000&&inS c 0 (min 50000 (IntKind.i64.wrap (d-1)))):=⟨_,rfl⟩
   rw[<-hG]
   refine Loop.keep [1,37] Nat (fun i=>[(3,.bool (ptB G mn md cn cd i)),(40,.int .i64 i)]) (fun _=>[]) [] (fun i=>i<=4) (fun i=>4-i) ?_ ?_
   ·refine⟨0,by omega,?_⟩
    dsimp only[go_sem,reduceIte,YHf]
    simp only[Ya]
    exact⟨by decide,rfl,rfl⟩
   ·intro i hi
    rcases(by omega:i=0\/i=1\/i=2\/i=3\/i=4)with rfl|rfl|rfl|rfl|rfl
    ·dsimp only[Ybt,inSC,YHj,go_sem,reduceIte,YHf]
     simp only[Yc,YHf,YHh,reduceCtorEq,YHg]
     refine⟨fun _=>⟨by decide,1,by decide,by decide,?_⟩,fun hh=>absurd (by decide) hh⟩
     simp only[Ya]
     exact⟨by decide,rfl,rfl⟩
    ·dsimp only[Ybt,inSC,YHj,go_sem,reduceIte,YHf]
     simp only[Yc,YHf,YHh,reduceCtorEq,YHg]
     refine⟨fun _=>⟨by decide,2,by decide,by decide,?_⟩,fun hh=>absurd (by decide) hh⟩
     simp only[Ya]
     exact⟨by decide,rfl,rfl⟩
    ·dsimp only[Ybt,inSC,YHj,go_sem,reduceIte,YHf]
     simp only[Yc,YHf,YHh,reduceCtorEq,YHg]
     refine⟨fun _=>⟨by decide,3,by decide,by decide,?_⟩,fun hh=>absurd (by decide) hh⟩
     simp only[Ya]
     exact⟨by decide,rfl,rfl⟩
    ·dsimp only[Ybt,inSC,YHj,go_sem,reduceIte,YHf]
     simp only[Yc,YHf,YHh,reduceCtorEq,YHg]
     refine⟨fun _=>⟨by decide,4,by decide,by decide,?_⟩,fun hh=>absurd (by decide) hh⟩
     simp only[Ya]
     exact⟨by decide,rfl,rfl⟩
    ·dsimp only[Ybt,inSC,YHj,go_sem,reduceIte,YHf]
     simp only[Yc,YHf,YHh,reduceCtorEq,YHg]
     refine⟨fun hh=>absurd hh (by decide),fun _=>?_⟩
     obtain⟨G2,hG2⟩:∃G2,G2=ptB G mn md cn cd 4:=⟨_,rfl⟩
     rw[<-hG2]
     refine Loop.keep [1,48,0] Nat (fun i=>[(3,.bool ((bs.take i).foldl stepG (G2, -1)).1),(6,.int .i64 ((bs.take i).foldl stepG (G2, -1)).2),(52,.int .i64 i)]) (fun _=>[]) [] (fun i=>i<=bs.length) (fun i=>bs.length-i) ?_ ?_
     ·refine⟨0,by omega,?_⟩
      dsimp only[go_sem,reduceIte,YHf]
      simp only[Ya]
      exact⟨by decide,rfl,rfl,rfl⟩
     ·intro i hi
      dsimp only[Ybt,inSC,enc2,YHj,go_sem,reduceIte,YHf]
      simp only[Yc,YHf,YHh,reduceCtorEq,YHg]
      refine⟨fun hlt=>⟨⟨by omega,by omega⟩,i+1,by omega,by omega,?_⟩,fun hge=>?_⟩
      ·rw[Ym (by omega),YHi ((i:Int)+1) (by omega)]
       simp only[Ya]
       exact⟨by decide,rfl,rfl,rfl⟩
      ·obtain rfl:i=bs.length:=by omega
       rw[YIq,Yon]
       have e:okS ⟨d,c,bs,mn,md,cn,cd⟩=(G2&&benL bs (-1)&&decide (mn<md)):=by
        have hp:ptB G mn md cn cd 4=(G&&YcE mn&&YcE md&&YcE cn&&YcE cd):=rfl
        rw[hG2,hp,hG,okS]
        have e1:decide (bs≠ [])=decide (0<(bs.length:Int)):=by
         cases bs with
         |nil=>rfl
         |cons b r=>rw[decide_eq_true (by simp),decide_eq_true (by rw[YH8];omega)]
        simp only
        rw[e1]
        by_cases hd:inS d 1000 500000=true
        ·have hd':=hd
         simp only[inS,YHn,decide_eq_true_eq]at hd'
         rw[YHi (d-1) (by omega)]
        ·rw[YIp]at hd
         rw[hd]
         simp only[Bool.and_false,Bool.false_and]
       rw[e]at h
       have e2:decide (md<=mn)= !decide (mn<md):=by
        by_cases hh:mn<md
        ·rw[decide_eq_true hh,decide_eq_false (by omega)];rfl
        ·rw[decide_eq_false hh,decide_eq_true (by omega)];rfl
       rw[e2,<-Bool.not_and]
       refine⟨fun hh=>?_,fun hh=>?_⟩
       ·rw[YHD]at hh
        rw[hh,if_neg (by decide)]at h;exact Yj h
       ·rw[Bool.not_eq_false']at hh
        rw[hh,if_pos rfl]at h;exact Yj h
 ·exact h.1.elim
def v66:VF:=⟨37,[.cell 4 false 1,.cell 5 false 1],(ZR [u1 2 .box [.tm 0],u1 4 (.alloc [(.int .i64 0)]) [],u1 5 (.alloc [(.int .i64 0)]) []] (.scope (ZR [u0 (.store 1) [.tm 5,.cn (.int .i64 1)]] (ZR [u1 6 (.alloc [(.int .i64 0)]) [],u1 7 (.alloc [(.int .i64 0)]) [],u0 (.store 1) [.tm 6,.cn (.int .i64 0)],u0 (.store 1) [.tm 7,.cn (.int .i64 0)]] (ZR [u1 11 (.mkfn (.func 93) 0) [.tm 7,.tm 4,.tm 6,.tm 5],Zm 8 11] (.seq .skip (.seq (ZR [Za 12 2 2,Zf 13 1 12,Zl 14 13,Zi 15 0] (.block 0 (.loop (ZR [Zr 16 .lss 15 14] (.seq (ZC 16 .skip (.exit 0)) (.seq (.block 1 (ZR [Zx 17 2 13 15,Zt 18 2 17,Zn 10,Zs 2 10 18] (.seq (ZR [Za 19 0 10,Zf 20 1 19,Zm 21 1,Zr 22 .geq 20 21] (ZC 22 (.exit 0) .skip)) (ZR [Zm 23 8,Za 24 0 10,Zf 25 1 24,u1 26 .callv [.tm 23,.tm 25]] (.draw [] [Zy 27 0 10,Zv 28 1 27,Zy 29 1 10,Zv 30 1 29,⟨Zs 1 6 28,[.tm 29]⟩,ZS 1 7 30]))))) (.region [Zp 31 15 1,Zm 15 31]))))))) (ZR [Zm 32 8,Zm 33 1,u1 34 .callv [.tm 32,.tm 33]] (.seq (.draw [] [Zv 35 1 4,Zv 36 1 5,⟨Zs 1 4 35,[.tm 5]⟩,ZS 1 5 36]) .ret)))))))))⟩
theorem YGA:Ye YHk Tryz.f66=some v66:=by kernel_rfl
def v93:VF:=⟨20,[],(ZR [Zf 6 1 1,Zq 7 .gtr 6 0] (ZC 7 (.draw [] [Zv 8 1 2,Zv 9 1 1,w1 10 (.ari .mul) [.tm 8,.tm 9],Zu 11 0,Zv 12 1 3,w1 13 (.ari .sub) [.tm 11,.tm 12],Zv 14 1 4,w1 15 (.ari .mul) [.tm 13,.tm 14],w1 16 (.ari .add) [.tm 10,.tm 15],Zv 17 1 4,Zv 18 1 1,w1 19 (.ari .mul) [.tm 17,.tm 18],⟨Zs 1 2 16,[.tm 4,.tm 1]⟩,ZS 1 4 19]) .skip))⟩
theorem YGZ:Ye YHk Tryz.f93=some v93:=by kernel_rfl
def v33:VF:=⟨48,[.cell 4 true 2],(ZR [u1 2 .box [.tm 0],Zn 4] (ZR [Zt 12 7 2,Zm 13 1,Zd 14 66 12 13,Zm 11 14,Ze 15 0 11,Ze 16 1 11,Zm 5 15,Zm 6 16] (ZR [Za 18 0 2,Zf 19 1 18,Za 20 1 2,Zf 21 1 20,Zo 22 .sub 19 21,Zm 23 5,u1 24 .neg [.tm 23],u1 25 (.build [(.int .i64 0),(.int .i64 0)] [(0,1),(1,1)]) [.cn (.int .i64 2),.tm 24],u1 26 (.buildSlice 2 1 [(.int .i64 0),(.int .i64 0)] [(0,2)]) [.tm 25],Zm 27 6,u1 28 (.call 67) [.tm 22,.tm 26,.tm 27],Zm 17 28,Ze 29 0 17,Ze 30 1 17,Ze 31 2 17,Zm 7 29,Zm 8 30,Zm 9 31] (ZR [Za 32 1 2,Zf 33 1 32,Zm 34 7,Zo 35 .add 33 34,Za 36 1 2,Zf 37 1 36,Zm 38 7,Zo 39 .add 37 38,u1 40 (.build [(.int .i64 0),(.int .i64 0)] [(0,1),(1,1)]) [.tm 35,.tm 39],Zn 10,Zs 2 10 40] (.seq (ZR [Zm 41 8,u1 42 .not [.tm 41]] (ZC 42 (.region [Za 43 1 10,Zf 44 1 43,Zp 45 44 1,Za 46 1 10,Zs 1 46 45]) .skip)) (ZR [Zt 47 2 10,Zs 2 4 47] .ret))))))⟩
theorem YF3:Ye YHk Tryz.f33=some v33:=by kernel_rfl
theorem YgD{α:Type}[Inhabited α]{l:List α}{i:Nat}(h:i<l.length):l.drop i=l.getD i default::l.drop (i+1):=by
 rw[List.drop_eq_getElem_cons h,YHo,YH2 h];rfl
theorem Ym6{k:SV->List HO->Prop}{al:Bool}{hp:List HO}{κ κ':IntKind}{x y:Int}(h:k (.tup [.int κ x,.int κ' y]) []):Yz al k (.tup [.int κ x,.int κ' y]) hp:=
 YE (show k _ []from h) (YC (.tup [.int κ x,.int κ' y]) ⟨trivial,trivial,trivial⟩) (fun _=>by simp [Yt,Ys])
def askC:Ctr:={ alias:=false,of:=fun l=>match l with
 | [.agg [.int .i64 d,.int .i64 c,.vs _ _ n sz get,.int .i64 mn,.int .i64 md,.int .i64 cn,.int .i64 cd],.int .i64 low,.int .i64 high]=>
   .ex (List (Int×Int)) fun bs=> .pre (lsP 2 enc2 n sz get bs/\n<=9223372036854775807) (.fin (.int .i64 (askS ⟨d,c,bs,mn,md,cn,cd⟩ low high)) [])
 |_=>noC}
def UK10:Env:={ ct:=fun n=>match n with|30=>some chkLC|31=>some hasC|_=>none,fn:=fun _=>none,meth:=fun _ _=>none}
theorem Yqu:UK10.ct 30=some chkLC:=rfl
theorem Yqv:UK10.ct 31=some hasC:=rfl
theorem YyF:Yn YHk UK10:=by
 refine⟨fun f c h=>?_,fun f vf h=>?_,(fun _ _ _ h=>by cases h),by kernel_rfl,(fun _ h=>by cases h),(fun _ _ h=>by cases h)⟩
 ·simp only[UK10]at h
  split at h
  ·cases h;exact⟨YDy,Tryz.f30,Tryz.func30,by kernel_rfl,by kernel_rfl⟩
  ·cases h;exact⟨YDN,Tryz.f31,Tryz.func31,by kernel_rfl,by kernel_rfl⟩
  ·cases h
 ·cases h
theorem YDi:askC.ok YHk 11:=by
 refine Yb Tryz.func11 YFH YyF 300 askC fun args k h=>?_
 simp only[askC]at h
 split at h
 ·rename_i d c tt z n sz get mn md cn cd low high
  obtain⟨bs,⟨⟨rfl,rfl,hg⟩,hn⟩,h⟩:=h
  refine⟨[.agg [.int .i64 d,.int .i64 c,.vs tt z bs.length 2 (fun k=>enc2 (bs.getD k default)),.int .i64 mn,.int .i64 md,.int .i64 cn,.int .i64 cd],.int .i64 low,.int .i64 high],⟨⟨⟨rfl,rfl⟩,⟨rfl,rfl⟩,⟨id,rfl,rfl,rfl,hg⟩,⟨rfl,rfl⟩,⟨rfl,rfl⟩,⟨rfl,rfl⟩,⟨rfl,rfl⟩,trivial⟩,⟨rfl,rfl⟩,⟨rfl,rfl⟩,trivial⟩,?_⟩
  dsimp only[v11,Yqu,Yqv,chkLC,hasC,enc2,go_sem,reduceIte,YHf]
  simp only[Yc,YHf,YHh,reduceCtorEq,YHg]
  have self:lsP 2 enc2 bs.length 2 (fun k=>[SV.int IntKind.i64 (bs.getD k default).fst,SV.int IntKind.i64 (bs.getD k default).snd]) bs:=⟨rfl,rfl,fun k _=>Yd _⟩
  refine⟨bs,⟨self,hn⟩,fun hc=>?_,fun hc=>?_⟩
  ·rw[askS,if_pos hc]at h;exact Yj h
  ·rw[askS,if_neg (by rw[hc];decide)]at h
   have hl:=(Yd7 hc).1
   refine⟨bs,⟨self,hl,hn⟩,bs,fun _=>⟨self,hl,hn⟩,fun hh=>?_,fun hh=>?_⟩
   ·rw[if_pos hh]at h;exact Yj h
   ·rw[if_neg (by rw[hh];decide)]at h;exact Yj h
 ·exact h.1.elim
def expC:Ctr:={ alias:=false,of:=fun l=>match l with
 | [.agg [.int .i64 d,.int .i64 c,.vs _ _ n sz get,.int .i64 mn,.int .i64 md,.int .i64 cn,.int .i64 cd],.int .i64 note]=>
   .ex (List (Int×Int)) fun bs=> .pre (lsP 2 enc2 n sz get bs/\n<=9223372036854775807) (.fin (.tup [.int .i64 (expF bs note).1,.int .i64 (expF bs note).2]) [])
 |_=>noC}
def UK11:Env:={ ct:=fun _=>none,fn:=fun n=>match n with|93=>some v93|_=>none,meth:=fun _ _=>none}
theorem Ykd:UK11.ct 93=none:=rfl
theorem Yke:UK11.fn 93=some v93:=rfl
theorem YyG:Yn YHk UK11:=by
 refine⟨fun f c h=>?_,fun f vf h=>?_,(fun _ _ _ h=>by cases h),by kernel_rfl,(fun _ h=>by cases h),(fun _ _ h=>by cases h)⟩
 ·cases h
 ·simp only[UK11]at h
  split at h
  ·cases h;exact⟨Tryz.f93,Tryz.func93,YGZ,Tryz.f93,Tryz.func93,by kernel_rfl,by kernel_rfl⟩
  ·cases h
theorem exp_c:expC.ok YHk 66:=by
 refine Yb Tryz.func66 YGA YyG 500 expC fun args k h=>?_
 simp only[expC]at h
 split at h
 ·rename_i d c tt z n sz get mn md cn cd note
  obtain⟨bs,⟨⟨rfl,rfl,hg⟩,hn⟩,h⟩:=h
  refine⟨[.agg [.int .i64 d,.int .i64 c,.vs tt z bs.length 2 (fun k=>enc2 (bs.getD k default)),.int .i64 mn,.int .i64 md,.int .i64 cn,.int .i64 cd],.int .i64 note],⟨⟨⟨rfl,rfl⟩,⟨rfl,rfl⟩,⟨id,rfl,rfl,rfl,hg⟩,⟨rfl,rfl⟩,⟨rfl,rfl⟩,⟨rfl,rfl⟩,⟨rfl,rfl⟩,trivial⟩,⟨rfl,rfl⟩,trivial⟩,?_⟩
  dsimp only[v66,Ykd,Yke,v93,enc2,go_sem,reduceIte,YHf]
  simp only[Yc,YHf,YHh,reduceCtorEq,YHg]
  obtain⟨R,hR⟩:∃R,R=expF bs note:=⟨_,rfl⟩
  rw[<-hR]at h
  refine Loop.keep [1,2,0,0,0,0,4,0] (Exn×Nat) (fun s=>[(15,.int .i64 s.2)]) (fun s=>[(1,.box [.int .i64 s.1.n]),(2,.box [.int .i64 s.1.d]),(3,.box [.int .i64 s.1.f]),(4,.box [.int .i64 s.1.h])]) [] (fun s=>s.2<=bs.length/\R=expL note (bs.drop s.2) s.1) (fun s=>bs.length-s.2) ?_ ?_
  ·refine⟨(⟨0,0,0,1⟩,0),⟨by simp,hR⟩,?_⟩
   dsimp only[go_sem,reduceIte,YHf]
   simp only[Ya]
   decide
  ·rintro⟨e,i⟩ ⟨hi,hinv⟩
   dsimp only at hi hinv
   dsimp only[Ykd,Yke,v93,enc2,YHj,go_sem,reduceIte,YHf]
   simp only[Yc,YHf,YHh,reduceCtorEq,YHg]
   refine⟨fun hlt=>⟨⟨by omega,by omega⟩,fun hb=>?_,fun hb=>⟨fun hh=>?_,fun hh=>?_⟩⟩,fun hge=>?_⟩
   ·rw[YgD (by omega:i<bs.length),expL,if_pos hb]at hinv
    rw[hinv]at h
    refine⟨fun hh=>?_,fun hh=>?_⟩
    ·rw[addE,if_pos hh]at h;exact Ym6 h
    ·rw[addE,if_neg hh]at h;exact Ym6 h
   ·rw[YgD (by omega:i<bs.length),expL,if_neg hb,addE,if_pos hh]at hinv
    refine⟨(_,i+1),⟨by simp only;omega,hinv⟩,by simp only;omega,?_⟩
    rw[YHi ((i:Int)+1) (by omega)]
    simp only[Ya]
    exact⟨by decide,by decide,by decide,by decide,by decide,rfl⟩
   ·rw[YgD (by omega:i<bs.length),expL,if_neg hb,addE,if_neg hh]at hinv
    refine⟨(_,i+1),⟨by simp only;omega,hinv⟩,by simp only;omega,?_⟩
    rw[YHi ((i:Int)+1) (by omega)]
    simp only[Ya]
    exact⟨by decide,by decide,by decide,by decide,by decide,rfl⟩
   ·obtain rfl:i=bs.length:=by omega
    rw[List.drop_length,expL]at hinv
    rw[hinv]at h
    refine⟨fun hh=>?_,fun hh=>?_⟩
    ·rw[addE,if_pos hh]at h;exact Ym6 h
    ·rw[addE,if_neg hh]at h;exact Ym6 h
 ·exact h.1.elim
def diaC:Ctr:={ alias:=false,of:=fun l=>match l with
 | [.agg [.int .i64 d,.int .i64 c,.vs _ _ n sz get,.int .i64 mn,.int .i64 md,.int .i64 cn,.int .i64 cd],.int .i64 note]=>
   .ex (List (Int×Int)) fun bs=> .pre (lsP 2 enc2 n sz get bs/\chkL ⟨d,c,bs,mn,md,cn,cd⟩=0/\0<=note/\note<=139) (.fin (.agg (enc2 (diaS ⟨d,c,bs,mn,md,cn,cd⟩ note))) [])
 |_=>noC}
def UK12:Env:={ ct:=fun n=>match n with|66=>some expC|67=>some prodC|_=>none,fn:=fun _=>none,meth:=fun _ _=>none}
theorem Yqw:UK12.ct 66=some expC:=rfl
theorem Yqx:UK12.ct 67=some prodC:=rfl
theorem YyH:Yn YHk UK12:=by
 refine⟨fun f c h=>?_,fun f vf h=>?_,(fun _ _ _ h=>by cases h),by kernel_rfl,(fun _ h=>by cases h),(fun _ _ h=>by cases h)⟩
 ·simp only[UK12]at h
  split at h
  ·cases h;exact⟨exp_c,Tryz.f66,Tryz.func66,by kernel_rfl,by kernel_rfl⟩
  ·cases h;exact⟨YEA,Tryz.f67,Tryz.func67,by kernel_rfl,by kernel_rfl⟩
  ·cases h
 ·cases h
theorem YDB:diaC.ok YHk 33:=by
 refine Yb Tryz.func33 YF3 YyH 500 diaC fun args k h=>?_
 simp only[diaC]at h
 split at h
 ·rename_i d c tt z n sz get mn md cn cd note
  obtain⟨bs,⟨⟨rfl,rfl,hg⟩,hs,hnote⟩,h⟩:=h
  refine⟨[.agg [.int .i64 d,.int .i64 c,.vs tt z bs.length 2 (fun k=>enc2 (bs.getD k default)),.int .i64 mn,.int .i64 md,.int .i64 cn,.int .i64 cd],.int .i64 note],⟨⟨⟨rfl,rfl⟩,⟨rfl,rfl⟩,⟨id,rfl,rfl,rfl,hg⟩,⟨rfl,rfl⟩,⟨rfl,rfl⟩,⟨rfl,rfl⟩,⟨rfl,rfl⟩,trivial⟩,⟨rfl,rfl⟩,trivial⟩,?_⟩
  dsimp only[v33,Yqw,Yqx,expC,prodC,enc2,go_sem,reduceIte,YHf]
  simp only[Yc,YHf,YHh,reduceCtorEq,YHg]
  have hr:=Yjt hs
  simp only at hr
  obtain⟨_,x1,x2,x3,x4⟩:=Yi5 hs hnote
  simp only at x1 x2 x3 x4
  have k1:note*(expF bs note).2<=139*262144:=YO hnote.2 x4 hnote.1 (by decide)
  have e1:IntKind.i64.wrap (d-c)=d-c:=YHi _ (by omega)
  have e2:IntKind.i64.wrap (0-(expF bs note).1)= -(expF bs note).1:=by rw[YHi _ (by omega)];omega
  have hro:0<=(Ybo (d-c) (expF bs note).1 (expF bs note).2).1/\(Ybo (d-c) (expF bs note).1 (expF bs note).2).1<=2000000:=by
   obtain⟨K,g1,g2,_⟩:=YeM (m:=(d-c).toNat) (num:=(expF bs note).1.toNat) (den:=(expF bs note).2.toNat) (by omega) (by omega) (by omega)
   rw[Int.toNat_of_nonneg (by omega),Int.toNat_of_nonneg (by omega),Int.toNat_of_nonneg (by omega)]at g2
   rw[g2];omega
  refine⟨bs,⟨⟨rfl,rfl,fun k _=>Yd _⟩,?_⟩,by decide,by decide,by decide,[(2, -(expF bs note).1)],?_,by decide,by decide,by decide,?_⟩
  ·have:=(Yd7 hs).2.1
   simp only at this;omega
  ·rw[e2]
   refine⟨rfl,rfl,fun k hk=>?_⟩
   obtain rfl:k=0:=by omega
   exact Yd _
  ·rw[e1]
   have e3:(Yfd (d-c) [(2, -(expF bs note).1)] (expF bs note).2).1=(Ybo (d-c) (expF bs note).1 (expF bs note).2).1:=rfl
   have e4:(Yfd (d-c) [(2, -(expF bs note).1)] (expF bs note).2).2.1=(Ybo (d-c) (expF bs note).1 (expF bs note).2).2:=rfl
   rw[e3,e4]
   unfold diaS at h
   simp only at h
   generalize Ybo (d-c) (expF bs note).1 (expF bs note).2=r at*
   have e5:IntKind.i64.wrap (c+r.1)=c+r.1:=YHi _ (by omega)
   have e6:IntKind.i64.wrap (c+r.1+1)=c+r.1+1:=YHi _ (by omega)
   rw[e5,e6]
   refine⟨fun hh=>?_,fun hh=>?_⟩
   ·rw[if_neg (by rw[hh];decide)]at h
    exact YqQ h
   ·rw[if_pos hh]at h
    exact YqQ h
 ·exact h.1.elim
def v68:VF:=⟨9,[.tmp 2],(ZR [u1 2 .mov [.cn (.bool false)]] (ZR [Zm 3 0,Zq 4 .geq 3 (-4611686018427387904),Zm 5 4,Zg 6 5 true 0,u2 7 5 true (.cmp .leq) [.tm 6,.cn (.int .i64 4611686018427387904)],u1 8 .and [.tm 5,.tm 7],Zm 2 8] .ret))⟩
theorem YGC:Ye YHk Tryz.f68=some v68:=by kernel_rfl
def v57:VF:=⟨36,[.tmp 2],(ZR [Zi 2 0] (.seq (ZR [Zm 7 0,Zl 8 7,Zi 9 0] (.block 0 (.loop (ZR [Zr 10 .lss 9 8] (.seq (ZC 10 .skip (.exit 0)) (.seq (.block 1 (ZR [Zx 11 2 7 9,Zt 12 2 11,Zn 4,Zs 2 4 12] (ZR [Za 13 0 4,Zf 14 1 13,Zc 15 68 14,u1 16 .not [.tm 15],Zm 17 16,Zj 18 17 false 1 4,Zh 19 17 false 1 18,u2 20 17 false (.call 68) [.tm 19],u2 21 17 false .not [.tm 20],u1 22 .or [.tm 17,.tm 21]] (ZC 22 (ZR [Zi 2 7] .ret) .skip)))) (.region [Zp 23 9 1,Zm 9 23]))))))) (.seq (ZR [Zm 24 0,Zl 25 24,Zi 26 0] (.block 2 (.loop (ZR [Zr 27 .lss 26 25] (.seq (ZC 27 .skip (.exit 2)) (.seq (.block 3 (ZR [Zx 28 2 24 26,Zt 29 2 28,Zn 6,Zs 2 6 29] (ZR [Za 30 0 6,Zf 31 1 30,Za 32 1 6,Zf 33 1 32,Zr 34 .gtr 31 33] (ZC 34 (ZR [Zi 2 2] .ret) .skip)))) (.region [Zp 35 26 1,Zm 26 35]))))))) (ZR [Zi 2 0] .ret))))⟩
theorem YGr:Ye YHk Tryz.f57=some v57:=by kernel_rfl
def v91:VF:=⟨8,[.tmp 2],(ZR [u1 2 .mov [.cn (.int .u64 0)]] (ZR [Zm 3 0,Zm 4 0,u1 5 .neg [.tm 4],u1 6 .max [.tm 3,.tm 5],u1 7 (.conv .u64) [.tm 6],Zm 2 7] .ret))⟩
theorem YGX:Ye YHk Tryz.f91=some v91:=by kernel_rfl
def v59:VF:=⟨29,[.cell 4 true 3],(ZR [u1 4 (.alloc [(.bool false),(.int .u64 0),(.int .u64 0)]) []] (ZR [Zm 8 0,Zc 9 91 8,Zm 10 1,Zc 11 91 10,Zd 12 90 9 11,Zm 7 12,Ze 13 0 7,Ze 14 1 7,Zm 5 13,Zm 6 14] (ZR [Zm 15 0,Zq 16 .lss 15 0,Zm 17 1,Zq 18 .lss 17 0,u1 19 (.eqb true) [.tm 16,.tm 18],Zm 20 19,Zg 21 20 true 5,Zg 22 20 true 6,u2 23 20 true (.bit .or) [.tm 21,.tm 22],u2 24 20 true (.cmp .neq) [.tm 23,.cn (.int .u64 0)],u1 25 .and [.tm 20,.tm 24],Zm 26 5,Zm 27 6,u1 28 (.build [(.bool false),(.int .u64 0),(.int .u64 0)] [(0,1),(1,1),(2,1)]) [.tm 25,.tm 26,.tm 27],Zs 3 4 28] .ret)))⟩
theorem YGt:Ye YHk Tryz.f59=some v59:=by kernel_rfl
def v88:VF:=⟨39,[.tmp 4],(ZR [u1 2 .box [.tm 0],u1 3 .box [.tm 1],u1 4 .mov [.cn (.bool false)]] (.seq (ZR [Zt 6 3 2,Zt 7 3 3,u1 8 (.eqv false [false,true,true]) [.tm 6,.tm 7]] (ZC 8 (ZR [u1 4 .mov [.cn (.bool false)]] .ret) .skip)) (.seq (ZR [Za 9 0 2,Zf 10 1 9,Za 11 0 3,Zf 12 1 11,u1 13 (.eqb true) [.tm 10,.tm 12]] (ZC 13 (ZR [Za 14 0 2,Zf 15 1 14,Zm 4 15] .ret) .skip)) (ZR [Za 16 1 2,Zf 17 1 16,Za 18 1 3,Zf 19 1 18,Zr 20 .lss 17 19,Zm 21 20,Zj 22 21 false 1 2,Zh 23 21 false 1 22,Zj 24 21 false 1 3,Zh 25 21 false 1 24,u2 26 21 false (.cmp .eql) [.tm 23,.tm 25],Zg 27 21 false 26,Zj 28 27 true 2 2,Zh 29 27 true 1 28,Zj 30 27 true 2 3,Zh 31 27 true 1 30,u2 32 27 true (.cmp .lss) [.tm 29,.tm 31],u2 33 21 false .and [.tm 27,.tm 32],u1 34 .or [.tm 21,.tm 33],Zm 5 34] (ZR [Zm 35 5,Za 36 0 2,Zf 37 1 36,u1 38 (.eqb true) [.tm 35,.tm 37],Zm 4 38] .ret)))))⟩
theorem YGU:Ye YHk Tryz.f88=some v88:=by kernel_rfl
def v89:VF:=⟨56,[.tmp 6,.tmp 7],(ZR [u1 3 .box [.tm 0],Zi 6 0,u1 7 .mov [.cn (.bool false)]] (.seq (ZR [Za 10 1 3,Zf 11 1 10,Zm 12 1,Zr 13 .geq 11 12] (ZC 13 (ZR [Zi 6 0,u1 7 .mov [.cn (.bool false)]] .ret) .skip)) (ZR [Za 15 1 3,Zf 16 1 15,Za 17 2 3,Zf 18 1 17,Zm 19 1,u1 20 (.call 116) [.tm 16,.tm 18,.tm 19],Zm 14 20,Ze 21 0 14,Ze 22 1 14,Zm 8 21,Zm 9 22] (.seq (ZR [Zm 23 9,u1 24 (.cmp .neq) [.tm 23,.cn (.int .u64 0)],Zm 25 24,Zg 26 25 true 2,Zj 27 25 true 0 3,Zh 28 25 true 1 27,u2 29 25 true (.eqb true) [.tm 26,.tm 28],u1 30 .and [.tm 25,.tm 29]] (ZC 30 (.region [Zm 31 8,u1 32 (.ari .add) [.tm 31,.cn (.int .u64 1)],Zm 8 32]) .skip)) (.seq (ZR [Zm 33 8,u1 34 (.cmp .gtr) [.tm 33,.cn (.int .u64 4611686018427387904)],Zm 35 34,Zg 36 35 false 8,u2 37 35 false (.cmp .eql) [.tm 36,.cn (.int .u64 0)],Zg 38 35 false 37,Zg 39 38 true 9,u2 40 38 true (.cmp .neq) [.tm 39,.cn (.int .u64 0)],u2 41 35 false .and [.tm 38,.tm 40],Zg 42 35 false 41,Zg 43 42 true 2,Zj 44 42 true 0 3,Zh 45 42 true 1 44,u2 46 42 true (.eqb true) [.tm 43,.tm 45],u2 47 35 false .and [.tm 42,.tm 46],u1 48 .or [.tm 35,.tm 47]] (ZC 48 (ZR [Zi 6 0,u1 7 .mov [.cn (.bool false)]] .ret) .skip)) (.seq (ZR [Za 49 0 3,Zf 50 1 49] (ZC 50 (ZR [Zm 51 8,u1 52 (.conv .i64) [.tm 51],u1 53 .neg [.tm 52],Zm 6 53,u1 7 .mov [.cn (.bool true)]] .ret) .skip)) (ZR [Zm 54 8,u1 55 (.conv .i64) [.tm 54],Zm 6 55,u1 7 .mov [.cn (.bool true)]] .ret)))))))⟩
theorem YGV:Ye YHk Tryz.f89=some v89:=by kernel_rfl
def v58:VF:=⟨58,[.cell 4 true 2,.tmp 5],(ZR [Zn 4,Zi 5 0] (.seq (.draw [(6,.box [(.bool false),(.int .u64 0),(.int .u64 0)]),(7,.box [(.bool false),(.int .u64 0),(.int .u64 0)])] [Zu 14 1,w1 15 (.idxAddr 3) [.tm 14,.cn (.int .i64 0)],Zw 16 3 15,Zu 17 1,w1 18 (.idxAddr 3) [.tm 17,.cn (.int .i64 0)],Zw 19 3 18,⟨Zs 3 6 16,[.tm 18]⟩,ZS 3 7 19]) (.seq (ZR [Zm 20 1,u1 21 (.slice 3 true false) [.tm 20,.cn (.int .i64 1)],Zl 22 21,Zi 23 0] (.block 0 (.loop (ZR [Zr 24 .lss 23 22] (.seq (ZC 24 .skip (.exit 0)) (.seq (.block 1 (ZR [Zx 25 3 21 23,Zt 26 3 25,u1 9 (.alloc [(.bool false),(.int .u64 0),(.int .u64 0)]) [],Zs 3 9 26] (.seq (ZR [Zt 27 3 9,Zt 28 3 6,Zd 29 88 27 28] (ZC 29 (.region [Zt 30 3 9,Zs 3 6 30]) .skip)) (ZR [Zt 31 3 7,Zt 32 3 9,Zd 33 88 31 32] (ZC 33 (.region [Zt 34 3 9,Zs 3 7 34]) .skip))))) (.region [Zp 35 23 1,Zm 23 35]))))))) (ZR [Zt 37 3 6,Zm 38 0,u1 39 (.call 89) [.tm 37,.tm 38,.cn (.bool false)],Zm 36 39,Ze 40 0 36,Ze 41 1 36,Zm 10 40,Zm 11 41] (ZR [Zt 43 3 7,Zm 44 0,u1 45 (.call 89) [.tm 43,.tm 44,.cn (.bool true)],Zm 42 45,Ze 46 0 42,Ze 47 1 42,Zm 12 46,Zm 13 47] (.seq (ZR [Zm 48 11,u1 49 .not [.tm 48],Zm 50 49,Zg 51 50 false 13,u2 52 50 false .not [.tm 51],u1 53 .or [.tm 50,.tm 52]] (ZC 53 (ZR [u1 54 (.build [(.int .i64 0),(.int .i64 0)] []) [],Zs 2 4 54,Zi 5 7] .ret) .skip)) (ZR [Zm 55 10,Zm 56 12,u1 57 (.build [(.int .i64 0),(.int .i64 0)] [(0,1),(1,1)]) [.tm 55,.tm 56],Zs 2 4 57,Zi 5 0] .ret)))))))⟩
theorem YGs:Ye YHk Tryz.f58=some v58:=by kernel_rfl
def numC:Ctr:={ alias:=false,of:=fun l=>match l with| [.int .i64 n]=> .fin (.bool (YcD n)) [] |_=>noC}
def ivlC:Ctr:={ alias:=false,of:=fun a=>match a with
 | [.vs _ _ n sz get]=> .ex (List Iv) fun l=> .pre (lsP 2 enc2 n sz get l/\l.length<=1000000) (.fin (.int .i64 (ivE l)) [])
 |_=>noC}
def sizC:Ctr:={ alias:=false,of:=fun l=>match l with
 | [.int .i64 n]=> .pre (-9223372036854775808<=n/\n<=9223372036854775807) (.fin (.int .u64 (n.natAbs:Int)) [])
 |_=>noC}
def timC:Ctr:={ alias:=false,of:=fun l=>match l with
 | [.int .i64 a,.int .i64 b]=> .pre ((-9223372036854775808<=a/\a<=9223372036854775807)/\ -9223372036854775808<=b/\b<=9223372036854775807) (.fin (.agg (YfH (a*b))) [])
 |_=>noC}
def lessC:Ctr:={ alias:=false,of:=fun l=>match l with
 | [.agg [.bool n,.int .u64 h,.int .u64 lo],.agg [.bool n',.int .u64 h',.int .u64 lo']]=> .ex Int fun x=> .ex Int fun y=> .pre (Yv1 x n h lo/\Yv1 y n' h' lo') (.fin (.bool (decide (x<y))) [])
 |_=>noC}
def overC:Ctr:={ alias:=false,of:=fun l=>match l with
 | [.agg [.bool n,.int .u64 h,.int .u64 lo],.int .u64 d,.bool up]=> .ex Int fun x=> .pre (Yv1 x n h lo/\big x/\0<d/\d<=18446744073709551615) (.fin (.tup [.int .i64 (rndF up x d).1,.bool (rndF up x d).2]) [])
 |_=>noC}
def spanC:Ctr:={ alias:=false,of:=fun l=>match l with
 | [.int .u64 d,.vs _ _ n sz get]=> .ex Int fun x=> .ex (List Int) fun r=> .pre (lsP 3 YfH n sz get (x::r)/\r.length<=1000/\(∀y∈x::r,big y)/\0<d/\d<=18446744073709551615) (.fin (.tup [.agg (enc2 (Yho d x r).1),.int .i64 (Yho d x r).2]) [])
 |_=>noC}
def P0:Env:={ ct:=fun _=>none,fn:=fun _=>none,meth:=fun _ _=>none}
theorem YCB:Yn YHk P0:=by
 refine⟨fun f c h=>?_,fun f vf h=>?_,(fun _ _ _ h=>by cases h),by kernel_rfl,(fun _ h=>by cases h),(fun _ _ h=>by cases h)⟩
 ·cases h
 ·cases h
theorem YsO:numC.ok YHk 68:=by
 refine Yb Tryz.func68 YGC YCB 100 numC fun args k h=>⟨args,?_⟩
 simp only[numC]at h
 split at h
 ·refine⟨by simp [leL,le],?_⟩
  (try dsimp only[v68,go_sem,reduceIte,YHf])
  (try simp only[Yc,YHf,YHh,reduceCtorEq,YHg])
  exact Yi h
 ·exact h.1.elim
theorem YxP:sizC.ok YHk 91:=by
 refine Yb Tryz.func91 YGX YCB 100 sizC fun args k h=>⟨args,?_⟩
 simp only[sizC]at h
 split at h
 ·rename_i n
  obtain⟨⟨h0,h1⟩,h⟩:=h
  refine⟨by simp [leL,le],?_⟩
  (try dsimp only[v91,go_sem,reduceIte,YHf])
  (try simp only[Yc,YHf,YHh,reduceCtorEq,YHg])
  have e:IntKind.u64.wrap (max n (IntKind.i64.wrap (0-n)))=(n.natAbs:Int):=by
   rcases Int.lt_or_le n (-9223372036854775807)with h'|h'
   ·obtain rfl:n= -9223372036854775808:=by omega
    decide
   ·rw[YHi _ (by omega),YHJ _ (by omega)];omega
  rw[e]
  exact Yj h
 ·exact h.1.elim
def P1:Env:={ ct:=fun n=>match n with|68=>some numC|91=>some sizC|90=>some mul64C|116=>some div64C|_=>none,fn:=fun _=>none,meth:=fun _ _=>none}
theorem Yyp:P1.ct 68=some numC:=rfl
theorem Yyr:P1.ct 91=some sizC:=rfl
theorem Yyq:P1.ct 90=some mul64C:=rfl
theorem YuG:P1.ct 116=some div64C:=rfl
theorem YuH:Yn YHk P1:=by
 refine⟨fun f c h=>?_,fun f vf h=>?_,(fun _ _ _ h=>by cases h),by kernel_rfl,(fun _ h=>by cases h),(fun _ _ h=>by cases h)⟩
 ·simp only[P1]at h
  split at h
  ·cases h;exact⟨YsO,Tryz.f68,Tryz.func68,by kernel_rfl,by kernel_rfl⟩
  ·cases h;exact⟨YxP,Tryz.f91,Tryz.func91,by kernel_rfl,by kernel_rfl⟩
  ·cases h;exact⟨Yf4,Tryz.f90,Tryz.func90,by kernel_rfl,by kernel_rfl⟩
  ·cases h;exact⟨Ynr,Tryz.f116,Tryz.func116,by kernel_rfl,by kernel_rfl⟩
  ·cases h
 ·cases h
theorem Yr4:ivlC.ok YHk 57:=by
 refine Yb Tryz.func57 YGr YuH 400 ivlC fun args k h=>?_
 simp only[ivlC]at h
 split at h
 ·rename_i tt z n sz get
  obtain⟨l,⟨⟨rfl,rfl,hg⟩,hmax⟩,h⟩:=h
  refine⟨[.vs tt z l.length 2 (fun k=>enc2 (l.getD k default))],by simpa [leL,le]using hg,?_⟩
  (try dsimp only[v57,enc2,go_sem,reduceIte,YHf])
  (try simp only[Yc,YHf,YHh,reduceCtorEq,YHg])
  refine Loop.keep [0,6,0,0] Nat (fun i=>[(9,.int .i64 i)]) (fun _=>[]) [] (fun i=>i<=l.length/\∀j,j<i->(YcD (l.getD j default).1&&YcD (l.getD j default).2)=true) (fun i=>l.length-i) ?_ ?_
  ·refine⟨0,⟨YHK _,fun j h=>by omega⟩,?_⟩
   (try dsimp only[go_sem,reduceIte,YHf])
   simp only[Ya]
   simp
  ·rintro i ⟨hi,ha⟩
   (try dsimp only[Yyp,numC,enc2,YHj,go_sem,reduceIte,YHf])
   (try simp only[Yc,YHf,YHh,reduceCtorEq,YHg])
   refine⟨fun hlt=>⟨⟨by omega,hlt⟩,fun hb=>Yj ?_,fun hb=>?_⟩,fun hge=>?_⟩
   ·have e:=YzQ (l:=l) (i:=i) (by omega) (by rw[<-Bool.not_and,YHD]at hb;exact hb)
    rw[e]at h;exact h
   ·rw[<-Bool.not_and]at hb
    refine⟨i+1,⟨by omega,fun j hj=>?_⟩,by omega,?_⟩
    ·rcases YHA j i with h'|h'
     ·exact ha j h'
     ·obtain rfl:j=i:=by omega
      simpa using hb
    ·have hw:=Y0 (i:=i) (n:=l.length) (by omega) (by omega)
     simp only[hw,Ya] <;> simp
   ·obtain rfl:i=l.length:=by omega
    refine Loop.keep [0,23,0,0] Nat (fun i=>[(26,.int .i64 i)]) (fun _=>[]) [] (fun i=>i<=l.length/\∀j,j<i->(l.getD j default).1<=(l.getD j default).2) (fun i=>l.length-i) ?_ ?_
    ·refine⟨0,⟨YHK _,fun j h=>by omega⟩,?_⟩
     (try dsimp only[go_sem,reduceIte,YHf])
     simp only[Ya]
     simp
    ·rintro i ⟨hi,hc⟩
     (try dsimp only[enc2,YHj,go_sem,reduceIte,YHf])
     (try simp only[Yc,YHf,YHh,reduceCtorEq,YHg])
     refine⟨fun hlt=>⟨⟨by omega,hlt⟩,fun hb=>Yj ?_,fun hb=>?_⟩,fun hge=>?_⟩
     ·have e:=ivE_2 ha (i:=i) (by omega) (by omega)
      rw[e]at h;exact h
     ·refine⟨i+1,⟨by omega,fun j hj=>?_⟩,by omega,?_⟩
      ·rcases YHA j i with h'|h'
       ·exact hc j h'
       ·obtain rfl:j=i:=by omega
        omega
      ·have hw:=Y0 (i:=i) (n:=l.length) (by omega) (by omega)
       simp only[hw,Ya] <;> simp
     ·obtain rfl:i=l.length:=by omega
      rw[ivE_0 ha hc]at h
      exact Yj h
 ·exact h.1.elim
theorem YFB:timC.ok YHk 59:=by
 refine Yb Tryz.func59 YGt YuH 200 timC fun args k h=>⟨args,?_⟩
 simp only[timC]at h
 split at h
 ·rename_i a b
  obtain⟨⟨ha,hb⟩,h⟩:=h
  refine⟨by simp [leL,le],?_⟩
  (try dsimp only[v59,Yyr,Yyq,sizC,mul64C,go_sem,reduceIte,YHf])
  (try simp only[Yc,YHf,YHh,reduceCtorEq,YHg])
  obtain⟨P,hP⟩:∃P,P=a.natAbs*b.natAbs:=⟨_,rfl⟩
  have hPb:P<=9223372036854775808*9223372036854775808:=by rw[hP];exact YHE (by omega) (by omega)
  have e0:(a.natAbs:Int)*(b.natAbs:Int)=(P:Int):=by rw[hP];exact(YIj _ _).symm
  have e1:(P:Int)/18446744073709551616=((P/18446744073709551616:Nat):Int):=by omega
  have e2:(P:Int)%18446744073709551616=((P%18446744073709551616:Nat):Int):=by omega
  rw[e0,e1,e2,Yvg (by omega) (by omega)]
  refine⟨ha,hb,⟨⟨by omega,by omega⟩,by omega,by omega⟩,by decide,by decide,?_⟩
  have e3:(a*b).natAbs=P:=by rw[hP,Int.natAbs_mul]
  have e4:(!(decide (a<0)==decide (b<0))&& !decide (((P/18446744073709551616||| P%18446744073709551616:Nat):Int)=0))=decide (a*b<0):=by
   have z:decide (((P/18446744073709551616||| P%18446744073709551616:Nat):Int)=0)=decide (P=0):=by
    congr 1
    apply propext
    have:= @Nat.or_eq_zero_iff (P/18446744073709551616) (P%18446744073709551616)
    omega
   rw[z]
   have hz:P=0↔a=0\/b=0:=by rw[hP,Nat.mul_eq_zero];omega
   rcases Int.lt_trichotomy a 0 with h1|h1|h1 <;> rcases Int.lt_trichotomy b 0 with h2|h2|h2
   ·have:=Int.mul_pos_of_neg_of_neg h1 h2
    simp [h1,h2];omega
   ·subst h2;simp [hz]
   ·have:=Int.mul_neg_of_neg_of_pos h1 h2
    have hb':¬b<0:=by omega
    simp [h1,hb',this,hz];omega
   ·subst h1;simp [hz]
   ·subst h1;simp [hz]
   ·subst h1;simp [hz]
   ·have:=Int.mul_neg_of_pos_of_neg h1 h2
    have ha':¬a<0:=by omega
    simp [h2,ha',this,hz];omega
   ·subst h2;simp [hz]
   ·have:=Int.mul_pos h1 h2
    have ha':¬a<0:=by omega
    have hb':¬b<0:=by omega
    simp [ha',hb'];omega
  rw[e4]
  have h:k (.agg (YfH (a*b))) []:=h
  rw[YfH,e3]at h
  exact YE (show k _ []from h) (YC (.agg [.bool (decide (a*b<0)),.int .u64 ((P/18446744073709551616:Nat):Int),.int .u64 ((P%18446744073709551616:Nat):Int)]) ⟨trivial,trivial,trivial,trivial⟩) (fun _=>by simp [Yt,Ys])
 ·exact h.1.elim
theorem Yz1:lessC.ok YHk 88:=by
 refine Yb Tryz.func88 YGU YuH 200 lessC fun args k h=>⟨args,?_⟩
 simp only[lessC]at h
 split at h
 ·rename_i n hi lo n' hi' lo'
  obtain⟨x,y,⟨⟨rfl,rfl,rfl⟩,rfl,rfl,rfl⟩,h⟩:=h
  refine⟨by simp [leL,le],?_⟩
  (try dsimp only[v88,go_sem,reduceIte,YHf])
  (try simp only[Yc,YHf,YHh,reduceCtorEq,YHg])
  refine⟨fun hc=>Yi ?_,fun hc=>⟨fun hd=>Yi ?_,fun hd=>⟨fun h1 h2=>by rw[decide_eq_false h1,decide_eq_true h2];rfl,Yi ?_⟩⟩⟩
  ·simp only[YHn,Bool.and_true,decide_eq_true_eq,beq_iff_eq,decide_eq_decide]at hc
   have:x=y:=by omega
   subst this
   have h:k (.bool (decide (x<x))) []:=h
   rw[decide_eq_false (Int.lt_irrefl x)]at h
   exact h
  ·have:decide (x<y)=decide (x<0):=by
    rw[beq_eq_false_iff_ne,ne_eq,decide_eq_decide]at hd
    rw[decide_eq_decide];omega
   rw[<-this];exact h
  ·have:(!((decide (((x.natAbs/18446744073709551616:Nat):Int)<((y.natAbs/18446744073709551616:Nat):Int)) || decide (((x.natAbs/18446744073709551616:Nat):Int)=((y.natAbs/18446744073709551616:Nat):Int))&&decide (((x.natAbs%18446744073709551616:Nat):Int)<((y.natAbs%18446744073709551616:Nat):Int)))==decide (x<0)))=decide (x<y):=by
    simp only[beq_iff_eq,decide_eq_decide]at hd
    simp only[Bool.and_eq_false_iff,Bool.and_true,decide_eq_false_iff_not,beq_eq_false_iff_ne,ne_eq,decide_eq_decide]at hc
    have e:(decide (((x.natAbs/18446744073709551616:Nat):Int)<((y.natAbs/18446744073709551616:Nat):Int)) || decide (((x.natAbs/18446744073709551616:Nat):Int)=((y.natAbs/18446744073709551616:Nat):Int))&&decide (((x.natAbs%18446744073709551616:Nat):Int)<((y.natAbs%18446744073709551616:Nat):Int)))=decide (x.natAbs<y.natAbs):=by
     rw[Bool.eq_iff_iff]
     simp only[YHS,YHn,decide_eq_true_eq]
     omega
    rw[e]
    by_cases hx:x<0
    ·rw[decide_eq_true hx,Bool.eq_iff_iff,YHD,beq_eq_false_iff_ne,ne_eq,decide_eq_true_eq,decide_eq_true_eq];omega
    ·rw[decide_eq_false hx,Bool.eq_iff_iff,YHD,beq_eq_false_iff_ne,ne_eq,decide_eq_false_iff_not,decide_eq_true_eq];omega
   rw[this];exact h
 ·exact h.1.elim
theorem YsR:overC.ok YHk 89:=by
 refine Yb Tryz.func89 YGV YuH 200 overC fun args k h=>⟨args,?_⟩
 simp only[overC]at h
 split at h
 ·rename_i n hi lo d up
  obtain⟨x,⟨⟨rfl,rfl,rfl⟩,hbx,hd0,hd1⟩,h⟩:=h
  refine⟨by simp [leL,le],?_⟩
  (try dsimp only[v89,YuG,div64C,go_sem,reduceIte,YHf])
  (try simp only[Yc,YHf,YHh,reduceCtorEq,YHg])
  obtain⟨d,rfl⟩:=YHv (by omega:0<=d)
  obtain⟨m,hm⟩:∃m,m=x.natAbs:=⟨_,rfl⟩
  have hT:=Ymk (up:=up) (x:=x) (d:=d) (by omega)
  have e0:((m/18446744073709551616:Nat):Int)*18446744073709551616+((m%18446744073709551616:Nat):Int)=m:=by omega
  have e1:(m:Int)/(d:Int)=((m/d:Nat):Int):=(Int.natCast_ediv _ _).symm
  have e2:(m:Int)%(d:Int)=((m%d:Nat):Int):=(Int.natCast_emod _ _).symm
  rw[<-hm]at hT⊢
  rw[e0,e1,e2]
  have hF:rndF up x d=rndB (nsg (decide (x<0)) (m/d+bump up (decide (x<0)) (m%d))):=by unfold rndF;rw[hT]
  have hfail:4611686018427387904<m/d+bump up (decide (x<0)) (m%d)->rndF up x d=(0,false):=fun hh=>by
   rw[hF,rndB,if_neg]
   have:=YsN (decide (x<0)) (m/d+bump up (decide (x<0)) (m%d))
   omega
  have hgood:m/d+bump up (decide (x<0)) (m%d)<=4611686018427387904->rndF up x d=(nsg (decide (x<0)) (m/d+bump up (decide (x<0)) (m%d)),true):=fun hh=>by
   rw[hF,rndB,if_pos]
   have:=YsN (decide (x<0)) (m/d+bump up (decide (x<0)) (m%d))
   omega
  have h:k (.tup [.int .i64 (rndF up x d).1,.bool (rndF up x d).2]) []:=h
  have fin:∀(t:Int)(b:Bool)(hp:List HO),rndF up x d=(t,b)->Yz overC.alias k (.tup [.int .i64 t,.bool b]) hp:=fun t b hp hh=>by
   rw[hh]at h
   exact YE (show k _ []from h) (YC (.tup [.int .i64 t,.bool b]) ⟨trivial,trivial,trivial⟩) (fun _=>by simp [Yt,Ys])
  have hQ1:¬(d:Int)<=((m/18446744073709551616:Nat):Int)->m/d<18446744073709551616:=fun hc=>by
   rw[YHW (by omega)]
   have h1:m/18446744073709551616<d:=by omega
   rw[YHW (by decide)]at h1
   rw[YHq];exact h1
  have hQ2:(d:Int)<=((m/18446744073709551616:Nat):Int)->18446744073709551616<=m/d:=fun hc=>by
   rw[YH7 (by omega)]
   have h1:d<=m/18446744073709551616:=by omega
   rw[YH7 (by decide)]at h1
   rw[YHq];exact h1
  have hd0':(0:Int)<(d:Int):=hd0
  clear hT e1 e2
  generalize m/d=Q at*
  generalize m%d=R at*
  have ez:(!decide ((R:Int)=0))=decide (R≠0):=by
   rw[<-decide_not];congr 1;exact propext (by omega)
  refine⟨fun hc=>fin _ _ _ (hfail ?_),fun hc=>⟨⟨⟨by omega,by omega⟩,by omega,by omega,by omega⟩,by decide,by decide,fun hb=>?_,fun hb=>?_⟩⟩
  ·have:=hQ2 hc
   omega
  ·have hQ:=hQ1 hc
   rw[ez]at hb⊢
   have hbump:bump up (decide (x<0)) (R)=1:=by unfold bump;exact if_pos hb
   rw[hbump]at hfail hgood
   have hcond:∀w:Int,((decide (4611686018427387904<w) || decide (w=0)&&decide (R≠0)&& !(up==decide (x<0)))=true↔4611686018427387904<w\/w=0):=fun w=>by
    rw[Bool.and_assoc,hb,Bool.and_true,YHS,decide_eq_true_eq,decide_eq_true_eq]
   have hw:(4611686018427387904<IntKind.u64.wrap ((Q:Int)+1)\/IntKind.u64.wrap ((Q:Int)+1)=0)↔4611686018427387904<Q+1:=by
    rw[Ymr];omega
   refine⟨fun h1 h2=>by rw[decide_eq_false h1,decide_eq_true h2];rfl,fun h1 h2=>by rw[decide_eq_false h1,h2];rfl,fun hcc=>fin _ _ _ (hfail (hw.1 ((hcond _).1 hcc))),fun hcc=>?_⟩
   have hsm:Q+1<=4611686018427387904:=by
    refine Nat.le_of_not_lt fun hh=>?_
    have:=(hcond _).2 (hw.2 hh)
    rw[hcc]at this;cases this
   have hg:=hgood hsm
   rw[YHJ _ (by omega)]
   refine⟨fun hx=>fin _ _ _ ?_,fun hx=>fin _ _ _ ?_⟩
   ·rw[hg,YHi ((Q:Int)+1) (by omega),YHi _ (by omega)]
    unfold nsg
    simp only[hx,decide_true,if_true]
    congr 1 <;> omega
   ·rw[hg,YHi _ (by omega)]
    unfold nsg
    simp only[hx,decide_false,YHG,if_false]
    rfl
  ·have hQ:=hQ1 hc
   rw[ez]at hb⊢
   have hbump:bump up (decide (x<0)) (R)=0:=by unfold bump;exact if_neg (by rw[show(up !=decide (x<0))= !(up==decide (x<0))from rfl,hb];simp)
   rw[hbump,Nat.add_zero]at hfail hgood
   have hcond:∀w:Int,((decide (4611686018427387904<w) || decide (w=0)&&decide (R≠0)&& !(up==decide (x<0)))=true↔4611686018427387904<w):=fun w=>by
    rw[Bool.and_assoc,hb,Bool.and_false,Bool.or_false,decide_eq_true_eq]
   refine⟨fun h1 h2=>by rw[decide_eq_false h1,decide_eq_true h2];rfl,fun h1 h2=>by rw[decide_eq_false h1,h2];rfl,fun hcc=>fin _ _ _ (hfail (by have:=(hcond _).1 hcc;omega)),fun hcc=>?_⟩
   have hsm:Q<=4611686018427387904:=by
    refine Nat.le_of_not_lt fun hh=>?_
    have:=(hcond (Q:Int)).2 (by omega)
    rw[hcc]at this;cases this
   have hg:=hgood hsm
   refine⟨fun hx=>fin _ _ _ ?_,fun hx=>fin _ _ _ ?_⟩
   ·rw[hg,YHi (Q:Int) (by omega),YHi _ (by omega)]
    unfold nsg
    simp only[hx,decide_true,if_true]
    congr 1 <;> omega
   ·rw[hg,YHi _ (by omega)]
    unfold nsg
    simp only[hx,decide_false,YHG,if_false]
 ·exact h.1.elim
def P2:Env:={ ct:=fun n=>match n with|68=>some numC|88=>some lessC|89=>some overC|_=>none,fn:=fun _=>none,meth:=fun _ _=>none}
theorem Yys:P2.ct 88=some lessC:=rfl
theorem Yyt:P2.ct 89=some overC:=rfl
theorem P2_ok:Yn YHk P2:=by
 refine⟨fun f c h=>?_,fun f vf h=>?_,(fun _ _ _ h=>by cases h),by kernel_rfl,(fun _ h=>by cases h),(fun _ _ h=>by cases h)⟩
 ·simp only[P2]at h
  split at h
  ·cases h;exact⟨YsO,Tryz.f68,Tryz.func68,by kernel_rfl,by kernel_rfl⟩
  ·cases h;exact⟨Yz1,Tryz.f88,Tryz.func88,by kernel_rfl,by kernel_rfl⟩
  ·cases h;exact⟨YsR,Tryz.f89,Tryz.func89,by kernel_rfl,by kernel_rfl⟩
  ·cases h
 ·cases h
theorem YBa:spanC.ok YHk 58:=by
 refine Yb Tryz.func58 YGs P2_ok 400 spanC fun args k h=>?_
 simp only[spanC]at h
 split at h
 ·rename_i d tt z n sz get
  obtain⟨x,r,⟨⟨rfl,rfl,hg⟩,hmax,hbig,hd0,hd1⟩,h⟩:=h
  refine⟨[.int .u64 d,.vs tt z (x::r).length 3 (fun k=>YfH ((x::r).getD k default))],⟨⟨rfl,rfl⟩,by simpa [le]using hg,trivial⟩,?_⟩
  (try dsimp only[v58,YfH,go_sem,reduceIte,YHf])
  (try simp only[Yc,YHf,YHh,reduceCtorEq,YHg])
  have hlen:((x::r).length:Int)=r.length+1:=by simp
  refine⟨⟨by decide,by omega⟩,⟨by decide,by omega⟩,⟨by decide,by omega⟩,?_⟩
  have hlen2:(x::r).length-(0+1)=r.length:=by simp
  refine Loop.keep [0,0,2,0,0,0,13,0] Nat (fun i=>[(23,.int .i64 i)]) (fun i=>[(1,.box (YfH (lowI x (r.take i)))),(2,.box (YfH (YbT x (r.take i))))]) [] (fun i=>i<=r.length) (fun i=>r.length-i) ?_ ?_
  ·refine⟨0,YHK _,?_⟩
   (try dsimp only[YfH,go_sem,reduceIte,YHf])
   simp only[Ya]
   refine⟨by simp,?_,?_⟩ <;> simp [lowI,YbT] <;> rfl
  ·rintro i hi
   (try dsimp only[Yys,Yyt,lessC,overC,YfH,YHj,go_sem,reduceIte,YHf])
   (try simp only[Yc,YHf,YHh,reduceCtorEq,YHg])
   have ey:(x::r).getD (1+i) default=r.getD i default:=by rw[Nat.add_comm];rfl
   have elen:(((x::r).length-1:Nat):Int)=r.length:=by simp
   simp only[ey,elen]
   refine⟨fun hlt=>⟨⟨by omega,by omega⟩,r.getD i default,lowI x (r.take i),⟨Yaz _,Yaz _⟩,?_⟩,fun hge=>?_⟩
   ·have eL:lowI x (r.take (i+1))=if r.getD i default<lowI x (r.take i)then r.getD i default else lowI x (r.take i):=Ym (by omega)
    have eH:YbT x (r.take (i+1))=if YbT x (r.take i)<r.getD i default then r.getD i default else YbT x (r.take i):=Ym (by omega)
    have hw:=Y0 (i:=i) (n:=r.length) (by omega) (by omega)
    refine⟨fun h1=>⟨YbT x (r.take i),r.getD i default,⟨Yaz _,Yaz _⟩,fun h2=>⟨i+1,by omega,by omega,?_⟩,fun h2=>⟨i+1,by omega,by omega,?_⟩⟩,
     fun h1=>⟨YbT x (r.take i),r.getD i default,⟨Yaz _,Yaz _⟩,fun h2=>⟨i+1,by omega,by omega,?_⟩,fun h2=>⟨i+1,by omega,by omega,?_⟩⟩⟩
    ·simp only[eL,eH,if_pos h1,if_pos h2,hw,Ya]
     simp
    ·simp only[eL,eH,if_pos h1,if_neg h2,hw,Ya]
     simp
    ·simp only[eL,eH,if_neg h1,if_pos h2,hw,Ya]
     simp
    ·simp only[eL,eH,if_neg h1,if_neg h2,hw,Ya]
     simp
   ·obtain rfl:i=r.length:=by omega
    rw[YIq]
    have hl:=Ysu x r
    have hh:=Yo4 x r
    refine⟨lowI x r,⟨Yaz _,hbig _ hl.1,hd0,hd1⟩,by decide,by decide,YbT x r,⟨Yaz _,hbig _ hh.1,hd0,hd1⟩,by decide,by decide,?_⟩
    have h:k (.tup [.agg (enc2 (Yho d x r).1),.int .i64 (Yho d x r).2]) []:=h
    unfold Yho YhM at h
    refine⟨fun hb=>?_,fun hb=>?_⟩
    ·rw[if_neg (by rw[<-Bool.not_and,YHD]at hb;rw[hb];simp)]at h
     exact YE (show k _ []from h) (YC (.tup [.agg (enc2 (0,0)),.int .i64 7]) ⟨⟨trivial,trivial,trivial⟩,trivial,trivial⟩) (fun _=>by simp [enc2,Yt,Ys])
    ·rw[if_pos (by rw[<-Bool.not_and,Bool.not_eq_false']at hb;exact hb)]at h
     exact YE (show k _ []from h) (YC (.tup [.agg (enc2 ((rndF false (lowI x r) d).1,(rndF true (YbT x r) d).1)),.int .i64 0]) ⟨⟨trivial,trivial,trivial⟩,trivial,trivial⟩) (fun _=>by simp [enc2,Yt,Ys])
 ·exact h.1.elim
def v34:VF:=⟨45,[.cell 6 true 2,.tmp 7],(ZR [u1 3 .box [.tm 0],Zn 6,Zi 7 0] (ZR [Zt 9 2 3,u1 10 (.buildSlice 2 1 [(.int .i64 0),(.int .i64 0)] [(0,2)]) [.tm 9],Zc 11 57 10,Zm 8 11] (.seq (.block 0 (ZR [Zm 13 8,Zq 14 .neq 13 0,Zm 12 14] (ZC 12 (ZR [u1 15 (.build [(.int .i64 0),(.int .i64 0)] []) [],Zm 16 8,Zs 2 6 15,Zm 7 16] .ret) (ZR [Zm 18 2,Zq 19 .lss 18 1,Zm 20 19,Zg 21 20 false 2,u2 22 20 false (.call 68) [.tm 21],u2 23 20 false .not [.tm 22],u1 24 .or [.tm 20,.tm 23],Zm 25 24,Zg 26 25 false 1,u2 27 25 false (.call 68) [.tm 26],u2 28 25 false .not [.tm 27],u1 29 .or [.tm 25,.tm 28],Zm 17 29] (ZC 17 (ZR [u1 30 (.build [(.int .i64 0),(.int .i64 0)] []) [],Zs 2 6 30,Zi 7 2] .ret) .skip))))) (.seq (.draw [] [Zu 31 2,w1 32 (.conv .u64) [.tm 31],Zy 33 0 3,Zv 34 1 33,Zu 35 1,Zy 37 1 3,Zv 38 1 37,Zu 39 1,Zz 36 59 34 35,Zz 40 59 38 39,w1 41 (.buildSlice 3 2 [(.bool false),(.int .u64 0),(.int .u64 0)] [(0,3),(3,3)]) [.tm 36,.tm 40],Zz 42 58 32 41,ZE 43 0 42,ZE 44 1 42,ZS 2 6 43,Zu 7 44]) .ret))))⟩
theorem YF4:Ye YHk Tryz.f34=some v34:=by kernel_rfl
def v22:VF:=⟨28,[.cell 2 true 2,.tmp 3],(ZR [u1 1 .box [.tm 0],Zn 2,Zi 3 0] (.seq (ZR [Zt 5 2 1,u1 6 (.buildSlice 2 1 [(.int .i64 0),(.int .i64 0)] [(0,2)]) [.tm 5],Zc 7 57 6,Zm 4 7] (ZR [Zm 8 4,Zq 9 .neq 8 0] (ZC 9 (ZR [u1 10 (.build [(.int .i64 0),(.int .i64 0)] []) [],Zm 11 4,Zs 2 2 10,Zm 3 11] .ret) .skip))) (.seq (.draw [] [Zy 12 0 1,Zv 13 1 12,Zy 15 0 1,Zv 16 1 15,Zy 18 1 1,Zv 19 1 18,Zy 21 1 1,Zv 22 1 21,w1 14 (.call 59) [.tm 13,.cn (.int .i64 3141592653589793238)],w1 17 (.call 59) [.tm 16,.cn (.int .i64 3141592653589793239)],w1 20 (.call 59) [.tm 19,.cn (.int .i64 3141592653589793238)],w1 23 (.call 59) [.tm 22,.cn (.int .i64 3141592653589793239)],w1 24 (.buildSlice 3 4 [(.bool false),(.int .u64 0),(.int .u64 0)] [(0,3),(3,3),(6,3),(9,3)]) [.tm 14,.tm 17,.tm 20,.tm 23],w1 25 (.call 58) [.cn (.int .u64 1000000000000000000),.tm 24],ZE 26 0 25,ZE 27 1 25,ZS 2 2 26,Zu 3 27]) .ret)))⟩
theorem YFS:Ye YHk Tryz.f22=some v22:=by kernel_rfl
def ivoC(f:Iv->Iv×Int):Ctr:={ alias:=false,of:=fun a=>match a with
 | [.agg [.int .i64 x,.int .i64 y]]=> .fin (.tup [.agg (enc2 (f (x,y)).1),.int .i64 (f (x,y)).2]) []
 |_=>noC}
def piC:=ivoC piF
def sclC:Ctr:={ alias:=false,of:=fun a=>match a with
 | [.agg [.int .i64 x,.int .i64 y],.int .i64 n,.int .i64 d]=> .fin (.tup [.agg (enc2 (sclF (x,y) n d).1),.int .i64 (sclF (x,y) n d).2]) []
 |_=>noC}
theorem Yek{k:SV->List HO->Prop}{al:Bool}{hp:List HO}{r:Iv×Int}(h:k (.tup [.agg (enc2 r.1),.int .i64 r.2]) []):Yz al k (.tup [.agg [.int .i64 r.1.1,.int .i64 r.1.2],.int .i64 r.2]) hp:=
 YE (show k _ []from h) (YC (.tup [.agg (enc2 r.1),.int .i64 r.2]) ⟨⟨trivial,trivial,trivial⟩,trivial,trivial⟩) (fun _=>by simp [enc2,Yt,Ys])
theorem Yrb{a b:Int}(ha: -9223372036854775808<=a/\a<=9223372036854775808)(hb: -9223372036854775808<=b/\b<=9223372036854775808):big (a*b):=by
 unfold big
 rw[Int.natAbs_mul]
 have:=YHE (show a.natAbs<=9223372036854775808 by omega) (show b.natAbs<=9223372036854775808 by omega)
 omega
def P4:Env:={ ct:=fun n=>match n with|68=>some numC|57=>some ivlC|59=>some timC|89=>some overC|58=>some spanC|_=>none,fn:=fun _=>none,meth:=fun _ _=>none}
theorem Yyu:P4.ct 68=some numC:=rfl
theorem YpR:P4.ct 57=some ivlC:=rfl
theorem YpT:P4.ct 59=some timC:=rfl
theorem YpS:P4.ct 58=some spanC:=rfl
theorem YCC:Yn YHk P4:=by
 refine⟨fun f c h=>?_,fun f vf h=>?_,(fun _ _ _ h=>by cases h),by kernel_rfl,(fun _ h=>by cases h),(fun _ _ h=>by cases h)⟩
 ·simp only[P4]at h
  split at h
  ·cases h;exact⟨YsO,Tryz.f68,Tryz.func68,by kernel_rfl,by kernel_rfl⟩
  ·cases h;exact⟨Yr4,Tryz.f57,Tryz.func57,by kernel_rfl,by kernel_rfl⟩
  ·cases h;exact⟨YFB,Tryz.f59,Tryz.func59,by kernel_rfl,by kernel_rfl⟩
  ·cases h;exact⟨YsR,Tryz.f89,Tryz.func89,by kernel_rfl,by kernel_rfl⟩
  ·cases h;exact⟨YBa,Tryz.f58,Tryz.func58,by kernel_rfl,by kernel_rfl⟩
  ·cases h
 ·cases h
theorem YEw:piC.ok YHk 22:=by
 refine Yb Tryz.func22 YFS YCC 200 piC fun args k h=>⟨args,?_⟩
 simp only[piC,ivoC]at h
 split at h
 ·rename_i x y
  refine⟨by simp [leL,le],?_⟩
  (try dsimp only[v22,YpR,YpT,YpS,ivlC,timC,spanC,YfH,enc2,go_sem,reduceIte,YHf])
  (try simp only[Yc,YHf,YHh,reduceCtorEq,YHg])
  have h:k (.tup [.agg (enc2 (piF (x,y)).1),.int .i64 (piF (x,y)).2]) []:=h
  refine⟨by decide,[(x,y)],⟨⟨rfl,rfl,fun k hk=>match k,hk with|0,_=>Yd _⟩,by simp⟩,fun hc=>?_,fun hc=>?_⟩
  ·rw[piF,if_pos hc]at h
   exact Yek (r:=errI (ivE [(x,y)])) h
  ·obtain⟨h1,h2,h3⟩:=ivE1 hc
   dsimp only at h1 h2 h3
   rw[piF,if_neg (by rw[hc];simp)]at h
   dsimp only at h
   refine⟨⟨⟨by omega,by omega⟩,by omega,by omega⟩,⟨⟨by omega,by omega⟩,by omega,by omega⟩,⟨⟨by omega,by omega⟩,by omega,by omega⟩,⟨⟨by omega,by omega⟩,by omega,by omega⟩,by decide,
    x*3141592653589793238,[x*3141592653589793239,y*3141592653589793238,y*3141592653589793239],⟨⟨rfl,rfl,fun k hk=>match k,hk with|0,_=>Yd _|1,_=>Yd _|2,_=>Yd _|3,_=>Yd _⟩,by simp,?_,by decide,by decide⟩,by decide,by decide,Yek h⟩
   intro p hp
   simp only[YHI,List.not_mem_nil,or_false]at hp
   rcases hp with rfl|rfl|rfl|rfl <;> exact Yrb (by omega) (by omega)
 ·exact h.1.elim
theorem Ytk:sclC.ok YHk 34:=by
 refine Yb Tryz.func34 YF4 YCC 200 sclC fun args k h=>⟨args,?_⟩
 simp only[sclC]at h
 split at h
 ·rename_i x y n d
  refine⟨by simp [leL,le],?_⟩
  (try dsimp only[v34,YpR,Yyu,YpT,YpS,ivlC,numC,timC,spanC,YfH,enc2,go_sem,reduceIte,YHf])
  (try simp only[Yc,YHf,YHh,reduceCtorEq,YHg])
  have h:k (.tup [.agg (enc2 (sclF (x,y) n d).1),.int .i64 (sclF (x,y) n d).2]) []:=h
  refine⟨by decide,[(x,y)],⟨⟨rfl,rfl,fun k hk=>match k,hk with|0,_=>Yd _⟩,by simp⟩,?_⟩
  refine⟨fun hc=>?_,fun hc=>?_⟩
  ·rw[sclF,if_pos hc]at h
   exact Yek (r:=errI (ivE [(x,y)])) h
  ·obtain⟨h1,h2,h3⟩:=ivE1 hc
   dsimp only at h1 h2 h3
   rw[sclF,if_neg (by rw[hc];simp)]at h
   dsimp only at h
   have hnd:=numOk_iff (x:=d)
   have hnn:=numOk_iff (x:=n)
   have hcond:(decide (d<1) || !YcD d|| !YcD n)=true↔(d<1\/4611686018427387904<d\/n< -4611686018427387904\/4611686018427387904<n):=by
    rw[YHS,YHS,decide_eq_true_eq,YHD,YHD,Bool.eq_false_iff,Bool.eq_false_iff,ne_eq,ne_eq,hnd,hnn]
    omega
   refine⟨fun hb=>?_,fun hb=>?_⟩
   ·rw[if_pos (hcond.1 hb)]at h
    exact Yek (r:=errI 2) h
   ·have hb':¬(d<1\/4611686018427387904<d\/n< -4611686018427387904\/4611686018427387904<n):=fun hh=>by
     have:=hcond.2 hh
     rw[hb]at this;cases this
    rw[if_neg hb']at h
    rw[YHJ d (by omega)]
    refine⟨⟨⟨by omega,by omega⟩,by omega,by omega⟩,⟨⟨by omega,by omega⟩,by omega,by omega⟩,by decide,
     x*n,[y*n],⟨⟨rfl,rfl,fun k hk=>match k,hk with|0,_=>Yd _|1,_=>Yd _⟩,by simp,?_,by omega,by omega⟩,by decide,by decide,Yek h⟩
    intro p hp
    simp only[YHI,List.not_mem_nil,or_false]at hp
    rcases hp with rfl|rfl <;> exact Yrb (by omega) (by omega)
 ·exact h.1.elim
def v115:VF:=⟨77,[.tmp 4,.tmp 5],(ZR [Zi 4 0,u1 5 .mov [.cn (.bool false)]] (ZR [u1 6 .mov [.cn (.int .u64 3141592653589793238)]] (.seq (ZR [Zm 18 1] (ZC 18 (.region [u1 6 .mov [.cn (.int .u64 3141592653589793239)]]) .skip)) (ZR [Zm 20 0,Zm 21 0,Zd 22 90 20 21,Zm 19 22,Ze 23 0 19,Ze 24 1 19,Zm 7 23,Zm 8 24] (.seq (ZR [Zm 25 7,u1 26 (.cmp .geq) [.tm 25,.cn (.int .u64 4096)]] (ZC 26 (ZR [Zi 4 0,u1 5 .mov [.cn (.bool false)]] .ret) .skip)) (ZR [Zm 28 7,Zm 29 6,Zd 30 90 28 29,Zm 27 30,Ze 31 0 27,Ze 32 1 27,Zm 9 31,Zm 10 32] (ZR [Zm 34 8,Zm 35 6,Zd 36 90 34 35,Zm 33 36,Ze 37 0 33,Ze 38 1 33,Zm 11 37,Zm 12 38] (ZR [Zm 40 10,Zm 41 11,u1 42 .addc [.tm 40,.tm 41,.cn (.int .u64 0)],Zm 39 42,Ze 43 0 39,Ze 44 1 39,Zm 10 43,Zm 13 44] (ZR [Zm 45 9,Zm 46 13,Zo 47 .add 45 46,Zm 9 47] (ZR [Zm 49 9,Zm 50 10,u1 51 (.call 116) [.tm 49,.tm 50,.cn (.int .u64 4000000000000000000)],Zm 48 51,Ze 52 0 48,Ze 53 1 48,Zm 14 52,Zm 15 53] (ZR [Zm 55 15,Zm 56 12,u1 57 (.call 116) [.tm 55,.tm 56,.cn (.int .u64 4000000000000000000)],Zm 54 57,Ze 58 0 54,Ze 59 1 54,Zm 16 58,Zm 17 59] (.seq (ZR [Zm 60 14,u1 61 (.cmp .neq) [.tm 60,.cn (.int .u64 0)],Zm 62 61,Zg 63 62 false 16,u2 64 62 false (.cmp .gtr) [.tm 63,.cn (.int .u64 4611686018427387904)],u1 65 .or [.tm 62,.tm 64]] (ZC 65 (ZR [Zi 4 0,u1 5 .mov [.cn (.bool false)]] .ret) .skip)) (.seq (ZR [Zm 66 1,Zm 67 66,Zg 68 67 true 17,u2 69 67 true (.cmp .neq) [.tm 68,.cn (.int .u64 0)],u1 70 .and [.tm 67,.tm 69]] (ZC 70 (.region [Zm 71 16,u1 72 (.ari .add) [.tm 71,.cn (.int .u64 1)],Zm 16 72]) .skip)) (ZR [Zm 73 16,u1 74 (.conv .i64) [.tm 73],Zm 75 16,u1 76 (.cmp .leq) [.tm 75,.cn (.int .u64 4611686018427387904)],Zm 4 74,Zm 5 76] .ret))))))))))))))⟩
theorem YBt:Ye YHk Tryz.f115=some v115:=by kernel_rfl
def v85:VF:=⟨46,[.cell 2 true 2,.tmp 3],(ZR [u1 1 .box [.tm 0],Zn 2,Zi 3 0] (ZR [Zt 9 2 1,u1 10 (.buildSlice 2 1 [(.int .i64 0),(.int .i64 0)] [(0,2)]) [.tm 9],Zc 11 57 10,Zm 4 11] (.seq (.block 0 (ZR [Zm 13 4,Zq 14 .neq 13 0,Zm 12 14] (ZC 12 (ZR [u1 15 (.build [(.int .i64 0),(.int .i64 0)] []) [],Zm 16 4,Zs 2 2 15,Zm 3 16] .ret) (ZR [Za 18 0 1,Zf 19 1 18,Zq 20 .lss 19 0,Zm 17 20] (ZC 17 (ZR [u1 21 (.build [(.int .i64 0),(.int .i64 0)] []) [],Zs 2 2 21,Zi 3 9] .ret) .skip))))) (ZR [Za 23 0 1,Zf 24 1 23,u1 25 (.conv .u64) [.tm 24],u1 26 (.call 115) [.tm 25,.cn (.bool false)],Zm 22 26,Ze 27 0 22,Ze 28 1 22,Zm 5 27,Zm 6 28] (ZR [Za 30 1 1,Zf 31 1 30,u1 32 (.conv .u64) [.tm 31],u1 33 (.call 115) [.tm 32,.cn (.bool true)],Zm 29 33,Ze 34 0 29,Ze 35 1 29,Zm 7 34,Zm 8 35] (.seq (ZR [Zm 36 6,u1 37 .not [.tm 36],Zm 38 37,Zg 39 38 false 8,u2 40 38 false .not [.tm 39],u1 41 .or [.tm 38,.tm 40]] (ZC 41 (ZR [u1 42 (.build [(.int .i64 0),(.int .i64 0)] []) [],Zs 2 2 42,Zi 3 7] .ret) .skip)) (ZR [Zm 43 5,Zm 44 7,u1 45 (.build [(.int .i64 0),(.int .i64 0)] [(0,1),(1,1)]) [.tm 43,.tm 44],Zs 2 2 45,Zi 3 0] .ret)))))))⟩
theorem YGR:Ye YHk Tryz.f85=some v85:=by kernel_rfl
def discpC:Ctr:={ alias:=false,of:=fun l=>match l with
 | [.int .u64 n,.bool up]=> .pre (0<=n/\n<=4611686018427387904) (.all Int fun v=> .imp ((Ybi up n).2=true->v=(Ybi up n).1) (.fin (.tup [.int .i64 v,.bool (Ybi up n).2]) []))
 |_=>noC}
def discC:=ivoC YhE
theorem Yw7{k:SV->List HO->Prop}{al:Bool}{hp:List HO}{κ:IntKind}{x:Int}{b:Bool}(h:k (.tup [.int κ x,.bool b]) []):Yz al k (.tup [.int κ x,.bool b]) hp:=
 YE (show k _ []from h) (YC (.tup [.int κ x,.bool b]) ⟨trivial,trivial,trivial⟩) (fun _=>by simp [Yt,Ys])
def P6:Env:={ ct:=fun n=>match n with|90=>some mul64C|116=>some div64C|91=>some sizC|57=>some ivlC|_=>none,fn:=fun _=>none,meth:=fun _ _=>none}
theorem Yyv:P6.ct 90=some mul64C:=rfl
theorem YuI:P6.ct 116=some div64C:=rfl
theorem P6_ok:Yn YHk P6:=by
 refine⟨fun f c h=>?_,fun f vf h=>?_,(fun _ _ _ h=>by cases h),by kernel_rfl,(fun _ h=>by cases h),(fun _ _ h=>by cases h)⟩
 ·simp only[P6]at h
  split at h
  ·cases h;exact⟨Yf4,Tryz.f90,Tryz.func90,by kernel_rfl,by kernel_rfl⟩
  ·cases h;exact⟨Ynr,Tryz.f116,Tryz.func116,by kernel_rfl,by kernel_rfl⟩
  ·cases h;exact⟨YxP,Tryz.f91,Tryz.func91,by kernel_rfl,by kernel_rfl⟩
  ·cases h;exact⟨Yr4,Tryz.f57,Tryz.func57,by kernel_rfl,by kernel_rfl⟩
  ·cases h
 ·cases h
theorem dig2{M D T L:Nat}(hD:0<D):T/D*M+(T%D*M+L)/D=(T*M+L)/D/\(T%D*M+L)%D=(T*M+L)%D:=by
 have:=Yhv (M:=M) (y:=D) (a:=0) (u1:=T) (u0:=L) hD rfl rfl rfl rfl
 simp only[Nat.zero_mul,YIb]at this
 exact this
theorem Yht{M D N p hi lo A B top mid T low:Nat}(hhi:hi=N/M)(hlo:lo=N%M)(hA:A=hi*p)(hB:B=lo*p)(hmid:mid=(A%M+B/M)%M)(htop:top=A/M+(A%M+B/M)/M)(hT:T=top*M+mid)(hlow:low=B%M)(hD:0<D)(hM:0<M):
 T/D*M+(T%D*M+low)/D=N*p/D/\(T%D*M+low)%D=N*p%D:=by
 have e:N*p=T*M+low:=by
  have e1:N=hi*M+lo:=by rw[hhi,hlo,YHq];exact(YH5 N M).symm
  have e2:N*p=A*M+B:=by
   rw[hA,hB]
   conv=>lhs;rw[e1]
   rw[YHT,Nat.mul_right_comm]
  have a1:=YH5 A M
  have a2:=YH5 B M
  have a3:=YH5 (A%M+B/M) M
  rw[<-hmid]at a3
  rw[<-hlow]at a2
  rw[e2,hT,htop]
  conv=>lhs;rw[<-a1,<-a2]
  generalize A/M=q1 at*
  generalize A%M=q2 at*
  generalize B/M=q3 at*
  generalize(q2+q3)/M=q4 at*
  have:q2+q3=M*q4+mid:=a3.symm
  have e5:(M*q1+q2)*M+(M*q3+low)=(q1*M+(q2+q3))*M+low:=by grind
  rw[e5,this]
  grind
 rw[e]
 exact dig2 hD
theorem Yvv:discpC.ok YHk 115:=by
 refine Yb Tryz.func115 YBt P6_ok 300 discpC fun args k h=>⟨args,?_⟩
 simp only[discpC]at h
 split at h
 ·rename_i n up
  obtain⟨⟨h0,h1⟩,h⟩:=h
  obtain⟨n,rfl⟩:=YHv h0
  refine⟨by simp [leL,le],?_⟩
  (try dsimp only[v115,Yyv,YuI,mul64C,div64C,YvA,go_sem,reduceIte,YHf])
  (try simp only[Yc,YHf,YHh,reduceCtorEq,YHg])
  refine⟨fun hu=>?_,fun hu=>?_⟩
  ·subst hu
   obtain⟨p,hp⟩:∃p:Nat,p=3141592653589793239:=⟨_,rfl⟩
   have hpi:(3141592653589793239:Int)=(p:Int):=by omega
   have hD:Ybi true (n:Int)=rndF true ((n:Int)*n*(p:Int)) 4000000000000000000:=by rw[Ybi,if_pos rfl,hpi]
   rw[hpi]
   have hdone:∀(v:Int)(b:Bool)(hp:List HO),(Ybi _ (n:Int)).2=b->(b=true->v=(Ybi _ (n:Int)).1)->Yz discpC.alias k (.tup [.int .i64 v,.bool b]) hp:=fun v b hp h1 h2=>by
    have:=h v (by rw[h1];exact h2)
    have this:k (.tup [.int .i64 v,.bool (Ybi _ (n:Int)).2]) []:=this
    rw[h1]at this
    exact Yw7 this
   rw[hD]at hdone
   have hpb:3141592653589793238<=p/\p<=3141592653589793239:=by omega
   have eN:(n:Int)*n=((n*n:Nat):Int):=(YIj _ _).symm
   rw[eN]at hdone⊢
   have hNb:n*n<=4611686018427387904*4611686018427387904:=YHE (by omega) (by omega)
   generalize n*n=N at*
   have eNp:(N:Int)*(p:Int)=((N*p:Nat):Int):=(YIj _ _).symm
   rw[eNp]at hdone
   have e1:(N:Int)/18446744073709551616=((N/18446744073709551616:Nat):Int):=by omega
   have e2:(N:Int)%18446744073709551616=((N%18446744073709551616:Nat):Int):=by omega
   rw[e1,e2]
   obtain⟨hi,hhi⟩:∃hi,hi=N/18446744073709551616:=⟨_,rfl⟩
   obtain⟨lo,hlo⟩:∃lo,lo=N%18446744073709551616:=⟨_,rfl⟩
   obtain⟨A,hA⟩:∃A,A=hi*p:=⟨_,rfl⟩
   obtain⟨B,hB⟩:∃B,B=lo*p:=⟨_,rfl⟩
   obtain⟨V,hV⟩:∃V,V=N*p:=⟨_,rfl⟩
   have hlob:lo<18446744073709551616:=by omega
   have hhib:hi<4611686018427387904:=by omega
   have hAb:A<=hi*4611686018427387904:=by rw[hA];exact YHx _ (by omega)
   have hBb:B<=18446744073709551616*4611686018427387904:=by rw[hB];exact YHE (by omega) (by omega)
   have eA:(hi:Int)*(p:Int)=(A:Int):=by rw[hA];exact(YIj _ _).symm
   have eB:(lo:Int)*(p:Int)=(B:Int):=by rw[hB];exact(YIj _ _).symm
   have hbig:4096<=hi->4611686018427387904<V/4000000000000000000:=fun hh=>by
    have h1:75557863725914323419136<=N:=by omega
    have h2:75557863725914323419136*3141592653589793238<=N*p:=YHE h1 (by omega)
    rw[<-hV]at h2
    omega
   rw[<-hhi,<-hlo,eA,eB]
   rw[<-hV]at hdone
   have hrnd:=fun up=>Ymk (up:=up) (x:=(V:Int)) (d:=4000000000000000000) (by omega)
   have hneg:decide ((V:Int)<0)=false:=decide_eq_false (by omega)
   rw[hneg]at hrnd
   have hVa:((V:Int)).natAbs=V:=by omega
   rw[hVa]at hrnd
   have hdC:((4000000000000000000:Nat):Int)=4000000000000000000:=rfl
   rw[hdC]at hrnd
   unfold rndF at hdone
   rw[hrnd]at hdone
   have hns:∀t:Nat,nsg false t=(t:Int):=fun t=>rfl
   rw[hns]at hdone
   refine⟨⟨by omega,by omega⟩,by decide,by decide,fun hc=>hdone _ _ _ ?_ (fun hh=>by cases hh),fun hc=>?_⟩
   ·have:=hbig (by omega)
    unfold rndB
    rw[if_neg (by omega)]
   ·obtain⟨mid,hmid⟩:∃mid,mid=(A%18446744073709551616+B/18446744073709551616)%18446744073709551616:=⟨_,rfl⟩
    obtain⟨top,htop⟩:∃top,top=A/18446744073709551616+(A%18446744073709551616+B/18446744073709551616)/18446744073709551616:=⟨_,rfl⟩
    obtain⟨low,hlow⟩:∃low,low=B%18446744073709551616:=⟨_,rfl⟩
    obtain⟨T,hT⟩:∃T,T=top*18446744073709551616+mid:=⟨_,rfl⟩
    obtain⟨hq,hr⟩:=Yht (D:=4000000000000000000) hhi hlo hA hB hmid htop hT hlow (by omega) (by omega)
    rw[<-hV]at hq hr
    have htb:top<4097:=by omega
    have eTop:IntKind.u64.wrap ((A:Int)/18446744073709551616+((A:Int)%18446744073709551616+(B:Int)/18446744073709551616+0)/18446744073709551616)=(top:Int):=by
     rw[YHJ _ (by omega)];omega
    have eMid:((A:Int)%18446744073709551616+(B:Int)/18446744073709551616+0)%18446744073709551616=(mid:Int):=by omega
    have eLow:(B:Int)%18446744073709551616=(low:Int):=by omega
    have eT:(top:Int)*18446744073709551616+(mid:Int)=(T:Int):=by omega
    obtain⟨Q1,hQ1⟩:∃Q1,Q1=T/4000000000000000000:=⟨_,rfl⟩
    obtain⟨R1,hR1⟩:∃R1,R1=T%4000000000000000000:=⟨_,rfl⟩
    have eQ1:(T:Int)/4000000000000000000=(Q1:Int):=by omega
    have eR1:(T:Int)%4000000000000000000=(R1:Int):=by omega
    obtain⟨W,hW⟩:∃W,W=R1*18446744073709551616+low:=⟨_,rfl⟩
    have eW:(R1:Int)*18446744073709551616+(low:Int)=(W:Int):=by omega
    obtain⟨Q0,hQ0⟩:∃Q0,Q0=W/4000000000000000000:=⟨_,rfl⟩
    obtain⟨R0,hR0⟩:∃R0,R0=W%4000000000000000000:=⟨_,rfl⟩
    have eQ0:(W:Int)/4000000000000000000=(Q0:Int):=by omega
    have eR0:(W:Int)%4000000000000000000=(R0:Int):=by omega
    rw[eTop,eMid,eLow,eT,eQ1,eR1,eW,eQ0,eR0]
    rw[<-hQ1,<-hR1,<-hW,<-hQ0]at hq
    rw[<-hR1,<-hW,<-hR0]at hr
    rw[<-hq,<-hr]at hdone
    have rB:∀t:Nat,(rndB (t:Int)).2=decide ((t:Int)<=4611686018427387904)/\(decide ((t:Int)<=4611686018427387904)=true->(t:Int)=(rndB (t:Int)).1):=fun t=>by
     unfold rndB
     by_cases h:(t:Int)<=4611686018427387904
     ·rw[if_pos (by omega)];exact⟨(decide_eq_true h).symm,fun _=>rfl⟩
     ·rw[if_neg (by omega)];exact⟨(decide_eq_false h).symm,fun hh=>absurd (of_decide_eq_true hh) h⟩
    refine⟨⟨⟨by omega,by omega⟩,by omega,by omega⟩,by decide,by decide,⟨⟨by omega,by omega⟩,by omega,by omega⟩,by decide,by decide,⟨by omega,by omega,by decide,by decide⟩,by decide,by decide,⟨⟨by omega,by omega⟩,by omega,by omega,by decide⟩,by decide,by decide,⟨⟨by omega,by omega⟩,by omega,by omega,by decide⟩,by decide,by decide,fun hb=>hdone _ _ _ ?_ (fun hh=>by cases hh),fun hb=>⟨fun hr0=>?_,fun hr0=>?_⟩⟩
    ·rw[YHS,YHD,decide_eq_false_iff_not,decide_eq_true_eq]at hb
     unfold rndB
     rw[if_neg (by omega)]
    ·rw[YHp,Bool.not_eq_false',decide_eq_true_eq,decide_eq_false_iff_not]at hb
     have hR:R0≠0:=by
      intro hh;subst hh;simp at hr0
     have hbp:bump true false R0=1:=by unfold bump;rw[if_pos (by simp [hR])]
     rw[hbp]at hdone
     have hz:Q1=0:=by exact_mod_cast hb.1
     have hv:Q1*18446744073709551616+Q0+1=Q0+1:=by rw[hz,Nat.zero_mul,YIb]
     rw[hv]at hdone
     have e1:IntKind.u64.wrap ((Q0:Int)+1)=((Q0+1:Nat):Int):=by rw[YHJ _ (by omega)];omega
     rw[e1,YHi _ (by omega)]
     exact hdone _ _ _ (rB _).1 (rB _).2
    ·rw[YHp,Bool.not_eq_false',decide_eq_true_eq,decide_eq_false_iff_not]at hb
     have hbp:bump true false R0=0:=by
      unfold bump
      rw[if_neg]
      intro hh
      simp at hh hr0
      exact hh (by omega)
     rw[hbp]at hdone
     have hz:Q1=0:=by exact_mod_cast hb.1
     have hv:Q1*18446744073709551616+Q0+0=Q0:=by rw[hz,Nat.zero_mul,YIb,Nat.add_zero]
     rw[hv]at hdone
     rw[YHi _ (by omega)]
     exact hdone _ _ _ (rB _).1 (rB _).2
  ·subst hu
   obtain⟨p,hp⟩:∃p:Nat,p=3141592653589793238:=⟨_,rfl⟩
   have hpi:(3141592653589793238:Int)=(p:Int):=by omega
   have hD:Ybi false (n:Int)=rndF false ((n:Int)*n*(p:Int)) 4000000000000000000:=by rw[Ybi,if_neg (by decide),hpi]
   rw[hpi]
   have hdone:∀(v:Int)(b:Bool)(hp:List HO),(Ybi _ (n:Int)).2=b->(b=true->v=(Ybi _ (n:Int)).1)->Yz discpC.alias k (.tup [.int .i64 v,.bool b]) hp:=fun v b hp h1 h2=>by
    have:=h v (by rw[h1];exact h2)
    have this:k (.tup [.int .i64 v,.bool (Ybi _ (n:Int)).2]) []:=this
    rw[h1]at this
    exact Yw7 this
   rw[hD]at hdone
   have hpb:3141592653589793238<=p/\p<=3141592653589793239:=by omega
   have eN:(n:Int)*n=((n*n:Nat):Int):=(YIj _ _).symm
   rw[eN]at hdone⊢
   have hNb:n*n<=4611686018427387904*4611686018427387904:=YHE (by omega) (by omega)
   generalize n*n=N at*
   have eNp:(N:Int)*(p:Int)=((N*p:Nat):Int):=(YIj _ _).symm
   rw[eNp]at hdone
   have e1:(N:Int)/18446744073709551616=((N/18446744073709551616:Nat):Int):=by omega
   have e2:(N:Int)%18446744073709551616=((N%18446744073709551616:Nat):Int):=by omega
   rw[e1,e2]
   obtain⟨hi,hhi⟩:∃hi,hi=N/18446744073709551616:=⟨_,rfl⟩
   obtain⟨lo,hlo⟩:∃lo,lo=N%18446744073709551616:=⟨_,rfl⟩
   obtain⟨A,hA⟩:∃A,A=hi*p:=⟨_,rfl⟩
   obtain⟨B,hB⟩:∃B,B=lo*p:=⟨_,rfl⟩
   obtain⟨V,hV⟩:∃V,V=N*p:=⟨_,rfl⟩
   have hlob:lo<18446744073709551616:=by omega
   have hhib:hi<4611686018427387904:=by omega
   have hAb:A<=hi*4611686018427387904:=by rw[hA];exact YHx _ (by omega)
   have hBb:B<=18446744073709551616*4611686018427387904:=by rw[hB];exact YHE (by omega) (by omega)
   have eA:(hi:Int)*(p:Int)=(A:Int):=by rw[hA];exact(YIj _ _).symm
   have eB:(lo:Int)*(p:Int)=(B:Int):=by rw[hB];exact(YIj _ _).symm
   have hbig:4096<=hi->4611686018427387904<V/4000000000000000000:=fun hh=>by
    have h1:75557863725914323419136<=N:=by omega
    have h2:75557863725914323419136*3141592653589793238<=N*p:=YHE h1 (by omega)
    rw[<-hV]at h2
    omega
   rw[<-hhi,<-hlo,eA,eB]
   rw[<-hV]at hdone
   have hrnd:=fun up=>Ymk (up:=up) (x:=(V:Int)) (d:=4000000000000000000) (by omega)
   have hneg:decide ((V:Int)<0)=false:=decide_eq_false (by omega)
   rw[hneg]at hrnd
   have hVa:((V:Int)).natAbs=V:=by omega
   rw[hVa]at hrnd
   have hdC:((4000000000000000000:Nat):Int)=4000000000000000000:=rfl
   rw[hdC]at hrnd
   unfold rndF at hdone
   rw[hrnd]at hdone
   have hns:∀t:Nat,nsg false t=(t:Int):=fun t=>rfl
   rw[hns]at hdone
   refine⟨⟨by omega,by omega⟩,by decide,by decide,fun hc=>hdone _ _ _ ?_ (fun hh=>by cases hh),fun hc=>?_⟩
   ·have:=hbig (by omega)
    unfold rndB
    rw[if_neg (by omega)]
   ·obtain⟨mid,hmid⟩:∃mid,mid=(A%18446744073709551616+B/18446744073709551616)%18446744073709551616:=⟨_,rfl⟩
    obtain⟨top,htop⟩:∃top,top=A/18446744073709551616+(A%18446744073709551616+B/18446744073709551616)/18446744073709551616:=⟨_,rfl⟩
    obtain⟨low,hlow⟩:∃low,low=B%18446744073709551616:=⟨_,rfl⟩
    obtain⟨T,hT⟩:∃T,T=top*18446744073709551616+mid:=⟨_,rfl⟩
    obtain⟨hq,hr⟩:=Yht (D:=4000000000000000000) hhi hlo hA hB hmid htop hT hlow (by omega) (by omega)
    rw[<-hV]at hq hr
    have htb:top<4097:=by omega
    have eTop:IntKind.u64.wrap ((A:Int)/18446744073709551616+((A:Int)%18446744073709551616+(B:Int)/18446744073709551616+0)/18446744073709551616)=(top:Int):=by
     rw[YHJ _ (by omega)];omega
    have eMid:((A:Int)%18446744073709551616+(B:Int)/18446744073709551616+0)%18446744073709551616=(mid:Int):=by omega
    have eLow:(B:Int)%18446744073709551616=(low:Int):=by omega
    have eT:(top:Int)*18446744073709551616+(mid:Int)=(T:Int):=by omega
    obtain⟨Q1,hQ1⟩:∃Q1,Q1=T/4000000000000000000:=⟨_,rfl⟩
    obtain⟨R1,hR1⟩:∃R1,R1=T%4000000000000000000:=⟨_,rfl⟩
    have eQ1:(T:Int)/4000000000000000000=(Q1:Int):=by omega
    have eR1:(T:Int)%4000000000000000000=(R1:Int):=by omega
    obtain⟨W,hW⟩:∃W,W=R1*18446744073709551616+low:=⟨_,rfl⟩
    have eW:(R1:Int)*18446744073709551616+(low:Int)=(W:Int):=by omega
    obtain⟨Q0,hQ0⟩:∃Q0,Q0=W/4000000000000000000:=⟨_,rfl⟩
    obtain⟨R0,hR0⟩:∃R0,R0=W%4000000000000000000:=⟨_,rfl⟩
    have eQ0:(W:Int)/4000000000000000000=(Q0:Int):=by omega
    have eR0:(W:Int)%4000000000000000000=(R0:Int):=by omega
    rw[eTop,eMid,eLow,eT,eQ1,eR1,eW,eQ0,eR0]
    rw[<-hQ1,<-hR1,<-hW,<-hQ0]at hq
    rw[<-hR1,<-hW,<-hR0]at hr
    rw[<-hq,<-hr]at hdone
    have rB:∀t:Nat,(rndB (t:Int)).2=decide ((t:Int)<=4611686018427387904)/\(decide ((t:Int)<=4611686018427387904)=true->(t:Int)=(rndB (t:Int)).1):=fun t=>by
     unfold rndB
     by_cases h:(t:Int)<=4611686018427387904
     ·rw[if_pos (by omega)];exact⟨(decide_eq_true h).symm,fun _=>rfl⟩
     ·rw[if_neg (by omega)];exact⟨(decide_eq_false h).symm,fun hh=>absurd (of_decide_eq_true hh) h⟩
    refine⟨⟨⟨by omega,by omega⟩,by omega,by omega⟩,by decide,by decide,⟨⟨by omega,by omega⟩,by omega,by omega⟩,by decide,by decide,⟨by omega,by omega,by decide,by decide⟩,by decide,by decide,⟨⟨by omega,by omega⟩,by omega,by omega,by decide⟩,by decide,by decide,⟨⟨by omega,by omega⟩,by omega,by omega,by decide⟩,by decide,by decide,fun hb=>hdone _ _ _ ?_ (fun hh=>by cases hh),fun hb=>⟨fun hr0=>?_,fun hr0=>?_⟩⟩
    ·rw[YHS,YHD,decide_eq_false_iff_not,decide_eq_true_eq]at hb
     unfold rndB
     rw[if_neg (by omega)]
    ·rw[YHp,Bool.not_eq_false',decide_eq_true_eq,decide_eq_false_iff_not]at hb
     cases hr0
    ·rw[YHp,Bool.not_eq_false',decide_eq_true_eq,decide_eq_false_iff_not]at hb
     have hbp:bump false false R0=0:=by
      unfold bump
      rw[if_neg (by simp)]
     rw[hbp]at hdone
     have hz:Q1=0:=by exact_mod_cast hb.1
     have hv:Q1*18446744073709551616+Q0+0=Q0:=by rw[hz,Nat.zero_mul,YIb,Nat.add_zero]
     rw[hv]at hdone
     rw[YHi _ (by omega)]
     exact hdone _ _ _ (rB _).1 (rB _).2
 ·exact h.1.elim
def P7:Env:={ ct:=fun n=>match n with|115=>some discpC|57=>some ivlC|_=>none,fn:=fun _=>none,meth:=fun _ _=>none}
theorem YuJ:P7.ct 115=some discpC:=rfl
theorem Yyw:P7.ct 57=some ivlC:=rfl
theorem P7_ok:Yn YHk P7:=by
 refine⟨fun f c h=>?_,fun f vf h=>?_,(fun _ _ _ h=>by cases h),by kernel_rfl,(fun _ h=>by cases h),(fun _ _ h=>by cases h)⟩
 ·simp only[P7]at h
  split at h
  ·cases h;exact⟨Yvv,Tryz.f115,Tryz.func115,by kernel_rfl,by kernel_rfl⟩
  ·cases h;exact⟨Yr4,Tryz.f57,Tryz.func57,by kernel_rfl,by kernel_rfl⟩
  ·cases h
 ·cases h
theorem Yzl:discC.ok YHk 85:=by
 refine Yb Tryz.func85 YGR P7_ok 300 discC fun args k h=>⟨args,?_⟩
 simp only[discC,ivoC]at h
 split at h
 ·rename_i x y
  refine⟨by simp [leL,le],?_⟩
  (try dsimp only[v85,Yyw,YuJ,ivlC,discpC,enc2,go_sem,reduceIte,YHf])
  (try simp only[Yc,YHf,YHh,reduceCtorEq,YHg])
  have h:k (.tup [.agg (enc2 (YhE (x,y)).1),.int .i64 (YhE (x,y)).2]) []:=h
  refine⟨by decide,[(x,y)],⟨⟨rfl,rfl,fun k hk=>match k,hk with|0,_=>Yd _⟩,by simp⟩,fun hc=>?_,fun hc=>?_⟩
  ·rw[YhE,if_pos hc]at h
   exact Yek (r:=errI (ivE [(x,y)])) h
  ·obtain⟨h1,h2,h3⟩:=ivE1 hc
   dsimp only at h1 h2 h3
   rw[YhE,if_neg (by rw[hc];simp)]at h
   dsimp only at h
   refine⟨fun hx=>?_,fun hx=>?_⟩
   ·rw[if_pos hx]at h
    exact Yek (r:=errI 9) h
   ·rw[if_neg hx]at h
    rw[YHJ x (by omega),YHJ y (by omega)]
    refine⟨⟨by omega,by omega⟩,fun v hv=>⟨by decide,by decide,⟨by omega,by omega⟩,fun w hw=>⟨by decide,by decide,fun hb=>?_,fun hb=>?_⟩⟩⟩
    ·rw[YhM,if_neg (by rw[<-Bool.not_and,YHD]at hb;rw[hb];simp)]at h
     exact Yek (r:=((0,0),7)) h
    ·rw[<-Bool.not_and,Bool.not_eq_false',YHn]at hb
     rw[YhM,if_pos (by rw[hb.1,hb.2];rfl),<-hv hb.1,<-hw hb.2]at h
     exact Yek (r:=((_,_),0)) h
 ·exact h.1.elim
set_option maxHeartbeats 8000000
theorem Ytc{t:Int}(h:(rndB t).2=true):(rndB t).1=t:=by
 unfold rndB at h⊢
 split
 ·rfl
 ·rename_i hc;rw[if_neg hc]at h;cases h
theorem YwD{a b:Int×Bool}(h:(YhM a b).2=0):(YhM a b).1=(a.1,b.1)/\a.2=true/\b.2=true:=by
 unfold YhM at h⊢
 split
 ·rename_i hc
  rw[YHn]at hc
  exact⟨rfl,hc⟩
 ·rename_i hc;rw[if_neg hc]at h;cases h
theorem YnV{x:Int}(h0: -4611686018427387904<=x)(h1:x<=4611686018427387904):YcD x=true:=by
 unfold YcD;rw[decide_eq_true h0,decide_eq_true h1];rfl
theorem okE1{a:Iv}(h0: -4611686018427387904<=a.1)(h1:a.1<=a.2)(h2:a.2<=4611686018427387904):ivE [a]=0:=by
 rw[ivE,if_pos (by simp [YnV (x:=a.1) h0 (by omega),YnV (x:=a.2) (by omega) h2]),if_pos (by simpa using h1)]
theorem YjA{t:Int}(h0: -4611686018427387904<=t)(h1:t<=4611686018427387904):rndB t=(t,true):=by rw[rndB,if_pos ⟨h0,h1⟩]
theorem YxM{a:Iv}{n d:Int}(h0:0<=a.1)(h1:a.1<=a.2)(h2:a.2<=4000000000000)(hn:0<=n)(hn1:n<=100000)(hd:1<=d)(hd1:d<=100000):(sclF a n d).2=0:=by
 rw[sclF,if_neg (by rw[okE1 (by omega) h1 (by omega)];decide),if_neg (by omega)]
 have k1:a.1*n<=a.2*n:=Int.mul_le_mul_of_nonneg_right h1 hn
 have k0:0<=a.1*n:=YIe h0 hn
 have k2:a.2*n<=4000000000000*100000:=YO h2 hn1 (by omega) (by decide)
 have q:∀x:Int,0<=x->x<=400000000000000000->rndB (x/d)=(x/d,true)/\rndB (-((-x)/d))=(-((-x)/d),true):=fun x hx hx1=>by
  have m1:x/d<=x:=Int.ediv_le_self _ hx
  have m0:0<=x/d:=Int.ediv_nonneg hx (by omega)
  have m2: -x<=(-x)/d:=by
   rw[Int.le_ediv_iff_mul_le (by omega)]
   have:x*1<=x*d:=YHU hd hx
   rw[Int.neg_mul];omega
  have m3:(-x)/d<=0:=Int.ediv_nonpos_of_nonpos_of_neg (by omega) (by omega)
  exact⟨YjA (by omega) (by omega),YjA (by omega) (by omega)⟩
 unfold Yho rndF rndT
 simp only[lowI,YbT,YHX,List.foldl_nil,if_true,YHG,if_false]
 rw[(q _ (by split <;> omega) (by split <;> omega)).1,(q _ (by split <;> omega) (by split <;> omega)).2]
 rfl
def widS(s:Scl)(note:Int):Iv:=(sclF (piF (diaS s note)).1 s.mn s.md).1
def cutS(s:Scl)(note:Int):Iv×Int:=sclF (widS s note) s.cn s.cd
def mouS(s:Scl)(note:Int):Iv×Iv×Int:=if askS s note note≠0 then((0,0),(0,0),askS s note note)else(widS s note,(cutS s note).1,(cutS s note).2)
theorem scl_v{a:Iv}{n d:Int}(h0:0<=a.1)(h1:a.1<=a.2)(h2:a.2<=4000000000000)(hn:0<=n)(hn1:n<=100000)(hd:1<=d)(hd1:d<=100000):sclF a n d=((a.1*n/d, -((-(a.2*n))/d)),0):=by
 have he:=YxM h0 h1 h2 hn hn1 hd hd1
 refine Prod.ext ?_ he
 unfold sclF at he⊢
 have e1:ivE [a]=0:=okE1 (by omega) h1 (by omega)
 rw[e1,if_neg (by decide),if_neg (by omega)]at he⊢
 unfold Yho at he⊢
 obtain⟨e,k1,k2⟩:=YwD he
 rw[e]
 have hm:a.1*n<=a.2*n:=Int.mul_le_mul_of_nonneg_right h1 hn
 unfold rndF at k1 k2⊢
 rw[Ytc k1,Ytc k2]
 have l1:lowI (a.1*n) [a.2*n]=a.1*n:=by
  simp only[lowI,YHX,List.foldl_nil];rw[if_neg (by omega)]
 have l2:YbT (a.1*n) [a.2*n]=a.2*n:=by
  simp only[YbT,YHX,List.foldl_nil];split <;> omega
 rw[l1,l2]
 simp only[rndT,if_true,YHG,if_false]
theorem Yzd{x d:Int}(hd:1<=d)(hx:0<=x):0<= -((-x)/d)/\ -((-x)/d)<=x:=by
 have m2: -x<=(-x)/d:=by
  rw[Int.le_ediv_iff_mul_le (by omega)]
  have:x*1<=x*d:=YHU hd hx
  rw[Int.neg_mul];omega
 have m3:(-x)/d<=0:=Int.ediv_nonpos_of_nonpos_of_neg (by omega) (by omega)
 omega
theorem YrL{x y d:Int}(hd:1<=d)(h:x<=y):x/d<= -((-y)/d):=by
 refine Int.ediv_le_of_le_mul (by omega) ?_
 have:=Int.ediv_mul_le (-y) (show d≠0 by omega)
 rw[Int.neg_mul];omega
theorem pi_v{a:Iv}(h0:0<=a.1)(h1:a.1<=a.2)(h2:a.2<=3000000):piF a=((a.1*3141592653589793238/1000000000000000000, -((-(a.2*3141592653589793239))/1000000000000000000)),0):=by
 have e1:ivE [a]=0:=okE1 (by omega) h1 (by omega)
 unfold piF
 rw[e1,if_neg (by decide)]
 unfold Yho
 have l1:lowI (a.1*3141592653589793238) [a.1*3141592653589793239,a.2*3141592653589793238,a.2*3141592653589793239]=a.1*3141592653589793238:=by
  simp only[lowI,YHX,List.foldl_nil];rw[if_neg (by omega),if_neg (by omega),if_neg (by omega)]
 have l2:YbT (a.1*3141592653589793238) [a.1*3141592653589793239,a.2*3141592653589793238,a.2*3141592653589793239]=a.2*3141592653589793239:=by
  simp only[YbT,YHX,List.foldl_nil]
  repeat' split
  all_goals omega
 rw[l1,l2]
 unfold rndF
 simp only[rndT,if_true,YHG,if_false]
 rw[YjA (by omega) (by omega),YjA (by omega) (by omega)]
 rfl
theorem Yg1{s:Scl}(h:chkL s=0):(1<=s.mn/\s.mn<=20)/\(1<=s.md/\s.md<=20)/\(1<=s.cn/\s.cn<=20)/\(1<=s.cd/\s.cd<=20):=by
 have h3:=(Yd7 h).2.2
 simp only[okS,YcE,inS,YHn,decide_eq_true_eq]at h3
 omega
theorem YG9{s:Scl}(hs:chkL s=0){note:Int}(hn:0<=note/\note<=139):
 widS s note=((diaS s note).1*3141592653589793238/1000000000000000000*s.mn/s.md, -((-(-((-((diaS s note).2*3141592653589793239))/1000000000000000000)*s.mn))/s.md))/\
 0<=(widS s note).1/\(widS s note).1<=(widS s note).2/\(widS s note).2<=200000000:=by
 obtain⟨d0,d1,d2,d3⟩:=YdZ hs hn
 obtain⟨p1,p2,_,_⟩:=Yg1 hs
 have hp:=pi_v d0 d1 d3
 obtain⟨A,hA⟩:∃A,A=(diaS s note).1*3141592653589793238/1000000000000000000:=⟨_,rfl⟩
 obtain⟨B,hB⟩:∃B,B= -((-((diaS s note).2*3141592653589793239))/1000000000000000000):=⟨_,rfl⟩
 have hA0:0<=A:=by omega
 have hAB:A<=B:=by omega
 have hB1:B<=10000000:=by omega
 have e:widS s note=(A*s.mn/s.md, -((-(B*s.mn))/s.md)):=by
  unfold widS
  rw[hp,<-hA,<-hB,scl_v hA0 hAB (by simp only;omega) (by omega) (by omega) p2.1 (by omega)]
 rw[<-hA,<-hB,e]
 have m1:A*s.mn<=B*s.mn:=Int.mul_le_mul_of_nonneg_right hAB (by omega)
 have m0:0<=A*s.mn:=YIe hA0 (by omega)
 have m2:B*s.mn<=10000000*20:=YO hB1 p1.2 (by omega) (by decide)
 refine⟨rfl,Int.ediv_nonneg m0 (by omega),YrL p2.1 m1,?_⟩
 have:=(Yzd (d:=s.md) p2.1 (show 0<=B*s.mn by omega)).2
 simp only
 omega
theorem cut_e{s:Scl}(hs:chkL s=0){note:Int}(hn:0<=note/\note<=139):(cutS s note).2=0:=by
 obtain⟨_,w0,w1,w2⟩:=YG9 hs hn
 obtain⟨_,_,p1,p2⟩:=Yg1 hs
 exact YxM w0 w1 (by omega) (by omega) (by omega) p2.1 (by omega)
def v14:VF:=⟨47,[.cell 4 true 2,.cell 5 true 2,.tmp 6],(ZR [u1 2 .box [.tm 0],Zn 4,Zn 5,Zi 6 0] (.seq (ZR [Zt 10 7 2,Zm 11 1,Zm 12 1,u1 13 (.call 11) [.tm 10,.tm 11,.tm 12],Zm 7 13] (ZR [Zm 14 7,Zq 15 .neq 14 0] (ZC 15 (ZR [u1 16 (.build [(.int .i64 0),(.int .i64 0)] []) [],u1 17 (.build [(.int .i64 0),(.int .i64 0)] []) [],Zm 18 7,Zs 2 4 16,Zs 2 5 17,Zm 6 18] .ret) .skip))) (ZR [Zt 20 7 2,Zm 21 1,Zd 22 33 20 21,Zc 23 22 22,Zm 19 23,Ze 24 0 19,Ze 25 1 19,Zn 8,Zs 2 8 24,Zm 9 25] (ZR [Zt 27 2 8,Za 28 3 2,Zf 29 1 28,Za 30 4 2,Zf 31 1 30,u1 32 (.call 34) [.tm 27,.tm 29,.tm 31],Zm 26 32,Ze 33 0 26,Ze 34 1 26,Zs 2 4 33] (ZR [Zt 36 2 4,Za 37 5 2,Zf 38 1 37,Za 39 6 2,Zf 40 1 39,u1 41 (.call 34) [.tm 36,.tm 38,.tm 40],Zm 35 41,Ze 42 0 35,Ze 43 1 35,Zs 2 5 42,Zm 6 43] (.seq (.draw [] [Zw 44 2 4,Zw 45 2 5,Zu 46 6,⟨Zs 2 4 44,[.tm 5]⟩,ZS 2 5 45,Zu 6 46]) .ret))))))⟩
theorem YFK:Ye YHk Tryz.f14=some v14:=by kernel_rfl
theorem YqP{k:SV->List HO->Prop}{al:Bool}{hp:List HO}{p q:Iv}{e:Int}(h:k (.tup [.agg (enc2 p),.agg (enc2 q),.int .i64 e]) []):Yz al k (.tup [.agg [.int .i64 p.1,.int .i64 p.2],.agg [.int .i64 q.1,.int .i64 q.2],.int .i64 e]) hp:=
 YE (show k _ []from h) (YC (.tup [.agg [.int .i64 p.1,.int .i64 p.2],.agg [.int .i64 q.1,.int .i64 q.2],.int .i64 e]) ⟨⟨trivial,trivial,trivial⟩,⟨trivial,trivial,trivial⟩,trivial,trivial⟩) (fun _=>by simp [enc2,Yt,Ys])
def mouC:Ctr:={ alias:=false,of:=fun l=>match l with
 | [.agg [.int .i64 d,.int .i64 c,.vs _ _ n sz get,.int .i64 mn,.int .i64 md,.int .i64 cn,.int .i64 cd],.int .i64 note]=>
   .ex (List (Int×Int)) fun bs=> .pre (lsP 2 enc2 n sz get bs/\n<=9223372036854775807) (.fin (.tup [.agg (enc2 (mouS ⟨d,c,bs,mn,md,cn,cd⟩ note).1),.agg (enc2 (mouS ⟨d,c,bs,mn,md,cn,cd⟩ note).2.1),.int .i64 (mouS ⟨d,c,bs,mn,md,cn,cd⟩ note).2.2]) [])
 |_=>noC}
def UM1:Env:={ ct:=fun n=>match n with|11=>some askC|33=>some diaC|22=>some piC|34=>some sclC|_=>none,fn:=fun _=>none,meth:=fun _ _=>none}
theorem YmY:UM1.ct 11=some askC:=rfl
theorem Ym0:UM1.ct 33=some diaC:=rfl
theorem YmZ:UM1.ct 22=some piC:=rfl
theorem Ym1:UM1.ct 34=some sclC:=rfl
theorem YC9:Yn YHk UM1:=by
 refine⟨fun f c h=>?_,fun f vf h=>?_,(fun _ _ _ h=>by cases h),by kernel_rfl,(fun _ h=>by cases h),(fun _ _ h=>by cases h)⟩
 ·simp only[UM1]at h
  split at h
  ·cases h;exact⟨YDi,Tryz.f11,Tryz.func11,by kernel_rfl,by kernel_rfl⟩
  ·cases h;exact⟨YDB,Tryz.f33,Tryz.func33,by kernel_rfl,by kernel_rfl⟩
  ·cases h;exact⟨YEw,Tryz.f22,Tryz.func22,by kernel_rfl,by kernel_rfl⟩
  ·cases h;exact⟨Ytk,Tryz.f34,Tryz.func34,by kernel_rfl,by kernel_rfl⟩
  ·cases h
 ·cases h
theorem mou_c:mouC.ok YHk 14:=by
 refine Yb Tryz.func14 YFK YC9 400 mouC fun args k h=>?_
 simp only[mouC]at h
 split at h
 ·rename_i d c tt z n sz get mn md cn cd note
  obtain⟨bs,⟨⟨rfl,rfl,hg⟩,hn⟩,h⟩:=h
  refine⟨[.agg [.int .i64 d,.int .i64 c,.vs tt z bs.length 2 (fun k=>enc2 (bs.getD k default)),.int .i64 mn,.int .i64 md,.int .i64 cn,.int .i64 cd],.int .i64 note],⟨⟨⟨rfl,rfl⟩,⟨rfl,rfl⟩,⟨id,rfl,rfl,rfl,hg⟩,⟨rfl,rfl⟩,⟨rfl,rfl⟩,⟨rfl,rfl⟩,⟨rfl,rfl⟩,trivial⟩,⟨rfl,rfl⟩,trivial⟩,?_⟩
  obtain⟨s,hs⟩:∃s:Scl,s=⟨d,c,bs,mn,md,cn,cd⟩:=⟨_,rfl⟩
  have h:k (.tup [.agg (enc2 (mouS ⟨d,c,bs,mn,md,cn,cd⟩ note).1),.agg (enc2 (mouS ⟨d,c,bs,mn,md,cn,cd⟩ note).2.1),.int .i64 (mouS ⟨d,c,bs,mn,md,cn,cd⟩ note).2.2]) []:=h
  dsimp only[v14,YmY,Ym0,YmZ,Ym1,askC,diaC,piC,sclC,ivoC,enc2,go_sem,reduceIte,YHf]
  simp only[Yc,YHf,YHh,reduceCtorEq,YHg]
  have self:lsP 2 enc2 bs.length 2 (fun k=>[SV.int IntKind.i64 (bs.getD k default).fst,SV.int IntKind.i64 (bs.getD k default).snd]) bs:=⟨rfl,rfl,fun k _=>Yd _⟩
  refine⟨bs,⟨self,hn⟩,fun hc=>?_,fun hc=>?_⟩
  ·rw[mouS,if_pos hc]at h
   exact YqP (p:=(0,0)) (q:=(0,0)) h
  ·rw[mouS,if_neg (by rw[hc];decide)]at h
   obtain⟨a1,a2,_⟩:=YyX hc
   have:=Yev a1
   refine⟨bs,⟨self,a1,by omega,a2.2⟩,?_⟩
   (try dsimp only[YmY,Ym0,YmZ,Ym1,askC,diaC,piC,sclC,ivoC,enc2,go_sem,reduceIte,YHf])
   (try simp only[Yc,YHf,YHh,reduceCtorEq,YHg])
   exact⟨by decide,by decide,by decide,by decide,by decide,by decide,YqP (p:=widS ⟨d,c,bs,mn,md,cn,cd⟩ note) (q:=(cutS ⟨d,c,bs,mn,md,cn,cd⟩ note).1) (e:=(cutS ⟨d,c,bs,mn,md,cn,cd⟩ note).2) h⟩
 ·exact h.1.elim
structure Cut where
 w:Int
 h:Int
deriving Inhabited
structure Spt where
 pl:Int
 sh:Int
 x:Int
 y:Int
deriving Inhabited
structure Pla where
 w:Int
 h:Int
 k:Int
def idxP{α:Type}(p:α->Bool):Nat->List α->Option Nat
 |_,[]=>none
 |i,a::r=>if p a=true then some i else idxP p (i+1) r
theorem YgQ{α:Type}[Inhabited α]{p:α->Bool}:∀{r:List α}{i j:Nat},idxP p i r=some j->∃k,j=i+k/\k<r.length/\p (r.getD k default)=true
 | [],i,j,h=>by cases h
 |a::r,i,j,h=>by
  rw[idxP]at h
  split at h
  ·cases h
   exact⟨0,rfl,by simp,‹_›⟩
  ·obtain⟨k,h1,h2,h3⟩:=YgQ h
   exact⟨k+1,by omega,by rw[YH8];omega,h3⟩
structure Qst where
 out:List Spt
 sv:List Spt
 tp:List Int
def Qst.put(p:Pla)(c:Cut)(i k:Nat)(s:Qst):Qst:=
 ⟨s.out.set i (s.sv.getD k default),s.sv.set k { s.sv.getD k default with x:=(s.sv.getD k default).x+(c.w+p.k)},s.tp⟩
def Qst.shelf(p:Pla)(c:Cut)(on:Nat)(s:Qst):Qst:=
 ⟨s.out,s.sv++[⟨(on:Int),(s.sv.length:Int),0,s.tp.getD on 0⟩],s.tp.set on (s.tp.getD on 0+(c.h+p.k))⟩
def quiS(p:Pla)(l:List Cut)(s:Qst)(i:Nat):Qst:=
 let c:=l.getD i default
 match idxP (fun t:Spt=>decide (t.x+c.w<=p.w)) 0 s.sv with
 |some k=>s.put p c i k
 |none=>
  match idxP (fun y:Int=>decide (y+c.h<=p.h)) 0 s.tp with
  |some on=>(s.shelf p c on).put p c i s.sv.length
  |none=>(Qst.shelf p c s.tp.length ⟨s.out,s.sv,s.tp++[0]⟩).put p c i s.sv.length
def shA(K:Int):List Spt->List Int->Int
 |s::r,h::t=>s.x*(h+K)+shA K r t
 |_,_=>0
def hsA(K:Int):List Int->Int
 |h::t=>h+K+hsA K t
 | []=>0
theorem Ytq(K e:Int):∀{sv:List Spt}{hs:List Int}{k:Nat},k<sv.length->hs.length=sv.length->shA K (sv.set k { sv.getD k default with x:=(sv.getD k default).x+e}) hs=shA K sv hs+e*(hs.getD k 0+K)
 | [],_,k,h,_=>absurd h (YIf _)
 |s::r,[],k,_,h=>by cases h
 |s::r,h::t,0,_,_=>by
  simp only[List.set_cons_zero,List.getD_cons_zero,shA]
  rw[Int.add_mul];omega
 |s::r,h::t,k+1,hk,hl=>by
  simp only[List.set_cons_succ,List.getD_cons_succ,shA]
  rw[Ytq K e (by simpa using hk) (by simpa using hl)];omega
theorem Ytp(K:Int)(s:Spt)(h:Int):∀{sv:List Spt}{hs:List Int},hs.length=sv.length->shA K (sv++[s]) (hs++[h])=shA K sv hs+s.x*(h+K)
 | [],[],_=>by simp only[List.nil_append,shA];omega
 | [],_::_,h=>by cases h
 |_::_,[],h=>by cases h
 |_::r,_::t,hl=>by
  simp only[List.cons_append,shA]
  rw[Ytp K s h (by simpa using hl)];omega
theorem YrX(K h:Int):∀{hs:List Int},hsA K (hs++[h])=hsA K hs+(h+K)
 | []=>by simp only[List.nil_append,hsA];omega
 |_::t=>by
  simp only[List.cons_append,hsA]
  rw[YrX K h];omega
theorem YtD(e:Int):∀{l:List Int}{k:Nat},k<l.length->(l.set k (l.getD k 0+e)).sum=l.sum+e
 | [],k,h=>absurd h (YIf _)
 |a::r,0,_=>by simp only[List.set_cons_zero,List.getD_cons_zero,List.sum_cons];omega
 |a::r,k+1,h=>by
  simp only[List.set_cons_succ,List.getD_cons_succ,List.sum_cons]
  rw[YtD e (by simpa using h)];omega
theorem YxN{K W:Int}:∀{sv:List Spt}{hs:List Int},hs.length=sv.length->(∀k,k<sv.length->(sv.getD k default).x<=W)->(∀k,k<hs.length->0<=hs.getD k 0+K)->shA K sv hs<=W*hsA K hs
 | [],[],_,_,_=>by simp only[shA,hsA];omega
 | [],_::_,h,_,_=>by cases h
 |_::_,[],h,_,_=>by cases h
 |s::r,h::t,hl,hx,hh=>by
  simp only[shA,hsA]
  have ih:=YxN (K:=K) (W:=W) (sv:=r) (hs:=t) (by simpa using hl) (fun k hk=>by have:=hx (k+1) (by simpa using hk);simpa using this) (fun k hk=>by have:=hh (k+1) (by simpa using hk);simpa using this)
  have h0:=hx 0 (by simp)
  have h1:=hh 0 (by simp)
  simp only[List.getD_cons_zero]at h0 h1
  have:=Int.mul_le_mul_of_nonneg_right h0 h1
  rw[Int.mul_add W (h+K)];omega
structure QB (p:Pla) (l:List Cut) (D:List Nat) (hs:List Int) (s:Qst):Prop where
 lo:s.out.length=l.length
 lh:hs.length=s.sv.length
 rng:∀i,i∈D->i<l.length
 pos:∀k,k<hs.length->0<=hs.getD k 0
 she:∀k,k<s.sv.length->(s.sv.getD k default).sh=(k:Int)/\0<=(s.sv.getD k default).x/\(s.sv.getD k default).x<=p.w+p.k/\0<=(s.sv.getD k default).y/\(s.sv.getD k default).y+hs.getD k 0<=p.h/\
  ∃on:Nat,(s.sv.getD k default).pl=(on:Int)/\on<s.tp.length/\(s.sv.getD k default).y+hs.getD k 0+p.k<=s.tp.getD on 0
 two:∀k m,k<m->m<s.sv.length->(s.sv.getD k default).pl=(s.sv.getD m default).pl->(s.sv.getD k default).y+hs.getD k 0+p.k<=(s.sv.getD m default).y
 spt:∀i,i∈D->∃k:Nat,k<s.sv.length/\(s.out.getD i default).pl=(s.sv.getD k default).pl/\(s.out.getD i default).sh=(k:Int)/\(s.out.getD i default).y=(s.sv.getD k default).y/\0<=(s.out.getD i default).x/\
  (s.out.getD i default).x+(l.getD i default).w<=p.w/\(s.out.getD i default).x+(l.getD i default).w+p.k<=(s.sv.getD k default).x/\(l.getD i default).h<=hs.getD k 0
 row:∀i j,i∈D->j∈D->i≠j->(s.out.getD i default).sh=(s.out.getD j default).sh->(s.out.getD i default).x+(l.getD i default).w+p.k<=(s.out.getD j default).x\/(s.out.getD j default).x+(l.getD j default).w+p.k<=(s.out.getD i default).x
 top:∀on,on<s.tp.length->0<=s.tp.getD on 0/\s.tp.getD on 0<=p.h+p.k
 are:(D.map fun i=>((l.getD i default).w+p.k)*((l.getD i default).h+p.k)).sum<=shA p.k s.sv hs
 ars:hsA p.k hs=s.tp.sum
theorem Ycw{α:Type}[Inhabited α]{l:List α}{k j:Nat}{a:α}(hk:k<l.length):(l.set k a).getD j default=if j=k then a else l.getD j default:=by
 rw[YHo,YHo,List.getElem?_set]
 by_cases c:j=k
 ·subst c;rw[if_pos rfl,if_pos rfl,if_pos hk];rfl
 ·rw[if_neg c,if_neg (fun h=>c h.symm)]
theorem YaL{α:Type}[Inhabited α]{l:List α}{a:α}{j:Nat}:(l++[a]).getD j default=if j<l.length then l.getD j default else if j=l.length then a else default:=by
 rw[YHo,YHo]
 by_cases c:j<l.length
 ·rw[if_pos c,YH6 c]
 ·rw[if_neg c,List.getElem?_append_right (by omega)]
  by_cases c2:j=l.length
  ·rw[if_pos c2,c2,Nat.sub_self];rfl
  ·rw[if_neg c2]
   obtain⟨m,hm⟩:∃m,j-l.length=m+1:=⟨j-l.length-1,by omega⟩
   rw[hm];rfl
theorem QB.put_ok{p:Pla}{l:List Cut}{D:List Nat}{hs:List Int}{s:Qst}(h:QB p l D hs s)(hK:0<=p.k){i k:Nat}(hi:i<l.length)(hiD:i∉D)(hk:k<s.sv.length)(hw:0<=(l.getD i default).w)(hx:(s.sv.getD k default).x+(l.getD i default).w<=p.w)(hh:(l.getD i default).h<=hs.getD k 0):
 QB p l (D++[i]) hs (s.put p (l.getD i default) i k):=by
 obtain⟨lo,lh,rng,pos,she,two,spt,row,top,are,ars⟩:=h
 have hsk:=she k hk
 obtain⟨X,hX⟩:∃X,X=(l.getD i default).w+p.k:=⟨_,rfl⟩
 have gsv:∀j,((s.put p (l.getD i default) i k).sv.getD j default)=if j=k then { s.sv.getD k default with x:=(s.sv.getD k default).x+X}else s.sv.getD j default:=fun j=>by
  rw[hX];exact Ycw hk
 have gout:∀j,((s.put p (l.getD i default) i k).out.getD j default)=if j=i then s.sv.getD k default else s.out.getD j default:=fun j=>Ycw (by rw[lo];exact hi)
 have lsv:(s.put p (l.getD i default) i k).sv.length=s.sv.length:=List.length_set
 have gpl:∀j,((s.put p (l.getD i default) i k).sv.getD j default).pl=(s.sv.getD j default).pl/\((s.put p (l.getD i default) i k).sv.getD j default).sh=(s.sv.getD j default).sh/\((s.put p (l.getD i default) i k).sv.getD j default).y=(s.sv.getD j default).y:=fun j=>by
  rw[gsv]
  split
  ·rename_i c;subst c;exact⟨rfl,rfl,rfl⟩
  ·exact⟨rfl,rfl,rfl⟩
 have gx:∀j,(s.sv.getD j default).x<=((s.put p (l.getD i default) i k).sv.getD j default).x/\((s.put p (l.getD i default) i k).sv.getD j default).x=if j=k then(s.sv.getD k default).x+X else(s.sv.getD j default).x:=fun j=>by
  rw[gsv]
  split
  ·rename_i c;subst c;simp only[if_pos];exact⟨by omega,trivial⟩
  ·exact⟨YIs _,rfl⟩
 refine⟨?_,?_,?_,pos,?_,?_,?_,?_,top,?_,ars⟩
 ·exact(List.length_set).trans lo
 ·rw[lsv];exact lh
 ·intro j hj
  rcases YHO.1 hj with hj|hj
  ·exact rng j hj
  ·rw[YHZ.1 hj];exact hi
 ·intro j hj
  rw[lsv]at hj
  obtain⟨a1,a2,a3,a4,a5,a6⟩:=she j hj
  obtain⟨g1,g2,g3⟩:=gpl j
  rw[g1,g2,g3]
  obtain⟨g4,g5⟩:=gx j
  refine⟨a1,by omega,?_,a4,a5,a6⟩
  rw[g5]
  split
  ·omega
  ·exact a3
 ·intro a b hab hb hp
  rw[lsv]at hb
  rw[(gpl a).1,(gpl b).1]at hp
  rw[(gpl a).2.2,(gpl b).2.2]
  exact two a b hab hb hp
 ·intro j hj
  rw[gout]
  by_cases c:j=i
  ·subst c
   rw[if_pos rfl]
   refine⟨k,by rw[lsv];exact hk,(gpl k).1.symm,hsk.1,(gpl k).2.2.symm,hsk.2.1,hx,?_,hh⟩
   rw[(gx k).2,if_pos rfl];omega
  ·rw[if_neg c]
   have hjD:j∈D:=by
    rcases YHO.1 hj with hj|hj
    ·exact hj
    ·exact absurd (YHZ.1 hj) c
   obtain⟨m,b1,b2,b3,b4,b5,b6,b7,b8⟩:=spt j hjD
   exact⟨m,by rw[lsv];exact b1,by rw[(gpl m).1];exact b2,b3,by rw[(gpl m).2.2];exact b4,b5,b6,Int.le_trans b7 (gx m).1,b8⟩
 ·have one:∀j,j∈D->(s.out.getD j default).sh=(s.sv.getD k default).sh->(s.out.getD j default).x+(l.getD j default).w+p.k<=(s.sv.getD k default).x:=fun j hj hjs=>by
   obtain⟨m,b1,b2,b3,b4,b5,b6,b7,b8⟩:=spt j hj
   have:m=k:=by have:=hsk.1;omega
   rw[<-this];exact b7
  intro a b ha hb hab hs
  rw[gout,gout]at hs⊢
  have mem:∀j,j∈D++[i]->j≠i->j∈D:=fun j hj c=>by
   rcases YHO.1 hj with hj|hj
   ·exact hj
   ·exact absurd (YHZ.1 hj) c
  by_cases ca:a=i
  ·have cb:b≠i:=fun c=>hab (ca.trans c.symm)
   rw[if_pos ca,if_neg cb]at hs⊢
   right
   exact one b (mem b hb cb) hs.symm
  ·by_cases cb:b=i
   ·rw[if_neg ca,if_pos cb]at hs⊢
    left
    exact one a (mem a ha ca) hs
   ·rw[if_neg ca,if_neg cb]at hs⊢
    exact row a b (mem a ha ca) (mem b hb cb) hab hs
 ·rw[List.map_append,List.sum_append]
  have e:=Ytq p.k X (sv:=s.sv) (hs:=hs) hk lh
  have e2:(s.put p (l.getD i default) i k).sv=s.sv.set k { s.sv.getD k default with x:=(s.sv.getD k default).x+X}:=by rw[hX];rfl
  rw[e2,e]
  simp only[YHH,List.map_nil,List.sum_cons,List.sum_nil]
  have m:X*((l.getD i default).h+p.k)<=X*(hs.getD k 0+p.k):=YHU (by omega) (by omega)
  rw[<-hX];omega
theorem QB.shelf_ok{p:Pla}{l:List Cut}{D:List Nat}{hs:List Int}{s:Qst}(h:QB p l D hs s)(hK:0<=p.k)(hW:0<=p.w){c:Cut}{on:Nat}(hon:on<s.tp.length)(hc:0<=c.h)(hy:s.tp.getD on 0+c.h<=p.h):QB p l D (hs++[c.h]) (s.shelf p c on):=by
 obtain⟨lo,lh,rng,pos,she,two,spt,row,top,are,ars⟩:=h
 have lsv:(s.shelf p c on).sv.length=s.sv.length+1:=by show(s.sv++[_]).length=_;rw[YHM];rfl
 have ltp:(s.shelf p c on).tp.length=s.tp.length:=List.length_set
 have gsv:∀j,j<s.sv.length->(s.shelf p c on).sv.getD j default=s.sv.getD j default:=fun j hj=>by
  show(s.sv++[_]).getD j default=_
  rw[YaL,if_pos hj]
 have gnew:(s.shelf p c on).sv.getD s.sv.length default=⟨(on:Int),(s.sv.length:Int),0,s.tp.getD on 0⟩:=by
  show(s.sv++[_]).getD s.sv.length default=_
  rw[YaL,if_neg (Nat.lt_irrefl _),if_pos rfl]
 have ghs:∀j,j<s.sv.length->(hs++[c.h]).getD j 0=hs.getD j 0:=fun j hj=>by
  have:=YaL (l:=hs) (a:=c.h) (j:=j)
  rw[if_pos (by omega)]at this;exact this
 have ghn:(hs++[c.h]).getD s.sv.length 0=c.h:=by
  have:=YaL (l:=hs) (a:=c.h) (j:=s.sv.length)
  rw[if_neg (by omega),if_pos lh.symm]at this;exact this
 have gtp:∀j,(s.shelf p c on).tp.getD j 0=if j=on then s.tp.getD on 0+(c.h+p.k)else s.tp.getD j 0:=fun j=>Ycw (α:=Int) hon
 have tle:∀j,s.tp.getD j 0<=(s.shelf p c on).tp.getD j 0:=fun j=>by
  rw[gtp]
  split
  ·rename_i e;subst e;omega
  ·exact YIs _
 have t0:=top on hon
 refine⟨lo,?_,rng,?_,?_,?_,?_,row,?_,?_,?_⟩
 ·rw[lsv,YHM,lh];rfl
 ·intro k hk
  rw[YHM,lh,List.length_singleton]at hk
  by_cases e:k<s.sv.length
  ·rw[ghs k e];exact pos k (by omega)
  ·obtain rfl:k=s.sv.length:=by omega
   rw[ghn];exact hc
 ·intro k hk
  rw[lsv]at hk
  by_cases e:k<s.sv.length
  ·rw[gsv k e,ghs k e]
   obtain⟨a1,a2,a3,a4,a5,n,a6,a7,a8⟩:=she k e
   exact⟨a1,a2,a3,a4,a5,n,a6,by rw[ltp];exact a7,Int.le_trans a8 (tle n)⟩
  ·obtain rfl:k=s.sv.length:=by omega
   rw[gnew,ghn]
   refine⟨rfl,YIs _,by simp only;omega,t0.1,hy,on,rfl,by rw[ltp];exact hon,?_⟩
   rw[gtp,if_pos rfl];simp only;omega
 ·intro k m hkm hm hp
  rw[lsv]at hm
  have hk:k<s.sv.length:=by omega
  rw[gsv k hk]at hp⊢
  rw[ghs k hk]
  by_cases e:m<s.sv.length
  ·rw[gsv m e]at hp⊢
   exact two k m hkm e hp
  ·obtain rfl:m=s.sv.length:=by omega
   rw[gnew]at hp⊢
   obtain⟨_,_,_,_,_,n,a6,a7,a8⟩:=she k hk
   simp only at hp⊢
   have:n=on:=by omega
   rw[<-this];exact a8
 ·intro j hj
  obtain⟨m,b1,b2,b3,b4,b5,b6,b7,b8⟩:=spt j hj
  exact⟨m,by rw[lsv];omega,by rw[gsv m b1];exact b2,b3,by rw[gsv m b1];exact b4,b5,b6,by rw[gsv m b1];exact b7,by rw[ghs m b1];exact b8⟩
 ·intro j hj
  rw[ltp]at hj
  rw[gtp]
  split
  ·omega
  ·exact top j hj
 ·have e:shA p.k (s.shelf p c on).sv (hs++[c.h])=shA p.k s.sv hs+0*(c.h+p.k):=Ytp p.k _ c.h lh
  rw[e];omega
 ·have e:(s.shelf p c on).tp.sum=s.tp.sum+(c.h+p.k):=YtD _ hon
  rw[YrX,e,ars]
theorem QB.plate_ok{p:Pla}{l:List Cut}{D:List Nat}{hs:List Int}{s:Qst}(h:QB p l D hs s)(hK:0<=p.k)(hH:0<=p.h):QB p l D hs ⟨s.out,s.sv,s.tp++[0]⟩:=by
 obtain⟨lo,lh,rng,pos,she,two,spt,row,top,are,ars⟩:=h
 have gtp:∀j,j<s.tp.length->(s.tp++[0]).getD j 0=s.tp.getD j 0:=fun j hj=>by
  have:=YaL (l:=s.tp) (a:=(0:Int)) (j:=j)
  rw[if_pos hj]at this;exact this
 refine⟨lo,lh,rng,pos,?_,two,spt,row,?_,are,?_⟩
 ·intro k hk
  obtain⟨a1,a2,a3,a4,a5,n,a6,a7,a8⟩:=she k hk
  refine⟨a1,a2,a3,a4,a5,n,a6,?_,?_⟩
  ·show n<(s.tp++[0]).length
   rw[YHM];omega
  ·show _<=(s.tp++[0]).getD n 0
   rw[gtp n a7];exact a8
 ·intro j hj
  have hj:j<(s.tp++[0]).length:=hj
  show 0<=(s.tp++[0]).getD j 0/\(s.tp++[0]).getD j 0<=_
  rw[YHM,List.length_singleton]at hj
  by_cases e:j<s.tp.length
  ·rw[gtp j e];exact top j e
  ·obtain rfl:j=s.tp.length:=by omega
   have:=YaL (l:=s.tp) (a:=(0:Int)) (j:=s.tp.length)
   rw[if_neg (Nat.lt_irrefl _),if_pos rfl]at this
   have e2:(s.tp++[0]).getD s.tp.length 0=0:=this
   rw[e2];omega
 ·show _=(s.tp++[0]).sum
  rw[List.sum_append];simp only[List.sum_cons,List.sum_nil];omega
end Go.Proofs.YtlfhmpkopcnheaaGreat
namespace Go.Vx
open Go.RowKit
mutual
def Ylm:SV->Prop
 | .agg cs=>YbC cs
 | .tup cs=>YbC cs
 | .fn _ a b=>YbC a/\YbC b
 | .iface _ v=>Ylm v
 | .vs _ _ n _ get=> ∀k,k<n->YbC (get k)
 | .xp _ cs=>YbC cs
 | .int _ _=>True
 | .bool _=>True
 | .val _=>True
 | .nil=>True
 | .junk=>True
 |_=>False
def YbC:List SV->Prop
 | []=>True
 |x::l=>Ylm x/\YbC l
end
section
variable {w:World} {bs bs':List BK} {B B':Bd}
mutual
theorem XRep.quiet(hn:B'.n=B.n)(hf:∀b,Fr B bs b->Fr B' bs' b):∀{s:SV}{v:Value},XRep w bs B s v->Ylm s->XRep w bs' B' s v
 |_,_,.int k n,_=> .int k n
 |_,_,.bool b,_=> .bool b
 |_,_,.val v,_=> .val v
 |_,_,.nil,_=> .nil
 |_,_,.junk v,_=> .junk v
 |_,_,.agg cs vs h,q=> .agg cs vs (XRepL.quiet hn hf h q)
 |_,_,.tup cs vs h,q=> .tup cs vs (XRepL.quiet hn hf h q)
 |_,_,.fn f fs cs us vs h h',q=> .fn f fs cs us vs (XRepL.quiet hn hf h q.1) (XRepL.quiet hn hf h' q.2)
 |_,_,.iface t x v h,q=> .iface t x v (XRep.quiet hn hf h q)
 |_,_,.vs t z n size get a cap vals hz hc hn' hcell h,q=> .vs t z n size get a cap vals hz hc hn'
   (fun k hk=>by
     obtain⟨ad,h1,h2,h3,h4,h5,h6⟩:=hcell k hk
     exact⟨ad,h1,h2,hf _ h3,fun ht=>by rw[hn];exact h4 ht,h5,h6⟩)
   (fun k hk=>XRepL.quiet hn hf (h k hk) (q k hk))
 |_,_,.xp t cs ad vals hs hfr ht hc h,q=> .xp t cs ad vals hs (hf _ hfr) (fun h=>by rw[hn];exact ht h) hc (XRepL.quiet hn hf h q)
 |_,_,.row n C b cap h hc,q=>q.elim
 |_,_,.rcell D n C k b hD h hk,q=>q.elim
 |_,_,.imap kk C b h,q=>q.elim
theorem XRepL.quiet(hn:B'.n=B.n)(hf:∀b,Fr B bs b->Fr B' bs' b):∀{l:List SV}{vs:List Value},XRepL w bs B l vs->YbC l->XRepL w bs' B' l vs
 |_,_,.nil,_=> .nil
 |_,_,.cons x v l vs h h',q=> .cons x v l vs (XRep.quiet hn hf h q.1) (XRepL.quiet hn hf h' q.2)
end
mutual
theorem Rep.quiet(hn:B'.n=B.n)(hf:∀b,Fr B bs b->Fr B' bs' b):∀{s:SV}{v:Value},Rep w bs B s v->Ylm s->Rep w bs' B' s v
 |_,_,.x s v h,q=> .x s v (h.quiet hn hf q)
 |_,_,.agg cs vs h,q=> .agg cs vs (RepL.quiet hn hf h q)
 |_,_,.tup cs vs h,q=> .tup cs vs (RepL.quiet hn hf h q)
 |_,_,.fn f fs cs us vs h h',q=> .fn f fs cs us vs (RepL.quiet hn hf h q.1) (RepL.quiet hn hf h' q.2)
 |_,_,.iface t x v h,q=> .iface t x v (Rep.quiet hn hf h q)
 |_,_,.ptr i off b n h,q=>q.elim
 |_,_,.own i lo n size b cap m ad h hl ha,q=>q.elim
 |_,_,.ownNil i size h,q=>q.elim
 |_,_,.elem i k off size b cap m h hk,q=>q.elim
 |_,_,.smp i b h,q=>q.elim
 |_,_,.optT x v h,q=>q.elim
 |_,_,.optF x,q=>q.elim
 |_,_,.cut x a n cap h,q=>q.elim
theorem RepL.quiet(hn:B'.n=B.n)(hf:∀b,Fr B bs b->Fr B' bs' b):∀{l:List SV}{vs:List Value},RepL w bs B l vs->YbC l->RepL w bs' B' l vs
 |_,_,.nil,_=> .nil
 |_,_,.cons x v l vs h h',q=> .cons x v l vs (Rep.quiet hn hf h q.1) (RepL.quiet hn hf h' q.2)
end
def Yzw:SV->Bool
 | .int _ _=>true
 | .bool _=>true
 | .tup []=>true
 | .tup [.int _ _,.int _ _]=>true
 | .tup [.int _ _,.bool _]=>true
 |_=>false
theorem Yzx{w':World}{s:SV}{v:Value}(hs:Yzw s=true)(h:Rep w bs B s v):Rep w' bs' B' s v:=by
 unfold Yzw at hs
 split at hs
 ·rw[h.int_inv];exact .x _ _ (.int _ _)
 ·rw[h.bool_inv];exact .x _ _ (.bool _)
 ·obtain⟨vs,rfl,h1⟩:=h.tup_inv
  rw[h1.nil_inv];exact .tup _ _ .nil
 ·obtain⟨vs,rfl,h1⟩:=h.tup_inv
  obtain⟨v1,l1,rfl,g1,h1⟩:=h1.cons_inv
  obtain⟨v2,l2,rfl,g2,h1⟩:=h1.cons_inv
  rw[h1.nil_inv,g1.int_inv,g2.int_inv]
  exact .tup _ _ (.cons _ _ _ _ (.x _ _ (.int _ _)) (.cons _ _ _ _ (.x _ _ (.int _ _)) .nil))
 ·obtain⟨vs,rfl,h1⟩:=h.tup_inv
  obtain⟨v1,l1,rfl,g1,h1⟩:=h1.cons_inv
  obtain⟨v2,l2,rfl,g2,h1⟩:=h1.cons_inv
  rw[h1.nil_inv,g1.int_inv,g2.bool_inv]
  exact .tup _ _ (.cons _ _ _ _ (.x _ _ (.int _ _)) (.cons _ _ _ _ (.x _ _ (.bool _)) .nil))
 ·cases hs
theorem Yq3{w':World}{a:Array Int}{k:Nat}{vs:List Value}(h:RepL w bs B (arrC a k) vs):RepL w' bs' B' (arrC a k) vs:=by
 obtain⟨v1,l1,rfl,g1,h1⟩:=h.cons_inv
 rw[h1.nil_inv,g1.int_inv]
 exact .cons _ _ _ _ (.x _ _ (.int _ _)) .nil
end
noncomputable def keptL (w:World) (n:Nat) (p:Nat->Prop):List (Nat×Obj):=
 ((YIc w.heap.size).filter (fun k=> @decide (n<=k/\p k) (Classical.propDecidable _))).map fun k=>(k,(w.heap[k]?).getD (.deferred none))
theorem YvQ(w:World)(n:Nat)(p:Nat->Prop):((keptL w n p).map (·.1)).Nodup:=by
 unfold keptL
 rw[List.map_map,show((fun x:Nat×Obj=>x.1)∘fun k=>(k,(w.heap[k]?).getD (.deferred none)))=id from rfl,List.map_id]
 exact List.nodup_range.filter _
theorem Yr7{w:World}{n:Nat}{p:Nat->Prop}{x:Nat×Obj}(h:x∈keptL w n p):n<=x.1/\p x.1/\w.heap[x.1]? =some x.2:=by
 unfold keptL at h
 obtain⟨k,hk,rfl⟩:=YIr.1 h
 rw[List.mem_filter]at hk
 have h1:=List.mem_range.1 hk.1
 have h2:= @of_decide_eq_true _ (Classical.propDecidable _) hk.2
 refine⟨h2.1,h2.2,?_⟩
 simp only
 rw[Array.getElem?_eq_getElem h1];rfl
theorem Yjj{w:World}{n:Nat}{p:Nat->Prop}{k:Nat}{o:Obj}(h:w.heap[k]? =some o)(hn:n<=k)(hp:p k):(k,o)∈keptL w n p:=by
 unfold keptL
 refine YIr.2 ⟨k,?_,by rw[h];rfl⟩
 rw[List.mem_filter]
 exact⟨List.mem_range.2 (YHy.1 h).1, @decide_eq_true _ (Classical.propDecidable _) ⟨hn,hp⟩⟩
def cutW(w:World)(n:Nat):World:={ w with heap:=w.heap.extract 0 n}
theorem Yry{w:World}{n:Nat}(h:n<=w.heap.size):(cutW w n).heap.size=n:=by
 show(w.heap.extract 0 n).size=n
 rw[Array.size_extract];omega
theorem Yen{w:World}{n k:Nat}(h:k<n):(cutW w n).heap[k]? =w.heap[k]? :=by
 show(w.heap.extract 0 n)[k]? =_
 rw[Array.getElem?_extract]
 split
 ·rw[YIb]
 ·symm
  rw[Array.getElem?_eq_none_iff]
  omega
def cxW(w:World)(n:Nat)(kz:List (Nat×Obj)):Cx0:={ toWorld:=cutW w n,F:=fun _=>True,I:=fun _=>none,up:=fun _ _ _=>trivial,ex:=fun _ _=>rfl,kz:=kz}
variable {P:Program} {E:Env}
theorem Yag{f:FuncId}{fn:Func}{vf:VF}(hf:P.funcs[f]? =some fn)(hvf:Ye P fn=some vf)(hE:Yn P E)(n:Nat)(c:WCtr)(hfl:∀x,Yzw (c.res x)=true)
 (hq:∀rest a,c.A rest a->YbC rest)
 (h:∀(rest:List SV) (a:Array Int) (z:Bool),c.A rest a->run E (fun _ _=>False) vf.res n [.code vf.body,.frame (some 1) vf.res,
   .inLoop (fun s=> ∃(a':Array Int) (x:c.ρ) (get':Nat->List SV) (hs:List HO),s.fr=[.own 0 0 a.size 1,c.res x]/\s.hp= .own z 1 a.size get'::hs/\(∀k,k<a.size->get' k=arrC a' k)/\a'.size=a.size/\c.R rest a a' x)]
   {fr:=padL vf.ntmps (.own 0 0 a.size 1::rest),saved:=[[.own 0 0 a.size 1,.junk]],hp:=[.own z 1 a.size (arrC a)]}):c.ok P f:=by
 intro i m rest vs w bs B hp z get a hgl hG hH hB hx hno hgi hsz hget hA
 subst hsz
 have hquiet:=hq rest a hA
 have hrun:=h rest a z hA
 obtain⟨v0,vs',rfl,hv0,hvs⟩:=hx.cons_inv
 --the block
 have hent:=hH.ent i
 rw[hgi]at hent
 obtain⟨x,hbi,hx0,hcase⟩:∃x:BK,bs[i]? =some x/\x≠ .gone/\((x= .nil/\z=true/\a.size=0/\v0= .slice none 0 0)\/
  ∃b cap vs T,x= .blk b cap a.size/\z=false/\w.heap[b]? =some (.cells vs T (0,0))/\vs.size=cap*1/\a.size<=cap/\(∀k,k<a.size->RepL w bs B (get k) ((vs.toList.drop (k*1)).take 1))/\v0= .slice (some ⟨b,0,none⟩) a.size cap):=by
  rcases hent with⟨h1,h2,h3⟩ | ⟨b,cap,vs,T,h1,h2,h3,h4,h5,h6⟩
  ·refine⟨_,h1,by simp,.inl ⟨rfl,h2,h3,?_⟩⟩
   generalize hmm:a.size=mm at hv0
   cases hv0 with
   |x _ _ h=>cases h
   |own _ _ _ _ b cap m ad hb hl ha=>rw[h1]at hb;cases hb
   |ownNil _ _ _=>rfl
  ·refine⟨_,h1,by simp,.inr ⟨b,cap,vs,T,rfl,h2,h3,h4,h5,h6,?_⟩⟩
   generalize hmm:a.size=mm at hv0 h1
   cases hv0 with
   |x _ _ h=>cases h
   |own _ _ _ _ b' cap' m ad hb hl ha=>
    rw[h1]at hb;cases hb
    rcases ha with rfl|ha
    ·rw[Nat.zero_mul];rfl
    ·omega
   |ownNil _ _ hb=>rw[h1]at hb;cases hb
 --the other blocks
 let isB:Nat->Prop:=fun k=> ∀c n,x≠ .blk k c n
 let kz:=keptL w B.n isB
 let z0:Cx0:=cxW w B.n kz
 have hsize:z0.heap.size=B.n:=Yry hB
 have hfree1:∀b,Free bs b->Free [x] b:=fun b hb j b' c n hj=>by
  cases j with
  |zero=>simp only[YH9,Option.some.injEq]at hj;subst hj;exact hb i b' c n hbi
  |succ j=>simp at hj
 let D0:Nat->Option IK:=z0.I
 let B0:Bd:=(z0.wI D0 (Yam z0)).bd
 have hB0n:B0.n=B.n:=hsize
 have hFr:∀b,Fr B bs b->Fr B0 [x] b:=fun b hb=>⟨hfree1 b hb.1,trivial,rfl⟩
 have hargs:RepL w [x] B0 (.own 0 0 a.size 1::rest) (v0::vs'):=by
  refine .cons _ _ _ _ ?_ (RepL.quiet hB0n hFr hvs hquiet)
  rcases hcase with⟨rfl,_,h3,rfl⟩ | ⟨b,cap,vs,T,rfl,_,_,_,_,_,rfl⟩
  ·rw[h3];exact .ownNil _ _ rfl
  ·exact Rep.own 0 0 _ 1 b cap a.size ⟨b,0,none⟩ rfl (by omega) (.inl (by rw[Nat.zero_mul]))
 have hhp:Hp w [x] B0 [.own z 1 a.size (arrC a)]:=by
  refine⟨rfl,fun j=>?_,fun j k b c n c' n' h1 h2=>?_,fun j b c n h1=>?_,fun b K hb=>by cases hb⟩
  ·cases j with
   |zero=>
    rcases hcase with⟨rfl,h2,h3,_⟩ | ⟨b,cap,vs,T,rfl,h2,h3,h4,h5,h6,_⟩
    ·exact .inl ⟨rfl,h2,h3⟩
    ·refine .inr ⟨b,cap,vs,T,rfl,h2,h3,h4,h5,fun k hk=>?_⟩
     have:=h6 k hk
     rw[hget k hk]at this
     exact Yq3 this
   |succ j=>exact .inr (by simp)
  ·cases j <;> cases k <;> simp at h1 h2⊢
  ·cases j with
   |zero=>
    simp only[YH9,Option.some.injEq]at h1
    subst h1
    have:=hH.lo i b c n hbi
    exact⟨by rw[hB0n];exact this.1,this.2⟩
   |succ j=>simp at h1
 have hbel:BelowI B0 z0.toWorld w:=⟨rfl,rfl,rfl,by rw[hsize];exact hB,fun k hk _=>(Yen (by rw[<-hB0n];exact hk)).symm⟩
 have hoth:Oth w [x] B0 kz [[],[]]:=by
  refine⟨fun y hy=>?_,YvQ _ _ _,[[],[]],rfl,by simp,fun D hD=>by simp at hD⟩
  obtain⟨h1,h2,h3⟩:=Yr7 hy
  refine⟨by rw[hB0n];exact h1,fun j b' c n hj he=>?_,h3,rfl⟩
  cases j with
  |zero=>simp only[YH9,Option.some.injEq]at hj;subst he;exact h2 c n hj
  |succ j=>simp at hj
 obtain⟨body,hbody,hcode,hres,hnt⟩:=Ydl hvf
 refine Ycp (n:=0) (Yez (b:=vf.body) hf hbody ?_)
 let Post:Ending->World->Prop:=fun e w'=> ∃(a':Array Int) (x:c.ρ) (bs':List BK) (v:Value),a'.size=a.size/\c.R rest a a' x/\e= .returned v/\Rep w' bs' B (c.res x) v/\Hp w' bs' B (setH hp i (.own z 1 a.size (arrC a')))/\Keeps w bs w' bs'/\Stays none bs bs'/\Below B w w'
 let sa:Act:={ tmps:= #[v0,undef],defers:=[]}
 let I:S->Prop:=fun s=> ∃(a':Array Int) (x:c.ρ) (get':Nat->List SV) (hs:List HO),s.fr=[.own 0 0 a.size 1,c.res x]/\s.hp= .own z 1 a.size get'::hs/\(∀k,k<a.size->get' k=arrC a' k)/\a'.size=a.size/\c.R rest a a' x
 let J:Act->World->Prop:=fun a1 w'=> ∀v,a1.tmps.toList=[v0,v]->Post (.returned v) w'
 have hJ:∀s a1 w' D (hD:Ext z0 D),I s->Rl ⟨z0.wI D hD,kz⟩ s a1 [] w'->J a1 w':=by
  rintro s a1 w' D hD ⟨a',y,get',hs,hfr,hhs,hget',hsz',hR⟩ ⟨bs1,hf1,_,hH1,hb1,ho1⟩ v hv
  rw[hfr,hv]at hf1
  obtain⟨u0,l0,e0,g0,hf1⟩:=hf1.cons_inv
  cases e0
  obtain⟨u1,l1,e1,g1,hf1⟩:=hf1.cons_inv
  cases e1
  have hent1:=hH1.ent 0
  rw[hhs]at hent1
  have hbs1:bs1[0]? =some x:=by
   generalize hmm:a.size=mm at g0 hcase
   rcases hcase with⟨rfl,h2,h3,rfl⟩ | ⟨b,cap,vs,T,rfl,h2,h3,h4,h5,h6,rfl⟩
   ·subst h3
    cases g0 with
    |x _ _ h=>cases h
    |ownNil _ _ hb=>exact hb
   ·cases g0 with
    |x _ _ h=>cases h
    |own _ _ _ _ b' cap' m ad hb hl ha=>
     rcases hent1 with⟨q1,_,_⟩ | ⟨b2,cap2,vs2,T2,q1,_⟩
     ·rw[hb]at q1;cases q1
     ·rw[hb]at q1;cases q1
      rcases ha with ha|ha
      ·cases ha
       rw[hmm]at hb
       exact hb
      ·omega
  have hkeep:Keeps w bs w' bs:=by
   intro b hfb o hbo
   refine⟨?_,hfb⟩
   rcases YHA b B.n with hb|hb
   ·have h1:=hb1.block b (by show b<z0.heap.size;rw[hsize];exact hb) ((hD.old b (by rw[hsize];exact hb)).trans rfl)
    rw[h1]
    exact(Yen hb).trans hbo
   ·exact(ho1.kn (b,o) (Yjj hbo hb (fun c n he=>hfb i b c n (by rw[hbi,he]) rfl))).2.2.1
  have hbelow:Below B.n w w':=by
   have h2:=hb1.size
   refine⟨hb1.os,hb1.tape,hb1.output,?_,fun k hk=>?_⟩
   ·rcases YH4 w.heap.size with h0|h0
    ·omega
    ·have hl:w.heap.size-1<w.heap.size:=by omega
     have ho:=Array.getElem?_eq_getElem hl
     by_cases hfb:Free bs (w.heap.size-1)
     ·have:=(YHy.1 (hkeep _ hfb _ ho).1).1
      omega
     ·rcases YHA (w.heap.size-1) B.n with hb|hb
      ·have:=(YHy.1 ((hb1.block _ (by show _<z0.heap.size;rw[hsize];exact hb) ((hD.old _ (by rw[hsize];exact hb)).trans rfl)).trans ((Yen hb).trans ho))).1
       omega
      ·by_cases hxb:isB (w.heap.size-1)
       ·have:=(YHy.1 (ho1.kn _ (Yjj ho hb hxb)).2.2.1).1
        omega
       ·have hxb:∃c n,x= .blk (w.heap.size-1) c n:=by
         refine Classical.byContradiction fun hc=>hxb fun c n he=>hc ⟨c,n,he⟩
        obtain⟨c,n,rfl⟩:=hxb
        have:=(hH1.lo 0 _ _ _ hbs1).2
        omega
   ·have h1:=hb1.block k (by show k<z0.heap.size;rw[hsize];exact hk) ((hD.old k (by rw[hsize];exact hk)).trans rfl)
    rw[h1]
    exact Yen hk
  refine⟨a',y,bs,_,hsz',hR,rfl,Yzx (hfl y) g1,?_,hkeep,fun _ _ _ h _=>h,hbelow⟩
  have hil:i<lenH hp:=by rw[<-hH.len];exact(List.getElem?_eq_some_iff.1 hbi).1
  refine⟨by rw[YbM];exact hH.len,fun j=>?_,hH.inj,fun j b c n hj=>?_,fun b K hK=>?_⟩
  ·by_cases hji:i=j
   ·subst hji
    rw[Yav _ _ _ hil]
    rcases hent1 with⟨q1,q2,q3⟩ | ⟨b,cap,vs,T,q1,q2,q3,q4,q5,q6⟩
    ·rw[hbs1]at q1;cases q1
     exact .inl ⟨hbi,q2,q3⟩
    ·rw[hbs1]at q1;cases q1
     refine .inr ⟨b,cap,vs,T,hbi,q2,q3,q4,q5,fun k hk=>?_⟩
     have:=q6 k hk
     rw[hget' k hk]at this
     exact Yq3 this
   ·rw[YI _ _ _ _ hji]
    refine(hH.ent j).keep hkeep (fun _ _ _ h _=>h) rfl fun b c n hbj=>?_
    have hlo:=hH.lo j b c n hbj
    have ho:=Array.getElem?_eq_getElem hlo.2
    rw[ho]
    exact(ho1.kn _ (Yjj ho hlo.1 (fun c' n' he=>hji (hH.inj i j b c' n' c n (by rw[hbi,he]) hbj)))).2.2.1
  ·have:=hH.lo j b c n hj
   exact⟨this.1,YIa this.2 hbelow.size⟩
  ·obtain⟨h1,o,h2,h3⟩:=hH.reg b K hK
   exact⟨h1,o,(hkeep b h1 o h2).1,h3⟩
 have hS:SatG P z0:=by
  intro g l hg
  have hlt:=hgl g l hg
  obtain⟨_,cs,T,fz,h1,h2⟩:=hG g l hg
  exact⟨by rw[hsize];exact hlt,trivial,cs,T,fz,(Yen hlt).trans h1,h2⟩
 refine Ylq (w0:=z0) (fn0:=fn) (R0:=Post) hE hS hres (fun r hp v w' bs D hD hf=>hf.elim) n _ _ hrun [sa] kz none _
  {tmps:=(v0::vs').toArray++Array.replicate (fn.ntmps-(v0::vs').toArray.size) undef,defers:=[]} w
  (.code body vf.body _ _ _ _ _ hcode (.frame (some 1) vf.res fn sa _ _ _ _ (Exit.then J (bodyPostM (Wd none) 0 P fn Post)) Post hres (fun v w' hv=>hv v rfl) (.inLoop I J [] [] kz none _ hJ .nil))) (D:=D0) (hD:=Yam z0) ?_
 refine⟨[x],?_,.cons _ _ _ _ ?_ .nil,hhp,hbel,hoth⟩
 ·have:=Yfb (n:=fn.ntmps) hargs
  rw[hnt]
  have h2:RepL w [x] B0 (padL fn.ntmps (.own 0 0 a.size 1::rest)) ((v0::vs').toArray++Array.replicate (fn.ntmps-(v0::vs').toArray.size) undef).toList:=by simpa using this
  exact h2
 ·obtain⟨_,_,e,g,_⟩:=hargs.cons_inv
  cases e
  exact .cons _ _ _ _ g (.cons _ _ _ _ (.x _ _ (.junk _)) .nil)
end Go.Vx
namespace Go.Proofs.YtlfhmpkopcnheaaGreat
open Go Go.Vx
set_option maxRecDepth 100000
set_option maxHeartbeats 4000000
def v75:VF:=⟨20,[.tmp 4],(ZR [Zi 4 0] (ZR [Zm 7 0,Zc 8 111 7,Zm 5 8] (ZR [Zm 9 1,Zc 10 111 9,Zm 6 10] (.seq (ZR [Zm 11 5] (ZC 11 (.seq (ZR [Zm 12 6] (ZC 12 (ZR [Zi 4 0] .ret) .skip)) (ZR [Zi 4 (-1)] .ret)) .skip)) (.seq (ZR [Zm 13 6] (ZC 13 (ZR [Zi 4 1] .ret) .skip)) (.seq (ZR [Zm 14 0,Zm 15 1,Zr 16 .lss 14 15] (ZC 16 (ZR [Zi 4 (-1)] .ret) .skip)) (.seq (ZR [Zm 17 0,Zm 18 1,Zr 19 .gtr 17 18] (ZC 19 (ZR [Zi 4 1] .ret) .skip)) (ZR [Zi 4 0] .ret))))))))⟩
theorem YGI:Ye YHk Tryz.f75=some v75:=by kernel_rfl
def v76:VF:=⟨20,[.tmp 4],(ZR [Zi 4 0] (ZR [Zm 7 0,Zc 8 112 7,Zm 5 8] (ZR [Zm 9 1,Zc 10 112 9,Zm 6 10] (.seq (ZR [Zm 11 5] (ZC 11 (.seq (ZR [Zm 12 6] (ZC 12 (ZR [Zi 4 0] .ret) .skip)) (ZR [Zi 4 (-1)] .ret)) .skip)) (.seq (ZR [Zm 13 6] (ZC 13 (ZR [Zi 4 1] .ret) .skip)) (.seq (ZR [Zm 14 0,Zm 15 1,Zr 16 .lss 14 15] (ZC 16 (ZR [Zi 4 (-1)] .ret) .skip)) (.seq (ZR [Zm 17 0,Zm 18 1,Zr 19 .gtr 17 18] (ZC 19 (ZR [Zi 4 1] .ret) .skip)) (ZR [Zi 4 0] .ret))))))))⟩
theorem YGJ:Ye YHk Tryz.f76=some v76:=by kernel_rfl
def v111:VF:=⟨6,[.tmp 2],(ZR [u1 2 .mov [.cn (.bool false)]] (ZR [Zm 3 0,Zm 4 0,Zr 5 .neq 3 4,Zm 2 5] .ret))⟩
theorem YBq:Ye YHk Tryz.f111=some v111:=by kernel_rfl
def v112:VF:=⟨6,[.tmp 2],(ZR [u1 2 .mov [.cn (.bool false)]] (ZR [Zm 3 0,Zm 4 0,Zr 5 .neq 3 4,Zm 2 5] .ret))⟩
theorem YBr:Ye YHk Tryz.f112=some v112:=by kernel_rfl
def v74:VF:=⟨18,[.tmp 2],(ZR [Zi 2 0] (ZR [Zi 3 0] (.seq (ZR [Zm 6 0,Zl 7 6,Zi 8 0] (.block 0 (.loop (ZR [Zr 9 .lss 8 7] (.seq (ZC 9 .skip (.exit 0)) (.seq (.block 1 (ZR [Zx 10 1 6 8,Zf 11 1 10,Zm 5 11] (ZR [Zm 12 5,Zm 13 3,Zr 14 .neq 12 13] (ZC 14 (ZR [Zm 15 5,Zm 2 15] .ret) .skip)))) (.region [Zp 16 8 1,Zm 8 16]))))))) (ZR [Zm 17 3,Zm 2 17] .ret))))⟩
theorem YGH:Ye YHk Tryz.f74=some v74:=by kernel_rfl
def v38:VF:=⟨38,[.tmp 6],(ZR [u1 3 .box [.tm 0],Zi 6 0] (.seq (.draw [] [Zy 7 3 3,Zv 8 1 7,Zu 9 2,ZX 10 2 8 9,Zy 11 1 10,Zv 12 1 11,Zy 13 3 3,Zv 14 1 13,Zu 15 1,ZX 16 2 14 15,Zy 17 1 16,Zv 18 1 17,Zy 20 3 3,Zv 21 1 20,Zu 22 2,ZX 23 2 21 22,Zy 24 0 23,Zv 25 1 24,Zy 26 3 3,Zv 27 1 26,Zu 28 1,ZX 29 2 27 28,Zy 30 0 29,Zv 31 1 30,Zu 33 1,Zu 34 2,Zz 19 75 12 18,Zz 32 75 25 31,Zz 35 76 33 34,w1 36 (.buildSlice 1 3 [(.int .i64 0)] [(0,1),(1,1),(2,1)]) [.tm 19,.tm 32,.tm 35],w1 37 (.call 74) [.tm 36],Zu 6 37]) .ret))⟩
theorem YF8:Ye YHk Tryz.f38=some v38:=by kernel_rfl
def cmpS(x y:Int):Int:=if x<y then -1 else if y<x then 1 else 0
def orS:List Int->Int
 | []=>0
 |x::l=>if x≠0 then x else orS l
theorem YEq{l:List Int}{i:Nat}(hi:i<l.length)(h:∀j,j<i->l.getD j 0=0)(hx:l.getD i 0≠0):orS l=l.getD i 0:=by
 induction l generalizing i with
 |nil=>simp at hi
 |cons x l ih=>
  cases i with
  |zero=>have:x≠0:=hx;simp only[orS,if_pos this];rfl
  |succ i=>
   have h0:x=0:=h 0 (Nat.succ_pos _)
   simp only[orS,h0,ne_eq,not_true_eq_false,if_false]
   exact ih (by simpa using hi) (fun j hj=>h (j+1) (by omega)) hx
theorem Ywd{l:List Int}(h:∀j,j<l.length->l.getD j 0=0):orS l=0:=by
 induction l with
 |nil=>rfl
 |cons x l ih=>
  have h0:x=0:=h 0 (by simp)
  simp only[orS,h0,ne_eq,not_true_eq_false,if_false]
  exact ih (fun j hj=>h (j+1) (by simpa using hj))
def cmpSC:Ctr:={ alias:=false,of:=fun l=>match l with
 | [.int .i64 x,.int .i64 y]=> .fin (.int .i64 (cmpS x y)) []
 |_=> .pre False (.fin (.int .i64 0) [])}
def SO0:Env:={ ct:=fun _=>none,fn:=fun n=>match n with|111=>some v111|112=>some v112|_=>none,meth:=fun _ _=>none}
theorem Yj8:SO0.ct 111=none:=rfl
theorem Yka:SO0.fn 111=some v111:=rfl
theorem Yj9:SO0.ct 112=none:=rfl
theorem Ykb:SO0.fn 112=some v112:=rfl
theorem Yw4:Yn YHk SO0:=by
 refine⟨fun f c h=>?_,fun f vf h=>?_,(fun _ _ _ h=>by cases h),by kernel_rfl,(fun _ h=>by cases h),(fun _ _ h=>by cases h)⟩
 ·cases h
 ·simp only[SO0]at h
  split at h
  ·cases h;exact⟨Tryz.f111,Tryz.func111,YBq,Tryz.f111,Tryz.func111,by kernel_rfl,by kernel_rfl⟩
  ·cases h;exact⟨Tryz.f112,Tryz.func112,YBr,Tryz.f112,Tryz.func112,by kernel_rfl,by kernel_rfl⟩
  ·cases h
theorem Ywx:cmpSC.ok YHk 75:=by
 refine Yb Tryz.func75 YGI Yw4 600 cmpSC fun args k h=>?_
 simp only[cmpSC]at h
 split at h
 ·rename_i x y
  refine⟨[.int .i64 x,.int .i64 y],by simp [leL,le],?_⟩
  have h:k (.int .i64 (cmpS x y)) []:=h
  dsimp only[v75,v76,Yj8,Yka,v111,Yj9,Ykb,v112,go_sem,reduceIte,YHf]
  simp only[Yc,YHf,YHh,reduceCtorEq,YHg]
  unfold cmpS at h
  refine⟨fun hh=>absurd trivial hh,fun hh=>absurd trivial hh,fun c=>?_,fun c=>⟨fun d=>?_,fun d=>?_⟩⟩
  ·rw[if_pos c]at h;exact Yj h
  ·rw[if_neg c,if_pos d]at h;exact Yj h
  ·rw[if_neg c,if_neg d]at h;exact Yj h
 ·exact h.1.elim
theorem YA4:cmpSC.ok YHk 76:=by
 refine Yb Tryz.func76 YGJ Yw4 600 cmpSC fun args k h=>?_
 simp only[cmpSC]at h
 split at h
 ·rename_i x y
  refine⟨[.int .i64 x,.int .i64 y],by simp [leL,le],?_⟩
  have h:k (.int .i64 (cmpS x y)) []:=h
  dsimp only[v75,v76,Yj8,Yka,v111,Yj9,Ykb,v112,go_sem,reduceIte,YHf]
  simp only[Yc,YHf,YHh,reduceCtorEq,YHg]
  unfold cmpS at h
  refine⟨fun hh=>absurd trivial hh,fun hh=>absurd trivial hh,fun c=>?_,fun c=>⟨fun d=>?_,fun d=>?_⟩⟩
  ·rw[if_pos c]at h;exact Yj h
  ·rw[if_neg c,if_pos d]at h;exact Yj h
  ·rw[if_neg c,if_neg d]at h;exact Yj h
 ·exact h.1.elim
def orSC:Ctr:={ alias:=false,of:=fun l=>match l with
 | [.vs _ _ n sz get]=> .ex (List Int) fun l=> .pre (lsP 1 enc1 n sz get l/\n<=1000000) (.fin (.int .i64 (orS l)) [])
 |_=>noC}
def SO2:Env:={ ct:=fun _=>none,fn:=fun _=>none,meth:=fun _ _=>none}
theorem YCZ:Yn YHk SO2:=by
 refine⟨fun f c h=>?_,fun f vf h=>?_,(fun _ _ _ h=>by cases h),by kernel_rfl,(fun _ h=>by cases h),(fun _ _ h=>by cases h)⟩
 ·cases h
 ·cases h
theorem YFx:orSC.ok YHk 74:=by
 refine Yb Tryz.func74 YGH YCZ 300 orSC fun args k h=>?_
 simp only[orSC]at h
 split at h
 ·rename_i tt z n sz get
  obtain⟨l,⟨⟨rfl,rfl,hg⟩,hn⟩,h⟩:=h
  refine⟨[.vs tt z l.length 1 (fun k=>enc1 (l.getD k default))],⟨⟨id,rfl,rfl,rfl,hg⟩,trivial⟩,?_⟩
  have h:k (.int .i64 (orS l)) []:=h
  dsimp only[v74,enc1,go_sem,reduceIte,YHf]
  simp only[Yc,YHf,YHh,reduceCtorEq,YHg]
  refine Loop.keep [3,2,0] Nat (fun i=>[(8,.int .i64 i)]) (fun _=>[]) [] (fun i=>i<=l.length/\∀j,j<i->l.getD j 0=0) (fun i=>l.length-i) ?_ ?_
  ·refine⟨0,⟨by omega,fun j hj=>by omega⟩,?_⟩
   dsimp only[go_sem,reduceIte,YHf]
   simp only[Ya]
   rfl
  ·rintro i ⟨hi,hall⟩
   dsimp only[enc1,YHj,go_sem,reduceIte,YHf]
   simp only[Yc,YHf,YHh,reduceCtorEq,YHg]
   refine⟨fun hlt=>⟨⟨by omega,by omega⟩,fun hc=>?_,fun hc=>⟨i+1,⟨by omega,fun j hj=>?_⟩,by omega,?_⟩⟩,fun hge=>?_⟩
   ·rw[YEq (by omega) hall hc]at h;exact Yj h
   ·rcases YHA j i with h1|h1
    ·exact hall j h1
    ·obtain rfl:j=i:=by omega
     exact hc
   ·rw[YHi ((i:Int)+1) (by omega)]
    simp only[Ya]
    simp
   ·obtain rfl:i=l.length:=by omega
    rw[Ywd hall]at h;exact Yj h
 ·exact h.1.elim
def encK(c:Cut):List SV:=[.int .i64 c.w,.int .i64 c.h]
def befS(l:List Cut)(a b:Int):Int:=orS [cmpS (l.getD b.toNat default).h (l.getD a.toNat default).h,cmpS (l.getD b.toNat default).w (l.getD a.toNat default).w,cmpS a b]
def befC:Ctr:={ alias:=false,of:=fun l=>match l with
 | [.agg [.int .i64 W,.int .i64 H,.int .i64 K,.vs _ z n sz get],.int .i64 a,.int .i64 b]=> .ex (List Cut) fun l=> .pre (lsP 2 encK n sz get l/\(0<=a/\a<n)/\(0<=b/\b<n)) (.fin (.int .i64 (befS l a b)) [])
 |_=> .pre False (.fin (.int .i64 0) [])}
def SO3:Env:={ ct:=fun n=>match n with|75=>some cmpSC|76=>some cmpSC|74=>some orSC|_=>none,fn:=fun _=>none,meth:=fun _ _=>none}
theorem YuX:SO3.ct 75=some cmpSC:=rfl
theorem YuY:SO3.ct 76=some cmpSC:=rfl
theorem YuW:SO3.ct 74=some orSC:=rfl
theorem YC0:Yn YHk SO3:=by
 refine⟨fun f c h=>?_,fun f vf h=>?_,(fun _ _ _ h=>by cases h),by kernel_rfl,(fun _ h=>by cases h),(fun _ _ h=>by cases h)⟩
 ·simp only[SO3]at h
  split at h
  ·cases h;exact⟨Ywx,Tryz.f75,Tryz.func75,by kernel_rfl,by kernel_rfl⟩
  ·cases h;exact⟨YA4,Tryz.f76,Tryz.func76,by kernel_rfl,by kernel_rfl⟩
  ·cases h;exact⟨YFx,Tryz.f74,Tryz.func74,by kernel_rfl,by kernel_rfl⟩
  ·cases h
 ·cases h
theorem YlQ:befC.ok YHk 38:=by
 refine Yb Tryz.func38 YF8 YC0 600 befC fun args k h=>?_
 simp only[befC]at h
 split at h
 ·rename_i W H K tt z n sz get a b
  obtain⟨l,⟨⟨rfl,rfl,hg⟩,⟨ha0,ha1⟩,hb0,hb1⟩,h⟩:=h
  refine⟨[.agg [.int .i64 W,.int .i64 H,.int .i64 K,.vs tt z l.length 2 (fun k=>encK (l.getD k default))],.int .i64 a,.int .i64 b],⟨⟨⟨rfl,rfl⟩,⟨rfl,rfl⟩,⟨rfl,rfl⟩,⟨id,rfl,rfl,rfl,hg⟩,trivial⟩,⟨rfl,rfl⟩,⟨rfl,rfl⟩,trivial⟩,?_⟩
  have h:k (.int .i64 (befS l a b)) []:=h
  dsimp only[v38,YuX,YuY,YuW,cmpSC,orSC,encK,go_sem,reduceIte,YHf]
  simp only[Yc,YHf,YHh,reduceCtorEq,YHg]
  refine⟨⟨hb0,hb1⟩,⟨ha0,ha1⟩,⟨hb0,hb1⟩,⟨ha0,ha1⟩,by decide,[cmpS (l.getD b.toNat default).h (l.getD a.toNat default).h,cmpS (l.getD b.toNat default).w (l.getD a.toNat default).w,cmpS a b],⟨rfl,rfl,fun k hk=>?_⟩,Yj h⟩
  match k,hk with
  |0,_=>exact⟨⟨rfl,rfl⟩,trivial⟩
  |1,_=>exact⟨⟨rfl,rfl⟩,trivial⟩
  |2,_=>exact⟨⟨rfl,rfl⟩,trivial⟩
 ·exact h.1.elim
def ltS(l:List Cut)(x y:Int):Bool:=decide (befS l x y<0)
theorem YiO{x y:Int}:cmpS x y<0↔x<y:=by unfold cmpS;split <;> (try split) <;> omega
theorem Ygx{x y:Int}:cmpS x y=0↔x=y:=by unfold cmpS;split <;> (try split) <;> omega
theorem Ysv{l:List Cut}{x y:Int}:ltS l x y=true↔((l.getD y.toNat default).h<(l.getD x.toNat default).h\/(l.getD y.toNat default).h=(l.getD x.toNat default).h/\((l.getD y.toNat default).w<(l.getD x.toNat default).w\/(l.getD y.toNat default).w=(l.getD x.toNat default).w/\x<y)):=by
 unfold ltS befS
 rw[decide_eq_true_eq]
 have h1:= @YiO (l.getD y.toNat default).h (l.getD x.toNat default).h
 have h2:= @Ygx (l.getD y.toNat default).h (l.getD x.toNat default).h
 have h3:= @YiO (l.getD y.toNat default).w (l.getD x.toNat default).w
 have h4:= @Ygx (l.getD y.toNat default).w (l.getD x.toNat default).w
 have h5:= @YiO x y
 have h6:= @Ygx x y
 simp only[orS]
 generalize cmpS (l.getD y.toNat default).h (l.getD x.toNat default).h=c1 at*
 generalize cmpS (l.getD y.toNat default).w (l.getD x.toNat default).w=c2 at*
 generalize cmpS x y=c3 at*
 split
 ·omega
 ·split
  ·omega
  ·split <;> omega
theorem YgU{l:List Cut}{x y:Int}:ltS l x y=false↔¬((l.getD y.toNat default).h<(l.getD x.toNat default).h\/(l.getD y.toNat default).h=(l.getD x.toNat default).h/\((l.getD y.toNat default).w<(l.getD x.toNat default).w\/(l.getD y.toNat default).w=(l.getD x.toNat default).w/\x<y)):=by
 rw[<-Ysv,YIp]
theorem Y5(l:List Cut):Go.Sort.SWO (ltS l) where
 irrefl x:=by rw[YgU];omega
 trans x y z h1 h2:=by rw[Ysv]at*;omega
 ntrans x y z h1 h2:=by rw[YgU]at*;omega
def outS(n lo hi:Int):Bool:=decide (n<lo) || decide (hi<n)
def wrgS(c:Cut):Bool:=outS c.w 1 20000000|| outS c.h 1 20000000
def larS(p:Pla)(c:Cut):Bool:=decide (p.w<c.w) || decide (p.h<c.h)
def YdY(p:Pla)(l:List Cut)(most:Int):Int:=if most<l.length then 3 else if(wrgS ⟨p.w,p.h⟩ || outS p.k 0 50000|| l.any wrgS)=true then 2 else 0
theorem Ygv{p:Pla}{l:List Cut}{most:Int}(h:YdY p l most=0):(l.length:Int)<=most/\(1<=p.w/\p.w<=20000000)/\(1<=p.h/\p.h<=20000000)/\(0<=p.k/\p.k<=50000)/\∀i,i<l.length->(1<=(l.getD i default).w/\(l.getD i default).w<=20000000)/\1<=(l.getD i default).h/\(l.getD i default).h<=20000000:=by
 unfold YdY at h
 split at h
 ·cases h
 ·split at h
  ·cases h
  ·rename_i h1 h2
   rw[YIp,YHp,YHp]at h2
   obtain⟨⟨a1,a5⟩,a7⟩:=h2
   simp only[YHp,wrgS,outS,decide_eq_false_iff_not]at a1 a5
   refine⟨by omega,by omega,by omega,by omega,fun i hi=>?_⟩
   have:=YHP.1 a7 _ (Yh hi)
   simp only[YIp,YHp,wrgS,outS,decide_eq_false_iff_not]at this
   omega
def v21:VF:=⟨15,[.tmp 6],(ZR [u1 6 .mov [.cn (.bool false)]] (ZR [Zm 7 0,Zm 8 1,Zr 9 .lss 7 8,Zm 10 9,Zg 11 10 false 0,Zg 12 10 false 2,u2 13 10 false (.cmp .gtr) [.tm 11,.tm 12],u1 14 .or [.tm 10,.tm 13],Zm 6 14] .ret))⟩
theorem YFR:Ye YHk Tryz.f21=some v21:=by kernel_rfl
def v69:VF:=⟨11,[.tmp 2],(ZR [u1 1 .box [.tm 0],u1 2 .mov [.cn (.bool false)]] (ZR [Za 3 0 1,Zf 4 1 3,u1 5 (.call 21) [.tm 4,.cn (.int .i64 1),.cn (.int .i64 20000000)],Zm 6 5,Zj 7 6 false 1 1,Zh 8 6 false 1 7,u2 9 6 false (.call 21) [.tm 8,.cn (.int .i64 1),.cn (.int .i64 20000000)],u1 10 .or [.tm 6,.tm 9],Zm 2 10] .ret))⟩
theorem YGD:Ye YHk Tryz.f69=some v69:=by kernel_rfl
def v70:VF:=⟨9,[.tmp 4],(ZR [u1 4 .mov [.cn (.bool false)]] (ZR [Zm 5 0,Zm 6 1,Zd 7 100 5 6,Zq 8 .geq 7 0,Zm 4 8] .ret))⟩
theorem YxT:Ye YHk Tryz.f70=some v70:=by kernel_rfl
def v100:VF:=⟨19,[.tmp 4],(ZR [Zi 4 0] (.seq (ZR [Zm 6 0,Zl 7 6,Zi 8 0] (.block 0 (.loop (ZR [Zr 9 .lss 8 7] (.seq (ZC 9 .skip (.exit 0)) (.seq (.block 1 (ZR [Zm 10 8,Zm 5 10] (ZR [Zm 11 1,Zm 12 0,Zm 13 5,Zx 14 2 12 13,Zt 15 2 14,u1 16 .callv [.tm 11,.tm 15]] (ZC 16 (ZR [Zm 17 5,Zm 4 17] .ret) .skip)))) (.region [Zp 18 8 1,Zm 8 18]))))))) (ZR [Zi 4 (-1)] .ret)))⟩
theorem YtI:Ye YHk Tryz.f100=some v100:=by kernel_rfl
def v35:VF:=⟨31,[.tmp 4],(ZR [u1 2 .box [.tm 0],Zi 4 0] (.seq (.block 0 (ZR [Za 6 3 2,Zf 7 1 6,Zl 8 7,Zm 9 1,Zr 10 .gtr 8 9,Zm 5 10] (ZC 5 (ZR [Zi 4 3] .ret) (ZR [Za 12 0 2,Za 13 0 12,Zf 14 1 13,Za 15 0 2,Za 16 1 15,Zf 17 1 16,u1 18 (.build [(.int .i64 0),(.int .i64 0)] [(0,1),(1,1)]) [.tm 14,.tm 17],Zc 19 69 18,Zm 20 19,Zj 21 20 false 0 2,Zj 22 20 false 2 21,Zh 23 20 false 1 22,u2 24 20 false (.call 21) [.tm 23,.cn (.int .i64 0),.cn (.int .i64 50000)],u1 25 .or [.tm 20,.tm 24],Zm 26 25,Zj 27 26 false 3 2,Zh 28 26 false 1 27,u2 29 26 false (.call 70) [.tm 28,.cn (.fn (.func 69) [] [])],u1 30 .or [.tm 26,.tm 29],Zm 11 30] (ZC 11 (ZR [Zi 4 2] .ret) .skip))))) (ZR [Zi 4 0] .ret)))⟩
theorem YF5:Ye YHk Tryz.f35=some v35:=by kernel_rfl
def v36:VF:=⟨7,[.tmp 2],(ZR [u1 1 .box [.tm 0],u1 2 .mov [.cn (.bool false)]] (ZR [Za 3 3 1,Zf 4 1 3,u1 5 (.mkfn (.func 71) 0) [.tm 1],Zd 6 70 4 5,Zm 2 6] .ret))⟩
theorem YF6:Ye YHk Tryz.f36=some v36:=by kernel_rfl
def v71:VF:=⟨18,[.tmp 3],(ZR [u1 2 .box [.tm 0],u1 3 .mov [.cn (.bool false)]] (ZR [Za 4 0 2,Zf 5 1 4,Za 6 0 1,Za 7 0 6,Zf 8 1 7,Zr 9 .gtr 5 8,Zm 10 9,Zj 11 10 false 1 2,Zh 12 10 false 1 11,Zj 13 10 false 0 1,Zj 14 10 false 1 13,Zh 15 10 false 1 14,u2 16 10 false (.cmp .gtr) [.tm 12,.tm 15],u1 17 .or [.tm 10,.tm 16],Zm 3 17] .ret))⟩
theorem YGE:Ye YHk Tryz.f71=some v71:=by kernel_rfl
def v16:VF:=⟨55,[.tmp 4,.tmp 5],(ZR [u1 2 .box [.tm 0],Zi 4 0,Zi 5 0] (.seq (ZR [Zt 11 3 2,Zm 12 1,u1 13 (.build [(.int .i64 0),(.int .i64 0),(.int .i64 0),.nil] [(0,3),(3,1)]) [.tm 11,.tm 12],u1 14 (.call 35) [.tm 13,.cn (.int .i64 200)],Zm 6 14] (ZR [Zm 15 6,Zq 16 .neq 15 0] (ZC 16 (ZR [Zm 17 6,Zi 4 0,Zm 5 17] .ret) .skip))) (ZR [Zi 7 0] (.seq (ZR [Zm 18 1,Zl 19 18,Zi 20 0] (.block 0 (.loop (ZR [Zr 21 .lss 20 19] (.seq (ZC 21 .skip (.exit 0)) (.seq (.block 1 (ZR [Zx 22 2 18 20,Zt 23 2 22,Zn 9,Zs 2 9 23] (.region [Zm 24 7,Za 25 0 9,Zf 26 1 25,Za 27 2 2,Zf 28 1 27,Zo 29 .add 26 28,Za 30 1 9,Zf 31 1 30,Za 32 2 2,Zf 33 1 32,Zo 34 .add 31 33,Zo 35 .mul 29 34,Zo 36 .add 24 35,Zm 7 36]))) (.region [Zp 37 20 1,Zm 20 37]))))))) (ZR [Za 38 0 2,Zf 39 1 38,Za 40 2 2,Zf 41 1 40,Zo 42 .add 39 41,Za 43 1 2,Zf 44 1 43,Za 45 2 2,Zf 46 1 45,Zo 47 .add 44 46,Zo 48 .mul 42 47,Zm 10 48] (ZR [Zm 49 7,Zm 50 10,Zo 51 .add 49 50,u1 52 (.ari .sub) [.tm 51,.cn (.int .i64 1)],Zm 53 10,u1 54 .quo [.tm 52,.tm 53],Zm 4 54,Zi 5 0] .ret))))))⟩
theorem YFM:Ye YHk Tryz.f16=some v16:=by kernel_rfl
def soutC:Ctr:={ alias:=false,of:=fun l=>match l with
 | [.int .i64 n,.int .i64 lo,.int .i64 hi]=> .fin (.bool (outS n lo hi)) []
 |_=>noC}
def HS0:Env:={ ct:=fun _=>none,fn:=fun _=>none,meth:=fun _ _=>none}
theorem YCt:Yn YHk HS0:=by
 refine⟨fun f c h=>?_,fun f vf h=>?_,(fun _ _ _ h=>by cases h),by kernel_rfl,(fun _ h=>by cases h),(fun _ _ h=>by cases h)⟩
 ·cases h
 ·cases h
theorem Yol:soutC.ok YHk 21:=by
 refine Yb Tryz.func21 YFR YCt 100 soutC fun args k h=>⟨args,?_⟩
 simp only[soutC]at h
 split at h
 ·refine⟨by simp [leL,le],?_⟩
  dsimp only[v21,go_sem,reduceIte,YHf]
  simp only[Yc,YHf,YHh,reduceCtorEq,YHg]
  have h:k _ []:=h
  unfold outS at h
  exact Yi h
 ·exact h.1.elim
def wrgC:Ctr:={ alias:=false,of:=fun l=>match l with
 | [.agg [.int .i64 w,.int .i64 h]]=> .fin (.bool (wrgS ⟨w,h⟩)) []
 |_=>noC}
def HS1:Env:={ ct:=fun n=>match n with|21=>some soutC|_=>none,fn:=fun _=>none,meth:=fun _ _=>none}
theorem Yuh:HS1.ct 21=some soutC:=rfl
theorem YCu:Yn YHk HS1:=by
 refine⟨fun f c h=>?_,fun f vf h=>?_,(fun _ _ _ h=>by cases h),by kernel_rfl,(fun _ h=>by cases h),(fun _ _ h=>by cases h)⟩
 ·simp only[HS1]at h
  split at h
  ·cases h;exact⟨Yol,Tryz.f21,Tryz.func21,by kernel_rfl,by kernel_rfl⟩
  ·cases h
 ·cases h
theorem YHc:wrgC.ok YHk 69:=by
 refine Yb Tryz.func69 YGD YCu 100 wrgC fun args k h=>⟨args,?_⟩
 simp only[wrgC]at h
 split at h
 ·refine⟨by simp [leL,le],?_⟩
  dsimp only[v69,Yuh,soutC,go_sem,reduceIte,YHf]
  simp only[Yc,YHf,YHh,reduceCtorEq,YHg]
  have h:k _ []:=h
  unfold wrgS at h
  exact Yi h
 ·exact h.1.elim
def anyWC:Ctr:={ alias:=false,of:=fun l=>match l with
 | [.vs _ _ n sz get,.fn (.func g) [] []]=> .ex (List Cut) fun l=> .pre (lsP 2 encK n sz get l/\l.length<=1000000000000/\g=69) (.fin (.bool (l.any wrgS)) [])
 |_=> .pre False (.fin (.bool false) [])}
def HS2:Env:={ ct:=fun n=>match n with|69=>some wrgC|_=>none,fn:=fun n=>match n with|100=>some v100|_=>none,meth:=fun _ _=>none}
theorem Yui:HS2.ct 69=some wrgC:=rfl
theorem YpM:HS2.ct 100=none:=rfl
theorem YpN:HS2.fn 100=some v100:=rfl
theorem YCv:Yn YHk HS2:=by
 refine⟨fun f c h=>?_,fun f vf h=>?_,(fun _ _ _ h=>by cases h),by kernel_rfl,(fun _ h=>by cases h),(fun _ _ h=>by cases h)⟩
 ·simp only[HS2]at h
  split at h
  ·cases h;exact⟨YHc,Tryz.f69,Tryz.func69,by kernel_rfl,by kernel_rfl⟩
  ·cases h
 ·simp only[HS2]at h
  split at h
  ·cases h;exact⟨Tryz.f100,Tryz.func100,YtI,Tryz.f100,Tryz.func100,by kernel_rfl,by kernel_rfl⟩
  ·cases h
theorem YDf:anyWC.ok YHk 70:=by
 refine Yb Tryz.func70 YxT YCv 100 anyWC fun args k h=>?_
 simp only[anyWC]at h
 split at h
 ·rename_i t z n sz get g
  obtain⟨l,⟨⟨rfl,rfl,hg⟩,hl,rfl⟩,h⟩:=h
  refine⟨[.vs t z l.length 2 (fun k=>encK (l.getD k default)),.fn (.func 69) [] []],⟨by simpa [le]using hg,by simp [YgS,bndL],trivial⟩,?_⟩
  have h:k (.bool (l.any wrgS)) []:=h
  dsimp only[v70,v100,YpM,YpN,encK,go_sem,reduceIte,YHf]
  simp only[Yc,YHf,YHh,reduceCtorEq,YHg]
  obtain⟨F,hF⟩:∃F,F=wrgS:=⟨_,rfl⟩
  rw[<-hF]at h
  refine Loop.keep [0,0,5,0] Nat (fun i=>[(8,.int .i64 i)]) (fun _=>[]) [] (fun i=>i<=l.length/\∀j,j<i->F (l.getD j default)=false) (fun i=>l.length-i) ?_ ?_
  ·refine⟨0,⟨YHK _,fun j h=>by omega⟩,?_⟩
   dsimp only[go_sem,reduceIte,YHf]
   simp only[Ya]
   simp
  ·rintro i ⟨hi,ha⟩
   dsimp only[Yui,wrgC,encK,YHj,go_sem,reduceIte,YHf]
   simp only[Yc,YHf,YHh,reduceCtorEq,YHg]
   simp only[show wrgS ⟨(l.getD i default).w,(l.getD i default).h⟩=F (l.getD i default)by rw[hF]]
   refine⟨fun hlt=>⟨⟨by omega,hlt⟩,fun hb=>?_,fun hb=>?_⟩,fun hge=>?_⟩
   ·have e:l.any F=true:=YIt.2 ⟨_,Yh (by omega:i<l.length),hb⟩
    have e2:decide (0<=(i:Int))=true:=decide_eq_true (by omega)
    rw[e2]
    exact Yi (by rw[e]at h;exact h)
   ·refine⟨i+1,⟨by omega,fun j hj=>?_⟩,by omega,?_⟩
    ·rcases YHA j i with h'|h'
     ·exact ha j h'
     ·obtain rfl:j=i:=by omega
      exact hb
    ·simp only[Y0 (i:=i) (n:=l.length) (by omega) (by omega),Ya] <;> simp
   ·have e:l.any F=false:=YHP.2 fun x hx=>by
     obtain⟨j,hj,rfl⟩:=YQ hx
     rw[ha j (by omega)];simp
    exact Yi (by rw[e]at h;exact h)
 ·exact h.1.elim
def chkJC:Ctr:={ alias:=false,of:=fun l=>match l with
 | [.agg [.int .i64 W,.int .i64 H,.int .i64 K,.vs _ z n sz get],.int .i64 most]=> .ex (List Cut) fun l=> .pre (lsP 2 encK n sz get l/\n<=1000000000000) (.fin (.int .i64 (YdY ⟨W,H,K⟩ l most)) [])
 |_=>noC}
def HS3:Env:={ ct:=fun n=>match n with|21=>some soutC|69=>some wrgC|70=>some anyWC|_=>none,fn:=fun _=>none,meth:=fun _ _=>none}
theorem Yuj:HS3.ct 21=some soutC:=rfl
theorem Yuk:HS3.ct 69=some wrgC:=rfl
theorem Yul:HS3.ct 70=some anyWC:=rfl
theorem YCw:Yn YHk HS3:=by
 refine⟨fun f c h=>?_,fun f vf h=>?_,(fun _ _ _ h=>by cases h),by kernel_rfl,(fun _ h=>by cases h),(fun _ _ h=>by cases h)⟩
 ·simp only[HS3]at h
  split at h
  ·cases h;exact⟨Yol,Tryz.f21,Tryz.func21,by kernel_rfl,by kernel_rfl⟩
  ·cases h;exact⟨YHc,Tryz.f69,Tryz.func69,by kernel_rfl,by kernel_rfl⟩
  ·cases h;exact⟨YDf,Tryz.f70,Tryz.func70,by kernel_rfl,by kernel_rfl⟩
  ·cases h
 ·cases h
theorem Yrs:chkJC.ok YHk 35:=by
 refine Yb Tryz.func35 YF5 YCw 300 chkJC fun args k h=>?_
 simp only[chkJC]at h
 split at h
 ·rename_i W H K tt z n sz get most
  obtain⟨l,⟨⟨rfl,rfl,hg⟩,hn⟩,h⟩:=h
  have self:lsP 2 encK l.length 2 (fun k=>[SV.int IntKind.i64 (l.getD k default).w,SV.int IntKind.i64 (l.getD k default).h]) l:=⟨rfl,rfl,fun k _=>Yd _⟩
  refine⟨[.agg [.int .i64 W,.int .i64 H,.int .i64 K,.vs tt z l.length 2 (fun k=>encK (l.getD k default))],.int .i64 most],⟨⟨⟨rfl,rfl⟩,⟨rfl,rfl⟩,⟨rfl,rfl⟩,⟨id,rfl,rfl,rfl,hg⟩,trivial⟩,⟨rfl,rfl⟩,trivial⟩,?_⟩
  have h:k (.int .i64 (YdY ⟨W,H,K⟩ l most)) []:=h
  dsimp only[v35,Yuj,Yuk,Yul,soutC,wrgC,anyWC,encK,go_sem,reduceIte,YHf]
  simp only[Yc,YHf,YHh,reduceCtorEq,YHg]
  unfold YdY at h
  refine⟨fun h1=>?_,fun h1=>⟨l,fun _=>⟨self,hn⟩,fun h2=>?_,fun h2=>?_⟩⟩
  ·rw[if_pos h1]at h;exact Yj h
  ·rw[if_neg h1,if_pos h2]at h;exact Yj h
  ·rw[if_neg h1,if_neg (by rw[h2];exact Bool.false_ne_true)]at h;exact Yj h
 ·exact h.1.elim
def larC:Ctr:={ alias:=false,of:=fun l=>match l with
 | [.agg [.int .i64 W,.int .i64 H,.int .i64 K,.vs _ z n sz get]]=> .ex (List Cut) fun l=> .pre (lsP 2 encK n sz get l/\n<=1000000000000) (.fin (.bool (l.any (larS ⟨W,H,K⟩))) [])
 |_=>noC}
def HS4:Env:={ ct:=fun _=>none,fn:=fun n=>match n with|70=>some v70|100=>some v100|71=>some v71|_=>none,meth:=fun _ _=>none}
theorem Yum:HS4.ct 70=none:=rfl
theorem Yuo:HS4.fn 70=some v70:=rfl
theorem YpO:HS4.ct 100=none:=rfl
theorem YpP:HS4.fn 100=some v100:=rfl
theorem Yun:HS4.ct 71=none:=rfl
theorem Yup:HS4.fn 71=some v71:=rfl
theorem YCx:Yn YHk HS4:=by
 refine⟨fun f c h=>?_,fun f vf h=>?_,(fun _ _ _ h=>by cases h),by kernel_rfl,(fun _ h=>by cases h),(fun _ _ h=>by cases h)⟩
 ·cases h
 ·simp only[HS4]at h
  split at h
  ·cases h;exact⟨Tryz.f70,Tryz.func70,YxT,Tryz.f70,Tryz.func70,by kernel_rfl,by kernel_rfl⟩
  ·cases h;exact⟨Tryz.f100,Tryz.func100,YtI,Tryz.f100,Tryz.func100,by kernel_rfl,by kernel_rfl⟩
  ·cases h;exact⟨Tryz.f71,Tryz.func71,YGE,Tryz.f71,Tryz.func71,by kernel_rfl,by kernel_rfl⟩
  ·cases h
theorem lar_c:larC.ok YHk 36:=by
 refine Yb Tryz.func36 YF6 YCx 300 larC fun args k h=>?_
 simp only[larC]at h
 split at h
 ·rename_i W H K tt z n sz get
  obtain⟨l,⟨⟨rfl,rfl,hg⟩,hn⟩,h⟩:=h
  have self:lsP 2 encK l.length 2 (fun k=>[SV.int IntKind.i64 (l.getD k default).w,SV.int IntKind.i64 (l.getD k default).h]) l:=⟨rfl,rfl,fun k _=>Yd _⟩
  refine⟨[.agg [.int .i64 W,.int .i64 H,.int .i64 K,.vs tt z l.length 2 (fun k=>encK (l.getD k default))]],⟨⟨⟨rfl,rfl⟩,⟨rfl,rfl⟩,⟨rfl,rfl⟩,⟨id,rfl,rfl,rfl,hg⟩,trivial⟩,trivial⟩,?_⟩
  have h:k (.bool (l.any (larS ⟨W,H,K⟩))) []:=h
  dsimp only[v36,Yum,Yuo,YpO,YpP,v70,v100,encK,go_sem,reduceIte,YHf]
  try simp only[Yc,YHf,YHh,reduceCtorEq,YHg]
  obtain⟨F,hF⟩:∃F,F=larS ⟨W,H,K⟩:=⟨_,rfl⟩
  rw[<-hF]at h
  refine Loop.keep [0,0,5,0] Nat (fun i=>[(8,.int .i64 i)]) (fun _=>[]) [] (fun i=>i<=l.length/\∀j,j<i->F (l.getD j default)=false) (fun i=>l.length-i) ?_ ?_
  ·refine⟨0,⟨YHK _,fun j h=>by omega⟩,?_⟩
   dsimp only[go_sem,reduceIte,YHf]
   simp only[Ya]
   exact⟨⟨by decide,rfl⟩,⟨by decide,by decide⟩,by decide,by decide,by decide⟩
  ·rintro i ⟨hi,ha⟩
   dsimp only[Yun,Yup,v71,encK,YHj,go_sem,reduceIte,YHf]
   simp only[Yc,YHf,YHh,reduceCtorEq,YHg]
   simp only[show(decide (W<(l.getD i default).w) || decide (H<(l.getD i default).h))=F (l.getD i default)by rw[hF];rfl]
   refine⟨fun hlt=>⟨⟨by omega,hlt⟩,fun hb=>?_,fun hb=>?_⟩,fun hge=>?_⟩
   ·have e:l.any F=true:=YIt.2 ⟨_,Yh (by omega:i<l.length),hb⟩
    have e2:decide (0<=(i:Int))=true:=decide_eq_true (by omega)
    rw[e2]
    exact Yi (by rw[e]at h;exact h)
   ·refine⟨i+1,⟨by omega,fun j hj=>?_⟩,by omega,?_⟩
    ·rcases YHA j i with h'|h'
     ·exact ha j h'
     ·obtain rfl:j=i:=by omega
      exact hb
    ·simp only[Y0 (i:=i) (n:=l.length) (by omega) (by omega),Ya]
     repeat' (first|decide|exact rfl|apply YHB)
   ·have e:l.any F=false:=YHP.2 fun x hx=>by
     obtain⟨j,hj,rfl⟩:=YQ hx
     rw[ha j (by omega)];simp
    exact Yi (by rw[e]at h;exact h)
 ·exact h.1.elim
def areS(p:Pla)(l:List Cut):Int:=l.foldl (fun s c=>s+(c.w+p.k)*(c.h+p.k)) 0
def leaS(p:Pla)(l:List Cut):Int×Int:=if YdY p l 200≠0 then(0,YdY p l 200)else((areS p l+(p.w+p.k)*(p.h+p.k)-1)/((p.w+p.k)*(p.h+p.k)),0)
def leaC:Ctr:={ alias:=false,of:=fun l=>match l with
 | [.agg [.int .i64 W,.int .i64 H,.int .i64 K],.vs _ z n sz get]=> .ex (List Cut) fun l=> .pre (lsP 2 encK n sz get l/\n<=1000000000000) (.fin (.tup [.int .i64 (leaS ⟨W,H,K⟩ l).1,.int .i64 (leaS ⟨W,H,K⟩ l).2]) [])
 |_=>noC}
theorem YqR{k:SV->List HO->Prop}{al:Bool}{hp:List HO}{x y:Int}(h:k (.tup [.int .i64 x,.int .i64 y]) []):Yz al k (.tup [.int .i64 x,.int .i64 y]) hp:=
 YE (show k _ []from h) (YC (.tup [.int .i64 x,.int .i64 y]) ⟨trivial,trivial,trivial⟩) (fun _=>by simp [Yt,Ys])
theorem YiB{p:Pla}{l:List Cut}(h:YdY p l 200=0):∀i,i<=l.length->0<=areS p (l.take i)/\areS p (l.take i)<=500000000000000*i
 |0,_=>by simp [areS]
 |i+1,hi=>by
  have ih:=YiB h i (by omega)
  obtain⟨_,_,_,hk,hc⟩:=Ygv h
  have hci:=hc i (by omega)
  have e:areS p (l.take (i+1))=areS p (l.take i)+((l.getD i default).w+p.k)*((l.getD i default).h+p.k):=by
   unfold areS;rw[Ym (by omega)]
  have m1:0<=((l.getD i default).w+p.k)*((l.getD i default).h+p.k):=YIe (by omega) (by omega)
  have m2:((l.getD i default).w+p.k)*((l.getD i default).h+p.k)<=20050000*20050000:=YO (by omega) (by omega) (by omega) (by decide)
  rw[e];omega
def HS5:Env:={ ct:=fun n=>match n with|35=>some chkJC|_=>none,fn:=fun _=>none,meth:=fun _ _=>none}
theorem Yuq:HS5.ct 35=some chkJC:=rfl
theorem YCy:Yn YHk HS5:=by
 refine⟨fun f c h=>?_,fun f vf h=>?_,(fun _ _ _ h=>by cases h),by kernel_rfl,(fun _ h=>by cases h),(fun _ _ h=>by cases h)⟩
 ·simp only[HS5]at h
  split at h
  ·cases h;exact⟨Yrs,Tryz.f35,Tryz.func35,by kernel_rfl,by kernel_rfl⟩
  ·cases h
 ·cases h
theorem lea_c:leaC.ok YHk 16:=by
 refine Yb Tryz.func16 YFM YCy 300 leaC fun args k h=>?_
 simp only[leaC]at h
 split at h
 ·rename_i W H K tt z n sz get
  obtain⟨l,⟨⟨rfl,rfl,hg⟩,hn⟩,h⟩:=h
  have self:lsP 2 encK l.length 2 (fun k=>[SV.int IntKind.i64 (l.getD k default).w,SV.int IntKind.i64 (l.getD k default).h]) l:=⟨rfl,rfl,fun k _=>Yd _⟩
  refine⟨[.agg [.int .i64 W,.int .i64 H,.int .i64 K],.vs tt z l.length 2 (fun k=>encK (l.getD k default))],⟨⟨⟨rfl,rfl⟩,⟨rfl,rfl⟩,⟨rfl,rfl⟩,trivial⟩,⟨id,rfl,rfl,rfl,hg⟩,trivial⟩,?_⟩
  have h:k (.tup [.int .i64 (leaS ⟨W,H,K⟩ l).1,.int .i64 (leaS ⟨W,H,K⟩ l).2]) []:=h
  dsimp only[v16,Yuq,chkJC,encK,go_sem,reduceIte,YHf]
  try simp only[Yc,YHf,YHh,reduceCtorEq,YHg]
  refine⟨l,⟨self,hn⟩,?_⟩
  (try simp only[Yc,YHf,YHh,reduceCtorEq,YHg])
  refine⟨fun hc=>?_,fun hc=>?_⟩
  ·rw[leaS,if_pos hc]at h;exact YqR h
  rw[leaS,if_neg (by rw[hc];decide)]at h
  obtain⟨h1,h2,h3,h4,h5⟩:=Ygv hc
  simp only at h1 h2 h3 h4 h5
  refine Loop.keep [2,15,0] Nat (fun i=>[(20,.int .i64 i),(7,.int .i64 (areS ⟨W,H,K⟩ (l.take i)))]) (fun _=>[]) [] (fun i=>i<=l.length) (fun i=>l.length-i) ?_ ?_
  ·refine⟨0,YHK _,?_⟩
   dsimp only[go_sem,reduceIte,YHf]
   simp only[Ya]
   exact⟨by decide,rfl,rfl⟩
  rintro i hi
  have hr:=YiB hc i hi
  have m1:0<=(W+K)*(H+K):=YIe (by omega) (by omega)
  have m2:(W+K)*(H+K)<=20050000*20050000:=YO (by omega) (by omega) (by omega) (by decide)
  have m3:1*1<=(W+K)*(H+K):=YO (by omega) (by omega) (by decide) (by omega)
  dsimp only[encK,YHj,go_sem,reduceIte,YHf]
  simp only[Yc,YHf,YHh,reduceCtorEq,YHg]
  refine⟨fun hlt=>⟨⟨by omega,hlt⟩,i+1,by omega,by omega,?_⟩,fun hge=>?_⟩
  ·have hci:=h5 i (by omega)
   have hr':=YiB hc (i+1) (by omega)
   have e:areS ⟨W,H,K⟩ (l.take (i+1))=areS ⟨W,H,K⟩ (l.take i)+((l.getD i default).w+K)*((l.getD i default).h+K):=by
    unfold areS;rw[Ym (by omega)]
   rw[e]at hr'
   have q1:0<=((l.getD i default).w+K)*((l.getD i default).h+K):=YIe (by omega) (by omega)
   have q2:((l.getD i default).w+K)*((l.getD i default).h+K)<=20050000*20050000:=YO (by omega) (by omega) (by omega) (by decide)
   rw[YHi ((i:Int)+1) (by omega),YHi ((l.getD i default).w+K) (by omega),YHi ((l.getD i default).h+K) (by omega),YHi (((l.getD i default).w+K)*((l.getD i default).h+K)) (by omega),YHi (areS ⟨W,H,K⟩ (l.take i)+((l.getD i default).w+K)*((l.getD i default).h+K)) (by omega),e]
   simp only[Ya]
   exact⟨by decide,by simp⟩
  ·obtain rfl:i=l.length:=by omega
   rw[YIq]at hr⊢
   simp only at h
   rw[YHi (W+K) (by omega),YHi (H+K) (by omega),YHi ((W+K)*(H+K)) (by omega),YHi (areS ⟨W,H,K⟩ l+(W+K)*(H+K)) (by omega),YHi (areS ⟨W,H,K⟩ l+(W+K)*(H+K)-1) (by omega)]
   refine⟨by omega,?_⟩
   have e1:Int.tdiv (areS ⟨W,H,K⟩ l+(W+K)*(H+K)-1) ((W+K)*(H+K))=(areS ⟨W,H,K⟩ l+(W+K)*(H+K)-1)/((W+K)*(H+K)):=Int.tdiv_eq_ediv_of_nonneg (by omega)
   have e2:0<=(areS ⟨W,H,K⟩ l+(W+K)*(H+K)-1)/((W+K)*(H+K)):=Int.ediv_nonneg (by omega) m1
   have e3:(areS ⟨W,H,K⟩ l+(W+K)*(H+K)-1)/((W+K)*(H+K))<=areS ⟨W,H,K⟩ l+(W+K)*(H+K)-1:=Int.ediv_le_self _ (by omega)
   rw[e1,YHi _ (by omega)]
   exact YqR h
 ·exact h.1.elim
structure QC (D:List Nat) (s:Qst):Prop where
 ls:s.sv.length<=D.length
 lt:s.tp.length<=s.sv.length
 ex:∀on,on<s.tp.length->∃i,i∈D/\(s.out.getD i default).pl=(on:Int)
theorem QC.put_ok{p:Pla}{l:List Cut}{D:List Nat}{s:Qst}{i k:Nat}(hs1:s.sv.length<=D.length+1)(hlt:s.tp.length<=s.sv.length)(hil:i<s.out.length)(hiD:i∉D)
 (hex:∀on,on<s.tp.length->(∃j,j∈D/\(s.out.getD j default).pl=(on:Int))\/(s.sv.getD k default).pl=(on:Int)):QC (D++[i]) (s.put p (l.getD i default) i k):=by
 have gout:∀j,((s.put p (l.getD i default) i k).out.getD j default)=if j=i then s.sv.getD k default else s.out.getD j default:=fun j=>Ycw hil
 refine⟨?_,?_,fun on hon=>?_⟩
 ·show(s.sv.set _ _).length<=_
  rw[List.length_set,YHM,List.length_singleton];exact hs1
 ·show s.tp.length<=(s.sv.set _ _).length
  rw[List.length_set];exact hlt
 ·rcases hex on hon with⟨j,hj,e⟩ |e
  ·refine⟨j,List.mem_append_left _ hj,?_⟩
   rw[gout,if_neg (fun c:j=i=>hiD (c▸hj))];exact e
  ·refine⟨i,List.mem_append_right _ (YHZ.2 rfl),?_⟩
   rw[gout,if_pos rfl];exact e
theorem YAy{p:Pla}{l:List Cut}{D:List Nat}{hs:List Int}{s:Qst}(h:QB p l D hs s)(hc:QC D s)(hK:0<=p.k){i:Nat}(hi:i<l.length)(hiD:i∉D)
 (hw:1<=(l.getD i default).w/\(l.getD i default).w<=p.w)(hh:1<=(l.getD i default).h/\(l.getD i default).h<=p.h)(hfall:∀k,k<hs.length->(l.getD i default).h<=hs.getD k 0):
 ∃hs',QB p l (D++[i]) hs' (quiS p l s i)/\QC (D++[i]) (quiS p l s i)/\(∀k,k<hs'.length->hs'.getD k 0=(l.getD i default).h\/∃m,m<hs.length/\hs'.getD k 0=hs.getD m 0):=by
 obtain⟨c,hcd⟩:∃c,c=l.getD i default:=⟨_,rfl⟩
 rw[<-hcd]at hw hh hfall⊢
 have hout:i<s.out.length:=by rw[h.lo];exact hi
 have hunf:quiS p l s i=match idxP (fun t:Spt=>decide (t.x+c.w<=p.w)) 0 s.sv with
  |some k=>s.put p c i k
  |none=>match idxP (fun y:Int=>decide (y+c.h<=p.h)) 0 s.tp with
   |some on=>(s.shelf p c on).put p c i s.sv.length
   |none=>(Qst.shelf p c s.tp.length ⟨s.out,s.sv,s.tp++[0]⟩).put p c i s.sv.length:=by rw[hcd];rfl
 have newS:∀(t:Qst)(on:Nat),QB p l D hs t->t.sv=s.sv->t.out=s.out->on<t.tp.length->t.tp.getD on 0+c.h<=p.h->t.tp.length<=s.sv.length+1->(∀n,n<t.tp.length->(∃j,j∈D/\(s.out.getD j default).pl=(n:Int))\/n=on)->
  ∃hs',QB p l (D++[i]) hs' ((t.shelf p c on).put p c i s.sv.length)/\QC (D++[i]) ((t.shelf p c on).put p c i s.sv.length)/\(∀k,k<hs'.length->hs'.getD k 0=c.h\/∃m,m<hs.length/\hs'.getD k 0=hs.getD m 0):=fun t on ht esv eout hon hy hlt hex=>by
  have hq:=ht.shelf_ok hK (by omega) (c:=c) hon (by omega) hy
  have lsv:(t.shelf p c on).sv.length=s.sv.length+1:=by show(t.sv++[_]).length=_;rw[YHM,esv];rfl
  have gnew:(t.shelf p c on).sv.getD s.sv.length default=⟨(on:Int),(s.sv.length:Int),0,t.tp.getD on 0⟩:=by
   show(t.sv++[_]).getD s.sv.length default=_
   rw[esv,YaL,if_neg (Nat.lt_irrefl _),if_pos rfl]
  have ghn:(hs++[c.h]).getD s.sv.length 0=c.h:=by
   have:=YaL (l:=hs) (a:=c.h) (j:=s.sv.length)
   rw[if_neg (by have:=h.lh;omega),if_pos h.lh.symm]at this;exact this
  have hput:=hq.put_ok hK (i:=i) (k:=s.sv.length) hi hiD (by rw[lsv];omega) (by rw[<-hcd];omega) (by rw[gnew,<-hcd];simp only;omega) (by rw[ghn,<-hcd];exact YIs _)
  rw[<-hcd]at hput
  have ltp:(t.shelf p c on).tp.length=t.tp.length:=List.length_set
  refine⟨hs++[c.h],hput,?_,?_⟩
  ·have:=QC.put_ok (p:=p) (l:=l) (D:=D) (s:=t.shelf p c on) (i:=i) (k:=s.sv.length) (by rw[lsv];have:=hc.ls;omega) (by rw[lsv,ltp];exact hlt) (by show i<t.out.length;rw[eout];exact hout) hiD (fun n hn=>by
    rw[ltp]at hn
    rcases hex n hn with⟨j,hj,e⟩ |e
    ·left;exact⟨j,hj,by show(t.out.getD j default).pl=_;rw[eout];exact e⟩
    ·right;rw[gnew,e])
   rw[<-hcd]at this
   exact this
  ·intro k hk
   rw[YHM,List.length_singleton]at hk
   by_cases e:k<hs.length
   ·right
    refine⟨k,e,?_⟩
    have:=YaL (l:=hs) (a:=c.h) (j:=k)
    rw[if_pos e]at this;exact this
   ·left
    obtain rfl:k=s.sv.length:=by have:=h.lh;omega
    exact ghn
 rw[hunf]
 cases e1:idxP (fun t:Spt=>decide (t.x+c.w<=p.w)) 0 s.sv with
 |some k=>
  obtain⟨k',rfl,k2,k3⟩:=YgQ e1
  rw[YIb]
  simp only
  have hput:=h.put_ok hK hi hiD k2 (by rw[<-hcd];omega) (by rw[<-hcd];exact of_decide_eq_true k3) (by rw[<-hcd];exact hfall k' (by rw[h.lh];exact k2))
  rw[<-hcd]at hput
  refine⟨hs,hput,?_,fun m hm=>Or.inr ⟨m,hm,rfl⟩⟩
  have:=QC.put_ok (p:=p) (l:=l) (D:=D) (s:=s) (i:=i) (k:=k') (by have:=hc.ls;omega) hc.lt hout hiD (fun n hn=>Or.inl (hc.ex n hn))
  rw[<-hcd]at this
  exact this
 |none=>
  simp only
  cases e2:idxP (fun y:Int=>decide (y+c.h<=p.h)) 0 s.tp with
  |some on=>
   obtain⟨on',rfl,k2,k3⟩:=YgQ e2
   rw[YIb]
   simp only
   refine newS s on' h rfl rfl k2 (of_decide_eq_true k3) (by have:=hc.lt;omega) fun n hn=>Or.inl (hc.ex n hn)
  |none=>
   simp only
   refine newS ⟨s.out,s.sv,s.tp++[0]⟩ s.tp.length (h.plate_ok hK (by omega)) rfl rfl (by simp) ?_ (by have:=hc.lt;simp only[YHM,List.length_singleton];omega) fun n hn=>?_
   ·have:=YaL (l:=s.tp) (a:=(0:Int)) (j:=s.tp.length)
    rw[if_neg (Nat.lt_irrefl _),if_pos rfl]at this
    have e2:(s.tp++[0]).getD s.tp.length 0=0:=this
    show(s.tp++[0]).getD s.tp.length 0+c.h<=p.h
    rw[e2];omega
   ·have hn:n<(s.tp++[0]).length:=hn
    rw[YHM,List.length_singleton]at hn
    by_cases c:n<s.tp.length
    ·exact Or.inl (hc.ex n c)
    ·exact Or.inr (by omega)
def quiL(p:Pla)(l:List Cut)(order:List Nat)(s:Qst):Qst:=order.foldl (quiS p l) s
def okC(p:Pla)(l:List Cut)(i:Nat):Prop:=(1<=(l.getD i default).w/\(l.getD i default).w<=p.w)/\1<=(l.getD i default).h/\(l.getD i default).h<=p.h
theorem Ymj{p:Pla}{l:List Cut}(hK:0<=p.k):∀(todo D:List Nat)(hs:List Int)(s:Qst),QB p l D hs s->QC D s->(D++todo).Nodup->(∀i,i∈todo->i<l.length/\okC p l i)->
 (∀k,k<hs.length->∃m,m∈D/\hs.getD k 0=(l.getD m default).h)->(∀m i,m∈D->i∈todo->(l.getD i default).h<=(l.getD m default).h)->todo.Pairwise (fun m i=>(l.getD i default).h<=(l.getD m default).h)->
 ∃hs',QB p l (D++todo) hs' (quiL p l todo s)/\QC (D++todo) (quiL p l todo s)
 | [],D,hs,s,h,hc,_,_,_,_,_=>⟨hs,by rw[List.append_nil];exact h,by rw[List.append_nil];exact hc⟩
 |i::r,D,hs,s,h,hc,hnd,hall,hhs,hfall,hpw=>by
  obtain⟨hi,hiw,hih⟩:=hall i (YHw ..)
  have hiD:i∉D:=fun hm=>by
   have:=(List.nodup_append.1 hnd).2.2 i hm i (YHw ..)
   exact this rfl
  obtain⟨hs1,q1,q2,q3⟩:=YAy h hc hK hi hiD hiw hih (fun k hk=>by
   obtain⟨m,hm,e⟩:=hhs k hk
   rw[e];exact hfall m i hm (YHw ..))
  have e:D++i::r=(D++[i])++r:=by simp
  rw[e]at hnd⊢
  show∃hs',QB p l ((D++[i])++r) hs' (quiL p l r (quiS p l s i))/\QC ((D++[i])++r) (quiL p l r (quiS p l s i))
  refine Ymj hK r (D++[i]) hs1 (quiS p l s i) q1 q2 hnd (fun j hj=>hall j (YHu _ hj)) (fun k hk=>?_) (fun m j hm hj=>?_) (List.pairwise_cons.1 hpw).2
  ·rcases q3 k hk with e3| ⟨m,hm,e3⟩
   ·exact⟨i,List.mem_append_right _ (YHZ.2 rfl),e3⟩
   ·obtain⟨m',hm',e4⟩:=hhs m hm
    exact⟨m',List.mem_append_left _ hm',e3.trans e4⟩
  ·rcases YHO.1 hm with hm|hm
   ·exact hfall m j hm (YHu _ hj)
   ·rw[YHZ.1 hm]
    exact(List.pairwise_cons.1 hpw).1 j hj
def spt0:Spt:=⟨0,0,0,0⟩
def qui0(n:Nat):Qst:=⟨List.replicate n spt0,[],[]⟩
def quiF(p:Pla)(l:List Cut)(order:List Nat):List Spt:=(quiL p l order (qui0 l.length)).out
def YsH(p:Pla)(l:List Cut)(a:List Spt)(i k:Nat):Bool:=
 decide ((a.getD i default).pl=(a.getD k default).pl)&&decide ((a.getD i default).x<(a.getD k default).x+(l.getD k default).w+p.k)&&decide ((a.getD k default).x<(a.getD i default).x+(l.getD i default).w+p.k)&&
  decide ((a.getD i default).y<(a.getD k default).y+(l.getD k default).h+p.k)&&decide ((a.getD k default).y<(a.getD i default).y+(l.getD i default).h+p.k)
def farB(p:Pla)(l:List Cut)(n:Int)(a:List Spt)(i:Nat):Bool:=
 decide ((a.getD i default).pl<0) || decide (n<=(a.getD i default).pl) || decide ((a.getD i default).sh<0) || decide (n<=(a.getD i default).sh) ||
  (decide ((a.getD i default).x<0) || decide (p.w-(l.getD i default).w<(a.getD i default).x)) || (decide ((a.getD i default).y<0) || decide (p.h-(l.getD i default).h<(a.getD i default).y))
theorem YwK{f:Nat->Int}:∀{a b:List Nat},a.Perm b->(a.map f).sum=(b.map f).sum:=fun h=>by
 induction h with
 |nil=>rfl
 |cons x _ ih=>simp only[YHH,List.sum_cons,ih]
 |swap x y l=>simp only[YHH,List.sum_cons];omega
 |trans _ _ h1 h2=>exact h1.trans h2
theorem Yip{c:Int}:∀{l:List Int},(∀k,k<l.length->l.getD k 0<=c)->l.sum<=c*(l.length:Int)
 | [],_=>by simp
 |a::r,h=>by
  have h0:=h 0 (by simp)
  have ih:=Yip (c:=c) (l:=r) fun k hk=>by have:=h (k+1) (by simpa using hk);simpa using this
  simp only[List.getD_cons_zero]at h0
  rw[List.sum_cons,YH8,Int.natCast_add,Int.mul_add]
  omega
theorem YAA{p:Pla}{l:List Cut}{order:List Nat}(hK:0<=p.k)(hW:1<=p.w)(hperm:order.Perm (YIc l.length))(hall:∀i,i<l.length->okC p l i)(hpw:order.Pairwise (fun m i=>(l.getD i default).h<=(l.getD m default).h)):
 (quiF p l order).length=l.length/\(∀i,i<l.length->farB p l l.length (quiF p l order) i=false)/\(∀i k,k<i->i<l.length->YsH p l (quiF p l order) i k=false)/\
 ∃m:Nat,((YIc l.length).map fun i=>((l.getD i default).w+p.k)*((l.getD i default).h+p.k)).sum<=(p.w+p.k)*(p.h+p.k)*(m:Int)/\∀on:Nat,on<m->∃i,i<l.length/\((quiF p l order).getD i default).pl=(on:Int):=by
 have hmem:∀i,i∈order↔i<l.length:=fun i=>by rw[hperm.mem_iff,List.mem_range]
 have h0:QB p l [] [] (qui0 l.length):=by
  refine⟨List.length_replicate,rfl,fun i h=>(by cases h),fun k h=>absurd h (YIf _),fun k h=>absurd h (YIf _),fun k m _ h=>absurd h (YIf _),fun i h=>(by cases h),fun i j h=>(by cases h),fun on h=>absurd h (YIf _),YIs _,rfl⟩
 have c0:QC [] (qui0 l.length):=⟨YHr _,YHr _,fun on h=>absurd h (YIf _)⟩
 obtain⟨hs,hq,hc⟩:=Ymj hK order [] [] (qui0 l.length) h0 c0 (by rw[List.nil_append];exact hperm.nodup_iff.2 List.nodup_range) (fun i hi=>⟨(hmem i).1 hi,hall i ((hmem i).1 hi)⟩) (fun k h=>absurd h (YIf _)) (fun m i h=>(by cases h)) hpw
 rw[List.nil_append]at hq hc
 have hF:(quiL p l order (qui0 l.length)).out=quiF p l order:=rfl
 obtain⟨lo,lh,rng,pos,she,two,spt,row,top,are,ars⟩:=hq
 obtain⟨ls,lt,ex⟩:=hc
 generalize quiL p l order (qui0 l.length)=s at*
 rw[hF]at lo spt row ex
 have hlen:order.length=l.length:=by rw[hperm.length_eq,List.length_range]
 refine⟨lo,fun i hi=>?_,fun i k hki hi=>?_,s.tp.length,?_,fun on hon=>?_⟩
 ·obtain⟨k,b1,b2,b3,b4,b5,b6,b7,b8⟩:=spt i ((hmem i).2 hi)
  obtain⟨a1,a2,a3,a4,a5,n,a6,a7,a8⟩:=she k b1
  have:=pos k (by omega)
  have hb:=hall i hi
  unfold okC at hb
  unfold farB
  simp only[YHp,decide_eq_false_iff_not]
  omega
 ·obtain⟨m,b1,b2,b3,b4,b5,b6,b7,b8⟩:=spt i ((hmem i).2 hi)
  obtain⟨n,c1,c2,c3,c4,c5,c6,c7,c8⟩:=spt k ((hmem k).2 (by omega))
  unfold YsH
  rw[Bool.eq_false_iff]
  intro hb
  simp only[YHn,decide_eq_true_eq]at hb
  obtain⟨⟨⟨⟨d1,d2⟩,d3⟩,d4⟩,d5⟩:=hb
  rcases Nat.lt_trichotomy m n with hmn|hmn|hmn
  ·have:=two m n hmn c1 (by rw[<-b2,<-c2];exact d1)
   omega
  ·rcases row i k ((hmem i).2 hi) ((hmem k).2 (by omega)) (by omega) (by rw[b3,c3,hmn])with e|e
   ·omega
   ·omega
  ·have:=two n m hmn b1 (by rw[<-b2,<-c2];exact d1.symm)
   omega
 ·rw[<-YwK hperm]
  have e1:=YxN (K:=p.k) (W:=p.w+p.k) (sv:=s.sv) (hs:=hs) lh (fun k hk=>(she k hk).2.2.1) (fun k hk=>by have:=pos k hk;omega)
  have e2:=Yip (c:=p.h+p.k) (l:=s.tp) fun k hk=>(top k hk).2
  rw[ars]at e1
  have e3:=YHU e2 (show 0<=p.w+p.k by omega)
  rw[Int.mul_assoc]
  omega
 ·obtain⟨i,hi,e⟩:=ex on hon
  exact⟨i,(hmem i).1 hi,e⟩
end Go.Proofs.YtlfhmpkopcnheaaGreat
