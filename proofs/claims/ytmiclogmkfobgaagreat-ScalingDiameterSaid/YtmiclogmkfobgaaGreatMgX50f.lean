/- The program's logarithms are those by squaring. -/
import Derived.Test.YtmiclogmkfobgaaGreatMgX50e
import Derived.Test.YtmiclogmkfobgaaGreatMgX50c
open Bool renaming false_and->YGi,true_and->YGm
open Int renaming mul_le_mul_of_nonneg_right->YFz,natCast_mul->YFU,toNat->YGq,toNat_natCast->YE4
open Go.IntWalk renaming i64_in->YE7,u64_in->YFN
open List renaming length_cons->YF6,mem_append->YFM,mem_cons->YFA,mem_cons_of_mem->YFp,mem_cons_self->YFs,mem_singleton->YFO,take_length->YF4
open Nat renaming add->YFD,add_mul->YFw,add_zero->YF8,beq->YFL,ble->YGs,div->YGt,div_add_mod->YFH,div_div_eq_div_mul->YFn,div_eq_of_lt->YGc,div_le_self->YGd,eq_of_beq_eq_true->YFv,eq_zero_or_pos->YFB,gcd->YF1,le_div_iff_mul_le->YF0,le_of_ble_eq_true->YFV,le_of_eq->YFr,le_of_lt->YGa,le_of_mul_le_mul_right->YFj,le_of_not_lt->YGk,le_refl->YFk,le_trans->YFa,lt_of_le_of_lt->YFG,lt_of_lt_of_le->YFS,lt_or_ge->YFu,mod->YGo,mod_eq_of_lt->YFT,mod_lt->YFC,mul_add->YFJ,mul_assoc->YFg,mul_comm->YFc,mul_le_mul->YFt,mul_le_mul_left->YFe,mul_le_mul_right->YE9,mul_left_comm->YFY,mul_one->YGb,mul_pos->YF3,mul_pow->YFo,not_lt_zero->YGe,one_mul->YFR,pow_add->YFi,pow_le_pow_left->YFl,pow_le_pow_right->YFq,pow_mul->YFh,pow_one->YGl,pow_pos->YFF,pow_succ->YFm,pow_zero->YGn,zero_add->YGh,zero_le->YGj
set_option linter.all false
namespace Go.Proofs.YtmiclogmkfobgaaGreat
open Go Go.Vx
theorem Ygc(a:Nat):hiW (a:Int)=((a*a/18446744073709551616:Nat):Int):=by
 show(a:Int)*a/18446744073709551616=_
 rw[Int.natCast_ediv,YFU];rfl
theorem Ylg(a:Nat):loW (a:Int)=((a*a%18446744073709551616:Nat):Int):=by
 show(a:Int)*a%18446744073709551616=_
 rw[Int.natCast_emod,YFU];rfl
theorem YiX(x:Nat):sr63 (x:Int)=((x/9223372036854775808:Nat):Int):=YbA (s:=63) (by decide)
theorem Ylx(x:Nat):sl1 (x:Int)=((x*2%18446744073709551616:Nat):Int):=by
 show IntKind.u64.wrap ((x:Int)*2^min (YGq 1) 64)=_
 rw[show(2:Int)^min (YGq 1) 64=2 from rfl,YlG,Int.natCast_emod,YFU];rfl
theorem YwZ{M x:Nat}(hM:0<M):x/(2*M)*2+x%(2*M)/M=x/M:=by
 have e1:x/(2*M)=x/M/2:=by rw[YFc,YFn]
 have e2:x%(2*M)/M=x/M%2:=by
  rw[YFc,Nat.mod_mul_right_div_self]
 rw[e1,e2];omega
theorem Yvk{h b:Nat}(hb:b<2):(h*2||| b)=h*2+b:=by
 have:=Nat.two_pow_add_eq_or_of_lt (i:=1) (b:=b) (by simpa using hb) h
 rw[YGl]at this
 rw[YFc h 2,this]
theorem Ymv{a:Nat}(ha:a*a<18446744073709551616*9223372036854775808):dblW (hiW (a:Int)) (loW (a:Int))=((a*a/9223372036854775808:Nat):Int):=by
 show bitI .or .u64 (sl1 (hiW (a:Int))) (sr63 (loW (a:Int)))=_
 rw[Ygc,Ylg,Ylx,YiX]
 generalize a*a=x at*
 have h1:x/18446744073709551616<9223372036854775808:=Nat.div_lt_of_lt_mul ha
 have h2:x%18446744073709551616/9223372036854775808<2:=Nat.div_lt_of_lt_mul (YFC _ (by decide))
 have h3:=YwZ (M:=9223372036854775808) (x:=x) (by decide)
 rw[show 2*9223372036854775808=18446744073709551616 from rfl]at h3
 generalize x/18446744073709551616=h at*
 generalize x%18446744073709551616/9223372036854775808=l at*
 rw[YFT (by omega),Ytb (by omega) (by omega),Yvk h2,h3]
theorem Yg6{x d:Nat}(hd:0<d)(h:x%d=0):cdiv x d=x/d:=by
 unfold cdiv
 rw[if_neg]
 have:=YFH x d
 rw[YFc]at this
 omega
theorem YjE{x d:Nat}(hd:0<d)(h:x%d≠0):cdiv x d=x/d+1:=by
 unfold cdiv
 rw[if_pos]
 have:=YFH x d
 rw[YFc]at this
 omega
theorem YtV{x M:Nat}(hM:0<M):x%(2*M)*2%(2*M)=x%M*2:=by
 have e:x%(2*M)%M=x%M:=Nat.mod_mul_left_mod ..
 rw[<-e]
 generalize x%(2*M)=y at*
 rw[YFc y 2,Nat.mul_mod_mul_left,YFc]
theorem YrO(b:Nat):(0<sl1 (loW (b:Int)))↔b*b%9223372036854775808≠0:=by
 rw[Ylg,Ylx]
 have h:=YtV (x:=b*b) (M:=9223372036854775808) (by decide)
 rw[show 2*9223372036854775808=18446744073709551616 from rfl]at h
 rw[h]
 omega
theorem YDR{z:Nat}(h:z<18446744073709551616):(IntKind.u64.wrap ((z:Int)+1)=0↔z+1=18446744073709551616)/\(z+1<18446744073709551616->IntKind.u64.wrap ((z:Int)+1)=((z+1:Nat):Int)):=by
 rw[YlG]
 constructor <;> omega
theorem bitS{S b:Nat}(hS:S<9223372036854775808)(hb:b<2):bitI .or .u64 (sl1 (S:Int)) ((b:Nat):Int)=((2*S+b:Nat):Int):=by
 rw[Ylx,YFT (by omega),Ytb (by omega) (by omega),Yvk hb,YFc]
theorem YiS{S f:Nat}(hf:f<=64)(h:S*2^f<18446744073709551616):shW (S:Int) f=((S*2^f:Nat):Int):=YgA hf h
theorem uS{S:Nat}(hS:S<18446744073709551615):IntKind.u64.wrap ((S:Int)+1)=((S+1:Nat):Int):=by rw[YFN _ (by omega)];rfl
def Ypt(p:Nat×Nat):Int×Int:=((p.1:Int),(p.2:Int))
theorem Yrq:∀(f S a b:Nat),f<=28->S<2^(34-f)->9223372036854775808<=a->a<=b->b<18446744073709551616->
 YaC f (S:Int) (a:Int) (b:Int)=Ypt (gl 9223372036854775808 true f a b S):=by
 intro f
 induction f with
 |zero=>
  intro S a b _ hS _ _ _
  rw[show(2:Nat)^(34-0)=17179869184 from rfl]at hS
  rw[YaC,gl,Ypt,uS (by omega)]
 |succ f ih=>
  intro S a b hf hS ha hab hb
  have e34:(2:Nat)^(34-f)=2*2^(34-(f+1)):=by rw[show 34-f=34-(f+1)+1 by omega,YFm,YFc]
  have hS2:S<17179869184:=YFS hS (by rw[show 17179869184=2^34 from rfl];exact YFq (by decide) (by omega))
  have stop:(shW (S:Int) (f+1),shW (IntKind.u64.wrap ((S:Int)+1)) (f+1))=Ypt (S*2^(f+1),(S+1)*2^(f+1)):=by
   have hp:(2:Nat)^(34-(f+1))*2^(f+1)=17179869184:=by rw[<-YFi,show 34-(f+1)+(f+1)=34 by omega]
   have h1:S*2^(f+1)<=2^(34-(f+1))*2^(f+1):=YE9 _ (YGa hS)
   have h2:(S+1)*2^(f+1)<=2^(34-(f+1))*2^(f+1):=YE9 _ hS
   rw[uS (by omega),YiS (by omega) (by omega),YiS (by omega) (by omega)];rfl
  have haa:9223372036854775808*9223372036854775808<=a*a:=YFt ha ha
  have hbb:b*b<18446744073709551616*18446744073709551616:=Nat.mul_lt_mul_of_lt_of_le hb (YGa hb) (by decide)
  have hab2:a*a<=b*b:=YFt hab hab
  have kA:sr63 (hiW (a:Int))=((a*a/170141183460469231731687303715884105728:Nat):Int):=by rw[Ygc,YiX,YFn]
  have kB:sr63 (hiW (b:Int))=((b*b/170141183460469231731687303715884105728:Nat):Int):=by rw[Ygc,YiX,YFn]
  have hS0:=bitS (S:=S) (b:=0) (by omega) (by decide)
  have hS1:=bitS (S:=S) (b:=1) (by omega) (by decide)
  have eb:IntKind.u64.wrap (dblW (hiW (b:Int)) (loW (b:Int))+1)=IntKind.u64.wrap (dblW (hiW (b:Int)) (loW (b:Int))+1):=rfl
  rw[YaC,gl,kA,kB]
  by_cases c1:a*a<170141183460469231731687303715884105728
  ·have z1:a*a/170141183460469231731687303715884105728=0:=YGc c1
   have c1':a*a/9223372036854775808<2*9223372036854775808:=Nat.div_lt_of_lt_mul c1
   have la:9223372036854775808<=a*a/9223372036854775808:=(YF0 (by decide)).2 haa
   rw[if_pos c1',z1,if_pos (by rfl),Ymv c1,hS0]
   by_cases c2:b*b<170141183460469231731687303715884105728
   ·have z2:b*b/170141183460469231731687303715884105728=0:=YGc c2
    have c2':b*b/9223372036854775808<18446744073709551616:=Nat.div_lt_of_lt_mul c2
    have hq:a*a/9223372036854775808<=b*b/9223372036854775808:=Nat.div_le_div_right hab2
    rw[z2,Ymv c2]
    obtain⟨u1,u2⟩:=YDR c2'
    by_cases c3:b*b%9223372036854775808≠0
    ·rw[if_pos ((YrO b).2 c3),YjE (by decide) c3]
     by_cases c4:b*b/9223372036854775808+1=18446744073709551616
     ·rw[if_pos (by rw[decide_eq_true (u1.2 c4)];simp),if_neg (by omega)]
      exact stop
     ·rw[if_neg (by rw[decide_eq_false (fun h=>c4 (u1.1 h))];simp),if_pos (by omega),u2 (by omega)]
      exact ih _ _ _ (by omega) (by omega) la (by omega) (by omega)
    ·rw[if_neg (fun h=>c3 ((YrO b).1 h)),Yg6 (by decide) (by omega)]
     rw[if_neg (by rw[decide_eq_false (show¬((b*b/9223372036854775808:Nat):Int)=0 by omega)];simp),if_pos (by omega)]
     exact ih _ _ _ (by omega) (by omega) la (by omega) (by omega)
   ·have hz2:1<=b*b/170141183460469231731687303715884105728:=(YF0 (by decide)).2 (by omega)
    have hc:¬cdiv (b*b) 9223372036854775808<2*9223372036854775808:=by
     have h1:=Yqy (b*b) 9223372036854775808
     have h2:2*9223372036854775808<=b*b/9223372036854775808:=(YF0 (by decide)).2 (by omega)
     omega
    have hk:(!decide (((0:Nat):Int)=((b*b/170141183460469231731687303715884105728:Nat):Int)))=true:=by
     rw[decide_eq_false (by omega)];rfl
    rw[if_neg hc,hk]
    simp only[Bool.true_or,if_true,ite_self]
    exact stop
  ·have e1:a*a/170141183460469231731687303715884105728=1:=by
    have h1:1<=a*a/170141183460469231731687303715884105728:=(YF0 (by decide)).2 (by omega)
    have h2:a*a/170141183460469231731687303715884105728<2:=Nat.div_lt_of_lt_mul (by omega)
    omega
   have e2:b*b/170141183460469231731687303715884105728=1:=by
    have h1:1<=b*b/170141183460469231731687303715884105728:=(YF0 (by decide)).2 (by omega)
    have h2:b*b/170141183460469231731687303715884105728<2:=Nat.div_lt_of_lt_mul (by omega)
    omega
   have c1':¬a*a/9223372036854775808<2*9223372036854775808:=by
    have h2:2*9223372036854775808<=a*a/9223372036854775808:=(YF0 (by decide)).2 (by omega)
    omega
   have ea:a*a/9223372036854775808/2=a*a/18446744073709551616:=by rw[YFn]
   have hal:9223372036854775808<=a*a/18446744073709551616:=(YF0 (by decide)).2 (by omega)
   have hbl:9223372036854775808<=b*b/18446744073709551616:=(YF0 (by decide)).2 (by omega)
   have hq:a*a/18446744073709551616<=b*b/18446744073709551616:=Nat.div_le_div_right hab2
   have hbu:b*b/18446744073709551616<18446744073709551616:=Nat.div_lt_of_lt_mul hbb
   rw[if_neg c1',e1,e2,if_neg (by decide),hS1,ea,Ypu (by decide),show 9223372036854775808*2=18446744073709551616 from rfl,Ygc,Ygc,Ylg]
   obtain⟨u1,u2⟩:=YDR hbu
   by_cases c3:b*b%18446744073709551616≠0
   ·rw[if_pos (by omega),YjE (by decide) c3]
    by_cases c4:b*b/18446744073709551616+1=18446744073709551616
    ·rw[if_pos (by rw[decide_eq_true (u1.2 c4)];simp),if_pos (by rw[decide_eq_true (show 18446744073709551616<=b*b/18446744073709551616+1 by omega)];rfl)]
     exact stop
    ·rw[if_neg (by rw[decide_eq_false (fun h=>c4 (u1.1 h))];simp),if_neg (by rw[decide_eq_false (show¬18446744073709551616<=b*b/18446744073709551616+1 by omega)];simp),u2 (by omega)]
     exact ih _ _ _ (by omega) (by omega) hal (by omega) (by omega)
   ·rw[if_neg (by omega),Yg6 (by decide) (by omega)]
    rw[if_neg (by rw[decide_eq_false (show¬((b*b/18446744073709551616:Nat):Int)=0 by omega)];simp),if_neg (by rw[decide_eq_false (show¬18446744073709551616<=b*b/18446744073709551616 by omega)];simp)]
    exact ih _ _ _ (by omega) (by omega) hal (by omega) (by omega)
def lgK(n:Nat):Nat:=Yn n-1
theorem YmV{n:Nat}(h:1<=n):2^lgK n<=n/\n<2^(lgK n+1):=by
 have h0:Yn n≠0:=fun e=>by have:=bitsN_eq0.1 e;omega
 unfold lgK
 constructor
 ·refine YGk fun hh=>?_
  have:=bitsN_le.2 hh
  omega
 ·rw[show Yn n-1+1=Yn n by omega];exact Ycc n
theorem YcN{n m:Nat}(hm:0<m)(h:n<2^m):lgK n<m:=by
 have:=bitsN_le.2 h
 unfold lgK;omega
theorem YmS{n:Nat}(h1:1<=n)(h2:n<4611686018427387904):YbC (n:Int)=true->n=2^lgK n:=by
 intro h
 unfold YbC at h
 have h:=of_decide_eq_true h
 have e:IntKind.i64.wrap ((n:Int)-1)=((n-1:Nat):Int):=by rw[YE7 _ (by omega)];omega
 rw[e]at h
 have h3:IntKind.i64.wrap ((BitVec.ofInt 64 (n:Int)&&&BitVec.ofInt 64 ((n-1:Nat):Int)).toNat:Int)=0:=h
 rw[BitVec.toNat_and,YbZ (by omega),YbZ (by omega)]at h3
 have hle:n&&&(n-1)<=n:=Nat.and_le_left
 rw[YE7 _ (by omega)]at h3
 have h4:n&&&(n-1)=0:=by omega
 obtain⟨b1,b2⟩:=YmV h1
 refine Nat.le_antisymm (YGk fun hh=>?_) b1
 have t1:n.testBit (lgK n)=true:=by
  rw[Nat.testBit_eq_decide_div_mod_eq]
  have:n/2^lgK n=1:=by
   have g1:1<=n/2^lgK n:=(YF0 (YFF (by decide))).2 (by omega)
   have g2:n/2^lgK n<2:=Nat.div_lt_of_lt_mul (by rw[<-YFm];exact b2)
   omega
  rw[this];rfl
 have t2:(n-1).testBit (lgK n)=true:=by
  rw[Nat.testBit_eq_decide_div_mod_eq]
  have:(n-1)/2^lgK n=1:=by
   have g1:1<=(n-1)/2^lgK n:=(YF0 (YFF (by decide))).2 (by omega)
   have g2:(n-1)/2^lgK n<2:=Nat.div_lt_of_lt_mul (by rw[<-YFm];omega)
   omega
  rw[this];rfl
 have t3:(n&&&(n-1)).testBit (lgK n)=true:=by rw[Nat.testBit_and,t1,t2];rfl
 rw[h4,Nat.zero_testBit]at t3
 cases t3
def qN(n:Nat):Nat×Nat:=if YbC (n:Int)=true then(lgK n*2^28,lgK n*2^28)else gl 9223372036854775808 true 28 (n*2^(63-lgK n)) (n*2^(63-lgK n)) (lgK n)
def lN(n p:Nat):Nat×Nat:=if YbC (n:Int)=true then(lgK n*2^p,lgK n*2^p)else gl (2^(2*p+64)) false p (n*2^(2*p+64-lgK n)) (n*2^(2*p+64-lgK n)) (lgK n)
theorem mant{n D:Nat}(h1:1<=n)(hD:lgK n<=D):2^D<=n*2^(D-lgK n)/\n*2^(D-lgK n)<2*2^D/\2^lgK n*(n*2^(D-lgK n))=n*2^D:=by
 obtain⟨b1,b2⟩:=YmV h1
 have e:2^D=2^lgK n*2^(D-lgK n):=by rw[<-YFi];congr 1;omega
 refine⟨?_,?_,?_⟩
 ·rw[e];exact YE9 _ b1
 ·rw[e,<-YFg,<-Nat.pow_succ']
  exact Nat.mul_lt_mul_of_pos_right b2 (YFF (by decide))
 ·rw[e,YFY]
theorem Yrp{n:Nat}(h1:1<=n)(h2:n<4611686018427387904):YaV (n:Int)=Ypt (qN n):=by
 have hk:lgK n<62:=YcN (by decide) h2
 unfold YaV qN
 rw[YE4]
 by_cases c:YbC (n:Int)=true
 ·rw[if_pos c,if_pos c]
  have e:shW ((Yn n-1:Nat):Int) 28=((lgK n*2^28:Nat):Int):=YiS (by decide) (by show lgK n*268435456<_;omega)
  have e:IntKind.u64.wrap (((Yn n-1:Nat):Int)*2^min (YGq 28) 64)=((lgK n*2^28:Nat):Int):=e
  rw[e];rfl
 ·rw[if_neg c,if_neg c]
  obtain⟨m1,m2,m3⟩:=mant (D:=63) h1 (by omega)
  have e:shW (n:Int) (63-(Yn n-1))=((n*2^(63-lgK n):Nat):Int):=YiS (by omega) (YFS m2 (by decide))
  rw[e]
  exact Yrq 28 (lgK n) _ _ (by decide) (by rw[show(2:Nat)^(34-28)=64 from rfl];omega) m1 (YFk _) m2
theorem YxT{e k:Nat}(h:e<=32*k):2^e<=4294967296^k:=by
 rw[Yb1]
 exact YFq (by decide) h
theorem YA6{x e k:Nat}(h:x<2^e)(he:e<=32*k):nl x<=k:=nl_le.2 (YFS h (YxT he))
theorem YfV{x e:Nat}(h:x<2^e)(he:e<=32*512):capF x=x:=by
 unfold capF
 rw[if_pos]
 exact YA6 (k:=512) h he
theorem Yno(a d:Nat)(hd:0<d):shF a (-(d:Int))=a/2^d:=by
 unfold shF
 rw[if_pos (by omega),show(- -(d:Int)).toNat=d by omega]
theorem Yvz(a d:Nat):shF a (d:Int)=a*2^d:=by
 unfold shF
 rw[if_neg (by omega),YE4]
theorem Yhk{a d e:Nat}(h:a*2^d<2^e)(he:e<=32*512):movW a (d:Int) false=a*2^d:=by
 unfold movW
 rw[YGi,if_neg (by decide),Yvz,YfV h he]
theorem Yvf{a d e:Nat}(hd:0<d)(h:a<2^e)(he:e<=32*512):movW a (-(d:Int)) false=a/2^d:=by
 unfold movW
 rw[YGi,if_neg (by decide),Yno _ _ hd,YfV (YFG (YGd _ _) h) he]
theorem YmY{a d e:Nat}(hd:0<d)(h:a<2^e)(he:e+1<=32*512):movW a (-(d:Int)) true=cdiv a (2^d):=by
 have h1:a/2^d<2^e:=YFG (YGd _ _) h
 have h2:a/2^d*2^d<2^e:=YFG (Nat.div_mul_le_self _ _) h
 unfold movW cdiv
 rw[YGm,Yno _ _ hd,YfV h1 (by omega),Int.neg_neg,Yvz,YfV h2 (by omega)]
 by_cases c:a/2^d*2^d<a
 ·rw[if_pos (decide_eq_true c),if_pos c]
  exact YfV (e:=e+1) (by rw[YFm];omega) he
 ·rw[if_neg (by rw[decide_eq_false c];decide),if_neg c]
theorem YfM{a b e:Nat}(h:a+b<2^e)(he:e<=32*512):addW a b=a+b:=YfV h he
theorem Yhl{a b e:Nat}(h:a*b<2^e)(he:e<=32*512):mulW a b=a*b:=YfV h he
theorem Yx2{D:Nat}(hD0:64<=D)(hD:D<=4200):∀(f a b S q:Nat),a<=b->b<=2*2^D->S<2^(q-f)->f<=q->q<=4200->
 logL (2*2^D) (D:Int) f a b S=gl (2^D) false f a b S:=by
 intro f
 induction f with
 |zero=>
  intro a b S q _ _ hS _ hq
  rw[logL,gl,YfM (e:=q+1) (by
   have:=Nat.one_le_two_pow (n:=q)
   rw[YFm];rw[Nat.sub_zero]at hS;omega) (by omega)]
 |succ f ih=>
  intro a b S q hab hb hS hfq hq
  have hbb:b*b<=2^(2*D+2):=by
   have:=YFt hb hb
   rw[show 2*D+2=D+1+(D+1)by omega,YFi,YFm,YFc (2^D)]
   exact this
  have haa:a*a<=b*b:=YFt hab hab
  have l1:∀x,x<=2^(2*D+2)->x<2^(2*D+3):=fun x hx=>by
   have:(2:Nat)^(2*D+3)=2*2^(2*D+2):=by rw[Nat.pow_succ',]
   have:=Nat.one_le_two_pow (n:=2*D+2)
   omega
  have ea:mulW a a=a*a:=Yhl (l1 _ (by omega)) (by omega)
  have eb:mulW b b=b*b:=Yhl (l1 _ (by omega)) (by omega)
  have fa:movW (a*a) (-(D:Int)) false=a*a/2^D:=Yvf (by omega) (l1 _ (by omega)) (by omega)
  have fb:movW (b*b) (-(D:Int)) true=cdiv (b*b) (2^D):=YmY (by omega) (l1 _ (by omega)) (by omega)
  have hA:a*a/2^D<=cdiv (b*b) (2^D):=Ydb haa
  have hB:cdiv (b*b) (2^D)<=4*2^D:=Yam (by
   rw[show 2*D+2=2+D+D by omega,YFi,YFi]at hbb
   exact hbb)
  have hB2:cdiv (b*b) (2^D)<2^(D+3):=by
   have:(2:Nat)^(D+3)=8*2^D:=by rw[YFi,YFc]
   have:=Nat.one_le_two_pow (n:=D)
   omega
  have hq2:q-f=q-(f+1)+1:=by omega
  have hS2:2*S+1<2^(q-f):=by rw[hq2,YFm];omega
  have hqq:(2:Nat)^(q-f)<=2^q:=YFq (by decide) (by omega)
  have es1:movW S 1 false=2*S:=by
   have:=Yhk (a:=S) (d:=1) (e:=q) (by rw[YGl];omega) (by omega)
   rw[YGl,YFc]at this
   exact this
  have es2:∀b,b<=1->addW (2*S) b=2*S+b:=fun b hb=>YfM (e:=q) (by omega) (by omega)
  have hSf:(S+1)*2^(f+1)<=2^q:=by
   have:(2:Nat)^q=2^(q-(f+1))*2^(f+1):=by rw[<-YFi];congr 1;omega
   rw[this]
   exact YE9 _ hS
  have hSf0:S*2^(f+1)<=(S+1)*2^(f+1):=YE9 _ (by omega)
  have lq:∀x,x<=2^q->x<2^(q+1):=fun x hx=>by
   have:=Nat.one_le_two_pow (n:=q)
   rw[YFm];omega
  have st1:movW S ((f+1:Nat):Int) false=S*2^(f+1):=Yhk (lq _ (by omega)) (by omega)
  have st2:movW (addW S 1) ((f+1:Nat):Int) false=(S+1)*2^(f+1):=by
   rw[YfM (e:=q+1) (lq _ (by
    have:(2:Nat)^(q-(f+1))<=2^q:=YFq (by decide) (by omega)
    omega)) (by omega)]
   exact Yhk (lq _ (by omega)) (by omega)
  rw[logL,gl,ea,eb,fa,fb,es1,st1,st2]
  by_cases c1:a*a/2^D<2*2^D
  ·rw[if_pos c1,if_pos c1]
   by_cases c2:cdiv (b*b) (2^D)<2*2^D
   ·rw[if_pos c2,if_pos c2,es2 0 (by omega),YF8]
    exact ih _ _ _ q hA (by omega) (by omega) (by omega) hq
   ·rw[if_neg c2,if_neg c2]
  ·have g1:movW (a*a/2^D) (-1) false=a*a/2^D/2:=by
    have:=Yvf (a:=a*a/2^D) (d:=1) (by decide) (YFG hA hB2) (by omega)
    rw[YGl]at this
    exact this
   have g2:movW (cdiv (b*b) (2^D)) (-1) true=cdiv (cdiv (b*b) (2^D)) 2:=by
    have:=YmY (a:=cdiv (b*b) (2^D)) (d:=1) (by decide) hB2 (by omega)
    rw[YGl]at this
    exact this
   rw[if_neg c1,if_neg c1,YGi,if_neg (by decide),g1,g2,es2 1 (by omega)]
   exact ih _ _ _ q (Ydb hA) (Yam (by omega)) (by omega) (by omega) hq
theorem Yx0{n p:Nat}(h1:1<=n)(h2:n<4611686018427387904)(hp:p<=2048):logF (n:Int) p=lN n p:=by
 have hk:lgK n<62:=YcN (by decide) h2
 have hk2:lgK n<2^6:=by rw[show(2:Nat)^6=64 from rfl];omega
 unfold logF lN
 rw[YE4]
 by_cases c:YbC (n:Int)=true
 ·rw[if_pos c,if_pos c]
  have e:movW (lgK n) (p:Int) false=lgK n*2^p:=Yhk (e:=6+p) (by rw[YFi];exact Nat.mul_lt_mul_of_pos_right hk2 (YFF (by decide))) (by omega)
  show(movW (lgK n) (p:Int) false,movW (lgK n) (p:Int) false)=_
  rw[e]
 ·rw[if_neg c,if_neg c]
  obtain⟨D,hD⟩:∃D,D=2*p+64:=⟨_,rfl⟩
  rw[<-hD]
  obtain⟨m1,m2,m3⟩:=mant (D:=D) h1 (by omega)
  have hD1:2*2^D<2^(D+2):=by
   have:(2:Nat)^(D+2)=4*2^D:=by rw[YFi,YFc]
   have:=Nat.one_le_two_pow (n:=D)
   omega
  have ea:movW n ((D:Int)-((Yn n-1:Nat):Int)) false=n*2^(D-lgK n):=by
   rw[show((D:Int)-((Yn n-1:Nat):Int))=((D-lgK n:Nat):Int)by unfold lgK at hk⊢;omega]
   exact Yhk (e:=D+2) (by omega) (by omega)
  have e2:movW 2 (D:Int) false=2*2^D:=Yhk (e:=D+2) hD1 (by omega)
  show logL (movW 2 (D:Int) false) (D:Int) p (movW n ((D:Int)-((Yn n-1:Nat):Int)) false) (movW n ((D:Int)-((Yn n-1:Nat):Int)) false) (lgK n)=_
  rw[ea,e2]
  exact Yx2 (by omega) (by omega) p _ _ _ (p+6) (YFk _) (YGa m2) (by rw[show p+6-p=6 by omega];exact hk2) (by omega) (by omega)
theorem Ykr{n:Nat}(h1:1<=n)(h2:n<4611686018427387904)(c:YbC (n:Int)=true)(p:Nat):2^(lgK n*2^p)<=n^(2^p)/\n^(2^p)<=2^(lgK n*2^p):=by
 have e0:=YmS h1 h2 c
 have e:n^(2^p)=2^(lgK n*2^p):=by
  rw[YFh,<-e0]
 rw[e];exact⟨YFk _,YFk _⟩
theorem Ynd{n:Nat}(h1:1<=n)(h2:n<4611686018427387904):2^(qN n).1<=n^(2^28)/\n^(2^28)<=2^(qN n).2:=by
 unfold qN
 by_cases c:YbC (n:Int)=true
 ·rw[if_pos c]
  exact Ykr h1 h2 c 28
 ·rw[if_neg c]
  have hk:lgK n<62:=YcN (by decide) h2
  obtain⟨m1,m2,m3⟩:=mant (D:=63) h1 (by omega)
  exact Yil _ true (by decide) 28 _ _ _ n (YFr m3) (YFr m3.symm) m1 (YGa m2)
theorem Yfq{n p:Nat}(h1:1<=n)(h2:n<4611686018427387904):2^(lN n p).1<=n^(2^p)/\n^(2^p)<=2^(lN n p).2:=by
 unfold lN
 by_cases c:YbC (n:Int)=true
 ·rw[if_pos c]
  exact Ykr h1 h2 c p
 ·rw[if_neg c]
  have hk:lgK n<62:=YcN (by decide) h2
  obtain⟨m1,m2,m3⟩:=mant (D:=2*p+64) h1 (by omega)
  exact Yil _ false (YFF (by decide)) p _ _ _ n (YFr m3) (YFr m3.symm) m1 (YGa m2)
def upS(g:Nat->Nat):List (Int×Int)->Nat
 | []=>0
 |x::l=>(if x.2<0 then 0 else g x.1.toNat*x.2.toNat)+upS g l
def dnS(g:Nat->Nat):List (Int×Int)->Nat
 | []=>0
 |x::l=>(if x.2<0 then g x.1.toNat*(-x.2).toNat else 0)+dnS g l
def upP:List (Int×Int)->Nat
 | []=>1
 |x::l=>(if x.2<0 then 1 else x.1.toNat^x.2.toNat)*upP l
def dnP:List (Int×Int)->Nat
 | []=>1
 |x::l=>(if x.2<0 then x.1.toNat^(-x.2).toNat else 1)*dnP l
theorem YcR{x:Int×Int}(h:okT x):1<=x.1.toNat/\x.1.toNat<4611686018427387904/\x.1=(x.1.toNat:Int):=by
 obtain⟨h1,h2,h3,h4⟩:=h
 omega
theorem Yeb{K g h n e:Nat}(H:2^g<=n^K/\n^K<=2^h):2^(g*e)<=(n^e)^K/\(n^e)^K<=2^(h*e):=by
 rw[YFh,YFh,<-YFh n,YFc e K,YFh]
 exact⟨YFl H.1 _,YFl H.2 _⟩
theorem Yb9{K:Nat}{g h:Nat->Nat}(H:∀n,1<=n->n<4611686018427387904->2^g n<=n^K/\n^K<=2^h n):∀(l:List (Int×Int)),(∀x,x∈l->okT x)->
 (2^upS g l<=upP l^K/\upP l^K<=2^upS h l)/\2^dnS g l<=dnP l^K/\dnP l^K<=2^dnS h l
 | [],_=>by simp [upS,upP,dnS,dnP]
 |x::l,hl=>by
  obtain⟨⟨a1,a2⟩,b1,b2⟩:=Yb9 H l fun y hy=>hl y (YFp _ hy)
  obtain⟨n1,n2,_⟩:=YcR (hl x (YFs ..))
  have hx:=H _ n1 n2
  rw[upS,upS,upP,dnS,dnS,dnP,YFo,YFo,YFi,YFi,YFi,YFi]
  by_cases c:x.2<0
  ·simp only[if_pos c,YGn,Nat.one_pow,YFR]
   obtain⟨p1,p2⟩:=Yeb (e:=(-x.2).toNat) hx
   exact⟨⟨a1,a2⟩,YFt p1 b1,YFt p2 b2⟩
  ·simp only[if_neg c,YGn,Nat.one_pow,YFR]
   obtain⟨p1,p2⟩:=Yeb (e:=x.2.toNat) hx
   exact⟨⟨YFt p1 a1,YFt p2 a2⟩,b1,b2⟩
theorem S_le{g:Nat->Nat}{B:Nat}(H:∀n,1<=n->n<4611686018427387904->g n<=B):∀(l:List (Int×Int)),(∀x,x∈l->okT x)->upS g l<=l.length*(B*1000000000)/\dnS g l<=l.length*(B*1000000000)
 | [],_=>by simp [upS,dnS]
 |x::l,hl=>by
  obtain⟨a1,a2⟩:=S_le H l fun y hy=>hl y (YFp _ hy)
  have hx:=hl x (YFs ..)
  obtain⟨n1,n2,_⟩:=YcR hx
  obtain⟨_,_,x3,x4⟩:=hx
  have h1:=YFt (H _ n1 n2) (show x.2.toNat<=1000000000 by omega)
  have h2:=YFt (H _ n1 n2) (show(-x.2).toNat<=1000000000 by omega)
  rw[upS,dnS,YF6,YFw,YFR]
  constructor
  ·split <;> omega
  ·split <;> omega
theorem YCN{n:Nat}(h1:1<=n)(h2:n<4611686018427387904):(qN n).1<=(qN n).2/\(qN n).2<=17179869184:=by
 have hs:=Ynd h1 h2
 have hk:lgK n<62:=YcN (by decide) h2
 refine⟨(Nat.pow_le_pow_iff_right (by decide)).1 (YFa hs.1 hs.2),?_⟩
 unfold qN
 split
 ·show lgK n*268435456<=_;omega
 ·have:=(YeX 9223372036854775808 true 28 (n*2^(63-lgK n)) (n*2^(63-lgK n)) (lgK n)).2
  rw[show(2:Nat)^28=268435456 from rfl]at this
  omega
theorem YB0{n p:Nat}(h1:1<=n)(h2:n<4611686018427387904):(lN n p).1<=(lN n p).2/\(lN n p).2<=64*2^p:=by
 have hs:=Yfq (p:=p) h1 h2
 have hk:lgK n<62:=YcN (by decide) h2
 refine⟨(Nat.pow_le_pow_iff_right (by decide)).1 (YFa hs.1 hs.2),?_⟩
 unfold lN
 split
 ·exact YE9 _ (by omega)
 ·exact YFa (YeX _ false p _ _ (lgK n)).2 (YE9 _ (by omega))
theorem Yjq{g h:Nat->Nat}(H:∀n,1<=n->n<4611686018427387904->g n<=h n):∀(l:List (Int×Int)),(∀x,x∈l->okT x)->upS g l<=upS h l/\dnS g l<=dnS h l
 | [],_=>by simp [upS,dnS]
 |x::l,hl=>by
  obtain⟨a1,a2⟩:=Yjq H l fun y hy=>hl y (YFp _ hy)
  obtain⟨n1,n2,_⟩:=YcR (hl x (YFs ..))
  have h1:=YE9 x.2.toNat (H _ n1 n2)
  have h2:=YE9 (-x.2).toNat (H _ n1 n2)
  rw[upS,dnS,upS,dnS]
  constructor
  ·split <;> omega
  ·split <;> omega
def valL(a:Int×Int):Int:=a.1*18446744073709551616+a.2
theorem YrS{M t:Int}(hM:0<M):t/M*M+t%M=t:=Int.ediv_mul_add_emod ..
theorem Yea{a:Int×Int}{x y:Int}(ha:okL a)(h0:0<=x*y)(h:valL a+x*y<340282366920938463463374607431768211456):valL (Ydx a x y)=valL a+x*y:=by
 obtain⟨⟨a0,a1⟩,b0,b1⟩:=ha
 unfold valL at h⊢
 unfold Ydx
 generalize x*y=t at*
 have e1:=YrS (M:=18446744073709551616) (t:=t) (by decide)
 have e2:=YrS (M:=18446744073709551616) (t:=a.2+t%18446744073709551616) (by decide)
 have r1:=Int.emod_nonneg t (show(18446744073709551616:Int)≠0 by decide)
 have r2:=Int.emod_lt_of_pos t (show(0:Int)<18446744073709551616 by decide)
 have r3:=Int.emod_nonneg (a.2+t%18446744073709551616) (show(18446744073709551616:Int)≠0 by decide)
 have r4:=Int.emod_lt_of_pos (a.2+t%18446744073709551616) (show(0:Int)<18446744073709551616 by decide)
 have q1:0<=t/18446744073709551616:=Int.ediv_nonneg h0 (by decide)
 have q2:0<=(a.2+t%18446744073709551616)/18446744073709551616:=Int.ediv_nonneg (by omega) (by decide)
 generalize t%18446744073709551616=lo at*
 generalize t/18446744073709551616=hi at*
 generalize(a.2+lo)%18446744073709551616=r at*
 generalize(a.2+lo)/18446744073709551616=c at*
 rw[YFN (a.1+hi) (by omega),YFN (a.1+hi+c) (by omega)]
 omega
theorem Ykn{a b:Int×Int}(ha:okL a)(hb:okL b):YgP a b=decide (valL b<valL a):=by
 obtain⟨⟨a0,a1⟩,a2,a3⟩:=ha
 obtain⟨⟨b0,b1⟩,b2,b3⟩:=hb
 unfold YgP valL
 by_cases c:b.1<a.1
 ·rw[decide_eq_true c,Bool.true_or,decide_eq_true (by omega)]
 ·rw[decide_eq_false c,Bool.false_or]
  by_cases d:a.1=b.1
  ·rw[decide_eq_true d,YGm,d]
   by_cases e:b.2<a.2
   ·rw[decide_eq_true e,decide_eq_true (by omega)]
   ·rw[decide_eq_false e,decide_eq_false (by omega)]
  ·rw[decide_eq_false d,YGi,decide_eq_false (by omega)]
theorem YmR:∀(l:List (Int×Int))(s:Gss),s.ok->(∀x,x∈l->okT x)->
 valL s.u0+(upS (fun n=>(qN n).1) l:Nat)<340282366920938463463374607431768211456->valL s.u1+(upS (fun n=>(qN n).2) l:Nat)<340282366920938463463374607431768211456->
 valL s.d0+(dnS (fun n=>(qN n).1) l:Nat)<340282366920938463463374607431768211456->valL s.d1+(dnS (fun n=>(qN n).2) l:Nat)<340282366920938463463374607431768211456->
 (l.foldl gssS s).ok/\valL (l.foldl gssS s).u0=valL s.u0+(upS (fun n=>(qN n).1) l:Nat)/\valL (l.foldl gssS s).u1=valL s.u1+(upS (fun n=>(qN n).2) l:Nat)/\
   valL (l.foldl gssS s).d0=valL s.d0+(dnS (fun n=>(qN n).1) l:Nat)/\valL (l.foldl gssS s).d1=valL s.d1+(dnS (fun n=>(qN n).2) l:Nat)
 | [],s,hs,_,_,_,_,_=>by simpa [upS,dnS]using hs
 |x::l,s,hs,hl,h1,h2,h3,h4=>by
  have hx:=hl x (YFs ..)
  obtain⟨n1,n2,n3⟩:=YcR hx
  have hq:YaV x.1=Ypt (qN x.1.toNat):=by
   conv=>lhs;rw[n3]
   exact Yrp n1 n2
  obtain⟨k1,k2,k3,k4⟩:=hs
  have ih:=YmR l (gssS s x) (Yqc s x ⟨k1,k2,k3,k4⟩) fun y hy=>hl y (YFp _ hy)
  rw[upS,Int.natCast_add]at h1 h2
  rw[dnS,Int.natCast_add]at h3 h4
  rw[List.foldl_cons,upS,upS,dnS,dnS,Int.natCast_add,Int.natCast_add,Int.natCast_add,Int.natCast_add]
  by_cases c:x.2<0
  ·rw[if_pos c]at h1 h2 h3 h4
   simp only[if_pos c]
   have c0:¬0<=x.2:=by omega
   have hm:∀z:Nat,(z:Int)*(-x.2)=((z*(-x.2).toNat:Nat):Int):=fun z=>by rw[YFU];congr 1;omega
   have hz:∀z:Nat,0<=(z:Int)*(-x.2):=fun z=>Int.mul_nonneg (by omega) (by omega)
   have e:gssS s x= { s with d0:=Ydx s.d0 ((qN x.1.toNat).1:Nat) (-x.2),d1:=Ydx s.d1 ((qN x.1.toNat).2:Nat) (-x.2)}:=by rw[gssS,if_neg c0,hq];rfl
   have p0:=Yea (x:=((qN x.1.toNat).1:Nat)) (y:= -x.2) k3 (hz _) (by rw[hm];omega)
   have p1:=Yea (x:=((qN x.1.toNat).2:Nat)) (y:= -x.2) k4 (hz _) (by rw[hm];omega)
   rw[hm]at p0 p1
   rw[e]at ih⊢
   simp only at ih h1 h2 h3 h4
   rw[p0,p1]at ih
   obtain⟨i0,i1,i2,i3,i4⟩:=ih (by omega) (by omega) (by omega) (by omega)
   exact⟨i0,by omega,by omega,by omega,by omega⟩
  ·rw[if_neg c]at h1 h2 h3 h4
   simp only[if_neg c]
   have c0:0<=x.2:=by omega
   have hm:∀z:Nat,(z:Int)*x.2=((z*x.2.toNat:Nat):Int):=fun z=>by rw[YFU];congr 1;omega
   have hz:∀z:Nat,0<=(z:Int)*x.2:=fun z=>Int.mul_nonneg (by omega) (by omega)
   have e:gssS s x= { s with u0:=Ydx s.u0 ((qN x.1.toNat).1:Nat) x.2,u1:=Ydx s.u1 ((qN x.1.toNat).2:Nat) x.2}:=by rw[gssS,if_pos c0,hq];rfl
   have p0:=Yea (x:=((qN x.1.toNat).1:Nat)) (y:=x.2) k1 (hz _) (by rw[hm];omega)
   have p1:=Yea (x:=((qN x.1.toNat).2:Nat)) (y:=x.2) k2 (hz _) (by rw[hm];omega)
   rw[hm]at p0 p1
   rw[e]at ih⊢
   simp only at ih h1 h2 h3 h4
   rw[p0,p1]at ih
   obtain⟨i0,i1,i2,i3,i4⟩:=ih (by omega) (by omega) (by omega) (by omega)
   exact⟨i0,by omega,by omega,by omega,by omega⟩
theorem YtB{l:List (Int×Int)}(hl:∀x,x∈l->okT x)(hn:l.length<=100):Yf9 l=
 if dnS (fun n=>(qN n).2) l<upS (fun n=>(qN n).1) l then(1,true)else if upS (fun n=>(qN n).2) l<dnS (fun n=>(qN n).1) l then(-1,true)else(0,false):=by
 obtain⟨a1,a2⟩:=S_le (g:=fun n=>(qN n).2) (fun n h1 h2=>(YCN h1 h2).2) l hl
 obtain⟨b1,b2⟩:=Yjq (g:=fun n=>(qN n).1) (h:=fun n=>(qN n).2) (fun n h1 h2=>(YCN h1 h2).1) l hl
 have hb:l.length*(17179869184*1000000000)<=100*(17179869184*1000000000):=YE9 _ hn
 have z:valL (0,0)=0:=rfl
 have h0:gss0.ok:=by simp [Gss.ok,gss0,okL]
 obtain⟨⟨k1,k2,k3,k4⟩,v1,v2,v3,v4⟩:=YmR l gss0 h0 hl (by show valL (0,0)+_<_;omega) (by show valL (0,0)+_<_;omega) (by show valL (0,0)+_<_;omega) (by show valL (0,0)+_<_;omega)
 have v1:valL (l.foldl gssS gss0).u0=(upS (fun n=>(qN n).1) l:Nat):=by rw[v1];show valL (0,0)+_=_;omega
 have v2:valL (l.foldl gssS gss0).u1=(upS (fun n=>(qN n).2) l:Nat):=by rw[v2];show valL (0,0)+_=_;omega
 have v3:valL (l.foldl gssS gss0).d0=(dnS (fun n=>(qN n).1) l:Nat):=by rw[v3];show valL (0,0)+_=_;omega
 have v4:valL (l.foldl gssS gss0).d1=(dnS (fun n=>(qN n).2) l:Nat):=by rw[v4];show valL (0,0)+_=_;omega
 unfold Yf9
 simp only
 rw[Ykn k1 k4,Ykn k3 k2,v1,v2,v3,v4]
 simp only[Int.ofNat_lt,decide_eq_true_eq]
theorem YkI{p:Nat}(hp:p<=2048):∀(l:List (Int×Int))(s:Bnd)(e:Nat),(∀x,x∈l->okT x)->e<=32*512->
 s.ul+upS (fun n=>(lN n p).1) l<2^e->s.uh+upS (fun n=>(lN n p).2) l<2^e->s.dl+dnS (fun n=>(lN n p).1) l<2^e->s.dh+dnS (fun n=>(lN n p).2) l<2^e->
 l.foldl (Yc5 p) s=⟨s.ul+upS (fun n=>(lN n p).1) l,s.uh+upS (fun n=>(lN n p).2) l,s.dl+dnS (fun n=>(lN n p).1) l,s.dh+dnS (fun n=>(lN n p).2) l⟩
 | [],s,e,_,_,_,_,_,_=>by simp [upS,dnS]
 |x::l,s,e,hl,he,h1,h2,h3,h4=>by
  have hx:=hl x (YFs ..)
  obtain⟨n1,n2,n3⟩:=YcR hx
  have hq:logF x.1 p=lN x.1.toNat p:=by
   conv=>lhs;rw[n3]
   exact Yx0 n1 n2 hp
  have ih:=YkI hp l (Yc5 p s x) e (fun y hy=>hl y (YFp _ hy)) he
  rw[upS]at h1 h2
  rw[dnS]at h3 h4
  rw[List.foldl_cons,upS,upS,dnS,dnS]
  by_cases c:x.2<0
  ·rw[if_pos c]at h1 h2 h3 h4
   simp only[if_pos c]
   have e:Yc5 p s x= { s with dl:=s.dl+(lN x.1.toNat p).1*(-x.2).toNat,dh:=s.dh+(lN x.1.toNat p).2*(-x.2).toNat}:=by
    rw[Yc5,if_pos c,hq]
    rw[Yhl (e:=e) (by omega) he,Yhl (e:=e) (by omega) he,YfM (e:=e) (by omega) he,YfM (e:=e) (by omega) he]
   rw[e]at ih⊢
   simp only at ih
   rw[ih (by omega) (by omega) (by omega) (by omega)]
   simp only[Bnd.mk.injEq]
   omega
  ·rw[if_neg c]at h1 h2 h3 h4
   simp only[if_neg c]
   have e:Yc5 p s x= { s with ul:=s.ul+(lN x.1.toNat p).1*x.2.toNat,uh:=s.uh+(lN x.1.toNat p).2*x.2.toNat}:=by
    rw[Yc5,if_neg c,hq]
    rw[Yhl (e:=e) (by omega) he,Yhl (e:=e) (by omega) he,YfM (e:=e) (by omega) he,YfM (e:=e) (by omega) he]
   rw[e]at ih⊢
   simp only at ih
   rw[ih (by omega) (by omega) (by omega) (by omega)]
   simp only[Bnd.mk.injEq]
   omega
theorem Yzb{l:List (Int×Int)}{p:Nat}(hp:p<=2048)(hl:∀x,x∈l->okT x)(hn:l.length<=100):Yb5 l p=⟨upS (fun n=>(lN n p).1) l,upS (fun n=>(lN n p).2) l,dnS (fun n=>(lN n p).1) l,dnS (fun n=>(lN n p).2) l⟩:=by
 obtain⟨a1,a2⟩:=S_le (g:=fun n=>(lN n p).2) (B:=64*2^p) (fun n h1 h2=>(YB0 h1 h2).2) l hl
 obtain⟨b1,b2⟩:=Yjq (g:=fun n=>(lN n p).1) (h:=fun n=>(lN n p).2) (fun n h1 h2=>(YB0 h1 h2).1) l hl
 have hb:l.length*(64*2^p*1000000000)<=100*(64*2^p*1000000000):=YE9 _ hn
 have hp2:100*(64*2^p*1000000000)<2^(p+43):=by
  have:(2:Nat)^(p+43)=8796093022208*2^p:=by rw[YFi,YFc]
  have:=Nat.one_le_two_pow (n:=p)
  omega
 unfold Yb5
 rw[YkI hp l ⟨0,0,0,0⟩ (p+43) hl (by omega) (by simp only;omega) (by simp only;omega) (by simp only;omega) (by simp only;omega)]
 simp only[YGh]
set_option maxRecDepth 100000
inductive Spn (L:List Nat):Nat->Prop
 |one:Spn L 1
 |mul {x y:Nat}:x∈L->Spn L y->Spn L (x*y)
theorem Spn.mem{L:List Nat}{x:Nat}(h:x∈L):Spn L x:=by
 have:=Spn.mul h Spn.one
 rwa [YGb]at this
theorem Spn.mul2{L:List Nat}{x y:Nat}(hx:Spn L x)(hy:Spn L y):Spn L (x*y):=by
 induction hx with
 |one=>rwa [YFR]
 |mul h _ ih=>rw[YFg];exact .mul h ih
theorem Spn.sub{L L':List Nat}(h:∀x,x∈L->Spn L' x){y:Nat}(hy:Spn L y):Spn L' y:=by
 induction hy with
 |one=>exact .one
 |mul hx _ ih=>exact(h _ hx).mul2 ih
def Cop(r:List Nat):Prop:=r.Pairwise fun a b=>YF1 a b=1
theorem YdZ{B:Nat}:∀{f:Nat}{wait out:List Nat},DrOk B f wait out->Cop out->Cop (Ycf f wait out)/\∀y,Spn (out++wait) y->Spn (Ycf f wait out) y
 |0,wait,out,h,hc=>by
  have hw:wait=[]:=List.length_eq_zero_iff.1 (by have:=h.mu;omega)
  rw[Ycf,hw,List.append_nil]
  exact⟨hc,fun _ h=>h⟩
 |f+1,wait,out,h,hc=>by
  rw[Ycf]
  by_cases hw:wait.length=0
  ·rw[if_pos hw]
   have hw:wait=[]:=List.length_eq_zero_iff.1 hw
   rw[hw,List.append_nil]
   exact⟨hc,fun _ h=>h⟩
  ·rw[if_neg hw]
   have e:=Ydt hw
   by_cases h1:wait.getD (wait.length-1) 0=1
   ·rw[if_pos h1]
    obtain⟨g,hg,hd⟩:=h.pop hw h1
    obtain rfl:f=g:=by omega
    obtain⟨k1,k2⟩:=YdZ hd hc
    refine⟨k1,fun y hy=>k2 y (hy.sub fun x hx=>?_)⟩
    rw[e,YFM,YFM,YFO]at hx
    rcases hx with hx|hx|hx
    ·exact .mem (List.mem_append_left _ hx)
    ·exact .mem (List.mem_append_right _ hx)
    ·rw[hx,h1];exact .one
   ·rw[if_neg h1]
    have hsp:=Ycl (f:=fun i=>decide (1<YF1 (out.getD i 0) (wait.getD (wait.length-1) 0))) out.length 0
    have hn:1<=wait.getD (wait.length-1) 0:=(h.wp _ (Yl (l:=wait) (i:=wait.length-1) (by omega))).1
    by_cases h2:hitF out (wait.getD (wait.length-1) 0)<out.length
    ·rw[if_pos h2]
     have hs:=hsp.2.2.2 (by simpa [hitF]using h2)
     obtain⟨g,hg,hd⟩:=h.hit hw h2 (of_decide_eq_true hs)
     obtain rfl:f=g:=by omega
     have e':=Yns h2
     generalize hitF out (wait.getD (wait.length-1) 0)=i at*
     have hsub:List.Sublist (out.take i++out.drop (i+1)) out:=by
      conv=>rhs;rw[e']
      exact(List.sublist_cons_self _ _).append_left _
     obtain⟨k1,k2⟩:=YdZ hd (List.Pairwise.sublist hsub hc)
     refine⟨k1,fun y hy=>k2 y (hy.sub fun x hx=>?_)⟩
     generalize hL:out.take i++out.drop (i+1)++(wait.take (wait.length-1)++[YF1 (out.getD i 0) (wait.getD (wait.length-1) 0),out.getD i 0/YF1 (out.getD i 0) (wait.getD (wait.length-1) 0),wait.getD (wait.length-1) 0/YF1 (out.getD i 0) (wait.getD (wait.length-1) 0)])=L
     have mL:∀z,z∈out.take i\/z∈out.drop (i+1)\/z∈wait.take (wait.length-1)\/z=YF1 (out.getD i 0) (wait.getD (wait.length-1) 0)\/z=out.getD i 0/YF1 (out.getD i 0) (wait.getD (wait.length-1) 0)\/z=wait.getD (wait.length-1) 0/YF1 (out.getD i 0) (wait.getD (wait.length-1) 0)->Spn L z:=fun z hz=>by
      refine .mem ?_
      rw[<-hL]
      simp only[YFM,YFA,List.not_mem_nil,or_false]
      rcases hz with hz|hz|hz|hz|hz|hz
      ·exact .inl (.inl hz)
      ·exact .inl (.inr hz)
      ·exact .inr (.inl hz)
      ·exact .inr (.inr (.inl hz))
      ·exact .inr (.inr (.inr (.inl hz)))
      ·exact .inr (.inr (.inr (.inr hz)))
     rcases YFM.1 hx with hx|hx
     ·rw[e']at hx
      rcases YFM.1 hx with hx|hx
      ·exact mL _ (.inl hx)
      ·rcases YFA.1 hx with hx|hx
       ·rw[hx]
        have:=(mL _ (.inr (.inr (.inr (.inl rfl))))).mul2 (mL _ (.inr (.inr (.inr (.inr (.inl rfl))))))
        rwa [Nat.mul_div_cancel' (Nat.gcd_dvd_left _ _)]at this
       ·exact mL _ (.inr (.inl hx))
     ·rw[e]at hx
      rcases YFM.1 hx with hx|hx
      ·exact mL _ (.inr (.inr (.inl hx)))
      ·rw[YFO]at hx
       rw[hx]
       have:=(mL _ (.inr (.inr (.inr (.inl rfl))))).mul2 (mL _ (.inr (.inr (.inr (.inr (.inr rfl))))))
       rwa [Nat.mul_div_cancel' (Nat.gcd_dvd_right _ _)]at this
    ·rw[if_neg h2]
     obtain⟨g,hg,hd⟩:=h.push hw h1
     obtain rfl:f=g:=by omega
     have hcop:Cop (out++[wait.getD (wait.length-1) 0]):=by
      refine List.pairwise_append.2 ⟨hc,List.pairwise_singleton _ _,fun a ha b hb=>?_⟩
      rw[YFO]at hb
      rw[hb]
      obtain⟨j,hj,hja⟩:=Ydi ha
      have:=hsp.2.2.1 j (by omega) (by show j<hitF out _;omega)
      have:=of_decide_eq_false this
      rw[show out.getD j 0=a from hja]at this
      have:=Nat.gcd_pos_of_pos_right a hn
      omega
     obtain⟨k1,k2⟩:=YdZ hd hcop
     refine⟨k1,fun y hy=>k2 y (hy.sub fun x hx=>?_)⟩
     rw[e,YFM,YFM,YFO]at hx
     refine .mem ?_
     rw[YFM,YFM,YFO]
     rcases hx with hx|hx|hx
     ·exact .inl (.inl hx)
     ·exact .inr hx
     ·exact .inl (.inr hx)
theorem Ymh{l:List (Int×Int)}(hl:∀x,x∈l->okT x)(hn:l.length<=20):Cop (YhS l)/\∀x,x∈l->Spn (YhS l) x.1.toNat:=by
 have key:∀i,i<=l.length->((∀x,x∈(l.take i).foldl Ya7 []->2<=x/\x<=1099511627776)/\Yn (Yq ((l.take i).foldl Ya7 []))<=40*i+1)/\Cop ((l.take i).foldl Ya7 [])/\∀x,x∈l.take i->Spn ((l.take i).foldl Ya7 []) x.1.toNat:=fun i=>by
  induction i with
  |zero=>exact fun _=>⟨⟨fun x hx=>absurd hx (by simp),by simp [Yq];decide⟩,List.Pairwise.nil,fun x hx=>absurd hx (by simp)⟩
  |succ i ih=>
   intro hi
   obtain⟨⟨h1,h2⟩,h3,h4⟩:=ih (by omega)
   have hx:=hl _ (Yl (by omega:i<l.length))
   rw[Yp (by omega),Yaf (by omega)]
   obtain⟨q0,q1,q2,q3⟩:=hx
   have hd:=DrOk.start (N:=(l.getD i default).1.toNat) (by omega) (by omega) h1 h2 (by omega)
   obtain⟨d1,d2⟩:=YdZ hd h3
   refine⟨YcE hd,d1,fun y hy=>?_⟩
   rcases YFM.1 hy with hy|hy
   ·exact d2 _ ((h4 y hy).sub fun z hz=> .mem (List.mem_append_left _ hz))
   ·rw[YFO]at hy
    rw[hy]
    exact d2 _ (.mem (List.mem_append_right _ (YFO.2 rfl)))
 have:=(key l.length (YFk _)).2
 rwa [YF4]at this
def vl:Nat->Nat->Nat->Nat
 |0,_,_=>0
 |f+1,b,x=>if x%b=0 then vl f b (x/b)+1 else 0
theorem YlL{b:Nat}(hb:2<=b):∀(f x:Nat),1<=x->x<2^f->∀e,b^e∣x↔e<=vl f b x
 |0,x,h1,h2,_=>by simp at h2;omega
 |f+1,x,h1,h2,e=>by
  rw[vl]
  by_cases c:x%b=0
  ·rw[if_pos c]
   obtain⟨y,rfl⟩:=Nat.dvd_of_mod_eq_zero c
   have hy:1<=y:=Nat.pos_of_ne_zero fun h=>by rw[h,Nat.mul_zero]at h1;omega
   rw[Nat.mul_div_cancel_left _ (by omega)]
   have hy2:y<2^f:=by
    have:2*y<=b*y:=YE9 _ hb
    rw[YFm]at h2;omega
   cases e with
   |zero=>simp
   |succ e=>
    rw[YFm,YFc,Nat.mul_dvd_mul_iff_left (by omega),YlL hb f y hy hy2]
    omega
  ·rw[if_neg c]
   cases e with
   |zero=>simp
   |succ e=>
    refine⟨fun h=>absurd (Nat.mod_eq_zero_of_dvd (Nat.dvd_trans ⟨b^e,by rw[YFm,YFc]⟩ h)) c,fun h=>by omega⟩
theorem YEW{r:List Nat}(hc:Cop r)(h2:∀x,x∈r->2<=x){b c y:Nat}(hb:b∈r)(hcm:c∈r)(hy:1<=y)(hyl:c*y<2^64):vl 64 b (c*y)=vl 64 b y+if b=c then 1 else 0:=by
 have hb2:=h2 _ hb
 have hc2:=h2 _ hcm
 have hcy:1<=c*y:=YF3 (by omega) hy
 have hy2:y<2^64:=YFG (Nat.le_mul_of_pos_left _ (by omega)) hyl
 have s1:=YlL hb2 64 (c*y) hcy hyl
 have s2:=YlL hb2 64 y hy hy2
 have ext:∀A B:Nat,(∀e,e<=A↔e<=B)->A=B:=fun A B h=>Nat.le_antisymm ((h A).1 (YFk _)) ((h B).2 (YFk _))
 refine ext _ _ fun e=>?_
 rw[<-s1 e]
 by_cases ebc:b=c
 ·rw[if_pos ebc,<-ebc]
  cases e with
  |zero=>simp
  |succ e=>
   rw[YFm,YFc,Nat.mul_dvd_mul_iff_left (by omega),s2 e]
   omega
 ·rw[if_neg ebc,YF8,<-s2 e]
  have hg:YF1 b c=1:=by
   obtain⟨i,hi,rfl⟩:=List.mem_iff_getElem.1 hb
   obtain⟨j,hj,rfl⟩:=List.mem_iff_getElem.1 hcm
   rcases Nat.lt_trichotomy i j with h|h|h
   ·exact List.pairwise_iff_getElem.1 hc i j hi hj h
   ·subst h;exact absurd rfl ebc
   ·rw[Nat.gcd_comm];exact List.pairwise_iff_getElem.1 hc j i hj hi h
  exact⟨fun h=>Nat.Coprime.dvd_of_dvd_mul_left (Nat.Coprime.pow_left e hg) h,fun h=>Nat.dvd_trans h (Nat.dvd_mul_left _ _)⟩
def PV(e:Nat->Nat):List Nat->Nat
 | []=>1
 |b::r=>b^e b*PV e r
theorem YaK{e e':Nat->Nat}:∀{r:List Nat},(∀b,b∈r->e b=e' b)->PV e r=PV e' r
 | [],_=>rfl
 |b::r,h=>by rw[PV,PV,h b (YFs ..),YaK fun x hx=>h x (YFp _ hx)]
theorem YfA:∀(r:List Nat),PV (fun _=>0) r=1
 | []=>rfl
 |b::r=>by rw[PV,YfA r];rfl
theorem YlN(e e':Nat->Nat):∀(r:List Nat),PV (fun b=>e b+e' b) r=PV e r*PV e' r
 | []=>rfl
 |b::r=>by rw[PV,PV,PV,YlN e e' r,YFi,Nat.mul_mul_mul_comm]
theorem Yoi(e:Nat->Nat)(k:Nat):∀(r:List Nat),PV (fun b=>e b*k) r=PV e r^k
 | []=>by simp [PV]
 |b::r=>by rw[PV,PV,Yoi e k r,YFh,YFo]
theorem YuG{c:Nat}:∀{r:List Nat},Cop r->(∀x,x∈r->2<=x)->c∈r->PV (fun b=>if b=c then 1 else 0) r=c
 |b::r,hc,h2,hm=>by
  obtain⟨g1,g2⟩:=List.pairwise_cons.1 hc
  have hb2:=h2 b (YFs ..)
  rw[PV]
  by_cases e:b=c
  ·subst e
   rw[if_pos rfl,YGl]
   have:PV (fun x=>if x=b then 1 else 0) r=PV (fun _=>0) r:=YaK fun x hx=>by
    refine if_neg fun hh=>?_
    have:=g1 x hx
    rw[hh,Nat.gcd_self]at this
    omega
   rw[this,YfA,YGb]
  ·rw[if_neg e,YGn,YFR]
   refine YuG g2 (fun x hx=>h2 x (YFp _ hx)) ?_
   rcases YFA.1 hm with h|h
   ·exact absurd h.symm e
   ·exact h
theorem PV_is{r:List Nat}(hc:Cop r)(h2:∀x,x∈r->2<=x){y:Nat}(hy:Spn r y):1<=y/\(y<2^64->PV (fun b=>vl 64 b y) r=y):=by
 induction hy with
 |one=>
  refine⟨YFk _,fun _=>?_⟩
  rw[YaK (e':=fun _=>0) fun b hb=>?_,YfA]
  have hb2:=h2 b hb
  rw[vl,if_neg (by rw[YFT (by omega)];decide)]
 | @mul x y hx _ ih=>
   obtain⟨i1,i2⟩:=ih
   have hx2:=h2 x hx
   refine⟨YF3 (by omega) i1,fun hlt=>?_⟩
   rw[YaK fun b hb=>YEW hc h2 hb hx i1 hlt,YlN,YuG hc h2 hx,i2 (YFG (Nat.le_mul_of_pos_left _ (by omega)) hlt),YFc]
theorem Yw3{b:Nat}(hb:2<=b)(hbl:b<=1099511627776){num:Int}(hn: -1000000000<=num/\num<=1000000000):∀(f x:Nat)(s:Int),x<4611686018427387904->f<=64-> -1000000000000000+f*1000000000<=s->s<=1000000000000000-f*1000000000->
 divL f (b:Int) (x:Int) num s=s+num*(vl f b x:Nat):=
 by
 intro f
 induction f with
 |zero=>intro x s _ _ _ _;simp [divL,vl]
 |succ f ih=>
  intro x s hx hf h1 h2
  rw[divL,vl]
  have e1:(x:Int).tmod (b:Int)=((x%b:Nat):Int):=rfl
  have e2:(x:Int).tdiv (b:Int)=((x/b:Nat):Int):=rfl
  rw[e1,e2]
  by_cases c:x%b=0
  ·have hq:x/b<=x:=YGd _ _
   rw[if_pos (by omega),if_pos c]
   generalize x/b=q at*
   rw[YE7 _ (by omega),YE7 (s+num) (by omega),ih q (s+num) (by omega) (by omega) (by omega) (by omega),Int.natCast_add,Int.mul_add]
   simp only[Int.natCast_one,Int.mul_one]
   omega
  ·rw[if_neg (by omega),if_neg c];simp
theorem Ylz{b:Nat}(hb:2<=b)(hbl:b<=1099511627776):∀(l:List (Int×Int))(s:Int),(∀x,x∈l->okT x)->l.length<=100-> -1000000000000000+(l.length+1)*64000000000<=s->s<=1000000000000000-(l.length+1)*64000000000->
 l.foldl (fun s x=>divL 64 b x.1 x.2 s) s=s+(upS (vl 64 b) l:Nat)-(dnS (vl 64 b) l:Nat):=
 by
 intro l
 induction l with
 |nil=>intro s _ _ _ _;simp [upS,dnS]
 |cons x l ihl=>
  intro s hl hn h1 h2
  have hx:=hl x (YFs ..)
  obtain⟨n1,n2,n3⟩:=YcR hx
  obtain⟨_,_,x3,x4⟩:=hx
  rw[YF6]at hn h1 h2
  have hv:vl 64 b x.1.toNat<=64:=by
   have key:∀f y,vl f b y<=f:=fun f=>by
    induction f with
    |zero=>intro y;exact YFk _
    |succ f ih=>
     intro y
     rw[vl]
     split
     ·have:=ih (y/b);omega
     ·omega
   exact key 64 _
  have hd:divL 64 (b:Int) x.1 x.2 s=s+x.2*(vl 64 b x.1.toNat:Nat):=by
   conv=>lhs;rw[n3]
   exact Yw3 hb hbl ⟨x3,x4⟩ 64 _ s n2 (by decide) (by omega) (by omega)
  have hb1:x.2*(vl 64 b x.1.toNat:Nat)<=1000000000*64:=by
   refine Int.le_trans (YFz x4 (by omega)) ?_
   exact Int.mul_le_mul_of_nonneg_left (by omega) (by decide)
  have hb2: -1000000000*64<=x.2*(vl 64 b x.1.toNat:Nat):=by
   refine Int.le_trans ?_ (YFz x3 (by omega))
   omega
  rw[List.foldl_cons,hd,ihl _ (fun y hy=>hl y (YFp _ hy)) (by omega) (by omega) (by omega),upS,dnS]
  by_cases c:x.2<0
  ·rw[if_pos c,if_pos c]
   have:x.2*(vl 64 b x.1.toNat:Nat)= -((vl 64 b x.1.toNat*(-x.2).toNat:Nat):Int):=by
    rw[YFU,show(((-x.2).toNat:Nat):Int)= -x.2 by omega,Int.mul_neg,Int.neg_neg,Int.mul_comm]
   rw[this];omega
  ·rw[if_neg c,if_neg c]
   have:x.2*(vl 64 b x.1.toNat:Nat)=((vl 64 b x.1.toNat*x.2.toNat:Nat):Int):=by
    rw[YFU,show((x.2.toNat:Nat):Int)=x.2 by omega,Int.mul_comm]
   rw[this];omega
theorem P_is{r:List Nat}(hc:Cop r)(h2:∀x,x∈r->2<=x):∀(l:List (Int×Int)),(∀x,x∈l->okT x/\Spn r x.1.toNat)->
 upP l=PV (fun b=>upS (vl 64 b) l) r/\dnP l=PV (fun b=>dnS (vl 64 b) l) r
 | [],_=>by
   constructor
   ·exact(YfA r).symm
   ·exact(YfA r).symm
 |x::l,hl=>by
  obtain⟨i1,i2⟩:=P_is hc h2 l fun y hy=>hl y (YFp _ hy)
  obtain⟨hx,hs⟩:=hl x (YFs ..)
  obtain⟨n1,n2,n3⟩:=YcR hx
  have e:=(PV_is hc h2 hs).2 (by omega)
  rw[upP,dnP,i1,i2]
  by_cases c:x.2<0
  ·rw[if_pos c,if_pos c]
   constructor
   ·rw[YFR]
    exact YaK fun b _=>by rw[upS,if_pos c,YGh]
   ·have:∀b,dnS (vl 64 b) (x::l)=vl 64 b x.1.toNat*(-x.2).toNat+dnS (vl 64 b) l:=fun b=>by rw[dnS,if_pos c]
    rw[YaK fun b _=>this b,YlN,Yoi,e]
  ·rw[if_neg c,if_neg c]
   constructor
   ·have:∀b,upS (vl 64 b) (x::l)=vl 64 b x.1.toNat*x.2.toNat+upS (vl 64 b) l:=fun b=>by rw[upS,if_neg c]
    rw[YaK fun b _=>this b,YlN,Yoi,e]
   ·rw[YFR]
    exact YaK fun b _=>by rw[dnS,if_neg c,YGh]
theorem Ykl{l:List (Int×Int)}(hl:∀x,x∈l->okT x)(hn:l.length<=20)(h:oneF l=true):upP l=dnP l:=by
 obtain⟨hc,hs⟩:=Ymh hl hn
 have hr:=YfQ hl hn
 obtain⟨e1,e2⟩:=P_is hc (fun x hx=>(hr x hx).1) l fun x hx=>⟨hl x hx,hs x hx⟩
 rw[e1,e2]
 refine YaK fun b hb=>?_
 have hb2:=hr b hb
 have h0:=of_decide_eq_true (List.all_eq_true.1 h b hb)
 unfold sumB at h0
 rw[Ylz hb2.1 hb2.2 l 0 hl (by omega) (by omega) (by omega)]at h0
 omega
def Und(l:List (Int×Int))(p:Nat):Prop:=upS (fun n=>(lN n p).1) l<=dnS (fun n=>(lN n p).2) l/\dnS (fun n=>(lN n p).1) l<=upS (fun n=>(lN n p).2) l
theorem YqQ{a b K:Nat}(h:a^K<b^K):a<b:=by
 refine Nat.lt_of_not_le fun hh=>?_
 have:=YFl hh K
 omega
theorem Ybk{a b x y K:Nat}(ha:a^K<=2^x)(hb:2^y<=b^K)(h:x<y):a<b:=by
 refine YqQ (K:=K) ?_
 have:(2:Nat)^x<2^y:=(Nat.pow_lt_pow_iff_right (by decide)).2 h
 omega
theorem Ylw{l:List (Int×Int)}(hl:∀x,x∈l->okT x)(hn:l.length<=20):∀(f p:Nat),1<=f->1<=p->p*2^f=4096->
 (Yc4 f l p=1->dnP l<upP l)/\(Yc4 f l p= -1->upP l<dnP l)/\(Yc4 f l p=0->Und l 2048)/\(Yc4 f l p=1\/Yc4 f l p= -1\/Yc4 f l p=0):=by
 intro f
 induction f with
 |zero=>intro p h;omega
 |succ f ih=>
  intro p _ hp1 hp
  have h1:=YF f
  rw[YFm]at hp
  have hp2:p<=2048:=by
   have:p*2<=p*(2^f*2):=YFe _ (by omega)
   omega
  have hs:=Yzb (p:=p) hp2 hl (by omega)
  obtain⟨⟨a1,a2⟩,b1,b2⟩:=Yb9 (K:=2^p) (g:=fun n=>(lN n p).1) (h:=fun n=>(lN n p).2) (fun n k1 k2=>Yfq k1 k2) l hl
  rw[Yc4,hs]
  dsimp only
  by_cases c1:dnS (fun n=>(lN n p).2) l<upS (fun n=>(lN n p).1) l
  ·rw[if_pos c1]
   exact⟨fun _=>Ybk b2 a1 c1,fun h=>absurd h (by decide),fun h=>absurd h (by decide),Or.inl rfl⟩
  ·rw[if_neg c1]
   by_cases c2:upS (fun n=>(lN n p).2) l<dnS (fun n=>(lN n p).1) l
   ·rw[if_pos c2]
    exact⟨fun h=>absurd h (by decide),fun _=>Ybk a2 b1 c2,fun h=>absurd h (by decide),Or.inr (Or.inl rfl)⟩
   ·rw[if_neg c2]
    rcases YFB f with h0|h0
    ·subst h0
     have e:p=2048:=by rw[YGn]at hp;omega
     subst e
     exact⟨fun h=>absurd h (by rw[Yc4];decide),fun h=>absurd h (by rw[Yc4];decide),fun _=>⟨by omega,by omega⟩,Or.inr (Or.inr rfl)⟩
    ·exact ih (2*p) h0 (by omega) (by rw[<-hp,YFc 2 p,YFg,YFc 2])
theorem Yn3{l:List (Int×Int)}(hl:∀x,x∈l->okT x)(hn:l.length<=20):
 (YeO l=1->dnP l<upP l)/\(YeO l= -1->upP l<dnP l)/\(YeO l=0->oneF l=true\/Und l 2048)/\(YeO l=1\/YeO l= -1\/YeO l=0):=by
 have hg:=YtB hl (by omega)
 obtain⟨⟨a1,a2⟩,b1,b2⟩:=Yb9 (K:=2^28) (g:=fun n=>(qN n).1) (h:=fun n=>(qN n).2) (fun n k1 k2=>Ynd k1 k2) l hl
 unfold YeO
 by_cases c1:dnS (fun n=>(qN n).2) l<upS (fun n=>(qN n).1) l
 ·rw[if_pos c1]at hg
  rw[hg,if_pos rfl]
  exact⟨fun _=>Ybk b2 a1 c1,fun h=>absurd h (by decide),fun h=>absurd h (by decide),Or.inl rfl⟩
 ·rw[if_neg c1]at hg
  by_cases c2:upS (fun n=>(qN n).2) l<dnS (fun n=>(qN n).1) l
  ·rw[if_pos c2]at hg
   rw[hg,if_pos rfl]
   exact⟨fun h=>absurd h (by decide),fun _=>Ybk a2 b1 c2,fun h=>absurd h (by decide),Or.inr (Or.inl rfl)⟩
  ·rw[if_neg c2]at hg
   rw[hg,if_neg (by decide)]
   by_cases c3:oneF l=true
   ·rw[if_pos c3]
    exact⟨fun h=>absurd h (by decide),fun h=>absurd h (by decide),fun _=>Or.inl c3,Or.inr (Or.inr rfl)⟩
   ·rw[if_neg c3]
    obtain⟨k1,k2,k3,k4⟩:=Ylw hl hn 6 64 (by decide) (by decide) (by decide)
    exact⟨k1,k2,fun h=>Or.inr (k3 h),k4⟩
theorem Yww{g h w:Nat->Nat}{c:Nat}:∀(l:List (Int×Int)),(∀x,x∈l->h x.1.toNat<=g x.1.toNat+w x.1.toNat*c)->upS h l<=upS g l+upS w l*c/\dnS h l<=dnS g l+dnS w l*c
 | [],_=>by simp [upS,dnS]
 |x::l,H=>by
  obtain⟨i1,i2⟩:=Yww l fun y hy=>H y (YFp _ hy)
  have hx:=H x (YFs ..)
  have key:∀e:Nat,h x.1.toNat*e<=g x.1.toNat*e+w x.1.toNat*e*c:=fun e=>by
   have h1:=YE9 e hx
   rw[YFw]at h1
   rw[YFg (w x.1.toNat),YFc e c,<-YFg]
   exact h1
  rw[upS,upS,upS,dnS,dnS,dnS,YFw,YFw]
  constructor
  ·split
   ·rw[Nat.zero_mul];omega
   ·have:=key x.2.toNat;omega
  ·split
   ·have:=key (-x.2).toNat;omega
   ·rw[Nat.zero_mul];omega
theorem YuA{l:List (Int×Int)}{J:Nat}{w:Nat->Nat}(hJ:J<=2048)(hl:∀x,x∈l->okT x)(hw:∀x,x∈l->(lN x.1.toNat 2048).2<=(lN x.1.toNat 2048).1+w x.1.toNat*2^(2048-J))(h:Und l 2048):
 dnP l^(2^J)<=upP l^(2^J)*2^(upS w l+dnS w l):=by
 obtain⟨⟨a1,a2⟩,b1,b2⟩:=Yb9 (K:=2^2048) (g:=fun n=>(lN n 2048).1) (h:=fun n=>(lN n 2048).2) (fun n k1 k2=>Yfq k1 k2) l hl
 obtain⟨s1,s2⟩:=Yww (g:=fun n=>(lN n 2048).1) (h:=fun n=>(lN n 2048).2) (w:=w) (c:=2^(2048-J)) l hw
 obtain⟨_,h2⟩:=h
 obtain⟨c,hc⟩:∃c,c=2^(2048-J):=⟨_,rfl⟩
 obtain⟨K,hK⟩:∃K,K=(2:Nat)^2048:=⟨_,rfl⟩
 have hc0:c≠0:=by rw[hc];have:=YF (2048-J);omega
 have hKc:K=2^J*c:=by rw[hK,hc,<-YFi];congr 1;omega
 rw[<-hc]at s1 s2
 rw[<-hK]at a1 a2 b1 b2
 rw[<-Nat.pow_le_pow_iff_left hc0,YFo,<-YFh,<-YFh,<-hKc,<-YFh,YFw]
 refine YFa b2 ?_
 refine YFa (YFq (by decide) (show _<=upS (fun n=>(lN n 2048).1) l+(upS w l*c+dnS w l*c)by omega)) ?_
 rw[YFi]
 exact YE9 _ a1
def Near(M W J N m:Nat):Prop:=2^m*M<=N^(2^J)*M+2^m*W/\N^(2^J)*M<=2^m*(M+W)
theorem Near.mono{M W W' J N m:Nat}(h:Near M W J N m)(hw:W<=W'):Near M W' J N m:=by
 obtain⟨h1,h2⟩:=h
 have k1:=YFe (2^m) hw
 have k2:=YFe (2^m) (show M+W<=M+W' by omega)
 exact⟨by omega,by omega⟩
theorem Near.sq{M W J N m:Nat}(hM:0<M)(hW:W<=M)(h:Near M W J N m):Near M (3*W) (J+1) N (2*m):=by
 obtain⟨h1,h2⟩:=h
 unfold Near
 have e0:N^2^(J+1)=N^2^J*N^2^J:=by rw[YFm,YFh,Nat.pow_two]
 rw[e0,YcW]
 generalize N^2^J=X at*
 generalize 2^m=P at*
 constructor
 ·refine YFj (c:=M) ?_ hM
  have k1:P*(M-W)<=X*M:=by rw[Nat.mul_sub];omega
  have k2:=YFt k1 k1
  obtain⟨V,hV⟩:∃V,V=M-W:=⟨_,rfl⟩
  have hM2:M=V+W:=by omega
  rw[<-hV]at k2
  have e1:P*V*(P*V)=P*P*(V*V):=by simp only[YFg,YFY]
  have e2:(X*M)*(X*M)=X*X*M*M:=by simp only[YFg,YFY]
  have e3:P*P*M*M=P*P*(M*M):=by simp only[YFg]
  have e4:(X*X*M+P*P*(3*W))*M=X*X*M*M+P*P*(3*W*M):=by rw[YFw,YFg (P*P)]
  have e5:M*M<=V*V+3*W*M:=by
   rw[hM2,YFw,YFJ,YFJ,YFJ]
   have:W*V=V*W:=YFc ..
   have h3:3*W*V=3*(W*V):=YFg ..
   have h4:3*W*W=3*(W*W):=YFg ..
   omega
  have e6:=YFe (P*P) e5
  rw[YFJ]at e6
  omega
 ·refine YFj (c:=M) ?_ hM
  have k2:=YFt h2 h2
  have e1:P*(M+W)*(P*(M+W))=P*P*((M+W)*(M+W)):=by simp only[YFg,YFY]
  have e2:(X*M)*(X*M)=X*X*M*M:=by simp only[YFg,YFY]
  have e3:P*P*(M+3*W)*M=P*P*((M+3*W)*M):=by simp only[YFg]
  have e5:(M+W)*(M+W)<=(M+3*W)*M:=by
   rw[YFw,YFJ,YFJ,YFw]
   have h3:3*W*M=3*(W*M):=YFg ..
   have h4:M*W=W*M:=YFc ..
   have h5:=YFe W hW
   omega
  have e6:=YFe (P*P) e5
  omega
theorem Yqa(M:Nat)(hM:0<M):∀(J f A B S N w:Nat),J<=f->2^S*A<=N*M->N*M<=2^S*B->M<=A->A<=B->B<=2*M->B<=A+w->
 (gl M false f A B S).2<=(gl M false f A B S).1+2^(f-J)\/∃j m,j<=J/\Near M (4^j*(w+2)) j N m:=by
 intro J
 induction J with
 |zero=>
  intro f A B S N w _ _ _ _ _ _ _
  obtain⟨h1,h2⟩:=YeX M false f A B S
  rw[YFw,YFR]at h2
  left
  rw[Nat.sub_zero]
  omega
 |succ J ih=>
  intro f A B S N w hf h1 h2 ha hab hb hw
  obtain⟨f,rfl⟩:∃g,f=g+1:=⟨f-1,by omega⟩
  have hA:A*A/M*M<=A*A:=Nat.div_mul_le_self _ _
  have hA':A*A<(A*A/M+1)*M:=by
   have:=YFH (A*A) M
   have h3:=YFC (A*A) hM
   rw[YFw,YFR,YFc (A*A/M)];omega
  have hB:B*B<=cdiv (B*B) M*M:=Ya9 _ _ hM
  have k1:=YvC hM h1 hA
  have k2:=YrT hM h2 hB
  have hA1:M<=A*A/M:=(YF0 hM).2 (YFt ha ha)
  have hAB:A*A/M<=cdiv (B*B) M:=Ydb (YFt hab hab)
  have hB1:cdiv (B*B) M<=4*M:=Yam (by
   have:=YFt hb hb
   have e:4*M*M=2*M*(2*M):=by rw[Nat.mul_mul_mul_comm,YFg]
   omega)
  have hW:cdiv (B*B) M<=A*A/M+(4*w+2):=Yam (by
   obtain⟨v,rfl⟩:∃v,B=A+v:=⟨B-A,by omega⟩
   have e:(A+v)*(A+v)=A*A+v*(A+(A+v)):=by
    rw[YFJ,YFw A v A,YFJ v A,YFc (A+v) v]
    omega
   have e2:v*(A+(A+v))<=w*(4*M):=YFt (by omega) (by omega)
   have e3:(A*A/M+(4*w+2))*M=(A*A/M+1)*M+w*(4*M)+M:=by
    rw[YFw,YFw,YFw]
    have:4*w*M=w*(4*M):=by rw[YFc 4 w,YFg]
    omega
   omega)
  have lift:∀{j w':Nat},w'+2<=4*(w+2)->∀{m},j<=J->Near M (4^j*(w'+2)) j (N*N) m->∃j m,j<=J+1/\Near M (4^j*(w+2)) j N m:=fun {j w'} hw' {m} hj hn=>by
   refine⟨j+1,m,by omega,?_⟩
   have hm:4^j*(w'+2)<=4^(j+1)*(w+2):=by
    rw[YFm,YFg]
    exact YFe _ hw'
   have:=hn.mono hm
   unfold Near at this⊢
   rw[Yrb]
   exact this
  rw[gl,Nat.add_sub_add_right]
  split
  ·split
   ·have:=ih f (A*A/M) (cdiv (B*B) M) (2*S) (N*N) (4*w+2) (by omega) (by rw[YcW];exact k1) (by rw[YcW];exact k2) hA1 hAB (by omega) hW
    rcases this with h| ⟨j,m,hj,hn⟩
    ·exact Or.inl h
    ·exact Or.inr (lift (by omega) hj hn)
   ·right
    refine⟨1,2*S+1,by omega,?_⟩
    unfold Near
    rw[YGl,Nat.pow_two,YGl,YFm,YcW]
    have g1:2^S*2^S*(2*M)<=2^S*2^S*(A*A/M+(4*w+2)):=YFe _ (by omega)
    have g2:2^S*2^S*cdiv (B*B) M<=2^S*2^S*(2*M+(4*w+2)):=YFe _ (by omega)
    generalize 2^S*2^S=P at*
    rw[YFJ]at g1 g2
    have e1:P*2*M=P*(2*M):=YFg ..
    have e2:P*2*(4*(w+2))=P*(4*w+2)+P*(4*w+14):=by rw[YFg,<-YFJ];congr 1;omega
    have e3:P*2*(M+4*(w+2))=P*(2*M)+(P*(4*w+2)+P*(4*w+14)):=by rw[YFJ,e1,e2]
    exact⟨by omega,by omega⟩
  ·rw[if_neg (by simp)]
   have c1:A*A/M/2*2<=A*A/M:=Nat.div_mul_le_self _ _
   have c2:cdiv (B*B) M<=cdiv (cdiv (B*B) M) 2*2:=Ya9 _ _ (by decide)
   have e3:∀x,2^(2*S+1)*x=2^S*2^S*(x*2):=fun x=>by rw[YFm,YcW,YFg,YFc 2 x]
   have:=ih f (A*A/M/2) (cdiv (cdiv (B*B) M) 2) (2*S+1) (N*N) (2*w+2) (by omega) (by rw[e3];exact YFa (YFe _ c1) k1) (by rw[e3];exact YFa k2 (YFe _ c2)) (by omega) (Ydb hAB) (Yam (by omega)) (Yam (by omega))
   rcases this with h| ⟨j,m,hj,hn⟩
   ·exact Or.inl h
   ·exact Or.inr (lift (by omega) hj hn)
theorem Near.up{M N:Nat}(hM:0<M):∀(d j W m:Nat),4^d*W<=M->Near M W j N m->∃m',Near M (4^d*W) (j+d) N m'
 |0,j,W,m,_,h=>⟨m,by rw[YGn,YFR];exact h⟩
 |d+1,j,W,m,hW,h=>by
  have e:4^(d+1)*W=4*(4^d*W):=by rw[YFm,YFc (4^d) 4,YFg]
  rw[e]at hW
  obtain⟨m',h'⟩:=Near.up hM d j W m (by omega) h
  exact⟨2*m',by rw[e];exact(Near.sq hM (by omega) h').mono (by omega)⟩
def Yd7(J n:Nat):Prop:=(lN n 2048).2<=(lN n 2048).1+2^(2048-J)
theorem YqX{n J:Nat}(h1:1<=n)(h2:n<4611686018427387904)(hJ:J<=500):Yd7 J n\/(YbC (n:Int)=false/\∃m,Near (2^4160) (2^2160) J n m):=by
 unfold Yd7 lN
 by_cases c:YbC (n:Int)=true
 ·rw[if_pos c]
  left;exact Nat.le_add_right _ _
 ·rw[if_neg c]
  have hk:lgK n<62:=YcN (by decide) h2
  obtain⟨m1,m2,m3⟩:=mant (D:=2*2048+64) h1 (by omega)
  rw[show 2*2048+64=4160 from rfl]at*
  have hM:=YF 4160
  have:=Yqa (2^4160) hM J 2048 _ _ (lgK n) n 0 (by omega) (YFr m3) (YFr m3.symm) m1 (YFk _) (YGa m2) (by omega)
  rcases this with h| ⟨j,m,hj,hn⟩
  ·exact Or.inl h
  ·right
   have e4:∀a,(4:Nat)^a=2^(2*a):=fun a=>by rw[show 4=2^2 from rfl,<-YFh]
   have hle:∀e,1001<=e->4^(J-j)*(4^j*(0+2))<=2^e:=fun e he=>by
    rw[<-YFg,<-YFi,show J-j+j=J by omega,e4,show 0+2=2^1 from rfl,<-YFi]
    exact YFq (by decide) (by omega)
   obtain⟨m',h'⟩:=Near.up hM (J-j) j _ m (hle 4160 (by decide)) hn
   rw[show j+(J-j)=J by omega]at h'
   exact⟨by simpa using c,m',h'.mono (hle 2160 (by decide))⟩
def Rt(R J x y m:Nat):Prop:=x^(2^J)<=2^m*R^(2^J)/\2^m*R^(2^J)<=y^(2^J)
theorem Rt.next{R J x y m c d:Nat}(hR:0<R)(h:Rt R J x y m)(hc:Rt R J c d 1):Rt R J (x*c/R) (y*d/R+1) (m+1):=by
 obtain⟨h1,h2⟩:=h
 obtain⟨c1,c2⟩:=hc
 rw[YGl]at c1 c2
 unfold Rt
 generalize 2^J=Q at*
 have hRQ:0<R^Q:=YFF hR
 rw[YFm]
 generalize 2^m=P at*
 constructor
 ·refine YFj (c:=R^Q) ?_ hRQ
  have k1:(x*c/R*R)^Q<=(x*c)^Q:=YFl (Nat.div_mul_le_self _ _) _
  rw[YFo,YFo]at k1
  have k2:=YFt h1 c1
  have e:P*R^Q*(2*R^Q)=P*2*R^Q*R^Q:=by simp only[YFg,YFY]
  omega
 ·refine YFj (c:=R^Q) ?_ hRQ
  have k0:y*d<=(y*d/R+1)*R:=by
   have:=YFH (y*d) R
   have h3:=YFC (y*d) hR
   rw[YFw,YFR,YFc (y*d/R)];omega
  have k1:(y*d)^Q<=((y*d/R+1)*R)^Q:=YFl k0 _
  rw[YFo,YFo]at k1
  have k2:=YFt h2 c2
  have e:P*R^Q*(2*R^Q)=P*2*R^Q*R^Q:=by simp only[YFg,YFY]
  omega
theorem YnS{n J:Nat}(h1:1<=n)(h2:n<4611686018427387904)(hJ:J<=2045):Yd7 J n\/(YbC (n:Int)=false/\∃m,Near (2^4160) (2^4091) J n m):=by
 unfold Yd7 lN
 by_cases c:YbC (n:Int)=true
 ·rw[if_pos c]
  left;exact Nat.le_add_right _ _
 ·rw[if_neg c]
  have hk:lgK n<62:=YcN (by decide) h2
  obtain⟨m1,m2,m3⟩:=mant (D:=2*2048+64) h1 (by omega)
  rw[show 2*2048+64=4160 from rfl]at*
  have hM:=YF 4160
  have:=Yqa (2^4160) hM J 2048 _ _ (lgK n) n 0 (by omega) (YFr m3) (YFr m3.symm) m1 (YFk _) (YGa m2) (by omega)
  rcases this with h| ⟨j,m,hj,hn⟩
  ·exact Or.inl h
  ·right
   have e4:∀a,(4:Nat)^a=2^(2*a):=fun a=>by rw[show 4=2^2 from rfl,<-YFh]
   have hle:∀e,4091<=e->4^(J-j)*(4^j*(0+2))<=2^e:=fun e he=>by
    rw[<-YFg,<-YFi,show J-j+j=J by omega,e4,show 0+2=2^1 from rfl,<-YFi]
    exact YFq (by decide) (by omega)
   obtain⟨m',h'⟩:=Near.up hM (J-j) j _ m (hle 4160 (by decide)) hn
   rw[show j+(J-j)=J by omega]at h'
   exact⟨by simpa using c,m',h'.mono (hle 4091 (by decide))⟩
end Go.Proofs.YtmiclogmkfobgaaGreat
set_option maxRecDepth 100000
namespace Go.Proofs.YtmiclogmkfobgaaGreat.LS
theorem YA2(Q:Nat):∀n,Q^n*(Q+n)<=Q*(Q+1)^n
 |0=>by simp
 |n+1=>by
  have ih:=YA2 Q n
  have h1:Q^(n+1)*(Q+(n+1))=Q*(Q^n*(Q+n))+Q*Q^n:=by
   rw[YFm,<-Nat.add_assoc,YFJ,YGb,YFc (Q^n) Q,YFg]
  have h2:Q*(Q+1)^(n+1)=Q*(Q*(Q+1)^n)+Q*(Q+1)^n:=by
   rw[YFm,YFJ,YGb,YFJ,YFc ((Q+1)^n) Q]
  have h3:=YFe Q (YFl (show Q<=Q+1 by omega) n)
  have h4:=YFe Q ih
  omega
theorem YwJ(Q:Nat):∀n,(Q+1)^n*(Q+1-n)<=Q^n*(Q+1)
 |0=>by simp
 |n+1=>by
  have ih:=YwJ Q n
  rcases YFu Q n with h|h
  ·have:Q+1-(n+1)=0:=by omega
   rw[this,Nat.mul_zero];exact YGj _
  ·obtain⟨r,rfl⟩:∃r,Q=n+r:=⟨Q-n,by omega⟩
   have e1:n+r+1-(n+1)=r:=by omega
   have e2:n+r+1-n=r+1:=by omega
   rw[e2]at ih
   rw[e1,YFm,YFm]
   have h1:=YE9 (n+r) ih
   have h2:(n+r+1)*r<=(r+1)*(n+r):=by grind
   have h3:=YFe ((n+r+1)^n) h2
   grind
theorem Ydg{a b c d e f:Nat}(hd:0<d)(h1:a*d<=c*b)(h2:c*f<=e*d):a*f<=e*b:=by
 refine YFj (c:=d) ?_ hd
 have k1:=YE9 f h1
 have k2:=YE9 b h2
 have e1:a*f*d=a*d*f:=by ac_rfl
 have e2:c*b*f=c*f*b:=by ac_rfl
 have e3:e*b*d=e*d*b:=by ac_rfl
 omega
theorem e_inc(K:Nat)(hK:0<K):(K+1)^K*(K+1)^(K+1)<=(K+2)^(K+1)*K^K:=by
 have h:=YwJ (K*(K+2)) K
 have e0:K*(K+2)+1=(K+1)*(K+1):=by grind
 rw[e0,YFo,YFo]at h
 have e1:(K+1)*(K+1)-K=K*K+K+1:=by
  have:(K+1)*(K+1)=K*K+K+1+K:=by grind
  omega
 rw[e1]at h
 have h2:=YE9 (K+2) h
 have h3:(K+1)*(K+1)*(K+1)<=(K*K+K+1)*(K+2):=by grind
 have h4:=YFe ((K+1)^K*(K+1)^K) h3
 rw[YFm (K+1),YFm (K+2)]
 refine YFj (c:=(K+1)*(K+1)) ?_ (YF3 (by omega) (by omega))
 generalize(K+1)^K=x at*
 generalize(K+2)^K=y at*
 generalize K^K=z at*
 generalize K+1=p at*
 generalize K*K+K+1=r at*
 generalize K+2=q at*
 have e2:x*(x*p)*(p*p)=x*x*(p*p*p):=by ac_rfl
 have e3:y*q*z*(p*p)=z*y*(p*p)*q:=by ac_rfl
 have e4:x*x*r*q=x*x*(r*q):=by ac_rfl
 omega
theorem e_dec(n:Nat):(n+2)^(n+2)*n^(n+1)<=(n+1)^(n+1)*(n+1)^(n+2):=by
 rcases YFB n with rfl|hn
 ·decide
 have h:=YA2 (n*(n+2)) (n+1)
 have e0:n*(n+2)+1=(n+1)*(n+1):=by grind
 rw[e0,YFo,YFo]at h
 have h2:=YE9 (n+2) h
 have h3:n*(n+2)*(n+2)<=(n+1)*(n*(n+2)+(n+1)):=by grind
 have h4:=YFe ((n+1)^(n+1)*(n+1)^(n+1)) h3
 rw[YFm (n+2) (n+1),YFm (n+1) (n+1)]
 refine YFj (c:=n*(n+2)+(n+1)) ?_ (by omega)
 generalize(n+1)^(n+1)=x at*
 generalize(n+2)^(n+1)=y at*
 generalize n^(n+1)=z at*
 generalize n*(n+2)+(n+1)=r at*
 generalize n+1=p at*
 generalize n+2=q at*
 have e2:y*q*z*r=z*y*r*q:=by ac_rfl
 have e3:x*(x*p)*r=x*x*(p*r):=by ac_rfl
 have e4:n*q*(x*x)*q=x*x*(n*q*q):=by ac_rfl
 omega
theorem YuK(K:Nat)(hK:0<K):∀j,(K+1)^K*(K+j)^(K+j)<=(K+j+1)^(K+j)*K^K
 |0=>YFk _
 |j+1=>Ydg (YFF (show 0<K+j by omega)) (YuK K hK j) (e_inc (K+j) (by omega))
theorem YuO(n:Nat)(hn:0<n):∀j,(n+j+1)^(n+j+1)*n^(n+1)<=(n+1)^(n+1)*(n+j)^(n+j+1)
 |0=>YFr rfl
 |j+1=>by
  refine Ydg (YFF (n:=n+j+1) (show 0<n+j by omega)) ?_ (YuO n hn j)
  have h:=e_dec (n+j)
  have e1:n+(j+1)+1=n+j+2:=by omega
  have e2:n+(j+1)=n+j+1:=by omega
  rw[e1,e2]
  exact h
theorem ab(m:Nat):(m+1)^m*m^(m+1)<=(m+1)^(m+1)*m^m:=by
 rw[YFm,YFm]
 have h:=YFe ((m+1)^m*m^m) (show m<=m+1 by omega)
 generalize(m+1)^m=x at*
 generalize m^m=y at*
 have e1:x*(y*m)=x*y*m:=by ac_rfl
 have e2:x*(m+1)*y=x*y*(m+1):=by ac_rfl
 omega
theorem Yu0(K n:Nat):(K+1)^K*n^(n+1)<=(n+1)^(n+1)*K^K:=by
 rcases YFB K with rfl|hK
 ·have:=YFl (show n<=n+1 by omega) (n+1)
  simpa using this
 rcases YFB n with rfl|hn
 ·simp
 rcases Nat.le_total K n with h|h
 ·obtain⟨j,rfl⟩:∃j,n=K+j:=⟨n-K,by omega⟩
  exact Ydg (YFF (n:=K+j) (show 0<K+j by omega)) (YuK K hK j) (ab (K+j))
 ·obtain⟨j,rfl⟩:∃j,K=n+j:=⟨K-n,by omega⟩
  refine Ydg (YFF (n:=n+j+1) (show 0<n+j by omega)) (ab (n+j)) (YuO n hn j)
def A(L N:Nat):Nat->Nat->Nat
 |0,_=>0
 |d+1,s=>A L N d s*N+L/(d+1)*s^(d+1)
def Mul(L d:Nat):Prop:=∀i,i<d->L/(i+1)*(i+1)=L
theorem Mul.pred{L d:Nat}(h:Mul L (d+1)):Mul L d:=fun i hi=>h i (by omega)
theorem A_0(L N:Nat):∀d,A L N d 0=0
 |0=>rfl
 |d+1=>by rw[A,A_0 L N d,YFm];simp
theorem Yvm(s:Nat):∀d,(s+1)^(d+1)<=s^(d+1)+(d+1)*(s+1)^d
 |0=>by simp
 |d+1=>by
  have ih:=YE9 (s+1) (Yvm s d)
  have h:=YFl (show s<=s+1 by omega) (d+1)
  rw[YFm (s+1) (d+1),YFm s (d+1)]
  have e:(s^(d+1)+(d+1)*(s+1)^d)*(s+1)=s^(d+1)*s+s^(d+1)+(d+1)*((s+1)^d*(s+1)):=by grind
  rw[YFm (s+1) d]at*
  have e2:(d+1+1)*((s+1)^d*(s+1))=(d+1)*((s+1)^d*(s+1))+(s+1)^d*(s+1):=by grind
  omega
theorem Yvl(s:Nat):∀d,s^(d+1)+(d+1)*s^d<=(s+1)^(d+1)
 |0=>by simp
 |d+1=>by
  have ih:=YE9 (s+1) (Yvl s d)
  rw[YFm (s+1) (d+1),YFm s (d+1)]
  have e:(s^(d+1)+(d+1)*s^d)*(s+1)=s^(d+1)*s+s^(d+1)+(d+1)*(s^d*s)+(d+1)*s^d:=by grind
  rw[YFm s d]at*
  have e2:(d+1+1)*(s^d*s)=(d+1)*(s^d*s)+s^d*s:=by grind
  omega
theorem A_up(L v s:Nat):∀d,Mul L d->v*A L (v+s+1) d (s+1)+L*(s+1)^d<=v*A L (v+s+1) d s+L*(v+s+1)^d
 |0,_=>by simp [A]
 |d+1,hL=>by
  have ih:=YE9 (v+s+1) (A_up L v s d hL.pred)
  have ht:=hL d (by omega)
  have hp:=YFe (v*(L/(d+1))) (Yvm s d)
  rw[A,A,YFm (v+s+1)]
  generalize A L (v+s+1) d (s+1)=x at*
  generalize A L (v+s+1) d s=y at*
  generalize L/(d+1)=t at*
  rw[YFm (s+1)]at*
  generalize(s+1)^d=p at*
  generalize s^(d+1)=q at*
  generalize(v+s+1)^d=r at*
  have e1:v*t*(q+(d+1)*p)=v*t*q+v*p*(t*(d+1)):=by grind
  rw[e1,ht]at hp
  grind
theorem A_dn(L w s:Nat):∀d,Mul L d->w*A L (w+s) d s+L*(w+s)^d<=w*A L (w+s) d (s+1)+L*s^d
 |0,_=>by simp [A]
 |d+1,hL=>by
  have ih:=YE9 (w+s) (A_dn L w s d hL.pred)
  have ht:=hL d (by omega)
  have hp:=YFe (w*(L/(d+1))) (Yvl s d)
  rw[A,A,YFm (w+s)]
  generalize A L (w+s) d (s+1)=x at*
  generalize A L (w+s) d s=y at*
  generalize L/(d+1)=t at*
  rw[YFm s]at*
  generalize(s+1)^(d+1)=p at*
  generalize s^d=q at*
  generalize(w+s)^d=r at*
  have e1:w*t*(q*s+(d+1)*q)=w*t*(q*s)+w*q*(t*(d+1)):=by grind
  rw[e1,ht]at hp
  grind
theorem Yoe(L N:Nat){s t:Nat}(h:s<=t):∀d,A L N d s<=A L N d t
 |0=>YFk _
 |d+1=>Nat.add_le_add (YE9 _ (Yoe L N h d)) (YFe _ (YFl h _))
theorem YCA{K n a W:Nat}(h:(n+1)*a<=W):(K+1)^(K*a)*n^W<=(n+1)^W*K^(K*a):=by
 have h1:=YFl (Yu0 K n) a
 rw[YFo,YFo,<-YFh,<-YFh,<-YFh,<-YFh]at h1
 obtain⟨r,rfl⟩:∃r,W=(n+1)*a+r:=⟨W-(n+1)*a,by omega⟩
 rw[YFi,YFi]
 have h2:=YFt h1 (YFl (show n<=n+1 by omega) r)
 refine YFa (YFr ?_) (YFa h2 (YFr ?_)) <;> ac_rfl
theorem YCy{K n a W:Nat}(hn:0<n)(h:W<=n*a):(n+1)^W*K^((K+1)*a)<=(K+1)^((K+1)*a)*n^W:=by
 have h1:=YFl (Yu0 n K) a
 rw[YFo,YFo,<-YFh,<-YFh,<-YFh,<-YFh]at h1
 obtain⟨r,hr⟩:∃r,n*a=W+r:=⟨n*a-W,by omega⟩
 rw[hr,YFi,YFi]at h1
 have h2:=YFl (show n<=n+1 by omega) r
 refine YFj (c:=n^r) ?_ (YFF hn)
 have h3:=YFe ((n+1)^W*K^((K+1)*a)) h2
 refine YFa h3 (YFa (YFr ?_) (YFa h1 (YFr ?_))) <;> ac_rfl
theorem Yvy(L K N d:Nat)(hL:Mul L d):∀s,s+1<=N->(K+1)^(K*A L N d s)*(N-1-s)^(L*N^d)<=(N-1)^(L*N^d)*K^(K*A L N d s)
 |0,_=>by rw[A_0];simp
 |s+1,hs=>by
  have ih:=Yvy L K N d hL s (by omega)
  obtain⟨n,rfl⟩:∃n,N=n+s+2:=⟨N-s-2,by omega⟩
  have hu:=A_up L (n+1) s d hL
  rw[show n+1+s+1=n+s+2 by omega]at hu
  have hm:=Yoe L (n+s+2) (show s<=s+1 by omega) d
  rw[show n+s+2-1-s=n+1 by omega]at ih
  rw[show n+s+2-1-(s+1)=n by omega]
  obtain⟨a,ha⟩:∃a,A L (n+s+2) d (s+1)=A L (n+s+2) d s+a:=⟨_,(Nat.add_sub_cancel' hm).symm⟩
  rw[ha,YFJ]at hu
  have h1:=YCA (K:=K) (n:=n) (a:=a) (W:=L*(n+s+2)^d) (by omega)
  rw[ha,YFJ,YFi,YFi]
  refine YFj (c:=(n+1)^(L*(n+s+2)^d)) ?_ (YFF (by omega))
  have h2:=YFt ih h1
  refine YFa (YFr ?_) (YFa h2 (YFr ?_)) <;> ac_rfl
theorem Yvx(L K N d T S:Nat)(hL:Mul L d)(hS:S<N)(hT:L*S^d<=T*(N-S)):∀s,s<=S->(N+1)^(L*N^d)*K^((K+1)*(A L N d s+T*s))<=(K+1)^((K+1)*(A L N d s+T*s))*(N+1-s)^(L*N^d)
 |0,_=>by rw[A_0];simp
 |s+1,hs=>by
  have ih:=Yvx L K N d T S hL hS hT s (by omega)
  obtain⟨n,rfl⟩:∃n,N=n+s:=⟨N-s,by omega⟩
  have hd:=A_dn L n s d hL
  have hm:=Yoe L (n+s) (show s<=s+1 by omega) d
  obtain⟨a,ha⟩:∃a,A L (n+s) d (s+1)=A L (n+s) d s+a:=⟨_,(Nat.add_sub_cancel' hm).symm⟩
  rw[ha,YFJ]at hd
  have hp:L*s^d<=T*n:=YFa (YFe _ (YFl (by omega) _)) (YFa hT (YFe _ (by omega)))
  rw[show n+s+1-s=n+1 by omega]at ih
  rw[show n+s+1-(s+1)=n by omega]
  have h1:=YCy (K:=K) (n:=n) (a:=a+T) (W:=L*(n+s)^d) (by omega) (by rw[YFJ,YFc n T];omega)
  have e:A L (n+s) d (s+1)+T*(s+1)=A L (n+s) d s+T*s+(a+T):=by rw[ha,YFJ];omega
  rw[e,YFJ (K+1),YFi,YFi]
  refine YFj (c:=(n+1)^(L*(n+s)^d)) ?_ (YFF (by omega))
  have h2:=YFt ih h1
  refine YFa (YFr ?_) (YFa h2 (YFr ?_)) <;> ac_rfl
theorem Yod(L N M u:Nat):∀d,A L (N*M) d (u*M)=M^d*A L N d u
 |0=>by simp [A]
 |d+1=>by
  rw[A,A,Yod L N M u d,YFo]
  generalize A L N d u=x
  generalize L/(d+1)=t
  rw[YFm M,YFJ]
  congr 1 <;> ac_rfl
theorem lim{X Y W:Nat}(h:∀M,0<M->Y*M^W<=X*(M+1)^W):Y<=X:=by
 refine YGk fun hlt=>?_
 have h1:=h (Y*W+W+1) (by omega)
 obtain⟨M,hM⟩:∃M,M=Y*W+W+1:=⟨_,rfl⟩
 rw[<-hM]at h1
 have h2:=YwJ M W
 have hp:0<M^W:=YFF (by omega)
 have k1:=YE9 (M+1-W) h1
 have k2:=YFe X h2
 have k3:Y*(M+1-W)<=X*(M+1):=by
  refine Nat.le_of_mul_le_mul_left (c:=M^W) ?_ hp
  refine YFa (YFr ?_) (YFa k1 (YFa (YFr ?_) (YFa k2 (YFr ?_)))) <;> ac_rfl
 have k4:=YE9 (M+1) (show X+1<=Y from hlt)
 rw[Nat.mul_sub]at k3
 rw[YFw]at k4
 have:Y*W<M+1:=by omega
 omega
theorem YeM{a b n:Nat}(hn:0<n)(h:a^n<=b^n):a<=b:=(Nat.pow_le_pow_iff_left (by omega)).1 h
theorem YCm{L K N d u:Nat}(hL:Mul L d)(hu:u<N):(K+1)^(K*A L N d u)*(N-u)^(L*N^d)<=N^(L*N^d)*K^(K*A L N d u):=by
 have h1:∀M,0<M->(K+1)^(K*A L N d u)*(N*M-1-u*M)^(L*N^d)<=(N*M-1)^(L*N^d)*K^(K*A L N d u):=fun M hM=>by
  have h:=Yvy L K (N*M) d hL (u*M) (by have:=Nat.mul_lt_mul_of_pos_right hu hM;omega)
  rw[Yod]at h
  have e1:K*(M^d*A L N d u)=K*A L N d u*M^d:=by ac_rfl
  have e2:L*(N*M)^d=L*N^d*M^d:=by rw[YFo];ac_rfl
  rw[e1,e2,YFh _ _ (M^d),YFh _ _ (M^d),YFh _ _ (M^d),YFh _ _ (M^d),<-YFo,<-YFo]at h
  exact YeM (YFF hM) h
 refine lim (W:=L*N^d) fun M hM=>?_
 have h:=h1 (M+1) (by omega)
 obtain⟨v,rfl⟩:∃v,N=v+u+1:=⟨N-u-1,by omega⟩
 have e1:v+u+1-u=v+1:=by omega
 have e2:(v+u+1)*(M+1)-1-u*(M+1)=(v+1)*M+v:=by
  have:(v+u+1)*(M+1)=(v+1)*M+v+1+u*(M+1):=by grind
  omega
 rw[e2]at h
 rw[e1]
 have k1:((v+1)*M)^(L*(v+u+1)^d)<=((v+1)*M+v)^(L*(v+u+1)^d):=YFl (by omega) _
 have k2:((v+u+1)*(M+1)-1)^(L*(v+u+1)^d)<=((v+u+1)*(M+1))^(L*(v+u+1)^d):=YFl (by omega) _
 rw[YFo]at k1 k2
 generalize L*(v+u+1)^d=W at*
 have k3:=YFe ((K+1)^(K*A L (v+u+1) d u)) k1
 have k4:=YE9 (K^(K*A L (v+u+1) d u)) k2
 refine YFa (YFr ?_) (YFa k3 (YFa h (YFa k4 (YFr ?_)))) <;> ac_rfl
theorem YCl{L K N d u t:Nat}(hL:Mul L (d+1))(hu:u<N)(ht:L*u^(d+1)<=t*(N-u)):N^(L*N^(d+1))*K^((K+1)*(A L N (d+1) u+t*u))<=(K+1)^((K+1)*(A L N (d+1) u+t*u))*(N-u)^(L*N^(d+1)):=by
 have h1:∀M,0<M->(N*M+1)^(L*N^(d+1))*K^((K+1)*(A L N (d+1) u+t*u))<=(K+1)^((K+1)*(A L N (d+1) u+t*u))*(N*M+1-u*M)^(L*N^(d+1)):=fun M hM=>by
  have h:=Yvx L K (N*M) (d+1) (t*M^d) (u*M) hL (Nat.mul_lt_mul_of_pos_right hu hM) (by
   rw[<-Nat.sub_mul,YFo]
   have:=YE9 (M^(d+1)) ht
   refine YFa (YFr ?_) (YFa this (YFr ?_))
   ·ac_rfl
   ·rw[YFm];ac_rfl) (u*M) (YFk _)
  rw[Yod]at h
  have e1:(K+1)*(M^(d+1)*A L N (d+1) u+t*M^d*(u*M))=(K+1)*(A L N (d+1) u+t*u)*M^(d+1):=by
   have:t*M^d*(u*M)=M^(d+1)*(t*u):=by rw[YFm];ac_rfl
   rw[this,<-YFJ];ac_rfl
  have e2:L*(N*M)^(d+1)=L*N^(d+1)*M^(d+1):=by rw[YFo];ac_rfl
  rw[e1,e2,YFh _ _ (M^(d+1)),YFh _ _ (M^(d+1)),YFh _ _ (M^(d+1)),YFh _ _ (M^(d+1)),<-YFo,<-YFo]at h
  exact YeM (YFF hM) h
 refine lim (W:=L*N^(d+1)) fun M hM=>?_
 have h:=h1 M hM
 obtain⟨v,rfl⟩:∃v,N=v+u+1:=⟨N-u-1,by omega⟩
 have e1:v+u+1-u=v+1:=by omega
 have e2:(v+u+1)*M+1-u*M=(v+1)*M+1:=by
  have:(v+u+1)*M=(v+1)*M+u*M:=by grind
  omega
 rw[e2]at h
 rw[e1]
 generalize(K+1)*(A L (v+u+1) (d+1) u+t*u)=e at*
 have k1:((v+u+1)*M)^(L*(v+u+1)^(d+1))<=((v+u+1)*M+1)^(L*(v+u+1)^(d+1)):=YFl (by omega) _
 have k2:((v+1)*M+1)^(L*(v+u+1)^(d+1))<=((v+1)*(M+1))^(L*(v+u+1)^(d+1)):=YFl (by rw[YFJ];omega) _
 rw[YFo]at k1 k2
 generalize L*(v+u+1)^(d+1)=W at*
 have k3:=YE9 (K^e) k1
 have k4:=YFe ((K+1)^e) k2
 refine YFa (YFr ?_) (YFa k3 (YFa h (YFa k4 (YFr ?_)))) <;> ac_rfl
end Go.Proofs.YtmiclogmkfobgaaGreat.LS
set_option maxRecDepth 100000
namespace Go.Proofs.YtmiclogmkfobgaaGreat.LS
def Lo(B x y l:Nat):Prop:=(B*B+1)^(B*l)*y<=x*(B*B)^(B*l)
def Hi(B x y h:Nat):Prop:=x*(B*B)^(B*h)<=(B*B+1)^(B*h)*y
theorem Lo.mul{B x y l x' y' l':Nat}(h:Lo B x y l)(h':Lo B x' y' l'):Lo B (x*x') (y*y') (l+l'):=by
 unfold Lo at*
 rw[YFJ,YFi,YFi]
 refine YFa (YFr ?_) (YFa (YFt h h') (YFr ?_)) <;> ac_rfl
theorem Hi.mul{B x y l x' y' l':Nat}(h:Hi B x y l)(h':Hi B x' y' l'):Hi B (x*x') (y*y') (l+l'):=by
 unfold Hi at*
 rw[YFJ,YFi,YFi]
 refine YFa (YFr ?_) (YFa (YFt h h') (YFr ?_)) <;> ac_rfl
theorem Lo.cancel{B x y l z:Nat}(hz:0<z)(h:Lo B (x*z) (y*z) l):Lo B x y l:=by
 unfold Lo at*
 refine YFj (c:=z) ?_ hz
 refine YFa (YFr ?_) (YFa h (YFr ?_)) <;> ac_rfl
theorem Hi.cancel{B x y l z:Nat}(hz:0<z)(h:Hi B (x*z) (y*z) l):Hi B x y l:=by
 unfold Hi at*
 refine YFj (c:=z) ?_ hz
 refine YFa (YFr ?_) (YFa h (YFr ?_)) <;> ac_rfl
theorem Lo.mono{B x y l l':Nat}(hB:0<B)(h:Lo B x y l)(hl:l'<=l):Lo B x y l':=by
 unfold Lo at*
 obtain⟨r,rfl⟩:∃r,l=l'+r:=⟨l-l',by omega⟩
 rw[YFJ,YFi,YFi]at h
 have h2:=YFl (show B*B<=B*B+1 by omega) (B*r)
 have hp:0<(B*B)^(B*r):=YFF (YF3 hB hB)
 refine YFj (c:=(B*B)^(B*r)) ?_ hp
 have h3:=YFe ((B*B+1)^(B*l')*y) h2
 refine YFa h3 (YFa (YFr ?_) (YFa h (YFr ?_))) <;> ac_rfl
theorem Hi.mono{B x y l l':Nat}(hB:0<B)(h:Hi B x y l)(hl:l<=l'):Hi B x y l':=by
 unfold Hi at*
 obtain⟨r,rfl⟩:∃r,l'=l+r:=⟨l'-l,by omega⟩
 rw[YFJ,YFi,YFi]
 have h2:=YFl (show B*B<=B*B+1 by omega) (B*r)
 have h3:=YFt h h2
 refine YFa (YFr ?_) (YFa h3 (YFr ?_)) <;> ac_rfl
theorem Lo.half{B x y l m:Nat}(hB:0<B)(h:Lo B (x*x) (y*y) l)(hm:2*m<=l):Lo B x y m:=by
 have h:=Lo.mono hB h hm
 unfold Lo at*
 generalize B*B=K at*
 refine YeM (n:=2) (by decide) ?_
 rw[show B*(2*m)=B*m*2 by ac_rfl,YFh _ _ 2,YFh _ _ 2]at h
 rw[YFo,YFo,Nat.pow_two x,Nat.pow_two y]
 exact h
theorem Hi.half{B x y l m:Nat}(hB:0<B)(h:Hi B (x*x) (y*y) l)(hm:l<=2*m):Hi B x y m:=by
 have h:=Hi.mono hB h hm
 unfold Hi at*
 generalize B*B=K at*
 refine YeM (n:=2) (by decide) ?_
 rw[show B*(2*m)=B*m*2 by ac_rfl,YFh _ _ 2,YFh _ _ 2]at h
 rw[YFo,YFo,Nat.pow_two x,Nat.pow_two y]
 exact h
theorem Lo.one(B:Nat):Lo B 1 1 0:=by unfold Lo;simp
theorem Hi.one(B:Nat):Hi B 1 1 0:=by unfold Hi;simp
theorem YmK:∀d,∃L,0<L/\Mul L d
 |0=>⟨1,by decide,fun i hi=>absurd hi (YGe _)⟩
 |d+1=>by
  obtain⟨L,h0,h⟩:=YmK d
  refine⟨L*(d+1),YF3 h0 (by omega),fun i hi=>?_⟩
  have hd:(i+1)∣L*(d+1):=by
   rcases YFu i d with h1|h1
   ·exact Nat.dvd_trans ⟨L/(i+1),by rw[YFc];exact(h i h1).symm⟩ (Nat.dvd_mul_right _ _)
   ·obtain rfl:i=d:=by omega
    exact Nat.dvd_mul_left _ _
  exact Nat.div_mul_cancel hd
theorem lo_of{B L N d u l:Nat}(hB:0<B)(h0:0<L)(hL:Mul L d)(hu:u<N)(h:l*(L*N^d)<=B*A L N d u):Lo B N (N-u) l:=by
 have h1:=YCm (K:=B*B) hL hu
 have hW:0<L*N^d:=YF3 h0 (YFF (by omega))
 obtain⟨r,hr⟩:∃r,B*B*A L N d u=B*l*(L*N^d)+r:=by
  have:=YFe B h
  refine⟨B*B*A L N d u-B*l*(L*N^d),?_⟩
  rw[YFg,YFg]at*
  omega
 rw[hr,YFi,YFi]at h1
 generalize L*N^d=W at*
 unfold Lo
 refine YeM hW ?_
 have hK:0<B*B:=YF3 hB hB
 generalize B*B=K at*
 rw[YFo,YFo,<-YFh,<-YFh]
 have h2:=YFl (show K<=K+1 by omega) r
 have hp:0<K^r:=YFF hK
 refine YFj (c:=K^r) ?_ hp
 have h3:=YFe ((K+1)^(B*l*W)*(N-u)^W) h2
 refine YFa h3 (YFa (YFr ?_) (YFa h1 (YFr ?_))) <;> ac_rfl
theorem hi_of{B L N d u t l:Nat}(hB:0<B)(h0:0<L)(hL:Mul L (d+1))(hu:u<N)(ht:L*u^(d+1)<=t*(N-u))(h:B*(A L N (d+1) u+t*u)<=l*(L*N^(d+1)))(hl:l<=B):Hi B N (N-u) (l+1):=by
 have h1:=YCl (K:=B*B) hL hu ht
 have hW:0<L*N^(d+1):=YF3 h0 (YFF (by omega))
 generalize A L N (d+1) u+t*u=a at*
 generalize L*N^(d+1)=W at*
 have ha:a<=B*W:=by
  have k1:1*a<=B*a:=YE9 a hB
  have k2:=YE9 W hl
  omega
 obtain⟨r,hr⟩:∃r,B*(l+1)*W=(B*B+1)*a+r:=by
  have k1:=YFe B h
  have e1:B*(l+1)*W=B*(l*W)+B*W:=by rw[YFJ,YGb,YFw,YFg]
  have e2:(B*B+1)*a=B*(B*a)+a:=by rw[YFw,YFR,YFg]
  exact⟨B*(l+1)*W-(B*B+1)*a,by omega⟩
 unfold Hi
 refine YeM hW ?_
 generalize B*B=K at*
 rw[YFo,YFo,<-YFh,<-YFh,hr,YFi,YFi]
 have h2:=YFl (show K<=K+1 by omega) r
 have h3:=YFt h1 h2
 refine YFa (YFr ?_) (YFa h3 (YFr ?_)) <;> ac_rfl
def S(B N:Nat):Nat->Nat
 |0=>0
 |d+1=>S B N d+B/N^(d+1)/(d+1)
end Go.Proofs.YtmiclogmkfobgaaGreat.LS
set_option maxRecDepth 100000
namespace Go.Proofs.YtmiclogmkfobgaaGreat.LS
def G(B N:Nat):Nat->Nat->Nat
 |0,y=>y
 |k+1,y=>G B N k ((B/(k+1)+y)/N)
theorem G_lo(B L N:Nat):∀k y,Mul L k->G B N k y*(L*N^k)<=B*A L N k 1+L*y
 |0,y,_=>by simp [G,A,YFc]
 |k+1,y,hL=>by
  have ih:=YE9 N (G_lo B L N k ((B/(k+1)+y)/N) hL.pred)
  have ht:=hL k (by omega)
  have h1:=YFe L (Nat.div_mul_le_self (B/(k+1)+y) N)
  have h2:=YFe (L/(k+1)) (Nat.div_mul_le_self B (k+1))
  rw[G,A,Nat.one_pow,YGb]
  generalize(B/(k+1)+y)/N=z at*
  generalize B/(k+1)=q at*
  generalize A L N k 1=a at*
  generalize L/(k+1)=t at*
  have e1:G B N k z*(L*N^(k+1))=G B N k z*(L*N^k)*N:=by rw[YFm];ac_rfl
  have e2:t*(q*(k+1))=t*(k+1)*q:=by ac_rfl
  rw[e2,ht]at h2
  rw[e1]
  grind
theorem G_hi(B L N:Nat)(hN:2<=N):∀k y,Mul L k->B*A L N k 1+L*(y+2)<=(G B N k y+2)*(L*N^k)
 |0,y,_=>by simp [G,A,YFc]
 |k+1,y,hL=>by
  have ih:=YE9 N (G_hi B L N hN k ((B/(k+1)+y)/N) hL.pred)
  have ht:=hL k (by omega)
  have h1:B/(k+1)+y+1<=(B/(k+1)+y)/N*N+N:=by
   have:=YFH (B/(k+1)+y) N
   have:=YFC (B/(k+1)+y) (show 0<N by omega)
   rw[YFc ((B/(k+1)+y)/N)];omega
  have h2:B<=(B/(k+1)+1)*(k+1):=by
   have:=YFH B (k+1)
   have:=YFC B (show 0<k+1 by omega)
   rw[YFw,YFR,YFc (B/(k+1))];omega
  rw[G,A,Nat.one_pow,YGb]
  generalize(B/(k+1)+y)/N=z at*
  generalize B/(k+1)=q at*
  generalize A L N k 1=a at*
  have k2:=YFe (L/(k+1)) h2
  generalize L/(k+1)=t at*
  have e1:(G B N k z+2)*(L*N^(k+1))=(G B N k z+2)*(L*N^k)*N:=by rw[YFm];ac_rfl
  have e2:t*((q+1)*(k+1))=t*(k+1)*(q+1):=by ac_rfl
  rw[e2,ht]at k2
  rw[e1]
  have k1:=YFe L (show q+1+y+2<=(z+2)*N by grind)
  generalize(G B N k z+2)*(L*N^k)=g at*
  grind
theorem G_is{B N d:Nat}(hB:0<B)(hN:2<=N)(hz:B<=N^(d+1))(hs:G B N (d+1) 0+3<=B):Lo B N (N-1) (G B N (d+1) 0)/\Hi B N (N-1) (G B N (d+1) 0+4):=by
 obtain⟨L,h0,hL⟩:=YmK (d+1)
 have h1:=G_lo B L N (d+1) 0 hL
 have h2:=G_hi B L N hN (d+1) 0 hL
 rw[Nat.mul_zero,YF8]at h1
 refine⟨lo_of hB h0 hL (by omega) h1,hi_of (t:=L) (l:=G B N (d+1) 0+3) hB h0 hL (by omega) ?_ ?_ hs⟩
 ·rw[Nat.one_pow];exact YFe _ (by omega)
 ·have h3:B*L<=L*N^(d+1):=by rw[YFc];exact YFe _ hz
  rw[YGb,YFJ,show G B N (d+1) 0+3=G B N (d+1) 0+2+1 by omega,YFw (G B N (d+1) 0+2),YFR]
  omega
def hor(B N:Nat)(n:Nat):Nat->Nat:=
 Nat.rec (fun y=>y) (fun k ih y=>(fun b=>ih
  (YGt (YFD (YGt B (YFD b 1)) (YGt (YFD (YGt B (YFD b 2)) (YGt (YFD (YGt B (YFD b 3)) (YGt (YFD (YGt B (YFD b 4))
  (YGt (YFD (YGt B (YFD b 5)) (YGt (YFD (YGt B (YFD b 6)) (YGt (YFD (YGt B (YFD b 7)) (YGt (YFD (YGt B (YFD b 8)) y) N)) N)) N)) N)) N)) N)) N)) N)) (Nat.mul 8 k)) n
theorem Yu9(B N:Nat):∀n y,hor B N n y=G B N (8*n) y
 |0,_=>rfl
 |n+1,y=>by
  have h:hor B N (n+1) y=hor B N n ((B/(8*n+1)+(B/(8*n+2)+(B/(8*n+3)+(B/(8*n+4)+(B/(8*n+5)+(B/(8*n+6)+(B/(8*n+7)+(B/(8*n+8)+y)/N)/N)/N)/N)/N)/N)/N)/N):=rfl
  rw[h,Yu9 B N n]
  rfl
def ser(B d N:Nat)(κ:Nat->Bool):Bool:=(fun y=>Bool.casesOn (YGs B (Nat.pow N (Nat.mul 8 d))) false (Bool.casesOn (YGs (YFD y 4) B) false (κ y))) (hor B N d 0)
theorem YrL{B d N:Nat}{κ:Nat->Bool}(hB:2<=B)(hN:2<=N)(h:ser B d N κ=true):∃y,Lo B N (N-1) y/\Hi B N (N-1) (y+4)/\κ y=true:=by
 have h:Bool.casesOn (motive:=fun _=>Bool) (YGs B (N^(8*d))) false (Bool.casesOn (YGs (hor B N d 0+4) B) false (κ (hor B N d 0)))=true:=h
 cases h1:YGs B (N^(8*d))with
 |false=>rw[h1]at h;cases h
 |true=>
  rw[h1]at h
  have h:Bool.casesOn (motive:=fun _=>Bool) (YGs (hor B N d 0+4) B) false (κ (hor B N d 0))=true:=h
  cases h2:YGs (hor B N d 0+4) B with
  |false=>rw[h2]at h;cases h
  |true=>
   rw[h2]at h
   have h1:=YFV h1
   have h2:=YFV h2
   rw[Yu9]at h2 h
   obtain⟨e,he⟩:∃e,8*d=e+1:=by
    cases d with
    |zero=>rw[Nat.mul_zero,YGn]at h1;omega
    |succ d=>exact⟨8*d+7,by omega⟩
   rw[he]at h1 h2 h
   obtain⟨a,b⟩:=G_is (by omega) hN h1 (by omega)
   exact⟨_,a,b,h⟩
def St(B a la lb e:Nat):Prop:=(Lo B a 1 la/\Hi B a 1 (la+e))/\Lo B (a+1) 1 lb/\Hi B (a+1) 1 (lb+e)
def Two(B l2:Nat):Prop:=Lo B 2 1 l2/\Hi B 2 1 (l2+4)
theorem YuJ{B a la lb e l2 y:Nat}(hB:0<B)(ha:1<=a)(h:St B a la lb e)(h2:Two B l2)(hy:Lo B ((2*a+1)*(2*a+1)) ((2*a+1)*(2*a+1)-1) y/\Hi B ((2*a+1)*(2*a+1)) ((2*a+1)*(2*a+1)-1) (y+4)):
 Lo B (2*a+1) 1 ((la+lb+(l2+l2)+y)/2)/\Hi B (2*a+1) 1 ((la+lb+(l2+l2)+y)/2+(e+7)):=by
 have e1:(2*a+1)*(2*a+1)-1=2*2*a*(a+1):=by
  have:(2*a+1)*(2*a+1)=2*2*a*(a+1)+1:=by grind
  omega
 rw[e1]at hy
 have hz:0<2*2*a*(a+1):=YF3 (YF3 (by decide) ha) (by omega)
 constructor
 ·have k:=Lo.mul (Lo.mul (Lo.mul h.1.1 h.2.1) (Lo.mul h2.1 h2.1)) hy.1
  have k2:Lo B ((2*a+1)*(2*a+1)*(2*2*a*(a+1))) (1*(2*2*a*(a+1))) (la+lb+(l2+l2)+y):=by
   unfold Lo at*
   refine YFa (YFr ?_) (YFa k (YFr ?_))
   ·simp only[YFR,YGb]
   ·ac_rfl
  exact Lo.half hB (Lo.cancel hz k2) (by omega)
 ·have k:=Hi.mul (Hi.mul (Hi.mul h.1.2 h.2.2) (Hi.mul h2.2 h2.2)) hy.2
  have k2:Hi B ((2*a+1)*(2*a+1)*(2*2*a*(a+1))) (1*(2*2*a*(a+1))) (la+e+(lb+e)+(l2+4+(l2+4))+(y+4)):=by
   unfold Hi at*
   refine YFa (YFr ?_) (YFa k (YFr ?_))
   ·ac_rfl
   ·simp only[YFR,YGb]
  exact Hi.half hB (Hi.cancel hz k2) (by omega)
theorem dbl_{B a l e l2:Nat}(hB:0<B)(h:Lo B a 1 l/\Hi B a 1 (l+e))(h2:Two B l2):Lo B (2*a) 1 (l+l2)/\Hi B (2*a) 1 (l+l2+(e+7)):=by
 have k1:=Lo.mul h.1 h2.1
 have k2:=Hi.mul h.2 h2.2
 rw[YFc a 2]at k1 k2
 exact⟨k1,Hi.mono hB k2 (by omega)⟩
theorem St_l{B a la lb e l2 lm:Nat}(hB:0<B)(h:St B a la lb e)(h2:Two B l2)(hm:Lo B (2*a+1) 1 lm/\Hi B (2*a+1) 1 (lm+(e+7))):St B (2*a) (la+l2) lm (e+7):=⟨dbl_ hB h.1 h2,hm⟩
theorem St_r{B a la lb e l2 lm:Nat}(hB:0<B)(h:St B a la lb e)(h2:Two B l2)(hm:Lo B (2*a+1) 1 lm/\Hi B (2*a+1) 1 (lm+(e+7))):St B (2*a+1) lm (lb+l2) (e+7):=by
 have:=dbl_ hB h.2 h2
 exact⟨hm,this⟩
def dfs(B c l2:Nat)(t:Nat->Nat->Bool)(k:Nat):Nat->Nat->Nat->Nat->Nat->Bool:=
 Nat.rec (fun _ _ _ _ _=>true) (fun _ ih s a la lb e=>(fun m=>ser B (Nat.succ (YGt c s)) (Nat.mul m m) (fun y=>(fun lm=>(fun e=>Bool.casesOn (t lm e) false (Bool.casesOn (ih (Nat.succ s) (Nat.mul 2 a) (YFD la l2) lm e) false (ih (Nat.succ s) m lm (YFD lb l2) e))) (YFD e 7)) (YGt (YFD (YFD (YFD la lb) (YFD l2 l2)) y) 2))) (Nat.succ (Nat.mul 2 a))) k
def Tst(B:Nat)(t:Nat->Nat->Bool)(m:Nat):Prop:=∃l e,Lo B m 1 l/\Hi B m 1 (l+e)/\t l e=true
theorem YpH{B c l2:Nat}{t:Nat->Nat->Bool}(hB:2<=B)(h2:Two B l2):∀(k s a la lb e:Nat),dfs B c l2 t k s a la lb e=true->1<=a->St B a la lb e->∀j m,1<=j->j<=k->m%2=1->m/2^j=a->Tst B t m
 |0,_,_,_,_,_,_,_,_,j,m,h1,h2,_,_=>by omega
 |k+1,s,a,la,lb,e,h,ha,hs,j,m,hj1,hj2,hodd,hm=>by
  have h:ser B (c/s+1) ((2*a+1)*(2*a+1)) (fun y=>Bool.casesOn (motive:=fun _=>Bool) (t ((la+lb+(l2+l2)+y)/2) (e+7)) false (Bool.casesOn (dfs B c l2 t k (s+1) (2*a) (la+l2) ((la+lb+(l2+l2)+y)/2) (e+7)) false (dfs B c l2 t k (s+1) (2*a+1) ((la+lb+(l2+l2)+y)/2) (lb+l2) (e+7))))=true:=h
  have hN:2<=(2*a+1)*(2*a+1):=YFa (show 2<=3*1 by decide) (YFt (by omega) (by omega))
  obtain⟨y,y1,y2,h⟩:=YrL hB hN h
  have hmid:=YuJ (by omega) ha hs h2 ⟨y1,y2⟩
  generalize(la+lb+(l2+l2)+y)/2=lm at*
  cases ht:t lm (e+7)with
  |false=>simp only[ht]at h;cases h
  |true=>
   simp only[ht]at h
   cases hl:dfs B c l2 t k (s+1) (2*a) (la+l2) lm (e+7)with
   |false=>simp only[hl]at h;cases h
   |true=>
    simp only[hl]at h
    obtain⟨i,rfl⟩:∃i,j=i+1:=⟨j-1,by omega⟩
    rw[YFm,<-YFn]at hm
    rcases YFB i with hi|hi
    ·subst hi
     rw[YGn,Nat.div_one]at hm
     obtain rfl:m=2*a+1:=by omega
     exact⟨lm,e+7,hmid.1,hmid.2,ht⟩
    ·rcases Nat.mod_two_eq_zero_or_one (m/2^i)with h0|h0
     ·exact YpH hB h2 k _ _ _ _ _ hl (by omega) (St_l (by omega) hs h2 hmid) i m hi (by omega) hodd (by omega)
     ·exact YpH hB h2 k _ _ _ _ _ h (by omega) (St_r (by omega) hs h2 hmid) i m hi (by omega) hodd (by omega)
def desc(B c l2:Nat)(f:Nat):Nat->Nat->(Nat->Nat->Nat->Bool)->Bool:=
 Nat.rec (fun _ _ _=>false) (fun _ ih s a κ=>Bool.casesOn (YGs a 1)
  (ih (Nat.pred s) (YGt a 2) (fun la lb e=>(fun m=>ser B (Nat.succ (YGt c s)) (Nat.mul m m) (fun y=>(fun lm=>(fun e=>Bool.casesOn (YFL (YGo a 2) 0) (κ lm (YFD lb l2) e) (κ (YFD la l2) lm e)) (YFD e 7)) (YGt (YFD (YFD (YFD la lb) (YFD l2 l2)) y) 2))) (Nat.succ (Nat.mul 2 (YGt a 2)))))
  (κ 0 l2 4)) f
theorem YpG{B c l2:Nat}(hB:2<=B)(h2:Two B l2):∀(f s a:Nat)(κ:Nat->Nat->Nat->Bool),1<=a->desc B c l2 f s a κ=true->∃la lb e,St B a la lb e/\κ la lb e=true
 |0,_,_,_,_,h=>by cases h
 |f+1,s,a,κ,ha,h=>by
  have h:Bool.casesOn (motive:=fun _=>Bool) (YGs a 1) (desc B c l2 f (s-1) (a/2) (fun la lb e=>ser B (c/s+1) ((2*(a/2)+1)*(2*(a/2)+1)) (fun y=>Bool.casesOn (motive:=fun _=>Bool) (YFL (a%2) 0) (κ ((la+lb+(l2+l2)+y)/2) (lb+l2) (e+7)) (κ (la+l2) ((la+lb+(l2+l2)+y)/2) (e+7))))) (κ 0 l2 4)=true:=h
  cases hb:YGs a 1 with
  |true=>
   rw[hb]at h
   have:=YFV hb
   obtain rfl:a=1:=by omega
   refine⟨0,l2,4,⟨⟨Lo.one B,?_⟩,h2.1,h2.2⟩,h⟩
   exact Hi.mono (by omega) (Hi.one B) (by omega)
  |false=>
   rw[hb]at h
   have ha2:2<=a:=Nat.lt_of_not_le fun hh=>by rw[Nat.ble_eq_true_of_le hh]at hb;cases hb
   obtain⟨la,lb,e,hs,h⟩:=YpG hB h2 f _ _ _ (by omega) h
   have hN:2<=(2*(a/2)+1)*(2*(a/2)+1):=YFa (show 2<=3*1 by decide) (YFt (by omega) (by omega))
   obtain⟨y,y1,y2,h⟩:=YrL hB hN h
   have hmid:=YuJ (by omega) (show 1<=a/2 by omega) hs h2 ⟨y1,y2⟩
   generalize(la+lb+(l2+l2)+y)/2=lm at*
   cases hc:YFL (a%2) 0 with
   |true=>
    simp only[hc]at h
    have h0:=YFv hc
    have:=St_l (by omega) hs h2 hmid
    rw[show 2*(a/2)=a by omega]at this
    exact⟨_,_,_,this,h⟩
   |false=>
    simp only[hc]at h
    have h0:a%2≠0:=fun e=>by rw[e]at hc;cases hc
    have:=St_r (by omega) hs h2 hmid
    rw[show 2*(a/2)+1=a by omega]at this
    exact⟨_,_,_,this,h⟩
def subD(B c:Nat)(t:Nat->Nat->Nat->Bool)(k s a:Nat):Bool:=
 ser B 300 2 (fun l2=>desc B c l2 100 s a (dfs B c l2 (t l2) k (Nat.succ s) a))
theorem Yy8{B c:Nat}{t:Nat->Nat->Nat->Bool}{k s a:Nat}(hB:2<=B)(ha:1<=a)(h:subD B c t k s a=true):∃l2,Two B l2/\∀j m,1<=j->j<=k->m%2=1->m/2^j=a->Tst B (t l2) m:=by
 obtain⟨l2,h1,h2,h⟩:=YrL hB (by decide) h
 obtain⟨la,lb,e,hs,hd⟩:=YpG hB ⟨h1,h2⟩ _ _ _ _ ha h
 exact⟨l2,⟨h1,h2⟩,fun j m hj1 hj2 hodd hm=>YpH hB ⟨h1,h2⟩ k _ _ _ _ _ hd ha hs j m hj1 hj2 hodd hm⟩
end Go.Proofs.YtmiclogmkfobgaaGreat.LS
namespace Go.Proofs.YtmiclogmkfobgaaGreat
open Go Go.Vx
theorem YCM{a b:Nat}(h:a<b):(2:Nat)^a<2^b:=(Nat.pow_lt_pow_iff_right (by decide)).2 h
theorem Rt.up{R J x y m:Nat}(d:Nat)(h:Rt R J x y m):Rt R (J+d) x y (m*2^d):=by
 obtain⟨h1,h2⟩:=h
 unfold Rt
 have k1:=YFl h1 (2^d)
 have k2:=YFl h2 (2^d)
 rw[YFo,<-YFh,<-YFh,<-YFh,<-YFi]at k1 k2
 exact⟨k1,k2⟩
theorem Rt.le{R J x y m B:Nat}(h:Rt R J x y m)(hm:m<=B*2^J):x<=2^B*R:=by
 have hQ:=YF J
 rw[<-Nat.pow_le_pow_iff_left (show 2^J≠0 by omega),YFo,<-YFh]
 exact YFa h.1 (YE9 _ (YFq (by decide) hm))
def sq(n:Nat)(f:Nat->Bool):Bool:=Nat.rec (f 0) (fun k _=>f (Nat.succ k)) n
theorem YtX{J J' n:Nat}(h:Yd7 J n)(h1:J<=J')(h2:J'<=2048):(lN n 2048).2<=(lN n 2048).1+2^(J'-J)*2^(2048-J'):=by
 rw[<-YFi,show J'-J+(2048-J')=2048-J by omega]
 exact h
theorem Yj2:∀q,q<62->YbC ((2^q:Nat):Int)=true:=by decide
end Go.Proofs.YtmiclogmkfobgaaGreat
set_option maxRecDepth 100000
namespace Go.Proofs.YtmiclogmkfobgaaGreat.LS
open Go Go.Vx
theorem Ync{a b:Nat}(h:2^a<=2^b):a<=b:=(Nat.pow_le_pow_iff_right (show 1<2 by decide)).1 h
theorem YCM{a b:Nat}(h:a<b):(2:Nat)^a<2^b:=(Nat.pow_lt_pow_iff_right (by decide)).2 h
theorem Yr3{M W:Nat}:∀k,k*W<=M->(M-k*W)*(M+W)^k<=M^k*M
 |0,_=>by simp
 |k+1,h=>by
  rw[YFw,YFR]at h
  have ih:=Yr3 (M:=M) (W:=W) k (by omega)
  rw[YFm,YFm]
  obtain⟨x,hx⟩:∃x,M=(k+1)*W+x:=⟨M-(k+1)*W,by rw[YFw,YFR];omega⟩
  have e1:M-(k+1)*W=x:=by omega
  have e2:M-k*W=W+x:=by rw[YFw,YFR]at hx;omega
  rw[e1]
  rw[e2]at ih
  have h3:x*(M+W)<=(W+x)*M:=by
   have:x*(M+W)=x*M+x*W:=YFJ ..
   have:(W+x)*M=W*M+x*M:=YFw ..
   have:x*W<=W*M:=by rw[YFc];exact YFe W (by omega)
   omega
  have h4:=YFe ((M+W)^k) h3
  have h5:=YE9 M ih
  generalize(M+W)^k=p at*
  generalize M^k=r at*
  have e3:x*(p*(M+W))=p*(x*(M+W)):=by rw[YFY]
  have e4:p*((W+x)*M)=(W+x)*p*M:=by rw[YFY,YFg]
  omega
theorem YpP{M W:Nat}(hWM:W<=M):∀k,k*W<=M->M^k*(M-k*W)<=(M-W)^k*M
 |0,_=>by simp
 |k+1,h=>by
  rw[YFw,YFR]at h
  have ih:=YpP hWM k (by omega)
  rw[YFm,YFm]
  obtain⟨V,hV⟩:∃V,M=W+V:=⟨M-W,by omega⟩
  have e0:M-W=V:=by omega
  obtain⟨x,hx⟩:∃x,M=(k+1)*W+x:=⟨M-(k+1)*W,by rw[YFw,YFR];omega⟩
  have e1:M-(k+1)*W=x:=by omega
  have e2:M-k*W=W+x:=by rw[YFw,YFR]at hx;omega
  rw[e1,e0]
  rw[e2,e0]at ih
  have h3:M*x<=(W+x)*V:=by
   have:M*x=W*x+V*x:=by rw[hV,YFw]
   have:(W+x)*V=W*V+x*V:=YFw ..
   have:W*x<=W*V:=YFe W (by rw[YFw,YFR]at hx;omega)
   have:V*x=x*V:=YFc ..
   omega
  have h4:=YFe (M^k) h3
  have h5:=YE9 V ih
  generalize V^k=p at*
  generalize M^k=r at*
  have e3:r*M*x=r*(M*x):=YFg ..
  have e4:r*((W+x)*V)=r*(W+x)*V:=by rw[YFg]
  have e5:p*V*M=p*M*V:=Nat.mul_right_comm ..
  omega
theorem YtY{M W Z P m:Nat}(hM:2*(P*W)<=M)(hP:1<=P)(hM0:0<M)(h1:2^m*M<=Z*M+2^m*W)(h2:Z*M<=2^m*(M+W)):2^(m*P)<=2*Z^P/\Z^P<=2*2^(m*P):=by
 have hPW:W<=P*W:=Nat.le_mul_of_pos_left W hP
 have u:=Yr3 (M:=M) (W:=W) P (by omega)
 have d:=YpP (M:=M) (W:=W) (by omega) P (by omega)
 have hMP:0<M^P:=YFF hM0
 have h1':2^m*(M-W)<=Z*M:=by rw[Nat.mul_sub];omega
 have k1:=YFl h1' P
 have k2:=YFl h2 P
 rw[YFo,YFo,<-YFh]at k1 k2
 generalize 2^(m*P)=A at*
 generalize Z^P=B at*
 generalize(M+W)^P=C at*
 generalize(M-W)^P=D at*
 generalize M^P=E at*
 constructor
 ·refine YFj (c:=E*M) ?_ (YF3 hMP hM0)
  have a1:M<=2*(M-P*W):=by omega
  have a2:=YFe (A*E) a1
  have a3:=YFe A d
  have a4:=YE9 M k1
  generalize M-P*W=V at*
  grind
 ·refine YFj (c:=E*M) ?_ (YF3 hMP hM0)
  have a1:M<=2*(M-P*W):=by omega
  have a2:=YFe (A*C) a1
  have a3:=YFe A u
  have a4:=YE9 M k2
  generalize M-P*W=V at*
  grind
theorem Yty{n J P a b q x y m:Nat}(hxy:y+P+1<=x)(hP:2<=P)(l:2^a<=n^(2^(J+P)))(u:n^(2^(J+P))<=2^b)(h1:q*2^P+2<=a)(h2:b+2<=(q+1)*2^P)(hm:Near (2^x) (2^y) J n m):False:=by
 have e:n^(2^(J+P))=(n^(2^J))^(2^P):=by rw[<-YFh,YFi]
 rw[e]at l u
 have hbig:2*(2^P*2^y)<=2^x:=by
  rw[<-YFi,<-Nat.pow_succ']
  exact YFq (by decide) (by omega)
 obtain⟨g1,g2⟩:=YtY (P:=2^P) hbig (Nat.two_pow_pos P) (YF x) hm.1 hm.2
 have c1:2^a<=2^(m*2^P+1):=by rw[YFm];omega
 have c2:2^(m*2^P)<=2^(b+1):=by rw[YFm];omega
 have d1:=Ync c1
 have d2:=Ync c2
 have hQ:=YF P
 generalize 2^P=Q at*
 rcases YFu q m with h|h
 ·have:=YE9 Q (show q+1<=m from h)
  omega
 ·have:=YE9 Q h
  omega
theorem Lo.pow{B x l:Nat}(h:Lo B x 1 l)(q:Nat):Lo B (x^q) 1 (l*q):=by
 unfold Lo at*
 have h2:=YFl h q
 generalize B*B=K at*
 rw[YFo,YFo,Nat.one_pow,<-YFh,<-YFh,YFg]at h2
 exact h2
theorem Hi.pow{B x l:Nat}(h:Hi B x 1 l)(q:Nat):Hi B (x^q) 1 (l*q):=by
 unfold Hi at*
 have h2:=YFl h q
 generalize B*B=K at*
 rw[YFo,YFo,Nat.one_pow,<-YFh,<-YFh,YFg]at h2
 exact h2
theorem cmp{B x y h l:Nat}(hB:0<B)(h1:Hi B x 1 h)(h2:Lo B y 1 l)(hl:h<=l):x<=y:=by
 have h2:=Lo.mono hB h2 hl
 unfold Lo Hi at*
 rw[YGb]at h1 h2
 exact YFj (YFa h1 h2) (YFF (YF3 hB hB))
def tstG(Q R l2 l e:Nat):Bool:=
 (fun a=>(fun b=>(fun q=>Bool.and (Bool.and (YGs 1 l2) (YGs (YFD (Nat.mul q R) 2) a)) (YGs (YFD b 2) (Nat.mul (Nat.succ q) R))) (YGt a R)) (Nat.succ (YGt (Nat.mul (YFD l e) Q) l2))) (YGt (Nat.mul l Q) (YFD l2 4))
theorem Yze{B J P l2 n:Nat}(hB:2<=B)(h2:Two B l2)(h:Tst B (tstG (2^(J+P)) (2^P) l2) n):∃a b q,2^a<=n^(2^(J+P))/\n^(2^(J+P))<=2^b/\q*2^P+2<=a/\b+2<=(q+1)*2^P:=by
 obtain⟨l,e,h3,h4,ht⟩:=h
 have ht:=Bool.and_eq_true_iff.1 ht
 have t0:=Bool.and_eq_true_iff.1 ht.1
 have hl:0<l2:=YFV t0.1
 have t1:=YFV t0.2
 have t2:=YFV ht.2
 refine⟨_,_,_,?_,?_,t1,t2⟩
 ·refine cmp (by omega) (Hi.pow h2.2 _) (Lo.pow h3 _) ?_
  show(l2+4)*(l*2^(J+P)/(l2+4))<=_
  exact Nat.mul_div_le _ _
 ·refine cmp (by omega) (Hi.pow h4 _) (Lo.pow h2.1 _) ?_
  show(l+e)*2^(J+P)<=l2*((l+e)*2^(J+P)/l2+1)
  have:=YFH ((l+e)*2^(J+P)) l2
  have:=YFC ((l+e)*2^(J+P)) hl
  rw[YFJ,YGb];omega
def far2(J n:Nat):Prop:=∀m,¬Near (2^4160) (2^4091) J n m
theorem Ytw{J n:Nat}(hn:1<=n)(h:far2 J n):far2 J (2*n):=by
 intro m hm
 have hlo:2^J<=m:=by
  refine YGk fun hlt=>?_
  have g:=hm.2
  have k1:2^(m+1)<=(2*n)^2^J:=YFa (YFq (by decide) hlt) (by rw[YFo];exact Nat.le_mul_of_pos_right _ (YFF hn))
  have hW:(2:Nat)^4091<2^4160:=YCM (a:=4091) (b:=4160) (by decide)
  have hm0:=YF m
  rw[YFm]at k1
  generalize(2:Nat)^4160=M at*
  generalize(2:Nat)^4091=W at*
  generalize(2*n)^2^J=X at*
  generalize 2^m=R at*
  have k2:=YE9 M k1
  have e:R*2*M=R*(M+M):=by rw[YFg,Nat.two_mul]
  have k3:=Nat.mul_lt_mul_of_pos_left (show M+W<M+M by omega) hm0
  omega
 obtain⟨m',rfl⟩:∃m',m=2^J+m':=⟨m-2^J,by omega⟩
 refine h m' ?_
 obtain⟨h1,h2⟩:=hm
 rw[YFo,YFi]at h1 h2
 unfold Near
 have hQ:=YF (2^J)
 generalize(2:Nat)^4160=M at*
 generalize(2:Nat)^4091=W at*
 generalize 2^2^J=Q at*
 generalize n^2^J=X at*
 generalize 2^m'=R at*
 constructor
 ·refine Nat.le_of_mul_le_mul_left (c:=Q) ?_ hQ
  rw[YFJ]
  simp only[<-YFg]at h1⊢
  exact h1
 ·refine Nat.le_of_mul_le_mul_left (c:=Q) ?_ hQ
  simp only[<-YFg]at h2⊢
  exact h2
theorem Yt0{J B:Nat}(h:∀n,3<=n->n<=B->n%2=1->far2 J n):∀n,1<=n->n<=B->(∃q,n=2^q)\/far2 J n:=by
 intro n
 induction n using Nat.strongRecOn with
 |_ n ih=>
  intro h1 hB
  by_cases ho:n%2=0
  ·obtain⟨j,rfl⟩:∃j,n=2*j:=⟨n/2,by omega⟩
   rcases ih j (by omega) (by omega) (by omega)with⟨q,hq⟩ |hf
   ·exact Or.inl ⟨q+1,by rw[YFm,<-hq,YFc]⟩
   ·exact Or.inr (Ytw (by omega) hf)
  ·by_cases h3:n=1
   ·exact Or.inl ⟨0,h3⟩
   ·exact Or.inr (h n (by omega) hB (by omega))
theorem narrow_far2{J n:Nat}(hJ:J<=2045)(h1:1<=n)(h2:n<2^61)(h:(∃q,n=2^q)\/far2 J n):Yd7 J n:=by
 rcases YnS h1 (Nat.lt_trans h2 (by decide)) hJ with hn| ⟨hp,m,hm⟩
 ·exact hn
 ·exfalso
  rcases h with⟨q,hq⟩ |h
  ·have hq2:q<61:=(Nat.pow_lt_pow_iff_right (show 1<2 by decide)).1 (by rw[<-hq];exact h2)
   rw[hq,Yj2 q (by omega)]at hp
   cases hp
  ·exact h m hm
def pT(n:Nat):Nat:=Nat.pow 2 n
def lB:Nat:=pT 2120
def lQ:Nat:=pT (2043+60)
def lR:Nat:=pT 60
def subL(k s a:Nat):Bool:=subD lB 134 (tstG lQ lR) k s a
theorem YCD(n:Nat):pT n=2^n:=rfl
theorem lQ_is:lQ=2^(2043+60):=by unfold lQ;rw[YCD]
theorem lR_is:lR=2^60:=YCD 60
theorem pT_le{a b:Nat}(h:a<=b):pT a<=pT b:=YFq (by decide) h
theorem YBZ:2<=lB:=pT_le (a:=1) (b:=2120) (by decide)
theorem YrX{k s a:Nat}(ha:1<=a)(h:subL k s a=true):∀j m,1<=j->j<=k->m%2=1->m/2^j=a->far2 2043 m:=by
 obtain⟨l2,h2,hd⟩:=Yy8 YBZ ha h
 intro j m hj1 hj2 hodd hm x hx
 have ht:=hd j m hj1 hj2 hodd hm
 rw[lQ_is,lR_is]at ht
 obtain⟨a',b,q,g1,g2,g3,g4⟩:=Yze YBZ h2 ht
 exact Yty (x:=4160) (y:=4091) (by decide) (by decide) g1 g2 g3 g4 hx
end Go.Proofs.YtmiclogmkfobgaaGreat.LS
