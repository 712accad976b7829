/- Numbers by limbs of 32 bits, in plain Lean: digits, lengths, sums, differences, products. -/
import Derived.Test.YtmiclogmkfobgaaGreatMgX51c
import Derived.Test.YtmiclogmkfobgaaGreatProg
import Derived.Lib.BitFns
open Bool renaming and_eq_false_iff->YGZ,and_eq_true->YGi,eq_iff_iff->YHz,false_and->YHp,false_eq_true->YGC,false_or->YHx,not_eq_true'->YGA,or_eq_true->YG6,true_and->YHq
open Int renaming eq_ofNat_of_zero_le->YGM,mul_le_mul_of_nonneg_right->YGE,mul_nonneg->YHv,natCast_mul->YG1,toNat->YHE,toNat_natCast->YGb
open Go.IntWalk renaming i64_in->YGd,u64_in->YGF,up_tdiv->YHh,up_tmod->YHF
open List renaming mem_cons->YGK
open Nat renaming add_mul->YGG,add_zero->YHi,div_add_mod->YGP,div_div_eq_div_mul->YGv,div_eq_of_lt->YHo,div_le_self->YHm,div_lt_iff_lt_mul->YGL,eq_zero_or_pos->YGI,gcd->YHa,le_div_iff_mul_le->YG9,le_of_lt->YHn,le_of_not_lt->YHy,le_refl->YGr,le_trans->YGg,lt_of_le_of_lt->YGN,lt_of_lt_of_le->YGV,lt_or_ge->YGz,mod_eq_of_lt->YG3,mod_lt->YGJ,mul_add->YGQ,mul_assoc->YGm,mul_comm->YGj,mul_le_mul->YGB,mul_le_mul_left->YGk,mul_le_mul_right->YGf,mul_left_comm->YG5,mul_pos->YHd,not_lt_zero->YG7,pow_add->YGo,pow_le_pow_right->YGs,pow_mul->YGn,pow_pos->YGO,pow_succ->YGt,pow_zero->YHA,reduceAdd->YGa,reduceEqDiff->YF8,reduceLeDiff->YF9,succ_mul->YHD,zero_add->YHu,zero_le->YHk
open Go.Proofs.Tryz renaming prog->YGc
set_option linter.all false
namespace Go.Proofs.YtmiclogmkfobgaaGreat
open Go Go.Vx
def dig(a i:Nat):Nat:=a/4294967296^i%4294967296
theorem Yp(i:Nat):0<4294967296^i:=YGO (by decide)
theorem Yy(i:Nat):4294967296^(i+1)=4294967296^i*4294967296:=YGt ..
theorem YM(a i:Nat):dig a i<4294967296:=YGJ _ (by decide)
theorem YaC(a i:Nat):a%4294967296^(i+1)=a%4294967296^i+4294967296^i*dig a i:=Nat.mod_pow_succ
theorem YlI(a:Nat):dig a 0=a%4294967296:=by simp [dig]
theorem YbQ(i:Nat):dig 0 i=0:=by simp [dig]
theorem Ygi(a i:Nat):dig a (i+1)=dig (a/4294967296) i:=by
 unfold dig
 rw[YGv,Yy,YGj]
theorem Y3{a n i:Nat}(h:a<4294967296^n)(hi:n<=i):dig a i=0:=by
 unfold dig
 rw[YHo]
 exact YGV h (YGs (by decide) hi)
theorem Yg3{a b:Nat}:∀{n:Nat},(∀i,i<n->dig a i=dig b i)->a%4294967296^n=b%4294967296^n
 |0,_=>by simp [Nat.mod_one]
 |n+1,h=>by rw[YaC,YaC,Yg3 fun i hi=>h i (by omega),h n (by omega)]
theorem YlJ{a b n:Nat}(ha:a<4294967296^n)(hb:b<4294967296^n)(h:∀i,i<n->dig a i=dig b i):a=b:=by
 have:=Yg3 h
 rwa [YG3 ha,YG3 hb]at this
theorem YbA{a j k:Nat}(h:k<j):dig (a%4294967296^j) k=dig a k:=by
 unfold dig
 obtain⟨m,rfl⟩:∃m,j=k+(m+1):=⟨j-k-1,by omega⟩
 rw[YGo,Nat.mod_mul_right_div_self,YGt,YGj,Nat.mod_mul_right_mod]
def nlF:Nat->Nat->Nat
 |0,_=>0
 |f+1,a=>if a=0 then 0 else nlF f (a/4294967296)+1
def nl(a:Nat):Nat:=nlF a a
theorem YkN:∀(f a n:Nat),a<=f->(nlF f a<=n↔a<4294967296^n)
 |0,a,n,h=>by
  have:=Yp n
  simp only[nlF];omega
 |f+1,a,n,h=>by
  simp only[nlF]
  split
  ·rename_i h0;have:=Yp n;subst h0;simp;omega
  ·cases n with
   |zero=>simp;omega
   |succ n=>
    have:=YkN f (a/4294967296) n (by omega)
    rw[Yy,<-YGL (by decide),<-this]
    omega
theorem nl_le{a n:Nat}:nl a<=n↔a<4294967296^n:=YkN a a n (YGr _)
theorem YbO(a:Nat):a<4294967296^nl a:=nl_le.1 (YGr _)
theorem nl_0:nl 0=0:=rfl
theorem nl_pos{a:Nat}:0<nl a↔0<a:=by
 have:= @nl_le a 0
 simp at this;omega
theorem nl_eq0{a:Nat}:nl a=0↔a=0:=by
 have:= @nl_le a 0
 simp at this;omega
theorem YnD{a:Nat}(h:a≠0):dig a (nl a-1)≠0:=by
 obtain⟨n,hn⟩:∃n,nl a=n+1:=⟨nl a-1,by have:=nl_eq0 (a:=a);omega⟩
 rw[hn,Nat.add_sub_cancel]
 have h1:=YbO a
 have h2:¬a<4294967296^n:=fun hh=>by have:=nl_le.2 hh;omega
 rw[hn,Yy]at h1
 unfold dig
 have h3:a/4294967296^n<4294967296:=by rw[YGL (Yp n),YGj];exact h1
 rw[YG3 h3]
 have:=Nat.div_pos (YHy h2) (Yp n)
 omega
theorem YbF{a b:Nat}(h:a<=b):nl a<=nl b:=nl_le.2 (YGN h (YbO b))
theorem YaG{a n:Nat}(h:a<4294967296^n)(ht:n=0\/dig a (n-1)≠0):nl a=n:=by
 have h1:=nl_le.2 h
 rcases ht with rfl|ht
 ·omega
 ·rcases YGz (nl a) n with h2|h2
  ·exact absurd (Y3 (YbO a) (by omega:nl a<=n-1)) ht
  ·omega
theorem Ybe{a n:Nat}(h:a<4294967296^(n+1))(h0:dig a n=0):a<4294967296^n:=by
 have:=YaC a n
 rw[h0,YG3 h]at this
 rw[this]
 simpa using YGJ a (Yp n)
def cy(a b i:Nat):Nat:=(a%4294967296^i+b%4294967296^i)/4294967296^i
theorem cy_0(a b:Nat):cy a b 0=0:=by simp [cy,Nat.mod_one]
theorem YiN(a b i:Nat):cy a b i<=1:=by
 unfold cy
 have h1:=YGJ a (Yp i)
 have h2:=YGJ b (Yp i)
 have:(a%4294967296^i+b%4294967296^i)/4294967296^i<2:=by
  rw[YGL (Yp i)];omega
 omega
theorem YqD(a b i:Nat):(a+b)/4294967296^i=a/4294967296^i+b/4294967296^i+cy a b i:=by
 unfold cy
 have h1:=YGP a (4294967296^i)
 have h2:=YGP b (4294967296^i)
 generalize hP:4294967296^i=P at*
 have hp:0<P:=hP▸Yp i
 have e:a+b=P*(a/P+b/P)+(a%P+b%P):=by rw[YGQ];omega
 conv=>lhs;rw[e]
 rw[Nat.mul_add_div hp]
theorem Yfm(a b i:Nat):(dig a i+dig b i+cy a b i)%4294967296=dig (a+b) i:=by
 unfold dig
 rw[YqD]
 omega
theorem Yj7(a b i:Nat):(dig a i+dig b i+cy a b i)/4294967296=cy a b (i+1):=by
 have e:cy a b (i+1)=(a%4294967296^(i+1)+b%4294967296^(i+1))/4294967296^(i+1):=rfl
 rw[e,YaC,YaC,Yy,<-YGv]
 unfold cy
 generalize hP:4294967296^i=P at*
 have hp:0<P:=hP▸Yp i
 have e:a%P+P*dig a i+(b%P+P*dig b i)=P*(dig a i+dig b i)+(a%P+b%P):=by rw[YGQ];omega
 rw[e,Nat.mul_add_div hp]
theorem Yz4{a b:Nat}(h:b<=a)(i:Nat):(4294967296+dig a i-dig b i-cy b (a-b) i)%4294967296=dig (a-b) i/\1-(4294967296+dig a i-dig b i-cy b (a-b) i)/4294967296=cy b (a-b) (i+1)
 /\dig b i+cy b (a-b) i<=4294967296+dig a i/\4294967296+dig a i-dig b i-cy b (a-b) i<8589934592:=by
 have e1:=Yfm b (a-b) i
 have e2:=Yj7 b (a-b) i
 rw[show b+(a-b)=a by omega]at e1
 have h1:=YM b i
 have h2:=YM (a-b) i
 have h3:=YiN b (a-b) i
 have h4:=YiN b (a-b) (i+1)
 omega
def setD(V j x:Nat):Nat:=V-dig V j*4294967296^j+x*4294967296^j
theorem YaL(V j:Nat):V=4294967296^j*(4294967296*(V/4294967296^(j+1))+dig V j)+V%4294967296^j:=by
 have h1:=YGP V (4294967296^j)
 have h2:=YGP (V/4294967296^j) 4294967296
 rw[YGv,<-Yy]at h2
 unfold dig
 rw[h2,h1]
theorem YcY(V j x:Nat):setD V j x=4294967296^j*(4294967296*(V/4294967296^(j+1))+x)+V%4294967296^j:=by
 have:=YaL V j
 unfold setD
 generalize dig V j=d at*
 generalize V/4294967296^(j+1)=h at*
 generalize V%4294967296^j=l at*
 generalize 4294967296^j=P at*
 rw[YGQ]at this⊢
 rw[YGj d,YGj x]
 omega
theorem YdZ(V j x:Nat):setD V j x+dig V j*4294967296^j=V+x*4294967296^j:=by
 have:=YaL V j
 rw[YcY]
 generalize dig V j=d at*
 generalize V/4294967296^(j+1)=h at*
 generalize V%4294967296^j=l at*
 generalize 4294967296^j=P at*
 rw[YGQ]at this⊢
 rw[YGj d,YGj x]
 omega
theorem Yfe{V j x:Nat}(hx:x<4294967296):setD V j x/4294967296^(j+1)=V/4294967296^(j+1):=by
 have hl:=YGJ V (Yp j)
 have e:∀Y:Nat,Y/4294967296^(j+1)=Y/4294967296^j/4294967296:=fun Y=>by rw[Yy,YGv]
 rw[YcY,e (4294967296^j*(4294967296*(V/4294967296^(j+1))+x)+V%4294967296^j),Nat.mul_add_div (Yp j),YHo hl]
 generalize V/4294967296^(j+1)=h
 omega
theorem YcH{V j x:Nat}(hx:x<4294967296)(k:Nat):dig (setD V j x) k=if k=j then x else dig V k:=by
 have hl:=YGJ V (Yp j)
 rcases Nat.lt_trichotomy k j with h|h|h
 ·rw[if_neg (by omega),<-YbA h,<-YbA (a:=V) h,YcY,Nat.mul_add_mod,Nat.mod_mod]
 ·subst h
  rw[if_pos rfl,YcY]
  unfold dig
  rw[Nat.mul_add_div (Yp k),YHo hl]
  omega
 ·rw[if_neg (by omega)]
  obtain⟨m,rfl⟩:∃m,k=(j+1)+m:=⟨k-(j+1),by omega⟩
  unfold dig
  have e:setD V j x/4294967296^(j+1)=V/4294967296^(j+1):=by
   exact Yfe hx
  rw[YGo,<-YGv,<-YGv,e]
theorem YjD{V j x n:Nat}(hV:V<4294967296^n)(hx:x<4294967296)(hj:j<n):setD V j x<4294967296^n:=by
 obtain⟨m,rfl⟩:∃m,n=m+(j+1):=⟨n-(j+1),by omega⟩
 rw[YGo,<-YGL (Yp _)]at hV⊢
 rw[Yfe hx]
 exact hV
theorem Yjp{a b i k V c:Nat}(h:V+c*4294967296^(i+k)=(a%4294967296^i)*b+dig a i*(b%4294967296^k)*4294967296^i):
 setD V (i+k) ((dig V (i+k)+dig a i*dig b k+c)%4294967296)+((dig V (i+k)+dig a i*dig b k+c)/4294967296)*4294967296^(i+(k+1))=(a%4294967296^i)*b+dig a i*(b%4294967296^(k+1))*4294967296^i:=by
 have e1:=YdZ V (i+k) ((dig V (i+k)+dig a i*dig b k+c)%4294967296)
 have e2:=YGP (dig V (i+k)+dig a i*dig b k+c) 4294967296
 rw[YaC,show i+(k+1)=(i+k)+1 by omega,Yy]
 rw[YGo]at*
 generalize setD V (i+k) ((dig V (i+k)+dig a i*dig b k+c)%4294967296)=V' at*
 generalize(dig V (i+k)+dig a i*dig b k+c)%4294967296=r at*
 generalize(dig V (i+k)+dig a i*dig b k+c)/4294967296=q at*
 generalize dig V (i+k)=d at*
 generalize dig a i=x at*
 generalize dig b k=y at*
 generalize b%4294967296^k=bm at*
 generalize a%4294967296^i=am at*
 generalize 4294967296^i=P at*
 generalize 4294967296^k=R at*
 grind
theorem YkM{d x y c:Nat}(hd:d<4294967296)(hx:x<4294967296)(hy:y<4294967296)(hc:c<4294967296):d+x*y+c<18446744073709551616/\(d+x*y+c)/4294967296<4294967296:=by
 have:x*y<=4294967295*4294967295:=YGB (by omega) (by omega)
 omega
theorem YrO{a b i n m:Nat}(hi:i<=n)(ha:a<4294967296^n)(hb:b<4294967296^m):(a%4294967296^i)*b<4294967296^(n+m+1):=by
 have h1:=YGJ a (Yp i)
 have h2:a%4294967296^i<=4294967296^n:=YGg (YHn h1) (YGs (by decide) hi)
 have h3:(a%4294967296^i)*b<=4294967296^n*4294967296^m:=YGB h2 (YHn hb)
 rw[<-YGo]at h3
 rw[Yy]
 have:=Yp (n+m)
 omega
theorem Yc9(a m k:Nat):dig (a/4294967296^m) k=dig a (m+k):=by
 unfold dig
 rw[YGo,YGv]
theorem YlW(a b:Nat):∃n,a<4294967296^n/\b<4294967296^n:=
 ⟨nl a+nl b,YGV (YbO a) (YGs (by decide) (by omega)),YGV (YbO b) (YGs (by decide) (by omega))⟩
theorem Yft{a b:Nat}(h:∀i,dig a i=dig b i):a=b:=by
 obtain⟨n,h1,h2⟩:=YlW a b
 exact YlJ h1 h2 fun i _=>h i
theorem YqC{a b m:Nat}(h:∀i,m<=i->dig a i=dig b i):a/4294967296^m=b/4294967296^m:=
 Yft fun i=>by rw[Yc9,Yc9];exact h _ (by omega)
theorem YeA{a b j:Nat}(h:∀i,j<i->dig a i=dig b i)(hd:dig a j<dig b j):a<b:=by
 have h1:=YaL a j
 have h2:=YaL b j
 rw[YqC (m:=j+1) fun i hi=>h i hi]at h1
 have h3:=YGJ a (Yp j)
 generalize b/4294967296^(j+1)=q at*
 generalize 4294967296^j=P at*
 generalize a%P=x at*
 generalize b%P=y at*
 generalize dig a j=d at*
 generalize dig b j=e at*
 have:P*(4294967296*q+d)+P<=P*(4294967296*q+e):=by
  rw[<-Nat.mul_succ];exact YGk _ (by omega)
 omega
def ordN(a b:Nat):Int:=if a<b then -1 else if b<a then 1 else 0
theorem Yn{j:Nat}(h:0<j)(hj:j<=9223372036854775807):IntKind.i64.wrap ((j:Int)-1)=((j-1:Nat):Int):=by
 rw[YGd _ (by omega)];omega
theorem Ya7{x:Nat}(h:x<18446744073709551616):IntKind.u64.wrap (x:Int)=x:=YGF _ (by omega)
theorem Yf4{x:Nat}(h:x<4294967296):IntKind.u32.wrap (x:Int)=x:=IntWalk.u32_in _ (by omega)
theorem Yea{x y:Nat}(h:x+y<18446744073709551616):IntKind.u64.wrap ((x:Int)+(y:Int))=((x+y:Nat):Int):=by rw[YGF _ (by omega)];simp
theorem Yll{x y:Nat}(h:x*y<18446744073709551616):IntKind.u64.wrap ((x:Int)*(y:Int))=((x*y:Nat):Int):=by
 rw[<-YG1];exact Ya7 h
theorem YsU{x y:Nat}(h:y<=x)(hx:x<18446744073709551616):IntKind.u64.wrap ((x:Int)-(y:Int))=((x-y:Nat):Int):=by
 rw[YGF _ (by omega)];omega
theorem u_rem(x:Nat):((x:Int)).tmod 4294967296=((x%4294967296:Nat):Int):=YHF rfl rfl
theorem Yvv{x:Nat}(h:x<18446744073709551616):IntKind.u64.wrap (((x:Int)).tdiv 4294967296)=((x/4294967296:Nat):Int):=by
 have e:((x:Int)).tdiv 4294967296=((x/4294967296:Nat):Int):=YHh (y:=4294967296) rfl rfl
 rw[e];exact Ya7 (by omega)
theorem Yoe(x:Nat):IntKind.u32.wrap (((x:Int)).tmod 4294967296)=((x%4294967296:Nat):Int):=by
 rw[u_rem];exact Yf4 (YGJ _ (by decide))
set_option maxRecDepth 100000
set_option maxHeartbeats 4000000
def v117:VF:=⟨14,[.tmp 4],(ZR [u1 4 .mov [.cn (.int .u64 0)]] (.seq (ZR [Zm 5 1,Zm 6 0,Zl 7 6,Zr 8 .lss 5 7] (ZC 8 (ZR [Zm 9 0,Zm 10 1,Zx 11 1 9 10,Zf 12 1 11,u1 13 (.conv .u64) [.tm 12],Zm 4 13] .ret) .skip)) (ZR [u1 4 .mov [.cn (.int .u64 0)]] .ret)))⟩
theorem YAs:Yg YGc Tryz.f117=some v117:=by kernel_rfl
def v113:VF:=⟨23,[.tmp 2],(ZR [u1 2 .mov [.cn .nil]] (ZR [Zm 4 0,Zl 5 4,Zm 3 5] (.seq (.block 0 (.loop (.seq (ZR [Zm 6 3,Zq 7 .gtr 6 0,Zm 8 7,Zg 9 8 true 0,Zg 10 8 true 3,u2 11 8 true (.ari .sub) [.tm 10,.cn (.int .i64 1)],u2 12 8 true (.idxAddr 1) [.tm 9,.tm 11],Zh 13 8 true 1 12,u2 14 8 true (.cmp .eql) [.tm 13,.cn (.int .u32 0)],u1 15 .and [.tm 8,.tm 14]] (ZC 15 .skip (.exit 0))) (.block 1 (.region [Zm 16 3,u1 17 (.ari .sub) [.tm 16,.cn (.int .i64 1)],Zm 3 17]))))) (ZR [u1 18 (.buildSlice 1 0 [(.int .u32 0)] []) [],Zm 19 0,Zm 20 3,u1 21 (.slice 1 false true) [.tm 19,.tm 20],u1 22 (.append 1 4 [(.int .u32 0)]) [.tm 18,.tm 21],Zm 2 22] .ret))))⟩
theorem YAp:Yg YGc Tryz.f113=some v113:=by kernel_rfl
def v86:VF:=⟨11,[.tmp 2],(ZR [u1 2 .mov [.cn .nil]] (ZR [Zm 3 0,u1 4 .rem [.tm 3,.cn (.int .u64 4294967296)],u1 5 (.conv .u32) [.tm 4],Zm 6 0,u1 7 .quo [.tm 6,.cn (.int .u64 4294967296)],u1 8 (.conv .u32) [.tm 7],u1 9 (.buildSlice 1 2 [(.int .u32 0)] [(0,1),(1,1)]) [.tm 5,.tm 8],Zc 10 113 9,Zm 2 10] .ret))⟩
theorem YFQ:Yg YGc Tryz.f86=some v86:=by kernel_rfl
def v110:VF:=⟨30,[.tmp 4],(ZR [Zi 4 0] (.seq (ZR [Zm 6 0,Zl 7 6,Zm 8 1,Zl 9 8,u1 10 .max [.tm 7,.tm 9],u1 11 (.ari .sub) [.tm 10,.cn (.int .i64 1)],Zm 5 11] (.block 0 (.loop (.seq (ZR [Zm 12 5,Zq 13 .geq 12 0] (ZC 13 .skip (.exit 0))) (.seq (.block 1 (.seq (ZR [Zm 16 0,Zm 17 5,Zd 18 117 16 17,Zm 19 1,Zm 20 5,Zd 21 117 19 20,Zr 22 .lss 18 21] (ZC 22 (ZR [Zi 4 (-1)] .ret) .skip)) (ZR [Zm 23 0,Zm 24 5,Zd 25 117 23 24,Zm 26 1,Zm 27 5,Zd 28 117 26 27,Zr 29 .gtr 25 28] (ZC 29 (ZR [Zi 4 1] .ret) .skip)))) (.region [Zm 14 5,u1 15 (.ari .sub) [.tm 14,.cn (.int .i64 1)],Zm 5 15])))))) (ZR [Zi 4 0] .ret)))⟩
theorem YAm:Yg YGc Tryz.f110=some v110:=by kernel_rfl
def v137:VF:=⟨38,[.tmp 4],(ZR [u1 4 .mov [.cn .nil]] (ZR [u1 5 .mov [.cn .nil]] (ZR [u1 6 .mov [.cn (.int .u64 0)]] (.seq (ZR [Zi 7 0] (.block 0 (.loop (.seq (ZR [Zm 9 7,Zm 10 0,Zl 11 10,Zm 12 1,Zl 13 12,u1 14 .max [.tm 11,.tm 13],Zp 15 14 1,Zr 16 .lss 9 15] (ZC 16 .skip (.exit 0))) (.seq (.block 1 (ZR [Zm 19 0,Zm 20 7,Zd 21 117 19 20,Zm 22 1,Zm 23 7,Zd 24 117 22 23,Zo 25 .add 21 24,Zm 26 6,Zo 27 .add 25 26,Zm 8 27] (ZR [Zm 28 5,Zm 29 8,u1 30 .rem [.tm 29,.cn (.int .u64 4294967296)],u1 31 (.conv .u32) [.tm 30],u1 32 (.buildSlice 1 1 [(.int .u32 0)] [(0,1)]) [.tm 31],u1 33 (.append 1 4 [(.int .u32 0)]) [.tm 28,.tm 32],Zm 5 33] (.region [Zm 34 8,u1 35 .quo [.tm 34,.cn (.int .u64 4294967296)],Zm 6 35])))) (.region [Zm 17 7,Zp 18 17 1,Zm 7 18])))))) (ZR [Zm 36 5,Zc 37 113 36,Zm 4 37] .ret)))))⟩
theorem YAL:Yg YGc Tryz.f137=some v137:=by kernel_rfl
def padP(a n sz:Nat)(get:Nat->List SV):Prop:=sz=1/\n<=100000/\a<4294967296^n/\∀k,k<n->leXL (get k) [.int .u32 (dig a k)]
theorem Yx{a n:Nat}(hn:n<=100000)(ha:a<4294967296^n):padP a n 1 (fun k=>[.int .u32 (dig a k)]):=⟨rfl,hn,ha,fun k _=>Yd _⟩
theorem Ye{a:Nat}(hn:nl a<=100000):padP a (nl a) 1 (fun k=>[.int .u32 (dig a k)]):=Yx hn (YbO a)
theorem YDu{a sz:Nat}{get:Nat->List SV}(h:padP a 0 sz get):a=0:=by
 have:=h.2.2.1
 simp at this;omega
def natS(z:Bool)(a:Nat):SV:= .vs true z (nl a) 1 (fun k=>[.int .u32 (dig a k)])
def limbC:Ctr:={ alias:=false,of:=fun l=>match l with
 | [.vs _ _ n sz get,.int .i64 i]=> .ex Nat fun a=> .pre (padP a n sz get/\0<=i) (.fin (.int .u64 (dig a i.toNat)) [])
 |_=>noC}
def trimC:Ctr:={ alias:=false,of:=fun l=>match l with
 | [.vs _ _ n sz get]=> .ex Nat fun a=> .pre (padP a n sz get) (.fin (natS false a) [])
 |_=>noC}
theorem Yl3{hp:List HO}{i n m:Nat}{z zz:Bool}{get:Nat->List SV}{a:Nat}(hn:n=nl a)(hz:z=zz)(hi:getH hp i= .own z 1 m get)(hg:∀j,j<n->get j=[.int .u32 (dig a j)]):
 le 0 0 (expo hp (.own i 0 n 1)) (natS zz a):=by
 have e:expo hp (.own i 0 n 1)= .vs true z n 1 (fun k=>viewN true hp 2 (get (Yb9 0 k))):=by
  show view true hp (viewN true hp 2) (.own i 0 n 1)=_
  unfold view
  rw[hi];rfl
 rw[e]
 unfold natS
 rw[YuK]
 refine⟨id,hz,hn,rfl,fun j hj=>?_⟩
 show leXL (viewN true hp 2 (get j)) _
 rw[hg j hj]
 exact Yd _
theorem YaP{k:SV->List HO->Prop}{al:Bool}{hp:List HO}{i n m:Nat}{z zz:Bool}{get:Nat->List SV}{a:Nat}(h:k (natS zz a) [])(hn:n=nl a)(hz:z=zz)(hi:getH hp i= .own z 1 m get)(hg:∀j,j<n->get j=[.int .u32 (dig a j)]):
 YD al k (.own i 0 n 1) hp:=YC h (Yl3 hn hz hi hg) (fun _=>by simp [natS,Yl,Ym])
theorem Yaj{k:SV->List HO->Prop}{al:Bool}{hp:List HO}{t z:Bool}{a:Nat}(h:k (natS z a) []):YD al k (.vs true z (nl a) 1 (fun k=>[.int .u32 (dig a k)])) hp:=
 YC h (Yv _ trivial) (fun _=>by simp [natS,Yl,Ym])
def R0:Env:={ ct:=fun _=>none,fn:=fun _=>none,meth:=fun _ _=>none}
theorem YBy:Yq YGc R0:=by
 refine⟨fun f c h=>?_,fun f vf h=>?_,(fun _ _ _ h=>by cases h),by kernel_rfl,(fun _ h=>by cases h)⟩
 ·cases h
 ·cases h
theorem Yrz:limbC.ok YGc 117:=by
 refine Yb Tryz.func117 YAs YBy 100 limbC fun args k h=>?_
 simp only[limbC]at h
 split at h
 ·rename_i tt z n sz get i
  obtain⟨a,⟨⟨rfl,hn,ha,hg⟩,hi⟩,h⟩:=h
  refine⟨[.vs tt z n 1 (fun k=>[.int .u32 (dig a k)]),.int .i64 i],by simpa [leL,le]using hg,?_⟩
  (try dsimp only[v117,go_sem,reduceIte])
  (try simp only[Yc,YGa,YF9,reduceCtorEq,YF8])
  refine⟨fun hlt=>⟨⟨hi,hlt⟩,Yf ?_⟩,fun hge=>Yf ?_⟩
  ·rw[Ya7 (Nat.lt_trans (YM _ _) (by decide))];exact h
  ·rw[Y3 ha (by omega)]at h;exact h
 ·exact h.1.elim
theorem YsS:trimC.ok YGc 113:=by
 refine Yb Tryz.func113 YAp YBy 200 trimC fun args k h=>?_
 simp only[trimC]at h
 split at h
 ·rename_i tt z n sz get
  obtain⟨a,⟨rfl,hn,ha,hg⟩,h⟩:=h
  refine⟨[.vs tt z n 1 (fun k=>[.int .u32 (dig a k)])],by simpa [leL,le]using hg,?_⟩
  (try dsimp only[v113,go_sem,reduceIte])
  (try simp only[Yc,YGa,YF9,reduceCtorEq,YF8])
  refine Loop.keep [0,2] Nat (fun j=>[(3,.int .i64 j)]) (fun _=>[]) [] (fun j=>j<=n/\a<4294967296^j) (fun j=>j) ?_ ?_
  ·refine⟨n,⟨YGr _,ha⟩,?_⟩
   (try dsimp only[go_sem,reduceIte])
   simp only[Ya]
  ·rintro j ⟨hj,haj⟩
   (try dsimp only[YGb,go_sem,reduceIte])
   (try simp only[Yc,YGa,YF9,reduceCtorEq,YF8])
   refine⟨fun hlt=>?_,fun hb=>?_,fun hb=>?_⟩
   ·rw[Yn (by omega) (by omega)];omega
   ·rw[YGi,decide_eq_true_eq,decide_eq_true_eq]at hb
    obtain⟨h1,h2⟩:=hb
    rw[Yn (by omega) (by omega),YGb]at h2
    refine⟨j-1,⟨by omega,?_⟩,by omega,?_⟩
    ·obtain⟨m,rfl⟩:∃m,j=m+1:=⟨j-1,by omega⟩
     exact Ybe haj (by simp at h2;exact_mod_cast h2)
    ·rw[Yn (by omega) (by omega)]
     simp only[Ya] <;> simp
   ·have e:nl a=j:=by
     refine YaG haj ?_
     rw[YGZ,decide_eq_false_iff_not,decide_eq_false_iff_not]at hb
     rcases YGI j with h0|h0
     ·exact .inl h0
     ·refine .inr fun hh=>hb.elim (fun h=>h (by omega)) fun h=>h ?_
      rw[Yn h0 (by omega),YGb,hh];rfl
    subst e
    (try dsimp only[YGb,go_sem,reduceIte])
    (try simp only[Yc,YGa,YF9,reduceCtorEq,YF8])
    refine⟨by decide,⟨by omega,by omega⟩,by unfold YP;omega,YaP h (YHu _) ?_ rfl fun j hj=>?_⟩
    ·rfl
    ·rw[if_neg (YG7 _)];rfl
 ·exact h.1.elim
def ofC:Ctr:={ alias:=false,of:=fun l=>match l with
 | [.int .u64 n]=> .pre (0<=n/\n<18446744073709551616) (.fin (natS false n.toNat) [])
 |_=>noC}
def orderC:Ctr:={ alias:=false,of:=fun l=>match l with
 | [.vs _ _ n sz get,.vs _ _ m sz' get']=> .ex Nat fun a=> .ex Nat fun b=> .pre (padP a n sz get/\padP b m sz' get') (.fin (.int .i64 (ordN a b)) [])
 |_=>noC}
def plusC:Ctr:={ alias:=false,of:=fun l=>match l with
 | [.vs _ _ n sz get,.vs _ _ m sz' get']=> .ex Nat fun a=> .ex Nat fun b=> .pre (padP a n sz get/\padP b m sz' get'/\n<=99999/\m<=99999) (.fin (natS false (a+b)) [])
 |_=>noC}
def R1:Env:={ ct:=fun n=>match n with|117=>some limbC|113=>some trimC|_=>none,fn:=fun _=>none,meth:=fun _ _=>none}
theorem YdE:R1.ct 117=some limbC:=rfl
theorem YdD:R1.ct 113=some trimC:=rfl
theorem Yit:Yq YGc R1:=by
 refine⟨fun f c h=>?_,fun f vf h=>?_,(fun _ _ _ h=>by cases h),by kernel_rfl,(fun _ h=>by cases h)⟩
 ·simp only[R1]at h
  split at h
  ·cases h;exact⟨Yrz,Tryz.f117,Tryz.func117,by kernel_rfl,by kernel_rfl⟩
  ·cases h;exact⟨YsS,Tryz.f113,Tryz.func113,by kernel_rfl,by kernel_rfl⟩
  ·cases h
 ·cases h
theorem YDl(n:Nat)(h:n<18446744073709551616):padP n 2 1 fun k=>Ybu false [HO.own false 1 2 (YaN 1 [SV.int .u32 (IntKind.u32.wrap ((n:Int).tmod 4294967296)),SV.int .u32 (IntKind.u32.wrap (IntKind.u64.wrap ((n:Int).tdiv 4294967296)))])]
 (fun x=>Ybu false [HO.own false 1 2 (YaN 1 [SV.int .u32 (IntKind.u32.wrap ((n:Int).tmod 4294967296)),SV.int .u32 (IntKind.u32.wrap (IntKind.u64.wrap ((n:Int).tdiv 4294967296)))])] (fun x=>Yow x) x)
 (YL 1 (YG (k*1) [SV.int .u32 (IntKind.u32.wrap ((n:Int).tmod 4294967296)),SV.int .u32 (IntKind.u32.wrap (IntKind.u64.wrap ((n:Int).tdiv 4294967296)))])):=by
 refine⟨rfl,by decide,by omega,fun k hk=>?_⟩
 have h0:dig n 0=n%4294967296:=YlI n
 have h1:dig n 1=n/4294967296:=by rw[Ygi,YlI];omega
 match k,hk with
 |0,_=>rw[h0,Yoe];exact Yd _
 |1,_=>rw[h1,Yvv h,Yf4 (by omega)];exact Yd _
theorem YuW:ofC.ok YGc 86:=by
 refine Yb Tryz.func86 YFQ Yit 200 ofC fun args k h=>?_
 simp only[ofC]at h
 split at h
 ·rename_i n
  obtain⟨⟨h0,h1⟩,h⟩:=h
  obtain⟨n,rfl⟩:=YGM h0
  refine⟨[.int .u64 n],by simp [leL,le],?_⟩
  (try dsimp only[v86,YdD,trimC,natS,go_sem,reduceIte])
  (try simp only[Yc,YGa,YF9,reduceCtorEq,YF8])
  refine⟨by decide,by decide,by decide,n,YDl n (by omega),?_⟩
  exact Yaj (t:=true) h
 ·exact h.1.elim
theorem YbT:orderC.ok YGc 110:=by
 refine Yb Tryz.func110 YAm Yit 200 orderC fun args k h=>?_
 simp only[orderC]at h
 split at h
 ·rename_i t1 z1 n sz get t2 z2 m sz' get'
  obtain⟨a,b,⟨⟨rfl,hn,ha,hg⟩,rfl,hm,hb,hg'⟩,h⟩:=h
  refine⟨[.vs t1 z1 n 1 (fun k=>[.int .u32 (dig a k)]),.vs t2 z2 m 1 (fun k=>[.int .u32 (dig b k)])],⟨by simpa [le]using hg,by simpa [le]using hg',trivial⟩,?_⟩
  (try dsimp only[v110,YdE,limbC,go_sem,reduceIte])
  (try simp only[Yc,YGa,YF9,reduceCtorEq,YF8])
  refine Loop.keep [0,0,3] Nat (fun j=>[(5,.int .i64 ((j:Int)-1))]) (fun _=>[]) [] (fun j=>j<=100000/\∀i,j<=i->dig a i=dig b i) (fun j=>j) ?_ ?_
  ·refine⟨max n m,⟨by omega,fun i hi=>by rw[Y3 ha (by omega),Y3 hb (by omega)]⟩,?_⟩
   (try dsimp only[go_sem,reduceIte])
   simp only[Ya]
   rw[YGd _ (by omega)]
   simp <;> omega
  ·rintro j ⟨hj,haj⟩
   (try dsimp only[YdE,limbC,go_sem,reduceIte])
   (try simp only[Yc,YGa,YF9,reduceCtorEq,YF8])
   refine⟨fun hlt=>?_,fun hge=>?_⟩
   ·obtain⟨i,rfl⟩:∃i,j=i+1:=⟨j-1,by omega⟩
    have e:((i+1:Nat):Int)-1=i:=by omega
    have gt:∀t,i<t->dig a t=dig b t:=fun t ht=>haj t (by omega)
    rw[e]
    simp only[YGb]
    refine⟨a,⟨Yx hn ha,by omega⟩,b,⟨Yx hm hb,by omega⟩,fun hc=>Yf ?_,fun hc=>⟨a,⟨Yx hn ha,by omega⟩,b,⟨Yx hm hb,by omega⟩,fun hd=>Yf ?_,fun hd=>?_⟩⟩
    ·have:=YeA gt (by omega:dig a i<dig b i)
     rw[ordN,if_pos this]at h;exact h
    ·have:=YeA (fun t ht=>(gt t ht).symm) (by omega:dig b i<dig a i)
     rw[ordN,if_neg (by omega),if_pos this]at h;exact h
    ·refine⟨i,⟨by omega,fun t ht=>?_⟩,by omega,?_⟩
     ·rcases Nat.eq_or_lt_of_le ht with rfl|ht
      ·omega
      ·exact gt t ht
     ·simp only[Ya]
      rw[YGd _ (by omega)]
   ·obtain rfl:j=0:=by omega
    have:a=b:=Yft fun i=>haj i (YHk _)
    rw[ordN,if_neg (by omega),if_neg (by omega)]at h
    exact Yf h
 ·exact h.1.elim
theorem Yr2:plusC.ok YGc 137:=by
 refine Yb Tryz.func137 YAL Yit 200 plusC fun args k h=>?_
 simp only[plusC]at h
 split at h
 ·rename_i t1 z1 n sz get t2 z2 m sz' get'
  obtain⟨a,b,⟨⟨rfl,hn,ha,hg⟩,⟨rfl,hm,hb,hg'⟩,hn9,hm9⟩,h⟩:=h
  refine⟨[.vs t1 z1 n 1 (fun k=>[.int .u32 (dig a k)]),.vs t2 z2 m 1 (fun k=>[.int .u32 (dig b k)])],⟨by simpa [le]using hg,by simpa [le]using hg',trivial⟩,?_⟩
  (try dsimp only[v137,go_sem,reduceIte])
  (try simp only[Yc,YGa,YF9,reduceCtorEq,YF8])
  refine Loop.keep [0,0,3,0,0] Nat (fun i=>[(5,.own 0 0 i 1),(6,.int .u64 (cy a b i)),(7,.int .i64 i)]) (fun i=>[(0,.own (decide (i=0)) 1 i (fun k=>[.int .u32 (dig (a+b) k)]))]) [.gone] (fun i=>i<=max n m+1) (fun i=>max n m+1-i) ?_ ?_
  ·refine⟨0,by omega,?_⟩
   (try dsimp only[go_sem,reduceIte])
   simp only[Ya]
   simp [cy_0]
  ·rintro i hi
   (try dsimp only[YdE,YdD,limbC,trimC,natS,YGb,go_sem,reduceIte])
   (try simp only[Yc,YGa,YF9,reduceCtorEq,YF8])
   have emax:IntKind.i64.wrap (max (n:Int) (m:Int)+1)=((max n m+1:Nat):Int):=by rw[YGd _ (by omega)];omega
   rw[emax]
   refine⟨fun hlt=>⟨a,⟨Yx hn ha,by omega⟩,b,⟨Yx hm hb,by omega⟩,by decide,by decide,?_⟩,fun hge=>⟨a+b,?_,?_⟩⟩
   ·have hd1:=YM a i
    have hd2:=YM b i
    have hc:=YiN a b i
    have e1:=Yfm a b i
    have e2:=Yj7 a b i
    rw[Yea (by omega),Yea (by omega)]
    (try dsimp only[go_sem,reduceIte])
    (try simp only[Yc,YGa,YF9,reduceCtorEq,YF8])
    refine⟨⟨by unfold YP;omega,fun j hj=>?_⟩,by decide,i+1,by omega,by omega,?_⟩
    ·match j,hj with
     |0,_=>exact⟨rfl,trivial,trivial⟩
    ·rw[Yoe,Yvv (by omega),e1,e2,YGd ((i:Int)+1) (by omega)]
     simp only[Ya]
     refine⟨by simp,by simp,fun j hj=>?_⟩
     rcases YGz j i with h'|h'
     ·rw[if_pos h'];simp only[leL,le,and_self]
     ·obtain rfl:j=i:=by omega
      rw[if_neg (Nat.lt_irrefl _),Nat.sub_self]
      simp only[Yj,YL,YG,leL,Nat.zero_mul,Yd7,refs,cond,le,and_self]
   ·obtain rfl:i=max n m+1:=by omega
    refine Yx (by omega) ?_
    have h1:a<4294967296^max n m:=YGV ha (YGs (by decide) (by omega))
    have h2:b<4294967296^max n m:=YGV hb (YGs (by decide) (by omega))
    rw[Yy];omega
   ·exact Yaj (t:=true) h
 ·exact h.1.elim
def Yqd:Nat->Nat->Nat
 |0,_=>0
 |f+1,a=>if a=0 then 0 else Yqd f (a/2)+1
def Yo(a:Nat):Nat:=Yqd a a
theorem YH(i:Nat):0<2^i:=YGO (by decide)
theorem Ym1:∀(f a n:Nat),a<=f->(Yqd f a<=n↔a<2^n)
 |0,a,n,h=>by
  have:=YH n
  simp only[Yqd];omega
 |f+1,a,n,h=>by
  simp only[Yqd]
  split
  ·rename_i h0;have:=YH n;subst h0;simp;omega
  ·cases n with
   |zero=>simp;omega
   |succ n=>
    have:=Ym1 f (a/2) n (by omega)
    rw[YGt,<-YGL (by decide),<-this]
    omega
theorem bitsN_le{a n:Nat}:Yo a<=n↔a<2^n:=Ym1 a a n (YGr _)
theorem YcE(a:Nat):a<2^Yo a:=bitsN_le.1 (YGr _)
theorem Yxz:Yo 0=0:=rfl
theorem Yfp{a:Nat}(h:0<a):Yo a=Yo (a/2)+1:=by
 have h1:∀n,Yo a<=n↔Yo (a/2)+1<=n:=fun n=>by
  cases n with
  |zero=>have:= @bitsN_le a 0;simp at this;omega
  |succ n=>rw[bitsN_le,YGt,<-YGL (by decide),<-bitsN_le];omega
 have a1:=(h1 (Yo (a/2)+1)).2 (YGr _)
 have a2:=(h1 (Yo a)).1 (YGr _)
 omega
theorem bitsN_eq0{a:Nat}:Yo a=0↔a=0:=by
 have:= @bitsN_le a 0
 simp at this;omega
theorem Ycs(m:Nat):4294967296^m=2^(32*m):=by
 rw[YGn]
theorem Yqe{a m:Nat}(h:nl a=m+1):Yo a=32*m+Yo (dig a m):=by
 have h1:=YbO a
 have h2:¬a<4294967296^m:=fun hh=>by have:=nl_le.2 hh;omega
 rw[h,Yy]at h1
 have h3:a/4294967296^m<4294967296:=by rw[YGL (Yp m),YGj];exact h1
 have h4:dig a m=a/4294967296^m:=by unfold dig;rw[YG3 h3]
 have h5:∀t,Yo a<=32*m+t↔Yo (dig a m)<=t:=fun t=>by
  rw[bitsN_le,bitsN_le,YGo,<-Ycs,h4,YGL (Yp m),YGj]
 have h6:32*m<=Yo a:=by
  rcases YGz (Yo a) (32*m)with h'|h'
  ·exact absurd (by rw[Ycs];exact bitsN_le.1 (YHn h')) h2
  ·exact h'
 have a1:=(h5 (Yo (dig a m))).2 (YGr _)
 have a2:=(h5 (Yo a-32*m)).1 (by omega)
 omega
theorem Ym2(a:Nat):Yo a<=32*nl a:=by
 rw[bitsN_le,<-Ycs];exact YbO a
def bitN(a i:Nat):Nat:=a/2^i%2
theorem Yxy(a i:Nat):bitN a i<2:=YGJ _ (by decide)
theorem YlU{y r:Nat}(h:r<32):y%4294967296/2^r%2=y/2^r%2:=by
 have e:(4294967296:Nat)=2^r*(2*2^(31-r)):=by
  have h1:(2:Nat)*2^(31-r)=2^(32-r):=by
   rw[YGj,<-YGt];congr 1;omega
  rw[h1,<-YGo,show r+(32-r)=32 by omega]
 rw[e,Nat.mod_mul_right_div_self,Nat.mod_mul_right_mod]
theorem Ym0(a i:Nat):bitN a i=dig a (i/32)/2^(i%32)%2:=by
 unfold bitN dig
 rw[YlU (YGJ _ (by decide)),Ycs,YGv,<-YGo]
 congr 3;omega
theorem Yux(a i:Nat):a/2^i=2*(a/2^(i+1))+bitN a i:=by
 unfold bitN
 rw[YGt,<-YGv]
 generalize a/2^i=y
 omega
theorem Y7(a j k:Nat):dig (a%4294967296^j) k=if k<j then dig a k else 0:=by
 split
 ·exact YbA ‹_›
 ·exact Y3 (YGJ _ (Yp j)) (by omega)
def dcy(a x i:Nat):Nat:=(2*(a%4294967296^i)+x)/4294967296^i
theorem dcy_0(a x:Nat):dcy a x 0=x:=by simp [dcy,Nat.mod_one]
theorem YvM{a x i:Nat}(hx:x<=1):dcy a x i<=1:=by
 unfold dcy
 have h1:=YGJ a (Yp i)
 have:(2*(a%4294967296^i)+x)/4294967296^i<2:=by
  rw[YGL (Yp i)];omega
 omega
theorem Yqw(a x i:Nat):(2*dig a i+dcy a x i)%4294967296=dig (2*a+x) i:=by
 have e:(2*a+x)/4294967296^i=2*(a/4294967296^i)+dcy a x i:=by
  unfold dcy
  have h1:=YGP a (4294967296^i)
  generalize hP:4294967296^i=P at*
  have hp:0<P:=hP▸Yp i
  have e:2*a+x=P*(2*(a/P))+(2*(a%P)+x):=by rw[<-YGm,YGj P 2,YGm];omega
  conv=>lhs;rw[e]
  rw[Nat.mul_add_div hp]
 unfold dig
 rw[e]
 omega
theorem YCn(a x i:Nat):(2*dig a i+dcy a x i)/4294967296=dcy a x (i+1):=by
 have e:dcy a x (i+1)=(2*(a%4294967296^(i+1))+x)/4294967296^(i+1):=rfl
 rw[e,YaC,Yy,<-YGv]
 unfold dcy
 generalize hP:4294967296^i=P at*
 have hp:0<P:=hP▸Yp i
 have e:2*(a%P+P*dig a i)+x=P*(2*dig a i)+(2*(a%P)+x):=by rw[YGQ,<-YGm,YGj 2 P,YGm];omega
 rw[e,Nat.mul_add_div hp]
theorem YxQ{a x n:Nat}(h:a<4294967296^n):dcy a x n=dig (2*a+x) n\/1<x:=by
 rcases YGz 1 x with hx|hx
 ·exact .inr hx
 ·left
  have h1:=Yqw a x n
  rw[Y3 h (YGr _)]at h1
  have:=YvM (a:=a) (i:=n) hx
  omega
theorem Yxo(x:Nat):IntKind.u32.wrap ((BitVec.ofInt 32 (x:Int)&&&BitVec.ofInt 32 1).toNat:Int)=((x%2:Nat):Int):=by
 have e:(BitVec.ofInt 32 (x:Int)&&&BitVec.ofInt 32 1).toNat=x%2:=by
  rw[BitVec.toNat_and]
  have h1:(BitVec.ofInt 32 (x:Int)).toNat=x%4294967296:=by simp [BitVec.toNat_ofInt] <;> omega
  have h2:(BitVec.ofInt 32 1).toNat=1:=by decide
  rw[h1,h2,Nat.and_one_is_mod] <;> omega
 rw[e];exact Yf4 (by omega)
theorem YkQ{x:Nat}(h:x<4294967296):(BitVec.ofInt 32 (x:Int)).toNat=x:=by
 simp [BitVec.toNat_ofInt];omega
theorem YrZ{x y:Nat}(hx:x<4294967296)(hy:y<4294967296):IntKind.u32.wrap ((BitVec.ofInt 32 (x:Int) ||| BitVec.ofInt 32 (y:Int)).toNat:Int)=((x||| y:Nat):Int):=by
 rw[BitVec.toNat_or,YkQ hx,YkQ hy]
 exact Yf4 (Nat.or_lt_two_pow (n:=32) hx hy)
theorem YrY{d s:Nat}(h:d/2^s%2=0):d||| 2^s=d+2^s:=by
 have h1:=YGP d (2^s)
 have h2:=YGJ d (YH s)
 have e:d=2^s*(d/2^s)+d%2^s:=h1.symm
 apply Nat.eq_of_testBit_eq
 intro j
 rw[Nat.testBit_or,Nat.testBit_two_pow]
 by_cases hj:s=j
 ·subst hj
  have:(d+2^s).testBit s= !d.testBit s:=by
   rw[Nat.add_comm];exact Nat.testBit_two_pow_add_eq d s
  have hb:d.testBit s=false:=by
   rw[Nat.testBit_eq_decide_div_mod_eq];simp [h]
  rw[this,hb];simp
 ·have:(d+2^s).testBit j=d.testBit j:=by
   rcases YGz j s with hlt|hge
   ·rw[Nat.add_comm];exact Nat.testBit_two_pow_add_gt hlt d
   ·have hgt:s<j:=by omega
    rw[Nat.testBit_eq_decide_div_mod_eq,Nat.testBit_eq_decide_div_mod_eq]
    have:(d+2^s)/2^j=d/2^j:=by
     obtain⟨m,rfl⟩:∃m,j=s+1+m:=⟨j-(s+1),by omega⟩
     rw[YGo,<-YGv,<-YGv,YGt,<-YGv,<-YGv,Nat.add_div_right _ (YH s)]
     congr 1;omega
    rw[this]
  rw[this];simp [hj]
theorem YCo{d c:Nat}(hd:d<4294967296)(hc:c<=1):IntKind.u32.wrap ((BitVec.ofInt 32 (IntKind.u32.wrap ((d:Int)*2^min (YHE 1) 32)) ||| BitVec.ofInt 32 (c:Int)).toNat:Int)=(((2*d+c)%4294967296:Nat):Int):=by
 have e:IntKind.u32.wrap ((d:Int)*2^min (YHE 1) 32)=((2*d%4294967296:Nat):Int):=by
  have:(2:Int)^min (YHE 1) 32=2:=by decide
  rw[this,IntKind.wrap_u32];omega
 rw[e,YrZ (by omega) (by omega)]
 rcases YGI c with h0|h0
 ·subst h0;simp
 ·obtain rfl:c=1:=by omega
  have h2:(2*d%4294967296) ||| 2^0=2*d%4294967296+2^0:=YrY (by omega)
  rw[YHA]at h2
  rw[h2];omega
theorem YxP{d:Nat}:(d:Int).fdiv (2^min (YHE 31) 32)=((d/2147483648:Nat):Int):=by
 have:(2:Int)^min (YHE 31) 32=2147483648:=by decide
 rw[this,Int.fdiv_eq_ediv_of_nonneg _ (by decide)];omega
theorem YEz{q i:Nat}(h:q%2^(i+1)=0):dig q (i/32)/2^(i%32)%2=0/\setD q (i/32) (dig q (i/32)+2^(i%32))=q+2^i/\dig q (i/32)+2^(i%32)<4294967296:=by
 have hb:bitN q i=0:=by
  unfold bitN
  have:=Nat.mod_mul_right_div_self q (2^i) 2
  rw[<-YGt,h,Nat.zero_div]at this
  exact this.symm
 have h1:dig q (i/32)/2^(i%32)%2=0:=by rw[<-Ym0];exact hb
 refine⟨h1,?_,?_⟩
 ·have e:=YdZ q (i/32) (dig q (i/32)+2^(i%32))
  have e2:2^i=2^(i%32)*4294967296^(i/32):=by
   rw[Ycs,<-YGo];congr 1;omega
  rw[e2]
  rw[YGG]at e
  omega
 ·rw[<-YrY h1]
  exact Nat.or_lt_two_pow (n:=32) (YM _ _) (Nat.pow_lt_pow_right (by decide) (YGJ _ (by decide)))
theorem Yjo{q i:Nat}(h:q%2^(i+1)=0):q%2^i=0/\q/2^i=2*(q/2^(i+1)):=by
 have hm:2^(i+1)=2^i*2:=YGt ..
 obtain⟨c,hc⟩:=Nat.dvd_of_mod_eq_zero h
 subst hc
 constructor
 ·rw[hm,YGm];exact Nat.mul_mod_right _ _
 ·rw[Nat.mul_div_cancel_left _ (YH _),hm,YGm,Nat.mul_div_cancel_left _ (YH i)]
theorem Ykm{a b q r i:Nat}(h:a/2^(i+1)=q/2^(i+1)*b+r)(hq:q%2^(i+1)=0):a/2^i=q/2^i*b+(2*r+bitN a i):=by
 rw[Yux,h,(Yjo hq).2]
 grind
theorem YqE{a b q r i:Nat}(h:a/2^(i+1)=q/2^(i+1)*b+r)(hq:q%2^(i+1)=0)(hb:b<=2*r+bitN a i):a/2^i=(q+2^i)/2^i*b+(2*r+bitN a i-b)/\(q+2^i)%2^i=0:=by
 rw[Nat.add_div_right _ (YH i),Nat.add_mod_right]
 refine⟨?_,(Yjo hq).1⟩
 have:=Ykm h hq
 rw[YHD]
 omega
theorem YxT{a b q r:Nat}(h:a/2^0=q/2^0*b+r)(hr:r<b):q=a/b/\r=a%b:=by
 simp only[YHA,Nat.div_one]at h
 have hb:0<b:=by omega
 subst h
 rw[YGj,Nat.mul_add_div hb,Nat.mul_add_mod,YHo hr,YG3 hr]
 exact⟨by omega,rfl⟩
def fg(n:Int)(d:Nat):Nat:=YHa n.natAbs d
def rnum(n:Int)(d:Nat):Nat:=n.natAbs/fg n d
def rden(n:Int)(d:Nat):Nat:=d/fg n d
def nsg(neg:Bool)(a:Nat):Int:=if neg then -(a:Int)else a
theorem YfQ{n:Int}{d:Nat}(hd:0<d):0<fg n d:=Nat.gcd_pos_of_pos_right _ hd
theorem Yjy(n:Int)(d:Nat):rnum n d*fg n d=n.natAbs:=Nat.div_mul_cancel (Nat.gcd_dvd_left _ _)
theorem Yfc(n:Int)(d:Nat):rden n d*fg n d=d:=Nat.div_mul_cancel (Nat.gcd_dvd_right _ _)
theorem YaY{n:Int}{d:Nat}(hd:0<d):0<rden n d:=by
 have:=Yfc n d
 rcases YGI (rden n d)with h|h
 ·rw[h]at this;omega
 ·exact h
theorem YzN(n:Int)(d:Nat):rnum n d<=n.natAbs:=YHm _ _
theorem YzG(n:Int)(d:Nat):rden n d<=d:=YHm _ _
theorem Ysk{n:Int}{d:Nat}(hd:0<d):YHa (rnum n d) (rden n d)=1:=by
 unfold rnum rden
 exact Nat.gcd_div_gcd_div_gcd_of_pos_right hd
theorem Yih{n:Int}{d:Nat}(hd:0<d):rnum n d=0↔n=0:=by
 have:=Yjy n d
 constructor
 ·intro h;rw[h]at this;omega
 ·rintro rfl;simp [rnum]
theorem YEo{d:Nat}(hd:0<d):rden 0 d=1:=by simp [rden,fg,Nat.div_self hd]
theorem n_eq(n:Int)(d:Nat):n=nsg (decide (n<0)) (rnum n d)*(fg n d:Int):=by
 have h:=Yjy n d
 unfold nsg
 have h2:((rnum n d:Nat):Int)*(fg n d:Int)=(n.natAbs:Int):=by exact_mod_cast h
 by_cases hn:n<0
 ·simp only[hn,decide_true,if_true]
  rw[Int.neg_mul,h2];omega
 ·simp only[hn,decide_false,YGC,if_false]
  rw[h2];omega
theorem d_eq(n:Int)(d:Nat):(d:Int)=(rden n d:Int)*(fg n d:Int):=by exact_mod_cast (Yfc n d).symm
theorem Ysp{n:Int}{d k:Nat}(hk:0<k):rnum (n*k) (d*k)=rnum n d/\rden (n*k) (d*k)=rden n d/\(decide (n*(k:Int)<0))=decide (n<0):=by
 have e:(n*(k:Int)).natAbs=n.natAbs*k:=by rw[Int.natAbs_mul];simp
 have g:fg (n*k) (d*k)=fg n d*k:=by unfold fg;rw[e,Nat.gcd_mul_right]
 refine⟨?_,?_,?_⟩
 ·unfold rnum;rw[e,g,Nat.mul_div_mul_right _ _ hk]
 ·unfold rden;rw[g,Nat.mul_div_mul_right _ _ hk]
 ·congr 1
  apply propext
  constructor
  ·intro h
   rcases Int.lt_or_le n 0 with h'|h'
   ·exact h'
   ·have:=YHv h' (Int.natCast_nonneg k);omega
  ·intro h
   exact Int.mul_neg_of_neg_of_pos h (by omega)
theorem Yg6(neg:Bool)(a:Nat):(nsg neg a).natAbs=a:=by
 unfold nsg;split <;> omega
theorem Yy0(neg:Bool)(a:Nat):decide (nsg neg a<0)=(neg&&decide (0<a)):=by
 unfold nsg
 cases neg <;> simp <;> omega
theorem q_mul{n1 n2:Int}{d1 d2:Nat}(h1:0<d1)(h2:0<d2){m:Int}(hm:m=nsg (!(decide (n1<0)==decide (n2<0))) (rnum n1 d1*rnum n2 d2)):
 rnum m (rden n1 d1*rden n2 d2)=rnum (n1*n2) (d1*d2)/\rden m (rden n1 d1*rden n2 d2)=rden (n1*n2) (d1*d2)/\decide (m<0)=decide (n1*n2<0):=by
 have hk:0<fg n1 d1*fg n2 d2:=YHd (YfQ h1) (YfQ h2)
 have en:n1*n2=m*((fg n1 d1*fg n2 d2:Nat):Int):=by
  have a1:=n_eq n1 d1
  have a2:=n_eq n2 d2
  rw[hm]
  conv=>lhs;rw[a1,a2]
  generalize rnum n1 d1=x
  generalize rnum n2 d2=y
  generalize fg n1 d1=g
  generalize fg n2 d2=h
  unfold nsg
  cases decide (n1<0) <;> cases decide (n2<0) <;> simp <;> grind
 have ed:d1*d2=rden n1 d1*rden n2 d2*(fg n1 d1*fg n2 d2):=by
  have a1:=Yfc n1 d1
  have a2:=Yfc n2 d2
  conv=>lhs;rw[<-a1,<-a2]
  grind
 have:= @Ysp m (rden n1 d1*rden n2 d2) _ hk
 rw[<-en,<-ed]at this
 exact⟨this.1.symm,this.2.1.symm,this.2.2.symm⟩
theorem q_div{n1 n2:Int}{d1 d2:Nat}(h1:0<d1)(h2:0<d2)(hn:n2≠0){m:Int}(hm:m=nsg (!(decide (n1<0)==decide (n2<0))) (rnum n1 d1*rden n2 d2)):
 rnum m (rden n1 d1*rnum n2 d2)=rnum (nsg (decide (n2<0)) 1*n1*d2) (d1*n2.natAbs)/\rden m (rden n1 d1*rnum n2 d2)=rden (nsg (decide (n2<0)) 1*n1*d2) (d1*n2.natAbs)/\decide (m<0)=decide (nsg (decide (n2<0)) 1*n1*d2<0):=by
 have hk:0<fg n1 d1*fg n2 d2:=YHd (YfQ h1) (YfQ h2)
 have en:nsg (decide (n2<0)) 1*n1*d2=m*((fg n1 d1*fg n2 d2:Nat):Int):=by
  have a1:=n_eq n1 d1
  have a2:=d_eq n2 d2
  rw[hm,a2]
  conv=>lhs;rw[a1]
  generalize rnum n1 d1=x
  generalize rden n2 d2=y
  generalize fg n1 d1=g
  generalize fg n2 d2=h
  unfold nsg
  cases decide (n1<0) <;> cases decide (n2<0) <;> simp <;> grind
 have ed:d1*n2.natAbs=rden n1 d1*rnum n2 d2*(fg n1 d1*fg n2 d2):=by
  have a1:=Yfc n1 d1
  have a2:=Yjy n2 d2
  rw[<-a2]
  conv=>lhs;rw[<-a1]
  grind
 have:= @Ysp m (rden n1 d1*rnum n2 d2) _ hk
 rw[<-en,<-ed]at this
 exact⟨this.1.symm,this.2.1.symm,this.2.2.symm⟩
def cmpI(x y:Int):Int:=if x<y then -1 else if y<x then 1 else 0
def cmpQ(n1:Int)(d1:Nat)(n2:Int)(d2:Nat):Int:=cmpI (n1*d2) (n2*d1)
theorem YfA{x y:Int}{k:Nat}(hk:0<k):x*(k:Int)<y*(k:Int)↔x<y:=by
 constructor
 ·intro h
  rcases Int.lt_or_le x y with h'|h'
  ·exact h'
  ·have:=YGE h' (Int.natCast_nonneg k);omega
 ·intro h;exact Int.mul_lt_mul_of_pos_right h (by omega)
theorem q_cmp{n1 n2:Int}{d1 d2:Nat}(h1:0<d1)(h2:0<d2):cmpQ n1 d1 n2 d2=if n1<0/\n2<0 then -(ordN (rnum n1 d1*rden n2 d2) (rnum n2 d2*rden n1 d1))else if n1<0 then -1 else if n2<0 then 1 else ordN (rnum n1 d1*rden n2 d2) (rnum n2 d2*rden n1 d1):=by
 have hk:0<fg n1 d1*fg n2 d2:=YHd (YfQ h1) (YfQ h2)
 have e1:n1*d2=nsg (decide (n1<0)) (rnum n1 d1*rden n2 d2)*((fg n1 d1*fg n2 d2:Nat):Int):=by
  have a1:=n_eq n1 d1
  have a4:=d_eq n2 d2
  rw[a4]
  conv=>lhs;rw[a1]
  unfold nsg
  cases decide (n1<0) <;> simp <;> grind
 have e2:n2*d1=nsg (decide (n2<0)) (rnum n2 d2*rden n1 d1)*((fg n1 d1*fg n2 d2:Nat):Int):=by
  have a1:=n_eq n2 d2
  have a4:=d_eq n1 d1
  rw[a4]
  conv=>lhs;rw[a1]
  unfold nsg
  cases decide (n2<0) <;> simp <;> grind
 have p1:n1<0->0<rnum n1 d1*rden n2 d2:=fun h=>YHd (Nat.pos_of_ne_zero fun h0=>by have:=(Yih h1).1 h0;omega) (YaY h2)
 have p2:n2<0->0<rnum n2 d2*rden n1 d1:=fun h=>YHd (Nat.pos_of_ne_zero fun h0=>by have:=(Yih h2).1 h0;omega) (YaY h1)
 unfold cmpQ cmpI
 rw[e1,e2]
 simp only[YfA hk]
 generalize rnum n1 d1*rden n2 d2=x at*
 generalize rnum n2 d2*rden n1 d1=y at*
 unfold nsg ordN
 by_cases g1:n1<0 <;> by_cases g2:n2<0 <;> simp only[g1,g2,decide_true,decide_false,if_true,if_false,and_self,and_true,and_false,YGC]
 ·have:=p1 g1;have:=p2 g2
  repeat' split
  all_goals omega
 ·have:=p1 g1
  repeat' split
  all_goals omega
 ·have:=p2 g2
  repeat' split
  all_goals omega
 ·repeat' split
  all_goals omega
def Ynn(neg:Bool)(a b:Nat):Nat:=if neg&&decide (a%b≠0)then a/b+1 else a/b
theorem Yzg{n:Int}{d:Nat}(hd:0<d):n/(d:Int)=nsg (decide (n<0)) (Ynn (decide (n<0)) (rnum n d) (rden n d)):=by
 have hg:0<fg n d:=YfQ hd
 have e:n/(d:Int)=nsg (decide (n<0)) (rnum n d)/(rden n d:Int):=by
  have a1:=n_eq n d
  have a2:=d_eq n d
  suffices key:∀N D:Int,N=nsg (decide (n<0)) (rnum n d)*(fg n d:Int)->D=(rden n d:Int)*(fg n d:Int)->N/D=nsg (decide (n<0)) (rnum n d)/(rden n d:Int)from key _ _ a1 a2
  rintro _ _ rfl rfl
  exact Int.mul_ediv_mul_of_pos_left _ _ (show(0:Int)<(fg n d:Int)by omega)
 rw[e]
 have hp:=YaY (n:=n) hd
 generalize rnum n d=a
 generalize rden n d=b at*
 have h1:=YGP a b
 have h2:=YGJ a hp
 unfold nsg Ynn
 by_cases hn:n<0
 ·simp only[hn,decide_true,if_true,YHq,decide_eq_true_eq]
  by_cases h0:a%b=0
  ·rw[if_neg (by omega)]
   have:(a:Int)=(a/b:Nat)*(b:Int):=by
    have:a=a/b*b:=by rw[YGj];omega
    exact_mod_cast this
   conv=>lhs;rw[this,<-Int.neg_mul]
   rw[Int.mul_ediv_cancel _ (by omega)]
  ·rw[if_pos (by omega)]
   apply Int.le_antisymm
   ·apply Int.le_of_lt_add_one
    rw[Int.ediv_lt_iff_lt_mul (by omega)]
    have:(a:Int)=(b:Int)*(a/b:Nat)+(a%b:Nat):=by exact_mod_cast h1.symm
    rw[this]
    have hm:((a%b:Nat):Int)>0:=by omega
    generalize(a%b)=m at*
    generalize(a/b)=q at*
    push_cast
    grind
   ·rw[Int.le_ediv_iff_mul_le (by omega)]
    have:(a:Int)=(b:Int)*(a/b:Nat)+(a%b:Nat):=by exact_mod_cast h1.symm
    rw[this]
    have hm:((a%b:Nat):Int)<b:=by omega
    generalize(a%b)=m at*
    generalize(a/b)=q at*
    push_cast
    grind
 ·simp only[hn,decide_false,YHp,YGC,if_false]
  exact_mod_cast rfl
theorem Ycq{x:Nat}(h:x<18446744073709551616):(BitVec.ofInt 64 (x:Int)).toNat=x:=by
 simp [BitVec.toNat_ofInt];omega
theorem Yt7{x:Nat}(h:x<18446744073709551616):IntKind.u64.wrap ((BitVec.ofInt 64 (x:Int)&&&BitVec.ofInt 64 4294967295).toNat:Int)=((x%4294967296:Nat):Int):=by
 have h2:(BitVec.ofInt 64 4294967295).toNat=2^32-1:=by decide
 rw[BitVec.toNat_and,Ycq h,h2,Nat.and_two_pow_sub_one_eq_mod]
 exact Ya7 (by omega)
theorem Yr0{x y:Nat}(hx:x<18446744073709551616)(hy:y<18446744073709551616):IntKind.u64.wrap ((BitVec.ofInt 64 (x:Int) ||| BitVec.ofInt 64 (y:Int)).toNat:Int)=((x||| y:Nat):Int):=by
 rw[BitVec.toNat_or,Ycq hx,Ycq hy]
 exact Ya7 (Nat.or_lt_two_pow (n:=64) hx hy)
theorem YbL{x s:Nat}(hs:s<=64):(x:Int).fdiv (2^min s 64)=((x/2^s:Nat):Int):=by
 rw[Nat.min_eq_left hs,Int.fdiv_eq_ediv_of_nonneg _ (Int.le_of_lt (Int.pow_pos (by decide)))]
 simp
theorem YfH{x s:Nat}(hs:s<=64)(h:x*2^s<18446744073709551616):IntKind.u64.wrap ((x:Int)*2^min s 64)=((x*2^s:Nat):Int):=by
 rw[Nat.min_eq_left hs]
 have:(x:Int)*2^s=((x*2^s:Nat):Int):=by simp
 rw[this];exact Ya7 h
theorem Ymi(x:Int):IntKind.u64.wrap x=x%18446744073709551616:=by
 rw[IntKind.wrap_u64]
theorem YEJ(x:Nat):IntKind.u64.wrap (x:Int)=((x%18446744073709551616:Nat):Int):=by
 rw[Ymi];simp
theorem YDh{x y:Nat}(hx:x<18446744073709551616)(hy:y<18446744073709551616):
 let x0:=x%4294967296;let x1:=x/4294967296;let y0:=y%4294967296;let y1:=y/4294967296
 let t:=x1*y0+x0*y0/4294967296
 let w1:=t%4294967296+x0*y1
 x1*y1+t/4294967296+w1/4294967296=x*y/18446744073709551616/\x0*y0<18446744073709551616/\x1*y0<18446744073709551616/\t<18446744073709551616/\x0*y1<18446744073709551616/\w1<18446744073709551616/\x1*y1<18446744073709551616/\x1*y1+t/4294967296<18446744073709551616/\x1*y1+t/4294967296+w1/4294967296<18446744073709551616:=by
 intro x0 x1 y0 y1 t w1
 have e1:x=4294967296*x1+x0:=(YGP x _).symm
 have e2:y=4294967296*y1+y0:=(YGP y _).symm
 have h0:x0<4294967296:=YGJ _ (by decide)
 have h1:y0<4294967296:=YGJ _ (by decide)
 have h2:x1<4294967296:=by omega
 have h3:y1<4294967296:=by omega
 have m:∀{a b:Nat},a<4294967296->b<4294967296->a*b<=4294967295*4294967295:=fun ha hb=>YGB (by omega) (by omega)
 have p1:=m h0 h1
 have p2:=m h2 h1
 have p3:=m h0 h3
 have p4:=m h2 h3
 have e:x*y=18446744073709551616*(x1*y1)+4294967296*(x1*y0+x0*y1)+x0*y0:=by
  rw[e1,e2];grind
 have ht:t=x1*y0+x0*y0/4294967296:=rfl
 have hw:w1=t%4294967296+x0*y1:=rfl
 rw[e]
 generalize x0*y0=A at*
 generalize x1*y0=B at*
 generalize x0*y1=C at*
 generalize x1*y1=D at*
 omega
structure YfK (y1 y0 a u q r:Nat):Prop where
 eq:q*y1+r=a
 ge:(a*4294967296+u)/(y1*4294967296+y0)<=q
 le:q<=4294967297
theorem YqA{y1 y0 a u q r:Nat}(hy:0<y1)(h:q*y1+r=a):q*(y1*4294967296+y0)<=a*4294967296+u↔q*y0<=4294967296*r+u:=by
 have e:q*(y1*4294967296+y0)=q*y1*4294967296+q*y0:=by grind
 rw[e,<-h]
 generalize q*y1=A
 generalize q*y0=B
 omega
theorem YqB{y1 y0 a u:Nat}(h1:2147483648<=y1)(h0:y0<4294967296)(ha:a<y1*4294967296+y0)(hu:u<4294967296):YfK y1 y0 a u (a/y1) (a-a/y1*y1)/\a-a/y1*y1<4294967296\/4294967296<=y1:=by
 rcases YGz y1 4294967296 with hy|hy
 ·left
  have hp:0<y1:=by omega
  have e:=YGP a y1
  have hm:=YGJ a hp
  rw[YGj]at e
  refine⟨⟨by omega,?_,?_⟩,by omega⟩
  ·rw[<-Nat.lt_add_one_iff,YGL (by omega)]
   have:(a/y1+1)*(y1*4294967296+y0)=(a/y1*y1+y1)*4294967296+(a/y1+1)*y0:=by grind
   rw[this]
   have:(0:Nat)<=(a/y1+1)*y0:=YHk _
   omega
  ·rw[<-Nat.lt_add_one_iff,YGL hp]
   omega
 ·exact .inr hy
theorem YiO{y1 y0 a u q r:Nat}(h:YfK y1 y0 a u q r)(hy:0<y1)(hle:q*y0<=4294967296*r+u):q=(a*4294967296+u)/(y1*4294967296+y0):=by
 have h1:=(YqA (u:=u) (y0:=y0) hy h.eq).2 hle
 have h2:=(YG9 (by omega)).2 h1
 have:=h.ge
 omega
theorem YiP{y1 y0 a u q r:Nat}(h:YfK y1 y0 a u q r)(hy:0<y1)(ha:a<y1*4294967296+y0)(hu:u<4294967296)(hc:4294967296<=q\/4294967296*r+u<q*y0):0<q/\YfK y1 y0 a u (q-1) (r+y1):=by
 have hlt:(a*4294967296+u)/(y1*4294967296+y0)<q:=by
  rcases hc with hc|hc
  ·have:(a*4294967296+u)/(y1*4294967296+y0)<4294967296:=by
    rw[YGL (by omega)];omega
   exact YGV this hc
  ·rw[YGL (by omega)]
   refine Nat.lt_of_not_le fun hh=>?_
   have:=(YqA (u:=u) (y0:=y0) hy h.eq).1 hh
   omega
 have h1:=h.eq
 have h2:=h.le
 have hq:0<q:=YGN (YHk _) hlt
 refine⟨hq,⟨?_,by omega,by omega⟩⟩
 obtain⟨m,rfl⟩:∃m,q=m+1:=⟨q-1,by omega⟩
 rw[Nat.add_sub_cancel]
 rw[YHD]at h1
 omega
theorem YgK{y1 y0 a u q r:Nat}(h:YfK y1 y0 a u q r)(hy:0<y1)(h0:y0<4294967296)(hq:q<=4294967296)(hr:4294967296<=r):q=(a*4294967296+u)/(y1*4294967296+y0):=by
 refine YiO h hy ?_
 have:q*y0<=4294967296*4294967295:=YGB hq (by omega)
 omega
theorem Ymh{M y a u1 u0 q1 r1 q0 r0:Nat}(hy:0<y)(hq1:q1=(a*M+u1)/y)(hr1:r1=(a*M+u1)%y)(hq0:q0=(r1*M+u0)/y)(hr0:r0=(r1*M+u0)%y):
 q1*M+q0=(a*(M*M)+(u1*M+u0))/y/\r0=(a*(M*M)+(u1*M+u0))%y:=by
 have e1:=YGP (a*M+u1) y
 have e2:=YGP (r1*M+u0) y
 have hm:=YGJ (r1*M+u0) hy
 rw[<-hq1,<-hr1]at e1
 rw[<-hq0,<-hr0]at e2
 rw[<-hr0]at hm
 have e3:a*(M*M)+(u1*M+u0)=y*(q1*M+q0)+r0:=by
  have:a*(M*M)+(u1*M+u0)=(a*M+u1)*M+u0:=by grind
  rw[this,<-e1]
  have:(y*q1+r1)*M+u0=y*q1*M+(r1*M+u0):=by grind
  rw[this,<-e2]
  grind
 rw[e3,Nat.mul_add_div hy,YHo hm,Nat.mul_add_mod,YG3 hm]
 exact⟨rfl,rfl⟩
theorem Yd2{y a u1 u0 q1 q0 r1:Nat}(hy:0<y)(hq1:q1=(a*4294967296+u1)/y)(hr1:r1=(a*4294967296+u1)%y)(hq0:q0=(r1*4294967296+u0)/y):
 q1*4294967296+q0=(a*18446744073709551616+(u1*4294967296+u0))/y/\(r1*4294967296+u0)%y=(a*18446744073709551616+(u1*4294967296+u0))%y:=
 Ymh (M:=4294967296) hy hq1 hr1 hq0 rfl
theorem YoC{y:Nat}(hy:y<18446744073709551616)(h0:0<y):Yo y<=64/\9223372036854775808<=y*2^(64-Yo y)/\y*2^(64-Yo y)<18446744073709551616:=by
 have hb:Yo y<=64:=bitsN_le.2 hy
 have hpos:0<Yo y:=Nat.pos_of_ne_zero fun h=>by have:=bitsN_eq0.1 h;omega
 have h1:=YcE y
 have h2:2^(Yo y-1)<=y:=by
  rcases YGz y (2^(Yo y-1))with h|h
  ·have:=bitsN_le.2 h;omega
  ·exact h
 refine⟨hb,?_,?_⟩
 ·have:2^(Yo y-1)*2^(64-Yo y)<=y*2^(64-Yo y):=YGf _ h2
  rw[<-YGo,show Yo y-1+(64-Yo y)=63 by omega]at this
  exact this
 ·have:y*2^(64-Yo y)<2^Yo y*2^(64-Yo y):=Nat.mul_lt_mul_of_pos_right h1 (YH _)
  rw[<-YGo,show Yo y+(64-Yo y)=64 by omega]at this
  exact this
theorem YuA{h x s:Nat}(hs:s<=64)(hx:x<18446744073709551616):(h*2^s||| x/2^(64-s))=h*2^s+x/2^(64-s)/\x/2^(64-s)<2^s/\(h*2^s+x/2^(64-s))*18446744073709551616+x*2^s%18446744073709551616=(h*18446744073709551616+x)*2^s:=by
 have e:(18446744073709551616:Nat)=2^(64-s)*2^s:=by rw[<-YGo,show 64-s+s=64 by omega]
 have hl:x/2^(64-s)<2^s:=by
  rw[YGL (YH _),YGj,<-e];exact hx
 refine⟨?_,hl,?_⟩
 ·rw[YGj h];exact(Nat.two_pow_add_eq_or_of_lt hl h).symm
 ·have h1:=YGP x (2^(64-s))
  have e2:x*2^s%18446744073709551616=x%2^(64-s)*2^s:=by
   rw[e];exact Nat.mul_mod_mul_right _ _ _
  rw[e2,e]
  generalize 2^(64-s)=P at*
  generalize 2^s=R at*
  generalize x/P=a at*
  generalize x%P=b at*
  subst h1
  grind
def v167:VF:=⟨21,[.tmp 2],(ZR [u1 2 .mov [.cn .nil]] (.seq (.block 0 (.loop (.seq (ZR [Zm 3 0,Zl 4 3,Zq 5 .gtr 4 0,Zm 6 5,Zg 7 6 true 0,Zg 8 6 true 0,u2 9 6 true .len [.tm 8],u2 10 6 true (.ari .sub) [.tm 9,.cn (.int .i64 1)],u2 11 6 true (.idxAddr 1) [.tm 7,.tm 10],Zh 12 6 true 1 11,u2 13 6 true (.cmp .eql) [.tm 12,.cn (.int .u32 0)],u1 14 .and [.tm 6,.tm 13]] (ZC 14 .skip (.exit 0))) (.block 1 (.region [Zm 15 0,Zm 16 0,Zl 17 16,u1 18 (.ari .sub) [.tm 17,.cn (.int .i64 1)],u1 19 (.slice 1 false true) [.tm 15,.tm 18],Zm 0 19]))))) (ZR [Zm 20 0,Zm 2 20] .ret)))⟩
theorem YsY:Yg YGc Tryz.f167=some v167:=by kernel_rfl
def v159:VF:=⟨10,[.tmp 2],(ZR [u1 2 .mov [.cn .nil]] (ZR [Zm 3 0,u1 4 (.conv .u32) [.tm 3],Zm 5 0,u1 6 .shr [.tm 5,.cn (.int .u64 32)],u1 7 (.conv .u32) [.tm 6],u1 8 (.buildSlice 1 2 [(.int .u32 0)] [(0,1),(1,1)]) [.tm 4,.tm 7],Zc 9 167 8,Zm 2 9] .ret))⟩
theorem YA5:Yg YGc Tryz.f159=some v159:=by kernel_rfl
def v151:VF:=⟨5,[.tmp 2],(ZR [u1 2 .mov [.cn .nil]] (ZR [Zm 3 0,Zc 4 159 3,Zm 2 4] .ret))⟩
theorem YAX:Yg YGc Tryz.f151=some v151:=by kernel_rfl
def v153:VF:=⟨43,[.tmp 4],(ZR [Zi 4 0] (.seq (.block 0 (ZR [Zm 7 0,Zl 8 7,Zm 9 1,Zl 10 9,Zr 11 .lss 8 10,Zm 6 11] (ZC 6 (ZR [Zi 4 (-1)] .ret) (ZR [Zm 13 0,Zl 14 13,Zm 15 1,Zl 16 15,Zr 17 .gtr 14 16,Zm 12 17] (ZC 12 (ZR [Zi 4 1] .ret) .skip))))) (.seq (ZR [Zm 18 0,Zl 19 18,u1 20 (.ari .sub) [.tm 19,.cn (.int .i64 1)],Zm 5 20] (.block 1 (.loop (.seq (ZR [Zm 21 5,Zq 22 .geq 21 0] (ZC 22 .skip (.exit 1))) (.seq (.block 2 (.seq (.draw [] [Zu 25 0,Zu 26 5,ZX 27 1 25 26,Zv 28 1 27,Zu 29 1,Zu 30 5,ZX 31 1 29 30,Zv 32 1 31,w1 33 (.cmp .neq) [.tm 28,.tm 32]]) (ZC 33 (.seq (.seq (.draw [] [Zu 34 0,Zu 35 5,ZX 36 1 34 35,Zv 37 1 36,Zu 38 1,Zu 39 5,ZX 40 1 38 39,Zv 41 1 40,w1 42 (.cmp .lss) [.tm 37,.tm 41]]) (ZC 42 (ZR [Zi 4 (-1)] .ret) .skip)) (ZR [Zi 4 1] .ret)) .skip))) (.region [Zm 23 5,u1 24 (.ari .sub) [.tm 23,.cn (.int .i64 1)],Zm 5 24])))))) (ZR [Zi 4 0] .ret))))⟩
theorem YAZ:Yg YGc Tryz.f153=some v153:=by kernel_rfl
def v156:VF:=⟨59,[.tmp 4],(ZR [u1 4 .mov [.cn .nil]] (.seq (ZR [Zm 9 0,Zl 10 9,Zm 11 1,Zl 12 11,Zr 13 .lss 10 12] (ZC 13 (.region [Zm 14 1,Zm 15 0,Zm 0 14,Zm 1 15]) .skip)) (ZR [Zm 16 0,Zl 17 16,Zp 18 17 1,u1 19 (.make 1 4 [(.int .u32 0)]) [.tm 18,.tm 18],Zm 5 19] (ZR [u1 6 .mov [.cn (.int .u64 0)]] (.seq (ZR [Zm 20 0,Zl 21 20,Zi 22 0] (.block 0 (.loop (ZR [Zr 23 .lss 22 21] (.seq (ZC 23 .skip (.exit 0)) (.seq (.block 1 (ZR [Zm 24 22,Zm 7 24] (ZR [Zm 25 0,Zm 26 7,Zx 27 1 25 26,Zf 28 1 27,u1 29 (.conv .u64) [.tm 28],Zm 30 6,Zo 31 .add 29 30,Zm 8 31] (.seq (ZR [Zm 32 7,Zm 33 1,Zl 34 33,Zr 35 .lss 32 34] (ZC 35 (.region [Zm 36 8,Zm 37 1,Zm 38 7,Zx 39 1 37 38,Zf 40 1 39,u1 41 (.conv .u64) [.tm 40],Zo 42 .add 36 41,Zm 8 42]) .skip)) (.region [Zm 43 5,Zm 44 7,Zm 45 8,u1 46 (.conv .u32) [.tm 45],Zm 47 8,u1 48 .shr [.tm 47,.cn (.int .u64 32)],Zx 49 1 43 44,Zs 1 49 46,Zm 6 48]))))) (.region [Zp 50 22 1,Zm 22 50]))))))) (ZR [Zm 51 5,Zm 52 0,Zl 53 52,Zm 54 6,u1 55 (.conv .u32) [.tm 54],Zx 56 1 51 53,Zs 1 56 55] (ZR [Zm 57 5,Zc 58 167 57,Zm 4 58] .ret)))))))⟩
theorem YA2:Yg YGc Tryz.f156=some v156:=by kernel_rfl
def WD0:Env:={ ct:=fun _=>none,fn:=fun n=>match n with|167=>some v167|_=>none,meth:=fun _ _=>none}
theorem YpH:WD0.ct 167=none:=rfl
theorem YpI:WD0.fn 167=some v167:=rfl
theorem YBY:Yq YGc WD0:=by
 refine⟨fun f c h=>?_,fun f vf h=>?_,(fun _ _ _ h=>by cases h),by kernel_rfl,(fun _ h=>by cases h)⟩
 ·cases h
 ·simp only[WD0]at h
  split at h
  ·cases h;exact⟨Tryz.f167,Tryz.func167,YsY,Tryz.f167,Tryz.func167,by kernel_rfl,by kernel_rfl⟩
  ·cases h
theorem sh32(z:Nat):(z:Int).fdiv (2^min (YHE 32) 64)=((z/4294967296:Nat):Int):=YbL (s:=32) (by decide)
theorem Yhr(z:Nat):IntKind.u32.wrap (z:Int)=((z%4294967296:Nat):Int):=by rw[IntKind.wrap_u32];omega
theorem YF5:ofC.ok YGc 159:=by
 refine Yb Tryz.func159 YA5 YBY 200 ofC fun args k h=>?_
 simp only[ofC]at h
 split at h
 ·rename_i n
  obtain⟨⟨h0,h1⟩,h⟩:=h
  obtain⟨X,rfl⟩:=YGM h0
  obtain⟨N,hN⟩:∃N,N=2:=⟨_,rfl⟩
  have hXN:X<4294967296^N:=by rw[hN];omega
  refine⟨[.int .u64 X],by simp [leL,le],?_⟩
  dsimp only[v159,YpH,YpI,v167,go_sem,reduceIte]
  simp only[Yc,YGa,YF9,reduceCtorEq,YF8]
  refine⟨by decide,by decide,?_⟩
  refine Loop.keep [0] Nat (fun j=>[(0,.own 0 0 j 1)]) (fun _=>[(0,.own false 1 N (fun k=>[.int .u32 (dig X k)]))]) [] (fun j=>j<=N/\X<4294967296^j) (fun j=>j) ?_ ?_
  ·refine⟨N,⟨YGr _,hXN⟩,?_⟩
   dsimp only[go_sem,reduceIte]
   simp only[Ya]
   refine⟨⟨hN.symm,by decide⟩,by decide,hN.symm,fun k hk=>?_⟩
   rw[show(2:Int)^min (YHE 32) 64=4294967296 by decide,Int.fdiv_eq_ediv_of_nonneg _ (by decide)]
   have e0:dig X 0=X%4294967296:=YlI X
   have e1:dig X 1=X/4294967296:=by rw[Ygi,YlI];omega
   match k,hk with
   |0,_=>rw[e0];exact⟨⟨rfl,by rw[IntKind.wrap_u32];omega⟩,trivial⟩
   |1,_=>rw[e1];exact⟨⟨rfl,by rw[IntKind.wrap_u32];omega⟩,trivial⟩
  ·rintro j ⟨hj,haj⟩
   dsimp only[YGb,go_sem,reduceIte]
   simp only[Yc,YGa,YF9,reduceCtorEq,YF8]
   refine⟨fun hlt=>?_,fun hlt=>?_,fun hb=>?_,fun hb=>?_⟩
   ·rw[Yn (by omega) (by omega)];omega
   ·rw[Yn (by omega) (by omega)];omega
   ·rw[YGi,decide_eq_true_eq,decide_eq_true_eq]at hb
    obtain⟨h1,h2⟩:=hb
    rw[Yn (by omega) (by omega),YGb]at h2
    refine⟨by rw[Yn (by omega) (by omega)];omega,j-1,⟨by omega,?_⟩,by omega,?_⟩
    ·obtain⟨m,rfl⟩:∃m,j=m+1:=⟨j-1,by omega⟩
     exact Ybe haj (by simp at h2;exact_mod_cast h2)
    ·rw[Yn (by omega) (by omega)]
     simp only[Ya] <;> simp [leL,le]
   ·have e:nl X=j:=by
     refine YaG haj ?_
     rw[YGZ,decide_eq_false_iff_not,decide_eq_false_iff_not]at hb
     rcases YGI j with h0|h0
     ·exact .inl h0
     ·refine .inr fun hh=>hb.elim (fun h=>h (by omega)) fun h=>h ?_
      rw[Yn h0 (by omega),YGb,hh];rfl
    subst e
    exact YaP h rfl rfl rfl fun j hj=>rfl
 ·exact h.1.elim
def WD1:Env:={ ct:=fun n=>match n with|159=>some ofC|_=>none,fn:=fun n=>match n with|167=>some v167|_=>none,meth:=fun _ _=>none}
theorem YpJ:WD1.ct 159=some ofC:=rfl
theorem YaZ:WD1.ct 167=none:=rfl
theorem Ya0:WD1.fn 167=some v167:=rfl
theorem YhH:Yq YGc WD1:=by
 refine⟨fun f c h=>?_,fun f vf h=>?_,(fun _ _ _ h=>by cases h),by kernel_rfl,(fun _ h=>by cases h)⟩
 ·simp only[WD1]at h
  split at h
  ·cases h;exact⟨YF5,Tryz.f159,Tryz.func159,by kernel_rfl,by kernel_rfl⟩
  ·cases h
 ·simp only[WD1]at h
  split at h
  ·cases h;exact⟨Tryz.f167,Tryz.func167,YsY,Tryz.f167,Tryz.func167,by kernel_rfl,by kernel_rfl⟩
  ·cases h
theorem YF3:ofC.ok YGc 151:=by
 refine Yb Tryz.func151 YAX YhH 200 ofC fun args k h=>?_
 simp only[ofC]at h
 split at h
 ·rename_i n
  obtain⟨⟨h0,h1⟩,h⟩:=h
  refine⟨[.int .u64 n],by simp [leL,le],?_⟩
  dsimp only[v151,YpJ,ofC,natS,go_sem,reduceIte]
  simp only[Yc,YGa,YF9,reduceCtorEq,YF8]
  exact⟨⟨h0,h1⟩,Yaj (t:=true) h⟩
 ·exact h.1.elim
def wcmpC:Ctr:={ alias:=false,of:=fun l=>match l with
 | [.vs _ _ n sz get,.vs _ _ m sz' get']=> .ex Nat fun a=> .ex Nat fun b=> .pre (padP a n sz get/\padP b m sz' get'/\n=nl a/\m=nl b) (.fin (.int .i64 (ordN a b)) [])
 |_=>noC}
theorem Yy5{a b:Nat}(h:nl a<nl b):ordN a b= -1:=by
 have:a<b:=Nat.lt_of_not_le fun hh=>by have:=YbF hh;omega
 rw[ordN,if_pos this]
theorem Yy4{a b:Nat}(h:nl b<nl a):ordN a b=1:=by
 have:b<a:=Nat.lt_of_not_le fun hh=>by have:=YbF hh;omega
 rw[ordN,if_neg (by omega),if_pos this]
theorem YBl:wcmpC.ok YGc 153:=by
 refine Yb Tryz.func153 YAZ YhH 200 wcmpC fun args k h=>?_
 simp only[wcmpC]at h
 split at h
 ·rename_i t1 z1 n sz get t2 z2 m sz' get'
  obtain⟨a,b,⟨⟨rfl,hn,ha,hg⟩,⟨rfl,hm,hb,hg'⟩,hna,hmb⟩,h⟩:=h
  refine⟨[.vs t1 z1 n 1 (fun k=>[.int .u32 (dig a k)]),.vs t2 z2 m 1 (fun k=>[.int .u32 (dig b k)])],⟨by simpa [le]using hg,by simpa [le]using hg',trivial⟩,?_⟩
  dsimp only[v153,go_sem,reduceIte]
  simp only[Yc,YGa,YF9,reduceCtorEq,YF8]
  refine⟨fun c1=>Yf ?_,fun c1=>⟨fun c2=>Yf ?_,fun c2=>?_⟩⟩
  ·rw[Yy5 (by omega)]at h;exact h
  ·rw[Yy4 (by omega)]at h;exact h
  refine Loop.keep [0,0,3] Nat (fun j=>[(5,.int .i64 ((j:Int)-1))]) (fun _=>[]) [] (fun j=>j<=n/\∀i,j<=i->dig a i=dig b i) (fun j=>j) ?_ ?_
  ·refine⟨n,⟨YGr _,fun i hi=>by rw[Y3 ha (by omega),Y3 hb (by omega)]⟩,?_⟩
   dsimp only[go_sem,reduceIte]
   simp only[Ya]
   rw[YGd _ (by omega)]
   try simp
  ·rintro j ⟨hj,haj⟩
   dsimp only[YGb,go_sem,reduceIte]
   simp only[Yc,YGa,YF9,reduceCtorEq,YF8]
   refine⟨fun hlt=>?_,fun hge=>?_⟩
   ·obtain⟨i,rfl⟩:∃i,j=i+1:=⟨j-1,by omega⟩
    have e:((i+1:Nat):Int)-1=i:=by omega
    have gt:∀t,i<t->dig a t=dig b t:=fun t ht=>haj t (by omega)
    rw[e]
    simp only[YGb]
    refine⟨⟨by omega,by omega⟩,⟨by omega,by omega⟩,fun hd=>⟨⟨by omega,by omega⟩,⟨by omega,by omega⟩,fun hc=>Yf ?_,fun hc=>Yf ?_⟩,fun hd=>⟨i,⟨by omega,fun t ht=>?_⟩,by omega,?_⟩⟩
    ·have:=YeA gt (by omega:dig a i<dig b i)
     rw[ordN,if_pos this]at h;exact h
    ·have:=YeA (fun t ht=>(gt t ht).symm) (by omega:dig b i<dig a i)
     rw[ordN,if_neg (by omega),if_pos this]at h;exact h
    ·rcases Nat.eq_or_lt_of_le ht with rfl|ht
     ·omega
     ·exact gt t ht
    ·simp only[Ya]
     rw[YGd _ (by omega)]
     try simp
   ·obtain rfl:j=0:=by omega
    have:a=b:=Yft fun i=>haj i (YHk _)
    rw[ordN,if_neg (by omega),if_neg (by omega)]at h
    exact Yf h
 ·exact h.1.elim
theorem YvA:plusC.ok YGc 156:=by
 refine Yb Tryz.func156 YA2 YhH 300 plusC fun args k h=>?_
 simp only[plusC]at h
 split at h
 ·rename_i t1 z1 n sz get t2 z2 m sz' get'
  obtain⟨a,b,⟨⟨rfl,hn,ha,hg⟩,⟨rfl,hm,hb,hg'⟩,hn9,hm9⟩,h⟩:=h
  refine⟨[.vs t1 z1 n 1 (fun k=>[.int .u32 (dig a k)]),.vs t2 z2 m 1 (fun k=>[.int .u32 (dig b k)])],⟨by simpa [le]using hg,by simpa [le]using hg',trivial⟩,?_⟩
  dsimp only[v156,YaZ,Ya0,v167,go_sem,reduceIte]
  simp only[Yc,YGa,YF9,reduceCtorEq,YF8]
  refine⟨fun hlt=>?_,fun hge=>?_⟩
  all_goals first
   | (obtain⟨q,rfl⟩:∃q,q=n:=⟨_,rfl⟩
      obtain⟨n,rfl⟩:∃q,q=m:=⟨_,rfl⟩
      obtain⟨m,rfl⟩:∃m,m=q:=⟨_,rfl⟩
      obtain⟨q,rfl⟩:∃q,q=a:=⟨_,rfl⟩
      obtain⟨a,rfl⟩:∃a,a=b:=⟨_,rfl⟩
      obtain⟨b,rfl⟩:∃b,b=q:=⟨_,rfl⟩
      rw[Nat.add_comm]at h
      obtain⟨N,hNn⟩:∃N,N=n+1:=⟨_,rfl⟩
      obtain⟨X,hX⟩:∃X,X=a+b:=⟨_,rfl⟩
      have hmn:m<=n:=by omega)
   | (obtain⟨N,hNn⟩:∃N,N=n+1:=⟨_,rfl⟩
      obtain⟨X,hX⟩:∃X,X=a+b:=⟨_,rfl⟩
      have hmn:m<=n:=by omega)
  all_goals
   have ha1:a<4294967296^n:=by assumption
   have hb1:b<4294967296^m:=by assumption
   have eN:IntKind.i64.wrap ((n:Int)+1)=((N:Nat):Int):=by rw[hNn,YGd _ (by omega)];omega
   rw[eN]
   simp only[YGb]
   refine⟨⟨by decide,by omega,by omega,by unfold YP;omega⟩,?_⟩
   refine Loop.keep [0,0,3,14,0] Nat (fun i=>[(6,.int .u64 (cy a b i)),(22,.int .i64 i)]) (fun i=>[(0,.own false 1 N (fun k=>[.int .u32 (dig (X%4294967296^i) k)]))]) [] (fun i=>i<=n) (fun i=>n-i) ?_ ?_
   ·refine⟨0,by omega,?_⟩
    dsimp only[go_sem,reduceIte]
    simp only[Ya]
    simp [cy_0,Nat.mod_one,YbQ,leL,le]
   ·rintro i hi
    dsimp only[YaZ,Ya0,v167,YGb,go_sem,reduceIte]
    simp only[Yc,YGa,YF9,reduceCtorEq,YF8]
    refine⟨fun hlt=>⟨⟨by omega,by omega⟩,fun hc=>⟨⟨by omega,by omega⟩,by decide,⟨by omega,by omega⟩,by omega,i+1,by omega,by omega,?_⟩,fun hc=>⟨by decide,⟨by omega,by omega⟩,by omega,i+1,by omega,by omega,?_⟩⟩,fun hge=>?_⟩
    ·have hd1:=YM a i
     have hd2:=YM b i
     have hcy:=YiN a b i
     have e1:=Yfm a b i
     have e2:=Yj7 a b i
     rw[show dig a i+dig b i+cy a b i=dig a i+cy a b i+dig b i by omega]at e1 e2
     rw[Ya7 (by omega:dig a i<18446744073709551616),Ya7 (by omega:dig b i<18446744073709551616),Yea (by omega),Yea (by omega),sh32,Yhr,e1,e2,YGd ((i:Int)+1) (by omega)]
     simp only[Ya]
     refine⟨by simp,fun j hj=>?_⟩
     rw[Y7,Y7,hX]
     by_cases hji:j=i
     ·rw[if_pos hji,if_pos (by omega),hji];simp only[leL,le,and_self]
     ·rw[if_neg hji];simp only[show(j<i+1)↔(j<i)from by omega];simp only[leL,le,and_self]
    ·have hd1:=YM a i
     have hd2:dig b i=0:=Y3 hb1 (by omega)
     have hcy:=YiN a b i
     have e1:=Yfm a b i
     have e2:=Yj7 a b i
     rw[hd2,YHi]at e1 e2
     rw[Ya7 (by omega:dig a i<18446744073709551616),Yea (by omega),sh32,Yhr,e1,e2,YGd ((i:Int)+1) (by omega)]
     simp only[Ya]
     refine⟨by simp,fun j hj=>?_⟩
     rw[Y7,Y7,hX]
     by_cases hji:j=i
     ·rw[if_pos hji,if_pos (by omega),hji];simp only[leL,le,and_self]
     ·rw[if_neg hji];simp only[show(j<i+1)↔(j<i)from by omega];simp only[leL,le,and_self]
    ·obtain rfl:i=n:=by omega
     refine⟨⟨by omega,by omega⟩,by omega,?_⟩
     have hXN:X<4294967296^N:=by
      have h2:b<4294967296^i:=YGV hb1 (YGs (by decide) hmn)
      rw[hX,hNn,Yy];omega
     have htop:IntKind.u32.wrap ((cy a b i:Nat):Int)=((dig X i:Nat):Int):=by
      have e1:=Yfm a b i
      have hcy:=YiN a b i
      rw[Y3 ha1 (YGr _),Y3 hb1 hmn]at e1
      rw[Yhr,hX,<-e1]
      omega
     rw[htop]
     rw[<-hX]at h
     refine Loop.keep [0] Nat (fun j=>[(0,.own 0 0 j 1)]) (fun _=>[(0,.own false 1 N (fun k=>[.int .u32 (dig X k)]))]) [] (fun j=>j<=N/\X<4294967296^j) (fun j=>j) ?_ ?_
     ·refine⟨N,⟨YGr _,hXN⟩,?_⟩
      dsimp only[go_sem,reduceIte]
      simp only[Ya]
      refine⟨by decide,by decide,fun j hj=>?_⟩
      split
      ·rename_i e;rw[e];exact⟨⟨rfl,rfl⟩,trivial⟩
      ·rw[YbA (by omega)];exact⟨⟨rfl,rfl⟩,trivial⟩
     ·rintro j ⟨hj,haj⟩
      dsimp only[YGb,go_sem,reduceIte]
      simp only[Yc,YGa,YF9,reduceCtorEq,YF8]
      refine⟨fun hlt=>?_,fun hlt=>?_,fun hb=>?_,fun hb=>?_⟩
      ·rw[Yn (by omega) (by omega)];omega
      ·rw[Yn (by omega) (by omega)];omega
      ·rw[YGi,decide_eq_true_eq,decide_eq_true_eq]at hb
       obtain⟨h1,h2⟩:=hb
       rw[Yn (by omega) (by omega),YGb]at h2
       refine⟨by rw[Yn (by omega) (by omega)];omega,j-1,⟨by omega,?_⟩,by omega,?_⟩
       ·obtain⟨m,rfl⟩:∃m,j=m+1:=⟨j-1,by omega⟩
        exact Ybe haj (by simp at h2;exact_mod_cast h2)
       ·rw[Yn (by omega) (by omega)]
        simp only[Ya] <;> simp [leL,le]
      ·have e:nl X=j:=by
        refine YaG haj ?_
        rw[YGZ,decide_eq_false_iff_not,decide_eq_false_iff_not]at hb
        rcases YGI j with h0|h0
        ·exact .inl h0
        ·refine .inr fun hh=>hb.elim (fun h=>h (by omega)) fun h=>h ?_
         rw[Yn h0 (by omega),YGb,hh];rfl
       subst e
       exact YaP h rfl rfl rfl fun j hj=>rfl
 ·exact h.1.elim
def v158:VF:=⟨68,[.tmp 4],(ZR [u1 4 .mov [.cn .nil]] (ZR [Zm 12 0,Zl 13 12,Zm 14 1,Zl 15 14,Zo 16 .add 13 15,u1 17 (.make 1 4 [(.int .u32 0)]) [.tm 16,.tm 16],Zm 5 17] (.seq (ZR [Zm 18 0,Zl 19 18,Zi 20 0] (.block 0 (.loop (ZR [Zr 21 .lss 20 19] (.seq (ZC 21 .skip (.exit 0)) (.seq (.block 1 (ZR [Zm 22 20,Zx 23 1 18 20,Zf 24 1 23,Zm 6 22,Zm 7 24] (ZR [u1 8 .mov [.cn (.int .u64 0)]] (.seq (ZR [Zm 25 1,Zl 26 25,Zi 27 0] (.block 2 (.loop (ZR [Zr 28 .lss 27 26] (.seq (ZC 28 .skip (.exit 2)) (.seq (.block 3 (ZR [Zm 29 27,Zx 30 1 25 27,Zf 31 1 30,Zm 9 29,Zm 10 31] (ZR [Zm 32 5,Zm 33 6,Zm 34 9,Zo 35 .add 33 34,Zx 36 1 32 35,Zf 37 1 36,u1 38 (.conv .u64) [.tm 37],Zm 39 7,u1 40 (.conv .u64) [.tm 39],Zm 41 10,u1 42 (.conv .u64) [.tm 41],Zo 43 .mul 40 42,Zo 44 .add 38 43,Zm 45 8,Zo 46 .add 44 45,Zm 11 46] (.region [Zm 47 5,Zm 48 6,Zm 49 9,Zo 50 .add 48 49,Zm 51 11,u1 52 (.conv .u32) [.tm 51],Zm 53 11,u1 54 .shr [.tm 53,.cn (.int .u64 32)],Zx 55 1 47 50,Zs 1 55 52,Zm 8 54])))) (.region [Zp 56 27 1,Zm 27 56]))))))) (.region [Zm 57 5,Zm 58 6,Zm 59 1,Zl 60 59,Zo 61 .add 58 60,Zm 62 8,u1 63 (.conv .u32) [.tm 62],Zx 64 1 57 61,Zs 1 64 63]))))) (.region [Zp 65 20 1,Zm 20 65]))))))) (ZR [Zm 66 5,Zc 67 167 66,Zm 4 67] .ret))))⟩
theorem YA4:Yg YGc Tryz.f158=some v158:=by kernel_rfl
def v166:VF:=⟨58,[.tmp 4],(ZR [u1 4 .mov [.cn .nil]] (.seq (ZR [Zm 11 0,Zl 12 11,Zq 13 .eql 12 0] (ZC 13 (ZR [u1 4 .mov [.cn .nil]] .ret) .skip)) (ZR [Zm 14 1,u1 15 .quo [.tm 14,.cn (.int .i64 32)],Zm 16 1,u1 17 .rem [.tm 16,.cn (.int .i64 32)],u1 18 (.conv .u64) [.tm 17],Zm 5 15,Zm 6 18] (ZR [Zm 19 0,Zl 20 19,Zm 21 5,Zo 22 .add 20 21,Zp 23 22 1,u1 24 (.make 1 4 [(.int .u32 0)]) [.tm 23,.tm 23],Zm 7 24] (.seq (ZR [Zm 25 0,Zl 26 25,Zi 27 0] (.block 0 (.loop (ZR [Zr 28 .lss 27 26] (.seq (ZC 28 .skip (.exit 0)) (.seq (.block 1 (ZR [Zm 29 27,Zx 30 1 25 27,Zf 31 1 30,Zm 8 29,Zm 9 31] (ZR [Zm 32 9,u1 33 (.conv .u64) [.tm 32],Zm 34 6,u1 35 .shl [.tm 33,.tm 34],Zm 10 35] (ZR [Zm 36 7,Zm 37 8,Zm 38 5,Zo 39 .add 37 38,Zx 40 1 36 39,Zf 41 1 40,Zm 42 10,u1 43 (.conv .u32) [.tm 42],u1 44 (.bit .or) [.tm 41,.tm 43],Zx 45 1 36 39,Zs 1 45 44] (.region [Zm 46 7,Zm 47 8,Zm 48 5,Zo 49 .add 47 48,Zp 50 49 1,Zm 51 10,u1 52 .shr [.tm 51,.cn (.int .u64 32)],u1 53 (.conv .u32) [.tm 52],Zx 54 1 46 50,Zs 1 54 53]))))) (.region [Zp 55 27 1,Zm 27 55]))))))) (ZR [Zm 56 7,Zc 57 167 56,Zm 4 57] .ret))))))⟩
theorem YBc:Yg YGc Tryz.f166=some v166:=by kernel_rfl
def v165:VF:=⟨64,[.tmp 4],(ZR [u1 4 .mov [.cn .nil]] (ZR [Zm 10 1,u1 11 .quo [.tm 10,.cn (.int .i64 32)],Zm 12 1,u1 13 .rem [.tm 12,.cn (.int .i64 32)],u1 14 (.conv .u64) [.tm 13],Zm 5 11,Zm 6 14] (.seq (ZR [Zm 15 5,Zm 16 0,Zl 17 16,Zr 18 .geq 15 17] (ZC 18 (ZR [u1 4 .mov [.cn .nil]] .ret) .skip)) (ZR [Zm 19 0,Zl 20 19,Zm 21 5,Zo 22 .sub 20 21,u1 23 (.make 1 4 [(.int .u32 0)]) [.tm 22,.tm 22],Zm 7 23] (.seq (ZR [Zm 24 7,Zl 25 24,Zi 26 0] (.block 0 (.loop (ZR [Zr 27 .lss 26 25] (.seq (ZC 27 .skip (.exit 0)) (.seq (.block 1 (ZR [Zm 28 26,Zm 8 28] (ZR [Zm 29 0,Zm 30 8,Zm 31 5,Zo 32 .add 30 31,Zx 33 1 29 32,Zf 34 1 33,u1 35 (.conv .u64) [.tm 34],Zm 9 35] (.seq (ZR [Zm 36 8,Zm 37 5,Zo 38 .add 36 37,Zp 39 38 1,Zm 40 0,Zl 41 40,Zr 42 .lss 39 41] (ZC 42 (.region [Zm 43 9,Zm 44 0,Zm 45 8,Zm 46 5,Zo 47 .add 45 46,Zp 48 47 1,Zx 49 1 44 48,Zf 50 1 49,u1 51 (.conv .u64) [.tm 50],u1 52 .shl [.tm 51,.cn (.int .u64 32)],u1 53 (.bit .or) [.tm 43,.tm 52],Zm 9 53]) .skip)) (.region [Zm 54 7,Zm 55 8,Zm 56 9,Zm 57 6,u1 58 .shr [.tm 56,.tm 57],u1 59 (.conv .u32) [.tm 58],Zx 60 1 54 55,Zs 1 60 59]))))) (.region [Zp 61 26 1,Zm 26 61]))))))) (ZR [Zm 62 7,Zc 63 167 62,Zm 4 63] .ret))))))⟩
theorem YBb:Yg YGc Tryz.f165=some v165:=by kernel_rfl
theorem Yn0{V j x:Nat}(hV:V<4294967296^j):setD V j x=V+x*4294967296^j:=by
 have:=YdZ V j x
 rw[Y3 hV (YGr _)]at this
 omega
def wtimC:Ctr:={ alias:=false,of:=fun l=>match l with
 | [.vs _ _ n sz get,.vs _ _ m sz' get']=> .ex Nat fun a=> .ex Nat fun b=> .pre (padP a n sz get/\padP b m sz' get'/\n+m<=99999) (.fin (natS false (a*b)) [])
 |_=>noC}
theorem Ys6:wtimC.ok YGc 158:=by
 refine Yb Tryz.func158 YA4 YhH 300 wtimC fun args k h=>?_
 simp only[wtimC]at h
 split at h
 ·rename_i t1 z1 n sz get t2 z2 m sz' get'
  obtain⟨a,b,⟨⟨rfl,hn,ha,hg⟩,⟨rfl,hm,hb,hg'⟩,hnm⟩,h⟩:=h
  refine⟨[.vs t1 z1 n 1 (fun k=>[.int .u32 (dig a k)]),.vs t2 z2 m 1 (fun k=>[.int .u32 (dig b k)])],⟨by simpa [le]using hg,by simpa [le]using hg',trivial⟩,?_⟩
  dsimp only[v158,YaZ,Ya0,v167,go_sem,reduceIte]
  simp only[Yc,YGa,YF9,reduceCtorEq,YF8]
  obtain⟨N,hNn⟩:∃N,N=n+m:=⟨_,rfl⟩
  obtain⟨X,hX⟩:∃X,X=a*b:=⟨_,rfl⟩
  have en:IntKind.i64.wrap ((n:Int)+(m:Int))=(N:Int):=by rw[hNn,YGd _ (by omega)];omega
  rw[en]
  simp only[YGb]
  refine⟨⟨by decide,by omega,by omega,by unfold YP;omega⟩,?_⟩
  refine Loop.keep [0,0,3,12,0] Nat (fun i=>[(20,.int .i64 i)]) (fun i=>[(0,.own false 1 N (fun k=>[.int .u32 (dig ((a%4294967296^i)*b) k)]))]) [] (fun i=>i<=n) (fun i=>n-i) ?_ ?_
  ·refine⟨0,by omega,?_⟩
   dsimp only[go_sem,reduceIte]
   simp only[Ya]
   simp [Nat.mod_one,YbQ,leL,le]
  ·rintro i hi
   dsimp only[YaZ,Ya0,v167,YGb,go_sem,reduceIte]
   simp only[Yc,YGa,YF9,reduceCtorEq,YF8]
   have hrow:∀i,(a%4294967296^i)*b<4294967296^(i+m):=fun i=>by
    rw[YGo]
    exact Nat.mul_lt_mul_of_lt_of_le (YGJ _ (Yp i)) (YHn hb) (Yp m)
   refine⟨fun hlt=>?_,fun hge=>?_⟩
   ·refine⟨⟨by omega,by omega⟩,?_⟩
    refine Loop.keep [0,0,3,0,0,10,0,0,4,0] (Nat×Nat×Nat) (fun x=>[(8,.int .u64 x.2.2),(27,.int .i64 x.1)]) (fun x=>[(0,.own false 1 N (fun k=>[.int .u32 (dig x.2.1 k)]))]) [] (fun x=>x.1<=m/\x.2.2<4294967296/\x.2.1<4294967296^(i+m)/\x.2.1+x.2.2*4294967296^(i+x.1)=(a%4294967296^i)*b+dig a i*(b%4294967296^x.1)*4294967296^i) (fun x=>m-x.1) ?_ ?_
    ·refine⟨(0,(a%4294967296^i)*b,0),⟨by simp only;omega,by simp only;omega,hrow i,by simp [Nat.mod_one]⟩,?_⟩
     dsimp only[go_sem,reduceIte]
     simp only[Ya]
     try simp [leL,le]
    ·rintro⟨t,V,c⟩ ⟨ht,hc,hV,he⟩
     dsimp only at ht hc hV he
     dsimp only[YGb,go_sem,reduceIte]
     simp only[Yc,YGa,YF9,reduceCtorEq,YF8]
     refine⟨fun hlt2=>?_,fun hge2=>?_⟩
     ·have w1:IntKind.i64.wrap ((i:Int)+(t:Int))=((i+t:Nat):Int):=by rw[YGd _ (by omega)];simp
      rw[w1]
      simp only[YGb]
      have hd0:=YM V (i+t)
      have hd1:=YM a i
      have hd2:=YM b t
      obtain⟨hb1,hb2⟩:=YkM hd0 (YM a i) (YM b t) hc
      have hs:=Yjp he
      refine⟨⟨by omega,by omega⟩,⟨by omega,by omega⟩,by omega,by decide,⟨by omega,by omega⟩,by omega,
       (t+1,setD V (i+t) ((dig V (i+t)+dig a i*dig b t+c)%4294967296),(dig V (i+t)+dig a i*dig b t+c)/4294967296),⟨by simp only;omega,hb2,YjD hV (YGJ _ (by decide)) (by omega),hs⟩,by simp only;omega,?_⟩
      rw[Ya7 (by omega:dig V (i+t)<18446744073709551616),Ya7 (by omega:dig a i<18446744073709551616),Ya7 (by omega:dig b t<18446744073709551616),Yll (by omega),Yea (by omega),Yea (by omega),Yhr,sh32,YGd ((t:Int)+1) (by omega)]
      simp only[Ya]
      refine⟨by simp,fun j hj=>?_⟩
      rw[YcH (YGJ _ (by decide))]
      split <;> simp only[leL,le,and_self]
     ·obtain rfl:t=m:=by omega
      have w1:IntKind.i64.wrap ((i:Int)+(t:Int))=((i+t:Nat):Int):=by rw[YGd _ (by omega)];simp
      rw[w1]
      simp only[YGb]
      rw[YG3 hb]at he
      have hrow2:(a%4294967296^(i+1))*b=setD V (i+t) c:=by
       rw[Yn0 hV,he,YaC,YGG,YGm,YGj (4294967296^i)]
      refine⟨⟨by omega,by omega⟩,by omega,i+1,by omega,by omega,?_⟩
      rw[Yf4 hc,hrow2,YGd ((i:Int)+1) (by omega)]
      simp only[Ya]
      refine⟨by simp,fun j hj=>?_⟩
      rw[YcH hc]
      split <;> simp only[leL,le,and_self]
   ·obtain rfl:i=n:=by omega
    have hmi:a%4294967296^i=a:=YG3 ha
    have hXN:X<4294967296^N:=by
     have:=hrow i
     rw[hmi]at this
     rw[hX,hNn];exact this
    rw[hmi,<-hX]
    rw[<-hX]at h
    refine Loop.keep [0] Nat (fun j=>[(0,.own 0 0 j 1)]) (fun _=>[(0,.own false 1 N (fun k=>[.int .u32 (dig X k)]))]) [] (fun j=>j<=N/\X<4294967296^j) (fun j=>j) ?_ ?_
    ·refine⟨N,⟨YGr _,hXN⟩,?_⟩
     dsimp only[go_sem,reduceIte]
     simp only[Ya]
     simp [leL,le]
    ·rintro j ⟨hj,haj⟩
     dsimp only[YGb,go_sem,reduceIte]
     simp only[Yc,YGa,YF9,reduceCtorEq,YF8]
     refine⟨fun hlt=>?_,fun hlt=>?_,fun hb=>?_,fun hb=>?_⟩
     ·rw[Yn (by omega) (by omega)];omega
     ·rw[Yn (by omega) (by omega)];omega
     ·rw[YGi,decide_eq_true_eq,decide_eq_true_eq]at hb
      obtain⟨h1,h2⟩:=hb
      rw[Yn (by omega) (by omega),YGb]at h2
      refine⟨by rw[Yn (by omega) (by omega)];omega,j-1,⟨by omega,?_⟩,by omega,?_⟩
      ·obtain⟨m,rfl⟩:∃m,j=m+1:=⟨j-1,by omega⟩
       exact Ybe haj (by simp at h2;exact_mod_cast h2)
      ·rw[Yn (by omega) (by omega)]
       simp only[Ya] <;> simp [leL,le]
     ·have e:nl X=j:=by
       refine YaG haj ?_
       rw[YGZ,decide_eq_false_iff_not,decide_eq_false_iff_not]at hb
       rcases YGI j with h0|h0
       ·exact .inl h0
       ·refine .inr fun hh=>hb.elim (fun h=>h (by omega)) fun h=>h ?_
        rw[Yn h0 (by omega),YGb,hh];rfl
      subst e
      exact YaP h rfl rfl rfl fun j hj=>rfl
 ·exact h.1.elim
def wupC:Ctr:={ alias:=false,of:=fun l=>match l with
 | [.vs _ _ n sz get,.int .i64 s]=> .ex Nat fun a=> .ex Nat fun d=> .pre (padP a n sz get/\n=nl a/\n<=9999/\s=d/\d<=20000) (.all Bool fun z=> .fin (natS (z&&decide (a*2^d=0)) (a*2^d)) [])
 |_=>noC}
def wdownC:Ctr:={ alias:=false,of:=fun l=>match l with
 | [.vs _ _ n sz get,.int .i64 s]=> .ex Nat fun a=> .ex Nat fun d=> .pre (padP a n sz get/\n<=9999/\s=d/\d<=20000) (.all Bool fun z=> .fin (natS (z&&decide (a/2^d=0)) (a/2^d)) [])
 |_=>noC}
theorem YmQ{k:SV->List HO->Prop}{al:Bool}{hp:List HO}(h:k (natS true 0) []):YD al k .nil hp:=
 YC h (by show le 0 0 (view true hp (viewN true hp 2) .nil) _;unfold view;simp [natS,nl_0,le]) (fun _=>by simp [natS,Yl,Ym])
theorem or_hi{x y:Nat}(hx:x<4294967296)(hy:y<4294967296):bitI .or .u64 (x:Int) (IntKind.u64.wrap ((y:Int)*2^min (YHE 32) 64))=((x+y*4294967296:Nat):Int):=by
 have e:IntKind.u64.wrap ((y:Int)*2^min (YHE 32) 64)=((y*4294967296:Nat):Int):=YfH (s:=32) (by decide) (by omega)
 rw[e,show bitI .or .u64 (x:Int) ((y*4294967296:Nat):Int)=((x||| y*4294967296:Nat):Int)from Yr0 (by omega) (by omega)]
 have:=Nat.two_pow_add_eq_or_of_lt (i:=32) hx y
 rw[Nat.or_comm,YGj,show(4294967296:Nat)=2^32 from rfl,<-this,Nat.add_comm]
theorem YkL{y r:Nat}(h:r<32):y%(4294967296*4294967296)/2^r%4294967296=y/2^r%4294967296:=by
 have e:(4294967296*4294967296:Nat)=2^r*(4294967296*2^(32-r)):=by
  rw[show(4294967296:Nat)=2^32 from rfl,<-YGo,<-YGo,<-YGo];congr 1;omega
 rw[e,Nat.mod_mul_right_div_self,Nat.mod_mul_right_mod]
theorem Yna{a d w r:Nat}(hw:w=d/32)(hr:r=d%32)(i:Nat):dig (a/2^d) i=(dig a (i+w)+dig a (i+w+1)*4294967296)/2^r%4294967296:=by
 have e:dig a (i+w)+dig a (i+w+1)*4294967296=a/4294967296^(i+w)%(4294967296*4294967296):=by
  unfold dig
  rw[Yy,<-YGv]
  generalize a/4294967296^(i+w)=y
  omega
 rw[e,YkL (by omega)]
 unfold dig
 have e2:2^d*4294967296^i=4294967296^(i+w)*2^r:=by
  rw[Ycs,Ycs,<-YGo,<-YGo];congr 1;omega
 rw[YGv,YGv,e2]
theorem YxV{a d w n N:Nat}(hw:w=d/32)(hN:N=n-w)(hwn:w<n)(ha:a<4294967296^n):a/2^d<4294967296^N:=by
 rw[YGL (YH d)]
 refine YGV ha ?_
 rw[Ycs,Ycs,<-YGo]
 exact YGs (by decide) (by omega)
theorem Yhq{d w r:Nat}(hw:w=d/32)(hr:r=d%32):2^d=2^r*4294967296^w:=by
 rw[Ycs,<-YGo];congr 1;omega
theorem YyT(x:Nat){r:Nat}(hr:r<32):x*2^r%4294967296=2^r*(x%2^(32-r)):=by
 have e:(4294967296:Nat)=2^r*2^(32-r):=by
  rw[<-YGo,show r+(32-r)=32 by omega]
 rw[YGj x,e,Nat.mul_mod_mul_left]
theorem YAb{a d w r:Nat}(hw:w=d/32)(hr:r=d%32)(i:Nat):
 (dig ((a%4294967296^i)*2^d) (i+w) ||| dig a i*2^r%4294967296)<4294967296/\(a%4294967296^(i+1))*2^d=setD (setD ((a%4294967296^i)*2^d) (i+w) (dig ((a%4294967296^i)*2^d) (i+w) ||| dig a i*2^r%4294967296)) (i+w+1) (dig a i*2^r/4294967296):=by
 have hr32:r<32:=by omega
 have hb:(dig ((a%4294967296^i)*2^d) (i+w) ||| dig a i*2^r%4294967296)<4294967296:=Nat.or_lt_two_pow (n:=32) (YM _ _) (YGJ _ (by decide))
 refine⟨hb,?_⟩
 have hY:(a%4294967296^i)*2^d<4294967296^(i+w)*2^r:=by
  rw[Yhq hw hr,<-YGm,Nat.mul_right_comm,YGo]
  exact Nat.mul_lt_mul_of_pos_right (Nat.mul_lt_mul_of_pos_right (YGJ _ (Yp i)) (Yp w)) (YH r)
 have h2r:2^r<4294967296:=Nat.pow_lt_pow_right (a:=2) (n:=32) (by decide) hr32
 have hYl:(a%4294967296^i)*2^d<4294967296^(i+w+1):=by
  rw[Yy]
  exact YGV hY (YGk _ (YHn h2r))
 have hd0:dig ((a%4294967296^i)*2^d) (i+w)<2^r:=by
  unfold dig
  refine YGN (Nat.mod_le _ _) ?_
  rw[YGL (Yp _),YGj (2^r)]
  exact hY
 have hor:(dig ((a%4294967296^i)*2^d) (i+w) ||| dig a i*2^r%4294967296)=dig ((a%4294967296^i)*2^d) (i+w)+dig a i*2^r%4294967296:=by
  rw[YyT _ hr32,Nat.or_comm,<-Nat.two_pow_add_eq_or_of_lt hd0,Nat.add_comm]
 rw[Yn0 (YjD hYl hb (by omega))]
 have e1:=YdZ ((a%4294967296^i)*2^d) (i+w) (dig ((a%4294967296^i)*2^d) (i+w) ||| dig a i*2^r%4294967296)
 rw[hor,YGG]at e1
 rw[hor]
 have e2:(a%4294967296^(i+1))*2^d=(a%4294967296^i)*2^d+dig a i*2^r*4294967296^(i+w):=by
  rw[YaC,YGG,YGo,Yhq hw hr]
  congr 1
  simp only[YGm,YG5,YGj]
 have e3:dig a i*2^r*4294967296^(i+w)=dig a i*2^r%4294967296*4294967296^(i+w)+dig a i*2^r/4294967296*4294967296^(i+w+1):=by
  rw[Yy,YGj (4294967296^(i+w)) 4294967296,<-YGm,<-YGG]
  congr 1
  omega
 rw[e2,e3]
 omega
theorem shl_r{x:Nat}(hx:x<4294967296){r:Nat}(h:r<32):IntKind.u64.wrap ((x:Int)*2^min (YHE (IntKind.u64.wrap (r:Int))) 64)=((x*2^r:Nat):Int):=by
 have h2r:2^r<4294967296:=Nat.pow_lt_pow_right (a:=2) (n:=32) (by decide) h
 have:x*2^r<=4294967295*4294967295:=YGB (by omega) (by omega)
 rw[Ya7 (by omega),YGb];exact YfH (by omega) (by omega)
theorem YB6{x y:Nat}(hx:x<4294967296)(hy:y<4294967296):bitI .or .u32 (x:Int) (y:Int)=((x||| y:Nat):Int):=YrZ hx hy
theorem YEC(x:Nat){r:Nat}(h:r<32):(x:Int).fdiv (2^min (YHE (IntKind.u64.wrap (r:Int))) 64)=((x/2^r:Nat):Int):=by
 rw[Ya7 (by omega),YGb];exact YbL (by omega)
theorem Yvz:wdownC.ok YGc 165:=by
 refine Yb Tryz.func165 YBb YhH 300 wdownC fun args k h=>?_
 simp only[wdownC]at h
 split at h
 ·rename_i t1 z1 n sz get s
  obtain⟨a,d,⟨⟨rfl,hn,ha,hg⟩,hn9,rfl,hd⟩,h⟩:=h
  refine⟨[.vs t1 z1 n 1 (fun k=>[.int .u32 (dig a k)]),.int .i64 d],⟨by simpa [le]using hg,⟨rfl,rfl⟩,trivial⟩,?_⟩
  dsimp only[v165,YaZ,Ya0,v167,go_sem,reduceIte]
  simp only[Yc,YGa,YF9,reduceCtorEq,YF8]
  obtain⟨w,hw⟩:∃w,w=d/32:=⟨_,rfl⟩
  obtain⟨r,hr⟩:∃r,r=d%32:=⟨_,rfl⟩
  have hr32:r<32:=by rw[hr];exact YGJ _ (by decide)
  have ew:IntKind.i64.wrap ((d:Int).tdiv 32)=(w:Int):=by
   have:(d:Int).tdiv 32=((d/32:Nat):Int):=YHh (y:=32) rfl rfl
   rw[this,hw,YGd _ (by omega)]
  have er:(d:Int).tmod 32=(r:Int):=by rw[hr];exact YHF (y:=32) rfl rfl
  obtain⟨X,hX⟩:∃X,X=a/2^d:=⟨_,rfl⟩
  rw[ew,er]
  refine⟨by decide,by decide,fun hc=>?_,fun hc=>?_⟩
  ·have:a/2^d=0:=by
    rw[YHo]
    refine YGV ha ?_
    rw[Ycs]
    exact YGs (by decide) (by omega)
   rw[this]at h
   exact YmQ (show k _ []from h true)
  ·obtain⟨N,hNn⟩:∃N,N=n-w:=⟨_,rfl⟩
   have en:IntKind.i64.wrap ((n:Int)-(w:Int))=(N:Int):=by rw[hNn,YGd _ (by omega)];omega
   rw[en]
   simp only[YGb]
   have hXN:X<4294967296^N:=by rw[hX];exact YxV hw hNn (by omega) ha
   refine⟨⟨by decide,by omega,by omega,by unfold YP;omega⟩,?_⟩
   refine Loop.keep [0,4,0,0,16,0] Nat (fun i=>[(26,.int .i64 i)]) (fun i=>[(0,.own false 1 N (fun k=>[.int .u32 (dig (X%4294967296^i) k)]))]) [] (fun i=>i<=N) (fun i=>N-i) ?_ ?_
   ·refine⟨0,by omega,?_⟩
    dsimp only[go_sem,reduceIte]
    simp only[Ya]
    simp [Nat.mod_one,YbQ,leL,le]
   ·rintro i hi
    dsimp only[YaZ,Ya0,v167,YGb,go_sem,reduceIte]
    simp only[Yc,YGa,YF9,reduceCtorEq,YF8]
    refine⟨fun hlt=>?_,fun hge=>?_⟩
    ·have w1:IntKind.i64.wrap ((i:Int)+(w:Int))=((i+w:Nat):Int):=by rw[YGd _ (by omega)];simp
     have w2:IntKind.i64.wrap (((i+w:Nat):Int)+1)=((i+w+1:Nat):Int):=by rw[YGd _ (by omega)];simp
     rw[w1,w2]
     simp only[YGb]
     have hd1:=YM a (i+w)
     have hd2:=YM a (i+w+1)
     refine⟨⟨by omega,by omega⟩,fun hc2=>⟨⟨by omega,by omega⟩,by decide,by rw[Ya7 (by omega)];omega,⟨by omega,by omega⟩,by omega,i+1,by omega,by omega,?_⟩,fun hc2=>⟨by rw[Ya7 (by omega)];omega,⟨by omega,by omega⟩,by omega,i+1,by omega,by omega,?_⟩⟩
     ·rw[Ya7 (by omega:dig a (i+w)<18446744073709551616),Ya7 (by omega:dig a (i+w+1)<18446744073709551616),or_hi hd1 hd2,YEC _ hr32,Yhr,<-Yna hw hr,YGd ((i:Int)+1) (by omega)]
      simp only[Ya]
      refine⟨by simp,fun j hj=>?_⟩
      rw[Y7,Y7,hX]
      by_cases hji:j=i
      ·rw[if_pos hji,if_pos (by omega),hji];simp only[leL,le,and_self]
      ·rw[if_neg hji];simp only[show(j<i+1)↔(j<i)from by omega];simp only[leL,le,and_self]
     ·have hz:dig a (i+w+1)=0:=Y3 ha (by omega)
      have hdd:= @Yna a d w r hw hr i
      rw[hz,Nat.zero_mul,YHi]at hdd
      rw[Ya7 (by omega:dig a (i+w)<18446744073709551616),YEC _ hr32,Yhr,<-hdd,YGd ((i:Int)+1) (by omega)]
      simp only[Ya]
      refine⟨by simp,fun j hj=>?_⟩
      rw[Y7,Y7,hX]
      by_cases hji:j=i
      ·rw[if_pos hji,if_pos (by omega),hji];simp only[leL,le,and_self]
      ·rw[if_neg hji];simp only[show(j<i+1)↔(j<i)from by omega];simp only[leL,le,and_self]
    ·obtain rfl:i=N:=by omega
     rw[YG3 hXN]
     have h:k (natS false X) []:=by rw[hX];exact h false
     obtain⟨N,rfl⟩:∃N,N=i:=⟨_,rfl⟩
     refine Loop.keep [0] Nat (fun j=>[(0,.own 0 0 j 1)]) (fun _=>[(0,.own false 1 N (fun k=>[.int .u32 (dig X k)]))]) [] (fun j=>j<=N/\X<4294967296^j) (fun j=>j) ?_ ?_
     ·refine⟨N,⟨YGr _,hXN⟩,?_⟩
      dsimp only[go_sem,reduceIte]
      simp only[Ya]
      simp [leL,le]
     ·rintro j ⟨hj,haj⟩
      dsimp only[YGb,go_sem,reduceIte]
      simp only[Yc,YGa,YF9,reduceCtorEq,YF8]
      refine⟨fun hlt=>?_,fun hlt=>?_,fun hb=>?_,fun hb=>?_⟩
      ·rw[Yn (by omega) (by omega)];omega
      ·rw[Yn (by omega) (by omega)];omega
      ·rw[YGi,decide_eq_true_eq,decide_eq_true_eq]at hb
       obtain⟨h1,h2⟩:=hb
       rw[Yn (by omega) (by omega),YGb]at h2
       refine⟨by rw[Yn (by omega) (by omega)];omega,j-1,⟨by omega,?_⟩,by omega,?_⟩
       ·obtain⟨m,rfl⟩:∃m,j=m+1:=⟨j-1,by omega⟩
        exact Ybe haj (by simp at h2;exact_mod_cast h2)
       ·rw[Yn (by omega) (by omega)]
        simp only[Ya] <;> simp [leL,le]
      ·have e:nl X=j:=by
        refine YaG haj ?_
        rw[YGZ,decide_eq_false_iff_not,decide_eq_false_iff_not]at hb
        rcases YGI j with h0|h0
        ·exact .inl h0
        ·refine .inr fun hh=>hb.elim (fun h=>h (by omega)) fun h=>h ?_
         rw[Yn h0 (by omega),YGb,hh];rfl
       subst e
       exact YaP h rfl rfl rfl fun j hj=>rfl
 ·exact h.1.elim
theorem YF6:wupC.ok YGc 166:=by
 refine Yb Tryz.func166 YBc YhH 300 wupC fun args k h=>?_
 simp only[wupC]at h
 split at h
 ·rename_i t1 z1 n sz get s
  obtain⟨a,d,⟨⟨rfl,hn,ha,hg⟩,hna,hn9,rfl,hd⟩,h⟩:=h
  refine⟨[.vs t1 z1 n 1 (fun k=>[.int .u32 (dig a k)]),.int .i64 d],⟨by simpa [le]using hg,⟨rfl,rfl⟩,trivial⟩,?_⟩
  dsimp only[v166,YaZ,Ya0,v167,go_sem,reduceIte]
  simp only[Yc,YGa,YF9,reduceCtorEq,YF8]
  obtain⟨w,hw⟩:∃w,w=d/32:=⟨_,rfl⟩
  obtain⟨r,hr⟩:∃r,r=d%32:=⟨_,rfl⟩
  have hr32:r<32:=by rw[hr];exact YGJ _ (by decide)
  have ew:IntKind.i64.wrap ((d:Int).tdiv 32)=(w:Int):=by
   have:(d:Int).tdiv 32=((d/32:Nat):Int):=YHh (y:=32) rfl rfl
   rw[this,hw,YGd _ (by omega)]
  have er:(d:Int).tmod 32=(r:Int):=by rw[hr];exact YHF (y:=32) rfl rfl
  obtain⟨X,hX⟩:∃X,X=a*2^d:=⟨_,rfl⟩
  rw[ew,er]
  refine⟨fun hc=>?_,fun hc=>⟨by decide,by decide,?_⟩⟩
  ·obtain rfl:n=0:=by omega
   have:a=0:=by simpa using ha
   rw[this,Nat.zero_mul]at h
   exact YmQ (show k _ []from h true)
  ·obtain⟨N,hNn⟩:∃N,N=n+w+1:=⟨_,rfl⟩
   have en:IntKind.i64.wrap (IntKind.i64.wrap ((n:Int)+(w:Int))+1)=(N:Int):=by rw[hNn,YGd ((n:Int)+w) (by omega),YGd _ (by omega)];omega
   rw[en]
   simp only[YGb]
   refine⟨⟨by decide,by omega,by omega,by unfold YP;omega⟩,?_⟩
   refine Loop.keep [0,4,0,0,17,0] Nat (fun i=>[(27,.int .i64 i)]) (fun i=>[(0,.own false 1 N (fun k=>[.int .u32 (dig ((a%4294967296^i)*2^d) k)]))]) [] (fun i=>i<=n) (fun i=>n-i) ?_ ?_
   ·refine⟨0,by omega,?_⟩
    dsimp only[go_sem,reduceIte]
    simp only[Ya]
    simp [Nat.mod_one,YbQ,leL,le]
   ·rintro i hi
    dsimp only[YaZ,Ya0,v167,YGb,go_sem,reduceIte]
    simp only[Yc,YGa,YF9,reduceCtorEq,YF8]
    refine⟨fun hlt=>?_,fun hge=>?_⟩
    ·have w1:IntKind.i64.wrap ((i:Int)+(w:Int))=((i+w:Nat):Int):=by rw[YGd _ (by omega)];simp
     have w2:IntKind.i64.wrap (((i+w:Nat):Int)+1)=((i+w+1:Nat):Int):=by rw[YGd _ (by omega)];simp
     rw[w1,w2]
     simp only[YGb]
     have hd1:=YM a i
     obtain⟨s1,s2⟩:= @YAb a d w r hw hr i
     refine⟨⟨by omega,by omega⟩,by rw[Ya7 (by omega)];omega,⟨by omega,by omega⟩,by omega,⟨by omega,by omega⟩,by omega,by decide,⟨by omega,by omega⟩,by omega,i+1,by omega,by omega,?_⟩
     rw[Ya7 (by omega:dig a i<18446744073709551616),shl_r hd1 hr32,Yhr,sh32,YB6 (YM _ _) (YGJ _ (by decide)),Yf4 (by
      have h2r:2^r<4294967296:=Nat.pow_lt_pow_right (a:=2) (n:=32) (by decide) hr32
      have:dig a i*2^r<=4294967295*4294967295:=YGB (by omega) (by omega)
      omega),YGd ((i:Int)+1) (by omega)]
     simp only[Ya]
     refine⟨by simp,fun j hj=>?_⟩
     have hhi:dig a i*2^r/4294967296<4294967296:=by
      have h2r:2^r<4294967296:=Nat.pow_lt_pow_right (a:=2) (n:=32) (by decide) hr32
      have:dig a i*2^r<=4294967295*4294967295:=YGB (by omega) (by omega)
      omega
     rw[s2,YcH hhi,YcH s1]
     by_cases hj1:j=i+w+1
     ·rw[if_pos hj1,if_pos hj1,if_neg (by omega)]
      simp [Yaf,leL,le]
     ·rw[if_neg hj1,if_neg hj1]
      split <;> simp only[leL,le,and_self]
    ·obtain rfl:i=n:=by omega
     rw[YG3 ha,<-hX]
     have h:k (natS false X) []:=by rw[hX];exact h false
     have hXN:X<4294967296^N:=by
      have h2r:2^r<4294967296:=Nat.pow_lt_pow_right (a:=2) (n:=32) (by decide) hr32
      rw[hX,Yhq hw hr,hNn,Yy,YGo,YGm,YGj _ (4294967296^w)]
      exact Nat.mul_lt_mul_of_lt_of_le ha (YGk _ (YHn h2r)) (YHd (Yp w) (by decide))
     refine Loop.keep [0] Nat (fun j=>[(0,.own 0 0 j 1)]) (fun _=>[(0,.own false 1 N (fun k=>[.int .u32 (dig X k)]))]) [] (fun j=>j<=N/\X<4294967296^j) (fun j=>j) ?_ ?_
     ·refine⟨N,⟨YGr _,hXN⟩,?_⟩
      dsimp only[go_sem,reduceIte]
      simp only[Ya]
      simp [leL,le]
     ·rintro j ⟨hj,haj⟩
      dsimp only[YGb,go_sem,reduceIte]
      simp only[Yc,YGa,YF9,reduceCtorEq,YF8]
      refine⟨fun hlt=>?_,fun hlt=>?_,fun hb=>?_,fun hb=>?_⟩
      ·rw[Yn (by omega) (by omega)];omega
      ·rw[Yn (by omega) (by omega)];omega
      ·rw[YGi,decide_eq_true_eq,decide_eq_true_eq]at hb
       obtain⟨h1,h2⟩:=hb
       rw[Yn (by omega) (by omega),YGb]at h2
       refine⟨by rw[Yn (by omega) (by omega)];omega,j-1,⟨by omega,?_⟩,by omega,?_⟩
       ·obtain⟨m,rfl⟩:∃m,j=m+1:=⟨j-1,by omega⟩
        exact Ybe haj (by simp at h2;exact_mod_cast h2)
       ·rw[Yn (by omega) (by omega)]
        simp only[Ya] <;> simp [leL,le]
      ·have e:nl X=j:=by
        refine YaG haj ?_
        rw[YGZ,decide_eq_false_iff_not,decide_eq_false_iff_not]at hb
        rcases YGI j with h0|h0
        ·exact .inl h0
        ·refine .inr fun hh=>hb.elim (fun h=>h (by omega)) fun h=>h ?_
         rw[Yn h0 (by omega),YGb,hh];rfl
       subst e
       exact YaP h rfl rfl rfl fun j hj=>rfl
 ·exact h.1.elim
def v152:VF:=⟨7,[.tmp 2],(ZR [Zi 2 0] (.seq (ZR [Zm 3 0,u1 4 (.call 160) [.tm 3,.cn (.fn (.func 161) [] [])]] (ZC 4 (ZR [Zi 2 3] .ret) .skip)) (.seq (ZR [Zm 5 0,u1 6 (.call 160) [.tm 5,.cn (.fn (.func 162) [] [])]] (ZC 6 (ZR [Zi 2 2] .ret) .skip)) (ZR [Zi 2 0] .ret))))⟩
theorem YAY:Yg YGc Tryz.f152=some v152:=by kernel_rfl
def v161:VF:=⟨6,[.tmp 2],(ZR [u1 2 .mov [.cn (.bool false)]] (ZR [Zm 3 0,Zl 4 3,Zq 5 .gtr 4 512,Zm 2 5] .ret))⟩
theorem YA7:Yg YGc Tryz.f161=some v161:=by kernel_rfl
def v162:VF:=⟨6,[.tmp 2],(ZR [u1 2 .mov [.cn (.bool false)]] (ZR [Zm 3 0,Zc 4 163 3,u1 5 .not [.tm 4],Zm 2 5] .ret))⟩
theorem YA8:Yg YGc Tryz.f162=some v162:=by kernel_rfl
def v163:VF:=⟨20,[.tmp 2],(ZR [u1 2 .mov [.cn (.bool false)]] (ZR [Zm 3 0,Zl 4 3,Zq 5 .leq 4 512,Zm 6 5,Zg 7 6 true 0,u2 8 6 true .len [.tm 7],u2 9 6 true (.cmp .eql) [.tm 8,.cn (.int .i64 0)],Zg 10 6 true 9,Zg 11 10 false 0,Zg 12 10 false 0,u2 13 10 false .len [.tm 12],u2 14 10 false (.ari .sub) [.tm 13,.cn (.int .i64 1)],u2 15 10 false (.idxAddr 1) [.tm 11,.tm 14],Zh 16 10 false 1 15,u2 17 10 false (.cmp .neq) [.tm 16,.cn (.int .u32 0)],u2 18 6 true .or [.tm 10,.tm 17],u1 19 .and [.tm 6,.tm 18],Zm 2 19] .ret))⟩
theorem YA9:Yg YGc Tryz.f163=some v163:=by kernel_rfl
def v157:VF:=⟨9,[.tmp 2,.tmp 3],(ZR [u1 2 .mov [.cn .nil],Zi 3 0] (.seq (ZR [Zm 4 0,Zl 5 4,Zq 6 .gtr 5 512] (ZC 6 (ZR [u1 2 .mov [.cn .nil],Zi 3 3] .ret) .skip)) (ZR [Zm 7 0,Zc 8 168 7,Zm 2 8,Zi 3 0] .ret)))⟩
theorem YA3:Yg YGc Tryz.f157=some v157:=by kernel_rfl
def v129:VF:=⟨17,[.tmp 4,.tmp 5],(ZR [Zi 4 0,Zi 5 0] (.seq (ZR [Zm 7 0,Zm 8 1,u1 9 (.buildSlice 1 2 [.nil] [(0,1),(1,1)]) [.tm 7,.tm 8],Zc 10 152 9,Zm 6 10] (ZR [Zm 11 6,Zq 12 .neq 11 0] (ZC 12 (ZR [Zm 13 6,Zi 4 0,Zm 5 13] .ret) .skip))) (ZR [Zm 14 0,Zm 15 1,Zd 16 153 14 15,Zm 4 16,Zi 5 0] .ret)))⟩
theorem YAE:Yg YGc Tryz.f129=some v129:=by kernel_rfl
def v155:VF:=⟨37,[.tmp 4,.tmp 5],(ZR [u1 4 .mov [.cn .nil],Zi 5 0] (ZR [Zm 7 0,u1 8 (.buildSlice 1 1 [.nil] [(0,1)]) [.tm 7],Zc 9 152 8,Zm 6 9] (.seq (.block 0 (ZR [Zm 11 6,Zq 12 .neq 11 0,Zm 10 12] (ZC 10 (ZR [Zm 13 6,u1 4 .mov [.cn .nil],Zm 5 13] .ret) (ZR [Zm 15 1,Zq 16 .lss 15 (-20000),Zm 17 16,Zg 18 17 false 1,u2 19 17 false (.cmp .gtr) [.tm 18,.cn (.int .i64 20000)],u1 20 .or [.tm 17,.tm 19],Zm 14 20] (ZC 14 (ZR [u1 4 .mov [.cn .nil],Zi 5 2] .ret) (ZR [Zm 22 1,Zq 23 .lss 22 0,Zm 21 23] (ZC 21 (ZR [Zm 24 0,Zm 25 1,u1 26 .neg [.tm 25],Zd 27 165 24 26,Zc 28 157 27,Ze 29 0 28,Ze 30 1 28,Zm 4 29,Zm 5 30] .ret) .skip))))))) (ZR [Zm 31 0,Zm 32 1,Zd 33 166 31 32,Zc 34 157 33,Ze 35 0 34,Ze 36 1 34,Zm 4 35,Zm 5 36] .ret))))⟩
theorem YA1:Yg YGc Tryz.f155=some v155:=by kernel_rfl
def v149:VF:=⟨20,[.tmp 4,.tmp 5],(ZR [u1 4 .mov [.cn .nil],Zi 5 0] (.seq (ZR [Zm 7 0,Zm 8 1,u1 9 (.buildSlice 1 2 [.nil] [(0,1),(1,1)]) [.tm 7,.tm 8],Zc 10 152 9,Zm 6 10] (ZR [Zm 11 6,Zq 12 .neq 11 0] (ZC 12 (ZR [Zm 13 6,u1 4 .mov [.cn .nil],Zm 5 13] .ret) .skip))) (ZR [Zm 14 0,Zm 15 1,Zd 16 156 14 15,Zc 17 157 16,Ze 18 0 17,Ze 19 1 17,Zm 4 18,Zm 5 19] .ret)))⟩
theorem YAV:Yg YGc Tryz.f149=some v149:=by kernel_rfl
def v150:VF:=⟨20,[.tmp 4,.tmp 5],(ZR [u1 4 .mov [.cn .nil],Zi 5 0] (.seq (ZR [Zm 7 0,Zm 8 1,u1 9 (.buildSlice 1 2 [.nil] [(0,1),(1,1)]) [.tm 7,.tm 8],Zc 10 152 9,Zm 6 10] (ZR [Zm 11 6,Zq 12 .neq 11 0] (ZC 12 (ZR [Zm 13 6,u1 4 .mov [.cn .nil],Zm 5 13] .ret) .skip))) (ZR [Zm 14 0,Zm 15 1,Zd 16 158 14 15,Zc 17 157 16,Ze 18 0 17,Ze 19 1 17,Zm 4 18,Zm 5 19] .ret)))⟩
theorem YAW:Yg YGc Tryz.f150=some v150:=by kernel_rfl
def v160:VF:=⟨9,[.tmp 4],(ZR [u1 4 .mov [.cn (.bool false)]] (ZR [Zm 5 0,Zm 6 1,Zd 7 169 5 6,Zq 8 .geq 7 0,Zm 4 8] .ret))⟩
theorem YA6:Yg YGc Tryz.f160=some v160:=by kernel_rfl
def v169:VF:=⟨19,[.tmp 4],(ZR [Zi 4 0] (.seq (ZR [Zm 6 0,Zl 7 6,Zi 8 0] (.block 0 (.loop (ZR [Zr 9 .lss 8 7] (.seq (ZC 9 .skip (.exit 0)) (.seq (.block 1 (ZR [Zm 10 8,Zm 5 10] (ZR [Zm 11 1,Zm 12 0,Zm 13 5,Zx 14 1 12 13,Zf 15 1 14,u1 16 .callv [.tm 11,.tm 15]] (ZC 16 (ZR [Zm 17 5,Zm 4 17] .ret) .skip)))) (.region [Zp 18 8 1,Zm 8 18]))))))) (ZR [Zi 4 (-1)] .ret)))⟩
theorem YBe:Yg YGc Tryz.f169=some v169:=by kernel_rfl
def v168:VF:=⟨8,[.tmp 2],(ZR [u1 2 .mov [.cn .nil]] (.seq (ZR [Zm 3 0,u1 4 (.isNil false) [.tm 3,.cn .nil]] (ZC 4 (ZR [u1 2 .mov [.cn .nil]] .ret) .skip)) (ZR [u1 5 (.buildSlice 1 0 [(.int .u32 0)] []) [],Zm 6 0,u1 7 (.append 1 4 [(.int .u32 0)]) [.tm 5,.tm 6],Zm 2 7] .ret)))⟩
theorem YBd:Yg YGc Tryz.f168=some v168:=by kernel_rfl
def wvalC:Ctr:={ alias:=false,of:=fun l=>match l with
 | [.vs _ _ n sz get]=> .ex Nat fun a=> .pre (padP a n sz get/\n=nl a/\n<=512) (.fin (.bool true) [])
 |_=>noC}
def capF(a:Nat):Nat:=if nl a<=512 then a else 0
def capE(a:Nat):Int:=if nl a<=512 then 0 else 3
def resC:Ctr:={ alias:=false,of:=fun l=>match l with
 | [.vs _ z n sz get]=> .ex Nat fun a=> .pre (padP a n sz get/\n=nl a/\(z=true->n=0)) (.all Bool fun y=> .fin (.tup [natS y (capF a),.int .i64 (capE a)]) [])
 |_=>noC}
def natI(z:Bool)(a:Nat):SV:= .vs false z (nl a) 1 (fun k=>[.int .u32 (dig a k)])
def wchkC:Ctr:={ alias:=false,of:=fun l=>match l with
 | [.vs _ _ n sz get]=> .ex (List (Bool×Nat)) fun l=> .pre (lsP 1 (fun x=>[natI x.1 x.2]) n sz get l/\(∀x,x∈l->nl x.2<=512)/\n<=100) (.fin (.int .i64 0) [])
 |_=>noC}
def WD3:Env:={ ct:=fun _=>none,fn:=fun _=>none,meth:=fun _ _=>none}
theorem YBZ:Yq YGc WD3:=by
 refine⟨fun f c h=>?_,fun f vf h=>?_,(fun _ _ _ h=>by cases h),by kernel_rfl,(fun _ h=>by cases h)⟩
 ·cases h
 ·cases h
theorem Ys7:wvalC.ok YGc 163:=by
 refine Yb Tryz.func163 YA9 YBZ 200 wvalC fun args k h=>?_
 simp only[wvalC]at h
 split at h
 ·rename_i tt z n sz get
  obtain⟨a,⟨⟨rfl,hn,ha,hg⟩,hna,hn5⟩,h⟩:=h
  refine⟨[.vs tt z n 1 (fun k=>[.int .u32 (dig a k)])],by simpa [leL,le]using hg,?_⟩
  dsimp only[v163,go_sem,reduceIte]
  simp only[Yc,YGa,YF9,reduceCtorEq,YF8]
  refine⟨fun hb=>?_,fun c1 c2=>by rw[decide_eq_true c1,decide_eq_false c2];rfl,?_⟩
  ·rw[YGi,decide_eq_true_eq]at hb
   have h0:¬((n:Int)=0):=fun e=>by rw[decide_eq_true e]at hb;simp at hb
   rw[Yn (by omega) (by omega)]
   omega
  ·rw[decide_eq_true (by omega:(n:Int)<=512),YHq]
   have:(decide ((n:Int)=0) || !decide (((dig a (IntKind.i64.wrap ((n:Int)-1)).toNat:Nat):Int)=0))=true:=by
    rcases YGI n with h0|h0
    ·simp [h0]
    ·have ht:=YnD (a:=a) (fun e=>by rw[e,nl_0]at hna;omega)
     rw[Yn h0 (by omega),YGb,hna,decide_eq_false (by omega:¬(((dig a (nl a-1):Nat):Int)=0))]
     simp
   rw[this]
   exact YK h
 ·exact h.1.elim
def WD4:Env:={ ct:=fun _=>none,fn:=fun n=>match n with|168=>some v168|_=>none,meth:=fun _ _=>none}
theorem YpK:WD4.ct 168=none:=rfl
theorem YpL:WD4.fn 168=some v168:=rfl
theorem YB0:Yq YGc WD4:=by
 refine⟨fun f c h=>?_,fun f vf h=>?_,(fun _ _ _ h=>by cases h),by kernel_rfl,(fun _ h=>by cases h)⟩
 ·cases h
 ·simp only[WD4]at h
  split at h
  ·cases h;exact⟨Tryz.f168,Tryz.func168,YBd,Tryz.f168,Tryz.func168,by kernel_rfl,by kernel_rfl⟩
  ·cases h
theorem YmR{k:SV->List HO->Prop}{al:Bool}{hp:List HO}{e:Int}(h:k (.tup [natS true 0,.int .i64 e]) []):YD al k (.tup [.nil,.int .i64 e]) hp:=
 YC (show k _ []from h) (by simp [natS,nl_0,expo,view,Ybu,le,leL]) (fun _=>by simp [natS,Yl,Ym])
theorem YBm:resC.ok YGc 157:=by
 refine Yb Tryz.func157 YA3 YB0 200 resC fun args k h=>?_
 simp only[resC]at h
 split at h
 ·rename_i tt z n sz get
  obtain⟨a,⟨⟨rfl,hn,ha,hg⟩,hna,hz0⟩,h⟩:=h
  refine⟨[.vs tt z n 1 (fun k=>[.int .u32 (dig a k)])],by simpa [leL,le]using hg,?_⟩
  dsimp only[v157,YpK,YpL,v168,go_sem,reduceIte]
  simp only[Yc,YGa,YF9,reduceCtorEq,YF8]
  refine⟨fun hc=>?_,fun hc=>⟨fun hz=>?_,fun hz=>⟨by decide,by unfold YP;omega,?_⟩⟩⟩
  ·have h:k (.tup [natS true (capF a),.int .i64 (capE a)]) []:=h true
   rw[capF,capE,if_neg (by omega),if_neg (by omega)]at h
   exact YmR h
  ·have h:k (.tup [natS true (capF a),.int .i64 (capE a)]) []:=h true
   have:a=0:=nl_eq0.1 (by have:=hz0 hz;omega)
   rw[this]at h
   exact YmR h
  ·have h:k (.tup [natS (false&&decide (n=0)) (capF a),.int .i64 (capE a)]) []:=h _
   rw[capF,capE,if_pos (by omega),if_pos (by omega)]at h
   refine YC h ?_ (fun _=>by simp [natS,Yl,Ym])
   have e:expo [HO.own (false&&decide (n=0)) 1 (0+n) fun k=>if k<0 then Yj 0 (YL 1 (YG (k*1) []))else [SV.int IntKind.u32 ((dig a (k-0):Nat):Int)]] (SV.tup [SV.own 0 0 (0+n) 1,SV.int IntKind.i64 0])= .tup [.vs true (false&&decide (n=0)) (0+n) 1 (fun k=>[.int .u32 (dig a k)]),.int .i64 0]:=by
    simp [expo,view,Ybu,viewN,getH,Ylw]
   rw[e,YHu,hna]
   exact Yv _ ⟨trivial,trivial,trivial⟩
 ·exact h.1.elim
def WD5:Env:={ ct:=fun n=>match n with|163=>some wvalC|_=>none,fn:=fun n=>match n with|160=>some v160|169=>some v169|161=>some v161|162=>some v162|_=>none,meth:=fun _ _=>none}
theorem Yj3:WD5.ct 163=some wvalC:=rfl
theorem Yj2:WD5.ct 160=none:=rfl
theorem Yj5:WD5.fn 160=some v160:=rfl
theorem Yj4:WD5.ct 169=none:=rfl
theorem Yj6:WD5.fn 169=some v169:=rfl
theorem YpM:WD5.ct 161=none:=rfl
theorem YpO:WD5.fn 161=some v161:=rfl
theorem YpN:WD5.ct 162=none:=rfl
theorem YpP:WD5.fn 162=some v162:=rfl
theorem YB1:Yq YGc WD5:=by
 refine⟨fun f c h=>?_,fun f vf h=>?_,(fun _ _ _ h=>by cases h),by kernel_rfl,(fun _ h=>by cases h)⟩
 ·simp only[WD5]at h
  split at h
  ·cases h;exact⟨Ys7,Tryz.f163,Tryz.func163,by kernel_rfl,by kernel_rfl⟩
  ·cases h
 ·simp only[WD5]at h
  split at h
  ·cases h;exact⟨Tryz.f160,Tryz.func160,YA6,Tryz.f160,Tryz.func160,by kernel_rfl,by kernel_rfl⟩
  ·cases h;exact⟨Tryz.f169,Tryz.func169,YBe,Tryz.f169,Tryz.func169,by kernel_rfl,by kernel_rfl⟩
  ·cases h;exact⟨Tryz.f161,Tryz.func161,YA7,Tryz.f161,Tryz.func161,by kernel_rfl,by kernel_rfl⟩
  ·cases h;exact⟨Tryz.f162,Tryz.func162,YA8,Tryz.f162,Tryz.func162,by kernel_rfl,by kernel_rfl⟩
  ·cases h
theorem YBk:wchkC.ok YGc 152:=by
 refine Yb Tryz.func152 YAY YB1 400 wchkC fun args k h=>?_
 simp only[wchkC]at h
 split at h
 ·rename_i tt z n sz get
  obtain⟨l,⟨⟨rfl,rfl,hg⟩,hl,hn⟩,h⟩:=h
  refine⟨[.vs tt z l.length 1 (fun k=>[natI (l.getD k default).1 (l.getD k default).2])],by simpa [leL,le]using hg,?_⟩
  dsimp only[v152,Yj2,Yj5,v160,Yj4,Yj6,v169,go_sem,reduceIte]
  simp only[Yc,YGa,YF9,reduceCtorEq,YF8]
  refine Loop.keep [0,0,2,1,0] Nat (fun i=>[(8,.int .i64 i)]) (fun _=>[]) [] (fun i=>i<=l.length) (fun i=>l.length-i) ?_ ?_
  ·refine⟨0,by omega,?_⟩
   dsimp only[go_sem,reduceIte]
   simp only[Ya]
   try simp
  ·rintro i hi
   dsimp only[YpM,YpO,v161,Yj3,wvalC,natI,YGb,go_sem,reduceIte]
   simp only[Yc,YGa,YF9,reduceCtorEq,YF8]
   have h5:∀i,i<l.length->nl (l.getD i default).2<=512:=fun i hi=>hl _ (Yk hi)
   refine⟨fun hlt=>⟨⟨by omega,by omega⟩,fun hc=>?_,fun hc=>⟨i+1,by omega,by omega,?_⟩⟩,fun hge=>?_⟩
   ·have:=h5 i (by omega);omega
   ·rw[YGd ((i:Int)+1) (by omega)]
    simp only[Ya]
    simp
   ·dsimp only[Yj2,Yj5,v160,Yj4,Yj6,v169,go_sem,reduceIte]
    simp only[Yc,YGa,YF9,reduceCtorEq,YF8]
    refine⟨fun hh=>absurd hh (by decide),fun _=>?_⟩
    refine Loop.keep [0,0,2,1,0] Nat (fun i=>[(8,.int .i64 i)]) (fun _=>[]) [] (fun i=>i<=l.length) (fun i=>l.length-i) ?_ ?_
    ·refine⟨0,by omega,?_⟩
     dsimp only[go_sem,reduceIte]
     simp only[Ya]
     try simp
    ·rintro i hi
     dsimp only[YpN,YpP,v162,Yj3,wvalC,natI,YGb,go_sem,reduceIte]
     simp only[Yc,YGa,YF9,reduceCtorEq,YF8]
     have h5:∀i,i<l.length->nl (l.getD i default).2<=512:=fun i hi=>hl _ (Yk hi)
     refine⟨fun hlt=>?_,fun hge=>⟨fun hneg=>absurd hneg (by decide),fun _=>Yf h⟩⟩
     ·have:=h5 i (by omega)
      refine⟨⟨by omega,by omega⟩,_,⟨Ye (by omega),rfl,this⟩,i+1,by omega,by omega,?_⟩
      rw[YGd ((i:Int)+1) (by omega)]
      simp only[Ya]
      try simp
 ·exact h.1.elim
def okW(a n sz:Nat)(get:Nat->List SV):Prop:=padP a n sz get/\n=nl a/\n<=512
def wCmpC:Ctr:={ alias:=false,of:=fun l=>match l with
 | [.vs _ z n sz get,.vs _ z' m sz' get']=> .ex Nat fun a=> .ex Nat fun b=> .pre (okW a n sz get/\okW b m sz' get') (.fin (.tup [.int .i64 (ordN a b),.int .i64 0]) [])
 |_=>noC}
def wAddC:Ctr:={ alias:=false,of:=fun l=>match l with
 | [.vs _ z n sz get,.vs _ z' m sz' get']=> .ex Nat fun a=> .ex Nat fun b=> .pre (okW a n sz get/\okW b m sz' get') (.all Bool fun y=> .fin (.tup [natS y (capF (a+b)),.int .i64 (capE (a+b))]) [])
 |_=>noC}
def wMulC:Ctr:={ alias:=false,of:=fun l=>match l with
 | [.vs _ z n sz get,.vs _ z' m sz' get']=> .ex Nat fun a=> .ex Nat fun b=> .pre (okW a n sz get/\okW b m sz' get') (.all Bool fun y=> .fin (.tup [natS y (capF (a*b)),.int .i64 (capE (a*b))]) [])
 |_=>noC}
def shF(a:Nat)(d:Int):Nat:=if d<0 then a/2^(-d).toNat else a*2^d.toNat
def wShiftC:Ctr:={ alias:=false,of:=fun l=>match l with
 | [.vs _ z n sz get,.int .i64 d]=> .ex Nat fun a=> .pre (okW a n sz get/\ -20000<=d/\d<=20000) (.all Bool fun y=> .fin (.tup [natS y (capF (shF a d)),.int .i64 (capE (shF a d))]) [])
 |_=>noC}
def WD6:Env:={ ct:=fun n=>match n with|152=>some wchkC|157=>some resC|153=>some wcmpC|156=>some plusC|158=>some wtimC|166=>some wupC|165=>some wdownC|_=>none,fn:=fun _=>none,meth:=fun _ _=>none}
theorem YeO:WD6.ct 152=some wchkC:=rfl
theorem Ygy:WD6.ct 157=some resC:=rfl
theorem YpQ:WD6.ct 153=some wcmpC:=rfl
theorem YpR:WD6.ct 156=some plusC:=rfl
theorem YpS:WD6.ct 158=some wtimC:=rfl
theorem YpU:WD6.ct 166=some wupC:=rfl
theorem YpT:WD6.ct 165=some wdownC:=rfl
theorem YmP:Yq YGc WD6:=by
 refine⟨fun f c h=>?_,fun f vf h=>?_,(fun _ _ _ h=>by cases h),by kernel_rfl,(fun _ h=>by cases h)⟩
 ·simp only[WD6]at h
  split at h
  ·cases h;exact⟨YBk,Tryz.f152,Tryz.func152,by kernel_rfl,by kernel_rfl⟩
  ·cases h;exact⟨YBm,Tryz.f157,Tryz.func157,by kernel_rfl,by kernel_rfl⟩
  ·cases h;exact⟨YBl,Tryz.f153,Tryz.func153,by kernel_rfl,by kernel_rfl⟩
  ·cases h;exact⟨YvA,Tryz.f156,Tryz.func156,by kernel_rfl,by kernel_rfl⟩
  ·cases h;exact⟨Ys6,Tryz.f158,Tryz.func158,by kernel_rfl,by kernel_rfl⟩
  ·cases h;exact⟨YF6,Tryz.f166,Tryz.func166,by kernel_rfl,by kernel_rfl⟩
  ·cases h;exact⟨Yvz,Tryz.f165,Tryz.func165,by kernel_rfl,by kernel_rfl⟩
  ·cases h
 ·cases h
theorem YgB{k:SV->List HO->Prop}{al:Bool}{hp:List HO}{κ κ':IntKind}{x y:Int}(h:k (.tup [.int κ x,.int κ' y]) []):YD al k (.tup [.int κ x,.int κ' y]) hp:=
 YC (show k _ []from h) (Yv (.tup [.int κ x,.int κ' y]) ⟨trivial,trivial,trivial⟩) (fun _=>by simp [Yl,Ym])
theorem Ymg{t1 z1 t2 z2:Bool}{a b:Nat}{hp:List HO}{r:List SV->List SV}:lsP 1 (fun x:Bool×Nat=>[natI x.1 x.2]) 2 1 (fun k=>Ybu false hp r (YL 1 (YG (k*1) [SV.vs t1 z1 (nl a) 1 fun k=>[SV.int IntKind.u32 (dig a k)],SV.vs t2 z2 (nl b) 1 fun k=>[SV.int IntKind.u32 (dig b k)]]))) [(z1,a),(z2,b)]:=
 ⟨rfl,rfl,fun k hk=>match k,hk with
   |0,_=>by refine⟨?_,trivial⟩;exact⟨fun h=>(by cases h),rfl,rfl,rfl,fun j _=>Yd _⟩
   |1,_=>by refine⟨?_,trivial⟩;exact⟨fun h=>(by cases h),rfl,rfl,rfl,fun j _=>Yd _⟩⟩
theorem Yy2{t1 z1:Bool}{a:Nat}{hp:List HO}{r:List SV->List SV}:lsP 1 (fun x:Bool×Nat=>[natI x.1 x.2]) 1 1 (fun k=>Ybu false hp r (YL 1 (YG (k*1) [SV.vs t1 z1 (nl a) 1 fun k=>[SV.int IntKind.u32 (dig a k)]]))) [(z1,a)]:=
 ⟨rfl,rfl,fun k hk=>match k,hk with
   |0,_=>by refine⟨?_,trivial⟩;exact⟨fun h=>(by cases h),rfl,rfl,rfl,fun j _=>Yd _⟩⟩
theorem Ymf{z1 z2:Bool}{a b:Nat}(h1:nl a<=512)(h2:nl b<=512):∀x:Bool×Nat,x∈ [(z1,a),(z2,b)]->nl x.2<=512:=by simp [h1,h2]
theorem Yy1{z1:Bool}{a:Nat}(h1:nl a<=512):∀x:Bool×Nat,x∈ [(z1,a)]->nl x.2<=512:=by simp [h1]
theorem YmT{k:SV->List HO->Prop}{al:Bool}{hp:List HO}{z:Bool}{a:Nat}{e:Int}(h:k (.tup [natS z a,.int .i64 e]) []):YD al k (.tup [natS z a,.int .i64 e]) hp:=
 YC (show k _ []from h) (Yv _ ⟨trivial,trivial,trivial⟩) (fun _=>by simp [natS,Yl,Ym])
theorem YBi:wCmpC.ok YGc 129:=by
 refine Yb Tryz.func129 YAE YmP 200 wCmpC fun args k h=>?_
 simp only[wCmpC]at h
 split at h
 ·rename_i t1 z1 n sz get t2 z2 m sz' get'
  obtain⟨a,b,⟨⟨⟨rfl,hn,ha,hg⟩,hna,hn5⟩,⟨rfl,hm,hb,hg'⟩,hmb,hm5⟩,h⟩:=h
  refine⟨[.vs t1 z1 n 1 (fun k=>[.int .u32 (dig a k)]),.vs t2 z2 m 1 (fun k=>[.int .u32 (dig b k)])],⟨by simpa [le]using hg,by simpa [le]using hg',trivial⟩,?_⟩
  dsimp only[v129,YeO,YpQ,wchkC,wcmpC,go_sem,reduceIte]
  simp only[Yc,YGa,YF9,reduceCtorEq,YF8]
  subst hna hmb
  refine⟨by decide,_,⟨Ymg,Ymf hn5 hm5⟩,fun hh=>absurd trivial hh,a,b,⟨Ye hn,Ye hm,rfl,rfl⟩,YgB h⟩
 ·exact h.1.elim
theorem YrT{a b n:Nat}(h1:nl a<=n)(h2:nl b<=n):nl (a+b)<=n+1:=by
 have h1:=nl_le.1 h1
 have h2:=nl_le.1 h2
 rw[nl_le,Yy]
 generalize(4294967296:Nat)^n=P at*
 omega
theorem YrU{a b n m:Nat}(h1:nl a<=n)(h2:nl b<=m):nl (a*b)<=n+m:=by
 have h1:=nl_le.1 h1
 have h2:=nl_le.1 h2
 rw[nl_le,YGo]
 exact Nat.mul_lt_mul_of_lt_of_le h1 (YHn h2) (Yp _)
theorem YrV{a e n m k:Nat}(h1:nl a<=n)(he:e<=32*m)(hk:n+m<=k):nl (a*2^e)<=k:=by
 have h1:=nl_le.1 h1
 refine nl_le.2 ?_
 have h2:(2:Nat)^e<=4294967296^m:=by rw[Ycs];exact YGs (by decide) he
 refine YGV (Nat.mul_lt_mul_of_lt_of_le h1 h2 (Yp _)) ?_
 rw[<-YGo]
 exact YGs (by decide) hk
theorem YBh:wAddC.ok YGc 149:=by
 refine Yb Tryz.func149 YAV YmP 200 wAddC fun args k h=>?_
 simp only[wAddC]at h
 split at h
 ·rename_i t1 z1 n sz get t2 z2 m sz' get'
  obtain⟨a,b,⟨⟨⟨rfl,hn,ha,hg⟩,hna,hn5⟩,⟨rfl,hm,hb,hg'⟩,hmb,hm5⟩,h⟩:=h
  refine⟨[.vs t1 z1 n 1 (fun k=>[.int .u32 (dig a k)]),.vs t2 z2 m 1 (fun k=>[.int .u32 (dig b k)])],⟨by simpa [le]using hg,by simpa [le]using hg',trivial⟩,?_⟩
  dsimp only[v149,YeO,YpR,Ygy,wchkC,plusC,resC,natS,go_sem,reduceIte]
  simp only[Yc,YGa,YF9,reduceCtorEq,YF8]
  subst hna hmb
  have hs:nl (a+b)<=513:=YrT hn5 hm5
  refine⟨by decide,_,⟨Ymg,Ymf hn5 hm5⟩,fun hh=>absurd trivial hh,a,b,⟨Ye hn,Ye hm,by omega,by omega⟩,a+b,⟨Ye (by omega),rfl⟩,fun y=>?_⟩
  refine⟨by decide,by decide,?_⟩
  exact YmT (show k (.tup [natS y (capF (a+b)),.int .i64 (capE (a+b))]) []from h y)
 ·exact h.1.elim
theorem YBj:wMulC.ok YGc 150:=by
 refine Yb Tryz.func150 YAW YmP 200 wMulC fun args k h=>?_
 simp only[wMulC]at h
 split at h
 ·rename_i t1 z1 n sz get t2 z2 m sz' get'
  obtain⟨a,b,⟨⟨⟨rfl,hn,ha,hg⟩,hna,hn5⟩,⟨rfl,hm,hb,hg'⟩,hmb,hm5⟩,h⟩:=h
  refine⟨[.vs t1 z1 n 1 (fun k=>[.int .u32 (dig a k)]),.vs t2 z2 m 1 (fun k=>[.int .u32 (dig b k)])],⟨by simpa [le]using hg,by simpa [le]using hg',trivial⟩,?_⟩
  dsimp only[v150,YeO,YpS,Ygy,wchkC,wtimC,resC,natS,go_sem,reduceIte]
  simp only[Yc,YGa,YF9,reduceCtorEq,YF8]
  subst hna hmb
  have hs:nl (a*b)<=1024:=YrU (n:=512) (m:=512) hn5 hm5
  refine⟨by decide,_,⟨Ymg,Ymf hn5 hm5⟩,fun hh=>absurd trivial hh,a,b,⟨Ye hn,Ye hm,by omega⟩,a*b,⟨Ye (by omega),rfl⟩,fun y=>?_⟩
  refine⟨by decide,by decide,?_⟩
  exact YmT (show k (.tup [natS y (capF (a*b)),.int .i64 (capE (a*b))]) []from h y)
 ·exact h.1.elim
theorem Yln:wShiftC.ok YGc 155:=by
 refine Yb Tryz.func155 YA1 YmP 200 wShiftC fun args k h=>?_
 simp only[wShiftC]at h
 split at h
 ·rename_i t1 z1 n sz get d
  obtain⟨a,⟨⟨⟨rfl,hn,ha,hg⟩,hna,hn5⟩,hd0,hd1⟩,h⟩:=h
  refine⟨[.vs t1 z1 n 1 (fun k=>[.int .u32 (dig a k)]),.int .i64 d],⟨by simpa [le]using hg,⟨rfl,rfl⟩,trivial⟩,?_⟩
  dsimp only[v155,YeO,YpU,YpT,Ygy,wchkC,wupC,wdownC,resC,natS,go_sem,reduceIte]
  simp only[Yc,YGa,YF9,reduceCtorEq,YF8]
  subst hna
  refine⟨by decide,_,⟨Yy2,Yy1 hn5⟩,fun hh=>absurd trivial hh,fun hb=>?_,fun _=>⟨fun hneg=>?_,fun hpos=>?_⟩⟩
  ·rw[YG6,decide_eq_true_eq,decide_eq_true_eq]at hb
   omega
  ·obtain⟨e,he⟩:∃e:Nat,e=(-d).toNat:=⟨_,rfl⟩
   have e1:IntKind.i64.wrap (0-d)=(e:Int):=by rw[he,YGd _ (by omega)];omega
   rw[e1]
   have hdl:nl (a/2^e)<=512:=YGg (YbF (YHm _ _)) hn5
   refine⟨a,e,⟨Ye hn,by omega,rfl,by omega⟩,fun z=>⟨a/2^e,⟨Ye (by omega),rfl,fun hz=>?_⟩,fun y=>⟨by decide,by decide,?_⟩⟩⟩
   ·rw[YGi,decide_eq_true_eq]at hz
    rw[hz.2,nl_0]
   ·have h:k (.tup [natS y (capF (shF a d)),.int .i64 (capE (shF a d))]) []:=h y
    rw[shF,if_pos hneg,<-he]at h
    exact YmT h
  ·obtain⟨e,he⟩:∃e:Nat,e=d.toNat:=⟨_,rfl⟩
   have hde:d=(e:Int):=by omega
   have hdl:nl (a*2^e)<=2000:=YrV (n:=512) (m:=626) hn5 (by omega) (by decide)
   refine⟨a,e,⟨Ye hn,rfl,by omega,hde,by omega⟩,fun z=>⟨a*2^e,⟨Ye (by omega),rfl,fun hz=>?_⟩,fun y=>⟨by decide,by decide,?_⟩⟩⟩
   ·rw[YGi,decide_eq_true_eq]at hz
    rw[hz.2,nl_0]
   ·have h:k (.tup [natS y (capF (shF a d)),.int .i64 (capE (shF a d))]) []:=h y
    rw[shF,if_neg hpos,<-he]at h
    exact YmT h
 ·exact h.1.elim
def v143:VF:=⟨36,[.tmp 4],(ZR [u1 4 .mov [.cn .nil]] (ZR [u1 5 .mov [.cn .nil]] (ZR [u1 6 .mov [.cn (.int .u64 0)]] (.seq (ZR [Zi 7 0] (.block 0 (.loop (.seq (ZR [Zm 9 7,Zm 10 0,Zl 11 10,Zr 12 .lss 9 11] (ZC 12 .skip (.exit 0))) (.seq (.block 1 (ZR [Zm 15 0,Zm 16 7,Zd 17 117 15 16,u1 18 (.ari .add) [.cn (.int .u64 4294967296),.tm 17],Zm 19 1,Zm 20 7,Zd 21 117 19 20,Zo 22 .sub 18 21,Zm 23 6,Zo 24 .sub 22 23,Zm 8 24] (ZR [Zm 25 5,Zm 26 8,u1 27 .rem [.tm 26,.cn (.int .u64 4294967296)],u1 28 (.conv .u32) [.tm 27],u1 29 (.buildSlice 1 1 [(.int .u32 0)] [(0,1)]) [.tm 28],u1 30 (.append 1 4 [(.int .u32 0)]) [.tm 25,.tm 29],Zm 5 30] (.region [Zm 31 8,u1 32 .quo [.tm 31,.cn (.int .u64 4294967296)],u1 33 (.ari .sub) [.cn (.int .u64 1),.tm 32],Zm 6 33])))) (.region [Zm 13 7,Zp 14 13 1,Zm 7 14])))))) (ZR [Zm 34 5,Zc 35 113 34,Zm 4 35] .ret)))))⟩
theorem YAR:Yg YGc Tryz.f143=some v143:=by kernel_rfl
def v90:VF:=⟨59,[.tmp 4],(ZR [u1 4 .mov [.cn .nil]] (ZR [Zm 10 0,Zl 11 10,Zm 12 1,Zl 13 12,Zo 14 .add 11 13,Zp 15 14 1,u1 16 (.make 1 4 [(.int .u32 0)]) [.tm 15,.tm 15],Zm 5 16] (.seq (ZR [Zi 6 0] (.block 0 (.loop (.seq (ZR [Zm 17 6,Zm 18 0,Zl 19 18,Zr 20 .lss 17 19] (ZC 20 .skip (.exit 0))) (.seq (.block 1 (ZR [u1 7 .mov [.cn (.int .u64 0)]] (ZR [Zi 8 0] (.block 2 (.loop (.seq (ZR [Zm 23 8,Zm 24 1,Zl 25 24,Zp 26 25 1,Zr 27 .lss 23 26] (ZC 27 .skip (.exit 2))) (.seq (.block 3 (.seq (.draw [] [Zu 30 5,Zu 31 6,Zu 32 8,w1 33 (.ari .add) [.tm 31,.tm 32],ZX 34 1 30 33,Zv 35 1 34,w1 36 (.conv .u64) [.tm 35],Zu 37 0,Zu 38 6,Zu 40 1,Zu 41 8,Zu 45 7,Zz 39 117 37 38,Zz 42 117 40 41,w1 43 (.ari .mul) [.tm 39,.tm 42],w1 44 (.ari .add) [.tm 36,.tm 43],w1 46 (.ari .add) [.tm 44,.tm 45],Zu 9 46]) (ZR [Zm 47 5,Zm 48 6,Zm 49 8,Zo 50 .add 48 49,Zm 51 9,u1 52 .rem [.tm 51,.cn (.int .u64 4294967296)],u1 53 (.conv .u32) [.tm 52],Zx 54 1 47 50,Zs 1 54 53] (.region [Zm 55 9,u1 56 .quo [.tm 55,.cn (.int .u64 4294967296)],Zm 7 56])))) (.region [Zm 28 8,Zp 29 28 1,Zm 8 29])))))))) (.region [Zm 21 6,Zp 22 21 1,Zm 6 22])))))) (ZR [Zm 57 5,Zc 58 113 57,Zm 4 58] .ret))))⟩
theorem YFU:Yg YGc Tryz.f90=some v90:=by kernel_rfl
def minusC:Ctr:={ alias:=false,of:=fun l=>match l with
 | [.vs _ _ n sz get,.vs _ _ m sz' get']=> .ex Nat fun a=> .ex Nat fun b=> .pre (padP a n sz get/\padP b m sz' get'/\b<=a) (.fin (natS false (a-b)) [])
 |_=>noC}
def timesC:Ctr:={ alias:=false,of:=fun l=>match l with
 | [.vs _ _ n sz get,.vs _ _ m sz' get']=> .ex Nat fun a=> .ex Nat fun b=> .pre (padP a n sz get/\padP b m sz' get'/\n+m<=99999) (.fin (natS false (a*b)) [])
 |_=>noC}
theorem YnA:minusC.ok YGc 143:=by
 refine Yb Tryz.func143 YAR Yit 200 minusC fun args k h=>?_
 simp only[minusC]at h
 split at h
 ·rename_i t1 z1 n sz get t2 z2 m sz' get'
  obtain⟨a,b,⟨⟨rfl,hn,ha,hg⟩,⟨rfl,hm,hb,hg'⟩,hba⟩,h⟩:=h
  refine⟨[.vs t1 z1 n 1 (fun k=>[.int .u32 (dig a k)]),.vs t2 z2 m 1 (fun k=>[.int .u32 (dig b k)])],⟨by simpa [le]using hg,by simpa [le]using hg',trivial⟩,?_⟩
  (try dsimp only[v143,go_sem,reduceIte])
  (try simp only[Yc,YGa,YF9,reduceCtorEq,YF8])
  refine Loop.keep [0,0,3,0,0] Nat (fun i=>[(5,.own 0 0 i 1),(6,.int .u64 (cy b (a-b) i)),(7,.int .i64 i)]) (fun i=>[(0,.own (decide (i=0)) 1 i (fun k=>[.int .u32 (dig (a-b) k)]))]) [.gone] (fun i=>i<=n) (fun i=>n-i) ?_ ?_
  ·refine⟨0,by omega,?_⟩
   (try dsimp only[go_sem,reduceIte])
   simp only[Ya]
   simp [cy_0]
  ·rintro i hi
   (try dsimp only[YdE,YdD,limbC,trimC,natS,YGb,go_sem,reduceIte])
   (try simp only[Yc,YGa,YF9,reduceCtorEq,YF8])
   refine⟨fun hlt=>⟨a,⟨Yx hn ha,by omega⟩,b,⟨Yx hm hb,by omega⟩,by decide,by decide,?_⟩,fun hge=>⟨a-b,?_,?_⟩⟩
   ·have hd1:=YM a i
    have hd2:=YM b i
    have hd3:=YM (a-b) i
    have hc:=YiN b (a-b) i
    have hc2:=YiN b (a-b) (i+1)
    obtain⟨e1,e2,e3,e4⟩:=Yz4 hba i
    have f1:IntKind.u64.wrap (4294967296+(dig a i:Int))=((4294967296+dig a i:Nat):Int):=by rw[YGF _ (by omega)];simp
    rw[f1,YsU (by omega) (by omega),YsU (by omega) (by omega)]
    (try dsimp only[go_sem,reduceIte])
    (try simp only[Yc,YGa,YF9,reduceCtorEq,YF8])
    refine⟨⟨by unfold YP;omega,fun j hj=>?_⟩,by decide,i+1,by omega,by omega,?_⟩
    ·match j,hj with
     |0,_=>exact⟨rfl,trivial,trivial⟩
    ·have f2:∀q:Nat,q<=1->IntKind.u64.wrap (1-(q:Int))=((1-q:Nat):Int):=fun q hq=>by rw[YGF _ (by omega)];omega
     rw[Yoe,Yvv (by omega),f2 _ (by omega),e1,e2,YGd ((i:Int)+1) (by omega)]
     simp only[Ya]
     refine⟨by simp,by simp,fun j hj=>?_⟩
     rcases YGz j i with h'|h'
     ·rw[if_pos h'];simp only[leL,le,and_self]
     ·obtain rfl:j=i:=by omega
      rw[if_neg (Nat.lt_irrefl _),Nat.sub_self]
      simp only[Yj,YL,YG,leL,Nat.zero_mul,Yd7,refs,cond,le,and_self]
   ·obtain rfl:i=n:=by omega
    exact Yx hn (YGN (Nat.sub_le _ _) ha)
   ·exact Yaj (t:=true) h
 ·exact h.1.elim
theorem Yod:timesC.ok YGc 90:=by
 refine Yb Tryz.func90 YFU Yit 300 timesC fun args k h=>?_
 simp only[timesC]at h
 split at h
 ·rename_i t1 z1 n sz get t2 z2 m sz' get'
  obtain⟨a,b,⟨⟨rfl,hn,ha,hg⟩,⟨rfl,hm,hb,hg'⟩,hnm⟩,h⟩:=h
  refine⟨[.vs t1 z1 n 1 (fun k=>[.int .u32 (dig a k)]),.vs t2 z2 m 1 (fun k=>[.int .u32 (dig b k)])],⟨by simpa [le]using hg,by simpa [le]using hg',trivial⟩,?_⟩
  (try dsimp only[v90,go_sem,reduceIte])
  (try simp only[Yc,YGa,YF9,reduceCtorEq,YF8])
  have en:IntKind.i64.wrap (IntKind.i64.wrap ((n:Int)+(m:Int))+1)=((n+m+1:Nat):Int):=by
   rw[YGd ((n:Int)+m) (by omega),YGd _ (by omega)];omega
  rw[en]
  simp only[YGb]
  refine⟨⟨by decide,by omega,by unfold YP;omega⟩,?_⟩
  refine Loop.keep [0,0,3,0] Nat (fun i=>[(6,.int .i64 i)]) (fun i=>[(0,.own false 1 (n+m+1) (fun k=>[.int .u32 (dig ((a%4294967296^i)*b) k)]))]) [] (fun i=>i<=n) (fun i=>n-i) ?_ ?_
  ·refine⟨0,by omega,?_⟩
   (try dsimp only[go_sem,reduceIte])
   simp only[Ya]
   simp [Nat.mod_one,YbQ,leL,le]
  ·rintro i hi
   (try dsimp only[YdE,YdD,limbC,trimC,natS,YGb,go_sem,reduceIte])
   (try simp only[Yc,YGa,YF9,reduceCtorEq,YF8])
   refine⟨fun hlt=>?_,fun hge=>?_⟩
   ·refine Loop.keep [0,0,3,0,0,0] (Nat×Nat×Nat) (fun x=>[(7,.int .u64 x.2.2),(8,.int .i64 x.1)]) (fun x=>[(0,.own false 1 (n+m+1) (fun k=>[.int .u32 (dig x.2.1 k)]))]) [] (fun x=>x.1<=m+1/\x.2.2<4294967296/\x.2.1<4294967296^(n+m+1)/\x.2.1+x.2.2*4294967296^(i+x.1)=(a%4294967296^i)*b+dig a i*(b%4294967296^x.1)*4294967296^i) (fun x=>m+1-x.1) ?_ ?_
    ·refine⟨(0,(a%4294967296^i)*b,0),⟨by simp only;omega,by simp only;omega,?_,by simp [Nat.mod_one]⟩,?_⟩
     ·exact YrO hi ha hb
     ·(try dsimp only[go_sem,reduceIte])
      simp only[Ya]
      simp [leL,le]
    ·rintro⟨t,V,c⟩ ⟨ht,hc,hV,he⟩
     dsimp only at ht hc hV he
     (try dsimp only[YdE,YdD,limbC,trimC,natS,YGb,go_sem,reduceIte])
     (try simp only[Yc,YGa,YF9,reduceCtorEq,YF8])
     rw[YGd ((m:Int)+1) (by omega)]
     refine⟨fun hlt2=>?_,fun hge2=>?_⟩
     ·have w1:IntKind.i64.wrap ((i:Int)+(t:Int))=((i+t:Nat):Int):=by rw[YGd _ (by omega)];simp
      rw[w1]
      simp only[YGb]
      have hd0:=YM V (i+t)
      obtain⟨hb1,hb2⟩:=YkM hd0 (YM a i) (YM b t) hc
      have hs:=Yjp he
      refine⟨⟨by omega,by omega⟩,by omega,a,⟨Yx hn ha,by omega⟩,b,⟨Yx hm hb,by omega⟩,by decide,⟨by omega,by omega⟩,by omega,by decide,
       (t+1,setD V (i+t) ((dig V (i+t)+dig a i*dig b t+c)%4294967296),(dig V (i+t)+dig a i*dig b t+c)/4294967296),⟨by simp only;omega,hb2,YjD hV (YGJ _ (by decide)) (by omega),hs⟩,by simp only;omega,?_⟩
      rw[Ya7 (by omega:dig V (i+t)<18446744073709551616),Yll (by omega),Yea (by omega),Yea (by omega),Yoe,Yvv (by omega),YGd ((t:Int)+1) (by omega)]
      simp only[Ya]
      refine⟨by simp,fun j hj=>?_⟩
      rw[YcH (YGJ _ (by decide))]
      split <;> simp only[leL,le,and_self]
     ·obtain rfl:t=m+1:=by omega
      have hbm:b%4294967296^(m+1)=b:=YG3 (YGV hb (YGs (by decide) (by omega)))
      rw[hbm]at he
      have hrow:(a%4294967296^(i+1))*b=(a%4294967296^i)*b+dig a i*b*4294967296^i:=by
       rw[YaC,YGG,YGm,YGj (4294967296^i)]
      rw[<-hrow]at he
      have hlt3:(a%4294967296^(i+1))*b<4294967296^(i+(m+1)):=by
       have h1:=YGJ a (Yp (i+1))
       have h2:(a%4294967296^(i+1))*b<=(a%4294967296^(i+1))*4294967296^m:=YGk _ (YHn hb)
       have h3:(a%4294967296^(i+1))*4294967296^m<4294967296^(i+1)*4294967296^m:=Nat.mul_lt_mul_of_pos_right h1 (Yp m)
       rw[<-YGo,show i+1+m=i+(m+1)by omega]at h3
       omega
      obtain rfl:c=0:=by
       rcases YGI c with h0|h0
       ·exact h0
       ·have:1*4294967296^(i+(m+1))<=c*4294967296^(i+(m+1)):=YGf _ h0
        omega
      rw[Nat.zero_mul,YHi]at he
      refine⟨i+1,by omega,by omega,?_⟩
      rw[he,YGd ((i:Int)+1) (by omega)]
      simp only[Ya]
      simp [leL,le]
   ·obtain rfl:i=n:=by omega
    refine⟨a*b,?_,Yaj (t:=true) h⟩
    rw[YG3 ha]
    exact Yx (by omega) (by have:=YrO (YGr i) ha hb;rwa [YG3 ha]at this)
 ·exact h.1.elim
def v140:VF:=⟨25,[.tmp 2],(ZR [Zi 2 0] (.seq (ZR [Zm 5 0,Zl 6 5,Zq 7 .eql 6 0] (ZC 7 (ZR [Zi 2 0] .ret) .skip)) (.seq (.draw [] [Zu 8 0,w1 9 .len [.tm 8],w1 10 (.ari .sub) [.tm 9,.cn (.int .i64 1)],w1 11 (.ari .mul) [.cn (.int .i64 32),.tm 10],Zu 12 0,Zu 13 0,w1 14 .len [.tm 13],w1 15 (.ari .sub) [.tm 14,.cn (.int .i64 1)],ZX 16 1 12 15,Zv 17 1 16,Zu 3 11,Zu 4 17]) (.seq (.block 0 (.loop (.seq (ZR [Zm 18 4,u1 19 (.cmp .gtr) [.tm 18,.cn (.int .u32 0)]] (ZC 19 .skip (.exit 0))) (.block 1 (ZR [Zm 20 3,Zp 21 20 1,Zm 3 21] (.region [Zm 22 4,u1 23 .quo [.tm 22,.cn (.int .u32 2)],Zm 4 23])))))) (ZR [Zm 24 3,Zm 2 24] .ret)))))⟩
theorem YAO:Yg YGc Tryz.f140=some v140:=by kernel_rfl
def v142:VF:=⟨14,[.tmp 4],(ZR [u1 4 .mov [.cn (.int .u32 0)]] (ZR [Zm 5 0,Zm 6 1,u1 7 .quo [.tm 6,.cn (.int .i64 32)],Zx 8 1 5 7,Zf 9 1 8,Zm 10 1,u1 11 .rem [.tm 10,.cn (.int .i64 32)],u1 12 .shr [.tm 9,.tm 11],u1 13 (.bit .and) [.tm 12,.cn (.int .u32 1)],Zm 4 13] .ret))⟩
theorem YAQ:Yg YGc Tryz.f142=some v142:=by kernel_rfl
def v141:VF:=⟨39,[.tmp 4],(ZR [u1 4 .mov [.cn .nil]] (ZR [Zm 7 0,Zl 8 7,Zp 9 8 1,u1 10 (.make 1 4 [(.int .u32 0)]) [.tm 9,.tm 9],Zm 5 10] (.seq (ZR [Zi 6 0] (.block 0 (.loop (.seq (ZR [Zm 11 6,Zm 12 0,Zl 13 12,Zr 14 .lss 11 13] (ZC 14 .skip (.exit 0))) (.seq (.block 1 (ZR [Zm 17 5,Zm 18 6,Zm 19 0,Zm 20 6,Zx 21 1 19 20,Zf 22 1 21,u1 23 .shl [.tm 22,.cn (.int .u64 1)],Zm 24 1,u1 25 (.bit .or) [.tm 23,.tm 24],Zx 26 1 17 18,Zs 1 26 25] (.region [Zm 27 0,Zm 28 6,Zx 29 1 27 28,Zf 30 1 29,u1 31 .shr [.tm 30,.cn (.int .u64 31)],Zm 1 31]))) (.region [Zm 15 6,Zp 16 15 1,Zm 6 16])))))) (ZR [Zm 32 5,Zm 33 0,Zl 34 33,Zm 35 1,Zx 36 1 32 34,Zs 1 36 35] (ZR [Zm 37 5,Zc 38 113 37,Zm 4 38] .ret)))))⟩
theorem YAP:Yg YGc Tryz.f141=some v141:=by kernel_rfl
def v116:VF:=⟨47,[.tmp 4,.tmp 5],(ZR [u1 4 .mov [.cn .nil],u1 5 .mov [.cn .nil]] (ZR [Zm 9 0,Zl 10 9,u1 11 (.make 1 4 [(.int .u32 0)]) [.tm 10,.tm 10],Zm 6 11] (ZR [u1 7 .mov [.cn .nil]] (.seq (ZR [Zm 12 0,Zc 13 140 12,u1 14 (.ari .sub) [.tm 13,.cn (.int .i64 1)],Zm 8 14] (.block 0 (.loop (.seq (ZR [Zm 15 8,Zq 16 .geq 15 0] (ZC 16 .skip (.exit 0))) (.seq (.block 1 (ZR [Zm 19 7,Zm 20 0,Zm 21 8,Zd 22 142 20 21,Zd 23 141 19 22,Zm 7 23] (ZR [Zm 24 7,Zm 25 1,Zd 26 110 24 25,Zq 27 .geq 26 0] (ZC 27 (ZR [Zm 28 7,Zm 29 1,Zd 30 143 28 29,Zm 7 30] (.draw [] [Zu 31 6,Zu 32 8,w1 33 .quo [.tm 32,.cn (.int .i64 32)],Zu 34 6,Zu 35 8,w1 36 .quo [.tm 35,.cn (.int .i64 32)],ZX 37 1 34 36,Zv 38 1 37,Zu 39 8,w1 40 .rem [.tm 39,.cn (.int .i64 32)],w1 41 .shl [.cn (.int .u32 1),.tm 40],w1 42 (.bit .or) [.tm 38,.tm 41],ZX 43 1 31 33,ZS 1 43 42])) .skip)))) (.region [Zm 17 8,u1 18 (.ari .sub) [.tm 17,.cn (.int .i64 1)],Zm 8 18])))))) (ZR [Zm 44 6,Zc 45 113 44,Zm 46 7,Zm 4 45,Zm 5 46] .ret)))))⟩
theorem YAr:Yg YGc Tryz.f116=some v116:=by kernel_rfl
def sizeC:Ctr:={ alias:=false,of:=fun l=>match l with
 | [.vs _ _ n sz get]=> .ex Nat fun a=> .pre (padP a n sz get/\n=nl a) (.fin (.int .i64 (Yo a)) [])
 |_=>noC}
def bitC:Ctr:={ alias:=false,of:=fun l=>match l with
 | [.vs _ _ n sz get,.int .i64 i]=> .ex Nat fun a=> .pre (padP a n sz get/\0<=i/\i<32*n) (.fin (.int .u32 (bitN a i.toNat)) [])
 |_=>noC}
def doubleC:Ctr:={ alias:=false,of:=fun l=>match l with
 | [.vs _ _ n sz get,.int .u32 x]=> .ex Nat fun a=> .pre (padP a n sz get/\0<=x/\x<=1/\n<=99999) (.fin (natS false (2*a+x.toNat)) [])
 |_=>noC}
def divideC:Ctr:={ alias:=false,of:=fun l=>match l with
 | [.vs _ _ n sz get,.vs _ _ m sz' get']=> .ex Nat fun a=> .ex Nat fun b=> .pre (padP a n sz get/\n=nl a/\padP b m sz' get'/\0<b/\m<=9999/\n<=9999) (.all Bool fun z=> .fin (.tup [natS false (a/b),natS z (a%b)]) [])
 |_=>noC}
theorem YzW:sizeC.ok YGc 140:=by
 refine Yb Tryz.func140 YAO Yit 200 sizeC fun args k h=>?_
 simp only[sizeC]at h
 split at h
 ·rename_i t1 z1 n sz get
  obtain⟨a,⟨⟨rfl,hn,ha,hg⟩,rfl⟩,h⟩:=h
  refine⟨[.vs t1 z1 (nl a) 1 (fun k=>[.int .u32 (dig a k)])],by simpa [leL,le]using hg,?_⟩
  (try dsimp only[v140,go_sem,reduceIte])
  (try simp only[Yc,YGa,YF9,reduceCtorEq,YF8])
  refine⟨fun h0=>Yf ?_,fun h0=>?_⟩
  ·have:a=0:=nl_eq0.1 (by omega)
   subst this
   exact h
  ·obtain⟨m,hm⟩:∃m,nl a=m+1:=⟨nl a-1,by omega⟩
   have w1:IntKind.i64.wrap ((nl a:Int)-1)=(m:Int):=by rw[YGd _ (by omega)];omega
   rw[w1]
   simp only[YGb]
   refine⟨⟨by omega,by omega⟩,?_⟩
   refine Loop.keep [3,0] (Nat×Nat) (fun x=>[(3,.int .i64 x.1),(4,.int .u32 x.2)]) (fun _=>[]) [] (fun x=>x.1+Yo x.2=Yo a/\x.2<4294967296) (fun x=>Yo x.2) ?_ ?_
   ·refine⟨(32*m,dig a m),⟨(Yqe hm).symm,YM _ _⟩,?_⟩
    (try dsimp only[go_sem,reduceIte])
    simp only[Ya]
    rw[YGd _ (by omega)]
    simp
   ·rintro⟨c,t⟩ ⟨hc,ht⟩
    dsimp only at hc ht
    (try dsimp only[go_sem,reduceIte])
    (try simp only[Yc,YGa,YF9,reduceCtorEq,YF8])
    have hbl:Yo a<=32*100000:=YGg (Ym2 a) (by omega)
    refine⟨fun hpos=>?_,fun hz=>Yf ?_⟩
    ·have hh:=Yfp (a:=t) (by omega)
     refine⟨by decide,(c+1,t/2),⟨by simp only;omega,by simp only;omega⟩,by simp only;omega,?_⟩
     have e2:IntKind.u32.wrap ((t:Int).tdiv 2)=((t/2:Nat):Int):=by
      have:(t:Int).tdiv 2=((t/2:Nat):Int):=YHh (y:=2) rfl rfl
      rw[this];exact Yf4 (by omega)
     rw[e2,YGd _ (by omega)]
     simp only[Ya]
     simp
    ·obtain rfl:t=0:=by omega
     rw[Yxz,YHi]at hc
     rw[<-hc]at h
     exact h
 ·exact h.1.elim
theorem YhN:bitC.ok YGc 142:=by
 refine Yb Tryz.func142 YAQ Yit 200 bitC fun args k h=>?_
 simp only[bitC]at h
 split at h
 ·rename_i t1 z1 n sz get i
  obtain⟨a,⟨⟨rfl,hn,ha,hg⟩,h0,h1⟩,h⟩:=h
  obtain⟨i,rfl⟩:=YGM h0
  refine⟨[.vs t1 z1 n 1 (fun k=>[.int .u32 (dig a k)]),.int .i64 i],⟨by simpa [le]using hg,⟨rfl,rfl⟩,trivial⟩,?_⟩
  (try dsimp only[v142,go_sem,reduceIte])
  (try simp only[Yc,YGa,YF9,reduceCtorEq,YF8])
  have e1:IntKind.i64.wrap ((i:Int).tdiv 32)=((i/32:Nat):Int):=by
   have:(i:Int).tdiv 32=((i/32:Nat):Int):=YHh (y:=32) rfl rfl
   rw[this,YGd _ (by omega)]
  have e2:(i:Int).tmod 32=((i%32:Nat):Int):=YHF (y:=32) rfl rfl
  rw[e1,e2]
  simp only[YGb]
  refine⟨by decide,⟨by omega,by omega⟩,by decide,by omega,Yf ?_⟩
  have e3:((dig a (i/32):Nat):Int).fdiv (2^min (i%32) 32)=((dig a (i/32)/2^(i%32):Nat):Int):=by
   have:min (i%32) 32=i%32:=by omega
   rw[this,Int.fdiv_eq_ediv_of_nonneg _ (Int.le_of_lt (Int.pow_pos (by decide)))]
   simp
  rw[e3]
  have h9:bitI .and .u32 ((dig a (i/32)/2^(i%32):Nat):Int) 1=(bitN a i:Int):=by
   have:=Yxo (dig a (i/32)/2^(i%32))
   rw[Ym0];exact this
  rw[h9]
  exact h
 ·exact h.1.elim
theorem YqG:doubleC.ok YGc 141:=by
 refine Yb Tryz.func141 YAP Yit 200 doubleC fun args k h=>?_
 simp only[doubleC]at h
 split at h
 ·rename_i t1 z1 n sz get x
  obtain⟨a,⟨⟨rfl,hn,ha,hg⟩,h0,h1,hn9⟩,h⟩:=h
  obtain⟨x,rfl⟩:=YGM h0
  have hx:x<=1:=by omega
  refine⟨[.vs t1 z1 n 1 (fun k=>[.int .u32 (dig a k)]),.int .u32 x],⟨by simpa [le]using hg,⟨rfl,rfl⟩,trivial⟩,?_⟩
  (try dsimp only[v141,go_sem,reduceIte])
  (try simp only[Yc,YGa,YF9,reduceCtorEq,YF8])
  have en:IntKind.i64.wrap ((n:Int)+1)=((n+1:Nat):Int):=by rw[YGd _ (by omega)];omega
  rw[en]
  simp only[YGb]
  refine⟨⟨by decide,by omega,by unfold YP;omega⟩,?_⟩
  refine Loop.keep [0,4] Nat (fun i=>[(1,.int .u32 (dcy a x i)),(6,.int .i64 i)]) (fun i=>[(0,.own false 1 (n+1) (fun k=>[.int .u32 (dig ((2*a+x)%4294967296^i) k)]))]) [] (fun i=>i<=n) (fun i=>n-i) ?_ ?_
  ·refine⟨0,by omega,?_⟩
   (try dsimp only[go_sem,reduceIte])
   simp only[Ya]
   simp [Nat.mod_one,YbQ,leL,le,dcy_0]
  ·rintro i hi
   (try dsimp only[YdD,trimC,natS,YGb,go_sem,reduceIte])
   (try simp only[Yc,YGa,YF9,reduceCtorEq,YF8])
   have hc:=YvM (a:=a) (i:=i) hx
   have hdl:=YM a i
   have e1:=Yqw a x i
   have e2:=YCn a x i
   refine⟨fun hlt=>⟨⟨by omega,by omega⟩,by decide,⟨by omega,by omega⟩,by omega,⟨by omega,by omega⟩,by decide,i+1,by omega,by omega,?_⟩,fun hge=>?_⟩
   ·have w1:bitI .or .u32 (IntKind.u32.wrap ((dig a i:Int)*2^min (YHE 1) 32)) (dcy a x i:Int)=(((2*dig a i+dcy a x i)%4294967296:Nat):Int):=YCo hdl hc
    have w2:= @YxP (dig a i)
    rw[w1,w2,e1,<-e2,YGd ((i:Int)+1) (by omega)]
    simp only[Ya]
    refine⟨⟨by omega,by simp⟩,fun j hj=>?_⟩
    rw[Y7,Y7]
    split
    ·rename_i hji;subst hji;rw[if_pos (Nat.lt_succ_self _)];simp only[leL,le,and_self]
    ·split
     ·rw[if_pos (by omega)];simp only[leL,le,and_self]
     ·rw[if_neg (by omega)];simp only[leL,le,and_self]
   ·obtain rfl:i=n:=by omega
    have htop:=(YxQ (x:=x) ha).resolve_right (by omega)
    refine⟨by omega,by omega,2*a+x,⟨rfl,by omega,by rw[Yy];omega,fun j hj=>?_⟩,Yaj (t:=true) h⟩
    dsimp only
    rcases YGz j i with h'|h'
    ·rw[if_neg (by omega),YbA h'];exact Yd _
    ·obtain rfl:j=i:=by omega
     rw[if_pos rfl,htop];exact Yd _
 ·exact h.1.elim
def R3:Env:={ ct:=fun n=>match n with|113=>some trimC|110=>some orderC|143=>some minusC|140=>some sizeC|142=>some bitC|141=>some doubleC|_=>none,fn:=fun _=>none,meth:=fun _ _=>none}
theorem Ytq:R3.ct 113=some trimC:=rfl
theorem Ytp:R3.ct 110=some orderC:=rfl
theorem Ytu:R3.ct 143=some minusC:=rfl
theorem Ytr:R3.ct 140=some sizeC:=rfl
theorem Ytt:R3.ct 142=some bitC:=rfl
theorem Yts:R3.ct 141=some doubleC:=rfl
theorem R3_ok:Yq YGc R3:=by
 refine⟨fun f c h=>?_,fun f vf h=>?_,(fun _ _ _ h=>by cases h),by kernel_rfl,(fun _ h=>by cases h)⟩
 ·simp only[R3]at h
  split at h
  ·cases h;exact⟨YsS,Tryz.f113,Tryz.func113,by kernel_rfl,by kernel_rfl⟩
  ·cases h;exact⟨YbT,Tryz.f110,Tryz.func110,by kernel_rfl,by kernel_rfl⟩
  ·cases h;exact⟨YnA,Tryz.f143,Tryz.func143,by kernel_rfl,by kernel_rfl⟩
  ·cases h;exact⟨YzW,Tryz.f140,Tryz.func140,by kernel_rfl,by kernel_rfl⟩
  ·cases h;exact⟨YhN,Tryz.f142,Tryz.func142,by kernel_rfl,by kernel_rfl⟩
  ·cases h;exact⟨YqG,Tryz.f141,Tryz.func141,by kernel_rfl,by kernel_rfl⟩
  ·cases h
 ·cases h
theorem YgM:divideC.ok YGc 116:=by
 refine Yb Tryz.func116 YAr R3_ok 300 divideC fun args k h=>?_
 simp only[divideC]at h
 split at h
 ·rename_i t1 z1 n sz get t2 z2 m sz' get'
  obtain⟨a,b,⟨⟨rfl,hn,ha,hg⟩,rfl,⟨rfl,hm,hb,hg'⟩,hb0,hm9,hn9⟩,h⟩:=h
  refine⟨[.vs t1 z1 (nl a) 1 (fun k=>[.int .u32 (dig a k)]),.vs t2 z2 m 1 (fun k=>[.int .u32 (dig b k)])],⟨by simpa [le]using hg,by simpa [le]using hg',trivial⟩,?_⟩
  (try dsimp only[v116,Ytr,sizeC,go_sem,reduceIte])
  (try simp only[Yc,YGa,YF9,reduceCtorEq,YF8])
  simp only[YGb]
  have hbl:=Ym2 a
  refine⟨⟨by decide,by omega,by unfold YP;omega⟩,a,⟨Yx hn ha,rfl⟩,?_⟩
  refine Loop.keep [0,0,4] (Nat×Nat×Nat×Bool) (fun x=>[(7,.vs true x.2.2.2 (nl x.2.2.1) 1 (fun k=>[.int .u32 (dig x.2.2.1 k)])),(8,.int .i64 ((x.1:Int)-1))]) (fun x=>[(0,.own false 1 (nl a) (fun k=>[.int .u32 (dig x.2.1 k)]))]) [] (fun x=>x.1<=Yo a/\a/2^x.1=x.2.1/2^x.1*b+x.2.2.1/\x.2.1%2^x.1=0/\x.2.2.1<b) (fun x=>x.1) ?_ ?_
  ·refine⟨(Yo a,0,0,true),⟨YGr _,?_,by simp,hb0⟩,?_⟩
   ·rw[YHo (YcE a)];simp
   ·(try dsimp only[go_sem,reduceIte])
    simp only[Ya]
    rw[YGd _ (by omega)]
    simp [leL,le,nl_0,YbQ]
  ·rintro⟨j,q,r,z⟩ ⟨hj,hq,hqm,hr⟩
   dsimp only at hj hq hqm hr
   (try dsimp only[Ytq,Ytp,Ytu,Ytt,Yts,trimC,orderC,minusC,bitC,doubleC,natS,YGb,go_sem,reduceIte])
   (try simp only[Yc,YGa,YF9,reduceCtorEq,YF8])
   refine⟨fun hlt=>?_,fun hge=>?_⟩
   ·obtain⟨i,rfl⟩:∃i,j=i+1:=⟨j-1,by omega⟩
    have e0:((i+1:Nat):Int)-1=i:=by omega
    have e1:IntKind.i64.wrap ((i:Int).tdiv 32)=((i/32:Nat):Int):=by
     have:(i:Int).tdiv 32=((i/32:Nat):Int):=YHh (y:=32) rfl rfl
     rw[this,YGd _ (by omega)]
    have e2:(i:Int).tmod 32=((i%32:Nat):Int):=YHF (y:=32) rfl rfl
    rw[e0,e1,e2]
    simp only[YGb]
    have hbit:=Yxy a i
    have hrn:nl r<=9999:=YGg (YbF (YHn hr)) (YGg (nl_le.2 hb) hm9)
    have hr2':∀K,nl r<=K->nl (2*r+bitN a i)<=K+1:=fun K hK=>by
     have h1:=nl_le.1 hK
     rw[nl_le,Yy]
     omega
    have hr2:nl (2*r+bitN a i)<=10000:=hr2' 9999 hrn
    refine⟨a,⟨Yx hn ha,by omega,by omega⟩,r,⟨Ye (by omega),by omega,by omega,by omega⟩,2*r+bitN a i,b,⟨Ye (by omega),Yx hm hb⟩,fun hc=>?_,fun hc=>?_⟩
    ·have hbr:b<=2*r+bitN a i:=by
      unfold ordN at hc
      split at hc
      ·omega
      ·omega
     obtain⟨s1,s2,s3⟩:=YEz hqm
     obtain⟨d1,d2⟩:=YqE hq hqm hbr
     have hi32:i/32<nl a:=by omega
     have hm32:i%32<32:=YGJ _ (by decide)
     refine⟨_,_,⟨Ye (by omega),Yx hm hb,hbr⟩,by decide,by decide,⟨by omega,by omega⟩,hi32,by decide,by omega,⟨by omega,by omega⟩,hi32,(i,q+2^i,2*r+bitN a i-b,false),⟨by simp only;omega,d1,d2,by simp only;omega⟩,by simp only;omega,?_⟩
     have w:IntKind.u32.wrap (1*2^min (i%32) 32)=((2^(i%32):Nat):Int):=by
      have e4:min (i%32) 32=i%32:=by omega
      have e5:(1:Int)*2^(i%32)=((2^(i%32):Nat):Int):=by simp
      rw[e4,e5]
      exact Yf4 (Nat.pow_lt_pow_right (by decide) hm32)
     have w':bitI .or .u32 (dig q (i/32):Int) ((2^(i%32):Nat):Int)=((dig q (i/32)+2^(i%32):Nat):Int):=by rw[<-YrY s1];exact YrZ (YM _ _) (Nat.pow_lt_pow_right (by decide) hm32)
     rw[w,w',YGd ((i:Int)-1) (by omega)]
     simp only[Ya]
     refine⟨by decide,fun k hk=>?_⟩
     rw[<-s2,YcH s3]
     split <;> simp only[leL,le,and_self]
    ·have hbr:2*r+bitN a i<b:=by
      unfold ordN at hc
      split at hc
      ·omega
      ·split at hc <;> omega
     refine⟨(i,q,2*r+bitN a i,false),⟨by simp only;omega,Ykm hq hqm,(Yjo hqm).1,hbr⟩,by simp only;omega,?_⟩
     rw[YGd ((i:Int)-1) (by omega)]
     simp only[Ya]
     decide
   ·obtain rfl:j=0:=by omega
    obtain⟨rfl,rfl⟩:=YxT hq hr
    refine⟨a/b,Yx hn (YGN (YHm _ _) ha),?_⟩
    exact YC (show k _ []from h z) (Yv _ ⟨trivial,trivial,trivial⟩) (fun _=>by simp [natS,Yl,Ym])
 ·exact h.1.elim
def v139:VF:=⟨20,[.tmp 2],(ZR [u1 2 .mov [.cn (.bool false)]] (ZR [Zm 3 0,Zl 4 3,Zq 5 .leq 4 512,Zm 6 5,Zg 7 6 true 0,u2 8 6 true .len [.tm 7],u2 9 6 true (.cmp .eql) [.tm 8,.cn (.int .i64 0)],Zg 10 6 true 9,Zg 11 10 false 0,Zg 12 10 false 0,u2 13 10 false .len [.tm 12],u2 14 10 false (.ari .sub) [.tm 13,.cn (.int .i64 1)],u2 15 10 false (.idxAddr 1) [.tm 11,.tm 14],Zh 16 10 false 1 15,u2 17 10 false (.cmp .neq) [.tm 16,.cn (.int .u32 0)],u2 18 6 true .or [.tm 10,.tm 17],u1 19 .and [.tm 6,.tm 18],Zm 2 19] .ret))⟩
theorem YAN:Yg YGc Tryz.f139=some v139:=by kernel_rfl
def v115:VF:=⟨19,[.tmp 4],(ZR [u1 4 .mov [.cn .nil]] (.seq (.block 0 (.loop (.seq (ZR [Zm 7 1,Zl 8 7,Zq 9 .gtr 8 0] (ZC 9 .skip (.exit 0))) (.block 1 (ZR [Zm 11 0,Zm 12 1,Zd 13 116 11 12,Zm 10 13,Ze 14 0 10,Ze 15 1 10,Zm 5 14,Zm 6 15] (.region [Zm 16 1,Zm 17 6,Zm 0 16,Zm 1 17])))))) (ZR [Zm 18 0,Zm 4 18] .ret)))⟩
theorem YsW:Yg YGc Tryz.f115=some v115:=by kernel_rfl
def v114:VF:=⟨44,[.tmp 2],(ZR [u1 1 .box [.tm 0],u1 2 .mov [.cn (.bool false)]] (.seq (.seq (.draw [] [Zy 3 1 1,Zv 4 1 3,w1 5 (.call 139) [.tm 4],w1 6 .not [.tm 5],Zu 7 6,⟨Zj 8 7 false 2 1,[]⟩,⟨Zh 9 7 false 1 8,[]⟩,⟨u2 10 7 false (.call 139) [.tm 9],[]⟩,⟨u2 11 7 false .not [.tm 10],[]⟩,w1 12 .or [.tm 7,.tm 11],Zu 13 12,⟨Zj 14 13 false 2 1,[]⟩,⟨Zh 15 13 false 1 14,[]⟩,⟨u2 16 13 false .len [.tm 15],[]⟩,⟨u2 17 13 false (.cmp .eql) [.tm 16,.cn (.int .i64 0)],[]⟩,w1 18 .or [.tm 13,.tm 17],Zu 19 18,⟨Zj 20 19 false 1 1,[]⟩,⟨Zh 21 19 false 1 20,[]⟩,⟨u2 22 19 false .len [.tm 21],[]⟩,⟨u2 23 19 false (.cmp .eql) [.tm 22,.cn (.int .i64 0)],[]⟩,⟨Zg 24 19 false 23,[]⟩,⟨Zj 25 24 true 0 1,[]⟩,⟨Zh 26 24 true 1 25,[]⟩,⟨Zg 27 24 true 26,[]⟩,⟨Zj 28 27 false 2 1,[]⟩,⟨Zh 29 27 false 1 28,[]⟩,⟨u2 30 27 false (.call 86) [.cn (.int .u64 1)],[]⟩,⟨u2 31 27 false (.call 110) [.tm 29,.tm 30],[]⟩,⟨u2 32 27 false (.cmp .neq) [.tm 31,.cn (.int .i64 0)],[]⟩,⟨u2 33 24 true .or [.tm 27,.tm 32],[]⟩,⟨u2 34 19 false .and [.tm 24,.tm 33],[]⟩,w1 35 .or [.tm 19,.tm 34]]) (ZC 35 (ZR [u1 2 .mov [.cn (.bool false)]] .ret) .skip)) (ZR [Za 36 1 1,Zf 37 1 36,Za 38 2 1,Zf 39 1 38,Zd 40 115 37 39,u1 41 (.call 86) [.cn (.int .u64 1)],Zd 42 110 40 41,Zq 43 .eql 42 0,Zm 2 43] .ret)))⟩
theorem YAq:Yg YGc Tryz.f114=some v114:=by kernel_rfl
def v88:VF:=⟨39,[.tmp 2],(ZR [Zi 2 0] (.seq (ZR [Zi 3 0] (.block 0 (.loop (.seq (ZR [Zm 5 3,Zm 6 0,Zl 7 6,Zr 8 .lss 5 7] (ZC 8 .skip (.exit 0))) (.seq (.block 1 (ZR [Zm 11 0,Zm 12 3,Zx 13 3 11 12,Za 14 1 13,Zf 15 1 14,Zl 16 15,Zq 17 .gtr 16 512,Zm 18 17,Zg 19 18 false 0,Zg 20 18 false 3,u2 21 18 false (.idxAddr 3) [.tm 19,.tm 20],Zj 22 18 false 2 21,Zh 23 18 false 1 22,u2 24 18 false .len [.tm 23],u2 25 18 false (.cmp .gtr) [.tm 24,.cn (.int .i64 512)],u1 26 .or [.tm 18,.tm 25]] (ZC 26 (ZR [Zi 2 3] .ret) .skip))) (.region [Zm 9 3,Zp 10 9 1,Zm 3 10])))))) (.seq (ZR [Zi 4 0] (.block 2 (.loop (.seq (ZR [Zm 27 4,Zm 28 0,Zl 29 28,Zr 30 .lss 27 29] (ZC 30 .skip (.exit 2))) (.seq (.block 3 (ZR [Zm 33 0,Zm 34 4,Zx 35 3 33 34,Zt 36 3 35,Zc 37 114 36,u1 38 .not [.tm 37]] (ZC 38 (ZR [Zi 2 2] .ret) .skip))) (.region [Zm 31 4,Zp 32 31 1,Zm 4 32])))))) (ZR [Zi 2 0] .ret))))⟩
theorem YFS:Yg YGc Tryz.f88=some v88:=by kernel_rfl
def v89:VF:=⟨46,[.cell 6 true 3,.tmp 7],(ZR [u1 6 (.alloc [(.bool false),.nil,.nil]) [],Zi 7 0] (ZR [Zm 13 1,Zm 14 2,Zd 15 115 13 14,Zm 8 15] (ZR [Zm 17 1,Zm 18 8,Zd 19 116 17 18,Zm 16 19,Ze 20 0 16,Ze 21 1 16,Zm 9 20,Zm 10 21] (ZR [Zm 23 2,Zm 24 8,Zd 25 116 23 24,Zm 22 25,Ze 26 0 22,Ze 27 1 22,Zm 11 26,Zm 12 27] (.seq (ZR [Zm 28 9,Zl 29 28,Zq 30 .gtr 29 512,Zm 31 30,Zg 32 31 false 11,u2 33 31 false .len [.tm 32],u2 34 31 false (.cmp .gtr) [.tm 33,.cn (.int .i64 512)],u1 35 .or [.tm 31,.tm 34]] (ZC 35 (ZR [u1 36 (.build [(.bool false),.nil,.nil] []) [],Zs 3 6 36,Zi 7 3] .ret) .skip)) (ZR [Zm 37 0,Zm 38 37,Zg 39 38 true 9,u2 40 38 true .len [.tm 39],u2 41 38 true (.cmp .gtr) [.tm 40,.cn (.int .i64 0)],u1 42 .and [.tm 38,.tm 41],Zm 43 9,Zm 44 11,u1 45 (.build [(.bool false),.nil,.nil] [(0,1),(1,1),(2,1)]) [.tm 42,.tm 43,.tm 44],Zs 3 6 45,Zi 7 0] .ret))))))⟩
theorem YFT:Yg YGc Tryz.f89=some v89:=by kernel_rfl
abbrev Fr:=Int×Nat
def natV(t z:Bool)(a:Nat):SV:= .vs t z (nl a) 1 (fun k=>[.int .u32 (dig a k)])
def encF(t:Bool)(p:Fr):List SV:=[.bool (decide (p.1<0)),natV t false (rnum p.1 p.2),natV t false (rden p.1 p.2)]
def frOk(p:Fr):Prop:=0<p.2/\nl (rnum p.1 p.2)<=512/\nl (rden p.1 p.2)<=512
def YgU(p:Fr)(neg z1:Bool)(n1 s1:Nat)(g1:Nat->List SV)(z2:Bool)(n2 s2:Nat)(g2:Nat->List SV):Prop:=
 frOk p/\neg=decide (p.1<0)/\z1=false/\z2=false/\s1=1/\s2=1/\n1=nl (rnum p.1 p.2)/\n2=nl (rden p.1 p.2)/\
  (∀k,k<n1->leXL (g1 k) [.int .u32 (dig (rnum p.1 p.2) k)])/\∀k,k<n2->leXL (g2 k) [.int .u32 (dig (rden p.1 p.2) k)]
theorem Yz{p:Fr}(h:frOk p):YgU p (decide (p.1<0)) false (nl (rnum p.1 p.2)) 1 (fun k=>[.int .u32 (dig (rnum p.1 p.2) k)]) false (nl (rden p.1 p.2)) 1 (fun k=>[.int .u32 (dig (rden p.1 p.2) k)]):=
 ⟨h,rfl,rfl,rfl,rfl,rfl,rfl,rfl,fun k _=>Yd _,fun k _=>Yd _⟩
def validC:Ctr:={ alias:=false,of:=fun l=>match l with
 | [.vs _ _ n sz get]=> .ex Nat fun a=> .pre (padP a n sz get) (.fin (.bool (decide (n<=512)&&decide (n=nl a))) [])
 |_=>noC}
def properC:Ctr:={ alias:=false,of:=fun l=>match l with
 | [.agg [.bool neg,.vs _ z1 n1 s1 g1,.vs _ z2 n2 s2 g2]]=> .ex Fr fun p=> .pre (YgU p neg z1 n1 s1 g1 z2 n2 s2 g2) (.fin (.bool true) [])
 |_=>noC}
def badqC:Ctr:={ alias:=false,of:=fun l=>match l with
 | [.vs _ _ n sz get]=> .ex (List Fr) fun l=> .pre (lsP 3 (encF false) n sz get l/\l.length<=1000/\∀p∈l,frOk p) (.fin (.int .i64 0) [])
 |_=>noC}
def lowestC:Ctr:={ alias:=false,of:=fun l=>match l with
 | [.bool neg,.vs _ _ n sz get,.vs _ _ m sz' get']=> .ex Nat fun a=> .ex Nat fun b=> .pre (padP a n sz get/\n=nl a/\padP b m sz' get'/\m=nl b/\0<b/\n<=9999/\m<=9999/\frOk (nsg neg a,b)) (.fin (.tup [.agg (encF true (nsg neg a,b)),.int .i64 0]) [])
 |_=>noC}
theorem Yfk:validC.ok YGc 139:=by
 refine Yb Tryz.func139 YAN Yit 200 validC fun args k h=>?_
 simp only[validC]at h
 split at h
 ·rename_i t1 z1 n sz get
  obtain⟨a,⟨rfl,hn,ha,hg⟩,h⟩:=h
  refine⟨[.vs t1 z1 n 1 (fun k=>[.int .u32 (dig a k)])],by simpa [leL,le]using hg,?_⟩
  (try dsimp only[v139,go_sem,reduceIte])
  (try simp only[Yc,YGa,YF9,reduceCtorEq,YF8])
  have e:(decide ((n:Int)=0) || !decide (((dig a (IntKind.i64.wrap ((n:Int)-1)).toNat:Nat):Int)=0))=decide (n=nl a):=by
   rcases YGI n with h0|h0
   ·subst h0
    have:=YDu (a:=a) (sz:=1) (get:=get) ⟨rfl,hn,ha,hg⟩
    subst this
    simp [nl_0]
   ·rw[Yn h0 (by omega),YGb,decide_eq_false (by omega:¬(n:Int)=0),YHx,YHz,YGA,decide_eq_false_iff_not,decide_eq_true_eq]
    constructor
    ·intro hne
     exact(YaG ha (.inr (by omega))).symm
    ·rintro rfl
     have:=YnD (a:=a) (by rintro rfl;simp [nl_0]at h0)
     omega
  refine⟨fun hb=>?_,fun h1 h2=>by rw[decide_eq_true h1,decide_eq_false h2];rfl,?_⟩
  ·simp only[YGi,decide_eq_true_eq,YGA,decide_eq_false_iff_not]at hb
   rw[Yn (by omega) (by omega)];omega
  ·rw[e]
   have e2:decide ((n:Int)<=512)=decide (n<=512):=by congr 1;exact propext (by omega)
   rw[e2]
   exact YK h
 ·exact h.1.elim
def R4:Env:={ ct:=fun n=>match n with|139=>some validC|110=>some orderC|86=>some ofC|116=>some divideC|_=>none,fn:=fun n=>match n with|115=>some v115|_=>none,meth:=fun _ _=>none}
theorem Ytx:R4.ct 139=some validC:=rfl
theorem YmA:R4.ct 110=some orderC:=rfl
theorem Yo9:R4.ct 86=some ofC:=rfl
theorem Ytw:R4.ct 116=some divideC:=rfl
theorem Ytv:R4.ct 115=none:=rfl
theorem Yty:R4.fn 115=some v115:=rfl
theorem R4_ok:Yq YGc R4:=by
 refine⟨fun f c h=>?_,fun f vf h=>?_,(fun _ _ _ h=>by cases h),by kernel_rfl,(fun _ h=>by cases h)⟩
 ·simp only[R4]at h
  split at h
  ·cases h;exact⟨Yfk,Tryz.f139,Tryz.func139,by kernel_rfl,by kernel_rfl⟩
  ·cases h;exact⟨YbT,Tryz.f110,Tryz.func110,by kernel_rfl,by kernel_rfl⟩
  ·cases h;exact⟨YuW,Tryz.f86,Tryz.func86,by kernel_rfl,by kernel_rfl⟩
  ·cases h;exact⟨YgM,Tryz.f116,Tryz.func116,by kernel_rfl,by kernel_rfl⟩
  ·cases h
 ·simp only[R4]at h
  split at h
  ·cases h;exact⟨Tryz.f115,Tryz.func115,YsW,Tryz.f115,Tryz.func115,by kernel_rfl,by kernel_rfl⟩
  ·cases h
theorem Ysc:properC.ok YGc 114:=by
 refine Yb Tryz.func114 YAq R4_ok 300 properC fun args k h=>?_
 simp only[properC]at h
 split at h
 ·rename_i neg t1 z1 n1 s1 g1 t2 z2 n2 s2 g2
  obtain⟨⟨n,d⟩,⟨⟨hd,hl1,hl2⟩,rfl,rfl,rfl,rfl,rfl,rfl,rfl,hg1,hg2⟩,h⟩:=h
  dsimp only at hd hl1 hl2 hg1 hg2
  refine⟨[.agg [.bool (decide (n<0)),.vs false false (nl (rnum n d)) 1 (fun k=>[.int .u32 (dig (rnum n d) k)]),.vs false false (nl (rden n d)) 1 (fun k=>[.int .u32 (dig (rden n d) k)])]],by simpa [leL,le]using⟨hg1,hg2⟩,?_⟩
  (try dsimp only[v114,Ytx,YmA,Yo9,Ytv,Yty,v115,validC,orderC,ofC,natS,go_sem,reduceIte])
  (try simp only[Yc,YGa,YF9,reduceCtorEq,YF8])
  have hq:=YaY (n:=n) hd
  have hq0:=nl_pos.2 hq
  have c1:decide (nl (rnum n d)<=512)=true:=decide_eq_true hl1
  have c2:decide (nl (rden n d)<=512)=true:=decide_eq_true hl2
  have c3:decide ((nl (rden n d):Int)=0)=false:=decide_eq_false (by omega)
  refine⟨rnum n d,Ye (by omega),rden n d,fun _=>Ye (by omega),fun _=>by decide,rden n d,1,fun _=>⟨Ye (by omega),Ye (by decide)⟩,?_⟩
  have c4:(decide ((nl (rnum n d):Int)=0)&&(decide (n<0) || !decide (ordN (rden n d) 1=0)))=false:=by
   by_cases h0:n=0
   ·subst h0
    rw[YEo hd];simp [ordN]
   ·have:nl (rnum n d)≠0:=fun hh=>h0 ((Yih hd).1 (nl_eq0.1 hh))
    rw[decide_eq_false (by omega),YHp]
  simp only[c1,c2,c3,decide_true,decide_false,Bool.and_true,YHq,Bool.and_false,YHp,Bool.not_true,Bool.not_false,Bool.or_false,YHx,Bool.or_true,Bool.true_or,Bool.and_self,Bool.or_self,YGC,Bool.true_eq_false,false_imp_iff,forall_const,true_and,and_true,implies_true,reduceCtorEq,not_true_eq_false,not_false_eq_true,ite_true,ite_false]
  rw[c4]
  refine⟨fun h1 h2=>by rw[h1,decide_eq_false h2];rfl,fun h=>by rw[decide_eq_true h],(fun h=>by cases h),fun _=>?_⟩
  refine Loop.keep [] (Nat×Nat×Bool×Bool) (fun x=>[(0,.vs false x.2.2.1 (nl x.1) 1 (fun k=>[.int .u32 (dig x.1 k)])),(1,.vs false x.2.2.2 (nl x.2.1) 1 (fun k=>[.int .u32 (dig x.2.1 k)]))]) (fun _=>[]) [] (fun x=>YHa x.1 x.2.1=YHa (rnum n d) (rden n d)/\nl x.1<=9999/\nl x.2.1<=9999) (fun x=>x.2.1) ?_ ?_
  ·refine⟨(rnum n d,rden n d,false,false),⟨rfl,by simp only;omega,by simp only;omega⟩,?_⟩
   (try dsimp only[go_sem,reduceIte])
   simp only[Ya]
   simp
  ·rintro⟨x,y,zx,zy⟩ ⟨hg,hx,hy⟩
   dsimp only at hg hx hy
   (try dsimp only[Ytw,YmA,Yo9,divideC,orderC,ofC,natS,go_sem,reduceIte])
   (try simp only[Yc,YGa,YF9,reduceCtorEq,YF8])
   refine⟨fun hpos=>⟨x,y,⟨Ye (by omega),rfl,Ye (by omega),nl_pos.1 (by omega),hy,hx⟩,fun zr=>⟨by decide,by decide,(y,x%y,zy,zr),⟨?_,hy,?_⟩,?_,?_⟩⟩,fun hge=>?_⟩
   ·have hy0:0<y:=nl_pos.1 (by omega)
    show YHa y (x%y)=_
    rw[<-hg,Nat.gcd_comm x y,Nat.gcd_rec y x,Nat.gcd_comm]
   ·exact YGg (YbF (Nat.mod_le _ _)) hx
   ·exact YGJ _ (nl_pos.1 (by omega))
   ·simp only[Ya]
    simp
   ·obtain rfl:y=0:=nl_eq0.1 (by omega)
    rw[Nat.gcd_zero_right,Ysk hd]at hg
    subst hg
    refine⟨⟨by decide,by decide⟩,1,1,⟨Ye (by decide),Ye (by decide)⟩,YK ?_⟩
    exact h
 ·exact h.1.elim
def R5:Env:={ ct:=fun n=>match n with|139=>some validC|110=>some orderC|86=>some ofC|116=>some divideC|114=>some properC|_=>none,fn:=fun n=>match n with|115=>some v115|_=>none,meth:=fun _ _=>none}
theorem YtB:R5.ct 116=some divideC:=rfl
theorem Ytz:R5.ct 114=some properC:=rfl
theorem YtA:R5.ct 115=none:=rfl
theorem YtC:R5.fn 115=some v115:=rfl
theorem YBz:Yq YGc R5:=by
 refine⟨fun f c h=>?_,fun f vf h=>?_,(fun _ _ _ h=>by cases h),by kernel_rfl,(fun _ h=>by cases h)⟩
 ·simp only[R5]at h
  split at h
  ·cases h;exact⟨Yfk,Tryz.f139,Tryz.func139,by kernel_rfl,by kernel_rfl⟩
  ·cases h;exact⟨YbT,Tryz.f110,Tryz.func110,by kernel_rfl,by kernel_rfl⟩
  ·cases h;exact⟨YuW,Tryz.f86,Tryz.func86,by kernel_rfl,by kernel_rfl⟩
  ·cases h;exact⟨YgM,Tryz.f116,Tryz.func116,by kernel_rfl,by kernel_rfl⟩
  ·cases h;exact⟨Ysc,Tryz.f114,Tryz.func114,by kernel_rfl,by kernel_rfl⟩
  ·cases h
 ·simp only[R5]at h
  split at h
  ·cases h;exact⟨Tryz.f115,Tryz.func115,YsW,Tryz.f115,Tryz.func115,by kernel_rfl,by kernel_rfl⟩
  ·cases h
theorem Yp9:badqC.ok YGc 88:=by
 refine Yb Tryz.func88 YFS YBz 300 badqC fun args k h=>?_
 simp only[badqC]at h
 split at h
 ·rename_i tt z n sz get
  obtain⟨l,⟨⟨rfl,rfl,hg⟩,hmax,hok⟩,h⟩:=h
  refine⟨[.vs tt z l.length 3 (fun k=>encF false (l.getD k default))],by simpa [leL,le]using hg,?_⟩
  (try dsimp only[v88,go_sem,reduceIte])
  (try simp only[Yc,YGa,YF9,reduceCtorEq,YF8])
  refine Loop.keep [0,2] Nat (fun i=>[(3,.int .i64 i)]) (fun _=>[]) [] (fun i=>i<=l.length) (fun i=>l.length-i) ?_ ?_
  ·refine⟨0,by omega,?_⟩
   (try dsimp only[go_sem,reduceIte])
   simp only[Ya]
   simp
  ·rintro i hi
   (try dsimp only[encF,natV,YGb,go_sem,reduceIte])
   (try simp only[Yc,YGa,YF9,reduceCtorEq,YF8])
   refine⟨fun hlt=>?_,fun hge=>?_⟩
   ·obtain⟨hd,hl1,hl2⟩:=hok _ (Yk (by omega:i<l.length))
    refine⟨⟨by omega,by omega⟩,fun _=>⟨by omega,by omega⟩,fun hb=>?_,fun _=>⟨i+1,by omega,by omega,?_⟩⟩
    ·rw[decide_eq_false (by omega),decide_eq_false (by omega)]at hb
     cases hb
    ·rw[Yed (n:=l.length) (by omega) (by omega)]
     simp only[Ya] <;> simp
   ·refine Loop.keep [0,3] Nat (fun i=>[(4,.int .i64 i)]) (fun _=>[]) [] (fun i=>i<=l.length) (fun i=>l.length-i) ?_ ?_
    ·refine⟨0,by omega,?_⟩
     (try dsimp only[go_sem,reduceIte])
     simp only[Ya] <;> simp
    ·rintro i hi
     (try dsimp only[Ytz,properC,encF,natV,YGb,go_sem,reduceIte])
     (try simp only[Yc,YGa,YF9,reduceCtorEq,YF8])
     refine⟨fun hlt=>?_,fun hge=>Yf h⟩
     refine⟨⟨by omega,by omega⟩,l.getD i default,Yz (hok _ (Yk (by omega))),⟨i+1,by omega,by omega,?_⟩⟩
     rw[Yed (n:=l.length) (by omega) (by omega)]
     simp only[Ya] <;> simp
 ·exact h.1.elim
theorem YkG:lowestC.ok YGc 89:=by
 refine Yb Tryz.func89 YFT YBz 300 lowestC fun args k h=>?_
 simp only[lowestC]at h
 split at h
 ·rename_i neg t1 z1 n sz get t2 z2 m sz' get'
  obtain⟨a,b,⟨⟨rfl,hn,ha,hg⟩,rfl,⟨rfl,hm,hb,hg'⟩,rfl,hb0,hn9,hm9,hok⟩,h⟩:=h
  refine⟨[.bool neg,.vs t1 z1 (nl a) 1 (fun k=>[.int .u32 (dig a k)]),.vs t2 z2 (nl b) 1 (fun k=>[.int .u32 (dig b k)])],⟨rfl,by simpa [le]using hg,by simpa [le]using hg',trivial⟩,?_⟩
  (try dsimp only[v89,YtA,YtC,v115,go_sem,reduceIte])
  (try simp only[Yc,YGa,YF9,reduceCtorEq,YF8])
  refine Loop.keep [] (Nat×Nat×Bool×Bool) (fun x=>[(0,.vs false x.2.2.1 (nl x.1) 1 (fun k=>[.int .u32 (dig x.1 k)])),(1,.vs false x.2.2.2 (nl x.2.1) 1 (fun k=>[.int .u32 (dig x.2.1 k)]))]) (fun _=>[]) [] (fun x=>YHa x.1 x.2.1=YHa a b/\nl x.1<=9999/\nl x.2.1<=9999) (fun x=>x.2.1) ?_ ?_
  ·refine⟨(a,b,z1,z2),⟨rfl,hn9,hm9⟩,?_⟩
   (try dsimp only[go_sem,reduceIte])
   simp only[Ya]
   simp
  ·rintro⟨x,y,zx,zy⟩ ⟨hg,hx,hy⟩
   dsimp only at hg hx hy
   (try dsimp only[YtB,divideC,natS,go_sem,reduceIte])
   (try simp only[Yc,YGa,YF9,reduceCtorEq,YF8])
   refine⟨fun hpos=>⟨x,y,⟨Ye (by omega),rfl,Ye (by omega),nl_pos.1 (by omega),hy,hx⟩,fun zr=>⟨by decide,by decide,(y,x%y,zy,zr),⟨?_,hy,?_⟩,?_,?_⟩⟩,fun hge=>?_⟩
   ·have hy0:0<y:=nl_pos.1 (by omega)
    show YHa y (x%y)=_
    rw[<-hg,Nat.gcd_comm x y,Nat.gcd_rec y x,Nat.gcd_comm]
   ·exact YGg (YbF (Nat.mod_le _ _)) hx
   ·exact YGJ _ (nl_pos.1 (by omega))
   ·simp only[Ya]
    simp
   ·obtain rfl:y=0:=nl_eq0.1 (by omega)
    rw[Nat.gcd_zero_right]at hg
    have hg0:0<x:=by rw[hg];exact Nat.gcd_pos_of_pos_right _ hb0
    refine⟨a,x,⟨Ye (by omega),rfl,Ye (by omega),hg0,hx,hn9⟩,?_⟩
    refine⟨by decide,by decide,b,x,⟨Ye (by omega),rfl,Ye (by omega),hg0,hx,hm9⟩,by decide,by decide,?_⟩
    obtain⟨_,hl1,hl2⟩:=hok
    have e1:a/x=rnum (nsg neg a) b:=by unfold rnum fg;rw[Yg6,hg]
    have e2:b/x=rden (nsg neg a) b:=by unfold rden fg;rw[Yg6,hg]
    dsimp only at hl1 hl2
    rw[e1,e2]
    refine⟨fun hb=>?_,fun _=>?_⟩
    ·rw[decide_eq_false (by omega),decide_eq_false (by omega)]at hb
     cases hb
    ·have e3:(neg&&decide (0<(nl (rnum (nsg neg a) b):Int)))=decide (nsg neg a<0):=by
      rw[Yy0]
      congr 2
      apply propext
      have h1:=Yih (n:=nsg neg a) hb0
      have h2:=nl_eq0 (a:=rnum (nsg neg a) b)
      have h3:nsg neg a=0↔a=0:=by unfold nsg;split <;> omega
      omega
     rw[e3]
     exact YC (show k _ []from h) (Yv (.tup [.agg (encF true (nsg neg a,b)),.int .i64 0]) ⟨⟨trivial,trivial,trivial,trivial⟩,trivial,trivial⟩) (fun _=>by simp [encF,natV,Yl,Ym])
 ·exact h.1.elim
def v55:VF:=⟨33,[.cell 4 true 3,.tmp 5],(ZR [u1 2 .box [.tm 0],u1 3 .box [.tm 1],u1 4 (.alloc [(.bool false),.nil,.nil]) [],Zi 5 0] (ZR [Zt 7 3 2,Zt 8 3 3,u1 9 (.buildSlice 3 2 [(.bool false),.nil,.nil] [(0,3),(3,3)]) [.tm 7,.tm 8],Zc 10 88 9,Zm 6 10] (.seq (ZR [Zm 11 6,Zq 12 .neq 11 0] (ZC 12 (ZR [u1 13 (.build [(.bool false),.nil,.nil] []) [],Zm 14 6,Zs 3 4 13,Zm 5 14] .ret) .skip)) (.seq (.draw [] [Zy 15 0 2,Zv 16 1 15,Zy 17 0 3,Zv 18 1 17,w1 19 (.eqb true) [.tm 16,.tm 18],Zy 20 1 2,Zv 21 1 20,Zy 22 1 3,Zv 23 1 22,Zy 25 2 2,Zv 26 1 25,Zy 27 2 3,Zv 28 1 27,Zz 24 90 21 23,Zz 29 90 26 28,w1 30 (.call 89) [.tm 19,.tm 24,.tm 29],ZE 31 0 30,ZE 32 1 30,ZS 3 4 31,Zu 5 32]) .ret))))⟩
theorem YFn:Yg YGc Tryz.f55=some v55:=by kernel_rfl
def v87:VF:=⟨41,[.cell 4 true 3,.tmp 5],(ZR [u1 2 .box [.tm 0],u1 3 .box [.tm 1],u1 4 (.alloc [(.bool false),.nil,.nil]) [],Zi 5 0] (ZR [Zt 7 3 2,Zt 8 3 3,u1 9 (.buildSlice 3 2 [(.bool false),.nil,.nil] [(0,3),(3,3)]) [.tm 7,.tm 8],Zc 10 88 9,Zm 6 10] (.seq (ZR [Zm 11 6,Zq 12 .eql 11 0,Zm 13 12,Zj 14 13 true 1 3,Zh 15 13 true 1 14,u2 16 13 true .len [.tm 15],u2 17 13 true (.cmp .eql) [.tm 16,.cn (.int .i64 0)],u1 18 .and [.tm 13,.tm 17]] (ZC 18 (.region [Zi 6 4]) .skip)) (.seq (ZR [Zm 19 6,Zq 20 .neq 19 0] (ZC 20 (ZR [u1 21 (.build [(.bool false),.nil,.nil] []) [],Zm 22 6,Zs 3 4 21,Zm 5 22] .ret) .skip)) (.seq (.draw [] [Zy 23 0 2,Zv 24 1 23,Zy 25 0 3,Zv 26 1 25,w1 27 (.eqb true) [.tm 24,.tm 26],Zy 28 1 2,Zv 29 1 28,Zy 30 2 3,Zv 31 1 30,Zy 33 2 2,Zv 34 1 33,Zy 35 1 3,Zv 36 1 35,Zz 32 90 29 31,Zz 37 90 34 36,w1 38 (.call 89) [.tm 27,.tm 32,.tm 37],ZE 39 0 38,ZE 40 1 38,ZS 3 4 39,Zu 5 40]) .ret)))))⟩
theorem YFR:Yg YGc Tryz.f87=some v87:=by kernel_rfl
def v83:VF:=⟨39,[.tmp 4,.tmp 5],(ZR [u1 2 .box [.tm 0],u1 3 .box [.tm 1],Zi 4 0,Zi 5 0] (ZR [Zt 8 3 2,Zt 9 3 3,u1 10 (.buildSlice 3 2 [(.bool false),.nil,.nil] [(0,3),(3,3)]) [.tm 8,.tm 9],Zc 11 88 10,Zm 6 11] (.seq (ZR [Zm 12 6,Zq 13 .neq 12 0] (ZC 13 (ZR [Zm 14 6,Zi 4 0,Zm 5 14] .ret) .skip)) (.seq (.draw [] [Zy 15 1 2,Zv 16 1 15,Zy 17 2 3,Zv 18 1 17,Zy 20 1 3,Zv 21 1 20,Zy 22 2 2,Zv 23 1 22,Zz 19 90 16 18,Zz 24 90 21 23,Zz 25 110 19 24,Zu 7 25]) (.seq (ZR [Za 26 0 2,Zf 27 1 26,Zm 28 27,Zj 29 28 true 0 3,Zh 30 28 true 1 29,u1 31 .and [.tm 28,.tm 30]] (ZC 31 (ZR [Zm 32 7,u1 33 .neg [.tm 32],Zm 4 33,Zi 5 0] .ret) .skip)) (.seq (ZR [Za 34 0 2,Zf 35 1 34] (ZC 35 (ZR [Zi 4 (-1),Zi 5 0] .ret) .skip)) (.seq (ZR [Za 36 0 3,Zf 37 1 36] (ZC 37 (ZR [Zi 4 1,Zi 5 0] .ret) .skip)) (ZR [Zm 38 7,Zm 4 38,Zi 5 0] .ret))))))))⟩
theorem YFN:Yg YGc Tryz.f83=some v83:=by kernel_rfl
def v111:VF:=⟨35,[.tmp 2,.tmp 3,.tmp 4],(ZR [u1 1 .box [.tm 0],u1 2 .mov [.cn (.bool false)],u1 3 .mov [.cn .nil],Zi 4 0] (ZR [Zt 8 3 1,u1 9 (.buildSlice 3 1 [(.bool false),.nil,.nil] [(0,3)]) [.tm 8],Zc 10 88 9,Zm 5 10] (.seq (ZR [Zm 11 5,Zq 12 .neq 11 0] (ZC 12 (ZR [Zm 13 5,u1 2 .mov [.cn (.bool false)],u1 3 .mov [.cn .nil],Zm 4 13] .ret) .skip)) (ZR [Za 15 1 1,Zf 16 1 15,Za 17 2 1,Zf 18 1 17,Zd 19 116 16 18,Zm 14 19,Ze 20 0 14,Ze 21 1 14,Zm 6 20,Zm 7 21] (.seq (ZR [Za 22 0 1,Zf 23 1 22,Zm 24 23,Zg 25 24 true 7,u2 26 24 true .len [.tm 25],u2 27 24 true (.cmp .gtr) [.tm 26,.cn (.int .i64 0)],u1 28 .and [.tm 24,.tm 27]] (ZC 28 (.region [Zm 29 6,u1 30 (.call 86) [.cn (.int .u64 1)],Zd 31 137 29 30,Zm 6 31]) .skip)) (ZR [Za 32 0 1,Zf 33 1 32,Zm 34 6,Zm 2 33,Zm 3 34,Zi 4 0] .ret))))))⟩
theorem YAn:Yg YGc Tryz.f111=some v111:=by kernel_rfl
theorem Yh9{a b:Nat}:nl (a*b)<=nl a+nl b:=by
 rw[nl_le,YGo]
 exact Nat.mul_lt_mul'' (YbO a) (YbO b)
theorem YqS{t:Bool}{p q:Fr}(h:rnum p.1 p.2=rnum q.1 q.2/\rden p.1 p.2=rden q.1 q.2/\decide (p.1<0)=decide (q.1<0)):encF t p=encF t q:=by
 unfold encF;rw[h.1,h.2.1,h.2.2]
theorem YqX{p q:Fr}(h:rnum p.1 p.2=rnum q.1 q.2/\rden p.1 p.2=rden q.1 q.2/\decide (p.1<0)=decide (q.1<0))(hq:frOk q)(hd:0<p.2):frOk p:=
 ⟨hd,by rw[h.1];exact hq.2.1,by rw[h.2.1];exact hq.2.2⟩
theorem YrA{p q:Fr}(hp:frOk p)(hq:frOk q):∀x∈ [p,q],frOk x:=by
 intro x hx
 simp only[YGK,List.not_mem_nil,or_false]at hx
 rcases hx with rfl|rfl
 ·exact hp
 ·exact hq
theorem list1{p:Fr}(hp:frOk p):∀x∈ [p],frOk x:=by
 intro x hx
 simp only[YGK,List.not_mem_nil,or_false]at hx
 rcases hx with rfl
 exact hp
theorem Yi5{p:Fr}{neg t1 z1 t2 z2:Bool}{n1 s1 n2 s2:Nat}{g1 g2:Nat->List SV}(h:YgU p neg z1 n1 s1 g1 z2 n2 s2 g2):le 0 0 (.agg [.bool neg,.vs t1 z1 n1 s1 g1,.vs t2 z2 n2 s2 g2]) (.agg (encF false p)):=by
 obtain⟨_,h1,h2,h3,h4,h5,h6,h7,h8,h9⟩:=h
 simp only[encF,natV,Yv1,Ynw,Yro,Yrp,YuK]
 exact⟨h1,⟨fun h=>(by cases h),h2,h6,h4,h8⟩,⟨fun h=>(by cases h),h3,h7,h5,h9⟩,trivial⟩
theorem YvJ{k:SV->List HO->Prop}{al:Bool}{hp:List HO}{p:Fr}(h:k (.tup [.agg (encF true p),.int .i64 0]) []):YD al k (.tup [.agg (encF true p),.int .i64 0]) hp:=
 YC (show k _ []from h) (Yv (.tup [.agg (encF true p),.int .i64 0]) ⟨⟨trivial,trivial,trivial,trivial⟩,trivial,trivial⟩) (fun _=>by simp [encF,natV,Yl,Ym])
theorem Yc1{k:SV->List HO->Prop}{al:Bool}{hp:List HO}{κ κ':IntKind}{x y:Int}(h:k (.tup [.int κ x,.int κ' y]) []):YD al k (.tup [.int κ x,.int κ' y]) hp:=
 YC (show k _ []from h) (Yv (.tup [.int κ x,.int κ' y]) ⟨trivial,trivial,trivial⟩) (fun _=>by simp [Yl,Ym])
theorem YuX(a b:Nat): -1<=ordN a b/\ordN a b<=1:=by unfold ordN;split <;> (try split) <;> omega
def qmulC:Ctr:={ alias:=false,of:=fun l=>match l with
 | [.agg [.bool neg,.vs _ z1 n1 s1 g1,.vs _ z2 n2 s2 g2],.agg [.bool neg',.vs _ z1' n1' s1' g1',.vs _ z2' n2' s2' g2']]=> .ex Fr fun p=> .ex Fr fun q=>
     .pre (YgU p neg z1 n1 s1 g1 z2 n2 s2 g2/\YgU q neg' z1' n1' s1' g1' z2' n2' s2' g2'/\frOk (p.1*q.1,p.2*q.2)) (.fin (.tup [.agg (encF true (p.1*q.1,p.2*q.2)),.int .i64 0]) [])
 |_=>noC}
def divF(p q:Fr):Fr:=(nsg (decide (q.1<0)) 1*p.1*q.2,p.2*q.1.natAbs)
def qdivC:Ctr:={ alias:=false,of:=fun l=>match l with
 | [.agg [.bool neg,.vs _ z1 n1 s1 g1,.vs _ z2 n2 s2 g2],.agg [.bool neg',.vs _ z1' n1' s1' g1',.vs _ z2' n2' s2' g2']]=> .ex Fr fun p=> .ex Fr fun q=>
     .pre (YgU p neg z1 n1 s1 g1 z2 n2 s2 g2/\YgU q neg' z1' n1' s1' g1' z2' n2' s2' g2'/\q.1≠0/\frOk (divF p q)) (.fin (.tup [.agg (encF true (divF p q)),.int .i64 0]) [])
 |_=>noC}
def qcmpC:Ctr:={ alias:=false,of:=fun l=>match l with
 | [.agg [.bool neg,.vs _ z1 n1 s1 g1,.vs _ z2 n2 s2 g2],.agg [.bool neg',.vs _ z1' n1' s1' g1',.vs _ z2' n2' s2' g2']]=> .ex Fr fun p=> .ex Fr fun q=>
     .pre (YgU p neg z1 n1 s1 g1 z2 n2 s2 g2/\YgU q neg' z1' n1' s1' g1' z2' n2' s2' g2') (.fin (.tup [.int .i64 (cmpQ p.1 p.2 q.1 q.2),.int .i64 0]) [])
 |_=>noC}
def qfloorC:Ctr:={ alias:=false,of:=fun l=>match l with
 | [.agg [.bool neg,.vs _ z1 n1 s1 g1,.vs _ z2 n2 s2 g2]]=> .ex Fr fun p=>
     .pre (YgU p neg z1 n1 s1 g1 z2 n2 s2 g2) (.fin (.tup [.bool (decide (p.1<0)),natS false (p.1/(p.2:Int)).natAbs,.int .i64 0]) [])
 |_=>noC}
def R6:Env:={ ct:=fun n=>match n with|88=>some badqC|89=>some lowestC|90=>some timesC|110=>some orderC|86=>some ofC|116=>some divideC|137=>some plusC|_=>none,fn:=fun _=>none,meth:=fun _ _=>none}
theorem Yiu:R6.ct 88=some badqC:=rfl
theorem Ypa:R6.ct 89=some lowestC:=rfl
theorem Ylt:R6.ct 90=some timesC:=rfl
theorem YtD:R6.ct 110=some orderC:=rfl
theorem YwV:R6.ct 86=some ofC:=rfl
theorem YtE:R6.ct 116=some divideC:=rfl
theorem YtF:R6.ct 137=some plusC:=rfl
theorem YtG:Yq YGc R6:=by
 refine⟨fun f c h=>?_,fun f vf h=>?_,(fun _ _ _ h=>by cases h),by kernel_rfl,(fun _ h=>by cases h)⟩
 ·simp only[R6]at h
  split at h
  ·cases h;exact⟨Yp9,Tryz.f88,Tryz.func88,by kernel_rfl,by kernel_rfl⟩
  ·cases h;exact⟨YkG,Tryz.f89,Tryz.func89,by kernel_rfl,by kernel_rfl⟩
  ·cases h;exact⟨Yod,Tryz.f90,Tryz.func90,by kernel_rfl,by kernel_rfl⟩
  ·cases h;exact⟨YbT,Tryz.f110,Tryz.func110,by kernel_rfl,by kernel_rfl⟩
  ·cases h;exact⟨YuW,Tryz.f86,Tryz.func86,by kernel_rfl,by kernel_rfl⟩
  ·cases h;exact⟨YgM,Tryz.f116,Tryz.func116,by kernel_rfl,by kernel_rfl⟩
  ·cases h;exact⟨Yr2,Tryz.f137,Tryz.func137,by kernel_rfl,by kernel_rfl⟩
  ·cases h
 ·cases h
theorem Yzj:qmulC.ok YGc 55:=by
 refine Yb Tryz.func55 YFn YtG 300 qmulC fun args k h=>?_
 simp only[qmulC]at h
 split at h
 ·rename_i neg t1 z1 n1 s1 g1 t2 z2 n2 s2 g2 neg' t1' z1' n1' s1' g1' t2' z2' n2' s2' g2'
  obtain⟨p,q,⟨hpp,hqq,hpq⟩,h⟩:=h
  refine⟨[.agg (encF false p),.agg (encF false q)],⟨Yi5 hpp,Yi5 hqq,trivial⟩,?_⟩
  have hp:=hpp.1
  have hq:=hqq.1
  clear hpp hqq
  (try dsimp only[v55,Yiu,Ypa,Ylt,badqC,lowestC,timesC,natS,natV,encF,go_sem,reduceIte])
  simp only[Yc,YGa,YF9,reduceCtorEq,YF8,decide_true,decide_false,Bool.and_true,YHq,Bool.and_false,YHp,Bool.not_true,Bool.not_false,Bool.or_false,YHx,Bool.or_true,Bool.true_or,Bool.and_self,Bool.or_self,YGC,Bool.true_eq_false,false_imp_iff,forall_const,true_and,and_true,implies_true,reduceCtorEq,not_true_eq_false,not_false_eq_true,ite_true,ite_false]
  have⟨hp0,hp1,hp2⟩:=hp
  have⟨hq0,hq1,hq2⟩:=hq
  have m1:= @Yh9 (rnum p.1 p.2) (rnum q.1 q.2)
  have m2:= @Yh9 (rden p.1 p.2) (rden q.1 q.2)
  have hz:=q_mul hp0 hq0 (n1:=p.1) (n2:=q.1) rfl
  have hdp:0<rden p.1 p.2*rden q.1 q.2:=YHd (YaY hp0) (YaY hq0)
  have hM:frOk (nsg (!(decide (p.1<0)==decide (q.1<0))) (rnum p.1 p.2*rnum q.1 q.2),rden p.1 p.2*rden q.1 q.2):=YqX (q:=(p.1*q.1,p.2*q.2)) hz hpq hdp
  refine⟨by decide,[p,q],⟨⟨rfl,rfl,fun k hk=>match k,hk with|0,_=>Yd _|1,_=>Yd _⟩,by simp,YrA hp hq⟩,rnum p.1 p.2,rnum q.1 q.2,⟨Ye (by omega),Ye (by omega),by omega⟩,rden p.1 p.2,rden q.1 q.2,⟨Ye (by omega),Ye (by omega),by omega⟩,
   rnum p.1 p.2*rnum q.1 q.2,rden p.1 p.2*rden q.1 q.2,⟨Ye (by omega),rfl,Ye (by omega),rfl,hdp,by omega,by omega,hM⟩,by decide,by decide,?_⟩
  have e:=YqS (t:=true) (p:=(nsg (!(decide (p.1<0)==decide (q.1<0))) (rnum p.1 p.2*rnum q.1 q.2),rden p.1 p.2*rden q.1 q.2)) (q:=(p.1*q.1,p.2*q.2)) hz
  have h:k (.tup [.agg (encF true (p.1*q.1,p.2*q.2)),.int .i64 0]) []:=h
  rw[<-e]at h
  exact YvJ h
 ·exact h.1.elim
theorem Yzi:qdivC.ok YGc 87:=by
 refine Yb Tryz.func87 YFR YtG 300 qdivC fun args k h=>?_
 simp only[qdivC]at h
 split at h
 ·rename_i neg t1 z1 n1 s1 g1 t2 z2 n2 s2 g2 neg' t1' z1' n1' s1' g1' t2' z2' n2' s2' g2'
  obtain⟨p,q,⟨hpp,hqq,hn0,hpq⟩,h⟩:=h
  refine⟨[.agg (encF false p),.agg (encF false q)],⟨Yi5 hpp,Yi5 hqq,trivial⟩,?_⟩
  have hp:=hpp.1
  have hq:=hqq.1
  clear hpp hqq
  (try dsimp only[v87,Yiu,Ypa,Ylt,badqC,lowestC,timesC,natS,natV,encF,go_sem,reduceIte])
  simp only[Yc,YGa,YF9,reduceCtorEq,YF8,decide_true,decide_false,Bool.and_true,YHq,Bool.and_false,YHp,Bool.not_true,Bool.not_false,Bool.or_false,YHx,Bool.or_true,Bool.true_or,Bool.and_self,Bool.or_self,YGC,Bool.true_eq_false,false_imp_iff,forall_const,true_and,and_true,implies_true,reduceCtorEq,not_true_eq_false,not_false_eq_true,ite_true,ite_false]
  have⟨hp0,hp1,hp2⟩:=hp
  have⟨hq0,hq1,hq2⟩:=hq
  have m1:= @Yh9 (rnum p.1 p.2) (rden q.1 q.2)
  have m2:= @Yh9 (rden p.1 p.2) (rnum q.1 q.2)
  have hz:=q_div hp0 hq0 hn0 (n1:=p.1) (n2:=q.1) rfl
  have hrn:0<rnum q.1 q.2:=Nat.pos_of_ne_zero fun hh=>hn0 ((Yih hq0).1 hh)
  have hdp:0<rden p.1 p.2*rnum q.1 q.2:=YHd (YaY hp0) hrn
  have hrl:=nl_pos.2 hrn
  refine⟨by decide,[p,q],⟨⟨rfl,rfl,fun k hk=>match k,hk with|0,_=>Yd _|1,_=>Yd _⟩,by simp,YrA hp hq⟩,?_⟩
  have hM:frOk (nsg (!(decide (p.1<0)==decide (q.1<0))) (rnum p.1 p.2*rden q.1 q.2),rden p.1 p.2*rnum q.1 q.2):=YqX (q:=divF p q) hz hpq hdp
  refine⟨fun hh=>by omega,fun _=>⟨rnum p.1 p.2,rden q.1 q.2,⟨Ye (by omega),Ye (by omega),by omega⟩,rden p.1 p.2,rnum q.1 q.2,⟨Ye (by omega),Ye (by omega),by omega⟩,
   rnum p.1 p.2*rden q.1 q.2,rden p.1 p.2*rnum q.1 q.2,⟨Ye (by omega),rfl,Ye (by omega),rfl,hdp,by omega,by omega,hM⟩,by decide,by decide,?_⟩⟩
  have e:=YqS (t:=true) (p:=(nsg (!(decide (p.1<0)==decide (q.1<0))) (rnum p.1 p.2*rden q.1 q.2),rden p.1 p.2*rnum q.1 q.2)) (q:=divF p q) hz
  have h:k (.tup [.agg (encF true (divF p q)),.int .i64 0]) []:=h
  rw[<-e]at h
  exact YvJ h
 ·exact h.1.elim
theorem Yzh:qcmpC.ok YGc 83:=by
 refine Yb Tryz.func83 YFN YtG 300 qcmpC fun args k h=>?_
 simp only[qcmpC]at h
 split at h
 ·rename_i neg t1 z1 n1 s1 g1 t2 z2 n2 s2 g2 neg' t1' z1' n1' s1' g1' t2' z2' n2' s2' g2'
  obtain⟨p,q,⟨hpp,hqq⟩,h⟩:=h
  refine⟨[.agg (encF false p),.agg (encF false q)],⟨Yi5 hpp,Yi5 hqq,trivial⟩,?_⟩
  have hp:=hpp.1
  have hq:=hqq.1
  clear hpp hqq
  (try dsimp only[v83,Yiu,YtD,Ylt,badqC,orderC,timesC,natS,natV,encF,go_sem,reduceIte])
  simp only[Yc,YGa,YF9,reduceCtorEq,YF8,decide_true,decide_false,Bool.and_true,YHq,Bool.and_false,YHp,Bool.not_true,Bool.not_false,Bool.or_false,YHx,Bool.or_true,Bool.true_or,Bool.and_self,Bool.or_self,YGC,Bool.true_eq_false,false_imp_iff,forall_const,true_and,and_true,implies_true,reduceCtorEq,not_true_eq_false,not_false_eq_true,ite_true,ite_false]
  have⟨hp0,hp1,hp2⟩:=hp
  have⟨hq0,hq1,hq2⟩:=hq
  have m1:= @Yh9 (rnum p.1 p.2) (rden q.1 q.2)
  have m2:= @Yh9 (rnum q.1 q.2) (rden p.1 p.2)
  refine⟨by decide,[p,q],⟨⟨rfl,rfl,fun k hk=>match k,hk with|0,_=>Yd _|1,_=>Yd _⟩,by simp,YrA hp hq⟩,rnum p.1 p.2,rden q.1 q.2,⟨Ye (by omega),Ye (by omega),by omega⟩,rnum q.1 q.2,rden p.1 p.2,⟨Ye (by omega),Ye (by omega),by omega⟩,rnum p.1 p.2*rden q.1 q.2,rnum q.1 q.2*rden p.1 p.2,⟨Ye (by omega),Ye (by omega)⟩,?_⟩
  have e:=q_cmp hp0 hq0 (n1:=p.1) (n2:=q.1)
  have h:k (.tup [.int .i64 (cmpQ p.1 p.2 q.1 q.2),.int .i64 0]) []:=h
  rw[e]at h
  have ho:=YuX (rnum p.1 p.2*rden q.1 q.2) (rnum q.1 q.2*rden p.1 p.2)
  refine⟨fun hc=>?_,fun hc=>⟨fun hd=>?_,fun hd=>⟨fun he=>?_,fun he=>?_⟩⟩⟩
  ·rw[YGi,decide_eq_true_eq,decide_eq_true_eq]at hc
   rw[if_pos hc]at h
   rw[YGd _ (by omega),Int.zero_sub]
   exact Yc1 h
  ·rw[YGZ,decide_eq_false_iff_not,decide_eq_false_iff_not]at hc
   rw[if_neg (by omega),if_pos hd]at h
   exact Yc1 h
  ·rw[if_neg (by omega),if_neg hd,if_pos he]at h
   exact Yc1 h
  ·rw[if_neg (by omega),if_neg hd,if_neg he]at h
   exact Yc1 h
 ·exact h.1.elim
theorem Ysh:qfloorC.ok YGc 111:=by
 refine Yb Tryz.func111 YAn YtG 300 qfloorC fun args k h=>?_
 simp only[qfloorC]at h
 split at h
 ·rename_i neg t1 z1 n1 s1 g1 t2 z2 n2 s2 g2
  obtain⟨p,hpp,h⟩:=h
  refine⟨[.agg (encF false p)],⟨Yi5 hpp,trivial⟩,?_⟩
  have hp:=hpp.1
  clear hpp
  (try dsimp only[v111,Yiu,YtE,YtF,YwV,badqC,divideC,plusC,ofC,natS,natV,encF,go_sem,reduceIte])
  simp only[Yc,YGa,YF9,reduceCtorEq,YF8,decide_true,decide_false,Bool.and_true,YHq,Bool.and_false,YHp,Bool.not_true,Bool.not_false,Bool.or_false,YHx,Bool.or_true,Bool.true_or,Bool.and_self,Bool.or_self,YGC,Bool.true_eq_false,false_imp_iff,forall_const,true_and,and_true,implies_true,reduceCtorEq,not_true_eq_false,not_false_eq_true,ite_true,ite_false]
  have⟨hp0,hp1,hp2⟩:=hp
  refine⟨by decide,[p],⟨⟨rfl,rfl,fun k hk=>match k,hk with|0,_=>Yd _⟩,by simp,list1 hp⟩,rnum p.1 p.2,rden p.1 p.2,⟨Ye (by omega),rfl,Ye (by omega),YaY hp0,by omega,by omega⟩,?_⟩
  have hdl:=YaY (n:=p.1) hp0
  have e:=congrArg Int.natAbs (Yzg (n:=p.1) hp0)
  rw[Yg6]at e
  have h:k (.tup [.bool (decide (p.1<0)),natS false (p.1/(p.2:Int)).natAbs,.int .i64 0]) []:=h
  rw[e]at h
  have hdv:nl (rnum p.1 p.2/rden p.1 p.2)<=512:=YGg (YbF (YHm _ _)) hp1
  have hb:decide (0<(nl (rnum p.1 p.2%rden p.1 p.2):Int))=decide (rnum p.1 p.2%rden p.1 p.2≠0):=by
   congr 1
   have:=nl_eq0 (a:=rnum p.1 p.2%rden p.1 p.2)
   exact propext (by omega)
  rw[hb]
  have hfin:∀x:Nat,k (.tup [.bool (decide (p.1<0)),natS false x,.int .i64 0]) []->∀hp,YD qfloorC.alias k (.tup [.bool (decide (p.1<0)),.vs true false (nl x) 1 (fun k=>[.int .u32 (dig x k)]),.int .i64 0]) hp:=fun x hk hp=>
   YC (show k _ []from hk) (Yv (.tup [.bool (decide (p.1<0)),natS false x,.int .i64 0]) ⟨trivial,trivial,trivial,trivial⟩) (fun _=>by simp [natS,Yl,Ym])
  refine⟨by decide,by decide,fun hc=>⟨by decide,rnum p.1 p.2/rden p.1 p.2,1,⟨Ye (by omega),Ye (by decide),by omega,by decide⟩,hfin _ ?_ _⟩,fun hc=>hfin _ ?_ _⟩
  ·rw[Ynn,if_pos hc]at h;exact h
  ·rw[Ynn,if_neg (by rw[hc];simp)]at h;exact h
 ·exact h.1.elim
def v112:VF:=⟨24,[.tmp 2,.tmp 3],(ZR [u1 2 .mov [.cn (.int .u64 0)],Zi 3 0] (ZR [Zm 5 0,u1 6 (.buildSlice 1 1 [.nil] [(0,1)]) [.tm 5],Zc 7 138 6,Zm 4 7] (.seq (ZR [Zm 8 4,Zq 9 .eql 8 0,Zm 10 9,Zg 11 10 true 0,u2 12 10 true .len [.tm 11],u2 13 10 true (.cmp .gtr) [.tm 12,.cn (.int .i64 2)],u1 14 .and [.tm 10,.tm 13]] (ZC 14 (.region [Zi 4 7]) .skip)) (.seq (ZR [Zm 15 4,Zq 16 .neq 15 0] (ZC 16 (ZR [Zm 17 4,u1 2 .mov [.cn (.int .u64 0)],Zm 3 17] .ret) .skip)) (ZR [Zm 18 0,u1 19 (.call 117) [.tm 18,.cn (.int .i64 1)],u1 20 (.ari .mul) [.tm 19,.cn (.int .u64 4294967296)],Zm 21 0,u1 22 (.call 117) [.tm 21,.cn (.int .i64 0)],Zo 23 .add 20 22,Zm 2 23,Zi 3 0] .ret)))))⟩
theorem YAo:Yg YGc Tryz.f112=some v112:=by kernel_rfl
def v138:VF:=⟨29,[.tmp 2],(ZR [Zi 2 0] (.seq (ZR [Zi 3 0] (.block 0 (.loop (.seq (ZR [Zm 5 3,Zm 6 0,Zl 7 6,Zr 8 .lss 5 7] (ZC 8 .skip (.exit 0))) (.seq (.block 1 (ZR [Zm 11 0,Zm 12 3,Zx 13 1 11 12,Zf 14 1 13,Zl 15 14,Zq 16 .gtr 15 512] (ZC 16 (ZR [Zi 2 3] .ret) .skip))) (.region [Zm 9 3,Zp 10 9 1,Zm 3 10])))))) (.seq (ZR [Zi 4 0] (.block 2 (.loop (.seq (ZR [Zm 17 4,Zm 18 0,Zl 19 18,Zr 20 .lss 17 19] (ZC 20 .skip (.exit 2))) (.seq (.block 3 (ZR [Zm 23 0,Zm 24 4,Zx 25 1 23 24,Zf 26 1 25,Zc 27 139 26,u1 28 .not [.tm 27]] (ZC 28 (ZR [Zi 2 2] .ret) .skip))) (.region [Zm 21 4,Zp 22 21 1,Zm 4 22])))))) (ZR [Zi 2 0] .ret))))⟩
theorem YAM:Yg YGc Tryz.f138=some v138:=by kernel_rfl
theorem ord_ge{a b:Nat}:0<=ordN a b↔b<=a:=by unfold ordN;split <;> (try split) <;> omega
def Yhp(p:Fr):Fr:=(-p.1,p.2)
def encN(p:Bool×Nat):List SV:=[natV false p.1 p.2]
def badnC:Ctr:={ alias:=false,of:=fun l=>match l with
 | [.vs _ _ n sz get]=> .ex (List (Bool×Nat)) fun l=> .pre (lsP 1 encN n sz get l/\l.length<=1000/\∀p∈l,nl p.2<=512) (.fin (.int .i64 0) [])
 |_=>noC}
def smallC:Ctr:={ alias:=false,of:=fun l=>match l with
 | [.vs _ z n sz get]=> .ex Nat fun a=> .pre (padP a n sz get/\n=nl a/\n<=512) (.fin (.tup [.int .u64 (if a<18446744073709551616 then(a:Int)else 0),.int .i64 (if a<18446744073709551616 then 0 else 7)]) [])
 |_=>noC}
def R7:Env:={ ct:=fun n=>match n with|88=>some badqC|89=>some lowestC|90=>some timesC|110=>some orderC|137=>some plusC|143=>some minusC|139=>some validC|_=>none,fn:=fun _=>none,meth:=fun _ _=>none}
theorem YtH:R7.ct 139=some validC:=rfl
theorem R7_ok:Yq YGc R7:=by
 refine⟨fun f c h=>?_,fun f vf h=>?_,(fun _ _ _ h=>by cases h),by kernel_rfl,(fun _ h=>by cases h)⟩
 ·simp only[R7]at h
  split at h
  ·cases h;exact⟨Yp9,Tryz.f88,Tryz.func88,by kernel_rfl,by kernel_rfl⟩
  ·cases h;exact⟨YkG,Tryz.f89,Tryz.func89,by kernel_rfl,by kernel_rfl⟩
  ·cases h;exact⟨Yod,Tryz.f90,Tryz.func90,by kernel_rfl,by kernel_rfl⟩
  ·cases h;exact⟨YbT,Tryz.f110,Tryz.func110,by kernel_rfl,by kernel_rfl⟩
  ·cases h;exact⟨Yr2,Tryz.f137,Tryz.func137,by kernel_rfl,by kernel_rfl⟩
  ·cases h;exact⟨YnA,Tryz.f143,Tryz.func143,by kernel_rfl,by kernel_rfl⟩
  ·cases h;exact⟨Yfk,Tryz.f139,Tryz.func139,by kernel_rfl,by kernel_rfl⟩
  ·cases h
 ·cases h
theorem Yme{p:Fr}(hp:0<p.2):rnum (Yhp p).1 (Yhp p).2=rnum p.1 p.2/\rden (Yhp p).1 (Yhp p).2=rden p.1 p.2/\(!decide (p.1<0)&&decide (0<(nl (rnum p.1 p.2):Int)))=decide ((Yhp p).1<0):=by
 have e:(Yhp p).1.natAbs=p.1.natAbs:=Int.natAbs_neg _
 refine⟨by unfold rnum fg;rw[e];rfl,by unfold rden fg;rw[e];rfl,?_⟩
 have h1:=Yih (n:=p.1) hp
 have h2:=nl_eq0 (a:=rnum p.1 p.2)
 have h3:(Yhp p).1= -p.1:=rfl
 rw[h3,YHz,YGi,YGA,decide_eq_false_iff_not,decide_eq_true_eq,decide_eq_true_eq]
 omega
theorem YAa{p:Fr}(h:frOk p):frOk (Yhp p):=⟨h.1,by rw[(Yme h.1).1];exact h.2.1,by rw[(Yme h.1).2.1];exact h.2.2⟩
theorem YB7:badnC.ok YGc 138:=by
 refine Yb Tryz.func138 YAM R7_ok 300 badnC fun args k h=>?_
 simp only[badnC]at h
 split at h
 ·rename_i tt z n sz get
  obtain⟨l,⟨⟨rfl,rfl,hg⟩,hmax,hok⟩,h⟩:=h
  refine⟨[.vs tt z l.length 1 (fun k=>encN (l.getD k default))],by simpa [leL,le]using hg,?_⟩
  (try dsimp only[v138,go_sem,reduceIte])
  (try simp only[Yc,YGa,YF9,reduceCtorEq,YF8])
  refine Loop.keep [0,2] Nat (fun i=>[(3,.int .i64 i)]) (fun _=>[]) [] (fun i=>i<=l.length) (fun i=>l.length-i) ?_ ?_
  ·refine⟨0,by omega,?_⟩
   (try dsimp only[go_sem,reduceIte])
   simp only[Ya] <;> simp
  ·rintro i hi
   (try dsimp only[encN,natV,YGb,go_sem,reduceIte])
   (try simp only[Yc,YGa,YF9,reduceCtorEq,YF8])
   refine⟨fun hlt=>?_,fun hge=>?_⟩
   ·have hl1:=hok _ (Yk (by omega:i<l.length))
    refine⟨⟨by omega,by omega⟩,fun hb=>by omega,fun _=>⟨i+1,by omega,by omega,?_⟩⟩
    rw[Yed (n:=l.length) (by omega) (by omega)]
    simp only[Ya] <;> simp
   ·refine Loop.keep [0,3] Nat (fun i=>[(4,.int .i64 i)]) (fun _=>[]) [] (fun i=>i<=l.length) (fun i=>l.length-i) ?_ ?_
    ·refine⟨0,by omega,?_⟩
     (try dsimp only[go_sem,reduceIte])
     simp only[Ya] <;> simp
    ·rintro i hi
     (try dsimp only[YtH,validC,encN,natV,YGb,go_sem,reduceIte])
     (try simp only[Yc,YGa,YF9,reduceCtorEq,YF8])
     refine⟨fun hlt=>?_,fun hge=>Yf h⟩
     have hl1:=hok _ (Yk (by omega:i<l.length))
     refine⟨⟨by omega,by omega⟩,(l.getD i default).2,Ye (by omega),fun hb=>?_,fun _=>⟨i+1,by omega,by omega,?_⟩⟩
     ·rw[decide_eq_true hl1]at hb;simp at hb
     ·rw[Yed (n:=l.length) (by omega) (by omega)]
      simp only[Ya] <;> simp
 ·exact h.1.elim
def R8:Env:={ ct:=fun n=>match n with|138=>some badnC|117=>some limbC|_=>none,fn:=fun _=>none,meth:=fun _ _=>none}
theorem YtJ:R8.ct 138=some badnC:=rfl
theorem YtI:R8.ct 117=some limbC:=rfl
theorem R8_ok:Yq YGc R8:=by
 refine⟨fun f c h=>?_,fun f vf h=>?_,(fun _ _ _ h=>by cases h),by kernel_rfl,(fun _ h=>by cases h)⟩
 ·simp only[R8]at h
  split at h
  ·cases h;exact⟨YB7,Tryz.f138,Tryz.func138,by kernel_rfl,by kernel_rfl⟩
  ·cases h;exact⟨Yrz,Tryz.f117,Tryz.func117,by kernel_rfl,by kernel_rfl⟩
  ·cases h
 ·cases h
theorem Yvm:smallC.ok YGc 112:=by
 refine Yb Tryz.func112 YAo R8_ok 300 smallC fun args k h=>?_
 simp only[smallC]at h
 split at h
 ·rename_i t1 z1 n sz get
  obtain⟨a,⟨⟨rfl,hn,ha,hg⟩,rfl,hn5⟩,h⟩:=h
  refine⟨[.vs t1 z1 (nl a) 1 (fun k=>[.int .u32 (dig a k)])],by simpa [leL,le]using hg,?_⟩
  (try dsimp only[v112,YtJ,badnC,YtI,limbC,go_sem,reduceIte])
  simp only[Yc,YGa,YF9,reduceCtorEq,YF8,decide_true,decide_false,Bool.and_true,YHq,Bool.and_false,YHp,Bool.not_true,Bool.not_false,Bool.or_false,YHx,Bool.or_true,Bool.true_or,Bool.and_self,Bool.or_self,YGC,Bool.true_eq_false,false_imp_iff,forall_const,true_and,and_true,implies_true,reduceCtorEq,not_true_eq_false,not_false_eq_true,ite_true,ite_false]
  have h2:nl a<=2↔a<18446744073709551616:=nl_le (n:=2)
  refine⟨by decide,[(z1,a)],⟨⟨rfl,rfl,fun k hk=>match k,hk with|0,_=>Yd _⟩,by simp,by simp;exact hn5⟩,fun hc=>⟨fun _=>?_,(fun hh=>by omega)⟩,fun hc=>?_⟩
  ·rw[if_neg (by omega),if_neg (by omega)]at h
   exact Yc1 h
  ·rw[if_pos (by omega),if_pos (by omega)]at h
   refine⟨a,⟨Ye (by omega),by decide⟩,a,⟨Ye (by omega),by decide⟩,?_⟩
   have e0:dig a (YHE 0)=a%4294967296:=YlI a
   have e1:dig a (YHE 1)=a/4294967296:=by
    show dig a 1=_
    rw[Ygi,YlI];omega
   have e2:IntKind.u64.wrap (IntKind.u64.wrap (((dig a (YHE 1):Nat):Int)*4294967296)+((dig a (YHE 0):Nat):Int))=(a:Int):=by
    rw[e0,e1,YGF (((a/4294967296:Nat):Int)*4294967296) (by omega),YGF _ (by omega)];omega
   rw[e2]
   exact Yc1 h
 ·exact h.1.elim
end Go.Proofs.YtmiclogmkfobgaaGreat
