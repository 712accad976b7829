/- Numbers by limbs of 32 bits, in plain Lean: digits, lengths, sums, differences, products. -/
import Derived.Test.YtmiclogmkfobgaaGreatMgX50c
import Derived.Test.YtmiclogmkfobgaaGreatProg
import Derived.Lib.BitFns
open Bool renaming and_eq_false_iff->YFZ,and_eq_true->YFd,false_and->YGi,false_eq_true->YFx,not_eq_true'->YFI,or_eq_true->YF5,true_and->YGm
open Int renaming eq_ofNat_of_zero_le->YFW,mul_le_mul_of_nonneg_right->YFz,natCast_mul->YFU,toNat->YGq,toNat_natCast->YE4
open Go.IntWalk renaming i64_in->YE7,u64_in->YFN,up_tdiv->YGg,up_tmod->YGr
open List renaming mem_cons->YFA
open Nat renaming add_mul->YFw,add_zero->YF8,div_add_mod->YFH,div_div_eq_div_mul->YFn,div_eq_of_lt->YGc,div_le_self->YGd,div_lt_iff_lt_mul->YFE,eq_zero_or_pos->YFB,gcd->YF1,le_div_iff_mul_le->YF0,le_of_lt->YGa,le_of_not_lt->YGk,le_refl->YFk,le_trans->YFa,lt_of_le_of_lt->YFG,lt_of_lt_of_le->YFS,lt_or_ge->YFu,mod_eq_of_lt->YFT,mod_lt->YFC,mul_add->YFJ,mul_assoc->YFg,mul_comm->YFc,mul_le_mul->YFt,mul_le_mul_left->YFe,mul_le_mul_right->YE9,mul_left_comm->YFY,mul_pos->YF3,not_lt_zero->YGe,pow_add->YFi,pow_le_pow_right->YFq,pow_mul->YFh,pow_pos->YFF,pow_succ->YFm,pow_zero->YGn,reduceAdd->YE5,reduceEqDiff->YE2,reduceLeDiff->YE3,succ_mul->YGp,zero_add->YGh,zero_le->YGj
open Go.Proofs.Tryz renaming prog->YE8
set_option linter.all false
namespace Go.Proofs.YtmiclogmkfobgaaGreat
open Go Go.Vx
def dig(a i:Nat):Nat:=a/4294967296^i%4294967296
theorem Yo(i:Nat):0<4294967296^i:=YFF (by decide)
theorem Yx(i:Nat):4294967296^(i+1)=4294967296^i*4294967296:=YFm ..
theorem YJ(a i:Nat):dig a i<4294967296:=YFC _ (by decide)
theorem Yar(a i:Nat):a%4294967296^(i+1)=a%4294967296^i+4294967296^i*dig a i:=Nat.mod_pow_succ
theorem Yk7(a:Nat):dig a 0=a%4294967296:=by simp [dig]
theorem YbE(i:Nat):dig 0 i=0:=by simp [dig]
theorem Yfl(a i:Nat):dig a (i+1)=dig (a/4294967296) i:=by
 unfold dig
 rw[YFn,Yx,YFc]
theorem Y3{a n i:Nat}(h:a<4294967296^n)(hi:n<=i):dig a i=0:=by
 unfold dig
 rw[YGc]
 exact YFS h (YFq (by decide) hi)
theorem Ygg{a b:Nat}:∀{n:Nat},(∀i,i<n->dig a i=dig b i)->a%4294967296^n=b%4294967296^n
 |0,_=>by simp [Nat.mod_one]
 |n+1,h=>by rw[Yar,Yar,Ygg fun i hi=>h i (by omega),h n (by omega)]
theorem Yk8{a b n:Nat}(ha:a<4294967296^n)(hb:b<4294967296^n)(h:∀i,i<n->dig a i=dig b i):a=b:=by
 have:=Ygg h
 rwa [YFT ha,YFT hb]at this
theorem Ybo{a j k:Nat}(h:k<j):dig (a%4294967296^j) k=dig a k:=by
 unfold dig
 obtain⟨m,rfl⟩:∃m,j=k+(m+1):=⟨j-k-1,by omega⟩
 rw[YFi,Nat.mod_mul_right_div_self,YFm,YFc,Nat.mod_mul_right_mod]
def nlF:Nat->Nat->Nat
 |0,_=>0
 |f+1,a=>if a=0 then 0 else nlF f (a/4294967296)+1
def nl(a:Nat):Nat:=nlF a a
theorem Ykf:∀(f a n:Nat),a<=f->(nlF f a<=n↔a<4294967296^n)
 |0,a,n,h=>by
  have:=Yo n
  simp only[nlF];omega
 |f+1,a,n,h=>by
  simp only[nlF]
  split
  ·rename_i h0;have:=Yo n;subst h0;simp;omega
  ·cases n with
   |zero=>simp;omega
   |succ n=>
    have:=Ykf f (a/4294967296) n (by omega)
    rw[Yx,<-YFE (by decide),<-this]
    omega
theorem nl_le{a n:Nat}:nl a<=n↔a<4294967296^n:=Ykf a a n (YFk _)
theorem YbD(a:Nat):a<4294967296^nl a:=nl_le.1 (YFk _)
theorem nl_0:nl 0=0:=rfl
theorem nl_pos{a:Nat}:0<nl a↔0<a:=by
 have:= @nl_le a 0
 simp at this;omega
theorem nl_eq0{a:Nat}:nl a=0↔a=0:=by
 have:= @nl_le a 0
 simp at this;omega
theorem YmZ{a:Nat}(h:a≠0):dig a (nl a-1)≠0:=by
 obtain⟨n,hn⟩:∃n,nl a=n+1:=⟨nl a-1,by have:=nl_eq0 (a:=a);omega⟩
 rw[hn,Nat.add_sub_cancel]
 have h1:=YbD a
 have h2:¬a<4294967296^n:=fun hh=>by have:=nl_le.2 hh;omega
 rw[hn,Yx]at h1
 unfold dig
 have h3:a/4294967296^n<4294967296:=by rw[YFE (Yo n),YFc];exact h1
 rw[YFT h3]
 have:=Nat.div_pos (YGk h2) (Yo n)
 omega
theorem Ybu{a b:Nat}(h:a<=b):nl a<=nl b:=nl_le.2 (YFG h (YbD b))
theorem Yav{a n:Nat}(h:a<4294967296^n)(ht:n=0\/dig a (n-1)≠0):nl a=n:=by
 have h1:=nl_le.2 h
 rcases ht with rfl|ht
 ·omega
 ·rcases YFu (nl a) n with h2|h2
  ·exact absurd (Y3 (YbD a) (by omega:nl a<=n-1)) ht
  ·omega
theorem Ya2{a n:Nat}(h:a<4294967296^(n+1))(h0:dig a n=0):a<4294967296^n:=by
 have:=Yar a n
 rw[h0,YFT h]at this
 rw[this]
 simpa using YFC a (Yo n)
def cy(a b i:Nat):Nat:=(a%4294967296^i+b%4294967296^i)/4294967296^i
theorem cy_0(a b:Nat):cy a b 0=0:=by simp [cy,Nat.mod_one]
theorem Yh1(a b i:Nat):cy a b i<=1:=by
 unfold cy
 have h1:=YFC a (Yo i)
 have h2:=YFC b (Yo i)
 have:(a%4294967296^i+b%4294967296^i)/4294967296^i<2:=by
  rw[YFE (Yo i)];omega
 omega
theorem YpN(a b i:Nat):(a+b)/4294967296^i=a/4294967296^i+b/4294967296^i+cy a b i:=by
 unfold cy
 have h1:=YFH a (4294967296^i)
 have h2:=YFH b (4294967296^i)
 generalize hP:4294967296^i=P at*
 have hp:0<P:=hP▸Yo i
 have e:a+b=P*(a/P+b/P)+(a%P+b%P):=by rw[YFJ];omega
 conv=>lhs;rw[e]
 rw[Nat.mul_add_div hp]
theorem Yeu(a b i:Nat):(dig a i+dig b i+cy a b i)%4294967296=dig (a+b) i:=by
 unfold dig
 rw[YpN]
 omega
theorem Yjw(a b i:Nat):(dig a i+dig b i+cy a b i)/4294967296=cy a b (i+1):=by
 have e:cy a b (i+1)=(a%4294967296^(i+1)+b%4294967296^(i+1))/4294967296^(i+1):=rfl
 rw[e,Yar,Yar,Yx,<-YFn]
 unfold cy
 generalize hP:4294967296^i=P at*
 have hp:0<P:=hP▸Yo i
 have e:a%P+P*dig a i+(b%P+P*dig b i)=P*(dig a i+dig b i)+(a%P+b%P):=by rw[YFJ];omega
 rw[e,Nat.mul_add_div hp]
theorem Yza{a b:Nat}(h:b<=a)(i:Nat):(4294967296+dig a i-dig b i-cy b (a-b) i)%4294967296=dig (a-b) i/\1-(4294967296+dig a i-dig b i-cy b (a-b) i)/4294967296=cy b (a-b) (i+1)
 /\dig b i+cy b (a-b) i<=4294967296+dig a i/\4294967296+dig a i-dig b i-cy b (a-b) i<8589934592:=by
 have e1:=Yeu b (a-b) i
 have e2:=Yjw b (a-b) i
 rw[show b+(a-b)=a by omega]at e1
 have h1:=YJ b i
 have h2:=YJ (a-b) i
 have h3:=Yh1 b (a-b) i
 have h4:=Yh1 b (a-b) (i+1)
 omega
def setD(V j x:Nat):Nat:=V-dig V j*4294967296^j+x*4294967296^j
theorem YaA(V j:Nat):V=4294967296^j*(4294967296*(V/4294967296^(j+1))+dig V j)+V%4294967296^j:=by
 have h1:=YFH V (4294967296^j)
 have h2:=YFH (V/4294967296^j) 4294967296
 rw[YFn,<-Yx]at h2
 unfold dig
 rw[h2,h1]
theorem Ycs(V j x:Nat):setD V j x=4294967296^j*(4294967296*(V/4294967296^(j+1))+x)+V%4294967296^j:=by
 have:=YaA V j
 unfold setD
 generalize dig V j=d at*
 generalize V/4294967296^(j+1)=h at*
 generalize V%4294967296^j=l at*
 generalize 4294967296^j=P at*
 rw[YFJ]at this⊢
 rw[YFc d,YFc x]
 omega
theorem Ydr(V j x:Nat):setD V j x+dig V j*4294967296^j=V+x*4294967296^j:=by
 have:=YaA V j
 rw[Ycs]
 generalize dig V j=d at*
 generalize V/4294967296^(j+1)=h at*
 generalize V%4294967296^j=l at*
 generalize 4294967296^j=P at*
 rw[YFJ]at this⊢
 rw[YFc d,YFc x]
 omega
theorem Yei{V j x:Nat}(hx:x<4294967296):setD V j x/4294967296^(j+1)=V/4294967296^(j+1):=by
 have hl:=YFC V (Yo j)
 have e:∀Y:Nat,Y/4294967296^(j+1)=Y/4294967296^j/4294967296:=fun Y=>by rw[Yx,YFn]
 rw[Ycs,e (4294967296^j*(4294967296*(V/4294967296^(j+1))+x)+V%4294967296^j),Nat.mul_add_div (Yo j),YGc hl]
 generalize V/4294967296^(j+1)=h
 omega
theorem Yce{V j x:Nat}(hx:x<4294967296)(k:Nat):dig (setD V j x) k=if k=j then x else dig V k:=by
 have hl:=YFC V (Yo j)
 rcases Nat.lt_trichotomy k j with h|h|h
 ·rw[if_neg (by omega),<-Ybo h,<-Ybo (a:=V) h,Ycs,Nat.mul_add_mod,Nat.mod_mod]
 ·subst h
  rw[if_pos rfl,Ycs]
  unfold dig
  rw[Nat.mul_add_div (Yo k),YGc hl]
  omega
 ·rw[if_neg (by omega)]
  obtain⟨m,rfl⟩:∃m,k=(j+1)+m:=⟨k-(j+1),by omega⟩
  unfold dig
  have e:setD V j x/4294967296^(j+1)=V/4294967296^(j+1):=by
   exact Yei hx
  rw[YFi,<-YFn,<-YFn,e]
theorem YiR{V j x n:Nat}(hV:V<4294967296^n)(hx:x<4294967296)(hj:j<n):setD V j x<4294967296^n:=by
 obtain⟨m,rfl⟩:∃m,n=m+(j+1):=⟨n-(j+1),by omega⟩
 rw[YFi,<-YFE (Yo _)]at hV⊢
 rw[Yei hx]
 exact hV
theorem YiD{a b i k V c:Nat}(h:V+c*4294967296^(i+k)=(a%4294967296^i)*b+dig a i*(b%4294967296^k)*4294967296^i):
 setD V (i+k) ((dig V (i+k)+dig a i*dig b k+c)%4294967296)+((dig V (i+k)+dig a i*dig b k+c)/4294967296)*4294967296^(i+(k+1))=(a%4294967296^i)*b+dig a i*(b%4294967296^(k+1))*4294967296^i:=by
 have e1:=Ydr V (i+k) ((dig V (i+k)+dig a i*dig b k+c)%4294967296)
 have e2:=YFH (dig V (i+k)+dig a i*dig b k+c) 4294967296
 rw[Yar,show i+(k+1)=(i+k)+1 by omega,Yx]
 rw[YFi]at*
 generalize setD V (i+k) ((dig V (i+k)+dig a i*dig b k+c)%4294967296)=V' at*
 generalize(dig V (i+k)+dig a i*dig b k+c)%4294967296=r at*
 generalize(dig V (i+k)+dig a i*dig b k+c)/4294967296=q at*
 generalize dig V (i+k)=d at*
 generalize dig a i=x at*
 generalize dig b k=y at*
 generalize b%4294967296^k=bm at*
 generalize a%4294967296^i=am at*
 generalize 4294967296^i=P at*
 generalize 4294967296^k=R at*
 grind
theorem Yke{d x y c:Nat}(hd:d<4294967296)(hx:x<4294967296)(hy:y<4294967296)(hc:c<4294967296):d+x*y+c<18446744073709551616/\(d+x*y+c)/4294967296<4294967296:=by
 have:x*y<=4294967295*4294967295:=YFt (by omega) (by omega)
 omega
theorem YqV{a b i n m:Nat}(hi:i<=n)(ha:a<4294967296^n)(hb:b<4294967296^m):(a%4294967296^i)*b<4294967296^(n+m+1):=by
 have h1:=YFC a (Yo i)
 have h2:a%4294967296^i<=4294967296^n:=YFa (YGa h1) (YFq (by decide) hi)
 have h3:(a%4294967296^i)*b<=4294967296^n*4294967296^m:=YFt h2 (YGa hb)
 rw[<-YFi]at h3
 rw[Yx]
 have:=Yo (n+m)
 omega
theorem YcC(a m k:Nat):dig (a/4294967296^m) k=dig a (m+k):=by
 unfold dig
 rw[YFi,YFn]
theorem Yll(a b:Nat):∃n,a<4294967296^n/\b<4294967296^n:=
 ⟨nl a+nl b,YFS (YbD a) (YFq (by decide) (by omega)),YFS (YbD b) (YFq (by decide) (by omega))⟩
theorem YeB{a b:Nat}(h:∀i,dig a i=dig b i):a=b:=by
 obtain⟨n,h1,h2⟩:=Yll a b
 exact Yk8 h1 h2 fun i _=>h i
theorem YpM{a b m:Nat}(h:∀i,m<=i->dig a i=dig b i):a/4294967296^m=b/4294967296^m:=
 YeB fun i=>by rw[YcC,YcC];exact h _ (by omega)
theorem YdI{a b j:Nat}(h:∀i,j<i->dig a i=dig b i)(hd:dig a j<dig b j):a<b:=by
 have h1:=YaA a j
 have h2:=YaA b j
 rw[YpM (m:=j+1) fun i hi=>h i hi]at h1
 have h3:=YFC a (Yo j)
 generalize b/4294967296^(j+1)=q at*
 generalize 4294967296^j=P at*
 generalize a%P=x at*
 generalize b%P=y at*
 generalize dig a j=d at*
 generalize dig b j=e at*
 have:P*(4294967296*q+d)+P<=P*(4294967296*q+e):=by
  rw[<-Nat.mul_succ];exact YFe _ (by omega)
 omega
def ordN(a b:Nat):Int:=if a<b then -1 else if b<a then 1 else 0
theorem Ym{j:Nat}(h:0<j)(hj:j<=9223372036854775807):IntKind.i64.wrap ((j:Int)-1)=((j-1:Nat):Int):=by
 rw[YE7 _ (by omega)];omega
theorem Ybg{x:Nat}(h:x<18446744073709551616):IntKind.u64.wrap (x:Int)=x:=YFN _ (by omega)
theorem Ye7{x:Nat}(h:x<4294967296):IntKind.u32.wrap (x:Int)=x:=IntWalk.u32_in _ (by omega)
theorem Yep{x y:Nat}(h:x+y<18446744073709551616):IntKind.u64.wrap ((x:Int)+(y:Int))=((x+y:Nat):Int):=by rw[YFN _ (by omega)];simp
theorem YkJ{x y:Nat}(h:x*y<18446744073709551616):IntKind.u64.wrap ((x:Int)*(y:Int))=((x*y:Nat):Int):=by
 rw[<-YFU];exact Ybg h
theorem Yzh{x y:Nat}(h:y<=x)(hx:x<18446744073709551616):IntKind.u64.wrap ((x:Int)-(y:Int))=((x-y:Nat):Int):=by
 rw[YFN _ (by omega)];omega
theorem u_rem(x:Nat):((x:Int)).tmod 4294967296=((x%4294967296:Nat):Int):=YGr rfl rfl
theorem Yuz{x:Nat}(h:x<18446744073709551616):IntKind.u64.wrap (((x:Int)).tdiv 4294967296)=((x/4294967296:Nat):Int):=by
 have e:((x:Int)).tdiv 4294967296=((x/4294967296:Nat):Int):=YGg (y:=4294967296) rfl rfl
 rw[e];exact Ybg (by omega)
theorem Ynx(x:Nat):IntKind.u32.wrap (((x:Int)).tmod 4294967296)=((x%4294967296:Nat):Int):=by
 rw[u_rem];exact Ye7 (YFC _ (by decide))
set_option maxRecDepth 100000
set_option maxHeartbeats 4000000
def v117:VF:=⟨14,[.tmp 4],(ZR [u1 4 .mov [.cn (.int .u64 0)]] (.seq (ZR [Zm 5 1,Zm 6 0,Zl 7 6,Zr 8 .lss 5 7] (ZC 8 (ZR [Zm 9 0,Zm 10 1,Zx 11 1 9 10,Zf 12 1 11,u1 13 (.conv .u64) [.tm 12],Zm 4 13] .ret) .skip)) (ZR [u1 4 .mov [.cn (.int .u64 0)]] .ret)))⟩
theorem Yzz:Yg YE8 Tryz.f117=some v117:=by kernel_rfl
def v113:VF:=⟨23,[.tmp 2],(ZR [u1 2 .mov [.cn .nil]] (ZR [Zm 4 0,Zl 5 4,Zm 3 5] (.seq (.block 0 (.loop (.seq (ZR [Zm 6 3,Zq 7 .gtr 6 0,Zm 8 7,Zg 9 8 true 0,Zg 10 8 true 3,u2 11 8 true (.ari .sub) [.tm 10,.cn (.int .i64 1)],u2 12 8 true (.idxAddr 1) [.tm 9,.tm 11],Zh 13 8 true 1 12,u2 14 8 true (.cmp .eql) [.tm 13,.cn (.int .u32 0)],u1 15 .and [.tm 8,.tm 14]] (ZC 15 .skip (.exit 0))) (.block 1 (.region [Zm 16 3,u1 17 (.ari .sub) [.tm 16,.cn (.int .i64 1)],Zm 3 17]))))) (ZR [u1 18 (.buildSlice 1 0 [(.int .u32 0)] []) [],Zm 19 0,Zm 20 3,u1 21 (.slice 1 false true) [.tm 19,.tm 20],u1 22 (.append 1 4 [(.int .u32 0)]) [.tm 18,.tm 21],Zm 2 22] .ret))))⟩
theorem Yzw:Yg YE8 Tryz.f113=some v113:=by kernel_rfl
def v86:VF:=⟨11,[.tmp 2],(ZR [u1 2 .mov [.cn .nil]] (ZR [Zm 3 0,u1 4 .rem [.tm 3,.cn (.int .u64 4294967296)],u1 5 (.conv .u32) [.tm 4],Zm 6 0,u1 7 .quo [.tm 6,.cn (.int .u64 4294967296)],u1 8 (.conv .u32) [.tm 7],u1 9 (.buildSlice 1 2 [(.int .u32 0)] [(0,1),(1,1)]) [.tm 5,.tm 8],Zc 10 113 9,Zm 2 10] .ret))⟩
theorem YEO:Yg YE8 Tryz.f86=some v86:=by kernel_rfl
def v110:VF:=⟨30,[.tmp 4],(ZR [Zi 4 0] (.seq (ZR [Zm 6 0,Zl 7 6,Zm 8 1,Zl 9 8,u1 10 .max [.tm 7,.tm 9],u1 11 (.ari .sub) [.tm 10,.cn (.int .i64 1)],Zm 5 11] (.block 0 (.loop (.seq (ZR [Zm 12 5,Zq 13 .geq 12 0] (ZC 13 .skip (.exit 0))) (.seq (.block 1 (.seq (ZR [Zm 16 0,Zm 17 5,Zd 18 117 16 17,Zm 19 1,Zm 20 5,Zd 21 117 19 20,Zr 22 .lss 18 21] (ZC 22 (ZR [Zi 4 (-1)] .ret) .skip)) (ZR [Zm 23 0,Zm 24 5,Zd 25 117 23 24,Zm 26 1,Zm 27 5,Zd 28 117 26 27,Zr 29 .gtr 25 28] (ZC 29 (ZR [Zi 4 1] .ret) .skip)))) (.region [Zm 14 5,u1 15 (.ari .sub) [.tm 14,.cn (.int .i64 1)],Zm 5 15])))))) (ZR [Zi 4 0] .ret)))⟩
theorem Yzt:Yg YE8 Tryz.f110=some v110:=by kernel_rfl
def v137:VF:=⟨38,[.tmp 4],(ZR [u1 4 .mov [.cn .nil]] (ZR [u1 5 .mov [.cn .nil]] (ZR [u1 6 .mov [.cn (.int .u64 0)]] (.seq (ZR [Zi 7 0] (.block 0 (.loop (.seq (ZR [Zm 9 7,Zm 10 0,Zl 11 10,Zm 12 1,Zl 13 12,u1 14 .max [.tm 11,.tm 13],Zp 15 14 1,Zr 16 .lss 9 15] (ZC 16 .skip (.exit 0))) (.seq (.block 1 (ZR [Zm 19 0,Zm 20 7,Zd 21 117 19 20,Zm 22 1,Zm 23 7,Zd 24 117 22 23,Zo 25 .add 21 24,Zm 26 6,Zo 27 .add 25 26,Zm 8 27] (ZR [Zm 28 5,Zm 29 8,u1 30 .rem [.tm 29,.cn (.int .u64 4294967296)],u1 31 (.conv .u32) [.tm 30],u1 32 (.buildSlice 1 1 [(.int .u32 0)] [(0,1)]) [.tm 31],u1 33 (.append 1 4 [(.int .u32 0)]) [.tm 28,.tm 32],Zm 5 33] (.region [Zm 34 8,u1 35 .quo [.tm 34,.cn (.int .u64 4294967296)],Zm 6 35])))) (.region [Zm 17 7,Zp 18 17 1,Zm 7 18])))))) (ZR [Zm 36 5,Zc 37 113 36,Zm 4 37] .ret)))))⟩
theorem YzO:Yg YE8 Tryz.f137=some v137:=by kernel_rfl
def padP(a n sz:Nat)(get:Nat->List SV):Prop:=sz=1/\n<=100000/\a<4294967296^n/\∀k,k<n->leXL (get k) [.int .u32 (dig a k)]
theorem Yw{a n:Nat}(hn:n<=100000)(ha:a<4294967296^n):padP a n 1 (fun k=>[.int .u32 (dig a k)]):=⟨rfl,hn,ha,fun k _=>Yc _⟩
theorem Ye{a:Nat}(hn:nl a<=100000):padP a (nl a) 1 (fun k=>[.int .u32 (dig a k)]):=Yw hn (YbD a)
theorem YCE{a sz:Nat}{get:Nat->List SV}(h:padP a 0 sz get):a=0:=by
 have:=h.2.2.1
 simp at this;omega
def natS(z:Bool)(a:Nat):SV:= .vs true z (nl a) 1 (fun k=>[.int .u32 (dig a k)])
def limbC:Ctr:={ alias:=false,of:=fun l=>match l with
 | [.vs _ _ n sz get,.int .i64 i]=> .ex Nat fun a=> .pre (padP a n sz get/\0<=i) (.fin (.int .u64 (dig a i.toNat)) [])
 |_=>noC}
def trimC:Ctr:={ alias:=false,of:=fun l=>match l with
 | [.vs _ _ n sz get]=> .ex Nat fun a=> .pre (padP a n sz get) (.fin (natS false a) [])
 |_=>noC}
theorem Ylt{hp:List HO}{i n m:Nat}{z zz:Bool}{get:Nat->List SV}{a:Nat}(hn:n=nl a)(hz:z=zz)(hi:getH hp i= .own z 1 m get)(hg:∀j,j<n->get j=[.int .u32 (dig a j)]):
 le 0 0 (expo hp (.own i 0 n 1)) (natS zz a):=by
 have e:expo hp (.own i 0 n 1)= .vs true z n 1 (fun k=>viewN true hp 2 (get (YbJ 0 k))):=by
  show view true hp (viewN true hp 2) (.own i 0 n 1)=_
  unfold view
  rw[hi];rfl
 rw[e]
 unfold natS
 rw[YtP]
 refine⟨id,hz,hn,rfl,fun j hj=>?_⟩
 show leXL (viewN true hp 2 (get j)) _
 rw[hg j hj]
 exact Yc _
theorem YaD{k:SV->List HO->Prop}{al:Bool}{hp:List HO}{i n m:Nat}{z zz:Bool}{get:Nat->List SV}{a:Nat}(h:k (natS zz a) [])(hn:n=nl a)(hz:z=zz)(hi:getH hp i= .own z 1 m get)(hg:∀j,j<n->get j=[.int .u32 (dig a j)]):
 YK al k (.own i 0 n 1) hp:=YE h (Ylt hn hz hi hg) (fun _=>by simp [natS,Yt,Ys])
theorem Yai{k:SV->List HO->Prop}{al:Bool}{hp:List HO}{t z:Bool}{a:Nat}(h:k (natS z a) []):YK al k (.vs true z (nl a) 1 (fun k=>[.int .u32 (dig a k)])) hp:=
 YE h (YB _ trivial) (fun _=>by simp [natS,Yt,Ys])
def R0:Env:={ ct:=fun _=>none,fn:=fun _=>none,meth:=fun _ _=>none}
theorem YAv:Yu YE8 R0:=by
 refine⟨fun f c h=>?_,fun f vf h=>?_,(fun _ _ _ h=>by cases h),by kernel_rfl,(fun _ h=>by cases h)⟩
 ·cases h
 ·cases h
theorem YqH:limbC.ok YE8 117:=by
 refine Yb Tryz.func117 Yzz YAv 100 limbC fun args k h=>?_
 simp only[limbC]at h
 split at h
 ·rename_i tt z n sz get i
  obtain⟨a,⟨⟨rfl,hn,ha,hg⟩,hi⟩,h⟩:=h
  refine⟨[.vs tt z n 1 (fun k=>[.int .u32 (dig a k)]),.int .i64 i],by simpa [leL,le]using hg,?_⟩
  (try dsimp only[v117,go_sem,reduceIte])
  (try simp only[Yd,YE5,YE3,reduceCtorEq,YE2])
  refine⟨fun hlt=>⟨⟨hi,hlt⟩,Yh ?_⟩,fun hge=>Yh ?_⟩
  ·rw[Ybg (Nat.lt_trans (YJ _ _) (by decide))];exact h
  ·rw[Y3 ha (by omega)]at h;exact h
 ·exact h.1.elim
theorem Yr1:trimC.ok YE8 113:=by
 refine Yb Tryz.func113 Yzw YAv 200 trimC fun args k h=>?_
 simp only[trimC]at h
 split at h
 ·rename_i tt z n sz get
  obtain⟨a,⟨rfl,hn,ha,hg⟩,h⟩:=h
  refine⟨[.vs tt z n 1 (fun k=>[.int .u32 (dig a k)])],by simpa [leL,le]using hg,?_⟩
  (try dsimp only[v113,go_sem,reduceIte])
  (try simp only[Yd,YE5,YE3,reduceCtorEq,YE2])
  refine Loop.keep [0,2] Nat (fun j=>[(3,.int .i64 j)]) (fun _=>[]) [] (fun j=>j<=n/\a<4294967296^j) (fun j=>j) ?_ ?_
  ·refine⟨n,⟨YFk _,ha⟩,?_⟩
   (try dsimp only[go_sem,reduceIte])
   simp only[Ya]
  ·rintro j ⟨hj,haj⟩
   (try dsimp only[YE4,go_sem,reduceIte])
   (try simp only[Yd,YE5,YE3,reduceCtorEq,YE2])
   refine⟨fun hlt=>?_,fun hb=>?_,fun hb=>?_⟩
   ·rw[Ym (by omega) (by omega)];omega
   ·rw[YFd,decide_eq_true_eq,decide_eq_true_eq]at hb
    obtain⟨h1,h2⟩:=hb
    rw[Ym (by omega) (by omega),YE4]at h2
    refine⟨j-1,⟨by omega,?_⟩,by omega,?_⟩
    ·obtain⟨m,rfl⟩:∃m,j=m+1:=⟨j-1,by omega⟩
     exact Ya2 haj (by simp at h2;exact_mod_cast h2)
    ·rw[Ym (by omega) (by omega)]
     simp only[Ya] <;> simp
   ·have e:nl a=j:=by
     refine Yav haj ?_
     rw[YFZ,decide_eq_false_iff_not,decide_eq_false_iff_not]at hb
     rcases YFB j with h0|h0
     ·exact .inl h0
     ·refine .inr fun hh=>hb.elim (fun h=>h (by omega)) fun h=>h ?_
      rw[Ym h0 (by omega),YE4,hh];rfl
    subst e
    (try dsimp only[YE4,go_sem,reduceIte])
    (try simp only[Yd,YE5,YE3,reduceCtorEq,YE2])
    refine⟨by decide,⟨by omega,by omega⟩,by unfold YN;omega,YaD h (YGh _) ?_ rfl fun j hj=>?_⟩
    ·rfl
    ·rw[if_neg (YGe _)];rfl
 ·exact h.1.elim
def ofC:Ctr:={ alias:=false,of:=fun l=>match l with
 | [.int .u64 n]=> .pre (0<=n/\n<18446744073709551616) (.fin (natS false n.toNat) [])
 |_=>noC}
def orderC:Ctr:={ alias:=false,of:=fun l=>match l with
 | [.vs _ _ n sz get,.vs _ _ m sz' get']=> .ex Nat fun a=> .ex Nat fun b=> .pre (padP a n sz get/\padP b m sz' get') (.fin (.int .i64 (ordN a b)) [])
 |_=>noC}
def plusC:Ctr:={ alias:=false,of:=fun l=>match l with
 | [.vs _ _ n sz get,.vs _ _ m sz' get']=> .ex Nat fun a=> .ex Nat fun b=> .pre (padP a n sz get/\padP b m sz' get'/\n<=99999/\m<=99999) (.fin (natS false (a+b)) [])
 |_=>noC}
def R1:Env:={ ct:=fun n=>match n with|117=>some limbC|113=>some trimC|_=>none,fn:=fun _=>none,meth:=fun _ _=>none}
theorem Yc7:R1.ct 117=some limbC:=rfl
theorem Yc6:R1.ct 113=some trimC:=rfl
theorem YhF:Yu YE8 R1:=by
 refine⟨fun f c h=>?_,fun f vf h=>?_,(fun _ _ _ h=>by cases h),by kernel_rfl,(fun _ h=>by cases h)⟩
 ·simp only[R1]at h
  split at h
  ·cases h;exact⟨YqH,Tryz.f117,Tryz.func117,by kernel_rfl,by kernel_rfl⟩
  ·cases h;exact⟨Yr1,Tryz.f113,Tryz.func113,by kernel_rfl,by kernel_rfl⟩
  ·cases h
 ·cases h
theorem YCv(n:Nat)(h:n<18446744073709551616):padP n 2 1 fun k=>Ybh false [HO.own false 1 2 (YaE 1 [SV.int .u32 (IntKind.u32.wrap ((n:Int).tmod 4294967296)),SV.int .u32 (IntKind.u32.wrap (IntKind.u64.wrap ((n:Int).tdiv 4294967296)))])]
 (fun x=>Ybh false [HO.own false 1 2 (YaE 1 [SV.int .u32 (IntKind.u32.wrap ((n:Int).tmod 4294967296)),SV.int .u32 (IntKind.u32.wrap (IntKind.u64.wrap ((n:Int).tdiv 4294967296)))])] (fun x=>YnO x) x)
 (YI 1 (YD (k*1) [SV.int .u32 (IntKind.u32.wrap ((n:Int).tmod 4294967296)),SV.int .u32 (IntKind.u32.wrap (IntKind.u64.wrap ((n:Int).tdiv 4294967296)))])):=by
 refine⟨rfl,by decide,by omega,fun k hk=>?_⟩
 have h0:dig n 0=n%4294967296:=Yk7 n
 have h1:dig n 1=n/4294967296:=by rw[Yfl,Yk7];omega
 match k,hk with
 |0,_=>rw[h0,Ynx];exact Yc _
 |1,_=>rw[h1,Yuz h,Ye7 (by omega)];exact Yc _
theorem Yt1:ofC.ok YE8 86:=by
 refine Yb Tryz.func86 YEO YhF 200 ofC fun args k h=>?_
 simp only[ofC]at h
 split at h
 ·rename_i n
  obtain⟨⟨h0,h1⟩,h⟩:=h
  obtain⟨n,rfl⟩:=YFW h0
  refine⟨[.int .u64 n],by simp [leL,le],?_⟩
  (try dsimp only[v86,Yc6,trimC,natS,go_sem,reduceIte])
  (try simp only[Yd,YE5,YE3,reduceCtorEq,YE2])
  refine⟨by decide,by decide,by decide,n,YCv n (by omega),?_⟩
  exact Yai (t:=true) h
 ·exact h.1.elim
theorem YbG:orderC.ok YE8 110:=by
 refine Yb Tryz.func110 Yzt YhF 200 orderC fun args k h=>?_
 simp only[orderC]at h
 split at h
 ·rename_i t1 z1 n sz get t2 z2 m sz' get'
  obtain⟨a,b,⟨⟨rfl,hn,ha,hg⟩,rfl,hm,hb,hg'⟩,h⟩:=h
  refine⟨[.vs t1 z1 n 1 (fun k=>[.int .u32 (dig a k)]),.vs t2 z2 m 1 (fun k=>[.int .u32 (dig b k)])],⟨by simpa [le]using hg,by simpa [le]using hg',trivial⟩,?_⟩
  (try dsimp only[v110,Yc7,limbC,go_sem,reduceIte])
  (try simp only[Yd,YE5,YE3,reduceCtorEq,YE2])
  refine Loop.keep [0,0,3] Nat (fun j=>[(5,.int .i64 ((j:Int)-1))]) (fun _=>[]) [] (fun j=>j<=100000/\∀i,j<=i->dig a i=dig b i) (fun j=>j) ?_ ?_
  ·refine⟨max n m,⟨by omega,fun i hi=>by rw[Y3 ha (by omega),Y3 hb (by omega)]⟩,?_⟩
   (try dsimp only[go_sem,reduceIte])
   simp only[Ya]
   rw[YE7 _ (by omega)]
   simp <;> omega
  ·rintro j ⟨hj,haj⟩
   (try dsimp only[Yc7,limbC,go_sem,reduceIte])
   (try simp only[Yd,YE5,YE3,reduceCtorEq,YE2])
   refine⟨fun hlt=>?_,fun hge=>?_⟩
   ·obtain⟨i,rfl⟩:∃i,j=i+1:=⟨j-1,by omega⟩
    have e:((i+1:Nat):Int)-1=i:=by omega
    have gt:∀t,i<t->dig a t=dig b t:=fun t ht=>haj t (by omega)
    rw[e]
    simp only[YE4]
    refine⟨a,⟨Yw hn ha,by omega⟩,b,⟨Yw hm hb,by omega⟩,fun hc=>Yh ?_,fun hc=>⟨a,⟨Yw hn ha,by omega⟩,b,⟨Yw hm hb,by omega⟩,fun hd=>Yh ?_,fun hd=>?_⟩⟩
    ·have:=YdI gt (by omega:dig a i<dig b i)
     rw[ordN,if_pos this]at h;exact h
    ·have:=YdI (fun t ht=>(gt t ht).symm) (by omega:dig b i<dig a i)
     rw[ordN,if_neg (by omega),if_pos this]at h;exact h
    ·refine⟨i,⟨by omega,fun t ht=>?_⟩,by omega,?_⟩
     ·rcases Nat.eq_or_lt_of_le ht with rfl|ht
      ·omega
      ·exact gt t ht
     ·simp only[Ya]
      rw[YE7 _ (by omega)]
   ·obtain rfl:j=0:=by omega
    have:a=b:=YeB fun i=>haj i (YGj _)
    rw[ordN,if_neg (by omega),if_neg (by omega)]at h
    exact Yh h
 ·exact h.1.elim
theorem Yra:plusC.ok YE8 137:=by
 refine Yb Tryz.func137 YzO YhF 200 plusC fun args k h=>?_
 simp only[plusC]at h
 split at h
 ·rename_i t1 z1 n sz get t2 z2 m sz' get'
  obtain⟨a,b,⟨⟨rfl,hn,ha,hg⟩,⟨rfl,hm,hb,hg'⟩,hn9,hm9⟩,h⟩:=h
  refine⟨[.vs t1 z1 n 1 (fun k=>[.int .u32 (dig a k)]),.vs t2 z2 m 1 (fun k=>[.int .u32 (dig b k)])],⟨by simpa [le]using hg,by simpa [le]using hg',trivial⟩,?_⟩
  (try dsimp only[v137,go_sem,reduceIte])
  (try simp only[Yd,YE5,YE3,reduceCtorEq,YE2])
  refine Loop.keep [0,0,3,0,0] Nat (fun i=>[(5,.own 0 0 i 1),(6,.int .u64 (cy a b i)),(7,.int .i64 i)]) (fun i=>[(0,.own (decide (i=0)) 1 i (fun k=>[.int .u32 (dig (a+b) k)]))]) [.gone] (fun i=>i<=max n m+1) (fun i=>max n m+1-i) ?_ ?_
  ·refine⟨0,by omega,?_⟩
   (try dsimp only[go_sem,reduceIte])
   simp only[Ya]
   simp [cy_0]
  ·rintro i hi
   (try dsimp only[Yc7,Yc6,limbC,trimC,natS,YE4,go_sem,reduceIte])
   (try simp only[Yd,YE5,YE3,reduceCtorEq,YE2])
   have emax:IntKind.i64.wrap (max (n:Int) (m:Int)+1)=((max n m+1:Nat):Int):=by rw[YE7 _ (by omega)];omega
   rw[emax]
   refine⟨fun hlt=>⟨a,⟨Yw hn ha,by omega⟩,b,⟨Yw hm hb,by omega⟩,by decide,by decide,?_⟩,fun hge=>⟨a+b,?_,?_⟩⟩
   ·have hd1:=YJ a i
    have hd2:=YJ b i
    have hc:=Yh1 a b i
    have e1:=Yeu a b i
    have e2:=Yjw a b i
    rw[Yep (by omega),Yep (by omega)]
    (try dsimp only[go_sem,reduceIte])
    (try simp only[Yd,YE5,YE3,reduceCtorEq,YE2])
    refine⟨⟨by unfold YN;omega,fun j hj=>?_⟩,by decide,i+1,by omega,by omega,?_⟩
    ·match j,hj with
     |0,_=>exact⟨rfl,trivial,trivial⟩
    ·rw[Ynx,Yuz (by omega),e1,e2,YE7 ((i:Int)+1) (by omega)]
     simp only[Ya]
     refine⟨by simp,by simp,fun j hj=>?_⟩
     rcases YFu j i with h'|h'
     ·rw[if_pos h'];simp only[leL,le,and_self]
     ·obtain rfl:j=i:=by omega
      rw[if_neg (Nat.lt_irrefl _),Nat.sub_self]
      simp only[Yj,YI,YD,leL,Nat.zero_mul,Ydy,refs,cond,le,and_self]
   ·obtain rfl:i=max n m+1:=by omega
    refine Yw (by omega) ?_
    have h1:a<4294967296^max n m:=YFS ha (YFq (by decide) (by omega))
    have h2:b<4294967296^max n m:=YFS hb (YFq (by decide) (by omega))
    rw[Yx];omega
   ·exact Yai (t:=true) h
 ·exact h.1.elim
def Ypm:Nat->Nat->Nat
 |0,_=>0
 |f+1,a=>if a=0 then 0 else Ypm f (a/2)+1
def Yn(a:Nat):Nat:=Ypm a a
theorem YF(i:Nat):0<2^i:=YFF (by decide)
theorem Ymo:∀(f a n:Nat),a<=f->(Ypm f a<=n↔a<2^n)
 |0,a,n,h=>by
  have:=YF n
  simp only[Ypm];omega
 |f+1,a,n,h=>by
  simp only[Ypm]
  split
  ·rename_i h0;have:=YF n;subst h0;simp;omega
  ·cases n with
   |zero=>simp;omega
   |succ n=>
    have:=Ymo f (a/2) n (by omega)
    rw[YFm,<-YFE (by decide),<-this]
    omega
theorem bitsN_le{a n:Nat}:Yn a<=n↔a<2^n:=Ymo a a n (YFk _)
theorem Ycc(a:Nat):a<2^Yn a:=bitsN_le.1 (YFk _)
theorem YwL:Yn 0=0:=rfl
theorem Yex{a:Nat}(h:0<a):Yn a=Yn (a/2)+1:=by
 have h1:∀n,Yn a<=n↔Yn (a/2)+1<=n:=fun n=>by
  cases n with
  |zero=>have:= @bitsN_le a 0;simp at this;omega
  |succ n=>rw[bitsN_le,YFm,<-YFE (by decide),<-bitsN_le];omega
 have a1:=(h1 (Yn (a/2)+1)).2 (YFk _)
 have a2:=(h1 (Yn a)).1 (YFk _)
 omega
theorem bitsN_eq0{a:Nat}:Yn a=0↔a=0:=by
 have:= @bitsN_le a 0
 simp at this;omega
theorem Yb1(m:Nat):4294967296^m=2^(32*m):=by
 rw[YFh]
theorem Ypn{a m:Nat}(h:nl a=m+1):Yn a=32*m+Yn (dig a m):=by
 have h1:=YbD a
 have h2:¬a<4294967296^m:=fun hh=>by have:=nl_le.2 hh;omega
 rw[h,Yx]at h1
 have h3:a/4294967296^m<4294967296:=by rw[YFE (Yo m),YFc];exact h1
 have h4:dig a m=a/4294967296^m:=by unfold dig;rw[YFT h3]
 have h5:∀t,Yn a<=32*m+t↔Yn (dig a m)<=t:=fun t=>by
  rw[bitsN_le,bitsN_le,YFi,<-Yb1,h4,YFE (Yo m),YFc]
 have h6:32*m<=Yn a:=by
  rcases YFu (Yn a) (32*m)with h'|h'
  ·exact absurd (by rw[Yb1];exact bitsN_le.1 (YGa h')) h2
  ·exact h'
 have a1:=(h5 (Yn (dig a m))).2 (YFk _)
 have a2:=(h5 (Yn a-32*m)).1 (by omega)
 omega
theorem Ymp(a:Nat):Yn a<=32*nl a:=by
 rw[bitsN_le,<-Yb1];exact YbD a
def bitN(a i:Nat):Nat:=a/2^i%2
theorem YwK(a i:Nat):bitN a i<2:=YFC _ (by decide)
theorem Ylj{y r:Nat}(h:r<32):y%4294967296/2^r%2=y/2^r%2:=by
 have e:(4294967296:Nat)=2^r*(2*2^(31-r)):=by
  have h1:(2:Nat)*2^(31-r)=2^(32-r):=by
   rw[YFc,<-YFm];congr 1;omega
  rw[h1,<-YFi,show r+(32-r)=32 by omega]
 rw[e,Nat.mod_mul_right_div_self,Nat.mod_mul_right_mod]
theorem Ymn(a i:Nat):bitN a i=dig a (i/32)/2^(i%32)%2:=by
 unfold bitN dig
 rw[Ylj (YFC _ (by decide)),Yb1,YFn,<-YFi]
 congr 3;omega
theorem YtC(a i:Nat):a/2^i=2*(a/2^(i+1))+bitN a i:=by
 unfold bitN
 rw[YFm,<-YFn]
 generalize a/2^i=y
 omega
theorem Y7(a j k:Nat):dig (a%4294967296^j) k=if k<j then dig a k else 0:=by
 split
 ·exact Ybo ‹_›
 ·exact Y3 (YFC _ (Yo j)) (by omega)
def dcy(a x i:Nat):Nat:=(2*(a%4294967296^i)+x)/4294967296^i
theorem dcy_0(a x:Nat):dcy a x 0=x:=by simp [dcy,Nat.mod_one]
theorem YuS{a x i:Nat}(hx:x<=1):dcy a x i<=1:=by
 unfold dcy
 have h1:=YFC a (Yo i)
 have:(2*(a%4294967296^i)+x)/4294967296^i<2:=by
  rw[YFE (Yo i)];omega
 omega
theorem YpE(a x i:Nat):(2*dig a i+dcy a x i)%4294967296=dig (2*a+x) i:=by
 have e:(2*a+x)/4294967296^i=2*(a/4294967296^i)+dcy a x i:=by
  unfold dcy
  have h1:=YFH a (4294967296^i)
  generalize hP:4294967296^i=P at*
  have hp:0<P:=hP▸Yo i
  have e:2*a+x=P*(2*(a/P))+(2*(a%P)+x):=by rw[<-YFg,YFc P 2,YFg];omega
  conv=>lhs;rw[e]
  rw[Nat.mul_add_div hp]
 unfold dig
 rw[e]
 omega
theorem YBa(a x i:Nat):(2*dig a i+dcy a x i)/4294967296=dcy a x (i+1):=by
 have e:dcy a x (i+1)=(2*(a%4294967296^(i+1))+x)/4294967296^(i+1):=rfl
 rw[e,Yar,Yx,<-YFn]
 unfold dcy
 generalize hP:4294967296^i=P at*
 have hp:0<P:=hP▸Yo i
 have e:2*(a%P+P*dig a i)+x=P*(2*dig a i)+(2*(a%P)+x):=by rw[YFJ,<-YFg,YFc 2 P,YFg];omega
 rw[e,Nat.mul_add_div hp]
theorem Yw1{a x n:Nat}(h:a<4294967296^n):dcy a x n=dig (2*a+x) n\/1<x:=by
 rcases YFu 1 x with hx|hx
 ·exact .inr hx
 ·left
  have h1:=YpE a x n
  rw[Y3 h (YFk _)]at h1
  have:=YuS (a:=a) (i:=n) hx
  omega
theorem Ywz(x:Nat):IntKind.u32.wrap ((BitVec.ofInt 32 (x:Int)&&&BitVec.ofInt 32 1).toNat:Int)=((x%2:Nat):Int):=by
 have e:(BitVec.ofInt 32 (x:Int)&&&BitVec.ofInt 32 1).toNat=x%2:=by
  rw[BitVec.toNat_and]
  have h1:(BitVec.ofInt 32 (x:Int)).toNat=x%4294967296:=by simp [BitVec.toNat_ofInt] <;> omega
  have h2:(BitVec.ofInt 32 1).toNat=1:=by decide
  rw[h1,h2,Nat.and_one_is_mod] <;> omega
 rw[e];exact Ye7 (by omega)
theorem Yki{x:Nat}(h:x<4294967296):(BitVec.ofInt 32 (x:Int)).toNat=x:=by
 simp [BitVec.toNat_ofInt];omega
theorem Yq7{x y:Nat}(hx:x<4294967296)(hy:y<4294967296):IntKind.u32.wrap ((BitVec.ofInt 32 (x:Int) ||| BitVec.ofInt 32 (y:Int)).toNat:Int)=((x||| y:Nat):Int):=by
 rw[BitVec.toNat_or,Yki hx,Yki hy]
 exact Ye7 (Nat.or_lt_two_pow (n:=32) hx hy)
theorem Yq6{d s:Nat}(h:d/2^s%2=0):d||| 2^s=d+2^s:=by
 have h1:=YFH d (2^s)
 have h2:=YFC d (YF s)
 have e:d=2^s*(d/2^s)+d%2^s:=h1.symm
 apply Nat.eq_of_testBit_eq
 intro j
 rw[Nat.testBit_or,Nat.testBit_two_pow]
 by_cases hj:s=j
 ·subst hj
  have:(d+2^s).testBit s= !d.testBit s:=by
   rw[Nat.add_comm];exact Nat.testBit_two_pow_add_eq d s
  have hb:d.testBit s=false:=by
   rw[Nat.testBit_eq_decide_div_mod_eq];simp [h]
  rw[this,hb];simp
 ·have:(d+2^s).testBit j=d.testBit j:=by
   rcases YFu j s with hlt|hge
   ·rw[Nat.add_comm];exact Nat.testBit_two_pow_add_gt hlt d
   ·have hgt:s<j:=by omega
    rw[Nat.testBit_eq_decide_div_mod_eq,Nat.testBit_eq_decide_div_mod_eq]
    have:(d+2^s)/2^j=d/2^j:=by
     obtain⟨m,rfl⟩:∃m,j=s+1+m:=⟨j-(s+1),by omega⟩
     rw[YFi,<-YFn,<-YFn,YFm,<-YFn,<-YFn,Nat.add_div_right _ (YF s)]
     congr 1;omega
    rw[this]
  rw[this];simp [hj]
theorem YBb{d c:Nat}(hd:d<4294967296)(hc:c<=1):IntKind.u32.wrap ((BitVec.ofInt 32 (IntKind.u32.wrap ((d:Int)*2^min (YGq 1) 32)) ||| BitVec.ofInt 32 (c:Int)).toNat:Int)=(((2*d+c)%4294967296:Nat):Int):=by
 have e:IntKind.u32.wrap ((d:Int)*2^min (YGq 1) 32)=((2*d%4294967296:Nat):Int):=by
  have:(2:Int)^min (YGq 1) 32=2:=by decide
  rw[this,IntKind.wrap_u32];omega
 rw[e,Yq7 (by omega) (by omega)]
 rcases YFB c with h0|h0
 ·subst h0;simp
 ·obtain rfl:c=1:=by omega
  have h2:(2*d%4294967296) ||| 2^0=2*d%4294967296+2^0:=Yq6 (by omega)
  rw[YGn]at h2
  rw[h2];omega
theorem Yw0{d:Nat}:(d:Int).fdiv (2^min (YGq 31) 32)=((d/2147483648:Nat):Int):=by
 have:(2:Int)^min (YGq 31) 32=2147483648:=by decide
 rw[this,Int.fdiv_eq_ediv_of_nonneg _ (by decide)];omega
theorem YDI{q i:Nat}(h:q%2^(i+1)=0):dig q (i/32)/2^(i%32)%2=0/\setD q (i/32) (dig q (i/32)+2^(i%32))=q+2^i/\dig q (i/32)+2^(i%32)<4294967296:=by
 have hb:bitN q i=0:=by
  unfold bitN
  have:=Nat.mod_mul_right_div_self q (2^i) 2
  rw[<-YFm,h,Nat.zero_div]at this
  exact this.symm
 have h1:dig q (i/32)/2^(i%32)%2=0:=by rw[<-Ymn];exact hb
 refine⟨h1,?_,?_⟩
 ·have e:=Ydr q (i/32) (dig q (i/32)+2^(i%32))
  have e2:2^i=2^(i%32)*4294967296^(i/32):=by
   rw[Yb1,<-YFi];congr 1;omega
  rw[e2]
  rw[YFw]at e
  omega
 ·rw[<-Yq6 h1]
  exact Nat.or_lt_two_pow (n:=32) (YJ _ _) (Nat.pow_lt_pow_right (by decide) (YFC _ (by decide)))
theorem YiB{q i:Nat}(h:q%2^(i+1)=0):q%2^i=0/\q/2^i=2*(q/2^(i+1)):=by
 have hm:2^(i+1)=2^i*2:=YFm ..
 obtain⟨c,hc⟩:=Nat.dvd_of_mod_eq_zero h
 subst hc
 constructor
 ·rw[hm,YFg];exact Nat.mul_mod_right _ _
 ·rw[Nat.mul_div_cancel_left _ (YF _),hm,YFg,Nat.mul_div_cancel_left _ (YF i)]
theorem YjK{a b q r i:Nat}(h:a/2^(i+1)=q/2^(i+1)*b+r)(hq:q%2^(i+1)=0):a/2^i=q/2^i*b+(2*r+bitN a i):=by
 rw[YtC,h,(YiB hq).2]
 grind
theorem YpO{a b q r i:Nat}(h:a/2^(i+1)=q/2^(i+1)*b+r)(hq:q%2^(i+1)=0)(hb:b<=2*r+bitN a i):a/2^i=(q+2^i)/2^i*b+(2*r+bitN a i-b)/\(q+2^i)%2^i=0:=by
 rw[Nat.add_div_right _ (YF i),Nat.add_mod_right]
 refine⟨?_,(YiB hq).1⟩
 have:=YjK h hq
 rw[YGp]
 omega
theorem Yw4{a b q r:Nat}(h:a/2^0=q/2^0*b+r)(hr:r<b):q=a/b/\r=a%b:=by
 simp only[YGn,Nat.div_one]at h
 have hb:0<b:=by omega
 subst h
 rw[YFc,Nat.mul_add_div hb,Nat.mul_add_mod,YGc hr,YFT hr]
 exact⟨by omega,rfl⟩
def fg(n:Int)(d:Nat):Nat:=YF1 n.natAbs d
def rnum(n:Int)(d:Nat):Nat:=n.natAbs/fg n d
def rden(n:Int)(d:Nat):Nat:=d/fg n d
def nsg(neg:Bool)(a:Nat):Int:=if neg then -(a:Int)else a
theorem YeU{n:Int}{d:Nat}(hd:0<d):0<fg n d:=Nat.gcd_pos_of_pos_right _ hd
theorem YiM(n:Int)(d:Nat):rnum n d*fg n d=n.natAbs:=Nat.div_mul_cancel (Nat.gcd_dvd_left _ _)
theorem Yeg(n:Int)(d:Nat):rden n d*fg n d=d:=Nat.div_mul_cancel (Nat.gcd_dvd_right _ _)
theorem YaO{n:Int}{d:Nat}(hd:0<d):0<rden n d:=by
 have:=Yeg n d
 rcases YFB (rden n d)with h|h
 ·rw[h]at this;omega
 ·exact h
theorem YyV(n:Int)(d:Nat):rnum n d<=n.natAbs:=YGd _ _
theorem YyO(n:Int)(d:Nat):rden n d<=d:=YGd _ _
theorem Yrr{n:Int}{d:Nat}(hd:0<d):YF1 (rnum n d) (rden n d)=1:=by
 unfold rnum rden
 exact Nat.gcd_div_gcd_div_gcd_of_pos_right hd
theorem Yhu{n:Int}{d:Nat}(hd:0<d):rnum n d=0↔n=0:=by
 have:=YiM n d
 constructor
 ·intro h;rw[h]at this;omega
 ·rintro rfl;simp [rnum]
theorem YDw{d:Nat}(hd:0<d):rden 0 d=1:=by simp [rden,fg,Nat.div_self hd]
theorem n_eq(n:Int)(d:Nat):n=nsg (decide (n<0)) (rnum n d)*(fg n d:Int):=by
 have h:=YiM n d
 unfold nsg
 have h2:((rnum n d:Nat):Int)*(fg n d:Int)=(n.natAbs:Int):=by exact_mod_cast h
 by_cases hn:n<0
 ·simp only[hn,decide_true,if_true]
  rw[Int.neg_mul,h2];omega
 ·simp only[hn,decide_false,YFx,if_false]
  rw[h2];omega
theorem d_eq(n:Int)(d:Nat):(d:Int)=(rden n d:Int)*(fg n d:Int):=by exact_mod_cast (Yeg n d).symm
theorem Yrw{n:Int}{d k:Nat}(hk:0<k):rnum (n*k) (d*k)=rnum n d/\rden (n*k) (d*k)=rden n d/\(decide (n*(k:Int)<0))=decide (n<0):=by
 have e:(n*(k:Int)).natAbs=n.natAbs*k:=by rw[Int.natAbs_mul];simp
 have g:fg (n*k) (d*k)=fg n d*k:=by unfold fg;rw[e,Nat.gcd_mul_right]
 refine⟨?_,?_,?_⟩
 ·unfold rnum;rw[e,g,Nat.mul_div_mul_right _ _ hk]
 ·unfold rden;rw[g,Nat.mul_div_mul_right _ _ hk]
 ·congr 1
  apply propext
  constructor
  ·intro h
   rcases Int.lt_or_le n 0 with h'|h'
   ·exact h'
   ·have:=Int.mul_nonneg h' (Int.natCast_nonneg k);omega
  ·intro h
   exact Int.mul_neg_of_neg_of_pos h (by omega)
theorem Ygj(neg:Bool)(a:Nat):(nsg neg a).natAbs=a:=by
 unfold nsg;split <;> omega
theorem Yyb(neg:Bool)(a:Nat):decide (nsg neg a<0)=(neg&&decide (0<a)):=by
 unfold nsg
 cases neg <;> simp <;> omega
theorem q_mul{n1 n2:Int}{d1 d2:Nat}(h1:0<d1)(h2:0<d2){m:Int}(hm:m=nsg (!(decide (n1<0)==decide (n2<0))) (rnum n1 d1*rnum n2 d2)):
 rnum m (rden n1 d1*rden n2 d2)=rnum (n1*n2) (d1*d2)/\rden m (rden n1 d1*rden n2 d2)=rden (n1*n2) (d1*d2)/\decide (m<0)=decide (n1*n2<0):=by
 have hk:0<fg n1 d1*fg n2 d2:=YF3 (YeU h1) (YeU h2)
 have en:n1*n2=m*((fg n1 d1*fg n2 d2:Nat):Int):=by
  have a1:=n_eq n1 d1
  have a2:=n_eq n2 d2
  rw[hm]
  conv=>lhs;rw[a1,a2]
  generalize rnum n1 d1=x
  generalize rnum n2 d2=y
  generalize fg n1 d1=g
  generalize fg n2 d2=h
  unfold nsg
  cases decide (n1<0) <;> cases decide (n2<0) <;> simp <;> grind
 have ed:d1*d2=rden n1 d1*rden n2 d2*(fg n1 d1*fg n2 d2):=by
  have a1:=Yeg n1 d1
  have a2:=Yeg n2 d2
  conv=>lhs;rw[<-a1,<-a2]
  grind
 have:= @Yrw m (rden n1 d1*rden n2 d2) _ hk
 rw[<-en,<-ed]at this
 exact⟨this.1.symm,this.2.1.symm,this.2.2.symm⟩
theorem q_div{n1 n2:Int}{d1 d2:Nat}(h1:0<d1)(h2:0<d2)(hn:n2≠0){m:Int}(hm:m=nsg (!(decide (n1<0)==decide (n2<0))) (rnum n1 d1*rden n2 d2)):
 rnum m (rden n1 d1*rnum n2 d2)=rnum (nsg (decide (n2<0)) 1*n1*d2) (d1*n2.natAbs)/\rden m (rden n1 d1*rnum n2 d2)=rden (nsg (decide (n2<0)) 1*n1*d2) (d1*n2.natAbs)/\decide (m<0)=decide (nsg (decide (n2<0)) 1*n1*d2<0):=by
 have hk:0<fg n1 d1*fg n2 d2:=YF3 (YeU h1) (YeU h2)
 have en:nsg (decide (n2<0)) 1*n1*d2=m*((fg n1 d1*fg n2 d2:Nat):Int):=by
  have a1:=n_eq n1 d1
  have a2:=d_eq n2 d2
  rw[hm,a2]
  conv=>lhs;rw[a1]
  generalize rnum n1 d1=x
  generalize rden n2 d2=y
  generalize fg n1 d1=g
  generalize fg n2 d2=h
  unfold nsg
  cases decide (n1<0) <;> cases decide (n2<0) <;> simp <;> grind
 have ed:d1*n2.natAbs=rden n1 d1*rnum n2 d2*(fg n1 d1*fg n2 d2):=by
  have a1:=Yeg n1 d1
  have a2:=YiM n2 d2
  rw[<-a2]
  conv=>lhs;rw[<-a1]
  grind
 have:= @Yrw m (rden n1 d1*rnum n2 d2) _ hk
 rw[<-en,<-ed]at this
 exact⟨this.1.symm,this.2.1.symm,this.2.2.symm⟩
def cmpI(x y:Int):Int:=if x<y then -1 else if y<x then 1 else 0
def cmpQ(n1:Int)(d1:Nat)(n2:Int)(d2:Nat):Int:=cmpI (n1*d2) (n2*d1)
theorem YeJ{x y:Int}{k:Nat}(hk:0<k):x*(k:Int)<y*(k:Int)↔x<y:=by
 constructor
 ·intro h
  rcases Int.lt_or_le x y with h'|h'
  ·exact h'
  ·have:=YFz h' (Int.natCast_nonneg k);omega
 ·intro h;exact Int.mul_lt_mul_of_pos_right h (by omega)
theorem q_cmp{n1 n2:Int}{d1 d2:Nat}(h1:0<d1)(h2:0<d2):cmpQ n1 d1 n2 d2=if n1<0/\n2<0 then -(ordN (rnum n1 d1*rden n2 d2) (rnum n2 d2*rden n1 d1))else if n1<0 then -1 else if n2<0 then 1 else ordN (rnum n1 d1*rden n2 d2) (rnum n2 d2*rden n1 d1):=by
 have hk:0<fg n1 d1*fg n2 d2:=YF3 (YeU h1) (YeU h2)
 have e1:n1*d2=nsg (decide (n1<0)) (rnum n1 d1*rden n2 d2)*((fg n1 d1*fg n2 d2:Nat):Int):=by
  have a1:=n_eq n1 d1
  have a4:=d_eq n2 d2
  rw[a4]
  conv=>lhs;rw[a1]
  unfold nsg
  cases decide (n1<0) <;> simp <;> grind
 have e2:n2*d1=nsg (decide (n2<0)) (rnum n2 d2*rden n1 d1)*((fg n1 d1*fg n2 d2:Nat):Int):=by
  have a1:=n_eq n2 d2
  have a4:=d_eq n1 d1
  rw[a4]
  conv=>lhs;rw[a1]
  unfold nsg
  cases decide (n2<0) <;> simp <;> grind
 have p1:n1<0->0<rnum n1 d1*rden n2 d2:=fun h=>YF3 (Nat.pos_of_ne_zero fun h0=>by have:=(Yhu h1).1 h0;omega) (YaO h2)
 have p2:n2<0->0<rnum n2 d2*rden n1 d1:=fun h=>YF3 (Nat.pos_of_ne_zero fun h0=>by have:=(Yhu h2).1 h0;omega) (YaO h1)
 unfold cmpQ cmpI
 rw[e1,e2]
 simp only[YeJ hk]
 generalize rnum n1 d1*rden n2 d2=x at*
 generalize rnum n2 d2*rden n1 d1=y at*
 unfold nsg ordN
 by_cases g1:n1<0 <;> by_cases g2:n2<0 <;> simp only[g1,g2,decide_true,decide_false,if_true,if_false,and_self,and_true,and_false,YFx]
 ·have:=p1 g1;have:=p2 g2
  repeat' split
  all_goals omega
 ·have:=p1 g1
  repeat' split
  all_goals omega
 ·have:=p2 g2
  repeat' split
  all_goals omega
 ·repeat' split
  all_goals omega
def YmL(neg:Bool)(a b:Nat):Nat:=if neg&&decide (a%b≠0)then a/b+1 else a/b
theorem Yyq{n:Int}{d:Nat}(hd:0<d):n/(d:Int)=nsg (decide (n<0)) (YmL (decide (n<0)) (rnum n d) (rden n d)):=by
 have hg:0<fg n d:=YeU hd
 have e:n/(d:Int)=nsg (decide (n<0)) (rnum n d)/(rden n d:Int):=by
  have a1:=n_eq n d
  have a2:=d_eq n d
  suffices key:∀N D:Int,N=nsg (decide (n<0)) (rnum n d)*(fg n d:Int)->D=(rden n d:Int)*(fg n d:Int)->N/D=nsg (decide (n<0)) (rnum n d)/(rden n d:Int)from key _ _ a1 a2
  rintro _ _ rfl rfl
  exact Int.mul_ediv_mul_of_pos_left _ _ (show(0:Int)<(fg n d:Int)by omega)
 rw[e]
 have hp:=YaO (n:=n) hd
 generalize rnum n d=a
 generalize rden n d=b at*
 have h1:=YFH a b
 have h2:=YFC a hp
 unfold nsg YmL
 by_cases hn:n<0
 ·simp only[hn,decide_true,if_true,YGm,decide_eq_true_eq]
  by_cases h0:a%b=0
  ·rw[if_neg (by omega)]
   have:(a:Int)=(a/b:Nat)*(b:Int):=by
    have:a=a/b*b:=by rw[YFc];omega
    exact_mod_cast this
   conv=>lhs;rw[this,<-Int.neg_mul]
   rw[Int.mul_ediv_cancel _ (by omega)]
  ·rw[if_pos (by omega)]
   apply Int.le_antisymm
   ·apply Int.le_of_lt_add_one
    rw[Int.ediv_lt_iff_lt_mul (by omega)]
    have:(a:Int)=(b:Int)*(a/b:Nat)+(a%b:Nat):=by exact_mod_cast h1.symm
    rw[this]
    have hm:((a%b:Nat):Int)>0:=by omega
    generalize(a%b)=m at*
    generalize(a/b)=q at*
    push_cast
    grind
   ·rw[Int.le_ediv_iff_mul_le (by omega)]
    have:(a:Int)=(b:Int)*(a/b:Nat)+(a%b:Nat):=by exact_mod_cast h1.symm
    rw[this]
    have hm:((a%b:Nat):Int)<b:=by omega
    generalize(a%b)=m at*
    generalize(a/b)=q at*
    push_cast
    grind
 ·simp only[hn,decide_false,YGi,YFx,if_false]
  exact_mod_cast rfl
theorem YbZ{x:Nat}(h:x<18446744073709551616):(BitVec.ofInt 64 (x:Int)).toNat=x:=by
 simp [BitVec.toNat_ofInt];omega
theorem Ys7{x:Nat}(h:x<18446744073709551616):IntKind.u64.wrap ((BitVec.ofInt 64 (x:Int)&&&BitVec.ofInt 64 4294967295).toNat:Int)=((x%4294967296:Nat):Int):=by
 have h2:(BitVec.ofInt 64 4294967295).toNat=2^32-1:=by decide
 rw[BitVec.toNat_and,YbZ h,h2,Nat.and_two_pow_sub_one_eq_mod]
 exact Ybg (by omega)
theorem Yq8{x y:Nat}(hx:x<18446744073709551616)(hy:y<18446744073709551616):IntKind.u64.wrap ((BitVec.ofInt 64 (x:Int) ||| BitVec.ofInt 64 (y:Int)).toNat:Int)=((x||| y:Nat):Int):=by
 rw[BitVec.toNat_or,YbZ hx,YbZ hy]
 exact Ybg (Nat.or_lt_two_pow (n:=64) hx hy)
theorem YbA{x s:Nat}(hs:s<=64):(x:Int).fdiv (2^min s 64)=((x/2^s:Nat):Int):=by
 rw[Nat.min_eq_left hs,Int.fdiv_eq_ediv_of_nonneg _ (Int.le_of_lt (Int.pow_pos (by decide)))]
 simp
theorem YgA{x s:Nat}(hs:s<=64)(h:x*2^s<18446744073709551616):IntKind.u64.wrap ((x:Int)*2^min s 64)=((x*2^s:Nat):Int):=by
 rw[Nat.min_eq_left hs]
 have:(x:Int)*2^s=((x*2^s:Nat):Int):=by simp
 rw[this];exact Ybg h
theorem YlG(x:Int):IntKind.u64.wrap x=x%18446744073709551616:=by
 rw[IntKind.wrap_u64]
theorem YDS(x:Nat):IntKind.u64.wrap (x:Int)=((x%18446744073709551616:Nat):Int):=by
 rw[YlG];simp
theorem YCr{x y:Nat}(hx:x<18446744073709551616)(hy:y<18446744073709551616):
 let x0:=x%4294967296;let x1:=x/4294967296;let y0:=y%4294967296;let y1:=y/4294967296
 let t:=x1*y0+x0*y0/4294967296
 let w1:=t%4294967296+x0*y1
 x1*y1+t/4294967296+w1/4294967296=x*y/18446744073709551616/\x0*y0<18446744073709551616/\x1*y0<18446744073709551616/\t<18446744073709551616/\x0*y1<18446744073709551616/\w1<18446744073709551616/\x1*y1<18446744073709551616/\x1*y1+t/4294967296<18446744073709551616/\x1*y1+t/4294967296+w1/4294967296<18446744073709551616:=by
 intro x0 x1 y0 y1 t w1
 have e1:x=4294967296*x1+x0:=(YFH x _).symm
 have e2:y=4294967296*y1+y0:=(YFH y _).symm
 have h0:x0<4294967296:=YFC _ (by decide)
 have h1:y0<4294967296:=YFC _ (by decide)
 have h2:x1<4294967296:=by omega
 have h3:y1<4294967296:=by omega
 have m:∀{a b:Nat},a<4294967296->b<4294967296->a*b<=4294967295*4294967295:=fun ha hb=>YFt (by omega) (by omega)
 have p1:=m h0 h1
 have p2:=m h2 h1
 have p3:=m h0 h3
 have p4:=m h2 h3
 have e:x*y=18446744073709551616*(x1*y1)+4294967296*(x1*y0+x0*y1)+x0*y0:=by
  rw[e1,e2];grind
 have ht:t=x1*y0+x0*y0/4294967296:=rfl
 have hw:w1=t%4294967296+x0*y1:=rfl
 rw[e]
 generalize x0*y0=A at*
 generalize x1*y0=B at*
 generalize x0*y1=C at*
 generalize x1*y1=D at*
 omega
structure YeQ (y1 y0 a u q r:Nat):Prop where
 eq:q*y1+r=a
 ge:(a*4294967296+u)/(y1*4294967296+y0)<=q
 le:q<=4294967297
theorem YpK{y1 y0 a u q r:Nat}(hy:0<y1)(h:q*y1+r=a):q*(y1*4294967296+y0)<=a*4294967296+u↔q*y0<=4294967296*r+u:=by
 have e:q*(y1*4294967296+y0)=q*y1*4294967296+q*y0:=by grind
 rw[e,<-h]
 generalize q*y1=A
 generalize q*y0=B
 omega
theorem YpL{y1 y0 a u:Nat}(h1:2147483648<=y1)(h0:y0<4294967296)(ha:a<y1*4294967296+y0)(hu:u<4294967296):YeQ y1 y0 a u (a/y1) (a-a/y1*y1)/\a-a/y1*y1<4294967296\/4294967296<=y1:=by
 rcases YFu y1 4294967296 with hy|hy
 ·left
  have hp:0<y1:=by omega
  have e:=YFH a y1
  have hm:=YFC a hp
  rw[YFc]at e
  refine⟨⟨by omega,?_,?_⟩,by omega⟩
  ·rw[<-Nat.lt_add_one_iff,YFE (by omega)]
   have:(a/y1+1)*(y1*4294967296+y0)=(a/y1*y1+y1)*4294967296+(a/y1+1)*y0:=by grind
   rw[this]
   have:(0:Nat)<=(a/y1+1)*y0:=YGj _
   omega
  ·rw[<-Nat.lt_add_one_iff,YFE hp]
   omega
 ·exact .inr hy
theorem Yh2{y1 y0 a u q r:Nat}(h:YeQ y1 y0 a u q r)(hy:0<y1)(hle:q*y0<=4294967296*r+u):q=(a*4294967296+u)/(y1*4294967296+y0):=by
 have h1:=(YpK (u:=u) (y0:=y0) hy h.eq).2 hle
 have h2:=(YF0 (by omega)).2 h1
 have:=h.ge
 omega
theorem Yh3{y1 y0 a u q r:Nat}(h:YeQ y1 y0 a u q r)(hy:0<y1)(ha:a<y1*4294967296+y0)(hu:u<4294967296)(hc:4294967296<=q\/4294967296*r+u<q*y0):0<q/\YeQ y1 y0 a u (q-1) (r+y1):=by
 have hlt:(a*4294967296+u)/(y1*4294967296+y0)<q:=by
  rcases hc with hc|hc
  ·have:(a*4294967296+u)/(y1*4294967296+y0)<4294967296:=by
    rw[YFE (by omega)];omega
   exact YFS this hc
  ·rw[YFE (by omega)]
   refine Nat.lt_of_not_le fun hh=>?_
   have:=(YpK (u:=u) (y0:=y0) hy h.eq).1 hh
   omega
 have h1:=h.eq
 have h2:=h.le
 have hq:0<q:=YFG (YGj _) hlt
 refine⟨hq,⟨?_,by omega,by omega⟩⟩
 obtain⟨m,rfl⟩:∃m,q=m+1:=⟨q-1,by omega⟩
 rw[Nat.add_sub_cancel]
 rw[YGp]at h1
 omega
theorem YfY{y1 y0 a u q r:Nat}(h:YeQ y1 y0 a u q r)(hy:0<y1)(h0:y0<4294967296)(hq:q<=4294967296)(hr:4294967296<=r):q=(a*4294967296+u)/(y1*4294967296+y0):=by
 refine Yh2 h hy ?_
 have:q*y0<=4294967296*4294967295:=YFt hq (by omega)
 omega
theorem YlF{M y a u1 u0 q1 r1 q0 r0:Nat}(hy:0<y)(hq1:q1=(a*M+u1)/y)(hr1:r1=(a*M+u1)%y)(hq0:q0=(r1*M+u0)/y)(hr0:r0=(r1*M+u0)%y):
 q1*M+q0=(a*(M*M)+(u1*M+u0))/y/\r0=(a*(M*M)+(u1*M+u0))%y:=by
 have e1:=YFH (a*M+u1) y
 have e2:=YFH (r1*M+u0) y
 have hm:=YFC (r1*M+u0) hy
 rw[<-hq1,<-hr1]at e1
 rw[<-hq0,<-hr0]at e2
 rw[<-hr0]at hm
 have e3:a*(M*M)+(u1*M+u0)=y*(q1*M+q0)+r0:=by
  have:a*(M*M)+(u1*M+u0)=(a*M+u1)*M+u0:=by grind
  rw[this,<-e1]
  have:(y*q1+r1)*M+u0=y*q1*M+(r1*M+u0):=by grind
  rw[this,<-e2]
  grind
 rw[e3,Nat.mul_add_div hy,YGc hm,Nat.mul_add_mod,YFT hm]
 exact⟨rfl,rfl⟩
theorem Ydu{y a u1 u0 q1 q0 r1:Nat}(hy:0<y)(hq1:q1=(a*4294967296+u1)/y)(hr1:r1=(a*4294967296+u1)%y)(hq0:q0=(r1*4294967296+u0)/y):
 q1*4294967296+q0=(a*18446744073709551616+(u1*4294967296+u0))/y/\(r1*4294967296+u0)%y=(a*18446744073709551616+(u1*4294967296+u0))%y:=
 YlF (M:=4294967296) hy hq1 hr1 hq0 rfl
theorem YnU{y:Nat}(hy:y<18446744073709551616)(h0:0<y):Yn y<=64/\9223372036854775808<=y*2^(64-Yn y)/\y*2^(64-Yn y)<18446744073709551616:=by
 have hb:Yn y<=64:=bitsN_le.2 hy
 have hpos:0<Yn y:=Nat.pos_of_ne_zero fun h=>by have:=bitsN_eq0.1 h;omega
 have h1:=Ycc y
 have h2:2^(Yn y-1)<=y:=by
  rcases YFu y (2^(Yn y-1))with h|h
  ·have:=bitsN_le.2 h;omega
  ·exact h
 refine⟨hb,?_,?_⟩
 ·have:2^(Yn y-1)*2^(64-Yn y)<=y*2^(64-Yn y):=YE9 _ h2
  rw[<-YFi,show Yn y-1+(64-Yn y)=63 by omega]at this
  exact this
 ·have:y*2^(64-Yn y)<2^Yn y*2^(64-Yn y):=Nat.mul_lt_mul_of_pos_right h1 (YF _)
  rw[<-YFi,show Yn y+(64-Yn y)=64 by omega]at this
  exact this
theorem YtF{h x s:Nat}(hs:s<=64)(hx:x<18446744073709551616):(h*2^s||| x/2^(64-s))=h*2^s+x/2^(64-s)/\x/2^(64-s)<2^s/\(h*2^s+x/2^(64-s))*18446744073709551616+x*2^s%18446744073709551616=(h*18446744073709551616+x)*2^s:=by
 have e:(18446744073709551616:Nat)=2^(64-s)*2^s:=by rw[<-YFi,show 64-s+s=64 by omega]
 have hl:x/2^(64-s)<2^s:=by
  rw[YFE (YF _),YFc,<-e];exact hx
 refine⟨?_,hl,?_⟩
 ·rw[YFc h];exact(Nat.two_pow_add_eq_or_of_lt hl h).symm
 ·have h1:=YFH x (2^(64-s))
  have e2:x*2^s%18446744073709551616=x%2^(64-s)*2^s:=by
   rw[e];exact Nat.mul_mod_mul_right _ _ _
  rw[e2,e]
  generalize 2^(64-s)=P at*
  generalize 2^s=R at*
  generalize x/P=a at*
  generalize x%P=b at*
  subst h1
  grind
def v167:VF:=⟨21,[.tmp 2],(ZR [u1 2 .mov [.cn .nil]] (.seq (.block 0 (.loop (.seq (ZR [Zm 3 0,Zl 4 3,Zq 5 .gtr 4 0,Zm 6 5,Zg 7 6 true 0,Zg 8 6 true 0,u2 9 6 true .len [.tm 8],u2 10 6 true (.ari .sub) [.tm 9,.cn (.int .i64 1)],u2 11 6 true (.idxAddr 1) [.tm 7,.tm 10],Zh 12 6 true 1 11,u2 13 6 true (.cmp .eql) [.tm 12,.cn (.int .u32 0)],u1 14 .and [.tm 6,.tm 13]] (ZC 14 .skip (.exit 0))) (.block 1 (.region [Zm 15 0,Zm 16 0,Zl 17 16,u1 18 (.ari .sub) [.tm 17,.cn (.int .i64 1)],u1 19 (.slice 1 false true) [.tm 15,.tm 18],Zm 0 19]))))) (ZR [Zm 20 0,Zm 2 20] .ret)))⟩
theorem Yr6:Yg YE8 Tryz.f167=some v167:=by kernel_rfl
def v159:VF:=⟨10,[.tmp 2],(ZR [u1 2 .mov [.cn .nil]] (ZR [Zm 3 0,u1 4 (.conv .u32) [.tm 3],Zm 5 0,u1 6 .shr [.tm 5,.cn (.int .u64 32)],u1 7 (.conv .u32) [.tm 6],u1 8 (.buildSlice 1 2 [(.int .u32 0)] [(0,1),(1,1)]) [.tm 4,.tm 7],Zc 9 167 8,Zm 2 9] .ret))⟩
theorem Yz6:Yg YE8 Tryz.f159=some v159:=by kernel_rfl
def v151:VF:=⟨5,[.tmp 2],(ZR [u1 2 .mov [.cn .nil]] (ZR [Zm 3 0,Zc 4 159 3,Zm 2 4] .ret))⟩
theorem YzY:Yg YE8 Tryz.f151=some v151:=by kernel_rfl
def v153:VF:=⟨43,[.tmp 4],(ZR [Zi 4 0] (.seq (.block 0 (ZR [Zm 7 0,Zl 8 7,Zm 9 1,Zl 10 9,Zr 11 .lss 8 10,Zm 6 11] (ZC 6 (ZR [Zi 4 (-1)] .ret) (ZR [Zm 13 0,Zl 14 13,Zm 15 1,Zl 16 15,Zr 17 .gtr 14 16,Zm 12 17] (ZC 12 (ZR [Zi 4 1] .ret) .skip))))) (.seq (ZR [Zm 18 0,Zl 19 18,u1 20 (.ari .sub) [.tm 19,.cn (.int .i64 1)],Zm 5 20] (.block 1 (.loop (.seq (ZR [Zm 21 5,Zq 22 .geq 21 0] (ZC 22 .skip (.exit 1))) (.seq (.block 2 (.seq (.draw [] [Zu 25 0,Zu 26 5,ZX 27 1 25 26,Zv 28 1 27,Zu 29 1,Zu 30 5,ZX 31 1 29 30,Zv 32 1 31,w1 33 (.cmp .neq) [.tm 28,.tm 32]]) (ZC 33 (.seq (.seq (.draw [] [Zu 34 0,Zu 35 5,ZX 36 1 34 35,Zv 37 1 36,Zu 38 1,Zu 39 5,ZX 40 1 38 39,Zv 41 1 40,w1 42 (.cmp .lss) [.tm 37,.tm 41]]) (ZC 42 (ZR [Zi 4 (-1)] .ret) .skip)) (ZR [Zi 4 1] .ret)) .skip))) (.region [Zm 23 5,u1 24 (.ari .sub) [.tm 23,.cn (.int .i64 1)],Zm 5 24])))))) (ZR [Zi 4 0] .ret))))⟩
theorem Yz0:Yg YE8 Tryz.f153=some v153:=by kernel_rfl
def v156:VF:=⟨59,[.tmp 4],(ZR [u1 4 .mov [.cn .nil]] (.seq (ZR [Zm 9 0,Zl 10 9,Zm 11 1,Zl 12 11,Zr 13 .lss 10 12] (ZC 13 (.region [Zm 14 1,Zm 15 0,Zm 0 14,Zm 1 15]) .skip)) (ZR [Zm 16 0,Zl 17 16,Zp 18 17 1,u1 19 (.make 1 4 [(.int .u32 0)]) [.tm 18,.tm 18],Zm 5 19] (ZR [u1 6 .mov [.cn (.int .u64 0)]] (.seq (ZR [Zm 20 0,Zl 21 20,Zi 22 0] (.block 0 (.loop (ZR [Zr 23 .lss 22 21] (.seq (ZC 23 .skip (.exit 0)) (.seq (.block 1 (ZR [Zm 24 22,Zm 7 24] (ZR [Zm 25 0,Zm 26 7,Zx 27 1 25 26,Zf 28 1 27,u1 29 (.conv .u64) [.tm 28],Zm 30 6,Zo 31 .add 29 30,Zm 8 31] (.seq (ZR [Zm 32 7,Zm 33 1,Zl 34 33,Zr 35 .lss 32 34] (ZC 35 (.region [Zm 36 8,Zm 37 1,Zm 38 7,Zx 39 1 37 38,Zf 40 1 39,u1 41 (.conv .u64) [.tm 40],Zo 42 .add 36 41,Zm 8 42]) .skip)) (.region [Zm 43 5,Zm 44 7,Zm 45 8,u1 46 (.conv .u32) [.tm 45],Zm 47 8,u1 48 .shr [.tm 47,.cn (.int .u64 32)],Zx 49 1 43 44,Zs 1 49 46,Zm 6 48]))))) (.region [Zp 50 22 1,Zm 22 50]))))))) (ZR [Zm 51 5,Zm 52 0,Zl 53 52,Zm 54 6,u1 55 (.conv .u32) [.tm 54],Zx 56 1 51 53,Zs 1 56 55] (ZR [Zm 57 5,Zc 58 167 57,Zm 4 58] .ret)))))))⟩
theorem Yz3:Yg YE8 Tryz.f156=some v156:=by kernel_rfl
def WD0:Env:={ ct:=fun _=>none,fn:=fun n=>match n with|167=>some v167|_=>none,meth:=fun _ _=>none}
theorem YoT:WD0.ct 167=none:=rfl
theorem YoU:WD0.fn 167=some v167:=rfl
theorem YAR:Yu YE8 WD0:=by
 refine⟨fun f c h=>?_,fun f vf h=>?_,(fun _ _ _ h=>by cases h),by kernel_rfl,(fun _ h=>by cases h)⟩
 ·cases h
 ·simp only[WD0]at h
  split at h
  ·cases h;exact⟨Tryz.f167,Tryz.func167,Yr6,Tryz.f167,Tryz.func167,by kernel_rfl,by kernel_rfl⟩
  ·cases h
theorem sh32(z:Nat):(z:Int).fdiv (2^min (YGq 32) 64)=((z/4294967296:Nat):Int):=YbA (s:=32) (by decide)
theorem YgH(z:Nat):IntKind.u32.wrap (z:Int)=((z%4294967296:Nat):Int):=by rw[IntKind.wrap_u32];omega
theorem YEZ:ofC.ok YE8 159:=by
 refine Yb Tryz.func159 Yz6 YAR 200 ofC fun args k h=>?_
 simp only[ofC]at h
 split at h
 ·rename_i n
  obtain⟨⟨h0,h1⟩,h⟩:=h
  obtain⟨X,rfl⟩:=YFW h0
  obtain⟨N,hN⟩:∃N,N=2:=⟨_,rfl⟩
  have hXN:X<4294967296^N:=by rw[hN];omega
  refine⟨[.int .u64 X],by simp [leL,le],?_⟩
  dsimp only[v159,YoT,YoU,v167,go_sem,reduceIte]
  simp only[Yd,YE5,YE3,reduceCtorEq,YE2]
  refine⟨by decide,by decide,?_⟩
  refine Loop.keep [0] Nat (fun j=>[(0,.own 0 0 j 1)]) (fun _=>[(0,.own false 1 N (fun k=>[.int .u32 (dig X k)]))]) [] (fun j=>j<=N/\X<4294967296^j) (fun j=>j) ?_ ?_
  ·refine⟨N,⟨YFk _,hXN⟩,?_⟩
   dsimp only[go_sem,reduceIte]
   simp only[Ya]
   refine⟨⟨hN.symm,by decide⟩,by decide,hN.symm,fun k hk=>?_⟩
   rw[show(2:Int)^min (YGq 32) 64=4294967296 by decide,Int.fdiv_eq_ediv_of_nonneg _ (by decide)]
   have e0:dig X 0=X%4294967296:=Yk7 X
   have e1:dig X 1=X/4294967296:=by rw[Yfl,Yk7];omega
   match k,hk with
   |0,_=>rw[e0];exact⟨⟨rfl,by rw[IntKind.wrap_u32];omega⟩,trivial⟩
   |1,_=>rw[e1];exact⟨⟨rfl,by rw[IntKind.wrap_u32];omega⟩,trivial⟩
  ·rintro j ⟨hj,haj⟩
   dsimp only[YE4,go_sem,reduceIte]
   simp only[Yd,YE5,YE3,reduceCtorEq,YE2]
   refine⟨fun hlt=>?_,fun hlt=>?_,fun hb=>?_,fun hb=>?_⟩
   ·rw[Ym (by omega) (by omega)];omega
   ·rw[Ym (by omega) (by omega)];omega
   ·rw[YFd,decide_eq_true_eq,decide_eq_true_eq]at hb
    obtain⟨h1,h2⟩:=hb
    rw[Ym (by omega) (by omega),YE4]at h2
    refine⟨by rw[Ym (by omega) (by omega)];omega,j-1,⟨by omega,?_⟩,by omega,?_⟩
    ·obtain⟨m,rfl⟩:∃m,j=m+1:=⟨j-1,by omega⟩
     exact Ya2 haj (by simp at h2;exact_mod_cast h2)
    ·rw[Ym (by omega) (by omega)]
     simp only[Ya] <;> simp [leL,le]
   ·have e:nl X=j:=by
     refine Yav haj ?_
     rw[YFZ,decide_eq_false_iff_not,decide_eq_false_iff_not]at hb
     rcases YFB j with h0|h0
     ·exact .inl h0
     ·refine .inr fun hh=>hb.elim (fun h=>h (by omega)) fun h=>h ?_
      rw[Ym h0 (by omega),YE4,hh];rfl
    subst e
    exact YaD h rfl rfl rfl fun j hj=>rfl
 ·exact h.1.elim
def WD1:Env:={ ct:=fun n=>match n with|159=>some ofC|_=>none,fn:=fun n=>match n with|167=>some v167|_=>none,meth:=fun _ _=>none}
theorem YoV:WD1.ct 159=some ofC:=rfl
theorem YaP:WD1.ct 167=none:=rfl
theorem YaQ:WD1.fn 167=some v167:=rfl
theorem YgW:Yu YE8 WD1:=by
 refine⟨fun f c h=>?_,fun f vf h=>?_,(fun _ _ _ h=>by cases h),by kernel_rfl,(fun _ h=>by cases h)⟩
 ·simp only[WD1]at h
  split at h
  ·cases h;exact⟨YEZ,Tryz.f159,Tryz.func159,by kernel_rfl,by kernel_rfl⟩
  ·cases h
 ·simp only[WD1]at h
  split at h
  ·cases h;exact⟨Tryz.f167,Tryz.func167,Yr6,Tryz.f167,Tryz.func167,by kernel_rfl,by kernel_rfl⟩
  ·cases h
theorem YEY:ofC.ok YE8 151:=by
 refine Yb Tryz.func151 YzY YgW 200 ofC fun args k h=>?_
 simp only[ofC]at h
 split at h
 ·rename_i n
  obtain⟨⟨h0,h1⟩,h⟩:=h
  refine⟨[.int .u64 n],by simp [leL,le],?_⟩
  dsimp only[v151,YoV,ofC,natS,go_sem,reduceIte]
  simp only[Yd,YE5,YE3,reduceCtorEq,YE2]
  exact⟨⟨h0,h1⟩,Yai (t:=true) h⟩
 ·exact h.1.elim
def wcmpC:Ctr:={ alias:=false,of:=fun l=>match l with
 | [.vs _ _ n sz get,.vs _ _ m sz' get']=> .ex Nat fun a=> .ex Nat fun b=> .pre (padP a n sz get/\padP b m sz' get'/\n=nl a/\m=nl b) (.fin (.int .i64 (ordN a b)) [])
 |_=>noC}
theorem Yyg{a b:Nat}(h:nl a<nl b):ordN a b= -1:=by
 have:a<b:=Nat.lt_of_not_le fun hh=>by have:=Ybu hh;omega
 rw[ordN,if_pos this]
theorem Yyf{a b:Nat}(h:nl b<nl a):ordN a b=1:=by
 have:b<a:=Nat.lt_of_not_le fun hh=>by have:=Ybu hh;omega
 rw[ordN,if_neg (by omega),if_pos this]
theorem YAm:wcmpC.ok YE8 153:=by
 refine Yb Tryz.func153 Yz0 YgW 200 wcmpC fun args k h=>?_
 simp only[wcmpC]at h
 split at h
 ·rename_i t1 z1 n sz get t2 z2 m sz' get'
  obtain⟨a,b,⟨⟨rfl,hn,ha,hg⟩,⟨rfl,hm,hb,hg'⟩,hna,hmb⟩,h⟩:=h
  refine⟨[.vs t1 z1 n 1 (fun k=>[.int .u32 (dig a k)]),.vs t2 z2 m 1 (fun k=>[.int .u32 (dig b k)])],⟨by simpa [le]using hg,by simpa [le]using hg',trivial⟩,?_⟩
  dsimp only[v153,go_sem,reduceIte]
  simp only[Yd,YE5,YE3,reduceCtorEq,YE2]
  refine⟨fun c1=>Yh ?_,fun c1=>⟨fun c2=>Yh ?_,fun c2=>?_⟩⟩
  ·rw[Yyg (by omega)]at h;exact h
  ·rw[Yyf (by omega)]at h;exact h
  refine Loop.keep [0,0,3] Nat (fun j=>[(5,.int .i64 ((j:Int)-1))]) (fun _=>[]) [] (fun j=>j<=n/\∀i,j<=i->dig a i=dig b i) (fun j=>j) ?_ ?_
  ·refine⟨n,⟨YFk _,fun i hi=>by rw[Y3 ha (by omega),Y3 hb (by omega)]⟩,?_⟩
   dsimp only[go_sem,reduceIte]
   simp only[Ya]
   rw[YE7 _ (by omega)]
   try simp
  ·rintro j ⟨hj,haj⟩
   dsimp only[YE4,go_sem,reduceIte]
   simp only[Yd,YE5,YE3,reduceCtorEq,YE2]
   refine⟨fun hlt=>?_,fun hge=>?_⟩
   ·obtain⟨i,rfl⟩:∃i,j=i+1:=⟨j-1,by omega⟩
    have e:((i+1:Nat):Int)-1=i:=by omega
    have gt:∀t,i<t->dig a t=dig b t:=fun t ht=>haj t (by omega)
    rw[e]
    simp only[YE4]
    refine⟨⟨by omega,by omega⟩,⟨by omega,by omega⟩,fun hd=>⟨⟨by omega,by omega⟩,⟨by omega,by omega⟩,fun hc=>Yh ?_,fun hc=>Yh ?_⟩,fun hd=>⟨i,⟨by omega,fun t ht=>?_⟩,by omega,?_⟩⟩
    ·have:=YdI gt (by omega:dig a i<dig b i)
     rw[ordN,if_pos this]at h;exact h
    ·have:=YdI (fun t ht=>(gt t ht).symm) (by omega:dig b i<dig a i)
     rw[ordN,if_neg (by omega),if_pos this]at h;exact h
    ·rcases Nat.eq_or_lt_of_le ht with rfl|ht
     ·omega
     ·exact gt t ht
    ·simp only[Ya]
     rw[YE7 _ (by omega)]
     try simp
   ·obtain rfl:j=0:=by omega
    have:a=b:=YeB fun i=>haj i (YGj _)
    rw[ordN,if_neg (by omega),if_neg (by omega)]at h
    exact Yh h
 ·exact h.1.elim
theorem YuE:plusC.ok YE8 156:=by
 refine Yb Tryz.func156 Yz3 YgW 300 plusC fun args k h=>?_
 simp only[plusC]at h
 split at h
 ·rename_i t1 z1 n sz get t2 z2 m sz' get'
  obtain⟨a,b,⟨⟨rfl,hn,ha,hg⟩,⟨rfl,hm,hb,hg'⟩,hn9,hm9⟩,h⟩:=h
  refine⟨[.vs t1 z1 n 1 (fun k=>[.int .u32 (dig a k)]),.vs t2 z2 m 1 (fun k=>[.int .u32 (dig b k)])],⟨by simpa [le]using hg,by simpa [le]using hg',trivial⟩,?_⟩
  dsimp only[v156,YaP,YaQ,v167,go_sem,reduceIte]
  simp only[Yd,YE5,YE3,reduceCtorEq,YE2]
  refine⟨fun hlt=>?_,fun hge=>?_⟩
  all_goals first
   | (obtain⟨q,rfl⟩:∃q,q=n:=⟨_,rfl⟩
      obtain⟨n,rfl⟩:∃q,q=m:=⟨_,rfl⟩
      obtain⟨m,rfl⟩:∃m,m=q:=⟨_,rfl⟩
      obtain⟨q,rfl⟩:∃q,q=a:=⟨_,rfl⟩
      obtain⟨a,rfl⟩:∃a,a=b:=⟨_,rfl⟩
      obtain⟨b,rfl⟩:∃b,b=q:=⟨_,rfl⟩
      rw[Nat.add_comm]at h
      obtain⟨N,hNn⟩:∃N,N=n+1:=⟨_,rfl⟩
      obtain⟨X,hX⟩:∃X,X=a+b:=⟨_,rfl⟩
      have hmn:m<=n:=by omega)
   | (obtain⟨N,hNn⟩:∃N,N=n+1:=⟨_,rfl⟩
      obtain⟨X,hX⟩:∃X,X=a+b:=⟨_,rfl⟩
      have hmn:m<=n:=by omega)
  all_goals
   have ha1:a<4294967296^n:=by assumption
   have hb1:b<4294967296^m:=by assumption
   have eN:IntKind.i64.wrap ((n:Int)+1)=((N:Nat):Int):=by rw[hNn,YE7 _ (by omega)];omega
   rw[eN]
   simp only[YE4]
   refine⟨⟨by decide,by omega,by omega,by unfold YN;omega⟩,?_⟩
   refine Loop.keep [0,0,3,14,0] Nat (fun i=>[(6,.int .u64 (cy a b i)),(22,.int .i64 i)]) (fun i=>[(0,.own false 1 N (fun k=>[.int .u32 (dig (X%4294967296^i) k)]))]) [] (fun i=>i<=n) (fun i=>n-i) ?_ ?_
   ·refine⟨0,by omega,?_⟩
    dsimp only[go_sem,reduceIte]
    simp only[Ya]
    simp [cy_0,Nat.mod_one,YbE,leL,le]
   ·rintro i hi
    dsimp only[YaP,YaQ,v167,YE4,go_sem,reduceIte]
    simp only[Yd,YE5,YE3,reduceCtorEq,YE2]
    refine⟨fun hlt=>⟨⟨by omega,by omega⟩,fun hc=>⟨⟨by omega,by omega⟩,by decide,⟨by omega,by omega⟩,by omega,i+1,by omega,by omega,?_⟩,fun hc=>⟨by decide,⟨by omega,by omega⟩,by omega,i+1,by omega,by omega,?_⟩⟩,fun hge=>?_⟩
    ·have hd1:=YJ a i
     have hd2:=YJ b i
     have hcy:=Yh1 a b i
     have e1:=Yeu a b i
     have e2:=Yjw a b i
     rw[show dig a i+dig b i+cy a b i=dig a i+cy a b i+dig b i by omega]at e1 e2
     rw[Ybg (by omega:dig a i<18446744073709551616),Ybg (by omega:dig b i<18446744073709551616),Yep (by omega),Yep (by omega),sh32,YgH,e1,e2,YE7 ((i:Int)+1) (by omega)]
     simp only[Ya]
     refine⟨by simp,fun j hj=>?_⟩
     rw[Y7,Y7,hX]
     by_cases hji:j=i
     ·rw[if_pos hji,if_pos (by omega),hji];simp only[leL,le,and_self]
     ·rw[if_neg hji];simp only[show(j<i+1)↔(j<i)from by omega];simp only[leL,le,and_self]
    ·have hd1:=YJ a i
     have hd2:dig b i=0:=Y3 hb1 (by omega)
     have hcy:=Yh1 a b i
     have e1:=Yeu a b i
     have e2:=Yjw a b i
     rw[hd2,YF8]at e1 e2
     rw[Ybg (by omega:dig a i<18446744073709551616),Yep (by omega),sh32,YgH,e1,e2,YE7 ((i:Int)+1) (by omega)]
     simp only[Ya]
     refine⟨by simp,fun j hj=>?_⟩
     rw[Y7,Y7,hX]
     by_cases hji:j=i
     ·rw[if_pos hji,if_pos (by omega),hji];simp only[leL,le,and_self]
     ·rw[if_neg hji];simp only[show(j<i+1)↔(j<i)from by omega];simp only[leL,le,and_self]
    ·obtain rfl:i=n:=by omega
     refine⟨⟨by omega,by omega⟩,by omega,?_⟩
     have hXN:X<4294967296^N:=by
      have h2:b<4294967296^i:=YFS hb1 (YFq (by decide) hmn)
      rw[hX,hNn,Yx];omega
     have htop:IntKind.u32.wrap ((cy a b i:Nat):Int)=((dig X i:Nat):Int):=by
      have e1:=Yeu a b i
      have hcy:=Yh1 a b i
      rw[Y3 ha1 (YFk _),Y3 hb1 hmn]at e1
      rw[YgH,hX,<-e1]
      omega
     rw[htop]
     rw[<-hX]at h
     refine Loop.keep [0] Nat (fun j=>[(0,.own 0 0 j 1)]) (fun _=>[(0,.own false 1 N (fun k=>[.int .u32 (dig X k)]))]) [] (fun j=>j<=N/\X<4294967296^j) (fun j=>j) ?_ ?_
     ·refine⟨N,⟨YFk _,hXN⟩,?_⟩
      dsimp only[go_sem,reduceIte]
      simp only[Ya]
      refine⟨by decide,by decide,fun j hj=>?_⟩
      split
      ·rename_i e;rw[e];exact⟨⟨rfl,rfl⟩,trivial⟩
      ·rw[Ybo (by omega)];exact⟨⟨rfl,rfl⟩,trivial⟩
     ·rintro j ⟨hj,haj⟩
      dsimp only[YE4,go_sem,reduceIte]
      simp only[Yd,YE5,YE3,reduceCtorEq,YE2]
      refine⟨fun hlt=>?_,fun hlt=>?_,fun hb=>?_,fun hb=>?_⟩
      ·rw[Ym (by omega) (by omega)];omega
      ·rw[Ym (by omega) (by omega)];omega
      ·rw[YFd,decide_eq_true_eq,decide_eq_true_eq]at hb
       obtain⟨h1,h2⟩:=hb
       rw[Ym (by omega) (by omega),YE4]at h2
       refine⟨by rw[Ym (by omega) (by omega)];omega,j-1,⟨by omega,?_⟩,by omega,?_⟩
       ·obtain⟨m,rfl⟩:∃m,j=m+1:=⟨j-1,by omega⟩
        exact Ya2 haj (by simp at h2;exact_mod_cast h2)
       ·rw[Ym (by omega) (by omega)]
        simp only[Ya] <;> simp [leL,le]
      ·have e:nl X=j:=by
        refine Yav haj ?_
        rw[YFZ,decide_eq_false_iff_not,decide_eq_false_iff_not]at hb
        rcases YFB j with h0|h0
        ·exact .inl h0
        ·refine .inr fun hh=>hb.elim (fun h=>h (by omega)) fun h=>h ?_
         rw[Ym h0 (by omega),YE4,hh];rfl
       subst e
       exact YaD h rfl rfl rfl fun j hj=>rfl
 ·exact h.1.elim
def v158:VF:=⟨68,[.tmp 4],(ZR [u1 4 .mov [.cn .nil]] (ZR [Zm 12 0,Zl 13 12,Zm 14 1,Zl 15 14,Zo 16 .add 13 15,u1 17 (.make 1 4 [(.int .u32 0)]) [.tm 16,.tm 16],Zm 5 17] (.seq (ZR [Zm 18 0,Zl 19 18,Zi 20 0] (.block 0 (.loop (ZR [Zr 21 .lss 20 19] (.seq (ZC 21 .skip (.exit 0)) (.seq (.block 1 (ZR [Zm 22 20,Zx 23 1 18 20,Zf 24 1 23,Zm 6 22,Zm 7 24] (ZR [u1 8 .mov [.cn (.int .u64 0)]] (.seq (ZR [Zm 25 1,Zl 26 25,Zi 27 0] (.block 2 (.loop (ZR [Zr 28 .lss 27 26] (.seq (ZC 28 .skip (.exit 2)) (.seq (.block 3 (ZR [Zm 29 27,Zx 30 1 25 27,Zf 31 1 30,Zm 9 29,Zm 10 31] (ZR [Zm 32 5,Zm 33 6,Zm 34 9,Zo 35 .add 33 34,Zx 36 1 32 35,Zf 37 1 36,u1 38 (.conv .u64) [.tm 37],Zm 39 7,u1 40 (.conv .u64) [.tm 39],Zm 41 10,u1 42 (.conv .u64) [.tm 41],Zo 43 .mul 40 42,Zo 44 .add 38 43,Zm 45 8,Zo 46 .add 44 45,Zm 11 46] (.region [Zm 47 5,Zm 48 6,Zm 49 9,Zo 50 .add 48 49,Zm 51 11,u1 52 (.conv .u32) [.tm 51],Zm 53 11,u1 54 .shr [.tm 53,.cn (.int .u64 32)],Zx 55 1 47 50,Zs 1 55 52,Zm 8 54])))) (.region [Zp 56 27 1,Zm 27 56]))))))) (.region [Zm 57 5,Zm 58 6,Zm 59 1,Zl 60 59,Zo 61 .add 58 60,Zm 62 8,u1 63 (.conv .u32) [.tm 62],Zx 64 1 57 61,Zs 1 64 63]))))) (.region [Zp 65 20 1,Zm 20 65]))))))) (ZR [Zm 66 5,Zc 67 167 66,Zm 4 67] .ret))))⟩
theorem Yz5:Yg YE8 Tryz.f158=some v158:=by kernel_rfl
def v166:VF:=⟨58,[.tmp 4],(ZR [u1 4 .mov [.cn .nil]] (.seq (ZR [Zm 11 0,Zl 12 11,Zq 13 .eql 12 0] (ZC 13 (ZR [u1 4 .mov [.cn .nil]] .ret) .skip)) (ZR [Zm 14 1,u1 15 .quo [.tm 14,.cn (.int .i64 32)],Zm 16 1,u1 17 .rem [.tm 16,.cn (.int .i64 32)],u1 18 (.conv .u64) [.tm 17],Zm 5 15,Zm 6 18] (ZR [Zm 19 0,Zl 20 19,Zm 21 5,Zo 22 .add 20 21,Zp 23 22 1,u1 24 (.make 1 4 [(.int .u32 0)]) [.tm 23,.tm 23],Zm 7 24] (.seq (ZR [Zm 25 0,Zl 26 25,Zi 27 0] (.block 0 (.loop (ZR [Zr 28 .lss 27 26] (.seq (ZC 28 .skip (.exit 0)) (.seq (.block 1 (ZR [Zm 29 27,Zx 30 1 25 27,Zf 31 1 30,Zm 8 29,Zm 9 31] (ZR [Zm 32 9,u1 33 (.conv .u64) [.tm 32],Zm 34 6,u1 35 .shl [.tm 33,.tm 34],Zm 10 35] (ZR [Zm 36 7,Zm 37 8,Zm 38 5,Zo 39 .add 37 38,Zx 40 1 36 39,Zf 41 1 40,Zm 42 10,u1 43 (.conv .u32) [.tm 42],u1 44 (.bit .or) [.tm 41,.tm 43],Zx 45 1 36 39,Zs 1 45 44] (.region [Zm 46 7,Zm 47 8,Zm 48 5,Zo 49 .add 47 48,Zp 50 49 1,Zm 51 10,u1 52 .shr [.tm 51,.cn (.int .u64 32)],u1 53 (.conv .u32) [.tm 52],Zx 54 1 46 50,Zs 1 54 53]))))) (.region [Zp 55 27 1,Zm 27 55]))))))) (ZR [Zm 56 7,Zc 57 167 56,Zm 4 57] .ret))))))⟩
theorem YAd:Yg YE8 Tryz.f166=some v166:=by kernel_rfl
def v165:VF:=⟨64,[.tmp 4],(ZR [u1 4 .mov [.cn .nil]] (ZR [Zm 10 1,u1 11 .quo [.tm 10,.cn (.int .i64 32)],Zm 12 1,u1 13 .rem [.tm 12,.cn (.int .i64 32)],u1 14 (.conv .u64) [.tm 13],Zm 5 11,Zm 6 14] (.seq (ZR [Zm 15 5,Zm 16 0,Zl 17 16,Zr 18 .geq 15 17] (ZC 18 (ZR [u1 4 .mov [.cn .nil]] .ret) .skip)) (ZR [Zm 19 0,Zl 20 19,Zm 21 5,Zo 22 .sub 20 21,u1 23 (.make 1 4 [(.int .u32 0)]) [.tm 22,.tm 22],Zm 7 23] (.seq (ZR [Zm 24 7,Zl 25 24,Zi 26 0] (.block 0 (.loop (ZR [Zr 27 .lss 26 25] (.seq (ZC 27 .skip (.exit 0)) (.seq (.block 1 (ZR [Zm 28 26,Zm 8 28] (ZR [Zm 29 0,Zm 30 8,Zm 31 5,Zo 32 .add 30 31,Zx 33 1 29 32,Zf 34 1 33,u1 35 (.conv .u64) [.tm 34],Zm 9 35] (.seq (ZR [Zm 36 8,Zm 37 5,Zo 38 .add 36 37,Zp 39 38 1,Zm 40 0,Zl 41 40,Zr 42 .lss 39 41] (ZC 42 (.region [Zm 43 9,Zm 44 0,Zm 45 8,Zm 46 5,Zo 47 .add 45 46,Zp 48 47 1,Zx 49 1 44 48,Zf 50 1 49,u1 51 (.conv .u64) [.tm 50],u1 52 .shl [.tm 51,.cn (.int .u64 32)],u1 53 (.bit .or) [.tm 43,.tm 52],Zm 9 53]) .skip)) (.region [Zm 54 7,Zm 55 8,Zm 56 9,Zm 57 6,u1 58 .shr [.tm 56,.tm 57],u1 59 (.conv .u32) [.tm 58],Zx 60 1 54 55,Zs 1 60 59]))))) (.region [Zp 61 26 1,Zm 26 61]))))))) (ZR [Zm 62 7,Zc 63 167 62,Zm 4 63] .ret))))))⟩
theorem YAc:Yg YE8 Tryz.f165=some v165:=by kernel_rfl
theorem Ynl{V j x:Nat}(hV:V<4294967296^j):setD V j x=V+x*4294967296^j:=by
 have:=Ydr V j x
 rw[Y3 hV (YFk _)]at this
 omega
def wtimC:Ctr:={ alias:=false,of:=fun l=>match l with
 | [.vs _ _ n sz get,.vs _ _ m sz' get']=> .ex Nat fun a=> .ex Nat fun b=> .pre (padP a n sz get/\padP b m sz' get'/\n+m<=99999) (.fin (natS false (a*b)) [])
 |_=>noC}
theorem Ysb:wtimC.ok YE8 158:=by
 refine Yb Tryz.func158 Yz5 YgW 300 wtimC fun args k h=>?_
 simp only[wtimC]at h
 split at h
 ·rename_i t1 z1 n sz get t2 z2 m sz' get'
  obtain⟨a,b,⟨⟨rfl,hn,ha,hg⟩,⟨rfl,hm,hb,hg'⟩,hnm⟩,h⟩:=h
  refine⟨[.vs t1 z1 n 1 (fun k=>[.int .u32 (dig a k)]),.vs t2 z2 m 1 (fun k=>[.int .u32 (dig b k)])],⟨by simpa [le]using hg,by simpa [le]using hg',trivial⟩,?_⟩
  dsimp only[v158,YaP,YaQ,v167,go_sem,reduceIte]
  simp only[Yd,YE5,YE3,reduceCtorEq,YE2]
  obtain⟨N,hNn⟩:∃N,N=n+m:=⟨_,rfl⟩
  obtain⟨X,hX⟩:∃X,X=a*b:=⟨_,rfl⟩
  have en:IntKind.i64.wrap ((n:Int)+(m:Int))=(N:Int):=by rw[hNn,YE7 _ (by omega)];omega
  rw[en]
  simp only[YE4]
  refine⟨⟨by decide,by omega,by omega,by unfold YN;omega⟩,?_⟩
  refine Loop.keep [0,0,3,12,0] Nat (fun i=>[(20,.int .i64 i)]) (fun i=>[(0,.own false 1 N (fun k=>[.int .u32 (dig ((a%4294967296^i)*b) k)]))]) [] (fun i=>i<=n) (fun i=>n-i) ?_ ?_
  ·refine⟨0,by omega,?_⟩
   dsimp only[go_sem,reduceIte]
   simp only[Ya]
   simp [Nat.mod_one,YbE,leL,le]
  ·rintro i hi
   dsimp only[YaP,YaQ,v167,YE4,go_sem,reduceIte]
   simp only[Yd,YE5,YE3,reduceCtorEq,YE2]
   have hrow:∀i,(a%4294967296^i)*b<4294967296^(i+m):=fun i=>by
    rw[YFi]
    exact Nat.mul_lt_mul_of_lt_of_le (YFC _ (Yo i)) (YGa hb) (Yo m)
   refine⟨fun hlt=>?_,fun hge=>?_⟩
   ·refine⟨⟨by omega,by omega⟩,?_⟩
    refine Loop.keep [0,0,3,0,0,10,0,0,4,0] (Nat×Nat×Nat) (fun x=>[(8,.int .u64 x.2.2),(27,.int .i64 x.1)]) (fun x=>[(0,.own false 1 N (fun k=>[.int .u32 (dig x.2.1 k)]))]) [] (fun x=>x.1<=m/\x.2.2<4294967296/\x.2.1<4294967296^(i+m)/\x.2.1+x.2.2*4294967296^(i+x.1)=(a%4294967296^i)*b+dig a i*(b%4294967296^x.1)*4294967296^i) (fun x=>m-x.1) ?_ ?_
    ·refine⟨(0,(a%4294967296^i)*b,0),⟨by simp only;omega,by simp only;omega,hrow i,by simp [Nat.mod_one]⟩,?_⟩
     dsimp only[go_sem,reduceIte]
     simp only[Ya]
     try simp [leL,le]
    ·rintro⟨t,V,c⟩ ⟨ht,hc,hV,he⟩
     dsimp only at ht hc hV he
     dsimp only[YE4,go_sem,reduceIte]
     simp only[Yd,YE5,YE3,reduceCtorEq,YE2]
     refine⟨fun hlt2=>?_,fun hge2=>?_⟩
     ·have w1:IntKind.i64.wrap ((i:Int)+(t:Int))=((i+t:Nat):Int):=by rw[YE7 _ (by omega)];simp
      rw[w1]
      simp only[YE4]
      have hd0:=YJ V (i+t)
      have hd1:=YJ a i
      have hd2:=YJ b t
      obtain⟨hb1,hb2⟩:=Yke hd0 (YJ a i) (YJ b t) hc
      have hs:=YiD he
      refine⟨⟨by omega,by omega⟩,⟨by omega,by omega⟩,by omega,by decide,⟨by omega,by omega⟩,by omega,
       (t+1,setD V (i+t) ((dig V (i+t)+dig a i*dig b t+c)%4294967296),(dig V (i+t)+dig a i*dig b t+c)/4294967296),⟨by simp only;omega,hb2,YiR hV (YFC _ (by decide)) (by omega),hs⟩,by simp only;omega,?_⟩
      rw[Ybg (by omega:dig V (i+t)<18446744073709551616),Ybg (by omega:dig a i<18446744073709551616),Ybg (by omega:dig b t<18446744073709551616),YkJ (by omega),Yep (by omega),Yep (by omega),YgH,sh32,YE7 ((t:Int)+1) (by omega)]
      simp only[Ya]
      refine⟨by simp,fun j hj=>?_⟩
      rw[Yce (YFC _ (by decide))]
      split <;> simp only[leL,le,and_self]
     ·obtain rfl:t=m:=by omega
      have w1:IntKind.i64.wrap ((i:Int)+(t:Int))=((i+t:Nat):Int):=by rw[YE7 _ (by omega)];simp
      rw[w1]
      simp only[YE4]
      rw[YFT hb]at he
      have hrow2:(a%4294967296^(i+1))*b=setD V (i+t) c:=by
       rw[Ynl hV,he,Yar,YFw,YFg,YFc (4294967296^i)]
      refine⟨⟨by omega,by omega⟩,by omega,i+1,by omega,by omega,?_⟩
      rw[Ye7 hc,hrow2,YE7 ((i:Int)+1) (by omega)]
      simp only[Ya]
      refine⟨by simp,fun j hj=>?_⟩
      rw[Yce hc]
      split <;> simp only[leL,le,and_self]
   ·obtain rfl:i=n:=by omega
    have hmi:a%4294967296^i=a:=YFT ha
    have hXN:X<4294967296^N:=by
     have:=hrow i
     rw[hmi]at this
     rw[hX,hNn];exact this
    rw[hmi,<-hX]
    rw[<-hX]at h
    refine Loop.keep [0] Nat (fun j=>[(0,.own 0 0 j 1)]) (fun _=>[(0,.own false 1 N (fun k=>[.int .u32 (dig X k)]))]) [] (fun j=>j<=N/\X<4294967296^j) (fun j=>j) ?_ ?_
    ·refine⟨N,⟨YFk _,hXN⟩,?_⟩
     dsimp only[go_sem,reduceIte]
     simp only[Ya]
     simp [leL,le]
    ·rintro j ⟨hj,haj⟩
     dsimp only[YE4,go_sem,reduceIte]
     simp only[Yd,YE5,YE3,reduceCtorEq,YE2]
     refine⟨fun hlt=>?_,fun hlt=>?_,fun hb=>?_,fun hb=>?_⟩
     ·rw[Ym (by omega) (by omega)];omega
     ·rw[Ym (by omega) (by omega)];omega
     ·rw[YFd,decide_eq_true_eq,decide_eq_true_eq]at hb
      obtain⟨h1,h2⟩:=hb
      rw[Ym (by omega) (by omega),YE4]at h2
      refine⟨by rw[Ym (by omega) (by omega)];omega,j-1,⟨by omega,?_⟩,by omega,?_⟩
      ·obtain⟨m,rfl⟩:∃m,j=m+1:=⟨j-1,by omega⟩
       exact Ya2 haj (by simp at h2;exact_mod_cast h2)
      ·rw[Ym (by omega) (by omega)]
       simp only[Ya] <;> simp [leL,le]
     ·have e:nl X=j:=by
       refine Yav haj ?_
       rw[YFZ,decide_eq_false_iff_not,decide_eq_false_iff_not]at hb
       rcases YFB j with h0|h0
       ·exact .inl h0
       ·refine .inr fun hh=>hb.elim (fun h=>h (by omega)) fun h=>h ?_
        rw[Ym h0 (by omega),YE4,hh];rfl
      subst e
      exact YaD h rfl rfl rfl fun j hj=>rfl
 ·exact h.1.elim
def wupC:Ctr:={ alias:=false,of:=fun l=>match l with
 | [.vs _ _ n sz get,.int .i64 s]=> .ex Nat fun a=> .ex Nat fun d=> .pre (padP a n sz get/\n=nl a/\n<=9999/\s=d/\d<=20000) (.all Bool fun z=> .fin (natS (z&&decide (a*2^d=0)) (a*2^d)) [])
 |_=>noC}
def wdownC:Ctr:={ alias:=false,of:=fun l=>match l with
 | [.vs _ _ n sz get,.int .i64 s]=> .ex Nat fun a=> .ex Nat fun d=> .pre (padP a n sz get/\n<=9999/\s=d/\d<=20000) (.all Bool fun z=> .fin (natS (z&&decide (a/2^d=0)) (a/2^d)) [])
 |_=>noC}
theorem Ymd{k:SV->List HO->Prop}{al:Bool}{hp:List HO}(h:k (natS true 0) []):YK al k .nil hp:=
 YE h (by show le 0 0 (view true hp (viewN true hp 2) .nil) _;unfold view;simp [natS,nl_0,le]) (fun _=>by simp [natS,Yt,Ys])
theorem or_hi{x y:Nat}(hx:x<4294967296)(hy:y<4294967296):bitI .or .u64 (x:Int) (IntKind.u64.wrap ((y:Int)*2^min (YGq 32) 64))=((x+y*4294967296:Nat):Int):=by
 have e:IntKind.u64.wrap ((y:Int)*2^min (YGq 32) 64)=((y*4294967296:Nat):Int):=YgA (s:=32) (by decide) (by omega)
 rw[e,show bitI .or .u64 (x:Int) ((y*4294967296:Nat):Int)=((x||| y*4294967296:Nat):Int)from Yq8 (by omega) (by omega)]
 have:=Nat.two_pow_add_eq_or_of_lt (i:=32) hx y
 rw[Nat.or_comm,YFc,show(4294967296:Nat)=2^32 from rfl,<-this,Nat.add_comm]
theorem Ykd{y r:Nat}(h:r<32):y%(4294967296*4294967296)/2^r%4294967296=y/2^r%4294967296:=by
 have e:(4294967296*4294967296:Nat)=2^r*(4294967296*2^(32-r)):=by
  rw[show(4294967296:Nat)=2^32 from rfl,<-YFi,<-YFi,<-YFi];congr 1;omega
 rw[e,Nat.mod_mul_right_div_self,Nat.mod_mul_right_mod]
theorem Ymw{a d w r:Nat}(hw:w=d/32)(hr:r=d%32)(i:Nat):dig (a/2^d) i=(dig a (i+w)+dig a (i+w+1)*4294967296)/2^r%4294967296:=by
 have e:dig a (i+w)+dig a (i+w+1)*4294967296=a/4294967296^(i+w)%(4294967296*4294967296):=by
  unfold dig
  rw[Yx,<-YFn]
  generalize a/4294967296^(i+w)=y
  omega
 rw[e,Ykd (by omega)]
 unfold dig
 have e2:2^d*4294967296^i=4294967296^(i+w)*2^r:=by
  rw[Yb1,Yb1,<-YFi,<-YFi];congr 1;omega
 rw[YFn,YFn,e2]
theorem Yw6{a d w n N:Nat}(hw:w=d/32)(hN:N=n-w)(hwn:w<n)(ha:a<4294967296^n):a/2^d<4294967296^N:=by
 rw[YFE (YF d)]
 refine YFS ha ?_
 rw[Yb1,Yb1,<-YFi]
 exact YFq (by decide) (by omega)
theorem YgG{d w r:Nat}(hw:w=d/32)(hr:r=d%32):2^d=2^r*4294967296^w:=by
 rw[Yb1,<-YFi];congr 1;omega
theorem Yx4(x:Nat){r:Nat}(hr:r<32):x*2^r%4294967296=2^r*(x%2^(32-r)):=by
 have e:(4294967296:Nat)=2^r*2^(32-r):=by
  rw[<-YFi,show r+(32-r)=32 by omega]
 rw[YFc x,e,Nat.mul_mod_mul_left]
theorem Yzi{a d w r:Nat}(hw:w=d/32)(hr:r=d%32)(i:Nat):
 (dig ((a%4294967296^i)*2^d) (i+w) ||| dig a i*2^r%4294967296)<4294967296/\(a%4294967296^(i+1))*2^d=setD (setD ((a%4294967296^i)*2^d) (i+w) (dig ((a%4294967296^i)*2^d) (i+w) ||| dig a i*2^r%4294967296)) (i+w+1) (dig a i*2^r/4294967296):=by
 have hr32:r<32:=by omega
 have hb:(dig ((a%4294967296^i)*2^d) (i+w) ||| dig a i*2^r%4294967296)<4294967296:=Nat.or_lt_two_pow (n:=32) (YJ _ _) (YFC _ (by decide))
 refine⟨hb,?_⟩
 have hY:(a%4294967296^i)*2^d<4294967296^(i+w)*2^r:=by
  rw[YgG hw hr,<-YFg,Nat.mul_right_comm,YFi]
  exact Nat.mul_lt_mul_of_pos_right (Nat.mul_lt_mul_of_pos_right (YFC _ (Yo i)) (Yo w)) (YF r)
 have h2r:2^r<4294967296:=Nat.pow_lt_pow_right (a:=2) (n:=32) (by decide) hr32
 have hYl:(a%4294967296^i)*2^d<4294967296^(i+w+1):=by
  rw[Yx]
  exact YFS hY (YFe _ (YGa h2r))
 have hd0:dig ((a%4294967296^i)*2^d) (i+w)<2^r:=by
  unfold dig
  refine YFG (Nat.mod_le _ _) ?_
  rw[YFE (Yo _),YFc (2^r)]
  exact hY
 have hor:(dig ((a%4294967296^i)*2^d) (i+w) ||| dig a i*2^r%4294967296)=dig ((a%4294967296^i)*2^d) (i+w)+dig a i*2^r%4294967296:=by
  rw[Yx4 _ hr32,Nat.or_comm,<-Nat.two_pow_add_eq_or_of_lt hd0,Nat.add_comm]
 rw[Ynl (YiR hYl hb (by omega))]
 have e1:=Ydr ((a%4294967296^i)*2^d) (i+w) (dig ((a%4294967296^i)*2^d) (i+w) ||| dig a i*2^r%4294967296)
 rw[hor,YFw]at e1
 rw[hor]
 have e2:(a%4294967296^(i+1))*2^d=(a%4294967296^i)*2^d+dig a i*2^r*4294967296^(i+w):=by
  rw[Yar,YFw,YFi,YgG hw hr]
  congr 1
  simp only[YFg,YFY,YFc]
 have e3:dig a i*2^r*4294967296^(i+w)=dig a i*2^r%4294967296*4294967296^(i+w)+dig a i*2^r/4294967296*4294967296^(i+w+1):=by
  rw[Yx,YFc (4294967296^(i+w)) 4294967296,<-YFg,<-YFw]
  congr 1
  omega
 rw[e2,e3]
 omega
theorem shl_r{x:Nat}(hx:x<4294967296){r:Nat}(h:r<32):IntKind.u64.wrap ((x:Int)*2^min (YGq (IntKind.u64.wrap (r:Int))) 64)=((x*2^r:Nat):Int):=by
 have h2r:2^r<4294967296:=Nat.pow_lt_pow_right (a:=2) (n:=32) (by decide) h
 have:x*2^r<=4294967295*4294967295:=YFt (by omega) (by omega)
 rw[Ybg (by omega),YE4];exact YgA (by omega) (by omega)
theorem YAX{x y:Nat}(hx:x<4294967296)(hy:y<4294967296):bitI .or .u32 (x:Int) (y:Int)=((x||| y:Nat):Int):=Yq7 hx hy
theorem YDL(x:Nat){r:Nat}(h:r<32):(x:Int).fdiv (2^min (YGq (IntKind.u64.wrap (r:Int))) 64)=((x/2^r:Nat):Int):=by
 rw[Ybg (by omega),YE4];exact YbA (by omega)
theorem YuD:wdownC.ok YE8 165:=by
 refine Yb Tryz.func165 YAc YgW 300 wdownC fun args k h=>?_
 simp only[wdownC]at h
 split at h
 ·rename_i t1 z1 n sz get s
  obtain⟨a,d,⟨⟨rfl,hn,ha,hg⟩,hn9,rfl,hd⟩,h⟩:=h
  refine⟨[.vs t1 z1 n 1 (fun k=>[.int .u32 (dig a k)]),.int .i64 d],⟨by simpa [le]using hg,⟨rfl,rfl⟩,trivial⟩,?_⟩
  dsimp only[v165,YaP,YaQ,v167,go_sem,reduceIte]
  simp only[Yd,YE5,YE3,reduceCtorEq,YE2]
  obtain⟨w,hw⟩:∃w,w=d/32:=⟨_,rfl⟩
  obtain⟨r,hr⟩:∃r,r=d%32:=⟨_,rfl⟩
  have hr32:r<32:=by rw[hr];exact YFC _ (by decide)
  have ew:IntKind.i64.wrap ((d:Int).tdiv 32)=(w:Int):=by
   have:(d:Int).tdiv 32=((d/32:Nat):Int):=YGg (y:=32) rfl rfl
   rw[this,hw,YE7 _ (by omega)]
  have er:(d:Int).tmod 32=(r:Int):=by rw[hr];exact YGr (y:=32) rfl rfl
  obtain⟨X,hX⟩:∃X,X=a/2^d:=⟨_,rfl⟩
  rw[ew,er]
  refine⟨by decide,by decide,fun hc=>?_,fun hc=>?_⟩
  ·have:a/2^d=0:=by
    rw[YGc]
    refine YFS ha ?_
    rw[Yb1]
    exact YFq (by decide) (by omega)
   rw[this]at h
   exact Ymd (show k _ []from h true)
  ·obtain⟨N,hNn⟩:∃N,N=n-w:=⟨_,rfl⟩
   have en:IntKind.i64.wrap ((n:Int)-(w:Int))=(N:Int):=by rw[hNn,YE7 _ (by omega)];omega
   rw[en]
   simp only[YE4]
   have hXN:X<4294967296^N:=by rw[hX];exact Yw6 hw hNn (by omega) ha
   refine⟨⟨by decide,by omega,by omega,by unfold YN;omega⟩,?_⟩
   refine Loop.keep [0,4,0,0,16,0] Nat (fun i=>[(26,.int .i64 i)]) (fun i=>[(0,.own false 1 N (fun k=>[.int .u32 (dig (X%4294967296^i) k)]))]) [] (fun i=>i<=N) (fun i=>N-i) ?_ ?_
   ·refine⟨0,by omega,?_⟩
    dsimp only[go_sem,reduceIte]
    simp only[Ya]
    simp [Nat.mod_one,YbE,leL,le]
   ·rintro i hi
    dsimp only[YaP,YaQ,v167,YE4,go_sem,reduceIte]
    simp only[Yd,YE5,YE3,reduceCtorEq,YE2]
    refine⟨fun hlt=>?_,fun hge=>?_⟩
    ·have w1:IntKind.i64.wrap ((i:Int)+(w:Int))=((i+w:Nat):Int):=by rw[YE7 _ (by omega)];simp
     have w2:IntKind.i64.wrap (((i+w:Nat):Int)+1)=((i+w+1:Nat):Int):=by rw[YE7 _ (by omega)];simp
     rw[w1,w2]
     simp only[YE4]
     have hd1:=YJ a (i+w)
     have hd2:=YJ a (i+w+1)
     refine⟨⟨by omega,by omega⟩,fun hc2=>⟨⟨by omega,by omega⟩,by decide,by rw[Ybg (by omega)];omega,⟨by omega,by omega⟩,by omega,i+1,by omega,by omega,?_⟩,fun hc2=>⟨by rw[Ybg (by omega)];omega,⟨by omega,by omega⟩,by omega,i+1,by omega,by omega,?_⟩⟩
     ·rw[Ybg (by omega:dig a (i+w)<18446744073709551616),Ybg (by omega:dig a (i+w+1)<18446744073709551616),or_hi hd1 hd2,YDL _ hr32,YgH,<-Ymw hw hr,YE7 ((i:Int)+1) (by omega)]
      simp only[Ya]
      refine⟨by simp,fun j hj=>?_⟩
      rw[Y7,Y7,hX]
      by_cases hji:j=i
      ·rw[if_pos hji,if_pos (by omega),hji];simp only[leL,le,and_self]
      ·rw[if_neg hji];simp only[show(j<i+1)↔(j<i)from by omega];simp only[leL,le,and_self]
     ·have hz:dig a (i+w+1)=0:=Y3 ha (by omega)
      have hdd:= @Ymw a d w r hw hr i
      rw[hz,Nat.zero_mul,YF8]at hdd
      rw[Ybg (by omega:dig a (i+w)<18446744073709551616),YDL _ hr32,YgH,<-hdd,YE7 ((i:Int)+1) (by omega)]
      simp only[Ya]
      refine⟨by simp,fun j hj=>?_⟩
      rw[Y7,Y7,hX]
      by_cases hji:j=i
      ·rw[if_pos hji,if_pos (by omega),hji];simp only[leL,le,and_self]
      ·rw[if_neg hji];simp only[show(j<i+1)↔(j<i)from by omega];simp only[leL,le,and_self]
    ·obtain rfl:i=N:=by omega
     rw[YFT hXN]
     have h:k (natS false X) []:=by rw[hX];exact h false
     obtain⟨N,rfl⟩:∃N,N=i:=⟨_,rfl⟩
     refine Loop.keep [0] Nat (fun j=>[(0,.own 0 0 j 1)]) (fun _=>[(0,.own false 1 N (fun k=>[.int .u32 (dig X k)]))]) [] (fun j=>j<=N/\X<4294967296^j) (fun j=>j) ?_ ?_
     ·refine⟨N,⟨YFk _,hXN⟩,?_⟩
      dsimp only[go_sem,reduceIte]
      simp only[Ya]
      simp [leL,le]
     ·rintro j ⟨hj,haj⟩
      dsimp only[YE4,go_sem,reduceIte]
      simp only[Yd,YE5,YE3,reduceCtorEq,YE2]
      refine⟨fun hlt=>?_,fun hlt=>?_,fun hb=>?_,fun hb=>?_⟩
      ·rw[Ym (by omega) (by omega)];omega
      ·rw[Ym (by omega) (by omega)];omega
      ·rw[YFd,decide_eq_true_eq,decide_eq_true_eq]at hb
       obtain⟨h1,h2⟩:=hb
       rw[Ym (by omega) (by omega),YE4]at h2
       refine⟨by rw[Ym (by omega) (by omega)];omega,j-1,⟨by omega,?_⟩,by omega,?_⟩
       ·obtain⟨m,rfl⟩:∃m,j=m+1:=⟨j-1,by omega⟩
        exact Ya2 haj (by simp at h2;exact_mod_cast h2)
       ·rw[Ym (by omega) (by omega)]
        simp only[Ya] <;> simp [leL,le]
      ·have e:nl X=j:=by
        refine Yav haj ?_
        rw[YFZ,decide_eq_false_iff_not,decide_eq_false_iff_not]at hb
        rcases YFB j with h0|h0
        ·exact .inl h0
        ·refine .inr fun hh=>hb.elim (fun h=>h (by omega)) fun h=>h ?_
         rw[Ym h0 (by omega),YE4,hh];rfl
       subst e
       exact YaD h rfl rfl rfl fun j hj=>rfl
 ·exact h.1.elim
theorem YE0:wupC.ok YE8 166:=by
 refine Yb Tryz.func166 YAd YgW 300 wupC fun args k h=>?_
 simp only[wupC]at h
 split at h
 ·rename_i t1 z1 n sz get s
  obtain⟨a,d,⟨⟨rfl,hn,ha,hg⟩,hna,hn9,rfl,hd⟩,h⟩:=h
  refine⟨[.vs t1 z1 n 1 (fun k=>[.int .u32 (dig a k)]),.int .i64 d],⟨by simpa [le]using hg,⟨rfl,rfl⟩,trivial⟩,?_⟩
  dsimp only[v166,YaP,YaQ,v167,go_sem,reduceIte]
  simp only[Yd,YE5,YE3,reduceCtorEq,YE2]
  obtain⟨w,hw⟩:∃w,w=d/32:=⟨_,rfl⟩
  obtain⟨r,hr⟩:∃r,r=d%32:=⟨_,rfl⟩
  have hr32:r<32:=by rw[hr];exact YFC _ (by decide)
  have ew:IntKind.i64.wrap ((d:Int).tdiv 32)=(w:Int):=by
   have:(d:Int).tdiv 32=((d/32:Nat):Int):=YGg (y:=32) rfl rfl
   rw[this,hw,YE7 _ (by omega)]
  have er:(d:Int).tmod 32=(r:Int):=by rw[hr];exact YGr (y:=32) rfl rfl
  obtain⟨X,hX⟩:∃X,X=a*2^d:=⟨_,rfl⟩
  rw[ew,er]
  refine⟨fun hc=>?_,fun hc=>⟨by decide,by decide,?_⟩⟩
  ·obtain rfl:n=0:=by omega
   have:a=0:=by simpa using ha
   rw[this,Nat.zero_mul]at h
   exact Ymd (show k _ []from h true)
  ·obtain⟨N,hNn⟩:∃N,N=n+w+1:=⟨_,rfl⟩
   have en:IntKind.i64.wrap (IntKind.i64.wrap ((n:Int)+(w:Int))+1)=(N:Int):=by rw[hNn,YE7 ((n:Int)+w) (by omega),YE7 _ (by omega)];omega
   rw[en]
   simp only[YE4]
   refine⟨⟨by decide,by omega,by omega,by unfold YN;omega⟩,?_⟩
   refine Loop.keep [0,4,0,0,17,0] Nat (fun i=>[(27,.int .i64 i)]) (fun i=>[(0,.own false 1 N (fun k=>[.int .u32 (dig ((a%4294967296^i)*2^d) k)]))]) [] (fun i=>i<=n) (fun i=>n-i) ?_ ?_
   ·refine⟨0,by omega,?_⟩
    dsimp only[go_sem,reduceIte]
    simp only[Ya]
    simp [Nat.mod_one,YbE,leL,le]
   ·rintro i hi
    dsimp only[YaP,YaQ,v167,YE4,go_sem,reduceIte]
    simp only[Yd,YE5,YE3,reduceCtorEq,YE2]
    refine⟨fun hlt=>?_,fun hge=>?_⟩
    ·have w1:IntKind.i64.wrap ((i:Int)+(w:Int))=((i+w:Nat):Int):=by rw[YE7 _ (by omega)];simp
     have w2:IntKind.i64.wrap (((i+w:Nat):Int)+1)=((i+w+1:Nat):Int):=by rw[YE7 _ (by omega)];simp
     rw[w1,w2]
     simp only[YE4]
     have hd1:=YJ a i
     obtain⟨s1,s2⟩:= @Yzi a d w r hw hr i
     refine⟨⟨by omega,by omega⟩,by rw[Ybg (by omega)];omega,⟨by omega,by omega⟩,by omega,⟨by omega,by omega⟩,by omega,by decide,⟨by omega,by omega⟩,by omega,i+1,by omega,by omega,?_⟩
     rw[Ybg (by omega:dig a i<18446744073709551616),shl_r hd1 hr32,YgH,sh32,YAX (YJ _ _) (YFC _ (by decide)),Ye7 (by
      have h2r:2^r<4294967296:=Nat.pow_lt_pow_right (a:=2) (n:=32) (by decide) hr32
      have:dig a i*2^r<=4294967295*4294967295:=YFt (by omega) (by omega)
      omega),YE7 ((i:Int)+1) (by omega)]
     simp only[Ya]
     refine⟨by simp,fun j hj=>?_⟩
     have hhi:dig a i*2^r/4294967296<4294967296:=by
      have h2r:2^r<4294967296:=Nat.pow_lt_pow_right (a:=2) (n:=32) (by decide) hr32
      have:dig a i*2^r<=4294967295*4294967295:=YFt (by omega) (by omega)
      omega
     rw[s2,Yce hhi,Yce s1]
     by_cases hj1:j=i+w+1
     ·rw[if_pos hj1,if_pos hj1,if_neg (by omega)]
      simp [Yae,leL,le]
     ·rw[if_neg hj1,if_neg hj1]
      split <;> simp only[leL,le,and_self]
    ·obtain rfl:i=n:=by omega
     rw[YFT ha,<-hX]
     have h:k (natS false X) []:=by rw[hX];exact h false
     have hXN:X<4294967296^N:=by
      have h2r:2^r<4294967296:=Nat.pow_lt_pow_right (a:=2) (n:=32) (by decide) hr32
      rw[hX,YgG hw hr,hNn,Yx,YFi,YFg,YFc _ (4294967296^w)]
      exact Nat.mul_lt_mul_of_lt_of_le ha (YFe _ (YGa h2r)) (YF3 (Yo w) (by decide))
     refine Loop.keep [0] Nat (fun j=>[(0,.own 0 0 j 1)]) (fun _=>[(0,.own false 1 N (fun k=>[.int .u32 (dig X k)]))]) [] (fun j=>j<=N/\X<4294967296^j) (fun j=>j) ?_ ?_
     ·refine⟨N,⟨YFk _,hXN⟩,?_⟩
      dsimp only[go_sem,reduceIte]
      simp only[Ya]
      simp [leL,le]
     ·rintro j ⟨hj,haj⟩
      dsimp only[YE4,go_sem,reduceIte]
      simp only[Yd,YE5,YE3,reduceCtorEq,YE2]
      refine⟨fun hlt=>?_,fun hlt=>?_,fun hb=>?_,fun hb=>?_⟩
      ·rw[Ym (by omega) (by omega)];omega
      ·rw[Ym (by omega) (by omega)];omega
      ·rw[YFd,decide_eq_true_eq,decide_eq_true_eq]at hb
       obtain⟨h1,h2⟩:=hb
       rw[Ym (by omega) (by omega),YE4]at h2
       refine⟨by rw[Ym (by omega) (by omega)];omega,j-1,⟨by omega,?_⟩,by omega,?_⟩
       ·obtain⟨m,rfl⟩:∃m,j=m+1:=⟨j-1,by omega⟩
        exact Ya2 haj (by simp at h2;exact_mod_cast h2)
       ·rw[Ym (by omega) (by omega)]
        simp only[Ya] <;> simp [leL,le]
      ·have e:nl X=j:=by
        refine Yav haj ?_
        rw[YFZ,decide_eq_false_iff_not,decide_eq_false_iff_not]at hb
        rcases YFB j with h0|h0
        ·exact .inl h0
        ·refine .inr fun hh=>hb.elim (fun h=>h (by omega)) fun h=>h ?_
         rw[Ym h0 (by omega),YE4,hh];rfl
       subst e
       exact YaD h rfl rfl rfl fun j hj=>rfl
 ·exact h.1.elim
def v152:VF:=⟨7,[.tmp 2],(ZR [Zi 2 0] (.seq (ZR [Zm 3 0,u1 4 (.call 160) [.tm 3,.cn (.fn (.func 161) [] [])]] (ZC 4 (ZR [Zi 2 3] .ret) .skip)) (.seq (ZR [Zm 5 0,u1 6 (.call 160) [.tm 5,.cn (.fn (.func 162) [] [])]] (ZC 6 (ZR [Zi 2 2] .ret) .skip)) (ZR [Zi 2 0] .ret))))⟩
theorem YzZ:Yg YE8 Tryz.f152=some v152:=by kernel_rfl
def v161:VF:=⟨6,[.tmp 2],(ZR [u1 2 .mov [.cn (.bool false)]] (ZR [Zm 3 0,Zl 4 3,Zq 5 .gtr 4 512,Zm 2 5] .ret))⟩
theorem Yz8:Yg YE8 Tryz.f161=some v161:=by kernel_rfl
def v162:VF:=⟨6,[.tmp 2],(ZR [u1 2 .mov [.cn (.bool false)]] (ZR [Zm 3 0,Zc 4 163 3,u1 5 .not [.tm 4],Zm 2 5] .ret))⟩
theorem Yz9:Yg YE8 Tryz.f162=some v162:=by kernel_rfl
def v163:VF:=⟨20,[.tmp 2],(ZR [u1 2 .mov [.cn (.bool false)]] (ZR [Zm 3 0,Zl 4 3,Zq 5 .leq 4 512,Zm 6 5,Zg 7 6 true 0,u2 8 6 true .len [.tm 7],u2 9 6 true (.cmp .eql) [.tm 8,.cn (.int .i64 0)],Zg 10 6 true 9,Zg 11 10 false 0,Zg 12 10 false 0,u2 13 10 false .len [.tm 12],u2 14 10 false (.ari .sub) [.tm 13,.cn (.int .i64 1)],u2 15 10 false (.idxAddr 1) [.tm 11,.tm 14],Zh 16 10 false 1 15,u2 17 10 false (.cmp .neq) [.tm 16,.cn (.int .u32 0)],u2 18 6 true .or [.tm 10,.tm 17],u1 19 .and [.tm 6,.tm 18],Zm 2 19] .ret))⟩
theorem YAa:Yg YE8 Tryz.f163=some v163:=by kernel_rfl
def v157:VF:=⟨9,[.tmp 2,.tmp 3],(ZR [u1 2 .mov [.cn .nil],Zi 3 0] (.seq (ZR [Zm 4 0,Zl 5 4,Zq 6 .gtr 5 512] (ZC 6 (ZR [u1 2 .mov [.cn .nil],Zi 3 3] .ret) .skip)) (ZR [Zm 7 0,Zc 8 168 7,Zm 2 8,Zi 3 0] .ret)))⟩
theorem Yz4:Yg YE8 Tryz.f157=some v157:=by kernel_rfl
def v129:VF:=⟨17,[.tmp 4,.tmp 5],(ZR [Zi 4 0,Zi 5 0] (.seq (ZR [Zm 7 0,Zm 8 1,u1 9 (.buildSlice 1 2 [.nil] [(0,1),(1,1)]) [.tm 7,.tm 8],Zc 10 152 9,Zm 6 10] (ZR [Zm 11 6,Zq 12 .neq 11 0] (ZC 12 (ZR [Zm 13 6,Zi 4 0,Zm 5 13] .ret) .skip))) (ZR [Zm 14 0,Zm 15 1,Zd 16 153 14 15,Zm 4 16,Zi 5 0] .ret)))⟩
theorem YzH:Yg YE8 Tryz.f129=some v129:=by kernel_rfl
def v155:VF:=⟨37,[.tmp 4,.tmp 5],(ZR [u1 4 .mov [.cn .nil],Zi 5 0] (ZR [Zm 7 0,u1 8 (.buildSlice 1 1 [.nil] [(0,1)]) [.tm 7],Zc 9 152 8,Zm 6 9] (.seq (.block 0 (ZR [Zm 11 6,Zq 12 .neq 11 0,Zm 10 12] (ZC 10 (ZR [Zm 13 6,u1 4 .mov [.cn .nil],Zm 5 13] .ret) (ZR [Zm 15 1,Zq 16 .lss 15 (-20000),Zm 17 16,Zg 18 17 false 1,u2 19 17 false (.cmp .gtr) [.tm 18,.cn (.int .i64 20000)],u1 20 .or [.tm 17,.tm 19],Zm 14 20] (ZC 14 (ZR [u1 4 .mov [.cn .nil],Zi 5 2] .ret) (ZR [Zm 22 1,Zq 23 .lss 22 0,Zm 21 23] (ZC 21 (ZR [Zm 24 0,Zm 25 1,u1 26 .neg [.tm 25],Zd 27 165 24 26,Zc 28 157 27,Ze 29 0 28,Ze 30 1 28,Zm 4 29,Zm 5 30] .ret) .skip))))))) (ZR [Zm 31 0,Zm 32 1,Zd 33 166 31 32,Zc 34 157 33,Ze 35 0 34,Ze 36 1 34,Zm 4 35,Zm 5 36] .ret))))⟩
theorem Yz2:Yg YE8 Tryz.f155=some v155:=by kernel_rfl
def v149:VF:=⟨20,[.tmp 4,.tmp 5],(ZR [u1 4 .mov [.cn .nil],Zi 5 0] (.seq (ZR [Zm 7 0,Zm 8 1,u1 9 (.buildSlice 1 2 [.nil] [(0,1),(1,1)]) [.tm 7,.tm 8],Zc 10 152 9,Zm 6 10] (ZR [Zm 11 6,Zq 12 .neq 11 0] (ZC 12 (ZR [Zm 13 6,u1 4 .mov [.cn .nil],Zm 5 13] .ret) .skip))) (ZR [Zm 14 0,Zm 15 1,Zd 16 156 14 15,Zc 17 157 16,Ze 18 0 17,Ze 19 1 17,Zm 4 18,Zm 5 19] .ret)))⟩
theorem YzW:Yg YE8 Tryz.f149=some v149:=by kernel_rfl
def v150:VF:=⟨20,[.tmp 4,.tmp 5],(ZR [u1 4 .mov [.cn .nil],Zi 5 0] (.seq (ZR [Zm 7 0,Zm 8 1,u1 9 (.buildSlice 1 2 [.nil] [(0,1),(1,1)]) [.tm 7,.tm 8],Zc 10 152 9,Zm 6 10] (ZR [Zm 11 6,Zq 12 .neq 11 0] (ZC 12 (ZR [Zm 13 6,u1 4 .mov [.cn .nil],Zm 5 13] .ret) .skip))) (ZR [Zm 14 0,Zm 15 1,Zd 16 158 14 15,Zc 17 157 16,Ze 18 0 17,Ze 19 1 17,Zm 4 18,Zm 5 19] .ret)))⟩
theorem YzX:Yg YE8 Tryz.f150=some v150:=by kernel_rfl
def v160:VF:=⟨9,[.tmp 4],(ZR [u1 4 .mov [.cn (.bool false)]] (ZR [Zm 5 0,Zm 6 1,Zd 7 169 5 6,Zq 8 .geq 7 0,Zm 4 8] .ret))⟩
theorem Yz7:Yg YE8 Tryz.f160=some v160:=by kernel_rfl
def v169:VF:=⟨19,[.tmp 4],(ZR [Zi 4 0] (.seq (ZR [Zm 6 0,Zl 7 6,Zi 8 0] (.block 0 (.loop (ZR [Zr 9 .lss 8 7] (.seq (ZC 9 .skip (.exit 0)) (.seq (.block 1 (ZR [Zm 10 8,Zm 5 10] (ZR [Zm 11 1,Zm 12 0,Zm 13 5,Zx 14 1 12 13,Zf 15 1 14,u1 16 .callv [.tm 11,.tm 15]] (ZC 16 (ZR [Zm 17 5,Zm 4 17] .ret) .skip)))) (.region [Zp 18 8 1,Zm 8 18]))))))) (ZR [Zi 4 (-1)] .ret)))⟩
theorem YAf:Yg YE8 Tryz.f169=some v169:=by kernel_rfl
def v168:VF:=⟨8,[.tmp 2],(ZR [u1 2 .mov [.cn .nil]] (.seq (ZR [Zm 3 0,u1 4 (.isNil false) [.tm 3,.cn .nil]] (ZC 4 (ZR [u1 2 .mov [.cn .nil]] .ret) .skip)) (ZR [u1 5 (.buildSlice 1 0 [(.int .u32 0)] []) [],Zm 6 0,u1 7 (.append 1 4 [(.int .u32 0)]) [.tm 5,.tm 6],Zm 2 7] .ret)))⟩
theorem YAe:Yg YE8 Tryz.f168=some v168:=by kernel_rfl
def wvalC:Ctr:={ alias:=false,of:=fun l=>match l with
 | [.vs _ _ n sz get]=> .ex Nat fun a=> .pre (padP a n sz get/\n=nl a/\n<=512) (.fin (.bool true) [])
 |_=>noC}
def capF(a:Nat):Nat:=if nl a<=512 then a else 0
def capE(a:Nat):Int:=if nl a<=512 then 0 else 3
def resC:Ctr:={ alias:=false,of:=fun l=>match l with
 | [.vs _ z n sz get]=> .ex Nat fun a=> .pre (padP a n sz get/\n=nl a/\(z=true->n=0)) (.all Bool fun y=> .fin (.tup [natS y (capF a),.int .i64 (capE a)]) [])
 |_=>noC}
def natI(z:Bool)(a:Nat):SV:= .vs false z (nl a) 1 (fun k=>[.int .u32 (dig a k)])
def wchkC:Ctr:={ alias:=false,of:=fun l=>match l with
 | [.vs _ _ n sz get]=> .ex (List (Bool×Nat)) fun l=> .pre (lsP 1 (fun x=>[natI x.1 x.2]) n sz get l/\(∀x,x∈l->nl x.2<=512)/\n<=100) (.fin (.int .i64 0) [])
 |_=>noC}
def WD3:Env:={ ct:=fun _=>none,fn:=fun _=>none,meth:=fun _ _=>none}
theorem YAS:Yu YE8 WD3:=by
 refine⟨fun f c h=>?_,fun f vf h=>?_,(fun _ _ _ h=>by cases h),by kernel_rfl,(fun _ h=>by cases h)⟩
 ·cases h
 ·cases h
theorem Ysc:wvalC.ok YE8 163:=by
 refine Yb Tryz.func163 YAa YAS 200 wvalC fun args k h=>?_
 simp only[wvalC]at h
 split at h
 ·rename_i tt z n sz get
  obtain⟨a,⟨⟨rfl,hn,ha,hg⟩,hna,hn5⟩,h⟩:=h
  refine⟨[.vs tt z n 1 (fun k=>[.int .u32 (dig a k)])],by simpa [leL,le]using hg,?_⟩
  dsimp only[v163,go_sem,reduceIte]
  simp only[Yd,YE5,YE3,reduceCtorEq,YE2]
  refine⟨fun hb=>?_,fun c1 c2=>by rw[decide_eq_true c1,decide_eq_false c2];rfl,?_⟩
  ·rw[YFd,decide_eq_true_eq]at hb
   have h0:¬((n:Int)=0):=fun e=>by rw[decide_eq_true e]at hb;simp at hb
   rw[Ym (by omega) (by omega)]
   omega
  ·rw[decide_eq_true (by omega:(n:Int)<=512),YGm]
   have:(decide ((n:Int)=0) || !decide (((dig a (IntKind.i64.wrap ((n:Int)-1)).toNat:Nat):Int)=0))=true:=by
    rcases YFB n with h0|h0
    ·simp [h0]
    ·have ht:=YmZ (a:=a) (fun e=>by rw[e,nl_0]at hna;omega)
     rw[Ym h0 (by omega),YE4,hna,decide_eq_false (by omega:¬(((dig a (nl a-1):Nat):Int)=0))]
     simp
   rw[this]
   exact YO h
 ·exact h.1.elim
def WD4:Env:={ ct:=fun _=>none,fn:=fun n=>match n with|168=>some v168|_=>none,meth:=fun _ _=>none}
theorem YoW:WD4.ct 168=none:=rfl
theorem YoX:WD4.fn 168=some v168:=rfl
theorem YAT:Yu YE8 WD4:=by
 refine⟨fun f c h=>?_,fun f vf h=>?_,(fun _ _ _ h=>by cases h),by kernel_rfl,(fun _ h=>by cases h)⟩
 ·cases h
 ·simp only[WD4]at h
  split at h
  ·cases h;exact⟨Tryz.f168,Tryz.func168,YAe,Tryz.f168,Tryz.func168,by kernel_rfl,by kernel_rfl⟩
  ·cases h
theorem Yme{k:SV->List HO->Prop}{al:Bool}{hp:List HO}{e:Int}(h:k (.tup [natS true 0,.int .i64 e]) []):YK al k (.tup [.nil,.int .i64 e]) hp:=
 YE (show k _ []from h) (by simp [natS,nl_0,expo,view,Ybh,le,leL]) (fun _=>by simp [natS,Yt,Ys])
theorem YAn:resC.ok YE8 157:=by
 refine Yb Tryz.func157 Yz4 YAT 200 resC fun args k h=>?_
 simp only[resC]at h
 split at h
 ·rename_i tt z n sz get
  obtain⟨a,⟨⟨rfl,hn,ha,hg⟩,hna,hz0⟩,h⟩:=h
  refine⟨[.vs tt z n 1 (fun k=>[.int .u32 (dig a k)])],by simpa [leL,le]using hg,?_⟩
  dsimp only[v157,YoW,YoX,v168,go_sem,reduceIte]
  simp only[Yd,YE5,YE3,reduceCtorEq,YE2]
  refine⟨fun hc=>?_,fun hc=>⟨fun hz=>?_,fun hz=>⟨by decide,by unfold YN;omega,?_⟩⟩⟩
  ·have h:k (.tup [natS true (capF a),.int .i64 (capE a)]) []:=h true
   rw[capF,capE,if_neg (by omega),if_neg (by omega)]at h
   exact Yme h
  ·have h:k (.tup [natS true (capF a),.int .i64 (capE a)]) []:=h true
   have:a=0:=nl_eq0.1 (by have:=hz0 hz;omega)
   rw[this]at h
   exact Yme h
  ·have h:k (.tup [natS (false&&decide (n=0)) (capF a),.int .i64 (capE a)]) []:=h _
   rw[capF,capE,if_pos (by omega),if_pos (by omega)]at h
   refine YE h ?_ (fun _=>by simp [natS,Yt,Ys])
   have e:expo [HO.own (false&&decide (n=0)) 1 (0+n) fun k=>if k<0 then Yj 0 (YI 1 (YD (k*1) []))else [SV.int IntKind.u32 ((dig a (k-0):Nat):Int)]] (SV.tup [SV.own 0 0 (0+n) 1,SV.int IntKind.i64 0])= .tup [.vs true (false&&decide (n=0)) (0+n) 1 (fun k=>[.int .u32 (dig a k)]),.int .i64 0]:=by
    simp [expo,view,Ybh,viewN,getH,YkW]
   rw[e,YGh,hna]
   exact YB _ ⟨trivial,trivial,trivial⟩
 ·exact h.1.elim
def WD5:Env:={ ct:=fun n=>match n with|163=>some wvalC|_=>none,fn:=fun n=>match n with|160=>some v160|169=>some v169|161=>some v161|162=>some v162|_=>none,meth:=fun _ _=>none}
theorem Yjs:WD5.ct 163=some wvalC:=rfl
theorem Yjr:WD5.ct 160=none:=rfl
theorem Yju:WD5.fn 160=some v160:=rfl
theorem Yjt:WD5.ct 169=none:=rfl
theorem Yjv:WD5.fn 169=some v169:=rfl
theorem YoY:WD5.ct 161=none:=rfl
theorem Yo0:WD5.fn 161=some v161:=rfl
theorem YoZ:WD5.ct 162=none:=rfl
theorem Yo1:WD5.fn 162=some v162:=rfl
theorem YAU:Yu YE8 WD5:=by
 refine⟨fun f c h=>?_,fun f vf h=>?_,(fun _ _ _ h=>by cases h),by kernel_rfl,(fun _ h=>by cases h)⟩
 ·simp only[WD5]at h
  split at h
  ·cases h;exact⟨Ysc,Tryz.f163,Tryz.func163,by kernel_rfl,by kernel_rfl⟩
  ·cases h
 ·simp only[WD5]at h
  split at h
  ·cases h;exact⟨Tryz.f160,Tryz.func160,Yz7,Tryz.f160,Tryz.func160,by kernel_rfl,by kernel_rfl⟩
  ·cases h;exact⟨Tryz.f169,Tryz.func169,YAf,Tryz.f169,Tryz.func169,by kernel_rfl,by kernel_rfl⟩
  ·cases h;exact⟨Tryz.f161,Tryz.func161,Yz8,Tryz.f161,Tryz.func161,by kernel_rfl,by kernel_rfl⟩
  ·cases h;exact⟨Tryz.f162,Tryz.func162,Yz9,Tryz.f162,Tryz.func162,by kernel_rfl,by kernel_rfl⟩
  ·cases h
theorem YAl:wchkC.ok YE8 152:=by
 refine Yb Tryz.func152 YzZ YAU 400 wchkC fun args k h=>?_
 simp only[wchkC]at h
 split at h
 ·rename_i tt z n sz get
  obtain⟨l,⟨⟨rfl,rfl,hg⟩,hl,hn⟩,h⟩:=h
  refine⟨[.vs tt z l.length 1 (fun k=>[natI (l.getD k default).1 (l.getD k default).2])],by simpa [leL,le]using hg,?_⟩
  dsimp only[v152,Yjr,Yju,v160,Yjt,Yjv,v169,go_sem,reduceIte]
  simp only[Yd,YE5,YE3,reduceCtorEq,YE2]
  refine Loop.keep [0,0,2,1,0] Nat (fun i=>[(8,.int .i64 i)]) (fun _=>[]) [] (fun i=>i<=l.length) (fun i=>l.length-i) ?_ ?_
  ·refine⟨0,by omega,?_⟩
   dsimp only[go_sem,reduceIte]
   simp only[Ya]
   try simp
  ·rintro i hi
   dsimp only[YoY,Yo0,v161,Yjs,wvalC,natI,YE4,go_sem,reduceIte]
   simp only[Yd,YE5,YE3,reduceCtorEq,YE2]
   have h5:∀i,i<l.length->nl (l.getD i default).2<=512:=fun i hi=>hl _ (Yl hi)
   refine⟨fun hlt=>⟨⟨by omega,by omega⟩,fun hc=>?_,fun hc=>⟨i+1,by omega,by omega,?_⟩⟩,fun hge=>?_⟩
   ·have:=h5 i (by omega);omega
   ·rw[YE7 ((i:Int)+1) (by omega)]
    simp only[Ya]
    simp
   ·dsimp only[Yjr,Yju,v160,Yjt,Yjv,v169,go_sem,reduceIte]
    simp only[Yd,YE5,YE3,reduceCtorEq,YE2]
    refine⟨fun hh=>absurd hh (by decide),fun _=>?_⟩
    refine Loop.keep [0,0,2,1,0] Nat (fun i=>[(8,.int .i64 i)]) (fun _=>[]) [] (fun i=>i<=l.length) (fun i=>l.length-i) ?_ ?_
    ·refine⟨0,by omega,?_⟩
     dsimp only[go_sem,reduceIte]
     simp only[Ya]
     try simp
    ·rintro i hi
     dsimp only[YoZ,Yo1,v162,Yjs,wvalC,natI,YE4,go_sem,reduceIte]
     simp only[Yd,YE5,YE3,reduceCtorEq,YE2]
     have h5:∀i,i<l.length->nl (l.getD i default).2<=512:=fun i hi=>hl _ (Yl hi)
     refine⟨fun hlt=>?_,fun hge=>⟨fun hneg=>absurd hneg (by decide),fun _=>Yh h⟩⟩
     ·have:=h5 i (by omega)
      refine⟨⟨by omega,by omega⟩,_,⟨Ye (by omega),rfl,this⟩,i+1,by omega,by omega,?_⟩
      rw[YE7 ((i:Int)+1) (by omega)]
      simp only[Ya]
      try simp
 ·exact h.1.elim
def okW(a n sz:Nat)(get:Nat->List SV):Prop:=padP a n sz get/\n=nl a/\n<=512
def wCmpC:Ctr:={ alias:=false,of:=fun l=>match l with
 | [.vs _ z n sz get,.vs _ z' m sz' get']=> .ex Nat fun a=> .ex Nat fun b=> .pre (okW a n sz get/\okW b m sz' get') (.fin (.tup [.int .i64 (ordN a b),.int .i64 0]) [])
 |_=>noC}
def wAddC:Ctr:={ alias:=false,of:=fun l=>match l with
 | [.vs _ z n sz get,.vs _ z' m sz' get']=> .ex Nat fun a=> .ex Nat fun b=> .pre (okW a n sz get/\okW b m sz' get') (.all Bool fun y=> .fin (.tup [natS y (capF (a+b)),.int .i64 (capE (a+b))]) [])
 |_=>noC}
def wMulC:Ctr:={ alias:=false,of:=fun l=>match l with
 | [.vs _ z n sz get,.vs _ z' m sz' get']=> .ex Nat fun a=> .ex Nat fun b=> .pre (okW a n sz get/\okW b m sz' get') (.all Bool fun y=> .fin (.tup [natS y (capF (a*b)),.int .i64 (capE (a*b))]) [])
 |_=>noC}
def shF(a:Nat)(d:Int):Nat:=if d<0 then a/2^(-d).toNat else a*2^d.toNat
def wShiftC:Ctr:={ alias:=false,of:=fun l=>match l with
 | [.vs _ z n sz get,.int .i64 d]=> .ex Nat fun a=> .pre (okW a n sz get/\ -20000<=d/\d<=20000) (.all Bool fun y=> .fin (.tup [natS y (capF (shF a d)),.int .i64 (capE (shF a d))]) [])
 |_=>noC}
def WD6:Env:={ ct:=fun n=>match n with|152=>some wchkC|157=>some resC|153=>some wcmpC|156=>some plusC|158=>some wtimC|166=>some wupC|165=>some wdownC|_=>none,fn:=fun _=>none,meth:=fun _ _=>none}
theorem YdV:WD6.ct 152=some wchkC:=rfl
theorem YfL:WD6.ct 157=some resC:=rfl
theorem Yo2:WD6.ct 153=some wcmpC:=rfl
theorem Yo3:WD6.ct 156=some plusC:=rfl
theorem Yo4:WD6.ct 158=some wtimC:=rfl
theorem Yo6:WD6.ct 166=some wupC:=rfl
theorem Yo5:WD6.ct 165=some wdownC:=rfl
theorem Ymc:Yu YE8 WD6:=by
 refine⟨fun f c h=>?_,fun f vf h=>?_,(fun _ _ _ h=>by cases h),by kernel_rfl,(fun _ h=>by cases h)⟩
 ·simp only[WD6]at h
  split at h
  ·cases h;exact⟨YAl,Tryz.f152,Tryz.func152,by kernel_rfl,by kernel_rfl⟩
  ·cases h;exact⟨YAn,Tryz.f157,Tryz.func157,by kernel_rfl,by kernel_rfl⟩
  ·cases h;exact⟨YAm,Tryz.f153,Tryz.func153,by kernel_rfl,by kernel_rfl⟩
  ·cases h;exact⟨YuE,Tryz.f156,Tryz.func156,by kernel_rfl,by kernel_rfl⟩
  ·cases h;exact⟨Ysb,Tryz.f158,Tryz.func158,by kernel_rfl,by kernel_rfl⟩
  ·cases h;exact⟨YE0,Tryz.f166,Tryz.func166,by kernel_rfl,by kernel_rfl⟩
  ·cases h;exact⟨YuD,Tryz.f165,Tryz.func165,by kernel_rfl,by kernel_rfl⟩
  ·cases h
 ·cases h
theorem YfO{k:SV->List HO->Prop}{al:Bool}{hp:List HO}{κ κ':IntKind}{x y:Int}(h:k (.tup [.int κ x,.int κ' y]) []):YK al k (.tup [.int κ x,.int κ' y]) hp:=
 YE (show k _ []from h) (YB (.tup [.int κ x,.int κ' y]) ⟨trivial,trivial,trivial⟩) (fun _=>by simp [Yt,Ys])
theorem YlE{t1 z1 t2 z2:Bool}{a b:Nat}{hp:List HO}{r:List SV->List SV}:lsP 1 (fun x:Bool×Nat=>[natI x.1 x.2]) 2 1 (fun k=>Ybh false hp r (YI 1 (YD (k*1) [SV.vs t1 z1 (nl a) 1 fun k=>[SV.int IntKind.u32 (dig a k)],SV.vs t2 z2 (nl b) 1 fun k=>[SV.int IntKind.u32 (dig b k)]]))) [(z1,a),(z2,b)]:=
 ⟨rfl,rfl,fun k hk=>match k,hk with
   |0,_=>by refine⟨?_,trivial⟩;exact⟨fun h=>(by cases h),rfl,rfl,rfl,fun j _=>Yc _⟩
   |1,_=>by refine⟨?_,trivial⟩;exact⟨fun h=>(by cases h),rfl,rfl,rfl,fun j _=>Yc _⟩⟩
theorem Yyd{t1 z1:Bool}{a:Nat}{hp:List HO}{r:List SV->List SV}:lsP 1 (fun x:Bool×Nat=>[natI x.1 x.2]) 1 1 (fun k=>Ybh false hp r (YI 1 (YD (k*1) [SV.vs t1 z1 (nl a) 1 fun k=>[SV.int IntKind.u32 (dig a k)]]))) [(z1,a)]:=
 ⟨rfl,rfl,fun k hk=>match k,hk with
   |0,_=>by refine⟨?_,trivial⟩;exact⟨fun h=>(by cases h),rfl,rfl,rfl,fun j _=>Yc _⟩⟩
theorem YlD{z1 z2:Bool}{a b:Nat}(h1:nl a<=512)(h2:nl b<=512):∀x:Bool×Nat,x∈ [(z1,a),(z2,b)]->nl x.2<=512:=by simp [h1,h2]
theorem Yyc{z1:Bool}{a:Nat}(h1:nl a<=512):∀x:Bool×Nat,x∈ [(z1,a)]->nl x.2<=512:=by simp [h1]
theorem Ymg{k:SV->List HO->Prop}{al:Bool}{hp:List HO}{z:Bool}{a:Nat}{e:Int}(h:k (.tup [natS z a,.int .i64 e]) []):YK al k (.tup [natS z a,.int .i64 e]) hp:=
 YE (show k _ []from h) (YB _ ⟨trivial,trivial,trivial⟩) (fun _=>by simp [natS,Yt,Ys])
theorem YAj:wCmpC.ok YE8 129:=by
 refine Yb Tryz.func129 YzH Ymc 200 wCmpC fun args k h=>?_
 simp only[wCmpC]at h
 split at h
 ·rename_i t1 z1 n sz get t2 z2 m sz' get'
  obtain⟨a,b,⟨⟨⟨rfl,hn,ha,hg⟩,hna,hn5⟩,⟨rfl,hm,hb,hg'⟩,hmb,hm5⟩,h⟩:=h
  refine⟨[.vs t1 z1 n 1 (fun k=>[.int .u32 (dig a k)]),.vs t2 z2 m 1 (fun k=>[.int .u32 (dig b k)])],⟨by simpa [le]using hg,by simpa [le]using hg',trivial⟩,?_⟩
  dsimp only[v129,YdV,Yo2,wchkC,wcmpC,go_sem,reduceIte]
  simp only[Yd,YE5,YE3,reduceCtorEq,YE2]
  subst hna hmb
  refine⟨by decide,_,⟨YlE,YlD hn5 hm5⟩,fun hh=>absurd trivial hh,a,b,⟨Ye hn,Ye hm,rfl,rfl⟩,YfO h⟩
 ·exact h.1.elim
theorem Yq1{a b n:Nat}(h1:nl a<=n)(h2:nl b<=n):nl (a+b)<=n+1:=by
 have h1:=nl_le.1 h1
 have h2:=nl_le.1 h2
 rw[nl_le,Yx]
 generalize(4294967296:Nat)^n=P at*
 omega
theorem Yq2{a b n m:Nat}(h1:nl a<=n)(h2:nl b<=m):nl (a*b)<=n+m:=by
 have h1:=nl_le.1 h1
 have h2:=nl_le.1 h2
 rw[nl_le,YFi]
 exact Nat.mul_lt_mul_of_lt_of_le h1 (YGa h2) (Yo _)
theorem Yq3{a e n m k:Nat}(h1:nl a<=n)(he:e<=32*m)(hk:n+m<=k):nl (a*2^e)<=k:=by
 have h1:=nl_le.1 h1
 refine nl_le.2 ?_
 have h2:(2:Nat)^e<=4294967296^m:=by rw[Yb1];exact YFq (by decide) he
 refine YFS (Nat.mul_lt_mul_of_lt_of_le h1 h2 (Yo _)) ?_
 rw[<-YFi]
 exact YFq (by decide) hk
theorem YAi:wAddC.ok YE8 149:=by
 refine Yb Tryz.func149 YzW Ymc 200 wAddC fun args k h=>?_
 simp only[wAddC]at h
 split at h
 ·rename_i t1 z1 n sz get t2 z2 m sz' get'
  obtain⟨a,b,⟨⟨⟨rfl,hn,ha,hg⟩,hna,hn5⟩,⟨rfl,hm,hb,hg'⟩,hmb,hm5⟩,h⟩:=h
  refine⟨[.vs t1 z1 n 1 (fun k=>[.int .u32 (dig a k)]),.vs t2 z2 m 1 (fun k=>[.int .u32 (dig b k)])],⟨by simpa [le]using hg,by simpa [le]using hg',trivial⟩,?_⟩
  dsimp only[v149,YdV,Yo3,YfL,wchkC,plusC,resC,natS,go_sem,reduceIte]
  simp only[Yd,YE5,YE3,reduceCtorEq,YE2]
  subst hna hmb
  have hs:nl (a+b)<=513:=Yq1 hn5 hm5
  refine⟨by decide,_,⟨YlE,YlD hn5 hm5⟩,fun hh=>absurd trivial hh,a,b,⟨Ye hn,Ye hm,by omega,by omega⟩,a+b,⟨Ye (by omega),rfl⟩,fun y=>?_⟩
  refine⟨by decide,by decide,?_⟩
  exact Ymg (show k (.tup [natS y (capF (a+b)),.int .i64 (capE (a+b))]) []from h y)
 ·exact h.1.elim
theorem YAk:wMulC.ok YE8 150:=by
 refine Yb Tryz.func150 YzX Ymc 200 wMulC fun args k h=>?_
 simp only[wMulC]at h
 split at h
 ·rename_i t1 z1 n sz get t2 z2 m sz' get'
  obtain⟨a,b,⟨⟨⟨rfl,hn,ha,hg⟩,hna,hn5⟩,⟨rfl,hm,hb,hg'⟩,hmb,hm5⟩,h⟩:=h
  refine⟨[.vs t1 z1 n 1 (fun k=>[.int .u32 (dig a k)]),.vs t2 z2 m 1 (fun k=>[.int .u32 (dig b k)])],⟨by simpa [le]using hg,by simpa [le]using hg',trivial⟩,?_⟩
  dsimp only[v150,YdV,Yo4,YfL,wchkC,wtimC,resC,natS,go_sem,reduceIte]
  simp only[Yd,YE5,YE3,reduceCtorEq,YE2]
  subst hna hmb
  have hs:nl (a*b)<=1024:=Yq2 (n:=512) (m:=512) hn5 hm5
  refine⟨by decide,_,⟨YlE,YlD hn5 hm5⟩,fun hh=>absurd trivial hh,a,b,⟨Ye hn,Ye hm,by omega⟩,a*b,⟨Ye (by omega),rfl⟩,fun y=>?_⟩
  refine⟨by decide,by decide,?_⟩
  exact Ymg (show k (.tup [natS y (capF (a*b)),.int .i64 (capE (a*b))]) []from h y)
 ·exact h.1.elim
theorem YkL:wShiftC.ok YE8 155:=by
 refine Yb Tryz.func155 Yz2 Ymc 200 wShiftC fun args k h=>?_
 simp only[wShiftC]at h
 split at h
 ·rename_i t1 z1 n sz get d
  obtain⟨a,⟨⟨⟨rfl,hn,ha,hg⟩,hna,hn5⟩,hd0,hd1⟩,h⟩:=h
  refine⟨[.vs t1 z1 n 1 (fun k=>[.int .u32 (dig a k)]),.int .i64 d],⟨by simpa [le]using hg,⟨rfl,rfl⟩,trivial⟩,?_⟩
  dsimp only[v155,YdV,Yo6,Yo5,YfL,wchkC,wupC,wdownC,resC,natS,go_sem,reduceIte]
  simp only[Yd,YE5,YE3,reduceCtorEq,YE2]
  subst hna
  refine⟨by decide,_,⟨Yyd,Yyc hn5⟩,fun hh=>absurd trivial hh,fun hb=>?_,fun _=>⟨fun hneg=>?_,fun hpos=>?_⟩⟩
  ·rw[YF5,decide_eq_true_eq,decide_eq_true_eq]at hb
   omega
  ·obtain⟨e,he⟩:∃e:Nat,e=(-d).toNat:=⟨_,rfl⟩
   have e1:IntKind.i64.wrap (0-d)=(e:Int):=by rw[he,YE7 _ (by omega)];omega
   rw[e1]
   have hdl:nl (a/2^e)<=512:=YFa (Ybu (YGd _ _)) hn5
   refine⟨a,e,⟨Ye hn,by omega,rfl,by omega⟩,fun z=>⟨a/2^e,⟨Ye (by omega),rfl,fun hz=>?_⟩,fun y=>⟨by decide,by decide,?_⟩⟩⟩
   ·rw[YFd,decide_eq_true_eq]at hz
    rw[hz.2,nl_0]
   ·have h:k (.tup [natS y (capF (shF a d)),.int .i64 (capE (shF a d))]) []:=h y
    rw[shF,if_pos hneg,<-he]at h
    exact Ymg h
  ·obtain⟨e,he⟩:∃e:Nat,e=d.toNat:=⟨_,rfl⟩
   have hde:d=(e:Int):=by omega
   have hdl:nl (a*2^e)<=2000:=Yq3 (n:=512) (m:=626) hn5 (by omega) (by decide)
   refine⟨a,e,⟨Ye hn,rfl,by omega,hde,by omega⟩,fun z=>⟨a*2^e,⟨Ye (by omega),rfl,fun hz=>?_⟩,fun y=>⟨by decide,by decide,?_⟩⟩⟩
   ·rw[YFd,decide_eq_true_eq]at hz
    rw[hz.2,nl_0]
   ·have h:k (.tup [natS y (capF (shF a d)),.int .i64 (capE (shF a d))]) []:=h y
    rw[shF,if_neg hpos,<-he]at h
    exact Ymg h
 ·exact h.1.elim
def v143:VF:=⟨36,[.tmp 4],(ZR [u1 4 .mov [.cn .nil]] (ZR [u1 5 .mov [.cn .nil]] (ZR [u1 6 .mov [.cn (.int .u64 0)]] (.seq (ZR [Zi 7 0] (.block 0 (.loop (.seq (ZR [Zm 9 7,Zm 10 0,Zl 11 10,Zr 12 .lss 9 11] (ZC 12 .skip (.exit 0))) (.seq (.block 1 (ZR [Zm 15 0,Zm 16 7,Zd 17 117 15 16,u1 18 (.ari .add) [.cn (.int .u64 4294967296),.tm 17],Zm 19 1,Zm 20 7,Zd 21 117 19 20,Zo 22 .sub 18 21,Zm 23 6,Zo 24 .sub 22 23,Zm 8 24] (ZR [Zm 25 5,Zm 26 8,u1 27 .rem [.tm 26,.cn (.int .u64 4294967296)],u1 28 (.conv .u32) [.tm 27],u1 29 (.buildSlice 1 1 [(.int .u32 0)] [(0,1)]) [.tm 28],u1 30 (.append 1 4 [(.int .u32 0)]) [.tm 25,.tm 29],Zm 5 30] (.region [Zm 31 8,u1 32 .quo [.tm 31,.cn (.int .u64 4294967296)],u1 33 (.ari .sub) [.cn (.int .u64 1),.tm 32],Zm 6 33])))) (.region [Zm 13 7,Zp 14 13 1,Zm 7 14])))))) (ZR [Zm 34 5,Zc 35 113 34,Zm 4 35] .ret)))))⟩
theorem YzU:Yg YE8 Tryz.f143=some v143:=by kernel_rfl
def v90:VF:=⟨59,[.tmp 4],(ZR [u1 4 .mov [.cn .nil]] (ZR [Zm 10 0,Zl 11 10,Zm 12 1,Zl 13 12,Zo 14 .add 11 13,Zp 15 14 1,u1 16 (.make 1 4 [(.int .u32 0)]) [.tm 15,.tm 15],Zm 5 16] (.seq (ZR [Zi 6 0] (.block 0 (.loop (.seq (ZR [Zm 17 6,Zm 18 0,Zl 19 18,Zr 20 .lss 17 19] (ZC 20 .skip (.exit 0))) (.seq (.block 1 (ZR [u1 7 .mov [.cn (.int .u64 0)]] (ZR [Zi 8 0] (.block 2 (.loop (.seq (ZR [Zm 23 8,Zm 24 1,Zl 25 24,Zp 26 25 1,Zr 27 .lss 23 26] (ZC 27 .skip (.exit 2))) (.seq (.block 3 (.seq (.draw [] [Zu 30 5,Zu 31 6,Zu 32 8,w1 33 (.ari .add) [.tm 31,.tm 32],ZX 34 1 30 33,Zv 35 1 34,w1 36 (.conv .u64) [.tm 35],Zu 37 0,Zu 38 6,Zu 40 1,Zu 41 8,Zu 45 7,Zz 39 117 37 38,Zz 42 117 40 41,w1 43 (.ari .mul) [.tm 39,.tm 42],w1 44 (.ari .add) [.tm 36,.tm 43],w1 46 (.ari .add) [.tm 44,.tm 45],Zu 9 46]) (ZR [Zm 47 5,Zm 48 6,Zm 49 8,Zo 50 .add 48 49,Zm 51 9,u1 52 .rem [.tm 51,.cn (.int .u64 4294967296)],u1 53 (.conv .u32) [.tm 52],Zx 54 1 47 50,Zs 1 54 53] (.region [Zm 55 9,u1 56 .quo [.tm 55,.cn (.int .u64 4294967296)],Zm 7 56])))) (.region [Zm 28 8,Zp 29 28 1,Zm 8 29])))))))) (.region [Zm 21 6,Zp 22 21 1,Zm 6 22])))))) (ZR [Zm 57 5,Zc 58 113 57,Zm 4 58] .ret))))⟩
theorem YES:Yg YE8 Tryz.f90=some v90:=by kernel_rfl
def minusC:Ctr:={ alias:=false,of:=fun l=>match l with
 | [.vs _ _ n sz get,.vs _ _ m sz' get']=> .ex Nat fun a=> .ex Nat fun b=> .pre (padP a n sz get/\padP b m sz' get'/\b<=a) (.fin (natS false (a-b)) [])
 |_=>noC}
def timesC:Ctr:={ alias:=false,of:=fun l=>match l with
 | [.vs _ _ n sz get,.vs _ _ m sz' get']=> .ex Nat fun a=> .ex Nat fun b=> .pre (padP a n sz get/\padP b m sz' get'/\n+m<=99999) (.fin (natS false (a*b)) [])
 |_=>noC}
theorem YmX:minusC.ok YE8 143:=by
 refine Yb Tryz.func143 YzU YhF 200 minusC fun args k h=>?_
 simp only[minusC]at h
 split at h
 ·rename_i t1 z1 n sz get t2 z2 m sz' get'
  obtain⟨a,b,⟨⟨rfl,hn,ha,hg⟩,⟨rfl,hm,hb,hg'⟩,hba⟩,h⟩:=h
  refine⟨[.vs t1 z1 n 1 (fun k=>[.int .u32 (dig a k)]),.vs t2 z2 m 1 (fun k=>[.int .u32 (dig b k)])],⟨by simpa [le]using hg,by simpa [le]using hg',trivial⟩,?_⟩
  (try dsimp only[v143,go_sem,reduceIte])
  (try simp only[Yd,YE5,YE3,reduceCtorEq,YE2])
  refine Loop.keep [0,0,3,0,0] Nat (fun i=>[(5,.own 0 0 i 1),(6,.int .u64 (cy b (a-b) i)),(7,.int .i64 i)]) (fun i=>[(0,.own (decide (i=0)) 1 i (fun k=>[.int .u32 (dig (a-b) k)]))]) [.gone] (fun i=>i<=n) (fun i=>n-i) ?_ ?_
  ·refine⟨0,by omega,?_⟩
   (try dsimp only[go_sem,reduceIte])
   simp only[Ya]
   simp [cy_0]
  ·rintro i hi
   (try dsimp only[Yc7,Yc6,limbC,trimC,natS,YE4,go_sem,reduceIte])
   (try simp only[Yd,YE5,YE3,reduceCtorEq,YE2])
   refine⟨fun hlt=>⟨a,⟨Yw hn ha,by omega⟩,b,⟨Yw hm hb,by omega⟩,by decide,by decide,?_⟩,fun hge=>⟨a-b,?_,?_⟩⟩
   ·have hd1:=YJ a i
    have hd2:=YJ b i
    have hd3:=YJ (a-b) i
    have hc:=Yh1 b (a-b) i
    have hc2:=Yh1 b (a-b) (i+1)
    obtain⟨e1,e2,e3,e4⟩:=Yza hba i
    have f1:IntKind.u64.wrap (4294967296+(dig a i:Int))=((4294967296+dig a i:Nat):Int):=by rw[YFN _ (by omega)];simp
    rw[f1,Yzh (by omega) (by omega),Yzh (by omega) (by omega)]
    (try dsimp only[go_sem,reduceIte])
    (try simp only[Yd,YE5,YE3,reduceCtorEq,YE2])
    refine⟨⟨by unfold YN;omega,fun j hj=>?_⟩,by decide,i+1,by omega,by omega,?_⟩
    ·match j,hj with
     |0,_=>exact⟨rfl,trivial,trivial⟩
    ·have f2:∀q:Nat,q<=1->IntKind.u64.wrap (1-(q:Int))=((1-q:Nat):Int):=fun q hq=>by rw[YFN _ (by omega)];omega
     rw[Ynx,Yuz (by omega),f2 _ (by omega),e1,e2,YE7 ((i:Int)+1) (by omega)]
     simp only[Ya]
     refine⟨by simp,by simp,fun j hj=>?_⟩
     rcases YFu j i with h'|h'
     ·rw[if_pos h'];simp only[leL,le,and_self]
     ·obtain rfl:j=i:=by omega
      rw[if_neg (Nat.lt_irrefl _),Nat.sub_self]
      simp only[Yj,YI,YD,leL,Nat.zero_mul,Ydy,refs,cond,le,and_self]
   ·obtain rfl:i=n:=by omega
    exact Yw hn (YFG (Nat.sub_le _ _) ha)
   ·exact Yai (t:=true) h
 ·exact h.1.elim
theorem Ynw:timesC.ok YE8 90:=by
 refine Yb Tryz.func90 YES YhF 300 timesC fun args k h=>?_
 simp only[timesC]at h
 split at h
 ·rename_i t1 z1 n sz get t2 z2 m sz' get'
  obtain⟨a,b,⟨⟨rfl,hn,ha,hg⟩,⟨rfl,hm,hb,hg'⟩,hnm⟩,h⟩:=h
  refine⟨[.vs t1 z1 n 1 (fun k=>[.int .u32 (dig a k)]),.vs t2 z2 m 1 (fun k=>[.int .u32 (dig b k)])],⟨by simpa [le]using hg,by simpa [le]using hg',trivial⟩,?_⟩
  (try dsimp only[v90,go_sem,reduceIte])
  (try simp only[Yd,YE5,YE3,reduceCtorEq,YE2])
  have en:IntKind.i64.wrap (IntKind.i64.wrap ((n:Int)+(m:Int))+1)=((n+m+1:Nat):Int):=by
   rw[YE7 ((n:Int)+m) (by omega),YE7 _ (by omega)];omega
  rw[en]
  simp only[YE4]
  refine⟨⟨by decide,by omega,by unfold YN;omega⟩,?_⟩
  refine Loop.keep [0,0,3,0] Nat (fun i=>[(6,.int .i64 i)]) (fun i=>[(0,.own false 1 (n+m+1) (fun k=>[.int .u32 (dig ((a%4294967296^i)*b) k)]))]) [] (fun i=>i<=n) (fun i=>n-i) ?_ ?_
  ·refine⟨0,by omega,?_⟩
   (try dsimp only[go_sem,reduceIte])
   simp only[Ya]
   simp [Nat.mod_one,YbE,leL,le]
  ·rintro i hi
   (try dsimp only[Yc7,Yc6,limbC,trimC,natS,YE4,go_sem,reduceIte])
   (try simp only[Yd,YE5,YE3,reduceCtorEq,YE2])
   refine⟨fun hlt=>?_,fun hge=>?_⟩
   ·refine Loop.keep [0,0,3,0,0,0] (Nat×Nat×Nat) (fun x=>[(7,.int .u64 x.2.2),(8,.int .i64 x.1)]) (fun x=>[(0,.own false 1 (n+m+1) (fun k=>[.int .u32 (dig x.2.1 k)]))]) [] (fun x=>x.1<=m+1/\x.2.2<4294967296/\x.2.1<4294967296^(n+m+1)/\x.2.1+x.2.2*4294967296^(i+x.1)=(a%4294967296^i)*b+dig a i*(b%4294967296^x.1)*4294967296^i) (fun x=>m+1-x.1) ?_ ?_
    ·refine⟨(0,(a%4294967296^i)*b,0),⟨by simp only;omega,by simp only;omega,?_,by simp [Nat.mod_one]⟩,?_⟩
     ·exact YqV hi ha hb
     ·(try dsimp only[go_sem,reduceIte])
      simp only[Ya]
      simp [leL,le]
    ·rintro⟨t,V,c⟩ ⟨ht,hc,hV,he⟩
     dsimp only at ht hc hV he
     (try dsimp only[Yc7,Yc6,limbC,trimC,natS,YE4,go_sem,reduceIte])
     (try simp only[Yd,YE5,YE3,reduceCtorEq,YE2])
     rw[YE7 ((m:Int)+1) (by omega)]
     refine⟨fun hlt2=>?_,fun hge2=>?_⟩
     ·have w1:IntKind.i64.wrap ((i:Int)+(t:Int))=((i+t:Nat):Int):=by rw[YE7 _ (by omega)];simp
      rw[w1]
      simp only[YE4]
      have hd0:=YJ V (i+t)
      obtain⟨hb1,hb2⟩:=Yke hd0 (YJ a i) (YJ b t) hc
      have hs:=YiD he
      refine⟨⟨by omega,by omega⟩,by omega,a,⟨Yw hn ha,by omega⟩,b,⟨Yw hm hb,by omega⟩,by decide,⟨by omega,by omega⟩,by omega,by decide,
       (t+1,setD V (i+t) ((dig V (i+t)+dig a i*dig b t+c)%4294967296),(dig V (i+t)+dig a i*dig b t+c)/4294967296),⟨by simp only;omega,hb2,YiR hV (YFC _ (by decide)) (by omega),hs⟩,by simp only;omega,?_⟩
      rw[Ybg (by omega:dig V (i+t)<18446744073709551616),YkJ (by omega),Yep (by omega),Yep (by omega),Ynx,Yuz (by omega),YE7 ((t:Int)+1) (by omega)]
      simp only[Ya]
      refine⟨by simp,fun j hj=>?_⟩
      rw[Yce (YFC _ (by decide))]
      split <;> simp only[leL,le,and_self]
     ·obtain rfl:t=m+1:=by omega
      have hbm:b%4294967296^(m+1)=b:=YFT (YFS hb (YFq (by decide) (by omega)))
      rw[hbm]at he
      have hrow:(a%4294967296^(i+1))*b=(a%4294967296^i)*b+dig a i*b*4294967296^i:=by
       rw[Yar,YFw,YFg,YFc (4294967296^i)]
      rw[<-hrow]at he
      have hlt3:(a%4294967296^(i+1))*b<4294967296^(i+(m+1)):=by
       have h1:=YFC a (Yo (i+1))
       have h2:(a%4294967296^(i+1))*b<=(a%4294967296^(i+1))*4294967296^m:=YFe _ (YGa hb)
       have h3:(a%4294967296^(i+1))*4294967296^m<4294967296^(i+1)*4294967296^m:=Nat.mul_lt_mul_of_pos_right h1 (Yo m)
       rw[<-YFi,show i+1+m=i+(m+1)by omega]at h3
       omega
      obtain rfl:c=0:=by
       rcases YFB c with h0|h0
       ·exact h0
       ·have:1*4294967296^(i+(m+1))<=c*4294967296^(i+(m+1)):=YE9 _ h0
        omega
      rw[Nat.zero_mul,YF8]at he
      refine⟨i+1,by omega,by omega,?_⟩
      rw[he,YE7 ((i:Int)+1) (by omega)]
      simp only[Ya]
      simp [leL,le]
   ·obtain rfl:i=n:=by omega
    refine⟨a*b,?_,Yai (t:=true) h⟩
    rw[YFT ha]
    exact Yw (by omega) (by have:=YqV (YFk i) ha hb;rwa [YFT ha]at this)
 ·exact h.1.elim
def v140:VF:=⟨25,[.tmp 2],(ZR [Zi 2 0] (.seq (ZR [Zm 5 0,Zl 6 5,Zq 7 .eql 6 0] (ZC 7 (ZR [Zi 2 0] .ret) .skip)) (.seq (.draw [] [Zu 8 0,w1 9 .len [.tm 8],w1 10 (.ari .sub) [.tm 9,.cn (.int .i64 1)],w1 11 (.ari .mul) [.cn (.int .i64 32),.tm 10],Zu 12 0,Zu 13 0,w1 14 .len [.tm 13],w1 15 (.ari .sub) [.tm 14,.cn (.int .i64 1)],ZX 16 1 12 15,Zv 17 1 16,Zu 3 11,Zu 4 17]) (.seq (.block 0 (.loop (.seq (ZR [Zm 18 4,u1 19 (.cmp .gtr) [.tm 18,.cn (.int .u32 0)]] (ZC 19 .skip (.exit 0))) (.block 1 (ZR [Zm 20 3,Zp 21 20 1,Zm 3 21] (.region [Zm 22 4,u1 23 .quo [.tm 22,.cn (.int .u32 2)],Zm 4 23])))))) (ZR [Zm 24 3,Zm 2 24] .ret)))))⟩
theorem YzR:Yg YE8 Tryz.f140=some v140:=by kernel_rfl
def v142:VF:=⟨14,[.tmp 4],(ZR [u1 4 .mov [.cn (.int .u32 0)]] (ZR [Zm 5 0,Zm 6 1,u1 7 .quo [.tm 6,.cn (.int .i64 32)],Zx 8 1 5 7,Zf 9 1 8,Zm 10 1,u1 11 .rem [.tm 10,.cn (.int .i64 32)],u1 12 .shr [.tm 9,.tm 11],u1 13 (.bit .and) [.tm 12,.cn (.int .u32 1)],Zm 4 13] .ret))⟩
theorem YzT:Yg YE8 Tryz.f142=some v142:=by kernel_rfl
def v141:VF:=⟨39,[.tmp 4],(ZR [u1 4 .mov [.cn .nil]] (ZR [Zm 7 0,Zl 8 7,Zp 9 8 1,u1 10 (.make 1 4 [(.int .u32 0)]) [.tm 9,.tm 9],Zm 5 10] (.seq (ZR [Zi 6 0] (.block 0 (.loop (.seq (ZR [Zm 11 6,Zm 12 0,Zl 13 12,Zr 14 .lss 11 13] (ZC 14 .skip (.exit 0))) (.seq (.block 1 (ZR [Zm 17 5,Zm 18 6,Zm 19 0,Zm 20 6,Zx 21 1 19 20,Zf 22 1 21,u1 23 .shl [.tm 22,.cn (.int .u64 1)],Zm 24 1,u1 25 (.bit .or) [.tm 23,.tm 24],Zx 26 1 17 18,Zs 1 26 25] (.region [Zm 27 0,Zm 28 6,Zx 29 1 27 28,Zf 30 1 29,u1 31 .shr [.tm 30,.cn (.int .u64 31)],Zm 1 31]))) (.region [Zm 15 6,Zp 16 15 1,Zm 6 16])))))) (ZR [Zm 32 5,Zm 33 0,Zl 34 33,Zm 35 1,Zx 36 1 32 34,Zs 1 36 35] (ZR [Zm 37 5,Zc 38 113 37,Zm 4 38] .ret)))))⟩
theorem YzS:Yg YE8 Tryz.f141=some v141:=by kernel_rfl
def v116:VF:=⟨47,[.tmp 4,.tmp 5],(ZR [u1 4 .mov [.cn .nil],u1 5 .mov [.cn .nil]] (ZR [Zm 9 0,Zl 10 9,u1 11 (.make 1 4 [(.int .u32 0)]) [.tm 10,.tm 10],Zm 6 11] (ZR [u1 7 .mov [.cn .nil]] (.seq (ZR [Zm 12 0,Zc 13 140 12,u1 14 (.ari .sub) [.tm 13,.cn (.int .i64 1)],Zm 8 14] (.block 0 (.loop (.seq (ZR [Zm 15 8,Zq 16 .geq 15 0] (ZC 16 .skip (.exit 0))) (.seq (.block 1 (ZR [Zm 19 7,Zm 20 0,Zm 21 8,Zd 22 142 20 21,Zd 23 141 19 22,Zm 7 23] (ZR [Zm 24 7,Zm 25 1,Zd 26 110 24 25,Zq 27 .geq 26 0] (ZC 27 (ZR [Zm 28 7,Zm 29 1,Zd 30 143 28 29,Zm 7 30] (.draw [] [Zu 31 6,Zu 32 8,w1 33 .quo [.tm 32,.cn (.int .i64 32)],Zu 34 6,Zu 35 8,w1 36 .quo [.tm 35,.cn (.int .i64 32)],ZX 37 1 34 36,Zv 38 1 37,Zu 39 8,w1 40 .rem [.tm 39,.cn (.int .i64 32)],w1 41 .shl [.cn (.int .u32 1),.tm 40],w1 42 (.bit .or) [.tm 38,.tm 41],ZX 43 1 31 33,ZS 1 43 42])) .skip)))) (.region [Zm 17 8,u1 18 (.ari .sub) [.tm 17,.cn (.int .i64 1)],Zm 8 18])))))) (ZR [Zm 44 6,Zc 45 113 44,Zm 46 7,Zm 4 45,Zm 5 46] .ret)))))⟩
theorem Yzy:Yg YE8 Tryz.f116=some v116:=by kernel_rfl
def sizeC:Ctr:={ alias:=false,of:=fun l=>match l with
 | [.vs _ _ n sz get]=> .ex Nat fun a=> .pre (padP a n sz get/\n=nl a) (.fin (.int .i64 (Yn a)) [])
 |_=>noC}
def bitC:Ctr:={ alias:=false,of:=fun l=>match l with
 | [.vs _ _ n sz get,.int .i64 i]=> .ex Nat fun a=> .pre (padP a n sz get/\0<=i/\i<32*n) (.fin (.int .u32 (bitN a i.toNat)) [])
 |_=>noC}
def doubleC:Ctr:={ alias:=false,of:=fun l=>match l with
 | [.vs _ _ n sz get,.int .u32 x]=> .ex Nat fun a=> .pre (padP a n sz get/\0<=x/\x<=1/\n<=99999) (.fin (natS false (2*a+x.toNat)) [])
 |_=>noC}
def divideC:Ctr:={ alias:=false,of:=fun l=>match l with
 | [.vs _ _ n sz get,.vs _ _ m sz' get']=> .ex Nat fun a=> .ex Nat fun b=> .pre (padP a n sz get/\n=nl a/\padP b m sz' get'/\0<b/\m<=9999/\n<=9999) (.all Bool fun z=> .fin (.tup [natS false (a/b),natS z (a%b)]) [])
 |_=>noC}
theorem Yy3:sizeC.ok YE8 140:=by
 refine Yb Tryz.func140 YzR YhF 200 sizeC fun args k h=>?_
 simp only[sizeC]at h
 split at h
 ·rename_i t1 z1 n sz get
  obtain⟨a,⟨⟨rfl,hn,ha,hg⟩,rfl⟩,h⟩:=h
  refine⟨[.vs t1 z1 (nl a) 1 (fun k=>[.int .u32 (dig a k)])],by simpa [leL,le]using hg,?_⟩
  (try dsimp only[v140,go_sem,reduceIte])
  (try simp only[Yd,YE5,YE3,reduceCtorEq,YE2])
  refine⟨fun h0=>Yh ?_,fun h0=>?_⟩
  ·have:a=0:=nl_eq0.1 (by omega)
   subst this
   exact h
  ·obtain⟨m,hm⟩:∃m,nl a=m+1:=⟨nl a-1,by omega⟩
   have w1:IntKind.i64.wrap ((nl a:Int)-1)=(m:Int):=by rw[YE7 _ (by omega)];omega
   rw[w1]
   simp only[YE4]
   refine⟨⟨by omega,by omega⟩,?_⟩
   refine Loop.keep [3,0] (Nat×Nat) (fun x=>[(3,.int .i64 x.1),(4,.int .u32 x.2)]) (fun _=>[]) [] (fun x=>x.1+Yn x.2=Yn a/\x.2<4294967296) (fun x=>Yn x.2) ?_ ?_
   ·refine⟨(32*m,dig a m),⟨(Ypn hm).symm,YJ _ _⟩,?_⟩
    (try dsimp only[go_sem,reduceIte])
    simp only[Ya]
    rw[YE7 _ (by omega)]
    simp
   ·rintro⟨c,t⟩ ⟨hc,ht⟩
    dsimp only at hc ht
    (try dsimp only[go_sem,reduceIte])
    (try simp only[Yd,YE5,YE3,reduceCtorEq,YE2])
    have hbl:Yn a<=32*100000:=YFa (Ymp a) (by omega)
    refine⟨fun hpos=>?_,fun hz=>Yh ?_⟩
    ·have hh:=Yex (a:=t) (by omega)
     refine⟨by decide,(c+1,t/2),⟨by simp only;omega,by simp only;omega⟩,by simp only;omega,?_⟩
     have e2:IntKind.u32.wrap ((t:Int).tdiv 2)=((t/2:Nat):Int):=by
      have:(t:Int).tdiv 2=((t/2:Nat):Int):=YGg (y:=2) rfl rfl
      rw[this];exact Ye7 (by omega)
     rw[e2,YE7 _ (by omega)]
     simp only[Ya]
     simp
    ·obtain rfl:t=0:=by omega
     rw[YwL,YF8]at hc
     rw[<-hc]at h
     exact h
 ·exact h.1.elim
theorem Yg3:bitC.ok YE8 142:=by
 refine Yb Tryz.func142 YzT YhF 200 bitC fun args k h=>?_
 simp only[bitC]at h
 split at h
 ·rename_i t1 z1 n sz get i
  obtain⟨a,⟨⟨rfl,hn,ha,hg⟩,h0,h1⟩,h⟩:=h
  obtain⟨i,rfl⟩:=YFW h0
  refine⟨[.vs t1 z1 n 1 (fun k=>[.int .u32 (dig a k)]),.int .i64 i],⟨by simpa [le]using hg,⟨rfl,rfl⟩,trivial⟩,?_⟩
  (try dsimp only[v142,go_sem,reduceIte])
  (try simp only[Yd,YE5,YE3,reduceCtorEq,YE2])
  have e1:IntKind.i64.wrap ((i:Int).tdiv 32)=((i/32:Nat):Int):=by
   have:(i:Int).tdiv 32=((i/32:Nat):Int):=YGg (y:=32) rfl rfl
   rw[this,YE7 _ (by omega)]
  have e2:(i:Int).tmod 32=((i%32:Nat):Int):=YGr (y:=32) rfl rfl
  rw[e1,e2]
  simp only[YE4]
  refine⟨by decide,⟨by omega,by omega⟩,by decide,by omega,Yh ?_⟩
  have e3:((dig a (i/32):Nat):Int).fdiv (2^min (i%32) 32)=((dig a (i/32)/2^(i%32):Nat):Int):=by
   have:min (i%32) 32=i%32:=by omega
   rw[this,Int.fdiv_eq_ediv_of_nonneg _ (Int.le_of_lt (Int.pow_pos (by decide)))]
   simp
  rw[e3]
  have h9:bitI .and .u32 ((dig a (i/32)/2^(i%32):Nat):Int) 1=(bitN a i:Int):=by
   have:=Ywz (dig a (i/32)/2^(i%32))
   rw[Ymn];exact this
  rw[h9]
  exact h
 ·exact h.1.elim
theorem YpQ:doubleC.ok YE8 141:=by
 refine Yb Tryz.func141 YzS YhF 200 doubleC fun args k h=>?_
 simp only[doubleC]at h
 split at h
 ·rename_i t1 z1 n sz get x
  obtain⟨a,⟨⟨rfl,hn,ha,hg⟩,h0,h1,hn9⟩,h⟩:=h
  obtain⟨x,rfl⟩:=YFW h0
  have hx:x<=1:=by omega
  refine⟨[.vs t1 z1 n 1 (fun k=>[.int .u32 (dig a k)]),.int .u32 x],⟨by simpa [le]using hg,⟨rfl,rfl⟩,trivial⟩,?_⟩
  (try dsimp only[v141,go_sem,reduceIte])
  (try simp only[Yd,YE5,YE3,reduceCtorEq,YE2])
  have en:IntKind.i64.wrap ((n:Int)+1)=((n+1:Nat):Int):=by rw[YE7 _ (by omega)];omega
  rw[en]
  simp only[YE4]
  refine⟨⟨by decide,by omega,by unfold YN;omega⟩,?_⟩
  refine Loop.keep [0,4] Nat (fun i=>[(1,.int .u32 (dcy a x i)),(6,.int .i64 i)]) (fun i=>[(0,.own false 1 (n+1) (fun k=>[.int .u32 (dig ((2*a+x)%4294967296^i) k)]))]) [] (fun i=>i<=n) (fun i=>n-i) ?_ ?_
  ·refine⟨0,by omega,?_⟩
   (try dsimp only[go_sem,reduceIte])
   simp only[Ya]
   simp [Nat.mod_one,YbE,leL,le,dcy_0]
  ·rintro i hi
   (try dsimp only[Yc6,trimC,natS,YE4,go_sem,reduceIte])
   (try simp only[Yd,YE5,YE3,reduceCtorEq,YE2])
   have hc:=YuS (a:=a) (i:=i) hx
   have hdl:=YJ a i
   have e1:=YpE a x i
   have e2:=YBa a x i
   refine⟨fun hlt=>⟨⟨by omega,by omega⟩,by decide,⟨by omega,by omega⟩,by omega,⟨by omega,by omega⟩,by decide,i+1,by omega,by omega,?_⟩,fun hge=>?_⟩
   ·have w1:bitI .or .u32 (IntKind.u32.wrap ((dig a i:Int)*2^min (YGq 1) 32)) (dcy a x i:Int)=(((2*dig a i+dcy a x i)%4294967296:Nat):Int):=YBb hdl hc
    have w2:= @Yw0 (dig a i)
    rw[w1,w2,e1,<-e2,YE7 ((i:Int)+1) (by omega)]
    simp only[Ya]
    refine⟨⟨by omega,by simp⟩,fun j hj=>?_⟩
    rw[Y7,Y7]
    split
    ·rename_i hji;subst hji;rw[if_pos (Nat.lt_succ_self _)];simp only[leL,le,and_self]
    ·split
     ·rw[if_pos (by omega)];simp only[leL,le,and_self]
     ·rw[if_neg (by omega)];simp only[leL,le,and_self]
   ·obtain rfl:i=n:=by omega
    have htop:=(Yw1 (x:=x) ha).resolve_right (by omega)
    refine⟨by omega,by omega,2*a+x,⟨rfl,by omega,by rw[Yx];omega,fun j hj=>?_⟩,Yai (t:=true) h⟩
    dsimp only
    rcases YFu j i with h'|h'
    ·rw[if_neg (by omega),Ybo h'];exact Yc _
    ·obtain rfl:j=i:=by omega
     rw[if_pos rfl,htop];exact Yc _
 ·exact h.1.elim
def R3:Env:={ ct:=fun n=>match n with|113=>some trimC|110=>some orderC|143=>some minusC|140=>some sizeC|142=>some bitC|141=>some doubleC|_=>none,fn:=fun _=>none,meth:=fun _ _=>none}
theorem Yst:R3.ct 113=some trimC:=rfl
theorem Yss:R3.ct 110=some orderC:=rfl
theorem Ysx:R3.ct 143=some minusC:=rfl
theorem Ysu:R3.ct 140=some sizeC:=rfl
theorem Ysw:R3.ct 142=some bitC:=rfl
theorem Ysv:R3.ct 141=some doubleC:=rfl
theorem R3_ok:Yu YE8 R3:=by
 refine⟨fun f c h=>?_,fun f vf h=>?_,(fun _ _ _ h=>by cases h),by kernel_rfl,(fun _ h=>by cases h)⟩
 ·simp only[R3]at h
  split at h
  ·cases h;exact⟨Yr1,Tryz.f113,Tryz.func113,by kernel_rfl,by kernel_rfl⟩
  ·cases h;exact⟨YbG,Tryz.f110,Tryz.func110,by kernel_rfl,by kernel_rfl⟩
  ·cases h;exact⟨YmX,Tryz.f143,Tryz.func143,by kernel_rfl,by kernel_rfl⟩
  ·cases h;exact⟨Yy3,Tryz.f140,Tryz.func140,by kernel_rfl,by kernel_rfl⟩
  ·cases h;exact⟨Yg3,Tryz.f142,Tryz.func142,by kernel_rfl,by kernel_rfl⟩
  ·cases h;exact⟨YpQ,Tryz.f141,Tryz.func141,by kernel_rfl,by kernel_rfl⟩
  ·cases h
 ·cases h
theorem YfZ:divideC.ok YE8 116:=by
 refine Yb Tryz.func116 Yzy R3_ok 300 divideC fun args k h=>?_
 simp only[divideC]at h
 split at h
 ·rename_i t1 z1 n sz get t2 z2 m sz' get'
  obtain⟨a,b,⟨⟨rfl,hn,ha,hg⟩,rfl,⟨rfl,hm,hb,hg'⟩,hb0,hm9,hn9⟩,h⟩:=h
  refine⟨[.vs t1 z1 (nl a) 1 (fun k=>[.int .u32 (dig a k)]),.vs t2 z2 m 1 (fun k=>[.int .u32 (dig b k)])],⟨by simpa [le]using hg,by simpa [le]using hg',trivial⟩,?_⟩
  (try dsimp only[v116,Ysu,sizeC,go_sem,reduceIte])
  (try simp only[Yd,YE5,YE3,reduceCtorEq,YE2])
  simp only[YE4]
  have hbl:=Ymp a
  refine⟨⟨by decide,by omega,by unfold YN;omega⟩,a,⟨Yw hn ha,rfl⟩,?_⟩
  refine Loop.keep [0,0,4] (Nat×Nat×Nat×Bool) (fun x=>[(7,.vs true x.2.2.2 (nl x.2.2.1) 1 (fun k=>[.int .u32 (dig x.2.2.1 k)])),(8,.int .i64 ((x.1:Int)-1))]) (fun x=>[(0,.own false 1 (nl a) (fun k=>[.int .u32 (dig x.2.1 k)]))]) [] (fun x=>x.1<=Yn a/\a/2^x.1=x.2.1/2^x.1*b+x.2.2.1/\x.2.1%2^x.1=0/\x.2.2.1<b) (fun x=>x.1) ?_ ?_
  ·refine⟨(Yn a,0,0,true),⟨YFk _,?_,by simp,hb0⟩,?_⟩
   ·rw[YGc (Ycc a)];simp
   ·(try dsimp only[go_sem,reduceIte])
    simp only[Ya]
    rw[YE7 _ (by omega)]
    simp [leL,le,nl_0,YbE]
  ·rintro⟨j,q,r,z⟩ ⟨hj,hq,hqm,hr⟩
   dsimp only at hj hq hqm hr
   (try dsimp only[Yst,Yss,Ysx,Ysw,Ysv,trimC,orderC,minusC,bitC,doubleC,natS,YE4,go_sem,reduceIte])
   (try simp only[Yd,YE5,YE3,reduceCtorEq,YE2])
   refine⟨fun hlt=>?_,fun hge=>?_⟩
   ·obtain⟨i,rfl⟩:∃i,j=i+1:=⟨j-1,by omega⟩
    have e0:((i+1:Nat):Int)-1=i:=by omega
    have e1:IntKind.i64.wrap ((i:Int).tdiv 32)=((i/32:Nat):Int):=by
     have:(i:Int).tdiv 32=((i/32:Nat):Int):=YGg (y:=32) rfl rfl
     rw[this,YE7 _ (by omega)]
    have e2:(i:Int).tmod 32=((i%32:Nat):Int):=YGr (y:=32) rfl rfl
    rw[e0,e1,e2]
    simp only[YE4]
    have hbit:=YwK a i
    have hrn:nl r<=9999:=YFa (Ybu (YGa hr)) (YFa (nl_le.2 hb) hm9)
    have hr2':∀K,nl r<=K->nl (2*r+bitN a i)<=K+1:=fun K hK=>by
     have h1:=nl_le.1 hK
     rw[nl_le,Yx]
     omega
    have hr2:nl (2*r+bitN a i)<=10000:=hr2' 9999 hrn
    refine⟨a,⟨Yw hn ha,by omega,by omega⟩,r,⟨Ye (by omega),by omega,by omega,by omega⟩,2*r+bitN a i,b,⟨Ye (by omega),Yw hm hb⟩,fun hc=>?_,fun hc=>?_⟩
    ·have hbr:b<=2*r+bitN a i:=by
      unfold ordN at hc
      split at hc
      ·omega
      ·omega
     obtain⟨s1,s2,s3⟩:=YDI hqm
     obtain⟨d1,d2⟩:=YpO hq hqm hbr
     have hi32:i/32<nl a:=by omega
     have hm32:i%32<32:=YFC _ (by decide)
     refine⟨_,_,⟨Ye (by omega),Yw hm hb,hbr⟩,by decide,by decide,⟨by omega,by omega⟩,hi32,by decide,by omega,⟨by omega,by omega⟩,hi32,(i,q+2^i,2*r+bitN a i-b,false),⟨by simp only;omega,d1,d2,by simp only;omega⟩,by simp only;omega,?_⟩
     have w:IntKind.u32.wrap (1*2^min (i%32) 32)=((2^(i%32):Nat):Int):=by
      have e4:min (i%32) 32=i%32:=by omega
      have e5:(1:Int)*2^(i%32)=((2^(i%32):Nat):Int):=by simp
      rw[e4,e5]
      exact Ye7 (Nat.pow_lt_pow_right (by decide) hm32)
     have w':bitI .or .u32 (dig q (i/32):Int) ((2^(i%32):Nat):Int)=((dig q (i/32)+2^(i%32):Nat):Int):=by rw[<-Yq6 s1];exact Yq7 (YJ _ _) (Nat.pow_lt_pow_right (by decide) hm32)
     rw[w,w',YE7 ((i:Int)-1) (by omega)]
     simp only[Ya]
     refine⟨by decide,fun k hk=>?_⟩
     rw[<-s2,Yce s3]
     split <;> simp only[leL,le,and_self]
    ·have hbr:2*r+bitN a i<b:=by
      unfold ordN at hc
      split at hc
      ·omega
      ·split at hc <;> omega
     refine⟨(i,q,2*r+bitN a i,false),⟨by simp only;omega,YjK hq hqm,(YiB hqm).1,hbr⟩,by simp only;omega,?_⟩
     rw[YE7 ((i:Int)-1) (by omega)]
     simp only[Ya]
     decide
   ·obtain rfl:j=0:=by omega
    obtain⟨rfl,rfl⟩:=Yw4 hq hr
    refine⟨a/b,Yw hn (YFG (YGd _ _) ha),?_⟩
    exact YE (show k _ []from h z) (YB _ ⟨trivial,trivial,trivial⟩) (fun _=>by simp [natS,Yt,Ys])
 ·exact h.1.elim
def v139:VF:=⟨20,[.tmp 2],(ZR [u1 2 .mov [.cn (.bool false)]] (ZR [Zm 3 0,Zl 4 3,Zq 5 .leq 4 512,Zm 6 5,Zg 7 6 true 0,u2 8 6 true .len [.tm 7],u2 9 6 true (.cmp .eql) [.tm 8,.cn (.int .i64 0)],Zg 10 6 true 9,Zg 11 10 false 0,Zg 12 10 false 0,u2 13 10 false .len [.tm 12],u2 14 10 false (.ari .sub) [.tm 13,.cn (.int .i64 1)],u2 15 10 false (.idxAddr 1) [.tm 11,.tm 14],Zh 16 10 false 1 15,u2 17 10 false (.cmp .neq) [.tm 16,.cn (.int .u32 0)],u2 18 6 true .or [.tm 10,.tm 17],u1 19 .and [.tm 6,.tm 18],Zm 2 19] .ret))⟩
theorem YzQ:Yg YE8 Tryz.f139=some v139:=by kernel_rfl
def v115:VF:=⟨19,[.tmp 4],(ZR [u1 4 .mov [.cn .nil]] (.seq (.block 0 (.loop (.seq (ZR [Zm 7 1,Zl 8 7,Zq 9 .gtr 8 0] (ZC 9 .skip (.exit 0))) (.block 1 (ZR [Zm 11 0,Zm 12 1,Zd 13 116 11 12,Zm 10 13,Ze 14 0 10,Ze 15 1 10,Zm 5 14,Zm 6 15] (.region [Zm 16 1,Zm 17 6,Zm 0 16,Zm 1 17])))))) (ZR [Zm 18 0,Zm 4 18] .ret)))⟩
theorem Yr4:Yg YE8 Tryz.f115=some v115:=by kernel_rfl
def v114:VF:=⟨44,[.tmp 2],(ZR [u1 1 .box [.tm 0],u1 2 .mov [.cn (.bool false)]] (.seq (.seq (.draw [] [Zy 3 1 1,Zv 4 1 3,w1 5 (.call 139) [.tm 4],w1 6 .not [.tm 5],Zu 7 6,⟨Zj 8 7 false 2 1,[]⟩,⟨Zh 9 7 false 1 8,[]⟩,⟨u2 10 7 false (.call 139) [.tm 9],[]⟩,⟨u2 11 7 false .not [.tm 10],[]⟩,w1 12 .or [.tm 7,.tm 11],Zu 13 12,⟨Zj 14 13 false 2 1,[]⟩,⟨Zh 15 13 false 1 14,[]⟩,⟨u2 16 13 false .len [.tm 15],[]⟩,⟨u2 17 13 false (.cmp .eql) [.tm 16,.cn (.int .i64 0)],[]⟩,w1 18 .or [.tm 13,.tm 17],Zu 19 18,⟨Zj 20 19 false 1 1,[]⟩,⟨Zh 21 19 false 1 20,[]⟩,⟨u2 22 19 false .len [.tm 21],[]⟩,⟨u2 23 19 false (.cmp .eql) [.tm 22,.cn (.int .i64 0)],[]⟩,⟨Zg 24 19 false 23,[]⟩,⟨Zj 25 24 true 0 1,[]⟩,⟨Zh 26 24 true 1 25,[]⟩,⟨Zg 27 24 true 26,[]⟩,⟨Zj 28 27 false 2 1,[]⟩,⟨Zh 29 27 false 1 28,[]⟩,⟨u2 30 27 false (.call 86) [.cn (.int .u64 1)],[]⟩,⟨u2 31 27 false (.call 110) [.tm 29,.tm 30],[]⟩,⟨u2 32 27 false (.cmp .neq) [.tm 31,.cn (.int .i64 0)],[]⟩,⟨u2 33 24 true .or [.tm 27,.tm 32],[]⟩,⟨u2 34 19 false .and [.tm 24,.tm 33],[]⟩,w1 35 .or [.tm 19,.tm 34]]) (ZC 35 (ZR [u1 2 .mov [.cn (.bool false)]] .ret) .skip)) (ZR [Za 36 1 1,Zf 37 1 36,Za 38 2 1,Zf 39 1 38,Zd 40 115 37 39,u1 41 (.call 86) [.cn (.int .u64 1)],Zd 42 110 40 41,Zq 43 .eql 42 0,Zm 2 43] .ret)))⟩
theorem Yzx:Yg YE8 Tryz.f114=some v114:=by kernel_rfl
def v88:VF:=⟨39,[.tmp 2],(ZR [Zi 2 0] (.seq (ZR [Zi 3 0] (.block 0 (.loop (.seq (ZR [Zm 5 3,Zm 6 0,Zl 7 6,Zr 8 .lss 5 7] (ZC 8 .skip (.exit 0))) (.seq (.block 1 (ZR [Zm 11 0,Zm 12 3,Zx 13 3 11 12,Za 14 1 13,Zf 15 1 14,Zl 16 15,Zq 17 .gtr 16 512,Zm 18 17,Zg 19 18 false 0,Zg 20 18 false 3,u2 21 18 false (.idxAddr 3) [.tm 19,.tm 20],Zj 22 18 false 2 21,Zh 23 18 false 1 22,u2 24 18 false .len [.tm 23],u2 25 18 false (.cmp .gtr) [.tm 24,.cn (.int .i64 512)],u1 26 .or [.tm 18,.tm 25]] (ZC 26 (ZR [Zi 2 3] .ret) .skip))) (.region [Zm 9 3,Zp 10 9 1,Zm 3 10])))))) (.seq (ZR [Zi 4 0] (.block 2 (.loop (.seq (ZR [Zm 27 4,Zm 28 0,Zl 29 28,Zr 30 .lss 27 29] (ZC 30 .skip (.exit 2))) (.seq (.block 3 (ZR [Zm 33 0,Zm 34 4,Zx 35 3 33 34,Zt 36 3 35,Zc 37 114 36,u1 38 .not [.tm 37]] (ZC 38 (ZR [Zi 2 2] .ret) .skip))) (.region [Zm 31 4,Zp 32 31 1,Zm 4 32])))))) (ZR [Zi 2 0] .ret))))⟩
theorem YEQ:Yg YE8 Tryz.f88=some v88:=by kernel_rfl
def v89:VF:=⟨46,[.cell 6 true 3,.tmp 7],(ZR [u1 6 (.alloc [(.bool false),.nil,.nil]) [],Zi 7 0] (ZR [Zm 13 1,Zm 14 2,Zd 15 115 13 14,Zm 8 15] (ZR [Zm 17 1,Zm 18 8,Zd 19 116 17 18,Zm 16 19,Ze 20 0 16,Ze 21 1 16,Zm 9 20,Zm 10 21] (ZR [Zm 23 2,Zm 24 8,Zd 25 116 23 24,Zm 22 25,Ze 26 0 22,Ze 27 1 22,Zm 11 26,Zm 12 27] (.seq (ZR [Zm 28 9,Zl 29 28,Zq 30 .gtr 29 512,Zm 31 30,Zg 32 31 false 11,u2 33 31 false .len [.tm 32],u2 34 31 false (.cmp .gtr) [.tm 33,.cn (.int .i64 512)],u1 35 .or [.tm 31,.tm 34]] (ZC 35 (ZR [u1 36 (.build [(.bool false),.nil,.nil] []) [],Zs 3 6 36,Zi 7 3] .ret) .skip)) (ZR [Zm 37 0,Zm 38 37,Zg 39 38 true 9,u2 40 38 true .len [.tm 39],u2 41 38 true (.cmp .gtr) [.tm 40,.cn (.int .i64 0)],u1 42 .and [.tm 38,.tm 41],Zm 43 9,Zm 44 11,u1 45 (.build [(.bool false),.nil,.nil] [(0,1),(1,1),(2,1)]) [.tm 42,.tm 43,.tm 44],Zs 3 6 45,Zi 7 0] .ret))))))⟩
theorem YER:Yg YE8 Tryz.f89=some v89:=by kernel_rfl
abbrev Fr:=Int×Nat
def natV(t z:Bool)(a:Nat):SV:= .vs t z (nl a) 1 (fun k=>[.int .u32 (dig a k)])
def encF(t:Bool)(p:Fr):List SV:=[.bool (decide (p.1<0)),natV t false (rnum p.1 p.2),natV t false (rden p.1 p.2)]
def frOk(p:Fr):Prop:=0<p.2/\nl (rnum p.1 p.2)<=512/\nl (rden p.1 p.2)<=512
def Yf8(p:Fr)(neg z1:Bool)(n1 s1:Nat)(g1:Nat->List SV)(z2:Bool)(n2 s2:Nat)(g2:Nat->List SV):Prop:=
 frOk p/\neg=decide (p.1<0)/\z1=false/\z2=false/\s1=1/\s2=1/\n1=nl (rnum p.1 p.2)/\n2=nl (rden p.1 p.2)/\
  (∀k,k<n1->leXL (g1 k) [.int .u32 (dig (rnum p.1 p.2) k)])/\∀k,k<n2->leXL (g2 k) [.int .u32 (dig (rden p.1 p.2) k)]
theorem Yy{p:Fr}(h:frOk p):Yf8 p (decide (p.1<0)) false (nl (rnum p.1 p.2)) 1 (fun k=>[.int .u32 (dig (rnum p.1 p.2) k)]) false (nl (rden p.1 p.2)) 1 (fun k=>[.int .u32 (dig (rden p.1 p.2) k)]):=
 ⟨h,rfl,rfl,rfl,rfl,rfl,rfl,rfl,fun k _=>Yc _,fun k _=>Yc _⟩
def validC:Ctr:={ alias:=false,of:=fun l=>match l with
 | [.vs _ _ n sz get]=> .ex Nat fun a=> .pre (padP a n sz get) (.fin (.bool (decide (n<=512)&&decide (n=nl a))) [])
 |_=>noC}
def properC:Ctr:={ alias:=false,of:=fun l=>match l with
 | [.agg [.bool neg,.vs _ z1 n1 s1 g1,.vs _ z2 n2 s2 g2]]=> .ex Fr fun p=> .pre (Yf8 p neg z1 n1 s1 g1 z2 n2 s2 g2) (.fin (.bool true) [])
 |_=>noC}
def badqC:Ctr:={ alias:=false,of:=fun l=>match l with
 | [.vs _ _ n sz get]=> .ex (List Fr) fun l=> .pre (lsP 3 (encF false) n sz get l/\l.length<=1000/\∀p∈l,frOk p) (.fin (.int .i64 0) [])
 |_=>noC}
def lowestC:Ctr:={ alias:=false,of:=fun l=>match l with
 | [.bool neg,.vs _ _ n sz get,.vs _ _ m sz' get']=> .ex Nat fun a=> .ex Nat fun b=> .pre (padP a n sz get/\n=nl a/\padP b m sz' get'/\m=nl b/\0<b/\n<=9999/\m<=9999/\frOk (nsg neg a,b)) (.fin (.tup [.agg (encF true (nsg neg a,b)),.int .i64 0]) [])
 |_=>noC}
theorem Yeq:validC.ok YE8 139:=by
 refine Yb Tryz.func139 YzQ YhF 200 validC fun args k h=>?_
 simp only[validC]at h
 split at h
 ·rename_i t1 z1 n sz get
  obtain⟨a,⟨rfl,hn,ha,hg⟩,h⟩:=h
  refine⟨[.vs t1 z1 n 1 (fun k=>[.int .u32 (dig a k)])],by simpa [leL,le]using hg,?_⟩
  (try dsimp only[v139,go_sem,reduceIte])
  (try simp only[Yd,YE5,YE3,reduceCtorEq,YE2])
  have e:(decide ((n:Int)=0) || !decide (((dig a (IntKind.i64.wrap ((n:Int)-1)).toNat:Nat):Int)=0))=decide (n=nl a):=by
   rcases YFB n with h0|h0
   ·subst h0
    have:=YCE (a:=a) (sz:=1) (get:=get) ⟨rfl,hn,ha,hg⟩
    subst this
    simp [nl_0]
   ·rw[Ym h0 (by omega),YE4,decide_eq_false (by omega:¬(n:Int)=0),Bool.false_or,Bool.eq_iff_iff,YFI,decide_eq_false_iff_not,decide_eq_true_eq]
    constructor
    ·intro hne
     exact(Yav ha (.inr (by omega))).symm
    ·rintro rfl
     have:=YmZ (a:=a) (by rintro rfl;simp [nl_0]at h0)
     omega
  refine⟨fun hb=>?_,fun h1 h2=>by rw[decide_eq_true h1,decide_eq_false h2];rfl,?_⟩
  ·simp only[YFd,decide_eq_true_eq,YFI,decide_eq_false_iff_not]at hb
   rw[Ym (by omega) (by omega)];omega
  ·rw[e]
   have e2:decide ((n:Int)<=512)=decide (n<=512):=by congr 1;exact propext (by omega)
   rw[e2]
   exact YO h
 ·exact h.1.elim
def R4:Env:={ ct:=fun n=>match n with|139=>some validC|110=>some orderC|86=>some ofC|116=>some divideC|_=>none,fn:=fun n=>match n with|115=>some v115|_=>none,meth:=fun _ _=>none}
theorem YsA:R4.ct 139=some validC:=rfl
theorem YlX:R4.ct 110=some orderC:=rfl
theorem Yok:R4.ct 86=some ofC:=rfl
theorem Ysz:R4.ct 116=some divideC:=rfl
theorem Ysy:R4.ct 115=none:=rfl
theorem YsB:R4.fn 115=some v115:=rfl
theorem R4_ok:Yu YE8 R4:=by
 refine⟨fun f c h=>?_,fun f vf h=>?_,(fun _ _ _ h=>by cases h),by kernel_rfl,(fun _ h=>by cases h)⟩
 ·simp only[R4]at h
  split at h
  ·cases h;exact⟨Yeq,Tryz.f139,Tryz.func139,by kernel_rfl,by kernel_rfl⟩
  ·cases h;exact⟨YbG,Tryz.f110,Tryz.func110,by kernel_rfl,by kernel_rfl⟩
  ·cases h;exact⟨Yt1,Tryz.f86,Tryz.func86,by kernel_rfl,by kernel_rfl⟩
  ·cases h;exact⟨YfZ,Tryz.f116,Tryz.func116,by kernel_rfl,by kernel_rfl⟩
  ·cases h
 ·simp only[R4]at h
  split at h
  ·cases h;exact⟨Tryz.f115,Tryz.func115,Yr4,Tryz.f115,Tryz.func115,by kernel_rfl,by kernel_rfl⟩
  ·cases h
theorem Yrj:properC.ok YE8 114:=by
 refine Yb Tryz.func114 Yzx R4_ok 300 properC fun args k h=>?_
 simp only[properC]at h
 split at h
 ·rename_i neg t1 z1 n1 s1 g1 t2 z2 n2 s2 g2
  obtain⟨⟨n,d⟩,⟨⟨hd,hl1,hl2⟩,rfl,rfl,rfl,rfl,rfl,rfl,rfl,hg1,hg2⟩,h⟩:=h
  dsimp only at hd hl1 hl2 hg1 hg2
  refine⟨[.agg [.bool (decide (n<0)),.vs false false (nl (rnum n d)) 1 (fun k=>[.int .u32 (dig (rnum n d) k)]),.vs false false (nl (rden n d)) 1 (fun k=>[.int .u32 (dig (rden n d) k)])]],by simpa [leL,le]using⟨hg1,hg2⟩,?_⟩
  (try dsimp only[v114,YsA,YlX,Yok,Ysy,YsB,v115,validC,orderC,ofC,natS,go_sem,reduceIte])
  (try simp only[Yd,YE5,YE3,reduceCtorEq,YE2])
  have hq:=YaO (n:=n) hd
  have hq0:=nl_pos.2 hq
  have c1:decide (nl (rnum n d)<=512)=true:=decide_eq_true hl1
  have c2:decide (nl (rden n d)<=512)=true:=decide_eq_true hl2
  have c3:decide ((nl (rden n d):Int)=0)=false:=decide_eq_false (by omega)
  refine⟨rnum n d,Ye (by omega),rden n d,fun _=>Ye (by omega),fun _=>by decide,rden n d,1,fun _=>⟨Ye (by omega),Ye (by decide)⟩,?_⟩
  have c4:(decide ((nl (rnum n d):Int)=0)&&(decide (n<0) || !decide (ordN (rden n d) 1=0)))=false:=by
   by_cases h0:n=0
   ·subst h0
    rw[YDw hd];simp [ordN]
   ·have:nl (rnum n d)≠0:=fun hh=>h0 ((Yhu hd).1 (nl_eq0.1 hh))
    rw[decide_eq_false (by omega),YGi]
  simp only[c1,c2,c3,decide_true,decide_false,Bool.and_true,YGm,Bool.and_false,YGi,Bool.not_true,Bool.not_false,Bool.or_false,Bool.false_or,Bool.or_true,Bool.true_or,Bool.and_self,Bool.or_self,YFx,Bool.true_eq_false,false_imp_iff,forall_const,true_and,and_true,implies_true,reduceCtorEq,not_true_eq_false,not_false_eq_true,ite_true,ite_false]
  rw[c4]
  refine⟨fun h1 h2=>by rw[h1,decide_eq_false h2];rfl,fun h=>by rw[decide_eq_true h],(fun h=>by cases h),fun _=>?_⟩
  refine Loop.keep [] (Nat×Nat×Bool×Bool) (fun x=>[(0,.vs false x.2.2.1 (nl x.1) 1 (fun k=>[.int .u32 (dig x.1 k)])),(1,.vs false x.2.2.2 (nl x.2.1) 1 (fun k=>[.int .u32 (dig x.2.1 k)]))]) (fun _=>[]) [] (fun x=>YF1 x.1 x.2.1=YF1 (rnum n d) (rden n d)/\nl x.1<=9999/\nl x.2.1<=9999) (fun x=>x.2.1) ?_ ?_
  ·refine⟨(rnum n d,rden n d,false,false),⟨rfl,by simp only;omega,by simp only;omega⟩,?_⟩
   (try dsimp only[go_sem,reduceIte])
   simp only[Ya]
   simp
  ·rintro⟨x,y,zx,zy⟩ ⟨hg,hx,hy⟩
   dsimp only at hg hx hy
   (try dsimp only[Ysz,YlX,Yok,divideC,orderC,ofC,natS,go_sem,reduceIte])
   (try simp only[Yd,YE5,YE3,reduceCtorEq,YE2])
   refine⟨fun hpos=>⟨x,y,⟨Ye (by omega),rfl,Ye (by omega),nl_pos.1 (by omega),hy,hx⟩,fun zr=>⟨by decide,by decide,(y,x%y,zy,zr),⟨?_,hy,?_⟩,?_,?_⟩⟩,fun hge=>?_⟩
   ·have hy0:0<y:=nl_pos.1 (by omega)
    show YF1 y (x%y)=_
    rw[<-hg,Nat.gcd_comm x y,Nat.gcd_rec y x,Nat.gcd_comm]
   ·exact YFa (Ybu (Nat.mod_le _ _)) hx
   ·exact YFC _ (nl_pos.1 (by omega))
   ·simp only[Ya]
    simp
   ·obtain rfl:y=0:=nl_eq0.1 (by omega)
    rw[Nat.gcd_zero_right,Yrr hd]at hg
    subst hg
    refine⟨⟨by decide,by decide⟩,1,1,⟨Ye (by decide),Ye (by decide)⟩,YO ?_⟩
    exact h
 ·exact h.1.elim
def R5:Env:={ ct:=fun n=>match n with|139=>some validC|110=>some orderC|86=>some ofC|116=>some divideC|114=>some properC|_=>none,fn:=fun n=>match n with|115=>some v115|_=>none,meth:=fun _ _=>none}
theorem YsE:R5.ct 116=some divideC:=rfl
theorem YsC:R5.ct 114=some properC:=rfl
theorem YsD:R5.ct 115=none:=rfl
theorem YsF:R5.fn 115=some v115:=rfl
theorem YAw:Yu YE8 R5:=by
 refine⟨fun f c h=>?_,fun f vf h=>?_,(fun _ _ _ h=>by cases h),by kernel_rfl,(fun _ h=>by cases h)⟩
 ·simp only[R5]at h
  split at h
  ·cases h;exact⟨Yeq,Tryz.f139,Tryz.func139,by kernel_rfl,by kernel_rfl⟩
  ·cases h;exact⟨YbG,Tryz.f110,Tryz.func110,by kernel_rfl,by kernel_rfl⟩
  ·cases h;exact⟨Yt1,Tryz.f86,Tryz.func86,by kernel_rfl,by kernel_rfl⟩
  ·cases h;exact⟨YfZ,Tryz.f116,Tryz.func116,by kernel_rfl,by kernel_rfl⟩
  ·cases h;exact⟨Yrj,Tryz.f114,Tryz.func114,by kernel_rfl,by kernel_rfl⟩
  ·cases h
 ·simp only[R5]at h
  split at h
  ·cases h;exact⟨Tryz.f115,Tryz.func115,Yr4,Tryz.f115,Tryz.func115,by kernel_rfl,by kernel_rfl⟩
  ·cases h
theorem Ypj:badqC.ok YE8 88:=by
 refine Yb Tryz.func88 YEQ YAw 300 badqC fun args k h=>?_
 simp only[badqC]at h
 split at h
 ·rename_i tt z n sz get
  obtain⟨l,⟨⟨rfl,rfl,hg⟩,hmax,hok⟩,h⟩:=h
  refine⟨[.vs tt z l.length 3 (fun k=>encF false (l.getD k default))],by simpa [leL,le]using hg,?_⟩
  (try dsimp only[v88,go_sem,reduceIte])
  (try simp only[Yd,YE5,YE3,reduceCtorEq,YE2])
  refine Loop.keep [0,2] Nat (fun i=>[(3,.int .i64 i)]) (fun _=>[]) [] (fun i=>i<=l.length) (fun i=>l.length-i) ?_ ?_
  ·refine⟨0,by omega,?_⟩
   (try dsimp only[go_sem,reduceIte])
   simp only[Ya]
   simp
  ·rintro i hi
   (try dsimp only[encF,natV,YE4,go_sem,reduceIte])
   (try simp only[Yd,YE5,YE3,reduceCtorEq,YE2])
   refine⟨fun hlt=>?_,fun hge=>?_⟩
   ·obtain⟨hd,hl1,hl2⟩:=hok _ (Yl (by omega:i<l.length))
    refine⟨⟨by omega,by omega⟩,fun _=>⟨by omega,by omega⟩,fun hb=>?_,fun _=>⟨i+1,by omega,by omega,?_⟩⟩
    ·rw[decide_eq_false (by omega),decide_eq_false (by omega)]at hb
     cases hb
    ·rw[Yes (n:=l.length) (by omega) (by omega)]
     simp only[Ya] <;> simp
   ·refine Loop.keep [0,3] Nat (fun i=>[(4,.int .i64 i)]) (fun _=>[]) [] (fun i=>i<=l.length) (fun i=>l.length-i) ?_ ?_
    ·refine⟨0,by omega,?_⟩
     (try dsimp only[go_sem,reduceIte])
     simp only[Ya] <;> simp
    ·rintro i hi
     (try dsimp only[YsC,properC,encF,natV,YE4,go_sem,reduceIte])
     (try simp only[Yd,YE5,YE3,reduceCtorEq,YE2])
     refine⟨fun hlt=>?_,fun hge=>Yh h⟩
     refine⟨⟨by omega,by omega⟩,l.getD i default,Yy (hok _ (Yl (by omega))),⟨i+1,by omega,by omega,?_⟩⟩
     rw[Yes (n:=l.length) (by omega) (by omega)]
     simp only[Ya] <;> simp
 ·exact h.1.elim
theorem Yj8:lowestC.ok YE8 89:=by
 refine Yb Tryz.func89 YER YAw 300 lowestC fun args k h=>?_
 simp only[lowestC]at h
 split at h
 ·rename_i neg t1 z1 n sz get t2 z2 m sz' get'
  obtain⟨a,b,⟨⟨rfl,hn,ha,hg⟩,rfl,⟨rfl,hm,hb,hg'⟩,rfl,hb0,hn9,hm9,hok⟩,h⟩:=h
  refine⟨[.bool neg,.vs t1 z1 (nl a) 1 (fun k=>[.int .u32 (dig a k)]),.vs t2 z2 (nl b) 1 (fun k=>[.int .u32 (dig b k)])],⟨rfl,by simpa [le]using hg,by simpa [le]using hg',trivial⟩,?_⟩
  (try dsimp only[v89,YsD,YsF,v115,go_sem,reduceIte])
  (try simp only[Yd,YE5,YE3,reduceCtorEq,YE2])
  refine Loop.keep [] (Nat×Nat×Bool×Bool) (fun x=>[(0,.vs false x.2.2.1 (nl x.1) 1 (fun k=>[.int .u32 (dig x.1 k)])),(1,.vs false x.2.2.2 (nl x.2.1) 1 (fun k=>[.int .u32 (dig x.2.1 k)]))]) (fun _=>[]) [] (fun x=>YF1 x.1 x.2.1=YF1 a b/\nl x.1<=9999/\nl x.2.1<=9999) (fun x=>x.2.1) ?_ ?_
  ·refine⟨(a,b,z1,z2),⟨rfl,hn9,hm9⟩,?_⟩
   (try dsimp only[go_sem,reduceIte])
   simp only[Ya]
   simp
  ·rintro⟨x,y,zx,zy⟩ ⟨hg,hx,hy⟩
   dsimp only at hg hx hy
   (try dsimp only[YsE,divideC,natS,go_sem,reduceIte])
   (try simp only[Yd,YE5,YE3,reduceCtorEq,YE2])
   refine⟨fun hpos=>⟨x,y,⟨Ye (by omega),rfl,Ye (by omega),nl_pos.1 (by omega),hy,hx⟩,fun zr=>⟨by decide,by decide,(y,x%y,zy,zr),⟨?_,hy,?_⟩,?_,?_⟩⟩,fun hge=>?_⟩
   ·have hy0:0<y:=nl_pos.1 (by omega)
    show YF1 y (x%y)=_
    rw[<-hg,Nat.gcd_comm x y,Nat.gcd_rec y x,Nat.gcd_comm]
   ·exact YFa (Ybu (Nat.mod_le _ _)) hx
   ·exact YFC _ (nl_pos.1 (by omega))
   ·simp only[Ya]
    simp
   ·obtain rfl:y=0:=nl_eq0.1 (by omega)
    rw[Nat.gcd_zero_right]at hg
    have hg0:0<x:=by rw[hg];exact Nat.gcd_pos_of_pos_right _ hb0
    refine⟨a,x,⟨Ye (by omega),rfl,Ye (by omega),hg0,hx,hn9⟩,?_⟩
    refine⟨by decide,by decide,b,x,⟨Ye (by omega),rfl,Ye (by omega),hg0,hx,hm9⟩,by decide,by decide,?_⟩
    obtain⟨_,hl1,hl2⟩:=hok
    have e1:a/x=rnum (nsg neg a) b:=by unfold rnum fg;rw[Ygj,hg]
    have e2:b/x=rden (nsg neg a) b:=by unfold rden fg;rw[Ygj,hg]
    dsimp only at hl1 hl2
    rw[e1,e2]
    refine⟨fun hb=>?_,fun _=>?_⟩
    ·rw[decide_eq_false (by omega),decide_eq_false (by omega)]at hb
     cases hb
    ·have e3:(neg&&decide (0<(nl (rnum (nsg neg a) b):Int)))=decide (nsg neg a<0):=by
      rw[Yyb]
      congr 2
      apply propext
      have h1:=Yhu (n:=nsg neg a) hb0
      have h2:=nl_eq0 (a:=rnum (nsg neg a) b)
      have h3:nsg neg a=0↔a=0:=by unfold nsg;split <;> omega
      omega
     rw[e3]
     exact YE (show k _ []from h) (YB (.tup [.agg (encF true (nsg neg a,b)),.int .i64 0]) ⟨⟨trivial,trivial,trivial,trivial⟩,trivial,trivial⟩) (fun _=>by simp [encF,natV,Yt,Ys])
 ·exact h.1.elim
def v55:VF:=⟨33,[.cell 4 true 3,.tmp 5],(ZR [u1 2 .box [.tm 0],u1 3 .box [.tm 1],u1 4 (.alloc [(.bool false),.nil,.nil]) [],Zi 5 0] (ZR [Zt 7 3 2,Zt 8 3 3,u1 9 (.buildSlice 3 2 [(.bool false),.nil,.nil] [(0,3),(3,3)]) [.tm 7,.tm 8],Zc 10 88 9,Zm 6 10] (.seq (ZR [Zm 11 6,Zq 12 .neq 11 0] (ZC 12 (ZR [u1 13 (.build [(.bool false),.nil,.nil] []) [],Zm 14 6,Zs 3 4 13,Zm 5 14] .ret) .skip)) (.seq (.draw [] [Zy 15 0 2,Zv 16 1 15,Zy 17 0 3,Zv 18 1 17,w1 19 (.eqb true) [.tm 16,.tm 18],Zy 20 1 2,Zv 21 1 20,Zy 22 1 3,Zv 23 1 22,Zy 25 2 2,Zv 26 1 25,Zy 27 2 3,Zv 28 1 27,Zz 24 90 21 23,Zz 29 90 26 28,w1 30 (.call 89) [.tm 19,.tm 24,.tm 29],ZE 31 0 30,ZE 32 1 30,ZS 3 4 31,Zu 5 32]) .ret))))⟩
theorem YEr:Yg YE8 Tryz.f55=some v55:=by kernel_rfl
def v87:VF:=⟨41,[.cell 4 true 3,.tmp 5],(ZR [u1 2 .box [.tm 0],u1 3 .box [.tm 1],u1 4 (.alloc [(.bool false),.nil,.nil]) [],Zi 5 0] (ZR [Zt 7 3 2,Zt 8 3 3,u1 9 (.buildSlice 3 2 [(.bool false),.nil,.nil] [(0,3),(3,3)]) [.tm 7,.tm 8],Zc 10 88 9,Zm 6 10] (.seq (ZR [Zm 11 6,Zq 12 .eql 11 0,Zm 13 12,Zj 14 13 true 1 3,Zh 15 13 true 1 14,u2 16 13 true .len [.tm 15],u2 17 13 true (.cmp .eql) [.tm 16,.cn (.int .i64 0)],u1 18 .and [.tm 13,.tm 17]] (ZC 18 (.region [Zi 6 4]) .skip)) (.seq (ZR [Zm 19 6,Zq 20 .neq 19 0] (ZC 20 (ZR [u1 21 (.build [(.bool false),.nil,.nil] []) [],Zm 22 6,Zs 3 4 21,Zm 5 22] .ret) .skip)) (.seq (.draw [] [Zy 23 0 2,Zv 24 1 23,Zy 25 0 3,Zv 26 1 25,w1 27 (.eqb true) [.tm 24,.tm 26],Zy 28 1 2,Zv 29 1 28,Zy 30 2 3,Zv 31 1 30,Zy 33 2 2,Zv 34 1 33,Zy 35 1 3,Zv 36 1 35,Zz 32 90 29 31,Zz 37 90 34 36,w1 38 (.call 89) [.tm 27,.tm 32,.tm 37],ZE 39 0 38,ZE 40 1 38,ZS 3 4 39,Zu 5 40]) .ret)))))⟩
theorem YEP:Yg YE8 Tryz.f87=some v87:=by kernel_rfl
def v83:VF:=⟨39,[.tmp 4,.tmp 5],(ZR [u1 2 .box [.tm 0],u1 3 .box [.tm 1],Zi 4 0,Zi 5 0] (ZR [Zt 8 3 2,Zt 9 3 3,u1 10 (.buildSlice 3 2 [(.bool false),.nil,.nil] [(0,3),(3,3)]) [.tm 8,.tm 9],Zc 11 88 10,Zm 6 11] (.seq (ZR [Zm 12 6,Zq 13 .neq 12 0] (ZC 13 (ZR [Zm 14 6,Zi 4 0,Zm 5 14] .ret) .skip)) (.seq (.draw [] [Zy 15 1 2,Zv 16 1 15,Zy 17 2 3,Zv 18 1 17,Zy 20 1 3,Zv 21 1 20,Zy 22 2 2,Zv 23 1 22,Zz 19 90 16 18,Zz 24 90 21 23,Zz 25 110 19 24,Zu 7 25]) (.seq (ZR [Za 26 0 2,Zf 27 1 26,Zm 28 27,Zj 29 28 true 0 3,Zh 30 28 true 1 29,u1 31 .and [.tm 28,.tm 30]] (ZC 31 (ZR [Zm 32 7,u1 33 .neg [.tm 32],Zm 4 33,Zi 5 0] .ret) .skip)) (.seq (ZR [Za 34 0 2,Zf 35 1 34] (ZC 35 (ZR [Zi 4 (-1),Zi 5 0] .ret) .skip)) (.seq (ZR [Za 36 0 3,Zf 37 1 36] (ZC 37 (ZR [Zi 4 1,Zi 5 0] .ret) .skip)) (ZR [Zm 38 7,Zm 4 38,Zi 5 0] .ret))))))))⟩
theorem YEL:Yg YE8 Tryz.f83=some v83:=by kernel_rfl
def v111:VF:=⟨35,[.tmp 2,.tmp 3,.tmp 4],(ZR [u1 1 .box [.tm 0],u1 2 .mov [.cn (.bool false)],u1 3 .mov [.cn .nil],Zi 4 0] (ZR [Zt 8 3 1,u1 9 (.buildSlice 3 1 [(.bool false),.nil,.nil] [(0,3)]) [.tm 8],Zc 10 88 9,Zm 5 10] (.seq (ZR [Zm 11 5,Zq 12 .neq 11 0] (ZC 12 (ZR [Zm 13 5,u1 2 .mov [.cn (.bool false)],u1 3 .mov [.cn .nil],Zm 4 13] .ret) .skip)) (ZR [Za 15 1 1,Zf 16 1 15,Za 17 2 1,Zf 18 1 17,Zd 19 116 16 18,Zm 14 19,Ze 20 0 14,Ze 21 1 14,Zm 6 20,Zm 7 21] (.seq (ZR [Za 22 0 1,Zf 23 1 22,Zm 24 23,Zg 25 24 true 7,u2 26 24 true .len [.tm 25],u2 27 24 true (.cmp .gtr) [.tm 26,.cn (.int .i64 0)],u1 28 .and [.tm 24,.tm 27]] (ZC 28 (.region [Zm 29 6,u1 30 (.call 86) [.cn (.int .u64 1)],Zd 31 137 29 30,Zm 6 31]) .skip)) (ZR [Za 32 0 1,Zf 33 1 32,Zm 34 6,Zm 2 33,Zm 3 34,Zi 4 0] .ret))))))⟩
theorem Yzu:Yg YE8 Tryz.f111=some v111:=by kernel_rfl
theorem Yhm{a b:Nat}:nl (a*b)<=nl a+nl b:=by
 rw[nl_le,YFi]
 exact Nat.mul_lt_mul'' (YbD a) (YbD b)
theorem Yp2{t:Bool}{p q:Fr}(h:rnum p.1 p.2=rnum q.1 q.2/\rden p.1 p.2=rden q.1 q.2/\decide (p.1<0)=decide (q.1<0)):encF t p=encF t q:=by
 unfold encF;rw[h.1,h.2.1,h.2.2]
theorem Yp6{p q:Fr}(h:rnum p.1 p.2=rnum q.1 q.2/\rden p.1 p.2=rden q.1 q.2/\decide (p.1<0)=decide (q.1<0))(hq:frOk q)(hd:0<p.2):frOk p:=
 ⟨hd,by rw[h.1];exact hq.2.1,by rw[h.2.1];exact hq.2.2⟩
theorem YqI{p q:Fr}(hp:frOk p)(hq:frOk q):∀x∈ [p,q],frOk x:=by
 intro x hx
 simp only[YFA,List.not_mem_nil,or_false]at hx
 rcases hx with rfl|rfl
 ·exact hp
 ·exact hq
theorem list1{p:Fr}(hp:frOk p):∀x∈ [p],frOk x:=by
 intro x hx
 simp only[YFA,List.not_mem_nil,or_false]at hx
 rcases hx with rfl
 exact hp
theorem Yii{p:Fr}{neg t1 z1 t2 z2:Bool}{n1 s1 n2 s2:Nat}{g1 g2:Nat->List SV}(h:Yf8 p neg z1 n1 s1 g1 z2 n2 s2 g2):le 0 0 (.agg [.bool neg,.vs t1 z1 n1 s1 g1,.vs t2 z2 n2 s2 g2]) (.agg (encF false p)):=by
 obtain⟨_,h1,h2,h3,h4,h5,h6,h7,h8,h9⟩:=h
 simp only[encF,natV,Yve,YmT,Yqw,Yqx,YtP]
 exact⟨h1,⟨fun h=>(by cases h),h2,h6,h4,h8⟩,⟨fun h=>(by cases h),h3,h7,h5,h9⟩,trivial⟩
theorem YuN{k:SV->List HO->Prop}{al:Bool}{hp:List HO}{p:Fr}(h:k (.tup [.agg (encF true p),.int .i64 0]) []):YK al k (.tup [.agg (encF true p),.int .i64 0]) hp:=
 YE (show k _ []from h) (YB (.tup [.agg (encF true p),.int .i64 0]) ⟨⟨trivial,trivial,trivial,trivial⟩,trivial,trivial⟩) (fun _=>by simp [encF,natV,Yt,Ys])
theorem Ycv{k:SV->List HO->Prop}{al:Bool}{hp:List HO}{κ κ':IntKind}{x y:Int}(h:k (.tup [.int κ x,.int κ' y]) []):YK al k (.tup [.int κ x,.int κ' y]) hp:=
 YE (show k _ []from h) (YB (.tup [.int κ x,.int κ' y]) ⟨trivial,trivial,trivial⟩) (fun _=>by simp [Yt,Ys])
theorem Yt2(a b:Nat): -1<=ordN a b/\ordN a b<=1:=by unfold ordN;split <;> (try split) <;> omega
def qmulC:Ctr:={ alias:=false,of:=fun l=>match l with
 | [.agg [.bool neg,.vs _ z1 n1 s1 g1,.vs _ z2 n2 s2 g2],.agg [.bool neg',.vs _ z1' n1' s1' g1',.vs _ z2' n2' s2' g2']]=> .ex Fr fun p=> .ex Fr fun q=>
     .pre (Yf8 p neg z1 n1 s1 g1 z2 n2 s2 g2/\Yf8 q neg' z1' n1' s1' g1' z2' n2' s2' g2'/\frOk (p.1*q.1,p.2*q.2)) (.fin (.tup [.agg (encF true (p.1*q.1,p.2*q.2)),.int .i64 0]) [])
 |_=>noC}
def divF(p q:Fr):Fr:=(nsg (decide (q.1<0)) 1*p.1*q.2,p.2*q.1.natAbs)
def qdivC:Ctr:={ alias:=false,of:=fun l=>match l with
 | [.agg [.bool neg,.vs _ z1 n1 s1 g1,.vs _ z2 n2 s2 g2],.agg [.bool neg',.vs _ z1' n1' s1' g1',.vs _ z2' n2' s2' g2']]=> .ex Fr fun p=> .ex Fr fun q=>
     .pre (Yf8 p neg z1 n1 s1 g1 z2 n2 s2 g2/\Yf8 q neg' z1' n1' s1' g1' z2' n2' s2' g2'/\q.1≠0/\frOk (divF p q)) (.fin (.tup [.agg (encF true (divF p q)),.int .i64 0]) [])
 |_=>noC}
def qcmpC:Ctr:={ alias:=false,of:=fun l=>match l with
 | [.agg [.bool neg,.vs _ z1 n1 s1 g1,.vs _ z2 n2 s2 g2],.agg [.bool neg',.vs _ z1' n1' s1' g1',.vs _ z2' n2' s2' g2']]=> .ex Fr fun p=> .ex Fr fun q=>
     .pre (Yf8 p neg z1 n1 s1 g1 z2 n2 s2 g2/\Yf8 q neg' z1' n1' s1' g1' z2' n2' s2' g2') (.fin (.tup [.int .i64 (cmpQ p.1 p.2 q.1 q.2),.int .i64 0]) [])
 |_=>noC}
def qfloorC:Ctr:={ alias:=false,of:=fun l=>match l with
 | [.agg [.bool neg,.vs _ z1 n1 s1 g1,.vs _ z2 n2 s2 g2]]=> .ex Fr fun p=>
     .pre (Yf8 p neg z1 n1 s1 g1 z2 n2 s2 g2) (.fin (.tup [.bool (decide (p.1<0)),natS false (p.1/(p.2:Int)).natAbs,.int .i64 0]) [])
 |_=>noC}
def R6:Env:={ ct:=fun n=>match n with|88=>some badqC|89=>some lowestC|90=>some timesC|110=>some orderC|86=>some ofC|116=>some divideC|137=>some plusC|_=>none,fn:=fun _=>none,meth:=fun _ _=>none}
theorem YhG:R6.ct 88=some badqC:=rfl
theorem Yol:R6.ct 89=some lowestC:=rfl
theorem YkT:R6.ct 90=some timesC:=rfl
theorem YsG:R6.ct 110=some orderC:=rfl
theorem Yv1:R6.ct 86=some ofC:=rfl
theorem YsH:R6.ct 116=some divideC:=rfl
theorem YsI:R6.ct 137=some plusC:=rfl
theorem YsJ:Yu YE8 R6:=by
 refine⟨fun f c h=>?_,fun f vf h=>?_,(fun _ _ _ h=>by cases h),by kernel_rfl,(fun _ h=>by cases h)⟩
 ·simp only[R6]at h
  split at h
  ·cases h;exact⟨Ypj,Tryz.f88,Tryz.func88,by kernel_rfl,by kernel_rfl⟩
  ·cases h;exact⟨Yj8,Tryz.f89,Tryz.func89,by kernel_rfl,by kernel_rfl⟩
  ·cases h;exact⟨Ynw,Tryz.f90,Tryz.func90,by kernel_rfl,by kernel_rfl⟩
  ·cases h;exact⟨YbG,Tryz.f110,Tryz.func110,by kernel_rfl,by kernel_rfl⟩
  ·cases h;exact⟨Yt1,Tryz.f86,Tryz.func86,by kernel_rfl,by kernel_rfl⟩
  ·cases h;exact⟨YfZ,Tryz.f116,Tryz.func116,by kernel_rfl,by kernel_rfl⟩
  ·cases h;exact⟨Yra,Tryz.f137,Tryz.func137,by kernel_rfl,by kernel_rfl⟩
  ·cases h
 ·cases h
theorem Yyt:qmulC.ok YE8 55:=by
 refine Yb Tryz.func55 YEr YsJ 300 qmulC fun args k h=>?_
 simp only[qmulC]at h
 split at h
 ·rename_i neg t1 z1 n1 s1 g1 t2 z2 n2 s2 g2 neg' t1' z1' n1' s1' g1' t2' z2' n2' s2' g2'
  obtain⟨p,q,⟨hpp,hqq,hpq⟩,h⟩:=h
  refine⟨[.agg (encF false p),.agg (encF false q)],⟨Yii hpp,Yii hqq,trivial⟩,?_⟩
  have hp:=hpp.1
  have hq:=hqq.1
  clear hpp hqq
  (try dsimp only[v55,YhG,Yol,YkT,badqC,lowestC,timesC,natS,natV,encF,go_sem,reduceIte])
  simp only[Yd,YE5,YE3,reduceCtorEq,YE2,decide_true,decide_false,Bool.and_true,YGm,Bool.and_false,YGi,Bool.not_true,Bool.not_false,Bool.or_false,Bool.false_or,Bool.or_true,Bool.true_or,Bool.and_self,Bool.or_self,YFx,Bool.true_eq_false,false_imp_iff,forall_const,true_and,and_true,implies_true,reduceCtorEq,not_true_eq_false,not_false_eq_true,ite_true,ite_false]
  have⟨hp0,hp1,hp2⟩:=hp
  have⟨hq0,hq1,hq2⟩:=hq
  have m1:= @Yhm (rnum p.1 p.2) (rnum q.1 q.2)
  have m2:= @Yhm (rden p.1 p.2) (rden q.1 q.2)
  have hz:=q_mul hp0 hq0 (n1:=p.1) (n2:=q.1) rfl
  have hdp:0<rden p.1 p.2*rden q.1 q.2:=YF3 (YaO hp0) (YaO hq0)
  have hM:frOk (nsg (!(decide (p.1<0)==decide (q.1<0))) (rnum p.1 p.2*rnum q.1 q.2),rden p.1 p.2*rden q.1 q.2):=Yp6 (q:=(p.1*q.1,p.2*q.2)) hz hpq hdp
  refine⟨by decide,[p,q],⟨⟨rfl,rfl,fun k hk=>match k,hk with|0,_=>Yc _|1,_=>Yc _⟩,by simp,YqI hp hq⟩,rnum p.1 p.2,rnum q.1 q.2,⟨Ye (by omega),Ye (by omega),by omega⟩,rden p.1 p.2,rden q.1 q.2,⟨Ye (by omega),Ye (by omega),by omega⟩,
   rnum p.1 p.2*rnum q.1 q.2,rden p.1 p.2*rden q.1 q.2,⟨Ye (by omega),rfl,Ye (by omega),rfl,hdp,by omega,by omega,hM⟩,by decide,by decide,?_⟩
  have e:=Yp2 (t:=true) (p:=(nsg (!(decide (p.1<0)==decide (q.1<0))) (rnum p.1 p.2*rnum q.1 q.2),rden p.1 p.2*rden q.1 q.2)) (q:=(p.1*q.1,p.2*q.2)) hz
  have h:k (.tup [.agg (encF true (p.1*q.1,p.2*q.2)),.int .i64 0]) []:=h
  rw[<-e]at h
  exact YuN h
 ·exact h.1.elim
theorem Yys:qdivC.ok YE8 87:=by
 refine Yb Tryz.func87 YEP YsJ 300 qdivC fun args k h=>?_
 simp only[qdivC]at h
 split at h
 ·rename_i neg t1 z1 n1 s1 g1 t2 z2 n2 s2 g2 neg' t1' z1' n1' s1' g1' t2' z2' n2' s2' g2'
  obtain⟨p,q,⟨hpp,hqq,hn0,hpq⟩,h⟩:=h
  refine⟨[.agg (encF false p),.agg (encF false q)],⟨Yii hpp,Yii hqq,trivial⟩,?_⟩
  have hp:=hpp.1
  have hq:=hqq.1
  clear hpp hqq
  (try dsimp only[v87,YhG,Yol,YkT,badqC,lowestC,timesC,natS,natV,encF,go_sem,reduceIte])
  simp only[Yd,YE5,YE3,reduceCtorEq,YE2,decide_true,decide_false,Bool.and_true,YGm,Bool.and_false,YGi,Bool.not_true,Bool.not_false,Bool.or_false,Bool.false_or,Bool.or_true,Bool.true_or,Bool.and_self,Bool.or_self,YFx,Bool.true_eq_false,false_imp_iff,forall_const,true_and,and_true,implies_true,reduceCtorEq,not_true_eq_false,not_false_eq_true,ite_true,ite_false]
  have⟨hp0,hp1,hp2⟩:=hp
  have⟨hq0,hq1,hq2⟩:=hq
  have m1:= @Yhm (rnum p.1 p.2) (rden q.1 q.2)
  have m2:= @Yhm (rden p.1 p.2) (rnum q.1 q.2)
  have hz:=q_div hp0 hq0 hn0 (n1:=p.1) (n2:=q.1) rfl
  have hrn:0<rnum q.1 q.2:=Nat.pos_of_ne_zero fun hh=>hn0 ((Yhu hq0).1 hh)
  have hdp:0<rden p.1 p.2*rnum q.1 q.2:=YF3 (YaO hp0) hrn
  have hrl:=nl_pos.2 hrn
  refine⟨by decide,[p,q],⟨⟨rfl,rfl,fun k hk=>match k,hk with|0,_=>Yc _|1,_=>Yc _⟩,by simp,YqI hp hq⟩,?_⟩
  have hM:frOk (nsg (!(decide (p.1<0)==decide (q.1<0))) (rnum p.1 p.2*rden q.1 q.2),rden p.1 p.2*rnum q.1 q.2):=Yp6 (q:=divF p q) hz hpq hdp
  refine⟨fun hh=>by omega,fun _=>⟨rnum p.1 p.2,rden q.1 q.2,⟨Ye (by omega),Ye (by omega),by omega⟩,rden p.1 p.2,rnum q.1 q.2,⟨Ye (by omega),Ye (by omega),by omega⟩,
   rnum p.1 p.2*rden q.1 q.2,rden p.1 p.2*rnum q.1 q.2,⟨Ye (by omega),rfl,Ye (by omega),rfl,hdp,by omega,by omega,hM⟩,by decide,by decide,?_⟩⟩
  have e:=Yp2 (t:=true) (p:=(nsg (!(decide (p.1<0)==decide (q.1<0))) (rnum p.1 p.2*rden q.1 q.2),rden p.1 p.2*rnum q.1 q.2)) (q:=divF p q) hz
  have h:k (.tup [.agg (encF true (divF p q)),.int .i64 0]) []:=h
  rw[<-e]at h
  exact YuN h
 ·exact h.1.elim
theorem Yyr:qcmpC.ok YE8 83:=by
 refine Yb Tryz.func83 YEL YsJ 300 qcmpC fun args k h=>?_
 simp only[qcmpC]at h
 split at h
 ·rename_i neg t1 z1 n1 s1 g1 t2 z2 n2 s2 g2 neg' t1' z1' n1' s1' g1' t2' z2' n2' s2' g2'
  obtain⟨p,q,⟨hpp,hqq⟩,h⟩:=h
  refine⟨[.agg (encF false p),.agg (encF false q)],⟨Yii hpp,Yii hqq,trivial⟩,?_⟩
  have hp:=hpp.1
  have hq:=hqq.1
  clear hpp hqq
  (try dsimp only[v83,YhG,YsG,YkT,badqC,orderC,timesC,natS,natV,encF,go_sem,reduceIte])
  simp only[Yd,YE5,YE3,reduceCtorEq,YE2,decide_true,decide_false,Bool.and_true,YGm,Bool.and_false,YGi,Bool.not_true,Bool.not_false,Bool.or_false,Bool.false_or,Bool.or_true,Bool.true_or,Bool.and_self,Bool.or_self,YFx,Bool.true_eq_false,false_imp_iff,forall_const,true_and,and_true,implies_true,reduceCtorEq,not_true_eq_false,not_false_eq_true,ite_true,ite_false]
  have⟨hp0,hp1,hp2⟩:=hp
  have⟨hq0,hq1,hq2⟩:=hq
  have m1:= @Yhm (rnum p.1 p.2) (rden q.1 q.2)
  have m2:= @Yhm (rnum q.1 q.2) (rden p.1 p.2)
  refine⟨by decide,[p,q],⟨⟨rfl,rfl,fun k hk=>match k,hk with|0,_=>Yc _|1,_=>Yc _⟩,by simp,YqI hp hq⟩,rnum p.1 p.2,rden q.1 q.2,⟨Ye (by omega),Ye (by omega),by omega⟩,rnum q.1 q.2,rden p.1 p.2,⟨Ye (by omega),Ye (by omega),by omega⟩,rnum p.1 p.2*rden q.1 q.2,rnum q.1 q.2*rden p.1 p.2,⟨Ye (by omega),Ye (by omega)⟩,?_⟩
  have e:=q_cmp hp0 hq0 (n1:=p.1) (n2:=q.1)
  have h:k (.tup [.int .i64 (cmpQ p.1 p.2 q.1 q.2),.int .i64 0]) []:=h
  rw[e]at h
  have ho:=Yt2 (rnum p.1 p.2*rden q.1 q.2) (rnum q.1 q.2*rden p.1 p.2)
  refine⟨fun hc=>?_,fun hc=>⟨fun hd=>?_,fun hd=>⟨fun he=>?_,fun he=>?_⟩⟩⟩
  ·rw[YFd,decide_eq_true_eq,decide_eq_true_eq]at hc
   rw[if_pos hc]at h
   rw[YE7 _ (by omega),Int.zero_sub]
   exact Ycv h
  ·rw[YFZ,decide_eq_false_iff_not,decide_eq_false_iff_not]at hc
   rw[if_neg (by omega),if_pos hd]at h
   exact Ycv h
  ·rw[if_neg (by omega),if_neg hd,if_pos he]at h
   exact Ycv h
  ·rw[if_neg (by omega),if_neg hd,if_neg he]at h
   exact Ycv h
 ·exact h.1.elim
theorem Yro:qfloorC.ok YE8 111:=by
 refine Yb Tryz.func111 Yzu YsJ 300 qfloorC fun args k h=>?_
 simp only[qfloorC]at h
 split at h
 ·rename_i neg t1 z1 n1 s1 g1 t2 z2 n2 s2 g2
  obtain⟨p,hpp,h⟩:=h
  refine⟨[.agg (encF false p)],⟨Yii hpp,trivial⟩,?_⟩
  have hp:=hpp.1
  clear hpp
  (try dsimp only[v111,YhG,YsH,YsI,Yv1,badqC,divideC,plusC,ofC,natS,natV,encF,go_sem,reduceIte])
  simp only[Yd,YE5,YE3,reduceCtorEq,YE2,decide_true,decide_false,Bool.and_true,YGm,Bool.and_false,YGi,Bool.not_true,Bool.not_false,Bool.or_false,Bool.false_or,Bool.or_true,Bool.true_or,Bool.and_self,Bool.or_self,YFx,Bool.true_eq_false,false_imp_iff,forall_const,true_and,and_true,implies_true,reduceCtorEq,not_true_eq_false,not_false_eq_true,ite_true,ite_false]
  have⟨hp0,hp1,hp2⟩:=hp
  refine⟨by decide,[p],⟨⟨rfl,rfl,fun k hk=>match k,hk with|0,_=>Yc _⟩,by simp,list1 hp⟩,rnum p.1 p.2,rden p.1 p.2,⟨Ye (by omega),rfl,Ye (by omega),YaO hp0,by omega,by omega⟩,?_⟩
  have hdl:=YaO (n:=p.1) hp0
  have e:=congrArg Int.natAbs (Yyq (n:=p.1) hp0)
  rw[Ygj]at e
  have h:k (.tup [.bool (decide (p.1<0)),natS false (p.1/(p.2:Int)).natAbs,.int .i64 0]) []:=h
  rw[e]at h
  have hdv:nl (rnum p.1 p.2/rden p.1 p.2)<=512:=YFa (Ybu (YGd _ _)) hp1
  have hb:decide (0<(nl (rnum p.1 p.2%rden p.1 p.2):Int))=decide (rnum p.1 p.2%rden p.1 p.2≠0):=by
   congr 1
   have:=nl_eq0 (a:=rnum p.1 p.2%rden p.1 p.2)
   exact propext (by omega)
  rw[hb]
  have hfin:∀x:Nat,k (.tup [.bool (decide (p.1<0)),natS false x,.int .i64 0]) []->∀hp,YK qfloorC.alias k (.tup [.bool (decide (p.1<0)),.vs true false (nl x) 1 (fun k=>[.int .u32 (dig x k)]),.int .i64 0]) hp:=fun x hk hp=>
   YE (show k _ []from hk) (YB (.tup [.bool (decide (p.1<0)),natS false x,.int .i64 0]) ⟨trivial,trivial,trivial,trivial⟩) (fun _=>by simp [natS,Yt,Ys])
  refine⟨by decide,by decide,fun hc=>⟨by decide,rnum p.1 p.2/rden p.1 p.2,1,⟨Ye (by omega),Ye (by decide),by omega,by decide⟩,hfin _ ?_ _⟩,fun hc=>hfin _ ?_ _⟩
  ·rw[YmL,if_pos hc]at h;exact h
  ·rw[YmL,if_neg (by rw[hc];simp)]at h;exact h
 ·exact h.1.elim
def v112:VF:=⟨24,[.tmp 2,.tmp 3],(ZR [u1 2 .mov [.cn (.int .u64 0)],Zi 3 0] (ZR [Zm 5 0,u1 6 (.buildSlice 1 1 [.nil] [(0,1)]) [.tm 5],Zc 7 138 6,Zm 4 7] (.seq (ZR [Zm 8 4,Zq 9 .eql 8 0,Zm 10 9,Zg 11 10 true 0,u2 12 10 true .len [.tm 11],u2 13 10 true (.cmp .gtr) [.tm 12,.cn (.int .i64 2)],u1 14 .and [.tm 10,.tm 13]] (ZC 14 (.region [Zi 4 7]) .skip)) (.seq (ZR [Zm 15 4,Zq 16 .neq 15 0] (ZC 16 (ZR [Zm 17 4,u1 2 .mov [.cn (.int .u64 0)],Zm 3 17] .ret) .skip)) (ZR [Zm 18 0,u1 19 (.call 117) [.tm 18,.cn (.int .i64 1)],u1 20 (.ari .mul) [.tm 19,.cn (.int .u64 4294967296)],Zm 21 0,u1 22 (.call 117) [.tm 21,.cn (.int .i64 0)],Zo 23 .add 20 22,Zm 2 23,Zi 3 0] .ret)))))⟩
theorem Yzv:Yg YE8 Tryz.f112=some v112:=by kernel_rfl
def v138:VF:=⟨29,[.tmp 2],(ZR [Zi 2 0] (.seq (ZR [Zi 3 0] (.block 0 (.loop (.seq (ZR [Zm 5 3,Zm 6 0,Zl 7 6,Zr 8 .lss 5 7] (ZC 8 .skip (.exit 0))) (.seq (.block 1 (ZR [Zm 11 0,Zm 12 3,Zx 13 1 11 12,Zf 14 1 13,Zl 15 14,Zq 16 .gtr 15 512] (ZC 16 (ZR [Zi 2 3] .ret) .skip))) (.region [Zm 9 3,Zp 10 9 1,Zm 3 10])))))) (.seq (ZR [Zi 4 0] (.block 2 (.loop (.seq (ZR [Zm 17 4,Zm 18 0,Zl 19 18,Zr 20 .lss 17 19] (ZC 20 .skip (.exit 2))) (.seq (.block 3 (ZR [Zm 23 0,Zm 24 4,Zx 25 1 23 24,Zf 26 1 25,Zc 27 139 26,u1 28 .not [.tm 27]] (ZC 28 (ZR [Zi 2 2] .ret) .skip))) (.region [Zm 21 4,Zp 22 21 1,Zm 4 22])))))) (ZR [Zi 2 0] .ret))))⟩
theorem YzP:Yg YE8 Tryz.f138=some v138:=by kernel_rfl
theorem ord_ge{a b:Nat}:0<=ordN a b↔b<=a:=by unfold ordN;split <;> (try split) <;> omega
def YgF(p:Fr):Fr:=(-p.1,p.2)
def encN(p:Bool×Nat):List SV:=[natV false p.1 p.2]
def badnC:Ctr:={ alias:=false,of:=fun l=>match l with
 | [.vs _ _ n sz get]=> .ex (List (Bool×Nat)) fun l=> .pre (lsP 1 encN n sz get l/\l.length<=1000/\∀p∈l,nl p.2<=512) (.fin (.int .i64 0) [])
 |_=>noC}
def smallC:Ctr:={ alias:=false,of:=fun l=>match l with
 | [.vs _ z n sz get]=> .ex Nat fun a=> .pre (padP a n sz get/\n=nl a/\n<=512) (.fin (.tup [.int .u64 (if a<18446744073709551616 then(a:Int)else 0),.int .i64 (if a<18446744073709551616 then 0 else 7)]) [])
 |_=>noC}
def R7:Env:={ ct:=fun n=>match n with|88=>some badqC|89=>some lowestC|90=>some timesC|110=>some orderC|137=>some plusC|143=>some minusC|139=>some validC|_=>none,fn:=fun _=>none,meth:=fun _ _=>none}
theorem YsK:R7.ct 139=some validC:=rfl
theorem R7_ok:Yu YE8 R7:=by
 refine⟨fun f c h=>?_,fun f vf h=>?_,(fun _ _ _ h=>by cases h),by kernel_rfl,(fun _ h=>by cases h)⟩
 ·simp only[R7]at h
  split at h
  ·cases h;exact⟨Ypj,Tryz.f88,Tryz.func88,by kernel_rfl,by kernel_rfl⟩
  ·cases h;exact⟨Yj8,Tryz.f89,Tryz.func89,by kernel_rfl,by kernel_rfl⟩
  ·cases h;exact⟨Ynw,Tryz.f90,Tryz.func90,by kernel_rfl,by kernel_rfl⟩
  ·cases h;exact⟨YbG,Tryz.f110,Tryz.func110,by kernel_rfl,by kernel_rfl⟩
  ·cases h;exact⟨Yra,Tryz.f137,Tryz.func137,by kernel_rfl,by kernel_rfl⟩
  ·cases h;exact⟨YmX,Tryz.f143,Tryz.func143,by kernel_rfl,by kernel_rfl⟩
  ·cases h;exact⟨Yeq,Tryz.f139,Tryz.func139,by kernel_rfl,by kernel_rfl⟩
  ·cases h
 ·cases h
theorem YlC{p:Fr}(hp:0<p.2):rnum (YgF p).1 (YgF p).2=rnum p.1 p.2/\rden (YgF p).1 (YgF p).2=rden p.1 p.2/\(!decide (p.1<0)&&decide (0<(nl (rnum p.1 p.2):Int)))=decide ((YgF p).1<0):=by
 have e:(YgF p).1.natAbs=p.1.natAbs:=Int.natAbs_neg _
 refine⟨by unfold rnum fg;rw[e];rfl,by unfold rden fg;rw[e];rfl,?_⟩
 have h1:=Yhu (n:=p.1) hp
 have h2:=nl_eq0 (a:=rnum p.1 p.2)
 have h3:(YgF p).1= -p.1:=rfl
 rw[h3,Bool.eq_iff_iff,YFd,YFI,decide_eq_false_iff_not,decide_eq_true_eq,decide_eq_true_eq]
 omega
theorem Yzg{p:Fr}(h:frOk p):frOk (YgF p):=⟨h.1,by rw[(YlC h.1).1];exact h.2.1,by rw[(YlC h.1).2.1];exact h.2.2⟩
theorem YAY:badnC.ok YE8 138:=by
 refine Yb Tryz.func138 YzP R7_ok 300 badnC fun args k h=>?_
 simp only[badnC]at h
 split at h
 ·rename_i tt z n sz get
  obtain⟨l,⟨⟨rfl,rfl,hg⟩,hmax,hok⟩,h⟩:=h
  refine⟨[.vs tt z l.length 1 (fun k=>encN (l.getD k default))],by simpa [leL,le]using hg,?_⟩
  (try dsimp only[v138,go_sem,reduceIte])
  (try simp only[Yd,YE5,YE3,reduceCtorEq,YE2])
  refine Loop.keep [0,2] Nat (fun i=>[(3,.int .i64 i)]) (fun _=>[]) [] (fun i=>i<=l.length) (fun i=>l.length-i) ?_ ?_
  ·refine⟨0,by omega,?_⟩
   (try dsimp only[go_sem,reduceIte])
   simp only[Ya] <;> simp
  ·rintro i hi
   (try dsimp only[encN,natV,YE4,go_sem,reduceIte])
   (try simp only[Yd,YE5,YE3,reduceCtorEq,YE2])
   refine⟨fun hlt=>?_,fun hge=>?_⟩
   ·have hl1:=hok _ (Yl (by omega:i<l.length))
    refine⟨⟨by omega,by omega⟩,fun hb=>by omega,fun _=>⟨i+1,by omega,by omega,?_⟩⟩
    rw[Yes (n:=l.length) (by omega) (by omega)]
    simp only[Ya] <;> simp
   ·refine Loop.keep [0,3] Nat (fun i=>[(4,.int .i64 i)]) (fun _=>[]) [] (fun i=>i<=l.length) (fun i=>l.length-i) ?_ ?_
    ·refine⟨0,by omega,?_⟩
     (try dsimp only[go_sem,reduceIte])
     simp only[Ya] <;> simp
    ·rintro i hi
     (try dsimp only[YsK,validC,encN,natV,YE4,go_sem,reduceIte])
     (try simp only[Yd,YE5,YE3,reduceCtorEq,YE2])
     refine⟨fun hlt=>?_,fun hge=>Yh h⟩
     have hl1:=hok _ (Yl (by omega:i<l.length))
     refine⟨⟨by omega,by omega⟩,(l.getD i default).2,Ye (by omega),fun hb=>?_,fun _=>⟨i+1,by omega,by omega,?_⟩⟩
     ·rw[decide_eq_true hl1]at hb;simp at hb
     ·rw[Yes (n:=l.length) (by omega) (by omega)]
      simp only[Ya] <;> simp
 ·exact h.1.elim
def R8:Env:={ ct:=fun n=>match n with|138=>some badnC|117=>some limbC|_=>none,fn:=fun _=>none,meth:=fun _ _=>none}
theorem YsM:R8.ct 138=some badnC:=rfl
theorem YsL:R8.ct 117=some limbC:=rfl
theorem R8_ok:Yu YE8 R8:=by
 refine⟨fun f c h=>?_,fun f vf h=>?_,(fun _ _ _ h=>by cases h),by kernel_rfl,(fun _ h=>by cases h)⟩
 ·simp only[R8]at h
  split at h
  ·cases h;exact⟨YAY,Tryz.f138,Tryz.func138,by kernel_rfl,by kernel_rfl⟩
  ·cases h;exact⟨YqH,Tryz.f117,Tryz.func117,by kernel_rfl,by kernel_rfl⟩
  ·cases h
 ·cases h
theorem Yup:smallC.ok YE8 112:=by
 refine Yb Tryz.func112 Yzv R8_ok 300 smallC fun args k h=>?_
 simp only[smallC]at h
 split at h
 ·rename_i t1 z1 n sz get
  obtain⟨a,⟨⟨rfl,hn,ha,hg⟩,rfl,hn5⟩,h⟩:=h
  refine⟨[.vs t1 z1 (nl a) 1 (fun k=>[.int .u32 (dig a k)])],by simpa [leL,le]using hg,?_⟩
  (try dsimp only[v112,YsM,badnC,YsL,limbC,go_sem,reduceIte])
  simp only[Yd,YE5,YE3,reduceCtorEq,YE2,decide_true,decide_false,Bool.and_true,YGm,Bool.and_false,YGi,Bool.not_true,Bool.not_false,Bool.or_false,Bool.false_or,Bool.or_true,Bool.true_or,Bool.and_self,Bool.or_self,YFx,Bool.true_eq_false,false_imp_iff,forall_const,true_and,and_true,implies_true,reduceCtorEq,not_true_eq_false,not_false_eq_true,ite_true,ite_false]
  have h2:nl a<=2↔a<18446744073709551616:=nl_le (n:=2)
  refine⟨by decide,[(z1,a)],⟨⟨rfl,rfl,fun k hk=>match k,hk with|0,_=>Yc _⟩,by simp,by simp;exact hn5⟩,fun hc=>⟨fun _=>?_,(fun hh=>by omega)⟩,fun hc=>?_⟩
  ·rw[if_neg (by omega),if_neg (by omega)]at h
   exact Ycv h
  ·rw[if_pos (by omega),if_pos (by omega)]at h
   refine⟨a,⟨Ye (by omega),by decide⟩,a,⟨Ye (by omega),by decide⟩,?_⟩
   have e0:dig a (YGq 0)=a%4294967296:=Yk7 a
   have e1:dig a (YGq 1)=a/4294967296:=by
    show dig a 1=_
    rw[Yfl,Yk7];omega
   have e2:IntKind.u64.wrap (IntKind.u64.wrap (((dig a (YGq 1):Nat):Int)*4294967296)+((dig a (YGq 0):Nat):Int))=(a:Int):=by
    rw[e0,e1,YFN (((a/4294967296:Nat):Int)*4294967296) (by omega),YFN _ (by omega)];omega
   rw[e2]
   exact Ycv h
 ·exact h.1.elim
end Go.Proofs.YtmiclogmkfobgaaGreat
