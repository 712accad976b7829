/- Lengths, walked: Correction, the example (by the exact speed of sound). -/
import Derived.Test.YtijadllhfgajlaaGreatMgX3f
import Derived.Test.YtijadllhfgajlaaGreatMgX3r
import Derived.Test.YtijadllhfgajlaaGreatMgX3c
import Derived.Test.YtijadllhfgajlaaGreatMgX3d
import Derived.Test.YtijadllhfgajlaaGreatProg
import Derived.Test.YtijadllhfgajlaaGreatMgX3q
open Bool renaming and_eq_false_iff->YG9,and_eq_true->YGA,eq_iff_iff->YHK,false_and->YHx,false_eq_true->YGM,false_or->YHv,not_eq_true'->YGP,or_eq_false_iff->YHA,or_eq_true->YHd,true_and->YHn
open Int renaming eq_ofNat_of_zero_le->YGT,mul_le_mul_of_nonneg_right->YGS,toNat_natCast->YGv,toNat_zero->YHJ
open Go.IntWalk renaming i64_in->YGy,u64_in->YGR,up_tdiv->YHq,up_tmod->YHR
open List renaming getD_eq_getElem?_getD->YGB,getElem?_append_left->YG4,getElem?_append_right->YHh,length_append->YHo,length_cons->YHF,length_take->YHi,mem_append->YG2,mem_cons->YGQ,mem_cons_of_mem->YGK,mem_cons_self->YGI,mem_singleton->YHa,take_length->YHm
open Nat renaming add_mul->YG8,add_zero->YHw,div_add_mod->YG3,div_div_eq_div_mul->YGL,div_eq_of_lt->YHs,div_le_self->YHr,div_lt_iff_lt_mul->YGY,eq_zero_or_pos->YG7,gcd->YHO,le_of_eq->YHM,le_of_lt->YHp,le_refl->YGH,le_trans->YGF,lt_of_le_of_lt->YGU,lt_of_lt_of_le->YG1,lt_or_ge->YGN,mod_eq_of_lt->YHb,mod_lt->YG0,mul_add->YHy,mul_assoc->YGE,mul_comm->YGC,mul_le_mul->YGX,mul_le_mul_left->YGO,mul_le_mul_right->YGD,mul_left_comm->YHc,not_lt_zero->YHH,one_mul->YHz,pow_add->YGJ,pow_le_pow_right->YGG,pow_lt_pow_right->YHu,pow_mul->YHj,pow_succ->YGZ,reduceAdd->YGu,reduceEqDiff->YGs,reduceLeDiff->YGt,reduceMul->YHI,succ_mul->YHN,zero_add->YHC,zero_le->YHl
open Or renaming inr->YHT
open Go.Proofs.Tryz renaming prog->YGw
set_option linter.all false
namespace Go.Proofs.YtijadllhfgajlaaGreat
open Go Go.Vx
set_option maxRecDepth 100000
set_option maxHeartbeats 4000000
def v5:VF:=⟨20,[.cell 2 true 2,.cell 3 true 2,.tmp 4],(ZR [u1 1 .box [.tm 0],Zn 2,Zn 3,Zi 4 0] (.seq (ZR [Zt 6 5 1,Zc 7 7 6,Zm 5 7] (ZR [Zm 8 5,Zq 9 .neq 8 0] (ZC 9 (ZR [u1 10 (.build [(.int .i64 0),(.int .i64 0)] []) [],u1 11 (.build [(.int .i64 0),(.int .i64 0)] []) [],Zm 12 5,Zs 2 2 10,Zs 2 3 11,Zm 4 12] .ret) .skip))) (ZR [Zt 14 5 1,Zc 15 18 14,Zm 13 15,Ze 16 0 13,Ze 17 1 13,Zs 2 2 16,Zs 2 3 17] (.seq (.draw [] [Zw 18 2 2,Zw 19 2 3,⟨Zs 2 2 18,[.tm 3]⟩,ZS 2 3 19,w1 4 .mov [.cn (.int .i64 0)]]) .ret))))⟩
theorem v5_is:Yf YGw Tryz.f5=some v5:=by kernel_rfl
def v15:VF:=⟨73,[.tmp 0],(ZR [u1 0 .mov [.cn (.bool false)]] (ZR [u1 11 (.call 35) [],Zc 12 5 11,Zm 10 12,Ze 13 0 10,Ze 14 1 10,Ze 15 2 10,Zn 1,Zn 2,Zs 2 1 13,Zs 2 2 14,Zm 3 15] (ZR [u1 17 (.call 35) [],u1 18 (.call 36) [.cn (.int .i64 440000)],u1 19 (.call 9) [.tm 17,.tm 18,.cn (.int .i64 0)],Zm 16 19,Ze 20 0 16,Ze 21 1 16,Zn 4,Zs 2 4 20,Zm 5 21] (ZR [u1 23 (.call 35) [],u1 24 (.call 36) [.cn (.int .i64 289270)],u1 25 (.call 11) [.tm 23,.tm 24,.cn (.int .i64 0)],Zm 22 25,Ze 26 0 22,Ze 27 1 22,Zn 6,Zs 2 6 26,Zm 7 27] (ZR [u1 29 (.call 35) [],u1 30 (.call 36) [.cn (.int .i64 20000000)],u1 31 (.call 9) [.tm 29,.tm 30,.cn (.int .i64 0)],Zm 28 31,Ze 32 0 28,Ze 33 1 28,Zn 8,Zs 2 8 32,Zm 9 33] (.seq (.draw [] [Zu 34 3,w1 35 (.cmp .eql) [.tm 34,.cn (.int .i64 0)],Zu 36 35,⟨Zg 37 36 true 5,[]⟩,⟨u2 38 36 true (.cmp .eql) [.tm 37,.cn (.int .i64 0)],[]⟩,w1 39 .and [.tm 36,.tm 38],Zu 40 39,⟨Zg 41 40 true 7,[]⟩,⟨u2 42 40 true (.cmp .eql) [.tm 41,.cn (.int .i64 0)],[]⟩,w1 43 .and [.tm 40,.tm 42],Zu 44 43,⟨Zg 45 44 true 9,[]⟩,⟨u2 46 44 true (.cmp .eql) [.tm 45,.cn (.int .i64 7)],[]⟩,w1 47 .and [.tm 44,.tm 46],Zu 48 47,⟨u2 49 48 true (.load true 2) [.tm 1],[]⟩,⟨u2 50 48 true (.call 36) [.cn (.int .i64 71875)],[]⟩,⟨u2 51 48 true (.eqv false [true,true]) [.tm 49,.tm 50],[]⟩,w1 52 .and [.tm 48,.tm 51],Zu 53 52,⟨u2 54 53 true (.load true 2) [.tm 2],[]⟩,⟨u2 55 53 true (.build [(.int .i64 0),(.int .i64 0)] [(0,1),(1,1)]) [.cn (.int .i64 15332),.cn (.int .i64 15333)],[]⟩,⟨u2 56 53 true (.eqv false [true,true]) [.tm 54,.tm 55],[]⟩,w1 57 .and [.tm 53,.tm 56],Zu 58 57,⟨u2 59 58 true (.load true 2) [.tm 4],[]⟩,⟨u2 60 58 true (.build [(.int .i64 0),(.int .i64 0)] [(0,1),(1,1)]) [.cn (.int .i64 289269),.cn (.int .i64 289271)],[]⟩,⟨u2 61 58 true (.eqv false [true,true]) [.tm 59,.tm 60],[]⟩,w1 62 .and [.tm 58,.tm 61],Zu 63 62,⟨Zj 64 63 true 0 6,[]⟩,⟨Zh 65 63 true 1 64,[]⟩,⟨u2 66 63 true (.cmp .leq) [.tm 65,.cn (.int .i64 440000)],[]⟩,w1 67 .and [.tm 63,.tm 66],Zu 68 67,⟨Zj 69 68 true 1 6,[]⟩,⟨Zh 70 68 true 1 69,[]⟩,⟨u2 71 68 true (.cmp .geq) [.tm 70,.cn (.int .i64 440000)],[]⟩,w1 72 .and [.tm 68,.tm 71],Zu 0 72]) .ret))))))⟩
theorem YFl:Yf YGw Tryz.f15=some v15:=by kernel_rfl
def v35:VF:=⟨2,[.cell 0 true 5],(ZR [u1 0 (.alloc [(.int .i64 0),(.int .i64 0),(.int .i64 0),(.int .i64 0),(.int .i64 0)]) []] (ZR [u1 1 (.build [(.int .i64 0),(.int .i64 0),(.int .i64 0),(.int .i64 0),(.int .i64 0)] [(0,1),(1,1),(2,1),(3,1),(4,1)]) [.cn (.int .i64 1),.cn (.int .i64 50000),.cn (.int .i64 50000),.cn (.int .i64 40000),.cn (.int .i64 10000)],Zs 5 0 1] .ret))⟩
theorem YFC:Yf YGw Tryz.f35=some v35:=by kernel_rfl
def v36:VF:=⟨6,[.cell 2 true 2],(ZR [Zn 2] (ZR [Zm 3 0,Zm 4 0,u1 5 (.build [(.int .i64 0),(.int .i64 0)] [(0,1),(1,1)]) [.tm 3,.tm 4],Zs 2 2 5] .ret))⟩
theorem YFD:Yf YGw Tryz.f36=some v36:=by kernel_rfl
def crsC:Ctr:={ alias:=false,of:=fun l=>match l with
 | [.agg [.int .i64 a,.int .i64 b,.int .i64 c,.int .i64 d,.int .i64 e]]=>
   if chkB ⟨a,b,c,d,e⟩=0 then .fin (.tup [.agg (enc2 (YcY ⟨a,b,c,d,e⟩)),.agg (enc2 (endF ⟨a,b,c,d,e⟩)),.int .i64 0]) []
   else .fin (.tup [.agg (enc2 (0,0)),.agg (enc2 (0,0)),.int .i64 (chkB ⟨a,b,c,d,e⟩)]) []
 |_=>noC}
theorem Yev{k:SV->List HO->Prop}{al:Bool}{hp:List HO}{p q:Iv}{e:Int}(h:k (.tup [.agg (enc2 p),.agg (enc2 q),.int .i64 e]) []):YI al k (.tup [.agg [.int .i64 p.1,.int .i64 p.2],.agg [.int .i64 q.1,.int .i64 q.2],.int .i64 e]) hp:=
 YE (show k _ []from h) (Yy (.tup [.agg [.int .i64 p.1,.int .i64 p.2],.agg [.int .i64 q.1,.int .i64 q.2],.int .i64 e]) ⟨⟨trivial,trivial,trivial⟩,⟨trivial,trivial,trivial⟩,trivial,trivial⟩) (fun _=>by simp [enc2,Yl,Yo])
def L5:Env:={ ct:=fun n=>match n with|7=>some chkBC|18=>some corC|_=>none,fn:=fun _=>none,meth:=fun _ _=>none}
theorem YCc:L5.ct 7=some chkBC:=rfl
theorem Yw6:L5.ct 18=some corC:=rfl
theorem L5_ok:Yq YGw L5:=by
 refine⟨fun f c h=>?_,fun f vf h=>?_,(fun _ _ _ h=>by cases h),by kernel_rfl,(fun _ h=>by cases h)⟩
 . simp only[L5]at h
   split at h
   . cases h;exact⟨Yqy,Tryz.f7,Tryz.func7,by kernel_rfl,by kernel_rfl⟩
   . cases h;exact⟨YC2,Tryz.f18,Tryz.func18,by kernel_rfl,by kernel_rfl⟩
   . cases h
 . cases h
theorem YC4:crsC.ok YGw 5:=by
 refine Yb Tryz.func5 v5_is L5_ok 200 crsC fun args k h=>?_
 simp only[crsC]at h
 split at h
 . rename_i a b c d e
   refine⟨[.agg [.int .i64 a,.int .i64 b,.int .i64 c,.int .i64 d,.int .i64 e]],by simp [leL,le],?_⟩
   dsimp only[v5,YCc,Yw6,chkBC,corC,enc2,go_sem,reduceIte]
   simp only[Yd,YGu,YGt,reduceCtorEq,YGs]
   refine⟨fun hc=>?_,fun hc=>⟨hc,by decide,by decide,?_⟩⟩
   . rw[if_neg hc]at h;exact Yev (p:=(0,0)) (q:=(0,0)) h
   . rw[if_pos hc]at h
     exact Yev h
 . exact h.1.elim
def nivC:Ctr:={ alias:=false,of:=fun l=>match l with
 | [.int .i64 n]=> .fin (.agg [.int .i64 n,.int .i64 n]) []
 |_=> .pre False (.fin (.agg [.int .i64 0,.int .i64 0]) [])}
def L60:Env:={ ct:=fun _=>none,fn:=fun _=>none,meth:=fun _ _=>none}
theorem YCd:Yq YGw L60:=by
 refine⟨fun f c h=>?_,fun f vf h=>?_,(fun _ _ _ h=>by cases h),by kernel_rfl,(fun _ h=>by cases h)⟩
 . cases h
 . cases h
theorem niv_c:nivC.ok YGw 36:=by
 refine Yb Tryz.func36 YFD YCd 100 nivC fun args k h=>?_
 simp only[nivC]at h
 split at h
 . rename_i n
   refine⟨[.int .i64 n],by simp [leL,le],?_⟩
   dsimp only[v36,go_sem,reduceIte]
   simp only[Yd,YGu,YGt,reduceCtorEq,YGs]
   exact YiX h
 . exact h.1.elim
def L6:Env:={ ct:=fun n=>match n with|36=>some nivC|5=>some crsC|9=>some lenC|11=>some pitC|_=>none,fn:=fun n=>match n with|35=>some v35|_=>none,meth:=fun _ _=>none}
theorem Ype:L6.ct 36=some nivC:=rfl
theorem YvV:L6.ct 5=some crsC:=rfl
theorem YvW:L6.ct 9=some lenC:=rfl
theorem Ypc:L6.ct 11=some pitC:=rfl
theorem Ypd:L6.ct 35=none:=rfl
theorem Ypf:L6.fn 35=some v35:=rfl
theorem L6_ok:Yq YGw L6:=by
 refine⟨fun f c h=>?_,fun f vf h=>?_,(fun _ _ _ h=>by cases h),by kernel_rfl,(fun _ h=>by cases h)⟩
 . simp only[L6]at h
   split at h
   . cases h;exact⟨niv_c,Tryz.f36,Tryz.func36,by kernel_rfl,by kernel_rfl⟩
   . cases h;exact⟨YC4,Tryz.f5,Tryz.func5,by kernel_rfl,by kernel_rfl⟩
   . cases h;exact⟨Yzb,Tryz.f9,Tryz.func9,by kernel_rfl,by kernel_rfl⟩
   . cases h;exact⟨YD0,Tryz.f11,Tryz.func11,by kernel_rfl,by kernel_rfl⟩
   . cases h
 . simp only[L6]at h
   split at h
   . cases h;exact⟨Tryz.f35,Tryz.func35,YFC,Tryz.f35,Tryz.func35,by kernel_rfl,by kernel_rfl⟩
   . cases h
theorem Yyz:chkB { kind:=1,bottom:=50000,top:=50000,mouth:=40000,cut:=10000}=0:=Yv7
theorem YAk:trueC.ok YGw 15:=by
 refine Yb Tryz.func15 YFl L6_ok 400 trueC fun args k h=>?_
 simp only[trueC]at h
 split at h
 . refine⟨[],by simp [leL,le],?_⟩
   dsimp only[v15,YvV,YvW,Ypc,crsC,lenC,pitC,enc2,Ypd,Ypf,v35,Ype,nivC,go_sem,reduceIte]
   simp only[Yd,YGu,YGt,reduceCtorEq,YGs]
   simp only[if_pos Yyz]
   (try dsimp only[v15,YvV,YvW,Ypc,crsC,lenC,pitC,enc2,Ypd,Ypf,v35,Ype,nivC,go_sem,reduceIte]);(try simp only[Yd,YGu,YGt,reduceCtorEq,YGs])
   refine⟨by decide,by decide,by decide,by decide,by decide,by decide,by decide,by decide,by decide,?_⟩
   obtain⟨c1,c2⟩:=ex_cor
   have l1:=YC9
   have l2:=YyA
   obtain⟨p1,p2,p3⟩:=YDa
   unfold exB at c1 c2 l1 l2 p1 p2 p3
   rw[l2,p1,l1,c1,c2,decide_eq_true p2,decide_eq_true p3]
   exact YW h
 . exact h.1.elim
def shB:List Sh:=[.int .i64,.int .i64,.int .i64,.int .i64,.int .i64]
theorem YCN{cs:List SV}(h:okSL shB cs):∃B:Bdy,cs=encY B:=by
 obtain⟨_,_,rfl,⟨n1,rfl,_⟩,e1⟩:=Y6 h
 obtain⟨_,_,rfl,⟨n2,rfl,_⟩,e2⟩:=Y6 e1
 obtain⟨_,_,rfl,⟨n3,rfl,_⟩,e3⟩:=Y6 e2
 obtain⟨_,_,rfl,⟨n4,rfl,_⟩,e4⟩:=Y6 e3
 obtain⟨_,_,rfl,⟨n5,rfl,_⟩,e5⟩:=Y6 e4
 cases Ygf e5
 exact⟨⟨n1,n2,n3,n4,n5⟩,rfl⟩
end Go.Proofs.YtijadllhfgajlaaGreat
namespace Go.Proofs.YtijadllhfgajlaaGreat.Q
open Go Go.Vx
def dig(a i:Nat):Nat:=a/32768^i%32768
theorem Yr(i:Nat):0<32768^i:=Nat.pow_pos (by decide)
theorem YB(i:Nat):32768^(i+1)=32768^i*32768:=YGZ ..
theorem YK(a i:Nat):dig a i<32768:=YG0 _ (by decide)
theorem YaF(a i:Nat):a%32768^(i+1)=a%32768^i+32768^i*dig a i:=Nat.mod_pow_succ
theorem Yma(a:Nat):dig a 0=a%32768:=by simp [dig]
theorem Ybp(i:Nat):dig 0 i=0:=by simp [dig]
theorem YgB(a i:Nat):dig a (i+1)=dig (a/32768) i:=by
 unfold dig
 rw[YGL,YB,YGC]
theorem Y4{a n i:Nat}(h:a<32768^n)(hi:n<=i):dig a i=0:=by
 unfold dig
 rw[YHs]
 exact YG1 h (YGG (by decide) hi)
theorem Yhp{a b:Nat}:∀{n:Nat},(∀i,i<n->dig a i=dig b i)->a%32768^n=b%32768^n
 |0,_=>by simp [Nat.mod_one]
 |n+1,h=>by rw[YaF,YaF,Yhp fun i hi=>h i (by omega),h n (by omega)]
theorem Ymb{a b n:Nat}(ha:a<32768^n)(hb:b<32768^n)(h:∀i,i<n->dig a i=dig b i):a=b:=by
 have:=Yhp h
 rwa [YHb ha,YHb hb]at this
theorem YbD{a j k:Nat}(h:k<j):dig (a%32768^j) k=dig a k:=by
 unfold dig
 obtain⟨m,rfl⟩:∃m,j=k+(m+1):=⟨j-k-1,by omega⟩
 rw[YGJ,Nat.mod_mul_right_div_self,YGZ,YGC,Nat.mod_mul_right_mod]
def nlF:Nat->Nat->Nat
 |0,_=>0
 |f+1,a=>if a=0 then 0 else nlF f (a/32768)+1
def nl(a:Nat):Nat:=nlF a a
theorem Ylf:∀(f a n:Nat),a<=f->(nlF f a<=n↔a<32768^n)
 |0,a,n,h=>by
   have:=Yr n
   simp only[nlF];omega
 |f+1,a,n,h=>by
   simp only[nlF]
   split
   . rename_i h0;have:=Yr n;subst h0;simp;omega
   . cases n with
     |zero=>simp;omega
     |succ n=>
       have:=Ylf f (a/32768) n (by omega)
       rw[YB,<-YGY (by decide),<-this]
       omega
theorem nl_le{a n:Nat}:nl a<=n↔a<32768^n:=Ylf a a n (YGH _)
theorem YbQ(a:Nat):a<32768^nl a:=nl_le.1 (YGH _)
theorem nl_0:nl 0=0:=rfl
theorem nl_pos{a:Nat}:0<nl a↔0<a:=by
 have:= @nl_le a 0
 simp at this;omega
theorem nl_eq0{a:Nat}:nl a=0↔a=0:=by
 have:= @nl_le a 0
 simp at this;omega
theorem YnU{a:Nat}(h:a≠0):dig a (nl a-1)≠0:=by
 obtain⟨n,hn⟩:∃n,nl a=n+1:=⟨nl a-1,by have:=nl_eq0 (a:=a);omega⟩
 rw[hn,Nat.add_sub_cancel]
 have h1:=YbQ a
 have h2:¬a<32768^n:=fun hh=>by have:=nl_le.2 hh;omega
 rw[hn,YB]at h1
 unfold dig
 have h3:a/32768^n<32768:=by rw[YGY (Yr n),YGC];exact h1
 rw[YHb h3]
 have:=Nat.div_pos (Nat.le_of_not_lt h2) (Yr n)
 omega
theorem Yax{a b:Nat}(h:a<=b):nl a<=nl b:=nl_le.2 (YGU h (YbQ b))
theorem YaK{a n:Nat}(h:a<32768^n)(ht:n=0\/dig a (n-1)≠0):nl a=n:=by
 have h1:=nl_le.2 h
 rcases ht with rfl|ht
 . omega
 . rcases YGN (nl a) n with h2|h2
   . exact absurd (Y4 (YbQ a) (by omega:nl a<=n-1)) ht
   . omega
theorem Ybi{a n:Nat}(h:a<32768^(n+1))(h0:dig a n=0):a<32768^n:=by
 have:=YaF a n
 rw[h0,YHb h]at this
 rw[this]
 simpa using YG0 a (Yr n)
def cy(a b i:Nat):Nat:=(a%32768^i+b%32768^i)/32768^i
theorem cy_0(a b:Nat):cy a b 0=0:=by simp [cy,Nat.mod_one]
theorem Yjg(a b i:Nat):cy a b i<=1:=by
 unfold cy
 have h1:=YG0 a (Yr i)
 have h2:=YG0 b (Yr i)
 have:(a%32768^i+b%32768^i)/32768^i<2:=by
   rw[YGY (Yr i)];omega
 omega
theorem YqO(a b i:Nat):(a+b)/32768^i=a/32768^i+b/32768^i+cy a b i:=by
 unfold cy
 have h1:=YG3 a (32768^i)
 have h2:=YG3 b (32768^i)
 generalize hP:32768^i=P at*
 have hp:0<P:=hP▸Yr i
 have e:a+b=P*(a/P+b/P)+(a%P+b%P):=by rw[YHy];omega
 conv=>lhs;rw[e]
 rw[Nat.mul_add_div hp]
theorem YfB(a b i:Nat):(dig a i+dig b i+cy a b i)%32768=dig (a+b) i:=by
 unfold dig
 rw[YqO]
 omega
theorem YkA(a b i:Nat):(dig a i+dig b i+cy a b i)/32768=cy a b (i+1):=by
 have e:cy a b (i+1)=(a%32768^(i+1)+b%32768^(i+1))/32768^(i+1):=rfl
 rw[e,YaF,YaF,YB,<-YGL]
 unfold cy
 generalize hP:32768^i=P at*
 have hp:0<P:=hP▸Yr i
 have e:a%P+P*dig a i+(b%P+P*dig b i)=P*(dig a i+dig b i)+(a%P+b%P):=by rw[YHy];omega
 rw[e,Nat.mul_add_div hp]
def setD(V j x:Nat):Nat:=V-dig V j*32768^j+x*32768^j
theorem YaQ(V j:Nat):V=32768^j*(32768*(V/32768^(j+1))+dig V j)+V%32768^j:=by
 have h1:=YG3 V (32768^j)
 have h2:=YG3 (V/32768^j) 32768
 rw[YGL,<-YB]at h2
 unfold dig
 rw[h2,h1]
theorem YcU(V j x:Nat):setD V j x=32768^j*(32768*(V/32768^(j+1))+x)+V%32768^j:=by
 have:=YaQ V j
 unfold setD
 generalize dig V j=d at*
 generalize V/32768^(j+1)=h at*
 generalize V%32768^j=l at*
 generalize 32768^j=P at*
 rw[YHy]at this⊢
 rw[YGC d,YGC x]
 omega
theorem YcT(V j x:Nat):setD V j x+dig V j*32768^j=V+x*32768^j:=by
 have:=YaQ V j
 rw[YcU]
 generalize dig V j=d at*
 generalize V/32768^(j+1)=h at*
 generalize V%32768^j=l at*
 generalize 32768^j=P at*
 rw[YHy]at this⊢
 rw[YGC d,YGC x]
 omega
theorem Yfl{V j x:Nat}(hx:x<32768):setD V j x/32768^(j+1)=V/32768^(j+1):=by
 have hl:=YG0 V (Yr j)
 have e:∀Y:Nat,Y/32768^(j+1)=Y/32768^j/32768:=fun Y=>by rw[YB,YGL]
 rw[YcU,e (32768^j*(32768*(V/32768^(j+1))+x)+V%32768^j),Nat.mul_add_div (Yr j),YHs hl]
 generalize V/32768^(j+1)=h
 omega
theorem YbT{V j x:Nat}(hx:x<32768)(k:Nat):dig (setD V j x) k=if k=j then x else dig V k:=by
 have hl:=YG0 V (Yr j)
 rcases Nat.lt_trichotomy k j with h|h|h
 . rw[if_neg (by omega),<-YbD h,<-YbD (a:=V) h,YcU,Nat.mul_add_mod,Nat.mod_mod]
 . subst h
   rw[if_pos rfl,YcU]
   unfold dig
   rw[Nat.mul_add_div (Yr k),YHs hl]
   omega
 . rw[if_neg (by omega)]
   obtain⟨m,rfl⟩:∃m,k=(j+1)+m:=⟨k-(j+1),by omega⟩
   unfold dig
   have e:setD V j x/32768^(j+1)=V/32768^(j+1):=by
     exact Yfl hx
   rw[YGJ,<-YGL,<-YGL,e]
theorem Yj3{V j x n:Nat}(hV:V<32768^n)(hx:x<32768)(hj:j<n):setD V j x<32768^n:=by
 obtain⟨m,rfl⟩:∃m,n=m+(j+1):=⟨n-(j+1),by omega⟩
 rw[YGJ,<-YGY (Yr _)]at hV⊢
 rw[Yfl hx]
 exact hV
theorem YjO{a b i k V c:Nat}(h:V+c*32768^(i+k)=(a%32768^i)*b+dig a i*(b%32768^k)*32768^i):
   setD V (i+k) ((dig V (i+k)+dig a i*dig b k+c)%32768)+((dig V (i+k)+dig a i*dig b k+c)/32768)*32768^(i+(k+1))=(a%32768^i)*b+dig a i*(b%32768^(k+1))*32768^i:=by
 have e1:=YcT V (i+k) ((dig V (i+k)+dig a i*dig b k+c)%32768)
 have e2:=YG3 (dig V (i+k)+dig a i*dig b k+c) 32768
 rw[YaF,show i+(k+1)=(i+k)+1 by omega,YB]
 rw[YGJ]at*
 generalize setD V (i+k) ((dig V (i+k)+dig a i*dig b k+c)%32768)=V' at*
 generalize(dig V (i+k)+dig a i*dig b k+c)%32768=r at*
 generalize(dig V (i+k)+dig a i*dig b k+c)/32768=q at*
 generalize dig V (i+k)=d at*
 generalize dig a i=x at*
 generalize dig b k=y at*
 generalize b%32768^k=bm at*
 generalize a%32768^i=am at*
 generalize 32768^i=P at*
 generalize 32768^k=R at*
 grind
theorem YrG{a b i n m:Nat}(hi:i<=n)(ha:a<32768^n)(hb:b<32768^m):(a%32768^i)*b<32768^(n+m+1):=by
 have h1:=YG0 a (Yr i)
 have h2:a%32768^i<=32768^n:=YGF (YHp h1) (YGG (by decide) hi)
 have h3:(a%32768^i)*b<=32768^n*32768^m:=YGX h2 (YHp hb)
 rw[<-YGJ]at h3
 rw[YB]
 have:=Yr (n+m)
 omega
theorem Ydb(a m k:Nat):dig (a/32768^m) k=dig a (m+k):=by
 unfold dig
 rw[YGJ,YGL]
theorem Ymo(a b:Nat):∃n,a<32768^n/\b<32768^n:=
 ⟨nl a+nl b,YG1 (YbQ a) (YGG (by decide) (by omega)),YG1 (YbQ b) (YGG (by decide) (by omega))⟩
theorem YfJ{a b:Nat}(h:∀i,dig a i=dig b i):a=b:=by
 obtain⟨n,h1,h2⟩:=Ymo a b
 exact Ymb h1 h2 fun i _=>h i
theorem YqN{a b m:Nat}(h:∀i,m<=i->dig a i=dig b i):a/32768^m=b/32768^m:=
 YfJ fun i=>by rw[Ydb,Ydb];exact h _ (by omega)
theorem YeA{a b j:Nat}(h:∀i,j<i->dig a i=dig b i)(hd:dig a j<dig b j):a<b:=by
 have h1:=YaQ a j
 have h2:=YaQ b j
 rw[YqN (m:=j+1) fun i hi=>h i hi]at h1
 have h3:=YG0 a (Yr j)
 generalize b/32768^(j+1)=q at*
 generalize 32768^j=P at*
 generalize a%P=x at*
 generalize b%P=y at*
 generalize dig a j=d at*
 generalize dig b j=e at*
 have:P*(32768*q+d)+P<=P*(32768*q+e):=by
   rw[<-Nat.mul_succ];exact YGO _ (by omega)
 omega
def ordN(a b:Nat):Int:=if a<b then -1 else if b<a then 1 else 0
def pre(r:Nat->Nat):Nat->Nat
 |0=>0
 |i+1=>pre r i+r i*32768^i
theorem YrY(r:Nat->Nat)(i:Nat):pre r (i+1)/32768^i=r i+pre r i/32768^i:=by
 show(pre r i+r i*32768^i)/32768^i=_
 rw[Nat.add_mul_div_right _ _ (Yr i),Nat.add_comm]
theorem Ywo(r:Nat->Nat)(i:Nat):(r i+pre r i/32768^i)/32768=pre r (i+1)/32768^(i+1):=by
 rw[<-YrY,YGL,<-YB]
theorem Yr0(r:Nat->Nat):∀(i d:Nat),pre r (i+d)%32768^i=pre r i%32768^i
 |_,0=>rfl
 |i,d+1=>by
   rw[<-Yr0 r i d]
   show(pre r (i+d)+r (i+d)*32768^(i+d))%32768^i=_
   rw[YGJ,YGC (32768^i),<-YGE,Nat.add_mul_mod_self_right]
theorem YrX(r:Nat->Nat){i n:Nat}(h:i<n):(r i+pre r i/32768^i)%32768=dig (pre r n) i:=by
 obtain⟨d,rfl⟩:∃d,n=i+1+d:=⟨n-i-1,by omega⟩
 rw[<-YrY,<-YbD (Nat.lt_succ_self i),Yr0,YbD (Nat.lt_succ_self i)]
 rfl
theorem YrW(f g:Nat->Nat):∀n,pre (fun i=>f i+g i) n=pre f n+pre g n
 |0=>rfl
 |n+1=>by show pre (fun i=>f i+g i) n+(f n+g n)*32768^n=(pre f n+f n*32768^n)+(pre g n+g n*32768^n);rw[YrW f g n,YG8];omega
theorem YjT(a:Nat):∀n,pre (fun i=>dig a i) n=a%32768^n
 |0=>by simp [pre,Nat.mod_one]
 |n+1=>by show pre (fun i=>dig a i) n+dig a n*32768^n=_;rw[YjT a n,YaF,YGC]
theorem Yr1(r:Nat->Nat)(j x:Nat):∀n,j<n->pre (fun i=>if i=j then r i+x else r i) n=pre r n+x*32768^j
 |0,h=>absurd h (YHH _)
 |n+1,h=>by
   show pre (fun i=>if i=j then r i+x else r i) n+(if n=j then r n+x else r n)*32768^n=(pre r n+r n*32768^n)+x*32768^j
   have same:∀m,m<=j->pre (fun i=>if i=j then r i+x else r i) m=pre r m:=by
     intro m
     induction m with
     |zero=>intro _;rfl
     |succ m ih=>
       intro hm
       show pre (fun i=>if i=j then r i+x else r i) m+(if m=j then r m+x else r m)*32768^m=pre r m+r m*32768^m
       rw[ih (by omega),if_neg (by omega)]
   rcases YGN j n with h'|h'
   . rw[Yr1 r j x n h',if_neg (by omega)];omega
   . obtain rfl:n=j:=by omega
     rw[same n (YGH _),if_pos rfl,YG8];omega
theorem YrZ(r:Nat->Nat)(q:Nat):∀n,(∀i,i<n->r i<=32767*q)->pre r n<=q*32768^n
 |0,_=>by simp [pre]
 |n+1,h=>by
   have h1:=YrZ r q n fun i hi=>h i (by omega)
   have h2:=YGD (32768^n) (h n (by omega))
   show pre r n+r n*32768^n<=_
   rw[YB]
   have e:q*(32768^n*32768)=q*32768^n+32767*q*32768^n:=by
     generalize 32768^n=P;grind
   omega
theorem Yvi(r:Nat->Nat)(q n:Nat)(h:∀i,i<n->r i<=32767*q):pre r n/32768^n<=q:=
 YGF (Nat.div_le_div_right (YrZ r q n h)) (by rw[Nat.mul_div_cancel _ (Yr n)];exact YGH _)
theorem Ywp(r:Nat->Nat)(q n:Nat)(hq:q<32768^4)(h:∀i,i<n->r i<=32767*q):pre r n<32768^(n+4):=by
 refine YGU (YrZ r q n h) ?_
 rw[YGJ,YGC]
 exact Nat.mul_lt_mul_of_pos_left hq (Yr n)
set_option maxRecDepth 100000
set_option maxHeartbeats 4000000
def v150:VF:=⟨41,[.tmp 4],(ZR [Zi 4 0] (.seq (ZR [Zm 6 0,Zl 7 6,Zm 8 1,Zl 9 8,Zr 10 .neq 7 9] (ZC 10 (.seq (ZR [Zm 11 0,Zl 12 11,Zm 13 1,Zl 14 13,Zr 15 .lss 12 14] (ZC 15 (ZR [Zi 4 (-1)] .ret) .skip)) (ZR [Zi 4 1] .ret)) .skip)) (.seq (ZR [Zm 16 0,Zl 17 16,u1 18 (.ari .sub) [.tm 17,.cn (.int .i64 1)],Zm 5 18] (.block 0 (.loop (.seq (ZR [Zm 19 5,Zq 20 .geq 19 0] (ZC 20 .skip (.exit 0))) (.seq (.block 1 (.seq (.seq (.draw [] [Zu 23 0,Zu 24 5,ZX 25 1 23 24,Zv 26 1 25,Zu 27 1,Zu 28 5,ZX 29 1 27 28,Zv 30 1 29,w1 31 (.cmp .lss) [.tm 26,.tm 30]]) (ZC 31 (ZR [Zi 4 (-1)] .ret) .skip)) (.seq (.draw [] [Zu 32 0,Zu 33 5,ZX 34 1 32 33,Zv 35 1 34,Zu 36 1,Zu 37 5,ZX 38 1 36 37,Zv 39 1 38,w1 40 (.cmp .gtr) [.tm 35,.tm 39]]) (ZC 40 (ZR [Zi 4 1] .ret) .skip)))) (.region [Zm 21 5,u1 22 (.ari .sub) [.tm 21,.cn (.int .i64 1)],Zm 5 22])))))) (ZR [Zi 4 0] .ret))))⟩
theorem YBk:Yf YGw Tryz.f150=some v150:=by kernel_rfl
def v148:VF:=⟨14,[.tmp 2],(ZR [u1 2 .mov [.cn .nil]] (ZR [u1 3 .mov [.cn .nil]] (.seq (.block 0 (.loop (.seq (ZR [Zm 4 0,Zq 5 .gtr 4 0] (ZC 5 .skip (.exit 0))) (.block 1 (ZR [Zm 6 3,Zm 7 0,u1 8 .rem [.tm 7,.cn (.int .i64 32768)],u1 9 (.buildSlice 1 1 [(.int .i64 0)] [(0,1)]) [.tm 8],u1 10 (.append 1 8 [(.int .i64 0)]) [.tm 6,.tm 9],Zm 3 10] (.region [Zm 11 0,u1 12 .quo [.tm 11,.cn (.int .i64 32768)],Zm 0 12])))))) (ZR [Zm 13 3,Zm 2 13] .ret))))⟩
theorem YBi:Yf YGw Tryz.f148=some v148:=by kernel_rfl
def padP(a n sz:Nat)(get:Nat->List SV):Prop:=sz=1/\n<=100000/\a<32768^n/\∀k,k<n->leXL (get k) [.int .i64 (dig a k)]
theorem Yz{a n:Nat}(hn:n<=100000)(ha:a<32768^n):padP a n 1 (fun k=>[.int .i64 (dig a k)]):=⟨rfl,hn,ha,fun k _=>Ye _⟩
theorem Yc{a:Nat}(hn:nl a<=100000):padP a (nl a) 1 (fun k=>[.int .i64 (dig a k)]):=Yz hn (YbQ a)
def natS(z:Bool)(a:Nat):SV:= .vs true z (nl a) 1 (fun k=>[.int .i64 (dig a k)])
theorem Ymv{hp:List HO}{i n m:Nat}{z zz:Bool}{get:Nat->List SV}{a:Nat}(hn:n=nl a)(hz:z=zz)(hi:getH hp i= .own z 1 m get)(hg:∀j,j<n->get j=[.int .i64 (dig a j)]):
   le 0 0 (expo hp (.own i 0 n 1)) (natS zz a):=by
 have e:expo hp (.own i 0 n 1)= .vs true z n 1 (fun k=>viewN true hp 2 (get (Yca 0 k))):=by
   show view true hp (viewN true hp 2) (.own i 0 n 1)=_
   unfold view
   rw[hi];rfl
 rw[e]
 unfold natS
 rw[YuW]
 refine⟨id,hz,hn,rfl,fun j hj=>?_⟩
 show leXL (viewN true hp 2 (get j)) _
 rw[hg j hj]
 exact Ye _
theorem YaV{k:SV->List HO->Prop}{al:Bool}{hp:List HO}{i n m:Nat}{z zz:Bool}{get:Nat->List SV}{a:Nat}(h:k (natS zz a) [])(hn:n=nl a)(hz:z=zz)(hi:getH hp i= .own z 1 m get)(hg:∀j,j<n->get j=[.int .i64 (dig a j)]):
   YI al k (.own i 0 n 1) hp:=YE h (Ymv hn hz hi hg) (fun _=>by simp [natS,Yl,Yo])
theorem Yal{k:SV->List HO->Prop}{al:Bool}{hp:List HO}{t z:Bool}{a:Nat}(h:k (natS z a) []):YI al k (.vs true z (nl a) 1 (fun k=>[.int .i64 (dig a k)])) hp:=
 YE h (Yy _ trivial) (fun _=>by simp [natS,Yl,Yo])
theorem Yq6(x:Nat):((x:Int)).tmod 32768=((x%32768:Nat):Int):=YHR rfl rfl
theorem Yq5{x:Nat}(h:x<=9223372036854775807):IntKind.i64.wrap (((x:Int)).tdiv 32768)=((x/32768:Nat):Int):=by
 have e:((x:Int)).tdiv 32768=((x/32768:Nat):Int):=YHq (y:=32768) rfl rfl
 rw[e,YGy _ (by omega)]
def limbsC:Ctr:={ alias:=false,of:=fun l=>match l with
 | [.int .i64 n]=> .pre (0<=n/\n<=9223372036854775807) (.fin (natS (decide (nl n.toNat=0)) n.toNat) [])
 |_=>noC}
def cmpC:Ctr:={ alias:=false,of:=fun l=>match l with
 | [.vs _ _ n sz get,.vs _ _ m sz' get']=> .ex Nat fun a=> .ex Nat fun b=> .pre (padP a n sz get/\padP b m sz' get'/\n=nl a/\m=nl b) (.fin (.int .i64 (ordN a b)) [])
 |_=>noC}
def Q0:Env:={ ct:=fun _=>none,fn:=fun _=>none,meth:=fun _ _=>none}
theorem Ypk:Yq YGw Q0:=by
 refine⟨fun f c h=>?_,fun f vf h=>?_,(fun _ _ _ h=>by cases h),by kernel_rfl,(fun _ h=>by cases h)⟩
 . cases h
 . cases h
theorem YjK:limbsC.ok YGw 148:=by
 refine Yb Tryz.func148 YBi Ypk 200 limbsC fun args k h=>?_
 simp only[limbsC]at h
 split at h
 . rename_i n
   obtain⟨⟨h0,h1⟩,h⟩:=h
   obtain⟨n,rfl⟩:=YGT h0
   rw[YGv]at h
   refine⟨[.int .i64 n],by simp [leL,le],?_⟩
   (try dsimp only[v148,go_sem,reduceIte])
   (try simp only[Yd,YGu,YGt,reduceCtorEq,YGs])
   have hn5:nl n<=5:=nl_le.2 (by omega)
   refine Loop.keep [0,2] Nat (fun i=>[(0,.int .i64 ((n/32768^i:Nat):Int)),(3,.own 0 0 i 1)]) (fun i=>[(0,.own (decide (i=0)) 1 i (fun k=>[.int .i64 (dig n k)]))]) [.gone] (fun i=>i<=nl n) (fun i=>nl n-i) ?_ ?_
   . refine⟨0,by omega,?_⟩
     (try dsimp only[go_sem,reduceIte])
     simp only[Ya]
     simp
   . rintro i hi
     (try dsimp only[YGv,go_sem,reduceIte])
     (try simp only[Yd,YGu,YGt,reduceCtorEq,YGs])
     have hle:n/32768^i<=n:=YHr _ _
     refine⟨fun hlt=>?_,fun hge=>?_⟩
     . have hin:i<nl n:=by
         rcases YGN i (nl n)with h'|h'
         . exact h'
         . rw[YHs (nl_le.1 h')]at hlt;exact absurd hlt (by decide)
       rw[Yq6,Yq5 (by omega),YGL,<-YB]
       (try dsimp only[go_sem,reduceIte])
       (try simp only[Yd,YGu,YGt,reduceCtorEq,YGs])
       refine⟨by decide,by decide,⟨by unfold YN;omega,fun j hj=>?_⟩,by decide,i+1,by omega,by omega,?_⟩
       . match j,hj with
         |0,_=>exact⟨rfl,trivial,trivial⟩
       . simp only[Ya]
         refine⟨by simp,by simp,fun j hj=>?_⟩
         rcases YGN j i with h'|h'
         . rw[if_pos h'];simp only[leL,le,and_self]
         . obtain rfl:j=i:=by omega
           rw[if_neg (Nat.lt_irrefl _),Nat.sub_self]
           simp only[Yk,YO,YJ,leL,Nat.zero_mul,Yd3,refs,cond,le,dig,and_self]
     . have hin:i=nl n:=by
         have:n<32768^i:=by
           rcases YGN n (32768^i)with h'|h'
           . exact h'
           . have:=Nat.div_pos h' (Yr i);omega
         have:=nl_le.2 this;omega
       subst hin
       exact YaV h rfl rfl rfl fun j hj=>rfl
 . exact h.1.elim
theorem YeR:cmpC.ok YGw 150:=by
 refine Yb Tryz.func150 YBk Ypk 200 cmpC fun args k h=>?_
 simp only[cmpC]at h
 split at h
 . rename_i t1 z1 n sz get t2 z2 m sz' get'
   obtain⟨a,b,⟨⟨rfl,hn,ha,hg⟩,⟨rfl,hm,hb,hg'⟩,rfl,rfl⟩,h⟩:=h
   refine⟨[.vs t1 z1 (nl a) 1 (fun k=>[.int .i64 (dig a k)]),.vs t2 z2 (nl b) 1 (fun k=>[.int .i64 (dig b k)])],⟨by simpa [le]using hg,by simpa [le]using hg',trivial⟩,?_⟩
   (try dsimp only[v150,go_sem,reduceIte])
   (try simp only[Yd,YGu,YGt,reduceCtorEq,YGs])
   refine⟨fun hne=>⟨fun hlt=>Yh ?_,fun hge=>Yh ?_⟩,fun heq=>?_⟩
   . have:a<b:=by
       rcases YGN a b with h'|h'
       . exact h'
       . have:=Yax h';omega
     rw[ordN,if_pos this]at h;exact h
   . have:b<a:=by
       rcases YGN b a with h'|h'
       . exact h'
       . have:=Yax h';omega
     rw[ordN,if_neg (by omega),if_pos this]at h;exact h
   . refine Loop.keep [0,0,3] Nat (fun j=>[(5,.int .i64 ((j:Int)-1))]) (fun _=>[]) [] (fun j=>j<=nl a/\∀i,j<=i->dig a i=dig b i) (fun j=>j) ?_ ?_
     . refine⟨nl a,⟨by omega,fun i hi=>by rw[Y4 ha (by omega),Y4 hb (by omega)]⟩,?_⟩
       (try dsimp only[go_sem,reduceIte])
       simp only[Ya]
       rw[YGy _ (by omega)]
     . rintro j ⟨hj,haj⟩
       (try dsimp only[YGv,go_sem,reduceIte])
       (try simp only[Yd,YGu,YGt,reduceCtorEq,YGs])
       refine⟨fun hlt=>?_,fun hge=>?_⟩
       . obtain⟨i,rfl⟩:∃i,j=i+1:=⟨j-1,by omega⟩
         have e:((i+1:Nat):Int)-1=i:=by omega
         have gt:∀t,i<t->dig a t=dig b t:=fun t ht=>haj t (by omega)
         rw[e]
         simp only[YGv]
         refine⟨⟨by omega,by omega⟩,⟨by omega,by omega⟩,fun hc=>Yh ?_,fun hc=>⟨⟨by omega,by omega⟩,⟨by omega,by omega⟩,fun hd=>Yh ?_,fun hd=>?_⟩⟩
         . have:=YeA gt (by omega:dig a i<dig b i)
           rw[ordN,if_pos this]at h;exact h
         . have:=YeA (fun t ht=>(gt t ht).symm) (by omega:dig b i<dig a i)
           rw[ordN,if_neg (by omega),if_pos this]at h;exact h
         . refine⟨i,⟨by omega,fun t ht=>?_⟩,by omega,?_⟩
           . rcases Nat.eq_or_lt_of_le ht with rfl|ht
             . omega
             . exact gt t ht
           . simp only[Ya]
             rw[YGy _ (by omega)]
       . obtain rfl:j=0:=by omega
         have:a=b:=YfJ fun i=>haj i (YHl _)
         subst this
         rw[ordN,if_neg (Nat.lt_irrefl _),if_neg (Nat.lt_irrefl _)]at h
         exact Yh h
 . exact h.1.elim
def v166:VF:=⟨21,[.tmp 2],(ZR [u1 2 .mov [.cn .nil]] (.seq (.block 0 (.loop (.seq (ZR [Zm 3 0,Zl 4 3,Zq 5 .gtr 4 0,Zm 6 5,Zg 7 6 true 0,Zg 8 6 true 0,u2 9 6 true .len [.tm 8],u2 10 6 true (.ari .sub) [.tm 9,.cn (.int .i64 1)],u2 11 6 true (.idxAddr 1) [.tm 7,.tm 10],Zh 12 6 true 1 11,u2 13 6 true (.cmp .eql) [.tm 12,.cn (.int .i64 0)],u1 14 .and [.tm 6,.tm 13]] (ZC 14 .skip (.exit 0))) (.block 1 (.region [Zm 15 0,Zm 16 0,Zl 17 16,u1 18 (.ari .sub) [.tm 17,.cn (.int .i64 1)],u1 19 (.slice 1 false true) [.tm 15,.tm 18],Zm 0 19]))))) (ZR [Zm 20 0,Zm 2 20] .ret)))⟩
theorem YsV:Yf YGw Tryz.f166=some v166:=by kernel_rfl
def v151:VF:=⟨35,[.tmp 2],(ZR [u1 2 .mov [.cn .nil]] (ZR [Zi 3 0] (.seq (ZR [Zi 4 0] (.block 0 (.loop (.seq (ZR [Zm 5 4,Zm 6 0,Zl 7 6,Zr 8 .lss 5 7] (ZC 8 .skip (.exit 0))) (.seq (.block 1 (ZR [Zm 11 3,Zm 12 0,Zm 13 4,Zx 14 1 12 13,Zf 15 1 14,Zo 16 .add 11 15,Zm 3 16] (ZR [Zm 17 0,Zm 18 4,Zm 19 3,u1 20 .rem [.tm 19,.cn (.int .i64 32768)],Zx 21 1 17 18,Zs 1 21 20] (.region [Zm 22 3,u1 23 .quo [.tm 22,.cn (.int .i64 32768)],Zm 3 23])))) (.region [Zm 9 4,Zp 10 9 1,Zm 4 10])))))) (.seq (.block 2 (.loop (.seq (ZR [Zm 24 3,Zq 25 .gtr 24 0] (ZC 25 .skip (.exit 2))) (.block 3 (ZR [Zm 26 0,Zm 27 3,u1 28 .rem [.tm 27,.cn (.int .i64 32768)],u1 29 (.buildSlice 1 1 [(.int .i64 0)] [(0,1)]) [.tm 28],u1 30 (.append 1 8 [(.int .i64 0)]) [.tm 26,.tm 29],Zm 0 30] (.region [Zm 31 3,u1 32 .quo [.tm 31,.cn (.int .i64 32768)],Zm 3 32])))))) (ZR [Zm 33 0,Zc 34 166 33,Zm 2 34] .ret)))))⟩
theorem YBl:Yf YGw Tryz.f151=some v151:=by kernel_rfl
def v132:VF:=⟨47,[.tmp 4],(ZR [u1 4 .mov [.cn .nil]] (ZR [Zm 8 0,Zl 9 8,Zm 10 1,Zl 11 10,u1 12 .max [.tm 9,.tm 11],u1 13 (.make 1 8 [(.int .i64 0)]) [.tm 12,.tm 12],Zm 5 13] (.seq (ZR [Zi 6 0] (.block 0 (.loop (.seq (ZR [Zm 14 6,Zm 15 0,Zl 16 15,Zr 17 .lss 14 16] (ZC 17 .skip (.exit 0))) (.seq (.block 1 (.region [Zm 20 5,Zm 21 6,Zm 22 0,Zm 23 6,Zx 24 1 22 23,Zf 25 1 24,Zx 26 1 20 21,Zs 1 26 25])) (.region [Zm 18 6,Zp 19 18 1,Zm 6 19])))))) (.seq (ZR [Zi 7 0] (.block 2 (.loop (.seq (ZR [Zm 27 7,Zm 28 1,Zl 29 28,Zr 30 .lss 27 29] (ZC 30 .skip (.exit 2))) (.seq (.block 3 (.draw [] [Zu 33 5,Zu 34 7,Zu 35 5,Zu 36 7,ZX 37 1 35 36,Zv 38 1 37,Zu 39 1,Zu 40 7,ZX 41 1 39 40,Zv 42 1 41,w1 43 (.ari .add) [.tm 38,.tm 42],ZX 44 1 33 34,ZS 1 44 43])) (.region [Zm 31 7,Zp 32 31 1,Zm 7 32])))))) (ZR [Zm 45 5,Zc 46 151 45,Zm 4 46] .ret)))))⟩
theorem YA4:Yf YGw Tryz.f132=some v132:=by kernel_rfl
def v149:VF:=⟨49,[.tmp 4],(ZR [u1 4 .mov [.cn .nil]] (ZR [Zm 8 0,Zl 9 8,Zm 10 1,Zl 11 10,Zo 12 .add 9 11,u1 13 (.make 1 8 [(.int .i64 0)]) [.tm 12,.tm 12],Zm 5 13] (.seq (ZR [Zi 6 0] (.block 0 (.loop (.seq (ZR [Zm 14 6,Zm 15 0,Zl 16 15,Zr 17 .lss 14 16] (ZC 17 .skip (.exit 0))) (.seq (.block 1 (ZR [Zi 7 0] (.block 2 (.loop (.seq (ZR [Zm 20 7,Zm 21 1,Zl 22 21,Zr 23 .lss 20 22] (ZC 23 .skip (.exit 2))) (.seq (.block 3 (.draw [] [Zu 26 5,Zu 27 6,Zu 28 7,w1 29 (.ari .add) [.tm 27,.tm 28],Zu 30 5,Zu 31 6,Zu 32 7,w1 33 (.ari .add) [.tm 31,.tm 32],ZX 34 1 30 33,Zv 35 1 34,Zu 36 0,Zu 37 6,ZX 38 1 36 37,Zv 39 1 38,Zu 40 1,Zu 41 7,ZX 42 1 40 41,Zv 43 1 42,w1 44 (.ari .mul) [.tm 39,.tm 43],w1 45 (.ari .add) [.tm 35,.tm 44],ZX 46 1 26 29,ZS 1 46 45])) (.region [Zm 24 7,Zp 25 24 1,Zm 7 25]))))))) (.region [Zm 18 6,Zp 19 18 1,Zm 6 19])))))) (ZR [Zm 47 5,Zc 48 151 47,Zm 4 48] .ret))))⟩
theorem YBj:Yf YGw Tryz.f149=some v149:=by kernel_rfl
def addC:Ctr:={ alias:=false,of:=fun l=>match l with
 | [.vs _ _ n sz get,.vs _ _ m sz' get']=> .ex Nat fun a=> .ex Nat fun b=> .pre (padP a n sz get/\padP b m sz' get'/\n<=90000/\m<=90000) (.fin (natS false (a+b)) [])
 |_=>noC}
def Q1:Env:={ ct:=fun _=>none,fn:=fun n=>match n with|166=>some v166|151=>some v151|_=>none,meth:=fun _ _=>none}
theorem YmZ:Q1.ct 166=none:=rfl
theorem Ym1:Q1.fn 166=some v166:=rfl
theorem YmY:Q1.ct 151=none:=rfl
theorem Ym0:Q1.fn 151=some v151:=rfl
theorem YCj:Yq YGw Q1:=by
 refine⟨fun f c h=>?_,fun f vf h=>?_,(fun _ _ _ h=>by cases h),by kernel_rfl,(fun _ h=>by cases h)⟩
 . cases h
 . simp only[Q1]at h
   split at h
   . cases h;exact⟨Tryz.f166,Tryz.func166,YsV,Tryz.f166,Tryz.func166,by kernel_rfl,by kernel_rfl⟩
   . cases h;exact⟨Tryz.f151,Tryz.func151,YBl,Tryz.f151,Tryz.func151,by kernel_rfl,by kernel_rfl⟩
   . cases h
theorem Yf5:addC.ok YGw 132:=by
 refine Yb Tryz.func132 YA4 YCj 300 addC fun args k h=>?_
 simp only[addC]at h
 split at h
 . rename_i t1 z1 n sz get t2 z2 m sz' get'
   obtain⟨a,b,⟨⟨rfl,hn,ha,hg⟩,⟨rfl,hm,hb,hg'⟩,hn9,hm9⟩,h⟩:=h
   refine⟨[.vs t1 z1 n 1 (fun k=>[.int .i64 (dig a k)]),.vs t2 z2 m 1 (fun k=>[.int .i64 (dig b k)])],⟨by simpa [le]using hg,by simpa [le]using hg',trivial⟩,?_⟩
   (try dsimp only[v132,go_sem,reduceIte])
   (try simp only[Yd,YGu,YGt,reduceCtorEq,YGs])
   have en:max (n:Int) (m:Int)=((max n m:Nat):Int):=by omega
   rw[en]
   simp only[YGv]
   refine⟨⟨by decide,by omega,by unfold YN;omega⟩,?_⟩
   refine Loop.keep [0,0,3] Nat (fun i=>[(6,.int .i64 i)]) (fun i=>[(0,.own false 1 (max n m) (fun k=>[.int .i64 ((if k<i then dig a k else 0:Nat):Int)]))]) [] (fun i=>i<=n) (fun i=>n-i) ?_ ?_
   . refine⟨0,by omega,?_⟩
     (try dsimp only[go_sem,reduceIte])
     simp only[Ya]
     simp [leL,le]
   . rintro i hi
     (try dsimp only[YGv,go_sem,reduceIte])
     (try simp only[Yd,YGu,YGt,reduceCtorEq,YGs])
     refine⟨fun hlt=>?_,fun hge=>?_⟩
     . refine⟨⟨by omega,by omega⟩,⟨by omega,by omega⟩,by omega,i+1,by omega,by omega,?_⟩
       rw[YGy ((i:Int)+1) (by omega)]
       simp only[Ya]
       refine⟨by simp,fun j hj=>?_⟩
       rcases Nat.lt_trichotomy j i with h'|h'|h'
       . rw[if_neg (by omega),if_pos h',if_pos (by omega)];simp only[leL,le,and_self]
       . subst h';rw[if_pos rfl,if_pos (by omega)];simp only[leL,le,and_self]
       . rw[if_neg (by omega),if_neg (by omega),if_neg (by omega)];simp only[leL,le,and_self]
     . obtain rfl:i=n:=by omega
       refine Loop.keep [0,0,3] Nat (fun j=>[(7,.int .i64 j)]) (fun j=>[(0,.own false 1 (max i m) (fun k=>[.int .i64 ((dig a k+(if k<j then dig b k else 0):Nat):Int)]))]) [] (fun j=>j<=m) (fun j=>m-j) ?_ ?_
       . refine⟨0,by omega,?_⟩
         (try dsimp only[go_sem,reduceIte])
         simp only[Ya]
         refine⟨by simp,fun j hj=>?_⟩
         rcases YGN j i with h'|h'
         . rw[if_pos h',if_neg (YHH _),YHw];try simp only[leL,le,and_self]
         . rw[if_neg (by omega),if_neg (YHH _),Y4 ha h',YHw];try simp only[leL,le,and_self]
       . rintro j hj
         (try dsimp only[YGv,go_sem,reduceIte])
         (try simp only[Yd,YGu,YGt,reduceCtorEq,YGs])
         refine⟨fun hlt=>?_,fun hge=>?_⟩
         . refine⟨⟨by omega,by omega⟩,by omega,⟨by omega,by omega⟩,⟨by omega,by omega⟩,by omega,j+1,by omega,by omega,?_⟩
           have h1:=YK a j
           have h2:=YK b j
           have e:IntKind.i64.wrap (((dig a j+if j<j then dig b j else 0:Nat):Int)+(dig b j:Int))=((dig a j+dig b j:Nat):Int):=by
             rw[if_neg (Nat.lt_irrefl _),YGy _ (by omega)];omega
           rw[YGy ((j:Int)+1) (by omega),e]
           simp only[Ya]
           refine⟨by simp,fun q hq=>?_⟩
           rcases Nat.lt_trichotomy q j with h'|h'|h'
           . rw[if_neg (by omega),if_pos h',if_pos (by omega)];simp only[leL,le,and_self]
           . subst h';rw[if_pos rfl,if_pos (by omega)];simp only[leL,le,and_self]
           . rw[if_neg (by omega),if_neg (by omega),if_neg (by omega)];simp only[leL,le,and_self]
         . obtain rfl:j=m:=by omega
           have eR:(fun k=>[SV.int .i64 ((dig a k+(if k<j then dig b k else 0):Nat):Int)])=fun k=>[SV.int .i64 (((fun i=>dig a i+dig b i) k:Nat):Int)]:=by
             funext k
             split
             . rfl
             . rename_i hk;show _=[SV.int .i64 ((dig a k+dig b k:Nat):Int)];rw[Y4 hb (by omega)]
           rw[eR]
           have hX:pre (fun i=>dig a i+dig b i) (max i j)=a+b:=by
             rw[YrW,YjT,YjT,YHb (YG1 ha (YGG (by decide) (by omega))),YHb (YG1 hb (YGG (by decide) (by omega)))]
           have hQ:∀q,q<max i j->(fun i=>dig a i+dig b i) q<=32767*35184372088832:=fun q _=>by
             have h1:=YK a q
             have h2:=YK b q
             show dig a q+dig b q<=_
             omega
           have hN:max i j<=90000:=by omega
           generalize hR:(fun i=>dig a i+dig b i)=R at hX hQ⊢
           generalize max i j=N at hX hQ hN⊢
           generalize a+b=X at hX h
           have hXN:X<32768^(N+4):=hX▸Ywp R 35184372088832 N (by decide) hQ
           (try dsimp only[YmY,Ym0,v151,YGv,go_sem,reduceIte])
           (try simp only[Yd,YGu,YGt,reduceCtorEq,YGs])
           refine Loop.keep [0,2,0] Nat (fun i=>[(3,.int .i64 ((pre R i/32768^i:Nat):Int)),(4,.int .i64 i)]) (fun i=>[(0,.own false 1 N (fun k=>[.int .i64 ((if k<i then dig X k else R k:Nat):Int)]))]) [] (fun i=>i<=N) (fun i=>N-i) ?_ ?_
           . refine⟨0,by omega,?_⟩
             (try dsimp only[go_sem,reduceIte])
             simp only[Ya]
             simp [pre]
           . rintro i hi
             (try dsimp only[YGv,go_sem,reduceIte])
             (try simp only[Yd,YGu,YGt,reduceCtorEq,YGs])
             refine⟨fun hlt=>?_,fun hge=>?_⟩
             . have hin:i<N:=by omega
               refine⟨⟨by omega,by omega⟩,hin,by decide,⟨by omega,by omega⟩,hin,by decide,i+1,by omega,by omega,?_⟩
               have hc:=Yvi R 35184372088832 i fun q hq=>hQ q (by omega)
               have hr:=hQ i hin
               have e:IntKind.i64.wrap (((pre R i/32768^i:Nat):Int)+((if i<i then dig X i else R i:Nat):Int))=((R i+pre R i/32768^i:Nat):Int):=by
                 rw[if_neg (Nat.lt_irrefl _)]
                 generalize pre R i/32768^i=c at hc
                 generalize R i=r at hr
                 rw[YGy _ (by omega)];omega
               have hx:R i+pre R i/32768^i<=9223372036854775807:=by
                 generalize pre R i/32768^i=c at hc
                 omega
               rw[e,YGy ((i:Int)+1) (by omega),Yq6,Yq5 hx,YrX R hin,Ywo,hX]
               simp only[Ya]
               refine⟨⟨by omega,by simp⟩,⟨by omega,by omega⟩,fun q hq=>?_⟩
               rcases Nat.lt_trichotomy q i with h'|h'|h'
               . rw[if_neg (by omega),if_pos h',if_pos (by omega)];simp only[leL,le,and_self]
               . subst h';rw[if_pos rfl,if_pos (by omega)];simp only[leL,le,and_self]
               . rw[if_neg (by omega),if_neg (by omega),if_neg (by omega)];simp only[leL,le,and_self]
             . obtain rfl:i=N:=by omega
               rw[hX]
               refine Loop.keepP 0 [0,2] Nat (fun t=>[(0,.own 0 0 (i+t) 1),(3,.int .i64 ((X/32768^(i+t):Nat):Int))]) (fun t=>[(0,.own false 1 (i+t) (fun k=>[.int .i64 (dig X k)]))]) [] (fun t=>t<=4) (fun t=>4-t) ?_ ?_
               . refine⟨0,by omega,?_⟩
                 (try dsimp only[go_sem,reduceIte])
                 simp only[Ya]
                 refine⟨⟨⟨by omega,by omega⟩,by simp⟩,by omega,fun q hq=>by rw[if_pos hq]⟩
               . rintro t ht
                 (try dsimp only[YGv,go_sem,reduceIte])
                 (try simp only[Yd,YGu,YGt,reduceCtorEq,YGs])
                 refine⟨fun hlt=>?_,fun hge=>?_⟩
                 . have ht4:t<4:=by
                     rcases YGN t 4 with h'|h'
                     . exact h'
                     . obtain rfl:t=4:=by omega
                       rw[YHs hXN]at hlt;exact absurd hlt (by decide)
                   have hc:=Yvi R 35184372088832 i hQ
                   rw[hX]at hc
                   generalize hc0:X/32768^i=c0 at hc
                   have hc2:X/32768^(i+t)<=c0:=by
                     rw[<-hc0];rw[YGJ,<-YGL];exact YHr _ _
                   have hx:X/32768^(i+t)<=9223372036854775807:=YGF hc2 (by omega)
                   rw[Yq6,Yq5 hx,YGL,<-YB]
                   (try dsimp only[go_sem,reduceIte])
                   (try simp only[Yd,YGu,YGt,reduceCtorEq,YGs])
                   refine⟨by decide,by decide,⟨by unfold YN;omega,fun j hj=>?_⟩,by decide,t+1,by omega,by omega,?_⟩
                   . match j,hj with
                     |0,_=>exact⟨rfl,trivial,trivial⟩
                   . simp only[Ya]
                     refine⟨⟨⟨by omega,by omega⟩,by rw[Nat.add_assoc]⟩,rfl,by omega,fun q hq=>?_⟩
                     rcases YGN q (i+t)with h'|h'
                     . rw[if_pos h'];simp only[leL,le,and_self]
                     . obtain rfl:q=i+t:=by omega
                       rw[if_neg (Nat.lt_irrefl _),Nat.sub_self]
                       simp only[Yk,YO,YJ,leL,Nat.zero_mul,Yd3,refs,cond,le,dig,and_self]
                 . have hXT:X<32768^(i+t):=by
                     rcases YGN X (32768^(i+t))with h'|h'
                     . exact h'
                     . have:=Nat.div_pos h' (Yr (i+t))
                       generalize X/32768^(i+t)=c at*
                       omega
                   have hT:i+t<=90004:=by omega
                   generalize i+t=M at hXT hT⊢
                   (try dsimp only[YmZ,Ym1,v166,YGv,go_sem,reduceIte])
                   (try simp only[Yd,YGu,YGt,reduceCtorEq,YGs])
                   refine Loop.keep [0] Nat (fun j=>[(0,.own 0 0 j 1)]) (fun _=>[(0,.own false 1 M (fun k=>[.int .i64 (dig X k)]))]) [] (fun j=>j<=M/\X<32768^j) (fun j=>j) ?_ ?_
                   . refine⟨M,⟨YGH _,hXT⟩,?_⟩
                     (try dsimp only[go_sem,reduceIte])
                     simp only[Ya]
                     exact⟨by omega,by omega,by omega⟩
                   . rintro j ⟨hj,haj⟩
                     (try dsimp only[YGv,go_sem,reduceIte])
                     (try simp only[Yd,YGu,YGt,reduceCtorEq,YGs])
                     refine⟨fun hlt=>?_,fun hlt=>?_,fun hb=>?_,fun hb=>?_⟩
                     . rw[Ym (by omega) (by omega)];omega
                     . rw[Ym (by omega) (by omega)];omega
                     . rw[YGA,decide_eq_true_eq,decide_eq_true_eq]at hb
                       obtain⟨h1,h2⟩:=hb
                       rw[Ym (by omega) (by omega),YGv]at h2
                       refine⟨by rw[Ym (by omega) (by omega)];omega,j-1,⟨by omega,?_⟩,by omega,?_⟩
                       . obtain⟨m,rfl⟩:∃m,j=m+1:=⟨j-1,by omega⟩
                         exact Ybi haj (by simp at h2;exact_mod_cast h2)
                       . rw[Ym (by omega) (by omega)]
                         simp only[Ya] <;> simp [leL,le]
                     . have e:nl X=j:=by
                         refine YaK haj ?_
                         rw[YG9,decide_eq_false_iff_not,decide_eq_false_iff_not]at hb
                         rcases YG7 j with h0|h0
                         . exact .inl h0
                         . refine .inr fun hh=>hb.elim (fun h=>h (by omega)) fun h=>h ?_
                           rw[Ym h0 (by omega),YGv,hh];rfl
                       subst e
                       exact YaV h rfl rfl rfl fun j hj=>rfl
 . exact h.1.elim
def mulC:Ctr:={ alias:=false,of:=fun l=>match l with
 | [.vs _ _ n sz get,.vs _ _ m sz' get']=> .ex Nat fun a=> .ex Nat fun b=> .pre (padP a n sz get/\padP b m sz' get'/\n<=40000/\m<=40000) (.fin (natS false (a*b)) [])
 |_=>noC}
theorem Yzp{a b i k V:Nat}(h:V=(a%32768^i)*b+dig a i*(b%32768^k)*32768^i):
   V+dig a i*dig b k*32768^(i+k)=(a%32768^i)*b+dig a i*(b%32768^(k+1))*32768^i:=by
 rw[h,YaF b k,YGJ]
 generalize 32768^i=P
 generalize 32768^k=Q
 grind
theorem Yu5{a b i m:Nat}(hb:b<32768^m):(a%32768^i)*b+dig a i*(b%32768^m)*32768^i=(a%32768^(i+1))*b:=by
 rw[YaF a i,YHb hb]
 generalize 32768^i=P
 grind
theorem YoB(a b:Nat):∃W,W<1073741824/\∀i k,dig a i*dig b k<=W:=by
 obtain⟨U,hU⟩:∃U,U=32767:=⟨_,rfl⟩
 refine⟨U*U,by subst hU;decide,fun i k=>YGX ?_ ?_⟩
 . have:=YK a i;omega
 . have:=YK b k;omega
theorem YnR:mulC.ok YGw 149:=by
 refine Yb Tryz.func149 YBj YCj 300 mulC fun args k h=>?_
 simp only[mulC]at h
 split at h
 . rename_i t1 z1 n sz get t2 z2 m sz' get'
   obtain⟨a,b,⟨⟨rfl,hn,ha,hg⟩,⟨rfl,hm,hb,hg'⟩,hn9,hm9⟩,h⟩:=h
   refine⟨[.vs t1 z1 n 1 (fun k=>[.int .i64 (dig a k)]),.vs t2 z2 m 1 (fun k=>[.int .i64 (dig b k)])],⟨by simpa [le]using hg,by simpa [le]using hg',trivial⟩,?_⟩
   (try dsimp only[v149,go_sem,reduceIte])
   (try simp only[Yd,YGu,YGt,reduceCtorEq,YGs])
   obtain⟨W,hW,hWl⟩:=YoB a b
   have en:IntKind.i64.wrap ((n:Int)+(m:Int))=((n+m:Nat):Int):=by rw[YGy _ (by omega)];omega
   rw[en]
   simp only[YGv]
   refine⟨⟨by decide,by omega,by unfold YN;omega⟩,?_⟩
   refine Loop.keep [0,0,3] (Nat×(Nat->Nat)) (fun x=>[(6,.int .i64 x.1)]) (fun x=>[(0,.own false 1 (n+m) (fun k=>[.int .i64 (x.2 k)]))]) [] (fun x=>x.1<=n/\pre x.2 (n+m)=(a%32768^x.1)*b/\∀q,x.2 q<=x.1*W) (fun x=>n-x.1) ?_ ?_
   . refine⟨(0,fun _=>0),⟨YHl _,?_,fun q=>YHl _⟩,?_⟩
     . have:∀N,pre (fun _=>0) N=0:=fun N=>by
         induction N with
         |zero=>rfl
         |succ N ih=>show pre (fun _=>0) N+0*32768^N=0;rw[ih,Nat.zero_mul]
       rw[this];simp [Nat.mod_one]
     . (try dsimp only[go_sem,reduceIte])
       simp only[Ya]
       simp [leL,le]
   . rintro⟨i,R⟩ ⟨hi,hR,hRb⟩
     dsimp only at hi hR hRb
     (try dsimp only[YGv,go_sem,reduceIte])
     (try simp only[Yd,YGu,YGt,reduceCtorEq,YGs])
     refine⟨fun hlt=>?_,fun hge=>?_⟩
     . refine Loop.keep [0,0,3,0] (Nat×(Nat->Nat)) (fun x=>[(7,.int .i64 x.1)]) (fun x=>[(0,.own false 1 (n+m) (fun k=>[.int .i64 (x.2 k)]))]) [] (fun x=>x.1<=m/\pre x.2 (n+m)=(a%32768^i)*b+dig a i*(b%32768^x.1)*32768^i/\∀q,x.2 q<=(if q<i+x.1 then i+1 else i)*W) (fun x=>m-x.1) ?_ ?_
       . refine⟨(0,R),⟨YHl _,by simp [hR,Nat.mod_one],fun q=>?_⟩,?_⟩
         . have:=hRb q
           dsimp only
           split
           . exact YGF this (YGD _ (Nat.le_succ _))
           . exact this
         . (try dsimp only[go_sem,reduceIte])
           simp only[Ya]
           simp [leL,le]
       . rintro⟨j,S⟩ ⟨hj,hS,hSb⟩
         dsimp only at hj hS hSb
         (try dsimp only[YGv,go_sem,reduceIte])
         (try simp only[Yd,YGu,YGt,reduceCtorEq,YGs])
         refine⟨fun hlt2=>?_,fun hge2=>?_⟩
         . have w:IntKind.i64.wrap ((i:Int)+(j:Int))=((i+j:Nat):Int):=by rw[YGy _ (by omega)];omega
           have hp:=hWl i j
           have hiW:i*W<=40000*1073741824:=YGX (by omega) (by omega)
           have hs:=hSb (i+j)
           rw[if_neg (Nat.lt_irrefl _)]at hs
           have e:IntKind.i64.wrap ((S (i+j):Int)+IntKind.i64.wrap ((dig a i:Int)*(dig b j:Int)))=((S (i+j)+dig a i*dig b j:Nat):Int):=by
             rw[<-Int.natCast_mul]
             generalize dig a i*dig b j=p at hp⊢
             generalize i*W=v at hs hiW
             rw[YGy (p:Int) (by omega),YGy _ (by omega)];omega
           rw[w]
           simp only[YGv]
           refine⟨⟨by omega,by omega⟩,by omega,⟨by omega,by omega⟩,⟨by omega,by omega⟩,⟨by omega,by omega⟩,by omega,(j+1,fun q=>if q=i+j then S q+dig a i*dig b j else S q),⟨by dsimp only;omega,?_,fun q=>?_⟩,by dsimp only;omega,?_⟩
           . dsimp only
             rw[Yr1 S (i+j) (dig a i*dig b j) (n+m) (by omega)]
             exact Yzp hS
           . dsimp only
             have hq:=hSb q
             rcases Nat.lt_trichotomy q (i+j)with h'|h'|h'
             . rw[if_pos h']at hq
               rw[if_neg (by omega),if_pos (by omega)];exact hq
             . subst h'
               rw[if_pos rfl,if_pos (by omega),YHN]
               exact Nat.add_le_add hs hp
             . rw[if_neg (by omega)]at hq
               rw[if_neg (by omega),if_neg (by omega)];exact hq
           . rw[e,YGy ((j:Int)+1) (by omega)]
             simp only[Ya]
             refine⟨⟨by omega,by omega⟩,fun q hq=>?_⟩
             rcases Nat.lt_trichotomy q (i+j)with h'|h'|h'
             . rw[if_neg (by omega),if_neg (by omega)];simp only[leL,le,and_self]
             . subst h';rw[if_pos rfl,if_pos rfl];simp only[leL,le,and_self]
             . rw[if_neg (by omega),if_neg (by omega)];simp only[leL,le,and_self]
         . obtain rfl:j=m:=by omega
           refine⟨(i+1,S),⟨by dsimp only;omega,?_,fun q=>?_⟩,by dsimp only;omega,?_⟩
           . dsimp only
             rw[hS];exact Yu5 hb
           . have:=hSb q
             dsimp only
             split at this
             . exact this
             . exact YGF this (YGD _ (Nat.le_succ _))
           . rw[YGy ((i:Int)+1) (by omega)]
             simp only[Ya]
             exact⟨by omega,by omega⟩
     . obtain rfl:i=n:=by omega
       have hX:pre R (i+m)=a*b:=by rw[hR,YHb ha]
       have hQ:∀q,q<i+m->R q<=32767*35184372088832:=fun q _=>by
         have:=hRb q
         have hiW:i*W<=40000*1073741824:=YGX (by omega) (by omega)
         omega
       have hN:i+m<=90000:=by omega
       generalize i+m=N at hX hQ hN⊢
       generalize a*b=X at hX h
       have hXN:X<32768^(N+4):=hX▸Ywp R 35184372088832 N (by decide) hQ
       (try dsimp only[YmY,Ym0,v151,YGv,go_sem,reduceIte])
       (try simp only[Yd,YGu,YGt,reduceCtorEq,YGs])
       refine Loop.keep [0,2,0] Nat (fun i=>[(3,.int .i64 ((pre R i/32768^i:Nat):Int)),(4,.int .i64 i)]) (fun i=>[(0,.own false 1 N (fun k=>[.int .i64 ((if k<i then dig X k else R k:Nat):Int)]))]) [] (fun i=>i<=N) (fun i=>N-i) ?_ ?_
       . refine⟨0,by omega,?_⟩
         (try dsimp only[go_sem,reduceIte])
         simp only[Ya]
         simp [pre]
       . rintro i hi
         (try dsimp only[YGv,go_sem,reduceIte])
         (try simp only[Yd,YGu,YGt,reduceCtorEq,YGs])
         refine⟨fun hlt=>?_,fun hge=>?_⟩
         . have hin:i<N:=by omega
           refine⟨⟨by omega,by omega⟩,hin,by decide,⟨by omega,by omega⟩,hin,by decide,i+1,by omega,by omega,?_⟩
           have hc:=Yvi R 35184372088832 i fun q hq=>hQ q (by omega)
           have hr:=hQ i hin
           have e:IntKind.i64.wrap (((pre R i/32768^i:Nat):Int)+((if i<i then dig X i else R i:Nat):Int))=((R i+pre R i/32768^i:Nat):Int):=by
             rw[if_neg (Nat.lt_irrefl _)]
             generalize pre R i/32768^i=c at hc
             generalize R i=r at hr
             rw[YGy _ (by omega)];omega
           have hx:R i+pre R i/32768^i<=9223372036854775807:=by
             generalize pre R i/32768^i=c at hc
             omega
           rw[e,YGy ((i:Int)+1) (by omega),Yq6,Yq5 hx,YrX R hin,Ywo,hX]
           simp only[Ya]
           refine⟨⟨by omega,by simp⟩,⟨by omega,by omega⟩,fun q hq=>?_⟩
           rcases Nat.lt_trichotomy q i with h'|h'|h'
           . rw[if_neg (by omega),if_pos h',if_pos (by omega)];simp only[leL,le,and_self]
           . subst h';rw[if_pos rfl,if_pos (by omega)];simp only[leL,le,and_self]
           . rw[if_neg (by omega),if_neg (by omega),if_neg (by omega)];simp only[leL,le,and_self]
         . obtain rfl:i=N:=by omega
           rw[hX]
           refine Loop.keepP 0 [0,2] Nat (fun t=>[(0,.own 0 0 (i+t) 1),(3,.int .i64 ((X/32768^(i+t):Nat):Int))]) (fun t=>[(0,.own false 1 (i+t) (fun k=>[.int .i64 (dig X k)]))]) [] (fun t=>t<=4) (fun t=>4-t) ?_ ?_
           . refine⟨0,by omega,?_⟩
             (try dsimp only[go_sem,reduceIte])
             simp only[Ya]
             refine⟨⟨⟨by omega,by omega⟩,by simp⟩,by omega,fun q hq=>by rw[if_pos hq]⟩
           . rintro t ht
             (try dsimp only[YGv,go_sem,reduceIte])
             (try simp only[Yd,YGu,YGt,reduceCtorEq,YGs])
             refine⟨fun hlt=>?_,fun hge=>?_⟩
             . have ht4:t<4:=by
                 rcases YGN t 4 with h'|h'
                 . exact h'
                 . obtain rfl:t=4:=by omega
                   rw[YHs hXN]at hlt;exact absurd hlt (by decide)
               have hc:=Yvi R 35184372088832 i hQ
               rw[hX]at hc
               generalize hc0:X/32768^i=c0 at hc
               have hc2:X/32768^(i+t)<=c0:=by
                 rw[<-hc0];rw[YGJ,<-YGL];exact YHr _ _
               have hx:X/32768^(i+t)<=9223372036854775807:=YGF hc2 (by omega)
               rw[Yq6,Yq5 hx,YGL,<-YB]
               (try dsimp only[go_sem,reduceIte])
               (try simp only[Yd,YGu,YGt,reduceCtorEq,YGs])
               refine⟨by decide,by decide,⟨by unfold YN;omega,fun j hj=>?_⟩,by decide,t+1,by omega,by omega,?_⟩
               . match j,hj with
                 |0,_=>exact⟨rfl,trivial,trivial⟩
               . simp only[Ya]
                 refine⟨⟨⟨by omega,by omega⟩,by rw[Nat.add_assoc]⟩,rfl,by omega,fun q hq=>?_⟩
                 rcases YGN q (i+t)with h'|h'
                 . rw[if_pos h'];simp only[leL,le,and_self]
                 . obtain rfl:q=i+t:=by omega
                   rw[if_neg (Nat.lt_irrefl _),Nat.sub_self]
                   simp only[Yk,YO,YJ,leL,Nat.zero_mul,Yd3,refs,cond,le,dig,and_self]
             . have hXT:X<32768^(i+t):=by
                 rcases YGN X (32768^(i+t))with h'|h'
                 . exact h'
                 . have:=Nat.div_pos h' (Yr (i+t))
                   generalize X/32768^(i+t)=c at*
                   omega
               have hT:i+t<=90004:=by omega
               generalize i+t=M at hXT hT⊢
               (try dsimp only[YmZ,Ym1,v166,YGv,go_sem,reduceIte])
               (try simp only[Yd,YGu,YGt,reduceCtorEq,YGs])
               refine Loop.keep [0] Nat (fun j=>[(0,.own 0 0 j 1)]) (fun _=>[(0,.own false 1 M (fun k=>[.int .i64 (dig X k)]))]) [] (fun j=>j<=M/\X<32768^j) (fun j=>j) ?_ ?_
               . refine⟨M,⟨YGH _,hXT⟩,?_⟩
                 (try dsimp only[go_sem,reduceIte])
                 simp only[Ya]
                 exact⟨by omega,by omega,by omega⟩
               . rintro j ⟨hj,haj⟩
                 (try dsimp only[YGv,go_sem,reduceIte])
                 (try simp only[Yd,YGu,YGt,reduceCtorEq,YGs])
                 refine⟨fun hlt=>?_,fun hlt=>?_,fun hb=>?_,fun hb=>?_⟩
                 . rw[Ym (by omega) (by omega)];omega
                 . rw[Ym (by omega) (by omega)];omega
                 . rw[YGA,decide_eq_true_eq,decide_eq_true_eq]at hb
                   obtain⟨h1,h2⟩:=hb
                   rw[Ym (by omega) (by omega),YGv]at h2
                   refine⟨by rw[Ym (by omega) (by omega)];omega,j-1,⟨by omega,?_⟩,by omega,?_⟩
                   . obtain⟨m,rfl⟩:∃m,j=m+1:=⟨j-1,by omega⟩
                     exact Ybi haj (by simp at h2;exact_mod_cast h2)
                   . rw[Ym (by omega) (by omega)]
                     simp only[Ya] <;> simp [leL,le]
                 . have e:nl X=j:=by
                     refine YaK haj ?_
                     rw[YG9,decide_eq_false_iff_not,decide_eq_false_iff_not]at hb
                     rcases YG7 j with h0|h0
                     . exact .inl h0
                     . refine .inr fun hh=>hb.elim (fun h=>h (by omega)) fun h=>h ?_
                       rw[Ym h0 (by omega),YGv,hh];rfl
                   subst e
                   exact YaV h rfl rfl rfl fun j hj=>rfl
 . exact h.1.elim
def v163:VF:=⟨19,[.tmp 4],(ZR [u1 4 .mov [.cn .nil]] (ZR [Zm 6 1,u1 7 .quo [.tm 6,.cn (.int .i64 15)],u1 8 (.make 1 8 [(.int .i64 0)]) [.tm 7,.tm 7],Zm 5 8] (ZR [Zm 9 5,Zm 10 0,Zm 11 1,u1 12 .rem [.tm 11,.cn (.int .i64 15)],u1 13 (.conv .u64) [.tm 12],u1 14 .shl [.cn (.int .i64 1),.tm 13],Zc 15 148 14,Zd 16 149 10 15,u1 17 (.append 1 8 [(.int .i64 0)]) [.tm 9,.tm 16],Zc 18 166 17,Zm 4 18] .ret)))⟩
theorem YBx:Yf YGw Tryz.f163=some v163:=by kernel_rfl
def v164:VF:=⟨40,[.tmp 6],(ZR [u1 6 .mov [.cn .nil]] (ZR [Zm 11 0,Zm 12 0,Zd 13 149 11 12,Zm 7 13] (ZR [Zm 14 1,u1 15 .quo [.tm 14,.cn (.int .i64 15)],Zm 16 7,Zl 17 16,u1 18 .min [.tm 15,.tm 17],Zm 8 18] (ZR [u1 19 (.buildSlice 1 0 [(.int .i64 0)] []) [],Zm 20 7,Zm 21 8,u1 22 (.slice 1 false true) [.tm 20,.tm 21],u1 23 (.append 1 8 [(.int .i64 0)]) [.tm 19,.tm 22],Zc 24 166 23,Zm 9 24] (ZR [u1 25 (.buildSlice 1 0 [(.int .i64 0)] []) [],Zm 26 7,Zm 27 8,u1 28 (.slice 1 true false) [.tm 26,.tm 27],u1 29 (.append 1 8 [(.int .i64 0)]) [.tm 25,.tm 28],Zm 10 29] (.seq (ZR [Zm 30 2,Zm 31 30,Zg 32 31 true 9,u2 33 31 true .len [.tm 32],u2 34 31 true (.cmp .gtr) [.tm 33,.cn (.int .i64 0)],u1 35 .and [.tm 31,.tm 34]] (ZC 35 (.region [Zm 36 10,u1 37 (.call 148) [.cn (.int .i64 1)],Zd 38 132 36 37,Zm 10 38]) .skip)) (ZR [Zm 39 10,Zm 6 39] .ret)))))))⟩
theorem YBy:Yf YGw Tryz.f164=some v164:=by kernel_rfl
def v165:VF:=⟨38,[.tmp 4],(ZR [u1 4 .mov [.cn .nil]] (.seq (ZR [Zm 8 1] (ZC 8 (.region [Zm 9 0,u1 10 (.call 148) [.cn (.int .i64 1)],Zd 11 132 9 10,Zm 0 11]) .skip)) (ZR [Zm 12 0,Zl 13 12,u1 14 (.make 1 8 [(.int .i64 0)]) [.tm 13,.tm 13],Zm 5 14] (ZR [Zi 6 0] (.seq (ZR [Zm 15 0,Zl 16 15,u1 17 (.ari .sub) [.tm 16,.cn (.int .i64 1)],Zm 7 17] (.block 0 (.loop (.seq (ZR [Zm 18 7,Zq 19 .geq 18 0] (ZC 19 .skip (.exit 0))) (.seq (.block 1 (ZR [Zm 22 6,u1 23 (.ari .mul) [.cn (.int .i64 32768),.tm 22],Zm 24 0,Zm 25 7,Zx 26 1 24 25,Zf 27 1 26,Zo 28 .add 23 27,Zm 6 28] (ZR [Zm 29 5,Zm 30 7,Zm 31 6,u1 32 .quo [.tm 31,.cn (.int .i64 2)],Zx 33 1 29 30,Zs 1 33 32] (.region [Zm 34 6,u1 35 .rem [.tm 34,.cn (.int .i64 2)],Zm 6 35])))) (.region [Zm 20 7,u1 21 (.ari .sub) [.tm 20,.cn (.int .i64 1)],Zm 7 21])))))) (ZR [Zm 36 5,Zc 37 166 36,Zm 4 37] .ret))))))⟩
theorem YBz:Yf YGw Tryz.f165=some v165:=by kernel_rfl
theorem Yyo(y s k:Nat):dig (y*32768^s) k=if k<s then 0 else dig y (k-s):=by
 unfold dig
 split
 . rename_i h
   obtain⟨d,rfl⟩:∃d,s=k+(d+1):=⟨s-k-1,by omega⟩
   rw[YGJ,<-YGE,Nat.mul_right_comm,Nat.mul_div_cancel _ (Yr k),YB,<-YGE,Nat.mul_mod_left]
 . rename_i h
   obtain⟨d,rfl⟩:∃d,k=s+d:=⟨k-s,by omega⟩
   rw[YGJ,<-YGL,Nat.mul_div_cancel _ (Yr s),Nat.add_sub_cancel_left]
theorem YwE(a n:Nat):a*2^(n%15)*32768^(n/15)=a*2^n:=by
 have:(32768:Nat)=2^15:=by decide
 rw[this,<-YHj,YGE,<-YGJ,Nat.mod_add_div]
def shiftC:Ctr:={ alias:=false,of:=fun l=>match l with
 | [.vs _ _ n sz get,.int .i64 q]=> .ex Nat fun a=> .pre (padP a n sz get/\n<=30000/\0<=q/\q<=300000) (.fin (natS false (a*2^q.toNat)) [])
 |_=>noC}
def Q2:Env:={ ct:=fun n=>match n with|148=>some limbsC|149=>some mulC|132=>some addC|_=>none,fn:=fun n=>match n with|166=>some v166|_=>none,meth:=fun _ _=>none}
theorem Ygv:Q2.ct 148=some limbsC:=rfl
theorem Ym2:Q2.ct 149=some mulC:=rfl
theorem YiK:Q2.ct 132=some addC:=rfl
theorem YiL:Q2.ct 166=none:=rfl
theorem YiM:Q2.fn 166=some v166:=rfl
theorem Yxm:Yq YGw Q2:=by
 refine⟨fun f c h=>?_,fun f vf h=>?_,(fun _ _ _ h=>by cases h),by kernel_rfl,(fun _ h=>by cases h)⟩
 . simp only[Q2]at h
   split at h
   . cases h;exact⟨YjK,Tryz.f148,Tryz.func148,by kernel_rfl,by kernel_rfl⟩
   . cases h;exact⟨YnR,Tryz.f149,Tryz.func149,by kernel_rfl,by kernel_rfl⟩
   . cases h;exact⟨Yf5,Tryz.f132,Tryz.func132,by kernel_rfl,by kernel_rfl⟩
   . cases h
 . simp only[Q2]at h
   split at h
   . cases h;exact⟨Tryz.f166,Tryz.func166,YsV,Tryz.f166,Tryz.func166,by kernel_rfl,by kernel_rfl⟩
   . cases h
theorem Ybw:shiftC.ok YGw 163:=by
 refine Yb Tryz.func163 YBx Yxm 300 shiftC fun args k h=>?_
 simp only[shiftC]at h
 split at h
 . rename_i t1 z1 n sz get q
   obtain⟨a,⟨⟨rfl,hn,ha,hg⟩,hn9,h0,h1⟩,h⟩:=h
   obtain⟨q,rfl⟩:=YGT h0
   rw[YGv]at h
   refine⟨[.vs t1 z1 n 1 (fun k=>[.int .i64 (dig a k)]),.int .i64 q],⟨by simpa [le]using hg,⟨rfl,rfl⟩,trivial⟩,?_⟩
   (try dsimp only[v163,Ygv,Ym2,limbsC,mulC,natS,YGv,go_sem,reduceIte])
   (try simp only[Yd,YGu,YGt,reduceCtorEq,YGs])
   have w1:IntKind.i64.wrap ((q:Int).tdiv 15)=((q/15:Nat):Int):=by
     have:(q:Int).tdiv 15=((q/15:Nat):Int):=YHq (y:=15) rfl rfl
     rw[this,YGy _ (by omega)]
   have w2:IntKind.u64.wrap ((q:Int).tmod 15)=((q%15:Nat):Int):=by
     have:(q:Int).tmod 15=((q%15:Nat):Int):=YHR (y:=15) rfl rfl
     rw[this,YGR _ (by omega)]
   have hp:2^(q%15)<32768:=YG1 (YHu (by decide) (YG0 _ (by decide)):2^(q%15)<2^15) (by decide)
   have w3:IntKind.i64.wrap (1*2^min (q%15) 64)=((2^(q%15):Nat):Int):=by
     have e4:min (q%15) 64=q%15:=by omega
     have e5:(1:Int)*2^(q%15)=((2^(q%15):Nat):Int):=by simp
     rw[e4,e5]
     generalize 2^(q%15)=P at hp⊢
     exact YGy _ (by omega)
   have hp2:(0:Int)<=((2^(q%15):Nat):Int)/\((2^(q%15):Nat):Int)<=9223372036854775807:=by
     generalize 2^(q%15)=P at hp⊢
     omega
   rw[w1,w2]
   simp only[YGv]
   simp only[w3,YGv]
   have hl1:nl (2^(q%15))<=1:=nl_le.2 (by simpa using hp)
   have hX:a*2^(q%15)<32768^(n+1):=by
     rw[YB];exact Nat.mul_lt_mul'' ha hp
   have hl2:=nl_le.2 hX
   refine⟨by decide,⟨by decide,by omega,by omega,by unfold YN;omega⟩,by decide,by omega,hp2,a,2^(q%15),⟨Yz hn ha,Yc (by omega),by omega,by omega⟩,by unfold YN;omega,?_⟩
   have eR:(fun k=>if k<q/15 then [SV.int .i64 0]else [SV.int .i64 ((dig (a*2^(q%15)) (k-q/15):Nat):Int)])=fun k=>[SV.int .i64 ((dig (a*2^q) k:Nat):Int)]:=by
     funext k
     rw[<-YwE a q,Yyo]
     split
     . rfl
     . rfl
   rw[eR,YHx]
   have hT:q/15+nl (a*2^(q%15))<=90004:=by omega
   have hXT:a*2^q<32768^(q/15+nl (a*2^(q%15))):=by
     rw[<-YwE a q,Nat.add_comm,YGJ]
     exact Nat.mul_lt_mul_of_pos_right (YbQ _) (Yr _)
   generalize q/15+nl (a*2^(q%15))=M at hXT hT⊢
   generalize a*2^q=X at hXT h⊢
   (try dsimp only[YiL,YiM,v166,YGv,go_sem,reduceIte])
   (try simp only[Yd,YGu,YGt,reduceCtorEq,YGs])
   refine Loop.keep [0] Nat (fun j=>[(0,.own 0 0 j 1)]) (fun _=>[(0,.own false 1 M (fun k=>[.int .i64 (dig X k)]))]) [] (fun j=>j<=M/\X<32768^j) (fun j=>j) ?_ ?_
   . refine⟨M,⟨YGH _,hXT⟩,?_⟩
     (try dsimp only[go_sem,reduceIte])
     simp only[Ya]
     omega
   . rintro j ⟨hj,haj⟩
     (try dsimp only[YGv,go_sem,reduceIte])
     (try simp only[Yd,YGu,YGt,reduceCtorEq,YGs])
     refine⟨fun hlt=>?_,fun hlt=>?_,fun hb=>?_,fun hb=>?_⟩
     . rw[Ym (by omega) (by omega)];omega
     . rw[Ym (by omega) (by omega)];omega
     . rw[YGA,decide_eq_true_eq,decide_eq_true_eq]at hb
       obtain⟨h1,h2⟩:=hb
       rw[Ym (by omega) (by omega),YGv]at h2
       refine⟨by rw[Ym (by omega) (by omega)];omega,j-1,⟨by omega,?_⟩,by omega,?_⟩
       . obtain⟨m,rfl⟩:∃m,j=m+1:=⟨j-1,by omega⟩
         exact Ybi haj (by simp at h2;exact_mod_cast h2)
       . rw[Ym (by omega) (by omega)]
         simp only[Ya] <;> simp [leL,le]
     . have e:nl X=j:=by
         refine YaK haj ?_
         rw[YG9,decide_eq_false_iff_not,decide_eq_false_iff_not]at hb
         rcases YG7 j with h0|h0
         . exact .inl h0
         . refine .inr fun hh=>hb.elim (fun h=>h (by omega)) fun h=>h ?_
           rw[Ym h0 (by omega),YGv,hh];rfl
       subst e
       exact YaV h rfl rfl rfl fun j hj=>rfl
 . exact h.1.elim
def halveC:Ctr:={ alias:=false,of:=fun l=>match l with
 | [.vs _ _ n sz get,.bool up]=> .ex Nat fun a=> .pre (padP a n sz get/\n<=40000) (.fin (natS false ((a+(if up then 1 else 0))/2)) [])
 |_=>noC}
theorem YyN(a i:Nat):(32768*(a/32768^(i+1)%2)+dig a i)%2=a/32768^i%2:=by
 unfold dig;rw[YB,<-YGL]
 generalize a/32768^i=y
 omega
theorem YuK(a i:Nat):(32768*(a/32768^(i+1)%2)+dig a i)/2=dig (a/2) i:=by
 unfold dig;rw[YB,<-YGL,YGL a 2,YGC 2,<-YGL a]
 generalize a/32768^i=y
 omega
theorem YuL:halveC.ok YGw 165:=by
 refine Yb Tryz.func165 YBz Yxm 300 halveC fun args k h=>?_
 simp only[halveC]at h
 split at h
 . rename_i t1 z1 n sz get up
   obtain⟨a,⟨⟨rfl,hn,ha,hg⟩,hn9⟩,h⟩:=h
   refine⟨[.vs t1 z1 n 1 (fun k=>[.int .i64 (dig a k)]),.bool up],⟨by simpa [le]using hg,rfl,trivial⟩,?_⟩
   (try dsimp only[v165,Ygv,YiK,limbsC,addC,natS,YGv,go_sem,reduceIte])
   (try simp only[Yd,YGu,YGt,reduceCtorEq,YGs])
   refine⟨fun hup=>⟨⟨by decide,by decide⟩,a,1,⟨Yz hn ha,Yc (by decide),by omega,by decide⟩,?_⟩,fun hup=>⟨?_,?_⟩⟩
   all_goals subst hup
   all_goals first
     |exact⟨by decide,by omega,by omega,by unfold YN;omega⟩
     | (have hl:nl (a+1)<=n+1:=nl_le.2 (by rw[YB];omega)
        refine⟨⟨by decide,by omega,by omega,by unfold YN;omega⟩,?_⟩
        have hY:=YbQ (a+1)
        have hL:nl (a+1)<=40001:=by omega
        have h:CSat (CRes.fin (natS false ((a+1)/2)) []) k:=h
        generalize nl (a+1)=L at hY hL⊢
        generalize a+1=Y at hY h⊢)
     | (have hY:=ha
        have hL:n<=40001:=by omega
        have h:CSat (CRes.fin (natS false (a/2)) []) k:=h
        generalize n=L at hY hL⊢
        generalize a=Y at hY h⊢)
   all_goals
     refine Loop.keep [0,4] Nat (fun j=>[(6,.int .i64 ((Y/32768^j%2:Nat):Int)),(7,.int .i64 ((j:Int)-1))]) (fun j=>[(0,.own false 1 L (fun k=>[.int .i64 ((if j<=k then dig (Y/2) k else 0:Nat):Int)]))]) [] (fun j=>j<=L) (fun j=>j) ?_ ?_
     . refine⟨L,YGH _,?_⟩
       (try dsimp only[go_sem,reduceIte])
       simp only[Ya]
       rw[YHs hY,YGy _ (by omega)]
       refine⟨⟨by omega,by simp,rfl⟩,fun q hq=>?_⟩
       rw[if_neg (by omega)];rfl
     . rintro j hj
       (try dsimp only[YGv,go_sem,reduceIte])
       (try simp only[Yd,YGu,YGt,reduceCtorEq,YGs])
       refine⟨fun hlt=>?_,fun hge=>?_⟩
       . obtain⟨i,rfl⟩:∃i,j=i+1:=⟨j-1,by omega⟩
         have e0:((i+1:Nat):Int)-1=i:=by omega
         rw[e0]
         simp only[YGv]
         refine⟨⟨by omega,by omega⟩,by decide,⟨by omega,by omega⟩,by omega,by decide,i,by omega,by omega,?_⟩
         have h1:=YyN Y i
         have h2:=YuK Y i
         have h3:=YK Y i
         have h4:Y/32768^(i+1)%2<2:=YG0 _ (by decide)
         generalize Y/32768^(i+1)%2=c at h1 h2 h4⊢
         have e1:IntKind.i64.wrap (IntKind.i64.wrap (32768*(c:Int))+((dig Y i:Nat):Int))=((32768*c+dig Y i:Nat):Int):=by
           rw[YGy (32768*(c:Int)) (by omega),YGy _ (by omega)];omega
         have e2:((32768*c+dig Y i:Nat):Int).tmod 2=((Y/32768^i%2:Nat):Int):=by
           rw[<-h1];exact YHR (y:=2) rfl rfl
         have e3:IntKind.i64.wrap (((32768*c+dig Y i:Nat):Int).tdiv 2)=((dig (Y/2) i:Nat):Int):=by
           rw[<-h2]
           have:((32768*c+dig Y i:Nat):Int).tdiv 2=(((32768*c+dig Y i)/2:Nat):Int):=YHq (y:=2) rfl rfl
           rw[this,YGy _ (by omega)]
         rw[e1,e2,e3,YGy ((i:Int)-1) (by omega)]
         simp only[Ya]
         refine⟨by omega,fun q hq=>?_⟩
         rcases Nat.lt_trichotomy q i with h'|h'|h'
         . rw[if_neg (by omega),if_neg (by omega),if_neg (by omega)];simp only[leL,le,and_self]
         . subst h';rw[if_pos rfl,if_pos (by omega)];simp only[leL,le,and_self]
         . rw[if_neg (by omega),if_pos (by omega),if_pos (by omega)];simp only[leL,le,and_self]
       . obtain rfl:j=0:=by omega
         have eR:(fun k=>[SV.int .i64 ((if 0<=k then dig (Y/2) k else 0:Nat):Int)])=fun k=>[SV.int .i64 ((dig (Y/2) k:Nat):Int)]:=by
           funext k;rw[if_pos (YHl _)]
         rw[eR]
         have hXT:Y/2<32768^L:=YGU (YHr _ _) hY
         have hT:L<=90004:=by omega
         generalize Y/2=X at hXT h⊢
         generalize L=M at hXT hT⊢
         (try dsimp only[YiL,YiM,v166,YGv,go_sem,reduceIte])
         (try simp only[Yd,YGu,YGt,reduceCtorEq,YGs])
         refine Loop.keep [0] Nat (fun j=>[(0,.own 0 0 j 1)]) (fun _=>[(0,.own false 1 M (fun k=>[.int .i64 (dig X k)]))]) [] (fun j=>j<=M/\X<32768^j) (fun j=>j) ?_ ?_
         . refine⟨M,⟨YGH _,hXT⟩,?_⟩
           (try dsimp only[go_sem,reduceIte])
           simp only[Ya]
           omega
         . rintro j ⟨hj,haj⟩
           (try dsimp only[YGv,go_sem,reduceIte])
           (try simp only[Yd,YGu,YGt,reduceCtorEq,YGs])
           refine⟨fun hlt=>?_,fun hlt=>?_,fun hb=>?_,fun hb=>?_⟩
           . rw[Ym (by omega) (by omega)];omega
           . rw[Ym (by omega) (by omega)];omega
           . rw[YGA,decide_eq_true_eq,decide_eq_true_eq]at hb
             obtain⟨h1,h2⟩:=hb
             rw[Ym (by omega) (by omega),YGv]at h2
             refine⟨by rw[Ym (by omega) (by omega)];omega,j-1,⟨by omega,?_⟩,by omega,?_⟩
             . obtain⟨m,rfl⟩:∃m,j=m+1:=⟨j-1,by omega⟩
               exact Ybi haj (by simp at h2;exact_mod_cast h2)
             . rw[Ym (by omega) (by omega)]
               simp only[Ya] <;> simp [leL,le]
           . have e:nl X=j:=by
               refine YaK haj ?_
               rw[YG9,decide_eq_false_iff_not,decide_eq_false_iff_not]at hb
               rcases YG7 j with h0|h0
               . exact .inl h0
               . refine .inr fun hh=>hb.elim (fun h=>h (by omega)) fun h=>h ?_
                 rw[Ym h0 (by omega),YGv,hh];rfl
             subst e
             exact YaV h rfl rfl rfl fun j hj=>rfl
 . exact h.1.elim
def sqN(a s:Nat)(up:Bool):Nat:=if up/\a*a%32768^s≠0 then a*a/32768^s+1 else a*a/32768^s
def squareC:Ctr:={ alias:=false,of:=fun l=>match l with
 | [.vs _ _ n sz get,.int .i64 q,.bool up]=> .ex Nat fun a=> .pre (padP a n sz get/\n<=20000/\0<=q/\q<=300000) (.all Bool fun z=> .fin (natS z (sqN a (q.toNat/15) up)) [])
 |_=>noC}
theorem YE8{x s M:Nat}(hM:min s (nl x)=M):x/32768^s=x/32768^M/\x%32768^s=x%32768^M/\nl (x/32768^M)=nl x-M:=by
 have hnl:nl (x/32768^M)=nl x-M:=by
   rcases YG7 x with h0|h0
   . subst h0;rw[Nat.zero_div,nl_0,Nat.zero_sub]
   . have hMl:M<=nl x:=by omega
     have h1:x/32768^M<32768^(nl x-M):=by
       rw[YGY (Yr M),<-YGJ,Nat.sub_add_cancel hMl];exact YbQ x
     refine YaK h1 ?_
     rcases Nat.eq_or_lt_of_le hMl with h|h
     . exact .inl (by omega)
     . refine .inr ?_
       rw[Ydb,show M+(nl x-M-1)=nl x-1 by omega]
       exact YnU (by omega)
 rcases YGN s (nl x)with h|h
 . obtain rfl:M=s:=by omega
   exact⟨rfl,rfl,hnl⟩
 . obtain rfl:M=nl x:=by omega
   have h1:=YbQ x
   have h2:=nl_le.1 h
   exact⟨by rw[YHs h1,YHs h2],by rw[YHb h1,YHb h2],hnl⟩
theorem YsI:squareC.ok YGw 164:=by
 refine Yb Tryz.func164 YBy Yxm 300 squareC fun args k h=>?_
 simp only[squareC]at h
 split at h
 . rename_i t1 z1 n sz get q up
   obtain⟨a,⟨⟨rfl,hn,ha,hg⟩,hn9,h0,h1⟩,h⟩:=h
   obtain⟨q,rfl⟩:=YGT h0
   rw[YGv]at h
   refine⟨[.vs t1 z1 n 1 (fun k=>[.int .i64 (dig a k)]),.int .i64 q,.bool up],⟨by simpa [le]using hg,⟨rfl,rfl⟩,rfl,trivial⟩,?_⟩
   (try dsimp only[v164,Ygv,Ym2,YiK,addC,limbsC,mulC,natS,YGv,go_sem,reduceIte])
   (try simp only[Yd,YGu,YGt,reduceCtorEq,YGs])
   have w1:IntKind.i64.wrap ((q:Int).tdiv 15)=((q/15:Nat):Int):=by
     have:(q:Int).tdiv 15=((q/15:Nat):Int):=YHq (y:=15) rfl rfl
     rw[this,YGy _ (by omega)]
   have hX:a*a<32768^(n+n):=by rw[YGJ];exact Nat.mul_lt_mul'' ha ha
   have hl:=nl_le.2 hX
   rw[w1]
   refine⟨a,a,⟨Yz hn ha,Yz hn ha,by omega⟩,by decide,by decide,?_⟩
   have e1:min ((q/15:Nat):Int) ((nl (a*a):Nat):Int)=((min (q/15) (nl (a*a)):Nat):Int):=by omega
   simp only[e1,YGv,YHC]
   refine⟨⟨by omega,by omega⟩,by unfold YN;omega,?_⟩
   generalize hM:min (q/15) (nl (a*a))=M
   generalize hXX:a*a%32768^M=X
   have hXT:X<32768^M:=hXX▸YG0 _ (Yr M)
   have hT:M<=90004:=by omega
   (try dsimp only[YiL,YiM,v166,YGv,go_sem,reduceIte])
   (try simp only[Yd,YGu,YGt,reduceCtorEq,YGs])
   refine Loop.keep [0] Nat (fun j=>[(0,.own 0 0 j 1)]) (fun _=>[(0,.own false 1 M (fun k=>[.int .i64 (dig X k)]))]) [] (fun j=>j<=M/\X<32768^j) (fun j=>j) ?_ ?_
   . refine⟨M,⟨YGH _,hXT⟩,?_⟩
     (try dsimp only[go_sem,reduceIte])
     simp only[Ya]
     refine⟨by omega,by omega,by simp,fun k' hk=>?_⟩
     rw[if_neg (YHH _),<-hXX,YbD hk]
     simp only[leL,le,Nat.sub_zero,and_self]
   . rintro j ⟨hj,haj⟩
     (try dsimp only[YGv,go_sem,reduceIte])
     (try simp only[Yd,YGu,YGt,reduceCtorEq,YGs])
     refine⟨fun hlt=>?_,fun hlt=>?_,fun hb=>?_,fun hb=>?_⟩
     . rw[Ym (by omega) (by omega)];omega
     . rw[Ym (by omega) (by omega)];omega
     . rw[YGA,decide_eq_true_eq,decide_eq_true_eq]at hb
       obtain⟨h1,h2⟩:=hb
       rw[Ym (by omega) (by omega),YGv]at h2
       refine⟨by rw[Ym (by omega) (by omega)];omega,j-1,⟨by omega,?_⟩,by omega,?_⟩
       . obtain⟨m,rfl⟩:∃m,j=m+1:=⟨j-1,by omega⟩
         exact Ybi haj (by simp at h2;exact_mod_cast h2)
       . rw[Ym (by omega) (by omega)]
         simp only[Ya] <;> simp [leL,le]
     . have e:nl X=j:=by
         refine YaK haj ?_
         rw[YG9,decide_eq_false_iff_not,decide_eq_false_iff_not]at hb
         rcases YG7 j with h0|h0
         . exact .inl h0
         . refine .inr fun hh=>hb.elim (fun h=>h (by omega)) fun h=>h ?_
           rw[Ym h0 (by omega),YGv,hh];rfl
       subst e
       (try dsimp only[go_sem,reduceIte])
       (try simp only[Yd,YGu,YGt,reduceCtorEq,YGs])
       obtain⟨c1,c2,c3⟩:=YE8 hM
       have hle:YhH (nl (a*a)) M=nl (a*a)-M:=by unfold YhH;split <;> omega
       have hadd:∀k,Yca M k=M+k:=fun k=>by unfold Yca;split <;> omega
       refine⟨by decide,⟨by omega,by omega⟩,by unfold YN;rw[hle];omega,fun hup=>?_,fun hup=>?_⟩
       . (try dsimp only[Ygv,YiK,limbsC,addC,natS,YGv,go_sem,reduceIte])
         (try simp only[Yd,YGu,YGt,reduceCtorEq,YGs])
         rw[YGA,decide_eq_true_eq]at hup
         obtain⟨rfl,hup⟩:=hup
         have hX0:X≠0:=fun h0=>by subst h0;rw[nl_0]at hup;omega
         have e:sqN a (q/15) true=a*a/32768^M+1:=by
           unfold sqN;rw[c2,hXX,c1,if_pos ⟨rfl,hX0⟩]
         rw[e]at h
         refine⟨⟨by decide,by decide⟩,a*a/32768^M,1,⟨⟨rfl,by rw[hle];omega,?_,fun k' hk=>?_⟩,Yc (by decide),by rw[hle];omega,by decide⟩,Yal (t:=true) (h false)⟩
         . rw[hle,YHC,<-c3];exact YbQ _
         . dsimp only
           rw[if_neg (YHH _),Ydb,hadd,Nat.sub_zero]
           exact Ye _
       . have hX0:¬(up=true/\a*a%32768^(q/15)≠0):=fun hh=>by
           rw[c2,hXX]at hh
           have:=nl_pos.2 (Nat.pos_of_ne_zero hh.2)
           rw[hh.1,YHn,decide_eq_false_iff_not]at hup
           omega
         have e:sqN a (q/15) up=a*a/32768^M:=by
           unfold sqN;rw[if_neg hX0,c1]
         rw[e]at h
         refine YaV (h false) (by rw[hle,c3,YHC]) (YHx _) rfl fun k' hk=>?_
         rw[if_neg (YHH _),Ydb,hadd,Nat.sub_zero]
 . exact h.1.elim
theorem YAq(a s:Nat):sqN a s false=a*a/32768^s:=by
 unfold sqN;rw[if_neg (fun h=>by cases h.1)]
theorem YvH(a s:Nat):sqN a s true=cdiv (a*a) (32768^s):=by
 unfold sqN cdiv
 have h1:=YG3 (a*a) (32768^s)
 rw[YGC]at h1
 generalize a*a/32768^s*32768^s=p at*
 rcases YG7 (a*a%32768^s)with h0|h0
 . rw[if_neg (fun h=>h.2 h0),if_neg (by omega)]
 . rw[if_pos ⟨rfl,by omega⟩,if_pos (by omega)]
theorem YyO(a:Nat):(a+1)/2=cdiv a 2:=by
 unfold cdiv;split <;> omega
def lgR(n many:Nat):Nat×Nat:=if n=2^lgK n then(lgK n*2^many,lgK n*2^many)
 else gl (2^(2*many+60)) false many (n*2^(2*many+60-lgK n)) (n*2^(2*many+60-lgK n)) (lgK n)
def v147:VF:=⟨95,[.tmp 4,.tmp 5],(ZR [u1 4 .mov [.cn .nil],u1 5 .mov [.cn .nil]] (ZR [Zi 6 0] (.seq (.block 0 (.loop (.seq (ZR [Zm 13 0,Zm 14 6,Zp 15 14 1,u1 16 (.conv .u64) [.tm 15],u1 17 .shr [.tm 13,.tm 16],Zq 18 .gtr 17 0] (ZC 18 .skip (.exit 0))) (.block 1 (.region [Zm 19 6,Zp 20 19 1,Zm 6 20]))))) (ZR [Zm 21 6,Zc 22 148 21,Zm 7 22] (.seq (ZR [Zm 23 0,Zm 24 6,u1 25 (.conv .u64) [.tm 24],u1 26 .shl [.cn (.int .i64 1),.tm 25],Zr 27 .eql 23 26] (ZC 27 (ZR [Zm 28 7,Zm 29 1,Zd 30 163 28 29,Zm 31 7,Zm 32 1,Zd 33 163 31 32,Zm 4 30,Zm 5 33] .ret) .skip)) (ZR [Zm 34 1,u1 35 (.ari .mul) [.cn (.int .i64 2),.tm 34],Zp 36 35 60,Zm 8 36] (ZR [Zm 37 0,Zc 38 148 37,Zm 39 8,Zm 40 6,Zo 41 .sub 39 40,Zd 42 163 38 41,Zm 9 42] (ZR [Zm 43 9,Zm 10 43] (ZR [u1 44 (.call 148) [.cn (.int .i64 1)],Zm 45 8,Zp 46 45 1,Zd 47 163 44 46,Zm 11 47] (.seq (ZR [Zi 12 0] (.block 2 (.loop (.seq (ZR [Zm 48 12,Zm 49 1,Zr 50 .lss 48 49] (ZC 50 .skip (.exit 2))) (.seq (.block 3 (ZR [Zm 53 9,Zm 54 8,u1 55 (.call 164) [.tm 53,.tm 54,.cn (.bool false)],Zm 9 55] (ZR [Zm 56 10,Zm 57 8,u1 58 (.call 164) [.tm 56,.tm 57,.cn (.bool true)],Zm 10 58] (ZR [Zm 59 9,Zm 60 11,Zd 61 150 59 60,Zq 62 .geq 61 0] (ZC 62 (ZR [Zm 63 9,u1 64 (.call 165) [.tm 63,.cn (.bool false)],Zm 9 64] (ZR [Zm 65 10,u1 66 (.call 165) [.tm 65,.cn (.bool true)],Zm 10 66] (.region [Zm 67 7,Zm 68 7,Zd 69 132 67 68,u1 70 (.call 148) [.cn (.int .i64 1)],Zd 71 132 69 70,Zm 7 71]))) (ZR [Zm 72 10,Zm 73 11,Zd 74 150 72 73,Zq 75 .lss 74 0] (ZC 75 (.region [Zm 76 7,Zm 77 7,Zd 78 132 76 77,Zm 7 78]) (ZR [Zm 79 7,Zm 80 1,Zm 81 12,Zo 82 .sub 80 81,Zd 83 163 79 82,Zm 84 7,u1 85 (.call 148) [.cn (.int .i64 1)],Zd 86 132 84 85,Zm 87 1,Zm 88 12,Zo 89 .sub 87 88,Zd 90 163 86 89,Zm 4 83,Zm 5 90] .ret)))))))) (.region [Zm 51 12,Zp 52 51 1,Zm 12 52])))))) (ZR [Zm 91 7,Zm 92 7,u1 93 (.call 148) [.cn (.int .i64 1)],Zd 94 132 92 93,Zm 4 91,Zm 5 94] .ret)))))))))))⟩
theorem YBh:Yf YGw Tryz.f147=some v147:=by kernel_rfl
def logC:Ctr:={ alias:=false,of:=fun l=>match l with
 | [.int .i64 n,.int .i64 q]=> .pre ((1<=n/\n<=1000000000001)/\0<=q/\q<=3840/\q%15=0) (.all Bool fun z=> .all Bool fun z'=> .fin (.tup [natS z (lgR n.toNat q.toNat).1,natS z' (lgR n.toNat q.toNat).2]) [])
 |_=>noC}
def Q3:Env:={ ct:=fun n=>match n with|148=>some limbsC|150=>some cmpC|132=>some addC|163=>some shiftC|164=>some squareC|165=>some halveC|_=>none,fn:=fun _=>none,meth:=fun _ _=>none}
theorem Ym3:Q3.ct 148=some limbsC:=rfl
theorem Ytj:Q3.ct 150=some cmpC:=rfl
theorem Yti:Q3.ct 132=some addC:=rfl
theorem Ym4:Q3.ct 163=some shiftC:=rfl
theorem Ytk:Q3.ct 164=some squareC:=rfl
theorem Ytl:Q3.ct 165=some halveC:=rfl
theorem Q3_ok:Yq YGw Q3:=by
 refine⟨fun f c h=>?_,fun f vf h=>?_,(fun _ _ _ h=>by cases h),by kernel_rfl,(fun _ h=>by cases h)⟩
 . simp only[Q3]at h
   split at h
   . cases h;exact⟨YjK,Tryz.f148,Tryz.func148,by kernel_rfl,by kernel_rfl⟩
   . cases h;exact⟨YeR,Tryz.f150,Tryz.func150,by kernel_rfl,by kernel_rfl⟩
   . cases h;exact⟨Yf5,Tryz.f132,Tryz.func132,by kernel_rfl,by kernel_rfl⟩
   . cases h;exact⟨Ybw,Tryz.f163,Tryz.func163,by kernel_rfl,by kernel_rfl⟩
   . cases h;exact⟨YsI,Tryz.f164,Tryz.func164,by kernel_rfl,by kernel_rfl⟩
   . cases h;exact⟨YuL,Tryz.f165,Tryz.func165,by kernel_rfl,by kernel_rfl⟩
   . cases h
 . cases h
theorem ord_ge{a b:Nat}:0<=ordN a b↔b<=a:=by
 unfold ordN;split
 . omega
 . split <;> omega
theorem ord_lt{a b:Nat}:ordN a b<0↔a<b:=by
 unfold ordN;split
 . omega
 . split <;> omega
theorem pw15{e m:Nat}(h:e<15*m):2^e<32768^m:=by
 rw[show(32768:Nat)=2^15 by decide,<-YHj]
 exact YHu (by decide) h
theorem Ylh{x e m:Nat}(h:x<2^e)(he:e<15*m):nl x<=m:=nl_le.2 (Nat.lt_trans h (pw15 he))
theorem nsz{x q:Nat}(hq:q<=3840)(h:x<=16*2^(2*q+60)):nl x<=1000:=by
 have e:16*2^(2*q+60)=2^(2*q+64):=by rw[show 2*q+64=4+(2*q+60)by omega,YGJ 2 4]
 rw[e]at h
 have h2:2^(2*q+64)<2^(2*q+65):=YHu (by decide) (by omega)
 exact Ylh (YGU h h2) (by omega)
theorem YwG{A M:Nat}(hM:0<M)(h:A<=2*M):A*A/M<=4*M/\cdiv (A*A) M<=4*M:=by
 have:A*A<=4*M*M:=YGF (YGX h h) (by grind)
 exact⟨Nat.div_le_of_le_mul (by rw[YGC M];exact this),YaB this⟩
theorem Yuz{x M:Nat}(h:x<=4*M):cdiv x 2<=2*M:=YaB (by omega)
theorem YDL:logC.ok YGw 147:=by
 refine Yb Tryz.func147 YBh Q3_ok 400 logC fun args k h=>?_
 simp only[logC]at h
 split at h
 . rename_i n q
   obtain⟨⟨⟨hn1,hn2⟩,h0,h1,hq⟩,h⟩:=h
   obtain⟨n,rfl⟩:=YGT (show 0<=n by omega)
   obtain⟨q,rfl⟩:=YGT h0
   rw[YGv,YGv]at h
   refine⟨[.int .i64 n,.int .i64 q],by simp [leL,le],?_⟩
   (try dsimp only[v147,go_sem,reduceIte])
   (try simp only[Yd,YGu,YGt,reduceCtorEq,YGs])
   obtain⟨b1,b2⟩:=YnN (n:=n) (by omega)
   have hk40:lgK n<40:=by
     rcases YGN (lgK n) 40 with h'|h'
     . exact h'
     . have:=YGF (YGG (by decide) h':2^40<=2^lgK n) b1
       omega
   refine Loop.keep [0,0] Nat (fun i=>[(6,.int .i64 i)]) (fun _=>[]) [] (fun i=>i<=lgK n) (fun i=>lgK n-i) ?_ ?_
   . refine⟨0,YHl _,?_⟩
     (try dsimp only[go_sem,reduceIte])
     simp only[Ya]
     rfl
   . rintro i hi
     (try dsimp only[YGv,go_sem,reduceIte])
     (try simp only[Yd,YGu,YGt,reduceCtorEq,YGs])
     have w1:IntKind.i64.wrap ((i:Int)+1)=((i+1:Nat):Int):=by rw[YGy _ (by omega)];omega
     have w2:IntKind.u64.wrap ((i+1:Nat):Int)=((i+1:Nat):Int):=YGR _ (by omega)
     have w3:(n:Int).fdiv (2^min (i+1) 64)=((n/2^(i+1):Nat):Int):=YbO (by omega)
     simp only[w1,w2,YGv,w3]
     refine⟨by omega,fun hlt=>?_,fun hge=>?_⟩
     . have hlt:i<lgK n:=by
         rcases YGN i (lgK n)with h'|h'
         . exact h'
         . obtain rfl:i=lgK n:=by omega
           rw[YHs b2]at hlt;exact absurd hlt (by decide)
       refine⟨i+1,by omega,by omega,?_⟩
       simp only[Ya]
     . have hik:i=lgK n:=by
         rcases YGN i (lgK n)with h'|h'
         . have h2:2^(i+1)<=n:=YGF (YGG (by decide) h') b1
           have:=Nat.div_pos h2 (Nat.pow_pos (by decide))
           generalize n/2^(i+1)=c at*
           omega
         . omega
       (try dsimp only[Ym3,Ym4,limbsC,shiftC,natS,YGv,go_sem,reduceIte])
       (try simp only[Yd,YGu,YGt,reduceCtorEq,YGs])
       have v1:IntKind.u64.wrap (i:Int)=(i:Int):=YGR _ (by omega)
       have v2:IntKind.i64.wrap (1*2^min i 64)=((2^i:Nat):Int):=by
         have e4:min i 64=i:=by omega
         have e5:(1:Int)*2^i=((2^i:Nat):Int):=by simp
         have e6:2^i<=n:=by rw[hik];exact b1
         rw[e4,e5]
         generalize 2^i=P at e6⊢
         exact YGy _ (by omega)
       have v3:IntKind.i64.wrap (IntKind.i64.wrap (2*(q:Int))+60)=((2*q+60:Nat):Int):=by
         rw[YGy (2*(q:Int)) (by omega),YGy _ (by omega)];omega
       have v4:IntKind.i64.wrap (((2*q+60:Nat):Int)-(i:Int))=((2*q+60-i:Nat):Int):=by
         rw[YGy _ (by omega)];omega
       have v5:IntKind.i64.wrap (((2*q+60:Nat):Int)+1)=((2*q+61:Nat):Int):=by
         rw[YGy _ (by omega)];omega
       have n1:nl i<=1:=nl_le.2 (by omega)
       have n2:nl n<=3:=nl_le.2 (by omega)
       simp only[v1,YGv,v2,v3,v4,v5]
       refine⟨⟨by omega,by omega⟩,by omega,fun he=>⟨i,⟨Yc (by omega),by omega,by omega,by omega⟩,i,⟨Yc (by omega),by omega,by omega,by omega⟩,?_⟩,fun hne=>⟨⟨by omega,by omega⟩,n,⟨Yc (by omega),by omega,by omega,by omega⟩,⟨by decide,by decide⟩,1,⟨Yc (by decide),by decide,by omega,by omega⟩,?_⟩⟩
       . have hp:n=2^lgK n:=by rw[<-hik];exact_mod_cast he
         have e:lgR n q=(i*2^q,i*2^q):=by unfold lgR;rw[if_pos hp,hik]
         rw[e]at h
         exact YE (show k _ []from h false false) (Yy _ ⟨trivial,trivial,trivial⟩) (fun _=>by simp [natS,Yl,Yo])
       . have hnp:n≠2^lgK n:=fun hh=>hne (by rw[hik];exact_mod_cast hh)
         have hlg:lgR n q=gl (2^(2*q+60)) false q (n*2^(2*q+60-i)) (n*2^(2*q+60-i)) i:=by
           unfold lgR;rw[if_neg hnp,hik]
         obtain⟨m1,m2,_⟩:=mant (n:=n) (D:=2*q+60) (by omega) (by omega)
         rw[<-hik]at m1 m2
         have hs:(32768:Nat)^((2*q+60)/15)=2^(2*q+60):=by
           rw[show(32768:Nat)=2^15 by decide,<-YHj];congr 1;omega
         refine Loop.keep [0,0,6,2] (Nat×Nat×Nat×Nat×Bool×Bool×Bool) (fun x=>[(7,.vs true x.2.2.2.2.1 (nl x.2.2.2.1) 1 (fun k=>[.int .i64 (dig x.2.2.2.1 k)])),(9,.vs true x.2.2.2.2.2.1 (nl x.2.1) 1 (fun k=>[.int .i64 (dig x.2.1 k)])),(10,.vs true x.2.2.2.2.2.2 (nl x.2.2.1) 1 (fun k=>[.int .i64 (dig x.2.2.1 k)])),(12,.int .i64 x.1)]) (fun _=>[]) [] (fun x=>x.1<=q/\lgR n q=gl (2^(2*q+60)) false (q-x.1) x.2.1 x.2.2.1 x.2.2.2.1/\x.2.1<=2*2^(2*q+60)/\x.2.2.1<=2*2^(2*q+60)/\x.2.2.2.1<2^(x.1+40)) (fun x=>q-x.1) ?_ ?_
         . refine⟨(0,n*2^(2*q+60-i),n*2^(2*q+60-i),i,decide (nl i=0),false,false),⟨YHl _,hlg,YHp m2,YHp m2,by dsimp only;omega⟩,?_⟩
           (try dsimp only[go_sem,reduceIte])
           simp only[Ya]
           rfl
         . rintro⟨j,A,B,S,z1,z2,z3⟩ ⟨hj,hl,hA,hB,hS⟩
           dsimp only at hj hl hA hB hS
           (try dsimp only[Ym3,Ym4,Ytk,Ytl,Yti,Ytj,limbsC,shiftC,squareC,halveC,addC,cmpC,natS,YGv,go_sem,reduceIte])
           (try simp only[Yd,YGu,YGt,reduceCtorEq,YGs])
           have h2M:1*2^(2*q+61)=2*2^(2*q+60):=by rw[YHz,show 2*q+61=1+(2*q+60)by omega,YGJ 2 1]
           have hq1:q<=3840:=by omega
           have hM:0<2^(2*q+60):=Nat.pow_pos (by decide)
           have fz:∀x,x<=16*2^(2*q+60)->nl x<=1000:=fun x hx=>nsz hq1 hx
           have hSz:∀x,x<2^(j+42)->nl x<=1000:=fun x hx=>by
             exact Ylh hx (by omega)
           have hS2:2^(j+42)=4*2^(j+40):=by rw[show j+42=2+(j+40)by omega,YGJ 2 2]
           have hS1:2^(j+1+40)=2*2^(j+40):=by rw[show j+1+40=1+(j+40)by omega,YGJ 2 1]
           obtain⟨a4,_⟩:=YwG hM hA
           obtain⟨_,b4⟩:=YwG hM hB
           have eA:sqN A ((2*q+60)/15) false=A*A/2^(2*q+60):=by rw[YAq,hs]
           have eB:sqN B ((2*q+60)/15) true=cdiv (B*B) (2^(2*q+60)):=by rw[YvH,hs]
           refine⟨fun hlt=>⟨A,⟨Yc (YGF (fz A (by omega)) (by decide)),YGF (fz A (by omega)) (by decide),by omega,by omega⟩,fun y1=>⟨B,⟨Yc (YGF (fz B (by omega)) (by decide)),YGF (fz B (by omega)) (by decide),by omega,by omega⟩,fun y2=>?_⟩⟩,fun hge=>?_⟩
           . rw[eA,eB,h2M]
             obtain⟨g,hg⟩:∃g,q-j=g+1:=⟨q-j-1,by omega⟩
             have eq1:q-(j+1)=g:=by omega
             have ej:IntKind.i64.wrap ((j:Int)+1)=((j+1:Nat):Int):=by rw[YGy _ (by omega)];omega
             have eqj:IntKind.i64.wrap ((q:Int)-(j:Int))=((q-j:Nat):Int):=by rw[YGy _ (by omega)];omega
             rw[hg,gl]at hl
             rw[ej,eqj]
             simp only[YGv]
             rw[hg]
             clear eA eB h2M
             generalize A*A/2^(2*q+60)=X at*
             generalize cdiv (B*B) (2^(2*q+60))=Y at*
             generalize 2^(2*q+60)=M at*
             have fX:=fz X (by omega)
             have fY:=fz Y (by omega)
             have f2:=fz (2*M) (by omega)
             have f1:nl 1<=1:=by decide
             have fS:=hSz S (by omega)
             have fSS:=hSz (S+S) (by omega)
             refine⟨X,2*M,⟨Yc (by omega),Yc (by omega),rfl,rfl⟩,fun hc=>?_,fun hc=>?_⟩
             . have hc:=ord_ge.1 hc
               rw[if_neg (by omega),if_neg (by simp),Nat.two_mul]at hl
               refine⟨X,⟨Yc (by omega),by omega⟩,Y,⟨Yc (by omega),by omega⟩,S,S,⟨Yc (by omega),Yc (by omega),by omega⟩,⟨by decide,by decide⟩,S+S,1,⟨Yc (by omega),Yc (by decide),by omega,by decide⟩,(j+1,X/2,cdiv Y 2,S+S+1,false,false,false),⟨by dsimp only;omega,by dsimp only;rw[eq1];exact hl,by dsimp only;omega,Yuz b4,by dsimp only;omega⟩,by dsimp only;omega,?_⟩
               simp only[if_true,if_false,YHw,YyO]
               simp only[Ya]
             . have hc:¬2*M<=X:=fun hh=>hc (ord_ge.2 hh)
               rw[if_pos (by omega)]at hl
               refine⟨Y,2*M,⟨Yc (by omega),Yc (by omega),rfl,rfl⟩,fun hd=>?_,fun hd=>?_⟩
               . have hd:=ord_lt.1 hd
                 rw[if_pos hd,Nat.two_mul]at hl
                 refine⟨S,S,⟨Yc (by omega),Yc (by omega),by omega⟩,(j+1,X,Y,S+S,false,y1,y2),⟨by dsimp only;omega,by dsimp only;rw[eq1];exact hl,by dsimp only;omega,by dsimp only;omega,by dsimp only;omega⟩,by dsimp only;omega,?_⟩
                 simp only[Ya]
               . rw[if_neg fun hh=>hd (ord_lt.2 hh)]at hl
                 have fS1:=hSz (S+1) (by omega)
                 refine⟨S,⟨Yc (by omega),by omega,by omega,by omega⟩,⟨by decide,by decide⟩,S,1,⟨Yc (by omega),Yc (by decide),by omega,by decide⟩,S+1,⟨Yc (by omega),by omega,by omega,by omega⟩,?_⟩
                 rw[hl]at h
                 exact YE (show k _ []from h false false) (Yy _ ⟨trivial,trivial,trivial⟩) (fun _=>by simp [natS,Yl,Yo])
           . have fS:=hSz S (by omega)
             have e0:q-j=0:=by omega
             rw[e0,gl]at hl
             refine⟨⟨by decide,by decide⟩,S,1,⟨Yc (by omega),Yc (by decide),by omega,by decide⟩,?_⟩
             rw[hl]at h
             exact YE (show k _ []from h z1 false) (Yy _ ⟨trivial,trivial,trivial⟩) (fun _=>by simp [natS,Yl,Yo])
 . exact h.1.elim
def itL(out:List Nat)(i k g n:Nat):Nat:=if n=i\/n=k then out.getD n 0/g else out.getD n 0
def nxtL(out:List Nat)(i k g:Nat):Nat->List Nat
 |0=>[]
 |n+1=>if 1<itL out i k g n then nxtL out i k g n++[itL out i k g n]else nxtL out i k g n
theorem YrP(out:List Nat)(i k g:Nat):∀n,(nxtL out i k g n).length<=n
 |0=>YGH _
 |n+1=>by
   have:=YrP out i k g n
   rw[nxtL]
   split
   . rw[YHo,List.length_singleton];omega
   . omega
theorem nxt_mem{out:List Nat}{i k g x:Nat}:∀{n:Nat},x∈nxtL out i k g n↔∃j,j<n/\x=itL out i k g j/\1<x
 |0=>by simp [nxtL]
 |n+1=>by
   have ih:=nxt_mem (out:=out) (i:=i) (k:=k) (g:=g) (x:=x) (n:=n)
   rw[nxtL]
   split
   . rename_i h
     rw[YG2,YHa,ih]
     constructor
     . rintro(⟨j,h1,h2⟩ |h1)
       . exact⟨j,by omega,h2⟩
       . exact⟨n,by omega,h1,by omega⟩
     . rintro⟨j,h1,h2,h3⟩
       rcases YGN j n with h'|h'
       . exact Or.inl ⟨j,h',h2,h3⟩
       . obtain rfl:j=n:=by omega
         exact YHT h2
   . rename_i h
     rw[ih]
     constructor
     . rintro⟨j,h1,h2⟩
       exact⟨j,by omega,h2⟩
     . rintro⟨j,h1,h2,h3⟩
       rcases YGN j n with h'|h'
       . exact⟨j,h',h2,h3⟩
       . obtain rfl:j=n:=by omega
         omega
theorem YnX{out:List Nat}{i k g:Nat}(hik:k<i)(hi:i<out.length)(hg:0<g)(h1:g∣out.getD i 0)(h2:g∣out.getD k 0)(hp:∀x,x∈out->1<=x):∀n,n<=out.length->Ys (nxtL out i k g n)*((if i<n then g else 1)*(if k<n then g else 1))=Ys (out.take n)
 |0,_=>by simp [nxtL,Ys]
 |n+1,hn=>by
   have ih:=YnX hik hi hg h1 h2 hp n (by omega)
   have e:out.take (n+1)=out.take n++[out.getD n 0]:=Yai (by omega)
   have hx:1<=out.getD n 0:=hp _ (Yp (l:=out) (i:=n) (by omega))
   rw[e,YU,<-ih]
   have e1:Ys [out.getD n 0]=out.getD n 0:=by simp [Ys]
   have e2:Ys (nxtL out i k g (n+1))=Ys (nxtL out i k g n)*itL out i k g n:=by
     rw[nxtL]
     split
     . rw[YU];simp [Ys]
     . rename_i h
       have:itL out i k g n≠0:=by
         unfold itL
         split
         . rename_i hh
           have hd:g∣out.getD n 0:=by rcases hh with rfl|rfl <;> assumption
           exact Nat.ne_of_gt (Nat.div_pos (Nat.le_of_dvd hx hd) hg)
         . omega
       rw[show itL out i k g n=1 by omega,Nat.mul_one]
   rw[e1,e2]
   by_cases c1:n=i
   . subst c1
     rw[itL,if_pos (Or.inl rfl),if_pos (Nat.lt_succ_self _),if_neg (Nat.lt_irrefl _),if_pos (by omega),if_pos (by omega)]
     obtain⟨c,hc⟩:=h1
     rw[hc,Nat.mul_div_cancel_left _ hg]
     simp only[YGE,YHc,YGC,YHz]
   . by_cases c2:n=k
     . subst c2
       rw[itL,if_pos (YHT rfl),if_neg (show¬i<n+1 by omega),if_neg (show¬i<n by omega),if_pos (Nat.lt_succ_self _),if_neg (Nat.lt_irrefl _)]
       obtain⟨c,hc⟩:=h2
       rw[hc,Nat.mul_div_cancel_left _ hg]
       simp only[YGE,YHc,YGC,YHz]
     . have a1:(i<n+1)=(i<n):=by rw[eq_iff_iff];omega
       have a2:(k<n+1)=(k<n):=by rw[eq_iff_iff];omega
       rw[itL,if_neg (by omega)]
       simp only[a1,a2]
       simp only[YGE,YHc,YGC]
theorem YsS:∀{out:List Nat},(∀x,x∈out->2<=x)->2^out.length<=Ys out
 | [],_=>by simp [Ys]
 |x::out,h=>by
   have:=YsS (out:=out) fun y hy=>h y (YGK _ hy)
   have hx:=h x (YGI ..)
   rw[Ys,YHF,YGZ,YGC]
   exact YGX hx this
structure BOk (l:List (Int×Int)) (out:List Nat):Prop where
 rng:∀x,x∈out->2<=x/\x<=1000000000001
 spn:∀x,x∈l->Spn out x.1.toNat
 prd:Yi (Ys out)<=801
theorem BOk.len{l:List (Int×Int)}{out:List Nat}(h:BOk l out):out.length<=800:=by
 have h1:=YsS fun x hx=>(h.rng x hx).1
 refine Nat.le_of_not_lt fun hh=>?_
 have h2:=Ya2 (Ys out)
 have h3:2^Yi (Ys out)<=2^out.length:=YGG (by decide) (by have:=h.prd;omega)
 omega
theorem BOk.pos{l:List (Int×Int)}{out:List Nat}(h:BOk l out):1<=Ys out:=Yff fun x hx=>by have:=h.rng x hx;omega
theorem BOk.next{l:List (Int×Int)}{out:List Nat}{i k g:Nat}(h:BOk l out)(hik:k<i)(hi:i<out.length)(hg:g=YHO (out.getD i 0) (out.getD k 0))(h1:1<g):
   BOk l (nxtL out i k g out.length++[g])/\Ys (nxtL out i k g out.length++[g])*2<=Ys out:=by
 have d1:g∣out.getD i 0:=hg▸Nat.gcd_dvd_left _ _
 have d2:g∣out.getD k 0:=hg▸Nat.gcd_dvd_right _ _
 have ri:=h.rng _ (Yp (l:=out) (i:=i) hi)
 have rk:=h.rng _ (Yp (l:=out) (i:=k) (by omega))
 have ri:2<=out.getD i 0/\out.getD i 0<=1000000000001:=ri
 have rk:2<=out.getD k 0/\out.getD k 0<=1000000000001:=rk
 have hgl:g<=out.getD i 0:=Nat.le_of_dvd (by omega) d1
 have hpr:=YnX hik hi (by omega) d1 d2 (fun x hx=>by have:=h.rng x hx;omega) out.length (YGH _)
 rw[YHm,if_pos hi,if_pos (by omega)]at hpr
 have hpe:Ys (nxtL out i k g out.length++[g])*g=Ys out:=by
   rw[YU,<-hpr];simp [Ys,YGE]
 have hle:Ys (nxtL out i k g out.length++[g])*2<=Ys out:=by
   rw[<-hpe];exact YGO _ h1
 refine⟨⟨fun x hx=>?_,fun x hx=>(h.spn x hx).sub fun y hy=>?_,?_⟩,hle⟩
 . rw[YG2,YHa,nxt_mem]at hx
   rcases hx with⟨j,hj,hxe,h2⟩ |rfl
   . refine⟨h2,?_⟩
     have hr:=h.rng _ (Yp (l:=out) (i:=j) hj)
     have hr:2<=out.getD j 0/\out.getD j 0<=1000000000001:=hr
     rw[hxe];unfold itL
     split
     . exact YGF (YHr _ _) hr.2
     . exact hr.2
   . omega
 . obtain⟨j,hj,hje⟩:=Ye8 hy
   have hje:out.getD j 0=y:=hje
   have mg:g∈nxtL out i k g out.length++[g]:=List.mem_append_right _ (YHa.2 rfl)
   have part:Spn (nxtL out i k g out.length++[g]) (itL out i k g j):=by
     rcases YGN 1 (itL out i k g j)with h'|h'
     . exact .mem (List.mem_append_left _ (nxt_mem.2 ⟨j,hj,rfl,h'⟩))
     . have:itL out i k g j≠0:=by
         have hr:=h.rng _ hy
         unfold itL
         split
         . rename_i hh
           have hd:g∣out.getD j 0:=by rcases hh with rfl|rfl <;> assumption
           exact Nat.ne_of_gt (Nat.div_pos (Nat.le_of_dvd (by omega) hd) (by omega))
         . omega
       rw[show itL out i k g j=1 by omega];exact .one
   by_cases c:j=i\/j=k
   . have hd:g∣out.getD j 0:=by rcases c with rfl|rfl <;> assumption
     rw[itL,if_pos c]at part
     rw[<-hje,<-Nat.mul_div_cancel' hd]
     exact .mul mg part
   . rw[itL,if_neg c]at part
     rw[<-hje];exact part
 . exact YGF (Yid (by omega)) h.prd
def stF(out:List Nat)(x:Int×Int):List Nat:=if 1<x.1 then out++[x.1.toNat]else out
theorem st_ok{l:List (Int×Int)}(hl:∀x,x∈l->okT x)(hn:l.length<=20):BOk l (l.foldl stF []):=by
 have key:∀i,i<=l.length->(∀x,x∈(l.take i).foldl stF []->2<=x/\x<=1000000000001)/\(∀x,x∈l.take i->Spn ((l.take i).foldl stF []) x.1.toNat)/\Yi (Ys ((l.take i).foldl stF []))<=40*i+1:=fun i=>by
   induction i with
   |zero=>exact fun _=>⟨fun x hx=>absurd hx (by simp),fun x hx=>absurd hx (by simp),by simp [Ys];decide⟩
   |succ i ih=>
     intro hi
     obtain⟨h1,h2,h3⟩:=ih (by omega)
     obtain⟨q0,q1,q2,q3⟩:=hl _ (Yp (by omega:i<l.length))
     rw[Yt (by omega),Yai (by omega)]
     generalize(l.take i).foldl stF []=out at*
     generalize l.getD i default=y at*
     unfold stF
     by_cases c:1<y.1
     . rw[if_pos c]
       refine⟨fun x hx=>?_,fun x hx=>?_,?_⟩
       . rcases YG2.1 hx with hx|hx
         . exact h1 x hx
         . rw[YHa]at hx;omega
       . rcases YG2.1 hx with hx|hx
         . exact(h2 x hx).sub fun z hz=> .mem (List.mem_append_left _ hz)
         . rw[YHa]at hx;rw[hx];exact .mem (List.mem_append_right _ (YHa.2 rfl))
       . rw[YU]
         have e:Ys [y.1.toNat]=y.1.toNat:=by simp [Ys]
         have:=YkE (Ys out) (Ys [y.1.toNat])
         have:Yi (Ys [y.1.toNat])<=40:=by rw[e];exact bitsN_le.2 (by omega)
         omega
     . rw[if_neg c]
       refine⟨h1,fun x hx=>?_,by omega⟩
       rcases YG2.1 hx with hx|hx
       . exact h2 x hx
       . rw[YHa]at hx;rw[hx,show y.1.toNat=1 by omega];exact .one
 obtain⟨k1,k2,k3⟩:=key l.length (YGH _)
 rw[YHm]at k1 k2 k3
 exact⟨k1,k2,by omega⟩
theorem YE9(l:List (Int×Int)):∀i,((l.take i).foldl stF []).length<=i:=fun i=>by
 induction i with
 |zero=>simp
 |succ i ih=>
   rcases YGN i l.length with h|h
   . rw[Yt h]
     unfold stF at ih⊢
     split
     . rw[YHo,List.length_singleton];omega
     . omega
   . rw[List.take_of_length_le (by omega)]
     rw[List.take_of_length_le h]at ih
     omega
theorem Yyk{out:List Nat}(h:∀a,a<out.length->∀c,c<a->YHO (out.getD a 0) (out.getD c 0)=1):Cop out:=by
 refine List.pairwise_iff_getElem.2 fun i j hi hj hij=>?_
 have:=h j hj i hij
 rw[YGB,YGB,List.getElem?_eq_getElem hj,List.getElem?_eq_getElem hi]at this
 rw[Nat.gcd_comm];exact this
theorem YqH{b:Nat}{e:Nat->Nat}:∀{r:List Nat},(∀x,x∈r->YHO b x=1)->YHO b (PV e r)=1
 | [],_=>by simp [PV]
 |x::r,h=>by
   rw[PV]
   exact Nat.Coprime.mul_right (Nat.Coprime.pow_right _ (h x (YGI ..))) (YqH fun y hy=>h y (YGK _ hy))
theorem YrS{b x y P Q:Nat}(hb:2<=b)(hP:YHO b P=1)(h:b^x*P=b^y*Q):y<=x:=by
 refine Nat.le_of_not_lt fun hh=>?_
 obtain⟨d,rfl⟩:∃d,y=x+(d+1):=⟨y-x-1,by omega⟩
 rw[YGJ,YGE]at h
 have h2:=Nat.eq_of_mul_eq_mul_left (Nat.pow_pos (by omega)) h
 have hd:b∣P:=by rw[h2,YGZ,YGC _ b,YGE];exact Nat.dvd_mul_right _ _
 have:=Nat.gcd_eq_left hd
 omega
theorem YvX{e e':Nat->Nat}:∀{r:List Nat},Cop r->(∀x,x∈r->2<=x)->PV e r=PV e' r->∀b,b∈r->e b=e' b
 | [],_,_,_,b,hb=>absurd hb (by simp)
 |c::r,hc,h2,h,b,hb=>by
   obtain⟨g1,g2⟩:=List.pairwise_cons.1 hc
   have hc2:=h2 c (YGI ..)
   rw[PV,PV]at h
   have a1:=YrS hc2 (YqH (e:=e) g1) h
   have a2:=YrS hc2 (YqH (e:=e') g1) h.symm
   have he:e c=e' c:=by omega
   rcases YGQ.1 hb with rfl|hb
   . exact he
   . rw[he]at h
     exact YvX g2 (fun x hx=>h2 x (YGK _ hx)) (Nat.eq_of_mul_eq_mul_left (Nat.pow_pos (by omega)) h) b hb
theorem YDX{l:List (Int×Int)}{r:List Nat}(hl:∀x,x∈l->okT x)(hn:l.length<=20)(hr:BOk l r)(hc:Cop r):(r.all fun b=>decide (sumB l b=0))=decide (upP l=dnP l):=by
 obtain⟨e1,e2⟩:=P_is hc (fun x hx=>(hr.rng x hx).1) l fun x hx=>⟨hl x hx,hr.spn x hx⟩
 have hs:∀b,b∈r->(sumB l b=0↔upS (vl 64 b) l=dnS (vl 64 b) l):=fun b hb=>by
   have hb2:=hr.rng b hb
   unfold sumB
   rw[YsM hb2.1 (by omega) l 0 hl (by omega) (by omega) (by omega)]
   omega
 rw[YHK,List.all_eq_true,decide_eq_true_eq]
 constructor
 . intro h
   rw[e1,e2]
   exact Ya1 fun b hb=>(hs b hb).1 (of_decide_eq_true (h b hb))
 . intro h b hb
   rw[e1,e2]at h
   exact decide_eq_true ((hs b hb).2 (YvX hc (fun x hx=>(hr.rng x hx).1) h b hb))
def v184:VF:=⟨12,[.tmp 4],(ZR [Zi 4 0] (.seq (.block 0 (.loop (.seq (ZR [Zm 5 1,Zq 6 .neq 5 0] (ZC 6 .skip (.exit 0))) (.block 1 (.draw [] [Zu 7 1,Zu 8 0,Zu 9 1,w1 10 .rem [.tm 8,.tm 9],Zu 0 7,Zu 1 10]))))) (ZR [Zm 11 0,Zm 4 11] .ret)))⟩
theorem YBQ:Yf YGw Tryz.f184=some v184:=by kernel_rfl
def v174:VF:=⟨85,[.tmp 2],(ZR [u1 2 .mov [.cn .nil]] (ZR [u1 3 .mov [.cn .nil]] (.seq (ZR [Zi 4 0] (.block 0 (.loop (.seq (ZR [Zm 11 4,Zm 12 0,Zl 13 12,Zr 14 .lss 11 13] (ZC 14 .skip (.exit 0))) (.seq (.block 1 (ZR [Zm 17 0,Zm 18 4,Zx 19 2 17 18,Za 20 0 19,Zf 21 1 20,Zq 22 .gtr 21 1] (ZC 22 (.region [Zm 23 3,Zm 24 0,Zm 25 4,Zx 26 2 24 25,Za 27 0 26,Zf 28 1 27,u1 29 (.buildSlice 1 1 [(.int .i64 0)] [(0,1)]) [.tm 28],u1 30 (.append 1 8 [(.int .i64 0)]) [.tm 23,.tm 29],Zm 3 30]) .skip))) (.region [Zm 15 4,Zp 16 15 1,Zm 4 16])))))) (.seq (ZR [Zi 5 0] (.block 2 (.loop (.seq (ZR [Zm 31 5,Zm 32 3,Zl 33 32,Zr 34 .lss 31 33] (ZC 34 .skip (.exit 2))) (.seq (.block 3 (ZR [Zi 6 0] (.block 4 (.loop (.seq (ZR [Zm 37 6,Zm 38 5,Zr 39 .lss 37 38] (ZC 39 .skip (.exit 4))) (.seq (.block 5 (.seq (.draw [] [Zu 42 3,Zu 43 5,ZX 44 1 42 43,Zv 45 1 44,Zu 46 3,Zu 47 6,ZX 48 1 46 47,Zv 49 1 48,Zz 50 184 45 49,Zu 7 50]) (.seq (ZR [Zm 51 7,Zq 52 .eql 51 1] (ZC 52 (.exit 5) .skip)) (ZR [u1 8 .mov [.cn .nil]] (.seq (ZR [Zi 9 0] (.block 6 (.loop (.seq (ZR [Zm 53 9,Zm 54 3,Zl 55 54,Zr 56 .lss 53 55] (ZC 56 .skip (.exit 6))) (.seq (.block 7 (ZR [Zm 59 3,Zm 60 9,Zx 61 1 59 60,Zf 62 1 61,Zm 10 62] (.seq (ZR [Zm 63 9,Zm 64 5,Zr 65 .eql 63 64,Zm 66 65,Zg 67 66 false 9,Zg 68 66 false 6,u2 69 66 false (.cmp .eql) [.tm 67,.tm 68],u1 70 .or [.tm 66,.tm 69]] (ZC 70 (.region [Zm 71 10,Zm 72 7,u1 73 .quo [.tm 71,.tm 72],Zm 10 73]) .skip)) (ZR [Zm 74 10,Zq 75 .gtr 74 1] (ZC 75 (.region [Zm 76 8,Zm 77 10,u1 78 (.buildSlice 1 1 [(.int .i64 0)] [(0,1)]) [.tm 77],u1 79 (.append 1 8 [(.int .i64 0)]) [.tm 76,.tm 78],Zm 8 79]) .skip))))) (.region [Zm 57 9,Zp 58 57 1,Zm 9 58])))))) (ZR [Zm 80 8,Zm 81 7,u1 82 (.buildSlice 1 1 [(.int .i64 0)] [(0,1)]) [.tm 81],u1 83 (.append 1 8 [(.int .i64 0)]) [.tm 80,.tm 82],Zm 3 83] (ZR [Zi 5 (-1),Zi 6 0] (.exit 4)))))))) (.region [Zm 40 6,Zp 41 40 1,Zm 6 41]))))))) (.region [Zm 35 5,Zp 36 35 1,Zm 5 36])))))) (ZR [Zm 84 3,Zm 2 84] .ret)))))⟩
theorem YBG:Yf YGw Tryz.f174=some v174:=by kernel_rfl
def Q4:Env:={ ct:=fun _=>none,fn:=fun _=>none,meth:=fun _ _=>none}
theorem Q4_ok:Yq YGw Q4:=by
 refine⟨fun f c h=>?_,fun f vf h=>?_,(fun _ _ _ h=>by cases h),by kernel_rfl,(fun _ h=>by cases h)⟩
 . cases h
 . cases h
theorem YyJ:gcdC.ok YGw 184:=by
 refine Yb Tryz.func184 YBQ Q4_ok 100 gcdC fun args k h=>?_
 simp only[gcdC]at h
 split at h
 . rename_i a b
   obtain⟨x,y,⟨rfl,rfl,hx,hy⟩,h⟩:=h
   refine⟨[.int .i64 x,.int .i64 y],by simp [leL,le],?_⟩
   (try dsimp only[v184,go_sem,reduceIte])
   (try simp only[Yd,YGu,YGt,reduceCtorEq,YGs])
   refine Loop.keep [] (Nat×Nat) (fun s=>[(0,.int .i64 s.1),(1,.int .i64 s.2)]) (fun _=>[]) [] (fun s=>YHO s.1 s.2=YHO x y/\s.1<=9223372036854775807/\s.2<=9223372036854775807) (fun s=>s.2) ?_ ?_
   . refine⟨(x,y),⟨rfl,hx,hy⟩,?_⟩
     (try dsimp only[go_sem,reduceIte])
     simp only[Ya]
   . rintro⟨p,q⟩ ⟨he,hp,hq⟩
     dsimp only at he hp hq
     (try dsimp only[go_sem,reduceIte])
     (try simp only[Yd,YGu,YGt,reduceCtorEq,YGs])
     refine⟨fun hc=>⟨hc,(q,p%q),⟨?_,by simp only;omega,?_⟩,?_,?_⟩,fun hc=>Yh ?_⟩
     . rw[<-he,Nat.gcd_comm p q]
       show YHO q (p%q)=YHO q p
       rw[Nat.gcd_comm q (p%q),<-Nat.gcd_rec]
     . have:=YG0 p (by omega:0<q)
       simp only;omega
     . exact YG0 p (by omega:0<q)
     . have e:(p:Int).tmod q=((p%q:Nat):Int):=YHR rfl rfl
       rw[e]
       simp only[Ya]
     . obtain rfl:q=0:=by omega
       rw[Nat.gcd_zero_right]at he
       rw[he];exact h
 . exact h.1.elim
def baseC:Ctr:={ alias:=false,of:=fun l=>match l with
 | [.vs _ _ n sz get]=> .ex (List (Int×Int)) fun l=> .pre (lsP 2 enc2 n sz get l/\(∀x,x∈l->okT x)/\n<=20) (.all (List Nat) fun r=> .imp (BOk l r/\Cop r) (.all Bool fun y=> .fin (.vs true y r.length 1 (fun k=>encB (r.getD k 0))) []))
 |_=>noC}
def Q5:Env:={ ct:=fun n=>match n with|184=>some gcdC|_=>none,fn:=fun _=>none,meth:=fun _ _=>none}
theorem Ytm:Q5.ct 184=some gcdC:=rfl
theorem Q5_ok:Yq YGw Q5:=by
 refine⟨fun f c h=>?_,fun f vf h=>?_,(fun _ _ _ h=>by cases h),by kernel_rfl,(fun _ h=>by cases h)⟩
 . simp only[Q5]at h
   split at h
   . cases h;exact⟨YyJ,Tryz.f184,Tryz.func184,by kernel_rfl,by kernel_rfl⟩
   . cases h
 . cases h
theorem Yx1:baseC.ok YGw 174:=by
 refine Yb Tryz.func174 YBG Q5_ok 800 baseC fun args k h=>?_
 simp only[baseC]at h
 split at h
 . rename_i tt z n sz get
   obtain⟨l,⟨⟨rfl,rfl,hg⟩,hl,hn⟩,h⟩:=h
   refine⟨[.vs tt z l.length 2 (fun k=>enc2 (l.getD k default))],⟨⟨id,rfl,rfl,rfl,hg⟩,trivial⟩,?_⟩
   (try dsimp only[v174,enc2,go_sem,reduceIte])
   (try simp only[Yd,YGu,YGt,reduceCtorEq,YGs])
   refine Loop.keep [0] (Nat×Bool) (fun s=>[(3,.own 0 0 ((l.take s.1).foldl stF []).length 1),(4,.int .i64 s.1)]) (fun s=>[(0,.own s.2 1 ((l.take s.1).foldl stF []).length (fun k=>encB (((l.take s.1).foldl stF []).getD k 0)))]) [.gone] (fun s=>s.1<=l.length/\(s.2=true->((l.take s.1).foldl stF []).length=0)) (fun s=>l.length-s.1) ?_ ?_
   . refine⟨(0,true),⟨by simp only;omega,fun _=>rfl⟩,?_⟩
     (try dsimp only[List.take_zero,List.foldl_nil,List.length_nil,go_sem,reduceIte])
     simp only[Ya]
     simp
   . rintro⟨i,yo⟩ ⟨hi,hyo⟩
     dsimp only at hi hyo
     (try dsimp only[enc2,encB,YGv,go_sem,reduceIte])
     (try simp only[Yd,YGu,YGt,reduceCtorEq,YGs])
     have hsl:=YE9 l i
     refine⟨fun hlt=>?_,fun hge=>?_⟩
     . obtain⟨q0,q1,q2,q3⟩:=hl _ (Yp (by omega:i<l.length))
       have hstep:(l.take (i+1)).foldl stF []=stF ((l.take i).foldl stF []) (l.getD i default):=Yt (by omega)
       have ei:IntKind.i64.wrap ((i:Int)+1)=((i+1:Nat):Int):=by rw[YGy _ (by omega)];omega
       rw[ei]
       generalize(l.take i).foldl stF []=out at*
       generalize l.getD i default=x at*
       have hst1:stF out x=if 1<x.1 then out++[x.1.toNat]else out:=rfl
       rw[hst1]at hstep
       refine⟨⟨by omega,by omega⟩,fun hc=>?_,fun hc=>?_⟩
       . rw[if_pos hc]at hstep
         refine⟨⟨by omega,by omega⟩,by decide,⟨by unfold YN;omega,fun j hj=>?_⟩,(i+1,yo&&decide False),⟨by simp only;omega,by simp⟩,by simp only;omega,?_⟩
         . match j,hj with
           |0,_=>exact⟨rfl,trivial,trivial⟩
         . have hol:(out++[x.1.toNat]).length=out.length+1:=by rw[YHo];rfl
           simp only[hstep,hol]
           simp only[Ya]
           refine⟨by decide,fun k hk=>?_⟩
           by_cases hkt:k<out.length
           . rw[if_pos hkt,YGB (l:=_++_),YG4 hkt,<-YGB]
             exact⟨⟨rfl,rfl⟩,trivial⟩
           . obtain rfl:k=out.length:=by omega
             rw[if_neg hkt,YGB (l:=_++_),YHh (YGH _),Nat.sub_self]
             exact⟨⟨rfl,by simp;omega⟩,trivial⟩
       . rw[if_neg hc]at hstep
         refine⟨(i+1,yo),⟨by simp only;omega,by simp only[hstep];exact hyo⟩,by simp only;omega,?_⟩
         simp only[hstep]
         simp only[Ya]
         decide
     . obtain rfl:i=l.length:=by omega
       have hst:=st_ok hl hn
       rw[YHm]at*
       generalize l.foldl stF []=out0 at*
       refine Loop.keepF [0] (Nat×List Nat×Bool) (fun s=>[(3,.vs true s.2.2 s.2.1.length 1 (fun k=>encB (s.2.1.getD k 0))),(5,.int .i64 s.1)]) (fun _=>[(0,.gone)]) [] (fun s=>BOk l s.2.1/\s.1<=s.2.1.length/\(∀a,a<s.1->∀c,c<a->YHO (s.2.1.getD a 0) (s.2.1.getD c 0)=1)) (fun s=>Ys s.2.1*2000+(s.2.1.length-s.1)) ?_ ?_
       . refine⟨(0,out0,yo),⟨hst,YHl _,fun a ha=>absurd ha (YHH _)⟩,[0],?_,?_⟩
         . (try dsimp only[go_sem,reduceIte])
           exact⟨fun p hp=>rfl,trivial⟩
         . (try dsimp only[encB,go_sem,reduceIte])
           simp only[Ya]
           rfl
       . rintro⟨i,out,yo⟩ ⟨hok,hi,hcp⟩
         dsimp only at hok hi hcp
         (try dsimp only[encB,YGv,go_sem,reduceIte])
         (try simp only[Yd,YGu,YGt,reduceCtorEq,YGs])
         have hlen:=hok.len
         refine⟨fun hlt=>?_,fun hge2=>?_⟩
         . refine Loop.keep [0,2,1] Nat (fun j=>[(6,.int .i64 j)]) (fun _=>[]) [] (fun j=>j<=i/\∀c,c<j->YHO (out.getD i 0) (out.getD c 0)=1) (fun j=>i-j) ?_ ?_
           . refine⟨0,⟨YHl _,fun c hc=>absurd hc (YHH _)⟩,?_⟩
             (try dsimp only[go_sem,reduceIte])
             simp only[Ya]
             rfl
           . rintro j ⟨hj,hgj⟩
             (try dsimp only[Ytm,gcdC,encB,YGv,go_sem,reduceIte])
             (try simp only[Yd,YGu,YGt,reduceCtorEq,YGs])
             refine⟨fun hlt2=>?_,fun hge3=>?_⟩
             . have ri:2<=out.getD i 0/\out.getD i 0<=1000000000001:=hok.rng _ (Yp (l:=out) (i:=i) (by omega))
               have rj:2<=out.getD j 0/\out.getD j 0<=1000000000001:=hok.rng _ (Yp (l:=out) (i:=j) (by omega))
               refine⟨⟨by omega,by omega⟩,⟨by omega,by omega⟩,out.getD i 0,out.getD j 0,⟨rfl,rfl,by omega,by omega⟩,fun hg1=>⟨j+1,⟨by omega,fun c hc=>?_⟩,by omega,?_⟩,fun hg1=>?_⟩
               . rcases YGN c j with h'|h'
                 . exact hgj c h'
                 . obtain rfl:c=j:=by omega
                   omega
               . rw[YGy ((j:Int)+1) (by omega)]
                 simp only[Ya]
                 simp
               . obtain⟨g,hg⟩:∃g,g=YHO (out.getD i 0) (out.getD j 0):=⟨_,rfl⟩
                 rw[<-hg]at hg1⊢
                 have hg0:0<g:=hg▸Nat.gcd_pos_of_pos_left _ (by omega)
                 have hgi:g<=out.getD i 0:=hg▸Nat.le_of_dvd (by omega) (Nat.gcd_dvd_left _ _)
                 have hg1':1<g:=by omega
                 obtain⟨n1,n2⟩:=hok.next (i:=i) (k:=j) (by omega) (by omega) hg hg1'
                 refine Loop.keep [0,2,1,0,0] (Nat×Bool) (fun s=>[(8,.own 1 0 (nxtL out i j g s.1).length 1),(9,.int .i64 s.1)]) (fun s=>[(1,.own s.2 1 (nxtL out i j g s.1).length (fun k=>encB ((nxtL out i j g s.1).getD k 0)))]) [.gone] (fun s=>s.1<=out.length/\(s.2=true->(nxtL out i j g s.1).length=0)) (fun s=>out.length-s.1) ?_ ?_
                 . refine⟨(0,true),⟨YHl _,fun _=>rfl⟩,?_⟩
                   (try dsimp only[nxtL,List.length_nil,go_sem,reduceIte])
                   simp only[Ya]
                   simp
                 . rintro⟨n,yn⟩ ⟨hn',hyn⟩
                   dsimp only at hn' hyn
                   (try dsimp only[encB,YGv,go_sem,reduceIte])
                   (try simp only[Yd,YGu,YGt,reduceCtorEq,YGs])
                   have hnl:=YrP out i j g n
                   refine⟨fun hlt3=>?_,fun hge4=>?_⟩
                   . have rn:2<=out.getD n 0/\out.getD n 0<=1000000000001:=hok.rng _ (Yp (l:=out) (i:=n) (by omega))
                     have en:IntKind.i64.wrap ((n:Int)+1)=((n+1:Nat):Int):=by rw[YGy _ (by omega)];omega
                     have hb:(decide ((n:Int)=(i:Int)) || decide ((n:Int)=(j:Int)))=decide (n=i\/n=j):=by
                       rw[YHK,YHd,decide_eq_true_eq,decide_eq_true_eq,decide_eq_true_eq];omega
                     have hq:IntKind.i64.wrap (((out.getD n 0:Nat):Int).tdiv (g:Int))=((out.getD n 0/g:Nat):Int):=by
                       have e1:((out.getD n 0:Nat):Int).tdiv (g:Int)=((out.getD n 0/g:Nat):Int):=YHq rfl rfl
                       have h2:out.getD n 0/g<=out.getD n 0:=YHr _ _
                       rw[e1]
                       generalize out.getD n 0/g=q at h2⊢
                       exact YGy _ (by omega)
                     rw[en,hb,hq,decide_eq_true_eq,decide_eq_false_iff_not]
                     have hnx:nxtL out i j g (n+1)=if 1<itL out i j g n then nxtL out i j g n++[itL out i j g n]else nxtL out i j g n:=rfl
                     refine⟨⟨by omega,by omega⟩,fun hc=>⟨by omega,?_⟩,fun hc=>?_⟩
                     . rw[show itL out i j g n=out.getD n 0/g from if_pos hc]at hnx
                       generalize out.getD n 0/g=v at hnx⊢
                       refine⟨fun hv=>⟨by decide,⟨by unfold YN;omega,fun p hp=>?_⟩,(n+1,yn&&decide False),⟨by simp only;omega,by simp⟩,by simp only;omega,?_⟩,fun hv=>⟨(n+1,yn),⟨by simp only;omega,?_⟩,by simp only;omega,?_⟩⟩
                       . match p,hp with
                         |0,_=>exact⟨rfl,trivial,trivial⟩
                       . rw[if_pos (by omega)]at hnx
                         have hol:(nxtL out i j g n++[v]).length=(nxtL out i j g n).length+1:=by rw[YHo];rfl
                         simp only[hnx,hol]
                         simp only[Ya]
                         refine⟨by decide,fun p hp=>?_⟩
                         by_cases hpt:p<(nxtL out i j g n).length
                         . rw[if_pos hpt,YGB (l:=_++_),YG4 hpt,<-YGB]
                           exact⟨⟨rfl,rfl⟩,trivial⟩
                         . rw[if_neg hpt,show p-(nxtL out i j g n).length=0 by omega,YGB (l:=_++_),YHh (by omega),show p-(nxtL out i j g n).length=0 by omega]
                           exact⟨⟨rfl,rfl⟩,trivial⟩
                       . rw[if_neg (by omega)]at hnx
                         simp only[hnx];exact hyn
                       . rw[if_neg (by omega)]at hnx
                         simp only[hnx]
                         simp only[Ya]
                         decide
                     . rw[show itL out i j g n=out.getD n 0 from if_neg hc]at hnx
                       generalize out.getD n 0=v at hnx⊢
                       refine⟨fun hv=>⟨by decide,⟨by unfold YN;omega,fun p hp=>?_⟩,(n+1,yn&&decide False),⟨by simp only;omega,by simp⟩,by simp only;omega,?_⟩,fun hv=>⟨(n+1,yn),⟨by simp only;omega,?_⟩,by simp only;omega,?_⟩⟩
                       . match p,hp with
                         |0,_=>exact⟨rfl,trivial,trivial⟩
                       . rw[if_pos (by omega)]at hnx
                         have hol:(nxtL out i j g n++[v]).length=(nxtL out i j g n).length+1:=by rw[YHo];rfl
                         simp only[hnx,hol]
                         simp only[Ya]
                         refine⟨by decide,fun p hp=>?_⟩
                         by_cases hpt:p<(nxtL out i j g n).length
                         . rw[if_pos hpt,YGB (l:=_++_),YG4 hpt,<-YGB]
                           exact⟨⟨rfl,rfl⟩,trivial⟩
                         . rw[if_neg hpt,show p-(nxtL out i j g n).length=0 by omega,YGB (l:=_++_),YHh (by omega),show p-(nxtL out i j g n).length=0 by omega]
                           exact⟨⟨rfl,rfl⟩,trivial⟩
                       . rw[if_neg (by omega)]at hnx
                         simp only[hnx];exact hyn
                       . rw[if_neg (by omega)]at hnx
                         simp only[hnx]
                         simp only[Ya]
                         decide
                   . obtain rfl:n=out.length:=by omega
                     have hol:(nxtL out i j g out.length++[g]).length=(nxtL out i j g out.length).length+1:=by rw[YHo];rfl
                     have hp:=n1.pos
                     have hl2:=n1.len
                     refine⟨by decide,⟨by unfold YN;omega,fun p hp=>?_⟩,(0,nxtL out i j g out.length++[g],yn&&decide False),⟨n1,YHl _,fun a ha=>absurd ha (YHH _)⟩,by simp only;omega,[1],?_,?_⟩
                     . match p,hp with
                       |0,_=>exact⟨rfl,trivial,trivial⟩
                     . (try dsimp only[go_sem,reduceIte])
                       refine⟨fun p hp=>?_,trivial⟩
                       by_cases hpt:p<(nxtL out i j g out.length).length
                       . rw[if_pos hpt];rfl
                       . rw[if_neg hpt,show p-(nxtL out i j g out.length).length=0 by omega];rfl
                     . (try dsimp only[go_sem,reduceIte])
                       simp only[hol]
                       simp only[Ya]
                       refine⟨fun p hp=>?_,by decide⟩
                       by_cases hpt:p<(nxtL out i j g out.length).length
                       . rw[if_pos hpt,YGB (l:=_++_),YG4 hpt,<-YGB]
                         exact Ye _
                       . rw[if_neg hpt,show p-(nxtL out i j g out.length).length=0 by omega,YGB (l:=_++_),YHh (by omega),show p-(nxtL out i j g out.length).length=0 by omega]
                         exact Ye _
             . obtain rfl:j=i:=by omega
               refine⟨(j+1,out,yo),⟨hok,by simp only;omega,fun a ha c hc=>?_⟩,by simp only;omega,[],trivial,?_⟩
               . rcases YGN a j with h'|h'
                 . exact hcp a h' c hc
                 . obtain rfl:a=j:=by simp only at ha;omega
                   exact hgj c hc
               . (try dsimp only[go_sem,reduceIte])
                 rw[YGy ((j:Int)+1) (by omega)]
                 simp only[Ya]
                 simp
         . obtain rfl:i=out.length:=by omega
           exact YE (show k (.vs true yo out.length 1 (fun k=>encB (out.getD k 0))) []from h out ⟨hok,Yyk hcp⟩ yo) (Yy _ trivial) (fun _=>by simp [Yl,encB,Yo])
 . exact h.1.elim
def v162:VF:=⟨49,[.tmp 2],(ZR [u1 2 .mov [.cn (.bool false)]] (ZR [Zm 8 0,Zc 9 174 8,Zm 3 9] (.seq (ZR [Zi 4 0] (.block 0 (.loop (.seq (ZR [Zm 10 4,Zm 11 3,Zl 12 11,Zr 13 .lss 10 12] (ZC 13 .skip (.exit 0))) (.seq (.block 1 (ZR [Zi 5 0] (.seq (ZR [Zi 6 0] (.block 2 (.loop (.seq (ZR [Zm 16 6,Zm 17 0,Zl 18 17,Zr 19 .lss 16 18] (ZC 19 .skip (.exit 2))) (.seq (.block 3 (ZR [Zm 22 0,Zm 23 6,Zx 24 2 22 23,Za 25 0 24,Zf 26 1 25,Zm 7 26] (.block 4 (.loop (.seq (ZR [Zm 27 7,Zm 28 3,Zm 29 4,Zx 30 1 28 29,Zf 31 1 30,u1 32 .rem [.tm 27,.tm 31],Zq 33 .eql 32 0] (ZC 33 .skip (.exit 4))) (.seq (.block 5 (.region [Zm 40 5,Zm 41 0,Zm 42 6,Zx 43 2 41 42,Za 44 1 43,Zf 45 1 44,Zo 46 .add 40 45,Zm 5 46])) (.region [Zm 34 7,Zm 35 3,Zm 36 4,Zx 37 1 35 36,Zf 38 1 37,u1 39 .quo [.tm 34,.tm 38],Zm 7 39]))))))) (.region [Zm 20 6,Zp 21 20 1,Zm 6 21])))))) (ZR [Zm 47 5,Zq 48 .neq 47 0] (ZC 48 (ZR [u1 2 .mov [.cn (.bool false)]] .ret) .skip))))) (.region [Zm 14 4,Zp 15 14 1,Zm 4 15])))))) (ZR [u1 2 .mov [.cn (.bool true)]] .ret))))⟩
theorem YBw:Yf YGw Tryz.f162=some v162:=by kernel_rfl
def oneC:Ctr:={ alias:=false,of:=fun l=>match l with
 | [.vs _ _ n sz get]=> .ex (List (Int×Int)) fun l=> .pre (lsP 2 enc2 n sz get l/\(∀x,x∈l->okT x)/\n<=20) (.fin (.bool (decide (upP l=dnP l))) [])
 |_=> .pre False (.fin (.bool false) [])}
def Q6:Env:={ ct:=fun n=>match n with|174=>some baseC|_=>none,fn:=fun _=>none,meth:=fun _ _=>none}
theorem Ytn:Q6.ct 174=some baseC:=rfl
theorem Q6_ok:Yq YGw Q6:=by
 refine⟨fun f c h=>?_,fun f vf h=>?_,(fun _ _ _ h=>by cases h),by kernel_rfl,(fun _ h=>by cases h)⟩
 . simp only[Q6]at h
   split at h
   . cases h;exact⟨Yx1,Tryz.f174,Tryz.func174,by kernel_rfl,by kernel_rfl⟩
   . cases h
 . cases h
theorem YDY:oneC.ok YGw 162:=by
 refine Yb Tryz.func162 YBw Q6_ok 500 oneC fun args k h=>?_
 simp only[oneC]at h
 split at h
 . rename_i tt z n sz get
   obtain⟨l,⟨⟨rfl,rfl,hg⟩,hl,hn⟩,h⟩:=h
   refine⟨[.vs tt z l.length 2 (fun k=>enc2 (l.getD k default))],⟨⟨id,rfl,rfl,rfl,hg⟩,trivial⟩,?_⟩
   (try dsimp only[v162,Ytn,baseC,enc2,go_sem,reduceIte])
   (try simp only[Yd,YGu,YGt,reduceCtorEq,YGs])
   refine⟨l,⟨⟨rfl,rfl,fun k hk=>Ye _⟩,hl,hn⟩,fun B hB y=>?_⟩
   obtain⟨hok,hcop⟩:=hB
   have hbl:=hok.len
   have hone:=YDX hl hn hok hcop
   rw[<-hone]at h
   refine Loop.keep [0,2] Nat (fun i=>[(4,.int .i64 i)]) (fun _=>[]) [] (fun i=>i<=B.length/\((B.take i).all fun b=>decide (sumB l b=0))=true) (fun i=>B.length-i) ?_ ?_
   . refine⟨0,⟨by omega,rfl⟩,?_⟩
     (try dsimp only[go_sem,reduceIte])
     simp only[Ya]
     rfl
   . rintro i ⟨hi,hall⟩
     (try dsimp only[encB,enc2,YGv,go_sem,reduceIte])
     (try simp only[Yd,YGu,YGt,reduceCtorEq,YGs])
     refine⟨fun hlt=>?_,fun hge=>?_⟩
     . have hb:2<=B.getD i 0/\B.getD i 0<=1000000000001:=hok.rng _ (Yp (l:=B) (i:=i) (by omega))
       have hsucc:((B.take (i+1)).all fun b=>decide (sumB l b=0))=decide (sumB l (B.getD i 0)=0):=by
         rw[Yfr (by omega),hall,YHn];rfl
       have hmemb:B.getD i 0∈B:=Yp (l:=B) (i:=i) (by omega)
       refine Loop.keep [0,2,0] (Nat×Int) (fun s=>[(5,.int .i64 s.2),(6,.int .i64 s.1)]) (fun _=>[]) [] (fun s=>s.1<=l.length/\s.2=(l.take s.1).foldl (fun s x=>divL 64 (B.getD i 0:Nat) x.1 x.2 s) 0) (fun s=>l.length-s.1) ?_ ?_
       . refine⟨(0,0),⟨by simp only;omega,rfl⟩,?_⟩
         (try dsimp only[go_sem,reduceIte])
         simp only[Ya]
         rfl
       . rintro⟨t,S⟩ ⟨ht,hS⟩
         dsimp only at ht hS
         (try dsimp only[encB,enc2,YGv,go_sem,reduceIte])
         (try simp only[Yd,YGu,YGt,reduceCtorEq,YGs])
         refine⟨fun hlt2=>⟨⟨by omega,by omega⟩,?_⟩,fun hge2=>?_⟩
         . have hx:=hl _ (Yp (by omega:t<l.length))
           have hst:(l.take (t+1)).foldl (fun s x=>divL 64 (B.getD i 0:Nat) x.1 x.2 s) 0=divL 64 (B.getD i 0:Nat) (l.getD t default).1 (l.getD t default).2 S:=by
             rw[Yt (by omega),<-hS]
           obtain⟨q0,q1,q2,q3⟩:=hx
           obtain⟨R,hR⟩:∃R,R=divL 64 (B.getD i 0:Nat) (l.getD t default).1 (l.getD t default).2 S:=⟨_,rfl⟩
           rw[<-hR]at hst
           refine Loop.keep [0,2,0,1] (Nat×Int×Int) (fun s=>[(5,.int .i64 s.2.2),(7,.int .i64 s.2.1)]) (fun _=>[]) [] (fun s=>R=divL s.1 (B.getD i 0:Nat) s.2.1 (l.getD t default).2 s.2.2/\1<=s.2.1/\s.2.1<2^s.1/\s.2.1<=1000000000001) (fun s=>s.1) ?_ ?_
           . refine⟨(64,(l.getD t default).1,S),⟨hR,q0,by simp only;omega,q1⟩,?_⟩
             (try dsimp only[go_sem,reduceIte])
             simp only[Ya]
           . rintro⟨f,n,S'⟩ ⟨hf,n0,n1,n2⟩
             dsimp only at hf n0 n1 n2
             (try dsimp only[encB,enc2,YGv,go_sem,reduceIte])
             (try simp only[Yd,YGu,YGt,reduceCtorEq,YGs])
             generalize B.getD i 0=b at*
             generalize l.getD t default=x at*
             obtain⟨m,rfl⟩:=YGT (by omega:0<=n)
             obtain⟨g,rfl⟩:∃g,f=g+1:=by
               cases f with
               |zero=>simp at n1;omega
               |succ g=>exact⟨g,rfl⟩
             rw[divL]at hf
             refine⟨⟨by omega,by omega⟩,by omega,fun hc=>?_,fun hc=>?_⟩
             . rw[if_pos hc]at hf
               have e1:(m:Int).tmod (b:Int)=((m%b:Nat):Int):=YHR rfl rfl
               have e2:(m:Int).tdiv (b:Int)=((m/b:Nat):Int):=YHq rfl rfl
               rw[e1]at hc
               have hdm:=YG3 m b
               rw[show m%b=0 by omega,YHw]at hdm
               have hq1:1<=m/b:=Nat.pos_of_ne_zero fun hh=>by rw[hh,Nat.mul_zero]at hdm;omega
               have hq2:2*(m/b)<=m:=by
                 have:2*(m/b)<=b*(m/b):=YGD _ hb.1
                 omega
               rw[e2]at hf⊢
               generalize m/b=q at hq1 hq2 hf⊢
               have eq:IntKind.i64.wrap (q:Int)=(q:Int):=YGy _ (by omega)
               rw[eq]at hf⊢
               have n1':m<2^g*2:=by rw[<-YGZ];exact_mod_cast n1
               refine⟨⟨by omega,by omega⟩,⟨by omega,by omega⟩,by omega,(g,q,IntKind.i64.wrap (S'+x.2)),⟨hf,by simp only;omega,?_,by simp only;omega⟩,by simp only;omega,?_⟩
               . show(q:Int)<2^g
                 have:q<2^g:=by omega
                 exact_mod_cast this
               . simp only[Ya]
             . rw[if_neg hc]at hf
               refine⟨(t+1,S'),⟨by simp only;omega,by rw[hst,hf]⟩,by simp only;omega,?_⟩
               rw[YGy ((t:Int)+1) (by omega)]
               simp only[Ya]
               simp
         . obtain rfl:t=l.length:=by omega
           rw[YHm]at hS
           have hS:S=sumB l (B.getD i 0):=hS
           refine⟨fun hc=>?_,fun hc=>⟨i+1,⟨by omega,?_⟩,by omega,?_⟩⟩
           . have:(B.all fun b=>decide (sumB l b=0))=false:=by
               rw[List.all_eq_false]
               exact⟨B.getD i 0,hmemb,by rw[<-hS];simpa using hc⟩
             rw[this]at h
             exact YW h
           . rw[hsucc,<-hS];exact decide_eq_true hc
           . rw[YGy ((i:Int)+1) (by omega)]
             simp only[Ya]
             simp
     . obtain rfl:i=B.length:=by omega
       rw[YHm]at hall
       rw[hall]at h
       exact YW h
 . exact h.1.elim
theorem Yk7{n p:Nat}(h1:1<=n)(h2:n<4611686018427387904):2^(lgR n p).1<=n^(2^p)/\n^(2^p)<=2^(lgR n p).2:=by
 unfold lgR
 by_cases c:n=2^lgK n
 . rw[if_pos c]
   have e:n^(2^p)=2^(lgK n*2^p):=by rw[YHj,<-c]
   rw[e];exact⟨YGH _,YGH _⟩
 . rw[if_neg c]
   have hk:lgK n<62:=Yd8 (by decide) h2
   rcases YGN (2*p+60) (lgK n)with hh|hh
   . have hk1:=YnN h1
     have e:2*p+60-lgK n=0:=by omega
     obtain rfl:p=0:=by omega
     simp only[gl]
     rw[Nat.pow_zero,Nat.pow_one]
     exact⟨hk1.1,YHp hk1.2⟩
   . obtain⟨m1,m2,m3⟩:=mant (D:=2*p+60) h1 hh
     exact Yjx _ false (Nat.pow_pos (by decide)) p _ _ _ n (YHM m3) (YHM m3.symm) m1 (YHp m2)
theorem Yru{n p:Nat}(h1:1<=n)(h2:n<4611686018427387904):(lgR n p).1<=(lgR n p).2/\(lgR n p).2<=64*2^p:=by
 have hs:=Yk7 (p:=p) h1 h2
 have hk:lgK n<62:=Yd8 (by decide) h2
 refine⟨(Nat.pow_le_pow_iff_right (by decide)).1 (YGF hs.1 hs.2),?_⟩
 unfold lgR
 split
 . exact YGD _ (by omega)
 . exact YGF (YeZ _ false p _ _ (lgK n)).2 (YGD _ (by omega))
theorem Yis{n p r:Nat}(h1:1<=n)(h2:n<4611686018427387904)(hp:p+2<=r):(lN n p).1*2^(r-p)<=(lgR n r).1/\(lgR n r).2<=(lN n p).2*2^(r-p):=by
 have hk:lgK n<62:=Yd8 (by decide) h2
 unfold lN lgR
 by_cases c:Yco (n:Int)=true
 . rw[if_pos c,if_pos (YnH h1 h2 c)]
   have e:lgK n*2^p*2^(r-p)=lgK n*2^r:=by
     rw[YGE,<-YGJ];congr 2;omega
   simp only
   rw[e];exact⟨YGH _,YGH _⟩
 . have c':¬n=2^lgK n:=fun hh=>c (by rw[hh];exact Yk3 _ hk)
   rw[if_neg c,if_neg c']
   obtain⟨d,rfl⟩:∃d,r=p+2+d:=⟨r-p-2,by omega⟩
   have eM:(2:Nat)^(2*(p+2+d)+60)=2^(2*p+64)*2^(2*d):=by
     rw[<-YGJ];congr 1;omega
   have eA:n*2^(2*(p+2+d)+60-lgK n)=2^(2*d)*(n*2^(2*p+64-lgK n)):=by
     rw[show 2*(p+2+d)+60-lgK n=2*d+(2*p+64-lgK n)by omega,YGJ,YHc]
   have:=YqZ (2^(2*p+64)) (2^(2*d)) false (Nat.pow_pos (by decide)) (Nat.pow_pos (by decide)) (2+d) p (n*2^(2*p+64-lgK n)) (n*2^(2*p+64-lgK n)) (lgK n) _ _ (YHM eA.symm) (YGH _) (YHM eA)
   rw[<-eM,show p+(2+d)=p+2+d by omega]at this
   rw[show p+2+d-p=2+d by omega]
   exact this
theorem YpO(g:Nat->Nat):∀a b,upS g (a++b)=upS g a+upS g b/\dnS g (a++b)=dnS g a+dnS g b
 | [],b=>by simp [upS,dnS]
 |x::a,b=>by
   obtain⟨h1,h2⟩:=YpO g a b
   rw[List.cons_append,upS,dnS,upS,dnS,h1,h2]
   exact⟨(Nat.add_assoc ..).symm,(Nat.add_assoc ..).symm⟩
theorem YlW(g:Nat->Nat)(c:Nat):∀l,upS (fun n=>g n*c) l=upS g l*c/\dnS (fun n=>g n*c) l=dnS g l*c
 | []=>by simp [upS,dnS]
 |x::l=>by
   obtain⟨h1,h2⟩:=YlW g c l
   rw[upS,dnS,upS,dnS,h1,h2,YG8,YG8]
   constructor
   . split
     . rw[Nat.zero_mul]
     . rw[Nat.mul_right_comm]
   . split
     . rw[Nat.mul_right_comm]
     . rw[Nat.zero_mul]
def lo(p n:Nat):Nat:=(lgR n p).1
def hi(p n:Nat):Nat:=(lgR n p).2
def UndR(l:List (Int×Int))(p:Nat):Prop:=upS (lo p) l<=dnS (hi p) l/\dnS (lo p) l<=upS (hi p) l
theorem Yo5{l:List (Int×Int)}{p r:Nat}(hl:∀x,x∈l->okT x)(hp:p+2<=r)(h:UndR l r):Und l p:=by
 obtain⟨h1,h2⟩:=h
 obtain⟨a1,a2⟩:=Yku (g:=fun n=>(lN n p).1*2^(r-p)) (h:=lo r) (fun n k1 k2=>(Yis k1 k2 hp).1) l hl
 obtain⟨b1,b2⟩:=Yku (g:=hi r) (h:=fun n=>(lN n p).2*2^(r-p)) (fun n k1 k2=>(Yis k1 k2 hp).2) l hl
 obtain⟨c1,c2⟩:=YlW (fun n=>(lN n p).1) (2^(r-p)) l
 obtain⟨d1,d2⟩:=YlW (fun n=>(lN n p).2) (2^(r-p)) l
 rw[c1]at a1;rw[c2]at a2;rw[d1]at b1;rw[d2]at b2
 exact⟨Nat.le_of_mul_le_mul_right (YGF a1 (YGF h1 b2)) (YF _),Nat.le_of_mul_le_mul_right (YGF a2 (YGF h2 b1)) (YF _)⟩
def ordR(l:List (Int×Int))(p:Nat):Int:=if dnS (hi p) l<upS (lo p) l then 1 else if upS (hi p) l<dnS (lo p) l then -1 else 0
theorem Yiw{l:List (Int×Int)}{p:Nat}(hl:∀x,x∈l->okT x):(ordR l p=1->dnP l<upP l)/\(ordR l p= -1->upP l<dnP l)/\(ordR l p=0->UndR l p)/\(ordR l p=1\/ordR l p= -1\/ordR l p=0):=by
 obtain⟨⟨a1,a2⟩,b1,b2⟩:=Ycz (K:=2^p) (g:=lo p) (h:=hi p) (fun n k1 k2=>Yk7 k1 k2) l hl
 unfold ordR
 by_cases c1:dnS (hi p) l<upS (lo p) l
 . rw[if_pos c1]
   exact⟨fun _=>YbB b2 a1 c1,fun h=>absurd h (by decide),fun h=>absurd h (by decide),Or.inl rfl⟩
 . rw[if_neg c1]
   by_cases c2:upS (hi p) l<dnS (lo p) l
   . rw[if_pos c2]
     exact⟨fun h=>absurd h (by decide),fun _=>YbB a2 b1 c2,fun h=>absurd h (by decide),YHT (Or.inl rfl)⟩
   . rw[if_neg c2]
     exact⟨fun h=>absurd h (by decide),fun h=>absurd h (by decide),fun _=>⟨by omega,by omega⟩,YHT (YHT rfl)⟩
theorem S_nl{l:List (Int×Int)}{p:Nat}{g:Nat->Nat}(hg:∀n,1<=n->n<4611686018427387904->g n<=64*2^p)(hl:∀x,x∈l->okT x)(hn:l.length<=20)(hp:p<=3840):nl (upS g l)<=300/\nl (dnS g l)<=300:=by
 obtain⟨h1,h2⟩:=S_le hg l hl
 have hb:l.length*(64*2^p*1000000000)<2^(p+41):=by
   rw[YGJ]
   have h3:=YGD (64*2^p*1000000000) hn
   have:=YF p
   rw[show(2:Nat)^41=2199023255552 from rfl]
   omega
 exact⟨Ylh (YGU h1 hb) (by omega),Ylh (YGU h2 hb) (by omega)⟩
theorem lo_b{p n:Nat}(h1:1<=n)(h2:n<4611686018427387904):lo p n<=64*2^p:=YGF (Yru h1 h2).1 (Yru h1 h2).2
theorem hi_b{p n:Nat}(h1:1<=n)(h2:n<4611686018427387904):hi p n<=64*2^p:=(Yru h1 h2).2
def v130:VF:=⟨91,[.cell 4 true 2,.cell 5 true 2],(ZR [u1 4 (.allocArr 2 1 [.nil,.nil]) [],u1 5 (.allocArr 2 1 [.nil,.nil]) []] (ZR [u1 6 (.allocArr 2 1 [.nil,.nil]) [],u1 7 (.allocArr 2 1 [.nil,.nil]) []] (.seq (ZR [Zi 8 0] (.block 0 (.loop (.seq (ZR [Zm 12 8,Zm 13 0,Zl 14 13,Zr 15 .lss 12 14] (ZC 15 .skip (.exit 0))) (.seq (.block 1 (.seq (ZR [Zm 18 0,Zm 19 8,Zx 20 2 18 19,Za 21 0 20,Zf 22 1 21,Zq 23 .eql 22 1,Zm 24 23,Zg 25 24 false 0,Zg 26 24 false 8,u2 27 24 false (.idxAddr 2) [.tm 25,.tm 26],Zj 28 24 false 1 27,Zh 29 24 false 1 28,u2 30 24 false (.cmp .eql) [.tm 29,.cn (.int .i64 0)],u1 31 .or [.tm 24,.tm 30]] (ZC 31 (.exit 1) .skip)) (ZR [Zm 33 0,Zm 34 8,Zx 35 2 33 34,Za 36 0 35,Zf 37 1 36,Zm 38 1,Zd 39 147 37 38,Zm 32 39,Ze 40 0 32,Ze 41 1 32,Zm 9 40,Zm 10 41] (.seq (.draw [] [Zu 42 0,Zu 43 8,ZX 44 2 42 43,Zy 45 1 44,Zv 46 1 45,Zu 47 0,Zu 48 8,ZX 49 2 47 48,Zy 50 1 49,Zv 51 1 50,w1 52 .neg [.tm 51],w1 53 .max [.tm 46,.tm 52],w1 54 (.call 148) [.tm 53],Zu 11 54]) (ZR [Zm 55 0,Zm 56 8,Zx 57 2 55 56,Za 58 1 57,Zf 59 1 58,Zq 60 .gtr 59 0] (ZC 60 (.seq (.draw [] [w1 61 (.idxArr 2 1) [.tm 6,.cn (.int .i64 0)],Zv 62 1 61,Zu 63 11,Zu 64 9,Zz 65 149 63 64,Zz 66 132 62 65,w1 67 (.idxArr 2 1) [.tm 6,.cn (.int .i64 0)],ZS 1 67 66]) (.draw [] [w1 68 (.idxArr 2 1) [.tm 6,.cn (.int .i64 1)],Zv 69 1 68,Zu 70 11,Zu 71 10,Zz 72 149 70 71,Zz 73 132 69 72,w1 74 (.idxArr 2 1) [.tm 6,.cn (.int .i64 1)],ZS 1 74 73])) (.seq (.draw [] [w1 75 (.idxArr 2 1) [.tm 7,.cn (.int .i64 0)],Zv 76 1 75,Zu 77 11,Zu 78 9,Zz 79 149 77 78,Zz 80 132 76 79,w1 81 (.idxArr 2 1) [.tm 7,.cn (.int .i64 0)],ZS 1 81 80]) (.draw [] [w1 82 (.idxArr 2 1) [.tm 7,.cn (.int .i64 1)],Zv 83 1 82,Zu 84 11,Zu 85 10,Zz 86 149 84 85,Zz 87 132 83 86,w1 88 (.idxArr 2 1) [.tm 7,.cn (.int .i64 1)],ZS 1 88 87])))))))) (.region [Zm 16 8,Zp 17 16 1,Zm 8 17])))))) (.seq (.draw [] [Zw 89 2 6,Zw 90 2 7,⟨Zs 2 4 89,[.tm 7]⟩,ZS 2 5 90]) .ret))))⟩
theorem YA2:Yf YGw Tryz.f130=some v130:=by kernel_rfl
def v131:VF:=⟨17,[.tmp 4],(ZR [u1 2 .box [.tm 0],u1 3 .box [.tm 1],Zi 4 0] (.seq (ZR [u1 5 (.idxArr 2 1) [.tm 2,.cn (.int .i64 0)],Zf 6 1 5,u1 7 (.idxArr 2 1) [.tm 3,.cn (.int .i64 1)],Zf 8 1 7,Zd 9 150 6 8,Zq 10 .gtr 9 0] (ZC 10 (ZR [Zi 4 1] .ret) .skip)) (.seq (ZR [u1 11 (.idxArr 2 1) [.tm 2,.cn (.int .i64 1)],Zf 12 1 11,u1 13 (.idxArr 2 1) [.tm 3,.cn (.int .i64 0)],Zf 14 1 13,Zd 15 150 12 14,Zq 16 .lss 15 0] (ZC 16 (ZR [Zi 4 (-1)] .ret) .skip)) (ZR [Zi 4 0] .ret))))⟩
theorem YA3:Yf YGw Tryz.f131=some v131:=by kernel_rfl
def sumsC:Ctr:={ alias:=false,of:=fun l=>match l with
 | [.vs _ _ n sz get,.int .i64 p]=> .ex (List (Int×Int)) fun l=> .ex Nat fun q=> .pre (lsP 2 enc2 n sz get l/\(∀x,x∈l->okT x)/\n<=20/\p=q/\q<=3840/\q%15=0)
     (.all Bool fun y1=> .all Bool fun y2=> .all Bool fun y3=> .all Bool fun y4=> .fin (.tup [.agg [natS y1 (upS (lo q) l),natS y2 (upS (hi q) l)],.agg [natS y3 (dnS (lo q) l),natS y4 (dnS (hi q) l)]]) [])
 |_=>noC}
def orderC:Ctr:={ alias:=false,of:=fun l=>match l with
 | [.agg [.vs _ _ n0 s0 g0,.vs _ _ n1 s1 g1],.agg [.vs _ _ n2 s2 g2,.vs _ _ n3 s3 g3]]=> .ex Nat fun a=> .ex Nat fun b=> .ex Nat fun c=> .ex Nat fun d=> .pre ((padP a n0 s0 g0/\n0=nl a)/\(padP b n1 s1 g1/\n1=nl b)/\(padP c n2 s2 g2/\n2=nl c)/\(padP d n3 s3 g3/\n3=nl d)) (.fin (.int .i64 (if d<a then 1 else if b<c then -1 else 0)) [])
 |_=>noC}
def Q7:Env:={ ct:=fun n=>match n with|147=>some logC|148=>some limbsC|149=>some mulC|132=>some addC|150=>some cmpC|_=>none,fn:=fun _=>none,meth:=fun _ _=>none}
theorem YiO:Q7.ct 147=some logC:=rfl
theorem YiP:Q7.ct 148=some limbsC:=rfl
theorem YiQ:Q7.ct 149=some mulC:=rfl
theorem YiN:Q7.ct 132=some addC:=rfl
theorem Yto:Q7.ct 150=some cmpC:=rfl
theorem YCk:Yq YGw Q7:=by
 refine⟨fun f c h=>?_,fun f vf h=>?_,(fun _ _ _ h=>by cases h),by kernel_rfl,(fun _ h=>by cases h)⟩
 . simp only[Q7]at h
   split at h
   . cases h;exact⟨YDL,Tryz.f147,Tryz.func147,by kernel_rfl,by kernel_rfl⟩
   . cases h;exact⟨YjK,Tryz.f148,Tryz.func148,by kernel_rfl,by kernel_rfl⟩
   . cases h;exact⟨YnR,Tryz.f149,Tryz.func149,by kernel_rfl,by kernel_rfl⟩
   . cases h;exact⟨Yf5,Tryz.f132,Tryz.func132,by kernel_rfl,by kernel_rfl⟩
   . cases h;exact⟨YeR,Tryz.f150,Tryz.func150,by kernel_rfl,by kernel_rfl⟩
   . cases h
 . cases h
def YrJ(t z:Bool)(a:Nat):SV:= .vs t z (nl a) 1 (fun k=>[.int .i64 (dig a k)])
theorem YaL:orderC.ok YGw 131:=by
 refine Yb Tryz.func131 YA3 YCk 300 orderC fun args k h=>?_
 simp only[orderC]at h
 split at h
 . rename_i t0 z0 n0 s0 g0 t1 z1 n1 s1 g1 t2 z2 n2 s2 g2 t3 z3 n3 s3 g3
   obtain⟨a,b,c,d,⟨⟨⟨rfl,p0,p1,p2⟩,rfl⟩,⟨⟨rfl,q0,q1,q2⟩,rfl⟩,⟨⟨rfl,r0,r1,r2⟩,rfl⟩,⟨⟨rfl,u0,u1,u2⟩,rfl⟩⟩,h⟩:=h
   refine⟨[.agg [YrJ t0 z0 a,YrJ t1 z1 b],.agg [YrJ t2 z2 c,YrJ t3 z3 d]],⟨⟨⟨id,rfl,rfl,rfl,p2⟩,⟨id,rfl,rfl,rfl,q2⟩,trivial⟩,⟨⟨id,rfl,rfl,rfl,r2⟩,⟨id,rfl,rfl,rfl,u2⟩,trivial⟩,trivial⟩,?_⟩
   (try dsimp only[v131,Yto,cmpC,YrJ,YGv,go_sem,reduceIte])
   (try simp only[Yd,YGu,YGt,reduceCtorEq,YGs])
   have c1:0<ordN a d↔d<a:=by
     unfold ordN;split
     . omega
     . split <;> omega
   refine⟨by decide,by decide,a,d,⟨Yc (by omega),Yc (by omega),rfl,rfl⟩,fun hc=>?_,fun hc=>⟨by decide,by decide,b,c,⟨Yc (by omega),Yc (by omega),rfl,rfl⟩,fun hd=>?_,fun hd=>?_⟩⟩
   . rw[if_pos (c1.1 hc)]at h;exact Yh h
   . rw[if_neg (fun hh=>hc (c1.2 hh)),if_pos (ord_lt.1 hd)]at h;exact Yh h
   . rw[if_neg (fun hh=>hc (c1.2 hh)),if_neg (fun hh=>hd (ord_lt.2 hh))]at h;exact Yh h
 . exact h.1.elim
theorem YDK(p:Nat):lo p (1:Int).toNat=0/\hi p (1:Int).toNat=0:=by
 have e:lgR 1 p=(0,0):=by
   unfold lgR
   rw[if_pos (by decide),show lgK 1=0 by decide,Nat.zero_mul]
 exact⟨congrArg Prod.fst e,congrArg Prod.snd e⟩
structure SSt where
 i:Nat
 y1:Bool
 y2:Bool
 y3:Bool
 y4:Bool
theorem YsN:sumsC.ok YGw 130:=by
 refine Yb Tryz.func130 YA2 YCk 800 sumsC fun args k h=>?_
 simp only[sumsC]at h
 split at h
 . rename_i tt z n sz get p'
   obtain⟨l,p,⟨⟨rfl,rfl,hg⟩,hl,hn,rfl,hp,hp15⟩,h⟩:=h
   refine⟨[.vs tt z l.length 2 (fun k=>enc2 (l.getD k default)),.int .i64 p],⟨⟨id,rfl,rfl,rfl,hg⟩,⟨rfl,rfl⟩,trivial⟩,?_⟩
   (try dsimp only[v130,enc2,go_sem,reduceIte])
   (try simp only[Yd,YGu,YGt,reduceCtorEq,YGs])
   refine Loop.keep [0,0,2,0,0,0] SSt (fun s=>[(8,.int .i64 s.i)]) (fun s=>[(2,.own false 1 2 (YaS 1 [natS s.y1 (upS (lo p) (l.take s.i)),natS s.y2 (upS (hi p) (l.take s.i))])),(3,.own false 1 2 (YaS 1 [natS s.y3 (dnS (lo p) (l.take s.i)),natS s.y4 (dnS (hi p) (l.take s.i))]))]) [] (fun s=>s.i<=l.length) (fun s=>l.length-s.i) ?_ ?_
   . refine⟨⟨0,true,true,true,true⟩,by simp only;omega,?_⟩
     (try dsimp only[natS,go_sem,reduceIte])
     simp only[Ya]
     refine⟨by simp,fun k hk=>?_,fun k hk=>?_⟩
     . match k,hk with
       |0,_=>exact⟨⟨rfl,rfl⟩,trivial⟩
       |1,_=>exact⟨⟨rfl,rfl⟩,trivial⟩
     . match k,hk with
       |0,_=>exact⟨⟨rfl,rfl⟩,trivial⟩
       |1,_=>exact⟨⟨rfl,rfl⟩,trivial⟩
   . rintro⟨i,y1,y2,y3,y4⟩ hi
     dsimp only at hi
     (try dsimp only[YiO,YiP,YiQ,YiN,logC,limbsC,mulC,addC,natS,enc2,YGv,YHJ,Int.toNat_one,YHI,go_sem,reduceIte])
     (try simp only[Yd,YGu,YGt,reduceCtorEq,YGs])
     refine⟨fun hlt=>?_,fun hge=>?_⟩
     . obtain⟨q0,q1,q2,q3⟩:=hl _ (Yp (by omega:i<l.length))
       have hx:=Ydm (hl _ (Yp (by omega:i<l.length)))
       have hlt':i<l.length:=by omega
       have hU:∀g,upS g (l.take (i+1))=upS g (l.take i)+upS g [l.getD i default]:=fun g=>by rw[Yai hlt',(YpO g _ _).1]
       have hD:∀g,dnS g (l.take (i+1))=dnS g (l.take i)+dnS g [l.getD i default]:=fun g=>by rw[Yai hlt',(YpO g _ _).2]
       have hok:∀x,x∈l.take i->okT x:=fun x hx=>hl x (List.mem_of_mem_take hx)
       have hlen:(l.take i).length<=20:=by rw[YHi];omega
       obtain⟨b1,b2⟩:=S_nl (p:=p) (g:=lo p) (fun n h1 h2=>lo_b h1 h2) hok hlen hp
       obtain⟨b3,b4⟩:=S_nl (p:=p) (g:=Q.hi p) (fun n h1 h2=>hi_b h1 h2) hok hlen hp
       have lb:=lo_b (p:=p) hx.1 hx.2.1
       have hb:=hi_b (p:=p) hx.1 hx.2.1
       generalize l.getD i default=x at*
       have hlo:lo p x.1.toNat=(lgR x.1.toNat p).1:=rfl
       have hhi:Q.hi p x.1.toNat=(lgR x.1.toNat p).2:=rfl
       rw[<-hlo,<-hhi]
       have h1L:x.1=1->lo p x.1.toNat=0/\Q.hi p x.1.toNat=0:=fun hh=>by rw[hh];exact YDK p
       have eU:∀g:Nat->Nat,upS g [x]=if x.2<0 then 0 else g x.1.toNat*x.2.toNat:=fun g=>by rw[upS,upS,YHw]
       have eD:∀g:Nat->Nat,dnS g [x]=if x.2<0 then g x.1.toNat*(-x.2).toNat else 0:=fun g=>by rw[dnS,dnS,YHw]
       simp only[eU,eD]at hU hD
       have ei:IntKind.i64.wrap ((i:Int)+1)=((i+1:Nat):Int):=by rw[YGy _ (by omega)];omega
       have en:IntKind.i64.wrap (0-x.2)= -x.2:=by rw[YGy _ (by omega)];omega
       have uL:=hU (lo p)
       have uH:=hU (Q.hi p)
       have dL:=hD (lo p)
       have dH:=hD (Q.hi p)
       generalize lo p x.1.toNat=L at*
       generalize Q.hi p x.1.toNat=H at*
       rw[ei,en]
       refine⟨⟨by omega,by omega⟩,fun _=>⟨by omega,by omega⟩,fun hc=>?_,fun hc=>⟨⟨by omega,by omega⟩,⟨⟨q0,q1⟩,by omega,by omega,by omega⟩,fun z1 z2=>⟨by decide,by decide,⟨by omega,by omega⟩,⟨by omega,by omega⟩,⟨by omega,by omega⟩,⟨by omega,by omega⟩,fun hpos=>⟨by decide,?_⟩,fun hneg=>⟨by decide,?_⟩⟩⟩⟩
       . have hz:(if x.2<0 then 0 else L*x.2.toNat)=0/\(if x.2<0 then 0 else H*x.2.toNat)=0/\(if x.2<0 then L*(-x.2).toNat else 0)=0/\(if x.2<0 then H*(-x.2).toNat else 0)=0:=by
           rw[YHd,decide_eq_true_eq,decide_eq_true_eq]at hc
           rcases hc with hc|hc
           . obtain⟨l1,l2⟩:=h1L hc
             simp [l1,l2]
           . simp [hc]
         obtain⟨a1,a2,a3,a4⟩:=hz
         rw[a1,YHw]at uL
         rw[a2,YHw]at uH
         rw[a3,YHw]at dL
         rw[a4,YHw]at dH
         refine⟨⟨i+1,y1,y2,y3,y4⟩,by simp only;omega,by simp only;omega,?_⟩
         simp only[uL,uH,dL,dH]
         simp only[Ya]
         refine⟨by simp,fun k hk=>?_,fun k hk=>?_⟩
         . match k,hk with
           |0,_=>exact Yw _ ⟨trivial,trivial⟩
           |1,_=>exact Yw _ ⟨trivial,trivial⟩
         . match k,hk with
           |0,_=>exact Yw _ ⟨trivial,trivial⟩
           |1,_=>exact Yw _ ⟨trivial,trivial⟩
       . simp only[if_false]
         (try dsimp only[YiO,YiP,YiQ,YiN,logC,limbsC,mulC,addC,natS,enc2,YGv,YHJ,Int.toNat_one,YHI,go_sem,reduceIte])
         (try simp only[Yd,YGu,YGt,reduceCtorEq,YGs])
         rw[if_neg (by omega)]at uL uH dL dH
         rw[YHw]at dL dH
         have hM:(max x.2 (-x.2)).toNat=x.2.toNat:=by omega
         rw[hM]
         have hMb:x.2.toNat<=1000000000:=by omega
         generalize x.2.toNat=M at*
         have fM:nl M<=2:=nl_le.2 (by omega)
         have f32:∀X,X<=64*2^p->nl X<=300/\nl (M*X)<=300:=fun X hX=>by
           have h3:M*X<=1000000000*(64*2^p):=YGX hMb hX
           have h4:=YF p
           have h5:1000000000*(64*2^p)<2^(p+41):=by rw[YGJ,show(2:Nat)^41=2199023255552 from rfl];omega
           have h6:p+41<15*300:=by omega
           exact⟨Ylh (YGU (show X<=1000000000*(64*2^p)by omega) h5) h6,Ylh (YGU h3 h5) h6⟩
         obtain⟨fL,fML⟩:=f32 L lb
         obtain⟨fH,fMH⟩:=f32 H hb
         refine⟨by decide,M,L,⟨Yc (by omega),Yc (by omega),by omega,by omega⟩,upS (lo p) (l.take i),M*L,⟨Yc (by omega),Yc (by omega),by omega,by omega⟩,by decide,by decide,by decide,by decide,M,H,⟨Yc (by omega),Yc (by omega),by omega,by omega⟩,upS (Q.hi p) (l.take i),M*H,⟨Yc (by omega),Yc (by omega),by omega,by omega⟩,by decide,by decide,⟨i+1,false,false,y3,y4⟩,by simp only;omega,by simp only;omega,?_⟩
         simp only[uL,uH,dL,dH,ei,YGC L,YGC H]
         simp only[Ya]
         refine⟨by simp,fun k hk=>?_,fun k hk=>?_⟩
         . match k,hk with
           |0,_=>exact Yw _ ⟨trivial,trivial⟩
           |1,_=>exact Yw _ ⟨trivial,trivial⟩
         . match k,hk with
           |0,_=>exact Yw _ ⟨trivial,trivial⟩
           |1,_=>exact Yw _ ⟨trivial,trivial⟩
       . simp only[if_false]
         (try dsimp only[YiO,YiP,YiQ,YiN,logC,limbsC,mulC,addC,natS,enc2,YGv,YHJ,Int.toNat_one,YHI,go_sem,reduceIte])
         (try simp only[Yd,YGu,YGt,reduceCtorEq,YGs])
         have hx0:x.2≠0:=fun hh=>by rw[hh,decide_eq_true rfl,Bool.or_true]at hc;cases hc
         rw[if_pos (by omega)]at uL uH dL dH
         rw[YHw]at uL uH
         have hM:(max x.2 (-x.2)).toNat=(-x.2).toNat:=by omega
         rw[hM]
         have hMb:(-x.2).toNat<=1000000000:=by omega
         generalize(-x.2).toNat=M at*
         have fM:nl M<=2:=nl_le.2 (by omega)
         have f32:∀X,X<=64*2^p->nl X<=300/\nl (M*X)<=300:=fun X hX=>by
           have h3:M*X<=1000000000*(64*2^p):=YGX hMb hX
           have h4:=YF p
           have h5:1000000000*(64*2^p)<2^(p+41):=by rw[YGJ,show(2:Nat)^41=2199023255552 from rfl];omega
           have h6:p+41<15*300:=by omega
           exact⟨Ylh (YGU (show X<=1000000000*(64*2^p)by omega) h5) h6,Ylh (YGU h3 h5) h6⟩
         obtain⟨fL,fML⟩:=f32 L lb
         obtain⟨fH,fMH⟩:=f32 H hb
         refine⟨by decide,M,L,⟨Yc (by omega),Yc (by omega),by omega,by omega⟩,dnS (lo p) (l.take i),M*L,⟨Yc (by omega),Yc (by omega),by omega,by omega⟩,by decide,by decide,by decide,by decide,M,H,⟨Yc (by omega),Yc (by omega),by omega,by omega⟩,dnS (Q.hi p) (l.take i),M*H,⟨Yc (by omega),Yc (by omega),by omega,by omega⟩,by decide,by decide,⟨i+1,y1,y2,false,false⟩,by simp only;omega,by simp only;omega,?_⟩
         simp only[uL,uH,dL,dH,ei,YGC L,YGC H]
         simp only[Ya]
         refine⟨by simp,fun k hk=>?_,fun k hk=>?_⟩
         . match k,hk with
           |0,_=>exact Yw _ ⟨trivial,trivial⟩
           |1,_=>exact Yw _ ⟨trivial,trivial⟩
         . match k,hk with
           |0,_=>exact Yw _ ⟨trivial,trivial⟩
           |1,_=>exact Yw _ ⟨trivial,trivial⟩
     . obtain rfl:i=l.length:=by omega
       rw[YHm]at*
       exact⟨by decide,by decide,YE (show k _ []from h y1 y2 y3 y4) (Yy _ ⟨⟨trivial,trivial,trivial⟩,⟨trivial,trivial,trivial⟩,trivial⟩) (fun _=>by simp [natS,Yl,Yo])⟩
 . exact h.1.elim
def v128:VF:=⟨43,[.tmp 2],(ZR [Zi 2 0] (.seq (ZR [Zm 4 0,Zl 5 4,Zq 6 .gtr 5 16] (ZC 6 (ZR [Zi 2 3] .ret) .skip)) (.seq (ZR [Zi 3 0] (.block 0 (.loop (.seq (ZR [Zm 7 3,Zm 8 0,Zl 9 8,Zr 10 .lss 7 9] (ZC 10 .skip (.exit 0))) (.seq (.block 1 (ZR [Zm 13 0,Zm 14 3,Zx 15 2 13 14,Za 16 0 15,Zf 17 1 16,Zq 18 .lss 17 1,Zm 19 18,Zg 20 19 false 0,Zg 21 19 false 3,u2 22 19 false (.idxAddr 2) [.tm 20,.tm 21],Zj 23 19 false 0 22,Zh 24 19 false 1 23,u2 25 19 false (.cmp .gtr) [.tm 24,.cn (.int .i64 1000000000000)],u1 26 .or [.tm 19,.tm 25],Zm 27 26,Zg 28 27 false 0,Zg 29 27 false 3,u2 30 27 false (.idxAddr 2) [.tm 28,.tm 29],Zj 31 27 false 1 30,Zh 32 27 false 1 31,u2 33 27 false (.cmp .lss) [.tm 32,.cn (.int .i64 (-1000000000))],u1 34 .or [.tm 27,.tm 33],Zm 35 34,Zg 36 35 false 0,Zg 37 35 false 3,u2 38 35 false (.idxAddr 2) [.tm 36,.tm 37],Zj 39 35 false 1 38,Zh 40 35 false 1 39,u2 41 35 false (.cmp .gtr) [.tm 40,.cn (.int .i64 1000000000)],u1 42 .or [.tm 35,.tm 41]] (ZC 42 (ZR [Zi 2 2] .ret) .skip))) (.region [Zm 11 3,Zp 12 11 1,Zm 3 12])))))) (ZR [Zi 2 0] .ret))))⟩
theorem YA0:Yf YGw Tryz.f128=some v128:=by kernel_rfl
def v146:VF:=⟨23,[.tmp 2],(ZR [Zi 2 0] (.seq (ZR [Zm 7 0,Zc 8 162 7] (ZC 8 (ZR [Zi 2 0] .ret) .skip)) (ZR [Zi 3 30] (.block 0 (.loop (.seq (.block 1 (ZR [Zm 12 0,Zm 13 3,Zd 14 130 12 13,Zm 11 14,Ze 15 0 11,Ze 16 1 11,u1 4 (.allocArr 2 1 [.nil,.nil]) [],u1 5 (.allocArr 2 1 [.nil,.nil]) [],Zs 2 4 15,Zs 2 5 16] (ZR [Zt 17 2 4,Zt 18 2 5,Zd 19 131 17 18,Zm 6 19] (ZR [Zm 20 6,Zq 21 .neq 20 0] (ZC 21 (ZR [Zm 22 6,Zm 2 22] .ret) .skip))))) (.region [Zm 9 3,u1 10 (.ari .mul) [.cn (.int .i64 2),.tm 9],Zm 3 10])))))))⟩
theorem YBg:Yf YGw Tryz.f146=some v146:=by kernel_rfl
def v129:VF:=⟨17,[.tmp 6],(ZR [Zi 6 0] (ZR [u1 7 (.buildSlice 2 0 [(.int .i64 0),(.int .i64 0)] []) [],Zm 8 0,u1 9 (.append 2 16 [(.int .i64 0),(.int .i64 0)]) [.tm 7,.tm 8],Zm 10 1,Zm 11 2,u1 12 .neg [.tm 11],u1 13 (.build [(.int .i64 0),(.int .i64 0)] [(0,1),(1,1)]) [.tm 10,.tm 12],u1 14 (.buildSlice 2 1 [(.int .i64 0),(.int .i64 0)] [(0,2)]) [.tm 13],u1 15 (.append 2 16 [(.int .i64 0),(.int .i64 0)]) [.tm 9,.tm 14],Zc 16 146 15,Zm 6 16] .ret))⟩
theorem YA1:Yf YGw Tryz.f129=some v129:=by kernel_rfl
def sgn(l:List (Int×Int)):Int:=if dnP l<upP l then 1 else if upP l<dnP l then -1 else 0
def signC:Ctr:={ alias:=false,of:=fun l=>match l with
 | [.vs _ _ n sz get]=> .ex (List (Int×Int)) fun l=> .pre (lsP 2 enc2 n sz get l/\(∀x,x∈l->okT x)/\n<=20/\Dec l) (.fin (.int .i64 (sgn l)) [])
 |_=> .pre False (.fin (.int .i64 0) [])}
def Q8:Env:={ ct:=fun _=>none,fn:=fun _=>none,meth:=fun _ _=>none}
theorem Q8_ok:Yq YGw Q8:=by
 refine⟨fun f c h=>?_,fun f vf h=>?_,(fun _ _ _ h=>by cases h),by kernel_rfl,(fun _ h=>by cases h)⟩
 . cases h
 . cases h
theorem Yft:chkTC.ok YGw 128:=by
 refine Yb Tryz.func128 YA0 Q8_ok 500 chkTC fun args k h=>?_
 simp only[chkTC]at h
 split at h
 . rename_i tt z n sz get
   obtain⟨l,⟨⟨rfl,rfl,hg⟩,hn⟩,h⟩:=h
   refine⟨[.vs tt z l.length 2 (fun k=>enc2 (l.getD k default))],⟨⟨id,rfl,rfl,rfl,hg⟩,trivial⟩,?_⟩
   (try dsimp only[v128,enc2,go_sem,reduceIte])
   (try simp only[Yd,YGu,YGt,reduceCtorEq,YGs])
   refine⟨fun hc=>?_,fun hc=>?_⟩
   . rw[Yjd,if_pos (by omega)]at h;exact Yh h
   . rw[Yjd,if_neg (by omega)]at h
     refine Loop.keep [0] Nat (fun i=>[(3,.int .i64 i)]) (fun _=>[]) [] (fun i=>i<=l.length/\(l.take i).any okT0=false) (fun i=>l.length-i) ?_ ?_
     . refine⟨0,⟨by omega,rfl⟩,?_⟩
       (try dsimp only[go_sem,reduceIte])
       simp only[Ya]
       rfl
     . rintro i ⟨hi,hall⟩
       (try dsimp only[enc2,YGv,go_sem,reduceIte])
       (try simp only[Yd,YGu,YGt,reduceCtorEq,YGs])
       refine⟨fun hlt=>⟨⟨by omega,by omega⟩,fun _=>⟨by omega,by omega⟩,fun _=>⟨by omega,by omega⟩,fun _=>⟨by omega,by omega⟩,fun hc=>?_,fun hc=>⟨i+1,⟨by omega,?_⟩,by omega,?_⟩⟩,fun hge=>?_⟩
       . have:l.any okT0=true:=List.any_eq_true.2 ⟨_,Yp (by omega:i<l.length),hc⟩
         rw[if_pos this]at h
         exact Yh h
       . rw[Yfs (by omega),hall,YHv];exact hc
       . rw[YGy ((i:Int)+1) (by omega)]
         simp only[Ya]
         simp
       . obtain rfl:i=l.length:=by omega
         rw[YHm]at hall
         rw[if_neg (by rw[hall];decide)]at h
         exact Yh h
 . exact h.1.elim
def Q9:Env:={ ct:=fun n=>match n with|162=>some oneC|130=>some sumsC|131=>some orderC|_=>none,fn:=fun _=>none,meth:=fun _ _=>none}
theorem Ytr:Q9.ct 162=some oneC:=rfl
theorem Ytp:Q9.ct 130=some sumsC:=rfl
theorem Ytq:Q9.ct 131=some orderC:=rfl
theorem Q9_ok:Yq YGw Q9:=by
 refine⟨fun f c h=>?_,fun f vf h=>?_,(fun _ _ _ h=>by cases h),by kernel_rfl,(fun _ h=>by cases h)⟩
 . simp only[Q9]at h
   split at h
   . cases h;exact⟨YDY,Tryz.f162,Tryz.func162,by kernel_rfl,by kernel_rfl⟩
   . cases h;exact⟨YsN,Tryz.f130,Tryz.func130,by kernel_rfl,by kernel_rfl⟩
   . cases h;exact⟨YaL,Tryz.f131,Tryz.func131,by kernel_rfl,by kernel_rfl⟩
   . cases h
 . cases h
theorem YAl:signC.ok YGw 146:=by
 refine Yb Tryz.func146 YBg Q9_ok 500 signC fun args k h=>?_
 simp only[signC]at h
 split at h
 . rename_i tt z n sz get
   obtain⟨l,⟨⟨rfl,rfl,hg⟩,hl,hn,hdec⟩,h⟩:=h
   refine⟨[.vs tt z l.length 2 (fun k=>enc2 (l.getD k default))],⟨⟨id,rfl,rfl,rfl,hg⟩,trivial⟩,?_⟩
   (try dsimp only[v146,Ytr,oneC,enc2,go_sem,reduceIte])
   (try simp only[Yd,YGu,YGt,reduceCtorEq,YGs])
   have hself:lsP 2 enc2 l.length 2 (fun k=>[SV.int IntKind.i64 (l.getD k default).fst,SV.int IntKind.i64 (l.getD k default).snd]) l:=⟨rfl,rfl,fun k _=>Ye _⟩
   refine⟨l,⟨hself,hl,hn⟩,fun hc=>?_,fun hc=>?_⟩
   . rw[sgn,if_neg (by omega),if_neg (by omega)]at h
     exact Yh h
   . refine Loop.keep [0] Nat (fun j=>[(3,.int .i64 ((30*2^j:Nat):Int))]) (fun _=>[]) [] (fun j=>j<=7) (fun j=>7-j) ?_ ?_
     . refine⟨0,by omega,?_⟩
       (try dsimp only[go_sem,reduceIte])
       simp only[Ya]
       rfl
     . rintro j hj
       have hm:30*2^j<=3840:=by
         have:2^j<=2^7:=YGG (by decide) hj
         omega
       have hm15:30*2^j%15=0:=by omega
       have hm7:j=7->30*2^j=3840:=fun hh=>by rw[hh]
       have hms:30*2^(j+1)=2*(30*2^j):=by rw[YGZ];omega
       (try dsimp only[Ytp,Ytq,sumsC,orderC,natS,enc2,YGv,YHJ,Int.toNat_one,YHI,go_sem,reduceIte])
       (try simp only[Yd,YGu,YGt,reduceCtorEq,YGs])
       obtain⟨m,hme⟩:∃m,m=30*2^j:=⟨_,rfl⟩
       rw[<-hme]at hm hm15 hm7 hms⊢
       have b1:=S_nl (p:=m) (g:=lo m) (fun n h1 h2=>lo_b h1 h2) hl hn hm
       have b2:=S_nl (p:=m) (g:=hi m) (fun n h1 h2=>hi_b h1 h2) hl hn hm
       obtain⟨o1,o2,o3,o4⟩:=Yiw (p:=m) hl
       refine⟨l,m,⟨hself,hl,hn,rfl,hm,hm15⟩,fun y1 y2 y3 y4=>⟨by decide,by decide,by decide,by decide,upS (lo m) l,upS (hi m) l,dnS (lo m) l,dnS (hi m) l,⟨⟨Yc (by omega),rfl⟩,⟨Yc (by omega),rfl⟩,⟨Yc (by omega),rfl⟩,⟨Yc (by omega),rfl⟩⟩,fun hd=>?_,fun hd=>?_⟩⟩
       . have hd:¬ordR l m=0:=hd
         have hs:sgn l=ordR l m:=by
           rcases o4 with e|e|e
           . rw[e,sgn,if_pos (o1 e)]
           . have:=o2 e
             rw[e,sgn,if_neg (by omega),if_pos this]
           . exact absurd e hd
         rw[hs]at h
         exact Yh h
       . have hd:ordR l m=0:=hd
         have hj7:j≠7:=fun hh=>by
           have hu:=o3 hd
           rw[hm7 hh]at hu
           rcases hdec with e|e
           . exact hc e
           . exact e (Yo5 hl (by decide) hu)
         refine⟨j+1,by omega,by omega,?_⟩
         rw[hms,YGy (2*(m:Int)) (by omega)]
         simp only[Ya]
         omega
 . exact h.1.elim
def belowC:Ctr:={ alias:=false,of:=fun l=>match l with
 | [.vs _ _ n sz get,.int .i64 kk,.int .i64 den]=> .ex (List (Int×Int)) fun l=> .pre (lsP 2 enc2 n sz get l/\(∀x,x∈l->okT x)/\n<=18/\(1<=kk/\kk<=1000000000001)/\(1<=den/\den<=1000000)/\Dec (atF l den kk)) (.fin (.int .i64 (sgn (atF l den kk))) [])
 |_=> .pre False (.fin (.int .i64 0) [])}
theorem YCO{l:List (Int×Int)}{den kk:Int}{hp:List HO}{r:List SV->List SV}{i:Nat}:
   lsP 2 enc2 (l.length+1) 2 (fun k=>Yby false hp r (if k<l.length then Yk i [SV.int IntKind.i64 (l.getD k default).fst,SV.int IntKind.i64 (l.getD k default).snd]else Yk i (YO 2 (YJ ((k-l.length)*2) [SV.int IntKind.i64 kk,SV.int IntKind.i64 (-den)])))) (atF l den kk):=by
 refine⟨rfl,by simp [atF],fun k hk=>?_⟩
 unfold atF
 dsimp only
 by_cases h1:k<l.length
 . rw[if_pos h1,YGB (l:=_++_),YG4 h1,<-YGB]
   exact Ye _
 . rw[if_neg h1,show k-l.length=0 by omega,YGB (l:=_++_),YHh (by omega),show k-l.length=0 by omega]
   exact Ye _
def Q10:Env:={ ct:=fun n=>match n with|146=>some signC|_=>none,fn:=fun _=>none,meth:=fun _ _=>none}
theorem Ypl:Q10.ct 146=some signC:=rfl
theorem YCg:Yq YGw Q10:=by
 refine⟨fun f c h=>?_,fun f vf h=>?_,(fun _ _ _ h=>by cases h),by kernel_rfl,(fun _ h=>by cases h)⟩
 . simp only[Q10]at h
   split at h
   . cases h;exact⟨YAl,Tryz.f146,Tryz.func146,by kernel_rfl,by kernel_rfl⟩
   . cases h
 . cases h
theorem Yur:belowC.ok YGw 129:=by
 refine Yb Tryz.func129 YA1 YCg 500 belowC fun args k h=>?_
 simp only[belowC]at h
 split at h
 . rename_i tt z n sz get kk den
   obtain⟨l,⟨⟨rfl,rfl,hg⟩,hl,hn,hk,hden,hdec⟩,h⟩:=h
   refine⟨[.vs tt z l.length 2 (fun k=>enc2 (l.getD k default)),.int .i64 kk,.int .i64 den],⟨⟨id,rfl,rfl,rfl,hg⟩,⟨rfl,rfl⟩,⟨rfl,rfl⟩,trivial⟩,?_⟩
   (try dsimp only[v129,Ypl,signC,enc2,go_sem,reduceIte])
   (try simp only[Yd,YGu,YGt,reduceCtorEq,YGs])
   have hnd:IntKind.i64.wrap (0-den)= -den:=by rw[YGy _ (by omega)];omega
   rw[hnd]
   simp only[YHC,YHH,if_false,Nat.sub_zero]
   refine⟨by decide,by unfold YN;omega,by decide,⟨by unfold YN;omega,fun k hk=>?_⟩,atF l den kk,⟨YCO,?_,by omega,hdec⟩,Yh h⟩
   . obtain rfl:k=0:=by omega
     exact⟨rfl,trivial,trivial,trivial⟩
   . intro x hx
     unfold atF at hx
     rw[YG2,YHa]at hx
     rcases hx with hx|rfl
     . exact hl x hx
     . simp only[okT];omega
 . exact h.1.elim
def v97:VF:=⟨105,[.tmp 6,.tmp 7,.tmp 8],(ZR [Zi 6 0,u1 7 .mov [.cn (.bool false)],Zi 8 0] (ZR [Zm 19 1,Zc 20 128 19,Zm 9 20] (.seq (ZR [Zm 21 9,Zq 22 .neq 21 0] (ZC 22 (ZR [Zm 23 9,Zi 6 0,u1 7 .mov [.cn (.bool false)],Zm 8 23] .ret) .skip)) (.seq (ZR [Zm 24 2,Zq 25 .lss 24 1,Zm 26 25,Zg 27 26 false 2,u2 28 26 false (.cmp .gtr) [.tm 27,.cn (.int .i64 1000000)],u1 29 .or [.tm 26,.tm 28],Zm 30 29,Zg 31 30 false 0,u2 32 30 false (.cmp .lss) [.tm 31,.cn (.int .i64 1)],u1 33 .or [.tm 30,.tm 32],Zm 34 33,Zg 35 34 false 0,u2 36 34 false (.cmp .gtr) [.tm 35,.cn (.int .i64 1000000000000)],u1 37 .or [.tm 34,.tm 36]] (ZC 37 (ZR [Zi 6 0,u1 7 .mov [.cn (.bool false)],Zi 8 2] .ret) .skip)) (ZR [u1 38 (.buildSlice 2 0 [(.int .i64 0),(.int .i64 0)] []) [],Zm 39 1,u1 40 (.append 2 16 [(.int .i64 0),(.int .i64 0)]) [.tm 38,.tm 39],Zm 41 0,Zm 42 2,u1 43 (.build [(.int .i64 0),(.int .i64 0)] [(0,1),(1,1)]) [.tm 41,.tm 42],u1 44 (.buildSlice 2 1 [(.int .i64 0),(.int .i64 0)] [(0,2)]) [.tm 43],u1 45 (.append 2 16 [(.int .i64 0),(.int .i64 0)]) [.tm 40,.tm 44],Zm 10 45] (.seq (ZR [Zm 46 10,Zm 47 2,u1 48 (.call 129) [.tm 46,.cn (.int .i64 1000000000001),.tm 47],Zq 49 .geq 48 0] (ZC 49 (ZR [Zi 6 0,u1 7 .mov [.cn (.bool false)],Zi 8 7] .ret) .skip)) (ZR [Zm 51 10,u1 52 (.call 130) [.tm 51,.cn (.int .i64 30)],Zm 50 52,Ze 53 0 50,Ze 54 1 50,u1 11 (.allocArr 2 1 [.nil,.nil]) [],u1 12 (.allocArr 2 1 [.nil,.nil]) [],Zs 2 11 53,Zs 2 12 54] (ZR [Zi 13 0,Zi 14 1000000000001] (.seq (.block 0 (.loop (.seq (ZR [Zm 55 14,Zm 56 13,Zo 57 .sub 55 56,Zq 58 .gtr 57 1] (ZC 58 .skip (.exit 0))) (.block 1 (ZR [Zm 59 13,Zm 60 14,Zo 61 .add 59 60,u1 62 .quo [.tm 61,.cn (.int .i64 2)],Zm 15 62] (ZR [Zm 64 15,Zm 65 2,u1 66 .neg [.tm 65],u1 67 (.build [(.int .i64 0),(.int .i64 0)] [(0,1),(1,1)]) [.tm 64,.tm 66],u1 68 (.buildSlice 2 1 [(.int .i64 0),(.int .i64 0)] [(0,2)]) [.tm 67],u1 69 (.call 130) [.tm 68,.cn (.int .i64 30)],Zm 63 69,Ze 70 0 63,Ze 71 1 63,u1 16 (.allocArr 2 1 [.nil,.nil]) [],u1 17 (.allocArr 2 1 [.nil,.nil]) [],Zs 2 16 70,Zs 2 17 71] (.seq (.draw [] [Zw 72 2 11,w1 73 (.idxArr 2 1) [.tm 12,.cn (.int .i64 0)],Zv 74 1 73,w1 75 (.idxArr 2 1) [.tm 17,.cn (.int .i64 0)],Zv 76 1 75,w1 78 (.idxArr 2 1) [.tm 12,.cn (.int .i64 1)],Zv 79 1 78,w1 80 (.idxArr 2 1) [.tm 17,.cn (.int .i64 1)],Zv 81 1 80,Zz 77 132 74 76,Zz 82 132 79 81,w1 83 (.build [.nil,.nil] [(0,1),(1,1)]) [.tm 77,.tm 82],Zz 84 131 72 83,Zu 18 84]) (.seq (ZR [Zm 85 18,Zq 86 .eql 85 0] (ZC 86 (.region [Zm 87 10,Zm 88 15,Zm 89 2,u1 90 (.call 129) [.tm 87,.tm 88,.tm 89],Zm 18 90]) .skip)) (ZR [Zm 91 18,Zq 92 .geq 91 0] (ZC 92 (.region [Zm 93 15,Zm 13 93]) (.region [Zm 94 15,Zm 14 94]))))))))))) (ZR [Zm 95 13,Zm 96 13,Zq 97 .gtr 96 0,Zm 98 97,Zg 99 98 true 10,Zg 100 98 true 13,Zg 101 98 true 2,u2 102 98 true (.call 129) [.tm 99,.tm 100,.tm 101],u2 103 98 true (.cmp .eql) [.tm 102,.cn (.int .i64 0)],u1 104 .and [.tm 98,.tm 103],Zm 6 95,Zm 7 104,Zi 8 0] .ret))))))))))⟩
theorem YGj:Yf YGw Tryz.f97=some v97:=by kernel_rfl
def tstR(all:List (Int×Int))(den:Int)(k:Nat):Bool:=decide (dnP (atF all den k)<=upP (atF all den k))
def powR(all:List (Int×Int))(den:Int):Nat:=bisN (tstR all den) 41 0 1000000000001
def rPowerC:Ctr:={ alias:=false,of:=fun l=>match l with
 | [.int .i64 s,.vs _ _ n sz get,.int .i64 den]=> .ex (List (Int×Int)) fun l=> .pre (lsP 2 enc2 n sz get l/\(∀x,x∈l->okT0 x=false)/\n<=16/\1<=n/\(1<=s/\s<=1000000000000)/\(1<=den/\den<=1000000)/\
     (Dec (atF (l++[(s,den)]) den 1000000000001)/\tstR (l++[(s,den)]) den 1000000000001=false)/\PthG (fun k=>Dec (atF (l++[(s,den)]) den k)) (tstR (l++[(s,den)]) den) 41 0 1000000000001) (.fin (.tup [.int .i64 (powR (l++[(s,den)]) den),.bool (decide (0<powR (l++[(s,den)]) den)&&decide (upP (atF (l++[(s,den)]) den (powR (l++[(s,den)]) den))=dnP (atF (l++[(s,den)]) den (powR (l++[(s,den)]) den)))),.int .i64 0]) [])
 |_=>noC}
def Q11:Env:={ ct:=fun n=>match n with|128=>some chkTC|129=>some belowC|130=>some sumsC|131=>some orderC|132=>some addC|_=>none,fn:=fun _=>none,meth:=fun _ _=>none}
theorem Ypm:Q11.ct 128=some chkTC:=rfl
theorem Yke:Q11.ct 129=some belowC:=rfl
theorem Ykf:Q11.ct 130=some sumsC:=rfl
theorem Ypn:Q11.ct 131=some orderC:=rfl
theorem Ypo:Q11.ct 132=some addC:=rfl
theorem YCh:Yq YGw Q11:=by
 refine⟨fun f c h=>?_,fun f vf h=>?_,(fun _ _ _ h=>by cases h),by kernel_rfl,(fun _ h=>by cases h)⟩
 . simp only[Q11]at h
   split at h
   . cases h;exact⟨Yft,Tryz.f128,Tryz.func128,by kernel_rfl,by kernel_rfl⟩
   . cases h;exact⟨Yur,Tryz.f129,Tryz.func129,by kernel_rfl,by kernel_rfl⟩
   . cases h;exact⟨YsN,Tryz.f130,Tryz.func130,by kernel_rfl,by kernel_rfl⟩
   . cases h;exact⟨YaL,Tryz.f131,Tryz.func131,by kernel_rfl,by kernel_rfl⟩
   . cases h;exact⟨Yf5,Tryz.f132,Tryz.func132,by kernel_rfl,by kernel_rfl⟩
   . cases h
 . cases h
theorem Yv1{l:List (Int×Int)}{s den:Int}{hp:List HO}{r:List SV->List SV}{i:Nat}:
   lsP 2 enc2 (l.length+1) 2 (fun k=>Yby false hp r (if k<l.length then Yk i [SV.int IntKind.i64 (l.getD k default).fst,SV.int IntKind.i64 (l.getD k default).snd]else Yk i (YO 2 (YJ ((k-l.length)*2) [SV.int IntKind.i64 s,SV.int IntKind.i64 den])))) (l++[(s,den)]):=by
 refine⟨rfl,by simp,fun k hk=>?_⟩
 dsimp only
 by_cases h1:k<l.length
 . rw[if_pos h1,YGB (l:=_++_),YG4 h1,<-YGB]
   exact Ye _
 . rw[if_neg h1,show k-l.length=0 by omega,YGB (l:=_++_),YHh (by omega),show k-l.length=0 by omega]
   exact Ye _
theorem Yzw{m:Nat}{den:Int}{hp:List HO}{r:List SV->List SV}:
   lsP 2 enc2 1 2 (fun k=>Yby false hp r (YO 2 (YJ (k*2) [SV.int .i64 ((m:Nat):Int),SV.int .i64 (-den)]))) [((m:Int), -den)]:=by
 refine⟨rfl,rfl,fun k hk=>?_⟩
 obtain rfl:k=0:=by omega
 exact Ye _
theorem YlC{l:List (Int×Int)}{s den:Int}{i k a b:Nat}(hk:k<l.length+1):leL a b (if k<l.length then [SV.int IntKind.i64 (l.getD k default).fst,SV.int IntKind.i64 (l.getD k default).snd]else Yk i (YO 2 (YJ ((k-l.length)*2) [SV.int IntKind.i64 s,SV.int IntKind.i64 den]))) (if k<l.length then [SV.int IntKind.i64 (l.getD k default).fst,SV.int IntKind.i64 (l.getD k default).snd]else Yk i (YO 2 (YJ ((k-l.length)*2) [SV.int IntKind.i64 s,SV.int IntKind.i64 den]))):=Ysu hk
theorem YlD{s den:Int}{i k a b:Nat}(hk:k<1):leL a b (Yk i (YO 2 (YJ (k*2) [SV.int IntKind.i64 s,SV.int IntKind.i64 den]))) (Yk i (YO 2 (YJ (k*2) [SV.int IntKind.i64 s,SV.int IntKind.i64 den]))):=YvB hk
theorem Yp6{l:List (Int×Int)}{s den:Int}{hp:List HO}{r:List SV->List SV}{i:Nat}:
   lsP 2 enc2 (l.length+1) 2 (fun k=>Yby false hp r (if k<l.length then [SV.int IntKind.i64 (l.getD k default).fst,SV.int IntKind.i64 (l.getD k default).snd]else Yk i (YO 2 (YJ ((k-l.length)*2) [SV.int IntKind.i64 s,SV.int IntKind.i64 den])))) (l++[(s,den)]):=by
 refine⟨rfl,by simp,fun k hk=>?_⟩
 dsimp only
 by_cases h1:k<l.length
 . rw[if_pos h1,YGB (l:=_++_),YG4 h1,<-YGB]
   exact Ye _
 . rw[if_neg h1,show k-l.length=0 by omega,YGB (l:=_++_),YHh (by omega),show k-l.length=0 by omega]
   exact Ye _
theorem Ysd:rPowerC.ok YGw 97:=by
 refine Yb Tryz.func97 YGj YCh 800 rPowerC fun args k h=>?_
 simp only[rPowerC]at h
 split at h
 . rename_i s tt z n sz get den
   obtain⟨l,⟨⟨rfl,rfl,hg⟩,hl,hn,hn1,hs,hd,htop,hpth⟩,h⟩:=h
   refine⟨[.int .i64 s,.vs tt z l.length 2 (fun k=>enc2 (l.getD k default)),.int .i64 den],⟨⟨rfl,rfl⟩,⟨id,rfl,rfl,rfl,hg⟩,⟨rfl,rfl⟩,trivial⟩,?_⟩
   (try dsimp only[v97,Ypm,Yke,Ykf,chkTC,belowC,sumsC,natS,enc2,go_sem,reduceIte])
   (try simp only[Yd,YGu,YGt,reduceCtorEq,YGs])
   have hnd:IntKind.i64.wrap (0-den)= -den:=by rw[YGy _ (by omega)];omega
   have hchk:Yjd l=0:=by
     have:l.any okT0=false:=by rw[List.any_eq_false];exact fun x hx=>by rw[hl x hx];decide
     rw[Yjd,if_neg (by omega),if_neg (by rw[this];decide)]
   refine⟨l,⟨⟨rfl,rfl,fun k _=>Ye _⟩,by omega⟩,fun hh=>absurd hchk hh,fun _=>⟨fun hh=>?_,fun _=>?_⟩⟩
   . rw[decide_eq_false (by omega:¬den<1),decide_eq_false (by omega:¬1000000<den),decide_eq_false (by omega:¬s<1),decide_eq_false (by omega:¬1000000000000<s)]at hh
     cases hh
   . simp only[YHC,YHH,if_false,Nat.sub_zero]
     obtain⟨all,hall⟩:∃all,all=l++[(s,den)]:=⟨_,rfl⟩
     have hok:∀x,x∈all->okT x:=by
       intro x hx
       rw[hall,YG2,YHa]at hx
       rcases hx with hx|rfl
       . have:=hl x hx
         unfold okT0 at this
         simp only[YHA,decide_eq_false_iff_not]at this
         unfold okT
         omega
       . simp only[okT];omega
     have hlen:all.length=l.length+1:=by rw[hall];simp
     rw[<-hall]at h htop hpth
     have hat:∀kk:Int,1<=kk->kk<=1000000000001->∀x,x∈atF all den kk->okT x:=by
       intro kk k1 k2 x hx
       unfold atF at hx
       rw[YG2,YHa]at hx
       rcases hx with hx|rfl
       . exact hok x hx
       . simp only[okT];omega
     have hsgn:∀kk:Nat,(0<=sgn (atF all den kk)↔tstR all den kk=true):=fun kk=>by
       unfold sgn tstR
       rw[decide_eq_true_eq]
       split
       . constructor
         . intro _;omega
         . intro _;decide
       . split
         . constructor
           . intro hh;exact absurd hh (by decide)
           . intro _;omega
         . constructor
           . intro _;omega
           . intro _;decide
     obtain⟨R,hR⟩:∃R,R=powR all den:=⟨_,rfl⟩
     rw[<-hR]at h
     have b1:=S_nl (p:=30) (g:=lo 30) (fun n h1 h2=>lo_b h1 h2) hok (by omega) (by decide)
     have b2:=S_nl (p:=30) (g:=hi 30) (fun n h1 h2=>hi_b h1 h2) hok (by omega) (by decide)
     refine⟨by decide,by unfold YN;omega,by decide,⟨by unfold YN;omega,fun k hk=>?_⟩,all,⟨hall▸Yv1,hok,by omega,by decide,hd,htop.1⟩,fun hc=>?_,fun hc=>⟨all,30,⟨hall▸Yv1,hok,by omega,rfl,by decide,by decide⟩,fun y1 y2 y3 y4=>⟨by decide,by decide,by decide,by decide,?_⟩⟩⟩
     . obtain rfl:k=0:=by omega
       exact⟨rfl,trivial,trivial,trivial⟩
     . have:=(hsgn 1000000000001).1 hc
       rw[htop.2]at this;cases this
     . refine Loop.keep [2,7,0,0] (Nat×Nat×Nat) (fun s=>[(13,.int .i64 s.2.1),(14,.int .i64 s.2.2)]) (fun _=>[]) [] (fun s=>PthG (fun k=>Dec (atF all den k)) (tstR all den) s.1 s.2.1 s.2.2/\bisN (tstR all den) s.1 s.2.1 s.2.2=R/\s.2.1<s.2.2/\s.2.2<=1000000000001) (fun s=>s.1) ?_ ?_
       . refine⟨(41,0,1000000000001),⟨hpth,hR.symm,by decide,by decide⟩,?_⟩
         (try dsimp only[go_sem,reduceIte])
         simp only[Ya]
         refine⟨by simp,fun k hk=>?_,fun k hk=>YlD hk⟩
         exact YlC hk
       . rintro⟨f,lo',hi'⟩ ⟨hp,hb,hlt,hle⟩
         dsimp only at hp hb hlt hle
         (try dsimp only[Yke,Ykf,Ypn,Ypo,belowC,sumsC,orderC,addC,natS,enc2,YGv,YHJ,Int.toNat_one,YHI,go_sem,reduceIte])
         (try simp only[Yd,YGu,YGt,reduceCtorEq,YGs])
         have ed:IntKind.i64.wrap ((hi':Int)-(lo':Int))=(hi':Int)-(lo':Int):=YGy _ (by omega)
         have em:IntKind.i64.wrap ((IntKind.i64.wrap ((lo':Int)+(hi':Int))).tdiv 2)=(((lo'+hi')/2:Nat):Int):=by
           have e1:IntKind.i64.wrap ((lo':Int)+(hi':Int))=((lo'+hi':Nat):Int):=by rw[YGy _ (by omega)];omega
           have e2:(((lo'+hi':Nat):Int)).tdiv 2=(((lo'+hi')/2:Nat):Int):=YHq (y:=2) rfl rfl
           rw[e1,e2,YGy _ (by omega)]
         rw[ed,em,hnd]
         refine⟨fun hcd=>?_,fun hcd=>?_⟩
         . obtain⟨g,rfl⟩:∃g,f=g+1:=by
             cases f with
             |zero=>have hp:hi'<=lo'+1:=hp;omega
             |succ g=>exact⟨g,rfl⟩
           rcases hp with hp| ⟨hP,hp⟩
           . omega
           rw[bisN,if_neg (by omega)]at hb
           obtain⟨m,hm⟩:∃m,m=(lo'+hi')/2:=⟨_,rfl⟩
           rw[<-hm]at hP hp hb⊢
           have hmr:lo'<m/\m<hi':=by omega
           have hpok:∀x,x∈ [((m:Int), -den)]->okT x:=by
             intro x hx
             rw[YHa]at hx
             subst hx;simp only[okT];omega
           have c1:=S_nl (p:=30) (g:=lo 30) (fun n h1 h2=>lo_b h1 h2) hpok (Nat.le_add_left 1 19) (by decide)
           have c2:=S_nl (p:=30) (g:=hi 30) (fun n h1 h2=>hi_b h1 h2) hpok (Nat.le_add_left 1 19) (by decide)
           have hatm:=hat (m:Int) (by omega) (by omega)
           have hal:(atF all den (m:Int)).length<=20:=by unfold atF;rw[YHo,List.length_singleton];omega
           have d1:=S_nl (p:=30) (g:=lo 30) (fun n h1 h2=>lo_b h1 h2) hatm hal (by decide)
           have d2:=S_nl (p:=30) (g:=hi 30) (fun n h1 h2=>hi_b h1 h2) hatm hal (by decide)
           have eu:∀G:Nat->Nat,upS G (atF all den (m:Int))=upS G all:=fun G=>by
             unfold atF
             rw[(YpO G _ _).1,upS,upS]
             rw[if_pos (show(-den:Int)<0 by omega)]
             omega
           have edn:∀G:Nat->Nat,dnS G (atF all den (m:Int))=dnS G all+dnS G [((m:Int), -den)]:=fun G=>by
             unfold atF
             rw[(YpO G _ _).2]
           rw[edn]at d1 d2
           obtain⟨o1,o2,o3,o4⟩:=Yiw (p:=30) hatm
           have hord:ordR (atF all den (m:Int)) 30=(if dnS (hi 30) all+dnS (hi 30) [((m:Int), -den)] <upS (lo 30) all then 1 else if upS (hi 30) all<dnS (lo 30) all+dnS (lo 30) [((m:Int), -den)]then -1 else 0):=by
             unfold ordR
             rw[eu,eu,edn,edn]
           refine⟨by decide,by decide,[((m:Int), -den)],30,⟨Yzw,hpok,rfl,by decide,by decide⟩,fun w1 w2 w3 w4=>⟨by decide,by decide,by decide,by decide,by decide,by decide,by decide,by decide,by decide,by decide,by decide,by decide,dnS (lo 30) all,dnS (lo 30) [((m:Int), -den)],⟨Yc (by omega),Yc (by omega),by omega,by omega⟩,dnS (hi 30) all,dnS (hi 30) [((m:Int), -den)],⟨Yc (by omega),Yc (by omega),by omega,by omega⟩,upS (lo 30) all,upS (hi 30) all,dnS (lo 30) all+dnS (lo 30) [((m:Int), -den)],dnS (hi 30) all+dnS (hi 30) [((m:Int), -den)],⟨⟨Yc (by omega),rfl⟩,⟨Yc (by omega),rfl⟩,⟨Yc (by omega),rfl⟩,⟨Yc (by omega),rfl⟩⟩,?_⟩⟩
           rw[<-hord]
           have stT:tstR all den m=true->PthG (fun k=>Dec (atF all den (k:Int))) (tstR all den) g m hi'/\bisN (tstR all den) g m hi'=R:=fun hh=>by
             rw[if_pos hh]at hp hb;exact⟨hp,hb⟩
           have stF:tstR all den m=false->PthG (fun k=>Dec (atF all den (k:Int))) (tstR all den) g lo' m/\bisN (tstR all den) g lo' m=R:=fun hh=>by
             rw[if_neg (by rw[hh];decide)]at hp hb;exact⟨hp,hb⟩
           have hsm:=hsgn m
           have sF:¬0<=sgn (atF all den (m:Int))->tstR all den m=false:=fun hh=>by
             cases hq:tstR all den m with
             |false=>rfl
             |true=>exact absurd (hsm.2 hq) hh
           have oT:¬ordR (atF all den (m:Int)) 30=0->0<=ordR (atF all den (m:Int)) 30->tstR all den m=true:=fun h1 h2=>by
             have:ordR (atF all den (m:Int)) 30=1:=by omega
             exact decide_eq_true (YHp (o1 this))
           have oF:¬0<=ordR (atF all den (m:Int)) 30->tstR all den m=false:=fun h2=>by
             have:ordR (atF all den (m:Int)) 30= -1:=by omega
             have:=o2 this
             exact decide_eq_false (by omega)
           refine⟨fun e=>⟨all,⟨hall▸Yp6,hok,by omega,⟨by omega,by omega⟩,hd,hP⟩,fun e2=>?_,fun e2=>?_⟩,fun e=>⟨fun e2=>?_,fun e2=>?_⟩⟩
           . obtain⟨u1,u2⟩:=stT (hsm.1 e2)
             refine⟨(g,m,hi'),⟨u1,u2,by simp only;omega,hle⟩,by simp only;omega,?_⟩
             simp only[Ya]
             exact⟨by simp,fun k hk=>YlC hk,fun k hk=>YlD hk⟩
           . obtain⟨u1,u2⟩:=stF (sF e2)
             refine⟨(g,lo',m),⟨u1,u2,by simp only;omega,by simp only;omega⟩,by simp only;omega,?_⟩
             simp only[Ya]
             exact⟨by simp,fun k hk=>YlC hk,fun k hk=>YlD hk⟩
           . obtain⟨u1,u2⟩:=stT (oT e e2)
             refine⟨(g,m,hi'),⟨u1,u2,by simp only;omega,hle⟩,by simp only;omega,?_⟩
             simp only[Ya]
             exact⟨by simp,fun k hk=>YlC hk,fun k hk=>YlD hk⟩
           . obtain⟨u1,u2⟩:=stF (oF e2)
             refine⟨(g,lo',m),⟨u1,u2,by simp only;omega,by simp only;omega⟩,by simp only;omega,?_⟩
             simp only[Ya]
             exact⟨by simp,fun k hk=>YlC hk,fun k hk=>YlD hk⟩
         . have hRl:R=lo':=by
             rw[<-hb]
             cases f with
             |zero=>rfl
             |succ g=>rw[bisN,if_pos (by omega)]
           subst hRl
           have hdR:0<R->Dec (atF all den (R:Int)):=fun hh=>by
             have:=(YeQ 41 0 1000000000001 (by decide) hpth).1
             rw[show bisN (tstR all den) 41 0 1000000000001=R from hR.symm]at this
             rcases this with h0|h0
             . omega
             . exact h0.1
           refine⟨all,fun h0=>⟨hall▸Yp6,hok,by omega,⟨by omega,by omega⟩,hd,hdR (by omega)⟩,?_⟩
           have hz:decide (sgn (atF all den (R:Int))=0)=decide (upP (atF all den (R:Int))=dnP (atF all den (R:Int))):=by
             rw[decide_eq_decide]
             unfold sgn
             split
             . constructor
               . intro hh;exact absurd hh (by decide)
               . intro _;omega
             . split
               . constructor
                 . intro hh;exact absurd hh (by decide)
                 . intro _;omega
               . constructor
                 . intro _;omega
                 . intro _;rfl
           have hz2:decide ((0:Int)<(R:Int))=decide (0<R):=by rw[decide_eq_decide];omega
           rw[hz,hz2]
           exact Ync h
 . exact h.1.elim
def v86:VF:=⟨26,[.cell 6 true 2],(ZR [Zn 6] (ZR [Zm 11 0,Zm 12 1,Zm 13 2,u1 14 (.call 97) [.tm 11,.tm 12,.tm 13],Zm 10 14,Ze 15 0 10,Ze 16 1 10,Ze 17 2 10,Zm 7 15,Zm 8 16,Zm 9 17] (.seq (ZR [Zm 18 8] (ZC 18 (ZR [Zm 19 7,Zm 20 7,u1 21 (.build [(.int .i64 0),(.int .i64 0)] [(0,1),(1,1)]) [.tm 19,.tm 20],Zs 2 6 21] .ret) .skip)) (ZR [Zm 22 7,Zm 23 7,Zp 24 23 1,u1 25 (.build [(.int .i64 0),(.int .i64 0)] [(0,1),(1,1)]) [.tm 22,.tm 24],Zs 2 6 25] .ret))))⟩
theorem YGf:Yf YGw Tryz.f86=some v86:=by kernel_rfl
def v54:VF:=⟨15,[.cell 2 true 2,.tmp 3],(ZR [Zn 2,Zi 3 0] (.seq (ZR [Zm 4 0,Zc 5 85 4,u1 6 .not [.tm 5]] (ZC 6 (ZR [u1 7 (.build [(.int .i64 0),(.int .i64 0)] []) [],Zs 2 2 7,Zi 3 2] .ret) .skip)) (ZR [Zm 8 0,Zc 9 87 8,u1 10 (.build [(.int .i64 0),(.int .i64 0)] [(0,1),(1,1)]) [.tm 9,.cn (.int .i64 1)],u1 11 (.call 87) [.cn (.int .i64 0)],u1 12 (.build [(.int .i64 0),(.int .i64 0)] [(0,1),(1,1)]) [.tm 11,.cn (.int .i64 (-1))],u1 13 (.buildSlice 2 2 [(.int .i64 0),(.int .i64 0)] [(0,2),(2,2)]) [.tm 10,.tm 12],u1 14 (.call 86) [.cn (.int .i64 331300000),.tm 13,.cn (.int .i64 2)],Zs 2 2 14,Zi 3 0] .ret)))⟩
theorem YFP:Yf YGw Tryz.f54=some v54:=by kernel_rfl
def v85:VF:=⟨9,[.tmp 2],(ZR [u1 2 .mov [.cn (.bool false)]] (ZR [Zm 3 0,Zq 4 .geq 3 (-20000),Zm 5 4,Zg 6 5 true 0,u2 7 5 true (.cmp .leq) [.tm 6,.cn (.int .i64 50000)],u1 8 .and [.tm 5,.tm 7],Zm 2 8] .ret))⟩
theorem YGe:Yf YGw Tryz.f85=some v85:=by kernel_rfl
def v87:VF:=⟨5,[.tmp 2],(ZR [Zi 2 0] (ZR [Zm 3 0,u1 4 (.ari .add) [.cn (.int .i64 273150),.tm 3],Zm 2 4] .ret))⟩
theorem YGg:Yf YGw Tryz.f87=some v87:=by kernel_rfl
def Q12:Env:={ ct:=fun n=>match n with|97=>some rPowerC|_=>none,fn:=fun n=>match n with|86=>some v86|85=>some v85|87=>some v87|_=>none,meth:=fun _ _=>none}
theorem Yte:Q12.ct 97=some rPowerC:=rfl
theorem Ytc:Q12.ct 86=none:=rfl
theorem Ytg:Q12.fn 86=some v86:=rfl
theorem Ytb:Q12.ct 85=none:=rfl
theorem Ytf:Q12.fn 85=some v85:=rfl
theorem Ytd:Q12.ct 87=none:=rfl
theorem Yth:Q12.fn 87=some v87:=rfl
theorem YCi:Yq YGw Q12:=by
 refine⟨fun f c h=>?_,fun f vf h=>?_,(fun _ _ _ h=>by cases h),by kernel_rfl,(fun _ h=>by cases h)⟩
 . simp only[Q12]at h
   split at h
   . cases h;exact⟨Ysd,Tryz.f97,Tryz.func97,by kernel_rfl,by kernel_rfl⟩
   . cases h
 . simp only[Q12]at h
   split at h
   . cases h;exact⟨Tryz.f86,Tryz.func86,YGf,Tryz.f86,Tryz.func86,by kernel_rfl,by kernel_rfl⟩
   . cases h;exact⟨Tryz.f85,Tryz.func85,YGe,Tryz.f85,Tryz.func85,by kernel_rfl,by kernel_rfl⟩
   . cases h;exact⟨Tryz.f87,Tryz.func87,YGg,Tryz.f87,Tryz.func87,by kernel_rfl,by kernel_rfl⟩
   . cases h
theorem YsP{t:Int}(ht: -20000<=t/\t<=50000):tstR (spT t) 2=tstN (273150+t).toNat:=(Yss ht).2.1
theorem rspeed_ok:speedC.ok YGw 54:=by
 refine Yb Tryz.func54 YFP YCi 300 speedC fun args k h=>?_
 simp only[speedC]at h
 split at h
 . rename_i t
   refine⟨[.int .i64 t],by simp [leL,le],?_⟩
   (try dsimp only[v54,Ytc,Ytg,v86,Ytb,Ytf,v85,Ytd,Yth,v87,Yte,rPowerC,go_sem,reduceIte])
   (try simp only[Yd,YGu,YGt,reduceCtorEq,YGs])
   refine⟨fun hc=>?_,fun hc=>⟨by decide,[(273150+t,1),(273150, -1)],?_⟩⟩
   . rw[YY,if_neg (show¬YhI t=true from by rw[show YhI t=false from hc];decide)]at h
     exact YgW h
   . rw[YGA,decide_eq_true_eq,decide_eq_true_eq]at hc
     have e1:IntKind.i64.wrap (273150+t)=273150+t:=YGy _ (by omega)
     have e2:IntKind.i64.wrap (273150+0)=273150:=by decide
     rw[e1,e2]
     have hsp: [(273150+t,(1:Int)),(273150, -1)]++[((331300000:Int),(2:Int))]=spT t:=rfl
     rw[hsp]
     have hpow:powR (spT t) 2=spR (273150+t).toNat:=by unfold powR spR;rw[YsP hc]
     obtain⟨⟨p1,p2⟩,p3,p4⟩:=Yss hc
     have hNr:253150<=(273150+t).toNat/\(273150+t).toNat<=323150:=by omega
     have hrl:=(YsC hNr).1
     have hat:=YxZ hc (spR (273150+t).toNat)
     rw[Yop hc]at h
     rw[hpow,hat,YmH,YmG,YsP hc]
     refine⟨⟨⟨rfl,rfl,fun k hk=>?_⟩,?_,by decide,by decide,⟨p1,YsP hc▸p2⟩,p4⟩,by decide,by decide,by decide,fun hd=>?_,fun hd=>?_⟩
     . match k,hk with
       |0,_=>exact Ye _
       |1,_=>exact Ye _
     . intro x hx
       simp only[YGQ,List.not_mem_nil,or_false]at hx
       rcases hx with rfl|rfl
       . simp only[okT0,YHA,decide_eq_false_iff_not];omega
       . decide
     . rw[YGA,decide_eq_true_eq,decide_eq_true_eq]at hd
       rw[if_pos hd.2.symm]at h
       exact YgW h
     . have hne:¬273150*spR (273150+t).toNat^2=(273150+t).toNat*331300000^2:=fun hh=>by
         obtain⟨_,e⟩:=(YsC hNr).2 hh
         rw[YG9,decide_eq_false_iff_not,decide_eq_false_iff_not]at hd
         rcases hd with hd|hd
         . omega
         . exact hd hh.symm
       rw[if_neg hne]at h
       rw[YGy _ (by omega)]
       exact YgW h
 . exact h.1.elim
end Go.Proofs.YtijadllhfgajlaaGreat.Q
namespace Go.Proofs.YtijadllhfgajlaaGreat
open Go Go.Vx
def fitR(x:Iv)(m:Int):Iv×Int:=if(inF x.1 1 m&&inF x.2 1 m)=true then(x,0)else((0,0),7)
def Nice(r:Iv×Int):Prop:=(r.2≠0->r.1=(0,0))/\(r.2=0->r.1.1<=r.1.2)
theorem YgI(e:Int)(h:e≠0):Nice (errI e):=⟨fun _=>rfl,fun hh=>absurd hh h⟩
theorem Yu9{lo hi:Int}(h:lo<=hi):Nice (fitF lo hi):=by
 unfold fitF
 split
 . exact⟨fun hh=>absurd rfl hh,fun _=>h⟩
 . exact⟨fun _=>rfl,fun hh=>by cases hh⟩
theorem Yu8(a b:Iv):Nice (addF a b):=by
 unfold addF
 by_cases h:ivE [a,b]≠0
 . rw[if_pos h];exact YgI _ h
 . rw[if_neg h]
   have:=leE2 (by simpa using h:ivE [a,b]=0)
   exact Yu9 (by omega)
theorem Yvb(a b:Iv):Nice (subF a b):=by
 unfold subF
 by_cases h:ivE [a,b]≠0
 . rw[if_pos h];exact YgI _ h
 . rw[if_neg h];exact Yu8 _ _
theorem YoQ{a b:Int×Bool}(h:a.2=true->b.2=true->a.1<=b.1):Nice (YaH a b):=by
 unfold YaH
 split
 . rename_i hc
   rw[YGA]at hc
   exact⟨fun hh=>absurd rfl hh,fun _=>h hc.1 hc.2⟩
 . exact⟨fun _=>rfl,fun hh=>by cases hh⟩
theorem YoE{a b x y:Int}(hx:0<x)(hy:0<y)(h:a*y<=b*x):a/x<= -(-b/y):=by
 have h1:a/x*x<=a:=Int.ediv_mul_le _ (by omega)
 have h2: -b/y*y<= -b:=Int.ediv_mul_le _ (by omega)
 refine Int.le_of_mul_le_mul_right (a:=x*y) ?_ (Int.mul_pos hx hy)
 have k1:=YGS h1 (by omega:0<=y)
 have k2:=YGS h2 (by omega:0<=x)
 have e1:a/x*(x*y)=a/x*x*y:=by rw[Int.mul_assoc]
 have e2: -(-b/y)*(x*y)= -(-b/y*y*x):=by rw[Int.neg_mul,Int.mul_comm x y,Int.mul_assoc]
 have e3: -b*x= -(b*x):=Int.neg_mul ..
 omega
theorem YnT{a b:Iv}(ha:a.1<=a.2)(hb:b.1<=b.2)(h0:0<b.1):Nice (YeT a b):=by
 unfold YeT
 refine YoQ fun h1 h2=>?_
 rw[show(rndF false a.1 (if a.1<0 then b.1 else b.2)).1=_ from YjW h1,show(rndF true a.2 (if a.2<0 then b.2 else b.1)).1=_ from YjW h2]
 unfold rndT
 simp only[if_true,YGM,if_false]
 refine YoE (by split <;> omega) (by split <;> omega) ?_
 by_cases c1:a.1<0
 . by_cases c2:a.2<0
   . rw[if_pos c1,if_pos c2]
     have k1:a.1*b.2<=a.1*b.1:=Int.mul_le_mul_of_nonpos_left (by omega) hb
     have k2:a.1*b.1<=a.2*b.1:=YGS ha (by omega)
     omega
   . rw[if_pos c1,if_neg c2]
     exact YGS ha (by omega)
 . rw[if_neg c1,if_neg (by omega)]
   have k1:a.1*b.1<=a.2*b.1:=YGS ha (by omega)
   have k2:a.2*b.1<=a.2*b.2:=Int.mul_le_mul_of_nonneg_left hb (by omega)
   omega
theorem Yva(a b:Iv):Nice (quoF a b):=by
 unfold quoF
 by_cases h:ivE [a,b]≠0
 . rw[if_pos h];exact YgI _ h
 . rw[if_neg h]
   have:=leE2 (by simpa using h:ivE [a,b]=0)
   by_cases h2:b.1<=0/\0<=b.2
   . rw[if_pos h2];exact YgI _ (by decide)
   . rw[if_neg h2]
     by_cases h3:b.2<0
     . rw[if_pos h3];exact YnT (by simp only;omega) (by simp only;omega) (by simp only;omega)
     . rw[if_neg h3];exact YnT this.1 this.2 (by omega)
theorem Yv9{r:Iv×Int}(h:Nice r)(m:Int):Ygn r.1 r.2 m=fitR r.1 m:=by
 unfold Ygn fitR inF
 by_cases h0:r.2=0
 . have hle:=h.2 h0
   by_cases hc:r.1.1<1\/m<r.1.2
   . rw[if_pos (by omega),if_neg (by simp only[YGA,decide_eq_true_eq];omega)]
   . rw[if_neg (by omega),if_pos (by simp only[YGA,decide_eq_true_eq];omega)]
 . rw[if_pos (Or.inl h0),h.1 h0,if_neg (by simp only[YGA,decide_eq_true_eq];omega)]
theorem len_r{b:Bdy}{x:Iv}{t:Int}(h:begE b x 1000 20000000 t=0):lenF b x t=fitR (subF (quoF (wayF b t).1 x).1 (Ybg b)).1 12000000:=by
 obtain⟨h1,h2,h3,h4,h5⟩:=beg_0 h
 have MW:(wayF b t).2=0:=YlR _ _
 have MQ:(quoF (wayF b t).1 x).2=0:=by
   obtain⟨w0,w1,w2⟩:=YwL b t
   exact Ywr w0 w1 (by omega) (by omega) (by omega) (by omega)
 rw[lenF,h,if_neg (by decide),MW,MQ,<-Yv9 (Yvb _ _)]
 rfl
theorem pit_r{b:Bdy}{x:Iv}{t:Int}(h:begE b x 1 12000000 t=0):pitF b x t=fitR (quoF (wayF b t).1 (addF x (Ybg b)).1).1 200000000:=by
 have MW:(wayF b t).2=0:=YlR _ _
 rw[pitF,h,if_neg (by decide),MW,<-Yv9 (Yva _ _)]
 rfl
def sldF(b:Bdy)(x:Iv)(t u:Int):Iv×Int:=if(lenF b x t).2≠0 then((0,0),(lenF b x t).2)else if(lenF b x u).2≠0 then((0,0),(lenF b x u).2)else Ygp (lenF b x t).1 (lenF b x u).1
set_option maxRecDepth 100000
set_option maxHeartbeats 4000000
def v58:VF:=⟨58,[.tmp 2],(ZR [Zi 2 0] (.seq (ZR [Zi 3 0] (.block 0 (.loop (.seq (ZR [Zm 5 3,Zm 6 0,Zl 7 6,Zr 8 .lss 5 7] (ZC 8 .skip (.exit 0))) (.seq (.block 1 (ZR [Zm 11 0,Zm 12 3,Zx 13 2 11 12,Za 14 0 13,Zf 15 1 14,Zq 16 .lss 15 (-4611686018427387904),Zm 17 16,Zg 18 17 false 0,Zg 19 17 false 3,u2 20 17 false (.idxAddr 2) [.tm 18,.tm 19],Zj 21 17 false 0 20,Zh 22 17 false 1 21,u2 23 17 false (.cmp .gtr) [.tm 22,.cn (.int .i64 4611686018427387904)],u1 24 .or [.tm 17,.tm 23],Zm 25 24,Zg 26 25 false 0,Zg 27 25 false 3,u2 28 25 false (.idxAddr 2) [.tm 26,.tm 27],Zj 29 25 false 1 28,Zh 30 25 false 1 29,u2 31 25 false (.cmp .lss) [.tm 30,.cn (.int .i64 (-4611686018427387904))],u1 32 .or [.tm 25,.tm 31],Zm 33 32,Zg 34 33 false 0,Zg 35 33 false 3,u2 36 33 false (.idxAddr 2) [.tm 34,.tm 35],Zj 37 33 false 1 36,Zh 38 33 false 1 37,u2 39 33 false (.cmp .gtr) [.tm 38,.cn (.int .i64 4611686018427387904)],u1 40 .or [.tm 33,.tm 39]] (ZC 40 (ZR [Zi 2 7] .ret) .skip))) (.region [Zm 9 3,Zp 10 9 1,Zm 3 10])))))) (.seq (ZR [Zi 4 0] (.block 2 (.loop (.seq (ZR [Zm 41 4,Zm 42 0,Zl 43 42,Zr 44 .lss 41 43] (ZC 44 .skip (.exit 2))) (.seq (.block 3 (.seq (.draw [] [Zu 47 0,Zu 48 4,ZX 49 2 47 48,Zy 50 0 49,Zv 51 1 50,Zu 52 0,Zu 53 4,ZX 54 2 52 53,Zy 55 1 54,Zv 56 1 55,w1 57 (.cmp .gtr) [.tm 51,.tm 56]]) (ZC 57 (ZR [Zi 2 2] .ret) .skip))) (.region [Zm 45 4,Zp 46 45 1,Zm 4 46])))))) (ZR [Zi 2 0] .ret))))⟩
theorem YFT:Yf YGw Tryz.f58=some v58:=by kernel_rfl
def v68:VF:=⟨6,[.tmp 2],(ZR [u1 1 .box [.tm 0],Zi 2 0] (ZR [Zt 3 2 1,u1 4 (.buildSlice 2 1 [(.int .i64 0),(.int .i64 0)] [(0,2)]) [.tm 3],Zc 5 58 4,Zm 2 5] .ret))⟩
theorem YFX:Yf YGw Tryz.f68=some v68:=by kernel_rfl
def v34:VF:=⟨26,[.cell 4 true 2,.tmp 5],(ZR [u1 2 .box [.tm 0],u1 3 .box [.tm 1],Zn 4,Zi 5 0] (ZR [Zt 7 2 2,Zt 8 2 3,u1 9 (.buildSlice 2 2 [(.int .i64 0),(.int .i64 0)] [(0,2),(2,2)]) [.tm 7,.tm 8],Zc 10 58 9,Zm 6 10] (.seq (ZR [Zm 11 6,Zq 12 .neq 11 0] (ZC 12 (ZR [u1 13 (.build [(.int .i64 0),(.int .i64 0)] []) [],Zm 14 6,Zs 2 4 13,Zm 5 14] .ret) .skip)) (ZR [Za 15 0 2,Zf 16 1 15,Za 17 0 3,Zf 18 1 17,u1 19 .min [.tm 16,.tm 18],Za 20 1 2,Zf 21 1 20,Za 22 1 3,Zf 23 1 22,u1 24 .max [.tm 21,.tm 23],u1 25 (.build [(.int .i64 0),(.int .i64 0)] [(0,1),(1,1)]) [.tm 19,.tm 24],Zs 2 4 25,Zi 5 0] .ret))))⟩
theorem YFB:Yf YGw Tryz.f34=some v34:=by kernel_rfl
theorem YDS{a b:Int}:(decide (a< -4611686018427387904) || decide (4611686018427387904<a) || decide (b< -4611686018427387904) || decide (4611686018427387904<b))= !(YaT a&&YaT b):=by
 rw[YHK]
 simp only[YaT,YHd,decide_eq_true_eq,YGP,YG9,decide_eq_false_iff_not]
 omega
theorem Ysk:ivlC.ok YGw 58:=by
 refine Yb Tryz.func58 YFT Ypg 400 ivlC fun args k h=>?_
 simp only[ivlC]at h
 split at h
 . rename_i tt z n sz get
   obtain⟨l,⟨⟨rfl,rfl,hg⟩,hmax⟩,h⟩:=h
   refine⟨[.vs tt z l.length 2 (fun k=>enc2 (l.getD k default))],by simpa [leL,le]using hg,?_⟩
   (try dsimp only[v58,enc2,go_sem,reduceIte])
   (try simp only[Yd,YGu,YGt,reduceCtorEq,YGs])
   refine Loop.keep [0,2] Nat (fun i=>[(3,.int .i64 i)]) (fun _=>[]) [] (fun i=>i<=l.length/\∀j,j<i->(YaT (l.getD j default).1&&YaT (l.getD j default).2)=true) (fun i=>l.length-i) ?_ ?_
   . refine⟨0,⟨YHl _,fun j h=>by omega⟩,?_⟩
     (try dsimp only[go_sem,reduceIte])
     simp only[Ya]
     simp
   . rintro i ⟨hi,ha⟩
     (try dsimp only[enc2,YGv,go_sem,reduceIte])
     (try simp only[Yd,YGu,YGt,reduceCtorEq,YGs])
     simp only[YDS]
     refine⟨fun hlt=>⟨⟨by omega,hlt⟩,fun _=>⟨by omega,hlt⟩,fun _=>⟨by omega,hlt⟩,fun _=>⟨by omega,hlt⟩,fun hb=>Yh ?_,fun hb=>?_⟩,fun hge=>?_⟩
     . have e:=Yrc (l:=l) (i:=i) (by omega) (by rw[YGP]at hb;exact hb)
       rw[e]at h;exact h
     . refine⟨i+1,⟨by omega,fun j hj=>?_⟩,by omega,?_⟩
       . rcases YGN j i with h'|h'
         . exact ha j h'
         . obtain rfl:j=i:=by omega
           simpa using hb
       . have hw:=Yeb (i:=i) (n:=l.length) (by omega) (by omega)
         simp only[hw,Ya] <;> simp
     . obtain rfl:i=l.length:=by omega
       refine Loop.keep [0,3] Nat (fun i=>[(4,.int .i64 i)]) (fun _=>[]) [] (fun i=>i<=l.length/\∀j,j<i->(l.getD j default).1<=(l.getD j default).2) (fun i=>l.length-i) ?_ ?_
       . refine⟨0,⟨YHl _,fun j h=>by omega⟩,?_⟩
         (try dsimp only[go_sem,reduceIte])
         simp only[Ya]
         simp
       . rintro i ⟨hi,hc⟩
         (try dsimp only[enc2,YGv,go_sem,reduceIte])
         (try simp only[Yd,YGu,YGt,reduceCtorEq,YGs])
         refine⟨fun hlt=>⟨⟨by omega,hlt⟩,⟨by omega,hlt⟩,fun hb=>Yh ?_,fun hb=>?_⟩,fun hge=>?_⟩
         . have e:=YDq ha (i:=i) (by omega) (by omega)
           rw[e]at h;exact h
         . refine⟨i+1,⟨by omega,fun j hj=>?_⟩,by omega,?_⟩
           . rcases YGN j i with h'|h'
             . exact hc j h'
             . obtain rfl:j=i:=by omega
               omega
           . have hw:=Yeb (i:=i) (n:=l.length) (by omega) (by omega)
             simp only[hw,Ya] <;> simp
         . obtain rfl:i=l.length:=by omega
           rw[YDp ha hc]at h
           exact Yh h
 . exact h.1.elim
def Q0:Env:={ ct:=fun n=>match n with|58=>some ivlC|_=>none,fn:=fun _=>none,meth:=fun _ _=>none}
theorem Ypj:Q0.ct 58=some ivlC:=rfl
theorem Ypk:Yq YGw Q0:=by
 refine⟨fun f c h=>?_,fun f vf h=>?_,(fun _ _ _ h=>by cases h),by kernel_rfl,(fun _ h=>by cases h)⟩
 . simp only[Q0]at h
   split at h
   . cases h;exact⟨Ysk,Tryz.f58,Tryz.func58,by kernel_rfl,by kernel_rfl⟩
   . cases h
 . cases h
theorem Ylw:iv1C.ok YGw 68:=by
 refine Yb Tryz.func68 YFX Ypk 100 iv1C fun args k h=>⟨args,?_⟩
 simp only[iv1C]at h
 split at h
 . rename_i x y
   refine⟨by simp [leL,le],?_⟩
   (try dsimp only[v68,Ypj,ivlC,go_sem,reduceIte])
   (try simp only[Yd,YGu,YGt,reduceCtorEq,YGs])
   refine⟨by decide,[(x,y)],⟨⟨rfl,rfl,fun k hk=>?_⟩,by simp⟩,Yh h⟩
   match k,hk with
   |0,_=>exact Ye _
 . exact h.1.elim
theorem Yvt:hullC.ok YGw 34:=by
 refine Yb Tryz.func34 YFB Ypk 200 hullC fun args k h=>⟨args,?_⟩
 simp only[hullC,iv2C]at h
 split at h
 . rename_i x y z w
   refine⟨by simp [leL,le],?_⟩
   (try dsimp only[v34,Ypj,ivlC,enc2,go_sem,reduceIte])
   (try simp only[Yd,YGu,YGt,reduceCtorEq,YGs])
   have h:k (.tup [.agg (enc2 (Ygp (x,y) (z,w)).1),.int .i64 (Ygp (x,y) (z,w)).2]) []:=h
   refine⟨by decide,[(x,y),(z,w)],⟨⟨rfl,rfl,fun k hk=>match k,hk with|0,_=>Ye _|1,_=>Ye _⟩,by simp⟩,fun hc=>?_,fun hc=>?_⟩
   . rw[Ygp,if_pos hc]at h
     exact Yx (r:=errI (ivE [(x,y),(z,w)])) h
   . obtain⟨⟨h1,h2,h3⟩,h4,h5,h6⟩:=ivE2 hc
     dsimp only at h1 h2 h3 h4 h5 h6
     rw[Ygp,if_neg (by rw[hc];simp)]at h
     exact Yx (r:=((_,_),_)) h
 . exact h.1.elim
end Go.Proofs.YtijadllhfgajlaaGreat
