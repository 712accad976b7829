/- The reference's base: plain lemmas. -/
import Derived.Test.YtmiclogmkfobgaaGreatMgX50q
import Derived.Test.YtmiclogmkfobgaaGreatMgX50f
import Derived.Test.YtmiclogmkfobgaaGreatMgX50i
import Derived.Test.YtmiclogmkfobgaaGreatMgX50e
import Derived.Test.YtmiclogmkfobgaaGreatMgX50d
import Derived.Test.YtmiclogmkfobgaaGreatRows
open And renaming intro->YFy
open Bool renaming and_eq_false_iff->YFZ,and_eq_true->YFd,not_eq_true'->YFI,or_eq_true->YF5,true_and->YGm
open Int renaming eq_ofNat_of_zero_le->YFW,mul_le_mul_of_nonneg_right->YFz,toNat->YGq,toNat_natCast->YE4
open Go.IntWalk renaming i64_in->YE7,u64_in->YFN,up_tdiv->YGg,up_tmod->YGr
open List renaming getD_eq_getElem?_getD->YFf,getElem?_append_left->YFK,getElem?_append_right->YFX,length_append->YF7,length_cons->YF6,length_take->YF2,mem_append->YFM,mem_cons->YFA,mem_cons_of_mem->YFp,mem_cons_self->YFs,mem_singleton->YFO,take_length->YF4
open Nat renaming add_mul->YFw,add_zero->YF8,div_add_mod->YFH,div_le_self->YGd,gcd->YF1,le_of_eq->YFr,le_of_lt->YGa,le_of_mul_le_mul_right->YFj,le_of_not_lt->YGk,le_refl->YFk,le_trans->YFa,lt_of_le_of_lt->YFG,lt_or_ge->YFu,mod_lt->YFC,mul_assoc->YFg,mul_comm->YFc,mul_le_mul->YFt,mul_le_mul_left->YFe,mul_le_mul_right->YE9,mul_left_comm->YFY,mul_one->YGb,mul_pos->YF3,not_lt_zero->YGe,one_mul->YFR,pow_add->YFi,pow_le_pow_right->YFq,pow_mul->YFh,pow_one->YGl,pow_pos->YFF,pow_succ->YFm,pow_zero->YGn,reduceAdd->YE5,reduceEqDiff->YE2,reduceLeDiff->YE3,zero_add->YGh,zero_le->YGj
open Go.Proofs.Tryz renaming prog->YE8
set_option linter.all false
namespace Go.Proofs.YtmiclogmkfobgaaGreat.Q
open Go Go.Vx
def itL(out:List Nat)(i k g n:Nat):Nat:=if n=i\/n=k then out.getD n 0/g else out.getD n 0
def nxtL(out:List Nat)(i k g:Nat):Nat->List Nat
 |0=>[]
 |n+1=>if 1<itL out i k g n then nxtL out i k g n++[itL out i k g n]else nxtL out i k g n
theorem Yq4(out:List Nat)(i k g:Nat):∀n,(nxtL out i k g n).length<=n
 |0=>YFk _
 |n+1=>by
  have:=Yq4 out i k g n
  rw[nxtL]
  split
  ·rw[YF7,List.length_singleton];omega
  ·omega
theorem nxt_mem{out:List Nat}{i k g x:Nat}:∀{n:Nat},x∈nxtL out i k g n↔∃j,j<n/\x=itL out i k g j/\1<x
 |0=>by simp [nxtL]
 |n+1=>by
  have ih:=nxt_mem (out:=out) (i:=i) (k:=k) (g:=g) (x:=x) (n:=n)
  rw[nxtL]
  split
  ·rename_i h
   rw[YFM,YFO,ih]
   constructor
   ·rintro(⟨j,h1,h2⟩ |h1)
    ·exact⟨j,by omega,h2⟩
    ·exact⟨n,by omega,h1,by omega⟩
   ·rintro⟨j,h1,h2,h3⟩
    rcases YFu j n with h'|h'
    ·exact Or.inl ⟨j,h',h2,h3⟩
    ·obtain rfl:j=n:=by omega
     exact Or.inr h2
  ·rename_i h
   rw[ih]
   constructor
   ·rintro⟨j,h1,h2⟩
    exact⟨j,by omega,h2⟩
   ·rintro⟨j,h1,h2,h3⟩
    rcases YFu j n with h'|h'
    ·exact⟨j,h',h2,h3⟩
    ·obtain rfl:j=n:=by omega
     omega
theorem Ym3{out:List Nat}{i k g:Nat}(hik:k<i)(hi:i<out.length)(hg:0<g)(h1:g∣out.getD i 0)(h2:g∣out.getD k 0)(hp:∀x,x∈out->1<=x):∀n,n<=out.length->Yq (nxtL out i k g n)*((if i<n then g else 1)*(if k<n then g else 1))=Yq (out.take n)
 |0,_=>by simp [nxtL,Yq]
 |n+1,hn=>by
  have ih:=Ym3 hik hi hg h1 h2 hp n (by omega)
  have e:out.take (n+1)=out.take n++[out.getD n 0]:=Yaf (by omega)
  have hx:1<=out.getD n 0:=hp _ (Yl (l:=out) (i:=n) (by omega))
  rw[e,YU,<-ih]
  have e1:Yq [out.getD n 0]=out.getD n 0:=by simp [Yq]
  have e2:Yq (nxtL out i k g (n+1))=Yq (nxtL out i k g n)*itL out i k g n:=by
   rw[nxtL]
   split
   ·rw[YU];simp [Yq]
   ·rename_i h
    have:itL out i k g n≠0:=by
     unfold itL
     split
     ·rename_i hh
      have hd:g∣out.getD n 0:=by rcases hh with rfl|rfl <;> assumption
      exact Nat.ne_of_gt (Nat.div_pos (Nat.le_of_dvd hx hd) hg)
     ·omega
    rw[show itL out i k g n=1 by omega,YGb]
  rw[e1,e2]
  by_cases c1:n=i
  ·subst c1
   rw[itL,if_pos (Or.inl rfl),if_pos (Nat.lt_succ_self _),if_neg (Nat.lt_irrefl _),if_pos (by omega),if_pos (by omega)]
   obtain⟨c,hc⟩:=h1
   rw[hc,Nat.mul_div_cancel_left _ hg]
   simp only[YFg,YFY,YFc,YFR]
  ·by_cases c2:n=k
   ·subst c2
    rw[itL,if_pos (Or.inr rfl),if_neg (show¬i<n+1 by omega),if_neg (show¬i<n by omega),if_pos (Nat.lt_succ_self _),if_neg (Nat.lt_irrefl _)]
    obtain⟨c,hc⟩:=h2
    rw[hc,Nat.mul_div_cancel_left _ hg]
    simp only[YFg,YFY,YFc,YFR]
   ·have a1:(i<n+1)=(i<n):=by rw[eq_iff_iff];omega
    have a2:(k<n+1)=(k<n):=by rw[eq_iff_iff];omega
    rw[itL,if_neg (by omega)]
    simp only[a1,a2]
    simp only[YFg,YFY,YFc]
theorem Yr2:∀{out:List Nat},(∀x,x∈out->2<=x)->2^out.length<=Yq out
 | [],_=>by simp [Yq]
 |x::out,h=>by
  have:=Yr2 (out:=out) fun y hy=>h y (YFp _ hy)
  have hx:=h x (YFs ..)
  rw[Yq,YF6,YFm,YFc]
  exact YFt hx this
structure BOk (l:List (Int×Int)) (out:List Nat):Prop where
 rng:∀x,x∈out->2<=x/\x<=1000000000001
 spn:∀x,x∈l->Spn out x.1.toNat
 prd:Yn (Yq out)<=801
theorem BOk.len{l:List (Int×Int)}{out:List Nat}(h:BOk l out):out.length<=800:=by
 have h1:=Yr2 fun x hx=>(h.rng x hx).1
 refine YGk fun hh=>?_
 have h2:=Ycc (Yq out)
 have h3:2^Yn (Yq out)<=2^out.length:=YFq (by decide) (by have:=h.prd;omega)
 omega
theorem BOk.pos{l:List (Int×Int)}{out:List Nat}(h:BOk l out):1<=Yq out:=Yec fun x hx=>by have:=h.rng x hx;omega
theorem BOk.next{l:List (Int×Int)}{out:List Nat}{i k g:Nat}(h:BOk l out)(hik:k<i)(hi:i<out.length)(hg:g=YF1 (out.getD i 0) (out.getD k 0))(h1:1<g):
 BOk l (nxtL out i k g out.length++[g])/\Yq (nxtL out i k g out.length++[g])*2<=Yq out:=by
 have d1:g∣out.getD i 0:=hg▸Nat.gcd_dvd_left _ _
 have d2:g∣out.getD k 0:=hg▸Nat.gcd_dvd_right _ _
 have ri:=h.rng _ (Yl (l:=out) (i:=i) hi)
 have rk:=h.rng _ (Yl (l:=out) (i:=k) (by omega))
 have ri:2<=out.getD i 0/\out.getD i 0<=1000000000001:=ri
 have rk:2<=out.getD k 0/\out.getD k 0<=1000000000001:=rk
 have hgl:g<=out.getD i 0:=Nat.le_of_dvd (by omega) d1
 have hpr:=Ym3 hik hi (by omega) d1 d2 (fun x hx=>by have:=h.rng x hx;omega) out.length (YFk _)
 rw[YF4,if_pos hi,if_pos (by omega)]at hpr
 have hpe:Yq (nxtL out i k g out.length++[g])*g=Yq out:=by
  rw[YU,<-hpr];simp [Yq,YFg]
 have hle:Yq (nxtL out i k g out.length++[g])*2<=Yq out:=by
  rw[<-hpe];exact YFe _ h1
 refine⟨⟨fun x hx=>?_,fun x hx=>(h.spn x hx).sub fun y hy=>?_,?_⟩,hle⟩
 ·rw[YFM,YFO,nxt_mem]at hx
  rcases hx with⟨j,hj,hxe,h2⟩ |rfl
  ·refine⟨h2,?_⟩
   have hr:=h.rng _ (Yl (l:=out) (i:=j) hj)
   have hr:2<=out.getD j 0/\out.getD j 0<=1000000000001:=hr
   rw[hxe];unfold itL
   split
   ·exact YFa (YGd _ _) hr.2
   ·exact hr.2
  ·omega
 ·obtain⟨j,hj,hje⟩:=Ydi hy
  have hje:out.getD j 0=y:=hje
  have mg:g∈nxtL out i k g out.length++[g]:=List.mem_append_right _ (YFO.2 rfl)
  have part:Spn (nxtL out i k g out.length++[g]) (itL out i k g j):=by
   rcases YFu 1 (itL out i k g j)with h'|h'
   ·exact .mem (List.mem_append_left _ (nxt_mem.2 ⟨j,hj,rfl,h'⟩))
   ·have:itL out i k g j≠0:=by
     have hr:=h.rng _ hy
     unfold itL
     split
     ·rename_i hh
      have hd:g∣out.getD j 0:=by rcases hh with rfl|rfl <;> assumption
      exact Nat.ne_of_gt (Nat.div_pos (Nat.le_of_dvd (by omega) hd) (by omega))
     ·omega
    rw[show itL out i k g j=1 by omega];exact .one
  by_cases c:j=i\/j=k
  ·have hd:g∣out.getD j 0:=by rcases c with rfl|rfl <;> assumption
   rw[itL,if_pos c]at part
   rw[<-hje,<-Nat.mul_div_cancel' hd]
   exact .mul mg part
  ·rw[itL,if_neg c]at part
   rw[<-hje];exact part
 ·exact YFa (Yg4 (by omega)) h.prd
def stF(out:List Nat)(x:Int×Int):List Nat:=if 1<x.1 then out++[x.1.toNat]else out
theorem st_ok{l:List (Int×Int)}(hl:∀x,x∈l->okT x)(hn:l.length<=20):BOk l (l.foldl stF []):=by
 have key:∀i,i<=l.length->(∀x,x∈(l.take i).foldl stF []->2<=x/\x<=1000000000001)/\(∀x,x∈l.take i->Spn ((l.take i).foldl stF []) x.1.toNat)/\Yn (Yq ((l.take i).foldl stF []))<=40*i+1:=fun i=>by
  induction i with
  |zero=>exact fun _=>⟨fun x hx=>absurd hx (by simp),fun x hx=>absurd hx (by simp),by simp [Yq];decide⟩
  |succ i ih=>
   intro hi
   obtain⟨h1,h2,h3⟩:=ih (by omega)
   obtain⟨q0,q1,q2,q3⟩:=hl _ (Yl (by omega:i<l.length))
   rw[Yp (by omega),Yaf (by omega)]
   generalize(l.take i).foldl stF []=out at*
   generalize l.getD i default=y at*
   unfold stF
   by_cases c:1<y.1
   ·rw[if_pos c]
    refine⟨fun x hx=>?_,fun x hx=>?_,?_⟩
    ·rcases YFM.1 hx with hx|hx
     ·exact h1 x hx
     ·rw[YFO]at hx;omega
    ·rcases YFM.1 hx with hx|hx
     ·exact(h2 x hx).sub fun z hz=> .mem (List.mem_append_left _ hz)
     ·rw[YFO]at hx;rw[hx];exact .mem (List.mem_append_right _ (YFO.2 rfl))
    ·rw[YU]
     have e:Yq [y.1.toNat]=y.1.toNat:=by simp [Yq]
     have:=Yjz (Yq out) (Yq [y.1.toNat])
     have:Yn (Yq [y.1.toNat])<=40:=by rw[e];exact bitsN_le.2 (by omega)
     omega
   ·rw[if_neg c]
    refine⟨h1,fun x hx=>?_,by omega⟩
    rcases YFM.1 hx with hx|hx
    ·exact h2 x hx
    ·rw[YFO]at hx;rw[hx,show y.1.toNat=1 by omega];exact .one
 obtain⟨k1,k2,k3⟩:=key l.length (YFk _)
 rw[YF4]at k1 k2 k3
 exact⟨k1,k2,by omega⟩
theorem YDP(l:List (Int×Int)):∀i,((l.take i).foldl stF []).length<=i:=fun i=>by
 induction i with
 |zero=>simp
 |succ i ih=>
  rcases YFu i l.length with h|h
  ·rw[Yp h]
   unfold stF at ih⊢
   split
   ·rw[YF7,List.length_singleton];omega
   ·omega
  ·rw[List.take_of_length_le (by omega)]
   rw[List.take_of_length_le h]at ih
   omega
theorem YwY{out:List Nat}(h:∀a,a<out.length->∀c,c<a->YF1 (out.getD a 0) (out.getD c 0)=1):Cop out:=by
 refine List.pairwise_iff_getElem.2 fun i j hi hj hij=>?_
 have:=h j hj i hij
 rw[YFf,YFf,List.getElem?_eq_getElem hj,List.getElem?_eq_getElem hi]at this
 rw[Nat.gcd_comm];exact this
theorem YpC{b:Nat}{e:Nat->Nat}:∀{r:List Nat},(∀x,x∈r->YF1 b x=1)->YF1 b (PV e r)=1
 | [],_=>by simp [PV]
 |x::r,h=>by
  rw[PV]
  exact Nat.Coprime.mul_right (Nat.Coprime.pow_right _ (h x (YFs ..))) (YpC fun y hy=>h y (YFp _ hy))
theorem Yi3{e:Nat->Nat}:∀{r:List Nat},(∀x,x∈r->2<=x)->1<=PV e r
 | [],_=>YFk _
 |x::r,h=>by
  have hx:=h x (YFs ..)
  rw[PV]
  exact YF3 (YFF (by omega)) (Yi3 fun y hy=>h y (YFp _ hy))
theorem Ygn{b x y P Q:Nat}(hb:2<=b)(hP:YF1 b P=1)(h:b^x*P=b^y*Q):y<=x:=by
 refine YGk fun hh=>?_
 obtain⟨d,rfl⟩:∃d,y=x+(d+1):=⟨y-x-1,by omega⟩
 rw[YFi,YFg]at h
 have h2:=Nat.eq_of_mul_eq_mul_left (YFF (by omega)) h
 have hd:b∣P:=by rw[h2,YFm,YFc _ b,YFg];exact Nat.dvd_mul_right _ _
 have:=Nat.gcd_eq_left hd
 omega
theorem Yi2{e e':Nat->Nat}:∀{r:List Nat},Cop r->(∀x,x∈r->2<=x)->PV e r=PV e' r->∀b,b∈r->e b=e' b
 | [],_,_,_,b,hb=>absurd hb (by simp)
 |c::r,hc,h2,h,b,hb=>by
  obtain⟨g1,g2⟩:=List.pairwise_cons.1 hc
  have hc2:=h2 c (YFs ..)
  rw[PV,PV]at h
  have a1:=Ygn hc2 (YpC (e:=e) g1) h
  have a2:=Ygn hc2 (YpC (e:=e') g1) h.symm
  have he:e c=e' c:=by omega
  rcases YFA.1 hb with rfl|hb
  ·exact he
  ·rw[he]at h
   exact Yi2 g2 (fun x hx=>h2 x (YFp _ hx)) (Nat.eq_of_mul_eq_mul_left (YFF (by omega)) h) b hb
theorem YCz{l:List (Int×Int)}{r:List Nat}(hl:∀x,x∈l->okT x)(hn:l.length<=20)(hr:BOk l r)(hc:Cop r):(r.all fun b=>decide (sumB l b=0))=decide (upP l=dnP l):=by
 obtain⟨e1,e2⟩:=P_is hc (fun x hx=>(hr.rng x hx).1) l fun x hx=>⟨hl x hx,hr.spn x hx⟩
 have hs:∀b,b∈r->(sumB l b=0↔upS (vl 64 b) l=dnS (vl 64 b) l):=fun b hb=>by
  have hb2:=hr.rng b hb
  unfold sumB
  rw[Ylz hb2.1 (by omega) l 0 hl (by omega) (by omega) (by omega)]
  omega
 rw[Bool.eq_iff_iff,List.all_eq_true,decide_eq_true_eq]
 constructor
 ·intro h
  rw[e1,e2]
  exact YaK fun b hb=>(hs b hb).1 (of_decide_eq_true (h b hb))
 ·intro h b hb
  rw[e1,e2]at h
  exact decide_eq_true ((hs b hb).2 (Yi2 hc (fun x hx=>(hr.rng x hx).1) h b hb))
set_option maxRecDepth 100000
set_option maxHeartbeats 4000000
def v164:VF:=⟨12,[.tmp 4],(ZR [Zi 4 0] (.seq (.block 0 (.loop (.seq (ZR [Zm 5 1,Zq 6 .neq 5 0] (ZC 6 .skip (.exit 0))) (.block 1 (.draw [] [Zu 7 1,Zu 8 0,Zu 9 1,w1 10 .rem [.tm 8,.tm 9],Zu 0 7,Zu 1 10]))))) (ZR [Zm 11 0,Zm 4 11] .ret)))⟩
theorem YAb:Yg YE8 Tryz.f164=some v164:=by kernel_rfl
def v154:VF:=⟨85,[.tmp 2],(ZR [u1 2 .mov [.cn .nil]] (ZR [u1 3 .mov [.cn .nil]] (.seq (ZR [Zi 4 0] (.block 0 (.loop (.seq (ZR [Zm 11 4,Zm 12 0,Zl 13 12,Zr 14 .lss 11 13] (ZC 14 .skip (.exit 0))) (.seq (.block 1 (ZR [Zm 17 0,Zm 18 4,Zx 19 2 17 18,Za 20 0 19,Zf 21 1 20,Zq 22 .gtr 21 1] (ZC 22 (.region [Zm 23 3,Zm 24 0,Zm 25 4,Zx 26 2 24 25,Za 27 0 26,Zf 28 1 27,u1 29 (.buildSlice 1 1 [(.int .i64 0)] [(0,1)]) [.tm 28],u1 30 (.append 1 8 [(.int .i64 0)]) [.tm 23,.tm 29],Zm 3 30]) .skip))) (.region [Zm 15 4,Zp 16 15 1,Zm 4 16])))))) (.seq (ZR [Zi 5 0] (.block 2 (.loop (.seq (ZR [Zm 31 5,Zm 32 3,Zl 33 32,Zr 34 .lss 31 33] (ZC 34 .skip (.exit 2))) (.seq (.block 3 (ZR [Zi 6 0] (.block 4 (.loop (.seq (ZR [Zm 37 6,Zm 38 5,Zr 39 .lss 37 38] (ZC 39 .skip (.exit 4))) (.seq (.block 5 (.seq (.draw [] [Zu 42 3,Zu 43 5,ZX 44 1 42 43,Zv 45 1 44,Zu 46 3,Zu 47 6,ZX 48 1 46 47,Zv 49 1 48,Zz 50 164 45 49,Zu 7 50]) (.seq (ZR [Zm 51 7,Zq 52 .eql 51 1] (ZC 52 (.exit 5) .skip)) (ZR [u1 8 .mov [.cn .nil]] (.seq (ZR [Zi 9 0] (.block 6 (.loop (.seq (ZR [Zm 53 9,Zm 54 3,Zl 55 54,Zr 56 .lss 53 55] (ZC 56 .skip (.exit 6))) (.seq (.block 7 (ZR [Zm 59 3,Zm 60 9,Zx 61 1 59 60,Zf 62 1 61,Zm 10 62] (.seq (ZR [Zm 63 9,Zm 64 5,Zr 65 .eql 63 64,Zm 66 65,Zg 67 66 false 9,Zg 68 66 false 6,u2 69 66 false (.cmp .eql) [.tm 67,.tm 68],u1 70 .or [.tm 66,.tm 69]] (ZC 70 (.region [Zm 71 10,Zm 72 7,u1 73 .quo [.tm 71,.tm 72],Zm 10 73]) .skip)) (ZR [Zm 74 10,Zq 75 .gtr 74 1] (ZC 75 (.region [Zm 76 8,Zm 77 10,u1 78 (.buildSlice 1 1 [(.int .i64 0)] [(0,1)]) [.tm 77],u1 79 (.append 1 8 [(.int .i64 0)]) [.tm 76,.tm 78],Zm 8 79]) .skip))))) (.region [Zm 57 9,Zp 58 57 1,Zm 9 58])))))) (ZR [Zm 80 8,Zm 81 7,u1 82 (.buildSlice 1 1 [(.int .i64 0)] [(0,1)]) [.tm 81],u1 83 (.append 1 8 [(.int .i64 0)]) [.tm 80,.tm 82],Zm 3 83] (ZR [Zi 5 (-1),Zi 6 0] (.exit 4)))))))) (.region [Zm 40 6,Zp 41 40 1,Zm 6 41]))))))) (.region [Zm 35 5,Zp 36 35 1,Zm 5 36])))))) (ZR [Zm 84 3,Zm 2 84] .ret)))))⟩
theorem Yz1:Yg YE8 Tryz.f154=some v154:=by kernel_rfl
def Q4:Env:={ ct:=fun _=>none,fn:=fun _=>none,meth:=fun _ _=>none}
theorem Q4_ok:Yu YE8 Q4:=by
 refine⟨fun f c h=>?_,fun f vf h=>?_,(fun _ _ _ h=>by cases h),by kernel_rfl,(fun _ h=>by cases h)⟩
 ·cases h
 ·cases h
theorem Yxx:gcdC.ok YE8 164:=by
 refine Yb Tryz.func164 YAb Q4_ok 100 gcdC fun args k h=>?_
 simp only[gcdC]at h
 split at h
 ·rename_i a b
  obtain⟨x,y,⟨rfl,rfl,hx,hy⟩,h⟩:=h
  refine⟨[.int .i64 x,.int .i64 y],by simp [leL,le],?_⟩
  (try dsimp only[v164,go_sem,reduceIte])
  (try simp only[Yd,YE5,YE3,reduceCtorEq,YE2])
  refine Loop.keep [] (Nat×Nat) (fun s=>[(0,.int .i64 s.1),(1,.int .i64 s.2)]) (fun _=>[]) [] (fun s=>YF1 s.1 s.2=YF1 x y/\s.1<=9223372036854775807/\s.2<=9223372036854775807) (fun s=>s.2) ?_ ?_
  ·refine⟨(x,y),⟨rfl,hx,hy⟩,?_⟩
   (try dsimp only[go_sem,reduceIte])
   simp only[Ya]
  ·rintro⟨p,q⟩ ⟨he,hp,hq⟩
   dsimp only at he hp hq
   (try dsimp only[go_sem,reduceIte])
   (try simp only[Yd,YE5,YE3,reduceCtorEq,YE2])
   refine⟨fun hc=>⟨hc,(q,p%q),⟨?_,by simp only;omega,?_⟩,?_,?_⟩,fun hc=>Yh ?_⟩
   ·rw[<-he,Nat.gcd_comm p q]
    show YF1 q (p%q)=YF1 q p
    rw[Nat.gcd_comm q (p%q),<-Nat.gcd_rec]
   ·have:=YFC p (by omega:0<q)
    simp only;omega
   ·exact YFC p (by omega:0<q)
   ·have e:(p:Int).tmod q=((p%q:Nat):Int):=YGr rfl rfl
    rw[e]
    simp only[Ya]
   ·obtain rfl:q=0:=by omega
    rw[Nat.gcd_zero_right]at he
    rw[he];exact h
 ·exact h.1.elim
def baseC:Ctr:={ alias:=false,of:=fun l=>match l with
 | [.vs _ _ n sz get]=> .ex (List (Int×Int)) fun l=> .pre (lsP 2 enc2 n sz get l/\(∀x,x∈l->okT x)/\n<=20) (.all (List Nat) fun r=> .imp (BOk l r/\Cop r) (.all Bool fun y=> .fin (.vs true y r.length 1 (fun k=>encB (r.getD k 0))) []))
 |_=>noC}
def Q5:Env:={ ct:=fun n=>match n with|164=>some gcdC|_=>none,fn:=fun _=>none,meth:=fun _ _=>none}
theorem Yso:Q5.ct 164=some gcdC:=rfl
theorem Q5_ok:Yu YE8 Q5:=by
 refine⟨fun f c h=>?_,fun f vf h=>?_,(fun _ _ _ h=>by cases h),by kernel_rfl,(fun _ h=>by cases h)⟩
 ·simp only[Q5]at h
  split at h
  ·cases h;exact⟨Yxx,Tryz.f164,Tryz.func164,by kernel_rfl,by kernel_rfl⟩
  ·cases h
 ·cases h
theorem YwI:baseC.ok YE8 154:=by
 refine Yb Tryz.func154 Yz1 Q5_ok 800 baseC fun args k h=>?_
 simp only[baseC]at h
 split at h
 ·rename_i tt z n sz get
  obtain⟨l,⟨⟨rfl,rfl,hg⟩,hl,hn⟩,h⟩:=h
  refine⟨[.vs tt z l.length 2 (fun k=>enc2 (l.getD k default))],⟨⟨id,rfl,rfl,rfl,hg⟩,trivial⟩,?_⟩
  (try dsimp only[v154,enc2,go_sem,reduceIte])
  (try simp only[Yd,YE5,YE3,reduceCtorEq,YE2])
  refine Loop.keep [0] (Nat×Bool) (fun s=>[(3,.own 0 0 ((l.take s.1).foldl stF []).length 1),(4,.int .i64 s.1)]) (fun s=>[(0,.own s.2 1 ((l.take s.1).foldl stF []).length (fun k=>encB (((l.take s.1).foldl stF []).getD k 0)))]) [.gone] (fun s=>s.1<=l.length/\(s.2=true->((l.take s.1).foldl stF []).length=0)) (fun s=>l.length-s.1) ?_ ?_
  ·refine⟨(0,true),⟨by simp only;omega,fun _=>rfl⟩,?_⟩
   (try dsimp only[List.take_zero,List.foldl_nil,List.length_nil,go_sem,reduceIte])
   simp only[Ya]
   simp
  ·rintro⟨i,yo⟩ ⟨hi,hyo⟩
   dsimp only at hi hyo
   (try dsimp only[enc2,encB,YE4,go_sem,reduceIte])
   (try simp only[Yd,YE5,YE3,reduceCtorEq,YE2])
   have hsl:=YDP l i
   refine⟨fun hlt=>?_,fun hge=>?_⟩
   ·obtain⟨q0,q1,q2,q3⟩:=hl _ (Yl (by omega:i<l.length))
    have hstep:(l.take (i+1)).foldl stF []=stF ((l.take i).foldl stF []) (l.getD i default):=Yp (by omega)
    have ei:IntKind.i64.wrap ((i:Int)+1)=((i+1:Nat):Int):=by rw[YE7 _ (by omega)];omega
    rw[ei]
    generalize(l.take i).foldl stF []=out at*
    generalize l.getD i default=x at*
    have hst1:stF out x=if 1<x.1 then out++[x.1.toNat]else out:=rfl
    rw[hst1]at hstep
    refine⟨⟨by omega,by omega⟩,fun hc=>?_,fun hc=>?_⟩
    ·rw[if_pos hc]at hstep
     refine⟨⟨by omega,by omega⟩,by decide,⟨by unfold YN;omega,fun j hj=>?_⟩,(i+1,yo&&decide False),⟨by simp only;omega,by simp⟩,by simp only;omega,?_⟩
     ·match j,hj with
      |0,_=>exact⟨rfl,trivial,trivial⟩
     ·have hol:(out++[x.1.toNat]).length=out.length+1:=by rw[YF7];rfl
      simp only[hstep,hol]
      simp only[Ya]
      refine⟨by decide,fun k hk=>?_⟩
      by_cases hkt:k<out.length
      ·rw[if_pos hkt,YFf (l:=_++_),YFK hkt,<-YFf]
       exact⟨⟨rfl,rfl⟩,trivial⟩
      ·obtain rfl:k=out.length:=by omega
       rw[if_neg hkt,YFf (l:=_++_),YFX (YFk _),Nat.sub_self]
       exact⟨⟨rfl,by simp;omega⟩,trivial⟩
    ·rw[if_neg hc]at hstep
     refine⟨(i+1,yo),⟨by simp only;omega,by simp only[hstep];exact hyo⟩,by simp only;omega,?_⟩
     simp only[hstep]
     simp only[Ya]
     decide
   ·obtain rfl:i=l.length:=by omega
    have hst:=st_ok hl hn
    rw[YF4]at*
    generalize l.foldl stF []=out0 at*
    refine Loop.keepF [0] (Nat×List Nat×Bool) (fun s=>[(3,.vs true s.2.2 s.2.1.length 1 (fun k=>encB (s.2.1.getD k 0))),(5,.int .i64 s.1)]) (fun _=>[(0,.gone)]) [] (fun s=>BOk l s.2.1/\s.1<=s.2.1.length/\(∀a,a<s.1->∀c,c<a->YF1 (s.2.1.getD a 0) (s.2.1.getD c 0)=1)) (fun s=>Yq s.2.1*2000+(s.2.1.length-s.1)) ?_ ?_
    ·refine⟨(0,out0,yo),⟨hst,YGj _,fun a ha=>absurd ha (YGe _)⟩,[0],?_,?_⟩
     ·(try dsimp only[go_sem,reduceIte])
      exact⟨fun p hp=>rfl,trivial⟩
     ·(try dsimp only[encB,go_sem,reduceIte])
      simp only[Ya]
      rfl
    ·rintro⟨i,out,yo⟩ ⟨hok,hi,hcp⟩
     dsimp only at hok hi hcp
     (try dsimp only[encB,YE4,go_sem,reduceIte])
     (try simp only[Yd,YE5,YE3,reduceCtorEq,YE2])
     have hlen:=hok.len
     refine⟨fun hlt=>?_,fun hge2=>?_⟩
     ·refine Loop.keep [0,2,1] Nat (fun j=>[(6,.int .i64 j)]) (fun _=>[]) [] (fun j=>j<=i/\∀c,c<j->YF1 (out.getD i 0) (out.getD c 0)=1) (fun j=>i-j) ?_ ?_
      ·refine⟨0,⟨YGj _,fun c hc=>absurd hc (YGe _)⟩,?_⟩
       (try dsimp only[go_sem,reduceIte])
       simp only[Ya]
       rfl
      ·rintro j ⟨hj,hgj⟩
       (try dsimp only[Yso,gcdC,encB,YE4,go_sem,reduceIte])
       (try simp only[Yd,YE5,YE3,reduceCtorEq,YE2])
       refine⟨fun hlt2=>?_,fun hge3=>?_⟩
       ·have ri:2<=out.getD i 0/\out.getD i 0<=1000000000001:=hok.rng _ (Yl (l:=out) (i:=i) (by omega))
        have rj:2<=out.getD j 0/\out.getD j 0<=1000000000001:=hok.rng _ (Yl (l:=out) (i:=j) (by omega))
        refine⟨⟨by omega,by omega⟩,⟨by omega,by omega⟩,out.getD i 0,out.getD j 0,⟨rfl,rfl,by omega,by omega⟩,fun hg1=>⟨j+1,⟨by omega,fun c hc=>?_⟩,by omega,?_⟩,fun hg1=>?_⟩
        ·rcases YFu c j with h'|h'
         ·exact hgj c h'
         ·obtain rfl:c=j:=by omega
          omega
        ·rw[YE7 ((j:Int)+1) (by omega)]
         simp only[Ya]
         simp
        ·obtain⟨g,hg⟩:∃g,g=YF1 (out.getD i 0) (out.getD j 0):=⟨_,rfl⟩
         rw[<-hg]at hg1⊢
         have hg0:0<g:=hg▸Nat.gcd_pos_of_pos_left _ (by omega)
         have hgi:g<=out.getD i 0:=hg▸Nat.le_of_dvd (by omega) (Nat.gcd_dvd_left _ _)
         have hg1':1<g:=by omega
         obtain⟨n1,n2⟩:=hok.next (i:=i) (k:=j) (by omega) (by omega) hg hg1'
         refine Loop.keep [0,2,1,0,0] (Nat×Bool) (fun s=>[(8,.own 1 0 (nxtL out i j g s.1).length 1),(9,.int .i64 s.1)]) (fun s=>[(1,.own s.2 1 (nxtL out i j g s.1).length (fun k=>encB ((nxtL out i j g s.1).getD k 0)))]) [.gone] (fun s=>s.1<=out.length/\(s.2=true->(nxtL out i j g s.1).length=0)) (fun s=>out.length-s.1) ?_ ?_
         ·refine⟨(0,true),⟨YGj _,fun _=>rfl⟩,?_⟩
          (try dsimp only[nxtL,List.length_nil,go_sem,reduceIte])
          simp only[Ya]
          simp
         ·rintro⟨n,yn⟩ ⟨hn',hyn⟩
          dsimp only at hn' hyn
          (try dsimp only[encB,YE4,go_sem,reduceIte])
          (try simp only[Yd,YE5,YE3,reduceCtorEq,YE2])
          have hnl:=Yq4 out i j g n
          refine⟨fun hlt3=>?_,fun hge4=>?_⟩
          ·have rn:2<=out.getD n 0/\out.getD n 0<=1000000000001:=hok.rng _ (Yl (l:=out) (i:=n) (by omega))
           have en:IntKind.i64.wrap ((n:Int)+1)=((n+1:Nat):Int):=by rw[YE7 _ (by omega)];omega
           have hb:(decide ((n:Int)=(i:Int)) || decide ((n:Int)=(j:Int)))=decide (n=i\/n=j):=by
            rw[Bool.eq_iff_iff,YF5,decide_eq_true_eq,decide_eq_true_eq,decide_eq_true_eq];omega
           have hq:IntKind.i64.wrap (((out.getD n 0:Nat):Int).tdiv (g:Int))=((out.getD n 0/g:Nat):Int):=by
            have e1:((out.getD n 0:Nat):Int).tdiv (g:Int)=((out.getD n 0/g:Nat):Int):=YGg rfl rfl
            have h2:out.getD n 0/g<=out.getD n 0:=YGd _ _
            rw[e1]
            generalize out.getD n 0/g=q at h2⊢
            exact YE7 _ (by omega)
           rw[en,hb,hq,decide_eq_true_eq,decide_eq_false_iff_not]
           have hnx:nxtL out i j g (n+1)=if 1<itL out i j g n then nxtL out i j g n++[itL out i j g n]else nxtL out i j g n:=rfl
           refine⟨⟨by omega,by omega⟩,fun hc=>⟨by omega,?_⟩,fun hc=>?_⟩
           ·rw[show itL out i j g n=out.getD n 0/g from if_pos hc]at hnx
            generalize out.getD n 0/g=v at hnx⊢
            refine⟨fun hv=>⟨by decide,⟨by unfold YN;omega,fun p hp=>?_⟩,(n+1,yn&&decide False),⟨by simp only;omega,by simp⟩,by simp only;omega,?_⟩,fun hv=>⟨(n+1,yn),⟨by simp only;omega,?_⟩,by simp only;omega,?_⟩⟩
            ·match p,hp with
             |0,_=>exact⟨rfl,trivial,trivial⟩
            ·rw[if_pos (by omega)]at hnx
             have hol:(nxtL out i j g n++[v]).length=(nxtL out i j g n).length+1:=by rw[YF7];rfl
             simp only[hnx,hol]
             simp only[Ya]
             refine⟨by decide,fun p hp=>?_⟩
             by_cases hpt:p<(nxtL out i j g n).length
             ·rw[if_pos hpt,YFf (l:=_++_),YFK hpt,<-YFf]
              exact⟨⟨rfl,rfl⟩,trivial⟩
             ·rw[if_neg hpt,show p-(nxtL out i j g n).length=0 by omega,YFf (l:=_++_),YFX (by omega),show p-(nxtL out i j g n).length=0 by omega]
              exact⟨⟨rfl,rfl⟩,trivial⟩
            ·rw[if_neg (by omega)]at hnx
             simp only[hnx];exact hyn
            ·rw[if_neg (by omega)]at hnx
             simp only[hnx]
             simp only[Ya]
             decide
           ·rw[show itL out i j g n=out.getD n 0 from if_neg hc]at hnx
            generalize out.getD n 0=v at hnx⊢
            refine⟨fun hv=>⟨by decide,⟨by unfold YN;omega,fun p hp=>?_⟩,(n+1,yn&&decide False),⟨by simp only;omega,by simp⟩,by simp only;omega,?_⟩,fun hv=>⟨(n+1,yn),⟨by simp only;omega,?_⟩,by simp only;omega,?_⟩⟩
            ·match p,hp with
             |0,_=>exact⟨rfl,trivial,trivial⟩
            ·rw[if_pos (by omega)]at hnx
             have hol:(nxtL out i j g n++[v]).length=(nxtL out i j g n).length+1:=by rw[YF7];rfl
             simp only[hnx,hol]
             simp only[Ya]
             refine⟨by decide,fun p hp=>?_⟩
             by_cases hpt:p<(nxtL out i j g n).length
             ·rw[if_pos hpt,YFf (l:=_++_),YFK hpt,<-YFf]
              exact⟨⟨rfl,rfl⟩,trivial⟩
             ·rw[if_neg hpt,show p-(nxtL out i j g n).length=0 by omega,YFf (l:=_++_),YFX (by omega),show p-(nxtL out i j g n).length=0 by omega]
              exact⟨⟨rfl,rfl⟩,trivial⟩
            ·rw[if_neg (by omega)]at hnx
             simp only[hnx];exact hyn
            ·rw[if_neg (by omega)]at hnx
             simp only[hnx]
             simp only[Ya]
             decide
          ·obtain rfl:n=out.length:=by omega
           have hol:(nxtL out i j g out.length++[g]).length=(nxtL out i j g out.length).length+1:=by rw[YF7];rfl
           have hp:=n1.pos
           have hl2:=n1.len
           refine⟨by decide,⟨by unfold YN;omega,fun p hp=>?_⟩,(0,nxtL out i j g out.length++[g],yn&&decide False),⟨n1,YGj _,fun a ha=>absurd ha (YGe _)⟩,by simp only;omega,[1],?_,?_⟩
           ·match p,hp with
            |0,_=>exact⟨rfl,trivial,trivial⟩
           ·(try dsimp only[go_sem,reduceIte])
            refine⟨fun p hp=>?_,trivial⟩
            by_cases hpt:p<(nxtL out i j g out.length).length
            ·rw[if_pos hpt];rfl
            ·rw[if_neg hpt,show p-(nxtL out i j g out.length).length=0 by omega];rfl
           ·(try dsimp only[go_sem,reduceIte])
            simp only[hol]
            simp only[Ya]
            refine⟨fun p hp=>?_,by decide⟩
            by_cases hpt:p<(nxtL out i j g out.length).length
            ·rw[if_pos hpt,YFf (l:=_++_),YFK hpt,<-YFf]
             exact Yc _
            ·rw[if_neg hpt,show p-(nxtL out i j g out.length).length=0 by omega,YFf (l:=_++_),YFX (by omega),show p-(nxtL out i j g out.length).length=0 by omega]
             exact Yc _
       ·obtain rfl:j=i:=by omega
        refine⟨(j+1,out,yo),⟨hok,by simp only;omega,fun a ha c hc=>?_⟩,by simp only;omega,[],trivial,?_⟩
        ·rcases YFu a j with h'|h'
         ·exact hcp a h' c hc
         ·obtain rfl:a=j:=by simp only at ha;omega
          exact hgj c hc
        ·(try dsimp only[go_sem,reduceIte])
         rw[YE7 ((j:Int)+1) (by omega)]
         simp only[Ya]
         simp
     ·obtain rfl:i=out.length:=by omega
      exact YE (show k (.vs true yo out.length 1 (fun k=>encB (out.getD k 0))) []from h out ⟨hok,YwY hcp⟩ yo) (YB _ trivial) (fun _=>by simp [Yt,encB,Ys])
 ·exact h.1.elim
def v131:VF:=⟨49,[.tmp 2],(ZR [u1 2 .mov [.cn (.bool false)]] (ZR [Zm 8 0,Zc 9 154 8,Zm 3 9] (.seq (ZR [Zi 4 0] (.block 0 (.loop (.seq (ZR [Zm 10 4,Zm 11 3,Zl 12 11,Zr 13 .lss 10 12] (ZC 13 .skip (.exit 0))) (.seq (.block 1 (ZR [Zi 5 0] (.seq (ZR [Zi 6 0] (.block 2 (.loop (.seq (ZR [Zm 16 6,Zm 17 0,Zl 18 17,Zr 19 .lss 16 18] (ZC 19 .skip (.exit 2))) (.seq (.block 3 (ZR [Zm 22 0,Zm 23 6,Zx 24 2 22 23,Za 25 0 24,Zf 26 1 25,Zm 7 26] (.block 4 (.loop (.seq (ZR [Zm 27 7,Zm 28 3,Zm 29 4,Zx 30 1 28 29,Zf 31 1 30,u1 32 .rem [.tm 27,.tm 31],Zq 33 .eql 32 0] (ZC 33 .skip (.exit 4))) (.seq (.block 5 (.region [Zm 40 5,Zm 41 0,Zm 42 6,Zx 43 2 41 42,Za 44 1 43,Zf 45 1 44,Zo 46 .add 40 45,Zm 5 46])) (.region [Zm 34 7,Zm 35 3,Zm 36 4,Zx 37 1 35 36,Zf 38 1 37,u1 39 .quo [.tm 34,.tm 38],Zm 7 39]))))))) (.region [Zm 20 6,Zp 21 20 1,Zm 6 21])))))) (ZR [Zm 47 5,Zq 48 .neq 47 0] (ZC 48 (ZR [u1 2 .mov [.cn (.bool false)]] .ret) .skip))))) (.region [Zm 14 4,Zp 15 14 1,Zm 4 15])))))) (ZR [u1 2 .mov [.cn (.bool true)]] .ret))))⟩
theorem YzJ:Yg YE8 Tryz.f131=some v131:=by kernel_rfl
def oneC:Ctr:={ alias:=false,of:=fun l=>match l with
 | [.vs _ _ n sz get]=> .ex (List (Int×Int)) fun l=> .pre (lsP 2 enc2 n sz get l/\(∀x,x∈l->okT x)/\n<=20) (.fin (.bool (decide (upP l=dnP l))) [])
 |_=> .pre False (.fin (.bool false) [])}
def Q6:Env:={ ct:=fun n=>match n with|154=>some baseC|_=>none,fn:=fun _=>none,meth:=fun _ _=>none}
theorem Ysp:Q6.ct 154=some baseC:=rfl
theorem Q6_ok:Yu YE8 Q6:=by
 refine⟨fun f c h=>?_,fun f vf h=>?_,(fun _ _ _ h=>by cases h),by kernel_rfl,(fun _ h=>by cases h)⟩
 ·simp only[Q6]at h
  split at h
  ·cases h;exact⟨YwI,Tryz.f154,Tryz.func154,by kernel_rfl,by kernel_rfl⟩
  ·cases h
 ·cases h
theorem YCB:oneC.ok YE8 131:=by
 refine Yb Tryz.func131 YzJ Q6_ok 500 oneC fun args k h=>?_
 simp only[oneC]at h
 split at h
 ·rename_i tt z n sz get
  obtain⟨l,⟨⟨rfl,rfl,hg⟩,hl,hn⟩,h⟩:=h
  refine⟨[.vs tt z l.length 2 (fun k=>enc2 (l.getD k default))],⟨⟨id,rfl,rfl,rfl,hg⟩,trivial⟩,?_⟩
  (try dsimp only[v131,Ysp,baseC,enc2,go_sem,reduceIte])
  (try simp only[Yd,YE5,YE3,reduceCtorEq,YE2])
  refine⟨l,⟨⟨rfl,rfl,fun k hk=>Yc _⟩,hl,hn⟩,fun B hB y=>?_⟩
  obtain⟨hok,hcop⟩:=hB
  have hbl:=hok.len
  have hone:=YCz hl hn hok hcop
  rw[<-hone]at h
  refine Loop.keep [0,2] Nat (fun i=>[(4,.int .i64 i)]) (fun _=>[]) [] (fun i=>i<=B.length/\((B.take i).all fun b=>decide (sumB l b=0))=true) (fun i=>B.length-i) ?_ ?_
  ·refine⟨0,⟨by omega,rfl⟩,?_⟩
   (try dsimp only[go_sem,reduceIte])
   simp only[Ya]
   rfl
  ·rintro i ⟨hi,hall⟩
   (try dsimp only[encB,enc2,YE4,go_sem,reduceIte])
   (try simp only[Yd,YE5,YE3,reduceCtorEq,YE2])
   refine⟨fun hlt=>?_,fun hge=>?_⟩
   ·have hb:2<=B.getD i 0/\B.getD i 0<=1000000000001:=hok.rng _ (Yl (l:=B) (i:=i) (by omega))
    have hsucc:((B.take (i+1)).all fun b=>decide (sumB l b=0))=decide (sumB l (B.getD i 0)=0):=by
     rw[Yen (by omega),hall,YGm];rfl
    have hmemb:B.getD i 0∈B:=Yl (l:=B) (i:=i) (by omega)
    refine Loop.keep [0,2,0] (Nat×Int) (fun s=>[(5,.int .i64 s.2),(6,.int .i64 s.1)]) (fun _=>[]) [] (fun s=>s.1<=l.length/\s.2=(l.take s.1).foldl (fun s x=>divL 64 (B.getD i 0:Nat) x.1 x.2 s) 0) (fun s=>l.length-s.1) ?_ ?_
    ·refine⟨(0,0),⟨by simp only;omega,rfl⟩,?_⟩
     (try dsimp only[go_sem,reduceIte])
     simp only[Ya]
     rfl
    ·rintro⟨t,S⟩ ⟨ht,hS⟩
     dsimp only at ht hS
     (try dsimp only[encB,enc2,YE4,go_sem,reduceIte])
     (try simp only[Yd,YE5,YE3,reduceCtorEq,YE2])
     refine⟨fun hlt2=>⟨⟨by omega,by omega⟩,?_⟩,fun hge2=>?_⟩
     ·have hx:=hl _ (Yl (by omega:t<l.length))
      have hst:(l.take (t+1)).foldl (fun s x=>divL 64 (B.getD i 0:Nat) x.1 x.2 s) 0=divL 64 (B.getD i 0:Nat) (l.getD t default).1 (l.getD t default).2 S:=by
       rw[Yp (by omega),<-hS]
      obtain⟨q0,q1,q2,q3⟩:=hx
      obtain⟨R,hR⟩:∃R,R=divL 64 (B.getD i 0:Nat) (l.getD t default).1 (l.getD t default).2 S:=⟨_,rfl⟩
      rw[<-hR]at hst
      refine Loop.keep [0,2,0,1] (Nat×Int×Int) (fun s=>[(5,.int .i64 s.2.2),(7,.int .i64 s.2.1)]) (fun _=>[]) [] (fun s=>R=divL s.1 (B.getD i 0:Nat) s.2.1 (l.getD t default).2 s.2.2/\1<=s.2.1/\s.2.1<2^s.1/\s.2.1<=1000000000001) (fun s=>s.1) ?_ ?_
      ·refine⟨(64,(l.getD t default).1,S),⟨hR,q0,by simp only;omega,q1⟩,?_⟩
       (try dsimp only[go_sem,reduceIte])
       simp only[Ya]
      ·rintro⟨f,n,S'⟩ ⟨hf,n0,n1,n2⟩
       dsimp only at hf n0 n1 n2
       (try dsimp only[encB,enc2,YE4,go_sem,reduceIte])
       (try simp only[Yd,YE5,YE3,reduceCtorEq,YE2])
       generalize B.getD i 0=b at*
       generalize l.getD t default=x at*
       obtain⟨m,rfl⟩:=YFW (by omega:0<=n)
       obtain⟨g,rfl⟩:∃g,f=g+1:=by
        cases f with
        |zero=>simp at n1;omega
        |succ g=>exact⟨g,rfl⟩
       rw[divL]at hf
       refine⟨⟨by omega,by omega⟩,by omega,fun hc=>?_,fun hc=>?_⟩
       ·rw[if_pos hc]at hf
        have e1:(m:Int).tmod (b:Int)=((m%b:Nat):Int):=YGr rfl rfl
        have e2:(m:Int).tdiv (b:Int)=((m/b:Nat):Int):=YGg rfl rfl
        rw[e1]at hc
        have hdm:=YFH m b
        rw[show m%b=0 by omega,YF8]at hdm
        have hq1:1<=m/b:=Nat.pos_of_ne_zero fun hh=>by rw[hh,Nat.mul_zero]at hdm;omega
        have hq2:2*(m/b)<=m:=by
         have:2*(m/b)<=b*(m/b):=YE9 _ hb.1
         omega
        rw[e2]at hf⊢
        generalize m/b=q at hq1 hq2 hf⊢
        have eq:IntKind.i64.wrap (q:Int)=(q:Int):=YE7 _ (by omega)
        rw[eq]at hf⊢
        have n1':m<2^g*2:=by rw[<-YFm];exact_mod_cast n1
        refine⟨⟨by omega,by omega⟩,⟨by omega,by omega⟩,by omega,(g,q,IntKind.i64.wrap (S'+x.2)),⟨hf,by simp only;omega,?_,by simp only;omega⟩,by simp only;omega,?_⟩
        ·show(q:Int)<2^g
         have:q<2^g:=by omega
         exact_mod_cast this
        ·simp only[Ya]
       ·rw[if_neg hc]at hf
        refine⟨(t+1,S'),⟨by simp only;omega,by rw[hst,hf]⟩,by simp only;omega,?_⟩
        rw[YE7 ((t:Int)+1) (by omega)]
        simp only[Ya]
        simp
     ·obtain rfl:t=l.length:=by omega
      rw[YF4]at hS
      have hS:S=sumB l (B.getD i 0):=hS
      refine⟨fun hc=>?_,fun hc=>⟨i+1,⟨by omega,?_⟩,by omega,?_⟩⟩
      ·have:(B.all fun b=>decide (sumB l b=0))=false:=by
        rw[List.all_eq_false]
        exact⟨B.getD i 0,hmemb,by rw[<-hS];simpa using hc⟩
       rw[this]at h
       exact YO h
      ·rw[hsucc,<-hS];exact decide_eq_true hc
      ·rw[YE7 ((i:Int)+1) (by omega)]
       simp only[Ya]
       simp
   ·obtain rfl:i=B.length:=by omega
    rw[YF4]at hall
    rw[hall]at h
    exact YO h
 ·exact h.1.elim
theorem Yj7{n p:Nat}(h1:1<=n)(h2:n<4611686018427387904):2^(lgR n p).1<=n^(2^p)/\n^(2^p)<=2^(lgR n p).2:=by
 unfold lgR
 by_cases c:n=2^lgK n
 ·rw[if_pos c]
  have e:n^(2^p)=2^(lgK n*2^p):=by rw[YFh,<-c]
  rw[e];exact⟨YFk _,YFk _⟩
 ·rw[if_neg c]
  have hk:lgK n<62:=YcN (by decide) h2
  rcases YFu (2*p+60) (lgK n)with hh|hh
  ·have hk1:=YmV h1
   have e:2*p+60-lgK n=0:=by omega
   obtain rfl:p=0:=by omega
   simp only[gl]
   rw[YGn,YGl]
   exact⟨hk1.1,YGa hk1.2⟩
  ·obtain⟨m1,m2,m3⟩:=mant (D:=2*p+60) h1 hh
   exact Yil _ false (YFF (by decide)) p _ _ _ n (YFr m3) (YFr m3.symm) m1 (YGa m2)
theorem YqG{n p:Nat}(h1:1<=n)(h2:n<4611686018427387904):(lgR n p).1<=(lgR n p).2/\(lgR n p).2<=64*2^p:=by
 have hs:=Yj7 (p:=p) h1 h2
 have hk:lgK n<62:=YcN (by decide) h2
 refine⟨(Nat.pow_le_pow_iff_right (by decide)).1 (YFa hs.1 hs.2),?_⟩
 unfold lgR
 split
 ·exact YE9 _ (by omega)
 ·exact YFa (YeX _ false p _ _ (lgK n)).2 (YE9 _ (by omega))
theorem Yhj{n p r:Nat}(h1:1<=n)(h2:n<4611686018427387904)(hp:p+2<=r):(lN n p).1*2^(r-p)<=(lgR n r).1/\(lgR n r).2<=(lN n p).2*2^(r-p):=by
 have hk:lgK n<62:=YcN (by decide) h2
 unfold lN lgR
 by_cases c:YbC (n:Int)=true
 ·rw[if_pos c,if_pos (YmS h1 h2 c)]
  have e:lgK n*2^p*2^(r-p)=lgK n*2^r:=by
   rw[YFg,<-YFi];congr 2;omega
  simp only
  rw[e];exact⟨YFk _,YFk _⟩
 ·have c':¬n=2^lgK n:=fun hh=>c (by rw[hh];exact Yj2 _ hk)
  rw[if_neg c,if_neg c']
  obtain⟨d,rfl⟩:∃d,r=p+2+d:=⟨r-p-2,by omega⟩
  have eM:(2:Nat)^(2*(p+2+d)+60)=2^(2*p+64)*2^(2*d):=by
   rw[<-YFi];congr 1;omega
  have eA:n*2^(2*(p+2+d)+60-lgK n)=2^(2*d)*(n*2^(2*p+64-lgK n)):=by
   rw[show 2*(p+2+d)+60-lgK n=2*d+(2*p+64-lgK n)by omega,YFi,YFY]
  have:=Yqb (2^(2*p+64)) (2^(2*d)) false (YFF (by decide)) (YFF (by decide)) (2+d) p (n*2^(2*p+64-lgK n)) (n*2^(2*p+64-lgK n)) (lgK n) _ _ (YFr eA.symm) (YFk _) (YFr eA)
  rw[<-eM,show p+(2+d)=p+2+d by omega]at this
  rw[show p+2+d-p=2+d by omega]
  exact this
theorem YoS(g:Nat->Nat):∀a b,upS g (a++b)=upS g a+upS g b/\dnS g (a++b)=dnS g a+dnS g b
 | [],b=>by simp [upS,dnS]
 |x::a,b=>by
  obtain⟨h1,h2⟩:=YoS g a b
  rw[List.cons_append,upS,dnS,upS,dnS,h1,h2]
  exact⟨(Nat.add_assoc ..).symm,(Nat.add_assoc ..).symm⟩
theorem YkU(g:Nat->Nat)(c:Nat):∀l,upS (fun n=>g n*c) l=upS g l*c/\dnS (fun n=>g n*c) l=dnS g l*c
 | []=>by simp [upS,dnS]
 |x::l=>by
  obtain⟨h1,h2⟩:=YkU g c l
  rw[upS,dnS,upS,dnS,h1,h2,YFw,YFw]
  constructor
  ·split
   ·rw[Nat.zero_mul]
   ·rw[Nat.mul_right_comm]
  ·split
   ·rw[Nat.mul_right_comm]
   ·rw[Nat.zero_mul]
def lo(p n:Nat):Nat:=(lgR n p).1
def hi(p n:Nat):Nat:=(lgR n p).2
def UndR(l:List (Int×Int))(p:Nat):Prop:=upS (lo p) l<=dnS (hi p) l/\dnS (lo p) l<=upS (hi p) l
theorem Yn8{l:List (Int×Int)}{p r:Nat}(hl:∀x,x∈l->okT x)(hp:p+2<=r)(h:UndR l r):Und l p:=by
 obtain⟨h1,h2⟩:=h
 obtain⟨a1,a2⟩:=Yjq (g:=fun n=>(lN n p).1*2^(r-p)) (h:=lo r) (fun n k1 k2=>(Yhj k1 k2 hp).1) l hl
 obtain⟨b1,b2⟩:=Yjq (g:=hi r) (h:=fun n=>(lN n p).2*2^(r-p)) (fun n k1 k2=>(Yhj k1 k2 hp).2) l hl
 obtain⟨c1,c2⟩:=YkU (fun n=>(lN n p).1) (2^(r-p)) l
 obtain⟨d1,d2⟩:=YkU (fun n=>(lN n p).2) (2^(r-p)) l
 rw[c1]at a1;rw[c2]at a2;rw[d1]at b1;rw[d2]at b2
 exact⟨YFj (YFa a1 (YFa h1 b2)) (YF _),YFj (YFa a2 (YFa h2 b1)) (YF _)⟩
def ordR(l:List (Int×Int))(p:Nat):Int:=if dnS (hi p) l<upS (lo p) l then 1 else if upS (hi p) l<dnS (lo p) l then -1 else 0
theorem Yhn{l:List (Int×Int)}{p:Nat}(hl:∀x,x∈l->okT x):(ordR l p=1->dnP l<upP l)/\(ordR l p= -1->upP l<dnP l)/\(ordR l p=0->UndR l p)/\(ordR l p=1\/ordR l p= -1\/ordR l p=0):=by
 obtain⟨⟨a1,a2⟩,b1,b2⟩:=Yb9 (K:=2^p) (g:=lo p) (h:=hi p) (fun n k1 k2=>Yj7 k1 k2) l hl
 unfold ordR
 by_cases c1:dnS (hi p) l<upS (lo p) l
 ·rw[if_pos c1]
  exact⟨fun _=>Ybk b2 a1 c1,fun h=>absurd h (by decide),fun h=>absurd h (by decide),Or.inl rfl⟩
 ·rw[if_neg c1]
  by_cases c2:upS (hi p) l<dnS (lo p) l
  ·rw[if_pos c2]
   exact⟨fun h=>absurd h (by decide),fun _=>Ybk a2 b1 c2,fun h=>absurd h (by decide),Or.inr (Or.inl rfl)⟩
  ·rw[if_neg c2]
   exact⟨fun h=>absurd h (by decide),fun h=>absurd h (by decide),fun _=>⟨by omega,by omega⟩,Or.inr (Or.inr rfl)⟩
theorem S_nl{l:List (Int×Int)}{p:Nat}{g:Nat->Nat}(hg:∀n,1<=n->n<4611686018427387904->g n<=64*2^p)(hl:∀x,x∈l->okT x)(hn:l.length<=20)(hp:p<=3840):nl (upS g l)<=300/\nl (dnS g l)<=300:=by
 obtain⟨h1,h2⟩:=S_le hg l hl
 have hb:l.length*(64*2^p*1000000000)<2^(p+41):=by
  rw[YFi]
  have h3:=YE9 (64*2^p*1000000000) hn
  have:=YF p
  rw[show(2:Nat)^41=2199023255552 from rfl]
  omega
 exact⟨Ykh (YFG h1 hb) (by omega),Ykh (YFG h2 hb) (by omega)⟩
theorem lo_b{p n:Nat}(h1:1<=n)(h2:n<4611686018427387904):lo p n<=64*2^p:=YFa (YqG h1 h2).1 (YqG h1 h2).2
theorem hi_b{p n:Nat}(h1:1<=n)(h2:n<4611686018427387904):hi p n<=64*2^p:=(YqG h1 h2).2
def v75:VF:=⟨91,[.cell 4 true 2,.cell 5 true 2],(ZR [u1 4 (.allocArr 2 1 [.nil,.nil]) [],u1 5 (.allocArr 2 1 [.nil,.nil]) []] (ZR [u1 6 (.allocArr 2 1 [.nil,.nil]) [],u1 7 (.allocArr 2 1 [.nil,.nil]) []] (.seq (ZR [Zi 8 0] (.block 0 (.loop (.seq (ZR [Zm 12 8,Zm 13 0,Zl 14 13,Zr 15 .lss 12 14] (ZC 15 .skip (.exit 0))) (.seq (.block 1 (.seq (ZR [Zm 18 0,Zm 19 8,Zx 20 2 18 19,Za 21 0 20,Zf 22 1 21,Zq 23 .eql 22 1,Zm 24 23,Zg 25 24 false 0,Zg 26 24 false 8,u2 27 24 false (.idxAddr 2) [.tm 25,.tm 26],Zj 28 24 false 1 27,Zh 29 24 false 1 28,u2 30 24 false (.cmp .eql) [.tm 29,.cn (.int .i64 0)],u1 31 .or [.tm 24,.tm 30]] (ZC 31 (.exit 1) .skip)) (ZR [Zm 33 0,Zm 34 8,Zx 35 2 33 34,Za 36 0 35,Zf 37 1 36,Zm 38 1,Zd 39 104 37 38,Zm 32 39,Ze 40 0 32,Ze 41 1 32,Zm 9 40,Zm 10 41] (.seq (.draw [] [Zu 42 0,Zu 43 8,ZX 44 2 42 43,Zy 45 1 44,Zv 46 1 45,Zu 47 0,Zu 48 8,ZX 49 2 47 48,Zy 50 1 49,Zv 51 1 50,w1 52 .neg [.tm 51],w1 53 .max [.tm 46,.tm 52],w1 54 (.call 105) [.tm 53],Zu 11 54]) (ZR [Zm 55 0,Zm 56 8,Zx 57 2 55 56,Za 58 1 57,Zf 59 1 58,Zq 60 .gtr 59 0] (ZC 60 (.seq (.draw [] [w1 61 (.idxArr 2 1) [.tm 6,.cn (.int .i64 0)],Zv 62 1 61,Zu 63 11,Zu 64 9,Zz 65 106 63 64,Zz 66 77 62 65,w1 67 (.idxArr 2 1) [.tm 6,.cn (.int .i64 0)],ZS 1 67 66]) (.draw [] [w1 68 (.idxArr 2 1) [.tm 6,.cn (.int .i64 1)],Zv 69 1 68,Zu 70 11,Zu 71 10,Zz 72 106 70 71,Zz 73 77 69 72,w1 74 (.idxArr 2 1) [.tm 6,.cn (.int .i64 1)],ZS 1 74 73])) (.seq (.draw [] [w1 75 (.idxArr 2 1) [.tm 7,.cn (.int .i64 0)],Zv 76 1 75,Zu 77 11,Zu 78 9,Zz 79 106 77 78,Zz 80 77 76 79,w1 81 (.idxArr 2 1) [.tm 7,.cn (.int .i64 0)],ZS 1 81 80]) (.draw [] [w1 82 (.idxArr 2 1) [.tm 7,.cn (.int .i64 1)],Zv 83 1 82,Zu 84 11,Zu 85 10,Zz 86 106 84 85,Zz 87 77 83 86,w1 88 (.idxArr 2 1) [.tm 7,.cn (.int .i64 1)],ZS 1 88 87])))))))) (.region [Zm 16 8,Zp 17 16 1,Zm 8 17])))))) (.seq (.draw [] [Zw 89 2 6,Zw 90 2 7,⟨Zs 2 4 89,[.tm 7]⟩,ZS 2 5 90]) .ret))))⟩
theorem YED:Yg YE8 Tryz.f75=some v75:=by kernel_rfl
def v76:VF:=⟨17,[.tmp 4],(ZR [u1 2 .box [.tm 0],u1 3 .box [.tm 1],Zi 4 0] (.seq (ZR [u1 5 (.idxArr 2 1) [.tm 2,.cn (.int .i64 0)],Zf 6 1 5,u1 7 (.idxArr 2 1) [.tm 3,.cn (.int .i64 1)],Zf 8 1 7,Zd 9 107 6 8,Zq 10 .gtr 9 0] (ZC 10 (ZR [Zi 4 1] .ret) .skip)) (.seq (ZR [u1 11 (.idxArr 2 1) [.tm 2,.cn (.int .i64 1)],Zf 12 1 11,u1 13 (.idxArr 2 1) [.tm 3,.cn (.int .i64 0)],Zf 14 1 13,Zd 15 107 12 14,Zq 16 .lss 15 0] (ZC 16 (ZR [Zi 4 (-1)] .ret) .skip)) (ZR [Zi 4 0] .ret))))⟩
theorem YEE:Yg YE8 Tryz.f76=some v76:=by kernel_rfl
def sumsC:Ctr:={ alias:=false,of:=fun l=>match l with
 | [.vs _ _ n sz get,.int .i64 p]=> .ex (List (Int×Int)) fun l=> .ex Nat fun q=> .pre (lsP 2 enc2 n sz get l/\(∀x,x∈l->okT x)/\n<=20/\p=q/\q<=3840/\q%15=0)
     (.all Bool fun y1=> .all Bool fun y2=> .all Bool fun y3=> .all Bool fun y4=> .fin (.tup [.agg [natS y1 (upS (lo q) l),natS y2 (upS (hi q) l)],.agg [natS y3 (dnS (lo q) l),natS y4 (dnS (hi q) l)]]) [])
 |_=>noC}
def orderC:Ctr:={ alias:=false,of:=fun l=>match l with
 | [.agg [.vs _ _ n0 s0 g0,.vs _ _ n1 s1 g1],.agg [.vs _ _ n2 s2 g2,.vs _ _ n3 s3 g3]]=> .ex Nat fun a=> .ex Nat fun b=> .ex Nat fun c=> .ex Nat fun d=> .pre ((padP a n0 s0 g0/\n0=nl a)/\(padP b n1 s1 g1/\n1=nl b)/\(padP c n2 s2 g2/\n2=nl c)/\(padP d n3 s3 g3/\n3=nl d)) (.fin (.int .i64 (if d<a then 1 else if b<c then -1 else 0)) [])
 |_=>noC}
def Q7:Env:={ ct:=fun n=>match n with|104=>some logC|105=>some limbsC|106=>some mulC|77=>some addC|107=>some cmpC|_=>none,fn:=fun _=>none,meth:=fun _ _=>none}
theorem YhC:Q7.ct 104=some logC:=rfl
theorem YhD:Q7.ct 105=some limbsC:=rfl
theorem YhE:Q7.ct 106=some mulC:=rfl
theorem YkS:Q7.ct 77=some addC:=rfl
theorem Ysq:Q7.ct 107=some cmpC:=rfl
theorem YAu:Yu YE8 Q7:=by
 refine⟨fun f c h=>?_,fun f vf h=>?_,(fun _ _ _ h=>by cases h),by kernel_rfl,(fun _ h=>by cases h)⟩
 ·simp only[Q7]at h
  split at h
  ·cases h;exact⟨YCn,Tryz.f104,Tryz.func104,by kernel_rfl,by kernel_rfl⟩
  ·cases h;exact⟨Yiy,Tryz.f105,Tryz.func105,by kernel_rfl,by kernel_rfl⟩
  ·cases h;exact⟨YqW,Tryz.f106,Tryz.func106,by kernel_rfl,by kernel_rfl⟩
  ·cases h;exact⟨YgX,Tryz.f77,Tryz.func77,by kernel_rfl,by kernel_rfl⟩
  ·cases h;exact⟨YdX,Tryz.f107,Tryz.func107,by kernel_rfl,by kernel_rfl⟩
  ·cases h
 ·cases h
def YqY(t z:Bool)(a:Nat):SV:= .vs t z (nl a) 1 (fun k=>[.int .i64 (dig a k)])
theorem YbG:orderC.ok YE8 76:=by
 refine Yb Tryz.func76 YEE YAu 300 orderC fun args k h=>?_
 simp only[orderC]at h
 split at h
 ·rename_i t0 z0 n0 s0 g0 t1 z1 n1 s1 g1 t2 z2 n2 s2 g2 t3 z3 n3 s3 g3
  obtain⟨a,b,c,d,⟨⟨⟨rfl,p0,p1,p2⟩,rfl⟩,⟨⟨rfl,q0,q1,q2⟩,rfl⟩,⟨⟨rfl,r0,r1,r2⟩,rfl⟩,⟨⟨rfl,u0,u1,u2⟩,rfl⟩⟩,h⟩:=h
  refine⟨[.agg [YqY t0 z0 a,YqY t1 z1 b],.agg [YqY t2 z2 c,YqY t3 z3 d]],⟨⟨⟨id,rfl,rfl,rfl,p2⟩,⟨id,rfl,rfl,rfl,q2⟩,trivial⟩,⟨⟨id,rfl,rfl,rfl,r2⟩,⟨id,rfl,rfl,rfl,u2⟩,trivial⟩,trivial⟩,?_⟩
  (try dsimp only[v76,Ysq,cmpC,YqY,YE4,go_sem,reduceIte])
  (try simp only[Yd,YE5,YE3,reduceCtorEq,YE2])
  have c1:0<ordN a d↔d<a:=by
   unfold ordN;split
   ·omega
   ·split <;> omega
  refine⟨by decide,by decide,a,d,⟨Ye (by omega),Ye (by omega),rfl,rfl⟩,fun hc=>?_,fun hc=>⟨by decide,by decide,b,c,⟨Ye (by omega),Ye (by omega),rfl,rfl⟩,fun hd=>?_,fun hd=>?_⟩⟩
  ·rw[if_pos (c1.1 hc)]at h;exact Yh h
  ·rw[if_neg (fun hh=>hc (c1.2 hh)),if_pos (ord_lt.1 hd)]at h;exact Yh h
  ·rw[if_neg (fun hh=>hc (c1.2 hh)),if_neg (fun hh=>hd (ord_lt.2 hh))]at h;exact Yh h
 ·exact h.1.elim
theorem YCk(p:Nat):lo p (1:Int).toNat=0/\hi p (1:Int).toNat=0:=by
 have e:lgR 1 p=(0,0):=by
  unfold lgR
  rw[if_pos (by decide),show lgK 1=0 by decide,Nat.zero_mul]
 exact⟨congrArg Prod.fst e,congrArg Prod.snd e⟩
structure SSt where
 i:Nat
 y1:Bool
 y2:Bool
 y3:Bool
 y4:Bool
theorem YrZ:sumsC.ok YE8 75:=by
 refine Yb Tryz.func75 YED YAu 800 sumsC fun args k h=>?_
 simp only[sumsC]at h
 split at h
 ·rename_i tt z n sz get p'
  obtain⟨l,p,⟨⟨rfl,rfl,hg⟩,hl,hn,rfl,hp,hp15⟩,h⟩:=h
  refine⟨[.vs tt z l.length 2 (fun k=>enc2 (l.getD k default)),.int .i64 p],⟨⟨id,rfl,rfl,rfl,hg⟩,⟨rfl,rfl⟩,trivial⟩,?_⟩
  (try dsimp only[v75,enc2,go_sem,reduceIte])
  (try simp only[Yd,YE5,YE3,reduceCtorEq,YE2])
  refine Loop.keep [0,0,2,0,0,0] SSt (fun s=>[(8,.int .i64 s.i)]) (fun s=>[(2,.own false 1 2 (YaE 1 [natS s.y1 (upS (lo p) (l.take s.i)),natS s.y2 (upS (hi p) (l.take s.i))])),(3,.own false 1 2 (YaE 1 [natS s.y3 (dnS (lo p) (l.take s.i)),natS s.y4 (dnS (hi p) (l.take s.i))]))]) [] (fun s=>s.i<=l.length) (fun s=>l.length-s.i) ?_ ?_
  ·refine⟨⟨0,true,true,true,true⟩,by simp only;omega,?_⟩
   (try dsimp only[natS,go_sem,reduceIte])
   simp only[Ya]
   refine⟨by simp,fun k hk=>?_,fun k hk=>?_⟩
   ·match k,hk with
    |0,_=>exact⟨⟨rfl,rfl⟩,trivial⟩
    |1,_=>exact⟨⟨rfl,rfl⟩,trivial⟩
   ·match k,hk with
    |0,_=>exact⟨⟨rfl,rfl⟩,trivial⟩
    |1,_=>exact⟨⟨rfl,rfl⟩,trivial⟩
  ·rintro⟨i,y1,y2,y3,y4⟩ hi
   dsimp only at hi
   (try dsimp only[YhC,YhD,YhE,YkS,logC,limbsC,mulC,addC,natS,enc2,YE4,Int.toNat_zero,Int.toNat_one,Nat.reduceMul,go_sem,reduceIte])
   (try simp only[Yd,YE5,YE3,reduceCtorEq,YE2])
   refine⟨fun hlt=>?_,fun hge=>?_⟩
   ·obtain⟨q0,q1,q2,q3⟩:=hl _ (Yl (by omega:i<l.length))
    have hx:=YcR (hl _ (Yl (by omega:i<l.length)))
    have hlt':i<l.length:=by omega
    have hU:∀g,upS g (l.take (i+1))=upS g (l.take i)+upS g [l.getD i default]:=fun g=>by rw[Yaf hlt',(YoS g _ _).1]
    have hD:∀g,dnS g (l.take (i+1))=dnS g (l.take i)+dnS g [l.getD i default]:=fun g=>by rw[Yaf hlt',(YoS g _ _).2]
    have hok:∀x,x∈l.take i->okT x:=fun x hx=>hl x (List.mem_of_mem_take hx)
    have hlen:(l.take i).length<=20:=by rw[YF2];omega
    obtain⟨b1,b2⟩:=S_nl (p:=p) (g:=lo p) (fun n h1 h2=>lo_b h1 h2) hok hlen hp
    obtain⟨b3,b4⟩:=S_nl (p:=p) (g:=Q.hi p) (fun n h1 h2=>hi_b h1 h2) hok hlen hp
    have lb:=lo_b (p:=p) hx.1 hx.2.1
    have hb:=hi_b (p:=p) hx.1 hx.2.1
    generalize l.getD i default=x at*
    have hlo:lo p x.1.toNat=(lgR x.1.toNat p).1:=rfl
    have hhi:Q.hi p x.1.toNat=(lgR x.1.toNat p).2:=rfl
    rw[<-hlo,<-hhi]
    have h1L:x.1=1->lo p x.1.toNat=0/\Q.hi p x.1.toNat=0:=fun hh=>by rw[hh];exact YCk p
    have eU:∀g:Nat->Nat,upS g [x]=if x.2<0 then 0 else g x.1.toNat*x.2.toNat:=fun g=>by rw[upS,upS,YF8]
    have eD:∀g:Nat->Nat,dnS g [x]=if x.2<0 then g x.1.toNat*(-x.2).toNat else 0:=fun g=>by rw[dnS,dnS,YF8]
    simp only[eU,eD]at hU hD
    have ei:IntKind.i64.wrap ((i:Int)+1)=((i+1:Nat):Int):=by rw[YE7 _ (by omega)];omega
    have en:IntKind.i64.wrap (0-x.2)= -x.2:=by rw[YE7 _ (by omega)];omega
    have uL:=hU (lo p)
    have uH:=hU (Q.hi p)
    have dL:=hD (lo p)
    have dH:=hD (Q.hi p)
    generalize lo p x.1.toNat=L at*
    generalize Q.hi p x.1.toNat=H at*
    rw[ei,en]
    refine⟨⟨by omega,by omega⟩,fun _=>⟨by omega,by omega⟩,fun hc=>?_,fun hc=>⟨⟨by omega,by omega⟩,⟨⟨q0,q1⟩,by omega,by omega,by omega⟩,fun z1 z2=>⟨by decide,by decide,⟨by omega,by omega⟩,⟨by omega,by omega⟩,⟨by omega,by omega⟩,⟨by omega,by omega⟩,fun hpos=>⟨by decide,?_⟩,fun hneg=>⟨by decide,?_⟩⟩⟩⟩
    ·have hz:(if x.2<0 then 0 else L*x.2.toNat)=0/\(if x.2<0 then 0 else H*x.2.toNat)=0/\(if x.2<0 then L*(-x.2).toNat else 0)=0/\(if x.2<0 then H*(-x.2).toNat else 0)=0:=by
      rw[YF5,decide_eq_true_eq,decide_eq_true_eq]at hc
      rcases hc with hc|hc
      ·obtain⟨l1,l2⟩:=h1L hc
       simp [l1,l2]
      ·simp [hc]
     obtain⟨a1,a2,a3,a4⟩:=hz
     rw[a1,YF8]at uL
     rw[a2,YF8]at uH
     rw[a3,YF8]at dL
     rw[a4,YF8]at dH
     refine⟨⟨i+1,y1,y2,y3,y4⟩,by simp only;omega,by simp only;omega,?_⟩
     simp only[uL,uH,dL,dH]
     simp only[Ya]
     refine⟨by simp,fun k hk=>?_,fun k hk=>?_⟩
     ·match k,hk with
      |0,_=>exact YR _ ⟨trivial,trivial⟩
      |1,_=>exact YR _ ⟨trivial,trivial⟩
     ·match k,hk with
      |0,_=>exact YR _ ⟨trivial,trivial⟩
      |1,_=>exact YR _ ⟨trivial,trivial⟩
    ·simp only[if_false]
     (try dsimp only[YhC,YhD,YhE,YkS,logC,limbsC,mulC,addC,natS,enc2,YE4,Int.toNat_zero,Int.toNat_one,Nat.reduceMul,go_sem,reduceIte])
     (try simp only[Yd,YE5,YE3,reduceCtorEq,YE2])
     rw[if_neg (by omega)]at uL uH dL dH
     rw[YF8]at dL dH
     have hM:(max x.2 (-x.2)).toNat=x.2.toNat:=by omega
     rw[hM]
     have hMb:x.2.toNat<=1000000000:=by omega
     generalize x.2.toNat=M at*
     have fM:nl M<=2:=nl_le.2 (by omega)
     have f32:∀X,X<=64*2^p->nl X<=300/\nl (M*X)<=300:=fun X hX=>by
      have h3:M*X<=1000000000*(64*2^p):=YFt hMb hX
      have h4:=YF p
      have h5:1000000000*(64*2^p)<2^(p+41):=by rw[YFi,show(2:Nat)^41=2199023255552 from rfl];omega
      have h6:p+41<15*300:=by omega
      exact⟨Ykh (YFG (show X<=1000000000*(64*2^p)by omega) h5) h6,Ykh (YFG h3 h5) h6⟩
     obtain⟨fL,fML⟩:=f32 L lb
     obtain⟨fH,fMH⟩:=f32 H hb
     refine⟨by decide,M,L,⟨Ye (by omega),Ye (by omega),by omega,by omega⟩,upS (lo p) (l.take i),M*L,⟨Ye (by omega),Ye (by omega),by omega,by omega⟩,by decide,by decide,by decide,by decide,M,H,⟨Ye (by omega),Ye (by omega),by omega,by omega⟩,upS (Q.hi p) (l.take i),M*H,⟨Ye (by omega),Ye (by omega),by omega,by omega⟩,by decide,by decide,⟨i+1,false,false,y3,y4⟩,by simp only;omega,by simp only;omega,?_⟩
     simp only[uL,uH,dL,dH,ei,YFc L,YFc H]
     simp only[Ya]
     refine⟨by simp,fun k hk=>?_,fun k hk=>?_⟩
     ·match k,hk with
      |0,_=>exact YR _ ⟨trivial,trivial⟩
      |1,_=>exact YR _ ⟨trivial,trivial⟩
     ·match k,hk with
      |0,_=>exact YR _ ⟨trivial,trivial⟩
      |1,_=>exact YR _ ⟨trivial,trivial⟩
    ·simp only[if_false]
     (try dsimp only[YhC,YhD,YhE,YkS,logC,limbsC,mulC,addC,natS,enc2,YE4,Int.toNat_zero,Int.toNat_one,Nat.reduceMul,go_sem,reduceIte])
     (try simp only[Yd,YE5,YE3,reduceCtorEq,YE2])
     have hx0:x.2≠0:=fun hh=>by rw[hh,decide_eq_true rfl,Bool.or_true]at hc;cases hc
     rw[if_pos (by omega)]at uL uH dL dH
     rw[YF8]at uL uH
     have hM:(max x.2 (-x.2)).toNat=(-x.2).toNat:=by omega
     rw[hM]
     have hMb:(-x.2).toNat<=1000000000:=by omega
     generalize(-x.2).toNat=M at*
     have fM:nl M<=2:=nl_le.2 (by omega)
     have f32:∀X,X<=64*2^p->nl X<=300/\nl (M*X)<=300:=fun X hX=>by
      have h3:M*X<=1000000000*(64*2^p):=YFt hMb hX
      have h4:=YF p
      have h5:1000000000*(64*2^p)<2^(p+41):=by rw[YFi,show(2:Nat)^41=2199023255552 from rfl];omega
      have h6:p+41<15*300:=by omega
      exact⟨Ykh (YFG (show X<=1000000000*(64*2^p)by omega) h5) h6,Ykh (YFG h3 h5) h6⟩
     obtain⟨fL,fML⟩:=f32 L lb
     obtain⟨fH,fMH⟩:=f32 H hb
     refine⟨by decide,M,L,⟨Ye (by omega),Ye (by omega),by omega,by omega⟩,dnS (lo p) (l.take i),M*L,⟨Ye (by omega),Ye (by omega),by omega,by omega⟩,by decide,by decide,by decide,by decide,M,H,⟨Ye (by omega),Ye (by omega),by omega,by omega⟩,dnS (Q.hi p) (l.take i),M*H,⟨Ye (by omega),Ye (by omega),by omega,by omega⟩,by decide,by decide,⟨i+1,y1,y2,false,false⟩,by simp only;omega,by simp only;omega,?_⟩
     simp only[uL,uH,dL,dH,ei,YFc L,YFc H]
     simp only[Ya]
     refine⟨by simp,fun k hk=>?_,fun k hk=>?_⟩
     ·match k,hk with
      |0,_=>exact YR _ ⟨trivial,trivial⟩
      |1,_=>exact YR _ ⟨trivial,trivial⟩
     ·match k,hk with
      |0,_=>exact YR _ ⟨trivial,trivial⟩
      |1,_=>exact YR _ ⟨trivial,trivial⟩
   ·obtain rfl:i=l.length:=by omega
    rw[YF4]at*
    exact⟨by decide,by decide,YE (show k _ []from h y1 y2 y3 y4) (YB _ ⟨⟨trivial,trivial,trivial⟩,⟨trivial,trivial,trivial⟩,trivial⟩) (fun _=>by simp [natS,Yt,Ys])⟩
 ·exact h.1.elim
def v73:VF:=⟨43,[.tmp 2],(ZR [Zi 2 0] (.seq (ZR [Zm 4 0,Zl 5 4,Zq 6 .gtr 5 16] (ZC 6 (ZR [Zi 2 3] .ret) .skip)) (.seq (ZR [Zi 3 0] (.block 0 (.loop (.seq (ZR [Zm 7 3,Zm 8 0,Zl 9 8,Zr 10 .lss 7 9] (ZC 10 .skip (.exit 0))) (.seq (.block 1 (ZR [Zm 13 0,Zm 14 3,Zx 15 2 13 14,Za 16 0 15,Zf 17 1 16,Zq 18 .lss 17 1,Zm 19 18,Zg 20 19 false 0,Zg 21 19 false 3,u2 22 19 false (.idxAddr 2) [.tm 20,.tm 21],Zj 23 19 false 0 22,Zh 24 19 false 1 23,u2 25 19 false (.cmp .gtr) [.tm 24,.cn (.int .i64 1000000000000)],u1 26 .or [.tm 19,.tm 25],Zm 27 26,Zg 28 27 false 0,Zg 29 27 false 3,u2 30 27 false (.idxAddr 2) [.tm 28,.tm 29],Zj 31 27 false 1 30,Zh 32 27 false 1 31,u2 33 27 false (.cmp .lss) [.tm 32,.cn (.int .i64 (-1000000000))],u1 34 .or [.tm 27,.tm 33],Zm 35 34,Zg 36 35 false 0,Zg 37 35 false 3,u2 38 35 false (.idxAddr 2) [.tm 36,.tm 37],Zj 39 35 false 1 38,Zh 40 35 false 1 39,u2 41 35 false (.cmp .gtr) [.tm 40,.cn (.int .i64 1000000000)],u1 42 .or [.tm 35,.tm 41]] (ZC 42 (ZR [Zi 2 2] .ret) .skip))) (.region [Zm 11 3,Zp 12 11 1,Zm 3 12])))))) (ZR [Zi 2 0] .ret))))⟩
theorem YEB:Yg YE8 Tryz.f73=some v73:=by kernel_rfl
def v103:VF:=⟨23,[.tmp 2],(ZR [Zi 2 0] (.seq (ZR [Zm 7 0,Zc 8 131 7] (ZC 8 (ZR [Zi 2 0] .ret) .skip)) (ZR [Zi 3 30] (.block 0 (.loop (.seq (.block 1 (ZR [Zm 12 0,Zm 13 3,Zd 14 75 12 13,Zm 11 14,Ze 15 0 11,Ze 16 1 11,u1 4 (.allocArr 2 1 [.nil,.nil]) [],u1 5 (.allocArr 2 1 [.nil,.nil]) [],Zs 2 4 15,Zs 2 5 16] (ZR [Zt 17 2 4,Zt 18 2 5,Zd 19 76 17 18,Zm 6 19] (ZR [Zm 20 6,Zq 21 .neq 20 0] (ZC 21 (ZR [Zm 22 6,Zm 2 22] .ret) .skip))))) (.region [Zm 9 3,u1 10 (.ari .mul) [.cn (.int .i64 2),.tm 9],Zm 3 10])))))))⟩
theorem Yzm:Yg YE8 Tryz.f103=some v103:=by kernel_rfl
def v74:VF:=⟨17,[.tmp 6],(ZR [Zi 6 0] (ZR [u1 7 (.buildSlice 2 0 [(.int .i64 0),(.int .i64 0)] []) [],Zm 8 0,u1 9 (.append 2 16 [(.int .i64 0),(.int .i64 0)]) [.tm 7,.tm 8],Zm 10 1,Zm 11 2,u1 12 .neg [.tm 11],u1 13 (.build [(.int .i64 0),(.int .i64 0)] [(0,1),(1,1)]) [.tm 10,.tm 12],u1 14 (.buildSlice 2 1 [(.int .i64 0),(.int .i64 0)] [(0,2)]) [.tm 13],u1 15 (.append 2 16 [(.int .i64 0),(.int .i64 0)]) [.tm 9,.tm 14],Zc 16 103 15,Zm 6 16] .ret))⟩
theorem YEC:Yg YE8 Tryz.f74=some v74:=by kernel_rfl
def sgn(l:List (Int×Int)):Int:=if dnP l<upP l then 1 else if upP l<dnP l then -1 else 0
def signC:Ctr:={ alias:=false,of:=fun l=>match l with
 | [.vs _ _ n sz get]=> .ex (List (Int×Int)) fun l=> .pre (lsP 2 enc2 n sz get l/\(∀x,x∈l->okT x)/\n<=20/\Dec l) (.fin (.int .i64 (sgn l)) [])
 |_=> .pre False (.fin (.int .i64 0) [])}
def Q8:Env:={ ct:=fun _=>none,fn:=fun _=>none,meth:=fun _ _=>none}
theorem Q8_ok:Yu YE8 Q8:=by
 refine⟨fun f c h=>?_,fun f vf h=>?_,(fun _ _ _ h=>by cases h),by kernel_rfl,(fun _ h=>by cases h)⟩
 ·cases h
 ·cases h
theorem Yeq:chkTC.ok YE8 73:=by
 refine Yb Tryz.func73 YEB Q8_ok 500 chkTC fun args k h=>?_
 simp only[chkTC]at h
 split at h
 ·rename_i tt z n sz get
  obtain⟨l,⟨⟨rfl,rfl,hg⟩,hn⟩,h⟩:=h
  refine⟨[.vs tt z l.length 2 (fun k=>enc2 (l.getD k default))],⟨⟨id,rfl,rfl,rfl,hg⟩,trivial⟩,?_⟩
  (try dsimp only[v73,enc2,go_sem,reduceIte])
  (try simp only[Yd,YE5,YE3,reduceCtorEq,YE2])
  refine⟨fun hc=>?_,fun hc=>?_⟩
  ·rw[YhZ,if_pos (by omega)]at h;exact Yh h
  ·rw[YhZ,if_neg (by omega)]at h
   refine Loop.keep [0] Nat (fun i=>[(3,.int .i64 i)]) (fun _=>[]) [] (fun i=>i<=l.length/\(l.take i).any okT0=false) (fun i=>l.length-i) ?_ ?_
   ·refine⟨0,⟨by omega,rfl⟩,?_⟩
    (try dsimp only[go_sem,reduceIte])
    simp only[Ya]
    rfl
   ·rintro i ⟨hi,hall⟩
    (try dsimp only[enc2,YE4,go_sem,reduceIte])
    (try simp only[Yd,YE5,YE3,reduceCtorEq,YE2])
    refine⟨fun hlt=>⟨⟨by omega,by omega⟩,fun _=>⟨by omega,by omega⟩,fun _=>⟨by omega,by omega⟩,fun _=>⟨by omega,by omega⟩,fun hc=>?_,fun hc=>⟨i+1,⟨by omega,?_⟩,by omega,?_⟩⟩,fun hge=>?_⟩
    ·have:l.any okT0=true:=List.any_eq_true.2 ⟨_,Yl (by omega:i<l.length),hc⟩
     rw[if_pos this]at h
     exact Yh h
    ·rw[Yeo (by omega),hall,Bool.false_or];exact hc
    ·rw[YE7 ((i:Int)+1) (by omega)]
     simp only[Ya]
     simp
    ·obtain rfl:i=l.length:=by omega
     rw[YF4]at hall
     rw[if_neg (by rw[hall];decide)]at h
     exact Yh h
 ·exact h.1.elim
def Q9:Env:={ ct:=fun n=>match n with|131=>some oneC|75=>some sumsC|76=>some orderC|_=>none,fn:=fun _=>none,meth:=fun _ _=>none}
theorem Ysr:Q9.ct 131=some oneC:=rfl
theorem YvZ:Q9.ct 75=some sumsC:=rfl
theorem Yv0:Q9.ct 76=some orderC:=rfl
theorem Q9_ok:Yu YE8 Q9:=by
 refine⟨fun f c h=>?_,fun f vf h=>?_,(fun _ _ _ h=>by cases h),by kernel_rfl,(fun _ h=>by cases h)⟩
 ·simp only[Q9]at h
  split at h
  ·cases h;exact⟨YCB,Tryz.f131,Tryz.func131,by kernel_rfl,by kernel_rfl⟩
  ·cases h;exact⟨YrZ,Tryz.f75,Tryz.func75,by kernel_rfl,by kernel_rfl⟩
  ·cases h;exact⟨YbG,Tryz.f76,Tryz.func76,by kernel_rfl,by kernel_rfl⟩
  ·cases h
 ·cases h
theorem Yy2:signC.ok YE8 103:=by
 refine Yb Tryz.func103 Yzm Q9_ok 500 signC fun args k h=>?_
 simp only[signC]at h
 split at h
 ·rename_i tt z n sz get
  obtain⟨l,⟨⟨rfl,rfl,hg⟩,hl,hn,hdec⟩,h⟩:=h
  refine⟨[.vs tt z l.length 2 (fun k=>enc2 (l.getD k default))],⟨⟨id,rfl,rfl,rfl,hg⟩,trivial⟩,?_⟩
  (try dsimp only[v103,Ysr,oneC,enc2,go_sem,reduceIte])
  (try simp only[Yd,YE5,YE3,reduceCtorEq,YE2])
  have hself:lsP 2 enc2 l.length 2 (fun k=>[SV.int IntKind.i64 (l.getD k default).fst,SV.int IntKind.i64 (l.getD k default).snd]) l:=⟨rfl,rfl,fun k _=>Yc _⟩
  refine⟨l,⟨hself,hl,hn⟩,fun hc=>?_,fun hc=>?_⟩
  ·rw[sgn,if_neg (by omega),if_neg (by omega)]at h
   exact Yh h
  ·refine Loop.keep [0] Nat (fun j=>[(3,.int .i64 ((30*2^j:Nat):Int))]) (fun _=>[]) [] (fun j=>j<=7) (fun j=>7-j) ?_ ?_
   ·refine⟨0,by omega,?_⟩
    (try dsimp only[go_sem,reduceIte])
    simp only[Ya]
    rfl
   ·rintro j hj
    have hm:30*2^j<=3840:=by
     have:2^j<=2^7:=YFq (by decide) hj
     omega
    have hm15:30*2^j%15=0:=by omega
    have hm7:j=7->30*2^j=3840:=fun hh=>by rw[hh]
    have hms:30*2^(j+1)=2*(30*2^j):=by rw[YFm];omega
    (try dsimp only[YvZ,Yv0,sumsC,orderC,natS,enc2,YE4,Int.toNat_zero,Int.toNat_one,Nat.reduceMul,go_sem,reduceIte])
    (try simp only[Yd,YE5,YE3,reduceCtorEq,YE2])
    obtain⟨m,hme⟩:∃m,m=30*2^j:=⟨_,rfl⟩
    rw[<-hme]at hm hm15 hm7 hms⊢
    have b1:=S_nl (p:=m) (g:=lo m) (fun n h1 h2=>lo_b h1 h2) hl hn hm
    have b2:=S_nl (p:=m) (g:=hi m) (fun n h1 h2=>hi_b h1 h2) hl hn hm
    obtain⟨o1,o2,o3,o4⟩:=Yhn (p:=m) hl
    refine⟨l,m,⟨hself,hl,hn,rfl,hm,hm15⟩,fun y1 y2 y3 y4=>⟨by decide,by decide,by decide,by decide,upS (lo m) l,upS (hi m) l,dnS (lo m) l,dnS (hi m) l,⟨⟨Ye (by omega),rfl⟩,⟨Ye (by omega),rfl⟩,⟨Ye (by omega),rfl⟩,⟨Ye (by omega),rfl⟩⟩,fun hd=>?_,fun hd=>?_⟩⟩
    ·have hd:¬ordR l m=0:=hd
     have hs:sgn l=ordR l m:=by
      rcases o4 with e|e|e
      ·rw[e,sgn,if_pos (o1 e)]
      ·have:=o2 e
       rw[e,sgn,if_neg (by omega),if_pos this]
      ·exact absurd e hd
     rw[hs]at h
     exact Yh h
    ·have hd:ordR l m=0:=hd
     have hj7:j≠7:=fun hh=>by
      have hu:=o3 hd
      rw[hm7 hh]at hu
      rcases hdec with e|e
      ·exact hc e
      ·exact e (Yn8 hl (by decide) hu)
     refine⟨j+1,by omega,by omega,?_⟩
     rw[hms,YE7 (2*(m:Int)) (by omega)]
     simp only[Ya]
     omega
 ·exact h.1.elim
def belowC:Ctr:={ alias:=false,of:=fun l=>match l with
 | [.vs _ _ n sz get,.int .i64 kk,.int .i64 den]=> .ex (List (Int×Int)) fun l=> .pre (lsP 2 enc2 n sz get l/\(∀x,x∈l->okT x)/\n<=18/\(1<=kk/\kk<=1000000000001)/\(1<=den/\den<=1000000)/\Dec (atF l den kk)) (.fin (.int .i64 (sgn (atF l den kk))) [])
 |_=> .pre False (.fin (.int .i64 0) [])}
theorem YA0{l:List (Int×Int)}{den kk:Int}{hp:List HO}{r:List SV->List SV}{i:Nat}:
 lsP 2 enc2 (l.length+1) 2 (fun k=>Ybh false hp r (if k<l.length then Yj i [SV.int IntKind.i64 (l.getD k default).fst,SV.int IntKind.i64 (l.getD k default).snd]else Yj i (YI 2 (YD ((k-l.length)*2) [SV.int IntKind.i64 kk,SV.int IntKind.i64 (-den)])))) (atF l den kk):=by
 refine⟨rfl,by simp [atF],fun k hk=>?_⟩
 unfold atF
 dsimp only
 by_cases h1:k<l.length
 ·rw[if_pos h1,YFf (l:=_++_),YFK h1,<-YFf]
  exact Yc _
 ·rw[if_neg h1,show k-l.length=0 by omega,YFf (l:=_++_),YFX (by omega),show k-l.length=0 by omega]
  exact Yc _
def Q10:Env:={ ct:=fun n=>match n with|103=>some signC|_=>none,fn:=fun _=>none,meth:=fun _ _=>none}
theorem Yoj:Q10.ct 103=some signC:=rfl
theorem YAr:Yu YE8 Q10:=by
 refine⟨fun f c h=>?_,fun f vf h=>?_,(fun _ _ _ h=>by cases h),by kernel_rfl,(fun _ h=>by cases h)⟩
 ·simp only[Q10]at h
  split at h
  ·cases h;exact⟨Yy2,Tryz.f103,Tryz.func103,by kernel_rfl,by kernel_rfl⟩
  ·cases h
 ·cases h
theorem Ytc:belowC.ok YE8 74:=by
 refine Yb Tryz.func74 YEC YAr 500 belowC fun args k h=>?_
 simp only[belowC]at h
 split at h
 ·rename_i tt z n sz get kk den
  obtain⟨l,⟨⟨rfl,rfl,hg⟩,hl,hn,hk,hden,hdec⟩,h⟩:=h
  refine⟨[.vs tt z l.length 2 (fun k=>enc2 (l.getD k default)),.int .i64 kk,.int .i64 den],⟨⟨id,rfl,rfl,rfl,hg⟩,⟨rfl,rfl⟩,⟨rfl,rfl⟩,trivial⟩,?_⟩
  (try dsimp only[v74,Yoj,signC,enc2,go_sem,reduceIte])
  (try simp only[Yd,YE5,YE3,reduceCtorEq,YE2])
  have hnd:IntKind.i64.wrap (0-den)= -den:=by rw[YE7 _ (by omega)];omega
  rw[hnd]
  simp only[YGh,YGe,if_false,Nat.sub_zero]
  refine⟨by decide,by unfold YN;omega,by decide,⟨by unfold YN;omega,fun k hk=>?_⟩,atF l den kk,⟨YA0,?_,by omega,hdec⟩,Yh h⟩
  ·obtain rfl:k=0:=by omega
   exact⟨rfl,trivial,trivial,trivial⟩
  ·intro x hx
   unfold atF at hx
   rw[YFM,YFO]at hx
   rcases hx with hx|rfl
   ·exact hl x hx
   ·simp only[okT];omega
 ·exact h.1.elim
def v45:VF:=⟨105,[.tmp 6,.tmp 7,.tmp 8],(ZR [Zi 6 0,u1 7 .mov [.cn (.bool false)],Zi 8 0] (ZR [Zm 19 1,Zc 20 73 19,Zm 9 20] (.seq (ZR [Zm 21 9,Zq 22 .neq 21 0] (ZC 22 (ZR [Zm 23 9,Zi 6 0,u1 7 .mov [.cn (.bool false)],Zm 8 23] .ret) .skip)) (.seq (ZR [Zm 24 2,Zq 25 .lss 24 1,Zm 26 25,Zg 27 26 false 2,u2 28 26 false (.cmp .gtr) [.tm 27,.cn (.int .i64 1000000)],u1 29 .or [.tm 26,.tm 28],Zm 30 29,Zg 31 30 false 0,u2 32 30 false (.cmp .lss) [.tm 31,.cn (.int .i64 1)],u1 33 .or [.tm 30,.tm 32],Zm 34 33,Zg 35 34 false 0,u2 36 34 false (.cmp .gtr) [.tm 35,.cn (.int .i64 1000000000000)],u1 37 .or [.tm 34,.tm 36]] (ZC 37 (ZR [Zi 6 0,u1 7 .mov [.cn (.bool false)],Zi 8 2] .ret) .skip)) (ZR [u1 38 (.buildSlice 2 0 [(.int .i64 0),(.int .i64 0)] []) [],Zm 39 1,u1 40 (.append 2 16 [(.int .i64 0),(.int .i64 0)]) [.tm 38,.tm 39],Zm 41 0,Zm 42 2,u1 43 (.build [(.int .i64 0),(.int .i64 0)] [(0,1),(1,1)]) [.tm 41,.tm 42],u1 44 (.buildSlice 2 1 [(.int .i64 0),(.int .i64 0)] [(0,2)]) [.tm 43],u1 45 (.append 2 16 [(.int .i64 0),(.int .i64 0)]) [.tm 40,.tm 44],Zm 10 45] (.seq (ZR [Zm 46 10,Zm 47 2,u1 48 (.call 74) [.tm 46,.cn (.int .i64 1000000000001),.tm 47],Zq 49 .geq 48 0] (ZC 49 (ZR [Zi 6 0,u1 7 .mov [.cn (.bool false)],Zi 8 7] .ret) .skip)) (ZR [Zm 51 10,u1 52 (.call 75) [.tm 51,.cn (.int .i64 30)],Zm 50 52,Ze 53 0 50,Ze 54 1 50,u1 11 (.allocArr 2 1 [.nil,.nil]) [],u1 12 (.allocArr 2 1 [.nil,.nil]) [],Zs 2 11 53,Zs 2 12 54] (ZR [Zi 13 0,Zi 14 1000000000001] (.seq (.block 0 (.loop (.seq (ZR [Zm 55 14,Zm 56 13,Zo 57 .sub 55 56,Zq 58 .gtr 57 1] (ZC 58 .skip (.exit 0))) (.block 1 (ZR [Zm 59 13,Zm 60 14,Zo 61 .add 59 60,u1 62 .quo [.tm 61,.cn (.int .i64 2)],Zm 15 62] (ZR [Zm 64 15,Zm 65 2,u1 66 .neg [.tm 65],u1 67 (.build [(.int .i64 0),(.int .i64 0)] [(0,1),(1,1)]) [.tm 64,.tm 66],u1 68 (.buildSlice 2 1 [(.int .i64 0),(.int .i64 0)] [(0,2)]) [.tm 67],u1 69 (.call 75) [.tm 68,.cn (.int .i64 30)],Zm 63 69,Ze 70 0 63,Ze 71 1 63,u1 16 (.allocArr 2 1 [.nil,.nil]) [],u1 17 (.allocArr 2 1 [.nil,.nil]) [],Zs 2 16 70,Zs 2 17 71] (.seq (.draw [] [Zw 72 2 11,w1 73 (.idxArr 2 1) [.tm 12,.cn (.int .i64 0)],Zv 74 1 73,w1 75 (.idxArr 2 1) [.tm 17,.cn (.int .i64 0)],Zv 76 1 75,w1 78 (.idxArr 2 1) [.tm 12,.cn (.int .i64 1)],Zv 79 1 78,w1 80 (.idxArr 2 1) [.tm 17,.cn (.int .i64 1)],Zv 81 1 80,Zz 77 77 74 76,Zz 82 77 79 81,w1 83 (.build [.nil,.nil] [(0,1),(1,1)]) [.tm 77,.tm 82],Zz 84 76 72 83,Zu 18 84]) (.seq (ZR [Zm 85 18,Zq 86 .eql 85 0] (ZC 86 (.region [Zm 87 10,Zm 88 15,Zm 89 2,u1 90 (.call 74) [.tm 87,.tm 88,.tm 89],Zm 18 90]) .skip)) (ZR [Zm 91 18,Zq 92 .geq 91 0] (ZC 92 (.region [Zm 93 15,Zm 13 93]) (.region [Zm 94 15,Zm 14 94]))))))))))) (ZR [Zm 95 13,Zm 96 13,Zq 97 .gtr 96 0,Zm 98 97,Zg 99 98 true 10,Zg 100 98 true 13,Zg 101 98 true 2,u2 102 98 true (.call 74) [.tm 99,.tm 100,.tm 101],u2 103 98 true (.cmp .eql) [.tm 102,.cn (.int .i64 0)],u1 104 .and [.tm 98,.tm 103],Zm 6 95,Zm 7 104,Zi 8 0] .ret))))))))))⟩
theorem YEh:Yg YE8 Tryz.f45=some v45:=by kernel_rfl
def tstR(all:List (Int×Int))(den:Int)(k:Nat):Bool:=decide (dnP (atF all den k)<=upP (atF all den k))
def powR(all:List (Int×Int))(den:Int):Nat:=bisN (tstR all den) 41 0 1000000000001
def rPowerC:Ctr:={ alias:=false,of:=fun l=>match l with
 | [.int .i64 s,.vs _ _ n sz get,.int .i64 den]=> .ex (List (Int×Int)) fun l=> .pre (lsP 2 enc2 n sz get l/\(∀x,x∈l->okT0 x=false)/\n<=16/\1<=n/\(1<=s/\s<=1000000000000)/\(1<=den/\den<=1000000)/\
     (Dec (atF (l++[(s,den)]) den 1000000000001)/\tstR (l++[(s,den)]) den 1000000000001=false)/\PthG (fun k=>Dec (atF (l++[(s,den)]) den k)) (tstR (l++[(s,den)]) den) 41 0 1000000000001) (.fin (.tup [.int .i64 (powR (l++[(s,den)]) den),.bool (decide (0<powR (l++[(s,den)]) den)&&decide (upP (atF (l++[(s,den)]) den (powR (l++[(s,den)]) den))=dnP (atF (l++[(s,den)]) den (powR (l++[(s,den)]) den)))),.int .i64 0]) [])
 |_=>noC}
def Q11:Env:={ ct:=fun n=>match n with|73=>some chkTC|74=>some belowC|75=>some sumsC|76=>some orderC|77=>some addC|_=>none,fn:=fun _=>none,meth:=fun _ _=>none}
theorem Ysi:Q11.ct 73=some chkTC:=rfl
theorem YlO:Q11.ct 74=some belowC:=rfl
theorem YlP:Q11.ct 75=some sumsC:=rfl
theorem Ysj:Q11.ct 76=some orderC:=rfl
theorem Ysk:Q11.ct 77=some addC:=rfl
theorem YAs:Yu YE8 Q11:=by
 refine⟨fun f c h=>?_,fun f vf h=>?_,(fun _ _ _ h=>by cases h),by kernel_rfl,(fun _ h=>by cases h)⟩
 ·simp only[Q11]at h
  split at h
  ·cases h;exact⟨Yeq,Tryz.f73,Tryz.func73,by kernel_rfl,by kernel_rfl⟩
  ·cases h;exact⟨Ytc,Tryz.f74,Tryz.func74,by kernel_rfl,by kernel_rfl⟩
  ·cases h;exact⟨YrZ,Tryz.f75,Tryz.func75,by kernel_rfl,by kernel_rfl⟩
  ·cases h;exact⟨YbG,Tryz.f76,Tryz.func76,by kernel_rfl,by kernel_rfl⟩
  ·cases h;exact⟨YgX,Tryz.f77,Tryz.func77,by kernel_rfl,by kernel_rfl⟩
  ·cases h
 ·cases h
theorem YuM{l:List (Int×Int)}{s den:Int}{hp:List HO}{r:List SV->List SV}{i:Nat}:
 lsP 2 enc2 (l.length+1) 2 (fun k=>Ybh false hp r (if k<l.length then Yj i [SV.int IntKind.i64 (l.getD k default).fst,SV.int IntKind.i64 (l.getD k default).snd]else Yj i (YI 2 (YD ((k-l.length)*2) [SV.int IntKind.i64 s,SV.int IntKind.i64 den])))) (l++[(s,den)]):=by
 refine⟨rfl,by simp,fun k hk=>?_⟩
 dsimp only
 by_cases h1:k<l.length
 ·rw[if_pos h1,YFf (l:=_++_),YFK h1,<-YFf]
  exact Yc _
 ·rw[if_neg h1,show k-l.length=0 by omega,YFf (l:=_++_),YFX (by omega),show k-l.length=0 by omega]
  exact Yc _
theorem Yyi{m:Nat}{den:Int}{hp:List HO}{r:List SV->List SV}:
 lsP 2 enc2 1 2 (fun k=>Ybh false hp r (YI 2 (YD (k*2) [SV.int .i64 ((m:Nat):Int),SV.int .i64 (-den)]))) [((m:Int), -den)]:=by
 refine⟨rfl,rfl,fun k hk=>?_⟩
 obtain rfl:k=0:=by omega
 exact Yc _
theorem Ykz{l:List (Int×Int)}{s den:Int}{i k a b:Nat}(hk:k<l.length+1):leL a b (if k<l.length then [SV.int IntKind.i64 (l.getD k default).fst,SV.int IntKind.i64 (l.getD k default).snd]else Yj i (YI 2 (YD ((k-l.length)*2) [SV.int IntKind.i64 s,SV.int IntKind.i64 den]))) (if k<l.length then [SV.int IntKind.i64 (l.getD k default).fst,SV.int IntKind.i64 (l.getD k default).snd]else Yj i (YI 2 (YD ((k-l.length)*2) [SV.int IntKind.i64 s,SV.int IntKind.i64 den]))):=YrI hk
theorem YkA{s den:Int}{i k a b:Nat}(hk:k<1):leL a b (Yj i (YI 2 (YD (k*2) [SV.int IntKind.i64 s,SV.int IntKind.i64 den]))) (Yj i (YI 2 (YD (k*2) [SV.int IntKind.i64 s,SV.int IntKind.i64 den]))):=Yuk hk
theorem Ypa{l:List (Int×Int)}{s den:Int}{hp:List HO}{r:List SV->List SV}{i:Nat}:
 lsP 2 enc2 (l.length+1) 2 (fun k=>Ybh false hp r (if k<l.length then [SV.int IntKind.i64 (l.getD k default).fst,SV.int IntKind.i64 (l.getD k default).snd]else Yj i (YI 2 (YD ((k-l.length)*2) [SV.int IntKind.i64 s,SV.int IntKind.i64 den])))) (l++[(s,den)]):=by
 refine⟨rfl,by simp,fun k hk=>?_⟩
 dsimp only
 by_cases h1:k<l.length
 ·rw[if_pos h1,YFf (l:=_++_),YFK h1,<-YFf]
  exact Yc _
 ·rw[if_neg h1,show k-l.length=0 by omega,YFf (l:=_++_),YFX (by omega),show k-l.length=0 by omega]
  exact Yc _
theorem rPower_ok:rPowerC.ok YE8 45:=by
 refine Yb Tryz.func45 YEh YAs 800 rPowerC fun args k h=>?_
 simp only[rPowerC]at h
 split at h
 ·rename_i s tt z n sz get den
  obtain⟨l,⟨⟨rfl,rfl,hg⟩,hl,hn,hn1,hs,hd,htop,hpth⟩,h⟩:=h
  refine⟨[.int .i64 s,.vs tt z l.length 2 (fun k=>enc2 (l.getD k default)),.int .i64 den],⟨⟨rfl,rfl⟩,⟨id,rfl,rfl,rfl,hg⟩,⟨rfl,rfl⟩,trivial⟩,?_⟩
  (try dsimp only[v45,Ysi,YlO,YlP,chkTC,belowC,sumsC,natS,enc2,go_sem,reduceIte])
  (try simp only[Yd,YE5,YE3,reduceCtorEq,YE2])
  have hnd:IntKind.i64.wrap (0-den)= -den:=by rw[YE7 _ (by omega)];omega
  have hchk:YhZ l=0:=by
   have:l.any okT0=false:=by rw[List.any_eq_false];exact fun x hx=>by rw[hl x hx];decide
   rw[YhZ,if_neg (by omega),if_neg (by rw[this];decide)]
  refine⟨l,⟨⟨rfl,rfl,fun k _=>Yc _⟩,by omega⟩,fun hh=>absurd hchk hh,fun _=>⟨fun hh=>?_,fun _=>?_⟩⟩
  ·rw[decide_eq_false (by omega:¬den<1),decide_eq_false (by omega:¬1000000<den),decide_eq_false (by omega:¬s<1),decide_eq_false (by omega:¬1000000000000<s)]at hh
   cases hh
  ·simp only[YGh,YGe,if_false,Nat.sub_zero]
   obtain⟨all,hall⟩:∃all,all=l++[(s,den)]:=⟨_,rfl⟩
   have hok:∀x,x∈all->okT x:=by
    intro x hx
    rw[hall,YFM,YFO]at hx
    rcases hx with hx|rfl
    ·have:=hl x hx
     unfold okT0 at this
     simp only[Bool.or_eq_false_iff,decide_eq_false_iff_not]at this
     unfold okT
     omega
    ·simp only[okT];omega
   have hlen:all.length=l.length+1:=by rw[hall];simp
   rw[<-hall]at h htop hpth
   have hat:∀kk:Int,1<=kk->kk<=1000000000001->∀x,x∈atF all den kk->okT x:=by
    intro kk k1 k2 x hx
    unfold atF at hx
    rw[YFM,YFO]at hx
    rcases hx with hx|rfl
    ·exact hok x hx
    ·simp only[okT];omega
   have hsgn:∀kk:Nat,(0<=sgn (atF all den kk)↔tstR all den kk=true):=fun kk=>by
    unfold sgn tstR
    rw[decide_eq_true_eq]
    split
    ·constructor
     ·intro _;omega
     ·intro _;decide
    ·split
     ·constructor
      ·intro hh;exact absurd hh (by decide)
      ·intro _;omega
     ·constructor
      ·intro _;omega
      ·intro _;decide
   obtain⟨R,hR⟩:∃R,R=powR all den:=⟨_,rfl⟩
   rw[<-hR]at h
   have b1:=S_nl (p:=30) (g:=lo 30) (fun n h1 h2=>lo_b h1 h2) hok (by omega) (by decide)
   have b2:=S_nl (p:=30) (g:=hi 30) (fun n h1 h2=>hi_b h1 h2) hok (by omega) (by decide)
   refine⟨by decide,by unfold YN;omega,by decide,⟨by unfold YN;omega,fun k hk=>?_⟩,all,⟨hall▸YuM,hok,by omega,by decide,hd,htop.1⟩,fun hc=>?_,fun hc=>⟨all,30,⟨hall▸YuM,hok,by omega,rfl,by decide,by decide⟩,fun y1 y2 y3 y4=>⟨by decide,by decide,by decide,by decide,?_⟩⟩⟩
   ·obtain rfl:k=0:=by omega
    exact⟨rfl,trivial,trivial,trivial⟩
   ·have:=(hsgn 1000000000001).1 hc
    rw[htop.2]at this;cases this
   ·refine Loop.keep [2,7,0,0] (Nat×Nat×Nat) (fun s=>[(13,.int .i64 s.2.1),(14,.int .i64 s.2.2)]) (fun _=>[]) [] (fun s=>PthG (fun k=>Dec (atF all den k)) (tstR all den) s.1 s.2.1 s.2.2/\bisN (tstR all den) s.1 s.2.1 s.2.2=R/\s.2.1<s.2.2/\s.2.2<=1000000000001) (fun s=>s.1) ?_ ?_
    ·refine⟨(41,0,1000000000001),⟨hpth,hR.symm,by decide,by decide⟩,?_⟩
     (try dsimp only[go_sem,reduceIte])
     simp only[Ya]
     refine⟨by simp,fun k hk=>?_,fun k hk=>YkA hk⟩
     exact Ykz hk
    ·rintro⟨f,lo',hi'⟩ ⟨hp,hb,hlt,hle⟩
     dsimp only at hp hb hlt hle
     (try dsimp only[YlO,YlP,Ysj,Ysk,belowC,sumsC,orderC,addC,natS,enc2,YE4,Int.toNat_zero,Int.toNat_one,Nat.reduceMul,go_sem,reduceIte])
     (try simp only[Yd,YE5,YE3,reduceCtorEq,YE2])
     have ed:IntKind.i64.wrap ((hi':Int)-(lo':Int))=(hi':Int)-(lo':Int):=YE7 _ (by omega)
     have em:IntKind.i64.wrap ((IntKind.i64.wrap ((lo':Int)+(hi':Int))).tdiv 2)=(((lo'+hi')/2:Nat):Int):=by
      have e1:IntKind.i64.wrap ((lo':Int)+(hi':Int))=((lo'+hi':Nat):Int):=by rw[YE7 _ (by omega)];omega
      have e2:(((lo'+hi':Nat):Int)).tdiv 2=(((lo'+hi')/2:Nat):Int):=YGg (y:=2) rfl rfl
      rw[e1,e2,YE7 _ (by omega)]
     rw[ed,em,hnd]
     refine⟨fun hcd=>?_,fun hcd=>?_⟩
     ·obtain⟨g,rfl⟩:∃g,f=g+1:=by
       cases f with
       |zero=>have hp:hi'<=lo'+1:=hp;omega
       |succ g=>exact⟨g,rfl⟩
      rcases hp with hp| ⟨hP,hp⟩
      ·omega
      rw[bisN,if_neg (by omega)]at hb
      obtain⟨m,hm⟩:∃m,m=(lo'+hi')/2:=⟨_,rfl⟩
      rw[<-hm]at hP hp hb⊢
      have hmr:lo'<m/\m<hi':=by omega
      have hpok:∀x,x∈ [((m:Int), -den)]->okT x:=by
       intro x hx
       rw[YFO]at hx
       subst hx;simp only[okT];omega
      have c1:=S_nl (p:=30) (g:=lo 30) (fun n h1 h2=>lo_b h1 h2) hpok (Nat.le_add_left 1 19) (by decide)
      have c2:=S_nl (p:=30) (g:=hi 30) (fun n h1 h2=>hi_b h1 h2) hpok (Nat.le_add_left 1 19) (by decide)
      have hatm:=hat (m:Int) (by omega) (by omega)
      have hal:(atF all den (m:Int)).length<=20:=by unfold atF;rw[YF7,List.length_singleton];omega
      have d1:=S_nl (p:=30) (g:=lo 30) (fun n h1 h2=>lo_b h1 h2) hatm hal (by decide)
      have d2:=S_nl (p:=30) (g:=hi 30) (fun n h1 h2=>hi_b h1 h2) hatm hal (by decide)
      have eu:∀G:Nat->Nat,upS G (atF all den (m:Int))=upS G all:=fun G=>by
       unfold atF
       rw[(YoS G _ _).1,upS,upS]
       rw[if_pos (show(-den:Int)<0 by omega)]
       omega
      have edn:∀G:Nat->Nat,dnS G (atF all den (m:Int))=dnS G all+dnS G [((m:Int), -den)]:=fun G=>by
       unfold atF
       rw[(YoS G _ _).2]
      rw[edn]at d1 d2
      obtain⟨o1,o2,o3,o4⟩:=Yhn (p:=30) hatm
      have hord:ordR (atF all den (m:Int)) 30=(if dnS (hi 30) all+dnS (hi 30) [((m:Int), -den)] <upS (lo 30) all then 1 else if upS (hi 30) all<dnS (lo 30) all+dnS (lo 30) [((m:Int), -den)]then -1 else 0):=by
       unfold ordR
       rw[eu,eu,edn,edn]
      refine⟨by decide,by decide,[((m:Int), -den)],30,⟨Yyi,hpok,rfl,by decide,by decide⟩,fun w1 w2 w3 w4=>⟨by decide,by decide,by decide,by decide,by decide,by decide,by decide,by decide,by decide,by decide,by decide,by decide,dnS (lo 30) all,dnS (lo 30) [((m:Int), -den)],⟨Ye (by omega),Ye (by omega),by omega,by omega⟩,dnS (hi 30) all,dnS (hi 30) [((m:Int), -den)],⟨Ye (by omega),Ye (by omega),by omega,by omega⟩,upS (lo 30) all,upS (hi 30) all,dnS (lo 30) all+dnS (lo 30) [((m:Int), -den)],dnS (hi 30) all+dnS (hi 30) [((m:Int), -den)],⟨⟨Ye (by omega),rfl⟩,⟨Ye (by omega),rfl⟩,⟨Ye (by omega),rfl⟩,⟨Ye (by omega),rfl⟩⟩,?_⟩⟩
      rw[<-hord]
      have stT:tstR all den m=true->PthG (fun k=>Dec (atF all den (k:Int))) (tstR all den) g m hi'/\bisN (tstR all den) g m hi'=R:=fun hh=>by
       rw[if_pos hh]at hp hb;exact⟨hp,hb⟩
      have stF:tstR all den m=false->PthG (fun k=>Dec (atF all den (k:Int))) (tstR all den) g lo' m/\bisN (tstR all den) g lo' m=R:=fun hh=>by
       rw[if_neg (by rw[hh];decide)]at hp hb;exact⟨hp,hb⟩
      have hsm:=hsgn m
      have sF:¬0<=sgn (atF all den (m:Int))->tstR all den m=false:=fun hh=>by
       cases hq:tstR all den m with
       |false=>rfl
       |true=>exact absurd (hsm.2 hq) hh
      have oT:¬ordR (atF all den (m:Int)) 30=0->0<=ordR (atF all den (m:Int)) 30->tstR all den m=true:=fun h1 h2=>by
       have:ordR (atF all den (m:Int)) 30=1:=by omega
       exact decide_eq_true (YGa (o1 this))
      have oF:¬0<=ordR (atF all den (m:Int)) 30->tstR all den m=false:=fun h2=>by
       have:ordR (atF all den (m:Int)) 30= -1:=by omega
       have:=o2 this
       exact decide_eq_false (by omega)
      refine⟨fun e=>⟨all,⟨hall▸Ypa,hok,by omega,⟨by omega,by omega⟩,hd,hP⟩,fun e2=>?_,fun e2=>?_⟩,fun e=>⟨fun e2=>?_,fun e2=>?_⟩⟩
      ·obtain⟨u1,u2⟩:=stT (hsm.1 e2)
       refine⟨(g,m,hi'),⟨u1,u2,by simp only;omega,hle⟩,by simp only;omega,?_⟩
       simp only[Ya]
       exact⟨by simp,fun k hk=>Ykz hk,fun k hk=>YkA hk⟩
      ·obtain⟨u1,u2⟩:=stF (sF e2)
       refine⟨(g,lo',m),⟨u1,u2,by simp only;omega,by simp only;omega⟩,by simp only;omega,?_⟩
       simp only[Ya]
       exact⟨by simp,fun k hk=>Ykz hk,fun k hk=>YkA hk⟩
      ·obtain⟨u1,u2⟩:=stT (oT e e2)
       refine⟨(g,m,hi'),⟨u1,u2,by simp only;omega,hle⟩,by simp only;omega,?_⟩
       simp only[Ya]
       exact⟨by simp,fun k hk=>Ykz hk,fun k hk=>YkA hk⟩
      ·obtain⟨u1,u2⟩:=stF (oF e2)
       refine⟨(g,lo',m),⟨u1,u2,by simp only;omega,by simp only;omega⟩,by simp only;omega,?_⟩
       simp only[Ya]
       exact⟨by simp,fun k hk=>Ykz hk,fun k hk=>YkA hk⟩
     ·have hRl:R=lo':=by
       rw[<-hb]
       cases f with
       |zero=>rfl
       |succ g=>rw[bisN,if_pos (by omega)]
      subst hRl
      have hdR:0<R->Dec (atF all den (R:Int)):=fun hh=>by
       have:=(YdW 41 0 1000000000001 (by decide) hpth).1
       rw[show bisN (tstR all den) 41 0 1000000000001=R from hR.symm]at this
       rcases this with h0|h0
       ·omega
       ·exact h0.1
      refine⟨all,fun h0=>⟨hall▸Ypa,hok,by omega,⟨by omega,by omega⟩,hd,hdR (by omega)⟩,?_⟩
      have hz:decide (sgn (atF all den (R:Int))=0)=decide (upP (atF all den (R:Int))=dnP (atF all den (R:Int))):=by
       rw[decide_eq_decide]
       unfold sgn
       split
       ·constructor
        ·intro hh;exact absurd hh (by decide)
        ·intro _;omega
       ·split
        ·constructor
         ·intro hh;exact absurd hh (by decide)
         ·intro _;omega
        ·constructor
         ·intro _;omega
         ·intro _;rfl
      have hz2:decide ((0:Int)<(R:Int))=decide (0<R):=by rw[decide_eq_decide];omega
      rw[hz,hz2]
      exact Ymf h
 ·exact h.1.elim
end Go.Proofs.YtmiclogmkfobgaaGreat.Q
namespace Go.Proofs.YtmiclogmkfobgaaGreat
open Go Go.Vx
set_option maxRecDepth 100000
set_option maxHeartbeats 4000000
def v82:VF:=⟨58,[.tmp 2],(ZR [Zi 2 0] (.seq (ZR [Zi 3 0] (.block 0 (.loop (.seq (ZR [Zm 5 3,Zm 6 0,Zl 7 6,Zr 8 .lss 5 7] (ZC 8 .skip (.exit 0))) (.seq (.block 1 (ZR [Zm 11 0,Zm 12 3,Zx 13 2 11 12,Za 14 0 13,Zf 15 1 14,Zq 16 .lss 15 (-4611686018427387904),Zm 17 16,Zg 18 17 false 0,Zg 19 17 false 3,u2 20 17 false (.idxAddr 2) [.tm 18,.tm 19],Zj 21 17 false 0 20,Zh 22 17 false 1 21,u2 23 17 false (.cmp .gtr) [.tm 22,.cn (.int .i64 4611686018427387904)],u1 24 .or [.tm 17,.tm 23],Zm 25 24,Zg 26 25 false 0,Zg 27 25 false 3,u2 28 25 false (.idxAddr 2) [.tm 26,.tm 27],Zj 29 25 false 1 28,Zh 30 25 false 1 29,u2 31 25 false (.cmp .lss) [.tm 30,.cn (.int .i64 (-4611686018427387904))],u1 32 .or [.tm 25,.tm 31],Zm 33 32,Zg 34 33 false 0,Zg 35 33 false 3,u2 36 33 false (.idxAddr 2) [.tm 34,.tm 35],Zj 37 33 false 1 36,Zh 38 33 false 1 37,u2 39 33 false (.cmp .gtr) [.tm 38,.cn (.int .i64 4611686018427387904)],u1 40 .or [.tm 33,.tm 39]] (ZC 40 (ZR [Zi 2 7] .ret) .skip))) (.region [Zm 9 3,Zp 10 9 1,Zm 3 10])))))) (.seq (ZR [Zi 4 0] (.block 2 (.loop (.seq (ZR [Zm 41 4,Zm 42 0,Zl 43 42,Zr 44 .lss 41 43] (ZC 44 .skip (.exit 2))) (.seq (.block 3 (.seq (.draw [] [Zu 47 0,Zu 48 4,ZX 49 2 47 48,Zy 50 0 49,Zv 51 1 50,Zu 52 0,Zu 53 4,ZX 54 2 52 53,Zy 55 1 54,Zv 56 1 55,w1 57 (.cmp .gtr) [.tm 51,.tm 56]]) (ZC 57 (ZR [Zi 2 2] .ret) .skip))) (.region [Zm 45 4,Zp 46 45 1,Zm 4 46])))))) (ZR [Zi 2 0] .ret))))⟩
theorem YEK:Yg YE8 Tryz.f82=some v82:=by kernel_rfl
def v50:VF:=⟨6,[.tmp 2],(ZR [u1 1 .box [.tm 0],Zi 2 0] (ZR [Zt 3 2 1,u1 4 (.buildSlice 2 1 [(.int .i64 0),(.int .i64 0)] [(0,2)]) [.tm 3],Zc 5 82 4,Zm 2 5] .ret))⟩
theorem YEm:Yg YE8 Tryz.f50=some v50:=by kernel_rfl
theorem YCu{a b:Int}:(decide (a< -4611686018427387904) || decide (4611686018427387904<a) || decide (b< -4611686018427387904) || decide (4611686018427387904<b))= !(Ya4 a&&Ya4 b):=by
 rw[Bool.eq_iff_iff]
 simp only[Ya4,YF5,decide_eq_true_eq,YFI,YFZ,decide_eq_false_iff_not]
 omega
theorem YyN:ivlC.ok YE8 82:=by
 refine Yb Tryz.func82 YEK Yog 400 ivlC fun args k h=>?_
 simp only[ivlC]at h
 split at h
 ·rename_i tt z n sz get
  obtain⟨l,⟨⟨rfl,rfl,hg⟩,hmax⟩,h⟩:=h
  refine⟨[.vs tt z l.length 2 (fun k=>enc2 (l.getD k default))],by simpa [leL,le]using hg,?_⟩
  (try dsimp only[v82,enc2,go_sem,reduceIte])
  (try simp only[Yd,YE5,YE3,reduceCtorEq,YE2])
  refine Loop.keep [0,2] Nat (fun i=>[(3,.int .i64 i)]) (fun _=>[]) [] (fun i=>i<=l.length/\∀j,j<i->(Ya4 (l.getD j default).1&&Ya4 (l.getD j default).2)=true) (fun i=>l.length-i) ?_ ?_
  ·refine⟨0,⟨YGj _,fun j h=>by omega⟩,?_⟩
   (try dsimp only[go_sem,reduceIte])
   simp only[Ya]
   simp
  ·rintro i ⟨hi,ha⟩
   (try dsimp only[enc2,YE4,go_sem,reduceIte])
   (try simp only[Yd,YE5,YE3,reduceCtorEq,YE2])
   simp only[YCu]
   refine⟨fun hlt=>⟨⟨by omega,hlt⟩,fun _=>⟨by omega,hlt⟩,fun _=>⟨by omega,hlt⟩,fun _=>⟨by omega,hlt⟩,fun hb=>Yh ?_,fun hb=>?_⟩,fun hge=>?_⟩
   ·have e:=Yqo (l:=l) (i:=i) (by omega) (by rw[YFI]at hb;exact hb)
    rw[e]at h;exact h
   ·refine⟨i+1,⟨by omega,fun j hj=>?_⟩,by omega,?_⟩
    ·rcases YFu j i with h'|h'
     ·exact ha j h'
     ·obtain rfl:j=i:=by omega
      simpa using hb
    ·have hw:=Yes (i:=i) (n:=l.length) (by omega) (by omega)
     simp only[hw,Ya] <;> simp
   ·obtain rfl:i=l.length:=by omega
    refine Loop.keep [0,3] Nat (fun i=>[(4,.int .i64 i)]) (fun _=>[]) [] (fun i=>i<=l.length/\∀j,j<i->(l.getD j default).1<=(l.getD j default).2) (fun i=>l.length-i) ?_ ?_
    ·refine⟨0,⟨YGj _,fun j h=>by omega⟩,?_⟩
     (try dsimp only[go_sem,reduceIte])
     simp only[Ya]
     simp
    ·rintro i ⟨hi,hc⟩
     (try dsimp only[enc2,YE4,go_sem,reduceIte])
     (try simp only[Yd,YE5,YE3,reduceCtorEq,YE2])
     refine⟨fun hlt=>⟨⟨by omega,hlt⟩,⟨by omega,hlt⟩,fun hb=>Yh ?_,fun hb=>?_⟩,fun hge=>?_⟩
     ·have e:=YBX ha (i:=i) (by omega) (by omega)
      rw[e]at h;exact h
     ·refine⟨i+1,⟨by omega,fun j hj=>?_⟩,by omega,?_⟩
      ·rcases YFu j i with h'|h'
       ·exact hc j h'
       ·obtain rfl:j=i:=by omega
        omega
      ·have hw:=Yes (i:=i) (n:=l.length) (by omega) (by omega)
       simp only[hw,Ya] <;> simp
     ·obtain rfl:i=l.length:=by omega
      rw[YBW ha hc]at h
      exact Yh h
 ·exact h.1.elim
def Q0:Env:={ ct:=fun n=>match n with|82=>some ivlC|_=>none,fn:=fun _=>none,meth:=fun _ _=>none}
theorem YvW:Q0.ct 82=some ivlC:=rfl
theorem Ysh:Yu YE8 Q0:=by
 refine⟨fun f c h=>?_,fun f vf h=>?_,(fun _ _ _ h=>by cases h),by kernel_rfl,(fun _ h=>by cases h)⟩
 ·simp only[Q0]at h
  split at h
  ·cases h;exact⟨YyN,Tryz.f82,Tryz.func82,by kernel_rfl,by kernel_rfl⟩
  ·cases h
 ·cases h
theorem Ykv:iv1C.ok YE8 50:=by
 refine Yb Tryz.func50 YEm Ysh 100 iv1C fun args k h=>⟨args,?_⟩
 simp only[iv1C]at h
 split at h
 ·rename_i x y
  refine⟨by simp [leL,le],?_⟩
  (try dsimp only[v50,YvW,ivlC,go_sem,reduceIte])
  (try simp only[Yd,YE5,YE3,reduceCtorEq,YE2])
  refine⟨by decide,[(x,y)],⟨⟨rfl,rfl,fun k hk=>?_⟩,by simp⟩,Yh h⟩
  match k,hk with
  |0,_=>exact Yc _
 ·exact h.1.elim
theorem Ylk{a1 a2 x:Int}(y:Int)(h1:a1<=x)(h2:x<=a2):min (a1*y) (a2*y)<=x*y/\x*y<=max (a1*y) (a2*y):=by
 rcases Int.le_total 0 y with hy|hy
 ·have:=YFz h1 hy
  have:=YFz h2 hy
  omega
 ·have:=Int.mul_le_mul_of_nonpos_right h1 hy
  have:=Int.mul_le_mul_of_nonpos_right h2 hy
  omega
def lo4(a b c d:Int):Int:=min (min a b) (min c d)
def hi4(a b c d:Int):Int:=max (max a b) (max c d)
theorem Yx8{a1 a2 b1 b2 x y:Int}(h1:a1<=x)(h2:x<=a2)(h3:b1<=y)(h4:y<=b2):
 lo4 (a1*b1) (a1*b2) (a2*b1) (a2*b2)<=x*y/\x*y<=hi4 (a1*b1) (a1*b2) (a2*b1) (a2*b2):=by
 have e1:=Ylk y h1 h2
 have e2:=Ylk a1 h3 h4
 have e3:=Ylk a2 h3 h4
 rw[Int.mul_comm b1 a1,Int.mul_comm b2 a1,Int.mul_comm y a1]at e2
 rw[Int.mul_comm b1 a2,Int.mul_comm b2 a2,Int.mul_comm y a2]at e3
 unfold lo4 hi4
 omega
theorem YqU{a b M N:Int}(h1: -M<=a/\a<=M)(h2: -N<=b/\b<=N): -(M*N)<=a*b/\a*b<=M*N:=by
 have e:=Yx8 h1.1 h1.2 h2.1 h2.2
 simp only[lo4,hi4,Int.neg_mul,Int.mul_neg,Int.neg_neg]at e
 have:0<=M*N:=Int.mul_nonneg (by omega) (by omega)
 omega
theorem YrA{t:Int}(h: -4611686018427387904<=t/\t<=4611686018427387904):rndB t=(t,true):=by rw[rndB,if_pos h]
theorem Yuq{s t:Int}:YiW (s,true) (t,true)=((s,t),0):=rfl
theorem Yih{x y x' y':Int}(hy:0<y)(hy':0<y')(h:x*y'<=x'*y):x/y<=x'/y':=by
 rw[Int.le_ediv_iff_mul_le hy']
 have e:=Int.ediv_mul_le x (show y≠0 by omega)
 have e2:=YFz e (show 0<=y' by omega)
 refine Int.le_of_mul_le_mul_right ?_ hy
 have e3:x/y*y*y'=x/y*y'*y:=by rw[Int.mul_assoc,Int.mul_comm y,<-Int.mul_assoc]
 omega
def lowQ(a b:Iv):Int:=a.1/(if a.1<0 then b.1 else b.2)
def Yle(a b:Iv):Int:= -((-a.2)/(if a.2<0 then b.2 else b.1))
theorem Yx3{a b:Iv}:lowQ a b=a.1/b.1\/lowQ a b=a.1/b.2:=by
 unfold lowQ;split
 ·exact Or.inl rfl
 ·exact Or.inr rfl
theorem YtG{a b:Iv}:Yle a b= -((-a.2)/b.1)\/Yle a b= -((-a.2)/b.2):=by
 unfold Yle;split
 ·exact Or.inr rfl
 ·exact Or.inl rfl
theorem Yt7{x y M:Int}(hx: -M<=x/\x<=M)(hy:0<y): -M<=x/y/\x/y<=M:=by
 have h:=Int.mul_le_mul_of_nonneg_left (show 1<=y by omega) (show 0<=M by omega)
 have e1:=Yih (x:= -M) (y:=1) (x':=x) (y':=y) (by omega) hy (by rw[Int.neg_mul];omega)
 have e2:=Yih (x:=x) (y:=y) (x':=M) (y':=1) hy (by omega) (by omega)
 rw[Int.ediv_one]at e1 e2
 exact⟨e1,e2⟩
theorem YiJ{x y:Int}(hx: -2147483648<=x/\x<=2147483648)(hy:0<y): -2147483648<=x/y/\x/y<=2147483648:=by
 have e1:=Yih (x:= -2147483648) (y:=1) (x':=x) (y':=y) (by omega) hy (by omega)
 have e2:=Yih (x:=x) (y:=y) (x':=2147483648) (y':=1) hy (by omega) (by omega)
 rw[Int.ediv_one]at e1 e2
 exact⟨e1,e2⟩
theorem div_pos{a b:Iv}(ha: -2147483648<=a.1/\a.1<=a.2/\a.2<=2147483648)(hb:0<b.1)(hb':b.1<=b.2):YuU a b=((lowQ a b,Yle a b),0):=by
 have q1: -2147483648<=lowQ a b/\lowQ a b<=2147483648:=by
  rcases Yx3 (a:=a) (b:=b)with e|e <;> rw[e]
  ·exact YiJ (by omega) (by omega)
  ·exact YiJ (by omega) (by omega)
 have q2: -2147483648<=Yle a b/\Yle a b<=2147483648:=by
  rcases YtG (a:=a) (b:=b)with e|e <;> rw[e]
  ·have:=YiJ (x:= -a.2) (y:=b.1) (by omega) (by omega);omega
  ·have:=YiJ (x:= -a.2) (y:=b.2) (by omega) (by omega);omega
 have e1:rndF false a.1 (if a.1<0 then b.1 else b.2)=rndB (lowQ a b):=rfl
 have e2:rndF true a.2 (if a.2<0 then b.2 else b.1)=rndB (Yle a b):=rfl
 rw[YuU,e1,e2,YrA (by omega),YrA (by omega),Yuq]
def neg(a:Iv):Iv:=(-a.2, -a.1)
def v53:VF:=⟨16,[.cell 2 true 3],(ZR [u1 2 (.alloc [(.bool false),.nil,.nil]) []] (.seq (ZR [Zm 3 0,Zq 4 .lss 3 0] (ZC 4 (ZR [Zm 5 0,u1 6 .neg [.tm 5],u1 7 (.conv .u64) [.tm 6],Zc 8 86 7,u1 9 (.call 86) [.cn (.int .u64 1)],u1 10 (.build [(.bool false),.nil,.nil] [(0,1),(1,1),(2,1)]) [.cn (.bool true),.tm 8,.tm 9],Zs 3 2 10] .ret) .skip)) (ZR [Zm 11 0,u1 12 (.conv .u64) [.tm 11],Zc 13 86 12,u1 14 (.call 86) [.cn (.int .u64 1)],u1 15 (.build [(.bool false),.nil,.nil] [(1,1),(2,1)]) [.tm 13,.tm 14],Zs 3 2 15] .ret)))⟩
theorem YEp:Yg YE8 Tryz.f53=some v53:=by kernel_rfl
def v54:VF:=⟨16,[.cell 4 true 3],(ZR [u1 4 (.alloc [(.bool false),.nil,.nil]) []] (ZR [Zm 8 0,Zc 9 53 8,Zm 10 1,Zc 11 53 10,Zd 12 87 9 11,Zm 7 12,Ze 13 0 7,Ze 14 1 7,u1 5 (.alloc [(.bool false),.nil,.nil]) [],Zs 3 5 13,Zm 6 14] (ZR [Zt 15 3 5,Zs 3 4 15] .ret)))⟩
theorem YEq:Yg YE8 Tryz.f54=some v54:=by kernel_rfl
def v84:VF:=⟨32,[.tmp 2,.tmp 3],(ZR [u1 1 .box [.tm 0],Zi 2 0,u1 3 .mov [.cn (.bool false)]] (ZR [Zt 10 3 1,Zc 11 111 10,Zm 9 11,Ze 12 0 9,Ze 13 1 9,Ze 14 2 9,Zm 4 12,Zm 5 13,Zm 6 14] (ZR [Zm 16 5,Zc 17 112 16,Zm 15 17,Ze 18 0 15,Ze 19 1 15,Zm 7 18,Zm 8 19] (.seq (ZR [Zm 20 8,Zq 21 .neq 20 0,Zm 22 21,Zg 23 22 false 7,u2 24 22 false (.cmp .gtr) [.tm 23,.cn (.int .u64 4611686018427387904)],u1 25 .or [.tm 22,.tm 24]] (ZC 25 (ZR [Zi 2 0,u1 3 .mov [.cn (.bool false)]] .ret) .skip)) (.seq (ZR [Zm 26 4] (ZC 26 (ZR [Zm 27 7,u1 28 (.conv .i64) [.tm 27],u1 29 .neg [.tm 28],Zm 2 29,u1 3 .mov [.cn (.bool true)]] .ret) .skip)) (ZR [Zm 30 7,u1 31 (.conv .i64) [.tm 30],Zm 2 31,u1 3 .mov [.cn (.bool true)]] .ret))))))⟩
theorem YEM:Yg YE8 Tryz.f84=some v84:=by kernel_rfl
def v85:VF:=⟨27,[.tmp 2,.tmp 3],(ZR [u1 1 .box [.tm 0],Zi 2 0,u1 3 .mov [.cn (.bool false)]] (ZR [Za 7 0 1,Zf 8 1 7,u1 9 .not [.tm 8],Zm 10 9,Zj 11 10 true 1 1,Zh 12 10 true 1 11,u2 13 10 true .len [.tm 12],u2 14 10 true (.cmp .gtr) [.tm 13,.cn (.int .i64 0)],u1 15 .and [.tm 10,.tm 14],Za 16 1 1,Zf 17 1 16,Za 18 2 1,Zf 19 1 18,u1 20 (.build [(.bool false),.nil,.nil] [(0,1),(1,1),(2,1)]) [.tm 15,.tm 17,.tm 19],Zc 21 84 20,Zm 6 21,Ze 22 0 6,Ze 23 1 6,Zm 4 22,Zm 5 23] (ZR [Zm 24 4,u1 25 .neg [.tm 24],Zm 26 5,Zm 2 25,Zm 3 26] .ret)))⟩
theorem YEN:Yg YE8 Tryz.f85=some v85:=by kernel_rfl
def v51:VF:=⟨75,[.cell 2 true 2,.tmp 3],(ZR [Zn 2,Zi 3 0] (.seq (.draw [(4,.box [(.bool false),.nil,.nil]),(5,.box [(.bool false),.nil,.nil])] [Zu 13 0,w1 14 (.idxAddr 3) [.tm 13,.cn (.int .i64 0)],Zw 15 3 14,Zu 16 0,w1 17 (.idxAddr 3) [.tm 16,.cn (.int .i64 0)],Zw 18 3 17,⟨Zs 3 4 15,[.tm 17]⟩,ZS 3 5 18]) (.seq (ZR [Zi 6 1] (.block 0 (.loop (.seq (ZR [Zm 19 6,Zm 20 0,Zl 21 20,Zr 22 .lss 19 21] (ZC 22 .skip (.exit 0))) (.seq (.block 1 (.seq (.draw [] [Zu 26 0,Zu 27 6,ZX 28 3 26 27,Zw 29 3 28,Zw 30 3 4,Zz 31 83 29 30,Zu 25 31,ZE 32 0 25,ZE 33 1 25,Zu 7 32,Zu 8 33]) (.seq (ZR [Zm 34 7,Zq 35 .lss 34 0] (ZC 35 (.region [Zm 36 0,Zm 37 6,Zx 38 3 36 37,Zt 39 3 38,Zs 3 4 39]) .skip)) (.seq (.draw [] [Zu 41 0,Zu 42 6,ZX 43 3 41 42,Zw 44 3 43,Zw 45 3 5,Zz 46 83 44 45,Zu 40 46,ZE 47 0 40,ZE 48 1 40,Zu 7 47]) (ZR [Zm 49 7,Zq 50 .gtr 49 0] (ZC 50 (.region [Zm 51 0,Zm 52 6,Zx 53 3 51 52,Zt 54 3 53,Zs 3 5 54]) .skip)))))) (.region [Zm 23 6,Zp 24 23 1,Zm 6 24])))))) (ZR [Zt 56 3 4,Zc 57 84 56,Zm 55 57,Ze 58 0 55,Ze 59 1 55,Zm 9 58,Zm 10 59] (ZR [Zt 61 3 5,Zc 62 85 61,Zm 60 62,Ze 63 0 60,Ze 64 1 60,Zm 11 63,Zm 12 64] (.seq (ZR [Zm 65 10,u1 66 .not [.tm 65],Zm 67 66,Zg 68 67 false 12,u2 69 67 false .not [.tm 68],u1 70 .or [.tm 67,.tm 69]] (ZC 70 (ZR [u1 71 (.build [(.int .i64 0),(.int .i64 0)] []) [],Zs 2 2 71,Zi 3 7] .ret) .skip)) (ZR [Zm 72 9,Zm 73 11,u1 74 (.build [(.int .i64 0),(.int .i64 0)] [(0,1),(1,1)]) [.tm 72,.tm 73],Zs 2 2 74,Zi 3 0] .ret)))))))⟩
theorem YEn:Yg YE8 Tryz.f51=some v51:=by kernel_rfl
theorem YcH{p:Fr}(hd:0<p.2)(h1:p.1.natAbs<4294967296^8)(h2:p.2<4294967296^8):frOk p:=
 ⟨hd,YFa (nl_le.2 (YFG (YyV _ _) h1)) (by decide),YFa (nl_le.2 (YFG (YyO _ _) h2)) (by decide)⟩
theorem Yhd{n:Int}(h: -4611686018427387904<=n/\n<=4611686018427387904):frOk (n,1):=
 YcH (show 0<1 by decide) (by dsimp only;omega) (show 1<4294967296^8 by decide)
theorem YDB(n:Int):rnum n 1=n.natAbs:=by simp [rnum,fg]
theorem YDx(n:Int):rden n 1=1:=by simp [rden,fg]
theorem YBO(p:Fr)(hd:0<p.2):p.1/(p.2:Int)=nsg (decide (p.1<0)) (rnum p.1 p.2)/(rden p.1 p.2:Int):=by
 have h1:=n_eq p.1 p.2
 have h2:=d_eq p.1 p.2
 have hg:0<((fg p.1 p.2:Nat):Int):=by have:=YeU (n:=p.1) hd;omega
 conv=>lhs;rw[h1,h2]
 exact Int.mul_ediv_mul_of_pos_left _ _ hg
theorem YBN{p:Fr}(hd:0<p.2):(p.1/(p.2:Int)).natAbs<=rnum p.1 p.2:=by
 rw[YBO p hd]
 have hr:=YaO (n:=p.1) hd
 have:=Yt7 (x:=nsg (decide (p.1<0)) (rnum p.1 p.2)) (y:=(rden p.1 p.2:Int)) (M:=(rnum p.1 p.2:Int)) (by unfold nsg;split <;> omega) (by omega)
 omega
theorem YkY{k:SV->List HO->Prop}{al:Bool}{hp:List HO}{p:Fr}(h:k (.agg (encF true p)) []):YK al k (.agg (encF true p)) hp:=
 YE h (YB _ ⟨trivial,trivial,trivial,trivial⟩) (fun _=>by simp [encF,natV,Yt,Ys])
theorem YhL{k:SV->List HO->Prop}{al:Bool}{hp:List HO}{κ:IntKind}{x:Int}{b:Bool}(h:k (.tup [.int κ x,.bool b]) []):YK al k (.tup [.int κ x,.bool b]) hp:=
 YE h (YB _ ⟨trivial,trivial,trivial⟩) (fun _=>by simp [Yt,Ys])
def quoiC:Ctr:={ alias:=false,of:=fun l=>match l with
 | [.int .i64 n]=> .pre (-4611686018427387904<=n/\n<=4611686018427387904) (.fin (.agg (encF true (n,1))) [])
 |_=>noC}
def ofrC:Ctr:={ alias:=false,of:=fun l=>match l with
 | [.int .i64 n,.int .i64 d]=> .pre ((-4611686018427387904<=n/\n<=4611686018427387904)/\0<d/\d<=4611686018427387904) (.fin (.agg (encF true (n,d.toNat))) [])
 |_=>noC}
def floC(up:Bool):Ctr:={ alias:=false,of:=fun l=>match l with
 | [.agg [.bool neg,.vs _ z1 n1 s1 g1,.vs _ z2 n2 s2 g2]]=> .ex Fr fun p=> .pre (Yf8 p neg z1 n1 s1 g1 z2 n2 s2 g2) (.fin (.tup [.int .i64 (rndF up p.1 p.2).1,.bool (rndF up p.1 p.2).2]) [])
 |_=>noC}
def floorC:=floC false
def ceilC:=floC true
def S1:Env:={ ct:=fun n=>match n with|86=>some ofC|111=>some qfloorC|112=>some smallC|_=>none,fn:=fun _=>none,meth:=fun _ _=>none}
theorem Yv3:S1.ct 86=some ofC:=rfl
theorem YsU:S1.ct 111=some qfloorC:=rfl
theorem YsV:S1.ct 112=some smallC:=rfl
theorem YAI:Yu YE8 S1:=by
 refine⟨fun f c h=>?_,fun f vf h=>?_,(fun _ _ _ h=>by cases h),by kernel_rfl,(fun _ h=>by cases h)⟩
 ·simp only[S1]at h
  split at h
  ·cases h;exact⟨Yt1,Tryz.f86,Tryz.func86,by kernel_rfl,by kernel_rfl⟩
  ·cases h;exact⟨Yro,Tryz.f111,Tryz.func111,by kernel_rfl,by kernel_rfl⟩
  ·cases h;exact⟨Yup,Tryz.f112,Tryz.func112,by kernel_rfl,by kernel_rfl⟩
  ·cases h
 ·cases h
theorem Ylv:quoiC.ok YE8 53:=by
 refine Yb Tryz.func53 YEp YAI 200 quoiC fun args k h=>⟨args,?_⟩
 simp only[quoiC]at h
 split at h
 ·rename_i n
  obtain⟨hn,h⟩:=h
  refine⟨by simp [leL,le],?_⟩
  (try dsimp only[v53,Yv3,ofC,natS,go_sem,reduceIte])
  (try simp only[Yd,YE5,YE3,reduceCtorEq,YE2])
  have h:k (.agg (encF true (n,1))) []:=h
  have e:encF true (n,1)=[.bool (decide (n<0)),natV true false n.natAbs,natV true false 1]:=by unfold encF;rw[YDB,YDx]
  refine⟨fun h0=>?_,fun h0=>?_⟩
  ·have w1:IntKind.u64.wrap (IntKind.i64.wrap (0-n))= -n:=by rw[YE7 (0-n) (by omega),YFN _ (by omega)];omega
   have w2:(-n).toNat=n.natAbs:=by omega
   rw[w1,w2]
   refine⟨by omega,by decide,?_⟩
   have h2:=YkY (al:=quoiC.alias) (hp:=[HO.box (encF true (n,1))]) h
   rw[e,decide_eq_true h0]at h2;exact h2
  ·have w1:IntKind.u64.wrap n=n:=YFN _ (by omega)
   have w2:n.toNat=n.natAbs:=by omega
   rw[w1,w2]
   refine⟨by omega,by decide,?_⟩
   have h2:=YkY (al:=quoiC.alias) (hp:=[HO.box (encF true (n,1))]) h
   rw[e,decide_eq_false h0]at h2;exact h2
 ·exact h.1.elim
theorem Yu6:floorC.ok YE8 84:=by
 refine Yb Tryz.func84 YEM YAI 200 floorC fun args k h=>?_
 simp only[floorC,ceilC,floC]at h
 split at h
 ·rename_i neg t1 z1 n1 s1 g1 t2 z2 n2 s2 g2
  obtain⟨p,hp,h⟩:=h
  refine⟨[.agg (encF false p)],⟨Yii hp,trivial⟩,?_⟩
  have hok:=hp.1
  clear hp
  (try dsimp only[v84,YsU,YsV,qfloorC,smallC,natS,natV,encF,go_sem,reduceIte])
  (try simp only[Yd,YE5,YE3,reduceCtorEq,YE2])
  have hN:nl (p.1/(p.2:Int)).natAbs<=512:=YFa (Ybu (YBN hok.1)) hok.2.1
  have h:k (.tup [.int .i64 (rndB (p.1/(p.2:Int))).1,.bool (rndB (p.1/(p.2:Int))).2]) []:=h
  have s1:p.1<0->p.1/(p.2:Int)<0:=fun hn=>Int.ediv_neg_of_neg_of_pos hn (by have:=hok.1;omega)
  have s2:¬p.1<0->0<=p.1/(p.2:Int):=fun hn=>Int.ediv_nonneg (by omega) (by omega)
  refine⟨p,Yy hok,by decide,by decide,by decide,(p.1/(p.2:Int)).natAbs,⟨Ye (by omega),rfl,hN⟩,by decide,by decide,?_⟩
  clear hN
  generalize p.1/(p.2:Int)=q at*
  have key:(!decide ((if q.natAbs<18446744073709551616 then(0:Int)else 7)=0) || decide ((4611686018427387904:Int)<if q.natAbs<18446744073709551616 then(q.natAbs:Int)else 0))=decide (4611686018427387904<q.natAbs):=by
   by_cases hN:q.natAbs<18446744073709551616
   ·rw[if_pos hN,if_pos hN,Bool.eq_iff_iff];simp only[decide_true,Bool.not_true,Bool.false_or,decide_eq_true_eq];omega
   ·rw[if_neg hN,if_neg hN,Bool.eq_iff_iff];simp only[decide_eq_true_eq];simp;omega
  rw[key]
  refine⟨fun hb=>?_,fun hb=>⟨fun hn=>?_,fun hn=>?_⟩⟩
  ·rw[decide_eq_true_eq]at hb
   rw[rndB,if_neg (by omega)]at h
   exact YhL h
  ·rw[decide_eq_false_iff_not]at hb
   have:=s1 hn
   rw[rndB,if_pos (by omega)]at h
   have w:IntKind.i64.wrap (0-IntKind.i64.wrap (if q.natAbs<18446744073709551616 then(q.natAbs:Int)else 0))=q:=by
    rw[if_pos (by omega),YE7 ((q.natAbs:Int)) (by omega),YE7 _ (by omega)];omega
   rw[w];exact YhL h
  ·rw[decide_eq_false_iff_not]at hb
   have:=s2 hn
   rw[rndB,if_pos (by omega)]at h
   have w:IntKind.i64.wrap (if q.natAbs<18446744073709551616 then(q.natAbs:Int)else 0)=q:=by
    rw[if_pos (by omega),YE7 _ (by omega)];omega
   rw[w];exact YhL h
 ·exact h.1.elim
def loQ(x:Fr)(r:List Fr):Fr:=r.foldl (fun low y=>if cmpQ y.1 y.2 low.1 low.2<0 then y else low) x
def hiQ(x:Fr)(r:List Fr):Fr:=r.foldl (fun high y=>if 0<cmpQ y.1 y.2 high.1 high.2 then y else high) x
def YiV(x:Fr)(r:List Fr):Iv×Int:=YiW (rndF false (loQ x r).1 (loQ x r).2) (rndF true (hiQ x r).1 (hiQ x r).2)
def spanqC:Ctr:={ alias:=false,of:=fun l=>match l with
 | [.vs _ _ n sz get]=> .ex Fr fun x=> .ex (List Fr) fun r=> .pre (lsP 3 (encF false) n sz get (x::r)/\(x::r).length<=1000/\∀p∈x::r,frOk p) (.fin (.tup [.agg (enc2 (YiV x r).1),.int .i64 (YiV x r).2]) [])
 |_=>noC}
def S2:Env:={ ct:=fun n=>match n with|53=>some quoiC|87=>some qdivC|84=>some floorC|_=>none,fn:=fun _=>none,meth:=fun _ _=>none}
theorem Yv4:S2.ct 53=some quoiC:=rfl
theorem Yv6:S2.ct 87=some qdivC:=rfl
theorem Yv5:S2.ct 84=some floorC:=rfl
theorem YAJ:Yu YE8 S2:=by
 refine⟨fun f c h=>?_,fun f vf h=>?_,(fun _ _ _ h=>by cases h),by kernel_rfl,(fun _ h=>by cases h)⟩
 ·simp only[S2]at h
  split at h
  ·cases h;exact⟨Ylv,Tryz.f53,Tryz.func53,by kernel_rfl,by kernel_rfl⟩
  ·cases h;exact⟨Yys,Tryz.f87,Tryz.func87,by kernel_rfl,by kernel_rfl⟩
  ·cases h;exact⟨Yu6,Tryz.f84,Tryz.func84,by kernel_rfl,by kernel_rfl⟩
  ·cases h
 ·cases h
theorem YCw:ofrC.ok YE8 54:=by
 refine Yb Tryz.func54 YEq YAJ 200 ofrC fun args k h=>⟨args,?_⟩
 simp only[ofrC]at h
 split at h
 ·rename_i n d
  obtain⟨⟨hn,hd0,hd⟩,h⟩:=h
  refine⟨by simp [leL,le],?_⟩
  (try dsimp only[v54,Yv4,Yv6,quoiC,qdivC,natS,natV,encF,go_sem,reduceIte])
  (try simp only[Yd,YE5,YE3,reduceCtorEq,YE2])
  have h:k (.agg (encF true (n,d.toNat))) []:=h
  have e:divF (n,1) (d,1)=(n,d.toNat):=by
   have h1:¬d<0:=by omega
   have h2:d.natAbs=d.toNat:=by omega
   simp [divF,nsg,h1,h2]
  rw[<-e]at h
  refine⟨hn,by omega,(n,1),(d,1),⟨Yy (Yhd hn),Yy (Yhd (by omega)),by show¬d=0;omega,by rw[e];exact YcH (by dsimp only;omega) (by dsimp only;omega) (by dsimp only;omega)⟩,by decide,by decide,?_⟩
  exact YkY h
 ·exact h.1.elim
theorem Yui(t:Int):rndB (-t)=(-(rndB t).1,(rndB t).2):=by
 unfold rndB
 by_cases h: -4611686018427387904<=t/\t<=4611686018427387904
 ·rw[if_pos h,if_pos (by omega)]
 ·rw[if_neg h,if_neg (by omega)];rfl
theorem Yuh(t:Int): -4611686018427387904<=(rndB t).1/\(rndB t).1<=4611686018427387904:=by
 unfold rndB;split
 ·assumption
 ·simp
theorem YA7:ceilC.ok YE8 85:=by
 refine Yb Tryz.func85 YEN YAJ 200 ceilC fun args k h=>?_
 simp only[floorC,ceilC,floC]at h
 split at h
 ·rename_i neg t1 z1 n1 s1 g1 t2 z2 n2 s2 g2
  obtain⟨p,hp,h⟩:=h
  refine⟨[.agg (encF false p)],⟨Yii hp,trivial⟩,?_⟩
  have hok:=hp.1
  clear hp
  (try dsimp only[v85,Yv5,floorC,floC,natS,natV,encF,go_sem,reduceIte])
  (try simp only[Yd,YE5,YE3,reduceCtorEq,YE2])
  have t:=YlC hok.1
  have f:=Yy (Yzg hok)
  rw[t.1,t.2.1,<-t.2.2]at f
  have h:k (.tup [.int .i64 (rndB (-((-p.1)/(p.2:Int)))).1,.bool (rndB (-((-p.1)/(p.2:Int)))).2]) []:=h
  rw[Yui]at h
  refine⟨YgF p,f,by decide,by decide,?_⟩
  have e:rndF false (YgF p).1 ((YgF p).2:Int)=rndB ((-p.1)/(p.2:Int)):=rfl
  rw[e]
  have b:=Yuh ((-p.1)/(p.2:Int))
  rw[YE7 _ (by omega),Int.zero_sub]
  exact YhL h
 ·exact h.1.elim
def S3:Env:={ ct:=fun n=>match n with|83=>some qcmpC|84=>some floorC|85=>some ceilC|_=>none,fn:=fun _=>none,meth:=fun _ _=>none}
theorem Yv7:S3.ct 83=some qcmpC:=rfl
theorem Yv8:S3.ct 84=some floorC:=rfl
theorem Yv9:S3.ct 85=some ceilC:=rfl
theorem S3_ok:Yu YE8 S3:=by
 refine⟨fun f c h=>?_,fun f vf h=>?_,(fun _ _ _ h=>by cases h),by kernel_rfl,(fun _ h=>by cases h)⟩
 ·simp only[S3]at h
  split at h
  ·cases h;exact⟨Yyr,Tryz.f83,Tryz.func83,by kernel_rfl,by kernel_rfl⟩
  ·cases h;exact⟨Yu6,Tryz.f84,Tryz.func84,by kernel_rfl,by kernel_rfl⟩
  ·cases h;exact⟨YA7,Tryz.f85,Tryz.func85,by kernel_rfl,by kernel_rfl⟩
  ·cases h
 ·cases h
theorem YxY(x:Fr):∀(r:List Fr),loQ x r∈x::r:=by
 intro r
 induction r generalizing x with
 |nil=>exact YFs
 |cons a r ih=>
  have e:loQ x (a::r)=loQ (if cmpQ a.1 a.2 x.1 x.2<0 then a else x) r:=rfl
  rw[e]
  have h:=ih (if cmpQ a.1 a.2 x.1 x.2<0 then a else x)
  rcases YFA.1 h with h|h
  ·rw[h];split <;> simp
  ·simp [h]
theorem YxC(x:Fr):∀(r:List Fr),hiQ x r∈x::r:=by
 intro r
 induction r generalizing x with
 |nil=>exact YFs
 |cons a r ih=>
  have e:hiQ x (a::r)=hiQ (if 0<cmpQ a.1 a.2 x.1 x.2 then a else x) r:=rfl
  rw[e]
  have h:=ih (if 0<cmpQ a.1 a.2 x.1 x.2 then a else x)
  rcases YFA.1 h with h|h
  ·rw[h];split <;> simp
  ·simp [h]
theorem Ynv{x a:Fr}{r:List Fr}{i:Nat}(h:a∈x::r.take i):a∈x::r:=by
 rcases YFA.1 h with h|h
 ·simp [h]
 ·simp [List.mem_of_mem_take h]
theorem Ynr:spanqC.ok YE8 51:=by
 refine Yb Tryz.func51 YEn S3_ok 400 spanqC fun args k h=>?_
 simp only[spanqC]at h
 split at h
 ·rename_i tt z n sz get
  obtain⟨x,r,⟨⟨rfl,rfl,hg⟩,hmax,hall⟩,h⟩:=h
  refine⟨[.vs tt z (x::r).length 3 (fun k=>encF false ((x::r).getD k default))],⟨by simpa [le]using hg,trivial⟩,?_⟩
  (try dsimp only[v51,encF,natV,go_sem,reduceIte])
  (try simp only[Yd,YE5,YE3,reduceCtorEq,YE2])
  have hlen:((x::r).length:Int)=r.length+1:=by simp
  refine⟨⟨by decide,by omega⟩,⟨by decide,by omega⟩,?_⟩
  refine Loop.keep [0,1,0,0,0,0] Nat (fun i=>[(6,.int .i64 ((i:Int)+1))]) (fun i=>[(1,.box (encF false (loQ x (r.take i)))),(2,.box (encF false (hiQ x (r.take i))))]) [] (fun i=>i<=r.length) (fun i=>r.length-i) ?_ ?_
  ·refine⟨0,YGj _,?_⟩
   (try dsimp only[encF,natV,go_sem,reduceIte])
   simp only[Ya]
   refine⟨by simp,?_,?_⟩ <;> simp [loQ,hiQ] <;> exact⟨rfl,fun k _=>Yc _,fun k _=>Yc _⟩
  ·rintro i hi
   (try dsimp only[Yv7,Yv8,Yv9,qcmpC,floorC,ceilC,floC,encF,natV,YE4,go_sem,reduceIte])
   (try simp only[Yd,YE5,YE3,reduceCtorEq,YE2])
   have ey:(x::r).getD ((i:Int)+1).toNat default=r.getD i default:=by
    have:((i:Int)+1).toNat=i+1:=by omega
    rw[this];rfl
   simp only[ey,hlen]
   have hL:frOk (loQ x (r.take i)):=hall _ (Ynv (YxY x _))
   have hH:frOk (hiQ x (r.take i)):=hall _ (Ynv (YxC x _))
   refine⟨fun hlt=>?_,fun hge=>?_⟩
   ·have hi':i<r.length:=by omega
    have hY:frOk (r.getD i default):=hall _ (YFp _ (Yl hi'))
    have eL:loQ x (r.take (i+1))=if cmpQ (r.getD i default).1 (r.getD i default).2 (loQ x (r.take i)).1 (loQ x (r.take i)).2<0 then r.getD i default else loQ x (r.take i):=Yp hi'
    have eH:hiQ x (r.take (i+1))=if 0<cmpQ (r.getD i default).1 (r.getD i default).2 (hiQ x (r.take i)).1 (hiQ x (r.take i)).2 then r.getD i default else hiQ x (r.take i):=Yp hi'
    have hw:IntKind.i64.wrap ((i:Int)+1+1)=((i+1:Nat):Int)+1:=by
     rw[YF6]at hmax
     rw[YE7 _ (by omega)];omega
    have bd:0<=(i:Int)+1/\(i:Int)+1<(r.length:Int)+1:=by omega
    refine⟨bd,r.getD i default,loQ x (r.take i),⟨Yy hY,Yy hL⟩,by decide,by decide,
     fun h1=>⟨bd,bd,r.getD i default,hiQ x (r.take i),⟨Yy hY,Yy hH⟩,by decide,by decide,fun h2=>⟨bd,i+1,by omega,by omega,?_⟩,fun h2=>⟨i+1,by omega,by omega,?_⟩⟩,
     fun h1=>⟨bd,r.getD i default,hiQ x (r.take i),⟨Yy hY,Yy hH⟩,by decide,by decide,fun h2=>⟨bd,i+1,by omega,by omega,?_⟩,fun h2=>⟨i+1,by omega,by omega,?_⟩⟩⟩
    ·simp only[eL,eH,if_pos h1,if_pos h2,hw,Ya]
     simp
    ·simp only[eL,eH,if_pos h1,if_neg h2,hw,Ya]
     simp
    ·simp only[eL,eH,if_neg h1,if_pos h2,hw,Ya]
     simp
    ·simp only[eL,eH,if_neg h1,if_neg h2,hw,Ya]
     simp
   ·obtain rfl:i=r.length:=by omega
    rw[YF4]at hL hH
    rw[YF4]
    refine⟨loQ x r,Yy hL,by decide,by decide,hiQ x r,Yy hH,by decide,by decide,?_⟩
    have h:k (.tup [.agg (enc2 (YiV x r).1),.int .i64 (YiV x r).2]) []:=h
    unfold YiV YiW at h
    refine⟨fun hb=>?_,fun hb=>?_⟩
    ·rw[if_neg (by rw[<-Bool.not_and,YFI]at hb;rw[hb];simp)]at h
     exact YaR (r:=((0,0),7)) h
    ·rw[if_pos (by rw[<-Bool.not_and,Bool.not_eq_false']at hb;exact hb)]at h
     exact YaR h
 ·exact h.1.elim
theorem Yfk{n m:Int}{d:Nat}(hd:0<d):(cmpQ n d m d<0↔n<m)/\(0<cmpQ n d m d↔m<n):=by
 have h1:=YeJ (x:=n) (y:=m) hd
 have h2:=YeJ (x:=m) (y:=n) hd
 unfold cmpQ cmpI
 rw[<-h1,<-h2]
 generalize n*(d:Int)=N
 generalize m*(d:Int)=M
 clear h1 h2
 by_cases c1:N<M
 ·rw[if_pos c1];omega
 ·rw[if_neg c1]
  by_cases c2:M<N
  ·rw[if_pos c2];omega
  ·rw[if_neg c2];omega
theorem YxZ{d:Nat}(hd:0<d)(n:Int)(r:List Int):loQ (n,d) (r.map fun m=>(m,d))=(lowI n r,d):=by
 induction r generalizing n with
 |nil=>rfl
 |cons a r ih=>
  have e:loQ (n,d) ((a::r).map fun m=>(m,d))=loQ (if cmpQ a d n d<0 then(a,d)else(n,d)) (r.map fun m=>(m,d)):=rfl
  have e2:lowI n (a::r)=lowI (if a<n then a else n) r:=rfl
  rw[e,e2,<-ih]
  by_cases h:a<n
  ·rw[if_pos ((Yfk hd).1.2 h),if_pos h]
  ·rw[if_neg (fun hh=>h ((Yfk hd).1.1 hh)),if_neg h]
theorem YxD{d:Nat}(hd:0<d)(n:Int)(r:List Int):hiQ (n,d) (r.map fun m=>(m,d))=(Ybt n r,d):=by
 induction r generalizing n with
 |nil=>rfl
 |cons a r ih=>
  have e:hiQ (n,d) ((a::r).map fun m=>(m,d))=hiQ (if 0<cmpQ a d n d then(a,d)else(n,d)) (r.map fun m=>(m,d)):=rfl
  have e2:Ybt n (a::r)=Ybt (if n<a then a else n) r:=rfl
  rw[e,e2,<-ih]
  by_cases h:n<a
  ·rw[if_pos ((Yfk hd).2.2 h),if_pos h]
  ·rw[if_neg (fun hh=>h ((Yfk hd).2.1 hh)),if_neg h]
theorem YkF{d:Nat}(hd:0<d)(n:Int)(r:List Int):YiV (n,d) (r.map fun m=>(m,d))=Yem d n r:=by
 rw[YiV,YxZ hd,YxD hd];rfl
def v26:VF:=⟨63,[.cell 6 true 2,.tmp 7],(ZR [u1 3 .box [.tm 0],Zn 6,Zi 7 0] (ZR [Zt 14 2 3,Zc 15 50 14,Zm 8 15] (.seq (ZR [Zm 16 8,Zq 17 .eql 16 0,Zm 18 17,Zg 19 18 true 2,u2 20 18 true (.cmp .lss) [.tm 19,.cn (.int .i64 1)],Zg 21 18 true 20,Zg 22 21 false 2,u2 23 21 false (.cmp .gtr) [.tm 22,.cn (.int .i64 4611686018427387904)],u2 24 18 true .or [.tm 21,.tm 23],Zg 25 18 true 24,Zg 26 25 false 1,u2 27 25 false (.cmp .lss) [.tm 26,.cn (.int .i64 (-4611686018427387904))],u2 28 18 true .or [.tm 25,.tm 27],Zg 29 18 true 28,Zg 30 29 false 1,u2 31 29 false (.cmp .gtr) [.tm 30,.cn (.int .i64 4611686018427387904)],u2 32 18 true .or [.tm 29,.tm 31],u1 33 .and [.tm 18,.tm 32]] (ZC 33 (.region [Zi 8 2]) .skip)) (.seq (ZR [Zm 34 8,Zq 35 .neq 34 0] (ZC 35 (ZR [u1 36 (.build [(.int .i64 0),(.int .i64 0)] []) [],Zm 37 8,Zs 2 6 36,Zm 7 37] .ret) .skip)) (ZR [Zm 38 1,Zm 39 2,Zd 40 54 38 39,u1 9 (.alloc [(.bool false),.nil,.nil]) [],Zs 3 9 40] (.seq (.draw [(10,.box [(.bool false),.nil,.nil])] [Zy 42 0 3,Zv 43 1 42,Zw 45 3 9,w1 44 (.call 53) [.tm 43],Zz 46 55 44 45,Zu 41 46,ZE 47 0 41,ZE 48 1 41,ZS 3 10 47,Zu 11 48]) (.seq (.draw [(12,.box [(.bool false),.nil,.nil])] [Zy 50 1 3,Zv 51 1 50,Zw 53 3 9,w1 52 (.call 53) [.tm 51],Zz 54 55 52 53,Zu 49 54,ZE 55 0 49,ZE 56 1 49,ZS 3 12 55,Zu 13 56]) (ZR [Zt 57 3 10,Zt 58 3 12,u1 59 (.buildSlice 3 2 [(.bool false),.nil,.nil] [(0,3),(3,3)]) [.tm 57,.tm 58],Zc 60 51 59,Ze 61 0 60,Ze 62 1 60,Zs 2 6 61,Zm 7 62] .ret))))))))⟩
theorem YD7:Yg YE8 Tryz.f26=some v26:=by kernel_rfl
def v52:VF:=⟨39,[.tmp 2],(ZR [u1 2 .mov [.cn .nil]] (ZR [u1 3 .mov [.cn .nil]] (.seq (ZR [Zi 4 0] (.block 0 (.loop (.seq (ZR [Zm 9 4,Zm 10 0,Zl 11 10,Zr 12 .lss 9 11] (ZC 12 .skip (.exit 0))) (.seq (.block 1 (.seq (.draw [(5,.box [(.bool false),.nil,.nil])] [Zu 16 0,Zu 17 4,ZX 18 3 16 17,Zw 19 3 18,w1 20 (.call 54) [.cn (.int .i64 3141592653589793238),.cn (.int .i64 1000000000000000000)],Zz 21 55 19 20,Zu 15 21,ZE 22 0 15,ZE 23 1 15,ZS 3 5 22,Zu 6 23]) (.seq (.draw [(7,.box [(.bool false),.nil,.nil])] [Zu 25 0,Zu 26 4,ZX 27 3 25 26,Zw 28 3 27,w1 29 (.call 54) [.cn (.int .i64 3141592653589793239),.cn (.int .i64 1000000000000000000)],Zz 30 55 28 29,Zu 24 30,ZE 31 0 24,ZE 32 1 24,ZS 3 7 31,Zu 8 32]) (.region [Zm 33 3,Zt 34 3 5,Zt 35 3 7,u1 36 (.buildSlice 3 2 [(.bool false),.nil,.nil] [(0,3),(3,3)]) [.tm 34,.tm 35],u1 37 (.append 3 56 [(.bool false),.nil,.nil]) [.tm 33,.tm 36],Zm 3 37])))) (.region [Zm 13 4,Zp 14 13 1,Zm 4 14])))))) (ZR [Zm 38 3,Zm 2 38] .ret))))⟩
theorem YEo:Yg YE8 Tryz.f52=some v52:=by kernel_rfl
def v25:VF:=⟨22,[.cell 2 true 2,.tmp 3],(ZR [u1 1 .box [.tm 0],Zn 2,Zi 3 0] (ZR [Zt 5 2 1,Zc 6 50 5,Zm 4 6] (.seq (ZR [Zm 7 4,Zq 8 .neq 7 0] (ZC 8 (ZR [u1 9 (.build [(.int .i64 0),(.int .i64 0)] []) [],Zm 10 4,Zs 2 2 9,Zm 3 10] .ret) .skip)) (.seq (.draw [] [Zy 11 0 1,Zv 12 1 11,Zy 14 1 1,Zv 15 1 14,w1 13 (.call 53) [.tm 12],w1 16 (.call 53) [.tm 15],w1 17 (.buildSlice 3 2 [(.bool false),.nil,.nil] [(0,3),(3,3)]) [.tm 13,.tm 16],w1 18 (.call 52) [.tm 17],w1 19 (.call 51) [.tm 18],ZE 20 0 19,ZE 21 1 19,ZS 2 2 20,Zu 3 21]) .ret))))⟩
theorem YD6:Yg YE8 Tryz.f25=some v25:=by kernel_rfl
def S4:Env:={ ct:=fun n=>match n with|50=>some iv1C|53=>some quoiC|54=>some ofrC|55=>some qmulC|51=>some spanqC|_=>none,fn:=fun _=>none,meth:=fun _ _=>none}
theorem Ywa:S4.ct 50=some iv1C:=rfl
theorem Ywc:S4.ct 53=some quoiC:=rfl
theorem YoD:S4.ct 54=some ofrC:=rfl
theorem YoE:S4.ct 55=some qmulC:=rfl
theorem Ywb:S4.ct 51=some spanqC:=rfl
theorem YAK:Yu YE8 S4:=by
 refine⟨fun f c h=>?_,fun f vf h=>?_,(fun _ _ _ h=>by cases h),by kernel_rfl,(fun _ h=>by cases h)⟩
 ·simp only[S4]at h
  split at h
  ·cases h;exact⟨Ykv,Tryz.f50,Tryz.func50,by kernel_rfl,by kernel_rfl⟩
  ·cases h;exact⟨Ylv,Tryz.f53,Tryz.func53,by kernel_rfl,by kernel_rfl⟩
  ·cases h;exact⟨YCw,Tryz.f54,Tryz.func54,by kernel_rfl,by kernel_rfl⟩
  ·cases h;exact⟨Yyt,Tryz.f55,Tryz.func55,by kernel_rfl,by kernel_rfl⟩
  ·cases h;exact⟨Ynr,Tryz.f51,Tryz.func51,by kernel_rfl,by kernel_rfl⟩
  ·cases h
 ·cases h
theorem YyX:sclC.ok YE8 26:=by
 refine Yb Tryz.func26 YD7 YAK 400 sclC fun args k h=>⟨args,?_⟩
 simp only[sclC]at h
 split at h
 ·rename_i x y n d
  refine⟨by simp [leL,le],?_⟩
  (try dsimp only[v26,Ywa,Ywc,YoD,YoE,Ywb,iv1C,quoiC,ofrC,qmulC,spanqC,enc2,encF,natV,go_sem,reduceIte])
  (try simp only[Yd,YE5,YE3,reduceCtorEq,YE2])
  have h:k (.tup [.agg (enc2 (sclF (x,y) n d).1),.int .i64 (sclF (x,y) n d).2]) []:=h
  refine⟨fun a b=>by simp [a,b],fun a b=>by rw[b];simp [a],fun a b=>by rw[b];simp [a],fun hb=>⟨fun _=>?_,fun h2=>absurd h2 (by decide)⟩,fun hb=>⟨fun he=>?_,fun he=>?_⟩⟩
  ·simp only[YFd,YF5,decide_eq_true_eq]at hb
   rw[sclF,if_neg (by omega),if_pos (by omega)]at h
   exact YaR h
  ·rw[sclF,if_pos he]at h
   exact YaR h
  ·have hb':¬(d<1\/4611686018427387904<d\/n< -4611686018427387904\/4611686018427387904<n):=by
    intro hh
    have:(decide (ivE [(x,y)]=0)&&(decide (d<1) || decide (4611686018427387904<d) || decide (n< -4611686018427387904) || decide (4611686018427387904<n)))=true:=by
     simp only[YFd,YF5,decide_eq_true_eq];omega
    rw[this]at hb;cases hb
   rw[sclF,if_neg (by omega),if_neg hb']at h
   obtain⟨hx,hy,hxy⟩:=ivE1 he
   have m1:=YqU (M:=4611686018427387904) (N:=4611686018427387904) hx (show -4611686018427387904<=n/\n<=4611686018427387904 by omega)
   have m2:=YqU (M:=4611686018427387904) (N:=4611686018427387904) hy (show -4611686018427387904<=n/\n<=4611686018427387904 by omega)
   dsimp only at hx hy m1 m2
   have hq:frOk (n,d.toNat):=YcH (by dsimp only;omega) (by dsimp only;omega) (by dsimp only;omega)
   have hp1:frOk (x*n,1*d.toNat):=YcH (by dsimp only;omega) (by dsimp only;omega) (by dsimp only;omega)
   have hp2:frOk (y*n,1*d.toNat):=YcH (by dsimp only;omega) (by dsimp only;omega) (by dsimp only;omega)
   refine⟨⟨by omega,by omega⟩,hx,(x,1),(n,d.toNat),⟨Yy (Yhd hx),Yy hq,hp1⟩,by decide,by decide,hy,(y,1),(n,d.toNat),⟨Yy (Yhd hy),Yy hq,hp2⟩,by decide,by decide,by decide,
    (x*n,1*d.toNat),[(y*n,1*d.toNat)],⟨⟨rfl,rfl,fun k hk=>match k,hk with|0,_=>Yc (encF false (x*n,1*d.toNat)) |1,_=>Yc (encF false (y*n,1*d.toNat))⟩,by simp,YqI hp1 hp2⟩,?_⟩
   have e:=YkF (d:=1*d.toNat) (by omega) (x*n) [y*n]
   have e2:((1*d.toNat:Nat):Int)=d:=by omega
   rw[e2]at e
   have e3:YiV (x*n,1*d.toNat) [(y*n,1*d.toNat)]=Yem d (x*n) [y*n]:=e
   rw[e3]
   exact⟨by decide,by decide,YaR h⟩
 ·exact h.1.elim
def pisF(l:List Fr):List Fr:=l.flatMap fun p=>[(p.1*3141592653589793238,p.2*1000000000000000000),(p.1*3141592653589793239,p.2*1000000000000000000)]
theorem Yfr(l:List Fr):(pisF l).length=2*l.length:=by
 induction l with
 |nil=>rfl
 |cons a l ih=>
  have e:pisF (a::l)=(a.1*3141592653589793238,a.2*1000000000000000000)::(a.1*3141592653589793239,a.2*1000000000000000000)::pisF l:=rfl
  rw[e,YF6,YF6,ih,YF6];omega
theorem Ym8:∀(l:List Fr)(i:Nat),i<l.length->(pisF l).getD (2*i) default=((l.getD i default).1*3141592653589793238,(l.getD i default).2*1000000000000000000)/\(pisF l).getD (2*i+1) default=((l.getD i default).1*3141592653589793239,(l.getD i default).2*1000000000000000000)
 | [],_,h=>absurd h (YGe _)
 |a::l,0,_=>⟨rfl,rfl⟩
 |a::l,i+1,h=>by
  have e:pisF (a::l)=(a.1*3141592653589793238,a.2*1000000000000000000)::(a.1*3141592653589793239,a.2*1000000000000000000)::pisF l:=rfl
  have ih:=Ym8 l i (by simpa using h)
  rw[e,show 2*(i+1)=2*i+2 by omega]
  exact ih
def frsR(l:List Fr):SV:= .vs true (decide (l.length=0)) l.length 3 (fun k=>encF true (l.getD k default))
def pisC:Ctr:={ alias:=false,of:=fun l=>match l with
 | [.vs _ _ n sz get]=> .ex (List Fr) fun l=> .pre (lsP 3 (encF false) n sz get l/\l.length<=100/\(∀p∈l,frOk p)/\∀p∈pisF l,frOk p) (.fin (frsR (pisF l)) [])
 |_=>noC}
theorem YCG:pisC.ok YE8 52:=by
 refine Yb Tryz.func52 YEo YAK 400 pisC fun args k h=>?_
 simp only[pisC]at h
 split at h
 ·rename_i tt z n sz get
  obtain⟨l,⟨⟨rfl,rfl,hg⟩,hmax,hall,hpis⟩,h⟩:=h
  refine⟨[.vs tt z l.length 3 (fun k=>encF false (l.getD k default))],⟨by simpa [le]using hg,trivial⟩,?_⟩
  (try dsimp only[v52,encF,natV,go_sem,reduceIte])
  (try simp only[Yd,YE5,YE3,reduceCtorEq,YE2])
  refine Loop.keep [0,1,0,0] Nat (fun i=>[(3,.own 0 0 (2*i) 3),(4,.int .i64 i)]) (fun i=>[(0,.own (decide (i=0)) 3 (2*i) (fun k=>encF true ((pisF l).getD k default)))]) [.gone] (fun i=>i<=l.length) (fun i=>l.length-i) ?_ ?_
  ·refine⟨0,YGj _,?_⟩
   (try dsimp only[go_sem,reduceIte])
   simp only[Ya]
   simp
  ·rintro i hi
   (try dsimp only[YoD,YoE,ofrC,qmulC,encF,natV,YE4,go_sem,reduceIte])
   (try simp only[Yd,YE5,YE3,reduceCtorEq,YE2])
   have eT:YGq 1000000000000000000=1000000000000000000:=rfl
   simp only[eT]
   refine⟨fun hlt=>?_,fun hge=>?_⟩
   ·have hi':i<l.length:=by omega
    have hp:frOk (l.getD i default):=hall _ (Yl hi')
    have hc1:frOk (3141592653589793238,1000000000000000000):=YcH (show 0<1000000000000000000 by decide) (show Int.natAbs 3141592653589793238<4294967296^8 by decide) (show 1000000000000000000<4294967296^8 by decide)
    have hc2:frOk (3141592653589793239,1000000000000000000):=YcH (show 0<1000000000000000000 by decide) (show Int.natAbs 3141592653589793239<4294967296^8 by decide) (show 1000000000000000000<4294967296^8 by decide)
    have hg2:=Ym8 l i hi'
    have hr1:frOk ((l.getD i default).1*3141592653589793238,(l.getD i default).2*1000000000000000000):=by
     rw[<-hg2.1];exact hpis _ (Yl (by rw[Yfr];omega))
    have hr2:frOk ((l.getD i default).1*3141592653589793239,(l.getD i default).2*1000000000000000000):=by
     rw[<-hg2.2];exact hpis _ (Yl (by rw[Yfr];omega))
    refine⟨⟨by omega,by omega⟩,⟨⟨by decide,by decide⟩,by decide,by decide⟩,l.getD i default,(3141592653589793238,1000000000000000000),⟨Yy hp,Yy hc1,hr1⟩,by decide,by decide,
     ⟨by omega,by omega⟩,⟨⟨by decide,by decide⟩,by decide,by decide⟩,l.getD i default,(3141592653589793239,1000000000000000000),⟨Yy hp,Yy hc2,hr2⟩,by decide,by decide,by decide,?_⟩
    generalize l.getD i default=p at*
    (try dsimp only[go_sem,reduceIte])
    (try simp only[Yd,YE5,YE3,reduceCtorEq,YE2])
    refine⟨⟨by unfold YN;omega,fun q hq=>?_⟩,i+1,by omega,by omega,?_⟩
    ·match q,hq with
     |0,_=>exact⟨rfl,trivial,trivial,trivial,trivial⟩
     |1,_=>exact⟨rfl,trivial,trivial,trivial,trivial⟩
    ·have hw:IntKind.i64.wrap ((i:Int)+1)=((i+1:Nat):Int):=by rw[YE7 _ (by omega)];omega
     have e2:2*(i+1)=2*i+2:=by omega
     simp only[hw,e2,Bool.or_self,Bool.or_false,Ya]
     refine⟨by omega,by simp,fun q hq=>?_⟩
     rcases YFu q (2*i)with h'|h'
     ·rw[if_pos h'];exact YR _ ⟨trivial,trivial,trivial,trivial⟩
     ·rw[if_neg (by omega)]
      rcases YFu q (2*i+1)with h''|h''
      ·obtain rfl:q=2*i:=by omega
       rw[Nat.sub_self,hg2.1]
       exact YR (encF true (p.1*3141592653589793238,p.2*1000000000000000000)) ⟨trivial,trivial,trivial,trivial⟩
      ·obtain rfl:q=2*i+1:=by omega
       rw[show 2*i+1-2*i=1 by omega,hg2.2]
       exact YR (encF true (p.1*3141592653589793239,p.2*1000000000000000000)) ⟨trivial,trivial,trivial,trivial⟩
   ·obtain rfl:i=l.length:=by omega
    have hz:decide ((pisF l).length=0)=decide (l.length=0):=by rw[Yfr,Bool.eq_iff_iff,decide_eq_true_eq,decide_eq_true_eq];omega
    refine YE (show k _ []from h) ?_ ?_
    ·(try dsimp only[frsR,expo,encF,natV,go_sem,reduceIte])
     rw[hz,Yfr]
     simp only[Ya]
    ·intro _;simp [Yt,Ys,encF,natV,frsR]
 ·exact h.1.elim
def S5:Env:={ ct:=fun n=>match n with|50=>some iv1C|53=>some quoiC|52=>some pisC|51=>some spanqC|_=>none,fn:=fun _=>none,meth:=fun _ _=>none}
theorem Ywd:S5.ct 50=some iv1C:=rfl
theorem Ywg:S5.ct 53=some quoiC:=rfl
theorem Ywf:S5.ct 52=some pisC:=rfl
theorem Ywe:S5.ct 51=some spanqC:=rfl
theorem S5_ok:Yu YE8 S5:=by
 refine⟨fun f c h=>?_,fun f vf h=>?_,(fun _ _ _ h=>by cases h),by kernel_rfl,(fun _ h=>by cases h)⟩
 ·simp only[S5]at h
  split at h
  ·cases h;exact⟨Ykv,Tryz.f50,Tryz.func50,by kernel_rfl,by kernel_rfl⟩
  ·cases h;exact⟨Ylv,Tryz.f53,Tryz.func53,by kernel_rfl,by kernel_rfl⟩
  ·cases h;exact⟨YCG,Tryz.f52,Tryz.func52,by kernel_rfl,by kernel_rfl⟩
  ·cases h;exact⟨Ynr,Tryz.f51,Tryz.func51,by kernel_rfl,by kernel_rfl⟩
  ·cases h
 ·cases h
theorem Yyk{x y:Int}{d:Nat}(hd:0<d/\d<=1000000)(hx:x.natAbs<4294967296^5)(hy:y.natAbs<4294967296^5):∀p∈pisF [(x,d),(y,d)],frOk p:=by
 have a1:(x*3141592653589793238).natAbs<4294967296^8:=by omega
 have a2:(x*3141592653589793239).natAbs<4294967296^8:=by omega
 have a3:(y*3141592653589793238).natAbs<4294967296^8:=by omega
 have a4:(y*3141592653589793239).natAbs<4294967296^8:=by omega
 have b1:0<d*1000000000000000000:=by omega
 have b2:d*1000000000000000000<4294967296^8:=by omega
 have e:pisF [(x,d),(y,d)]=[(x*3141592653589793238,d*1000000000000000000),(x*3141592653589793239,d*1000000000000000000),(y*3141592653589793238,d*1000000000000000000),(y*3141592653589793239,d*1000000000000000000)]:=rfl
 rw[e]
 intro p hp
 simp only[YFA,List.not_mem_nil,or_false]at hp
 rcases hp with rfl|rfl|rfl|rfl
 ·exact YcH b1 a1 b2
 ·exact YcH b1 a2 b2
 ·exact YcH b1 a3 b2
 ·exact YcH b1 a4 b2
theorem YDC:piC.ok YE8 25:=by
 refine Yb Tryz.func25 YD6 S5_ok 400 piC fun args k h=>⟨args,?_⟩
 simp only[piC,ivoC]at h
 split at h
 ·rename_i x y
  refine⟨by simp [leL,le],?_⟩
  (try dsimp only[v25,Ywd,Ywg,Ywf,Ywe,iv1C,quoiC,pisC,frsR,spanqC,enc2,encF,natV,go_sem,reduceIte])
  (try simp only[Yd,YE5,YE3,reduceCtorEq,YE2])
  have h:k (.tup [.agg (enc2 (piF (x,y)).1),.int .i64 (piF (x,y)).2]) []:=h
  refine⟨fun he=>?_,fun he=>?_⟩
  ·rw[piF,if_pos he]at h
   exact YaR h
  ·rw[piF,if_neg (by omega)]at h
   obtain⟨hx,hy,hxy⟩:=ivE1 he
   dsimp only at hx hy
   have hP:=Yyk (x:=x) (y:=y) (d:=1) ⟨by decide,by decide⟩ (by omega) (by omega)
   refine⟨hx,hy,by decide,[(x,1),(y,1)],⟨⟨rfl,rfl,fun k hk=>match k,hk with|0,_=>Yc (encF false (x,1)) |1,_=>Yc (encF false (y,1))⟩,by simp,YqI (Yhd hx) (Yhd hy),hP⟩,
    (x*3141592653589793238,1*1000000000000000000),[(x*3141592653589793239,1*1000000000000000000),(y*3141592653589793238,1*1000000000000000000),(y*3141592653589793239,1*1000000000000000000)],
    ⟨⟨rfl,rfl,fun k hk=>Yc (encF false ((pisF [(x,1),(y,1)]).getD k default))⟩,by simp,hP⟩,by decide,by decide,?_⟩
   have e:=YkF (d:=1*1000000000000000000) (by decide) (x*3141592653589793238) [x*3141592653589793239,y*3141592653589793238,y*3141592653589793239]
   have e2:((1*1000000000000000000:Nat):Int)=1000000000000000000:=rfl
   rw[e2]at e
   have e3:YiV (x*3141592653589793238,1*1000000000000000000) [(x*3141592653589793239,1*1000000000000000000),(y*3141592653589793238,1*1000000000000000000),(y*3141592653589793239,1*1000000000000000000)]=Yem 1000000000000000000 (x*3141592653589793238) [x*3141592653589793239,y*3141592653589793238,y*3141592653589793239]:=e
   rw[e3]
   exact YaR h
 ·exact h.1.elim
set_option maxHeartbeats 8000000
def v22:VF:=⟨48,[.cell 4 true 2],(ZR [u1 2 .box [.tm 0],Zn 4] (ZR [Zt 12 7 2,Zm 13 1,Zd 14 44 12 13,Zm 11 14,Ze 15 0 11,Ze 16 1 11,Zm 5 15,Zm 6 16] (ZR [Za 18 0 2,Zf 19 1 18,Za 20 1 2,Zf 21 1 20,Zo 22 .sub 19 21,Zm 23 5,u1 24 .neg [.tm 23],u1 25 (.build [(.int .i64 0),(.int .i64 0)] [(0,1),(1,1)]) [.cn (.int .i64 2),.tm 24],u1 26 (.buildSlice 2 1 [(.int .i64 0),(.int .i64 0)] [(0,2)]) [.tm 25],Zm 27 6,u1 28 (.call 45) [.tm 22,.tm 26,.tm 27],Zm 17 28,Ze 29 0 17,Ze 30 1 17,Ze 31 2 17,Zm 7 29,Zm 8 30,Zm 9 31] (ZR [Za 32 1 2,Zf 33 1 32,Zm 34 7,Zo 35 .add 33 34,Za 36 1 2,Zf 37 1 36,Zm 38 7,Zo 39 .add 37 38,u1 40 (.build [(.int .i64 0),(.int .i64 0)] [(0,1),(1,1)]) [.tm 35,.tm 39],Zn 10,Zs 2 10 40] (.seq (ZR [Zm 41 8,u1 42 .not [.tm 41]] (ZC 42 (.region [Za 43 1 10,Zf 44 1 43,Zp 45 44 1,Za 46 1 10,Zs 1 46 45]) .skip)) (ZR [Zt 47 2 10,Zs 2 4 47] .ret))))))⟩
theorem YD3:Yg YE8 Tryz.f22=some v22:=by kernel_rfl
def v21:VF:=⟨17,[.tmp 4],(ZR [u1 2 .box [.tm 0],Zi 4 0] (ZR [Zt 6 7 2,Zc 7 11 6,Zm 5 7] (.seq (ZR [Zm 8 5,Zq 9 .eql 8 0,Zm 10 9,u2 11 10 true (.load true 7) [.tm 2],Zg 12 10 true 1,u2 13 10 true (.call 43) [.tm 11,.tm 12],u2 14 10 true .not [.tm 13],u1 15 .and [.tm 10,.tm 14]] (ZC 15 (.region [Zi 5 2]) .skip)) (ZR [Zm 16 5,Zm 4 16] .ret))))⟩
theorem YD2:Yg YE8 Tryz.f21=some v21:=by kernel_rfl
def v7:VF:=⟨17,[.cell 4 true 2,.tmp 5],(ZR [u1 2 .box [.tm 0],Zn 4,Zi 5 0] (ZR [Zt 7 7 2,Zm 8 1,Zd 9 21 7 8,Zm 6 9] (.seq (ZR [Zm 10 6,Zq 11 .neq 10 0] (ZC 11 (ZR [u1 12 (.build [(.int .i64 0),(.int .i64 0)] []) [],Zm 13 6,Zs 2 4 12,Zm 5 13] .ret) .skip)) (ZR [Zt 14 7 2,Zm 15 1,Zd 16 22 14 15,Zs 2 4 16,Zi 5 0] .ret))))⟩
theorem v7_is:Yg YE8 Tryz.f7=some v7:=by kernel_rfl
def v9:VF:=⟨49,[.cell 4 true 2,.cell 5 true 2,.tmp 6],(ZR [u1 2 .box [.tm 0],Zn 4,Zn 5,Zi 6 0] (ZR [Zt 14 7 2,Zm 15 1,Zd 16 21 14 15,Zm 7 16] (.seq (ZR [Zm 17 7,Zq 18 .neq 17 0] (ZC 18 (ZR [u1 19 (.build [(.int .i64 0),(.int .i64 0)] []) [],u1 20 (.build [(.int .i64 0),(.int .i64 0)] []) [],Zm 21 7,Zs 2 4 19,Zs 2 5 20,Zm 6 21] .ret) .skip)) (ZR [Zt 23 7 2,Zm 24 1,Zd 25 22 23 24,Zc 26 25 25,Zm 22 26,Ze 27 0 22,Ze 28 1 22,Zn 8,Zs 2 8 27,Zm 9 28] (ZR [Zt 30 2 8,Za 31 3 2,Zf 32 1 31,Za 33 4 2,Zf 34 1 33,u1 35 (.call 26) [.tm 30,.tm 32,.tm 34],Zm 29 35,Ze 36 0 29,Ze 37 1 29,Zn 10,Zs 2 10 36,Zm 11 37] (ZR [Zt 39 2 10,Za 40 5 2,Zf 41 1 40,Za 42 6 2,Zf 43 1 42,u1 44 (.call 26) [.tm 39,.tm 41,.tm 43],Zm 38 44,Ze 45 0 38,Ze 46 1 38,Zn 12,Zs 2 12 45,Zm 13 46] (.seq (.draw [] [Zw 47 2 10,Zw 48 2 12,⟨Zs 2 4 47,[.tm 12]⟩,ZS 2 5 48,w1 6 .mov [.cn (.int .i64 0)]]) .ret)))))))⟩
theorem v9_is:Yg YE8 Tryz.f9=some v9:=by kernel_rfl
theorem YvE{m num den:Nat}(hd:1<=den):Q.tstR (rtA m num den) den=tstK m num den:=by
 funext k
 obtain⟨P1,P2⟩:=YrD (m:=m) (num:=num) (k:=k) hd
 unfold Q.tstR tstK
 rw[P1,P2]
theorem YCH{m num den:Nat}(hd:1<=den):Q.powR (rtA m num den) den=rtN m num den:=by
 unfold Q.powR rtN
 rw[YvE hd]
def SR2:Env:={ ct:=fun n=>match n with|44=>some rexpC|45=>some Q.rPowerC|_=>none,fn:=fun _=>none,meth:=fun _ _=>none}
theorem Ys0:SR2.ct 44=some rexpC:=rfl
theorem Ys1:SR2.ct 45=some Q.rPowerC:=rfl
theorem YAP:Yu YE8 SR2:=by
 refine⟨fun f c h=>?_,fun f vf h=>?_,(fun _ _ _ h=>by cases h),by kernel_rfl,(fun _ h=>by cases h)⟩
 ·simp only[SR2]at h
  split at h
  ·cases h;exact⟨YDz,Tryz.f44,Tryz.func44,by kernel_rfl,by kernel_rfl⟩
  ·cases h;exact⟨Q.rPower_ok,Tryz.f45,Tryz.func45,by kernel_rfl,by kernel_rfl⟩
  ·cases h
 ·cases h
theorem YDy:diaC.ok YE8 22:=by
 refine Yb Tryz.func22 YD3 YAP 500 diaC fun args k h=>?_
 simp only[diaC]at h
 split at h
 ·rename_i d c tt z n sz get mn md cn cd note
  obtain⟨bs,⟨⟨rfl,rfl,hg⟩,hs,hnote⟩,h⟩:=h
  refine⟨[.agg [.int .i64 d,.int .i64 c,.vs tt z bs.length 2 (fun k=>enc2 (bs.getD k default)),.int .i64 mn,.int .i64 md,.int .i64 cn,.int .i64 cd],.int .i64 note],⟨⟨⟨rfl,rfl⟩,⟨rfl,rfl⟩,⟨id,rfl,rfl,rfl,hg⟩,⟨rfl,rfl⟩,⟨rfl,rfl⟩,⟨rfl,rfl⟩,⟨rfl,rfl⟩,trivial⟩,⟨rfl,rfl⟩,trivial⟩,?_⟩
  dsimp only[v22,Ys0,Ys1,rexpC,Q.rPowerC,enc2,go_sem,reduceIte]
  simp only[Yd,YE5,YE3,reduceCtorEq,YE2]
  have hr:=YiF hs
  simp only at hr
  obtain⟨m,num,den,p⟩:=prt hs hnote
  refine⟨bs,⟨⟨rfl,rfl,fun k _=>Yc _⟩,hs,hnote⟩,fun x y hxy=>?_⟩
  obtain⟨G,j,r,G1,G2,hrex,hj⟩:=hxy
  have hb:=hrex.bnd
  have hj2:139*j*262144<=139*3*262144:=YE9 _ (by omega)
  obtain⟨r1,r2,r3⟩:=Yue p G1 G2 hrex.d1 (by omega) (by omega)
  have em:=p.em
  simp only at em
  have hm:=p.mr
  have e1:IntKind.i64.wrap (d-c)=(m:Int):=by rw[em];exact YE7 _ (by omega)
  have e2:IntKind.i64.wrap (0-(x:Int))= -(x:Int):=by rw[YE7 _ (by omega)];omega
  rw[e1,e2]
  have hy1:=hrex.d1
  have hdec:=YpF hm (show x<=1000000000 by omega) (show 1<=y/\y<=1000000 by omega) r1
  have hlist: [((2:Int), -(x:Int))]++[((m:Int),(y:Int))]=rtA m x y:=rfl
  have htop:Q.tstR (rtA m x y) y 1000000000001=false:=by rw[YvE hy1];exact YlB hm.2 hy1 (by decide)
  refine⟨by decide,by decide,by decide,[(2, -(x:Int))],?_⟩
  rw[hlist,YCH hy1]
  obtain⟨P1,P2⟩:=YrD (m:=m) (num:=x) (k:=rtN m x y) hy1
  rw[P1,P2]
  have hle:=Ynj (num:=x) hm hy1
  have hflag:(decide (0<rtN m x y)&&decide (m^y=2^x*rtN m x y^y))=exN m x y:=rfl
  rw[hflag]
  have hdia:diaS ⟨d,c,bs,mn,md,cn,cd⟩ note=(c+(rtN m x y:Int),if exN m x y=true then c+(rtN m x y:Int)else c+(rtN m x y:Int)+1):=by
   unfold diaS
   simp only
   have:=YiN p
   simp only at this
   rw[this,r2,r3]
  rw[hdia]at h
  have w1:IntKind.i64.wrap (c+(rtN m x y:Int))=c+(rtN m x y:Int):=YE7 _ (by omega)
  have w2:IntKind.i64.wrap (c+(rtN m x y:Int)+1)=c+(rtN m x y:Int)+1:=YE7 _ (by omega)
  rw[w1,w2]
  refine⟨⟨⟨rfl,rfl,fun k hk=>?_⟩,fun z hz=>?_,by omega,by omega,⟨hdec 1000000000001 (by decide) (by decide),htop⟩,Ygp 41 0 1000000000001 (by decide) fun k k1 k2=>hdec k k1 (by omega)⟩,by decide,by decide,by decide,fun hf=>?_,fun hf=>?_⟩
  ·obtain rfl:k=0:=by omega
   exact Yc _
  ·rw[YFO]at hz
   subst hz
   simp only[okT0,Bool.or_eq_false_iff,decide_eq_false_iff_not]
   omega
  ·rw[if_neg (by rw[hf];decide)]at h
   exact YhM h
  ·rw[if_pos hf]at h
   exact YhM h
 ·exact h.1.elim
def SR3:Env:={ ct:=fun n=>match n with|11=>some chkLC|43=>some hasC|_=>none,fn:=fun _=>none,meth:=fun _ _=>none}
theorem Ys2:SR3.ct 11=some chkLC:=rfl
theorem Ys3:SR3.ct 43=some hasC:=rfl
theorem YAQ:Yu YE8 SR3:=by
 refine⟨fun f c h=>?_,fun f vf h=>?_,(fun _ _ _ h=>by cases h),by kernel_rfl,(fun _ h=>by cases h)⟩
 ·simp only[SR3]at h
  split at h
  ·cases h;exact⟨Yrx,Tryz.f11,Tryz.func11,by kernel_rfl,by kernel_rfl⟩
  ·cases h;exact⟨YyT,Tryz.f43,Tryz.func43,by kernel_rfl,by kernel_rfl⟩
  ·cases h
 ·cases h
def raskC:Ctr:={ alias:=false,of:=fun l=>match l with
 | [.agg [.int .i64 d,.int .i64 c,.vs _ _ n sz get,.int .i64 mn,.int .i64 md,.int .i64 cn,.int .i64 cd],.int .i64 note]=>
   .ex (List (Int×Int)) fun bs=> .pre (lsP 2 enc2 n sz get bs/\n<=9223372036854775807) (.fin (.int .i64 (askS ⟨d,c,bs,mn,md,cn,cd⟩ note note)) [])
 |_=> .pre False (.fin (.int .i64 0) [])}
theorem YDv:raskC.ok YE8 21:=by
 refine Yb Tryz.func21 YD2 YAQ 300 raskC fun args k h=>?_
 simp only[raskC]at h
 split at h
 ·rename_i d c tt z n sz get mn md cn cd note
  obtain⟨bs,⟨⟨rfl,rfl,hg⟩,hn⟩,h⟩:=h
  refine⟨[.agg [.int .i64 d,.int .i64 c,.vs tt z bs.length 2 (fun k=>enc2 (bs.getD k default)),.int .i64 mn,.int .i64 md,.int .i64 cn,.int .i64 cd],.int .i64 note],⟨⟨⟨rfl,rfl⟩,⟨rfl,rfl⟩,⟨id,rfl,rfl,rfl,hg⟩,⟨rfl,rfl⟩,⟨rfl,rfl⟩,⟨rfl,rfl⟩,⟨rfl,rfl⟩,trivial⟩,⟨rfl,rfl⟩,trivial⟩,?_⟩
  dsimp only[v21,Ys2,Ys3,chkLC,hasC,enc2,go_sem,reduceIte]
  simp only[Yd,YE5,YE3,reduceCtorEq,YE2]
  have self:lsP 2 enc2 bs.length 2 (fun k=>[SV.int IntKind.i64 (bs.getD k default).fst,SV.int IntKind.i64 (bs.getD k default).snd]) bs:=⟨rfl,rfl,fun k _=>Yc _⟩
  refine⟨bs,⟨self,hn⟩,bs,fun hc=>⟨self,(Ya5 hc).1,hn⟩,fun hc=>?_,fun hc=>?_⟩
  ·rw[YFd,decide_eq_true_eq,YFI]at hc
   rw[askS,if_neg (by rw[hc.1];decide),if_pos (by rw[hc.2];rfl)]at h
   exact Yh h
  ·by_cases c0:chkL ⟨d,c,bs,mn,md,cn,cd⟩=0
   ·rw[decide_eq_true c0,YGm,Bool.not_eq_false']at hc
    rw[askS,if_neg (by rw[c0];decide),if_neg (by rw[hc,decide_eq_false (Int.lt_irrefl note)];decide)]at h
    rw[c0]
    exact Yh h
   ·rw[askS,if_pos c0]at h
    exact Yh h
 ·exact h.1.elim
def SR4:Env:={ ct:=fun n=>match n with|21=>some raskC|22=>some diaC|25=>some piC|26=>some sclC|_=>none,fn:=fun _=>none,meth:=fun _ _=>none}
theorem YhI:SR4.ct 21=some raskC:=rfl
theorem YhJ:SR4.ct 22=some diaC:=rfl
theorem Yma:SR4.ct 25=some piC:=rfl
theorem Ymb:SR4.ct 26=some sclC:=rfl
theorem YuI:Yu YE8 SR4:=by
 refine⟨fun f c h=>?_,fun f vf h=>?_,(fun _ _ _ h=>by cases h),by kernel_rfl,(fun _ h=>by cases h)⟩
 ·simp only[SR4]at h
  split at h
  ·cases h;exact⟨YDv,Tryz.f21,Tryz.func21,by kernel_rfl,by kernel_rfl⟩
  ·cases h;exact⟨YDy,Tryz.f22,Tryz.func22,by kernel_rfl,by kernel_rfl⟩
  ·cases h;exact⟨YDC,Tryz.f25,Tryz.func25,by kernel_rfl,by kernel_rfl⟩
  ·cases h;exact⟨YyX,Tryz.f26,Tryz.func26,by kernel_rfl,by kernel_rfl⟩
  ·cases h
 ·cases h
theorem YyP:diaFC.ok YE8 7:=by
 refine Yb Tryz.func7 v7_is YuI 300 diaFC fun args k h=>?_
 simp only[diaFC]at h
 split at h
 ·rename_i d c tt z n sz get mn md cn cd note
  obtain⟨bs,⟨⟨rfl,rfl,hg⟩,hn⟩,h⟩:=h
  refine⟨[.agg [.int .i64 d,.int .i64 c,.vs tt z bs.length 2 (fun k=>enc2 (bs.getD k default)),.int .i64 mn,.int .i64 md,.int .i64 cn,.int .i64 cd],.int .i64 note],⟨⟨⟨rfl,rfl⟩,⟨rfl,rfl⟩,⟨id,rfl,rfl,rfl,hg⟩,⟨rfl,rfl⟩,⟨rfl,rfl⟩,⟨rfl,rfl⟩,⟨rfl,rfl⟩,trivial⟩,⟨rfl,rfl⟩,trivial⟩,?_⟩
  dsimp only[v7,YhI,YhJ,raskC,diaC,enc2,go_sem,reduceIte]
  simp only[Yd,YE5,YE3,reduceCtorEq,YE2]
  have self:lsP 2 enc2 bs.length 2 (fun k=>[SV.int IntKind.i64 (bs.getD k default).fst,SV.int IntKind.i64 (bs.getD k default).snd]) bs:=⟨rfl,rfl,fun k _=>Yc _⟩
  refine⟨bs,⟨self,hn⟩,fun hc=>?_,fun hc=>?_⟩
  ·rw[diaF,if_pos hc]at h;exact YhN h
  ·rw[diaF,if_neg (by rw[hc];decide)]at h
   obtain⟨a1,a2,_⟩:=Yph hc
   have:=Ybr a1
   refine⟨bs,⟨self,a1,by omega,a2.2⟩,?_⟩
   (try simp only[Yd,YE5,YE3,reduceCtorEq,YE2])
   exact YhN h
 ·exact h.1.elim
theorem YDA:mouC.ok YE8 9:=by
 refine Yb Tryz.func9 v9_is YuI 400 mouC fun args k h=>?_
 simp only[mouC]at h
 split at h
 ·rename_i d c tt z n sz get mn md cn cd note
  obtain⟨bs,⟨⟨rfl,rfl,hg⟩,hn⟩,h⟩:=h
  refine⟨[.agg [.int .i64 d,.int .i64 c,.vs tt z bs.length 2 (fun k=>enc2 (bs.getD k default)),.int .i64 mn,.int .i64 md,.int .i64 cn,.int .i64 cd],.int .i64 note],⟨⟨⟨rfl,rfl⟩,⟨rfl,rfl⟩,⟨id,rfl,rfl,rfl,hg⟩,⟨rfl,rfl⟩,⟨rfl,rfl⟩,⟨rfl,rfl⟩,⟨rfl,rfl⟩,trivial⟩,⟨rfl,rfl⟩,trivial⟩,?_⟩
  have h:k (.tup [.agg (enc2 (mouS ⟨d,c,bs,mn,md,cn,cd⟩ note).1),.agg (enc2 (mouS ⟨d,c,bs,mn,md,cn,cd⟩ note).2.1),.int .i64 (mouS ⟨d,c,bs,mn,md,cn,cd⟩ note).2.2]) []:=h
  dsimp only[v9,YhI,YhJ,Yma,Ymb,raskC,diaC,piC,sclC,ivoC,enc2,go_sem,reduceIte]
  simp only[Yd,YE5,YE3,reduceCtorEq,YE2]
  have self:lsP 2 enc2 bs.length 2 (fun k=>[SV.int IntKind.i64 (bs.getD k default).fst,SV.int IntKind.i64 (bs.getD k default).snd]) bs:=⟨rfl,rfl,fun k _=>Yc _⟩
  refine⟨bs,⟨self,hn⟩,fun hc=>?_,fun hc=>?_⟩
  ·rw[mouS,if_pos hc]at h
   exact YhK (p:=(0,0)) (q:=(0,0)) h
  ·rw[mouS,if_neg (by rw[hc];decide)]at h
   obtain⟨a1,a2,_⟩:=Yph hc
   have:=Ybr a1
   refine⟨bs,⟨self,a1,by omega,a2.2⟩,?_⟩
   (try dsimp only[YhI,YhJ,Yma,Ymb,raskC,diaC,piC,sclC,ivoC,enc2,go_sem,reduceIte])
   (try simp only[Yd,YE5,YE3,reduceCtorEq,YE2])
   rw[cut_e a1 (show 0<=note/\note<=139 by omega)]at h
   exact⟨by decide,by decide,by decide,by decide,by decide,by decide,YhK (p:=widS ⟨d,c,bs,mn,md,cn,cd⟩ note) (q:=(cutS ⟨d,c,bs,mn,md,cn,cd⟩ note).1) (e:=0) h⟩
 ·exact h.1.elim
theorem YjU{s:Scl}{p:Iv->Bool}:∀(f:Nat)(n:Int),140<=n+f->n<=140->
 ((fstL s p f n).2=0/\n<=(fstL s p f n).1/\(fstL s p f n).1<=139/\p (diaS s (fstL s p f n).1)=true/\∀j,n<=j->j<(fstL s p f n).1->p (diaS s j)=false)\/
 (fstL s p f n=(0,4)/\∀j,n<=j->j<=139->p (diaS s j)=false)
 |0,n,h1,h2=>Or.inr ⟨rfl,fun j h3 h4=>by omega⟩
 |f+1,n,h1,h2=>by
  rw[fstL]
  by_cases c:139<n
  ·rw[if_pos c]
   exact Or.inr ⟨rfl,fun j h3 h4=>by omega⟩
  ·rw[if_neg c]
   by_cases hp:p (diaS s n)=true
   ·rw[if_pos hp]
    exact Or.inl ⟨rfl,Int.le_refl _,by simp only;omega,hp,fun j h3 h4=>by simp only at h4;omega⟩
   ·rw[if_neg hp]
    have hp':p (diaS s n)=false:=by simpa using hp
    rcases YjU (s:=s) (p:=p) f (n+1) (by omega) (by omega)with⟨k1,k2,k3,k4,k5⟩ | ⟨k1,k2⟩
    ·refine Or.inl ⟨k1,by omega,k3,k4,fun j h3 h4=>?_⟩
     by_cases e:j=n
     ·rw[e];exact hp'
     ·exact k5 j (by omega) h4
    ·refine Or.inr ⟨k1,fun j h3 h4=>?_⟩
     by_cases e:j=n
     ·rw[e];exact hp'
     ·exact k2 j (by omega) h4
theorem YjT{s:Scl}{p:Iv->Bool}{n:Int}(h0:0<=n)(h1:n<=140):
 ((fstF s n p).2=0/\n<=(fstF s n p).1/\(fstF s n p).1<=139/\p (diaS s (fstF s n p).1)=true/\∀j,n<=j->j<(fstF s n p).1->p (diaS s j)=false)\/
 (fstF s n p=(0,4)/\∀j,n<=j->j<=139->p (diaS s j)=false):=YjU 200 n (by omega) h1
def v16:VF:=⟨26,[.tmp 4,.tmp 5],(ZR [u1 2 .box [.tm 0],Zi 4 0,Zi 5 0] (.seq (ZR [Zt 8 7 2,Zm 9 1,Zm 10 1,u1 11 (.call 19) [.tm 8,.tm 9,.tm 10],Zm 6 11] (ZR [Zm 12 6,Zq 13 .neq 12 0] (ZC 13 (ZR [Zm 14 6,Zi 4 0,Zm 5 14] .ret) .skip))) (ZR [Zt 15 7 2,Zm 16 1,Zd 17 20 15 16,u1 18 (.field false 0 1) [.tm 17],u1 7 (.alloc [(.int .i64 0)]) [],Zs 1 7 18] (ZR [Zt 19 7 2,Zm 20 1,Zp 21 20 1,u1 22 (.mkfn (.func 38) 0) [.tm 7],u1 23 (.call 37) [.tm 19,.tm 21,.tm 22],Ze 24 0 23,Ze 25 1 23,Zm 4 24,Zm 5 25] .ret))))⟩
theorem YDX:Yg YE8 Tryz.f16=some v16:=by kernel_rfl
def v38:VF:=⟨9,[.tmp 3],(ZR [u1 2 .box [.tm 0],u1 3 .mov [.cn (.bool false)]] (ZR [Za 4 1 2,Zf 5 1 4,u1 6 (.ari .mul) [.cn (.int .i64 2),.tm 5],Zf 7 1 1,Zr 8 .leq 6 7,Zm 3 8] .ret))⟩
theorem YEa:Yg YE8 Tryz.f38=some v38:=by kernel_rfl
def v37:VF:=⟨19,[.cell 6 false 1,.cell 7 false 1],(ZR [u1 3 .box [.tm 0],u1 5 .box [.tm 2],u1 6 (.alloc [(.int .i64 0)]) [],u1 7 (.alloc [(.int .i64 0)]) []] (.seq (ZR [Zt 10 7 3,Zm 11 1,u1 12 (.call 64) [.tm 10,.tm 11,.cn (.int .i64 139)]] (.block 0 (.rangeFn (.tm 12) [13,14] (ZR [Zm 8 13] (.region [Zn 9,Zs 2 9 14])) (.block 1 (ZR [Zf 15 1 5,Zt 16 2 9,u1 17 .callv [.tm 15,.tm 16]] (ZC 17 (ZR [Zm 18 8,Zs 1 6 18,u0 (.store 1) [.tm 7,.cn (.int .i64 0)]] .ret) .skip)))))) (ZR [u0 (.store 1) [.tm 6,.cn (.int .i64 0)],u0 (.store 1) [.tm 7,.cn (.int .i64 4)]] .ret)))⟩
theorem YvF:Yg YE8 Tryz.f37=some v37:=by kernel_rfl
def v64:VF:=⟨8,[.tmp 6],(ZR [u1 3 .box [.tm 0],u1 4 .box [.tm 1],u1 5 .box [.tm 2],u1 6 .mov [.cn (.val .nilFunc)]] (ZR [u1 7 (.mkfn (.func 98) 0) [.tm 4,.tm 5,.tm 3],Zm 6 7] .ret))⟩
theorem YvG:Yg YE8 Tryz.f64=some v64:=by kernel_rfl
def v98:VF:=⟨19,[],(ZR [Zf 6 1 1,Zm 5 6] (.block 0 (.loop (.seq (ZR [Zm 7 5,Zf 8 1 2,Zr 9 .leq 7 8] (ZC 9 .skip (.exit 0))) (.seq (.block 1 (ZR [Zm 12 0,Zm 13 5,Zt 14 7 3,Zm 15 5,Zd 16 20 14 15,u1 17 .callv [.tm 12,.tm 13,.tm 16],u1 18 .not [.tm 17]] (ZC 18 .ret .skip))) (.region [Zm 10 5,Zp 11 10 1,Zm 5 11]))))))⟩
theorem YvH:Yg YE8 Tryz.f98=some v98:=by kernel_rfl
def v17:VF:=⟨48,[.tmp 6,.tmp 7],(ZR [u1 3 .box [.tm 0],u1 4 .box [.tm 1],Zi 6 0,Zi 7 0] (.seq (ZR [Zt 13 7 3,Zc 14 10 13,Zm 8 14] (ZR [Zm 15 8,Zq 16 .neq 15 0] (ZC 16 (ZR [Zm 17 8,Zi 6 0,Zm 7 17] .ret) .skip))) (.seq (ZR [Zt 18 7 4,Zc 19 10 18,Zm 9 19] (ZR [Zm 20 9,Zq 21 .neq 20 0] (ZC 21 (ZR [Zm 22 9,Zi 6 0,Zm 7 22] .ret) .skip))) (.seq (ZR [Zt 23 7 3,Zm 24 2,Zd 25 39 23 24,u1 26 .not [.tm 25]] (ZC 26 (ZR [Zi 6 0,Zi 7 2] .ret) .skip)) (ZR [Zt 27 7 3,Zm 28 2,Zd 29 20 27 28,u1 30 (.field false 0 1) [.tm 29],u1 10 (.alloc [(.int .i64 0)]) [],Zs 1 10 30] (.seq (.draw [] [Zw 32 7 4,Zy 33 2 4,Zv 34 1 33,w1 35 (.idxAddr 2) [.tm 34,.cn (.int .i64 0)],Zy 36 0 35,Zv 37 1 36,w1 38 (.mkfn (.func 40) 0) [.tm 10],w1 39 (.call 37) [.tm 32,.tm 37,.tm 38],Zu 31 39,ZE 40 0 31,ZE 41 1 31,Zu 11 40,Zu 12 41]) (.seq (ZR [Zm 42 12,Zq 43 .neq 42 0] (ZC 43 (ZR [Zm 44 12,Zi 6 0,Zm 7 44] .ret) .skip)) (ZR [Zm 45 2,Zm 46 11,Zo 47 .sub 45 46,Zm 6 47,Zi 7 0] .ret))))))))⟩
theorem YDY:Yg YE8 Tryz.f17=some v17:=by kernel_rfl
def v40:VF:=⟨8,[.tmp 3],(ZR [u1 2 .box [.tm 0],u1 3 .mov [.cn (.bool false)]] (ZR [Zf 4 1 1,Za 5 1 2,Zf 6 1 5,Zr 7 .geq 4 6,Zm 3 7] .ret))⟩
theorem YEc:Yg YE8 Tryz.f40=some v40:=by kernel_rfl
def halC:Ctr:={ alias:=false,of:=fun l=>match l with
 | [.agg [.int .i64 d,.int .i64 c,.vs _ _ n sz get,.int .i64 mn,.int .i64 md,.int .i64 cn,.int .i64 cd],.int .i64 note]=>
   .ex (List (Int×Int)) fun bs=> .pre (lsP 2 enc2 n sz get bs/\n<=9223372036854775807) (.fin (.tup [.int .i64 (halF ⟨d,c,bs,mn,md,cn,cd⟩ note).1,.int .i64 (halF ⟨d,c,bs,mn,md,cn,cd⟩ note).2]) [])
 |_=>noC}
def SK20:Env:={ ct:=fun n=>match n with|19=>some askC|20=>some diaC|_=>none,fn:=fun n=>match n with|37=>some v37|64=>some v64|98=>some v98|38=>some v38|_=>none,meth:=fun _ _=>none}
theorem YfB:SK20.ct 19=some askC:=rfl
theorem YfC:SK20.ct 20=some diaC:=rfl
theorem YfD:SK20.ct 37=none:=rfl
theorem YfH:SK20.fn 37=some v37:=rfl
theorem YfF:SK20.ct 64=none:=rfl
theorem YfJ:SK20.fn 64=some v64:=rfl
theorem YfG:SK20.ct 98=none:=rfl
theorem YfK:SK20.fn 98=some v98:=rfl
theorem YfE:SK20.ct 38=none:=rfl
theorem YfI:SK20.fn 38=some v38:=rfl
theorem Yws:Yu YE8 SK20:=by
 refine⟨fun f c h=>?_,fun f vf h=>?_,(fun _ _ _ h=>by cases h),by kernel_rfl,(fun _ h=>by cases h)⟩
 ·simp only[SK20]at h
  split at h
  ·cases h;exact⟨YwE,Tryz.f19,Tryz.func19,by kernel_rfl,by kernel_rfl⟩
  ·cases h;exact⟨YpI,Tryz.f20,Tryz.func20,by kernel_rfl,by kernel_rfl⟩
  ·cases h
 ·simp only[SK20]at h
  split at h
  ·cases h;exact⟨Tryz.f37,Tryz.func37,YvF,Tryz.f37,Tryz.func37,by kernel_rfl,by kernel_rfl⟩
  ·cases h;exact⟨Tryz.f64,Tryz.func64,YvG,Tryz.f64,Tryz.func64,by kernel_rfl,by kernel_rfl⟩
  ·cases h;exact⟨Tryz.f98,Tryz.func98,YvH,Tryz.f98,Tryz.func98,by kernel_rfl,by kernel_rfl⟩
  ·cases h;exact⟨Tryz.f38,Tryz.func38,YEa,Tryz.f38,Tryz.func38,by kernel_rfl,by kernel_rfl⟩
  ·cases h
theorem hal_c:halC.ok YE8 16:=by
 refine Yb Tryz.func16 YDX Yws 600 halC fun args k h=>?_
 simp only[halC]at h
 split at h
 ·rename_i d c tt z n sz get mn md cn cd note
  obtain⟨bs,⟨⟨rfl,rfl,hg⟩,hn⟩,h⟩:=h
  refine⟨[.agg [.int .i64 d,.int .i64 c,.vs tt z bs.length 2 (fun k=>enc2 (bs.getD k default)),.int .i64 mn,.int .i64 md,.int .i64 cn,.int .i64 cd],.int .i64 note],⟨⟨⟨rfl,rfl⟩,⟨rfl,rfl⟩,⟨id,rfl,rfl,rfl,hg⟩,⟨rfl,rfl⟩,⟨rfl,rfl⟩,⟨rfl,rfl⟩,⟨rfl,rfl⟩,trivial⟩,⟨rfl,rfl⟩,trivial⟩,?_⟩
  dsimp only[v16,YfB,YfC,askC,diaC,enc2,YfD,YfH,v37,YfF,YfJ,v64,YfG,YfK,v98,YfE,YfI,v38,go_sem,reduceIte]
  simp only[Yd,YE5,YE3,reduceCtorEq,YE2]
  have self:lsP 2 enc2 bs.length 2 (fun k=>[SV.int IntKind.i64 (bs.getD k default).fst,SV.int IntKind.i64 (bs.getD k default).snd]) bs:=⟨rfl,rfl,fun k _=>Yc _⟩
  refine⟨bs,⟨self,hn⟩,fun hc=>?_,fun hc=>?_⟩
  ·rw[halF,if_pos hc]at h;exact Ybn h
  ·rw[halF,if_neg (by rw[hc];decide)]at h
   obtain⟨a1,a2,_⟩:=Yph hc
   have:=Ybr a1
   refine⟨bs,⟨self,a1,by omega,a2.2⟩,?_⟩
   (try dsimp only[YfB,YfC,askC,diaC,enc2,YfD,YfH,v37,YfF,YfJ,v64,YfG,YfK,v98,YfE,YfI,v38,go_sem,reduceIte])
   (try simp only[Yd,YE5,YE3,reduceCtorEq,YE2])
   intro l
   have hn1:IntKind.i64.wrap (note+1)=note+1:=YE7 _ (by omega)
   rw[hn1]
   obtain⟨S,hS⟩:∃S,S=(⟨d,c,bs,mn,md,cn,cd⟩:Scl):=⟨_,rfl⟩
   obtain⟨p,hp⟩:∃p:Iv->Bool,p=fun x=>decide (IntKind.i64.wrap (2*x.2)<=(diaS S note).1):=⟨_,rfl⟩
   obtain⟨R,hR⟩:∃R,R=fstF S (note+1) p:=⟨_,rfl⟩
   have h:CSat (.fin (.tup [.int .i64 R.1,.int .i64 R.2]) []) k:=by rw[hR,hp,hS];exact h
   refine Loop.keep [0,0,0,0] (Nat×Int) (fun s=>[(5,.int .i64 s.2)]) (fun _=>[]) [] (fun s=>R=fstL S p s.1 s.2/\0<=s.2/\s.2<=140/\140<=s.2+s.1) (fun s=>s.1) ?_ ?_
   ·refine⟨(200,note+1),⟨hR,by simp only;omega,by simp only;omega,by simp only;omega⟩,?_⟩
    dsimp only[go_sem,reduceIte]
    simp only[Ya]
    decide
   ·rintro⟨f,m⟩ ⟨hf,hm0,hm1,hmf⟩
    dsimp only at hf hm0 hm1 hmf
    dsimp only[YfB,YfC,askC,diaC,enc2,YfD,YfH,v37,YfF,YfJ,v64,YfG,YfK,v98,YfE,YfI,v38,go_sem,reduceIte]
    simp only[Yd,YE5,YE3,reduceCtorEq,YE2]
    refine⟨fun hlt=>⟨bs,⟨self,a1,hm0,hlt⟩,fun hq=>⟨by decide,by decide,?_⟩,fun hq=>?_⟩,fun hge=>?_⟩
    ·obtain⟨g,rfl⟩:∃g,f=g+1:=⟨f-1,by omega⟩
     rw[fstL,if_neg (by omega),if_pos (by rw[hp,hS];simp only;rw[decide_eq_true hq])]at hf
     rw[hf]at h
     exact Ybn h
    ·obtain⟨g,rfl⟩:∃g,f=g+1:=⟨f-1,by omega⟩
     rw[fstL,if_neg (by omega),if_neg (by rw[hp,hS];simp only;rw[decide_eq_false hq];decide)]at hf
     refine⟨(g,m+1),⟨hf,by simp only;omega,by simp only;omega,by simp only;omega⟩,by simp only;omega,?_⟩
     rw[YE7 (m+1) (by omega)]
     simp only[Ya]
     decide
    ·have e:R=(0,4):=by
      rw[hf]
      cases f with
      |zero=>rfl
      |succ f=>rw[fstL,if_pos (by omega)]
     rw[e]at h
     exact⟨by decide,by decide,Ybn h⟩
 ·exact h.1.elim
def widC:Ctr:={ alias:=false,of:=fun l=>match l with
 | [.agg [.int .i64 d,.int .i64 c,.vs _ _ n sz get,.int .i64 mn,.int .i64 md,.int .i64 cn,.int .i64 cd],.agg [.int .i64 d',.int .i64 c',.vs _ _ n' sz' get',.int .i64 mn',.int .i64 md',.int .i64 cn',.int .i64 cd'],.int .i64 note]=>
   .ex (List (Int×Int)) fun bs=> .ex (List (Int×Int)) fun bt=> .pre (lsP 2 enc2 n sz get bs/\n<=9223372036854775807/\lsP 2 enc2 n' sz' get' bt/\n'<=9223372036854775807) (.fin (.tup [.int .i64 (widF ⟨d,c,bs,mn,md,cn,cd⟩ ⟨d',c',bt,mn',md',cn',cd'⟩ note).1,.int .i64 (widF ⟨d,c,bs,mn,md,cn,cd⟩ ⟨d',c',bt,mn',md',cn',cd'⟩ note).2]) [])
 |_=>noC}
def fstC:Ctr:={ alias:=false,of:=fun l=>match l with
 | [.agg [.int .i64 d,.int .i64 c,.vs _ _ n sz get,.int .i64 mn,.int .i64 md,.int .i64 cn,.int .i64 cd],.int .i64 low,.fn (.func g) [] [.xp _ [.int .i64 L]]]=>
   .ex (List (Int×Int)) fun bs=> .pre (g=40/\lsP 2 enc2 n sz get bs/\chkL ⟨d,c,bs,mn,md,cn,cd⟩=0/\0<=low/\low<=140) (.fin (.tup [.int .i64 (fstF ⟨d,c,bs,mn,md,cn,cd⟩ low fun x=>decide (x.2<=L)).1,.int .i64 (fstF ⟨d,c,bs,mn,md,cn,cd⟩ low fun x=>decide (x.2<=L)).2]) [])
 |_=>noC}
def SK22:Env:={ ct:=fun n=>match n with|20=>some diaC|_=>none,fn:=fun n=>match n with|64=>some v64|98=>some v98|40=>some v40|_=>none,meth:=fun _ _=>none}
theorem Yjj:SK22.ct 20=some diaC:=rfl
theorem Yjl:SK22.ct 64=none:=rfl
theorem Yjo:SK22.fn 64=some v64:=rfl
theorem Yjm:SK22.ct 98=none:=rfl
theorem Yjp:SK22.fn 98=some v98:=rfl
theorem Yjk:SK22.ct 40=none:=rfl
theorem Yjn:SK22.fn 40=some v40:=rfl
theorem Ywu:Yu YE8 SK22:=by
 refine⟨fun f c h=>?_,fun f vf h=>?_,(fun _ _ _ h=>by cases h),by kernel_rfl,(fun _ h=>by cases h)⟩
 ·simp only[SK22]at h
  split at h
  ·cases h;exact⟨YpI,Tryz.f20,Tryz.func20,by kernel_rfl,by kernel_rfl⟩
  ·cases h
 ·simp only[SK22]at h
  split at h
  ·cases h;exact⟨Tryz.f64,Tryz.func64,YvG,Tryz.f64,Tryz.func64,by kernel_rfl,by kernel_rfl⟩
  ·cases h;exact⟨Tryz.f98,Tryz.func98,YvH,Tryz.f98,Tryz.func98,by kernel_rfl,by kernel_rfl⟩
  ·cases h;exact⟨Tryz.f40,Tryz.func40,YEc,Tryz.f40,Tryz.func40,by kernel_rfl,by kernel_rfl⟩
  ·cases h
theorem fst_c:fstC.ok YE8 37:=by
 refine Yb Tryz.func37 YvF Ywu 600 fstC fun args k h=>?_
 simp only[fstC]at h
 split at h
 ·rename_i d c tt z n sz get mn md cn cd low g t2 L
  obtain⟨bs,⟨rfl,⟨rfl,rfl,hg⟩,hs,h0,h1⟩,h⟩:=h
  refine⟨[.agg [.int .i64 d,.int .i64 c,.vs tt z bs.length 2 (fun k=>enc2 (bs.getD k default)),.int .i64 mn,.int .i64 md,.int .i64 cn,.int .i64 cd],.int .i64 low,.fn (.func 40) [] [.xp t2 [.int .i64 L]]],⟨⟨⟨rfl,rfl⟩,⟨rfl,rfl⟩,⟨id,rfl,rfl,rfl,hg⟩,⟨rfl,rfl⟩,⟨rfl,rfl⟩,⟨rfl,rfl⟩,⟨rfl,rfl⟩,trivial⟩,⟨rfl,rfl⟩,by simp [le,leL,Yc,YuP,YuR,YfS,YhV,Yk2],trivial⟩,?_⟩
  have self:lsP 2 enc2 bs.length 2 (fun k=>[SV.int IntKind.i64 (bs.getD k default).fst,SV.int IntKind.i64 (bs.getD k default).snd]) bs:=⟨rfl,rfl,fun k _=>Yc _⟩
  dsimp only[v37,Yjj,diaC,enc2,Yjl,Yjo,v64,Yjm,Yjp,v98,Yjk,Yjn,v40,go_sem,reduceIte]
  simp only[Yd,YE5,YE3,reduceCtorEq,YE2]
  intro l
  obtain⟨S,hS⟩:∃S,S=(⟨d,c,bs,mn,md,cn,cd⟩:Scl):=⟨_,rfl⟩
  obtain⟨p,hp⟩:∃p:Iv->Bool,p=fun x=>decide (x.2<=L):=⟨_,rfl⟩
  obtain⟨R,hR⟩:∃R,R=fstF S low p:=⟨_,rfl⟩
  have h:CSat (.fin (.tup [.int .i64 R.1,.int .i64 R.2]) []) k:=by rw[hR,hp,hS];exact h
  refine Loop.keep [0,0,0,0] (Nat×Int) (fun s=>[(5,.int .i64 s.2)]) (fun _=>[]) [] (fun s=>R=fstL S p s.1 s.2/\0<=s.2/\s.2<=140/\140<=s.2+s.1) (fun s=>s.1) ?_ ?_
  ·refine⟨(200,low),⟨hR,h0,h1,by simp only;omega⟩,?_⟩
   dsimp only[go_sem,reduceIte]
   simp only[Ya]
   decide
  ·rintro⟨f,m⟩ ⟨hf,hm0,hm1,hmf⟩
   dsimp only at hf hm0 hm1 hmf
   dsimp only[Yjj,diaC,enc2,Yjl,Yjo,v64,Yjm,Yjp,v98,Yjk,Yjn,v40,go_sem,reduceIte]
   simp only[Yd,YE5,YE3,reduceCtorEq,YE2]
   refine⟨fun hlt=>⟨bs,⟨self,hs,hm0,hlt⟩,fun hq=>?_,fun hq=>?_⟩,fun hge=>?_⟩
   ·obtain⟨g,rfl⟩:∃g,f=g+1:=⟨f-1,by omega⟩
    rw[fstL,if_neg (by omega),if_pos (by rw[hp,hS];simp only;rw[decide_eq_true hq])]at hf
    rw[hf]at h
    exact Ybn h
   ·obtain⟨g,rfl⟩:∃g,f=g+1:=⟨f-1,by omega⟩
    rw[fstL,if_neg (by omega),if_neg (by rw[hp,hS];simp only;rw[decide_eq_false hq];decide)]at hf
    refine⟨(g,m+1),⟨hf,by simp only;omega,by simp only;omega,by simp only;omega⟩,by simp only;omega,?_⟩
    rw[YE7 (m+1) (by omega)]
    simp only[Ya]
    decide
   ·have e:R=(0,4):=by
     rw[hf]
     cases f with
     |zero=>rfl
     |succ f=>rw[fstL,if_pos (by omega)]
    rw[e]at h
    exact Ybn h
 ·exact h.1.elim
def SK21:Env:={ ct:=fun n=>match n with|10=>some chkLC|39=>some hasC|20=>some diaC|37=>some fstC|_=>none,fn:=fun _=>none,meth:=fun _ _=>none}
theorem Yjf:SK21.ct 10=some chkLC:=rfl
theorem Yji:SK21.ct 39=some hasC:=rfl
theorem Yjg:SK21.ct 20=some diaC:=rfl
theorem Yjh:SK21.ct 37=some fstC:=rfl
theorem Ywt:Yu YE8 SK21:=by
 refine⟨fun f c h=>?_,fun f vf h=>?_,(fun _ _ _ h=>by cases h),by kernel_rfl,(fun _ h=>by cases h)⟩
 ·simp only[SK21]at h
  split at h
  ·cases h;exact⟨Ypx,Tryz.f10,Tryz.func10,by kernel_rfl,by kernel_rfl⟩
  ·cases h;exact⟨Yu8,Tryz.f39,Tryz.func39,by kernel_rfl,by kernel_rfl⟩
  ·cases h;exact⟨YpI,Tryz.f20,Tryz.func20,by kernel_rfl,by kernel_rfl⟩
  ·cases h;exact⟨fst_c,Tryz.f37,Tryz.func37,by kernel_rfl,by kernel_rfl⟩
  ·cases h
 ·cases h
theorem wid_c:widC.ok YE8 17:=by
 refine Yb Tryz.func17 YDY Ywt 600 widC fun args k h=>?_
 simp only[widC]at h
 split at h
 ·rename_i d c tt z n sz get mn md cn cd d' c' tt' z' n' sz' get' mn' md' cn' cd' note
  obtain⟨bs,bt,⟨⟨rfl,rfl,hg⟩,hn,⟨rfl,rfl,hg'⟩,hn'⟩,h⟩:=h
  refine⟨[.agg [.int .i64 d,.int .i64 c,.vs tt z bs.length 2 (fun k=>enc2 (bs.getD k default)),.int .i64 mn,.int .i64 md,.int .i64 cn,.int .i64 cd],.agg [.int .i64 d',.int .i64 c',.vs tt' z' bt.length 2 (fun k=>enc2 (bt.getD k default)),.int .i64 mn',.int .i64 md',.int .i64 cn',.int .i64 cd'],.int .i64 note],⟨⟨⟨rfl,rfl⟩,⟨rfl,rfl⟩,⟨id,rfl,rfl,rfl,hg⟩,⟨rfl,rfl⟩,⟨rfl,rfl⟩,⟨rfl,rfl⟩,⟨rfl,rfl⟩,trivial⟩,⟨⟨rfl,rfl⟩,⟨rfl,rfl⟩,⟨id,rfl,rfl,rfl,hg'⟩,⟨rfl,rfl⟩,⟨rfl,rfl⟩,⟨rfl,rfl⟩,⟨rfl,rfl⟩,trivial⟩,⟨rfl,rfl⟩,trivial⟩,?_⟩
  have self:lsP 2 enc2 bs.length 2 (fun k=>[SV.int IntKind.i64 (bs.getD k default).fst,SV.int IntKind.i64 (bs.getD k default).snd]) bs:=⟨rfl,rfl,fun k _=>Yc _⟩
  have self':lsP 2 enc2 bt.length 2 (fun k=>[SV.int IntKind.i64 (bt.getD k default).fst,SV.int IntKind.i64 (bt.getD k default).snd]) bt:=⟨rfl,rfl,fun k _=>Yc _⟩
  dsimp only[v17,Yjf,Yji,Yjg,chkLC,hasC,diaC,enc2,Yjh,fstC,Int.toNat_zero,go_sem,reduceIte]
  simp only[Yd,YE5,YE3,reduceCtorEq,YE2]
  refine⟨bs,⟨self,hn⟩,fun hc=>?_,fun hc=>⟨bt,⟨self',hn'⟩,fun hd=>?_,fun hd=>?_⟩⟩
  ·rw[widF,if_pos hc]at h;exact Ybn h
  ·rw[widF,if_neg (by rw[hc];decide),if_pos hd]at h;exact Ybn h
  rw[widF,if_neg (by rw[hc];decide),if_neg (by rw[hd];decide)]at h
  refine⟨bs,⟨self,(Ya5 hc).1,hn⟩,fun he=>?_,fun he=>?_⟩
  ·rw[if_pos he]at h;exact Ybn h
  rw[if_neg (by rw[he];decide)]at h
  have hfs:=Ybr hc
  have hft:=Ybr hd
  have hlt:=(Ya5 hd).1
  simp only at hlt
  have hnote:=he
  simp only[hasS,YFd,decide_eq_true_eq]at hnote
  refine⟨bs,⟨self,hc,by omega,by omega⟩,?_⟩
  (try dsimp only[Yjf,Yji,Yjg,chkLC,hasC,diaC,enc2,Yjh,fstC,Int.toNat_zero,go_sem,reduceIte])
  (try simp only[Yd,YE5,YE3,reduceCtorEq,YE2])
  have h5:0<=(bt.getD 0 default).fst/\(bt.getD 0 default).fst<=139:=hft
  rw[show YcG ⟨d',c',bt,mn',md',cn',cd'⟩=(bt.getD 0 default).1 from rfl]at h
  refine⟨⟨by omega,by omega⟩,bt,⟨self',hd,h5.1,by omega⟩,by decide,by decide,fun hx=>?_,fun hx=>?_⟩
  ·rw[if_pos hx]at h;exact Ybn h
  ·rw[if_neg (fun hh=>hh hx)]at h
   have hq:0<=(fstF ⟨d',c',bt,mn',md',cn',cd'⟩ (bt.getD 0 default).fst fun x=>decide (x.2<=(diaS ⟨d,c,bs,mn,md,cn,cd⟩ note).1)).1/\(fstF ⟨d',c',bt,mn',md',cn',cd'⟩ (bt.getD 0 default).fst fun x=>decide (x.2<=(diaS ⟨d,c,bs,mn,md,cn,cd⟩ note).1)).1<=139:=by
    rcases YjT (s:=⟨d',c',bt,mn',md',cn',cd'⟩) (p:=fun x=>decide (x.2<=(diaS ⟨d,c,bs,mn,md,cn,cd⟩ note).1)) h5.1 (by omega)with⟨_,g2,g3,_⟩ | ⟨g1,_⟩
    ·omega
    ·rw[g1]at hx;cases hx
   rw[YE7 _ (by omega)]
   exact Ybn h
 ·exact h.1.elim
def exS:Scl:=⟨155500,0,[(36,16)],1,4,1,4⟩
theorem Ytt:chkL exS=0:=by decide+kernel
theorem Yts:(sclF (piF (155500,155500)).1 1 4)=((122129,122130),0)/\sclF (122129,122130) 1 4=((30532,30533),0):=by decide+kernel
def v15:VF:=⟨4,[.cell 0 true 7],(ZR [u1 0 (.alloc [(.int .i64 0),(.int .i64 0),.nil,(.int .i64 0),(.int .i64 0),(.int .i64 0),(.int .i64 0)]) []] (ZR [u1 1 (.build [(.int .i64 0),(.int .i64 0)] [(0,1),(1,1)]) [.cn (.int .i64 36),.cn (.int .i64 16)],u1 2 (.buildSlice 2 1 [(.int .i64 0),(.int .i64 0)] [(0,2)]) [.tm 1],u1 3 (.build [(.int .i64 0),(.int .i64 0),.nil,(.int .i64 0),(.int .i64 0),(.int .i64 0),(.int .i64 0)] [(0,1),(2,1),(3,1),(4,1),(5,1),(6,1)]) [.cn (.int .i64 155500),.tm 2,.cn (.int .i64 1),.cn (.int .i64 4),.cn (.int .i64 1),.cn (.int .i64 4)],Zs 7 0 3] .ret))⟩
theorem YDW:Yg YE8 Tryz.f15=some v15:=by kernel_rfl
def v18:VF:=⟨24,[.tmp 6],(ZR [u1 6 .mov [.cn (.bool false)]] (ZR [u1 10 (.call 15) [],Zm 11 0,Zd 12 6 10 11,Zm 9 12,Ze 13 0 9,Ze 14 1 9,Zn 7,Zs 2 7 13,Zm 8 14] (ZR [Zm 15 8,Zq 16 .eql 15 0,Zm 17 16,u2 18 17 true (.load true 2) [.tm 7],Zg 19 17 true 1,Zg 20 17 true 2,u2 21 17 true (.build [(.int .i64 0),(.int .i64 0)] [(0,1),(1,1)]) [.tm 19,.tm 20],u2 22 17 true (.eqv false [true,true]) [.tm 18,.tm 21],u1 23 .and [.tm 17,.tm 22],Zm 6 23] .ret)))⟩
theorem YDZ:Yg YE8 Tryz.f18=some v18:=by kernel_rfl
def v5:VF:=⟨76,[.tmp 0],(ZR [u1 0 .mov [.cn (.bool false)]] (ZR [u1 11 (.call 15) [],u1 12 (.call 8) [.tm 11,.cn (.int .i64 36)],Zm 10 12,Ze 13 0 10,Ze 14 1 10,Ze 15 2 10,Zn 1,Zn 2,Zs 2 1 13,Zs 2 2 14,Zm 3 15] (ZR [u1 17 (.call 15) [],u1 18 (.call 16) [.tm 17,.cn (.int .i64 36)],Zm 16 18,Ze 19 0 16,Ze 20 1 16,Zm 4 19,Zm 5 20] (ZR [u1 22 (.call 15) [],u1 23 (.call 15) [],u1 24 (.call 17) [.tm 22,.tm 23,.cn (.int .i64 52)],Zm 21 24,Ze 25 0 21,Ze 26 1 21,Zm 6 25,Zm 7 26] (ZR [u1 28 (.call 15) [],u1 29 (.call 6) [.tm 28,.cn (.int .i64 35)],Zm 27 29,Ze 30 0 27,Ze 31 1 27,Zn 8,Zs 2 8 30,Zm 9 31] (ZR [u1 32 (.call 18) [.cn (.int .i64 36),.cn (.int .i64 155500),.cn (.int .i64 155500)],Zm 33 32,u2 34 33 true (.call 18) [.cn (.int .i64 52),.cn (.int .i64 77750),.cn (.int .i64 77750)],u1 35 .and [.tm 33,.tm 34],Zm 36 35,u2 37 36 true (.call 18) [.cn (.int .i64 68),.cn (.int .i64 38875),.cn (.int .i64 38875)],u1 38 .and [.tm 36,.tm 37],Zm 39 38,u2 40 39 true (.call 18) [.cn (.int .i64 84),.cn (.int .i64 19437),.cn (.int .i64 19438)],u1 41 .and [.tm 39,.tm 40],Zm 42 41,Zg 43 42 true 3,u2 44 42 true (.cmp .eql) [.tm 43,.cn (.int .i64 0)],u1 45 .and [.tm 42,.tm 44],Zm 46 45,u2 47 46 true (.load true 2) [.tm 1],u2 48 46 true (.build [(.int .i64 0),(.int .i64 0)] [(0,1),(1,1)]) [.cn (.int .i64 122129),.cn (.int .i64 122130)],u2 49 46 true (.eqv false [true,true]) [.tm 47,.tm 48],u1 50 .and [.tm 46,.tm 49],Zm 51 50,u2 52 51 true (.load true 2) [.tm 2],u2 53 51 true (.build [(.int .i64 0),(.int .i64 0)] [(0,1),(1,1)]) [.cn (.int .i64 30532),.cn (.int .i64 30533)],u2 54 51 true (.eqv false [true,true]) [.tm 52,.tm 53],u1 55 .and [.tm 51,.tm 54],Zm 56 55,Zg 57 56 true 5,u2 58 56 true (.cmp .eql) [.tm 57,.cn (.int .i64 0)],u1 59 .and [.tm 56,.tm 58],Zm 60 59,Zg 61 60 true 4,u2 62 60 true (.cmp .eql) [.tm 61,.cn (.int .i64 52)],u1 63 .and [.tm 60,.tm 62],Zm 64 63,Zg 65 64 true 7,u2 66 64 true (.cmp .eql) [.tm 65,.cn (.int .i64 0)],u1 67 .and [.tm 64,.tm 66],Zm 68 67,Zg 69 68 true 6,u2 70 68 true (.cmp .eql) [.tm 69,.cn (.int .i64 0)],u1 71 .and [.tm 68,.tm 70],Zm 72 71,Zg 73 72 true 9,u2 74 72 true (.cmp .eql) [.tm 73,.cn (.int .i64 2)],u1 75 .and [.tm 72,.tm 74],Zm 0 75] .ret))))))⟩
theorem v5_is:Yg YE8 Tryz.f5=some v5:=by kernel_rfl
def exD(n:Int):Iv:=let r:=rtN 155500 (expF exS.bs n).1.toNat (expF exS.bs n).2.toNat;(r,if exN 155500 (expF exS.bs n).1.toNat (expF exS.bs n).2.toNat=true then(r:Int)else(r:Int)+1)
theorem YjQ{n:Int}(hn:0<=n/\n<=139):diaS exS n=exD n:=by
 obtain⟨m,num,den,p⟩:=prt Ytt hn
 have h:=YiN p
 have em:=p.em
 have e1:(m:Int)=155500:=by rw[<-em];rfl
 have e2:m=155500:=by omega
 have n1:(expF exS.bs n).1.toNat=num:=by rw[p.en];rfl
 have n2:(expF exS.bs n).2.toNat=den:=by rw[p.ed];rfl
 unfold diaS exD
 simp only
 rw[h,n1,n2,<-e2,show exS.c=0 from rfl]
 simp only[Int.zero_add]
theorem Yxk:diaS exS 36=(155500,155500):=by rw[YjQ (by decide)];decide+kernel
theorem Yxl:diaS exS 52=(77750,77750):=by rw[YjQ (by decide)];decide+kernel
theorem ex_68:diaS exS 68=(38875,38875):=by rw[YjQ (by decide)];decide+kernel
theorem ex_84:diaS exS 84=(19437,19438):=by rw[YjQ (by decide)];decide+kernel
theorem YBJ:∀i:Fin 16,77750<(exD (36+(i.1:Int))).2:=by decide+kernel
theorem YBI{n:Int}(h0:36<=n)(h1:n<=51):77750<(diaS exS n).2:=by
 rw[YjQ (by omega)]
 have:=YBJ ⟨(n-36).toNat,by omega⟩
 rw[show 36+(((n-36).toNat:Nat):Int)=n by omega]at this
 exact this
theorem Yu4{n:Int}(h0:36<=n)(h1:n<=52){p:Iv->Bool}(hp:∀x:Iv,0<=x.2->x.2<=3000000->(p x=true↔x.2<=77750)):fstF exS n p=(52,0):=by
 have h52:p (diaS exS 52)=true:=by rw[Yxl];exact(hp _ (by decide) (by decide)).2 (by decide)
 rcases YjT (s:=exS) (p:=p) (n:=n) (by omega) (by omega)with⟨k1,k2,k3,k4,k5⟩ | ⟨_,k2⟩
 ·have hr:=YpJ Ytt (note:=(fstF exS n p).1) (by omega)
  have hle:=(hp _ (by omega) hr.2.2.2).1 k4
  have e:(fstF exS n p).1=52:=by
   rcases Int.lt_trichotomy (fstF exS n p).1 52 with h|h|h
   ·have:=YBI (n:=(fstF exS n p).1) (by omega) (by omega);omega
   ·exact h
   ·have:=k5 52 h1 h
    rw[h52]at this;cases this
  exact Prod.ext e k1
 ·have:=k2 52 h1 (by decide)
  rw[h52]at this;cases this
theorem Yie:askS exS 36 36=0:=by decide+kernel
theorem YmJ:askS exS 35 35=2:=by decide+kernel
theorem YBD:diaF exS 36=((155500,155500),0):=by
 rw[diaF,if_neg (by rw[Yie];decide),Yxk]
theorem YBC:diaF exS 35=((0,0),2):=by
 rw[diaF,if_pos (by rw[YmJ];decide),YmJ]
theorem YBE:diaF exS 52=((77750,77750),0):=by
 rw[diaF,if_neg (by decide+kernel),Yxl]
theorem YBF:diaF exS 68=((38875,38875),0):=by
 rw[diaF,if_neg (by decide+kernel),ex_68]
theorem YBG:diaF exS 84=((19437,19438),0):=by
 rw[diaF,if_neg (by decide+kernel),ex_84]
theorem YBH:halF exS 36=(52,0):=by
 unfold halF
 rw[if_neg (by rw[Yie];decide),Yxk]
 refine Yu4 (by decide) (by decide) fun x h0 h1=>?_
 rw[YE7 (2*x.2) (by omega),decide_eq_true_eq]
 simp only
 omega
theorem YBL:widF exS exS 52=(0,0):=by
 unfold widF
 rw[if_neg (by rw[Ytt];decide),if_neg (by rw[Ytt];decide),if_neg (by decide),Yxl]
 have e:fstF exS (YcG exS) (fun x=>decide (x.2<=((77750,77750):Iv).1))=(52,0):=Yu4 (by decide) (by decide) fun x h0 h1=>by
  rw[decide_eq_true_eq]
 rw[e];rfl
theorem YBK:mouS exS 36=((122129,122130),(30532,30533),0):=by
 obtain⟨m1,m2⟩:=Yts
 unfold mouS cutS widS
 rw[if_neg (by rw[Yie];decide),Yxk,show exS.mn=1 from rfl,show exS.md=4 from rfl,show exS.cn=1 from rfl,show exS.cd=4 from rfl,m1,m2]
def SK31:Env:={ ct:=fun n=>match n with|6=>some diaFC|8=>some mouC|16=>some halC|17=>some widC|_=>none,fn:=fun n=>match n with|15=>some v15|18=>some v18|_=>none,meth:=fun _ _=>none}
theorem YsY:SK31.ct 6=some diaFC:=rfl
theorem YsZ:SK31.ct 8=some mouC:=rfl
theorem YoN:SK31.ct 16=some halC:=rfl
theorem YoO:SK31.ct 17=some widC:=rfl
theorem YoM:SK31.ct 15=none:=rfl
theorem YoQ:SK31.fn 15=some v15:=rfl
theorem YoP:SK31.ct 18=none:=rfl
theorem YoR:SK31.fn 18=some v18:=rfl
theorem Ywv:Yu YE8 SK31:=by
 refine⟨fun f c h=>?_,fun f vf h=>?_,(fun _ _ _ h=>by cases h),by kernel_rfl,(fun _ h=>by cases h)⟩
 ·simp only[SK31]at h
  split at h
  ·cases h;exact⟨YuT,Tryz.f6,Tryz.func6,by kernel_rfl,by kernel_rfl⟩
  ·cases h;exact⟨YCq,Tryz.f8,Tryz.func8,by kernel_rfl,by kernel_rfl⟩
  ·cases h;exact⟨hal_c,Tryz.f16,Tryz.func16,by kernel_rfl,by kernel_rfl⟩
  ·cases h;exact⟨wid_c,Tryz.f17,Tryz.func17,by kernel_rfl,by kernel_rfl⟩
  ·cases h
 ·simp only[SK31]at h
  split at h
  ·cases h;exact⟨Tryz.f15,Tryz.func15,YDW,Tryz.f15,Tryz.func15,by kernel_rfl,by kernel_rfl⟩
  ·cases h;exact⟨Tryz.f18,Tryz.func18,YDZ,Tryz.f18,Tryz.func18,by kernel_rfl,by kernel_rfl⟩
  ·cases h
theorem Yy1:trueC.ok YE8 5:=by
 refine Yb Tryz.func5 v5_is Ywv 600 trueC fun args k h=>?_
 simp only[trueC]at h
 split at h
 ·refine⟨[],by simp [leL,le],?_⟩
  dsimp only[v5,YsY,YsZ,YoN,YoO,diaFC,mouC,halC,widC,enc2,YoM,YoQ,v15,YoP,YoR,v18,go_sem,reduceIte]
  simp only[Yd,YE5,YE3,reduceCtorEq,YE2]
  have D36:=YBD
  have D35:=YBC
  have D52:=YBE
  have D68:=YBF
  have D84:=YBG
  have DM:=YBK
  have DH:=YBH
  have DW:=YBL
  unfold exS at D36 D35 D52 D68 D84 DM DH DW
  repeat (first| (refine YFy (by decide) ?_) | (refine Exists.intro [((36:Int),(16:Int))] ?_) | (refine YFy ⟨rfl,rfl,fun k hk=>by obtain rfl:k=0:=(by omega);exact Yc _⟩ ?_) | (refine YFy ⟨⟨rfl,rfl,fun k hk=>by obtain rfl:k=0:=(by omega);exact Yc _⟩,⟨rfl,rfl,fun k hk=>by obtain rfl:k=0:=(by omega);exact Yc _⟩⟩ ?_) | (refine YFy (fun _=>⟨rfl,rfl,fun k hk=>by obtain rfl:k=0:=(by omega);exact Yc _⟩) ?_))
  simp only[D36,D35,DM,DH,DW]
  repeat' (first|decide|exact⟨rfl,rfl,fun k hk=>by obtain rfl:k=0:=(by omega);exact Yc _⟩ |apply YFy| (refine Exists.intro [((36:Int),(16:Int))] ?_) |intro hh)
  all_goals simp only[D52,D68,D84]at*
  simp only[decide_true,Bool.and_self,Bool.and_true,YGm]
  exact YO h
 ·exact h.1.elim
def v3:VF:=⟨79,[.tmp 4],(ZR [u1 2 .box [.tm 0],u1 4 .mov [.cn (.bool false)]] (.seq (ZR [Za 15 2 2,Zf 16 1 15,Zl 17 16,Zq 18 .gtr 17 100] (ZC 18 (ZR [u1 19 (.call 5) [],Zm 4 19] .ret) .skip)) (ZR [Zt 21 7 2,Zm 22 1,Zd 23 6 21 22,Zm 20 23,Ze 24 0 20,Ze 25 1 20,Zn 5,Zs 2 5 24,Zm 6 25] (ZR [Zt 27 7 2,Zm 28 1,Zd 29 7 27 28,Zm 26 29,Ze 30 0 26,Ze 31 1 26,Zn 7,Zs 2 7 30,Zm 8 31] (ZR [Zt 33 7 2,Zm 34 1,Zd 35 8 33 34,Zm 32 35,Ze 36 0 32,Ze 37 1 32,Ze 38 2 32,Zn 9,Zn 10,Zs 2 9 36,Zs 2 10 37,Zm 11 38] (ZR [Zt 40 7 2,Zm 41 1,Zd 42 9 40 41,Zm 39 42,Ze 43 0 39,Ze 44 1 39,Ze 45 2 39,Zn 12,Zn 13,Zs 2 12 43,Zs 2 13 44,Zm 14 45] (.seq (.draw [] [Zw 46 7 2,Zw 48 7 2,w1 47 (.call 10) [.tm 46],w1 49 (.call 11) [.tm 48],w1 50 (.cmp .eql) [.tm 47,.tm 49],Zu 51 50,⟨u2 52 51 true (.load true 2) [.tm 5],[]⟩,⟨u2 53 51 true (.load true 2) [.tm 7],[]⟩,⟨u2 54 51 true (.eqv false [true,true]) [.tm 52,.tm 53],[]⟩,w1 55 .and [.tm 51,.tm 54],Zu 56 55,⟨Zg 57 56 true 6,[]⟩,⟨Zg 58 56 true 8,[]⟩,⟨u2 59 56 true (.cmp .eql) [.tm 57,.tm 58],[]⟩,w1 60 .and [.tm 56,.tm 59],Zu 61 60,⟨u2 62 61 true (.load true 2) [.tm 9],[]⟩,⟨u2 63 61 true (.load true 2) [.tm 12],[]⟩,⟨u2 64 61 true (.eqv false [true,true]) [.tm 62,.tm 63],[]⟩,w1 65 .and [.tm 61,.tm 64],Zu 66 65,⟨u2 67 66 true (.load true 2) [.tm 10],[]⟩,⟨u2 68 66 true (.load true 2) [.tm 13],[]⟩,⟨u2 69 66 true (.eqv false [true,true]) [.tm 67,.tm 68],[]⟩,w1 70 .and [.tm 66,.tm 69],Zu 71 70,⟨Zg 72 71 true 11,[]⟩,⟨Zg 73 71 true 14,[]⟩,⟨u2 74 71 true (.cmp .eql) [.tm 72,.tm 73],[]⟩,w1 75 .and [.tm 71,.tm 74],Zu 76 75,⟨u2 77 76 true (.call 5) [],[]⟩,w1 78 .and [.tm 76,.tm 77],Zu 4 78]) .ret)))))))⟩
theorem v3_is:Yg YE8 Tryz.f3=some v3:=by kernel_rfl
def shS:List Sh:=[.int .i64,.int .i64,.slice YwH,.int .i64,.int .i64,.int .i64,.int .i64]
def YB1:List PSh:=[⟨true,shS⟩,⟨false,[.int .i64]⟩]
theorem YDG{cs:List SV}(h:okSL shS cs):∃(z:Bool) (s:Scl),s.bs.length<=9223372036854775807/\leXL cs [.int .i64 s.d,.int .i64 s.c,.vs false z s.bs.length 2 (fun k=>enc2 (s.bs.getD k default)),.int .i64 s.mn,.int .i64 s.md,.int .i64 s.cn,.int .i64 s.cd]:=by
 obtain⟨_,_,rfl,⟨n1,rfl,_⟩,e1⟩:=YS h
 obtain⟨_,_,rfl,⟨n2,rfl,_⟩,e2⟩:=YS e1
 obtain⟨_,_,rfl,h3,e3⟩:=YS e2
 obtain⟨_,_,rfl,⟨n4,rfl,_⟩,e4⟩:=YS e3
 obtain⟨_,_,rfl,⟨n5,rfl,_⟩,e5⟩:=YS e4
 obtain⟨_,_,rfl,⟨n6,rfl,_⟩,e6⟩:=YS e5
 obtain⟨_,_,rfl,⟨n7,rfl,_⟩,e7⟩:=YS e6
 cases Ye2 e7
 obtain⟨z,l,hl,hle⟩:=YBY h3
 rw[YqT]at hl
 exact⟨z,⟨n1,n2,l,n4,n5,n6,n7⟩,hl,⟨rfl,rfl⟩,⟨rfl,rfl⟩,hle,⟨rfl,rfl⟩,⟨rfl,rfl⟩,⟨rfl,rfl⟩,⟨rfl,rfl⟩,trivial⟩
def SD0:Env:={ ct:=fun n=>match n with|6=>some diaFC|7=>some diaFC|8=>some mouC|9=>some mouC|10=>some chkLC|11=>some chkLC|5=>some trueC|_=>none,fn:=fun _=>none,meth:=fun _ _=>none}
theorem Ywi:SD0.ct 6=some diaFC:=rfl
theorem Ywj:SD0.ct 7=some diaFC:=rfl
theorem Ywk:SD0.ct 8=some mouC:=rfl
theorem Ywl:SD0.ct 9=some mouC:=rfl
theorem YsW:SD0.ct 10=some chkLC:=rfl
theorem YsX:SD0.ct 11=some chkLC:=rfl
theorem Ywh:SD0.ct 5=some trueC:=rfl
theorem YAL:Yu YE8 SD0:=by
 refine⟨fun f c h=>?_,fun f vf h=>?_,(fun _ _ _ h=>by cases h),by kernel_rfl,(fun _ h=>by cases h)⟩
 ·simp only[SD0]at h
  split at h
  ·cases h;exact⟨YuT,Tryz.f6,Tryz.func6,by kernel_rfl,by kernel_rfl⟩
  ·cases h;exact⟨YyP,Tryz.f7,Tryz.func7,by kernel_rfl,by kernel_rfl⟩
  ·cases h;exact⟨YCq,Tryz.f8,Tryz.func8,by kernel_rfl,by kernel_rfl⟩
  ·cases h;exact⟨YDA,Tryz.f9,Tryz.func9,by kernel_rfl,by kernel_rfl⟩
  ·cases h;exact⟨Ypx,Tryz.f10,Tryz.func10,by kernel_rfl,by kernel_rfl⟩
  ·cases h;exact⟨Yrx,Tryz.f11,Tryz.func11,by kernel_rfl,by kernel_rfl⟩
  ·cases h;exact⟨Yy1,Tryz.f5,Tryz.func5,by kernel_rfl,by kernel_rfl⟩
  ·cases h
 ·cases h
theorem YB2:(lawC YB1).ok YE8 3:=by
 refine Yb Tryz.func3 v3_is YAL 600 (lawC YB1) fun args k h=>?_
 obtain⟨ha,hk⟩:=h
 obtain⟨_,_,rfl,h1,e1⟩:=Yd8 ha
 obtain⟨cs,rfl,hcs⟩:=Ylp h1
 obtain⟨_,_,rfl,h3,e3⟩:=Yd8 e1
 cases Ykj e3
 obtain⟨note,rfl,hnote⟩:=Ylq h3
 obtain⟨z,⟨d,c,bs,mn,md,cn,cd⟩,hl,hle⟩:=YDG hcs
 simp only at hl hle
 refine⟨[.agg [.int .i64 d,.int .i64 c,.vs false z bs.length 2 (fun k=>enc2 (bs.getD k default)),.int .i64 mn,.int .i64 md,.int .i64 cn,.int .i64 cd],.int .i64 note],⟨Yiu _ _ hle (by simp only[YfS,YhV,YuQ,Yk2,and_self]),⟨rfl,rfl⟩,trivial⟩,?_⟩
 have self:lsP 2 enc2 bs.length 2 (fun k=>[SV.int IntKind.i64 (bs.getD k default).fst,SV.int IntKind.i64 (bs.getD k default).snd]) bs:=⟨rfl,rfl,fun k _=>Yc _⟩
 dsimp only[v3,Ywi,Ywj,Ywk,Ywl,YsW,YsX,Ywh,diaFC,mouC,chkLC,trueC,enc2,go_sem,reduceIte]
 simp only[Yd,YE5,YE3,reduceCtorEq,YE2]
 have hk':k (.bool true) []:=hk
 refine⟨fun _=>YO hk',fun _=>⟨bs,⟨self,hl⟩,by decide,by decide,bs,⟨self,hl⟩,by decide,by decide,bs,⟨self,hl⟩,by decide,by decide,by decide,bs,⟨self,hl⟩,by decide,by decide,by decide,bs,⟨self,hl⟩,bs,⟨self,hl⟩,?_⟩⟩
 simp only[decide_true,Bool.and_self,Bool.and_true,YGm]
 exact YO hk'
end Go.Proofs.YtmiclogmkfobgaaGreat
namespace Go.Proofs.YtmiclogmkfobgaaGreat
open Go Go.Vx Go.RowKit
set_option maxRecDepth 100000
theorem YCC:ownKnob YE8.godebug=none:=by kernel_rfl
theorem YxN:laidOutB YE8=true:=by kernel_rfl
theorem Ycz(os:Os)(started:os.Started)(H:Type)(enc:TypeId×Value->H):
 ReturnsInHanded {} Tryz.checked os 3 .any (Rows.scalingDiameterSpec.pre6 enc YE8 Tryz.f3 Rows.scalingDiameterRow.domain false) (Rows.scalingDiameterSpec.post enc YE8 Tryz.f3 false true false false):=
 YnP (C:=Tryz.checked) (tb:=4) YCC started (by kernel_rfl) Tryz.func3 YxN
  (ChangeSpec.witness6 (enc:=enc) (C:=Tryz.checked) false ⟨#[], #[.agg #[.int .i64 0,.int .i64 0,.slice none 0 0,.int .i64 0,.int .i64 0,.int .i64 0,.int .i64 0],.int .i64 0],[]⟩ 8 (by kernel_rfl) (by kernel_rfl) (by kernel_rfl) (by kernel_rfl))
  (by kernel_rfl) (by kernel_rfl) (by kernel_rfl) (by kernel_rfl) rfl (fun ds h=>match ds,h with| [_,_],_=>⟨rfl,rfl,rfl⟩) YB2
theorem scalingDiameter_holds:Rows.ScalingDiameterSaid:=
 OpenClaim.holds_of_wide 3 Tryz.f3 rfl rfl rfl rfl rfl rfl rfl ⟨rfl,rfl,rfl,rfl,rfl⟩ rfl rfl rfl rfl rfl (by kernel_rfl) Tryz.func3 (by kernel_rfl)
  (of_decide_eq_true (by kernel_rfl)) (by unfold Func.isWrapper;first| (rw[if_pos (by decide+kernel)];kernel_rfl) | (rw[if_neg (by decide+kernel)];exact⟨rfl,rfl⟩))
  (fun os started H enc _=>Ycz os started H enc)
end Go.Proofs.YtmiclogmkfobgaaGreat
