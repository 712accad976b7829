/- The reference's gcd and base, walked. -/
import Derived.Test.YtlhmikjnholpnaaGreatDoorMgX53e
import Derived.Test.YtlhmikjnholpnaaGreatDoorMgX53d
open And renaming intro->YC
open Bool renaming and->Qi,and_eq_true->YS,or_eq_false_iff->K5,or_eq_true->Qj
open Int renaming eq_ofNat_of_zero_le->Un,mul_le_mul_of_nonneg_right->XC,mul_nonneg->ZZ,natCast_add->VH,natCast_mul->Qr,tdiv_eq_ediv_of_nonneg->Wo,toNat_natCast->Yj
open Go.IntWalk renaming i64_in->Yg,up_tdiv->Wq,up_tmod->VI
open List renaming cons_append->Ws,getD_eq_getElem?_getD->Kh,getElem?_append_left->QY,getElem?_append_right->Z0,length_append->JO,length_nil->Z1,length_take->Qs,mem_append->Ky,mem_singleton->Jj,take_length->Xt
open Nat renaming add->Kg,add_assoc->Zk,add_mul->YM,add_zero->KO,beq->YJ,ble->Y7,div->Jb,div_add_mod->KP,div_le_self->XD,div_mul_le_self->XE,eq_zero_or_pos->Jc,gcd->YI,gcd_dvd_left->WI,le_of_ble_eq_true->KC,le_of_eq->Yx,le_of_lt->JZ,le_of_mul_le_mul_right->Ki,le_refl->Yt,le_trans->Yh,lt_of_le_of_lt->JC,lt_of_not_le->WJ,lt_or_ge->YY,mod->KS,mod_lt->Kj,mul->K2,mul_add->Ka,mul_assoc->YA,mul_comm->Yl,mul_le_mul->YX,mul_le_mul_left->Yz,mul_le_mul_right->Yp,mul_left_comm->Jd,mul_lt_mul_of_pos_right->ZB,mul_one->Y0,mul_pos->Y1,mul_pow->Yq,mul_right_comm->Vh,mul_zero->ZD,not_lt_zero->J8,one_mul->Y2,pow->KI,pow_add->Yo,pow_le_pow_iff_left->ZF,pow_le_pow_left->YG,pow_le_pow_right->Kp,pow_mul->Ym,pow_one->QO,pow_pos->YB,pow_succ->YH,pow_zero->Jk,reduceAdd->Ya,reduceBEq->Yk,reduceEqDiff->Yc,reduceLeDiff->Ye,zero_add->KJ,zero_le->JJ,zero_mul->JP
open Or renaming inl->KD,inr->KK
open Go.Proofs.Tryz renaming prog->Yb
set_option linter.all false
namespace Go.Proofs.YtlhmikjnholpnaaGreatDoor.Q
open Go Go.Vx
set_option maxRecDepth 100000
set_option maxHeartbeats 4000000
def YcC:VF:={ ntmps:=12,res:=[.tmp 4],body:=
 (ZR [Zi 4 0]
 (.seq (.block 0 (.loop (.seq (ZR [Zm 5 1,
 Zq 6 .neq 5 0]
 (ZC 6 .skip
  (.exit 0)))
 (.block 1 (.draw [] [Zu 7 1,
 Zu 8 0,
 Zu 9 1,
 w1 10 .rem [.tm 8,.tm 9],
 Zu 0 7,
 Zu 1 10])))))
 (ZR [Zm 11 0,
 Zm 4 11]
 .ret)))}
theorem YoO:Yn Yb Tryz.f102=some YcC:=by kernel_rfl
def Ydf:VF:={ ntmps:=85,res:=[.tmp 2],body:=
 (ZR [u1 2 .mov [.cn .nil]]
 (ZR [u1 3 .mov [.cn .nil]]
 (.seq (ZR [Zi 4 0]
 (.block 0 (.loop (.seq (ZR [Zm 11 4,
 Zm 12 0,
 Zl 13 12,
 Zr 14 .lss 11 13]
 (ZC 14 .skip
  (.exit 0)))
 (.seq (.block 1 (ZR [Zm 17 0,
 Zm 18 4,
 Zx 19 2 17 18,
 Za 20 0 19,
 Zf 21 1 20,
 Zq 22 .gtr 21 1]
 (ZC 22 (.region [Zm 23 3,
 Zm 24 0,
 Zm 25 4,
 Zx 26 2 24 25,
 Za 27 0 26,
 Zf 28 1 27,
 u1 29 (.buildSlice 1 1 [(.int .i64 0)] [(0,1)]) [.tm 28],
 u1 30 (.append 1 8 [(.int .i64 0)]) [.tm 23,.tm 29],
 Zm 3 30])
  .skip)))
 (.region [Zm 15 4,
 Zp 16 15 1,
 Zm 4 16]))))))
 (.seq (ZR [Zi 5 0]
 (.block 2 (.loop (.seq (ZR [Zm 31 5,
 Zm 32 3,
 Zl 33 32,
 Zr 34 .lss 31 33]
 (ZC 34 .skip
  (.exit 2)))
 (.seq (.block 3 (ZR [Zi 6 0]
 (.block 4 (.loop (.seq (ZR [Zm 37 6,
 Zm 38 5,
 Zr 39 .lss 37 38]
 (ZC 39 .skip
  (.exit 4)))
 (.seq (.block 5 (.seq (.draw [] [Zu 42 3,
 Zu 43 5,
 ZX 44 1 42 43,
 Zv 45 1 44,
 Zu 46 3,
 Zu 47 6,
 ZX 48 1 46 47,
 Zv 49 1 48,
 Zz 50 102 45 49,
 Zu 7 50])
 (.seq (ZR [Zm 51 7,
 Zq 52 .eql 51 1]
 (ZC 52 (.exit 5)
  .skip))
 (ZR [u1 8 .mov [.cn .nil]]
 (.seq (ZR [Zi 9 0]
 (.block 6 (.loop (.seq (ZR [Zm 53 9,
 Zm 54 3,
 Zl 55 54,
 Zr 56 .lss 53 55]
 (ZC 56 .skip
  (.exit 6)))
 (.seq (.block 7 (ZR [Zm 59 3,
 Zm 60 9,
 Zx 61 1 59 60,
 Zf 62 1 61,
 Zm 10 62]
 (.seq (ZR [Zm 63 9,
 Zm 64 5,
 Zr 65 .eql 63 64,
 Zm 66 65,
 Zg 67 66 false 9,
 Zg 68 66 false 6,
 u2 69 66 false (.cmp .eql) [.tm 67,.tm 68],
 u1 70 .or [.tm 66,.tm 69]]
 (ZC 70 (.region [Zm 71 10,
 Zm 72 7,
 u1 73 .quo [.tm 71,.tm 72],
 Zm 10 73])
  .skip))
 (ZR [Zm 74 10,
 Zq 75 .gtr 74 1]
 (ZC 75 (.region [Zm 76 8,
 Zm 77 10,
 u1 78 (.buildSlice 1 1 [(.int .i64 0)] [(0,1)]) [.tm 77],
 u1 79 (.append 1 8 [(.int .i64 0)]) [.tm 76,.tm 78],
 Zm 8 79])
  .skip)))))
 (.region [Zm 57 9,
 Zp 58 57 1,
 Zm 9 58]))))))
 (ZR [Zm 80 8,
 Zm 81 7,
 u1 82 (.buildSlice 1 1 [(.int .i64 0)] [(0,1)]) [.tm 81],
 u1 83 (.append 1 8 [(.int .i64 0)]) [.tm 80,.tm 82],
 Zm 3 83]
 (ZR [Zi 5 (-1),
 Zi 6 0]
 (.exit 4))))))))
 (.region [Zm 40 6,
 Zp 41 40 1,
 Zm 6 41])))))))
 (.region [Zm 35 5,
 Zp 36 35 1,
 Zm 5 36]))))))
 (ZR [Zm 84 3,
 Zm 2 84]
 .ret)))))}
theorem Ypx:Yn Yb Tryz.f153=some Ydf:=by kernel_rfl
def Q4:Env:=mkE [] []
theorem YdT:YD Yb Q4:=eo (by kernel_rfl) trivial trivial
theorem gcd_c:gcdC.ok Yb 102:=by
 refine Yy Tryz.func102 YoO YdT 100 gcdC fun args k h=>?_
 simp only[gcdC]at h
 split at h
 ·rename_i a b
  obtain⟨x,y,⟨rfl,rfl,hx,hy⟩,h⟩:=h
  refine⟨[.int .i64 x,.int .i64 y],by simp [leL,le],?_⟩
  (try dsimp only[YcC,go_sem,reduceIte,Ya])
  (try simp only[Yd,Ya,Ye,reduceCtorEq,Yc])
  refine Loop.keep [] (Nat×Nat) (fun s=>[(0,.int .i64 s.1),(1,.int .i64 s.2)]) (fun _=>[]) [] (fun s=>YI s.1 s.2=YI x y/\s.1<=9223372036854775807/\s.2<=9223372036854775807) (fun s=>s.2) ?_ ?_
  ·refine⟨(x,y),⟨rfl,hx,hy⟩,?_⟩
   (try dsimp only[go_sem,reduceIte,Ya])
   simp only[Yf]
  ·rintro⟨p,q⟩ ⟨he,hp,hq⟩
   dsimp only at he hp hq
   (try dsimp only[go_sem,reduceIte,Ya])
   (try simp only[Yd,Ya,Ye,reduceCtorEq,Yc])
   refine⟨fun hc=>⟨hc,(q,p%q),⟨?_,by simp only;omega,?_⟩,?_,?_⟩,fun hc=>Kb ?_⟩
   ·rw[<-he,Nat.gcd_comm p q]
    show YI q (p%q)=YI q p
    rw[Nat.gcd_comm q (p%q),<-Nat.gcd_rec]
   ·have:=Kj p (by omega:0<q)
    simp only;omega
   ·exact Kj p (by omega:0<q)
   ·have e:(p:Int).tmod q=((p%q:Nat):Int):=VI rfl rfl
    rw[e]
    simp only[Yf]
   ·obtain rfl:q=0:=by omega
    rw[Nat.gcd_zero_right]at he
    rw[he];exact h
 ·exact h.1.elim
def baseC:Ctr:={ alias:=false,of:=fun l=>match l with
 | [.vs _ _ n sz get]=> .ex (List (Int×Int)) fun l=> .pre (lsP 2 Yw n sz get l/\(∀x,x∈l->okU x)/\n<=20) (.all (List Nat) fun r=> .imp (BOk l r/\Cop r) (.all Bool fun y=> .fin (.vs true y r.length 1 (fun k=>JS (r.getD k 0))) []))
 |_=>noC}
def Q5:Env:=mkE [(102,gcdC)] []
theorem YdU:YD Yb Q5:=eo (by kernel_rfl) ⟨⟨gcd_c,_,Tryz.func102,rfl,rfl⟩,trivial⟩ trivial
theorem YlA:baseC.ok Yb 153:=by
 refine Yy Tryz.func153 Ypx YdU 800 baseC fun args k h=>?_
 simp only[baseC]at h
 split at h
 ·rename_i tt z n sz get
  obtain⟨l,⟨⟨rfl,rfl,hg⟩,hl,hn⟩,h⟩:=h
  refine⟨[.vs tt z l.length 2 (fun k=>Yw (l.getD k default))],⟨⟨id,rfl,rfl,rfl,hg⟩,trivial⟩,?_⟩
  (try dsimp only[Ydf,Yw,go_sem,reduceIte,Ya])
  (try simp only[Yd,Ya,Ye,reduceCtorEq,Yc])
  refine Loop.keep [0] (Nat×Bool) (fun s=>[(3,.own 0 0 ((l.take s.1).foldl stF []).length 1),(4,.int .i64 s.1)]) (fun s=>[(0,.own s.2 1 ((l.take s.1).foldl stF []).length (fun k=>JS (((l.take s.1).foldl stF []).getD k 0)))]) [.gone] (fun s=>s.1<=l.length/\(s.2=true->((l.take s.1).foldl stF []).length=0)) (fun s=>l.length-s.1) ?_ ?_
  ·refine⟨(0,true),⟨by simp only;omega,fun _=>rfl⟩,?_⟩
   (try dsimp only[List.take_zero,List.foldl_nil,Z1,go_sem,reduceIte,Ya])
   simp only[Yf]
   simp
  ·rintro⟨i,yo⟩ ⟨hi,hyo⟩
   dsimp only at hi hyo
   (try dsimp only[Yw,JS,Yj,go_sem,reduceIte,Ya])
   (try simp only[Yd,Ya,Ye,reduceCtorEq,Yc])
   have hsl:=Yod l i
   refine⟨fun hlt=>?_,fun hge=>?_⟩
   ·obtain⟨q0,q1,q2,q3⟩:=hl _ (KZ (by omega:i<l.length))
    have hstep:(l.take (i+1)).foldl stF []=stF ((l.take i).foldl stF []) (l.getD i default):=Vm (by omega)
    have ei:IntKind.i64.wrap ((i:Int)+1)=((i+1:Nat):Int):=by rw[Yg _ (by omega)];omega
    rw[ei]
    generalize(l.take i).foldl stF []=out at*
    generalize l.getD i default=x at*
    have hst1:stF out x=if 1<x.1 then out++[x.1.toNat]else out:=rfl
    rw[hst1]at hstep
    refine⟨⟨by omega,by omega⟩,fun hc=>?_,fun hc=>?_⟩
    ·rw[if_pos hc]at hstep
     refine⟨⟨by omega,by omega⟩,by decide,⟨by unfold Y8;omega,fun j hj=>?_⟩,(i+1,yo&&decide False),⟨by simp only;omega,by simp⟩,by simp only;omega,?_⟩
     ·match j,hj with
      |0,_=>exact⟨rfl,trivial,trivial⟩
     ·have hol:(out++[x.1.toNat]).length=out.length+1:=by rw[JO];rfl
      simp only[hstep,hol]
      simp only[Yf]
      refine⟨by decide,fun k hk=>?_⟩
      by_cases hkt:k<out.length
      ·rw[if_pos hkt,Kh (l:=_++_),QY hkt,<-Kh]
       exact⟨⟨rfl,rfl⟩,trivial⟩
      ·obtain rfl:k=out.length:=by omega
       rw[if_neg hkt,Kh (l:=_++_),Z0 (Yt _),Nat.sub_self]
       exact⟨⟨rfl,by simp;omega⟩,trivial⟩
    ·rw[if_neg hc]at hstep
     refine⟨(i+1,yo),⟨by simp only;omega,by simp only[hstep];exact hyo⟩,by simp only;omega,?_⟩
     simp only[hstep]
     simp only[Yf]
     decide
   ·obtain rfl:i=l.length:=by omega
    have hst:=Yoe hl hn
    rw[Xt]at*
    generalize l.foldl stF []=out0 at*
    refine Loop.keepF [0] (Nat×List Nat×Bool) (fun s=>[(3,.vs true s.2.2 s.2.1.length 1 (fun k=>JS (s.2.1.getD k 0))),(5,.int .i64 s.1)]) (fun _=>[(0,.gone)]) [] (fun s=>BOk l s.2.1/\s.1<=s.2.1.length/\(∀a,a<s.1->∀c,c<a->YI (s.2.1.getD a 0) (s.2.1.getD c 0)=1)) (fun s=>YL s.2.1*2000+(s.2.1.length-s.1)) ?_ ?_
    ·refine⟨(0,out0,yo),⟨hst,JJ _,fun a ha=>absurd ha (J8 _)⟩,[0],?_,?_⟩
     ·(try dsimp only[go_sem,reduceIte,Ya])
      exact⟨fun p hp=>rfl,trivial⟩
     ·(try dsimp only[JS,go_sem,reduceIte,Ya])
      simp only[Yf]
      rfl
    ·rintro⟨i,out,yo⟩ ⟨hok,hi,hcp⟩
     dsimp only at hok hi hcp
     (try dsimp only[JS,Yj,go_sem,reduceIte,Ya])
     (try simp only[Yd,Ya,Ye,reduceCtorEq,Yc])
     have hlen:=hok.len
     refine⟨fun hlt=>?_,fun hge2=>?_⟩
     ·refine Loop.keep [0,2,1] Nat (fun j=>[(6,.int .i64 j)]) (fun _=>[]) [] (fun j=>j<=i/\∀c,c<j->YI (out.getD i 0) (out.getD c 0)=1) (fun j=>i-j) ?_ ?_
      ·refine⟨0,⟨JJ _,fun c hc=>absurd hc (J8 _)⟩,?_⟩
       (try dsimp only[go_sem,reduceIte,Ya])
       simp only[Yf]
       rfl
      ·rintro j ⟨hj,hgj⟩
       (try dsimp only[Q5,Yk,gcdC,JS,Yj,go_sem,reduceIte,Ya])
       (try simp only[Yd,Ya,Ye,reduceCtorEq,Yc])
       refine⟨fun hlt2=>?_,fun hge3=>?_⟩
       ·have ri:2<=out.getD i 0/\out.getD i 0<=1000000000001:=hok.rng _ (KZ (l:=out) (i:=i) (by omega))
        have rj:2<=out.getD j 0/\out.getD j 0<=1000000000001:=hok.rng _ (KZ (l:=out) (i:=j) (by omega))
        refine⟨⟨by omega,by omega⟩,⟨by omega,by omega⟩,out.getD i 0,out.getD j 0,⟨rfl,rfl,by omega,by omega⟩,fun hg1=>⟨j+1,⟨by omega,fun c hc=>?_⟩,by omega,?_⟩,fun hg1=>?_⟩
        ·rcases YY c j with h'|h'
         ·exact hgj c h'
         ·obtain rfl:c=j:=by omega
          omega
        ·rw[Yg ((j:Int)+1) (by omega)]
         simp only[Yf]
         simp
        ·obtain⟨g,hg⟩:∃g,g=YI (out.getD i 0) (out.getD j 0):=⟨_,rfl⟩
         rw[<-hg]at hg1⊢
         have hg0:0<g:=hg▸Nat.gcd_pos_of_pos_left _ (by omega)
         have hgi:g<=out.getD i 0:=hg▸Nat.le_of_dvd (by omega) (WI _ _)
         have hg1':1<g:=by omega
         obtain⟨n1,n2⟩:=hok.next (i:=i) (k:=j) (by omega) (by omega) hg hg1'
         refine Loop.keep [0,2,1,0,0] (Nat×Bool) (fun s=>[(8,.own 1 0 (Kx out i j g s.1).length 1),(9,.int .i64 s.1)]) (fun s=>[(1,.own s.2 1 (Kx out i j g s.1).length (fun k=>JS ((Kx out i j g s.1).getD k 0)))]) [.gone] (fun s=>s.1<=out.length/\(s.2=true->(Kx out i j g s.1).length=0)) (fun s=>out.length-s.1) ?_ ?_
         ·refine⟨(0,true),⟨JJ _,fun _=>rfl⟩,?_⟩
          (try dsimp only[Kx,Z1,go_sem,reduceIte,Ya])
          simp only[Yf]
          simp
         ·rintro⟨n,yn⟩ ⟨hn',hyn⟩
          dsimp only at hn' hyn
          (try dsimp only[JS,Yj,go_sem,reduceIte,Ya])
          (try simp only[Yd,Ya,Ye,reduceCtorEq,Yc])
          have hnl:=OS out i j g n
          refine⟨fun hlt3=>?_,fun hge4=>?_⟩
          ·have rn:2<=out.getD n 0/\out.getD n 0<=1000000000001:=hok.rng _ (KZ (l:=out) (i:=n) (by omega))
           have en:IntKind.i64.wrap ((n:Int)+1)=((n+1:Nat):Int):=by rw[Yg _ (by omega)];omega
           have hb:(decide ((n:Int)=(i:Int)) || decide ((n:Int)=(j:Int)))=decide (n=i\/n=j):=by
            rw[Bool.eq_iff_iff,Qj,decide_eq_true_eq,decide_eq_true_eq,decide_eq_true_eq];omega
           have hq:IntKind.i64.wrap (((out.getD n 0:Nat):Int).tdiv (g:Int))=((out.getD n 0/g:Nat):Int):=by
            have e1:((out.getD n 0:Nat):Int).tdiv (g:Int)=((out.getD n 0/g:Nat):Int):=Wq rfl rfl
            have h2:out.getD n 0/g<=out.getD n 0:=XD _ _
            rw[e1]
            generalize out.getD n 0/g=q at h2⊢
            exact Yg _ (by omega)
           rw[en,hb,hq,decide_eq_true_eq,decide_eq_false_iff_not]
           have hnx:Kx out i j g (n+1)=if 1<itL out i j g n then Kx out i j g n++[itL out i j g n]else Kx out i j g n:=rfl
           refine⟨⟨by omega,by omega⟩,fun hc=>⟨by omega,?_⟩,fun hc=>?_⟩
           ·rw[show itL out i j g n=out.getD n 0/g from if_pos hc]at hnx
            generalize out.getD n 0/g=v at hnx⊢
            refine⟨fun hv=>⟨by decide,⟨by unfold Y8;omega,fun p hp=>?_⟩,(n+1,yn&&decide False),⟨by simp only;omega,by simp⟩,by simp only;omega,?_⟩,fun hv=>⟨(n+1,yn),⟨by simp only;omega,?_⟩,by simp only;omega,?_⟩⟩
            ·match p,hp with
             |0,_=>exact⟨rfl,trivial,trivial⟩
            ·rw[if_pos (by omega)]at hnx
             have hol:(Kx out i j g n++[v]).length=(Kx out i j g n).length+1:=by rw[JO];rfl
             simp only[hnx,hol]
             simp only[Yf]
             refine⟨by decide,fun p hp=>?_⟩
             by_cases hpt:p<(Kx out i j g n).length
             ·rw[if_pos hpt,Kh (l:=_++_),QY hpt,<-Kh]
              exact⟨⟨rfl,rfl⟩,trivial⟩
             ·rw[if_neg hpt,show p-(Kx out i j g n).length=0 by omega,Kh (l:=_++_),Z0 (by omega),show p-(Kx out i j g n).length=0 by omega]
              exact⟨⟨rfl,rfl⟩,trivial⟩
            ·rw[if_neg (by omega)]at hnx
             simp only[hnx];exact hyn
            ·rw[if_neg (by omega)]at hnx
             simp only[hnx]
             simp only[Yf]
             decide
           ·rw[show itL out i j g n=out.getD n 0 from if_neg hc]at hnx
            generalize out.getD n 0=v at hnx⊢
            refine⟨fun hv=>⟨by decide,⟨by unfold Y8;omega,fun p hp=>?_⟩,(n+1,yn&&decide False),⟨by simp only;omega,by simp⟩,by simp only;omega,?_⟩,fun hv=>⟨(n+1,yn),⟨by simp only;omega,?_⟩,by simp only;omega,?_⟩⟩
            ·match p,hp with
             |0,_=>exact⟨rfl,trivial,trivial⟩
            ·rw[if_pos (by omega)]at hnx
             have hol:(Kx out i j g n++[v]).length=(Kx out i j g n).length+1:=by rw[JO];rfl
             simp only[hnx,hol]
             simp only[Yf]
             refine⟨by decide,fun p hp=>?_⟩
             by_cases hpt:p<(Kx out i j g n).length
             ·rw[if_pos hpt,Kh (l:=_++_),QY hpt,<-Kh]
              exact⟨⟨rfl,rfl⟩,trivial⟩
             ·rw[if_neg hpt,show p-(Kx out i j g n).length=0 by omega,Kh (l:=_++_),Z0 (by omega),show p-(Kx out i j g n).length=0 by omega]
              exact⟨⟨rfl,rfl⟩,trivial⟩
            ·rw[if_neg (by omega)]at hnx
             simp only[hnx];exact hyn
            ·rw[if_neg (by omega)]at hnx
             simp only[hnx]
             simp only[Yf]
             decide
          ·obtain rfl:n=out.length:=by omega
           have hol:(Kx out i j g out.length++[g]).length=(Kx out i j g out.length).length+1:=by rw[JO];rfl
           have hp:=n1.pos
           have hl2:=n1.len
           refine⟨by decide,⟨by unfold Y8;omega,fun p hp=>?_⟩,(0,Kx out i j g out.length++[g],yn&&decide False),⟨n1,JJ _,fun a ha=>absurd ha (J8 _)⟩,by simp only;omega,[1],?_,?_⟩
           ·match p,hp with
            |0,_=>exact⟨rfl,trivial,trivial⟩
           ·(try dsimp only[go_sem,reduceIte,Ya])
            refine⟨fun p hp=>?_,trivial⟩
            by_cases hpt:p<(Kx out i j g out.length).length
            ·rw[if_pos hpt];rfl
            ·rw[if_neg hpt,show p-(Kx out i j g out.length).length=0 by omega];rfl
           ·(try dsimp only[go_sem,reduceIte,Ya])
            simp only[hol]
            simp only[Yf]
            refine⟨fun p hp=>?_,by decide⟩
            by_cases hpt:p<(Kx out i j g out.length).length
            ·rw[if_pos hpt,Kh (l:=_++_),QY hpt,<-Kh]
             exact YW _
            ·rw[if_neg hpt,show p-(Kx out i j g out.length).length=0 by omega,Kh (l:=_++_),Z0 (by omega),show p-(Kx out i j g out.length).length=0 by omega]
             exact YW _
       ·obtain rfl:j=i:=by omega
        refine⟨(j+1,out,yo),⟨hok,by simp only;omega,fun a ha c hc=>?_⟩,by simp only;omega,[],trivial,?_⟩
        ·rcases YY a j with h'|h'
         ·exact hcp a h' c hc
         ·obtain rfl:a=j:=by simp only at ha;omega
          exact hgj c hc
        ·(try dsimp only[go_sem,reduceIte,Ya])
         rw[Yg ((j:Int)+1) (by omega)]
         simp only[Yf]
         simp
     ·obtain rfl:i=out.length:=by omega
      exact Kv (show k (.vs true yo out.length 1 (fun k=>JS (out.getD k 0))) []from h out ⟨hok,Yf9 hcp⟩ yo) (JG _ trivial) (fun _=>by simp [Y3,JS,Y5])
 ·exact h.1.elim
def YcY:VF:={ ntmps:=49,res:=[.tmp 2],body:=
 (ZR [u1 2 .mov [.cn (.bool false)]]
 (ZR [Zm 8 0,
 Zc 9 153 8,
 Zm 3 9]
 (.seq (ZR [Zi 4 0]
 (.block 0 (.loop (.seq (ZR [Zm 10 4,
 Zm 11 3,
 Zl 12 11,
 Zr 13 .lss 10 12]
 (ZC 13 .skip
  (.exit 0)))
 (.seq (.block 1 (ZR [Zi 5 0]
 (.seq (ZR [Zi 6 0]
 (.block 2 (.loop (.seq (ZR [Zm 16 6,
 Zm 17 0,
 Zl 18 17,
 Zr 19 .lss 16 18]
 (ZC 19 .skip
  (.exit 2)))
 (.seq (.block 3 (ZR [Zm 22 0,
 Zm 23 6,
 Zx 24 2 22 23,
 Za 25 0 24,
 Zf 26 1 25,
 Zm 7 26]
 (.block 4 (.loop (.seq (ZR [Zm 27 7,
 Zm 28 3,
 Zm 29 4,
 Zx 30 1 28 29,
 Zf 31 1 30,
 u1 32 .rem [.tm 27,.tm 31],
 Zq 33 .eql 32 0]
 (ZC 33 .skip
  (.exit 4)))
 (.seq (.block 5 (.region [Zm 40 5,
 Zm 41 0,
 Zm 42 6,
 Zx 43 2 41 42,
 Za 44 1 43,
 Zf 45 1 44,
 Zo 46 .add 40 45,
 Zm 5 46]))
 (.region [Zm 34 7,
 Zm 35 3,
 Zm 36 4,
 Zx 37 1 35 36,
 Zf 38 1 37,
 u1 39 .quo [.tm 34,.tm 38],
 Zm 7 39])))))))
 (.region [Zm 20 6,
 Zp 21 20 1,
 Zm 6 21]))))))
 (ZR [Zm 47 5,
 Zq 48 .neq 47 0]
 (ZC 48 (ZR [u1 2 .mov [.cn (.bool false)]]
 .ret)
  .skip)))))
 (.region [Zm 14 4,
 Zp 15 14 1,
 Zm 4 15]))))))
 (ZR [u1 2 .mov [.cn (.bool true)]]
 .ret))))}
theorem Ypf:Yn Yb Tryz.f131=some YcY:=by kernel_rfl
def oneC:Ctr:={ alias:=false,of:=fun l=>match l with
 | [.vs _ _ n sz get]=> .ex (List (Int×Int)) fun l=> .pre (lsP 2 Yw n sz get l/\(∀x,x∈l->okU x)/\n<=20) (.fin (.bool (decide (upP l=dnP l))) [])
 |_=> .pre False (.fin (.bool false) [])}
def Q6:Env:=mkE [(153,baseC)] []
theorem YdV:YD Yb Q6:=eo (by kernel_rfl) ⟨⟨YlA,_,Tryz.func153,rfl,rfl⟩,trivial⟩ trivial
theorem YlG:oneC.ok Yb 131:=by
 refine Yy Tryz.func131 Ypf YdV 500 oneC fun args k h=>?_
 simp only[oneC]at h
 split at h
 ·rename_i tt z n sz get
  obtain⟨l,⟨⟨rfl,rfl,hg⟩,hl,hn⟩,h⟩:=h
  refine⟨[.vs tt z l.length 2 (fun k=>Yw (l.getD k default))],⟨⟨id,rfl,rfl,rfl,hg⟩,trivial⟩,?_⟩
  (try dsimp only[YcY,Q6,Yk,baseC,Yw,go_sem,reduceIte,Ya])
  (try simp only[Yd,Ya,Ye,reduceCtorEq,Yc])
  refine⟨l,⟨⟨rfl,rfl,fun k hk=>YW _⟩,hl,hn⟩,fun B hB y=>?_⟩
  obtain⟨hok,hcop⟩:=hB
  have hbl:=hok.len
  have hone:=YkF hl hn hok hcop
  rw[<-hone]at h
  refine Loop.keep [0,2] Nat (fun i=>[(4,.int .i64 i)]) (fun _=>[]) [] (fun i=>i<=B.length/\((B.take i).all fun b=>decide (X8 l b=0))=true) (fun i=>B.length-i) ?_ ?_
  ·refine⟨0,⟨by omega,rfl⟩,?_⟩
   (try dsimp only[go_sem,reduceIte,Ya])
   simp only[Yf]
   rfl
  ·rintro i ⟨hi,hall⟩
   (try dsimp only[JS,Yw,Yj,go_sem,reduceIte,Ya])
   (try simp only[Yd,Ya,Ye,reduceCtorEq,Yc])
   refine⟨fun hlt=>?_,fun hge=>?_⟩
   ·have hb:2<=B.getD i 0/\B.getD i 0<=1000000000001:=hok.rng _ (KZ (l:=B) (i:=i) (by omega))
    have hsucc:((B.take (i+1)).all fun b=>decide (X8 l b=0))=decide (X8 l (B.getD i 0)=0):=by
     rw[Ycm (by omega),hall,Bool.true_and];rfl
    have hmemb:B.getD i 0∈B:=KZ (l:=B) (i:=i) (by omega)
    refine Loop.keep [0,2,0] (Nat×Int) (fun s=>[(5,.int .i64 s.2),(6,.int .i64 s.1)]) (fun _=>[]) [] (fun s=>s.1<=l.length/\s.2=(l.take s.1).foldl (fun s x=>Xc 64 (B.getD i 0:Nat) x.1 x.2 s) 0) (fun s=>l.length-s.1) ?_ ?_
    ·refine⟨(0,0),⟨by simp only;omega,rfl⟩,?_⟩
     (try dsimp only[go_sem,reduceIte,Ya])
     simp only[Yf]
     rfl
    ·rintro⟨t,S⟩ ⟨ht,hS⟩
     dsimp only at ht hS
     (try dsimp only[JS,Yw,Yj,go_sem,reduceIte,Ya])
     (try simp only[Yd,Ya,Ye,reduceCtorEq,Yc])
     refine⟨fun hlt2=>⟨⟨by omega,by omega⟩,?_⟩,fun hge2=>?_⟩
     ·have hx:=hl _ (KZ (by omega:t<l.length))
      have hst:(l.take (t+1)).foldl (fun s x=>Xc 64 (B.getD i 0:Nat) x.1 x.2 s) 0=Xc 64 (B.getD i 0:Nat) (l.getD t default).1 (l.getD t default).2 S:=by
       rw[Vm (by omega),<-hS]
      obtain⟨q0,q1,q2,q3⟩:=hx
      obtain⟨R,hR⟩:∃R,R=Xc 64 (B.getD i 0:Nat) (l.getD t default).1 (l.getD t default).2 S:=⟨_,rfl⟩
      rw[<-hR]at hst
      refine Loop.keep [0,2,0,1] (Nat×Int×Int) (fun s=>[(5,.int .i64 s.2.2),(7,.int .i64 s.2.1)]) (fun _=>[]) [] (fun s=>R=Xc s.1 (B.getD i 0:Nat) s.2.1 (l.getD t default).2 s.2.2/\1<=s.2.1/\s.2.1<2^s.1/\s.2.1<=1000000000001) (fun s=>s.1) ?_ ?_
      ·refine⟨(64,(l.getD t default).1,S),⟨hR,q0,by simp only;omega,q1⟩,?_⟩
       (try dsimp only[go_sem,reduceIte,Ya])
       simp only[Yf]
      ·rintro⟨f,n,S'⟩ ⟨hf,n0,n1,n2⟩
       dsimp only at hf n0 n1 n2
       (try dsimp only[JS,Yw,Yj,go_sem,reduceIte,Ya])
       (try simp only[Yd,Ya,Ye,reduceCtorEq,Yc])
       generalize B.getD i 0=b at*
       generalize l.getD t default=x at*
       obtain⟨m,rfl⟩:=Un (by omega:0<=n)
       obtain⟨g,rfl⟩:∃g,f=g+1:=by
        cases f with
        |zero=>simp at n1;omega
        |succ g=>exact⟨g,rfl⟩
       rw[Xc]at hf
       refine⟨⟨by omega,by omega⟩,by omega,fun hc=>?_,fun hc=>?_⟩
       ·rw[if_pos hc]at hf
        have e1:(m:Int).tmod (b:Int)=((m%b:Nat):Int):=VI rfl rfl
        have e2:(m:Int).tdiv (b:Int)=((m/b:Nat):Int):=Wq rfl rfl
        rw[e1]at hc
        have hdm:=KP m b
        rw[show m%b=0 by omega,KO]at hdm
        have hq1:1<=m/b:=Nat.pos_of_ne_zero fun hh=>by rw[hh,ZD]at hdm;omega
        have hq2:2*(m/b)<=m:=by
         have:2*(m/b)<=b*(m/b):=Yp _ hb.1
         omega
        rw[e2]at hf⊢
        generalize m/b=q at hq1 hq2 hf⊢
        have eq:IntKind.i64.wrap (q:Int)=(q:Int):=Yg _ (by omega)
        rw[eq]at hf⊢
        have n1':m<2^g*2:=by rw[<-YH];exact_mod_cast n1
        refine⟨⟨by omega,by omega⟩,⟨by omega,by omega⟩,by omega,(g,q,IntKind.i64.wrap (S'+x.2)),⟨hf,by simp only;omega,?_,by simp only;omega⟩,by simp only;omega,?_⟩
        ·show(q:Int)<2^g
         have:q<2^g:=by omega
         exact_mod_cast this
        ·simp only[Yf]
       ·rw[if_neg hc]at hf
        refine⟨(t+1,S'),⟨by simp only;omega,by rw[hst,hf]⟩,by simp only;omega,?_⟩
        rw[Yg ((t:Int)+1) (by omega)]
        simp only[Yf]
        simp
     ·obtain rfl:t=l.length:=by omega
      rw[Xt]at hS
      have hS:S=X8 l (B.getD i 0):=hS
      refine⟨fun hc=>?_,fun hc=>⟨i+1,⟨by omega,?_⟩,by omega,?_⟩⟩
      ·have:(B.all fun b=>decide (X8 l b=0))=false:=by
        rw[List.all_eq_false]
        exact⟨B.getD i 0,hmemb,by rw[<-hS];simpa using hc⟩
       rw[this]at h
       exact QF h
      ·rw[hsucc,<-hS];exact decide_eq_true hc
      ·rw[Yg ((i:Int)+1) (by omega)]
       simp only[Yf]
       simp
   ·obtain rfl:i=B.length:=by omega
    rw[Xt]at hall
    rw[hall]at h
    exact QF h
 ·exact h.1.elim
end Go.Proofs.YtlhmikjnholpnaaGreatDoor.Q
namespace Go.Proofs.YtlhmikjnholpnaaGreatDoor
open Go Go.Vx
theorem RtJ.up{R J x y m:Nat}(d:Nat)(h:RtJ R J x y m):RtJ R (J+d) x y (m*2^d):=by
 obtain⟨h1,h2⟩:=h
 unfold RtJ
 have k1:=YG h1 (2^d)
 have k2:=YG h2 (2^d)
 rw[Yq,<-Ym,<-Ym,<-Ym,<-Yo]at k1 k2
 exact⟨k1,k2⟩
theorem RtJ.le{R J x y m B:Nat}(h:RtJ R J x y m)(hm:m<=B*2^J):x<=2^B*R:=by
 have hQ:=Jh J
 rw[<-ZF (show 2^J≠0 by omega),Yq,<-Ym]
 exact Yh h.1 (Yp _ (Kp (by decide) hm))
def sq(n:Nat)(f:Nat->Bool):Bool:=Nat.rec (f 0) (fun k _=>f (Nat.succ k)) n
theorem LD{J J' n:Nat}(h:Qw J n)(h1:J<=J')(h2:J'<=2048):(lN n 2048).2<=(lN n 2048).1+2^(J'-J)*2^(2048-J'):=by
 rw[<-Yo,show J'-J+(2048-J')=2048-J by omega]
 exact h
theorem II:∀q,q<62->Qa ((2^q:Nat):Int)=true:=by decide
set_option maxRecDepth 100000
set_option maxHeartbeats 4000000
def v47:VF:=⟨54,[.tmp 6,.tmp 7,.tmp 8],(ZR [u1 5 .box [.tm 2],Zi 6 0,u1 7 .mov [.cn (.bool false)],Zi 8 0] (.seq (ZR [Zm 13 1,Zc 14 49 13,Zm 9 14] (ZR [Zm 15 9,Zq 16 .neq 15 0] (ZC 16 (ZR [Zm 17 9,Zi 6 0,u1 7 .mov [.cn (.bool false)],Zm 8 17] .ret) .skip))) (.seq (ZR [Zf 18 1 5,Zq 19 .lss 18 1,Zm 20 19,Zh 21 20 false 1 5,u2 22 20 false (.cmp .gtr) [.tm 21,.cn (.int .i64 1000000)],u1 23 .or [.tm 20,.tm 22],Zm 24 23,Zg 25 24 false 0,u2 26 24 false (.cmp .lss) [.tm 25,.cn (.int .i64 1)],u1 27 .or [.tm 24,.tm 26],Zm 28 27,Zg 29 28 false 0,u2 30 28 false (.cmp .gtr) [.tm 29,.cn (.int .i64 1000000000000)],u1 31 .or [.tm 28,.tm 30]] (ZC 31 (ZR [Zi 6 0,u1 7 .mov [.cn (.bool false)],Zi 8 2] .ret) .skip)) (.seq (.drawT [(10,.box [.nil])] (.ops [Zu 32 1] (.ops [Zu 34 0] (.ops [Zv 35 1 5] (.ops [w1 36 (.build Z2 [(0,1),(1,1)]) [.tm 34,.tm 35]] (.ops [] (.br (.ops [⟨u1 33 (.append 2 16 Z2) [.cn .nil,.tm 32],[.tm 0,.tm 34,.tm 5,.tm 35,.tm 34,.tm 35,.tm 36]⟩] (.ops [w1 37 (.buildSlice 2 1 Z2 [(0,2)]) [.tm 36]] (.ops [w1 38 (.append 2 16 Z2) [.tm 33,.tm 37]] (.ops [ZS 1 10 38] .leaf)))) (.ops [w1 37 (.buildSlice 2 1 Z2 [(0,2)]) [.tm 36]] (.ops [⟨u1 33 (.append 2 16 Z2) [.cn .nil,.tm 32],[.tm 0,.tm 34,.tm 5,.tm 35,.tm 34,.tm 35,.tm 36]⟩] (.ops [w1 38 (.append 2 16 Z2) [.tm 33,.tm 37]] (.ops [ZS 1 10 38] .leaf))))))))))) (ZR [u1 39 (.mkfn (.func 83) 0) [.tm 10,.tm 5],u1 11 (.alloc [(.val .nilFunc)]) [],Zs 1 11 39] (ZR [u1 40 (.mkfn (.func 84) 0) [.tm 11],Zm 12 40] (.seq (ZR [Zm 41 12,u1 42 .callv [.tm 41,.cn (.int .i64 1000000000001)]] (ZC 42 (ZR [Zi 6 0,u1 7 .mov [.cn (.bool false)],Zi 8 7] .ret) .skip)) (ZR [Zm 43 12,u1 44 (.call 53) [.cn (.int .i64 0),.cn (.int .i64 1000000000001),.tm 43],Zm 6 44] (ZR [Zm 45 6,Zm 46 6,Zq 47 .gtr 46 0,Zm 48 47,Zh 49 48 true 1 11,Zg 50 48 true 6,u2 51 48 true .callv [.tm 49,.tm 50],u2 52 48 true (.call 54) [.tm 51],u1 53 .and [.tm 48,.tm 52],Zm 6 45,Zm 7 53,Zi 8 0] .ret)))))))))⟩
theorem Yp1:Yn Yb Tryz.f47=some v47:=by kernel_rfl
def v83:VF:=⟨17,[.tmp 4],(ZR [u1 4 .mov [.cn .nil]] (.seq (.draw [] [Zv 5 1 1,Zv 6 1 1,w1 7 .len [.tm 6],Zv 8 1 1,w1 9 .len [.tm 8],w1 10 (.slice3 2) [.tm 5,.tm 7,.tm 9],Zu 11 0,Zv 12 1 2,w1 13 .neg [.tm 12],w1 14 (.build Z2 [(0,1),(1,1)]) [.tm 11,.tm 13],w1 15 (.buildSlice 2 1 Z2 [(0,2)]) [.tm 14],w1 16 (.append 2 16 Z2) [.tm 10,.tm 15],Zu 4 16]) .ret))⟩
theorem YqC:Yn Yb Tryz.f83=some v83:=by kernel_rfl
def v84:VF:=⟨13,[.tmp 3],(ZR [u1 3 .mov [.cn (.bool false)]] (ZR [Zm 4 0,Zq 5 .eql 4 0,Zm 6 5,Zh 7 6 false 1 1,Zg 8 6 false 0,u2 9 6 false .callv [.tm 7,.tm 8],u2 10 6 false (.call 52) [.tm 9],u2 11 6 false (.cmp .geq) [.tm 10,.cn (.int .i64 0)],u1 12 .or [.tm 6,.tm 11],Zm 3 12] .ret))⟩
theorem YqD:Yn Yb Tryz.f84=some v84:=by kernel_rfl
def v53:VF:=⟨24,[.tmp 6],(ZR [Zi 6 0] (.seq (.block 0 (.loop (.seq (ZR [Zm 8 1,Zm 9 0,Zo 10 .sub 8 9,Zq 11 .gtr 10 1] (ZC 11 .skip (.exit 0))) (.block 1 (ZR [Zm 12 0,Zm 13 1,Zm 14 0,Zo 15 .sub 13 14,u1 16 .quo [.tm 15,.cn (.int .i64 2)],Zo 17 .add 12 16,Zm 7 17] (ZR [Zm 18 2,Zm 19 7,u1 20 .callv [.tm 18,.tm 19]] (ZC 20 (.region [Zm 21 7,Zm 0 21]) (.region [Zm 22 7,Zm 1 22])))))))) (ZR [Zm 23 0,Zm 6 23] .ret)))⟩
theorem Ydr:Yn Yb Tryz.f53=some v53:=by kernel_rfl
def KY:Nat->(Int->Bool)->Int->Int->Int
 |0,_,a,_=>a
 |f+1,t,a,b=>if 1<b-a then(if t (a+(b-a)/2)=true then KY f t (a+(b-a)/2) b else KY f t a (a+(b-a)/2))else a
def atF(all:List (Int×Int))(den k:Int):List (Int×Int):=all++[(k, -den)]
def isF(all:List (Int×Int))(den k:Int):Bool:=decide (k=0) || decide (0<=Qf (atF all den k))
def Ai(s:Int)(l:List (Int×Int))(den:Int):Int×Bool×Int:=
 if isF (l++[(s,den)]) den 1000000000001=true then(0,false,7)
 else(KY 64 (isF (l++[(s,den)]) den) 0 1000000000001,decide (0<KY 64 (isF (l++[(s,den)]) den) 0 1000000000001)&&WG (atF (l++[(s,den)]) den (KY 64 (isF (l++[(s,den)]) den) 0 1000000000001)),0)
def Uu(s den:Int):Bool:=decide (den<1) || (decide (1000000<den) || (decide (s<1) || decide (1000000000000<s)))
def X3(s:Int)(l:List (Int×Int))(den:Int):Int×Bool×Int:=
 if QG l≠0 then(0,false,QG l)else if Uu s den=true then(0,false,2)else Ai s l den
theorem Yfn{s den:Int}(h:Uu s den=false):(1<=s/\s<=1000000000000)/\1<=den/\den<=1000000:=by
 simp only[Uu,K5,decide_eq_false_iff_not]at h;omega
theorem Ea{l:List (Int×Int)}(h:QG l=0):(∀x,x∈l->JB x=false)/\l.length<=16:=by
 unfold QG at h
 split at h
 ·cases h
 ·split at h
  ·cases h
  ·rename_i h1 h2
   rw[Bool.not_eq_true,List.any_eq_false]at h2
   exact⟨fun x hx=>by simpa using h2 x hx,by omega⟩
def prodC:Ctr:={ alias:=false,of:=fun l=>match l with
 | [.int .i64 s,.vs _ _ n sz get,.int .i64 den]=> .ex (List (Int×Int)) fun l=> .pre (lsP 2 Yw n sz get l/\1<=n/\n<=1000000000000) (.fin (.tup [.int .i64 (X3 s l den).1,.bool (X3 s l den).2.1,.int .i64 (X3 s l den).2.2]) [])
 |_=>noC}
theorem Yfk{l:List (Int×Int)}{s den kk:Int}{hp:List HO}{r:List SV->List SV}{i k:Nat}(hk:k<l.length+1+1):
 QK (Jw false hp r (if k<l.length+1 then if k<l.length then [SV.int IntKind.i64 (l.getD k default).fst,SV.int IntKind.i64 (l.getD k default).snd]else YU i (YP 2 (YF ((k-l.length)*2) [SV.int IntKind.i64 s,SV.int IntKind.i64 den]))else YP 2 (YF ((k-(l.length+1))*2) [SV.int IntKind.i64 kk,SV.int IntKind.i64 (-den)]))) (Yw ((atF (l++[(s,den)]) den kk).getD k default)):=by
 unfold atF
 rw[List.append_assoc]
 by_cases h1:k<l.length
 ·rw[if_pos (by omega),if_pos h1,Kh (l:=_++_),QY h1,<-Kh]
  exact YW _
 ·rw[Kh (l:=_++_),Z0 (by omega),if_neg h1]
  by_cases h2:k<l.length+1
  ·rw[if_pos h2,show k-l.length=0 by omega]
   exact YW _
  ·rw[if_neg h2,show k-(l.length+1)=0 by omega,show k-l.length=1 by omega]
   exact YW _
theorem Nz{l:List (Int×Int)}{s den:Int}{i k a b:Nat}(hk:k<l.length+1):leL a b (if k<l.length then [SV.int IntKind.i64 (l.getD k default).fst,SV.int IntKind.i64 (l.getD k default).snd]else YU i (YP 2 (YF ((k-l.length)*2) [SV.int IntKind.i64 s,SV.int IntKind.i64 den]))) (if k<l.length then [SV.int IntKind.i64 (l.getD k default).fst,SV.int IntKind.i64 (l.getD k default).snd]else YU i (YP 2 (YF ((k-l.length)*2) [SV.int IntKind.i64 s,SV.int IntKind.i64 den]))):=by
 by_cases h1:k<l.length
 ·rw[if_pos h1];exact⟨⟨rfl,rfl⟩,⟨rfl,rfl⟩,trivial⟩
 ·rw[if_neg h1,show k-l.length=0 by omega];exact⟨⟨rfl,rfl⟩,⟨rfl,rfl⟩,trivial⟩
theorem AI{s den:Int}{i k a b:Nat}(hk:k<1):leL a b (YU i (YP 2 (YF (k*2) [SV.int IntKind.i64 s,SV.int IntKind.i64 den]))) (YU i (YP 2 (YF (k*2) [SV.int IntKind.i64 s,SV.int IntKind.i64 den]))):=by
 obtain rfl:k=0:=by omega
 exact⟨⟨rfl,rfl⟩,⟨rfl,rfl⟩,trivial⟩
theorem PB{l:List (Int×Int)}{s den kk dd:Int}{i k a b:Nat}(hk:k<l.length+1+1):leL a b (if k<l.length+1 then if k<l.length then [SV.int IntKind.i64 (l.getD k default).fst,SV.int IntKind.i64 (l.getD k default).snd]else YU i (YP 2 (YF ((k-l.length)*2) [SV.int IntKind.i64 s,SV.int IntKind.i64 den]))else YP 2 (YF ((k-(l.length+1))*2) [SV.int IntKind.i64 kk,SV.int IntKind.i64 dd])) (if k<l.length+1 then if k<l.length then [SV.int IntKind.i64 (l.getD k default).fst,SV.int IntKind.i64 (l.getD k default).snd]else YU i (YP 2 (YF ((k-l.length)*2) [SV.int IntKind.i64 s,SV.int IntKind.i64 den]))else YP 2 (YF ((k-(l.length+1))*2) [SV.int IntKind.i64 kk,SV.int IntKind.i64 dd])):=by
 by_cases h1:k<l.length+1
 ·rw[if_pos h1];exact Nz h1
 ·rw[if_neg h1,show k-(l.length+1)=0 by omega];exact⟨⟨rfl,rfl⟩,⟨rfl,rfl⟩,trivial⟩
theorem CP{l:List (Int×Int)}{s den kk:Int}{hp:List HO}{r:List SV->List SV}{i:Nat}:
 lsP 2 Yw (l.length+1+1) 2 (fun k=>Jw false hp r (if k<l.length+1 then if k<l.length then [SV.int IntKind.i64 (l.getD k default).fst,SV.int IntKind.i64 (l.getD k default).snd]else YU i (YP 2 (YF ((k-l.length)*2) [SV.int IntKind.i64 s,SV.int IntKind.i64 den]))else YP 2 (YF ((k-(l.length+1))*2) [SV.int IntKind.i64 kk,SV.int IntKind.i64 (-den)]))) (atF (l++[(s,den)]) den kk):=
 ⟨rfl,by simp [atF],fun k hk=>Yfk hk⟩
theorem CQ{l:List (Int×Int)}{s den kk:Int}(hl:∀x,x∈l->JB x=false)(hs:1<=s/\s<=1000000000000)(hd:1<=den/\den<=1000000)(hk:1<=kk/\kk<=1000000000001):∀x,x∈atF (l++[(s,den)]) den kk->okT x:=by
 intro x hx
 unfold atF at hx
 rw[Ky,Ky,Jj,Jj]at hx
 rcases hx with(hx|rfl) |rfl
 ·have:=hl x hx
  unfold JB at this
  simp only[K5,decide_eq_false_iff_not]at this
  unfold okT
  omega
 ·simp only[okT];omega
 ·simp only[okT];omega
theorem CO{l:List (Int×Int)}{s den:Int}{i k:Nat}(hk:k<l.length+1):YK (if k<l.length then [SV.int IntKind.i64 (l.getD k default).fst,SV.int IntKind.i64 (l.getD k default).snd]else YU i (YP 2 (YF ((k-l.length)*2) [SV.int IntKind.i64 s,SV.int IntKind.i64 den])))=2/\Jg (if k<l.length then [SV.int IntKind.i64 (l.getD k default).fst,SV.int IntKind.i64 (l.getD k default).snd]else YU i (YP 2 (YF ((k-l.length)*2) [SV.int IntKind.i64 s,SV.int IntKind.i64 den]))):=by
 by_cases h1:k<l.length
 ·rw[if_pos h1];exact⟨rfl,trivial,trivial,trivial⟩
 ·rw[if_neg h1,show k-l.length=0 by omega];exact⟨rfl,trivial,trivial,trivial⟩
theorem B8{a b:Int}{k:Nat}(hk:k<1):YK (YP 2 (YF (k*2) [SV.int IntKind.i64 a,SV.int IntKind.i64 b]))=2/\Jg (YP 2 (YF (k*2) [SV.int IntKind.i64 a,SV.int IntKind.i64 b])):=by
 obtain rfl:k=0:=by omega
 exact⟨rfl,trivial,trivial,trivial⟩
def RB2:Env:=mkE [(49,chkTC),(52,signC),(54,oneC)] [(83,v83),(84,v84),(53,v53)]
theorem Yeb:YD Yb RB2:=eo (by kernel_rfl) ⟨⟨SS,_,Tryz.func49,rfl,rfl⟩,⟨Yb0,_,Tryz.func52,rfl,rfl⟩,⟨LW,_,Tryz.func54,rfl,rfl⟩,trivial⟩ ⟨⟨_,Tryz.func83,YqC,_,Tryz.func83,rfl,rfl⟩,⟨_,Tryz.func84,YqD,_,Tryz.func84,rfl,rfl⟩,⟨_,Tryz.func53,Ydr,_,Tryz.func53,rfl,rfl⟩,trivial⟩
theorem WM{k:SV->List HO->Prop}{al:Bool}{hp:List HO}{κ κ':IntKind}{x e:Int}{b:Bool}(h:k (.tup [.int κ x,.bool b,.int κ' e]) []):Jz al k (.tup [.int κ x,.bool b,.int κ' e]) hp:=
 Kv (show k _ []from h) (JG (.tup [.int κ x,.bool b,.int κ' e]) ⟨trivial,trivial,trivial,trivial⟩) (fun _=>by simp [Y3,Y5])
theorem Yk1:prodC.ok Yb 47:=by
 refine Yy Tryz.func47 Yp1 Yeb 800 prodC fun args k h=>?_
 simp only[prodC]at h
 split at h
 ·rename_i s tt z n sz get den
  obtain⟨l,⟨⟨rfl,rfl,hg⟩,hn1,hnb⟩,h⟩:=h
  refine⟨[.int .i64 s,.vs tt z l.length 2 (fun k=>Yw (l.getD k default)),.int .i64 den],⟨⟨rfl,rfl⟩,⟨id,rfl,rfl,rfl,hg⟩,⟨rfl,rfl⟩,trivial⟩,?_⟩
  dsimp only[v47,RB2,Yk,chkTC,Yw,go_sem,reduceIte,Ya]
  simp only[Yd,Ya,Ye,reduceCtorEq,Yc]
  refine⟨l,⟨⟨rfl,rfl,fun k _=>YW _⟩,by omega⟩,fun hh=>by rw[X3,if_pos hh]at h;exact WM h,fun hchk=>?_⟩
  obtain⟨hl,hn⟩:=Ea hchk
  rw[X3,if_neg (by rw[hchk];decide)]at h
  refine⟨fun hh=>?_,fun hb=>?_⟩
  ·rw[if_pos (show Uu s den=true by rw[Uu];simpa [Bool.or_assoc]using hh)]at h
   exact WM h
  have hb:Uu s den=false:=by rw[Uu];simpa [Bool.or_assoc]using hb
  rw[if_neg (by rw[hb];decide)]at h
  obtain⟨hs,hd⟩:=Yfn hb
  have hnd:IntKind.i64.wrap (0-den)= -den:=by rw[Yg _ (by omega)];omega
  refine⟨⟨by unfold Y8;omega,by decide,⟨by unfold Y8;omega,fun k hk=>?_⟩,?_⟩,by decide,by unfold Y8;omega,⟨by unfold Y8;omega,fun k hk=>?_⟩,?_⟩
  all_goals (try exact B8 hk)
  all_goals
   dsimp only[RB2,Yk,v84,v83,signC,go_sem,reduceIte,Ya]
   simp only[Yd,Ya,Ye,reduceCtorEq,Yc]
   rw[hnd]
   simp only[Yj]
   have hK:(1:Int)<=1000000000001/\(1000000000001:Int)<=1000000000001:=by decide
   refine⟨fun _=>⟨⟨by omega,by omega⟩,by decide,⟨by decide,by unfold Y8;omega,fun k hk=>CO hk,fun k hk=>B8 hk⟩,atF (l++[(s,den)]) den 1000000000001,fun _=>⟨CP,CQ hl hs ⟨hd.1,hd.2⟩ hK,by omega⟩,fun hc=>?_,fun hc=>?_⟩,fun hh=>absurd hh (by decide)⟩
   ·have hc:isF (l++[(s,den)]) den 1000000000001=true:=hc
    rw[Ai,if_pos hc]at h
    exact WM h
   ·have hc:isF (l++[(s,den)]) den 1000000000001=false:=hc
    rw[Ai,if_neg (by rw[hc];decide)]at h
    dsimp only[RB2,Yk,v53,go_sem,reduceIte,Ya]
    simp only[Yd,Ya,Ye,reduceCtorEq,Yc]
    obtain⟨t,ht⟩:∃t,t=isF (l++[(s,den)]) den:=⟨_,rfl⟩
    obtain⟨R,hR⟩:∃R,R=KY 64 t 0 1000000000001:=⟨_,rfl⟩
    rw[<-ht,<-hR]at h
    refine Loop.keep [2] (Nat×Int×Int) (fun s=>[(0,.int .i64 s.2.1),(1,.int .i64 s.2.2)]) (fun _=>[]) [] (fun s=>R=KY s.1 t s.2.1 s.2.2/\0<=s.2.1/\s.2.1<s.2.2/\s.2.2<=1000000000001/\s.2.2-s.2.1<=2^s.1) (fun s=>s.1) ?_ ?_
    ·refine⟨(64,0,1000000000001),⟨hR,by decide,by decide,by decide,by decide⟩,?_⟩
     dsimp only[go_sem,reduceIte,Ya]
     simp only[Yf]
     repeat' apply YC
     all_goals first|decide| (intro k hk;first|exact Nz hk|exact AI hk|exact PB hk)
    ·rintro⟨f,lo,hi⟩ ⟨hf,b0,b1,b2,b3⟩
     dsimp only at hf b0 b1 b2 b3
     dsimp only[RB2,Yk,v84,v83,signC,oneC,go_sem,reduceIte,Ya]
     simp only[Yd,Ya,Ye,reduceCtorEq,Yc]
     rw[hnd]
     simp only[Yj]
     have ed:IntKind.i64.wrap (hi-lo)=hi-lo:=Yg _ (by omega)
     have e2:IntKind.i64.wrap ((hi-lo).tdiv 2)=(hi-lo)/2:=by
      rw[Wo (by omega),Yg _ (by omega)]
     have e3:IntKind.i64.wrap (lo+(hi-lo)/2)=lo+(hi-lo)/2:=Yg _ (by omega)
     rw[ed,e2,e3]
     refine⟨fun hc1=>?_,fun hc1=>?_⟩
     ·obtain⟨m,hm⟩:∃m,m=lo+(hi-lo)/2:=⟨_,rfl⟩
      rw[<-hm]
      obtain⟨g,rfl⟩:∃g,f=g+1:=by
       cases f with
       |zero=>simp at b3;omega
       |succ g=>exact⟨g,rfl⟩
      rw[KY,if_pos hc1,<-hm]at hf
      have b4:hi-lo<=2^g*2:=by rw[<-Int.pow_succ];exact b3
      have hm0:¬m=0:=by omega
      refine⟨by decide,fun _=>⟨⟨by omega,by omega⟩,by decide,⟨by decide,by unfold Y8;omega,fun k hk=>CO hk,fun k hk=>B8 hk⟩,atF (l++[(s,den)]) den m,fun _=>⟨CP,CQ hl hs ⟨hd.1,hd.2⟩ (by omega),by omega⟩,fun hd1=>?_,fun hd1=>?_⟩,fun hh=>absurd hh hm0⟩
      ·have hd1:t m=true:=by rw[ht];exact hd1
       rw[if_pos hd1]at hf
       refine⟨(g,m,hi),⟨hf,by simp only;omega,by simp only;omega,b2,by simp only;omega⟩,by simp only;omega,?_⟩
       simp only[Yf]
       repeat' apply YC
       all_goals first|decide| (intro k hk;first|exact Nz hk|exact AI hk|exact PB hk)
      ·have hd1:t m=false:=by rw[ht];exact hd1
       rw[if_neg (by rw[hd1];decide)]at hf
       refine⟨(g,lo,m),⟨hf,by simp only;omega,by simp only;omega,by simp only;omega,by simp only;omega⟩,by simp only;omega,?_⟩
       simp only[Yf]
       repeat' apply YC
       all_goals first|decide| (intro k hk;first|exact Nz hk|exact AI hk|exact PB hk)
     ·have hRlo:R=lo:=by
       cases f with
       |zero=>exact hf
       |succ g=>rw[hf,KY,if_neg hc1]
      subst hRlo
      refine⟨fun hp=>⟨⟨by omega,by omega⟩,by decide,⟨by decide,by unfold Y8;omega,fun k hk=>CO hk,fun k hk=>B8 hk⟩,atF (l++[(s,den)]) den R,fun _=>⟨CP,CQ hl hs ⟨hd.1,hd.2⟩ (by omega),by omega⟩,WM h⟩,fun hp=>⟨fun hh=>absurd hh hp,?_⟩⟩
      rw[decide_eq_false hp,Bool.false_and]at h⊢
      exact WM h
 ·exact h.1.elim
def Dec(l:List (Int×Int)):Prop:=upP l=dnP l\/¬Und l 2048
theorem YoG{l:List (Int×Int)}{J:Nat}{w:Nat->Nat}(hJ:J<=2048)(hl:∀x,x∈l->okU x)(hw:∀x,x∈l->(lN x.1.toNat 2048).2<=(lN x.1.toNat 2048).1+w x.1.toNat*2^(2048-J))(h:Und l 2048):
 upP l^(2^J)<=dnP l^(2^J)*2^(upS w l+dnS w l):=by
 obtain⟨⟨a1,a2⟩,b1,b2⟩:=VG (K:=2^2048) (g:=fun n=>(lN n 2048).1) (h:=fun n=>(lN n 2048).2) (fun n k1 k2=>MR k1 k2) l hl
 obtain⟨s1,s2⟩:=Cv (g:=fun n=>(lN n 2048).1) (h:=fun n=>(lN n 2048).2) (w:=w) (c:=2^(2048-J)) l hw
 obtain⟨h1,_⟩:=h
 obtain⟨c,hc⟩:∃c,c=2^(2048-J):=⟨_,rfl⟩
 obtain⟨K,hK⟩:∃K,K=(2:Nat)^2048:=⟨_,rfl⟩
 have hc0:c≠0:=by rw[hc];have:=Jh (2048-J);omega
 have hKc:K=2^J*c:=by rw[hK,hc,<-Yo];congr 1;omega
 rw[<-hc]at s1 s2
 rw[<-hK]at a1 a2 b1 b2
 rw[<-ZF hc0,Yq,<-Ym,<-Ym,<-hKc,<-Ym,YM]
 refine Yh a2 ?_
 refine Yh (Kp (by decide) (show _<=dnS (fun n=>(lN n 2048).1) l+(upS w l*c+dnS w l*c)by omega)) ?_
 rw[Yo]
 exact Yp _ b1
theorem PI{l:List (Int×Int)}(hl:∀x,x∈l->okU x)(hn:l.length<=20)(h:Dec l):0<=Qf l↔dnP l<=upP l:=by
 obtain⟨h1,h2,h3,h4⟩:=Yb1 hl hn
 rcases h4 with h4|h4|h4
 ·have:=h1 h4;omega
 ·have:=h2 h4;omega
 ·have h5:=h3 h4
  rcases h with h|h
  ·omega
  ·rcases h5 with h5|h5
   ·have:=LX hl hn h5;omega
   ·exact absurd h5 h
def VS(P:Nat->Prop)(t:Nat->Bool):Nat->Nat->Nat->Prop
 |0,a,b=>b<=a+1
 |f+1,a,b=>b<=a+1\/(P ((a+b)/2)/\if t ((a+b)/2)=true then VS P t f ((a+b)/2) b else VS P t f a ((a+b)/2))
def Xa(t:Nat->Bool):Nat->Nat->Nat->Nat
 |0,a,_=>a
 |f+1,a,b=>if b<=a+1 then a else if t ((a+b)/2)=true then Xa t f ((a+b)/2) b else Xa t f a ((a+b)/2)
theorem Di{P:Nat->Prop}{t:Nat->Bool}:∀(f a b:Nat),a<b->VS P t f a b->
 (Xa t f a b=a\/(P (Xa t f a b)/\t (Xa t f a b)=true))/\(Xa t f a b+1=b\/t (Xa t f a b+1)=false)/\a<=Xa t f a b/\Xa t f a b<b
 |0,a,b,h,hp=>by
  have hp:b<=a+1:=hp
  rw[Xa]
  exact⟨KD rfl,KD (by omega),Yt _,h⟩
 |f+1,a,b,h,hp=>by
  rw[Xa]
  by_cases c:b<=a+1
  ·rw[if_pos c]
   exact⟨KD rfl,KD (by omega),Yt _,h⟩
  ·rw[if_neg c]
   rcases hp with hp| ⟨hP,hp⟩
   ·exact absurd hp c
   by_cases d:t ((a+b)/2)=true
   ·rw[if_pos d]at hp⊢
    obtain⟨i1,i2,i3,i4⟩:=Di f _ _ (by omega) hp
    refine⟨?_,i2,by omega,i4⟩
    rcases i1 with i1|i1
    ·rw[i1];exact KK ⟨hP,d⟩
    ·exact KK i1
   ·rw[if_neg d]at hp⊢
    obtain⟨i1,i2,i3,i4⟩:=Di f _ _ (by omega) hp
    refine⟨i1,?_,i3,by omega⟩
    rcases i2 with i2|i2
    ·rw[i2];exact KK (by simpa using d)
    ·exact KK i2
end Go.Proofs.YtlhmikjnholpnaaGreatDoor
namespace Go.Proofs.YtlhmikjnholpnaaGreatDoor.Q
open Go Go.Vx
theorem Og{n p:Nat}(h1:1<=n)(h2:n<4611686018427387904):2^(lgR n p).1<=n^(2^p)/\n^(2^p)<=2^(lgR n p).2:=by
 unfold lgR
 by_cases c:n=2^lgK n
 ·rw[if_pos c]
  have e:n^(2^p)=2^(lgK n*2^p):=by rw[Ym,<-c]
  rw[e];exact⟨Yt _,Yt _⟩
 ·rw[if_neg c]
  have hk:lgK n<62:=WX (by decide) h2
  rcases YY (2*p+60) (lgK n)with hh|hh
  ·have hk1:=MS h1
   have e:2*p+60-lgK n=0:=by omega
   obtain rfl:p=0:=by omega
   simp only[gl]
   rw[Jk,QO]
   exact⟨hk1.1,JZ hk1.2⟩
  ·obtain⟨m1,m2,m3⟩:=Gx (D:=2*p+60) h1 hh
   exact Bz _ false (YB (by decide)) p _ _ _ n (Yx m3) (Yx m3.symm) m1 (JZ m2)
theorem Lr{n p:Nat}(h1:1<=n)(h2:n<4611686018427387904):(lgR n p).1<=(lgR n p).2/\(lgR n p).2<=64*2^p:=by
 have hs:=Og (p:=p) h1 h2
 have hk:lgK n<62:=WX (by decide) h2
 refine⟨(Nat.pow_le_pow_iff_right (by decide)).1 (Yh hs.1 hs.2),?_⟩
 unfold lgR
 split
 ·exact Yp _ (by omega)
 ·exact Yh (Gj _ false p _ _ (lgK n)).2 (Yp _ (by omega))
theorem Of{n p r:Nat}(h1:1<=n)(h2:n<4611686018427387904)(hp:p+2<=r):(lN n p).1*2^(r-p)<=(lgR n r).1/\(lgR n r).2<=(lN n p).2*2^(r-p):=by
 have hk:lgK n<62:=WX (by decide) h2
 unfold lN lgR
 by_cases c:Qa (n:Int)=true
 ·rw[if_pos c,if_pos (IH h1 h2 c)]
  have e:lgK n*2^p*2^(r-p)=lgK n*2^r:=by
   rw[YA,<-Yo];congr 2;omega
  simp only
  rw[e];exact⟨Yt _,Yt _⟩
 ·have c':¬n=2^lgK n:=fun hh=>c (by rw[hh];exact II _ hk)
  rw[if_neg c,if_neg c']
  obtain⟨d,rfl⟩:∃d,r=p+2+d:=⟨r-p-2,by omega⟩
  have eM:(2:Nat)^(2*(p+2+d)+60)=2^(2*p+64)*2^(2*d):=by
   rw[<-Yo];congr 1;omega
  have eA:n*2^(2*(p+2+d)+60-lgK n)=2^(2*d)*(n*2^(2*p+64-lgK n)):=by
   rw[show 2*(p+2+d)+60-lgK n=2*d+(2*p+64-lgK n)by omega,Yo,Jd]
  have:=EU (2^(2*p+64)) (2^(2*d)) false (YB (by decide)) (YB (by decide)) (2+d) p (n*2^(2*p+64-lgK n)) (n*2^(2*p+64-lgK n)) (lgK n) _ _ (Yx eA.symm) (Yt _) (Yx eA)
  rw[<-eM,show p+(2+d)=p+2+d by omega]at this
  rw[show p+2+d-p=2+d by omega]
  exact this
theorem G0(g:Nat->Nat):∀a b,upS g (a++b)=upS g a+upS g b/\dnS g (a++b)=dnS g a+dnS g b
 | [],b=>by simp [upS,dnS]
 |x::a,b=>by
  obtain⟨h1,h2⟩:=G0 g a b
  rw[Ws,upS,dnS,upS,dnS,h1,h2]
  exact⟨(Zk ..).symm,(Zk ..).symm⟩
theorem G2(g:Nat->Nat)(c:Nat):∀l,upS (fun n=>g n*c) l=upS g l*c/\dnS (fun n=>g n*c) l=dnS g l*c
 | []=>by simp [upS,dnS]
 |x::l=>by
  obtain⟨h1,h2⟩:=G2 g c l
  rw[upS,dnS,upS,dnS,h1,h2,YM,YM]
  constructor
  ·split
   ·rw[JP]
   ·rw[Vh]
  ·split
   ·rw[Vh]
   ·rw[JP]
def lo(p n:Nat):Nat:=(lgR n p).1
def hi(p n:Nat):Nat:=(lgR n p).2
def RP(l:List (Int×Int))(p:Nat):Prop:=upS (lo p) l<=dnS (hi p) l/\dnS (lo p) l<=upS (hi p) l
theorem YoH{l:List (Int×Int)}{p r:Nat}(hl:∀x,x∈l->okU x)(hp:p+2<=r)(h:RP l r):Und l p:=by
 obtain⟨h1,h2⟩:=h
 obtain⟨a1,a2⟩:=G1 (g:=fun n=>(lN n p).1*2^(r-p)) (h:=lo r) (fun n k1 k2=>(Of k1 k2 hp).1) l hl
 obtain⟨b1,b2⟩:=G1 (g:=hi r) (h:=fun n=>(lN n p).2*2^(r-p)) (fun n k1 k2=>(Of k1 k2 hp).2) l hl
 obtain⟨c1,c2⟩:=G2 (fun n=>(lN n p).1) (2^(r-p)) l
 obtain⟨d1,d2⟩:=G2 (fun n=>(lN n p).2) (2^(r-p)) l
 rw[c1]at a1;rw[c2]at a2;rw[d1]at b1;rw[d2]at b2
 exact⟨Ki (Yh a1 (Yh h1 b2)) (Jh _),Ki (Yh a2 (Yh h2 b1)) (Jh _)⟩
def Xk(l:List (Int×Int))(p:Nat):Int:=if dnS (hi p) l<upS (lo p) l then 1 else if upS (hi p) l<dnS (lo p) l then -1 else 0
theorem L0{l:List (Int×Int)}{p:Nat}(hl:∀x,x∈l->okU x):(Xk l p=1->dnP l<upP l)/\(Xk l p= -1->upP l<dnP l)/\(Xk l p=0->RP l p)/\(Xk l p=1\/Xk l p= -1\/Xk l p=0):=by
 obtain⟨⟨a1,a2⟩,b1,b2⟩:=VG (K:=2^p) (g:=lo p) (h:=hi p) (fun n k1 k2=>Og k1 k2) l hl
 unfold Xk
 by_cases c1:dnS (hi p) l<upS (lo p) l
 ·rw[if_pos c1]
  exact⟨fun _=>Vp b2 a1 c1,fun h=>absurd h (by decide),fun h=>absurd h (by decide),KD rfl⟩
 ·rw[if_neg c1]
  by_cases c2:upS (hi p) l<dnS (lo p) l
  ·rw[if_pos c2]
   exact⟨fun h=>absurd h (by decide),fun _=>Vp a2 b1 c2,fun h=>absurd h (by decide),KK (KD rfl)⟩
  ·rw[if_neg c2]
   exact⟨fun h=>absurd h (by decide),fun h=>absurd h (by decide),fun _=>⟨by omega,by omega⟩,KK (KK rfl)⟩
theorem Z4{l:List (Int×Int)}{p:Nat}{g:Nat->Nat}(hg:∀n,1<=n->n<4611686018427387904->g n<=64*2^p)(hl:∀x,x∈l->okU x)(hn:l.length<=20)(hp:p<=3840):nl (upS g l)<=300/\nl (dnS g l)<=300:=by
 obtain⟨h1,h2⟩:=N3 hg l hl
 have hb:l.length*(64*2^p*3000000000000000)<2^(p+62):=by
  rw[Yo]
  have h3:=Yp (64*2^p*3000000000000000) hn
  have:=Jh p
  rw[show(2:Nat)^62=4611686018427387904 from rfl]
  omega
 exact⟨Ua (JC h1 hb) (by omega),Ua (JC h2 hb) (by omega)⟩
theorem Gu{p n:Nat}(h1:1<=n)(h2:n<4611686018427387904):lo p n<=64*2^p:=Yh (Lr h1 h2).1 (Lr h1 h2).2
theorem Gk{p n:Nat}(h1:1<=n)(h2:n<4611686018427387904):hi p n<=64*2^p:=(Lr h1 h2).2
set_option maxRecDepth 100000
set_option maxHeartbeats 4000000
def v57:VF:=⟨91,[.cell 4 true 2,.cell 5 true 2],(ZR [u1 4 (.allocArr 2 1 [.nil,.nil]) [],u1 5 (.allocArr 2 1 [.nil,.nil]) []] (ZR [u1 6 (.allocArr 2 1 [.nil,.nil]) [],u1 7 (.allocArr 2 1 [.nil,.nil]) []] (.seq (ZR [Zi 8 0] (.block 0 (.loop (.seq (ZR [Zm 12 8,Zm 13 0,Zl 14 13,Zr 15 .lss 12 14] (ZC 15 .skip (.exit 0))) (.seq (.block 1 (.seq (ZR [Zm 18 0,Zm 19 8,Zx 20 2 18 19,Za 21 0 20,Zf 22 1 21,Zq 23 .eql 22 1,Zm 24 23,Zg 25 24 false 0,Zg 26 24 false 8,u2 27 24 false (.idxAddr 2) [.tm 25,.tm 26],Zj 28 24 false 1 27,Zh 29 24 false 1 28,u2 30 24 false (.cmp .eql) [.tm 29,.cn (.int .i64 0)],u1 31 .or [.tm 24,.tm 30]] (ZC 31 (.exit 1) .skip)) (ZR [Zm 33 0,Zm 34 8,Zx 35 2 33 34,Za 36 0 35,Zf 37 1 36,Zm 38 1,Zd 39 92 37 38,Zm 32 39,Ze 40 0 32,Ze 41 1 32,Zm 9 40,Zm 10 41] (.seq (.draw [] [Zu 42 0,Zu 43 8,ZX 44 2 42 43,Zy 45 1 44,Zv 46 1 45,Zu 47 0,Zu 48 8,ZX 49 2 47 48,Zy 50 1 49,Zv 51 1 50,w1 52 .neg [.tm 51],w1 53 .max [.tm 46,.tm 52],w1 54 (.call 93) [.tm 53],Zu 11 54]) (ZR [Zm 55 0,Zm 56 8,Zx 57 2 55 56,Za 58 1 57,Zf 59 1 58,Zq 60 .gtr 59 0] (ZC 60 (.seq (.draw [] [w1 61 (.idxArr 2 1) [.tm 6,.cn (.int .i64 0)],Zv 62 1 61,Zu 63 11,Zu 64 9,Zz 65 94 63 64,Zz 66 86 62 65,w1 67 (.idxArr 2 1) [.tm 6,.cn (.int .i64 0)],ZS 1 67 66]) (.draw [] [w1 68 (.idxArr 2 1) [.tm 6,.cn (.int .i64 1)],Zv 69 1 68,Zu 70 11,Zu 71 10,Zz 72 94 70 71,Zz 73 86 69 72,w1 74 (.idxArr 2 1) [.tm 6,.cn (.int .i64 1)],ZS 1 74 73])) (.seq (.draw [] [w1 75 (.idxArr 2 1) [.tm 7,.cn (.int .i64 0)],Zv 76 1 75,Zu 77 11,Zu 78 9,Zz 79 94 77 78,Zz 80 86 76 79,w1 81 (.idxArr 2 1) [.tm 7,.cn (.int .i64 0)],ZS 1 81 80]) (.draw [] [w1 82 (.idxArr 2 1) [.tm 7,.cn (.int .i64 1)],Zv 83 1 82,Zu 84 11,Zu 85 10,Zz 86 94 84 85,Zz 87 86 83 86,w1 88 (.idxArr 2 1) [.tm 7,.cn (.int .i64 1)],ZS 1 88 87])))))))) (.region [Zm 16 8,Zp 17 16 1,Zm 8 17])))))) (.seq (.draw [] [Zw 89 2 6,Zw 90 2 7,⟨Zs 2 4 89,[.tm 7]⟩,ZS 2 5 90]) .ret))))⟩
theorem Yqa:Yn Yb Tryz.f57=some v57:=by kernel_rfl
def v58:VF:=⟨17,[.tmp 4],(ZR [u1 2 .box [.tm 0],u1 3 .box [.tm 1],Zi 4 0] (.seq (ZR [u1 5 (.idxArr 2 1) [.tm 2,.cn (.int .i64 0)],Zf 6 1 5,u1 7 (.idxArr 2 1) [.tm 3,.cn (.int .i64 1)],Zf 8 1 7,Zd 9 95 6 8,Zq 10 .gtr 9 0] (ZC 10 (ZR [Zi 4 1] .ret) .skip)) (.seq (ZR [u1 11 (.idxArr 2 1) [.tm 2,.cn (.int .i64 1)],Zf 12 1 11,u1 13 (.idxArr 2 1) [.tm 3,.cn (.int .i64 0)],Zf 14 1 13,Zd 15 95 12 14,Zq 16 .lss 15 0] (ZC 16 (ZR [Zi 4 (-1)] .ret) .skip)) (ZR [Zi 4 0] .ret))))⟩
theorem Yqb:Yn Yb Tryz.f58=some v58:=by kernel_rfl
def sumsC:Ctr:={ alias:=false,of:=fun l=>match l with
 | [.vs _ _ n sz get,.int .i64 p]=> .ex (List (Int×Int)) fun l=> .ex Nat fun q=> .pre (lsP 2 Yw n sz get l/\(∀x,x∈l->okU x)/\n<=20/\p=q/\q<=3840/\q%15=0)
     (.all Bool fun y1=> .all Bool fun y2=> .all Bool fun y3=> .all Bool fun y4=> .fin (.tup [.agg [Yv y1 (upS (lo q) l),Yv y2 (upS (hi q) l)],.agg [Yv y3 (dnS (lo q) l),Yv y4 (dnS (hi q) l)]]) [])
 |_=>noC}
def orderC:Ctr:={ alias:=false,of:=fun l=>match l with
 | [.agg [.vs _ _ n0 s0 g0,.vs _ _ n1 s1 g1],.agg [.vs _ _ n2 s2 g2,.vs _ _ n3 s3 g3]]=> .ex Nat fun a=> .ex Nat fun b=> .ex Nat fun c=> .ex Nat fun d=> .pre ((K9 a n0 s0 g0/\n0=nl a)/\(K9 b n1 s1 g1/\n1=nl b)/\(K9 c n2 s2 g2/\n2=nl c)/\(K9 d n3 s3 g3/\n3=nl d)) (.fin (.int .i64 (if d<a then 1 else if b<c then -1 else 0)) [])
 |_=>noC}
def Q7:Env:=mkE [(92,logC),(93,limbsC),(94,mulC),(86,addC),(95,cmpC)] []
theorem RD:YD Yb Q7:=eo (by kernel_rfl) ⟨⟨YlE,_,Tryz.func92,rfl,rfl⟩,⟨Aw,_,Tryz.func93,rfl,rfl⟩,⟨Ya0,_,Tryz.func94,rfl,rfl⟩,⟨Nt,_,Tryz.func86,rfl,rfl⟩,⟨YaZ,_,Tryz.func95,rfl,rfl⟩,trivial⟩ trivial
def GA(t z:Bool)(a:Nat):SV:= .vs t z (nl a) 1 (fun k=>[.int .i64 (dig a k)])
theorem Pj:orderC.ok Yb 58:=by
 refine Yy Tryz.func58 Yqb RD 300 orderC fun args k h=>?_
 simp only[orderC]at h
 split at h
 ·rename_i t0 z0 n0 s0 g0 t1 z1 n1 s1 g1 t2 z2 n2 s2 g2 t3 z3 n3 s3 g3
  obtain⟨a,b,c,d,⟨⟨⟨rfl,p0,p1,p2⟩,rfl⟩,⟨⟨rfl,q0,q1,q2⟩,rfl⟩,⟨⟨rfl,r0,r1,r2⟩,rfl⟩,⟨⟨rfl,u0,u1,u2⟩,rfl⟩⟩,h⟩:=h
  refine⟨[.agg [GA t0 z0 a,GA t1 z1 b],.agg [GA t2 z2 c,GA t3 z3 d]],⟨⟨⟨id,rfl,rfl,rfl,p2⟩,⟨id,rfl,rfl,rfl,q2⟩,trivial⟩,⟨⟨id,rfl,rfl,rfl,r2⟩,⟨id,rfl,rfl,rfl,u2⟩,trivial⟩,trivial⟩,?_⟩
  (try dsimp only[v58,Q7,Yk,cmpC,GA,Yj,go_sem,reduceIte,Ya])
  (try simp only[Yd,Ya,Ye,reduceCtorEq,Yc])
  have c1:0<JM a d↔d<a:=by
   unfold JM;split
   ·omega
   ·split <;> omega
  refine⟨by decide,by decide,a,d,⟨YO (by omega),YO (by omega),rfl,rfl⟩,fun hc=>?_,fun hc=>⟨by decide,by decide,b,c,⟨YO (by omega),YO (by omega),rfl,rfl⟩,fun hd=>?_,fun hd=>?_⟩⟩
  ·rw[if_pos (c1.1 hc)]at h;exact Kb h
  ·rw[if_neg (fun hh=>hc (c1.2 hh)),if_pos (ord_lt.1 hd)]at h;exact Kb h
  ·rw[if_neg (fun hh=>hc (c1.2 hh)),if_neg (fun hh=>hd (ord_lt.2 hh))]at h;exact Kb h
 ·exact h.1.elim
theorem Yji(p:Nat):lo p (1:Int).toNat=0/\hi p (1:Int).toNat=0:=by
 have e:lgR 1 p=(0,0):=by
  unfold lgR
  rw[if_pos (by decide),show lgK 1=0 by decide,JP]
 exact⟨congrArg Prod.fst e,congrArg Prod.snd e⟩
structure SSt where
 i:Nat
 y1:Bool
 y2:Bool
 y3:Bool
 y4:Bool
theorem Pk:sumsC.ok Yb 57:=by
 refine Yy Tryz.func57 Yqa RD 800 sumsC fun args k h=>?_
 simp only[sumsC]at h
 split at h
 ·rename_i tt z n sz get p'
  obtain⟨l,p,⟨⟨rfl,rfl,hg⟩,hl,hn,rfl,hp,hp15⟩,h⟩:=h
  refine⟨[.vs tt z l.length 2 (fun k=>Yw (l.getD k default)),.int .i64 p],⟨⟨id,rfl,rfl,rfl,hg⟩,⟨rfl,rfl⟩,trivial⟩,?_⟩
  (try dsimp only[v57,Yw,go_sem,reduceIte,Ya])
  (try simp only[Yd,Ya,Ye,reduceCtorEq,Yc])
  refine Loop.keep [0,0,2,0,0,0] SSt (fun s=>[(8,.int .i64 s.i)]) (fun s=>[(2,.own false 1 2 (Jt 1 [Yv s.y1 (upS (lo p) (l.take s.i)),Yv s.y2 (upS (hi p) (l.take s.i))])),(3,.own false 1 2 (Jt 1 [Yv s.y3 (dnS (lo p) (l.take s.i)),Yv s.y4 (dnS (hi p) (l.take s.i))]))]) [] (fun s=>s.i<=l.length) (fun s=>l.length-s.i) ?_ ?_
  ·refine⟨⟨0,true,true,true,true⟩,by simp only;omega,?_⟩
   (try dsimp only[Yv,go_sem,reduceIte,Ya])
   simp only[Yf]
   refine⟨by simp,fun k hk=>?_,fun k hk=>?_⟩
   ·match k,hk with
    |0,_=>exact⟨⟨rfl,rfl⟩,trivial⟩
    |1,_=>exact⟨⟨rfl,rfl⟩,trivial⟩
   ·match k,hk with
    |0,_=>exact⟨⟨rfl,rfl⟩,trivial⟩
    |1,_=>exact⟨⟨rfl,rfl⟩,trivial⟩
  ·rintro⟨i,y1,y2,y3,y4⟩ hi
   dsimp only at hi
   (try dsimp only[Q7,Yk,logC,limbsC,mulC,addC,Yv,Yw,Yj,Int.toNat_zero,Int.toNat_one,Nat.reduceMul,go_sem,reduceIte,Ya])
   (try simp only[Yd,Ya,Ye,reduceCtorEq,Yc])
   refine⟨fun hlt=>?_,fun hge=>?_⟩
   ·obtain⟨q0,q1,q2,q3⟩:=hl _ (KZ (by omega:i<l.length))
    have hx:=W8 (hl _ (KZ (by omega:i<l.length)))
    have hlt':i<l.length:=by omega
    have hU:∀g,upS g (l.take (i+1))=upS g (l.take i)+upS g [l.getD i default]:=fun g=>by rw[Hy hlt',(G0 g _ _).1]
    have hD:∀g,dnS g (l.take (i+1))=dnS g (l.take i)+dnS g [l.getD i default]:=fun g=>by rw[Hy hlt',(G0 g _ _).2]
    have hok:∀x,x∈l.take i->okU x:=fun x hx=>hl x (List.mem_of_mem_take hx)
    have hlen:(l.take i).length<=20:=by rw[Qs];omega
    obtain⟨b1,b2⟩:=Z4 (p:=p) (g:=lo p) (fun n h1 h2=>Gu h1 h2) hok hlen hp
    obtain⟨b3,b4⟩:=Z4 (p:=p) (g:=Q.hi p) (fun n h1 h2=>Gk h1 h2) hok hlen hp
    have lb:=Gu (p:=p) hx.1 hx.2.1
    have hb:=Gk (p:=p) hx.1 hx.2.1
    generalize l.getD i default=x at*
    have hlo:lo p x.1.toNat=(lgR x.1.toNat p).1:=rfl
    have hhi:Q.hi p x.1.toNat=(lgR x.1.toNat p).2:=rfl
    rw[<-hlo,<-hhi]
    have h1L:x.1=1->lo p x.1.toNat=0/\Q.hi p x.1.toNat=0:=fun hh=>by rw[hh];exact Yji p
    have eU:∀g:Nat->Nat,upS g [x]=if x.2<0 then 0 else g x.1.toNat*x.2.toNat:=fun g=>by rw[upS,upS,KO]
    have eD:∀g:Nat->Nat,dnS g [x]=if x.2<0 then g x.1.toNat*(-x.2).toNat else 0:=fun g=>by rw[dnS,dnS,KO]
    simp only[eU,eD]at hU hD
    have ei:IntKind.i64.wrap ((i:Int)+1)=((i+1:Nat):Int):=by rw[Yg _ (by omega)];omega
    have en:IntKind.i64.wrap (0-x.2)= -x.2:=by rw[Yg _ (by omega)];omega
    have uL:=hU (lo p)
    have uH:=hU (Q.hi p)
    have dL:=hD (lo p)
    have dH:=hD (Q.hi p)
    generalize lo p x.1.toNat=L at*
    generalize Q.hi p x.1.toNat=H at*
    rw[ei,en]
    refine⟨⟨by omega,by omega⟩,fun _=>⟨by omega,by omega⟩,fun hc=>?_,fun hc=>⟨⟨by omega,by omega⟩,⟨⟨q0,q1⟩,by omega,by omega,by omega⟩,fun z1 z2=>⟨by decide,by decide,⟨by omega,by omega⟩,⟨by omega,by omega⟩,⟨by omega,by omega⟩,⟨by omega,by omega⟩,fun hpos=>⟨by decide,?_⟩,fun hneg=>⟨by decide,?_⟩⟩⟩⟩
    ·have hz:(if x.2<0 then 0 else L*x.2.toNat)=0/\(if x.2<0 then 0 else H*x.2.toNat)=0/\(if x.2<0 then L*(-x.2).toNat else 0)=0/\(if x.2<0 then H*(-x.2).toNat else 0)=0:=by
      rw[Qj,decide_eq_true_eq,decide_eq_true_eq]at hc
      rcases hc with hc|hc
      ·obtain⟨l1,l2⟩:=h1L hc
       simp [l1,l2]
      ·simp [hc]
     obtain⟨a1,a2,a3,a4⟩:=hz
     rw[a1,KO]at uL
     rw[a2,KO]at uH
     rw[a3,KO]at dL
     rw[a4,KO]at dH
     refine⟨⟨i+1,y1,y2,y3,y4⟩,by simp only;omega,by simp only;omega,?_⟩
     simp only[uL,uH,dL,dH]
     simp only[Yf]
     refine⟨by simp,fun k hk=>?_,fun k hk=>?_⟩
     ·match k,hk with
      |0,_=>exact YN _ ⟨trivial,trivial⟩
      |1,_=>exact YN _ ⟨trivial,trivial⟩
     ·match k,hk with
      |0,_=>exact YN _ ⟨trivial,trivial⟩
      |1,_=>exact YN _ ⟨trivial,trivial⟩
    ·simp only[if_false]
     (try dsimp only[Q7,Yk,logC,limbsC,mulC,addC,Yv,Yw,Yj,Int.toNat_zero,Int.toNat_one,Nat.reduceMul,go_sem,reduceIte,Ya])
     (try simp only[Yd,Ya,Ye,reduceCtorEq,Yc])
     rw[if_neg (by omega)]at uL uH dL dH
     rw[KO]at dL dH
     have hM:(max x.2 (-x.2)).toNat=x.2.toNat:=by omega
     rw[hM]
     have hMb:x.2.toNat<=3000000000000000:=by omega
     generalize x.2.toNat=M at*
     have fM:nl M<=4:=nl_le.2 (by omega)
     have f32:∀X,X<=64*2^p->nl X<=300/\nl (M*X)<=300:=fun X hX=>by
      have h3:M*X<=3000000000000000*(64*2^p):=YX hMb hX
      have h4:=Jh p
      have h5:3000000000000000*(64*2^p)<2^(p+62):=by rw[Yo,show(2:Nat)^62=4611686018427387904 from rfl];omega
      have h6:p+62<15*300:=by omega
      exact⟨Ua (JC (show X<=3000000000000000*(64*2^p)by omega) h5) h6,Ua (JC h3 h5) h6⟩
     obtain⟨fL,fML⟩:=f32 L lb
     obtain⟨fH,fMH⟩:=f32 H hb
     refine⟨by decide,M,L,⟨YO (by omega),YO (by omega),by omega,by omega⟩,upS (lo p) (l.take i),M*L,⟨YO (by omega),YO (by omega),by omega,by omega⟩,by decide,by decide,by decide,by decide,M,H,⟨YO (by omega),YO (by omega),by omega,by omega⟩,upS (Q.hi p) (l.take i),M*H,⟨YO (by omega),YO (by omega),by omega,by omega⟩,by decide,by decide,⟨i+1,false,false,y3,y4⟩,by simp only;omega,by simp only;omega,?_⟩
     simp only[uL,uH,dL,dH,ei,Yl L,Yl H]
     simp only[Yf]
     refine⟨by simp,fun k hk=>?_,fun k hk=>?_⟩
     ·match k,hk with
      |0,_=>exact YN _ ⟨trivial,trivial⟩
      |1,_=>exact YN _ ⟨trivial,trivial⟩
     ·match k,hk with
      |0,_=>exact YN _ ⟨trivial,trivial⟩
      |1,_=>exact YN _ ⟨trivial,trivial⟩
    ·simp only[if_false]
     (try dsimp only[Q7,Yk,logC,limbsC,mulC,addC,Yv,Yw,Yj,Int.toNat_zero,Int.toNat_one,Nat.reduceMul,go_sem,reduceIte,Ya])
     (try simp only[Yd,Ya,Ye,reduceCtorEq,Yc])
     have hx0:x.2≠0:=fun hh=>by rw[hh,decide_eq_true rfl,Bool.or_true]at hc;cases hc
     rw[if_pos (by omega)]at uL uH dL dH
     rw[KO]at uL uH
     have hM:(max x.2 (-x.2)).toNat=(-x.2).toNat:=by omega
     rw[hM]
     have hMb:(-x.2).toNat<=3000000000000000:=by omega
     generalize(-x.2).toNat=M at*
     have fM:nl M<=4:=nl_le.2 (by omega)
     have f32:∀X,X<=64*2^p->nl X<=300/\nl (M*X)<=300:=fun X hX=>by
      have h3:M*X<=3000000000000000*(64*2^p):=YX hMb hX
      have h4:=Jh p
      have h5:3000000000000000*(64*2^p)<2^(p+62):=by rw[Yo,show(2:Nat)^62=4611686018427387904 from rfl];omega
      have h6:p+62<15*300:=by omega
      exact⟨Ua (JC (show X<=3000000000000000*(64*2^p)by omega) h5) h6,Ua (JC h3 h5) h6⟩
     obtain⟨fL,fML⟩:=f32 L lb
     obtain⟨fH,fMH⟩:=f32 H hb
     refine⟨by decide,M,L,⟨YO (by omega),YO (by omega),by omega,by omega⟩,dnS (lo p) (l.take i),M*L,⟨YO (by omega),YO (by omega),by omega,by omega⟩,by decide,by decide,by decide,by decide,M,H,⟨YO (by omega),YO (by omega),by omega,by omega⟩,dnS (Q.hi p) (l.take i),M*H,⟨YO (by omega),YO (by omega),by omega,by omega⟩,by decide,by decide,⟨i+1,y1,y2,false,false⟩,by simp only;omega,by simp only;omega,?_⟩
     simp only[uL,uH,dL,dH,ei,Yl L,Yl H]
     simp only[Yf]
     refine⟨by simp,fun k hk=>?_,fun k hk=>?_⟩
     ·match k,hk with
      |0,_=>exact YN _ ⟨trivial,trivial⟩
      |1,_=>exact YN _ ⟨trivial,trivial⟩
     ·match k,hk with
      |0,_=>exact YN _ ⟨trivial,trivial⟩
      |1,_=>exact YN _ ⟨trivial,trivial⟩
   ·obtain rfl:i=l.length:=by omega
    rw[Xt]at*
    exact⟨by decide,by decide,Kv (show k _ []from h y1 y2 y3 y4) (JG _ ⟨⟨trivial,trivial,trivial⟩,⟨trivial,trivial,trivial⟩,trivial⟩) (fun _=>by simp [Yv,Y3,Y5])⟩
 ·exact h.1.elim
def v55:VF:=⟨43,[.tmp 2],(ZR [Zi 2 0] (.seq (ZR [Zm 4 0,Zl 5 4,Zq 6 .gtr 5 16] (ZC 6 (ZR [Zi 2 3] .ret) .skip)) (.seq (ZR [Zi 3 0] (.block 0 (.loop (.seq (ZR [Zm 7 3,Zm 8 0,Zl 9 8,Zr 10 .lss 7 9] (ZC 10 .skip (.exit 0))) (.seq (.block 1 (ZR [Zm 13 0,Zm 14 3,Zx 15 2 13 14,Za 16 0 15,Zf 17 1 16,Zq 18 .lss 17 1,Zm 19 18,Zg 20 19 false 0,Zg 21 19 false 3,u2 22 19 false (.idxAddr 2) [.tm 20,.tm 21],Zj 23 19 false 0 22,Zh 24 19 false 1 23,u2 25 19 false (.cmp .gtr) [.tm 24,.cn (.int .i64 1000000000000)],u1 26 .or [.tm 19,.tm 25],Zm 27 26,Zg 28 27 false 0,Zg 29 27 false 3,u2 30 27 false (.idxAddr 2) [.tm 28,.tm 29],Zj 31 27 false 1 30,Zh 32 27 false 1 31,u2 33 27 false (.cmp .lss) [.tm 32,.cn (.int .i64 (-1000000000))],u1 34 .or [.tm 27,.tm 33],Zm 35 34,Zg 36 35 false 0,Zg 37 35 false 3,u2 38 35 false (.idxAddr 2) [.tm 36,.tm 37],Zj 39 35 false 1 38,Zh 40 35 false 1 39,u2 41 35 false (.cmp .gtr) [.tm 40,.cn (.int .i64 1000000000)],u1 42 .or [.tm 35,.tm 41]] (ZC 42 (ZR [Zi 2 2] .ret) .skip))) (.region [Zm 11 3,Zp 12 11 1,Zm 3 12])))))) (ZR [Zi 2 0] .ret))))⟩
theorem Yp8:Yn Yb Tryz.f55=some v55:=by kernel_rfl
def v91:VF:=⟨23,[.tmp 2],(ZR [Zi 2 0] (.seq (ZR [Zm 7 0,Zc 8 131 7] (ZC 8 (ZR [Zi 2 0] .ret) .skip)) (ZR [Zi 3 30] (.block 0 (.loop (.seq (.block 1 (ZR [Zm 12 0,Zm 13 3,Zd 14 57 12 13,Zm 11 14,Ze 15 0 11,Ze 16 1 11,u1 4 (.allocArr 2 1 [.nil,.nil]) [],u1 5 (.allocArr 2 1 [.nil,.nil]) [],Zs 2 4 15,Zs 2 5 16] (ZR [Zt 17 2 4,Zt 18 2 5,Zd 19 58 17 18,Zm 6 19] (ZR [Zm 20 6,Zq 21 .neq 20 0] (ZC 21 (ZR [Zm 22 6,Zm 2 22] .ret) .skip))))) (.region [Zm 9 3,u1 10 (.ari .mul) [.cn (.int .i64 2),.tm 9],Zm 3 10])))))))⟩
theorem YqL:Yn Yb Tryz.f91=some v91:=by kernel_rfl
def v85:VF:=⟨17,[.tmp 6],(ZR [Zi 6 0] (ZR [u1 7 (.buildSlice 2 0 Z2 []) [],Zm 8 0,u1 9 (.append 2 16 Z2) [.tm 7,.tm 8],Zm 10 1,Zm 11 2,u1 12 .neg [.tm 11],u1 13 (.build Z2 [(0,1),(1,1)]) [.tm 10,.tm 12],u1 14 (.buildSlice 2 1 Z2 [(0,2)]) [.tm 13],u1 15 (.append 2 16 Z2) [.tm 9,.tm 14],Zc 16 91 15,Zm 6 16] .ret))⟩
theorem YqE:Yn Yb Tryz.f85=some v85:=by kernel_rfl
def sgn(l:List (Int×Int)):Int:=if dnP l<upP l then 1 else if upP l<dnP l then -1 else 0
def signC:Ctr:={ alias:=false,of:=fun l=>match l with
 | [.vs _ _ n sz get]=> .ex (List (Int×Int)) fun l=> .pre (lsP 2 Yw n sz get l/\(∀x,x∈l->okU x)/\n<=20/\Dec l) (.fin (.int .i64 (sgn l)) [])
 |_=> .pre False (.fin (.int .i64 0) [])}
def Q8:Env:=mkE [] []
theorem YdW:YD Yb Q8:=eo (by kernel_rfl) trivial trivial
theorem Ya3:chkTC.ok Yb 55:=by
 refine Yy Tryz.func55 Yp8 YdW 500 chkTC fun args k h=>?_
 simp only[chkTC]at h
 split at h
 ·rename_i tt z n sz get
  obtain⟨l,⟨⟨rfl,rfl,hg⟩,hn⟩,h⟩:=h
  refine⟨[.vs tt z l.length 2 (fun k=>Yw (l.getD k default))],⟨⟨id,rfl,rfl,rfl,hg⟩,trivial⟩,?_⟩
  (try dsimp only[v55,Yw,go_sem,reduceIte,Ya])
  (try simp only[Yd,Ya,Ye,reduceCtorEq,Yc])
  refine⟨fun hc=>?_,fun hc=>?_⟩
  ·rw[QG,if_pos (by omega)]at h;exact Kb h
  ·rw[QG,if_neg (by omega)]at h
   refine Loop.keep [0] Nat (fun i=>[(3,.int .i64 i)]) (fun _=>[]) [] (fun i=>i<=l.length/\(l.take i).any JB=false) (fun i=>l.length-i) ?_ ?_
   ·refine⟨0,⟨by omega,rfl⟩,?_⟩
    (try dsimp only[go_sem,reduceIte,Ya])
    simp only[Yf]
    rfl
   ·rintro i ⟨hi,hall⟩
    (try dsimp only[Yw,Yj,go_sem,reduceIte,Ya])
    (try simp only[Yd,Ya,Ye,reduceCtorEq,Yc])
    refine⟨fun hlt=>⟨⟨by omega,by omega⟩,fun _=>⟨by omega,by omega⟩,fun _=>⟨by omega,by omega⟩,fun _=>⟨by omega,by omega⟩,fun hc=>?_,fun hc=>⟨i+1,⟨by omega,?_⟩,by omega,?_⟩⟩,fun hge=>?_⟩
    ·have:l.any JB=true:=List.any_eq_true.2 ⟨_,KZ (by omega:i<l.length),hc⟩
     rw[if_pos this]at h
     exact Kb h
    ·rw[Ycn (by omega),hall,Bool.false_or];exact hc
    ·rw[Yg ((i:Int)+1) (by omega)]
     simp only[Yf]
     simp
    ·obtain rfl:i=l.length:=by omega
     rw[Xt]at hall
     rw[if_neg (by rw[hall];decide)]at h
     exact Kb h
 ·exact h.1.elim
def Q9:Env:=mkE [(131,oneC),(57,sumsC),(58,orderC)] []
theorem YdX:YD Yb Q9:=eo (by kernel_rfl) ⟨⟨YlG,_,Tryz.func131,rfl,rfl⟩,⟨Pk,_,Tryz.func57,rfl,rfl⟩,⟨Pj,_,Tryz.func58,rfl,rfl⟩,trivial⟩ trivial
theorem Ya2:signC.ok Yb 91:=by
 refine Yy Tryz.func91 YqL YdX 500 signC fun args k h=>?_
 simp only[signC]at h
 split at h
 ·rename_i tt z n sz get
  obtain⟨l,⟨⟨rfl,rfl,hg⟩,hl,hn,hdec⟩,h⟩:=h
  refine⟨[.vs tt z l.length 2 (fun k=>Yw (l.getD k default))],⟨⟨id,rfl,rfl,rfl,hg⟩,trivial⟩,?_⟩
  (try dsimp only[v91,Q9,Yk,oneC,Yw,go_sem,reduceIte,Ya])
  (try simp only[Yd,Ya,Ye,reduceCtorEq,Yc])
  have hself:lsP 2 Yw l.length 2 (fun k=>[SV.int IntKind.i64 (l.getD k default).fst,SV.int IntKind.i64 (l.getD k default).snd]) l:=⟨rfl,rfl,fun k _=>YW _⟩
  refine⟨l,⟨hself,hl,hn⟩,fun hc=>?_,fun hc=>?_⟩
  ·rw[sgn,if_neg (by omega),if_neg (by omega)]at h
   exact Kb h
  ·refine Loop.keep [0] Nat (fun j=>[(3,.int .i64 ((30*2^j:Nat):Int))]) (fun _=>[]) [] (fun j=>j<=7) (fun j=>7-j) ?_ ?_
   ·refine⟨0,by omega,?_⟩
    (try dsimp only[go_sem,reduceIte,Ya])
    simp only[Yf]
    rfl
   ·rintro j hj
    have hm:30*2^j<=3840:=by
     have:2^j<=2^7:=Kp (by decide) hj
     omega
    have hm15:30*2^j%15=0:=by omega
    have hm7:j=7->30*2^j=3840:=fun hh=>by rw[hh]
    have hms:30*2^(j+1)=2*(30*2^j):=by rw[YH];omega
    (try dsimp only[Q9,Yk,sumsC,orderC,Yv,Yw,Yj,Int.toNat_zero,Int.toNat_one,Nat.reduceMul,go_sem,reduceIte,Ya])
    (try simp only[Yd,Ya,Ye,reduceCtorEq,Yc])
    obtain⟨m,hme⟩:∃m,m=30*2^j:=⟨_,rfl⟩
    rw[<-hme]at hm hm15 hm7 hms⊢
    have b1:=Z4 (p:=m) (g:=lo m) (fun n h1 h2=>Gu h1 h2) hl hn hm
    have b2:=Z4 (p:=m) (g:=hi m) (fun n h1 h2=>Gk h1 h2) hl hn hm
    obtain⟨o1,o2,o3,o4⟩:=L0 (p:=m) hl
    refine⟨l,m,⟨hself,hl,hn,rfl,hm,hm15⟩,fun y1 y2 y3 y4=>⟨by decide,by decide,by decide,by decide,upS (lo m) l,upS (hi m) l,dnS (lo m) l,dnS (hi m) l,⟨⟨YO (by omega),rfl⟩,⟨YO (by omega),rfl⟩,⟨YO (by omega),rfl⟩,⟨YO (by omega),rfl⟩⟩,fun hd=>?_,fun hd=>?_⟩⟩
    ·have hd:¬Xk l m=0:=hd
     have hs:sgn l=Xk l m:=by
      rcases o4 with e|e|e
      ·rw[e,sgn,if_pos (o1 e)]
      ·have:=o2 e
       rw[e,sgn,if_neg (by omega),if_pos this]
      ·exact absurd e hd
     rw[hs]at h
     exact Kb h
    ·have hd:Xk l m=0:=hd
     have hj7:j≠7:=fun hh=>by
      have hu:=o3 hd
      rw[hm7 hh]at hu
      rcases hdec with e|e
      ·exact hc e
      ·exact e (YoH hl (by decide) hu)
     refine⟨j+1,by omega,by omega,?_⟩
     rw[hms,Yg (2*(m:Int)) (by omega)]
     simp only[Yf]
     omega
 ·exact h.1.elim
def belowC:Ctr:={ alias:=false,of:=fun l=>match l with
 | [.vs _ _ n sz get,.int .i64 kk,.int .i64 den]=> .ex (List (Int×Int)) fun l=> .pre (lsP 2 Yw n sz get l/\(∀x,x∈l->okU x)/\n<=18/\(1<=kk/\kk<=1000000000001)/\(1<=den/\den<=1000000)/\Dec (atF l den kk)) (.fin (.int .i64 (sgn (atF l den kk))) [])
 |_=> .pre False (.fin (.int .i64 0) [])}
theorem Yfq{l:List (Int×Int)}{den kk:Int}{hp:List HO}{r:List SV->List SV}{i:Nat}:
 lsP 2 Yw (l.length+1) 2 (fun k=>Jw false hp r (if k<l.length then YU i [SV.int IntKind.i64 (l.getD k default).fst,SV.int IntKind.i64 (l.getD k default).snd]else YU i (YP 2 (YF ((k-l.length)*2) [SV.int IntKind.i64 kk,SV.int IntKind.i64 (-den)])))) (atF l den kk):=by
 refine⟨rfl,by simp [atF],fun k hk=>?_⟩
 unfold atF
 dsimp only
 by_cases h1:k<l.length
 ·rw[if_pos h1,Kh (l:=_++_),QY h1,<-Kh]
  exact YW _
 ·rw[if_neg h1,show k-l.length=0 by omega,Kh (l:=_++_),Z0 (by omega),show k-l.length=0 by omega]
  exact YW _
def Q10:Env:=mkE [(91,signC)] []
theorem YdQ:YD Yb Q10:=eo (by kernel_rfl) ⟨⟨Ya2,_,Tryz.func91,rfl,rfl⟩,trivial⟩ trivial
theorem YlB:belowC.ok Yb 85:=by
 refine Yy Tryz.func85 YqE YdQ 500 belowC fun args k h=>?_
 simp only[belowC]at h
 split at h
 ·rename_i tt z n sz get kk den
  obtain⟨l,⟨⟨rfl,rfl,hg⟩,hl,hn,hk,hden,hdec⟩,h⟩:=h
  refine⟨[.vs tt z l.length 2 (fun k=>Yw (l.getD k default)),.int .i64 kk,.int .i64 den],⟨⟨id,rfl,rfl,rfl,hg⟩,⟨rfl,rfl⟩,⟨rfl,rfl⟩,trivial⟩,?_⟩
  (try dsimp only[v85,Q10,Yk,signC,Yw,go_sem,reduceIte,Ya])
  (try simp only[Yd,Ya,Ye,reduceCtorEq,Yc])
  have hnd:IntKind.i64.wrap (0-den)= -den:=by rw[Yg _ (by omega)];omega
  rw[hnd]
  simp only[KJ,J8,if_false,Nat.sub_zero]
  refine⟨by decide,by unfold Y8;omega,by decide,⟨by unfold Y8;omega,fun k hk=>?_⟩,atF l den kk,⟨Yfq,?_,by omega,hdec⟩,Kb h⟩
  ·obtain rfl:k=0:=by omega
   exact⟨rfl,trivial,trivial,trivial⟩
  ·intro x hx
   unfold atF at hx
   rw[Ky,Jj]at hx
   rcases hx with hx|rfl
   ·exact hl x hx
   ·simp only[okU];omega
 ·exact h.1.elim
def v48:VF:=⟨105,[.tmp 6,.tmp 7,.tmp 8],(ZR [Zi 6 0,u1 7 .mov [.cn (.bool false)],Zi 8 0] (ZR [Zm 19 1,Zc 20 55 19,Zm 9 20] (.seq (ZR [Zm 21 9,Zq 22 .neq 21 0] (ZC 22 (ZR [Zm 23 9,Zi 6 0,u1 7 .mov [.cn (.bool false)],Zm 8 23] .ret) .skip)) (.seq (ZR [Zm 24 2,Zq 25 .lss 24 1,Zm 26 25,Zg 27 26 false 2,u2 28 26 false (.cmp .gtr) [.tm 27,.cn (.int .i64 1000000)],u1 29 .or [.tm 26,.tm 28],Zm 30 29,Zg 31 30 false 0,u2 32 30 false (.cmp .lss) [.tm 31,.cn (.int .i64 1)],u1 33 .or [.tm 30,.tm 32],Zm 34 33,Zg 35 34 false 0,u2 36 34 false (.cmp .gtr) [.tm 35,.cn (.int .i64 1000000000000)],u1 37 .or [.tm 34,.tm 36]] (ZC 37 (ZR [Zi 6 0,u1 7 .mov [.cn (.bool false)],Zi 8 2] .ret) .skip)) (ZR [u1 38 (.buildSlice 2 0 Z2 []) [],Zm 39 1,u1 40 (.append 2 16 Z2) [.tm 38,.tm 39],Zm 41 0,Zm 42 2,u1 43 (.build Z2 [(0,1),(1,1)]) [.tm 41,.tm 42],u1 44 (.buildSlice 2 1 Z2 [(0,2)]) [.tm 43],u1 45 (.append 2 16 Z2) [.tm 40,.tm 44],Zm 10 45] (.seq (ZR [Zm 46 10,Zm 47 2,u1 48 (.call 85) [.tm 46,.cn (.int .i64 1000000000001),.tm 47],Zq 49 .geq 48 0] (ZC 49 (ZR [Zi 6 0,u1 7 .mov [.cn (.bool false)],Zi 8 7] .ret) .skip)) (ZR [Zm 51 10,u1 52 (.call 57) [.tm 51,.cn (.int .i64 30)],Zm 50 52,Ze 53 0 50,Ze 54 1 50,u1 11 (.allocArr 2 1 [.nil,.nil]) [],u1 12 (.allocArr 2 1 [.nil,.nil]) [],Zs 2 11 53,Zs 2 12 54] (ZR [Zi 13 0,Zi 14 1000000000001] (.seq (.block 0 (.loop (.seq (ZR [Zm 55 14,Zm 56 13,Zo 57 .sub 55 56,Zq 58 .gtr 57 1] (ZC 58 .skip (.exit 0))) (.block 1 (ZR [Zm 59 13,Zm 60 14,Zo 61 .add 59 60,u1 62 .quo [.tm 61,.cn (.int .i64 2)],Zm 15 62] (ZR [Zm 64 15,Zm 65 2,u1 66 .neg [.tm 65],u1 67 (.build Z2 [(0,1),(1,1)]) [.tm 64,.tm 66],u1 68 (.buildSlice 2 1 Z2 [(0,2)]) [.tm 67],u1 69 (.call 57) [.tm 68,.cn (.int .i64 30)],Zm 63 69,Ze 70 0 63,Ze 71 1 63,u1 16 (.allocArr 2 1 [.nil,.nil]) [],u1 17 (.allocArr 2 1 [.nil,.nil]) [],Zs 2 16 70,Zs 2 17 71] (.seq (.draw [] [Zw 72 2 11,w1 73 (.idxArr 2 1) [.tm 12,.cn (.int .i64 0)],Zv 74 1 73,w1 75 (.idxArr 2 1) [.tm 17,.cn (.int .i64 0)],Zv 76 1 75,w1 78 (.idxArr 2 1) [.tm 12,.cn (.int .i64 1)],Zv 79 1 78,w1 80 (.idxArr 2 1) [.tm 17,.cn (.int .i64 1)],Zv 81 1 80,Zz 77 86 74 76,Zz 82 86 79 81,w1 83 (.build [.nil,.nil] [(0,1),(1,1)]) [.tm 77,.tm 82],Zz 84 58 72 83,Zu 18 84]) (.seq (ZR [Zm 85 18,Zq 86 .eql 85 0] (ZC 86 (.region [Zm 87 10,Zm 88 15,Zm 89 2,u1 90 (.call 85) [.tm 87,.tm 88,.tm 89],Zm 18 90]) .skip)) (ZR [Zm 91 18,Zq 92 .geq 91 0] (ZC 92 (.region [Zm 93 15,Zm 13 93]) (.region [Zm 94 15,Zm 14 94]))))))))))) (ZR [Zm 95 13,Zm 96 13,Zq 97 .gtr 96 0,Zm 98 97,Zg 99 98 true 10,Zg 100 98 true 13,Zg 101 98 true 2,u2 102 98 true (.call 85) [.tm 99,.tm 100,.tm 101],u2 103 98 true (.cmp .eql) [.tm 102,.cn (.int .i64 0)],u1 104 .and [.tm 98,.tm 103],Zm 6 95,Zm 7 104,Zi 8 0] .ret))))))))))⟩
theorem Yp2:Yn Yb Tryz.f48=some v48:=by kernel_rfl
def tstR(all:List (Int×Int))(den:Int)(k:Nat):Bool:=decide (dnP (atF all den k)<=upP (atF all den k))
def powR(all:List (Int×Int))(den:Int):Nat:=Xa (tstR all den) 41 0 1000000000001
def rPowerC:Ctr:={ alias:=false,of:=fun l=>match l with
 | [.int .i64 s,.vs _ _ n sz get,.int .i64 den]=> .ex (List (Int×Int)) fun l=> .pre (lsP 2 Yw n sz get l/\(∀x,x∈l->JB x=false)/\n<=16/\1<=n/\(1<=s/\s<=1000000000000)/\(1<=den/\den<=1000000)/\
     (Dec (atF (l++[(s,den)]) den 1000000000001)/\tstR (l++[(s,den)]) den 1000000000001=false)/\VS (fun k=>Dec (atF (l++[(s,den)]) den k)) (tstR (l++[(s,den)]) den) 41 0 1000000000001) (.fin (.tup [.int .i64 (powR (l++[(s,den)]) den),.bool (decide (0<powR (l++[(s,den)]) den)&&decide (upP (atF (l++[(s,den)]) den (powR (l++[(s,den)]) den))=dnP (atF (l++[(s,den)]) den (powR (l++[(s,den)]) den)))),.int .i64 0]) [])
 |_=>noC}
def Q11:Env:=mkE [(55,chkTC),(85,belowC),(57,sumsC),(58,orderC),(86,addC)] []
theorem YdR:YD Yb Q11:=eo (by kernel_rfl) ⟨⟨Ya3,_,Tryz.func55,rfl,rfl⟩,⟨YlB,_,Tryz.func85,rfl,rfl⟩,⟨Pk,_,Tryz.func57,rfl,rfl⟩,⟨Pj,_,Tryz.func58,rfl,rfl⟩,⟨Nt,_,Tryz.func86,rfl,rfl⟩,trivial⟩ trivial
theorem RW{l:List (Int×Int)}{s den:Int}{hp:List HO}{r:List SV->List SV}{i:Nat}:
 lsP 2 Yw (l.length+1) 2 (fun k=>Jw false hp r (if k<l.length then YU i [SV.int IntKind.i64 (l.getD k default).fst,SV.int IntKind.i64 (l.getD k default).snd]else YU i (YP 2 (YF ((k-l.length)*2) [SV.int IntKind.i64 s,SV.int IntKind.i64 den])))) (l++[(s,den)]):=by
 refine⟨rfl,by simp,fun k hk=>?_⟩
 dsimp only
 by_cases h1:k<l.length
 ·rw[if_pos h1,Kh (l:=_++_),QY h1,<-Kh]
  exact YW _
 ·rw[if_neg h1,show k-l.length=0 by omega,Kh (l:=_++_),Z0 (by omega),show k-l.length=0 by omega]
  exact YW _
theorem YkS{m:Nat}{den:Int}{hp:List HO}{r:List SV->List SV}:
 lsP 2 Yw 1 2 (fun k=>Jw false hp r (YP 2 (YF (k*2) [SV.int .i64 ((m:Nat):Int),SV.int .i64 (-den)]))) [((m:Int), -den)]:=by
 refine⟨rfl,rfl,fun k hk=>?_⟩
 obtain rfl:k=0:=by omega
 exact YW _
theorem NA{l:List (Int×Int)}{s den:Int}{i k a b:Nat}(hk:k<l.length+1):leL a b (if k<l.length then [SV.int IntKind.i64 (l.getD k default).fst,SV.int IntKind.i64 (l.getD k default).snd]else YU i (YP 2 (YF ((k-l.length)*2) [SV.int IntKind.i64 s,SV.int IntKind.i64 den]))) (if k<l.length then [SV.int IntKind.i64 (l.getD k default).fst,SV.int IntKind.i64 (l.getD k default).snd]else YU i (YP 2 (YF ((k-l.length)*2) [SV.int IntKind.i64 s,SV.int IntKind.i64 den]))):=Nz hk
theorem NB{s den:Int}{i k a b:Nat}(hk:k<1):leL a b (YU i (YP 2 (YF (k*2) [SV.int IntKind.i64 s,SV.int IntKind.i64 den]))) (YU i (YP 2 (YF (k*2) [SV.int IntKind.i64 s,SV.int IntKind.i64 den]))):=AI hk
theorem RX{l:List (Int×Int)}{s den:Int}{hp:List HO}{r:List SV->List SV}{i:Nat}:
 lsP 2 Yw (l.length+1) 2 (fun k=>Jw false hp r (if k<l.length then [SV.int IntKind.i64 (l.getD k default).fst,SV.int IntKind.i64 (l.getD k default).snd]else YU i (YP 2 (YF ((k-l.length)*2) [SV.int IntKind.i64 s,SV.int IntKind.i64 den])))) (l++[(s,den)]):=by
 refine⟨rfl,by simp,fun k hk=>?_⟩
 dsimp only
 by_cases h1:k<l.length
 ·rw[if_pos h1,Kh (l:=_++_),QY h1,<-Kh]
  exact YW _
 ·rw[if_neg h1,show k-l.length=0 by omega,Kh (l:=_++_),Z0 (by omega),show k-l.length=0 by omega]
  exact YW _
theorem rPower_ok:rPowerC.ok Yb 48:=by
 refine Yy Tryz.func48 Yp2 YdR 800 rPowerC fun args k h=>?_
 simp only[rPowerC]at h
 split at h
 ·rename_i s tt z n sz get den
  obtain⟨l,⟨⟨rfl,rfl,hg⟩,hl,hn,hn1,hs,hd,htop,hpth⟩,h⟩:=h
  refine⟨[.int .i64 s,.vs tt z l.length 2 (fun k=>Yw (l.getD k default)),.int .i64 den],⟨⟨rfl,rfl⟩,⟨id,rfl,rfl,rfl,hg⟩,⟨rfl,rfl⟩,trivial⟩,?_⟩
  (try dsimp only[v48,Q11,Yk,chkTC,belowC,sumsC,Yv,Yw,go_sem,reduceIte,Ya])
  (try simp only[Yd,Ya,Ye,reduceCtorEq,Yc])
  have hnd:IntKind.i64.wrap (0-den)= -den:=by rw[Yg _ (by omega)];omega
  have hchk:QG l=0:=by
   have:l.any JB=false:=by rw[List.any_eq_false];exact fun x hx=>by rw[hl x hx];decide
   rw[QG,if_neg (by omega),if_neg (by rw[this];decide)]
  refine⟨l,⟨⟨rfl,rfl,fun k _=>YW _⟩,by omega⟩,fun hh=>absurd hchk hh,fun _=>⟨fun hh=>?_,fun _=>?_⟩⟩
  ·rw[decide_eq_false (by omega:¬den<1),decide_eq_false (by omega:¬1000000<den),decide_eq_false (by omega:¬s<1),decide_eq_false (by omega:¬1000000000000<s)]at hh
   cases hh
  ·simp only[KJ,J8,if_false,Nat.sub_zero]
   obtain⟨all,hall⟩:∃all,all=l++[(s,den)]:=⟨_,rfl⟩
   have hok:∀x,x∈all->okU x:=by
    intro x hx
    rw[hall,Ky,Jj]at hx
    rcases hx with hx|rfl
    ·have:=hl x hx
     unfold JB at this
     simp only[K5,decide_eq_false_iff_not]at this
     unfold okU
     omega
    ·simp only[okU];omega
   have hlen:all.length=l.length+1:=by rw[hall];simp
   rw[<-hall]at h htop hpth
   have hat:∀kk:Int,1<=kk->kk<=1000000000001->∀x,x∈atF all den kk->okU x:=by
    intro kk k1 k2 x hx
    unfold atF at hx
    rw[Ky,Jj]at hx
    rcases hx with hx|rfl
    ·exact hok x hx
    ·simp only[okU];omega
   have hsgn:∀kk:Nat,(0<=sgn (atF all den kk)↔tstR all den kk=true):=fun kk=>by
    unfold sgn tstR
    rw[decide_eq_true_eq]
    split
    ·constructor
     ·intro _;omega
     ·intro _;decide
    ·split
     ·constructor
      ·intro hh;exact absurd hh (by decide)
      ·intro _;omega
     ·constructor
      ·intro _;omega
      ·intro _;decide
   obtain⟨R,hR⟩:∃R,R=powR all den:=⟨_,rfl⟩
   rw[<-hR]at h
   have b1:=Z4 (p:=30) (g:=lo 30) (fun n h1 h2=>Gu h1 h2) hok (by omega) (by decide)
   have b2:=Z4 (p:=30) (g:=hi 30) (fun n h1 h2=>Gk h1 h2) hok (by omega) (by decide)
   refine⟨by decide,by unfold Y8;omega,by decide,⟨by unfold Y8;omega,fun k hk=>?_⟩,all,⟨hall▸RW,hok,by omega,by decide,hd,htop.1⟩,fun hc=>?_,fun hc=>⟨all,30,⟨hall▸RW,hok,by omega,rfl,by decide,by decide⟩,fun y1 y2 y3 y4=>⟨by decide,by decide,by decide,by decide,?_⟩⟩⟩
   ·obtain rfl:k=0:=by omega
    exact⟨rfl,trivial,trivial,trivial⟩
   ·have:=(hsgn 1000000000001).1 hc
    rw[htop.2]at this;cases this
   ·refine Loop.keep [2,7,0,0] (Nat×Nat×Nat) (fun s=>[(13,.int .i64 s.2.1),(14,.int .i64 s.2.2)]) (fun _=>[]) [] (fun s=>VS (fun k=>Dec (atF all den k)) (tstR all den) s.1 s.2.1 s.2.2/\Xa (tstR all den) s.1 s.2.1 s.2.2=R/\s.2.1<s.2.2/\s.2.2<=1000000000001) (fun s=>s.1) ?_ ?_
    ·refine⟨(41,0,1000000000001),⟨hpth,hR.symm,by decide,by decide⟩,?_⟩
     (try dsimp only[go_sem,reduceIte,Ya])
     simp only[Yf]
     refine⟨by simp,fun k hk=>?_,fun k hk=>NB hk⟩
     exact NA hk
    ·rintro⟨f,lo',hi'⟩ ⟨hp,hb,hlt,hle⟩
     dsimp only at hp hb hlt hle
     (try dsimp only[Q11,Yk,belowC,sumsC,orderC,addC,Yv,Yw,Yj,Int.toNat_zero,Int.toNat_one,Nat.reduceMul,go_sem,reduceIte,Ya])
     (try simp only[Yd,Ya,Ye,reduceCtorEq,Yc])
     have ed:IntKind.i64.wrap ((hi':Int)-(lo':Int))=(hi':Int)-(lo':Int):=Yg _ (by omega)
     have em:IntKind.i64.wrap ((IntKind.i64.wrap ((lo':Int)+(hi':Int))).tdiv 2)=(((lo'+hi')/2:Nat):Int):=by
      have e1:IntKind.i64.wrap ((lo':Int)+(hi':Int))=((lo'+hi':Nat):Int):=by rw[Yg _ (by omega)];omega
      have e2:(((lo'+hi':Nat):Int)).tdiv 2=(((lo'+hi')/2:Nat):Int):=Wq (y:=2) rfl rfl
      rw[e1,e2,Yg _ (by omega)]
     rw[ed,em,hnd]
     refine⟨fun hcd=>?_,fun hcd=>?_⟩
     ·obtain⟨g,rfl⟩:∃g,f=g+1:=by
       cases f with
       |zero=>have hp:hi'<=lo'+1:=hp;omega
       |succ g=>exact⟨g,rfl⟩
      rcases hp with hp| ⟨hP,hp⟩
      ·omega
      rw[Xa,if_neg (by omega)]at hb
      obtain⟨m,hm⟩:∃m,m=(lo'+hi')/2:=⟨_,rfl⟩
      rw[<-hm]at hP hp hb⊢
      have hmr:lo'<m/\m<hi':=by omega
      have hpok:∀x,x∈ [((m:Int), -den)]->okU x:=by
       intro x hx
       rw[Jj]at hx
       subst hx;simp only[okU];omega
      have c1:=Z4 (p:=30) (g:=lo 30) (fun n h1 h2=>Gu h1 h2) hpok (Nat.le_add_left 1 19) (by decide)
      have c2:=Z4 (p:=30) (g:=hi 30) (fun n h1 h2=>Gk h1 h2) hpok (Nat.le_add_left 1 19) (by decide)
      have hatm:=hat (m:Int) (by omega) (by omega)
      have hal:(atF all den (m:Int)).length<=20:=by unfold atF;rw[JO,List.length_singleton];omega
      have d1:=Z4 (p:=30) (g:=lo 30) (fun n h1 h2=>Gu h1 h2) hatm hal (by decide)
      have d2:=Z4 (p:=30) (g:=hi 30) (fun n h1 h2=>Gk h1 h2) hatm hal (by decide)
      have eu:∀G:Nat->Nat,upS G (atF all den (m:Int))=upS G all:=fun G=>by
       unfold atF
       rw[(G0 G _ _).1,upS,upS]
       rw[if_pos (show(-den:Int)<0 by omega)]
       omega
      have edn:∀G:Nat->Nat,dnS G (atF all den (m:Int))=dnS G all+dnS G [((m:Int), -den)]:=fun G=>by
       unfold atF
       rw[(G0 G _ _).2]
      rw[edn]at d1 d2
      obtain⟨o1,o2,o3,o4⟩:=L0 (p:=30) hatm
      have hord:Xk (atF all den (m:Int)) 30=(if dnS (hi 30) all+dnS (hi 30) [((m:Int), -den)] <upS (lo 30) all then 1 else if upS (hi 30) all<dnS (lo 30) all+dnS (lo 30) [((m:Int), -den)]then -1 else 0):=by
       unfold Xk
       rw[eu,eu,edn,edn]
      refine⟨by decide,by decide,[((m:Int), -den)],30,⟨YkS,hpok,rfl,by decide,by decide⟩,fun w1 w2 w3 w4=>⟨by decide,by decide,by decide,by decide,by decide,by decide,by decide,by decide,by decide,by decide,by decide,by decide,dnS (lo 30) all,dnS (lo 30) [((m:Int), -den)],⟨YO (by omega),YO (by omega),by omega,by omega⟩,dnS (hi 30) all,dnS (hi 30) [((m:Int), -den)],⟨YO (by omega),YO (by omega),by omega,by omega⟩,upS (lo 30) all,upS (hi 30) all,dnS (lo 30) all+dnS (lo 30) [((m:Int), -den)],dnS (hi 30) all+dnS (hi 30) [((m:Int), -den)],⟨⟨YO (by omega),rfl⟩,⟨YO (by omega),rfl⟩,⟨YO (by omega),rfl⟩,⟨YO (by omega),rfl⟩⟩,?_⟩⟩
      rw[<-hord]
      have stT:tstR all den m=true->VS (fun k=>Dec (atF all den (k:Int))) (tstR all den) g m hi'/\Xa (tstR all den) g m hi'=R:=fun hh=>by
       rw[if_pos hh]at hp hb;exact⟨hp,hb⟩
      have stF:tstR all den m=false->VS (fun k=>Dec (atF all den (k:Int))) (tstR all den) g lo' m/\Xa (tstR all den) g lo' m=R:=fun hh=>by
       rw[if_neg (by rw[hh];decide)]at hp hb;exact⟨hp,hb⟩
      have hsm:=hsgn m
      have sF:¬0<=sgn (atF all den (m:Int))->tstR all den m=false:=fun hh=>by
       cases hq:tstR all den m with
       |false=>rfl
       |true=>exact absurd (hsm.2 hq) hh
      have oT:¬Xk (atF all den (m:Int)) 30=0->0<=Xk (atF all den (m:Int)) 30->tstR all den m=true:=fun h1 h2=>by
       have:Xk (atF all den (m:Int)) 30=1:=by omega
       exact decide_eq_true (JZ (o1 this))
      have oF:¬0<=Xk (atF all den (m:Int)) 30->tstR all den m=false:=fun h2=>by
       have:Xk (atF all den (m:Int)) 30= -1:=by omega
       have:=o2 this
       exact decide_eq_false (by omega)
      refine⟨fun e=>⟨all,⟨hall▸RX,hok,by omega,⟨by omega,by omega⟩,hd,hP⟩,fun e2=>?_,fun e2=>?_⟩,fun e=>⟨fun e2=>?_,fun e2=>?_⟩⟩
      ·obtain⟨u1,u2⟩:=stT (hsm.1 e2)
       refine⟨(g,m,hi'),⟨u1,u2,by simp only;omega,hle⟩,by simp only;omega,?_⟩
       simp only[Yf]
       exact⟨by simp,fun k hk=>NA hk,fun k hk=>NB hk⟩
      ·obtain⟨u1,u2⟩:=stF (sF e2)
       refine⟨(g,lo',m),⟨u1,u2,by simp only;omega,by simp only;omega⟩,by simp only;omega,?_⟩
       simp only[Yf]
       exact⟨by simp,fun k hk=>NA hk,fun k hk=>NB hk⟩
      ·obtain⟨u1,u2⟩:=stT (oT e e2)
       refine⟨(g,m,hi'),⟨u1,u2,by simp only;omega,hle⟩,by simp only;omega,?_⟩
       simp only[Yf]
       exact⟨by simp,fun k hk=>NA hk,fun k hk=>NB hk⟩
      ·obtain⟨u1,u2⟩:=stF (oF e2)
       refine⟨(g,lo',m),⟨u1,u2,by simp only;omega,by simp only;omega⟩,by simp only;omega,?_⟩
       simp only[Yf]
       exact⟨by simp,fun k hk=>NA hk,fun k hk=>NB hk⟩
     ·have hRl:R=lo':=by
       rw[<-hb]
       cases f with
       |zero=>rfl
       |succ g=>rw[Xa,if_pos (by omega)]
      subst hRl
      have hdR:0<R->Dec (atF all den (R:Int)):=fun hh=>by
       have:=(Di 41 0 1000000000001 (by decide) hpth).1
       rw[show Xa (tstR all den) 41 0 1000000000001=R from hR.symm]at this
       rcases this with h0|h0
       ·omega
       ·exact h0.1
      refine⟨all,fun h0=>⟨hall▸RX,hok,by omega,⟨by omega,by omega⟩,hd,hdR (by omega)⟩,?_⟩
      have hz:decide (sgn (atF all den (R:Int))=0)=decide (upP (atF all den (R:Int))=dnP (atF all den (R:Int))):=by
       rw[decide_eq_decide]
       unfold sgn
       split
       ·constructor
        ·intro hh;exact absurd hh (by decide)
        ·intro _;omega
       ·split
        ·constructor
         ·intro hh;exact absurd hh (by decide)
         ·intro _;omega
        ·constructor
         ·intro _;omega
         ·intro _;rfl
      have hz2:decide ((0:Int)<(R:Int))=decide (0<R):=by rw[decide_eq_decide];omega
      rw[hz,hz2]
      exact WM h
 ·exact h.1.elim
end Go.Proofs.YtlhmikjnholpnaaGreatDoor.Q
set_option maxRecDepth 100000
namespace Go.Proofs.YtlhmikjnholpnaaGreatDoor.LB
def Be(T M:Nat)(n:Nat):Nat->Nat->Bool:=
 Nat.rec (fun _ _=>false) (fun _ ih a b=>Bool.casesOn (Y7 T b) (Qi (Y7 M b) (Y7 b a)) (ih b (KS a b))) n
def eGo(T M:Nat)(n:Nat):Nat->Nat->Bool:=
 Nat.rec (fun _ _=>false) (fun _ ih a b=>(fun c1=>(fun c2=>(fun c3=>(fun c4=>(fun c5=>(fun c6=>(fun c7=>(fun c8=>(fun c9=>(fun c10=>(fun c11=>(fun c12=>(fun c13=>(fun c14=>(fun c15=>(fun c16=>Bool.casesOn (Y7 T c16) (Be T M 17 a b) (ih c15 c16)) (KS c14 c15)) (KS c13 c14)) (KS c12 c13)) (KS c11 c12)) (KS c10 c11)) (KS c9 c10)) (KS c8 c9)) (KS c7 c8)) (KS c6 c7)) (KS c5 c6)) (KS c4 c5)) (KS c3 c4)) (KS c2 c3)) (KS c1 c2)) (KS b c1)) (KS a b)) n
def eSt(A B:Int)(a b:Nat):Prop:=∃v0 v1 s:Int,(0<=v0/\0<=v1)/\v1*a+v0*b=A/\(s=1\/s= -1)/\∀v u:Int,∃x y:Int,v=x*v0+y*v1/\v*B-u*A=s*(x*a-y*b)
theorem YgE(A B:Nat):eSt A B A B:=by
 refine⟨0,1, -1,⟨by decide,by decide⟩,by omega,KK rfl,fun v u=>⟨u,v,by omega,?_⟩⟩
 rw[Int.neg_mul,Int.one_mul];omega
theorem XH{A B:Int}{a b:Nat}(h:eSt A B a b):eSt A B b (a%b):=by
 obtain⟨v0,v1,s,⟨h0,h1⟩,hA,hs,hall⟩:=h
 have hd:(a:Int)=(b:Int)*((a/b:Nat):Int)+((a%b:Nat):Int):=by
  rw[<-Qr,<-VH,KP]
 have hq:0<=((a/b:Nat):Int):=Int.natCast_nonneg _
 generalize((a/b:Nat):Int)=q at hd hq
 refine⟨v1,v0+q*v1, -s,⟨h1,?_⟩,?_,?_,fun v u=>?_⟩
 ·exact Int.add_nonneg h0 (ZZ hq h1)
 ·rw[<-hA,hd];grind
 ·rcases hs with rfl|rfl
  ·right;rfl
  ·left;rfl
 ·obtain⟨x,y,e1,e2⟩:=hall v u
  refine⟨y-q*x,x,by rw[e1];grind,by rw[e2,hd];grind⟩
theorem YgF{A B:Int}{a b:Nat}(h:eSt A B a b)(hb0:0<b)(hba:b<=a){V:Int}(hV:2*V*b<A){v u:Int}(h0:0<v)(h1:v<=V):(b:Int)<=v*B-u*A\/(b:Int)<=u*A-v*B:=by
 obtain⟨v0,v1,s,⟨g0,g1⟩,hA,hs,hall⟩:=h
 have hd:(a:Int)=(b:Int)*((a/b:Nat):Int)+((a%b:Nat):Int):=by
  rw[<-Qr,<-VH,KP]
 have hq:1<=((a/b:Nat):Int):=by
  have:=Nat.div_pos hba hb0
  omega
 have hr:((a%b:Nat):Int)<(b:Int):=by
  have:=Kj a hb0
  omega
 have hr0:0<=((a%b:Nat):Int):=Int.natCast_nonneg _
 have hbp:0<(b:Int):=by omega
 generalize((a/b:Nat):Int)=q at hd hq
 generalize((a%b:Nat):Int)=r at hd hr hr0
 obtain⟨x,y,e1,e2⟩:=hall v u
 generalize(b:Int)=B1 at*
 generalize(a:Int)=A1 at*
 obtain⟨v2,hv2⟩:∃v2,v2=v0+q*v1:=⟨_,rfl⟩
 obtain⟨X,hX⟩:∃X,X=y-q*x:=⟨_,rfl⟩
 have f1:v=X*v1+x*v2:=by rw[e1,hX,hv2];grind
 have f2:v*B-u*A=s*(x*r-X*B1):=by rw[e2,hX,hd];grind
 have f3:A=v2*B1+v1*r:=by rw[<-hA,hd,hv2];grind
 have m1:1*v1<=q*v1:=XC hq g1
 have f4:v1<=v2:=by omega
 have g2:0<=v2:=by omega
 have m2:v1*r<=v2*B1:=Int.mul_le_mul f4 (by omega) hr0 g2
 have f5:V<v2:=by
  refine Int.lt_of_not_ge fun hh=>?_
  have:=XC hh (show(0:Int)<=B1 by omega)
  have e:2*V*B1=2*(V*B1):=by grind
  omega
 have key:B1<=x*r-X*B1\/B1<=X*B1-x*r:=by
  rcases Int.lt_trichotomy x 0 with hx|hx|hx
  ·rcases Int.lt_or_le 0 X with hX0|hX0
   ·right
    have a1:1*B1<=X*B1:=XC (by omega) (by omega)
    have a2:0<=(-x)*r:=ZZ (by omega) hr0
    have a3:(-x)*r= -(x*r):=by grind
    omega
   ·exfalso
    have a1:0<=(-X)*v1:=ZZ (by omega) g1
    have a2:0<=(-x)*v2:=ZZ (by omega) g2
    have a3:(-X)*v1= -(X*v1):=by grind
    have a4:(-x)*v2= -(x*v2):=by grind
    omega
  ·subst hx
   have hXne:X≠0:=fun e=>by rw[e]at f1;omega
   rw[Int.zero_mul]
   rcases Int.lt_or_le 0 X with hX0|hX0
   ·right
    have a1:1*B1<=X*B1:=XC (by omega) (by omega)
    omega
   ·left
    have a1:1*B1<=(-X)*B1:=XC (by omega) (by omega)
    have a3:(-X)*B1= -(X*B1):=by grind
    omega
  ·rcases Int.lt_or_le X 0 with hX0|hX0
   ·left
    have a1:1*B1<=(-X)*B1:=XC (by omega) (by omega)
    have a3:(-X)*B1= -(X*B1):=by grind
    have a2:0<=x*r:=ZZ (by omega) hr0
    omega
   ·exfalso
    have a1:0<=X*v1:=ZZ hX0 g1
    have a2:1*v2<=x*v2:=XC (by omega) g2
    omega
 rcases hs with rfl|rfl
 ·rw[f2];omega
 ·rw[f2];omega
def Ts(A B:Int)(T M:Nat):Prop:=∃a b,eSt A B a b/\M<=b/\b<=a/\b<T
theorem Tv{A B:Int}{T M:Nat}:∀(n a b:Nat),Be T M n a b=true->eSt A B a b->Ts A B T M
 |0,_,_,h,_=>by cases h
 |n+1,a,b,h,hs=>by
  have h:Bool.casesOn (motive:=fun _=>Bool) (Y7 T b) (Qi (Y7 M b) (Y7 b a)) (Be T M n b (KS a b))=true:=h
  cases hb:Y7 T b with
  |false=>
   rw[hb]at h
   have h:Qi (Y7 M b) (Y7 b a)=true:=h
   have h:=Bool.and_eq_true_iff.1 h
   refine⟨a,b,hs,KC h.1,KC h.2,WJ fun hh=>?_⟩
   rw[Nat.ble_eq_true_of_le hh]at hb;cases hb
  |true=>
   rw[hb]at h
   exact Tv n _ _ h (XH hs)
theorem Tr{A B:Int}{T M:Nat}:∀(n a b:Nat),eGo T M n a b=true->eSt A B a b->Ts A B T M
 |0,_,_,h,_=>by cases h
 |n+1,a,b,h,hs=>by
  obtain⟨c1,hc1⟩:∃c,c=KS a b:=⟨_,rfl⟩
  have s1:eSt A B b c1:=by rw[hc1];exact XH hs
  obtain⟨c2,hc2⟩:∃c,c=KS b c1:=⟨_,rfl⟩
  have s2:eSt A B c1 c2:=by rw[hc2];exact XH s1
  obtain⟨c3,hc3⟩:∃c,c=KS c1 c2:=⟨_,rfl⟩
  have s3:eSt A B c2 c3:=by rw[hc3];exact XH s2
  obtain⟨c4,hc4⟩:∃c,c=KS c2 c3:=⟨_,rfl⟩
  have s4:eSt A B c3 c4:=by rw[hc4];exact XH s3
  obtain⟨c5,hc5⟩:∃c,c=KS c3 c4:=⟨_,rfl⟩
  have s5:eSt A B c4 c5:=by rw[hc5];exact XH s4
  obtain⟨c6,hc6⟩:∃c,c=KS c4 c5:=⟨_,rfl⟩
  have s6:eSt A B c5 c6:=by rw[hc6];exact XH s5
  obtain⟨c7,hc7⟩:∃c,c=KS c5 c6:=⟨_,rfl⟩
  have s7:eSt A B c6 c7:=by rw[hc7];exact XH s6
  obtain⟨c8,hc8⟩:∃c,c=KS c6 c7:=⟨_,rfl⟩
  have s8:eSt A B c7 c8:=by rw[hc8];exact XH s7
  obtain⟨c9,hc9⟩:∃c,c=KS c7 c8:=⟨_,rfl⟩
  have s9:eSt A B c8 c9:=by rw[hc9];exact XH s8
  obtain⟨c10,hc10⟩:∃c,c=KS c8 c9:=⟨_,rfl⟩
  have s10:eSt A B c9 c10:=by rw[hc10];exact XH s9
  obtain⟨c11,hc11⟩:∃c,c=KS c9 c10:=⟨_,rfl⟩
  have s11:eSt A B c10 c11:=by rw[hc11];exact XH s10
  obtain⟨c12,hc12⟩:∃c,c=KS c10 c11:=⟨_,rfl⟩
  have s12:eSt A B c11 c12:=by rw[hc12];exact XH s11
  obtain⟨c13,hc13⟩:∃c,c=KS c11 c12:=⟨_,rfl⟩
  have s13:eSt A B c12 c13:=by rw[hc13];exact XH s12
  obtain⟨c14,hc14⟩:∃c,c=KS c12 c13:=⟨_,rfl⟩
  have s14:eSt A B c13 c14:=by rw[hc14];exact XH s13
  obtain⟨c15,hc15⟩:∃c,c=KS c13 c14:=⟨_,rfl⟩
  have s15:eSt A B c14 c15:=by rw[hc15];exact XH s14
  obtain⟨c16,hc16⟩:∃c,c=KS c14 c15:=⟨_,rfl⟩
  have s16:eSt A B c15 c16:=by rw[hc16];exact XH s15
  have h:Bool.casesOn (motive:=fun _=>Bool) (Y7 T c16) (Be T M 17 a b) (eGo T M n c15 c16)=true:=by
   subst hc16
   subst hc15
   subst hc14
   subst hc13
   subst hc12
   subst hc11
   subst hc10
   subst hc9
   subst hc8
   subst hc7
   subst hc6
   subst hc5
   subst hc4
   subst hc3
   subst hc2
   subst hc1
   exact h
  cases hb:Y7 T c16 with
  |false=>
   rw[hb]at h
   exact Tv _ _ _ h hs
  |true=>
   rw[hb]at h
   exact Tr n _ _ h s16
theorem YgC{A B T M n V:Nat}(h:eGo T M n A B=true)(hM:0<M)(hV:2*V*T<=A){v u:Int}(h0:0<v)(h1:v<=V):(M:Int)<=v*B-u*A\/(M:Int)<=u*A-v*B:=by
 obtain⟨a,b,hs,h2,h3,h4⟩:=Tr n A B h (YgE A B)
 have h5:2*V*b<A:=by
  rcases Jc V with rfl|hp
  ·omega
  ·have h6:2*V*(b+1)<=2*V*T:=Yz _ h4
   rw[Ka]at h6
   omega
 have h5':2*(V:Int)*(b:Int)<(A:Int):=by
  have:=Int.ofNat_lt.2 h5
  rw[Qr,Qr]at this
  exact this
 have:=YgF hs (by omega) h3 h5' (u:=u) h0 h1
 omega
end Go.Proofs.YtlhmikjnholpnaaGreatDoor.LB
set_option maxRecDepth 100000
namespace Go.Proofs.YtlhmikjnholpnaaGreatDoor.LB
def ePt(n:Nat):Nat:=KI 2 n
def eA:Nat:=ePt 2100
def eM:Nat:=ePt 1070
def WP(N x t:Nat):Nat:=Nat.shiftRight (K2 x t) N
def WQ(N y t:Nat):Nat:=Nat.succ (Nat.shiftRight (K2 y t) N)
theorem DN(N x t:Nat):WP N x t=x*t/ePt N:=Nat.shiftRight_eq_div_pow _ N
theorem Bf(N x t:Nat):WQ N x t=x*t/ePt N+1:=congrArg Nat.succ (Nat.shiftRight_eq_div_pow _ N)
theorem ePt_pos(n:Nat):0<ePt n:=YB (by decide)
theorem Ygn{K x t q a b:Nat}(hK:0<K)(h1:x^q<=2^a*K^q)(h2:t^q<=2^b*K^q):(x*t/K)^q<=2^(a+b)*K^q:=by
 have h3:=YG (XE (x*t) K) q
 rw[Yq,Yq]at h3
 have h4:=YX h1 h2
 refine Ki (c:=K^q) ?_ (YB hK)
 refine Yh h3 (Yh h4 (Yx ?_))
 rw[Yo]
 ac_rfl
theorem YoJ{K x t q a b:Nat}(hK:0<K)(h1:2^a*K^q<=x^q)(h2:2^b*K^q<=t^q):2^(a+b)*K^q<=(x*t/K+1)^q:=by
 have h0:x*t<=(x*t/K+1)*K:=by
  have:=KP (x*t) K
  have:=Kj (x*t) hK
  rw[YM,Y2,Yl (x*t/K)];omega
 have h3:=YG h0 q
 rw[Yq,Yq]at h3
 have h4:=YX h1 h2
 refine Ki (c:=K^q) ?_ (YB hK)
 refine Yh (Yx ?_) (Yh h4 h3)
 rw[Yo]
 ac_rfl
theorem Yai{K s r r' x x':Nat}(hK:0<K)(h1:x*K^r<=s^r*K)(h2:x'*K^r'<=s^r'*K):x*x'/K*K^(r+r')<=s^(r+r')*K:=by
 have h3:=Yp (K^(r+r')) (XE (x*x') K)
 have h4:=YX h1 h2
 refine Ki (c:=K) ?_ hK
 refine Yh (Yx ?_) (Yh h3 (Yh (Yx ?_) (Yh h4 (Yx ?_))))
 ·ac_rfl
 ·rw[Yo];ac_rfl
 ·rw[Yo];ac_rfl
theorem YaJ{K s r r' x x':Nat}(hK:0<K)(h1:s^r*K<=x*K^r)(h2:s^r'*K<=x'*K^r'):s^(r+r')*K<=(x*x'/K+1)*K^(r+r'):=by
 have h0:x*x'<=(x*x'/K+1)*K:=by
  have:=KP (x*x') K
  have:=Kj (x*x') hK
  rw[YM,Y2,Yl (x*x'/K)];omega
 have h3:=Yp (K^(r+r')) h0
 have h4:=YX h1 h2
 refine Ki (c:=K) ?_ hK
 refine Yh (Yx ?_) (Yh h4 (Yh (Yx ?_) (Yh h3 (Yx ?_))))
 ·rw[Yo];ac_rfl
 ·rw[Yo];ac_rfl
 ·ac_rfl
theorem YkT{K s q r x:Nat}(hK:0<K)(h1:s^q<=2^1*K^q)(h2:x*K^r<=s^r*K):x^q<=2^r*K^q:=by
 have h3:=YG h2 q
 have h4:=YG h1 r
 rw[Yq,Yq,<-Ym,<-Ym]at h3
 rw[Yq,<-Ym,<-Ym,<-Ym,Y2,Yl q r]at h4
 refine Ki (c:=K^(r*q)) ?_ (YB hK)
 refine Yh h3 (Yh (Yp _ h4) (Yx ?_))
 ac_rfl
theorem Yk2{K s q r x:Nat}(hK:0<K)(h1:2^1*K^q<=s^q)(h2:s^r*K<=x*K^r):2^r*K^q<=x^q:=by
 have h3:=YG h2 q
 have h4:=YG h1 r
 rw[Yq,Yq,<-Ym,<-Ym]at h3
 rw[Yq,<-Ym,<-Ym,<-Ym,Y2,Yl q r]at h4
 refine Ki (c:=K^(r*q)) ?_ (YB hK)
 refine Yh (Yx ?_) (Yh (Yp _ h4) h3)
 ac_rfl
end Go.Proofs.YtlhmikjnholpnaaGreatDoor.LB
set_option maxRecDepth 100000
namespace Go.Proofs.YtlhmikjnholpnaaGreatDoor.LB
theorem ePt_add(a b:Nat):ePt a*ePt b=ePt (a+b):=(Yo 2 a b).symm
theorem Mv:ePt 1=2:=rfl
theorem ePt_le{a b:Nat}(h:a<=b):ePt a<=ePt b:=Kp (by decide) h
theorem Tt{a b:Nat}(h:a<b):ePt a<ePt b:=(Nat.pow_lt_pow_iff_right (by decide)).2 h
def eG:Nat:=ePt 2035
end Go.Proofs.YtlhmikjnholpnaaGreatDoor.LB
set_option maxRecDepth 100000
namespace Go.Proofs.YtlhmikjnholpnaaGreatDoor.LB
def Gap(V G q α β:Nat):Prop:=∀u v,0<u->0<v->u<=V->v<=V->(u^q*α<β*v^q->u^q*α*(G+1)^q<=β*v^q*G^q)/\(β*v^q<u^q*α->β*v^q*(G+1)^q<=u^q*α*G^q)
theorem Ig{A M G V q α β x y e T:Nat}(hA:0<A)(hM:0<M)(hα:0<α)(hx:x^q*α<=β*A^q)(hy:β*A^q<=y^q*α)(hxy:y<=x+e)(hV:V*e<M)(hG:V*A+V*e*(G+1)<=M*G)(hVT:2*V*T<=A)(hq:0<q){f:Nat}(h:eGo T M f A x=true):Gap V G q α β:=by
 intro u v hu0 hv0 hu hv
 have hf:=YgC h hM hVT (v:=(v:Int)) (u:=(u:Int)) (by omega) (Int.ofNat_le.2 hv)
 rw[<-Qr,<-Qr]at hf
 have hfar:M+u*A<=v*x\/M+v*x<=u*A:=by
  generalize u*A=a at*
  generalize v*x=b at*
  omega
 have hAq:0<A^q:=YB hA
 have uA:u*A<=V*A:=Yp A hu
 have ve:v*e<=V*e:=Yp e hv
 have vy:v*y<=v*x+v*e:=by rw[<-Ka];exact Yz v hxy
 constructor
 ·intro hlt
  rcases hfar with h1|h1
  ·have h2:u*(G+1)*A<=v*G*x:=by
    have a1:=Yp G h1
    rw[YM]at a1
    have e1:u*(G+1)*A=u*A*G+u*A:=by rw[Ka,Y0,YM];ac_rfl
    have e2:v*G*x=v*x*G:=by ac_rfl
    omega
   have h3:=YG h2 q
   rw[Yq,Yq,Yq,Yq]at h3
   have h4:=Yz (v^q*G^q) hx
   have h5:=Yp α h3
   refine Ki (c:=A^q) ?_ hAq
   refine Yh (Yx ?_) (Yh h5 (Yh (Yx ?_) (Yh h4 (Yx ?_)))) <;> ac_rfl
  ·exfalso
   have h2:v*y<=u*A:=by omega
   have h3:=YG h2 q
   rw[Yq,Yq]at h3
   have h4:=Yz (v^q) hy
   have h5:=Yp α h3
   have h6:β*v^q*A^q<=u^q*α*A^q:=by
    refine Yh (Yx ?_) (Yh h4 (Yh (Yx ?_) (Yh h5 (Yx ?_)))) <;> ac_rfl
   have h7:=Ki h6 hAq
   omega
 ·intro hlt
  rcases hfar with h1|h1
  ·exfalso
   have h3:=YG (show u*A<=v*x by omega) q
   rw[Yq,Yq]at h3
   have h4:=Yz (v^q) hx
   have h5:=Yp α h3
   have h6:u^q*α*A^q<=β*v^q*A^q:=by
    refine Yh (Yx ?_) (Yh h5 (Yh (Yx ?_) (Yh h4 (Yx ?_)))) <;> ac_rfl
   have h7:=Ki h6 hAq
   omega
  ·have h2:v*y*(G+1)<=u*A*G:=by
    have a4:=Yp G h1
    have a5:=Yp (G+1) (show v*y<=v*x+V*e by omega)
    rw[YM]at a4
    have e1:(v*x+V*e)*(G+1)=v*x*G+v*x+V*e*(G+1):=by rw[YM,Ka (v*x),Y0]
    omega
   have h3:=YG h2 q
   rw[Yq,Yq,Yq,Yq]at h3
   have h4:=Yz (v^q*(G+1)^q) hy
   have h5:=Yp α h3
   refine Ki (c:=A^q) ?_ hAq
   refine Yh (Yx ?_) (Yh h4 (Yh (Yx ?_) (Yh h5 (Yx ?_)))) <;> ac_rfl
theorem Gap.scale{V G q α β α' β':Nat}(hα:0<α)(hα':0<α')(h:Gap V G q α β)(he:α'*β=α*β'):Gap V G q α' β':=by
 intro u v hu0 hv0 hu hv
 obtain⟨h1,h2⟩:=h u v hu0 hv0 hu hv
 have e1:∀z w:Nat,(z*(w*α'))*α=(z*(w*α))*α':=fun z w=>by ac_rfl
 have e2:∀z w:Nat,(z*(β'*w))*α=(z*(β*w))*α':=fun z w=>by
  have:(z*(β'*w))*α=z*w*(α*β'):=by ac_rfl
  rw[this,<-he];ac_rfl
 constructor
 ·intro hlt
  have a1:=ZB hlt hα
  have a2:(u^q*α)*α'<(β*v^q)*α':=by
   have x1:=e1 1 (u^q)
   have x2:=e2 1 (v^q)
   rw[Y2,Y2]at x1 x2
   omega
  have a3:=Yp α' (h1 (Nat.lt_of_mul_lt_mul_right a2))
  refine Ki (c:=α) ?_ hα
  have x1:=e1 ((G+1)^q) (u^q)
  have x2:=e2 (G^q) (v^q)
  rw[Yl (u^q*α'),Yl (β'*v^q),x1,x2,Yl ((G+1)^q),Yl (G^q)]
  exact a3
 ·intro hlt
  have a1:=ZB hlt hα
  have a2:(β*v^q)*α'<(u^q*α)*α':=by
   have x1:=e1 1 (u^q)
   have x2:=e2 1 (v^q)
   rw[Y2,Y2]at x1 x2
   omega
  have a3:=Yp α' (h2 (Nat.lt_of_mul_lt_mul_right a2))
  refine Ki (c:=α) ?_ hα
  have x1:=e1 (G^q) (u^q)
  have x2:=e2 ((G+1)^q) (v^q)
  rw[Yl (u^q*α'),Yl (β'*v^q),x1,x2,Yl (G^q),Yl ((G+1)^q)]
  exact a3
def pA:Nat:=ePt 320
def pTh:Nat:=ePt 199
def pM:Nat:=ePt 172
def pE:Nat:=ePt 40
def pV:Nat:=ePt 120
def pG:Nat:=ePt 270
theorem p1:pV*pE<pM:=by
 have e:ePt 120*ePt 40<ePt 172:=by rw[ePt_add];exact Tt (by decide)
 unfold pV pE pM
 exact e
theorem p2:pV*pA+pV*pE*(pG+1)<=pM*pG:=by
 have e1:ePt 120*ePt 320=ePt 440:=ePt_add _ _
 have e2:ePt 172*ePt 270=ePt 442:=ePt_add _ _
 have e3:ePt 120*ePt 40*ePt 271=ePt 431:=by rw[ePt_add,ePt_add]
 have e4:ePt 431<=ePt 440:=ePt_le (by decide)
 have e5:ePt 442=4*ePt 440:=by rw[show(4:Nat)=ePt 2 from rfl,ePt_add]
 have e6:ePt 271=2*ePt 270:=by rw[<-Mv,ePt_add]
 have hp:=ePt_pos 270
 have e7:ePt 120*ePt 40*(ePt 270+1)<=ePt 120*ePt 40*ePt 271:=Yz _ (by omega)
 unfold pV pA pE pG pM
 omega
theorem p3:2*pV*pTh<=pA:=by
 have e:ePt 1*ePt 120*ePt 199=ePt 320:=by rw[ePt_add,ePt_add]
 rw[Mv]at e
 unfold pV pTh pA
 exact Yx e
theorem L4:0<pA:=by unfold pA;exact ePt_pos 320
theorem YkQ:0<pM:=by unfold pM;exact ePt_pos 172
def pDn(x t:Nat):Nat:=WP 320 x t
def pUp(y t:Nat):Nat:=WQ 320 y t
def BI(q s t:Nat)(n:Nat):Nat->Nat->Nat->Bool:=
 Nat.rec (fun _ _ _=>true) (fun _ ih r x y=>Bool.casesOn (Bool.casesOn (YJ (YI r q) 1) true (Qi (Y7 y (Kg x pE)) (eGo pTh pM 20 pA x))) false
  (ih (Nat.succ r) (pDn x s) (pUp y t))) n
def kLw(c1 c2 D E q r x:Nat):Prop:=x^q*(D^q*c2^r)<=c1^r*E^q*pA^q
def kHi(c1 c2 D E q r y:Nat):Prop:=c1^r*E^q*pA^q<=y^q*(D^q*c2^r)
theorem Yh2{c1 c2 D E q r x s:Nat}(h1:kLw c1 c2 D E q r x)(h2:s^q*c2<=c1*pA^q):kLw c1 c2 D E q (r+1) (pDn x s):=by
 unfold kLw at*
 have e:pDn x s=x*s/pA:=DN 320 x s
 rw[e]
 have hA:0<pA:=L4
 have h3:=YG (XE (x*s) pA) q
 rw[Yq,Yq]at h3
 have h4:=YX h1 h2
 have h5:=Yp (D^q*c2^(r+1)) h3
 refine Ki (c:=pA^q) ?_ (YB hA)
 refine Yh (Yx ?_) (Yh h5 (Yh (Yx ?_) (Yh h4 (Yx ?_))))
 ·ac_rfl
 ·rw[YH];ac_rfl
 ·rw[YH];ac_rfl
theorem Yh1{c1 c2 D E q r y t:Nat}(h1:kHi c1 c2 D E q r y)(h2:c1*pA^q<=t^q*c2):kHi c1 c2 D E q (r+1) (pUp y t):=by
 unfold kHi at*
 have e:pUp y t=y*t/pA+1:=Bf 320 y t
 rw[e]
 have hA:0<pA:=L4
 have h0:y*t<=(y*t/pA+1)*pA:=by
  have:=KP (y*t) pA
  have:=Kj (y*t) hA
  rw[YM,Y2,Yl (y*t/pA)];omega
 have h3:=YG h0 q
 rw[Yq,Yq]at h3
 have h4:=YX h1 h2
 have h5:=Yp (D^q*c2^(r+1)) h3
 refine Ki (c:=pA^q) ?_ (YB hA)
 refine Yh (Yx ?_) (Yh h4 (Yh (Yx ?_) (Yh h5 (Yx ?_))))
 ·rw[YH];ac_rfl
 ·rw[YH];ac_rfl
 ·ac_rfl
theorem IW{c1 c2 D E q s t:Nat}(hD:0<D)(hc2:0<c2)(hq:0<q)(hs:s^q*c2<=c1*pA^q)(ht:c1*pA^q<=t^q*c2):∀(n r x y:Nat),BI q s t n r x y=true->kLw c1 c2 D E q r x->kHi c1 c2 D E q r y->∀i,i<n->YI (r+i) q=1->Gap pV pG q (D^q*c2^(r+i)) (c1^(r+i)*E^q)
 |0,_,_,_,_,_,_,i,hi,_=>absurd hi (J8 _)
 |n+1,r,x,y,h,hx,hy,i,hi,hg=>by
  have h:Bool.casesOn (motive:=fun _=>Bool) (Bool.casesOn (motive:=fun _=>Bool) (YJ (YI r q) 1) true (Qi (Y7 y (Kg x pE)) (eGo pTh pM 20 pA x))) false (BI q s t n (Nat.succ r) (pDn x s) (pUp y t))=true:=h
  cases hb:Bool.casesOn (motive:=fun _=>Bool) (YJ (YI r q) 1) true (Qi (Y7 y (Kg x pE)) (eGo pTh pM 20 pA x))with
  |false=>rw[hb]at h;cases h
  |true=>
   rw[hb]at h
   cases i with
   |zero=>
    have hg:YI r q=1:=hg
    rw[hg]at hb
    have hb:Qi (Y7 y (Kg x pE)) (eGo pTh pM 20 pA x)=true:=hb
    have hb:=Bool.and_eq_true_iff.1 hb
    exact Ig (A:=pA) (M:=pM) (G:=pG) (V:=pV) (T:=pTh) (e:=pE) L4 YkQ (Y1 (YB hD) (YB hc2)) hx hy (KC hb.1) p1 p2 p3 hq hb.2
   |succ i=>
    have:=IW hD hc2 hq hs ht n (r+1) _ _ h (Yh2 hx hs) (Yh1 hy ht) i (by omega) (by rw[show r+1+i=r+(i+1)by omega];exact hg)
    rw[show r+1+i=r+(i+1)by omega]at this
    exact this
def kSer(y:Nat)(n:Nat):Nat->Nat->Nat->Nat:=
 Nat.rec (fun _ _ s=>s) (fun _ ih i m s=>Bool.casesOn (YJ m 0) (ih (Nat.succ i) (Jb (Nat.shiftRight (K2 m y) 384) (Nat.succ i)) (Kg s m)) s) n
def kRt(ln q:Nat):Nat:=Nat.shiftRight (kSer (Jb ln q) 200 0 (KI 2 384) 0) 64
def Gm(c1 c2 D E ln q n:Nat):Bool:=
 (fun s=>(fun t=>(fun x=>Qi (Qi (Y7 (K2 (KI s q) c2) (K2 c1 (KI pA q))) (Y7 (K2 c1 (KI pA q)) (K2 (KI t q) c2))) (BI q s t n 0 x (Nat.succ x))) (Jb (K2 E pA) D)) (Kg (kRt ln q) 1024)) (Nat.sub (kRt ln q) 1024)
theorem IU{c1 c2 D E ln q n:Nat}(hD:0<D)(hc2:0<c2)(hq:0<q)(h:Gm c1 c2 D E ln q n=true):∀i,i<n->YI i q=1->Gap pV pG q (D^q*c2^i) (c1^i*E^q):=by
 obtain⟨s,hs0⟩:∃s,s=kRt ln q-1024:=⟨_,rfl⟩
 obtain⟨t,ht0⟩:∃t,t=kRt ln q+1024:=⟨_,rfl⟩
 have h:((Y7 (s^q*c2) (c1*pA^q)&&Y7 (c1*pA^q) (t^q*c2))&&BI q s t n 0 (E*pA/D) (E*pA/D+1))=true:=by rw[hs0,ht0];exact h
 simp only[YS]at h
 obtain⟨⟨a,b⟩,h⟩:=h
 have:=IW (c1:=c1) (c2:=c2) (D:=D) (E:=E) hD hc2 hq (KC a) (KC b) n 0 _ _ h (by
  unfold kLw
  have k:=YG (XE (E*pA) D) q
  rw[Yq,Yq]at k
  rw[Jk,Jk,Y0,Y2]
  exact k) (by
  unfold kHi
  have h0:E*pA<=(E*pA/D+1)*D:=by
   have:=KP (E*pA) D
   have:=Kj (E*pA) hD
   rw[YM,Y2,Yl (E*pA/D)];omega
  have k:=YG h0 q
  rw[Yq,Yq]at k
  rw[Jk,Jk,Y0,Y2]
  exact k)
 intro i hi hg
 have h9:=this i hi (by rw[KJ];exact hg)
 rw[KJ]at h9
 exact h9
def KV(c1 c2 ln h a n:Nat):Bool:=
 Nat.rec true (fun i ih=>Qi (Gm c1 c2 (KI c2 h) (KI c1 h) ln (Kg a i) (Nat.succ (K2 22 (Kg a i)))) ih) n
theorem IT{c1 c2 ln h a:Nat}(hc2:0<c2)(ha:0<a):∀n,KV c1 c2 ln h a n=true->∀i,i<n->∀r,r<22*(a+i)+1->YI r (a+i)=1->Gap pV pG (a+i) (c2^(h*(a+i)+r)) (c1^(h*(a+i)+r))
 |0,_,i,hi,_,_,_=>absurd hi (J8 _)
 |n+1,hk,i,hi,r,hr,hg=>by
  have hk:(Gm c1 c2 (c2^h) (c1^h) ln (a+n) (22*(a+n)+1)&&KV c1 c2 ln h a n)=true:=hk
  rw[YS]at hk
  rcases YY i n with hin|hin
  ·exact IT hc2 ha n hk.2 i hin r hr hg
  ·have e:i=n:=by omega
   subst e
   have g:=IU (YB hc2) hc2 (by omega) hk.1 r hr hg
   rw[<-Ym,<-Ym,<-Yo,<-Yo,Nat.add_comm r]at g
   exact g
theorem Gap.symm{V G q α β:Nat}(h:Gap V G q α β):Gap V G q β α:=by
 intro u v hu0 hv0 hu hv
 obtain⟨h1,h2⟩:=h v u hv0 hu0 hv hu
 rw[Yl (v^q) α,Yl β (u^q)]at h1 h2
 exact⟨h2,h1⟩
theorem Yhn{α β K:Nat}(hK:K=1048576)(ha:α<=K*pV)(hb:β<=K*pV):Gap pV pG 1 α β:=by
 have hG:K*pV*pV<=pG:=by
  have h20:ePt 20=1048576:=rfl
  have e:ePt 20*ePt 120*ePt 120=ePt 260:=by rw[ePt_add,ePt_add]
  have e2:ePt 260<=ePt 270:=ePt_le (by decide)
  rw[h20,<-hK]at e
  unfold pV pG
  omega
 intro u v hu0 hv0 hu hv
 simp only[QO]
 have a1:=YX hu ha
 have a2:=YX hb hv
 rw[Yl pV]at a1
 constructor
 ·intro h
  have k:=Yp pG (show u*α+1<=β*v from h)
  rw[YM,Y2]at k
  rw[Ka,Y0]
  omega
 ·intro h
  have k:=Yp pG (show β*v+1<=u*α from h)
  rw[YM,Y2]at k
  rw[Ka,Y0]
  omega
theorem kOne{c1 c2 ln L n:Nat}(hc2:0<c2)(h:Gm c1 c2 (KI c2 L) (KI c1 L) ln 1 n=true){i:Nat}(hi:i<n):Gap pV pG 1 (c2^(L+i)) (c1^(L+i)):=by
 have h:Gm c1 c2 (c2^L) (c1^L) ln 1 n=true:=h
 have g:=IU (YB hc2) hc2 (by decide) h i hi (Nat.gcd_one_right _)
 rw[QO,QO,<-Yo,<-Yo,Nat.add_comm i]at g
 exact g
end Go.Proofs.YtlhmikjnholpnaaGreatDoor.LB
